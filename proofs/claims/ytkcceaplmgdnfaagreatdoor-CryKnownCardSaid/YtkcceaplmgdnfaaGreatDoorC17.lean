import Derived.Conc.QuitsD
import Derived.Test.YtkcceaplmgdnfaaGreatDoorC16
set_option linter.all false
namespace Go.bu
open Go.Conc
inductive uD where
 |a0|a2|a4|ae
 |d1|d2|d4|d5|d6|d7
 |w0|w1|we|wa|w2 (c:Nat)|w3|w4|w5
structure pJ(b:Nat)(w:World)(c v m:Nat):Prop where
 cw:w.cell? ⟨b,0,none⟩=some (.int .u64 (dN c v))
 cs:w.cell? ⟨b,1,none⟩=some (.int .u32 m)
 fz:∀i,w.frozen? ⟨b,i,none⟩=false
theorem pJ.aP{b:Nat}{w:World}{c v m:Nat}(h:pJ b w c v m)(c' a:Nat):pJ b (w.setCell ⟨b,0,none⟩ (.int .u64 (dN c' a))) c' a m:=⟨js h.cw,by rw[de (by simp)];exact h.cs,λi=>by rw[m7];exact h.fz i⟩
theorem pJ.Df{b:Nat}{w:World}{c v m:Nat}(h:pJ b w c v m)(a:Nat):pJ b (w.setCell ⟨b,1,none⟩ (.int .u32 a)) c v a:=⟨by rw[de (by simp)];exact h.cw,js h.cs,λi=>by rw[m7];exact h.fz i⟩
section
variable(P:Program)(n:Gd)(b:Nat)(kind:CallKind)
def WT(p:uD)(c:cB)(y:Sy):Prop:=
 match p with
 |.a0=>c=A0 P n b kind
 |.a2=>c=A2 P n b kind
 |.a4=>c=A4 P n b kind (Fl.of y)/\y.c=1
 |.ae=>y.c≠0/\((c=A5 P n b kind (Fl.of y)/\y.c=1)\/(c=A3 P n b kind (Fl.of y)/\y.c≠1))
 |.d1=>c=D1 P n b
 |.d2=>c=D2 P n b
 |.d4=>c=D4 P n b
 |.d5=>c=DE P n b (Fl.of y) 1/\y.c=0
 |.d6=>c=D6 P n b (Fl.of y)/\y.c=0
 |.d7=>c=D7 P n b (Fl.of y)/\y.c=0
 |.w0=>c=W0 P n b kind
 |.w1=>c=W1 P n b kind
 |.we=>(c=WE P n b kind (Fl.of y)/\y.c=0)\/(c=Qx P n b kind (Fl.of y)/\y.c≠0)
 |.wa=>(c=WA P n b kind (Fl.of y)/\y.c=0)\/(c=Qy P n b kind (Fl.of y)/\y.c≠0)
 |.w2 k=>c=WE P n b kind (Fl.of y)/\y.c=k/\k≠0
 |.w3=>c=Qw P n b kind (Fl.of y)/\y.c≠0
 |.w4=>c=W4 P n b kind (Fl.of y)/\y.c≠0
 |.w5=>c=W5 P n b kind (Fl.of y)/\y.c≠0
def pK(p:uD)(cs:List Frame)(g:Goroutine):Prop:=∃c y fr frs,WT P n b kind p c y/\y.ok/\FR y c.1 fr/\lj y c.2 frs/\g=G fr (frs++cs)
def gI(Wd:World->Prop)(p:uD)(cs:List Frame)(a:Goroutine):Prop:=a.status=.running/\∃c,qO P Wd a c/\pK P n b kind p cs c
end
theorem pK.running{P:Program}{n:Gd}{b:Nat}{kind:CallKind}{p:uD}{cs:List Frame}{g:Goroutine}(h:pK P n b kind p cs g):g.status=.running/\g.offers=none:=by obtain⟨c,y,fr,frs,_,_,_,_,rfl⟩:=h;exact⟨rfl,rfl⟩
theorem ym{s:iX}{v:SV}(h:(∃x,aU s=some x)\/(∃x,jL s=some x)):∃s',vz s v=some s':=by
 unfold vz;rcases h with⟨x,h⟩|⟨x,h⟩
 . unfold aU at h
   split at h
   . simp_all
   . cases h
 . unfold jL at h
   split at h
   . simp_all
   . cases h
section
variable{P:Program}{Wd:World->Prop}{y:Sy}{c:cB}{v:SV}{x:Value}{fr:Frame}{frs:List Frame}
theorem ln(h:(∃x,aU c.1=some x)\/(∃x,jL c.1=some x))(f:y.ok)(g:FR y c.1 fr)(d:lj y c.2 frs)(i:SR y v x):
 ∃b a,FR y (next P (Fl.of y) c v).1 b/\lj y (next P (Fl.of y) c v).2 a/\∀cs,qO P Wd (G (fr.finish x) (frs++cs)) (G b (a++cs)):=by
 obtain⟨n,e⟩:=ym (v:=v) h;obtain⟨m,b,a,j,k,l⟩:=kO (Wd:=Wd) (Fl.Bi f) 400 (P:=P) (g.fin e i) d;unfold next
 rw[e];exact⟨b,a,j,k,λcs=>⟨m,l cs⟩⟩
theorem Dh(h:(∃x,aU c.1=some x)\/(∃x,jL c.1=some x))(g:FR y c.1 fr)(d:lj y c.2 frs)(i:c.1.env.all plain=true)(e:c.2.all (·.env.all plain)=true)(j:∀y,SR y v x):
 ∃b a,FR y0 (next P kl c v).1 b/\lj y0 (next P kl c v).2 a/\∀cs,qO P Wd (G (fr.finish x) (frs++cs)) (G b (a++cs)):=by
 obtain⟨p,f⟩:=ym (v:=v) h;have k:kl.At y0:=⟨by decide,by decide,rfl,rfl,rfl,rfl,rfl,by decide⟩;obtain⟨m,b,a,l,n,o⟩:=kO (Wd:=Wd) k 400 (P:=P) ((g.fF i).fin f (j y0)) (d.fF e);unfold next
 rw[f];exact⟨b,a,l,n,λcs=>⟨m,o cs⟩⟩
end
theorem lj.pI{y:Sy}:∀{st:List iX}{frs:List Frame}(ls:List (List Nat)),lj y st frs->lj y (Go.bu.pI st ls) frs
 |[],frs,ls,h=>by rw[h.lE];trivial
 |s::st,frs,[],h=>by obtain⟨f,a,rfl,b,c⟩:=h.cons_inv;exact⟨b.keep [],c.pI []⟩
 |s::st,frs,l::ls,h=>by obtain⟨f,a,rfl,b,c⟩:=h.cons_inv;exact⟨b.keep l,c.pI ls⟩
theorem f10{y:Sy}{a c:Bool}(b:decide (y.c=1)=a)(d:decide (y.c=0)=c):f0 (f1 (Fl.of y) a) c=Fl.of y:=by subst b;subst d;rfl
theorem Vg{y:Sy}{a:Bool}(b:decide (y.c=1)=a):f1 (Fl.of y) a=Fl.of y:=by subst b;rfl
theorem Di{y:Sy}{a:Bool}(b:decide (y.c=0)=a):f0 (Fl.of y) a=Fl.of y:=by subst b;rfl
theorem jN{c:cB}(h:uC c=true):c.1.kind≠.early:=by
 unfold uC at h
 simp_all
section
variable{P:Program}{n:Gd}(C:fG P n)(X:gF P n){b:Nat}{kind:CallKind}{Wd:World->Prop}{cs:List Frame}{g:Goroutine}{w:World}{main:Bool}
variable(hW0:∀w,Wd w->∃v,w.cell? ⟨b,0,none⟩=some v)(hW1:∀w,Wd w->∃v,w.cell? ⟨b,1,none⟩=some v)
include X hW1 in
theorem Oc{y:Sy}{c:cB}{fr:Frame}{frs:List Frame}(h:jL c.1=some (n.tS,n.tU,pt b 1))(a:FR y c.1 fr):qd P Wd (G fr (frs++cs)) (G (fr.finish (.pointer (some ⟨b,1,none⟩))) (frs++cs)):=by obtain⟨t,d,e,f⟩:=X.Vf;exact⟨rfl,λmain w g=>sf a h d e f (hW1 w g)⟩
include X hW0 in
theorem I8{y:Sy}{c:cB}{fr:Frame}{frs:List Frame}(h:jL c.1=some (n.tG,n.tU,pt b 0))(a:FR y c.1 fr):qd P Wd (G fr (frs++cs)) (G (fr.finish (.pointer (some ⟨b,0,none⟩))) (frs++cs)):=by obtain⟨t,d,e,f⟩:=X.Ve;exact⟨rfl,λmain w g=>sf a h d e f (hW0 w g)⟩
theorem qU{f:FuncId}{args:List SV}{iT:Array Value}{y:Sy}{fn:Func}{body:Code}(b:P.funcs[f]?=some fn)(c:fn.body=some body)(d:args.length=iT.size)(e:∀(i:Nat) a,args[i]?=some a->∃x,iT[i]?=some x/\SR y a x):FR y (di P f args kind) (Frame.enter P f iT kind):=by
 refine⟨by simp[di,b,Frame.enter],by simp[di,b,c,Frame.enter],by simp[di,b,Frame.enter],by simp[di,b,Frame.enter,Bb.of],by simp[di,b,Frame.enter],rfl,by simp[di,b,Frame.enter,d],λt=>?_⟩;simp only[di,b,Frame.enter,Option.map_some,Option.getD_some];rw[Array.getD_eq_getD_getElem?,List.getD_eq_getElem?_getD];by_cases g:t<args.length
 . grind
 . rw[Array.getElem?_append_right (by omega),List.getElem?_append_right (by omega),List.getElem?_replicate]
   split<;>trivial
include X in
theorem xA:∃e,qO P Wd (G (Frame.enter P n.add #[.pointer (some ⟨b,0,none⟩),.int .i64 1] kind) cs) e/\pK P n b kind .a0 cs e:=by
 obtain⟨fn,body,f,g,q,r⟩:=X.O9
 have j:FR y0 (di P n.add [pt b 0,i64 1] kind) (Frame.enter P n.add #[.pointer (some ⟨b,0,none⟩),.int .i64 1] kind):=qU f g rfl λi a h=>by
  match i with
  |0=>simp at h;subst h;exact⟨_,rfl,rfl⟩
  |1=>simp at h;subst h;exact⟨_,rfl,rfl⟩
  |i+2=>simp at h
 have k:kl.At y0:=⟨by decide,by decide,rfl,rfl,rfl,rfl,rfl,by decide⟩;obtain⟨m,d,c,l,o,p⟩:=kO (Wd:=Wd) (P:=P) k 400 j (st:=[]) (frs:=[]) trivial;exact⟨_,⟨m,p cs⟩,_,y0,d,c,rfl,qS,l,o,rfl⟩
theorem Dj:kl.At y0:=⟨by decide,by decide,rfl,rfl,rfl,rfl,rfl,by decide⟩
include X in
theorem oa(C:fG P n):∃e,qO P Wd (G (Frame.enter P n.wait #[.pointer (some ⟨b,0,none⟩)] kind) cs) e/\pK P n b kind .w0 cs e:=by
 obtain⟨fn,body,f,g,p,q⟩:=X.I7
 have j:FR y0 (di P n.wait [pt b 0] kind) (Frame.enter P n.wait #[.pointer (some ⟨b,0,none⟩)] kind):=qU f g rfl λi a h=>by
  match i with
  |0=>simp at h;subst h;exact⟨_,rfl,rfl⟩
  |i+1=>simp at h
 obtain⟨m,d,c,k,l,o⟩:=kO (Wd:=Wd) (P:=P) Dj 400 j (st:=[]) (frs:=[]) trivial;exact⟨_,⟨m,o cs⟩,_,y0,d,c,rfl,qS,k.keep [0],l.pI [],rfl⟩
include X hW0 in
theorem vE(C:fG P n):∃f,qO P Wd (G (Frame.enter P n.done #[.pointer (some ⟨b,0,none⟩)] .deferred) cs) f/\pK P n b kind .d1 cs f:=by
 obtain⟨fn,body,l,o,A,B⟩:=X.I6
 have p:FR y0 (di P n.done [pt b 0] .deferred) (Frame.enter P n.done #[.pointer (some ⟨b,0,none⟩)] .deferred):=qU l o rfl λi a h=>by
  match i with
  |0=>simp at h;subst h;exact⟨_,rfl,rfl⟩
  |i+1=>simp at h
 obtain⟨m,q,g,j,r,s⟩:=kO (Wd:=Wd) (P:=P) Dj 400 p (st:=[]) (frs:=[]) trivial;obtain⟨k,t,u⟩:=C.d0 b;obtain⟨e,d,w,y,z⟩:=Dh (P:=P) (Wd:=Wd) (c:=D0 P n b) (v:=pt b 0) (x:=.pointer (some ⟨b,0,none⟩)) (.inr ⟨_,k⟩) j r t u (λ_=>rfl);exact⟨_,qO.trans ⟨m,s cs⟩ (qO.trans (I8 X hW0 (cs:=cs) k j).yf (z cs)),_,y0,e,d,rfl,qS,w,y,rfl⟩
include C X in
theorem TS(h:pK P n b kind .a0 cs g)(j:kind≠.early):∃k,stepG P main g w=.go k w #[⟨.mark .disable,false,true⟩]/\gI P n b kind Wd .a2 cs k:=by
 obtain⟨c,y,fr,frs,rfl,I,l,f,rfl⟩:=h;obtain⟨m,q,r,t⟩:=C.a0 b kind;obtain⟨o,u,z,A⟩:=C.a1 b kind;refine⟨_,dV I1 l m (by rw[t];exact j) X.iF,rfl,?_⟩;obtain⟨d,a,p,B,D⟩:=Dh (P:=P) (Wd:=Wd) (v:=un) (x:=.tuple #[]) (.inl ⟨_,m⟩) l f q (by rw[r];rfl) (λ_=>rfl);obtain⟨i,e,E,F,H⟩:=Dh (P:=P) (Wd:=Wd) (c:=A1 P n b kind) (v:=ff) (x:=.bool false) (.inl ⟨_,o⟩) p B u (by rw[z];rfl) (λ_=>rfl);have hb:qd P Wd (G d (a++cs)) (G (d.finish (.bool false)) (a++cs)):=⟨rfl,λmain w _=>se (s:=(A1 P n b kind).1) p o (by rw[A];exact j) X.MP⟩;exact⟨_,(D cs).trans (hb.yf.trans (H cs)),_,y0,i,e,rfl,qS,E,F,rfl⟩
include C X hW1 in
theorem TU{c v m:Nat}(o:pJ b w c 0 m)(L:c<1000)(h:pK P n b kind .a2 cs g):
 ∃p w',stepG P main g w=.go p w' #[⟨.cell ⟨b,0,none⟩,false,true⟩,⟨.cell ⟨b,0,none⟩,true,true⟩]/\w'=w.setCell ⟨b,0,none⟩ (.int .u64 (dN (c+1:Nat) 0))/\pJ b w' (c+1) 0 m/\(gI P n b kind Wd .a4 cs p\/gI P n b kind Wd .ae cs p):=by
 obtain⟨cf,y,fr,frs,rfl,M,z,q,rfl⟩:=h;obtain⟨A,E,F,G⟩:=C.a2 b kind
 have e:IntKind.u64.wrap (dN c 0+4294967296)=dN (c+1:Nat) 0:=by
  rw[jz (by unfold dN;omega) (by unfold dN;omega)];unfold dN;push_cast;omega
 have i:=n8 (main:=main) (cs:=frs++cs) (w:=w) z A (jN E) X.qT (λx h=>h) o.cw (o.fz 0);rw[e]at i;have d:({y0 with c:=((c+1:Nat):Int)}:Sy).ok:=⟨by show(0:Int)<=2/\(2:Int)<=1000;decide,by show(0:Int)<=((c+1:Nat):Int)/\((c+1:Nat):Int)<=1000;omega⟩;have r:((c+1:Nat):Int)≠0:=by omega
 obtain⟨s,j,t,B,D⟩:=ln (P:=P) (Wd:=Wd) (y:={y0 with c:=((c+1:Nat):Int)}) (v:=.dN 0) (x:=.int .u64 (dN (c+1:Nat) 0)) (.inl ⟨_,A⟩) d (z.fF F) (q.fF G) rfl;refine⟨_,_,i,rfl,o.aP (c+1) 0,?_⟩;by_cases f:((c+1:Nat):Int)=1
 . left
   have H:=Vg (y:={y0 with c:=((c+1:Nat):Int)}) (a:=true) (by simpa using f);have k:=C.a3 b kind (Fl.of {y0 with c:=((c+1:Nat):Int)});rw[H]at k;obtain⟨u,l,I,J,K⟩:=ln (P:=P) (Wd:=Wd) (v:=pt b 1) (x:=.pointer (some ⟨b,1,none⟩)) (.inr ⟨_,k⟩) d t B rfl;exact⟨rfl,_,(D cs).trans ((Oc X hW1 (cs:=cs) k t).yf.trans (K cs)),_,_,u,l,⟨rfl,f⟩,d,I,J,rfl⟩
 . right
   exact⟨rfl,_,D cs,_,_,s,j,⟨r,.inr ⟨rfl,f⟩⟩,d,t,B,rfl⟩
end
section
variable{P:Program}{n:Gd}(C:fG P n)(X:gF P n){b:Nat}{kind:CallKind}{Wd:World->Prop}{cs:List Frame}{g:Goroutine}{w:World}{main:Bool}
variable(hW0:∀w,Wd w->∃v,w.cell? ⟨b,0,none⟩=some v)(hW1:∀w,Wd w->∃v,w.cell? ⟨b,1,none⟩=some v)
theorem zz{y:Sy}(h:y.c≠0):decide (y.c=0)=false:=by grind
include C X in
theorem TV(h:pK P n b kind .a4 cs g)(p:kind≠.early):∃k,stepG P main g w=.go k w #[⟨.mark (.read ⟨b,1,none⟩),false,true⟩]/\gI P n b kind Wd .ae cs k:=by
 obtain⟨c,y,fr,frs,⟨rfl,e⟩,l,m,f,rfl⟩:=h;have q:=Vg (y:=y) (a:=true) (by simpa using e);obtain⟨i,o⟩:=C.a4 b kind (Fl.of y);rw[q]at i o;obtain⟨j,d,r,s,t⟩:=ln (P:=P) (Wd:=Wd) (v:=un) (x:=.tuple #[]) (.inl ⟨_,i⟩) l m f rfl;exact⟨_,ew (λu g h=>by cases h) m i (by rw[o];exact p) X.rd,rfl,_,t cs,_,y,j,d,⟨by rw[e];decide,.inl ⟨rfl,e⟩⟩,l,r,s,rfl⟩
include C X in
theorem TW {e:Frame} {rest:List Frame} (h:pK P n b kind .ae (e :: rest) g) (t:kind ≠ .early):∃ d,stepG P main g w = .go d w #[⟨.mark .enable,false,true⟩]∧d.status = .running∧qO P Wd d (ju kind e rest (.tuple #[])):=by
 obtain⟨c,y,fr,frs,⟨f,i⟩,E,u,j,rfl⟩:=h;obtain⟨fn,body,f1,F,H,v⟩:=X.O9
 have key:qf c.1=some n.en->c.2=[]->c.1.kind=kind->c.1.fn=n.add->∃ d,stepG P main (G fr (frs ++ e :: rest)) w = .go d w #[⟨.mark .enable,false,true⟩]∧d.status = .running∧qO P Wd d (ju kind e rest (.tuple #[])):=fun q x s z=>by
  rw[x] at j;obtain rfl:=j.lE;obtain⟨A,B⟩:=zy (main:=main) (cs:=[] ++ e :: rest) (w:=w) u q X.en
  have k:jA ({ c.1 with defers:=[] }:iX) n.add=true:=by
   unfold jA;unfold qf at q;split at q
   . rename_i g cap as D hd;simp[D,z]
   . cases q
  refine⟨_,A,rfl,?_⟩;have:=km (Wd:=Wd) (c:=e) (rest:=rest) B k f1 v (by show c.1.kind≠_;rw[s];exact t)
  rw[show ({ c.1 with defers:=[] }:iX).kind=kind from s] at this
  exact this.yf
 rcases i with ⟨rfl,i⟩|⟨rfl,i⟩
 . have r:=f10 (y:=y) (a:=true) (c:=false) (by simpa using i) (zz f)
   obtain⟨l,m,o,p⟩:=C.a5 b kind (Fl.of y);rw[r] at l m o p;exact key l m o p
 . have r:=f10 (y:=y) (a:=false) (c:=false) (by simpa using i) (zz f)
   obtain⟨l,m,o,p⟩:=C.a6 b kind (Fl.of y);rw[r] at l m o p;exact key l m o p
include C X in
theorem TX(h:pK P n b kind .d1 cs g):∃f,stepG P main g w=.go f w #[⟨.mark (.releaseMerge ⟨b,0,none⟩),false,true⟩]/\gI P n b kind Wd .d2 cs f:=by
 obtain⟨c,y,fr,frs,rfl,r,i,d,rfl⟩:=h;obtain⟨j,k,l,m⟩:=C.d1 b;obtain⟨e,a,o,p,q⟩:=Dh (P:=P) (Wd:=Wd) (v:=un) (x:=.tuple #[]) (.inl ⟨_,j⟩) i d l m (λ_=>rfl);exact⟨_,ew (λs g h=>by cases h) i j (jN k) X.rel,rfl,_,q cs,_,y0,e,a,rfl,qS,o,p,rfl⟩
include C X in
theorem TY(h:pK P n b kind .d2 cs g):∃j,stepG P main g w=.go j w #[⟨.mark .disable,false,true⟩]/\gI P n b kind Wd .d4 cs j:=by
 obtain⟨c,y,fr,frs,rfl,H,k,f,rfl⟩:=h;obtain⟨l,p,q,r⟩:=C.d2 b;obtain⟨m,t,u,z⟩:=C.d3 b;refine⟨_,dV I1 k l (jN p) X.iF,rfl,?_⟩;obtain⟨d,a,o,A,B⟩:=Dh (P:=P) (Wd:=Wd) (v:=un) (x:=.tuple #[]) (.inl ⟨_,l⟩) k f q r (λ_=>rfl);obtain⟨i,e,D,E,F⟩:=Dh (P:=P) (Wd:=Wd) (c:=D3 P n b) (v:=ff) (x:=.bool false) (.inl ⟨_,m⟩) o A u z (λ_=>rfl);have hb:qd P Wd (G d (a++cs)) (G (d.finish (.bool false)) (a++cs)):=⟨rfl,λmain w _=>se (s:=(D3 P n b).1) o m (jN t) X.MP⟩;exact⟨_,(B cs).trans (hb.yf.trans (F cs)),_,y0,i,e,rfl,qS,D,E,rfl⟩
def jO(P:Program)(a:FuncId)(tmps:Array Value)(todo:List Item):Frame:=⟨a,tmps,todo,[],.returning,.deferred,none⟩
def cd(P:Program):Frame:={(default:Frame)with fn:=P.funcs.size,defers:=[],mode:=.panicking [goexitEntry]}
theorem sm{a:FuncId}{fn:Func}{tmps:Array Value}{todo:List Item}(c:P.funcs[a]?=some fn)(d:fn.results=#[]):QuitsD P 2 0 (G (jO P a tmps todo) [cd P]):=by
 refine .ctl (g':=G (cd P) []) rfl (λw=>?_) (.ctl (g':={G (cd P) []with status:=.finished}) rfl (λw=>?_) ⟨rfl,rfl⟩)
 . simp[G,stepG,unwind,c,results,d,jO,cd,goexitEntry]
   rfl
 . have b:(cd P).catches P=false:=by
    simp[Frame.catches,cd];rfl
   simp[G,stepG,unwind,cd,goexitEntry]at b ⊢;simp[b]
theorem sn{d:Nat}:∀{m k:Nat}{a c:Goroutine},iu P (λ_=>True) m a c->QuitsD P k d c->QuitsD P (k+m) d a
 |0,k,a,c,h,b=>by obtain rfl:=h;exact b
 |m+1,k,a,c,h,b=>by obtain⟨i,⟨e,f⟩,g⟩:=h;exact .ctl e (λw=>f false w trivial) (sn g b)
include X in
theorem vF{c:cB}{y:Sy}{fr:Frame}{frs:List Frame}{a:FuncId}{fn:Func}{tmps:Array Value}{todo:List Item}(o:P.funcs[a]?=some fn)(b:fn.results=#[])(p:y.ok)(j:FR y c.1 fr)(e:lj y c.2 frs)
 (k:qf c.1=some n.en) (q:jA (ll P (Fl.of y) c).1 n.done=true) (r:(ll P (Fl.of y) c).2=[]) (l:(ll P (Fl.of y) c).1.kind=.deferred):∃m,QuitsD P m 1 (G fr (frs++[jO P a tmps todo,cd P])):=by
 obtain⟨_,f⟩:=zy (P:=P) (main:=false) (cs:=frs++[jO P a tmps todo,cd P]) (w:=default) j k X.en;obtain⟨m,g,d,s,t,u⟩:=kO (Wd:=λ_=>True) (P:=P) (Fl.Bi p) 400 f e
 have h:lj y [] d:=by rw[<-r];exact t
 obtain rfl:=h.lE;obtain⟨fd,body,v,B,C,x⟩:=X.I6;have hb:=km (Wd:=λ_=>True) (c:=jO P a tmps todo) (rest:=[cd P]) s q v x (by show(ll P (Fl.of y) c).1.kind≠_;rw[l];decide)
 have i:ju (sgo P (Fl.of y) 400 {c.1 with defers:=[]} c.2).1.kind (jO P a tmps todo) [cd P] (.tuple #[])=G (jO P a tmps todo) [cd P]:=by rw[show(sgo P (Fl.of y) 400 {c.1 with defers:=[]} c.2).1.kind=.deferred from l];rfl
 rw[i]at hb;have z:QuitsD P (2+1) 0 (G g [jO P a tmps todo,cd P]):=.ctl rfl (λw=>hb.2 false w trivial) (sm o b)
 have A:=sn (u [jO P a tmps todo,cd P]) z;exact⟨_,.said ⟨.mark .enable,false,true⟩ rfl rfl (λw=>(zy (P:=P) (main:=false) (cs:=frs++[jO P a tmps todo,cd P]) (w:=w) j k X.en).1) A⟩
def Gone(P:Program)(Wd:World->Prop)(a:Goroutine):Prop:=∃m,QuitsD P m 1 a
theorem zB{m k:Nat}{a c:Goroutine}(h:iu P (λ_=>True) m a c)(b:QuitsD P k 1 c):Gone P Wd a:=⟨_,sn h b⟩
include C X in
theorem TZ{k v m:Nat}{o:FuncId}{fn:Func}{tmps:Array Value}{todo:List Item}(N:P.funcs[o]?=some fn)(f:fn.results=#[])(G:pJ b w (k+1) v m)(R:k<1000)(S:v<=1)(h:pK P n b kind .d4 [jO P o tmps todo,cd P] g):
 ∃H w',stepG P main g w=.go H w' #[⟨.cell ⟨b,0,none⟩,false,true⟩,⟨.cell ⟨b,0,none⟩,true,true⟩]/\w'=w.setCell ⟨b,0,none⟩ (.int .u64 (dN k v))/\pJ b w' k v m/\((k=0/\v=1/\gI P n b kind Wd .d5 [jO P o tmps todo,cd P] H)\/(¬(k=0/\v=1)/\Gone P Wd H)):=by
 obtain⟨cf,y,fr,frs,rfl,T,E,i,rfl⟩:=h;obtain⟨F,O,I,J⟩:=C.d4 b
 have e:IntKind.u64.wrap (dN (k+1:Nat) v+18446744069414584320)=dN k v:=by
  have:dN (k+1:Nat) v+18446744069414584320=dN k v+18446744073709551616:=by unfold dN;push_cast;omega
  rw[this];simp[IntKind.wrap,IntKind.bits,IntKind.signed];unfold dN;omega
 have p:=n8 (main:=main) (cs:=frs++[jO P o tmps todo,cd P]) (w:=w) E F (jN O) X.qT (λx h=>h) G.cw (G.fz 0)
 rw[e]at p;have a:({y0 with c:=(k:Int)}:Sy).ok:=⟨by show(0:Int)<=2/\(2:Int)<=1000;decide,by show(0:Int)<=(k:Int)/\(k:Int)<=1000;omega⟩
 refine⟨_,_,p,rfl,G.aP k v,?_⟩;have q:v=0\/v=1:=by omega
 rcases q with rfl|rfl
 . refine .inr ⟨by omega,?_⟩
   obtain⟨l,d,r,s,t⟩:=ln (P:=P) (Wd:=λ_=>True) (y:={y0 with c:=(k:Int)}) (v:=.dN 0) (x:=.int .u64 (dN k 0)) (.inl ⟨_,F⟩) a (E.fF I) (i.fF J) rfl
   have u:=C.d5 b (Fl.of {y0 with c:=(k:Int)}) (decide ((k:Int)=0))
   obtain⟨z,A,B⟩:=C.Vb b (Fl.of {y0 with c:=(k:Int)}) (decide ((k:Int)=0))
   rw[Di rfl]at u z A B;obtain⟨Q,K⟩:=vF X N f a r s u z A B;obtain⟨j,L⟩:=t [jO P o tmps todo,cd P];exact zB L K
 . by_cases D:k=0
   . refine .inl ⟨D,rfl,?_⟩
     obtain⟨l,d,r,s,t⟩:=ln (P:=P) (Wd:=Wd) (y:={y0 with c:=(k:Int)}) (v:=.dN 1) (x:=.int .u64 (dN k 1)) (.inl ⟨_,F⟩) a (E.fF I) (i.fF J) rfl
     exact⟨rfl,_,t _,_,_,l,d,⟨rfl,by show(k:Int)=0;omega⟩,a,r,s,rfl⟩
   . refine .inr ⟨by omega,?_⟩
     obtain⟨l,d,r,s,t⟩:=ln (P:=P) (Wd:=λ_=>True) (y:={y0 with c:=(k:Int)}) (v:=.dN 1) (x:=.int .u64 (dN k 1)) (.inl ⟨_,F⟩) a (E.fF I) (i.fF J) rfl
     have M:decide ((k:Int)=0)=false:=by simpa using D
     have u:=C.d6 b (Fl.of {y0 with c:=(k:Int)})
     obtain⟨z,A,B⟩:=C.Vd b (Fl.of {y0 with c:=(k:Int)})
     rw[Di M]at u z A B;obtain⟨Q,K⟩:=vF X N f a r s u z A B;obtain⟨j,L⟩:=t [jO P o tmps todo,cd P];exact zB L K
include C X in
theorem T2{m:Nat}(q:pJ b w 0 1 m)(h:pK P n b kind .d5 cs g):∃k,stepG P main g w=.go k w #[⟨.cell ⟨b,0,none⟩,false,true⟩]/\gI P n b kind Wd .d6 cs k:=by
 obtain⟨c,y,fr,frs,⟨rfl,e⟩,l,o,f,rfl⟩:=h;have r:=Di (y:=y) (a:=true) (by simpa using e)
 obtain⟨i,p⟩:=C.d7 b (Fl.of y);rw[r]at i p;have s:SR y (.dN 1) (.int .u64 (dN 0 1)):=by show _=Value.int .u64 (dN y.c 1);rw[e]
 obtain⟨j,d,t,u,v⟩:=ln (P:=P) (Wd:=Wd) (.inl ⟨_,i⟩) l o f s;exact⟨_,sk o i (jN p) X.uh q.cw,rfl,_,v cs,_,y,j,d,⟨rfl,e⟩,l,t,u,rfl⟩
include C X in
theorem T3{m:Nat}(e:pJ b w 0 1 m)(h:pK P n b kind .d6 cs g):∃k w',stepG P main g w=.go k w' #[⟨.cell ⟨b,0,none⟩,true,true⟩]/\w'=w.setCell ⟨b,0,none⟩ (.int .u64 (dN 0 0))/\pJ b w' 0 0 m/\gI P n b kind Wd .d7 cs k:=by
 obtain⟨c,y,fr,frs,⟨rfl,l⟩,o,p,f,rfl⟩:=h;have r:=Di (y:=y) (a:=true) (by simpa using l);obtain⟨i,q⟩:=C.d8 b (Fl.of y);rw[r]at i q;obtain⟨j,d,s,t,u⟩:=ln (P:=P) (Wd:=Wd) (v:=un) (x:=.tuple #[]) (.inl ⟨_,i⟩) o p f rfl;exact⟨_,_,Gc p i (jN q) X.Ge e.cw (e.fz 0),rfl,e.aP 0 0,rfl,_,u cs,_,y,j,d,⟨rfl,l⟩,o,s,t,rfl⟩
include C X in
theorem T4{v m:Nat}{k:FuncId}{fn:Func}{tmps:Array Value}{todo:List Item}(E:P.funcs[k]?=some fn)(d:fn.results=#[])(l:pJ b w 0 v m)(M:m<=1000)(h:pK P n b kind .d7 [jO P k tmps todo,cd P] g):
 ∃q w',stepG P main g w=.go q w' (semEvents ⟨b,1,none⟩)/\w'=w.setCell ⟨b,1,none⟩ (.int .u32 (m+1:Nat))/\pJ b w' 0 v (m+1)/\Gone P Wd q:=by
 obtain⟨c,y,fr,frs,⟨rfl,F⟩,r,s,o,rfl⟩:=h;have f:=Di (y:=y) (a:=true) (by simpa using F)
 obtain⟨p,t⟩:=C.d9 b (Fl.of y);rw[f]at p t;have i:=m5 (main:=main) (cs:=frs++[jO P k tmps todo,cd P]) (w:=w) s p (jN t) X.m6 l.cs (l.fz 1);have e:IntKind.u32.wrap ((m:Int)+1)=((m+1:Nat):Int):=by rw[IntKind.wrap_u32];omega
 rw[e]at i;obtain⟨G,u,H,I,J⟩:=ln (P:=P) (Wd:=λ_=>True) (v:=un) (x:=.tuple #[]) (.inl ⟨_,p⟩) r s o rfl
 have z:=C.da b (Fl.of y);obtain⟨A,B,D⟩:=C.db b (Fl.of y);rw[f]at z A B D;obtain⟨N,K⟩:=vF X E d r H I z A B D;obtain⟨j,L⟩:=J [jO P k tmps todo,cd P];exact⟨_,_,i,rfl,l.Df (m+1),zB L K⟩
end
section
variable{P:Program}{n:Gd}(C:fG P n)(X:gF P n){b:Nat}{kind:CallKind}{Wd:World->Prop}{cs:List Frame}{g:Goroutine}{w:World}{main:Bool}
variable(hW0:∀w,Wd w->∃v,w.cell? ⟨b,0,none⟩=some v)(hW1:∀w,Wd w->∃v,w.cell? ⟨b,1,none⟩=some v)
include C X in
theorem T5(h:pK P n b kind .w0 cs g)(k:kind≠.early):∃f,stepG P main g w=.go f w #[⟨.mark .disable,false,true⟩]/\gI P n b kind Wd .w1 cs f:=by
 obtain⟨c,y,fr,frs,rfl,s,i,d,rfl⟩:=h;obtain⟨j,l,m,o⟩:=C.w0 b kind;obtain⟨e,a,p,q,r⟩:=Dh (P:=P) (Wd:=Wd) (v:=un) (x:=.tuple #[]) (.inl ⟨_,j⟩) i d l (by rw[m];rfl) (λ_=>rfl);exact⟨_,dV I1 i j (by rw[o];exact k) X.iF,rfl,_,r cs,_,y0,e,a,rfl,qS,p.keep [5],q.pI [[0]],rfl⟩
include C X in
theorem T6{c m:Nat}(r:pJ b w c 0 m)(z:c<=1000)(h:pK P n b kind .w1 cs g):
 ∃f,stepG P main g w=.go f w #[⟨.cell ⟨b,0,none⟩,false,true⟩]/\((c=0/\gI P n b kind Wd .we cs f)\/(c≠0/\gI P n b kind Wd (.w2 c) cs f)):=by
 obtain⟨cf,y,fr,frs,rfl,A,k,i,rfl⟩:=h;obtain⟨l,s,t,u⟩:=C.w1 b kind;have d:({y0 with c:=(c:Int)}:Sy).ok:=⟨by show(0:Int)<=2/\(2:Int)<=1000;decide,by show(0:Int)<=(c:Int)/\(c:Int)<=1000;omega⟩;obtain⟨e,a,o,p,q⟩:=ln (P:=P) (Wd:=Wd) (y:={y0 with c:=(c:Int)}) (v:=.dN 0) (x:=.int .u64 (dN c 0)) (.inl ⟨_,l⟩) d (k.fF t) (i.fF u) rfl;refine⟨_,sk k l (jN s) X.uh r.cw,?_⟩;by_cases j:c=0
 . exact .inl ⟨j,rfl,_,q cs,_,_,e,a,.inl ⟨rfl,by show(c:Int)=0;omega⟩,d,o,p,rfl⟩
 . exact .inr ⟨j,rfl,_,q cs,_,_,e,a,⟨rfl,rfl,j⟩,d,o,p,rfl⟩
include C X hW0 in
theorem T7(h:pK P n b kind .we cs g)(D:kind≠.early):∃E,stepG P main g w=.go E w #[⟨.mark .enable,false,true⟩]/\gI P n b kind Wd .wa cs E:=by
 obtain⟨c,y,fr,frs,e,k,q,l,rfl⟩:=h;rcases e with⟨rfl,e⟩|⟨rfl,e⟩
 . have r:=Di (y:=y) (a:=true) (by simpa using e)
   obtain⟨f,m⟩:=C.w2 b kind (Fl.of y);have i:=C.w3 b kind (Fl.of y);rw[r]at f m i;obtain⟨s,o,p,t,u⟩:=ln (P:=P) (Wd:=Wd) (v:=un) (x:=.tuple #[]) (.inl ⟨_,f⟩) k q l rfl;obtain⟨j,d,z,A,B⟩:=ln (P:=P) (Wd:=Wd) (c:=WC P n b kind (Fl.of y)) (v:=pt b 0) (x:=.pointer (some ⟨b,0,none⟩)) (.inr ⟨_,i⟩) k p t rfl;exact⟨_,dV I2 q f (by rw[m];exact D) X.en,rfl,_,(u cs).trans ((I8 X hW0 (c:=WC P n b kind (Fl.of y)) (cs:=cs) i p).yf.trans (B cs)),_,y,j,d,.inl ⟨rfl,e⟩,k,z,A,rfl⟩
 . have r:=Di (y:=y) (a:=false) (zz e)
   obtain⟨f,m⟩:=C.wc b kind (Fl.of y);have i:=C.wd b kind (Fl.of y);rw[r]at f m i;obtain⟨s,o,p,t,u⟩:=ln (P:=P) (Wd:=Wd) (v:=un) (x:=.tuple #[]) (.inl ⟨_,f⟩) k q l rfl;obtain⟨j,d,z,A,B⟩:=ln (P:=P) (Wd:=Wd) (c:=RI P n b kind (Fl.of y)) (v:=pt b 0) (x:=.pointer (some ⟨b,0,none⟩)) (.inr ⟨_,i⟩) k p t rfl;exact⟨_,dV I2 q f (by rw[m];exact D) X.en,rfl,_,(u cs).trans ((I8 X hW0 (c:=RI P n b kind (Fl.of y)) (cs:=cs) i p).yf.trans (B cs)),_,y,j,d,.inr ⟨rfl,e⟩,k,z,A,rfl⟩
include C X in
theorem RJ{j:Frame}{rest:List Frame}(h:pK P n b kind .wa (j::rest) g)(q:kind≠.early):∃t,stepG P main g w=.go t w #[⟨.mark (.acquire ⟨b,0,none⟩),false,true⟩]/\t.status=.running/\qO P Wd t (ju kind j rest (.tuple #[])):=by
 obtain⟨c,y,fr,frs,k,E,r,l,rfl⟩:=h;obtain⟨fn,body,f1,H,I,F⟩:=X.I7;rcases k with⟨rfl,k⟩|⟨rfl,k⟩
 . have u:=Di (y:=y) (a:=true) (by simpa using k)
   obtain⟨f,m⟩:=C.w4 b kind (Fl.of y);obtain⟨o,p,i⟩:=C.w5 b kind (Fl.of y);rw[u]at f m o p i;obtain⟨z,d,A,B,D⟩:=ln (P:=P) (Wd:=Wd) (v:=un) (x:=.tuple #[]) (.inl ⟨_,f⟩) E r l rfl;have e:lj y (WB P n b kind (Fl.of y)).2 d:=B;rw[p]at e;obtain rfl:=e.lE;have hb:=km (Wd:=Wd) (c:=j) (rest:=rest) (s:=(WB P n b kind (Fl.of y)).1) A o f1 F (by rw[i];exact q);rw[i]at hb;exact⟨_,ew (λG g h=>by cases h) r f (by rw[m];exact q) X.acq,rfl,(D (j::rest)).trans hb.yf⟩
 . have u:=Di (y:=y) (a:=false) (zz k)
   obtain⟨f,m⟩:=C.we b kind (Fl.of y);obtain⟨o,p,i⟩:=C.wf b kind (Fl.of y);rw[u]at f m o p i;obtain⟨z,d,A,B,D⟩:=ln (P:=P) (Wd:=Wd) (v:=un) (x:=.tuple #[]) (.inl ⟨_,f⟩) E r l rfl;have e:lj y (Ob P n b kind (Fl.of y)).2 d:=B;rw[p]at e;obtain rfl:=e.lE;have hb:=km (Wd:=Wd) (c:=j) (rest:=rest) (s:=(Ob P n b kind (Fl.of y)).1) A o f1 F (by rw[i];exact q);rw[i]at hb;exact⟨_,ew (λG g h=>by cases h) r f (by rw[m];exact q) X.acq,rfl,(D (j::rest)).trans hb.yf⟩
theorem MQ{c c' v a:Nat}(d:v<=1000)(b:a<=1000):dN c v=dN c' a↔(c=c'/\v=a):=by unfold dN;omega
include C X hW1 in
theorem T8{k c m:Nat}(l:pJ b w c 0 m)(h:pK P n b kind (.w2 k) cs g):
 (c=k/\∃o w',stepG P main g w=.go o w' #[⟨.cell ⟨b,0,none⟩,false,true⟩,⟨.cell ⟨b,0,none⟩,true,true⟩]/\w'=w.setCell ⟨b,0,none⟩ (.int .u64 (dN k 1))/\pJ b w' k 1 m/\gI P n b kind Wd .w3 cs o)\/
 (c≠k/\∃o,stepG P main g w=.go o w #[⟨.cell ⟨b,0,none⟩,false,true⟩]/\gI P n b kind Wd .w1 cs o):=by
 obtain⟨cf,y,fr,frs,⟨rfl,K,L⟩,p,z,q,rfl⟩:=h;have r:y.c≠0:=by rw[K];omega
 have D:=Di (y:=y) (a:=false) (zz r);obtain⟨s,E⟩:=C.w6 b kind (Fl.of y);rw[D]at s E
 have A:∀j:Nat,∀x,SR y (.dN j) x->x=.int .u64 (dN k j):=λj x F=>by have F:x=.int .u64 (dN y.c j):=F;rw[F,K]
 by_cases f:c=k
 . subst f
   refine .inl ⟨rfl,_,_,fT z s (jN E) X.vD (A 0) (A 1) l.cw (l.fz 0),rfl,l.aP c 1,rfl,?_⟩;have i:=C.w8 b kind (Fl.of y);rw[D]at i;obtain⟨t,d,B,G,H⟩:=ln (P:=P) (Wd:=Wd) (v:=tt) (x:=.bool true) (.inl ⟨_,s⟩) p z q rfl;obtain⟨I,u,M,N,O⟩:=ln (P:=P) (Wd:=Wd) (c:=W3 P n b kind (Fl.of y)) (v:=pt b 1) (x:=.pointer (some ⟨b,1,none⟩)) (.inr ⟨_,i⟩) p B G rfl;exact⟨_,(H cs).trans ((Oc X hW1 (c:=W3 P n b kind (Fl.of y)) (cs:=cs) i B).yf.trans (O cs)),_,y,I,u,⟨rfl,r⟩,p,M,N,rfl⟩
 . have J:¬dN c 0=dN k 0:=λe=>f ((MQ (by omega) (by omega)).1 e).1
   refine .inr ⟨f,_,gE z s (jN E) X.vD (A 0) (A 1) l.cw (l.fz 0) J,rfl,?_⟩;have i:=C.w7 b kind (Fl.of y);rw[D]at i;obtain⟨t,d,B,G,H⟩:=ln (P:=P) (Wd:=Wd) (v:=ff) (x:=.bool false) (.inl ⟨_,s⟩) p z q rfl;have Q:=B.keep [5];have R:=G.pI [[0]];refine⟨_,H cs,W1 P n b kind,y,t,d,rfl,p,?_,?_,rfl⟩
   . rw[<-i];exact Q
   . rw[<-i];exact R
include C X in
theorem T9(h:pK P n b kind .w3 cs g)(p:kind≠.early):∃j,stepG P main g w=.go j w #[⟨.mark (.write ⟨b,1,none⟩),false,true⟩]/\gI P n b kind Wd .w4 cs j:=by obtain⟨c,y,fr,frs,⟨rfl,k⟩,l,m,e,rfl⟩:=h;have q:=Di (y:=y) (a:=false) (zz k);obtain⟨f,o⟩:=C.w9 b kind (Fl.of y);rw[q]at f o;obtain⟨i,d,r,s,t⟩:=ln (P:=P) (Wd:=Wd) (v:=un) (x:=.tuple #[]) (.inl ⟨_,f⟩) l m e rfl;exact⟨_,ew (λu g h=>by cases h) m f (by rw[o];exact p) X.wr,rfl,_,t cs,_,y,i,d,⟨rfl,k⟩,l,r,s,rfl⟩
include C X in
theorem Ua{c v m:Nat}(i:pJ b w c v m)(D:m≠0)(h:pK P n b kind .w4 cs g)(t:kind≠.early):
 ∃o w',stepG P main g w=.go o w' (semEvents ⟨b,1,none⟩)/\w'=w.setCell ⟨b,1,none⟩ (.int .u32 (m-1:Nat))/\pJ b w' c v (m-1)/\gI P n b kind Wd .w5 cs o:=by
 obtain⟨cf,y,fr,frs,⟨rfl,p⟩,q,r,j,rfl⟩:=h;have u:=Di (y:=y) (a:=false) (zz p);obtain⟨k,s⟩:=C.wa b kind (Fl.of y);rw[u]at k s;have d:=qQ (main:=main) (cs:=frs++cs) (w:=w) (n:=(m:Int)) r k (by rw[s];exact t) X.Dd i.cs (by omega) (i.fz _);have e:((m:Int)-1)=((m-1:Nat):Int):=by omega
 rw[e]at d;obtain⟨l,f,z,A,B⟩:=ln (P:=P) (Wd:=Wd) (v:=un) (x:=.tuple #[]) (.inl ⟨_,k⟩) q r j rfl;exact⟨_,_,d,rfl,i.Df (m-1),rfl,_,B cs,_,y,l,f,⟨rfl,p⟩,q,z,A,rfl⟩
include C X in
theorem RL{c v:Nat}(e:pJ b w c v 0)(h:pK P n b kind .w4 cs g):stepG P main g w=.go {g with status:=.blocked} w #[]:=by obtain⟨cf,y,fr,frs,⟨rfl,f⟩,m,i,j,rfl⟩:=h;have k:=Di (y:=y) (a:=false) (zz f);obtain⟨d,l⟩:=C.wa b kind (Fl.of y);rw[k]at d l;exact yk i d X.Dd e.cs
include C X in
theorem Ub{m:Nat}(r:pJ b w 0 0 m)(h:pK P n b kind .w5 cs g):∃k,stepG P main g w=.go k w #[⟨.cell ⟨b,0,none⟩,false,true⟩]/\gI P n b kind Wd .we cs k:=by obtain⟨c,y,fr,frs,⟨rfl,l⟩,o,p,e,rfl⟩:=h;have s:=Di (y:=y) (a:=false) (zz l);obtain⟨f,q⟩:=C.wb b kind (Fl.of y);rw[s]at f q;have i:=sk (main:=main) (cs:=frs++cs) p f (jN q) X.uh r.cw;obtain⟨j,d,t,u,z⟩:=ln (P:=P) (Wd:=Wd) (v:=u64 0) (x:=.int .u64 0) (.inl ⟨_,f⟩) o p e rfl;exact⟨_,i,rfl,_,z cs,_,y,j,d,.inr ⟨rfl,l⟩,o,t,u,rfl⟩
end
structure lq(P:Program)(n:xy):Prop where
 lock:∃fn body,P.funcs[n.lock]?=some fn/\fn.body=some body/\fn.ntmps=6/\fn.results=#[]
 unlock:∃fn body,P.funcs[n.unlock]?=some fn/\fn.body=some body/\fn.ntmps=6/\fn.results=#[]
section
variable{P:Program}{n:xy}(C:eY P n)(X:eZ P n)(F:lq P n){b o:Nat}{kind:CallKind}{Wd:World->Prop}{cs:List Frame}{g:Goroutine}{w:World}{main:Bool}
include F in
theorem pL:∃a,qO P Wd (G (Frame.enter P n.lock #[.pointer (some ⟨b,o,none⟩)] kind) cs) a/\mO P n b o kind .ld cs a:=by obtain⟨fn,body,c,d,e,f⟩:=F.lock;exact Dg ⟨fn,body,c,d,e⟩
include F in
theorem nJ:∃e,qO P Wd (G (Frame.enter P n.unlock #[.pointer (some ⟨b,o,none⟩)] kind) cs) e/\mO P n b o kind .E0 cs e:=by
 obtain⟨fn,body,f,g,q,r⟩:=F.unlock
 have j:FR y0 (di P n.unlock [pt b o] kind) (Frame.enter P n.unlock #[.pointer (some ⟨b,o,none⟩)] kind):=qU f g rfl λi a h=>by
  match i with
  |0=>simp at h;subst h;exact⟨_,rfl,rfl⟩
  |i+1=>simp at h
 obtain⟨m,d,c,k,l,p⟩:=kO (Wd:=Wd) (P:=P) Dj 400 j (st:=[]) (frs:=[]) trivial;exact⟨_,⟨m,p cs⟩,_,y0,d,c,rfl,qS,k.keep [0,5],l.keep [],rfl⟩
include F in
theorem qV{c:Frame}{rest:List Frame}(h:mO P n b o kind .back (c::rest) g)(e:kind≠.early):qO P Wd g (ju kind c rest (.tuple #[])):=by obtain⟨cf,y,fr,frs,rfl,l,i,a,rfl⟩:=h;obtain⟨fn,body,j,m,p,k⟩:=F.lock;have d:lj y [] frs:=a;obtain rfl:=d.lE;exact(km (Wd:=Wd) (c:=c) (rest:=rest) (s:=(BK n kind).1) (f:=n.lock) i (by simp[BK,jA]) j k e).yf
include F in
theorem kQ{c:Frame}{rest:List Frame}(h:mO P n b o kind .Bj (c::rest) g)(e:kind≠.early):qO P Wd g (ju kind c rest (.tuple #[])):=by obtain⟨cf,y,fr,frs,rfl,l,i,a,rfl⟩:=h;obtain⟨fn,body,j,m,p,k⟩:=F.unlock;have d:lj y [] frs:=a;obtain rfl:=d.lE;exact(km (Wd:=Wd) (c:=c) (rest:=rest) (s:=(Ro n kind).1) (f:=n.unlock) i (by simp[Ro,jA]) j k e).yf
end
end Go.bu
