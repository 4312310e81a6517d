import Derived.Conc.QuitsD
import Derived.Test.YtldmpfccgajobaaGreatDoorV11
set_option linter.all false
namespace Go.bG
open Go.Conc
inductive sP where
 |a0|a2|a4|ae
 |d1|d2|d4|d5|d6|d7
 |w0|w1|we|wa|w2 (c:Nat)|w3|w4|w5
structure oq(b:Nat)(w:World)(c v m:Nat):Prop where
 cw:w.cell? ⟨b,0,none⟩=some (.int .u64 (dm c v))
 cs:w.cell? ⟨b,1,none⟩=some (.int .u32 m)
 fz:∀i,w.frozen? ⟨b,i,none⟩=false
theorem oq.aD{b:Nat}{w:World}{c v m:Nat}(h:oq b w c v m)(c' a:Nat):oq b (w.setCell ⟨b,0,none⟩ (.int .u64 (dm c' a))) c' a m:=⟨iK h.cw,by rw[dt (by simp)];exact h.cs,λi=>by rw[mg];exact h.fz i⟩
theorem oq.Bs{b:Nat}{w:World}{c v m:Nat}(h:oq b w c v m)(a:Nat):oq b (w.setCell ⟨b,1,none⟩ (.int .u32 a)) c v a:=⟨by rw[dt (by simp)];exact h.cw,iK h.cs,λi=>by rw[mg];exact h.fz i⟩
section
variable(P:Program)(n:FJ)(b:Nat)(kind:CallKind)
def Sz(p:sP)(c:bT)(y:Sy):Prop:=
 match p with
 |.a0=>c=A0 P n b kind
 |.a2=>c=A2 P n b kind
 |.a4=>c=A4 P n b kind (Fl.of y)/\y.c=1
 |.ae=>y.c≠0/\((c=A5 P n b kind (Fl.of y)/\y.c=1)\/(c=A3 P n b kind (Fl.of y)/\y.c≠1))
 |.d1=>c=D1 P n b
 |.d2=>c=D2 P n b
 |.d4=>c=D4 P n b
 |.d5=>c=DE P n b (Fl.of y) 1/\y.c=0
 |.d6=>c=D6 P n b (Fl.of y)/\y.c=0
 |.d7=>c=D7 P n b (Fl.of y)/\y.c=0
 |.w0=>c=W0 P n b kind
 |.w1=>c=W1 P n b kind
 |.we=>(c=WE P n b kind (Fl.of y)/\y.c=0)\/(c=Na P n b kind (Fl.of y)/\y.c≠0)
 |.wa=>(c=WA P n b kind (Fl.of y)/\y.c=0)\/(c=Nb P n b kind (Fl.of y)/\y.c≠0)
 |.w2 k=>c=WE P n b kind (Fl.of y)/\y.c=k/\k≠0
 |.w3=>c=M9 P n b kind (Fl.of y)/\y.c≠0
 |.w4=>c=W4 P n b kind (Fl.of y)/\y.c≠0
 |.w5=>c=W5 P n b kind (Fl.of y)/\y.c≠0
def ot(p:sP)(cs:List Frame)(g:Goroutine):Prop:=∃c y fr frs,Sz P n b kind p c y/\y.ok/\FR y c.1 fr/\kg y c.2 frs/\g=G fr (frs++cs)
def fP(Wd:World->Prop)(p:sP)(cs:List Frame)(a:Goroutine):Prop:=a.status=.running/\∃c,pG P Wd a c/\ot P n b kind p cs c
end
theorem ot.running{P:Program}{n:FJ}{b:Nat}{kind:CallKind}{p:sP}{cs:List Frame}{g:Goroutine}(h:ot P n b kind p cs g):g.status=.running/\g.offers=none:=by obtain⟨c,y,fr,frs,_,_,_,_,rfl⟩:=h;exact⟨rfl,rfl⟩
theorem wq{s:iq}{v:SV}(h:(∃x,aM s=some x)\/(∃x,jn s=some x)):∃s',tV s v=some s':=by
 unfold tV;rcases h with⟨x,h⟩|⟨x,h⟩
 . unfold aM at h
   split at h
   . rename_i ops i rest k b a;rw[a];exact⟨_,rfl⟩
   . cases h
 . unfold jn at h
   split at h
   . rename_i ops i rest k b a;rw[a];exact⟨_,rfl⟩
   . cases h
section
variable{P:Program}{Wd:World->Prop}{y:Sy}{c:bT}{v:SV}{x:Value}{fr:Frame}{frs:List Frame}
theorem ki(h:(∃x,aM c.1=some x)\/(∃x,jn c.1=some x))(f:y.ok)(g:FR y c.1 fr)(d:kg y c.2 frs)(i:SR y v x):
 ∃b a,FR y (next P (Fl.of y) c v).1 b/\kg y (next P (Fl.of y) c v).2 a/\∀cs,pG P Wd (G (fr.finish x) (frs++cs)) (G b (a++cs)):=by
 obtain⟨n,e⟩:=wq (v:=v) h;obtain⟨m,b,a,j,k,l⟩:=jW (Wd:=Wd) (Fl.zo f) 400 (P:=P) (g.fin e i) d;unfold next
 rw[e];exact⟨b,a,j,k,λcs=>⟨m,l cs⟩⟩
theorem Bu(h:(∃x,aM c.1=some x)\/(∃x,jn c.1=some x))(g:FR y c.1 fr)(d:kg y c.2 frs)(i:c.1.env.all plain=true)(e:c.2.all (·.env.all plain)=true)(j:∀y,SR y v x):
 ∃b a,FR y0 (next P jH c v).1 b/\kg y0 (next P jH c v).2 a/\∀cs,pG P Wd (G (fr.finish x) (frs++cs)) (G b (a++cs)):=by
 obtain⟨p,f⟩:=wq (v:=v) h;have k:jH.At y0:=⟨by decide,by decide,rfl,rfl,rfl,rfl,rfl,by decide⟩;obtain⟨m,b,a,l,n,o⟩:=jW (Wd:=Wd) k 400 (P:=P) ((g.fg i).fin f (j y0)) (d.fg e);unfold next
 rw[f];exact⟨b,a,l,n,λcs=>⟨m,o cs⟩⟩
end
theorem kg.oo{y:Sy}:∀{st:List iq}{frs:List Frame}(ls:List (List Nat)),kg y st frs->kg y (Go.bG.oo st ls) frs
 |[],frs,ls,h=>by rw[h.jw];trivial
 |s::st,frs,[],h=>by obtain⟨f,a,rfl,b,c⟩:=h.cons_inv;exact⟨b.keep [],c.oo []⟩
 |s::st,frs,l::ls,h=>by obtain⟨f,a,rfl,b,c⟩:=h.cons_inv;exact⟨b.keep l,c.oo ls⟩
theorem f10{y:Sy}{a c:Bool}(b:decide (y.c=1)=a)(d:decide (y.c=0)=c):f0 (f1 (Fl.of y) a) c=Fl.of y:=by subst b;subst d;rfl
theorem Rn{y:Sy}{a:Bool}(b:decide (y.c=1)=a):f1 (Fl.of y) a=Fl.of y:=by subst b;rfl
theorem Bv{y:Sy}{a:Bool}(b:decide (y.c=0)=a):f0 (Fl.of y) a=Fl.of y:=by subst b;rfl
theorem jp{c:bT}(h:sO c=true):c.1.kind≠.early:=by
 unfold sO at h;have:c.1.kind=.normal:=by simpa using h
 rw[this];decide
section
variable{P:Program}{n:FJ}(C:iu P n)(X:jt P n){b:Nat}{kind:CallKind}{Wd:World->Prop}{cs:List Frame}{g:Goroutine}{w:World}{main:Bool}
variable(hW0:∀w,Wd w->∃v,w.cell? ⟨b,0,none⟩=some v)(hW1:∀w,Wd w->∃v,w.cell? ⟨b,1,none⟩=some v)
include X hW1 in
theorem La{y:Sy}{c:bT}{fr:Frame}{frs:List Frame}(h:jn c.1=some (n.tS,n.tU,pt b 1))(a:FR y c.1 fr):oP P Wd (G fr (frs++cs)) (G (fr.finish (.pointer (some ⟨b,1,none⟩))) (frs++cs)):=by obtain⟨t,d,e,f⟩:=X.Rm;exact⟨rfl,λmain w g=>qL a h d e f (hW1 w g)⟩
include X hW0 in
theorem GH{y:Sy}{c:bT}{fr:Frame}{frs:List Frame}(h:jn c.1=some (n.tG,n.tU,pt b 0))(a:FR y c.1 fr):oP P Wd (G fr (frs++cs)) (G (fr.finish (.pointer (some ⟨b,0,none⟩))) (frs++cs)):=by obtain⟨t,d,e,f⟩:=X.Rl;exact⟨rfl,λmain w g=>qL a h d e f (hW0 w g)⟩
theorem pL{f:FuncId}{args:List SV}{cT:Array Value}{y:Sy}{fn:Func}{body:Code}(b:P.funcs[f]?=some fn)(d:fn.body=some body)(e:args.length=cT.size)(g:∀(i:Nat) a,args[i]?=some a->∃x,cT[i]?=some x/\SR y a x):FR y (cQ P f args kind) (Frame.enter P f cT kind):=by
 refine⟨by simp[cQ,b,Frame.enter],by simp[cQ,b,d,Frame.enter],by simp[cQ,b,Frame.enter],by simp[cQ,b,Frame.enter,y7.of],by simp[cQ,b,Frame.enter],rfl,by simp[cQ,b,Frame.enter,e],λt=>?_⟩;simp only[cQ,b,Frame.enter,Option.map_some,Option.getD_some];rw[Array.getD_eq_getD_getElem?,List.getD_eq_getElem?_getD];by_cases c:t<args.length
 . rw[Array.getElem?_append_left (by omega),List.getElem?_append_left c]
   obtain⟨x,h,j⟩:=g t _ (List.getElem?_eq_getElem c);rw[List.getElem?_eq_getElem c,h];exact j
 . rw[Array.getElem?_append_right (by omega),List.getElem?_append_right (by omega),List.getElem?_replicate]
   split<;>trivial
include X in
theorem vF:∃e,pG P Wd (G (Frame.enter P n.add #[.pointer (some ⟨b,0,none⟩),.int .i64 1] kind) cs) e/\ot P n b kind .a0 cs e:=by
 obtain⟨fn,body,f,g,q,r⟩:=X.LN
 have j:FR y0 (cQ P n.add [pt b 0,i64 1] kind) (Frame.enter P n.add #[.pointer (some ⟨b,0,none⟩),.int .i64 1] kind):=pL f g rfl λi a h=>by
  match i with
  |0=>simp at h;subst h;exact⟨_,rfl,rfl⟩
  |1=>simp at h;subst h;exact⟨_,rfl,rfl⟩
  |i+2=>simp at h
 have k:jH.At y0:=⟨by decide,by decide,rfl,rfl,rfl,rfl,rfl,by decide⟩;obtain⟨m,d,c,l,o,p⟩:=jW (Wd:=Wd) (P:=P) k 400 j (st:=[]) (frs:=[]) trivial;exact⟨_,⟨m,p cs⟩,_,y0,d,c,rfl,pJ,l,o,rfl⟩
theorem Bw:jH.At y0:=⟨by decide,by decide,rfl,rfl,rfl,rfl,rfl,by decide⟩
include X in
theorem t9(C:iu P n):∃e,pG P Wd (G (Frame.enter P n.wait #[.pointer (some ⟨b,0,none⟩)] kind) cs) e/\ot P n b kind .w0 cs e:=by
 obtain⟨fn,body,f,g,p,q⟩:=X.GG
 have j:FR y0 (cQ P n.wait [pt b 0] kind) (Frame.enter P n.wait #[.pointer (some ⟨b,0,none⟩)] kind):=pL f g rfl λi a h=>by
  match i with
  |0=>simp at h;subst h;exact⟨_,rfl,rfl⟩
  |i+1=>simp at h
 obtain⟨m,d,c,k,l,o⟩:=jW (Wd:=Wd) (P:=P) Bw 400 j (st:=[]) (frs:=[]) trivial;exact⟨_,⟨m,o cs⟩,_,y0,d,c,rfl,pJ,k.keep [0],l.oo [],rfl⟩
include X hW0 in
theorem ua(C:iu P n):∃f,pG P Wd (G (Frame.enter P n.done #[.pointer (some ⟨b,0,none⟩)] .deferred) cs) f/\ot P n b kind .d1 cs f:=by
 obtain⟨fn,body,l,o,A,B⟩:=X.GF
 have p:FR y0 (cQ P n.done [pt b 0] .deferred) (Frame.enter P n.done #[.pointer (some ⟨b,0,none⟩)] .deferred):=pL l o rfl λi a h=>by
  match i with
  |0=>simp at h;subst h;exact⟨_,rfl,rfl⟩
  |i+1=>simp at h
 obtain⟨m,q,g,j,r,s⟩:=jW (Wd:=Wd) (P:=P) Bw 400 p (st:=[]) (frs:=[]) trivial;obtain⟨k,t,u⟩:=C.d0 b;obtain⟨e,d,w,y,z⟩:=Bu (P:=P) (Wd:=Wd) (c:=D0 P n b) (v:=pt b 0) (x:=.pointer (some ⟨b,0,none⟩)) (.inr ⟨_,k⟩) j r t u (λ_=>rfl);exact⟨_,pG.trans ⟨m,s cs⟩ (pG.trans (GH X hW0 (cs:=cs) k j).wg (z cs)),_,y0,e,d,rfl,pJ,w,y,rfl⟩
include C X in
theorem PN(h:ot P n b kind .a0 cs g)(j:kind≠.early):∃k,stepG P main g w=.go k w #[⟨.mark .disable,false,true⟩]/\fP P n b kind Wd .a2 cs k:=by
 obtain⟨c,y,fr,frs,rfl,I,l,f,rfl⟩:=h;obtain⟨m,q,r,t⟩:=C.a0 b kind;obtain⟨o,u,z,A⟩:=C.a1 b kind;refine⟨_,dG GA l m (by rw[t];exact j) X.gY,rfl,?_⟩;obtain⟨d,a,p,B,D⟩:=Bu (P:=P) (Wd:=Wd) (v:=un) (x:=.tuple #[]) (.inl ⟨_,m⟩) l f q (by rw[r];rfl) (λ_=>rfl);obtain⟨i,e,E,F,H⟩:=Bu (P:=P) (Wd:=Wd) (c:=A1 P n b kind) (v:=ff) (x:=.bool false) (.inl ⟨_,o⟩) p B u (by rw[z];rfl) (λ_=>rfl);have hb:oP P Wd (G d (a++cs)) (G (d.finish (.bool false)) (a++cs)):=⟨rfl,λmain w _=>qK (s:=(A1 P n b kind).1) p o (by rw[A];exact j) X.JI⟩;exact⟨_,(D cs).trans (hb.wg.trans (H cs)),_,y0,i,e,rfl,pJ,E,F,rfl⟩
include C X hW1 in
theorem PO{c v m:Nat}(o:oq b w c 0 m)(L:c<1000)(h:ot P n b kind .a2 cs g):
 ∃p w',stepG P main g w=.go p w' #[⟨.cell ⟨b,0,none⟩,false,true⟩,⟨.cell ⟨b,0,none⟩,true,true⟩]/\w'=w.setCell ⟨b,0,none⟩ (.int .u64 (dm (c+1:Nat) 0))/\oq b w' (c+1) 0 m/\(fP P n b kind Wd .a4 cs p\/fP P n b kind Wd .ae cs p):=by
 obtain⟨cf,y,fr,frs,rfl,M,z,q,rfl⟩:=h;obtain⟨A,E,F,G⟩:=C.a2 b kind
 have e:IntKind.u64.wrap (dm c 0+4294967296)=dm (c+1:Nat) 0:=by
  rw[iU (by unfold dm;omega) (by unfold dm;omega)];unfold dm;push_cast;omega
 have i:=m9 (main:=main) (cs:=frs++cs) (w:=w) z A (jp E) X.pK (λx h=>h) o.cw (o.fz 0);rw[e]at i;have d:({y0 with c:=((c+1:Nat):Int)}:Sy).ok:=⟨by show(0:Int)<=2/\(2:Int)<=1000;decide,by show(0:Int)<=((c+1:Nat):Int)/\((c+1:Nat):Int)<=1000;omega⟩;have r:((c+1:Nat):Int)≠0:=by omega
 obtain⟨s,j,t,B,D⟩:=ki (P:=P) (Wd:=Wd) (y:={y0 with c:=((c+1:Nat):Int)}) (v:=.dm 0) (x:=.int .u64 (dm (c+1:Nat) 0)) (.inl ⟨_,A⟩) d (z.fg F) (q.fg G) rfl;refine⟨_,_,i,rfl,o.aD (c+1) 0,?_⟩;by_cases f:((c+1:Nat):Int)=1
 . left
   have H:=Rn (y:={y0 with c:=((c+1:Nat):Int)}) (a:=true) (by simpa using f);have k:=C.a3 b kind (Fl.of {y0 with c:=((c+1:Nat):Int)});rw[H]at k;obtain⟨u,l,I,J,K⟩:=ki (P:=P) (Wd:=Wd) (v:=pt b 1) (x:=.pointer (some ⟨b,1,none⟩)) (.inr ⟨_,k⟩) d t B rfl;exact⟨rfl,_,(D cs).trans ((La X hW1 (cs:=cs) k t).wg.trans (K cs)),_,_,u,l,⟨rfl,f⟩,d,I,J,rfl⟩
 . right
   exact⟨rfl,_,D cs,_,_,s,j,⟨r,.inr ⟨rfl,f⟩⟩,d,t,B,rfl⟩
end
section
variable{P:Program}{n:FJ}(C:iu P n)(X:jt P n){b:Nat}{kind:CallKind}{Wd:World->Prop}{cs:List Frame}{g:Goroutine}{w:World}{main:Bool}
variable(hW0:∀w,Wd w->∃v,w.cell? ⟨b,0,none⟩=some v)(hW1:∀w,Wd w->∃v,w.cell? ⟨b,1,none⟩=some v)
theorem xZ{y:Sy}(h:y.c≠0):decide (y.c=0)=false:=by simpa using h
include C X in
theorem PP(h:ot P n b kind .a4 cs g)(p:kind≠.early):∃k,stepG P main g w=.go k w #[⟨.mark (.read ⟨b,1,none⟩),false,true⟩]/\fP P n b kind Wd .ae cs k:=by
 obtain⟨c,y,fr,frs,⟨rfl,e⟩,l,m,f,rfl⟩:=h;have q:=Rn (y:=y) (a:=true) (by simpa using e);obtain⟨i,o⟩:=C.a4 b kind (Fl.of y);rw[q]at i o;obtain⟨j,d,r,s,t⟩:=ki (P:=P) (Wd:=Wd) (v:=un) (x:=.tuple #[]) (.inl ⟨_,i⟩) l m f rfl;exact⟨_,dU (λu g h=>by cases h) m i (by rw[o];exact p) X.rd,rfl,_,t cs,_,y,j,d,⟨by rw[e];decide,.inl ⟨rfl,e⟩⟩,l,r,s,rfl⟩
include C X in
theorem PQ {e:Frame} {rest:List Frame} (h:ot P n b kind .ae (e :: rest) g) (t:kind ≠ .early):∃ d,stepG P main g w = .go d w #[⟨.mark .enable,false,true⟩]∧d.status = .running∧pG P Wd d (jj kind e rest (.tuple #[])):=by
 obtain⟨c,y,fr,frs,⟨f,i⟩,E,u,j,rfl⟩:=h;obtain⟨fn,body,f1,F,H,v⟩:=X.LN
 have key:oR c.1=some n.en->c.2=[]->c.1.kind=kind->c.1.fn=n.add->∃ d,stepG P main (G fr (frs ++ e :: rest)) w = .go d w #[⟨.mark .enable,false,true⟩]∧d.status = .running∧pG P Wd d (jj kind e rest (.tuple #[])):=fun q x s z=>by
  rw[x] at j;obtain rfl:=j.jw;obtain⟨A,B⟩:=xY (main:=main) (cs:=[] ++ e :: rest) (w:=w) u q X.en
  have k:iW ({ c.1 with defers:=[] }:iq) n.add=true:=by
   unfold iW;unfold oR at q;split at q
   . rename_i g cap as D hd;simp[D,z]
   . cases q
  refine⟨_,A,rfl,?_⟩;have:=jI (Wd:=Wd) (c:=e) (rest:=rest) B k f1 v (by show c.1.kind≠_;rw[s];exact t)
  rw[show ({ c.1 with defers:=[] }:iq).kind=kind from s] at this
  exact this.wg
 rcases i with ⟨rfl,i⟩|⟨rfl,i⟩
 . have r:=f10 (y:=y) (a:=true) (c:=false) (by simpa using i) (xZ f)
   obtain⟨l,m,o,p⟩:=C.a5 b kind (Fl.of y);rw[r] at l m o p;exact key l m o p
 . have r:=f10 (y:=y) (a:=false) (c:=false) (by simpa using i) (xZ f)
   obtain⟨l,m,o,p⟩:=C.a6 b kind (Fl.of y);rw[r] at l m o p;exact key l m o p
include C X in
theorem PR(h:ot P n b kind .d1 cs g):∃f,stepG P main g w=.go f w #[⟨.mark (.releaseMerge ⟨b,0,none⟩),false,true⟩]/\fP P n b kind Wd .d2 cs f:=by
 obtain⟨c,y,fr,frs,rfl,r,i,d,rfl⟩:=h;obtain⟨j,k,l,m⟩:=C.d1 b;obtain⟨e,a,o,p,q⟩:=Bu (P:=P) (Wd:=Wd) (v:=un) (x:=.tuple #[]) (.inl ⟨_,j⟩) i d l m (λ_=>rfl);exact⟨_,dU (λs g h=>by cases h) i j (jp k) X.rel,rfl,_,q cs,_,y0,e,a,rfl,pJ,o,p,rfl⟩
include C X in
theorem PS(h:ot P n b kind .d2 cs g):∃j,stepG P main g w=.go j w #[⟨.mark .disable,false,true⟩]/\fP P n b kind Wd .d4 cs j:=by
 obtain⟨c,y,fr,frs,rfl,H,k,f,rfl⟩:=h;obtain⟨l,p,q,r⟩:=C.d2 b;obtain⟨m,t,u,z⟩:=C.d3 b;refine⟨_,dG GA k l (jp p) X.gY,rfl,?_⟩;obtain⟨d,a,o,A,B⟩:=Bu (P:=P) (Wd:=Wd) (v:=un) (x:=.tuple #[]) (.inl ⟨_,l⟩) k f q r (λ_=>rfl);obtain⟨i,e,D,E,F⟩:=Bu (P:=P) (Wd:=Wd) (c:=D3 P n b) (v:=ff) (x:=.bool false) (.inl ⟨_,m⟩) o A u z (λ_=>rfl);have hb:oP P Wd (G d (a++cs)) (G (d.finish (.bool false)) (a++cs)):=⟨rfl,λmain w _=>qK (s:=(D3 P n b).1) o m (jp t) X.JI⟩;exact⟨_,(B cs).trans (hb.wg.trans (F cs)),_,y0,i,e,rfl,pJ,D,E,rfl⟩
def jq(P:Program)(a:FuncId)(tmps:Array Value)(todo:List Item):Frame:=⟨a,tmps,todo,[],.returning,.deferred,none⟩
def ck(P:Program):Frame:={(default:Frame)with fn:=P.funcs.size,defers:=[],mode:=.panicking [goexitEntry]}
theorem qP{a:FuncId}{fn:Func}{tmps:Array Value}{todo:List Item}(c:P.funcs[a]?=some fn)(d:fn.results=#[]):QuitsD P 2 0 (G (jq P a tmps todo) [ck P]):=by
 refine .ctl (g':=G (ck P) []) rfl (λw=>?_) (.ctl (g':={G (ck P) []with status:=.finished}) rfl (λw=>?_) ⟨rfl,rfl⟩)
 . simp[G,stepG,unwind,c,results,d,jq,ck,goexitEntry]
   rfl
 . have b:(ck P).catches P=false:=by
    simp[Frame.catches,ck];rfl
   simp[G,stepG,unwind,ck,goexitEntry]at b ⊢;simp[b]
theorem qQ{d:Nat}:∀{m k:Nat}{a c:Goroutine},iV P (λ_=>True) m a c->QuitsD P k d c->QuitsD P (k+m) d a
 |0,k,a,c,h,b=>by obtain rfl:=h;exact b
 |m+1,k,a,c,h,b=>by obtain⟨i,⟨e,f⟩,g⟩:=h;exact .ctl e (λw=>f false w trivial) (qQ g b)
include X in
theorem ub{c:bT}{y:Sy}{fr:Frame}{frs:List Frame}{a:FuncId}{fn:Func}{tmps:Array Value}{todo:List Item}(o:P.funcs[a]?=some fn)(b:fn.results=#[])(p:y.ok)(j:FR y c.1 fr)(e:kg y c.2 frs)
 (k:oR c.1=some n.en) (q:iW (kh P (Fl.of y) c).1 n.done=true) (r:(kh P (Fl.of y) c).2=[]) (l:(kh P (Fl.of y) c).1.kind=.deferred):∃m,QuitsD P m 1 (G fr (frs++[jq P a tmps todo,ck P])):=by
 obtain⟨_,f⟩:=xY (P:=P) (main:=false) (cs:=frs++[jq P a tmps todo,ck P]) (w:=default) j k X.en;obtain⟨m,g,d,s,t,u⟩:=jW (Wd:=λ_=>True) (P:=P) (Fl.zo p) 400 f e
 have h:kg y [] d:=by rw[<-r];exact t
 obtain rfl:=h.jw;obtain⟨fd,body,v,B,C,x⟩:=X.GF;have hb:=jI (Wd:=λ_=>True) (c:=jq P a tmps todo) (rest:=[ck P]) s q v x (by show(kh P (Fl.of y) c).1.kind≠_;rw[l];decide)
 have i:jj (sgo P (Fl.of y) 400 {c.1 with defers:=[]} c.2).1.kind (jq P a tmps todo) [ck P] (.tuple #[])=G (jq P a tmps todo) [ck P]:=by rw[show(sgo P (Fl.of y) 400 {c.1 with defers:=[]} c.2).1.kind=.deferred from l];rfl
 rw[i]at hb;have z:QuitsD P (2+1) 0 (G g [jq P a tmps todo,ck P]):=.ctl rfl (λw=>hb.2 false w trivial) (qP o b)
 have A:=qQ (u [jq P a tmps todo,ck P]) z;exact⟨_,.said ⟨.mark .enable,false,true⟩ rfl rfl (λw=>(xY (P:=P) (main:=false) (cs:=frs++[jq P a tmps todo,ck P]) (w:=w) j k X.en).1) A⟩
def Gone(P:Program)(Wd:World->Prop)(a:Goroutine):Prop:=∃m,QuitsD P m 1 a
theorem x4{m k:Nat}{a c:Goroutine}(h:iV P (λ_=>True) m a c)(b:QuitsD P k 1 c):Gone P Wd a:=⟨_,qQ h b⟩
include C X in
theorem PT{k v m:Nat}{o:FuncId}{fn:Func}{tmps:Array Value}{todo:List Item}(N:P.funcs[o]?=some fn)(f:fn.results=#[])(G:oq b w (k+1) v m)(R:k<1000)(S:v<=1)(h:ot P n b kind .d4 [jq P o tmps todo,ck P] g):
 ∃H w',stepG P main g w=.go H w' #[⟨.cell ⟨b,0,none⟩,false,true⟩,⟨.cell ⟨b,0,none⟩,true,true⟩]/\w'=w.setCell ⟨b,0,none⟩ (.int .u64 (dm k v))/\oq b w' k v m/\((k=0/\v=1/\fP P n b kind Wd .d5 [jq P o tmps todo,ck P] H)\/(¬(k=0/\v=1)/\Gone P Wd H)):=by
 obtain⟨cf,y,fr,frs,rfl,T,E,i,rfl⟩:=h;obtain⟨F,O,I,J⟩:=C.d4 b
 have e:IntKind.u64.wrap (dm (k+1:Nat) v+18446744069414584320)=dm k v:=by
  have:dm (k+1:Nat) v+18446744069414584320=dm k v+18446744073709551616:=by unfold dm;push_cast;omega
  rw[this];simp[IntKind.wrap,IntKind.bits,IntKind.signed];unfold dm;omega
 have p:=m9 (main:=main) (cs:=frs++[jq P o tmps todo,ck P]) (w:=w) E F (jp O) X.pK (λx h=>h) G.cw (G.fz 0)
 rw[e]at p;have a:({y0 with c:=(k:Int)}:Sy).ok:=⟨by show(0:Int)<=2/\(2:Int)<=1000;decide,by show(0:Int)<=(k:Int)/\(k:Int)<=1000;omega⟩
 refine⟨_,_,p,rfl,G.aD k v,?_⟩;have q:v=0\/v=1:=by omega
 rcases q with rfl|rfl
 . refine .inr ⟨by omega,?_⟩
   obtain⟨l,d,r,s,t⟩:=ki (P:=P) (Wd:=λ_=>True) (y:={y0 with c:=(k:Int)}) (v:=.dm 0) (x:=.int .u64 (dm k 0)) (.inl ⟨_,F⟩) a (E.fg I) (i.fg J) rfl
   have u:=C.d5 b (Fl.of {y0 with c:=(k:Int)}) (decide ((k:Int)=0))
   obtain⟨z,A,B⟩:=C.Rh b (Fl.of {y0 with c:=(k:Int)}) (decide ((k:Int)=0))
   rw[Bv rfl]at u z A B;obtain⟨Q,K⟩:=ub X N f a r s u z A B;obtain⟨j,L⟩:=t [jq P o tmps todo,ck P];exact x4 L K
 . by_cases D:k=0
   . refine .inl ⟨D,rfl,?_⟩
     obtain⟨l,d,r,s,t⟩:=ki (P:=P) (Wd:=Wd) (y:={y0 with c:=(k:Int)}) (v:=.dm 1) (x:=.int .u64 (dm k 1)) (.inl ⟨_,F⟩) a (E.fg I) (i.fg J) rfl
     exact⟨rfl,_,t _,_,_,l,d,⟨rfl,by show(k:Int)=0;omega⟩,a,r,s,rfl⟩
   . refine .inr ⟨by omega,?_⟩
     obtain⟨l,d,r,s,t⟩:=ki (P:=P) (Wd:=λ_=>True) (y:={y0 with c:=(k:Int)}) (v:=.dm 1) (x:=.int .u64 (dm k 1)) (.inl ⟨_,F⟩) a (E.fg I) (i.fg J) rfl
     have M:decide ((k:Int)=0)=false:=by simpa using D
     have u:=C.d6 b (Fl.of {y0 with c:=(k:Int)})
     obtain⟨z,A,B⟩:=C.Rk b (Fl.of {y0 with c:=(k:Int)})
     rw[Bv M]at u z A B;obtain⟨Q,K⟩:=ub X N f a r s u z A B;obtain⟨j,L⟩:=t [jq P o tmps todo,ck P];exact x4 L K
include C X in
theorem PU{m:Nat}(q:oq b w 0 1 m)(h:ot P n b kind .d5 cs g):∃k,stepG P main g w=.go k w #[⟨.cell ⟨b,0,none⟩,false,true⟩]/\fP P n b kind Wd .d6 cs k:=by
 obtain⟨c,y,fr,frs,⟨rfl,e⟩,l,o,f,rfl⟩:=h;have r:=Bv (y:=y) (a:=true) (by simpa using e)
 obtain⟨i,p⟩:=C.d7 b (Fl.of y);rw[r]at i p;have s:SR y (.dm 1) (.int .u64 (dm 0 1)):=by show _=Value.int .u64 (dm y.c 1);rw[e]
 obtain⟨j,d,t,u,v⟩:=ki (P:=P) (Wd:=Wd) (.inl ⟨_,i⟩) l o f s;exact⟨_,qO o i (jp p) X.sF q.cw,rfl,_,v cs,_,y,j,d,⟨rfl,e⟩,l,t,u,rfl⟩
include C X in
theorem PV{m:Nat}(e:oq b w 0 1 m)(h:ot P n b kind .d6 cs g):∃k w',stepG P main g w=.go k w' #[⟨.cell ⟨b,0,none⟩,true,true⟩]/\w'=w.setCell ⟨b,0,none⟩ (.int .u64 (dm 0 0))/\oq b w' 0 0 m/\fP P n b kind Wd .d7 cs k:=by
 obtain⟨c,y,fr,frs,⟨rfl,l⟩,o,p,f,rfl⟩:=h;have r:=Bv (y:=y) (a:=true) (by simpa using l);obtain⟨i,q⟩:=C.d8 b (Fl.of y);rw[r]at i q;obtain⟨j,d,s,t,u⟩:=ki (P:=P) (Wd:=Wd) (v:=un) (x:=.tuple #[]) (.inl ⟨_,i⟩) o p f rfl;exact⟨_,_,DQ p i (jp q) X.DR e.cw (e.fz 0),rfl,e.aD 0 0,rfl,_,u cs,_,y,j,d,⟨rfl,l⟩,o,s,t,rfl⟩
include C X in
theorem PW{v m:Nat}{k:FuncId}{fn:Func}{tmps:Array Value}{todo:List Item}(E:P.funcs[k]?=some fn)(d:fn.results=#[])(l:oq b w 0 v m)(M:m<=1000)(h:ot P n b kind .d7 [jq P k tmps todo,ck P] g):
 ∃q w',stepG P main g w=.go q w' (semEvents ⟨b,1,none⟩)/\w'=w.setCell ⟨b,1,none⟩ (.int .u32 (m+1:Nat))/\oq b w' 0 v (m+1)/\Gone P Wd q:=by
 obtain⟨c,y,fr,frs,⟨rfl,F⟩,r,s,o,rfl⟩:=h;have f:=Bv (y:=y) (a:=true) (by simpa using F)
 obtain⟨p,t⟩:=C.d9 b (Fl.of y);rw[f]at p t;have i:=me (main:=main) (cs:=frs++[jq P k tmps todo,ck P]) (w:=w) s p (jp t) X.mf l.cs (l.fz 1);have e:IntKind.u32.wrap ((m:Int)+1)=((m+1:Nat):Int):=by rw[IntKind.wrap_u32];omega
 rw[e]at i;obtain⟨G,u,H,I,J⟩:=ki (P:=P) (Wd:=λ_=>True) (v:=un) (x:=.tuple #[]) (.inl ⟨_,p⟩) r s o rfl
 have z:=C.da b (Fl.of y);obtain⟨A,B,D⟩:=C.db b (Fl.of y);rw[f]at z A B D;obtain⟨N,K⟩:=ub X E d r H I z A B D;obtain⟨j,L⟩:=J [jq P k tmps todo,ck P];exact⟨_,_,i,rfl,l.Bs (m+1),x4 L K⟩
end
section
variable{P:Program}{n:FJ}(C:iu P n)(X:jt P n){b:Nat}{kind:CallKind}{Wd:World->Prop}{cs:List Frame}{g:Goroutine}{w:World}{main:Bool}
variable(hW0:∀w,Wd w->∃v,w.cell? ⟨b,0,none⟩=some v)(hW1:∀w,Wd w->∃v,w.cell? ⟨b,1,none⟩=some v)
include C X in
theorem PX(h:ot P n b kind .w0 cs g)(k:kind≠.early):∃f,stepG P main g w=.go f w #[⟨.mark .disable,false,true⟩]/\fP P n b kind Wd .w1 cs f:=by
 obtain⟨c,y,fr,frs,rfl,s,i,d,rfl⟩:=h;obtain⟨j,l,m,o⟩:=C.w0 b kind;obtain⟨e,a,p,q,r⟩:=Bu (P:=P) (Wd:=Wd) (v:=un) (x:=.tuple #[]) (.inl ⟨_,j⟩) i d l (by rw[m];rfl) (λ_=>rfl);exact⟨_,dG GA i j (by rw[o];exact k) X.gY,rfl,_,r cs,_,y0,e,a,rfl,pJ,p.keep [5],q.oo [[0]],rfl⟩
include C X in
theorem PY{c m:Nat}(r:oq b w c 0 m)(z:c<=1000)(h:ot P n b kind .w1 cs g):
 ∃f,stepG P main g w=.go f w #[⟨.cell ⟨b,0,none⟩,false,true⟩]/\((c=0/\fP P n b kind Wd .we cs f)\/(c≠0/\fP P n b kind Wd (.w2 c) cs f)):=by
 obtain⟨cf,y,fr,frs,rfl,A,k,i,rfl⟩:=h;obtain⟨l,s,t,u⟩:=C.w1 b kind;have d:({y0 with c:=(c:Int)}:Sy).ok:=⟨by show(0:Int)<=2/\(2:Int)<=1000;decide,by show(0:Int)<=(c:Int)/\(c:Int)<=1000;omega⟩;obtain⟨e,a,o,p,q⟩:=ki (P:=P) (Wd:=Wd) (y:={y0 with c:=(c:Int)}) (v:=.dm 0) (x:=.int .u64 (dm c 0)) (.inl ⟨_,l⟩) d (k.fg t) (i.fg u) rfl;refine⟨_,qO k l (jp s) X.sF r.cw,?_⟩;by_cases j:c=0
 . exact .inl ⟨j,rfl,_,q cs,_,_,e,a,.inl ⟨rfl,by show(c:Int)=0;omega⟩,d,o,p,rfl⟩
 . exact .inr ⟨j,rfl,_,q cs,_,_,e,a,⟨rfl,rfl,j⟩,d,o,p,rfl⟩
include C X hW0 in
theorem PZ(h:ot P n b kind .we cs g)(D:kind≠.early):∃E,stepG P main g w=.go E w #[⟨.mark .enable,false,true⟩]/\fP P n b kind Wd .wa cs E:=by
 obtain⟨c,y,fr,frs,e,k,q,l,rfl⟩:=h;rcases e with⟨rfl,e⟩|⟨rfl,e⟩
 . have r:=Bv (y:=y) (a:=true) (by simpa using e)
   obtain⟨f,m⟩:=C.w2 b kind (Fl.of y);have i:=C.w3 b kind (Fl.of y);rw[r]at f m i;obtain⟨s,o,p,t,u⟩:=ki (P:=P) (Wd:=Wd) (v:=un) (x:=.tuple #[]) (.inl ⟨_,f⟩) k q l rfl;obtain⟨j,d,z,A,B⟩:=ki (P:=P) (Wd:=Wd) (c:=WC P n b kind (Fl.of y)) (v:=pt b 0) (x:=.pointer (some ⟨b,0,none⟩)) (.inr ⟨_,i⟩) k p t rfl;exact⟨_,dG GB q f (by rw[m];exact D) X.en,rfl,_,(u cs).trans ((GH X hW0 (c:=WC P n b kind (Fl.of y)) (cs:=cs) i p).wg.trans (B cs)),_,y,j,d,.inl ⟨rfl,e⟩,k,z,A,rfl⟩
 . have r:=Bv (y:=y) (a:=false) (xZ e)
   obtain⟨f,m⟩:=C.wc b kind (Fl.of y);have i:=C.wd b kind (Fl.of y);rw[r]at f m i;obtain⟨s,o,p,t,u⟩:=ki (P:=P) (Wd:=Wd) (v:=un) (x:=.tuple #[]) (.inl ⟨_,f⟩) k q l rfl;obtain⟨j,d,z,A,B⟩:=ki (P:=P) (Wd:=Wd) (c:=N8 P n b kind (Fl.of y)) (v:=pt b 0) (x:=.pointer (some ⟨b,0,none⟩)) (.inr ⟨_,i⟩) k p t rfl;exact⟨_,dG GB q f (by rw[m];exact D) X.en,rfl,_,(u cs).trans ((GH X hW0 (c:=N8 P n b kind (Fl.of y)) (cs:=cs) i p).wg.trans (B cs)),_,y,j,d,.inr ⟨rfl,e⟩,k,z,A,rfl⟩
include C X in
theorem P1{j:Frame}{rest:List Frame}(h:ot P n b kind .wa (j::rest) g)(q:kind≠.early):∃t,stepG P main g w=.go t w #[⟨.mark (.acquire ⟨b,0,none⟩),false,true⟩]/\t.status=.running/\pG P Wd t (jj kind j rest (.tuple #[])):=by
 obtain⟨c,y,fr,frs,k,E,r,l,rfl⟩:=h;obtain⟨fn,body,f1,H,I,F⟩:=X.GG;rcases k with⟨rfl,k⟩|⟨rfl,k⟩
 . have u:=Bv (y:=y) (a:=true) (by simpa using k)
   obtain⟨f,m⟩:=C.w4 b kind (Fl.of y);obtain⟨o,p,i⟩:=C.w5 b kind (Fl.of y);rw[u]at f m o p i;obtain⟨z,d,A,B,D⟩:=ki (P:=P) (Wd:=Wd) (v:=un) (x:=.tuple #[]) (.inl ⟨_,f⟩) E r l rfl;have e:kg y (WB P n b kind (Fl.of y)).2 d:=B;rw[p]at e;obtain rfl:=e.jw;have hb:=jI (Wd:=Wd) (c:=j) (rest:=rest) (s:=(WB P n b kind (Fl.of y)).1) A o f1 F (by rw[i];exact q);rw[i]at hb;exact⟨_,dU (λG g h=>by cases h) r f (by rw[m];exact q) X.acq,rfl,(D (j::rest)).trans hb.wg⟩
 . have u:=Bv (y:=y) (a:=false) (xZ k)
   obtain⟨f,m⟩:=C.we b kind (Fl.of y);obtain⟨o,p,i⟩:=C.wf b kind (Fl.of y);rw[u]at f m o p i;obtain⟨z,d,A,B,D⟩:=ki (P:=P) (Wd:=Wd) (v:=un) (x:=.tuple #[]) (.inl ⟨_,f⟩) E r l rfl;have e:kg y (K9 P n b kind (Fl.of y)).2 d:=B;rw[p]at e;obtain rfl:=e.jw;have hb:=jI (Wd:=Wd) (c:=j) (rest:=rest) (s:=(K9 P n b kind (Fl.of y)).1) A o f1 F (by rw[i];exact q);rw[i]at hb;exact⟨_,dU (λG g h=>by cases h) r f (by rw[m];exact q) X.acq,rfl,(D (j::rest)).trans hb.wg⟩
theorem JJ{c c' v a:Nat}(d:v<=1000)(b:a<=1000):dm c v=dm c' a↔(c=c'/\v=a):=by unfold dm;omega
include C X hW1 in
theorem P2{k c m:Nat}(l:oq b w c 0 m)(h:ot P n b kind (.w2 k) cs g):
 (c=k/\∃o w',stepG P main g w=.go o w' #[⟨.cell ⟨b,0,none⟩,false,true⟩,⟨.cell ⟨b,0,none⟩,true,true⟩]/\w'=w.setCell ⟨b,0,none⟩ (.int .u64 (dm k 1))/\oq b w' k 1 m/\fP P n b kind Wd .w3 cs o)\/
 (c≠k/\∃o,stepG P main g w=.go o w #[⟨.cell ⟨b,0,none⟩,false,true⟩]/\fP P n b kind Wd .w1 cs o):=by
 obtain⟨cf,y,fr,frs,⟨rfl,K,L⟩,p,z,q,rfl⟩:=h;have r:y.c≠0:=by rw[K];omega
 have D:=Bv (y:=y) (a:=false) (xZ r);obtain⟨s,E⟩:=C.w6 b kind (Fl.of y);rw[D]at s E
 have A:∀j:Nat,∀x,SR y (.dm j) x->x=.int .u64 (dm k j):=λj x F=>by have F:x=.int .u64 (dm y.c j):=F;rw[F,K]
 by_cases f:c=k
 . subst f
   refine .inl ⟨rfl,_,_,fu z s (jp E) X.t7 (A 0) (A 1) l.cw (l.fz 0),rfl,l.aD c 1,rfl,?_⟩;have i:=C.w8 b kind (Fl.of y);rw[D]at i;obtain⟨t,d,B,G,H⟩:=ki (P:=P) (Wd:=Wd) (v:=tt) (x:=.bool true) (.inl ⟨_,s⟩) p z q rfl;obtain⟨I,u,M,N,O⟩:=ki (P:=P) (Wd:=Wd) (c:=W3 P n b kind (Fl.of y)) (v:=pt b 1) (x:=.pointer (some ⟨b,1,none⟩)) (.inr ⟨_,i⟩) p B G rfl;exact⟨_,(H cs).trans ((La X hW1 (c:=W3 P n b kind (Fl.of y)) (cs:=cs) i B).wg.trans (O cs)),_,y,I,u,⟨rfl,r⟩,p,M,N,rfl⟩
 . have J:¬dm c 0=dm k 0:=λe=>f ((JJ (by omega) (by omega)).1 e).1
   refine .inr ⟨f,_,fN z s (jp E) X.t7 (A 0) (A 1) l.cw (l.fz 0) J,rfl,?_⟩;have i:=C.w7 b kind (Fl.of y);rw[D]at i;obtain⟨t,d,B,G,H⟩:=ki (P:=P) (Wd:=Wd) (v:=ff) (x:=.bool false) (.inl ⟨_,s⟩) p z q rfl;have Q:=B.keep [5];have R:=G.oo [[0]];refine⟨_,H cs,W1 P n b kind,y,t,d,rfl,p,?_,?_,rfl⟩
   . rw[<-i];exact Q
   . rw[<-i];exact R
include C X in
theorem P3(h:ot P n b kind .w3 cs g)(p:kind≠.early):∃j,stepG P main g w=.go j w #[⟨.mark (.write ⟨b,1,none⟩),false,true⟩]/\fP P n b kind Wd .w4 cs j:=by obtain⟨c,y,fr,frs,⟨rfl,k⟩,l,m,e,rfl⟩:=h;have q:=Bv (y:=y) (a:=false) (xZ k);obtain⟨f,o⟩:=C.w9 b kind (Fl.of y);rw[q]at f o;obtain⟨i,d,r,s,t⟩:=ki (P:=P) (Wd:=Wd) (v:=un) (x:=.tuple #[]) (.inl ⟨_,f⟩) l m e rfl;exact⟨_,dU (λu g h=>by cases h) m f (by rw[o];exact p) X.wr,rfl,_,t cs,_,y,i,d,⟨rfl,k⟩,l,r,s,rfl⟩
include C X in
theorem P4{c v m:Nat}(i:oq b w c v m)(D:m≠0)(h:ot P n b kind .w4 cs g)(t:kind≠.early):
 ∃o w',stepG P main g w=.go o w' (semEvents ⟨b,1,none⟩)/\w'=w.setCell ⟨b,1,none⟩ (.int .u32 (m-1:Nat))/\oq b w' c v (m-1)/\fP P n b kind Wd .w5 cs o:=by
 obtain⟨cf,y,fr,frs,⟨rfl,p⟩,q,r,j,rfl⟩:=h;have u:=Bv (y:=y) (a:=false) (xZ p);obtain⟨k,s⟩:=C.wa b kind (Fl.of y);rw[u]at k s;have d:=pH (main:=main) (cs:=frs++cs) (w:=w) (n:=(m:Int)) r k (by rw[s];exact t) X.Bo i.cs (by omega) (i.fz _);have e:((m:Int)-1)=((m-1:Nat):Int):=by omega
 rw[e]at d;obtain⟨l,f,z,A,B⟩:=ki (P:=P) (Wd:=Wd) (v:=un) (x:=.tuple #[]) (.inl ⟨_,k⟩) q r j rfl;exact⟨_,_,d,rfl,i.Bs (m-1),rfl,_,B cs,_,y,l,f,⟨rfl,p⟩,q,z,A,rfl⟩
include C X in
theorem N9{c v:Nat}(e:oq b w c v 0)(h:ot P n b kind .w4 cs g):stepG P main g w=.go {g with status:=.blocked} w #[]:=by obtain⟨cf,y,fr,frs,⟨rfl,f⟩,m,i,j,rfl⟩:=h;have k:=Bv (y:=y) (a:=false) (xZ f);obtain⟨d,l⟩:=C.wa b kind (Fl.of y);rw[k]at d l;exact wn i d X.Bo e.cs
include C X in
theorem P5{m:Nat}(r:oq b w 0 0 m)(h:ot P n b kind .w5 cs g):∃k,stepG P main g w=.go k w #[⟨.cell ⟨b,0,none⟩,false,true⟩]/\fP P n b kind Wd .we cs k:=by obtain⟨c,y,fr,frs,⟨rfl,l⟩,o,p,e,rfl⟩:=h;have s:=Bv (y:=y) (a:=false) (xZ l);obtain⟨f,q⟩:=C.wb b kind (Fl.of y);rw[s]at f q;have i:=qO (main:=main) (cs:=frs++cs) p f (jp q) X.sF r.cw;obtain⟨j,d,t,u,z⟩:=ki (P:=P) (Wd:=Wd) (v:=u64 0) (x:=.int .u64 0) (.inl ⟨_,f⟩) o p e rfl;exact⟨_,i,rfl,_,z cs,_,y,j,d,.inr ⟨rfl,l⟩,o,t,u,rfl⟩
end
structure oT(P:Program)(n:wp):Prop where
 lock:∃fn body,P.funcs[n.lock]?=some fn/\fn.body=some body/\fn.ntmps=6/\fn.results=#[]
 unlock:∃fn body,P.funcs[n.unlock]?=some fn/\fn.body=some body/\fn.ntmps=6/\fn.results=#[]
section
variable{P:Program}{n:wp}(C:gu P n)(X:gx P n)(F:oT P n){b o:Nat}{kind:CallKind}{Wd:World->Prop}{cs:List Frame}{g:Goroutine}{w:World}{main:Bool}
include F in
theorem ou:∃a,pG P Wd (G (Frame.enter P n.lock #[.pointer (some ⟨b,o,none⟩)] kind) cs) a/\lV P n b o kind .ld cs a:=by obtain⟨fn,body,c,d,e,f⟩:=F.lock;exact Bt ⟨fn,body,c,d,e⟩
include F in
theorem mK:∃e,pG P Wd (G (Frame.enter P n.unlock #[.pointer (some ⟨b,o,none⟩)] kind) cs) e/\lV P n b o kind .CK cs e:=by
 obtain⟨fn,body,f,g,q,r⟩:=F.unlock
 have j:FR y0 (cQ P n.unlock [pt b o] kind) (Frame.enter P n.unlock #[.pointer (some ⟨b,o,none⟩)] kind):=pL f g rfl λi a h=>by
  match i with
  |0=>simp at h;subst h;exact⟨_,rfl,rfl⟩
  |i+1=>simp at h
 obtain⟨m,d,c,k,l,p⟩:=jW (Wd:=Wd) (P:=P) Bw 400 j (st:=[]) (frs:=[]) trivial;exact⟨_,⟨m,p cs⟩,_,y0,d,c,rfl,pJ,k.keep [0,5],l.keep [],rfl⟩
include F in
theorem pM{c:Frame}{rest:List Frame}(h:lV P n b o kind .back (c::rest) g)(e:kind≠.early):pG P Wd g (jj kind c rest (.tuple #[])):=by obtain⟨cf,y,fr,frs,rfl,l,i,a,rfl⟩:=h;obtain⟨fn,body,j,m,p,k⟩:=F.lock;have d:kg y [] frs:=a;obtain rfl:=d.jw;exact(jI (Wd:=Wd) (c:=c) (rest:=rest) (s:=(BK n kind).1) (f:=n.lock) i (by simp[BK,iW]) j k e).wg
include F in
theorem nc{c:Frame}{rest:List Frame}(h:lV P n b o kind .zp (c::rest) g)(e:kind≠.early):pG P Wd g (jj kind c rest (.tuple #[])):=by obtain⟨cf,y,fr,frs,rfl,l,i,a,rfl⟩:=h;obtain⟨fn,body,j,m,p,k⟩:=F.unlock;have d:kg y [] frs:=a;obtain rfl:=d.jw;exact(jI (Wd:=Wd) (c:=c) (rest:=rest) (s:=(NV n kind).1) (f:=n.unlock) i (by simp[NV,iW]) j k e).wg
end
end Go.bG
