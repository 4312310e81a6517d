import Derived.Conc.QuitsD
import Derived.Test.YtkcceaplmgdnfaaGreatDoorC15
set_option linter.all false
namespace Go.bQ
open Go.Conc
inductive vS where
 |a0|a2|a4|ae
 |d1|d2|d4|d5|d6|d7
 |w0|w1|we|wa|w2 (c:Nat)|w3|w4|w5
structure qY(b:Nat)(w:World)(c v m:Nat):Prop where
 cw:w.cell? ⟨b,0,none⟩=some (.int .u64 (ew c v))
 cs:w.cell? ⟨b,1,none⟩=some (.int .u32 m)
 fz:∀i,w.frozen? ⟨b,i,none⟩=false
theorem qY.aT{b:Nat}{w:World}{c v m:Nat}(h:qY b w c v m)(c' a:Nat):qY b (w.setCell ⟨b,0,none⟩ (.int .u64 (ew c' a))) c' a m:=⟨jV h.cw,by rw[dE (by simp)];exact h.cs,λi=>by rw[oi];exact h.fz i⟩
theorem qY.EV{b:Nat}{w:World}{c v m:Nat}(h:qY b w c v m)(a:Nat):qY b (w.setCell ⟨b,1,none⟩ (.int .u32 a)) c v a:=⟨by rw[dE (by simp)];exact h.cw,jV h.cs,λi=>by rw[oi];exact h.fz i⟩
section
variable(P:acD)(n:HV)(b:Nat)(kind:acv)
def YN(p:vS)(c:cP)(y:Sy):Prop:=
 match p with
 |.a0=>c=A0 P n b kind
 |.a2=>c=A2 P n b kind
 |.a4=>c=A4 P n b kind (Fl.of y)/\y.c=1
 |.ae=>y.c≠0/\((c=A5 P n b kind (Fl.of y)/\y.c=1)\/(c=A3 P n b kind (Fl.of y)/\y.c≠1))
 |.d1=>c=D1 P n b
 |.d2=>c=D2 P n b
 |.d4=>c=D4 P n b
 |.d5=>c=DE P n b (Fl.of y) 1/\y.c=0
 |.d6=>c=D6 P n b (Fl.of y)/\y.c=0
 |.d7=>c=D7 P n b (Fl.of y)/\y.c=0
 |.w0=>c=W0 P n b kind
 |.w1=>c=W1 P n b kind
 |.we=>(c=WE P n b kind (Fl.of y)/\y.c=0)\/(c=Sp P n b kind (Fl.of y)/\y.c≠0)
 |.wa=>(c=WA P n b kind (Fl.of y)/\y.c=0)\/(c=Sq P n b kind (Fl.of y)/\y.c≠0)
 |.w2 k=>c=WE P n b kind (Fl.of y)/\y.c=k/\k≠0
 |.w3=>c=So P n b kind (Fl.of y)/\y.c≠0
 |.w4=>c=W4 P n b kind (Fl.of y)/\y.c≠0
 |.w5=>c=W5 P n b kind (Fl.of y)/\y.c≠0
def qZ(p:vS)(cs:acb)(g:aco):Prop:=∃c y fr frs,YN P n b kind p c y/\y.ok/\FR y c.1 fr/\l8 y c.2 frs/\g=G fr (frs++cs)
def iE(Wd:abZ)(p:vS)(cs:acb)(a:aco):Prop:=a.status=.running/\∃c,sB P Wd a c/\qZ P n b kind p cs c
end
theorem qZ.running{P:acD}{n:HV}{b:Nat}{kind:acv}{p:vS}{cs:acb}{g:aco}(h:qZ P n b kind p cs g):g.status=.running/\g.offers=none:=by obtain⟨c,y,fr,frs,_,_,_,_,rfl⟩:=h;exact⟨rfl,rfl⟩
theorem zS{s:jJ}{v:SV}(h:(∃x,bb s=some x)\/(∃x,kz s=some x)):∃s',xh s v=some s':=by
 unfold xh;rcases h with⟨x,h⟩|⟨x,h⟩
 . unfold bb at h
   split at h
   . simp_all
   . cases h
 . unfold kz at h
   split at h
   . simp_all
   . cases h
section
variable{P:acD}{Wd:abZ}{y:Sy}{c:cP}{v:SV}{x:Value}{fr:Frame}{frs:acb}
theorem ma(h:(∃x,bb c.1=some x)\/(∃x,kz c.1=some x))(f:y.ok)(g:FR y c.1 fr)(d:l8 y c.2 frs)(i:SR y v x):
 ∃b a,FR y (next P (Fl.of y) c v).1 b/\l8 y (next P (Fl.of y) c v).2 a/\∀cs,sB P Wd (G (fr.finish x) (frs++cs)) (G b (a++cs)):=by
 obtain⟨n,e⟩:=zS (v:=v) h;obtain⟨m,b,a,j,k,l⟩:=lJ (Wd:=Wd) (Fl.CN f) 400 (P:=P) (g.fin e i) d;unfold next
 rw[e];exact⟨b,a,j,k,λcs=>⟨m,l cs⟩⟩
theorem EX(h:(∃x,bb c.1=some x)\/(∃x,kz c.1=some x))(g:FR y c.1 fr)(d:l8 y c.2 frs)(i:c.1.env.all plain=true)(e:c.2.all (·.env.all plain)=true)(j:∀y,SR y v x):
 ∃b a,FR y0 (next P kX c v).1 b/\l8 y0 (next P kX c v).2 a/\∀cs,sB P Wd (G (fr.finish x) (frs++cs)) (G b (a++cs)):=by
 obtain⟨p,f⟩:=zS (v:=v) h;have k:kX.At y0:=⟨by decide,by decide,rfl,rfl,rfl,rfl,rfl,by decide⟩;obtain⟨m,b,a,l,n,o⟩:=lJ (Wd:=Wd) k 400 (P:=P) ((g.gL i).fin f (j y0)) (d.gL e);unfold next
 rw[f];exact⟨b,a,l,n,λcs=>⟨m,o cs⟩⟩
end
theorem l8.qX{y:Sy}:∀{st:acB}{frs:acb}(ls:List acr),l8 y st frs->l8 y (Go.bQ.qX st ls) frs
 |[],frs,ls,h=>by rw[h.mC];trivial
 |s::st,frs,[],h=>by obtain⟨f,a,rfl,b,c⟩:=h.cons_inv;exact⟨b.keep [],c.qX []⟩
 |s::st,frs,l::ls,h=>by obtain⟨f,a,rfl,b,c⟩:=h.cons_inv;exact⟨b.keep l,c.qX ls⟩
theorem f10{y:Sy}{a c:Bool}(b:decide (y.c=1)=a)(d:decide (y.c=0)=c):f0 (f1 (Fl.of y) a) c=Fl.of y:=by subst b;subst d;rfl
theorem Xj{y:Sy}{a:Bool}(b:decide (y.c=1)=a):f1 (Fl.of y) a=Fl.of y:=by subst b;rfl
theorem EY{y:Sy}{a:Bool}(b:decide (y.c=0)=a):f0 (Fl.of y) a=Fl.of y:=by subst b;rfl
theorem kB{c:cP}(h:vR c=true):c.1.kind≠.early:=by
 unfold vR at h
 simp_all
section
variable{P:acD}{n:HV}(C:gM P n)(X:iD P n){b:Nat}{kind:acv}{Wd:abZ}{cs:acb}{g:aco}{w:World}{main:Bool}
variable(hW0:∀w,Wd w->∃v,w.cell? ⟨b,0,none⟩=some v)(hW1:∀w,Wd w->∃v,w.cell? ⟨b,1,none⟩=some v)
include X hW1 in
theorem P7{y:Sy}{c:cP}{fr:Frame}{frs:acb}(h:kz c.1=some (n.tS,n.tU,pt b 1))(a:FR y c.1 fr):rJ P Wd (G fr (frs++cs)) (G (fr.finish (.pointer (some ⟨b,1,none⟩))) (frs++cs)):=by obtain⟨t,d,e,f⟩:=X.Xi;exact⟨rfl,λmain w g=>tX a h d e f (hW1 w g)⟩
include X hW0 in
theorem KR{y:Sy}{c:cP}{fr:Frame}{frs:acb}(h:kz c.1=some (n.tG,n.tU,pt b 0))(a:FR y c.1 fr):rJ P Wd (G fr (frs++cs)) (G (fr.finish (.pointer (some ⟨b,0,none⟩))) (frs++cs)):=by obtain⟨t,d,e,f⟩:=X.Xh;exact⟨rfl,λmain w g=>tX a h d e f (hW0 w g)⟩
theorem sH{f:FuncId}{args:acA}{dJ:abY}{y:Sy}{fn:Func}{body:Code}(b:P.funcs[f]?=some fn)(c:fn.body=some body)(d:args.length=dJ.size)(e:∀(i:Nat) a,args[i]?=some a->∃x,dJ[i]?=some x/\SR y a x):FR y (dH P f args kind) (Frame.enter P f dJ kind):=by
 refine⟨by simp[dH,b,Frame.enter],by simp[dH,b,c,Frame.enter],by simp[dH,b,Frame.enter],by simp[dH,b,Frame.enter,CC.of],by simp[dH,b,Frame.enter],rfl,by simp[dH,b,Frame.enter,d],λt=>?_⟩;simp only[dH,b,Frame.enter,ZR,aaf];rw[abb,zA];by_cases g:t<args.length
 . grind
 . rw[aaB (by omega),ZK (by omega),List.getElem?_replicate]
   split<;>trivial
include X in
theorem yX:∃e,sB P Wd (G (Frame.enter P n.add #[.pointer (some ⟨b,0,none⟩),.int .i64 1] kind) cs) e/\qZ P n b kind .a0 cs e:=by
 obtain⟨fn,body,f,g,q,r⟩:=X.QY
 have j:FR y0 (dH P n.add [pt b 0,i64 1] kind) (Frame.enter P n.add #[.pointer (some ⟨b,0,none⟩),.int .i64 1] kind):=sH f g rfl λi a h=>by
  match i with
  |0=>simp at h;subst h;exact⟨_,rfl,rfl⟩
  |1=>simp at h;subst h;exact⟨_,rfl,rfl⟩
  |i+2=>simp at h
 have k:kX.At y0:=⟨by decide,by decide,rfl,rfl,rfl,rfl,rfl,by decide⟩;obtain⟨m,d,c,l,o,p⟩:=lJ (Wd:=Wd) (P:=P) k 400 j (st:=[]) (frs:=[]) trivial;exact⟨_,⟨m,p cs⟩,_,y0,d,c,rfl,sF,l,o,rfl⟩
theorem EZ:kX.At y0:=⟨by decide,by decide,rfl,rfl,rfl,rfl,rfl,by decide⟩
include X in
theorem pJ(C:gM P n):∃e,sB P Wd (G (Frame.enter P n.wait #[.pointer (some ⟨b,0,none⟩)] kind) cs) e/\qZ P n b kind .w0 cs e:=by
 obtain⟨fn,body,f,g,p,q⟩:=X.KQ
 have j:FR y0 (dH P n.wait [pt b 0] kind) (Frame.enter P n.wait #[.pointer (some ⟨b,0,none⟩)] kind):=sH f g rfl λi a h=>by
  match i with
  |0=>simp at h;subst h;exact⟨_,rfl,rfl⟩
  |i+1=>simp at h
 obtain⟨m,d,c,k,l,o⟩:=lJ (Wd:=Wd) (P:=P) EZ 400 j (st:=[]) (frs:=[]) trivial;exact⟨_,⟨m,o cs⟩,_,y0,d,c,rfl,sF,k.keep [0],l.qX [],rfl⟩
include X hW0 in
theorem xm(C:gM P n):∃f,sB P Wd (G (Frame.enter P n.done #[.pointer (some ⟨b,0,none⟩)] .deferred) cs) f/\qZ P n b kind .d1 cs f:=by
 obtain⟨fn,body,l,o,A,B⟩:=X.KP
 have p:FR y0 (dH P n.done [pt b 0] .deferred) (Frame.enter P n.done #[.pointer (some ⟨b,0,none⟩)] .deferred):=sH l o rfl λi a h=>by
  match i with
  |0=>simp at h;subst h;exact⟨_,rfl,rfl⟩
  |i+1=>simp at h
 obtain⟨m,q,g,j,r,s⟩:=lJ (Wd:=Wd) (P:=P) EZ 400 p (st:=[]) (frs:=[]) trivial;obtain⟨k,t,u⟩:=C.d0 b;obtain⟨e,d,w,y,z⟩:=EX (P:=P) (Wd:=Wd) (c:=D0 P n b) (v:=pt b 0) (x:=.pointer (some ⟨b,0,none⟩)) (.inr ⟨_,k⟩) j r t u (λ_=>rfl);exact⟨_,sB.trans ⟨m,s cs⟩ (sB.trans (KR X hW0 (cs:=cs) k j).zK (z cs)),_,y0,e,d,rfl,sF,w,y,rfl⟩
include C X in
theorem VL(h:qZ P n b kind .a0 cs g)(j:kind≠.early):∃k,stepG P main g w=.go k w #[⟨.mark .disable,false,true⟩]/\iE P n b kind Wd .a2 cs k:=by
 obtain⟨c,y,fr,frs,rfl,I,l,f,rfl⟩:=h;obtain⟨m,q,r,t⟩:=C.a0 b kind;obtain⟨o,u,z,A⟩:=C.a1 b kind;refine⟨_,eP KJ l m (by rw[t];exact j) X.jl,rfl,?_⟩;obtain⟨d,a,p,B,D⟩:=EX (P:=P) (Wd:=Wd) (v:=un) (x:=.tuple #[]) (.inl ⟨_,m⟩) l f q (by rw[r];rfl) (λ_=>rfl);obtain⟨i,e,E,F,H⟩:=EX (P:=P) (Wd:=Wd) (c:=A1 P n b kind) (v:=ff) (x:=.bool false) (.inl ⟨_,o⟩) p B u (by rw[z];rfl) (λ_=>rfl);have hb:rJ P Wd (G d (a++cs)) (G (d.finish (.bool false)) (a++cs)):=⟨rfl,λmain w _=>tW (s:=(A1 P n b kind).1) p o (by rw[A];exact j) X.OC⟩;exact⟨_,(D cs).trans (hb.zK.trans (H cs)),_,y0,i,e,rfl,sF,E,F,rfl⟩
include C X hW1 in
theorem VM{c v m:Nat}(o:qY b w c 0 m)(L:c<1000)(h:qZ P n b kind .a2 cs g):
 ∃p w',stepG P main g w=.go p w' #[⟨.cell ⟨b,0,none⟩,false,true⟩,⟨.cell ⟨b,0,none⟩,true,true⟩]/\w'=w.setCell ⟨b,0,none⟩ (.int .u64 (ew (c+1:Nat) 0))/\qY b w' (c+1) 0 m/\(iE P n b kind Wd .a4 cs p\/iE P n b kind Wd .ae cs p):=by
 obtain⟨cf,y,fr,frs,rfl,M,z,q,rfl⟩:=h;obtain⟨A,E,F,G⟩:=C.a2 b kind
 have e:IntKind.u64.wrap (ew c 0+4294967296)=ew (c+1:Nat) 0:=by
  rw[jZ (by unfold ew;omega) (by unfold ew;omega)];unfold ew;push_cast;omega
 have i:=pH (main:=main) (cs:=frs++cs) (w:=w) z A (kB E) X.sG (λx h=>h) o.cw (o.fz 0);rw[e]at i;have d:({y0 with c:=((c+1:Nat):Int)}:Sy).ok:=⟨by show(0:Int)<=2/\(2:Int)<=1000;decide,by show(0:Int)<=((c+1:Nat):Int)/\((c+1:Nat):Int)<=1000;omega⟩;have r:((c+1:Nat):Int)≠0:=by omega
 obtain⟨s,j,t,B,D⟩:=ma (P:=P) (Wd:=Wd) (y:={y0 with c:=((c+1:Nat):Int)}) (v:=.ew 0) (x:=.int .u64 (ew (c+1:Nat) 0)) (.inl ⟨_,A⟩) d (z.gL F) (q.gL G) rfl;refine⟨_,_,i,rfl,o.aT (c+1) 0,?_⟩;by_cases f:((c+1:Nat):Int)=1
 . left
   have H:=Xj (y:={y0 with c:=((c+1:Nat):Int)}) (a:=true) (by simpa using f);have k:=C.a3 b kind (Fl.of {y0 with c:=((c+1:Nat):Int)});rw[H]at k;obtain⟨u,l,I,J,K⟩:=ma (P:=P) (Wd:=Wd) (v:=pt b 1) (x:=.pointer (some ⟨b,1,none⟩)) (.inr ⟨_,k⟩) d t B rfl;exact⟨rfl,_,(D cs).trans ((P7 X hW1 (cs:=cs) k t).zK.trans (K cs)),_,_,u,l,⟨rfl,f⟩,d,I,J,rfl⟩
 . right
   exact⟨rfl,_,D cs,_,_,s,j,⟨r,.inr ⟨rfl,f⟩⟩,d,t,B,rfl⟩
end
section
variable{P:acD}{n:HV}(C:gM P n)(X:iD P n){b:Nat}{kind:acv}{Wd:abZ}{cs:acb}{g:aco}{w:World}{main:Bool}
variable(hW0:∀w,Wd w->∃v,w.cell? ⟨b,0,none⟩=some v)(hW1:∀w,Wd w->∃v,w.cell? ⟨b,1,none⟩=some v)
theorem Bo{y:Sy}(h:y.c≠0):decide (y.c=0)=false:=by grind
include C X in
theorem VN(h:qZ P n b kind .a4 cs g)(p:kind≠.early):∃k,stepG P main g w=.go k w #[⟨.mark (.read ⟨b,1,none⟩),false,true⟩]/\iE P n b kind Wd .ae cs k:=by
 obtain⟨c,y,fr,frs,⟨rfl,e⟩,l,m,f,rfl⟩:=h;have q:=Xj (y:=y) (a:=true) (by simpa using e);obtain⟨i,o⟩:=C.a4 b kind (Fl.of y);rw[q]at i o;obtain⟨j,d,r,s,t⟩:=ma (P:=P) (Wd:=Wd) (v:=un) (x:=.tuple #[]) (.inl ⟨_,i⟩) l m f rfl;exact⟨_,fD (λu g h=>by cases h) m i (by rw[o];exact p) X.rd,rfl,_,t cs,_,y,j,d,⟨by rw[e];decide,.inl ⟨rfl,e⟩⟩,l,r,s,rfl⟩
include C X in
theorem VO {e:Frame} {rest:acb} (h:qZ P n b kind .ae (e :: rest) g) (t:kind ≠ .early):∃ d,stepG P main g w = .go d w #[⟨.mark .enable,false,true⟩]∧d.status = .running∧sB P Wd d (jW kind e rest (.tuple #[])):=by
 obtain⟨c,y,fr,frs,⟨f,i⟩,E,u,j,rfl⟩:=h;obtain⟨fn,body,f1,F,H,v⟩:=X.QY
 have key:rL c.1=some n.en->c.2=[]->c.1.kind=kind->c.1.fn=n.add->∃ d,stepG P main (G fr (frs ++ e :: rest)) w = .go d w #[⟨.mark .enable,false,true⟩]∧d.status = .running∧sB P Wd d (jW kind e rest (.tuple #[])):=fun q x s z=>by
  rw[x] at j;obtain rfl:=j.mC;obtain⟨A,B⟩:=Bn (main:=main) (cs:=[] ++ e :: rest) (w:=w) u q X.en
  have k:j7 ({ c.1 with defers:=[] }:jJ) n.add=true:=by
   unfold j7;unfold rL at q;split at q
   . rename_i g cap as D hd;simp[D,z]
   . cases q
  refine⟨_,A,rfl,?_⟩;have:=kY (Wd:=Wd) (c:=e) (rest:=rest) B k f1 v (by show c.1.kind≠_;rw[s];exact t)
  rw[show ({ c.1 with defers:=[] }:jJ).kind=kind from s] at this
  exact this.zK
 rcases i with ⟨rfl,i⟩|⟨rfl,i⟩
 . have r:=f10 (y:=y) (a:=true) (c:=false) (by simpa using i) (Bo f)
   obtain⟨l,m,o,p⟩:=C.a5 b kind (Fl.of y);rw[r] at l m o p;exact key l m o p
 . have r:=f10 (y:=y) (a:=false) (c:=false) (by simpa using i) (Bo f)
   obtain⟨l,m,o,p⟩:=C.a6 b kind (Fl.of y);rw[r] at l m o p;exact key l m o p
include C X in
theorem VP(h:qZ P n b kind .d1 cs g):∃f,stepG P main g w=.go f w #[⟨.mark (.releaseMerge ⟨b,0,none⟩),false,true⟩]/\iE P n b kind Wd .d2 cs f:=by
 obtain⟨c,y,fr,frs,rfl,r,i,d,rfl⟩:=h;obtain⟨j,k,l,m⟩:=C.d1 b;obtain⟨e,a,o,p,q⟩:=EX (P:=P) (Wd:=Wd) (v:=un) (x:=.tuple #[]) (.inl ⟨_,j⟩) i d l m (λ_=>rfl);exact⟨_,fD (λs g h=>by cases h) i j (kB k) X.rel,rfl,_,q cs,_,y0,e,a,rfl,sF,o,p,rfl⟩
include C X in
theorem VQ(h:qZ P n b kind .d2 cs g):∃j,stepG P main g w=.go j w #[⟨.mark .disable,false,true⟩]/\iE P n b kind Wd .d4 cs j:=by
 obtain⟨c,y,fr,frs,rfl,H,k,f,rfl⟩:=h;obtain⟨l,p,q,r⟩:=C.d2 b;obtain⟨m,t,u,z⟩:=C.d3 b;refine⟨_,eP KJ k l (kB p) X.jl,rfl,?_⟩;obtain⟨d,a,o,A,B⟩:=EX (P:=P) (Wd:=Wd) (v:=un) (x:=.tuple #[]) (.inl ⟨_,l⟩) k f q r (λ_=>rfl);obtain⟨i,e,D,E,F⟩:=EX (P:=P) (Wd:=Wd) (c:=D3 P n b) (v:=ff) (x:=.bool false) (.inl ⟨_,m⟩) o A u z (λ_=>rfl);have hb:rJ P Wd (G d (a++cs)) (G (d.finish (.bool false)) (a++cs)):=⟨rfl,λmain w _=>tW (s:=(D3 P n b).1) o m (kB t) X.OC⟩;exact⟨_,(B cs).trans (hb.zK.trans (F cs)),_,y0,i,e,rfl,sF,D,E,rfl⟩
def kD(P:acD)(a:FuncId)(tmps:abY)(todo:acm):Frame:=⟨a,tmps,todo,[],.returning,.deferred,none⟩
def cI(P:acD):Frame:={(default:Frame)with fn:=P.funcs.size,defers:=[],mode:=.panicking [goexitEntry]}
theorem ub{a:FuncId}{fn:Func}{tmps:abY}{todo:acm}(c:P.funcs[a]?=some fn)(d:fn.results=#[]):QuitsD P 2 0 (G (kD P a tmps todo) [cI P]):=by
 refine .ctl (g':=G (cI P) []) rfl (λw=>?_) (.ctl (g':={G (cI P) []with status:=.finished}) rfl (λw=>?_) ⟨rfl,rfl⟩)
 . simp[G,stepG,unwind,c,results,d,kD,cI,goexitEntry]
   rfl
 . have b:(cI P).catches P=false:=by
    simp[Frame.catches,cI];rfl
   simp[G,stepG,unwind,cI,goexitEntry]at b ⊢;simp[b]
theorem uf{d:Nat}:∀{m k:Nat}{a c:aco},jb P (λ_=>True) m a c->QuitsD P k d c->QuitsD P (k+m) d a
 |0,k,a,c,h,b=>by obtain rfl:=h;exact b
 |m+1,k,a,c,h,b=>by obtain⟨i,⟨e,f⟩,g⟩:=h;exact .ctl e (λw=>f false w trivial) (uf g b)
include X in
theorem xn{c:cP}{y:Sy}{fr:Frame}{frs:acb}{a:FuncId}{fn:Func}{tmps:abY}{todo:acm}(o:P.funcs[a]?=some fn)(b:fn.results=#[])(p:y.ok)(j:FR y c.1 fr)(e:l8 y c.2 frs)
 (k:rL c.1=some n.en) (q:j7 (l9 P (Fl.of y) c).1 n.done=true) (r:(l9 P (Fl.of y) c).2=[]) (l:(l9 P (Fl.of y) c).1.kind=.deferred):∃m,QuitsD P m 1 (G fr (frs++[kD P a tmps todo,cI P])):=by
 obtain⟨_,f⟩:=Bn (P:=P) (main:=false) (cs:=frs++[kD P a tmps todo,cI P]) (w:=default) j k X.en;obtain⟨m,g,d,s,t,u⟩:=lJ (Wd:=λ_=>True) (P:=P) (Fl.CN p) 400 f e
 have h:l8 y [] d:=by rw[<-r];exact t
 obtain rfl:=h.mC;obtain⟨fd,body,v,B,C,x⟩:=X.KP;have hb:=kY (Wd:=λ_=>True) (c:=kD P a tmps todo) (rest:=[cI P]) s q v x (by show(l9 P (Fl.of y) c).1.kind≠_;rw[l];decide)
 have i:jW (sgo P (Fl.of y) 400 {c.1 with defers:=[]} c.2).1.kind (kD P a tmps todo) [cI P] (.tuple #[])=G (kD P a tmps todo) [cI P]:=by rw[show(sgo P (Fl.of y) 400 {c.1 with defers:=[]} c.2).1.kind=.deferred from l];rfl
 rw[i]at hb;have z:QuitsD P (2+1) 0 (G g [kD P a tmps todo,cI P]):=.ctl rfl (λw=>hb.2 false w trivial) (ub o b)
 have A:=uf (u [kD P a tmps todo,cI P]) z;exact⟨_,.said ⟨.mark .enable,false,true⟩ rfl rfl (λw=>(Bn (P:=P) (main:=false) (cs:=frs++[kD P a tmps todo,cI P]) (w:=w) j k X.en).1) A⟩
def Gone(P:acD)(Wd:abZ)(a:aco):Prop:=∃m,QuitsD P m 1 a
theorem Bp{m k:Nat}{a c:aco}(h:jb P (λ_=>True) m a c)(b:QuitsD P k 1 c):Gone P Wd a:=⟨_,uf h b⟩
include C X in
theorem VR{k v m:Nat}{o:FuncId}{fn:Func}{tmps:abY}{todo:acm}(N:P.funcs[o]?=some fn)(f:fn.results=#[])(G:qY b w (k+1) v m)(R:k<1000)(S:v<=1)(h:qZ P n b kind .d4 [kD P o tmps todo,cI P] g):
 ∃H w',stepG P main g w=.go H w' #[⟨.cell ⟨b,0,none⟩,false,true⟩,⟨.cell ⟨b,0,none⟩,true,true⟩]/\w'=w.setCell ⟨b,0,none⟩ (.int .u64 (ew k v))/\qY b w' k v m/\((k=0/\v=1/\iE P n b kind Wd .d5 [kD P o tmps todo,cI P] H)\/(¬(k=0/\v=1)/\Gone P Wd H)):=by
 obtain⟨cf,y,fr,frs,rfl,T,E,i,rfl⟩:=h;obtain⟨F,O,I,J⟩:=C.d4 b
 have e:IntKind.u64.wrap (ew (k+1:Nat) v+18446744069414584320)=ew k v:=by
  have:ew (k+1:Nat) v+18446744069414584320=ew k v+18446744073709551616:=by unfold ew;push_cast;omega
  rw[this];simp[IntKind.wrap,IntKind.bits,IntKind.signed];unfold ew;omega
 have p:=pH (main:=main) (cs:=frs++[kD P o tmps todo,cI P]) (w:=w) E F (kB O) X.sG (λx h=>h) G.cw (G.fz 0)
 rw[e]at p;have a:({y0 with c:=(k:Int)}:Sy).ok:=⟨by show(0:Int)<=2/\(2:Int)<=1000;decide,by show(0:Int)<=(k:Int)/\(k:Int)<=1000;omega⟩
 refine⟨_,_,p,rfl,G.aT k v,?_⟩;have q:v=0\/v=1:=by omega
 rcases q with rfl|rfl
 . refine .inr ⟨by omega,?_⟩
   obtain⟨l,d,r,s,t⟩:=ma (P:=P) (Wd:=λ_=>True) (y:={y0 with c:=(k:Int)}) (v:=.ew 0) (x:=.int .u64 (ew k 0)) (.inl ⟨_,F⟩) a (E.gL I) (i.gL J) rfl
   have u:=C.d5 b (Fl.of {y0 with c:=(k:Int)}) (decide ((k:Int)=0))
   obtain⟨z,A,B⟩:=C.Xf b (Fl.of {y0 with c:=(k:Int)}) (decide ((k:Int)=0))
   rw[EY rfl]at u z A B;obtain⟨Q,K⟩:=xn X N f a r s u z A B;obtain⟨j,L⟩:=t [kD P o tmps todo,cI P];exact Bp L K
 . by_cases D:k=0
   . refine .inl ⟨D,rfl,?_⟩
     obtain⟨l,d,r,s,t⟩:=ma (P:=P) (Wd:=Wd) (y:={y0 with c:=(k:Int)}) (v:=.ew 1) (x:=.int .u64 (ew k 1)) (.inl ⟨_,F⟩) a (E.gL I) (i.gL J) rfl
     exact⟨rfl,_,t _,_,_,l,d,⟨rfl,by show(k:Int)=0;omega⟩,a,r,s,rfl⟩
   . refine .inr ⟨by omega,?_⟩
     obtain⟨l,d,r,s,t⟩:=ma (P:=P) (Wd:=λ_=>True) (y:={y0 with c:=(k:Int)}) (v:=.ew 1) (x:=.int .u64 (ew k 1)) (.inl ⟨_,F⟩) a (E.gL I) (i.gL J) rfl
     have M:decide ((k:Int)=0)=false:=by simpa using D
     have u:=C.d6 b (Fl.of {y0 with c:=(k:Int)})
     obtain⟨z,A,B⟩:=C.Xg b (Fl.of {y0 with c:=(k:Int)})
     rw[EY M]at u z A B;obtain⟨Q,K⟩:=xn X N f a r s u z A B;obtain⟨j,L⟩:=t [kD P o tmps todo,cI P];exact Bp L K
include C X in
theorem VS{m:Nat}(q:qY b w 0 1 m)(h:qZ P n b kind .d5 cs g):∃k,stepG P main g w=.go k w #[⟨.cell ⟨b,0,none⟩,false,true⟩]/\iE P n b kind Wd .d6 cs k:=by
 obtain⟨c,y,fr,frs,⟨rfl,e⟩,l,o,f,rfl⟩:=h;have r:=EY (y:=y) (a:=true) (by simpa using e)
 obtain⟨i,p⟩:=C.d7 b (Fl.of y);rw[r]at i p;have s:SR y (.ew 1) (.int .u64 (ew 0 1)):=by show _=Value.int .u64 (ew y.c 1);rw[e]
 obtain⟨j,d,t,u,v⟩:=ma (P:=P) (Wd:=Wd) (.inl ⟨_,i⟩) l o f s;exact⟨_,ua o i (kB p) X.vF q.cw,rfl,_,v cs,_,y,j,d,⟨rfl,e⟩,l,t,u,rfl⟩
include C X in
theorem VT{m:Nat}(e:qY b w 0 1 m)(h:qZ P n b kind .d6 cs g):∃k w',stepG P main g w=.go k w' #[⟨.cell ⟨b,0,none⟩,true,true⟩]/\w'=w.setCell ⟨b,0,none⟩ (.int .u64 (ew 0 0))/\qY b w' 0 0 m/\iE P n b kind Wd .d7 cs k:=by
 obtain⟨c,y,fr,frs,⟨rfl,l⟩,o,p,f,rfl⟩:=h;have r:=EY (y:=y) (a:=true) (by simpa using l);obtain⟨i,q⟩:=C.d8 b (Fl.of y);rw[r]at i q;obtain⟨j,d,s,t,u⟩:=ma (P:=P) (Wd:=Wd) (v:=un) (x:=.tuple #[]) (.inl ⟨_,i⟩) o p f rfl;exact⟨_,_,HU p i (kB q) X.HW e.cw (e.fz 0),rfl,e.aT 0 0,rfl,_,u cs,_,y,j,d,⟨rfl,l⟩,o,s,t,rfl⟩
include C X in
theorem VU{v m:Nat}{k:FuncId}{fn:Func}{tmps:abY}{todo:acm}(E:P.funcs[k]?=some fn)(d:fn.results=#[])(l:qY b w 0 v m)(M:m<=1000)(h:qZ P n b kind .d7 [kD P k tmps todo,cI P] g):
 ∃q w',stepG P main g w=.go q w' (semEvents ⟨b,1,none⟩)/\w'=w.setCell ⟨b,1,none⟩ (.int .u32 (m+1:Nat))/\qY b w' 0 v (m+1)/\Gone P Wd q:=by
 obtain⟨c,y,fr,frs,⟨rfl,F⟩,r,s,o,rfl⟩:=h;have f:=EY (y:=y) (a:=true) (by simpa using F)
 obtain⟨p,t⟩:=C.d9 b (Fl.of y);rw[f]at p t;have i:=og (main:=main) (cs:=frs++[kD P k tmps todo,cI P]) (w:=w) s p (kB t) X.oh l.cs (l.fz 1);have e:IntKind.u32.wrap ((m:Int)+1)=((m+1:Nat):Int):=by rw[IntKind.wrap_u32];omega
 rw[e]at i;obtain⟨G,u,H,I,J⟩:=ma (P:=P) (Wd:=λ_=>True) (v:=un) (x:=.tuple #[]) (.inl ⟨_,p⟩) r s o rfl
 have z:=C.da b (Fl.of y);obtain⟨A,B,D⟩:=C.db b (Fl.of y);rw[f]at z A B D;obtain⟨N,K⟩:=xn X E d r H I z A B D;obtain⟨j,L⟩:=J [kD P k tmps todo,cI P];exact⟨_,_,i,rfl,l.EV (m+1),Bp L K⟩
end
section
variable{P:acD}{n:HV}(C:gM P n)(X:iD P n){b:Nat}{kind:acv}{Wd:abZ}{cs:acb}{g:aco}{w:World}{main:Bool}
variable(hW0:∀w,Wd w->∃v,w.cell? ⟨b,0,none⟩=some v)(hW1:∀w,Wd w->∃v,w.cell? ⟨b,1,none⟩=some v)
include C X in
theorem VV(h:qZ P n b kind .w0 cs g)(k:kind≠.early):∃f,stepG P main g w=.go f w #[⟨.mark .disable,false,true⟩]/\iE P n b kind Wd .w1 cs f:=by
 obtain⟨c,y,fr,frs,rfl,s,i,d,rfl⟩:=h;obtain⟨j,l,m,o⟩:=C.w0 b kind;obtain⟨e,a,p,q,r⟩:=EX (P:=P) (Wd:=Wd) (v:=un) (x:=.tuple #[]) (.inl ⟨_,j⟩) i d l (by rw[m];rfl) (λ_=>rfl);exact⟨_,eP KJ i j (by rw[o];exact k) X.jl,rfl,_,r cs,_,y0,e,a,rfl,sF,p.keep [5],q.qX [[0]],rfl⟩
include C X in
theorem VW{c m:Nat}(r:qY b w c 0 m)(z:c<=1000)(h:qZ P n b kind .w1 cs g):
 ∃f,stepG P main g w=.go f w #[⟨.cell ⟨b,0,none⟩,false,true⟩]/\((c=0/\iE P n b kind Wd .we cs f)\/(c≠0/\iE P n b kind Wd (.w2 c) cs f)):=by
 obtain⟨cf,y,fr,frs,rfl,A,k,i,rfl⟩:=h;obtain⟨l,s,t,u⟩:=C.w1 b kind;have d:({y0 with c:=(c:Int)}:Sy).ok:=⟨by show(0:Int)<=2/\(2:Int)<=1000;decide,by show(0:Int)<=(c:Int)/\(c:Int)<=1000;omega⟩;obtain⟨e,a,o,p,q⟩:=ma (P:=P) (Wd:=Wd) (y:={y0 with c:=(c:Int)}) (v:=.ew 0) (x:=.int .u64 (ew c 0)) (.inl ⟨_,l⟩) d (k.gL t) (i.gL u) rfl;refine⟨_,ua k l (kB s) X.vF r.cw,?_⟩;by_cases j:c=0
 . exact .inl ⟨j,rfl,_,q cs,_,_,e,a,.inl ⟨rfl,by show(c:Int)=0;omega⟩,d,o,p,rfl⟩
 . exact .inr ⟨j,rfl,_,q cs,_,_,e,a,⟨rfl,rfl,j⟩,d,o,p,rfl⟩
include C X hW0 in
theorem VX(h:qZ P n b kind .we cs g)(D:kind≠.early):∃E,stepG P main g w=.go E w #[⟨.mark .enable,false,true⟩]/\iE P n b kind Wd .wa cs E:=by
 obtain⟨c,y,fr,frs,e,k,q,l,rfl⟩:=h;rcases e with⟨rfl,e⟩|⟨rfl,e⟩
 . have r:=EY (y:=y) (a:=true) (by simpa using e)
   obtain⟨f,m⟩:=C.w2 b kind (Fl.of y);have i:=C.w3 b kind (Fl.of y);rw[r]at f m i;obtain⟨s,o,p,t,u⟩:=ma (P:=P) (Wd:=Wd) (v:=un) (x:=.tuple #[]) (.inl ⟨_,f⟩) k q l rfl;obtain⟨j,d,z,A,B⟩:=ma (P:=P) (Wd:=Wd) (c:=WC P n b kind (Fl.of y)) (v:=pt b 0) (x:=.pointer (some ⟨b,0,none⟩)) (.inr ⟨_,i⟩) k p t rfl;exact⟨_,eP KL q f (by rw[m];exact D) X.en,rfl,_,(u cs).trans ((KR X hW0 (c:=WC P n b kind (Fl.of y)) (cs:=cs) i p).zK.trans (B cs)),_,y,j,d,.inl ⟨rfl,e⟩,k,z,A,rfl⟩
 . have r:=EY (y:=y) (a:=false) (Bo e)
   obtain⟨f,m⟩:=C.wc b kind (Fl.of y);have i:=C.wd b kind (Fl.of y);rw[r]at f m i;obtain⟨s,o,p,t,u⟩:=ma (P:=P) (Wd:=Wd) (v:=un) (x:=.tuple #[]) (.inl ⟨_,f⟩) k q l rfl;obtain⟨j,d,z,A,B⟩:=ma (P:=P) (Wd:=Wd) (c:=TG P n b kind (Fl.of y)) (v:=pt b 0) (x:=.pointer (some ⟨b,0,none⟩)) (.inr ⟨_,i⟩) k p t rfl;exact⟨_,eP KL q f (by rw[m];exact D) X.en,rfl,_,(u cs).trans ((KR X hW0 (c:=TG P n b kind (Fl.of y)) (cs:=cs) i p).zK.trans (B cs)),_,y,j,d,.inr ⟨rfl,e⟩,k,z,A,rfl⟩
include C X in
theorem TH{j:Frame}{rest:acb}(h:qZ P n b kind .wa (j::rest) g)(q:kind≠.early):∃t,stepG P main g w=.go t w #[⟨.mark (.acquire ⟨b,0,none⟩),false,true⟩]/\t.status=.running/\sB P Wd t (jW kind j rest (.tuple #[])):=by
 obtain⟨c,y,fr,frs,k,E,r,l,rfl⟩:=h;obtain⟨fn,body,f1,H,I,F⟩:=X.KQ;rcases k with⟨rfl,k⟩|⟨rfl,k⟩
 . have u:=EY (y:=y) (a:=true) (by simpa using k)
   obtain⟨f,m⟩:=C.w4 b kind (Fl.of y);obtain⟨o,p,i⟩:=C.w5 b kind (Fl.of y);rw[u]at f m o p i;obtain⟨z,d,A,B,D⟩:=ma (P:=P) (Wd:=Wd) (v:=un) (x:=.tuple #[]) (.inl ⟨_,f⟩) E r l rfl;have e:l8 y (WB P n b kind (Fl.of y)).2 d:=B;rw[p]at e;obtain rfl:=e.mC;have hb:=kY (Wd:=Wd) (c:=j) (rest:=rest) (s:=(WB P n b kind (Fl.of y)).1) A o f1 F (by rw[i];exact q);rw[i]at hb;exact⟨_,fD (λG g h=>by cases h) r f (by rw[m];exact q) X.acq,rfl,(D (j::rest)).trans hb.zK⟩
 . have u:=EY (y:=y) (a:=false) (Bo k)
   obtain⟨f,m⟩:=C.we b kind (Fl.of y);obtain⟨o,p,i⟩:=C.wf b kind (Fl.of y);rw[u]at f m o p i;obtain⟨z,d,A,B,D⟩:=ma (P:=P) (Wd:=Wd) (v:=un) (x:=.tuple #[]) (.inl ⟨_,f⟩) E r l rfl;have e:l8 y (P6 P n b kind (Fl.of y)).2 d:=B;rw[p]at e;obtain rfl:=e.mC;have hb:=kY (Wd:=Wd) (c:=j) (rest:=rest) (s:=(P6 P n b kind (Fl.of y)).1) A o f1 F (by rw[i];exact q);rw[i]at hb;exact⟨_,fD (λG g h=>by cases h) r f (by rw[m];exact q) X.acq,rfl,(D (j::rest)).trans hb.zK⟩
theorem OD{c c' v a:Nat}(d:v<=1000)(b:a<=1000):ew c v=ew c' a↔(c=c'/\v=a):=by unfold ew;omega
include C X hW1 in
theorem VY{k c m:Nat}(l:qY b w c 0 m)(h:qZ P n b kind (.w2 k) cs g):
 (c=k/\∃o w',stepG P main g w=.go o w' #[⟨.cell ⟨b,0,none⟩,false,true⟩,⟨.cell ⟨b,0,none⟩,true,true⟩]/\w'=w.setCell ⟨b,0,none⟩ (.int .u64 (ew k 1))/\qY b w' k 1 m/\iE P n b kind Wd .w3 cs o)\/
 (c≠k/\∃o,stepG P main g w=.go o w #[⟨.cell ⟨b,0,none⟩,false,true⟩]/\iE P n b kind Wd .w1 cs o):=by
 obtain⟨cf,y,fr,frs,⟨rfl,K,L⟩,p,z,q,rfl⟩:=h;have r:y.c≠0:=by rw[K];omega
 have D:=EY (y:=y) (a:=false) (Bo r);obtain⟨s,E⟩:=C.w6 b kind (Fl.of y);rw[D]at s E
 have A:∀j:Nat,∀x,SR y (.ew j) x->x=.int .u64 (ew k j):=λj x F=>by have F:x=.int .u64 (ew y.c j):=F;rw[F,K]
 by_cases f:c=k
 . subst f
   refine .inl ⟨rfl,_,_,hQ z s (kB E) X.xl (A 0) (A 1) l.cw (l.fz 0),rfl,l.aT c 1,rfl,?_⟩;have i:=C.w8 b kind (Fl.of y);rw[D]at i;obtain⟨t,d,B,G,H⟩:=ma (P:=P) (Wd:=Wd) (v:=tt) (x:=.bool true) (.inl ⟨_,s⟩) p z q rfl;obtain⟨I,u,M,N,O⟩:=ma (P:=P) (Wd:=Wd) (c:=W3 P n b kind (Fl.of y)) (v:=pt b 1) (x:=.pointer (some ⟨b,1,none⟩)) (.inr ⟨_,i⟩) p B G rfl;exact⟨_,(H cs).trans ((P7 X hW1 (c:=W3 P n b kind (Fl.of y)) (cs:=cs) i B).zK.trans (O cs)),_,y,I,u,⟨rfl,r⟩,p,M,N,rfl⟩
 . have J:¬ew c 0=ew k 0:=λe=>f ((OD (by omega) (by omega)).1 e).1
   refine .inr ⟨f,_,iC z s (kB E) X.xl (A 0) (A 1) l.cw (l.fz 0) J,rfl,?_⟩;have i:=C.w7 b kind (Fl.of y);rw[D]at i;obtain⟨t,d,B,G,H⟩:=ma (P:=P) (Wd:=Wd) (v:=ff) (x:=.bool false) (.inl ⟨_,s⟩) p z q rfl;have Q:=B.keep [5];have R:=G.qX [[0]];refine⟨_,H cs,W1 P n b kind,y,t,d,rfl,p,?_,?_,rfl⟩
   . rw[<-i];exact Q
   . rw[<-i];exact R
include C X in
theorem VZ(h:qZ P n b kind .w3 cs g)(p:kind≠.early):∃j,stepG P main g w=.go j w #[⟨.mark (.write ⟨b,1,none⟩),false,true⟩]/\iE P n b kind Wd .w4 cs j:=by obtain⟨c,y,fr,frs,⟨rfl,k⟩,l,m,e,rfl⟩:=h;have q:=EY (y:=y) (a:=false) (Bo k);obtain⟨f,o⟩:=C.w9 b kind (Fl.of y);rw[q]at f o;obtain⟨i,d,r,s,t⟩:=ma (P:=P) (Wd:=Wd) (v:=un) (x:=.tuple #[]) (.inl ⟨_,f⟩) l m e rfl;exact⟨_,fD (λu g h=>by cases h) m f (by rw[o];exact p) X.wr,rfl,_,t cs,_,y,i,d,⟨rfl,k⟩,l,r,s,rfl⟩
include C X in
theorem V0{c v m:Nat}(i:qY b w c v m)(D:m≠0)(h:qZ P n b kind .w4 cs g)(t:kind≠.early):
 ∃o w',stepG P main g w=.go o w' (semEvents ⟨b,1,none⟩)/\w'=w.setCell ⟨b,1,none⟩ (.int .u32 (m-1:Nat))/\qY b w' c v (m-1)/\iE P n b kind Wd .w5 cs o:=by
 obtain⟨cf,y,fr,frs,⟨rfl,p⟩,q,r,j,rfl⟩:=h;have u:=EY (y:=y) (a:=false) (Bo p);obtain⟨k,s⟩:=C.wa b kind (Fl.of y);rw[u]at k s;have d:=sD (main:=main) (cs:=frs++cs) (w:=w) (n:=(m:Int)) r k (by rw[s];exact t) X.ER i.cs (by omega) (i.fz _);have e:((m:Int)-1)=((m-1:Nat):Int):=by omega
 rw[e]at d;obtain⟨l,f,z,A,B⟩:=ma (P:=P) (Wd:=Wd) (v:=un) (x:=.tuple #[]) (.inl ⟨_,k⟩) q r j rfl;exact⟨_,_,d,rfl,i.EV (m-1),rfl,_,B cs,_,y,l,f,⟨rfl,p⟩,q,z,A,rfl⟩
include C X in
theorem TJ{c v:Nat}(e:qY b w c v 0)(h:qZ P n b kind .w4 cs g):stepG P main g w=.go {g with status:=.blocked} w #[]:=by obtain⟨cf,y,fr,frs,⟨rfl,f⟩,m,i,j,rfl⟩:=h;have k:=EY (y:=y) (a:=false) (Bo f);obtain⟨d,l⟩:=C.wa b kind (Fl.of y);rw[k]at d l;exact zP i d X.ER e.cs
include C X in
theorem V1{m:Nat}(r:qY b w 0 0 m)(h:qZ P n b kind .w5 cs g):∃k,stepG P main g w=.go k w #[⟨.cell ⟨b,0,none⟩,false,true⟩]/\iE P n b kind Wd .we cs k:=by obtain⟨c,y,fr,frs,⟨rfl,l⟩,o,p,e,rfl⟩:=h;have s:=EY (y:=y) (a:=false) (Bo l);obtain⟨f,q⟩:=C.wb b kind (Fl.of y);rw[s]at f q;have i:=ua (main:=main) (cs:=frs++cs) p f (kB q) X.vF r.cw;obtain⟨j,d,t,u,z⟩:=ma (P:=P) (Wd:=Wd) (v:=u64 0) (x:=.int .u64 0) (.inl ⟨_,f⟩) o p e rfl;exact⟨_,i,rfl,_,z cs,_,y,j,d,.inr ⟨rfl,l⟩,o,t,u,rfl⟩
end
structure mc(P:acD)(n:yV):Prop where
 lock:∃fn body,P.funcs[n.lock]?=some fn/\fn.body=some body/\fn.ntmps=6/\fn.results=#[]
 unlock:∃fn body,P.funcs[n.unlock]?=some fn/\fn.body=some body/\fn.ntmps=6/\fn.results=#[]
section
variable{P:acD}{n:yV}(C:gn P n)(X:gq P n)(F:mc P n){b o:Nat}{kind:acv}{Wd:abZ}{cs:acb}{g:aco}{w:World}{main:Bool}
include F in
theorem q8:∃a,sB P Wd (G (Frame.enter P n.lock #[.pointer (some ⟨b,o,none⟩)] kind) cs) a/\nT P n b o kind .ld cs a:=by obtain⟨fn,body,c,d,e,f⟩:=F.lock;exact EW ⟨fn,body,c,d,e⟩
include F in
theorem oY:∃e,sB P Wd (G (Frame.enter P n.unlock #[.pointer (some ⟨b,o,none⟩)] kind) cs) e/\nT P n b o kind .Gy cs e:=by
 obtain⟨fn,body,f,g,q,r⟩:=F.unlock
 have j:FR y0 (dH P n.unlock [pt b o] kind) (Frame.enter P n.unlock #[.pointer (some ⟨b,o,none⟩)] kind):=sH f g rfl λi a h=>by
  match i with
  |0=>simp at h;subst h;exact⟨_,rfl,rfl⟩
  |i+1=>simp at h
 obtain⟨m,d,c,k,l,p⟩:=lJ (Wd:=Wd) (P:=P) EZ 400 j (st:=[]) (frs:=[]) trivial;exact⟨_,⟨m,p cs⟩,_,y0,d,c,rfl,sF,k.keep [0,5],l.keep [],rfl⟩
include F in
theorem sI{c:Frame}{rest:acb}(h:nT P n b o kind .back (c::rest) g)(e:kind≠.early):sB P Wd g (jW kind c rest (.tuple #[])):=by obtain⟨cf,y,fr,frs,rfl,l,i,a,rfl⟩:=h;obtain⟨fn,body,j,m,p,k⟩:=F.lock;have d:l8 y [] frs:=a;obtain rfl:=d.mC;exact(kY (Wd:=Wd) (c:=c) (rest:=rest) (s:=(BK n kind).1) (f:=n.lock) i (by simp[BK,j7]) j k e).zK
include F in
theorem lL{c:Frame}{rest:acb}(h:nT P n b o kind .CO (c::rest) g)(e:kind≠.early):sB P Wd g (jW kind c rest (.tuple #[])):=by obtain⟨cf,y,fr,frs,rfl,l,i,a,rfl⟩:=h;obtain⟨fn,body,j,m,p,k⟩:=F.unlock;have d:l8 y [] frs:=a;obtain rfl:=d.mC;exact(kY (Wd:=Wd) (c:=c) (rest:=rest) (s:=(Tu n kind).1) (f:=n.unlock) i (by simp[Tu,j7]) j k e).zK
end
