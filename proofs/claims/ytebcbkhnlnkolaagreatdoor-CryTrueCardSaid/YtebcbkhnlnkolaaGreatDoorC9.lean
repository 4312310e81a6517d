import Derived.Conc.QuitsD
import Derived.Test.YtebcbkhnlnkolaaGreatDoorC8
set_option linter.all false
namespace Go.cE
open Go.Conc
inductive Hv where
 |a0|a2|a4|ae
 |d1|d2|d4|d5|d6|d7
 |w0|w1|we|wa|w2 (c:Nat)|w3|w4|w5
structure rD  b  (w:World) (c v m:Nat):Prop where
 cw:w.cell? ⟨b,0,none⟩=some (.int .u64 (eE c v))
 cs:w.cell? ⟨b,1,none⟩=some (.int .u32 m)
 fz:∀i,w.frozen? ⟨b,i,none⟩=false
def rD.aW{b w c v m}(h:rD b w c v m)(c' a:Nat):rD b (w.setCell ⟨b,0,none⟩ (.int .u64 (eE c' a))) c' a m:=⟨jY h.cw,by rw[dF (by simp)];exact h.cs,λi=>by rw[oD];exact h.fz i⟩
def rD.Fy{b w c v m}(h:rD b w c v m)(a:Nat):rD b (w.setCell ⟨b,1,none⟩ (.int .u32 a)) c v a:=⟨by rw[dF (by simp)];exact h.cw,jY h.cs,λi=>by rw[oD];exact h.fz i⟩
section
variable(P:adh)(n:Pm)(b:Nat)(kind:adb)
def ZC(p:Hv)(c:cQ)(y:Sy):Prop:=
 match p with
 |.a0=>c=A0 P n b kind
 |.a2=>c=A2 P n b kind
 |.a4=>c=A4 P n b kind (Fl.of y)/\y.c=1
 |.ae=>y.c≠0/\((c=A5 P n b kind (Fl.of y)/\y.c=1)\/(c=A3 P n b kind (Fl.of y)/\y.c≠1))
 |.d1=>c=D1 P n b
 |.d2=>c=D2 P n b
 |.d4=>c=D4 P n b
 |.d5=>c=DE P n b (Fl.of y) 1/\y.c=0
 |.d6=>c=D6 P n b (Fl.of y)/\y.c=0
 |.d7=>c=D7 P n b (Fl.of y)/\y.c=0
 |.w0=>c=W0 P n b kind
 |.w1=>c=W1 P n b kind
 |.we=>(c=WE P n b kind (Fl.of y)/\y.c=0)\/(c=Tn P n b kind (Fl.of y)/\y.c≠0)
 |.wa=>(c=WA P n b kind (Fl.of y)/\y.c=0)\/(c=Tp P n b kind (Fl.of y)/\y.c≠0)
 |.w2 k=>c=WE P n b kind (Fl.of y)/\y.c=k/\k≠0
 |.w3=>c=Tm P n b kind (Fl.of y)/\y.c≠0
 |.w4=>c=W4 P n b kind (Fl.of y)/\y.c≠0
 |.w5=>c=W5 P n b kind (Fl.of y)/\y.c≠0
def rE(p:Hv)(cs:acR)(g:acW):Prop:=∃c y fr frs,ZC P n b kind p c y/\y.ok/\FR y c.1 fr/\mr y c.2 frs/\g=G fr (frs++cs)
def iG(Wd:acM)(p:Hv)(cs:acR)(a:acW):Prop:=a.status=.running/\∃c,sU P Wd a c/\rE P n b kind p cs c
end
def rE.running{P n b kind p cs g}(h:rE P n b kind p cs g):g.status=.running/\g.offers=none:=by obtain⟨c,y,fr,frs,_,_,_,_,rfl⟩:=h;exact⟨rfl,rfl⟩
def Aa{s v}(h:(∃x,bc s=some x)\/(∃x,kG s=some x)):∃s',xA s v=some s':=by
 unfold xA;rcases h with⟨x,h⟩|⟨x,h⟩
 . unfold bc at h
   split at h
   . simp_all
   . cases h
 . unfold kG at h
   split at h
   . simp_all
   . cases h
section
variable{P:adh}{Wd:acM}{y:Sy}{c:cQ}{v:SV}{x:Value}{fr:Frame}{frs:acR}
def mz(h:(∃x,bc c.1=some x)\/(∃x,kG c.1=some x))(f:y.ok)(g:FR y c.1 fr)(d:mr y c.2 frs)(i:SR y v x):
 ∃b a,FR y (next P (Fl.of y) c v).1 b/\mr y (next P (Fl.of y) c v).2 a/\∀cs,sU P Wd (G (fr.finish x) (frs++cs)) (G b (a++cs)):=by
 obtain⟨n,e⟩:=Aa (v:=v) h;obtain⟨m,b,a,j,k,l⟩:=lP (Wd:=Wd) (Fl.C' f) 400 (P:=P) (g.fin e i) d;unfold next
 rw[e];exact⟨b,a,j,k,λcs=>⟨m,l cs⟩⟩
def FB(h:(∃x,bc c.1=some x)\/(∃x,kG c.1=some x))(g:FR y c.1 fr)(d:mr y c.2 frs)(i:c.1.env.all plain=true)(e:c.2.all (·.env.all plain)=true)(j:∀y,SR y v x):
 ∃b a,FR y0 (next P ln c v).1 b/\mr y0 (next P ln c v).2 a/\∀cs,sU P Wd (G (fr.finish x) (frs++cs)) (G b (a++cs)):=by
 obtain⟨p,f⟩:=Aa (v:=v) h;have k:ln.At y0:=⟨by decide,by decide,rfl,rfl,rfl,rfl,rfl,by decide⟩;obtain⟨m,b,a,l,n,o⟩:=lP (Wd:=Wd) k 400 (P:=P) ((g.gK i).fin f (j y0)) (d.gK e);unfold next
 rw[f];exact⟨b,a,l,n,λcs=>⟨m,o cs⟩⟩
end
def mr.rC{y}:∀{st frs}  ls ,mr y st frs->mr y (Go.cE.rC st ls) frs
 |[],frs,ls,h=>by rw[h.mI];trivial
 |s::st,frs,[],h=>by obtain⟨f,a,rfl,b,c⟩:=h.cons_inv;exact⟨b.keep [],c.rC []⟩
 |s::st,frs,l::ls,h=>by obtain⟨f,a,rfl,b,c⟩:=h.cons_inv;exact⟨b.keep l,c.rC ls⟩
def f10{y a c}(b:decide (y.c=1)=a)(d:decide (y.c=0)=c):f0 (f1 (Fl.of y) a) c=Fl.of y:=by subst b;subst d;rfl
def Ye{y a}(b:decide (y.c=1)=a):f1 (Fl.of y) a=Fl.of y:=by subst b;rfl
def FC{y a}(b:decide (y.c=0)=a):f0 (Fl.of y) a=Fl.of y:=by subst b;rfl
def kI{c}(h:wC c=true):c.1.kind≠.early:=by
 unfold wC at h
 simp_all
section
variable{P:adh}{n:Pm}(C:gL P n)(X:iF P n){b:Nat}{kind:adb}{Wd:acM}{cs:acR}{g:acW}{w:World}{main:Bool}
variable(hW0:∀w,Wd w->∃v,w.cell? ⟨b,0,none⟩=some v)(hW1:∀w,Wd w->∃v,w.cell? ⟨b,1,none⟩=some v)
include X hW1 in
def QU{y}{c:cQ}{fr frs}(h:kG c.1=some (n.tS,n.tU,pt b 1))(a:FR y c.1 fr):sT P Wd (G fr (frs++cs)) (G (fr.finish (.pointer (some ⟨b,1,none⟩))) (frs++cs)):=by obtain⟨t,d,e,f⟩:=X.Yd;exact⟨rfl,λmain w g=>uE a h d e f (hW1 w g)⟩
include X hW0 in
def Lw{y}{c:cQ}{fr frs}(h:kG c.1=some (n.tG,n.tU,pt b 0))(a:FR y c.1 fr):sT P Wd (G fr (frs++cs)) (G (fr.finish (.pointer (some ⟨b,0,none⟩))) (frs++cs)):=by obtain⟨t,d,e,f⟩:=X.Yc;exact⟨rfl,λmain w g=>uE a h d e f (hW0 w g)⟩
def sZ{f args dK y fn body}(b:P.funcs[f]?=some fn)(c:fn.body=some body)(d:args.length=dK.size)(e:∀(i:Nat) a,args[i]?=some a->∃x,dK[i]?=some x/\SR y a x):FR y (dI P f args kind) (Frame.enter P f dK kind):=by
 refine⟨by simp[dI,b,Frame.enter],by simp[dI,b,c,Frame.enter],by simp[dI,b,Frame.enter],by simp[dI,b,Frame.enter,C2.of],by simp[dI,b,Frame.enter],rfl,by simp[dI,b,Frame.enter,d],λt=>?_⟩;simp only[dI,b,Frame.enter,aaJ,aba];rw[acd,zs];by_cases g:t<args.length
 . grind
 . rw[abz (by omega),aaB (by omega),List.getElem?_replicate]
   split<;>trivial
include X in
def zn:∃e,sU P Wd (G (Frame.enter P n.add #[.pointer (some ⟨b,0,none⟩),.int .i64 1] kind) cs) e/\rE P n b kind .a0 cs e:=by
 obtain⟨fn,body,f,g,q,r⟩:=X.RN
 have j:FR y0 (dI P n.add [pt b 0,i64 1] kind) (Frame.enter P n.add #[.pointer (some ⟨b,0,none⟩),.int .i64 1] kind):=sZ f g rfl λi a h=>by
  match i with
  |0=>simp at h;subst h;exact⟨_,rfl,rfl⟩
  |1=>simp at h;subst h;exact⟨_,rfl,rfl⟩
  |i+2=>simp at h
 have k:ln.At y0:=⟨by decide,by decide,rfl,rfl,rfl,rfl,rfl,by decide⟩;obtain⟨m,d,c,l,o,p⟩:=lP (Wd:=Wd) (P:=P) k 400 j (st:=[]) (frs:=[]) trivial;exact⟨_,⟨m,p cs⟩,_,y0,d,c,rfl,sX,l,o,rfl⟩
def FD:ln.At y0:=⟨by decide,by decide,rfl,rfl,rfl,rfl,rfl,by decide⟩
include X in
def pZ(C:gL P n):∃e,sU P Wd (G (Frame.enter P n.wait #[.pointer (some ⟨b,0,none⟩)] kind) cs) e/\rE P n b kind .w0 cs e:=by
 obtain⟨fn,body,f,g,p,q⟩:=X.Lv
 have j:FR y0 (dI P n.wait [pt b 0] kind) (Frame.enter P n.wait #[.pointer (some ⟨b,0,none⟩)] kind):=sZ f g rfl λi a h=>by
  match i with
  |0=>simp at h;subst h;exact⟨_,rfl,rfl⟩
  |i+1=>simp at h
 obtain⟨m,d,c,k,l,o⟩:=lP (Wd:=Wd) (P:=P) FD 400 j (st:=[]) (frs:=[]) trivial;exact⟨_,⟨m,o cs⟩,_,y0,d,c,rfl,sX,k.keep [0],l.rC [],rfl⟩
include X hW0 in
def xH(C:gL P n):∃f,sU P Wd (G (Frame.enter P n.done #[.pointer (some ⟨b,0,none⟩)] .deferred) cs) f/\rE P n b kind .d1 cs f:=by
 obtain⟨fn,body,l,o,A,B⟩:=X.Lu
 have p:FR y0 (dI P n.done [pt b 0] .deferred) (Frame.enter P n.done #[.pointer (some ⟨b,0,none⟩)] .deferred):=sZ l o rfl λi a h=>by
  match i with
  |0=>simp at h;subst h;exact⟨_,rfl,rfl⟩
  |i+1=>simp at h
 obtain⟨m,q,g,j,r,s⟩:=lP (Wd:=Wd) (P:=P) FD 400 p (st:=[]) (frs:=[]) trivial;obtain⟨k,t,u⟩:=C.d0 b;obtain⟨e,d,w,y,z⟩:=FB (P:=P) (Wd:=Wd) (c:=D0 P n b) (v:=pt b 0) (x:=.pointer (some ⟨b,0,none⟩)) (.inr ⟨_,k⟩) j r t u (λ_=>rfl);exact⟨_,sU.trans ⟨m,s cs⟩ (sU.trans (Lw X hW0 (cs:=cs) k j).zX (z cs)),_,y0,e,d,rfl,sX,w,y,rfl⟩
include C X in
def WK(h:rE P n b kind .a0 cs g)(j:kind≠.early):∃k,stepG P main g w=.go k w #[⟨.mark .disable,false,true⟩]/\iG P n b kind Wd .a2 cs k:=by
 obtain⟨c,y,fr,frs,rfl,I,l,f,rfl⟩:=h;obtain⟨m,q,r,t⟩:=C.a0 b kind;obtain⟨o,u,z,A⟩:=C.a1 b kind;refine⟨_,eQ Lp l m (by rw[t];exact j) X.jv,rfl,?_⟩;obtain⟨d,a,p,B,D⟩:=FB (P:=P) (Wd:=Wd) (v:=un) (x:=.tuple #[]) (.inl ⟨_,m⟩) l f q (by rw[r];rfl) (λ_=>rfl);obtain⟨i,e,E,F,H⟩:=FB (P:=P) (Wd:=Wd) (c:=A1 P n b kind) (v:=ff) (x:=.bool false) (.inl ⟨_,o⟩) p B u (by rw[z];rfl) (λ_=>rfl);have hb:sT P Wd (G d (a++cs)) (G (d.finish (.bool false)) (a++cs)):=⟨rfl,λmain w _=>uD (s:=(A1 P n b kind).1) p o (by rw[A];exact j) X.Pn⟩;exact⟨_,(D cs).trans (hb.zX.trans (H cs)),_,y0,i,e,rfl,sX,E,F,rfl⟩
include C X hW1 in
def WL{c v m:Nat}(o:rD b w c 0 m)(L:c<1000)(h:rE P n b kind .a2 cs g):
 ∃p w',stepG P main g w=.go p w' #[⟨.cell ⟨b,0,none⟩,false,true⟩,⟨.cell ⟨b,0,none⟩,true,true⟩]/\w'=w.setCell ⟨b,0,none⟩ (.int .u64 (eE (c+1:Nat) 0))/\rD b w' (c+1) 0 m/\(iG P n b kind Wd .a4 cs p\/iG P n b kind Wd .ae cs p):=by
 obtain⟨cf,y,fr,frs,rfl,M,z,q,rfl⟩:=h;obtain⟨A,E,F,G⟩:=C.a2 b kind
 have e:IntKind.u64.wrap (eE c 0+4294967296)=eE (c+1:Nat) 0:=by
  rw[j9 (by unfold eE;omega) (by unfold eE;omega)];unfold eE;push_cast;omega
 have i:=pX (main:=main) (cs:=frs++cs) (w:=w) z A (kI E) X.sY (λx h=>h) o.cw (o.fz 0);rw[e]at i;have d:({y0 with c:=((c+1:Nat):Int)}:Sy).ok:=⟨by show(0:Int)<=2/\(2:Int)<=1000;decide,by show(0:Int)<=((c+1:Nat):Int)/\((c+1:Nat):Int)<=1000;omega⟩;have r:((c+1:Nat):Int)≠0:=by omega
 obtain⟨s,j,t,B,D⟩:=mz (P:=P) (Wd:=Wd) (y:={y0 with c:=((c+1:Nat):Int)}) (v:=.eE 0) (x:=.int .u64 (eE (c+1:Nat) 0)) (.inl ⟨_,A⟩) d (z.gK F) (q.gK G) rfl;refine⟨_,_,i,rfl,o.aW (c+1) 0,?_⟩;by_cases f:((c+1:Nat):Int)=1
 . left
   have H:=Ye (y:={y0 with c:=((c+1:Nat):Int)}) (a:=true) (by simpa using f);have k:=C.a3 b kind (Fl.of {y0 with c:=((c+1:Nat):Int)});rw[H]at k;obtain⟨u,l,I,J,K⟩:=mz (P:=P) (Wd:=Wd) (v:=pt b 1) (x:=.pointer (some ⟨b,1,none⟩)) (.inr ⟨_,k⟩) d t B rfl;exact⟨rfl,_,(D cs).trans ((QU X hW1 (cs:=cs) k t).zX.trans (K cs)),_,_,u,l,⟨rfl,f⟩,d,I,J,rfl⟩
 . right
   exact⟨rfl,_,D cs,_,_,s,j,⟨r,.inr ⟨rfl,f⟩⟩,d,t,B,rfl⟩
end
section
variable{P:adh}{n:Pm}(C:gL P n)(X:iF P n){b:Nat}{kind:adb}{Wd:acM}{cs:acR}{g:acW}{w:World}{main:Bool}
variable(hW0:∀w,Wd w->∃v,w.cell? ⟨b,0,none⟩=some v)(hW1:∀w,Wd w->∃v,w.cell? ⟨b,1,none⟩=some v)
def BF{y:Sy}(h:y.c≠0):decide (y.c=0)=false:=by grind
include C X in
def WM(h:rE P n b kind .a4 cs g)(p:kind≠.early):∃k,stepG P main g w=.go k w #[⟨.mark (.read ⟨b,1,none⟩),false,true⟩]/\iG P n b kind Wd .ae cs k:=by
 obtain⟨c,y,fr,frs,⟨rfl,e⟩,l,m,f,rfl⟩:=h;have q:=Ye (y:=y) (a:=true) (by simpa using e);obtain⟨i,o⟩:=C.a4 b kind (Fl.of y);rw[q]at i o;obtain⟨j,d,r,s,t⟩:=mz (P:=P) (Wd:=Wd) (v:=un) (x:=.tuple #[]) (.inl ⟨_,i⟩) l m f rfl;exact⟨_,fD (λu g h=>by cases h) m i (by rw[o];exact p) X.rd,rfl,_,t cs,_,y,j,d,⟨by rw[e];decide,.inl ⟨rfl,e⟩⟩,l,r,s,rfl⟩
include C X in
def WN {e rest} (h:rE P n b kind .ae (e :: rest) g) (t:kind ≠ .early):∃ d,stepG P main g w = .go d w #[⟨.mark .enable,false,true⟩]∧d.status = .running∧sU P Wd d (jZ kind e rest (.tuple #[])):=by
 obtain⟨c,y,fr,frs,⟨f,i⟩,E,u,j,rfl⟩:=h;obtain⟨fn,body,f1,F,H,v⟩:=X.RN
 have key:r7 c.1=some n.en->c.2=[]->c.1.kind=kind->c.1.fn=n.add->∃ d,stepG P main (G fr (frs ++ e :: rest)) w = .go d w #[⟨.mark .enable,false,true⟩]∧d.status = .running∧sU P Wd d (jZ kind e rest (.tuple #[])):=fun q x s z=>by
  rw[x] at j;obtain rfl:=j.mI;obtain⟨A,B⟩:=BE (main:=main) (cs:=[] ++ e :: rest) (w:=w) u q X.en
  have k:kg ({ c.1 with defers:=[] }:pF) n.add=true:=by
   unfold kg;unfold r7 at q;split at q
   . rename_i g cap as D hd;simp[D,z]
   . cases q
  refine⟨_,A,rfl,?_⟩;have:=lq (Wd:=Wd) (c:=e) (rest:=rest) B k f1 v (by show c.1.kind≠_;rw[s];exact t)
  rw[show ({ c.1 with defers:=[] }:pF).kind=kind from s] at this
  exact this.zX
 rcases i with ⟨rfl,i⟩|⟨rfl,i⟩
 . have r:=f10 (y:=y) (a:=true) (c:=false) (by simpa using i) (BF f)
   obtain⟨l,m,o,p⟩:=C.a5 b kind (Fl.of y);rw[r] at l m o p;exact key l m o p
 . have r:=f10 (y:=y) (a:=false) (c:=false) (by simpa using i) (BF f)
   obtain⟨l,m,o,p⟩:=C.a6 b kind (Fl.of y);rw[r] at l m o p;exact key l m o p
include C X in
def WO(h:rE P n b kind .d1 cs g):∃f,stepG P main g w=.go f w #[⟨.mark (.releaseMerge ⟨b,0,none⟩),false,true⟩]/\iG P n b kind Wd .d2 cs f:=by
 obtain⟨c,y,fr,frs,rfl,r,i,d,rfl⟩:=h;obtain⟨j,k,l,m⟩:=C.d1 b;obtain⟨e,a,o,p,q⟩:=FB (P:=P) (Wd:=Wd) (v:=un) (x:=.tuple #[]) (.inl ⟨_,j⟩) i d l m (λ_=>rfl);exact⟨_,fD (λs g h=>by cases h) i j (kI k) X.rel,rfl,_,q cs,_,y0,e,a,rfl,sX,o,p,rfl⟩
include C X in
def WQ(h:rE P n b kind .d2 cs g):∃j,stepG P main g w=.go j w #[⟨.mark .disable,false,true⟩]/\iG P n b kind Wd .d4 cs j:=by
 obtain⟨c,y,fr,frs,rfl,H,k,f,rfl⟩:=h;obtain⟨l,p,q,r⟩:=C.d2 b;obtain⟨m,t,u,z⟩:=C.d3 b;refine⟨_,eQ Lp k l (kI p) X.jv,rfl,?_⟩;obtain⟨d,a,o,A,B⟩:=FB (P:=P) (Wd:=Wd) (v:=un) (x:=.tuple #[]) (.inl ⟨_,l⟩) k f q r (λ_=>rfl);obtain⟨i,e,D,E,F⟩:=FB (P:=P) (Wd:=Wd) (c:=D3 P n b) (v:=ff) (x:=.bool false) (.inl ⟨_,m⟩) o A u z (λ_=>rfl);have hb:sT P Wd (G d (a++cs)) (G (d.finish (.bool false)) (a++cs)):=⟨rfl,λmain w _=>uD (s:=(D3 P n b).1) o m (kI t) X.Pn⟩;exact⟨_,(B cs).trans (hb.zX.trans (F cs)),_,y0,i,e,rfl,sX,D,E,rfl⟩
def kJ(P:adh)(a:FuncId)(tmps:acL)(todo:acU):Frame:=⟨a,tmps,todo,[],.returning,.deferred,none⟩
def cG(P:adh):Frame:={(default:Frame)with fn:=P.funcs.size,defers:=[],mode:=.panicking [goexitEntry]}
def uI{a fn tmps todo}(c:P.funcs[a]?=some fn)(d:fn.results=#[]):QuitsD P 2 0 (G (kJ P a tmps todo) [cG P]):=by
 refine .ctl (g':=G (cG P) []) rfl (λw=>?_) (.ctl (g':={G (cG P) []with status:=.finished}) rfl (λw=>?_) ⟨rfl,rfl⟩)
 . simp[G,stepG,unwind,c,results,d,kJ,cG,goexitEntry]
   rfl
 . have b:(cG P).catches P=false:=by
    simp[Frame.catches,cG];rfl
   simp[G,stepG,unwind,cG,goexitEntry]at b ⊢;simp[b]
def uJ{d}:∀{m k a c},ji P (λ_=>True) m a c->QuitsD P k d c->QuitsD P (k+m) d a
 |0,k,a,c,h,b=>by obtain rfl:=h;exact b
 |m+1,k,a,c,h,b=>by obtain⟨i,⟨e,f⟩,g⟩:=h;exact .ctl e (λw=>f false w trivial) (uJ g b)
include X in
def xI{c y fr frs a fn tmps todo}(o:P.funcs[a]?=some fn)(b:fn.results=#[])(p:y.ok)(j:FR y c.1 fr)(e:mr y c.2 frs)
 (k:r7 c.1=some n.en) (q:kg (my P (Fl.of y) c).1 n.done=true) (r:(my P (Fl.of y) c).2=[]) (l:(my P (Fl.of y) c).1.kind=.deferred):∃m,QuitsD P m 1 (G fr (frs++[kJ P a tmps todo,cG P])):=by
 obtain⟨_,f⟩:=BE (P:=P) (main:=false) (cs:=frs++[kJ P a tmps todo,cG P]) (w:=default) j k X.en;obtain⟨m,g,d,s,t,u⟩:=lP (Wd:=λ_=>True) (P:=P) (Fl.C' p) 400 f e
 have h:mr y [] d:=by rw[<-r];exact t
 obtain rfl:=h.mI;obtain⟨fd,body,v,B,C,x⟩:=X.Lu;have hb:=lq (Wd:=λ_=>True) (c:=kJ P a tmps todo) (rest:=[cG P]) s q v x (by show(my P (Fl.of y) c).1.kind≠_;rw[l];decide)
 have i:jZ (sgo P (Fl.of y) 400 {c.1 with defers:=[]} c.2).1.kind (kJ P a tmps todo) [cG P] (.tuple #[])=G (kJ P a tmps todo) [cG P]:=by rw[show(sgo P (Fl.of y) 400 {c.1 with defers:=[]} c.2).1.kind=.deferred from l];rfl
 rw[i]at hb;have z:QuitsD P (2+1) 0 (G g [kJ P a tmps todo,cG P]):=.ctl rfl (λw=>hb.2 false w trivial) (uI o b)
 have A:=uJ (u [kJ P a tmps todo,cG P]) z;exact⟨_,.said ⟨.mark .enable,false,true⟩ rfl rfl (λw=>(BE (P:=P) (main:=false) (cs:=frs++[kJ P a tmps todo,cG P]) (w:=w) j k X.en).1) A⟩
def Gone(P:adh)(Wd:acM)(a:acW):Prop:=∃m,QuitsD P m 1 a
def BG{m k a c}(h:ji P (λ_=>True) m a c)(b:QuitsD P k 1 c):Gone P Wd a:=⟨_,uJ h b⟩
include C X in
def WR{k v m o fn tmps todo}(N:P.funcs[o]?=some fn)(f:fn.results=#[])(G:rD b w (k+1) v m)(R:k<1000)(S:v<=1)(h:rE P n b kind .d4 [kJ P o tmps todo,cG P] g):
 ∃H w',stepG P main g w=.go H w' #[⟨.cell ⟨b,0,none⟩,false,true⟩,⟨.cell ⟨b,0,none⟩,true,true⟩]/\w'=w.setCell ⟨b,0,none⟩ (.int .u64 (eE k v))/\rD b w' k v m/\((k=0/\v=1/\iG P n b kind Wd .d5 [kJ P o tmps todo,cG P] H)\/(¬(k=0/\v=1)/\Gone P Wd H)):=by
 obtain⟨cf,y,fr,frs,rfl,T,E,i,rfl⟩:=h;obtain⟨F,O,I,J⟩:=C.d4 b
 have e:IntKind.u64.wrap (eE (k+1:Nat) v+18446744069414584320)=eE k v:=by
  have:eE (k+1:Nat) v+18446744069414584320=eE k v+18446744073709551616:=by unfold eE;push_cast;omega
  rw[this];simp[IntKind.wrap,IntKind.bits,IntKind.signed];unfold eE;omega
 have p:=pX (main:=main) (cs:=frs++[kJ P o tmps todo,cG P]) (w:=w) E F (kI O) X.sY (λx h=>h) G.cw (G.fz 0)
 rw[e]at p;have a:({y0 with c:=(k:Int)}:Sy).ok:=⟨by show(0:Int)<=2/\(2:Int)<=1000;decide,by show(0:Int)<=(k:Int)/\(k:Int)<=1000;omega⟩
 refine⟨_,_,p,rfl,G.aW k v,?_⟩;have q:v=0\/v=1:=by omega
 rcases q with rfl|rfl
 . refine .inr ⟨by omega,?_⟩
   obtain⟨l,d,r,s,t⟩:=mz (P:=P) (Wd:=λ_=>True) (y:={y0 with c:=(k:Int)}) (v:=.eE 0) (x:=.int .u64 (eE k 0)) (.inl ⟨_,F⟩) a (E.gK I) (i.gK J) rfl
   have u:=C.d5 b (Fl.of {y0 with c:=(k:Int)}) (decide ((k:Int)=0))
   obtain⟨z,A,B⟩:=C.Ya b (Fl.of {y0 with c:=(k:Int)}) (decide ((k:Int)=0))
   rw[FC rfl]at u z A B;obtain⟨Q,K⟩:=xI X N f a r s u z A B;obtain⟨j,L⟩:=t [kJ P o tmps todo,cG P];exact BG L K
 . by_cases D:k=0
   . refine .inl ⟨D,rfl,?_⟩
     obtain⟨l,d,r,s,t⟩:=mz (P:=P) (Wd:=Wd) (y:={y0 with c:=(k:Int)}) (v:=.eE 1) (x:=.int .u64 (eE k 1)) (.inl ⟨_,F⟩) a (E.gK I) (i.gK J) rfl
     exact⟨rfl,_,t _,_,_,l,d,⟨rfl,by show(k:Int)=0;omega⟩,a,r,s,rfl⟩
   . refine .inr ⟨by omega,?_⟩
     obtain⟨l,d,r,s,t⟩:=mz (P:=P) (Wd:=λ_=>True) (y:={y0 with c:=(k:Int)}) (v:=.eE 1) (x:=.int .u64 (eE k 1)) (.inl ⟨_,F⟩) a (E.gK I) (i.gK J) rfl
     have M:decide ((k:Int)=0)=false:=by simpa using D
     have u:=C.d6 b (Fl.of {y0 with c:=(k:Int)})
     obtain⟨z,A,B⟩:=C.Yb b (Fl.of {y0 with c:=(k:Int)})
     rw[FC M]at u z A B;obtain⟨Q,K⟩:=xI X N f a r s u z A B;obtain⟨j,L⟩:=t [kJ P o tmps todo,cG P];exact BG L K
include C X in
def WT{m}(q:rD b w 0 1 m)(h:rE P n b kind .d5 cs g):∃k,stepG P main g w=.go k w #[⟨.cell ⟨b,0,none⟩,false,true⟩]/\iG P n b kind Wd .d6 cs k:=by
 obtain⟨c,y,fr,frs,⟨rfl,e⟩,l,o,f,rfl⟩:=h;have r:=FC (y:=y) (a:=true) (by simpa using e)
 obtain⟨i,p⟩:=C.d7 b (Fl.of y);rw[r]at i p;have s:SR y (.eE 1) (.int .u64 (eE 0 1)):=by show _=Value.int .u64 (eE y.c 1);rw[e]
 obtain⟨j,d,t,u,v⟩:=mz (P:=P) (Wd:=Wd) (.inl ⟨_,i⟩) l o f s;exact⟨_,uH o i (kI p) X.v7 q.cw,rfl,_,v cs,_,y,j,d,⟨rfl,e⟩,l,t,u,rfl⟩
include C X in
def WU{m}(e:rD b w 0 1 m)(h:rE P n b kind .d6 cs g):∃k w',stepG P main g w=.go k w' #[⟨.cell ⟨b,0,none⟩,true,true⟩]/\w'=w.setCell ⟨b,0,none⟩ (.int .u64 (eE 0 0))/\rD b w' 0 0 m/\iG P n b kind Wd .d7 cs k:=by
 obtain⟨c,y,fr,frs,⟨rfl,l⟩,o,p,f,rfl⟩:=h;have r:=FC (y:=y) (a:=true) (by simpa using l);obtain⟨i,q⟩:=C.d8 b (Fl.of y);rw[r]at i q;obtain⟨j,d,s,t,u⟩:=mz (P:=P) (Wd:=Wd) (v:=un) (x:=.tuple #[]) (.inl ⟨_,i⟩) o p f rfl;exact⟨_,_,IA p i (kI q) X.IB e.cw (e.fz 0),rfl,e.aW 0 0,rfl,_,u cs,_,y,j,d,⟨rfl,l⟩,o,s,t,rfl⟩
include C X in
def WV{v m k fn tmps todo}(E:P.funcs[k]?=some fn)(d:fn.results=#[])(l:rD b w 0 v m)(M:m<=1000)(h:rE P n b kind .d7 [kJ P k tmps todo,cG P] g):
 ∃q w',stepG P main g w=.go q w' (semEvents ⟨b,1,none⟩)/\w'=w.setCell ⟨b,1,none⟩ (.int .u32 (m+1:Nat))/\rD b w' 0 v (m+1)/\Gone P Wd q:=by
 obtain⟨c,y,fr,frs,⟨rfl,F⟩,r,s,o,rfl⟩:=h;have f:=FC (y:=y) (a:=true) (by simpa using F)
 obtain⟨p,t⟩:=C.d9 b (Fl.of y);rw[f]at p t;have i:=oB (main:=main) (cs:=frs++[kJ P k tmps todo,cG P]) (w:=w) s p (kI t) X.oC l.cs (l.fz 1);have e:IntKind.u32.wrap ((m:Int)+1)=((m+1:Nat):Int):=by rw[IntKind.wrap_u32];omega
 rw[e]at i;obtain⟨G,u,H,I,J⟩:=mz (P:=P) (Wd:=λ_=>True) (v:=un) (x:=.tuple #[]) (.inl ⟨_,p⟩) r s o rfl
 have z:=C.da b (Fl.of y);obtain⟨A,B,D⟩:=C.db b (Fl.of y);rw[f]at z A B D;obtain⟨N,K⟩:=xI X E d r H I z A B D;obtain⟨j,L⟩:=J [kJ P k tmps todo,cG P];exact⟨_,_,i,rfl,l.Fy (m+1),BG L K⟩
end
section
variable{P:adh}{n:Pm}(C:gL P n)(X:iF P n){b:Nat}{kind:adb}{Wd:acM}{cs:acR}{g:acW}{w:World}{main:Bool}
variable(hW0:∀w,Wd w->∃v,w.cell? ⟨b,0,none⟩=some v)(hW1:∀w,Wd w->∃v,w.cell? ⟨b,1,none⟩=some v)
include C X in
def WW(h:rE P n b kind .w0 cs g)(k:kind≠.early):∃f,stepG P main g w=.go f w #[⟨.mark .disable,false,true⟩]/\iG P n b kind Wd .w1 cs f:=by
 obtain⟨c,y,fr,frs,rfl,s,i,d,rfl⟩:=h;obtain⟨j,l,m,o⟩:=C.w0 b kind;obtain⟨e,a,p,q,r⟩:=FB (P:=P) (Wd:=Wd) (v:=un) (x:=.tuple #[]) (.inl ⟨_,j⟩) i d l (by rw[m];rfl) (λ_=>rfl);exact⟨_,eQ Lp i j (by rw[o];exact k) X.jv,rfl,_,r cs,_,y0,e,a,rfl,sX,p.keep [5],q.rC [[0]],rfl⟩
include C X in
def WX{c m}(r:rD b w c 0 m)(z:c<=1000)(h:rE P n b kind .w1 cs g):
 ∃f,stepG P main g w=.go f w #[⟨.cell ⟨b,0,none⟩,false,true⟩]/\((c=0/\iG P n b kind Wd .we cs f)\/(c≠0/\iG P n b kind Wd (.w2 c) cs f)):=by
 obtain⟨cf,y,fr,frs,rfl,A,k,i,rfl⟩:=h;obtain⟨l,s,t,u⟩:=C.w1 b kind;have d:({y0 with c:=(c:Int)}:Sy).ok:=⟨by show(0:Int)<=2/\(2:Int)<=1000;decide,by show(0:Int)<=(c:Int)/\(c:Int)<=1000;omega⟩;obtain⟨e,a,o,p,q⟩:=mz (P:=P) (Wd:=Wd) (y:={y0 with c:=(c:Int)}) (v:=.eE 0) (x:=.int .u64 (eE c 0)) (.inl ⟨_,l⟩) d (k.gK t) (i.gK u) rfl;refine⟨_,uH k l (kI s) X.v7 r.cw,?_⟩;by_cases j:c=0
 . exact .inl ⟨j,rfl,_,q cs,_,_,e,a,.inl ⟨rfl,by show(c:Int)=0;omega⟩,d,o,p,rfl⟩
 . exact .inr ⟨j,rfl,_,q cs,_,_,e,a,⟨rfl,rfl,j⟩,d,o,p,rfl⟩
include C X hW0 in
def WZ(h:rE P n b kind .we cs g)(D:kind≠.early):∃E,stepG P main g w=.go E w #[⟨.mark .enable,false,true⟩]/\iG P n b kind Wd .wa cs E:=by
 obtain⟨c,y,fr,frs,e,k,q,l,rfl⟩:=h;rcases e with⟨rfl,e⟩|⟨rfl,e⟩
 . have r:=FC (y:=y) (a:=true) (by simpa using e)
   obtain⟨f,m⟩:=C.w2 b kind (Fl.of y);have i:=C.w3 b kind (Fl.of y);rw[r]at f m i;obtain⟨s,o,p,t,u⟩:=mz (P:=P) (Wd:=Wd) (v:=un) (x:=.tuple #[]) (.inl ⟨_,f⟩) k q l rfl;obtain⟨j,d,z,A,B⟩:=mz (P:=P) (Wd:=Wd) (c:=WC P n b kind (Fl.of y)) (v:=pt b 0) (x:=.pointer (some ⟨b,0,none⟩)) (.inr ⟨_,i⟩) k p t rfl;exact⟨_,eQ Lq q f (by rw[m];exact D) X.en,rfl,_,(u cs).trans ((Lw X hW0 (c:=WC P n b kind (Fl.of y)) (cs:=cs) i p).zX.trans (B cs)),_,y,j,d,.inl ⟨rfl,e⟩,k,z,A,rfl⟩
 . have r:=FC (y:=y) (a:=false) (BF e)
   obtain⟨f,m⟩:=C.wc b kind (Fl.of y);have i:=C.wd b kind (Fl.of y);rw[r]at f m i;obtain⟨s,o,p,t,u⟩:=mz (P:=P) (Wd:=Wd) (v:=un) (x:=.tuple #[]) (.inl ⟨_,f⟩) k q l rfl;obtain⟨j,d,z,A,B⟩:=mz (P:=P) (Wd:=Wd) (c:=Ux P n b kind (Fl.of y)) (v:=pt b 0) (x:=.pointer (some ⟨b,0,none⟩)) (.inr ⟨_,i⟩) k p t rfl;exact⟨_,eQ Lq q f (by rw[m];exact D) X.en,rfl,_,(u cs).trans ((Lw X hW0 (c:=Ux P n b kind (Fl.of y)) (cs:=cs) i p).zX.trans (B cs)),_,y,j,d,.inr ⟨rfl,e⟩,k,z,A,rfl⟩
include C X in
def Uy{j rest}(h:rE P n b kind .wa (j::rest) g)(q:kind≠.early):∃t,stepG P main g w=.go t w #[⟨.mark (.acquire ⟨b,0,none⟩),false,true⟩]/\t.status=.running/\sU P Wd t (jZ kind j rest (.tuple #[])):=by
 obtain⟨c,y,fr,frs,k,E,r,l,rfl⟩:=h;obtain⟨fn,body,f1,H,I,F⟩:=X.Lv;rcases k with⟨rfl,k⟩|⟨rfl,k⟩
 . have u:=FC (y:=y) (a:=true) (by simpa using k)
   obtain⟨f,m⟩:=C.w4 b kind (Fl.of y);obtain⟨o,p,i⟩:=C.w5 b kind (Fl.of y);rw[u]at f m o p i;obtain⟨z,d,A,B,D⟩:=mz (P:=P) (Wd:=Wd) (v:=un) (x:=.tuple #[]) (.inl ⟨_,f⟩) E r l rfl;have e:mr y (WB P n b kind (Fl.of y)).2 d:=B;rw[p]at e;obtain rfl:=e.mI;have hb:=lq (Wd:=Wd) (c:=j) (rest:=rest) (s:=(WB P n b kind (Fl.of y)).1) A o f1 F (by rw[i];exact q);rw[i]at hb;exact⟨_,fD (λG g h=>by cases h) r f (by rw[m];exact q) X.acq,rfl,(D (j::rest)).trans hb.zX⟩
 . have u:=FC (y:=y) (a:=false) (BF k)
   obtain⟨f,m⟩:=C.we b kind (Fl.of y);obtain⟨o,p,i⟩:=C.wf b kind (Fl.of y);rw[u]at f m o p i;obtain⟨z,d,A,B,D⟩:=mz (P:=P) (Wd:=Wd) (v:=un) (x:=.tuple #[]) (.inl ⟨_,f⟩) E r l rfl;have e:mr y (QT P n b kind (Fl.of y)).2 d:=B;rw[p]at e;obtain rfl:=e.mI;have hb:=lq (Wd:=Wd) (c:=j) (rest:=rest) (s:=(QT P n b kind (Fl.of y)).1) A o f1 F (by rw[i];exact q);rw[i]at hb;exact⟨_,fD (λG g h=>by cases h) r f (by rw[m];exact q) X.acq,rfl,(D (j::rest)).trans hb.zX⟩
def Po{c c' v a:Nat}(d:v<=1000)(b:a<=1000):eE c v=eE c' a↔(c=c'/\v=a):=by unfold eE;omega
include C X hW1 in
def W2{k c m}(l:rD b w c 0 m)(h:rE P n b kind (.w2 k) cs g):
 (c=k/\∃o w',stepG P main g w=.go o w' #[⟨.cell ⟨b,0,none⟩,false,true⟩,⟨.cell ⟨b,0,none⟩,true,true⟩]/\w'=w.setCell ⟨b,0,none⟩ (.int .u64 (eE k 1))/\rD b w' k 1 m/\iG P n b kind Wd .w3 cs o)\/
 (c≠k/\∃o,stepG P main g w=.go o w #[⟨.cell ⟨b,0,none⟩,false,true⟩]/\iG P n b kind Wd .w1 cs o):=by
 obtain⟨cf,y,fr,frs,⟨rfl,K,L⟩,p,z,q,rfl⟩:=h;have r:y.c≠0:=by rw[K];omega
 have D:=FC (y:=y) (a:=false) (BF r);obtain⟨s,E⟩:=C.w6 b kind (Fl.of y);rw[D]at s E
 have A:∀j:Nat,∀x,SR y (.eE j) x->x=.int .u64 (eE k j):=λj x F=>by have F:x=.int .u64 (eE y.c j):=F;rw[F,K]
 by_cases f:c=k
 . subst f
   refine .inl ⟨rfl,_,_,gX z s (kI E) X.xE (A 0) (A 1) l.cw (l.fz 0),rfl,l.aW c 1,rfl,?_⟩;have i:=C.w8 b kind (Fl.of y);rw[D]at i;obtain⟨t,d,B,G,H⟩:=mz (P:=P) (Wd:=Wd) (v:=tt) (x:=.bool true) (.inl ⟨_,s⟩) p z q rfl;obtain⟨I,u,M,N,O⟩:=mz (P:=P) (Wd:=Wd) (c:=W3 P n b kind (Fl.of y)) (v:=pt b 1) (x:=.pointer (some ⟨b,1,none⟩)) (.inr ⟨_,i⟩) p B G rfl;exact⟨_,(H cs).trans ((QU X hW1 (c:=W3 P n b kind (Fl.of y)) (cs:=cs) i B).zX.trans (O cs)),_,y,I,u,⟨rfl,r⟩,p,M,N,rfl⟩
 . have J:¬eE c 0=eE k 0:=λe=>f ((Po (by omega) (by omega)).1 e).1
   refine .inr ⟨f,_,iE z s (kI E) X.xE (A 0) (A 1) l.cw (l.fz 0) J,rfl,?_⟩;have i:=C.w7 b kind (Fl.of y);rw[D]at i;obtain⟨t,d,B,G,H⟩:=mz (P:=P) (Wd:=Wd) (v:=ff) (x:=.bool false) (.inl ⟨_,s⟩) p z q rfl;have Q:=B.keep [5];have R:=G.rC [[0]];refine⟨_,H cs,W1 P n b kind,y,t,d,rfl,p,?_,?_,rfl⟩
   . rw[<-i];exact Q
   . rw[<-i];exact R
include C X in
def W6(h:rE P n b kind .w3 cs g)(p:kind≠.early):∃j,stepG P main g w=.go j w #[⟨.mark (.write ⟨b,1,none⟩),false,true⟩]/\iG P n b kind Wd .w4 cs j:=by obtain⟨c,y,fr,frs,⟨rfl,k⟩,l,m,e,rfl⟩:=h;have q:=FC (y:=y) (a:=false) (BF k);obtain⟨f,o⟩:=C.w9 b kind (Fl.of y);rw[q]at f o;obtain⟨i,d,r,s,t⟩:=mz (P:=P) (Wd:=Wd) (v:=un) (x:=.tuple #[]) (.inl ⟨_,f⟩) l m e rfl;exact⟨_,fD (λu g h=>by cases h) m f (by rw[o];exact p) X.wr,rfl,_,t cs,_,y,i,d,⟨rfl,k⟩,l,r,s,rfl⟩
include C X in
def W7{c v m}(i:rD b w c v m)(D:m≠0)(h:rE P n b kind .w4 cs g)(t:kind≠.early):
 ∃o w',stepG P main g w=.go o w' (semEvents ⟨b,1,none⟩)/\w'=w.setCell ⟨b,1,none⟩ (.int .u32 (m-1:Nat))/\rD b w' c v (m-1)/\iG P n b kind Wd .w5 cs o:=by
 obtain⟨cf,y,fr,frs,⟨rfl,p⟩,q,r,j,rfl⟩:=h;have u:=FC (y:=y) (a:=false) (BF p);obtain⟨k,s⟩:=C.wa b kind (Fl.of y);rw[u]at k s;have d:=sW (main:=main) (cs:=frs++cs) (w:=w) (n:=(m:Int)) r k (by rw[s];exact t) X.Fu i.cs (by omega) (i.fz _);have e:((m:Int)-1)=((m-1:Nat):Int):=by omega
 rw[e]at d;obtain⟨l,f,z,A,B⟩:=mz (P:=P) (Wd:=Wd) (v:=un) (x:=.tuple #[]) (.inl ⟨_,k⟩) q r j rfl;exact⟨_,_,d,rfl,i.Fy (m-1),rfl,_,B cs,_,y,l,f,⟨rfl,p⟩,q,z,A,rfl⟩
include C X in
def Uz{c v}(e:rD b w c v 0)(h:rE P n b kind .w4 cs g):stepG P main g w=.go {g with status:=.blocked} w #[]:=by obtain⟨cf,y,fr,frs,⟨rfl,f⟩,m,i,j,rfl⟩:=h;have k:=FC (y:=y) (a:=false) (BF f);obtain⟨d,l⟩:=C.wa b kind (Fl.of y);rw[k]at d l;exact z8 i d X.Fu e.cs
include C X in
def W8{m}(r:rD b w 0 0 m)(h:rE P n b kind .w5 cs g):∃k,stepG P main g w=.go k w #[⟨.cell ⟨b,0,none⟩,false,true⟩]/\iG P n b kind Wd .we cs k:=by obtain⟨c,y,fr,frs,⟨rfl,l⟩,o,p,e,rfl⟩:=h;have s:=FC (y:=y) (a:=false) (BF l);obtain⟨f,q⟩:=C.wb b kind (Fl.of y);rw[s]at f q;have i:=uH (main:=main) (cs:=frs++cs) p f (kI q) X.v7 r.cw;obtain⟨j,d,t,u,z⟩:=mz (P:=P) (Wd:=Wd) (v:=u64 0) (x:=.int .u64 0) (.inl ⟨_,f⟩) o p e rfl;exact⟨_,i,rfl,_,z cs,_,y,j,d,.inr ⟨rfl,l⟩,o,t,u,rfl⟩
end
structure mC(P:adh)(n:C7):Prop where
 lock:∃fn body,P.funcs[n.lock]?=some fn/\fn.body=some body/\fn.ntmps=6/\fn.results=#[]
 unlock:∃fn body,P.funcs[n.unlock]?=some fn/\fn.body=some body/\fn.ntmps=6/\fn.results=#[]
section
variable{P:adh}{n:C7}(C:gq P n)(X:gu P n)(F:mC P n){b o:Nat}{kind:adb}{Wd:acM}{cs:acR}{g:acW}{w:World}{main:Bool}
include F in
def rH:∃a,sU P Wd (G (Frame.enter P n.lock #[.pointer (some ⟨b,o,none⟩)] kind) cs) a/\oi P n b o kind .ld cs a:=by obtain⟨fn,body,c,d,e,f⟩:=F.lock;exact FA ⟨fn,body,c,d,e⟩
include F in
def pr:∃e,sU P Wd (G (Frame.enter P n.unlock #[.pointer (some ⟨b,o,none⟩)] kind) cs) e/\oi P n b o kind .Hj cs e:=by
 obtain⟨fn,body,f,g,q,r⟩:=F.unlock
 have j:FR y0 (dI P n.unlock [pt b o] kind) (Frame.enter P n.unlock #[.pointer (some ⟨b,o,none⟩)] kind):=sZ f g rfl λi a h=>by
  match i with
  |0=>simp at h;subst h;exact⟨_,rfl,rfl⟩
  |i+1=>simp at h
 obtain⟨m,d,c,k,l,p⟩:=lP (Wd:=Wd) (P:=P) FD 400 j (st:=[]) (frs:=[]) trivial;exact⟨_,⟨m,p cs⟩,_,y0,d,c,rfl,sX,k.keep [0,5],l.keep [],rfl⟩
include F in
def s8{c rest}(h:oi P n b o kind .back (c::rest) g)(e:kind≠.early):sU P Wd g (jZ kind c rest (.tuple #[])):=by obtain⟨cf,y,fr,frs,rfl,l,i,a,rfl⟩:=h;obtain⟨fn,body,j,m,p,k⟩:=F.lock;have d:mr y [] frs:=a;obtain rfl:=d.mI;exact(lq (Wd:=Wd) (c:=c) (rest:=rest) (s:=(BK n kind).1) (f:=n.lock) i (by simp[BK,kg]) j k e).zX
include F in
def lR{c rest}(h:oi P n b o kind .Da (c::rest) g)(e:kind≠.early):sU P Wd g (jZ kind c rest (.tuple #[])):=by obtain⟨cf,y,fr,frs,rfl,l,i,a,rfl⟩:=h;obtain⟨fn,body,j,m,p,k⟩:=F.unlock;have d:mr y [] frs:=a;obtain rfl:=d.mI;exact(lq (Wd:=Wd) (c:=c) (rest:=rest) (s:=(Uk n kind).1) (f:=n.unlock) i (by simp[Uk,kg]) j k e).zX
end
