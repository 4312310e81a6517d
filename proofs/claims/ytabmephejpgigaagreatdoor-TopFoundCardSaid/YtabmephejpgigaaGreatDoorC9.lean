import Derived.Conc.QuitsD
import Derived.Test.YtabmephejpgigaaGreatDoorC8
set_option linter.all false
namespace Go.cr
open Go.Conc
inductive FT where
 |a0|a2|a4|ae
 |d1|d2|d4|d5|d6|d7
 |w0|w1|we|wa|w2 (c:Nat)|w3|w4|w5
structure qz  b  (w:World) (c v m:Nat):Prop where
 cw:w.cell? ⟨b,0,none⟩=some (.int .u64 (dU c v))
 cs:w.cell? ⟨b,1,none⟩=some (.int .u32 m)
 fz:∀i,w.frozen? ⟨b,i,none⟩=false
def qz.aT{b w c v m}(h:qz b w c v m)(c' a:Nat):qz b (w.setCell ⟨b,0,none⟩ (.int .u64 (dU c' a))) c' a m:=⟨jF h.cw,by rw[du (by simp)];exact h.cs,λi=>by rw[nH];exact h.fz i⟩
def qz.D9{b w c v m}(h:qz b w c v m)(a:Nat):qz b (w.setCell ⟨b,1,none⟩ (.int .u32 a)) c v a:=⟨by rw[du (by simp)];exact h.cw,jF h.cs,λi=>by rw[nH];exact h.fz i⟩
section
variable(P:abm)(n:Nt)(b:Nat)(kind:abi)
def Xx(p:FT)(c:cL)(y:Sy):Prop:=
 match p with
 |.a0=>c=A0 P n b kind
 |.a2=>c=A2 P n b kind
 |.a4=>c=A4 P n b kind (Fl.of y)/\y.c=1
 |.ae=>y.c≠0/\((c=A5 P n b kind (Fl.of y)/\y.c=1)\/(c=A3 P n b kind (Fl.of y)/\y.c≠1))
 |.d1=>c=D1 P n b
 |.d2=>c=D2 P n b
 |.d4=>c=D4 P n b
 |.d5=>c=DE P n b (Fl.of y) 1/\y.c=0
 |.d6=>c=D6 P n b (Fl.of y)/\y.c=0
 |.d7=>c=D7 P n b (Fl.of y)/\y.c=0
 |.w0=>c=W0 P n b kind
 |.w1=>c=W1 P n b kind
 |.we=>(c=WE P n b kind (Fl.of y)/\y.c=0)\/(c=Rk P n b kind (Fl.of y)/\y.c≠0)
 |.wa=>(c=WA P n b kind (Fl.of y)/\y.c=0)\/(c=Rl P n b kind (Fl.of y)/\y.c≠0)
 |.w2 k=>c=WE P n b kind (Fl.of y)/\y.c=k/\k≠0
 |.w3=>c=Rh P n b kind (Fl.of y)/\y.c≠0
 |.w4=>c=W4 P n b kind (Fl.of y)/\y.c≠0
 |.w5=>c=W5 P n b kind (Fl.of y)/\y.c≠0
def qA(p:FT)(cs:aaY)(g:abd):Prop:=∃c y fr frs,Xx P n b kind p c y/\y.ok/\FR y c.1 fr/\lL y c.2 frs/\g=G fr (frs++cs)
def im(Wd:aaT)(p:FT)(cs:aaY)(a:abd):Prop:=a.status=.running/\∃c,rV P Wd a c/\qA P n b kind p cs c
end
def qA.running{P n b kind p cs g}(h:qA P n b kind p cs g):g.status=.running/\g.offers=none:=by obtain⟨c,y,fr,frs,_,_,_,_,rfl⟩:=h;exact⟨rfl,rfl⟩
def yT{s v}(h:(∃x,aZ s=some x)\/(∃x,j7 s=some x)):∃s',wi s v=some s':=by
 unfold wi;rcases h with⟨x,h⟩|⟨x,h⟩
 . unfold aZ at h
   split at h
   . simp_all
   . cases h
 . unfold j7 at h
   split at h
   . simp_all
   . cases h
section
variable{P:abm}{Wd:aaT}{y:Sy}{c:cL}{v:SV}{x:Value}{fr:Frame}{frs:aaY}
def lN(h:(∃x,aZ c.1=some x)\/(∃x,j7 c.1=some x))(f:y.ok)(g:FR y c.1 fr)(d:lL y c.2 frs)(i:SR y v x):
 ∃b a,FR y (next P (Fl.of y) c v).1 b/\lL y (next P (Fl.of y) c v).2 a/\∀cs,rV P Wd (G (fr.finish x) (frs++cs)) (G b (a++cs)):=by
 obtain⟨n,e⟩:=yT (v:=v) h;obtain⟨m,b,a,j,k,l⟩:=lr (Wd:=Wd) (Fl.BY f) 400 (P:=P) (g.fin e i) d;unfold next
 rw[e];exact⟨b,a,j,k,λcs=>⟨m,l cs⟩⟩
def Eb(h:(∃x,aZ c.1=some x)\/(∃x,j7 c.1=some x))(g:FR y c.1 fr)(d:lL y c.2 frs)(i:c.1.env.all plain=true)(e:c.2.all (·.env.all plain)=true)(j:∀y,SR y v x):
 ∃b a,FR y0 (next P kN c v).1 b/\lL y0 (next P kN c v).2 a/\∀cs,rV P Wd (G (fr.finish x) (frs++cs)) (G b (a++cs)):=by
 obtain⟨p,f⟩:=yT (v:=v) h;have k:kN.At y0:=⟨by decide,by decide,rfl,rfl,rfl,rfl,rfl,by decide⟩;obtain⟨m,b,a,l,n,o⟩:=lr (Wd:=Wd) k 400 (P:=P) ((g.fZ i).fin f (j y0)) (d.fZ e);unfold next
 rw[f];exact⟨b,a,l,n,λcs=>⟨m,o cs⟩⟩
end
def lL.qy{y}:∀{st frs}  ls ,lL y st frs->lL y (Go.cr.qy st ls) frs
 |[],frs,ls,h=>by rw[h.lV];trivial
 |s::st,frs,[],h=>by obtain⟨f,a,rfl,b,c⟩:=h.cons_inv;exact⟨b.keep [],c.qy []⟩
 |s::st,frs,l::ls,h=>by obtain⟨f,a,rfl,b,c⟩:=h.cons_inv;exact⟨b.keep l,c.qy ls⟩
def f10{y a c}(b:decide (y.c=1)=a)(d:decide (y.c=0)=c):f0 (f1 (Fl.of y) a) c=Fl.of y:=by subst b;subst d;rfl
def V'{y a}(b:decide (y.c=1)=a):f1 (Fl.of y) a=Fl.of y:=by subst b;rfl
def Ec{y a}(b:decide (y.c=0)=a):f0 (Fl.of y) a=Fl.of y:=by subst b;rfl
def j9{c}(h:vh c=true):c.1.kind≠.early:=by
 unfold vh at h
 simp_all
section
variable{P:abm}{n:Nt}(C:ga P n)(X:il P n){b:Nat}{kind:abi}{Wd:aaT}{cs:aaY}{g:abd}{w:World}{main:Bool}
variable(hW0:∀w,Wd w->∃v,w.cell? ⟨b,0,none⟩=some v)(hW1:∀w,Wd w->∃v,w.cell? ⟨b,1,none⟩=some v)
include X hW1 in
def O7{y}{c:cL}{fr frs}(h:j7 c.1=some (n.tS,n.tU,pt b 1))(a:FR y c.1 fr):rU P Wd (G fr (frs++cs)) (G (fr.finish (.pointer (some ⟨b,1,none⟩))) (frs++cs)):=by obtain⟨t,d,e,f⟩:=X.V9;exact⟨rfl,λmain w g=>tg a h d e f (hW1 w g)⟩
include X hW0 in
def JH{y}{c:cL}{fr frs}(h:j7 c.1=some (n.tG,n.tU,pt b 0))(a:FR y c.1 fr):rU P Wd (G fr (frs++cs)) (G (fr.finish (.pointer (some ⟨b,0,none⟩))) (frs++cs)):=by obtain⟨t,d,e,f⟩:=X.V8;exact⟨rfl,λmain w g=>tg a h d e f (hW0 w g)⟩
def r6{f args dA y fn body}(b:P.funcs[f]?=some fn)(c:fn.body=some body)(d:args.length=dA.size)(e:∀(i:Nat) a,args[i]?=some a->∃x,dA[i]?=some x/\SR y a x):FR y (dz P f args kind) (Frame.enter P f dA kind):=by
 refine⟨by simp[dz,b,Frame.enter],by simp[dz,b,c,Frame.enter],by simp[dz,b,Frame.enter],by simp[dz,b,Frame.enter,BQ.of],by simp[dz,b,Frame.enter],rfl,by simp[dz,b,Frame.enter,d],λt=>?_⟩;simp only[dz,b,Frame.enter,YW,Zt];rw[aak,zA];by_cases g:t<args.length
 . grind
 . rw[ZL (by omega),YR (by omega),List.getElem?_replicate]
   split<;>trivial
include X in
def yl:∃e,rV P Wd (G (Frame.enter P n.add #[.pointer (some ⟨b,0,none⟩),.int .i64 1] kind) cs) e/\qA P n b kind .a0 cs e:=by
 obtain⟨fn,body,f,g,q,r⟩:=X.PV
 have j:FR y0 (dz P n.add [pt b 0,i64 1] kind) (Frame.enter P n.add #[.pointer (some ⟨b,0,none⟩),.int .i64 1] kind):=r6 f g rfl λi a h=>by
  match i with
  |0=>simp at h;subst h;exact⟨_,rfl,rfl⟩
  |1=>simp at h;subst h;exact⟨_,rfl,rfl⟩
  |i+2=>simp at h
 have k:kN.At y0:=⟨by decide,by decide,rfl,rfl,rfl,rfl,rfl,by decide⟩;obtain⟨m,d,c,l,o,p⟩:=lr (Wd:=Wd) (P:=P) k 400 j (st:=[]) (frs:=[]) trivial;exact⟨_,⟨m,p cs⟩,_,y0,d,c,rfl,rY,l,o,rfl⟩
def Ed:kN.At y0:=⟨by decide,by decide,rfl,rfl,rfl,rfl,rfl,by decide⟩
include X in
def o0(C:ga P n):∃e,rV P Wd (G (Frame.enter P n.wait #[.pointer (some ⟨b,0,none⟩)] kind) cs) e/\qA P n b kind .w0 cs e:=by
 obtain⟨fn,body,f,g,p,q⟩:=X.JG
 have j:FR y0 (dz P n.wait [pt b 0] kind) (Frame.enter P n.wait #[.pointer (some ⟨b,0,none⟩)] kind):=r6 f g rfl λi a h=>by
  match i with
  |0=>simp at h;subst h;exact⟨_,rfl,rfl⟩
  |i+1=>simp at h
 obtain⟨m,d,c,k,l,o⟩:=lr (Wd:=Wd) (P:=P) Ed 400 j (st:=[]) (frs:=[]) trivial;exact⟨_,⟨m,o cs⟩,_,y0,d,c,rfl,rY,k.keep [0],l.qy [],rfl⟩
include X hW0 in
def wv(C:ga P n):∃f,rV P Wd (G (Frame.enter P n.done #[.pointer (some ⟨b,0,none⟩)] .deferred) cs) f/\qA P n b kind .d1 cs f:=by
 obtain⟨fn,body,l,o,A,B⟩:=X.JF
 have p:FR y0 (dz P n.done [pt b 0] .deferred) (Frame.enter P n.done #[.pointer (some ⟨b,0,none⟩)] .deferred):=r6 l o rfl λi a h=>by
  match i with
  |0=>simp at h;subst h;exact⟨_,rfl,rfl⟩
  |i+1=>simp at h
 obtain⟨m,q,g,j,r,s⟩:=lr (Wd:=Wd) (P:=P) Ed 400 p (st:=[]) (frs:=[]) trivial;obtain⟨k,t,u⟩:=C.d0 b;obtain⟨e,d,w,y,z⟩:=Eb (P:=P) (Wd:=Wd) (c:=D0 P n b) (v:=pt b 0) (x:=.pointer (some ⟨b,0,none⟩)) (.inr ⟨_,k⟩) j r t u (λ_=>rfl);exact⟨_,rV.trans ⟨m,s cs⟩ (rV.trans (JH X hW0 (cs:=cs) k j).yM (z cs)),_,y0,e,d,rfl,rY,w,y,rfl⟩
include C X in
def UJ(h:qA P n b kind .a0 cs g)(j:kind≠.early):∃k,stepG P main g w=.go k w #[⟨.mark .disable,false,true⟩]/\im P n b kind Wd .a2 cs k:=by
 obtain⟨c,y,fr,frs,rfl,I,l,f,rfl⟩:=h;obtain⟨m,q,r,t⟩:=C.a0 b kind;obtain⟨o,u,z,A⟩:=C.a1 b kind;refine⟨_,er JA l m (by rw[t];exact j) X.jb,rfl,?_⟩;obtain⟨d,a,p,B,D⟩:=Eb (P:=P) (Wd:=Wd) (v:=un) (x:=.tuple #[]) (.inl ⟨_,m⟩) l f q (by rw[r];rfl) (λ_=>rfl);obtain⟨i,e,E,F,H⟩:=Eb (P:=P) (Wd:=Wd) (c:=A1 P n b kind) (v:=ff) (x:=.bool false) (.inl ⟨_,o⟩) p B u (by rw[z];rfl) (λ_=>rfl);have hb:rU P Wd (G d (a++cs)) (G (d.finish (.bool false)) (a++cs)):=⟨rfl,λmain w _=>te (s:=(A1 P n b kind).1) p o (by rw[A];exact j) X.Nu⟩;exact⟨_,(D cs).trans (hb.yM.trans (H cs)),_,y0,i,e,rfl,rY,E,F,rfl⟩
include C X hW1 in
def UK{c v m:Nat}(o:qz b w c 0 m)(L:c<1000)(h:qA P n b kind .a2 cs g):
 ∃p w',stepG P main g w=.go p w' #[⟨.cell ⟨b,0,none⟩,false,true⟩,⟨.cell ⟨b,0,none⟩,true,true⟩]/\w'=w.setCell ⟨b,0,none⟩ (.int .u64 (dU (c+1:Nat) 0))/\qz b w' (c+1) 0 m/\(im P n b kind Wd .a4 cs p\/im P n b kind Wd .ae cs p):=by
 obtain⟨cf,y,fr,frs,rfl,M,z,q,rfl⟩:=h;obtain⟨A,E,F,G⟩:=C.a2 b kind
 have e:IntKind.u64.wrap (dU c 0+4294967296)=dU (c+1:Nat) 0:=by
  rw[jK (by unfold dU;omega) (by unfold dU;omega)];unfold dU;push_cast;omega
 have i:=oY (main:=main) (cs:=frs++cs) (w:=w) z A (j9 E) X.rZ (λx h=>h) o.cw (o.fz 0);rw[e]at i;have d:({y0 with c:=((c+1:Nat):Int)}:Sy).ok:=⟨by show(0:Int)<=2/\(2:Int)<=1000;decide,by show(0:Int)<=((c+1:Nat):Int)/\((c+1:Nat):Int)<=1000;omega⟩;have r:((c+1:Nat):Int)≠0:=by omega
 obtain⟨s,j,t,B,D⟩:=lN (P:=P) (Wd:=Wd) (y:={y0 with c:=((c+1:Nat):Int)}) (v:=.dU 0) (x:=.int .u64 (dU (c+1:Nat) 0)) (.inl ⟨_,A⟩) d (z.fZ F) (q.fZ G) rfl;refine⟨_,_,i,rfl,o.aT (c+1) 0,?_⟩;by_cases f:((c+1:Nat):Int)=1
 . left
   have H:=V' (y:={y0 with c:=((c+1:Nat):Int)}) (a:=true) (by simpa using f);have k:=C.a3 b kind (Fl.of {y0 with c:=((c+1:Nat):Int)});rw[H]at k;obtain⟨u,l,I,J,K⟩:=lN (P:=P) (Wd:=Wd) (v:=pt b 1) (x:=.pointer (some ⟨b,1,none⟩)) (.inr ⟨_,k⟩) d t B rfl;exact⟨rfl,_,(D cs).trans ((O7 X hW1 (cs:=cs) k t).yM.trans (K cs)),_,_,u,l,⟨rfl,f⟩,d,I,J,rfl⟩
 . right
   exact⟨rfl,_,D cs,_,_,s,j,⟨r,.inr ⟨rfl,f⟩⟩,d,t,B,rfl⟩
end
section
variable{P:abm}{n:Nt}(C:ga P n)(X:il P n){b:Nat}{kind:abi}{Wd:aaT}{cs:aaY}{g:abd}{w:World}{main:Bool}
variable(hW0:∀w,Wd w->∃v,w.cell? ⟨b,0,none⟩=some v)(hW1:∀w,Wd w->∃v,w.cell? ⟨b,1,none⟩=some v)
def Ay{y:Sy}(h:y.c≠0):decide (y.c=0)=false:=by grind
include C X in
def UL(h:qA P n b kind .a4 cs g)(p:kind≠.early):∃k,stepG P main g w=.go k w #[⟨.mark (.read ⟨b,1,none⟩),false,true⟩]/\im P n b kind Wd .ae cs k:=by
 obtain⟨c,y,fr,frs,⟨rfl,e⟩,l,m,f,rfl⟩:=h;have q:=V' (y:=y) (a:=true) (by simpa using e);obtain⟨i,o⟩:=C.a4 b kind (Fl.of y);rw[q]at i o;obtain⟨j,d,r,s,t⟩:=lN (P:=P) (Wd:=Wd) (v:=un) (x:=.tuple #[]) (.inl ⟨_,i⟩) l m f rfl;exact⟨_,eT (λu g h=>by cases h) m i (by rw[o];exact p) X.rd,rfl,_,t cs,_,y,j,d,⟨by rw[e];decide,.inl ⟨rfl,e⟩⟩,l,r,s,rfl⟩
include C X in
def UM {e rest} (h:qA P n b kind .ae (e :: rest) g) (t:kind ≠ .early):∃ d,stepG P main g w = .go d w #[⟨.mark .enable,false,true⟩]∧d.status = .running∧rV P Wd d (jG kind e rest (.tuple #[])):=by
 obtain⟨c,y,fr,frs,⟨f,i⟩,E,u,j,rfl⟩:=h;obtain⟨fn,body,f1,F,H,v⟩:=X.PV
 have key:qU c.1=some n.en->c.2=[]->c.1.kind=kind->c.1.fn=n.add->∃ d,stepG P main (G fr (frs ++ e :: rest)) w = .go d w #[⟨.mark .enable,false,true⟩]∧d.status = .running∧rV P Wd d (jG kind e rest (.tuple #[])):=fun q x s z=>by
  rw[x] at j;obtain rfl:=j.lV;obtain⟨A,B⟩:=Ax (main:=main) (cs:=[] ++ e :: rest) (w:=w) u q X.en
  have k:jL ({ c.1 with defers:=[] }:oB) n.add=true:=by
   unfold jL;unfold qU at q;split at q
   . rename_i g cap as D hd;simp[D,z]
   cases q
  refine⟨_,A,rfl,?_⟩;have:=kO (Wd:=Wd) (c:=e) (rest:=rest) B k f1 v (by show c.1.kind≠_;rw[s];exact t)
  rw[show ({ c.1 with defers:=[] }:oB).kind=kind from s] at this
  exact this.yM
 rcases i with ⟨rfl,i⟩|⟨rfl,i⟩
 . have r:=f10 (y:=y) (a:=true) (c:=false) (by simpa using i) (Ay f)
   obtain⟨l,m,o,p⟩:=C.a5 b kind (Fl.of y);rw[r] at l m o p;exact key l m o p
 have r:=f10 (y:=y) (a:=false) (c:=false) (by simpa using i) (Ay f)
 obtain⟨l,m,o,p⟩:=C.a6 b kind (Fl.of y);rw[r] at l m o p;exact key l m o p
include C X in
def UN(h:qA P n b kind .d1 cs g):∃f,stepG P main g w=.go f w #[⟨.mark (.releaseMerge ⟨b,0,none⟩),false,true⟩]/\im P n b kind Wd .d2 cs f:=by
 obtain⟨c,y,fr,frs,rfl,r,i,d,rfl⟩:=h;obtain⟨j,k,l,m⟩:=C.d1 b;obtain⟨e,a,o,p,q⟩:=Eb (P:=P) (Wd:=Wd) (v:=un) (x:=.tuple #[]) (.inl ⟨_,j⟩) i d l m (λ_=>rfl);exact⟨_,eT (λs g h=>by cases h) i j (j9 k) X.rel,rfl,_,q cs,_,y0,e,a,rfl,rY,o,p,rfl⟩
include C X in
def UO(h:qA P n b kind .d2 cs g):∃j,stepG P main g w=.go j w #[⟨.mark .disable,false,true⟩]/\im P n b kind Wd .d4 cs j:=by
 obtain⟨c,y,fr,frs,rfl,H,k,f,rfl⟩:=h;obtain⟨l,p,q,r⟩:=C.d2 b;obtain⟨m,t,u,z⟩:=C.d3 b;refine⟨_,er JA k l (j9 p) X.jb,rfl,?_⟩;obtain⟨d,a,o,A,B⟩:=Eb (P:=P) (Wd:=Wd) (v:=un) (x:=.tuple #[]) (.inl ⟨_,l⟩) k f q r (λ_=>rfl);obtain⟨i,e,D,E,F⟩:=Eb (P:=P) (Wd:=Wd) (c:=D3 P n b) (v:=ff) (x:=.bool false) (.inl ⟨_,m⟩) o A u z (λ_=>rfl);have hb:rU P Wd (G d (a++cs)) (G (d.finish (.bool false)) (a++cs)):=⟨rfl,λmain w _=>te (s:=(D3 P n b).1) o m (j9 t) X.Nu⟩;exact⟨_,(B cs).trans (hb.yM.trans (F cs)),_,y0,i,e,rfl,rY,D,E,rfl⟩
def kg(P:abm)(a:FuncId)(tmps:aaS)(todo:abb):Frame:=⟨a,tmps,todo,[],.returning,.deferred,none⟩
def cA(P:abm):Frame:={(default:Frame)with fn:=P.funcs.size,defers:=[],mode:=.panicking [goexitEntry]}
def tk{a fn tmps todo}(c:P.funcs[a]?=some fn)(d:fn.results=#[]):QuitsD P 2 0 (G (kg P a tmps todo) [cA P]):=by
 refine .ctl (g':=G (cA P) []) rfl (λw=>?_) (.ctl (g':={G (cA P) []with status:=.finished}) rfl (λw=>?_) ⟨rfl,rfl⟩)
 . simp[G,stepG,unwind,c,results,d,kg,cA,goexitEntry]
   rfl
 have b:(cA P).catches P=false:=by simp[Frame.catches,cA];rfl
 simp[G,stepG,unwind,cA,goexitEntry]at b ⊢;simp[b]
def tp{d}:∀{m k a c},iQ P (λ_=>True) m a c->QuitsD P k d c->QuitsD P (k+m) d a
 |0,k,a,c,h,b=>by obtain rfl:=h;exact b
 |m+1,k,a,c,h,b=>by obtain⟨i,⟨e,f⟩,g⟩:=h;exact .ctl e (λw=>f false w trivial) (tp g b)
include X in
def wx{c y fr frs a fn tmps todo}(o:P.funcs[a]?=some fn)(b:fn.results=#[])(p:y.ok)(j:FR y c.1 fr)(e:lL y c.2 frs)
 (k:qU c.1=some n.en) (q:jL (lM P (Fl.of y) c).1 n.done=true) (r:(lM P (Fl.of y) c).2=[]) (l:(lM P (Fl.of y) c).1.kind=.deferred):∃m,QuitsD P m 1 (G fr (frs++[kg P a tmps todo,cA P])):=by
 obtain⟨_,f⟩:=Ax (P:=P) (main:=false) (cs:=frs++[kg P a tmps todo,cA P]) (w:=default) j k X.en;obtain⟨m,g,d,s,t,u⟩:=lr (Wd:=λ_=>True) (P:=P) (Fl.BY p) 400 f e
 have h:lL y [] d:=by rw[<-r];exact t
 obtain rfl:=h.lV;obtain⟨fd,body,v,B,C,x⟩:=X.JF;have hb:=kO (Wd:=λ_=>True) (c:=kg P a tmps todo) (rest:=[cA P]) s q v x (by show(lM P (Fl.of y) c).1.kind≠_;rw[l];decide)
 have i:jG (sgo P (Fl.of y) 400 {c.1 with defers:=[]} c.2).1.kind (kg P a tmps todo) [cA P] (.tuple #[])=G (kg P a tmps todo) [cA P]:=by rw[show(sgo P (Fl.of y) 400 {c.1 with defers:=[]} c.2).1.kind=.deferred from l];rfl
 rw[i]at hb;have z:QuitsD P (2+1) 0 (G g [kg P a tmps todo,cA P]):=.ctl rfl (λw=>hb.2 false w trivial) (tk o b)
 have A:=tp (u [kg P a tmps todo,cA P]) z;exact⟨_,.said ⟨.mark .enable,false,true⟩ rfl rfl (λw=>(Ax (P:=P) (main:=false) (cs:=frs++[kg P a tmps todo,cA P]) (w:=w) j k X.en).1) A⟩
def Gone(P:abm)(Wd:aaT)(a:abd):Prop:=∃m,QuitsD P m 1 a
def Az{m k a c}(h:iQ P (λ_=>True) m a c)(b:QuitsD P k 1 c):Gone P Wd a:=⟨_,tp h b⟩
include C X in
def UQ{k v m o fn tmps todo}(N:P.funcs[o]?=some fn)(f:fn.results=#[])(G:qz b w (k+1) v m)(R:k<1000)(S:v<=1)(h:qA P n b kind .d4 [kg P o tmps todo,cA P] g):
 ∃H w',stepG P main g w=.go H w' #[⟨.cell ⟨b,0,none⟩,false,true⟩,⟨.cell ⟨b,0,none⟩,true,true⟩]/\w'=w.setCell ⟨b,0,none⟩ (.int .u64 (dU k v))/\qz b w' k v m/\((k=0/\v=1/\im P n b kind Wd .d5 [kg P o tmps todo,cA P] H)\/(¬(k=0/\v=1)/\Gone P Wd H)):=by
 obtain⟨cf,y,fr,frs,rfl,T,E,i,rfl⟩:=h;obtain⟨F,O,I,J⟩:=C.d4 b
 have e:IntKind.u64.wrap (dU (k+1:Nat) v+18446744069414584320)=dU k v:=by
  have:dU (k+1:Nat) v+18446744069414584320=dU k v+18446744073709551616:=by unfold dU;push_cast;omega
  rw[this];simp[IntKind.wrap,IntKind.bits,IntKind.signed];unfold dU;omega
 have p:=oY (main:=main) (cs:=frs++[kg P o tmps todo,cA P]) (w:=w) E F (j9 O) X.rZ (λx h=>h) G.cw (G.fz 0)
 rw[e]at p;have a:({y0 with c:=(k:Int)}:Sy).ok:=⟨by show(0:Int)<=2/\(2:Int)<=1000;decide,by show(0:Int)<=(k:Int)/\(k:Int)<=1000;omega⟩
 refine⟨_,_,p,rfl,G.aT k v,?_⟩;have q:v=0\/v=1:=by omega
 rcases q with rfl|rfl
 . refine .inr ⟨by omega,?_⟩
   obtain⟨l,d,r,s,t⟩:=lN (P:=P) (Wd:=λ_=>True) (y:={y0 with c:=(k:Int)}) (v:=.dU 0) (x:=.int .u64 (dU k 0)) (.inl ⟨_,F⟩) a (E.fZ I) (i.fZ J) rfl
   have u:=C.d5 b (Fl.of {y0 with c:=(k:Int)}) (decide ((k:Int)=0))
   obtain⟨z,A,B⟩:=C.V6 b (Fl.of {y0 with c:=(k:Int)}) (decide ((k:Int)=0))
   rw[Ec rfl]at u z A B;obtain⟨Q,K⟩:=wx X N f a r s u z A B;obtain⟨j,L⟩:=t [kg P o tmps todo,cA P];exact Az L K
 by_cases D:k=0
 . refine .inl ⟨D,rfl,?_⟩
   obtain⟨l,d,r,s,t⟩:=lN (P:=P) (Wd:=Wd) (y:={y0 with c:=(k:Int)}) (v:=.dU 1) (x:=.int .u64 (dU k 1)) (.inl ⟨_,F⟩) a (E.fZ I) (i.fZ J) rfl
   exact⟨rfl,_,t _,_,_,l,d,⟨rfl,by show(k:Int)=0;omega⟩,a,r,s,rfl⟩
 refine .inr ⟨by omega,?_⟩
 obtain⟨l,d,r,s,t⟩:=lN (P:=P) (Wd:=λ_=>True) (y:={y0 with c:=(k:Int)}) (v:=.dU 1) (x:=.int .u64 (dU k 1)) (.inl ⟨_,F⟩) a (E.fZ I) (i.fZ J) rfl
 have M:decide ((k:Int)=0)=false:=by simpa using D
 have u:=C.d6 b (Fl.of {y0 with c:=(k:Int)})
 obtain⟨z,A,B⟩:=C.V7 b (Fl.of {y0 with c:=(k:Int)})
 rw[Ec M]at u z A B;obtain⟨Q,K⟩:=wx X N f a r s u z A B;obtain⟨j,L⟩:=t [kg P o tmps todo,cA P];exact Az L K
include C X in
def US{m}(q:qz b w 0 1 m)(h:qA P n b kind .d5 cs g):∃k,stepG P main g w=.go k w #[⟨.cell ⟨b,0,none⟩,false,true⟩]/\im P n b kind Wd .d6 cs k:=by
 obtain⟨c,y,fr,frs,⟨rfl,e⟩,l,o,f,rfl⟩:=h;have r:=Ec (y:=y) (a:=true) (by simpa using e)
 obtain⟨i,p⟩:=C.d7 b (Fl.of y);rw[r]at i p;have s:SR y (.dU 1) (.int .u64 (dU 0 1)):=by show _=Value.int .u64 (dU y.c 1);rw[e]
 obtain⟨j,d,t,u,v⟩:=lN (P:=P) (Wd:=Wd) (.inl ⟨_,i⟩) l o f s;exact⟨_,tj o i (j9 p) X.uV q.cw,rfl,_,v cs,_,y,j,d,⟨rfl,e⟩,l,t,u,rfl⟩
include C X in
def UT{m}(e:qz b w 0 1 m)(h:qA P n b kind .d6 cs g):∃k w',stepG P main g w=.go k w' #[⟨.cell ⟨b,0,none⟩,true,true⟩]/\w'=w.setCell ⟨b,0,none⟩ (.int .u64 (dU 0 0))/\qz b w' 0 0 m/\im P n b kind Wd .d7 cs k:=by
 obtain⟨c,y,fr,frs,⟨rfl,l⟩,o,p,f,rfl⟩:=h;have r:=Ec (y:=y) (a:=true) (by simpa using l);obtain⟨i,q⟩:=C.d8 b (Fl.of y);rw[r]at i q;obtain⟨j,d,s,t,u⟩:=lN (P:=P) (Wd:=Wd) (v:=un) (x:=.tuple #[]) (.inl ⟨_,i⟩) o p f rfl;exact⟨_,_,GR p i (j9 q) X.GU e.cw (e.fz 0),rfl,e.aT 0 0,rfl,_,u cs,_,y,j,d,⟨rfl,l⟩,o,s,t,rfl⟩
include C X in
def UU{v m k fn tmps todo}(E:P.funcs[k]?=some fn)(d:fn.results=#[])(l:qz b w 0 v m)(M:m<=1000)(h:qA P n b kind .d7 [kg P k tmps todo,cA P] g):
 ∃q w',stepG P main g w=.go q w' (semEvents ⟨b,1,none⟩)/\w'=w.setCell ⟨b,1,none⟩ (.int .u32 (m+1:Nat))/\qz b w' 0 v (m+1)/\Gone P Wd q:=by
 obtain⟨c,y,fr,frs,⟨rfl,F⟩,r,s,o,rfl⟩:=h;have f:=Ec (y:=y) (a:=true) (by simpa using F)
 obtain⟨p,t⟩:=C.d9 b (Fl.of y);rw[f]at p t;have i:=nF (main:=main) (cs:=frs++[kg P k tmps todo,cA P]) (w:=w) s p (j9 t) X.nG l.cs (l.fz 1);have e:IntKind.u32.wrap ((m:Int)+1)=((m+1:Nat):Int):=by rw[IntKind.wrap_u32];omega
 rw[e]at i;obtain⟨G,u,H,I,J⟩:=lN (P:=P) (Wd:=λ_=>True) (v:=un) (x:=.tuple #[]) (.inl ⟨_,p⟩) r s o rfl
 have z:=C.da b (Fl.of y);obtain⟨A,B,D⟩:=C.db b (Fl.of y);rw[f]at z A B D;obtain⟨N,K⟩:=wx X E d r H I z A B D;obtain⟨j,L⟩:=J [kg P k tmps todo,cA P];exact⟨_,_,i,rfl,l.D9 (m+1),Az L K⟩
end
section
variable{P:abm}{n:Nt}(C:ga P n)(X:il P n){b:Nat}{kind:abi}{Wd:aaT}{cs:aaY}{g:abd}{w:World}{main:Bool}
variable(hW0:∀w,Wd w->∃v,w.cell? ⟨b,0,none⟩=some v)(hW1:∀w,Wd w->∃v,w.cell? ⟨b,1,none⟩=some v)
include C X in
def UW(h:qA P n b kind .w0 cs g)(k:kind≠.early):∃f,stepG P main g w=.go f w #[⟨.mark .disable,false,true⟩]/\im P n b kind Wd .w1 cs f:=by
 obtain⟨c,y,fr,frs,rfl,s,i,d,rfl⟩:=h;obtain⟨j,l,m,o⟩:=C.w0 b kind;obtain⟨e,a,p,q,r⟩:=Eb (P:=P) (Wd:=Wd) (v:=un) (x:=.tuple #[]) (.inl ⟨_,j⟩) i d l (by rw[m];rfl) (λ_=>rfl);exact⟨_,er JA i j (by rw[o];exact k) X.jb,rfl,_,r cs,_,y0,e,a,rfl,rY,p.keep [5],q.qy [[0]],rfl⟩
include C X in
def UX{c m}(r:qz b w c 0 m)(z:c<=1000)(h:qA P n b kind .w1 cs g):
 ∃f,stepG P main g w=.go f w #[⟨.cell ⟨b,0,none⟩,false,true⟩]/\((c=0/\im P n b kind Wd .we cs f)\/(c≠0/\im P n b kind Wd (.w2 c) cs f)):=by
 obtain⟨cf,y,fr,frs,rfl,A,k,i,rfl⟩:=h;obtain⟨l,s,t,u⟩:=C.w1 b kind;have d:({y0 with c:=(c:Int)}:Sy).ok:=⟨by show(0:Int)<=2/\(2:Int)<=1000;decide,by show(0:Int)<=(c:Int)/\(c:Int)<=1000;omega⟩;obtain⟨e,a,o,p,q⟩:=lN (P:=P) (Wd:=Wd) (y:={y0 with c:=(c:Int)}) (v:=.dU 0) (x:=.int .u64 (dU c 0)) (.inl ⟨_,l⟩) d (k.fZ t) (i.fZ u) rfl;refine⟨_,tj k l (j9 s) X.uV r.cw,?_⟩;by_cases j:c=0
 . exact .inl ⟨j,rfl,_,q cs,_,_,e,a,.inl ⟨rfl,by show(c:Int)=0;omega⟩,d,o,p,rfl⟩
 exact .inr ⟨j,rfl,_,q cs,_,_,e,a,⟨rfl,rfl,j⟩,d,o,p,rfl⟩
include C X hW0 in
def UY(h:qA P n b kind .we cs g)(D:kind≠.early):∃E,stepG P main g w=.go E w #[⟨.mark .enable,false,true⟩]/\im P n b kind Wd .wa cs E:=by
 obtain⟨c,y,fr,frs,e,k,q,l,rfl⟩:=h;rcases e with⟨rfl,e⟩|⟨rfl,e⟩
 . have r:=Ec (y:=y) (a:=true) (by simpa using e)
   obtain⟨f,m⟩:=C.w2 b kind (Fl.of y);have i:=C.w3 b kind (Fl.of y);rw[r]at f m i;obtain⟨s,o,p,t,u⟩:=lN (P:=P) (Wd:=Wd) (v:=un) (x:=.tuple #[]) (.inl ⟨_,f⟩) k q l rfl;obtain⟨j,d,z,A,B⟩:=lN (P:=P) (Wd:=Wd) (c:=WC P n b kind (Fl.of y)) (v:=pt b 0) (x:=.pointer (some ⟨b,0,none⟩)) (.inr ⟨_,i⟩) k p t rfl;exact⟨_,er JB q f (by rw[m];exact D) X.en,rfl,_,(u cs).trans ((JH X hW0 (c:=WC P n b kind (Fl.of y)) (cs:=cs) i p).yM.trans (B cs)),_,y,j,d,.inl ⟨rfl,e⟩,k,z,A,rfl⟩
 have r:=Ec (y:=y) (a:=false) (Ay e);obtain⟨f,m⟩:=C.wc b kind (Fl.of y);have i:=C.wd b kind (Fl.of y);rw[r]at f m i;obtain⟨s,o,p,t,u⟩:=lN (P:=P) (Wd:=Wd) (v:=un) (x:=.tuple #[]) (.inl ⟨_,f⟩) k q l rfl;obtain⟨j,d,z,A,B⟩:=lN (P:=P) (Wd:=Wd) (c:=Sx P n b kind (Fl.of y)) (v:=pt b 0) (x:=.pointer (some ⟨b,0,none⟩)) (.inr ⟨_,i⟩) k p t rfl;exact⟨_,er JB q f (by rw[m];exact D) X.en,rfl,_,(u cs).trans ((JH X hW0 (c:=Sx P n b kind (Fl.of y)) (cs:=cs) i p).yM.trans (B cs)),_,y,j,d,.inr ⟨rfl,e⟩,k,z,A,rfl⟩
include C X in
def Sz{j rest}(h:qA P n b kind .wa (j::rest) g)(q:kind≠.early):∃t,stepG P main g w=.go t w #[⟨.mark (.acquire ⟨b,0,none⟩),false,true⟩]/\t.status=.running/\rV P Wd t (jG kind j rest (.tuple #[])):=by
 obtain⟨c,y,fr,frs,k,E,r,l,rfl⟩:=h;obtain⟨fn,body,f1,H,I,F⟩:=X.JG;rcases k with⟨rfl,k⟩|⟨rfl,k⟩
 . have u:=Ec (y:=y) (a:=true) (by simpa using k)
   obtain⟨f,m⟩:=C.w4 b kind (Fl.of y);obtain⟨o,p,i⟩:=C.w5 b kind (Fl.of y);rw[u]at f m o p i;obtain⟨z,d,A,B,D⟩:=lN (P:=P) (Wd:=Wd) (v:=un) (x:=.tuple #[]) (.inl ⟨_,f⟩) E r l rfl;have e:lL y (WB P n b kind (Fl.of y)).2 d:=B;rw[p]at e;obtain rfl:=e.lV;have hb:=kO (Wd:=Wd) (c:=j) (rest:=rest) (s:=(WB P n b kind (Fl.of y)).1) A o f1 F (by rw[i];exact q);rw[i]at hb;exact⟨_,eT (λG g h=>by cases h) r f (by rw[m];exact q) X.acq,rfl,(D (j::rest)).trans hb.yM⟩
 have u:=Ec (y:=y) (a:=false) (Ay k);obtain⟨f,m⟩:=C.we b kind (Fl.of y);obtain⟨o,p,i⟩:=C.wf b kind (Fl.of y);rw[u]at f m o p i;obtain⟨z,d,A,B,D⟩:=lN (P:=P) (Wd:=Wd) (v:=un) (x:=.tuple #[]) (.inl ⟨_,f⟩) E r l rfl;have e:lL y (O6 P n b kind (Fl.of y)).2 d:=B;rw[p]at e;obtain rfl:=e.lV;have hb:=kO (Wd:=Wd) (c:=j) (rest:=rest) (s:=(O6 P n b kind (Fl.of y)).1) A o f1 F (by rw[i];exact q);rw[i]at hb;exact⟨_,eT (λG g h=>by cases h) r f (by rw[m];exact q) X.acq,rfl,(D (j::rest)).trans hb.yM⟩
def Nv{c c' v a:Nat}(d:v<=1000)(b:a<=1000):dU c v=dU c' a↔(c=c'/\v=a):=by unfold dU;omega
include C X hW1 in
def UZ{k c m}(l:qz b w c 0 m)(h:qA P n b kind (.w2 k) cs g):
 (c=k/\∃o w',stepG P main g w=.go o w' #[⟨.cell ⟨b,0,none⟩,false,true⟩,⟨.cell ⟨b,0,none⟩,true,true⟩]/\w'=w.setCell ⟨b,0,none⟩ (.int .u64 (dU k 1))/\qz b w' k 1 m/\im P n b kind Wd .w3 cs o)\/
 (c≠k/\∃o,stepG P main g w=.go o w #[⟨.cell ⟨b,0,none⟩,false,true⟩]/\im P n b kind Wd .w1 cs o):=by
 obtain⟨cf,y,fr,frs,⟨rfl,K,L⟩,p,z,q,rfl⟩:=h;have r:y.c≠0:=by rw[K];omega
 have D:=Ec (y:=y) (a:=false) (Ay r);obtain⟨s,E⟩:=C.w6 b kind (Fl.of y);rw[D]at s E
 have A:∀j:Nat,∀x,SR y (.dU j) x->x=.int .u64 (dU k j):=λj x F=>by have F:x=.int .u64 (dU y.c j):=F;rw[F,K]
 by_cases f:c=k
 . subst f
   refine .inl ⟨rfl,_,_,gE z s (j9 E) X.wu (A 0) (A 1) l.cw (l.fz 0),rfl,l.aT c 1,rfl,?_⟩;have i:=C.w8 b kind (Fl.of y);rw[D]at i;obtain⟨t,d,B,G,H⟩:=lN (P:=P) (Wd:=Wd) (v:=tt) (x:=.bool true) (.inl ⟨_,s⟩) p z q rfl;obtain⟨I,u,M,N,O⟩:=lN (P:=P) (Wd:=Wd) (c:=W3 P n b kind (Fl.of y)) (v:=pt b 1) (x:=.pointer (some ⟨b,1,none⟩)) (.inr ⟨_,i⟩) p B G rfl;exact⟨_,(H cs).trans ((O7 X hW1 (c:=W3 P n b kind (Fl.of y)) (cs:=cs) i B).yM.trans (O cs)),_,y,I,u,⟨rfl,r⟩,p,M,N,rfl⟩
 have J:¬dU c 0=dU k 0:=λe=>f ((Nv (by omega) (by omega)).1 e).1
 refine .inr ⟨f,_,ik z s (j9 E) X.wu (A 0) (A 1) l.cw (l.fz 0) J,rfl,?_⟩;have i:=C.w7 b kind (Fl.of y);rw[D]at i;obtain⟨t,d,B,G,H⟩:=lN (P:=P) (Wd:=Wd) (v:=ff) (x:=.bool false) (.inl ⟨_,s⟩) p z q rfl;have Q:=B.keep [5];have R:=G.qy [[0]];refine⟨_,H cs,W1 P n b kind,y,t,d,rfl,p,?_,?_,rfl⟩
 . rw[<-i];exact Q
 rw[<-i];exact R
include C X in
def U1(h:qA P n b kind .w3 cs g)(p:kind≠.early):∃j,stepG P main g w=.go j w #[⟨.mark (.write ⟨b,1,none⟩),false,true⟩]/\im P n b kind Wd .w4 cs j:=by obtain⟨c,y,fr,frs,⟨rfl,k⟩,l,m,e,rfl⟩:=h;have q:=Ec (y:=y) (a:=false) (Ay k);obtain⟨f,o⟩:=C.w9 b kind (Fl.of y);rw[q]at f o;obtain⟨i,d,r,s,t⟩:=lN (P:=P) (Wd:=Wd) (v:=un) (x:=.tuple #[]) (.inl ⟨_,f⟩) l m e rfl;exact⟨_,eT (λu g h=>by cases h) m f (by rw[o];exact p) X.wr,rfl,_,t cs,_,y,i,d,⟨rfl,k⟩,l,r,s,rfl⟩
include C X in
def U2{c v m}(i:qz b w c v m)(D:m≠0)(h:qA P n b kind .w4 cs g)(t:kind≠.early):
 ∃o w',stepG P main g w=.go o w' (semEvents ⟨b,1,none⟩)/\w'=w.setCell ⟨b,1,none⟩ (.int .u32 (m-1:Nat))/\qz b w' c v (m-1)/\im P n b kind Wd .w5 cs o:=by
 obtain⟨cf,y,fr,frs,⟨rfl,p⟩,q,r,j,rfl⟩:=h;have u:=Ec (y:=y) (a:=false) (Ay p);obtain⟨k,s⟩:=C.wa b kind (Fl.of y);rw[u]at k s;have d:=rX (main:=main) (cs:=frs++cs) (w:=w) (n:=(m:Int)) r k (by rw[s];exact t) X.DX i.cs (by omega) (i.fz _);have e:((m:Int)-1)=((m-1:Nat):Int):=by omega
 rw[e]at d;obtain⟨l,f,z,A,B⟩:=lN (P:=P) (Wd:=Wd) (v:=un) (x:=.tuple #[]) (.inl ⟨_,k⟩) q r j rfl;exact⟨_,_,d,rfl,i.D9 (m-1),rfl,_,B cs,_,y,l,f,⟨rfl,p⟩,q,z,A,rfl⟩
include C X in
def SA{c v}(e:qz b w c v 0)(h:qA P n b kind .w4 cs g):stepG P main g w=.go {g with status:=.blocked} w #[]:=by obtain⟨cf,y,fr,frs,⟨rfl,f⟩,m,i,j,rfl⟩:=h;have k:=Ec (y:=y) (a:=false) (Ay f);obtain⟨d,l⟩:=C.wa b kind (Fl.of y);rw[k]at d l;exact yR i d X.DX e.cs
include C X in
def U3{m}(r:qz b w 0 0 m)(h:qA P n b kind .w5 cs g):∃k,stepG P main g w=.go k w #[⟨.cell ⟨b,0,none⟩,false,true⟩]/\im P n b kind Wd .we cs k:=by obtain⟨c,y,fr,frs,⟨rfl,l⟩,o,p,e,rfl⟩:=h;have s:=Ec (y:=y) (a:=false) (Ay l);obtain⟨f,q⟩:=C.wb b kind (Fl.of y);rw[s]at f q;have i:=tj (main:=main) (cs:=frs++cs) p f (j9 q) X.uV r.cw;obtain⟨j,d,t,u,z⟩:=lN (P:=P) (Wd:=Wd) (v:=u64 0) (x:=.int .u64 0) (.inl ⟨_,f⟩) o p e rfl;exact⟨_,i,rfl,_,z cs,_,y,j,d,.inr ⟨rfl,l⟩,o,t,u,rfl⟩
end
structure lO(P:abm)(n:BV):Prop where
 lock:∃fn body,P.funcs[n.lock]?=some fn/\fn.body=some body/\fn.ntmps=6/\fn.results=#[]
 unlock:∃fn body,P.funcs[n.unlock]?=some fn/\fn.body=some body/\fn.ntmps=6/\fn.results=#[]
section
variable{P:abm}{n:BV}(C:fQ P n)(X:fR P n)(F:lO P n){b o:Nat}{kind:abi}{Wd:aaT}{cs:aaY}{g:abd}{w:World}{main:Bool}
include F in
def qB:∃a,rV P Wd (G (Frame.enter P n.lock #[.pointer (some ⟨b,o,none⟩)] kind) cs) a/\np P n b o kind .ld cs a:=by obtain⟨fn,body,c,d,e,f⟩:=F.lock;exact Ea ⟨fn,body,c,d,e⟩
include F in
def oq:∃e,rV P Wd (G (Frame.enter P n.unlock #[.pointer (some ⟨b,o,none⟩)] kind) cs) e/\np P n b o kind .FG cs e:=by
 obtain⟨fn,body,f,g,q,r⟩:=F.unlock
 have j:FR y0 (dz P n.unlock [pt b o] kind) (Frame.enter P n.unlock #[.pointer (some ⟨b,o,none⟩)] kind):=r6 f g rfl λi a h=>by
  match i with
  |0=>simp at h;subst h;exact⟨_,rfl,rfl⟩
  |i+1=>simp at h
 obtain⟨m,d,c,k,l,p⟩:=lr (Wd:=Wd) (P:=P) Ed 400 j (st:=[]) (frs:=[]) trivial;exact⟨_,⟨m,p cs⟩,_,y0,d,c,rfl,rY,k.keep [0,5],l.keep [],rfl⟩
include F in
def r7{c rest}(h:np P n b o kind .back (c::rest) g)(e:kind≠.early):rV P Wd g (jG kind c rest (.tuple #[])):=by obtain⟨cf,y,fr,frs,rfl,l,i,a,rfl⟩:=h;obtain⟨fn,body,j,m,p,k⟩:=F.lock;have d:lL y [] frs:=a;obtain rfl:=d.lV;exact(kO (Wd:=Wd) (c:=c) (rest:=rest) (s:=(BK n kind).1) (f:=n.lock) i (by simp[BK,jL]) j k e).yM
include F in
def lx{c rest}(h:np P n b o kind .BZ (c::rest) g)(e:kind≠.early):rV P Wd g (jG kind c rest (.tuple #[])):=by obtain⟨cf,y,fr,frs,rfl,l,i,a,rfl⟩:=h;obtain⟨fn,body,j,m,p,k⟩:=F.unlock;have d:lL y [] frs:=a;obtain rfl:=d.lV;exact(kO (Wd:=Wd) (c:=c) (rest:=rest) (s:=(Sj n kind).1) (f:=n.unlock) i (by simp[Sj,jL]) j k e).yM
end
