import Derived.Conc.QuitsD
import Derived.Test.YtkcceaplmgdnfaaGreatDoorC9
set_option linter.all false
namespace Go.cG
open Go.Conc
inductive wP where
 |a0|a2|a4|ae
 |d1|d2|d4|d5|d6|d7
 |w0|w1|we|wa|w2 (c:Nat)|w3|w4|w5
structure rP(b:Nat)(w:World)(c v m:Nat):Prop where
 cw:w.cell? ⟨b,0,none⟩=some (.int .u64 (eF c v))
 cs:w.cell? ⟨b,1,none⟩=some (.int .u32 m)
 fz:∀i,w.frozen? ⟨b,i,none⟩=false
def rP.aW{b:Nat}{w:World}{c v m:Nat}(h:rP b w c v m)(c' a:Nat):rP b (w.setCell ⟨b,0,none⟩ (.int .u64 (eF c' a))) c' a m:=⟨kh h.cw,by rw[dG (by simp)];exact h.cs,λi=>by rw[oP];exact h.fz i⟩
def rP.FI{b:Nat}{w:World}{c v m:Nat}(h:rP b w c v m)(a:Nat):rP b (w.setCell ⟨b,1,none⟩ (.int .u32 a)) c v a:=⟨by rw[dG (by simp)];exact h.cw,kh h.cs,λi=>by rw[oP];exact h.fz i⟩
section
variable(P:adS)(n:IL)(b:Nat)(kind:adK)
def ZO(p:wP)(c:cO)(y:Sy):Prop:=
 match p with
 |.a0=>c=A0 P n b kind
 |.a2=>c=A2 P n b kind
 |.a4=>c=A4 P n b kind (Fl.of y)/\y.c=1
 |.ae=>y.c≠0/\((c=A5 P n b kind (Fl.of y)/\y.c=1)\/(c=A3 P n b kind (Fl.of y)/\y.c≠1))
 |.d1=>c=D1 P n b
 |.d2=>c=D2 P n b
 |.d4=>c=D4 P n b
 |.d5=>c=DE P n b (Fl.of y) 1/\y.c=0
 |.d6=>c=D6 P n b (Fl.of y)/\y.c=0
 |.d7=>c=D7 P n b (Fl.of y)/\y.c=0
 |.w0=>c=W0 P n b kind
 |.w1=>c=W1 P n b kind
 |.we=>(c=WE P n b kind (Fl.of y)/\y.c=0)\/(c=Tz P n b kind (Fl.of y)/\y.c≠0)
 |.wa=>(c=WA P n b kind (Fl.of y)/\y.c=0)\/(c=TA P n b kind (Fl.of y)/\y.c≠0)
 |.w2 k=>c=WE P n b kind (Fl.of y)/\y.c=k/\k≠0
 |.w3=>c=Ty P n b kind (Fl.of y)/\y.c≠0
 |.w4=>c=W4 P n b kind (Fl.of y)/\y.c≠0
 |.w5=>c=W5 P n b kind (Fl.of y)/\y.c≠0
def rQ(p:wP)(cs:adt)(g:adF):Prop:=∃c y fr frs,ZO P n b kind p c y/\y.ok/\FR y c.1 fr/\mF y c.2 frs/\g=G fr (frs++cs)
def iO(Wd:adr)(p:wP)(cs:adt)(a:adF):Prop:=a.status=.running/\∃c,tg P Wd a c/\rQ P n b kind p cs c
end
def rQ.running{P:adS}{n:IL}{b:Nat}{kind:adK}{p:wP}{cs:adt}{g:adF}(h:rQ P n b kind p cs g):g.status=.running/\g.offers=none:=by obtain⟨c,y,fr,frs,_,_,_,_,rfl⟩:=h;exact⟨rfl,rfl⟩
def An{s:jT}{v:SV}(h:(∃x,bb s=some x)\/(∃x,kM s=some x)):∃s',xN s v=some s':=by
 unfold xN;rcases h with⟨x,h⟩|⟨x,h⟩
 . unfold bb at h
   split at h
   . simp_all
   . cases h
 . unfold kM at h
   split at h
   . simp_all
   . cases h
section
variable{P:adS}{Wd:adr}{y:Sy}{c:cO}{v:SV}{x:Value}{fr:Frame}{frs:adt}
def mH(h:(∃x,bb c.1=some x)\/(∃x,kM c.1=some x))(f:y.ok)(g:FR y c.1 fr)(d:mF y c.2 frs)(i:SR y v x):
 ∃b a,FR y (next P (Fl.of y) c v).1 b/\mF y (next P (Fl.of y) c v).2 a/\∀cs,tg P Wd (G (fr.finish x) (frs++cs)) (G b (a++cs)):=by
 obtain⟨n,e⟩:=An (v:=v) h;obtain⟨m,b,a,j,k,l⟩:=lY (Wd:=Wd) (Fl.Di f) 400 (P:=P) (g.fin e i) d;unfold next
 rw[e];exact⟨b,a,j,k,λcs=>⟨m,l cs⟩⟩
def FK(h:(∃x,bb c.1=some x)\/(∃x,kM c.1=some x))(g:FR y c.1 fr)(d:mF y c.2 frs)(i:c.1.env.all plain=true)(e:c.2.all (·.env.all plain)=true)(j:∀y,SR y v x):
 ∃b a,FR y0 (next P lC c v).1 b/\mF y0 (next P lC c v).2 a/\∀cs,tg P Wd (G (fr.finish x) (frs++cs)) (G b (a++cs)):=by
 obtain⟨p,f⟩:=An (v:=v) h;have k:lC.At y0:=⟨by decide,by decide,rfl,rfl,rfl,rfl,rfl,by decide⟩;obtain⟨m,b,a,l,n,o⟩:=lY (Wd:=Wd) k 400 (P:=P) ((g.gS i).fin f (j y0)) (d.gS e);unfold next
 rw[f];exact⟨b,a,l,n,λcs=>⟨m,o cs⟩⟩
end
def mF.rO{y:Sy}:∀{st:adQ}{frs:adt}(ls:List adH),mF y st frs->mF y (Go.cG.rO st ls) frs
 |[],frs,ls,h=>by rw[h.mP];trivial
 |s::st,frs,[],h=>by obtain⟨f,a,rfl,b,c⟩:=h.cons_inv;exact⟨b.keep [],c.rO []⟩
 |s::st,frs,l::ls,h=>by obtain⟨f,a,rfl,b,c⟩:=h.cons_inv;exact⟨b.keep l,c.rO ls⟩
def f10{y:Sy}{a c:Bool}(b:decide (y.c=1)=a)(d:decide (y.c=0)=c):f0 (f1 (Fl.of y) a) c=Fl.of y:=by subst b;subst d;rfl
def Ym{y:Sy}{a:Bool}(b:decide (y.c=1)=a):f1 (Fl.of y) a=Fl.of y:=by subst b;rfl
def FL{y:Sy}{a:Bool}(b:decide (y.c=0)=a):f0 (Fl.of y) a=Fl.of y:=by subst b;rfl
def kO{c:cO}(h:wO c=true):c.1.kind≠.early:=by
 unfold wO at h
 simp_all
section
variable{P:adS}{n:IL}(C:gT P n)(X:iN P n){b:Nat}{kind:adK}{Wd:adr}{cs:adt}{g:adF}{w:World}{main:Bool}
variable(hW0:∀w,Wd w->∃v,w.cell? ⟨b,0,none⟩=some v)(hW1:∀w,Wd w->∃v,w.cell? ⟨b,1,none⟩=some v)
include X hW1 in
def Q3{y:Sy}{c:cO}{fr:Frame}{frs:adt}(h:kM c.1=some (n.tS,n.tU,pt b 1))(a:FR y c.1 fr):sk P Wd (G fr (frs++cs)) (G (fr.finish (.pointer (some ⟨b,1,none⟩))) (frs++cs)):=by obtain⟨t,d,e,f⟩:=X.Yl;exact⟨rfl,λmain w g=>uL a h d e f (hW1 w g)⟩
include X hW0 in
def LO{y:Sy}{c:cO}{fr:Frame}{frs:adt}(h:kM c.1=some (n.tG,n.tU,pt b 0))(a:FR y c.1 fr):sk P Wd (G fr (frs++cs)) (G (fr.finish (.pointer (some ⟨b,0,none⟩))) (frs++cs)):=by obtain⟨t,d,e,f⟩:=X.Yk;exact⟨rfl,λmain w g=>uL a h d e f (hW0 w g)⟩
def tu{f:FuncId}{args:adP}{dL:adq}{y:Sy}{fn:Func}{body:Code}(b:P.funcs[f]?=some fn)(c:fn.body=some body)(d:args.length=dL.size)(e:∀(i:Nat) a,args[i]?=some a->∃x,dL[i]?=some x/\SR y a x):FR y (dJ P f args kind) (Frame.enter P f dL kind):=by
 refine⟨by simp[dJ,b,Frame.enter],by simp[dJ,b,c,Frame.enter],by simp[dJ,b,Frame.enter],by simp[dJ,b,Frame.enter,Db.of],by simp[dJ,b,Frame.enter],rfl,by simp[dJ,b,Frame.enter,d],λt=>?_⟩;simp only[dJ,b,Frame.enter,aaX,abn];rw[acu,zA];by_cases g:t<args.length
 . grind
 . rw[abO (by omega),aaT (by omega),List.getElem?_replicate]
   split<;>trivial
include X in
def zy:∃e,tg P Wd (G (Frame.enter P n.add #[.pointer (some ⟨b,0,none⟩),.int .i64 1] kind) cs) e/\rQ P n b kind .a0 cs e:=by
 obtain⟨fn,body,f,g,q,r⟩:=X.R1
 have j:FR y0 (dJ P n.add [pt b 0,i64 1] kind) (Frame.enter P n.add #[.pointer (some ⟨b,0,none⟩),.int .i64 1] kind):=tu f g rfl λi a h=>by
  match i with
  |0=>simp at h;subst h;exact⟨_,rfl,rfl⟩
  |1=>simp at h;subst h;exact⟨_,rfl,rfl⟩
  |i+2=>simp at h
 have k:lC.At y0:=⟨by decide,by decide,rfl,rfl,rfl,rfl,rfl,by decide⟩;obtain⟨m,d,c,l,o,p⟩:=lY (Wd:=Wd) (P:=P) k 400 j (st:=[]) (frs:=[]) trivial;exact⟨_,⟨m,p cs⟩,_,y0,d,c,rfl,tk,l,o,rfl⟩
def FM:lC.At y0:=⟨by decide,by decide,rfl,rfl,rfl,rfl,rfl,by decide⟩
include X in
def qh(C:gT P n):∃e,tg P Wd (G (Frame.enter P n.wait #[.pointer (some ⟨b,0,none⟩)] kind) cs) e/\rQ P n b kind .w0 cs e:=by
 obtain⟨fn,body,f,g,p,q⟩:=X.LJ
 have j:FR y0 (dJ P n.wait [pt b 0] kind) (Frame.enter P n.wait #[.pointer (some ⟨b,0,none⟩)] kind):=tu f g rfl λi a h=>by
  match i with
  |0=>simp at h;subst h;exact⟨_,rfl,rfl⟩
  |i+1=>simp at h
 obtain⟨m,d,c,k,l,o⟩:=lY (Wd:=Wd) (P:=P) FM 400 j (st:=[]) (frs:=[]) trivial;exact⟨_,⟨m,o cs⟩,_,y0,d,c,rfl,tk,k.keep [0],l.rO [],rfl⟩
include X hW0 in
def xT(C:gT P n):∃f,tg P Wd (G (Frame.enter P n.done #[.pointer (some ⟨b,0,none⟩)] .deferred) cs) f/\rQ P n b kind .d1 cs f:=by
 obtain⟨fn,body,l,o,A,B⟩:=X.LI
 have p:FR y0 (dJ P n.done [pt b 0] .deferred) (Frame.enter P n.done #[.pointer (some ⟨b,0,none⟩)] .deferred):=tu l o rfl λi a h=>by
  match i with
  |0=>simp at h;subst h;exact⟨_,rfl,rfl⟩
  |i+1=>simp at h
 obtain⟨m,q,g,j,r,s⟩:=lY (Wd:=Wd) (P:=P) FM 400 p (st:=[]) (frs:=[]) trivial;obtain⟨k,t,u⟩:=C.d0 b;obtain⟨e,d,w,y,z⟩:=FK (P:=P) (Wd:=Wd) (c:=D0 P n b) (v:=pt b 0) (x:=.pointer (some ⟨b,0,none⟩)) (.inr ⟨_,k⟩) j r t u (λ_=>rfl);exact⟨_,tg.trans ⟨m,s cs⟩ (tg.trans (LO X hW0 (cs:=cs) k j).Af (z cs)),_,y0,e,d,rfl,tk,w,y,rfl⟩
include C X in
def WV(h:rQ P n b kind .a0 cs g)(j:kind≠.early):∃k,stepG P main g w=.go k w #[⟨.mark .disable,false,true⟩]/\iO P n b kind Wd .a2 cs k:=by
 obtain⟨c,y,fr,frs,rfl,I,l,f,rfl⟩:=h;obtain⟨m,q,r,t⟩:=C.a0 b kind;obtain⟨o,u,z,A⟩:=C.a1 b kind;refine⟨_,eV LA l m (by rw[t];exact j) X.jA,rfl,?_⟩;obtain⟨d,a,p,B,D⟩:=FK (P:=P) (Wd:=Wd) (v:=un) (x:=.tuple #[]) (.inl ⟨_,m⟩) l f q (by rw[r];rfl) (λ_=>rfl);obtain⟨i,e,E,F,H⟩:=FK (P:=P) (Wd:=Wd) (c:=A1 P n b kind) (v:=ff) (x:=.bool false) (.inl ⟨_,o⟩) p B u (by rw[z];rfl) (λ_=>rfl);have hb:sk P Wd (G d (a++cs)) (G (d.finish (.bool false)) (a++cs)):=⟨rfl,λmain w _=>uK (s:=(A1 P n b kind).1) p o (by rw[A];exact j) X.Pw⟩;exact⟨_,(D cs).trans (hb.Af.trans (H cs)),_,y0,i,e,rfl,tk,E,F,rfl⟩
include C X hW1 in
def WW{c v m:Nat}(o:rP b w c 0 m)(L:c<1000)(h:rQ P n b kind .a2 cs g):
 ∃p w',stepG P main g w=.go p w' #[⟨.cell ⟨b,0,none⟩,false,true⟩,⟨.cell ⟨b,0,none⟩,true,true⟩]/\w'=w.setCell ⟨b,0,none⟩ (.int .u64 (eF (c+1:Nat) 0))/\rP b w' (c+1) 0 m/\(iO P n b kind Wd .a4 cs p\/iO P n b kind Wd .ae cs p):=by
 obtain⟨cf,y,fr,frs,rfl,M,z,q,rfl⟩:=h;obtain⟨A,E,F,G⟩:=C.a2 b kind
 have e:IntKind.u64.wrap (eF c 0+4294967296)=eF (c+1:Nat) 0:=by
  rw[ko (by unfold eF;omega) (by unfold eF;omega)];unfold eF;push_cast;omega
 have i:=qe (main:=main) (cs:=frs++cs) (w:=w) z A (kO E) X.tp (λx h=>h) o.cw (o.fz 0);rw[e]at i;have d:({y0 with c:=((c+1:Nat):Int)}:Sy).ok:=⟨by show(0:Int)<=2/\(2:Int)<=1000;decide,by show(0:Int)<=((c+1:Nat):Int)/\((c+1:Nat):Int)<=1000;omega⟩;have r:((c+1:Nat):Int)≠0:=by omega
 obtain⟨s,j,t,B,D⟩:=mH (P:=P) (Wd:=Wd) (y:={y0 with c:=((c+1:Nat):Int)}) (v:=.eF 0) (x:=.int .u64 (eF (c+1:Nat) 0)) (.inl ⟨_,A⟩) d (z.gS F) (q.gS G) rfl;refine⟨_,_,i,rfl,o.aW (c+1) 0,?_⟩;by_cases f:((c+1:Nat):Int)=1
 . left
   have H:=Ym (y:={y0 with c:=((c+1:Nat):Int)}) (a:=true) (by simpa using f);have k:=C.a3 b kind (Fl.of {y0 with c:=((c+1:Nat):Int)});rw[H]at k;obtain⟨u,l,I,J,K⟩:=mH (P:=P) (Wd:=Wd) (v:=pt b 1) (x:=.pointer (some ⟨b,1,none⟩)) (.inr ⟨_,k⟩) d t B rfl;exact⟨rfl,_,(D cs).trans ((Q3 X hW1 (cs:=cs) k t).Af.trans (K cs)),_,_,u,l,⟨rfl,f⟩,d,I,J,rfl⟩
 . right
   exact⟨rfl,_,D cs,_,_,s,j,⟨r,.inr ⟨rfl,f⟩⟩,d,t,B,rfl⟩
end
section
variable{P:adS}{n:IL}(C:gT P n)(X:iN P n){b:Nat}{kind:adK}{Wd:adr}{cs:adt}{g:adF}{w:World}{main:Bool}
variable(hW0:∀w,Wd w->∃v,w.cell? ⟨b,0,none⟩=some v)(hW1:∀w,Wd w->∃v,w.cell? ⟨b,1,none⟩=some v)
def BS{y:Sy}(h:y.c≠0):decide (y.c=0)=false:=by grind
include C X in
def WX(h:rQ P n b kind .a4 cs g)(p:kind≠.early):∃k,stepG P main g w=.go k w #[⟨.mark (.read ⟨b,1,none⟩),false,true⟩]/\iO P n b kind Wd .ae cs k:=by
 obtain⟨c,y,fr,frs,⟨rfl,e⟩,l,m,f,rfl⟩:=h;have q:=Ym (y:=y) (a:=true) (by simpa using e);obtain⟨i,o⟩:=C.a4 b kind (Fl.of y);rw[q]at i o;obtain⟨j,d,r,s,t⟩:=mH (P:=P) (Wd:=Wd) (v:=un) (x:=.tuple #[]) (.inl ⟨_,i⟩) l m f rfl;exact⟨_,fH (λu g h=>by cases h) m i (by rw[o];exact p) X.rd,rfl,_,t cs,_,y,j,d,⟨by rw[e];decide,.inl ⟨rfl,e⟩⟩,l,r,s,rfl⟩
include C X in
def WZ {e:Frame} {rest:adt} (h:rQ P n b kind .ae (e :: rest) g) (t:kind ≠ .early):∃ d,stepG P main g w = .go d w #[⟨.mark .enable,false,true⟩]∧d.status = .running∧tg P Wd d (ki kind e rest (.tuple #[])):=by
 obtain⟨c,y,fr,frs,⟨f,i⟩,E,u,j,rfl⟩:=h;obtain⟨fn,body,f1,F,H,v⟩:=X.R1
 have key:sn c.1=some n.en->c.2=[]->c.1.kind=kind->c.1.fn=n.add->∃ d,stepG P main (G fr (frs ++ e :: rest)) w = .go d w #[⟨.mark .enable,false,true⟩]∧d.status = .running∧tg P Wd d (ki kind e rest (.tuple #[])):=fun q x s z=>by
  rw[x] at j;obtain rfl:=j.mP;obtain⟨A,B⟩:=BQ (main:=main) (cs:=[] ++ e :: rest) (w:=w) u q X.en
  have k:kq ({ c.1 with defers:=[] }:jT) n.add=true:=by
   unfold kq;unfold sn at q;split at q
   . rename_i g cap as D hd;simp[D,z]
   . cases q
  refine⟨_,A,rfl,?_⟩;have:=lD (Wd:=Wd) (c:=e) (rest:=rest) B k f1 v (by show c.1.kind≠_;rw[s];exact t)
  rw[show ({ c.1 with defers:=[] }:jT).kind=kind from s] at this
  exact this.Af
 rcases i with ⟨rfl,i⟩|⟨rfl,i⟩
 . have r:=f10 (y:=y) (a:=true) (c:=false) (by simpa using i) (BS f)
   obtain⟨l,m,o,p⟩:=C.a5 b kind (Fl.of y);rw[r] at l m o p;exact key l m o p
 . have r:=f10 (y:=y) (a:=false) (c:=false) (by simpa using i) (BS f)
   obtain⟨l,m,o,p⟩:=C.a6 b kind (Fl.of y);rw[r] at l m o p;exact key l m o p
include C X in
def W2(h:rQ P n b kind .d1 cs g):∃f,stepG P main g w=.go f w #[⟨.mark (.releaseMerge ⟨b,0,none⟩),false,true⟩]/\iO P n b kind Wd .d2 cs f:=by
 obtain⟨c,y,fr,frs,rfl,r,i,d,rfl⟩:=h;obtain⟨j,k,l,m⟩:=C.d1 b;obtain⟨e,a,o,p,q⟩:=FK (P:=P) (Wd:=Wd) (v:=un) (x:=.tuple #[]) (.inl ⟨_,j⟩) i d l m (λ_=>rfl);exact⟨_,fH (λs g h=>by cases h) i j (kO k) X.rel,rfl,_,q cs,_,y0,e,a,rfl,tk,o,p,rfl⟩
include C X in
def W6(h:rQ P n b kind .d2 cs g):∃j,stepG P main g w=.go j w #[⟨.mark .disable,false,true⟩]/\iO P n b kind Wd .d4 cs j:=by
 obtain⟨c,y,fr,frs,rfl,H,k,f,rfl⟩:=h;obtain⟨l,p,q,r⟩:=C.d2 b;obtain⟨m,t,u,z⟩:=C.d3 b;refine⟨_,eV LA k l (kO p) X.jA,rfl,?_⟩;obtain⟨d,a,o,A,B⟩:=FK (P:=P) (Wd:=Wd) (v:=un) (x:=.tuple #[]) (.inl ⟨_,l⟩) k f q r (λ_=>rfl);obtain⟨i,e,D,E,F⟩:=FK (P:=P) (Wd:=Wd) (c:=D3 P n b) (v:=ff) (x:=.bool false) (.inl ⟨_,m⟩) o A u z (λ_=>rfl);have hb:sk P Wd (G d (a++cs)) (G (d.finish (.bool false)) (a++cs)):=⟨rfl,λmain w _=>uK (s:=(D3 P n b).1) o m (kO t) X.Pw⟩;exact⟨_,(B cs).trans (hb.Af.trans (F cs)),_,y0,i,e,rfl,tk,D,E,rfl⟩
def kP(P:adS)(a:FuncId)(tmps:adq)(todo:adD):Frame:=⟨a,tmps,todo,[],.returning,.deferred,none⟩
def cE(P:adS):Frame:={(default:Frame)with fn:=P.funcs.size,defers:=[],mode:=.panicking [goexitEntry]}
def uQ{a:FuncId}{fn:Func}{tmps:adq}{todo:adD}(c:P.funcs[a]?=some fn)(d:fn.results=#[]):QuitsD P 2 0 (G (kP P a tmps todo) [cE P]):=by
 refine .ctl (g':=G (cE P) []) rfl (λw=>?_) (.ctl (g':={G (cE P) []with status:=.finished}) rfl (λw=>?_) ⟨rfl,rfl⟩)
 . simp[G,stepG,unwind,c,results,d,kP,cE,goexitEntry]
   rfl
 . have b:(cE P).catches P=false:=by
    simp[Frame.catches,cE];rfl
   simp[G,stepG,unwind,cE,goexitEntry]at b ⊢;simp[b]
def uR{d:Nat}:∀{m k:Nat}{a c:adF},jr P (λ_=>True) m a c->QuitsD P k d c->QuitsD P (k+m) d a
 |0,k,a,c,h,b=>by obtain rfl:=h;exact b
 |m+1,k,a,c,h,b=>by obtain⟨i,⟨e,f⟩,g⟩:=h;exact .ctl e (λw=>f false w trivial) (uR g b)
include X in
def xU{c:cO}{y:Sy}{fr:Frame}{frs:adt}{a:FuncId}{fn:Func}{tmps:adq}{todo:adD}(o:P.funcs[a]?=some fn)(b:fn.results=#[])(p:y.ok)(j:FR y c.1 fr)(e:mF y c.2 frs)
 (k:sn c.1=some n.en) (q:kq (mG P (Fl.of y) c).1 n.done=true) (r:(mG P (Fl.of y) c).2=[]) (l:(mG P (Fl.of y) c).1.kind=.deferred):∃m,QuitsD P m 1 (G fr (frs++[kP P a tmps todo,cE P])):=by
 obtain⟨_,f⟩:=BQ (P:=P) (main:=false) (cs:=frs++[kP P a tmps todo,cE P]) (w:=default) j k X.en;obtain⟨m,g,d,s,t,u⟩:=lY (Wd:=λ_=>True) (P:=P) (Fl.Di p) 400 f e
 have h:mF y [] d:=by rw[<-r];exact t
 obtain rfl:=h.mP;obtain⟨fd,body,v,B,C,x⟩:=X.LI;have hb:=lD (Wd:=λ_=>True) (c:=kP P a tmps todo) (rest:=[cE P]) s q v x (by show(mG P (Fl.of y) c).1.kind≠_;rw[l];decide)
 have i:ki (sgo P (Fl.of y) 400 {c.1 with defers:=[]} c.2).1.kind (kP P a tmps todo) [cE P] (.tuple #[])=G (kP P a tmps todo) [cE P]:=by rw[show(sgo P (Fl.of y) 400 {c.1 with defers:=[]} c.2).1.kind=.deferred from l];rfl
 rw[i]at hb;have z:QuitsD P (2+1) 0 (G g [kP P a tmps todo,cE P]):=.ctl rfl (λw=>hb.2 false w trivial) (uQ o b)
 have A:=uR (u [kP P a tmps todo,cE P]) z;exact⟨_,.said ⟨.mark .enable,false,true⟩ rfl rfl (λw=>(BQ (P:=P) (main:=false) (cs:=frs++[kP P a tmps todo,cE P]) (w:=w) j k X.en).1) A⟩
def Gone(P:adS)(Wd:adr)(a:adF):Prop:=∃m,QuitsD P m 1 a
def BT{m k:Nat}{a c:adF}(h:jr P (λ_=>True) m a c)(b:QuitsD P k 1 c):Gone P Wd a:=⟨_,uR h b⟩
include C X in
def W7{k v m:Nat}{o:FuncId}{fn:Func}{tmps:adq}{todo:adD}(N:P.funcs[o]?=some fn)(f:fn.results=#[])(G:rP b w (k+1) v m)(R:k<1000)(S:v<=1)(h:rQ P n b kind .d4 [kP P o tmps todo,cE P] g):
 ∃H w',stepG P main g w=.go H w' #[⟨.cell ⟨b,0,none⟩,false,true⟩,⟨.cell ⟨b,0,none⟩,true,true⟩]/\w'=w.setCell ⟨b,0,none⟩ (.int .u64 (eF k v))/\rP b w' k v m/\((k=0/\v=1/\iO P n b kind Wd .d5 [kP P o tmps todo,cE P] H)\/(¬(k=0/\v=1)/\Gone P Wd H)):=by
 obtain⟨cf,y,fr,frs,rfl,T,E,i,rfl⟩:=h;obtain⟨F,O,I,J⟩:=C.d4 b
 have e:IntKind.u64.wrap (eF (k+1:Nat) v+18446744069414584320)=eF k v:=by
  have:eF (k+1:Nat) v+18446744069414584320=eF k v+18446744073709551616:=by unfold eF;push_cast;omega
  rw[this];simp[IntKind.wrap,IntKind.bits,IntKind.signed];unfold eF;omega
 have p:=qe (main:=main) (cs:=frs++[kP P o tmps todo,cE P]) (w:=w) E F (kO O) X.tp (λx h=>h) G.cw (G.fz 0)
 rw[e]at p;have a:({y0 with c:=(k:Int)}:Sy).ok:=⟨by show(0:Int)<=2/\(2:Int)<=1000;decide,by show(0:Int)<=(k:Int)/\(k:Int)<=1000;omega⟩
 refine⟨_,_,p,rfl,G.aW k v,?_⟩;have q:v=0\/v=1:=by omega
 rcases q with rfl|rfl
 . refine .inr ⟨by omega,?_⟩
   obtain⟨l,d,r,s,t⟩:=mH (P:=P) (Wd:=λ_=>True) (y:={y0 with c:=(k:Int)}) (v:=.eF 0) (x:=.int .u64 (eF k 0)) (.inl ⟨_,F⟩) a (E.gS I) (i.gS J) rfl
   have u:=C.d5 b (Fl.of {y0 with c:=(k:Int)}) (decide ((k:Int)=0))
   obtain⟨z,A,B⟩:=C.Yi b (Fl.of {y0 with c:=(k:Int)}) (decide ((k:Int)=0))
   rw[FL rfl]at u z A B;obtain⟨Q,K⟩:=xU X N f a r s u z A B;obtain⟨j,L⟩:=t [kP P o tmps todo,cE P];exact BT L K
 . by_cases D:k=0
   . refine .inl ⟨D,rfl,?_⟩
     obtain⟨l,d,r,s,t⟩:=mH (P:=P) (Wd:=Wd) (y:={y0 with c:=(k:Int)}) (v:=.eF 1) (x:=.int .u64 (eF k 1)) (.inl ⟨_,F⟩) a (E.gS I) (i.gS J) rfl
     exact⟨rfl,_,t _,_,_,l,d,⟨rfl,by show(k:Int)=0;omega⟩,a,r,s,rfl⟩
   . refine .inr ⟨by omega,?_⟩
     obtain⟨l,d,r,s,t⟩:=mH (P:=P) (Wd:=λ_=>True) (y:={y0 with c:=(k:Int)}) (v:=.eF 1) (x:=.int .u64 (eF k 1)) (.inl ⟨_,F⟩) a (E.gS I) (i.gS J) rfl
     have M:decide ((k:Int)=0)=false:=by simpa using D
     have u:=C.d6 b (Fl.of {y0 with c:=(k:Int)})
     obtain⟨z,A,B⟩:=C.Yj b (Fl.of {y0 with c:=(k:Int)})
     rw[FL M]at u z A B;obtain⟨Q,K⟩:=xU X N f a r s u z A B;obtain⟨j,L⟩:=t [kP P o tmps todo,cE P];exact BT L K
include C X in
def W8{m:Nat}(q:rP b w 0 1 m)(h:rQ P n b kind .d5 cs g):∃k,stepG P main g w=.go k w #[⟨.cell ⟨b,0,none⟩,false,true⟩]/\iO P n b kind Wd .d6 cs k:=by
 obtain⟨c,y,fr,frs,⟨rfl,e⟩,l,o,f,rfl⟩:=h;have r:=FL (y:=y) (a:=true) (by simpa using e)
 obtain⟨i,p⟩:=C.d7 b (Fl.of y);rw[r]at i p;have s:SR y (.eF 1) (.int .u64 (eF 0 1)):=by show _=Value.int .u64 (eF y.c 1);rw[e]
 obtain⟨j,d,t,u,v⟩:=mH (P:=P) (Wd:=Wd) (.inl ⟨_,i⟩) l o f s;exact⟨_,uO o i (kO p) X.wx q.cw,rfl,_,v cs,_,y,j,d,⟨rfl,e⟩,l,t,u,rfl⟩
include C X in
def W9{m:Nat}(e:rP b w 0 1 m)(h:rQ P n b kind .d6 cs g):∃k w',stepG P main g w=.go k w' #[⟨.cell ⟨b,0,none⟩,true,true⟩]/\w'=w.setCell ⟨b,0,none⟩ (.int .u64 (eF 0 0))/\rP b w' 0 0 m/\iO P n b kind Wd .d7 cs k:=by
 obtain⟨c,y,fr,frs,⟨rfl,l⟩,o,p,f,rfl⟩:=h;have r:=FL (y:=y) (a:=true) (by simpa using l);obtain⟨i,q⟩:=C.d8 b (Fl.of y);rw[r]at i q;obtain⟨j,d,s,t,u⟩:=mH (P:=P) (Wd:=Wd) (v:=un) (x:=.tuple #[]) (.inl ⟨_,i⟩) o p f rfl;exact⟨_,_,IK p i (kO q) X.IM e.cw (e.fz 0),rfl,e.aW 0 0,rfl,_,u cs,_,y,j,d,⟨rfl,l⟩,o,s,t,rfl⟩
include C X in
def Xa{v m:Nat}{k:FuncId}{fn:Func}{tmps:adq}{todo:adD}(E:P.funcs[k]?=some fn)(d:fn.results=#[])(l:rP b w 0 v m)(M:m<=1000)(h:rQ P n b kind .d7 [kP P k tmps todo,cE P] g):
 ∃q w',stepG P main g w=.go q w' (semEvents ⟨b,1,none⟩)/\w'=w.setCell ⟨b,1,none⟩ (.int .u32 (m+1:Nat))/\rP b w' 0 v (m+1)/\Gone P Wd q:=by
 obtain⟨c,y,fr,frs,⟨rfl,F⟩,r,s,o,rfl⟩:=h;have f:=FL (y:=y) (a:=true) (by simpa using F)
 obtain⟨p,t⟩:=C.d9 b (Fl.of y);rw[f]at p t;have i:=oJ (main:=main) (cs:=frs++[kP P k tmps todo,cE P]) (w:=w) s p (kO t) X.oO l.cs (l.fz 1);have e:IntKind.u32.wrap ((m:Int)+1)=((m+1:Nat):Int):=by rw[IntKind.wrap_u32];omega
 rw[e]at i;obtain⟨G,u,H,I,J⟩:=mH (P:=P) (Wd:=λ_=>True) (v:=un) (x:=.tuple #[]) (.inl ⟨_,p⟩) r s o rfl
 have z:=C.da b (Fl.of y);obtain⟨A,B,D⟩:=C.db b (Fl.of y);rw[f]at z A B D;obtain⟨N,K⟩:=xU X E d r H I z A B D;obtain⟨j,L⟩:=J [kP P k tmps todo,cE P];exact⟨_,_,i,rfl,l.FI (m+1),BT L K⟩
end
section
variable{P:adS}{n:IL}(C:gT P n)(X:iN P n){b:Nat}{kind:adK}{Wd:adr}{cs:adt}{g:adF}{w:World}{main:Bool}
variable(hW0:∀w,Wd w->∃v,w.cell? ⟨b,0,none⟩=some v)(hW1:∀w,Wd w->∃v,w.cell? ⟨b,1,none⟩=some v)
include C X in
def Xb(h:rQ P n b kind .w0 cs g)(k:kind≠.early):∃f,stepG P main g w=.go f w #[⟨.mark .disable,false,true⟩]/\iO P n b kind Wd .w1 cs f:=by
 obtain⟨c,y,fr,frs,rfl,s,i,d,rfl⟩:=h;obtain⟨j,l,m,o⟩:=C.w0 b kind;obtain⟨e,a,p,q,r⟩:=FK (P:=P) (Wd:=Wd) (v:=un) (x:=.tuple #[]) (.inl ⟨_,j⟩) i d l (by rw[m];rfl) (λ_=>rfl);exact⟨_,eV LA i j (by rw[o];exact k) X.jA,rfl,_,r cs,_,y0,e,a,rfl,tk,p.keep [5],q.rO [[0]],rfl⟩
include C X in
def Xc{c m:Nat}(r:rP b w c 0 m)(z:c<=1000)(h:rQ P n b kind .w1 cs g):
 ∃f,stepG P main g w=.go f w #[⟨.cell ⟨b,0,none⟩,false,true⟩]/\((c=0/\iO P n b kind Wd .we cs f)\/(c≠0/\iO P n b kind Wd (.w2 c) cs f)):=by
 obtain⟨cf,y,fr,frs,rfl,A,k,i,rfl⟩:=h;obtain⟨l,s,t,u⟩:=C.w1 b kind;have d:({y0 with c:=(c:Int)}:Sy).ok:=⟨by show(0:Int)<=2/\(2:Int)<=1000;decide,by show(0:Int)<=(c:Int)/\(c:Int)<=1000;omega⟩;obtain⟨e,a,o,p,q⟩:=mH (P:=P) (Wd:=Wd) (y:={y0 with c:=(c:Int)}) (v:=.eF 0) (x:=.int .u64 (eF c 0)) (.inl ⟨_,l⟩) d (k.gS t) (i.gS u) rfl;refine⟨_,uO k l (kO s) X.wx r.cw,?_⟩;by_cases j:c=0
 . exact .inl ⟨j,rfl,_,q cs,_,_,e,a,.inl ⟨rfl,by show(c:Int)=0;omega⟩,d,o,p,rfl⟩
 . exact .inr ⟨j,rfl,_,q cs,_,_,e,a,⟨rfl,rfl,j⟩,d,o,p,rfl⟩
include C X hW0 in
def Xd(h:rQ P n b kind .we cs g)(D:kind≠.early):∃E,stepG P main g w=.go E w #[⟨.mark .enable,false,true⟩]/\iO P n b kind Wd .wa cs E:=by
 obtain⟨c,y,fr,frs,e,k,q,l,rfl⟩:=h;rcases e with⟨rfl,e⟩|⟨rfl,e⟩
 . have r:=FL (y:=y) (a:=true) (by simpa using e)
   obtain⟨f,m⟩:=C.w2 b kind (Fl.of y);have i:=C.w3 b kind (Fl.of y);rw[r]at f m i;obtain⟨s,o,p,t,u⟩:=mH (P:=P) (Wd:=Wd) (v:=un) (x:=.tuple #[]) (.inl ⟨_,f⟩) k q l rfl;obtain⟨j,d,z,A,B⟩:=mH (P:=P) (Wd:=Wd) (c:=WC P n b kind (Fl.of y)) (v:=pt b 0) (x:=.pointer (some ⟨b,0,none⟩)) (.inr ⟨_,i⟩) k p t rfl;exact⟨_,eV LB q f (by rw[m];exact D) X.en,rfl,_,(u cs).trans ((LO X hW0 (c:=WC P n b kind (Fl.of y)) (cs:=cs) i p).Af.trans (B cs)),_,y,j,d,.inl ⟨rfl,e⟩,k,z,A,rfl⟩
 . have r:=FL (y:=y) (a:=false) (BS e)
   obtain⟨f,m⟩:=C.wc b kind (Fl.of y);have i:=C.wd b kind (Fl.of y);rw[r]at f m i;obtain⟨s,o,p,t,u⟩:=mH (P:=P) (Wd:=Wd) (v:=un) (x:=.tuple #[]) (.inl ⟨_,f⟩) k q l rfl;obtain⟨j,d,z,A,B⟩:=mH (P:=P) (Wd:=Wd) (c:=UL P n b kind (Fl.of y)) (v:=pt b 0) (x:=.pointer (some ⟨b,0,none⟩)) (.inr ⟨_,i⟩) k p t rfl;exact⟨_,eV LB q f (by rw[m];exact D) X.en,rfl,_,(u cs).trans ((LO X hW0 (c:=UL P n b kind (Fl.of y)) (cs:=cs) i p).Af.trans (B cs)),_,y,j,d,.inr ⟨rfl,e⟩,k,z,A,rfl⟩
include C X in
def UM{j:Frame}{rest:adt}(h:rQ P n b kind .wa (j::rest) g)(q:kind≠.early):∃t,stepG P main g w=.go t w #[⟨.mark (.acquire ⟨b,0,none⟩),false,true⟩]/\t.status=.running/\tg P Wd t (ki kind j rest (.tuple #[])):=by
 obtain⟨c,y,fr,frs,k,E,r,l,rfl⟩:=h;obtain⟨fn,body,f1,H,I,F⟩:=X.LJ;rcases k with⟨rfl,k⟩|⟨rfl,k⟩
 . have u:=FL (y:=y) (a:=true) (by simpa using k)
   obtain⟨f,m⟩:=C.w4 b kind (Fl.of y);obtain⟨o,p,i⟩:=C.w5 b kind (Fl.of y);rw[u]at f m o p i;obtain⟨z,d,A,B,D⟩:=mH (P:=P) (Wd:=Wd) (v:=un) (x:=.tuple #[]) (.inl ⟨_,f⟩) E r l rfl;have e:mF y (WB P n b kind (Fl.of y)).2 d:=B;rw[p]at e;obtain rfl:=e.mP;have hb:=lD (Wd:=Wd) (c:=j) (rest:=rest) (s:=(WB P n b kind (Fl.of y)).1) A o f1 F (by rw[i];exact q);rw[i]at hb;exact⟨_,fH (λG g h=>by cases h) r f (by rw[m];exact q) X.acq,rfl,(D (j::rest)).trans hb.Af⟩
 . have u:=FL (y:=y) (a:=false) (BS k)
   obtain⟨f,m⟩:=C.we b kind (Fl.of y);obtain⟨o,p,i⟩:=C.wf b kind (Fl.of y);rw[u]at f m o p i;obtain⟨z,d,A,B,D⟩:=mH (P:=P) (Wd:=Wd) (v:=un) (x:=.tuple #[]) (.inl ⟨_,f⟩) E r l rfl;have e:mF y (Q2 P n b kind (Fl.of y)).2 d:=B;rw[p]at e;obtain rfl:=e.mP;have hb:=lD (Wd:=Wd) (c:=j) (rest:=rest) (s:=(Q2 P n b kind (Fl.of y)).1) A o f1 F (by rw[i];exact q);rw[i]at hb;exact⟨_,fH (λG g h=>by cases h) r f (by rw[m];exact q) X.acq,rfl,(D (j::rest)).trans hb.Af⟩
def Py{c c' v a:Nat}(d:v<=1000)(b:a<=1000):eF c v=eF c' a↔(c=c'/\v=a):=by unfold eF;omega
include C X hW1 in
def Xe{k c m:Nat}(l:rP b w c 0 m)(h:rQ P n b kind (.w2 k) cs g):
 (c=k/\∃o w',stepG P main g w=.go o w' #[⟨.cell ⟨b,0,none⟩,false,true⟩,⟨.cell ⟨b,0,none⟩,true,true⟩]/\w'=w.setCell ⟨b,0,none⟩ (.int .u64 (eF k 1))/\rP b w' k 1 m/\iO P n b kind Wd .w3 cs o)\/
 (c≠k/\∃o,stepG P main g w=.go o w #[⟨.cell ⟨b,0,none⟩,false,true⟩]/\iO P n b kind Wd .w1 cs o):=by
 obtain⟨cf,y,fr,frs,⟨rfl,K,L⟩,p,z,q,rfl⟩:=h;have r:y.c≠0:=by rw[K];omega
 have D:=FL (y:=y) (a:=false) (BS r);obtain⟨s,E⟩:=C.w6 b kind (Fl.of y);rw[D]at s E
 have A:∀j:Nat,∀x,SR y (.eF j) x->x=.int .u64 (eF k j):=λj x F=>by have F:x=.int .u64 (eF y.c j):=F;rw[F,K]
 by_cases f:c=k
 . subst f
   refine .inl ⟨rfl,_,_,il z s (kO E) X.xR (A 0) (A 1) l.cw (l.fz 0),rfl,l.aW c 1,rfl,?_⟩;have i:=C.w8 b kind (Fl.of y);rw[D]at i;obtain⟨t,d,B,G,H⟩:=mH (P:=P) (Wd:=Wd) (v:=tt) (x:=.bool true) (.inl ⟨_,s⟩) p z q rfl;obtain⟨I,u,M,N,O⟩:=mH (P:=P) (Wd:=Wd) (c:=W3 P n b kind (Fl.of y)) (v:=pt b 1) (x:=.pointer (some ⟨b,1,none⟩)) (.inr ⟨_,i⟩) p B G rfl;exact⟨_,(H cs).trans ((Q3 X hW1 (c:=W3 P n b kind (Fl.of y)) (cs:=cs) i B).Af.trans (O cs)),_,y,I,u,⟨rfl,r⟩,p,M,N,rfl⟩
 . have J:¬eF c 0=eF k 0:=λe=>f ((Py (by omega) (by omega)).1 e).1
   refine .inr ⟨f,_,iM z s (kO E) X.xR (A 0) (A 1) l.cw (l.fz 0) J,rfl,?_⟩;have i:=C.w7 b kind (Fl.of y);rw[D]at i;obtain⟨t,d,B,G,H⟩:=mH (P:=P) (Wd:=Wd) (v:=ff) (x:=.bool false) (.inl ⟨_,s⟩) p z q rfl;have Q:=B.keep [5];have R:=G.rO [[0]];refine⟨_,H cs,W1 P n b kind,y,t,d,rfl,p,?_,?_,rfl⟩
   . rw[<-i];exact Q
   . rw[<-i];exact R
include C X in
def Xf(h:rQ P n b kind .w3 cs g)(p:kind≠.early):∃j,stepG P main g w=.go j w #[⟨.mark (.write ⟨b,1,none⟩),false,true⟩]/\iO P n b kind Wd .w4 cs j:=by obtain⟨c,y,fr,frs,⟨rfl,k⟩,l,m,e,rfl⟩:=h;have q:=FL (y:=y) (a:=false) (BS k);obtain⟨f,o⟩:=C.w9 b kind (Fl.of y);rw[q]at f o;obtain⟨i,d,r,s,t⟩:=mH (P:=P) (Wd:=Wd) (v:=un) (x:=.tuple #[]) (.inl ⟨_,f⟩) l m e rfl;exact⟨_,fH (λu g h=>by cases h) m f (by rw[o];exact p) X.wr,rfl,_,t cs,_,y,i,d,⟨rfl,k⟩,l,r,s,rfl⟩
include C X in
def Xg{c v m:Nat}(i:rP b w c v m)(D:m≠0)(h:rQ P n b kind .w4 cs g)(t:kind≠.early):
 ∃o w',stepG P main g w=.go o w' (semEvents ⟨b,1,none⟩)/\w'=w.setCell ⟨b,1,none⟩ (.int .u32 (m-1:Nat))/\rP b w' c v (m-1)/\iO P n b kind Wd .w5 cs o:=by
 obtain⟨cf,y,fr,frs,⟨rfl,p⟩,q,r,j,rfl⟩:=h;have u:=FL (y:=y) (a:=false) (BS p);obtain⟨k,s⟩:=C.wa b kind (Fl.of y);rw[u]at k s;have d:=ti (main:=main) (cs:=frs++cs) (w:=w) (n:=(m:Int)) r k (by rw[s];exact t) X.FE i.cs (by omega) (i.fz _);have e:((m:Int)-1)=((m-1:Nat):Int):=by omega
 rw[e]at d;obtain⟨l,f,z,A,B⟩:=mH (P:=P) (Wd:=Wd) (v:=un) (x:=.tuple #[]) (.inl ⟨_,k⟩) q r j rfl;exact⟨_,_,d,rfl,i.FI (m-1),rfl,_,B cs,_,y,l,f,⟨rfl,p⟩,q,z,A,rfl⟩
include C X in
def UN{c v:Nat}(e:rP b w c v 0)(h:rQ P n b kind .w4 cs g):stepG P main g w=.go {g with status:=.blocked} w #[]:=by obtain⟨cf,y,fr,frs,⟨rfl,f⟩,m,i,j,rfl⟩:=h;have k:=FL (y:=y) (a:=false) (BS f);obtain⟨d,l⟩:=C.wa b kind (Fl.of y);rw[k]at d l;exact Ak i d X.FE e.cs
include C X in
def Xh{m:Nat}(r:rP b w 0 0 m)(h:rQ P n b kind .w5 cs g):∃k,stepG P main g w=.go k w #[⟨.cell ⟨b,0,none⟩,false,true⟩]/\iO P n b kind Wd .we cs k:=by obtain⟨c,y,fr,frs,⟨rfl,l⟩,o,p,e,rfl⟩:=h;have s:=FL (y:=y) (a:=false) (BS l);obtain⟨f,q⟩:=C.wb b kind (Fl.of y);rw[s]at f q;have i:=uO (main:=main) (cs:=frs++cs) p f (kO q) X.wx r.cw;obtain⟨j,d,t,u,z⟩:=mH (P:=P) (Wd:=Wd) (v:=u64 0) (x:=.int .u64 0) (.inl ⟨_,f⟩) o p e rfl;exact⟨_,i,rfl,_,z cs,_,y,j,d,.inr ⟨rfl,l⟩,o,t,u,rfl⟩
end
structure mI(P:adS)(n:zv):Prop where
 lock:∃fn body,P.funcs[n.lock]?=some fn/\fn.body=some body/\fn.ntmps=6/\fn.results=#[]
 unlock:∃fn body,P.funcs[n.unlock]?=some fn/\fn.body=some body/\fn.ntmps=6/\fn.results=#[]
section
variable{P:adS}{n:zv}(C:gF P n)(X:gJ P n)(F:mI P n){b o:Nat}{kind:adK}{Wd:adr}{cs:adt}{g:adF}{w:World}{main:Bool}
include F in
def rR:∃a,tg P Wd (G (Frame.enter P n.lock #[.pointer (some ⟨b,o,none⟩)] kind) cs) a/\oy P n b o kind .ld cs a:=by obtain⟨fn,body,c,d,e,f⟩:=F.lock;exact FJ ⟨fn,body,c,d,e⟩
include F in
def pG:∃e,tg P Wd (G (Frame.enter P n.unlock #[.pointer (some ⟨b,o,none⟩)] kind) cs) e/\oy P n b o kind .Ht cs e:=by
 obtain⟨fn,body,f,g,q,r⟩:=F.unlock
 have j:FR y0 (dJ P n.unlock [pt b o] kind) (Frame.enter P n.unlock #[.pointer (some ⟨b,o,none⟩)] kind):=tu f g rfl λi a h=>by
  match i with
  |0=>simp at h;subst h;exact⟨_,rfl,rfl⟩
  |i+1=>simp at h
 obtain⟨m,d,c,k,l,p⟩:=lY (Wd:=Wd) (P:=P) FM 400 j (st:=[]) (frs:=[]) trivial;exact⟨_,⟨m,p cs⟩,_,y0,d,c,rfl,tk,k.keep [0,5],l.keep [],rfl⟩
include F in
def tv{c:Frame}{rest:adt}(h:oy P n b o kind .back (c::rest) g)(e:kind≠.early):tg P Wd g (ki kind c rest (.tuple #[])):=by obtain⟨cf,y,fr,frs,rfl,l,i,a,rfl⟩:=h;obtain⟨fn,body,j,m,p,k⟩:=F.lock;have d:mF y [] frs:=a;obtain rfl:=d.mP;exact(lD (Wd:=Wd) (c:=c) (rest:=rest) (s:=(BK n kind).1) (f:=n.lock) i (by simp[BK,kq]) j k e).Af
include F in
def l8{c:Frame}{rest:adt}(h:oy P n b o kind .Dj (c::rest) g)(e:kind≠.early):tg P Wd g (ki kind c rest (.tuple #[])):=by obtain⟨cf,y,fr,frs,rfl,l,i,a,rfl⟩:=h;obtain⟨fn,body,j,m,p,k⟩:=F.unlock;have d:mF y [] frs:=a;obtain rfl:=d.mP;exact(lD (Wd:=Wd) (c:=c) (rest:=rest) (s:=(Uw n kind).1) (f:=n.unlock) i (by simp[Uw,kq]) j k e).Af
end
