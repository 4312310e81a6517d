import Derived.Conc.QuitsD
import Derived.Test.YtebcbkhnlnkolaaGreatDoorC8
set_option linter.all false
namespace Go.ck
open Go.Conc
inductive Ij where
 |a0|a2|a4|ae
 |d1|d2|d4|d5|d6|d7
 |w0|w1|we|wa|w2 (c:Nat)|w3|w4|w5
structure rQ  b  (w:World) (c v m:Nat):Prop where
 cw:w.cell? ⟨b,0,none⟩=some (.int .u64 (eZ c v))
 cs:w.cell? ⟨b,1,none⟩=some (.int .u32 m)
 fz:∀i,w.frozen? ⟨b,i,none⟩=false
def rQ.aZ{b w c v m}(h:rQ b w c v m)(c' a:Nat):rQ b (w.setCell ⟨b,0,none⟩ (.int .u64 (eZ c' a))) c' a m:=⟨kG h.cw,by rw[dN (by simp)];exact h.cs,λi=>by rw[oP];exact h.fz i⟩
def rQ.Gf{b w c v m}(h:rQ b w c v m)(a:Nat):rQ b (w.setCell ⟨b,1,none⟩ (.int .u32 a)) c v a:=⟨by rw[dN (by simp)];exact h.cw,kG h.cs,λi=>by rw[oP];exact h.fz i⟩
section
variable(P:adT)(n:Qr)(b:Nat)(τ:adP)
def GtC(p:Ij)(c:dc)(y:Sy):Prop:=
 match p with
 |.a0=>c=A0 P n b τ
 |.a2=>c=A2 P n b τ
 |.a4=>c=A4 P n b τ (Fl.of y)/\y.c=1
 |.ae=>y.c≠0/\((c=A5 P n b τ (Fl.of y)/\y.c=1)\/(c=A3 P n b τ (Fl.of y)/\y.c≠1))
 |.d1=>c=D1 P n b
 |.d2=>c=D2 P n b
 |.d4=>c=D4 P n b
 |.d5=>c=DE P n b (Fl.of y) 1/\y.c=0
 |.d6=>c=D6 P n b (Fl.of y)/\y.c=0
 |.d7=>c=D7 P n b (Fl.of y)/\y.c=0
 |.w0=>c=W0 P n b τ
 |.w1=>c=W1 P n b τ
 |.we=>(c=WE P n b τ (Fl.of y)/\y.c=0)\/(c=Ux P n b τ (Fl.of y)/\y.c≠0)
 |.wa=>(c=WA P n b τ (Fl.of y)/\y.c=0)\/(c=Uy P n b τ (Fl.of y)/\y.c≠0)
 |.w2 k=>c=WE P n b τ (Fl.of y)/\y.c=k/\k≠0
 |.w3=>c=Uw P n b τ (Fl.of y)/\y.c≠0
 |.w4=>c=W4 P n b τ (Fl.of y)/\y.c≠0
 |.w5=>c=W5 P n b τ (Fl.of y)/\y.c≠0
def rR(p:Ij)(cs:adE)(g:adJ):Prop:=∃c y fr φ,GtC P n b τ p c y/\y.ok/\FR y c.1 fr/\mM y c.2 φ/\g=G fr (φ++cs)
def iX(Wd:adz)(p:Ij)(cs:adE)(a:adJ):Prop:=a.status=.running/\∃c,tu P Wd a c/\rR P n b τ p cs c
end
def rR.running{P n b τ p cs g}(h:rR P n b τ p cs g):g.status=.running/\g.offers=none:=by obtain⟨c,y,fr,φ,_,_,_,_,rfl⟩:=h;exact⟨rfl,rfl⟩
def AX{s v}(h:(∃x,bh s=some x)\/(∃x,kY s=some x)):∃s',yi s v=some s':=by
 unfold yi;rcases h with⟨x,h⟩|⟨x,h⟩
 . unfold bh at h
   split at h
   . simp_all
   . cases h
 . unfold kY at h
   split at h
   . simp_all
   . cases h
section
variable{P:adT}{Wd:adz}{y:Sy}{c:dc}{v:SV}{x:Value}{fr:Frame}{φ:adE}
def mO(h:(∃x,bh c.1=some x)\/(∃x,kY c.1=some x))(f:y.ok)(g:FR y c.1 fr)(d:mM y c.2 φ)(i:SR y v x):
 ∃b a,FR y (next P (Fl.of y) c v).1 b/\mM y (next P (Fl.of y) c v).2 a/\∀cs,tu P Wd (G (fr.finish x) (φ++cs)) (G b (a++cs)):=by
 obtain⟨n,e⟩:=AX (v:=v) h;obtain⟨m,b,a,j,k,l⟩:=mq (Wd:=Wd) (Fl.DZ f) 400 (P:=P) (g.fin e i) d;unfold next
 rw[e];exact⟨b,a,j,k,λcs=>⟨m,l cs⟩⟩
def Gh(h:(∃x,bh c.1=some x)\/(∃x,kY c.1=some x))(g:FR y c.1 fr)(d:mM y c.2 φ)(i:c.1.env.all plain=true)(e:c.2.all (·.env.all plain)=true)(j:∀y,SR y v x):
 ∃b a,FR y0 (next P lN c v).1 b/\mM y0 (next P lN c v).2 a/\∀cs,tu P Wd (G (fr.finish x) (φ++cs)) (G b (a++cs)):=by
 obtain⟨p,f⟩:=AX (v:=v) h;have k:lN.At y0:=⟨by decide,by decide,rfl,rfl,rfl,rfl,rfl,by decide⟩;obtain⟨m,b,a,l,n,o⟩:=mq (Wd:=Wd) k 400 (P:=P) ((g.ir i).fin f (j y0)) (d.ir e);unfold next
 rw[f];exact⟨b,a,l,n,λcs=>⟨m,o cs⟩⟩
end
def mM.rP{y}:∀{st φ}  ls ,mM y st φ->mM y (Go.ck.rP st ls) φ
 |[],φ,ls,h=>by rw[h.mW];trivial
 |s::st,φ,[],h=>by obtain⟨f,a,rfl,b,c⟩:=h.cons_inv;exact⟨b.keep [],c.rP []⟩
 |s::st,φ,l::ls,h=>by obtain⟨f,a,rfl,b,c⟩:=h.cons_inv;exact⟨b.keep l,c.rP ls⟩
def f10{y a c}(b:decide (y.c=1)=a)(d:decide (y.c=0)=c):f0 (f1 (Fl.of y) a) c=Fl.of y:=by subst b;subst d;rfl
def Zn{y a}(b:decide (y.c=1)=a):f1 (Fl.of y) a=Fl.of y:=by subst b;rfl
def Gi{y a}(b:decide (y.c=0)=a):f0 (Fl.of y) a=Fl.of y:=by subst b;rfl
def lf{c}(h:xd c=true):c.1.kind≠.early:=by
 unfold xd at h
 simp_all
section
variable{P:adT}{n:Qr}(C:iu P n)(X:iW P n){b:Nat}{τ:adP}{Wd:adz}{cs:adE}{g:adJ}{w:World}{main:Bool}
variable(hW0:∀w,Wd w->∃v,w.cell? ⟨b,0,none⟩=some v)(hW1:∀w,Wd w->∃v,w.cell? ⟨b,1,none⟩=some v)
include X hW1 in
def RV{y}{c:dc}{fr φ}(h:kY c.1=some (n.tS,n.tU,pt b 1))(a:FR y c.1 fr):tp P Wd (G fr (φ++cs)) (G (fr.finish (.pointer (some ⟨b,1,none⟩))) (φ++cs)):=by obtain⟨t,d,e,f⟩:=X.Zm;exact⟨rfl,λmain w g=>uO a h d e f (hW1 w g)⟩
include X hW0 in
def MC{y}{c:dc}{fr φ}(h:kY c.1=some (n.tG,n.tU,pt b 0))(a:FR y c.1 fr):tp P Wd (G fr (φ++cs)) (G (fr.finish (.pointer (some ⟨b,0,none⟩))) (φ++cs)):=by obtain⟨t,d,e,f⟩:=X.Zl;exact⟨rfl,λmain w g=>uO a h d e f (hW0 w g)⟩
def tA{f args dU y fn body}(b:P.funcs[f]?=some fn)(c:fn.body=some body)(d:args.length=dU.size)(e:∀(i:Nat) a,args[i]?=some a->∃x,dU[i]?=some x/\SR y a x):FR y (dR P f args τ) (Frame.enter P f dU τ):=by
 refine⟨by simp[dR,b,Frame.enter],by simp[dR,b,c,Frame.enter],by simp[dR,b,Frame.enter],by simp[dR,b,Frame.enter,DQ.of],by simp[dR,b,Frame.enter],rfl,by simp[dR,b,Frame.enter,d],λt=>?_⟩;simp only[dR,b,Frame.enter,abx,abT];rw[acU,wN];by_cases g:t<args.length
 . grind
 . rw[aco (by omega),abp (by omega),List.getElem?_replicate]
   split<;>trivial
include X in
def Af:∃e,tu P Wd (G (Frame.enter P n.add #[.pointer (some ⟨b,0,none⟩),.int .i64 1] τ) cs) e/\rR P n b τ .a0 cs e:=by
 obtain⟨fn,body,f,g,q,r⟩:=X.SU
 have j:FR y0 (dR P n.add [pt b 0,i64 1] τ) (Frame.enter P n.add #[.pointer (some ⟨b,0,none⟩),.int .i64 1] τ):=tA f g rfl λi a h=>by
  match i with
  |0=>simp at h;subst h;exact⟨_,rfl,rfl⟩
  |1=>simp at h;subst h;exact⟨_,rfl,rfl⟩
  |i+2=>simp at h
 have k:lN.At y0:=⟨by decide,by decide,rfl,rfl,rfl,rfl,rfl,by decide⟩;obtain⟨m,d,c,l,o,p⟩:=mq (Wd:=Wd) (P:=P) k 400 j (st:=[]) (φ:=[]) trivial;exact⟨_,⟨m,p cs⟩,_,y0,d,c,rfl,tx,l,o,rfl⟩
def Gj:lN.At y0:=⟨by decide,by decide,rfl,rfl,rfl,rfl,rfl,by decide⟩
include X in
def qp(C:iu P n):∃e,tu P Wd (G (Frame.enter P n.wait #[.pointer (some ⟨b,0,none⟩)] τ) cs) e/\rR P n b τ .w0 cs e:=by
 obtain⟨fn,body,f,g,p,q⟩:=X.MB
 have j:FR y0 (dR P n.wait [pt b 0] τ) (Frame.enter P n.wait #[.pointer (some ⟨b,0,none⟩)] τ):=tA f g rfl λi a h=>by
  match i with
  |0=>simp at h;subst h;exact⟨_,rfl,rfl⟩
  |i+1=>simp at h
 obtain⟨m,d,c,k,l,o⟩:=mq (Wd:=Wd) (P:=P) Gj 400 j (st:=[]) (φ:=[]) trivial;exact⟨_,⟨m,o cs⟩,_,y0,d,c,rfl,tx,k.keep [0],l.rP [],rfl⟩
include X hW0 in
def yn(C:iu P n):∃f,tu P Wd (G (Frame.enter P n.done #[.pointer (some ⟨b,0,none⟩)] .deferred) cs) f/\rR P n b τ .d1 cs f:=by
 obtain⟨fn,body,l,o,A,B⟩:=X.MA
 have p:FR y0 (dR P n.done [pt b 0] .deferred) (Frame.enter P n.done #[.pointer (some ⟨b,0,none⟩)] .deferred):=tA l o rfl λi a h=>by
  match i with
  |0=>simp at h;subst h;exact⟨_,rfl,rfl⟩
  |i+1=>simp at h
 obtain⟨m,q,g,j,r,s⟩:=mq (Wd:=Wd) (P:=P) Gj 400 p (st:=[]) (φ:=[]) trivial;obtain⟨k,t,u⟩:=C.d0 b;obtain⟨e,d,w,y,z⟩:=Gh (P:=P) (Wd:=Wd) (c:=D0 P n b) (v:=pt b 0) (x:=.pointer (some ⟨b,0,none⟩)) (.inr ⟨_,k⟩) j r t u (λ_=>rfl);exact⟨_,tu.trans ⟨m,s cs⟩ (tu.trans (MC X hW0 (cs:=cs) k j).AP (z cs)),_,y0,e,d,rfl,tx,w,y,rfl⟩
include C X in
def XX(h:rR P n b τ .a0 cs g)(j:τ≠.early):∃k,stepG P main g w=.go k w #[⟨.mark .disable,false,true⟩]/\iX P n b τ Wd .a2 cs k:=by
 obtain⟨c,y,fr,φ,rfl,I,l,f,rfl⟩:=h;obtain⟨m,q,r,t⟩:=C.a0 b τ;obtain⟨o,u,z,A⟩:=C.a1 b τ;refine⟨_,fF Mt l m (by rw[t];exact j) X.jR,rfl,?_⟩;obtain⟨d,a,p,B,D⟩:=Gh (P:=P) (Wd:=Wd) (v:=un) (x:=.tuple #[]) (.inl ⟨_,m⟩) l f q (by rw[r];rfl) (λ_=>rfl);obtain⟨i,e,E,F,H⟩:=Gh (P:=P) (Wd:=Wd) (c:=A1 P n b τ) (v:=ff) (x:=.bool false) (.inl ⟨_,o⟩) p B u (by rw[z];rfl) (λ_=>rfl);have hb:tp P Wd (G d (a++cs)) (G (d.finish (.bool false)) (a++cs)):=⟨rfl,λmain w _=>uN (s:=(A1 P n b τ).1) p o (by rw[A];exact j) X.Qs⟩;exact⟨_,(D cs).trans (hb.AP.trans (H cs)),_,y0,i,e,rfl,tx,E,F,rfl⟩
include C X hW1 in
def XY{c v m:Nat}(o:rQ b w c 0 m)(L:c<1000)(h:rR P n b τ .a2 cs g):
 ∃p w',stepG P main g w=.go p w' #[⟨.cell ⟨b,0,none⟩,false,true⟩,⟨.cell ⟨b,0,none⟩,true,true⟩]/\w'=w.setCell ⟨b,0,none⟩ (.int .u64 (eZ (c+1:Nat) 0))/\rQ b w' (c+1) 0 m/\(iX P n b τ Wd .a4 cs p\/iX P n b τ Wd .ae cs p):=by
 obtain⟨cf,y,fr,φ,rfl,M,z,q,rfl⟩:=h;obtain⟨A,E,F,G⟩:=C.a2 b τ
 have e:IntKind.u64.wrap (eZ c 0+4294967296)=eZ (c+1:Nat) 0:=by
  rw[kK (by unfold eZ;omega) (by unfold eZ;omega)];unfold eZ;push_cast;omega
 have i:=qm (main:=main) (cs:=φ++cs) (w:=w) z A (lf E) X.tz (λx h=>h) o.cw (o.fz 0);rw[e]at i;have d:({y0 with c:=((c+1:Nat):Int)}:Sy).ok:=⟨by show(0:Int)<=2/\(2:Int)<=1000;decide,by show(0:Int)<=((c+1:Nat):Int)/\((c+1:Nat):Int)<=1000;omega⟩;have r:((c+1:Nat):Int)≠0:=by omega
 obtain⟨s,j,t,B,D⟩:=mO (P:=P) (Wd:=Wd) (y:={y0 with c:=((c+1:Nat):Int)}) (v:=.eZ 0) (x:=.int .u64 (eZ (c+1:Nat) 0)) (.inl ⟨_,A⟩) d (z.ir F) (q.ir G) rfl;refine⟨_,_,i,rfl,o.aZ (c+1) 0,?_⟩;by_cases f:((c+1:Nat):Int)=1
 . left
   have H:=Zn (y:={y0 with c:=((c+1:Nat):Int)}) (a:=true) (by simpa using f);have k:=C.a3 b τ (Fl.of {y0 with c:=((c+1:Nat):Int)});rw[H]at k;obtain⟨u,l,I,J,K⟩:=mO (P:=P) (Wd:=Wd) (v:=pt b 1) (x:=.pointer (some ⟨b,1,none⟩)) (.inr ⟨_,k⟩) d t B rfl;exact⟨rfl,_,(D cs).trans ((RV X hW1 (cs:=cs) k t).AP.trans (K cs)),_,_,u,l,⟨rfl,f⟩,d,I,J,rfl⟩
 . right
   exact⟨rfl,_,D cs,_,_,s,j,⟨r,.inr ⟨rfl,f⟩⟩,d,t,B,rfl⟩
end
section
variable{P:adT}{n:Qr}(C:iu P n)(X:iW P n){b:Nat}{τ:adP}{Wd:adz}{cs:adE}{g:adJ}{w:World}{main:Bool}
variable(hW0:∀w,Wd w->∃v,w.cell? ⟨b,0,none⟩=some v)(hW1:∀w,Wd w->∃v,w.cell? ⟨b,1,none⟩=some v)
def Cl{y:Sy}(h:y.c≠0):decide (y.c=0)=false:=by grind
include C X in
def XZ(h:rR P n b τ .a4 cs g)(p:τ≠.early):∃k,stepG P main g w=.go k w #[⟨.mark (.read ⟨b,1,none⟩),false,true⟩]/\iX P n b τ Wd .ae cs k:=by
 obtain⟨c,y,fr,φ,⟨rfl,e⟩,l,m,f,rfl⟩:=h;have q:=Zn (y:=y) (a:=true) (by simpa using e);obtain⟨i,o⟩:=C.a4 b τ (Fl.of y);rw[q]at i o;obtain⟨j,d,r,s,t⟩:=mO (P:=P) (Wd:=Wd) (v:=un) (x:=.tuple #[]) (.inl ⟨_,i⟩) l m f rfl;exact⟨_,fZ (λu g h=>by cases h) m i (by rw[o];exact p) X.rd,rfl,_,t cs,_,y,j,d,⟨by rw[e];decide,.inl ⟨rfl,e⟩⟩,l,r,s,rfl⟩
include C X in
def X1 {e μ} (h:rR P n b τ .ae (e :: μ) g) (t:τ ≠ .early):∃ d,stepG P main g w = .go d w #[⟨.mark .enable,false,true⟩]∧d.status = .running∧tu P Wd d (kH τ e μ (.tuple #[])):=by
 obtain⟨c,y,fr,φ,⟨f,i⟩,E,u,j,rfl⟩:=h;obtain⟨fn,body,f1,F,H,v⟩:=X.SU
 have key:sA c.1=some n.en->c.2=[]->c.1.kind=τ->c.1.fn=n.add->∃ d,stepG P main (G fr (φ ++ e :: μ)) w = .go d w #[⟨.mark .enable,false,true⟩]∧d.status = .running∧tu P Wd d (kH τ e μ (.tuple #[])):=fun q x s z=>by
  rw[x] at j;obtain rfl:=j.mW;obtain⟨A,B⟩:=Ck (main:=main) (cs:=[] ++ e :: μ) (w:=w) u q X.en
  have k:kL ({ c.1 with defers:=[] }:pP) n.add=true:=by
   unfold kL;unfold sA at q;split at q
   . rename_i g cap as D hd;simp[D,z]
   cases q
  refine⟨_,A,rfl,?_⟩;have:=lO (Wd:=Wd) (c:=e) (μ:=μ) B k f1 v (by show c.1.kind≠_;rw[s];exact t)
  rw[show ({ c.1 with defers:=[] }:pP).kind=τ from s] at this
  exact this.AP
 rcases i with ⟨rfl,i⟩|⟨rfl,i⟩
 . have r:=f10 (y:=y) (a:=true) (c:=false) (by simpa using i) (Cl f)
   obtain⟨l,m,o,p⟩:=C.a5 b τ (Fl.of y);rw[r] at l m o p;exact key l m o p
 have r:=f10 (y:=y) (a:=false) (c:=false) (by simpa using i) (Cl f)
 obtain⟨l,m,o,p⟩:=C.a6 b τ (Fl.of y);rw[r] at l m o p;exact key l m o p
include C X in
def X2(h:rR P n b τ .d1 cs g):∃f,stepG P main g w=.go f w #[⟨.mark (.releaseMerge ⟨b,0,none⟩),false,true⟩]/\iX P n b τ Wd .d2 cs f:=by
 obtain⟨c,y,fr,φ,rfl,r,i,d,rfl⟩:=h;obtain⟨j,k,l,m⟩:=C.d1 b;obtain⟨e,a,o,p,q⟩:=Gh (P:=P) (Wd:=Wd) (v:=un) (x:=.tuple #[]) (.inl ⟨_,j⟩) i d l m (λ_=>rfl);exact⟨_,fZ (λs g h=>by cases h) i j (lf k) X.rel,rfl,_,q cs,_,y0,e,a,rfl,tx,o,p,rfl⟩
include C X in
def X3(h:rR P n b τ .d2 cs g):∃j,stepG P main g w=.go j w #[⟨.mark .disable,false,true⟩]/\iX P n b τ Wd .d4 cs j:=by
 obtain⟨c,y,fr,φ,rfl,H,k,f,rfl⟩:=h;obtain⟨l,p,q,r⟩:=C.d2 b;obtain⟨m,t,u,z⟩:=C.d3 b;refine⟨_,fF Mt k l (lf p) X.jR,rfl,?_⟩;obtain⟨d,a,o,A,B⟩:=Gh (P:=P) (Wd:=Wd) (v:=un) (x:=.tuple #[]) (.inl ⟨_,l⟩) k f q r (λ_=>rfl);obtain⟨i,e,D,E,F⟩:=Gh (P:=P) (Wd:=Wd) (c:=D3 P n b) (v:=ff) (x:=.bool false) (.inl ⟨_,m⟩) o A u z (λ_=>rfl);have hb:tp P Wd (G d (a++cs)) (G (d.finish (.bool false)) (a++cs)):=⟨rfl,λmain w _=>uN (s:=(D3 P n b).1) o m (lf t) X.Qs⟩;exact⟨_,(B cs).trans (hb.AP.trans (F cs)),_,y0,i,e,rfl,tx,D,E,rfl⟩
def lg(P:adT)(a:FuncId)(η:ady)(todo:adH):Frame:=⟨a,η,todo,[],.returning,.deferred,none⟩
def cO(P:adT):Frame:={(default:Frame)with fn:=P.funcs.size,defers:=[],mode:=.panicking [goexitEntry]}
def uS{a fn η todo}(c:P.funcs[a]?=some fn)(d:fn.results=#[]):QuitsD P 2 0 (G (lg P a η todo) [cO P]):=by
 refine .ctl (g':=G (cO P) []) rfl (λw=>?_) (.ctl (g':={G (cO P) []with status:=.finished}) rfl (λw=>?_) ⟨rfl,rfl⟩)
 . simp[G,stepG,unwind,c,results,d,lg,cO,goexitEntry]
   rfl
 have b:(cO P).catches P=false:=by simp[Frame.catches,cO];rfl
 simp[G,stepG,unwind,cO,goexitEntry]at b ⊢;simp[b]
def uT{d}:∀{m k a c},jI P (λ_=>True) m a c->QuitsD P k d c->QuitsD P (k+m) d a
 |0,k,a,c,h,b=>by obtain rfl:=h;exact b
 |m+1,k,a,c,h,b=>by obtain⟨i,⟨e,f⟩,g⟩:=h;exact .ctl e (λw=>f false w trivial) (uT g b)
include X in
def yo{c y fr φ a fn η todo}(o:P.funcs[a]?=some fn)(b:fn.results=#[])(p:y.ok)(j:FR y c.1 fr)(e:mM y c.2 φ)
 (k:sA c.1=some n.en) (q:kL (mN P (Fl.of y) c).1 n.done=true) (r:(mN P (Fl.of y) c).2=[]) (l:(mN P (Fl.of y) c).1.kind=.deferred):∃m,QuitsD P m 1 (G fr (φ++[lg P a η todo,cO P])):=by
 obtain⟨_,f⟩:=Ck (P:=P) (main:=false) (cs:=φ++[lg P a η todo,cO P]) (w:=default) j k X.en;obtain⟨m,g,d,s,t,u⟩:=mq (Wd:=λ_=>True) (P:=P) (Fl.DZ p) 400 f e
 have h:mM y [] d:=by rw[<-r];exact t
 obtain rfl:=h.mW;obtain⟨fd,body,v,B,C,x⟩:=X.MA;have hb:=lO (Wd:=λ_=>True) (c:=lg P a η todo) (μ:=[cO P]) s q v x (by show(mN P (Fl.of y) c).1.kind≠_;rw[l];decide)
 have i:kH (sgo P (Fl.of y) 400 {c.1 with defers:=[]} c.2).1.kind (lg P a η todo) [cO P] (.tuple #[])=G (lg P a η todo) [cO P]:=by rw[show(sgo P (Fl.of y) 400 {c.1 with defers:=[]} c.2).1.kind=.deferred from l];rfl
 rw[i]at hb;have z:QuitsD P (2+1) 0 (G g [lg P a η todo,cO P]):=.ctl rfl (λw=>hb.2 false w trivial) (uS o b)
 have A:=uT (u [lg P a η todo,cO P]) z;exact⟨_,.said ⟨.mark .enable,false,true⟩ rfl rfl (λw=>(Ck (P:=P) (main:=false) (cs:=φ++[lg P a η todo,cO P]) (w:=w) j k X.en).1) A⟩
def Gone(P:adT)(Wd:adz)(a:adJ):Prop:=∃m,QuitsD P m 1 a
def Cm{m k a c}(h:jI P (λ_=>True) m a c)(b:QuitsD P k 1 c):Gone P Wd a:=⟨_,uT h b⟩
include C X in
def X4{k v m o fn η todo}(N:P.funcs[o]?=some fn)(f:fn.results=#[])(G:rQ b w (k+1) v m)(R:k<1000)(S:v<=1)(h:rR P n b τ .d4 [lg P o η todo,cO P] g):
 ∃H w',stepG P main g w=.go H w' #[⟨.cell ⟨b,0,none⟩,false,true⟩,⟨.cell ⟨b,0,none⟩,true,true⟩]/\w'=w.setCell ⟨b,0,none⟩ (.int .u64 (eZ k v))/\rQ b w' k v m/\((k=0/\v=1/\iX P n b τ Wd .d5 [lg P o η todo,cO P] H)\/(¬(k=0/\v=1)/\Gone P Wd H)):=by
 obtain⟨cf,y,fr,φ,rfl,T,E,i,rfl⟩:=h;obtain⟨F,O,I,J⟩:=C.d4 b
 have e:IntKind.u64.wrap (eZ (k+1:Nat) v+18446744069414584320)=eZ k v:=by
  have:eZ (k+1:Nat) v+18446744069414584320=eZ k v+18446744073709551616:=by unfold eZ;push_cast;omega
  rw[this];simp[IntKind.wrap,IntKind.bits,IntKind.signed];unfold eZ;omega
 have p:=qm (main:=main) (cs:=φ++[lg P o η todo,cO P]) (w:=w) E F (lf O) X.tz (λx h=>h) G.cw (G.fz 0)
 rw[e]at p;have a:({y0 with c:=(k:Int)}:Sy).ok:=⟨by show(0:Int)<=2/\(2:Int)<=1000;decide,by show(0:Int)<=(k:Int)/\(k:Int)<=1000;omega⟩
 refine⟨_,_,p,rfl,G.aZ k v,?_⟩;have q:v=0\/v=1:=by omega
 rcases q with rfl|rfl
 . refine .inr ⟨by omega,?_⟩
   obtain⟨l,d,r,s,t⟩:=mO (P:=P) (Wd:=λ_=>True) (y:={y0 with c:=(k:Int)}) (v:=.eZ 0) (x:=.int .u64 (eZ k 0)) (.inl ⟨_,F⟩) a (E.ir I) (i.ir J) rfl
   have u:=C.d5 b (Fl.of {y0 with c:=(k:Int)}) (decide ((k:Int)=0))
   obtain⟨z,A,B⟩:=C.Zj b (Fl.of {y0 with c:=(k:Int)}) (decide ((k:Int)=0))
   rw[Gi rfl]at u z A B;obtain⟨Q,K⟩:=yo X N f a r s u z A B;obtain⟨j,L⟩:=t [lg P o η todo,cO P];exact Cm L K
 by_cases D:k=0
 . refine .inl ⟨D,rfl,?_⟩
   obtain⟨l,d,r,s,t⟩:=mO (P:=P) (Wd:=Wd) (y:={y0 with c:=(k:Int)}) (v:=.eZ 1) (x:=.int .u64 (eZ k 1)) (.inl ⟨_,F⟩) a (E.ir I) (i.ir J) rfl
   exact⟨rfl,_,t _,_,_,l,d,⟨rfl,by show(k:Int)=0;omega⟩,a,r,s,rfl⟩
 refine .inr ⟨by omega,?_⟩
 obtain⟨l,d,r,s,t⟩:=mO (P:=P) (Wd:=λ_=>True) (y:={y0 with c:=(k:Int)}) (v:=.eZ 1) (x:=.int .u64 (eZ k 1)) (.inl ⟨_,F⟩) a (E.ir I) (i.ir J) rfl
 have M:decide ((k:Int)=0)=false:=by simpa using D
 have u:=C.d6 b (Fl.of {y0 with c:=(k:Int)})
 obtain⟨z,A,B⟩:=C.Zk b (Fl.of {y0 with c:=(k:Int)})
 rw[Gi M]at u z A B;obtain⟨Q,K⟩:=yo X N f a r s u z A B;obtain⟨j,L⟩:=t [lg P o η todo,cO P];exact Cm L K
include C X in
def X5{m}(q:rQ b w 0 1 m)(h:rR P n b τ .d5 cs g):∃k,stepG P main g w=.go k w #[⟨.cell ⟨b,0,none⟩,false,true⟩]/\iX P n b τ Wd .d6 cs k:=by
 obtain⟨c,y,fr,φ,⟨rfl,e⟩,l,o,f,rfl⟩:=h;have r:=Gi (y:=y) (a:=true) (by simpa using e)
 obtain⟨i,p⟩:=C.d7 b (Fl.of y);rw[r]at i p;have s:SR y (.eZ 1) (.int .u64 (eZ 0 1)):=by show _=Value.int .u64 (eZ y.c 1);rw[e]
 obtain⟨j,d,t,u,v⟩:=mO (P:=P) (Wd:=Wd) (.inl ⟨_,i⟩) l o f s;exact⟨_,uR o i (lf p) X.wJ q.cw,rfl,_,v cs,_,y,j,d,⟨rfl,e⟩,l,t,u,rfl⟩
include C X in
def X6{m}(e:rQ b w 0 1 m)(h:rR P n b τ .d6 cs g):∃k w',stepG P main g w=.go k w' #[⟨.cell ⟨b,0,none⟩,true,true⟩]/\w'=w.setCell ⟨b,0,none⟩ (.int .u64 (eZ 0 0))/\rQ b w' 0 0 m/\iX P n b τ Wd .d7 cs k:=by
 obtain⟨c,y,fr,φ,⟨rfl,l⟩,o,p,f,rfl⟩:=h;have r:=Gi (y:=y) (a:=true) (by simpa using l);obtain⟨i,q⟩:=C.d8 b (Fl.of y);rw[r]at i q;obtain⟨j,d,s,t,u⟩:=mO (P:=P) (Wd:=Wd) (v:=un) (x:=.tuple #[]) (.inl ⟨_,i⟩) o p f rfl;exact⟨_,_,Ju p i (lf q) X.Jv e.cw (e.fz 0),rfl,e.aZ 0 0,rfl,_,u cs,_,y,j,d,⟨rfl,l⟩,o,s,t,rfl⟩
include C X in
def X7{v m k fn η todo}(E:P.funcs[k]?=some fn)(d:fn.results=#[])(l:rQ b w 0 v m)(M:m<=1000)(h:rR P n b τ .d7 [lg P k η todo,cO P] g):
 ∃q w',stepG P main g w=.go q w' (semEvents ⟨b,1,none⟩)/\w'=w.setCell ⟨b,1,none⟩ (.int .u32 (m+1:Nat))/\rQ b w' 0 v (m+1)/\Gone P Wd q:=by
 obtain⟨c,y,fr,φ,⟨rfl,F⟩,r,s,o,rfl⟩:=h;have f:=Gi (y:=y) (a:=true) (by simpa using F)
 obtain⟨p,t⟩:=C.d9 b (Fl.of y);rw[f]at p t;have i:=oJ (main:=main) (cs:=φ++[lg P k η todo,cO P]) (w:=w) s p (lf t) X.oO l.cs (l.fz 1);have e:IntKind.u32.wrap ((m:Int)+1)=((m+1:Nat):Int):=by rw[IntKind.wrap_u32];omega
 rw[e]at i;obtain⟨G,u,H,I,J⟩:=mO (P:=P) (Wd:=λ_=>True) (v:=un) (x:=.tuple #[]) (.inl ⟨_,p⟩) r s o rfl
 have z:=C.da b (Fl.of y);obtain⟨A,B,D⟩:=C.db b (Fl.of y);rw[f]at z A B D;obtain⟨N,K⟩:=yo X E d r H I z A B D;obtain⟨j,L⟩:=J [lg P k η todo,cO P];exact⟨_,_,i,rfl,l.Gf (m+1),Cm L K⟩
end
section
variable{P:adT}{n:Qr}(C:iu P n)(X:iW P n){b:Nat}{τ:adP}{Wd:adz}{cs:adE}{g:adJ}{w:World}{main:Bool}
variable(hW0:∀w,Wd w->∃v,w.cell? ⟨b,0,none⟩=some v)(hW1:∀w,Wd w->∃v,w.cell? ⟨b,1,none⟩=some v)
include C X in
def X8(h:rR P n b τ .w0 cs g)(k:τ≠.early):∃f,stepG P main g w=.go f w #[⟨.mark .disable,false,true⟩]/\iX P n b τ Wd .w1 cs f:=by
 obtain⟨c,y,fr,φ,rfl,s,i,d,rfl⟩:=h;obtain⟨j,l,m,o⟩:=C.w0 b τ;obtain⟨e,a,p,q,r⟩:=Gh (P:=P) (Wd:=Wd) (v:=un) (x:=.tuple #[]) (.inl ⟨_,j⟩) i d l (by rw[m];rfl) (λ_=>rfl);exact⟨_,fF Mt i j (by rw[o];exact k) X.jR,rfl,_,r cs,_,y0,e,a,rfl,tx,p.keep [5],q.rP [[0]],rfl⟩
include C X in
def X9{c m}(r:rQ b w c 0 m)(z:c<=1000)(h:rR P n b τ .w1 cs g):
 ∃f,stepG P main g w=.go f w #[⟨.cell ⟨b,0,none⟩,false,true⟩]/\((c=0/\iX P n b τ Wd .we cs f)\/(c≠0/\iX P n b τ Wd (.w2 c) cs f)):=by
 obtain⟨cf,y,fr,φ,rfl,A,k,i,rfl⟩:=h;obtain⟨l,s,t,u⟩:=C.w1 b τ;have d:({y0 with c:=(c:Int)}:Sy).ok:=⟨by show(0:Int)<=2/\(2:Int)<=1000;decide,by show(0:Int)<=(c:Int)/\(c:Int)<=1000;omega⟩;obtain⟨e,a,o,p,q⟩:=mO (P:=P) (Wd:=Wd) (y:={y0 with c:=(c:Int)}) (v:=.eZ 0) (x:=.int .u64 (eZ c 0)) (.inl ⟨_,l⟩) d (k.ir t) (i.ir u) rfl;refine⟨_,uR k l (lf s) X.wJ r.cw,?_⟩;by_cases j:c=0
 . exact .inl ⟨j,rfl,_,q cs,_,_,e,a,.inl ⟨rfl,by show(c:Int)=0;omega⟩,d,o,p,rfl⟩
 exact .inr ⟨j,rfl,_,q cs,_,_,e,a,⟨rfl,rfl,j⟩,d,o,p,rfl⟩
include C X hW0 in
def Ya(h:rR P n b τ .we cs g)(D:τ≠.early):∃E,stepG P main g w=.go E w #[⟨.mark .enable,false,true⟩]/\iX P n b τ Wd .wa cs E:=by
 obtain⟨c,y,fr,φ,e,k,q,l,rfl⟩:=h;rcases e with⟨rfl,e⟩|⟨rfl,e⟩
 . have r:=Gi (y:=y) (a:=true) (by simpa using e)
   obtain⟨f,m⟩:=C.w2 b τ (Fl.of y);have i:=C.w3 b τ (Fl.of y);rw[r]at f m i;obtain⟨s,o,p,t,u⟩:=mO (P:=P) (Wd:=Wd) (v:=un) (x:=.tuple #[]) (.inl ⟨_,f⟩) k q l rfl;obtain⟨j,d,z,A,B⟩:=mO (P:=P) (Wd:=Wd) (c:=WC P n b τ (Fl.of y)) (v:=pt b 0) (x:=.pointer (some ⟨b,0,none⟩)) (.inr ⟨_,i⟩) k p t rfl;exact⟨_,fF Mw q f (by rw[m];exact D) X.en,rfl,_,(u cs).trans ((MC X hW0 (c:=WC P n b τ (Fl.of y)) (cs:=cs) i p).AP.trans (B cs)),_,y,j,d,.inl ⟨rfl,e⟩,k,z,A,rfl⟩
 have r:=Gi (y:=y) (a:=false) (Cl e);obtain⟨f,m⟩:=C.wc b τ (Fl.of y);have i:=C.wd b τ (Fl.of y);rw[r]at f m i;obtain⟨s,o,p,t,u⟩:=mO (P:=P) (Wd:=Wd) (v:=un) (x:=.tuple #[]) (.inl ⟨_,f⟩) k q l rfl;obtain⟨j,d,z,A,B⟩:=mO (P:=P) (Wd:=Wd) (c:=VK P n b τ (Fl.of y)) (v:=pt b 0) (x:=.pointer (some ⟨b,0,none⟩)) (.inr ⟨_,i⟩) k p t rfl;exact⟨_,fF Mw q f (by rw[m];exact D) X.en,rfl,_,(u cs).trans ((MC X hW0 (c:=VK P n b τ (Fl.of y)) (cs:=cs) i p).AP.trans (B cs)),_,y,j,d,.inr ⟨rfl,e⟩,k,z,A,rfl⟩
include C X in
def VL{j μ}(h:rR P n b τ .wa (j::μ) g)(q:τ≠.early):∃t,stepG P main g w=.go t w #[⟨.mark (.acquire ⟨b,0,none⟩),false,true⟩]/\t.status=.running/\tu P Wd t (kH τ j μ (.tuple #[])):=by
 obtain⟨c,y,fr,φ,k,E,r,l,rfl⟩:=h;obtain⟨fn,body,f1,H,I,F⟩:=X.MB;rcases k with⟨rfl,k⟩|⟨rfl,k⟩
 . have u:=Gi (y:=y) (a:=true) (by simpa using k)
   obtain⟨f,m⟩:=C.w4 b τ (Fl.of y);obtain⟨o,p,i⟩:=C.w5 b τ (Fl.of y);rw[u]at f m o p i;obtain⟨z,d,A,B,D⟩:=mO (P:=P) (Wd:=Wd) (v:=un) (x:=.tuple #[]) (.inl ⟨_,f⟩) E r l rfl;have e:mM y (WB P n b τ (Fl.of y)).2 d:=B;rw[p]at e;obtain rfl:=e.mW;have hb:=lO (Wd:=Wd) (c:=j) (μ:=μ) (s:=(WB P n b τ (Fl.of y)).1) A o f1 F (by rw[i];exact q);rw[i]at hb;exact⟨_,fZ (λG g h=>by cases h) r f (by rw[m];exact q) X.acq,rfl,(D (j::μ)).trans hb.AP⟩
 have u:=Gi (y:=y) (a:=false) (Cl k);obtain⟨f,m⟩:=C.we b τ (Fl.of y);obtain⟨o,p,i⟩:=C.wf b τ (Fl.of y);rw[u]at f m o p i;obtain⟨z,d,A,B,D⟩:=mO (P:=P) (Wd:=Wd) (v:=un) (x:=.tuple #[]) (.inl ⟨_,f⟩) E r l rfl;have e:mM y (RU P n b τ (Fl.of y)).2 d:=B;rw[p]at e;obtain rfl:=e.mW;have hb:=lO (Wd:=Wd) (c:=j) (μ:=μ) (s:=(RU P n b τ (Fl.of y)).1) A o f1 F (by rw[i];exact q);rw[i]at hb;exact⟨_,fZ (λG g h=>by cases h) r f (by rw[m];exact q) X.acq,rfl,(D (j::μ)).trans hb.AP⟩
def Qt{c c' v a:Nat}(d:v<=1000)(b:a<=1000):eZ c v=eZ c' a↔(c=c'/\v=a):=by unfold eZ;omega
include C X hW1 in
def Yb{k c m}(l:rQ b w c 0 m)(h:rR P n b τ (.w2 k) cs g):
 (c=k/\∃o w',stepG P main g w=.go o w' #[⟨.cell ⟨b,0,none⟩,false,true⟩,⟨.cell ⟨b,0,none⟩,true,true⟩]/\w'=w.setCell ⟨b,0,none⟩ (.int .u64 (eZ k 1))/\rQ b w' k 1 m/\iX P n b τ Wd .w3 cs o)\/
 (c≠k/\∃o,stepG P main g w=.go o w #[⟨.cell ⟨b,0,none⟩,false,true⟩]/\iX P n b τ Wd .w1 cs o):=by
 obtain⟨cf,y,fr,φ,⟨rfl,K,L⟩,p,z,q,rfl⟩:=h;have r:y.c≠0:=by rw[K];omega
 have D:=Gi (y:=y) (a:=false) (Cl r);obtain⟨s,E⟩:=C.w6 b τ (Fl.of y);rw[D]at s E
 have A:∀j:Nat,∀x,SR y (.eZ j) x->x=.int .u64 (eZ k j):=λj x F=>by have F:x=.int .u64 (eZ y.c j):=F;rw[F,K]
 by_cases f:c=k
 . subst f
   refine .inl ⟨rfl,_,_,iE z s (lf E) X.ym (A 0) (A 1) l.cw (l.fz 0),rfl,l.aZ c 1,rfl,?_⟩;have i:=C.w8 b τ (Fl.of y);rw[D]at i;obtain⟨t,d,B,G,H⟩:=mO (P:=P) (Wd:=Wd) (v:=tt) (x:=.bool true) (.inl ⟨_,s⟩) p z q rfl;obtain⟨I,u,M,N,O⟩:=mO (P:=P) (Wd:=Wd) (c:=W3 P n b τ (Fl.of y)) (v:=pt b 1) (x:=.pointer (some ⟨b,1,none⟩)) (.inr ⟨_,i⟩) p B G rfl;exact⟨_,(H cs).trans ((RV X hW1 (c:=W3 P n b τ (Fl.of y)) (cs:=cs) i B).AP.trans (O cs)),_,y,I,u,⟨rfl,r⟩,p,M,N,rfl⟩
 have J:¬eZ c 0=eZ k 0:=λe=>f ((Qt (by omega) (by omega)).1 e).1
 refine .inr ⟨f,_,iV z s (lf E) X.ym (A 0) (A 1) l.cw (l.fz 0) J,rfl,?_⟩;have i:=C.w7 b τ (Fl.of y);rw[D]at i;obtain⟨t,d,B,G,H⟩:=mO (P:=P) (Wd:=Wd) (v:=ff) (x:=.bool false) (.inl ⟨_,s⟩) p z q rfl;have Q:=B.keep [5];have R:=G.rP [[0]];refine⟨_,H cs,W1 P n b τ,y,t,d,rfl,p,?_,?_,rfl⟩
 . rw[<-i];exact Q
 rw[<-i];exact R
include C X in
def Yc(h:rR P n b τ .w3 cs g)(p:τ≠.early):∃j,stepG P main g w=.go j w #[⟨.mark (.write ⟨b,1,none⟩),false,true⟩]/\iX P n b τ Wd .w4 cs j:=by obtain⟨c,y,fr,φ,⟨rfl,k⟩,l,m,e,rfl⟩:=h;have q:=Gi (y:=y) (a:=false) (Cl k);obtain⟨f,o⟩:=C.w9 b τ (Fl.of y);rw[q]at f o;obtain⟨i,d,r,s,t⟩:=mO (P:=P) (Wd:=Wd) (v:=un) (x:=.tuple #[]) (.inl ⟨_,f⟩) l m e rfl;exact⟨_,fZ (λu g h=>by cases h) m f (by rw[o];exact p) X.wr,rfl,_,t cs,_,y,i,d,⟨rfl,k⟩,l,r,s,rfl⟩
include C X in
def Yd{c v m}(i:rQ b w c v m)(D:m≠0)(h:rR P n b τ .w4 cs g)(t:τ≠.early):
 ∃o w',stepG P main g w=.go o w' (semEvents ⟨b,1,none⟩)/\w'=w.setCell ⟨b,1,none⟩ (.int .u32 (m-1:Nat))/\rQ b w' c v (m-1)/\iX P n b τ Wd .w5 cs o:=by
 obtain⟨cf,y,fr,φ,⟨rfl,p⟩,q,r,j,rfl⟩:=h;have u:=Gi (y:=y) (a:=false) (Cl p);obtain⟨k,s⟩:=C.wa b τ (Fl.of y);rw[u]at k s;have d:=tw (main:=main) (cs:=φ++cs) (w:=w) (n:=(m:Int)) r k (by rw[s];exact t) X.Gb i.cs (by omega) (i.fz _);have e:((m:Int)-1)=((m-1:Nat):Int):=by omega
 rw[e]at d;obtain⟨l,f,z,A,B⟩:=mO (P:=P) (Wd:=Wd) (v:=un) (x:=.tuple #[]) (.inl ⟨_,k⟩) q r j rfl;exact⟨_,_,d,rfl,i.Gf (m-1),rfl,_,B cs,_,y,l,f,⟨rfl,p⟩,q,z,A,rfl⟩
include C X in
def VM{c v}(e:rQ b w c v 0)(h:rR P n b τ .w4 cs g):stepG P main g w=.go {g with status:=.blocked} w #[]:=by obtain⟨cf,y,fr,φ,⟨rfl,f⟩,m,i,j,rfl⟩:=h;have k:=Gi (y:=y) (a:=false) (Cl f);obtain⟨d,l⟩:=C.wa b τ (Fl.of y);rw[k]at d l;exact AU i d X.Gb e.cs
include C X in
def Ye{m}(r:rQ b w 0 0 m)(h:rR P n b τ .w5 cs g):∃k,stepG P main g w=.go k w #[⟨.cell ⟨b,0,none⟩,false,true⟩]/\iX P n b τ Wd .we cs k:=by obtain⟨c,y,fr,φ,⟨rfl,l⟩,o,p,e,rfl⟩:=h;have s:=Gi (y:=y) (a:=false) (Cl l);obtain⟨f,q⟩:=C.wb b τ (Fl.of y);rw[s]at f q;have i:=uR (main:=main) (cs:=φ++cs) p f (lf q) X.wJ r.cw;obtain⟨j,d,t,u,z⟩:=mO (P:=P) (Wd:=Wd) (v:=u64 0) (x:=.int .u64 0) (.inl ⟨_,f⟩) o p e rfl;exact⟨_,i,rfl,_,z cs,_,y,j,d,.inr ⟨rfl,l⟩,o,t,u,rfl⟩
end
structure mP(P:adT)(n:DW):Prop where
 lock:∃fn body,P.funcs[n.lock]?=some fn/\fn.body=some body/\fn.ntmps=6/\fn.results=#[]
 unlock:∃fn body,P.funcs[n.unlock]?=some fn/\fn.body=some body/\fn.ntmps=6/\fn.results=#[]
section
variable{P:adT}{n:DW}(C:ib P n)(X:ig P n)(F:mP P n){b o:Nat}{τ:adP}{Wd:adz}{cs:adE}{g:adJ}{w:World}{main:Bool}
include F in
def rS:∃a,tu P Wd (G (Frame.enter P n.lock #[.pointer (some ⟨b,o,none⟩)] τ) cs) a/\ow P n b o τ .ld cs a:=by obtain⟨fn,body,c,d,e,f⟩:=F.lock;exact Gg ⟨fn,body,c,d,e⟩
include F in
def pH:∃e,tu P Wd (G (Frame.enter P n.unlock #[.pointer (some ⟨b,o,none⟩)] τ) cs) e/\ow P n b o τ .H6 cs e:=by
 obtain⟨fn,body,f,g,q,r⟩:=F.unlock
 have j:FR y0 (dR P n.unlock [pt b o] τ) (Frame.enter P n.unlock #[.pointer (some ⟨b,o,none⟩)] τ):=tA f g rfl λi a h=>by
  match i with
  |0=>simp at h;subst h;exact⟨_,rfl,rfl⟩
  |i+1=>simp at h
 obtain⟨m,d,c,k,l,p⟩:=mq (Wd:=Wd) (P:=P) Gj 400 j (st:=[]) (φ:=[]) trivial;exact⟨_,⟨m,p cs⟩,_,y0,d,c,rfl,tx,k.keep [0,5],l.keep [],rfl⟩
include F in
def tB{c μ}(h:ow P n b o τ .back (c::μ) g)(e:τ≠.early):tu P Wd g (kH τ c μ (.tuple #[])):=by obtain⟨cf,y,fr,φ,rfl,l,i,a,rfl⟩:=h;obtain⟨fn,body,j,m,p,k⟩:=F.lock;have d:mM y [] φ:=a;obtain rfl:=d.mW;exact(lO (Wd:=Wd) (c:=c) (μ:=μ) (s:=(BK n τ).1) (f:=n.lock) i (by simp[BK,kL]) j k e).AP
include F in
def my{c μ}(h:ow P n b o τ .D5 (c::μ) g)(e:τ≠.early):tu P Wd g (kH τ c μ (.tuple #[])):=by obtain⟨cf,y,fr,φ,rfl,l,i,a,rfl⟩:=h;obtain⟨fn,body,j,m,p,k⟩:=F.unlock;have d:mM y [] φ:=a;obtain rfl:=d.mW;exact(lO (Wd:=Wd) (c:=c) (μ:=μ) (s:=(Vy n τ).1) (f:=n.unlock) i (by simp[Vy,kL]) j k e).AP
end
