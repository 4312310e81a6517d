import Derived.Conc.QuitsD
import Derived.Test.YtggpckcdfilkoaaGreatDoorC8
set_option linter.all false
namespace Go.bu
open Go.Conc
inductive NX where
 |a0|a2|a4|ae
 |d1|d2|d4|d5|d6|d7
 |w0|w1|we|wa|w2 (c:Nat)|w3|w4|w5
structure xZ  b  (w:World) (c v m:Nat):Prop where
 cw:w.cell? ⟨b,0,none⟩=some (.int .u64 (ju c v))
 cs:w.cell? ⟨b,1,none⟩=some (.int .u32 m)
 fz:∀i,w.frozen? ⟨b,i,none⟩=false
def xZ.bW{b w c v m}(h:xZ b w c v m)(c' a:Nat):xZ b (w.setCell ⟨b,0,none⟩ (.int .u64 (ju c' a))) c' a m:=⟨pJ h.cw,by rw[gZ ap];exact h.cs,λi=>by rw[uW];exact h.fz i⟩
def xZ.LX{b w c v m}(h:xZ b w c v m)(a:Nat):xZ b (w.setCell ⟨b,1,none⟩ (.int .u32 a)) c v a:=⟨by rw[gZ ap];exact h.cw,pJ h.cs,λi=>by rw[uW];exact h.fz i⟩
section
variable(P:Rg)(n:W6)(b:Nat)(ν:FB)
def GtC(p:NX)(c:fq)(y:Sy):Prop:=
 match p with
 |.a0=>c=A0 P n b ν
 |.a2=>c=A2 P n b ν
 |.a4=>c=A4 P n b ν (Fl.of y)/\y.c=1
 |.ae=>y.c≠0/\((c=A5 P n b ν (Fl.of y)/\y.c=1)\/(c=A3 P n b ν (Fl.of y)/\y.c≠1))
 |.d1=>c=D1 P n b
 |.d2=>c=D2 P n b
 |.d4=>c=D4 P n b
 |.d5=>c=DE P n b (Fl.of y) 1/\y.c=0
 |.d6=>c=D6 P n b (Fl.of y)/\y.c=0
 |.d7=>c=D7 P n b (Fl.of y)/\y.c=0
 |.w0=>c=W0 P n b ν
 |.w1=>c=W1 P n b ν
 |.we=>(c=WE P n b ν (Fl.of y)/\y.c=0)\/(c=Mw P n b ν (Fl.of y)/\y.c≠0)
 |.wa=>(c=WA P n b ν (Fl.of y)/\y.c=0)\/(c=Mz P n b ν (Fl.of y)/\y.c≠0)
 |.w2 k=>c=WE P n b ν (Fl.of y)/\y.c=k/\k≠0
 |.w3=>c=Na P n b ν (Fl.of y)/\y.c≠0
 |.w4=>c=W4 P n b ν (Fl.of y)/\y.c≠0
 |.w5=>c=W5 P n b ν (Fl.of y)/\y.c≠0
def ya(p:NX)(cs:E8)(g:YB):Prop:=∃c y fr ψ,GtC P n b ν p c y/\y.ok/\FR y c.1 fr/\sn y c.2 ψ/\g=G fr (ψ++cs)
def mQ(Wd:FD)(p:NX)(cs:E8)(a:YB):Prop:=a.status=.running/\∃c,ze P Wd a c/\ya P n b ν p cs c
end
def ya.running{P n b ν p cs g}(h:ya P n b ν p cs g):g.status=.running/\g.offers=none:=by obtain⟨c,y,fr,ψ,_,_,_,_,rfl⟩:=h;exact⟨rfl,rfl⟩
def Ge{s v}(h:(∃x,ck s=some x)\/(∃x,qh s=some x)):∃s',Dr s v=some s':=by
 unfold Dr;rcases h with⟨x,h⟩|⟨x,h⟩
 . unfold ck at h
   split at h
   . simp_all
   grind
 . unfold qh at h
   split at h
   . simp_all
   grind
section
variable{P:Rg}{Wd:FD}{y:Sy}{c:fq}{v:SV}{x:Value}{fr:Frame}{ψ:E8}
def sx(h:(∃x,ck c.1=some x)\/(∃x,qh c.1=some x))(f:y.ok)(g:FR y c.1 fr)(d:sn y c.2 ψ)(i:SR y v x):
 ∃b a,FR y (next P (Fl.of y) c v).1 b/\sn y (next P (Fl.of y) c v).2 a/\∀cs,ze P Wd (G (fr.finish x) (ψ++cs)) (G b (a++cs)):=by
 obtain⟨n,e⟩:=Ge  h;obtain⟨m,b,a,j,k,l⟩:=ry  (Fl.Jo f) 400  (g.fin e i) d;unfold next
 rw[e];exact⟨b,a,j,k,λcs=>⟨m,l cs⟩⟩
def LZ(h:(∃x,ck c.1=some x)\/(∃x,qh c.1=some x))(g:FR y c.1 fr)(d:sn y c.2 ψ)(i:c.1.env.all plain=true)(e:c.2.all (·.env.all plain)=true)(j:∀y,SR y v x):
 ∃b a,FR y0 (next P qO c v).1 b/\sn y0 (next P qO c v).2 a/\∀cs,ze P Wd (G (fr.finish x) (ψ++cs)) (G b (a++cs)):=by
 obtain⟨p,f⟩:=Ge  h;have k:qO.At y0:=⟨be,be,rfl,rfl,rfl,rfl,rfl,be⟩;obtain⟨m,b,a,l,n,o⟩:=ry  k 400  ((g.lG i).fin f (j y0)) (d.lG e);unfold next
 rw[f];exact⟨b,a,l,n,λcs=>⟨m,o cs⟩⟩
end
def sn.xY{y}:∀{st ψ}  ls ,sn y st ψ->sn y (Go.bu.xY st ls) ψ
 |[],ψ,ls,h=>by trivial
 |s::st,ψ,[],h=>by obtain⟨f,a,rfl,b,c⟩:=h.cons_inv;exact⟨b.keep [],c.xY []⟩
 |s::st,ψ,l::ls,h=>by obtain⟨f,a,rfl,b,c⟩:=h.cons_inv;exact⟨b.keep l,c.xY ls⟩
def f10{y a c}(b:decide (y.c=1)=a)(d:decide (y.c=0)=c):f0 (f1 (Fl.of y) a) c=Fl.of y:=by subst b;subst d;rfl
def PV{y a}(b:decide (y.c=1)=a):f1 (Fl.of y) a=Fl.of y:=by subst b;rfl
def L0{y a}(b:decide (y.c=0)=a):f0 (Fl.of y) a=Fl.of y:=by subst b;rfl
def qm{c}(h:CC c=true):c.1.kind≠.early:=by
 unfold CC at h
 grind
section
variable{P:Rg}{n:W6}(C:lH P n)(X:mP P n){b:Nat}{ν:FB}{Wd:FD}{cs:E8}{g:YB}{w:World}{γ:Bool}
variable(hW0:∀w,Wd w->∃v,w.cell? ⟨b,0,none⟩=some v)(hW1:∀w,Wd w->∃v,w.cell? ⟨b,1,none⟩=some v)
include X hW1 in
def YR{y}{c:fq}{fr ψ}(h:qh c.1=some (n.tS,n.tU,pt b 1))(a:FR y c.1 fr):zd P Wd (G fr (ψ++cs)) (G (fr.finish (.pointer (some ⟨b,1,none⟩))) (ψ++cs)):=by obtain⟨t,d,e,f⟩:=X.tyS;exact⟨rfl,λγ w g=>AS a h d e f (hW1 w g)⟩
include X hW0 in
def Ss{y}{c:fq}{fr ψ}(h:qh c.1=some (n.tG,n.tU,pt b 0))(a:FR y c.1 fr):zd P Wd (G fr (ψ++cs)) (G (fr.finish (.pointer (some ⟨b,0,none⟩))) (ψ++cs)):=by obtain⟨t,d,e,f⟩:=X.tyG;exact⟨rfl,λγ w g=>AS a h d e f (hW0 w g)⟩
def zk{f args rA y fn body}(b:P.funcs[f]?=some fn)(c:fn.body=some body)(d:args.length=rA.size)(e:∀(i:Nat) a,args[i]?=some a->∃x,rA[i]?=some x/\SR y a x):FR y (ia P f args ν) (Frame.enter P f rA ν):=by
 refine⟨by simp[ia,b,Frame.enter],by simp[ia,b,c,Frame.enter],by simp[ia,b,Frame.enter],by simp[ia,b,Frame.enter,Jh.of],by simp[ia,b,Frame.enter],rfl,by simp[ia,b,Frame.enter,d],λt=>?_⟩;simp only[ia,b,Frame.enter,IP];rw[Array.getD_eq_getD_getElem?,sg];by_cases g:t<args.length
 . grind
 . rw[Mr ac,Fi ac,List.getElem?_replicate]
   split<;>trivial
include X in
def akS:∃e,ze P Wd (G (Frame.enter P n.add #[.pointer (some ⟨b,0,none⟩),.int .i64 1] ν) cs) e/\ya P n b ν .a0 cs e:=by
 obtain⟨fn,body,f,g,q,r⟩:=X.ZP
 have j:FR y0 (ia P n.add [pt b 0,i64 1] ν) (Frame.enter P n.add #[.pointer (some ⟨b,0,none⟩),.int .i64 1] ν):=zk f g rfl λi a h=>by
  match i with
  |0=>simp at h;subst h;exact⟨_,rfl,rfl⟩
  |1=>simp at h;subst h;exact⟨_,rfl,rfl⟩
  |i+2=>simp at h
 have k:qO.At y0:=⟨be,be,rfl,rfl,rfl,rfl,rfl,be⟩;obtain⟨m,d,c,l,o,p⟩:=ry (Wd:=Wd) (P:=P) k 400 j (st:=[]) (ψ:=[]) trivial;exact⟨_,⟨m,p cs⟩,_,y0,d,c,rfl,zh,l,o,rfl⟩
def L1:qO.At y0:=⟨be,be,rfl,rfl,rfl,rfl,rfl,be⟩
include X in
def wy(C:lH P n):∃e,ze P Wd (G (Frame.enter P n.wait #[.pointer (some ⟨b,0,none⟩)] ν) cs) e/\ya P n b ν .w0 cs e:=by
 obtain⟨fn,body,f,g,p,q⟩:=X.Sr
 have j:FR y0 (ia P n.wait [pt b 0] ν) (Frame.enter P n.wait #[.pointer (some ⟨b,0,none⟩)] ν):=zk f g rfl λi a h=>by
  match i with
  |0=>simp at h;subst h;exact⟨_,rfl,rfl⟩
  |i+1=>simp at h
 obtain⟨m,d,c,k,l,o⟩:=ry (Wd:=Wd) (P:=P) L1 400 j (st:=[]) (ψ:=[]) trivial;exact⟨_,⟨m,o cs⟩,_,y0,d,c,rfl,zh,k.keep [0],l.xY [],rfl⟩
include X hW0 in
def abh(C:lH P n):∃f,ze P Wd (G (Frame.enter P n.done #[.pointer (some ⟨b,0,none⟩)] .deferred) cs) f/\ya P n b ν .d1 cs f:=by
 obtain⟨fn,body,l,o,A,B⟩:=X.Sq
 have p:FR y0 (ia P n.done [pt b 0] .deferred) (Frame.enter P n.done #[.pointer (some ⟨b,0,none⟩)] .deferred):=zk l o rfl λi a h=>by
  match i with
  |0=>simp at h;subst h;exact⟨_,rfl,rfl⟩
  |i+1=>simp at h
 obtain⟨m,q,g,j,r,s⟩:=ry (Wd:=Wd) (P:=P) L1 400 p (st:=[]) (ψ:=[]) trivial;obtain⟨k,t,u⟩:=C.d0 b;obtain⟨e,d,w,y,z⟩:=LZ (P:=P) (Wd:=Wd) (c:=D0 P n b) (v:=pt b 0) (x:=.pointer (some ⟨b,0,none⟩)) (.inr ⟨_,k⟩) j r t u (λ_=>rfl);exact⟨_,ze.trans ⟨m,s cs⟩ (ze.trans (Ss X hW0 (cs:=cs) k j).F7 (z cs)),_,y0,e,d,rfl,zh,w,y,rfl⟩
include C X in
def aeI(h:ya P n b ν .a0 cs g)(j:ν≠.early):∃k,stepG P γ g w=.go k w #[⟨.mark .disable,false,true⟩]/\mQ P n b ν Wd .a2 cs k:=by
 obtain⟨c,y,fr,ψ,rfl,I,l,f,rfl⟩:=h;obtain⟨m,q,r,t⟩:=C.a0 b ν;obtain⟨o,u,z,A⟩:=C.a1 b ν;refine⟨_,jK Sl l m (by rw[t];exact j) X.om,rfl,?_⟩;obtain⟨d,a,p,B,D⟩:=LZ (P:=P) (Wd:=Wd) (v:=un) (x:=.tuple #[]) (.inl ⟨_,m⟩) l f q (by rw[r];rfl) (λ_=>rfl);obtain⟨i,e,E,F,H⟩:=LZ (P:=P) (Wd:=Wd) (c:=A1 P n b ν) (v:=ff) (x:=.bool false) (.inl ⟨_,o⟩) p B u (by rw[z];rfl) (λ_=>rfl);have hb:zd P Wd (G d (a++cs)) (G (d.finish (.bool false)) (a++cs)):=⟨rfl,λγ w _=>AR (s:=(A1 P n b ν).1) p o (by rw[A];exact j) X.W8⟩;exact⟨_,(D cs).trans (hb.F7.trans (H cs)),_,y0,i,e,rfl,zh,E,F,rfl⟩
include C X hW1 in
def aeJ{c v m:Nat}(o:xZ b w c 0 m)(L:c<1000)(h:ya P n b ν .a2 cs g):
 ∃p w',stepG P γ g w=.go p w' #[⟨.cell ⟨b,0,none⟩,false,true⟩,⟨.cell ⟨b,0,none⟩,true,true⟩]/\w'=w.setCell ⟨b,0,none⟩ (.int .u64 (ju (c+1:Nat) 0))/\xZ b w' (c+1) 0 m/\(mQ P n b ν Wd .a4 cs p\/mQ P n b ν Wd .ae cs p):=by
 obtain⟨cf,y,fr,ψ,rfl,M,z,q,rfl⟩:=h;obtain⟨A,E,F,G⟩:=C.a2 b ν
 have e:IntKind.u64.wrap (ju c 0+4294967296)=ju (c+1:Nat) 0:=by
  rw[pP (by unfold ju;omega) (by unfold ju;omega)];unfold ju;push_cast;omega
 have i:=wv (γ:=γ) (cs:=ψ++cs) (w:=w) z A (qm E) X.zi (λx h=>h) o.cw (o.fz 0);rw[e]at i;have d:({y0 with c:=((c+1:Nat):Int)}:Sy).ok:=⟨by show(0:Int)<=2/\(2:Int)<=1000;decide,by show(0:Int)<=((c+1:Nat):Int)/\((c+1:Nat):Int)<=1000;omega⟩;have r:((c+1:Nat):Int)≠0:=ac
 obtain⟨s,j,t,B,D⟩:=sx (P:=P) (Wd:=Wd) (y:={y0 with c:=((c+1:Nat):Int)}) (v:=.ju 0) (x:=.int .u64 (ju (c+1:Nat) 0)) (.inl ⟨_,A⟩) d (z.lG F) (q.lG G) rfl;refine⟨_,_,i,rfl,o.bW (c+1) 0,?_⟩;by_cases f:((c+1:Nat):Int)=1
 . left
   have H:=PV (y:={y0 with c:=((c+1:Nat):Int)}) (a:=true) (by simpa using f);have k:=C.a3 b ν (Fl.of {y0 with c:=((c+1:Nat):Int)});rw[H]at k;obtain⟨u,l,I,J,K⟩:=sx (P:=P) (Wd:=Wd) (v:=pt b 1) (x:=.pointer (some ⟨b,1,none⟩)) (.inr ⟨_,k⟩) d t B rfl;exact⟨rfl,_,(D cs).trans ((YR X hW1 (cs:=cs) k t).F7.trans (K cs)),_,_,u,l,⟨rfl,f⟩,d,I,J,rfl⟩
 . right
   exact⟨rfl,_,D cs,_,_,s,j,⟨r,.inr ⟨rfl,f⟩⟩,d,t,B,rfl⟩
end
section
variable{P:Rg}{n:W6}(C:lH P n)(X:mP P n){b:Nat}{ν:FB}{Wd:FD}{cs:E8}{g:YB}{w:World}{γ:Bool}
variable(hW0:∀w,Wd w->∃v,w.cell? ⟨b,0,none⟩=some v)(hW1:∀w,Wd w->∃v,w.cell? ⟨b,1,none⟩=some v)
def HE{y:Sy}(h:y.c≠0):decide (y.c=0)=false:=am
include C X in
def aeK(h:ya P n b ν .a4 cs g)(p:ν≠.early):∃k,stepG P γ g w=.go k w #[⟨.mark (.read ⟨b,1,none⟩),false,true⟩]/\mQ P n b ν Wd .ae cs k:=by
 obtain⟨c,y,fr,ψ,⟨rfl,e⟩,l,m,f,rfl⟩:=h;have q:=PV (y:=y) (a:=true) (by simpa using e);obtain⟨i,o⟩:=C.a4 b ν (Fl.of y);rw[q]at i o;obtain⟨j,d,r,s,t⟩:=sx (P:=P) (Wd:=Wd) (v:=un) (x:=.tuple #[]) (.inl ⟨_,i⟩) l m f rfl;exact⟨_,kq (λu g h=>by cases h) m i (by rw[o];exact p) X.rd,rfl,_,t cs,_,y,j,d,⟨by rw[e];decide,.inl ⟨rfl,e⟩⟩,l,r,s,rfl⟩
include C X in
def aeL {e μ} (h:ya P n b ν .ae (e :: μ) g) (t:ν ≠ .early):∃ d,stepG P γ g w = .go d w #[⟨.mark .enable,false,true⟩]∧d.status = .running∧ze P Wd d (qz ν e μ (.tuple #[])):=by
 obtain⟨c,y,fr,ψ,⟨f,i⟩,E,u,j,rfl⟩:=h;obtain⟨fn,body,f1,F,H,v⟩:=X.ZP
 have key:yp c.1=some n.en->c.2=[]->c.1.kind=ν->c.1.fn=n.add->∃ d,stepG P γ (G fr (ψ ++ e :: μ)) w = .go d w #[⟨.mark .enable,false,true⟩]∧d.status = .running∧ze P Wd d (qz ν e μ (.tuple #[])):=fun q x s z=>by
  rw[x] at j;obtain rfl:=j.uS;obtain⟨A,B⟩:=HC (γ:=γ) (cs:=[] ++ e :: μ) (w:=w) u q X.en
  have k:pQ ({ c.1 with defers:=[] }:vS) n.add=true:=by
   unfold pQ;unfold yp at q;split at q
   . rename_i g cap as D hd;simp[D,z]
   . cases q
  refine⟨_,A,rfl,?_⟩;have:=qQ (Wd:=Wd) (c:=e) (μ:=μ) B k f1 v (by show c.1.kind≠_;rw[s];exact t)
  rw[show ({ c.1 with defers:=[] }:vS).kind=ν from s] at this
  exact this.F7
 rcases i with ⟨rfl,i⟩|⟨rfl,i⟩
 . have r:=f10 (y:=y) (a:=true) (c:=false) (by simpa using i) (HE f)
   obtain⟨l,m,o,p⟩:=C.a5 b ν (Fl.of y);rw[r] at l m o p;exact key l m o p
 . have r:=f10 (y:=y) (a:=false) (c:=false) (by simpa using i) (HE f)
   obtain⟨l,m,o,p⟩:=C.a6 b ν (Fl.of y);rw[r] at l m o p;exact key l m o p
include C X in
def aeM(h:ya P n b ν .d1 cs g):∃f,stepG P γ g w=.go f w #[⟨.mark (.releaseMerge ⟨b,0,none⟩),false,true⟩]/\mQ P n b ν Wd .d2 cs f:=by
 obtain⟨c,y,fr,ψ,rfl,r,i,d,rfl⟩:=h;obtain⟨j,k,l,m⟩:=C.d1 b;obtain⟨e,a,o,p,q⟩:=LZ (P:=P) (Wd:=Wd) (v:=un) (x:=.tuple #[]) (.inl ⟨_,j⟩) i d l m (λ_=>rfl);exact⟨_,kq (λs g h=>by cases h) i j (qm k) X.rel,rfl,_,q cs,_,y0,e,a,rfl,zh,o,p,rfl⟩
include C X in
def aeN(h:ya P n b ν .d2 cs g):∃j,stepG P γ g w=.go j w #[⟨.mark .disable,false,true⟩]/\mQ P n b ν Wd .d4 cs j:=by
 obtain⟨c,y,fr,ψ,rfl,H,k,f,rfl⟩:=h;obtain⟨l,p,q,r⟩:=C.d2 b;obtain⟨m,t,u,z⟩:=C.d3 b;refine⟨_,jK Sl k l (qm p) X.om,rfl,?_⟩;obtain⟨d,a,o,A,B⟩:=LZ (P:=P) (Wd:=Wd) (v:=un) (x:=.tuple #[]) (.inl ⟨_,l⟩) k f q r (λ_=>rfl);obtain⟨i,e,D,E,F⟩:=LZ (P:=P) (Wd:=Wd) (c:=D3 P n b) (v:=ff) (x:=.bool false) (.inl ⟨_,m⟩) o A u z (λ_=>rfl);have hb:zd P Wd (G d (a++cs)) (G (d.finish (.bool false)) (a++cs)):=⟨rfl,λγ w _=>AR (s:=(D3 P n b).1) o m (qm t) X.W8⟩;exact⟨_,(B cs).trans (hb.F7.trans (F cs)),_,y0,i,e,rfl,zh,D,E,rfl⟩
def qo(P:Rg)(a:FuncId)(τ:E7)(todo:AJ):Frame:=⟨a,τ,todo,[],.returning,.deferred,none⟩
def fy(P:Rg):Frame:={(default:Frame)with fn:=P.funcs.size,defers:=[],mode:=.panicking [goexitEntry]}
def AX{a fn τ todo}(b:P.funcs[a]?=some fn)(c:fn.results=#[]):QuitsD P 2 0 (G (qo P a τ todo) [fy P]):=by
 refine .ctl (g':=G (fy P) []) rfl (λw=>?_) (.ctl (g':={G (fy P) []with status:=.finished}) rfl (λw=>?_) ⟨rfl,rfl⟩)
 . simp[G,stepG,unwind,b,results,c,qo,fy]
   rfl
 . have d:(fy P).catches P=false:=by
    simp[Frame.catches,fy];rfl
   simp[G,stepG,unwind,fy,goexitEntry]at d ⊢;omega
def AY{d}:∀{m k a c},n8 P (λ_=>True) m a c->QuitsD P k d c->QuitsD P (k+m) d a
 |0,k,a,c,h,b=>by obtain rfl:=h;omega
 |m+1,k,a,c,h,b=>by obtain⟨g,⟨e,i⟩,f⟩:=h;exact .ctl e am (AY f b)
include X in
def Dw{c y fr ψ a fn τ todo}(o:P.funcs[a]?=some fn)(b:fn.results=#[])(p:y.ok)(j:FR y c.1 fr)(e:sn y c.2 ψ)
 (k:yp c.1=some n.en) (q:pQ (su P (Fl.of y) c).1 n.done=true) (r:(su P (Fl.of y) c).2=[]) (l:(su P (Fl.of y) c).1.kind=.deferred):∃m,QuitsD P m 1 (G fr (ψ++[qo P a τ todo,fy P])):=by
 obtain⟨_,f⟩:=HC (P:=P) (γ:=false) (cs:=ψ++[qo P a τ todo,fy P]) (w:=default) j k X.en;obtain⟨m,g,d,s,t,u⟩:=ry (Wd:=λ_=>True) (P:=P) (Fl.Jo p) 400 f e
 have h:sn y [] d:=by rw[<-r];exact t
 obtain rfl:=h.uS;obtain⟨fd,body,v,B,C,x⟩:=X.Sq;have hb:=qQ (Wd:=λ_=>True) (c:=qo P a τ todo) (μ:=[fy P]) s q v x (by show(su P (Fl.of y) c).1.kind≠_;rw[l];decide)
 have i:qz (sgo P (Fl.of y) 400 {c.1 with defers:=[]} c.2).1.kind (qo P a τ todo) [fy P] (.tuple #[])=G (qo P a τ todo) [fy P]:=by rw[show(sgo P (Fl.of y) 400 {c.1 with defers:=[]} c.2).1.kind=.deferred from l];rfl
 rw[i]at hb;have z:QuitsD P (2+1) 0 (G g [qo P a τ todo,fy P]):=.ctl rfl (λw=>hb.2 false w trivial) (AX o b)
 have A:=AY (u [qo P a τ todo,fy P]) z;exact⟨_,.said ⟨.mark .enable,false,true⟩ rfl rfl (λw=>(HC (P:=P) (γ:=false) (cs:=ψ++[qo P a τ todo,fy P]) (w:=w) j k X.en).1) A⟩
def Gone(P:Rg)(Wd:FD)(a:YB):Prop:=∃m,QuitsD P m 1 a
def HF{m k a c}(h:n8 P (λ_=>True) m a c)(b:QuitsD P k 1 c):Gone P Wd a:=⟨_,AY h b⟩
include C X in
def aeO{k v m o fn τ todo}(N:P.funcs[o]?=some fn)(f:fn.results=#[])(G:xZ b w (k+1) v m)(R:k<1000)(S:v<=1)(h:ya P n b ν .d4 [qo P o τ todo,fy P] g):
 ∃H w',stepG P γ g w=.go H w' #[⟨.cell ⟨b,0,none⟩,false,true⟩,⟨.cell ⟨b,0,none⟩,true,true⟩]/\w'=w.setCell ⟨b,0,none⟩ (.int .u64 (ju k v))/\xZ b w' k v m/\((k=0/\v=1/\mQ P n b ν Wd .d5 [qo P o τ todo,fy P] H)\/(¬(k=0/\v=1)/\Gone P Wd H)):=by
 obtain⟨cf,y,fr,ψ,rfl,T,E,i,rfl⟩:=h;obtain⟨F,O,I,J⟩:=C.d4 b
 have e:IntKind.u64.wrap (ju (k+1:Nat) v+18446744069414584320)=ju k v:=by
  have:ju (k+1:Nat) v+18446744069414584320=ju k v+18446744073709551616:=by unfold ju;push_cast;omega
  rw[this];simp[IntKind.wrap,IntKind.bits,IntKind.signed];unfold ju;omega
 have p:=wv (γ:=γ) (cs:=ψ++[qo P o τ todo,fy P]) (w:=w) E F (qm O) X.zi (λx h=>h) G.cw (G.fz 0)
 rw[e]at p;have a:({y0 with c:=(k:Int)}:Sy).ok:=⟨by show(0:Int)<=2/\(2:Int)<=1000;decide,by show(0:Int)<=(k:Int)/\(k:Int)<=1000;omega⟩
 refine⟨_,_,p,rfl,G.bW k v,?_⟩;have q:v=0\/v=1:=ac
 rcases q with rfl|rfl
 . refine .inr ⟨ac,?_⟩
   obtain⟨l,d,r,s,t⟩:=sx (P:=P) (Wd:=λ_=>True) (y:={y0 with c:=(k:Int)}) (v:=.ju 0) (x:=.int .u64 (ju k 0)) (.inl ⟨_,F⟩) a (E.lG I) (i.lG J) rfl
   have u:=C.d5 b (Fl.of {y0 with c:=(k:Int)}) (decide ((k:Int)=0))
   obtain⟨z,A,B⟩:=C.d5b b (Fl.of {y0 with c:=(k:Int)}) (decide ((k:Int)=0))
   rw[L0 rfl]at u z A B;obtain⟨Q,K⟩:=Dw X N f a r s u z A B;obtain⟨j,L⟩:=t [qo P o τ todo,fy P];exact HF L K
 . by_cases D:k=0
   . refine .inl ⟨D,rfl,?_⟩
     obtain⟨l,d,r,s,t⟩:=sx (P:=P) (Wd:=Wd) (y:={y0 with c:=(k:Int)}) (v:=.ju 1) (x:=.int .u64 (ju k 1)) (.inl ⟨_,F⟩) a (E.lG I) (i.lG J) rfl
     exact⟨rfl,_,t _,_,_,l,d,⟨rfl,by show(k:Int)=0;omega⟩,a,r,s,rfl⟩
   . refine .inr ⟨ac,?_⟩
     obtain⟨l,d,r,s,t⟩:=sx (P:=P) (Wd:=λ_=>True) (y:={y0 with c:=(k:Int)}) (v:=.ju 1) (x:=.int .u64 (ju k 1)) (.inl ⟨_,F⟩) a (E.lG I) (i.lG J) rfl
     have M:decide ((k:Int)=0)=false:=by simpa using D
     have u:=C.d6 b (Fl.of {y0 with c:=(k:Int)})
     obtain⟨z,A,B⟩:=C.d6b b (Fl.of {y0 with c:=(k:Int)})
     rw[L0 M]at u z A B;obtain⟨Q,K⟩:=Dw X N f a r s u z A B;obtain⟨j,L⟩:=t [qo P o τ todo,fy P];exact HF L K
include C X in
def aeP{m}(q:xZ b w 0 1 m)(h:ya P n b ν .d5 cs g):∃k,stepG P γ g w=.go k w #[⟨.cell ⟨b,0,none⟩,false,true⟩]/\mQ P n b ν Wd .d6 cs k:=by
 obtain⟨c,y,fr,ψ,⟨rfl,e⟩,l,o,f,rfl⟩:=h;have r:=L0 (y:=y) (a:=true) (by simpa using e)
 obtain⟨i,p⟩:=C.d7 b (Fl.of y);rw[r]at i p;have s:SR y (.ju 1) (.int .u64 (ju 0 1)):=by show _=Value.int .u64 (ju y.c 1);rw[e]
 obtain⟨j,d,t,u,v⟩:=sx (P:=P) (Wd:=Wd) (.inl ⟨_,i⟩) l o f s;exact⟨_,AW o i (qm p) X.Co q.cw,rfl,_,v cs,_,y,j,d,⟨rfl,e⟩,l,t,u,rfl⟩
include C X in
def aeQ{m}(e:xZ b w 0 1 m)(h:ya P n b ν .d6 cs g):∃k w',stepG P γ g w=.go k w' #[⟨.cell ⟨b,0,none⟩,true,true⟩]/\w'=w.setCell ⟨b,0,none⟩ (.int .u64 (ju 0 0))/\xZ b w' 0 0 m/\mQ P n b ν Wd .d7 cs k:=by
 obtain⟨c,y,fr,ψ,⟨rfl,l⟩,o,p,f,rfl⟩:=h;have r:=L0 (y:=y) (a:=true) (by simpa using l);obtain⟨i,q⟩:=C.d8 b (Fl.of y);rw[r]at i q;obtain⟨j,d,s,t,u⟩:=sx (P:=P) (Wd:=Wd) (v:=un) (x:=.tuple #[]) (.inl ⟨_,i⟩) o p f rfl;exact⟨_,_,ajs p i (qm q) X.O9 e.cw (e.fz 0),rfl,e.bW 0 0,rfl,_,u cs,_,y,j,d,⟨rfl,l⟩,o,s,t,rfl⟩
include C X in
def aeR{v m k fn τ todo}(E:P.funcs[k]?=some fn)(d:fn.results=#[])(l:xZ b w 0 v m)(M:m<=1000)(h:ya P n b ν .d7 [qo P k τ todo,fy P] g):
 ∃q w',stepG P γ g w=.go q w' (semEvents ⟨b,1,none⟩)/\w'=w.setCell ⟨b,1,none⟩ (.int .u32 (m+1:Nat))/\xZ b w' 0 v (m+1)/\Gone P Wd q:=by
 obtain⟨c,y,fr,ψ,⟨rfl,F⟩,r,s,o,rfl⟩:=h;have f:=L0 (y:=y) (a:=true) (by simpa using F)
 obtain⟨p,t⟩:=C.d9 b (Fl.of y);rw[f]at p t;have i:=uU (γ:=γ) (cs:=ψ++[qo P k τ todo,fy P]) (w:=w) s p (qm t) X.uV l.cs (l.fz 1);have e:IntKind.u32.wrap ((m:Int)+1)=((m+1:Nat):Int):=by rw[IntKind.wrap_u32];omega
 rw[e]at i;obtain⟨G,u,H,I,J⟩:=sx (P:=P) (Wd:=λ_=>True) (v:=un) (x:=.tuple #[]) (.inl ⟨_,p⟩) r s o rfl
 have z:=C.da b (Fl.of y);obtain⟨A,B,D⟩:=C.db b (Fl.of y);rw[f]at z A B D;obtain⟨N,K⟩:=Dw X E d r H I z A B D;obtain⟨j,L⟩:=J [qo P k τ todo,fy P];exact⟨_,_,i,rfl,l.LX (m+1),HF L K⟩
end
section
variable{P:Rg}{n:W6}(C:lH P n)(X:mP P n){b:Nat}{ν:FB}{Wd:FD}{cs:E8}{g:YB}{w:World}{γ:Bool}
variable(hW0:∀w,Wd w->∃v,w.cell? ⟨b,0,none⟩=some v)(hW1:∀w,Wd w->∃v,w.cell? ⟨b,1,none⟩=some v)
include C X in
def aeS(h:ya P n b ν .w0 cs g)(k:ν≠.early):∃f,stepG P γ g w=.go f w #[⟨.mark .disable,false,true⟩]/\mQ P n b ν Wd .w1 cs f:=by
 obtain⟨c,y,fr,ψ,rfl,s,i,d,rfl⟩:=h;obtain⟨j,l,m,o⟩:=C.w0 b ν;obtain⟨e,a,p,q,r⟩:=LZ (P:=P) (Wd:=Wd) (v:=un) (x:=.tuple #[]) (.inl ⟨_,j⟩) i d l (by rw[m];rfl) (λ_=>rfl);exact⟨_,jK Sl i j (by rw[o];exact k) X.om,rfl,_,r cs,_,y0,e,a,rfl,zh,p.keep [5],q.xY [[0]],rfl⟩
include C X in
def aeT{c m}(r:xZ b w c 0 m)(z:c<=1000)(h:ya P n b ν .w1 cs g):
 ∃f,stepG P γ g w=.go f w #[⟨.cell ⟨b,0,none⟩,false,true⟩]/\((c=0/\mQ P n b ν Wd .we cs f)\/(c≠0/\mQ P n b ν Wd (.w2 c) cs f)):=by
 obtain⟨cf,y,fr,ψ,rfl,A,k,i,rfl⟩:=h;obtain⟨l,s,t,u⟩:=C.w1 b ν;have d:({y0 with c:=(c:Int)}:Sy).ok:=⟨by show(0:Int)<=2/\(2:Int)<=1000;decide,by show(0:Int)<=(c:Int)/\(c:Int)<=1000;omega⟩;obtain⟨e,a,o,p,q⟩:=sx (P:=P) (Wd:=Wd) (y:={y0 with c:=(c:Int)}) (v:=.ju 0) (x:=.int .u64 (ju c 0)) (.inl ⟨_,l⟩) d (k.lG t) (i.lG u) rfl;refine⟨_,AW k l (qm s) X.Co r.cw,?_⟩;by_cases j:c=0
 . exact .inl ⟨j,rfl,_,q cs,_,_,e,a,.inl ⟨rfl,by show(c:Int)=0;omega⟩,d,o,p,rfl⟩
 . exact .inr ⟨j,rfl,_,q cs,_,_,e,a,⟨rfl,rfl,j⟩,d,o,p,rfl⟩
include C X hW0 in
def aeU(h:ya P n b ν .we cs g)(D:ν≠.early):∃E,stepG P γ g w=.go E w #[⟨.mark .enable,false,true⟩]/\mQ P n b ν Wd .wa cs E:=by
 obtain⟨c,y,fr,ψ,e,k,q,l,rfl⟩:=h;rcases e with⟨rfl,e⟩|⟨rfl,e⟩
 . have r:=L0 (y:=y) (a:=true) (by simpa using e)
   obtain⟨f,m⟩:=C.w2 b ν (Fl.of y);have i:=C.w3 b ν (Fl.of y);rw[r]at f m i;obtain⟨s,o,p,t,u⟩:=sx (P:=P) (Wd:=Wd) (v:=un) (x:=.tuple #[]) (.inl ⟨_,f⟩) k q l rfl;obtain⟨j,d,z,A,B⟩:=sx (P:=P) (Wd:=Wd) (c:=WC P n b ν (Fl.of y)) (v:=pt b 0) (x:=.pointer (some ⟨b,0,none⟩)) (.inr ⟨_,i⟩) k p t rfl;exact⟨_,jK Sm q f (by rw[m];exact D) X.en,rfl,_,(u cs).trans ((Ss X hW0 (c:=WC P n b ν (Fl.of y)) (cs:=cs) i p).F7.trans (B cs)),_,y,j,d,.inl ⟨rfl,e⟩,k,z,A,rfl⟩
 . have r:=L0 (y:=y) (a:=false) (HE e)
   obtain⟨f,m⟩:=C.wc b ν (Fl.of y);have i:=C.wd b ν (Fl.of y);rw[r]at f m i;obtain⟨s,o,p,t,u⟩:=sx (P:=P) (Wd:=Wd) (v:=un) (x:=.tuple #[]) (.inl ⟨_,f⟩) k q l rfl;obtain⟨j,d,z,A,B⟩:=sx (P:=P) (Wd:=Wd) (c:=My P n b ν (Fl.of y)) (v:=pt b 0) (x:=.pointer (some ⟨b,0,none⟩)) (.inr ⟨_,i⟩) k p t rfl;exact⟨_,jK Sm q f (by rw[m];exact D) X.en,rfl,_,(u cs).trans ((Ss X hW0 (c:=My P n b ν (Fl.of y)) (cs:=cs) i p).F7.trans (B cs)),_,y,j,d,.inr ⟨rfl,e⟩,k,z,A,rfl⟩
include C X in
def R1{j μ}(h:ya P n b ν .wa (j::μ) g)(q:ν≠.early):∃t,stepG P γ g w=.go t w #[⟨.mark (.acquire ⟨b,0,none⟩),false,true⟩]/\t.status=.running/\ze P Wd t (qz ν j μ (.tuple #[])):=by
 obtain⟨c,y,fr,ψ,k,E,r,l,rfl⟩:=h;obtain⟨fn,body,f1,H,I,F⟩:=X.Sr;rcases k with⟨rfl,k⟩|⟨rfl,k⟩
 . have u:=L0 (y:=y) (a:=true) (by simpa using k)
   obtain⟨f,m⟩:=C.w4 b ν (Fl.of y);obtain⟨o,p,i⟩:=C.w5 b ν (Fl.of y);rw[u]at f m o p i;obtain⟨z,d,A,B,D⟩:=sx (P:=P) (Wd:=Wd) (v:=un) (x:=.tuple #[]) (.inl ⟨_,f⟩) E r l rfl;have e:sn y (WB P n b ν (Fl.of y)).2 d:=B;rw[p]at e;obtain rfl:=e.uS;have hb:=qQ (Wd:=Wd) (c:=j) (μ:=μ) (s:=(WB P n b ν (Fl.of y)).1) A o f1 F (by rw[i];exact q);rw[i]at hb;exact⟨_,kq (λG g h=>by cases h) r f (by rw[m];exact q) X.acq,rfl,(D (j::μ)).trans hb.F7⟩
 . have u:=L0 (y:=y) (a:=false) (HE k)
   obtain⟨f,m⟩:=C.we b ν (Fl.of y);obtain⟨o,p,i⟩:=C.wf b ν (Fl.of y);rw[u]at f m o p i;obtain⟨z,d,A,B,D⟩:=sx (P:=P) (Wd:=Wd) (v:=un) (x:=.tuple #[]) (.inl ⟨_,f⟩) E r l rfl;have e:sn y (YQ P n b ν (Fl.of y)).2 d:=B;rw[p]at e;obtain rfl:=e.uS;have hb:=qQ (Wd:=Wd) (c:=j) (μ:=μ) (s:=(YQ P n b ν (Fl.of y)).1) A o f1 F (by rw[i];exact q);rw[i]at hb;exact⟨_,kq (λG g h=>by cases h) r f (by rw[m];exact q) X.acq,rfl,(D (j::μ)).trans hb.F7⟩
def W9{c c' v a:Nat}(d:v<=1000)(b:a<=1000):ju c v=ju c' a↔(c=c'/\v=a):=by unfold ju;omega
include C X hW1 in
def aeV{k c m}(l:xZ b w c 0 m)(h:ya P n b ν (.w2 k) cs g):
 (c=k/\∃o w',stepG P γ g w=.go o w' #[⟨.cell ⟨b,0,none⟩,false,true⟩,⟨.cell ⟨b,0,none⟩,true,true⟩]/\w'=w.setCell ⟨b,0,none⟩ (.int .u64 (ju k 1))/\xZ b w' k 1 m/\mQ P n b ν Wd .w3 cs o)\/
 (c≠k/\∃o,stepG P γ g w=.go o w #[⟨.cell ⟨b,0,none⟩,false,true⟩]/\mQ P n b ν Wd .w1 cs o):=by
 obtain⟨cf,y,fr,ψ,⟨rfl,K,L⟩,p,z,q,rfl⟩:=h;have r:y.c≠0:=by rw[K];omega
 have D:=L0 (y:=y) (a:=false) (HE r);obtain⟨s,E⟩:=C.w6 b ν (Fl.of y);rw[D]at s E
 have A:∀j:Nat,∀x,SR y (.ju j) x->x=.int .u64 (ju k j):=λj x F=>by have F:x=.int .u64 (ju y.c j):=F;rw[F,K]
 by_cases f:c=k
 . subst f
   refine .inl ⟨rfl,_,_,lX z s (qm E) X.Du (A 0) (A 1) l.cw (l.fz 0),rfl,l.bW c 1,rfl,?_⟩;have i:=C.w8 b ν (Fl.of y);rw[D]at i;obtain⟨t,d,B,G,H⟩:=sx (P:=P) (Wd:=Wd) (v:=tt) (x:=.bool true) (.inl ⟨_,s⟩) p z q rfl;obtain⟨I,u,M,N,O⟩:=sx (P:=P) (Wd:=Wd) (c:=W3 P n b ν (Fl.of y)) (v:=pt b 1) (x:=.pointer (some ⟨b,1,none⟩)) (.inr ⟨_,i⟩) p B G rfl;exact⟨_,(H cs).trans ((YR X hW1 (c:=W3 P n b ν (Fl.of y)) (cs:=cs) i B).F7.trans (O cs)),_,y,I,u,⟨rfl,r⟩,p,M,N,rfl⟩
 . have J:¬ju c 0=ju k 0:=λe=>f ((W9 ac ac).1 e).1
   refine .inr ⟨f,_,mO z s (qm E) X.Du (A 0) (A 1) l.cw (l.fz 0) J,rfl,?_⟩;have i:=C.w7 b ν (Fl.of y);rw[D]at i;obtain⟨t,d,B,G,H⟩:=sx (P:=P) (Wd:=Wd) (v:=ff) (x:=.bool false) (.inl ⟨_,s⟩) p z q rfl;have Q:=B.keep [5];have R:=G.xY [[0]];refine⟨_,H cs,W1 P n b ν,y,t,d,rfl,p,?_,?_,rfl⟩
   . rw[<-i];exact Q
   . rw[<-i];exact R
include C X in
def aeW(h:ya P n b ν .w3 cs g)(p:ν≠.early):∃j,stepG P γ g w=.go j w #[⟨.mark (.write ⟨b,1,none⟩),false,true⟩]/\mQ P n b ν Wd .w4 cs j:=by obtain⟨c,y,fr,ψ,⟨rfl,k⟩,l,m,e,rfl⟩:=h;have q:=L0 (y:=y) (a:=false) (HE k);obtain⟨f,o⟩:=C.w9 b ν (Fl.of y);rw[q]at f o;obtain⟨i,d,r,s,t⟩:=sx (P:=P) (Wd:=Wd) (v:=un) (x:=.tuple #[]) (.inl ⟨_,f⟩) l m e rfl;exact⟨_,kq (λu g h=>by cases h) m f (by rw[o];exact p) X.wr,rfl,_,t cs,_,y,i,d,⟨rfl,k⟩,l,r,s,rfl⟩
include C X in
def aeX{c v m}(i:xZ b w c v m)(D:m≠0)(h:ya P n b ν .w4 cs g)(t:ν≠.early):
 ∃o w',stepG P γ g w=.go o w' (semEvents ⟨b,1,none⟩)/\w'=w.setCell ⟨b,1,none⟩ (.int .u32 (m-1:Nat))/\xZ b w' c v (m-1)/\mQ P n b ν Wd .w5 cs o:=by
 obtain⟨cf,y,fr,ψ,⟨rfl,p⟩,q,r,j,rfl⟩:=h;have u:=L0 (y:=y) (a:=false) (HE p);obtain⟨k,s⟩:=C.wa b ν (Fl.of y);rw[u]at k s;have d:=zg (γ:=γ) (cs:=ψ++cs) (w:=w) (n:=(m:Int)) r k (by rw[s];exact t) X.LS i.cs ac (i.fz _);have e:((m:Int)-1)=((m-1:Nat):Int):=ac
 rw[e]at d;obtain⟨l,f,z,A,B⟩:=sx (P:=P) (Wd:=Wd) (v:=un) (x:=.tuple #[]) (.inl ⟨_,k⟩) q r j rfl;exact⟨_,_,d,rfl,i.LX (m-1),rfl,_,B cs,_,y,l,f,⟨rfl,p⟩,q,z,A,rfl⟩
include C X in
def acr{c v}(e:xZ b w c v 0)(h:ya P n b ν .w4 cs g):stepG P γ g w=.go {g with status:=.blocked} w #[]:=by obtain⟨cf,y,fr,ψ,⟨rfl,f⟩,m,i,j,rfl⟩:=h;have k:=L0 (y:=y) (a:=false) (HE f);obtain⟨d,l⟩:=C.wa b ν (Fl.of y);rw[k]at d l;exact Gc i d X.LS e.cs
include C X in
def aeY{m}(r:xZ b w 0 0 m)(h:ya P n b ν .w5 cs g):∃k,stepG P γ g w=.go k w #[⟨.cell ⟨b,0,none⟩,false,true⟩]/\mQ P n b ν Wd .we cs k:=by obtain⟨c,y,fr,ψ,⟨rfl,l⟩,o,p,e,rfl⟩:=h;have s:=L0 (y:=y) (a:=false) (HE l);obtain⟨f,q⟩:=C.wb b ν (Fl.of y);rw[s]at f q;have i:=AW (γ:=γ) (cs:=ψ++cs) p f (qm q) X.Co r.cw;obtain⟨j,d,t,u,z⟩:=sx (P:=P) (Wd:=Wd) (v:=u64 0) (x:=.int .u64 0) (.inl ⟨_,f⟩) o p e rfl;exact⟨_,i,rfl,_,z cs,_,y,j,d,.inr ⟨rfl,l⟩,o,t,u,rfl⟩
end
structure sz(P:Rg)(n:Jl):Prop where
 lock:∃fn body,P.funcs[n.lock]?=some fn/\fn.body=some body/\fn.ntmps=6/\fn.results=#[]
 unlock:∃fn body,P.funcs[n.unlock]?=some fn/\fn.body=some body/\fn.ntmps=6/\fn.results=#[]
section
variable{P:Rg}{n:Jl}(C:kX P n)(X:kY P n)(F:sz P n){b o:Nat}{ν:FB}{Wd:FD}{cs:E8}{g:YB}{w:World}{γ:Bool}
include F in
def yb:∃a,ze P Wd (G (Frame.enter P n.lock #[.pointer (some ⟨b,o,none⟩)] ν) cs) a/\uJ P n b o ν .ld cs a:=by obtain⟨fn,body,c,d,e,f⟩:=F.lock;exact afY ⟨fn,body,c,d,e⟩
include F in
def vJ:∃e,ze P Wd (G (Frame.enter P n.unlock #[.pointer (some ⟨b,o,none⟩)] ν) cs) e/\uJ P n b o ν .NL cs e:=by
 obtain⟨fn,body,f,g,q,r⟩:=F.unlock
 have j:FR y0 (ia P n.unlock [pt b o] ν) (Frame.enter P n.unlock #[.pointer (some ⟨b,o,none⟩)] ν):=zk f g rfl λi a h=>by
  match i with
  |0=>simp at h;subst h;exact⟨_,rfl,rfl⟩
  |i+1=>simp at h
 obtain⟨m,d,c,k,l,p⟩:=ry (Wd:=Wd) (P:=P) L1 400 j (st:=[]) (ψ:=[]) trivial;exact⟨_,⟨m,p cs⟩,_,y0,d,c,rfl,zh,k.keep [0,5],l.keep [],rfl⟩
include F in
def zn{c μ}(h:uJ P n b o ν .back (c::μ) g)(e:ν≠.early):ze P Wd g (qz ν c μ (.tuple #[])):=by obtain⟨cf,y,fr,ψ,rfl,l,i,a,rfl⟩:=h;obtain⟨fn,body,j,m,p,k⟩:=F.lock;have d:sn y [] ψ:=a;obtain rfl:=d.uS;exact(qQ (Wd:=Wd) (c:=c) (μ:=μ) (s:=(BK n ν).1) (f:=n.lock) i (by simp[BK,pQ]) j k e).F7
include F in
def rB{c μ}(h:uJ P n b o ν .Jp (c::μ) g)(e:ν≠.early):ze P Wd g (qz ν c μ (.tuple #[])):=by obtain⟨cf,y,fr,ψ,rfl,l,i,a,rfl⟩:=h;obtain⟨fn,body,j,m,p,k⟩:=F.unlock;have d:sn y [] ψ:=a;obtain rfl:=d.uS;exact(qQ (Wd:=Wd) (c:=c) (μ:=μ) (s:=(Nb n ν).1) (f:=n.unlock) i (by simp[Nb,pQ]) j k e).F7
end
