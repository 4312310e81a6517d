/- Part 18 of the proof. -/
import Derived.Conc.QuitsD
import Derived.Test.YtalogdafegmilaaGreatDoorC17
set_option linter.all false
namespace Go.aN
open Go.Conc
inductive t9 where
 |a0|a2|a4|ae
 |d1|d2|d4|d5|d6|d7
 |w0|w1|we|wa|w2 (c:Nat)|w3|w4|w5
structure px(b:Nat)(w:World)(c v m:Nat):Prop where
 cw:w.cell? ⟨b,0,none⟩=some (.int .u64 (dO c v))
 cs:w.cell? ⟨b,1,none⟩=some (.int .u32 m)
 fz:∀i,w.frozen? ⟨b,i,none⟩=false
theorem px.aE{b:Nat}{w:World}{c v m:Nat}(h:px b w c v m)(c' v':Nat):px b (w.setCell ⟨b,0,none⟩ (.int .u64 (dO c' v'))) c' v' m:=⟨ju h.cw,by rw[dQ (by simp)];exact h.cs,λi=>by rw[mV];exact h.fz i⟩
theorem px.Ct{b:Nat}{w:World}{c v m:Nat}(h:px b w c v m)(m':Nat):px b (w.setCell ⟨b,1,none⟩ (.int .u32 m')) c v m':=⟨by rw[dQ (by simp)];exact h.cw,ju h.cs,λi=>by rw[mV];exact h.fz i⟩
section
variable(P:Program)(n:Gj)(b:Nat)(kind:CallKind)
def R2(p:t9)(c:cy)(y:Sy):Prop:=
 match p with
 |.a0=>c=A0 P n b kind
 |.a2=>c=A2 P n b kind
 |.a4=>c=A4 P n b kind (Fl.of y)/\y.c=1
 |.ae=>y.c≠0/\((c=A5 P n b kind (Fl.of y)/\y.c=1)\/(c=A3 P n b kind (Fl.of y)/\y.c≠1))
 |.d1=>c=D1 P n b
 |.d2=>c=D2 P n b
 |.d4=>c=D4 P n b
 |.d5=>c=DE P n b (Fl.of y) 1/\y.c=0
 |.d6=>c=D6 P n b (Fl.of y)/\y.c=0
 |.d7=>c=D7 P n b (Fl.of y)/\y.c=0
 |.w0=>c=W0 P n b kind
 |.w1=>c=W1 P n b kind
 |.we=>(c=WE P n b kind (Fl.of y)/\y.c=0)\/(c=Nc P n b kind (Fl.of y)/\y.c≠0)
 |.wa=>(c=WA P n b kind (Fl.of y)/\y.c=0)\/(c=Nd P n b kind (Fl.of y)/\y.c≠0)
 |.w2 k=>c=WE P n b kind (Fl.of y)/\y.c=k/\k≠0
 |.w3=>c=Nb P n b kind (Fl.of y)/\y.c≠0
 |.w4=>c=W4 P n b kind (Fl.of y)/\y.c≠0
 |.w5=>c=W5 P n b kind (Fl.of y)/\y.c≠0
def py(p:t9)(cs:List Frame)(g:Goroutine):Prop:=∃c y fr frs,R2 P n b kind p c y/\y.ok/\FR y c.1 fr/\lf y c.2 frs/\g=G fr (frs++cs)
def gT(Wd:World->Prop)(p:t9)(cs:List Frame)(g1:Goroutine):Prop:=g1.status=.running/\∃g2,qU P Wd g1 g2/\py P n b kind p cs g2
end
theorem py.running{P:Program}{n:Gj}{b:Nat}{kind:CallKind}{p:t9}{cs:List Frame}{g:Goroutine}(h:py P n b kind p cs g):g.status=.running/\g.offers=none:=by obtain⟨c,y,fr,frs,_,_,_,_,rfl⟩:=h;exact⟨rfl,rfl⟩
theorem xq{s:jf}{v:SV}(h:(∃x,aR s=some x)\/(∃x,jU s=some x)):∃s',vb s v=some s':=by
 unfold vb;rcases h with⟨x,h⟩|⟨x,h⟩
 . unfold aR at h
   split at h
   . rename_i ops i rest k hm ht;rw[ht];exact⟨_,rfl⟩
   . cases h
 . unfold jU at h
   split at h
   . rename_i ops i rest k hm ht;rw[ht];exact⟨_,rfl⟩
   . cases h
section
variable{P:Program}{Wd:World->Prop}{y:Sy}{c:cy}{v:SV}{x:Value}{fr:Frame}{frs:List Frame}
theorem lh(h:(∃x,aR c.1=some x)\/(∃x,jU c.1=some x))(hy:y.ok)(hr:FR y c.1 fr)(hrs:lf y c.2 frs)(hv:SR y v x):
 ∃fr' frs',FR y (next P (Fl.of y) c v).1 fr'/\lf y (next P (Fl.of y) c v).2 frs'/\∀cs,qU P Wd (G (fr.finish x) (frs++cs)) (G fr' (frs'++cs)):=by
 obtain⟨s',hs⟩:=xq (v:=v) h;obtain⟨m,fr',frs',h1,h2,h3⟩:=kT (Wd:=Wd) (Fl.Ay hy) 400 (P:=P) (hr.fin hs hv) hrs;unfold next
 rw[hs];exact⟨fr',frs',h1,h2,λcs=>⟨m,h3 cs⟩⟩
theorem Cv(h:(∃x,aR c.1=some x)\/(∃x,jU c.1=some x))(hr:FR y c.1 fr)(hrs:lf y c.2 frs)(hp:c.1.env.all plain=true)(hps:c.2.all (·.env.all plain)=true)(hv:∀y,SR y v x):
 ∃fr' frs',FR y0 (next P kD c v).1 fr'/\lf y0 (next P kD c v).2 frs'/\∀cs,qU P Wd (G (fr.finish x) (frs++cs)) (G fr' (frs'++cs)):=by
 obtain⟨s',hs⟩:=xq (v:=v) h;have hf:kD.At y0:=⟨by decide,by decide,rfl,rfl,rfl,rfl,rfl,by decide⟩;obtain⟨m,fr',frs',h1,h2,h3⟩:=kT (Wd:=Wd) hf 400 (P:=P) ((hr.fW hp).fin hs (hv y0)) (hrs.fW hps);unfold next
 rw[hs];exact⟨fr',frs',h1,h2,λcs=>⟨m,h3 cs⟩⟩
end
theorem lf.pv{y:Sy}:∀{st:List jf}{frs:List Frame}(ls:List (List Nat)),lf y st frs->lf y (Go.aN.pv st ls) frs
 |[],frs,ls,h=>by rw[h.kg];trivial
 |s::st,frs,[],h=>by obtain⟨f,fs',rfl,h1,h2⟩:=h.cons_inv;exact⟨h1.keep [],h2.pv []⟩
 |s::st,frs,l::ls,h=>by obtain⟨f,fs',rfl,h1,h2⟩:=h.cons_inv;exact⟨h1.keep l,h2.pv ls⟩
theorem f10{y:Sy}{a c:Bool}(h1:decide (y.c=1)=a)(h0:decide (y.c=0)=c):f0 (f1 (Fl.of y) a) c=Fl.of y:=by subst h1;subst h0;rfl
theorem Q1{y:Sy}{a:Bool}(h1:decide (y.c=1)=a):f1 (Fl.of y) a=Fl.of y:=by subst h1;rfl
theorem Cw{y:Sy}{a:Bool}(h1:decide (y.c=0)=a):f0 (Fl.of y) a=Fl.of y:=by subst h1;rfl
theorem jW{c:cy}(h:t7 c=true):c.1.kind≠.early:=by
 unfold t7 at h;have:c.1.kind=.normal:=by simpa using h
 rw[this];decide
section
variable{P:Program}{n:Gj}(C:jg P n)(X:j9 P n){b:Nat}{kind:CallKind}{Wd:World->Prop}{cs:List Frame}{g:Goroutine}{w:World}{main:Bool}
variable(hW0:∀w,Wd w->∃v,w.cell? ⟨b,0,none⟩=some v)(hW1:∀w,Wd w->∃v,w.cell? ⟨b,1,none⟩=some v)
include X hW1 in
theorem Lk{y:Sy}{c:cy}{fr:Frame}{frs:List Frame}(h:jU c.1=some (n.tS,n.tU,pt b 1))(hr:FR y c.1 fr):qd P Wd (G fr (frs++cs)) (G (fr.finish (.pointer (some ⟨b,1,none⟩))) (frs++cs)):=by obtain⟨t,h1,h2,h3⟩:=X.Q0;exact⟨rfl,λmain w hw=>r9 hr h h1 h2 h3 (hW1 w hw)⟩
include X hW0 in
theorem Hk{y:Sy}{c:cy}{fr:Frame}{frs:List Frame}(h:jU c.1=some (n.tG,n.tU,pt b 0))(hr:FR y c.1 fr):qd P Wd (G fr (frs++cs)) (G (fr.finish (.pointer (some ⟨b,0,none⟩))) (frs++cs)):=by obtain⟨t,h1,h2,h3⟩:=X.QZ;exact⟨rfl,λmain w hw=>r9 hr h h1 h2 h3 (hW0 w hw)⟩
theorem qZ{f:FuncId}{args:List SV}{dp:Array Value}{y:Sy}{fn:Func}{body:Code}(h1:P.funcs[f]?=some fn)(h2:fn.body=some body)(hl:args.length=dp.size)(hv:∀(i:Nat) a,args[i]?=some a->∃x,dp[i]?=some x/\SR y a x):FR y (dl P f args kind) (Frame.enter P f dp kind):=by
 refine⟨by simp[dl,h1,Frame.enter],by simp[dl,h1,h2,Frame.enter],by simp[dl,h1,Frame.enter],by simp[dl,h1,Frame.enter,Aq.of],by simp[dl,h1,Frame.enter],rfl,by simp[dl,h1,Frame.enter,hl],λt=>?_⟩;simp only[dl,h1,Frame.enter,Option.map_some,Option.getD_some];rw[Array.getD_eq_getD_getElem?,List.getD_eq_getElem?_getD];by_cases ht:t<args.length
 . rw[Array.getElem?_append_left (by omega),List.getElem?_append_left ht]
   obtain⟨x,hx,hs⟩:=hv t _ (List.getElem?_eq_getElem ht);rw[List.getElem?_eq_getElem ht,hx];exact hs
 . rw[Array.getElem?_append_right (by omega),List.getElem?_append_right (by omega),List.getElem?_replicate]
   split<;>trivial
include X in
theorem wq:∃g2,qU P Wd (G (Frame.enter P n.add #[.pointer (some ⟨b,0,none⟩),.int .i64 1] kind) cs) g2/\py P n b kind .a0 cs g2:=by
 obtain⟨fn,body,h1,h2,h3,h4⟩:=X.L2
 have hs:FR y0 (dl P n.add [pt b 0,i64 1] kind) (Frame.enter P n.add #[.pointer (some ⟨b,0,none⟩),.int .i64 1] kind):=qZ h1 h2 rfl λi a h=>by
  match i with
  |0=>simp at h;subst h;exact⟨_,rfl,rfl⟩
  |1=>simp at h;subst h;exact⟨_,rfl,rfl⟩
  |i+2=>simp at h
 have hf:kD.At y0:=⟨by decide,by decide,rfl,rfl,rfl,rfl,rfl,by decide⟩;obtain⟨m,fr',frs',e1,e2,e3⟩:=kT (Wd:=Wd) (P:=P) hf 400 hs (st:=[]) (frs:=[]) trivial;exact⟨_,⟨m,e3 cs⟩,_,y0,fr',frs',rfl,qX,e1,e2,rfl⟩
theorem Cx:kD.At y0:=⟨by decide,by decide,rfl,rfl,rfl,rfl,rfl,by decide⟩
include X in
theorem vg(C:jg P n):∃g2,qU P Wd (G (Frame.enter P n.wait #[.pointer (some ⟨b,0,none⟩)] kind) cs) g2/\py P n b kind .w0 cs g2:=by
 obtain⟨fn,body,h1,h2,h3,h4⟩:=X.Hj
 have hs:FR y0 (dl P n.wait [pt b 0] kind) (Frame.enter P n.wait #[.pointer (some ⟨b,0,none⟩)] kind):=qZ h1 h2 rfl λi a h=>by
  match i with
  |0=>simp at h;subst h;exact⟨_,rfl,rfl⟩
  |i+1=>simp at h
 obtain⟨m,fr',frs',e1,e2,e3⟩:=kT (Wd:=Wd) (P:=P) Cx 400 hs (st:=[]) (frs:=[]) trivial;exact⟨_,⟨m,e3 cs⟩,_,y0,fr',frs',rfl,qX,e1.keep [0],e2.pv [],rfl⟩
include X hW0 in
theorem vh(C:jg P n):∃g2,qU P Wd (G (Frame.enter P n.done #[.pointer (some ⟨b,0,none⟩)] .deferred) cs) g2/\py P n b kind .d1 cs g2:=by
 obtain⟨fn,body,h1,h2,h3,h4⟩:=X.Hi
 have hs:FR y0 (dl P n.done [pt b 0] .deferred) (Frame.enter P n.done #[.pointer (some ⟨b,0,none⟩)] .deferred):=qZ h1 h2 rfl λi a h=>by
  match i with
  |0=>simp at h;subst h;exact⟨_,rfl,rfl⟩
  |i+1=>simp at h
 obtain⟨m,fr',frs',e1,e2,e3⟩:=kT (Wd:=Wd) (P:=P) Cx 400 hs (st:=[]) (frs:=[]) trivial;obtain⟨p1,p2,p3⟩:=C.d0 b;obtain⟨fr2,frs2,k1,k2,k3⟩:=Cv (P:=P) (Wd:=Wd) (c:=D0 P n b) (v:=pt b 0) (x:=.pointer (some ⟨b,0,none⟩)) (.inr ⟨_,p1⟩) e1 e2 p2 p3 (λ_=>rfl);exact⟨_,qU.trans ⟨m,e3 cs⟩ (qU.trans (Hk X hW0 (cs:=cs) p1 e1).xi (k3 cs)),_,y0,fr2,frs2,rfl,qX,k1,k2,rfl⟩
include C X in
theorem PI(h:py P n b kind .a0 cs g)(hk:kind≠.early):∃g1,stepG P main g w=.go g1 w #[⟨.mark .disable,false,true⟩]/\gT P n b kind Wd .a2 cs g1:=by
 obtain⟨c,y,fr,frs,rfl,hy,hr,hrs,rfl⟩:=h;obtain⟨p1,p2,p3,p4⟩:=C.a0 b kind;obtain⟨q1,q2,q3,q4⟩:=C.a1 b kind;refine⟨_,eo Hd hr p1 (by rw[p4];exact hk) X.iV,rfl,?_⟩;obtain⟨fr1,frs1,h1,h2,h3⟩:=Cv (P:=P) (Wd:=Wd) (v:=un) (x:=.tuple #[]) (.inl ⟨_,p1⟩) hr hrs p2 (by rw[p3];rfl) (λ_=>rfl);obtain⟨fr2,frs2,k1,k2,k3⟩:=Cv (P:=P) (Wd:=Wd) (c:=A1 P n b kind) (v:=ff) (x:=.bool false) (.inl ⟨_,q1⟩) h1 h2 q2 (by rw[q3];rfl) (λ_=>rfl);have hb:qd P Wd (G fr1 (frs1++cs)) (G (fr1.finish (.bool false)) (frs1++cs)):=⟨rfl,λmain w _=>r8 (s:=(A1 P n b kind).1) h1 q1 (by rw[q4];exact hk) X.J9⟩;exact⟨_,(h3 cs).trans (hb.xi.trans (k3 cs)),_,y0,fr2,frs2,rfl,qX,k1,k2,rfl⟩
include C X hW1 in
theorem PJ{c v m:Nat}(hs:px b w c 0 m)(hc:c<1000)(h:py P n b kind .a2 cs g):
 ∃g1 w',stepG P main g w=.go g1 w' #[⟨.cell ⟨b,0,none⟩,false,true⟩,⟨.cell ⟨b,0,none⟩,true,true⟩]/\w'=w.setCell ⟨b,0,none⟩ (.int .u64 (dO (c+1:Nat) 0))/\px b w' (c+1) 0 m/\(gT P n b kind Wd .a4 cs g1\/gT P n b kind Wd .ae cs g1):=by
 obtain⟨cf,y,fr,frs,rfl,hy,hr,hrs,rfl⟩:=h;obtain⟨p1,p2,p3,p4⟩:=C.a2 b kind
 have e:IntKind.u64.wrap (dO c 0+4294967296)=dO (c+1:Nat) 0:=by
  rw[jF (by unfold dO;omega) (by unfold dO;omega)];unfold dO;push_cast;omega
 have hst:=n9 (main:=main) (cs:=frs++cs) (w:=w) hr p1 (jW p2) X.qY (λx h=>h) hs.cw (hs.fz 0);rw[e]at hst;have hy':({y0 with c:=((c+1:Nat):Int)}:Sy).ok:=⟨by show(0:Int)<=2/\(2:Int)<=1000;decide,by show(0:Int)<=((c+1:Nat):Int)/\((c+1:Nat):Int)<=1000;omega⟩;have hne:((c+1:Nat):Int)≠0:=by omega
 obtain⟨fr',frs',h1,h2,h3⟩:=lh (P:=P) (Wd:=Wd) (y:={y0 with c:=((c+1:Nat):Int)}) (v:=.dO 0) (x:=.int .u64 (dO (c+1:Nat) 0)) (.inl ⟨_,p1⟩) hy' (hr.fW p3) (hrs.fW p4) rfl;refine⟨_,_,hst,rfl,hs.aE (c+1) 0,?_⟩;by_cases h1c:((c+1:Nat):Int)=1
 . left
   have hf:=Q1 (y:={y0 with c:=((c+1:Nat):Int)}) (a:=true) (by simpa using h1c);have k:=C.a3 b kind (Fl.of {y0 with c:=((c+1:Nat):Int)});rw[hf]at k;obtain⟨fr2,frs2,j1,j2,j3⟩:=lh (P:=P) (Wd:=Wd) (v:=pt b 1) (x:=.pointer (some ⟨b,1,none⟩)) (.inr ⟨_,k⟩) hy' h1 h2 rfl;exact⟨rfl,_,(h3 cs).trans ((Lk X hW1 (cs:=cs) k h1).xi.trans (j3 cs)),_,_,fr2,frs2,⟨rfl,h1c⟩,hy',j1,j2,rfl⟩
 . right
   exact⟨rfl,_,h3 cs,_,_,fr',frs',⟨hne,.inr ⟨rfl,h1c⟩⟩,hy',h1,h2,rfl⟩
end
section
variable{P:Program}{n:Gj}(C:jg P n)(X:j9 P n){b:Nat}{kind:CallKind}{Wd:World->Prop}{cs:List Frame}{g:Goroutine}{w:World}{main:Bool}
variable(hW0:∀w,Wd w->∃v,w.cell? ⟨b,0,none⟩=some v)(hW1:∀w,Wd w->∃v,w.cell? ⟨b,1,none⟩=some v)
theorem yK{y:Sy}(h:y.c≠0):decide (y.c=0)=false:=by simpa using h
include C X in
theorem PL(h:py P n b kind .a4 cs g)(hk:kind≠.early):∃g1,stepG P main g w=.go g1 w #[⟨.mark (.read ⟨b,1,none⟩),false,true⟩]/\gT P n b kind Wd .ae cs g1:=by
 obtain⟨c,y,fr,frs,⟨rfl,hc⟩,hy,hr,hrs,rfl⟩:=h;have hf:=Q1 (y:=y) (a:=true) (by simpa using hc);obtain⟨p1,p2⟩:=C.a4 b kind (Fl.of y);rw[hf]at p1 p2;obtain⟨fr1,frs1,h1,h2,h3⟩:=lh (P:=P) (Wd:=Wd) (v:=un) (x:=.tuple #[]) (.inl ⟨_,p1⟩) hy hr hrs rfl;exact⟨_,eU (λad g h=>by cases h) hr p1 (by rw[p2];exact hk) X.rd,rfl,_,h3 cs,_,y,fr1,frs1,⟨by rw[hc];decide,.inl ⟨rfl,hc⟩⟩,hy,h1,h2,rfl⟩
include C X in
theorem PM {c0:Frame} {rest:List Frame} (h:py P n b kind .ae (c0 :: rest) g) (hk:kind ≠ .early):∃ g1,stepG P main g w = .go g1 w #[⟨.mark .enable,false,true⟩]∧g1.status = .running∧qU P Wd g1 (jT kind c0 rest (.tuple #[])):=by
 obtain⟨c,y,fr,frs,⟨hc0,hc⟩,hy,hr,hrs,rfl⟩:=h;obtain⟨fn,body,f1,f2,f3,f4⟩:=X.L2
 have key:qf c.1=some n.en->c.2=[]->c.1.kind=kind->c.1.fn=n.add->∃ g1,stepG P main (G fr (frs ++ c0 :: rest)) w = .go g1 w #[⟨.mark .enable,false,true⟩]∧g1.status = .running∧qU P Wd g1 (jT kind c0 rest (.tuple #[])):=fun k1 k2 k3 k4=>by
  rw[k2] at hrs;obtain rfl:=hrs.kg;obtain⟨h1,h2⟩:=yJ (main:=main) (cs:=[] ++ c0 :: rest) (w:=w) hr k1 X.en
  have hout:jH ({ c.1 with defers:=[] }:jf) n.add=true:=by
   unfold jH;unfold qf at k1;split at k1
   . rename_i g cap as hm hd;simp[hm,k4]
   . cases k1
  refine⟨_,h1,rfl,?_⟩;have:=kE (Wd:=Wd) (c:=c0) (rest:=rest) h2 hout f1 f4 (by show c.1.kind≠_;rw[k3];exact hk)
  rw[show ({ c.1 with defers:=[] }:jf).kind=kind from k3] at this
  exact this.xi
 rcases hc with ⟨rfl,hc⟩|⟨rfl,hc⟩
 . have hf:=f10 (y:=y) (a:=true) (c:=false) (by simpa using hc) (yK hc0)
   obtain⟨p1,p2,p3,p4⟩:=C.a5 b kind (Fl.of y);rw[hf] at p1 p2 p3 p4;exact key p1 p2 p3 p4
 . have hf:=f10 (y:=y) (a:=false) (c:=false) (by simpa using hc) (yK hc0)
   obtain⟨p1,p2,p3,p4⟩:=C.a6 b kind (Fl.of y);rw[hf] at p1 p2 p3 p4;exact key p1 p2 p3 p4
include C X in
theorem PN(h:py P n b kind .d1 cs g):∃g1,stepG P main g w=.go g1 w #[⟨.mark (.releaseMerge ⟨b,0,none⟩),false,true⟩]/\gT P n b kind Wd .d2 cs g1:=by
 obtain⟨c,y,fr,frs,rfl,hy,hr,hrs,rfl⟩:=h;obtain⟨p1,p2,p3,p4⟩:=C.d1 b;obtain⟨fr1,frs1,h1,h2,h3⟩:=Cv (P:=P) (Wd:=Wd) (v:=un) (x:=.tuple #[]) (.inl ⟨_,p1⟩) hr hrs p3 p4 (λ_=>rfl);exact⟨_,eU (λad g h=>by cases h) hr p1 (jW p2) X.rel,rfl,_,h3 cs,_,y0,fr1,frs1,rfl,qX,h1,h2,rfl⟩
include C X in
theorem PO(h:py P n b kind .d2 cs g):∃g1,stepG P main g w=.go g1 w #[⟨.mark .disable,false,true⟩]/\gT P n b kind Wd .d4 cs g1:=by
 obtain⟨c,y,fr,frs,rfl,hy,hr,hrs,rfl⟩:=h;obtain⟨p1,p2,p3,p4⟩:=C.d2 b;obtain⟨q1,q2,q3,q4⟩:=C.d3 b;refine⟨_,eo Hd hr p1 (jW p2) X.iV,rfl,?_⟩;obtain⟨fr1,frs1,h1,h2,h3⟩:=Cv (P:=P) (Wd:=Wd) (v:=un) (x:=.tuple #[]) (.inl ⟨_,p1⟩) hr hrs p3 p4 (λ_=>rfl);obtain⟨fr2,frs2,k1,k2,k3⟩:=Cv (P:=P) (Wd:=Wd) (c:=D3 P n b) (v:=ff) (x:=.bool false) (.inl ⟨_,q1⟩) h1 h2 q3 q4 (λ_=>rfl);have hb:qd P Wd (G fr1 (frs1++cs)) (G (fr1.finish (.bool false)) (frs1++cs)):=⟨rfl,λmain w _=>r8 (s:=(D3 P n b).1) h1 q1 (jW q2) X.J9⟩;exact⟨_,(h3 cs).trans (hb.xi.trans (k3 cs)),_,y0,fr2,frs2,rfl,qX,k1,k2,rfl⟩
def jX(P:Program)(fw:FuncId)(tmps:Array Value)(todo:List Item):Frame:=⟨fw,tmps,todo,[],.returning,.deferred,none⟩
def cR(P:Program):Frame:={(default:Frame)with fn:=P.funcs.size,defers:=[],mode:=.panicking [goexitEntry]}
theorem sd{fw:FuncId}{fn:Func}{tmps:Array Value}{todo:List Item}(hf:P.funcs[fw]?=some fn)(hr:fn.results=#[]):QuitsD P 2 0 (G (jX P fw tmps todo) [cR P]):=by
 refine .ctl (g':=G (cR P) []) rfl (λw=>?_) (.ctl (g':={G (cR P) []with status:=.finished}) rfl (λw=>?_) ⟨rfl,rfl⟩)
 . simp[G,stepG,unwind,hf,results,hr,jX,cR,goexitEntry]
   rfl
 . have hc:(cR P).catches P=false:=by
    simp[Frame.catches,cR];rfl
   simp[G,stepG,unwind,cR,goexitEntry]at hc ⊢;simp[hc]
theorem se{d:Nat}:∀{m k:Nat}{a c:Goroutine},jG P (λ_=>True) m a c->QuitsD P k d c->QuitsD P (k+m) d a
 |0,k,a,c,h,hq=>by obtain rfl:=h;exact hq
 |m+1,k,a,c,h,hq=>by obtain⟨g1,⟨h1,h2⟩,h3⟩:=h;exact .ctl h1 (λw=>h2 false w trivial) (se h3 hq)
include X in
theorem vi{c:cy}{y:Sy}{fr:Frame}{frs:List Frame}{fw:FuncId}{fn:Func}{tmps:Array Value}{todo:List Item}(hf:P.funcs[fw]?=some fn)(hres:fn.results=#[])(hy:y.ok)(hr:FR y c.1 fr)(hrs:lf y c.2 frs)
 (h1:qf c.1=some n.en) (h2:jH (lg P (Fl.of y) c).1 n.done=true) (h3:(lg P (Fl.of y) c).2=[]) (h4:(lg P (Fl.of y) c).1.kind=.deferred):∃m,QuitsD P m 1 (G fr (frs++[jX P fw tmps todo,cR P])):=by
 obtain⟨_,hfr⟩:=yJ (P:=P) (main:=false) (cs:=frs++[jX P fw tmps todo,cR P]) (w:=default) hr h1 X.en;obtain⟨m,fr',frs',k1,k2,k3⟩:=kT (Wd:=λ_=>True) (P:=P) (Fl.Ay hy) 400 hfr hrs
 have k2':lf y [] frs':=by rw[<-h3];exact k2
 obtain rfl:=k2'.kg;obtain⟨fd,body,d1,d2,d3,d4⟩:=X.Hi;have hb:=kE (Wd:=λ_=>True) (c:=jX P fw tmps todo) (rest:=[cR P]) k1 h2 d1 d4 (by show(lg P (Fl.of y) c).1.kind≠_;rw[h4];decide)
 have hbk:jT (sgo P (Fl.of y) 400 {c.1 with defers:=[]} c.2).1.kind (jX P fw tmps todo) [cR P] (.tuple #[])=G (jX P fw tmps todo) [cR P]:=by rw[show(sgo P (Fl.of y) 400 {c.1 with defers:=[]} c.2).1.kind=.deferred from h4];rfl
 rw[hbk]at hb;have q1:QuitsD P (2+1) 0 (G fr' [jX P fw tmps todo,cR P]):=.ctl rfl (λw=>hb.2 false w trivial) (sd hf hres)
 have q2:=se (k3 [jX P fw tmps todo,cR P]) q1;exact⟨_,.said ⟨.mark .enable,false,true⟩ rfl rfl (λw=>(yJ (P:=P) (main:=false) (cs:=frs++[jX P fw tmps todo,cR P]) (w:=w) hr h1 X.en).1) q2⟩
def Gone(P:Program)(Wd:World->Prop)(g1:Goroutine):Prop:=∃m,QuitsD P m 1 g1
theorem yL{m k:Nat}{a c:Goroutine}(h:jG P (λ_=>True) m a c)(hq:QuitsD P k 1 c):Gone P Wd a:=⟨_,se h hq⟩
include C X in
theorem PP{k v m:Nat}{fw:FuncId}{fn:Func}{tmps:Array Value}{todo:List Item}(hf:P.funcs[fw]?=some fn)(hres:fn.results=#[])(hs:px b w (k+1) v m)(hk:k<1000)(hv:v<=1)(h:py P n b kind .d4 [jX P fw tmps todo,cR P] g):
 ∃g1 w',stepG P main g w=.go g1 w' #[⟨.cell ⟨b,0,none⟩,false,true⟩,⟨.cell ⟨b,0,none⟩,true,true⟩]/\w'=w.setCell ⟨b,0,none⟩ (.int .u64 (dO k v))/\px b w' k v m/\((k=0/\v=1/\gT P n b kind Wd .d5 [jX P fw tmps todo,cR P] g1)\/(¬(k=0/\v=1)/\Gone P Wd g1)):=by
 obtain⟨cf,y,fr,frs,rfl,hy,hr,hrs,rfl⟩:=h;obtain⟨p1,p2,p3,p4⟩:=C.d4 b
 have e:IntKind.u64.wrap (dO (k+1:Nat) v+18446744069414584320)=dO k v:=by
  have:dO (k+1:Nat) v+18446744069414584320=dO k v+18446744073709551616:=by unfold dO;push_cast;omega
  rw[this];simp[IntKind.wrap,IntKind.bits,IntKind.signed];unfold dO;omega
 have hst:=n9 (main:=main) (cs:=frs++[jX P fw tmps todo,cR P]) (w:=w) hr p1 (jW p2) X.qY (λx h=>h) hs.cw (hs.fz 0)
 rw[e]at hst;have hy':({y0 with c:=(k:Int)}:Sy).ok:=⟨by show(0:Int)<=2/\(2:Int)<=1000;decide,by show(0:Int)<=(k:Int)/\(k:Int)<=1000;omega⟩
 refine⟨_,_,hst,rfl,hs.aE k v,?_⟩;have hv01:v=0\/v=1:=by omega
 rcases hv01 with rfl|rfl
 . refine .inr ⟨by omega,?_⟩
   obtain⟨fr',frs',h1,h2,h3⟩:=lh (P:=P) (Wd:=λ_=>True) (y:={y0 with c:=(k:Int)}) (v:=.dO 0) (x:=.int .u64 (dO k 0)) (.inl ⟨_,p1⟩) hy' (hr.fW p3) (hrs.fW p4) rfl
   have q1:=C.d5 b (Fl.of {y0 with c:=(k:Int)}) (decide ((k:Int)=0))
   obtain⟨q2,q3,q4⟩:=C.QX b (Fl.of {y0 with c:=(k:Int)}) (decide ((k:Int)=0))
   rw[Cw rfl]at q1 q2 q3 q4;obtain⟨m',hq⟩:=vi X hf hres hy' h1 h2 q1 q2 q3 q4;obtain⟨j,hj⟩:=h3 [jX P fw tmps todo,cR P];exact yL hj hq
 . by_cases hk0:k=0
   . refine .inl ⟨hk0,rfl,?_⟩
     obtain⟨fr',frs',h1,h2,h3⟩:=lh (P:=P) (Wd:=Wd) (y:={y0 with c:=(k:Int)}) (v:=.dO 1) (x:=.int .u64 (dO k 1)) (.inl ⟨_,p1⟩) hy' (hr.fW p3) (hrs.fW p4) rfl
     exact⟨rfl,_,h3 _,_,_,fr',frs',⟨rfl,by show(k:Int)=0;omega⟩,hy',h1,h2,rfl⟩
   . refine .inr ⟨by omega,?_⟩
     obtain⟨fr',frs',h1,h2,h3⟩:=lh (P:=P) (Wd:=λ_=>True) (y:={y0 with c:=(k:Int)}) (v:=.dO 1) (x:=.int .u64 (dO k 1)) (.inl ⟨_,p1⟩) hy' (hr.fW p3) (hrs.fW p4) rfl
     have hc0:decide ((k:Int)=0)=false:=by simpa using hk0
     have q1:=C.d6 b (Fl.of {y0 with c:=(k:Int)})
     obtain⟨q2,q3,q4⟩:=C.QY b (Fl.of {y0 with c:=(k:Int)})
     rw[Cw hc0]at q1 q2 q3 q4;obtain⟨m',hq⟩:=vi X hf hres hy' h1 h2 q1 q2 q3 q4;obtain⟨j,hj⟩:=h3 [jX P fw tmps todo,cR P];exact yL hj hq
include C X in
theorem PQ{m:Nat}(hs:px b w 0 1 m)(h:py P n b kind .d5 cs g):∃g1,stepG P main g w=.go g1 w #[⟨.cell ⟨b,0,none⟩,false,true⟩]/\gT P n b kind Wd .d6 cs g1:=by
 obtain⟨c,y,fr,frs,⟨rfl,hc⟩,hy,hr,hrs,rfl⟩:=h;have hf:=Cw (y:=y) (a:=true) (by simpa using hc)
 obtain⟨p1,p2⟩:=C.d7 b (Fl.of y);rw[hf]at p1 p2;have hv:SR y (.dO 1) (.int .u64 (dO 0 1)):=by show _=Value.int .u64 (dO y.c 1);rw[hc]
 obtain⟨fr1,frs1,h1,h2,h3⟩:=lh (P:=P) (Wd:=Wd) (.inl ⟨_,p1⟩) hy hr hrs hv;exact⟨_,sc hr p1 (jW p2) X.tK hs.cw,rfl,_,h3 cs,_,y,fr1,frs1,⟨rfl,hc⟩,hy,h1,h2,rfl⟩
include C X in
theorem PR{m:Nat}(hs:px b w 0 1 m)(h:py P n b kind .d6 cs g):∃g1 w',stepG P main g w=.go g1 w' #[⟨.cell ⟨b,0,none⟩,true,true⟩]/\w'=w.setCell ⟨b,0,none⟩ (.int .u64 (dO 0 0))/\px b w' 0 0 m/\gT P n b kind Wd .d7 cs g1:=by
 obtain⟨c,y,fr,frs,⟨rfl,hc⟩,hy,hr,hrs,rfl⟩:=h;have hf:=Cw (y:=y) (a:=true) (by simpa using hc);obtain⟨p1,p2⟩:=C.d8 b (Fl.of y);rw[hf]at p1 p2;obtain⟨fr1,frs1,h1,h2,h3⟩:=lh (P:=P) (Wd:=Wd) (v:=un) (x:=.tuple #[]) (.inl ⟨_,p1⟩) hy hr hrs rfl;exact⟨_,_,EO hr p1 (jW p2) X.EP hs.cw (hs.fz 0),rfl,hs.aE 0 0,rfl,_,h3 cs,_,y,fr1,frs1,⟨rfl,hc⟩,hy,h1,h2,rfl⟩
include C X in
theorem PS{v m:Nat}{fw:FuncId}{fn:Func}{tmps:Array Value}{todo:List Item}(hf:P.funcs[fw]?=some fn)(hres:fn.results=#[])(hs:px b w 0 v m)(hm:m<=1000)(h:py P n b kind .d7 [jX P fw tmps todo,cR P] g):
 ∃g1 w',stepG P main g w=.go g1 w' (semEvents ⟨b,1,none⟩)/\w'=w.setCell ⟨b,1,none⟩ (.int .u32 (m+1:Nat))/\px b w' 0 v (m+1)/\Gone P Wd g1:=by
 obtain⟨c,y,fr,frs,⟨rfl,hc⟩,hy,hr,hrs,rfl⟩:=h;have hfl:=Cw (y:=y) (a:=true) (by simpa using hc)
 obtain⟨p1,p2⟩:=C.d9 b (Fl.of y);rw[hfl]at p1 p2;have hst:=mT (main:=main) (cs:=frs++[jX P fw tmps todo,cR P]) (w:=w) hr p1 (jW p2) X.mU hs.cs (hs.fz 1);have e:IntKind.u32.wrap ((m:Int)+1)=((m+1:Nat):Int):=by rw[IntKind.wrap_u32];omega
 rw[e]at hst;obtain⟨fr1,frs1,h1,h2,h3⟩:=lh (P:=P) (Wd:=λ_=>True) (v:=un) (x:=.tuple #[]) (.inl ⟨_,p1⟩) hy hr hrs rfl
 have q1:=C.da b (Fl.of y);obtain⟨q2,q3,q4⟩:=C.db b (Fl.of y);rw[hfl]at q1 q2 q3 q4;obtain⟨m',hq⟩:=vi X hf hres hy h1 h2 q1 q2 q3 q4;obtain⟨j,hj⟩:=h3 [jX P fw tmps todo,cR P];exact⟨_,_,hst,rfl,hs.Ct (m+1),yL hj hq⟩
end
section
variable{P:Program}{n:Gj}(C:jg P n)(X:j9 P n){b:Nat}{kind:CallKind}{Wd:World->Prop}{cs:List Frame}{g:Goroutine}{w:World}{main:Bool}
variable(hW0:∀w,Wd w->∃v,w.cell? ⟨b,0,none⟩=some v)(hW1:∀w,Wd w->∃v,w.cell? ⟨b,1,none⟩=some v)
include C X in
theorem PT(h:py P n b kind .w0 cs g)(hk:kind≠.early):∃g1,stepG P main g w=.go g1 w #[⟨.mark .disable,false,true⟩]/\gT P n b kind Wd .w1 cs g1:=by
 obtain⟨c,y,fr,frs,rfl,hy,hr,hrs,rfl⟩:=h;obtain⟨p1,p2,p3,p4⟩:=C.w0 b kind;obtain⟨fr1,frs1,h1,h2,h3⟩:=Cv (P:=P) (Wd:=Wd) (v:=un) (x:=.tuple #[]) (.inl ⟨_,p1⟩) hr hrs p2 (by rw[p3];rfl) (λ_=>rfl);exact⟨_,eo Hd hr p1 (by rw[p4];exact hk) X.iV,rfl,_,h3 cs,_,y0,fr1,frs1,rfl,qX,h1.keep [5],h2.pv [[0]],rfl⟩
include C X in
theorem PU{c m:Nat}(hs:px b w c 0 m)(hc:c<=1000)(h:py P n b kind .w1 cs g):
 ∃g1,stepG P main g w=.go g1 w #[⟨.cell ⟨b,0,none⟩,false,true⟩]/\((c=0/\gT P n b kind Wd .we cs g1)\/(c≠0/\gT P n b kind Wd (.w2 c) cs g1)):=by
 obtain⟨cf,y,fr,frs,rfl,hy,hr,hrs,rfl⟩:=h;obtain⟨p1,p2,p3,p4⟩:=C.w1 b kind;have hy':({y0 with c:=(c:Int)}:Sy).ok:=⟨by show(0:Int)<=2/\(2:Int)<=1000;decide,by show(0:Int)<=(c:Int)/\(c:Int)<=1000;omega⟩;obtain⟨fr',frs',h1,h2,h3⟩:=lh (P:=P) (Wd:=Wd) (y:={y0 with c:=(c:Int)}) (v:=.dO 0) (x:=.int .u64 (dO c 0)) (.inl ⟨_,p1⟩) hy' (hr.fW p3) (hrs.fW p4) rfl;refine⟨_,sc hr p1 (jW p2) X.tK hs.cw,?_⟩;by_cases h0:c=0
 . exact .inl ⟨h0,rfl,_,h3 cs,_,_,fr',frs',.inl ⟨rfl,by show(c:Int)=0;omega⟩,hy',h1,h2,rfl⟩
 . exact .inr ⟨h0,rfl,_,h3 cs,_,_,fr',frs',⟨rfl,rfl,h0⟩,hy',h1,h2,rfl⟩
include C X hW0 in
theorem PV(h:py P n b kind .we cs g)(hk:kind≠.early):∃g1,stepG P main g w=.go g1 w #[⟨.mark .enable,false,true⟩]/\gT P n b kind Wd .wa cs g1:=by
 obtain⟨c,y,fr,frs,hc,hy,hr,hrs,rfl⟩:=h;rcases hc with⟨rfl,hc⟩|⟨rfl,hc⟩
 . have hf:=Cw (y:=y) (a:=true) (by simpa using hc)
   obtain⟨p1,p2⟩:=C.w2 b kind (Fl.of y);have q1:=C.w3 b kind (Fl.of y);rw[hf]at p1 p2 q1;obtain⟨fr1,frs1,h1,h2,h3⟩:=lh (P:=P) (Wd:=Wd) (v:=un) (x:=.tuple #[]) (.inl ⟨_,p1⟩) hy hr hrs rfl;obtain⟨fr2,frs2,j1,j2,j3⟩:=lh (P:=P) (Wd:=Wd) (c:=WC P n b kind (Fl.of y)) (v:=pt b 0) (x:=.pointer (some ⟨b,0,none⟩)) (.inr ⟨_,q1⟩) hy h1 h2 rfl;exact⟨_,eo He hr p1 (by rw[p2];exact hk) X.en,rfl,_,(h3 cs).trans ((Hk X hW0 (c:=WC P n b kind (Fl.of y)) (cs:=cs) q1 h1).xi.trans (j3 cs)),_,y,fr2,frs2,.inl ⟨rfl,hc⟩,hy,j1,j2,rfl⟩
 . have hf:=Cw (y:=y) (a:=false) (yK hc)
   obtain⟨p1,p2⟩:=C.wc b kind (Fl.of y);have q1:=C.wd b kind (Fl.of y);rw[hf]at p1 p2 q1;obtain⟨fr1,frs1,h1,h2,h3⟩:=lh (P:=P) (Wd:=Wd) (v:=un) (x:=.tuple #[]) (.inl ⟨_,p1⟩) hy hr hrs rfl;obtain⟨fr2,frs2,j1,j2,j3⟩:=lh (P:=P) (Wd:=Wd) (c:=Oa P n b kind (Fl.of y)) (v:=pt b 0) (x:=.pointer (some ⟨b,0,none⟩)) (.inr ⟨_,q1⟩) hy h1 h2 rfl;exact⟨_,eo He hr p1 (by rw[p2];exact hk) X.en,rfl,_,(h3 cs).trans ((Hk X hW0 (c:=Oa P n b kind (Fl.of y)) (cs:=cs) q1 h1).xi.trans (j3 cs)),_,y,fr2,frs2,.inr ⟨rfl,hc⟩,hy,j1,j2,rfl⟩
include C X in
theorem PW{c0:Frame}{rest:List Frame}(h:py P n b kind .wa (c0::rest) g)(hk:kind≠.early):∃g1,stepG P main g w=.go g1 w #[⟨.mark (.acquire ⟨b,0,none⟩),false,true⟩]/\g1.status=.running/\qU P Wd g1 (jT kind c0 rest (.tuple #[])):=by
 obtain⟨c,y,fr,frs,hc,hy,hr,hrs,rfl⟩:=h;obtain⟨fn,body,f1,f2,f3,f4⟩:=X.Hj;rcases hc with⟨rfl,hc⟩|⟨rfl,hc⟩
 . have hf:=Cw (y:=y) (a:=true) (by simpa using hc)
   obtain⟨p1,p2⟩:=C.w4 b kind (Fl.of y);obtain⟨q1,q2,q3⟩:=C.w5 b kind (Fl.of y);rw[hf]at p1 p2 q1 q2 q3;obtain⟨fr1,frs1,h1,h2,h3⟩:=lh (P:=P) (Wd:=Wd) (v:=un) (x:=.tuple #[]) (.inl ⟨_,p1⟩) hy hr hrs rfl;have h2':lf y (WB P n b kind (Fl.of y)).2 frs1:=h2;rw[q2]at h2';obtain rfl:=h2'.kg;have hb:=kE (Wd:=Wd) (c:=c0) (rest:=rest) (s:=(WB P n b kind (Fl.of y)).1) h1 q1 f1 f4 (by rw[q3];exact hk);rw[q3]at hb;exact⟨_,eU (λad g h=>by cases h) hr p1 (by rw[p2];exact hk) X.acq,rfl,(h3 (c0::rest)).trans hb.xi⟩
 . have hf:=Cw (y:=y) (a:=false) (yK hc)
   obtain⟨p1,p2⟩:=C.we b kind (Fl.of y);obtain⟨q1,q2,q3⟩:=C.wf b kind (Fl.of y);rw[hf]at p1 p2 q1 q2 q3;obtain⟨fr1,frs1,h1,h2,h3⟩:=lh (P:=P) (Wd:=Wd) (v:=un) (x:=.tuple #[]) (.inl ⟨_,p1⟩) hy hr hrs rfl;have h2':lf y (Lj P n b kind (Fl.of y)).2 frs1:=h2;rw[q2]at h2';obtain rfl:=h2'.kg;have hb:=kE (Wd:=Wd) (c:=c0) (rest:=rest) (s:=(Lj P n b kind (Fl.of y)).1) h1 q1 f1 f4 (by rw[q3];exact hk);rw[q3]at hb;exact⟨_,eU (λad g h=>by cases h) hr p1 (by rw[p2];exact hk) X.acq,rfl,(h3 (c0::rest)).trans hb.xi⟩
theorem Ka{c c' v v':Nat}(hv:v<=1000)(hv':v'<=1000):dO c v=dO c' v'↔(c=c'/\v=v'):=by unfold dO;omega
include C X hW1 in
theorem PX{k c m:Nat}(hs:px b w c 0 m)(h:py P n b kind (.w2 k) cs g):
 (c=k/\∃g1 w',stepG P main g w=.go g1 w' #[⟨.cell ⟨b,0,none⟩,false,true⟩,⟨.cell ⟨b,0,none⟩,true,true⟩]/\w'=w.setCell ⟨b,0,none⟩ (.int .u64 (dO k 1))/\px b w' k 1 m/\gT P n b kind Wd .w3 cs g1)\/
 (c≠k/\∃g1,stepG P main g w=.go g1 w #[⟨.cell ⟨b,0,none⟩,false,true⟩]/\gT P n b kind Wd .w1 cs g1):=by
 obtain⟨cf,y,fr,frs,⟨rfl,hc,hk0⟩,hy,hr,hrs,rfl⟩:=h;have hyc:y.c≠0:=by rw[hc];omega
 have hf:=Cw (y:=y) (a:=false) (yK hyc);obtain⟨p1,p2⟩:=C.w6 b kind (Fl.of y);rw[hf]at p1 p2
 have ho:∀j:Nat,∀x,SR y (.dO j) x->x=.int .u64 (dO k j):=λj x hx=>by have hx:x=.int .u64 (dO y.c j):=hx;rw[hx,hc]
 by_cases hck:c=k
 . subst hck
   refine .inl ⟨rfl,_,_,gh hr p1 (jW p2) X.vf (ho 0) (ho 1) hs.cw (hs.fz 0),rfl,hs.aE c 1,rfl,?_⟩;have q1:=C.w8 b kind (Fl.of y);rw[hf]at q1;obtain⟨fr1,frs1,h1,h2,h3⟩:=lh (P:=P) (Wd:=Wd) (v:=tt) (x:=.bool true) (.inl ⟨_,p1⟩) hy hr hrs rfl;obtain⟨fr2,frs2,j1,j2,j3⟩:=lh (P:=P) (Wd:=Wd) (c:=W3 P n b kind (Fl.of y)) (v:=pt b 1) (x:=.pointer (some ⟨b,1,none⟩)) (.inr ⟨_,q1⟩) hy h1 h2 rfl;exact⟨_,(h3 cs).trans ((Lk X hW1 (c:=W3 P n b kind (Fl.of y)) (cs:=cs) q1 h1).xi.trans (j3 cs)),_,y,fr2,frs2,⟨rfl,hyc⟩,hy,j1,j2,rfl⟩
 . have hne:¬dO c 0=dO k 0:=λe=>hck ((Ka (by omega) (by omega)).1 e).1
   refine .inr ⟨hck,_,gS hr p1 (jW p2) X.vf (ho 0) (ho 1) hs.cw (hs.fz 0) hne,rfl,?_⟩;have q1:=C.w7 b kind (Fl.of y);rw[hf]at q1;obtain⟨fr1,frs1,h1,h2,h3⟩:=lh (P:=P) (Wd:=Wd) (v:=ff) (x:=.bool false) (.inl ⟨_,p1⟩) hy hr hrs rfl;have k1:=h1.keep [5];have k2:=h2.pv [[0]];refine⟨_,h3 cs,W1 P n b kind,y,fr1,frs1,rfl,hy,?_,?_,rfl⟩
   . rw[<-q1];exact k1
   . rw[<-q1];exact k2
include C X in
theorem PY(h:py P n b kind .w3 cs g)(hk:kind≠.early):∃g1,stepG P main g w=.go g1 w #[⟨.mark (.write ⟨b,1,none⟩),false,true⟩]/\gT P n b kind Wd .w4 cs g1:=by obtain⟨c,y,fr,frs,⟨rfl,hc⟩,hy,hr,hrs,rfl⟩:=h;have hf:=Cw (y:=y) (a:=false) (yK hc);obtain⟨p1,p2⟩:=C.w9 b kind (Fl.of y);rw[hf]at p1 p2;obtain⟨fr1,frs1,h1,h2,h3⟩:=lh (P:=P) (Wd:=Wd) (v:=un) (x:=.tuple #[]) (.inl ⟨_,p1⟩) hy hr hrs rfl;exact⟨_,eU (λad g h=>by cases h) hr p1 (by rw[p2];exact hk) X.wr,rfl,_,h3 cs,_,y,fr1,frs1,⟨rfl,hc⟩,hy,h1,h2,rfl⟩
include C X in
theorem PZ{c v m:Nat}(hs:px b w c v m)(hm:m≠0)(h:py P n b kind .w4 cs g)(hk:kind≠.early):
 ∃g1 w',stepG P main g w=.go g1 w' (semEvents ⟨b,1,none⟩)/\w'=w.setCell ⟨b,1,none⟩ (.int .u32 (m-1:Nat))/\px b w' c v (m-1)/\gT P n b kind Wd .w5 cs g1:=by
 obtain⟨cf,y,fr,frs,⟨rfl,hc⟩,hy,hr,hrs,rfl⟩:=h;have hf:=Cw (y:=y) (a:=false) (yK hc);obtain⟨p1,p2⟩:=C.wa b kind (Fl.of y);rw[hf]at p1 p2;have hst:=qV (main:=main) (cs:=frs++cs) (w:=w) (n:=(m:Int)) hr p1 (by rw[p2];exact hk) X.Cp hs.cs (by omega) (hs.fz _);have e:((m:Int)-1)=((m-1:Nat):Int):=by omega
 rw[e]at hst;obtain⟨fr1,frs1,h1,h2,h3⟩:=lh (P:=P) (Wd:=Wd) (v:=un) (x:=.tuple #[]) (.inl ⟨_,p1⟩) hy hr hrs rfl;exact⟨_,_,hst,rfl,hs.Ct (m-1),rfl,_,h3 cs,_,y,fr1,frs1,⟨rfl,hc⟩,hy,h1,h2,rfl⟩
include C X in
theorem Ob{c v:Nat}(hs:px b w c v 0)(h:py P n b kind .w4 cs g):stepG P main g w=.go {g with status:=.blocked} w #[]:=by obtain⟨cf,y,fr,frs,⟨rfl,hc⟩,hy,hr,hrs,rfl⟩:=h;have hf:=Cw (y:=y) (a:=false) (yK hc);obtain⟨p1,p2⟩:=C.wa b kind (Fl.of y);rw[hf]at p1 p2;exact xm hr p1 X.Cp hs.cs
include C X in
theorem P1{m:Nat}(hs:px b w 0 0 m)(h:py P n b kind .w5 cs g):∃g1,stepG P main g w=.go g1 w #[⟨.cell ⟨b,0,none⟩,false,true⟩]/\gT P n b kind Wd .we cs g1:=by obtain⟨c,y,fr,frs,⟨rfl,hc⟩,hy,hr,hrs,rfl⟩:=h;have hf:=Cw (y:=y) (a:=false) (yK hc);obtain⟨p1,p2⟩:=C.wb b kind (Fl.of y);rw[hf]at p1 p2;have hst:=sc (main:=main) (cs:=frs++cs) hr p1 (jW p2) X.tK hs.cw;obtain⟨fr1,frs1,h1,h2,h3⟩:=lh (P:=P) (Wd:=Wd) (v:=u64 0) (x:=.int .u64 0) (.inl ⟨_,p1⟩) hy hr hrs rfl;exact⟨_,hst,rfl,_,h3 cs,_,y,fr1,frs1,.inr ⟨rfl,hc⟩,hy,h1,h2,rfl⟩
end
structure qg(P:Program)(n:xp):Prop where
 lock:∃fn body,P.funcs[n.lock]?=some fn/\fn.body=some body/\fn.ntmps=6/\fn.results=#[]
 unlock:∃fn body,P.funcs[n.unlock]?=some fn/\fn.body=some body/\fn.ntmps=6/\fn.results=#[]
section
variable{P:Program}{n:xp}(C:iy P n)(X:iz P n)(F:qg P n){b o:Nat}{kind:CallKind}{Wd:World->Prop}{cs:List Frame}{g:Goroutine}{w:World}{main:Bool}
include F in
theorem pz:∃g2,qU P Wd (G (Frame.enter P n.lock #[.pointer (some ⟨b,o,none⟩)] kind) cs) g2/\mL P n b o kind .ld cs g2:=by obtain⟨fn,body,h1,h2,h3,h4⟩:=F.lock;exact Cu ⟨fn,body,h1,h2,h3⟩
include F in
theorem nA:∃g2,qU P Wd (G (Frame.enter P n.unlock #[.pointer (some ⟨b,o,none⟩)] kind) cs) g2/\mL P n b o kind .Dy cs g2:=by
 obtain⟨fn,body,h1,h2,h3,h4⟩:=F.unlock
 have hs:FR y0 (dl P n.unlock [pt b o] kind) (Frame.enter P n.unlock #[.pointer (some ⟨b,o,none⟩)] kind):=qZ h1 h2 rfl λi a h=>by
  match i with
  |0=>simp at h;subst h;exact⟨_,rfl,rfl⟩
  |i+1=>simp at h
 obtain⟨m,fr',frs',e1,e2,e3⟩:=kT (Wd:=Wd) (P:=P) Cx 400 hs (st:=[]) (frs:=[]) trivial;exact⟨_,⟨m,e3 cs⟩,_,y0,fr',frs',rfl,qX,e1.keep [0,5],e2.keep [],rfl⟩
include F in
theorem q8{c:Frame}{rest:List Frame}(h:mL P n b o kind .back (c::rest) g)(hk:kind≠.early):qU P Wd g (jT kind c rest (.tuple #[])):=by obtain⟨cf,y,fr,frs,rfl,hy,hr,hrs,rfl⟩:=h;obtain⟨fn,body,h1,h2,h3,h4⟩:=F.lock;have h2':lf y [] frs:=hrs;obtain rfl:=h2'.kg;exact(kE (Wd:=Wd) (c:=c) (rest:=rest) (s:=(BK n kind).1) (f:=n.lock) hr (by simp[BK,jH]) h1 h4 hk).xi
include F in
theorem oc{c:Frame}{rest:List Frame}(h:mL P n b o kind .Az (c::rest) g)(hk:kind≠.early):qU P Wd g (jT kind c rest (.tuple #[])):=by obtain⟨cf,y,fr,frs,rfl,hy,hr,hrs,rfl⟩:=h;obtain⟨fn,body,h1,h2,h3,h4⟩:=F.unlock;have h2':lf y [] frs:=hrs;obtain rfl:=h2'.kg;exact(kE (Wd:=Wd) (c:=c) (rest:=rest) (s:=(NX n kind).1) (f:=n.unlock) hr (by simp[NX,jH]) h1 h4 hk).xi
end
end Go.aN
