/- Part 17 of the proof. -/
import Derived.Conc.QuitsD
import Derived.Test.YtelgggdkahhhfaaGreatDoorC16
set_option linter.all false
namespace Go.aZ
open Go.Conc
inductive qk where
 | a0|a2|a4|ae
 | d1|d2|d4|d5|d6|d7
 | w0|w1|we|wa|w2 (c:Nat) | w3|w4|w5
structure mr (b:Nat) (w:World) (c v m:Nat):Prop where
 cw:w.cell? ⟨b,0,none⟩=some (.int .u64 (cE c v))
 cs:w.cell? ⟨b,1,none⟩=some (.int .u32 m)
 fz:∀ i,w.frozen? ⟨b,i,none⟩=false
theorem mr.aC {b:Nat} {w:World} {c v m:Nat} (h:mr b w c v m) (c' v':Nat):mr b (w.setCell ⟨b,0,none⟩ (.int .u64 (cE c' v'))) c' v' m:=
 ⟨gQ h.cw,by rw[cH (by simp)];exact h.cs,fun i=>by rw[kD];exact h.fz i⟩
theorem mr.yf {b:Nat} {w:World} {c v m:Nat} (h:mr b w c v m) (m':Nat):mr b (w.setCell ⟨b,1,none⟩ (.int .u32 m')) c v m':=
 ⟨by rw[cH (by simp)];exact h.cw,gQ h.cs,fun i=>by rw[kD];exact h.fz i⟩
section
variable (P:Program) (n:Ce) (b:Nat) (kind:CallKind)
def NR (p:qk) (c:bv) (y:Sy):Prop:=
 match p with
 | .a0=>c=A0 P n b kind
 | .a2=>c=A2 P n b kind
 | .a4=>c=A4 P n b kind (Fl.of y)∧y.c=1
 | .ae=>y.c≠0∧((c=A5 P n b kind (Fl.of y)∧y.c=1)∨(c=A3 P n b kind (Fl.of y)∧y.c≠1))
 | .d1=>c=D1 P n b
 | .d2=>c=D2 P n b
 | .d4=>c=D4 P n b
 | .d5=>c=DE P n b (Fl.of y) 1∧y.c=0
 | .d6=>c=D6 P n b (Fl.of y)∧y.c=0
 | .d7=>c=D7 P n b (Fl.of y)∧y.c=0
 | .w0=>c=W0 P n b kind
 | .w1=>c=W1 P n b kind
 | .we=>(c=WE P n b kind (Fl.of y)∧y.c=0)∨(c=I2 P n b kind (Fl.of y)∧y.c≠0)
 | .wa=>(c=WA P n b kind (Fl.of y)∧y.c=0)∨(c=I3 P n b kind (Fl.of y)∧y.c≠0)
 | .w2 k=>c=WE P n b kind (Fl.of y)∧y.c=k∧k≠0
 | .w3=>c=I1 P n b kind (Fl.of y)∧y.c≠0
 | .w4=>c=W4 P n b kind (Fl.of y)∧y.c≠0
 | .w5=>c=W5 P n b kind (Fl.of y)∧y.c≠0
def mw (p:qk) (cs:List Frame) (g:Goroutine):Prop := ∃ c y fr frs,NR P n b kind p c y∧y.ok∧FR y c.1 fr∧jp y c.2 frs∧g=G fr (frs ++ cs)
def eI (Wd:World->Prop) (p:qk) (cs:List Frame) (g1:Goroutine):Prop:=g1.status = .running∧∃ g2,nC P Wd g1 g2∧mw P n b kind p cs g2
end
theorem mw.running {P:Program} {n:Ce} {b:Nat} {kind:CallKind} {p:qk} {cs:List Frame} {g:Goroutine} (h:mw P n b kind p cs g):g.status = .running∧g.offers=none:=by
 obtain⟨c,y,fr,frs,_,_,_,_,rfl⟩:=h;exact⟨rfl,rfl⟩
theorem tu {s:gi} {v:SV} (h:(∃ x,aH s=some x)∨(∃ x,ir s=some x)):∃ s',q9 s v=some s':=by
 unfold q9
 rcases h with ⟨x,h⟩|⟨x,h⟩
 . unfold aH at h
   split at h
   . rename_i ops i rest k hm ht;rw[ht];exact⟨_,rfl⟩
   . cases h
 . unfold ir at h
   split at h
   . rename_i ops i rest k hm ht;rw[ht];exact⟨_,rfl⟩
   . cases h
section
variable {P:Program} {Wd:World->Prop} {y:Sy} {c:bv} {v:SV} {x:Value} {fr:Frame} {frs:List Frame}
theorem jr (h:(∃ x,aH c.1=some x)∨(∃ x,ir c.1=some x)) (hy:y.ok) (hr:FR y c.1 fr) (hrs:jp y c.2 frs) (hv:SR y v x) :
 ∃ fr' frs',FR y (next P (Fl.of y) c v).1 fr'∧jp y (next P (Fl.of y) c v).2 frs'∧∀ cs,nC P Wd (G (fr.finish x) (frs ++ cs)) (G fr' (frs' ++ cs)):=by
 obtain⟨s',hs⟩:=tu (v:=v) h;obtain⟨m,fr',frs',h1,h2,h3⟩:=jd (Wd:=Wd) (Fl.wn hy) 400 (P:=P) (hr.fin hs hv) hrs;unfold next
 rw[hs];exact⟨fr',frs',h1,h2,fun cs=>⟨m,h3 cs⟩⟩
theorem yh (h:(∃ x,aH c.1=some x)∨(∃ x,ir c.1=some x)) (hr:FR y c.1 fr) (hrs:jp y c.2 frs) (hp:c.1.env.all plain=true) (hps:c.2.all (·.env.all plain)=true) (hv:∀ y,SR y v x) :
 ∃ fr' frs',FR y0 (next P iT c v).1 fr'∧jp y0 (next P iT c v).2 frs'∧∀ cs,nC P Wd (G (fr.finish x) (frs ++ cs)) (G fr' (frs' ++ cs)):=by
 obtain⟨s',hs⟩:=tu (v:=v) h;have hf:iT.At y0:=⟨by decide,by decide,rfl,rfl,rfl,rfl,rfl,by decide⟩
 obtain⟨m,fr',frs',h1,h2,h3⟩:=jd (Wd:=Wd) hf 400 (P:=P) ((hr.dQ hp).fin hs (hv y0)) (hrs.dQ hps);unfold next
 rw[hs];exact⟨fr',frs',h1,h2,fun cs=>⟨m,h3 cs⟩⟩
end
theorem jp.mq {y:Sy}:∀ {st:List gi} {frs:List Frame} (ls:List (List Nat)),jp y st frs->jp y (Go.aZ.mq st ls) frs
 | [],frs,ls,h=>by rw[h.iJ];trivial
 | s :: st,frs,[],h=>by
   obtain⟨f,fs',rfl,h1,h2⟩:=h.cons_inv;exact⟨h1.keep [],h2.mq []⟩
 | s :: st,frs,l :: ls,h=>by
   obtain⟨f,fs',rfl,h1,h2⟩:=h.cons_inv;exact⟨h1.keep l,h2.mq ls⟩
theorem f10 {y:Sy} {a c:Bool} (h1:decide (y.c=1)=a) (h0:decide (y.c=0)=c):f0 (f1 (Fl.of y) a) c=Fl.of y:=by subst h1;subst h0;rfl
theorem MV {y:Sy} {a:Bool} (h1:decide (y.c=1)=a):f1 (Fl.of y) a=Fl.of y:=by subst h1;rfl
theorem yi {y:Sy} {a:Bool} (h1:decide (y.c=0)=a):f0 (Fl.of y) a=Fl.of y:=by subst h1;rfl
theorem iv {c:bv} (h:qj c=true):c.1.kind ≠ .early:=by
 unfold qj at h;have:c.1.kind = .normal:=by simpa using h
 rw[this];decide
section
variable {P:Program} {n:Ce} (C:gk P n) (X:iD P n) {b:Nat} {kind:CallKind} {Wd:World->Prop} {cs:List Frame} {g:Goroutine} {w:World} {main:Bool}
variable (hW0:∀ w,Wd w->∃ v,w.cell? ⟨b,0,none⟩=some v) (hW1:∀ w,Wd w->∃ v,w.cell? ⟨b,1,none⟩=some v)
include X hW1 in
theorem Hl {y:Sy} {c:bv} {fr:Frame} {frs:List Frame} (h:ir c.1=some (n.tS,n.tU,pt b 1)) (hr:FR y c.1 fr):mS P Wd (G fr (frs ++ cs)) (G (fr.finish (.pointer (some ⟨b,1,none⟩))) (frs ++ cs)):=by
 obtain⟨t,h1,h2,h3⟩:=X.MU;exact⟨rfl,fun main w hw=>oI hr h h1 h2 h3 (hW1 w hw)⟩
include X hW0 in
theorem C8 {y:Sy} {c:bv} {fr:Frame} {frs:List Frame} (h:ir c.1=some (n.tG,n.tU,pt b 0)) (hr:FR y c.1 fr):mS P Wd (G fr (frs ++ cs)) (G (fr.finish (.pointer (some ⟨b,0,none⟩))) (frs ++ cs)):=by
 obtain⟨t,h1,h2,h3⟩:=X.MT;exact⟨rfl,fun main w hw=>oI hr h h1 h2 h3 (hW0 w hw)⟩
theorem nH {f:FuncId} {args:List SV} {vals:Array Value} {y:Sy} {fn:Func} {body:Code} (h1:P.funcs[f]? = some fn) (h2:fn.body=some body) (hl:args.length=vals.size) (hv:∀ (i:Nat) a,args[i]? = some a->∃ x,vals[i]? = some x∧SR y a x):FR y (b0 P f args kind) (Frame.enter P f vals kind):=by
 refine⟨by simp[b0,h1,Frame.enter],by simp[b0,h1,h2,Frame.enter],by simp[b0,h1,Frame.enter],by simp[b0,h1,Frame.enter,v9.of],by simp[b0,h1,Frame.enter],rfl,by simp[b0,h1,Frame.enter,hl],fun t=>?_⟩
 simp only[b0,h1,Frame.enter,Option.map_some,Option.getD_some];rw[Array.getD_eq_getD_getElem?,List.getD_eq_getElem?_getD]
 by_cases ht:t<args.length
 . rw[Array.getElem?_append_left (by omega),List.getElem?_append_left ht]
   obtain⟨x,hx,hs⟩:=hv t _ (List.getElem?_eq_getElem ht);rw[List.getElem?_eq_getElem ht,hx];exact hs
 . rw[Array.getElem?_append_right (by omega),List.getElem?_append_right (by omega),List.getElem?_replicate]
   split <;> trivial
include X in
theorem sE:∃ g2,nC P Wd (G (Frame.enter P n.add #[.pointer (some ⟨b,0,none⟩),.int .i64 1] kind) cs) g2∧mw P n b kind .a0 cs g2:=by
 obtain⟨fn,body,h1,h2,h3,h4⟩:=X.HU
 have hs:FR y0 (b0 P n.add [pt b 0,i64 1] kind) (Frame.enter P n.add #[.pointer (some ⟨b,0,none⟩),.int .i64 1] kind):=nH h1 h2 rfl fun i a h=>by
  match i with
  | 0=>simp at h;subst h;exact⟨_,rfl,rfl⟩
  | 1=>simp at h;subst h;exact⟨_,rfl,rfl⟩
  | i+2=>simp at h
 have hf:iT.At y0:=⟨by decide,by decide,rfl,rfl,rfl,rfl,rfl,by decide⟩
 obtain⟨m,fr',frs',e1,e2,e3⟩:=jd (Wd:=Wd) (P:=P) hf 400 hs (st:=[]) (frs:=[]) trivial;exact⟨_,⟨m,e3 cs⟩,_,y0,fr',frs',rfl,nF,e1,e2,rfl⟩
theorem yj:iT.At y0:=⟨by decide,by decide,rfl,rfl,rfl,rfl,rfl,by decide⟩
include X in
theorem rh (C:gk P n):∃ g2,nC P Wd (G (Frame.enter P n.wait #[.pointer (some ⟨b,0,none⟩)] kind) cs) g2∧mw P n b kind .w0 cs g2:=by
 obtain⟨fn,body,h1,h2,h3,h4⟩:=X.C7
 have hs:FR y0 (b0 P n.wait [pt b 0] kind) (Frame.enter P n.wait #[.pointer (some ⟨b,0,none⟩)] kind):=nH h1 h2 rfl fun i a h=>by
  match i with
  | 0=>simp at h;subst h;exact⟨_,rfl,rfl⟩
  | i+1=>simp at h
 obtain⟨m,fr',frs',e1,e2,e3⟩:=jd (Wd:=Wd) (P:=P) yj 400 hs (st:=[]) (frs:=[]) trivial;exact⟨_,⟨m,e3 cs⟩,_,y0,fr',frs',rfl,nF,e1.keep [0],e2.mq [],rfl⟩
include X hW0 in
theorem ri (C:gk P n):∃ g2,nC P Wd (G (Frame.enter P n.done #[.pointer (some ⟨b,0,none⟩)] .deferred) cs) g2∧mw P n b kind .d1 cs g2:=by
 obtain⟨fn,body,h1,h2,h3,h4⟩:=X.C6
 have hs:FR y0 (b0 P n.done [pt b 0] .deferred) (Frame.enter P n.done #[.pointer (some ⟨b,0,none⟩)] .deferred):=nH h1 h2 rfl fun i a h=>by
  match i with
  | 0=>simp at h;subst h;exact⟨_,rfl,rfl⟩
  | i+1=>simp at h
 obtain⟨m,fr',frs',e1,e2,e3⟩:=jd (Wd:=Wd) (P:=P) yj 400 hs (st:=[]) (frs:=[]) trivial;obtain⟨p1,p2,p3⟩:=C.d0 b;obtain⟨fr2,frs2,k1,k2,k3⟩:=yh (P:=P) (Wd:=Wd) (c:=D0 P n b) (v:=pt b 0) (x:=.pointer (some ⟨b,0,none⟩)) (.inr ⟨_,p1⟩) e1 e2 p2 p3 (fun _=>rfl)
 exact⟨_,nC.trans ⟨m,e3 cs⟩ (nC.trans (C8 X hW0 (cs:=cs) p1 e1).te (k3 cs)),_,y0,fr2,frs2,rfl,nF,k1,k2,rfl⟩
include C X in
theorem Lr (h:mw P n b kind .a0 cs g) (hk:kind ≠ .early):∃ g1,stepG P main g w = .go g1 w #[⟨.mark .disable,false,true⟩]∧eI P n b kind Wd .a2 cs g1:=by
 obtain⟨c,y,fr,frs,rfl,hy,hr,hrs,rfl⟩:=h;obtain⟨p1,p2,p3,p4⟩:=C.a0 b kind;obtain⟨q1,q2,q3,q4⟩:=C.a1 b kind;refine⟨_,cR C1 hr p1 (by rw[p4];exact hk) X.fR,rfl,?_⟩
 obtain⟨fr1,frs1,h1,h2,h3⟩:=yh (P:=P) (Wd:=Wd) (v:=un) (x:=.tuple #[]) (.inl ⟨_,p1⟩) hr hrs p2 (by rw[p3];rfl) (fun _=>rfl)
 obtain⟨fr2,frs2,k1,k2,k3⟩:=yh (P:=P) (Wd:=Wd) (c:=A1 P n b kind) (v:=ff) (x:=.bool false) (.inl ⟨_,q1⟩) h1 h2 q2 (by rw[q3];rfl) (fun _=>rfl)
 have hb:mS P Wd (G fr1 (frs1 ++ cs)) (G (fr1.finish (.bool false)) (frs1 ++ cs)):=⟨rfl,fun main w _=>oH (s:=(A1 P n b kind).1) h1 q1 (by rw[q4];exact hk) X.F8⟩
 exact⟨_,(h3 cs).trans (hb.te.trans (k3 cs)),_,y0,fr2,frs2,rfl,nF,k1,k2,rfl⟩
include C X hW1 in
theorem Ls {c v m:Nat} (hs:mr b w c 0 m) (hc:c<1000) (h:mw P n b kind .a2 cs g) :
 ∃ g1 w',stepG P main g w = .go g1 w' #[⟨.cell ⟨b,0,none⟩,false,true⟩,⟨.cell ⟨b,0,none⟩,true,true⟩]∧w'=w.setCell ⟨b,0,none⟩ (.int .u64 (cE (c+1:Nat) 0))∧mr b w' (c+1) 0 m∧(eI P n b kind Wd .a4 cs g1∨eI P n b kind Wd .ae cs g1):=by
 obtain⟨cf,y,fr,frs,rfl,hy,hr,hrs,rfl⟩:=h;obtain⟨p1,p2,p3,p4⟩:=C.a2 b kind
 have e:IntKind.u64.wrap (cE c 0+4294967296)=cE (c+1:Nat) 0:=by
  rw[gY (by unfold cE;omega) (by unfold cE;omega)]
  unfold cE;push_cast;omega
 have hst:=lw (main:=main) (cs:=frs ++ cs) (w:=w) hr p1 (iv p2) X.nG (fun x h=>h) hs.cw (hs.fz 0)
 rw[e] at hst;have hy':({ y0 with c:=((c+1:Nat):Int) }:Sy).ok:=⟨by show (0:Int)≤2∧(2:Int)≤1000;decide,by show (0:Int)≤((c+1:Nat):Int)∧((c+1:Nat):Int)≤1000;omega⟩
 have hne:((c+1:Nat):Int)≠0:=by omega
 obtain⟨fr',frs',h1,h2,h3⟩:=jr (P:=P) (Wd:=Wd) (y:={ y0 with c:=((c+1:Nat):Int) }) (v:=.cE 0) (x:=.int .u64 (cE (c+1:Nat) 0)) (.inl ⟨_,p1⟩) hy' (hr.dQ p3) (hrs.dQ p4) rfl
 refine⟨_,_,hst,rfl,hs.aC (c+1) 0,?_⟩
 by_cases h1c:((c+1:Nat):Int)=1
 . left
   have hf:=MV (y:={ y0 with c:=((c+1:Nat):Int) }) (a:=true) (by simpa using h1c)
   have k:=C.a3 b kind (Fl.of { y0 with c:=((c+1:Nat):Int) })
   rw[hf] at k;obtain⟨fr2,frs2,j1,j2,j3⟩:=jr (P:=P) (Wd:=Wd) (v:=pt b 1) (x:=.pointer (some ⟨b,1,none⟩)) (.inr ⟨_,k⟩) hy' h1 h2 rfl;exact⟨rfl,_,(h3 cs).trans ((Hl X hW1 (cs:=cs) k h1).te.trans (j3 cs)),_,_,fr2,frs2,⟨rfl,h1c⟩,hy',j1,j2,rfl⟩
 . right
   exact⟨rfl,_,h3 cs,_,_,fr',frs',⟨hne,.inr ⟨rfl,h1c⟩⟩,hy',h1,h2,rfl⟩
end
section
variable {P:Program} {n:Ce} (C:gk P n) (X:iD P n) {b:Nat} {kind:CallKind} {Wd:World->Prop} {cs:List Frame} {g:Goroutine} {w:World} {main:Bool}
variable (hW0:∀ w,Wd w->∃ v,w.cell? ⟨b,0,none⟩=some v) (hW1:∀ w,Wd w->∃ v,w.cell? ⟨b,1,none⟩=some v)
theorem uW {y:Sy} (h:y.c≠0):decide (y.c=0)=false:=by simpa using h
include C X in
theorem Lt (h:mw P n b kind .a4 cs g) (hk:kind ≠ .early):∃ g1,stepG P main g w = .go g1 w #[⟨.mark (.read ⟨b,1,none⟩),false,true⟩]∧eI P n b kind Wd .ae cs g1:=by
 obtain⟨c,y,fr,frs,⟨rfl,hc⟩,hy,hr,hrs,rfl⟩:=h;have hf:=MV (y:=y) (a:=true) (by simpa using hc)
 obtain⟨p1,p2⟩:=C.a4 b kind (Fl.of y);rw[hf] at p1 p2;obtain⟨fr1,frs1,h1,h2,h3⟩:=jr (P:=P) (Wd:=Wd) (v:=un) (x:=.tuple #[]) (.inl ⟨_,p1⟩) hy hr hrs rfl;exact⟨_,dh (fun ad g h=>by cases h) hr p1 (by rw[p2];exact hk) X.rd,rfl,_,h3 cs,_,y,fr1,frs1,⟨by rw[hc];decide,.inl ⟨rfl,hc⟩⟩,hy,h1,h2,rfl⟩
include C X in
theorem Lu {c0:Frame} {rest:List Frame} (h:mw P n b kind .ae (c0 :: rest) g) (hk:kind ≠ .early):∃ g1,stepG P main g w = .go g1 w #[⟨.mark .enable,false,true⟩]∧g1.status = .running∧nC P Wd g1 (ip kind c0 rest (.tuple #[])):=by
 obtain⟨c,y,fr,frs,⟨hc0,hc⟩,hy,hr,hrs,rfl⟩:=h;obtain⟨fn,body,f1,f2,f3,f4⟩:=X.HU
 have key:mU c.1=some n.en->c.2=[]->c.1.kind=kind->c.1.fn=n.add->∃ g1,stepG P main (G fr (frs ++ c0 :: rest)) w = .go g1 w #[⟨.mark .enable,false,true⟩]∧g1.status = .running∧nC P Wd g1 (ip kind c0 rest (.tuple #[])):=fun k1 k2 k3 k4=>by
  rw[k2] at hrs;obtain rfl:=hrs.iJ;obtain⟨h1,h2⟩:=uV (main:=main) (cs:=[] ++ c0 :: rest) (w:=w) hr k1 X.en
  have hout:hQ ({ c.1 with defers:=[] }:gi) n.add=true:=by
   unfold hQ;unfold mU at k1;split at k1
   . rename_i g cap as hm hd;simp[hm,k4]
   . cases k1
  refine⟨_,h1,rfl,?_⟩;have:=iU (Wd:=Wd) (c:=c0) (rest:=rest) h2 hout f1 f4 (by show c.1.kind≠_;rw[k3];exact hk)
  rw[show ({ c.1 with defers:=[] }:gi).kind=kind from k3] at this
  exact this.te
 rcases hc with ⟨rfl,hc⟩|⟨rfl,hc⟩
 . have hf:=f10 (y:=y) (a:=true) (c:=false) (by simpa using hc) (uW hc0)
   obtain⟨p1,p2,p3,p4⟩:=C.a5 b kind (Fl.of y);rw[hf] at p1 p2 p3 p4;exact key p1 p2 p3 p4
 . have hf:=f10 (y:=y) (a:=false) (c:=false) (by simpa using hc) (uW hc0)
   obtain⟨p1,p2,p3,p4⟩:=C.a6 b kind (Fl.of y);rw[hf] at p1 p2 p3 p4;exact key p1 p2 p3 p4
include C X in
theorem Lv (h:mw P n b kind .d1 cs g):∃ g1,stepG P main g w = .go g1 w #[⟨.mark (.releaseMerge ⟨b,0,none⟩),false,true⟩]∧eI P n b kind Wd .d2 cs g1:=by
 obtain⟨c,y,fr,frs,rfl,hy,hr,hrs,rfl⟩:=h;obtain⟨p1,p2,p3,p4⟩:=C.d1 b;obtain⟨fr1,frs1,h1,h2,h3⟩:=yh (P:=P) (Wd:=Wd) (v:=un) (x:=.tuple #[]) (.inl ⟨_,p1⟩) hr hrs p3 p4 (fun _=>rfl)
 exact⟨_,dh (fun ad g h=>by cases h) hr p1 (iv p2) X.rel,rfl,_,h3 cs,_,y0,fr1,frs1,rfl,nF,h1,h2,rfl⟩
include C X in
theorem Lw (h:mw P n b kind .d2 cs g):∃ g1,stepG P main g w = .go g1 w #[⟨.mark .disable,false,true⟩]∧eI P n b kind Wd .d4 cs g1:=by
 obtain⟨c,y,fr,frs,rfl,hy,hr,hrs,rfl⟩:=h;obtain⟨p1,p2,p3,p4⟩:=C.d2 b;obtain⟨q1,q2,q3,q4⟩:=C.d3 b;refine⟨_,cR C1 hr p1 (iv p2) X.fR,rfl,?_⟩;obtain⟨fr1,frs1,h1,h2,h3⟩:=yh (P:=P) (Wd:=Wd) (v:=un) (x:=.tuple #[]) (.inl ⟨_,p1⟩) hr hrs p3 p4 (fun _=>rfl)
 obtain⟨fr2,frs2,k1,k2,k3⟩:=yh (P:=P) (Wd:=Wd) (c:=D3 P n b) (v:=ff) (x:=.bool false) (.inl ⟨_,q1⟩) h1 h2 q3 q4 (fun _=>rfl)
 have hb:mS P Wd (G fr1 (frs1 ++ cs)) (G (fr1.finish (.bool false)) (frs1 ++ cs)):=⟨rfl,fun main w _=>oH (s:=(D3 P n b).1) h1 q1 (iv q2) X.F8⟩
 exact⟨_,(h3 cs).trans (hb.te.trans (k3 cs)),_,y0,fr2,frs2,rfl,nF,k1,k2,rfl⟩
def iw (P:Program) (fw:FuncId) (tmps:Array Value) (todo:List Item):Frame:=⟨fw,tmps,todo,[],.returning,.deferred,none⟩
def bI (P:Program):Frame:={ (default:Frame) with fn:=P.funcs.size,defers:=[],mode:=.panicking [goexitEntry] }
theorem oQ {fw:FuncId} {fn:Func} {tmps:Array Value} {todo:List Item} (hf:P.funcs[fw]? = some fn) (hr:fn.results=#[]):QuitsD P 2 0 (G (iw P fw tmps todo) [bI P]):=by
 refine .ctl (g':=G (bI P) []) rfl (fun w=>?_) (.ctl (g':={ G (bI P) [] with status:=.finished }) rfl (fun w=>?_) ⟨rfl,rfl⟩)
 . simp[G,stepG,unwind,hf,results,hr,iw,bI,goexitEntry]
   rfl
 . have hc:(bI P).catches P=false:=by
    simp[Frame.catches,bI];rfl
   simp[G,stepG,unwind,bI,goexitEntry] at hc ⊢;simp[hc]
theorem oR {d:Nat}:∀ {m k:Nat} {a c:Goroutine},gZ P (fun _=>True) m a c->QuitsD P k d c->QuitsD P (k+m) d a
 | 0,k,a,c,h,hq=>by obtain rfl:=h;exact hq
 | m+1,k,a,c,h,hq=>by
   obtain⟨g1,⟨h1,h2⟩,h3⟩:=h;exact .ctl h1 (fun w=>h2 false w trivial) (oR h3 hq)
include X in
theorem rj {c:bv} {y:Sy} {fr:Frame} {frs:List Frame} {fw:FuncId} {fn:Func} {tmps:Array Value} {todo:List Item} (hf:P.funcs[fw]? = some fn) (hres:fn.results=#[]) (hy:y.ok) (hr:FR y c.1 fr) (hrs:jp y c.2 frs)
 (h1:mU c.1=some n.en) (h2:hQ (jq P (Fl.of y) c).1 n.done=true) (h3:(jq P (Fl.of y) c).2=[]) (h4:(jq P (Fl.of y) c).1.kind = .deferred):∃ m,QuitsD P m 1 (G fr (frs ++ [iw P fw tmps todo,bI P])):=by
 obtain⟨_,hfr⟩:=uV (P:=P) (main:=false) (cs:=frs ++ [iw P fw tmps todo,bI P]) (w:=default) hr h1 X.en;obtain⟨m,fr',frs',k1,k2,k3⟩:=jd (Wd:=fun _=>True) (P:=P) (Fl.wn hy) 400 hfr hrs
 have k2':jp y [] frs':=by rw[← h3];exact k2
 obtain rfl:=k2'.iJ;obtain⟨fd,body,d1,d2,d3,d4⟩:=X.C6;have hb:=iU (Wd:=fun _=>True) (c:=iw P fw tmps todo) (rest:=[bI P]) k1 h2 d1 d4 (by show (jq P (Fl.of y) c).1.kind≠_;rw[h4];decide)
 have hbk:ip (sgo P (Fl.of y) 400 { c.1 with defers:=[] } c.2).1.kind (iw P fw tmps todo) [bI P] (.tuple #[])=G (iw P fw tmps todo) [bI P]:=by
  rw[show (sgo P (Fl.of y) 400 { c.1 with defers:=[] } c.2).1.kind = .deferred from h4];rfl
 rw[hbk] at hb;have q1:QuitsD P (2+1) 0 (G fr' [iw P fw tmps todo,bI P]):=.ctl rfl (fun w=>hb.2 false w trivial) (oQ hf hres)
 have q2:=oR (k3 [iw P fw tmps todo,bI P]) q1;exact⟨_,.said ⟨.mark .enable,false,true⟩ rfl rfl (fun w=>(uV (P:=P) (main:=false) (cs:=frs ++ [iw P fw tmps todo,bI P]) (w:=w) hr h1 X.en).1) q2⟩
def Gone (P:Program) (Wd:World->Prop) (g1:Goroutine):Prop := ∃ m,QuitsD P m 1 g1
theorem uX {m k:Nat} {a c:Goroutine} (h:gZ P (fun _=>True) m a c) (hq:QuitsD P k 1 c):Gone P Wd a:=⟨_,oR h hq⟩
include C X in
theorem Lx {k v m:Nat} {fw:FuncId} {fn:Func} {tmps:Array Value} {todo:List Item} (hf:P.funcs[fw]? = some fn) (hres:fn.results=#[]) (hs:mr b w (k+1) v m) (hk:k<1000) (hv:v≤1) (h:mw P n b kind .d4 [iw P fw tmps todo,bI P] g) :
 ∃ g1 w',stepG P main g w = .go g1 w' #[⟨.cell ⟨b,0,none⟩,false,true⟩,⟨.cell ⟨b,0,none⟩,true,true⟩]∧w'=w.setCell ⟨b,0,none⟩ (.int .u64 (cE k v))∧mr b w' k v m∧((k=0∧v=1∧eI P n b kind Wd .d5 [iw P fw tmps todo,bI P] g1)∨(¬ (k=0∧v=1)∧Gone P Wd g1)):=by
 obtain⟨cf,y,fr,frs,rfl,hy,hr,hrs,rfl⟩:=h;obtain⟨p1,p2,p3,p4⟩:=C.d4 b
 have e:IntKind.u64.wrap (cE (k+1:Nat) v+18446744069414584320)=cE k v:=by
  have:cE (k+1:Nat) v+18446744069414584320=cE k v+18446744073709551616:=by unfold cE;push_cast;omega
  rw[this];simp[IntKind.wrap,IntKind.bits,IntKind.signed];unfold cE;omega
 have hst:=lw (main:=main) (cs:=frs ++ [iw P fw tmps todo,bI P]) (w:=w) hr p1 (iv p2) X.nG (fun x h=>h) hs.cw (hs.fz 0)
 rw[e] at hst;have hy':({ y0 with c:=(k:Int) }:Sy).ok:=⟨by show (0:Int)≤2∧(2:Int)≤1000;decide,by show (0:Int)≤(k:Int)∧(k:Int)≤1000;omega⟩
 refine⟨_,_,hst,rfl,hs.aC k v,?_⟩;have hv01:v=0∨v=1:=by omega
 rcases hv01 with rfl|rfl
 . refine .inr ⟨by omega,?_⟩
   obtain⟨fr',frs',h1,h2,h3⟩:=jr (P:=P) (Wd:=fun _=>True) (y:={ y0 with c:=(k:Int) }) (v:=.cE 0) (x:=.int .u64 (cE k 0)) (.inl ⟨_,p1⟩) hy' (hr.dQ p3) (hrs.dQ p4) rfl
   have q1:=C.d5 b (Fl.of { y0 with c:=(k:Int) }) (decide ((k:Int)=0))
   obtain⟨q2,q3,q4⟩:=C.MQ b (Fl.of { y0 with c:=(k:Int) }) (decide ((k:Int)=0))
   rw[yi rfl] at q1 q2 q3 q4;obtain⟨m',hq⟩:=rj X hf hres hy' h1 h2 q1 q2 q3 q4;obtain⟨j,hj⟩:=h3 [iw P fw tmps todo,bI P];exact uX hj hq
 . by_cases hk0:k=0
   . refine .inl ⟨hk0,rfl,?_⟩
     obtain⟨fr',frs',h1,h2,h3⟩:=jr (P:=P) (Wd:=Wd) (y:={ y0 with c:=(k:Int) }) (v:=.cE 1) (x:=.int .u64 (cE k 1)) (.inl ⟨_,p1⟩) hy' (hr.dQ p3) (hrs.dQ p4) rfl
     exact⟨rfl,_,h3 _,_,_,fr',frs',⟨rfl,by show (k:Int)=0;omega⟩,hy',h1,h2,rfl⟩
   . refine .inr ⟨by omega,?_⟩
     obtain⟨fr',frs',h1,h2,h3⟩:=jr (P:=P) (Wd:=fun _=>True) (y:={ y0 with c:=(k:Int) }) (v:=.cE 1) (x:=.int .u64 (cE k 1)) (.inl ⟨_,p1⟩) hy' (hr.dQ p3) (hrs.dQ p4) rfl
     have hc0:decide ((k:Int)=0)=false:=by simpa using hk0
     have q1:=C.d6 b (Fl.of { y0 with c:=(k:Int) })
     obtain⟨q2,q3,q4⟩:=C.MR b (Fl.of { y0 with c:=(k:Int) })
     rw[yi hc0] at q1 q2 q3 q4;obtain⟨m',hq⟩:=rj X hf hres hy' h1 h2 q1 q2 q3 q4;obtain⟨j,hj⟩:=h3 [iw P fw tmps todo,bI P];exact uX hj hq
include C X in
theorem Ly {m:Nat} (hs:mr b w 0 1 m) (h:mw P n b kind .d5 cs g):∃ g1,stepG P main g w = .go g1 w #[⟨.cell ⟨b,0,none⟩,false,true⟩]∧eI P n b kind Wd .d6 cs g1:=by
 obtain⟨c,y,fr,frs,⟨rfl,hc⟩,hy,hr,hrs,rfl⟩:=h;have hf:=yi (y:=y) (a:=true) (by simpa using hc)
 obtain⟨p1,p2⟩:=C.d7 b (Fl.of y);rw[hf] at p1 p2;have hv:SR y (.cE 1) (.int .u64 (cE 0 1)):=by show _=Value.int .u64 (cE y.c 1);rw[hc]
 obtain⟨fr1,frs1,h1,h2,h3⟩:=jr (P:=P) (Wd:=Wd) (.inl ⟨_,p1⟩) hy hr hrs hv;exact⟨_,oP hr p1 (iv p2) X.qd hs.cw,rfl,_,h3 cs,_,y,fr1,frs1,⟨rfl,hc⟩,hy,h1,h2,rfl⟩
include C X in
theorem Lz {m:Nat} (hs:mr b w 0 1 m) (h:mw P n b kind .d6 cs g):∃ g1 w',stepG P main g w = .go g1 w' #[⟨.cell ⟨b,0,none⟩,true,true⟩]∧w'=w.setCell ⟨b,0,none⟩ (.int .u64 (cE 0 0))∧mr b w' 0 0 m∧eI P n b kind Wd .d7 cs g1:=by
 obtain⟨c,y,fr,frs,⟨rfl,hc⟩,hy,hr,hrs,rfl⟩:=h;have hf:=yi (y:=y) (a:=true) (by simpa using hc)
 obtain⟨p1,p2⟩:=C.d8 b (Fl.of y);rw[hf] at p1 p2;obtain⟨fr1,frs1,h1,h2,h3⟩:=jr (P:=P) (Wd:=Wd) (v:=un) (x:=.tuple #[]) (.inl ⟨_,p1⟩) hy hr hrs rfl;exact⟨_,_,Aw hr p1 (iv p2) X.Ax hs.cw (hs.fz 0),rfl,hs.aC 0 0,rfl,_,h3 cs,_,y,fr1,frs1,⟨rfl,hc⟩,hy,h1,h2,rfl⟩
include C X in
theorem LA {v m:Nat} {fw:FuncId} {fn:Func} {tmps:Array Value} {todo:List Item} (hf:P.funcs[fw]? = some fn) (hres:fn.results=#[]) (hs:mr b w 0 v m) (hm:m≤1000) (h:mw P n b kind .d7 [iw P fw tmps todo,bI P] g) :
 ∃ g1 w',stepG P main g w = .go g1 w' (semEvents ⟨b,1,none⟩)∧w'=w.setCell ⟨b,1,none⟩ (.int .u32 (m+1:Nat))∧mr b w' 0 v (m+1)∧Gone P Wd g1:=by
 obtain⟨c,y,fr,frs,⟨rfl,hc⟩,hy,hr,hrs,rfl⟩:=h;have hfl:=yi (y:=y) (a:=true) (by simpa using hc)
 obtain⟨p1,p2⟩:=C.d9 b (Fl.of y);rw[hfl] at p1 p2;have hst:=kB (main:=main) (cs:=frs ++ [iw P fw tmps todo,bI P]) (w:=w) hr p1 (iv p2) X.kC hs.cs (hs.fz 1);have e:IntKind.u32.wrap ((m:Int)+1)=((m+1:Nat):Int):=by rw[IntKind.wrap_u32];omega
 rw[e] at hst;obtain⟨fr1,frs1,h1,h2,h3⟩:=jr (P:=P) (Wd:=fun _=>True) (v:=un) (x:=.tuple #[]) (.inl ⟨_,p1⟩) hy hr hrs rfl
 have q1:=C.da b (Fl.of y);obtain⟨q2,q3,q4⟩:=C.db b (Fl.of y);rw[hfl] at q1 q2 q3 q4;obtain⟨m',hq⟩:=rj X hf hres hy h1 h2 q1 q2 q3 q4;obtain⟨j,hj⟩:=h3 [iw P fw tmps todo,bI P];exact⟨_,_,hst,rfl,hs.yf (m+1),uX hj hq⟩
end
section
variable {P:Program} {n:Ce} (C:gk P n) (X:iD P n) {b:Nat} {kind:CallKind} {Wd:World->Prop} {cs:List Frame} {g:Goroutine} {w:World} {main:Bool}
variable (hW0:∀ w,Wd w->∃ v,w.cell? ⟨b,0,none⟩=some v) (hW1:∀ w,Wd w->∃ v,w.cell? ⟨b,1,none⟩=some v)
include C X in
theorem LB (h:mw P n b kind .w0 cs g) (hk:kind ≠ .early):∃ g1,stepG P main g w = .go g1 w #[⟨.mark .disable,false,true⟩]∧eI P n b kind Wd .w1 cs g1:=by
 obtain⟨c,y,fr,frs,rfl,hy,hr,hrs,rfl⟩:=h;obtain⟨p1,p2,p3,p4⟩:=C.w0 b kind;obtain⟨fr1,frs1,h1,h2,h3⟩:=yh (P:=P) (Wd:=Wd) (v:=un) (x:=.tuple #[]) (.inl ⟨_,p1⟩) hr hrs p2 (by rw[p3];rfl) (fun _=>rfl)
 exact⟨_,cR C1 hr p1 (by rw[p4];exact hk) X.fR,rfl,_,h3 cs,_,y0,fr1,frs1,rfl,nF,h1.keep [5],h2.mq [[0]],rfl⟩
include C X in
theorem LC {c m:Nat} (hs:mr b w c 0 m) (hc:c≤1000) (h:mw P n b kind .w1 cs g) :
 ∃ g1,stepG P main g w = .go g1 w #[⟨.cell ⟨b,0,none⟩,false,true⟩]∧((c=0∧eI P n b kind Wd .we cs g1)∨(c≠0∧eI P n b kind Wd (.w2 c) cs g1)):=by
 obtain⟨cf,y,fr,frs,rfl,hy,hr,hrs,rfl⟩:=h;obtain⟨p1,p2,p3,p4⟩:=C.w1 b kind;have hy':({ y0 with c:=(c:Int) }:Sy).ok:=⟨by show (0:Int)≤2∧(2:Int)≤1000;decide,by show (0:Int)≤(c:Int)∧(c:Int)≤1000;omega⟩
 obtain⟨fr',frs',h1,h2,h3⟩:=jr (P:=P) (Wd:=Wd) (y:={ y0 with c:=(c:Int) }) (v:=.cE 0) (x:=.int .u64 (cE c 0)) (.inl ⟨_,p1⟩) hy' (hr.dQ p3) (hrs.dQ p4) rfl
 refine⟨_,oP hr p1 (iv p2) X.qd hs.cw,?_⟩
 by_cases h0:c=0
 . exact .inl ⟨h0,rfl,_,h3 cs,_,_,fr',frs',.inl ⟨rfl,by show (c:Int)=0;omega⟩,hy',h1,h2,rfl⟩
 . exact .inr ⟨h0,rfl,_,h3 cs,_,_,fr',frs',⟨rfl,rfl,h0⟩,hy',h1,h2,rfl⟩
include C X hW0 in
theorem LE (h:mw P n b kind .we cs g) (hk:kind ≠ .early):∃ g1,stepG P main g w = .go g1 w #[⟨.mark .enable,false,true⟩]∧eI P n b kind Wd .wa cs g1:=by
 obtain⟨c,y,fr,frs,hc,hy,hr,hrs,rfl⟩:=h
 rcases hc with ⟨rfl,hc⟩|⟨rfl,hc⟩
 . have hf:=yi (y:=y) (a:=true) (by simpa using hc)
   obtain⟨p1,p2⟩:=C.w2 b kind (Fl.of y);have q1:=C.w3 b kind (Fl.of y);rw[hf] at p1 p2 q1;obtain⟨fr1,frs1,h1,h2,h3⟩:=jr (P:=P) (Wd:=Wd) (v:=un) (x:=.tuple #[]) (.inl ⟨_,p1⟩) hy hr hrs rfl;obtain⟨fr2,frs2,j1,j2,j3⟩:=jr (P:=P) (Wd:=Wd) (c:=WC P n b kind (Fl.of y)) (v:=pt b 0) (x:=.pointer (some ⟨b,0,none⟩)) (.inr ⟨_,q1⟩) hy h1 h2 rfl;exact⟨_,cR C2 hr p1 (by rw[p2];exact hk) X.en,rfl,_,(h3 cs).trans ((C8 X hW0 (c:=WC P n b kind (Fl.of y)) (cs:=cs) q1 h1).te.trans (j3 cs)),_,y,fr2,frs2,.inl ⟨rfl,hc⟩,hy,j1,j2,rfl⟩
 . have hf:=yi (y:=y) (a:=false) (uW hc)
   obtain⟨p1,p2⟩:=C.wc b kind (Fl.of y);have q1:=C.wd b kind (Fl.of y);rw[hf] at p1 p2 q1;obtain⟨fr1,frs1,h1,h2,h3⟩:=jr (P:=P) (Wd:=Wd) (v:=un) (x:=.tuple #[]) (.inl ⟨_,p1⟩) hy hr hrs rfl;obtain⟨fr2,frs2,j1,j2,j3⟩:=jr (P:=P) (Wd:=Wd) (c:=JY P n b kind (Fl.of y)) (v:=pt b 0) (x:=.pointer (some ⟨b,0,none⟩)) (.inr ⟨_,q1⟩) hy h1 h2 rfl;exact⟨_,cR C2 hr p1 (by rw[p2];exact hk) X.en,rfl,_,(h3 cs).trans ((C8 X hW0 (c:=JY P n b kind (Fl.of y)) (cs:=cs) q1 h1).te.trans (j3 cs)),_,y,fr2,frs2,.inr ⟨rfl,hc⟩,hy,j1,j2,rfl⟩
include C X in
theorem LF {c0:Frame} {rest:List Frame} (h:mw P n b kind .wa (c0 :: rest) g) (hk:kind ≠ .early):∃ g1,stepG P main g w = .go g1 w #[⟨.mark (.acquire ⟨b,0,none⟩),false,true⟩]∧g1.status = .running∧nC P Wd g1 (ip kind c0 rest (.tuple #[])):=by
 obtain⟨c,y,fr,frs,hc,hy,hr,hrs,rfl⟩:=h;obtain⟨fn,body,f1,f2,f3,f4⟩:=X.C7
 rcases hc with ⟨rfl,hc⟩|⟨rfl,hc⟩
 . have hf:=yi (y:=y) (a:=true) (by simpa using hc)
   obtain⟨p1,p2⟩:=C.w4 b kind (Fl.of y);obtain⟨q1,q2,q3⟩:=C.w5 b kind (Fl.of y);rw[hf] at p1 p2 q1 q2 q3;obtain⟨fr1,frs1,h1,h2,h3⟩:=jr (P:=P) (Wd:=Wd) (v:=un) (x:=.tuple #[]) (.inl ⟨_,p1⟩) hy hr hrs rfl;have h2':jp y (WB P n b kind (Fl.of y)).2 frs1:=h2;rw[q2] at h2';obtain rfl:=h2'.iJ;have hb:=iU (Wd:=Wd) (c:=c0) (rest:=rest) (s:=(WB P n b kind (Fl.of y)).1) h1 q1 f1 f4 (by rw[q3];exact hk)
   rw[q3] at hb;exact⟨_,dh (fun ad g h=>by cases h) hr p1 (by rw[p2];exact hk) X.acq,rfl,(h3 (c0 :: rest)).trans hb.te⟩
 . have hf:=yi (y:=y) (a:=false) (uW hc)
   obtain⟨p1,p2⟩:=C.we b kind (Fl.of y);obtain⟨q1,q2,q3⟩:=C.wf b kind (Fl.of y);rw[hf] at p1 p2 q1 q2 q3;obtain⟨fr1,frs1,h1,h2,h3⟩:=jr (P:=P) (Wd:=Wd) (v:=un) (x:=.tuple #[]) (.inl ⟨_,p1⟩) hy hr hrs rfl;have h2':jp y (Hk P n b kind (Fl.of y)).2 frs1:=h2;rw[q2] at h2';obtain rfl:=h2'.iJ;have hb:=iU (Wd:=Wd) (c:=c0) (rest:=rest) (s:=(Hk P n b kind (Fl.of y)).1) h1 q1 f1 f4 (by rw[q3];exact hk)
   rw[q3] at hb;exact⟨_,dh (fun ad g h=>by cases h) hr p1 (by rw[p2];exact hk) X.acq,rfl,(h3 (c0 :: rest)).trans hb.te⟩
theorem F9 {c c' v v':Nat} (hv:v≤1000) (hv':v'≤1000):cE c v=cE c' v' ↔ (c=c'∧v=v'):=by
 unfold cE;omega
include C X hW1 in
theorem LG {k c m:Nat} (hs:mr b w c 0 m) (h:mw P n b kind (.w2 k) cs g) :
 (c=k∧∃ g1 w',stepG P main g w = .go g1 w' #[⟨.cell ⟨b,0,none⟩,false,true⟩,⟨.cell ⟨b,0,none⟩,true,true⟩]∧w'=w.setCell ⟨b,0,none⟩ (.int .u64 (cE k 1))∧mr b w' k 1 m∧eI P n b kind Wd .w3 cs g1) ∨
 (c≠k∧∃ g1,stepG P main g w = .go g1 w #[⟨.cell ⟨b,0,none⟩,false,true⟩]∧eI P n b kind Wd .w1 cs g1):=by
 obtain⟨cf,y,fr,frs,⟨rfl,hc,hk0⟩,hy,hr,hrs,rfl⟩:=h;have hyc:y.c≠0:=by rw[hc];omega
 have hf:=yi (y:=y) (a:=false) (uW hyc);obtain⟨p1,p2⟩:=C.w6 b kind (Fl.of y);rw[hf] at p1 p2
 have ho:∀ j:Nat,∀ x,SR y (.cE j) x->x = .int .u64 (cE k j):=fun j x hx=>by
  have hx:x = .int .u64 (cE y.c j):=hx;rw[hx,hc]
 by_cases hck:c=k
 . subst hck
   refine .inl ⟨rfl,_,_,dX hr p1 (iv p2) X.rg (ho 0) (ho 1) hs.cw (hs.fz 0),rfl,hs.aC c 1,rfl,?_⟩;have q1:=C.w8 b kind (Fl.of y);rw[hf] at q1;obtain⟨fr1,frs1,h1,h2,h3⟩:=jr (P:=P) (Wd:=Wd) (v:=tt) (x:=.bool true) (.inl ⟨_,p1⟩) hy hr hrs rfl;obtain⟨fr2,frs2,j1,j2,j3⟩:=jr (P:=P) (Wd:=Wd) (c:=W3 P n b kind (Fl.of y)) (v:=pt b 1) (x:=.pointer (some ⟨b,1,none⟩)) (.inr ⟨_,q1⟩) hy h1 h2 rfl;exact⟨_,(h3 cs).trans ((Hl X hW1 (c:=W3 P n b kind (Fl.of y)) (cs:=cs) q1 h1).te.trans (j3 cs)),_,y,fr2,frs2,⟨rfl,hyc⟩,hy,j1,j2,rfl⟩
 . have hne : ¬ cE c 0=cE k 0:=fun e=>hck ((F9 (by omega) (by omega)).1 e).1
   refine .inr ⟨hck,_,eH hr p1 (iv p2) X.rg (ho 0) (ho 1) hs.cw (hs.fz 0) hne,rfl,?_⟩;have q1:=C.w7 b kind (Fl.of y);rw[hf] at q1;obtain⟨fr1,frs1,h1,h2,h3⟩:=jr (P:=P) (Wd:=Wd) (v:=ff) (x:=.bool false) (.inl ⟨_,p1⟩) hy hr hrs rfl;have k1:=h1.keep [5];have k2:=h2.mq [[0]];refine⟨_,h3 cs,W1 P n b kind,y,fr1,frs1,rfl,hy,?_,?_,rfl⟩
   . rw[← q1];exact k1
   . rw[← q1];exact k2
include C X in
theorem LH (h:mw P n b kind .w3 cs g) (hk:kind ≠ .early):∃ g1,stepG P main g w = .go g1 w #[⟨.mark (.write ⟨b,1,none⟩),false,true⟩]∧eI P n b kind Wd .w4 cs g1:=by
 obtain⟨c,y,fr,frs,⟨rfl,hc⟩,hy,hr,hrs,rfl⟩:=h;have hf:=yi (y:=y) (a:=false) (uW hc);obtain⟨p1,p2⟩:=C.w9 b kind (Fl.of y);rw[hf] at p1 p2;obtain⟨fr1,frs1,h1,h2,h3⟩:=jr (P:=P) (Wd:=Wd) (v:=un) (x:=.tuple #[]) (.inl ⟨_,p1⟩) hy hr hrs rfl;exact⟨_,dh (fun ad g h=>by cases h) hr p1 (by rw[p2];exact hk) X.wr,rfl,_,h3 cs,_,y,fr1,frs1,⟨rfl,hc⟩,hy,h1,h2,rfl⟩
include C X in
theorem LI {c v m:Nat} (hs:mr b w c v m) (hm:m≠0) (h:mw P n b kind .w4 cs g) (hk:kind ≠ .early) :
 ∃ g1 w',stepG P main g w = .go g1 w' (semEvents ⟨b,1,none⟩)∧w'=w.setCell ⟨b,1,none⟩ (.int .u32 (m-1:Nat))∧mr b w' c v (m-1)∧eI P n b kind Wd .w5 cs g1:=by
 obtain⟨cf,y,fr,frs,⟨rfl,hc⟩,hy,hr,hrs,rfl⟩:=h;have hf:=yi (y:=y) (a:=false) (uW hc);obtain⟨p1,p2⟩:=C.wa b kind (Fl.of y);rw[hf] at p1 p2;have hst:=nD (main:=main) (cs:=frs ++ cs) (w:=w) (n:=(m:Int)) hr p1 (by rw[p2];exact hk) X.yd hs.cs (by omega) (hs.fz _)
 have e:((m:Int)-1)=((m-1:Nat):Int):=by omega
 rw[e] at hst;obtain⟨fr1,frs1,h1,h2,h3⟩:=jr (P:=P) (Wd:=Wd) (v:=un) (x:=.tuple #[]) (.inl ⟨_,p1⟩) hy hr hrs rfl;exact⟨_,_,hst,rfl,hs.yf (m-1),rfl,_,h3 cs,_,y,fr1,frs1,⟨rfl,hc⟩,hy,h1,h2,rfl⟩
include C X in
theorem JZ {c v:Nat} (hs:mr b w c v 0) (h:mw P n b kind .w4 cs g):stepG P main g w = .go { g with status:=.blocked } w #[]:=by
 obtain⟨cf,y,fr,frs,⟨rfl,hc⟩,hy,hr,hrs,rfl⟩:=h;have hf:=yi (y:=y) (a:=false) (uW hc);obtain⟨p1,p2⟩:=C.wa b kind (Fl.of y);rw[hf] at p1 p2;exact tj hr p1 X.yd hs.cs
include C X in
theorem LJ {m:Nat} (hs:mr b w 0 0 m) (h:mw P n b kind .w5 cs g):∃ g1,stepG P main g w = .go g1 w #[⟨.cell ⟨b,0,none⟩,false,true⟩]∧eI P n b kind Wd .we cs g1:=by
 obtain⟨c,y,fr,frs,⟨rfl,hc⟩,hy,hr,hrs,rfl⟩:=h;have hf:=yi (y:=y) (a:=false) (uW hc);obtain⟨p1,p2⟩:=C.wb b kind (Fl.of y);rw[hf] at p1 p2;have hst:=oP (main:=main) (cs:=frs ++ cs) hr p1 (iv p2) X.qd hs.cw;obtain⟨fr1,frs1,h1,h2,h3⟩:=jr (P:=P) (Wd:=Wd) (v:=u64 0) (x:=.int .u64 0) (.inl ⟨_,p1⟩) hy hr hrs rfl;exact⟨_,hst,rfl,_,h3 cs,_,y,fr1,frs1,.inr ⟨rfl,hc⟩,hy,h1,h2,rfl⟩
end
structure mV (P:Program) (n:tl):Prop where
 lock:∃ fn body,P.funcs[n.lock]? = some fn∧fn.body=some body∧fn.ntmps=6∧fn.results=#[]
 unlock:∃ fn body,P.funcs[n.unlock]? = some fn∧fn.body=some body∧fn.ntmps=6∧fn.results=#[]
section
variable {P:Program} {n:tl} (C:fA P n) (X:fB P n) (F:mV P n) {b o:Nat} {kind:CallKind} {Wd:World->Prop} {cs:List Frame} {g:Goroutine} {w:World} {main:Bool}
include F in
theorem my:∃ g2,nC P Wd (G (Frame.enter P n.lock #[.pointer (some ⟨b,o,none⟩)] kind) cs) g2∧kq P n b o kind .ld cs g2:=by
 obtain⟨fn,body,h1,h2,h3,h4⟩:=F.lock;exact yg ⟨fn,body,h1,h2,h3⟩
include F in
theorem kT:∃ g2,nC P Wd (G (Frame.enter P n.unlock #[.pointer (some ⟨b,o,none⟩)] kind) cs) g2∧kq P n b o kind .zq cs g2:=by
 obtain⟨fn,body,h1,h2,h3,h4⟩:=F.unlock
 have hs:FR y0 (b0 P n.unlock [pt b o] kind) (Frame.enter P n.unlock #[.pointer (some ⟨b,o,none⟩)] kind):=nH h1 h2 rfl fun i a h=>by
  match i with
  | 0=>simp at h;subst h;exact⟨_,rfl,rfl⟩
  | i+1=>simp at h
 obtain⟨m,fr',frs',e1,e2,e3⟩:=jd (Wd:=Wd) (P:=P) yj 400 hs (st:=[]) (frs:=[]) trivial;exact⟨_,⟨m,e3 cs⟩,_,y0,fr',frs',rfl,nF,e1.keep [0,5],e2.keep [],rfl⟩
include F in
theorem nI {c:Frame} {rest:List Frame} (h:kq P n b o kind .back (c :: rest) g) (hk:kind ≠ .early):nC P Wd g (ip kind c rest (.tuple #[])):=by
 obtain⟨cf,y,fr,frs,rfl,hy,hr,hrs,rfl⟩:=h;obtain⟨fn,body,h1,h2,h3,h4⟩:=F.lock;have h2':jp y [] frs:=hrs;obtain rfl:=h2'.iJ;exact (iU (Wd:=Wd) (c:=c) (rest:=rest) (s:=(BK n kind).1) (f:=n.lock) hr (by simp[BK,hQ]) h1 h4 hk).te
include F in
theorem ly {c:Frame} {rest:List Frame} (h:kq P n b o kind .wo (c :: rest) g) (hk:kind ≠ .early):nC P Wd g (ip kind c rest (.tuple #[])):=by
 obtain⟨cf,y,fr,frs,rfl,hy,hr,hrs,rfl⟩:=h;obtain⟨fn,body,h1,h2,h3,h4⟩:=F.unlock;have h2':jp y [] frs:=hrs;obtain rfl:=h2'.iJ;exact (iU (Wd:=Wd) (c:=c) (rest:=rest) (s:=(JK n kind).1) (f:=n.unlock) hr (by simp[JK,hQ]) h1 h4 hk).te
end
end Go.aZ
