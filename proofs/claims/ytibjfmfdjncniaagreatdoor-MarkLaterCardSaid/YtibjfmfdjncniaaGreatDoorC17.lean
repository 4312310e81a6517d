/- Part 17 of the proof. -/
import Derived.Conc.QuitsD
import Derived.Test.YtibjfmfdjncniaaGreatDoorC16
set_option linter.all false
namespace Go.Pal
open Go.Conc
inductive GPc where
  | a0|a2|a4|ae
  | d1|d2|d4|d5|d6|d7
  | w0|w1|we|wa|w2 (c:Nat) | w3|w4|w5
structure ShG (b:Nat) (w:World) (c v m:Nat):Prop where
  cw:w.cell? ⟨b,0,none⟩=some (.int .u64 (grp c v))
  cs:w.cell? ⟨b,1,none⟩=some (.int .u32 m)
  fz:∀ i,w.frozen? ⟨b,i,none⟩=false
theorem ShG.setW {b:Nat} {w:World} {c v m:Nat} (h:ShG b w c v m) (c' v':Nat):ShG b (w.setCell ⟨b,0,none⟩ (.int .u64 (grp c' v'))) c' v' m:=
  ⟨cell_set_self h.cw,by rw[cell_setCell_ne (by simp)];exact h.cs,fun i=>by rw[frozen_set];exact h.fz i⟩
theorem ShG.setS {b:Nat} {w:World} {c v m:Nat} (h:ShG b w c v m) (m':Nat):ShG b (w.setCell ⟨b,1,none⟩ (.int .u32 m')) c v m':=
  ⟨by rw[cell_setCell_ne (by simp)];exact h.cw,cell_set_self h.cs,fun i=>by rw[frozen_set];exact h.fz i⟩
section
variable (P:Program) (n:GrN) (b:Nat) (kind:CallKind)
def GtC (p:GPc) (c:Cfg) (y:Sy):Prop:=
  match p with
  | .a0=>c=A0 P n b kind
  | .a2=>c=A2 P n b kind
  | .a4=>c=A4 P n b kind (Fl.of y)∧y.c=1
  | .ae=>y.c≠0∧((c=A5 P n b kind (Fl.of y)∧y.c=1)∨(c=A3 P n b kind (Fl.of y)∧y.c≠1))
  | .d1=>c=D1 P n b
  | .d2=>c=D2 P n b
  | .d4=>c=D4 P n b
  | .d5=>c=DE P n b (Fl.of y) 1∧y.c=0
  | .d6=>c=D6 P n b (Fl.of y)∧y.c=0
  | .d7=>c=D7 P n b (Fl.of y)∧y.c=0
  | .w0=>c=W0 P n b kind
  | .w1=>c=W1 P n b kind
  | .we=>(c=WE P n b kind (Fl.of y)∧y.c=0)∨(c=WE2 P n b kind (Fl.of y)∧y.c≠0)
  | .wa=>(c=WA P n b kind (Fl.of y)∧y.c=0)∨(c=WA2 P n b kind (Fl.of y)∧y.c≠0)
  | .w2 k=>c=WE P n b kind (Fl.of y)∧y.c=k∧k≠0
  | .w3=>c=W3b P n b kind (Fl.of y)∧y.c≠0
  | .w4=>c=W4 P n b kind (Fl.of y)∧y.c≠0
  | .w5=>c=W5 P n b kind (Fl.of y)∧y.c≠0
def GAt (p:GPc) (cs:List Frame) (g:Goroutine):Prop := ∃ c y fr frs,GtC P n b kind p c y∧y.ok∧FR y c.1 fr∧FRs y c.2 frs∧g=G fr (frs ++ cs)
def GNext (Wd:World->Prop) (p:GPc) (cs:List Frame) (g1:Goroutine):Prop:=g1.status = .running∧∃ g2,Sil P Wd g1 g2∧GAt P n b kind p cs g2
end
theorem GAt.running {P:Program} {n:GrN} {b:Nat} {kind:CallKind} {p:GPc} {cs:List Frame} {g:Goroutine} (h:GAt P n b kind p cs g):g.status = .running∧g.offers=none:=by
  obtain⟨c,y,fr,frs,_,_,_,_,rfl⟩:=h;exact⟨rfl,rfl⟩
theorem sfin_some {s:SFr} {v:SV} (h:(∃ x,opAt s=some x)∨(∃ x,cvAt s=some x)):∃ s',sfin s v=some s':=by
  unfold sfin
  rcases h with ⟨x,h⟩|⟨x,h⟩
  . unfold opAt at h
    split at h
    . rename_i ops i rest k hm ht;rw[ht];exact⟨_,rfl⟩
    . cases h
  . unfold cvAt at h
    split at h
    . rename_i ops i rest k hm ht;rw[ht];exact⟨_,rfl⟩
    . cases h
section
variable {P:Program} {Wd:World->Prop} {y:Sy} {c:Cfg} {v:SV} {x:Value} {fr:Frame} {frs:List Frame}
theorem advN (h:(∃ x,opAt c.1=some x)∨(∃ x,cvAt c.1=some x)) (hy:y.ok) (hr:FR y c.1 fr) (hrs:FRs y c.2 frs) (hv:SR y v x) :
    ∃ fr' frs',FR y (next P (Fl.of y) c v).1 fr'∧FRs y (next P (Fl.of y) c v).2 frs'∧∀ cs,Sil P Wd (G (fr.finish x) (frs ++ cs)) (G fr' (frs' ++ cs)):=by
  obtain⟨s',hs⟩:=sfin_some (v:=v) h;obtain⟨m,fr',frs',h1,h2,h3⟩:=sgo_ok (Wd:=Wd) (Fl.of_at hy) 400 (P:=P) (hr.fin hs hv) hrs;unfold next
  rw[hs];exact⟨fr',frs',h1,h2,fun cs=>⟨m,h3 cs⟩⟩
theorem advP (h:(∃ x,opAt c.1=some x)∨(∃ x,cvAt c.1=some x)) (hr:FR y c.1 fr) (hrs:FRs y c.2 frs) (hp:c.1.env.all plain=true) (hps:c.2.all (·.env.all plain)=true) (hv:∀ y,SR y v x) :
    ∃ fr' frs',FR y0 (next P fl0 c v).1 fr'∧FRs y0 (next P fl0 c v).2 frs'∧∀ cs,Sil P Wd (G (fr.finish x) (frs ++ cs)) (G fr' (frs' ++ cs)):=by
  obtain⟨s',hs⟩:=sfin_some (v:=v) h;have hf:fl0.At y0:=⟨by decide,by decide,rfl,rfl,rfl,rfl,rfl,by decide⟩
  obtain⟨m,fr',frs',h1,h2,h3⟩:=sgo_ok (Wd:=Wd) hf 400 (P:=P) ((hr.resym hp).fin hs (hv y0)) (hrs.resym hps);unfold next
  rw[hs];exact⟨fr',frs',h1,h2,fun cs=>⟨m,h3 cs⟩⟩
end
theorem FRs.maskL {y:Sy}:∀ {st:List SFr} {frs:List Frame} (ls:List (List Nat)),FRs y st frs->FRs y (Go.Pal.maskL st ls) frs
  | [],frs,ls,h=>by rw[h.nil_inv];trivial
  | s :: st,frs,[],h=>by
    obtain⟨f,fs',rfl,h1,h2⟩:=h.cons_inv;exact⟨h1.keep [],h2.maskL []⟩
  | s :: st,frs,l :: ls,h=>by
    obtain⟨f,fs',rfl,h1,h2⟩:=h.cons_inv;exact⟨h1.keep l,h2.maskL ls⟩
theorem f10 {y:Sy} {a c:Bool} (h1:decide (y.c=1)=a) (h0:decide (y.c=0)=c):f0 (f1 (Fl.of y) a) c=Fl.of y:=by subst h1;subst h0;rfl
theorem f1' {y:Sy} {a:Bool} (h1:decide (y.c=1)=a):f1 (Fl.of y) a=Fl.of y:=by subst h1;rfl
theorem f0' {y:Sy} {a:Bool} (h1:decide (y.c=0)=a):f0 (Fl.of y) a=Fl.of y:=by subst h1;rfl
theorem kOK_ne {c:Cfg} (h:kOK c=true):c.1.kind ≠ .early:=by
  unfold kOK at h;have:c.1.kind = .normal:=by simpa using h
  rw[this];decide
section
variable {P:Program} {n:GrN} (C:GrChk P n) (X:GrExt P n) {b:Nat} {kind:CallKind} {Wd:World->Prop} {cs:List Frame} {g:Goroutine} {w:World} {main:Bool}
variable (hW0:∀ w,Wd w->∃ v,w.cell? ⟨b,0,none⟩=some v) (hW1:∀ w,Wd w->∃ v,w.cell? ⟨b,1,none⟩=some v)
include X hW1 in
theorem convS {y:Sy} {c:Cfg} {fr:Frame} {frs:List Frame} (h:cvAt c.1=some (n.tS,n.tU,pt b 1)) (hr:FR y c.1 fr):Sil1 P Wd (G fr (frs ++ cs)) (G (fr.finish (.pointer (some ⟨b,1,none⟩))) (frs ++ cs)):=by
  obtain⟨t,h1,h2,h3⟩:=X.tyS;exact⟨rfl,fun main w hw=>stop_conv hr h h1 h2 h3 (hW1 w hw)⟩
include X hW0 in
theorem convG {y:Sy} {c:Cfg} {fr:Frame} {frs:List Frame} (h:cvAt c.1=some (n.tG,n.tU,pt b 0)) (hr:FR y c.1 fr):Sil1 P Wd (G fr (frs ++ cs)) (G (fr.finish (.pointer (some ⟨b,0,none⟩))) (frs ++ cs)):=by
  obtain⟨t,h1,h2,h3⟩:=X.tyG;exact⟨rfl,fun main w hw=>stop_conv hr h h1 h2 h3 (hW0 w hw)⟩
theorem enter_fr {f:FuncId} {args:List SV} {vals:Array Value} {y:Sy} {fn:Func} {body:Code} (h1:P.funcs[f]? = some fn) (h2:fn.body=some body) (hl:args.length=vals.size) (hv:∀ (i:Nat) a,args[i]? = some a->∃ x,vals[i]? = some x∧SR y a x):FR y (sEnter P f args kind) (Frame.enter P f vals kind):=by
  refine⟨by simp[sEnter,h1,Frame.enter],by simp[sEnter,h1,h2,Frame.enter],by simp[sEnter,h1,Frame.enter],by simp[sEnter,h1,Frame.enter,SMode.of],by simp[sEnter,h1,Frame.enter],rfl,by simp[sEnter,h1,Frame.enter,hl],fun t=>?_⟩
  simp only[sEnter,h1,Frame.enter,Option.map_some,Option.getD_some];rw[Array.getD_eq_getD_getElem?,List.getD_eq_getElem?_getD]
  by_cases ht:t<args.length
  . rw[Array.getElem?_append_left (by omega),List.getElem?_append_left ht]
    obtain⟨x,hx,hs⟩:=hv t _ (List.getElem?_eq_getElem ht);rw[List.getElem?_eq_getElem ht,hx];exact hs
  . rw[Array.getElem?_append_right (by omega),List.getElem?_append_right (by omega),List.getElem?_replicate]
    split <;> trivial
include X in
theorem grp_add_enter:∃ g2,Sil P Wd (G (Frame.enter P n.add #[.pointer (some ⟨b,0,none⟩),.int .i64 1] kind) cs) g2∧GAt P n b kind .a0 cs g2:=by
  obtain⟨fn,body,h1,h2,h3,h4⟩:=X.fAdd
  have hs:FR y0 (sEnter P n.add [pt b 0,i64 1] kind) (Frame.enter P n.add #[.pointer (some ⟨b,0,none⟩),.int .i64 1] kind):=enter_fr h1 h2 rfl fun i a h=>by
    match i with
    | 0=>simp at h;subst h;exact⟨_,rfl,rfl⟩
    | 1=>simp at h;subst h;exact⟨_,rfl,rfl⟩
    | i+2=>simp at h
  have hf:fl0.At y0:=⟨by decide,by decide,rfl,rfl,rfl,rfl,rfl,by decide⟩
  obtain⟨m,fr',frs',e1,e2,e3⟩:=sgo_ok (Wd:=Wd) (P:=P) hf 400 hs (st:=[]) (frs:=[]) trivial;exact⟨_,⟨m,e3 cs⟩,_,y0,fr',frs',rfl,y0_ok,e1,e2,rfl⟩
theorem fl0_at:fl0.At y0:=⟨by decide,by decide,rfl,rfl,rfl,rfl,rfl,by decide⟩
include X in
theorem grp_wait_enter (C:GrChk P n):∃ g2,Sil P Wd (G (Frame.enter P n.wait #[.pointer (some ⟨b,0,none⟩)] kind) cs) g2∧GAt P n b kind .w0 cs g2:=by
  obtain⟨fn,body,h1,h2,h3,h4⟩:=X.fWait
  have hs:FR y0 (sEnter P n.wait [pt b 0] kind) (Frame.enter P n.wait #[.pointer (some ⟨b,0,none⟩)] kind):=enter_fr h1 h2 rfl fun i a h=>by
    match i with
    | 0=>simp at h;subst h;exact⟨_,rfl,rfl⟩
    | i+1=>simp at h
  obtain⟨m,fr',frs',e1,e2,e3⟩:=sgo_ok (Wd:=Wd) (P:=P) fl0_at 400 hs (st:=[]) (frs:=[]) trivial;exact⟨_,⟨m,e3 cs⟩,_,y0,fr',frs',rfl,y0_ok,e1.keep [0],e2.maskL [],rfl⟩
include X hW0 in
theorem grp_done_enter (C:GrChk P n):∃ g2,Sil P Wd (G (Frame.enter P n.done #[.pointer (some ⟨b,0,none⟩)] .deferred) cs) g2∧GAt P n b kind .d1 cs g2:=by
  obtain⟨fn,body,h1,h2,h3,h4⟩:=X.fDone
  have hs:FR y0 (sEnter P n.done [pt b 0] .deferred) (Frame.enter P n.done #[.pointer (some ⟨b,0,none⟩)] .deferred):=enter_fr h1 h2 rfl fun i a h=>by
    match i with
    | 0=>simp at h;subst h;exact⟨_,rfl,rfl⟩
    | i+1=>simp at h
  obtain⟨m,fr',frs',e1,e2,e3⟩:=sgo_ok (Wd:=Wd) (P:=P) fl0_at 400 hs (st:=[]) (frs:=[]) trivial;obtain⟨p1,p2,p3⟩:=C.d0 b;obtain⟨fr2,frs2,k1,k2,k3⟩:=advP (P:=P) (Wd:=Wd) (c:=D0 P n b) (v:=pt b 0) (x:=.pointer (some ⟨b,0,none⟩)) (.inr ⟨_,p1⟩) e1 e2 p2 p3 (fun _=>rfl)
  exact⟨_,Sil.trans ⟨m,e3 cs⟩ (Sil.trans (convG X hW0 (cs:=cs) p1 e1).sil (k3 cs)),_,y0,fr2,frs2,rfl,y0_ok,k1,k2,rfl⟩
include C X in
theorem g_a0 (h:GAt P n b kind .a0 cs g) (hk:kind ≠ .early):∃ g1,stepG P main g w = .go g1 w #[⟨.mark .disable,false,true⟩]∧GNext P n b kind Wd .a2 cs g1:=by
  obtain⟨c,y,fr,frs,rfl,hy,hr,hrs,rfl⟩:=h;obtain⟨p1,p2,p3,p4⟩:=C.a0 b kind;obtain⟨q1,q2,q3,q4⟩:=C.a1 b kind;refine⟨_,stop_mark0 bad0 hr p1 (by rw[p4];exact hk) X.dis,rfl,?_⟩
  obtain⟨fr1,frs1,h1,h2,h3⟩:=advP (P:=P) (Wd:=Wd) (v:=un) (x:=.tuple #[]) (.inl ⟨_,p1⟩) hr hrs p2 (by rw[p3];rfl) (fun _=>rfl)
  obtain⟨fr2,frs2,k1,k2,k3⟩:=advP (P:=P) (Wd:=Wd) (c:=A1 P n b kind) (v:=ff) (x:=.bool false) (.inl ⟨_,q1⟩) h1 h2 q2 (by rw[q3];rfl) (fun _=>rfl)
  have hb:Sil1 P Wd (G fr1 (frs1 ++ cs)) (G (fr1.finish (.bool false)) (frs1 ++ cs)):=⟨rfl,fun main w _=>stop_pure (s:=(A1 P n b kind).1) h1 q1 (by rw[q4];exact hk) X.bub⟩
  exact⟨_,(h3 cs).trans (hb.sil.trans (k3 cs)),_,y0,fr2,frs2,rfl,y0_ok,k1,k2,rfl⟩
include C X hW1 in
theorem g_a2 {c v m:Nat} (hs:ShG b w c 0 m) (hc:c<1000) (h:GAt P n b kind .a2 cs g) :
    ∃ g1 w',stepG P main g w = .go g1 w' #[⟨.cell ⟨b,0,none⟩,false,true⟩,⟨.cell ⟨b,0,none⟩,true,true⟩]∧w'=w.setCell ⟨b,0,none⟩ (.int .u64 (grp (c+1:Nat) 0))∧ShG b w' (c+1) 0 m∧(GNext P n b kind Wd .a4 cs g1∨GNext P n b kind Wd .ae cs g1):=by
  obtain⟨cf,y,fr,frs,rfl,hy,hr,hrs,rfl⟩:=h;obtain⟨p1,p2,p3,p4⟩:=C.a2 b kind
  have e:IntKind.u64.wrap (grp c 0+4294967296)=grp (c+1:Nat) 0:=by
    rw[wrap_u64_of (by unfold grp;omega) (by unfold grp;omega)]
    unfold grp;push_cast;omega
  have hst:=stop_add (main:=main) (cs:=frs ++ cs) (w:=w) hr p1 (kOK_ne p2) X.add64 (fun x h=>h) hs.cw (hs.fz 0)
  rw[e] at hst;have hy':({ y0 with c:=((c+1:Nat):Int) }:Sy).ok:=⟨by show (0:Int)≤2∧(2:Int)≤1000;decide,by show (0:Int)≤((c+1:Nat):Int)∧((c+1:Nat):Int)≤1000;omega⟩
  have hne:((c+1:Nat):Int)≠0:=by omega
  obtain⟨fr',frs',h1,h2,h3⟩:=advN (P:=P) (Wd:=Wd) (y:={ y0 with c:=((c+1:Nat):Int) }) (v:=.grp 0) (x:=.int .u64 (grp (c+1:Nat) 0)) (.inl ⟨_,p1⟩) hy' (hr.resym p3) (hrs.resym p4) rfl
  refine⟨_,_,hst,rfl,hs.setW (c+1) 0,?_⟩
  by_cases h1c:((c+1:Nat):Int)=1
  . left
    have hf:=f1' (y:={ y0 with c:=((c+1:Nat):Int) }) (a:=true) (by simpa using h1c)
    have k:=C.a3 b kind (Fl.of { y0 with c:=((c+1:Nat):Int) })
    rw[hf] at k;obtain⟨fr2,frs2,j1,j2,j3⟩:=advN (P:=P) (Wd:=Wd) (v:=pt b 1) (x:=.pointer (some ⟨b,1,none⟩)) (.inr ⟨_,k⟩) hy' h1 h2 rfl;exact⟨rfl,_,(h3 cs).trans ((convS X hW1 (cs:=cs) k h1).sil.trans (j3 cs)),_,_,fr2,frs2,⟨rfl,h1c⟩,hy',j1,j2,rfl⟩
  . right
    exact⟨rfl,_,h3 cs,_,_,fr',frs',⟨hne,.inr ⟨rfl,h1c⟩⟩,hy',h1,h2,rfl⟩
end
section
variable {P:Program} {n:GrN} (C:GrChk P n) (X:GrExt P n) {b:Nat} {kind:CallKind} {Wd:World->Prop} {cs:List Frame} {g:Goroutine} {w:World} {main:Bool}
variable (hW0:∀ w,Wd w->∃ v,w.cell? ⟨b,0,none⟩=some v) (hW1:∀ w,Wd w->∃ v,w.cell? ⟨b,1,none⟩=some v)
theorem dec0 {y:Sy} (h:y.c≠0):decide (y.c=0)=false:=by simpa using h
include C X in
theorem g_a4 (h:GAt P n b kind .a4 cs g) (hk:kind ≠ .early):∃ g1,stepG P main g w = .go g1 w #[⟨.mark (.read ⟨b,1,none⟩),false,true⟩]∧GNext P n b kind Wd .ae cs g1:=by
  obtain⟨c,y,fr,frs,⟨rfl,hc⟩,hy,hr,hrs,rfl⟩:=h;have hf:=f1' (y:=y) (a:=true) (by simpa using hc)
  obtain⟨p1,p2⟩:=C.a4 b kind (Fl.of y);rw[hf] at p1 p2;obtain⟨fr1,frs1,h1,h2,h3⟩:=advN (P:=P) (Wd:=Wd) (v:=un) (x:=.tuple #[]) (.inl ⟨_,p1⟩) hy hr hrs rfl;exact⟨_,stop_markAt (fun ad g h=>by cases h) hr p1 (by rw[p2];exact hk) X.rd,rfl,_,h3 cs,_,y,fr1,frs1,⟨by rw[hc];decide,.inl ⟨rfl,hc⟩⟩,hy,h1,h2,rfl⟩
include C X in
theorem g_ae {c0:Frame} {rest:List Frame} (h:GAt P n b kind .ae (c0 :: rest) g) (hk:kind ≠ .early):∃ g1,stepG P main g w = .go g1 w #[⟨.mark .enable,false,true⟩]∧g1.status = .running∧Sil P Wd g1 (Back kind c0 rest (.tuple #[])):=by
  obtain⟨c,y,fr,frs,⟨hc0,hc⟩,hy,hr,hrs,rfl⟩:=h;obtain⟨fn,body,f1,f2,f3,f4⟩:=X.fAdd
  have key:dfAt c.1=some n.en->c.2=[]->c.1.kind=kind->c.1.fn=n.add->∃ g1,stepG P main (G fr (frs ++ c0 :: rest)) w = .go g1 w #[⟨.mark .enable,false,true⟩]∧g1.status = .running∧Sil P Wd g1 (Back kind c0 rest (.tuple #[])):=fun k1 k2 k3 k4=>by
    rw[k2] at hrs;obtain rfl:=hrs.nil_inv;obtain⟨h1,h2⟩:=stop_df (main:=main) (cs:=[] ++ c0 :: rest) (w:=w) hr k1 X.en
    have hout:isOut ({ c.1 with defers:=[] }:SFr) n.add=true:=by
      unfold isOut;unfold dfAt at k1;split at k1
      . rename_i g cap as hm hd;simp[hm,k4]
      . cases k1
    refine⟨_,h1,rfl,?_⟩;have:=back_step (Wd:=Wd) (c:=c0) (rest:=rest) h2 hout f1 f4 (by show c.1.kind≠_;rw[k3];exact hk)
    rw[show ({ c.1 with defers:=[] }:SFr).kind=kind from k3] at this
    exact this.sil
  rcases hc with ⟨rfl,hc⟩|⟨rfl,hc⟩
  . have hf:=f10 (y:=y) (a:=true) (c:=false) (by simpa using hc) (dec0 hc0)
    obtain⟨p1,p2,p3,p4⟩:=C.a5 b kind (Fl.of y);rw[hf] at p1 p2 p3 p4;exact key p1 p2 p3 p4
  . have hf:=f10 (y:=y) (a:=false) (c:=false) (by simpa using hc) (dec0 hc0)
    obtain⟨p1,p2,p3,p4⟩:=C.a6 b kind (Fl.of y);rw[hf] at p1 p2 p3 p4;exact key p1 p2 p3 p4
include C X in
theorem g_d1 (h:GAt P n b kind .d1 cs g):∃ g1,stepG P main g w = .go g1 w #[⟨.mark (.releaseMerge ⟨b,0,none⟩),false,true⟩]∧GNext P n b kind Wd .d2 cs g1:=by
  obtain⟨c,y,fr,frs,rfl,hy,hr,hrs,rfl⟩:=h;obtain⟨p1,p2,p3,p4⟩:=C.d1 b;obtain⟨fr1,frs1,h1,h2,h3⟩:=advP (P:=P) (Wd:=Wd) (v:=un) (x:=.tuple #[]) (.inl ⟨_,p1⟩) hr hrs p3 p4 (fun _=>rfl)
  exact⟨_,stop_markAt (fun ad g h=>by cases h) hr p1 (kOK_ne p2) X.rel,rfl,_,h3 cs,_,y0,fr1,frs1,rfl,y0_ok,h1,h2,rfl⟩
include C X in
theorem g_d2 (h:GAt P n b kind .d2 cs g):∃ g1,stepG P main g w = .go g1 w #[⟨.mark .disable,false,true⟩]∧GNext P n b kind Wd .d4 cs g1:=by
  obtain⟨c,y,fr,frs,rfl,hy,hr,hrs,rfl⟩:=h;obtain⟨p1,p2,p3,p4⟩:=C.d2 b;obtain⟨q1,q2,q3,q4⟩:=C.d3 b;refine⟨_,stop_mark0 bad0 hr p1 (kOK_ne p2) X.dis,rfl,?_⟩;obtain⟨fr1,frs1,h1,h2,h3⟩:=advP (P:=P) (Wd:=Wd) (v:=un) (x:=.tuple #[]) (.inl ⟨_,p1⟩) hr hrs p3 p4 (fun _=>rfl)
  obtain⟨fr2,frs2,k1,k2,k3⟩:=advP (P:=P) (Wd:=Wd) (c:=D3 P n b) (v:=ff) (x:=.bool false) (.inl ⟨_,q1⟩) h1 h2 q3 q4 (fun _=>rfl)
  have hb:Sil1 P Wd (G fr1 (frs1 ++ cs)) (G (fr1.finish (.bool false)) (frs1 ++ cs)):=⟨rfl,fun main w _=>stop_pure (s:=(D3 P n b).1) h1 q1 (kOK_ne q2) X.bub⟩
  exact⟨_,(h3 cs).trans (hb.sil.trans (k3 cs)),_,y0,fr2,frs2,rfl,y0_ok,k1,k2,rfl⟩
def wEnd (P:Program) (fw:FuncId) (tmps:Array Value) (todo:List Item):Frame:=⟨fw,tmps,todo,[],.returning,.deferred,none⟩
def botG (P:Program):Frame:={ (default:Frame) with fn:=P.funcs.size,defers:=[],mode:=.panicking [goexitEntry] }
theorem quits_end {fw:FuncId} {fn:Func} {tmps:Array Value} {todo:List Item} (hf:P.funcs[fw]? = some fn) (hr:fn.results=#[]):QuitsD P 2 0 (G (wEnd P fw tmps todo) [botG P]):=by
  refine .ctl (g':=G (botG P) []) rfl (fun w=>?_) (.ctl (g':={ G (botG P) [] with status:=.finished }) rfl (fun w=>?_) ⟨rfl,rfl⟩)
  . simp[G,stepG,unwind,hf,results,hr,wEnd,botG,goexitEntry]
    rfl
  . have hc:(botG P).catches P=false:=by
      simp[Frame.catches,botG];rfl
    simp[G,stepG,unwind,botG,goexitEntry] at hc ⊢;simp[hc]
theorem quits_sil {d:Nat}:∀ {m k:Nat} {a c:Goroutine},SilN P (fun _=>True) m a c->QuitsD P k d c->QuitsD P (k+m) d a
  | 0,k,a,c,h,hq=>by obtain rfl:=h;exact hq
  | m+1,k,a,c,h,hq=>by
    obtain⟨g1,⟨h1,h2⟩,h3⟩:=h;exact .ctl h1 (fun w=>h2 false w trivial) (quits_sil h3 hq)
include X in
theorem quits_de {c:Cfg} {y:Sy} {fr:Frame} {frs:List Frame} {fw:FuncId} {fn:Func} {tmps:Array Value} {todo:List Item} (hf:P.funcs[fw]? = some fn) (hres:fn.results=#[]) (hy:y.ok) (hr:FR y c.1 fr) (hrs:FRs y c.2 frs)
    (h1:dfAt c.1=some n.en) (h2:isOut (outD P (Fl.of y) c).1 n.done=true) (h3:(outD P (Fl.of y) c).2=[]) (h4:(outD P (Fl.of y) c).1.kind = .deferred):∃ m,QuitsD P m 1 (G fr (frs ++ [wEnd P fw tmps todo,botG P])):=by
  obtain⟨_,hfr⟩:=stop_df (P:=P) (main:=false) (cs:=frs ++ [wEnd P fw tmps todo,botG P]) (w:=default) hr h1 X.en;obtain⟨m,fr',frs',k1,k2,k3⟩:=sgo_ok (Wd:=fun _=>True) (P:=P) (Fl.of_at hy) 400 hfr hrs
  have k2':FRs y [] frs':=by rw[← h3];exact k2
  obtain rfl:=k2'.nil_inv;obtain⟨fd,body,d1,d2,d3,d4⟩:=X.fDone;have hb:=back_step (Wd:=fun _=>True) (c:=wEnd P fw tmps todo) (rest:=[botG P]) k1 h2 d1 d4 (by show (outD P (Fl.of y) c).1.kind≠_;rw[h4];decide)
  have hbk:Back (sgo P (Fl.of y) 400 { c.1 with defers:=[] } c.2).1.kind (wEnd P fw tmps todo) [botG P] (.tuple #[])=G (wEnd P fw tmps todo) [botG P]:=by
    rw[show (sgo P (Fl.of y) 400 { c.1 with defers:=[] } c.2).1.kind = .deferred from h4];rfl
  rw[hbk] at hb;have q1:QuitsD P (2+1) 0 (G fr' [wEnd P fw tmps todo,botG P]):=.ctl rfl (fun w=>hb.2 false w trivial) (quits_end hf hres)
  have q2:=quits_sil (k3 [wEnd P fw tmps todo,botG P]) q1;exact⟨_,.said ⟨.mark .enable,false,true⟩ rfl rfl (fun w=>(stop_df (P:=P) (main:=false) (cs:=frs ++ [wEnd P fw tmps todo,botG P]) (w:=w) hr h1 X.en).1) q2⟩
def Gone (P:Program) (Wd:World->Prop) (g1:Goroutine):Prop := ∃ m,QuitsD P m 1 g1
theorem gone_of {m k:Nat} {a c:Goroutine} (h:SilN P (fun _=>True) m a c) (hq:QuitsD P k 1 c):Gone P Wd a:=⟨_,quits_sil h hq⟩
include C X in
theorem g_d4 {k v m:Nat} {fw:FuncId} {fn:Func} {tmps:Array Value} {todo:List Item} (hf:P.funcs[fw]? = some fn) (hres:fn.results=#[]) (hs:ShG b w (k+1) v m) (hk:k<1000) (hv:v≤1) (h:GAt P n b kind .d4 [wEnd P fw tmps todo,botG P] g) :
    ∃ g1 w',stepG P main g w = .go g1 w' #[⟨.cell ⟨b,0,none⟩,false,true⟩,⟨.cell ⟨b,0,none⟩,true,true⟩]∧w'=w.setCell ⟨b,0,none⟩ (.int .u64 (grp k v))∧ShG b w' k v m∧((k=0∧v=1∧GNext P n b kind Wd .d5 [wEnd P fw tmps todo,botG P] g1)∨(¬ (k=0∧v=1)∧Gone P Wd g1)):=by
  obtain⟨cf,y,fr,frs,rfl,hy,hr,hrs,rfl⟩:=h;obtain⟨p1,p2,p3,p4⟩:=C.d4 b
  have e:IntKind.u64.wrap (grp (k+1:Nat) v+18446744069414584320)=grp k v:=by
    have:grp (k+1:Nat) v+18446744069414584320=grp k v+18446744073709551616:=by unfold grp;push_cast;omega
    rw[this];simp[IntKind.wrap,IntKind.bits,IntKind.signed];unfold grp;omega
  have hst:=stop_add (main:=main) (cs:=frs ++ [wEnd P fw tmps todo,botG P]) (w:=w) hr p1 (kOK_ne p2) X.add64 (fun x h=>h) hs.cw (hs.fz 0)
  rw[e] at hst;have hy':({ y0 with c:=(k:Int) }:Sy).ok:=⟨by show (0:Int)≤2∧(2:Int)≤1000;decide,by show (0:Int)≤(k:Int)∧(k:Int)≤1000;omega⟩
  refine⟨_,_,hst,rfl,hs.setW k v,?_⟩;have hv01:v=0∨v=1:=by omega
  rcases hv01 with rfl|rfl
  . refine .inr ⟨by omega,?_⟩
    obtain⟨fr',frs',h1,h2,h3⟩:=advN (P:=P) (Wd:=fun _=>True) (y:={ y0 with c:=(k:Int) }) (v:=.grp 0) (x:=.int .u64 (grp k 0)) (.inl ⟨_,p1⟩) hy' (hr.resym p3) (hrs.resym p4) rfl
    have q1:=C.d5 b (Fl.of { y0 with c:=(k:Int) }) (decide ((k:Int)=0))
    obtain⟨q2,q3,q4⟩:=C.d5b b (Fl.of { y0 with c:=(k:Int) }) (decide ((k:Int)=0))
    rw[f0' rfl] at q1 q2 q3 q4;obtain⟨m',hq⟩:=quits_de X hf hres hy' h1 h2 q1 q2 q3 q4;obtain⟨j,hj⟩:=h3 [wEnd P fw tmps todo,botG P];exact gone_of hj hq
  . by_cases hk0:k=0
    . refine .inl ⟨hk0,rfl,?_⟩
      obtain⟨fr',frs',h1,h2,h3⟩:=advN (P:=P) (Wd:=Wd) (y:={ y0 with c:=(k:Int) }) (v:=.grp 1) (x:=.int .u64 (grp k 1)) (.inl ⟨_,p1⟩) hy' (hr.resym p3) (hrs.resym p4) rfl
      exact⟨rfl,_,h3 _,_,_,fr',frs',⟨rfl,by show (k:Int)=0;omega⟩,hy',h1,h2,rfl⟩
    . refine .inr ⟨by omega,?_⟩
      obtain⟨fr',frs',h1,h2,h3⟩:=advN (P:=P) (Wd:=fun _=>True) (y:={ y0 with c:=(k:Int) }) (v:=.grp 1) (x:=.int .u64 (grp k 1)) (.inl ⟨_,p1⟩) hy' (hr.resym p3) (hrs.resym p4) rfl
      have hc0:decide ((k:Int)=0)=false:=by simpa using hk0
      have q1:=C.d6 b (Fl.of { y0 with c:=(k:Int) })
      obtain⟨q2,q3,q4⟩:=C.d6b b (Fl.of { y0 with c:=(k:Int) })
      rw[f0' hc0] at q1 q2 q3 q4;obtain⟨m',hq⟩:=quits_de X hf hres hy' h1 h2 q1 q2 q3 q4;obtain⟨j,hj⟩:=h3 [wEnd P fw tmps todo,botG P];exact gone_of hj hq
include C X in
theorem g_d5 {m:Nat} (hs:ShG b w 0 1 m) (h:GAt P n b kind .d5 cs g):∃ g1,stepG P main g w = .go g1 w #[⟨.cell ⟨b,0,none⟩,false,true⟩]∧GNext P n b kind Wd .d6 cs g1:=by
  obtain⟨c,y,fr,frs,⟨rfl,hc⟩,hy,hr,hrs,rfl⟩:=h;have hf:=f0' (y:=y) (a:=true) (by simpa using hc)
  obtain⟨p1,p2⟩:=C.d7 b (Fl.of y);rw[hf] at p1 p2;have hv:SR y (.grp 1) (.int .u64 (grp 0 1)):=by show _=Value.int .u64 (grp y.c 1);rw[hc]
  obtain⟨fr1,frs1,h1,h2,h3⟩:=advN (P:=P) (Wd:=Wd) (.inl ⟨_,p1⟩) hy hr hrs hv;exact⟨_,stop_ld64 hr p1 (kOK_ne p2) X.ld64 hs.cw,rfl,_,h3 cs,_,y,fr1,frs1,⟨rfl,hc⟩,hy,h1,h2,rfl⟩
include C X in
theorem g_d6 {m:Nat} (hs:ShG b w 0 1 m) (h:GAt P n b kind .d6 cs g):∃ g1 w',stepG P main g w = .go g1 w' #[⟨.cell ⟨b,0,none⟩,true,true⟩]∧w'=w.setCell ⟨b,0,none⟩ (.int .u64 (grp 0 0))∧ShG b w' 0 0 m∧GNext P n b kind Wd .d7 cs g1:=by
  obtain⟨c,y,fr,frs,⟨rfl,hc⟩,hy,hr,hrs,rfl⟩:=h;have hf:=f0' (y:=y) (a:=true) (by simpa using hc)
  obtain⟨p1,p2⟩:=C.d8 b (Fl.of y);rw[hf] at p1 p2;obtain⟨fr1,frs1,h1,h2,h3⟩:=advN (P:=P) (Wd:=Wd) (v:=un) (x:=.tuple #[]) (.inl ⟨_,p1⟩) hy hr hrs rfl;exact⟨_,_,stop_st64 hr p1 (kOK_ne p2) X.st64 hs.cw (hs.fz 0),rfl,hs.setW 0 0,rfl,_,h3 cs,_,y,fr1,frs1,⟨rfl,hc⟩,hy,h1,h2,rfl⟩
include C X in
theorem g_d7 {v m:Nat} {fw:FuncId} {fn:Func} {tmps:Array Value} {todo:List Item} (hf:P.funcs[fw]? = some fn) (hres:fn.results=#[]) (hs:ShG b w 0 v m) (hm:m≤1000) (h:GAt P n b kind .d7 [wEnd P fw tmps todo,botG P] g) :
    ∃ g1 w',stepG P main g w = .go g1 w' (semEvents ⟨b,1,none⟩)∧w'=w.setCell ⟨b,1,none⟩ (.int .u32 (m+1:Nat))∧ShG b w' 0 v (m+1)∧Gone P Wd g1:=by
  obtain⟨c,y,fr,frs,⟨rfl,hc⟩,hy,hr,hrs,rfl⟩:=h;have hfl:=f0' (y:=y) (a:=true) (by simpa using hc)
  obtain⟨p1,p2⟩:=C.d9 b (Fl.of y);rw[hfl] at p1 p2;have hst:=stop_release (main:=main) (cs:=frs ++ [wEnd P fw tmps todo,botG P]) (w:=w) hr p1 (kOK_ne p2) X.semr hs.cs (hs.fz 1);have e:IntKind.u32.wrap ((m:Int)+1)=((m+1:Nat):Int):=by rw[IntKind.wrap_u32];omega
  rw[e] at hst;obtain⟨fr1,frs1,h1,h2,h3⟩:=advN (P:=P) (Wd:=fun _=>True) (v:=un) (x:=.tuple #[]) (.inl ⟨_,p1⟩) hy hr hrs rfl
  have q1:=C.da b (Fl.of y);obtain⟨q2,q3,q4⟩:=C.db b (Fl.of y);rw[hfl] at q1 q2 q3 q4;obtain⟨m',hq⟩:=quits_de X hf hres hy h1 h2 q1 q2 q3 q4;obtain⟨j,hj⟩:=h3 [wEnd P fw tmps todo,botG P];exact⟨_,_,hst,rfl,hs.setS (m+1),gone_of hj hq⟩
end
section
variable {P:Program} {n:GrN} (C:GrChk P n) (X:GrExt P n) {b:Nat} {kind:CallKind} {Wd:World->Prop} {cs:List Frame} {g:Goroutine} {w:World} {main:Bool}
variable (hW0:∀ w,Wd w->∃ v,w.cell? ⟨b,0,none⟩=some v) (hW1:∀ w,Wd w->∃ v,w.cell? ⟨b,1,none⟩=some v)
include C X in
theorem g_w0 (h:GAt P n b kind .w0 cs g) (hk:kind ≠ .early):∃ g1,stepG P main g w = .go g1 w #[⟨.mark .disable,false,true⟩]∧GNext P n b kind Wd .w1 cs g1:=by
  obtain⟨c,y,fr,frs,rfl,hy,hr,hrs,rfl⟩:=h;obtain⟨p1,p2,p3,p4⟩:=C.w0 b kind;obtain⟨fr1,frs1,h1,h2,h3⟩:=advP (P:=P) (Wd:=Wd) (v:=un) (x:=.tuple #[]) (.inl ⟨_,p1⟩) hr hrs p2 (by rw[p3];rfl) (fun _=>rfl)
  exact⟨_,stop_mark0 bad0 hr p1 (by rw[p4];exact hk) X.dis,rfl,_,h3 cs,_,y0,fr1,frs1,rfl,y0_ok,h1.keep [5],h2.maskL [[0]],rfl⟩
include C X in
theorem g_w1 {c m:Nat} (hs:ShG b w c 0 m) (hc:c≤1000) (h:GAt P n b kind .w1 cs g) :
    ∃ g1,stepG P main g w = .go g1 w #[⟨.cell ⟨b,0,none⟩,false,true⟩]∧((c=0∧GNext P n b kind Wd .we cs g1)∨(c≠0∧GNext P n b kind Wd (.w2 c) cs g1)):=by
  obtain⟨cf,y,fr,frs,rfl,hy,hr,hrs,rfl⟩:=h;obtain⟨p1,p2,p3,p4⟩:=C.w1 b kind;have hy':({ y0 with c:=(c:Int) }:Sy).ok:=⟨by show (0:Int)≤2∧(2:Int)≤1000;decide,by show (0:Int)≤(c:Int)∧(c:Int)≤1000;omega⟩
  obtain⟨fr',frs',h1,h2,h3⟩:=advN (P:=P) (Wd:=Wd) (y:={ y0 with c:=(c:Int) }) (v:=.grp 0) (x:=.int .u64 (grp c 0)) (.inl ⟨_,p1⟩) hy' (hr.resym p3) (hrs.resym p4) rfl
  refine⟨_,stop_ld64 hr p1 (kOK_ne p2) X.ld64 hs.cw,?_⟩
  by_cases h0:c=0
  . exact .inl ⟨h0,rfl,_,h3 cs,_,_,fr',frs',.inl ⟨rfl,by show (c:Int)=0;omega⟩,hy',h1,h2,rfl⟩
  . exact .inr ⟨h0,rfl,_,h3 cs,_,_,fr',frs',⟨rfl,rfl,h0⟩,hy',h1,h2,rfl⟩
include C X hW0 in
theorem g_we (h:GAt P n b kind .we cs g) (hk:kind ≠ .early):∃ g1,stepG P main g w = .go g1 w #[⟨.mark .enable,false,true⟩]∧GNext P n b kind Wd .wa cs g1:=by
  obtain⟨c,y,fr,frs,hc,hy,hr,hrs,rfl⟩:=h
  rcases hc with ⟨rfl,hc⟩|⟨rfl,hc⟩
  . have hf:=f0' (y:=y) (a:=true) (by simpa using hc)
    obtain⟨p1,p2⟩:=C.w2 b kind (Fl.of y);have q1:=C.w3 b kind (Fl.of y);rw[hf] at p1 p2 q1;obtain⟨fr1,frs1,h1,h2,h3⟩:=advN (P:=P) (Wd:=Wd) (v:=un) (x:=.tuple #[]) (.inl ⟨_,p1⟩) hy hr hrs rfl;obtain⟨fr2,frs2,j1,j2,j3⟩:=advN (P:=P) (Wd:=Wd) (c:=WC P n b kind (Fl.of y)) (v:=pt b 0) (x:=.pointer (some ⟨b,0,none⟩)) (.inr ⟨_,q1⟩) hy h1 h2 rfl;exact⟨_,stop_mark0 bad1 hr p1 (by rw[p2];exact hk) X.en,rfl,_,(h3 cs).trans ((convG X hW0 (c:=WC P n b kind (Fl.of y)) (cs:=cs) q1 h1).sil.trans (j3 cs)),_,y,fr2,frs2,.inl ⟨rfl,hc⟩,hy,j1,j2,rfl⟩
  . have hf:=f0' (y:=y) (a:=false) (dec0 hc)
    obtain⟨p1,p2⟩:=C.wc b kind (Fl.of y);have q1:=C.wd b kind (Fl.of y);rw[hf] at p1 p2 q1;obtain⟨fr1,frs1,h1,h2,h3⟩:=advN (P:=P) (Wd:=Wd) (v:=un) (x:=.tuple #[]) (.inl ⟨_,p1⟩) hy hr hrs rfl;obtain⟨fr2,frs2,j1,j2,j3⟩:=advN (P:=P) (Wd:=Wd) (c:=WC2 P n b kind (Fl.of y)) (v:=pt b 0) (x:=.pointer (some ⟨b,0,none⟩)) (.inr ⟨_,q1⟩) hy h1 h2 rfl;exact⟨_,stop_mark0 bad1 hr p1 (by rw[p2];exact hk) X.en,rfl,_,(h3 cs).trans ((convG X hW0 (c:=WC2 P n b kind (Fl.of y)) (cs:=cs) q1 h1).sil.trans (j3 cs)),_,y,fr2,frs2,.inr ⟨rfl,hc⟩,hy,j1,j2,rfl⟩
include C X in
theorem g_wa {c0:Frame} {rest:List Frame} (h:GAt P n b kind .wa (c0 :: rest) g) (hk:kind ≠ .early):∃ g1,stepG P main g w = .go g1 w #[⟨.mark (.acquire ⟨b,0,none⟩),false,true⟩]∧g1.status = .running∧Sil P Wd g1 (Back kind c0 rest (.tuple #[])):=by
  obtain⟨c,y,fr,frs,hc,hy,hr,hrs,rfl⟩:=h;obtain⟨fn,body,f1,f2,f3,f4⟩:=X.fWait
  rcases hc with ⟨rfl,hc⟩|⟨rfl,hc⟩
  . have hf:=f0' (y:=y) (a:=true) (by simpa using hc)
    obtain⟨p1,p2⟩:=C.w4 b kind (Fl.of y);obtain⟨q1,q2,q3⟩:=C.w5 b kind (Fl.of y);rw[hf] at p1 p2 q1 q2 q3;obtain⟨fr1,frs1,h1,h2,h3⟩:=advN (P:=P) (Wd:=Wd) (v:=un) (x:=.tuple #[]) (.inl ⟨_,p1⟩) hy hr hrs rfl;have h2':FRs y (WB P n b kind (Fl.of y)).2 frs1:=h2;rw[q2] at h2';obtain rfl:=h2'.nil_inv;have hb:=back_step (Wd:=Wd) (c:=c0) (rest:=rest) (s:=(WB P n b kind (Fl.of y)).1) h1 q1 f1 f4 (by rw[q3];exact hk)
    rw[q3] at hb;exact⟨_,stop_markAt (fun ad g h=>by cases h) hr p1 (by rw[p2];exact hk) X.acq,rfl,(h3 (c0 :: rest)).trans hb.sil⟩
  . have hf:=f0' (y:=y) (a:=false) (dec0 hc)
    obtain⟨p1,p2⟩:=C.we b kind (Fl.of y);obtain⟨q1,q2,q3⟩:=C.wf b kind (Fl.of y);rw[hf] at p1 p2 q1 q2 q3;obtain⟨fr1,frs1,h1,h2,h3⟩:=advN (P:=P) (Wd:=Wd) (v:=un) (x:=.tuple #[]) (.inl ⟨_,p1⟩) hy hr hrs rfl;have h2':FRs y (WB2 P n b kind (Fl.of y)).2 frs1:=h2;rw[q2] at h2';obtain rfl:=h2'.nil_inv;have hb:=back_step (Wd:=Wd) (c:=c0) (rest:=rest) (s:=(WB2 P n b kind (Fl.of y)).1) h1 q1 f1 f4 (by rw[q3];exact hk)
    rw[q3] at hb;exact⟨_,stop_markAt (fun ad g h=>by cases h) hr p1 (by rw[p2];exact hk) X.acq,rfl,(h3 (c0 :: rest)).trans hb.sil⟩
theorem grp_inj {c c' v v':Nat} (hv:v≤1000) (hv':v'≤1000):grp c v=grp c' v' ↔ (c=c'∧v=v'):=by
  unfold grp;omega
include C X hW1 in
theorem g_w2 {k c m:Nat} (hs:ShG b w c 0 m) (h:GAt P n b kind (.w2 k) cs g) :
    (c=k∧∃ g1 w',stepG P main g w = .go g1 w' #[⟨.cell ⟨b,0,none⟩,false,true⟩,⟨.cell ⟨b,0,none⟩,true,true⟩]∧w'=w.setCell ⟨b,0,none⟩ (.int .u64 (grp k 1))∧ShG b w' k 1 m∧GNext P n b kind Wd .w3 cs g1) ∨
    (c≠k∧∃ g1,stepG P main g w = .go g1 w #[⟨.cell ⟨b,0,none⟩,false,true⟩]∧GNext P n b kind Wd .w1 cs g1):=by
  obtain⟨cf,y,fr,frs,⟨rfl,hc,hk0⟩,hy,hr,hrs,rfl⟩:=h;have hyc:y.c≠0:=by rw[hc];omega
  have hf:=f0' (y:=y) (a:=false) (dec0 hyc);obtain⟨p1,p2⟩:=C.w6 b kind (Fl.of y);rw[hf] at p1 p2
  have ho:∀ j:Nat,∀ x,SR y (.grp j) x->x = .int .u64 (grp k j):=fun j x hx=>by
    have hx:x = .int .u64 (grp y.c j):=hx;rw[hx,hc]
  by_cases hck:c=k
  . subst hck
    refine .inl ⟨rfl,_,_,stop_cas_hit hr p1 (kOK_ne p2) X.cas64 (ho 0) (ho 1) hs.cw (hs.fz 0),rfl,hs.setW c 1,rfl,?_⟩;have q1:=C.w8 b kind (Fl.of y);rw[hf] at q1;obtain⟨fr1,frs1,h1,h2,h3⟩:=advN (P:=P) (Wd:=Wd) (v:=tt) (x:=.bool true) (.inl ⟨_,p1⟩) hy hr hrs rfl;obtain⟨fr2,frs2,j1,j2,j3⟩:=advN (P:=P) (Wd:=Wd) (c:=W3 P n b kind (Fl.of y)) (v:=pt b 1) (x:=.pointer (some ⟨b,1,none⟩)) (.inr ⟨_,q1⟩) hy h1 h2 rfl;exact⟨_,(h3 cs).trans ((convS X hW1 (c:=W3 P n b kind (Fl.of y)) (cs:=cs) q1 h1).sil.trans (j3 cs)),_,y,fr2,frs2,⟨rfl,hyc⟩,hy,j1,j2,rfl⟩
  . have hne : ¬ grp c 0=grp k 0:=fun e=>hck ((grp_inj (by omega) (by omega)).1 e).1
    refine .inr ⟨hck,_,stop_cas_miss hr p1 (kOK_ne p2) X.cas64 (ho 0) (ho 1) hs.cw (hs.fz 0) hne,rfl,?_⟩;have q1:=C.w7 b kind (Fl.of y);rw[hf] at q1;obtain⟨fr1,frs1,h1,h2,h3⟩:=advN (P:=P) (Wd:=Wd) (v:=ff) (x:=.bool false) (.inl ⟨_,p1⟩) hy hr hrs rfl;have k1:=h1.keep [5];have k2:=h2.maskL [[0]];refine⟨_,h3 cs,W1 P n b kind,y,fr1,frs1,rfl,hy,?_,?_,rfl⟩
    . rw[← q1];exact k1
    . rw[← q1];exact k2
include C X in
theorem g_w3 (h:GAt P n b kind .w3 cs g) (hk:kind ≠ .early):∃ g1,stepG P main g w = .go g1 w #[⟨.mark (.write ⟨b,1,none⟩),false,true⟩]∧GNext P n b kind Wd .w4 cs g1:=by
  obtain⟨c,y,fr,frs,⟨rfl,hc⟩,hy,hr,hrs,rfl⟩:=h;have hf:=f0' (y:=y) (a:=false) (dec0 hc);obtain⟨p1,p2⟩:=C.w9 b kind (Fl.of y);rw[hf] at p1 p2;obtain⟨fr1,frs1,h1,h2,h3⟩:=advN (P:=P) (Wd:=Wd) (v:=un) (x:=.tuple #[]) (.inl ⟨_,p1⟩) hy hr hrs rfl;exact⟨_,stop_markAt (fun ad g h=>by cases h) hr p1 (by rw[p2];exact hk) X.wr,rfl,_,h3 cs,_,y,fr1,frs1,⟨rfl,hc⟩,hy,h1,h2,rfl⟩
include C X in
theorem g_w4 {c v m:Nat} (hs:ShG b w c v m) (hm:m≠0) (h:GAt P n b kind .w4 cs g) (hk:kind ≠ .early) :
    ∃ g1 w',stepG P main g w = .go g1 w' (semEvents ⟨b,1,none⟩)∧w'=w.setCell ⟨b,1,none⟩ (.int .u32 (m-1:Nat))∧ShG b w' c v (m-1)∧GNext P n b kind Wd .w5 cs g1:=by
  obtain⟨cf,y,fr,frs,⟨rfl,hc⟩,hy,hr,hrs,rfl⟩:=h;have hf:=f0' (y:=y) (a:=false) (dec0 hc);obtain⟨p1,p2⟩:=C.wa b kind (Fl.of y);rw[hf] at p1 p2;have hst:=stop_acquire (main:=main) (cs:=frs ++ cs) (w:=w) (n:=(m:Int)) hr p1 (by rw[p2];exact hk) X.sem hs.cs (by omega) (hs.fz _)
  have e:((m:Int)-1)=((m-1:Nat):Int):=by omega
  rw[e] at hst;obtain⟨fr1,frs1,h1,h2,h3⟩:=advN (P:=P) (Wd:=Wd) (v:=un) (x:=.tuple #[]) (.inl ⟨_,p1⟩) hy hr hrs rfl;exact⟨_,_,hst,rfl,hs.setS (m-1),rfl,_,h3 cs,_,y,fr1,frs1,⟨rfl,hc⟩,hy,h1,h2,rfl⟩
include C X in
theorem g_w4b {c v:Nat} (hs:ShG b w c v 0) (h:GAt P n b kind .w4 cs g):stepG P main g w = .go { g with status:=.blocked } w #[]:=by
  obtain⟨cf,y,fr,frs,⟨rfl,hc⟩,hy,hr,hrs,rfl⟩:=h;have hf:=f0' (y:=y) (a:=false) (dec0 hc);obtain⟨p1,p2⟩:=C.wa b kind (Fl.of y);rw[hf] at p1 p2;exact stop_wait hr p1 X.sem hs.cs
include C X in
theorem g_w5 {m:Nat} (hs:ShG b w 0 0 m) (h:GAt P n b kind .w5 cs g):∃ g1,stepG P main g w = .go g1 w #[⟨.cell ⟨b,0,none⟩,false,true⟩]∧GNext P n b kind Wd .we cs g1:=by
  obtain⟨c,y,fr,frs,⟨rfl,hc⟩,hy,hr,hrs,rfl⟩:=h;have hf:=f0' (y:=y) (a:=false) (dec0 hc);obtain⟨p1,p2⟩:=C.wb b kind (Fl.of y);rw[hf] at p1 p2;have hst:=stop_ld64 (main:=main) (cs:=frs ++ cs) hr p1 (kOK_ne p2) X.ld64 hs.cw;obtain⟨fr1,frs1,h1,h2,h3⟩:=advN (P:=P) (Wd:=Wd) (v:=u64 0) (x:=.int .u64 0) (.inl ⟨_,p1⟩) hy hr hrs rfl;exact⟨_,hst,rfl,_,h3 cs,_,y,fr1,frs1,.inr ⟨rfl,hc⟩,hy,h1,h2,rfl⟩
end
structure MuFn (P:Program) (n:MuN):Prop where
  lock:∃ fn body,P.funcs[n.lock]? = some fn∧fn.body=some body∧fn.ntmps=6∧fn.results=#[]
  unlock:∃ fn body,P.funcs[n.unlock]? = some fn∧fn.body=some body∧fn.ntmps=6∧fn.results=#[]
section
variable {P:Program} {n:MuN} (C:MuChk P n) (X:MuExt P n) (F:MuFn P n) {b o:Nat} {kind:CallKind} {Wd:World->Prop} {cs:List Frame} {g:Goroutine} {w:World} {main:Bool}
include F in
theorem mu_lock_enter:∃ g2,Sil P Wd (G (Frame.enter P n.lock #[.pointer (some ⟨b,o,none⟩)] kind) cs) g2∧MAt P n b o kind .ld cs g2:=by
  obtain⟨fn,body,h1,h2,h3,h4⟩:=F.lock;exact lock_enter ⟨fn,body,h1,h2,h3⟩
include F in
theorem mu_unlock_enter:∃ g2,Sil P Wd (G (Frame.enter P n.unlock #[.pointer (some ⟨b,o,none⟩)] kind) cs) g2∧MAt P n b o kind .ur0 cs g2:=by
  obtain⟨fn,body,h1,h2,h3,h4⟩:=F.unlock
  have hs:FR y0 (sEnter P n.unlock [pt b o] kind) (Frame.enter P n.unlock #[.pointer (some ⟨b,o,none⟩)] kind):=enter_fr h1 h2 rfl fun i a h=>by
    match i with
    | 0=>simp at h;subst h;exact⟨_,rfl,rfl⟩
    | i+1=>simp at h
  obtain⟨m,fr',frs',e1,e2,e3⟩:=sgo_ok (Wd:=Wd) (P:=P) fl0_at 400 hs (st:=[]) (frs:=[]) trivial;exact⟨_,⟨m,e3 cs⟩,_,y0,fr',frs',rfl,y0_ok,e1.keep [0,5],e2.keep [],rfl⟩
include F in
theorem mu_lock_back {c:Frame} {rest:List Frame} (h:MAt P n b o kind .back (c :: rest) g) (hk:kind ≠ .early):Sil P Wd g (Back kind c rest (.tuple #[])):=by
  obtain⟨cf,y,fr,frs,rfl,hy,hr,hrs,rfl⟩:=h;obtain⟨fn,body,h1,h2,h3,h4⟩:=F.lock;have h2':FRs y [] frs:=hrs;obtain rfl:=h2'.nil_inv;exact (back_step (Wd:=Wd) (c:=c) (rest:=rest) (s:=(BK n kind).1) (f:=n.lock) hr (by simp[BK,isOut]) h1 h4 hk).sil
include F in
theorem mu_unlock_back {c:Frame} {rest:List Frame} (h:MAt P n b o kind .backU (c :: rest) g) (hk:kind ≠ .early):Sil P Wd g (Back kind c rest (.tuple #[])):=by
  obtain⟨cf,y,fr,frs,rfl,hy,hr,hrs,rfl⟩:=h;obtain⟨fn,body,h1,h2,h3,h4⟩:=F.unlock;have h2':FRs y [] frs:=hrs;obtain rfl:=h2'.nil_inv;exact (back_step (Wd:=Wd) (c:=c) (rest:=rest) (s:=(BKU n kind).1) (f:=n.unlock) hr (by simp[BKU,isOut]) h1 h4 hk).sil
end
end Go.Pal
