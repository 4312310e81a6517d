/- Part 15 of the proof. -/
import Derived.Test.YtibjfmfdjncniaaGreatDoorC14
set_option linter.all false
namespace Go.Pal
open Go.Conc
inductive To:Mu.Pc->MPc->Prop
  | out:To .out .ue
  | rd (l:Mu.Lo):To (.rd l) (.rd l)
  | sq (old:Mu.Wd) (l:Mu.Lo):To (.sq old l) (.sq old l)
  | sw (old:Mu.Wd) (l:Mu.Lo):To (.sw old l) (.sw old l)
  | cas (old:Mu.Wd) (l:Mu.Lo):To (.cas old l) (.cas old l)
  | t1 (sv:Bool):To (.park sv) (.t1 sv)
  | park (sv:Bool):To (.park sv) (.park sv)
  | tq:To .tq .tq
  | up (sv:Bool):To (.up sv) (.up sv)
  | add (old:Mu.Wd) (sv:Bool):To (.add old sv) (.add old sv)
  | held:To .held .le
  | ucas (old:Mu.Wd):To (.ucas old) (.ucas old)
  | urd:To .urd .urd
  | give:To .give .give
def MStep (P:Program) (n:MuN) (b o:Nat) (kind:CallKind) (Wd:World->Prop) (cs:List Frame) (g:Goroutine) (w:World) (main:Bool) (pc:Mu.Pc) (s:Mu.Sh):Prop:=
  ∃ g1 w' es q s' p',stepG P main g w = .go g1 w' es∧(q,s')∈Mu.mv pc s∧To q p'∧Next P n b o kind Wd cs p' g1∧MW b o w w'∧ShM b o w' s'∧EvM b o es∧∀ d,deafBehind d es=d
theorem mw_refl {b o:Nat} {w w':World} (h:w'.heap=w.heap) (ho:Later w.os w'.os∧w'.output=w.output:=by exact⟨Later.refl _,rfl⟩):MW b o w w':=⟨ho,.inl h⟩
theorem mw_w {b o:Nat} {w:World} {v:Value} (h:flat v=true):MW b o w (w.setCell ⟨b,o,none⟩ v):=⟨⟨.refl _,rfl⟩,.inr ⟨o,v,.inl rfl,h,rfl⟩⟩
theorem mw_s {b o:Nat} {w:World} {v:Value} (h:flat v=true):MW b o w (w.setCell ⟨b,o+1,none⟩ v):=⟨⟨.refl _,rfl⟩,.inr ⟨o+1,v,.inr rfl,h,rfl⟩⟩
theorem enc_inj {L K S L' K' S':Bool} {N N':Nat}:enc L K S N=enc L' K' S' N' ↔ (L=L'∧K=K'∧S=S'∧N=N'):=by
  unfold enc;constructor
  . intro h
    cases L <;> cases K <;> cases S <;> cases L' <;> cases K' <;> cases S' <;> simp[Bool.toNat] at h ⊢ <;> omega
  . rintro⟨rfl,rfl,rfl,rfl⟩;rfl
section
variable {P:Program} {n:MuN} (C:MuChk P n) (X:MuExt P n) {b o:Nat} {kind:CallKind} {Wd:World->Prop} {cs:List Frame} {g:Goroutine} {w:World} {main:Bool} {s:Mu.Sh}
theorem wd_zero {w:Mu.Wd}:w=Mu.Wd.zero ↔ (enc w.L w.K w.S w.N=0):=by
  obtain⟨L,K,S,N⟩:=w;rw[enc_zero (by simp)]
  simp[Mu.Wd.zero]
include C X in
theorem step_fast (hs:ShM b o w s) (h:MAt P n b o kind .fast cs g):MStep P n b o kind Wd cs g w main .fast s:=by
  obtain⟨c,y,fr,frs,rfl,hy,hr,hrs,rfl⟩:=h;have hk:(FAST P n b o kind).1.kind ≠ .early:=by simp[FAST,ilockAt]
  by_cases hz:s.w=Mu.Wd.zero
  . have hw:enc s.w.L s.w.K s.w.S s.w.N=0:=wd_zero.1 hz
    have hc:=hs.cw;rw[hw] at hc;refine⟨_,_,_,.held,{ s with w:={ Mu.Wd.zero with L:=true } },.le,stop_cas_hit hr (C.o2 b o kind) hk X.cas (v:=0) (n:=1) (fun x h=>h) (fun x h=>h) hc (hs.fz o),by simp[Mu.mv,hz],.held,nxt (C.e2 _ b o kind) hy hr hrs rfl (.inl rfl),mw_w rfl,?_,evM_rw (.inl rfl),fun _=>rfl⟩
    have:=hs.setW { Mu.Wd.zero with L:=true }
    exact this
  . have hw : ¬ enc s.w.L s.w.K s.w.S s.w.N=0:=fun e=>hz (wd_zero.2 e)
    refine⟨_,_,_,.rd ⟨false,false,0⟩,s,.rd ⟨false,false,0⟩,stop_cas_miss hr (C.o2 b o kind) hk X.cas (old:=0) (n:=1) (fun x h=>h) (fun x h=>h) hs.cw (hs.fz o) hw,by simp[Mu.mv,hz],.rd _,⟨rfl,?_⟩,mw_refl rfl,hs,evM_r (.inl rfl),fun _=>rfl⟩
    obtain⟨fr',frs',h1,h2,h3⟩:=adv (Wd:=Wd) (x:=.bool false) (C.e3 _ b o kind) hy hr hrs rfl;refine⟨_,h3 cs,RD0 P n b o kind false false 0,{ y with ws:=0 },fr',frs',.inl rfl,hy,?_,?_,rfl⟩
    . have h4:=h1.re (y':={ y with ws:=0 }) (.inl rfl) (.inl rfl) (.inr rfl) (.inl rfl)
      refine⟨h4.fn,h4.todo,h4.defers,h4.mode,h4.kind,h4.ro,h4.size.trans rfl,fun t=>?_⟩
      have h5:=h4.env t
      by_cases ht:t=2
      . subst ht;exact h5
      . have e:(RD0 P n b o kind false false 0).1.env=(RDI P n b o kind).1.env.set 2 .wst:=rfl
        rw[e,List.getD_eq_getElem?_getD,List.getElem?_set_ne (Ne.symm ht),← List.getD_eq_getElem?_getD];exact h5
    . exact h2.resym (by simpa[RDI,slowAt] using C.p2 b o kind)
theorem sr_word {y:Sy} {L K S:Bool} {N:Nat} (h:y.N=N):SR y (.word L K S 0) (.int .i32 (enc L K S N)):=by
  refine⟨?_,?_,by decide⟩
  . rw[h,Int.add_zero]
  . rw[h];simp
theorem fl_n0 {y:Sy} {x:Bool} (h:decide (y.N=0)=x) : { Fl.of y with n0:=x }=Fl.of y:=by subst h;rfl
theorem fl_n01 {y:Sy} {x z:Bool} (h:decide (y.N=0)=x) (h':decide (y.N=1)=z) : { Fl.of y with n0:=x,n1:=z }=Fl.of y:=by subst h;subst h';rfl
theorem fl_wz {y:Sy} {x:Bool} (h:decide (y.ws=0)=x) : { Fl.of y with wz:=x }=Fl.of y:=by subst h;rfl
theorem fl_tb {y:Sy} {x:Bool} (h:decide (IntKind.i64.wrap (y.tn-y.ws) > 1000000)=x) : { Fl.of y with tb:=x }=Fl.of y:=by subst h;rfl
def nxM (old:Mu.Wd) (l:Mu.Lo):MPc:=if old.L && !old.S then .sq old l else .cas old l
theorem to_nx (old:Mu.Wd) (l:Mu.Lo):To (Mu.nx old l) (nxM old l):=by
  unfold Mu.nx nxM;split
  . exact .sq _ _
  . exact .cas _ _
include C in
theorem from_hd {y:Sy} {old:Mu.Wd} {l:Mu.Lo} {fr:Frame} {frs:List Frame} (hy:y.ok) (hN:y.N=old.N) (hr:FR y (HD P n b o kind old.L old.K old.S l.aw l.sv l.it).1 fr) (hrs:FRs y (HD P n b o kind old.L old.K old.S l.aw l.sv l.it).2 frs) (hl:Mu.loc (Mu.nx old l)) :
    ∃ g2,Sil P Wd (G fr (frs ++ cs)) g2∧MAt P n b o kind (nxM old l) cs g2:=by
  obtain⟨L,K,S,N⟩:=old;obtain⟨aw,sv,it⟩:=l;unfold nxM;unfold Mu.nx at hl
  by_cases h:(L && !S)=true
  . simp only[h,if_true] at hl ⊢
    simp only[Bool.and_eq_true,Bool.not_eq_true'] at h;obtain⟨rfl,rfl⟩:=h;obtain⟨fr',frs',h1,h2,h3⟩:=advG (Wd:=Wd) (C.e8 (Fl.of y) b o kind K aw sv it) hy hr hrs;exact⟨_,h3 cs,_,y,fr',frs',⟨rfl,hN,rfl,rfl⟩,hy,h1,h2,rfl⟩
  . have h':(L && !S)=false:=by simpa using h
    rw[if_neg h] at hl ⊢
    have haw:(aw && !K)=false:=by
      cases aw with
      | false=>rfl
      | true=>have:=hl.1 rfl;simp at this;simp[this]
    obtain⟨fr',frs',h1,h2,h3⟩:=advG (Wd:=Wd) (C.e9 (Fl.of y) b o kind L K S aw sv it h' haw) hy hr hrs;exact⟨_,h3 cs,_,y,fr',frs',⟨rfl,hN⟩,hy,h1,h2,rfl⟩
include C X in
theorem step_rd {l:Mu.Lo} (hs:ShM b o w s) (hb:s.w.N≤1000) (hl:Mu.loc (Mu.nx s.w l)) (h:MAt P n b o kind (.rd l) cs g):MStep P n b o kind Wd cs g w main (.rd l) s:=by
  obtain⟨c,y,fr,frs,hc,hy,hr,hrs,rfl⟩:=h;have hy':({ y with N:=(s.w.N:Int) }:Sy).ok:=⟨⟨by simp,by show (s.w.N:Int)≤1000;omega⟩,hy.2⟩
  have key:ldAt c.1=some (n.tI,pt b o)->c.1.fn=n.slow->(c.1.env.all (fun v => !usesN v)=true)->c.2=stS P n b o kind->nextH P (Fl.of { y with N:=(s.w.N:Int) }) [0,2,3,4,5,6] c (.word s.w.L s.w.K s.w.S 0)=some (HD P n b o kind s.w.L s.w.K s.w.S l.aw l.sv l.it) ->
      MStep P n b o kind Wd cs (G fr (frs ++ cs)) w main (.rd l) s:=fun k1 k2 k3 k4 k5=>by
    have hr':=hr.re (y':={ y with N:=(s.w.N:Int) }) (.inr k3) (.inl rfl) (.inl rfl) (.inl rfl)
    have hrs':=hrs.resym (y':={ y with N:=(s.w.N:Int) }) (by rw[k4];exact C.p2 b o kind)
    obtain⟨fr',frs',h1,h2,h3⟩:=advH (Wd:=Wd) k5 hy' hr' hrs' (sr_word rfl);obtain⟨g2,h4,h5⟩:=from_hd C (Wd:=Wd) (cs:=cs) (old:=s.w) (l:=l) hy' rfl h1 h2 hl;exact⟨_,w,#[],_,s,nxM s.w l,stop_load hr k1 X.tyI (by rw[k2];exact X.nS) hs.cw,by simp[Mu.mv],to_nx _ _,⟨rfl,g2,(h3 cs).trans h4,h5⟩,mw_refl rfl,hs,evM_nil,fun _=>rfl⟩
  rcases hc with rfl|rfl|rfl
  . exact key (C.o60 ..) rfl rfl rfl (C.e70 ..)
  . exact key (C.o61 ..) rfl rfl rfl (C.e71 ..)
  . exact key (C.o62 ..) rfl rfl rfl (C.e72 ..)
include C X in
theorem from_ds {y:Sy} {aw sv:Bool} {it:Nat} {fr:Frame} {frs:List Frame} (hit:it<4) (hy:y.ok) (hr:FR y (DS P n b o kind aw sv it).1 fr) (hrs:FRs y (DS P n b o kind aw sv it).2 frs) :
    ∃ g2,Sil P Wd (G fr (frs ++ cs)) g2∧MAt P n b o kind (.rd ⟨aw,sv,it+1⟩) cs g2:=by
  have hstep:Sil1 P Wd (G fr (frs ++ cs)) (G (fr.finish (.tuple #[])) (frs ++ cs)):=⟨rfl,fun main w _=>stop_pure hr (C.o9 b o kind aw sv it) (by simp[DS,slowAt]) X.dospin⟩
  have key:nextM P (Fl.of y) [0,2,3,4,5,47] (DS P n b o kind aw sv it) un=some (RD1 P n b o kind aw sv (it+1:Nat)):=by
    have:it=0∨it=1∨it=2∨it=3:=by omega
    rcases this with rfl|rfl|rfl|rfl
    . exact C.e130 ..
    . exact C.e131 ..
    . exact C.e132 ..
    . exact C.e133 ..
  obtain⟨_,g2,h1,h2⟩:=nxt (P:=P) (n:=n) (b:=b) (o:=o) (kind:=kind) (Wd:=Wd) (cs:=cs) (x:=.tuple #[]) (p:=.rd ⟨aw,sv,it+1⟩) key hy hr hrs rfl (.inr (.inl rfl));exact⟨g2,hstep.sil.trans h1,h2⟩
include C X in
theorem step_sq {old:Mu.Wd} {l:Mu.Lo} (hs:ShM b o w s) (hl:Mu.loc (.sq old l)) (h:MAt P n b o kind (.sq old l) cs g):MStep P n b o kind Wd cs g w main (.sq old l) s:=by
  obtain⟨c,y,fr,frs,⟨rfl,hN,hL,hS⟩,hy,hr,hrs,rfl⟩:=h;obtain⟨L,K,S,N⟩:=old;obtain⟨aw,sv,it⟩:=l;simp only at hN hL hS hr hrs;subst hL;subst hS;obtain⟨l1,l2,l3,_,_⟩:=hl;simp only at l1 l2 l3
  have haw:(aw && !K)=false:=by
    cases aw with
    | false=>rfl
    | true=>simp[l1 rfl]
  obtain⟨r,w',e1,e2,e3⟩:=stop_spin (P:=P) (main:=main) (cs:=frs ++ cs) (w:=w) hr (C.o7 b o kind K aw sv it) (by simp[SQ,slowAt]) X.spin
  have hw':w'.heap=w.heap:=by rcases e3 with rfl|rfl <;> rfl
  have ho':Later w.os w'.os∧w'.output=w.output:=by rcases e3 with rfl|rfl <;> exact⟨.refl _,rfl⟩
  cases r with
  | false=>
    refine⟨_,w',#[],.cas ⟨true,K,false,N⟩ ⟨aw,sv,it⟩,s,.cas _ _,e1,by simp[Mu.mv,Mu.hd],.cas _ _,nxt (C.e11 (Fl.of y) b o kind K aw sv it haw) hy hr hrs rfl ⟨rfl,hN⟩,mw_refl hw' ho',hs.heap hw',evM_nil,fun _=>rfl⟩
  | true=>
    have hit:it<4:=by have:=e2 rfl;omega
    by_cases hq:(!aw && !K && decide (N≠0))=true
    . simp only[Bool.and_eq_true,Bool.not_eq_true',decide_eq_true_eq] at hq
      obtain⟨⟨rfl,rfl⟩,hN0⟩:=hq;have:sv=false:=by cases sv with|false=>rfl|true=>exact absurd (l2 rfl) (by simp)
      subst this;have key:=C.e10 (Fl.of y) b o kind it;rw[fl_n0 (by rw[hN];simpa using hN0)] at key
      exact⟨_,w',#[],.sw ⟨true,false,false,N⟩ ⟨false,false,it⟩,s,.sw _ _,e1,by simp[Mu.mv,Mu.hd,hit,hN0],.sw _ _,nxt key hy hr hrs rfl ⟨rfl,hN,rfl,rfl,rfl,rfl,rfl⟩,mw_refl hw' ho',hs.heap hw',evM_nil,fun _=>rfl⟩
    . have hq':(!aw && !K && decide (N≠0))=false:=by simpa using hq
      have hn0:(!aw && !K && !decide (y.N=0))=false:=by
        rw[hN]
        by_cases h0:N=0
        . simp[h0]
        . simp[h0] at hq' ⊢;exact hq'
      have key:=C.e10' (Fl.of y) b o kind (decide (y.N=0)) K aw sv it hn0;rw[fl_n0 rfl] at key;obtain⟨fr',frs',h1,h2,h3⟩:=adv (Wd:=Wd) (x:=.bool true) key hy hr hrs rfl;obtain⟨g2,h4,h5⟩:=from_ds C X (Wd:=Wd) (cs:=cs) hit hy h1 h2;refine⟨_,w',#[],.rd ⟨aw,sv,it+1⟩,s,.rd _,e1,?_,.rd _,⟨rfl,g2,(h3 cs).trans h4,h5⟩,mw_refl hw' ho',hs.heap hw',evM_nil,fun _=>rfl⟩
      simp only[Mu.mv,Mu.hd,hit,hq'];simp
include C X in
theorem step_sw {old:Mu.Wd} {l:Mu.Lo} (hs:ShM b o w s) (hl:Mu.loc (.sw old l)) (h:MAt P n b o kind (.sw old l) cs g):MStep P n b o kind Wd cs g w main (.sw old l) s:=by
  obtain⟨c,y,fr,frs,⟨rfl,hN,h1,h2,h3,h4,h5⟩,hy,hr,hrs,rfl⟩:=h;obtain⟨L,K,S,N⟩:=old;obtain⟨aw,sv,it⟩:=l;simp only at hN h1 h2 h3 h4 h5 hr hrs;subst h1;subst h2;subst h3;subst h4;subst h5;have hit:it<4:=hl.2.2.2.2.2;have hk:(SW P n b o kind it).1.kind ≠ .early:=by simp[SW,slowAt]
  have hword:∀ K':Bool,∀ x,SR y (.word true K' false 0) x->x = .int .i32 (enc true K' false N):=fun K' x hx=>by
    have:=hx.1;rw[hN,Int.add_zero] at this;exact this
  by_cases hz:s.w=⟨true,false,false,N⟩
  . have hc:=hs.cw
    rw[hz] at hc;obtain⟨fr',frs',k1,k2,k3⟩:=adv (Wd:=Wd) (x:=.bool true) (C.e12 (Fl.of y) b o kind true it) hy hr hrs rfl;obtain⟨g2,k4,k5⟩:=from_ds C X (Wd:=Wd) (cs:=cs) hit hy k1 k2;refine⟨_,_,_,.rd ⟨true,false,it+1⟩,{ s with w:=⟨true,true,false,N⟩ },.rd _,stop_cas_hit hr (C.o8 b o kind it) hk X.cas (hword false) (hword true) hc (hs.fz o),by simp[Mu.mv,hz],.rd _,⟨rfl,g2,(k3 cs).trans k4,k5⟩,mw_w rfl,hs.setW ⟨true,true,false,N⟩,evM_rw (.inl rfl),fun _=>rfl⟩
  . have hne : ¬ enc s.w.L s.w.K s.w.S s.w.N=enc true false false N:=fun e=>hz (by
      obtain⟨a1,a2,a3,a4⟩:=enc_inj.1 e;obtain⟨⟨L,K,S,N'⟩,ms⟩:=s;simp only at a1 a2 a3 a4;subst a1;subst a2;subst a3;subst a4;rfl)
    obtain⟨fr',frs',k1,k2,k3⟩:=adv (Wd:=Wd) (x:=.bool false) (C.e12 (Fl.of y) b o kind false it) hy hr hrs rfl;obtain⟨g2,k4,k5⟩:=from_ds C X (Wd:=Wd) (cs:=cs) hit hy k1 k2;exact⟨_,_,_,.rd ⟨false,false,it+1⟩,s,.rd _,stop_cas_miss hr (C.o8 b o kind it) hk X.cas (hword false) (hword true) hs.cw (hs.fz o) hne,by simp[Mu.mv,hz],.rd _,⟨rfl,g2,(k3 cs).trans k4,k5⟩,mw_refl rfl,hs,evM_r (.inl rfl),fun _=>rfl⟩
end
section
variable {P:Program} {n:MuN} (C:MuChk P n) (X:MuExt P n) {b o:Nat} {kind:CallKind} {Wd:World->Prop} {cs:List Frame} {g:Goroutine} {w:World} {main:Bool} {s:Mu.Sh}
theorem wd_eq {a c:Mu.Wd}:a=c ↔ enc a.L a.K a.S a.N=enc c.L c.K c.S c.N:=by
  obtain⟨L,K,S,N⟩:=a;obtain⟨L',K',S',N'⟩:=c;rw[enc_inj];simp
include C X in
theorem step_cas {old:Mu.Wd} {l:Mu.Lo} (hs:ShM b o w s) (hl:Mu.loc (.cas old l)) (h:MAt P n b o kind (.cas old l) cs g):MStep P n b o kind Wd cs g w main (.cas old l) s:=by
  obtain⟨c,y,fr,frs,⟨rfl,hN⟩,hy,hr,hrs,rfl⟩:=h;obtain⟨L,K,S,N⟩:=old;obtain⟨aw,sv,it⟩:=l;simp only at hN hr hrs
  have hnb:(aw && !K)=false:=by
    cases aw with
    | false=>rfl
    | true=>have:=hl.1 rfl;simp at this;simp[this]
  have hk:(CAS P n b o kind L K S aw sv it).1.kind ≠ .early:=by simp[CAS,slowAt]
  have hold:∀ x,SR y (.word L K S 0) x->x = .int .i32 (enc L K S N):=fun x hx=>by
    have:=hx.1;rw[hN,Int.add_zero] at this;exact this
  have hnew:∀ x,SR y (wNew L K S aw sv) x->x = .int .i32 (enc (Mu.newOf ⟨L,K,S,N⟩ ⟨aw,sv,it⟩).L (Mu.newOf ⟨L,K,S,N⟩ ⟨aw,sv,it⟩).K (Mu.newOf ⟨L,K,S,N⟩ ⟨aw,sv,it⟩).S (Mu.newOf ⟨L,K,S,N⟩ ⟨aw,sv,it⟩).N):=fun x hx=>by
    have:=hx.1;rw[hN] at this;rw[this];simp only[Mu.newOf];congr 2;split <;> simp
  by_cases hz:s.w=⟨L,K,S,N⟩
  . have hc:=hs.cw
    rw[hz] at hc;have hst:=stop_cas_hit (main:=main) (cs:=frs ++ cs) hr (C.o10 b o kind L K S aw sv it) hk X.cas hold hnew hc (hs.fz o)
    by_cases hLS:(L || S)=true
    . have hmv:((.park sv:Mu.Pc),({ s with w:=Mu.newOf ⟨L,K,S,N⟩ ⟨aw,sv,it⟩ }:Mu.Sh))∈Mu.mv (.cas ⟨L,K,S,N⟩ ⟨aw,sv,it⟩) s:=by
        simp only[Mu.mv,hnb,Bool.false_eq_true,if_false,hz,if_true,hLS,List.mem_singleton]
      by_cases hws:y.ws=0
      . have key:=C.e14t (Fl.of y) b o kind L K S aw sv it hLS
        rw[fl_wz (by simpa using hws)] at key
        exact⟨_,_,_,_,_,.t1 sv,hst,hmv,.t1 _,nxt key hy hr hrs rfl rfl,mw_w rfl,hs.setW _,evM_rw (.inl rfl),fun _=>rfl⟩
      . have key:=C.e14p (Fl.of y) b o kind L K S aw sv it hLS
        rw[fl_wz (by simpa using hws)] at key
        exact⟨_,_,_,_,_,.park sv,hst,hmv,.park _,nxt key hy hr hrs rfl rfl,mw_w rfl,hs.setW _,evM_rw (.inl rfl),fun _=>rfl⟩
    . have hLS':(L || S)=false:=by simpa using hLS
      have hL:L=false:=by cases L <;> simp_all
      have hS:S=false:=by cases S <;> simp_all
      subst hL;subst hS;refine⟨_,_,_,.held,{ s with w:=Mu.newOf ⟨false,K,false,N⟩ ⟨aw,sv,it⟩ },.le,hst,?_,.held,nxt (C.e14 (Fl.of y) b o kind K aw sv it) hy hr hrs rfl (.inr rfl),mw_w rfl,hs.setW _,evM_rw (.inl rfl),fun _=>rfl⟩
      simp only[Mu.mv,hnb,Bool.false_eq_true,if_false,hz,if_true,Bool.or_self,List.mem_singleton]
  . have hne : ¬ enc s.w.L s.w.K s.w.S s.w.N=enc L K S N:=fun e=>hz (wd_eq.2 e)
    refine⟨_,_,_,.rd ⟨aw,sv,it⟩,s,.rd _,stop_cas_miss hr (C.o10 b o kind L K S aw sv it) hk X.cas hold hnew hs.cw (hs.fz o) hne,?_,.rd _,nxt (C.e15 (Fl.of y) b o kind L K S aw sv it) hy hr hrs rfl (.inr (.inr rfl)),mw_refl rfl,hs,evM_r (.inl rfl),fun _=>rfl⟩
    simp only[Mu.mv,hnb,Bool.false_eq_true,if_false,hz,List.mem_singleton]
include C X in
theorem step_park {sv:Bool} (hs:ShM b o w s) (hm:s.ms≠0) (h:MAt P n b o kind (.park sv) cs g):MStep P n b o kind Wd cs g w main (.park sv) s:=by
  obtain⟨c,y,fr,frs,rfl,hy,hr,hrs,rfl⟩:=h;have hst:=stop_acquire (main:=main) (cs:=frs ++ cs) (w:=w) (n:=(s.ms:Int)) hr (C.o12 b o kind sv) (by simp[PK,slowAt]) X.sem hs.cs (by omega) (hs.fz _)
  have e:((s.ms:Int)-1)=((s.ms-1:Nat):Int):=by omega
  rw[e] at hst;cases sv with
  | true=>exact⟨_,_,_,.up true,{ s with ms:=s.ms-1 },.up true,hst,by simp[Mu.mv,hm],.up _,nxt (C.e17t (Fl.of y) b o kind) hy hr hrs rfl rfl,mw_s rfl,hs.setS _,evM_sem,fun _=>rfl⟩
  | false=>exact⟨_,_,_,.tq,{ s with ms:=s.ms-1 },.tq,hst,by simp[Mu.mv,hm],.tq,nxt (C.e17f (Fl.of y) b o kind) hy hr hrs rfl rfl,mw_s rfl,hs.setS _,evM_sem,fun _=>rfl⟩
include C X in
theorem step_blocks {sv:Bool} (hs:ShM b o w s) (hm:s.ms=0) (h:MAt P n b o kind (.park sv) cs g):stepG P main g w = .go { g with status:=.blocked } w #[]:=by
  obtain⟨c,y,fr,frs,rfl,hy,hr,hrs,rfl⟩:=h;have hc:=hs.cs;rw[hm] at hc;exact stop_wait hr (C.o12 b o kind sv) X.sem hc
include C X in
theorem step_tq (hs:ShM b o w s) (h:MAt P n b o kind .tq cs g):MStep P n b o kind Wd cs g w main .tq s:=by
  obtain⟨c,y,fr,frs,rfl,hy,hr,hrs,rfl⟩:=h;have hst:=stop_nano (P:=P) (main:=main) (cs:=frs ++ cs) (w:=w) hr (C.o13 b o kind) (by simp[TQ,slowAt]) X.nano X.nanoN
  have hr':=hr.re (y':={ y with tn:=((w.os.mono+w.tick:Nat):Int) }) (.inl rfl) (.inl rfl) (.inl rfl) (.inr rfl)
  have hrs':=hrs.resym (y':={ y with tn:=((w.os.mono+w.tick:Nat):Int) }) (by simpa[TQ,slowAt] using C.p2 b o kind)
  have key:=C.e18 (Fl.of { y with tn:=((w.os.mono+w.tick:Nat):Int) }) b o kind (decide (IntKind.i64.wrap (((w.os.mono+w.tick:Nat):Int)-y.ws) > 1000000))
  rw[fl_tb rfl] at key;refine⟨_,_,_,.up (decide (IntKind.i64.wrap (((w.os.mono+w.tick:Nat):Int)-y.ws) > 1000000)),s,.up _,hst,?_,.up _,nxt (y:={ y with tn:=((w.os.mono+w.tick:Nat):Int) }) key hy hr' hrs' rfl rfl,mw_refl rfl ⟨⟨w.tick,rfl⟩,rfl⟩,hs.heap rfl,evM_nil,fun _=>rfl⟩
  cases decide (IntKind.i64.wrap (((w.os.mono+w.tick:Nat):Int)-y.ws) > 1000000) <;> simp[Mu.mv]
include C X in
theorem step_up {sv:Bool} (hs:ShM b o w s) (hb:s.w.N≤1000) (hl:∀ q s',(q,s')∈Mu.mv (.up sv) s->Mu.loc q) (h:MAt P n b o kind (.up sv) cs g):MStep P n b o kind Wd cs g w main (.up sv) s:=by
  obtain⟨c,y,fr,frs,rfl,hy,hr,hrs,rfl⟩:=h;have hy':({ y with N:=(s.w.N:Int) }:Sy).ok:=⟨⟨by simp,by show (s.w.N:Int)≤1000;omega⟩,hy.2⟩
  have hr':=hr.re (y':={ y with N:=(s.w.N:Int) }) (.inr rfl) (.inl rfl) (.inl rfl) (.inl rfl)
  have hrs':=hrs.resym (y':={ y with N:=(s.w.N:Int) }) (by simpa[UP,slowAt] using C.p2 b o kind)
  have hst:=stop_load (main:=main) (cs:=frs ++ cs) hr (C.o14 b o kind sv) X.tyI X.nS hs.cw
  by_cases hS:s.w.S=true
  . have hg:(s.w.L || s.w.K || decide (s.w.N=0))=false:=by
      cases hx:(s.w.L || s.w.K || decide (s.w.N=0)) with
      | false=>rfl
      | true=>exact (hl .bad s (by simp[Mu.mv,hS,hx])).elim
    have hmv:((.add s.w sv:Mu.Pc),s)∈Mu.mv (.up sv) s:=by simp[Mu.mv,hS,hg]
    simp only[Bool.or_eq_false_iff,decide_eq_false_iff_not] at hg;obtain⟨⟨hL,hK⟩,hN0⟩:=hg;have key:=C.e19 (Fl.of { y with N:=(s.w.N:Int) }) b o kind sv (decide (s.w.N=1))
    rw[fl_n01 (by show decide ((s.w.N:Int)=0)=false;simpa using hN0) (by show decide ((s.w.N:Int)=1)=decide (s.w.N=1);rw[Bool.eq_iff_iff,decide_eq_true_iff,decide_eq_true_iff];omega)] at key
    have hv:SR { y with N:=(s.w.N:Int) } (.word false false true 0) (.int .i32 (enc s.w.L s.w.K s.w.S s.w.N)):=by
      rw[hL,hK,hS];exact sr_word rfl
    exact⟨_,w,#[],_,s,.add s.w sv,hst,hmv,.add _ _,nxt (y:={ y with N:=(s.w.N:Int) }) key hy' hr' hrs' hv rfl,mw_refl rfl,hs,evM_nil,fun _=>rfl⟩
  . have hS':s.w.S=false:=by simpa using hS
    have hmv:(Mu.nx s.w ⟨true,sv,0⟩,s)∈Mu.mv (.up sv) s:=by simp[Mu.mv,hS']
    have hv:SR { y with N:=(s.w.N:Int) } (.word s.w.L s.w.K false 0) (.int .i32 (enc s.w.L s.w.K s.w.S s.w.N)):=by
      rw[hS'];exact sr_word rfl
    obtain⟨fr',frs',h1,h2,h3⟩:=advH (Wd:=Wd) (C.e20 (Fl.of { y with N:=(s.w.N:Int) }) b o kind s.w.L s.w.K sv) hy' hr' hrs' hv
    obtain⟨g2,h4,h5⟩:=from_hd C (Wd:=Wd) (cs:=cs) (old:=s.w) (l:=⟨true,sv,0⟩) hy' rfl (by rw[hS'];exact h1) (by rw[hS'];exact h2) (hl _ _ hmv)
    exact⟨_,w,#[],_,s,nxM s.w ⟨true,sv,0⟩,hst,hmv,to_nx _ _,⟨rfl,g2,(h3 cs).trans h4,h5⟩,mw_refl rfl,hs,evM_nil,fun _=>rfl⟩
include C X in
theorem step_add {old:Mu.Wd} {sv:Bool} (hs:ShM b o w s) (hb:s.w.N≤1000) (hL:s.w.L=false) (hS:s.w.S=true) (hN:s.w.N≠0) (h:MAt P n b o kind (.add old sv) cs g):MStep P n b o kind Wd cs g w main (.add old sv) s:=by
  obtain⟨c,y,fr,frs,rfl,hy,hr,hrs,rfl⟩:=h;have hst:=stop_add (main:=main) (cs:=frs ++ cs) (w:=w) hr (C.o15 b o kind _) (by simp[AD,slowAt]) X.add (fun x h=>h) hs.cw (hs.fz _)
  have e:IntKind.i32.wrap (enc s.w.L s.w.K s.w.S s.w.N+(if !sv || decide (old.N=1) then -11 else -7))=enc true s.w.K (s.w.S && !(!sv || decide (old.N=1))) (s.w.N-1:Nat):=by
    rw[hL,hS];have hx:((s.w.N-1:Nat):Int)=(s.w.N:Int)-1:=by omega
    rw[hx];generalize (!sv || decide (old.N=1))=x
    have hbd:=enc_bounds (L:=false) (K:=s.w.K) (S:=true) (N:=(s.w.N:Int));rw[wrap_i32_of (by split <;> omega) (by split <;> omega)]
    unfold enc;cases x <;> cases s.w.K <;> simp[Bool.toNat] <;> omega
  rw[e] at hst;exact⟨_,_,_,.held,{ s with w:={ s.w with L:=true,S:=s.w.S && !(!sv || decide (old.N=1)),N:=s.w.N-1 } },.le,hst,by simp[Mu.mv],.held,nxt (C.e21 (Fl.of y) b o kind _) hy hr hrs trivial (.inr rfl),mw_w rfl,hs.setW { s.w with L:=true,S:=s.w.S && !(!sv || decide (old.N=1)),N:=s.w.N-1 },evM_rw (.inl rfl),fun _=>rfl⟩
include C X in
theorem step_held (hs:ShM b o w s) (hb:s.w.N≤1000) (hL:s.w.L=true) (h:MAt P n b o kind .held cs g):MStep P n b o kind Wd cs g w main .held s:=by
  obtain⟨c,y,fr,frs,rfl,hy,hr,hrs,rfl⟩:=h;have hy':({ y with N:=(s.w.N:Int) }:Sy).ok:=⟨⟨by simp,by show (s.w.N:Int)≤1000;omega⟩,hy.2⟩
  have hr':=hr.re (y':={ y with N:=(s.w.N:Int) }) (.inr rfl) (.inl rfl) (.inl rfl) (.inl rfl)
  have hrs':=hrs.resym (y':={ y with N:=(s.w.N:Int) }) (by simpa[HELD,iulAt] using (C.p3 b o kind).1)
  have hst:=stop_add (main:=main) (cs:=frs ++ cs) (w:=w) hr (C.o24 b o kind) (by simp[HELD,iulAt]) X.add (fun x h=>h) hs.cw (hs.fz _)
  have e:IntKind.i32.wrap (enc s.w.L s.w.K s.w.S s.w.N + -1)=enc false s.w.K s.w.S s.w.N:=by
    rw[hL];have hbd:=enc_bounds (L:=true) (K:=s.w.K) (S:=s.w.S) (N:=(s.w.N:Int));rw[wrap_i32_of (by omega) (by omega)]
    unfold enc;simp[Bool.toNat];omega
  rw[e] at hst;have hsh:=hs.setW { s.w with L:=false }
  have hv:SR { y with N:=(s.w.N:Int) } (.word false s.w.K s.w.S 0) (.int .i32 (enc false s.w.K s.w.S s.w.N)):=sr_word rfl
  by_cases hS:s.w.S=true
  . have key:=C.u5g (Fl.of { y with N:=(s.w.N:Int) }) b o kind (decide ((s.w.N:Int)=0)) s.w.K
    rw[hS] at hv;exact⟨_,_,_,.give,{ s with w:={ s.w with L:=false } },.give,hst,by simp[Mu.mv,hL,hS,Mu.Wd.zero],.give,nxt (y:={ y with N:=(s.w.N:Int) }) key hy' hr' hrs' (by rw[hS];exact hv) (.inr rfl),mw_w rfl,hsh,evM_rw (.inl rfl),fun _=>rfl⟩
  . have hS':s.w.S=false:=by simpa using hS
    by_cases hq:(decide ((s.w.N:Int)=0) || s.w.K)=true
    . have key:=C.u5 (Fl.of { y with N:=(s.w.N:Int) }) b o kind (decide ((s.w.N:Int)=0)) s.w.K hq
      refine⟨_,_,_,.out,{ s with w:={ s.w with L:=false } },.ue,hst,?_,.out,nxt (y:={ y with N:=(s.w.N:Int) }) key hy' hr' hrs' (by rw[hS'] at hv ⊢;exact hv) rfl,mw_w rfl,hsh,evM_rw (.inl rfl),fun _=>rfl⟩
      have hq':(decide (s.w.N=0) || s.w.K)=true:=by simpa using hq
      simp only[Mu.mv,hL,Bool.true_eq_false,if_false,List.mem_singleton,Prod.mk.injEq,and_true];split
      . rfl
      . simp only[hS',Bool.false_eq_true,if_false,hq',if_true]
    . have hq':(decide ((s.w.N:Int)=0) || s.w.K)=false:=by simpa using hq
      simp only[Bool.or_eq_false_iff,decide_eq_false_iff_not] at hq';have hN0:s.w.N≠0:=by have:=hq'.1;omega
      have key:=C.u5c (Fl.of { y with N:=(s.w.N:Int) }) b o kind
      rw[fl_n0 (by show decide ((s.w.N:Int)=0)=false;simpa using hN0)] at key
      rw[hq'.2,hS'] at hv;refine⟨_,_,_,.ucas { s.w with L:=false },{ s with w:={ s.w with L:=false } },.ucas _,hst,?_,.ucas _,nxt (y:={ y with N:=(s.w.N:Int) }) key hy' hr' hrs' (by rw[hq'.2,hS'];exact hv) ⟨rfl,rfl,rfl,hq'.2,hS',hN0⟩,mw_w rfl,hsh,evM_rw (.inl rfl),fun _=>rfl⟩
      have hz:({ s.w with L:=false }:Mu.Wd)≠Mu.Wd.zero:=fun e=>hN0 (by have:=congrArg Mu.Wd.N e;exact this)
      simp[Mu.mv,hL,hS',hN0,hq'.2,Mu.Wd.zero]
include C X in
theorem step_ucas {old:Mu.Wd} (hs:ShM b o w s) (h:MAt P n b o kind (.ucas old) cs g):MStep P n b o kind Wd cs g w main (.ucas old) s:=by
  obtain⟨c,y,fr,frs,⟨rfl,hN,hL,hK,hS,hN0⟩,hy,hr,hrs,rfl⟩:=h;obtain⟨L,K,S,N⟩:=old;simp only at hN hL hK hS hN0;subst hL;subst hK;subst hS;have hk:(UC P n b o kind).1.kind ≠ .early:=by simp[UC,uslAt]
  have hold:∀ x,SR y wf x->x = .int .i32 (enc false false false N):=fun x hx=>by
    have:=hx.1;rw[hN,Int.add_zero] at this;exact this
  have hnew:∀ x,SR y (.word false true false (-1)) x->x = .int .i32 (enc false true false (N-1:Nat)):=fun x hx=>by
    have:=hx.1;rw[hN] at this;rw[this];congr 2;omega
  by_cases hz:s.w=⟨false,false,false,N⟩
  . have hc:=hs.cw
    rw[hz] at hc;exact⟨_,_,_,.give,{ s with w:=⟨false,true,false,N-1⟩ },.give,stop_cas_hit hr (C.o25 b o kind) hk X.cas hold hnew hc (hs.fz o),by simp[Mu.mv,hz],.give,nxt (C.u6t (Fl.of y) b o kind) hy hr hrs rfl (.inl rfl),mw_w rfl,hs.setW ⟨false,true,false,N-1⟩,evM_rw (.inl rfl),fun _=>rfl⟩
  . have hne : ¬ enc s.w.L s.w.K s.w.S s.w.N=enc false false false N:=fun e=>hz (wd_eq.2 e)
    exact⟨_,_,_,.urd,s,.urd,stop_cas_miss hr (C.o25 b o kind) hk X.cas hold hnew hs.cw (hs.fz o) hne,by simp[Mu.mv,hz],.urd,nxt (C.u6f (Fl.of y) b o kind) hy hr hrs rfl rfl,mw_refl rfl,hs,evM_r (.inl rfl),fun _=>rfl⟩
include C X in
theorem step_urd (hs:ShM b o w s) (hb:s.w.N≤1000) (h:MAt P n b o kind .urd cs g):MStep P n b o kind Wd cs g w main .urd s:=by
  obtain⟨c,y,fr,frs,rfl,hy,hr,hrs,rfl⟩:=h;have hy':({ y with N:=(s.w.N:Int) }:Sy).ok:=⟨⟨by simp,by show (s.w.N:Int)≤1000;omega⟩,hy.2⟩
  have hr':=hr.re (y':={ y with N:=(s.w.N:Int) }) (.inr rfl) (.inl rfl) (.inl rfl) (.inl rfl)
  have hrs':=hrs.resym (y':={ y with N:=(s.w.N:Int) }) (by simpa[URD,uslAt] using C.p4 b o kind)
  have hst:=stop_load (main:=main) (cs:=frs ++ cs) hr (C.o28 b o kind) X.tyI X.nV hs.cw;have hv:SR { y with N:=(s.w.N:Int) } (.word s.w.L s.w.K s.w.S 0) (.int .i32 (enc s.w.L s.w.K s.w.S s.w.N)):=sr_word rfl
  by_cases hq:(decide ((s.w.N:Int)=0) || s.w.L || s.w.K || s.w.S)=true
  . have key:=C.u7 (Fl.of { y with N:=(s.w.N:Int) }) b o kind (decide ((s.w.N:Int)=0)) s.w.L s.w.K s.w.S hq
    have hq':(decide (s.w.N=0) || s.w.L || s.w.K || s.w.S)=true:=by simpa using hq
    exact⟨_,w,#[],.out,s,.ue,hst,by simp only[Mu.mv,hq',if_true,List.mem_singleton],.out,nxt (y:={ y with N:=(s.w.N:Int) }) key hy' hr' hrs' hv rfl,mw_refl rfl,hs,evM_nil,fun _=>rfl⟩
  . have hq':(decide ((s.w.N:Int)=0) || s.w.L || s.w.K || s.w.S)=false:=by simpa using hq
    have hq2:(decide (s.w.N=0) || s.w.L || s.w.K || s.w.S)=false:=by
      rw[← hq'];simp
    simp only[Bool.or_eq_false_iff,decide_eq_false_iff_not] at hq';obtain⟨⟨⟨h0,hL⟩,hK⟩,hS⟩:=hq';have hN0:s.w.N≠0:=by omega
    have key:=C.u7c (Fl.of { y with N:=(s.w.N:Int) }) b o kind
    rw[fl_n0 (by show decide ((s.w.N:Int)=0)=false;simpa using hN0)] at key
    rw[hL,hK,hS] at hv;exact⟨_,w,#[],.ucas s.w,s,.ucas _,hst,by simp only[Mu.mv,hq2,Bool.false_eq_true,if_false,List.mem_singleton],.ucas _,nxt (y:={ y with N:=(s.w.N:Int) }) key hy' hr' hrs' (by rw[hL,hK,hS];exact hv) ⟨rfl,rfl,hL,hK,hS,hN0⟩,mw_refl rfl,hs,evM_nil,fun _=>rfl⟩
include C X in
theorem step_give (hs:ShM b o w s) (hm:s.ms≤1000) (h:MAt P n b o kind .give cs g):MStep P n b o kind Wd cs g w main .give s:=by
  obtain⟨c,y,fr,frs,hc,hy,hr,hrs,rfl⟩:=h;have e:IntKind.u32.wrap ((s.ms:Int)+1)=((s.ms+1:Nat):Int):=by rw[IntKind.wrap_u32];omega
  rcases hc with rfl|rfl
  . have hst:=stop_release (main:=main) (cs:=frs ++ cs) (w:=w) hr (C.o26 b o kind) (by simp[G7,uslAt]) X.semr hs.cs (hs.fz _)
    rw[e] at hst;exact⟨_,_,_,.out,{ s with ms:=s.ms+1 },.ue,hst,by simp[Mu.mv],.out,nxt (C.u8 (Fl.of y) b o kind) hy hr hrs rfl rfl,mw_s rfl,hs.setS _,evM_sem,fun _=>rfl⟩
  . have hst:=stop_release (main:=main) (cs:=frs ++ cs) (w:=w) hr (C.o27 b o kind) (by simp[G9,uslAt]) X.semr hs.cs (hs.fz _)
    rw[e] at hst;exact⟨_,_,_,.out,{ s with ms:=s.ms+1 },.ue,hst,by simp[Mu.mv],.out,nxt (C.u9 (Fl.of y) b o kind) hy hr hrs rfl rfl,mw_s rfl,hs.setS _,evM_sem,fun _=>rfl⟩
end
end Go.Pal
