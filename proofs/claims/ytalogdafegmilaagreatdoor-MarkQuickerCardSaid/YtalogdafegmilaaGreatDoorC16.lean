/- Part 16 of the proof. -/
import Derived.Test.YtalogdafegmilaaGreatDoorC15
set_option linter.all false
namespace Go.aN
open Go.Conc
inductive To:Mu.Pc->qW->Prop
 |out:To .out .ue
 |rd (l:Mu.Lo):To (.rd l) (.rd l)
 |sq (old:Mu.Wd) (l:Mu.Lo):To (.sq old l) (.sq old l)
 |sw (old:Mu.Wd) (l:Mu.Lo):To (.sw old l) (.sw old l)
 |jS (old:Mu.Wd) (l:Mu.Lo):To (.jS old l) (.jS old l)
 |t1 (sv:Bool):To (.fN sv) (.t1 sv)
 |fN (sv:Bool):To (.fN sv) (.fN sv)
 |tq:To .tq .tq
 |up (sv:Bool):To (.up sv) (.up sv)
 |add (old:Mu.Wd) (sv:Bool):To (.add old sv) (.add old sv)
 |held:To .held .le
 |iC (old:Mu.Wd):To (.iC old) (.iC old)
 |tF:To .tF .tF
 |give:To .give .give
def kV(P:Program)(n:xp)(b o:Nat)(kind:CallKind)(Wd:World->Prop)(cs:List Frame)(g:Goroutine)(w:World)(main:Bool)(pc:Mu.Pc)(s:Mu.Sh):Prop:=∃g1 w' es q s' p',stepG P main g w=.go g1 w' es/\(q,s')∈Mu.mv pc s/\To q p'/\Next P n b o kind Wd cs p' g1/\MW b o w w'/\ShM b o w' s'/\EvM b o es/\∀d,deafBehind d es=d
theorem aY{b o:Nat}{w w':World}(h:w'.heap=w.heap)(ho:ll w.os w'.os/\w'.output=w.output:=by exact⟨ll.refl _,rfl⟩):MW b o w w':=⟨ho,.inl h⟩
theorem tJ{b o:Nat}{w:World}{v:Value}(h:flat v=true):MW b o w (w.setCell ⟨b,o,none⟩ v):=⟨⟨.refl _,rfl⟩,.inr ⟨o,v,.inl rfl,h,rfl⟩⟩
theorem J3{b o:Nat}{w:World}{v:Value}(h:flat v=true):MW b o w (w.setCell ⟨b,o+1,none⟩ v):=⟨⟨.refl _,rfl⟩,.inr ⟨o+1,v,.inr rfl,h,rfl⟩⟩
theorem DG{L K S L' K' S':Bool}{N N':Nat}:enc L K S N=enc L' K' S' N'↔(L=L'/\K=K'/\S=S'/\N=N'):=by
 unfold enc;constructor
 . intro h
   cases L<;>cases K<;>cases S<;>cases L'<;>cases K'<;>cases S'<;>simp[Bool.toNat]at h ⊢<;>omega
 . rintro⟨rfl,rfl,rfl,rfl⟩;rfl
section
variable{P:Program}{n:xp}(C:iy P n)(X:iz P n){b o:Nat}{kind:CallKind}{Wd:World->Prop}{cs:List Frame}{g:Goroutine}{w:World}{main:Bool}{s:Mu.Sh}
theorem DH{w:Mu.Wd}:w=Mu.Wd.zero↔(enc w.L w.K w.S w.N=0):=by
 obtain⟨L,K,S,N⟩:=w;rw[va (by simp)];simp[Mu.Wd.zero]
include C X in
theorem EJ(hs:ShM b o w s)(h:mL P n b o kind .gx cs g):kV P n b o kind Wd cs g w main .gx s:=by
 obtain⟨c,y,fr,frs,rfl,hy,hr,hrs,rfl⟩:=h;have hk:(sb P n b o kind).1.kind≠.early:=by simp[sb,lD]
 by_cases hz:s.w=Mu.Wd.zero
 . have hw:enc s.w.L s.w.K s.w.S s.w.N=0:=DH.1 hz
   have hc:=hs.cw;rw[hw]at hc;refine⟨_,_,_,.held,{s with w:={Mu.Wd.zero with L:=true}},.le,gh hr (C.o2 b o kind) hk X.jS (v:=0) (n:=1) (λx h=>h) (λx h=>h) hc (hs.fz o),by simp[Mu.mv,hz],.held,nxt (C.e2 _ b o kind) hy hr hrs rfl (.inl rfl),tJ rfl,?_,jV (.inl rfl),λ_=>rfl⟩;have:=hs.aE {Mu.Wd.zero with L:=true};exact this
 . have hw:¬enc s.w.L s.w.K s.w.S s.w.N=0:=λe=>hz (DH.2 e)
   refine⟨_,_,_,.rd ⟨false,false,0⟩,s,.rd ⟨false,false,0⟩,gS hr (C.o2 b o kind) hk X.jS (old:=0) (n:=1) (λx h=>h) (λx h=>h) hs.cw (hs.fz o) hw,by simp[Mu.mv,hz],.rd _,⟨rfl,?_⟩,aY rfl,hs,Dz (.inl rfl),λ_=>rfl⟩;obtain⟨fr',frs',h1,h2,h3⟩:=Lf (Wd:=Wd) (x:=.bool false) (C.e3 _ b o kind) hy hr hrs rfl;refine⟨_,h3 cs,LZ P n b o kind false false 0,{y with ws:=0},fr',frs',.inl rfl,hy,?_,?_,rfl⟩
   . have h4:=h1.re (y':={y with ws:=0}) (.inl rfl) (.inl rfl) (.inr rfl) (.inl rfl)
     refine⟨h4.fn,h4.todo,h4.defers,h4.mode,h4.kind,h4.ro,h4.size.trans rfl,λt=>?_⟩;have h5:=h4.env t;by_cases ht:t=2
     . subst ht;exact h5
     . have e:(LZ P n b o kind false false 0).1.env=(Pa P n b o kind).1.env.set 2 .EG:=rfl
       rw[e,List.getD_eq_getElem?_getD,List.getElem?_set_ne (Ne.symm ht),<-List.getD_eq_getElem?_getD];exact h5
   . exact h2.fW (by simpa[Pa,cq]using C.p2 b o kind)
theorem oW{y:Sy}{L K S:Bool}{N:Nat}(h:y.N=N):SR y (.word L K S 0) (.int .i32 (enc L K S N)):=by
 refine⟨?_,?_,by decide⟩
 . rw[h,Int.add_zero]
 . rw[h];simp
theorem DI{y:Sy}{x:Bool}(h:decide (y.N=0)=x):{Fl.of y with n0:=x}=Fl.of y:=by subst h;rfl
theorem L1{y:Sy}{x z:Bool}(h:decide (y.N=0)=x)(h':decide (y.N=1)=z):{Fl.of y with n0:=x,n1:=z}=Fl.of y:=by subst h;subst h';rfl
theorem Lg{y:Sy}{x:Bool}(h:decide (y.ws=0)=x):{Fl.of y with wz:=x}=Fl.of y:=by subst h;rfl
theorem N9{y:Sy}{x:Bool}(h:decide (IntKind.i64.wrap (y.tn-y.ws)>1000000)=x):{Fl.of y with tb:=x}=Fl.of y:=by subst h;rfl
def Na(old:Mu.Wd)(l:Mu.Lo):qW:=if old.L && !old.S then .sq old l else .jS old l
theorem Lh(old:Mu.Wd)(l:Mu.Lo):To (Mu.nx old l) (Na old l):=by
 unfold Mu.nx Na;split
 . exact .sq _ _
 . exact .jS _ _
include C in
theorem DJ{y:Sy}{old:Mu.Wd}{l:Mu.Lo}{fr:Frame}{frs:List Frame}(hy:y.ok)(hN:y.N=old.N)(hr:FR y (HD P n b o kind old.L old.K old.S l.aw l.sv l.it).1 fr)(hrs:lf y (HD P n b o kind old.L old.K old.S l.aw l.sv l.it).2 frs)(hl:Mu.loc (Mu.nx old l)):
 ∃g2,qU P Wd (G fr (frs++cs)) g2/\mL P n b o kind (Na old l) cs g2:=by
 obtain⟨L,K,S,N⟩:=old;obtain⟨aw,sv,it⟩:=l;unfold Na;unfold Mu.nx at hl;by_cases h:(L && !S)=true
 . simp only[h,if_true]at hl ⊢
   simp only[Bool.and_eq_true,Bool.not_eq_true']at h;obtain⟨rfl,rfl⟩:=h;obtain⟨fr',frs',h1,h2,h3⟩:=N8 (Wd:=Wd) (C.e8 (Fl.of y) b o kind K aw sv it) hy hr hrs;exact⟨_,h3 cs,_,y,fr',frs',⟨rfl,hN,rfl,rfl⟩,hy,h1,h2,rfl⟩
 . have h':(L && !S)=false:=by simpa using h
   rw[if_neg h]at hl ⊢
   have haw:(aw && !K)=false:=by
    cases aw with
    |false=>rfl
    |true=>have:=hl.1 rfl;simp at this;simp[this]
   obtain⟨fr',frs',h1,h2,h3⟩:=N8 (Wd:=Wd) (C.e9 (Fl.of y) b o kind L K S aw sv it h' haw) hy hr hrs;exact⟨_,h3 cs,_,y,fr',frs',⟨rfl,hN⟩,hy,h1,h2,rfl⟩
include C X in
theorem J4{l:Mu.Lo}(hs:ShM b o w s)(hb:s.w.N<=1000)(hl:Mu.loc (Mu.nx s.w l))(h:mL P n b o kind (.rd l) cs g):kV P n b o kind Wd cs g w main (.rd l) s:=by
 obtain⟨c,y,fr,frs,hc,hy,hr,hrs,rfl⟩:=h;have hy':({y with N:=(s.w.N:Int)}:Sy).ok:=⟨⟨by simp,by show(s.w.N:Int)<=1000;omega⟩,hy.2⟩
 have key:pf c.1=some (n.tI,pt b o)->c.1.fn=n.LX->(c.1.env.all (λv=>!Dw v)=true)->c.2=O9 P n b o kind->oa P (Fl.of {y with N:=(s.w.N:Int)}) [0,2,3,4,5,6] c (.word s.w.L s.w.K s.w.S 0)=some (HD P n b o kind s.w.L s.w.K s.w.S l.aw l.sv l.it) ->
  kV P n b o kind Wd cs (G fr (frs++cs)) w main (.rd l) s:=λk1 k2 k3 k4 k5=>by
  have hr':=hr.re (y':={y with N:=(s.w.N:Int)}) (.inr k3) (.inl rfl) (.inl rfl) (.inl rfl);have hrs':=hrs.fW (y':={y with N:=(s.w.N:Int)}) (by rw[k4];exact C.p2 b o kind);obtain⟨fr',frs',h1,h2,h3⟩:=N7 (Wd:=Wd) k5 hy' hr' hrs' (oW rfl);obtain⟨g2,h4,h5⟩:=DJ C (Wd:=Wd) (cs:=cs) (old:=s.w) (l:=l) hy' rfl h1 h2 hl;exact⟨_,w,#[],_,s,Na s.w l,oU hr k1 X.N6 (by rw[k2];exact X.nS) hs.cw,by simp[Mu.mv],Lh _ _,⟨rfl,g2,(h3 cs).trans h4,h5⟩,aY rfl,hs,fq,λ_=>rfl⟩
 rcases hc with rfl|rfl|rfl
 . exact key (C.QH ..) rfl rfl rfl (C.Qv ..)
 . exact key (C.QI ..) rfl rfl rfl (C.Qw ..)
 . exact key (C.QJ ..) rfl rfl rfl (C.Qx ..)
include C X in
theorem yI{y:Sy}{aw sv:Bool}{it:Nat}{fr:Frame}{frs:List Frame}(hit:it<4)(hy:y.ok)(hr:FR y (DS P n b o kind aw sv it).1 fr)(hrs:lf y (DS P n b o kind aw sv it).2 frs):
 ∃g2,qU P Wd (G fr (frs++cs)) g2/\mL P n b o kind (.rd ⟨aw,sv,it+1⟩) cs g2:=by
 have hstep:qd P Wd (G fr (frs++cs)) (G (fr.finish (.tuple #[])) (frs++cs)):=⟨rfl,λmain w _=>r8 hr (C.o9 b o kind aw sv it) (by simp[DS,cq]) X.sa⟩
 have key:aH P (Fl.of y) [0,2,3,4,5,47] (DS P n b o kind aw sv it) un=some (Du P n b o kind aw sv (it+1:Nat)):=by
  have:it=0\/it=1\/it=2\/it=3:=by omega
  rcases this with rfl|rfl|rfl|rfl
  . exact C.Cr ..
  . exact C.Cs ..
  . exact C.NZ ..
  . exact C.N1 ..
 obtain⟨_,g2,h1,h2⟩:=nxt (P:=P) (n:=n) (b:=b) (o:=o) (kind:=kind) (Wd:=Wd) (cs:=cs) (x:=.tuple #[]) (p:=.rd ⟨aw,sv,it+1⟩) key hy hr hrs rfl (.inr (.inl rfl));exact⟨g2,hstep.xi.trans h1,h2⟩
include C X in
theorem J5{old:Mu.Wd}{l:Mu.Lo}(hs:ShM b o w s)(hl:Mu.loc (.sq old l))(h:mL P n b o kind (.sq old l) cs g):kV P n b o kind Wd cs g w main (.sq old l) s:=by
 obtain⟨c,y,fr,frs,⟨rfl,hN,hL,hS⟩,hy,hr,hrs,rfl⟩:=h;obtain⟨L,K,S,N⟩:=old;obtain⟨aw,sv,it⟩:=l;simp only at hN hL hS hr hrs;subst hL;subst hS;obtain⟨l1,l2,l3,_,_⟩:=hl;simp only at l1 l2 l3
 have haw:(aw && !K)=false:=by
  cases aw with
  |false=>rfl
  |true=>simp[l1 rfl]
 obtain⟨r,w',e1,e2,e3⟩:=EH (P:=P) (main:=main) (cs:=frs++cs) (w:=w) hr (C.o7 b o kind K aw sv it) (by simp[SQ,cq]) X.EI
 have hw':w'.heap=w.heap:=by rcases e3 with rfl|rfl<;>rfl
 have ho':ll w.os w'.os/\w'.output=w.output:=by rcases e3 with rfl|rfl<;>exact⟨.refl _,rfl⟩
 cases r with
 |false=>refine⟨_,w',#[],.jS ⟨true,K,false,N⟩ ⟨aw,sv,it⟩,s,.jS _ _,e1,by simp[Mu.mv,Mu.hd],.jS _ _,nxt (C.aI (Fl.of y) b o kind K aw sv it haw) hy hr hrs rfl ⟨rfl,hN⟩,aY hw' ho',hs.heap hw',fq,λ_=>rfl⟩
 | true=>
   have hit:it<4:=by have:=e2 rfl;omega
   by_cases hq:(!aw && !K && decide (N≠0))=true
   . simp only[Bool.and_eq_true,Bool.not_eq_true',decide_eq_true_eq]at hq
     obtain⟨⟨rfl,rfl⟩,hN0⟩:=hq;have:sv=false:=by cases sv with|false=>rfl|true=>exact absurd (l2 rfl) (by simp)
     subst this;have key:=C.aJ (Fl.of y) b o kind it;rw[DI (by rw[hN];simpa using hN0)]at key
     exact⟨_,w',#[],.sw ⟨true,false,false,N⟩ ⟨false,false,it⟩,s,.sw _ _,e1,by simp[Mu.mv,Mu.hd,hit,hN0],.sw _ _,nxt key hy hr hrs rfl ⟨rfl,hN,rfl,rfl,rfl,rfl,rfl⟩,aY hw' ho',hs.heap hw',fq,λ_=>rfl⟩
   . have hq':(!aw && !K && decide (N≠0))=false:=by simpa using hq
     have hn0:(!aw && !K && !decide (y.N=0))=false:=by
      rw[hN]
      by_cases h0:N=0
      . simp[h0]
      . simp[h0]at hq' ⊢;exact hq'
     have key:=C.NY (Fl.of y) b o kind (decide (y.N=0)) K aw sv it hn0;rw[DI rfl]at key;obtain⟨fr',frs',h1,h2,h3⟩:=Lf (Wd:=Wd) (x:=.bool true) key hy hr hrs rfl;obtain⟨g2,h4,h5⟩:=yI C X (Wd:=Wd) (cs:=cs) hit hy h1 h2;refine⟨_,w',#[],.rd ⟨aw,sv,it+1⟩,s,.rd _,e1,?_,.rd _,⟨rfl,g2,(h3 cs).trans h4,h5⟩,aY hw' ho',hs.heap hw',fq,λ_=>rfl⟩
     simp only[Mu.mv,Mu.hd,hit,hq'];simp
include C X in
theorem J6{old:Mu.Wd}{l:Mu.Lo}(hs:ShM b o w s)(hl:Mu.loc (.sw old l))(h:mL P n b o kind (.sw old l) cs g):kV P n b o kind Wd cs g w main (.sw old l) s:=by
 obtain⟨c,y,fr,frs,⟨rfl,hN,h1,h2,h3,h4,h5⟩,hy,hr,hrs,rfl⟩:=h;obtain⟨L,K,S,N⟩:=old;obtain⟨aw,sv,it⟩:=l;simp only at hN h1 h2 h3 h4 h5 hr hrs;subst h1;subst h2;subst h3;subst h4;subst h5;have hit:it<4:=hl.2.2.2.2.2;have hk:(SW P n b o kind it).1.kind≠.early:=by simp[SW,cq]
 have hword:∀K':Bool,∀x,SR y (.word true K' false 0) x->x=.int .i32 (enc true K' false N):=λK' x hx=>by have:=hx.1;rw[hN,Int.add_zero]at this;exact this
 by_cases hz:s.w=⟨true,false,false,N⟩
 . have hc:=hs.cw
   rw[hz]at hc;obtain⟨fr',frs',k1,k2,k3⟩:=Lf (Wd:=Wd) (x:=.bool true) (C.bh (Fl.of y) b o kind true it) hy hr hrs rfl;obtain⟨g2,k4,k5⟩:=yI C X (Wd:=Wd) (cs:=cs) hit hy k1 k2;refine⟨_,_,_,.rd ⟨true,false,it+1⟩,{s with w:=⟨true,true,false,N⟩},.rd _,gh hr (C.o8 b o kind it) hk X.jS (hword false) (hword true) hc (hs.fz o),by simp[Mu.mv,hz],.rd _,⟨rfl,g2,(k3 cs).trans k4,k5⟩,tJ rfl,hs.aE ⟨true,true,false,N⟩,jV (.inl rfl),λ_=>rfl⟩
 . have hne:¬enc s.w.L s.w.K s.w.S s.w.N=enc true false false N:=λe=>hz (by
    obtain⟨a1,a2,a3,a4⟩:=DG.1 e;obtain⟨⟨L,K,S,N'⟩,ms⟩:=s;simp only at a1 a2 a3 a4;subst a1;subst a2;subst a3;subst a4;rfl)
   obtain⟨fr',frs',k1,k2,k3⟩:=Lf (Wd:=Wd) (x:=.bool false) (C.bh (Fl.of y) b o kind false it) hy hr hrs rfl;obtain⟨g2,k4,k5⟩:=yI C X (Wd:=Wd) (cs:=cs) hit hy k1 k2;exact⟨_,_,_,.rd ⟨false,false,it+1⟩,s,.rd _,gS hr (C.o8 b o kind it) hk X.jS (hword false) (hword true) hs.cw (hs.fz o) hne,by simp[Mu.mv,hz],.rd _,⟨rfl,g2,(k3 cs).trans k4,k5⟩,aY rfl,hs,Dz (.inl rfl),λ_=>rfl⟩
end
section
variable{P:Program}{n:xp}(C:iy P n)(X:iz P n){b o:Nat}{kind:CallKind}{Wd:World->Prop}{cs:List Frame}{g:Goroutine}{w:World}{main:Bool}{s:Mu.Sh}
theorem Li{a c:Mu.Wd}:a=c↔enc a.L a.K a.S a.N=enc c.L c.K c.S c.N:=by obtain⟨L,K,S,N⟩:=a;obtain⟨L',K',S',N'⟩:=c;rw[DG];simp
include C X in
theorem Hf{old:Mu.Wd}{l:Mu.Lo}(hs:ShM b o w s)(hl:Mu.loc (.jS old l))(h:mL P n b o kind (.jS old l) cs g):kV P n b o kind Wd cs g w main (.jS old l) s:=by
 obtain⟨c,y,fr,frs,⟨rfl,hN⟩,hy,hr,hrs,rfl⟩:=h;obtain⟨L,K,S,N⟩:=old;obtain⟨aw,sv,it⟩:=l;simp only at hN hr hrs
 have hnb:(aw && !K)=false:=by
  cases aw with
  |false=>rfl
  |true=>have:=hl.1 rfl;simp at this;simp[this]
 have hk:(Ax P n b o kind L K S aw sv it).1.kind≠.early:=by simp[Ax,cq]
 have hold:∀x,SR y (.word L K S 0) x->x=.int .i32 (enc L K S N):=λx hx=>by have:=hx.1;rw[hN,Int.add_zero]at this;exact this
 have hnew:∀x,SR y (J1 L K S aw sv) x->x=.int .i32 (enc (Mu.n7 ⟨L,K,S,N⟩ ⟨aw,sv,it⟩).L (Mu.n7 ⟨L,K,S,N⟩ ⟨aw,sv,it⟩).K (Mu.n7 ⟨L,K,S,N⟩ ⟨aw,sv,it⟩).S (Mu.n7 ⟨L,K,S,N⟩ ⟨aw,sv,it⟩).N):=λx hx=>by have:=hx.1;rw[hN]at this;rw[this];simp only[Mu.n7];congr 2;split<;>simp
 by_cases hz:s.w=⟨L,K,S,N⟩
 . have hc:=hs.cw
   rw[hz]at hc;have hst:=gh (main:=main) (cs:=frs++cs) hr (C.PB b o kind L K S aw sv it) hk X.jS hold hnew hc (hs.fz o)
   by_cases hLS:(L||S)=true
   . have hmv:((.fN sv:Mu.Pc),({s with w:=Mu.n7 ⟨L,K,S,N⟩ ⟨aw,sv,it⟩}:Mu.Sh))∈Mu.mv (.jS ⟨L,K,S,N⟩ ⟨aw,sv,it⟩) s:=by
      simp only[Mu.mv,hnb,Bool.false_eq_true,if_false,hz,if_true,hLS,List.mem_singleton]
     by_cases hws:y.ws=0
     . have key:=C.N2 (Fl.of y) b o kind L K S aw sv it hLS
       rw[Lg (by simpa using hws)]at key
       exact⟨_,_,_,_,_,.t1 sv,hst,hmv,.t1 _,nxt key hy hr hrs rfl rfl,tJ rfl,hs.aE _,jV (.inl rfl),λ_=>rfl⟩
     . have key:=C.N3 (Fl.of y) b o kind L K S aw sv it hLS
       rw[Lg (by simpa using hws)]at key
       exact⟨_,_,_,_,_,.fN sv,hst,hmv,.fN _,nxt key hy hr hrs rfl rfl,tJ rfl,hs.aE _,jV (.inl rfl),λ_=>rfl⟩
   . have hLS':(L||S)=false:=by simpa using hLS
     have hL:L=false:=by cases L<;>simp_all
     have hS:S=false:=by cases S<;>simp_all
     subst hL;subst hS;refine⟨_,_,_,.held,{s with w:=Mu.n7 ⟨false,K,false,N⟩ ⟨aw,sv,it⟩},.le,hst,?_,.held,nxt (C.eM (Fl.of y) b o kind K aw sv it) hy hr hrs rfl (.inr rfl),tJ rfl,hs.aE _,jV (.inl rfl),λ_=>rfl⟩
     simp only[Mu.mv,hnb,Bool.false_eq_true,if_false,hz,if_true,Bool.or_self,List.mem_singleton]
 . have hne:¬enc s.w.L s.w.K s.w.S s.w.N=enc L K S N:=λe=>hz (Li.2 e)
   refine⟨_,_,_,.rd ⟨aw,sv,it⟩,s,.rd _,gS hr (C.PB b o kind L K S aw sv it) hk X.jS hold hnew hs.cw (hs.fz o) hne,?_,.rd _,nxt (C.je (Fl.of y) b o kind L K S aw sv it) hy hr hrs rfl (.inr (.inr rfl)),aY rfl,hs,Dz (.inl rfl),λ_=>rfl⟩
   simp only[Mu.mv,hnb,Bool.false_eq_true,if_false,hz,List.mem_singleton]
include C X in
theorem EK{sv:Bool}(hs:ShM b o w s)(hm:s.ms≠0)(h:mL P n b o kind (.fN sv) cs g):kV P n b o kind Wd cs g w main (.fN sv) s:=by
 obtain⟨c,y,fr,frs,rfl,hy,hr,hrs,rfl⟩:=h;have hst:=qV (main:=main) (cs:=frs++cs) (w:=w) (n:=(s.ms:Int)) hr (C.PC b o kind sv) (by simp[PK,cq]) X.Cp hs.cs (by omega) (hs.fz _);have e:((s.ms:Int)-1)=((s.ms-1:Nat):Int):=by omega
 rw[e]at hst;cases sv with
 |true=>exact⟨_,_,_,.up true,{s with ms:=s.ms-1},.up true,hst,by simp[Mu.mv,hm],.up _,nxt (C.N4 (Fl.of y) b o kind) hy hr hrs rfl rfl,J3 rfl,hs.Ct _,tZ,λ_=>rfl⟩
 |false=>exact⟨_,_,_,.tq,{s with ms:=s.ms-1},.tq,hst,by simp[Mu.mv,hm],.tq,nxt (C.N5 (Fl.of y) b o kind) hy hr hrs rfl rfl,J3 rfl,hs.Ct _,tZ,λ_=>rfl⟩
include C X in
theorem AA{sv:Bool}(hs:ShM b o w s)(hm:s.ms=0)(h:mL P n b o kind (.fN sv) cs g):stepG P main g w=.go {g with status:=.blocked} w #[]:=by obtain⟨c,y,fr,frs,rfl,hy,hr,hrs,rfl⟩:=h;have hc:=hs.cs;rw[hm]at hc;exact xm hr (C.PC b o kind sv) X.Cp hc
include C X in
theorem J7(hs:ShM b o w s)(h:mL P n b o kind .tq cs g):kV P n b o kind Wd cs g w main .tq s:=by
 obtain⟨c,y,fr,frs,rfl,hy,hr,hrs,rfl⟩:=h;have hst:=xn (P:=P) (main:=main) (cs:=frs++cs) (w:=w) hr (C.QL b o kind) (by simp[TQ,cq]) X.nano X.G8;have hr':=hr.re (y':={y with tn:=((w.os.mono+w.tick:Nat):Int)}) (.inl rfl) (.inl rfl) (.inl rfl) (.inr rfl);have hrs':=hrs.fW (y':={y with tn:=((w.os.mono+w.tick:Nat):Int)}) (by simpa[TQ,cq]using C.p2 b o kind);have key:=C.JA (Fl.of {y with tn:=((w.os.mono+w.tick:Nat):Int)}) b o kind (decide (IntKind.i64.wrap (((w.os.mono+w.tick:Nat):Int)-y.ws)>1000000));rw[N9 rfl]at key;refine⟨_,_,_,.up (decide (IntKind.i64.wrap (((w.os.mono+w.tick:Nat):Int)-y.ws)>1000000)),s,.up _,hst,?_,.up _,nxt (y:={y with tn:=((w.os.mono+w.tick:Nat):Int)}) key hy hr' hrs' rfl rfl,aY rfl ⟨⟨w.tick,rfl⟩,rfl⟩,hs.heap rfl,fq,λ_=>rfl⟩;cases decide (IntKind.i64.wrap (((w.os.mono+w.tick:Nat):Int)-y.ws)>1000000)<;>simp[Mu.mv]
include C X in
theorem J8{sv:Bool}(hs:ShM b o w s)(hb:s.w.N<=1000)(hl:∀q s',(q,s')∈Mu.mv (.up sv) s->Mu.loc q)(h:mL P n b o kind (.up sv) cs g):kV P n b o kind Wd cs g w main (.up sv) s:=by
 obtain⟨c,y,fr,frs,rfl,hy,hr,hrs,rfl⟩:=h;have hy':({y with N:=(s.w.N:Int)}:Sy).ok:=⟨⟨by simp,by show(s.w.N:Int)<=1000;omega⟩,hy.2⟩
 have hr':=hr.re (y':={y with N:=(s.w.N:Int)}) (.inr rfl) (.inl rfl) (.inl rfl) (.inl rfl)
 have hrs':=hrs.fW (y':={y with N:=(s.w.N:Int)}) (by simpa[UP,cq]using C.p2 b o kind)
 have hst:=oU (main:=main) (cs:=frs++cs) hr (C.QM b o kind sv) X.N6 X.nS hs.cw
 by_cases hS:s.w.S=true
 . have hg:(s.w.L||s.w.K||decide (s.w.N=0))=false:=by
    cases hx:(s.w.L||s.w.K||decide (s.w.N=0))with
    |false=>rfl
    |true=>exact(hl .bad s (by simp[Mu.mv,hS,hx])).elim
   have hmv:((.add s.w sv:Mu.Pc),s)∈Mu.mv (.up sv) s:=by simp[Mu.mv,hS,hg]
   simp only[Bool.or_eq_false_iff,decide_eq_false_iff_not]at hg;obtain⟨⟨hL,hK⟩,hN0⟩:=hg;have key:=C.Qy (Fl.of {y with N:=(s.w.N:Int)}) b o kind sv (decide (s.w.N=1))
   rw[L1 (by show decide ((s.w.N:Int)=0)=false;simpa using hN0) (by show decide ((s.w.N:Int)=1)=decide (s.w.N=1);rw[Bool.eq_iff_iff,decide_eq_true_iff,decide_eq_true_iff];omega)]at key
   have hv:SR {y with N:=(s.w.N:Int)} (.word false false true 0) (.int .i32 (enc s.w.L s.w.K s.w.S s.w.N)):=by rw[hL,hK,hS];exact oW rfl
   exact⟨_,w,#[],_,s,.add s.w sv,hst,hmv,.add _ _,nxt (y:={y with N:=(s.w.N:Int)}) key hy' hr' hrs' hv rfl,aY rfl,hs,fq,λ_=>rfl⟩
 . have hS':s.w.S=false:=by simpa using hS
   have hmv:(Mu.nx s.w ⟨true,sv,0⟩,s)∈Mu.mv (.up sv) s:=by simp[Mu.mv,hS']
   have hv:SR {y with N:=(s.w.N:Int)} (.word s.w.L s.w.K false 0) (.int .i32 (enc s.w.L s.w.K s.w.S s.w.N)):=by rw[hS'];exact oW rfl
   obtain⟨fr',frs',h1,h2,h3⟩:=N7 (Wd:=Wd) (C.tW (Fl.of {y with N:=(s.w.N:Int)}) b o kind s.w.L s.w.K sv) hy' hr' hrs' hv
   obtain⟨g2,h4,h5⟩:=DJ C (Wd:=Wd) (cs:=cs) (old:=s.w) (l:=⟨true,sv,0⟩) hy' rfl (by rw[hS'];exact h1) (by rw[hS'];exact h2) (hl _ _ hmv)
   exact⟨_,w,#[],_,s,Na s.w ⟨true,sv,0⟩,hst,hmv,Lh _ _,⟨rfl,g2,(h3 cs).trans h4,h5⟩,aY rfl,hs,fq,λ_=>rfl⟩
include C X in
theorem Hg{old:Mu.Wd}{sv:Bool}(hs:ShM b o w s)(hb:s.w.N<=1000)(hL:s.w.L=false)(hS:s.w.S=true)(hN:s.w.N≠0)(h:mL P n b o kind (.add old sv) cs g):kV P n b o kind Wd cs g w main (.add old sv) s:=by
 obtain⟨c,y,fr,frs,rfl,hy,hr,hrs,rfl⟩:=h;have hst:=n9 (main:=main) (cs:=frs++cs) (w:=w) hr (C.QN b o kind _) (by simp[AD,cq]) X.add (λx h=>h) hs.cw (hs.fz _)
 have e:IntKind.i32.wrap (enc s.w.L s.w.K s.w.S s.w.N+(if !sv||decide (old.N=1)then -11 else -7))=enc true s.w.K (s.w.S && !(!sv||decide (old.N=1))) (s.w.N-1:Nat):=by
  rw[hL,hS];have hx:((s.w.N-1:Nat):Int)=(s.w.N:Int)-1:=by omega
  rw[hx];generalize (!sv||decide (old.N=1))=x;have hbd:=kS (L:=false) (K:=s.w.K) (S:=true) (N:=(s.w.N:Int));rw[iw (by split<;>omega) (by split<;>omega)];unfold enc;cases x<;>cases s.w.K<;>simp[Bool.toNat]<;>omega
 rw[e]at hst;exact⟨_,_,_,.held,{s with w:={s.w with L:=true,S:=s.w.S && !(!sv||decide (old.N=1)),N:=s.w.N-1}},.le,hst,by simp[Mu.mv],.held,nxt (C.v5 (Fl.of y) b o kind _) hy hr hrs trivial (.inr rfl),tJ rfl,hs.aE {s.w with L:=true,S:=s.w.S && !(!sv||decide (old.N=1)),N:=s.w.N-1},jV (.inl rfl),λ_=>rfl⟩
include C X in
theorem EL(hs:ShM b o w s)(hb:s.w.N<=1000)(hL:s.w.L=true)(h:mL P n b o kind .held cs g):kV P n b o kind Wd cs g w main .held s:=by
 obtain⟨c,y,fr,frs,rfl,hy,hr,hrs,rfl⟩:=h;have hy':({y with N:=(s.w.N:Int)}:Sy).ok:=⟨⟨by simp,by show(s.w.N:Int)<=1000;omega⟩,hy.2⟩
 have hr':=hr.re (y':={y with N:=(s.w.N:Int)}) (.inr rfl) (.inl rfl) (.inl rfl) (.inl rfl)
 have hrs':=hrs.fW (y':={y with N:=(s.w.N:Int)}) (by simpa[qe,nz]using(C.p3 b o kind).1)
 have hst:=n9 (main:=main) (cs:=frs++cs) (w:=w) hr (C.PE b o kind) (by simp[qe,nz]) X.add (λx h=>h) hs.cw (hs.fz _)
 have e:IntKind.i32.wrap (enc s.w.L s.w.K s.w.S s.w.N+-1)=enc false s.w.K s.w.S s.w.N:=by
  rw[hL];have hbd:=kS (L:=true) (K:=s.w.K) (S:=s.w.S) (N:=(s.w.N:Int));rw[iw (by omega) (by omega)]
  unfold enc;simp[Bool.toNat];omega
 rw[e]at hst;have hsh:=hs.aE {s.w with L:=false}
 have hv:SR {y with N:=(s.w.N:Int)} (.word false s.w.K s.w.S 0) (.int .i32 (enc false s.w.K s.w.S s.w.N)):=oW rfl
 by_cases hS:s.w.S=true
 . have key:=C.QB (Fl.of {y with N:=(s.w.N:Int)}) b o kind (decide ((s.w.N:Int)=0)) s.w.K
   rw[hS]at hv;exact⟨_,_,_,.give,{s with w:={s.w with L:=false}},.give,hst,by simp[Mu.mv,hL,hS,Mu.Wd.zero],.give,nxt (y:={y with N:=(s.w.N:Int)}) key hy' hr' hrs' (by rw[hS];exact hv) (.inr rfl),tJ rfl,hsh,jV (.inl rfl),λ_=>rfl⟩
 . have hS':s.w.S=false:=by simpa using hS
   by_cases hq:(decide ((s.w.N:Int)=0)||s.w.K)=true
   . have key:=C.u5 (Fl.of {y with N:=(s.w.N:Int)}) b o kind (decide ((s.w.N:Int)=0)) s.w.K hq
     refine⟨_,_,_,.out,{s with w:={s.w with L:=false}},.ue,hst,?_,.out,nxt (y:={y with N:=(s.w.N:Int)}) key hy' hr' hrs' (by rw[hS']at hv ⊢;exact hv) rfl,tJ rfl,hsh,jV (.inl rfl),λ_=>rfl⟩
     have hq':(decide (s.w.N=0)||s.w.K)=true:=by simpa using hq
     simp only[Mu.mv,hL,Bool.true_eq_false,if_false,List.mem_singleton,Prod.mk.injEq,and_true];split
     . rfl
     . simp only[hS',Bool.false_eq_true,if_false,hq',if_true]
   . have hq':(decide ((s.w.N:Int)=0)||s.w.K)=false:=by simpa using hq
     simp only[Bool.or_eq_false_iff,decide_eq_false_iff_not]at hq';have hN0:s.w.N≠0:=by have:=hq'.1;omega
     have key:=C.QC (Fl.of {y with N:=(s.w.N:Int)}) b o kind
     rw[DI (by show decide ((s.w.N:Int)=0)=false;simpa using hN0)]at key
     rw[hq'.2,hS']at hv;refine⟨_,_,_,.iC {s.w with L:=false},{s with w:={s.w with L:=false}},.iC _,hst,?_,.iC _,nxt (y:={y with N:=(s.w.N:Int)}) key hy' hr' hrs' (by rw[hq'.2,hS'];exact hv) ⟨rfl,rfl,rfl,hq'.2,hS',hN0⟩,tJ rfl,hsh,jV (.inl rfl),λ_=>rfl⟩
     have hz:({s.w with L:=false}:Mu.Wd)≠Mu.Wd.zero:=λe=>hN0 (by have:=congrArg Mu.Wd.N e;exact this)
     simp[Mu.mv,hL,hS',hN0,hq'.2,Mu.Wd.zero]
include C X in
theorem EM{old:Mu.Wd}(hs:ShM b o w s)(h:mL P n b o kind (.iC old) cs g):kV P n b o kind Wd cs g w main (.iC old) s:=by
 obtain⟨c,y,fr,frs,⟨rfl,hN,hL,hK,hS,hN0⟩,hy,hr,hrs,rfl⟩:=h;obtain⟨L,K,S,N⟩:=old;simp only at hN hL hK hS hN0;subst hL;subst hK;subst hS;have hk:(UC P n b o kind).1.kind≠.early:=by simp[UC,tg]
 have hold:∀x,SR y wf x->x=.int .i32 (enc false false false N):=λx hx=>by have:=hx.1;rw[hN,Int.add_zero]at this;exact this
 have hnew:∀x,SR y (.word false true false (-1)) x->x=.int .i32 (enc false true false (N-1:Nat)):=λx hx=>by have:=hx.1;rw[hN]at this;rw[this];congr 2;omega
 by_cases hz:s.w=⟨false,false,false,N⟩
 . have hc:=hs.cw
   rw[hz]at hc;exact⟨_,_,_,.give,{s with w:=⟨false,true,false,N-1⟩},.give,gh hr (C.PF b o kind) hk X.jS hold hnew hc (hs.fz o),by simp[Mu.mv,hz],.give,nxt (C.QD (Fl.of y) b o kind) hy hr hrs rfl (.inl rfl),tJ rfl,hs.aE ⟨false,true,false,N-1⟩,jV (.inl rfl),λ_=>rfl⟩
 . have hne:¬enc s.w.L s.w.K s.w.S s.w.N=enc false false false N:=λe=>hz (Li.2 e)
   exact⟨_,_,_,.tF,s,.tF,gS hr (C.PF b o kind) hk X.jS hold hnew hs.cw (hs.fz o) hne,by simp[Mu.mv,hz],.tF,nxt (C.QE (Fl.of y) b o kind) hy hr hrs rfl rfl,aY rfl,hs,Dz (.inl rfl),λ_=>rfl⟩
include C X in
theorem Hh(hs:ShM b o w s)(hb:s.w.N<=1000)(h:mL P n b o kind .tF cs g):kV P n b o kind Wd cs g w main .tF s:=by
 obtain⟨c,y,fr,frs,rfl,hy,hr,hrs,rfl⟩:=h;have hy':({y with N:=(s.w.N:Int)}:Sy).ok:=⟨⟨by simp,by show(s.w.N:Int)<=1000;omega⟩,hy.2⟩
 have hr':=hr.re (y':={y with N:=(s.w.N:Int)}) (.inr rfl) (.inl rfl) (.inl rfl) (.inl rfl)
 have hrs':=hrs.fW (y':={y with N:=(s.w.N:Int)}) (by simpa[Jz,tg]using C.p4 b o kind)
 have hst:=oU (main:=main) (cs:=frs++cs) hr (C.QU b o kind) X.N6 X.nV hs.cw;have hv:SR {y with N:=(s.w.N:Int)} (.word s.w.L s.w.K s.w.S 0) (.int .i32 (enc s.w.L s.w.K s.w.S s.w.N)):=oW rfl
 by_cases hq:(decide ((s.w.N:Int)=0)||s.w.L||s.w.K||s.w.S)=true
 . have key:=C.u7 (Fl.of {y with N:=(s.w.N:Int)}) b o kind (decide ((s.w.N:Int)=0)) s.w.L s.w.K s.w.S hq
   have hq':(decide (s.w.N=0)||s.w.L||s.w.K||s.w.S)=true:=by simpa using hq
   exact⟨_,w,#[],.out,s,.ue,hst,by simp only[Mu.mv,hq',if_true,List.mem_singleton],.out,nxt (y:={y with N:=(s.w.N:Int)}) key hy' hr' hrs' hv rfl,aY rfl,hs,fq,λ_=>rfl⟩
 . have hq':(decide ((s.w.N:Int)=0)||s.w.L||s.w.K||s.w.S)=false:=by simpa using hq
   have hq2:(decide (s.w.N=0)||s.w.L||s.w.K||s.w.S)=false:=by rw[<-hq'];simp
   simp only[Bool.or_eq_false_iff,decide_eq_false_iff_not]at hq';obtain⟨⟨⟨h0,hL⟩,hK⟩,hS⟩:=hq';have hN0:s.w.N≠0:=by omega
   have key:=C.QF (Fl.of {y with N:=(s.w.N:Int)}) b o kind
   rw[DI (by show decide ((s.w.N:Int)=0)=false;simpa using hN0)]at key
   rw[hL,hK,hS]at hv;exact⟨_,w,#[],.iC s.w,s,.iC _,hst,by simp only[Mu.mv,hq2,Bool.false_eq_true,if_false,List.mem_singleton],.iC _,nxt (y:={y with N:=(s.w.N:Int)}) key hy' hr' hrs' (by rw[hL,hK,hS];exact hv) ⟨rfl,rfl,hL,hK,hS,hN0⟩,aY rfl,hs,fq,λ_=>rfl⟩
include C X in
theorem EN(hs:ShM b o w s)(hm:s.ms<=1000)(h:mL P n b o kind .give cs g):kV P n b o kind Wd cs g w main .give s:=by
 obtain⟨c,y,fr,frs,hc,hy,hr,hrs,rfl⟩:=h;have e:IntKind.u32.wrap ((s.ms:Int)+1)=((s.ms+1:Nat):Int):=by rw[IntKind.wrap_u32];omega
 rcases hc with rfl|rfl
 . have hst:=mT (main:=main) (cs:=frs++cs) (w:=w) hr (C.PG b o kind) (by simp[G7,tg]) X.mU hs.cs (hs.fz _)
   rw[e]at hst;exact⟨_,_,_,.out,{s with ms:=s.ms+1},.ue,hst,by simp[Mu.mv],.out,nxt (C.u8 (Fl.of y) b o kind) hy hr hrs rfl rfl,J3 rfl,hs.Ct _,tZ,λ_=>rfl⟩
 . have hst:=mT (main:=main) (cs:=frs++cs) (w:=w) hr (C.PH b o kind) (by simp[G9,tg]) X.mU hs.cs (hs.fz _)
   rw[e]at hst;exact⟨_,_,_,.out,{s with ms:=s.ms+1},.ue,hst,by simp[Mu.mv],.out,nxt (C.u9 (Fl.of y) b o kind) hy hr hrs rfl rfl,J3 rfl,hs.Ct _,tZ,λ_=>rfl⟩
end
end Go.aN
