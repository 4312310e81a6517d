import Derived.Test.YtldmpfccgajobaaGreatDoorC19
set_option linter.all false
namespace Go.aR
open Go.Conc
open Go.ConcN (sumTo upd sumTo_upd upd_ne upd_same)
def br.jU{P:Program}:br P->Bool
 |.lk ..=>true|.un ..=>true|_=>false
theorem il{P:Program}{x:br P}(h:x.jU=true):x.work=true:=by cases x<;>simp_all [br.jU,br.work]
section
variable{P:Program}{A:eD}{Fin:ah->aj->Goroutine->Prop}{Z:Base}{s:MS P}{f:Nat->Node P}{q:Nat->Nat}{kk:Nat->ah}{OO:Nat->aj}{J M:Nat->Prop}{gs:Array Goroutine}{w w':World}{t:Trace}{j:Nat}{x:br P}{sh:Mu.Sh}{g g1:Goroutine}
theorem vw(a:j<A.n)(h:(s.w j).busy=true):fY P A s (A.b+j):=.inl ⟨j,a,rfl,h⟩
theorem iN(I:bQ A.n s)(a:j<A.n)(h:(s.w j).jG=false):bR P A s (A.b+j):=by refine .inr (.inl ⟨j,?_,rfl⟩);have:=I.idle j a;rw[h]at this;exact Nat.lt_of_not_le λc=>by simpa using this.2 c
theorem i6(a:j<A.n)(h:(s.w j).jU=true):fX P A s (A.b+j):=.inr (.inl ⟨j,a,rfl,by cases e:s.w j<;>simp_all [br.jU]⟩)
theorem jh(a:j<A.n)(h:(s.w j).jU=true):¬dK P A s (A.b+j):=by
 have:=A.hb;rintro(⟨e,_⟩|⟨l,c,d,f⟩|⟨e,_⟩)
 . omega
 . obtain rfl:l=j:=by omega
   cases e:s.w l<;>simp_all [br.jU]
 . omega
theorem pV(c:j<A.n)(h:(s.w j).jU=true):¬fj P A s (A.b+j):=by
 have:=A.hb;rintro(⟨e,_⟩|⟨l,d,f,a⟩)
 . omega
 . obtain rfl:l=j:=by omega
   rw[a]at h;cases h
theorem fu(a:j<A.n):dg P A s (A.b+j)=(s.w j).deaf:=by
 have:=A.hb;unfold dg;rw[if_neg (by omega),if_pos (by omega)];have e:A.b+j-A.b=j:=by omega
 rw[e]
theorem wM(u:A.b+A.n+1<=Z.lk)(v:bI (cG P A Fin Z u) Z s f q kk OO J M gs w t)(a:j<A.n)(h1:(s.w j).jU=true)(h2:x.jU=true)(ho:x.owns=(s.w j).owns)(hI:bQ A.n (s.aL j x sh))(hL:MS.ik A.n (s.aL j x sh) s)
 (hg:gs[A.b+j]?=some g){es:Array Event}(Q:stepG P false g w=.go g1 w' es) (o:MW A.fb A.fo w w') (R:ShM A.fb A.fo w' sh) (S:EvM A.fb A.fo es) (hd:deafBehind (s.w j).deaf es=x.deaf)
 (hs:∃n g',kI P (lQ A) n g1 g'/\GW P A j x (kk (A.b+j)) (OO (A.b+j)) g') (z:(s.sh.ms=0->sh.ms=0)\/(mayWake P g=true/\g1.status=.running)) (sl:Option (Nat × Nat)):
 ∃ops m',runT P (crowd gs w sl) (A.b+j)=(.next m',ops)/\∃s' f' q' kk' OO' J' M' gs' C T,m'=crowd gs' C T/\MS.ik A.n s' s/\bI (cG P A Fin Z u) Z s' f' q' kk' OO' J' M' gs' C (t++ops):=by
 obtain⟨n,g',D,U⟩:=hs;have hb:=A.hb;have B:=bm (P:=P) (A:=A) (Fin:=Fin) (Z:=Z) u;have N:=il h1;have w2:=il h2;have p:dw P A Z s kk OO J M gs.size w t:=v.ex;have V:(A.b+j==0)=false:=by simp;omega
 have E:=runT_crowd_go (P:=P) (sl:=sl) (i:=A.b+j) hg (by rw[V];exact Q)
 have F:bR P A s (A.b+j):=iN p.I a (bn N).2.2.2.2.1;obtain⟨y1,y2,y3⟩:=p.JO S F g.frame.fn g.frame.place;have m:∀op∈MemOp.ofEvents (A.b+j) g.frame.fn g.frame.place es,op.g=A.b+j:=λop W=>by obtain⟨e,_,rfl⟩:=Go.Conc.mem_ofEvents W;rfl
 obtain⟨m1,m2,c,e,c',m3,m4,_⟩:=m7 o p.uQ;have hP:=v.cK.sync (i:=A.b+j) (.inr ((p.hJ _).2 (vw a (bn N).2.2.2.2.2.1))) m m1 (p.calm o) (p.kept o) y2 y1;have G:dw P A Z (s.aL j x sh) kk OO J M gs.size w' (t++MemOp.ofEvents (A.b+j) g.frame.fn g.frame.place es):=p.work a N w2 ho hI R m2 ⟨c',e,m4⟩ y3
 have r:Beside (cG P A Fin Z u) s (s.aL j x sh) f f q (upd q (A.b+j) n) kk kk OO OO J J w' (A.b+j) g g1:=kL u a N w2 (λ_ _=>rfl) (λi hi=>upd_ne q n hi) (λ_ _ _=>rfl) (λ_ _ _=>rfl) (λ_ h=>h) z (λ{i k O y} X=>B.mq (s:=s) (i:=i) (k:=k) (O:=O) (g:=y) X)
 have H:=i6 (P:=P) (A:=A) (s:=s) a h1;have d:((s.aL j x sh).w j).jU=true:=by rw[aK];exact h2
 refine⟨_,_,E,s.aL j x sh,f,upd q (A.b+j) n,kk,OO,J,M,_,_,_,rfl,hL,?_⟩;refine bI.step B v hg m hP G (λl y K X=>?_) r ⟨λK=>absurd K (jh a d),λ_=>⟨jh a d,?_,?_,g',?_,?_⟩,λhh=>absurd hh (pV a d),λ_ hn _=>absurd (i6 a d) hn⟩
 . have L:l≠A.b+j:=λe=>(v.held l K).2.1 (by rw[e];exact H)
   exact B.tP G ((r.held l L).2 K) _ _ (r.OQ l _ _ _ L K X)
 . show A.b+j<A.b+A.n+1;omega
 . obtain⟨_,_,Y,_⟩:=v.walk _ H
   rw[Deaf_own,Y];show deafBehind (dg P A s (A.b+j)) es=dg P A (s.aL j x sh) (A.b+j);rw[fu a,fu a,aK];exact hd
 . exact .inr (.inl ⟨j,a,rfl,by rw[aK];exact U⟩)
 . exact .inr (by rw[upd_same];exact D)
end
end Go.aR
namespace Go.aR
open Go.Conc
open Go.ConcN (sumTo upd sumTo_upd upd_ne upd_same)
namespace Mu
section
variable{n:Nat}{pcs:Nat->Pc}{s:Sh}{i:Nat}
theorem MR{f:Pc->Nat}(h:∀p,f p<=1)(pcs:Nat->Pc)(n:Nat):tot n (λi=>f (pcs i))<=n:=by
 have:=DX (f:=λi=>f (pcs i)) (c:=1) (λi=>h _) n;omega
theorem Inv.S4(h:Inv n pcs s):s.w.N<=n+1/\s.ms<=1:=by
 have b:=MR (f:=cL) (λp=>by cases p<;>simp[cL]) pcs n
 cases e:s.w.S with
 | false=>
   obtain⟨c,_,a⟩:=h.j2 e;have:s.w.K.toNat<=1:=by cases s.w.K<;>simp
   omega
 | true=>
   obtain⟨_,_,a,d⟩:=h.j3 e;have:(!s.w.L).toNat<=1:=by cases s.w.L<;>simp
   omega
theorem Inv.MT(h:Inv n pcs s)(a:i<n)(b:pcs i=.held):s.w.L=true:=by
 have:bZ (pcs i)<=tot n (λj=>bZ (pcs j)):=iZ (λj=>bZ (pcs j)) a;rw[h.j1,b,show bZ .held=1 from rfl]at this;cases e:s.w.L<;>simp_all
theorem Inv.OR(h:Inv n pcs s)(b:i<n){old:Wd}{sv:Bool}(c:pcs i=.add old sv):s.w.L=false/\s.w.S=true/\s.w.N≠0:=by
 have:dk (pcs i)<=tot n (λj=>dk (pcs j)):=iZ (λj=>dk (pcs j)) b;rw[c,show dk (.add old sv)=1 from rfl]at this;cases e:s.w.S with
 |false=>obtain⟨_,f,_⟩:=h.j2 e;omega
 | true=>
   obtain⟨_,_,a,g⟩:=h.j3 e;refine⟨?_,rfl,by omega⟩;cases d:s.w.L with
   |false=>rfl
   |true=>rw[d]at a;simp at a;omega
end
def AO:Pc->Bool
 |.rd _=>true|.sq ..=>true|.sw ..=>true|.kU ..=>true|.gY _=>true|.tq=>true|.up _=>true|.add ..=>true|.held=>true|_=>false
def Ej:Pc->Bool
 |.out=>true|.jl _=>true|.vd=>true|.give=>true|_=>false
theorem N8(old:Wd)(l:Lo):AO (nx old l)=true:=by unfold nx;split<;>rfl
theorem QY{old:Wd}{l:Lo}{p:Pc}(h:p∈hd old l):AO p=true:=by
 unfold hd at h;rw[List.mem_append]at h;rcases h with h|h
 . split at h
   . rw[List.mem_singleton]at h;subst h;split<;>rfl
   . cases h
 . rw[List.mem_singleton]at h;subst h;rfl
theorem QZ{p q:Pc}{s s':Sh}(b:p=.iB\/(AO p=true/\p≠.held))(h:(q,s')∈mv p s)(d:q≠.bad):AO q=true:=by
 rcases b with rfl|⟨b,c⟩
 . simp only[mv]at h
   split at h<;>(rw[List.mem_singleton,Prod.mk.injEq]at h;obtain⟨rfl,rfl⟩:=h;rfl)
 cases p<;>simp only[AO,Bool.false_eq_true]at b
 case rd l=>simp only[mv,List.mem_singleton,Prod.mk.injEq]at h;obtain⟨rfl,rfl⟩:=h;exact N8 _ _
 case sq old l=>simp only[mv,List.mem_map,Prod.mk.injEq]at h;obtain⟨a,e,rfl,rfl⟩:=h;exact QY e
 case sw old l=>simp only[mv]at h;split at h<;>(rw[List.mem_singleton,Prod.mk.injEq]at h;obtain⟨rfl,rfl⟩:=h;rfl)
 case kU old l=>
  simp only[mv]at h;split at h
  . rw[List.mem_singleton,Prod.mk.injEq]at h;exact absurd h.1 d
  split at h
  . rw[List.mem_singleton,Prod.mk.injEq]at h;obtain⟨rfl,rfl⟩:=h;split<;>rfl
  . rw[List.mem_singleton,Prod.mk.injEq]at h;obtain⟨rfl,rfl⟩:=h;rfl
 case gY sv=>
  simp only[mv]at h;split at h
  . cases h
  . rw[List.mem_singleton,Prod.mk.injEq]at h;obtain⟨rfl,rfl⟩:=h;split<;>rfl
 case tq=>
  simp only[mv,List.mem_cons,Prod.mk.injEq,List.not_mem_nil,or_false]at h;rcases h with⟨rfl,rfl⟩|⟨rfl,rfl⟩<;>rfl
 case up sv=>
  simp only[mv]at h;split at h
  . split at h
    . rw[List.mem_singleton,Prod.mk.injEq]at h;exact absurd h.1 d
    . rw[List.mem_singleton,Prod.mk.injEq]at h;obtain⟨rfl,rfl⟩:=h;rfl
  . rw[List.mem_singleton,Prod.mk.injEq]at h;obtain⟨rfl,rfl⟩:=h;exact N8 _ _
 case add old sv=>simp only[mv,List.mem_singleton,Prod.mk.injEq]at h;obtain⟨rfl,rfl⟩:=h;rfl
 case held=>exact absurd rfl c
theorem Q0{p q:Pc}{s s':Sh}(a:p=.held\/(Ej p=true/\p≠.out))(h:(q,s')∈mv p s)(c:q≠.bad):Ej q=true:=by
 rcases a with rfl|⟨a,b⟩
 . simp only[mv]at h
   split at h
   . rw[List.mem_singleton,Prod.mk.injEq]at h;exact absurd h.1 c
   . rw[List.mem_singleton,Prod.mk.injEq]at h
     obtain⟨rfl,rfl⟩:=h;split
     . rfl
     split
     . rfl
     split<;>rfl
 cases p<;>simp only[Ej,Bool.false_eq_true]at a
 case out=>exact absurd rfl b
 case jl old=>simp only[mv]at h;split at h<;>(rw[List.mem_singleton,Prod.mk.injEq]at h;obtain⟨rfl,rfl⟩:=h;rfl)
 case vd=>simp only[mv,List.mem_singleton,Prod.mk.injEq]at h;obtain⟨rfl,rfl⟩:=h;split<;>rfl
 case give=>simp only[mv,List.mem_singleton,Prod.mk.injEq]at h;obtain⟨rfl,rfl⟩:=h;rfl
theorem N9{p q:Pc}{s s':Sh}(c:p≠.give)(h:(q,s')∈mv p s)(b:s.ms=0):s'.ms=0:=by
 cases p<;>simp only[mv]at h
 case out=>cases h
 case bad=>cases h
 case give=>exact absurd rfl c
 case sq=>simp only[List.mem_map,Prod.mk.injEq]at h;obtain⟨a,d,rfl,rfl⟩:=h;exact b
 case tq=>simp only[List.mem_cons,Prod.mk.injEq,List.not_mem_nil,or_false]at h;rcases h with⟨_,rfl⟩|⟨_,rfl⟩<;>exact b
 all_goals repeat' split at h
 all_goals first
  |(cases h;done)
  |(rw[List.mem_singleton,Prod.mk.injEq]at h;obtain⟨_,rfl⟩:=h;first|exact b|(show s.ms-1=0;omega))
end Mu
def t7:sD->Bool
 |.iB=>true|.rd _=>true|.sq ..=>true|.sw ..=>true|.kU ..=>true|.gY _=>true|.tq=>true|.up _=>true|.add ..=>true|.held=>true|.jl _=>true|.vd=>true|.give=>true
 |_=>false
theorem JP{q:Mu.Pc}{p:sD}(h:To q p):p.abs=q:=by cases h<;>rfl
theorem Q1{q:Mu.Pc}{p:sD}(h:To q p)(a:Mu.AO q=true):Ci p=true/\p≠.ld/\p≠.la:=by cases h<;>simp_all [Mu.AO,Ci]
theorem Q2{q:Mu.Pc}{p:sD}(h:To q p)(a:Mu.Ej q=true):x9 p=true/\p≠.Fq/\p≠.ur/\p≠.ud:=by cases h<;>simp_all [Mu.Ej,x9]
theorem JQ{q:Mu.Pc}{p:sD}(h:To q p):q≠.bad:=by cases h<;>simp
section
variable{P:Program}{nm:zd}(C:jf P nm)(X:jg P nm){n:Nat}{pcs:Nat->Mu.Pc}{s:Mu.Sh}{i:Nat}{p:sD}{b o:Nat}{kind:CallKind}{Wd:World->Prop}{cs:List Frame}{g:Goroutine}{w:World}{main:Bool}
include C X in
theorem Cp(I:Mu.Inv n pcs s)(d:i<n)(x:n<=900)(c:pcs i=p.abs)(j:t7 p=true)(a:ShM b o w s)(h:oq P nm b o kind p cs g):
 mr P nm b o kind Wd cs g w main p.abs s\/((∃sv,p=.gY sv)/\s.ms=0/\stepG P main g w=.go {g with status:=.blocked} w #[]):=by
 obtain⟨y,m⟩:=I.S4;have hb:s.w.N<=1000:=by omega
 have k:∀{q s'},(q,s')∈Mu.mv (pcs i) s->Mu.loc q:=λ{q s'} j=>by
  have:=(I.step d j).j0 i d
  rwa [Mu.an]at this
 have f:Mu.loc (pcs i):=I.j0 i d;rw[c]at k f;cases p<;>simp only[t7,Bool.false_eq_true]at j
 case iB=>exact .inl (GO C X a h)
 case rd l=>exact .inl (MH C X a hb (k (q:=Mu.nx s.w l) (s':=s) (by simp[sD.abs,Mu.mv])) h)
 case sq old l=>exact .inl (MI C X a f h)
 case sw old l=>exact .inl (MJ C X a f h)
 case kU old l=>exact .inl (JB C X a f h)
 case gY sv=>
  by_cases e:s.ms=0
  . exact .inr ⟨⟨sv,rfl⟩,e,Ch C X a e h⟩
  . exact .inl (GP C X a e h)
 case tq=>exact .inl (MK C X a h)
 case up sv=>exact .inl (ML C X a hb (λq s' r=>k r) h)
 case add old sv=>obtain⟨t,u,v⟩:=I.OR d c;exact .inl (JC C X a hb t u v h)
 case held=>exact .inl (GQ C X a hb (I.MT d c) h)
 case jl old=>exact .inl (GR C X a h)
 case vd=>exact .inl (JD C X a hb h)
 case give=>exact .inl (GS C X a (by omega) h)
end
end Go.aR
namespace Go.aR
open Go.Conc
open Go.ConcN (sumTo upd sumTo_upd upd_ne upd_same)
section
variable{P:Program}{A:eD}{Fin:ah->aj->Goroutine->Prop}{Z:Base}{s:MS P}{f:Nat->Node P}{q:Nat->Nat}{kk:Nat->ah}{OO:Nat->aj}{J M:Nat->Prop}{gs:Array Goroutine}{w:World}{t:Trace}{j:Nat}{g:Goroutine}
def Goes(P:Program)(A:eD)(Fin:ah->aj->Goroutine->Prop)(Z:Base)(j:A.b+A.n+1<=Z.lk)(s:MS P)(gs:Array Goroutine)(w:World)(t:Trace)(sl:Option (Nat × Nat))(i:Nat):Prop:=∃ops g,runT P (crowd gs w sl) i=(.next g,ops)/\∃h k l d e m o a c f,g=crowd a c f/\MS.ik A.n h s/\bI (cG P A Fin Z j) Z h k l d e m o a c (t++ops)
def Ek(P:Program)(A:eD)(s:MS P)(gs:Array Goroutine)(w:World)(sl:Option (Nat × Nat))(i:Nat)(g:Goroutine):Prop:=OM P A s i/\runT P (crowd gs w sl) i=(.next (crowd (gs.setIfInBounds i (blk g)) w sl),#[])
theorem Cq(e:gs[A.b+j]?=some g)(a:stepG P false g w=.go {g with status:=.blocked} w #[])(sl:Option (Nat × Nat)):runT P (crowd gs w sl) (A.b+j)=(.next (crowd (gs.setIfInBounds (A.b+j) (blk g)) w sl),#[]):=by
 have hb:=A.hb;have c:(A.b+j==0)=false:=by simp;omega
 have h:=runT_crowd_go (P:=P) (sl:=sl) (i:=A.b+j) e (by rw[c];exact a)
 have d:woken P g {g with status:=.blocked} w=id:=funext λo=>by unfold Go.Conc.woken;simp
 rw[d,Array.map_id]at h;exact h
variable(C:jf P A.nm)(X:jg P A.nm)
include C X in
theorem MU(G:A.b+A.n+1<=Z.lk)(H:bI (cG P A Fin Z G) Z s f q kk OO J M gs w t)(m:j<A.n){p:sD}{Y:wH P}(d:s.w j=.lk p Y)(K:gs[A.b+j]?=some g)(V:GW P A j (.lk p Y) (kk (A.b+j)) (OO (A.b+j)) g)(W:p≠.la)(sl:Option (Nat × Nat)):
 Goes P A Fin Z G s gs w t sl (A.b+j)\/Ek P A s gs w sl (A.b+j) g:=by
 have o:dw P A Z s kk OO J M gs.size w t:=H.ex;have a7:Ci p=true:=by have:=o.I.ok j m;rw[d]at this;exact this
 have L:(s.w j).jU=true:=by rw[d];rfl
 have v:=il L;have l:(s.w j).pc=p.abs:=by rw[d];rfl
 have hn:=A.hn;have hb:=A.hb;have b0:(A.b+j==0)=false:=by simp;omega
 obtain⟨kind,c,rest,e,Q,R,S,T,r,U⟩:=V
 by_cases N:t7 p=true
 . rcases Cp (Wd:=lQ A) (main:=false) C X o.I.mu m hn l N o.mu R with⟨g1,w',es,qq,s',z,i,B,D,⟨hr,E,⟨k,a⟩,F⟩,a8,a9,ad,al⟩|⟨⟨sv,rfl⟩,u,i⟩
   . left
     have av:Mu.AO qq=true:=Mu.QZ (by cases p<;>simp_all [Ci,t7,sD.abs,Mu.AO]) B (JQ D)
     obtain⟨k1,k2,k3⟩:=Q1 D av;have y:((br.lk z Y).pc,s')∈Mu.mv (s.w j).pc s.sh:=by rw[l,show(br.lk z Y).pc=z.abs from rfl,JP D];exact B
     have ax:(s.w j).deaf=1:=by rw[d];cases p<;>simp_all [br.deaf,t7,Ci]
     have ay:(br.lk z Y).deaf=1:=by cases z<;>simp_all [br.deaf]
     refine wM (x:=.lk z Y) G H m L rfl (by rw[d];rfl) (o.I.mv m v rfl k1 y) (FG o.I m v rfl (by rw[d];rfl) y ?_) K i a8 a9 ad (by rw[al,ax,ay]) ⟨k,E,a,kind,c,rest,e,Q,F,S,T,r,U⟩ (.inl λu=>Mu.N9 ?_ B u) sl
     . cases z<;>simp_all [br.ex]
     . cases p<;>simp_all [t7,Ci,sD.abs]
   . right
     exact⟨.inl ⟨j,sv,Y,m,rfl,d,u⟩,Cq K i sl⟩
 . cases p<;>simp only[t7,Ci,not_true_eq_false,Bool.false_eq_true]at N a7
   case ld=>obtain⟨g1,i,hr,E,⟨k,a⟩,F⟩:=AC (Wd:=lQ A) (main:=false) (w:=w) C X R;left;exact wM (x:=.lk .iB Y) (sh:=s.sh) G H m L rfl (by rw[d];rfl) (o.I.Uf m v rfl rfl l rfl) (JN m v rfl (by rw[d];rfl) l rfl (by rw[d];rfl) rfl) K i (bi rfl) o.mu (λe O=>by simp at O;subst O;exact .inl (.inl rfl)) (by rw[d];rfl) ⟨k,E,a,kind,c,rest,e,Q,F,S,T,r,U⟩ (.inl λu=>u) sl
   case t1 sv=>obtain⟨g1,i,hr,E,⟨k,a⟩,F⟩:=MF (Wd:=lQ A) (main:=false) (w:=w) C X R;left;exact wM (x:=.lk (.gY sv) Y) (sh:=s.sh) G H m L rfl (by rw[d];rfl) (o.I.still m v rfl rfl (by rw[l];rfl)) (my m v rfl (by rw[d];rfl) (by rw[l];rfl) (by rw[d];simp[br.ex])) K i (bi rfl ⟨⟨w.tick,rfl⟩,rfl⟩) (o.mu.heap rfl) gk (by rw[d];rfl) ⟨k,E,a,kind,c,rest,e,Q,F,S,T,r,U⟩ (.inl λu=>u) sl
   case le=>
    obtain⟨g1,i,hr,E,⟨k,a⟩,F⟩:=Fx (Wd:=lQ A) (main:=false) (w:=w) C X (λw h=>h.2.2) R
    left;exact wM (x:=.lk .la Y) (sh:=s.sh) G H m L rfl (by rw[d];rfl) (o.I.still m v rfl rfl (by rw[l];rfl)) (my m v rfl (by rw[d];rfl) (by rw[l];rfl) (by rw[d];simp[br.ex])) K i (bi rfl) o.mu (λe O=>by simp at O;subst O;exact .inl (.inr rfl)) (by rw[d];rfl) ⟨k,E,a,kind,c,rest,e,Q,F,S,T,r,U⟩ (.inl λu=>u) sl
   case la=>exact absurd rfl W
end
section
variable{P:Program}{A:eD}{Fin:ah->aj->Goroutine->Prop}{Z:Base}{s:MS P}{f:Nat->Node P}{q:Nat->Nat}{kk:Nat->ah}{OO:Nat->aj}{J M:Nat->Prop}{gs:Array Goroutine}{w:World}{t:Trace}{j:Nat}{g:Goroutine}
variable(C:jf P A.nm)(X:jg P A.nm)
include C X in
theorem MV(D:A.b+A.n+1<=Z.lk)(N:bI (cG P A Fin Z D) Z s f q kk OO J M gs w t)(m:j<A.n){p:sD}{Y:wH P}(d:s.w j=.un p Y)(R:gs[A.b+j]?=some g)(S:GW P A j (.un p Y) (kk (A.b+j)) (OO (A.b+j)) g)(T:p≠.ur)(U:p≠.ue)(sl:Option (Nat × Nat)):
 Goes P A Fin Z D s gs w t sl (A.b+j):=by
 have o:dw P A Z s kk OO J M gs.size w t:=N.ex;have G:x9 p=true:=by have:=o.I.ok j m;rw[d]at this;exact this
 have O:(s.w j).jU=true:=by rw[d];rfl
 have E:=il O;have i:(s.w j).pc=p.abs:=by rw[d];rfl
 have hn:=A.hn;have hb:=A.hb;obtain⟨kind,c,rest,V,Q,W,a7,H⟩:=S
 by_cases y:t7 p=true
 . have a8:¬(p=.Fq\/p=.ur):=by rintro(rfl|rfl)<;>cases y
   have hN:=H a8
   rcases Cp (Wd:=lQ A) (main:=false) C X o.I.mu m hn i y o.mu Q with⟨g1,w',es,qq,s',r,l,z,B,⟨hr,K,⟨k,a⟩,L⟩,a9,ad,al,av⟩|⟨⟨sv,rfl⟩,F,l⟩
   . have ax:Mu.Ej qq=true:=Mu.Q0 (by cases p<;>simp_all [x9,t7,sD.abs,Mu.Ej]) z (JQ B)
     obtain⟨k1,k2,k3,k4⟩:=Q2 B ax;have u:((br.un r Y).pc,s')∈Mu.mv (s.w j).pc s.sh:=by rw[i,show(br.un r Y).pc=r.abs from rfl,JP B];exact z
     have ay:(s.w j).deaf=1:=by rw[d];cases p<;>simp_all [br.deaf,t7,x9]
     have b0:(br.un r Y).deaf=1:=by cases r<;>simp_all [br.deaf]
     have b1:(s.w j).owns=false:=by rw[d];cases p<;>simp_all [br.owns,t7,x9]
     have b2:(br.un r Y).owns=false:=by cases r<;>simp_all [br.owns]
     refine wM (x:=.un r Y) D N m O rfl (by rw[b1,b2]) (o.I.mv m E rfl k1 u) (FG o.I m E rfl (by rw[d];rfl) u ?_) R l a9 ad al (by rw[av,ay,b0]) ⟨k,K,a,kind,c,rest,V,L,W,λh=>absurd h (λh=>h.elim k2 k3),λ_=>hN⟩ ?_ sl
     . cases r<;>simp_all [br.ex]
     . by_cases b3:p=.give
       . subst b3;exact .inr ⟨GX C X Q,hr⟩
       . refine .inl λF=>Mu.N9 ?_ z F
         cases p<;>simp_all [t7,x9,sD.abs]
   . exact absurd G (by simp[x9])
 . cases p<;>simp only[t7,x9,not_true_eq_false,Bool.false_eq_true]at y G
   case Fq=>
    obtain⟨v,hv⟩:=((bm (P:=P) (A:=A) (Fin:=Fin) (Z:=Z) D).wd o).2.2;obtain⟨g1,l,hr,K,⟨k,a⟩,L⟩:=wB (Wd:=lQ A) (main:=false) (w:=w) C X (λw h=>h.2.2) hv Q
    exact wM (x:=.un .ur Y) (sh:=s.sh) D N m O rfl (by rw[d];rfl) (o.I.still m E rfl rfl (by rw[i];rfl)) (my m E rfl (by rw[d];rfl) (by rw[i];rfl) (by rw[d];simp[br.ex])) R l (bi rfl) o.mu gk (by rw[d];rfl) ⟨k,K,a,kind,c,rest,V,L,W,λ_=>a7 (.inl rfl),λh=>absurd (.inr rfl) h⟩ (.inl λF=>F) sl
   case ud=>
    have hN:=H (by rintro(h|h)<;>cases h)
    obtain⟨g1,l,hr,K,⟨k,a⟩,L⟩:=Ft (Wd:=lQ A) (main:=false) (w:=w) C X Q;exact wM (x:=.un .held Y) (sh:=s.sh) D N m O rfl (by rw[d];rfl) (o.I.still m E rfl rfl (by rw[i];rfl)) (my m E rfl (by rw[d];rfl) (by rw[i];rfl) (by rw[d];simp[br.ex])) R l (bi rfl) o.mu (λe he=>by simp at he;subst he;exact .inl (.inl rfl)) (by rw[d];rfl) ⟨k,K,a,kind,c,rest,V,L,W,λh=>absurd h (by simp),λ_=>hN⟩ (.inl λF=>F) sl
   case ur=>exact absurd rfl T
   case ue=>exact absurd rfl U
end
def TT.OS{P:Program}{m:Mo}{K:ah}{O:aj}{g1 a:Goroutine}(h:rC P (λ_=>True) g1 a)(e:TT P m K O a):TT P m K O g1:=.step (λb c d=>b=K/\c=O/\d=a) h.1 (λb c d f=>by obtain⟨rfl,rfl,rfl⟩:=f;exact e) (λw g=>⟨a,w,#[],K,O,h.2 _ w trivial,Eff.refl _ _ _,g,rfl,rfl,rfl⟩)
theorem TT.Cr{P:Program}{m:Mo}{K:ah}{O:aj}{g1 a:Goroutine}(h:rC P (λ_=>True) g1 a)(b:TT P m K O a){z:Node P}(c:pu z ⟨m,K,O,g1,TT.OS h b⟩):z=⟨m,K,O,a,b⟩:=by
 unfold TT.OS at c;cases c with
 |step _ _ _ _ d=>obtain⟨rfl,rfl,rfl⟩:=d;rfl
theorem TT.pre{P:Program}{m:Mo}{K:ah}{O:aj}:∀{k:Nat}{g1 a:Goroutine},kI P (λ_=>True) k g1 a->(X:TT P m K O a)->∃T:TT P m K O g1,uR ⟨m,K,O,g1,T⟩ ⟨m,K,O,a,X⟩
 |0,g1,a,h,X=>by obtain rfl:g1=a:=h;exact⟨X,.refl _⟩
 | k + 1,g1,a,⟨g,d,h⟩,X=>by
   obtain⟨b,j⟩:=TT.pre h X;refine⟨TT.OS d b,λy f i=>?_⟩;rcases f with rfl|f
   . exact i.elim
   . have:y=⟨m,K,O,g,b⟩\/Relation.TransGen pu y ⟨m,K,O,g,b⟩:=by
      cases f with
      |single h=>exact .inl (TT.Cr d b h)
      |tail c l=>have e:=TT.Cr d b l;rw[e]at c;exact .inr c
     exact j y this i
section
variable{P:Program}{A:eD}{Fin:ah->aj->Goroutine->Prop}{Z:Base}{s:MS P}{f:Nat->Node P}{q:Nat->Nat}{kk:Nat->ah}{OO:Nat->aj}{J M:Nat->Prop}{gs:Array Goroutine}{w:World}{t:Trace}{j:Nat}{g:Goroutine}
theorem kM(a:j<A.n){h:Bool}{X:Node P}(e:s.w j=.run h X):dK P A s (A.b+j):=.inr (.inl ⟨j,a,rfl,by rw[e];trivial⟩)
theorem t9(c:j<A.n){h:Bool}{X:Node P}(e:s.w j=.run h X):¬fX P A s (A.b+j):=by
 have:=A.hb;rintro(⟨e,_⟩|⟨l,d,f,a⟩|⟨e,_⟩)
 . omega
 . obtain rfl:l=j:=by omega
   rw[e]at a;exact a
 . omega
theorem kc(c:j<A.n){h:Bool}{X:Node P}(e:s.w j=.run h X):¬fj P A s (A.b+j):=by
 have:=A.hb;rintro(⟨e,_⟩|⟨l,d,f,a⟩)
 . omega
 . obtain rfl:l=j:=by omega
   rw[e]at a;cases a
theorem og(c:j<A.n){h:Bool}{X:Node P}(e:s.w j=.run h X):bM P A Fin s (A.b+j)=lG P A j:=by
 have:=A.hb;unfold bM;rw[if_neg (by omega),if_pos (by omega)];have a:A.b+j-A.b=j:=by omega
 rw[a,e]
variable(C:jf P A.nm)(X:jg P A.nm)(F:rH P A.nm)
include C X F in
theorem MX(z:A.b+A.n+1<=Z.lk)(D:bI (cG P A Fin Z z) Z s f q kk OO J M gs w t)(a:j<A.n){Y:wH P}(E:s.w j=.un .ue Y)(hg:gs[A.b+j]?=some g)(W:GW P A j (.un .ue Y) (kk (A.b+j)) (OO (A.b+j)) g)(sl:Option (Nat × Nat)):
 Goes P A Fin Z z s gs w t sl (A.b+j):=by
 have p:dw P A Z s kk OO J M gs.size w t:=D.ex;have B:=bm (P:=P) (A:=A) (Fin:=Fin) (Z:=Z) z;have h1:(s.w j).jU=true:=by rw[E];rfl
 have u:=il h1;have hb:=A.hb;have a7:(A.b+j==0)=false:=by simp;omega
 obtain⟨kind,c,rest,hk,hM,hm,ay,a8⟩:=W;have U:=a8 (by simp)
 obtain⟨g1,a9,hr,g2,G,H⟩:=Fu (Wd:=λ_=>True) (main:=false) (w:=w) C X hM
 obtain⟨k,ad⟩:=G.trans (pT F H hk);obtain⟨T,hU⟩:=TT.pre ad (Y.c _ _ _ U);obtain⟨x,v⟩:∃x:br P,x=.run false ⟨Y.m,kk (A.b+j),OO (A.b+j),_,Y.c _ _ _ U⟩:=⟨_,rfl⟩;have V:x.work=true:=by rw[v];rfl
 have d:∀sh,((s.aL j x sh).w j)=.run false ⟨Y.m,kk (A.b+j),OO (A.b+j),_,Y.c _ _ _ U⟩:=λsh=>by rw[aK,v]
 have al:EvM A.fb A.fo #[⟨.mark .enable,false,true⟩]:=λe he=>by simp at he;subst he;exact .inl (.inr rfl)
 have K:=runT_crowd_go (P:=P) (sl:=sl) (i:=A.b+j) hg (by rw[a7];exact a9)
 have L:bR P A s (A.b+j):=iN p.I a (bn u).2.2.2.2.1;obtain⟨y1,y2,y3⟩:=p.JO al L g.frame.fn g.frame.place;have o:∀op∈MemOp.ofEvents (A.b+j) g.frame.fn g.frame.place #[⟨.mark .enable,false,true⟩],op.g=A.b+j:=λop av=>by obtain⟨e,_,rfl⟩:=Go.Conc.mem_ofEvents av;rfl
 have hJ:J (A.b+j):=(p.hJ _).2 (vw a (bn u).2.2.2.2.2.1);have hP:=D.cK.sync (i:=A.b+j) (.inr hJ) o rfl ⟨⟨.refl _,rfl⟩,λ_ _=>rfl⟩ (λb=>.inl rfl) y2 y1
 have hI:bQ A.n (s.aL j x s.sh):=p.I.still a u V (by rw[v];rfl) (by rw[v,E];rfl)
 have hL:MS.ik A.n (s.aL j x s.sh) s:=AL a u V ⟨_,_,by rw[v];rfl,by rw[E];rfl,.single (pu.dH Y.N Y.h0 Y.ht Y.c U)⟩
 have Q:dw P A Z (s.aL j x s.sh) kk OO J M gs.size w (t++MemOp.ofEvents (A.b+j) g.frame.fn g.frame.place #[⟨.mark .enable,false,true⟩]):=p.work a u V (by rw[v,E];rfl) hI p.mu (λ_ _=>rfl) p.uQ y3
 have r:Beside (cG P A Fin Z z) s (s.aL j x s.sh) f (bO f (A.b+j) ⟨Y.m,kk (A.b+j),OO (A.b+j),g1,T⟩) q q kk kk OO OO J J w (A.b+j) g g1:=kL z a u V (λi hi=>au _ _ hi) (λi hi=>rfl) (λ_ _ _=>rfl) (λ_ _ _=>rfl) (λ_ h=>h) (.inl λh=>h) (λ{i k O y} H=>B.mq (s:=s) (i:=i) (k:=k) (O:=O) (g:=y) H)
 have R:=i6 (P:=P) (A:=A) (s:=s) a h1;refine⟨_,_,K,s.aL j x s.sh,bO f (A.b+j) ⟨Y.m,kk (A.b+j),OO (A.b+j),g1,T⟩,q,kk,OO,J,M,_,_,_,rfl,hL,?_⟩;refine bI.step B D hg o hP Q (λl y hl H=>?_) r ⟨λ_=>?_,λh=>absurd h (t9 a (d _)),λh=>absurd h (kc a (d _)),λh=>absurd (kM a (d _)) h⟩
 . have S:l≠A.b+j:=λe=>(D.held l hl).2.1 (by rw[e];exact R)
   exact B.tP Q ((r.held l S).2 hl) _ _ (r.OQ l _ _ _ S hl H)
 . rw[ap]
   refine⟨by show A.b+j<A.b+A.n+1;omega,rfl,?_,rfl,rfl,hr,?_,.inr hJ,λl b X' h3 h4 h5=>?_⟩
   . show Y.m=bM P A Fin (s.aL j x s.sh) (A.b+j)
     rw[og a (d _)];exact hm
   . obtain⟨_,_,ax,_⟩:=D.walk _ R
     rw[Deaf_own,ax];show deafBehind (dg P A s (A.b+j)) _=0;rw[fu a,E];rfl
   . obtain rfl:l=j:=by omega
     rw[d]at h5;cases h5;exact hU
end
section
variable{Z:Base}{kk:Nat->ah}{OO:Nat->aj}{J M:Nat->Prop}{w:World}{t:Trace}
theorem wO{O:aj}{b c n:Nat}(d:aZ (O.set b (.part sI)) c n):aZ O c n:=by
 by_cases a:c=b
 . subst a
   rcases d with⟨o,q⟩|⟨m,q,_⟩|⟨g,q,e⟩
   . simp[aj.set]at q
   . simp[aj.set]at q
   . simp only[aj.set,if_true,Option.some.injEq,Own.part.injEq]at q
     subst q;exact absurd rfl e
 . simpa[aZ,aj.set,a]using d
theorem cE.token(h:cE Z kk OO J M w t){j b:Nat}(hb:∀i,OO i b=none)(D:∃c e,w.heap[b]?=some (.cells c e (0,0))/\(kk j).sh b=some (e,c.size))(y:Z.W0.heap.size<=b):
 cE Z kk (bO OO j ((OO j).set b (.part sI))) J M w t:=by
 have m:∀i c n,aZ (bO OO j ((OO j).set b (.part sI)) i) c n->aZ (OO i) c n:=λi c n d=>by
  by_cases p:i=j
  . subst p;rw[ap]at d;exact wO d
  . rw[au _ _ p]at d;exact d
 have u:∀i c o,bO OO j ((OO j).set b (.part sI)) i c=some (.obj o)->OO i c=some (.obj o):=λi c o d=>by
  by_cases p:i=j
  . subst p
    rw[ap]at d;by_cases f:c=b
    . subst f;simp[aj.set]at d
    . simpa[aj.set,f]using d
  . rw[au _ _ p]at d;exact d
 have E:Sat (kk j) ((OO j).set b (.part sI)) w:=by
  refine⟨λc n v z d=>(h.sat j).apart c n v z (wO d),(h.sat j).cell,(h.sat j).sh,λc o d=>?_,λc n d=>?_,λc g d=>?_⟩
  . by_cases f:c=b
    . subst f;simp[aj.set]at d
    . exact(h.sat j).obj c o (by simpa[aj.set,f]using d)
  . by_cases f:c=b
    . subst f;simp[aj.set]at d
    . exact(h.sat j).tail c n (by simpa[aj.set,f]using d)
  . by_cases f:c=b
    . subst f
      simp only[aj.set,if_true,Option.some.injEq,Own.part.injEq]at d;subst d;obtain⟨F,e,k,G⟩:=D;exact⟨F,e,k,G,λn v z=>by cases z⟩
    . exact(h.sat j).part c g (by simpa[aj.set,f]using d)
 refine⟨λi=>?_,λi l c x q B=>?_,λi l c n v q z d=>h.n8 i l c n v q z (m i c n d),λi n a A H=>?_,h.clean,h.seen,h.acc,h.n0,h.wp,λa A=>⟨(h.kG a A).1,λi=>⟨λd=>((h.kG a A).2 i).1 (m i _ _ d),((h.kG a A).2 i).2⟩⟩,λr C=>⟨(h.oa r C).1,λi o d=>(h.oa r C).2 i o (u i r o d)⟩,h.x6,λi c x d=>?_⟩
 . by_cases p:i=j
   . subst p;rw[ap];exact E
   . rw[au _ _ p];exact h.sat i
 . by_cases f:c=b
   . subst f
     by_cases s:l=j
     . subst s
       rw[au _ _ q,hb i]at B;cases B
     . rw[au _ _ s];exact hb l
   . have e:∀l,bO OO j ((OO j).set b (.part sI)) l c=OO l c:=λl=>by
      by_cases s:l=j
      . subst s;rw[ap];simp[aj.set,f]
      . rw[au _ _ s]
     rw[e]at B ⊢;exact h.jF i l c x q B
 . rcases h.Aw i n a A H with k|k
   . exact .inl k
   . refine .inr ?_
     unfold pr at k ⊢;split
     . next I s=>rw[s]at k;exact⟨k.1,λd=>k.2.1 (m i _ _ d),k.2.2⟩
     . next r s=>rw[s]at k;exact⟨k.1,λo d=>k.2 o (u i r o d)⟩
     . trivial
 . by_cases p:i=j
   . subst p
     rw[ap]at d;by_cases f:c=b
     . subst f;exact y
     . exact h.mine i c x (by simpa[aj.set,f]using d)
   . rw[au _ _ p]at d;exact h.mine i c x d
end
section
variable{Z:Base}{kk:Nat->ah}{OO:Nat->aj}{J M:Nat->Prop}{w:World}{t:Trace}
def jI(kk:Nat->ah)(lk i:Nat):Nat->ah:=bO kk i ((kk i).join (kk lk))
def iE(OO:Nat->aj)(lk i mb:Nat)(x:Own):Nat->aj:=bO (bO OO i ((OO i).set mb x)) lk aj.bot
theorem cE.Q3(h:cE Z kk OO J M w t){i mb:Nat}{x:Own}(R:i≠Z.lk)(P:OO Z.lk mb=some x)(ho:∀c,OO Z.lk c≠none->c=mb)(S:Z.la.block<w.heap.size)(hd:Deaf t i=0)(hold:∀m a,m<Z.N0->touchAt t m=some a->a.loc.isMemory=true -> ¬Z.Shun a.loc->Knows t i m)(T:∀m a,Z.N0<=m->t.act? m≠some (.mark (.release a)))(fn:FuncId)(pos:String):
 cE Z (jI kk Z.lk i) (iE OO Z.lk i mb x) J M w (t++MemOp.ofEvents i fn pos #[⟨.mark (.acquire Z.la),false,true⟩]):=by
 obtain⟨u,W⟩:∃u,u=MemOp.ofEvents i fn pos #[⟨.mark (.acquire Z.la),false,true⟩]:=⟨_,rfl⟩;have o:u=#[⟨i,fn,pos,.mark (.acquire Z.la)⟩]:=by rw[W,ofEvents_eq];simp[MemAct.ofEvent]
 rw[<-W];have C:mf u:=λop d=>by rw[o]at d;simp at d;subst d;simp
 have D:∀op∈u,op.act.touch?=none:=λop d=>by rw[o]at d;simp at d;subst d;rfl
 have L:∀op∈u,op.g=i:=λop d=>by rw[o]at d;simp at d;subst d;rfl
 have N:∀m a,Z.N0<=m->(t++u).act? m≠some (.mark (.release a)):=λm a Q e=>by
  rcases tZ e with⟨q,_⟩|⟨op,d,q⟩
  . exact T m a Q q
  . rw[o]at d;simp at d;subst d;simp at q
 have a7:OO i mb=none:=h.jF Z.lk i mb x (Ne.symm R) P;have U:∀l,l≠i->jI kk Z.lk i l=kk l:=λl hl=>au _ _ hl
 have r:jI kk Z.lk i i=(kk i).join (kk Z.lk):=ap _ _ _;have eO:∀l,l≠i->l≠Z.lk->iE OO Z.lk i mb x l=OO l:=λl q E=>by unfold iE;rw[au _ _ E,au _ _ q]
 have F:iE OO Z.lk i mb x i=(OO i).set mb x:=by unfold iE;rw[au _ _ R,ap]
 have G:iE OO Z.lk i mb x Z.lk=aj.bot:=by unfold iE;rw[ap]
 refine h.tL (λa b=>a=b\/(a=Z.lk/\b=i)) rfl ⟨⟨.refl _,rfl⟩,λ_ _=>rfl⟩ (λb=>.inl rfl) (λop d=>by rw[o]at d;simp at d;subst d;simpa[MemAct.low]using S) (λa b e n y V Q hz H=>?_) (λl b n v s=>?_) (λl b sv s=>?_) (λl b y f=>?_) (λa l b y z f=>?_)
  (λsaid=>noRace_append (h.clean said) L λn a I op d b hb _=>by rw[D op d]at hb;cases hb) (λop d a I=>by rw[D op d]at I;cases I) (λm op a d I=>by rw[D op (Array.mem_of_getElem? d)]at I;cases I)
  (λn a I Q h=>h.elim (λ⟨j,q,E⟩=>.inr (.inl ⟨j,q,E.app _⟩)) (λ⟨p,q,E⟩=>.inr (.inr (.inl ⟨p,q,E.app _⟩))))
 . rcases e with rfl|⟨rfl,rfl⟩
   . exact H.app u
   . refine(oD R).2 ?_
     unfold GH at H;rw[if_pos rfl]at H
     rcases H with H|⟨p,h0,q,E,h3⟩
     . exact(hold n y H V Q hz).app u
     . exact qQ (y:=⟨b,fn,pos,.mark (.acquire Z.la)⟩) (m:=0) C (by rw[o];rfl) rfl hd q E (λk H=>N k _ (by omega)) h3
 . by_cases e:l=i
   . subst e;rw[r]at s
     exact(ah.lN s).elim (λh=>⟨l,.inl rfl,h⟩) (λh=>⟨Z.lk,.inr ⟨rfl,rfl⟩,h⟩)
   . rw[U l e]at s;exact⟨l,.inl rfl,s⟩
 . by_cases e:l=i
   . subst e;rw[r]at s
     exact(ah.Av s).elim (λh=>⟨l,.inl rfl,h⟩) (λh=>⟨Z.lk,.inr ⟨rfl,rfl⟩,h⟩)
   . rw[U l e]at s;exact⟨l,.inl rfl,s⟩
 . by_cases e:l=i
   . subst e;rw[F]at f
     by_cases B:b=mb
     . subst B
       simp only[aj.set,if_true,Option.some.injEq]at f;subst f;exact⟨Z.lk,.inr ⟨rfl,rfl⟩,P,λsv O=>by rw[r];exact(ah.pN (h.sat l) (h.sat Z.lk)).2 b sv O⟩
     . simp only[aj.set,B,if_false]at f
       exact⟨l,.inl rfl,f,λsv O=>by rw[r];exact(ah.mX _ _).2 b sv O⟩
   . by_cases X:l=Z.lk
     . subst X;rw[G]at f;cases f
     . rw[eO l e X]at f;exact⟨l,.inl rfl,f,λsv O=>by rw[U l e];exact O⟩
 . by_cases K:a=Z.lk
   . subst K;rw[G]at f;cases f
   by_cases A:l=Z.lk
   . subst A;rw[G];rfl
   by_cases Y:a=i
   . subst Y
     rw[F]at f;rw[eO l (Ne.symm z) A]
     by_cases B:b=mb
     . subst B;exact h.jF Z.lk l b x (Ne.symm A) P
     . simp only[aj.set,B,if_false]at f;exact h.jF a l b y z f
   . rw [eO a Y K]at f
     by_cases el:l=i
     . subst el
       rw[F]
       by_cases B:b=mb
       . subst B
         have:=h.jF Z.lk a b x (Ne.symm K) P;rw[f]at this;cases this
       . simp only[aj.set,B,if_false];exact h.jF a l b y z f
     . rw[eO l el A];exact h.jF a l b y z f
end
section
variable{Z:Base}{kk:Nat->ah}{OO:Nat->aj}{J M:Nat->Prop}{w:World}{t:Trace}
def oP(kk:Nat->ah)(lk i:Nat):Nat->ah:=bO kk lk (kk i)
def gl(OO:Nat->aj)(lk i mb fb:Nat)(x:Own):Nat->aj:=bO (bO OO i (((OO i).del mb).del fb)) lk (aj.bot.set mb x)
theorem cE.Q4(h:cE Z kk OO J M w t){i mb fb:Nat}{x:Own}(X:i≠Z.lk)(T:OO i mb=some x)(ho:∀c,OO Z.lk c=none)(U:Z.la.block<w.heap.size)(hd:Deaf t i=0)(fn:FuncId)(pos:String):
 cE Z (oP kk Z.lk i) (gl OO Z.lk i mb fb x) J M w (t++MemOp.ofEvents i fn pos #[⟨.mark (.releaseMerge Z.la),false,true⟩]):=by
 obtain⟨u,Y⟩:∃u,u=MemOp.ofEvents i fn pos #[⟨.mark (.releaseMerge Z.la),false,true⟩]:=⟨_,rfl⟩;have k:u=#[⟨i,fn,pos,.mark (.releaseMerge Z.la)⟩]:=by rw[Y,ofEvents_eq];simp[MemAct.ofEvent]
 rw[<-Y];have C:mf u:=λop d=>by rw[k]at d;simp at d;subst d;simp
 have D:∀op∈u,op.act.touch?=none:=λop d=>by rw[k]at d;simp at d;subst d;rfl
 have O:∀op∈u,op.g=i:=λop d=>by rw[k]at d;simp at d;subst d;rfl
 have E:u[0]?=some ⟨i,fn,pos,.mark (.releaseMerge Z.la)⟩:=by rw[k];rfl
 have S:∀l,l≠Z.lk->oP kk Z.lk i l=kk l:=λl hl=>au _ _ hl
 have F:oP kk Z.lk i Z.lk=kk i:=ap _ _ _;have eO:∀l,l≠i->l≠Z.lk->gl OO Z.lk i mb fb x l=OO l:=λl P Q=>by unfold gl;rw[au _ _ Q,au _ _ P]
 have o:gl OO Z.lk i mb fb x i=((OO i).del mb).del fb:=by unfold gl;rw[au _ _ X,ap]
 have G:gl OO Z.lk i mb fb x Z.lk=aj.bot.set mb x:=by unfold gl;rw[ap]
 have q:∀b y,(((OO i).del mb).del fb) b=some y->b≠mb/\OO i b=some y:=λb y f=>by
  by_cases A:b=fb
  . simp[aj.del,A]at f
  by_cases r:b=mb
  . simp[aj.del,r]at f
  . exact⟨r,by simpa[aj.del,A,r]using f⟩
 have B:∀b y,(aj.bot.set mb x) b=some y->b=mb/\y=x:=λb y f=>by
  by_cases e:b=mb
  . subst e;simp only[aj.set,if_true,Option.some.injEq]at f;exact⟨rfl,f.symm⟩
  . simp only[aj.set,e,if_false]at f;cases f
 have H:∀b,OO i b=none->(((OO i).del mb).del fb) b=none:=λb hn=>by
  by_cases A:b=fb
  . simp[aj.del,A]
  by_cases r:b=mb
  . simp[aj.del,r]
  . simpa[aj.del,A,r]using hn
 refine h.tL (λa b=>a=b\/(a=i/\b=Z.lk)) rfl ⟨⟨.refl _,rfl⟩,λ_ _=>rfl⟩ (λb=>.inl rfl) (λop d=>by rw[k]at d;simp at d;subst d;simpa[MemAct.low]using U) (λa b e n y a7 hm hz hk=>?_) (λl b n v z=>?_) (λl b sv z=>?_) (λl b y f=>?_) (λa l b y s f=>?_)
  (λsaid=>noRace_append (h.clean said) O λn a I op d b hb _=>by rw[D op d]at hb;cases hb) (λop d a I=>by rw[D op d]at I;cases I) (λm op a d I=>by rw[D op (Array.mem_of_getElem? d)]at I;cases I)
  (λn a I hm h=>h.elim (λ⟨j,P,Q⟩=>.inr (.inl ⟨j,P,Q.app _⟩)) (λ⟨p,P,Q⟩=>.inr (.inr (.inl ⟨p,P,Q.app _⟩))))
 . rcases e with rfl|⟨rfl,rfl⟩
   . exact hk.app u
   . have V:Knows t a n:=(oD X).1 hk
     unfold GH;rw[if_pos rfl];exact .inr ⟨t.size+0,by have:=h.n0;omega,by rw[act?_of (dB E)],heard_new C E hd,mg V E rfl⟩
 . by_cases e:l=Z.lk
   . subst e;rw[F]at z;exact⟨i,.inr ⟨rfl,rfl⟩,z⟩
   . rw[S l e]at z;exact⟨l,.inl rfl,z⟩
 . by_cases e:l=Z.lk
   . subst e;rw[F]at z;exact⟨i,.inr ⟨rfl,rfl⟩,z⟩
   . rw[S l e]at z;exact⟨l,.inl rfl,z⟩
 . by_cases r:l=Z.lk
   . subst r;rw[G]at f
     obtain⟨rfl,rfl⟩:=B b y f;exact⟨i,.inr ⟨rfl,rfl⟩,T,λsv R=>by rw[F];exact R⟩
   by_cases e:l=i
   . subst e;rw[o]at f
     exact⟨l,.inl rfl,(q b y f).2,λsv R=>by rw[S l r];exact R⟩
   . rw[eO l e r]at f;exact⟨l,.inl rfl,f,λsv R=>by rw[S l r];exact R⟩
 . by_cases K:a=Z.lk
   . subst K;rw[G]at f
     obtain⟨rfl,rfl⟩:=B b y f
     by_cases el:l=i
     . subst el;rw[o]
       by_cases A:b=fb
       . simp[aj.del,A]
       . simp[aj.del,A]
     . rw[eO l el (Ne.symm s)];exact h.jF i l b y (Ne.symm el) T
   by_cases L:l=Z.lk
   . subst L;rw[G]
     have W:b≠mb:=by
      by_cases N:a=i
      . subst N;rw[o]at f;exact(q b y f).1
      . rw[eO a N K]at f
        intro e;subst e;have:=h.jF a i b y N f;rw[T]at this;cases this
     simp only[aj.set,W,if_false];rfl
   by_cases N:a=i
   . subst N
     rw[o]at f;rw[eO l (Ne.symm s) L];exact h.jF a l b y s (q b y f).2
   . rw[eO a N K]at f
     by_cases el:l=i
     . subst el;rw[o];exact H b (h.jF a l b y s f)
     . rw[eO l el L];exact h.jF a l b y s f
end
section
variable{P:Program}{A:eD}{Fin:ah->aj->Goroutine->Prop}{Z:Base}{s:MS P}{f:Nat->Node P}{q:Nat->Nat}{kk:Nat->ah}{OO:Nat->aj}{J M:Nat->Prop}{gs:Array Goroutine}{gsz:Nat}{w:World}{t u:Trace}{j:Nat}{g:Goroutine}{x:br P}{xo:Own}
theorem GY{x:br P}(h:x.owns=true):x.pc=.held:=by
 cases x with
 |run b X=>cases b<;>simp_all [br.owns,br.pc]
 |un p Y=>cases p<;>simp_all [br.owns,br.pc,sD.abs]
 |_=>simp_all [br.owns]
theorem Cs(I:bQ A.n s)(a:j<A.n)(b:(s.w j).pc=.held){l:Nat}(c:l<A.n)(d:(s.w l).owns=true):l=j:=by
 by_cases e:l=j
 . exact e
 . have h:=I.mu.j1
   have f:=Mu.gW Mu.bZ (λi=>(s.w i).pc) j .out a
   have g:Mu.bZ (Mu.set (λi=>(s.w i).pc) j .out l)<=Mu.tot A.n (λi=>Mu.bZ (Mu.set (λi=>(s.w i).pc) j .out i)):=Mu.iZ (λi=>Mu.bZ (Mu.set (λi=>(s.w i).pc) j .out i)) c
   rw[Mu.ag _ _ e,GY d]at g;have k:Mu.bZ .held=1:=rfl;have m:Mu.bZ .out=0:=rfl;rw[b]at f;have:s.sh.w.L.toNat<=1:=by cases s.sh.w.L<;>simp
   omega
def lx(A:eD)(Z:Base)(OO:Nat->aj)(i:Nat)(x:Own):Nat->aj:=bO (iE OO Z.lk i A.mb x) i ((iE OO Z.lk i A.mb x i).set A.fb (.part sI))
theorem dw.take(U:A.b+A.n+1<=Z.lk)(h:dw P A Z s kk OO J M gsz w t)(F:j<A.n)(r:(s.w j).work=true)(G:x.work=true)(z:∀l,l<A.n->(s.w l).owns=false)(L:x.owns=true)(S:bQ A.n (s.aL j x s.sh))(H:∀op∈u,op.act.touch?=none/\∀a,op.act≠.mark (.release a)):
 dw P A Z (s.aL j x s.sh) (jI kk Z.lk (A.b+j)) (lx A Z OO (A.b+j) xo) J M gsz w (t++u):=by
 have N:A.b+j≠Z.lk:=by omega
 have m:x.busy=(s.w j).busy:=by rw[(bn r).2.2.2.2.2.1,(bn G).2.2.2.2.2.1]
 have O:∀l,l≠A.b+j->jI kk Z.lk (A.b+j) l=kk l:=λl k=>au _ _ k
 have K:jI kk Z.lk (A.b+j) (A.b+j)=(kk (A.b+j)).join (kk Z.lk):=ap _ _ _;have eO:∀l,l≠A.b+j->l≠Z.lk->lx A Z OO (A.b+j) xo l=OO l:=λl r G=>by unfold lx iE;rw[au _ _ r,au _ _ G,au _ _ r]
 have o:lx A Z OO (A.b+j) xo (A.b+j)=((OO (A.b+j)).set A.mb xo).set A.fb (.part sI):=by unfold lx iE;rw[ap,au _ _ N,ap]
 have p:lx A Z OO (A.b+j) xo Z.lk=aj.bot:=by unfold lx iE;rw[au _ _ (Ne.symm N),ap]
 have B:bR P A s (A.b+j):=iN h.I F (bn r).2.2.2.2.1
 have C:∀i,OO i A.fb=none:=λi=>by
  cases e:OO i A.fb with
  |none=>rfl
  |some y=>obtain⟨l,_,k,_,Q,_⟩:=h.tok i y e;rw[z l k]at Q;cases Q
 have f:∀{c n:Nat},(∀i,(kk i).cell c n=none)->(jI kk Z.lk (A.b+j) (A.b+j)).cell c n=none:=λ{c n} T=>by
  rw[K];cases e:((kk (A.b+j)).join (kk Z.lk)).cell c n with
  |none=>rfl
  |some v=>rcases ah.lN e with h|h<;>rw[T]at h<;>cases h
 refine⟨S,h.size,h.xP,h.mu,h.gr,h.uQ,h.ya,λi=>?_,λi=>?_,λi y q=>?_,λl k g=>?_,λg=>?_,λc R=>?_,
  λi=>by rw[h.hJ i];exact(mz F m i).symm,h.sJ u,h.lH u,h.jH u (λop d a D=>by rw[(H op d).1]at D;cases D),h.m5 u (λop d a D=>by rw[(H op d).1]at D;cases D),h.oO u,h.iM u (λop d=>(H op d).2),λi k hb=>?_,h.rB,h.kb,h.fq,h.la,by simp;exact Nat.le_trans h.n0 (Nat.le_add_right _ _)⟩
 . by_cases e:i=A.b+j
   . subst e;rw[o]
     have:=h.gF (A.b+j);simp only[aj.set,A.d1,A.d3,Ne.symm A.d4,A.d6,if_false];exact this
   by_cases E:i=Z.lk
   . subst E;rw[p];exact⟨rfl,rfl⟩
   . rw[eO i e E];exact h.gF i
 . by_cases e:i=A.b+j
   . subst e
     exact⟨f λi=>(h.eu i).1,f λi=>(h.eu i).2.1,f λi=>(h.eu i).2.2.1,f λi=>(h.eu i).2.2.2⟩
   . rw[O i e];exact h.eu i
 . by_cases e:i=A.b+j
   . subst e;rw[o]at q
     simp only[aj.set,if_true,Option.some.injEq]at q;exact⟨j,sI,F,rfl,by rw[aK];exact L,q.symm,λ_=>rfl⟩
   by_cases E:i=Z.lk
   . subst E;rw[p]at q;cases q
   . rw[eO i e E,C]at q;cases q
 . by_cases e:l=j
   . subst e;rw[o];simp[aj.set]
   . rw[bs e,z l k]at g;cases g
 . have:=g j F
   rw[aK,L]at this;cases this
 . rw[p]at R;exact absurd rfl R
 . have e:i≠A.b+j:=λe=>hb (e ▸ B)
   rw[O i e,eO i e k];exact h.Ck i k hb
end
section
variable{P:Program}{A:eD}{Fin:ah->aj->Goroutine->Prop}{Z:Base}{s:MS P}{f:Nat->Node P}{q:Nat->Nat}{kk:Nat->ah}{OO:Nat->aj}{J M:Nat->Prop}{gs:Array Goroutine}{w:World}{t:Trace}{j:Nat}{g:Goroutine}
variable(C:jf P A.nm)(X:jg P A.nm)(F:rH P A.nm)
include C X F in
theorem MY(L:A.b+A.n+1<=Z.lk)(v:bI (cG P A Fin Z L) Z s f q kk OO J M gs w t)(o:j<A.n){Y:wH P}(Q:s.w j=.lk .la Y)(hg:gs[A.b+j]?=some g)(b3:GW P A j (.lk .la Y) (kk (A.b+j)) (OO (A.b+j)) g)(sl:Option (Nat × Nat)):
 Goes P A Fin Z L s gs w t sl (A.b+j):=by
 have d:dw P A Z s kk OO J M gs.size w t:=v.ex;have B:=bm (P:=P) (A:=A) (Fin:=Fin) (Z:=Z) L;have h1:(s.w j).jU=true:=by rw[Q];rfl
 have R:=il h1;have b4:(s.w j).pc=.held:=by rw[Q];rfl
 have hb:=A.hb;have p:A.b+j≠Z.lk:=by omega
 have b5:(A.b+j==0)=false:=by simp;omega
 have E:∀l,l<A.n->(s.w l).owns=false:=λl S=>by
  cases e:(s.w l).owns with
  |false=>rfl
  |true=>obtain rfl:=Cs d.I o b4 S e;rw[Q]at e;cases e
 have D:∀i,OO i A.fb=none:=λi=>by
  cases e:OO i A.fb with
  |none=>rfl
  |some y=>obtain⟨l,_,S,_,ho,_⟩:=d.tok i y e;rw[E l S]at ho;cases ho
 obtain⟨xo,a,V,b6,b7⟩:=d.JL E;obtain⟨kind,c,rest,e,hk,hM,hm,hO,W,hN⟩:=b3;have a7:(kk Z.lk).Le ((kk (A.b+j)).join (kk Z.lk)):=ah.pN (v.cK.sat (A.b+j)) (v.cK.sat Z.lk);have r:=hN ((kk (A.b+j)).join (kk Z.lk)) xo a (ah.mX _ _) (b6.mono a7) b7 (v.cK.jF Z.lk (A.b+j) _ _ (Ne.symm p) V);obtain⟨g1,a8,hr,g2,a9,hA⟩:=Fw (Wd:=λ_=>True) (main:=false) (w:=w) C X hM
 obtain⟨k,b8⟩:=a9.trans (sH F hA hk);rw[<-d.la]at a8;have ad:jI kk Z.lk (A.b+j) (A.b+j)=(kk (A.b+j)).join (kk Z.lk):=ap _ _ _;have b9:lx A Z OO (A.b+j) xo (A.b+j)=((OO (A.b+j)).set A.mb xo).set A.fb (.part sI):=by unfold lx iE;rw[ap,au _ _ p,ap]
 rw[<-ad,<-b9]at r;obtain⟨T,hU⟩:=TT.pre b8 (Y.c _ _ _ r);obtain⟨x,U⟩:∃x:br P,x=.run true ⟨Y.m,jI kk Z.lk (A.b+j) (A.b+j),lx A Z OO (A.b+j) xo (A.b+j),_,Y.c _ _ _ r⟩:=⟨_,rfl⟩;have w2:x.work=true:=by rw[U];rfl
 have u:∀sh,((s.aL j x sh).w j)=.run true ⟨Y.m,jI kk Z.lk (A.b+j) (A.b+j),lx A Z OO (A.b+j) xo (A.b+j),_,Y.c _ _ _ r⟩:=λsh=>by rw[aK,U]
 have al:=runT_crowd_go (P:=P) (sl:=sl) (i:=A.b+j) hg (by rw[b5];exact a8)
 have av:=i6 (P:=P) (A:=A) (s:=s) o h1
 have z:Deaf t (A.b+j)=0:=by obtain⟨_,_,z,_⟩:=v.walk _ av;rw[z];show dg P A s (A.b+j)=0;rw[fu o,Q];rfl
 have ax:bR P A s (A.b+j):=iN d.I o (bn R).2.2.2.2.1;have hJ:J (A.b+j):=(d.hJ _).2 (vw o (bn R).2.2.2.2.2.1);have ay:∀op∈MemOp.ofEvents (A.b+j) g.frame.fn g.frame.place #[⟨.mark (.acquire Z.la),false,true⟩],op.g=A.b+j:=λop G=>by obtain⟨e,_,rfl⟩:=Go.Conc.mem_ofEvents G;rfl
 have bq:∀op∈MemOp.ofEvents (A.b+j) g.frame.fn g.frame.place #[⟨.mark (.acquire Z.la),false,true⟩],op.act.touch?=none/\∀a,op.act≠.mark (.release a):=λop G=>by obtain⟨e,he,rfl⟩:=Go.Conc.mem_ofEvents G;simp at he;subst he;exact⟨rfl,λa h=>by simp[MemAct.ofEvent]at h⟩
 have b0:A.fb<w.heap.size:=by obtain⟨c,e,h1⟩:=d.uQ;exact(Array.getElem?_eq_some_iff.1 h1).1
 have bz:=v.cK.Q3 p V (λc hc=>(d.Ir c hc).1) (by rw[d.la];exact b0) z (λm a hm ha b1 hz=>d.old _ ax m a hm ha b1 hz) d.norel g.frame.fn g.frame.place
 have H:∀l,iE OO Z.lk (A.b+j) A.mb xo l A.fb=none:=λl=>by
  unfold iE
  by_cases e1:l=Z.lk
  . subst e1;rw[ap];rfl
  by_cases e2:l=A.b+j
  . subst e2;rw[au _ _ e1,ap];simp only[aj.set,A.d5,if_false];exact D _
  . rw[au _ _ e1,au _ _ e2];exact D _
 have hP:=bz.token (j:=A.b+j) H (by obtain⟨cc,ee,b2⟩:=d.uQ;have hs:=(v.cK.sat (A.b+j)).sh _ _ W;simp only[World.shape?,b2]at hs;refine⟨cc,ee,b2,?_⟩;rw[ad];refine(ah.mX _ _).2 _ _ ?_;rw[W];exact hs.symm) d.fq.2.1
 have hI:bQ A.n (s.aL j x s.sh):=d.I.still o R w2 (by rw[U];rfl) (by rw[U,Q];rfl)
 have hL:MS.ik A.n (s.aL j x s.sh) s:=AL o R w2 ⟨_,_,by rw[U];rfl,by rw[Q];rfl,.single (pu.dH Y.N Y.h0 Y.ht Y.c r)⟩
 have bA:=d.take (xo:=xo) L o R w2 E (by rw[U];rfl) hI bq
 have bB:Beside (cG P A Fin Z L) s (s.aL j x s.sh) f (bO f (A.b+j) ⟨Y.m,jI kk Z.lk (A.b+j) (A.b+j),lx A Z OO (A.b+j) xo (A.b+j),g1,T⟩) q q kk (jI kk Z.lk (A.b+j)) OO (lx A Z OO (A.b+j) xo) J J w (A.b+j) g g1:=kL L o R w2 (λi K=>au _ _ K) (λi K=>rfl) (λi K _=>au _ _ K) (λi K ht=>by unfold lx iE;rw[au _ _ K,au _ _ (show i≠Z.lk by omega),au _ _ K]) (λ_ h=>h) (.inl λh=>h) (λ{i k O y} hA=>B.mq (s:=s) (i:=i) (k:=k) (O:=O) (g:=y) hA)
 refine⟨_,_,al,s.aL j x s.sh,bO f (A.b+j) ⟨Y.m,jI kk Z.lk (A.b+j) (A.b+j),lx A Z OO (A.b+j) xo (A.b+j),g1,T⟩,q,jI kk Z.lk (A.b+j),lx A Z OO (A.b+j) xo,J,M,_,_,_,rfl,hL,?_⟩;refine bI.step B v hg ay hP bA (λl y S hA=>?_) bB ⟨λ_=>?_,λh=>absurd h (t9 o (u _)),λh=>absurd h (kc o (u _)),λh=>absurd (kM o (u _)) h⟩
 . have c5:l≠A.b+j:=λe=>(v.held l S).2.1 (by rw[e];exact av)
   exact B.tP d S _ _ hA
 . rw[ap]
   refine⟨by show A.b+j<A.b+A.n+1;omega,rfl,?_,rfl,rfl,hr,?_,.inr hJ,λl b X' h3 h4 h5=>?_⟩
   . show Y.m=bM P A Fin (s.aL j x s.sh) (A.b+j)
     rw[og o (u _)];exact hm
   . rw[Deaf_own,z];rfl
   . obtain rfl:l=j:=by omega
     rw[u]at h5;cases h5;exact hU
end
section
variable{P:Program}{A:eD}{Fin:ah->aj->Goroutine->Prop}{Z:Base}{s:MS P}{f:Nat->Node P}{q:Nat->Nat}{kk:Nat->ah}{OO:Nat->aj}{J M:Nat->Prop}{gs:Array Goroutine}{gsz:Nat}{w:World}{t u:Trace}{j:Nat}{g:Goroutine}{x:br P}{xo:Own}{a:ku}
theorem dw.give(V:A.b+A.n+1<=Z.lk)(h:dw P A Z s kk OO J M gsz w t)(N:j<A.n)(E:(s.w j).work=true)(F:x.work=true)(k:∀l,l<A.n->(s.w l).owns=true->l=j)(Q:x.owns=false)(R:bQ A.n (s.aL j x s.sh))(G:mF (kk (A.b+j)) xo a)(H:A.GI a)(K:∀op∈u,op.act.touch?=none/\∀a,op.act≠.mark (.release a)):
 dw P A Z (s.aL j x s.sh) (oP kk Z.lk (A.b+j)) (gl OO Z.lk (A.b+j) A.mb A.fb xo) J M gsz w (t++u):=by
 have S:A.b+j≠Z.lk:=by omega
 have p:x.busy=(s.w j).busy:=by rw[(bn E).2.2.2.2.2.1,(bn F).2.2.2.2.2.1]
 have O:∀l,l≠Z.lk->oP kk Z.lk (A.b+j) l=kk l:=λl d=>au _ _ d
 have z:oP kk Z.lk (A.b+j) Z.lk=kk (A.b+j):=ap _ _ _;have eO:∀l,l≠A.b+j->l≠Z.lk->gl OO Z.lk (A.b+j) A.mb A.fb xo l=OO l:=λl E F=>by unfold gl;rw[au _ _ F,au _ _ E]
 have B:gl OO Z.lk (A.b+j) A.mb A.fb xo (A.b+j)=((OO (A.b+j)).del A.mb).del A.fb:=by unfold gl;rw[au _ _ S,ap]
 have g:gl OO Z.lk (A.b+j) A.mb A.fb xo Z.lk=aj.bot.set A.mb xo:=by unfold gl;rw[ap]
 have C:bR P A s (A.b+j):=iN h.I N (bn E).2.2.2.2.1
 have m:∀l,l<A.n->((s.aL j x s.sh).w l).owns=false:=λl d=>by
  by_cases e:l=j
  . subst e;rw[aK];exact Q
  . rw[bs e]
    cases q:(s.w l).owns with
    |false=>rfl
    |true=>exact absurd (k l d q) e
 refine⟨R,h.size,h.xP,h.mu,h.gr,h.uQ,h.ya,λi=>?_,λi=>?_,λi y r=>?_,λl d v=>?_,λv=>?_,λc L=>?_,
  λi=>by rw[h.hJ i];exact(mz N p i).symm,h.sJ u,h.lH u,h.jH u (λop f a D=>by rw[(K op f).1]at D;cases D),h.m5 u (λop f a D=>by rw[(K op f).1]at D;cases D),h.oO u,h.iM u (λop f=>(K op f).2),λi d hb=>?_,h.rB,h.kb,h.fq,h.la,by simp;exact Nat.le_trans h.n0 (Nat.le_add_right _ _)⟩
 . by_cases o:i=Z.lk
   . subst o;rw[g];simp only[aj.set,A.d3,A.d6,if_false];exact⟨rfl,rfl⟩
   by_cases e:i=A.b+j
   . subst e;rw[B]
     have:=h.gF (A.b+j);simp only[aj.del,A.d1,A.d3,Ne.symm A.d4,A.d6,if_false];exact this
   . rw[eO i e o];exact h.gF i
 . by_cases o:i=Z.lk
   . subst o;rw[z];exact h.eu _
   . rw[O i o];exact h.eu i
 . exfalso
   by_cases o:i=Z.lk
   . subst o;rw[g]at r
     simp only[aj.set,A.d5,if_false]at r;cases r
   by_cases e:i=A.b+j
   . subst e;rw[B]at r;simp[aj.del]at r
   . rw[eO i e o]at r
     obtain⟨l,_,d,T,U,_⟩:=h.tok i y r;exact e (by rw[T,k l d U])
 . rw[m l d]at v;cases v
 . refine⟨xo,a,by rw[g];simp[aj.set],by rw[z];exact G,H⟩
 . rw[g]at L
   refine⟨?_,m⟩
   by_cases e:c=A.mb
   . exact e
   . simp only[aj.set,e,if_false]at L;exact absurd rfl L
 . have e:i≠A.b+j:=λe=>hb (e ▸ C)
   rw[O i d,eO i e d];exact h.Ck i d hb
variable(C:jf P A.nm)(X:jg P A.nm)
include C X in
theorem MZ(D:A.b+A.n+1<=Z.lk)(T:bI (cG P A Fin Z D) Z s f q kk OO J M gs w t)(d:j<A.n){Y:wH P}(u:s.w j=.un .ur Y)(hg:gs[A.b+j]?=some g)(a7:GW P A j (.un .ur Y) (kk (A.b+j)) (OO (A.b+j)) g)(sl:Option (Nat × Nat)):
 Goes P A Fin Z D s gs w t sl (A.b+j):=by
 have v:dw P A Z s kk OO J M gs.size w t:=T.ex;have B:=bm (P:=P) (A:=A) (Fin:=Fin) (Z:=Z) D;have U:(s.w j).jU=true:=by rw[u];rfl
 have V:=il U;have a8:(s.w j).pc=.held:=by rw[u];rfl
 have hb:=A.hb;have m:A.b+j≠Z.lk:=by omega
 have a9:(A.b+j==0)=false:=by simp;omega
 have E:∀l,l<A.n->(s.w l).owns=true->l=j:=λl F e=>Cs v.I d a8 F e
 obtain⟨kind,c,rest,hk,hM,hm,ad,b4⟩:=a7;obtain⟨tf,xo,a,b5,tk,al,av,hN⟩:=ad (.inr rfl);obtain⟨g1,G,hr,g2,⟨k,H⟩,K⟩:=Fv (Wd:=lQ A) (main:=false) (w:=w) C X hM;rw[<-v.la]at G;have ax:oP kk Z.lk (A.b+j) (A.b+j)=kk (A.b+j):=au _ _ m;have ay:gl OO Z.lk (A.b+j) A.mb A.fb xo (A.b+j)=((OO (A.b+j)).del A.mb).del A.fb:=by unfold gl;rw[au _ _ m,ap]
 have L:=runT_crowd_go (P:=P) (sl:=sl) (i:=A.b+j) hg (by rw[a9];exact G)
 have b0:=i6 (P:=P) (A:=A) (s:=s) d U
 have p:Deaf t (A.b+j)=0:=by obtain⟨_,_,p,_⟩:=T.walk _ b0;rw[p];show dg P A s (A.b+j)=0;rw[fu d,u];rfl
 have N:∀op∈MemOp.ofEvents (A.b+j) g.frame.fn g.frame.place #[⟨.mark (.releaseMerge Z.la),false,true⟩],op.g=A.b+j:=λop z=>by obtain⟨e,_,rfl⟩:=Go.Conc.mem_ofEvents z;rfl
 have b1:∀op∈MemOp.ofEvents (A.b+j) g.frame.fn g.frame.place #[⟨.mark (.releaseMerge Z.la),false,true⟩],op.act.touch?=none/\∀a,op.act≠.mark (.release a):=λop z=>by obtain⟨e,he,rfl⟩:=Go.Conc.mem_ofEvents z;simp at he;subst he;exact⟨rfl,λa h=>by simp[MemAct.ofEvent]at h⟩
 have Q:A.fb<w.heap.size:=by obtain⟨c,e,U⟩:=v.uQ;exact(Array.getElem?_eq_some_iff.1 U).1
 have R:∀c,OO Z.lk c=none:=λc=>by
  cases e:OO Z.lk c with
  |none=>rfl
  | some y=>
    have:=(v.Ir c (by rw[e];simp)).2 j d
    rw[u]at this;cases this
 have hP:=T.cK.Q4 (fb:=A.fb) m tk R (by rw[v.la];exact Q) p g.frame.fn g.frame.place
 obtain⟨x,o⟩:∃x:br P,x=.un .ud Y:=⟨_,rfl⟩;have W:x.work=true:=by rw[o];rfl
 have r:((s.aL j x s.sh).w j).jU=true:=by rw[aK,o];rfl
 have hI:bQ A.n (s.aL j x s.sh):=v.I.still d V W (by rw[o];rfl) (by rw[o,u];rfl)
 have hL:MS.ik A.n (s.aL j x s.sh) s:=my d V W (by rw[o,u];rfl) (by rw[o,u];rfl) (by rw[o,u];simp[br.ex])
 have b2:=v.give D d V W E (by rw[o];rfl) hI al av b1
 have b3:Beside (cG P A Fin Z D) s (s.aL j x s.sh) f f q (upd q (A.b+j) k) kk (oP kk Z.lk (A.b+j)) OO (gl OO Z.lk (A.b+j) A.mb A.fb xo) J J w (A.b+j) g g1:=kL D d V W (λi S=>rfl) (λi S=>upd_ne q k S) (λi S ht=>au _ _ (show i≠Z.lk by omega)) (λi S ht=>by unfold gl;rw[au _ _ (show i≠Z.lk by omega),au _ _ S]) (λ_ h=>h) (.inl λh=>h) (λ{i k O y} K=>B.mq (s:=s) (i:=i) (k:=k) (O:=O) (g:=y) K)
 refine⟨_,_,L,s.aL j x s.sh,f,upd q (A.b+j) k,oP kk Z.lk (A.b+j),gl OO Z.lk (A.b+j) A.mb A.fb xo,J,M,_,_,_,rfl,hL,?_⟩;refine bI.step B T hg N hP b2 (λl y F K=>B.tP v F _ _ K) b3 ⟨λF=>absurd F (jh d r),λ_=>⟨jh d r,?_,?_,g2,?_,?_⟩,λhh=>absurd hh (pV d r),λ_ hn _=>absurd (i6 d r) hn⟩
 . show A.b+j<A.b+A.n+1;omega
 . rw[Deaf_own,p]
   show _=dg P A (s.aL j x s.sh) (A.b+j);rw[fu d,aK,o];rfl
 . refine .inr (.inl ⟨j,d,rfl,?_⟩)
   rw[aK,o,ax,ay];exact⟨kind,c,rest,hk,K,hm,λh=>absurd h (by simp),λ_=>hN⟩
 . exact .inr (by rw[upd_same];exact H)
end
end Go.aR
