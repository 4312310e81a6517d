/- Part 20 of the proof. -/
import Derived.Test.YtigilmjkokbblaaGreatDoorC19
set_option linter.all false
namespace Go.bd
open Go.Conc
open Go.ConcN (sumTo upd sumTo_upd upd_ne upd_same)
def bt.jJ{P:Program}:bt P->Bool
 |.lk ..=>true|.un ..=>true|_=>false
theorem gN{P:Program}{x:bt P}(h:x.jJ=true):x.work=true:=by cases x<;>simp_all [bt.jJ,bt.work]
section
variable{P:Program}{A:eu}{Fin:ah->ai->Goroutine->Prop}{Z:Base}{s:MS P}{f:Nat->Node P}{q:Nat->Nat}{kk:Nat->ah}{OO:Nat->ai}{J M:Nat->Prop}{gs:Array Goroutine}{w w':World}{t:Trace}{j:Nat}{x:bt P}{sh:Mu.Sh}{g g1:Goroutine}
theorem vP(a:j<A.n)(h:(s.w j).busy=true):fF P A s (A.b+j):=.inl ⟨j,a,rfl,h⟩
theorem iz(I:bT A.n s)(a:j<A.n)(h:(s.w j).jv=false):bU P A s (A.b+j):=by refine .inr (.inl ⟨j,?_,rfl⟩);have:=I.idle j a;rw[h]at this;exact Nat.lt_of_not_le λc=>by simpa using this.2 c
theorem iN(a:j<A.n)(h:(s.w j).jJ=true):fE P A s (A.b+j):=.inr (.inl ⟨j,a,rfl,by cases e:s.w j<;>simp_all [bt.jJ]⟩)
theorem iV(a:j<A.n)(h:(s.w j).jJ=true):¬dH P A s (A.b+j):=by
 have:=A.hb;rintro(⟨e,_⟩|⟨l,c,d,f⟩|⟨e,_⟩)
 . omega
 . obtain rfl:l=j:=by omega
   cases e:s.w l<;>simp_all [bt.jJ]
 . omega
theorem pW(c:j<A.n)(h:(s.w j).jJ=true):¬eM P A s (A.b+j):=by
 have:=A.hb;rintro(⟨e,_⟩|⟨l,d,f,a⟩)
 . omega
 . obtain rfl:l=j:=by omega
   rw[a]at h;cases h
theorem eP(a:j<A.n):dc P A s (A.b+j)=(s.w j).deaf:=by
 have:=A.hb;unfold dc;rw[if_neg (by omega),if_pos (by omega)];have e:A.b+j-A.b=j:=by omega
 rw[e]
theorem xL(u:A.b+A.n+1<=Z.lk)(v:bJ (cB P A Fin Z u) Z s f q kk OO J M gs w t)(a:j<A.n)(h1:(s.w j).jJ=true)(h2:x.jJ=true)(ho:x.owns=(s.w j).owns)(hI:bT A.n (s.aO j x sh))(hL:MS.gM A.n (s.aO j x sh) s)
 (hg:gs[A.b+j]?=some g){es:Array Event}(Q:stepG P false g w=.go g1 w' es) (o:MW A.fb A.fo w w') (R:ShM A.fb A.fo w' sh) (S:EvM A.fb A.fo es) (hd:deafBehind (s.w j).deaf es=x.deaf)
 (hs:∃n g',kD P (lN A) n g1 g'/\Ih P A j x (kk (A.b+j)) (OO (A.b+j)) g') (z:(s.sh.ms=0->sh.ms=0)\/(mayWake P g=true/\g1.status=.running)) (sl:Option (Nat × Nat)):
 ∃ops m',runT P (crowd gs w sl) (A.b+j)=(.next m',ops)/\∃s' f' q' kk' OO' J' M' gs' C T,m'=crowd gs' C T/\MS.gM A.n s' s/\bJ (cB P A Fin Z u) Z s' f' q' kk' OO' J' M' gs' C (t++ops):=by
 obtain⟨n,g',D,U⟩:=hs;have hb:=A.hb;have B:=bm (P:=P) (A:=A) (Fin:=Fin) (Z:=Z) u;have N:=gN h1;have w2:=gN h2;have p:dt P A Z s kk OO J M gs.size w t:=v.ex;have V:(A.b+j==0)=false:=by simp;omega
 have E:=runT_crowd_go (P:=P) (sl:=sl) (i:=A.b+j) hg (by rw[V];exact Q)
 have F:bU P A s (A.b+j):=iz p.I a (bn N).2.2.2.2.1;obtain⟨y1,y2,y3⟩:=p.Li S F g.frame.fn g.frame.place;have m:∀op∈MemOp.ofEvents (A.b+j) g.frame.fn g.frame.place es,op.g=A.b+j:=λop W=>by obtain⟨e,_,rfl⟩:=Go.Conc.mem_ofEvents W;rfl
 obtain⟨m1,m2,c,e,c',m3,m4,_⟩:=mS o p.vg;have hP:=v.cE.sync (i:=A.b+j) (.inr ((p.hJ _).2 (vP a (bn N).2.2.2.2.2.1))) m m1 (p.calm o) (p.kept o) y2 y1;have G:dt P A Z (s.aO j x sh) kk OO J M gs.size w' (t++MemOp.ofEvents (A.b+j) g.frame.fn g.frame.place es):=p.work a N w2 ho hI R m2 ⟨c',e,m4⟩ y3
 have r:Beside (cB P A Fin Z u) s (s.aO j x sh) f f q (upd q (A.b+j) n) kk kk OO OO J J w' (A.b+j) g g1:=kG u a N w2 (λ_ _=>rfl) (λi hi=>upd_ne q n hi) (λ_ _ _=>rfl) (λ_ _ _=>rfl) (λ_ h=>h) z (λ{i k O y} X=>B.me (s:=s) (i:=i) (k:=k) (O:=O) (g:=y) X)
 have H:=iN (P:=P) (A:=A) (s:=s) a h1;have d:((s.aO j x sh).w j).jJ=true:=by rw[aN];exact h2
 refine⟨_,_,E,s.aO j x sh,f,upd q (A.b+j) n,kk,OO,J,M,_,_,_,rfl,hL,?_⟩;refine bJ.step B v hg m hP G (λl y K X=>?_) r ⟨λK=>absurd K (iV a d),λ_=>⟨iV a d,?_,?_,g',?_,?_⟩,λhh=>absurd hh (pW a d),λ_ hn _=>absurd (iN a d) hn⟩
 . have L:l≠A.b+j:=λe=>(v.held l K).2.1 (by rw[e];exact H)
   exact B.ub G ((r.held l L).2 K) _ _ (r.QC l _ _ _ L K X)
 . show A.b+j<A.b+A.n+1;omega
 . obtain⟨_,_,Y,_⟩:=v.walk _ H
   rw[Deaf_own,Y];show deafBehind (dc P A s (A.b+j)) es=dc P A (s.aO j x sh) (A.b+j);rw[eP a,eP a,aN];exact hd
 . exact .inr (.inl ⟨j,a,rfl,by rw[aN];exact U⟩)
 . exact .inr (by rw[upd_same];exact D)
end
end Go.bd
namespace Go.bd
open Go.Conc
open Go.ConcN (sumTo upd sumTo_upd upd_ne upd_same)
namespace Mu
section
variable{n:Nat}{pcs:Nat->Pc}{s:Sh}{i:Nat}
theorem OB{f:Pc->Nat}(h:∀p,f p<=1)(pcs:Nat->Pc)(n:Nat):tot n (λi=>f (pcs i))<=n:=by
 have:=Fh (f:=λi=>f (pcs i)) (c:=1) (λi=>h _) n;omega
theorem Inv.VG(h:Inv n pcs s):s.w.N<=n+1/\s.ms<=1:=by
 have b:=OB (f:=cI) (λp=>by cases p<;>simp[cI]) pcs n
 cases e:s.w.S with
 | false=>
   obtain⟨c,_,a⟩:=h.j2 e;have:s.w.K.toNat<=1:=by cases s.w.K<;>simp
   omega
 | true=>
   obtain⟨_,_,a,d⟩:=h.j3 e;have:(!s.w.L).toNat<=1:=by cases s.w.L<;>simp
   omega
theorem Inv.OC(h:Inv n pcs s)(a:i<n)(b:pcs i=.held):s.w.L=true:=by
 have:cr (pcs i)<=tot n (λj=>cr (pcs j)):=iM (λj=>cr (pcs j)) a;rw[h.j1,b,show cr .held=1 from rfl]at this;cases e:s.w.L<;>simp_all
theorem Inv.QD(h:Inv n pcs s)(b:i<n){old:Wd}{sv:Bool}(c:pcs i=.add old sv):s.w.L=false/\s.w.S=true/\s.w.N≠0:=by
 have:dh (pcs i)<=tot n (λj=>dh (pcs j)):=iM (λj=>dh (pcs j)) b;rw[c,show dh (.add old sv)=1 from rfl]at this;cases e:s.w.S with
 |false=>obtain⟨_,f,_⟩:=h.j2 e;omega
 | true=>
   obtain⟨_,_,a,g⟩:=h.j3 e;refine⟨?_,rfl,by omega⟩;cases d:s.w.L with
   |false=>rfl
   |true=>rw[d]at a;simp at a;omega
end
def BI:Pc->Bool
 |.rd _=>true|.sq ..=>true|.sw ..=>true|.kQ ..=>true|.gx _=>true|.tq=>true|.up _=>true|.add ..=>true|.held=>true|_=>false
def Fy:Pc->Bool
 |.out=>true|.iY _=>true|.vz=>true|.give=>true|_=>false
theorem PG(old:Wd)(l:Lo):BI (nx old l)=true:=by unfold nx;split<;>rfl
theorem Tt{old:Wd}{l:Lo}{p:Pc}(h:p∈hd old l):BI p=true:=by
 unfold hd at h;rw[List.mem_append]at h;rcases h with h|h
 . split at h
   . rw[List.mem_singleton]at h;subst h;split<;>rfl
   . cases h
 . rw[List.mem_singleton]at h;subst h;rfl
theorem Tu{p q:Pc}{s s':Sh}(b:p=.ig\/(BI p=true/\p≠.held))(h:(q,s')∈mv p s)(d:q≠.bad):BI q=true:=by
 rcases b with rfl|⟨b,c⟩
 . simp only[mv]at h
   split at h<;>(rw[List.mem_singleton,Prod.mk.injEq]at h;obtain⟨rfl,rfl⟩:=h;rfl)
 cases p<;>simp only[BI,Bool.false_eq_true]at b
 case rd l=>simp only[mv,List.mem_singleton,Prod.mk.injEq]at h;obtain⟨rfl,rfl⟩:=h;exact PG _ _
 case sq old l=>simp only[mv,List.mem_map,Prod.mk.injEq]at h;obtain⟨a,e,rfl,rfl⟩:=h;exact Tt e
 case sw old l=>simp only[mv]at h;split at h<;>(rw[List.mem_singleton,Prod.mk.injEq]at h;obtain⟨rfl,rfl⟩:=h;rfl)
 case kQ old l=>
  simp only[mv]at h;split at h
  . rw[List.mem_singleton,Prod.mk.injEq]at h;exact absurd h.1 d
  split at h
  . rw[List.mem_singleton,Prod.mk.injEq]at h;obtain⟨rfl,rfl⟩:=h;split<;>rfl
  . rw[List.mem_singleton,Prod.mk.injEq]at h;obtain⟨rfl,rfl⟩:=h;rfl
 case gx sv=>
  simp only[mv]at h;split at h
  . cases h
  . rw[List.mem_singleton,Prod.mk.injEq]at h;obtain⟨rfl,rfl⟩:=h;split<;>rfl
 case tq=>
  simp only[mv,List.mem_cons,Prod.mk.injEq,List.not_mem_nil,or_false]at h;rcases h with⟨rfl,rfl⟩|⟨rfl,rfl⟩<;>rfl
 case up sv=>
  simp only[mv]at h;split at h
  . split at h
    . rw[List.mem_singleton,Prod.mk.injEq]at h;exact absurd h.1 d
    . rw[List.mem_singleton,Prod.mk.injEq]at h;obtain⟨rfl,rfl⟩:=h;rfl
  . rw[List.mem_singleton,Prod.mk.injEq]at h;obtain⟨rfl,rfl⟩:=h;exact PG _ _
 case add old sv=>simp only[mv,List.mem_singleton,Prod.mk.injEq]at h;obtain⟨rfl,rfl⟩:=h;rfl
 case held=>exact absurd rfl c
theorem Tv{p q:Pc}{s s':Sh}(a:p=.held\/(Fy p=true/\p≠.out))(h:(q,s')∈mv p s)(c:q≠.bad):Fy q=true:=by
 rcases a with rfl|⟨a,b⟩
 . simp only[mv]at h
   split at h
   . rw[List.mem_singleton,Prod.mk.injEq]at h;exact absurd h.1 c
   . rw[List.mem_singleton,Prod.mk.injEq]at h
     obtain⟨rfl,rfl⟩:=h;split
     . rfl
     split
     . rfl
     split<;>rfl
 cases p<;>simp only[Fy,Bool.false_eq_true]at a
 case out=>exact absurd rfl b
 case iY old=>simp only[mv]at h;split at h<;>(rw[List.mem_singleton,Prod.mk.injEq]at h;obtain⟨rfl,rfl⟩:=h;rfl)
 case vz=>simp only[mv,List.mem_singleton,Prod.mk.injEq]at h;obtain⟨rfl,rfl⟩:=h;split<;>rfl
 case give=>simp only[mv,List.mem_singleton,Prod.mk.injEq]at h;obtain⟨rfl,rfl⟩:=h;rfl
theorem PH{p q:Pc}{s s':Sh}(c:p≠.give)(h:(q,s')∈mv p s)(b:s.ms=0):s'.ms=0:=by
 cases p<;>simp only[mv]at h
 case out=>cases h
 case bad=>cases h
 case give=>exact absurd rfl c
 case sq=>simp only[List.mem_map,Prod.mk.injEq]at h;obtain⟨a,d,rfl,rfl⟩:=h;exact b
 case tq=>simp only[List.mem_cons,Prod.mk.injEq,List.not_mem_nil,or_false]at h;rcases h with⟨_,rfl⟩|⟨_,rfl⟩<;>exact b
 all_goals repeat' split at h
 all_goals first
  |(cases h;done)
  |(rw[List.mem_singleton,Prod.mk.injEq]at h;obtain⟨_,rfl⟩:=h;first|exact b|(show s.ms-1=0;omega))
end Mu
def uq:sS->Bool
 |.ig=>true|.rd _=>true|.sq ..=>true|.sw ..=>true|.kQ ..=>true|.gx _=>true|.tq=>true|.up _=>true|.add ..=>true|.held=>true|.iY _=>true|.vz=>true|.give=>true
 |_=>false
theorem Lj{q:Mu.Pc}{p:sS}(h:To q p):p.abs=q:=by cases h<;>rfl
theorem Tw{q:Mu.Pc}{p:sS}(h:To q p)(a:Mu.BI q=true):Dj p=true/\p≠.ld/\p≠.la:=by cases h<;>simp_all [Mu.BI,Dj]
theorem Tx{q:Mu.Pc}{p:sS}(h:To q p)(a:Mu.Fy q=true):yW p=true/\p≠.GN/\p≠.ur/\p≠.ud:=by cases h<;>simp_all [Mu.Fy,yW]
theorem Lk{q:Mu.Pc}{p:sS}(h:To q p):q≠.bad:=by cases h<;>simp
section
variable{P:Program}{nm:Ae}(C:iT P nm)(X:iU P nm){n:Nat}{pcs:Nat->Mu.Pc}{s:Mu.Sh}{i:Nat}{p:sS}{b o:Nat}{kind:CallKind}{Wd:World->Prop}{cs:List Frame}{g:Goroutine}{w:World}{main:Bool}
include C X in
theorem Dr(I:Mu.Inv n pcs s)(d:i<n)(x:n<=900)(c:pcs i=p.abs)(j:uq p=true)(a:ShM b o w s)(h:nY P nm b o kind p cs g):
 mf P nm b o kind Wd cs g w main p.abs s\/((∃sv,p=.gx sv)/\s.ms=0/\stepG P main g w=.go {g with status:=.blocked} w #[]):=by
 obtain⟨y,m⟩:=I.VG;have hb:s.w.N<=1000:=by omega
 have k:∀{q s'},(q,s')∈Mu.mv (pcs i) s->Mu.loc q:=λ{q s'} j=>by
  have:=(I.step d j).j0 i d
  rwa [Mu.ak]at this
 have f:Mu.loc (pcs i):=I.j0 i d;rw[c]at k f;cases p<;>simp only[uq,Bool.false_eq_true]at j
 case ig=>exact .inl (H7 C X a h)
 case rd l=>exact .inl (Oo C X a hb (k (q:=Mu.nx s.w l) (s':=s) (by simp[sS.abs,Mu.mv])) h)
 case sq old l=>exact .inl (Oq C X a f h)
 case sw old l=>exact .inl (Ot C X a f h)
 case kQ old l=>exact .inl (K3 C X a f h)
 case gx sv=>
  by_cases e:s.ms=0
  . exact .inr ⟨⟨sv,rfl⟩,e,Di C X a e h⟩
  . exact .inl (H8 C X a e h)
 case tq=>exact .inl (Ou C X a h)
 case up sv=>exact .inl (Ov C X a hb (λq s' r=>k r) h)
 case add old sv=>obtain⟨t,u,v⟩:=I.QD d c;exact .inl (K4 C X a hb t u v h)
 case held=>exact .inl (H9 C X a hb (I.OC d c) h)
 case iY old=>exact .inl (Ia C X a h)
 case vz=>exact .inl (K5 C X a hb h)
 case give=>exact .inl (Ib C X a (by omega) h)
end
end Go.bd
namespace Go.bd
open Go.Conc
open Go.ConcN (sumTo upd sumTo_upd upd_ne upd_same)
section
variable{P:Program}{A:eu}{Fin:ah->ai->Goroutine->Prop}{Z:Base}{s:MS P}{f:Nat->Node P}{q:Nat->Nat}{kk:Nat->ah}{OO:Nat->ai}{J M:Nat->Prop}{gs:Array Goroutine}{w:World}{t:Trace}{j:Nat}{g:Goroutine}
def Goes(P:Program)(A:eu)(Fin:ah->ai->Goroutine->Prop)(Z:Base)(j:A.b+A.n+1<=Z.lk)(s:MS P)(gs:Array Goroutine)(w:World)(t:Trace)(sl:Option (Nat × Nat))(i:Nat):Prop:=∃ops g,runT P (crowd gs w sl) i=(.next g,ops)/\∃h k l d e m o a c f,g=crowd a c f/\MS.gM A.n h s/\bJ (cB P A Fin Z j) Z h k l d e m o a c (t++ops)
def FA(P:Program)(A:eu)(s:MS P)(gs:Array Goroutine)(w:World)(sl:Option (Nat × Nat))(i:Nat)(g:Goroutine):Prop:=Qz P A s i/\runT P (crowd gs w sl) i=(.next (crowd (gs.setIfInBounds i (blk g)) w sl),#[])
theorem Ds(e:gs[A.b+j]?=some g)(a:stepG P false g w=.go {g with status:=.blocked} w #[])(sl:Option (Nat × Nat)):runT P (crowd gs w sl) (A.b+j)=(.next (crowd (gs.setIfInBounds (A.b+j) (blk g)) w sl),#[]):=by
 have hb:=A.hb;have c:(A.b+j==0)=false:=by simp;omega
 have h:=runT_crowd_go (P:=P) (sl:=sl) (i:=A.b+j) e (by rw[c];exact a)
 have d:woken P g {g with status:=.blocked} w=id:=funext λo=>by unfold Go.Conc.woken;simp
 rw[d,Array.map_id]at h;exact h
variable(C:iT P A.nm)(X:iU P A.nm)
include C X in
theorem OD(G:A.b+A.n+1<=Z.lk)(H:bJ (cB P A Fin Z G) Z s f q kk OO J M gs w t)(m:j<A.n){p:sS}{Y:xI P}(d:s.w j=.lk p Y)(K:gs[A.b+j]?=some g)(V:Ih P A j (.lk p Y) (kk (A.b+j)) (OO (A.b+j)) g)(W:p≠.la)(sl:Option (Nat × Nat)):
 Goes P A Fin Z G s gs w t sl (A.b+j)\/FA P A s gs w sl (A.b+j) g:=by
 have o:dt P A Z s kk OO J M gs.size w t:=H.ex;have a7:Dj p=true:=by have:=o.I.ok j m;rw[d]at this;exact this
 have L:(s.w j).jJ=true:=by rw[d];rfl
 have v:=gN L;have l:(s.w j).pc=p.abs:=by rw[d];rfl
 have hn:=A.hn;have hb:=A.hb;have b0:(A.b+j==0)=false:=by simp;omega
 obtain⟨kind,c,rest,e,Q,R,S,T,r,U⟩:=V
 by_cases N:uq p=true
 . rcases Dr (Wd:=lN A) (main:=false) C X o.I.mu m hn l N o.mu R with⟨g1,w',es,qq,s',z,i,B,D,⟨hr,E,⟨k,a⟩,F⟩,a8,a9,ad,al⟩|⟨⟨sv,rfl⟩,u,i⟩
   . left
     have av:Mu.BI qq=true:=Mu.Tu (by cases p<;>simp_all [Dj,uq,sS.abs,Mu.BI]) B (Lk D)
     obtain⟨k1,k2,k3⟩:=Tw D av;have y:((bt.lk z Y).pc,s')∈Mu.mv (s.w j).pc s.sh:=by rw[l,show(bt.lk z Y).pc=z.abs from rfl,Lj D];exact B
     have ax:(s.w j).deaf=1:=by rw[d];cases p<;>simp_all [bt.deaf,uq,Dj]
     have ay:(bt.lk z Y).deaf=1:=by cases z<;>simp_all [bt.deaf]
     refine xL (x:=.lk z Y) G H m L rfl (by rw[d];rfl) (o.I.mv m v rfl k1 y) (G4 o.I m v rfl (by rw[d];rfl) y ?_) K i a8 a9 ad (by rw[al,ax,ay]) ⟨k,E,a,kind,c,rest,e,Q,F,S,T,r,U⟩ (.inl λu=>Mu.PH ?_ B u) sl
     . cases z<;>simp_all [bt.ex]
     . cases p<;>simp_all [uq,Dj,sS.abs]
   . right
     exact⟨.inl ⟨j,sv,Y,m,rfl,d,u⟩,Ds K i sl⟩
 . cases p<;>simp only[uq,Dj,not_true_eq_false,Bool.false_eq_true]at N a7
   case ld=>obtain⟨g1,i,hr,E,⟨k,a⟩,F⟩:=By (Wd:=lN A) (main:=false) (w:=w) C X R;left;exact xL (x:=.lk .ig Y) (sh:=s.sh) G H m L rfl (by rw[d];rfl) (o.I.Wx m v rfl rfl l rfl) (Lh m v rfl (by rw[d];rfl) l rfl (by rw[d];rfl) rfl) K i (bh rfl) o.mu (λe O=>by simp at O;subst O;exact .inl (.inl rfl)) (by rw[d];rfl) ⟨k,E,a,kind,c,rest,e,Q,F,S,T,r,U⟩ (.inl λu=>u) sl
   case t1 sv=>obtain⟨g1,i,hr,E,⟨k,a⟩,F⟩:=Om (Wd:=lN A) (main:=false) (w:=w) C X R;left;exact xL (x:=.lk (.gx sv) Y) (sh:=s.sh) G H m L rfl (by rw[d];rfl) (o.I.still m v rfl rfl (by rw[l];rfl)) (mh m v rfl (by rw[d];rfl) (by rw[l];rfl) (by rw[d];simp[bt.ex])) K i (bh rfl ⟨⟨w.tick,rfl⟩,rfl⟩) (o.mu.heap rfl) fL (by rw[d];rfl) ⟨k,E,a,kind,c,rest,e,Q,F,S,T,r,U⟩ (.inl λu=>u) sl
   case le=>
    obtain⟨g1,i,hr,E,⟨k,a⟩,F⟩:=GV (Wd:=lN A) (main:=false) (w:=w) C X (λw h=>h.2.2) R
    left;exact xL (x:=.lk .la Y) (sh:=s.sh) G H m L rfl (by rw[d];rfl) (o.I.still m v rfl rfl (by rw[l];rfl)) (mh m v rfl (by rw[d];rfl) (by rw[l];rfl) (by rw[d];simp[bt.ex])) K i (bh rfl) o.mu (λe O=>by simp at O;subst O;exact .inl (.inr rfl)) (by rw[d];rfl) ⟨k,E,a,kind,c,rest,e,Q,F,S,T,r,U⟩ (.inl λu=>u) sl
   case la=>exact absurd rfl W
end
section
variable{P:Program}{A:eu}{Fin:ah->ai->Goroutine->Prop}{Z:Base}{s:MS P}{f:Nat->Node P}{q:Nat->Nat}{kk:Nat->ah}{OO:Nat->ai}{J M:Nat->Prop}{gs:Array Goroutine}{w:World}{t:Trace}{j:Nat}{g:Goroutine}
variable(C:iT P A.nm)(X:iU P A.nm)
include C X in
theorem OE(D:A.b+A.n+1<=Z.lk)(N:bJ (cB P A Fin Z D) Z s f q kk OO J M gs w t)(m:j<A.n){p:sS}{Y:xI P}(d:s.w j=.un p Y)(R:gs[A.b+j]?=some g)(S:Ih P A j (.un p Y) (kk (A.b+j)) (OO (A.b+j)) g)(T:p≠.ur)(U:p≠.ue)(sl:Option (Nat × Nat)):
 Goes P A Fin Z D s gs w t sl (A.b+j):=by
 have o:dt P A Z s kk OO J M gs.size w t:=N.ex;have G:yW p=true:=by have:=o.I.ok j m;rw[d]at this;exact this
 have O:(s.w j).jJ=true:=by rw[d];rfl
 have E:=gN O;have i:(s.w j).pc=p.abs:=by rw[d];rfl
 have hn:=A.hn;have hb:=A.hb;obtain⟨kind,c,rest,V,Q,W,a7,H⟩:=S
 by_cases y:uq p=true
 . have a8:¬(p=.GN\/p=.ur):=by rintro(rfl|rfl)<;>cases y
   have hN:=H a8
   rcases Dr (Wd:=lN A) (main:=false) C X o.I.mu m hn i y o.mu Q with⟨g1,w',es,qq,s',r,l,z,B,⟨hr,K,⟨k,a⟩,L⟩,a9,ad,al,av⟩|⟨⟨sv,rfl⟩,F,l⟩
   . have ax:Mu.Fy qq=true:=Mu.Tv (by cases p<;>simp_all [yW,uq,sS.abs,Mu.Fy]) z (Lk B)
     obtain⟨k1,k2,k3,k4⟩:=Tx B ax;have u:((bt.un r Y).pc,s')∈Mu.mv (s.w j).pc s.sh:=by rw[i,show(bt.un r Y).pc=r.abs from rfl,Lj B];exact z
     have ay:(s.w j).deaf=1:=by rw[d];cases p<;>simp_all [bt.deaf,uq,yW]
     have b0:(bt.un r Y).deaf=1:=by cases r<;>simp_all [bt.deaf]
     have b1:(s.w j).owns=false:=by rw[d];cases p<;>simp_all [bt.owns,uq,yW]
     have b2:(bt.un r Y).owns=false:=by cases r<;>simp_all [bt.owns]
     refine xL (x:=.un r Y) D N m O rfl (by rw[b1,b2]) (o.I.mv m E rfl k1 u) (G4 o.I m E rfl (by rw[d];rfl) u ?_) R l a9 ad al (by rw[av,ay,b0]) ⟨k,K,a,kind,c,rest,V,L,W,λh=>absurd h (λh=>h.elim k2 k3),λ_=>hN⟩ ?_ sl
     . cases r<;>simp_all [bt.ex]
     . by_cases b3:p=.give
       . subst b3;exact .inr ⟨Ii C X Q,hr⟩
       . refine .inl λF=>Mu.PH ?_ z F
         cases p<;>simp_all [uq,yW,sS.abs]
   . exact absurd G (by simp[yW])
 . cases p<;>simp only[uq,yW,not_true_eq_false,Bool.false_eq_true]at y G
   case GN=>
    obtain⟨v,hv⟩:=((bm (P:=P) (A:=A) (Fin:=Fin) (Z:=Z) D).wd o).2.2;obtain⟨g1,l,hr,K,⟨k,a⟩,L⟩:=xA (Wd:=lN A) (main:=false) (w:=w) C X (λw h=>h.2.2) hv Q
    exact xL (x:=.un .ur Y) (sh:=s.sh) D N m O rfl (by rw[d];rfl) (o.I.still m E rfl rfl (by rw[i];rfl)) (mh m E rfl (by rw[d];rfl) (by rw[i];rfl) (by rw[d];simp[bt.ex])) R l (bh rfl) o.mu fL (by rw[d];rfl) ⟨k,K,a,kind,c,rest,V,L,W,λ_=>a7 (.inl rfl),λh=>absurd (.inr rfl) h⟩ (.inl λF=>F) sl
   case ud=>
    have hN:=H (by rintro(h|h)<;>cases h)
    obtain⟨g1,l,hr,K,⟨k,a⟩,L⟩:=GP (Wd:=lN A) (main:=false) (w:=w) C X Q;exact xL (x:=.un .held Y) (sh:=s.sh) D N m O rfl (by rw[d];rfl) (o.I.still m E rfl rfl (by rw[i];rfl)) (mh m E rfl (by rw[d];rfl) (by rw[i];rfl) (by rw[d];simp[bt.ex])) R l (bh rfl) o.mu (λe he=>by simp at he;subst he;exact .inl (.inl rfl)) (by rw[d];rfl) ⟨k,K,a,kind,c,rest,V,L,W,λh=>absurd h (by simp),λ_=>hN⟩ (.inl λF=>F) sl
   case ur=>exact absurd rfl T
   case ue=>exact absurd rfl U
end
def TT.QE{P:Program}{m:Mo}{K:ah}{O:ai}{g1 a:Goroutine}(h:rH P (λ_=>True) g1 a)(e:TT P m K O a):TT P m K O g1:=.step (λb c d=>b=K/\c=O/\d=a) h.1 (λb c d f=>by obtain⟨rfl,rfl,rfl⟩:=f;exact e) (λw g=>⟨a,w,#[],K,O,h.2 _ w trivial,Eff.refl _ _ _,g,rfl,rfl,rfl⟩)
theorem TT.Dt{P:Program}{m:Mo}{K:ah}{O:ai}{g1 a:Goroutine}(h:rH P (λ_=>True) g1 a)(b:TT P m K O a){z:Node P}(c:po z ⟨m,K,O,g1,TT.QE h b⟩):z=⟨m,K,O,a,b⟩:=by
 unfold TT.QE at c;cases c with
 |step _ _ _ _ d=>obtain⟨rfl,rfl,rfl⟩:=d;rfl
theorem TT.pre{P:Program}{m:Mo}{K:ah}{O:ai}:∀{k:Nat}{g1 a:Goroutine},kD P (λ_=>True) k g1 a->(X:TT P m K O a)->∃T:TT P m K O g1,vh ⟨m,K,O,g1,T⟩ ⟨m,K,O,a,X⟩
 |0,g1,a,h,X=>by obtain rfl:g1=a:=h;exact⟨X,.refl _⟩
 | k + 1,g1,a,⟨g,d,h⟩,X=>by
   obtain⟨b,j⟩:=TT.pre h X;refine⟨TT.QE d b,λy f i=>?_⟩;rcases f with rfl|f
   . exact i.elim
   . have:y=⟨m,K,O,g,b⟩\/Relation.TransGen po y ⟨m,K,O,g,b⟩:=by
      cases f with
      |single h=>exact .inl (TT.Dt d b h)
      |tail c l=>have e:=TT.Dt d b l;rw[e]at c;exact .inr c
     exact j y this i
section
variable{P:Program}{A:eu}{Fin:ah->ai->Goroutine->Prop}{Z:Base}{s:MS P}{f:Nat->Node P}{q:Nat->Nat}{kk:Nat->ah}{OO:Nat->ai}{J M:Nat->Prop}{gs:Array Goroutine}{w:World}{t:Trace}{j:Nat}{g:Goroutine}
theorem kH(a:j<A.n){h:Bool}{X:Node P}(e:s.w j=.run h X):dH P A s (A.b+j):=.inr (.inl ⟨j,a,rfl,by rw[e];trivial⟩)
theorem uu(c:j<A.n){h:Bool}{X:Node P}(e:s.w j=.run h X):¬fE P A s (A.b+j):=by
 have:=A.hb;rintro(⟨e,_⟩|⟨l,d,f,a⟩|⟨e,_⟩)
 . omega
 . obtain rfl:l=j:=by omega
   rw[e]at a;exact a
 . omega
theorem jW(c:j<A.n){h:Bool}{X:Node P}(e:s.w j=.run h X):¬eM P A s (A.b+j):=by
 have:=A.hb;rintro(⟨e,_⟩|⟨l,d,f,a⟩)
 . omega
 . obtain rfl:l=j:=by omega
   rw[e]at a;cases a
theorem nR(c:j<A.n){h:Bool}{X:Node P}(e:s.w j=.run h X):bP P A Fin s (A.b+j)=lC P A j:=by
 have:=A.hb;unfold bP;rw[if_neg (by omega),if_pos (by omega)];have a:A.b+j-A.b=j:=by omega
 rw[a,e]
variable(C:iT P A.nm)(X:iU P A.nm)(F:rK P A.nm)
include C X F in
theorem OF(z:A.b+A.n+1<=Z.lk)(D:bJ (cB P A Fin Z z) Z s f q kk OO J M gs w t)(a:j<A.n){Y:xI P}(E:s.w j=.un .ue Y)(hg:gs[A.b+j]?=some g)(W:Ih P A j (.un .ue Y) (kk (A.b+j)) (OO (A.b+j)) g)(sl:Option (Nat × Nat)):
 Goes P A Fin Z z s gs w t sl (A.b+j):=by
 have p:dt P A Z s kk OO J M gs.size w t:=D.ex;have B:=bm (P:=P) (A:=A) (Fin:=Fin) (Z:=Z) z;have h1:(s.w j).jJ=true:=by rw[E];rfl
 have u:=gN h1;have hb:=A.hb;have a7:(A.b+j==0)=false:=by simp;omega
 obtain⟨kind,c,rest,hk,hM,hm,ay,a8⟩:=W;have U:=a8 (by simp)
 obtain⟨g1,a9,hr,g2,G,H⟩:=GQ (Wd:=λ_=>True) (main:=false) (w:=w) C X hM
 obtain⟨k,ad⟩:=G.trans (pU F H hk);obtain⟨T,hU⟩:=TT.pre ad (Y.c _ _ _ U);obtain⟨x,v⟩:∃x:bt P,x=.run false ⟨Y.m,kk (A.b+j),OO (A.b+j),_,Y.c _ _ _ U⟩:=⟨_,rfl⟩;have V:x.work=true:=by rw[v];rfl
 have d:∀sh,((s.aO j x sh).w j)=.run false ⟨Y.m,kk (A.b+j),OO (A.b+j),_,Y.c _ _ _ U⟩:=λsh=>by rw[aN,v]
 have al:EvM A.fb A.fo #[⟨.mark .enable,false,true⟩]:=λe he=>by simp at he;subst he;exact .inl (.inr rfl)
 have K:=runT_crowd_go (P:=P) (sl:=sl) (i:=A.b+j) hg (by rw[a7];exact a9)
 have L:bU P A s (A.b+j):=iz p.I a (bn u).2.2.2.2.1;obtain⟨y1,y2,y3⟩:=p.Li al L g.frame.fn g.frame.place;have o:∀op∈MemOp.ofEvents (A.b+j) g.frame.fn g.frame.place #[⟨.mark .enable,false,true⟩],op.g=A.b+j:=λop av=>by obtain⟨e,_,rfl⟩:=Go.Conc.mem_ofEvents av;rfl
 have hJ:J (A.b+j):=(p.hJ _).2 (vP a (bn u).2.2.2.2.2.1);have hP:=D.cE.sync (i:=A.b+j) (.inr hJ) o rfl ⟨⟨.refl _,rfl⟩,λ_ _=>rfl⟩ (λb=>.inl rfl) y2 y1
 have hI:bT A.n (s.aO j x s.sh):=p.I.still a u V (by rw[v];rfl) (by rw[v,E];rfl)
 have hL:MS.gM A.n (s.aO j x s.sh) s:=BF a u V ⟨_,_,by rw[v];rfl,by rw[E];rfl,.single (po.dC Y.N Y.h0 Y.ht Y.c U)⟩
 have Q:dt P A Z (s.aO j x s.sh) kk OO J M gs.size w (t++MemOp.ofEvents (A.b+j) g.frame.fn g.frame.place #[⟨.mark .enable,false,true⟩]):=p.work a u V (by rw[v,E];rfl) hI p.mu (λ_ _=>rfl) p.vg y3
 have r:Beside (cB P A Fin Z z) s (s.aO j x s.sh) f (bR f (A.b+j) ⟨Y.m,kk (A.b+j),OO (A.b+j),g1,T⟩) q q kk kk OO OO J J w (A.b+j) g g1:=kG z a u V (λi hi=>az _ _ hi) (λi hi=>rfl) (λ_ _ _=>rfl) (λ_ _ _=>rfl) (λ_ h=>h) (.inl λh=>h) (λ{i k O y} H=>B.me (s:=s) (i:=i) (k:=k) (O:=O) (g:=y) H)
 have R:=iN (P:=P) (A:=A) (s:=s) a h1;refine⟨_,_,K,s.aO j x s.sh,bR f (A.b+j) ⟨Y.m,kk (A.b+j),OO (A.b+j),g1,T⟩,q,kk,OO,J,M,_,_,_,rfl,hL,?_⟩;refine bJ.step B D hg o hP Q (λl y hl H=>?_) r ⟨λ_=>?_,λh=>absurd h (uu a (d _)),λh=>absurd h (jW a (d _)),λh=>absurd (kH a (d _)) h⟩
 . have S:l≠A.b+j:=λe=>(D.held l hl).2.1 (by rw[e];exact R)
   exact B.ub Q ((r.held l S).2 hl) _ _ (r.QC l _ _ _ S hl H)
 . rw[au]
   refine⟨by show A.b+j<A.b+A.n+1;omega,rfl,?_,rfl,rfl,hr,?_,.inr hJ,λl b X' h3 h4 h5=>?_⟩
   . show Y.m=bP P A Fin (s.aO j x s.sh) (A.b+j)
     rw[nR a (d _)];exact hm
   . obtain⟨_,_,ax,_⟩:=D.walk _ R
     rw[Deaf_own,ax];show deafBehind (dc P A s (A.b+j)) _=0;rw[eP a,E];rfl
   . obtain rfl:l=j:=by omega
     rw[d]at h5;cases h5;exact hU
end
section
variable{Z:Base}{kk:Nat->ah}{OO:Nat->ai}{J M:Nat->Prop}{w:World}{t:Trace}
theorem xN{O:ai}{b c n:Nat}(d:aY (O.set b (.part sX)) c n):aY O c n:=by
 by_cases a:c=b
 . subst a
   rcases d with⟨o,q⟩|⟨m,q,_⟩|⟨g,q,e⟩
   . simp[ai.set]at q
   . simp[ai.set]at q
   . simp only[ai.set,if_true,Option.some.injEq,Own.part.injEq]at q
     subst q;exact absurd rfl e
 . simpa[aY,ai.set,a]using d
theorem cA.token(h:cA Z kk OO J M w t){j b:Nat}(hb:∀i,OO i b=none)(D:∃c e,w.heap[b]?=some (.cells c e (0,0))/\(kk j).sh b=some (e,c.size))(y:Z.W0.heap.size<=b):
 cA Z kk (bR OO j ((OO j).set b (.part sX))) J M w t:=by
 have m:∀i c n,aY (bR OO j ((OO j).set b (.part sX)) i) c n->aY (OO i) c n:=λi c n d=>by
  by_cases p:i=j
  . subst p;rw[au]at d;exact xN d
  . rw[az _ _ p]at d;exact d
 have u:∀i c o,bR OO j ((OO j).set b (.part sX)) i c=some (.obj o)->OO i c=some (.obj o):=λi c o d=>by
  by_cases p:i=j
  . subst p
    rw[au]at d;by_cases f:c=b
    . subst f;simp[ai.set]at d
    . simpa[ai.set,f]using d
  . rw[az _ _ p]at d;exact d
 have E:Sat (kk j) ((OO j).set b (.part sX)) w:=by
  refine⟨λc n v z d=>(h.sat j).apart c n v z (xN d),(h.sat j).cell,(h.sat j).sh,λc o d=>?_,λc n d=>?_,λc g d=>?_⟩
  . by_cases f:c=b
    . subst f;simp[ai.set]at d
    . exact(h.sat j).obj c o (by simpa[ai.set,f]using d)
  . by_cases f:c=b
    . subst f;simp[ai.set]at d
    . exact(h.sat j).tail c n (by simpa[ai.set,f]using d)
  . by_cases f:c=b
    . subst f
      simp only[ai.set,if_true,Option.some.injEq,Own.part.injEq]at d;subst d;obtain⟨F,e,k,G⟩:=D;exact⟨F,e,k,G,λn v z=>by cases z⟩
    . exact(h.sat j).part c g (by simpa[ai.set,f]using d)
 refine⟨λi=>?_,λi l c x q B=>?_,λi l c n v q z d=>h.nM i l c n v q z (m i c n d),λi n a A H=>?_,h.clean,h.seen,h.acc,h.n0,h.xu,λa A=>⟨(h.kB a A).1,λi=>⟨λd=>((h.kB a A).2 i).1 (m i _ _ d),((h.kB a A).2 i).2⟩⟩,λr C=>⟨(h.nN r C).1,λi o d=>(h.nN r C).2 i o (u i r o d)⟩,h.yT,λi c x d=>?_⟩
 . by_cases p:i=j
   . subst p;rw[au];exact E
   . rw[az _ _ p];exact h.sat i
 . by_cases f:c=b
   . subst f
     by_cases s:l=j
     . subst s
       rw[az _ _ q,hb i]at B;cases B
     . rw[az _ _ s];exact hb l
   . have e:∀l,bR OO j ((OO j).set b (.part sX)) l c=OO l c:=λl=>by
      by_cases s:l=j
      . subst s;rw[au];simp[ai.set,f]
      . rw[az _ _ s]
     rw[e]at B ⊢;exact h.ju i l c x q B
 . rcases h.Bs i n a A H with k|k
   . exact .inl k
   . refine .inr ?_
     unfold pn at k ⊢;split
     . next I s=>rw[s]at k;exact⟨k.1,λd=>k.2.1 (m i _ _ d),k.2.2⟩
     . next r s=>rw[s]at k;exact⟨k.1,λo d=>k.2 o (u i r o d)⟩
     . trivial
 . by_cases p:i=j
   . subst p
     rw[au]at d;by_cases f:c=b
     . subst f;exact y
     . exact h.mine i c x (by simpa[ai.set,f]using d)
   . rw[az _ _ p]at d;exact h.mine i c x d
end
section
variable{Z:Base}{kk:Nat->ah}{OO:Nat->ai}{J M:Nat->Prop}{w:World}{t:Trace}
def jx(kk:Nat->ah)(lk i:Nat):Nat->ah:=bR kk i ((kk i).join (kk lk))
def il(OO:Nat->ai)(lk i mb:Nat)(x:Own):Nat->ai:=bR (bR OO i ((OO i).set mb x)) lk ai.bot
theorem cA.Ty(h:cA Z kk OO J M w t){i mb:Nat}{x:Own}(R:i≠Z.lk)(P:OO Z.lk mb=some x)(ho:∀c,OO Z.lk c≠none->c=mb)(S:Z.la.block<w.heap.size)(hd:Deaf t i=0)(hold:∀m a,m<Z.N0->touchAt t m=some a->a.loc.isMemory=true -> ¬Z.Shun a.loc->Knows t i m)(T:∀m a,Z.N0<=m->t.act? m≠some (.mark (.release a)))(fn:FuncId)(pos:String):
 cA Z (jx kk Z.lk i) (il OO Z.lk i mb x) J M w (t++MemOp.ofEvents i fn pos #[⟨.mark (.acquire Z.la),false,true⟩]):=by
 obtain⟨u,W⟩:∃u,u=MemOp.ofEvents i fn pos #[⟨.mark (.acquire Z.la),false,true⟩]:=⟨_,rfl⟩;have o:u=#[⟨i,fn,pos,.mark (.acquire Z.la)⟩]:=by rw[W,ofEvents_eq];simp[MemAct.ofEvent]
 rw[<-W];have C:lZ u:=λop d=>by rw[o]at d;simp at d;subst d;simp
 have D:∀op∈u,op.act.touch?=none:=λop d=>by rw[o]at d;simp at d;subst d;rfl
 have L:∀op∈u,op.g=i:=λop d=>by rw[o]at d;simp at d;subst d;rfl
 have N:∀m a,Z.N0<=m->(t++u).act? m≠some (.mark (.release a)):=λm a Q e=>by
  rcases uo e with⟨q,_⟩|⟨op,d,q⟩
  . exact T m a Q q
  . rw[o]at d;simp at d;subst d;simp at q
 have a7:OO i mb=none:=h.ju Z.lk i mb x (Ne.symm R) P;have U:∀l,l≠i->jx kk Z.lk i l=kk l:=λl hl=>az _ _ hl
 have r:jx kk Z.lk i i=(kk i).join (kk Z.lk):=au _ _ _;have eO:∀l,l≠i->l≠Z.lk->il OO Z.lk i mb x l=OO l:=λl q E=>by unfold il;rw[az _ _ E,az _ _ q]
 have F:il OO Z.lk i mb x i=(OO i).set mb x:=by unfold il;rw[az _ _ R,au]
 have G:il OO Z.lk i mb x Z.lk=ai.bot:=by unfold il;rw[au]
 refine h.tY (λa b=>a=b\/(a=Z.lk/\b=i)) rfl ⟨⟨.refl _,rfl⟩,λ_ _=>rfl⟩ (λb=>.inl rfl) (λop d=>by rw[o]at d;simp at d;subst d;simpa[MemAct.low]using S) (λa b e n y V Q hz H=>?_) (λl b n v s=>?_) (λl b sv s=>?_) (λl b y f=>?_) (λa l b y z f=>?_)
  (λsaid=>noRace_append (h.clean said) L λn a I op d b hb _=>by rw[D op d]at hb;cases hb) (λop d a I=>by rw[D op d]at I;cases I) (λm op a d I=>by rw[D op (Array.mem_of_getElem? d)]at I;cases I)
  (λn a I Q h=>h.elim (λ⟨j,q,E⟩=>.inr (.inl ⟨j,q,E.app _⟩)) (λ⟨p,q,E⟩=>.inr (.inr (.inl ⟨p,q,E.app _⟩))))
 . rcases e with rfl|⟨rfl,rfl⟩
   . exact H.app u
   . refine(oC R).2 ?_
     unfold HZ at H;rw[if_pos rfl]at H
     rcases H with H|⟨p,h0,q,E,h3⟩
     . exact(hold n y H V Q hz).app u
     . exact qP (y:=⟨b,fn,pos,.mark (.acquire Z.la)⟩) (m:=0) C (by rw[o];rfl) rfl hd q E (λk H=>N k _ (by omega)) h3
 . by_cases e:l=i
   . subst e;rw[r]at s
     exact(ah.lK s).elim (λh=>⟨l,.inl rfl,h⟩) (λh=>⟨Z.lk,.inr ⟨rfl,rfl⟩,h⟩)
   . rw[U l e]at s;exact⟨l,.inl rfl,s⟩
 . by_cases e:l=i
   . subst e;rw[r]at s
     exact(ah.Br s).elim (λh=>⟨l,.inl rfl,h⟩) (λh=>⟨Z.lk,.inr ⟨rfl,rfl⟩,h⟩)
   . rw[U l e]at s;exact⟨l,.inl rfl,s⟩
 . by_cases e:l=i
   . subst e;rw[F]at f
     by_cases B:b=mb
     . subst B
       simp only[ai.set,if_true,Option.some.injEq]at f;subst f;exact⟨Z.lk,.inr ⟨rfl,rfl⟩,P,λsv O=>by rw[r];exact(ah.pP (h.sat l) (h.sat Z.lk)).2 b sv O⟩
     . simp only[ai.set,B,if_false]at f
       exact⟨l,.inl rfl,f,λsv O=>by rw[r];exact(ah.mO _ _).2 b sv O⟩
   . by_cases X:l=Z.lk
     . subst X;rw[G]at f;cases f
     . rw[eO l e X]at f;exact⟨l,.inl rfl,f,λsv O=>by rw[U l e];exact O⟩
 . by_cases K:a=Z.lk
   . subst K;rw[G]at f;cases f
   by_cases A:l=Z.lk
   . subst A;rw[G];rfl
   by_cases Y:a=i
   . subst Y
     rw[F]at f;rw[eO l (Ne.symm z) A]
     by_cases B:b=mb
     . subst B;exact h.ju Z.lk l b x (Ne.symm A) P
     . simp only[ai.set,B,if_false]at f;exact h.ju a l b y z f
   . rw [eO a Y K]at f
     by_cases el:l=i
     . subst el
       rw[F]
       by_cases B:b=mb
       . subst B
         have:=h.ju Z.lk a b x (Ne.symm K) P;rw[f]at this;cases this
       . simp only[ai.set,B,if_false];exact h.ju a l b y z f
     . rw[eO l el A];exact h.ju a l b y z f
end
section
variable{Z:Base}{kk:Nat->ah}{OO:Nat->ai}{J M:Nat->Prop}{w:World}{t:Trace}
def oO(kk:Nat->ah)(lk i:Nat):Nat->ah:=bR kk lk (kk i)
def fM(OO:Nat->ai)(lk i mb fb:Nat)(x:Own):Nat->ai:=bR (bR OO i (((OO i).del mb).del fb)) lk (ai.bot.set mb x)
theorem cA.Tz(h:cA Z kk OO J M w t){i mb fb:Nat}{x:Own}(X:i≠Z.lk)(T:OO i mb=some x)(ho:∀c,OO Z.lk c=none)(U:Z.la.block<w.heap.size)(hd:Deaf t i=0)(fn:FuncId)(pos:String):
 cA Z (oO kk Z.lk i) (fM OO Z.lk i mb fb x) J M w (t++MemOp.ofEvents i fn pos #[⟨.mark (.releaseMerge Z.la),false,true⟩]):=by
 obtain⟨u,Y⟩:∃u,u=MemOp.ofEvents i fn pos #[⟨.mark (.releaseMerge Z.la),false,true⟩]:=⟨_,rfl⟩;have k:u=#[⟨i,fn,pos,.mark (.releaseMerge Z.la)⟩]:=by rw[Y,ofEvents_eq];simp[MemAct.ofEvent]
 rw[<-Y];have C:lZ u:=λop d=>by rw[k]at d;simp at d;subst d;simp
 have D:∀op∈u,op.act.touch?=none:=λop d=>by rw[k]at d;simp at d;subst d;rfl
 have O:∀op∈u,op.g=i:=λop d=>by rw[k]at d;simp at d;subst d;rfl
 have E:u[0]?=some ⟨i,fn,pos,.mark (.releaseMerge Z.la)⟩:=by rw[k];rfl
 have S:∀l,l≠Z.lk->oO kk Z.lk i l=kk l:=λl hl=>az _ _ hl
 have F:oO kk Z.lk i Z.lk=kk i:=au _ _ _;have eO:∀l,l≠i->l≠Z.lk->fM OO Z.lk i mb fb x l=OO l:=λl P Q=>by unfold fM;rw[az _ _ Q,az _ _ P]
 have o:fM OO Z.lk i mb fb x i=((OO i).del mb).del fb:=by unfold fM;rw[az _ _ X,au]
 have G:fM OO Z.lk i mb fb x Z.lk=ai.bot.set mb x:=by unfold fM;rw[au]
 have q:∀b y,(((OO i).del mb).del fb) b=some y->b≠mb/\OO i b=some y:=λb y f=>by
  by_cases A:b=fb
  . simp[ai.del,A]at f
  by_cases r:b=mb
  . simp[ai.del,r]at f
  . exact⟨r,by simpa[ai.del,A,r]using f⟩
 have B:∀b y,(ai.bot.set mb x) b=some y->b=mb/\y=x:=λb y f=>by
  by_cases e:b=mb
  . subst e;simp only[ai.set,if_true,Option.some.injEq]at f;exact⟨rfl,f.symm⟩
  . simp only[ai.set,e,if_false]at f;cases f
 have H:∀b,OO i b=none->(((OO i).del mb).del fb) b=none:=λb hn=>by
  by_cases A:b=fb
  . simp[ai.del,A]
  by_cases r:b=mb
  . simp[ai.del,r]
  . simpa[ai.del,A,r]using hn
 refine h.tY (λa b=>a=b\/(a=i/\b=Z.lk)) rfl ⟨⟨.refl _,rfl⟩,λ_ _=>rfl⟩ (λb=>.inl rfl) (λop d=>by rw[k]at d;simp at d;subst d;simpa[MemAct.low]using U) (λa b e n y a7 hm hz hk=>?_) (λl b n v z=>?_) (λl b sv z=>?_) (λl b y f=>?_) (λa l b y s f=>?_)
  (λsaid=>noRace_append (h.clean said) O λn a I op d b hb _=>by rw[D op d]at hb;cases hb) (λop d a I=>by rw[D op d]at I;cases I) (λm op a d I=>by rw[D op (Array.mem_of_getElem? d)]at I;cases I)
  (λn a I hm h=>h.elim (λ⟨j,P,Q⟩=>.inr (.inl ⟨j,P,Q.app _⟩)) (λ⟨p,P,Q⟩=>.inr (.inr (.inl ⟨p,P,Q.app _⟩))))
 . rcases e with rfl|⟨rfl,rfl⟩
   . exact hk.app u
   . have V:Knows t a n:=(oC X).1 hk
     unfold HZ;rw[if_pos rfl];exact .inr ⟨t.size+0,by have:=h.n0;omega,by rw[act?_of (dw E)],heard_new C E hd,l8 V E rfl⟩
 . by_cases e:l=Z.lk
   . subst e;rw[F]at z;exact⟨i,.inr ⟨rfl,rfl⟩,z⟩
   . rw[S l e]at z;exact⟨l,.inl rfl,z⟩
 . by_cases e:l=Z.lk
   . subst e;rw[F]at z;exact⟨i,.inr ⟨rfl,rfl⟩,z⟩
   . rw[S l e]at z;exact⟨l,.inl rfl,z⟩
 . by_cases r:l=Z.lk
   . subst r;rw[G]at f
     obtain⟨rfl,rfl⟩:=B b y f;exact⟨i,.inr ⟨rfl,rfl⟩,T,λsv R=>by rw[F];exact R⟩
   by_cases e:l=i
   . subst e;rw[o]at f
     exact⟨l,.inl rfl,(q b y f).2,λsv R=>by rw[S l r];exact R⟩
   . rw[eO l e r]at f;exact⟨l,.inl rfl,f,λsv R=>by rw[S l r];exact R⟩
 . by_cases K:a=Z.lk
   . subst K;rw[G]at f
     obtain⟨rfl,rfl⟩:=B b y f
     by_cases el:l=i
     . subst el;rw[o]
       by_cases A:b=fb
       . simp[ai.del,A]
       . simp[ai.del,A]
     . rw[eO l el (Ne.symm s)];exact h.ju i l b y (Ne.symm el) T
   by_cases L:l=Z.lk
   . subst L;rw[G]
     have W:b≠mb:=by
      by_cases N:a=i
      . subst N;rw[o]at f;exact(q b y f).1
      . rw[eO a N K]at f
        intro e;subst e;have:=h.ju a i b y N f;rw[T]at this;cases this
     simp only[ai.set,W,if_false];rfl
   by_cases N:a=i
   . subst N
     rw[o]at f;rw[eO l (Ne.symm s) L];exact h.ju a l b y s (q b y f).2
   . rw[eO a N K]at f
     by_cases el:l=i
     . subst el;rw[o];exact H b (h.ju a l b y s f)
     . rw[eO l el L];exact h.ju a l b y s f
end
section
variable{P:Program}{A:eu}{Fin:ah->ai->Goroutine->Prop}{Z:Base}{s:MS P}{f:Nat->Node P}{q:Nat->Nat}{kk:Nat->ah}{OO:Nat->ai}{J M:Nat->Prop}{gs:Array Goroutine}{gsz:Nat}{w:World}{t u:Trace}{j:Nat}{g:Goroutine}{x:bt P}{xo:Own}
theorem Ij{x:bt P}(h:x.owns=true):x.pc=.held:=by
 cases x with
 |run b X=>cases b<;>simp_all [bt.owns,bt.pc]
 |un p Y=>cases p<;>simp_all [bt.owns,bt.pc,sS.abs]
 |_=>simp_all [bt.owns]
theorem Du(I:bT A.n s)(a:j<A.n)(b:(s.w j).pc=.held){l:Nat}(c:l<A.n)(d:(s.w l).owns=true):l=j:=by
 by_cases e:l=j
 . exact e
 . have h:=I.mu.j1
   have f:=Mu.gu Mu.cr (λi=>(s.w i).pc) j .out a
   have g:Mu.cr (Mu.set (λi=>(s.w i).pc) j .out l)<=Mu.tot A.n (λi=>Mu.cr (Mu.set (λi=>(s.w i).pc) j .out i)):=Mu.iM (λi=>Mu.cr (Mu.set (λi=>(s.w i).pc) j .out i)) c
   rw[Mu.ag _ _ e,Ij d]at g;have k:Mu.cr .held=1:=rfl;have m:Mu.cr .out=0:=rfl;rw[b]at f;have:s.sh.w.L.toNat<=1:=by cases s.sh.w.L<;>simp
   omega
def ln(A:eu)(Z:Base)(OO:Nat->ai)(i:Nat)(x:Own):Nat->ai:=bR (il OO Z.lk i A.mb x) i ((il OO Z.lk i A.mb x i).set A.fb (.part sX))
theorem dt.take(U:A.b+A.n+1<=Z.lk)(h:dt P A Z s kk OO J M gsz w t)(F:j<A.n)(r:(s.w j).work=true)(G:x.work=true)(z:∀l,l<A.n->(s.w l).owns=false)(L:x.owns=true)(S:bT A.n (s.aO j x s.sh))(H:∀op∈u,op.act.touch?=none/\∀a,op.act≠.mark (.release a)):
 dt P A Z (s.aO j x s.sh) (jx kk Z.lk (A.b+j)) (ln A Z OO (A.b+j) xo) J M gsz w (t++u):=by
 have N:A.b+j≠Z.lk:=by omega
 have m:x.busy=(s.w j).busy:=by rw[(bn r).2.2.2.2.2.1,(bn G).2.2.2.2.2.1]
 have O:∀l,l≠A.b+j->jx kk Z.lk (A.b+j) l=kk l:=λl k=>az _ _ k
 have K:jx kk Z.lk (A.b+j) (A.b+j)=(kk (A.b+j)).join (kk Z.lk):=au _ _ _;have eO:∀l,l≠A.b+j->l≠Z.lk->ln A Z OO (A.b+j) xo l=OO l:=λl r G=>by unfold ln il;rw[az _ _ r,az _ _ G,az _ _ r]
 have o:ln A Z OO (A.b+j) xo (A.b+j)=((OO (A.b+j)).set A.mb xo).set A.fb (.part sX):=by unfold ln il;rw[au,az _ _ N,au]
 have p:ln A Z OO (A.b+j) xo Z.lk=ai.bot:=by unfold ln il;rw[az _ _ (Ne.symm N),au]
 have B:bU P A s (A.b+j):=iz h.I F (bn r).2.2.2.2.1
 have C:∀i,OO i A.fb=none:=λi=>by
  cases e:OO i A.fb with
  |none=>rfl
  |some y=>obtain⟨l,_,k,_,Q,_⟩:=h.tok i y e;rw[z l k]at Q;cases Q
 have f:∀{c n:Nat},(∀i,(kk i).cell c n=none)->(jx kk Z.lk (A.b+j) (A.b+j)).cell c n=none:=λ{c n} T=>by
  rw[K];cases e:((kk (A.b+j)).join (kk Z.lk)).cell c n with
  |none=>rfl
  |some v=>rcases ah.lK e with h|h<;>rw[T]at h<;>cases h
 refine⟨S,h.size,h.yE,h.mu,h.gr,h.vg,h.yX,λi=>?_,λi=>?_,λi y q=>?_,λl k g=>?_,λg=>?_,λc R=>?_,
  λi=>by rw[h.hJ i];exact(mi F m i).symm,h.sY u,h.lD u,h.jw u (λop d a D=>by rw[(H op d).1]at D;cases D),h.mR u (λop d a D=>by rw[(H op d).1]at D;cases D),h.oJ u,h.iy u (λop d=>(H op d).2),λi k hb=>?_,h.rE,h.jV,h.eN,h.la,by simp;exact Nat.le_trans h.n0 (Nat.le_add_right _ _)⟩
 . by_cases e:i=A.b+j
   . subst e;rw[o]
     have:=h.fV (A.b+j);simp only[ai.set,A.d1,A.d3,Ne.symm A.d4,A.d6,if_false];exact this
   by_cases E:i=Z.lk
   . subst E;rw[p];exact⟨rfl,rfl⟩
   . rw[eO i e E];exact h.fV i
 . by_cases e:i=A.b+j
   . subst e
     exact⟨f λi=>(h.dZ i).1,f λi=>(h.dZ i).2.1,f λi=>(h.dZ i).2.2.1,f λi=>(h.dZ i).2.2.2⟩
   . rw[O i e];exact h.dZ i
 . by_cases e:i=A.b+j
   . subst e;rw[o]at q
     simp only[ai.set,if_true,Option.some.injEq]at q;exact⟨j,sX,F,rfl,by rw[aN];exact L,q.symm,λ_=>rfl⟩
   by_cases E:i=Z.lk
   . subst E;rw[p]at q;cases q
   . rw[eO i e E,C]at q;cases q
 . by_cases e:l=j
   . subst e;rw[o];simp[ai.set]
   . rw[bu e,z l k]at g;cases g
 . have:=g j F
   rw[aN,L]at this;cases this
 . rw[p]at R;exact absurd rfl R
 . have e:i≠A.b+j:=λe=>hb (e ▸ B)
   rw[O i e,eO i e k];exact h.Dl i k hb
end
section
variable{P:Program}{A:eu}{Fin:ah->ai->Goroutine->Prop}{Z:Base}{s:MS P}{f:Nat->Node P}{q:Nat->Nat}{kk:Nat->ah}{OO:Nat->ai}{J M:Nat->Prop}{gs:Array Goroutine}{w:World}{t:Trace}{j:Nat}{g:Goroutine}
variable(C:iT P A.nm)(X:iU P A.nm)(F:rK P A.nm)
include C X F in
theorem OG(L:A.b+A.n+1<=Z.lk)(v:bJ (cB P A Fin Z L) Z s f q kk OO J M gs w t)(o:j<A.n){Y:xI P}(Q:s.w j=.lk .la Y)(hg:gs[A.b+j]?=some g)(b3:Ih P A j (.lk .la Y) (kk (A.b+j)) (OO (A.b+j)) g)(sl:Option (Nat × Nat)):
 Goes P A Fin Z L s gs w t sl (A.b+j):=by
 have d:dt P A Z s kk OO J M gs.size w t:=v.ex;have B:=bm (P:=P) (A:=A) (Fin:=Fin) (Z:=Z) L;have h1:(s.w j).jJ=true:=by rw[Q];rfl
 have R:=gN h1;have b4:(s.w j).pc=.held:=by rw[Q];rfl
 have hb:=A.hb;have p:A.b+j≠Z.lk:=by omega
 have b5:(A.b+j==0)=false:=by simp;omega
 have E:∀l,l<A.n->(s.w l).owns=false:=λl S=>by
  cases e:(s.w l).owns with
  |false=>rfl
  |true=>obtain rfl:=Du d.I o b4 S e;rw[Q]at e;cases e
 have D:∀i,OO i A.fb=none:=λi=>by
  cases e:OO i A.fb with
  |none=>rfl
  |some y=>obtain⟨l,_,S,_,ho,_⟩:=d.tok i y e;rw[E l S]at ho;cases ho
 obtain⟨xo,a,V,b6,b7⟩:=d.Lf E;obtain⟨kind,c,rest,e,hk,hM,hm,hO,W,hN⟩:=b3;have a7:(kk Z.lk).Le ((kk (A.b+j)).join (kk Z.lk)):=ah.pP (v.cE.sat (A.b+j)) (v.cE.sat Z.lk);have r:=hN ((kk (A.b+j)).join (kk Z.lk)) xo a (ah.mO _ _) (b6.mono a7) b7 (v.cE.ju Z.lk (A.b+j) _ _ (Ne.symm p) V);obtain⟨g1,a8,hr,g2,a9,hA⟩:=GU (Wd:=λ_=>True) (main:=false) (w:=w) C X hM
 obtain⟨k,b8⟩:=a9.trans (sW F hA hk);rw[<-d.la]at a8;have ad:jx kk Z.lk (A.b+j) (A.b+j)=(kk (A.b+j)).join (kk Z.lk):=au _ _ _;have b9:ln A Z OO (A.b+j) xo (A.b+j)=((OO (A.b+j)).set A.mb xo).set A.fb (.part sX):=by unfold ln il;rw[au,az _ _ p,au]
 rw[<-ad,<-b9]at r;obtain⟨T,hU⟩:=TT.pre b8 (Y.c _ _ _ r);obtain⟨x,U⟩:∃x:bt P,x=.run true ⟨Y.m,jx kk Z.lk (A.b+j) (A.b+j),ln A Z OO (A.b+j) xo (A.b+j),_,Y.c _ _ _ r⟩:=⟨_,rfl⟩;have w2:x.work=true:=by rw[U];rfl
 have u:∀sh,((s.aO j x sh).w j)=.run true ⟨Y.m,jx kk Z.lk (A.b+j) (A.b+j),ln A Z OO (A.b+j) xo (A.b+j),_,Y.c _ _ _ r⟩:=λsh=>by rw[aN,U]
 have al:=runT_crowd_go (P:=P) (sl:=sl) (i:=A.b+j) hg (by rw[b5];exact a8)
 have av:=iN (P:=P) (A:=A) (s:=s) o h1
 have z:Deaf t (A.b+j)=0:=by obtain⟨_,_,z,_⟩:=v.walk _ av;rw[z];show dc P A s (A.b+j)=0;rw[eP o,Q];rfl
 have ax:bU P A s (A.b+j):=iz d.I o (bn R).2.2.2.2.1;have hJ:J (A.b+j):=(d.hJ _).2 (vP o (bn R).2.2.2.2.2.1);have ay:∀op∈MemOp.ofEvents (A.b+j) g.frame.fn g.frame.place #[⟨.mark (.acquire Z.la),false,true⟩],op.g=A.b+j:=λop G=>by obtain⟨e,_,rfl⟩:=Go.Conc.mem_ofEvents G;rfl
 have bq:∀op∈MemOp.ofEvents (A.b+j) g.frame.fn g.frame.place #[⟨.mark (.acquire Z.la),false,true⟩],op.act.touch?=none/\∀a,op.act≠.mark (.release a):=λop G=>by obtain⟨e,he,rfl⟩:=Go.Conc.mem_ofEvents G;simp at he;subst he;exact⟨rfl,λa h=>by simp[MemAct.ofEvent]at h⟩
 have b0:A.fb<w.heap.size:=by obtain⟨c,e,h1⟩:=d.vg;exact(Array.getElem?_eq_some_iff.1 h1).1
 have bz:=v.cE.Ty p V (λc hc=>(d.JF c hc).1) (by rw[d.la];exact b0) z (λm a hm ha b1 hz=>d.old _ ax m a hm ha b1 hz) d.norel g.frame.fn g.frame.place
 have H:∀l,il OO Z.lk (A.b+j) A.mb xo l A.fb=none:=λl=>by
  unfold il
  by_cases e1:l=Z.lk
  . subst e1;rw[au];rfl
  by_cases e2:l=A.b+j
  . subst e2;rw[az _ _ e1,au];simp only[ai.set,A.d5,if_false];exact D _
  . rw[az _ _ e1,az _ _ e2];exact D _
 have hP:=bz.token (j:=A.b+j) H (by obtain⟨cc,ee,b2⟩:=d.vg;have hs:=(v.cE.sat (A.b+j)).sh _ _ W;simp only[World.shape?,b2]at hs;refine⟨cc,ee,b2,?_⟩;rw[ad];refine(ah.mO _ _).2 _ _ ?_;rw[W];exact hs.symm) d.eN.2.1
 have hI:bT A.n (s.aO j x s.sh):=d.I.still o R w2 (by rw[U];rfl) (by rw[U,Q];rfl)
 have hL:MS.gM A.n (s.aO j x s.sh) s:=BF o R w2 ⟨_,_,by rw[U];rfl,by rw[Q];rfl,.single (po.dC Y.N Y.h0 Y.ht Y.c r)⟩
 have bA:=d.take (xo:=xo) L o R w2 E (by rw[U];rfl) hI bq
 have bB:Beside (cB P A Fin Z L) s (s.aO j x s.sh) f (bR f (A.b+j) ⟨Y.m,jx kk Z.lk (A.b+j) (A.b+j),ln A Z OO (A.b+j) xo (A.b+j),g1,T⟩) q q kk (jx kk Z.lk (A.b+j)) OO (ln A Z OO (A.b+j) xo) J J w (A.b+j) g g1:=kG L o R w2 (λi K=>az _ _ K) (λi K=>rfl) (λi K _=>az _ _ K) (λi K ht=>by unfold ln il;rw[az _ _ K,az _ _ (show i≠Z.lk by omega),az _ _ K]) (λ_ h=>h) (.inl λh=>h) (λ{i k O y} hA=>B.me (s:=s) (i:=i) (k:=k) (O:=O) (g:=y) hA)
 refine⟨_,_,al,s.aO j x s.sh,bR f (A.b+j) ⟨Y.m,jx kk Z.lk (A.b+j) (A.b+j),ln A Z OO (A.b+j) xo (A.b+j),g1,T⟩,q,jx kk Z.lk (A.b+j),ln A Z OO (A.b+j) xo,J,M,_,_,_,rfl,hL,?_⟩;refine bJ.step B v hg ay hP bA (λl y S hA=>?_) bB ⟨λ_=>?_,λh=>absurd h (uu o (u _)),λh=>absurd h (jW o (u _)),λh=>absurd (kH o (u _)) h⟩
 . have c5:l≠A.b+j:=λe=>(v.held l S).2.1 (by rw[e];exact av)
   exact B.ub d S _ _ hA
 . rw[au]
   refine⟨by show A.b+j<A.b+A.n+1;omega,rfl,?_,rfl,rfl,hr,?_,.inr hJ,λl b X' h3 h4 h5=>?_⟩
   . show Y.m=bP P A Fin (s.aO j x s.sh) (A.b+j)
     rw[nR o (u _)];exact hm
   . rw[Deaf_own,z];rfl
   . obtain rfl:l=j:=by omega
     rw[u]at h5;cases h5;exact hU
end
section
variable{P:Program}{A:eu}{Fin:ah->ai->Goroutine->Prop}{Z:Base}{s:MS P}{f:Nat->Node P}{q:Nat->Nat}{kk:Nat->ah}{OO:Nat->ai}{J M:Nat->Prop}{gs:Array Goroutine}{gsz:Nat}{w:World}{t u:Trace}{j:Nat}{g:Goroutine}{x:bt P}{xo:Own}{a:jB}
theorem dt.give(V:A.b+A.n+1<=Z.lk)(h:dt P A Z s kk OO J M gsz w t)(N:j<A.n)(E:(s.w j).work=true)(F:x.work=true)(k:∀l,l<A.n->(s.w l).owns=true->l=j)(Q:x.owns=false)(R:bT A.n (s.aO j x s.sh))(G:mr (kk (A.b+j)) xo a)(H:A.GI a)(K:∀op∈u,op.act.touch?=none/\∀a,op.act≠.mark (.release a)):
 dt P A Z (s.aO j x s.sh) (oO kk Z.lk (A.b+j)) (fM OO Z.lk (A.b+j) A.mb A.fb xo) J M gsz w (t++u):=by
 have S:A.b+j≠Z.lk:=by omega
 have p:x.busy=(s.w j).busy:=by rw[(bn E).2.2.2.2.2.1,(bn F).2.2.2.2.2.1]
 have O:∀l,l≠Z.lk->oO kk Z.lk (A.b+j) l=kk l:=λl d=>az _ _ d
 have z:oO kk Z.lk (A.b+j) Z.lk=kk (A.b+j):=au _ _ _;have eO:∀l,l≠A.b+j->l≠Z.lk->fM OO Z.lk (A.b+j) A.mb A.fb xo l=OO l:=λl E F=>by unfold fM;rw[az _ _ F,az _ _ E]
 have B:fM OO Z.lk (A.b+j) A.mb A.fb xo (A.b+j)=((OO (A.b+j)).del A.mb).del A.fb:=by unfold fM;rw[az _ _ S,au]
 have g:fM OO Z.lk (A.b+j) A.mb A.fb xo Z.lk=ai.bot.set A.mb xo:=by unfold fM;rw[au]
 have C:bU P A s (A.b+j):=iz h.I N (bn E).2.2.2.2.1
 have m:∀l,l<A.n->((s.aO j x s.sh).w l).owns=false:=λl d=>by
  by_cases e:l=j
  . subst e;rw[aN];exact Q
  . rw[bu e]
    cases q:(s.w l).owns with
    |false=>rfl
    |true=>exact absurd (k l d q) e
 refine⟨R,h.size,h.yE,h.mu,h.gr,h.vg,h.yX,λi=>?_,λi=>?_,λi y r=>?_,λl d v=>?_,λv=>?_,λc L=>?_,
  λi=>by rw[h.hJ i];exact(mi N p i).symm,h.sY u,h.lD u,h.jw u (λop f a D=>by rw[(K op f).1]at D;cases D),h.mR u (λop f a D=>by rw[(K op f).1]at D;cases D),h.oJ u,h.iy u (λop f=>(K op f).2),λi d hb=>?_,h.rE,h.jV,h.eN,h.la,by simp;exact Nat.le_trans h.n0 (Nat.le_add_right _ _)⟩
 . by_cases o:i=Z.lk
   . subst o;rw[g];simp only[ai.set,A.d3,A.d6,if_false];exact⟨rfl,rfl⟩
   by_cases e:i=A.b+j
   . subst e;rw[B]
     have:=h.fV (A.b+j);simp only[ai.del,A.d1,A.d3,Ne.symm A.d4,A.d6,if_false];exact this
   . rw[eO i e o];exact h.fV i
 . by_cases o:i=Z.lk
   . subst o;rw[z];exact h.dZ _
   . rw[O i o];exact h.dZ i
 . exfalso
   by_cases o:i=Z.lk
   . subst o;rw[g]at r
     simp only[ai.set,A.d5,if_false]at r;cases r
   by_cases e:i=A.b+j
   . subst e;rw[B]at r;simp[ai.del]at r
   . rw[eO i e o]at r
     obtain⟨l,_,d,T,U,_⟩:=h.tok i y r;exact e (by rw[T,k l d U])
 . rw[m l d]at v;cases v
 . refine⟨xo,a,by rw[g];simp[ai.set],by rw[z];exact G,H⟩
 . rw[g]at L
   refine⟨?_,m⟩
   by_cases e:c=A.mb
   . exact e
   . simp only[ai.set,e,if_false]at L;exact absurd rfl L
 . have e:i≠A.b+j:=λe=>hb (e ▸ C)
   rw[O i d,eO i e d];exact h.Dl i d hb
variable(C:iT P A.nm)(X:iU P A.nm)
include C X in
theorem OH(D:A.b+A.n+1<=Z.lk)(T:bJ (cB P A Fin Z D) Z s f q kk OO J M gs w t)(d:j<A.n){Y:xI P}(u:s.w j=.un .ur Y)(hg:gs[A.b+j]?=some g)(a7:Ih P A j (.un .ur Y) (kk (A.b+j)) (OO (A.b+j)) g)(sl:Option (Nat × Nat)):
 Goes P A Fin Z D s gs w t sl (A.b+j):=by
 have v:dt P A Z s kk OO J M gs.size w t:=T.ex;have B:=bm (P:=P) (A:=A) (Fin:=Fin) (Z:=Z) D;have U:(s.w j).jJ=true:=by rw[u];rfl
 have V:=gN U;have a8:(s.w j).pc=.held:=by rw[u];rfl
 have hb:=A.hb;have m:A.b+j≠Z.lk:=by omega
 have a9:(A.b+j==0)=false:=by simp;omega
 have E:∀l,l<A.n->(s.w l).owns=true->l=j:=λl F e=>Du v.I d a8 F e
 obtain⟨kind,c,rest,hk,hM,hm,ad,b4⟩:=a7;obtain⟨tf,xo,a,b5,vy,al,av,hN⟩:=ad (.inr rfl);obtain⟨g1,G,hr,g2,⟨k,H⟩,K⟩:=GR (Wd:=lN A) (main:=false) (w:=w) C X hM;rw[<-v.la]at G;have ax:oO kk Z.lk (A.b+j) (A.b+j)=kk (A.b+j):=az _ _ m;have ay:fM OO Z.lk (A.b+j) A.mb A.fb xo (A.b+j)=((OO (A.b+j)).del A.mb).del A.fb:=by unfold fM;rw[az _ _ m,au]
 have L:=runT_crowd_go (P:=P) (sl:=sl) (i:=A.b+j) hg (by rw[a9];exact G)
 have b0:=iN (P:=P) (A:=A) (s:=s) d U
 have p:Deaf t (A.b+j)=0:=by obtain⟨_,_,p,_⟩:=T.walk _ b0;rw[p];show dc P A s (A.b+j)=0;rw[eP d,u];rfl
 have N:∀op∈MemOp.ofEvents (A.b+j) g.frame.fn g.frame.place #[⟨.mark (.releaseMerge Z.la),false,true⟩],op.g=A.b+j:=λop z=>by obtain⟨e,_,rfl⟩:=Go.Conc.mem_ofEvents z;rfl
 have b1:∀op∈MemOp.ofEvents (A.b+j) g.frame.fn g.frame.place #[⟨.mark (.releaseMerge Z.la),false,true⟩],op.act.touch?=none/\∀a,op.act≠.mark (.release a):=λop z=>by obtain⟨e,he,rfl⟩:=Go.Conc.mem_ofEvents z;simp at he;subst he;exact⟨rfl,λa h=>by simp[MemAct.ofEvent]at h⟩
 have Q:A.fb<w.heap.size:=by obtain⟨c,e,U⟩:=v.vg;exact(Array.getElem?_eq_some_iff.1 U).1
 have R:∀c,OO Z.lk c=none:=λc=>by
  cases e:OO Z.lk c with
  |none=>rfl
  | some y=>
    have:=(v.JF c (by rw[e];simp)).2 j d
    rw[u]at this;cases this
 have hP:=T.cE.Tz (fb:=A.fb) m vy R (by rw[v.la];exact Q) p g.frame.fn g.frame.place
 obtain⟨x,o⟩:∃x:bt P,x=.un .ud Y:=⟨_,rfl⟩;have W:x.work=true:=by rw[o];rfl
 have r:((s.aO j x s.sh).w j).jJ=true:=by rw[aN,o];rfl
 have hI:bT A.n (s.aO j x s.sh):=v.I.still d V W (by rw[o];rfl) (by rw[o,u];rfl)
 have hL:MS.gM A.n (s.aO j x s.sh) s:=mh d V W (by rw[o,u];rfl) (by rw[o,u];rfl) (by rw[o,u];simp[bt.ex])
 have b2:=v.give D d V W E (by rw[o];rfl) hI al av b1
 have b3:Beside (cB P A Fin Z D) s (s.aO j x s.sh) f f q (upd q (A.b+j) k) kk (oO kk Z.lk (A.b+j)) OO (fM OO Z.lk (A.b+j) A.mb A.fb xo) J J w (A.b+j) g g1:=kG D d V W (λi S=>rfl) (λi S=>upd_ne q k S) (λi S ht=>az _ _ (show i≠Z.lk by omega)) (λi S ht=>by unfold fM;rw[az _ _ (show i≠Z.lk by omega),az _ _ S]) (λ_ h=>h) (.inl λh=>h) (λ{i k O y} K=>B.me (s:=s) (i:=i) (k:=k) (O:=O) (g:=y) K)
 refine⟨_,_,L,s.aO j x s.sh,f,upd q (A.b+j) k,oO kk Z.lk (A.b+j),fM OO Z.lk (A.b+j) A.mb A.fb xo,J,M,_,_,_,rfl,hL,?_⟩;refine bJ.step B T hg N hP b2 (λl y F K=>B.ub v F _ _ K) b3 ⟨λF=>absurd F (iV d r),λ_=>⟨iV d r,?_,?_,g2,?_,?_⟩,λhh=>absurd hh (pW d r),λ_ hn _=>absurd (iN d r) hn⟩
 . show A.b+j<A.b+A.n+1;omega
 . rw[Deaf_own,p]
   show _=dc P A (s.aO j x s.sh) (A.b+j);rw[eP d,aN,o];rfl
 . refine .inr (.inl ⟨j,d,rfl,?_⟩)
   rw[aN,o,ax,ay];exact⟨kind,c,rest,hk,K,hm,λh=>absurd h (by simp),λ_=>hN⟩
 . exact .inr (by rw[upd_same];exact H)
end
end Go.bd
