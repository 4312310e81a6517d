/- Part 7 of the proof. -/
import Derived.Test.YtigilmjkokbblaaGreatDoorN6
set_option linter.all false
namespace Go.Proofs.YtigilmjkokbblaaGreatDoor
open Go.bd Go.Conc
set_option maxHeartbeats 2000000
set_option maxRecDepth 4000
variable{m:Mo}{σ:aa}{KF:dV->aa->Prop}
namespace KN
def E8:List Nat:=[10,12,14,16,19,22]
def slot(i:Nat):Nat:=[39,40,41,42,43,44,45,46,47,48,0,49,0,50,0,51,0,52,53,0,54,55,0].getD i 0
theorem Kv:∀i j:Fin 23,i.1∉E8->j.1∉E8->i≠j->slot i.1≠slot j.1:=by decide
theorem slot_ne:∀i<23,∀j<23,i∉E8->j∉E8->i≠j->slot i≠slot j:=λi a j b c d f=>Kv ⟨i,a⟩ ⟨j,b⟩ c d λe=>f (congrArg Fin.val e)
theorem Oa:∀i<23,i∉E8->39<=slot i:=by decide
theorem Qe:∀k<6,∀j<6,j≠k->E8.getD j 0≠E8.getD k 0:=by decide
theorem GA:∀k<6,E8.getD k 0∈E8:=by decide
structure RK(V:Nat->AV)(jP:Env)(S:Nat->aa)(done:List Nat)(env:Env)(σ:aa):Prop where
 base:∀s,s<39->env s=jP s
 cj:∀i,i∈done->i<23->i∉E8->env (slot i)=V i
 hH:∃k,k<=6/\(∀j,j<6->(E8.getD j 0∈done↔j<k))/\σ=S k
theorem RK.next{V:Nat->AV}{jP env:Env}{S:Nat->aa}{done:List Nat}(h:RK V jP S done env σ){i:Nat}(g:i<23)(f:i∉E8){a:AV}(l:a=V i):RK V jP S (i::done) (env.upd (slot i) a) σ:=by
 refine⟨λs q=>?_,λj d b c=>?_,?_⟩
 . have:=Oa i g f
   rw[iD (by omega)];exact h.base s q
 . by_cases e:j=i
   . subst e;rw[lH];exact l
   . rw[iD (slot_ne j b i g c f e)]
     exact h.cj j ((List.mem_cons.1 d).resolve_left e) b c
 . obtain⟨k,m,n,o⟩:=h.hH
   refine⟨k,m,λj d=>?_,o⟩;rw[<-n j d,List.mem_cons];exact⟨λq=>q.resolve_left λe=>f (e ▸ GA j d),.inr⟩
theorem RK.step{V:Nat->AV}{jP env:Env}{S:Nat->aa}{done:List Nat}(h:RK V jP S done env σ){k:Nat}(c:k<6)(b:k=0\/E8.getD (k-1) 0∈done)(l:E8.getD k 0∉done):σ=S k/\∀σ',σ'=S (k+1)->RK V jP S (E8.getD k 0::done) env σ':=by
 obtain⟨n,p,d,m⟩:=h.hH;have r:¬k<n:=λq=>l ((d k c).2 q)
 have s:k<=n:=by
  rcases b with b|b
  . omega
  . have:=(d (k-1) (by omega)).1 b
    omega
 obtain rfl:n=k:=by omega
 refine⟨m,λσ' e=>⟨h.base,λi o f a=>?_,n+1,by omega,λj g=>?_,e⟩⟩
 . exact h.cj i ((List.mem_cons.1 o).resolve_left λe=>a (e ▸ GA n c)) f a
 . rw [List.mem_cons]
   by_cases e:j=n
   . subst e;exact⟨λ_=>by omega,λ_=>.inl rfl⟩
   . have:=d j g
     have ne:=Qe n c j g e;constructor
     . rintro(q|q)
       . exact absurd q ne
       . have:=this.1 q;omega
     . intro q;exact .inr (this.2 (by omega))
def Pg:Fr:=⟨fU.take 4,[],1,2,3,3⟩
def Ph:Fr:=⟨fU.take 4,[[0,2],[3,0]],1,2,3,3⟩
def Pj:Fr:=⟨fU.take 4,[[0,2],[2,0]],2,1,3,3⟩
def R5:Fr:=⟨fU.take 4,[[0,2],[2,0]],1,2,0,3⟩
def xh:Fr:=⟨[⟨0,0,1,[0],15,0⟩,⟨3,1,1,[0],16,1⟩,⟨4,0,1,[2,2],15,2⟩,⟨10,0,2,[],14,0⟩],[[0,2],[2,0]],1,2,3,3⟩
def xi:Fr:=⟨[⟨0,0,1,[0],15,0⟩,⟨3,1,1,[0],16,1⟩,⟨4,0,1,[0,2],15,2⟩,⟨10,0,2,[],14,3⟩],[[0,2],[2,0]],1,2,3,3⟩
theorem yR:check Pg=7/\check Ph=9/\check Pj=5/\check R5=1/\check xh=5/\check xi=8:=by decide +kernel
def Pk(f:Fr):Bool:=decide (f.aA.length<100) && decide (f.roads.length<100) && f.roads.all (λr=>decide (r.length<100)) && f.aA.all (λe=>decide (e.marks.length<100))
theorem qv{f:Fr}(h:Pk f=true):f.Fits:=by simp only[Pk,Bool.and_eq_true,decide_eq_true_eq,List.all_eq_true]at h;obtain⟨⟨⟨g,i⟩,a⟩,b⟩:=h;exact⟨by omega,by omega,λr c=>by have:=a r c;omega,λe d=>by have:=b e d;omega⟩
theorem Qf{kk:Nat}{es d:List AV}{sp:cG}(g:es.length=d.length)(m:∀a∈es,a.cells.length=kk)(e:∀a∈d,a.cells.length=kk)(n:∀(i:Nat) a a',(flatten es)[i]?=some a->(flatten d)[i]?=some a'->a.W a'):(AV.sl kk es sp).W (.sl kk d .any):=λk x o=>by
 have f1:=aZ m;have u:=aZ e;cases o with
 | sl b off cap _ N E _ _ c h p q v r s w=>
   rw[g]at h f1 ⊢;refine .sl b off cap kk N E d .any c h p q e (λj f=>r j (by omega)) (λj a l=>?_) trivial
   have f:j<(flatten es).length:=by have:=(List.getElem?_eq_some_iff.1 l).1;omega
   exact n j (flatten es)[j] a (by simp[f]) l k _ (s j _ (by simp[f]))
 | slnil t=>
   have:d=[]:=by cases d with|nil=>rfl|cons _ _=>simp at g
   subst this;exact .slnil t kk .any (.inl rfl)
theorem Ob(a b c d:Int):(AV.sl 1 [AV.sl 1 [int a,int b] .exact,.sl 1 [int c,int d] .exact] .exact).W (rows [[a,b],[c,d]]):=Ku rfl (λa e=>by simp at e;rcases e with rfl|rfl<;>rfl) (λi e=>by simp at e;rcases e with rfl|rfl<;>rfl) (λi x h f g=>by
 match i with
 |0=>simp at f g;subst f;subst g;exact ck 1 [int a,int b] .exact
 |1=>simp at f g;subst f;subst g;exact ck 1 [int c,int d] .exact
 |i+2=>simp at f)
theorem E9{a b c d e f a' j c' k l f':AV}(m:a.W a')(n:b.W j)(o:c.W c')(p:d.W k)(q:e.W l)(r:f.W f'):(AV.agg [a,b,c,d,e,f]).W (.agg [a',j,c',k,l,f']):=lT rfl λi x y g h=>by
 match i with
 |0=>simp at g h;subst g;subst h;exact m
 |1=>simp at g h;subst g;subst h;exact n
 |2=>simp at g h;subst g;subst h;exact o
 |3=>simp at g h;subst g;subst h;exact p
 |4=>simp at g h;subst g;subst h;exact q
 |5=>simp at g h;subst g;subst h;exact r
 |i+6=>simp at g
abbrev Ra:List AV:=[aW ⟨0,0,1,[0],15,0⟩,aW ⟨3,1,1,[0],16,1⟩,.agg [int 4,int 0,int 1,.sl 1 [int 2,int 2] .exact,int 15,int 2],aW ⟨10,0,2,[],14,0⟩]
theorem Oc:(AV.agg [.sl 6 Ra .any,rows [[0,2],[2,0]],int 1,int 2,int 3,int 3]).W (aC xh):=by
 refine E9 (Qf rfl (λa b=>?_) (λa b=>?_) λi a h c d=>?_) (.refl _) (.refl _) (.refl _) (.refl _) (.refl _)
 . simp at b;rcases b with rfl|rfl|rfl|rfl<;>rfl
 . simp[xh]at b;rcases b with rfl|rfl|rfl|rfl<;>rfl
 . by_cases e:i=15
   . subst e
     cases c;cases d;exact ck 1 [int 2,int 2] .exact
   . have key:∀j<24,j≠15->(flatten Ra)[j]?=(flatten (xh.aA.map aW))[j]?:=by
      intro j k f;obtain rfl|rfl|rfl|rfl|rfl|rfl|rfl|rfl|rfl|rfl|rfl|rfl|rfl|rfl|rfl|rfl|rfl|rfl|rfl|rfl|rfl|rfl|rfl|rfl:j=0\/j=1\/j=2\/j=3\/j=4\/j=5\/j=6\/j=7\/j=8\/j=9\/j=10\/j=11\/j=12\/j=13\/j=14\/j=15\/j=16\/j=17\/j=18\/j=19\/j=20\/j=21\/j=22\/j=23:=by omega
      all_goals first|rfl|omega
     have g:i<24:=(List.getElem?_eq_some_iff.1 c).1;rw[key i g e,d]at c;cases c;exact .refl _
theorem C4:∀(j:Nat) a,(flatten Ra)[j]?=some a->(aG fC 15 [.sl 1 [int 2,int 2] .exact])[0+j]?=some a:=λj a h=>by
 have e:flatten Ra=(aG fC 15 [.sl 1 [int 2,int 2] .exact]).take 24:=rfl;rw[e,List.getElem?_take]at h;split at h
 . rw[Nat.zero_add];exact h
 . cases h
theorem Fa:∀(j:Nat) a,(flatten (xi.aA.map aW))[j]?=some a->(aG fC 23 [int 3])[0+j]?=some a:=λj a h=>by
 have e:flatten (xi.aA.map aW)=(aG fC 23 [int 3]).take 24:=rfl;rw[e,List.getElem?_take]at h;split at h
 . rw[Nat.zero_add];exact h
 . cases h
theorem R6:yN (aE 4 3) [0,1,2]=(false,0):=by decide +kernel
theorem R7:yN (aE 4 3) [1,0]=(false,5):=by decide +kernel
theorem R8:yN (aE 4 3) []=(false,7):=by decide +kernel
theorem R9:fR (aE 4 3) [1]=([14,15],0):=by decide +kernel
theorem Sa:fR (aE 4 3) [0,1]=([15],0):=by decide +kernel
theorem Sb:fR (aE 4 3) [0,3]=([],0):=by decide +kernel
theorem Sc:j8 (aE 4 3) 1 2=(3,0):=by decide +kernel
theorem Sd:j8 (aE 4 3) 0 3=(1,0):=by decide +kernel
theorem Se:j8 (aE 4 3) 0 1=(0,0):=by decide +kernel
theorem Sf:xc (aE 4 3)=(2,0):=by decide +kernel
theorem Sg:xc (aE 4 2)=(0,0):=by decide +kernel
theorem Si:vI (aE 4 3)=[3,3,0]:=by decide +kernel
theorem Sj:vI (aE 4 2)=[0,0,11]:=by decide +kernel
theorem Sk:C0 (aE 4 2)=([],0,11):=by decide +kernel
theorem Sl:CQ (aE 4 3) 0 1=(3,0):=by decide +kernel
theorem Sm:CQ (aE 4 3) 3 3=(1,0):=by decide +kernel
theorem Sn:oz (aE 4 3)=([0,1,2,3],0):=by decide +kernel
theorem So:oz (aE 2 1)=([0,0],0):=by decide +kernel
theorem Sp:tR (aE 4 3) 3=(1,0):=by decide +kernel
theorem Sq:tR (aE 4 3) 0=(2,0):=by decide +kernel
theorem Sr:tR (aE 4 3) 1=(3,0):=by decide +kernel
theorem Ss:u' (aE 4 3) 0 1=([0,1],0):=by decide +kernel
theorem Su:u' (aE 4 3) 1 2=([],11):=by decide +kernel
theorem Sv:u' (aE 4 3) 3 3=([3],0):=by decide +kernel
theorem Sw:tV (aE 4 3)=([],0):=by decide +kernel
theorem Sx:xf (aE 4 3)=(0,1,1,0):=by decide +kernel
theorem Sz:xf (aE 5 3)=(0,1,2,0):=by decide +kernel
theorem Pl:(E7 (aE 4 3) ⟨12,0,1,[2],15,0⟩).2=0:=by decide +kernel
theorem SA:(E7 (aE 3 2) ⟨12,0,3,[],15,0⟩).2=9:=by decide +kernel
theorem Qg:(E7 (aE 4 3) ⟨12,0,1,[2],15,0⟩).1=aE 5 3:=by
 have h:=Pl;unfold E7 at h ⊢;split
 . next q=>rw[if_pos q]at h;exact absurd h q
 next a=>
 rw[if_neg a]at h;split
 . next q=>rw[if_pos q]at h;cases h
 next b=>
 rw[if_neg b]at h;split
 . next q=>rw[if_pos q]at h;exact absurd h q
 next c=>
 rw[if_neg c]at h;split
 . next q=>rw[if_pos q]at h;cases h
 . rfl
theorem Bn(hs:m.solo=true)(fw:σ 0=some (.stay [oo]))(h:∀σ',KF (.val (bool true)) σ'):oY Tryz.prog lay m 4 [] σ KF:=by
 refine oY.start lay [] XR 0 Tryz.func4 rfl rfl (by rfl) (by kernel_rfl) ?_
 simp[Tryz.f4];refine an Tryz.func24 rfl rfl (fJ (n:=4) (most:=3) (by omega) ?_)
 refine ab.run lay [] ?_;simp;refine an Tryz.func24 rfl rfl (fJ (n:=5) (most:=3) (by omega) ?_)
 refine ab.run lay [] ?_;simp;refine an Tryz.func24 rfl rfl (fJ (n:=4) (most:=2) (by omega) ?_)
 refine ab.runN lay [] 6 ?_;simp;refine bL.intro λb1 h1=>?_
 simp;refine bL.intro λb2 h2=>?_
 simp;refine bL.intro λb3 h3=>?_
 have ei:=aa.aF h2;have ej:=aa.aF h3;have ep:=aa.aF ej.2.2;simp[aa.ag,ei.1,ei.2.1,ej.1,ej.2.1,ep.1,ep.2.1,aG];refine ab.bY 1 (b:=b1) (aC (aE 4 3)) (by simp[aa.ag,ei.1,ei.2.1,ej.1,ej.2.1,ep.1,ep.2.1]) (by simp) rfl ?_
 refine ab.bY 2 (b:=b2) (aC (aE 5 3)) (by simp[aa.del,aa.ag,ei.1,ei.2.1,ej.1,ej.2.1,ep.1,ep.2.1]) (by simp) rfl ?_
 refine ab.bY 3 (b:=b3) (aC (aE 4 2)) (by simp[aa.del,aa.ag,ei.1,ei.2.1,ej.1,ej.2.1,ep.1,ep.2.1]) (by simp) rfl ?_
 refine ab.weaken (σ:=σ) ?_ (λx o ho=>?_)
 rotate_left
 . have x1:x≠b1:=λq=>by rw[q,h1]at ho;cases ho
   have x2:x≠b2:=λq=>by rw[q,ei.2.2]at ho;cases ho
   have x3:x≠b3:=λq=>by rw[q,ep.2.2]at ho;cases ho
   simp[aa.del,x1,x2,x3,aa.ag,ho]
 clear h1 h2 h3 ei ej ep;refine ab.jP (λenv=>env 1=.cp (aC (aE 4 3)) 0/\env 2=.cp (aC (aE 5 3)) 0/\env 3=.cp (aC (aE 4 2)) 0) ⟨by simp,by simp,by simp⟩ ?_
 rintro env ⟨p,l,s⟩
 refine ab.run lay [] ?_;simp;refine an Tryz.func24 rfl rfl (fJ (n:=4) (most:=3) (by omega) ?_)
 refine ab.run lay [] ?_;simp;refine an Tryz.func24 rfl rfl (fJ (n:=4) (most:=3) (by omega) ?_)
 refine ab.run lay [] ?_;simp;refine an Tryz.func24 rfl rfl (fJ (n:=4) (most:=3) (by omega) ?_)
 refine ab.run lay [] ?_;simp;refine an Tryz.func24 rfl rfl (fJ (n:=4) (most:=3) (by omega) ?_)
 refine ab.run lay [] ?_;simp;refine an Tryz.func24 rfl rfl (C3 (n:=4) (most:=3) (by omega) λr8 gd=>?_)
 refine ab.run lay [] ?_;simp;refine an Tryz.func24 rfl rfl (C3 (n:=4) (most:=3) (by omega) λr9 fx=>?_)
 have gB:=aa.aF fx;have fl:r9≠r8:=gB.1;obtain⟨ey,et⟩:∃ey,ey=(σ.set r8 (.cells fC)).set r9 (.cells fC):=⟨_,rfl⟩;have q8:ey r8=some (.cells fC):=by rw[et,aa.ag _ _ (Ne.symm fl),aa.ak]
 have q9:ey r9=some (.cells fC):=by rw[et,aa.ak]
 have gj:σ.Le ey:=by rw[et];exact aa.dg (aa.dg (aa.le_refl _) gd) fx
 rw[<-et];refine ab.runN lay [] 12 ?_;simp;refine bL.intro λb4 h4=>?_
 simp;refine bL.intro λb5 h5=>?_
 simp;refine bL.intro λb6 h6=>?_
 simp;refine bL.intro λb7 h7=>?_
 simp;refine bL.intro λb8 h8=>?_
 simp;refine bL.intro λb9 h9=>?_
 have av:=aa.aF h5;have a8:=aa.aF h6;have ax:=aa.aF a8.2.2;have a9:=aa.aF h7;have ad:=aa.aF a9.2.2;have ay:=aa.aF ad.2.2;have b0:=aa.aF h8;have bq:=aa.aF b0.2.2;have bz:=aa.aF bq.2.2;have cb:=aa.aF bz.2.2;have bA:=aa.aF h9;have bB:=aa.aF bA.2.2;have c7:=aa.aF bB.2.2;have c8:=aa.aF c7.2.2;have cg:=aa.aF c8.2.2
 simp[aG,aa.ag,av.1,av.2.1,a8.1,a8.2.1,ax.1,ax.2.1,a9.1,a9.2.1,ad.1,ad.2.1,ay.1,ay.2.1,b0.1,b0.2.1,bq.1,bq.2.1,bz.1,bz.2.1,cb.1,cb.2.1,bA.1,bA.2.1,bB.1,bB.2.1,c7.1,c7.2.1,c8.1,c8.2.1,cg.1,cg.2.1];refine ab.bY 8 (b:=b8) (qM r8 4 3) (by simp[aa.ag,av.1,av.2.1,a8.1,a8.2.1,ax.1,ax.2.1,a9.1,a9.2.1,ad.1,ad.2.1,ay.1,ay.2.1,b0.1,b0.2.1,bq.1,bq.2.1,bz.1,bz.2.1,cb.1,cb.2.1,bA.1,bA.2.1,bB.1,bB.2.1,c7.1,c7.2.1,c8.1,c8.2.1,cg.1,cg.2.1]) (by simp) rfl ?_
 refine ab.bY 9 (b:=b9) (qM r9 4 3) (by simp[aa.del,aa.ag,av.1,av.2.1,a8.1,a8.2.1,ax.1,ax.2.1,a9.1,a9.2.1,ad.1,ad.2.1,ay.1,ay.2.1,b0.1,b0.2.1,bq.1,bq.2.1,bz.1,bz.2.1,cb.1,cb.2.1,bA.1,bA.2.1,bB.1,bB.2.1,c7.1,c7.2.1,c8.1,c8.2.1,cg.1,cg.2.1]) (by simp) rfl ?_
 have keep:∀x o,ey x=some o->x≠b4/\x≠b5/\x≠b6/\x≠b7/\x≠b8/\x≠b9:=λx o ho=>by refine⟨?_,?_,?_,?_,?_,?_⟩<;>rintro rfl<;>simp_all
 obtain⟨a1,a2,a3,a4,a5,a6⟩:=keep r8 _ q8;obtain⟨c1,c2,c3,c4,c5,c6⟩:=keep r9 _ q9
 refine ab.Cj (λenv ee=>env 1=.cp (aC (aE 4 3)) 0/\env 2=.cp (aC (aE 5 3)) 0/\env 3=.cp (aC (aE 4 2)) 0/\env 4=.ref b4 0/\env 5=.ref b5 0/\env 6=.ref b6 0/\env 7=.ref b7 0/\env 8=.cp (qM r8 4 3) 0/\env 9=.cp (qM r9 4 3) 0/\ee b4=some (.cells (bO (aE 4 3)))/\ee b5=some (.cells (bO (aE 4 3)))/\ee b6=some (.cells (bO (aE 4 3)))/\ee b7=some (.cells (bO (aE 4 3)))/\ee r8=some (.cells fC)/\ee r9=some (.cells fC)/\ee 0=some (.stay [oo]))
  ⟨by simp[p],by simp[l],by simp[s],by simp,by simp,by simp,by simp,by simp,by simp,by simp[aa.del,aa.ag,av.1,av.2.1,a8.1,a8.2.1,ax.1,ax.2.1,a9.1,a9.2.1,ad.1,ad.2.1,ay.1,ay.2.1,b0.1,b0.2.1,bq.1,bq.2.1,bz.1,bz.2.1,cb.1,cb.2.1,bA.1,bA.2.1,bB.1,bB.2.1,c7.1,c7.2.1,c8.1,c8.2.1,cg.1,cg.2.1],by simp[aa.del,aa.ag,av.1,av.2.1,a8.1,a8.2.1,ax.1,ax.2.1,a9.1,a9.2.1,ad.1,ad.2.1,ay.1,ay.2.1,b0.1,b0.2.1,bq.1,bq.2.1,bz.1,bz.2.1,cb.1,cb.2.1,bA.1,bA.2.1,bB.1,bB.2.1,c7.1,c7.2.1,c8.1,c8.2.1,cg.1,cg.2.1],by simp[aa.del,aa.ag,av.1,av.2.1,a8.1,a8.2.1,ax.1,ax.2.1,a9.1,a9.2.1,ad.1,ad.2.1,ay.1,ay.2.1,b0.1,b0.2.1,bq.1,bq.2.1,bz.1,bz.2.1,cb.1,cb.2.1,bA.1,bA.2.1,bB.1,bB.2.1,c7.1,c7.2.1,c8.1,c8.2.1,cg.1,cg.2.1],by simp[aa.del,aa.ag,av.1,av.2.1,a8.1,a8.2.1,ax.1,ax.2.1,a9.1,a9.2.1,ad.1,ad.2.1,ay.1,ay.2.1,b0.1,b0.2.1,bq.1,bq.2.1,bz.1,bz.2.1,cb.1,cb.2.1,bA.1,bA.2.1,bB.1,bB.2.1,c7.1,c7.2.1,c8.1,c8.2.1,cg.1,cg.2.1],by simp[aa.del,aa.ag,a1,a2,a3,a4,a5,a6,q8],by simp[aa.del,aa.ag,c1,c2,c3,c4,c5,c6,q9],?_⟩ ?_
 . obtain⟨z1,z2,z3,z4,z5,z6⟩:=keep 0 _ (gj _ _ fw)
   simp[aa.del,aa.ag,z1,z2,z3,z4,z5,z6,gj _ _ fw]
 have gp:[b4,b5,b6,b7,r8,r9].Nodup:=by simp[Ne.symm fl,Ne.symm a1,Ne.symm a2,Ne.symm a3,Ne.symm a4,Ne.symm c1,Ne.symm c2,Ne.symm c3,Ne.symm c4,av.2.1,ax.2.1,a8.2.1,ay.2.1,ad.2.1,a9.2.1]
 clear keep a1 a2 a3 a4 a5 a6 c1 c2 c3 c4 c5 c6 p l s q8 q9 gj et ey h4 h5 h6 h7 h8 h9 av ax a8 ay ad a9 cb bz bq b0 cg c8 c7 bB bA
 rintro env ee ⟨p,l,s,e4,e5,e6,e7,e8,e9,u4,u5,u6,u7,u8,u9,u0⟩
 refine ab.runN lay [] 2 ?_;simp;obtain⟨V,hV⟩:∃V:Nat->AV,V=λj=>([.cp (qM r8 4 3) 0,.ew r8 0 4 5,.cp (qM r9 4 3) 0,.ew r9 0 4 5,.sl 1 [int 0,int 2] .exact,.sl 1 [int 3,int 0] .exact,.sl 1 [.sl 1 [int 0,int 2] .exact,.sl 1 [int 3,int 0] .exact] .exact,.agg [int 2,int 1],.sl 1 [int 2,int 2] .exact,.ref b4 1,.bC,.ref b5 1,.bC,.ref b6 2,.bC,.ref b7 4,.bC,.ref r8 12,.ref r8 15,.bC,.ref r9 18,.ref r9 23,.bC]:List AV).getD j .bC:=⟨_,rfl⟩
 have v:∀j,V j=_:=λj=>congrFun hV j
 obtain⟨eB,T⟩:∃eB,eB=ee.set b4 (.cells [iQ (aE 4 3).aA,.lit (.slice none 0 0),int 1,int 2,int 3,int 3]):=⟨_,rfl⟩;obtain⟨eK,U⟩:∃eK,eK=eB.set b5 (.cells [iQ (aE 4 3).aA,.sl 1 [.sl 1 [int 0,int 2] .exact,.sl 1 [int 3,int 0] .exact] .exact,int 1,int 2,int 3,int 3]):=⟨_,rfl⟩;obtain⟨eR,a7⟩:∃eR,eR=eK.set b6 (.cells [iQ (aE 4 3).aA,rows [[0,2],[2,0]],int 2,int 1,int 3,int 3]):=⟨_,rfl⟩;obtain⟨eW,al⟩:∃eW,eW=eR.set b7 (.cells [iQ (aE 4 3).aA,rows [[0,2],[2,0]],int 1,int 2,int 0,int 3]):=⟨_,rfl⟩
 obtain⟨fc,ca⟩:∃fc,fc=eW.set r8 (.cells (aG fC 15 [.sl 1 [int 2,int 2] .exact])):=⟨_,rfl⟩;obtain⟨cl,ec⟩:∃cl,cl=fc.set r9 (.cells (aG fC 23 [int 3])):=⟨_,rfl⟩;simp only[List.nodup_cons,List.mem_cons,List.not_mem_nil,or_false,not_or,not_false_eq_true,List.nodup_nil,and_true]at gp;obtain⟨⟨B,C,D,E,F⟩,⟨G,H,J,K⟩,⟨L,M,N⟩,⟨O,P⟩,Q⟩:=gp
 have v1:eB b5=some (.cells (bO (aE 4 3))):=by simp[T,aa.ag,u5,B,C,D,E,F,G,H,J,K,L,M,N,O,P,Q,Ne.symm B,Ne.symm C,Ne.symm D,Ne.symm E,Ne.symm F,Ne.symm G,Ne.symm H,Ne.symm J,Ne.symm K,Ne.symm L,Ne.symm M,Ne.symm N,Ne.symm O,Ne.symm P,Ne.symm Q]
 have v2:eK b6=some (.cells (bO (aE 4 3))):=by simp[T,U,aa.ag,u6,B,C,D,E,F,G,H,J,K,L,M,N,O,P,Q,Ne.symm B,Ne.symm C,Ne.symm D,Ne.symm E,Ne.symm F,Ne.symm G,Ne.symm H,Ne.symm J,Ne.symm K,Ne.symm L,Ne.symm M,Ne.symm N,Ne.symm O,Ne.symm P,Ne.symm Q]
 have v3:eR b7=some (.cells (bO (aE 4 3))):=by simp[T,U,a7,aa.ag,u7,B,C,D,E,F,G,H,J,K,L,M,N,O,P,Q,Ne.symm B,Ne.symm C,Ne.symm D,Ne.symm E,Ne.symm F,Ne.symm G,Ne.symm H,Ne.symm J,Ne.symm K,Ne.symm L,Ne.symm M,Ne.symm N,Ne.symm O,Ne.symm P,Ne.symm Q]
 have v4:eW r8=some (.cells fC):=by simp[T,U,a7,al,aa.ag,u8,B,C,D,E,F,G,H,J,K,L,M,N,O,P,Q,Ne.symm B,Ne.symm C,Ne.symm D,Ne.symm E,Ne.symm F,Ne.symm G,Ne.symm H,Ne.symm J,Ne.symm K,Ne.symm L,Ne.symm M,Ne.symm N,Ne.symm O,Ne.symm P,Ne.symm Q]
 have v5:fc r9=some (.cells fC):=by simp[T,U,a7,al,ca,aa.ag,u9,B,C,D,E,F,G,H,J,K,L,M,N,O,P,Q,Ne.symm B,Ne.symm C,Ne.symm D,Ne.symm E,Ne.symm F,Ne.symm G,Ne.symm H,Ne.symm J,Ne.symm K,Ne.symm L,Ne.symm M,Ne.symm N,Ne.symm O,Ne.symm P,Ne.symm Q]
 obtain⟨S,hS⟩:∃S:Nat->aa,S=λj=>[ee,eB,eK,eR,eW,fc,cl].getD j ee:=⟨_,rfl⟩
 have cm:∀j,S j=_:=λj=>congrFun hS j
 refine ab.Gp (RK V env S) lay.mixed (by rfl) ⟨λ_ _=>rfl,by simp,0,by omega,by simp,(cm 0).symm⟩ ?_ ?_
 . intro done i g ev R fi gw w
   have gw:i<23:=gw
   rcases (show i=0\/i=1\/i=2\/i=3\/i=4\/i=5\/i=6\/i=7\/i=8\/i=9\/i=10\/i=11\/i=12\/i=13\/i=14\/i=15\/i=16\/i=17\/i=18\/i=19\/i=20\/i=21\/i=22 by omega)with rfl|rfl|rfl|rfl|rfl|rfl|rfl|rfl|rfl|rfl|rfl|rfl|rfl|rfl|rfl|rfl|rfl|rfl|rfl|rfl|rfl|rfl|rfl
   . have gC:g 8=_:=(w.base 8 (by omega)).trans e8
     refine aJ lay (mu:=[]) ?_;simp[gC];exact w.next (i:=0) (by omega) (by decide) (v 0).symm
   . have d0:g 39=.cp (qM r8 4 3) 0:=(w.cj 0 (R 0 (by rfl)) (by omega) (by decide)).trans (v 0)
     refine aJ lay (mu:=[]) ?_;simp[d0];exact w.next (i:=1) (by omega) (by decide) (v 1).symm
   . have gD:g 9=_:=(w.base 9 (by omega)).trans e9
     refine aJ lay (mu:=[]) ?_;simp[gD];exact w.next (i:=2) (by omega) (by decide) (v 2).symm
   . have d2:g 41=.cp (qM r9 4 3) 0:=(w.cj 2 (R 2 (by rfl)) (by omega) (by decide)).trans (v 2)
     refine aJ lay (mu:=[]) ?_;simp[d2];exact w.next (i:=3) (by omega) (by decide) (v 3).symm
   . refine aJ lay (mu:=[]) ?_
     simp;exact w.next (i:=4) (by omega) (by decide) (v 4).symm
   . refine aJ lay (mu:=[]) ?_
     simp;exact w.next (i:=5) (by omega) (by decide) (v 5).symm
   . have d4:g 43=.sl 1 [int 0,int 2] .exact:=(w.cj 4 (R 4 (by rfl)) (by omega) (by decide)).trans (v 4)
     have d5:g 44=.sl 1 [int 3,int 0] .exact:=(w.cj 5 (R 5 (by rfl)) (by omega) (by decide)).trans (v 5)
     refine aJ lay (mu:=[]) ?_;simp[d4,d5];exact w.next (i:=6) (by omega) (by decide) (v 6).symm
   . refine aJ lay (mu:=[]) ?_
     simp;exact w.next (i:=7) (by omega) (by decide) (v 7).symm
   . refine aJ lay (mu:=[]) ?_
     simp;exact w.next (i:=8) (by omega) (by decide) (v 8).symm
   . have gG:g 4=_:=(w.base 4 (by omega)).trans e4
     refine aJ lay (mu:=[]) ?_;simp[gG];exact w.next (i:=9) (by omega) (by decide) (v 9).symm
   . have d9:g 48=.ref b4 1:=(w.cj 9 (R 9 (by rfl)) (by omega) (by decide)).trans (v 9)
     obtain⟨A,eg⟩:=w.step (k:=0) (by omega) (.inl rfl) fi
     have A:ev=ee:=A.trans (cm 0);rw[A];refine aJ lay (mu:=[]) ?_;simp[d9,u4];exact eg _ (by rw[cm 1];simp[T,aG,fC,fU,flatten]<;>rfl)
   . have gH:g 5=_:=(w.base 5 (by omega)).trans e5
     refine aJ lay (mu:=[]) ?_;simp[gH];exact w.next (i:=11) (by omega) (by decide) (v 11).symm
   . have gP:g 49=.ref b5 1:=(w.cj 11 (R 11 (by rfl)) (by omega) (by decide)).trans (v 11)
     have d6:g 45=.sl 1 [.sl 1 [int 0,int 2] .exact,.sl 1 [int 3,int 0] .exact] .exact:=(w.cj 6 (R 6 (by rfl)) (by omega) (by decide)).trans (v 6)
     obtain⟨A,eg⟩:=w.step (k:=1) (by omega) (.inr (R 10 (by rfl))) fi
     have A:ev=eB:=A.trans (cm 1);rw[A];refine aJ lay (mu:=[]) ?_;simp[gP,d6,v1];exact eg _ (by rw[cm 2];simp[U,aG,fC,fU,flatten]<;>rfl)
   . have gR:g 6=_:=(w.base 6 (by omega)).trans e6
     refine aJ lay (mu:=[]) ?_;simp[gR];exact w.next (i:=13) (by omega) (by decide) (v 13).symm
   . have gU:g 50=.ref b6 2:=(w.cj 13 (R 13 (by rfl)) (by omega) (by decide)).trans (v 13)
     have d7:g 46=.agg [int 2,int 1]:=(w.cj 7 (R 7 (by rfl)) (by omega) (by decide)).trans (v 7)
     obtain⟨A,eg⟩:=w.step (k:=2) (by omega) (.inr (R 12 (by rfl))) fi
     have A:ev=eK:=A.trans (cm 2);rw[A];refine aJ lay (mu:=[]) ?_;simp[gU,d7,v2];exact eg _ (by rw[cm 3];simp[a7,aG,fC,fU,flatten]<;>rfl)
   . have ha:g 7=_:=(w.base 7 (by omega)).trans e7
     refine aJ lay (mu:=[]) ?_;simp[ha];exact w.next (i:=15) (by omega) (by decide) (v 15).symm
   . have hh:g 51=.ref b7 4:=(w.cj 15 (R 15 (by rfl)) (by omega) (by decide)).trans (v 15)
     obtain⟨A,eg⟩:=w.step (k:=3) (by omega) (.inr (R 14 (by rfl))) fi
     have A:ev=eR:=A.trans (cm 3);rw[A];refine aJ lay (mu:=[]) ?_;simp[hh,v3];exact eg _ (by rw[cm 4];simp[al,aG,fC,fU,flatten]<;>rfl)
   . have d1:g 40=.ew r8 0 4 5:=(w.cj 1 (R 1 (by rfl)) (by omega) (by decide)).trans (v 1)
     refine aJ lay (mu:=[]) ?_;simp[d1];exact w.next (i:=17) (by omega) (by decide) (v 17).symm
   . have hi:g 52=.ref r8 12:=(w.cj 17 (R 17 (by rfl)) (by omega) (by decide)).trans (v 17)
     refine aJ lay (mu:=[]) ?_;simp[hi];exact w.next (i:=18) (by omega) (by decide) (v 18).symm
   . have hj:g 53=.ref r8 15:=(w.cj 18 (R 18 (by rfl)) (by omega) (by decide)).trans (v 18)
     have d8:g 47=.sl 1 [int 2,int 2] .exact:=(w.cj 8 (R 8 (by rfl)) (by omega) (by decide)).trans (v 8)
     obtain⟨A,eg⟩:=w.step (k:=4) (by omega) (.inr (R 16 (by rfl))) fi
     have A:ev=eW:=A.trans (cm 4);rw[A];refine aJ lay (mu:=[]) ?_;simp[hj,d8,v4];exact eg _ (by rw[cm 5];simp[ca,aG,fC,fU,flatten]<;>rfl)
   . have d3:g 42=.ew r9 0 4 5:=(w.cj 3 (R 3 (by rfl)) (by omega) (by decide)).trans (v 3)
     refine aJ lay (mu:=[]) ?_;simp[d3];exact w.next (i:=20) (by omega) (by decide) (v 20).symm
   . have hl:g 54=.ref r9 18:=(w.cj 20 (R 20 (by rfl)) (by omega) (by decide)).trans (v 20)
     refine aJ lay (mu:=[]) ?_;simp[hl];exact w.next (i:=21) (by omega) (by decide) (v 21).symm
   . have hp:g 55=.ref r9 23:=(w.cj 21 (R 21 (by rfl)) (by omega) (by decide)).trans (v 21)
     obtain⟨A,eg⟩:=w.step (k:=5) (by omega) (.inr (R 19 (by rfl))) fi
     have A:ev=fc:=A.trans (cm 5);rw[A];refine aJ lay (mu:=[]) ?_;simp[hp,v5];exact eg _ (by rw[cm 6];simp[ec,aG,fC,fU,flatten]<;>rfl)
 intro done g ev eA w;have eA:∀i,i<23->i∈done:=eA;obtain⟨k,k6,hk,A⟩:=w.hH
 have hq:k=6:=by have:=(hk 5 (by omega)).1 (eA 22 (by omega));omega
 subst hq;have A:ev=cl:=A.trans (cm 6);rw[A];have cv:g 1=_:=(w.base 1 (by omega)).trans p
 have dd:g 2=_:=(w.base 2 (by omega)).trans l
 have dj:g 3=_:=(w.base 3 (by omega)).trans s
 have dr:g 4=_:=(w.base 4 (by omega)).trans e4
 have dx:g 5=_:=(w.base 5 (by omega)).trans e5
 have dy:g 6=_:=(w.base 6 (by omega)).trans e6
 have e0:g 7=_:=(w.base 7 (by omega)).trans e7
 have ea:g 8=_:=(w.base 8 (by omega)).trans e8
 have eb:g 9=_:=(w.base 9 (by omega)).trans e9
 have w0:cl b4=some (.cells [iQ (aE 4 3).aA,.lit (.slice none 0 0),int 1,int 2,int 3,int 3]):=by simp[T,U,a7,al,ca,ec,aa.ag,B,C,D,E,F,G,H,J,K,L,M,N,O,P,Q,Ne.symm B,Ne.symm C,Ne.symm D,Ne.symm E,Ne.symm F,Ne.symm G,Ne.symm H,Ne.symm J,Ne.symm K,Ne.symm L,Ne.symm M,Ne.symm N,Ne.symm O,Ne.symm P,Ne.symm Q]
 have w1:cl b5=some (.cells [iQ (aE 4 3).aA,.sl 1 [.sl 1 [int 0,int 2] .exact,.sl 1 [int 3,int 0] .exact] .exact,int 1,int 2,int 3,int 3]):=by simp[T,U,a7,al,ca,ec,aa.ag,B,C,D,E,F,G,H,J,K,L,M,N,O,P,Q,Ne.symm B,Ne.symm C,Ne.symm D,Ne.symm E,Ne.symm F,Ne.symm G,Ne.symm H,Ne.symm J,Ne.symm K,Ne.symm L,Ne.symm M,Ne.symm N,Ne.symm O,Ne.symm P,Ne.symm Q]
 have w2:cl b6=some (.cells [iQ (aE 4 3).aA,rows [[0,2],[2,0]],int 2,int 1,int 3,int 3]):=by simp[T,U,a7,al,ca,ec,aa.ag,B,C,D,E,F,G,H,J,K,L,M,N,O,P,Q,Ne.symm B,Ne.symm C,Ne.symm D,Ne.symm E,Ne.symm F,Ne.symm G,Ne.symm H,Ne.symm J,Ne.symm K,Ne.symm L,Ne.symm M,Ne.symm N,Ne.symm O,Ne.symm P,Ne.symm Q]
 have w3:cl b7=some (.cells [iQ (aE 4 3).aA,rows [[0,2],[2,0]],int 1,int 2,int 0,int 3]):=by simp[T,U,a7,al,ca,ec,aa.ag,B,C,D,E,F,G,H,J,K,L,M,N,O,P,Q,Ne.symm B,Ne.symm C,Ne.symm D,Ne.symm E,Ne.symm F,Ne.symm G,Ne.symm H,Ne.symm J,Ne.symm K,Ne.symm L,Ne.symm M,Ne.symm N,Ne.symm O,Ne.symm P,Ne.symm Q]
 have w4:cl r8=some (.cells (aG fC 15 [.sl 1 [int 2,int 2] .exact])):=by simp[T,U,a7,al,ca,ec,aa.ag,B,C,D,E,F,G,H,J,K,L,M,N,O,P,Q,Ne.symm B,Ne.symm C,Ne.symm D,Ne.symm E,Ne.symm F,Ne.symm G,Ne.symm H,Ne.symm J,Ne.symm K,Ne.symm L,Ne.symm M,Ne.symm N,Ne.symm O,Ne.symm P,Ne.symm Q]
 have w5:cl r9=some (.cells (aG fC 23 [int 3])):=by simp[T,U,a7,al,ca,ec,aa.ag,B,C,D,E,F,G,H,J,K,L,M,N,O,P,Q,Ne.symm B,Ne.symm C,Ne.symm D,Ne.symm E,Ne.symm F,Ne.symm G,Ne.symm H,Ne.symm J,Ne.symm K,Ne.symm L,Ne.symm M,Ne.symm N,Ne.symm O,Ne.symm P,Ne.symm Q]
 have w9:cl 0=some (.stay [oo]):=by
  have z:∀b c,ee b=some (.cells c)->0≠b:=λb c q e=>by rw[<-e,u0]at q;cases q
  simp[T,U,a7,al,ca,ec,aa.ag,z _ _ u4,z _ _ u5,z _ _ u6,z _ _ u7,z _ _ u8,z _ _ u9,u0]
 clear w eA hk A T U a7 al ca ec v1 v2 v3 v4 v5 hS cm hV v u4 u5 u6 u7 u8 u9 u0 p l s e4 e5 e6 e7 e8 e9;obtain⟨t1,t2,t3,t4,t5,t6⟩:=yR;refine ab.run lay [] ?_;simp[cv,dd,dj,dr,dx,dy,e0,ea,eb,w0,w1,w2,w3];refine an Tryz.func6 rfl rfl (nF hs ?_);refine ab.run lay [] ?_;simp[cv,dd,dj,dr,dx,dy,e0,ea,eb,w0,w1,w2,w3];refine an Tryz.func21 rfl rfl (gF (aP 4 3) ?_);refine ab.run lay [] ?_;simp[cv,dd,dj,dr,dx,dy,e0,ea,eb,w0,w1,w2,w3,js]
 refine aH Tryz.func21 rfl rfl (args':=[aC Pg]) (.cons (E9 (.refl _) (cW 1) (.refl _) (.refl _) (.refl _) (.refl _)) .nil) (gF (qv (by rfl)) ?_)
 rw[t1];refine ab.run lay [] ?_;simp[cv,dd,dj,dr,dx,dy,e0,ea,eb,w0,w1,w2,w3];refine aH Tryz.func21 rfl rfl (args':=[aC Ph]) (.cons (E9 (.refl _) (Ob 0 2 3 0) (.refl _) (.refl _) (.refl _) (.refl _)) .nil) (gF (qv (by rfl)) ?_)
 rw[t2];refine ab.run lay [] ?_;simp[cv,dd,dj,dr,dx,dy,e0,ea,eb,w0,w1,w2,w3];refine aH Tryz.func21 rfl rfl (args':=[aC Pj]) (.cons (.refl _) .nil) (gF (qv (by rfl)) ?_)
 rw[t3];refine ab.run lay [] ?_;simp[cv,dd,dj,dr,dx,dy,e0,ea,eb,w0,w1,w2,w3];refine aH Tryz.func21 rfl rfl (args':=[aC R5]) (.cons (.refl _) .nil) (gF (qv (by rfl)) ?_)
 rw[t4];refine ab.runN lay [] 4 ?_;simp[cv,dd,dj,dr,dx,dy,e0,ea,eb,w0,w1,w2,w3]
 refine ab.freeze r8 _ w4 (λu=>Fz.upd (t:=84) (a':=.agg [.sl 6 Ra .any,rows [[0,2],[2,0]],int 1,int 2,int 3,int 3]) (by
  simp only[lH]
  exact .agg _ _ rfl λi a a' h1 h2=>by
   match i with
   |0=>simp at h1 h2;subst h1;subst h2;exact .sl 0 5 6 Ra .any (by decide) (by decide) (λe he=>by simp at he;rcases he with rfl|rfl|rfl|rfl<;>rfl) C4 (.inl rfl)
   |i+1=>simp only[List.getElem?_cons_succ]at h1 h2;rw[h1]at h2;cases h2;exact .refl _) u) (Hw.del r8 _ cl) ?_
 refine ab.run lay [] ?_;simp[cv,dd,dj,dr,dx,dy,e0,ea,eb,w0,w1,w2,w3];refine aH Tryz.func21 rfl rfl (args':=[aC xh]) (.cons Oc .nil) (gF (qv (by rfl)) ?_)
 rw[t5];refine ab.runN lay [] 4 ?_;simp[cv,dd,dj,dr,dx,dy,e0,ea,eb,w0,w1,w2,w3];have gA:(cl.del r8) r9=some (.cells (aG fC 23 [int 3])):=by simp[aa.del,fl,w5]
 refine ab.freeze r9 _ gA (λu=>Fz.upd (t:=89) (a':=.agg [.sl 6 (xi.aA.map aW) .any,rows [[0,2],[2,0]],int 1,int 2,int 3,int 3]) (by
  simp only[lH]
  exact .agg _ _ rfl λi a a' h1 h2=>by
   match i with
   |0=>simp at h1 h2;subst h1;subst h2;exact .sl 0 5 6 (xi.aA.map aW) .any (by decide) (by decide) (λe he=>by simp[xi]at he;rcases he with rfl|rfl|rfl|rfl<;>rfl) Fa (.inl rfl)
   |i+1=>simp only[List.getElem?_cons_succ]at h1 h2;rw[h1]at h2;cases h2;exact .refl _) u) (Hw.del r9 _ (cl.del r8)) ?_
 refine ab.run lay [] ?_;simp[cv,dd,dj,dr,dx,dy,e0,ea,eb,w0,w1,w2,w3];refine aH Tryz.func21 rfl rfl (args':=[aC xi]) (.cons (.refl _) .nil) (gF (qv (by rfl)) ?_)
 rw[t6];refine ab.runN lay [] 5 ?_;simp[cv,dd,dj,dr,dx,dy,e0,ea,eb,w0,w1,w2,w3];have z8:0≠r8:=λq=>by rw[<-q,fw]at gd;cases gd
 have z9:0≠r9:=λq=>by rw[<-q,aa.ag _ _ z8,fw]at fx;cases fx
 obtain⟨gl,fO⟩:∃gl,gl=(cl.del r8).del r9:=⟨_,rfl⟩;have g0:gl 0=some (.stay [oo]):=by simp[fO,aa.del,z8,z9,w9]
 rw[<-fO];refine ab.jP (λenv=>env 1=.cp (aC (aE 4 3)) 0/\env 2=.cp (aC (aE 5 3)) 0/\env 3=.cp (aC (aE 4 2)) 0) ⟨by simp[cv,dd,dj,dr,dx,dy,e0,ea,eb,w0,w1,w2,w3],by simp[cv,dd,dj,dr,dx,dy,e0,ea,eb,w0,w1,w2,w3],by simp[cv,dd,dj,dr,dx,dy,e0,ea,eb,w0,w1,w2,w3]⟩ ?_
 clear cv dd dj dr dx dy e0 ea eb w0 w1 w2 w3 w4 w5 gA w9
 rintro env ⟨p,l,s⟩
 refine ab.run lay [] ?_;simp[p,l,s];refine aH Tryz.func13 rfl rfl (args':=[aC (aE 4 3),ints [0,1,2]]) (.cons (.refl _) (.cons (ck 1 [int 0,int 1,int 2] .exact) .nil)) (vH g0 (aP 4 3) (by simp) ?_)
 rw[R6];refine ab.run lay [] ?_;simp[p,l,s];refine aH Tryz.func13 rfl rfl (args':=[aC (aE 4 3),ints [1,0]]) (.cons (.refl _) (.cons (ck 1 [int 1,int 0] .exact) .nil)) (vH g0 (aP 4 3) (by simp) ?_)
 rw[R7];refine ab.run lay [] ?_;simp[p,l,s];refine aH Tryz.func13 rfl rfl (args':=[aC (aE 4 3),ints []]) (.cons (.refl _) (.cons (cW 1) .nil)) (vH g0 (aP 4 3) (by simp) ?_)
 rw[R8];refine ab.run lay [] ?_;simp[p,l,s];refine aH Tryz.func15 rfl rfl (args':=[aC (aE 4 3),ints [1]]) (.cons (.refl _) (.cons (ck 1 [int 1] .exact) .nil)) (mM g0 (aP 4 3) (by simp) ?_)
 rw[R9];refine ab.run lay [] ?_;simp[p,l,s];refine aH Tryz.func15 rfl rfl (args':=[aC (aE 4 3),ints [0,1]]) (.cons (.refl _) (.cons (ck 1 [int 0,int 1] .exact) .nil)) (mM g0 (aP 4 3) (by simp) ?_)
 rw[Sa];refine ab.run lay [] ?_;simp[p,l,s];refine aH Tryz.func15 rfl rfl (args':=[aC (aE 4 3),ints [0,3]]) (.cons (.refl _) (.cons (ck 1 [int 0,int 3] .exact) .nil)) (mM g0 (aP 4 3) (by simp) ?_)
 rw[Sb];refine ab.run lay [] ?_;simp[p,l,s];refine aH Tryz.func17 rfl rfl (args':=[ints [14,15],ints [14,15]]) (.cons (.refl _) (.cons (ck 1 [int 14,int 15] .exact) .nil)) (cP (by simp) (by simp) ?_)
 refine ab.run lay [] ?_;simp[p,l,s];refine aH Tryz.func17 rfl rfl (args':=[ints [15],ints [15]]) (.cons (.refl _) (.cons (ck 1 [int 15] .exact) .nil)) (cP (by simp) (by simp) ?_)
 refine ab.runN lay [] 6 ?_;simp[p,l,s];refine ab.jP (λenv=>env 1=.cp (aC (aE 4 3)) 0/\env 2=.cp (aC (aE 5 3)) 0/\env 3=.cp (aC (aE 4 2)) 0) ⟨by simp[p,l,s],by simp[p,l,s],by simp[p,l,s]⟩ ?_
 clear p l s env
 rintro env ⟨p,l,s⟩
 refine ab.run lay [] ?_;simp[p,l,s];refine an Tryz.func19 rfl rfl (oq (x:=1) (y:=2) (aP 4 3) ?_);rw[Sc];refine ab.run lay [] ?_;simp[p,l,s];refine an Tryz.func19 rfl rfl (oq (x:=0) (y:=3) (aP 4 3) ?_);rw[Sd];refine ab.run lay [] ?_;simp[p,l,s];refine an Tryz.func19 rfl rfl (oq (x:=0) (y:=1) (aP 4 3) ?_);rw[Se];refine ab.run lay [] ?_;simp[p,l,s];refine an Tryz.func25 rfl rfl (zO hs (f:=aE 4 3) (aP 4 3) ?_);rw[Sf];refine ab.run lay [] ?_;simp[p,l,s]
 refine an Tryz.func25 rfl rfl (zO hs (f:=aE 4 2) (aP 4 2) ?_);rw[Sg];refine ab.run lay [] ?_;simp[p,l,s];refine an Tryz.func26 rfl rfl (xe hs (f:=aE 4 3) (aP 4 3) ?_);rw[Si];refine ab.runN lay [] 6 ?_;simp;refine bL.intro λd1 hv=>?_
 simp[p,l,s];refine ab.bY 27 (b:=d1) (.agg [int 3,int 3]) (by simp) (by simp) rfl ?_
 rw[Gs hv];refine ab.run lay [] ?_;simp[p,l,s];refine zV lay Pm rl rfl (a:=3) (b:=3) (c:=3) (d:=3) (r:=false) rfl (by simp) (by simp) (.inr ⟨rfl,by simp⟩) ?_
 refine ab.runN lay [] 5 ?_;simp[p,l,s];refine ab.jP (λenv=>env 1=.cp (aC (aE 4 3)) 0/\env 2=.cp (aC (aE 5 3)) 0/\env 3=.cp (aC (aE 4 2)) 0) ⟨by simp[p,l,s],by simp[p,l,s],by simp[p,l,s]⟩ ?_
 clear p l s env
 rintro env ⟨p,l,s⟩
 refine ab.run lay [] ?_;simp[p,l,s];refine an Tryz.func26 rfl rfl (xe hs (f:=aE 4 2) (aP 4 2) ?_);rw[Sj];refine ab.run lay [] ?_;simp[p,l,s];refine an Tryz.func27 rfl rfl (Kr hs (f:=aE 4 2) (aP 4 2) ?_);rw[Sk];refine ab.run lay [] ?_;simp[p,l,s];refine an Tryz.func28 rfl rfl (CV hs (f:=aE 4 3) (x:=0) (y:=1) (aP 4 3) ?_);rw[Sl];refine ab.run lay [] ?_;simp[p,l,s];refine an Tryz.func28 rfl rfl (CV hs (f:=aE 4 3) (x:=3) (y:=3) (aP 4 3) ?_);rw[Sm];refine ab.run lay [] ?_
 simp[p,l,s];refine an Tryz.func29 rfl rfl (C2 hs (f:=aE 4 3) (aP 4 3) ?_);rw[Sn];refine ab.run lay [] ?_;simp[p,l,s];refine an Tryz.func24 rfl rfl (fJ (n:=2) (most:=1) (by omega) ?_)
 refine ab.run lay [] ?_;simp[p,l,s];refine an Tryz.func29 rfl rfl (C2 hs (f:=aE 2 1) (aP 2 1) ?_);rw[So];refine ab.run lay [] ?_;simp[p,l,s];refine aH Tryz.func17 rfl rfl (args':=[ints [0,1,2,3],ints [0,1,2,3]]) (.cons (.refl _) (.cons (ck 1 [int 0,int 1,int 2,int 3] .exact) .nil)) (cP (by simp) (by simp) ?_)
 refine ab.run lay [] ?_;simp[p,l,s];refine aH Tryz.func17 rfl rfl (args':=[ints [0,0],ints [0,0]]) (.cons (.refl _) (.cons (ck 1 [int 0,int 0] .exact) .nil)) (cP (by simp) (by simp) ?_)
 refine ab.runN lay [] 6 ?_;simp[p,l,s];refine ab.jP (λenv=>env 1=.cp (aC (aE 4 3)) 0/\env 2=.cp (aC (aE 5 3)) 0/\env 3=.cp (aC (aE 4 2)) 0) ⟨by simp[p,l,s],by simp[p,l,s],by simp[p,l,s]⟩ ?_
 clear p l s env
 rintro env ⟨p,l,s⟩
 refine ab.run lay [] ?_;simp[p,l,s];refine an Tryz.func30 rfl rfl (tT hs (f:=aE 4 3) (x:=3) (aP 4 3) ?_);rw[Sp];refine ab.run lay [] ?_;simp[p,l,s];refine an Tryz.func30 rfl rfl (tT hs (f:=aE 4 3) (x:=0) (aP 4 3) ?_);rw[Sq];refine ab.run lay [] ?_;simp[p,l,s];refine an Tryz.func30 rfl rfl (tT hs (f:=aE 4 3) (x:=1) (aP 4 3) ?_);rw[Sr];refine ab.run lay [] ?_;simp[p,l,s];refine an Tryz.func31 rfl rfl (tW hs (f:=aE 4 3) (x:=0) (y:=1) (aP 4 3) ?_);rw[Ss]
 refine ab.run lay [] ?_;simp[p,l,s];refine an Tryz.func31 rfl rfl (tW hs (f:=aE 4 3) (x:=1) (y:=2) (aP 4 3) ?_);rw[Su];refine ab.run lay [] ?_;simp[p,l,s];refine an Tryz.func31 rfl rfl (tW hs (f:=aE 4 3) (x:=3) (y:=3) (aP 4 3) ?_);rw[Sv];refine ab.run lay [] ?_;simp[p,l,s];refine aH Tryz.func17 rfl rfl (args':=[ints [0,1],ints [0,1]]) (.cons (.refl _) (.cons (ck 1 [int 0,int 1] .exact) .nil)) (cP (by simp) (by simp) ?_)
 refine ab.run lay [] ?_;simp[p,l,s];refine aH Tryz.func17 rfl rfl (args':=[ints [3],ints [3]]) (.cons (.refl _) (.cons (ck 1 [int 3] .exact) .nil)) (cP (by simp) (by simp) ?_)
 refine ab.runN lay [] 6 ?_;simp[p,l,s];refine ab.jP (λenv=>env 1=.cp (aC (aE 4 3)) 0/\env 2=.cp (aC (aE 5 3)) 0/\env 3=.cp (aC (aE 4 2)) 0) ⟨by simp[p,l,s],by simp[p,l,s],by simp[p,l,s]⟩ ?_
 clear p l s env
 rintro env ⟨p,l,s⟩
 refine ab.run lay [] ?_;simp[p,l,s];refine an Tryz.func32 rfl rfl (N9 hs (f:=aE 4 3) (aP 4 3) ?_);rw[Sw];refine ab.run lay [] ?_;simp[p,l,s];refine an Tryz.func33 rfl rfl (Ks hs (f:=aE 4 3) (aP 4 3) ?_);rw[show xg (aE 4 3)=.bG [int 0,int 1,int 1,int 0]by simp only[xg,Sx]]
 refine ab.run lay [] ?_;simp[p,l,s];refine an Tryz.func33 rfl rfl (Ks hs (f:=aE 5 3) (aP 5 3) ?_);rw[show xg (aE 5 3)=.bG [int 0,int 1,int 2,int 0]by simp only[xg,Sz]]
 refine ab.runN lay [] 11 ?_;simp[p,l,s];refine ab.jP (λenv=>env 1=.cp (aC (aE 4 3)) 0/\env 2=.cp (aC (aE 5 3)) 0/\env 11=int 0/\env 13=int 0/\env 15=int 0/\env 16=ints []/\env 22=int 0/\env 23=int 1/\env 24=int 1/\env 25=int 0/\env 26=int 1/\env 28=int 2) ⟨by simp[p,l,s],by simp[p,l,s],by simp[p,l,s],by simp[p,l,s],by simp[p,l,s],by simp[p,l,s],by simp[p,l,s],by simp[p,l,s],by simp[p,l,s],by simp[p,l,s],by simp[p,l,s],by simp[p,l,s]⟩ ?_
 clear p l s env
 rintro env ⟨p,l,bV,W,cd,cH,yC,yD,pj,X,Y,Z⟩
 apply sH (I:=λenv σ'=>∃d,env 2=.cp (aC (aE 5 3)) 0/\env 11=int 0/\env 13=int 0/\env 15=int 0/\env 16=ints []/\env 17=int 0/\env 22=int 0/\env 23=int 1/\env 24=int 1/\env 25=int 0/\env 26=int 1/\env 28=int 2/\env 29=.ref d 0/\σ' d=some (.cells (bO (aE 5 3))))
 . intro ez
   have hx:∀e∈(aE 4 3).aA,e.marks.length<=1000:=λe he=>by have:=(aP 4 3).marks e he;simp[aE,fU]at he;rcases he with rfl|rfl|rfl|rfl<;>simp
   have hy:∀r∈(aE 4 3).roads,r.length<=1000000000:=λr hr=>by simp[aE]at hr;rcases hr with rfl|rfl<;>simp
   have fp:∀{σ:aa}{KF:dV->aa->Prop},KF (.val (.bG [aC (aE 5 3),int 0])) σ->aB Tryz.prog m 34 [aC (aE 4 3),aW ⟨12,0,1,[2],15,0⟩] σ KF:=λh=>Gy hs (aP 4 3) (by simp) hx hy (by simp[aE]) (by rw[Qg,Pl];exact h)
   refine ab.run lay [] ?_;simp[p,l,bV,W,cd,cH,yC,yD,pj,X,Y,Z];refine⟨?_,?_⟩
   . refine an Tryz.func35 rfl rfl (Bo ?_)
     refine aU.go lay [] ?_;simp[p,l,bV,W,cd,cH,yC,yD,pj,X,Y,Z,fU];refine⟨?_,?_⟩
     . refine an Tryz.func34 rfl rfl (fp ?_)
       refine aU.go lay [] ?_;simp[p,l,bV,W,cd,cH,yC,yD,pj,X,Y,Z];refine pI.intro (dst:=some 29) λd hd=>?_
       simp[p,l,bV,W,cd,cH,yC,yD,pj,X,Y,Z,aG];exact ez _ _ ⟨d,by simp[l],by simp[bV],by simp[W],by simp[cd],by simp[cH],by simp,by simp[yC],by simp[yD],by simp[pj],by simp[X],by simp[Y],by simp[Z],by simp,aa.ak _ _ _⟩
     . refine pI.intro (dst:=some 29) λd hd=>?_
       simp[p,l,bV,W,cd,cH,yC,yD,pj,X,Y,Z];refine an Tryz.func34 rfl rfl (fp ?_);refine aU.go lay [] ?_;simp[p,l,bV,W,cd,cH,yC,yD,pj,X,Y,Z,aG];exact ez _ _ ⟨d,by simp[l],by simp[bV],by simp[W],by simp[cd],by simp[cH],by simp,by simp[yC],by simp[yD],by simp[pj],by simp[X],by simp[Y],by simp[Z],by simp,aa.ak _ _ _⟩
   . refine pI.intro (dst:=some 29) λd hd=>?_
     simp[p,l,bV,W,cd,cH,yC,yD,pj,X,Y,Z];refine an Tryz.func35 rfl rfl (Bo ?_);refine aU.go lay [] ?_;simp[p,l,bV,W,cd,cH,yC,yD,pj,X,Y,Z,fU];refine an Tryz.func34 rfl rfl (fp ?_);refine aU.go lay [] ?_;simp[p,l,bV,W,cd,cH,yC,yD,pj,X,Y,Z,aG];exact ez _ _ ⟨d,by simp[l],by simp[bV],by simp[W],by simp[cd],by simp[cH],by simp,by simp[yC],by simp[yD],by simp[pj],by simp[X],by simp[Y],by simp[Z],by simp,aa.ak _ _ _⟩
 clear p l bV W cd cH yC yD pj X Y Z env
 rintro env σ' ⟨d,l,bV,W,cd,cH,ft,yC,yD,pj,X,Y,Z,fv,hd⟩
 refine ab.run lay [] ?_;simp[l,bV,W,cd,cH,ft,yC,yD,pj,X,Y,Z,fv,hd];refine an Tryz.func24 rfl rfl (fJ (n:=3) (most:=2) (by omega) ?_)
 refine ab.run lay [] ?_;simp[l,bV,W,cd,cH,ft,yC,yD,pj,X,Y,Z,fv,hd];refine aH Tryz.func36 rfl rfl (args':=[int 12,int 0,int 3,int 15,int 0,ints []]) (.cons (.refl _) (.cons (.refl _) (.cons (.refl _) (.cons (.refl _) (.cons (.refl _) (.cons (cW 1) .nil)))))) (gJ ?_);refine ab.run lay [] ?_;simp[l,bV,W,cd,cH,ft,yC,yD,pj,X,Y,Z,fv,hd]
 refine an Tryz.func34 rfl rfl (Gy hs (f:=aE 3 2) (n:=⟨12,0,3,[],15,0⟩) (aP 3 2) (by simp) (λe he=>by simp[aE,fU]at he;rcases he with rfl|rfl|rfl<;>simp) (λr hr=>by simp[aE]at hr;rcases hr with rfl|rfl<;>simp) (by simp[aE]) ?_)
 rw[SA];refine ab.run lay [] ?_;simp[l,bV,W,cd,cH,ft,yC,yD,pj,X,Y,Z,fv,hd];refine an Tryz.func23 rfl rfl (pK (aP 5 3) ?_);refine ab.run lay [] ?_;simp[l,bV,W,cd,cH,ft,yC,yD,pj,X,Y,Z,fv,hd];exact .done (h _)
end KN
end Go.Proofs.YtigilmjkokbblaaGreatDoor
