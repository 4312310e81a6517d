import Derived.Test.YtkcceaplmgdnfaaGreatDoorC36
set_option linter.all false
namespace Go.Proofs.YtkcceaplmgdnfaaGreatDoor
open Go.Proofs.Tryz (prog)
open Go.bu Go.Conc
set_option maxHeartbeats 2000000
set_option maxRecDepth 4000
variable{m:Mo}{σ:aa}{KF:cJ->aa->Prop}
namespace CN
theorem OH{env:Env}{t u:Nat}{v:AV}(h:u≠t):(env.upd t v) u=env u:=by simp_all
theorem L7{env:Env}{t:Nat}{v:AV}:(env.upd t v) t=v:=by simp_all
def EH:List Nat:=[8,11,14,17]
def slot(i:Nat):Nat:=[30,31,32,33,34,35,36,37,0,38,39,0,40,41,0,42,43,0].getD i 0
theorem L8:∀i j:Fin 18,i.1∉EH->j.1∉EH->i≠j->slot i.1≠slot j.1:=by decide
theorem slot_ne:∀i<18,∀j<18,i∉EH->j∉EH->i≠j->slot i≠slot j:=λi a j b c d f=>L8 ⟨i,a⟩ ⟨j,b⟩ c d λe=>f (congrArg Fin.val e)
theorem NQ:∀i<18,i∉EH->30<=slot i:=by decide
theorem PQ:∀k<4,∀j<4,j≠k->EH.getD j 0≠EH.getD k 0:=by decide
theorem FM:∀k<4,EH.getD k 0∈EH:=by decide
structure RK(V:Nat->AV)(sG:Env)(S:Nat->aa)(done:List Nat)(env:Env)(σ:aa):Prop where
 base:∀s,s<30->env s=sG s
 iT:∀i,i∈done->i<18->i∉EH->env (slot i)=V i
 jj:∃k,k<=4/\(∀j,j<4->(EH.getD j 0∈done↔j<k))/\σ=S k
theorem RK.next{V:Nat->AV}{sG env:Env}{S:Nat->aa}{done:List Nat}(h:RK V sG S done env σ){i:Nat}(g:i<18)(f:i∉EH){a:AV}(o:a=V i):RK V sG S (i::done) (env.upd (slot i) a) σ:=by
 refine⟨λs q=>?_,λj d b c=>?_,?_⟩
 . have:=NQ i g f
   rw[OH (by omega)];exact h.base s q
 . by_cases e:j=i
   . simp_all
   . rw[OH (slot_ne j b i g c f e)]
     exact h.iT j ((List.mem_cons.1 d).resolve_left e) b c
 . obtain⟨k,l,m,n⟩:=h.jj
   refine⟨k,l,λj d=>?_,n⟩;rw[<-m j d,List.mem_cons];exact⟨λq=>q.resolve_left λe=>f (e ▸ FM j d),.inr⟩
theorem RK.step{V:Nat->AV}{sG env:Env}{S:Nat->aa}{done:List Nat}(h:RK V sG S done env σ){k:Nat}(b:k<4)(o:k=0\/EH.getD (k-1) 0∈done)(g:EH.getD k 0∉done):σ=S k/\∀σ',σ'=S (k+1)->RK V sG S (EH.getD k 0::done) env σ':=by
 obtain⟨n,p,d,l⟩:=h.jj;have r:¬k<n:=λq=>g ((d k b).2 q)
 have s:k<=n:=by grind
 obtain rfl:n=k:=by omega
 refine⟨l,λσ' e=>⟨h.base,λi m c a=>?_,n+1,by omega,λj f=>?_,e⟩⟩
 . exact h.iT i ((List.mem_cons.1 m).resolve_left λe=>a (e ▸ FM n b)) c a
 . rw[List.mem_cons]
   by_cases e:j=n
   . simp_all
   . have:=d j f
     have ne:=PQ n b j f e
     grind
theorem EI:∀(j:Nat) a,(flatten (tW.ways.map jQ))[j]?=some a->(aL mN 1 [int 0])[0+j]?=some a:=λj a h=>by
 have e:flatten (tW.ways.map jQ)=aL mN 1 [int 0]:=rfl
 simp_all
theorem EJ:∀(j:Nat) a,(flatten (tX.ways.map jQ))[j]?=some a->(aL mN 3 [int 9,int 8])[0+j]?=some a:=λj a h=>by
 have e:flatten (tX.ways.map jQ)=aL mN 3 [int 9,int 8]:=rfl
 simp_all
theorem CO:∀(j:Nat) a,(flatten (oB.aD.map bM))[j]?=some a->(aL (bM iV).cells 7 [int 3])[0+j]?=some a:=λj a h=>by
 have e:flatten (oB.aD.map bM)=aL (bM iV).cells 7 [int 3]:=rfl
 simp_all
theorem CP(D:m.solo=true)(h:∀σ',KF (.val (bool true)) σ'):tp prog lay m 8 [] σ KF:=by
 have G:∀(σ:aa) (KF:cJ->aa->Prop),KF (.val (aT (lW 3))) σ->aB prog m 32 [int 3] σ KF:=λσ KF h=>pn (n:=3) (by decide) h
 have w2:∀(σ:aa) (KF:cJ->aa->Prop),KF (.val (aT (lW 2))) σ->aB prog m 32 [int 2] σ KF:=λσ KF h=>pn (n:=2) (by decide) h
 refine tp.start lay [] XN 0 Tryz.func8 rfl rfl (by rfl) (by kernel_rfl) ?_
 simp[Tryz.f8];refine cf Tryz.func32 rfl (G _ _ ?_);refine rn ?_;simp;refine cf Tryz.func32 rfl (tV λE eg=>?_)
 refine rn ?_;simp;refine cf Tryz.func32 rfl (tV λF cb=>?_)
 have cg:=aa.aH cb;refine rn ?_;simp;refine cf Tryz.func32 rfl (Ay λJ cm=>?_)
 have bx:=aa.aH cm;have cr:=aa.aH bx.2.2;obtain⟨T,X⟩:∃T,T=((σ.set E (.cells mN)).set F (.cells mN)).set J (.cells (bM iV).cells):=⟨_,rfl⟩;have q2:T E=some (.cells mN):=by rw[X,aa.ak _ _ cr.2.1,aa.ak _ _ cg.2.1,aa.ao]
 have q3:T F=some (.cells mN):=by rw[X,aa.ak _ _ bx.2.1,aa.ao]
 have q4:T J=some (.cells (bM iV).cells):=by simp_all
 rw[<-X];refine af.runN lay [] 9 ?_;simp;refine bq.intro λb1 y=>?_
 simp;refine bq.intro λb2 z=>?_
 simp;refine bq.intro λb3 h3=>?_
 simp;refine bq.intro λb4 h4=>?_
 have av:=aa.aH z;have Z:=aa.aH h3;have ax:=aa.aH Z.2.2;have a7:=aa.aH h4;have a8:=aa.aH a7.2.2;have ay:=aa.aH a8.2.2;simp[aL,aa.ak,av.1,av.2.1,Z.1,Z.2.1,ax.1,ax.2.1,a7.1,a7.2.1,a8.1,a8.2.1,ay.1,ay.2.1];refine af.aV 2 (b:=b2) (Mj E) (by simp[aa.ak,Z.2.1,a8.2.1]) (by simp) rfl ?_
 refine af.aV 3 (b:=b3) (Mj F) (by simp[aa.del,aa.ak,Z.1,a7.2.1]) (by simp) rfl ?_
 refine af.aV 4 (b:=b4) (QJ J) (by simp[aa.del,a7.1,a8.1]) (by simp) rfl ?_
 have keep:∀x o,T x=some o->x≠b1/\x≠b2/\x≠b3/\x≠b4:=λx o ho=>by grind
 obtain⟨a1,a2,a3,a4⟩:=keep E _ q2;obtain⟨c1,c2,c3,c4⟩:=keep F _ q3;obtain⟨d1,d2,d3,d4⟩:=keep J _ q4
 refine af.mH (λenv Q=>env 1=.ref b1 0/\env 2=.cp (Mj E) 0/\env 3=.cp (Mj F) 0/\env 4=.cp (QJ J) 0/\Q b1=some (.cells (pv (lW 3)))/\Q E=some (.cells mN)/\Q F=some (.cells mN)/\Q J=some (.cells (bM iV).cells))
  ⟨by simp,by simp,by simp,by simp,by simp[aa.del,aa.ak,av.2.1,ax.2.1,ay.2.1],by simp[aa.del,aa.ak,a1,a2,a3,a4,q2],by simp[aa.del,aa.ak,c1,c2,c3,c4,q3],by simp[aa.del,aa.ak,d1,d2,d3,d4,q4]⟩ ?_
 have cv:[b1,E,F,J].Nodup:=by grind
 clear keep a1 a2 a3 a4 c1 c2 c3 c4 d1 d2 d3 d4 q2 q3 q4 X T y z h3 h4 av ax Z ay a8 a7 cg cr bx eg cb cm
 rintro env Q ⟨e1,e2,e3,e4,u1,u2,u3,u4⟩
 refine af.runN lay [] 1 ?_;simp;obtain⟨V,hV⟩:∃V:Nat->AV,V=λj=>([.cp (Mj E) 7,.kB E 0 3 3,.cp (Mj F) 7,.kB F 0 3 3,.cp (QJ J) 8,.kB J 0 1 1,.agg [int 9,int 8],.ref b1 6,.bJ,.ref E 0,.ref E 1,.bJ,.ref F 0,.ref F 3,.bJ,.ref J 0,.ref J 7,.bJ]:List AV).getD j .bJ:=⟨_,rfl⟩
 have g:∀j,V j=_:=λj=>congrFun hV j
 obtain⟨a9,L⟩:∃a9,a9=Q.set b1 (.cells (pv CG)):=⟨_,rfl⟩;obtain⟨ab,N⟩:∃ab,ab=a9.set E (.cells (aL mN 1 [int 0])):=⟨_,rfl⟩;obtain⟨ad,O⟩:∃ad,ad=ab.set F (.cells (aL mN 3 [int 9,int 8])):=⟨_,rfl⟩;obtain⟨C,P⟩:∃C,C=ad.set J (.cells (aL (bM iV).cells 7 [int 3])):=⟨_,rfl⟩;simp only[List.nodup_cons,List.mem_cons,List.not_mem_nil,or_false,not_or,not_false_eq_true,List.nodup_nil,and_true]at cv;obtain⟨⟨bA,bB,c6⟩,⟨b5,b6⟩,b7⟩:=cv;have v1:a9 E=some (.cells mN):=by simp[L,aa.ak,u2,Ne.symm bA]
 have v2:ab F=some (.cells mN):=by simp[L,N,aa.ak,u3,Ne.symm bB,Ne.symm b5]
 have v3:ad J=some (.cells (bM iV).cells):=by simp[L,N,O,aa.ak,u4,Ne.symm c6,Ne.symm b6,Ne.symm b7]
 obtain⟨S,hS⟩:∃S:Nat->aa,S=λj=>[Q,a9,ab,ad,C].getD j Q:=⟨_,rfl⟩
 have H:∀j,S j=_:=λj=>congrFun hS j
 refine af.Nn (RK V env S) lay.mixed (by rfl) ⟨λ_ _=>rfl,by simp,0,by omega,by decide,(H 0).symm⟩ ?_ ?_
 . intro done i f al v b8 dj l
   have dj:i<18:=dj
   rcases (show i=0\/i=1\/i=2\/i=3\/i=4\/i=5\/i=6\/i=7\/i=8\/i=9\/i=10\/i=11\/i=12\/i=13\/i=14\/i=15\/i=16\/i=17 by omega)with rfl|rfl|rfl|rfl|rfl|rfl|rfl|rfl|rfl|rfl|rfl|rfl|rfl|rfl|rfl|rfl|rfl|rfl
   . have b_:f 2=_:=(l.base 2 (by omega)).trans e2
     refine dK lay (mu:=[]) ?_;simp[b_];exact l.next (i:=0) (by omega) (by decide) (g 0).symm
   . have d0:f 30=.cp (Mj E) 7:=(l.iT 0 (v 0 (by rfl)) (by omega) (by decide)).trans (g 0)
     refine dK lay (mu:=[]) ?_;simp[d0];exact l.next (i:=1) (by omega) (by decide) (g 1).symm
   . have b_:f 3=_:=(l.base 3 (by omega)).trans e3
     refine dK lay (mu:=[]) ?_;simp[b_];exact l.next (i:=2) (by omega) (by decide) (g 2).symm
   . have d2:f 32=.cp (Mj F) 7:=(l.iT 2 (v 2 (by rfl)) (by omega) (by decide)).trans (g 2)
     refine dK lay (mu:=[]) ?_;simp[d2];exact l.next (i:=3) (by omega) (by decide) (g 3).symm
   . have b_:f 4=_:=(l.base 4 (by omega)).trans e4
     refine dK lay (mu:=[]) ?_;simp[b_];exact l.next (i:=4) (by omega) (by decide) (g 4).symm
   . have d4:f 34=.cp (QJ J) 8:=(l.iT 4 (v 4 (by rfl)) (by omega) (by decide)).trans (g 4)
     refine dK lay (mu:=[]) ?_;simp[d4];exact l.next (i:=5) (by omega) (by decide) (g 5).symm
   . refine dK lay (mu:=[]) ?_
     simp;exact l.next (i:=6) (by omega) (by decide) (g 6).symm
   . have b_:f 1=_:=(l.base 1 (by omega)).trans e1
     refine dK lay (mu:=[]) ?_;simp[b_];exact l.next (i:=7) (by omega) (by decide) (g 7).symm
   . have d7:f 37=.ref b1 6:=(l.iT 7 (v 7 (by rfl)) (by omega) (by decide)).trans (g 7)
     obtain⟨p,U⟩:=l.step (k:=0) (by omega) (.inl rfl) b8
     have p:al=Q:=p.trans (H 0);rw[p];refine dK lay (mu:=[]) ?_;simp[d7,u1];exact U _ (by rw[H 1];simp[L]<;>rfl)
   . have d1:f 31=.kB E 0 3 3:=(l.iT 1 (v 1 (by rfl)) (by omega) (by decide)).trans (g 1)
     refine dK lay (mu:=[]) ?_;simp[d1];exact l.next (i:=9) (by omega) (by decide) (g 9).symm
   . have d9:f 38=.ref E 0:=(l.iT 9 (v 9 (by rfl)) (by omega) (by decide)).trans (g 9)
     refine dK lay (mu:=[]) ?_;simp[d9];exact l.next (i:=10) (by omega) (by decide) (g 10).symm
   . have ei:f 39=.ref E 1:=(l.iT 10 (v 10 (by rfl)) (by omega) (by decide)).trans (g 10)
     obtain⟨p,U⟩:=l.step (k:=1) (by omega) (.inr (v 8 (by rfl))) b8
     have p:al=a9:=p.trans (H 1);rw[p];refine dK lay (mu:=[]) ?_;simp[ei,v1];exact U _ (by rw[H 2];simp[N,aL]<;>rfl)
   . have d3:f 33=.kB F 0 3 3:=(l.iT 3 (v 3 (by rfl)) (by omega) (by decide)).trans (g 3)
     refine dK lay (mu:=[]) ?_;simp[d3];exact l.next (i:=12) (by omega) (by decide) (g 12).symm
   . have ej:f 40=.ref F 0:=(l.iT 12 (v 12 (by rfl)) (by omega) (by decide)).trans (g 12)
     refine dK lay (mu:=[]) ?_;simp[ej];exact l.next (i:=13) (by omega) (by decide) (g 13).symm
   . have et:f 41=.ref F 3:=(l.iT 13 (v 13 (by rfl)) (by omega) (by decide)).trans (g 13)
     have d6:f 36=.agg [int 9,int 8]:=(l.iT 6 (v 6 (by rfl)) (by omega) (by decide)).trans (g 6)
     obtain⟨p,U⟩:=l.step (k:=2) (by omega) (.inr (v 11 (by rfl))) b8
     have p:al=ab:=p.trans (H 2);rw[p];refine dK lay (mu:=[]) ?_;simp[et,d6,v2];exact U _ (by rw[H 3];simp[O,aL]<;>rfl)
   . have d5:f 35=.kB J 0 1 1:=(l.iT 5 (v 5 (by rfl)) (by omega) (by decide)).trans (g 5)
     refine dK lay (mu:=[]) ?_;simp[d5];exact l.next (i:=15) (by omega) (by decide) (g 15).symm
   . have ev:f 42=.ref J 0:=(l.iT 15 (v 15 (by rfl)) (by omega) (by decide)).trans (g 15)
     refine dK lay (mu:=[]) ?_;simp[ev];exact l.next (i:=16) (by omega) (by decide) (g 16).symm
   . have ey:f 43=.ref J 7:=(l.iT 16 (v 16 (by rfl)) (by omega) (by decide)).trans (g 16)
     obtain⟨p,U⟩:=l.step (k:=3) (by omega) (.inr (v 14 (by rfl))) b8
     have p:al=ad:=p.trans (H 3);rw[p];refine dK lay (mu:=[]) ?_;simp[ey,v3];exact U _ (by rw[H 4];simp[P,aL]<;>rfl)
 intro done f al Y l;have Y:∀i,i<18->i∈done:=Y;obtain⟨k,k4,hk,p⟩:=l.jj
 have ez:k=4:=by have:=(hk 3 (by omega)).1 (Y 17 (by omega));omega
 subst ez;have p:al=C:=p.trans (H 4);rw[p];have dm:f 1=_:=(l.base 1 (by omega)).trans e1
 have dr:f 2=_:=(l.base 2 (by omega)).trans e2
 have dx:f 3=_:=(l.base 3 (by omega)).trans e3
 have dy:f 4=_:=(l.base 4 (by omega)).trans e4
 have e0:C b1=some (.cells (pv CG)):=by simp[L,N,O,P,aa.ak,bA,bB,c6]
 have e7:C E=some (.cells (aL mN 1 [int 0])):=by simp[N,O,P,aa.ak,b5,b6]
 have ea:C F=some (.cells (aL mN 3 [int 9,int 8])):=by simp[O,P,aa.ak,b7]
 have eb:C J=some (.cells (aL (bM iV).cells 7 [int 3])):=by simp[P]
 clear l Y hk p L N O P v1 v2 v3 hS H hV g u1 u2 u3 u4 e1 e2 e3 e4;obtain⟨k1,k2,k3,k4,k5⟩:=xQ;obtain⟨y1,y2,y3,y4⟩:=CH;have bm:(C.del E) F=some (.cells (aL mN 3 [int 9,int 8])):=by simp[aa.del,Ne.symm b5,ea]
 have br:((C.del E).del F) J=some (.cells (aL (bM iV).cells 7 [int 3])):=by simp[aa.del,Ne.symm b6,Ne.symm b7,eb]
 refine rn ?_;simp;refine cf Tryz.func16 rfl (L1 D ?_);refine rn ?_;simp;refine cf Tryz.func32 rfl (G _ _ ?_);refine rn ?_;simp;refine cf Tryz.func33 rfl (fP D Au.2 ?_);rw[k1];refine rn ?_;simp[dm,e0];refine cf Tryz.func33 rfl (fP D (w:=CG) y1 ?_);rw[k2];refine af.runN lay [] 4 ?_;simp[dr]
 refine af.freeze E _ e7 (λu=>Fz.upd (t:=57) (a':=aT tW) (by
  simp only[L7]
  exact .agg _ _ rfl λi a a' y z=>by
   match i with
   |0=>cases y;cases z;exact .refl _
   |1=>cases y;cases z;exact .refl _
   |2=>cases y;cases z;exact .refl _
   |3=>cases y;cases z;exact .refl _
   |4=>cases y;cases z;exact .refl _
   |5=>cases y;cases z;exact .refl _
   |6=>cases y;cases z;exact .refl _
   |7=>cases y;cases z;exact .sl 0 3 5 (tW.ways.map jQ) .any (by decide) (by decide) (λe he=>by simp[tW]at he;rcases he with rfl|rfl|rfl<;>rfl) EI (.inl rfl)
   |8=>cases y;cases z;exact .refl _
   |i+9=>cases y) u) (FP.del E _ (C)) ?_
 refine rn ?_;simp;refine cf Tryz.func33 rfl (fP D (w:=tW) y2 ?_);rw[k3];refine af.runN lay [] 4 ?_;simp[dx]
 refine af.freeze F _ bm (λu=>Fz.upd (t:=62) (a':=aT tX) (by
  simp only[L7]
  exact .agg _ _ rfl λi a a' y z=>by
   match i with
   |0=>cases y;cases z;exact .refl _
   |1=>cases y;cases z;exact .refl _
   |2=>cases y;cases z;exact .refl _
   |3=>cases y;cases z;exact .refl _
   |4=>cases y;cases z;exact .refl _
   |5=>cases y;cases z;exact .refl _
   |6=>cases y;cases z;exact .refl _
   |7=>cases y;cases z;exact .sl 0 3 5 (tX.ways.map jQ) .any (by decide) (by decide) (λe he=>by simp[tX]at he;rcases he with rfl|rfl|rfl<;>rfl) EJ (.inl rfl)
   |8=>cases y;cases z;exact .refl _
   |i+9=>cases y) u) (FP.del F _ (C.del E)) ?_
 refine rn ?_;simp;refine cf Tryz.func33 rfl (fP D (w:=tX) y3 ?_);rw[k4];refine af.runN lay [] 4 ?_;simp[dy]
 refine af.freeze J _ br (λu=>Fz.upd (t:=67) (a':=aT oB) (by
  simp only[L7]
  exact .agg _ _ rfl λi a a' y z=>by
   match i with
   |0=>cases y;cases z;exact .refl _
   |1=>cases y;cases z;exact .refl _
   |2=>cases y;cases z;exact .refl _
   |3=>cases y;cases z;exact .refl _
   |4=>cases y;cases z;exact .refl _
   |5=>cases y;cases z;exact .refl _
   |6=>cases y;cases z;exact .refl _
   |7=>cases y;cases z;exact .refl _
   |8=>cases y;cases z;exact .sl 0 1 8 (oB.aD.map bM) .any (by decide) (by decide) (λe he=>by simp[oB]at he;subst he;rfl) CO (.inl rfl)
   |i+9=>cases y) u) (FP.del J _ ((C.del E).del F)) ?_
 refine rn ?_;simp;refine cf Tryz.func33 rfl (fP D (w:=oB) y4 ?_);rw[k5];refine af.runN lay [] 4 ?_;simp;refine af.sG (λ_=>True) trivial ?_
 clear dm dr dx dy e0 e7 ea eb bm br bA bB c6 b5 b6 b7
 rintro env -
 obtain⟨ec,bw⟩:∃ec,ec=((C.del E).del F).del J:=⟨_,rfl⟩;rw[<-bw];clear bw;obtain⟨s2,K⟩:=Au;obtain⟨p2,R⟩:=Av;obtain⟨o1,o2,o3,o4,o5,o6,o7,o8,o9,Qs,RB,Qt,Tn,Qu,RD⟩:=NP;have a2:∀(σ:aa) (KF:cJ->aa->Prop),KF (.val (.bp [int 10,int 0])) σ->aB prog m 22 [aT (lW 2),int 0] σ KF:=λσ KF h=>oz D s2 (c:=0) (by decide) o1 (by rw[uL.1,if_neg (by decide)];exact h)
 have eA:∀(σ:aa) (KF:cJ->aa->Prop),KF (.val (.bp [ints [1,2,0],int 0])) σ->aB prog m 34 [aT (lW 3),int 0] σ KF:=λσ KF h=>yW D K (c:=0) (by decide) (by decide) o2 (by
  rw[uL.2,if_neg (by decide)]
  intro r hr;have:=rT.1;rw[show lh (lW 3) 0 iV=some r from hr]at this
  simp_all) λ_=>by have:=rT.1;change (lh (lW 3) 0 iV).isSome=true;cases e:lh (lW 3) 0 iV with|none=>simp_all|some r=>rfl
 have eB:∀(σ:aa) (KF:cJ->aa->Prop),KF (.val (.bp [ints [1,0],int 0])) σ->aB prog m 34 [aT (lW 2),int 0] σ KF:=λσ KF h=>yW D s2 (c:=0) (by decide) (by decide) o1 (by
  rw[uL.1,if_neg (by decide)]
  intro r hr;have:=rT.2;rw[show lh (lW 2) 0 iV=some r from hr]at this
  simp_all) λ_=>by have:=rT.2;change (lh (lW 2) 0 iV).isSome=true;cases e:lh (lW 2) 0 iV with|none=>simp_all|some r=>rfl
 have eK:∀(σ:aa) (KF:cJ->aa->Prop),KF (.val (.bp [ints [0,1],ints [0],int 0])) σ->aB prog m 27 [aT (lW 3),int 12] σ KF:=λσ KF h=>yQ D K R.qt o3 (by rw[rS.1,rS.2.1];exact h)
 have k7:∀(σ:aa) (KF:cJ->aa->Prop),KF (.val (.bp [ints [],ints [],int 0])) σ->aB prog m 27 [aT (lW 3),int 7] σ KF:=λσ KF h=>yQ D K R.qt o4 (by rw[rS.2.2.1,rS.2.2.2];exact h)
 have h9:∀(σ:aa) (KF:cJ->aa->Prop),KF (.val (.bp [ints [],int 0])) σ->aB prog m 11 [aT (lW 3),int 9] σ KF:=λσ KF h=>mL D K R (λq=>absurd o5 q) λ_=>by rw[uM.1];exact h
 have eN:∀(σ:aa) (KF:cJ->aa->Prop),KF (.val (.bp [ints [0],int 0])) σ->aB prog m 11 [aT (lW 3),int 10] σ KF:=λσ KF h=>mL D K R (λq=>absurd o6 q) λ_=>by rw[uM.2.1];exact h
 have fc:∀(σ:aa) (KF:cJ->aa->Prop),KF (.val (.bp [ints [0,1],int 0])) σ->aB prog m 11 [aT (lW 3),int 12] σ KF:=λσ KF h=>mL D K R (λq=>absurd o3 q) λ_=>by rw[uM.2.2.1];exact h
 have fg:∀(σ:aa) (KF:cJ->aa->Prop),KF (.val (.bp [ints [0],int 0])) σ->aB prog m 11 [aT (lW 3),int 16] σ KF:=λσ KF h=>mL D K R (λq=>absurd o7 q) λ_=>by rw[uM.2.2.2];exact h
 have fi:∀(σ:aa) (KF:cJ->aa->Prop),KF (.val (.bp [iv,int 1])) σ->aB prog m 11 [aT (lW 3),int 73] σ KF:=λσ KF h=>mL D K R (λ_=>by simp_all) λq=>by omega
 have fl:∀(σ:aa) (KF:cJ->aa->Prop),KF (.val (.bp [ints [0],int 0])) σ->aB prog m 28 [aT (lW 3),int 12,int 1] σ KF:=λσ KF h=>FD D K R (by decide) o9 (by rw[L5.1];exact h)
 have fp:∀(σ:aa) (KF:cJ->aa->Prop),KF (.val (.bp [ints [],int 0])) σ->aB prog m 28 [aT (lW 3),int 16,int 1] σ KF:=λσ KF h=>FD D K R (by decide) Qs (by rw[L5.2];exact h)
 have z0:∀(σ:aa) (KF:cJ->aa->Prop),KF (.val (.bp [j9 [(10,72)],int 0])) σ->aB prog m 23 [aT (lW 3),int 0] σ KF:=λσ KF h=>pj D K R (by decide) (λq=>absurd RB q) λ_=>by rw[CJ.1];exact h
 have z2:∀(σ:aa) (KF:cJ->aa->Prop),KF (.val (.bp [j9 [],int 0])) σ->aB prog m 23 [aT (lW 3),int 2] σ KF:=λσ KF h=>pj D K R (by decide) (λq=>absurd Qt q) λ_=>by rw[CJ.2];exact h
 have z4:∀(σ:aa) (KF:cJ->aa->Prop),KF (.val (.bp [iv,int 3])) σ->aB prog m 23 [aT (lW 3),int 4] σ KF:=λσ KF h=>pj D K R (by decide) (λ_=>by simp_all) λq=>by omega
 have vd:∀(σ:aa) (KF:cJ->aa->Prop),KF (.val (.bp [int 1,int 0])) σ->aB prog m 30 [aT (lW 3),int 0] σ KF:=λσ KF h=>CB D K R (c:=0) (by decide) (λ_=>xg.2) o2 (by rw[uL.2,if_neg (by decide),show rR (lW 3) ((0:Nat):Int)=1 from xg.1];exact h)
 have hr:∀(σ:aa) (KF:cJ->aa->Prop),KF (.val (.bp [int 67,int 0])) σ->aB prog m 25 [aT (lW 3)] σ KF:=λσ KF h=>yU D K R Qu (by rw[L6];exact h)
 have st:∀(σ:aa) (KF:cJ->aa->Prop),KF (.val (.bp [int 16,int 0])) σ->aB prog m 26 [aT (lW 3)] σ KF:=λσ KF h=>Cy D K R Qu λs hq=>by rw[EG hq];exact h
 obtain⟨m1,m2,m3⟩:=CI;have rd:(lW 3).fair.roads.length<=1000/\∀r∈(lW 3).fair.roads,r.length<=1000000000:=⟨by decide,λr hr=>by simp[lW,LW]at hr;rcases hr with rfl|rfl<;>simp⟩
 have em:∀x∈(lW 3).fair.aF,x.marks.length<=1000000000:=λx hx=>by have:=K.fits.marks x hx;simp[lW,LW,tT]at hx;rcases hx with rfl|rfl|rfl|rfl<;>simp
 have ed:∀x∈((lW 3).more xf).aD,x.lost.marks.length<=1000000000:=λx hx=>by simp[bH.more,lW,iV,xf]at hx;rcases hx with rfl|rfl<;>simp
 have c7:∀x∈((lW 3).more jb).aD,x.lost.marks.length<=1000000000:=λx hx=>by simp[bH.more,lW,iV,jb]at hx;rcases hx with rfl|rfl<;>simp
 have ft:∀(σ:aa) (KF:cJ->aa->Prop),KF (.val (.bp [.agg uq,int 9])) σ->aB prog m 36 [aT (lW 3),bM xf] σ KF:=λσ KF h=>AD.FL D K k1 (by decide) sU.1 rd em ed (λ_=>by simp_all) λq=>by omega
 have ca:∀(σ:aa) (KF:cJ->aa->Prop),KF (.val (.bp [aT ((lW 3).more jb),int 0])) σ->aB prog m 36 [aT (lW 3),bM jb] σ KF:=λσ KF h=>AD.FL D K k1 (by decide) sU.2 rd em c7 (λq=>absurd m2 q) λ_=>h
 have wi:∀(σ:aa) (KF:cJ->aa->Prop),KF (.val (aT ((lW 3).more jb))) σ->aB prog m 38 [aT (lW 3),bM jb] σ KF:=λσ KF h=>WL.L2 (by decide) h
 have ar:∀(σ:aa) (KF:cJ->aa->Prop),KF (.val (.bp [int 0,int 11])) σ->aB prog m 22 [aT ((lW 3).more jb),int 1] σ KF:=λσ KF h=>oz D sU.2 (c:=1) (by decide) RD (by simp_all)
 have sw:∀(σ:aa) (KF:cJ->aa->Prop),KF (.val (bool true)) σ->aB prog m 39 [aT ((lW 3).more jb),aT ((lW 3).more jb)] σ KF:=λσ KF h=>SW.sT K.fits (λc hc=>by have:=c7 c hc;omega) (by decide) (λx hx=>List.mem_of_mem_take (show x∈im.take 3 from hx)) (by decide) h
 clear s2 K p2 R o1 o2 o3 o4 o5 o6 o7 o8 o9 Qs RB Qt Tn Qu RD rd em ed c7 m1 m2 m3 k1 k2 k3 k4 k5 y1 y2 y3 y4;generalize (lW 3).more jb=M at *;generalize lW 3=A at *;generalize lW 2=B at *;refine rn ?_;simp;refine cf Tryz.func32 rfl (w2 _ _ ?_);refine rn ?_;simp;refine cf Tryz.func22 rfl (a2 _ _ ?_);refine rn ?_;simp;refine cf Tryz.func32 rfl (G _ _ ?_);refine rn ?_;simp;refine cf Tryz.func34 rfl (eA _ _ ?_);refine rn ?_;simp;refine cf Tryz.func32 rfl (w2 _ _ ?_)
 refine rn ?_;simp;refine cf Tryz.func34 rfl (eB _ _ ?_);refine rn ?_;simp;refine cf Tryz.func32 rfl (G _ _ ?_);refine rn ?_;simp;refine cf Tryz.func27 rfl (eK _ _ ?_);refine rn ?_;simp;refine cf Tryz.func32 rfl (G _ _ ?_);refine rn ?_;simp;refine cf Tryz.func27 rfl (k7 _ _ ?_);refine rn ?_;simp
 refine aM Tryz.func15 rfl rfl (args':=[ints [1,2,0],ints [1,2,0]]) (.cons (.refl _) (.cons (bQ 1 [int 1,int 2,int 0] .exact) .nil)) (cL (by simp) (by simp) ?_)
 refine rn ?_;simp;refine aM Tryz.func15 rfl rfl (args':=[ints [1,0],ints [1,0]]) (.cons (.refl _) (.cons (bQ 1 [int 1,int 0] .exact) .nil)) (cL (by simp) (by simp) ?_)
 refine rn ?_;simp;refine aM Tryz.func15 rfl rfl (args':=[ints [0,1],ints [0,1]]) (.cons (.refl _) (.cons (bQ 1 [int 0,int 1] .exact) .nil)) (cL (by simp) (by simp) ?_)
 refine rn ?_;simp;refine aM Tryz.func15 rfl rfl (args':=[ints [0],ints [0]]) (.cons (.refl _) (.cons (bQ 1 [int 0] .exact) .nil)) (cL (by simp) (by simp) ?_)
 refine af.runN lay [] 6 ?_;simp;refine af.sG (λ_=>True) trivial ?_
 clear env
 rintro env -
 refine rn ?_;simp;refine cf Tryz.func32 rfl (G _ _ ?_);refine rn ?_;simp;refine cf Tryz.func11 rfl (h9 _ _ ?_);refine rn ?_;simp;refine cf Tryz.func32 rfl (G _ _ ?_);refine rn ?_;simp;refine cf Tryz.func11 rfl (eN _ _ ?_);refine rn ?_;simp;refine cf Tryz.func32 rfl (G _ _ ?_);refine rn ?_;simp;refine cf Tryz.func11 rfl (fc _ _ ?_);refine rn ?_;simp;refine cf Tryz.func32 rfl (G _ _ ?_);refine rn ?_;simp
 refine cf Tryz.func11 rfl (fg _ _ ?_);refine rn ?_;simp;refine cf Tryz.func32 rfl (G _ _ ?_);refine rn ?_;simp;refine cf Tryz.func11 rfl (fi _ _ ?_);refine rn ?_;simp;refine cf Tryz.func32 rfl (G _ _ ?_);refine rn ?_;simp;refine cf Tryz.func28 rfl (fl _ _ ?_);refine rn ?_;simp;refine cf Tryz.func32 rfl (G _ _ ?_);refine rn ?_;simp;refine cf Tryz.func28 rfl (fp _ _ ?_);refine rn ?_;simp
 refine aM Tryz.func15 rfl rfl (args':=[ints [0],ints [0]]) (.cons (.refl _) (.cons (bQ 1 [int 0] .exact) .nil)) (cL (by simp) (by simp) ?_)
 refine rn ?_;simp;refine aM Tryz.func15 rfl rfl (args':=[ints [0,1],ints [0,1]]) (.cons (.refl _) (.cons (bQ 1 [int 0,int 1] .exact) .nil)) (cL (by simp) (by simp) ?_)
 refine rn ?_;simp;refine aM Tryz.func15 rfl rfl (args':=[ints [0],ints [0]]) (.cons (.refl _) (.cons (bQ 1 [int 0] .exact) .nil)) (cL (by simp) (by simp) ?_)
 refine rn ?_;simp;refine aM Tryz.func15 rfl rfl (args':=[ints [0],ints [0]]) (.cons (.refl _) (.cons (bQ 1 [int 0] .exact) .nil)) (cL (by simp) (by simp) ?_)
 refine af.runN lay [] 6 ?_;simp;refine af.sG (λ_=>True) trivial ?_
 clear env
 rintro env -
 refine rn ?_;simp;refine cf Tryz.func32 rfl (G _ _ ?_);refine rn ?_;simp;refine cf Tryz.func23 rfl (z0 _ _ ?_);refine rn ?_;simp;refine cf Tryz.func32 rfl (G _ _ ?_);refine rn ?_;simp;refine cf Tryz.func23 rfl (z2 _ _ ?_);refine rn ?_;simp;refine cf Tryz.func32 rfl (G _ _ ?_);refine rn ?_;simp;refine cf Tryz.func23 rfl (z4 _ _ ?_);refine rn ?_;simp;refine cf Tryz.func32 rfl (G _ _ ?_);refine rn ?_;simp
 refine cf Tryz.func30 rfl (vd _ _ ?_);refine rn ?_;simp;refine cf Tryz.func32 rfl (G _ _ ?_);refine rn ?_;simp;refine cf Tryz.func25 rfl (hr _ _ ?_);refine rn ?_;simp;refine cf Tryz.func32 rfl (G _ _ ?_);refine rn ?_;simp;refine cf Tryz.func26 rfl (st _ _ ?_);refine rn ?_;simp;refine aM Tryz.func35 rfl rfl (.cons (.refl _) (.cons (bQ 2 [jm (10,72)] .exact) .nil)) (SR.pV (a:=[(10,72)]) (b:=[(10,72)]) (by simp) (by simp) ?_)
 refine af.runN lay [] 6 ?_;simp;refine af.sG (λ_=>True) trivial ?_
 clear env
 rintro env -
 refine rn ?_;simp;refine cf Tryz.func32 rfl (G _ _ ?_);refine rn ?_;simp;refine aM Tryz.func37 rfl rfl (args':=[int 0,int 0,int 3,int 10,int 0,ints []]) (.cons (.refl _) (.cons (.refl _) (.cons (.refl _) (.cons (.refl _) (.cons (.refl _) (.cons (cz 1) .nil)))))) (cC ?_);refine rn ?_;simp;refine cf Tryz.func36 rfl (ft _ _ ?_);refine rn ?_;simp
 refine aM Tryz.func37 rfl rfl (args':=[int 1,int 1,int 2,int 14,int 0,ints []]) (.cons (.refl _) (.cons (.refl _) (.cons (.refl _) (.cons (.refl _) (.cons (.refl _) (.cons (cz 1) .nil)))))) (cC ?_);refine af.runN lay [] 4 ?_;simp;refine bq.intro λfu ee=>?_
 simp[aL];refine af.aV 24 (b:=fu) (bM jb) (aa.ao _ _ _) (by simp) rfl ?_
 rw[dz ee];refine af.sG (λenv=>env 6=int 9/\env 24=.cp (bM jb) 0) ⟨by simp,by simp⟩ ?_
 clear env ee
 rintro env ⟨e6,uA⟩
 apply OG (I:=λenv σ'=>∃d,env 6=int 9/\env 24=.cp (bM jb) 0/\env 25=.ref d 0/\env 8=int 0/\σ' d=some (.cells (pv M)))
 . intro W
   refine rn ?_;simp[uA];refine⟨?_,?_⟩
   . refine cf Tryz.func32 rfl (G _ _ ?_)
     refine pg ?_;simp;refine⟨?_,?_⟩
     . refine cf Tryz.func36 rfl (ca _ _ ?_)
       refine pg ?_;simp;refine po.intro (dst:=some 25) λd hd=>?_
       simp[aL];exact W _ _ ⟨d,by simp[e6],by simp[uA],by simp,by simp,by simp⟩
     . refine po.intro (dst:=some 25) λd hd=>?_
       simp;refine cf Tryz.func36 rfl (ca _ _ ?_);refine pg ?_;simp[aL];exact W _ _ ⟨d,by simp[e6],by simp[uA],by simp,by simp,by simp⟩
   . refine po.intro (dst:=some 25) λd hd=>?_
     simp;refine cf Tryz.func32 rfl (G _ _ ?_);refine pg ?_;simp;refine cf Tryz.func36 rfl (ca _ _ ?_);refine pg ?_;simp[aL];exact W _ _ ⟨d,by simp[e6],by simp[uA],by simp,by simp,by simp⟩
 clear e6 uA env
 rintro env fv ⟨d,e6,uA,b9,e8,hd⟩
 refine af.aV 25 (b:=d) (aT M) hd b9 rfl ?_;generalize fv.del d=fw;refine af.mH (λenv _=>env 6=int 9/\env 24=.cp (bM jb) 0/\env 25=.cp (aT M) 0/\env 8=int 0) ?_ ?_
 . simp_all
 clear e6 uA b9 e8 env
 rintro env fO ⟨e6,uA,b9,e8⟩
 refine rn ?_;simp[uA];refine cf Tryz.func32 rfl (G _ _ ?_);refine pg ?_;simp;refine cf Tryz.func38 rfl (wi _ _ ?_);refine pg ?_;simp;refine cf Tryz.func22 rfl (ar _ _ ?_);refine pg ?_;simp;refine rn ?_;simp[e6,uA,b9,e8];refine cf Tryz.func32 rfl (G _ _ ?_);refine pg ?_;simp;refine cf Tryz.func38 rfl (wi _ _ ?_);refine pg ?_;simp;refine cf Tryz.func39 rfl (sw _ _ ?_);refine pg ?_;simp;refine rn ?_;simp;exact .done (h _)
end CN
end Go.Proofs.YtkcceaplmgdnfaaGreatDoor
