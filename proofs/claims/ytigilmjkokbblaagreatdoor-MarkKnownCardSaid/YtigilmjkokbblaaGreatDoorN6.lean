/- Part 6 of the proof. -/
import Derived.Test.YtigilmjkokbblaaGreatDoorN5
set_option linter.all false
namespace Go.Proofs.YtigilmjkokbblaaGreatDoor
open Go.bd Go.Conc
set_option maxHeartbeats 2000000
set_option maxRecDepth 4000
variable{m:Mo}{σ:aa}{KF:dV->aa->Prop}
theorem CY{l:List Int}(f:l.length<=1000000000)(h:KF (.val (ints l)) σ):aB Tryz.prog m 77 [ints l] σ KF:=by
 by_cases b:l=[]
 . subst b
   refine aB.thaw ?_;refine aB.start lay [] [] 1 Tryz.func77 rfl rfl (by rfl) (by kernel_rfl) ?_;simp[Tryz.f77];refine Bj (es:=[]) (sp:=.any) (kk:=1) lay rfl cK rfl rfl ?_ (.inl rfl) (λ_=>?_) ?_
   . simp
   . have d:(BinOp.eql==BinOp.eql)=true:=rfl
     refine ab.run lay [] ?_;simp[d];exact .done (.iI (cW 1) (.done h))
   . have d:(BinOp.eql==BinOp.neq)=false:=rfl
     refine ab.run lay [] ?_;simp[d];refine eG lay rfl rfl rfl cK rfl cK rfl rl (by decide) (by simp) (σ0:=σ) (es:=[]) (xs:=([]:List Int).map int) (.empty σ 1) (.inl (.inr ⟨_,by simp;rfl⟩)) (by simp) λg c e=>?_
     refine ab.run lay [] ?_;simp;exact .done ((show bw σ c g 1 (([]:List Int).map int)by simpa using e).thaw h)
 . exact(zQ b f λa c e=>e.thaw h).thaw
theorem N7{σ0 σ:aa}{a:AV}{kk:Nat}{es:List AV}(h:Tok σ0 σ a kk es)(c:es≠[]):∃sp,a=.sl kk es sp:=by
 rcases h.2 with⟨_,q⟩|q|⟨b,e,_,q,_⟩
 . exact absurd q c
 . exact⟨_,q⟩
 . exact⟨_,q⟩
def CZ(f:Fr)(n:gX):List AV:=if ao f []≠[]/\ao (fu f n) []=[]then[.agg lV,int 9]else[aC (fu f n),int 0]
namespace AD
abbrev Kd:List Entry:=[⟨17,.take [0,2,5,9,13] false (.both 1 (.both 3 (.take [4] false (.both 6 (.take [7] false (.both 8 (.one 10 (.one 11 (.take [12] true (.done)))) (.one 10 (.one 8 (.one 11 (.take [12] true (.done))))))) (.one 10 (.one 6 (.take [7] false (.one 8 (.one 11 (.take [12] true (.done))))))))) (.both 6 (.take [7] false (.both 3 (.take [4] false (.both 8 (.one 10 (.one 11 (.take [12] true (.done)))) (.one 10 (.one 8 (.one 11 (.take [12] true (.done))))))) (.one 10 (.one 3 (.take [4] false (.one 8 (.one 11 (.take [12] true (.done))))))))) (.one 10 (.both 3 (.take [4] false (.one 6 (.take [7] false (.one 8 (.one 11 (.take [12] true (.done))))))) (.one 6 (.take [7] false (.one 3 (.take [4] false (.one 8 (.one 11 (.take [12] true (.done)))))))))))) (.both 3 (.take [4] false (.both 1 (.both 6 (.take [7] false (.both 8 (.one 10 (.one 11 (.take [12] true (.done)))) (.one 10 (.one 8 (.one 11 (.take [12] true (.done))))))) (.one 10 (.one 6 (.take [7] false (.one 8 (.one 11 (.take [12] true (.done)))))))) (.both 6 (.take [7] false (.both 1 (.both 8 (.one 10 (.one 11 (.take [12] true (.done)))) (.one 10 (.one 8 (.one 11 (.take [12] true (.done)))))) (.one 10 (.one 1 (.one 8 (.one 11 (.take [12] true (.done)))))))) (.one 10 (.both 1 (.one 6 (.take [7] false (.one 8 (.one 11 (.take [12] true (.done)))))) (.one 6 (.take [7] false (.one 1 (.one 8 (.one 11 (.take [12] true (.done)))))))))))) (.both 6 (.take [7] false (.both 1 (.both 3 (.take [4] false (.both 8 (.one 10 (.one 11 (.take [12] true (.done)))) (.one 10 (.one 8 (.one 11 (.take [12] true (.done))))))) (.one 10 (.one 3 (.take [4] false (.one 8 (.one 11 (.take [12] true (.done)))))))) (.both 3 (.take [4] false (.both 1 (.both 8 (.one 10 (.one 11 (.take [12] true (.done)))) (.one 10 (.one 8 (.one 11 (.take [12] true (.done)))))) (.one 10 (.one 1 (.one 8 (.one 11 (.take [12] true (.done)))))))) (.one 10 (.both 1 (.one 3 (.take [4] false (.one 8 (.one 11 (.take [12] true (.done)))))) (.one 3 (.take [4] false (.one 1 (.one 8 (.one 11 (.take [12] true (.done)))))))))))) (.one 10 (.both 1 (.both 3 (.take [4] false (.one 6 (.take [7] false (.one 8 (.one 11 (.take [12] true (.done))))))) (.one 6 (.take [7] false (.one 3 (.take [4] false (.one 8 (.one 11 (.take [12] true (.done))))))))) (.both 3 (.take [4] false (.both 1 (.one 6 (.take [7] false (.one 8 (.one 11 (.take [12] true (.done)))))) (.one 6 (.take [7] false (.one 1 (.one 8 (.one 11 (.take [12] true (.done))))))))) (.one 6 (.take [7] false (.both 1 (.one 3 (.take [4] false (.one 8 (.one 11 (.take [12] true (.done)))))) (.one 3 (.take [4] false (.one 1 (.one 8 (.one 11 (.take [12] true (.done))))))))))))))))⟩]
theorem N8(hs:m.solo=true){f:Fr}{n:gX}(hf:f.Fits)(hc:check f=0)(h5:f.aA.length<6)(hn:bf f.roads.length n=0)(hm:n.marks.length<=1000)(b9:∀e∈f.aA,e.marks.length<=1000)(ay:∀r∈f.roads,r.length<=1000000000)(cv:f.roads.length<=1000)(h:KF (.val (.bG (CZ f n))) σ):aB Tryz.prog m 34 [aC f,aW n] σ KF:=by
 have hg:=Fr.hQ hf hc;have ho:=kz hc;have dd:=hf.roads;have bq:=HU hg hn (by omega) h5
 refine aB.start lay [2] Kd 2 Tryz.func34 rfl rfl (by rfl) (by kernel_rfl) ?_
 simp[Tryz.f34];refine bL.intro λG h2=>?_
 simp;refine bL.intro λH h4=>?_
 obtain⟨z1,z2,h4⟩:=aa.aF h4;simp[z1,z2,aa.ag];generalize L:(σ.set G (.cells (bO f))).set H (.cells lV)=N;have a7:σ.Le N:=by subst L;exact aa.dg (aa.dg (aa.le_refl _) h2) (by rw[aa.ag _ _ z1];exact h4)
 have T:N G=some (.cells (bO f)):=by subst L;simp[aa.ag,aa.ak,z1,z2]
 have b4:N H=some (.cells lV):=by subst L;simp[aa.ak]
 have hW:Wl [AV.agg (bO f),AV.lit (.slice none 0 0)] [aC f,ints []]:=.cons (.refl _) (.cons (cW 1) .nil);refine aH Tryz.func49 rfl rfl hW (gq hf (by simp) (λq=>absurd ho q) λ_ b mb C o=>?_)
 have hu:yA b 6 mb .u8 (dF f) C:=by rw[o.eq];exact⟨aa.ak _ _ _,[],(aa.ag _ _ (Ne.symm o.ne)).trans (aa.ak _ _ _),λn a h=>by simp[gY]at h⟩
 have k2:=o.le _ _ T;have k4:=o.le _ _ b4;have a8:G≠b:=λe=>by rw[e,o.hb]at T;cases T
 have a9:G≠mb:=λe=>by rw[e,o.vy]at T;cases T
 have bz:H≠b:=λe=>by rw[e,o.hb]at b4;cases b4
 have bA:H≠mb:=λe=>by rw[e,o.vy]at b4;cases b4
 have Y:σ.Le C:=aa.le_trans a7 λy x E=>o.le y x E
 have q6:((f.aA.length:Int)==6)=false:=by rw[beq_eq_false_iff_ne];omega
 refine ab.run lay [2] ?_;simp[k2,q6];refine an Tryz.func55 rfl rfl (m7 ⟨by omega,by omega⟩ (by omega) ?_)
 rw[hn];refine ab.run lay [2] ?_;simp[k2];refine ab.loop f.roads.length (λk s=>∃env w,s=⟨env,w,[],.no⟩/\env 2=.ref G 0/\env 3=.cp (aW n) 0/\env 4=.ref H 0/\env 6=iu b mb f 0/\env 39=rows f.roads/\env 40=int f.roads.length/\env 41=int k/\Tok C w (env 9) 1 ((f.roads.take k).map ints)) ⟨_,C,rfl,by simp,by simp,by simp,by simp,by simp,by simp,by simp,by simpa using Tok.nil C 1⟩ ?_
 rintro k0 k _ hk ⟨env,w,rfl,p,K,t,u,A,B,z,d⟩ ih
 have c:=d.cells
 rcases Nat.lt_or_ge k f.roads.length with g1|g1
 . have ad:(k:Int)<f.roads.length:=by omega
   have f1:-9223372036854775808<=(k:Int)+1/\(k:Int)+1<=9223372036854775807:=by omega
   refine ab.run lay [2] ?_;simp[p,K,t,u,A,B,z,c.1,c.2,g1,ad];refine an Tryz.func77 rfl rfl (CY (ay _ (List.getElem_mem g1)) ?_);refine ab.run lay [2] ?_;simp[p,K,t,u,A,B,z,c.1,c.2];refine aS lay rfl rfl rfl jO rfl jO rfl cK (by decide) (by simp;omega) (σ0:=C) (es:=(f.roads.take k).map ints) (xs:=[ints f.roads[k]]) (by simpa using d) (.inr ⟨_,by simp;rfl⟩) λa' dj O=>?_
   have D:=O.cells;refine ab.run lay [] ?_;simp[z,f1.1,f1.2,D.1,D.2];refine ih _ g1 ⟨_,_,rfl,by simp[p,K,t,u,A,B,z,c.1,c.2],by simp[p,K,t,u,A,B,z,c.1,c.2],by simp[p,K,t,u,A,B,z,c.1,c.2],by simp[p,K,t,u,A,B,z,c.1,c.2],by simp[p,K,t,u,A,B,z,c.1,c.2],by simp[p,K,t,u,A,B,z,c.1,c.2],by simp,?_⟩
   rw[List.take_succ_eq_append_getElem g1,List.map_append];simpa using O
 . have al : k = f.roads.length:=by omega
   subst al;rw[List.take_length]at d;refine ab.zt 9 (a':=rows f.roads) (by simpa using d.W) ?_
   refine ab.weaken (σ:=C) ?_ d.1;clear ih d c;obtain⟨F,P⟩:∃F,F=C.set G (.cells (bO f)):=⟨_,rfl⟩;refine ab.run lay [2] ?_;simp[p,K,t,u,A,B,z,k2,aG];simp only[<-P];apply sH (I:=λenv av=>∃Q,env 2=.ref G 0/\env 3=.cp (aW n) 0/\env 4=.ref H 0/\env 6=iu b mb f 0/\env 12=.lit (.slice none 0 0)/\env 64=.sl 6 (f.aA.map aW++[aW n]) Q/\env 65=int ((f.aA.length:Int)+1)/\env 66=int 0/\Tok F av (.sl 6 (f.aA.map aW++[aW n]) Q) 6 (f.aA.map aW++[aW n]))
   . intro ax
     repeat' (first
               |apply And.intro
               | (refine pC lay rfl ko rfl rp (es:=f.aA.map aW) (sp:=.any) (l:=0) (h:=f.aA.length) (by simp) (λcap b0=>⟨⟨⟨.i64,by simp⟩,by simpa using b0⟩,⟨⟨.i64,by simp⟩,Nat.le_refl _⟩,rfl⟩) (by simp) λa hq=>?_
                  have R:Tok F F a 6 (f.aA.map aW):=by
                   rcases hq with rfl|⟨h1,rfl⟩
                   . have:List.take (f.aA.length-0) (List.drop 0 (f.aA.map aW))=f.aA.map aW:=by rw[List.drop_zero,List.take_of_length_le (by simp)]
                     rw[this];exact⟨aa.le_refl _,.inr (.inl rfl)⟩
                   . exact⟨aa.le_refl _,.inl ⟨rfl,h1⟩⟩
                  have b1:=R.cells;clear hq;refine aU.go lay [] ?_;simp[b1.1,b1.2])
               | (refine aS lay rfl rfl rfl ko rfl ko rfl rp (by decide) (by simp;omega) (σ0:=F) (es:=f.aA.map aW) (xs:=[aW n]) (by simpa using R) (.inr ⟨_,by simp;rfl⟩) λa2 av b3=>?_
                  obtain⟨Q,rfl⟩:=N7 b3 (by simp)
                  refine aU.go lay [] ?_;simp;refine ax _ _ ?_;refine⟨Q,?_,?_,?_,?_,?_,?_,?_,?_,?_⟩
                  all_goals first|exact b3|simp[p,K,t,u]))
   rintro env av ⟨Q,p,K,t,u,jA,i,j,g,d⟩
   obtain⟨M,hM⟩:∃M,M=(fu f n).aA:=⟨_,rfl⟩;have bB:M.length=f.aA.length+1:=by rw[hM];simp[fu]
   have c5:M.map aW=f.aA.map aW++[aW n]:=by rw[hM];simp[fu]
   rw[<-c5]at i d
   have c6:∀e∈M,e.marks.length<=1000000000:=λe he=>by
    rw[hM]at he
    rcases List.mem_append.1 he with he|he
    . have:=b9 e he;omega
    . simp at he;subst he;omega
   refine ab.zt 64 (a':=iQ M) (by rw[i];exact ck 6 _ _) ?_
   refine ab.weaken (σ:=F) ?_ d.1;have s2:F G=some (.cells (bO f)):=by rw[P];exact aa.ak _ _ _
   have s4:F H=some (.cells lV):=by rw[P,aa.ag _ _ z1];exact k4
   have c7:yA b 6 mb .u8 (dF f) F:=by rw[P];exact jr hu (aa.ag _ _ (Ne.symm a8)) (aa.ag _ _ (Ne.symm a9))
   have Z:σ.Le F:=by rw[P];exact aa.ia Y h2
   clear d i;have S:env 65=int M.length:=by rw[j,bB];simp
   refine ab.run lay [2] ?_;simp[p,K,t,u,jA,S,g];refine ab.loop M.length (λk s=>∃env w,s=⟨env,w,[],.no⟩/\env 2=.ref G 0/\env 4=.ref H 0/\env 6=iu b mb f 0/\env 64=iQ M/\env 65=int M.length/\env 66=int k/\Tok F w (env 12) 6 ((M.take k).map aW)) ⟨_,F,rfl,by simp[p],by simp[t],by simp[u],by simp,by simp[S],by simp[g],by simpa[jA]using Tok.nil F 6⟩ ?_
   clear p K t u jA j S g
   rintro k0 k _ hk ⟨env,w,rfl,p,t,u,i,j,g,d⟩ ih
   have c:=d.cells
   rcases Nat.lt_or_ge k M.length with g1|g1
   . have ad:(k:Int)<M.length:=by omega
     have f1:-9223372036854775808<=(k:Int)+1/\(k:Int)+1<=9223372036854775807:=by omega
     refine ab.run lay [2] ?_;simp[p,t,u,i,j,g,c.1,c.2,g1,ad];refine bL.intro λdr c8=>?_
     simp[p,t,u,i,j,g,c.1,c.2];refine an Tryz.func77 rfl rfl (CY (c6 _ (List.getElem_mem g1)) ?_);refine ab.run lay [2] ?_;simp[p,t,u,i,j,g,c.1,c.2,aG];refine aS lay rfl rfl rfl ko rfl ko rfl rp (by decide) (by simp;omega) (σ0:=F) (es:=(M.take k).map aW) (xs:=[aW M[k]]) (by simpa using d.up (aa.dg (aa.le_refl _) c8)) (.inr ⟨_,by simp;rfl⟩) λa' dx O=>?_
     have D:=O.cells;refine ab.run lay [] ?_;simp[g,f1.1,f1.2,D.1,D.2];refine ih _ g1 ⟨_,_,rfl,by simp[p,t,u,i,j,g,c.1,c.2],by simp[p,t,u,i,j,g,c.1,c.2],by simp[p,t,u,i,j,g,c.1,c.2],by simp[p,t,u,i,j,g,c.1,c.2],by simp[p,t,u,i,j,g,c.1,c.2],by simp,?_⟩
     rw[List.take_succ_eq_append_getElem g1,List.map_append];simpa using O
   . have al:k=M.length:=by omega
     subst al;rw[List.take_length]at d;refine ab.zt 12 (a':=iQ M) (by simpa using d.W) ?_
     refine ab.weaken (σ:=F) ?_ d.1;clear ih d c;subst hM;refine ab.run lay [2] ?_;simp[p,t,u,i,j,g,s2,aG];refine an Tryz.func74 rfl rfl (sK (fS nH nI tO hs o.ne) hg (jr c7 (aa.ag _ _ (Ne.symm a8)) (aa.ag _ _ (Ne.symm a9))) λdy e0 q5=>?_)
     have p2:=q5 G _ (aa.ak _ _ _) a8 (.inl a9);have p4:=q5 H _ ((aa.ag _ _ z1).trans s4) bz (.inl bA)
     by_cases J:ao f []=[]
     . rw[show decide (ao f []≠[])=false by simp[J],]
       rw[show CZ f n=[aC (fu f n),int 0]by simp[CZ,J]]at h
       refine ab.run lay [2] ?_;simp[p,t,u,i,j,g,p2,p4,aG];refine .less (λy x E=>?_) (.done h)
       have y2:y≠G:=λe=>by subst e;rw[h2]at E;cases E
       have y4:y≠H:=λe=>by subst e;rw[h4]at E;cases E
       have U:N y=some x:=a7 y x E;have yb:y≠b:=λe=>by rw[e,o.hb]at U;cases U
       have ym:y≠mb:=λe=>by rw[e,o.vy]at U;cases U
       rw[aa.ag _ _ y4];exact q5 y x ((aa.ag _ _ y2).trans (Z y x E)) yb (.inl ym)
     refine ab.run lay [2] ?_;simp[p,t,u,i,j,g,J,p2];refine an Tryz.func72 rfl rfl (rB (f:=fu f n) λT V ca v=>?_)
     have cb:yA T 6 V .u8 (dF (fu f n)) ca:=by rw[v.eq];exact⟨aa.ak _ _ _,[],(aa.ag _ _ (Ne.symm v.ne)).trans (aa.ak _ _ _),λn a h=>by simp[gY]at h⟩
     have r2:=v.le _ _ p2;have r4:=v.le _ _ p4;have b5:G≠T:=λe=>by rw[e,v.hb]at p2;cases p2
     have b6:G≠V:=λe=>by rw[e,v.vy]at p2;cases p2
     have b7:H≠T:=λe=>by rw[e,v.hb]at p4;cases p4
     have b8:H≠V:=λe=>by rw[e,v.vy]at p4;cases p4
     refine ab.run lay [2] ?_;simp[p,t,u,i,j,g];refine an Tryz.func74 rfl rfl (sK (fS nH nI tO hs v.ne) bq cb λcg e7 q7=>?_)
     have t2:=q7 G _ r2 b5 (.inl b6);have t4:=q7 H _ r4 b7 (.inl b8)
     have fin:∀X,σ.Le (cg.set H X):=λX y x E=>by
      have y2:y≠G:=λe=>by subst e;rw[h2]at E;cases E
      have y4:y≠H:=λe=>by subst e;rw[h4]at E;cases E
      have x1:=Y y x E;have U:N y=some x:=a7 y x E;have yb:y≠b:=λe=>by rw[e,o.hb]at U;cases U
      have ym:y≠mb:=λe=>by rw[e,o.vy]at U;cases U
      have x5:=q5 y x ((aa.ag _ _ y2).trans (Z y x E)) yb (.inl ym);have cl:y≠T:=λe=>by rw[e,v.hb]at x5;cases x5
      have cm:y≠V:=λe=>by rw[e,v.vy]at x5;cases x5
      rw[aa.ag _ _ y4];exact q7 y x (v.le y x x5) cl (.inl cm)
     by_cases hw:ao (fu f n) []=[]
     . rw[show decide (ao (fu f n) []≠[])=false by simp[hw]]
       rw[show CZ f n=[.agg lV,int 9]by simp[CZ,hw,J]]at h
       refine ab.run lay [2] ?_;simp[p,t,u,i,j,g,t4,aG];exact .less (fin _) (.done h)
     . rw[show decide (ao (fu f n) []≠[])=true by simp[hw]]
       rw[show CZ f n=[aC (fu f n),int 0]by simp[CZ,hw]]at h
       refine ab.run lay [2] ?_;simp[p,t,u,i,j,g,t2,t4,aG];exact .less (fin _) (.done h)
end AD
end Go.Proofs.YtigilmjkokbblaaGreatDoor
namespace Go.Proofs.YtigilmjkokbblaaGreatDoor
open Go.bd Go.Conc
set_option maxHeartbeats 1000000
set_option maxRecDepth 4000
variable{m:Mo}{σ:aa}{KF:dV->aa->Prop}
def Kn:Fr:=⟨[],[],0,0,0,0⟩
def E7(f:Fr)(n:gX):Fr × Int:=if check f≠0 then(Kn,check f)else if f.aA.length=6 then(Kn,6)else if bf f.roads.length n≠0 then(Kn,bf f.roads.length n)else if ao f []≠[]/\ao (fu f n) []=[]then(Kn,9)else(fu f n,0)
theorem Gx(e:AV):(AV.bG [.agg lV,e]).W (.bG [aC Kn,e]):=wQ rfl λi x y c d=>by
 match i with
 | 0=>
   simp at c d;subst c;subst d
   exact lT rfl λi x y a b=>by
    match i with
    |0=>simp[Kn]at a b;subst a;subst b;exact cW 6
    |1=>simp[Kn]at a b;subst a;subst b;exact cW 1
    |2=>simp[Kn]at a b;subst a;subst b;exact .refl _
    |3=>simp[Kn]at a b;subst a;subst b;exact .refl _
    |4=>simp[Kn]at a b;subst a;subst b;exact .refl _
    |5=>simp[Kn]at a b;subst a;subst b;exact .refl _
    |i+6=>simp at a
 |1=>simp at c d;subst c;subst d;exact .refl _
 |i+2=>simp at c
theorem Gy(N:m.solo=true){f:Fr}{n:gX}(t:f.Fits)(O:n.marks.length<=1000)(I:∀e∈f.aA,e.marks.length<=1000)(A:∀r∈f.roads,r.length<=1000000000)(J:f.roads.length<=1000)(h:KF (.val (.bG [aC (E7 f n).1,int (E7 f n).2])) σ):aB Tryz.prog m 34 [aC f,aW n] σ KF:=by
 have P:=t.roads;have Q:=t.aA;unfold E7 at h
 by_cases o:check f=0
 . have R:=Fr.hQ t o
   have S:=R.vw;rw[if_neg (by simp[o])]at h
   have B:=kz o
   by_cases M:f.aA.length=6
   . rw[if_pos M]at h
     refine aB.start lay [2] Kd 2 Tryz.func34 rfl rfl (by rfl) (by kernel_rfl) ?_
     simp[Tryz.f34];refine bL.intro λp C=>?_
     simp;refine bL.intro λi g=>?_
     obtain⟨j,s,g⟩:=aa.aF g;simp[j,s,aa.ag];generalize a:(σ.set p (.cells (bO f))).set i (.cells lV)=c;have k:σ.Le c:=by subst a;exact aa.dg (aa.dg (aa.le_refl _) C) (by rw[aa.ag _ _ j];exact g)
     have D:c p=some (.cells (bO f)):=by subst a;simp[aa.ag,aa.ak,j,s]
     have E:c i=some (.cells lV):=by subst a;simp[aa.ak]
     have F:Wl [AV.agg (bO f),AV.lit (.slice none 0 0)] [aC f,ints []]:=.cons (.refl _) (.cons (cW 1) .nil);refine aH Tryz.func49 rfl rfl F (gq t (by simp) (λq=>absurd B q) λ_ b mb u d=>?_)
     have w:=d.le _ _ D;have z:=d.le _ _ E
     have fin:∀X,σ.Le (u.set i X):=λX y x l=>by
      have G:y≠i:=λe=>by subst e;rw[g]at l;cases l
      rw[aa.ag _ _ G];exact d.le y x (k y x l)
     refine ab.run lay [2] ?_;simp[w,z,aG];have v:((f.aA.length:Int)==6)=true:=beq_iff_eq.2 (by omega)
     simp[v,w,z,aG];exact .less (fin _) (.iI (Gx _) (.done h))
   . rw [if_neg M]at h
     by_cases H:bf f.roads.length n=0
     . rw[if_neg (by simp[H])]at h
       refine aB.thaw (AD.N8 N t o (by omega) H O I A J ?_)
       unfold CZ;split
       . next q=>rw[if_pos q]at h;exact .iI (Gx _) (.done h)
       . next q=>rw[if_neg q]at h;exact .done h
     . rw[if_pos H]at h
       have K:(bf f.roads.length n !=0)=true:=by simpa using H
       have v:((f.aA.length:Int)==6)=false:=by rw[beq_eq_false_iff_ne];omega
       refine aB.start lay [2] Kd 2 Tryz.func34 rfl rfl (by rfl) (by kernel_rfl) ?_
       simp[Tryz.f34];refine bL.intro λp C=>?_
       simp;refine bL.intro λi g=>?_
       obtain⟨j,s,g⟩:=aa.aF g;simp[j,s,aa.ag];generalize a:(σ.set p (.cells (bO f))).set i (.cells lV)=c;have k:σ.Le c:=by subst a;exact aa.dg (aa.dg (aa.le_refl _) C) (by rw[aa.ag _ _ j];exact g)
       have D:c p=some (.cells (bO f)):=by subst a;simp[aa.ag,aa.ak,j,s]
       have E:c i=some (.cells lV):=by subst a;simp[aa.ak]
       have F:Wl [AV.agg (bO f),AV.lit (.slice none 0 0)] [aC f,ints []]:=.cons (.refl _) (.cons (cW 1) .nil);refine aH Tryz.func49 rfl rfl F (gq t (by simp) (λq=>absurd B q) λ_ b mb u d=>?_)
       have w:=d.le _ _ D;have z:=d.le _ _ E
       have fin:∀X,σ.Le (u.set i X):=λX y x l=>by
        have G:y≠i:=λe=>by subst e;rw[g]at l;cases l
        rw[aa.ag _ _ G];exact d.le y x (k y x l)
       refine ab.run lay [2] ?_;simp[w,z,aG];simp[v,w,z,aG];refine an Tryz.func55 rfl rfl (m7 ⟨by omega,by omega⟩ (by omega) ?_)
       refine ab.run lay [2] ?_;simp[K,w,z,aG];exact .less (fin _) (.iI (Gx _) (.done h))
 . rw[if_pos o]at h
   have B:ba f []=check f:=by unfold ba;rw[if_pos o]
   have L:(check f !=0)=true:=by simpa using o
   refine aB.start lay [2] Kd 2 Tryz.func34 rfl rfl (by rfl) (by kernel_rfl) ?_
   simp[Tryz.f34];refine bL.intro λp C=>?_
   simp;refine bL.intro λi g=>?_
   obtain⟨j,s,g⟩:=aa.aF g;simp[j,s,aa.ag];generalize a:(σ.set p (.cells (bO f))).set i (.cells lV)=c;have k:σ.Le c:=by subst a;exact aa.dg (aa.dg (aa.le_refl _) C) (by rw[aa.ag _ _ j];exact g)
   have D:c p=some (.cells (bO f)):=by subst a;simp[aa.ag,aa.ak,j,s]
   have E:c i=some (.cells lV):=by subst a;simp[aa.ak]
   have F:Wl [AV.agg (bO f),AV.lit (.slice none 0 0)] [aC f,ints []]:=.cons (.refl _) (.cons (cW 1) .nil);refine aH Tryz.func49 rfl rfl F (gq t (by simp) (λ_=>?_) λq=>absurd (B ▸ q) o)
   rw[B];refine ab.run lay [2] ?_;simp[L,D,E,aG];refine .less (λy x l=>?_) (.iI (Gx _) (.done h))
   have G:y≠i:=λe=>by subst e;rw[g]at l;cases l
   rw[aa.ag _ _ G];exact k y x l
end Go.Proofs.YtigilmjkokbblaaGreatDoor
namespace Go.Proofs.YtigilmjkokbblaaGreatDoor
open Go.bd Go.Conc
set_option maxHeartbeats 2000000
set_option maxRecDepth 4000
variable{m:Mo}{σ:aa}{KF:dV->aa->Prop}
def C0(f:Fr):List Int × Int × Int:=if aV f false 0 0≠0 then([],0,aV f false 0 0)else(((ao f []).foldl fg none).getD [],aM (((ao f []).foldl fg none).getD []),0)
theorem Ko{f:Fr}(h:KF (.val (.bG [ints (C0 f).1,int (C0 f).2.1,int (C0 f).2.2])) σ):(aV f false 0 0≠0->KF (.val (.bG [ints [],int 0,int (aV f false 0 0)])) σ)/\∀w,aV f false 0 0=0->(ao f []).foldl fg none=some w->KF (.val (.bG [ints w,int (aM w),int 0])) σ:=by
 unfold C0 at h;refine⟨λq=>?_,λw q a=>?_⟩
 . rw[if_pos q]at h;exact h
 . rw[if_neg (by simp[q]),a]at h;exact h
theorem Kr(a:m.solo=true){f:Fr}(b:f.Fits)(h:KF (.val (.bG [ints (C0 f).1,int (C0 f).2.1,int (C0 f).2.2])) σ):aB Tryz.prog m 27 [aC f] σ KF:=E6 a b (Ko h).1 (Ko h).2
def tV(f:Fr):List Int × Int:=if check f≠0 then([],check f)else((jq f).getD [],0)
theorem C1{f:Fr}{w:List Int}(a:jq f=some w)(h:KF (.val (.bG [ints (tV f).1,int (tV f).2])) σ):(check f≠0->KF (.val (.bG [ints [],int (check f)])) σ)/\(check f=0->jq f=some w->KF (.val (.bG [ints w,int 0])) σ):=by
 unfold tV at h;refine⟨λq=>?_,λq a=>?_⟩
 . rw[if_pos q]at h;exact h
 . rw[if_neg (by simp[q]),a]at h;exact h
theorem N9(b:m.solo=true){f:Fr}(c:f.Fits)(h:KF (.val (.bG [ints (tV f).1,int (tV f).2])) σ):aB Tryz.prog m 32 [aC f] σ KF:=by obtain⟨w,a⟩:=EU f;exact HW b c (C1 a h).1 (C1 a h).2 a
def zS(g:Nat × Nat->Int)(all:Int):Option (Nat × Nat)->Int × Int × Int × Int
 |none=>(0,0,0,11)
 |some q=>if g q<all then((q.1:Int),(q.2:Int),g q,0)else(0,0,0,11)
theorem HX(g:Nat × Nat->Int)(all:Int)(o:Option (Nat × Nat)):ow g all o=[int (zS g all o).1,int (zS g all o).2.1,int (zS g all o).2.2.1,int (zS g all o).2.2.2]:=by
 cases o with
 |none=>rfl
 |some q=>by_cases h:g q<all<;>simp[ow,zS,h]
def xf(f:Fr):Int × Int × Int × Int:=if aV f false 0 0≠0 then(0,0,0,aV f false 0 0)else zS (ov (ao f [])) (ao f []).length ((ib f.aA.length f.aA.length).foldl (cY (ov (ao f []))) none)
abbrev xg(f:Fr):AV:=.bG [int (xf f).1,int (xf f).2.1,int (xf f).2.2.1,int (xf f).2.2.2]
theorem Gz{f:Fr}(h:KF (.val (xg f)) σ):(aV f false 0 0≠0->KF (.val (.bG [int 0,int 0,int 0,int (aV f false 0 0)])) σ)/\(aV f false 0 0=0->KF (.val (.bG (ow (ov (ao f [])) (ao f []).length ((ib f.aA.length f.aA.length).foldl (cY (ov (ao f []))) none)))) σ):=by
 unfold xg xf at h;refine⟨λq=>?_,λq=>?_⟩
 . rw[if_pos q]at h;exact h
 . rw[if_neg (by simp[q])]at h
   rw[HX];exact h
theorem Ks(a:m.solo=true){f:Fr}(b:f.Fits)(h:KF (.val (xg f)) σ):aB Tryz.prog m 33 [aC f] σ KF:=Km a b (Gz h).1 (Gz h).2
def oz(f:Fr):List Int × Int:=if aV f false 0 0≠0 then([],aV f false 0 0)else((aX (fA (ao f [])) f.aA.length).1,0)
theorem zT{f:Fr}(h:KF (.val (.bG [ints (oz f).1,int (oz f).2])) σ):(aV f false 0 0≠0->KF (.val (.bG [ints [],int (aV f false 0 0)])) σ)/\(aV f false 0 0=0->KF (.val (.bG [ints (aX (fA (ao f [])) f.aA.length).1,int 0])) σ):=by
 unfold oz at h;refine⟨λq=>?_,λq=>?_⟩
 . rw[if_pos q]at h;exact h
 . rw[if_neg (by simp[q])]at h;exact h
theorem C2(a:m.solo=true){f:Fr}(b:f.Fits)(h:KF (.val (.bG [ints (oz f).1,int (oz f).2])) σ):aB Tryz.prog m 29 [aC f] σ KF:=E5 a b (zT h).1 (zT h).2
def u'(f:Fr)(x y:Int):List Int × Int:=if aV f true x y≠0 then([],aV f true x y)else if(ao f []).filter (bZ x y)=[]then([],11)else(Qc (ao f []) x.toNat y.toNat f.aA.length,0)
theorem Bm{f:Fr}{x y:Int}(h:KF (.val (.bG [ints (u' f x y).1,int (u' f x y).2])) σ):(aV f true x y≠0->KF (.val (.bG [ints [],int (aV f true x y)])) σ)/\
 (aV f true x y=0->(ao f []).filter (bZ x y)=[]->KF (.val (.bG [ints [],int 11])) σ)/\(aV f true x y=0->(ao f []).filter (bZ x y)≠[]->KF (.val (.bG [ints (Qc (ao f []) x.toNat y.toNat f.aA.length),int 0])) σ):=by
 unfold u' at h;refine⟨λq=>?_,λq a=>?_,λq a=>?_⟩
 . rw[if_pos q]at h;exact h
 . rw[if_neg (by simp[q]),if_pos a]at h;exact h
 . rw[if_neg (by simp[q]),if_neg a]at h;exact h
theorem tW(a:m.solo=true){f:Fr}{x y:Int}(b:f.Fits)(h:KF (.val (.bG [ints (u' f x y).1,int (u' f x y).2])) σ):aB Tryz.prog m 31 [aC f,int x,int y] σ KF:=CW a b (Bm h).1 (Bm h).2.1 (Bm h).2.2
end Go.Proofs.YtigilmjkokbblaaGreatDoor
namespace Go.Proofs.YtigilmjkokbblaaGreatDoor
open Go.bd Go.Conc
set_option maxHeartbeats 1000000
set_option maxRecDepth 4000
variable{m:Mo}{σ:aa}{KF:dV->aa->Prop}
def fC:List AV:=flatten (fU.map aW)
theorem Kt(h:∀r,σ r=none->KF (.val (.ew r 0 5 5)) (σ.set r (.cells fC))):aB Tryz.prog m 35 [] σ KF:=by
 have f:∀a b c d e:Int,∀l:List Int,Wl [int a,int b,int c,int d,int e,.sl 1 (l.map int) .exact] [int a,int b,int c,int d,int e,ints l]:=λa b c d e l=>.cons (.refl _) (.cons (.refl _) (.cons (.refl _) (.cons (.refl _) (.cons (.refl _) (.cons (ck 1 _ .exact) .nil)))))
 have i:∀a b c d e:Int,Wl [int a,int b,int c,int d,int e,.lit (.slice none 0 0)] [int a,int b,int c,int d,int e,ints []]:=λa b c d e=>.cons (.refl _) (.cons (.refl _) (.cons (.refl _) (.cons (.refl _) (.cons (.refl _) (.cons (cW 1) .nil)))))
 refine aB.start lay [] [] 0 Tryz.func35 rfl rfl (by rfl) (by kernel_rfl) ?_;simp[Tryz.f35];refine aH Tryz.func36 rfl rfl (f 0 0 1 15 0 [0]) (gJ ?_);refine ab.run lay [] ?_;simp;refine aH Tryz.func36 rfl rfl (f 3 1 1 16 1 [0]) (gJ ?_);refine ab.run lay [] ?_;simp;refine aH Tryz.func36 rfl rfl (f 4 0 1 15 2 [0,2]) (gJ ?_);refine ab.run lay [] ?_;simp;refine aH Tryz.func36 rfl rfl (i 10 0 2 14 0) (gJ ?_);refine ab.run lay [] ?_;simp;refine aH Tryz.func36 rfl rfl (f 12 0 1 15 0 [2]) (gJ ?_);refine ab.op rfl (cQ rfl) (by simp) (by simp) ?_;refine sJ lay (es:=fU.map aW) rfl ko rfl rp (by decide) (by rfl) (.inr (by rfl)) ⟨by rfl,λe g=>?_⟩ (by rfl) λr j=>?_
 . simp[fU]at g
   rcases g with rfl|rfl|rfl|rfl|rfl<;>rfl
 refine ab.run lay [] ?_;simp;exact .done (h r j)
abbrev qM(r:Nat)(n:Nat)(most:Int):AV:=.agg [.ew r 0 n 5,rows [[0,2],[2,0]],int 1,int 2,int 3,int most]
theorem C3{n:Nat}{most:Int}(w:n<=5)(h:∀r,σ r=none->KF (.val (qM r n most)) (σ.set r (.cells fC))):aB Tryz.prog m 24 [int n,int most] σ KF:=by
 refine aB.start lay [] [] 2 Tryz.func24 rfl rfl (by rfl) (by kernel_rfl) ?_
 simp[Tryz.f24];refine bL.intro λk u=>?_
 simp;refine an Tryz.func35 rfl rfl (Kt λr v=>?_)
 obtain⟨d,_,s⟩:=aa.aF v;refine ab.run lay [] ?_;simp;refine CA lay (l:=0) (h:=n) (m:=5) rfl ko rfl rp rfl ⟨rfl,⟨⟨.i64,by simp⟩,?_⟩,rfl⟩ ?_
 . omega
 have t:k≠r:=Ne.symm d;refine ab.run lay [] ?_;simp[aG,t,d,aa.ag]
 have g:(AV.sl 1 [AV.sl 1 [int 0,int 2] .exact,.sl 1 [int 2,int 0] .exact] .exact).W (rows [[0,2],[2,0]]):=Ku rfl (λa j=>by simp at j;rcases j with rfl|rfl<;>rfl) (λa j=>by simp at j;rcases j with rfl|rfl<;>rfl) (λi a a' b c=>by
  match i with
  |0=>simp at b c;subst b;subst c;exact ck 1 [int 0,int 2] .exact
  |1=>simp at b c;subst b;subst c;exact ck 1 [int 2,int 0] .exact
  |i+2=>simp at b)
 refine .less (show(σ.set r (.cells fC)).Le _ from λx o f=>?_) (.iI (a':=qM r n most) (lT rfl λi a a' b c=>?_) (.done (h r s)))
 . by_cases e:x=r
   . subst e
     rw[aa.ak]at f;rw[aa.ag _ _ d,aa.ak];exact f
   . rw[aa.ag _ _ e]at f
     have p:x≠k:=λq=>by rw[q,u]at f;cases f
     rw[aa.ag _ _ p,aa.ag _ _ e,aa.ag _ _ p];exact f
 match i with
 |0=>simp at b c;subst b;subst c;exact .refl _
 |1=>simp at b c;subst b;subst c;exact g
 |2=>simp at b c;subst b;subst c;exact .refl _
 |3=>simp at b c;subst b;subst c;exact .refl _
 |4=>simp at b c;subst b;subst c;exact .refl _
 |5=>simp at b c;subst b;subst c;exact .refl _
 |i+6=>simp at b
end Go.Proofs.YtigilmjkokbblaaGreatDoor
