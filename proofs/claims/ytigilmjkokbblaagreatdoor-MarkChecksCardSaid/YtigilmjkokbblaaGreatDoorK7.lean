/- Part 7 of the proof. -/
import Derived.Test.YtigilmjkokbblaaGreatDoorK6
set_option linter.all false
namespace Go.Proofs.YtigilmjkokbblaaGreatDoor
open Go.bd Go.Conc
set_option maxHeartbeats 2000000
set_option maxRecDepth 4000
variable{m:Mo}{σ:aa}{KF:dV->aa->Prop}
structure J8(dE:Int)(e:gX):Prop where
 hour:0<=e.hour/\e.hour<=72
 place:0<=e.place/\e.place<dE
 bE:0<=e.bE/\e.bE<=1
 marks:e.marks.Sublist [0,1,2]
 aQ:0<=e.aQ/\e.aQ<=30
 fj:0<=e.fj/\e.fj<=2
theorem J8.check{dE:Int}{e:gX}(h:J8 dE e):bf dE e=0:=by
 obtain⟨b,f,g,a,c,d⟩:=h;have a:=(jN a).1;unfold bf dz;have i:e.place<=dE-1:=by omega
 have j:e.bE<=5:=by omega
 simp[b.1,b.2,f.1,i,g.1,j,a,c.1,c.2,d.1,d.2]
structure Bc(cnt:Int)(f:Fr)(ks:List Int):Prop where
 hQ:f.Good
 len:(f.aA.length:Int)<=cnt
 dE:f.roads.length<=3
 row:∀r∈f.roads,r.length<=3
 marks:∀e∈f.aA,e.marks.length<=3
 most:f.most<=3
 seen:∃(most:Nat) (C H:List Int) (last:List gX),Seen f most C H ks f.aA last/\(most:Int)=f.most
theorem zB{k:Nat}:∀(es:List AV) (i:Nat) (x:AV),i<es.length->(∀e∈es,e.cells.length=k)->x.cells.length=k->(flatten es).take (i*k)++x.cells++(flatten es).drop (i*k+k)=flatten (es.set i x)
 | e::es,0,x,_,a,c=>by
   have b:=a e (by simp);rw[List.set_cons_zero,flatten_cons,flatten_cons];simp[<-b]
 | e::es,i+1,x,d,a,c=>by
   have b:=a e (by simp);have f:=zB es i x (by simpa using d) (λy g=>a y (by simp[g])) c;rw[List.set_cons_succ,flatten_cons,flatten_cons,<-f,Nat.add_mul,Nat.one_mul,List.take_append,List.drop_append];rw[List.take_of_length_le (by omega),List.drop_eq_nil_of_le (by omega),b,show i*k+k-k=i*k by omega,show i*k+k+k-k=i*k+k by omega];simp
theorem J9{f:Fr}{n:gX}{h:Int}(i:f.bH<=f.hH)(j:0<=n.fj/\n.fj<=2)(hb:(n.fj≠1/\n.aQ=h)\/(n.fj≠0/\∃y,f.bH<=y/\y<=f.hH/\n.aQ=h+y)):h∈bI f n:=by
 have a:n.fj≠1->n.aQ∈bI f n:=λb=>by
  unfold bI;by_cases q:n.aQ∈fQ f n
  . rw[if_neg (by simp[q])];exact q
  . rw[if_pos ⟨b,q⟩];simp
 have c:∀x,x∈fQ f n->x∈bI f n:=λx d=>by
  unfold bI;split
  . simp[d]
  . exact d
 rcases hb with⟨b,rfl⟩|⟨g,y,k,l,e⟩
 . exact a b
 . refine c _ ?_
   unfold fQ;rw[if_pos g];exact List.mem_map.2 ⟨(f.hH-y).toNat,List.mem_range.2 (by omega),by omega⟩
theorem Bd{σ0 σ d:aa}{a:AV}{kk:Nat}{es:List AV}{c:Nat}(h:bw σ0 σ a kk es)(i:σ0 c=none)(j:dL a≠some c)(g:∀y,y≠c->d y=σ y):bw σ0 d a kk es:=h.keep (λy x f=>by rw[g y (λe=>by subst e;rw[i]at f;cases f)];exact h.1 y x f) λb hb=>⟨g b (λe=>j (e ▸ hb)),(h.ji hb).1⟩
theorem NP{σ0 σ σ':aa}{a c k:AV}{kk m n:Nat}{es o p:List AV}(h:Tok σ0 σ a kk es)(g:bw σ0 σ c m o)(i:bw (σ.yK c) σ' k n p):Tok σ0 σ' a kk es:=
 jm h (aa.le_trans g.here.2 i.1) λb hb=>by
  obtain⟨r,e,d⟩:=h.bc hb;have f:dL c≠some b:=λq=>by obtain⟨_,l,j⟩:=g.ji q;rw[d]at j;cases j
  exact⟨by rw[d];exact i.1 b _ (by rw[aa.mK f];exact d),r⟩
theorem NQ{σ0 σ σ':aa}{a c k:AV}{kk m n:Nat}{es o p:List AV}(h:bw σ0 σ a kk es)(g:Tok σ0 σ c m o)(i:Tok (σ.off c) σ' k n p):bw σ0 σ' a kk es:=
 h.keep (aa.le_trans g.here.2 i.1) λb hb=>by
  obtain⟨r,l,d⟩:=h.ji hb;have f:bX c≠some b:=λq=>by obtain⟨_,e,j⟩:=g.bc q;rw[d]at j;cases j
  exact⟨by rw[d];exact i.1 b _ (by rw[aa.gh f];exact d),r⟩
structure Gm(V:Nat->AV)(jP:Env)(σ6:aa)(c c13 K:Nat)(nums:List Int)(T:Int)(X:Int->List AV)(done:List Nat)(env:Env)(σ:aa):Prop where
 base:∀s,s<97->env s=jP s
 cj:∀i,i∈done->i≠33->i≠34->i<36->env (97+i)=V i
 pre:33∉done->σ=σ6
 post:33∈done->36∉done->cq c nums K σ/\∀y,y≠c->σ y=σ6 y
 pick:33∈done->∃p:Int,(0<=p/\p<=3)/\env 130=int p/\(34∈done->env 131=int (T+p))
 all:36∈done->∀j,j<36->j∈done
 dep:34∈done->33∈done
 fin:36∈done->∃p:Int,(0<=p/\p<=3)/\cq c nums K σ/\σ c13=some (.cells (X (T+p)))/\∀y,y≠c->y≠c13->σ y=σ6 y
section
variable{V:Nat->AV}{jP env:Env}{σ6:aa}{c c13 K:Nat}{nums:List Int}{T:Int}{X:Int->List AV}{done:List Nat}
theorem Gm.NR(h:Gm V jP σ6 c c13 K nums T X done env σ){i:Nat}(b:i<36)(d:i∉done):36∉done:=λa=>d (h.all a i b)
theorem Gm.keep(h:Gm V jP σ6 c c13 K nums T X done env σ){i:Nat}(a:i<36)(b:i∉done){y:Nat}(d:y≠c):σ y=σ6 y:=by
 by_cases q:33∈done
 . exact(h.post q (h.NR a b)).2 y d
 . rw[h.pre q]
theorem Gm.next(h:Gm V jP σ6 c c13 K nums T X done env σ){i:Nat}(m:i<36)(n:i∉done)(o:i≠33)(r:i≠34){a:AV}(t:a=V i):Gm V jP σ6 c c13 K nums T X (i::done) (env.upd (97+i) a) σ:=by
 have b:33∈i::done↔33∈done:=by simp[Ne.symm o]
 have d:34∈i::done↔34∈done:=by simp[Ne.symm r]
 have f:=h.NR m n;have k:36∉i::done:=by simp;exact⟨by omega,f⟩
 refine⟨λs u=>?_,λj v w x y=>?_,λq=>h.pre λl=>q (b.2 l),λq _=>h.post (b.1 q) f,λq=>?_,λq=>absurd q k,λq=>b.2 (h.dep (d.1 q)),λq=>absurd q k⟩
 . rw[iD (by omega)];exact h.base s u
 . by_cases e:j=i
   . subst e;rw[lH];exact t
   . rw[iD (by omega)]
     exact h.cj j ((List.mem_cons.1 v).resolve_left e) w x y
 . obtain⟨p,z,l,A⟩:=h.pick (b.1 q)
   exact⟨p,z,by rw[iD (by omega)];exact l,λg=>by rw[iD (by omega)];exact A (d.1 g)⟩
theorem Gm.P4(h:Gm V jP σ6 c c13 K nums T X done env σ)(l:33∉done)(b:34∉done){p:Int}(m:0<=p/\p<=3){σ':aa}(hb:cq c nums K σ')(d:∀y,y≠c->σ' y=σ6 y):Gm V jP σ6 c c13 K nums T X (33::done) (env.upd 130 (int p)) σ':=by
 have e:=h.NR (i:=33) (by omega) l;have a:36∉33::done:=by simp[e]
 have f:34∉33::done:=by simp[b]
 refine⟨λs d=>?_,λj n k o r=>?_,λq=>absurd (by simp) q,λ_ _=>⟨hb,d⟩,λq=>⟨p,m,by rw[lH],λg=>absurd g f⟩,λq=>absurd q a,λ_=>by simp,λq=>absurd q a⟩
 . rw[iD (by omega)];exact h.base s d
 . rw[iD (by omega)]
   exact h.cj j ((List.mem_cons.1 n).resolve_left k) k o r
theorem Gm.summed(h:Gm V jP σ6 c c13 K nums T X done env σ)(f:34∉done)(a:33∈done){p:Int}(k:0<=p/\p<=3)(l:env 130=int p):Gm V jP σ6 c c13 K nums T X (34::done) (env.upd 131 (int (T+p))) σ:=by
 have b:=h.NR (i:=34) (by omega) f;have d:36∉34::done:=by simp[b]
 refine⟨λs m=>?_,λj n o e r=>?_,λq=>absurd (by simp[a]) q,λ_ _=>h.post a b,λq=>⟨p,k,by rw[iD (by omega)];exact l,λg=>by rw[lH]⟩,λq=>absurd q d,λ_=>by simp[a],λq=>absurd q d⟩
 . rw[iD (by omega)];exact h.base s m
 . rw[iD (by omega)]
   exact h.cj j ((List.mem_cons.1 n).resolve_left e) o e r
end
theorem Gn{σ0 σ σ':aa}{a c g:AV}{kk k l:Nat}{es m n:List AV}(h:Tok σ0 σ a kk es)(o:Tok σ0 σ c k m)(hd:∀b,bX a=some b->bX c≠some b)(f:Tok (σ.off c) σ' g l n):Tok σ0 σ' a kk es/\∀b,bX a=some b->bX g≠some b:=by
 have key:∀b,bX a=some b->(σ.off c) b=σ b:=λb hb=>aa.gh (hd b hb)
 refine⟨jm h (aa.le_trans o.here.2 f.1) λb hb=>?_,λb hb q=>?_⟩
 . obtain⟨i,e,d⟩:=h.bc hb
   exact⟨by rw[d];exact f.1 b _ (by rw[key b hb];exact d),i⟩
 . obtain⟨i,e,d⟩:=h.bc hb
   obtain⟨j,_,_⟩:=f.bc q;rw[key b hb,d]at j;cases j
section
variable{c k:Nat}{nums:List Int}
theorem HH{cnt : Int}(hk:k+500<1000000)(hn:nums.length<1152921504606846976)(y8:1<=cnt/\cnt<=6)(hb:cq c nums k σ)(h:∀(f:Fr) (ks:List Int) σ',Bc cnt f ks->nB c nums (k+500) σ σ'->KF (.val (.bG [aC f,ints ks])) σ'):aB Tryz.prog m 37 [.ref c 0,int cnt] σ KF:=by
 obtain⟨n0,s0,_,kx⟩:=id hb;refine aB.start lay [] UF 2 Tryz.func37 rfl rfl (by rfl) (by kernel_rfl) ?_
 simp[Tryz.f37];refine bL.intro λY h4=>?_
 have n4:c≠Y:=λe=>by subst e;rw[kx]at h4;cases h4
 have ky:∀x,cq c nums k (σ.set Y x):=λx=>⟨n0,s0,by assumption,by rw[aa.ag _ _ n4];exact kx⟩
 simp;refine an Tryz.func38 rfl rfl (wD (cnt:=0) (by omega) hn ⟨by omega,by omega⟩ (ky _) λf0 a0 l1 a7 eW qq=>?_)
 obtain rfl:=qq.1 (List.length_eq_zero_iff.1 (by have:=a7.len;omega))
 have cl:Y≠c:=Ne.symm n4;have l2:l1 Y=some (.cells fP):=by rw[eW.2 Y cl,aa.ak]
 refine ab.run lay [] ?_;simp;refine bL.intro λP h6=>?_
 have n6:P≠c:=λe=>by subst e;obtain⟨_,_,_,q⟩:=eW.1;rw[q]at h6;cases h6
 have gA:P≠Y:=λe=>by subst e;rw[l2]at h6;cases h6
 have l3:σ P=none:=by rw[eW.2 P n6,aa.ag _ _ gA]at h6;exact h6
 simp
 have hG:∀x,cq c nums (k+20) (l1.set P x):=λx=>by obtain⟨n,z,g1,g2⟩:=eW.1;exact⟨n,z,g1,by rw[aa.ag _ _ (Ne.symm n6)];exact g2⟩
 refine an Tryz.func78 rfl rfl (km (by omega) hn ⟨by omega,by omega⟩ ⟨by omega,by omega⟩ (hG _) λmost et z8 gB=>?_)
 have t6:et P=some (.cells [.lit (.slice none 0 0),rows f0.roads,int f0.bH,int f0.hH,int f0.dO,int f0.most]):=by rw[gB.2 P n6,aa.ak]
 have t4:et Y=some (.cells fP):=by rw[gB.2 Y cl,aa.ag _ _ (Ne.symm gA)];exact l2
 refine ab.run lay [] ?_;simp[t6,aG];obtain⟨mo,rfl⟩:∃mo:Nat,most=(mo:Int):=⟨most.toNat,by omega⟩
 have z9:1<=mo/\mo<=3:=by omega
 have hK:=a7.dE;obtain⟨A6,ev⟩:∃A6:AV->List AV,A6=λa=>[a,rows f0.roads,int f0.bH,int f0.hH,int f0.dO,int mo]:=⟨_,rfl⟩
 have qs:∀a,(A6 a).length=6:=λa=>by rw[ev];rfl
 have ax:σ.del c c=none:=by simp[aa.del]
 have l4:cq c nums (k+21) (et.set P (.cells (A6 (.lit (.slice none 0 0))))):=by obtain⟨n,z,g1,g2⟩:=gB.1;exact⟨n,z,by omega,by rw[aa.ag _ _ (Ne.symm n6)];exact g2⟩
 have ay:(σ.del c).Le (et.set P (.cells (A6 (.lit (.slice none 0 0))))):=λy x S=>by
  have Z:y≠c:=λe=>by subst e;rw[ax]at S;cases S
  have y0:σ y=some x:=by simpa[aa.del,Z]using S
  have y6:y≠P:=λe=>by subst e;rw[l3]at y0;cases y0
  have y4:y≠Y:=λe=>by subst e;rw[h4]at y0;cases y0
  rw[aa.ag _ _ y6,gB.2 y Z,aa.ag _ _ y6,eW.2 y Z,aa.ag _ _ y4];exact y0
 have r6:σ.del c P=none:=by simp[aa.del,l3]
 have za:σ.del c Y=none:=by simp[aa.del,h4]
 have l5:(et.set P (.cells (A6 (.lit (.slice none 0 0))))) Y=some (.cells fP):=by rw[aa.ag _ _ (Ne.symm gA)];exact t4
 refine ab.loop mo (λi s=>∃env σ' la ha L H,s=⟨env,σ',[],.no⟩/\env 0=.ref c 0/\env 1=int cnt/\env 4=.ref Y 0/\env 6=.ref P 0/\env 7=la/\env 8=ha/\env 9=int i/\cq c nums (k+21+12*i) σ'/\σ' Y=some (.cells fP)/\σ' P=some (.cells (A6 (.lit (.slice none 0 0))))/\bw (σ.del c) σ' la 6 (L.map aW)/\Tok (σ.del c) σ' ha 1 (H.map int)/\dL la≠some c/\dL la≠some Y/\dL la≠some P/\L.length=i/\H.length=i/\(∀e∈L,uP f0.roads.length e)/\(∀x∈H,13<=x/\x<=16))
  ⟨_,et.set P (.cells (A6 (.lit (.slice none 0 0)))),.lit (.slice none 0 0),.lit (.slice none 0 0),[],[],by rw[ev],by simp,by simp,by simp,by simp,by simp,by simp,by simp,l4,l5,aa.ak _ _ _,⟨ay,.inl ⟨rfl,.inl rfl⟩⟩,⟨ay,.inl ⟨rfl,rfl⟩⟩,by simp[dL],by simp[dL],by simp[dL],rfl,rfl,by simp,by simp⟩ ?_
 clear l4 ay l5
 rintro c0 i _ hi ⟨env,σ',la,ha,L,H,rfl,B,e1,G,E,F,J,e9,gC,q4,q6,fc,fi,fl,gD,gG,hL,l6,hO,l7⟩ ih
 have c5:=fc.cells;have d:=fi.cells;have a8:σ' P=some (.cells [.lit (.slice none 0 0),rows f0.roads,int f0.bH,int f0.hH,int f0.dO,int mo]):=by rw[q6,ev]
 rcases Nat.lt_or_ge i mo with g1|g1
 . have lj:(i:Int)<mo:=by omega
   have f1:-9223372036854775808<=(i:Int)+1/\(i:Int)+1<=9223372036854775807:=by omega
   refine ab.run lay [] ?_;simp[B,e1,G,E,F,J,e9,a8,c5.1,c5.2,d.1,d.2,g1];refine an Tryz.func79 rfl rfl (og (by omega) hn ⟨by omega,by omega⟩ gC λe a9 he X=>?_)
   have lo:∃l,σ' c=some (.cells l):=by obtain⟨_,_,_,q⟩:=gC;exact⟨_,q⟩
   have fp:=Bd fc ax fl X.2;have lA:=sz fi ax lo X.2;have ft:a9 Y=some (.cells fP):=by rw[X.2 Y cl];exact q4
   have fv:a9 P=some (.cells (A6 (.lit (.slice none 0 0)))):=by rw[X.2 P n6];exact q6
   refine ab.run lay [] ?_;simp[B,e1,G,E,F,J,e9,a8,c5.1,c5.2,d.1,d.2];refine eG lay rfl rfl rfl ko rfl ko rfl rp (by decide) (by simp;omega) (σ0:=a9.yK la) (es:=L.map aW) (xs:=[aW e]) (by simpa using fp.here.1) (.inl (.inr ⟨_,by simp;rfl⟩)) (by simp) λgH bq b1=>?_
   have k4:∀y l,dL la≠some y->a9 y=some l->bq y=some l:=λy l S hl=>b1.1 _ _ (by rw[aa.mK S];exact hl)
   have lB:=NP lA fp b1;have hP:=b1.base fp.here.2
   have m1:cq c nums (k+21+12*i+11) bq:=by obtain⟨n,z,g1,g2⟩:=X.1;exact⟨n,z,g1,k4 _ _ fl g2⟩
   have h7:dL gH≠some c:=λq=>by obtain⟨g,_⟩:=b1.ji q;obtain⟨_,_,_,g2⟩:=X.1;rw[aa.mK fl,g2]at g;cases g
   have m2:dL gH≠some Y:=λq=>by obtain⟨g,_⟩:=b1.ji q;rw[aa.mK gD,ft]at g;cases g
   have m3:dL gH≠some P:=λq=>by obtain⟨g,_⟩:=b1.ji q;rw[aa.mK gG,fv]at g;cases g
   have b9:=b1.cells;refine ab.run lay [] ?_;simp[B,J,b9.1,b9.2];refine an Tryz.func78 rfl rfl (km (by omega) hn ⟨by omega,by omega⟩ ⟨by omega,by omega⟩ m1 λx ey r8 bz=>?_)
   have md:∃l,bq c=some (.cells l):=by obtain⟨_,_,_,q⟩:=m1;exact⟨_,q⟩
   have dj:=sz lB ax md bz.2;have mm:=Bd hP ax h7 bz.2;refine ab.run lay [] ?_;simp[B,J,b9.1,b9.2,d.1,d.2];refine aS lay rfl rfl rfl cK rfl cK rfl rl (by decide) (by simp;omega) (σ0:=ey.off ha) (es:=H.map int) (xs:=[int x]) (by simpa using dj.here.1) (.inr ⟨_,by simp;rfl⟩) λr9 σ6 dr=>?_
   have mx:=NQ mm dj dr;have hR:=dr.base dj.here.2;have h8:=dr.cells;have k6:∀y l,ey y=some (.cells l)->σ6 y=some (.cells l):=λy l S=>dr.1 _ _ (by rw[aa.gh (λe=>by obtain⟨_,_,q⟩:=dj.bc e;rw[S]at q;cases q)];exact S)
   have ra:σ6 Y=some (.cells fP):=k6 _ _ (by rw[bz.2 Y cl];exact k4 _ _ gD ft)
   have rr:σ6 P=some (.cells (A6 (.lit (.slice none 0 0)))):=k6 _ _ (by rw[bz.2 P n6];exact k4 _ _ gG fv)
   have bA:cq c nums (k+21+12*(i+1)) σ6:=by obtain⟨n,z,g1,g2⟩:=bz.1;exact⟨n,z,by omega,k6 _ _ g2⟩
   refine ab.run lay [] ?_;simp[B,e9,f1.1,f1.2,b9.1,b9.2,h8.1,h8.2];refine ih _ g1 ⟨_,σ6,gH,r9,L++[e],H++[x],rfl,by simp[B],by simp[e1],by simp[G],by simp[E],by simp,by simp,by simp,bA,ra,rr,by simpa using mx,by simpa using hR,h7,m2,m3,by simp[hL],by simp[l6],λy S=>?_,λy S=>?_⟩
   . rcases List.mem_append.1 S with S|S
     . exact hO y S
     . simp at S;subst S;exact he
   . rcases List.mem_append.1 S with S|S
     . exact l7 y S
     . simp at S;subst S;omega
 . have rF:i=mo:=by omega
   subst rF;clear ih
   obtain⟨Q,cap,rest,rfl,r1,r2,r3,r4,r5⟩:∃Q cap rest,la=.ew Q 0 i cap/\σ.del c Q=none/\i<=cap/\(∀e∈L.map aW,e.cells.length=6)/\σ' Q=some (.cells (flatten (L.map aW)++rest))/\rest.length=(cap-i)*6:=by
    have ez:(L.map aW).length=i:=by rw[List.length_map,hL]
    rcases fc.2 with⟨e,_⟩|⟨b,cap,rest,g1,g2,g3,g4,g5,g6⟩
    . have:=congrArg List.length e
      rw[ez,List.length_nil]at this;omega
    . rw[ez]at g1 g3 g6
      exact⟨b,cap,rest,g1,g2,g3,g4,g5,g6⟩
   have b3:Q≠c:=λe=>fl (by rw[e];rfl)
   have rG:Q≠Y:=λe=>gD (by rw[e];rfl)
   have hS:Q≠P:=λe=>gG (by rw[e];rfl)
   have yb:σ Q=none:=by simpa[aa.del,b3]using r1
   refine ab.zt 8 (a':=ints H) (by rw[J];simpa using fi.W) ?_
   have c7:=fi.1;clear fc fi c5 d fl gD gG J;refine ab.run lay [] ?_;simp[B,e1,G,E,F,e9,a8];refine an Tryz.func78 rfl rfl (km (by omega) hn ⟨by omega,by omega⟩ ⟨by omega,by omega⟩ gC λq a9 hq X=>?_)
   have ft:a9 Y=some (.cells fP):=by rw[X.2 Y cl];exact q4
   have fv:a9 P=some (.cells (A6 (.lit (.slice none 0 0)))):=by rw[X.2 P n6];exact q6
   have mA:a9 Q=some (.cells (flatten (L.map aW)++rest)):=by rw[X.2 Q b3];exact r4
   have ay:(σ.del c).Le a9:=λy x S=>by
    have Z:y≠c:=λe=>by subst e;rw[ax]at S;cases S
    rw[X.2 y Z];exact c7 y x S
   obtain⟨qn,rfl⟩:∃qn:Nat,q=(qn:Int):=⟨q.toNat,by omega⟩
   have zj:1<=qn/\qn<=6:=by omega
   have h9:cq c nums (k+60) a9:=X.1.mono (by omega)
   obtain⟨C,hC⟩:∃C,C=L.map (·.bE):=⟨_,rfl⟩;obtain⟨f1,fw⟩:∃f1:Fr,f1=⟨[],f0.roads,f0.bH,f0.hH,f0.dO,(i:Int)⟩:=⟨_,rfl⟩
   have dx:Seen f1 i C H [] [] L:=⟨rfl,by simp,by simp,λj hj=>by simp at hj,λj hj=>by simp at hj,λa b _ hb=>by simp at hb,λj hj=>by simp at hj,λj hj=>by
    rw[hC,List.getD_eq_getElem?_getD,List.getD_eq_getElem?_getD,List.getElem?_map];have:j<L.length:=by omega
    simp[this],hL⟩
   have ho:∀e∈L,J8 f0.roads.length e:=λe he=>by have:=hO e he;exact⟨⟨this.hour.1,by have:=this.hour;omega⟩,this.place,this.bE,this.marks,⟨by have:=this.aQ;omega,by have:=this.aQ;omega⟩,this.fj⟩
   refine ab.run lay [] ?_;simp[B,e1,G,E,F,e9,a8];have mB:=B;have n2:=G;have n3:=E;have n5:=F;clear B e1 G E F e9 a8 hO r3
   refine ab.loop qn (λj s=>∃env σ' a hh M es ks,s=⟨env,σ',[],.no⟩/\env 0=.ref c 0/\env 4=.ref Y 0/\env 6=.ref P 0/\env 7=.ew Q 0 i cap/\env 8=ints H/\env 10=hh/\env 11=int ((qn:Int)-j)/\cq c nums (k+60+16*j) σ'/\σ' Y=some (.cells fP)/\σ' P=some (.cells (A6 a))/\σ' Q=some (.cells (flatten (M.map aW)++rest))/\Tok (σ.del c) σ' a 6 (es.map aW)/\Tok (σ.del c) σ' hh 1 (ks.map int)/\(∀b,bX a=some b->bX hh≠some b)/\Seen f1 i C H ks es M/\(∀e∈M,J8 f0.roads.length e)/\(∀e∈es,e.marks.length<=3)/\es.length<=j)
    ⟨_,a9,.lit (.slice none 0 0),.lit (.slice none 0 0),L,[],[],rfl,by simp[mB],by simp[n2],by simp[n3],by simp[n5],by simp,by simp,by simp,h9,ft,fv,mA,⟨ay,.inl ⟨rfl,rfl⟩⟩,⟨ay,.inl ⟨rfl,rfl⟩⟩,λb hb=>by simp[bX]at hb,dx,ho,by simp,by simp⟩ ?_
   clear mB n2 n3 n5 h9 ft fv mA ay c7 dx ho q4 q6 gC X r4
   rintro c1 j _ hj ⟨env,σ',a,hh,M,es,ks,rfl,B,G,E,F,J,bg,bV,hT,q4,q6,ql,c8,eA,hv,O,gP,gR,zm⟩ ih
   have o:=c8.cells;have d:=eA.cells;have a8:σ' P=some (.cells [a,rows f0.roads,int f0.bH,int f0.hH,int f0.dO,int i]):=by rw[q6,ev]
   rcases Nat.lt_or_ge j qn with g1|g1
   . have lj : (0 : Int)<(qn:Int)-j:=by omega
     have tE:(j:Int)<qn:=by omega
     have f2:-9223372036854775808<=(i:Int)-1/\(i:Int)-1<=9223372036854775807:=by omega
     have f3:-9223372036854775808<=(qn:Int)-j-1/\(qn:Int)-j-1<=9223372036854775807:=by omega
     refine ab.run lay [] ?_;simp[B,G,E,F,J,bg,bV,o.1,o.2,d.1,d.2,lj,tE,g1,a8,f2.1,f2.2];refine an Tryz.func18 rfl rfl (eH (by omega) hn ⟨by omega,by omega⟩ hT λkk a9 zA X=>?_)
     obtain⟨R,rfl⟩:∃R:Nat,kk=(R:Int):=⟨kk.toNat,by omega⟩
     have ca:R<i:=by omega
     have w6:a9 P=some (.cells [a,rows f0.roads,int f0.bH,int f0.hH,int f0.dO,int i]):=by rw[X.2 P n6];exact a8
     refine ab.run lay [] ?_;simp[B,G,E,F,J,bg,bV,o.1,o.2,d.1,d.2,w6];refine an Tryz.func79 rfl rfl (og (by omega) hn ⟨by omega,by omega⟩ X.1 λe bq he hU=>?_)
     have cm:∀y,y≠c->bq y=σ' y:=λy S=>(hU.2 y S).trans (X.2 y S)
     have w6:bq P=some (.cells [a,rows f0.roads,int f0.bH,int f0.hH,int f0.dO,int i]):=by rw[cm P n6];exact a8
     have wl:bq Q=some (.cells (flatten (M.map aW)++rest)):=by rw[cm Q b3];exact ql
     have w4:bq Y=some (.cells fP):=by rw[cm Y cl];exact q4
     refine ab.run lay [] ?_;simp[B,G,E,F,J,bg,bV,o.1,o.2,d.1,d.2,w6];refine bL.intro λc13 b4=>?_
     have m0:c13≠c:=λe=>by subst e;obtain⟨_,_,_,q⟩:=hU.1;rw[q]at b4;cases b4
     have m4:c13≠Y:=λe=>by subst e;rw[w4]at b4;cases b4
     have m6:c13≠P:=λe=>by subst e;rw[w6]at b4;cases b4
     have ml:c13≠Q:=λe=>by subst e;rw[wl]at b4;cases b4
     have gU:R<M.length:=by rw[O.P3];exact ca
     obtain⟨el,ez⟩:∃el,el=M[R]:=⟨_,rfl⟩;have cb:=gP el (by rw[ez];exact List.getElem_mem gU)
     obtain⟨CL,fx⟩:∃CL,CL=flatten (M.map aW)++rest:=⟨_,rfl⟩;rw[<-fx]at wl;have hX:∀x∈M.map aW,x.cells.length=6:=λx hx=>by obtain⟨y,_,rfl⟩:=List.mem_map.1 hx;rfl
     have dy:(flatten (M.map aW)).length=M.length*6:=by rw[aZ (kk:=6) hX,List.length_map]
     have ea:∀t,t<6->CL[R*6+t]?=(aW el).cells[t]?:=λt ht=>by
      rw[fx,List.getElem?_append_left (by rw[dy];omega)]
      exact iO (kk:=6) hX (by rw[List.getElem?_map,List.getElem?_eq_getElem gU,ez];rfl) t ht
     have n9:=ea 0 (by omega)
     have nh:=ea 1 (by omega)
     have nq:=ea 2 (by omega)
     have nt:=ea 3 (by omega)
     simp at n9 nh nq nt;simp[B,G,E,F,J,bg,bV,o.1,o.2,d.1,d.2,wl,aa.ag,Ne.symm ml,ca,nq,aG]
     have rM:∀x,cq c nums (k+60+16*j+12) (bq.set c13 x):=λx=>by obtain⟨n,z,g1,g2⟩:=hU.1;exact⟨n,z,by omega,by rw[aa.ag _ _ (Ne.symm m0)];exact g2⟩
     refine an Tryz.func18 rfl rfl (eH (by omega) hn ⟨by omega,by omega⟩ (rM _) λsh ey r8 bz=>?_)
     have hY:ey c13=some (.cells [int e.hour,int e.place,int el.bE,ints e.marks,int e.aQ,int e.fj]):=by rw[bz.2 c13 m0,aa.ak]
     have eB:R<H.length:=by rw[l6];exact ca
     obtain⟨h0,eK⟩:∃h0,h0=H[R]:=⟨_,rfl⟩;have ym:13<=h0/\h0<=16:=l7 _ (by rw[eK];exact List.getElem_mem eB)
     have hZ:(H.map int)[R]?=some (int h0):=by rw[List.getElem?_map,List.getElem?_eq_getElem eB,eK];rfl
     have nz:sh=0\/sh=1\/sh=2:=by omega
     have hz:0<=sh/\sh<=2:=by omega
     have ob:f0.bH<=f0.hH:=a7.to.1;have zD:0<=f0.bH/\f0.hH<=2:=⟨a7.fr.1,a7.to.2⟩
     have ic:∀x,cq c nums (k+60+16*j+13) (ey.set c13 x):=λx=>by obtain⟨n,z,g1,g2⟩:=bz.1;exact⟨n,z,by omega,by rw[aa.ag _ _ (Ne.symm m0)];exact g2⟩
     have ie:∀y,y≠c->y≠c13->ey y=σ' y:=λy Z y2=>by rw[bz.2 y Z,aa.ag _ _ y2,cm y Z]
     have yn:ks.length<1000000:=by rw[O.len];omega
     apply sH (I:=λenv σ6=>∃b,env 0=.ref c 0/\env 4=.ref Y 0/\env 6=.ref P 0/\env 7=.ew Q 0 i cap/\env 8=ints H/\env 10=hh/\env 11=int ((qn:Int)-j)/\env 12=int R/\env 13=.ref c13 0/\env 80=bool b/\cq c nums (k+60+16*j+14) σ6/\σ6 c13=some (.cells [int e.hour,int e.place,int el.bE,ints e.marks,int h0,int sh])/\(∀y,y≠c->y≠c13->σ6 y=σ' y)/\(b=true->sh≠0)/\(b=false->sh≠1))
     . intro U
       rcases nz with rfl|rfl|rfl
       . refine ab.runN lay [] 28 ?_
         simp[B,G,E,F,J,bg,bV,o.1,o.2,d.1,d.2,hY,hZ,eB,aG,<-eK]
         refine U _ _ ⟨false,by simp[B,G,E,F,J,bg,bV,o.1,o.2,d.1,d.2],by simp[B,G,E,F,J,bg,bV,o.1,o.2,d.1,d.2],by simp[B,G,E,F,J,bg,bV,o.1,o.2,d.1,d.2],by simp[B,G,E,F,J,bg,bV,o.1,o.2,d.1,d.2],by simp[B,G,E,F,J,bg,bV,o.1,o.2,d.1,d.2],by simp[B,G,E,F,J,bg,bV,o.1,o.2,d.1,d.2],by simp[B,G,E,F,J,bg,bV,o.1,o.2,d.1,d.2],by simp[B,G,E,F,J,bg,bV,o.1,o.2,d.1,d.2],by simp[B,G,E,F,J,bg,bV,o.1,o.2,d.1,d.2],by simp[B,G,E,F,J,bg,bV,o.1,o.2,d.1,d.2],(ic _).mono (by omega),aa.ak _ _ _,λy Z y2=>by rw[aa.ag _ _ y2];exact ie y Z y2,by simp,by simp⟩
       . refine ab.runN lay [] 28 ?_
         simp[B,G,E,F,J,bg,bV,o.1,o.2,d.1,d.2,hY,hZ,eB,aG,<-eK]
         refine U _ _ ⟨true,by simp[B,G,E,F,J,bg,bV,o.1,o.2,d.1,d.2],by simp[B,G,E,F,J,bg,bV,o.1,o.2,d.1,d.2],by simp[B,G,E,F,J,bg,bV,o.1,o.2,d.1,d.2],by simp[B,G,E,F,J,bg,bV,o.1,o.2,d.1,d.2],by simp[B,G,E,F,J,bg,bV,o.1,o.2,d.1,d.2],by simp[B,G,E,F,J,bg,bV,o.1,o.2,d.1,d.2],by simp[B,G,E,F,J,bg,bV,o.1,o.2,d.1,d.2],by simp[B,G,E,F,J,bg,bV,o.1,o.2,d.1,d.2],by simp[B,G,E,F,J,bg,bV,o.1,o.2,d.1,d.2],by simp[B,G,E,F,J,bg,bV,o.1,o.2,d.1,d.2],(ic _).mono (by omega),aa.ak _ _ _,λy Z y2=>by rw[aa.ag _ _ y2];exact ie y Z y2,by simp,by simp⟩
       . refine ab.runN lay [] 28 ?_
         simp[B,G,E,F,J,bg,bV,o.1,o.2,d.1,d.2,hY,hZ,eB,aG,<-eK];refine an Tryz.func80 rfl rfl (Gg (by omega) hn ⟨by omega,by omega⟩ (ic _) λb σ6 ix=>?_)
         refine ab.runN lay [] 3 ?_;simp[B,G,E,F,J,bg,bV,o.1,o.2,d.1,d.2]
         refine U _ _ ⟨b,by simp[B,G,E,F,J,bg,bV,o.1,o.2,d.1,d.2],by simp[B,G,E,F,J,bg,bV,o.1,o.2,d.1,d.2],by simp[B,G,E,F,J,bg,bV,o.1,o.2,d.1,d.2],by simp[B,G,E,F,J,bg,bV,o.1,o.2,d.1,d.2],by simp[B,G,E,F,J,bg,bV,o.1,o.2,d.1,d.2],by simp[B,G,E,F,J,bg,bV,o.1,o.2,d.1,d.2],by simp[B,G,E,F,J,bg,bV,o.1,o.2,d.1,d.2],by simp[B,G,E,F,J,bg,bV,o.1,o.2,d.1,d.2],by simp[B,G,E,F,J,bg,bV,o.1,o.2,d.1,d.2],by simp[B,G,E,F,J,bg,bV,o.1,o.2,d.1,d.2],ix.1,by rw[ix.2 c13 m0,aa.ak],λy Z y2=>by rw[ix.2 y Z,aa.ag _ _ y2];exact ie y Z y2,by simp,by simp⟩
     clear B G E F J bg bV
     rintro env σ6 ⟨b,B,G,E,F,J,bg,bV,jA,A,ad,bA,al,b5,oj,ox⟩
     apply sH (I:=λenv σ6=>∃ht,env 0=.ref c 0/\env 4=.ref Y 0/\env 6=.ref P 0/\env 7=.ew Q 0 i cap/\env 8=ints H/\env 10=hh/\env 11=int ((qn:Int)-j)/\env 12=int R/\env 13=.ref c13 0/\env 95=int (qF ks R)/\cq c nums (k+60+16*j+15) σ6/\σ6 c13=some (.cells [int e.hour,int e.place,int el.bE,ints e.marks,int ht,int sh])/\(∀y,y≠c->y≠c13->σ6 y=σ' y)/\((sh≠1/\ht=h0)\/(sh≠0/\∃y,f0.bH<=y/\y<=f0.hH/\ht=h0+y)))
     . intro U
       have hW:Wl [hh,int R] [ints ks,int R]:=.cons (by simpa using eA.W) (.cons (.refl _) .nil)
       cases b
       . refine ab.run lay [] ?_
         simp[B,G,E,F,J,bg,bV,jA,A,ad];refine aH Tryz.func81 rfl rfl hW (sx (by omega) ?_)
         refine U _ _ ⟨h0,by simp[B,G,E,F,J,bg,bV,jA,A,ad],by simp[B,G,E,F,J,bg,bV,jA,A,ad],by simp[B,G,E,F,J,bg,bV,jA,A,ad],by simp[B,G,E,F,J,bg,bV,jA,A,ad],by simp[B,G,E,F,J,bg,bV,jA,A,ad],by simp[B,G,E,F,J,bg,bV,jA,A,ad],by simp[B,G,E,F,J,bg,bV,jA,A,ad],by simp[B,G,E,F,J,bg,bV,jA,A,ad],by simp[B,G,E,F,J,bg,bV,jA,A,ad],by simp[B,G,E,F,J,bg,bV,jA,A,ad],bA.mono (by omega),al,b5,.inl ⟨ox rfl,rfl⟩⟩
       . have v6 : σ6 P=some (.cells [a,rows f0.roads,int f0.bH,int f0.hH,int f0.dO,int i]):=by rw[b5 P n6 (Ne.symm m6)];exact a8
         have zG:=a7.fr;have fc:=a7.to;refine ab.run lay [] ?_;simp[B,G,E,F,J,bg,bV,jA,A,ad,al,v6,aG]
         repeat' (first
                   |apply And.intro
                   | (refine an Tryz.func78 rfl rfl (km (by omega) hn ⟨by omega,by omega⟩ ⟨by omega,by omega⟩ bA λy T S iP=>?_)
                      have s3:T c13=some (.cells [int e.hour,int e.place,int el.bE,ints e.marks,int h0,int sh]):=by rw[iP.2 c13 m0];exact al
                      have f4:-9223372036854775808<=h0+y/\h0+y<=9223372036854775807:=by omega
                      refine aU.go lay [] ?_;simp[B,G,E,F,J,bg,bV,jA,A,s3,f4.1,f4.2,aG];refine ab.run lay [] ?_;simp[B,G,E,F,J,bg,bV,jA,A];refine aH Tryz.func81 rfl rfl hW (sx (by omega) ?_)
                      refine U _ _ ⟨h0+y,by simp[B],by simp[G],by simp[E],by simp[F],by simp[J],by simp[bg],by simp[bV],by simp[jA],by simp[A],by simp,?_,aa.ak _ _ _,λz Z y2=>by rw[aa.ag _ _ y2,iP.2 z Z];exact b5 z Z y2,.inr ⟨oj rfl,y,by omega,by omega,rfl⟩⟩
                      obtain⟨n,z,g1,g2⟩:=iP.1;exact⟨n,z,by omega,by rw[aa.ag _ _ (Ne.symm m0)];exact g2⟩))
     clear bA al b5 B G E F J bg bV jA A ad oj ox
     rintro env σ6 ⟨ht,B,G,E,F,J,bg,bV,jA,A,av,bA,al,b5,oF⟩
     have iW:0<=ht/\ht<=30:=by rcases oF with⟨_,q⟩|⟨_,y,q1,q2,q3⟩<;>omega
     have b8:=Fr.hQ (a7.fits (by omega)) (a7.check (by omega))
     have zH:∀x∈M,x.marks.length<=3:=λx hx=>(jN (gP x hx).marks).2
     have s4:=(jN he.marks).2;have ys:=(jN cb.marks).2;have oG:=he.place;have oK:=cb.place;have z0:=cb.hour;have oL:=a7.dO;apply sH (I:=λenv T=>∃hr,env 0=.ref c 0/\env 4=.ref Y 0/\env 6=.ref P 0/\env 7=.ew Q 0 i cap/\env 8=ints H/\env 10=hh/\env 11=int ((qn:Int)-j)/\env 12=int R/\env 13=.ref c13 0/\cq c nums (k+60+16*j+16) T/\T c13=some (.cells [int hr,int e.place,int el.bE,ints e.marks,int ht,int sh])/\(∀y,y≠c->y≠c13->T y=σ' y)/\(0<=hr/\hr<=1000)/\((R:Int)∈ks->NJ f1 el {e with hour:=hr}))
     . intro U
       by_cases k0:(R:Int)∈ks
       . have q2:qF ks R>=0:=(lW ks R).2 k0
         obtain⟨rw,eb⟩:∃rw,rw=f0.roads[el.place.toNat]'(by omega):=⟨_,rfl⟩
         have hA:=b8.row (i:=el.place.toNat) (by omega)
         rw[<-eb]at hA;have ec:e.place.toNat<rw.length:=by omega
         obtain⟨r,h1⟩:∃r,r=rw[e.place.toNat]:=⟨_,rfl⟩;have zR:=hA.2 r (by rw[h1];exact List.getElem_mem ec)
         have bB:el.place.toNat<f0.roads.length:=by omega
         have s5:(f0.roads.map ints)[el.place.toNat]?=some (ints rw):=by rw[List.getElem?_map,List.getElem?_eq_getElem bB,eb];rfl
         have hr:(rw.map int)[e.place.toNat]?=some (int r):=by rw[List.getElem?_map,List.getElem?_eq_getElem ec,h1];rfl
         have oM:=ec;obtain⟨ch,k2⟩:∃ch,ch=R1 el.marks e.marks:=⟨_,rfl⟩
         have fO:0<=ch/\ch<=6:=by have q1:=nE el.marks e.marks;have q2:=nE e.marks el.marks;rw[k2];unfold R1;omega
         have zU:0<=f0.dO*ch/\f0.dO*ch<=24:=⟨Int.mul_nonneg (by omega) fO.1,Int.le_trans (Int.mul_le_mul oL.2 fO.2 fO.1 (by omega)) (by omega)⟩
         have oN:-9223372036854775808<=el.hour+r/\el.hour+r<=9223372036854775807:=by omega
         have oS:-9223372036854775808<=f0.dO*ch/\f0.dO*ch<=9223372036854775807:=by omega
         have p0:-9223372036854775808<=el.hour+r+f0.dO*ch/\el.hour+r+f0.dO*ch<=9223372036854775807:=by omega
         have k3:σ6 Q=some (.cells CL):=by rw[b5 Q b3 (Ne.symm ml),<-cm Q b3];exact wl
         have hB:σ6 P=some (.cells [a,rows f0.roads,int f0.bH,int f0.hH,int f0.dO,int i]):=by rw[b5 P n6 (Ne.symm m6)];exact a8
         refine ab.runN lay [] 3 ?_;simp[B,G,E,F,J,bg,bV,jA,A,av,q2]
         obtain⟨V,hV⟩:∃V:Nat->AV,V=λj=>([.ew Q 0 i cap,int R,.ref Q (R*6),.ref Q (R*6),int el.hour,.ref P 1,rows f0.roads,.ew Q 0 i cap,int R,.ref Q (R*6),.ref Q (R*6+1),int el.place,.cp (ints rw) 0,ints rw,.ref c13 1,int e.place,.cp (int r) 0,int r,int (el.hour+r),.ref P 4,int f0.dO,.ew Q 0 i cap,int R,.ref Q (R*6),.ref Q (R*6+3),ints el.marks,.ref c13 3,ints e.marks,int ch,int (f0.dO*ch),int (el.hour+r+f0.dO*ch),.ref c 0,.sl 1 (([0,0,1,3]:List Int).map int) .exact,int 0,int 0,.ref c13 0]:List AV).getD j (int 0):=⟨_,rfl⟩
         have w:∀j,V j=_:=λj=>congrFun hV j
         refine ab.Gp (Gm V (env.upd 96 (bool true)) σ6 c c13 (k+60+16*j+16) nums (el.hour+r+f0.dO*ch) (λz=>[int z,int e.place,int el.bE,ints e.marks,int ht,int sh])) lay.mixed (by rfl) ⟨λ_ _=>rfl,by simp,λ_=>rfl,by simp,by simp,by simp,by simp,by simp⟩ ?_ ?_
         . intro done i u T N K p5 D
           have p5:i<37:=p5
           rcases(show i=0\/i=1\/i=2\/i=3\/i=4\/i=5\/i=6\/i=7\/i=8\/i=9\/i=10\/i=11\/i=12\/i=13\/i=14\/i=15\/i=16\/i=17\/i=18\/i=19\/i=20\/i=21\/i=22\/i=23\/i=24\/i=25\/i=26\/i=27\/i=28\/i=29\/i=30\/i=31\/i=32\/i=33\/i=34\/i=35\/i=36 by omega)with rfl|rfl|rfl|rfl|rfl|rfl|rfl|rfl|rfl|rfl|rfl|rfl|rfl|rfl|rfl|rfl|rfl|rfl|rfl|rfl|rfl|rfl|rfl|rfl|rfl|rfl|rfl|rfl|rfl|rfl|rfl|rfl|rfl|rfl|rfl|rfl|rfl
           . have b7:u 7=.ew Q 0 i cap:=(D.base 7 (by omega)).trans F
             refine aJ lay (mu:=[]) ?_;simp[b7];exact D.next (i:=0) (by omega) K (by omega) (by omega) ((w 0).symm)
           . have gd:u 12=int R:=(D.base 12 (by omega)).trans jA
             refine aJ lay (mu:=[]) ?_;simp[gd];exact D.next (i:=1) (by omega) K (by omega) (by omega) ((w 1).symm)
           . have d0:u 97=.ew Q 0 i cap:=(D.cj 0 (N 0 (by rfl)) (by omega) (by omega) (by omega)).trans (w 0)
             have d1:u 98=int R:=(D.cj 1 (N 1 (by rfl)) (by omega) (by omega) (by omega)).trans (w 1)
             refine aJ lay (mu:=[]) ?_;simp[d0,d1,ca];exact D.next (i:=2) (by omega) K (by omega) (by omega) ((w 2).symm)
           . have d2:u 99=.ref Q (R*6):=(D.cj 2 (N 2 (by rfl)) (by omega) (by omega) (by omega)).trans (w 2)
             refine aJ lay (mu:=[]) ?_;simp[d2];exact D.next (i:=3) (by omega) K (by omega) (by omega) ((w 3).symm)
           . have d3:u 100=.ref Q (R*6):=(D.cj 3 (N 3 (by rfl)) (by omega) (by omega) (by omega)).trans (w 3)
             have kl:=D.keep (by omega) K (y:=Q) b3;rw[k3]at kl
             refine aJ lay (mu:=[]) ?_;simp[kl,n9,d3];exact D.next (i:=4) (by omega) K (by omega) (by omega) ((w 4).symm)
           . have b6:u 6=.ref P 0:=(D.base 6 (by omega)).trans E
             refine aJ lay (mu:=[]) ?_;simp[b6];exact D.next (i:=5) (by omega) K (by omega) (by omega) ((w 5).symm)
           . have d5:u 102=.ref P 1:=(D.cj 5 (N 5 (by rfl)) (by omega) (by omega) (by omega)).trans (w 5)
             have k6:=D.keep (by omega) K (y:=P) n6;rw[hB]at k6
             refine aJ lay (mu:=[]) ?_;simp[k6,d5];exact D.next (i:=6) (by omega) K (by omega) (by omega) ((w 6).symm)
           . have b7:u 7=.ew Q 0 i cap:=(D.base 7 (by omega)).trans F
             refine aJ lay (mu:=[]) ?_;simp[b7];exact D.next (i:=7) (by omega) K (by omega) (by omega) ((w 7).symm)
           . have gd:u 12=int R:=(D.base 12 (by omega)).trans jA
             refine aJ lay (mu:=[]) ?_;simp[gd];exact D.next (i:=8) (by omega) K (by omega) (by omega) ((w 8).symm)
           . have d7:u 104=.ew Q 0 i cap:=(D.cj 7 (N 7 (by rfl)) (by omega) (by omega) (by omega)).trans (w 7)
             have d8:u 105=int R:=(D.cj 8 (N 8 (by rfl)) (by omega) (by omega) (by omega)).trans (w 8)
             refine aJ lay (mu:=[]) ?_;simp[d7,d8,ca];exact D.next (i:=9) (by omega) K (by omega) (by omega) ((w 9).symm)
           . have d9:u 106=.ref Q (R*6):=(D.cj 9 (N 9 (by rfl)) (by omega) (by omega) (by omega)).trans (w 9)
             refine aJ lay (mu:=[]) ?_;simp[d9];exact D.next (i:=10) (by omega) K (by omega) (by omega) ((w 10).symm)
           . have s6:u 107=.ref Q (R*6+1):=(D.cj 10 (N 10 (by rfl)) (by omega) (by omega) (by omega)).trans (w 10)
             have kl:=D.keep (by omega) K (y:=Q) b3;rw[k3]at kl
             refine aJ lay (mu:=[]) ?_;simp[kl,nh,s6];exact D.next (i:=11) (by omega) K (by omega) (by omega) ((w 11).symm)
           . have d6:u 103=rows f0.roads:=(D.cj 6 (N 6 (by rfl)) (by omega) (by omega) (by omega)).trans (w 6)
             have s7:u 108=int el.place:=(D.cj 11 (N 11 (by rfl)) (by omega) (by omega) (by omega)).trans (w 11)
             refine aJ lay (mu:=[]) ?_;simp[d6,s7,s5,bB];refine⟨oK.1,?_⟩;rw[<-eb];exact D.next (i:=12) (by omega) K (by omega) (by omega) ((w 12).symm)
           . have sb:u 109=.cp (ints rw) 0:=(D.cj 12 (N 12 (by rfl)) (by omega) (by omega) (by omega)).trans (w 12)
             refine aJ lay (mu:=[]) ?_;simp[sb];exact D.next (i:=13) (by omega) K (by omega) (by omega) ((w 13).symm)
           . have gj:u 13=.ref c13 0:=(D.base 13 (by omega)).trans A
             refine aJ lay (mu:=[]) ?_;simp[gj];exact D.next (i:=14) (by omega) K (by omega) (by omega) ((w 14).symm)
           . have sg:u 111=.ref c13 1:=(D.cj 14 (N 14 (by rfl)) (by omega) (by omega) (by omega)).trans (w 14)
             have cv:=D.keep (by omega) K (y:=c13) m0;rw[al]at cv
             refine aJ lay (mu:=[]) ?_;simp[cv,sg];exact D.next (i:=15) (by omega) K (by omega) (by omega) ((w 15).symm)
           . have si:u 110=ints rw:=(D.cj 13 (N 13 (by rfl)) (by omega) (by omega) (by omega)).trans (w 13)
             have sj:u 112=int e.place:=(D.cj 15 (N 15 (by rfl)) (by omega) (by omega) (by omega)).trans (w 15)
             refine aJ lay (mu:=[]) ?_;simp[si,sj,hr,oM];refine⟨oG.1,?_⟩;rw[<-h1];exact D.next (i:=16) (by omega) K (by omega) (by omega) ((w 16).symm)
           . have so:u 113=.cp (int r) 0:=(D.cj 16 (N 16 (by rfl)) (by omega) (by omega) (by omega)).trans (w 16)
             refine aJ lay (mu:=[]) ?_;simp[so];exact D.next (i:=17) (by omega) K (by omega) (by omega) ((w 17).symm)
           . have d4:u 101=int el.hour:=(D.cj 4 (N 4 (by rfl)) (by omega) (by omega) (by omega)).trans (w 4)
             have sr:u 114=int r:=(D.cj 17 (N 17 (by rfl)) (by omega) (by omega) (by omega)).trans (w 17)
             refine aJ lay (mu:=[]) ?_;simp[d4,sr,oN.1,oN.2];exact D.next (i:=18) (by omega) K (by omega) (by omega) ((w 18).symm)
           . have b6:u 6=.ref P 0:=(D.base 6 (by omega)).trans E
             refine aJ lay (mu:=[]) ?_;simp[b6];exact D.next (i:=19) (by omega) K (by omega) (by omega) ((w 19).symm)
           . have sy:u 116=.ref P 4:=(D.cj 19 (N 19 (by rfl)) (by omega) (by omega) (by omega)).trans (w 19)
             have k6:=D.keep (by omega) K (y:=P) n6;rw[hB]at k6
             refine aJ lay (mu:=[]) ?_;simp[k6,sy];exact D.next (i:=20) (by omega) K (by omega) (by omega) ((w 20).symm)
           . have b7:u 7=.ew Q 0 i cap:=(D.base 7 (by omega)).trans F
             refine aJ lay (mu:=[]) ?_;simp[b7];exact D.next (i:=21) (by omega) K (by omega) (by omega) ((w 21).symm)
           . have gd:u 12=int R:=(D.base 12 (by omega)).trans jA
             refine aJ lay (mu:=[]) ?_;simp[gd];exact D.next (i:=22) (by omega) K (by omega) (by omega) ((w 22).symm)
           . have tc:u 118=.ew Q 0 i cap:=(D.cj 21 (N 21 (by rfl)) (by omega) (by omega) (by omega)).trans (w 21)
             have td:u 119=int R:=(D.cj 22 (N 22 (by rfl)) (by omega) (by omega) (by omega)).trans (w 22)
             refine aJ lay (mu:=[]) ?_;simp[tc,td,ca];exact D.next (i:=23) (by omega) K (by omega) (by omega) ((w 23).symm)
           . have tf:u 120=.ref Q (R*6):=(D.cj 23 (N 23 (by rfl)) (by omega) (by omega) (by omega)).trans (w 23)
             refine aJ lay (mu:=[]) ?_;simp[tf];exact D.next (i:=24) (by omega) K (by omega) (by omega) ((w 24).symm)
           . have tm:u 121=.ref Q (R*6+3):=(D.cj 24 (N 24 (by rfl)) (by omega) (by omega) (by omega)).trans (w 24)
             have kl:=D.keep (by omega) K (y:=Q) b3;rw[k3]at kl
             refine aJ lay (mu:=[]) ?_;simp[kl,nt,tm];exact D.next (i:=25) (by omega) K (by omega) (by omega) ((w 25).symm)
           . have gj:u 13=.ref c13 0:=(D.base 13 (by omega)).trans A
             refine aJ lay (mu:=[]) ?_;simp[gj];exact D.next (i:=26) (by omega) K (by omega) (by omega) ((w 26).symm)
           . have tr:u 123=.ref c13 3:=(D.cj 26 (N 26 (by rfl)) (by omega) (by omega) (by omega)).trans (w 26)
             have cv:=D.keep (by omega) K (y:=c13) m0;rw[al]at cv
             refine aJ lay (mu:=[]) ?_;simp[cv,tr];exact D.next (i:=27) (by omega) K (by omega) (by omega) ((w 27).symm)
           . have ts:u 122=ints el.marks:=(D.cj 25 (N 25 (by rfl)) (by omega) (by omega) (by omega)).trans (w 25)
             have u6:u 124=ints e.marks:=(D.cj 27 (N 27 (by rfl)) (by omega) (by omega) (by omega)).trans (w 27)
             refine aJ lay (mu:=[]) ?_;simp[ts,u6];refine an Tryz.func82 rfl rfl (ED (by omega) (by omega) ?_)
             refine aU.go lay [] ?_;simp;exact D.next (i:=28) (by omega) K (by omega) (by omega) (by rw[w,k2];rfl)
           . have v3:u 117=int f0.dO:=(D.cj 20 (N 20 (by rfl)) (by omega) (by omega) (by omega)).trans (w 20)
             have v5:u 125=int ch:=(D.cj 28 (N 28 (by rfl)) (by omega) (by omega) (by omega)).trans (w 28)
             refine aJ lay (mu:=[]) ?_;simp[v3,v5,oS.1,oS.2];exact D.next (i:=29) (by omega) K (by omega) (by omega) ((w 29).symm)
           . have vc:u 115=int (el.hour+r):=(D.cj 18 (N 18 (by rfl)) (by omega) (by omega) (by omega)).trans (w 18)
             have vj:u 126=int (f0.dO*ch):=(D.cj 29 (N 29 (by rfl)) (by omega) (by omega) (by omega)).trans (w 29)
             refine aJ lay (mu:=[]) ?_;simp[vc,vj,p0.1,p0.2];exact D.next (i:=30) (by omega) K (by omega) (by omega) ((w 30).symm)
           . have b0:u 0=.ref c 0:=(D.base 0 (by omega)).trans B
             refine aJ lay (mu:=[]) ?_;simp[b0];exact D.next (i:=31) (by omega) K (by omega) (by omega) ((w 31).symm)
           . refine aJ lay (mu:=[]) ?_
             simp;exact D.next (i:=32) (by omega) K (by omega) (by omega) ((w 32).symm)
           . have vx:u 128=.ref c 0:=(D.cj 31 (N 31 (by rfl)) (by omega) (by omega) (by omega)).trans (w 31)
             have wK:u 129=.sl 1 (([0,0,1,3]:List Int).map int) .exact:=(D.cj 32 (N 32 (by rfl)) (by omega) (by omega) (by omega)).trans (w 32)
             refine aJ lay (mu:=[]) ?_;simp[vx,wK];have wL:=D.pre K;subst wL;have wN:34∉done:=λq=>K (D.dep q)
             refine an Tryz.func83 rfl rfl (qj (l:=[0,0,1,3]) (by omega) hn ⟨by decide,by decide⟩ bA λp CM hp p6=>?_)
             refine aU.go lay [] ?_;simp;exact D.P4 K wN (p:=p) (by simp at hp;omega) (p6.1.mono (by omega)) p6.2
           . have wS:u 127=int (el.hour+r+f0.dO*ch):=(D.cj 30 (N 30 (by rfl)) (by omega) (by omega) (by omega)).trans (w 30)
             have dd:=N 33 (by rfl)
             obtain⟨p,hp,EE,_⟩:=D.pick dd;have p7:-9223372036854775808<=el.hour+r+f0.dO*ch+p/\el.hour+r+f0.dO*ch+p<=9223372036854775807:=by omega
             refine aJ lay (mu:=[]) ?_;simp[wS,EE,p7.1,p7.2];exact D.summed K dd hp EE
           . have gj:u 13=.ref c13 0:=(D.base 13 (by omega)).trans A
             refine aJ lay (mu:=[]) ?_;simp[gj];exact D.next (i:=35) (by omega) K (by omega) (by omega) ((w 35).symm)
           . have x0:u 132=.ref c13 0:=(D.cj 35 (N 35 (by rfl)) (by omega) (by omega) (by omega)).trans (w 35)
             have dd:=N 33 (by rfl)
             have x3:=N 34 (by rfl)
             obtain⟨p,hp,EE,EF⟩:=D.pick dd;have EF:=EF x3;obtain⟨x4,hK⟩:=D.post dd K;have cv:=(hK c13 m0).trans al;refine aJ lay (mu:=[]) ?_;simp[x0,EF,cv,aG]
             refine⟨D.base,λj hj g3 g4 g5=>D.cj j ((List.mem_cons.1 hj).resolve_left (by omega)) g3 g4 g5,λq=>absurd (List.mem_cons_of_mem _ dd) q,λ_ q=>absurd (List.mem_cons_self ..) q,λ_=>⟨p,hp,EE,λ_=>EF⟩,λ_ j hj=>List.mem_cons_of_mem _ (N j ((by decide:∀j:Fin 36,iH _ j.val 36=true) ⟨j,hj⟩)),λ_=>List.mem_cons_of_mem _ dd,λ_=>⟨p,hp,?_,aa.ak _ _ _,λy Z y2=>by rw[aa.ag _ _ y2];exact hK y Z⟩⟩
             obtain⟨n,z,g1,g2⟩:=x4;exact⟨n,z,g1,by rw[aa.ag _ _ (Ne.symm m0)];exact g2⟩
         . intro done z1 T p8 D
           obtain⟨p,hp,g1,g2,g3⟩:=D.fin (p8 36 (by decide))
           have hb:=λ(t:Nat) (ht:t<96)=>(D.base t (by omega)).trans (iD (env:=env) (v:=bool true) (show t≠96 by omega))
           refine U _ _ ⟨el.hour+r+f0.dO*ch+p,(hb 0 (by omega)).trans B,(hb 4 (by omega)).trans G,(hb 6 (by omega)).trans E,(hb 7 (by omega)).trans F,(hb 8 (by omega)).trans J,(hb 10 (by omega)).trans bg,(hb 11 (by omega)).trans bV,(hb 12 (by omega)).trans jA,(hb 13 (by omega)).trans A,g1,g2,λy Z y2=>(g3 y Z y2).trans (b5 y Z y2),by omega,λ_=>?_⟩
           have x5:rd f1.roads el.place.toNat e.place.toNat=r:=by rw[fw];unfold rd;rw[List.getD_eq_getElem?_getD,List.getD_eq_getElem?_getD,List.getElem?_eq_getElem bB,Option.getD_some,<-eb,List.getElem?_eq_getElem ec,<-h1];rfl
           have xb:f1.dO=f0.dO:=by rw[fw]
           unfold NJ;rw[x5,xb,<-Cw cb.marks he.marks,<-k2];show r+f0.dO*ch<=el.hour+r+f0.dO*ch+p-el.hour;omega
       . have q2:¬qF ks R>=0:=λq=>k0 ((lW ks R).1 q)
         refine ab.runN lay [] 4 ?_;simp[B,G,E,F,J,bg,bV,jA,A,av,q2];refine U _ _ ⟨e.hour,by simp[B,G,E,F,J,bg,bV,jA,A,av],by simp[B,G,E,F,J,bg,bV,jA,A,av],by simp[B,G,E,F,J,bg,bV,jA,A,av],by simp[B,G,E,F,J,bg,bV,jA,A,av],by simp[B,G,E,F,J,bg,bV,jA,A,av],by simp[B,G,E,F,J,bg,bV,jA,A,av],by simp[B,G,E,F,J,bg,bV,jA,A,av],by simp[B,G,E,F,J,bg,bV,jA,A,av],by simp[B,G,E,F,J,bg,bV,jA,A,av],bA.mono (by omega),al,b5,by have:=he.hour;omega,λq=>absurd q k0⟩
     clear bA al b5 B G E F J bg bV jA A av
     rintro env T ⟨hr,B,G,E,F,J,bg,bV,jA,A,pa,al,eR,xn,pb⟩
     have xo:σ.del c c13=none:=by
      cases hx:σ.del c c13 with
      |none=>rfl
      |some x=>have:=c8.1 _ _ hx;rw[<-cm c13 m0,b4]at this;cases this
     have c7:(σ.del c).Le T:=λy x S=>by
      have Z:y≠c:=λe=>by subst e;rw[ax]at S;cases S
      have y2:y≠c13:=λe=>by subst e;rw[xo]at S;cases S
      rw[eR y Z y2];exact c8.1 y x S
     have k5:∀b x,σ' b=some x->(∀l,x≠.cells l)->T b=σ' b:=λb x hb hx=>by
      refine eR b (λe=>?_) λe=>?_
      . rw[e]at hb;obtain⟨_,_,_,q⟩:=hT;rw[q]at hb;cases hb;exact hx _ rfl
      . rw[e,<-cm c13 m0,b4]at hb;cases hb
     have ee:Tok (σ.del c) T a 6 (es.map aW):=jm c8 c7 λb hb=>by obtain⟨g1,l,g2⟩:=c8.bc hb;exact⟨k5 b _ g2 (by simp),g1⟩
     have eg:Tok (σ.del c) T hh 1 (ks.map int):=jm eA c7 λb hb=>by obtain⟨g1,l,g2⟩:=eA.bc hb;exact⟨k5 b _ g2 (by simp),g1⟩
     have t4:T Y=some (.cells fP):=by rw[eR Y cl (Ne.symm m4)];exact q4
     have t6:T P=some (.cells (A6 a)):=by rw[eR P n6 (Ne.symm m6)];exact q6
     have tl:T Q=some (.cells (flatten (M.map aW)++rest)):=by rw[eR Q b3 (Ne.symm ml)];exact ql
     clear c8 eA q4 q6 ql a8 eR k5
     rcases Int.lt_or_le 72 hr with pd|pd
     . refine ab.run lay [] ?_
       simp[B,G,E,F,J,bg,bV,jA,A,al,pd,f3.1,f3.2];refine ih _ g1 ⟨_,T,a,hh,M,es,ks,rfl,by simp[B,G,E,F,J,bg,bV,jA,A],by simp[B,G,E,F,J,bg,bV,jA,A],by simp[B,G,E,F,J,bg,bV,jA,A],by simp[B,G,E,F,J,bg,bV,jA,A],by simp[B,G,E,F,J,bg,bV,jA,A],by simp[B,G,E,F,J,bg,bV,jA,A],by simp;omega,pa.mono (by omega),t4,t6,tl,ee,eg,hv,O,gP,gR,by omega⟩
     . have pk:¬hr>72:=by omega
       obtain⟨n1,ps⟩:∃n1:gX,n1=⟨hr,e.place,el.bE,e.marks,ht,sh⟩:=⟨_,rfl⟩;obtain⟨cg,hD⟩:∃cg,cg=flatten ((M.set R n1).map aW)++rest:=⟨_,rfl⟩;have pA:R*6+6<=CL.length:=by rw[fx,List.length_append,dy];omega
       have pB:aG CL (R*6) [int hr,int e.place,int el.bE,ints e.marks,int ht,int sh]=cg:=by
        have:=zB (k:=6) (M.map aW) R (aW n1) (by rw[List.length_map];exact gU) hX rfl
        rw[hD,List.map_set,<-this,fx];unfold aG;rw[List.take_append_of_le_length (by rw[dy];omega),List.drop_append_of_le_length (by rw[dy];simp;omega),ps]
        simp
       rw[<-fx]at tl;have c5:=ee.cells;have z2:=eg.cells;have pO:T P=some (.cells [a,rows f0.roads,int f0.bH,int f0.hH,int f0.dO,int i]):=by rw[t6,ev]
       have F2:=Ne.symm ml;refine ab.run lay [] ?_;simp[B,G,E,F,J,bg,bV,jA,A,al,pk,tl,ca,pB,pA,aa.ag,hS.symm,ml,pO,c5.1,c5.2];subst ps;have xt:bX a≠some Q:=λe=>by obtain⟨_,_,q⟩:=ee.bc e;rw[tl]at q;cases q
       have q0:bX hh≠some Q:=λe=>by obtain⟨_,_,q⟩:=eg.bc e;rw[tl]at q;cases q
       have ei:Tok (σ.del c) (T.set Q (.cells cg)) a 6 (es.map aW):=ee.beside r1 xt;have q5:Tok (σ.del c) (T.set Q (.cells cg)) hh 1 (ks.map int):=eg.beside r1 q0;have z3:(es.map aW).length<=6:=by rw[List.length_map];omega
       have z5:(ks.map int).length<=6:=by rw[List.length_map,O.len];omega
       refine aS lay rfl rfl rfl ko rfl ko rfl rp (by decide) (by simp;omega) (σ0:=(T.set Q (.cells cg)).off a) (es:=es.map aW) (xs:=[aW ⟨hr,e.place,el.bE,e.marks,ht,sh⟩]) (by simpa using ei.here.1) (.inr ⟨_,by simp;rfl⟩) λa' k7 k8=>?_
       obtain⟨ej,xF⟩:=Gn q5 ei (λb hb q=>hv b q hb) k8
       have hE:=k8.base ei.here.2;have k9:∀y l,(T.set Q (.cells cg)) y=some (.cells l)->k7 y=some (.cells l):=λy l S=>k8.1 _ _ (by rw[aa.gh (λe=>by obtain⟨_,_,q⟩:=ei.bc e;rw[S]at q;cases q)];exact S)
       have ep:=hE.cells;refine ab.run lay [] ?_;simp[B,G,E,F,J,bg,bV,jA,A,ep.1,ep.2];refine aS lay rfl rfl rfl cK rfl cK rfl rl (by decide) (by simp;omega) (σ0:=k7.off hh) (es:=ks.map int) (xs:=[int R]) (by simpa using ej.here.1) (.inr ⟨_,by simp;rfl⟩) λxG b2 gl=>?_
       obtain⟨kt,q7⟩:=Gn hE ej (λb hb q=>xF b q hb) gl
       have gp:=gl.base ej.here.2;have gw:=gp.cells;have h2:∀y l,k7 y=some (.cells l)->b2 y=some (.cells l):=λy l S=>gl.1 _ _ (by rw[aa.gh (λe=>by obtain⟨_,_,q⟩:=ej.bc e;rw[S]at q;cases q)];exact S)
       have z6:b2 P=some (.cells [a,rows f0.roads,int f0.bH,int f0.hH,int f0.dO,int i]):=h2 _ _ (k9 _ _ (by rw[aa.ag _ _ (Ne.symm hS)];exact pO))
       have z4:b2 Y=some (.cells fP):=h2 _ _ (k9 _ _ (by rw[aa.ag _ _ (Ne.symm rG)];exact t4))
       have zl:b2 Q=some (.cells cg):=h2 _ _ (k9 _ _ (aa.ak _ _ _));refine ab.run lay [] ?_;simp[B,G,E,F,J,bg,bV,jA,A,z6,aG,ep.1,ep.2,gw.1,gw.2,f3.1,f3.2];have q8:J8 f0.roads.length ⟨hr,e.place,el.bE,e.marks,ht,sh⟩:=⟨⟨xn.1,by omega⟩,he.place,cb.bE,he.marks,iW,hz⟩
       have q9:M.getD R tH=el:=by rw[List.getD_eq_getElem?_getD,List.getElem?_eq_getElem gU,ez];rfl
       have qb:H.getD R 0=h0:=by rw[List.getD_eq_getElem?_getD,List.getElem?_eq_getElem eB,eK];rfl
       have h3:=O.push (k:=R) (n:=⟨hr,e.place,el.bE,e.marks,ht,sh⟩) ca (by rw[fw];exact q8.check) (by rw[q9]) (by rw[qb,fw];refine J9 ob hz ?_;exact oF) (λq=>by rw[q9];exact pb q)
       have hF:∀{x:AV}{kk:Nat}{l:List AV},Tok (σ.del c) b2 x kk l->Tok (σ.del c) (b2.set P (.cells (A6 a'))) x kk l:=λ{x kk l} hx=>hx.beside r6 (λe=>by obtain⟨_,_,q⟩:=hx.bc e;rw[z6]at q;cases q)
       refine ih _ g1 ⟨_,b2.set P (.cells (A6 a')),a',xG,M.set R ⟨hr,e.place,el.bE,e.marks,ht,sh⟩,es++[⟨hr,e.place,el.bE,e.marks,ht,sh⟩],ks++[(R:Int)],by rw[ev],by simp[B,G,E,F,J,bg,bV,jA,A],by simp[B,G,E,F,J,bg,bV,jA,A],by simp[B,G,E,F,J,bg,bV,jA,A],by simp[B,G,E,F,J,bg,bV,jA,A],by simp[B,G,E,F,J,bg,bV,jA,A],by simp[B,G,E,F,J,bg,bV,jA,A],by simp;omega,?_,?_,aa.ak _ _ _,?_,by have:=hF kt;simpa using this,by have:=hF gp;simpa using this,λb hb=>q7 b hb,h3,λx hx=>?_,λx hx=>?_,by simp;omega⟩
       . obtain⟨n,z,g1,g2⟩:=pa
         exact⟨n,z,by omega,by rw[aa.ag _ _ (Ne.symm n6)];exact h2 _ _ (k9 _ _ (by rw[aa.ag _ _ (Ne.symm b3)];exact g2))⟩
       . rw[aa.ag _ _ (Ne.symm gA)];exact z4
       . rw[aa.ag _ _ hS,zl,hD]
       . rcases List.mem_or_eq_of_mem_set hx with hx|rfl
         . exact gP x hx
         . exact q8
       . rcases List.mem_append.1 hx with hx|hx
         . exact gR x hx
         . simp at hx;subst hx;exact s4
   . have xM:j=qn:=by omega
     subst xM;have y3:¬(j:Int)<j:=by omega
     refine ab.run lay [] ?_;simp[B,G,E,F,J,bg,bV,o.1,o.2,d.1,d.2,y3,q4,a8,aG];obtain⟨nb,zb,ky,hG⟩:=hT;obtain⟨f,hf⟩:∃f:Fr,f=⟨es,f0.roads,f0.bH,f0.hH,f0.dO,(i:Int)⟩:=⟨_,rfl⟩;have b8:=Fr.hQ (a7.fits (by omega)) (a7.check (by omega))
     have y5:Bc cnt f ks:=by
      have h5:=a7.dE;subst fw;subst hf;refine⟨⟨⟨by show es.length<1152921504606846976;omega,b8.fits.roads,b8.fits.row,λe he=>by have:=gR e he;omega⟩,b8.fr,b8.to,b8.le,b8.dO,by show 1<=(i:Int)/\(i:Int)<=6;omega,by show es.length<=6;omega,λe he=>O.yz e he,b8.J3⟩,by show(es.length:Int)<=cnt;omega,by show f0.roads.length<=3;omega,λr hr=>?_,gR,by show(i:Int)<=3;omega,i,C,H,M,⟨O.len,O.NK,O.yz,O.bE,O.Q9,O.fit,O.UQ,O.Gi,O.P3⟩,rfl⟩
      obtain⟨t,ht,rfl⟩:=List.mem_iff_getElem.1 hr;exact Nat.le_trans (Nat.le_of_eq (b8.row (i:=t) ht).1) h5.2
     refine .iI (a':=.bG [aC f,ints ks]) (wQ rfl λi x y x1 x2=>?_) (.less (σ':=σ.set c (.cells [ints nums,int nb,.lit (.int .u64 zb)])) (λy x S=>?_) (.done (h f ks _ y5 ⟨⟨nb,zb,by omega,aa.ak _ _ _⟩,λy S=>aa.ag _ _ S⟩)))
     . match i with
       | 0=>
         simp at x1 x2;subst x1;subst x2;refine lT (by subst hf;rfl) λi x y x1 x2=>?_
         subst hf
         match i with
         |0=>simp at x1 x2;subst x1;subst x2;exact c8.W
         |1=>simp at x1 x2;subst x1;subst x2;exact .refl _
         |2=>simp at x1 x2;subst x1;subst x2;exact .refl _
         |3=>simp at x1 x2;subst x1;subst x2;exact .refl _
         |4=>simp at x1 x2;subst x1;subst x2;exact .refl _
         |5=>simp at x1 x2;subst x1;subst x2;exact .refl _
         |i+6=>simp at x1
       |1=>simp at x1 x2;subst x1;subst x2;exact eA.W
       |i+2=>simp at x1
     . by_cases Z:y=c
       . subst Z
         rw[aa.ak]at S;rw[aa.ag _ _ n4,hG];exact S
       . rw[aa.ag _ _ Z]at S
         have y4:y≠Y:=λe=>by subst e;rw[h4]at S;cases S
         rw[aa.ag _ _ y4];exact c8.1 y x (by simpa[aa.del,Z]using S)
end
end Go.Proofs.YtigilmjkokbblaaGreatDoor
