import Derived.Test.YtldmpfccgajobaaGreatDoorC35
set_option linter.all false
namespace Go.Proofs.YtldmpfccgajobaaGreatDoor
open Tryz (prog)
open Go.aR Go.Conc
set_option maxHeartbeats 2000000
set_option maxRecDepth 4000
variable{m:Mo}{σ:aa}{KF:dF->aa->Prop}
structure LO(dM:Int)(e:gq):Prop where
 hour:0<=e.hour/\e.hour<=72
 place:0<=e.place/\e.place<dM
 bG:0<=e.bG/\e.bG<=1
 marks:e.marks.Sublist [0,1,2]
 aQ:0<=e.aQ/\e.aQ<=30
 fT:0<=e.fT/\e.fT<=2
theorem LO.check{dM:Int}{e:gq}(h:LO dM e):bf dM e=0:=by
 obtain⟨b,f,g,a,c,d⟩:=h;have a:=(ja a).1;unfold bf bx;have i:e.place<=dM-1:=by omega
 have j:e.bG<=5:=by omega
 simp[b.1,b.2,f.1,i,g.1,j,a,c.1,c.2,d.1,d.2]
structure Bk(cnt:Int)(f:Fr)(ks:List Int):Prop where
 eh:f.Good
 len:(f.ao.length:Int)<=cnt
 dM:f.roads.length<=3
 row:∀r∈f.roads,r.length<=3
 marks:∀e∈f.ao,e.marks.length<=3
 most:f.most<=3
 seen:∃(most:Nat) (C H:List Int) (last:List gq),Seen f most C H ks f.ao last/\(most:Int)=f.most
theorem zM{k:Nat}:∀(es:List AV) (i:Nat) (x:AV),i<es.length->(∀e∈es,e.cells.length=k)->x.cells.length=k->(flatten es).take (i*k)++x.cells++(flatten es).drop (i*k+k)=flatten (es.set i x)
 | e::es,0,x,_,a,c=>by
   have b:=a e (by simp);rw[List.set_cons_zero,flatten_cons,flatten_cons];simp[<-b]
 | e::es,i+1,x,d,a,c=>by
   have b:=a e (by simp);have f:=zM es i x (by simpa using d) (λy g=>a y (by simp[g])) c;rw[List.set_cons_succ,flatten_cons,flatten_cons,<-f,Nat.add_mul,Nat.one_mul,List.take_append,List.drop_append];rw[List.take_of_length_le (by omega),List.drop_eq_nil_of_le (by omega),b,show i*k+k-k=i*k by omega,show i*k+k+k-k=i*k+k by omega];simp
theorem LP{f:Fr}{n:gq}{h:Int}(i:f.bE<=f.iQ)(j:0<=n.fT/\n.fT<=2)(hb:(n.fT≠1/\n.aQ=h)\/(n.fT≠0/\∃y,f.bE<=y/\y<=f.iQ/\n.aQ=h+y)):h∈bL f n:=by
 have a:n.fT≠1->n.aQ∈bL f n:=λb=>by
  unfold bL;by_cases q:n.aQ∈gz f n
  . rw[if_neg (by simp[q])];exact q
  . rw[if_pos ⟨b,q⟩];simp
 have c:∀x,x∈gz f n->x∈bL f n:=λx d=>by
  unfold bL;split
  . simp[d]
  . exact d
 rcases hb with⟨b,rfl⟩|⟨g,y,k,l,e⟩
 . exact a b
 . refine c _ ?_
   unfold gz;rw[if_pos g];exact List.mem_map.2 ⟨(f.iQ-y).toNat,List.mem_range.2 (by omega),by omega⟩
theorem jC{σ0 σ c σ':aa}{a:AV}{kk:Nat}{es:List AV}(h:Tok σ0 σ a kk es)(d:c.Le σ')(hb:∀b,bv a=some b->σ' b=σ b/\c b=none):Tok c σ' a kk es:=by
 refine⟨d,?_⟩;rcases h.2 with q|q|⟨b,e,k,f,g⟩
 . exact .inl q
 . exact .inr (.inl q)
 . obtain⟨i,j⟩:=hb b (by rw[f];rfl)
   exact .inr (.inr ⟨b,e,j,f,by rw[i];exact g⟩)
theorem F8{σ0 σ d:aa}{a:AV}{kk:Nat}{es:List AV}{c:Nat}(h:bF σ0 σ a kk es)(i:σ0 c=none)(j:fC a≠some c)(g:∀y,y≠c->d y=σ y):bF σ0 d a kk es:=h.keep (λy x f=>by rw[g y (λe=>by subst e;rw[i]at f;cases f)];exact h.1 y x f) λb hb=>⟨g b (λe=>j (e ▸ hb)),(h.me hb).1⟩
theorem ND{σ0 σ σ':aa}{a c k:AV}{kk m n:Nat}{es o p:List AV}(h:Tok σ0 σ a kk es)(g:bF σ0 σ c m o)(i:bF (σ.Au c) σ' k n p):Tok σ0 σ' a kk es:=
 jC h (aa.le_trans g.here.2 i.1) λb hb=>by
  obtain⟨r,e,d⟩:=h.aY hb;have f:fC c≠some b:=λq=>by obtain⟨_,l,j⟩:=g.me q;rw[d]at j;cases j
  exact⟨by rw[d];exact i.1 b _ (by rw[aa.qu f];exact d),r⟩
theorem NE{σ0 σ σ':aa}{a c k:AV}{kk m n:Nat}{es o p:List AV}(h:bF σ0 σ a kk es)(g:Tok σ0 σ c m o)(i:Tok (σ.off c) σ' k n p):bF σ0 σ' a kk es:=
 h.keep (aa.le_trans g.here.2 i.1) λb hb=>by
  obtain⟨r,l,d⟩:=h.me hb;have f:bv c≠some b:=λq=>by obtain⟨_,e,j⟩:=g.aY q;rw[d]at j;cases j
  exact⟨by rw[d];exact i.1 b _ (by rw[aa.fQ f];exact d),r⟩
theorem kr{env:Env}{t u:Nat}{v:AV}(h:u≠t):(env.upd t v) u=env u:=by unfold Env.upd;rw[if_neg h]
theorem uk{env:Env}{t:Nat}{v:AV}:(env.upd t v) t=v:=by unfold Env.upd;rw[if_pos rfl]
structure F9(V:Nat->AV)(yk:Env)(σ6:aa)(c c13 K:Nat)(nums:List Int)(T:Int)(X:Int->List AV)(done:List Nat)(env:Env)(σ:aa):Prop where
 base:∀s,s<97->env s=yk s
 dR:∀i,i∈done->i≠33->i≠34->i<36->env (97+i)=V i
 pre:33∉done->σ=σ6
 post:33∈done->36∉done->cB c nums K σ/\∀y,y≠c->σ y=σ6 y
 pick:33∈done->∃p:Int,(0<=p/\p<=3)/\env 130=int p/\(34∈done->env 131=int (T+p))
 all:36∈done->∀j,j<36->j∈done
 dep:34∈done->33∈done
 fin:36∈done->∃p:Int,(0<=p/\p<=3)/\cB c nums K σ/\σ c13=some (.cells (X (T+p)))/\∀y,y≠c->y≠c13->σ y=σ6 y
section
variable{V:Nat->AV}{yk env:Env}{σ6:aa}{c c13 K:Nat}{nums:List Int}{T:Int}{X:Int->List AV}{done:List Nat}
theorem F9.NF(h:F9 V yk σ6 c c13 K nums T X done env σ){i:Nat}(b:i<36)(d:i∉done):36∉done:=λa=>d (h.all a i b)
theorem F9.keep(h:F9 V yk σ6 c c13 K nums T X done env σ){i:Nat}(a:i<36)(b:i∉done){y:Nat}(d:y≠c):σ y=σ6 y:=by
 by_cases q:33∈done
 . exact(h.post q (h.NF a b)).2 y d
 . rw[h.pre q]
theorem F9.next(h:F9 V yk σ6 c c13 K nums T X done env σ){i:Nat}(m:i<36)(n:i∉done)(o:i≠33)(r:i≠34){a:AV}(t:a=V i):F9 V yk σ6 c c13 K nums T X (i::done) (env.upd (97+i) a) σ:=by
 have b:33∈i::done↔33∈done:=by simp[Ne.symm o]
 have d:34∈i::done↔34∈done:=by simp[Ne.symm r]
 have f:=h.NF m n;have k:36∉i::done:=by simp;exact⟨by omega,f⟩
 refine⟨λs u=>?_,λj v w x y=>?_,λq=>h.pre λl=>q (b.2 l),λq _=>h.post (b.1 q) f,λq=>?_,λq=>absurd q k,λq=>b.2 (h.dep (d.1 q)),λq=>absurd q k⟩
 . rw[kr (by omega)];exact h.base s u
 . by_cases e:j=i
   . subst e;rw[uk];exact t
   . rw[kr (by omega)]
     exact h.dR j ((List.mem_cons.1 v).resolve_left e) w x y
 . obtain⟨p,z,l,A⟩:=h.pick (b.1 q)
   exact⟨p,z,by rw[kr (by omega)];exact l,λg=>by rw[kr (by omega)];exact A (d.1 g)⟩
theorem F9.Pf(h:F9 V yk σ6 c c13 K nums T X done env σ)(l:33∉done)(b:34∉done){p:Int}(m:0<=p/\p<=3){σ':aa}(hb:cB c nums K σ')(d:∀y,y≠c->σ' y=σ6 y):F9 V yk σ6 c c13 K nums T X (33::done) (env.upd 130 (int p)) σ':=by
 have e:=h.NF (i:=33) (by omega) l;have a:36∉33::done:=by simp[e]
 have f:34∉33::done:=by simp[b]
 refine⟨λs d=>?_,λj n k o r=>?_,λq=>absurd (by simp) q,λ_ _=>⟨hb,d⟩,λq=>⟨p,m,by rw[uk],λg=>absurd g f⟩,λq=>absurd q a,λ_=>by simp,λq=>absurd q a⟩
 . rw[kr (by omega)];exact h.base s d
 . rw[kr (by omega)]
   exact h.dR j ((List.mem_cons.1 n).resolve_left k) k o r
theorem F9.summed(h:F9 V yk σ6 c c13 K nums T X done env σ)(f:34∉done)(a:33∈done){p:Int}(k:0<=p/\p<=3)(l:env 130=int p):F9 V yk σ6 c c13 K nums T X (34::done) (env.upd 131 (int (T+p))) σ:=by
 have b:=h.NF (i:=34) (by omega) f;have d:36∉34::done:=by simp[b]
 refine⟨λs m=>?_,λj n o e r=>?_,λq=>absurd (by simp[a]) q,λ_ _=>h.post a b,λq=>⟨p,k,by rw[kr (by omega)];exact l,λg=>by rw[uk]⟩,λq=>absurd q d,λ_=>by simp[a],λq=>absurd q d⟩
 . rw[kr (by omega)];exact h.base s m
 . rw[kr (by omega)]
   exact h.dR j ((List.mem_cons.1 n).resolve_left e) o e r
end
theorem Ga{σ0 σ σ':aa}{a c g:AV}{kk k l:Nat}{es m n:List AV}(h:Tok σ0 σ a kk es)(o:Tok σ0 σ c k m)(hd:∀b,bv a=some b->bv c≠some b)(f:Tok (σ.off c) σ' g l n):Tok σ0 σ' a kk es/\∀b,bv a=some b->bv g≠some b:=by
 have key:∀b,bv a=some b->(σ.off c) b=σ b:=λb hb=>aa.fQ (hd b hb)
 refine⟨jC h (aa.le_trans o.here.2 f.1) λb hb=>?_,λb hb q=>?_⟩
 . obtain⟨i,e,d⟩:=h.aY hb
   exact⟨by rw[d];exact f.1 b _ (by rw[key b hb];exact d),i⟩
 . obtain⟨i,e,d⟩:=h.aY hb
   obtain⟨j,_,_⟩:=f.aY q;rw[key b hb,d]at j;cases j
section
variable{c k:Nat}{nums:List Int}
theorem Im{cnt : Int}(hk:k+500<1000000)(hn:nums.length<1152921504606846976)(y5:1<=cnt/\cnt<=6)(hb:cB c nums k σ)(h:∀(f:Fr) (ks:List Int) σ',Bk cnt f ks->nR c nums (k+500) σ σ'->KF (.val (.bk [az f,ints ks])) σ'):ar prog m 55 [.ref c 0,int cnt] σ KF:=by
 obtain⟨n0,s0,_,k2⟩:=id hb;refine fs Te 2 Tryz.func55 rfl rfl (by rfl) (by kernel_rfl) ?_
 simp[Tryz.f55];refine bT.intro λO h4=>?_
 have n4:c≠O:=λe=>by subst e;rw[k2]at h4;cases h4
 have k3:∀x,cB c nums k (σ.set O x):=λx=>⟨n0,s0,by assumption,by rw[aa.ag _ _ n4];exact k2⟩
 simp;refine cf Tryz.func56 rfl (xz (cnt:=0) (by omega) hn ⟨by omega,by omega⟩ (k3 _) λf0 a0 k5 T et q0=>?_)
 obtain rfl:=q0.1 (List.length_eq_zero_iff.1 (by have:=T.len;omega))
 have bB:O≠c:=Ne.symm n4;have k7:k5 O=some (.cells gK):=by rw[et.2 O bB,aa.an]
 refine rn ?_;simp;refine bT.intro λE h6=>?_
 have n6:E≠c:=λe=>by subst e;obtain⟨_,_,_,q⟩:=et.1;rw[q]at h6;cases h6
 have fv:E≠O:=λe=>by subst e;rw[k7]at h6;cases h6
 have k8:σ E=none:=by rw[et.2 E n6,aa.ag _ _ fv]at h6;exact h6
 simp
 have ho:∀x,cB c nums (k+20) (k5.set E x):=λx=>by obtain⟨n,z,g1,U⟩:=et.1;exact⟨n,z,g1,by rw[aa.ag _ _ (Ne.symm n6)];exact U⟩
 refine cf Tryz.func104 rfl (kR (by omega) hn ⟨by omega,by omega⟩ ⟨by omega,by omega⟩ (ho _) λmost ea zj fw=>?_)
 have t6:ea E=some (.cells [.lit (.slice none 0 0),rows f0.roads,int f0.bE,int f0.iQ,int f0.dG,int f0.most]):=by rw[fw.2 E n6,aa.an]
 have t4:ea O=some (.cells gK):=by rw[fw.2 O bB,aa.ag _ _ (Ne.symm fv)];exact k7
 refine rn ?_;simp[t6,aH];obtain⟨mo,rfl⟩:∃mo:Nat,most=(mo:Int):=⟨most.toNat,by omega⟩
 have zm:1<=mo/\mo<=3:=by omega
 have hv:=T.dM;obtain⟨A6,eb⟩:∃A6:AV->List AV,A6=λa=>[a,rows f0.roads,int f0.bE,int f0.iQ,int f0.dG,int mo]:=⟨_,rfl⟩
 have q5:∀a,(A6 a).length=6:=λa=>by rw[eb];rfl
 have a7:σ.del c c=none:=by simp[aa.del]
 have kt:cB c nums (k+21) (ea.set E (.cells (A6 (.lit (.slice none 0 0))))):=by obtain⟨n,z,g1,U⟩:=fw.1;exact⟨n,z,by omega,by rw[aa.ag _ _ (Ne.symm n6)];exact U⟩
 have a8:(σ.del c).Le (ea.set E (.cells (A6 (.lit (.slice none 0 0))))):=λy x J=>by
  have S:y≠c:=λe=>by subst e;rw[a7]at J;cases J
  have y0:σ y=some x:=by simpa[aa.del,S]using J
  have y6:y≠E:=λe=>by subst e;rw[k8]at y0;cases y0
  have y4:y≠O:=λe=>by subst e;rw[h4]at y0;cases y0
  rw[aa.ag _ _ y6,fw.2 y S,aa.ag _ _ y6,et.2 y S,aa.ag _ _ y4];exact y0
 have q7:σ.del c E=none:=by simp[aa.del,k8]
 have zA:σ.del c O=none:=by simp[aa.del,h4]
 have kx:(ea.set E (.cells (A6 (.lit (.slice none 0 0))))) O=some (.cells gK):=by rw[aa.ag _ _ (Ne.symm fv)];exact t4
 refine ab.loop mo (λi s=>∃env σ' la ha L H,s=⟨env,σ',[],.no⟩/\env 0=.ref c 0/\env 1=int cnt/\env 4=.ref O 0/\env 6=.ref E 0/\env 7=la/\env 8=ha/\env 9=int i/\cB c nums (k+21+12*i) σ'/\σ' O=some (.cells gK)/\σ' E=some (.cells (A6 (.lit (.slice none 0 0))))/\bF (σ.del c) σ' la 6 (L.map aS)/\Tok (σ.del c) σ' ha 1 (H.map int)/\fC la≠some c/\fC la≠some O/\fC la≠some E/\L.length=i/\H.length=i/\(∀e∈L,uY f0.roads.length e)/\(∀x∈H,13<=x/\x<=16))
  ⟨_,ea.set E (.cells (A6 (.lit (.slice none 0 0)))),.lit (.slice none 0 0),.lit (.slice none 0 0),[],[],by rw[eb],by simp,by simp,by simp,by simp,by simp,by simp,by simp,kt,kx,aa.an _ _ _,⟨a8,.inl ⟨rfl,.inl rfl⟩⟩,⟨a8,.inl ⟨rfl,rfl⟩⟩,by simp[fC],by simp[fC],by simp[fC],rfl,rfl,by simp,by simp⟩ ?_
 clear kt a8 kx
 rintro c0 i _ hi ⟨env,σ',la,ha,L,H,rfl,R,e1,e4,Q,Z,e8,e9,fx,q4,q6,ev,ey,ez,fO,gd,hz,ky,hA,l1⟩ ih
 have l2:=ev.cells;have l3:=ey.cells;have a9:σ' E=some (.cells [.lit (.slice none 0 0),rows f0.roads,int f0.bE,int f0.iQ,int f0.dG,int mo]):=by rw[q6,eb]
 rcases Nat.lt_or_ge i mo with g1|g1
 . have qb:(i:Int)<mo:=by omega
   have f1:-9223372036854775808<=(i:Int)+1/\(i:Int)+1<=9223372036854775807:=by omega
   refine rn ?_;simp[R,Q,Z,e9,a9,g1];refine cf Tryz.func43 rfl (oZ (by omega) hn ⟨by omega,by omega⟩ fx λe X he N=>?_)
   have l4:∃l,σ' c=some (.cells l):=by obtain⟨_,_,_,q⟩:=fx;exact⟨_,q⟩
   have eA:=F8 ev a7 ez N.2;have l5:=sZ ey a7 l4 N.2;have eB:X O=some (.cells gK):=by rw[N.2 O bB];exact q4
   have eK:X E=some (.cells (A6 (.lit (.slice none 0 0)))):=by rw[N.2 E n6];exact q6
   refine rn ?_;simp;refine jx lay rfl rfl rfl lz rfl lz rfl tx (by decide) (by simp;omega) (σ0:=X.Au la) (es:=L.map aS) (xs:=[aS e]) (by simpa using eA.here.1) (.inl (.inr ⟨_,by simp;rfl⟩)) (by simp) λgj b2 ad=>?_
   have k4:∀y l,fC la≠some y->X y=some l->b2 y=some l:=λy l J hl=>ad.1 _ _ (by rw[aa.qu J];exact hl)
   have l6:=ND l5 eA ad;have hB:=ad.base eA.here.2
   have l7:cB c nums (k+21+12*i+11) b2:=by obtain⟨n,z,g1,U⟩:=N.1;exact⟨n,z,g1,k4 _ _ ez U⟩
   have gH:fC gj≠some c:=λq=>by obtain⟨g,_⟩:=ad.me q;obtain⟨_,_,_,U⟩:=N.1;rw[aa.qu ez,U]at g;cases g
   have lj:fC gj≠some O:=λq=>by obtain⟨g,_⟩:=ad.me q;rw[aa.qu fO,eB]at g;cases g
   have lo:fC gj≠some E:=λq=>by obtain⟨g,_⟩:=ad.me q;rw[aa.qu gd,eK]at g;cases g
   have y8:=ad.cells;refine rn ?_;simp[R,e8];refine cf Tryz.func104 rfl (kR (by omega) hn ⟨by omega,by omega⟩ ⟨by omega,by omega⟩ l7 λx ec qq b3=>?_)
   have lA:∃l,b2 c=some (.cells l):=by obtain⟨_,_,_,q⟩:=l7;exact⟨_,q⟩
   have ca:=sZ l6 a7 lA b3.2;have lB:=F8 hB a7 gH b3.2;refine rn ?_;simp;refine aF lay rfl rfl rfl bC rfl bC rfl oo (by decide) (by simp;omega) (σ0:=ec.off ha) (es:=H.map int) (xs:=[int x]) (by simpa using ca.here.1) (.inr ⟨_,by simp;rfl⟩) λqs σ6 cb=>?_
   have m1:=NE lB ca cb;have hD:=cb.base ca.here.2;have yb:=cb.cells;have k6:∀y l,ec y=some (.cells l)->σ6 y=some (.cells l):=λy l J=>cb.1 _ _ (by rw[aa.fQ (λe=>by obtain⟨_,_,q⟩:=ca.aY e;rw[J]at q;cases q)];exact J)
   have r6:σ6 O=some (.cells gK):=k6 _ _ (by rw[b3.2 O bB];exact k4 _ _ fO eB)
   have ra:σ6 E=some (.cells (A6 (.lit (.slice none 0 0)))):=k6 _ _ (by rw[b3.2 E n6];exact k4 _ _ gd eK)
   have b4:cB c nums (k+21+12*(i+1)) σ6:=by obtain⟨n,z,g1,U⟩:=b3.1;exact⟨n,z,by omega,k6 _ _ U⟩
   refine rn ?_;simp[e9,f1.1,f1.2];refine ih _ g1 ⟨_,σ6,gj,qs,L++[e],H++[x],rfl,by simp[R],by simp[e1],by simp[e4],by simp[Q],by simp,by simp,by simp,b4,r6,ra,by simpa using m1,by simpa using hD,gH,lj,lo,by simp[hz],by simp[ky],λy J=>?_,λy J=>?_⟩
   . rcases List.mem_append.1 J with J|J
     . exact hA y J
     . simp at J;subst J;exact he
   . rcases List.mem_append.1 J with J|J
     . exact l1 y J
     . simp at J;subst J;omega
 . have rr:i=mo:=by omega
   subst rr;clear ih
   obtain⟨F,cap,rest,rfl,r1,r2,r3,r4,r5⟩:∃F cap rest,la=.gn F 0 i cap/\σ.del c F=none/\i<=cap/\(∀e∈L.map aS,e.cells.length=6)/\σ' F=some (.cells (flatten (L.map aS)++rest))/\rest.length=(cap-i)*6:=by
    have ee:(L.map aS).length=i:=by rw[List.length_map,hz]
    rcases ev.2 with⟨e,_⟩|⟨b,cap,rest,g1,U,g3,g4,g5,g6⟩
    . have:=congrArg List.length e
      rw[ee,List.length_nil]at this;omega
    . rw[ee]at g1 g3 g6
      exact⟨b,cap,rest,g1,U,g3,g4,g5,g6⟩
   have av:F≠c:=λe=>ez (by rw[e];rfl)
   have rF:F≠O:=λe=>fO (by rw[e];rfl)
   have hE:F≠E:=λe=>gd (by rw[e];rfl)
   have ym:σ F=none:=by simpa[aa.del,av]using r1
   refine ab.yD 8 (a':=ints H) (by rw[e8];simpa using ey.W) ?_
   have b8:=ey.1;clear ev ey l2 l3 ez fO gd e8;refine rn ?_;simp[R,e1,Q,e9,a9];refine cf Tryz.func104 rfl (kR (by omega) hn ⟨by omega,by omega⟩ ⟨by omega,by omega⟩ fx λq X hq N=>?_)
   have eB:X O=some (.cells gK):=by rw[N.2 O bB];exact q4
   have eK:X E=some (.cells (A6 (.lit (.slice none 0 0)))):=by rw[N.2 E n6];exact q6
   have m2:X F=some (.cells (flatten (L.map aS)++rest)):=by rw[N.2 F av];exact r4
   have a8:(σ.del c).Le X:=λy x J=>by
    have S:y≠c:=λe=>by subst e;rw[a7]at J;cases J
    rw[N.2 y S];exact b8 y x J
   obtain⟨qn,rfl⟩:∃qn:Nat,q=(qn:Int):=⟨q.toNat,by omega⟩
   have zD:1<=qn/\qn<=6:=by omega
   have gP:cB c nums (k+60) X:=N.1.mono (by omega)
   obtain⟨C,hC⟩:∃C,C=L.map (·.bG):=⟨_,rfl⟩;obtain⟨f1,eR⟩:∃f1:Fr,f1=⟨[],f0.roads,f0.bE,f0.iQ,f0.dG,(i:Int)⟩:=⟨_,rfl⟩
   have cg:Seen f1 i C H [] [] L:=⟨rfl,by simp,by simp,λj hj=>by simp at hj,λj hj=>by simp at hj,λa b _ hb=>by simp at hb,λj hj=>by simp at hj,λj hj=>by
    rw[hC,List.getD_eq_getElem?_getD,List.getD_eq_getElem?_getD,List.getElem?_map];have:j<L.length:=by omega
    simp[this],hz⟩
   have gR:∀e∈L,LO f0.roads.length e:=λe he=>by have:=hA e he;exact⟨⟨this.hour.1,by have:=this.hour;omega⟩,this.place,this.bG,this.marks,⟨by have:=this.aQ;omega,by have:=this.aQ;omega⟩,this.fT⟩
   refine rn ?_;simp;have m3:=R;have md:=e4;have mi:=Q;have mm:=Z;clear R e1 e4 Q Z e9 a9 hA r3
   refine ab.loop qn (λj s=>∃env σ' a hh A es ks,s=⟨env,σ',[],.no⟩/\env 0=.ref c 0/\env 4=.ref O 0/\env 6=.ref E 0/\env 7=.gn F 0 i cap/\env 8=ints H/\env 10=hh/\env 11=int ((qn:Int)-j)/\cB c nums (k+60+16*j) σ'/\σ' O=some (.cells gK)/\σ' E=some (.cells (A6 a))/\σ' F=some (.cells (flatten (A.map aS)++rest))/\Tok (σ.del c) σ' a 6 (es.map aS)/\Tok (σ.del c) σ' hh 1 (ks.map int)/\(∀b,bv a=some b->bv hh≠some b)/\Seen f1 i C H ks es A/\(∀e∈A,LO f0.roads.length e)/\(∀e∈es,e.marks.length<=3)/\es.length<=j)
    ⟨_,X,.lit (.slice none 0 0),.lit (.slice none 0 0),L,[],[],rfl,by simp[m3],by simp[md],by simp[mi],by simp[mm],by simp,by simp,by simp,gP,eB,eK,m2,⟨a8,.inl ⟨rfl,rfl⟩⟩,⟨a8,.inl ⟨rfl,rfl⟩⟩,λb hb=>by simp[bv]at hb,cg,gR,by simp,by simp⟩ ?_
   clear m3 md mi mm gP eB eK m2 a8 b8 cg gR q4 q6 fx N r4
   rintro c1 j _ hj ⟨env,σ',a,hh,A,es,ks,rfl,R,e4,Q,Z,e8,cP,aV,hF,q4,q6,ql,b9,eg,gU,D,gp,gw,zG⟩ ih
   have rG:=b9.cells;have l3:=eg.cells;have a9:σ' E=some (.cells [a,rows f0.roads,int f0.bE,int f0.iQ,int f0.dG,int i]):=by rw[q6,eb]
   rcases Nat.lt_or_ge j qn with g1|g1
   . have qb : (0 : Int)<(qn:Int)-j:=by omega
     have jj:(j:Int)<qn:=by omega
     have f2:-9223372036854775808<=(i:Int)-1/\(i:Int)-1<=9223372036854775807:=by omega
     have f3:-9223372036854775808<=(qn:Int)-j-1/\(qn:Int)-j-1<=9223372036854775807:=by omega
     refine rn ?_;simp[R,Q,aV,jj,a9,f2.1,f2.2];refine cf Tryz.func30 rfl (iW (by omega) hn ⟨by omega,by omega⟩ hF λkk X zH N=>?_)
     obtain⟨G,rfl⟩:∃G:Nat,kk=(G:Int):=⟨kk.toNat,by omega⟩
     have bq:G<i:=by omega
     have w6:X E=some (.cells [a,rows f0.roads,int f0.bE,int f0.iQ,int f0.dG,int i]):=by rw[N.2 E n6];exact a9
     refine rn ?_;simp[R,Q,w6];refine cf Tryz.func43 rfl (oZ (by omega) hn ⟨by omega,by omega⟩ N.1 λe b2 he hG=>?_)
     have c5:∀y,y≠c->b2 y=σ' y:=λy J=>(hG.2 y J).trans (N.2 y J)
     have w6:b2 E=some (.cells [a,rows f0.roads,int f0.bE,int f0.iQ,int f0.dG,int i]):=by rw[c5 E n6];exact a9
     have wl:b2 F=some (.cells (flatten (A.map aS)++rest)):=by rw[c5 F av];exact ql
     have w4:b2 O=some (.cells gK):=by rw[c5 O bB];exact q4
     refine rn ?_;simp;refine bT.intro λc13 ax=>?_
     have m0:c13≠c:=λe=>by subst e;obtain⟨_,_,_,q⟩:=hG.1;rw[q]at ax;cases ax
     have m4:c13≠O:=λe=>by subst e;rw[w4]at ax;cases ax
     have m6:c13≠E:=λe=>by subst e;rw[w6]at ax;cases ax
     have ml:c13≠F:=λe=>by subst e;rw[wl]at ax;cases ax
     have gA:G<A.length:=by rw[D.Pe];exact bq
     obtain⟨el,ee⟩:∃el,el=A[G]:=⟨_,rfl⟩;have bz:=gp el (by rw[ee];exact List.getElem_mem gA)
     obtain⟨CL,eW⟩:∃CL,CL=flatten (A.map aS)++rest:=⟨_,rfl⟩;rw[<-eW]at wl;have hH:∀x∈A.map aS,x.cells.length=6:=λx hx=>by obtain⟨y,_,rfl⟩:=List.mem_map.1 hx;rfl
     have cl:(flatten (A.map aS)).length=A.length*6:=by rw[ba (kk:=6) hH,List.length_map]
     have cm:∀t,t<6->CL[G*6+t]?=(aS el).cells[t]?:=λt ht=>by
      rw[eW,List.getElem?_append_left (by rw[cl];omega)]
      exact eT (kk:=6) hH (by rw[List.getElem?_map,List.getElem?_eq_getElem gA,ee];rfl) t ht
     have mn:=cm 0 (by omega)
     have mx:=cm 1 (by omega)
     have mA:=cm 2 (by omega)
     have mB:=cm 3 (by omega)
     simp at mn mx mA mB;simp[R,Z,wl,aa.ag,Ne.symm ml,bq,mA,aH]
     have rM:∀x,cB c nums (k+60+16*j+12) (b2.set c13 x):=λx=>by obtain⟨n,z,g1,U⟩:=hG.1;exact⟨n,z,by omega,by rw[aa.ag _ _ (Ne.symm m0)];exact U⟩
     refine cf Tryz.func30 rfl (iW (by omega) hn ⟨by omega,by omega⟩ (rM _) λsh ec qq b3=>?_)
     have hK:ec c13=some (.cells [int e.hour,int e.place,int el.bG,ints e.marks,int e.aQ,int e.fT]):=by rw[b3.2 c13 m0,aa.an]
     have ei:G<H.length:=by rw[ky];exact bq
     obtain⟨h0,ej⟩:∃h0,h0=H[G]:=⟨_,rfl⟩;have yn:13<=h0/\h0<=16:=l1 _ (by rw[ej];exact List.getElem_mem ei)
     have zR:(H.map int)[G]?=some (int h0):=by rw[List.getElem?_map,List.getElem?_eq_getElem ei,ej];rfl
     have n2:sh=0\/sh=1\/sh=2:=by omega
     have h1:0<=sh/\sh<=2:=by omega
     have n3:f0.bE<=f0.iQ:=T.to.1;have zU:0<=f0.bE/\f0.iQ<=2:=⟨T.fr.1,T.to.2⟩
     have hL:∀x,cB c nums (k+60+16*j+13) (ec.set c13 x):=λx=>by obtain⟨n,z,g1,U⟩:=b3.1;exact⟨n,z,by omega,by rw[aa.ag _ _ (Ne.symm m0)];exact U⟩
     have hO:∀y,y≠c->y≠c13->ec y=σ' y:=λy S y2=>by rw[b3.2 y S,aa.ag _ _ y2,c5 y S]
     have ys:ks.length<1000000:=by rw[D.len];omega
     apply pG (I:=λenv σ6=>∃b,env 0=.ref c 0/\env 4=.ref O 0/\env 6=.ref E 0/\env 7=.gn F 0 i cap/\env 8=ints H/\env 10=hh/\env 11=int ((qn:Int)-j)/\env 12=int G/\env 13=.ref c13 0/\env 80=bool b/\cB c nums (k+60+16*j+14) σ6/\σ6 c13=some (.cells [int e.hour,int e.place,int el.bG,ints e.marks,int h0,int sh])/\(∀y,y≠c->y≠c13->σ6 y=σ' y)/\(b=true->sh≠0)/\(b=false->sh≠1))
     . intro M
       rcases n2 with rfl|rfl|rfl
       . refine ab.runN lay [] 28 ?_
         simp[e8,hK,ei,aH,<-ej];refine M _ _ ⟨false,by simp[R],by simp[e4],by simp[Q],by simp[Z],by simp[e8],by simp[cP],by simp[aV],by simp,by simp,by simp,(hL _).mono (by omega),aa.an _ _ _,λy S y2=>by rw[aa.ag _ _ y2];exact hO y S y2,by simp,by simp⟩
       . refine ab.runN lay [] 28 ?_
         simp[e8,hK,ei,aH,<-ej];refine M _ _ ⟨true,by simp[R],by simp[e4],by simp[Q],by simp[Z],by simp[e8],by simp[cP],by simp[aV],by simp,by simp,by simp,(hL _).mono (by omega),aa.an _ _ _,λy S y2=>by rw[aa.ag _ _ y2];exact hO y S y2,by simp,by simp⟩
       . refine ab.runN lay [] 28 ?_
         simp[R,e8,hK,ei,aH,<-ej];refine cf Tryz.func98 rfl (F4 (by omega) hn ⟨by omega,by omega⟩ (hL _) λb σ6 hP=>?_)
         refine ab.runN lay [] 3 ?_;simp;refine M _ _ ⟨b,by simp[R],by simp[e4],by simp[Q],by simp[Z],by simp[e8],by simp[cP],by simp[aV],by simp,by simp,by simp,hP.1,by rw[hP.2 c13 m0,aa.an],λy S y2=>by rw[hP.2 y S,aa.ag _ _ y2];exact hO y S y2,by simp,by simp⟩
     clear R e4 Q Z e8 cP aV
     rintro env σ6 ⟨b,R,e4,Q,Z,e8,cP,aV,bh,P,hR,b4,Y,ay,n5,n9⟩
     apply pG (I:=λenv σ6=>∃ht,env 0=.ref c 0/\env 4=.ref O 0/\env 6=.ref E 0/\env 7=.gn F 0 i cap/\env 8=ints H/\env 10=hh/\env 11=int ((qn:Int)-j)/\env 12=int G/\env 13=.ref c13 0/\env 95=int (qK ks G)/\cB c nums (k+60+16*j+15) σ6/\σ6 c13=some (.cells [int e.hour,int e.place,int el.bG,ints e.marks,int ht,int sh])/\(∀y,y≠c->y≠c13->σ6 y=σ' y)/\((sh≠1/\ht=h0)\/(sh≠0/\∃y,f0.bE<=y/\y<=f0.iQ/\ht=h0+y)))
     . intro M
       have hW:Wl [hh,int G] [ints ks,int G]:=.cons (by simpa using eg.W) (.cons (.refl _) .nil)
       cases b
       . refine rn ?_
         simp[cP,bh,hR];refine aT Tryz.func105 rfl rfl hW (sV (by omega) ?_)
         refine M _ _ ⟨h0,by simp[R],by simp[e4],by simp[Q],by simp[Z],by simp[e8],by simp[cP],by simp[aV],by simp[bh],by simp[P],by simp,b4.mono (by omega),Y,ay,.inl ⟨n9 rfl,rfl⟩⟩
       . have v6 : σ6 E=some (.cells [a,rows f0.roads,int f0.bE,int f0.iQ,int f0.dG,int i]):=by rw[ay E n6 (Ne.symm m6)];exact a9
         have CM:=T.fr;have ev:=T.to;refine rn ?_;simp[R,Q,P,hR,Y,v6]
         repeat' (first
                   |apply And.intro
                   | (refine cf Tryz.func104 rfl (kR (by omega) hn ⟨by omega,by omega⟩ ⟨by omega,by omega⟩ b4 λy K J hS=>?_)
                      have s3:K c13=some (.cells [int e.hour,int e.place,int el.bG,ints e.marks,int h0,int sh]):=by rw[hS.2 c13 m0];exact Y
                      have f4:-9223372036854775808<=h0+y/\h0+y<=9223372036854775807:=by omega
                      refine pg ?_;simp[R,e4,Q,Z,e8,cP,aV,bh,P,s3,f4.1,f4.2,aH];refine rn ?_;simp[R,e4,Q,Z,e8,cP,aV,bh,P];refine aT Tryz.func105 rfl rfl hW (sV (by omega) ?_)
                      refine M _ _ ⟨h0+y,by simp[R],by simp[e4],by simp[Q],by simp[Z],by simp[e8],by simp[cP],by simp[aV],by simp[bh],by simp[P],by simp,?_,aa.an _ _ _,λz S y2=>by rw[aa.ag _ _ y2,hS.2 z S];exact ay z S y2,.inr ⟨n5 rfl,y,by omega,by omega,rfl⟩⟩
                      obtain⟨n,z,g1,U⟩:=hS.1;exact⟨n,z,by omega,by rw[aa.ag _ _ (Ne.symm m0)];exact U⟩))
     clear b4 Y ay R e4 Q Z e8 cP aV bh P hR n5 n9
     rintro env σ6 ⟨ht,R,e4,Q,Z,e8,cP,aV,bh,P,hT,b4,Y,ay,nh⟩
     have hU:0<=ht/\ht<=30:=by rcases nh with⟨_,q⟩|⟨_,y,q1,q2,q3⟩<;>omega
     have b1:=Fr.eh (T.fits (by omega)) (T.check (by omega))
     have F2:∀x∈A,x.marks.length<=3:=λx hx=>(ja (gp x hx).marks).2
     have s4:=(ja he.marks).2;have z0:=(ja bz.marks).2;have nq:=he.place;have nt:=bz.place;have z1:=bz.hour;have ob:=T.dG;apply pG (I:=λenv K=>∃hr,env 0=.ref c 0/\env 4=.ref O 0/\env 6=.ref E 0/\env 7=.gn F 0 i cap/\env 8=ints H/\env 10=hh/\env 11=int ((qn:Int)-j)/\env 12=int G/\env 13=.ref c13 0/\cB c nums (k+60+16*j+16) K/\K c13=some (.cells [int hr,int e.place,int el.bG,ints e.marks,int ht,int sh])/\(∀y,y≠c->y≠c13->K y=σ' y)/\(0<=hr/\hr<=1000)/\((G:Int)∈ks->Ny f1 el {e with hour:=hr}))
     . intro M
       by_cases hX:(G:Int)∈ks
       . have q2:qK ks G>=0:=(mD ks G).2 hX
         obtain⟨rw,cv⟩:∃rw,rw=f0.roads[el.place.toNat]'(by omega):=⟨_,rfl⟩
         have h2:=b1.row (i:=el.place.toNat) (by omega)
         rw[<-cv]at h2;have dd:e.place.toNat<rw.length:=by omega
         obtain⟨r,gB⟩:∃r,r=rw[e.place.toNat]:=⟨_,rfl⟩;have G0:=h2.2 r (by rw[gB];exact List.getElem_mem dd)
         have b5:el.place.toNat<f0.roads.length:=by omega
         have H0:(f0.roads.map ints)[el.place.toNat]?=some (ints rw):=by rw[List.getElem?_map,List.getElem?_eq_getElem b5,cv];rfl
         have hr:(rw.map int)[e.place.toNat]?=some (int r):=by rw[List.getElem?_map,List.getElem?_eq_getElem dd,gB];rfl
         have oj:=dd;obtain⟨ch,hY⟩:∃ch,ch=RN el.marks e.marks:=⟨_,rfl⟩
         have fc:0<=ch/\ch<=6:=by have q1:=om el.marks e.marks;have q2:=om e.marks el.marks;rw[hY];unfold RN;omega
         have IH:0<=f0.dG*ch/\f0.dG*ch<=24:=⟨Int.mul_nonneg (by omega) fc.1,Int.le_trans (Int.mul_le_mul ob.2 fc.2 fc.1 (by omega)) (by omega)⟩
         have ox:-9223372036854775808<=el.hour+r/\el.hour+r<=9223372036854775807:=by omega
         have oF:-9223372036854775808<=f0.dG*ch/\f0.dG*ch<=9223372036854775807:=by omega
         have oG:-9223372036854775808<=el.hour+r+f0.dG*ch/\el.hour+r+f0.dG*ch<=9223372036854775807:=by omega
         have hZ:σ6 F=some (.cells CL):=by rw[ay F av (Ne.symm ml),<-c5 F av];exact wl
         have h3:σ6 E=some (.cells [a,rows f0.roads,int f0.bE,int f0.iQ,int f0.dG,int i]):=by rw[ay E n6 (Ne.symm m6)];exact a9
         refine ab.runN lay [] 3 ?_;simp[hT,q2]
         obtain⟨V,hV⟩:∃V:Nat->AV,V=λj=>([.gn F 0 i cap,int G,.ref F (G*6),.ref F (G*6),int el.hour,.ref E 1,rows f0.roads,.gn F 0 i cap,int G,.ref F (G*6),.ref F (G*6+1),int el.place,.cp (ints rw) 0,ints rw,.ref c13 1,int e.place,.cp (int r) 0,int r,int (el.hour+r),.ref E 4,int f0.dG,.gn F 0 i cap,int G,.ref F (G*6),.ref F (G*6+3),ints el.marks,.ref c13 3,ints e.marks,int ch,int (f0.dG*ch),int (el.hour+r+f0.dG*ch),.ref c 0,.sl 1 (([0,0,1,3]:List Int).map int) .exact,int 0,int 0,.ref c13 0]:List AV).getD j (int 0):=⟨_,rfl⟩
         have o:∀j,V j=_:=λj=>congrFun hV j
         refine ab.Nh (F9 V (env.upd 96 (bool true)) σ6 c c13 (k+60+16*j+16) nums (el.hour+r+f0.dG*ch) (λz=>[int z,int e.place,int el.bG,ints e.marks,int ht,int sh])) lay.mixed (by rfl) ⟨λ_ _=>rfl,by simp,λ_=>rfl,by simp,by simp,by simp,by simp,by simp⟩ ?_ ?_
         . intro done i d K B w oK u
           have oK:i<37:=oK
           rcases(show i=0\/i=1\/i=2\/i=3\/i=4\/i=5\/i=6\/i=7\/i=8\/i=9\/i=10\/i=11\/i=12\/i=13\/i=14\/i=15\/i=16\/i=17\/i=18\/i=19\/i=20\/i=21\/i=22\/i=23\/i=24\/i=25\/i=26\/i=27\/i=28\/i=29\/i=30\/i=31\/i=32\/i=33\/i=34\/i=35\/i=36 by omega)with rfl|rfl|rfl|rfl|rfl|rfl|rfl|rfl|rfl|rfl|rfl|rfl|rfl|rfl|rfl|rfl|rfl|rfl|rfl|rfl|rfl|rfl|rfl|rfl|rfl|rfl|rfl|rfl|rfl|rfl|rfl|rfl|rfl|rfl|rfl|rfl|rfl
           . have b7:d 7=.gn F 0 i cap:=(u.base 7 (by omega)).trans Z
             refine bj lay (mu:=[]) ?_;simp[b7];exact u.next (i:=0) (by omega) w (by omega) (by omega) ((o 0).symm)
           . have fi:d 12=int G:=(u.base 12 (by omega)).trans bh
             refine bj lay (mu:=[]) ?_;simp[fi];exact u.next (i:=1) (by omega) w (by omega) (by omega) ((o 1).symm)
           . have d0:d 97=.gn F 0 i cap:=(u.dR 0 (B 0 (by rfl)) (by omega) (by omega) (by omega)).trans (o 0)
             have d1:d 98=int G:=(u.dR 1 (B 1 (by rfl)) (by omega) (by omega) (by omega)).trans (o 1)
             refine bj lay (mu:=[]) ?_;simp[d0,d1,bq];exact u.next (i:=2) (by omega) w (by omega) (by omega) ((o 2).symm)
           . have d2:d 99=.ref F (G*6):=(u.dR 2 (B 2 (by rfl)) (by omega) (by omega) (by omega)).trans (o 2)
             refine bj lay (mu:=[]) ?_;simp[d2];exact u.next (i:=3) (by omega) w (by omega) (by omega) ((o 3).symm)
           . have d3:d 100=.ref F (G*6):=(u.dR 3 (B 3 (by rfl)) (by omega) (by omega) (by omega)).trans (o 3)
             have kl:=u.keep (by omega) w (y:=F) av;rw[hZ]at kl
             refine bj lay (mu:=[]) ?_;simp[kl,mn,d3];exact u.next (i:=4) (by omega) w (by omega) (by omega) ((o 4).symm)
           . have b6:d 6=.ref E 0:=(u.base 6 (by omega)).trans Q
             refine bj lay (mu:=[]) ?_;simp[b6];exact u.next (i:=5) (by omega) w (by omega) (by omega) ((o 5).symm)
           . have d5:d 102=.ref E 1:=(u.dR 5 (B 5 (by rfl)) (by omega) (by omega) (by omega)).trans (o 5)
             have k6:=u.keep (by omega) w (y:=E) n6;rw[h3]at k6
             refine bj lay (mu:=[]) ?_;simp[k6,d5];exact u.next (i:=6) (by omega) w (by omega) (by omega) ((o 6).symm)
           . have b7:d 7=.gn F 0 i cap:=(u.base 7 (by omega)).trans Z
             refine bj lay (mu:=[]) ?_;simp[b7];exact u.next (i:=7) (by omega) w (by omega) (by omega) ((o 7).symm)
           . have fi:d 12=int G:=(u.base 12 (by omega)).trans bh
             refine bj lay (mu:=[]) ?_;simp[fi];exact u.next (i:=8) (by omega) w (by omega) (by omega) ((o 8).symm)
           . have d7:d 104=.gn F 0 i cap:=(u.dR 7 (B 7 (by rfl)) (by omega) (by omega) (by omega)).trans (o 7)
             have d8:d 105=int G:=(u.dR 8 (B 8 (by rfl)) (by omega) (by omega) (by omega)).trans (o 8)
             refine bj lay (mu:=[]) ?_;simp[d7,d8,bq];exact u.next (i:=9) (by omega) w (by omega) (by omega) ((o 9).symm)
           . have d9:d 106=.ref F (G*6):=(u.dR 9 (B 9 (by rfl)) (by omega) (by omega) (by omega)).trans (o 9)
             refine bj lay (mu:=[]) ?_;simp[d9];exact u.next (i:=10) (by omega) w (by omega) (by omega) ((o 10).symm)
           . have s5:d 107=.ref F (G*6+1):=(u.dR 10 (B 10 (by rfl)) (by omega) (by omega) (by omega)).trans (o 10)
             have kl:=u.keep (by omega) w (y:=F) av;rw[hZ]at kl
             refine bj lay (mu:=[]) ?_;simp[kl,mx,s5];exact u.next (i:=11) (by omega) w (by omega) (by omega) ((o 11).symm)
           . have d6:d 103=rows f0.roads:=(u.dR 6 (B 6 (by rfl)) (by omega) (by omega) (by omega)).trans (o 6)
             have s6:d 108=int el.place:=(u.dR 11 (B 11 (by rfl)) (by omega) (by omega) (by omega)).trans (o 11)
             refine bj lay (mu:=[]) ?_;simp[d6,s6,b5];refine⟨nt.1,?_⟩;rw[<-cv];exact u.next (i:=12) (by omega) w (by omega) (by omega) ((o 12).symm)
           . have s7:d 109=.cp (ints rw) 0:=(u.dR 12 (B 12 (by rfl)) (by omega) (by omega) (by omega)).trans (o 12)
             refine bj lay (mu:=[]) ?_;simp[s7];exact u.next (i:=13) (by omega) w (by omega) (by omega) ((o 13).symm)
           . have fl:d 13=.ref c13 0:=(u.base 13 (by omega)).trans P
             refine bj lay (mu:=[]) ?_;simp[fl];exact u.next (i:=14) (by omega) w (by omega) (by omega) ((o 14).symm)
           . have sb:d 111=.ref c13 1:=(u.dR 14 (B 14 (by rfl)) (by omega) (by omega) (by omega)).trans (o 14)
             have c7:=u.keep (by omega) w (y:=c13) m0;rw[Y]at c7
             refine bj lay (mu:=[]) ?_;simp[c7,sb];exact u.next (i:=15) (by omega) w (by omega) (by omega) ((o 15).symm)
           . have sg:d 110=ints rw:=(u.dR 13 (B 13 (by rfl)) (by omega) (by omega) (by omega)).trans (o 13)
             have si:d 112=int e.place:=(u.dR 15 (B 15 (by rfl)) (by omega) (by omega) (by omega)).trans (o 15)
             refine bj lay (mu:=[]) ?_;simp[sg,si,oj];refine⟨nq.1,?_⟩;rw[<-gB];exact u.next (i:=16) (by omega) w (by omega) (by omega) ((o 16).symm)
           . have sj:d 113=.cp (int r) 0:=(u.dR 16 (B 16 (by rfl)) (by omega) (by omega) (by omega)).trans (o 16)
             refine bj lay (mu:=[]) ?_;simp[sj];exact u.next (i:=17) (by omega) w (by omega) (by omega) ((o 17).symm)
           . have d4:d 101=int el.hour:=(u.dR 4 (B 4 (by rfl)) (by omega) (by omega) (by omega)).trans (o 4)
             have so:d 114=int r:=(u.dR 17 (B 17 (by rfl)) (by omega) (by omega) (by omega)).trans (o 17)
             refine bj lay (mu:=[]) ?_;simp[d4,so,ox.1,ox.2];exact u.next (i:=18) (by omega) w (by omega) (by omega) ((o 18).symm)
           . have b6:d 6=.ref E 0:=(u.base 6 (by omega)).trans Q
             refine bj lay (mu:=[]) ?_;simp[b6];exact u.next (i:=19) (by omega) w (by omega) (by omega) ((o 19).symm)
           . have sr:d 116=.ref E 4:=(u.dR 19 (B 19 (by rfl)) (by omega) (by omega) (by omega)).trans (o 19)
             have k6:=u.keep (by omega) w (y:=E) n6;rw[h3]at k6
             refine bj lay (mu:=[]) ?_;simp[k6,sr];exact u.next (i:=20) (by omega) w (by omega) (by omega) ((o 20).symm)
           . have b7:d 7=.gn F 0 i cap:=(u.base 7 (by omega)).trans Z
             refine bj lay (mu:=[]) ?_;simp[b7];exact u.next (i:=21) (by omega) w (by omega) (by omega) ((o 21).symm)
           . have fi:d 12=int G:=(u.base 12 (by omega)).trans bh
             refine bj lay (mu:=[]) ?_;simp[fi];exact u.next (i:=22) (by omega) w (by omega) (by omega) ((o 22).symm)
           . have sy:d 118=.gn F 0 i cap:=(u.dR 21 (B 21 (by rfl)) (by omega) (by omega) (by omega)).trans (o 21)
             have tc:d 119=int G:=(u.dR 22 (B 22 (by rfl)) (by omega) (by omega) (by omega)).trans (o 22)
             refine bj lay (mu:=[]) ?_;simp[sy,tc,bq];exact u.next (i:=23) (by omega) w (by omega) (by omega) ((o 23).symm)
           . have td:d 120=.ref F (G*6):=(u.dR 23 (B 23 (by rfl)) (by omega) (by omega) (by omega)).trans (o 23)
             refine bj lay (mu:=[]) ?_;simp[td];exact u.next (i:=24) (by omega) w (by omega) (by omega) ((o 24).symm)
           . have tf:d 121=.ref F (G*6+3):=(u.dR 24 (B 24 (by rfl)) (by omega) (by omega) (by omega)).trans (o 24)
             have kl:=u.keep (by omega) w (y:=F) av;rw[hZ]at kl
             refine bj lay (mu:=[]) ?_;simp[kl,mB,tf];exact u.next (i:=25) (by omega) w (by omega) (by omega) ((o 25).symm)
           . have fl:d 13=.ref c13 0:=(u.base 13 (by omega)).trans P
             refine bj lay (mu:=[]) ?_;simp[fl];exact u.next (i:=26) (by omega) w (by omega) (by omega) ((o 26).symm)
           . have tm:d 123=.ref c13 3:=(u.dR 26 (B 26 (by rfl)) (by omega) (by omega) (by omega)).trans (o 26)
             have c7:=u.keep (by omega) w (y:=c13) m0;rw[Y]at c7
             refine bj lay (mu:=[]) ?_;simp[c7,tm];exact u.next (i:=27) (by omega) w (by omega) (by omega) ((o 27).symm)
           . have tr:d 122=ints el.marks:=(u.dR 25 (B 25 (by rfl)) (by omega) (by omega) (by omega)).trans (o 25)
             have ts:d 124=ints e.marks:=(u.dR 27 (B 27 (by rfl)) (by omega) (by omega) (by omega)).trans (o 27)
             refine bj lay (mu:=[]) ?_;simp[tr,ts];refine cf Tryz.func106 rfl (EX (by omega) (by omega) ?_)
             refine pg ?_;simp;exact u.next (i:=28) (by omega) w (by omega) (by omega) (by rw[o,hY];rfl)
           . have vc:d 117=int f0.dG:=(u.dR 20 (B 20 (by rfl)) (by omega) (by omega) (by omega)).trans (o 20)
             have vj:d 125=int ch:=(u.dR 28 (B 28 (by rfl)) (by omega) (by omega) (by omega)).trans (o 28)
             refine bj lay (mu:=[]) ?_;simp[vc,vj,oF.1,oF.2];exact u.next (i:=29) (by omega) w (by omega) (by omega) ((o 29).symm)
           . have vx:d 115=int (el.hour+r):=(u.dR 18 (B 18 (by rfl)) (by omega) (by omega) (by omega)).trans (o 18)
             have wi:d 126=int (f0.dG*ch):=(u.dR 29 (B 29 (by rfl)) (by omega) (by omega) (by omega)).trans (o 29)
             refine bj lay (mu:=[]) ?_;simp[vx,wi,oG.1,oG.2];exact u.next (i:=30) (by omega) w (by omega) (by omega) ((o 30).symm)
           . have b0:d 0=.ref c 0:=(u.base 0 (by omega)).trans R
             refine bj lay (mu:=[]) ?_;simp[b0];exact u.next (i:=31) (by omega) w (by omega) (by omega) ((o 31).symm)
           . refine bj lay (mu:=[]) ?_
             simp;exact u.next (i:=32) (by omega) w (by omega) (by omega) ((o 32).symm)
           . have wx:d 128=.ref c 0:=(u.dR 31 (B 31 (by rfl)) (by omega) (by omega) (by omega)).trans (o 31)
             have wy:d 129=.sl 1 (([0,0,1,3]:List Int).map int) .exact:=(u.dR 32 (B 32 (by rfl)) (by omega) (by omega) (by omega)).trans (o 32)
             refine bj lay (mu:=[]) ?_;simp[wx,wy];have wK:=u.pre w;subst wK;have wL:34∉done:=λq=>w (u.dep q)
             refine cf Tryz.func97 rfl (qF (l:=[0,0,1,3]) (by omega) hn ⟨by decide,by decide⟩ b4 λp Kp hp oL=>?_)
             refine pg ?_;simp;exact u.Pf w wL (p:=p) (by simp at hp;omega) (oL.1.mono (by omega)) oL.2
           . have wN:d 127=int (el.hour+r+f0.dG*ch):=(u.dR 30 (B 30 (by rfl)) (by omega) (by omega) (by omega)).trans (o 30)
             have c8:=B 33 (by rfl)
             obtain⟨p,hp,Ea,_⟩:=u.pick c8;have oM:-9223372036854775808<=el.hour+r+f0.dG*ch+p/\el.hour+r+f0.dG*ch+p<=9223372036854775807:=by omega
             refine bj lay (mu:=[]) ?_;simp[wN,Ea,oM.1,oM.2];exact u.summed w c8 hp Ea
           . have fl:d 13=.ref c13 0:=(u.base 13 (by omega)).trans P
             refine bj lay (mu:=[]) ?_;simp[fl];exact u.next (i:=35) (by omega) w (by omega) (by omega) ((o 35).symm)
           . have wS:d 132=.ref c13 0:=(u.dR 35 (B 35 (by rfl)) (by omega) (by omega) (by omega)).trans (o 35)
             have c8:=B 33 (by rfl)
             have x0:=B 34 (by rfl)
             obtain⟨p,hp,Ea,Eb⟩:=u.pick c8;have Eb:=Eb x0;obtain⟨x3,hv⟩:=u.post c8 w;have c7:=(hv c13 m0).trans Y;refine bj lay (mu:=[]) ?_;simp[wS,Eb,c7,aH]
             refine⟨u.base,λj hj g3 g4 g5=>u.dR j ((List.mem_cons.1 hj).resolve_left (by omega)) g3 g4 g5,λq=>absurd (List.mem_cons_of_mem _ c8) q,λ_ q=>absurd (List.mem_cons_self ..) q,λ_=>⟨p,hp,Ea,λ_=>Eb⟩,λ_ j hj=>List.mem_cons_of_mem _ (B j ((by decide:∀j:Fin 36,iX _ j.val 36=true) ⟨j,hj⟩)),λ_=>List.mem_cons_of_mem _ c8,λ_=>⟨p,hp,?_,aa.an _ _ _,λy S y2=>by rw[aa.ag _ _ y2];exact hv y S⟩⟩
             obtain⟨n,z,g1,U⟩:=x3;exact⟨n,z,g1,by rw[aa.ag _ _ (Ne.symm m0)];exact U⟩
         . intro done z2 K oN u
           obtain⟨p,hp,g1,U,g3⟩:=u.fin (oN 36 (by decide))
           have hb:=λ(t:Nat) (ht:t<96)=>(u.base t (by omega)).trans (kr (env:=env) (v:=bool true) (show t≠96 by omega))
           refine M _ _ ⟨el.hour+r+f0.dG*ch+p,(hb 0 (by omega)).trans R,(hb 4 (by omega)).trans e4,(hb 6 (by omega)).trans Q,(hb 7 (by omega)).trans Z,(hb 8 (by omega)).trans e8,(hb 10 (by omega)).trans cP,(hb 11 (by omega)).trans aV,(hb 12 (by omega)).trans bh,(hb 13 (by omega)).trans P,g1,U,λy S y2=>(g3 y S y2).trans (ay y S y2),by omega,λ_=>?_⟩
           have x4:rd f1.roads el.place.toNat e.place.toNat=r:=by rw[eR];unfold rd;rw[List.getD_eq_getElem?_getD,List.getD_eq_getElem?_getD,List.getElem?_eq_getElem b5,Option.getD_some,<-cv,List.getElem?_eq_getElem dd,<-gB];rfl
           have x5:f1.dG=f0.dG:=by rw[eR]
           unfold Ny;rw[x4,x5,<-Dd bz.marks he.marks,<-hY];show r+f0.dG*ch<=el.hour+r+f0.dG*ch+p-el.hour;omega
       . have q2:¬qK ks G>=0:=λq=>hX ((mD ks G).1 q)
         refine ab.runN lay [] 4 ?_;simp[hT,q2];refine M _ _ ⟨e.hour,by simp[R],by simp[e4],by simp[Q],by simp[Z],by simp[e8],by simp[cP],by simp[aV],by simp[bh],by simp[P],b4.mono (by omega),Y,ay,by have:=he.hour;omega,λq=>absurd q hX⟩
     clear b4 Y ay R e4 Q Z e8 cP aV bh P hT
     rintro env K ⟨hr,R,e4,Q,Z,e8,cP,aV,bh,P,oS,Y,ep,xb,p0⟩
     have xn:σ.del c c13=none:=by
      cases hx:σ.del c c13 with
      |none=>rfl
      |some x=>have:=b9.1 _ _ hx;rw[<-c5 c13 m0,ax]at this;cases this
     have b8:(σ.del c).Le K:=λy x J=>by
      have S:y≠c:=λe=>by subst e;rw[a7]at J;cases J
      have y2:y≠c13:=λe=>by subst e;rw[xn]at J;cases J
      rw[ep y S y2];exact b9.1 y x J
     have ic:∀b x,σ' b=some x->(∀l,x≠.cells l)->K b=σ' b:=λb x hb hx=>by
      refine ep b (λe=>?_) λe=>?_
      . rw[e]at hb;obtain⟨_,_,_,q⟩:=hF;rw[q]at hb;cases hb;exact hx _ rfl
      . rw[e,<-c5 c13 m0,ax]at hb;cases hb
     have dj:Tok (σ.del c) K a 6 (es.map aS):=jC b9 b8 λb hb=>by obtain⟨g1,l,U⟩:=b9.aY hb;exact⟨ic b _ U (by simp),g1⟩
     have dr:Tok (σ.del c) K hh 1 (ks.map int):=jC eg b8 λb hb=>by obtain⟨g1,l,U⟩:=eg.aY hb;exact⟨ic b _ U (by simp),g1⟩
     have t4:K O=some (.cells gK):=by rw[ep O bB (Ne.symm m4)];exact q4
     have t6:K E=some (.cells (A6 a)):=by rw[ep E n6 (Ne.symm m6)];exact q6
     have tl:K F=some (.cells (flatten (A.map aS)++rest)):=by rw[ep F av (Ne.symm ml)];exact ql
     clear b9 eg q4 q6 ql a9 ep ic
     rcases Int.lt_or_le 72 hr with p5|p5
     . refine rn ?_
       simp[aV,P,Y,p5,f3.1,f3.2];refine ih _ g1 ⟨_,K,a,hh,A,es,ks,rfl,by simp[R],by simp[e4],by simp[Q],by simp[Z],by simp[e8],by simp[cP],by simp;omega,oS.mono (by omega),t4,t6,tl,dj,dr,gU,D,gp,gw,by omega⟩
     . have p6:¬hr>72:=by omega
       obtain⟨n1,p7⟩:∃n1:gq,n1=⟨hr,e.place,el.bG,e.marks,ht,sh⟩:=⟨_,rfl⟩;obtain⟨bA,h5⟩:∃bA,bA=flatten ((A.set G n1).map aS)++rest:=⟨_,rfl⟩;have p8:G*6+6<=CL.length:=by rw[eW,List.length_append,cl];omega
       have pa:aH CL (G*6) [int hr,int e.place,int el.bG,ints e.marks,int ht,int sh]=bA:=by
        have:=zM (k:=6) (A.map aS) G (aS n1) (by rw[List.length_map];exact gA) hH rfl
        rw[h5,List.map_set,<-this,eW];unfold aH;rw[List.take_append_of_le_length (by rw[cl];omega),List.drop_append_of_le_length (by rw[cl];simp;omega),p7]
        simp
       rw[<-eW]at tl;have l2:=dj.cells;have z3:=dr.cells;have pb:K E=some (.cells [a,rows f0.roads,int f0.bE,int f0.iQ,int f0.dG,int i]):=by rw[t6,eb]
       have Kq:=Ne.symm ml;refine rn ?_;simp[Q,Z,bh,P,Y,p6,tl,bq,pa,p8,aa.ag,hE.symm,ml,pb];subst p7;have xo:bv a≠some F:=λe=>by obtain⟨_,_,q⟩:=dj.aY e;rw[tl]at q;cases q
       have pd:bv hh≠some F:=λe=>by obtain⟨_,_,q⟩:=dr.aY e;rw[tl]at q;cases q
       have dx:Tok (σ.del c) (K.set F (.cells bA)) a 6 (es.map aS):=dj.beside r1 xo;have pk:Tok (σ.del c) (K.set F (.cells bA)) hh 1 (ks.map int):=dr.beside r1 pd;have z5:(es.map aS).length<=6:=by rw[List.length_map];omega
       have za:(ks.map int).length<=6:=by rw[List.length_map,D.len];omega
       refine aF lay rfl rfl rfl lz rfl lz rfl tx (by decide) (by simp;omega) (σ0:=(K.set F (.cells bA)).off a) (es:=es.map aS) (xs:=[aS ⟨hr,e.place,el.bG,e.marks,ht,sh⟩]) (by simpa using dx.here.1) (.inr ⟨_,by simp;rfl⟩) λa' ie ix=>?_
       obtain⟨dy,xt⟩:=Ga pk dx (λb hb q=>gU b q hb) ix
       have h7:=ix.base dx.here.2;have k9:∀y l,(K.set F (.cells bA)) y=some (.cells l)->ie y=some (.cells l):=λy l J=>ix.1 _ _ (by rw[aa.fQ (λe=>by obtain⟨_,_,q⟩:=dx.aY e;rw[J]at q;cases q)];exact J)
       have h8:=h7.cells;refine rn ?_;simp[cP,bh];refine aF lay rfl rfl rfl bC rfl bC rfl oo (by decide) (by simp;omega) (σ0:=ie.off hh) (es:=ks.map int) (xs:=[int G]) (by simpa using dy.here.1) (.inr ⟨_,by simp;rfl⟩) λxF al fp=>?_
       obtain⟨k0,ps⟩:=Ga h7 dy (λb hb q=>xt b q hb) fp
       have ft:=fp.base dy.here.2;have xG:=ft.cells;have gC:∀y l,ie y=some (.cells l)->al y=some (.cells l):=λy l J=>fp.1 _ _ (by rw[aa.fQ (λe=>by obtain⟨_,_,q⟩:=dy.aY e;rw[J]at q;cases q)];exact J)
       have z6:al E=some (.cells [a,rows f0.roads,int f0.bE,int f0.iQ,int f0.dG,int i]):=gC _ _ (k9 _ _ (by rw[aa.ag _ _ (Ne.symm hE)];exact pb))
       have z4:al O=some (.cells gK):=gC _ _ (k9 _ _ (by rw[aa.ag _ _ (Ne.symm rF)];exact t4))
       have zl:al F=some (.cells bA):=gC _ _ (k9 _ _ (aa.an _ _ _));refine rn ?_;simp[Q,aV,z6,aH,h8.1,h8.2,f3.1,f3.2];have pA:LO f0.roads.length ⟨hr,e.place,el.bG,e.marks,ht,sh⟩:=⟨⟨xb.1,by omega⟩,he.place,bz.bG,he.marks,hU,h1⟩
       have pB:A.getD G ui=el:=by rw[List.getD_eq_getElem?_getD,List.getElem?_eq_getElem gA,ee];rfl
       have pO:H.getD G 0=h0:=by rw[List.getD_eq_getElem?_getD,List.getElem?_eq_getElem ei,ej];rfl
       have gD:=D.push (k:=G) (n:=⟨hr,e.place,el.bG,e.marks,ht,sh⟩) bq (by rw[eR];exact pA.check) (by rw[pB]) (by rw[pO,eR];refine LP n3 h1 ?_;exact nh) (λq=>by rw[pB];exact p0 q)
       have h9:∀{x:AV}{kk:Nat}{l:List AV},Tok (σ.del c) al x kk l->Tok (σ.del c) (al.set E (.cells (A6 a'))) x kk l:=λ{x kk l} hx=>hx.beside q7 (λe=>by obtain⟨_,_,q⟩:=hx.aY e;rw[z6]at q;cases q)
       refine ih _ g1 ⟨_,al.set E (.cells (A6 a')),a',xF,A.set G ⟨hr,e.place,el.bG,e.marks,ht,sh⟩,es++[⟨hr,e.place,el.bG,e.marks,ht,sh⟩],ks++[(G:Int)],by rw[eb],by simp[R],by simp[e4],by simp[Q],by simp[Z],by simp[e8],by simp,by simp;omega,?_,?_,aa.an _ _ _,?_,by have:=h9 k0;simpa using this,by have:=h9 ft;simpa using this,λb hb=>ps b hb,gD,λx hx=>?_,λx hx=>?_,by simp;omega⟩
       . obtain⟨n,z,g1,U⟩:=oS
         exact⟨n,z,by omega,by rw[aa.ag _ _ (Ne.symm n6)];exact gC _ _ (k9 _ _ (by rw[aa.ag _ _ (Ne.symm av)];exact U))⟩
       . rw[aa.ag _ _ (Ne.symm fv)];exact z4
       . rw[aa.ag _ _ hE,zl,h5]
       . rcases List.mem_or_eq_of_mem_set hx with hx|rfl
         . exact gp x hx
         . exact pA
       . rcases List.mem_append.1 hx with hx|hx
         . exact gw x hx
         . simp at hx;subst hx;exact s4
   . have xM:j=qn:=by omega
     subst xM;have KD:¬(j:Int)<j:=by omega
     refine rn ?_;simp[e4,Q,cP,aV,rG.2,q4,a9,aH];obtain⟨nb,zb,k3,ho⟩:=hF;obtain⟨f,hf⟩:∃f:Fr,f=⟨es,f0.roads,f0.bE,f0.iQ,f0.dG,(i:Int)⟩:=⟨_,rfl⟩;have b1:=Fr.eh (T.fits (by omega)) (T.check (by omega))
     have y3:Bk cnt f ks:=by
      have gG:=T.dM;subst eR;subst hf;refine⟨⟨⟨by show es.length<1152921504606846976;omega,b1.fits.roads,b1.fits.row,λe he=>by have:=gw e he;omega⟩,b1.fr,b1.to,b1.le,b1.dG,by show 1<=(i:Int)/\(i:Int)<=6;omega,by show es.length<=6;omega,λe he=>D.uB e he,b1.Io⟩,by show(es.length:Int)<=cnt;omega,by show f0.roads.length<=3;omega,λr hr=>?_,gw,by show(i:Int)<=3;omega,i,C,H,A,⟨D.len,D.Me,D.uB,D.bG,D.Pt,D.fit,D.Ts,D.F6,D.Pe⟩,rfl⟩
      obtain⟨t,ht,rfl⟩:=List.mem_iff_getElem.1 hr;exact Nat.le_trans (Nat.le_of_eq (b1.row (i:=t) ht).1) gG.2
     refine .eG (a':=.bk [az f,ints ks]) (oy rfl λi x y x1 x2=>?_) (.less (σ':=σ.set c (.cells [ints nums,int nb,.lit (.int .u64 zb)])) (λy x J=>?_) (.done (h f ks _ y3 ⟨⟨nb,zb,by omega,aa.an _ _ _⟩,λy J=>aa.ag _ _ J⟩)))
     . match i with
       | 0=>
         simp at x1 x2;subst x1;subst x2;refine oz (by subst hf;rfl) λi x y x1 x2=>?_
         subst hf
         match i with
         |0=>simp at x1 x2;subst x1;subst x2;exact b9.W
         |1=>simp at x1 x2;subst x1;subst x2;exact .refl _
         |2=>simp at x1 x2;subst x1;subst x2;exact .refl _
         |3=>simp at x1 x2;subst x1;subst x2;exact .refl _
         |4=>simp at x1 x2;subst x1;subst x2;exact .refl _
         |5=>simp at x1 x2;subst x1;subst x2;exact .refl _
         |i+6=>simp at x1
       |1=>simp at x1 x2;subst x1;subst x2;exact eg.W
       |i+2=>simp at x1
     . by_cases S:y=c
       . subst S
         rw[aa.an]at J;rw[aa.ag _ _ n4,ho];exact J
       . rw[aa.ag _ _ S]at J
         have y4:y≠O:=λe=>by subst e;rw[h4]at J;cases J
         rw[aa.ag _ _ y4];exact b9.1 y x (by simpa[aa.del,S]using J)
end
end Go.Proofs.YtldmpfccgajobaaGreatDoor
