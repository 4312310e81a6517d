import Derived.Test.YtldmpfccgajobaaGreatDoorV23
set_option linter.all false
namespace Go.Proofs.YtldmpfccgajobaaGreatDoor
open Tryz (prog)
open Go.bG Go.Conc
set_option maxHeartbeats 2000000
set_option maxRecDepth 4000
variable{m:Mo}{σ:aa}{KF:eI->aa->Prop}
structure IX(cN:Int)(e:gL):Prop where
 hour:0<=e.hour/\e.hour<=72
 place:0<=e.place/\e.place<cN
 bk:0<=e.bk/\e.bk<=1
 marks:e.marks.Sublist [0,1,2]
 aG:0<=e.aG/\e.aG<=30
 eE:0<=e.eE/\e.eE<=2
theorem IX.check{cN:Int}{e:gL}(h:IX cN e):bp cN e=0:=by
 obtain⟨b,f,g,a,c,d⟩:=h;have a:=(iE a).1;unfold bp cK;have i:e.place<=cN-1:=by omega
 have j:e.bk<=5:=by omega
 simp[b.1,b.2,f.1,i,g.1,j,a,c.1,c.2,d.1,d.2]
structure yC(cnt:Int)(f:Fr)(ks:List Int):Prop where
 mQ:f.Good
 len:(f.aq.length:Int)<=cnt
 cN:f.roads.length<=3
 row:∀r∈f.roads,r.length<=3
 marks:∀e∈f.aq,e.marks.length<=3
 most:f.most<=3
 seen:∃(most:Nat) (C H:List Int) (last:List gL),Seen f most C H ks f.aq last/\(most:Int)=f.most
theorem xf{k:Nat}:∀(es:List AV) (i:Nat) (x:AV),i<es.length->(∀e∈es,e.cells.length=k)->x.cells.length=k->(flatten es).take (i*k)++x.cells++(flatten es).drop (i*k+k)=flatten (es.set i x)
 | e::es,0,x,_,a,c=>by
   have b:=a e (by simp);rw[List.set_cons_zero,flatten_cons,flatten_cons];simp[<-b]
 | e::es,i+1,x,d,a,c=>by
   have b:=a e (by simp);have f:=xf es i x (by simpa using d) (λy g=>a y (by simp[g])) c;rw[List.set_cons_succ,flatten_cons,flatten_cons,<-f,Nat.add_mul,Nat.one_mul,List.take_append,List.drop_append];rw[List.take_of_length_le (by omega),List.drop_eq_nil_of_le (by omega),b,show i*k+k-k=i*k by omega,show i*k+k+k-k=i*k+k by omega];simp
theorem IY{f:Fr}{n:gL}{h:Int}(i:f.bh<=f.gE)(j:0<=n.eE/\n.eE<=2)(hb:(n.eE≠1/\n.aG=h)\/(n.eE≠0/\∃y,f.bh<=y/\y<=f.gE/\n.aG=h+y)):h∈bu f n:=by
 have a:n.eE≠1->n.aG∈bu f n:=λb=>by
  unfold bu;by_cases q:n.aG∈eT f n
  . rw[if_neg (by simp[q])];exact q
  . rw[if_pos ⟨b,q⟩];simp
 have c:∀x,x∈eT f n->x∈bu f n:=λx d=>by
  unfold bu;split
  . simp[d]
  . exact d
 rcases hb with⟨b,rfl⟩|⟨g,y,k,l,e⟩
 . exact a b
 . refine c _ ?_
   unfold eT;rw[if_pos g];exact List.mem_map.2 ⟨(f.gE-y).toNat,List.mem_range.2 (by omega),by omega⟩
theorem qw{σ0 σ c σ':aa}{a:AV}{kk:Nat}{es:List AV}(h:Tok σ0 σ a kk es)(d:c.Le σ')(hb:∀b,cH a=some b->σ' b=σ b/\c b=none):Tok c σ' a kk es:=by
 refine⟨d,?_⟩;rcases h.2 with q|q|⟨b,e,k,f,g⟩
 . exact .inl q
 . exact .inr (.inl q)
 . obtain⟨i,j⟩:=hb b (by rw[f];rfl)
   exact .inr (.inr ⟨b,e,j,f,by rw[i];exact g⟩)
theorem Ds{σ0 σ d:aa}{a:AV}{kk:Nat}{es:List AV}{c:Nat}(h:bn σ0 σ a kk es)(i:σ0 c=none)(j:dF a≠some c)(g:∀y,y≠c->d y=σ y):bn σ0 d a kk es:=h.keep (λy x f=>by rw[g y (λe=>by subst e;rw[i]at f;cases f)];exact h.1 y x f) λb hb=>⟨g b (λe=>j (e ▸ hb)),(h.jR hb).1⟩
theorem KB{σ0 σ σ':aa}{a c k:AV}{kk m n:Nat}{es o p:List AV}(h:Tok σ0 σ a kk es)(g:bn σ0 σ c m o)(i:bn (σ.xL c) σ' k n p):Tok σ0 σ' a kk es:=
 qw h (aa.le_trans g.here.2 i.1) λb hb=>by
  obtain⟨r,e,d⟩:=h.be hb;have f:dF c≠some b:=λq=>by obtain⟨_,l,j⟩:=g.jR q;rw[d]at j;cases j
  exact⟨by rw[d];exact i.1 b _ (by rw[aa.nJ f];exact d),r⟩
theorem KC{σ0 σ σ':aa}{a c k:AV}{kk m n:Nat}{es o p:List AV}(h:bn σ0 σ a kk es)(g:Tok σ0 σ c m o)(i:Tok (σ.off c) σ' k n p):bn σ0 σ' a kk es:=
 h.keep (aa.le_trans g.here.2 i.1) λb hb=>by
  obtain⟨r,l,d⟩:=h.jR hb;have f:cH c≠some b:=λq=>by obtain⟨_,e,j⟩:=g.be q;rw[d]at j;cases j
  exact⟨by rw[d];exact i.1 b _ (by rw[aa.iA f];exact d),r⟩
theorem iO{env:Env}{t u:Nat}{v:AV}(h:u≠t):(env.upd t v) u=env u:=by unfold Env.upd;rw[if_neg h]
theorem rj{env:Env}{t:Nat}{v:AV}:(env.upd t v) t=v:=by unfold Env.upd;rw[if_pos rfl]
structure Dt(V:Nat->AV)(vS:Env)(σ6:aa)(c c13 K:Nat)(nums:List Int)(T:Int)(X:Int->List AV)(done:List Nat)(env:Env)(σ:aa):Prop where
 base:∀s,s<97->env s=vS s
 cT:∀i,i∈done->i≠33->i≠34->i<36->env (97+i)=V i
 pre:33∉done->σ=σ6
 post:33∈done->36∉done->bJ c nums K σ/\∀y,y≠c->σ y=σ6 y
 pick:33∈done->∃p:Int,(0<=p/\p<=3)/\env 130=int p/\(34∈done->env 131=int (T+p))
 all:36∈done->∀j,j<36->j∈done
 dep:34∈done->33∈done
 fin:36∈done->∃p:Int,(0<=p/\p<=3)/\bJ c nums K σ/\σ c13=some (.cells (X (T+p)))/\∀y,y≠c->y≠c13->σ y=σ6 y
section
variable{V:Nat->AV}{vS env:Env}{σ6:aa}{c c13 K:Nat}{nums:List Int}{T:Int}{X:Int->List AV}{done:List Nat}
theorem Dt.KG(h:Dt V vS σ6 c c13 K nums T X done env σ){i:Nat}(b:i<36)(d:i∉done):36∉done:=λa=>d (h.all a i b)
theorem Dt.keep(h:Dt V vS σ6 c c13 K nums T X done env σ){i:Nat}(a:i<36)(b:i∉done){y:Nat}(d:y≠c):σ y=σ6 y:=by
 by_cases q:33∈done
 . exact(h.post q (h.KG a b)).2 y d
 . rw[h.pre q]
theorem Dt.next(h:Dt V vS σ6 c c13 K nums T X done env σ){i:Nat}(m:i<36)(n:i∉done)(o:i≠33)(r:i≠34){a:AV}(t:a=V i):Dt V vS σ6 c c13 K nums T X (i::done) (env.upd (97+i) a) σ:=by
 have b:33∈i::done↔33∈done:=by simp[Ne.symm o]
 have d:34∈i::done↔34∈done:=by simp[Ne.symm r]
 have f:=h.KG m n;have k:36∉i::done:=by simp;exact⟨by omega,f⟩
 refine⟨λs u=>?_,λj v w x y=>?_,λq=>h.pre λl=>q (b.2 l),λq _=>h.post (b.1 q) f,λq=>?_,λq=>absurd q k,λq=>b.2 (h.dep (d.1 q)),λq=>absurd q k⟩
 . rw[iO (by omega)];exact h.base s u
 . by_cases e:j=i
   . subst e;rw[rj];exact t
   . rw[iO (by omega)]
     exact h.cT j ((List.mem_cons.1 v).resolve_left e) w x y
 . obtain⟨p,z,l,A⟩:=h.pick (b.1 q)
   exact⟨p,z,by rw[iO (by omega)];exact l,λg=>by rw[iO (by omega)];exact A (d.1 g)⟩
theorem Dt.Ml(h:Dt V vS σ6 c c13 K nums T X done env σ)(l:33∉done)(b:34∉done){p:Int}(m:0<=p/\p<=3){σ':aa}(hb:bJ c nums K σ')(d:∀y,y≠c->σ' y=σ6 y):Dt V vS σ6 c c13 K nums T X (33::done) (env.upd 130 (int p)) σ':=by
 have e:=h.KG (i:=33) (by omega) l;have a:36∉33::done:=by simp[e]
 have f:34∉33::done:=by simp[b]
 refine⟨λs d=>?_,λj n k o r=>?_,λq=>absurd (by simp) q,λ_ _=>⟨hb,d⟩,λq=>⟨p,m,by rw[rj],λg=>absurd g f⟩,λq=>absurd q a,λ_=>by simp,λq=>absurd q a⟩
 . rw[iO (by omega)];exact h.base s d
 . rw[iO (by omega)]
   exact h.cT j ((List.mem_cons.1 n).resolve_left k) k o r
theorem Dt.summed(h:Dt V vS σ6 c c13 K nums T X done env σ)(f:34∉done)(a:33∈done){p:Int}(k:0<=p/\p<=3)(l:env 130=int p):Dt V vS σ6 c c13 K nums T X (34::done) (env.upd 131 (int (T+p))) σ:=by
 have b:=h.KG (i:=34) (by omega) f;have d:36∉34::done:=by simp[b]
 refine⟨λs m=>?_,λj n o e r=>?_,λq=>absurd (by simp[a]) q,λ_ _=>h.post a b,λq=>⟨p,k,by rw[iO (by omega)];exact l,λg=>by rw[rj]⟩,λq=>absurd q d,λ_=>by simp[a],λq=>absurd q d⟩
 . rw[iO (by omega)];exact h.base s m
 . rw[iO (by omega)]
   exact h.cT j ((List.mem_cons.1 n).resolve_left e) o e r
end
theorem Du{σ0 σ σ':aa}{a c g:AV}{kk k l:Nat}{es m n:List AV}(h:Tok σ0 σ a kk es)(o:Tok σ0 σ c k m)(hd:∀b,cH a=some b->cH c≠some b)(f:Tok (σ.off c) σ' g l n):Tok σ0 σ' a kk es/\∀b,cH a=some b->cH g≠some b:=by
 have key:∀b,cH a=some b->(σ.off c) b=σ b:=λb hb=>aa.iA (hd b hb)
 refine⟨qw h (aa.le_trans o.here.2 f.1) λb hb=>?_,λb hb q=>?_⟩
 . obtain⟨i,e,d⟩:=h.be hb
   exact⟨by rw[d];exact f.1 b _ (by rw[key b hb];exact d),i⟩
 . obtain⟨i,e,d⟩:=h.be hb
   obtain⟨j,_,_⟩:=f.be q;rw[key b hb,d]at j;cases j
section
variable{c k:Nat}{nums:List Int}
theorem Fy{cnt : Int}(hk:k+500<1000000)(hn:nums.length<1152921504606846976)(zj:1<=cnt/\cnt<=6)(hb:bJ c nums k σ)(h:∀(f:Fr) (ks:List Int) σ',yC cnt f ks->nv c nums (k+500) σ σ'->KF (.val (.cq [aA f,ints ks])) σ'):ar prog m 55 [.ref c 0,int cnt] σ KF:=by
 obtain⟨n0,s0,_,k3⟩:=id hb;refine fs Qi 2 Tryz.func55 rfl rfl (by rfl) (by kernel_rfl) ?_
 simp[Tryz.f55];refine cZ.intro λO h4=>?_
 have n4:c≠O:=λe=>by subst e;rw[k3]at h4;cases h4
 have k5:∀x,bJ c nums k (σ.set O x):=λx=>⟨n0,s0,by assumption,by rw[aa.aj _ _ n4];exact k3⟩
 simp;refine cf Tryz.func56 rfl (uY (cnt:=0) (by omega) hn ⟨by omega,by omega⟩ (k5 _) λf0 a0 k7 T ev qq=>?_)
 obtain rfl:=qq.1 (List.length_eq_zero_iff.1 (by have:=T.len;omega))
 have c5:O≠c:=Ne.symm n4;have k8:k7 O=some (.cells eH):=by rw[ev.2 O c5,aa.an]
 refine rn ?_;simp;refine cZ.intro λE h6=>?_
 have n6:E≠c:=λe=>by subst e;obtain⟨_,_,_,q⟩:=ev.1;rw[q]at h6;cases h6
 have fw:E≠O:=λe=>by subst e;rw[k8]at h6;cases h6
 have kt:σ E=none:=by rw[ev.2 E n6,aa.aj _ _ fw]at h6;exact h6
 simp
 have hv:∀x,bJ c nums (k+20) (k7.set E x):=λx=>by obtain⟨n,z,g1,U⟩:=ev.1;exact⟨n,z,g1,by rw[aa.aj _ _ (Ne.symm n6)];exact U⟩
 refine cf Tryz.func104 rfl (jd (by omega) hn ⟨by omega,by omega⟩ ⟨by omega,by omega⟩ (hv _) λmost eb IH fx=>?_)
 have t6:eb E=some (.cells [.lit (.slice none 0 0),rows f0.roads,int f0.bh,int f0.gE,int f0.cS,int f0.most]):=by rw[fx.2 E n6,aa.an]
 have t4:eb O=some (.cells eH):=by rw[fx.2 O c5,aa.aj _ _ (Ne.symm fw)];exact k8
 refine rn ?_;simp[t6,aJ];obtain⟨mo,rfl⟩:∃mo:Nat,most=(mo:Int):=⟨most.toNat,by omega⟩
 have Kp:1<=mo/\mo<=3:=by omega
 have hz:=T.cN;obtain⟨A6,ec⟩:∃A6:AV->List AV,A6=λa=>[a,rows f0.roads,int f0.bh,int f0.gE,int f0.cS,int mo]:=⟨_,rfl⟩
 have qs:∀a,(A6 a).length=6:=λa=>by rw[ec];rfl
 have a7:σ.del c c=none:=by simp[aa.del]
 have kx:bJ c nums (k+21) (eb.set E (.cells (A6 (.lit (.slice none 0 0))))):=by obtain⟨n,z,g1,U⟩:=fx.1;exact⟨n,z,by omega,by rw[aa.aj _ _ (Ne.symm n6)];exact U⟩
 have a8:(σ.del c).Le (eb.set E (.cells (A6 (.lit (.slice none 0 0))))):=λy x J=>by
  have S:y≠c:=λe=>by subst e;rw[a7]at J;cases J
  have y0:σ y=some x:=by simpa[aa.del,S]using J
  have y6:y≠E:=λe=>by subst e;rw[kt]at y0;cases y0
  have y4:y≠O:=λe=>by subst e;rw[h4]at y0;cases y0
  rw[aa.aj _ _ y6,fx.2 y S,aa.aj _ _ y6,ev.2 y S,aa.aj _ _ y4];exact y0
 have r6:σ.del c E=none:=by simp[aa.del,kt]
 have Kq:σ.del c O=none:=by simp[aa.del,h4]
 have ky:(eb.set E (.cells (A6 (.lit (.slice none 0 0))))) O=some (.cells eH):=by rw[aa.aj _ _ (Ne.symm fw)];exact t4
 refine ab.loop mo (λi s=>∃env σ' la ha L H,s=⟨env,σ',[],.no⟩/\env 0=.ref c 0/\env 1=int cnt/\env 4=.ref O 0/\env 6=.ref E 0/\env 7=la/\env 8=ha/\env 9=int i/\bJ c nums (k+21+12*i) σ'/\σ' O=some (.cells eH)/\σ' E=some (.cells (A6 (.lit (.slice none 0 0))))/\bn (σ.del c) σ' la 6 (L.map bd)/\Tok (σ.del c) σ' ha 1 (H.map int)/\dF la≠some c/\dF la≠some O/\dF la≠some E/\L.length=i/\H.length=i/\(∀e∈L,r7 f0.roads.length e)/\(∀x∈H,13<=x/\x<=16))
  ⟨_,eb.set E (.cells (A6 (.lit (.slice none 0 0)))),.lit (.slice none 0 0),.lit (.slice none 0 0),[],[],by rw[ec],by simp,by simp,by simp,by simp,by simp,by simp,by simp,kx,ky,aa.an _ _ _,⟨a8,.inl ⟨rfl,.inl rfl⟩⟩,⟨a8,.inl ⟨rfl,rfl⟩⟩,by simp[dF],by simp[dF],by simp[dF],rfl,rfl,by simp⟩ ?_
 clear kx a8 ky
 rintro c0 i _ hi ⟨env,σ',la,ha,L,H,rfl,R,e1,e4,Q,Z,e8,e9,fO,q4,q6,ey,ez,eA,gd,gj,hA,l1,hB,l2⟩ ih
 have l3:=ey.cells;have l4:=ez.cells;have a9:σ' E=some (.cells [.lit (.slice none 0 0),rows f0.roads,int f0.bh,int f0.gE,int f0.cS,int mo]):=by rw[q6,ec]
 rcases Nat.lt_or_ge i mo with g1|g1
 . have ra:(i:Int)<mo:=by omega
   have f1:-9223372036854775808<=(i:Int)+1/\(i:Int)+1<=9223372036854775807:=by omega
   refine rn ?_;simp[R,Q,Z,e9,a9,g1];refine cf Tryz.func43 rfl (mE (by omega) hn ⟨by omega,by omega⟩ fO λe X he N=>?_)
   have l5:∃l,σ' c=some (.cells l):=by obtain⟨_,_,_,q⟩:=fO;exact⟨_,q⟩
   have eB:=Ds ey a7 eA N.2;have l6:=qj ez a7 l5 N.2;have eK:X O=some (.cells eH):=by rw[N.2 O c5];exact q4
   have eR:X E=some (.cells (A6 (.lit (.slice none 0 0)))):=by rw[N.2 E n6];exact q6
   refine rn ?_;simp;refine jv lay rfl rfl rfl my rfl my rfl vL (by decide) (by simp;omega) (σ0:=X.xL la) (es:=L.map bd) (xs:=[bd e]) (by simpa using eB.here.1) (.inl (.inr ⟨_,by simp;rfl⟩)) (by simp) λgp b2 ad=>?_
   have k4:∀y l,dF la≠some y->X y=some l->b2 y=some l:=λy l J hl=>ad.1 _ _ (by rw[aa.nJ J];exact hl)
   have l7:=KB l6 eB ad;have hD:=ad.base eB.here.2
   have lj:bJ c nums (k+21+12*i+11) b2:=by obtain⟨n,z,g1,U⟩:=N.1;exact⟨n,z,g1,k4 _ _ eA U⟩
   have gP:dF gp≠some c:=λq=>by obtain⟨g,_⟩:=ad.jR q;obtain⟨_,_,_,U⟩:=N.1;rw[aa.nJ eA,U]at g;cases g
   have lo:dF gp≠some O:=λq=>by obtain⟨g,_⟩:=ad.jR q;rw[aa.nJ gd,eK]at g;cases g
   have lA:dF gp≠some E:=λq=>by obtain⟨g,_⟩:=ad.jR q;rw[aa.nJ gj,eR]at g;cases g
   have zm:=ad.cells;refine rn ?_;simp[R,e8];refine cf Tryz.func104 rfl (jd (by omega) hn ⟨by omega,by omega⟩ ⟨by omega,by omega⟩ lj λx ee rr b3=>?_)
   have lB:∃l,b2 c=some (.cells l):=by obtain⟨_,_,_,q⟩:=lj;exact⟨_,q⟩
   have cb:=qj l7 a7 lB b3.2;have m1:=Ds hD a7 gP b3.2;refine rn ?_;simp;refine aH lay rfl rfl rfl cr rfl cr rfl qa (by decide) (by simp;omega) (σ0:=ee.off ha) (es:=H.map int) (xs:=[int x]) (by simpa using cb.here.1) (.inr ⟨_,by simp;rfl⟩) λrF σ6 cg=>?_
   have m2:=KC m1 cb cg;have hE:=cg.base cb.here.2;have zA:=cg.cells;have k6:∀y l,ee y=some (.cells l)->σ6 y=some (.cells l):=λy l J=>cg.1 _ _ (by rw[aa.iA (λe=>by obtain⟨_,_,q⟩:=cb.be e;rw[J]at q;cases q)];exact J)
   have rG:σ6 O=some (.cells eH):=k6 _ _ (by rw[b3.2 O c5];exact k4 _ _ gd eK)
   have rM:σ6 E=some (.cells (A6 (.lit (.slice none 0 0)))):=k6 _ _ (by rw[b3.2 E n6];exact k4 _ _ gj eR)
   have b4:bJ c nums (k+21+12*(i+1)) σ6:=by obtain⟨n,z,g1,U⟩:=b3.1;exact⟨n,z,by omega,k6 _ _ U⟩
   refine rn ?_;simp[e9,f1.1,f1.2];refine ih _ g1 ⟨_,σ6,gp,rF,L++[e],H++[x],rfl,by simp[R],by simp[e1],by simp[e4],by simp[Q],by simp,by simp,by simp,b4,rG,rM,by simpa using m2,by simpa using hE,gP,lo,lA,by simp[hA],by simp[l1],λy J=>?_,λy J=>?_⟩
   . rcases List.mem_append.1 J with J|J
     . exact hB y J
     . simp at J;subst J;exact he
   . rcases List.mem_append.1 J with J|J
     . exact l2 y J
     . simp at J;subst J;omega
 . have s3:i=mo:=by omega
   subst s3;clear ih
   obtain⟨F,cap,rest,rfl,r1,r2,r3,r4,r5⟩:∃F cap rest,la=.eu F 0 i cap/\σ.del c F=none/\i<=cap/\(∀e∈L.map bd,e.cells.length=6)/\σ' F=some (.cells (flatten (L.map bd)++rest))/\rest.length=(cap-i)*6:=by
    have eg:(L.map bd).length=i:=by rw[List.length_map,hA]
    rcases ey.2 with⟨e,_⟩|⟨b,cap,rest,g1,U,g3,g4,g5,g6⟩
    . have:=congrArg List.length e
      rw[eg,List.length_nil]at this;omega
    . rw[eg]at g1 g3 g6
      exact⟨b,cap,rest,g1,U,g3,g4,g5,g6⟩
   have av:F≠c:=λe=>eA (by rw[e];rfl)
   have s4:F≠O:=λe=>gd (by rw[e];rfl)
   have hF:F≠E:=λe=>gj (by rw[e];rfl)
   have zD:σ F=none:=by simpa[aa.del,av]using r1
   refine ab.Hk 8 (a':=ints H) (by rw[e8];simpa using ez.W) ?_
   have b8:=ez.1;clear ey ez l3 l4 eA gd gj e8;refine rn ?_;simp[R,e1,Q,e9,a9];refine cf Tryz.func104 rfl (jd (by omega) hn ⟨by omega,by omega⟩ ⟨by omega,by omega⟩ fO λq X hq N=>?_)
   have eK:X O=some (.cells eH):=by rw[N.2 O c5];exact q4
   have eR:X E=some (.cells (A6 (.lit (.slice none 0 0)))):=by rw[N.2 E n6];exact q6
   have m3:X F=some (.cells (flatten (L.map bd)++rest)):=by rw[N.2 F av];exact r4
   have a8:(σ.del c).Le X:=λy x J=>by
    have S:y≠c:=λe=>by subst e;rw[a7]at J;cases J
    rw[N.2 y S];exact b8 y x J
   obtain⟨qn,rfl⟩:∃qn:Nat,q=(qn:Int):=⟨q.toNat,by omega⟩
   have KD:1<=qn/\qn<=6:=by omega
   have gR:bJ c nums (k+60) X:=N.1.mono (by omega)
   obtain⟨C,hC⟩:∃C,C=L.map (·.bk):=⟨_,rfl⟩;obtain⟨f1,eW⟩:∃f1:Fr,f1=⟨[],f0.roads,f0.bh,f0.gE,f0.cS,(i:Int)⟩:=⟨_,rfl⟩
   have cl:Seen f1 i C H [] [] L:=⟨rfl,by simp,by simp,λj hj=>by simp at hj,λj hj=>by simp at hj,λa b _ hb=>by simp at hb,λj hj=>by simp at hj,λj hj=>by
    rw[hC,List.getD_eq_getElem?_getD,List.getD_eq_getElem?_getD,List.getElem?_map];have:j<L.length:=by omega
    simp[this],hA⟩
   have gU:∀e∈L,IX f0.roads.length e:=λe he=>by have:=hB e he;exact⟨⟨this.hour.1,by have:=this.hour;omega⟩,this.place,this.bk,this.marks,⟨by have:=this.aG;omega,by have:=this.aG;omega⟩,this.eE⟩
   refine rn ?_;simp;have md:=R;have mm:=e4;have mx:=Q;have mA:=Z;clear R e1 e4 Q Z e9 a9 hB r3
   refine ab.loop qn (λj s=>∃env σ' a hh A es ks,s=⟨env,σ',[],.no⟩/\env 0=.ref c 0/\env 4=.ref O 0/\env 6=.ref E 0/\env 7=.eu F 0 i cap/\env 8=ints H/\env 10=hh/\env 11=int ((qn:Int)-j)/\bJ c nums (k+60+16*j) σ'/\σ' O=some (.cells eH)/\σ' E=some (.cells (A6 a))/\σ' F=some (.cells (flatten (A.map bd)++rest))/\Tok (σ.del c) σ' a 6 (es.map bd)/\Tok (σ.del c) σ' hh 1 (ks.map int)/\(∀b,cH a=some b->cH hh≠some b)/\Seen f1 i C H ks es A/\(∀e∈A,IX f0.roads.length e)/\(∀e∈es,e.marks.length<=3)/\es.length<=j)
    ⟨_,X,.lit (.slice none 0 0),.lit (.slice none 0 0),L,[],[],rfl,by simp[md],by simp[mm],by simp[mx],by simp[mA],by simp,by simp,by simp,gR,eK,eR,m3,⟨a8,.inl ⟨rfl,rfl⟩⟩,⟨a8,.inl ⟨rfl,rfl⟩⟩,λb hb=>by simp[cH]at hb,cl,gU,by simp,by simp⟩ ?_
   clear md mm mx mA gR eK eR m3 a8 b8 cl gU q4 q6 fO N r4
   rintro c1 j _ hj ⟨env,σ',a,hh,A,es,ks,rfl,R,e4,Q,Z,e8,ir,lU,hG,q4,q6,ql,b9,ei,h1,D,gw,gA,KE⟩ ih
   have s5:=b9.cells;have l4:=ei.cells;have a9:σ' E=some (.cells [a,rows f0.roads,int f0.bh,int f0.gE,int f0.cS,int i]):=by rw[q6,ec]
   rcases Nat.lt_or_ge j qn with g1|g1
   . have ra : (0 : Int)<(qn:Int)-j:=by omega
     have pP:(j:Int)<qn:=by omega
     have f2:-9223372036854775808<=(i:Int)-1/\(i:Int)-1<=9223372036854775807:=by omega
     have f3:-9223372036854775808<=(qn:Int)-j-1/\(qn:Int)-j-1<=9223372036854775807:=by omega
     refine rn ?_;simp[R,Q,lU,pP,a9,f2.1,f2.2];refine cf Tryz.func30 rfl (fZ (by omega) hn ⟨by omega,by omega⟩ hG λkk X Ld N=>?_)
     obtain⟨G,rfl⟩:∃G:Nat,kk=(G:Int):=⟨kk.toNat,by omega⟩
     have bq:G<i:=by omega
     have w6:X E=some (.cells [a,rows f0.roads,int f0.bh,int f0.gE,int f0.cS,int i]):=by rw[N.2 E n6];exact a9
     refine rn ?_;simp[R,Q,w6];refine cf Tryz.func43 rfl (mE (by omega) hn ⟨by omega,by omega⟩ N.1 λe b2 he hH=>?_)
     have c7:∀y,y≠c->b2 y=σ' y:=λy J=>(hH.2 y J).trans (N.2 y J)
     have w6:b2 E=some (.cells [a,rows f0.roads,int f0.bh,int f0.gE,int f0.cS,int i]):=by rw[c7 E n6];exact a9
     have wl:b2 F=some (.cells (flatten (A.map bd)++rest)):=by rw[c7 F av];exact ql
     have w4:b2 O=some (.cells eH):=by rw[c7 O c5];exact q4
     refine rn ?_;simp;refine cZ.intro λc13 ax=>?_
     have m0:c13≠c:=λe=>by subst e;obtain⟨_,_,_,q⟩:=hH.1;rw[q]at ax;cases ax
     have m4:c13≠O:=λe=>by subst e;rw[w4]at ax;cases ax
     have m6:c13≠E:=λe=>by subst e;rw[w6]at ax;cases ax
     have ml:c13≠F:=λe=>by subst e;rw[wl]at ax;cases ax
     have gB:G<A.length:=by rw[D.Mk];exact bq
     obtain⟨el,eg⟩:∃el,el=A[G]:=⟨_,rfl⟩;have bA:=gw el (by rw[eg];exact List.getElem_mem gB)
     obtain⟨CL,fc⟩:∃CL,CL=flatten (A.map bd)++rest:=⟨_,rfl⟩;rw[<-fc]at wl;have hK:∀x∈A.map bd,x.cells.length=6:=λx hx=>by obtain⟨y,_,rfl⟩:=List.mem_map.1 hx;rfl
     have cm:(flatten (A.map bd)).length=A.length*6:=by rw[ba (kk:=6) hK,List.length_map]
     have cv:∀t,t<6->CL[G*6+t]?=(bd el).cells[t]?:=λt ht=>by
      rw[fc,List.getElem?_append_left (by rw[cm];omega)]
      exact iP (kk:=6) hK (by rw[List.getElem?_map,List.getElem?_eq_getElem gB,eg];rfl) t ht
     have mB:=cv 0 (by omega)
     have n2:=cv 1 (by omega)
     have n3:=cv 2 (by omega)
     have n5:=cv 3 (by omega)
     simp at mB n2 n3 n5;simp[R,Z,wl,aa.aj,Ne.symm ml,bq,n3,aJ]
     have s6:∀x,bJ c nums (k+60+16*j+12) (b2.set c13 x):=λx=>by obtain⟨n,z,g1,U⟩:=hH.1;exact⟨n,z,by omega,by rw[aa.aj _ _ (Ne.symm m0)];exact U⟩
     refine cf Tryz.func30 rfl (fZ (by omega) hn ⟨by omega,by omega⟩ (s6 _) λsh ee rr b3=>?_)
     have hL:ee c13=some (.cells [int e.hour,int e.place,int el.bk,ints e.marks,int e.aG,int e.eE]):=by rw[b3.2 c13 m0,aa.an]
     have ej:G<H.length:=by rw[l1];exact bq
     obtain⟨h0,ep⟩:∃h0,h0=H[G]:=⟨_,rfl⟩;have zG:13<=h0/\h0<=16:=l2 _ (by rw[ep];exact List.getElem_mem ej)
     have LK:(H.map int)[G]?=some (int h0):=by rw[List.getElem?_map,List.getElem?_eq_getElem ej,ep];rfl
     have n9:sh=0\/sh=1\/sh=2:=by omega
     have h2:0<=sh/\sh<=2:=by omega
     have nh:f0.bh<=f0.gE:=T.to.1;have M1:0<=f0.bh/\f0.gE<=2:=⟨T.fr.1,T.to.2⟩
     have hO:∀x,bJ c nums (k+60+16*j+13) (ee.set c13 x):=λx=>by obtain⟨n,z,g1,U⟩:=b3.1;exact⟨n,z,by omega,by rw[aa.aj _ _ (Ne.symm m0)];exact U⟩
     have hP:∀y,y≠c->y≠c13->ee y=σ' y:=λy S y2=>by rw[b3.2 y S,aa.aj _ _ y2,c7 y S]
     have zH:ks.length<1000000:=by rw[D.len];omega
     apply AH (I:=λenv σ6=>∃b,env 0=.ref c 0/\env 4=.ref O 0/\env 6=.ref E 0/\env 7=.eu F 0 i cap/\env 8=ints H/\env 10=hh/\env 11=int ((qn:Int)-j)/\env 12=int G/\env 13=.ref c13 0/\env 80=bool b/\bJ c nums (k+60+16*j+14) σ6/\σ6 c13=some (.cells [int e.hour,int e.place,int el.bk,ints e.marks,int h0,int sh])/\(∀y,y≠c->y≠c13->σ6 y=σ' y)/\(b=true->sh≠0)/\(b=false->sh≠1))
     . intro M
       rcases n9 with rfl|rfl|rfl
       . refine ab.runN lay [] 28 ?_
         simp[e8,hL,ej,aJ,<-ep];refine M _ _ ⟨false,by simp[R],by simp[e4],by simp[Q],by simp[Z],by simp[e8],by simp[ir],by simp[lU],by simp,by simp,by simp,(hO _).mono (by omega),aa.an _ _ _,λy S y2=>by rw[aa.aj _ _ y2];exact hP y S y2,by simp,by simp⟩
       . refine ab.runN lay [] 28 ?_
         simp[e8,hL,ej,aJ,<-ep];refine M _ _ ⟨true,by simp[R],by simp[e4],by simp[Q],by simp[Z],by simp[e8],by simp[ir],by simp[lU],by simp,by simp,by simp,(hO _).mono (by omega),aa.an _ _ _,λy S y2=>by rw[aa.aj _ _ y2];exact hP y S y2,by simp,by simp⟩
       . refine ab.runN lay [] 28 ?_
         simp[R,e8,hL,ej,aJ,<-ep];refine cf Tryz.func98 rfl (Dl (by omega) hn ⟨by omega,by omega⟩ (hO _) λb σ6 hR=>?_)
         refine ab.runN lay [] 3 ?_;simp;refine M _ _ ⟨b,by simp[R],by simp[e4],by simp[Q],by simp[Z],by simp[e8],by simp[ir],by simp[lU],by simp,by simp,by simp,hR.1,by rw[hR.2 c13 m0,aa.an],λy S y2=>by rw[hR.2 y S,aa.aj _ _ y2];exact hP y S y2,by simp,by simp⟩
     clear R e4 Q Z e8 ir lU
     rintro env σ6 ⟨b,R,e4,Q,Z,e8,ir,lU,rP,P,hS,b4,Y,ay,nq,nt⟩
     apply AH (I:=λenv σ6=>∃ht,env 0=.ref c 0/\env 4=.ref O 0/\env 6=.ref E 0/\env 7=.eu F 0 i cap/\env 8=ints H/\env 10=hh/\env 11=int ((qn:Int)-j)/\env 12=int G/\env 13=.ref c13 0/\env 95=int (od ks G)/\bJ c nums (k+60+16*j+15) σ6/\σ6 c13=some (.cells [int e.hour,int e.place,int el.bk,ints e.marks,int ht,int sh])/\(∀y,y≠c->y≠c13->σ6 y=σ' y)/\((sh≠1/\ht=h0)\/(sh≠0/\∃y,f0.bh<=y/\y<=f0.gE/\ht=h0+y)))
     . intro M
       have hW:Wl [hh,int G] [ints ks,int G]:=.cons (by simpa using ei.W) (.cons (.refl _) .nil)
       cases b
       . refine rn ?_
         simp[ir,rP,hS];refine bi Tryz.func105 rfl rfl hW (qd (by omega) ?_)
         refine M _ _ ⟨h0,by simp[R],by simp[e4],by simp[Q],by simp[Z],by simp[e8],by simp[ir],by simp[lU],by simp[rP],by simp[P],by simp,b4.mono (by omega),Y,ay,.inl ⟨nt rfl,rfl⟩⟩
       . have v6 : σ6 E=some (.cells [a,rows f0.roads,int f0.bh,int f0.gE,int f0.cS,int i]):=by rw[ay E n6 (Ne.symm m6)];exact a9
         have O1:=T.fr;have ey:=T.to;refine rn ?_;simp[R,Q,P,hS,Y,v6]
         repeat' (first
                   |apply And.intro
                   | (refine cf Tryz.func104 rfl (jd (by omega) hn ⟨by omega,by omega⟩ ⟨by omega,by omega⟩ b4 λy K J hT=>?_)
                      have s7:K c13=some (.cells [int e.hour,int e.place,int el.bk,ints e.marks,int h0,int sh]):=by rw[hT.2 c13 m0];exact Y
                      have f4:-9223372036854775808<=h0+y/\h0+y<=9223372036854775807:=by omega
                      refine pg ?_;simp[R,e4,Q,Z,e8,ir,lU,rP,P,s7,f4.1,f4.2,aJ];refine rn ?_;simp[R,e4,Q,Z,e8,ir,lU,rP,P];refine bi Tryz.func105 rfl rfl hW (qd (by omega) ?_)
                      refine M _ _ ⟨h0+y,by simp[R],by simp[e4],by simp[Q],by simp[Z],by simp[e8],by simp[ir],by simp[lU],by simp[rP],by simp[P],by simp,?_,aa.an _ _ _,λz S y2=>by rw[aa.aj _ _ y2,hT.2 z S];exact ay z S y2,.inr ⟨nq rfl,y,by omega,by omega,rfl⟩⟩
                      obtain⟨n,z,g1,U⟩:=hT.1;exact⟨n,z,by omega,by rw[aa.aj _ _ (Ne.symm m0)];exact U⟩))
     clear b4 Y ay R e4 Q Z e8 ir lU rP P hS nq nt
     rintro env σ6 ⟨ht,R,e4,Q,Z,e8,ir,lU,rP,P,hU,b4,Y,ay,ob⟩
     have hX:0<=ht/\ht<=30:=by rcases ob with⟨_,q⟩|⟨_,y,q1,q2,q3⟩<;>omega
     have b1:=Fr.mQ (T.fits (by omega)) (T.check (by omega))
     have O2:∀x∈A,x.marks.length<=3:=λx hx=>(iE (gw x hx).marks).2
     have sb:=(iE he.marks).2;have zR:=(iE bA.marks).2;have oj:=he.place;have ox:=bA.place;have zU:=bA.hour;have oF:=T.cS;apply AH (I:=λenv K=>∃hr,env 0=.ref c 0/\env 4=.ref O 0/\env 6=.ref E 0/\env 7=.eu F 0 i cap/\env 8=ints H/\env 10=hh/\env 11=int ((qn:Int)-j)/\env 12=int G/\env 13=.ref c13 0/\bJ c nums (k+60+16*j+16) K/\K c13=some (.cells [int hr,int e.place,int el.bk,ints e.marks,int ht,int sh])/\(∀y,y≠c->y≠c13->K y=σ' y)/\(0<=hr/\hr<=1000)/\((G:Int)∈ks->Kv f1 el {e with hour:=hr}))
     . intro M
       by_cases hY:(G:Int)∈ks
       . have q2:od ks G>=0:=(kb ks G).2 hY
         obtain⟨rw,dd⟩:∃rw,rw=f0.roads[el.place.toNat]'(by omega):=⟨_,rfl⟩
         have h3:=b1.row (i:=el.place.toNat) (by omega)
         rw[<-dd]at h3;have dj:e.place.toNat<rw.length:=by omega
         obtain⟨r,gC⟩:∃r,r=rw[e.place.toNat]:=⟨_,rfl⟩;have OO:=h3.2 r (by rw[gC];exact List.getElem_mem dj)
         have b5:el.place.toNat<f0.roads.length:=by omega
         have P0:(f0.roads.map ints)[el.place.toNat]?=some (ints rw):=by rw[List.getElem?_map,List.getElem?_eq_getElem b5,dd];rfl
         have hr:(rw.map int)[e.place.toNat]?=some (int r):=by rw[List.getElem?_map,List.getElem?_eq_getElem dj,gC];rfl
         have oG:=dj;obtain⟨ch,hZ⟩:∃ch,ch=O6 el.marks e.marks:=⟨_,rfl⟩
         have fi:0<=ch/\ch<=6:=by have q1:=lR el.marks e.marks;have q2:=lR e.marks el.marks;rw[hZ];unfold O6;omega
         have R0:0<=f0.cS*ch/\f0.cS*ch<=24:=⟨Int.mul_nonneg (by omega) fi.1,Int.le_trans (Int.mul_le_mul oF.2 fi.2 fi.1 (by omega)) (by omega)⟩
         have oK:-9223372036854775808<=el.hour+r/\el.hour+r<=9223372036854775807:=by omega
         have oL:-9223372036854775808<=f0.cS*ch/\f0.cS*ch<=9223372036854775807:=by omega
         have oM:-9223372036854775808<=el.hour+r+f0.cS*ch/\el.hour+r+f0.cS*ch<=9223372036854775807:=by omega
         have ic:σ6 F=some (.cells CL):=by rw[ay F av (Ne.symm ml),<-c7 F av];exact wl
         have h5:σ6 E=some (.cells [a,rows f0.roads,int f0.bh,int f0.gE,int f0.cS,int i]):=by rw[ay E n6 (Ne.symm m6)];exact a9
         refine ab.runN lay [] 3 ?_;simp[hU,q2]
         obtain⟨V,hV⟩:∃V:Nat->AV,V=λj=>([.eu F 0 i cap,int G,.ref F (G*6),.ref F (G*6),int el.hour,.ref E 1,rows f0.roads,.eu F 0 i cap,int G,.ref F (G*6),.ref F (G*6+1),int el.place,.cp (ints rw) 0,ints rw,.ref c13 1,int e.place,.cp (int r) 0,int r,int (el.hour+r),.ref E 4,int f0.cS,.eu F 0 i cap,int G,.ref F (G*6),.ref F (G*6+3),ints el.marks,.ref c13 3,ints e.marks,int ch,int (f0.cS*ch),int (el.hour+r+f0.cS*ch),.ref c 0,.sl 1 (([0,0,1,3]:List Int).map int) .exact,int 0,int 0,.ref c13 0]:List AV).getD j (int 0):=⟨_,rfl⟩
         have o:∀j,V j=_:=λj=>congrFun hV j
         refine ab.J8 (Dt V (env.upd 96 (bool true)) σ6 c c13 (k+60+16*j+16) nums (el.hour+r+f0.cS*ch) (λz=>[int z,int e.place,int el.bk,ints e.marks,int ht,int sh])) lay.mixed (by rfl) ⟨λ_ _=>rfl,by simp,λ_=>rfl,by simp,by simp,by simp,by simp,by simp⟩ ?_ ?_
         . intro done i d K B w oN u
           have oN:i<37:=oN
           rcases(show i=0\/i=1\/i=2\/i=3\/i=4\/i=5\/i=6\/i=7\/i=8\/i=9\/i=10\/i=11\/i=12\/i=13\/i=14\/i=15\/i=16\/i=17\/i=18\/i=19\/i=20\/i=21\/i=22\/i=23\/i=24\/i=25\/i=26\/i=27\/i=28\/i=29\/i=30\/i=31\/i=32\/i=33\/i=34\/i=35\/i=36 by omega)with rfl|rfl|rfl|rfl|rfl|rfl|rfl|rfl|rfl|rfl|rfl|rfl|rfl|rfl|rfl|rfl|rfl|rfl|rfl|rfl|rfl|rfl|rfl|rfl|rfl|rfl|rfl|rfl|rfl|rfl|rfl|rfl|rfl|rfl|rfl|rfl|rfl
           . have b7:d 7=.eu F 0 i cap:=(u.base 7 (by omega)).trans Z
             refine aQ lay (mu:=[]) ?_;simp[b7];exact u.next (i:=0) (by omega) w (by omega) (by omega) ((o 0).symm)
           . have fl:d 12=int G:=(u.base 12 (by omega)).trans rP
             refine aQ lay (mu:=[]) ?_;simp[fl];exact u.next (i:=1) (by omega) w (by omega) (by omega) ((o 1).symm)
           . have d0:d 97=.eu F 0 i cap:=(u.cT 0 (B 0 (by rfl)) (by omega) (by omega) (by omega)).trans (o 0)
             have d1:d 98=int G:=(u.cT 1 (B 1 (by rfl)) (by omega) (by omega) (by omega)).trans (o 1)
             refine aQ lay (mu:=[]) ?_;simp[d0,d1,bq];exact u.next (i:=2) (by omega) w (by omega) (by omega) ((o 2).symm)
           . have d2:d 99=.ref F (G*6):=(u.cT 2 (B 2 (by rfl)) (by omega) (by omega) (by omega)).trans (o 2)
             refine aQ lay (mu:=[]) ?_;simp[d2];exact u.next (i:=3) (by omega) w (by omega) (by omega) ((o 3).symm)
           . have d3:d 100=.ref F (G*6):=(u.cT 3 (B 3 (by rfl)) (by omega) (by omega) (by omega)).trans (o 3)
             have kl:=u.keep (by omega) w (y:=F) av;rw[ic]at kl
             refine aQ lay (mu:=[]) ?_;simp[kl,mB,d3];exact u.next (i:=4) (by omega) w (by omega) (by omega) ((o 4).symm)
           . have b6:d 6=.ref E 0:=(u.base 6 (by omega)).trans Q
             refine aQ lay (mu:=[]) ?_;simp[b6];exact u.next (i:=5) (by omega) w (by omega) (by omega) ((o 5).symm)
           . have d5:d 102=.ref E 1:=(u.cT 5 (B 5 (by rfl)) (by omega) (by omega) (by omega)).trans (o 5)
             have k6:=u.keep (by omega) w (y:=E) n6;rw[h5]at k6
             refine aQ lay (mu:=[]) ?_;simp[k6,d5];exact u.next (i:=6) (by omega) w (by omega) (by omega) ((o 6).symm)
           . have b7:d 7=.eu F 0 i cap:=(u.base 7 (by omega)).trans Z
             refine aQ lay (mu:=[]) ?_;simp[b7];exact u.next (i:=7) (by omega) w (by omega) (by omega) ((o 7).symm)
           . have fl:d 12=int G:=(u.base 12 (by omega)).trans rP
             refine aQ lay (mu:=[]) ?_;simp[fl];exact u.next (i:=8) (by omega) w (by omega) (by omega) ((o 8).symm)
           . have d7:d 104=.eu F 0 i cap:=(u.cT 7 (B 7 (by rfl)) (by omega) (by omega) (by omega)).trans (o 7)
             have d8:d 105=int G:=(u.cT 8 (B 8 (by rfl)) (by omega) (by omega) (by omega)).trans (o 8)
             refine aQ lay (mu:=[]) ?_;simp[d7,d8,bq];exact u.next (i:=9) (by omega) w (by omega) (by omega) ((o 9).symm)
           . have d9:d 106=.ref F (G*6):=(u.cT 9 (B 9 (by rfl)) (by omega) (by omega) (by omega)).trans (o 9)
             refine aQ lay (mu:=[]) ?_;simp[d9];exact u.next (i:=10) (by omega) w (by omega) (by omega) ((o 10).symm)
           . have sg:d 107=.ref F (G*6+1):=(u.cT 10 (B 10 (by rfl)) (by omega) (by omega) (by omega)).trans (o 10)
             have kl:=u.keep (by omega) w (y:=F) av;rw[ic]at kl
             refine aQ lay (mu:=[]) ?_;simp[kl,n2,sg];exact u.next (i:=11) (by omega) w (by omega) (by omega) ((o 11).symm)
           . have d6:d 103=rows f0.roads:=(u.cT 6 (B 6 (by rfl)) (by omega) (by omega) (by omega)).trans (o 6)
             have si:d 108=int el.place:=(u.cT 11 (B 11 (by rfl)) (by omega) (by omega) (by omega)).trans (o 11)
             refine aQ lay (mu:=[]) ?_;simp[d6,si,b5];refine⟨ox.1,?_⟩;rw[<-dd];exact u.next (i:=12) (by omega) w (by omega) (by omega) ((o 12).symm)
           . have sj:d 109=.cp (ints rw) 0:=(u.cT 12 (B 12 (by rfl)) (by omega) (by omega) (by omega)).trans (o 12)
             refine aQ lay (mu:=[]) ?_;simp[sj];exact u.next (i:=13) (by omega) w (by omega) (by omega) ((o 13).symm)
           . have fp:d 13=.ref c13 0:=(u.base 13 (by omega)).trans P
             refine aQ lay (mu:=[]) ?_;simp[fp];exact u.next (i:=14) (by omega) w (by omega) (by omega) ((o 14).symm)
           . have so:d 111=.ref c13 1:=(u.cT 14 (B 14 (by rfl)) (by omega) (by omega) (by omega)).trans (o 14)
             have c8:=u.keep (by omega) w (y:=c13) m0;rw[Y]at c8
             refine aQ lay (mu:=[]) ?_;simp[c8,so];exact u.next (i:=15) (by omega) w (by omega) (by omega) ((o 15).symm)
           . have sr:d 110=ints rw:=(u.cT 13 (B 13 (by rfl)) (by omega) (by omega) (by omega)).trans (o 13)
             have sy:d 112=int e.place:=(u.cT 15 (B 15 (by rfl)) (by omega) (by omega) (by omega)).trans (o 15)
             refine aQ lay (mu:=[]) ?_;simp[sr,sy,oG];refine⟨oj.1,?_⟩;rw[<-gC];exact u.next (i:=16) (by omega) w (by omega) (by omega) ((o 16).symm)
           . have tc:d 113=.cp (int r) 0:=(u.cT 16 (B 16 (by rfl)) (by omega) (by omega) (by omega)).trans (o 16)
             refine aQ lay (mu:=[]) ?_;simp[tc];exact u.next (i:=17) (by omega) w (by omega) (by omega) ((o 17).symm)
           . have d4:d 101=int el.hour:=(u.cT 4 (B 4 (by rfl)) (by omega) (by omega) (by omega)).trans (o 4)
             have td:d 114=int r:=(u.cT 17 (B 17 (by rfl)) (by omega) (by omega) (by omega)).trans (o 17)
             refine aQ lay (mu:=[]) ?_;simp[d4,td,oK.1,oK.2];exact u.next (i:=18) (by omega) w (by omega) (by omega) ((o 18).symm)
           . have b6:d 6=.ref E 0:=(u.base 6 (by omega)).trans Q
             refine aQ lay (mu:=[]) ?_;simp[b6];exact u.next (i:=19) (by omega) w (by omega) (by omega) ((o 19).symm)
           . have tf:d 116=.ref E 4:=(u.cT 19 (B 19 (by rfl)) (by omega) (by omega) (by omega)).trans (o 19)
             have k6:=u.keep (by omega) w (y:=E) n6;rw[h5]at k6
             refine aQ lay (mu:=[]) ?_;simp[k6,tf];exact u.next (i:=20) (by omega) w (by omega) (by omega) ((o 20).symm)
           . have b7:d 7=.eu F 0 i cap:=(u.base 7 (by omega)).trans Z
             refine aQ lay (mu:=[]) ?_;simp[b7];exact u.next (i:=21) (by omega) w (by omega) (by omega) ((o 21).symm)
           . have fl:d 12=int G:=(u.base 12 (by omega)).trans rP
             refine aQ lay (mu:=[]) ?_;simp[fl];exact u.next (i:=22) (by omega) w (by omega) (by omega) ((o 22).symm)
           . have tm:d 118=.eu F 0 i cap:=(u.cT 21 (B 21 (by rfl)) (by omega) (by omega) (by omega)).trans (o 21)
             have tr:d 119=int G:=(u.cT 22 (B 22 (by rfl)) (by omega) (by omega) (by omega)).trans (o 22)
             refine aQ lay (mu:=[]) ?_;simp[tm,tr,bq];exact u.next (i:=23) (by omega) w (by omega) (by omega) ((o 23).symm)
           . have ts:d 120=.ref F (G*6):=(u.cT 23 (B 23 (by rfl)) (by omega) (by omega) (by omega)).trans (o 23)
             refine aQ lay (mu:=[]) ?_;simp[ts];exact u.next (i:=24) (by omega) w (by omega) (by omega) ((o 24).symm)
           . have vc:d 121=.ref F (G*6+3):=(u.cT 24 (B 24 (by rfl)) (by omega) (by omega) (by omega)).trans (o 24)
             have kl:=u.keep (by omega) w (y:=F) av;rw[ic]at kl
             refine aQ lay (mu:=[]) ?_;simp[kl,n5,vc];exact u.next (i:=25) (by omega) w (by omega) (by omega) ((o 25).symm)
           . have fp:d 13=.ref c13 0:=(u.base 13 (by omega)).trans P
             refine aQ lay (mu:=[]) ?_;simp[fp];exact u.next (i:=26) (by omega) w (by omega) (by omega) ((o 26).symm)
           . have vj:d 123=.ref c13 3:=(u.cT 26 (B 26 (by rfl)) (by omega) (by omega) (by omega)).trans (o 26)
             have c8:=u.keep (by omega) w (y:=c13) m0;rw[Y]at c8
             refine aQ lay (mu:=[]) ?_;simp[c8,vj];exact u.next (i:=27) (by omega) w (by omega) (by omega) ((o 27).symm)
           . have vx:d 122=ints el.marks:=(u.cT 25 (B 25 (by rfl)) (by omega) (by omega) (by omega)).trans (o 25)
             have wK:d 124=ints e.marks:=(u.cT 27 (B 27 (by rfl)) (by omega) (by omega) (by omega)).trans (o 27)
             refine aQ lay (mu:=[]) ?_;simp[vx,wK];refine cf Tryz.func106 rfl (Ck (by omega) (by omega) ?_)
             refine pg ?_;simp;exact u.next (i:=28) (by omega) w (by omega) (by omega) (by rw[o,hZ];rfl)
           . have wL:d 117=int f0.cS:=(u.cT 20 (B 20 (by rfl)) (by omega) (by omega) (by omega)).trans (o 20)
             have wN:d 125=int ch:=(u.cT 28 (B 28 (by rfl)) (by omega) (by omega) (by omega)).trans (o 28)
             refine aQ lay (mu:=[]) ?_;simp[wL,wN,oL.1,oL.2];exact u.next (i:=29) (by omega) w (by omega) (by omega) ((o 29).symm)
           . have wS:d 115=int (el.hour+r):=(u.cT 18 (B 18 (by rfl)) (by omega) (by omega) (by omega)).trans (o 18)
             have x0:d 126=int (f0.cS*ch):=(u.cT 29 (B 29 (by rfl)) (by omega) (by omega) (by omega)).trans (o 29)
             refine aQ lay (mu:=[]) ?_;simp[wS,x0,oM.1,oM.2];exact u.next (i:=30) (by omega) w (by omega) (by omega) ((o 30).symm)
           . have b0:d 0=.ref c 0:=(u.base 0 (by omega)).trans R
             refine aQ lay (mu:=[]) ?_;simp[b0];exact u.next (i:=31) (by omega) w (by omega) (by omega) ((o 31).symm)
           . refine aQ lay (mu:=[]) ?_
             simp;exact u.next (i:=32) (by omega) w (by omega) (by omega) ((o 32).symm)
           . have x3:d 128=.ref c 0:=(u.cT 31 (B 31 (by rfl)) (by omega) (by omega) (by omega)).trans (o 31)
             have xb:d 129=.sl 1 (([0,0,1,3]:List Int).map int) .exact:=(u.cT 32 (B 32 (by rfl)) (by omega) (by omega) (by omega)).trans (o 32)
             refine aQ lay (mu:=[]) ?_;simp[x3,xb];have xo:=u.pre w;subst xo;have xt:34∉done:=λq=>w (u.dep q)
             refine cf Tryz.func97 rfl (nX (l:=[0,0,1,3]) (by omega) hn ⟨by decide,by decide⟩ b4 λp Ri hp oS=>?_)
             refine pg ?_;simp;exact u.Ml w xt (p:=p) (by simp at hp;omega) (oS.1.mono (by omega)) oS.2
           . have xF:d 127=int (el.hour+r+f0.cS*ch):=(u.cT 30 (B 30 (by rfl)) (by omega) (by omega) (by omega)).trans (o 30)
             have ca:=B 33 (by rfl)
             obtain⟨p,hp,Bq,_⟩:=u.pick ca;have p0:-9223372036854775808<=el.hour+r+f0.cS*ch+p/\el.hour+r+f0.cS*ch+p<=9223372036854775807:=by omega
             refine aQ lay (mu:=[]) ?_;simp[xF,Bq,p0.1,p0.2];exact u.summed w ca hp Bq
           . have fp:d 13=.ref c13 0:=(u.base 13 (by omega)).trans P
             refine aQ lay (mu:=[]) ?_;simp[fp];exact u.next (i:=35) (by omega) w (by omega) (by omega) ((o 35).symm)
           . have xG:d 132=.ref c13 0:=(u.cT 35 (B 35 (by rfl)) (by omega) (by omega) (by omega)).trans (o 35)
             have ca:=B 33 (by rfl)
             have xM:=B 34 (by rfl)
             obtain⟨p,hp,Bq,Br⟩:=u.pick ca;have Br:=Br xM;obtain⟨y3,hz⟩:=u.post ca w;have c8:=(hz c13 m0).trans Y;refine aQ lay (mu:=[]) ?_;simp[xG,Br,c8,aJ]
             refine⟨u.base,λj hj g3 g4 g5=>u.cT j ((List.mem_cons.1 hj).resolve_left (by omega)) g3 g4 g5,λq=>absurd (List.mem_cons_of_mem _ ca) q,λ_ q=>absurd (List.mem_cons_self ..) q,λ_=>⟨p,hp,Bq,λ_=>Br⟩,λ_ j hj=>List.mem_cons_of_mem _ (B j ((by decide:∀j:Fin 36,ga _ j.val 36=true) ⟨j,hj⟩)),λ_=>List.mem_cons_of_mem _ ca,λ_=>⟨p,hp,?_,aa.an _ _ _,λy S y2=>by rw[aa.aj _ _ y2];exact hz y S⟩⟩
             obtain⟨n,z,g1,U⟩:=y3;exact⟨n,z,g1,by rw[aa.aj _ _ (Ne.symm m0)];exact U⟩
         . intro done CM K p5 u
           obtain⟨p,hp,g1,U,g3⟩:=u.fin (p5 36 (by decide))
           have hb:=λ(t:Nat) (ht:t<96)=>(u.base t (by omega)).trans (iO (env:=env) (v:=bool true) (show t≠96 by omega))
           refine M _ _ ⟨el.hour+r+f0.cS*ch+p,(hb 0 (by omega)).trans R,(hb 4 (by omega)).trans e4,(hb 6 (by omega)).trans Q,(hb 7 (by omega)).trans Z,(hb 8 (by omega)).trans e8,(hb 10 (by omega)).trans ir,(hb 11 (by omega)).trans lU,(hb 12 (by omega)).trans rP,(hb 13 (by omega)).trans P,g1,U,λy S y2=>(g3 y S y2).trans (ay y S y2),by omega,λ_=>?_⟩
           have y5:rd f1.roads el.place.toNat e.place.toNat=r:=by rw[eW];unfold rd;rw[List.getD_eq_getElem?_getD,List.getD_eq_getElem?_getD,List.getElem?_eq_getElem b5,Option.getD_some,<-dd,List.getElem?_eq_getElem dj,<-gC];rfl
           have y8:f1.cS=f0.cS:=by rw[eW]
           unfold Kv;rw[y5,y8,<-AL bA.marks he.marks,<-hZ];show r+f0.cS*ch<=el.hour+r+f0.cS*ch+p-el.hour;omega
       . have q2:¬od ks G>=0:=λq=>hY ((kb ks G).1 q)
         refine ab.runN lay [] 4 ?_;simp[hU,q2];refine M _ _ ⟨e.hour,by simp[R],by simp[e4],by simp[Q],by simp[Z],by simp[e8],by simp[ir],by simp[lU],by simp[rP],by simp[P],b4.mono (by omega),Y,ay,by have:=he.hour;omega,λq=>absurd q hY⟩
     clear b4 Y ay R e4 Q Z e8 ir lU rP P hU
     rintro env K ⟨hr,R,e4,Q,Z,e8,ir,lU,rP,P,p6,Y,et,yb,p7⟩
     have ym:σ.del c c13=none:=by
      cases hx:σ.del c c13 with
      |none=>rfl
      |some x=>have:=b9.1 _ _ hx;rw[<-c7 c13 m0,ax]at this;cases this
     have b8:(σ.del c).Le K:=λy x J=>by
      have S:y≠c:=λe=>by subst e;rw[a7]at J;cases J
      have y2:y≠c13:=λe=>by subst e;rw[ym]at J;cases J
      rw[et y S y2];exact b9.1 y x J
     have ie:∀b x,σ' b=some x->(∀l,x≠.cells l)->K b=σ' b:=λb x hb hx=>by
      refine et b (λe=>?_) λe=>?_
      . rw[e]at hb;obtain⟨_,_,_,q⟩:=hG;rw[q]at hb;cases hb;exact hx _ rfl
      . rw[e,<-c7 c13 m0,ax]at hb;cases hb
     have dr:Tok (σ.del c) K a 6 (es.map bd):=qw b9 b8 λb hb=>by obtain⟨g1,l,U⟩:=b9.be hb;exact⟨ie b _ U (by simp),g1⟩
     have dx:Tok (σ.del c) K hh 1 (ks.map int):=qw ei b8 λb hb=>by obtain⟨g1,l,U⟩:=ei.be hb;exact⟨ie b _ U (by simp),g1⟩
     have t4:K O=some (.cells eH):=by rw[et O c5 (Ne.symm m4)];exact q4
     have t6:K E=some (.cells (A6 a)):=by rw[et E n6 (Ne.symm m6)];exact q6
     have tl:K F=some (.cells (flatten (A.map bd)++rest)):=by rw[et F av (Ne.symm ml)];exact ql
     clear b9 ei q4 q6 ql a9 et ie
     rcases Int.lt_or_le 72 hr with p8|p8
     . refine rn ?_
       simp[lU,P,Y,p8,f3.1,f3.2];refine ih _ g1 ⟨_,K,a,hh,A,es,ks,rfl,by simp[R],by simp[e4],by simp[Q],by simp[Z],by simp[e8],by simp[ir],by simp;omega,p6.mono (by omega),t4,t6,tl,dr,dx,h1,D,gw,gA,by omega⟩
     . have pa:¬hr>72:=by omega
       obtain⟨n1,pb⟩:∃n1:gL,n1=⟨hr,e.place,el.bk,e.marks,ht,sh⟩:=⟨_,rfl⟩;obtain⟨bB,h7⟩:∃bB,bB=flatten ((A.set G n1).map bd)++rest:=⟨_,rfl⟩;have pd:G*6+6<=CL.length:=by rw[fc,List.length_append,cm];omega
       have pk:aJ CL (G*6) [int hr,int e.place,int el.bk,ints e.marks,int ht,int sh]=bB:=by
        have:=xf (k:=6) (A.map bd) G (bd n1) (by rw[List.length_map];exact gB) hK rfl
        rw[h7,List.map_set,<-this,fc];unfold aJ;rw[List.take_append_of_le_length (by rw[cm];omega),List.drop_append_of_le_length (by rw[cm];simp;omega),pb]
        simp
       rw[<-fc]at tl;have l3:=dr.cells;have F2:=dx.cells;have ps:K E=some (.cells [a,rows f0.roads,int f0.bh,int f0.gE,int f0.cS,int i]):=by rw[t6,ec]
       have Rj:=Ne.symm ml;refine rn ?_;simp[Q,Z,rP,P,Y,pa,tl,bq,pk,pd,aa.aj,hF.symm,ml,ps];subst pb;have z0:cH a≠some F:=λe=>by obtain⟨_,_,q⟩:=dr.be e;rw[tl]at q;cases q
       have pA:cH hh≠some F:=λe=>by obtain⟨_,_,q⟩:=dx.be e;rw[tl]at q;cases q
       have dy:Tok (σ.del c) (K.set F (.cells bB)) a 6 (es.map bd):=dr.beside r1 z0;have pB:Tok (σ.del c) (K.set F (.cells bB)) hh 1 (ks.map int):=dx.beside r1 pA;have G0:(es.map bd).length<=6:=by rw[List.length_map];omega
       have H0:(ks.map int).length<=6:=by rw[List.length_map,D.len];omega
       refine aH lay rfl rfl rfl my rfl my rfl vL (by decide) (by simp;omega) (σ0:=(K.set F (.cells bB)).off a) (es:=es.map bd) (xs:=[bd ⟨hr,e.place,el.bk,e.marks,ht,sh⟩]) (by simpa using dy.here.1) (.inr ⟨_,by simp;rfl⟩) λa' ix k0=>?_
       obtain⟨ea,z1⟩:=Du pB dy (λb hb q=>h1 b q hb) k0
       have h8:=k0.base dy.here.2;have k9:∀y l,(K.set F (.cells bB)) y=some (.cells l)->ix y=some (.cells l):=λy l J=>k0.1 _ _ (by rw[aa.iA (λe=>by obtain⟨_,_,q⟩:=dy.be e;rw[J]at q;cases q)];exact J)
       have h9:=h8.cells;refine rn ?_;simp[ir,rP];refine aH lay rfl rfl rfl cr rfl cr rfl qa (by decide) (by simp;omega) (σ0:=ix.off hh) (es:=ks.map int) (xs:=[int G]) (by simpa using ea.here.1) (.inr ⟨_,by simp;rfl⟩) λz2 al ft=>?_
       obtain⟨k2,pO⟩:=Du h8 ea (λb hb q=>z1 b q hb) ft
       have fv:=ft.base ea.here.2;have z3:=fv.cells;have gD:∀y l,ix y=some (.cells l)->al y=some (.cells l):=λy l J=>ft.1 _ _ (by rw[aa.iA (λe=>by obtain⟨_,_,q⟩:=ea.be e;rw[J]at q;cases q)];exact J)
       have z6:al E=some (.cells [a,rows f0.roads,int f0.bh,int f0.gE,int f0.cS,int i]):=gD _ _ (k9 _ _ (by rw[aa.aj _ _ (Ne.symm hF)];exact ps))
       have z4:al O=some (.cells eH):=gD _ _ (k9 _ _ (by rw[aa.aj _ _ (Ne.symm s4)];exact t4))
       have zl:al F=some (.cells bB):=gD _ _ (k9 _ _ (aa.an _ _ _));refine rn ?_;simp[Q,lU,z6,aJ,h9.1,h9.2,f3.1,f3.2];have q0:IX f0.roads.length ⟨hr,e.place,el.bk,e.marks,ht,sh⟩:=⟨⟨yb.1,by omega⟩,he.place,bA.bk,he.marks,hX,h2⟩
       have q5:A.getD G rg=el:=by rw[List.getD_eq_getElem?_getD,List.getElem?_eq_getElem gB,eg];rfl
       have q7:H.getD G 0=h0:=by rw[List.getD_eq_getElem?_getD,List.getElem?_eq_getElem ej,ep];rfl
       have gG:=D.push (k:=G) (n:=⟨hr,e.place,el.bk,e.marks,ht,sh⟩) bq (by rw[eW];exact q0.check) (by rw[q5]) (by rw[q7,eW];refine IY nh h2 ?_;exact ob) (λq=>by rw[q5];exact p7 q)
       have ho:∀{x:AV}{kk:Nat}{l:List AV},Tok (σ.del c) al x kk l->Tok (σ.del c) (al.set E (.cells (A6 a'))) x kk l:=λ{x kk l} hx=>hx.beside r6 (λe=>by obtain⟨_,_,q⟩:=hx.be e;rw[z6]at q;cases q)
       refine ih _ g1 ⟨_,al.set E (.cells (A6 a')),a',z2,A.set G ⟨hr,e.place,el.bk,e.marks,ht,sh⟩,es++[⟨hr,e.place,el.bk,e.marks,ht,sh⟩],ks++[(G:Int)],by rw[ec],by simp[R],by simp[e4],by simp[Q],by simp[Z],by simp[e8],by simp,by simp;omega,?_,?_,aa.an _ _ _,?_,by have:=ho k2;simpa using this,by have:=ho fv;simpa using this,λb hb=>pO b hb,gG,λx hx=>?_,λx hx=>?_,by simp;omega⟩
       . obtain⟨n,z,g1,U⟩:=p6
         exact⟨n,z,by omega,by rw[aa.aj _ _ (Ne.symm n6)];exact gD _ _ (k9 _ _ (by rw[aa.aj _ _ (Ne.symm av)];exact U))⟩
       . rw[aa.aj _ _ (Ne.symm fw)];exact z4
       . rw[aa.aj _ _ hF,zl,h7]
       . rcases List.mem_or_eq_of_mem_set hx with hx|rfl
         . exact gw x hx
         . exact q0
       . rcases List.mem_append.1 hx with hx|hx
         . exact gA x hx
         . simp at hx;subst hx;exact sb
   . have z5:j=qn:=by omega
     subst z5;have Rp:¬(j:Int)<j:=by omega
     refine rn ?_;simp[e4,Q,ir,lU,s5.2,q4,a9,aJ];obtain⟨nb,zb,k5,hv⟩:=hG;obtain⟨f,hf⟩:∃f:Fr,f=⟨es,f0.roads,f0.bh,f0.gE,f0.cS,(i:Int)⟩:=⟨_,rfl⟩;have b1:=Fr.mQ (T.fits (by omega)) (T.check (by omega))
     have za:yC cnt f ks:=by
      have gH:=T.cN;subst eW;subst hf;refine⟨⟨⟨by show es.length<1152921504606846976;omega,b1.fits.roads,b1.fits.row,λe he=>by have:=gA e he;omega⟩,b1.fr,b1.to,b1.le,b1.cS,by show 1<=(i:Int)/\(i:Int)<=6;omega,by show es.length<=6;omega,λe he=>D.vr e he,b1.Jd⟩,by show(es.length:Int)<=cnt;omega,by show f0.roads.length<=3;omega,λr hr=>?_,gA,by show(i:Int)<=3;omega,i,C,H,A,⟨D.len,D.Qx,D.vr,D.bk,D.Nd,D.fit,D.Qy,D.Dp,D.Mk⟩,rfl⟩
      obtain⟨t,ht,rfl⟩:=List.mem_iff_getElem.1 hr;exact Nat.le_trans (Nat.le_of_eq (b1.row (i:=t) ht).1) gH.2
     refine .jm (a':=.cq [aA f,ints ks]) (IG rfl λi x y x1 x2=>?_) (.less (σ':=σ.set c (.cells [ints nums,int nb,.lit (.int .u64 zb)])) (λy x J=>?_) (.done (h f ks _ za ⟨⟨nb,zb,by omega,aa.an _ _ _⟩,λy J=>aa.aj _ _ J⟩)))
     . match i with
       | 0=>
         simp at x1 x2;subst x1;subst x2;refine ns (by subst hf;rfl) λi x y x1 x2=>?_
         subst hf
         match i with
         |0=>simp at x1 x2;subst x1;subst x2;exact b9.W
         |1=>simp at x1 x2;subst x1;subst x2;exact .refl _
         |2=>simp at x1 x2;subst x1;subst x2;exact .refl _
         |3=>simp at x1 x2;subst x1;subst x2;exact .refl _
         |4=>simp at x1 x2;subst x1;subst x2;exact .refl _
         |5=>simp at x1 x2;subst x1;subst x2;exact .refl _
         |i+6=>simp at x1
       |1=>simp at x1 x2;subst x1;subst x2;exact ei.W
       |i+2=>simp at x1
     . by_cases S:y=c
       . subst S
         rw[aa.an]at J;rw[aa.aj _ _ n4,hv];exact J
       . rw[aa.aj _ _ S]at J
         have y4:y≠O:=λe=>by subst e;rw[h4]at J;cases J
         rw[aa.aj _ _ y4];exact b9.1 y x (by simpa[aa.del,S]using J)
end
end Go.Proofs.YtldmpfccgajobaaGreatDoor
namespace Go.Proofs.YtldmpfccgajobaaGreatDoor
open Tryz (prog)
open Go.bG Go.Conc
set_option maxHeartbeats 1000000
set_option maxRecDepth 4000
variable{m:Mo}{σ:aa}{KF:eI->aa->Prop}
theorem Cl{f:Fr}{e:gL}{a:Int}(hb:-1000<=e.aG-a/\e.aG-a<=1000)(h:KF (.val (bool (cE f e a))) σ):ar prog m 125 [aA f,bd e,int a] σ KF:=by
 have f1:-9223372036854775808<=e.aG-a/\e.aG-a<=9223372036854775807:=by omega
 unfold cE at h;refine fs [] 3 Tryz.func125 rfl rfl (by rfl) (by kernel_rfl) ?_;simp[Tryz.f125,f1.1,f1.2];refine cf Tryz.func83 rfl (cy ?_);refine rn ?_;simp;rw[show decide (e.aG=a)=(e.aG==a)from rfl]at h;generalize (e.aG==a)=d at h ⊢;refine aB.intro (λb=>?_) (λb=>?_)<;>simp at b
 . rw[if_pos b]at h
   simp;exact .done h
 rw[if_neg b]at h;simp;refine aB.intro (λc=>?_) (λc=>?_)<;>simp at c
 . rw[if_pos c]at h
   simp;exact .done h
 rw[if_neg c]at h;simp;cases d<;>first|exact .done h|(simp at h ⊢;exact .done h)
theorem vi{i:Nat}(h:i<=34):qu.take i=(List.range i).map λi:Nat=>(i:Int)-3:=by unfold qu;rw[<-List.map_take,List.take_range,Nat.min_eq_left h]
theorem KH{i:Nat}(h:i<34):qu.take (i+1)=qu.take i++[(i:Int)-3]:=by rw[vi (by omega),vi (by omega),List.range_succ,List.map_append];rfl
theorem vT{f:Fr}{l:List Int}{i:Nat}(h:i<34):(qu.take (i+1)).filter (λh=>l.all λn=>cE f (aO f n) h)=(qu.take i).filter (λh=>l.all λn=>cE f (aO f n) h)++if l.all (λn=>cE f (aO f n) ((i:Int)-3))then[(i:Int)-3]else[]:=by rw[KH h,List.filter_append];congr 1;rw[List.filter_cons];rfl
theorem KI{f:Fr}{l:List Int}(F:f.Good)(K:l.length<1000000)(z:∀n∈l,0<=n/\n<f.aq.length)(h:KF (.val (ints (je f l))) σ):ar prog m 74 [aA f,ints l] σ KF:=by
 refine fs Qo 2 Tryz.func74 rfl rfl (by rfl) (by kernel_rfl) ?_
 simp[Tryz.f74];refine ab.loop 34 (λi s=>∃env e a,s=⟨env,e,[],.no⟩/\env 1=ints l/\env 2=.cp (aA f) 0/\env 5=a/\env 6=int ((i:Int)-3)/\Tok σ e a 1 (((qu.take i).filter λh=>l.all λn=>cE f (aO f n) h).map int)) ⟨_,σ,.lit (.slice none 0 0),rfl,by simp,by simp,by simp,by simp,by simpa using Tok.nil σ 1⟩ ?_
 rintro L i _ M ⟨env,e,a,rfl,g,o,p,k,b⟩ E
 have G:=b.cells
 rcases Nat.lt_or_ge i 34 with g1|g1
 . have A:(i:Int)-3<=30:=by omega
   have f1:-9223372036854775808<=(i:Int)-3+1/\(i:Int)-3+1<=9223372036854775807:=by omega
   refine rn ?_;simp[k,A];refine ab.loop l.length (λj s=>∃env,s=⟨env,e,[],.no⟩/\env 1=ints l/\env 2=.cp (aA f) 0/\env 5=a/\env 6=int ((i:Int)-3)/\env 7=bool ((l.take j).all λn=>cE f (aO f n) ((i:Int)-3))/\env 8=int j) ⟨_,rfl,by simp[g,o,p,k]⟩ ?_
   clear g o p k
   rintro N j _ O ⟨env,rfl,g,o,p,k,t,r⟩ u
   rcases Nat.lt_or_ge j l.length with g2|g2
   . have pP:(j:Int)<l.length:=by omega
     have x:-9223372036854775808<=(j:Int)+1/\(j:Int)+1<=9223372036854775807:=by omega
     obtain⟨H,P⟩:=z _ (List.getElem_mem g2);have B:l[j].toNat<f.aq.length:=by omega
     have c:(l.take (j+1)).all (λn=>cE f (aO f n) ((i:Int)-3))=((l.take j).all (λn=>cE f (aO f n) ((i:Int)-3)) && cE f f.aq[l[j].toNat] ((i:Int)-3)):=by rw[List.take_succ_eq_append_getElem g2,List.all_append,<-fY B];simp
     by_cases q:(l.take j).all (λn=>cE f (aO f n) ((i:Int)-3))=true
     . have Q:=(lK (F.vr _ (List.getElem_mem B))).2.2.2.1
       have d:env 7=bool true:=by rw[t,q]
       rw[q,Bool.true_and]at c;refine rn ?_;simp[g,o,k,d,r,g2,pP,H,B];refine cf Tryz.func125 rfl (Cl (by omega) ?_)
       refine pg ?_;simp;refine rn ?_;simp[r,x.1,x.2];exact u _ g2 ⟨_,rfl,by simp[g,o,p,k,c]⟩
     . have q:(l.take j).all (λn=>cE f (aO f n) ((i:Int)-3))=false:=by simpa using q
       have d:env 7=bool false:=by rw[t,q]
       rw[q,Bool.false_and]at c;refine rn ?_;simp[g,d,r,pP];refine rn ?_;simp[r,x.1,x.2];exact u _ g2 ⟨_,rfl,by simp[g,o,p,k,c]⟩
   . have:j=l.length:=by omega
     subst this;rw[List.take_length]at t;have y:=vT (f:=f) (l:=l) g1
     by_cases q:l.all (λn=>cE f (aO f n) ((i:Int)-3))=true
     . have d:env 7=bool true:=by rw[t,q]
       rw[if_pos q]at y;refine rn ?_;simp[g,p,k,d,r];refine aH lay rfl rfl rfl cr rfl cr rfl qa (by decide) (by simp;have:=List.length_filter_le (λh=>l.all λn=>cE f (aO f n) h) (qu.take i);rw[List.length_take]at this;omega) (σ0:=σ) (es:=((qu.take i).filter λh=>l.all λn=>cE f (aO f n) h).map int) (xs:=[int ((i:Int)-3)]) (by simpa using b) (.inr ⟨_,by simp;rfl⟩) λI C v=>?_
       have J:=v.cells;refine rn ?_;simp[k,f1.1,f1.2];exact E _ g1 ⟨_,C,I,rfl,by simp[g],by simp[o],by simp,by simp;omega,by rw[y,List.map_append];exact v⟩
     . have q:l.all (λn=>cE f (aO f n) ((i:Int)-3))=false:=by simpa using q
       have d:env 7=bool false:=by rw[t,q]
       rw[if_neg (by simp[q]),List.append_nil]at y
       refine rn ?_;simp[g,k,d,r,f1.1,f1.2];exact E _ g1 ⟨_,e,a,rfl,by simp[g],by simp[o],by simp[p],by simp;omega,by rw[y];exact b⟩
 . have D:i=34:=by omega
   subst D;refine rn ?_;simp[p,k];have w:qu.take 34=qu:=by rw[vi (Nat.le_refl _)];rfl
   rw[w]at b;exact .jm b.W (.less b.1 (.done h))
def Jf(a b:List Int)(k:Nat):Int:=(((List.range k).filter λi:Nat=>decide ((i:Int)∈a)!=decide ((i:Int)∈b)).length:Int)
theorem IZ(a b:List Int)(k:Nat):Jf a b (k+1)=Jf a b k+if(decide ((k:Int)∈a)!=decide ((k:Int)∈b))=true then 1 else 0:=by unfold Jf;rw[List.range_succ,List.filter_append,List.length_append,List.filter_cons];split<;>simp
theorem Mm(a b:List Int)(k:Nat):0<=Jf a b k/\Jf a b k<=k:=by
 unfold Jf;have:=List.length_filter_le (λi:Nat=>decide ((i:Int)∈a)!=decide ((i:Int)∈b)) (List.range k);rw[List.length_range]at this;omega
namespace RC
abbrev O7:List Entry:=[⟨5,.take [0,1,2,4,5,6] false (.one 3 (.one 7 (.one 8 (.done))))⟩]
theorem sn{a b:gL}(r:a.marks.length<1152921504606846976)(hb:b.marks.length<1152921504606846976)(h:KF (.val (int (qv a.marks b.marks))) σ):ar prog m 127 [bd a,bd b] σ KF:=by
 refine fs O7 2 Tryz.func127 rfl rfl (by rfl) (by kernel_rfl) ?_;simp[Tryz.f127];refine ab.loop 5 (λk s=>∃env,s=⟨env,σ,[],.no⟩/\env 2=.cp (bd a) 0/\env 3=.cp (bd b) 0/\env 5=int (Jf a.marks b.marks k)/\env 6=int k) ⟨_,rfl,by simp[Jf]⟩ ?_;rintro v k _ w ⟨env,rfl,l,n,c,d⟩ t;rcases Nat.lt_or_ge k 5 with g1|g1
 . have e:(k:Int)<=4:=by omega
   have u:=Mm a.marks b.marks k;have f1:-9223372036854775808<=(k:Int)+1/\(k:Int)+1<=9223372036854775807:=by omega
   have o:-9223372036854775808<=Jf a.marks b.marks k+1/\Jf a.marks b.marks k+1<=9223372036854775807:=by omega
   have f:=IZ a.marks b.marks k;refine rn ?_;simp[l,n,d,e];obtain⟨p,g⟩:∃p,p=decide ((k:Int)∈a.marks):=⟨_,rfl⟩;obtain⟨q,i⟩:∃q,q=decide ((k:Int)∈b.marks):=⟨_,rfl⟩;rw[<-g,<-i]at f;refine cf Tryz.func128 rfl (sX r ?_);rw[<-g];refine pg ?_;simp;refine cf Tryz.func128 rfl (sX hb ?_);rw[<-i];refine pg ?_;simp;clear g i;cases p<;>cases q<;>simp at f
   all_goals (
    refine rn ?_;simp[c,d,f1.1,f1.2,o.1,o.2];exact t _ g1 ⟨_,rfl,by simp[l,n,f,c]⟩)
 . have j:k=5:=by omega
   subst j;refine rn ?_;simp[c,d];exact .done h
end RC
abbrev iG(f:Fr):Int->Int->Bool:=Fs λn=>(aO f n).hour
def dD(l:List Int)(i:Nat):List Int:=((List.range i).map λi:Nat=>(i:Int)).filter λi=>decide (i∈l)
theorem yD(l:List Int)(i:Nat):dD l (i+1)=dD l i++if(i:Int)∈l then[(i:Int)]else[]:=by
 unfold dD;rw[List.range_succ,List.map_append,List.filter_append];by_cases h:(i:Int)∈l<;>simp[h]
theorem AM{l:List Int}{i:Nat}{x:Int}(h:x∈dD l i):0<=x/\x<i:=by unfold dD at h;obtain⟨a,_⟩:=List.mem_filter.1 h;obtain⟨j,b,rfl⟩:=List.mem_map.1 a;have:=List.mem_range.1 b;omega
theorem su(l:List Int)(i:Nat):(dD l i).length<=i:=by unfold dD;refine Nat.le_trans (List.length_filter_le _ _) ?_;rw[List.length_map,List.length_range];exact Nat.le_refl _
theorem Cm{f:Fr}{l:List Int}(h6:f.aq.length<=1000)(hl:l.length<1000000)(h:KF (.val (ints (aI f (vR f l)))) σ):ar prog m 126 [aA f,ints l] σ KF:=by
 have Y:∀i,(cA (iG f) (dD l i)).length<=i:=λi=>by rw[iD];exact su l i
 refine fs OL 2 Tryz.func126 rfl rfl (by rfl) (by kernel_rfl) ?_
 simp[Tryz.f126];refine ab.loop f.aq.length (λi s=>∃env w a,s=⟨env,w,[],.no⟩/\env 1=ints l/\env 2=.cp (aA f) 0/\env 5=a/\env 6=int i/\bn σ w a 1 ((cA (iG f) (dD l i)).reverse.map int)) ⟨_,σ,.lit (.slice none 0 0),rfl,by simp,by simp,by simp,by simp,⟨aa.le_refl _,.inl ⟨by simp[dD,cA],.inl rfl⟩⟩⟩ ?_
 rintro c0 i _ hi ⟨env,w,a,rfl,F,t,u,o,g⟩ Z
 have ax:=g.cells;have a7:=Y i
 rcases Nat.lt_or_ge i f.aq.length with g1|g1
 . have a8:(i:Int)<f.aq.length:=by omega
   have f1:-9223372036854775808<=(i:Int)+1/\(i:Int)+1<=9223372036854775807:=by omega
   have C:=yD l i;refine rn ?_;simp[F,t,o,a8];refine cf Tryz.func128 rfl (sX (by omega) ?_)
   by_cases W:(i:Int)∈l
   . rw [if_pos W]at C
     have J:cA (iG f) (dD l (i+1))=dR (iG f) i (cA (iG f) (dD l i)):=by rw[C,cA,List.foldl_append];rfl
     obtain⟨S,hS⟩:∃S,S=cA (iG f) (dD l i):=⟨_,rfl⟩
     have a9:∀x∈S,0<=x/\x.toNat<f.aq.length:=λx K=>by have:=AM ((nT _ _ x).1 (hS ▸ K));omega
     rw[<-hS]at J g a7;obtain⟨x,K⟩:∃x,x=(i:Int):=⟨_,rfl⟩;have O:x.toNat=i:=by omega
     have ay:(S.reverse.map int).length=S.length:=by simp
     rcases g.len with⟨rfl,G⟩|⟨sp,rfl⟩|⟨b0,av,rfl⟩
     all_goals (
      refine rn ?_;simp[u,o,W];refine jv lay rfl rfl rfl cr rfl cr rfl qa (by decide) (by simp;omega) (σ0:=σ) (es:=S.reverse.map int) (xs:=[int i]) (by simpa using g) (.inl (.inr ⟨_,by simp;rfl⟩)) (by simp) λa' D p=>?_
      rw[<-List.map_singleton (f:=int),<-List.map_append,<-K]at p
      obtain⟨b,cap,rest,rfl,t1,t2,t4,t5⟩:∃b cap rest,a'=.eu b 0 (S.length+1) cap/\σ b=none/\S.length+1<=cap/\D b=some (.cells ((S.reverse++[x]).map int++rest))/\rest.length=(cap-(S.length+1))*1:=by
       have P:((S.reverse++[x]).map int).length=S.length+1:=by simp
       rcases p.2 with⟨e,_⟩|⟨b,cap,rest,r1,r2,r3,r4,r5,r6⟩
       . have:=congrArg List.length e
         rw[P,List.length_nil]at this;omega
       . rw[P]at r1 r3 r6
         rw[cY (λe Q=>by obtain⟨_,_,rfl⟩:=List.mem_map.1 Q;rfl)]at r5
         exact⟨b,cap,rest,r1,r2,r3,r5,r6⟩
      have H:∀(d:aa) (T:List Int),T.length=S.length+1->d b=some (.cells (T.reverse.map int++rest))->(∀y,y≠b->d y=D y)->bn σ d (.eu b 0 (S.length+1) cap) 1 (T.reverse.map int):=λd T L h5 R=>by
       refine⟨λy v hv=>?_,.inr ⟨b,cap,rest,by simp[L],t1,by simp[L];exact t2,λe Q=>by obtain⟨_,_,rfl⟩:=List.mem_map.1 Q;rfl,?_,by simp[L];omega⟩⟩
       . have:y≠b:=λe=>by subst e;rw[t1]at hv;cases hv
         rw[R y this];exact p.1 y v hv
       . rw[cY (λe Q=>by obtain⟨_,_,rfl⟩:=List.mem_map.1 Q;rfl)];exact h5
      refine rn ?_;simp
      refine ab.loop S.length (λk s=>∃env d j c,s=⟨env,d,[],.no⟩/\env 1=ints l/\env 2=.cp (aA f) 0/\env 5=.eu b 0 (S.length+1) cap/\env 6=int i/\env 7=int c.length/\S=j++c/\c.length+k=S.length/\dR (iG f) x S=j++dR (iG f) x c/\d b=some (.cells (c.reverse.map int++int x::(j.reverse.map int++rest)))/\∀y,y≠b->d y=D y)
       ⟨_,D,[],S,rfl,by simp[F],by simp[t],by simp,by simp[o],by first|(simp;done)|(simp at G;simp[G]),rfl,rfl,rfl,by rw[t4];simp,λ_ _=>rfl⟩ ?_
      clear F t u o
      rintro c1 k _ hk ⟨env,d,j,c,rfl,F,t,u,o,e7,q,hlen,r,hc,R⟩ ad
      cases c with
      | nil=>
        simp only[List.length_nil,Nat.zero_add]at hlen;simp only[List.append_nil]at q;have L:cA (iG f) (dD l (i+1))=j++[x]:=by rw[J,<-K,r];rfl
        refine rn ?_;simp[e7];refine rn ?_;simp[o,f1.1,f1.2];exact Z _ g1 ⟨_,d,.eu b 0 (S.length+1) cap,rfl,by simp[F],by simp[t],by simp[u],by simp,by rw[L];exact H d (j++[x]) (by rw[q];simp) (by simpa using hc) R⟩
      | cons z c=>
        obtain⟨q1,q2,q3,q4⟩:=OT (A:=c.reverse.map int) (B:=j.reverse.map int++rest) (x:=int x) (y:=int z) (n:=c.length) (by simp)
        have U:d b=some (.cells (c.reverse.map int++int z::int x::(j.reverse.map int++rest))):=by rw[hc];simp
        have M:=a9 z (by rw[q];simp)
        have p1:(0:Int)<(c.length:Int)+1:=by omega
        have I:S.length=j.length+(c.length+1):=by rw[q];simp
        have p2:(c.length:Int)+1<(S.length:Int)+1:=by omega
        have p3:(c.length:Int)<(S.length:Int)+1:=by omega
        have p4:(0:Int)<=(c.length:Int)+1:=by omega
        have p5:((c.length:Int)+1).toNat=c.length+1:=by omega
        have X:-9223372036854775808<=(c.length:Int)/\(c.length:Int)<=9223372036854775807:=by omega
        refine rn ?_;simp[t,u,o,e7,p1,p3,X.1,X.2,U,M.1,M.2,g1];have ez:=fY M.2;have ex:aO f x=f.aq[i]:=by rw[fY (by rw[O];exact g1)];simp[O]
        by_cases E:f.aq[i].hour<f.aq[z.toNat].hour
        . have N:dR (iG f) x (z::c)=z::dR (iG f) x c:=Kr (by rw[ez,ex];exact E)
          have p7:c.length+1+1<=c.length+(j.length+rest.length+1+1):=by omega
          have p8:c.length+1<=c.length+(j.length+rest.length+1+1):=by omega
          rw[<-K]at o;refine rn ?_;simp[u,o,e7,E,p2,p3,p4,p5,X.1,X.2,U,p7,p8];refine ad _ (by rw[I];simp at hlen;omega) ⟨_,_,j++[z],c,rfl,by simp[F],by simp[t],by simp[u],by simp[o,K],by simp,by rw[q];simp,by simp at hlen;omega,by rw[r,N];simp,?_,λy V=>?_⟩
          . rw[aa.an];simp
          . rw[aa.aj _ _ V]
            exact R y V
        . have N:dR (iG f) x (z::c)=x::z::c:=Ks (by rw[ez,ex];exact E)
          have L:cA (iG f) (dD l (i+1))=j++x::z::c:=by rw[J,<-K,r,N]
          refine rn ?_;simp[o,E,f1.1,f1.2];exact Z _ g1 ⟨_,d,.eu b 0 (S.length+1) cap,rfl,by simp[F],by simp[t],by simp[u],by simp,by rw[L];exact H d (j++x::z::c) (by rw[I];simp;omega) (by simpa using hc) R⟩)
   . rw[if_neg W,List.append_nil]at C
     refine rn ?_;simp[o,W,f1.1,f1.2];exact Z _ g1 ⟨_,w,a,rfl,by simp[F],by simp[t],by simp[u],by simp,by rw[C];exact g⟩
 . have al:i=f.aq.length:=by omega
   subst al;refine rn ?_;simp[t,u,o];have:dD l f.aq.length=vR f l:=rfl;rw[this]at g;refine g.thaw ?_;rw[r9]at h;exact h
theorem Cn{f:Fr}{l:List Int}(q:f.Good)(hl:l.length<1000000)(h:KF (.val (bool (!bx f (aI f (vR f l))))) σ):ar prog m 78 [aA f,ints l] σ KF:=by
 have I:=q.cS;have h6:=q.sH;obtain⟨L,R⟩:∃L,L=aI f (vR f l):=⟨_,rfl⟩
 have h0:∀n∈L,0<=n/\n<f.aq.length:=λn hn=>by rw[R]at hn;exact(AF.1 (yy.1 hn)).1
 have hlen:L.length<=1000:=by rw[R];have:=(iN f (vR f l)).length_eq;rw[this];have:=su l f.aq.length;show(dD l f.aq.length).length<=1000;omega
 rw[<-R]at h;unfold bx at h;refine fs Qq 2 Tryz.func78 rfl rfl (by rfl) (by kernel_rfl) ?_
 simp[Tryz.f78];refine cf Tryz.func126 rfl (Cm (by omega) hl ?_)
 rw[<-R];refine rn ?_;simp;refine ab.loop (L.length-1) (λk s=>∃env D,s=⟨env,D,[],.no⟩/\σ.Le D/\env 1=ints L/\env 2=.cp (aA f) 0/\env 5=int ((k:Int)+1)/\∀i<k,eN f (L.getD i 0) (L.getD (i+1) 0)=false) ⟨_,_,rfl,aa.le_refl _,by simp⟩ ?_
 rintro c0 k _ hk ⟨env,D,rfl,a,p,r,w,o⟩ ih
 rcases Nat.lt_or_ge (k+1) L.length with g1|g1
 . have X:(k:Int)+1<L.length:=by omega
   have Y:k<L.length:=by omega
   obtain⟨x0,x1⟩:=h0 _ (List.getElem_mem Y);obtain⟨y0,y1⟩:=h0 _ (List.getElem_mem g1);have J:L[k].toNat<f.aq.length:=by omega
   have K:L[k+1].toNat<f.aq.length:=by omega
   have f1:-9223372036854775808<=(k:Int)/\(k:Int)<=9223372036854775807:=by omega
   have f2:((k:Int)+1).toNat=k+1:=by omega
   have f3:(0:Int)<=(k:Int)+1:=by omega
   have S:-9223372036854775808<=(k:Int)+1+1/\(k:Int)+1+1<=9223372036854775807:=by omega
   obtain⟨A,M⟩:∃A,A=f.aq[L[k].toNat]:=⟨_,rfl⟩;obtain⟨B,N⟩:∃B,B=f.aq[L[k+1].toNat]:=⟨_,rfl⟩;have eA:=fY J;have eB:=fY K;rw[<-M]at eA;rw[<-N]at eB;have bA:=lK (q.vr A (by rw[M];exact List.getElem_mem J))
   have bB:=lK (q.vr B (by rw[N];exact List.getElem_mem K))
   have T:A.place.toNat<f.roads.length:=by omega
   obtain⟨r1,r2⟩:=q.row T;have U:B.place.toNat<f.roads[A.place.toNat].length:=by omega
   obtain⟨r3,r4⟩:=r2 _ (List.getElem_mem U);have Z:rd f.roads A.place.toNat B.place.toNat=f.roads[A.place.toNat][B.place.toNat]:=cI T U;have lA:=ja (mC bA.2.2.2.2.2);have lB:=ja (mC bB.2.2.2.2.2);obtain⟨_,c2,c3⟩:=Dj lA lB;have O:=AE bA.2.2.2.2.2 bB.2.2.2.2.2;obtain⟨ch,E⟩:∃ch,ch=bc (aT A.marks) (aT B.marks):=⟨_,rfl⟩;have z:qv A.marks B.marks=ch:=by rw[O,E]
   rw[<-E]at c2 c3
   have hmul:0<=f.cS*ch/\f.cS*ch<=30:=by
    constructor
    . exact Int.mul_nonneg (by omega) c2
    . calc f.cS*ch<=6*5:=Int.mul_le_mul I.2 c3 c2 (by omega)
       _=30:=by rfl
   have j:eN f L[k] L[k+1]=decide (B.hour-A.hour<f.roads[A.place.toNat][B.place.toNat]+f.cS*ch):=by unfold eN;rw[eA,eB,Z,E]
   have t:L.getD k 0=L[k]:=by simp[List.getD_eq_getElem?_getD,Y]
   have u:L.getD (k+1) 0=L[k+1]:=by simp[List.getD_eq_getElem?_getD,g1]
   have C:-9223372036854775808<=B.hour-A.hour/\B.hour-A.hour<=9223372036854775807:=by omega
   have V:-9223372036854775808<=f.cS*ch/\f.cS*ch<=9223372036854775807:=by omega
   have W:-9223372036854775808<=f.roads[A.place.toNat][B.place.toNat]+f.cS*ch/\f.roads[A.place.toNat][B.place.toNat]+f.cS*ch<=9223372036854775807:=by omega
   refine rn ?_;simp[p,r,w,X,Y,g1,x0,J,y0,K,f1.1,f1.2,f2,f3,<-M,<-N];refine⟨pD.intro λc P=>?_,pD.intro λc P=>?_⟩
   . simp
     refine pD.intro λd hd=>?_
     obtain⟨H,Q,hd⟩:=aa.aL hd;simp[H,Q,aa.aj];refine ab.cV 6 (b:=c) (bd A) (by simp[Q,aa.aj]) (by simp) rfl ?_
     refine ab.cV 7 (b:=d) (bd B) (by simp[H,aa.del]) (by simp) rfl ?_
     ((
       refine rn ?_;simp[p,r,w,C.1,C.2,T,U]
       repeat refine⟨by omega,?_⟩
       refine cf Tryz.func127 rfl (RC.sn (q.fits.marks A (by rw[M];exact List.getElem_mem J)) (q.fits.marks B (by rw[N];exact List.getElem_mem K)) ?_)
       rw[z];refine pg ?_;simp[p,r,w,C.1,C.2,V.1,V.2,W.1,W.2];refine rn ?_
       by_cases v:B.hour-A.hour<f.roads[A.place.toNat][B.place.toNat]+f.cS*ch
       . simp[v]
         have:(List.range (L.length-1)).any (λi=>eN f (L.getD i 0) (L.getD (i+1) 0))=true:=List.any_eq_true.2 ⟨k,List.mem_range.2 (by omega),by rw[t,u,j];simpa using v⟩
         rw[this]at h;refine .less ?_ (.done h);intro y x g;have F:y≠c:=λe=>by rw[e,a.none P]at g;cases g
         have G:y≠d:=λe=>by rw[e,a.none hd]at g;cases g
         simpa[aa.del,aa.aj,F,G]using a y x g
       . simp[v,p,r,w,S.1,S.2]
         refine ih _ (by omega) ⟨_,_,rfl,λy x g=>?_,by simp[p],by simp[r],by simp,λi hi=>?_⟩
         . have F:y≠c:=λe=>by rw[e,a.none P]at g;cases g
           have G:y≠d:=λe=>by rw[e,a.none hd]at g;cases g
           simpa[aa.del,aa.aj,F,G]using a y x g
         . by_cases e:i=k
           . subst e;rw[t,u,j];simpa using v
           . exact o i (by omega)))
   . simp
     refine pD.intro λd hd=>?_
     obtain⟨H,Q,hd⟩:=aa.aL hd;simp[Q,aa.aj];refine ab.cV 6 (b:=d) (bd A) (by simp[H,aa.aj]) (by simp) rfl ?_
     refine ab.cV 7 (b:=c) (bd B) (by simp[Q,aa.del]) (by simp) rfl ?_
     ((
       refine rn ?_;simp[p,r,w,C.1,C.2,T,U]
       repeat refine⟨by omega,?_⟩
       refine cf Tryz.func127 rfl (RC.sn (q.fits.marks A (by rw[M];exact List.getElem_mem J)) (q.fits.marks B (by rw[N];exact List.getElem_mem K)) ?_)
       rw[z];refine pg ?_;simp[p,r,w,C.1,C.2,V.1,V.2,W.1,W.2];refine rn ?_
       by_cases v:B.hour-A.hour<f.roads[A.place.toNat][B.place.toNat]+f.cS*ch
       . simp[v]
         have:(List.range (L.length-1)).any (λi=>eN f (L.getD i 0) (L.getD (i+1) 0))=true:=List.any_eq_true.2 ⟨k,List.mem_range.2 (by omega),by rw[t,u,j];simpa using v⟩
         rw[this]at h;refine .less ?_ (.done h);intro y x g;have F:y≠c:=λe=>by rw[e,a.none P]at g;cases g
         have G:y≠d:=λe=>by rw[e,a.none hd]at g;cases g
         simpa[aa.del,aa.aj,F,G]using a y x g
       . simp[v,p,r,w,S.1,S.2]
         refine ih _ (by omega) ⟨_,_,rfl,λy x g=>?_,by simp[p],by simp[r],by simp,λi hi=>?_⟩
         . have F:y≠c:=λe=>by rw[e,a.none P]at g;cases g
           have G:y≠d:=λe=>by rw[e,a.none hd]at g;cases g
           simpa[aa.del,aa.aj,F,G]using a y x g
         . by_cases e:i=k
           . subst e;rw[t,u,j];simpa using v
           . exact o i (by omega)))
 . have H:¬(k:Int)+1<L.length:=by omega
   refine rn ?_;simp[p,w,H]
   have:(List.range (L.length-1)).any (λi=>eN f (L.getD i 0) (L.getD (i+1) 0))=false:=by rw[List.any_eq_false];intro i hi;have:=List.mem_range.1 hi;rw[o i (by omega)];simp
   rw[this]at h;exact .less a (.done h)
theorem KJ{f:Fr}{l:List Int}(y:f.Good)(z:l.length<1000000)(t:l≠[])(c:∀n∈l,0<=n/\n<f.aq.length)(h:KF (.val (bool (sI f l))) σ):ar prog m 72 [aA f,ints l] σ KF:=by
 have a:0<l.length:=List.length_pos_iff.2 t;obtain⟨A,H⟩:=c _ (List.getElem_mem a);have u:l[0].toNat<f.aq.length:=by omega
 have v:l.getD 0 0=l[0]:=by simp[List.getD_eq_getElem?_getD,a]
 have e:=fY u;unfold sI yA at h;rw[v,e]at h;refine fs Qm 2 Tryz.func72 rfl rfl (by rfl) (by kernel_rfl) ?_
 simp[Tryz.f72];refine ab.loop (l.length-1) (λk s=>∃env,s=⟨env,σ,[],.no⟩/\env 1=ints l/\env 2=.cp (aA f) 0/\env 5=int ((k:Int)+1)/\(l.take (k+1)).all (λn=>decide ((aO f n).bk=f.aq[l[0].toNat].bk))=true) ⟨_,rfl,by simp,by simp,by simp,?_⟩ ?_
 . rw[List.take_succ_eq_append_getElem a]
   simp[e]
 rintro I k _ J ⟨env,rfl,g,i,r,b⟩ E
 rcases Nat.lt_or_ge (k+1) l.length with g1|g1
 . have j:(k:Int)+1<l.length:=by omega
   obtain⟨y0,K⟩:=c _ (List.getElem_mem g1);have w:l[k+1].toNat<f.aq.length:=by omega
   have B:((k:Int)+1).toNat=k+1:=by omega
   have C:(0:Int)<=(k:Int)+1:=by omega
   have D:-9223372036854775808<=(k:Int)+1+1/\(k:Int)+1+1<=9223372036854775807:=by omega
   have o:=fY w
   have d:(l.take (k+1+1)).all (λn=>decide ((aO f n).bk=f.aq[l[0].toNat].bk))=decide (f.aq[l[k+1].toNat].bk=f.aq[l[0].toNat].bk):=by rw[List.take_succ_eq_append_getElem g1,List.all_append,b,<-o];simp
   by_cases q:f.aq[l[k+1].toNat].bk=f.aq[l[0].toNat].bk
   . have p:(f.aq[l[k+1].toNat].bk !=f.aq[l[0].toNat].bk)=false:=by simp[q]
     refine rn ?_;simp[g,i,r,j,g1,y0,w,B,C,A,u,a,p];refine rn ?_;simp[r,D.1,D.2];exact E _ (by omega) ⟨_,rfl,by simp[g],by simp[i],by simp,by rw[d];simp[q]⟩
   . have p:(f.aq[l[k+1].toNat].bk !=f.aq[l[0].toNat].bk)=true:=by simp[q]
     have F:l.all (λn=>decide ((aO f n).bk=f.aq[l[0].toNat].bk))=false:=by rw[List.all_eq_false];exact⟨_,List.getElem_mem g1,by rw[o];simp[q]⟩
     rw[F]at h;refine rn ?_;simp[g,i,r,j,g1,y0,w,B,C,A,u,a,p];refine rn ?_;simp;simp at h;exact .done h
 . have G:¬(k:Int)+1<l.length:=by omega
   have x:k+1=l.length:=by omega
   rw[x,List.take_length]at b;rw[b,Bool.true_and]at h;refine rn ?_;simp[g,i,r,G];refine cf Tryz.func74 rfl (KI y z c ?_);refine rn ?_;simp
   by_cases q:je f l=[]
   . rw[q]at h ⊢
     simp at h ⊢;exact .done h
   . have p:0<(je f l).length:=List.length_pos_iff.2 q
     simp[q]at h;simp[g,i,p];refine cf Tryz.func78 rfl (Cn y z ?_);refine rn ?_;simp;exact .done h
theorem sY{n:Nat}(h:n<=6):7 ^ n<=117649:=Nat.le_trans (Nat.pow_le_pow_right (by omega) h) (by decide)
theorem lS{f:Fr}(a:f.Good)(out:List Int):∀(fuel:Nat) (w:List Int),(cW f out fuel w).length<=7 ^ fuel
 |0,w=>by simp[cW]
 | fuel+1,w=>by
   have b:=a.most;unfold cW;split
   . exact Nat.le_trans (lS a out fuel _) (Nat.pow_le_pow_right (by omega) (by omega))
   . rw[Nat.pow_succ,Nat.mul_comm]
     refine Nat.le_trans (nY (B:=7 ^ fuel) _ λk _=>?_) (Nat.mul_le_mul_right _ ?_)
     . unfold kJ
       split
       . exact lS a out fuel _
       . simp
     . rw[List.length_range];omega
theorem AN{f:Fr}(u:f.Good){out:List Int}(Z:out.length<1152921504606846976):∀(fuel:Nat) (w:List Int) (σ:aa) (KF:eI->aa->Prop),w.length+fuel=f.aq.length->(∀x∈w,-1<=x/\x<6)->KF (.val (rows (cW f out fuel w))) σ->ar prog m 90 [aA f,ints out,ints w] σ KF:=by
 have h6:=u.sH;have a7:=u.most;intro fuel
 induction fuel with
 | zero=>
   intro w σ KF hlen H h;have N:(w.length:Int)=f.aq.length:=by omega
   unfold cW at h;refine fs OF 3 Tryz.func90 rfl rfl (by rfl) (by kernel_rfl) ?_
   simp[Tryz.f90,N];refine .jm (a':=rows [w]) ?_ (.done h);exact fC 1 [ints w] .exact
 | succ fuel v=>
   intro w σ KF hlen H h;have N:((w.length:Int)==f.aq.length)=false:=by rw[beq_eq_false_iff_ne];omega
   unfold cW at h
   have z:∀y:Int,-1<=y/\y<6->∀x∈w++[y],-1<=x/\x<6:=λy hy x l=>by
    rcases List.mem_append.1 l with l|l
    . exact H x l
    . simp at l;subst l;exact hy
   refine fs OF 3 Tryz.func90 rfl rfl (by rfl) (by kernel_rfl) ?_
   simp[Tryz.f90,N];refine cf Tryz.func128 rfl (sX Z ?_);refine rn ?_;simp
   by_cases I:(w.length:Int)∈out
   . rw[if_pos I] at h
     simp[I]
     repeat' (first
               |apply And.intro
               | (refine aH lay rfl rfl rfl cr rfl cr rfl qa (by decide) (by simp;omega) (σ0:=σ) (es:=[]) (xs:=w.map int) ⟨aa.le_refl _,.inr (.inl rfl)⟩ (.inr ⟨_,by simp;rfl⟩) λa1 O e=>?_
                  have p:=e.cells;refine pg ?_;simp[p.1,p.2];refine aH lay rfl rfl rfl cr rfl cr rfl qa (by decide) (by simp;omega) (σ0:=σ) (es:=w.map int) (xs:=[int (-1)]) (by simpa using e) (.inr ⟨_,by simp;rfl⟩) λA o d=>?_
                  have q:=d.cells;refine pg ?_;simp[q.1,q.2];have hW:Wl [aA f,ints out,A] [aA f,ints out,ints (w++[-1])]:=.cons (.refl _) (.cons (.refl _) (.cons (show A.W (.sl 1 ((w++[-1]).map int) .any)by rw[List.map_append];exact d.W) .nil))
                  refine bi Tryz.func90 rfl rfl hW (v (w++[-1]) o _ (by simp;omega) (z (-1) (by omega)) ?_)
                  refine pg ?_;simp;refine rn ?_;simp;exact .less d.1 (.done h)))
   . rw [if_neg I]at h
     obtain⟨cnt,C⟩:∃cnt,cnt=(min (bf w+1) f.most).toNat:=⟨_,rfl⟩;have a8:=sc w;have a9:=Az w 6 (by omega) λx l=>(H x l).2
     rw[<-C]at h
     have P:∀k,((List.range k).flatMap (kJ f w (cW f out fuel))).length<=k*117649:=λk=>by
      have:=nY (B:=117649) (g:=kJ f w (cW f out fuel)) (List.range k) λj _=>by
       unfold kJ;split
       . exact Nat.le_trans (lS u out fuel _) (sY (by omega))
       . simp
      rwa [List.length_range]at this
     simp[I];refine ab.loop cnt (λk s=>∃env D a,s=⟨env,D,[],.no⟩/\env 1=ints out/\env 2=ints w/\env 3=.cp (aA f) 0/\env 7=int w.length/\env 8=a/\env 9=int k/\Tok σ D a 1 (((List.range k).flatMap (kJ f w (cW f out fuel))).map ints)) ⟨_,σ,.lit (.slice none 0 0),rfl,by simp,by simp,by simp,by simp,by simp,by simp,by simpa using Tok.nil σ 1⟩ ?_
     rintro c0 k _ hk ⟨env,E,a,rfl,Q,J,t,X,K,r,c⟩ Y
     have ad:=c.cells;refine rn ?_;simp[J,r];refine cf Tryz.func67 rfl (Ku (by omega) (λx l=>by have:=H x l;omega) ?_)
     refine rn ?_;simp
     rcases Nat.lt_or_ge k cnt with g2|g2
     . have L:(k:Int)<=bf w:=by omega
       have R:(k:Int)<f.most:=by omega
       have f1:-9223372036854775808<=(k:Int)+1/\(k:Int)+1<=9223372036854775807:=by omega
       simp[J,t,r,L,R];refine aH lay rfl rfl rfl cr rfl cr rfl qa (by decide) (by simp;omega) (σ0:=E) (es:=[]) (xs:=w.map int) ⟨aa.le_refl _,.inr (.inl rfl)⟩ (.inr ⟨_,by simp;rfl⟩) λa1 O e=>?_
       have p:=e.cells;refine rn ?_;simp[r];refine aH lay rfl rfl rfl cr rfl cr rfl qa (by decide) (by simp;omega) (σ0:=E) (es:=w.map int) (xs:=[int k]) (by simpa using e) (.inr ⟨_,by simp;rfl⟩) λA o d=>?_
       have q:=d.cells
       have S:A.W (ints (w++[(k:Int)])):=by show A.W (.sl 1 ((w++[(k:Int)]).map int) .any);rw[List.map_append];exact d.W
       refine ab.Hk 48 (a':=ints (w++[(k:Int)])) (by simpa using S) ?_
       refine rn ?_;simp[t,r];refine cf Tryz.func102 rfl (IR (by simp;omega) ?_)
       refine pg ?_;simp;have F:=z k (by omega)
       refine cf Tryz.func72 rfl (KJ u (by have:=sd (w++[(k:Int)]) k;simp at this;omega) (by rw[dC,if_pos rfl];simp) (λn hn=>by have:=ny hn;simp at this;omega) ?_)
       refine pg ?_;simp
       have b:(List.range (k+1)).flatMap (kJ f w (cW f out fuel))=(List.range k).flatMap (kJ f w (cW f out fuel))++kJ f w (cW f out fuel) k:=by rw[List.range_succ,List.flatMap_append];simp
       have i:=c.up d.1
       by_cases M:sI f (bF (w++[(k:Int)]) k)=true
       . have T:kJ f w (cW f out fuel) k=cW f out fuel (w++[(k:Int)]):=if_pos M
         rw[T]at b;refine rn ?_;simp[Q,t,K,M];refine cf Tryz.func90 rfl (v (w++[(k:Int)]) o _ (by simp;omega) F ?_)
         refine rn ?_;simp;have q1:=P k;have q2:=Nat.le_trans (lS u out fuel (w++[(k:Int)])) (sY (by omega))
         have q3:k*117649<=6*117649:=Nat.mul_le_mul_right _ (by omega)
         refine aH lay rfl rfl rfl lJ rfl lJ rfl cr (by decide) (by simp only[List.length_map];omega) (σ0:=σ) (es:=((List.range k).flatMap (kJ f w (cW f out fuel))).map ints) (xs:=(cW f out fuel (w++[(k:Int)])).map ints) (by simpa using i) (.inr ⟨_,by simp;rfl⟩) λa3 U G=>?_
         have al:=G.cells;refine rn ?_;simp[r,f1.1,f1.2];exact Y _ g2 ⟨_,U,a3,rfl,by simp[Q],by simp[J],by simp[t],by simp[X],by simp,by simp,by rw[b,List.map_append];exact G⟩
       . have pf:sI f (bF (w++[(k:Int)]) k)=false:=by simpa using M
         have T:kJ f w (cW f out fuel) k=[]:=if_neg M;rw[T,List.append_nil]at b;refine rn ?_;simp[r,pf,f1.1,f1.2];exact Y _ g2 ⟨_,o,a,rfl,by simp[Q],by simp[J],by simp[t],by simp[X],by simp[K],by simp,by rw[b];exact i⟩
     . have V:k=cnt:=by omega
       subst V
       by_cases L:(k:Int)<=bf w
       . have R:¬(k:Int)<f.most:=by omega
         simp[t,K,r,L,R];exact .jm c.W (.less c.1 (.done h))
       . simp[K,L]
         exact .jm c.W (.less c.1 (.done h))
theorem Dv{f:Fr}(a:f.Good)(h:KF (.val (rows (au f []))) σ):ar prog m 61 [aA f] σ KF:=by
 have b:Wl [aA f,AV.lit (.slice none 0 0),AV.lit (.slice none 0 0)] [aA f,ints [],ints []]:=.cons (.refl _) (.cons (gl 1) (.cons (gl 1) .nil));refine fs [] 1 Tryz.func61 rfl rfl (by rfl) (by kernel_rfl) ?_;simp[Tryz.f61];refine bi Tryz.func90 rfl rfl b (AN a (by simp) f.aq.length [] _ _ (by simp) (by simp) ?_);rw[vb a];refine rn ?_;simp;exact .done h
def bY(f:Fr)(asks:Bool)(x y:Int):Int:=if check f≠0 then check f else if asks=true/\¬(cK x 0 (f.aq.length-1)=true/\cK y 0 (f.aq.length-1)=true)then 3 else if au f []=[]then 11 else 0
theorem FA{f:Fr}{asks:Bool}{x y:Int}(j:f.Fits)(a:bY f asks x y≠0->KF (.val (.cq [.lit (.slice none 0 0),int (bY f asks x y)])) σ)(d:bY f asks x y=0->check f=0->au f []≠[]->KF (.val (.cq [rows (au f []),int 0])) σ):
 ar prog m 66 [aA f,bool asks,int x,int y] σ KF:=by
 have g:=j.aq;refine fs [] 4 Tryz.func66 rfl rfl (by rfl) (by kernel_rfl) ?_
 simp[Tryz.f66];refine cf Tryz.func34 rfl (xe j ?_);refine rn ?_;simp;refine aB.intro (λb=>?_) (λb=>?_)<;>simp at b<;>simp[b]
 . have e:bY f asks x y=check f:=by unfold bY;rw[if_pos b]
   rw[e]at a;exact .done (a b)
 have k:=Fr.mQ j b;have hlen:=qp k [];cases asks with
 | false=>
   have e:bY f false x y=if au f []=[]then 11 else 0:=by unfold bY;rw[if_neg (by simp[b]),if_neg (by simp)]
   rw[e]at a d;simp
   ((
     refine cf Tryz.func61 rfl (Dv k ?_);refine rn ?_;simp;refine aB.intro (λc=>?_) (λc=>?_)<;>simp at c
     . rw[if_pos c]at a
       simp;exact .done (a (by simp))
     . rw[if_neg c]at d
       simp;exact .done (d rfl b c)))
 | true=>
   simp;refine cf Tryz.func118 rfl (sm g ?_);refine rn ?_;simp
   by_cases h:cK x 0 (f.aq.length-1)=true
   . simp [h]
     refine cf Tryz.func118 rfl (sm g ?_);refine rn ?_;simp
     by_cases i:cK y 0 (f.aq.length-1)=true
     . have e:bY f true x y=if au f []=[]then 11 else 0:=by unfold bY;rw[if_neg (by simp[b]),if_neg (by simp[h,i])]
       rw[e]at a d;simp[i]
       ((
         refine cf Tryz.func61 rfl (Dv k ?_);refine rn ?_;simp;refine aB.intro (λc=>?_) (λc=>?_)<;>simp at c
         . rw[if_pos c]at a
           simp;exact .done (a (by simp))
         . rw[if_neg c]at d
           simp;exact .done (d rfl b c)))
     . have e:bY f true x y=3:=by unfold bY;rw[if_neg (by simp[b]),if_pos ⟨rfl,λq=>i q.2⟩]
       rw[e]at a;have pf:cK y 0 (f.aq.length-1)=false:=by simpa using i
       simp[pf];exact .done (a (by simp))
   . have e:bY f true x y=3:=by unfold bY;rw[if_neg (by simp[b]),if_pos ⟨rfl,λq=>h q.1⟩]
     rw[e]at a;have pP:cK x 0 (f.aq.length-1)=false:=by simpa using h
     simp[pP];exact .done (a (by simp))
theorem Mn{l:List (List Int)}{x y:Int}(B:l.length<1000000000)(o:0<=x/\∀w∈l,x.toNat<w.length)(p:0<=y/\∀w∈l,y.toNat<w.length)(h:KF (.val (int ((l.filter (eF x y)).length:Int))) σ):ar prog m 94 [rows l,int x,int y] σ KF:=by
 refine fs Qv 3 Tryz.func94 rfl rfl (by rfl) (by kernel_rfl) ?_;simp[Tryz.f94];refine ab.loop l.length (λi s=>∃env,s=⟨env,σ,[],.no⟩/\env 0=rows l/\env 1=int x/\env 2=int y/\env 7=int (((l.take i).filter (eF x y)).length:Int)/\env 8=int i) ⟨_,rfl,by simp⟩ ?_;rintro C i _ D ⟨env,rfl,d,j,k,n,f⟩ t;rcases Nat.lt_or_ge i l.length with g1|g1
 . have z:(i:Int)<l.length:=by omega
   obtain⟨w,g⟩:∃w,w=l[i]:=⟨_,rfl⟩;have b:=o.2 w (by rw[g];exact List.getElem_mem g1);have c:=p.2 w (by rw[g];exact List.getElem_mem g1);have A:((l.take i).filter (eF x y)).length<=i:=Nat.le_trans (List.length_filter_le _ _) (by rw[List.length_take];omega);have f1:-9223372036854775808<=(i:Int)+1/\(i:Int)+1<=9223372036854775807:=by omega
   have u:-9223372036854775808<=(((l.take i).filter (eF x y)).length:Int)+1/\(((l.take i).filter (eF x y)).length:Int)+1<=9223372036854775807:=by omega
   have v:eF x y w=decide (w[x.toNat]=w[y.toNat]):=by simp[eF,List.getD_eq_getElem?_getD,b,c]
   have a:(l.take (i+1)).filter (eF x y)=(l.take i).filter (eF x y)++if eF x y w=true then[w]else[]:=by
    rw[List.take_succ_eq_append_getElem g1,List.filter_append,<-g];by_cases e:eF x y w=true<;>simp[e]
   by_cases q:w[x.toNat]=w[y.toNat]
   . rw[v,if_pos (decide_eq_true q)]at a
     refine rn ?_;simp[d,j,k,f,g1,<-g,o.1,p.1,b,c,beq_iff_eq.2 q];refine rn ?_;simp[n,f,f1.1,f1.2,u.1,u.2];refine t _ g1 ⟨_,rfl,by simp[d,j,k,a]⟩
   . rw[v,if_neg (by simpa using q),List.append_nil]at a
     refine rn ?_;simp[d,j,k,f,g1,<-g,o.1,p.1,b,c,beq_eq_false_iff_ne.2 q];refine rn ?_;simp[f,f1.1,f1.2];refine t _ g1 ⟨_,rfl,by simp[d,j,k,a,n]⟩
 . have r:i=l.length:=by omega
   subst r;rw[List.take_length]at n;refine rn ?_;simp[d,n,f];exact .done h
end Go.Proofs.YtldmpfccgajobaaGreatDoor
namespace Go.Proofs.YtldmpfccgajobaaGreatDoor
open Tryz (prog)
open Go.bG Go.Conc
set_option maxHeartbeats 2000000
set_option maxRecDepth 4000
variable{m:Mo}{σ:aa}{KF:eI->aa->Prop}
theorem O8:De prog 25 3:=.of (by kernel_rfl) (by kernel_rfl) (by kernel_rfl) (by kernel_rfl)
theorem FB{f:Fr}(a:f.Good):jz f=((au f []).length:Int):=by
 by_cases b:2<=f.aq.length
 . exact Cd a b
 have e:jz f=1:=by unfold jz;rw[if_pos (by omega)]
 rw[e];have g:=a.most;have c:(min ((0:Int)+1) f.most).toNat=1:=by omega
 have d:jb f (bw 0 0)=true:=by
  have:bS (bw 0 0)=[0]:=by decide +kernel
  unfold jb;rw[this,decide_eq_true_eq];exact Mj a 0
 rcases(show f.aq.length=0\/f.aq.length=1 by omega)with hn|hn
 . unfold au;rw[hn];simp[dI]
 . unfold au;rw[hn]
   unfold dI;rw[c];simp only[List.range_succ,List.range_zero,List.nil_append,List.flatMap_cons,List.flatMap_nil,List.append_nil];simp[d,dI]
namespace MA
end MA
end Go.Proofs.YtldmpfccgajobaaGreatDoor
namespace Go.Proofs.YtldmpfccgajobaaGreatDoor
open Tryz (prog)
open Go.bG Go.Conc
set_option maxHeartbeats 1000000
set_option maxRecDepth 4000
variable{m:Mo}{σ:aa}{KF:eI->aa->Prop}
theorem I0{a b:AV}:(AV.cq [.lit (.slice none 0 0),a]).W (.cq [ints [],a]):=IG rfl λi x y c d=>by
 match i with
 |0=>simp at c d;subst c;subst d;exact gl 1
 |1=>simp at c d;subst c;subst d;exact .refl _
 |i+2=>simp at c
theorem I1{f:Fr}(b:f.Good){w:List Int}(a:w∈au f []):w.length=f.aq.length/\∀x∈w,0<=x/\x<f.most:=by
 refine⟨?_,q9 f [] _ _ _ _ (by simp) w a⟩;have:=lN f [] _ _ _ _ w a;simpa using this
theorem AO{f:Fr}(h:bY f false 0 0=0):check f=0/\au f []≠[]:=by
 unfold bY at h;split at h
 . next q=>exact absurd h q
 next q=>
 rw[if_neg (by simp)]at h;split at h
 . cases h
 next a=>exact⟨by simpa using q,a⟩
end Go.Proofs.YtldmpfccgajobaaGreatDoor
namespace Go.Proofs.YtldmpfccgajobaaGreatDoor
open Tryz (prog)
open Go.bG Go.Conc
set_option maxHeartbeats 2000000
set_option maxRecDepth 4000
variable{m:Mo}{σ:aa}{KF:eI->aa->Prop}
def jB(g:Nat × Nat->Int):Option (Nat × Nat)->List AV
 |none=>[int 0,int 0,int 0,bool false]
 |some p=>[int p.1,int p.2,int (g p),bool true]
theorem I2{g:Nat × Nat->Int}{c:Nat}{o:Option (Nat × Nat)}{p:Nat × Nat}{n x y:Int}(b:x=p.1)(d:y=p.2)(e:n=g p)(a:σ c=some (.cells (jB g o)))(h:∀σ',σ' c=some (.cells (jB g (aU g o p)))->(∀x,x≠c->σ' x=σ x)->KF (.val (.cq [])) σ'):ar prog m 93 [.ref c 0,.agg [int x,int y],int n] σ KF:=by
 subst e;subst b;subst d;cases o with
 | none=>
   simp only[jB]at a;refine fs [] 3 Tryz.func93 rfl rfl (by rfl) (by kernel_rfl) ?_;simp[Tryz.f93,a,aJ];refine .done (h _ (aa.an _ _ _) λx b=>?_);simp[aa.aj,b]
 | some v=>
   simp only[jB]at a;refine fs [] 3 Tryz.func93 rfl rfl (by rfl) (by kernel_rfl) ?_;simp[Tryz.f93,a];by_cases q:g p<g v
   . simp[aB,q,a,aJ]
     simp only[aU,if_pos q]at h;refine .done (h _ (aa.an _ _ _) λx b=>?_);simp[aa.aj,b]
   . simp[aB,q]
     simp only[aU,if_neg q]at h;exact .done (h _ a λx _=>rfl)
theorem I3{w:List Int}{x y:Int}(a:0<=x/\x.toNat<w.length)(b:0<=y/\y.toNat<w.length)(h:KF (.val (bool (eF x y w))) σ):ar prog m 92 [ints w,.cp (int x) 0,.cp (int y) 0] σ KF:=by
 have c:w.getD x.toNat 0=w[x.toNat]:=by simp[List.getD_eq_getElem?_getD,a.2]
 have d:w.getD y.toNat 0=w[y.toNat]:=by simp[List.getD_eq_getElem?_getD,b.2]
 unfold eF at h;rw[c,d]at h;refine fs Qu 3 Tryz.func92 rfl rfl (by rfl) (by kernel_rfl) ?_;simp[Tryz.f92,a.1,a.2,b.1,b.2];refine rn ?_;simp;refine .done ?_;by_cases q:w[x.toNat]=w[y.toNat]
 . simpa[q]using h
 . have:(w[x.toNat]==w[y.toNat])=false:=by simp[q]
   simpa[q,this]using h
def f9(g:Nat × Nat->Int)(all:Int):Option (Nat × Nat)->List AV
 |none=>[int 0,int 0,int 0,int 11]
 |some q=>if g q<all then[int q.1,int q.2,int (g q),int 0]else[int 0,int 0,int 0,int 11]
theorem KK(hs:m.solo=true){f:Fr}(hf:f.Fits)(hc:check f=0)(b5:au f []≠[])(h:KF (.val (.cq (f9 (iF (au f [])) (au f []).length ((dq f.aq.length f.aq.length).foldl (aU (iF (au f []))) none)))) σ):ar prog m 37 [aA f] σ KF:=by
 have hg:=Fr.mQ hf hc;have h6:=hg.sH;have hlen:=qp hg [];have dx:=qp hg [0,0];have dy:=qp hg [0,1];have b6:∀w∈au f [],w.length=f.aq.length:=λw hw=>by have:=lN f [] _ _ _ _ w hw;simpa using this
 refine fs OE 1 Tryz.func37 rfl rfl (by rfl) (by kernel_rfl) ?_
 simp[Tryz.f37];have hW:Wl [aA f,AV.lit (.slice none 0 0)] [aA f,.sl 1 (([]:List Int).map int) .any]:=.cons (.refl _) (.cons (gl 1) .nil);refine bi Tryz.func62 rfl rfl hW (q8 (l:=[]) (sp:=.any) hs hf hc (by simp) (by simp) b5 λb mb e0 b7 H U P=>?_)
 refine rn ?_;simp;refine cZ.intro λu h8=>?_
 simp;have Q:u≠b:=λe=>by subst e;obtain⟨q,_⟩:=H;rw[q]at h8;cases h8
 have V:u≠mb:=λe=>by subst e;obtain⟨_,_,q,_⟩:=H;rw[q]at h8;cases h8
 have b8:σ u=none:=by
  cases e:σ u with
  |none=>rfl
  |some x=>rw[P _ _ e]at h8;cases h8
 refine cf Tryz.func60 rfl (Aq hs hg ⟨by omega,by omega⟩ b7 (nz H (aa.aj _ _ (Ne.symm Q)) (aa.aj _ _ (Ne.symm V))) λav b9 q1=>?_)
 rw[FB hg];refine rn ?_;simp
 have X:σ.Le av:=λy x j=>by
  have y8:y≠u:=λe=>by subst e;rw[b8]at j;cases j
  have yb:y≠b:=λe=>by subst e;rw[U.1]at j;cases j
  have ym:y≠mb:=λe=>by subst e;rw[U.2]at j;cases j
  exact q1 y x ((aa.aj _ _ y8).trans (P y x j)) yb (.inl ym)
 have D:av u=some (.cells [int 0,int 0,int 0,bool false]):=q1 u _ (aa.an _ _ _) Q (.inl V);obtain⟨g,ax⟩:∃g,g=iF (au f []):=⟨_,rfl⟩;obtain⟨n,hn⟩:∃n,n=f.aq.length:=⟨_,rfl⟩;obtain⟨L,hL⟩:∃L,L=au f []:=⟨_,rfl⟩;rw[<-ax,<-hn,<-hL]at h;rw[<-hL]at hlen ax ⊢
 refine ab.loop n (λa s=>∃env σ',s=⟨env,σ',[],.no⟩/\env 1=.cp (aA f) 0/\env 6=iL b mb f 0/\env 8=.ref u 0/\env 9=int L.length/\env 26=int n/\env 27=int a/\Dc b 6 mb .u8 (eU f) σ'/\σ.Le σ'/\σ' u=some (.cells (jB g ((dq n a).foldl (aU g) none)))) ⟨_,av,rfl,by simp,by simp,by simp,by simp,by simp[hn],by simp,b9,X,D⟩ ?_
 clear H P h8 b9 q1 X D
 rintro k0 a _ ha ⟨env,σ',rfl,e1,e6,W,e9,A,B,H,C,D⟩ ca
 rcases Nat.lt_or_ge a n with g1|g1
 . have R:(a:Int)<n:=by omega
   have f1:-9223372036854775808<=(a:Int)+1/\(a:Int)+1<=9223372036854775807:=by omega
   refine rn ?_;simp[A,B,R];refine cZ.intro λI E=>?_
   simp[f1.1,f1.2];refine cZ.intro λc t=>?_
   obtain⟨z1,z2,t⟩:=aa.aL t;simp;have Y:I≠b:=λe=>by subst e;obtain⟨q,_⟩:=H;rw[q]at E;cases E
   have Z:I≠mb:=λe=>by subst e;obtain⟨_,_,q,_⟩:=H;rw[q]at E;cases E
   have a7:I≠u:=λe=>by subst e;rw[D]at E;cases E
   have J:c≠b:=λe=>by subst e;obtain⟨q,_⟩:=H;rw[q]at t;cases t
   have K:c≠mb:=λe=>by subst e;obtain⟨_,_,q,_⟩:=H;rw[q]at t;cases t
   have F:c≠u:=λe=>by subst e;rw[D]at t;cases t
   have k:∀y,σ' y=none->σ y=none:=λy j=>by
    cases e:σ y with
    |none=>rfl
    |some x=>rw[C _ _ e]at j;cases j
   refine ab.cV 10 (b:=I) (int a) (by simp[aa.aj,z2]) (by simp) rfl ?_
   obtain⟨G,M⟩:∃G,G=(((σ'.set I (.cells [int a])).set c (.cells [int ((a:Int)+1)])).del I):=⟨_,rfl⟩;have ka:∀y,y≠I->y≠c->G y=σ' y:=λy y1 y2=>by rw[M];simp only[aa.del,y1,if_false,aa.aj _ _ y2,aa.aj _ _ y1]
   have a8:G c=some (.cells [int ((a:Int)+1)]):=by rw[M];simp only[aa.del,z1,if_false,aa.an]
   have bq:=nz (σ':=G) H (ka b (Ne.symm Y) (Ne.symm J)) (ka mb (Ne.symm Z) (Ne.symm K))
   have a9:σ.Le G:=λy x j=>by
    rw[ka y (λe=>by subst e;rw[k _ E]at j;cases j) (λe=>by subst e;rw[k _ t]at j;cases j)]
    exact C y x j
   have bA:G u=some (.cells (jB g ((dq n a).foldl (aU g) none))):=by rw[ka u (Ne.symm a7) (Ne.symm F)];exact D
   have N:=k _ t;rw[<-M]
   refine ab.loop (n-(a+1)) (λd s=>∃env i c,s=⟨env,i,[],.no⟩/\env 1=.cp (aA f) 0/\env 6=iL b mb f 0/\env 8=.ref u 0/\env 9=int L.length/\env 26=int n/\env 27=int a/\env 10=.cp (int a) 0/\env 11=.ref c 0/\Dc b 6 mb .u8 (eU f) i/\σ.Le i/\i u=some (.cells (jB g ((dq n a++rh a d).foldl (aU g) none)))/\i c=some (.cells [int ((a:Int)+1+d)])/\c≠u/\σ c=none) ⟨_,G,c,rfl,by simp[e1],by simp[e6],by simp[W],by simp[e9],by simp[A],by simp[B],by simp,by simp,bq,a9,by simpa[rh]using bA,by simpa using a8,F,N⟩ ?_
   clear e1 e6 W e9 A B bq a9 bA a8 N ka M F J K Y Z a7 k H C D E t z1 z2
   rintro k1 d _ hd ⟨env,i,c,rfl,e1,e6,W,e9,A,B,ir,lU,H,C,D,O,F,N⟩ cb
   have J:c≠b:=λe=>by subst e;obtain⟨q,_⟩:=H;rw[q]at O;cases O
   have K:c≠mb:=λe=>by subst e;obtain⟨_,_,q,_⟩:=H;rw[q]at O;cases O
   have dr:u≠b:=Q;refine ab.cV 11 (b:=c) (int ((a:Int)+1+d)) O lU rfl ?_;have kd:∀y,y≠c->(i.del c) y=i y:=λy y1=>by simp only[aa.del,y1,if_false]
   have bB:=nz (σ':=i.del c) H (kd b (Ne.symm J)) (kd mb (Ne.symm K))
   have ad:σ.Le (i.del c):=λy x j=>by
    rw[kd y (λe=>by subst e;rw[N]at j;cases j)]
    exact C y x j
   have ay:=(kd u (Ne.symm F)).trans D;clear H C D O kd;generalize i.del c=e7 at *
   rcases Nat.lt_or_ge d (n-(a+1))with g2|g2
   . have pP:(a:Int)+1+d<f.aq.length:=by omega
     have f2:-9223372036854775808<=(a:Int)+1+d+1/\(a:Int)+1+d+1<=9223372036854775807:=by omega
     refine rn ?_;simp[e1,e6,ir,pP];refine cf Tryz.func91 rfl (uX (lH uS uT B6 hs b7) hg (p:=eF a ((a+1+d:Nat):Int)) ⟨rfl,rfl⟩ (λw c5 σ KF hK=>eP Tryz.func92 rfl rfl rfl (I3 (x:=a) (y:=(a:Int)+1+d) ⟨by omega,by rw[b6 w c5];omega⟩ ⟨by omega,by rw[b6 w c5];omega⟩ (by simpa using hK))) (by rw[<-hL];omega) bB λcg cl q2=>?_)
     rw[<-hL];obtain⟨z,hz⟩:∃z,z=(L.filter (eF a ((a+1+d:Nat):Int))).length:=⟨_,rfl⟩;have ea:z<=L.length:=by rw[hz];exact List.length_filter_le _ _
     have cm:g (a,a+1+d)=max (z:Int) ((L.length:Int)-z):=by rw[ax,hz];rfl
     rw[<-hz];have cv:=q2 u _ ay Q (.inl V)
     have c6:σ.Le cg:=λy x j=>by
      have yb:y≠b:=λe=>by subst e;rw[U.1]at j;cases j
      have ym:y≠mb:=λe=>by subst e;rw[U.2]at j;cases j
      exact q2 y x (ad y x j) yb (.inl ym)
     have f3:-9223372036854775808<=(L.length:Int)-z/\(L.length:Int)-z<=9223372036854775807:=by omega
     refine rn ?_;simp[W,ir,f3.1,f3.2];refine cf Tryz.func93 rfl (I2 (g:=g) (p:=(a,a+1+d)) (o:=(dq n a++rh a d).foldl (aU g) none) rfl (by simp) (by rw[cm];split<;>omega) cv λc7 b0 k3=>?_)
     have b1:(dq n a++rh a (d+1)).foldl (aU g) none=aU g ((dq n a++rh a d).foldl (aU g) none) (a,a+1+d):=by rw[wZ,<-List.append_assoc,List.foldl_append];rfl
     rw[<-b1]at b0;have b2:=nz (σ':=c7) cl (k3 b (Ne.symm Q)) (k3 mb (Ne.symm V))
     have al:σ.Le c7:=λy x j=>by rw[k3 y (λe=>by subst e;rw[b8]at j;cases j)];exact c6 y x j
     refine rn ?_;simp;refine cZ.intro λv r=>?_
     have b3:v≠b:=λe=>by subst e;obtain⟨q,_⟩:=b2;rw[q]at r;cases r
     have b4:v≠mb:=λe=>by subst e;obtain⟨_,_,q,_⟩:=b2;rw[q]at r;cases r
     have S:v≠u:=λe=>by subst e;rw[b0]at r;cases r
     have T:σ v=none:=by
      cases e:σ v with
      |none=>rfl
      |some x=>rw[al _ _ e]at r;cases r
     simp[f2.1,f2.2];refine cb _ g2 ⟨_,_,v,rfl,by simp[e1],by simp[e6],by simp[W],by simp[e9],by simp[A],by simp[B],by simp[ir],by simp,nz b2 (aa.aj _ _ (Ne.symm b3)) (aa.aj _ _ (Ne.symm b4)),λy x j=>?_,(aa.aj _ _ (Ne.symm S)).trans b0,by rw[aa.an];simp;omega,S,T⟩
     rw[aa.aj _ _ (λe=>by subst e;rw[T]at j;cases j)]
     exact al y x j
   . have dd:d=n-(a+1):=by omega
     have pP:¬(a:Int)+1+d<f.aq.length:=by omega
     rw[dd,<-sf]at ay;refine rn ?_;simp[e1,B,pP,f1.1,f1.2];exact ca _ g1 ⟨_,_,rfl,by simp[e1],by simp[e6],by simp[W],by simp[e9],by simp[A],by simp,bB,ad,ay⟩
 . have dj:a=n:=by omega
   subst dj;have R:¬(a:Int)<a:=by omega
   have hq:∀q,(dq a a).foldl (aU g) none=some q->q.1<q.2/\q.2<a:=λq h=>by
    rcases AA g _ _ _ h with h|h
    . exact Cf h
    . cases h
   cases ho:(dq a a).foldl (aU g) none with
   |none=>rw[ho]at h D;simp only[jB]at D;refine rn ?_;simp[W,A,B,R,D];exact .less C (.done h)
   | some q=>
     rw[ho]at h D;simp only[jB]at D
     by_cases q2:g q<L.length
     . have q3:¬(g q>=L.length):=by omega
       simp only[f9,if_pos q2]at h;refine rn ?_;simp[W,e9,A,B,R,D,q3];refine rn ?_;simp;exact .less C (.done h)
     . have q3:g q>=L.length:=by omega
       simp only[f9,if_neg q2]at h;refine rn ?_;simp[W,e9,A,B,R,D,q3];exact .less C (.done h)
end Go.Proofs.YtldmpfccgajobaaGreatDoor
