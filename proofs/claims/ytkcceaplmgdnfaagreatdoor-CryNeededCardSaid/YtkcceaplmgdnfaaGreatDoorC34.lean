import Derived.Test.YtkcceaplmgdnfaaGreatDoorC33
set_option linter.all false
set_option maxHeartbeats 1000000
set_option maxRecDepth 4000
namespace Go.Proofs.YtkcceaplmgdnfaaGreatDoor
open Go.Proofs.Tryz (prog)
open Go Go.bQ Go.Conc
variable{m:Mo}{σ:aa}{KF:abT}
def mh(w:cH)(c:Int):Jq:=w.az.getD c.toNat ⟨⟨0,0,0,[],0,0⟩,0,0⟩
abbrev dz(w:cH)(es cs:acp):Fr:={w.fair with aD:=es.map (aQ w.fair)++cs.map λc=>(mh w c).lost}
abbrev Hk(f:Fr):acw:=[rows f.roads,int f.aR,int f.eS,int f.cQ,int f.aX]
abbrev F1:acw:=[.lit (.slice none 0 0),.lit (.slice none 0 0),int 0,int 0,int 0,int 0]
theorem Nu{a a':AV}{l:acw}(h:a.W a'):(AV.agg (a::l)).W (.agg (a'::l)):=pS rfl λi x y c b=>by
 cases i with
 |zero=>simp_all
 |succ i=>simp at c b;rw[c]at b;cases b;exact .refl _
namespace CF
abbrev Wm:ace:=[⟨6,.take [0,2,3,4,5,6,7,8,9,10,13] false (.both 1 (.one 11 (.one 12 (.one 14 (.done)))) (.one 11 (.take [1] true (.one 12 (.one 14 (.done))))))⟩,⟨11,.take [1,2,3,4,5,6,7,8,9] false (.both 0 (.one 10 (.one 11 (.one 12 (.done)))) (.one 10 (.take [0] true (.one 11 (.one 12 (.done))))))⟩]
theorem Nv{w:cH}{fb mb:Nat}{x y:Int}(U:∀i∈aB x,0<=i/\i<w.fair.aD.length)(V:∀i∈aB y,0<=i/\i<w.az.length)(h:KF (.val (dB (dz w (aB x) (aB y)))) σ):aA prog m 65 [uH fb mb w 0,.agg [u8 x,u8 y]] σ KF:=by
 have X:=nL x;have Y:=nL y;refine fs Wm 2 Tryz.func65 rfl rfl (by rfl) (by kernel_rfl) ?_
 simp[Tryz.f65];refine bR.intro λb hb=>?_
 simp;refine bR.intro λd n=>?_
 obtain⟨n1,n2,hd⟩:=aa.aN n;simp;refine cf Tryz.func60 rfl (qa ?_);refine rn ?_;simp
 refine ab.loop (aB x).length (λk s=>∃env f a,s=⟨env,f,[],.no⟩/\env 0=uH fb mb w 0/\env 3=.cp (.agg [u8 x,u8 y]) 0/\env 4=.ref b 0/\env 5=.ref d 0/\env 18=ints (aB x)/\env 19=int (aB x).length/\env 20=int k/\f d=some (.cells (a::Hk w.fair))/\Tok (σ.set b (.cells F1)) f a 6 (((aB x).take k).map λi=>br (aQ w.fair i))) ⟨_,_,_,rfl,by simp,by simp,by simp,by simp,by simp,by simp,by simp,aa.ak _ _ _,(Tok.nil _ _).beside n (by simp[bp])⟩ ?_
 rintro c0 k _ Z ⟨env,f,a,rfl,E,S,F,o,tF,Ou,yW,p,g⟩ K
 have L:=g.cells;refine rn ?_;simp[Ou,yW];refine aG.intro (λj=>?_) (λj=>?_)<;>(try simp[-Int.not_lt,-Int.not_le,-Nat.not_lt,-Nat.not_le]at j)<;>(try simp[E,S,o,tF,yW,j])
 . obtain⟨i,r⟩:∃i,(aB x)[k]=i:=⟨_,rfl⟩
   have t:=U i (r ▸ zD j);have l:i.toNat<w.fair.aD.length:=by omega
   have M:aQ w.fair i=w.fair.aD[i.toNat]:=by simp[aQ,l]
   simp only[r];have u:w.fair.aD[i.toNat]?=some w.fair.aD[i.toNat]:=zU l;refine⟨t.1,?_⟩;simp[o,p,u]
   have N:((aB x).take (k+1)).map (λi=>br (aQ w.fair i))=((aB x).take k).map (λi=>br (aQ w.fair i))++[br w.fair.aD[i.toNat]]:=by rw[zs j,ZI,r,<-M];rfl
   have O:bp a≠some d:=λe=>by obtain⟨_,_,q⟩:=g.aV e;simp_all
   refine⟨?_,?_⟩
   all_goals
    refine aK lay rfl rfl rfl na rfl na rfl ze (by decide) (by simp only[ZE,aai,ZQ,aam];omega) (σ0:=f.off a) (es:=((aB x).take k).map λi=>br (aQ w.fair i)) (xs:=[br w.fair.aD[i.toNat]]) (by simpa using g.here.1) (.inr ⟨_,by simp;rfl⟩) λa' P A=>?_
    have G:=A.cells;have T:P d=some (.cells (a::Hk w.fair)):=A.1 _ _ (by rw[aa.dO O];exact p)
    have B:=A.base g.here.2;rw[<-N]at B;refine pg ?_;simp[T,G.1,G.2,aJ];refine rn ?_;simp[yW];refine⟨by omega,K _ (by omega) ⟨_,_,a',rfl,by simp[E],by simp[S],by simp[F],by simp[o],by simp[tF],by simp[Ou],by simp,aa.ak _ _ _,B.beside n (λe=>by obtain⟨_,_,q⟩:=B.aV e;rw[T]at q;cases q)⟩⟩
 . have ek:k=(aB x).length:=by omega
   subst ek;rw[ZG]at g;refine cf Tryz.func60 rfl (qa ?_);refine rn ?_;simp
   have H:a.W (jw ((aB x).map (aQ w.fair)++(((aB y).take 0).map λc=>(mh w c).lost))):=by simp only[List.take_zero,List.map_nil,aab];have:=g.W;show a.W (.sl 6 (((aB x).map (aQ w.fair)).map br) .any);rw[abc];exact this
   refine ab.loop (aB y).length (λk s=>∃env f z,s=⟨env,f,[],.no⟩/\env 0=uH fb mb w 0/\env 4=.ref b 0/\env 5=.ref d 0/\env 41=ints (aB y)/\env 42=int (aB y).length/\env 43=int k/\f d=some (.cells (z::Hk w.fair))/\(z.cells=[z]/\z.flat=true)/\z.W (jw ((aB x).map (aQ w.fair)++(((aB y).take k).map λc=>(mh w c).lost)))/\(σ.set b (.cells F1)).Le f) ⟨_,_,a,rfl,by simp[E],by simp[F],by simp[o],by simp,by simp,by simp,p,L,H,g.1⟩ ?_
   rintro Q k _ Z ⟨env,f,z,rfl,E,F,o,I,J,C,p,R,H,D⟩ K
   have qb:f b=some (.cells F1):=D _ _ (aa.ak _ _ _);refine rn ?_;simp[J,C];refine aG.intro (λj=>?_) (λj=>?_)<;>(try simp[-Int.not_lt,-Int.not_le,-Nat.not_lt,-Nat.not_le]at j)<;>(try simp[E,F,o,I,C,p,qb,R.2,j,aJ])
   . obtain⟨i,r⟩:∃i,(aB y)[k]=i:=⟨_,rfl⟩
     have t:=V i (r ▸ zD j);have l:i.toNat<w.az.length:=by omega
     have M:mh w i=w.az[i.toNat]:=by simp[mh,l]
     simp only[r];have u:w.az[i.toNat]?=some w.az[i.toNat]:=zU l;refine⟨t.1,?_⟩;simp[o,p,u]
     have N:((aB y).take (k+1)).map (λc=>(mh w c).lost)=((aB y).take k).map (λc=>(mh w c).lost)++[w.az[i.toNat].lost]:=by rw[zs j,ZI,r,<-M];rfl
     have hW:Wl [AV.agg (z::Hk w.fair),.sl 6 [br w.az[i.toNat].lost] .exact] [dB (dz w (aB x) ((aB y).take k)),jw [w.az[i.toNat].lost]]:=.cons (Nu H) (.cons (ik _ _ _) .nil);refine⟨?_,?_⟩
     all_goals
      refine cu Tryz.func75 rfl rfl hW (Eb (by simp only[Rp,ZE,aai,ZQ,aam];omega) ?_)
      rw[aau,<-N];refine pg ?_;simp[o,p];refine rn ?_;simp[C];refine⟨by omega,K _ (by omega) ⟨_,_,_,rfl,by simp[E],by simp[F],by simp[o],by simp[I],by simp[J],by simp,aa.ak _ _ _,⟨rfl,rfl⟩,by simp only[List.map_take];exact .refl _,aa.fj D n⟩⟩
   . have ek:k=(aB y).length:=by omega
     subst ek;rw[ZG]at H;refine .n8 (Nu H) (.less (λc v hv=>?_) (.done h))
     have Q:c≠b:=λe=>by grind
     rw[aa.ai _ _ Q];exact D _ _ (by rw[aa.ai _ _ Q];exact hv)
end CF
def yu(f:Fr)(x y:Int):Int:=ln (((aH f []).filter (lU x y)).length:Int) (aH f []).length
def Az(n:Int):Nat:=if n=1 then 125 else if n=3 then 284 else 195
abbrev yv(n:Int):AV:=.lZ (Az n) (.agg [])
def tA(n:Int):AV:=if n=0 then .lit .nilIface else yv n
def Nw(f:Fr)(es cs:acp)(x:Nat)(N:acp):acp:=(List.range cs.length).foldl (λN y=>N.set (3*(es.getD x 0).toNat+(cs.getD y 0).toNat) (yu f x ((es.length:Int)+y))) N
def Nx(f:Fr)(es cs:acp):acp:=(List.range es.length).foldl (λN x=>Nw f es cs x N) (List.replicate 18 0)
abbrev vv(a b:Int)(N:acp):acw:=[.lit (.int .u32 a),.lit (.int .i32 b),.lit (.int .u32 0)]++N.map tA
theorem Ny(f:Fr)(x y:Int):yu f x y≠0:=by unfold yu ln;omega
theorem js{σ:aa}{b:Nat}{x:ga}(h:σ b=some x):σ.set b x=σ:=by
 funext c;by_cases e:c=b
 . simp_all
 . simp[aa.set,e]
theorem Nz(f:Fr)(es cs:acp)(x:Nat)(N:acp):(Nw f es cs x N).length=N.length:=by
 have key:∀(l:acr) (N:acp),(l.foldl (λN y=>N.set (3*(es.getD x 0).toNat+(cs.getD y 0).toNat) (yu f x ((es.length:Int)+y))) N).length=N.length:=λl=>by
  induction l with
  |nil=>simp_all
  |cons a l b=>simp_all
 exact key _ N
theorem Ef{a b c:AV}{N:acp}{i j:Nat}{n:Int}(d:3*i+j<N.length)(f:n≠0):aJ (a::b::c::N.map tA) (3+i*3+j) [yv n]=a::b::c::(N.set (3*i+j) n).map tA:=by
 have e:3+i*3+j=3*i+j+1+1+1:=by omega
 rw[e];generalize 3*i+j=p at d ⊢;unfold aJ;simp only[List.take_succ_cons,ZQ,aam,aaz,List.drop_succ_cons,List.cons_append];rw[abe,List.set_eq_take_append_cons_drop,if_pos (by simp_all)];simp[tA,f]
theorem NA(Q:m.solo=true){w:cH}{fb mb bk:Nat}{x y:Int}(K:∀i∈aB x,0<=i/\i<w.fair.aD.length)(L:∀i∈aB y,0<=i/\i<w.az.length)(D:(dz w (aB x) (aB y)).Good)(R:aH (dz w (aB x) (aB y)) []≠[])(h6:w.fair.aD.length<=6/\w.az.length<=3)
 (hb:σ bk=some (.cells (vv 0 1 (List.replicate 18 0)))) (h:KF (.val (.cB [])) (σ.set bk (.cells (vv 0 1 (Nx (dz w (aB x) (aB y)) (aB x) (aB y)))))):
 aA prog m 147 [.cp (uH fb mb w 0) 0,.cp (.agg [u8 x,u8 y]) 0,.cp (.ref bk 0) 0] σ KF:=by
 have S:=nL x;have T:=nL y;refine fs Ut 3 Tryz.func147 rfl rfl (by rfl) (by kernel_rfl) ?_;simp[Tryz.f147]
 repeat' first
  |refine⟨?_,?_⟩
  | (refine cf Tryz.func65 rfl (CF.Nv K L ?_)
     refine pg ?_;simp)
  | (refine cf Tryz.func60 rfl (qa ?_)
     refine pg ?_;simp)
  | (refine vA.intro λd hd=>?_
     simp)
 all_goals
  refine ab.bC 3 (b:=d) (dB (dz w (aB x) (aB y))) (aa.ak _ _ _) (by simp) rfl ?_;rw[fe hd];refine rn ?_;simp;refine ab.loop (aB x).length (λk s=>∃env N,s=⟨env,σ.set bk (.cells (vv 0 1 N)),[],.no⟩/\N.length=18/\N=(List.range k).foldl (λN i=>Nw (dz w (aB x) (aB y)) (aB x) (aB y) i N) (List.replicate 18 0)/\env 2=.cp (.ref bk 0) 0/\env 3=.cp (dB (dz w (aB x) (aB y))) 0/\env 4=ints (aB x)/\env 5=ints (aB y)/\env 21=ints (aB x)/\env 22=int (aB x).length/\env 23=int k) ⟨_,List.replicate 18 0,by rw[js hb],rfl,rfl,by simp⟩ ?_;rintro c0 k _ hk ⟨env,N,rfl,U,p,q,r,u,v,vO,vP,JM⟩ V;refine rn ?_;simp[vP,JM];refine aG.intro (λz=>?_) (λz=>?_)<;>(try simp[-Int.not_lt,-Int.not_le,-Nat.not_lt,-Nat.not_le]at z)<;>(try simp[v,vO,JM,z])
  . obtain⟨i,E⟩:∃i,(aB x)[k]=i:=⟨_,rfl⟩
    have W:=K i (E ▸ zD z);have F:(aB x).getD k 0=i:=by simp[zA,z,E]
    refine ab.loop (aB y).length (λj s=>∃env g,s=⟨env,σ.set bk (.cells (vv 0 1 g)),[],.no⟩/\g.length=18/\g=(List.range j).foldl (λN M=>N.set (3*i.toNat+((aB y).getD M 0).toNat) (yu (dz w (aB x) (aB y)) k (((aB x).length:Int)+M))) N/\env 2=.cp (.ref bk 0) 0/\env 3=.cp (dB (dz w (aB x) (aB y))) 0/\env 4=ints (aB x)/\env 5=ints (aB y)/\env 21=ints (aB x)/\env 22=int (aB x).length/\env 23=int k/\env 6=int k/\env 7=int i/\env 28=ints (aB y)/\env 29=int (aB y).length/\env 30=int j) ⟨_,N,rfl,U,rfl,by simp[q,r,u,v,vO,vP,JM,E]⟩ ?_;rintro c1 j _ hj ⟨env,g,rfl,l,e,q,r,u,v,vO,vP,JM,O,P,A,B,n⟩ G;refine rn ?_;simp[B,n];refine aG.intro (λC=>?_) (λC=>?_)<;>(try simp[-Int.not_lt,-Int.not_le,-Nat.not_lt,-Nat.not_le]at C)<;>(try simp[r,u,JM,O,A,n,C])
    . obtain⟨c,o⟩:∃c,(aB y)[j]=c:=⟨_,rfl⟩
      have X:=L c (o ▸ zD C);have H:(aB y).getD j 0=c:=by simp[zA,C,o]
      have Y:(dz w (aB x) (aB y)).aD.length=(aB x).length+(aB y).length:=by simp
      simp only[o];refine⟨by omega,?_⟩;refine cf Tryz.func148 rfl (Po (f:=dz w (aB x) (aB y)) Q D.fits D.Cd ⟨by omega,by omega⟩ ⟨by omega,by omega⟩ R (Nat.lt_of_le_of_lt (BV D _) (by decide)) ?_);refine rn ?_;simp[q,P];refine⟨by omega,by omega,?_⟩;refine cf Tryz.func149 rfl (FY (t:=Az (yu (dz w (aB x) (aB y)) k (((aB x).length:Int)+j))) rfl ?_);have I:3+i.toNat*3+c.toNat<=20:=by omega
      have J:=λa b d=>Ef (a:=a) (b:=b) (c:=d) (N:=g) (i:=i.toNat) (j:=c.toNat) (by omega) (Ny (dz w (aB x) (aB y)) k (((aB x).length:Int)+j))
      refine pg ?_;simp[l,I,J];refine rn ?_;simp[n];simp only[<-List.map_set];refine⟨by omega,G _ (by omega) ⟨_,g.set (3*i.toNat+c.toNat) (yu (dz w (aB x) (aB y)) k (((aB x).length:Int)+j)),rfl,by rw[aaI];exact l,?_,by simp[q],by simp[r],by simp[u],by simp[v],by simp[vO],by simp[vP],by simp[JM],by simp[O],by simp[P],by simp[A],by simp[B],by simp⟩⟩;rw[ZN,aae,<-e];simp only[aal,List.foldl_nil,H]
    . have Z:j=(aB y).length:=by omega
      subst Z;refine⟨by omega,V _ (by omega) ⟨_,g,rfl,l,?_,by simp[q],by simp[r],by simp[u],by simp[v],by simp[vO],by simp[vP],by simp⟩⟩;rw[ZN,aae,<-p];simp only[aal,List.foldl_nil];unfold Nw;rw[F];exact e
  . have ek:k=(aB x).length:=by omega
    subst ek;refine .done ?_;rw[p];exact h
theorem Qs:Cy prog 156 112 193 110 .u8:=.of (by kernel_rfl) (by kernel_rfl) (by kernel_rfl) (by kernel_rfl)
abbrev yw(w:cH)(p:Int × Int):acp:=Nx (dz w (aB p.1) (aB p.2)) (aB p.1) (aB p.2)
def eV(w:cH)(mb:Nat)(σ:aa):Prop:=∃l,σ mb=some (mY (pz .u8) l)/\∀p a,dp l p=some a->∃bk,a=.ref bk 0/\bk≠mb/\σ bk=some (.cells (vv 1 0 (yw w p)))
def fF(mb:Nat)(σ σ':aa):Prop:=∀c x,σ c=some x->c≠mb->σ' c=some x
theorem fF.refl(mb:Nat)(σ:aa):fF mb σ σ:=λ_ _ h _=>h
theorem fF.trans{mb:Nat}{a b c:aa}(h:fF mb a b)(e:fF mb b c):fF mb a c:=λd x q n=>e d x (h d x q n) n
structure cH.Bk(w:cH)(x y:Int):Prop where
 hx:∀i∈aB x,0<=i/\i<w.fair.aD.length
 hy:∀i∈aB y,0<=i/\i<w.az.length
 qO:(dz w (aB x) (aB y)).Good
 some:aH (dz w (aB x) (aB y)) []≠[]
theorem F3{l:List ((Int × Int) × AV)}{p q:Int × Int}{a b:AV}(h:dp (l++[(q,b)]) p=some a):dp l p=some a\/p=q/\a=b:=by
 unfold dp at h ⊢;rw[List.find?_append]at h;cases e:l.find? (λr=>p==r.1)with
 |some r=>simp_all
 |none=>grind
theorem NB(J:m.solo=true){w:cH}{fb mb:Nat}{x y:Int}(hb:w.Bk x y)(P:w.fair.aD.length<=6/\w.az.length<=3)(Q:eV w mb σ)
 (h:∀bk σ',eV w mb σ'->fF mb σ σ'->σ' bk=some (.cells (vv 1 0 (yw w (x,y))))->KF (.val (.ref bk 0)) σ'):aA prog m 110 [uH fb mb w 0,.agg [u8 x,u8 y]] σ KF:=by
 obtain⟨l,s,A⟩:=Q;refine aA.start lay [15] Us 2 Tryz.func110 rfl rfl (by rfl) (by kernel_rfl) ?_
 simp[Tryz.f110]
 have f:∀{o:Oper}{env:Env}{σ:aa}{K R:abU},o.op=.lookup 156 (.tmp 9) (.tmp 10) false->env 9=.map mb->env 10=pz .u8 (x,y)->σ mb=some (mY (pz .u8) l)->K ((dp l (x,y)).getD (.lit (.pointer none))) σ->aI prog o env σ K R:=λS T E U F=>wZ lay (Qs.key lay LH rfl) S Ul T E U F
 have t:dp l (x,y)=none\/∃bk,dp l (x,y)=some (.ref bk 0)/\bk≠mb/\σ bk=some (.cells (vv 1 0 (yw w (x,y)))):=by
  cases e:dp l (x,y)with
  |none=>simp_all
  |some a=>simp_all
 rcases t with j|⟨bk,j,V,B⟩
 . refine⟨f rfl (by simp) (by simp[pz]) s ?_,?_⟩
   rotate_left
   refine vA.intro λd hd=>?_
   have u:mb≠d:=λe=>by simp_all
   simp;refine f rfl (by simp) (by simp[pz]) (by simp[aa.ai,u,s]) ?_
   rw[j];refine aM.go lay [15] ?_;simp
   rotate_left
   rw[j];refine aM.go lay [15] ?_;simp;refine vA.intro λd hd=>?_
   have u:mb≠d:=λe=>by simp_all
   simp
   all_goals
    refine ab.run lay [15] ?_;simp;refine oC (vx:=.pointer none) (vy:=.pointer none) (r:=.bool true) rfl (λk v g=>by simpa using Af.1 g) (λk v g=>by simpa using Af.1 g) (by kernel_rfl) ?_
    refine ab.run lay [15] ?_;simp;refine bR.intro λbk C=>?_
    obtain⟨W,X,i⟩:=aa.aN C;have D:mb≠bk:=λe=>by rw[<-e,s]at i;cases i
    simp[X,aa.ai];refine qV (Qs.key lay LH rfl) rfl (b:=mb) (l:=l) (n:=(x,y)) (a:=.ref bk 0) (by simp) (by simp[pz]) (by simp) (by simp[aa.set,u,D,s]) j ?_
    refine aM.go lay [15] ?_;simp;refine ab.bC 5 (b:=d) (.ref bk 0) (by simp[aa.set,za u]) (by simp) rfl ?_
    refine ab.jL (λe q=>(e 2=.cp (uH fb mb w 0) 0/\e 3=.cp (.agg [u8 x,u8 y]) 0/\e 5=.cp (.ref bk 0) 0)/\q mb=some (mY (pz .u8) (l++[((x,y),.ref bk 0)]))/\q bk=some (.cells (vv 0 0 (List.replicate 18 0)))/\fF mb σ q) ⟨by simp,by simp[aa.set,aa.del,u],by simp[aa.set,aa.del,W,za D,List.replicate,tA],λc v g z=>?_⟩ ?_
    . have Y:c≠d:=λe=>by rw[e,hd]at g;cases g
      have G:c≠bk:=λe=>by rw[e,i]at g;cases g
      simp[aa.set,aa.del,Y,G,z,g]
    rintro env q ⟨⟨Z,e3,L⟩,q1,q2,M⟩
    refine ab.run lay [15] ?_;simp[Z,e3,L];refine cf Tryz.func146 rfl (B1 J q2 rfl rfl rfl λK F=>dZ Tryz.func147 rfl rfl rfl (NA J hb.hx hb.hy hb.qO hb.some P (aa.ak _ _ _) (F _ _ (aa.ak _ _ _) rfl rfl rfl ?_)))
    simp only[aa.set_set];refine ab.run lay [15] ?_;simp[L];refine .done (h bk _ ⟨_,(aa.ai _ _ D).trans q1,λp a H=>?_⟩ (λc v g z=>?_) (aa.ak _ _ _))
    . rcases F3 H with H|⟨rfl,rfl⟩
      . obtain⟨N,rfl,O,I⟩:=A _ _ H
        have h3:N≠bk:=λe=>by rw[e,i]at I;cases I
        exact⟨N,rfl,O,(aa.ai _ _ h3).trans (M _ _ I O)⟩
      . exact⟨bk,rfl,za D,aa.ak _ _ _⟩
    . have G:c≠bk:=λe=>by rw[e,i]at g;cases g
      exact(aa.ai _ _ G).trans (M _ _ g z)
 . refine⟨f rfl (by simp) (by simp[pz]) s ?_,?_⟩
   rotate_left
   refine vA.intro λd hd=>?_
   have u:mb≠d:=λe=>by simp_all
   simp;refine f rfl (by simp) (by simp[pz]) (by simp[aa.ai,u,s]) ?_
   rw[j];refine aM.go lay [15] ?_;simp
   rotate_left
   rw[j];refine aM.go lay [15] ?_;simp;refine vA.intro λd hd=>?_
   simp
   all_goals
    refine ab.bC 5 (b:=d) (.ref bk 0) (aa.ak _ _ _) (by simp) rfl ?_
    rw[fe hd];refine ab.run lay [15] ?_;simp;refine oC (vx:=.pointer (some ⟨bk,0,none⟩)) (vy:=.pointer none) (r:=.bool false) rfl (λk v g=>by simpa using Ua.1 g) (λk v g=>by simpa using Af.1 g) (by kernel_rfl) ?_
    refine ab.run lay [15] ?_;simp;refine cf Tryz.func146 rfl (Ed B rfl ?_);refine ab.run lay [15] ?_;simp;exact .done (h bk σ ⟨l,s,A⟩ (.refl mb σ) B)
abbrev kE(w:cH)(h:Int):Int:=aY (lY w h)
abbrev kC(w:cH)(h:Int):Int:=aY (nj w h)
structure cH.Open(w:cH):Prop where
 qB:w.fair.aD.length<=6/\w.az.length<=3
 bk:∀h,w.Bk (kE w h) (kC w h)
def jN(w:cH)(h i c:Int):Int:=(yw w (kE w h,kC w h)).getD (3*i.toNat+c.toNat) 0
theorem Jw(f:Fr)(es cs:acp):(Nx f es cs).length=18:=by
 have key:∀(l:acr) (N:acp),(l.foldl (λN x=>Nw f es cs x N) N).length=N.length:=λl=>by
  induction l with
  |nil=>simp_all
  |cons a l b=>exact λN=>(b _).trans (Nz ..)
 exact key _ _
theorem Eg(p:m.solo=true){w:cH}{fb mb:Nat}{h i c:Int}(b:w.Open)(hi:0<=i/\i<6)(f:0<=c/\c<3)(q:eV w mb σ)(d:∀σ',eV w mb σ'->fF mb σ σ'->KF (.val (yv (jN w h i c))) σ'):aA prog m 67 [uH fb mb w 0,int h,int i,int c] σ KF:=by
 refine fs [] 4 Tryz.func67 rfl rfl (by rfl) (by kernel_rfl) ?_
 simp[Tryz.f67];refine cf Tryz.func59 rfl (CK.Jv b.qB.1 b.qB.2 ?_);refine rn ?_;simp;refine cf Tryz.func110 rfl (NB p (b.bk h) b.qB q λbk σ' g j k=>?_)
 have hlen:=Jw (dz w (aB (kE w h)) (aB (kC w h))) (aB (kE w h)) (aB (kC w h));obtain⟨N,l⟩:∃N,N=yw w (kE w h,kC w h):=⟨_,rfl⟩;have r:N.length=18:=by simp_all
 have s:jN w h i c=N.getD (3*i.toNat+c.toNat) 0:=by rw[l];rfl
 rw[<-l]at k
 have a:(AV.lit (.int .u32 1)::.lit (.int .i32 0)::.lit (.int .u32 0)::N.map tA)[3+i.toNat*3+c.toNat]?=some (tA (jN w h i c)):=by
  have e:3+i.toNat*3+c.toNat=3*i.toNat+c.toNat+3:=by omega
  have t:3*i.toNat+c.toNat<N.length:=by omega
  simp_all
 generalize jN w h i c=n at d a;refine rn ?_;simp[k,hi.1,hi.2,f.1,f.2,a]
 by_cases o:n=0
 . subst o
   refine gJ lay rfl Qi rfl (.inl ⟨by simp[tA],rfl⟩) (.inr ⟨rfl,rfl⟩) ?_
   refine rn ?_;simp;exact .done (d σ' g j)
 . have e:tA n=yv n:=if_neg o
   rw[e];refine gJ lay rfl Qi rfl (.inr ⟨⟨Az n,.agg [],by simp⟩,rfl⟩) (.inr ⟨rfl,rfl⟩) ?_
   refine rn ?_;simp;exact .done (d σ' g j)
def F4(n:Int):Bool:=n==1||n==3
theorem uI{t f:Nat}(h:eQ prog (Go.method (prog.types.size+Made.depth) t (.agg #[])  "palfrey/cry.holds")=some (f,.agg #[])):oc prog t  "palfrey/cry.holds" f (.agg []) (.agg []):=vt λk v b=>by
 cases b with
 | agg c l d e=>
   obtain⟨c⟩:=c
   match c,d with
   |[],_=>exact⟨_,h,.agg _ _ rfl λi v a h=>by simp at h⟩
theorem Eh(h:KF (.val (bool true)) σ):aA prog m 232 [.agg []] σ KF:=by
 refine fs [] 1 Tryz.func232 rfl rfl (by rfl) (by kernel_rfl) ?_;simp[Tryz.f232];exact .done h
theorem Ei(h:KF (.val (bool true)) σ):aA prog m 258 [.agg []] σ KF:=by
 refine fs [] 1 Tryz.func258 rfl rfl (by rfl) (by kernel_rfl) ?_;simp[Tryz.f258];exact .done h
theorem Ej(h:KF (.val (bool false)) σ):aA prog m 233 [.agg []] σ KF:=by
 refine fs [] 1 Tryz.func233 rfl rfl (by rfl) (by kernel_rfl) ?_;simp[Tryz.f233];exact .done h
theorem NC(b:m.solo=true){w:cH}{fb mb:Nat}{h i c:Int}(d:w.Open)(hi:0<=i/\i<6)(f:0<=c/\c<3)(g:eV w mb σ)(a:∀σ',eV w mb σ'->fF mb σ σ'->KF (.val (bool (F4 (jN w h i c)))) σ'):aA prog m 102 [int c,.cp (uH fb mb w 0) 0,.cp (int h) 0,.cp (int i) 0] σ KF:=by
 refine fs [] 4 Tryz.func102 rfl rfl (by rfl) (by kernel_rfl) ?_
 simp[Tryz.f102];refine cf Tryz.func67 rfl (Eg b d hi f g λσ' j k=>?_)
 have a:=a σ' j k;generalize jN w h i c=n at a;unfold F4 at a
 by_cases l:n=1
 . subst l
   refine rn ?_;simp;refine ab.invoke rfl rfl rfl (by simp) rfl (uI (by kernel_rfl)) Tryz.func232 rfl rfl (Eh ?_)
   refine rn ?_;simp;exact .done a
 by_cases o:n=3
 . subst o
   refine rn ?_;simp;refine ab.invoke rfl rfl rfl (by simp) rfl (uI (by kernel_rfl)) Tryz.func258 rfl rfl (Ei ?_)
   refine rn ?_;simp;exact .done a
 have e:yv n=.lZ 195 (.agg []):=by unfold yv Az;simp_all
 rw[e];refine rn ?_;simp;refine ab.invoke rfl rfl rfl (by simp) rfl (uI (by kernel_rfl)) Tryz.func233 rfl rfl (Ej ?_)
 refine rn ?_;simp;rw[show(n==1)=false by simp_all,show(n==3)=false by simp_all]at a
 exact .done a
theorem tB{σ0 σ σ2:aa}{a:AV}{kk:Nat}{es:acw}(h:Tok σ0 σ a kk es)(d:∀b e,σ b=some (.tail e)->σ2 b=some (.tail e)):Tok (σ2.off a) σ2 a kk es:=by
 rcases h.2 with⟨rfl,rfl⟩|rfl|⟨b,e,_,rfl,f⟩
 . exact⟨aa.le_refl _,.inl ⟨rfl,rfl⟩⟩
 . exact⟨aa.le_refl _,.inr (.inl rfl)⟩
 . refine⟨λc x g=>?_,.inr (.inr ⟨b,e,by simp[aa.off,bp,aa.del],rfl,d b e f⟩)⟩
   simp only[aa.off,bp,aa.del]at g
   simp_all
structure UY(I:acu)(mb:Nat):Prop where
 le:∀{σ σ':aa},I σ->(∀c x,σ c=some x->(∀e,x≠.tail e)->σ' c=some x)->I σ'
 mb:∀{σ:aa},I σ->∀e,σ mb≠some (.tail e)
theorem F5{σ0 σ:aa}{a:AV}{kk:Nat}{es:acw}(h:Tok σ0 σ a kk es){c:Nat}{x:ga}(b:σ c=some x)(d:∀e,x≠.tail e):(σ.off a) c=some x:=by
 rw[aa.dO λe=>?_]
 . exact b
 . obtain⟨_,n,q⟩:=h.aV e
   grind
theorem Qt{I:acu}{mb:Nat}(y:UY I mb){f:AV}{l:acp}{p:Int->Bool}(T:l.length<=1000)(z:f.flat=true)
 (P:∀x∈l,∀(σ:aa) (K:abT),I σ->(∀σ',I σ'->fF mb σ σ'->K (.val (bool (p x))) σ')->bZ prog m f [int x] σ K)
 (Q:I σ) (h:∀σ',I σ'->fF mb σ σ'->KF (.val (ints (l.filter p))) σ'):aA prog m 86 [.agg [f],ints l] σ KF:=by
 refine fs [] 2 Tryz.func86 rfl rfl (by rfl) (by kernel_rfl) ?_
 simp[Tryz.f86];refine⟨z,?_⟩;refine ab.loop l.length (λk s=>∃env σ' a,s=⟨env,σ',[],.no⟩/\env 2=.cp (.agg [f]) 0/\env 8=ints l/\env 9=int l.length/\env 10=int k/\env 5=a/\I σ'/\Tok (σ'.off a) σ' a 1 (((l.take k).filter p).map int)/\fF mb σ (σ'.off a)) ?_ ?_
 . exact⟨_,σ,AV.nil,rfl,by simp,by simp,by simp,by simp,by simp,Q,Tok.nil σ 1,fF.refl mb σ⟩
 rintro U k _ V ⟨env,σ',a,rfl,A,B,C,bK,v,D,d,hb⟩ J
 refine rn ?_;simp[C,bK];refine aG.intro (λj=>?_) (λj=>?_)<;>(try simp[-Int.not_lt,-Int.not_le,-Nat.not_lt,-Nat.not_le]at j)<;>(try simp[A,B,bK,v,j])
 . have L:(l.take (k+1)).filter p=(l.take k).filter p++if p l[k]then[l[k]]else[]:=by
    rw[zs j,aar]
    grind
   have R:((l.take k).filter p).length<=k:=KD (aas _ _) (by grind)
   refine P _ (zD j) _ _ D λσ2 M o=>?_
   have r:=tB d (σ2:=σ2) (λb e t=>o b _ t λq=>y.mb D e (q ▸ t))
   have g:fF mb σ (σ2.off a):=λc x i w=>by
    have N:=hb c x i w;have E:bp a≠some c:=λe=>by obtain⟨n,_⟩:=d.aV e;grind
    rw[aa.dO E]at N ⊢;exact o c x N w
   refine rn ?_;simp;cases O:p l[k]
   . rw[O,if_neg (by simp),aab]at L
     simp[bK];refine⟨by omega,J _ (by omega) ⟨_,σ2,a,rfl,by simp[A],by simp[B],by simp[C],by simp,by simp[v],M,by grind,g⟩⟩
   . rw[O,if_pos rfl]at L
     simp[v];refine aK lay rfl rfl rfl dh rfl dh rfl qM (by decide) (by grind) (σ0:=σ2.off a) (es:=((l.take k).filter p).map int) (xs:=[int l[k]]) (by simpa[v]using r) (.inr ⟨_,by simp;rfl⟩) λS F u=>?_
     refine rn ?_;simp[bK];have G:=u.here;refine⟨by omega,J _ (by omega) ⟨_,F,S,rfl,by simp[A],by simp[B],by simp[C],by simp,by simp,y.le M λc x i H=>u.1 _ _ (F5 r i H),by rw[L,List.map_append];exact G.1,λc x i w=>G.2 _ _ (g c x i w)⟩⟩
 . have ek:k=l.length:=by omega
   subst ek;rw[ZG]at d;refine .n8 d.W (.less d.1 (.done (h _ (y.le D λc x i H=>F5 d i H) hb)))
theorem rW(w:cH)(mb:Nat):UY (eV w mb) mb where
 le h hk:=by
  obtain⟨l,b,c⟩:=h;refine⟨l,hk _ _ b (by simp[mY]),λp a d=>?_⟩
  grind
 mb h e q:=by obtain⟨l,b,_⟩:=h;rw[b]at q;simp[mY]at q
theorem wh{n:Nat}{x:Int}(h:x∈np n):0<=x/\x<n:=by grind
theorem B2(n:Nat):(np n).length=n:=by grind
def Py(w:cH)(h i:Int):acp:=(np w.az.length).filter λc=>F4 (jN w h i c)
def jB(w:cH)(h:Int):acp:=(np w.fair.aD.length).filter λi=>decide (0<(Py w h i).length)
theorem Hl(c:m.solo=true){w:cH}{fb mb:Nat}{h i:Int}(b:w.Open)(hi:0<=i/\i<6)(d:eV w mb σ)(a:∀σ',eV w mb σ'->fF mb σ σ'->KF (.val (ints (Py w h i))) σ'):aA prog m 61 [uH fb mb w 0,int h,int i] σ KF:=by
 have j:=b.qB.2;refine fs [] 3 Tryz.func61 rfl rfl (by rfl) (by kernel_rfl) ?_;simp[Tryz.f61];refine cf Tryz.func49 rfl (uG (by omega) ?_);refine rn ?_;simp;refine cf Tryz.func86 rfl (Qt (rW w mb) (by grind) rfl (λx k σ K e a=>dZ Tryz.func102 rfl rfl rfl (NC c b hi (by grind) e a)) d λσ' f g=>?_);refine rn ?_;simp;exact .done (a σ' f g)
theorem ND(a:m.solo=true){w:cH}{fb mb:Nat}{h i:Int}(b:w.Open)(hi:0<=i/\i<6)(c:eV w mb σ)(d:∀σ',eV w mb σ'->fF mb σ σ'->KF (.val (bool (decide (0<(Py w h i).length)))) σ'):aA prog m 87 [int i,.cp (uH fb mb w 0) 0,.cp (int h) 0] σ KF:=by
 refine fs [] 3 Tryz.func87 rfl rfl (by rfl) (by kernel_rfl) ?_;simp[Tryz.f87];refine cf Tryz.func61 rfl (Hl a b hi c λσ' e f=>?_);refine rn ?_;simp;refine .done ?_
 simp_all
theorem yx(c:m.solo=true){w:cH}{fb mb:Nat}{h:Int}(b:w.Open)(d:eV w mb σ)(a:∀σ',eV w mb σ'->fF mb σ σ'->KF (.val (ints (jB w h))) σ'):aA prog m 42 [uH fb mb w 0,int h] σ KF:=by
 have i:=b.qB.1;refine fs [] 2 Tryz.func42 rfl rfl (by rfl) (by kernel_rfl) ?_;simp[Tryz.f42];refine cf Tryz.func49 rfl (uG (by omega) ?_);refine rn ?_;simp;refine cf Tryz.func86 rfl (Qt (rW w mb) (by grind) rfl (λx j σ K e a=>dZ Tryz.func87 rfl rfl rfl (ND c b (by grind) e a)) d λσ' f g=>?_);refine rn ?_;simp;exact .done (a σ' f g)
theorem Js.AA{σ σ':aa}{fb mb:Nat}{w:cH}(h:Js σ fb mb w σ'):eV w mb σ':=⟨[],by rw[h.eq,aa.ai _ _ (za h.ne),aa.ak],λp a b=>by simp[dp]at b⟩
theorem Js.less{σ σ' σ2:aa}{fb mb:Nat}{w:cH}(h:Js σ fb mb w σ')(hb:fF mb σ' σ2):σ.Le σ2:=λc x a=>by
 have d:c≠fb:=λe=>by rw[e,h.f0]at a;cases a
 have b:c≠mb:=λe=>by rw[e,h.m0]at a;cases a
 exact hb c x (by rw[h.eq,aa.ai _ _ d,aa.ai _ _ b];exact a) b
abbrev po:AV:=.lit (.slice none 0 0)
theorem SE{a b c d a' b' c' d':AV}(e:a.W a')(f:b.W b')(g:c.W c')(h:d.W d'):Wl [a,b,c,d] [a',b',c',d']:=.cons e (.cons f (.cons g (.cons h .nil)))
theorem Ek(e:m.solo=true){w:cH}(f:w.qP){c:Nat}(h:c<3)(i:fA w [] [] [(c:Int)]=0)(b:if 72<il w c then KF (.val (.cB [int 0,int 11])) σ else KF (.val (.cB [int (il w c),int 0])) σ):aA prog m 22 [eo w,int c] σ KF:=by
 have j:Wl [eo w,po,po,.sl 1 [int c] .exact] [eo w,ints [],ints [],ints [(c:Int)]]:=SE (.refl _) (fQ 1) (fQ 1) (ik 1 _ _);refine fs [] 2 Tryz.func22 rfl rfl (by rfl) (by kernel_rfl) ?_;simp[Tryz.f22];refine cu Tryz.func41 rfl rfl j (nO e f ⟨by simp,by simp,by simp⟩ (λq=>absurd i q) λ_ d fb mb k=>?_);have a:=k.less (.refl mb d);refine rn ?_;simp;refine cf Tryz.func55 rfl (vu h ?_);split at b
 . next g=>rw[if_pos g];refine rn ?_;simp;refine cf Tryz.func56 rfl (Hj ?_);refine rn ?_;simp;exact .less a (.done b)
 . next g=>rw[if_neg g];refine rn ?_;simp;refine cf Tryz.func56 rfl (Ns ?_);refine rn ?_;simp;exact .less a (.done b)
theorem yy(a:m.solo=true){w:cH}(f:w.qP)(g:w.Open){h:Int}(b:fA w [h] [] []≠0->KF (.val (.cB [po,int (fA w [h] [] [])])) σ)(i:fA w [h] [] []=0->KF (.val (.cB [ints (jB w h),int 0])) σ):aA prog m 11 [eo w,int h] σ KF:=by
 have j:Wl [eo w,.sl 1 [int h] .exact,po,po] [eo w,ints [h],ints [],ints []]:=SE (.refl _) (ik 1 _ _) (fQ 1) (fQ 1);obtain⟨e,k⟩:∃e,e=fA w [h] [] []:=⟨_,rfl⟩;refine fs [] 2 Tryz.func11 rfl rfl (by rfl) (by kernel_rfl) ?_;simp[Tryz.f11];refine cu Tryz.func41 rfl rfl j (nO a f ⟨by simp,by simp,by simp⟩ (λq=>?_) λq l fb mb c=>?_)
 . rw[<-k]at q b ⊢
   have d:(e !=0)=true:=by grind
   refine rn ?_;simp[d];exact .done (b q)
 . refine rn ?_
   simp;refine cf Tryz.func42 rfl (yx a g c.AA λn d o=>?_);refine rn ?_;simp;exact .less (c.less o) (.done (i q))
def yz(w:cH)(h i:Int):Bool:=decide (0<(Py w h i).length)
def bP(w:cH)(i:Int):Nat->Int × List (Int × Int)
 |0=>(1048576,[])
 |h+1=>if(h:Int)<=72/\yz w h i=true then(if(h:Int)<(bP w i h).1 then(h:Int)else(bP w i h).1,(bP w i h).2)else if(bP w i h).1<1048576 then(1048576,(bP w i h).2++[((bP w i h).1,(h:Int)-1)])else(1048576,(bP w i h).2)
def cr(w:cH)(i:Int):abF:=(bP w i 74).2
abbrev kG(r:Int × Int):AV:=.agg [int r.1,int r.2]
theorem B3(w:cH)(i:Int):∀h:Nat,0<=(bP w i h).1/\(bP w i h).1<=1048576
 |0=>by simp[bP]
 | h+1=>by
   have:=B3 w i h;unfold bP
   grind
theorem El(w:cH)(i:Int):∀d h:Nat,(bP w i h).2 <+: (bP w i (h+d)).2
 |0,h=>List.prefix_refl _
 | d+1,h=>by
   refine(El w i d h).trans ?_;show _ <+: (bP w i ((h+d)+1)).2
   conv=>rhs;unfold bP
   grind
theorem Hm{w:cH}{i:Int}{h:Nat}(d:h<74){r:Int × Int}(b:(bP w i (h+1)).2=(bP w i h).2++[r]):∃f:(bP w i h).2.length<(cr w i).length,(cr w i)[(bP w i h).2.length]=r:=by
 have a:=El w i (73-h) (h+1);rw[show h+1+(73-h)=74 by omega,b]at a;obtain⟨t,c⟩:=a;have e:cr w i=(bP w i h).2++[r]++t:=c.symm
 grind
theorem AB(C:m.solo=true){w:cH}{fb mb:Nat}{i:Int}(D:w.Open)(hi:0<=i/\i<6){y:AV}{I:Nat->acu}(E:y.cells=[y]/\y.flat=true)
 (u:∀k σ σ',I k σ->fF mb σ σ'->eV w mb σ'->I k σ') (hb:∀k σ,I k σ->eV w mb σ)
 (B:∀k (F:k<(cr w i).length) (σ:aa) (K:abT),I k σ->(∀σ',I (k+1) σ'->K (.val (bool true)) σ')->bZ prog m y [kG (cr w i)[k]] σ K)
 (G:I 0 σ) (h:∀σ',I (cr w i).length σ'->KF (.val (.cB [])) σ'):aA prog m 100 [y,.cp (uH fb mb w 0) 0,.cp (int i) 0] σ KF:=by
 refine fs [] 3 Tryz.func100 rfl rfl (by rfl) (by kernel_rfl) ?_;simp[Tryz.f100];refine ab.loop 74 (λk s=>∃env σ',s=⟨env,σ',[],.no⟩/\env 0=y/\env 1=.cp (uH fb mb w 0) 0/\env 2=.cp (int i) 0/\env 4=int (bP w i k).1/\env 7=int k/\I (bP w i k).2.length σ') ⟨_,_,rfl,by simp,by simp,by simp,by simp[bP],by simp,G⟩ ?_;rintro N k _ F ⟨env,σ',rfl,c,j,l,r,d,n⟩ p;have H:=B3 w i k;refine rn ?_;simp[d];refine aG.intro (λo=>?_) (λo=>?_)<;>(try simp[-Int.not_lt,-Int.not_le,-Nat.not_lt,-Nat.not_le]at o)<;>(try simp[d,o])
 . have o : k<74:=by omega
   refine uX.intro (λv=>?_) (λv=>?_)<;>(try simp[-Int.not_lt,-Int.not_le,-Nat.not_lt,-Nat.not_le]at v)<;>(try simp[j,l,r,v])
   . refine cf Tryz.func61 rfl (Hl C D hi (hb _ _ n) λJ L M=>?_)
     have n:=u _ _ _ n M L;refine rn ?_;simp;refine aG.intro (λt=>?_) (λt=>?_)<;>(try simp[-Int.not_lt,-Int.not_le,-Nat.not_lt,-Nat.not_le]at t)<;>(try simp[r,d,t])
     . have b:bP w i (k+1)=(if (k:Int)<(bP w i k).1 then (k:Int)else (bP w i k).1,(bP w i k).2):=by
        conv=>lhs;unfold bP
        rw[if_pos ⟨by omega,by unfold yz;simp_all⟩]
       refine⟨by omega,p _ (by omega) ⟨_,_,rfl,by simp[c],by simp[j],by simp[l],by rw[b];simp,by simp,by grind⟩⟩
     . have x:¬((k:Int)<=72/\yz w k i=true):=λq=>by have:=q.2;simp[yz,t]at this
       refine uX.intro (λe=>?_) (λe=>?_)<;>(try simp[-Int.not_lt,-Int.not_le,-Nat.not_lt,-Nat.not_le]at e)<;>(try simp[c,r,d,e])
       . have b:bP w i (k+1)=(1048576,(bP w i k).2++[((bP w i k).1,(k:Int)-1)]):=by
          conv=>lhs;unfold bP
          grind
         obtain⟨z,f⟩:=Hm (w:=w) (i:=i) o (by rw[b]);have a:=B _ z;rw[f]at a;refine⟨by omega,?_⟩;refine a _ _ n λg A=>?_
         refine rn ?_;simp[d];refine⟨by omega,p _ (by omega) ⟨_,g,rfl,by simp[c],by simp[j],by simp[l],by rw[b];simp,by simp,by grind⟩⟩
       . have b:bP w i (k+1)=(1048576,(bP w i k).2):=by
          conv=>lhs;unfold bP
          grind
         refine⟨by omega,p _ (by omega) ⟨_,_,rfl,by simp[c],by simp[j],by simp[l],by simp_all,by simp,by simp_all⟩⟩
   . have x:¬((k:Int)<=72/\yz w k i=true):=λq=>by omega
     refine uX.intro (λe=>?_) (λe=>?_)<;>(try simp[-Int.not_lt,-Int.not_le,-Nat.not_lt,-Nat.not_le]at e)<;>(try simp[c,r,d,e])
     . have b:bP w i (k+1)=(1048576,(bP w i k).2++[((bP w i k).1,(k:Int)-1)]):=by
        conv=>lhs;unfold bP
        grind
       obtain⟨z,f⟩:=Hm (w:=w) (i:=i) o (by rw[b]);have a:=B _ z;rw[f]at a;refine⟨by omega,?_⟩;refine a _ _ n λg A=>?_
       refine rn ?_;simp[d];refine⟨by omega,p _ (by omega) ⟨_,g,rfl,by simp[c],by simp[j],by simp[l],by simp_all,by simp,by simp_all⟩⟩
     . have b:bP w i (k+1)=(1048576,(bP w i k).2):=by
        conv=>lhs;unfold bP
        grind
       refine⟨by omega,p _ (by omega) ⟨_,_,rfl,by simp[c],by simp[j],by simp[l],by simp_all,by simp,by simp_all⟩⟩
 . have ek:k=74:=by omega
   subst ek;exact .done (h _ n)
abbrev B4(fb mb:Nat)(w:cH)(i:Int):AV:=.fn (.func 100) [] [.cp (uH fb mb w 0) 0,.cp (int i) 0]
theorem AE{w:cH}{fb mb:Nat}{i:Int}(h:KF (.val (B4 fb mb w i)) σ):aA prog m 58 [uH fb mb w 0,int i] σ KF:=by
 refine fs [] 2 Tryz.func58 rfl rfl (by rfl) (by kernel_rfl) ?_;simp[Tryz.f58];exact .done h
theorem qI(w:cH)(i:Int):∀h:Nat,(bP w i h).2.length<=h
 |0=>by simp[bP]
 | h+1=>by
   have:=qI w i h;unfold bP
   grind
theorem eV.mono{w:cH}{mb:Nat}{σ σ':aa}(h:eV w mb σ)(b:∀d x,σ d=some x->(∀e,x≠.tail e)->(∀a,x≠.cells [a])->(∀y,x≠.loop y)->(∀o,x≠.raw o)->σ' d=some x):eV w mb σ':=by
 obtain⟨l,c,f⟩:=h;refine⟨l,b _ _ c (by simp[mY]) (by simp[mY]) (by simp[mY]) (by simp[mY]),λp a g=>?_⟩
 grind
abbrev oQ(l:abF):AV:=.sl 2 (l.map kG) .any
theorem zo(Q:m.solo=true){w:cH}{fb mb:Nat}{i:Int}(hO:w.Open)(hi:0<=i/\i<6)(hB:eV w mb σ)(h:∀σ',eV w mb σ'->fF mb σ σ'->KF (.val (oQ (cr w i))) σ'):aA prog m 99 [po,B4 fb mb w i] σ KF:=by
 have hlen:=qI w i 74;refine aA.start lay [2] [] 2 Tryz.func99 rfl rfl (by rfl) (by kernel_rfl) ?_
 simp[Tryz.f99];refine bR.intro λc hc=>?_
 simp;refine ab.rangeFunc rfl λR r l S T s=>?_
 obtain⟨r1,r2,S⟩:=aa.aN S;obtain⟨B,l2,T⟩:=aa.aN T;generalize C:oU.mk _ _ _ _ _ _ _ _ _=al;have nm:∀d,σ d=none->d≠mb:=λd hd e=>by obtain⟨x,q,_⟩:=hB;simp_all
 have cm:=nm c hc;have lm:=nm l T;have rm:=nm r S;refine dZ Tryz.func100 rfl rfl rfl (AB Q hO hi (y:=.fn (.yield l) [] []) (I:=λk σ'=>eV w mb σ'/\σ' l=some (.loop al)/\σ' r=some (.raw (.deferred (some [])))/\∃a,σ' c=some (.cells [a])/\Tok (σ'.off a) σ' a 2 (((cr w i).take k).map kG)/\fF mb σ (σ'.off a)) ⟨rfl,rfl⟩ ?_ ?_ ?_ ?_ ?_)
 . rintro k f ad ⟨D,z,E,a,F,g,G⟩ t U
   refine⟨U,t _ _ z lm,t _ _ E rm,a,t _ _ F cm,tB g λb e o=>t b _ o λq=>(rW w mb).mb D e (q ▸ o),λd x H hd=>?_⟩
   have J:=G d x H hd;have V:bp a≠some d:=λe=>by obtain⟨n,_⟩:=g.aV e;simp_all
   rw[aa.dO V]at J ⊢;exact t _ _ J hd
 . simp_all
 . rintro k t f K ⟨D,z,E,a,F,g,G⟩ hK
   have Y:=g.cells;subst C;refine bZ.wX (hold:=[]) R Tryz.func99 z rfl ?_;refine rn ?_;simp[mX];refine bR.intro λq hq=>?_
   simp
   change ab _ _ _ _ _ _ _ _ _
   refine ab.runN lay [] 1 ?_;simp
   change ab _ _ _ _ _ _ _ _ _
   refine ab.bC 5 (b:=q) (kG (cr w i)[k]) (aa.ak _ _ _) (by simp) rfl ?_
   rw[fe hq];refine ab.beginRound z rfl ?_;have cl:∀x,(f.set l x) c=some (.cells [a]):=λx=>(aa.ai _ _ (za B)).trans F
   refine rn ?_;simp[cl];have H:∀X,Tok ((f.set l X).off a) (f.set l X) a 2 (((cr w i).take k).map kG):=λX=>tB g λb e o=>(aa.ai _ _ (λq=>by simp_all)).trans o
   have Q:((cr w i).take (k+1)).map kG=((cr w i).take k).map kG++[kG (cr w i)[k]]:=by rw[zs t,ZI];rfl
   refine aK lay rfl rfl rfl Uj rfl Uj rfl V8 (by decide) (by simp only[ZE,aai,ZQ,aam];unfold cr;omega) (es:=((cr w i).take k).map kG) (xs:=[kG (cr w i)[k]]) (H _) (.inr ⟨_,by simp;rfl⟩) λZ u j=>?_
   rw[<-Q]at j;have L:=j.cells;have a7:bp a≠some c:=λe=>by obtain⟨_,_,q⟩:=g.aV e;simp_all
   have t3:u c=some (.cells [a]):=j.1 _ _ (by rw[aa.dO a7];exact cl _)
   have a8:bp a≠some l:=λe=>by obtain⟨_,_,q⟩:=g.aV e;simp_all
   have t4:=λ(X:ga) (hX:((f.set l X).off a).Le u)=>hX l X (by rw[aa.dO a8];simp_all)
   have t4:=t4 _ j.1;refine ab.run lay [2] ?_;simp[t3,L.1,L.2,aJ];refine⟨rfl,rfl,_,(aa.ai _ _ B).trans t4,?_⟩
   have M:∀X d x,d≠l->d≠c->bp a≠some d->f d=some x->((u.set c (.cells [Z])).set l X) d=some x:=λX d x d1 d2 d3 hd=>by rw[aa.ai _ _ d1,aa.ai _ _ d2];exact j.1 _ _ (by rw[aa.dO d3,aa.ai _ _ d1];exact hd)
   refine hK _ ⟨D.mono λd x hd O h2 h3 _=>M _ d x (λe=>by grind) (λe=>by grind) (λe=>by obtain⟨_,_,q⟩:=g.aV e;grind) hd,aa.ak _ _ _,M _ r _ s r1 (λe=>by obtain⟨_,_,q⟩:=g.aV e;simp_all) E,Z,(aa.ai _ _ (za B)).trans (aa.ak _ _ _),tB j λb e o=>?_,λd x H hd=>?_⟩
   . have v:b≠l:=λq=>by grind
     have A:b≠c:=λq=>by grind
     rw[aa.ai _ _ v];exact(aa.ai _ _ A).trans o
   . have v:d≠l:=λq=>by grind
     have A:d≠c:=λq=>by grind
     have J:=G d x H hd;have P:bp a≠some d:=λe=>by obtain⟨n,_⟩:=g.aV e;grind
     rw[aa.dO P]at J
     have n4:bp Z≠some d:=λe=>by obtain⟨n,_⟩:=j.aV e;rw[aa.dO P,aa.ai _ _ v,J]at n;cases n
     rw[aa.dO n4]
     grind
 . have N:∀d x,σ d=some x->(((σ.set c (.cells [po])).set r (.raw (.deferred (some [])))).set l (.loop al)) d=some x:=λd x hd=>by
    have v:d≠l:=λq=>by simp_all
    have A:d≠r:=λq=>by simp_all
    have P:d≠c:=λq=>by simp_all
    rw[aa.ai _ _ v,aa.ai _ _ A,aa.ai _ _ P];exact hd
   exact⟨hB.mono λd x hd _ _ _ _=>N d x hd,aa.ak _ _ _,(aa.ai _ _ s).trans (aa.ak _ _ _),AV.nil,(aa.ai _ _ (za B)).trans ((aa.ai _ _ (za r1)).trans (aa.ak _ _ _)),Tok.nil _ 2,λd x hd _=>N d x hd⟩
 . rintro f ⟨D,z,E,a,F,g,G⟩
   have Y:=g.cells;rw[ZG]at g;subst C;refine⟨_,z,by simp,rfl,?_⟩
   have a9:(f.del l) c=some (.cells [a]):=by simp only[aa.del,za B,if_false];exact F
   refine ab.run lay [2] ?_;simp[a9];refine⟨by simp only[aa.del,s,if_false];exact E,?_⟩
   have p:∀{d x},d≠l->d≠r->(f.off a) d=some x->(((f.off a).del l).del r) d=some x:=λO h2 h3=>by simp only[aa.del,O,h2,if_false];exact h3
   refine .n8 g.W (.less (λd x hd=>?_) (.done (h (((f.off a).del l).del r) (D.mono λd x hd O h2 h3 h4=>p (λe=>by grind) (λe=>by grind) (F5 g hd O)) λd x hd hm=>p (λq=>by simp_all) (λq=>by simp_all) (G d x hd hm))))
   simp only[aa.del]at hd;split at hd
   . cases hd
   next v=>
   split at hd
   . cases hd
   next A=>
   rw[aa.ai _ _ v];simp only[aa.del,A,if_false];exact aa.QO hd
theorem Em(a:m.solo=true){w:cH}{fb mb:Nat}{i:Int}(b:w.Open)(hi:0<=i/\i<6)(c:eV w mb σ)(h:∀σ',eV w mb σ'->fF mb σ σ'->KF (.val (oQ (cr w i))) σ'):aA prog m 57 [B4 fb mb w i] σ KF:=by
 refine fs [] 1 Tryz.func57 rfl rfl (by rfl) (by kernel_rfl) ?_;simp[Tryz.f57];refine cf Tryz.func99 rfl (zo a b hi c λσ' d e=>?_);refine rn ?_;simp;exact .done (h σ' d e)
theorem Jx(a:m.solo=true){w:cH}(f:w.qP)(g:w.Open){i:Int}(hi:0<=i/\i<6)(b:fA w [] [i] []≠0->KF (.val (.cB [po,int (fA w [] [i] [])])) σ)(h:fA w [] [i] []=0->KF (.val (.cB [oQ (cr w i),int 0])) σ):aA prog m 23 [eo w,int i] σ KF:=by
 have j:Wl [eo w,po,.sl 1 [int i] .exact,po] [eo w,ints [],ints [i],ints []]:=SE (.refl _) (fQ 1) (ik 1 _ _) (fQ 1);obtain⟨e,k⟩:∃e,e=fA w [] [i] []:=⟨_,rfl⟩;refine fs [] 2 Tryz.func23 rfl rfl (by rfl) (by kernel_rfl) ?_;simp[Tryz.f23];refine cu Tryz.func41 rfl rfl j (nO a f ⟨by simp,by simp,by simp⟩ (λq=>?_) λq l fb mb c=>?_)
 . rw[<-k]at q b ⊢
   have d:(e !=0)=true:=by grind
   refine rn ?_;simp[d];exact .done (b q)
 . refine rn ?_
   simp;refine cf Tryz.func58 rfl (AE ?_);refine rn ?_;simp;refine cf Tryz.func57 rfl (Em a g hi c.AA λn d o=>?_);refine rn ?_;simp;exact .less (c.less o) (.done (h q))
def tC(l:abF):Int:=l.foldl (λn r=>n+(r.2-r.1+1)) 0
def iS(w:cH)(k:Nat):Int:=(List.range k).foldl (λ(n:Int) (i:Nat)=>n+tC (cr w (i:Int))) 0
theorem qd(w:cH)(i:Int):∀h:Nat,h<=74->∀r∈(bP w i h).2,(0<=r.1/\r.1<=1048576)/\-1<=r.2/\r.2<=73
 |0,_,r,a=>by simp[bP]at a
 | h + 1,b,r,a=>by
   have:=B3 w i h;unfold bP at a;split at a
   . exact qd w i h (by omega) r a
   split at a
   . rcases List.mem_append.1 a with a|a
     . exact qd w i h (by omega) r a
     grind
   . exact qd w i h (by omega) r a
theorem Jy(l:abF)(r:Int × Int):tC (l++[r])=tC l+(r.2-r.1+1):=by unfold tC;simp_all
theorem Hn{l:abF}(a:∀r∈l,(0<=r.1/\r.1<=1048576)/\-1<=r.2/\r.2<=73):-(2000000*(l.length:Int))<=tC l/\tC l<=2000000*l.length:=by
 have key:∀(l:abF) (n:Int),(∀r∈l,(0<=r.1/\r.1<=1048576)/\-1<=r.2/\r.2<=73)->n-2000000*l.length<=l.foldl (λn r=>n+(r.2-r.1+1)) n/\l.foldl (λn r=>n+(r.2-r.1+1)) n<=n+2000000*l.length:=λl=>by
  induction l with
  |nil=>simp_all
  | cons r l b=>
    intro n h;have d:=h r (by simp);have e:=b (n+(r.2-r.1+1)) λx c=>h x (by simp[c])
    grind
 have:=key l 0 a;unfold tC;omega
theorem En(w:cH):∀k:Nat,-(200000000*(k:Int))<=iS w k/\iS w k<=200000000*k
 |0=>by simp[iS]
 | k+1=>by
   have a:=En w k;have b:=Hn (qd w k 74 (by omega))
   have c:=qI w k 74;have e:iS w (k+1)=iS w k+tC (cr w k):=by unfold iS;rw[ZN,aae];rfl
   rw[e];unfold cr;omega
theorem AF{P:acD}(L:iZ P){rs:abL}{env:Env}{a:Md}:∀(ds:acr) (σ:aa),ds.Nodup->(∀r∈ds,σ r=some (.raw (.deferred (some []))))->(∀σ',(∀d,d∉ds->σ' d=σ d)->JJ L m rs env KF [] a σ')->JJ L m rs env KF (ds.map .mark) a σ
 |[],σ,_,_,h=>h σ λ_ _=>rfl
 | r ::ds,σ,b,c,h=>⟨c r (by simp),AF L ds _ (List.nodup_cons.1 b).2 (λd hd=>by
     have n:d≠r:=λe=>(List.nodup_cons.1 b).1 (by simp_all)
     rw[aa.ai _ _ n]
     simp_all) λσ' f=>h σ' λd hd=>by
     have n:d≠r:=λe=>hd (by simp[e])
     rw[f d λq=>hd (by simp[q]),aa.ai _ _ n]⟩
theorem Jz(hs:m.solo=true){w:cH}(hw:w.qP)(hO:w.Open)(he:fA w [] [] []=0)(hK:KF (.val (.cB [int (iS w w.fair.aD.length),int 0])) σ):aA prog m 25 [eo w] σ KF:=by
 have hW:Wl [eo w,po,po,po] [eo w,ints [],ints [],ints []]:=SE (.refl _) (fQ 1) (fQ 1) (fQ 1);have h6:=hO.qB.1;refine fs [] 1 Tryz.func25 rfl rfl (by rfl) (by kernel_rfl) ?_
 simp[Tryz.f25];refine cu Tryz.func41 rfl rfl hW (nO hs hw (by simp) (λq=>absurd he q) λq o fb mb v=>?_)
 have E:=v.AA;have F:∀d,o d=none->d≠mb:=λd hd e=>by obtain⟨x,q,_⟩:=E;simp_all
 refine rn ?_;simp;refine bR.intro λc hc=>?_
 simp;have cm:=F c hc;refine ab.loop w.fair.aD.length (λk s=>∃env a ds,s=⟨env,a,List.map kr.mark ds,.no⟩/\(env 1=.cp (eo w) 0/\env 4=uH fb mb w 0/\env 6=.ref c 0/\env 20=int w.fair.aD.length/\env 21=int k)/\eV w mb a/\a c=some (.cells [int (iS w k)])/\ds.Nodup/\(∀r∈ds,a r=some (.raw (.deferred (some [])))/\o r=none)/\fF mb o a) ⟨_,_,[],rfl,by simp,E.mono λd x hd _ _ _ _=>(aa.ai _ _ λe=>by simp_all).trans hd,aa.ak _ _ _,by simp,by simp,λd x hd _=>(aa.ai _ _ λe=>by simp_all).trans hd⟩ ?_
 rintro c0 k _ P ⟨env,a,ds,rfl,⟨e1,e4,U,yW,vO⟩,hB,G,H,z,A⟩ ih
 refine rn ?_;simp[yW,vO];apply aG.intro<;>intro g1<;>simp at g1<;>simp[e4,U,vO,g1,G]
 . refine cf Tryz.func58 rfl (AE ?_)
   refine rn ?_;simp;refine ab.rangeFunc rfl λV r l Q R B=>?_
   change a r=none at Q
   change a l=none at R
   have nm:∀d,a d=none->d≠mb:=λd hd e=>by obtain⟨x,q,_⟩:=hB;grind
   have lm:=nm l R;have rm:=nm r Q;have lc:l≠c:=λe=>by grind
   have rc:r≠c:=λe=>by grind
   have J:=qd w k 74 (by omega)
   have hlen:=qI w k 74;have ax:=En w k
   have W:o r=none:=by
    cases e:o r with
    |none=>rfl
    |some x=>have:=A r x e rm;grind
   have a7:iS w (k+1)=iS w k+tC (cr w k):=by unfold iS;rw[ZN,aae];rfl
   generalize L:oU.mk _ _ _ _ _ _ _ _ _=al;refine dZ Tryz.func100 rfl rfl rfl (AB hs hO (i:=(k:Int)) (by omega) (y:=.fn (.yield l) [] []) (I:=λj f=>eV w mb f/\f l=some (.loop al)/\f c=some (.cells [int (iS w k+tC ((cr w k).take j))])/\∀d x,(a.set r (.raw (.deferred (some [])))) d=some x->d≠mb->d≠c->f d=some x) ⟨rfl,rfl⟩ ?_ ?_ ?_ ?_ ?_)
   . rintro j f a8 ⟨T,t,u,D⟩ P a9
     exact⟨a9,P _ _ t lm,P _ _ u cm,λd x g p h=>P _ _ (D d x g p h) p⟩
   . grind
   . rintro j hj f K ⟨T,t,u,D⟩ ad
     have M:=J _ (zD hj);have av:=Hn (l:=(cr w k).take j) λx hx=>J x (aaV hx)
     have ay:((cr w k).take j).length<=74:=KD (List.length_take_le _ _) (by unfold cr at hj;omega)
     have C:tC ((cr w k).take (j+1))=tC ((cr w k).take j)+((cr w k)[j].2-(cr w k)[j].1+1):=by rw[zs hj,Jy]
     generalize tC ((cr w k).take j)=S at u av C;obtain⟨x1,x2⟩:∃r:Int × Int,r=(cr w k)[j]:=⟨_,rfl⟩;rw[<-x2]at M C ⊢;obtain⟨ra,rb⟩:=x1;simp only at M C;subst L;refine bZ.wX (hold:=[]) V Tryz.func25 t rfl ?_;refine rn ?_;simp[mX];refine bR.intro λq hq=>?_
     simp
     change ab _ _ _ _ _ _ _ _ _
     refine ab.runN lay [] 1 ?_;simp
     change ab _ _ _ _ _ _ _ _ _
     refine ab.bC 8 (b:=q) (kG (ra,rb)) (aa.ak _ _ _) (by simp) rfl ?_
     rw[fe hq];refine ab.beginRound t rfl ?_;have cl:∀x,(f.set l x) c=some (.cells [int (iS w k+S)]):=λx=>(aa.ai _ _ (za lc)).trans u
     refine rn ?_;simp[cl,U];refine⟨by omega,by omega,by omega,?_⟩
     refine⟨rfl,rfl,_,(aa.ai _ _ lc).trans (aa.ak _ _ _),?_⟩
     have N:∀X Y Z d x,d≠l->d≠c->f d=some x->(((f.set l X).set c Y).set l Z) d=some x:=λX Y Z d x g p h=>by rw[aa.ai _ _ g,aa.ai _ _ p,aa.ai _ _ g];exact h
     refine ad _ ⟨T.mono λd x hd _ p h _=>N _ _ _ d x (λe=>by rw[e,t]at hd;exact h _ (ZM hd).symm) (λe=>by rw[e,u]at hd;exact p _ (ZM hd).symm) hd,aa.ak _ _ _,(aa.ai _ _ (za lc)).trans ((aa.ak _ _ _).trans (by grind)),λd x g p h=>?_⟩
     have dl:d≠l:=λe=>by rw[e,aa.ai _ _ (za B),R]at g;cases g
     exact N _ _ _ d x dl h (D d x g p h)
   . have O:∀d x,a d=some x->((a.set r (.raw (.deferred (some [])))).set l (.loop al)) d=some x:=λd x hd=>by
      have n1:d≠l:=λe=>by grind
      have n2:d≠r:=λe=>by grind
      rw[aa.ai _ _ n1,aa.ai _ _ n2];exact hd
     refine⟨hB.mono λd x hd _ _ _ _=>O d x hd,aa.ak _ _ _,(O _ _ G).trans (by simp[tC]),λd x g _ _=>?_⟩
     exact(aa.ai _ _ λe=>by rw[e,aa.ai _ _ (za B),R]at g;cases g).trans g
   . rintro f ⟨T,t,u,D⟩
     rw[ZG,<-a7]at u;subst L;refine⟨_,t,by simp,rfl,?_⟩
     refine rn ?_;simp[vO];have n:∀d x,d≠l->f d=some x->(f.del l) d=some x:=λd x g p=>by simp only[aa.del,g,if_false];exact p
     have hold:∀d x,a d=some x->d≠mb->d≠c->(f.del l) d=some x:=λd x g p h=>n d x (λe=>by grind) (D d x ((aa.ai _ _ λe=>by grind).trans g) p h)
     refine⟨by omega,ih _ (by omega) ⟨_,_,r::ds,rfl,by simp[e1,e4,U,yW],T.mono λd x hd _ _ h _=>n d x (λe=>by rw[e,t]at hd;exact h _ (ZM hd).symm) hd,n _ _ (za lc) u,List.nodup_cons.2 ⟨λq=>?_,H⟩,λd hd=>?_,λd x hd hm=>?_⟩⟩
     . grind
     . rcases List.mem_cons.1 hd with rfl|hd
       . exact⟨n _ _ B (D _ _ (aa.ak _ _ _) rm rc),W⟩
       . obtain⟨q1,q2⟩:=z d hd
         exact⟨hold d _ q1 (F d q2) (λe=>by grind),q2⟩
     . exact hold d x (A d x hd hm) hm (λe=>by grind)
 . have ek:k=w.fair.aD.length:=by omega
   subst ek;refine AF lay ds _ H (λr Q=>(z r Q).1) λa8 h=>⟨[int (iS w w.fair.aD.length),int 0],by simp[eE],?_⟩
   refine .less (λd x hd=>?_) (.done hK)
   have q1:=v.less A d x hd;rw[h d λq=>?_]
   . exact q1
   . have:=(z d q).2
     have h0:=v.less (.refl mb o) d x hd
     grind
