import Derived.Test.YtkcceaplmgdnfaaGreatDoorC35
set_option linter.all false
set_option maxHeartbeats 1000000
set_option maxRecDepth 4000
namespace Go.Proofs.YtkcceaplmgdnfaaGreatDoor
open Go.Proofs.Tryz (prog)
section
open Go Go.bQ Go.Conc
variable{m:Mo}{σ:aa}{KF:abT}
section
variable{c k:Nat}{nums:acp}
namespace WY
abbrev Wt:ace:=[⟨2,.take [0,2,3,4,7,9] false (.both 1 (.one 5 (.take [6,8] true (.one 10 (.done)))) (.one 5 (.take [1,6,8] true (.one 10 (.done)))))⟩]
theorem RH{a b t:Int}(c:2<=t/\t<=4)(d:0<=a/\a<t)(hb:1<=b/\b<t):0<=(a+b).tmod t/\(a+b).tmod t<t/\(a+b).tmod t≠a:=by
 rw[Int.tmod_eq_emod_of_nonneg (by omega)];have:t=2\/t=3\/t=4:=by omega
 grind
theorem NR{a t:Int}(b:2<=t/\t<=4):pf .rem .i64 a t=some (.int .i64 (a.tmod t)):=by simp[pf];omega
theorem NS{t:Int}(hk:k+7<1000000)(H:nums.length<1152921504606846976)(ht:2<=t/\t<=4)(hb:bj c nums k σ)(h:∀(x:Way) σ',oP t x=0->pn c nums (k+7) σ σ'->KF (.val (jH x)) σ'):aA prog m 21 [.ref c 0,int t] σ KF:=by
 obtain⟨n0,s0,_,a7⟩:=id hb;refine fs Wt 2 Tryz.func21 rfl rfl (by rfl) (by kernel_rfl) ?_
 simp[Tryz.f21];refine bR.intro λi h4=>?_
 have v:c≠i:=λe=>by simp_all
 have P:∀x,bj c nums k (σ.set i x):=λx=>⟨n0,s0,by assumption,by rw[aa.ai _ _ v];exact a7⟩
 simp;have W:-9223372036854775808<=t-1/\t-1<=9223372036854775807:=by omega
 simp[W.1,W.2];refine cf Tryz.func18 rfl (fa (by omega) H ⟨by omega,by omega⟩ (P _) λd aC Q M=>?_)
 refine rn ?_;simp;refine cf Tryz.func19 rfl (eH (by omega) H (by omega) (by omega) M.1 λr w aE A=>?_)
 refine rn ?_;simp;refine bR.intro λf h5=>?_
 have B:f≠c:=λe=>by subst e;obtain⟨_,_,_,q⟩:=A.1;simp_all
 have aL:∀y,y≠c->y≠i->w y=σ y:=λy o Y=>by rw[A.2 y o,M.2 y o,aa.ai _ _ Y]
 have q4:w i=some (.cells [int 0,int 0,int 0,int 0,int 0]):=by rw[A.2 i (za v),M.2 i (za v),aa.ak]
 have s:f≠i:=λe=>by simp_all
 have Q:0<=d/\d<t:=by omega
 apply yG (I:=λenv σ'=>∃b,(1<=b/\b<t)/\env 0=.ref c 0/\env 1=int t/\env 4=.ref i 0/\env 5=.ref f 0/\bj c nums (k+3) σ'/\σ' i=some (.cells [int 0,int 0,int 0,int 0,int 0])/\σ' f=some (.cells [int d,int ((d+b).tmod t),int r,int 0,int 0])/\∀y,y≠c->y≠i->y≠f->σ' y=σ y)
 . intro u
   simp[aJ,W.1,W.2]
   have R:bj c nums (k+2) (w.set f (.cells [int d,int 0,int r,int 0,int 0])):=by obtain⟨n,z,C,S⟩:=A.1;exact⟨n,z,C,by rw[aa.ai _ _ (za B)];exact S⟩
   have fin:∀(b:Int) (g:aa),1<=b/\(b<=t-1\/b=1)->pn c nums (k+2+1) (w.set f (.cells [int d,int 0,int r,int 0,int 0])) g->g f=some (.cells [int d,int 0,int r,int 0,int 0])/\(-9223372036854775808<=d+b/\d+b<=9223372036854775807)/\∀(env:Env) (X:ga),env 0=.ref c 0->env 1=int t->env 4=.ref i 0->env 5=.ref f 0->X=.cells [int d,int ((d+b).tmod t),int r,int 0,int 0]->(∃b,(1<=b/\b<t)/\env 0=.ref c 0/\env 1=int t/\env 4=.ref i 0/\env 5=.ref f 0/\bj c nums (k+3) (g.set f X)/\(g.set f X) i=some (.cells [int 0,int 0,int 0,int 0,int 0])/\(g.set f X) f=some (.cells [int d,int ((d+b).tmod t),int r,int 0,int 0])/\∀y,y≠c->y≠i->y≠f->(g.set f X) y=σ y):=λb g p j=>by
    refine⟨by rw[j.2 f B,aa.ak],by omega,λenv X N J K L eX=>⟨b,by omega,N,J,K,L,?_,?_,by rw[aa.ak,eX],λy o Y y3=>?_⟩⟩
    . obtain⟨n,z,C,S⟩:=j.1
      exact⟨n,z,by omega,by rw[aa.ai _ _ (za B)];exact S⟩
    . rw[aa.ai _ _ (za s),j.2 i (za v),aa.ai _ _ (za s)];exact q4
    . rw[aa.ai _ _ y3,j.2 y o,aa.ai _ _ y3];grind
   refine⟨?_,?_⟩
   . refine cf Tryz.func19 rfl (eH (by omega) H (by omega) (by omega) R λb g p j=>?_)
     obtain⟨g5,C,gI⟩:=fin b g p j;have Z:=NR (a:=d+b) ht;refine pg ?_;simp[g5,C.1,C.2,Z,aJ];exact u _ _ (gI _ _ (by simp) (by simp) (by simp) (by simp) rfl)
   . refine cf Tryz.func19 rfl (eH (by omega) H (by omega) (by omega) R λb g p j=>?_)
     obtain⟨g5,C,gI⟩:=fin b g p j;have Z:=NR (a:=d+b) ht;refine pg ?_;simp[g5,C.1,C.2,Z,aJ];exact u _ _ (gI _ _ (by simp) (by simp) (by simp) (by simp) rfl)
 rintro env g ⟨b,p,N,J,K,L,a8,u4,u5,a9⟩
 refine rn ?_;simp[N,J,K,L];refine cf Tryz.func18 rfl (fa (by omega) H ⟨by omega,by omega⟩ a8 λo aO b0 D=>?_)
 refine rn ?_;simp[N,J,K,L];refine cf Tryz.func54 rfl (mQ (l:=[0,0,o]) (by omega) H ⟨by simp,by simp⟩ D.1 λfr T b1 E=>?_)
 have hf:0<=fr/\fr<=20:=by grind
 have v5:T f=some (.cells [int d,int ((d+b).tmod t),int r,int 0,int 0]):=by rw[E.2 f B,D.2 f B];exact u5
 have r2:-9223372036854775808<=fr+20/\fr+20<=9223372036854775807:=by omega
 refine rn ?_;simp[N,J,K,L,v5,aJ,r2.1,r2.2];obtain⟨hi,ad,ax⟩:∃hi:Int,hi=(if fr+20<72 then fr+20 else 72)/\fr<=hi/\hi<=72:=⟨_,rfl,by omega,by omega⟩
 rw[<-ad]
 have U:bj c nums (k+5) (T.set f (.cells [int d,int ((d+b).tmod t),int r,int fr,int 0])):=by obtain⟨n,z,C,S⟩:=E.1;exact⟨n,z,by omega,by rw[aa.ai _ _ (za B)];exact S⟩
 refine cf Tryz.func19 rfl (eH (by omega) H (by omega) (by omega) U λY b2 b3 F=>?_)
 refine rn ?_;simp[N,J,K,L];refine cf Tryz.func54 rfl (mQ (l:=[72,72,Y]) (by omega) H ⟨by simp,by simp⟩ F.1 λtt V al G=>?_)
 have b4:fr<=tt/\tt<=72:=by simp at al;omega
 have w5:V f=some (.cells [int d,int ((d+b).tmod t),int r,int fr,int 0]):=by rw[G.2 f B,F.2 f B,aa.ak]
 have w4:V i=some (.cells [int 0,int 0,int 0,int 0,int 0]):=by rw[G.2 i (za v),F.2 i (za v),aa.ai _ _ (za s),E.2 i (za v),D.2 i (za v)];exact u4
 refine rn ?_;simp[N,J,K,L,w5,w4,s,za s,aa.ai,aJ];obtain⟨nb,zb,P,av⟩:=G.1;have ay:=RH ht Q p
 have hw:oP t ⟨d,(d+b).tmod t,r,fr,tt⟩=0:=by
  have J:bD d 0 (t-1)=true:=by simp only[bD,zj,decide_eq_true_eq];omega
  have Z:bD ((d+b).tmod t) 0 (t-1)=true:=by simp only[bD,zj,decide_eq_true_eq];omega
  have e3:bD r 1 12=true:=by simp only[bD,zj,decide_eq_true_eq];omega
  have K:bD fr 0 72=true:=by simp only[bD,zj,decide_eq_true_eq];omega
  have L:bD tt 0 72=true:=by simp only[bD,zj,decide_eq_true_eq];omega
  unfold oP
  grind
 refine .less (σ':=σ.set c (.cells [ints nums,int nb,.lit (.int .u64 zb)])) (λy x O=>?_) (.done (h ⟨d,(d+b).tmod t,r,fr,tt⟩ _ hw ⟨⟨nb,zb,by omega,aa.ak _ _ _⟩,λy O=>aa.ai _ _ O⟩))
 have s5:σ f=none:=by simp_all
 by_cases o:y=c
 . subst o
   rw[aa.ak]at O;rw[aa.ai _ _ v,aa.ai _ _ (za B),av];exact O
 . rw[aa.ai _ _ o]at O
   have y4:y≠i:=λe=>by simp_all
   have y5:y≠f:=λe=>by simp_all
   rw[aa.ai _ _ y4,aa.ai _ _ y5,G.2 y o,F.2 y o,aa.ai _ _ y5,E.2 y o,D.2 y o,a9 y o y4 y5];exact O
end WY
end
end
open Go.bQ Go.Conc
variable{m:Mo}{σ:aa}{KF:abT}
def km(a b:acp):acp:=a.filter λx=>decide (x∉b)
def U5(a b:acp):Int:=((km a b).length:Int)+((km b a).length:Int)
theorem yH{a b:acp}{i:Nat}(h:i<a.length):km (a.take (i+1)) b=km (a.take i) b++if a[i]∈b then[]else[a[i]]:=by
 unfold km;rw[zs h,aar]
 grind
theorem nQ(a b:acp):(km a b).length<=a.length:=aas _ _
def NT:abG:=[[],[0],[1],[2],[0,1],[0,2],[1,2],[0,1,2]]
theorem Es{l:acp}(h:l.Sublist [0,1,2]):l∈NT:=by cases h<;>(rename_i h;cases h<;>(rename_i h;cases h<;>(rename_i h;cases h;decide)))
theorem PD:∀a∈NT,∀b∈NT,U5 a b=bM (aY a) (aY b):=by decide +kernel
theorem Et{a b:acp}(c:a.Sublist [0,1,2])(hb:b.Sublist [0,1,2]):U5 a b=bM (aY a) (aY b):=PD _ (Es c) _ (Es hb)
theorem Ge{a b:acp}(x:a.length<1000000)(hb:b.length<1000000)(h:KF (.val (int (U5 a b))) σ):aA prog m 85 [ints a,ints b] σ KF:=by
 refine fs [] 2 Tryz.func85 rfl rfl (by rfl) (by kernel_rfl) ?_
 simp[Tryz.f85];refine ab.loop a.length (λi s=>∃env,s=⟨env,σ,[],.no⟩/\env 0=ints a/\env 1=ints b/\env 5=int ((km (a.take i) b).length:Int)/\env 6=int i) ⟨_,rfl,by simp,by simp,by simp[km],by simp⟩ ?_
 rintro u i _ v ⟨env,rfl,e,f,d,n⟩ r
 rcases ZU i a.length with g1|g1
 . have t:(i:Int)<a.length:=by omega
   have j:=nQ (a.take i) b;rw[aai]at j;have f1:-9223372036854775808<=(i:Int)+1/\(i:Int)+1<=9223372036854775807:=by omega
   have o:-9223372036854775808<=((km (a.take i) b).length:Int)+1/\((km (a.take i) b).length:Int)+1<=9223372036854775807:=by omega
   have c:=yH (b:=b) g1;refine rn ?_;simp[e,f,d,n,g1];refine cf Tryz.func24 rfl (ta (by omega) ?_)
   by_cases q:a[i]∈b
   . rw[if_pos q,aab]at c
     have k:¬qN b a[i]<0:=by have:=(lT b a[i]).2 q;omega
     refine rn ?_;simp[e,f,d,n,k,f1.1,f1.2]
     simp_all
   . rw[if_neg q]at c
     have k:qN b a[i]<0:=by
      rcases Int.lt_or_le (qN b a[i]) 0 with g|g
      . exact g
      . exact absurd ((lT b a[i]).1 g) q
     refine rn ?_;simp[e,f,d,n,k,f1.1,f1.2,o.1,o.2]
     simp_all
 . have l:i=a.length:=by omega
   subst l;rw[ZG]at d;have w:=nQ a b;refine rn ?_;simp[e,f,d,n];refine ab.loop b.length (λi s=>∃env,s=⟨env,σ,[],.no⟩/\env 0=ints a/\env 1=ints b/\env 5=int (((km a b).length:Int)+((km (b.take i) a).length:Int))/\env 7=int i) ⟨_,rfl,by simp[e],by simp[f],by simp[km,d],by simp⟩ ?_
   clear e f d n r
   rintro u i _ v ⟨env,rfl,e,f,d,p⟩ r
   rcases ZU i b.length with g1|g1
   . have t:(i:Int)<b.length:=by omega
     have j:=nQ (b.take i) a;rw[aai]at j;have f1:-9223372036854775808<=(i:Int)+1/\(i:Int)+1<=9223372036854775807:=by omega
     have o:-9223372036854775808<=((km a b).length:Int)+((km (b.take i) a).length:Int)+1/\((km a b).length:Int)+((km (b.take i) a).length:Int)+1<=9223372036854775807:=by omega
     have c:=yH (b:=a) g1;refine rn ?_;simp[e,f,d,p,g1];refine cf Tryz.func24 rfl (ta (by omega) ?_)
     by_cases q:b[i]∈a
     . rw[if_pos q,aab]at c
       have k:¬qN a b[i]<0:=by have:=(lT a b[i]).2 q;omega
       refine rn ?_;simp[e,f,d,p,k,f1.1,f1.2]
       simp_all
     . rw[if_neg q]at c
       have k:qN a b[i]<0:=by
        rcases Int.lt_or_le (qN a b[i]) 0 with g|g
        . exact g
        . exact absurd ((lT a b[i]).1 g) q
       refine rn ?_;simp[e,f,d,p,k,f1.1,f1.2,o.1,o.2];refine r _ g1 ⟨_,rfl,by simp_all,by simp_all,by simp[c,Int.add_assoc],by simp⟩
   . have l:i=b.length:=by omega
     subst l;rw[ZG]at d;refine rn ?_;simp[e,f,d,p];exact .done h
