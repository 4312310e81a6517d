/- Part 8 of the proof. -/
import Derived.Test.YtigilmjkokbblaaGreatDoorK7
set_option linter.all false
namespace Go.Proofs.YtigilmjkokbblaaGreatDoor
open Go.bd Go.Conc
set_option maxHeartbeats 2000000
set_option maxRecDepth 4000
variable{m:Mo}{σ:aa}{KF:dV->aa->Prop}
def wR(n:Nat)(l:List Int):Prop:=l.Perm ((List.range n).map λt:Nat=>(t:Int))
theorem wR.len{n:Nat}{l:List Int}(h:wR n l):l.length=n:=by have:=List.Perm.length_eq h;rw[List.length_map,List.length_range]at this;exact this
section
variable{c k:Nat}{nums:List Int}
theorem Ka{n:Nat}(hk:k+n<1000000)(hn:nums.length<1152921504606846976)(b2:n<=1000)(hb:cq c nums k σ)(h:∀(l:List Int) σ',wR n l->nB c nums (k+n) σ σ'->KF (.val (ints l)) σ'):aB Tryz.prog m 10 [.ref c 0,int n] σ KF:=by
 have G:σ.del c c=none:=by simp[aa.del]
 refine aB.start lay [] [] 2 Tryz.func10 rfl rfl (by rfl) (by kernel_rfl) ?_
 simp[Tryz.f10]
 refine ab.loop n (λi s=>∃env σ' a l,s=⟨env,σ',[],.no⟩/\env 0=.ref c 0/\env 1=int n/\env 5=a/\env 6=int i/\cq c nums (k+i) σ'/\bw (σ.del c) σ' a 1 (l.map int)/\dL a≠some c/\wR i l) ⟨_,σ,.lit (.slice none 0 0),[],rfl,by simp,by simp,by simp,by simp,hb,⟨λy x p=>by
  have:y≠c:=λe=>by subst e;rw[G]at p;cases p
  simpa[aa.del,this]using p,.inl ⟨rfl,.inl rfl⟩⟩,by simp[dL],by simp[wR]⟩ ?_
 rintro c0 i _ hi ⟨env,σ',a,l,rfl,L,M,R,N,S,r,B,hP⟩ ih
 have f:=r.cells;have T:=hP.len
 rcases Nat.lt_or_ge i n with g1|g1
 . have ad:(i:Int)<n:=by omega
   have f1:-9223372036854775808<=(i:Int)+1/\(i:Int)+1<=9223372036854775807:=by omega
   refine ab.run lay [] ?_;simp[L,M,R,N,f.1,f.2,ad];refine an Tryz.func18 rfl rfl (eH (by omega) hn ⟨by omega,by omega⟩ S λq U hq O=>?_)
   obtain⟨o,rfl⟩:∃o:Nat,q=(o:Int):=⟨q.toNat,by omega⟩
   have b3:o<=i:=by omega
   have H:=Bd r G B O.2;refine ab.run lay [] ?_;simp[L,M,R,N,f.1,f.2];refine eG lay rfl rfl rfl cK rfl cK rfl rl (by decide) (by simp;omega) (σ0:=U.yK a) (es:=l.map int) (xs:=[int i]) (by simpa using H.here.1) (.inl (.inr ⟨_,by simp;rfl⟩)) (by simp) λa' P t=>?_
   have k4:∀y x,dL a≠some y->U y=some x->P y=some x:=λy x p hx=>t.1 _ _ (by rw[aa.mK p];exact hx)
   have I:dL a'≠some c:=λq=>by obtain⟨g,_⟩:=t.ji q;obtain⟨_,_,_,g2⟩:=O.1;rw[aa.mK B,g2]at g;cases g
   have u:bw (σ.del c) P a' 1 ((l++[(i:Int)]).map int):=by have:=t.base H.here.2;simpa using this
   obtain⟨j,C⟩:∃j,j=l++[(i:Int)]:=⟨_,rfl⟩;rw[<-C]at u;have w:j.length=i+1:=by rw[C,List.length_append,T];rfl
   obtain⟨b,cap,rest,rfl,t1,t2,t3,t4,t5⟩:∃b cap rest,a'=.ew b 0 (i+1) cap/\σ.del c b=none/\i+1<=cap/\(∀e∈j.map int,e.cells.length=1)/\P b=some (.cells (j.map int++rest))/\rest.length=(cap-(i+1))*1:=by
    have V:(j.map int).length=i+1:=by rw[List.length_map,w]
    rcases u.2 with⟨e,_⟩|⟨b,cap,rest,r1,r2,r3,r4,r5,r6⟩
    . have:=congrArg List.length e
      rw[V,List.length_nil]at this;omega
    . rw[V]at r1 r3 r6
      rw[cX (λe W=>by obtain⟨_,_,rfl⟩:=List.mem_map.1 W;rfl)]at r5
      exact⟨b,cap,rest,r1,r2,r3,r4,r5,r6⟩
   have al:b≠c:=λe=>I (by rw[e];rfl)
   obtain⟨D,E⟩:∃D,D=j.map int++rest:=⟨_,rfl⟩;rw[<-E]at t4;have X:i+1<=D.length:=by rw[E,List.length_append,List.length_map,w];omega
   have Y:i<D.length:=by omega
   have J:o<D.length:=by omega
   have F:o<j.length:=by omega
   have Z:i<j.length:=by omega
   have av:j[i]=(i:Int):=by simp[C,T]
   obtain⟨x,hx⟩:∃x,x=j[o]:=⟨_,rfl⟩
   have K:D[o]?=some (int x):=by rw[E,List.getElem?_append_left (by rw[List.length_map];exact F),List.getElem?_map,List.getElem?_eq_getElem F,hx];rfl
   have a7:D[o]=int x:=by have:=K;rw[List.getElem?_eq_getElem J]at this;exact Option.some.inj this
   have a8:o+1<=D.length:=by omega
   have ax:(o:Int)<(i:Int)+1:=by omega
   have ay:(i:Int)<(i:Int)+1:=by omega
   refine ab.run lay [] ?_;simp[L,M,N,t4,K,a7,Y,J,X,a8,ax,ay]
   have a9:(D.set i (int x)).set o (int i)=((j.set i x).set o (i:Int)).map int++rest:=by rw[E,List.set_append_left _ _ (by rw[List.length_map];exact Z),List.set_append_left _ _ (by rw[List.length_set,List.length_map];exact F),List.map_set,List.map_set]
   have Q:wR (i+1) ((j.set i x).set o (i:Int)):=by have h1:((j.set i j[o]).set o j[i]).Perm j:=List.set_set_perm Z F;rw[<-hx,av]at h1;refine h1.trans ?_;unfold wR at hP;rw[List.range_succ,List.map_append,C];exact List.Perm.append_right _ hP
   have A:((j.set i x).set o (i:Int)).length=i+1:=by rw[List.length_set,List.length_set,w]
   refine⟨f1,ih _ g1 ⟨_,_,.ew b 0 (i+1) cap,(j.set i x).set o (i:Int),rfl,by simp[L,M,R,N,f.1,f.2],by simp[L,M,R,N,f.1,f.2],by simp[L,M,R,N,f.1,f.2],by simp,?_,⟨λy v p=>?_,.inr ⟨b,cap,rest,?_,t1,?_,λe W=>?_,?_,?_⟩⟩,I,Q⟩⟩
   . obtain⟨nz,z,q1,q2⟩:=O.1
     exact⟨nz,z,by omega,by rw[aa.ag _ _ (Ne.symm al)];exact k4 _ _ B q2⟩
   . have:y≠b:=λe=>by subst e;rw[t1]at p;cases p
     rw[aa.ag _ _ this];exact u.1 y v p
   . rw[List.length_map,A]
   . rw[List.length_map,A];exact t2
   . obtain⟨y,_,rfl⟩:=List.mem_map.1 W
     rfl
   . rw[aa.ak,cX (λe W=>by obtain⟨_,_,rfl⟩:=List.mem_map.1 W;rfl),<-a9]
   . rw[List.length_map,A,t5]
 . have b0:i=n:=by omega
   subst b0;obtain⟨nz,z,b4,b1⟩:=S;refine ab.run lay [] ?_;simp[L,M,R,N,f.1,f.2];refine bw.thaw (σ0:=σ.set c (.cells [ints nums,int nz,.lit (.int .u64 z)])) (r.keep (λy x p=>?_) λd hd=>?_) (h l _ hP ⟨⟨nz,z,by omega,aa.ak _ _ _⟩,λy p=>aa.ag _ _ p⟩)
   . by_cases y1:y=c
     . subst y1
       rw[aa.ak]at p;rw[b1];exact p
     . rw[aa.ag _ _ y1]at p
       exact r.1 y x (by simpa[aa.del,y1]using p)
   . have d1:d≠c:=λe=>B (e ▸ hd)
     refine⟨rfl,?_⟩;rw[aa.ag _ _ d1];have:=(r.ji hd).1;simpa[aa.del,d1]using this
end
end Go.Proofs.YtigilmjkokbblaaGreatDoor
namespace Go.Proofs.YtigilmjkokbblaaGreatDoor
open Go.bd Go.Conc
set_option maxHeartbeats 1000000
set_option maxRecDepth 4000
variable{m:Mo}{σ:aa}{KF:dV->aa->Prop}
theorem EG{f:Fr}{e:gX}{a:Int}(hb:-1000<=e.aQ-a/\e.aQ-a<=1000)(h:KF (.val (bool (dv f e a))) σ):aB Tryz.prog m 91 [aC f,aW e,int a] σ KF:=by
 have f1:-9223372036854775808<=e.aQ-a/\e.aQ-a<=9223372036854775807:=by omega
 unfold dv at h;refine aB.start lay [] [] 3 Tryz.func91 rfl rfl (by rfl) (by kernel_rfl) ?_;simp[Tryz.f91,f1.1,f1.2];refine an Tryz.func57 rfl rfl (dp ?_);refine ab.run lay [] ?_;simp;rw[show decide (e.aQ=a)=(e.aQ==a)from rfl]at h;generalize (e.aQ==a)=d at h ⊢;refine aI.intro (λb=>?_) (λb=>?_)<;>simp at b
 . rw[if_pos b]at h
   simp;exact .done h
 rw[if_neg b]at h;simp;refine aI.intro (λc=>?_) (λc=>?_)<;>simp at c
 . rw[if_pos c]at h
   simp;exact .done h
 rw[if_neg c]at h;simp;cases d<;>first|exact .done h|(simp at h ⊢;exact .done h)
theorem wT{i:Nat}(h:i<=34):rq.take i=(List.range i).map λi:Nat=>(i:Int)-3:=by unfold rq;rw[<-List.map_take,List.take_range,Nat.min_eq_left h]
theorem NS{i:Nat}(h:i<34):rq.take (i+1)=rq.take i++[(i:Int)-3]:=by rw[wT (by omega),wT (by omega),List.range_succ,List.map_append];rfl
theorem yM{f:Fr}{l:List Int}{i:Nat}(h:i<34):(rq.take (i+1)).filter (λh=>l.all λn=>dv f (bp f n) h)=(rq.take i).filter (λh=>l.all λn=>dv f (bp f n) h)++if l.all (λn=>dv f (bp f n) ((i:Int)-3))then[(i:Int)-3]else[]:=by rw[NS h,List.filter_append];congr 1;rw[List.filter_cons];rfl
theorem Be{f:Fr}{l:List Int}(H:f.Good)(K:l.length<1000000)(B:∀n∈l,0<=n/\n<f.aA.length)(h:KF (.val (ints (dm f l))) σ):aB Tryz.prog m 47 [aC f,ints l] σ KF:=by
 refine aB.start lay [] UJ 2 Tryz.func47 rfl rfl (by rfl) (by kernel_rfl) ?_
 simp[Tryz.f47];refine ab.loop 34 (λi s=>∃env p a,s=⟨env,p,[],.no⟩/\env 1=ints l/\env 2=.cp (aC f) 0/\env 5=a/\env 6=int ((i:Int)-3)/\Tok σ p a 1 (((rq.take i).filter λh=>l.all λn=>dv f (bp f n) h).map int)) ⟨_,σ,.lit (.slice none 0 0),rfl,by simp,by simp,by simp,by simp,by simpa using Tok.nil σ 1⟩ ?_
 rintro L i _ M ⟨env,p,a,rfl,b,c,g,k,d⟩ G
 have u:=d.cells
 rcases Nat.lt_or_ge i 34 with g1|g1
 . have C:(i:Int)-3<=30:=by omega
   have f1:-9223372036854775808<=(i:Int)-3+1/\(i:Int)-3+1<=9223372036854775807:=by omega
   refine ab.run lay [] ?_;simp[b,c,g,k,u.1,u.2,C];refine ab.loop l.length (λj s=>∃env,s=⟨env,p,[],.no⟩/\env 1=ints l/\env 2=.cp (aC f) 0/\env 5=a/\env 6=int ((i:Int)-3)/\env 7=bool ((l.take j).all λn=>dv f (bp f n) ((i:Int)-3))/\env 8=int j) ⟨_,rfl,by simp[b],by simp[c],by simp[g],by simp[k],by simp,by simp⟩ ?_
   clear b c g k
   rintro N j _ O ⟨env,rfl,b,c,g,k,r,t⟩ w
   rcases Nat.lt_or_ge j l.length with g2|g2
   . have tE:(j:Int)<l.length:=by omega
     have v:-9223372036854775808<=(j:Int)+1/\(j:Int)+1<=9223372036854775807:=by omega
     obtain⟨I,P⟩:=B _ (List.getElem_mem g2);have D:l[j].toNat<f.aA.length:=by omega
     have e:(l.take (j+1)).all (λn=>dv f (bp f n) ((i:Int)-3))=((l.take j).all (λn=>dv f (bp f n) ((i:Int)-3)) && dv f f.aA[l[j].toNat] ((i:Int)-3)):=by rw[List.take_succ_eq_append_getElem g2,List.all_append,<-gn D];simp
     by_cases q:(l.take j).all (λn=>dv f (bp f n) ((i:Int)-3))=true
     . have Q:=(oX (H.yz _ (List.getElem_mem D))).2.2.2.1
       have o:env 7=bool true:=by rw[r,q]
       rw[q,Bool.true_and]at e;refine ab.run lay [] ?_;simp[b,c,g,k,o,t,g2,tE,I,D];refine an Tryz.func91 rfl rfl (EG (by omega) ?_)
       refine aU.go lay [] ?_;simp[b,c,g,k,r,t,v.1,v.2];refine ab.run lay [] ?_;simp[b,c,g,k,r,t,v.1,v.2];exact w _ g2 ⟨_,rfl,by simp[b,c,g,k,r,t],by simp[b,c,g,k,r,t],by simp[b,c,g,k,r,t],by simp[b,c,g,k,r,t],by simp[e],by simp⟩
     . have q:(l.take j).all (λn=>dv f (bp f n) ((i:Int)-3))=false:=by simpa using q
       have o:env 7=bool false:=by rw[r,q]
       rw[q,Bool.false_and]at e;refine ab.run lay [] ?_;simp[b,c,g,k,o,t,g2,tE];refine ab.run lay [] ?_;simp[b,c,g,k,o,t,g2,tE,v.1,v.2];exact w _ g2 ⟨_,rfl,by simp[b],by simp[c],by simp[g],by simp[k],by simp[e],by simp⟩
   . have:j=l.length:=by omega
     subst this;rw[List.take_length]at r;have A:=yM (f:=f) (l:=l) g1
     by_cases q:l.all (λn=>dv f (bp f n) ((i:Int)-3))=true
     . have o:env 7=bool true:=by rw[r,q]
       rw[if_pos q]at A;refine ab.run lay [] ?_;simp[b,c,g,k,o,t];refine aS lay rfl rfl rfl cK rfl cK rfl rl (by decide) (by simp;have:=List.length_filter_le (λh=>l.all λn=>dv f (bp f n) h) (rq.take i);rw[List.length_take]at this;omega) (σ0:=σ) (es:=((rq.take i).filter λh=>l.all λn=>dv f (bp f n) h).map int) (xs:=[int ((i:Int)-3)]) (by simpa using d) (.inr ⟨_,by simp;rfl⟩) λJ E x=>?_
       have y:=x.cells;refine ab.run lay [] ?_;simp[b,c,k,y.1,y.2,f1.1,f1.2];exact G _ g1 ⟨_,E,J,rfl,by simp[b],by simp[c],by simp,by simp;omega,by rw[A,List.map_append];exact x⟩
     . have q:l.all (λn=>dv f (bp f n) ((i:Int)-3))=false:=by simpa using q
       have o:env 7=bool false:=by rw[r,q]
       rw[if_neg (by simp[q]),List.append_nil]at A
       refine ab.run lay [] ?_;simp[b,c,g,k,o,t,f1.1,f1.2];exact G _ g1 ⟨_,p,a,rfl,by simp[b],by simp[c],by simp[g],by simp;omega,by rw[A];exact d⟩
 . have F:i=34:=by omega
   subst F;refine ab.run lay [] ?_;simp[b,c,g,k,u.1,u.2];have z:rq.take 34=rq:=by rw[wT (Nat.le_refl _)];rfl
   rw[z]at d;exact .iI d.W (.less d.1 (.done h))
def Nn(a b:List Int)(k:Nat):Int:=(((List.range k).filter λi:Nat=>decide ((i:Int)∈a)!=decide ((i:Int)∈b)).length:Int)
theorem Kb(a b:List Int)(k:Nat):Nn a b (k+1)=Nn a b k+if(decide ((k:Int)∈a)!=decide ((k:Int)∈b))=true then 1 else 0:=by unfold Nn;rw[List.range_succ,List.filter_append,List.length_append,List.filter_cons];split<;>simp
theorem P5(a b:List Int)(k:Nat):0<=Nn a b k/\Nn a b k<=k:=by
 unfold Nn;have:=List.length_filter_le (λi:Nat=>decide ((i:Int)∈a)!=decide ((i:Int)∈b)) (List.range k);rw[List.length_range]at this;omega
namespace RC
abbrev US:List Entry:=[⟨5,.take [0,1,2,4,5,6] false (.one 3 (.one 7 (.one 8 (.done))))⟩]
theorem uT{a b:gX}(r:a.marks.length<1152921504606846976)(hb:b.marks.length<1152921504606846976)(h:KF (.val (int (sG a.marks b.marks))) σ):aB Tryz.prog m 93 [aW a,aW b] σ KF:=by
 refine aB.start lay [] US 2 Tryz.func93 rfl rfl (by rfl) (by kernel_rfl) ?_;simp[Tryz.f93];refine ab.loop 5 (λk s=>∃env,s=⟨env,σ,[],.no⟩/\env 2=.cp (aW a) 0/\env 3=.cp (aW b) 0/\env 5=int (Nn a.marks b.marks k)/\env 6=int k) ⟨_,rfl,by simp,by simp,by simp[Nn],by simp⟩ ?_;rintro v k _ w ⟨env,rfl,c,d,e,f⟩ t;rcases Nat.lt_or_ge k 5 with g1|g1
 . have g:(k:Int)<=4:=by omega
   have u:=P5 a.marks b.marks k;have f1:-9223372036854775808<=(k:Int)+1/\(k:Int)+1<=9223372036854775807:=by omega
   have o:-9223372036854775808<=Nn a.marks b.marks k+1/\Nn a.marks b.marks k+1<=9223372036854775807:=by omega
   have i:=Kb a.marks b.marks k;refine ab.run lay [] ?_;simp[c,d,e,f,g];obtain⟨p,j⟩:∃p,p=decide ((k:Int)∈a.marks):=⟨_,rfl⟩;obtain⟨q,l⟩:∃q,q=decide ((k:Int)∈b.marks):=⟨_,rfl⟩;rw[<-j,<-l]at i;refine an Tryz.func113 rfl rfl (Bb r ?_);rw[<-j];refine aU.go lay [] ?_;simp[c,d,e,f];refine an Tryz.func113 rfl rfl (Bb hb ?_);rw[<-l];refine aU.go lay [] ?_;simp[c,d,e,f];clear j l;cases p<;>cases q<;>simp at i
   all_goals (
    refine ab.run lay [] ?_;simp[c,d,e,f,f1.1,f1.2,o.1,o.2];exact t _ g1 ⟨_,rfl,by simp[c],by simp[d],by simp[i,e],by simp⟩)
 . have n:k=5:=by omega
   subst n;refine ab.run lay [] ?_;simp[c,d,e,f];exact .done h
end RC
abbrev jQ(f:Fr):Int->Int->Bool:=Pe λn=>(bp f n).hour
def eI(l:List Int)(i:Nat):List Int:=((List.range i).map λi:Nat=>(i:Int)).filter λi=>decide (i∈l)
theorem Bf(l:List Int)(i:Nat):eI l (i+1)=eI l i++if(i:Int)∈l then[(i:Int)]else[]:=by
 unfold eI;rw[List.range_succ,List.map_append,List.filter_append];by_cases h:(i:Int)∈l<;>simp[h]
theorem Cx{l:List Int}{i:Nat}{x:Int}(h:x∈eI l i):0<=x/\x<i:=by unfold eI at h;obtain⟨a,_⟩:=List.mem_filter.1 h;obtain⟨j,b,rfl⟩:=List.mem_map.1 a;have:=List.mem_range.1 b;omega
theorem uU(l:List Int)(i:Nat):(eI l i).length<=i:=by unfold eI;refine Nat.le_trans (List.length_filter_le _ _) ?_;rw[List.length_map,List.length_range];exact Nat.le_refl _
theorem EH{f:Fr}{l:List Int}(h6:f.aA.length<=1000)(hl:l.length<1000000)(h:KF (.val (ints (aL f (pG f l)))) σ):aB Tryz.prog m 92 [aC f,ints l] σ KF:=by
 have a7:∀i,(dk (jQ f) (eI l i)).length<=i:=λi=>by rw[jR];exact uU l i
 refine aB.start lay [] UO 2 Tryz.func92 rfl rfl (by rfl) (by kernel_rfl) ?_
 simp[Tryz.f92];refine ab.loop f.aA.length (λi s=>∃env D a,s=⟨env,D,[],.no⟩/\env 1=ints l/\env 2=.cp (aC f) 0/\env 5=a/\env 6=int i/\bw σ D a 1 ((dk (jQ f) (eI l i)).reverse.map int)) ⟨_,σ,.lit (.slice none 0 0),rfl,by simp,by simp,by simp,by simp,⟨aa.le_refl _,.inl ⟨by simp[eI,dk],.inl rfl⟩⟩⟩ ?_
 rintro c0 i _ hi ⟨env,D,a,rfl,g,j,o,p,q⟩ ih
 have t:=q.cells;have a8:=a7 i
 rcases Nat.lt_or_ge i f.aA.length with g1|g1
 . have a9:(i:Int)<f.aA.length:=by omega
   have f1:-9223372036854775808<=(i:Int)+1/\(i:Int)+1<=9223372036854775807:=by omega
   have E:=Bf l i;refine ab.run lay [] ?_;simp[g,j,o,p,t.1,t.2,g1,a9];refine an Tryz.func113 rfl rfl (Bb (by omega) ?_)
   by_cases Y:(i:Int)∈l
   . rw [if_pos Y]at E
     have K:dk (jQ f) (eI l (i+1))=gE (jQ f) i (dk (jQ f) (eI l i)):=by rw[E,dk,List.foldl_append];rfl
     obtain⟨S,hS⟩:∃S,S=dk (jQ f) (eI l i):=⟨_,rfl⟩
     have ad:∀x∈S,0<=x/\x.toNat<f.aA.length:=λx L=>by have:=Cx ((qk _ _ x).1 (hS ▸ L));omega
     rw[<-hS]at K q a8;obtain⟨x,L⟩:∃x,x=(i:Int):=⟨_,rfl⟩;have P:x.toNat=i:=by omega
     have al:(S.reverse.map int).length=S.length:=by simp
     rcases q.len with⟨rfl,H⟩|⟨sp,rfl⟩|⟨b0,ay,rfl⟩
     all_goals (
      refine ab.run lay [] ?_;simp[g,j,o,p,Y,al];refine eG lay rfl rfl rfl cK rfl cK rfl rl (by decide) (by simp;omega) (σ0:=σ) (es:=S.reverse.map int) (xs:=[int i]) (by simpa using q) (.inl (.inr ⟨_,by simp;rfl⟩)) (by simp) λa' F u=>?_
      rw[<-List.map_singleton (f:=int),<-List.map_append,<-L]at u
      obtain⟨b,cap,rest,rfl,t1,t2,t4,t5⟩:∃b cap rest,a'=.ew b 0 (S.length+1) cap/\σ b=none/\S.length+1<=cap/\F b=some (.cells ((S.reverse++[x]).map int++rest))/\rest.length=(cap-(S.length+1))*1:=by
       have Q:((S.reverse++[x]).map int).length=S.length+1:=by simp
       rcases u.2 with⟨e,_⟩|⟨b,cap,rest,r1,r2,r3,r4,r5,r6⟩
       . have:=congrArg List.length e
         rw[Q,List.length_nil]at this;omega
       . rw[Q]at r1 r3 r6
         rw[cX (λe R=>by obtain⟨_,_,rfl⟩:=List.mem_map.1 R;rfl)]at r5
         exact⟨b,cap,rest,r1,r2,r3,r5,r6⟩
      have I:∀(d:aa) (T:List Int),T.length=S.length+1->d b=some (.cells (T.reverse.map int++rest))->(∀y,y≠b->d y=F y)->bw σ d (.ew b 0 (S.length+1) cap) 1 (T.reverse.map int):=λd T M h5 U=>by
       refine⟨λy v hv=>?_,.inr ⟨b,cap,rest,by simp[M],t1,by simp[M];exact t2,λe R=>by obtain⟨_,_,rfl⟩:=List.mem_map.1 R;rfl,?_,by simp[M];omega⟩⟩
       . have:y≠b:=λe=>by subst e;rw[t1]at hv;cases hv
         rw[U y this];exact u.1 y v hv
       . rw[cX (λe R=>by obtain⟨_,_,rfl⟩:=List.mem_map.1 R;rfl)];exact h5
      refine ab.run lay [] ?_;simp[g,j,p]
      refine ab.loop S.length (λk s=>∃env d r c,s=⟨env,d,[],.no⟩/\env 1=ints l/\env 2=.cp (aC f) 0/\env 5=.ew b 0 (S.length+1) cap/\env 6=int i/\env 7=int c.length/\S=r++c/\c.length+k=S.length/\gE (jQ f) x S=r++gE (jQ f) x c/\d b=some (.cells (c.reverse.map int++int x::(r.reverse.map int++rest)))/\∀y,y≠b->d y=F y)
       ⟨_,F,[],S,rfl,by simp[g],by simp[j],by simp,by simp[p],by first|(simp;done)|(simp at H;simp[H]),rfl,rfl,rfl,by rw[t4];simp,λ_ _=>rfl⟩ ?_
      clear g j o p
      rintro c1 k _ hk ⟨env,d,r,c,rfl,g,j,o,p,V,w,hlen,C,hc,U⟩ av
      cases c with
      | nil=>
        simp only[List.length_nil,Nat.zero_add]at hlen;simp only[List.append_nil]at w;have M:dk (jQ f) (eI l (i+1))=r++[x]:=by rw[K,<-L,C];rfl
        refine ab.run lay [] ?_;simp[g,j,o,p,V];refine ab.run lay [] ?_;simp[g,j,o,p,V,f1.1,f1.2];exact ih _ g1 ⟨_,d,.ew b 0 (S.length+1) cap,rfl,by simp[g],by simp[j],by simp[o],by simp,by rw[M];exact I d (r++[x]) (by rw[w];simp) (by simpa using hc) U⟩
      | cons z c=>
        obtain⟨q1,q2,q3,q4⟩:=R2 (A:=c.reverse.map int) (B:=r.reverse.map int++rest) (x:=int x) (y:=int z) (n:=c.length) (by simp)
        have W:d b=some (.cells (c.reverse.map int++int z::int x::(r.reverse.map int++rest))):=by rw[hc];simp
        have N:=ad z (by rw[w];simp)
        have p1:(0:Int)<(c.length:Int)+1:=by omega
        have J:S.length=r.length+(c.length+1):=by rw[w];simp
        have p2:(c.length:Int)+1<(S.length:Int)+1:=by omega
        have p3:(c.length:Int)<(S.length:Int)+1:=by omega
        have p4:(0:Int)<=(c.length:Int)+1:=by omega
        have p5:((c.length:Int)+1).toNat=c.length+1:=by omega
        have Z:-9223372036854775808<=(c.length:Int)/\(c.length:Int)<=9223372036854775807:=by omega
        refine ab.run lay [] ?_;simp[g,j,o,p,V,p1,p2,p3,p4,p5,Z.1,Z.2,W,q1,q2,N.1,N.2,g1];have ez:=gn N.2;have ex:bp f x=f.aA[i]:=by rw[gn (by rw[P];exact g1)];simp[P]
        by_cases G:f.aA[i].hour<f.aA[z.toNat].hour
        . have O:gE (jQ f) x (z::c)=z::gE (jQ f) x c:=NH (by rw[ez,ex];exact G)
          have p7:c.length+1+1<=c.length+(r.length+rest.length+1+1):=by omega
          have p8:c.length+1<=c.length+(r.length+rest.length+1+1):=by omega
          rw[<-L]at p;refine ab.run lay [] ?_;simp[g,j,o,p,V,G,p1,p2,p3,p4,p5,Z.1,Z.2,W,q1,q2,p7,p8];refine av _ (by rw[J];simp at hlen;omega) ⟨_,_,r++[z],c,rfl,by simp[g],by simp[j],by simp[o],by simp[p,L],by simp,by rw[w];simp,by simp at hlen;omega,by rw[C,O];simp,?_,λy X=>?_⟩
          . rw[aa.ak];simp
          . rw[aa.ag _ _ X]
            exact U y X
        . have O:gE (jQ f) x (z::c)=x::z::c:=NI (by rw[ez,ex];exact G)
          have M:dk (jQ f) (eI l (i+1))=r++x::z::c:=by rw[K,<-L,C,O]
          refine ab.run lay [] ?_;simp[g,j,o,p,V,G,f1.1,f1.2];exact ih _ g1 ⟨_,d,.ew b 0 (S.length+1) cap,rfl,by simp[g],by simp[j],by simp[o],by simp,by rw[M];exact I d (r++x::z::c) (by rw[J];simp;omega) (by simpa using hc) U⟩)
   . rw[if_neg Y,List.append_nil]at E
     refine ab.run lay [] ?_;simp[g,j,o,p,t.1,t.2,Y,f1.1,f1.2];exact ih _ g1 ⟨_,D,a,rfl,by simp[g],by simp[j],by simp[o],by simp,by rw[E];exact q⟩
 . have ax:i=f.aA.length:=by omega
   subst ax;refine ab.run lay [] ?_;simp[g,j,o,p,t.1,t.2];have:eI l f.aA.length=pG f l:=rfl;rw[this]at q;refine q.thaw ?_;rw[Cn]at h;exact h
theorem wU{f:Fr}{l:List Int}(t:f.Good)(hl:l.length<1000000)(h:KF (.val (bool (!bj f (aL f (pG f l))))) σ):aB Tryz.prog m 52 [aC f,ints l] σ KF:=by
 have J:=t.dO;have h6:=t.vw;obtain⟨L,R⟩:∃L,L=aL f (pG f l):=⟨_,rfl⟩
 have h0:∀n∈L,0<=n/\n<f.aA.length:=λn hn=>by rw[R]at hn;exact(sI.1 (A9.1 hn)).1
 have hlen:L.length<=1000:=by rw[R];have:=(j7 f (pG f l)).length_eq;rw[this];have:=uU l f.aA.length;show(eI l f.aA.length).length<=1000;omega
 rw[<-R]at h;unfold bj at h;refine aB.start lay [] UL 2 Tryz.func52 rfl rfl (by rfl) (by kernel_rfl) ?_
 simp[Tryz.f52];refine an Tryz.func92 rfl rfl (EH (by omega) hl ?_)
 rw[<-R];refine ab.run lay [] ?_;simp;refine ab.loop (L.length-1) (λk s=>∃env E,s=⟨env,E,[],.no⟩/\σ.Le E/\env 1=ints L/\env 2=.cp (aC f) 0/\env 5=int ((k:Int)+1)/\∀i<k,gi f (L.getD i 0) (L.getD (i+1) 0)=false) ⟨_,_,rfl,aa.le_refl _,by simp⟩ ?_
 rintro c0 k _ hk ⟨env,E,rfl,a,j,o,q,r⟩ ih
 rcases Nat.lt_or_ge (k+1) L.length with g1|g1
 . have X:(k:Int)+1<L.length:=by omega
   have Y:k<L.length:=by omega
   obtain⟨x0,x1⟩:=h0 _ (List.getElem_mem Y);obtain⟨y0,y1⟩:=h0 _ (List.getElem_mem g1);have K:L[k].toNat<f.aA.length:=by omega
   have M:L[k+1].toNat<f.aA.length:=by omega
   have f1:-9223372036854775808<=(k:Int)/\(k:Int)<=9223372036854775807:=by omega
   have f2:((k:Int)+1).toNat=k+1:=by omega
   have f3:(0:Int)<=(k:Int)+1:=by omega
   have S:-9223372036854775808<=(k:Int)+1+1/\(k:Int)+1+1<=9223372036854775807:=by omega
   obtain⟨A,N⟩:∃A,A=f.aA[L[k].toNat]:=⟨_,rfl⟩;obtain⟨B,O⟩:∃B,B=f.aA[L[k+1].toNat]:=⟨_,rfl⟩;have eA:=gn K;have eB:=gn M;rw[<-N]at eA;rw[<-O]at eB;have bA:=oX (t.yz A (by rw[N];exact List.getElem_mem K))
   have bB:=oX (t.yz B (by rw[O];exact List.getElem_mem M))
   have T:A.place.toNat<f.roads.length:=by omega
   obtain⟨r1,r2⟩:=t.row T;have U:B.place.toNat<f.roads[A.place.toNat].length:=by omega
   obtain⟨r3,r4⟩:=r2 _ (List.getElem_mem U);have Z:rd f.roads A.place.toNat B.place.toNat=f.roads[A.place.toNat][B.place.toNat]:=dA T U;have lA:=kv (om bA.2.2.2.2.2);have lB:=kv (om bB.2.2.2.2.2);obtain⟨_,c2,c3⟩:=Gq lA lB;have P:=Cq bA.2.2.2.2.2 bB.2.2.2.2.2;obtain⟨ch,F⟩:∃ch,ch=bF (br A.marks) (br B.marks):=⟨_,rfl⟩;have C:sG A.marks B.marks=ch:=by rw[P,F]
   rw[<-F]at c2 c3
   have hmul:0<=f.dO*ch/\f.dO*ch<=30:=by
    constructor
    . exact Int.mul_nonneg (by omega) c2
    . calc f.dO*ch<=6*5:=Int.mul_le_mul J.2 c3 c2 (by omega)
       _=30:=by rfl
   have p:gi f L[k] L[k+1]=decide (B.hour-A.hour<f.roads[A.place.toNat][B.place.toNat]+f.dO*ch):=by unfold gi;rw[eA,eB,Z,F]
   have u:L.getD k 0=L[k]:=by simp[List.getD_eq_getElem?_getD,Y]
   have v:L.getD (k+1) 0=L[k+1]:=by simp[List.getD_eq_getElem?_getD,g1]
   have D:-9223372036854775808<=B.hour-A.hour/\B.hour-A.hour<=9223372036854775807:=by omega
   have V:-9223372036854775808<=f.dO*ch/\f.dO*ch<=9223372036854775807:=by omega
   have W:-9223372036854775808<=f.roads[A.place.toNat][B.place.toNat]+f.dO*ch/\f.roads[A.place.toNat][B.place.toNat]+f.dO*ch<=9223372036854775807:=by omega
   refine ab.run lay [] ?_;simp[j,o,q,X,Y,g1,x0,K,y0,M,f1.1,f1.2,f2,f3,<-N,<-O];refine⟨pI.intro λc Q=>?_,pI.intro λc Q=>?_⟩
   . simp [j,o,q]
     refine pI.intro λd hd=>?_
     obtain⟨w,G,hd⟩:=aa.aF hd;simp[j,o,q,w,G,aa.ag];refine ab.bY 6 (b:=c) (aW A) (by simp[w,G,aa.ag]) (by simp) rfl ?_
     refine ab.bY 7 (b:=d) (aW B) (by simp[w,G,aa.ag,aa.del]) (by simp) rfl ?_
     ((
       refine ab.run lay [] ?_;simp[j,o,q,D.1,D.2,T,U]
       repeat refine⟨by omega,?_⟩
       refine an Tryz.func93 rfl rfl (RC.uT (t.fits.marks A (by rw[N];exact List.getElem_mem K)) (t.fits.marks B (by rw[O];exact List.getElem_mem M)) ?_)
       rw[C];refine aU.go lay [] ?_;simp[j,o,q,D.1,D.2,V.1,V.2,W.1,W.2];refine ab.run lay [] ?_
       by_cases z:B.hour-A.hour<f.roads[A.place.toNat][B.place.toNat]+f.dO*ch
       . simp[z]
         have:(List.range (L.length-1)).any (λi=>gi f (L.getD i 0) (L.getD (i+1) 0))=true:=List.any_eq_true.2 ⟨k,List.mem_range.2 (by omega),by rw[u,v,p];simpa using z⟩
         rw[this]at h;refine .less ?_ (.done h);intro y x g;have H:y≠c:=λe=>by rw[e,a.none Q]at g;cases g
         have I:y≠d:=λe=>by rw[e,a.none hd]at g;cases g
         simpa[aa.del,aa.ag,H,I]using a y x g
       . simp[z,j,o,q,S.1,S.2]
         refine ih _ (by omega) ⟨_,_,rfl,λy x g=>?_,by simp[j],by simp[o],by simp,λi hi=>?_⟩
         . have H:y≠c:=λe=>by rw[e,a.none Q]at g;cases g
           have I:y≠d:=λe=>by rw[e,a.none hd]at g;cases g
           simpa[aa.del,aa.ag,H,I]using a y x g
         . by_cases e:i=k
           . subst e;rw[u,v,p];simpa using z
           . exact r i (by omega)))
   . simp [j,o,q]
     refine pI.intro λd hd=>?_
     obtain⟨w,G,hd⟩:=aa.aF hd;simp[j,o,q,w,G,aa.ag];refine ab.bY 6 (b:=d) (aW A) (by simp[w,G,aa.ag]) (by simp) rfl ?_
     refine ab.bY 7 (b:=c) (aW B) (by simp[w,G,aa.ag,aa.del]) (by simp) rfl ?_
     ((
       refine ab.run lay [] ?_;simp[j,o,q,D.1,D.2,T,U]
       repeat refine⟨by omega,?_⟩
       refine an Tryz.func93 rfl rfl (RC.uT (t.fits.marks A (by rw[N];exact List.getElem_mem K)) (t.fits.marks B (by rw[O];exact List.getElem_mem M)) ?_)
       rw[C];refine aU.go lay [] ?_;simp[j,o,q,D.1,D.2,V.1,V.2,W.1,W.2];refine ab.run lay [] ?_
       by_cases z:B.hour-A.hour<f.roads[A.place.toNat][B.place.toNat]+f.dO*ch
       . simp[z]
         have:(List.range (L.length-1)).any (λi=>gi f (L.getD i 0) (L.getD (i+1) 0))=true:=List.any_eq_true.2 ⟨k,List.mem_range.2 (by omega),by rw[u,v,p];simpa using z⟩
         rw[this]at h;refine .less ?_ (.done h);intro y x g;have H:y≠c:=λe=>by rw[e,a.none Q]at g;cases g
         have I:y≠d:=λe=>by rw[e,a.none hd]at g;cases g
         simpa[aa.del,aa.ag,H,I]using a y x g
       . simp[z,j,o,q,S.1,S.2]
         refine ih _ (by omega) ⟨_,_,rfl,λy x g=>?_,by simp[j],by simp[o],by simp,λi hi=>?_⟩
         . have H:y≠c:=λe=>by rw[e,a.none Q]at g;cases g
           have I:y≠d:=λe=>by rw[e,a.none hd]at g;cases g
           simpa[aa.del,aa.ag,H,I]using a y x g
         . by_cases e:i=k
           . subst e;rw[u,v,p];simpa using z
           . exact r i (by omega)))
 . have w:¬(k:Int)+1<L.length:=by omega
   refine ab.run lay [] ?_;simp[j,o,q,w]
   have:(List.range (L.length-1)).any (λi=>gi f (L.getD i 0) (L.getD (i+1) 0))=false:=by rw[List.any_eq_false];intro i hi;have:=List.mem_range.1 hi;rw[r i (by omega)];simp
   rw[this]at h;exact .less a (.done h)
theorem NT{f:Fr}{l:List Int}(y:f.Good)(z:l.length<1000000)(t:l≠[])(g:∀n∈l,0<=n/\n<f.aA.length)(h:KF (.val (bool (NM f l))) σ):aB Tryz.prog m 45 [aC f,ints l] σ KF:=by
 have a:0<l.length:=List.length_pos_iff.2 t;obtain⟨A,H⟩:=g _ (List.getElem_mem a);have u:l[0].toNat<f.aA.length:=by omega
 have v:l.getD 0 0=l[0]:=by simp[List.getD_eq_getElem?_getD,a]
 have j:=gn u;unfold NM tK at h;rw[v,j]at h;refine aB.start lay [] UI 2 Tryz.func45 rfl rfl (by rfl) (by kernel_rfl) ?_
 simp[Tryz.f45];refine ab.loop (l.length-1) (λk s=>∃env,s=⟨env,σ,[],.no⟩/\env 1=ints l/\env 2=.cp (aC f) 0/\env 5=int ((k:Int)+1)/\(l.take (k+1)).all (λn=>decide ((bp f n).bE=f.aA[l[0].toNat].bE))=true) ⟨_,rfl,by simp,by simp,by simp,?_⟩ ?_
 . rw[List.take_succ_eq_append_getElem a]
   simp[j]
 rintro I k _ J ⟨env,rfl,c,d,e,b⟩ E
 rcases Nat.lt_or_ge (k+1) l.length with g1|g1
 . have o:(k:Int)+1<l.length:=by omega
   obtain⟨y0,K⟩:=g _ (List.getElem_mem g1);have w:l[k+1].toNat<f.aA.length:=by omega
   have B:((k:Int)+1).toNat=k+1:=by omega
   have C:(0:Int)<=(k:Int)+1:=by omega
   have D:-9223372036854775808<=(k:Int)+1+1/\(k:Int)+1+1<=9223372036854775807:=by omega
   have p:=gn w
   have i:(l.take (k+1+1)).all (λn=>decide ((bp f n).bE=f.aA[l[0].toNat].bE))=decide (f.aA[l[k+1].toNat].bE=f.aA[l[0].toNat].bE):=by rw[List.take_succ_eq_append_getElem g1,List.all_append,b,<-p];simp
   by_cases q:f.aA[l[k+1].toNat].bE=f.aA[l[0].toNat].bE
   . have r:(f.aA[l[k+1].toNat].bE !=f.aA[l[0].toNat].bE)=false:=by simp[q]
     refine ab.run lay [] ?_;simp[c,d,e,o,g1,y0,w,B,C,A,u,a,r];refine ab.run lay [] ?_;simp[c,d,e,D.1,D.2];exact E _ (by omega) ⟨_,rfl,by simp[c,d,e],by simp[c,d,e],by simp,by rw[i];simp[q]⟩
   . have r:(f.aA[l[k+1].toNat].bE !=f.aA[l[0].toNat].bE)=true:=by simp[q]
     have F:l.all (λn=>decide ((bp f n).bE=f.aA[l[0].toNat].bE))=false:=by rw[List.all_eq_false];exact⟨_,List.getElem_mem g1,by rw[p];simp[q]⟩
     rw[F]at h;refine ab.run lay [] ?_;simp[c,d,e,o,g1,y0,w,B,C,A,u,a,r];refine ab.run lay [] ?_;simp[c,d,e];simp at h;exact .done h
 . have G:¬(k:Int)+1<l.length:=by omega
   have x:k+1=l.length:=by omega
   rw[x,List.take_length]at b;rw[b,Bool.true_and]at h;refine ab.run lay [] ?_;simp[c,d,e,G];refine an Tryz.func47 rfl rfl (Be y z g ?_);refine ab.run lay [] ?_;simp[c,d,e]
   by_cases q:dm f l=[]
   . rw[q]at h ⊢
     simp at h ⊢;exact .done h
   . have r:0<(dm f l).length:=List.length_pos_iff.2 q
     simp[q]at h;simp[c,d,e,r];refine an Tryz.func52 rfl rfl (wU y z ?_);refine ab.run lay [] ?_;simp[c,d,e];exact .done h
theorem NU{f:Fr}{l:List Int}(b:f.Fits)(g:l.length<1000000)(h:KF (.val (.bG [bool (yN f l).1,int (yN f l).2])) σ):aB Tryz.prog m 14 [aC f,ints l] σ KF:=by
 unfold yN at h;refine aB.start lay [] [] 2 Tryz.func14 rfl rfl (by rfl) (by kernel_rfl) ?_;simp[Tryz.f14];refine an Tryz.func44 rfl rfl (qL b (by omega) ?_);refine ab.run lay [] ?_;simp;refine aI.intro (λa=>?_) (λa=>?_)<;>simp at a<;>simp[a]
 . rw[if_pos a]at h
   exact .done h
 rw[if_neg (by simp[a])]at h;obtain⟨i,_,c,j,d⟩:=lI a;have e:=Fr.hQ b i;refine an Tryz.func45 rfl rfl (NT e g c d ?_);rw[NN e c j d];refine ab.run lay [] ?_;simp;exact .done h
theorem Cy{f:Fr}{l:List Int}(c:f.Fits)(g:l.length<1000000)(h:KF (.val (.bG [ints (fR f l).1,int (fR f l).2])) σ):aB Tryz.prog m 16 [aC f,ints l] σ KF:=by
 unfold fR at h;refine aB.start lay [] [] 2 Tryz.func16 rfl rfl (by rfl) (by kernel_rfl) ?_;simp[Tryz.f16];refine an Tryz.func44 rfl rfl (qL c (by omega) ?_);refine ab.run lay [] ?_;simp;refine aI.intro (λa=>?_) (λa=>?_)<;>simp at a<;>simp[a]
 . rw[if_pos a]at h
   exact .iI (tN (b:=.bC)) (.done h)
 rw[if_neg (by simp[a])]at h;obtain⟨i,_,j,k,d⟩:=lI a;have e:=Fr.hQ c i;refine an Tryz.func47 rfl rfl (Be e g d ?_);rw[uR e j d];refine ab.run lay [] ?_;simp;exact .done h
end Go.Proofs.YtigilmjkokbblaaGreatDoor
namespace Go.Proofs.YtigilmjkokbblaaGreatDoor
open Go.bd Go.Conc
set_option maxHeartbeats 2000000
set_option maxRecDepth 4000
variable{m:Mo}{σ:aa}{KF:dV->aa->Prop}
namespace WI
abbrev UT:List Entry:=[⟨1,.take [1,4,7] false (.both 0 (.both 2 (.both 3 (.one 5 (.one 6 (.one 8 (.done)))) (.one 5 (.one 3 (.one 6 (.one 8 (.done)))))) (.one 5 (.one 2 (.one 3 (.one 6 (.one 8 (.done))))))) (.both 2 (.both 0 (.both 3 (.one 5 (.one 6 (.one 8 (.done)))) (.one 5 (.one 3 (.one 6 (.one 8 (.done)))))) (.one 5 (.one 0 (.one 3 (.one 6 (.one 8 (.done))))))) (.one 5 (.both 0 (.one 2 (.one 3 (.one 6 (.one 8 (.done))))) (.one 2 (.one 0 (.one 3 (.one 6 (.one 8 (.done))))))))))⟩]
theorem NV{f:Fr}{n:gX}(O:f.aA.length<=1000)(h:KF (.val (aC (fu f n))) σ):aB Tryz.prog m 39 [aC f,aW n] σ KF:=by
 refine aB.start lay [2] UT 2 Tryz.func39 rfl rfl (by rfl) (by kernel_rfl) ?_
 simp[Tryz.f39];refine bL.intro λp F=>?_
 simp;refine bL.intro λw z=>?_
 obtain⟨A,B,z⟩:=aa.aF z;simp[A,B,aa.ag];generalize j:(σ.set p (.cells (bO f))).set w (.cells [AV.lit (.slice none 0 0),.lit (.slice none 0 0),int 0,int 0,int 0,int 0])=q;have C:q p=some (.cells (bO f)):=by subst j;simp[aa.ag,aa.ak,A,B]
 have G:q w=some (.cells [AV.lit (.slice none 0 0),.lit (.slice none 0 0),int 0,int 0,int 0,int 0]):=by subst j;simp[aa.ak]
 apply sH (I:=λenv r=>∃o c,env 2=.ref p 0/\env 4=.ref w 0/\r=c.set p (.cells [o,rows f.roads,int f.bH,int f.hH,int f.dO,int f.most])/\Tok q c o 6 (f.aA.map aW++[aW n]))
 . intro k
   repeat' (first
             |apply And.intro
             | (refine aS lay rfl rfl rfl ko rfl ko rfl rp (by decide) (by simp;omega) (σ0:=q) (es:=[]) (xs:=f.aA.map aW) ⟨aa.le_refl _,.inr (.inl rfl)⟩ (.inr ⟨_,by simp;rfl⟩) λP H l=>?_
                have s:=l.cells;have J:=l.1 _ _ C;refine aU.go lay [] ?_;simp[s.1,s.2,J];refine aS lay rfl rfl rfl ko rfl ko rfl rp (by decide) (by simp;omega) (σ0:=q) (es:=f.aA.map aW) (xs:=[aW n]) (by simpa using l) (.inr ⟨_,by simp;rfl⟩) λo c a=>?_
                have d:=a.cells;have K:=a.1 _ _ C;refine aU.go lay [] ?_;simp[d.1,d.2,K,aG];exact k _ _ ⟨o,c,by simp,by simp,rfl,by simpa using a⟩))
 rintro env r ⟨o,c,L,M,rfl,a⟩
 have d:=a.cells;have N:=a.1 _ _ G;refine ab.run lay [2] ?_;simp[L,M,d.1,d.2,N,aa.ag,A,aG];refine .iI (a':=aC (fu f n)) (lT rfl λi u v b g=>?_) (.less (λy x t=>?_) (.done h))
 . match i with
   |0=>obtain rfl:=Option.some.inj b;obtain rfl:=Option.some.inj g;have:=a.W;show o.W (.sl 6 ((f.aA++[n]).map aW) .any);rw[List.map_append];exact this
   |1=>simp at b g;subst b;subst g;exact .refl _
   |2=>simp at b g;subst b;subst g;exact .refl _
   |3=>simp at b g;subst b;subst g;exact .refl _
   |4=>simp at b g;subst b;subst g;exact .refl _
   |5=>simp at b g;subst b;subst g;exact .refl _
   |i+6=>simp at b
 . have D:y≠p:=λe=>by subst e;rw[F]at t;cases t
   have E:y≠w:=λe=>by subst e;rw[z]at t;cases t
   rw[aa.ag _ _ E,aa.ag _ _ D];refine a.1 _ _ ?_;rw[<-j,aa.ag _ _ E,aa.ag _ _ D];exact t
end WI
end Go.Proofs.YtigilmjkokbblaaGreatDoor
namespace Go.Proofs.YtigilmjkokbblaaGreatDoor
open Go.bd Go.Conc
set_option maxHeartbeats 1000000
set_option maxRecDepth 4000
variable{m:Mo}{σ:aa}{KF:dV->aa->Prop}
theorem NW:∀a:Fin 32,bF (a.val:Int) (a.val:Int)=0:=by decide +kernel
theorem Kc{f:Fr}(b:f.Good){x:Int}(c:0<=x/\x<f.aA.length):gi f x x=false:=by
 have e:=oX (b.yz _ (nD c));obtain⟨A,d⟩:=qo e.2.2.2.2.2;have p:=e.2.1
 have g:rd f.roads (bp f x).place.toNat (bp f x).place.toNat=0:=by
  have h:=b.J3;unfold fe at h;split at h
  . cases h
  split at h
  . cases h
  split at h
  . next q=>exact absurd h q
  split at h
  . cases h
  next q=>
  simp only[List.any_eq_true,List.mem_range,not_exists,not_and]at q;have a:=q (bp f x).place.toNat (by omega) (bp f x).place.toNat (by omega);unfold cx at a;simp only[Bool.or_eq_true,not_or,bne_iff_ne,ne_eq,Decidable.not_not]at a;exact a.1.1
 unfold gi;rw[d,NW,g];simp
theorem HI{f:Fr}(d:f.Good){x:Int}(e:0<=x/\x<f.aA.length):bj f (aL f [x,x])=false:=by
 have g:=j7 f [x,x];refine zx ?_;have c:∀a∈aL f [x,x],a=x:=λa i=>by have:=g.mem_iff.1 i;simpa using this
 have key:∀l:List Int,(∀a∈l,a=x)->l.Pairwise (Fit f):=by
  intro l;induction l with
  |nil=>intro _;exact List.Pairwise.nil
  | cons a l j=>
    intro h;refine List.pairwise_cons.2 ⟨λb hb=>?_,j λb hb=>h b (by simp[hb])⟩;rw[h a (by simp),h b (by simp[hb])];exact Kc d e
 exact key _ c
def vG(f:Fr)(x y:Int):Int:=if(bp f x).bE≠(bp f y).bE then 1 else if dm f [x,y]=[]then 2 else if bj f (aL f (pG f [x,y]))=true then 3 else 0
theorem EI{f:Fr}(s:f.Good){x y a b:Int}(C:0<=x/\x<f.aA.length)(D:0<=y/\y<f.aA.length)(c:(x=a/\y=b)\/(x=b/\y=a))(w:a<=b):vG f x y=kr f [a,b]:=by
 have t:0<=a/\a<f.aA.length:=by rcases c with⟨rfl,rfl⟩|⟨rfl,rfl⟩<;>assumption
 have hb:0<=b/\b<f.aA.length:=by rcases c with⟨rfl,rfl⟩|⟨rfl,rfl⟩<;>assumption
 have A:∀n∈[a,b],0<=n/\n<f.aA.length:=λn u=>by simp at u;rcases u with rfl|rfl<;>assumption
 have j:=Cr f (l:=[a,b]) (by simp)
 have v:=wF s (l:=[a,b]) (by simp) A
 have k:dm f [x,y]=dm f [a,b]:=by
  rcases c with⟨rfl,rfl⟩|⟨rfl,rfl⟩
  . rfl
  . unfold dm
    congr 1
    funext h
    simp[Bool.and_comm]
 have m:tK f [a,b]=decide ((bp f x).bE=(bp f y).bE):=by
  unfold tK
  rcases c with⟨rfl,rfl⟩|⟨rfl,rfl⟩
  . simp[eq_comm]
  . simp
 have o:bj f (aL f (pG f [x,y]))=bj f (aL f [a,b]):=by
  rcases Int.lt_or_le a b with q|q
  . have:pG f [x,y]=[a,b]:=by
     refine rv (Bg f _) (by simp[q]) λz=>?_
     rw[sI];simp only[List.mem_cons,List.not_mem_nil,or_false]
     rcases c with⟨rfl,rfl⟩|⟨rfl,rfl⟩
     . constructor
       . exact λh=>h.2
       . rintro(rfl|rfl)<;>simp[*]
     . constructor
       . exact λh=>h.2.symm
       . rintro(rfl|rfl)<;>simp[*]
    rw[this]
  . have e:a=b:=by omega
    subst e;have d:x=a/\y=a:=by rcases c with h|h<;>exact⟨h.1,h.2⟩
    rw[d.1,d.2,HI s t]
    have:pG f [a,a]=[a]:=by
     refine rv (Bg f _) (by simp) λz=>?_
     rw[sI];simp only[List.mem_cons,List.not_mem_nil,or_false,or_self];constructor
     . exact λh=>h.2
     . rintro rfl;exact⟨t,rfl⟩
    rw[this];have B:aL f [a]=[a]:=by simp[aL,dk,gE]
    rw[B];rfl
 unfold vG kr;rw[o,k];rw[m]at j
 by_cases g:(bp f x).bE=(bp f y).bE
 . have p:dM f (aL f [a,b])=false:=by simpa[g]using j.symm
   rw[if_neg (by simp[g]),p]
   by_cases i:dm f [a,b]=[]
   . have r:cC f (aL f [a,b])=true:=by simpa[i]using v.symm
     rw[if_pos i,r];simp
   . have r:cC f (aL f [a,b])=false:=by simpa[i]using v.symm
     rw[if_neg i,r];simp
 . have p:dM f (aL f [a,b])=true:=by simpa[g]using j.symm
   rw[if_pos g,p];simp
theorem EJ{f:Fr}{x y:Int}(g:f.Fits)(u:ba f [x,y]≠0->KF (.val (.bG [int 0,int (ba f [x,y])])) σ)(v:ba f [x,y]=0->KF (.val (.bG [int (vG f x y),int 0])) σ):aB Tryz.prog m 20 [aC f,int x,int y] σ KF:=by
 have w:=g.aA;refine aB.start lay [] UA 3 Tryz.func20 rfl rfl (by rfl) (by kernel_rfl) ?_
 simp[Tryz.f20];refine an Tryz.func51 rfl rfl (HG g ?_);refine ab.run lay [] ?_;simp;refine aI.intro (λa=>?_) (λa=>?_)<;>simp at a<;>simp[a]
 . exact .done (u a)
 have h:=v a
 have i:check f=0/\(0<=x/\x<f.aA.length)/\(0<=y/\y<f.aA.length):=by
  unfold ba at a;split at a
  . next q=>exact absurd a q
  next q=>
  split at a
  . next c=>simp only[List.all_cons,List.all_nil,Bool.and_true,Bool.and_eq_true,jl]at c;exact⟨by simpa using q,by omega,by omega⟩
  . cases a
 obtain⟨z,o,p⟩:=i;have r:=Fr.hQ g z;have j:x.toNat<f.aA.length:=by omega
 have k:y.toNat<f.aA.length:=by omega
 have A:∀n∈[x,y],0<=n/\n<f.aA.length:=λn s=>by simp at s;rcases s with rfl|rfl<;>assumption
 unfold vG at h;rw[gn j,gn k]at h;have t:Wl [aC f,.sl 1 [int x,int y] .exact] [aC f,ints [x,y]]:=.cons (.refl _) (.cons (ck 1 [int x,int y] .exact) .nil)
 by_cases e:f.aA[x.toNat].bE=f.aA[y.toNat].bE
 . have b:(f.aA[x.toNat].bE !=f.aA[y.toNat].bE)=false:=by simp[e]
   rw[if_neg (by simp[e])]at h
   simp[o.1,j,p.1,k,b];refine ab.run lay [] ?_;simp;refine aH Tryz.func47 rfl rfl t (Be r (by simp) A ?_)
   refine ab.run lay [] ?_;simp
   by_cases c:dm f [x,y]=[]
   . rw[if_pos c]at h
     simp[c];exact .done h
   . rw[if_neg c]at h
     have l:(((dm f [x,y]).length:Int)==0)=false:=by rw[beq_eq_false_iff_ne];have:=List.length_pos_iff.2 c;omega
     simp[l];refine aH Tryz.func52 rfl rfl t (wU r (by simp) ?_)
     refine ab.run lay [] ?_;simp
     by_cases d:bj f (aL f (pG f [x,y]))=true
     . rw[if_pos d]at h
       simp[d];exact .done h
     . rw[if_neg d]at h
       have d:bj f (aL f (pG f [x,y]))=false:=by simpa using d
       simp[d];exact .done h
 . have b:(f.aA[x.toNat].bE !=f.aA[y.toNat].bE)=true:=by simp[e]
   rw[if_pos e]at h;simp[o.1,j,p.1,k,b];refine ab.run lay [] ?_;simp;exact .done h
structure Small(f:Fr):Prop where
 aA:f.aA.length<=21
 roads:f.roads.length<=20
 marks:∀e∈f.aA,e.marks.length<=20
 row:∀r∈f.roads,r.length<=20
theorem Small.fits{f:Fr}(h:Small f):f.Fits:=⟨by have:=h.aA;omega,by have:=h.roads;omega,λr a=>by have:=h.row r a;omega,λe b=>by have:=h.marks e b;omega⟩
theorem EK{f:Fr}(a:f.Good)(b:∀e∈f.aA,e.marks.length<=20):Small f/\f.aA.length<=6:=by
 have g:f.roads.length<=3:=by
  have h:=a.J3;unfold fe at h;split at h
  . cases h
  split at h
  . cases h
  . omega
 refine⟨⟨by have:=a.vw;omega,by omega,b,λr c=>?_⟩,a.vw⟩;obtain⟨i,d,rfl⟩:=List.mem_iff_getElem.1 c;have:=(a.row d).1;omega
theorem NX{f:Fr}(j:f.Fits)(h:∀v,(v=false->Small f/\f.aA.length<=20)->KF (.val (bool v)) σ):aB Tryz.prog m 5 [aC f] σ KF:=by
 have w:=j.roads;have q:=j.aA;have k:=h true (λe=>by cases e);refine aB.start lay [] [] 1 Tryz.func5 rfl rfl (by rfl) (by kernel_rfl) ?_;simp[Tryz.f5];by_cases o:(20:Int)<f.aA.length
 . simp[o]
   exact .done k
 . simp [o]
   by_cases p:(20:Int)<f.roads.length
   . simp[p]
     exact .done k
   . simp [p]
     refine ab.loop f.aA.length (λi s=>∃env,s=⟨env,σ,[],.no⟩/\env 1=.cp (aC f) 0/\env 3=int i/\∀e∈f.aA.take i,e.marks.length<=20) ⟨_,rfl,by simp,by simp,by simp⟩ ?_;rintro x i _ t ⟨env,rfl,b,d,c⟩ l;rcases Nat.lt_or_ge i f.aA.length with g3|g3
     . have zw:(i:Int)<f.aA.length:=by omega
       have u:=j.marks _ (List.getElem_mem g3);have f1:-9223372036854775808<=(i:Int)+1/\(i:Int)+1<=9223372036854775807:=by omega
       by_cases g:(20:Int)<f.aA[i].marks.length
       . refine ab.run lay [] ?_
         simp[b,d,g3,zw,g];exact .done k
       . refine ab.run lay [] ?_
         simp[b,d,g3,zw,g];refine⟨by omega,l _ g3 ⟨_,rfl,by simp[b,d],by simp,λe he=>?_⟩⟩;rw[List.take_succ_eq_append_getElem g3]at he;rcases List.mem_append.1 he with he|he
         . exact c e he
         . simp at he;subst he;omega
     . have:i=f.aA.length:=by omega
       subst this;rw[List.take_length]at c;refine ab.run lay [] ?_;simp[b,d];refine ab.loop f.roads.length (λi s=>∃env,s=⟨env,σ,[],.no⟩/\env 1=.cp (aC f) 0/\env 4=int i/\∀r∈f.roads.take i,r.length<=20) ⟨_,rfl,by simp[b],by simp,by simp⟩ ?_;clear b d l;rintro y i _ t ⟨env,rfl,b,n,a⟩ l;rcases Nat.lt_or_ge i f.roads.length with g3|g3
       . have zw:(i:Int)<f.roads.length:=by omega
         have f1:-9223372036854775808<=(i:Int)+1/\(i:Int)+1<=9223372036854775807:=by omega
         have u:=j.row _ (List.getElem_mem g3);by_cases g:(20:Int)<f.roads[i].length
         . refine ab.run lay [] ?_
           simp[b,n,g3,zw,g];exact .done k
         . refine ab.run lay [] ?_
           simp[b,n,g3,zw,g];refine⟨by omega,l _ g3 ⟨_,rfl,by simp[b,n],by simp,λe he=>?_⟩⟩;rw[List.take_succ_eq_append_getElem g3]at he;rcases List.mem_append.1 he with he|he
           . exact a e he
           . simp at he;subst he;omega
       . have:i=f.roads.length:=by omega
         subst this;rw[List.take_length]at a;refine ab.run lay [] ?_;simp[b,n];exact .done (h false λ_=>⟨⟨by omega,by omega,c,a⟩,by omega⟩)
section
variable{c k:Nat}{nums:List Int}
abbrev pJ(L:List Fr):AV:=.sl 6 (L.map aC) .any
theorem Bc.small{cnt:Int}{f:Fr}{a:List Int}(h:Bc cnt f a):Small f/\f.aA.length<=6:=EK h.hQ λe b=>by have:=h.marks e b;omega
theorem EL{f:Fr}(h:m5 5 f):Small f:=by
 have d:=h.dE;have g:=h.len;obtain⟨i,_,a⟩:=h.J3;refine⟨by omega,by omega,λe b=>?_,λr c=>?_⟩
 . have:=(jN (h.yz e b).marks).2
   omega
 . have:=a.row r c
   omega
theorem EM{f:Fr}{n:gX}(t:k+2000<1000000)(r:nums.length<1152921504606846976)(hb:cq c nums k σ)(u:σ c≠none)(h:∀(f1 seen:Fr) σ',m5 5 f1->seen.Good->Small seen->seen.aA.length<=5->nB c nums (k+1500) σ σ'->KF (.val (pJ [f,f1,seen,fu seen n])) σ'):aB Tryz.prog m 8 [aC f,aW n,.ref c 0] σ KF:=by
 refine aB.start lay [] XP 3 Tryz.func8 rfl rfl (by rfl) (by kernel_rfl) ?_;simp[Tryz.f8];refine an Tryz.func37 rfl rfl (HH (by omega) r ⟨by omega,by omega⟩ hb λseen v a j hd=>?_);refine ab.runN lay [] 6 ?_;simp;refine bL.intro λd l=>?_
 simp;refine ab.bY 7 (b:=d) (aC seen) (by simp) (by simp) rfl ?_
 have o:(a.set d (.cells (bO seen))).del d=a:=by
  funext y;by_cases e:y=d
  . subst e;simp[aa.del,l]
  . simp[aa.del,e,aa.ag]
 rw[o];have g:=j.small;refine ab.run lay [] ?_;simp;refine an Tryz.func38 rfl rfl (HB (by omega) r ⟨by omega,by omega⟩ hd.1 λf1 p q i=>?_);refine aU.go lay [] ?_;simp;refine an Tryz.func39 rfl rfl (WI.NV (by have:=g.2;omega) ?_);refine aU.go lay [] ?_;simp;refine ab.run lay [] ?_;simp;refine .iI (a':=pJ [f,f1,seen,fu seen n]) (ck 6 ([f,f1,seen,fu seen n].map aC) .exact) (.done (h f1 seen p q j.hQ g.1 (by have:=j.len;omega) ⟨?_,λy s=>?_⟩))
 . exact i.1.mono (by simp)
 . rw[i.2 y s,hd.2 y s]
end
end Go.Proofs.YtigilmjkokbblaaGreatDoor
namespace Go.Proofs.YtigilmjkokbblaaGreatDoor
open Go.bd Go.Conc
set_option maxHeartbeats 2000000
set_option maxRecDepth 4000
variable{m:Mo}{σ:aa}{KF:dV->aa->Prop}
theorem Small.own{f:Fr}(h:Small f)(a:KF (.val (aC f)) σ):aB Tryz.prog m 9 [aC f] σ KF:=Cu (by have:=h.aA;omega) (λe b=>by have:=h.marks e b;omega) (by have:=h.roads;omega) (λr c=>by have:=h.row r c;omega) a
theorem EN{f f1 seen:Fr}{n:gX}(c:Small f)(d:m5 5 f1)(a:Small seen)(i:seen.aA.length<=5)(h:n.marks.length<=20):∀g∈[f,f1,seen,fu seen n],Small g:=λg b=>by
 simp only[List.mem_cons,List.not_mem_nil,or_false]at b;rcases b with rfl|rfl|rfl|rfl
 . exact c
 . exact EL d
 . exact a
 . refine⟨by simp[fu];omega,a.roads,λe he=>?_,a.row⟩
   rcases List.mem_append.1 he with he|he
   . exact a.marks e he
   . simp at he;subst he;exact h
end Go.Proofs.YtigilmjkokbblaaGreatDoor
namespace Go.Proofs.YtigilmjkokbblaaGreatDoor
open Go.bd Go.Conc
set_option maxHeartbeats 1000000
set_option maxRecDepth 4000
variable{m:Mo}{σ:aa}{KF:dV->aa->Prop}
theorem Cz{f:Fr}{x y:Int}(a:f.Fits)(h:KF (.val (.bG [int (j8 f x y).1,int (j8 f x y).2])) σ):aB Tryz.prog m 20 [aC f,int x,int y] σ KF:=by
 unfold j8 at h;refine EJ a (λq=>?_) λq=>?_
 . rw[if_pos q]at h;exact h
 . rw[if_neg (by simp[q])]at h
   obtain⟨c,b⟩:=Gr q;rw[EI (Fr.hQ a c) (b x (by simp)) (b y (by simp)) (Bh x y).1 (Bh x y).2];exact h
theorem EO:∀n<7,∀k<7,(lu (n:Nat) k).length<=20:=by decide +kernel
end Go.Proofs.YtigilmjkokbblaaGreatDoor
