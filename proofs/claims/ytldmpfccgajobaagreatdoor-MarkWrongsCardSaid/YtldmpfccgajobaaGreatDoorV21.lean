import Derived.Test.YtldmpfccgajobaaGreatDoorV20
set_option linter.all false
namespace Go.Proofs.YtldmpfccgajobaaGreatDoor
open Tryz (prog)
open Go.bG Go.Conc
set_option maxHeartbeats 1000000
set_option maxRecDepth 4000
variable{m:Mo}{σ:aa}{KF:eI->aa->Prop}
structure Je(f:Fr)(l:List Int):Prop where
 mem:∀n∈l,0<=n/\n<f.aq.length
 ne:l≠[]
 len:l.length<=1000000
def cR(f:Fr)(l:List Int):Bool:=l.any λn=>decide ((aO f n).bk≠(aO f (l.getD 0 0)).bk)
theorem fY{f:Fr}{x:Int}(h:x.toNat<f.aq.length):aO f x=f.aq[x.toNat]:=by simp[aO,List.getD_eq_getElem?_getD,h]
theorem BU{b mb:Nat}{f:Fr}{l:List Int}(x:Je f l)(h:KF (.val (bool (cR f l))) σ):ar prog m 203 [.agg [],iL b mb f 0,ints l] σ KF:=by
 obtain⟨o,j,hlen⟩:=x;have a:0<l.length:=List.length_pos_iff.2 j;obtain⟨y,C⟩:=o _ (List.getElem_mem a);have p:l[0].toNat<f.aq.length:=by omega
 have z:l.getD 0 0=l[0]:=by simp[List.getD_eq_getElem?_getD,a]
 unfold cR at h;rw[z]at h;refine fs OP 3 Tryz.func203 rfl rfl (by rfl) (by kernel_rfl) ?_
 simp[Tryz.f203];refine ab.loop l.length (λk s=>∃env,s=⟨env,σ,[],.no⟩/\env 1=iL b mb f 0/\env 2=ints l/\env 9=ints l/\env 10=int l.length/\env 11=int k/\∀n∈l.take k,(aO f n).bk=(aO f l[0]).bk) ⟨_,rfl,by simp⟩ ?_
 rintro D k _ E ⟨env,rfl,q,r,t,d,e,c⟩ A
 rcases Nat.lt_or_ge k l.length with g1|g1
 . obtain⟨y0,F⟩:=o _ (List.getElem_mem g1)
   have u:l[k].toNat<f.aq.length:=by omega
   have v:=fY u;have w:=fY p;refine rn ?_;simp[q,r,t,d,e,g1,a,y0,u,y,p];refine rn ?_;simp
   by_cases i:f.aq[l[k].toNat].bk=f.aq[l[0].toNat].bk
   . simp[e,i]
     refine⟨by omega,A _ g1 ⟨_,rfl,by simp[q],by simp[r],by simp[t],by simp[d],by simp,λn g=>?_⟩⟩
     rw[List.take_succ_eq_append_getElem g1,List.mem_append,List.mem_singleton]at g
     rcases g with g|rfl
     . exact c n g
     . rw[v,w];exact i
   . have B:(f.aq[l[k].toNat].bk !=f.aq[l[0].toNat].bk)=true:=by simp[i]
     have:l.any (λn=>decide ((aO f n).bk≠(aO f l[0]).bk))=true:=List.any_eq_true.2 ⟨_,List.getElem_mem g1,by rw[v,w];simp[i]⟩
     rw[this]at h;simp[B];exact .done h
 . have:k=l.length:=by omega
   subst this;rw[List.take_length]at c
   have:l.any (λn=>decide ((aO f n).bk≠(aO f l[0]).bk))=false:=by rw[List.any_eq_false];intro n g;simp[c n g]
   rw[this]at h;refine rn ?_;simp[d,e];exact .done h
def bO(f:Fr)(l:List Int):Bool:=decide (du f l=[])
theorem BV{b mb:Nat}{f:Fr}{l:List Int}(g:f.Good)(c:Je f l)(h:KF (.val (bool (bO f l))) σ):ar prog m 204 [.agg [],iL b mb f 0,ints l] σ KF:=by
 refine fs [] 3 Tryz.func204 rfl rfl (by rfl) (by kernel_rfl) ?_
 simp[Tryz.f204];refine cf Tryz.func73 rfl (uO g c.ne c.len c.mem ?_);refine rn ?_;simp;unfold bO at h;cases d:du f l with
 |nil=>rw[d]at h;exact .done h
 | cons a r=>
   rw[d]at h;have e:((r.length:Int)+1==0)=false:=by rw[beq_eq_false_iff_ne];omega
   refine .done ?_;simpa[e]using h
def eN(f:Fr)(x y:Int):Bool:=decide ((aO f y).hour-(aO f x).hour<rd f.roads (aO f x).place.toNat (aO f y).place.toNat+f.cS*bc (aT (aO f x).marks) (aT (aO f y).marks))
def bx(f:Fr)(l:List Int):Bool:=(List.range (l.length-1)).any λi=>eN f (l.getD i 0) (l.getD (i+1) 0)
theorem mC:∀{l:List Int}{p:Option Int},kj p l=0->∀n∈l,0<=n/\n<=4
 |[],_,_,n,hn=>by simp at hn
 | a::l,p,h,n,hn=>by
   unfold kj at h;split at h
   . cases h
   next b=>
   split at h
   . cases h
   next c=>
   rcases List.mem_cons.1 hn with rfl|hn
   . simp[cK]at b;omega
   . exact mC h n hn
theorem Ew:∀a:Fin 32,∀n:Fin 5,0<=bw (a.val:Int) (n.val:Int)/\bw (a.val:Int) (n.val:Int)<32:=by decide
theorem ja{l:List Int}(h:∀n∈l,0<=n/\n<=4):0<=aT l/\aT l<32:=by
 have key:∀(l:List Int) (a:Int),(∀n∈l,0<=n/\n<=4)->0<=a/\a<32->0<=l.foldl bw a/\l.foldl bw a<32:=by
  intro l;induction l with
  |nil=>intro a _ h;exact h
  | cons x l c=>
    intro a b g;rw[List.foldl_cons];refine c _ (λn d=>b n (List.mem_cons_of_mem _ d)) ?_;obtain⟨i,j⟩:=b x (List.mem_cons_self ..);have:=Ew ⟨a.toNat,by omega⟩ ⟨x.toNat,by omega⟩;have e:(a.toNat:Int)=a:=by omega
    have f:(x.toNat:Int)=x:=by omega
    simpa only[e,f]using this
 exact key l 0 h (by omega)
theorem Hu:∀a:Fin 32,∀b:Fin 32,qg 8 (uK (a.val:Int) (b.val:Int))=0/\0<=bc (a.val:Int) (b.val:Int)/\bc (a.val:Int) (b.val:Int)<=5:=by decide +kernel
theorem Dj{a b:Int}(e:0<=a/\a<32)(hb:0<=b/\b<32):qg 8 (uK a b)=0/\0<=bc a b/\bc a b<=5:=by
 have:=Hu ⟨a.toNat,by omega⟩ ⟨b.toNat,by omega⟩;have c:(a.toNat:Int)=a:=by omega
 have d:(b.toNat:Int)=b:=by omega
 simpa only[c,d]using this
theorem Fr.Good.row{f:Fr}(a:f.Good){i:Nat}(b:i<f.roads.length):f.roads[i].length=f.roads.length/\∀x∈f.roads[i],0<=x/\x<=9:=by
 have h:=a.Jd;unfold dQ at h;split at h
 . cases h
 split at h
 . cases h
 split at h
 . next q=>exact absurd h q
 next q=>
 obtain⟨c,d⟩:=fB (by simpa using q) _ (List.getElem_mem b);exact⟨c,λx e=>fX (d x e)⟩
theorem BW{b mb:Nat}{f:Fr}{l:List Int}(u:f.Good)(hl:Je f l)(h:KF (.val (bool (bx f l))) σ):ar prog m 205 [.agg [],iL b mb f 0,ints l] σ KF:=by
 obtain⟨Y,a7,hlen⟩:=hl;have w:=u.cS;unfold bx at h;refine fs OQ 3 Tryz.func205 rfl rfl (by rfl) (by kernel_rfl) ?_
 simp[Tryz.f205];refine ab.loop (l.length-1) (λk s=>∃env j,s=⟨env,j,[],.no⟩/\σ.Le j/\env 1=iL b mb f 0/\env 2=ints l/\env 7=int ((k:Int)+1)/\∀i<k,eN f (l.getD i 0) (l.getD (i+1) 0)=false) ⟨_,_,rfl,aa.le_refl _,by simp⟩ ?_
 rintro c0 k _ hk ⟨env,j,rfl,x,y,H,I,g⟩ Z
 rcases Nat.lt_or_ge (k+1) l.length with g1|g1
 . have P:(k:Int)+1<l.length:=by omega
   have Q:k<l.length:=by omega
   obtain⟨x0,x1⟩:=Y _ (List.getElem_mem Q);obtain⟨y0,y1⟩:=Y _ (List.getElem_mem g1);have z:l[k].toNat<f.aq.length:=by omega
   have C:l[k+1].toNat<f.aq.length:=by omega
   have f1:-9223372036854775808<=(k:Int)/\(k:Int)<=9223372036854775807:=by omega
   have f2:((k:Int)+1).toNat=k+1:=by omega
   have f3:(0:Int)<=(k:Int)+1:=by omega
   obtain⟨A,D⟩:∃A,A=f.aq[l[k].toNat]:=⟨_,rfl⟩;obtain⟨B,E⟩:∃B,B=f.aq[l[k+1].toNat]:=⟨_,rfl⟩;have eA:=fY z;have eB:=fY C;rw[<-D]at eA;rw[<-E]at eB;have bA:=lK (u.vr A (by rw[D];exact List.getElem_mem z))
   have bB:=lK (u.vr B (by rw[E];exact List.getElem_mem C))
   refine rn ?_;simp[y,H,I,P,Q,g1,x0,z,y0,C,f1.1,f1.2,f2,f3,<-D,<-E];have o:=λ{c:Nat}(F:j c=none)=>x.none F
   have J:A.place.toNat<f.roads.length:=by omega
   obtain⟨r1,r2⟩:=u.row J;have K:B.place.toNat<f.roads[A.place.toNat].length:=by omega
   obtain⟨r3,r4⟩:=r2 _ (List.getElem_mem K);have R:rd f.roads A.place.toNat B.place.toNat=f.roads[A.place.toNat][B.place.toNat]:=cI J K;have S:=mC bA.2.2.2.2.2;have T:=mC bB.2.2.2.2.2;have lA:=ja S;have lB:=ja T;obtain⟨c1,U,c3⟩:=Dj lA lB;obtain⟨ch,p⟩:∃ch,ch=bc (aT A.marks) (aT B.marks):=⟨_,rfl⟩;rw[<-p]at U c3
   have hmul:0<=f.cS*ch/\f.cS*ch<=30:=by
    constructor
    . exact Int.mul_nonneg (by omega) U
    . calc f.cS*ch<=6*5:=Int.mul_le_mul w.2 c3 U (by omega)
       _=30:=by rfl
   have a:eN f l[k] l[k+1]=decide (B.hour-A.hour<f.roads[A.place.toNat][B.place.toNat]+f.cS*ch):=by unfold eN;rw[eA,eB,R,p]
   have q:l.getD k 0=l[k]:=by simp[List.getD_eq_getElem?_getD,Q]
   have r:l.getD (k+1) 0=l[k+1]:=by simp[List.getD_eq_getElem?_getD,g1]
   have L:-9223372036854775808<=B.hour-A.hour/\B.hour-A.hour<=9223372036854775807:=by omega
   have M:-9223372036854775808<=f.cS*ch/\f.cS*ch<=9223372036854775807:=by omega
   have N:-9223372036854775808<=f.roads[A.place.toNat][B.place.toNat]+f.cS*ch/\f.roads[A.place.toNat][B.place.toNat]+f.cS*ch<=9223372036854775807:=by omega
   refine⟨pD.intro λc F=>?_,pD.intro λc F=>?_⟩
   . simp
     refine pD.intro λd hd=>?_
     obtain⟨O,G,hd⟩:=aa.aL hd;have V:=o F;have W:=o hd;simp[O,G,aa.aj];refine ab.cV 8 (b:=c) (bd A) (by simp[G,aa.aj]) (by simp) rfl ?_
     refine ab.cV 9 (b:=d) (bd B) (by simp[O,aa.del]) (by simp) rfl ?_
     refine rn ?_;simp[y,L.1,L.2,J,K];refine⟨by omega,by omega,?_⟩
     refine cf Tryz.func206 rfl (mz (by have:=u.fits.marks A (by rw[D];exact List.getElem_mem z);omega) (λn v=>(S n v).1) ?_)
     refine pg ?_;simp;refine cf Tryz.func206 rfl (mz (by have:=u.fits.marks B (by rw[E];exact List.getElem_mem C);omega) (λn v=>(T n v).1) ?_)
     refine pg ?_;simp;refine cf Tryz.func207 rfl (uQ c1 ?_);rw[<-p];refine pg ?_;simp[M.1,M.2,N.1,N.2];refine rn ?_;simp
     by_cases t:B.hour-A.hour<f.roads[A.place.toNat][B.place.toNat]+f.cS*ch
     . simp[t]
       have:(List.range (l.length-1)).any (λi=>eN f (l.getD i 0) (l.getD (i+1) 0))=true:=List.any_eq_true.2 ⟨k,List.mem_range.2 (by omega),by rw[q,r,a];simpa using t⟩
       rw[this]at h;exact .less (by repeat (first|exact aa.le_refl _|assumption|refine aa.iz ?_ (by assumption)|refine aa.jQ ?_ (by assumption))) (.done h)
     . simp[I,t]
       refine⟨by omega,Z _ (by omega) ⟨_,_,rfl,(by repeat (first|exact aa.le_refl _|assumption|refine aa.iz ?_ (by assumption)|refine aa.jQ ?_ (by assumption))),by simp[y],by simp[H],by simp,λi X=>?_⟩⟩
       by_cases e:i=k
       . subst e;rw[q,r,a];simpa using t
       . exact g i (by omega)
   . simp
     refine pD.intro λd hd=>?_
     obtain⟨O,G,hd⟩:=aa.aL hd;have V:=o F;have W:=o hd;simp[G,aa.aj];refine ab.cV 8 (b:=d) (bd A) (by simp[O,aa.aj]) (by simp) rfl ?_
     refine ab.cV 9 (b:=c) (bd B) (by simp[G,aa.del]) (by simp) rfl ?_
     refine rn ?_;simp[y,L.1,L.2,J,K];refine⟨by omega,by omega,?_⟩
     refine cf Tryz.func206 rfl (mz (by have:=u.fits.marks A (by rw[D];exact List.getElem_mem z);omega) (λn v=>(S n v).1) ?_)
     refine pg ?_;simp;refine cf Tryz.func206 rfl (mz (by have:=u.fits.marks B (by rw[E];exact List.getElem_mem C);omega) (λn v=>(T n v).1) ?_)
     refine pg ?_;simp;refine cf Tryz.func207 rfl (uQ c1 ?_);rw[<-p];refine pg ?_;simp[M.1,M.2,N.1,N.2];refine rn ?_;simp
     by_cases t:B.hour-A.hour<f.roads[A.place.toNat][B.place.toNat]+f.cS*ch
     . simp[t]
       have:(List.range (l.length-1)).any (λi=>eN f (l.getD i 0) (l.getD (i+1) 0))=true:=List.any_eq_true.2 ⟨k,List.mem_range.2 (by omega),by rw[q,r,a];simpa using t⟩
       rw[this]at h;exact .less (by repeat (first|exact aa.le_refl _|assumption|refine aa.iz ?_ (by assumption)|refine aa.jQ ?_ (by assumption))) (.done h)
     . simp[I,t]
       refine⟨by omega,Z _ (by omega) ⟨_,_,rfl,(by repeat (first|exact aa.le_refl _|assumption|refine aa.iz ?_ (by assumption)|refine aa.jQ ?_ (by assumption))),by simp[y],by simp[H],by simp,λi X=>?_⟩⟩
       by_cases e:i=k
       . subst e;rw[q,r,a];simpa using t
       . exact g i (by omega)
 . have g2:¬(k:Int)+1<l.length:=by omega
   have:(List.range (l.length-1)).any (λi=>eN f (l.getD i 0) (l.getD (i+1) 0))=false:=by
    rw[List.any_eq_false];intro i X;rw[g i (by have:=List.mem_range.1 X;omega)]
    simp
   rw[this]at h;refine rn ?_;simp[H,I,g2];exact .less x (.done h)
theorem OU:(((prog.info? 167).bind λi=>i.methods.find? (·.name==  "palfrey/mark.breaks")).map λmt=>(mt.path,mt.func))=some (#[],some (203,false)):=by kernel_rfl
theorem OV:(((prog.info? 168).bind λi=>i.methods.find? (·.name==  "palfrey/mark.breaks")).map λmt=>(mt.path,mt.func))=some (#[],some (204,false)):=by kernel_rfl
theorem OW:(((prog.info? 169).bind λi=>i.methods.find? (·.name==  "palfrey/mark.breaks")).map λmt=>(mt.path,mt.func))=some (#[],some (205,false)):=by kernel_rfl
theorem L7{a:AV}:tN prog 167  "palfrey/mark.breaks" 203 a a:=by obtain⟨mt,b,e⟩:=Option.map_eq_some_iff.1 OU;obtain⟨info,c,d⟩:=Option.bind_eq_some_iff.1 b;obtain⟨f,g⟩:=Prod.mk.inj e;exact oZ lay OA c d (by rw[f]) g rfl
theorem L8{a:AV}:tN prog 168  "palfrey/mark.breaks" 204 a a:=by obtain⟨mt,b,e⟩:=Option.map_eq_some_iff.1 OV;obtain⟨info,c,d⟩:=Option.bind_eq_some_iff.1 b;obtain⟨f,g⟩:=Prod.mk.inj e;exact oZ lay OB c d (by rw[f]) g rfl
theorem L9{a:AV}:tN prog 169  "palfrey/mark.breaks" 205 a a:=by obtain⟨mt,b,e⟩:=Option.map_eq_some_iff.1 OW;obtain⟨info,c,d⟩:=Option.bind_eq_some_iff.1 b;obtain⟨f,g⟩:=Prod.mk.inj e;exact oZ lay OC c d (by rw[f]) g rfl
def aI(f:Fr)(l:List Int):List Int:=(cA (λa b=>decide (qZ f a b<0)) l).reverse
def kU(f:Fr)(l:List Int):Int:=if cR f (aI f l)then 1 else if bO f (aI f l)then 2 else if bx f (aI f l)then 3 else 0
abbrev OX(n:Int):AV:=if n=1 then .mS 167 (.agg [])else if n=2 then .mS 168 (.agg [])else if n=3 then .mS 169 (.agg [])else .lit .nilIface
theorem Je.sort{f:Fr}{l:List Int}(h:Je f l):Je f (aI f l):=
 ⟨fun n a=>h.mem n ((nT _ _ _).1 (by simpa[aI]using a)),λe=>h.ne (by
   have:(aI f l).length=l.length:=by simp[aI,iD]
   rw[e]at this;exact List.length_eq_zero_iff.1 this.symm),by simp[aI,iD,h.len]⟩
theorem Hv{b mb:Nat}{f:Fr}{l:List Int}(y:f.Good)(v:Je f l)(d:l.length<20)(h:KF (.val (OX (kU f l))) σ):ar prog m 70 [iL b mb f 0,ints l] σ KF:=by
 have t:=v.sort;refine fs [] 2 Tryz.func70 rfl rfl (by rfl) (by kernel_rfl) ?_;simp[Tryz.f70];refine cZ.intro λc B=>?_
 simp;refine cf Tryz.func123 rfl (Kc Ht v.mem d v.ne ⟨rfl,rfl⟩ ?_);obtain⟨S,z⟩:∃S,S=(cA (λa b=>decide (qZ f a b<0)) l).reverse:=⟨_,rfl⟩;have r:aI f l=S:=z.symm;rw[r]at t;unfold kU at h;rw[r]at h;rw[<-z];refine rn ?_;simp;refine ab.loop 3 (λk s=>∃env j,s=⟨env,j,[],.no⟩/\σ.Le j/\env 1=ints S/\env 2=.cp (iL b mb f 0) 0/\env 19=.sl 1 [.mS 167 (.agg []),.mS 168 (.agg []),.mS 169 (.agg [])] .exact/\env 20=int 3/\env 21=int k/\(1<=k->cR f S=false)/\(2<=k->bO f S=false)/\(3<=k->bx f S=false)) ⟨_,_,rfl,aa.fa (aa.le_refl _) B,by simp,by simp,by simp,by simp,by simp,by simp,by simp,by simp⟩ ?_;rintro E k _ F ⟨env,j,rfl,e,o,p,i,d,g,w,A,C⟩ x;obtain rfl|rfl|rfl|rfl:k=0\/k=1\/k=2\/k=3:=by omega
 . refine rn ?_
   simp[o,p,i,d,g];refine ab.invoke rfl rfl rfl (by simp) rfl L7 Tryz.func203 rfl rfl ?_;refine BU t ?_;refine rn ?_;simp;cases hb:cR f S
   . simp[g]
     exact x _ (by omega) ⟨_,_,rfl,e,by simp[o],by simp[p],by simp[i],by simp[d],by simp,λ_=>hb,λq=>(by omega),λq=>(by omega)⟩
   . simp
     simp[hb]at h;exact .less e (.done h)
 . have n:=w (by omega)
   refine rn ?_;simp[o,p,i,d,g];refine ab.invoke rfl rfl rfl (by simp) rfl L8 Tryz.func204 rfl rfl ?_;refine BV y t ?_;refine rn ?_;simp;cases hb:bO f S
   . simp[g]
     exact x _ (by omega) ⟨_,_,rfl,e,by simp[o],by simp[p],by simp[i],by simp[d],by simp,λ_=>n,λ_=>hb,λq=>(by omega)⟩
   . simp
     simp[hb,n]at h;exact .less e (.done h)
 . have n:=w (by omega)
   have u:=A (by omega);refine rn ?_;simp[o,p,i,d,g];refine ab.invoke rfl rfl rfl (by simp) rfl L9 Tryz.func205 rfl rfl ?_;refine BW y t ?_;refine rn ?_;simp;cases hb:bx f S
   . simp[g]
     exact x _ (by omega) ⟨_,_,rfl,e,by simp[o],by simp[p],by simp[i],by simp[d],by simp,λ_=>n,λ_=>u,λ_=>hb⟩
   . simp
     simp[hb,n,u]at h;exact .less e (.done h)
 . have n:=w (by omega)
   have u:=A (by omega);have D:=C (by omega);simp[n,u,D]at h;refine rn ?_;simp[d,g];exact .less e (.done h)
end Go.Proofs.YtldmpfccgajobaaGreatDoor
namespace Go.Proofs.YtldmpfccgajobaaGreatDoor
open Tryz (prog)
open Go Go.bG
set_option maxRecDepth 100000
abbrev nn:wp:=⟨148,149,163,164,170,172,131,132,143,130,169,171,175,176,178,179,181,226,178,21⟩
theorem Hw:∀(a:Fl) b o kind,aF prog a [0,5] (LD prog nn b o kind) un=some (qN prog nn b o kind):=by intro a b o kind;kernel_rfl
theorem Hx:∀(a:Fl) b o kind,aF prog a [0] (qN prog nn b o kind) tt=some (K1 prog nn b o kind):=by intro a b o kind;kernel_rfl
theorem Hy:∀(a:Fl) b o kind,aF prog a [0,2,3,4,5,12] (qN prog nn b o kind) ff=some (Pi prog nn b o kind):=by intro a b o kind;kernel_rfl
theorem Hz:∀(a:Fl) b o kind,aF prog a [8] (K1 prog nn b o kind) un=some (M4 prog nn b o kind):=by intro a b o kind;kernel_rfl
theorem HA:∀(a:Fl) b o kind,aF prog a [9] (M4 prog nn b o kind) (pt b o)=some (K2 prog nn b o kind):=by intro a b o kind;kernel_rfl
theorem HB:∀(a:Fl) b o kind,aF prog a [] (K2 prog nn b o kind) un=some (BK nn kind):=by intro a b o kind;kernel_rfl
theorem Ey:∀(a:Fl) b o kind L K S aw sv it,na prog a [0,2,3,4,5,6] (LJ prog nn b o kind aw sv it) (.word L K S 0)=some (HD prog nn b o kind L K S aw sv it):=by intro a b o kind L K S aw sv it;kernel_rfl
theorem Ez:∀(a:Fl) b o kind L K S aw sv it,na prog a [0,2,3,4,5,6] (CG prog nn b o kind aw sv it) (.word L K S 0)=some (HD prog nn b o kind L K S aw sv it):=by intro a b o kind L K S aw sv it;kernel_rfl
theorem EA:∀(a:Fl) b o kind L K S aw sv it,na prog a [0,2,3,4,5,6] (LL prog nn b o kind aw sv it) (.word L K S 0)=some (HD prog nn b o kind L K S aw sv it):=by intro a b o kind L K S aw sv it;kernel_rfl
theorem HC:∀(a:Fl) b o kind K aw sv it,NN prog a [0,2,3,4,5,6,17,18] (HD prog nn b o kind true K false aw sv it)=SQ prog nn b o kind K aw sv it:=by intro a b o kind K aw sv it;cases K<;>cases aw<;>cases sv<;>kernel_rfl
theorem HE:∀(a:Fl) b o kind L K S aw sv it,(L && !S)=false->(aw && !K)=false->NN prog a [0,2,3,4,5,6,77,78,79] (HD prog nn b o kind L K S aw sv it)=zn prog nn b o kind L K S aw sv it:=by intro a b o kind L K S aw sv it c d;cases L<;>cases K<;>cases S<;>cases aw<;>cases sv<;>first|exact absurd c (by decide)|exact absurd d (by decide)|kernel_rfl
theorem EB:∀(a:Fl) b o kind it,aF prog {a with n0:=false} [0,2,3,4,5,33,36,37,39] (SQ prog nn b o kind false false false it) tt=some (SW prog nn b o kind it):=by intro a b o kind it;kernel_rfl
theorem BX:∀(a:Fl) b o kind n0 K aw sv it,(!aw && !K && !n0)=false->aF prog {a with n0:=n0} [0,2,3,4,5] (SQ prog nn b o kind K aw sv it) tt=some (DS prog nn b o kind aw sv it):=by intro a b o kind n0 K aw sv it h;cases n0<;>cases K<;>cases aw<;>cases sv<;>first|exact absurd h (by decide)|kernel_rfl
theorem EC:∀(a:Fl) b o kind K aw sv it,(aw && !K)=false->aF prog a [0,2,3,4,5,6,77,78,79] (SQ prog nn b o kind K aw sv it) ff=some (zn prog nn b o kind true K false aw sv it):=by intro a b o kind K aw sv it h;cases K<;>cases aw<;>cases sv<;>first|exact absurd h (by decide)|kernel_rfl
theorem ED:∀(a:Fl) b o kind r it,aF prog a [0,2,3,4,5] (SW prog nn b o kind it) (bl r)=some (DS prog nn b o kind r false it):=by intro a b o kind r it;cases r<;>kernel_rfl
theorem BY:∀(a:Fl) b o kind aw sv,aF prog a [0,2,3,4,5,47] (DS prog nn b o kind aw sv 0) un=some (CG prog nn b o kind aw sv 1):=by intro a b o kind aw sv;kernel_rfl
theorem BZ:∀(a:Fl) b o kind aw sv,aF prog a [0,2,3,4,5,47] (DS prog nn b o kind aw sv 1) un=some (CG prog nn b o kind aw sv 2):=by intro a b o kind aw sv;kernel_rfl
theorem B0:∀(a:Fl) b o kind aw sv,aF prog a [0,2,3,4,5,47] (DS prog nn b o kind aw sv 2) un=some (CG prog nn b o kind aw sv 3):=by intro a b o kind aw sv;kernel_rfl
theorem B1:∀(a:Fl) b o kind aw sv,aF prog a [0,2,3,4,5,47] (DS prog nn b o kind aw sv 3) un=some (CG prog nn b o kind aw sv 4):=by intro a b o kind aw sv;kernel_rfl
theorem EE:∀(a:Fl) b o kind K aw sv it,aF prog a [0] (zn prog nn b o kind false K false aw sv it) tt=some (Jb prog nn b o kind):=by intro a b o kind K aw sv it;cases K<;>kernel_rfl
theorem B2:∀(a:Fl) b o kind L K S aw sv it,(L||S)=true->aF prog {a with wz:=true} [0,3] (zn prog nn b o kind L K S aw sv it) tt=some (T1 prog nn b o kind sv):=by intro a b o kind L K S aw sv it h;cases L<;>cases K<;>cases S<;>first|exact absurd h (by decide)|kernel_rfl
theorem B3:∀(a:Fl) b o kind L K S aw sv it,(L||S)=true->aF prog {a with wz:=false} [0,2,3,91] (zn prog nn b o kind L K S aw sv it) tt=some (PK prog nn b o kind sv):=by intro a b o kind L K S aw sv it h;cases L<;>cases K<;>cases S<;>first|exact absurd h (by decide)|kernel_rfl
theorem EF:∀(a:Fl) b o kind L K S aw sv it,aF prog a [0,2,3,4,5,133] (zn prog nn b o kind L K S aw sv it) ff=some (LL prog nn b o kind aw sv it):=by intro a b o kind L K S aw sv it;kernel_rfl
theorem EG:∀(a:Fl) b o kind sv,aF prog a [0,2,3,91] (T1 prog nn b o kind sv) .DH=some (PK prog nn b o kind sv):=by intro a b o kind sv;kernel_rfl
theorem B4:∀(a:Fl) b o kind,aF prog a [0,2,3,103] (PK prog nn b o kind true) un=some (UP prog nn b o kind true):=by intro a b o kind;kernel_rfl
theorem B5:∀(a:Fl) b o kind,aF prog a [0,2,95] (PK prog nn b o kind false) un=some (TQ prog nn b o kind):=by intro a b o kind;kernel_rfl
theorem EH:∀(a:Fl) b o kind x,aF prog {a with tb:=x} [0,2,3,103] (TQ prog nn b o kind) .now=some (UP prog nn b o kind x):=by intro a b o kind x;cases x<;>kernel_rfl
theorem EI:∀(a:Fl) b o kind sv n1,aF prog {a with n0:=false,n1:=n1} [0,128,129] (UP prog nn b o kind sv) (.word false false true 0)=some (AD prog nn b o kind (if !sv||n1 then -11 else -7)):=by intro a b o kind sv n1;cases sv<;>cases n1<;>kernel_rfl
theorem EJ:∀(a:Fl) b o kind L K sv,na prog a [0,2,3,4,5,6] (UP prog nn b o kind sv) (.word L K false 0)=some (HD prog nn b o kind L K false true sv 0):=by intro a b o kind L K sv;cases L<;>cases K<;>kernel_rfl
theorem EK:∀(a:Fl) b o kind d,aF prog a [0] (AD prog nn b o kind d) .bz=some (Jb prog nn b o kind):=by intro a b o kind d;kernel_rfl
theorem EL:∀(a:Fl) b o kind,aF prog a [136] (Jb prog nn b o kind) un=some (M5 prog nn b o kind):=by intro a b o kind;kernel_rfl
theorem EM:∀(a:Fl) b o kind,aF prog a [137] (M5 prog nn b o kind) (pt b o)=some (K4 prog nn b o kind):=by intro a b o kind;kernel_rfl
theorem EN:∀(a:Fl) b o kind,aF prog a [] (K4 prog nn b o kind) un=some (BK nn kind):=by intro a b o kind;kernel_rfl
theorem HF:∀(a:Fl) b o kind,aF prog a [0,7] (U0 prog nn b o kind) .bz=some (M6 prog nn b o kind):=by intro a b o kind;kernel_rfl
theorem HG:∀(a:Fl) b o kind,aF prog a [0,8] (M6 prog nn b o kind) (pt b o)=some (UR prog nn b o kind):=by intro a b o kind;kernel_rfl
theorem HH:∀(a:Fl) b o kind,aF prog a [0] (UR prog nn b o kind) un=some (UD prog nn b o kind):=by intro a b o kind;kernel_rfl
theorem HI:∀(a:Fl) b o kind,aF prog a [0,13] (UD prog nn b o kind) un=some (oQ prog nn b o kind):=by intro a b o kind;kernel_rfl
theorem HJ:∀(a:Fl) b o kind n0 K,(n0||K)=true->aF prog {a with n0:=n0} [] (oQ prog nn b o kind) (.word false K false 0)=some (UE prog nn b o kind):=by intro a b o kind n0 K h;cases n0<;>cases K<;>first|exact absurd h (by decide)|kernel_rfl
theorem EO:∀(a:Fl) b o kind n0 K,aF prog {a with n0:=n0} [41] (oQ prog nn b o kind) (.word false K true 0)=some (G9 prog nn b o kind):=by intro a b o kind n0 K;cases n0<;>cases K<;>kernel_rfl
theorem EP:∀(a:Fl) b o kind,aF prog {a with n0:=false} [0,27,28,29] (oQ prog nn b o kind) (.word false false false 0)=some (UC prog nn b o kind):=by intro a b o kind;kernel_rfl
theorem EQ:∀(a:Fl) b o kind,aF prog a [33] (UC prog nn b o kind) tt=some (G7 prog nn b o kind):=by intro a b o kind;kernel_rfl
theorem ER:∀(a:Fl) b o kind,aF prog a [0,37] (UC prog nn b o kind) ff=some (Jc prog nn b o kind):=by intro a b o kind;kernel_rfl
theorem HK:∀(a:Fl) b o kind n0 L K S,(n0||L||K||S)=true->aF prog {a with n0:=n0} [] (Jc prog nn b o kind) (.word L K S 0)=some (UE prog nn b o kind):=by intro a b o kind n0 L K S h;cases n0<;>cases L<;>cases K<;>cases S<;>first|exact absurd h (by decide)|kernel_rfl
theorem ES:∀(a:Fl) b o kind,aF prog {a with n0:=false} [0,27,28,29] (Jc prog nn b o kind) (.word false false false 0)=some (UC prog nn b o kind):=by intro a b o kind;kernel_rfl
theorem HL:∀(a:Fl) b o kind,aF prog a [] (G7 prog nn b o kind) un=some (UE prog nn b o kind):=by intro a b o kind;kernel_rfl
theorem HM:∀(a:Fl) b o kind,aF prog a [] (G9 prog nn b o kind) un=some (UE prog nn b o kind):=by intro a b o kind;kernel_rfl
theorem ET:∀(a:Fl) b o kind,aF prog a [] (UE prog nn b o kind) un=some (NV nn kind):=by intro a b o kind;kernel_rfl
theorem HN:∀b o kind,aM (LD prog nn b o kind).1=some (nn.gY,[])/\(LD prog nn b o kind).1.kind=.normal:=by intro b o kind;exact⟨by kernel_rfl,by kernel_rfl⟩
theorem HO:∀b o kind,aM (qN prog nn b o kind).1=some (nn.jh,[pt b o,i32 0,i32 1]):=by intro b o kind;kernel_rfl
theorem HP:∀b o kind,aM (K1 prog nn b o kind).1=some (nn.en,[]):=by intro b o kind;kernel_rfl
theorem HQ:∀b o kind,jn (M4 prog nn b o kind).1=some (nn.tM,nn.tU,pt b o):=by intro b o kind;kernel_rfl
theorem HR:∀b o kind,aM (K2 prog nn b o kind).1=some (nn.acq,[pt b o]):=by intro b o kind;kernel_rfl
theorem EU:∀b o kind aw sv it,oa (LJ prog nn b o kind aw sv it).1=some (nn.tI,pt b o):=by intro b o kind aw sv it;kernel_rfl
theorem EV:∀b o kind aw sv it,oa (CG prog nn b o kind aw sv it).1=some (nn.tI,pt b o):=by intro b o kind aw sv it;kernel_rfl
theorem EW:∀b o kind aw sv it,oa (LL prog nn b o kind aw sv it).1=some (nn.tI,pt b o):=by intro b o kind aw sv it;kernel_rfl
theorem HS:∀b o kind K aw sv it,aM (SQ prog nn b o kind K aw sv it).1=some (nn.DK,[i64 it]):=by intro b o kind K aw sv it;kernel_rfl
theorem HT:∀b o kind it,aM (SW prog nn b o kind it).1=some (nn.jh,[pt b o,.word true false false 0,.word true true false 0]):=by intro b o kind it;kernel_rfl
theorem HU:∀b o kind aw sv it,aM (DS prog nn b o kind aw sv it).1=some (nn.qM,[]):=by intro b o kind aw sv it;kernel_rfl
theorem EX:∀b o kind L K S aw sv it,aM (zn prog nn b o kind L K S aw sv it).1=some (nn.jh,[pt b o,.word L K S 0,JA L K S aw sv]):=by intro b o kind L K S aw sv it;kernel_rfl
theorem EY:∀b o kind sv,aM (T1 prog nn b o kind sv).1=some (nn.nano,[]):=by intro b o kind sv;kernel_rfl
theorem EZ:∀b o kind sv,aM (PK prog nn b o kind sv).1=some (nn.Bo,[pt b (o+1),.bz,i64 2]):=by intro b o kind sv;kernel_rfl
theorem E0:∀b o kind,aM (TQ prog nn b o kind).1=some (nn.nano,[]):=by intro b o kind;kernel_rfl
theorem E1:∀b o kind sv,oa (UP prog nn b o kind sv).1=some (nn.tI,pt b o):=by intro b o kind sv;kernel_rfl
theorem E2:∀b o kind d,aM (AD prog nn b o kind d).1=some (nn.add,[pt b o,i32 d]):=by intro b o kind d;kernel_rfl
theorem E3:∀b o kind,aM (Jb prog nn b o kind).1=some (nn.en,[]):=by intro b o kind;kernel_rfl
theorem E4:∀b o kind,jn (M5 prog nn b o kind).1=some (nn.tM,nn.tU,pt b o):=by intro b o kind;kernel_rfl
theorem E5:∀b o kind,aM (K4 prog nn b o kind).1=some (nn.acq,[pt b o]):=by intro b o kind;kernel_rfl
theorem E6:∀b o kind,oa (U0 prog nn b o kind).1=some (nn.tI,pt b o)/\(U0 prog nn b o kind).1.kind=.normal/\(U0 prog nn b o kind).1.fn=nn.sM:=by intro b o kind;exact⟨by kernel_rfl,by kernel_rfl,by kernel_rfl⟩
theorem E7:∀b o kind,jn (M6 prog nn b o kind).1=some (nn.tM,nn.tU,pt b o):=by intro b o kind;kernel_rfl
theorem E8:∀b o kind,aM (UR prog nn b o kind).1=some (nn.rel,[pt b o]):=by intro b o kind;kernel_rfl
theorem E9:∀b o kind,aM (UD prog nn b o kind).1=some (nn.gY,[]):=by intro b o kind;kernel_rfl
theorem Fa:∀b o kind,aM (oQ prog nn b o kind).1=some (nn.add,[pt b o,i32 (-1)]):=by intro b o kind;kernel_rfl
theorem Fb:∀b o kind,aM (UC prog nn b o kind).1=some (nn.jh,[pt b o,wf,.word false true false (-1)]):=by intro b o kind;kernel_rfl
theorem Fc:∀b o kind,aM (G7 prog nn b o kind).1=some (nn.mf,[pt b (o+1),ff,i64 2]):=by intro b o kind;kernel_rfl
theorem Fd:∀b o kind,aM (G9 prog nn b o kind).1=some (nn.mf,[pt b (o+1),tt,i64 2]):=by intro b o kind;kernel_rfl
theorem Fe:∀b o kind,oa (Jc prog nn b o kind).1=some (nn.tI,pt b o):=by intro b o kind;kernel_rfl
theorem Ff:∀b o kind,aM (UE prog nn b o kind).1=some (nn.en,[]):=by intro b o kind;kernel_rfl
theorem HV:∀b o kind,(NS prog nn b o kind).all (·.env.all plain)=true/\(LD prog nn b o kind).1.env.all plain=true/\(LD prog nn b o kind).2=NS prog nn b o kind:=by intro b o kind;exact⟨by kernel_rfl,by kernel_rfl,by kernel_rfl⟩
theorem HW:∀b o kind,(Ph prog nn b o kind).all (·.env.all plain)=true:=by intro b o kind;kernel_rfl
theorem HX:∀b o kind,(NU prog nn b o kind).all (·.env.all plain)=true/\(U0 prog nn b o kind).1.env.all plain=true/\(U0 prog nn b o kind).2=NU prog nn b o kind:=by intro b o kind;exact⟨by kernel_rfl,by kernel_rfl,by kernel_rfl⟩
theorem HY:∀b o kind,(PE prog nn b o kind).all (·.env.all plain)=true:=by intro b o kind;kernel_rfl
theorem uS:gu prog nn where
 e1:=Hw
 e2:=Hx
 e3:=Hy
 e4:=Hz
 e5:=HA
 e6:=HB
 QK:=Ey
 QL:=Ez
 QM:=EA
 e8:=HC
 e9:=HE
 ir:=EB
 NW:=BX
 lU:=EC
 rP:=ED
 Bq:=BY
 Br:=BZ
 NX:=B0
 NY:=B1
 QN:=EE
 NZ:=B2
 N1:=B3
 QO:=EF
 QP:=EG
 N2:=B4
 N3:=B5
 M7:=EH
 QQ:=EI
 QR:=EJ
 QS:=EK
 QT:=EL
 QU:=EM
 QV:=EN
 u1:=HF
 u2:=HG
 u3:=HH
 u4:=HI
 u5:=HJ
 QW:=EO
 QX:=EP
 QY:=EQ
 QZ:=ER
 u7:=HK
 Q0:=ES
 u8:=HL
 u9:=HM
 Q1:=ET
 o1:=HN
 o2:=HO
 o3:=HP
 o4:=HQ
 o5:=HR
 Q2:=EU
 Q3:=EV
 Q4:=EW
 o7:=HS
 o8:=HT
 o9:=HU
 PF:=EX
 Q5:=EY
 PG:=EZ
 Q6:=E0
 Q7:=E1
 Q8:=E2
 Q9:=E3
 Q':=E4
 Ra:=E5
 PH:=E6
 Rb:=E7
 Rc:=E8
 Rd:=E9
 PI:=Fa
 PJ:=Fb
 PL:=Fc
 PM:=Fd
 Re:=Fe
 Rf:=Ff
 p1:=HV
 p2:=HW
 p3:=HX
 p4:=HY
theorem uT:gx prog nn where
 gY:=⟨_,rfl,rfl,rfl,rfl,rfl⟩
 en:=⟨_,rfl,rfl,rfl,rfl,rfl⟩
 acq:=⟨_,rfl,rfl,rfl,rfl,rfl⟩
 rel:=⟨_,rfl,rfl,rfl,rfl,rfl⟩
 jh:=⟨_,rfl,rfl,rfl,rfl,rfl⟩
 add:=⟨_,rfl,rfl,rfl,rfl,rfl⟩
 DK:=⟨_,rfl,rfl,rfl,rfl,rfl⟩
 qM:=⟨_,rfl,rfl,rfl,rfl,rfl⟩
 nano:=⟨_,rfl,rfl,rfl,rfl,rfl⟩
 Gw:=⟨_,rfl,rfl⟩
 Bo:=⟨_,rfl,rfl,rfl,rfl,rfl⟩
 mf:=⟨_,rfl,rfl,rfl,rfl,rfl⟩
 N4:=by kernel_rfl
 Rg:=⟨_,rfl,rfl,rfl⟩
 nS:=⟨_,rfl,rfl⟩
 nU:=⟨_,rfl,rfl⟩
 nV:=⟨_,rfl,rfl⟩
end Go.Proofs.YtldmpfccgajobaaGreatDoor
namespace Go.Proofs.YtldmpfccgajobaaGreatDoor
open Tryz (prog)
open Go.bG Go.Conc
set_option maxHeartbeats 1000000
set_option maxRecDepth 4000
variable{m:Mo}{σ:aa}{KF:eI->aa->Prop}
def jb(f:Fr)(x:Int):Bool:=decide (kU f (bS x)=0)
def eU(f:Fr)(l:List (Int × AV)):Prop:=∀n a,gn l n=some a->a=bool (jb f n)
theorem OY:DC prog 139 151 4 5 .u8:=.of (by kernel_rfl) (by kernel_rfl) (by kernel_rfl) (by kernel_rfl)
theorem Ke(f:Fr)(l:List Int):kU f l=0\/kU f l=1\/kU f l=2\/kU f l=3:=by
 unfold kU;split
 . exact .inr (.inl rfl)
 split
 . exact .inr (.inr (.inl rfl))
 split
 . exact .inr (.inr (.inr rfl))
 . exact .inl rfl
theorem Am{f:Fr}{l:List Int}(h:kU f l≠0):∃d a,OX (kU f l)=.mS d a:=by
 rcases Ke f l with e|e|e|e
 . exact absurd e h
 all_goals rw[e];exact⟨_,_,rfl⟩
theorem Fg{f:Fr}{l:List (Int × AV)}{x n:Int}{a:AV}(b:eU f l)(h:gn (l++[(x,bool (jb f x))]) n=some a):a=bool (jb f n):=by
 unfold gn at h;rw[List.find?_append]at h;cases e:l.find? (λp=>n==p.1)with
 |some p=>rw[e]at h;simp only[Option.some_or,Option.map_some,Option.some.injEq]at h;subst h;exact b n p.2 (by unfold gn;rw[e];rfl)
 | none=>
   rw[e]at h;simp only[Option.none_or,List.find?_cons,List.find?_nil]at h;split at h
   . next q=>simp only[Option.map_some,Option.some.injEq]at h;rw[beq_iff_eq]at q;subst h;rw[q]
   . cases h
theorem Ma{b mb:Nat}{f:Fr}{x:Int}{Un:aa->Prop}{Ld:aa->List (Int × AV)->Prop}(o:FL prog m nn b 6 mb .u8 (eU f) Un Ld)(I:f.Good)(J:Je f (bS x))(v:(bS x).length<20)(K:Un σ)(h:∀σ',Un σ'->lI b mb σ σ'->KF (.val (bool (jb f x))) σ'):ar prog m 116 [iL b mb f 0,uR x] σ KF:=by
 refine fs OJ 2 Tryz.func116 rfl rfl (by rfl) (by kernel_rfl) ?_;simp[Tryz.f116];refine cf Tryz.func148 rfl (o.lock (wE _ _ _ _) K λL l s w p q=>?_);refine rn ?_;simp;refine ab.defer rfl rfl rfl rfl (by simp) rfl ?_;refine rn ?_;simp;refine Bg lay OY Rw rfl rfl SD rfl rfl (o.map s) ?_;refine pg ?_;simp
 have i:∀(env:Env) (g:aa) z,env 4=bool (jb f x)->Ld g z->eU f z->(∀c,c≠b->c≠mb->g c=σ c)->tx prog m (.func 149) [] [AV.kp b [qb f.aq,rows f.roads,int f.bh,int f.gE,int f.cS,int f.most,.lit (.int .i32 0),.lit (.int .u32 0),.map mb] [6,7] 6] .ret g (λA σ'=>I9 lay m [ResultVar.tmp 4] env (lZ KF) [] A σ'):=λenv g z M B C D=>by
  refine tx.func Tryz.func149 rfl rfl (o.unlock (wE _ _ _ _) B C λE F G=>?_);refine⟨[env 4],rfl,.done ?_⟩;rw[show oneOf [env 4]=env 4 from rfl,M];refine h E F λc y H t j=>?_
  have yF:c≠mb:=λe=>by
   subst e;rcases j with j|j
   . exact j rfl
   . have:=q y H
     rw[j]at this;cases this
  rw[G c t yF,D c t yF];exact H
 cases r:gn l x with
 |some a=>have N:=w x a r;subst N;simp;refine rn ?_;simp;exact i _ _ _ (by simp) s w p
 | none=>
   simp;refine rn ?_;simp;refine cf Tryz.func150 rfl (Hr ?_);refine rn ?_;simp;refine cf Tryz.func70 rfl (Hv I J v ?_);refine rn ?_;simp;have k:decide (kU f (bS x)=0)=jb f x:=rfl;refine mZ lay rfl Oy rfl (isNil:=jb f x) ?_ (.inl ⟨rfl,rfl⟩) ?_
   . by_cases u:kU f (bS x)=0
     . left
       refine⟨?_,by rw[<-k];simp[u]⟩;simp[u];rfl
     . right
       obtain⟨d,a,e⟩:=Am u;refine⟨⟨d,a,?_⟩,by rw[<-k];simp[u]⟩;rw[<-e];simp
   refine rn ?_;simp;refine vB lay OY Rw rfl rfl rfl rfl rfl (o.map s) r ?_;refine pg ?_;simp;refine rn ?_;simp;refine i _ _ _ (by simp) (o.put s) (λn a O=>?_) (λc t j=>by rw[aa.aj _ _ j];exact p c t j);exact Fg w (by simpa using O)
def dI(f:Fr)(begun:List Int):Nat->List Int->Int->List Int->List (List Int)
 |0,cG,_,_=>[cG]
 | fuel+1,cG,many,a=>(List.range (min (many+1) f.most).toNat).flatMap λk:Nat=>
    if cG.length<begun.length/\begun.getD cG.length 0≠(k:Int)then[]
    else if jb f (bw (a.getD k 0) cG.length)=true then dI f begun fuel (cG++[(k:Int)]) (max many ((k:Int)+1)) (a.set k (bw (a.getD k 0) cG.length))else[]
def au(f:Fr)(begun:List Int):List (List Int):=dI f begun f.aq.length [] 0 [0,0,0,0,0,0]
def Mv(b mb:Nat)(F a:Nat->Prop)(σ σ':aa):Prop:=∀c x,σ c=some x -> ¬F c->c≠b->(c≠mb\/x.plain=true)->σ' c=some x/\¬a c
theorem Mv.refl(b mb:Nat)(F:Nat->Prop)(σ:aa):Mv b mb F F σ σ:=λ_ _ h a _ _=>⟨h,a⟩
theorem Mv.trans{b mb:Nat}{F g d:Nat->Prop}{σ σ' a:aa}(h:Mv b mb F g σ σ')(k:Mv b mb g d σ' a):Mv b mb F d σ a:=λc x i j e f=>k c x (h c x i j e f).1 (h c x i j e f).2 e f
structure Mb(m:Mo)(y:AV)(W:List (List Int))(I:Nat->(Nat->Prop)->aa->Prop)(E:(Nat->Prop)->aa->Prop):Prop where
 step:∀(k:Nat) (F:Nat->Prop) (σ:aa) (KF:eI->aa->Prop) (hk:k<W.length),I k F σ->(∀F' σ',CB F F' σ σ'->I (k+1) F' σ'->KF (.val (bool true)) σ')->(∀F' σ',CB F F' σ σ'->E F' σ'->KF (.val (bool false)) σ')->dl prog m y [ints W[k]] σ KF
 frame:∀(k:Nat) (F:Nat->Prop) (σ σ':aa),(∀c,F c->σ' c=σ c)->I k F σ->I k F σ'
 Mc:∀(F:Nat->Prop) (σ σ':aa),(∀c,F c->σ' c=σ c)->E F σ->E F σ'
 Ll:∀(k:Nat) (F:Nat->Prop) (σ:aa) (c:Nat),I k F σ->F c->∃x,σ c=some x/\x.plain=true
theorem An{b mb:Nat}{F a:Nat->Prop}{σ σ':aa}(h:CB F a σ σ'):Mv b mb F a σ σ':=λc x d e _ _=>h c x e d
theorem nr{b mb:Nat}{GI:List (Int × AV)->Prop}{Un:aa->Prop}{Ld:aa->List (Int × AV)->Prop}(f:FL prog m nn b 6 mb .u8 GI Un Ld){d:Nat}{y:ji}(g:Un σ)(hd:∀x,σ d=some x->x.plain=true):Un (σ.set d y):=f.un (λc _ ⟨x,h,a⟩=>aa.aj _ _ (λe=>by subst e;rw[hd x h]at a;cases a)) g
theorem uU{b mb:Nat}{GI:List (Int × AV)->Prop}{Un:aa->Prop}{Ld:aa->List (Int × AV)->Prop}(g:FL prog m nn b 6 mb .u8 GI Un Ld){F h:Nat->Prop}{σ':aa}(i:Un σ)(j:CB F h σ σ')(hd:∀c,F c->∃x,σ c=some x/\x.plain=true):Un σ':=
 g.un (λc _ ⟨x,a,e⟩=>by
  have d:¬F c:=λd=>by obtain⟨l,f,k⟩:=hd c d;rw[a]at f;cases f;rw[k]at e;cases e
  rw[(j c x d a).1,a]) i
abbrev uV(a y:AV)(begun:List Int)(cp:Nat):AV:=.fn (.func 117) [] [.cp a 0,.cp y 0,.cp (ints begun) 0,.ref cp 0]
abbrev aV(a:AV)(c4 cg:Nat):AV:=.fn (.func 113) [] [.ref c4 0,.cp a 0,.ref cg 0]
structure WS(b mb:Nat)(f:Fr)(y:AV)(begun:List Int)(c4 cg cp:Nat)(hs:List Int)(F:Nat->Prop)(σ:aa):Prop where
 arr:σ c4=some (.cells (hs.map u8))
 OZ:σ cg=some (.cells [uV (iL b mb f 0) y begun cp])
 pt:σ cp=some (.cells [aV (iL b mb f 0) c4 cg])
 out:¬F c4/\¬F cg/\¬F cp
 ne:c4≠cg/\c4≠cp
theorem WS.mv{b mb:Nat}{f:Fr}{y:AV}{begun:List Int}{c4 cg cp:Nat}{d:List Int}{F g:Nat->Prop}{σ σ':aa}(h:WS b mb f y begun c4 cg cp d F σ)(hb:∃x,σ b=some x/\x.plain=false)(a:Mv b mb F g σ σ'):WS b mb f y begun c4 cg cp d g σ':=by
 obtain⟨x,j,k⟩:=hb;have ne:∀c l,σ c=some (.cells l)->c≠b:=λc l i e=>by subst e;rw[j]at i;cases i;cases k
 obtain⟨m,n⟩:=a c4 _ h.arr h.out.1 (ne _ _ h.arr) (.inr rfl);obtain⟨o,p⟩:=a cg _ h.OZ h.out.2.1 (ne _ _ h.OZ) (.inr rfl);obtain⟨q,r⟩:=a cp _ h.pt h.out.2.2 (ne _ _ h.pt) (.inr rfl);exact⟨m,o,q,⟨n,p,r⟩,h.ne⟩
structure Hs(f:Fr)(n:Nat)(hs:List Int):Prop where
 sH:hs.length=6
 bits:∀x∈hs,∀e∈bS x,e<n
 small:∀x∈hs,0<=x/\x<64
section
variable{b mb:Nat}{f:Fr}{begun:List Int}{y:AV}{W:List (List Int)}{I:Nat->(Nat->Prop)->aa->Prop}{E:(Nat->Prop)->aa->Prop}{Un:aa->Prop}{Ld:aa->List (Int × AV)->Prop}{c4 cg cp:Nat}
def Lm(b mb:Nat)(Un:aa->Prop)(I:Nat->(Nat->Prop)->aa->Prop)(E:(Nat->Prop)->aa->Prop)(a n:Nat)(F:Nat->Prop)(σ:aa)(KF:eI->aa->Prop):Prop:=(∀d c,Mv b mb F d σ c->Un c->I (a+n) d c->KF (.val (bool true)) c)/\(∀d c,Mv b mb F d σ c->Un c->E d c->KF (.val (bool false)) c)
def HZ(m:Mo)(b mb:Nat)(f:Fr)(begun:List Int)(y:AV)(W:List (List Int))(I:Nat->(Nat->Prop)->aa->Prop)(E:(Nat->Prop)->aa->Prop)(Un:aa->Prop)(c4 cg cp:Nat)(fuel:Nat):Prop:=
 ∀ (cG:List Int) (many:Int) (a:List Int) (sp:bV) (F:Nat->Prop) (σ:aa) (pre post:List (List Int)) (KF:eI->aa->Prop),cG.length+fuel=f.aq.length->0<=many/\many<=6->Hs f cG.length a->WS b mb f y begun c4 cg cp a F σ->Un σ ->
   W=pre++dI f begun fuel cG many a++post->I pre.length F σ->Lm b mb Un I E pre.length (dI f begun fuel cG many a).length F σ KF ->
   ar prog m 117 [.sl 1 (cG.map int) sp,int many,.cp (iL b mb f 0) 0,.cp y 0,.cp (ints begun) 0,.ref cp 0] σ KF
theorem Kf:∀x:Fin 64,∀n:Fin 6,(0<=bw (x.val:Int) (n.val:Int)/\bw (x.val:Int) (n.val:Int)<64)/\(∀e∈bS (bw (x.val:Int) (n.val:Int)),e=(n.val:Int)\/e∈bS (x.val:Int))/\(n.val:Int)∈bS (bw (x.val:Int) (n.val:Int)):=by decide +kernel
theorem H1{x:Int}{n:Nat}(c:0<=x/\x<64)(a:n<6):(0<=bw x n/\bw x n<64)/\(∀e∈bS (bw x n),e=(n:Int)\/e∈bS x)/\(n:Int)∈bS (bw x n):=by
 have:=Kf ⟨x.toNat,by omega⟩ ⟨n,a⟩;have b:(x.toNat:Int)=x:=by omega
 simpa only[b]using this
theorem H2{x e:Int}(h:e∈bS x):0<=e/\e<6:=by unfold bS at h;obtain⟨a,_⟩:=List.mem_filter.1 h;obtain⟨i,b,rfl⟩:=List.mem_map.1 a;have:=List.mem_range.1 b;omega
theorem Ao(x:Int):(bS x).length<20:=by unfold bS;refine Nat.lt_of_le_of_lt (List.length_filter_le _ _) ?_;rw[List.length_map,List.length_range];omega
theorem Hs.set{n:Nat}{b:List Int}(h:Hs f n b)(g:n<6){k:Nat}(c:k<b.length):Hs f (n+1) (b.set k (bw b[k] n)):=by
 have d:=H1 (h.small _ (List.getElem_mem c)) g;refine⟨by rw[List.length_set];exact h.sH,λx a e he=>?_,λx a=>?_⟩
 . rcases List.mem_or_eq_of_mem_set a with a|rfl
   . have:=h.bits x a e he;omega
   . rcases d.2.1 e he with rfl|he
     . omega
     . have:=h.bits _ (List.getElem_mem c) e he;omega
 . rcases List.mem_or_eq_of_mem_set a with a|rfl
   . exact h.small x a
   . exact d.1
theorem Hs.rR{n:Nat}{a:List Int}(h:Hs f n a)(d:n<f.aq.length)(g:f.aq.length<=6){k:Nat}(b:k<a.length):Je f (bS (bw a[k] n)):=by
 have c:=H1 (h.small _ (List.getElem_mem b)) (n:=n) (by omega);refine⟨λe he=>⟨(H2 he).1,?_⟩,λq=>?_,by have:=Ao (bw a[k] n);omega⟩
 . rcases c.2.1 e he with rfl|he
   . omega
   . have:=h.bits _ (List.getElem_mem b) e he;omega
 . have:=c.2.2
   rw[q]at this;cases this
theorem Kg{d:Nat}{k:Nat}{x:Int}{l:List Int}(i:k<6)(e:l.length=6)(hd:σ d=some (.cells [u8 x]))(g:σ c4=some (.cells (l.map u8)))(h:KF (.val (.cq [])) (σ.set c4 (.cells ((l.set k x).map u8)))):ar prog m 114 [.ref d 0,.ref c4 0,.cp (int k) 0] σ KF:=by
 have a:(k:Int)<6:=by omega
 have b:k<=5:=by omega
 have c:k<l.length:=by omega
 refine fs [] 3 Tryz.func114 rfl rfl (by rfl) (by kernel_rfl) ?_;simp[Tryz.f114,hd,g,a,e,b];rw[tL (by simpa using c),<-List.map_set (f:=u8)];exact .done h
theorem Me(R : FL prog m nn b 6 mb .u8 (eU f) Un Ld)(hf:f.Good)(e7:begun.length<1152921504606846976)(Y:Mb m y W I E){fuel:Nat}(hG:HZ m b mb f begun y W I E Un c4 cg cp fuel){cG:List Int}{many:Int}{k:Nat}{n:List Int}{sp:bV}{F:Nat->Prop}{pre post:List (List Int)}(hlen:cG.length+(fuel+1)=f.aq.length)(bA:0<=many/\many<=6)(hk:k<6)
 (hh:Hs f cG.length n) (B:WS b mb f y begun c4 cg cp n F σ) (hu:Un σ){L:List (List Int)}(X:L=if jb f (bw (n.getD k 0) cG.length)=true then dI f begun fuel (cG++[(k:Int)]) (max many ((k:Int)+1)) (n.set k (bw (n.getD k 0) cG.length))else[]) (hW:W=pre++L++post)
 (hI:I pre.length F σ) (hR:Lm b mb Un I E pre.length L.length F σ KF):ar prog m 113 [.sl 1 (cG.map int) sp,int many,int k,.ref c4 0,.cp (iL b mb f 0) 0,.ref cg 0] σ KF:=by
 have h6:=hf.sH;have C:k<n.length:=by rw[hh.sH];exact hk
 have bB:n.getD k 0=n[k]:=by simp[List.getD_eq_getElem?_getD,C]
 rw[bB]at X;have Z:(k:Int)<6:=by omega
 have o:=B.arr;have a7:=hh.sH;have a8:k<=5:=by omega
 have e1:List.take 1 (List.drop k (List.map u8 n))=[u8 n[k]]:=by rw[<-List.map_drop,List.drop_eq_getElem_cons C];rfl
 refine fs OH 6 Tryz.func113 rfl rfl (by rfl) (by kernel_rfl) ?_
 simp[Tryz.f113,o,Z,a7,a8,e1];refine cZ.intro λd hd=>?_
 have d4:d≠c4:=λe=>by subst e;rw[o]at hd;cases hd
 have b0:=Ne.symm d4;simp;refine ab.defer rfl rfl rfl rfl (by simp) rfl ?_
 refine rn ?_;simp[Z];obtain⟨z,hz⟩:∃z,z=bw n[k] cG.length:=⟨_,rfl⟩;obtain⟨i,q⟩:∃i,i=n.set k z:=⟨_,rfl⟩;have c5:k<i.length:=by rw[q,List.length_set];exact C
 have b1:i[k]=z:=by subst q;simp
 have e2:List.take 1 (List.drop k (List.map u8 i))=[u8 z]:=by rw[<-List.map_drop,List.drop_eq_getElem_cons c5,b1];rfl
 have e3:aJ (List.map u8 n) k [u8 z]=List.map u8 i:=by rw[tL (by simpa using C),q,List.map_set]
 have S:i.length=6:=by rw[q,List.length_set];exact a7
 refine cf Tryz.func115 rfl (Kb (by omega) ?_)
 rw[<-hz];refine pg ?_;simp[b0,aa.aj,o,a7,a8,e3];refine rn ?_;simp[Z,S,a8,e2];have c6:cG.length<6:=by omega
 have c7:cG.length<f.aq.length:=by omega
 have c8:Je f (bS z):=by rw[hz];exact hh.rR c7 h6 C
 obtain⟨xb,N,b2⟩:=R.L2 hu;have cb:∀c l,σ c=some (.cells l)->c≠b:=λc l w e=>by subst e;rw[N]at w;cases w;cases b2
 have db:d≠b:=λe=>by subst e;rw[hd]at N;cases N
 have b3:Un ((σ.set d (.cells [u8 n[k]])).set c4 (.cells (i.map u8))):=nr R (nr R hu (λx u=>by rw[hd]at u;cases u)) (λx u=>by rw[aa.aj _ _ b0,o]at u;cases u;rfl)
 have b4:((σ.set d (.cells [u8 n[k]])).set c4 (.cells (i.map u8))) c4=some (.cells (i.map u8)):=aa.an _ _ _;have b5:((σ.set d (.cells [u8 n[k]])).set c4 (.cells (i.map u8))) d=some (.cells [u8 n[k]]):=by rw[aa.aj _ _ d4,aa.an]
 have D:∀c,c≠d->c≠c4->((σ.set d (.cells [u8 n[k]])).set c4 (.cells (i.map u8))) c=σ c:=λc p J=>by rw[aa.aj _ _ J,aa.aj _ _ p]
 have b6:¬F d:=λhF=>by obtain⟨x,u,_⟩:=Y.Ll _ _ _ _ hI hF;rw[hd]at u;cases u
 have a9:I pre.length F ((σ.set d (.cells [u8 n[k]])).set c4 (.cells (i.map u8))):=Y.frame _ _ _ _ (λc w=>D c (λe=>b6 (e ▸ w)) (λe=>B.out.1 (e ▸ w))) hI
 generalize (σ.set d (.cells [u8 n[k]])).set c4 (.cells (i.map u8))=ea at b3 b4 b5 D a9;refine cf Tryz.func116 rfl (Ma R hf c8 (Ao _) b3 λr b7 s=>?_)
 have G:r c4=some (.cells (i.map u8)):=s _ _ b4 (cb _ _ o) (.inr rfl);have ad:r d=some (.cells [u8 n[k]]):=s _ _ b5 db (.inr rfl);have gd:cg≠d:=λe=>by have:=B.OZ;rw[e,hd]at this;cases this
 have O:r cg=some (.cells [uV (iL b mb f 0) y begun cp]):=s _ _ (by rw[D cg gd (Ne.symm B.ne.1)];exact B.OZ) (cb _ _ B.OZ) (.inr rfl)
 have al:i.set k n[k]=n:=by rw[q];simp
 have T:∀(env:Env) (j:aa) (v:Bool),env 9=bool v->j d=some (.cells [u8 n[k]])->j c4=some (.cells (i.map u8))->KF (.val (bool v)) (j.set c4 (.cells (n.map u8)))->tx prog m (.func 114) [.ref d 0,.ref c4 0,.cp (int k) 0] [] .ret j (λca g=>I9 lay m [ResultVar.tmp 9] env (lZ KF) [] ca g):=λenv j v he cl cm hK=>by
  refine tx.func Tryz.func114 rfl rfl (Kg hk S cl cm ?_);refine⟨[env 9],rfl,.done ?_⟩;rw[show oneOf [env 9]=env 9 from rfl,he,al]
  exact hK
 have b8:Mv b mb F F σ (r.set c4 (.cells (n.map u8))):=λc x p J K h4=>by
  refine⟨?_,J⟩
  by_cases e:c=c4
  . subst e;rw[aa.an,<-o];exact p
  . have e':c≠d:=λe'=>by subst e';rw[hd]at p;cases p
    rw[aa.aj _ _ e];exact s c x (by rw[D c e' e];exact p) K h4
 have av:I pre.length F r:=Y.frame _ _ _ _ (λc w=>by
  obtain⟨x,p,J⟩:=Y.Ll _ _ _ _ a9 w
  have cv:c≠b:=λe=>by subst e;obtain⟨x',K,h4⟩:=Y.Ll _ _ _ _ hI w;rw[N]at K;cases K;rw[b2]at h4;cases h4
  rw[p];exact s c x p cv (.inr J)) a9
 rw[<-hz,<-q]at X;cases U:jb f z with
 | false=>
   rw[U]at X;simp only[Bool.false_eq_true,if_false]at X;subst X;refine pg ?_;simp
   repeat' apply And.intro
   all_goals
    refine rn ?_;simp;refine T _ r true (by simp) ad G (hR.1 F _ b8 (nr R b7 (λx u=>by rw[G]at u;cases u;rfl)) ?_)
    exact Y.frame _ _ _ _ (λc w=>aa.aj _ _ (λe=>B.out.1 (e ▸ w))) av
 | true=>
   rw[U,if_pos rfl]at X
   have ax:∀(j:aa) (H:bV) (P:eI->aa->Prop),r.Le j->(∀(v:Bool) g,g d=some (.cells [u8 n[k]])->g c4=some (.cells (i.map u8))->KF (.val (bool v)) (g.set c4 (.cells (n.map u8)))->P (.val (bool v)) g) ->
    ar prog m 117 [.sl 1 ((cG++[(k:Int)]).map int) H,int (max many ((k:Int)+1)),.cp (iL b mb f 0) 0,.cp y 0,.cp (ints begun) 0,.ref cp 0] j P:=λj H P t hK=>by
    have dd:r cp=some (.cells [aV (iL b mb f 0) c4 cg]):=by
     have pd:cp≠d:=λe=>by have:=B.pt;rw[e,hd]at this;cases this
     exact s _ _ (by rw[D cp pd (Ne.symm B.ne.2)];exact B.pt) (cb _ _ B.pt) (.inr rfl)
    have dj:Un j:=R.un (λc _ ⟨x,p,_⟩=>by rw[p];exact t _ _ p) b7
    have dr:WS b mb f y begun c4 cg cp i F j:=⟨t _ _ G,t _ _ O,t _ _ dd,B.out,B.ne⟩
    have dx:I pre.length F j:=Y.frame _ _ _ _ (λc w=>by obtain⟨x,p,_⟩:=Y.Ll _ _ _ _ av w;rw[p];exact t _ _ p) av
    have V:∀(A:Nat->Prop) (g:aa),Mv b mb F A j g->Mv b mb F A σ (g.set c4 (.cells (n.map u8))):=λA g hm c x p J K h4=>by
     by_cases e:c=c4
     . subst e
       obtain⟨q1,Q⟩:=hm c _ (t _ _ G) J K (.inr rfl);exact⟨by rw[aa.an,<-o];exact p,Q⟩
     . have e':c≠d:=λe'=>by subst e';rw[hd]at p;cases p
       rw[aa.aj _ _ e];exact hm c x (t _ _ (s c x (by rw[D c e' e];exact p) K h4)) J K h4
    have b9:∀(A:Nat->Prop) (g:aa),Mv b mb F A j g->g d=some (.cells [u8 n[k]])/\(g c4=some (.cells (i.map u8))/\¬A c4):=λA g hm=>⟨(hm d _ (t _ _ ad) b6 db (.inr rfl)).1,hm c4 _ (t _ _ G) B.out.1 (cb _ _ o) (.inr rfl)⟩
    subst X;refine hG _ _ _ _ F j pre post P (by simp;omega) (by omega) (by rw[List.length_append,q,hz];exact hh.set c6 C) dr dj hW dx ⟨λA g p J K=>?_,λA g p J K=>?_⟩
    . obtain⟨q1,Q,q3⟩:=b9 A g p
      exact hK true g q1 Q (hR.1 A _ (V A g p) (nr R J (λx u=>by rw[Q]at u;cases u;rfl)) (Y.frame _ _ _ _ (λc w=>aa.aj _ _ (λe=>q3 (e ▸ w))) K))
    . obtain⟨q1,Q,q3⟩:=b9 A g p
      exact hK false g q1 Q (hR.2 A _ (V A g p) (nr R J (λx u=>by rw[Q]at u;cases u;rfl)) (Y.Mc _ _ _ (λc w=>aa.aj _ _ (λe=>q3 (e ▸ w))) K))
   have k1:-9223372036854775808<=(k:Int)+1/\(k:Int)+1<=9223372036854775807:=by omega
   have M:(if many<(k:Int)+1 then(k:Int)+1 else many)=max many ((k:Int)+1):=by split<;>omega
   refine pg ?_;simp[O,k1.1,k1.2,M]
   repeat' (first
             |apply And.intro
             | (refine rz lay rfl cr rfl qa (es:=cG.map int) (sp:=sp) (l:=0) (h:=cG.length) (by simp) (λcap bq=>⟨⟨⟨.i64,by simp⟩,by simpa using bq⟩,⟨⟨.i64,by simp⟩,Nat.le_refl _⟩,rfl⟩) (by simp) λa ha=>?_
                have dy:Tok r r a 1 (cG.map int):=by
                 rcases ha with rfl|⟨e,rfl⟩
                 . have:List.take (cG.length-0) (List.drop 0 (cG.map int))=cG.map int:=by rw[List.drop_zero,List.take_of_length_le (by simp)]
                   rw[this];exact .exact _ _ _
                 . rw[e];exact .nil _ _
                clear ha;refine pg ?_;simp[G,ad,O,k1.1,k1.2,M])
             | (refine aH lay rfl rfl rfl cr rfl cr rfl qa (by decide) (by simp;omega) (σ0:=r) (es:=cG.map int) (xs:=[int k]) (by simpa using dy) (.inr ⟨_,by simp;rfl⟩) λa' j ay=>?_
                obtain⟨H,rfl⟩:∃H,a'=.sl 1 (cG.map int++[int k]) H:=by
                 rcases ay.2 with⟨_,e⟩|e|⟨_,_,_,e,_⟩
                 . simp at e
                 . exact⟨_,e⟩
                 . exact⟨_,e⟩
                have e0:=ay.1 _ _ O;refine pg ?_;simp[e0,k1.1,k1.2,M])
             | (refine eP Tryz.func117 rfl rfl (by simp) (ax j H _ ay.1 λv g q1 Q q3=>?_)
                refine pg ?_;simp;refine rn ?_;simp;exact T _ _ v (by simp) q1 Q q3))
end
section
variable{b mb:Nat}{f:Fr}{begun:List Int}{y:AV}{W:List (List Int)}{I:Nat->(Nat->Prop)->aa->Prop}{E:(Nat->Prop)->aa->Prop}{Un:aa->Prop}{Ld:aa->List (Int × AV)->Prop}{c4 cg cp:Nat}
def lM(f:Fr)(begun:List Int)(fuel:Nat)(cG:List Int)(many:Int)(a:List Int)(k:Nat):List (List Int):=
 if cG.length<begun.length/\begun.getD cG.length 0≠(k:Int)then[]
 else if jb f (bw (a.getD k 0) cG.length)=true then dI f begun fuel (cG++[(k:Int)]) (max many ((k:Int)+1)) (a.set k (bw (a.getD k 0) cG.length))else[]
theorem mD(f:Fr)(begun:List Int)(fuel:Nat)(cG:List Int)(many:Int)(a:List Int):dI f begun (fuel+1) cG many a=(List.range (min (many+1) f.most).toNat).flatMap (lM f begun fuel cG many a):=rfl
theorem Ap(K:Nat->List (List Int)){k cnt:Nat}(h:k<cnt):∃rest,(List.range cnt).flatMap K=(List.range k).flatMap K++(K k++rest):=by
 obtain⟨n,rfl⟩:∃n,cnt=k+1+n:=⟨cnt-(k+1),by omega⟩;induction n with
 |zero=>exact⟨[],by rw[Nat.add_zero,List.range_succ,List.flatMap_append];simp⟩
 | succ n a=>
   obtain⟨rest,b⟩:=a (by omega);refine⟨rest++K (k+1+n),?_⟩;rw[show k+1+(n+1)=(k+1+n)+1 by omega,List.range_succ,List.flatMap_append,b];simp
theorem Kh(U:FL prog m nn b 6 mb .u8 (eU f) Un Ld)(X:f.Good)(Z:begun.length<1152921504606846976)(Y:Mb m y W I E)(a7:y.cells=[y]):∀fuel:Nat,HZ m b mb f begun y W I E Un c4 cg cp fuel:=by
 have h6:=X.sH;have ad:=X.most;intro fuel
 induction fuel with
 | zero=>
   intro cG many h sp F σ pre post KF hlen l hh hw O K P z;have hl:(cG.length:Int)=f.aq.length:=by omega
   refine fs [] 6 Tryz.func117 rfl rfl (by rfl) (by kernel_rfl) ?_
   simp[Tryz.f117,hl,a7];have hk:pre.length<W.length:=by rw[K];simp[dI]
   have a8:W[pre.length]=cG:=by subst K;simp[dI]
   refine dl.weaken (args':=[ints cG]) ?_ ⟨fC 1 _ sp,trivial⟩;rw[<-a8];refine Y.step pre.length F σ _ hk P (λt d n C=>?_) (λt d n C=>?_)
   . refine rn ?_
     simp;exact .done (z.1 t d (An n) (uU U O n (λc hc=>Y.Ll _ _ _ c P hc)) C)
   . refine rn ?_
     simp;exact .done (z.2 t d (An n) (uU U O n (λc hc=>Y.Ll _ _ _ c P hc)) C)
 | succ fuel a9=>
   intro cG many h sp F σ pre post KF hlen l hh hw O K P z;have hl:((cG.length:Int)==f.aq.length)=false:=by rw[beq_eq_false_iff_ne];omega
   have al:=hw.pt;rw[mD]at K z;obtain⟨cnt,A⟩:∃cnt:Nat,cnt=(min (many+1) f.most).toNat:=⟨_,rfl⟩;rw[<-A]at K z;have Q:(if f.most<many+1 then f.most else many+1)=(cnt:Int):=by rw[A];split<;>omega
   have av:cnt<=6:=by omega
   have m1:-9223372036854775808<=many+1/\many+1<=9223372036854775807:=by omega
   refine fs [] 6 Tryz.func117 rfl rfl (by rfl) (by kernel_rfl) ?_
   simp[Tryz.f117,hl,m1.1,m1.2,Q];refine ab.loop cnt (λk s=>∃env d t,s=⟨env,d,[],.no⟩/\env 0=.sl 1 (cG.map int) sp/\env 1=int many/\env 2=.cp (iL b mb f 0) 0/\env 4=.cp (ints begun) 0/\env 5=.ref cp 0/\env 29=int cnt/\env 30=int k/\Mv b mb F t σ d/\Un d/\I (pre.length+((List.range k).flatMap (lM f begun fuel cG many h)).length) t d) ⟨_,_,F,rfl,by simp,by simp,by simp,by simp,by simp,by simp,by simp,Mv.refl b mb F σ,O,P⟩ ?_
   rintro c0 k _ hk ⟨env,d,t,rfl,L,n,C,M,R,g,i,o,D,G⟩ ih
   rcases Nat.lt_or_ge k cnt with g1|g1
   . have S:=hw.mv (U.L2 O) o
     have B:=S.pt;obtain⟨rest,u⟩:=Ap (lM f begun fuel cG many h) g1
     have p:((List.range (k+1)).flatMap (lM f begun fuel cG many h)).length=((List.range k).flatMap (lM f begun fuel cG many h)).length+(lM f begun fuel cG many h k).length:=by rw[List.range_succ,List.flatMap_append,List.length_append];simp
     by_cases N:cG.length<begun.length/\begun.getD cG.length 0≠(k:Int)
     . have hK:lM f begun fuel cG many h k=[]:=if_pos N
       have e1:begun.getD cG.length 0=begun[cG.length]:=by simp[List.getD_eq_getElem?_getD,N.1]
       have e2:(begun[cG.length] !=(k:Int))=true:=by have:=N.2;rw[e1]at this;simpa using this
       refine rn ?_;simp[L,M,g,i,g1,N.1,e2];refine⟨by omega,ih _ g1 ⟨_,_,t,rfl,by simp[L],by simp[n],by simp[C],by simp[M],by simp[R],by simp[g],by simp,o,D,?_⟩⟩
       rw[p,hK];exact G
     . have hK:lM f begun fuel cG many h k=if jb f (bw (h.getD k 0) cG.length)=true then dI f begun fuel (cG++[(k:Int)]) (max many ((k:Int)+1)) (h.set k (bw (h.getD k 0) cG.length))else[]:=if_neg N
       have r:∀H:eI->aa->Prop,(∀(v:Bool) a j,Mv b mb F j σ a->Un a->(v=true->I (pre.length+((List.range (k+1)).flatMap (lM f begun fuel cG many h)).length) j a)->(v=false->E j a)->H (.val (bool v)) a)->ar prog m 113 [.sl 1 (cG.map int) sp,int many,int k,.ref c4 0,.cp (iL b mb f 0) 0,.ref cg 0] d H:=λH T=>by
        refine Me U X Z Y a9 (pre:=pre++(List.range k).flatMap (lM f begun fuel cG many h)) (post:=rest++post) hlen l (by omega) hh S D hK (by rw[K,u];simp) (by rw[List.length_append];exact G) ⟨λj a w x J=>?_,λj a w x J=>?_⟩
        . refine T true a j (o.trans w) x (λ_=>?_) (λe=>by cases e)
          rw[p,<-Nat.add_assoc,<-List.length_append];exact J
        . exact T false a j (o.trans w) x (λe=>by cases e) (λ_=>J)
       by_cases V:cG.length<begun.length
       . have e1:begun.getD cG.length 0=begun[cG.length]:=by simp[List.getD_eq_getElem?_getD,V]
         have e2:(begun[cG.length] !=(k:Int))=false:=by
          have:begun[cG.length]=(k:Int):=by rw[<-e1];exact Classical.byContradiction λq=>N ⟨V,q⟩
          simp[this]
         refine rn ?_;simp[L,n,M,R,g,i,g1,V,e2,B];refine eP Tryz.func113 rfl rfl (by simp) (r _ λv a j w x J q4=>?_)
         cases v
         . refine rn ?_
           simp;exact .done (z.2 j a w x (q4 rfl))
         . refine rn ?_
           simp[i];exact⟨by omega,ih _ g1 ⟨_,_,j,rfl,by simp[L],by simp[n],by simp[C],by simp[M],by simp[R],by simp[g],by simp,w,x,J rfl⟩⟩
       . refine rn ?_
         simp[L,n,M,R,g,i,g1,V,B];refine eP Tryz.func113 rfl rfl (by simp) (r _ λv a j w x J q4=>?_)
         cases v
         . refine rn ?_
           simp;exact .done (z.2 j a w x (q4 rfl))
         . refine rn ?_
           simp[i];exact⟨by omega,ih _ g1 ⟨_,_,j,rfl,by simp[L],by simp[n],by simp[C],by simp[M],by simp[R],by simp[g],by simp,w,x,J rfl⟩⟩
   . have:k=cnt:=by omega
     subst this;refine rn ?_;simp[g,i];exact .done (z.1 t d o D G)
end
section
variable{b mb:Nat}{f:Fr}{begun:List Int}{y:AV}{I:Nat->(Nat->Prop)->aa->Prop}{E:(Nat->Prop)->aa->Prop}{Un:aa->Prop}{Ld:aa->List (Int × AV)->Prop}
theorem sT{sp:bV}(h:KF (.val (.fn (.func 112) [] [.cp (iL b mb f 0) 0,.cp (.sl 1 (begun.map int) sp) 0])) σ):ar prog m 63 [iL b mb f 0,.sl 1 (begun.map int) sp] σ KF:=by
 refine fs [] 2 Tryz.func63 rfl rfl (by rfl) (by kernel_rfl) ?_;simp[Tryz.f63];exact .done h
theorem Tl(f:Fr):Hs f 0 [0,0,0,0,0,0]:=by
 refine⟨rfl,λx a e b=>?_,λx a=>?_⟩
 . have hb:bS 0=[]:=by decide +kernel
   simp at a;subst a;rw[hb]at b;cases b
 . simp at a;subst a;omega
theorem Mv.le{F d:Nat->Prop}{σ0 σ':aa}(h:Mv b mb F d σ σ')(a:σ0.Le σ):Mv b mb F d σ0 σ':=λc x e f g i=>h c x (a c x e) f g i
theorem qi(s:FL prog m nn b 6 mb .u8 (eU f) Un Ld)(w:f.Good)(k:begun.length<1152921504606846976)(Y:Mb m y (au f begun) I E)(d:y.cells=[y]/\y.flat=true){F:Nat->Prop}(z:Un σ)(l:I 0 F σ)
 (h:∀e σ',Mv b mb F e σ σ'->Un σ'->(I (au f begun).length e σ'\/E e σ')->KF (.val (.cq [])) σ'):ar prog m 112 [y,.cp (iL b mb f 0) 0,.cp (ints begun) 0] σ KF:=by
 refine fs [] 3 Tryz.func112 rfl rfl (by rfl) (by kernel_rfl) ?_
 simp[Tryz.f112,d.1,d.2];refine cZ.intro λc4 A=>?_
 simp;refine cZ.intro λcg n=>?_
 obtain⟨J,t,n⟩:=aa.aL n;simp;refine cZ.intro λcp i=>?_
 obtain⟨B,C,i⟩:=aa.aL i;obtain⟨K,u,i⟩:=aa.aL i;simp[C,aa.aj];have a:σ.Le ((((σ.set c4 (.cells [u8 0,u8 0,u8 0,u8 0,u8 0,u8 0])).set cg (.cells [.lit .nilFunc])).set cp (.cells [aV (iL b mb f 0) c4 cg])).set cg (.cells [uV (iL b mb f 0) y begun cp])):=(by repeat (first|exact aa.le_refl _|assumption|refine aa.iz ?_ (by assumption)|refine aa.jQ ?_ (by assumption)))
 have D:((((σ.set c4 (.cells [u8 0,u8 0,u8 0,u8 0,u8 0,u8 0])).set cg (.cells [.lit .nilFunc])).set cp (.cells [aV (iL b mb f 0) c4 cg])).set cg (.cells [uV (iL b mb f 0) y begun cp])) c4=some (.cells (([0,0,0,0,0,0]:List Int).map u8)):=by simp[t,u,aa.aj]
 have G:((((σ.set c4 (.cells [u8 0,u8 0,u8 0,u8 0,u8 0,u8 0])).set cg (.cells [.lit .nilFunc])).set cp (.cells [aV (iL b mb f 0) c4 cg])).set cg (.cells [uV (iL b mb f 0) y begun cp])) cg=some (.cells [uV (iL b mb f 0) y begun cp]):=by simp
 have sp:((((σ.set c4 (.cells [u8 0,u8 0,u8 0,u8 0,u8 0,u8 0])).set cg (.cells [.lit .nilFunc])).set cp (.cells [aV (iL b mb f 0) c4 cg])).set cg (.cells [uV (iL b mb f 0) y begun cp])) cp=some (.cells [aV (iL b mb f 0) c4 cg]):=by simp[B,aa.aj]
 have g:∀c,σ c=none -> ¬F c:=λc o H=>by obtain⟨x,j,_⟩:=Y.Ll _ _ _ _ l H;rw[o]at j;cases j
 refine dl.weaken (args':=[.sl 1 (([]:List Int).map int) .any,int 0]) ?_ ⟨gl 1,.refl _,trivial⟩
 refine eP Tryz.func117 rfl rfl rfl (Kh (y:=y) s w k Y d.1 f.aq.length [] 0 [0,0,0,0,0,0] .any F _ [] [] _ (by simp) (by omega) (Tl f) ⟨D,G,sp,⟨g _ A,g _ n,g _ i⟩,⟨t,u⟩⟩ (s.un (λc _ ⟨x,v,_⟩=>by rw[v];exact a _ _ v) z) (by simp[au]) (Y.frame _ _ _ _ (λc o=>by obtain⟨x,j,_⟩:=Y.Ll _ _ _ _ l o;rw[j];exact a _ _ j) l) ⟨λe σ' p q r=>?_,λe σ' p q r=>?_⟩)
 . refine rn ?_
   simp;refine .done (h e σ' (p.le a) q (.inl ?_));simpa[au]using r
 . refine rn ?_
   simp;exact .done (h e σ' (p.le a) q (.inr r))
end
section
variable{b mb:Nat}{f:Fr}{Un:aa->Prop}{Ld:aa->List (Int × AV)->Prop}
theorem yu(L:FL prog m nn b 6 mb .u8 (eU f) Un Ld)(hf:f.Good)(Z:Un σ)(h:∀σ',Un σ'->lI b mb σ σ'->KF (.val (bool (decide (au f []≠[])))) σ'):ar prog m 88 [iL b mb f 0] σ KF:=by
 refine fs [] 1 Tryz.func88 rfl rfl (by rfl) (by kernel_rfl) ?_
 simp[Tryz.f88];refine cZ.intro λd h3=>?_
 simp;have hW:Wl [iL b mb f 0,AV.lit (.slice none 0 0)] [iL b mb f 0,ints []]:=.cons (.refl _) (.cons (gl 1) .nil);refine bi Tryz.func63 rfl rfl hW (sT (begun:=[]) ?_);refine rn ?_;simp;refine ab.rangeFunc rfl λO r l M P o=>?_
 obtain⟨r1,r2,M⟩:=aa.aL M;obtain⟨l1,p,P⟩:=aa.aL P;generalize u:mT.mk _ _ _ _ _ _ _ _ _=N
 have hY:Mb m (.fn (.yield l) [] []) (au f []) (λk F σ'=>k=0/\(∀c,F c↔c=l\/c=d)/\σ' l=some (.loop N)/\σ' d=some (.cells [bool false])) (λF σ'=>au f []≠[]/\(∀c,F c↔c=l\/c=d)/\σ' l=some (.loop {N with state:=.done,pending:=some (.exit 0)})/\σ' d=some (.cells [bool true])):=by
  refine⟨λk F σ' a7 hk v hT hF=>?_,λk F Q j G v=>?_,λF Q j G v=>?_,λk F σ' c v w=>?_⟩
  . obtain⟨rfl,a,s,y⟩:=v
    have e3:∀x,(σ'.set l x) d=some (.cells [bool false]):=λx=>by rw[aa.aj _ _ p];exact y
    subst u;refine dl.xK (hold:=[]) O Tryz.func88 s rfl ?_;refine rn ?_;simp[lX];refine ab.beginRound s rfl ?_;refine rn ?_;simp[e3];have R:au f []≠[]:=λe=>by rw[e]at hk;cases hk
    refine⟨rfl,rfl,_,((aa.aj _ _ l1).trans (aa.an _ _ _)),?_⟩;refine hF F _ (λc x w hx=>⟨?_,w⟩) ⟨R,a,aa.an _ _ _,(aa.aj _ _ p).trans (aa.an _ _ _)⟩
    have D:c≠l:=λe=>w ((a c).2 (.inl e))
    have H:c≠d:=λe=>w ((a c).2 (.inr e))
    exact(aa.aj _ _ D).trans ((aa.aj _ _ H).trans ((aa.aj _ _ D).trans hx))
  . obtain⟨rfl,a,s,y⟩:=v
    exact⟨rfl,a,by rw[G l ((a l).2 (.inl rfl))];exact s,by rw[G d ((a d).2 (.inr rfl))];exact y⟩
  . obtain⟨q,a,s,y⟩:=v
    exact⟨q,a,by rw[G l ((a l).2 (.inl rfl))];exact s,by rw[G d ((a d).2 (.inr rfl))];exact y⟩
  . obtain⟨rfl,a,s,y⟩:=v
    rcases(a c).1 w with rfl|rfl
    . exact⟨_,s,rfl⟩
    . exact⟨_,y,rfl⟩
 obtain⟨xb,I,a8⟩:=L.L2 Z;have nb:∀c,σ c=none->c≠b:=λc w e=>by subst e;rw[w]at I;cases I
 have J:σ.Le (((σ.set d (.cells [bool false])).set r (.raw (.deferred (some [])))).set l (.loop N)):=(by repeat (first|exact aa.le_refl _|assumption|refine aa.iz ?_ (by assumption)|refine aa.jQ ?_ (by assumption)))
 have sr:(((σ.set d (.cells [bool false])).set r (.raw (.deferred (some [])))).set l (.loop N)) r=some (.raw (.deferred (some []))):=by rw[aa.aj _ _ o,aa.an]
 refine eP Tryz.func112 rfl rfl rfl (qi (F:=λc=>c=l\/c=d) L hf (by simp) hY ⟨rfl,rfl⟩ (L.un (λc _ ⟨x,i,_⟩=>(J _ _ i).trans i.symm) Z) ⟨rfl,λc=>Iff.rfl,aa.an _ _ _,(aa.aj _ _ p).trans ((aa.aj _ _ r2).trans (aa.an _ _ _))⟩ λF' σ' K S t=>?_)
 have z:=(K r _ sr (λe=>by rcases e with e|e;exact o e;exact r1 e) (nb r M) (.inr rfl)).1
 have A:lI b mb σ σ':=λc x i E B=>(K c x (J c x i) (λe=>by rcases e with e|e<;>subst e<;>simp_all) E B).1
 have n:∀j,j=(σ'.del l).set r (.raw (.deferred none))->Un j/\lI b mb σ j:=λj e=>by
  subst e;refine⟨L.un (σ:=σ') (λc _ ⟨x,i,E⟩=>?_) S,λc x i E B=>?_⟩
  . have D:c≠r:=λe=>by subst e;rw[z]at i;cases i;cases E
    have H:c≠l:=λe=>by
     subst e
     rcases t with⟨_,_,g,_⟩|⟨_,_,g,_⟩<;>rw[g]at i<;>cases i<;>cases E
    rw[aa.aj _ _ D];simp[aa.del,H]
  . have D:c≠r:=λe=>by subst e;rw[M]at i;cases i
    have H:c≠l:=λe=>by subst e;rw[P]at i;cases i
    rw[aa.aj _ _ D];simp only[aa.del,H,if_false];exact A c x i E B
 rcases t with⟨T,_,U,V⟩|⟨T,_,U,V⟩
 . have W:decide (au f []≠[])=false:=by simp[List.length_eq_zero_iff.1 T]
   rw[W]at h;subst u;refine⟨_,U,by simp,rfl,?_⟩
   have C:(σ'.del l) d=some (.cells [bool false]):=by simp only[aa.del,p,if_false];simpa[p,Ne.symm p]using V
   refine rn ?_;simp[C];refine⟨by simp only[aa.del,o,if_false];exact z,.done ?_⟩
   obtain⟨X,Y⟩:=n _ rfl;exact h _ X Y
 . have W:decide (au f []≠[])=true:=by simp[T]
   rw[W]at h;subst u;refine⟨_,U,by simp,rfl,?_⟩
   have C:(σ'.del l) d=some (.cells [bool true]):=by simp only[aa.del,p,if_false];simpa[p,Ne.symm p]using V
   refine rn ?_;simp[C];refine⟨by simp only[aa.del,o,if_false];exact z,.done ?_⟩
   obtain⟨X,Y⟩:=n _ rfl;exact h _ X Y
end
end Go.Proofs.YtldmpfccgajobaaGreatDoor
namespace Go.Proofs.YtldmpfccgajobaaGreatDoor
open Tryz (prog)
open Go Go.bG
set_option maxRecDepth 100000
abbrev ng:FJ:=⟨107,109,111,131,132,143,130,138,146,133,159,160,161,162,147,142,176,178,183⟩
theorem H3:∀(b:Nat) (kind:CallKind),aM (A0 prog ng b kind).1=some (ng.gY,[])/\(A0 prog ng b kind).1.env.all plain=true/\(A0 prog ng b kind).2=[]/\(A0 prog ng b kind).1.kind=kind:=by intro b kind;exact⟨by kernel_rfl,by kernel_rfl,by kernel_rfl,by kernel_rfl⟩
theorem H4:∀(b:Nat) (kind:CallKind),aM (A1 prog ng b kind).1=some (ng.JI,[])/\(A1 prog ng b kind).1.env.all plain=true/\(A1 prog ng b kind).2=[]/\(A1 prog ng b kind).1.kind=kind:=by intro b kind;exact⟨by kernel_rfl,by kernel_rfl,by kernel_rfl,by kernel_rfl⟩
theorem H5:∀(b:Nat) (kind:CallKind),aM (A2 prog ng b kind).1=some (ng.pK,[pt b 0,u64 4294967296])/\sO (A2 prog ng b kind)=true/\(A2 prog ng b kind).1.env.all plain=true/\(A2 prog ng b kind).2.all (·.env.all plain)=true:=by intro b kind;exact⟨by kernel_rfl,by kernel_rfl,by kernel_rfl,by kernel_rfl⟩
theorem H6:∀(b:Nat) (kind:CallKind) (a:Fl),jn (A3 prog ng b kind (f1 a true)).1=some (ng.tS,ng.tU,pt b 1):=by intro b kind a;kernel_rfl
theorem H7:∀(b:Nat) (kind:CallKind) (a:Fl),aM (A4 prog ng b kind (f1 a true)).1=some (ng.rd,[pt b 1])/\(A4 prog ng b kind (f1 a true)).1.kind=kind:=by intro b kind a;exact⟨by kernel_rfl,by kernel_rfl⟩
theorem H8:∀(b:Nat) (kind:CallKind) (a:Fl),oR (A5 prog ng b kind (f0 (f1 a true) false)).1=some ng.en/\(A5 prog ng b kind (f0 (f1 a true) false)).2=[]/\(A5 prog ng b kind (f0 (f1 a true) false)).1.kind=kind/\(A5 prog ng b kind (f0 (f1 a true) false)).1.fn=ng.add:=by intro b kind a;exact⟨by kernel_rfl,by kernel_rfl,by kernel_rfl,by kernel_rfl⟩
theorem H9:∀(b:Nat) (kind:CallKind) (a:Fl),oR (A3 prog ng b kind (f0 (f1 a false) false)).1=some ng.en/\(A3 prog ng b kind (f0 (f1 a false) false)).2=[]/\(A3 prog ng b kind (f0 (f1 a false) false)).1.kind=kind/\(A3 prog ng b kind (f0 (f1 a false) false)).1.fn=ng.add:=by intro b kind a;exact⟨by kernel_rfl,by kernel_rfl,by kernel_rfl,by kernel_rfl⟩
theorem Ia:∀(b:Nat),jn (D0 prog ng b).1=some (ng.tG,ng.tU,pt b 0)/\(D0 prog ng b).1.env.all plain=true/\(D0 prog ng b).2.all (·.env.all plain)=true:=by intro b;exact⟨by kernel_rfl,by kernel_rfl,by kernel_rfl⟩
theorem Ib:∀(b:Nat),aM (D1 prog ng b).1=some (ng.rel,[pt b 0])/\sO (D1 prog ng b)=true/\(D1 prog ng b).1.env.all plain=true/\(D1 prog ng b).2.all (·.env.all plain)=true:=by intro b;exact⟨by kernel_rfl,by kernel_rfl,by kernel_rfl,by kernel_rfl⟩
theorem Ic:∀(b:Nat),aM (D2 prog ng b).1=some (ng.gY,[])/\sO (D2 prog ng b)=true/\(D2 prog ng b).1.env.all plain=true/\(D2 prog ng b).2.all (·.env.all plain)=true:=by intro b;exact⟨by kernel_rfl,by kernel_rfl,by kernel_rfl,by kernel_rfl⟩
theorem Id:∀(b:Nat),aM (D3 prog ng b).1=some (ng.JI,[])/\sO (D3 prog ng b)=true/\(D3 prog ng b).1.env.all plain=true/\(D3 prog ng b).2.all (·.env.all plain)=true:=by intro b;exact⟨by kernel_rfl,by kernel_rfl,by kernel_rfl,by kernel_rfl⟩
theorem Ie:∀(b:Nat),aM (D4 prog ng b).1=some (ng.pK,[pt b 0,u64 18446744069414584320])/\sO (D4 prog ng b)=true/\(D4 prog ng b).1.env.all plain=true/\(D4 prog ng b).2.all (·.env.all plain)=true:=by intro b;exact⟨by kernel_rfl,by kernel_rfl,by kernel_rfl,by kernel_rfl⟩
theorem If:∀(b:Nat) (a:Fl) (x:Bool),oR (DE prog ng b (f0 a x) 0).1=some ng.en:=by intro b a x;cases x<;>kernel_rfl
theorem Fh:∀(b:Nat) (a:Fl) (x:Bool),iW (kh prog (f0 a x) (DE prog ng b (f0 a x) 0)).1 ng.done=true/\(kh prog (f0 a x) (DE prog ng b (f0 a x) 0)).2=[]/\(kh prog (f0 a x) (DE prog ng b (f0 a x) 0)).1.kind=.deferred:=by intro b a x;cases x<;>exact⟨by kernel_rfl,by kernel_rfl,by kernel_rfl⟩
theorem Ig:∀(b:Nat) (a:Fl),oR (DE prog ng b (f0 a false) 1).1=some ng.en:=by intro b a;kernel_rfl
theorem Fi:∀(b:Nat) (a:Fl),iW (kh prog (f0 a false) (DE prog ng b (f0 a false) 1)).1 ng.done=true/\(kh prog (f0 a false) (DE prog ng b (f0 a false) 1)).2=[]/\(kh prog (f0 a false) (DE prog ng b (f0 a false) 1)).1.kind=.deferred:=by intro b a;exact⟨by kernel_rfl,by kernel_rfl,by kernel_rfl⟩
theorem Ih:∀(b:Nat) (a:Fl),aM (DE prog ng b (f0 a true) 1).1=some (ng.sF,[pt b 0])/\sO (DE prog ng b (f0 a true) 1)=true:=by intro b a;exact⟨by kernel_rfl,by kernel_rfl⟩
theorem Ii:∀(b:Nat) (a:Fl),aM (D6 prog ng b (f0 a true)).1=some (ng.DR,[pt b 0,u64 0])/\sO (D6 prog ng b (f0 a true))=true:=by intro b a;exact⟨by kernel_rfl,by kernel_rfl⟩
theorem Ij:∀(b:Nat) (a:Fl),aM (D7 prog ng b (f0 a true)).1=some (ng.mf,[pt b 1,ff,i64 0])/\sO (D7 prog ng b (f0 a true))=true:=by intro b a;exact⟨by kernel_rfl,by kernel_rfl⟩
theorem Ik:∀(b:Nat) (a:Fl),oR (D8 prog ng b (f0 a true)).1=some ng.en:=by intro b a;kernel_rfl
theorem Il:∀(b:Nat) (a:Fl),iW (kh prog (f0 a true) (D8 prog ng b (f0 a true))).1 ng.done=true/\(kh prog (f0 a true) (D8 prog ng b (f0 a true))).2=[]/\(kh prog (f0 a true) (D8 prog ng b (f0 a true))).1.kind=.deferred:=by intro b a;exact⟨by kernel_rfl,by kernel_rfl,by kernel_rfl⟩
theorem Im:∀(b:Nat) (kind:CallKind),aM (W0 prog ng b kind).1=some (ng.gY,[])/\(W0 prog ng b kind).1.env.all plain=true/\(W0 prog ng b kind).2=[]/\(W0 prog ng b kind).1.kind=kind:=by intro b kind;exact⟨by kernel_rfl,by kernel_rfl,by kernel_rfl,by kernel_rfl⟩
theorem Io:∀(b:Nat) (kind:CallKind),aM (W1 prog ng b kind).1=some (ng.sF,[pt b 0])/\sO (W1 prog ng b kind)=true/\(W1 prog ng b kind).1.env.all plain=true/\(W1 prog ng b kind).2.all (·.env.all plain)=true:=by intro b kind;exact⟨by kernel_rfl,by kernel_rfl,by kernel_rfl,by kernel_rfl⟩
theorem Ip:∀(b:Nat) (kind:CallKind) (a:Fl),aM (WE prog ng b kind (f0 a true)).1=some (ng.en,[])/\(WE prog ng b kind (f0 a true)).1.kind=kind:=by intro b kind a;exact⟨by kernel_rfl,by kernel_rfl⟩
theorem Iq:∀(b:Nat) (kind:CallKind) (a:Fl),jn (WC prog ng b kind (f0 a true)).1=some (ng.tG,ng.tU,pt b 0):=by intro b kind a;kernel_rfl
theorem Ir:∀(b:Nat) (kind:CallKind) (a:Fl),aM (WA prog ng b kind (f0 a true)).1=some (ng.acq,[pt b 0])/\(WA prog ng b kind (f0 a true)).1.kind=kind:=by intro b kind a;exact⟨by kernel_rfl,by kernel_rfl⟩
theorem Is:∀(b:Nat) (kind:CallKind) (a:Fl),iW (WB prog ng b kind (f0 a true)).1 ng.wait=true/\(WB prog ng b kind (f0 a true)).2=[]/\(WB prog ng b kind (f0 a true)).1.kind=kind:=by intro b kind a;exact⟨by kernel_rfl,by kernel_rfl,by kernel_rfl⟩
theorem It:∀(b:Nat) (kind:CallKind) (a:Fl),aM (WE prog ng b kind (f0 a false)).1=some (ng.t7,[pt b 0,.dm 0,.dm 1])/\sO (WE prog ng b kind (f0 a false))=true:=by intro b kind a;exact⟨by kernel_rfl,by kernel_rfl⟩
theorem Iu:∀(b:Nat) (kind:CallKind) (a:Fl),CX [5] [[0]] (next prog (f0 a false) (WE prog ng b kind (f0 a false)) ff)=W1 prog ng b kind:=by intro b kind a;kernel_rfl
theorem Iv:∀(b:Nat) (kind:CallKind) (a:Fl),jn (W3 prog ng b kind (f0 a false)).1=some (ng.tS,ng.tU,pt b 1):=by intro b kind a;kernel_rfl
theorem Iw:∀(b:Nat) (kind:CallKind) (a:Fl),aM (M9 prog ng b kind (f0 a false)).1=some (ng.wr,[pt b 1])/\(M9 prog ng b kind (f0 a false)).1.kind=kind:=by intro b kind a;exact⟨by kernel_rfl,by kernel_rfl⟩
theorem Ix:∀(b:Nat) (kind:CallKind) (a:Fl),aM (W4 prog ng b kind (f0 a false)).1=some (ng.Bo,[pt b 1,ff])/\(W4 prog ng b kind (f0 a false)).1.kind=kind:=by intro b kind a;exact⟨by kernel_rfl,by kernel_rfl⟩
theorem Iy:∀(b:Nat) (kind:CallKind) (a:Fl),aM (W5 prog ng b kind (f0 a false)).1=some (ng.sF,[pt b 0])/\sO (W5 prog ng b kind (f0 a false))=true:=by intro b kind a;exact⟨by kernel_rfl,by kernel_rfl⟩
theorem Iz:∀(b:Nat) (kind:CallKind) (a:Fl),aM (Na prog ng b kind (f0 a false)).1=some (ng.en,[])/\(Na prog ng b kind (f0 a false)).1.kind=kind:=by intro b kind a;exact⟨by kernel_rfl,by kernel_rfl⟩
theorem IA:∀(b:Nat) (kind:CallKind) (a:Fl),jn (N8 prog ng b kind (f0 a false)).1=some (ng.tG,ng.tU,pt b 0):=by intro b kind a;kernel_rfl
theorem IB:∀(b:Nat) (kind:CallKind) (a:Fl),aM (Nb prog ng b kind (f0 a false)).1=some (ng.acq,[pt b 0])/\(Nb prog ng b kind (f0 a false)).1.kind=kind:=by intro b kind a;exact⟨by kernel_rfl,by kernel_rfl⟩
theorem IC:∀(b:Nat) (kind:CallKind) (a:Fl),iW (K9 prog ng b kind (f0 a false)).1 ng.wait=true/\(K9 prog ng b kind (f0 a false)).2=[]/\(K9 prog ng b kind (f0 a false)).1.kind=kind:=by intro b kind a;exact⟨by kernel_rfl,by kernel_rfl,by kernel_rfl⟩
theorem O0:iu prog ng where
 a0:=H3
 a1:=H4
 a2:=H5
 a3:=H6
 a4:=H7
 a5:=H8
 a6:=H9
 d0:=Ia
 d1:=Ib
 d2:=Ic
 d3:=Id
 d4:=Ie
 d5:=If
 Rh:=Fh
 d6:=Ig
 Rk:=Fi
 d7:=Ih
 d8:=Ii
 d9:=Ij
 da:=Ik
 db:=Il
 w0:=Im
 w1:=Io
 w2:=Ip
 w3:=Iq
 w4:=Ir
 w5:=Is
 w6:=It
 w7:=Iu
 w8:=Iv
 w9:=Iw
 wa:=Ix
 wb:=Iy
 wc:=Iz
 wd:=IA
 we:=IB
 wf:=IC
theorem O3:jt prog ng where
 gY:=⟨_,rfl,rfl,rfl,rfl,rfl⟩
 en:=⟨_,rfl,rfl,rfl,rfl,rfl⟩
 acq:=⟨_,rfl,rfl,rfl,rfl,rfl⟩
 rel:=⟨_,rfl,rfl,rfl,rfl,rfl⟩
 rd:=⟨_,rfl,rfl,rfl,rfl,rfl⟩
 wr:=⟨_,rfl,rfl,rfl,rfl,rfl⟩
 JI:=⟨_,rfl,rfl,rfl,rfl,rfl⟩
 pK:=⟨_,rfl,rfl,rfl,rfl,rfl⟩
 sF:=⟨_,rfl,rfl,rfl,rfl,rfl⟩
 DR:=⟨_,rfl,rfl,rfl,rfl,rfl⟩
 t7:=⟨_,rfl,rfl,rfl,rfl,rfl⟩
 Bo:=⟨_,rfl,rfl,rfl,rfl,rfl⟩
 mf:=⟨_,rfl,rfl,rfl,rfl,rfl⟩
 Rl:=⟨_,rfl,rfl,rfl⟩
 Rm:=⟨_,rfl,rfl,rfl⟩
 LN:=⟨_,_,rfl,rfl,rfl,rfl⟩
 GF:=⟨_,_,rfl,rfl,rfl,rfl⟩
 GG:=⟨_,_,rfl,rfl,rfl,rfl⟩
end Go.Proofs.YtldmpfccgajobaaGreatDoor
namespace Go.Proofs.YtldmpfccgajobaaGreatDoor
open Tryz (prog)
open Go.bG Go.Conc
set_option maxHeartbeats 1000000
set_option maxRecDepth 4000
variable{m:Mo}{σ:aa}{KF:eI->aa->Prop}
theorem B6:oT prog nn:=⟨⟨_,_,Tryz.func148,rfl,rfl,rfl⟩,⟨_,_,Tryz.func149,rfl,rfl,rfl⟩⟩
section
variable{b mb:Nat}{f:Fr}{A:dk}{j:Nat}{begun:List Int}
theorem B7{b:ag}(a:A.ng=ng){body:Code}(hb:Tryz.f110.body=some body):ab prog (uc prog A) 110 4 none [] [.code body] ⟨cX [.ref A.gb 0,.cp (.chan A.cF) 0],i8 A.fb,[],.told .deferred [ck prog] b⟩ (λ_ _=>False):=by
 simp only[Tryz.f110,Option.some.injEq]at hb;subst hb;refine ab.runN lay [] 2 ?_;simp;refine ab.Hj rfl (by rw[a];rfl) rfl (by simp) (by rw[a];exact Tryz.func111) rfl rfl rfl ?_;refine rn ?_;simp;exact ab.BN rfl rfl (by simp) rfl rfl rfl rfl rfl Tryz.func110 rfl rfl
theorem uW{V:ag}(W:A.fb=b/\A.mb=mb/\A.fo=6/\A.nm=nn/\A.ng=ng)(X:∀x,A.GI x↔∃l,x=mapA .u8 l/\eU f l)(Y:f.Good)(q:A.res j=int (au f begun).length)(z:begun.length<1152921504606846976)(hlen:(au f begun).length<1152921504606846976){body:Code}(hb:Tryz.f108.body=some body):
 ab prog (jx prog A j) 108 13 none [] [.code body] ⟨cX [.ref A.gb 0,.cp (iL b mb f 0) 0,.cp (ints begun) 0,.cp (.chan A.cF) 0],i8 A.fb,[],.told .deferred [ck prog] V⟩ (λ_ _=>False):=by
 obtain⟨rfl,rfl,B,C,s⟩:=W;simp only[Tryz.f108,Option.some.injEq]at hb;subst hb;have T:=Hl (P:=prog) (A:=A) (j:=j) (kd:=.u8) X;rw[B,C]at T;refine rn ?_;simp;refine ab.defer rfl rfl rfl rfl (by simp) rfl ?_
 refine rn ?_;simp;refine cZ.intro λcn t=>?_
 simp;refine cf Tryz.func63 rfl (sT (begun:=begun) (sp:=.any) ?_);refine rn ?_;simp;refine ab.rangeFunc rfl λD r l u m g=>?_
 obtain⟨Z,r2,u⟩:=aa.aL u;obtain⟨l1,n,m⟩:=aa.aL m;generalize v:mT.mk _ _ _ _ _ _ _ _ _=E
 have hY:Mb (jx prog A j) (.fn (.yield l) [] []) (au f begun) (λk F a=>(∀c,F c↔c=l\/c=cn)/\a l=some (.loop E)/\a cn=some (.cells [int k])) (λF a=>False):=by
  refine⟨λk F a a7 hk h hT hF=>?_,λk F G H I h=>?_,λF G H I h=>h.elim,λk F a c h i=>?_⟩
  . obtain⟨d,o,w⟩:=h
    have e3:∀x,(a.set l x) cn=some (.cells [int k]):=λx=>(aa.aj _ _ n).trans w
    have f1:-9223372036854775808<=(k:Int)+1/\(k:Int)+1<=9223372036854775807:=by omega
    subst v;refine dl.xK (hold:=[]) D Tryz.func108 o rfl ?_;refine rn ?_;simp[lX];refine ab.beginRound o rfl ?_;refine rn ?_;simp[e3,f1.1,f1.2];refine⟨rfl,rfl,_,((aa.aj _ _ l1).trans (aa.an _ _ _)),?_⟩;refine hT F _ (λc x i hx=>⟨?_,i⟩) ⟨d,aa.an _ _ _,(aa.aj _ _ n).trans (aa.an _ _ _)⟩
    have U:c≠l:=λe=>i ((d c).2 (.inl e))
    have c2:c≠cn:=λe=>i ((d c).2 (.inr e))
    exact(aa.aj _ _ U).trans ((aa.aj _ _ c2).trans ((aa.aj _ _ U).trans hx))
  . obtain⟨d,o,w⟩:=h
    exact⟨d,by rw[I l ((d l).2 (.inl rfl))];exact o,by rw[I cn ((d cn).2 (.inr rfl))];exact w⟩
  . obtain⟨d,o,w⟩:=h
    rcases(d c).1 i with rfl|rfl
    . exact⟨_,o,rfl⟩
    . exact⟨_,w,rfl⟩
 have hu:Rv A.fb (((i8 A.fb).set cn (.cells [int 0])).set r (.raw (.deferred (some [])))|>.set l (.loop E)):=by
  have p:(i8 A.fb) A.fb=some .fK:=by simp[i8]
  have J:A.fb≠cn:=λe=>by rw[<-e,p]at t;cases t
  have K:A.fb≠r:=λe=>by rw[<-e,p]at u;cases u
  have L:A.fb≠l:=λe=>by rw[<-e,p]at m;cases m
  show _=_;rw[aa.aj _ _ L,aa.aj _ _ K,aa.aj _ _ J];exact p
 have nb:∀c,(i8 A.fb) c=none->c≠A.fb:=λc i e=>by subst e;simp[i8]at i
 have sr:(((i8 A.fb).set cn (.cells [int 0])).set r (.raw (.deferred (some [])))|>.set l (.loop E)) r=some (.raw (.deferred (some []))):=(aa.aj _ _ g).trans (aa.an _ _ _)
 refine eP Tryz.func112 rfl rfl rfl (qi (F:=λc=>c=l\/c=cn) T Y z hY ⟨rfl,rfl⟩ hu ⟨λc=>Iff.rfl,aa.an _ _ _,(aa.aj _ _ n).trans ((aa.aj _ _ r2).trans (aa.an _ _ _))⟩ λF' a M N y=>?_)
 have O:=(M r _ sr (λe=>by rcases e with e|e;exact g e;exact Z e) (nb r u) (.inr rfl)).1
 rcases y with⟨_,J,K⟩|hE
 . subst v
   refine⟨_,J,by simp,rfl,?_⟩
   have Q:(a.del l) cn=some (.cells [int (au f begun).length]):=by simp only[aa.del,n,if_false];simpa[n,Ne.symm n]using K
   have R:(a.del l) A.fb=some .fK:=by
    have L:A.fb≠l:=λe=>by
     have p:(i8 A.fb) A.fb=some .fK:=by simp[i8]
     rw[<-e,p]at m;cases m
    simp only[aa.del,L,if_false];exact N
   have S:(a.del l) r=some (.raw (.deferred (some []))):=by simp only[aa.del,g,if_false];exact O
   refine rn ?_;simp[Q];refine ab.Hi rfl rfl (by simp) rfl rfl (by rw[q];simp) R rfl rfl Tryz.func108 rfl (by rw[s];exact Tryz.func109) rfl rfl ?_
   refine rn ?_;simp;refine⟨rfl,.inl rfl,⟨_,rfl⟩,r,by rw[s],S⟩
 . exact hE.elim
end
def ii(j:Nat):List Int:=if j=0 then[0,0]else[0,1]
def jz(f:Fr):Int:=if f.aq.length<2 then 1 else(au f [0,0]).length+(au f [0,1]).length
theorem ID{v d:AV}(n:v.cells=[v])(g:d.cells=[d])(h:v.W d):(AV.cp v 0).W (.cp d 0):=λk x o=>by
 cases o with
 | cp b base off N E v c p i l m=>
   rw[n]at i l m;refine .cp b base 0 N E d c p (by rw[g];exact i) (λj e=>l j (by rw[g]at e;exact e)) (λj a f=>?_)
   rw[g]at f
   have e:j=0:=by have:=(List.getElem?_eq_some_iff.1 f).1;simp at this;exact this
   subst e;simp at f;subst f;exact h k _ (m 0 v rfl)
section
variable{b mb:Nat}{f:Fr}
theorem Aq(X:m.solo=true)(F:f.Good)(hlen:(au f [0,0]).length<1000000000/\(au f [0,1]).length<1000000000)(u:b≠mb)(P:Dc b 6 mb .u8 (eU f) σ)(h:∀σ',Dc b 6 mb .u8 (eU f) σ'->lI b mb σ σ'->KF (.val (int (jz f))) σ'):ar prog m 60 [iL b mb f 0] σ KF:=by
 have h6:=F.sH;unfold jz at h;refine fs [] 1 Tryz.func60 rfl rfl (by rfl) (by kernel_rfl) ?_
 simp[Tryz.f60]
 by_cases Q:f.aq.length<2
 . have p:(f.aq.length:Int)<2:=by omega
   rw[if_pos Q]at h;simp[p];exact .done (h σ P (lI.refl b mb σ))
 have p:¬(f.aq.length:Int)<2:=by omega
 rw[if_neg Q]at h;obtain⟨D,lm,v,Y⟩:=P;simp[p];refine z8 lay rfl Df rfl qa rfl (by decide) λcF k=>?_
 refine rn ?_;simp;refine cZ.intro λE g=>?_
 obtain⟨n1,Z,g⟩:=aa.aL g;simp;refine cZ.intro λgb d=>?_
 obtain⟨n3,n4,d⟩:=aa.aL d;obtain⟨n5,R,d⟩:=aa.aL d;simp;have S:cF≠b:=λe=>by rw[e,D]at k;cases k
 have T:cF≠mb:=λe=>by rw[e,v]at k;cases k
 have b3:E≠b:=λe=>by rw[e,D]at g;cases g
 have m3:E≠mb:=λe=>by rw[e,v]at g;cases g
 have w:gb≠b:=λe=>by rw[e,D]at d;cases d
 have gm:gb≠mb:=λe=>by rw[e,v]at d;cases d
 refine ab.cV 3 (b:=E) (.chan cF) (by simp[n4,aa.aj]) (by simp) rfl ?_
 refine ab.bM X ⟨2,cF,b,6,gb,mb,λx=>∃l,x=mapA .u8 l/\eU f l,λj=>int (au f (ii j)).length,nn,ng,by omega,S,R,T,Ne.symm w,u,gm⟩ O0 O3 uS uT B6 (tm:=false) (a:=mapA .u8 lm) (by simp[aa.del,aa.aj,Z,R]) (by simp[aa.del,n3]) (by simp[aa.del,aa.set,Ne.symm b3,Ne.symm w,Ne.symm S,D]) (by simp[aa.del,aa.set,Ne.symm m3,Ne.symm gm,Ne.symm T,v]) (by simp[mapA]) ⟨lm,rfl,Y⟩ rfl λpb a7 Fin kd a8 k0 y=>?_
 refine ab.Hm ?_;refine ab.runN lay [] 18 ?_;simp;refine cZ.intro λG z=>?_
 have n:G≠b:=λe=>by subst e;simp at z
 simp
 change ab _ _ _ _ _ _ _ _ _
 refine ab.cV 6 (b:=G) (.sl 1 [int 0,int 0] .exact) (aa.an _ _ _) (by simp) rfl ?_
 refine ab.Hk 6 (a':=.cp (ints [0,0]) 0) (by simp;exact ID rfl rfl (fC 1 [int 0,int 0] .exact)) ?_
 refine ab.J6 rfl rfl rfl (by simp) Tryz.func107 rfl rfl rfl ?_
 refine rn ?_;simp;refine ab.sK (hold':=[]) rfl rfl rfl (by simp) rfl Tryz.func108 rfl rfl (by show(4:Nat)<=13;decide) (by simp[j9.at,aa.del,aa.set,Ne.symm n]) (by kernel_rfl) (λU=>uW (b:=b) (mb:=mb) (f:=f) (begun:=[0,0]) ⟨rfl,rfl,rfl,rfl,rfl⟩ (λx=>Iff.rfl) F rfl (by simp) (by omega) rfl) ?_
 refine rn ?_;simp;refine ab.again (by kernel_rfl) ?_
 refine ab.runN lay [] 18 ?_;simp;refine cZ.intro λH A=>?_
 have q:H≠b:=λe=>by subst e;simp[aa.del,aa.set,Ne.symm n]at A
 simp
 change ab _ _ _ _ _ _ _ _ _
 refine ab.cV 6 (b:=H) (.sl 1 [int 0,int 1] .exact) (aa.an _ _ _) (by simp) rfl ?_
 refine ab.Hk 6 (a':=.cp (ints [0,1]) 0) (by simp;exact ID rfl rfl (fC 1 [int 0,int 1] .exact)) ?_
 refine ab.J6 rfl rfl rfl (by simp) Tryz.func107 rfl rfl rfl ?_
 refine rn ?_;simp;refine ab.sK (hold':=[]) rfl rfl rfl (by simp) rfl Tryz.func108 rfl rfl (by show(4:Nat)<=13;decide) (by simp[j9.at,aa.del,aa.set,Ne.symm q,Ne.symm n]) (by kernel_rfl) (λU=>uW (b:=b) (mb:=mb) (f:=f) (begun:=[0,1]) ⟨rfl,rfl,rfl,rfl,rfl⟩ (λx=>Iff.rfl) F rfl (by simp) (by omega) rfl) ?_
 refine rn ?_;simp;refine ab.again (by kernel_rfl) ?_
 refine rn ?_;simp;refine ab.Qb (hold':=[]) rfl rfl rfl (by simp) rfl Tryz.func110 rfl rfl (by show(2:Nat)<=4;decide) (by simp[j9.at,aa.del,aa.set,Ne.symm q,Ne.symm n]) (by kernel_rfl) (λU=>B7 rfl rfl) ?_
 refine rn ?_;simp;refine ab.Hm ?_;refine rn ?_;simp;refine ab.Db lay rfl rfl Df rfl qa (by simp) rfl rfl λo I=>?_
 have r:∀j,(au f (ii j)).length<1000000000:=λj=>by
  unfold ii;split
  . exact hlen.1
  . exact hlen.2
 have f1:-9223372036854775808<=((au f (ii o)).length:Int)/\((au f (ii o)).length:Int)<=9223372036854775807:=by have:=r o;omega
 refine rn ?_;simp[j9.at,f1.1,f1.2];refine ab.again (by kernel_rfl) ?_
 refine rn ?_;simp;refine ab.Db lay rfl rfl Df rfl qa (by simp) rfl rfl λs J=>?_
 have V:-9223372036854775808<=((au f (ii o)).length:Int)+((au f (ii s)).length:Int)/\((au f (ii o)).length:Int)+((au f (ii s)).length:Int)<=9223372036854775807:=by have:=r o;have:=r s;omega
 refine rn ?_;simp[V.1,V.2];refine ab.again (by kernel_rfl) ?_
 refine rn ?_;simp;refine ab.yl lay rfl rfl Df rfl qa (by simp) rfl rfl (by simp[aa.del,aa.set,Ne.symm q,Ne.symm n]) rfl y λa ha=>?_
 refine rn ?_;simp
 have B:((au f (ii o)).length:Int)+((au f (ii s)).length:Int)=((au f [0,0]).length:Int)+((au f [0,1]).length:Int):=by
  have i:o∈List.range 2:=I;have t:s∈(List.range 2).erase o:=J;have:o=0\/o=1:=by have:=List.mem_range.1 i;omega
  rcases this with rfl|rfl
  . have:s=1:=by simpa[List.range,List.range.loop]using t
    subst this;rfl
  . have:s=0:=by simpa[List.range,List.range.loop]using t
    subst this;exact Int.add_comm _ _
 rw[B];obtain⟨la,rfl,K⟩:=ha;refine .done (h _ ⟨aa.an _ _ _,la,(aa.aj _ _ (Ne.symm u)).trans (aa.an _ _ _),K⟩ λc x i t C=>?_)
 have L:c≠mb:=λe=>by
  subst e;rw[v]at i;cases i
  rcases C with C|C
  . exact C rfl
  . cases C
 have M:c≠cF:=λe=>by subst e;rw[k]at i;cases i
 have N:c≠E:=λe=>by subst e;rw[g]at i;cases i
 have O:c≠gb:=λe=>by subst e;rw[d]at i;cases i
 have W:c≠G:=λe=>by subst e;simp[aa.del,aa.set,L,M,N,O,t,i]at z
 have e6:c≠H:=λe=>by subst e;simp[aa.del,aa.set,L,M,N,O,W,t,i]at A
 simp[aa.del,aa.set,L,M,N,O,W,e6,t,i]
end
section
variable{b mb:Nat}{f:Fr}{Un:aa->Prop}{Ld:aa->List (Int × AV)->Prop}
theorem uX(W:FL prog m nn b 6 mb .u8 (eU f) Un Ld)(hf:f.Good){L:AV}{p:List Int->Bool}(B:L.cells=[L]/\L.flat=true)(a7:∀w∈au f [],∀(σ:aa) (KF:eI->aa->Prop),KF (.val (bool (p w))) σ->dl prog m L [ints w] σ KF)(hlen:(au f []).length<1152921504606846976)(hu:Un σ)
 (h:∀σ',Un σ'->lI b mb σ σ'->KF (.val (.cq [int (((au f []).filter p).length),int (au f []).length])) σ'):ar prog m 91 [iL b mb f 0,L] σ KF:=by
 refine fs OG 2 Tryz.func91 rfl rfl (by rfl) (by kernel_rfl) ?_
 simp[Tryz.f91,B.1,B.2];refine cZ.intro λj h6=>?_
 simp;refine cZ.intro λi h7=>?_
 obtain⟨X,z2,h7⟩:=aa.aL h7;simp[X,z2,aa.aj];have hW:Wl [iL b mb f 0,AV.lit (.slice none 0 0)] [iL b mb f 0,ints []]:=.cons (.refl _) (.cons (gl 1) .nil);refine bi Tryz.func63 rfl rfl hW (sT (begun:=[]) ?_);refine rn ?_;simp;refine ab.rangeFunc rfl λa8 r l t v C=>?_
 obtain⟨a1,_,t⟩:=aa.aL t;obtain⟨a2,_,t⟩:=aa.aL t;obtain⟨_,_,t⟩:=aa.aL t;obtain⟨_,_,t⟩:=aa.aL t;obtain⟨a3,_,v⟩:=aa.aL v;obtain⟨a4,_,v⟩:=aa.aL v;obtain⟨_,_,v⟩:=aa.aL v;obtain⟨_,_,v⟩:=aa.aL v;have z:σ r=none/\r≠j/\r≠i:=⟨t,a2,a1⟩;have d:σ l=none/\l≠j/\l≠i:=⟨v,a4,a3⟩;generalize M:mT.mk _ _ _ _ _ _ _ _ _=N
 have hY:Mb m (.fn (.yield l) [] []) (au f []) (λk F σ'=>(∀c,F c↔c=l\/c=j\/c=i)/\σ' l=some (.loop N)/\σ' j=some (.cells [int ((((au f []).take k).filter p).length)])/\σ' i=some (.cells [int k])) (λF σ'=>False):=by
  refine⟨λk F σ' ay hk D hT hF=>?_,λk F a9 o Y D=>?_,λF a9 o Y D=>D.elim,λk F σ' c D s=>?_⟩
  . obtain⟨a,J,O,P⟩:=D
    have e7:∀x,(σ'.set l x) i=some (.cells [int k]):=λx=>(aa.aj _ _ (Ne.symm d.2.2)).trans P
    have f1:-9223372036854775808<=(k:Int)+1/\(k:Int)+1<=9223372036854775807:=by omega
    have b0:(((au f []).take k).filter p).length<=k:=Nat.le_trans (List.length_filter_le _ _) (by rw[List.length_take];omega)
    have f2:-9223372036854775808<=((((au f []).take k).filter p).length:Int)+1/\((((au f []).take k).filter p).length:Int)+1<=9223372036854775807:=by omega
    have u:(((au f []).take (k+1)).filter p).length=(((au f []).take k).filter p).length+if p (au f [])[k]then 1 else 0:=by
     rw[List.take_succ_eq_append_getElem hk,List.filter_append,List.length_append];congr 1
     by_cases Z:p (au f [])[k]<;>simp[Z]
    have Q:(au f [])[k]∈au f []:=List.getElem_mem hk;subst M;refine dl.xK (hold:=OG) a8 Tryz.func91 J rfl ?_;refine rn ?_;simp[lX];refine ab.beginRound J rfl ?_;refine rn ?_;simp[e7,f1.1,f1.2,B.1];refine a7 _ Q _ _ ?_;have e6:∀x y,((σ'.set l x).set i y) j=some (.cells [int ((((au f []).take k).filter p).length)]):=λx y=>(aa.aj _ _ (Ne.symm X)).trans ((aa.aj _ _ (Ne.symm d.2.1)).trans O)
    cases Z:p (au f [])[k]
    . refine rn ?_
      simp;refine⟨rfl,rfl,_,((aa.aj _ _ d.2.2).trans (aa.an _ _ _)),?_⟩;refine hT F _ (λc x s hx=>⟨?_,s⟩) ⟨a,aa.an _ _ _,?_,(aa.aj _ _ (Ne.symm d.2.2)).trans (aa.an _ _ _)⟩
      . have E:c≠l:=λe=>s ((a c).2 (.inl e))
        have R:c≠i:=λe=>s ((a c).2 (.inr (.inr e)))
        exact(aa.aj _ _ E).trans ((aa.aj _ _ R).trans ((aa.aj _ _ E).trans hx))
      . refine(aa.aj _ _ (Ne.symm d.2.1)).trans ((e6 _ _).trans ?_)
        rw[u,Z];rfl
    . refine rn ?_
      simp[e6,f2.1,f2.2];refine⟨rfl,rfl,_,((aa.aj _ _ d.2.1).trans ((aa.aj _ _ d.2.2).trans (aa.an _ _ _))),?_⟩;refine hT F _ (λc x s hx=>⟨?_,s⟩) ⟨a,aa.an _ _ _,?_,(aa.aj _ _ (Ne.symm d.2.2)).trans ((aa.aj _ _ X).trans (aa.an _ _ _))⟩
      . have E:c≠l:=λe=>s ((a c).2 (.inl e))
        have q2:c≠j:=λe=>s ((a c).2 (.inr (.inl e)))
        have R:c≠i:=λe=>s ((a c).2 (.inr (.inr e)))
        exact(aa.aj _ _ E).trans ((aa.aj _ _ q2).trans ((aa.aj _ _ R).trans ((aa.aj _ _ E).trans hx)))
      . refine(aa.aj _ _ (Ne.symm d.2.1)).trans ((aa.an _ _ _).trans ?_)
        rw[u,Z];simp
  . obtain⟨a,J,O,P⟩:=D
    exact⟨a,by rw[Y l ((a l).2 (.inl rfl))];exact J,by rw[Y j ((a j).2 (.inr (.inl rfl)))];exact O,by rw[Y i ((a i).2 (.inr (.inr rfl)))];exact P⟩
  . obtain⟨a,J,O,P⟩:=D
    rcases(a c).1 s with rfl|rfl|rfl
    . exact⟨_,J,rfl⟩
    . exact⟨_,O,rfl⟩
    . exact⟨_,P,rfl⟩
 obtain⟨xb,S,b1⟩:=W.L2 hu;have nb:∀c,σ c=none->c≠b:=λc s e=>by subst e;rw[s]at S;cases S
 have T:σ.Le ((((((σ.set j (.cells [int 0])).set i (.cells [int 0])).set j (.cells [int 0])).set i (.cells [int 0])).set r (.raw (.deferred (some [])))).set l (.loop N)):=(by repeat (first|exact aa.le_refl _|assumption|refine aa.iz ?_ (by assumption)|refine aa.jQ ?_ (by assumption)))
 have sr:((((((σ.set j (.cells [int 0])).set i (.cells [int 0])).set j (.cells [int 0])).set i (.cells [int 0])).set r (.raw (.deferred (some [])))).set l (.loop N)) r=some (.raw (.deferred (some []))):=(aa.aj _ _ C).trans (aa.an _ _ _);have s7:((((((σ.set j (.cells [int 0])).set i (.cells [int 0])).set j (.cells [int 0])).set i (.cells [int 0])).set r (.raw (.deferred (some [])))).set l (.loop N)) i=some (.cells [int 0]):=(aa.aj _ _ (Ne.symm d.2.2)).trans ((aa.aj _ _ (Ne.symm z.2.2)).trans (aa.an _ _ _))
 have s6:((((((σ.set j (.cells [int 0])).set i (.cells [int 0])).set j (.cells [int 0])).set i (.cells [int 0])).set r (.raw (.deferred (some [])))).set l (.loop N)) j=some (.cells [int 0]):=(aa.aj _ _ (Ne.symm d.2.1)).trans ((aa.aj _ _ (Ne.symm z.2.1)).trans ((aa.aj _ _ (Ne.symm X)).trans (aa.an _ _ _)))
 refine eP Tryz.func112 rfl rfl rfl (qi (F:=λc=>c=l\/c=j\/c=i) W hf (by simp) hY ⟨rfl,rfl⟩ (W.un (λc _ ⟨x,n,_⟩=>(T _ _ n).trans n.symm) hu) ⟨λc=>Iff.rfl,aa.an _ _ _,by simpa using s6,by simpa using s7⟩ λF' σ' U ad A=>?_)
 have V:=(U r _ sr (λe=>by rcases e with e|e|e;exact C e;exact z.2.1 e;exact z.2.2 e) (nb r t) (.inr rfl)).1
 have G:lI b mb σ σ':=λc x n K H=>(U c x (T c x n) (λe=>by rcases e with e|e|e<;>subst e<;>simp_all) K H).1
 have I:∀o,o=(σ'.del l).set r (.raw (.deferred none))->Un o/\lI b mb σ o:=λo e=>by
  subst e;refine⟨W.un (σ:=σ') (λc _ ⟨x,n,K⟩=>?_) ad,λc x n K H=>?_⟩
  . have c1:c≠r:=λe=>by subst e;rw[V]at n;cases n;cases K
    have c2:c≠l:=λe=>by
     subst e
     rcases A with⟨_,g,_⟩|g
     . rw[g]at n;cases n;cases K
     . exact g.elim
    rw[aa.aj _ _ c1];simp[aa.del,c2]
  . have c1:c≠r:=λe=>by subst e;rw[t]at n;cases n
    have c2:c≠l:=λe=>by subst e;rw[v]at n;cases n
    rw[aa.aj _ _ c1];simp only[aa.del,c2,if_false];exact G c x n K H
 rcases A with⟨_,E,q2,R⟩|q
 . rw[List.take_length]at q2
   subst M;refine⟨_,E,by simp,rfl,?_⟩
   have av:(σ'.del l) j=some (.cells [int ((au f []).filter p).length]):=by simp only[aa.del,Ne.symm d.2.1,if_false];exact q2
   have ax:(σ'.del l) i=some (.cells [int (au f []).length]):=by simp only[aa.del,Ne.symm d.2.2,if_false];exact R
   refine rn ?_;simp[av,ax];refine rn ?_;simp;refine⟨by simp only[aa.del,C,if_false];exact V,.done ?_⟩
   obtain⟨e1,e2⟩:=I _ rfl;exact h _ e1 e2
 . exact q.elim
end
end Go.Proofs.YtldmpfccgajobaaGreatDoor
