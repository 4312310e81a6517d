/- Part 31 of the proof. -/
import Derived.Test.YtigilmjkokbblaaGreatDoorC30
set_option linter.all false
namespace Go.Proofs.YtigilmjkokbblaaGreatDoor
open Tryz (prog)
open Go.bd Go.Conc
set_option maxHeartbeats 1000000
set_option maxRecDepth 4000
variable{m:Mo}{σ:aa}{KF:dV->aa->Prop}
structure Nr(f:Fr)(l:List Int):Prop where
 mem:∀n∈l,0<=n/\n<f.aA.length
 ne:l≠[]
 len:l.length<=1000000
def dM(f:Fr)(l:List Int):Bool:=l.any λn=>decide ((bp f n).bE≠(bp f (l.getD 0 0)).bE)
theorem gn{f:Fr}{x:Int}(h:x.toNat<f.aA.length):bp f x=f.aA[x.toNat]:=by simp[bp,List.getD_eq_getElem?_getD,h]
theorem FQ{b mb:Nat}{f:Fr}{l:List Int}(x:Nr f l)(h:KF (.val (bool (dM f l))) σ):aB prog m 180 [.agg [],iu b mb f 0,ints l] σ KF:=by
 obtain⟨r,q,hlen⟩:=x;have d:0<l.length:=List.length_pos_iff.2 q;obtain⟨y,C⟩:=r _ (List.getElem_mem d);have t:l[0].toNat<f.aA.length:=by omega
 have z:l.getD 0 0=l[0]:=by simp[List.getD_eq_getElem?_getD,d]
 unfold dM at h;rw[z]at h;refine fs T2 3 Tryz.func180 rfl rfl (by rfl) (by kernel_rfl) ?_
 simp[Tryz.f180];refine ab.loop l.length (λk s=>∃env,s=⟨env,σ,[],.no⟩/\env 1=iu b mb f 0/\env 2=ints l/\env 9=ints l/\env 10=int l.length/\env 11=int k/\∀n∈l.take k,(bp f n).bE=(bp f l[0]).bE) ⟨_,rfl,by simp⟩ ?_
 rintro D k _ E ⟨env,rfl,g,i,j,a,c,e⟩ A
 rcases Nat.lt_or_ge k l.length with g1|g1
 . obtain⟨y0,F⟩:=r _ (List.getElem_mem g1)
   have u:l[k].toNat<f.aA.length:=by omega
   have v:=gn u;have w:=gn t;refine rn ?_;simp[g,i,j,a,c,g1,d,y0,u,y,t];refine rn ?_;simp[g,i,j,a,c]
   by_cases p:f.aA[l[k].toNat].bE=f.aA[l[0].toNat].bE
   . simp[g,i,j,a,c,p]
     refine⟨by omega,A _ g1 ⟨_,rfl,by simp[g,i,j,a,c],by simp[g,i,j,a,c],by simp[g,i,j,a,c],by simp[g,i,j,a,c],by simp,λn o=>?_⟩⟩
     rw[List.take_succ_eq_append_getElem g1,List.mem_append,List.mem_singleton]at o
     rcases o with o|rfl
     . exact e n o
     . rw[v,w];exact p
   . have B:(f.aA[l[k].toNat].bE !=f.aA[l[0].toNat].bE)=true:=by simp[p]
     have:l.any (λn=>decide ((bp f n).bE≠(bp f l[0]).bE))=true:=List.any_eq_true.2 ⟨_,List.getElem_mem g1,by rw[v,w];simp[p]⟩
     rw[this]at h;simp[g,i,j,a,c,B];exact .done h
 . have:k=l.length:=by omega
   subst this;rw[List.take_length]at e
   have:l.any (λn=>decide ((bp f n).bE≠(bp f l[0]).bE))=false:=by rw[List.any_eq_false];intro n o;simp[e n o]
   rw[this]at h;refine rn ?_;simp[g,i,j,a,c];exact .done h
def cC(f:Fr)(l:List Int):Bool:=decide (dT f l=[])
theorem FT{b mb:Nat}{f:Fr}{l:List Int}(g:f.Good)(c:Nr f l)(h:KF (.val (bool (cC f l))) σ):aB prog m 181 [.agg [],iu b mb f 0,ints l] σ KF:=by
 refine fs [] 3 Tryz.func181 rfl rfl (by rfl) (by kernel_rfl) ?_
 simp[Tryz.f181];refine cf Tryz.func46 rfl (yh g c.ne c.len c.mem ?_);refine rn ?_;simp;unfold cC at h;cases d:dT f l with
 |nil=>rw[d]at h;exact .done h
 | cons a r=>
   rw[d]at h;have e:((r.length:Int)+1==0)=false:=by rw[beq_eq_false_iff_ne];omega
   refine .done ?_;simpa[e]using h
def gi(f:Fr)(x y:Int):Bool:=decide ((bp f y).hour-(bp f x).hour<rd f.roads (bp f x).place.toNat (bp f y).place.toNat+f.dO*bF (br (bp f x).marks) (br (bp f y).marks))
def bj(f:Fr)(l:List Int):Bool:=(List.range (l.length-1)).any λi=>gi f (l.getD i 0) (l.getD (i+1) 0)
theorem om:∀{l:List Int}{p:Option Int},mw p l=0->∀n∈l,0<=n/\n<=4
 |[],_,_,n,hn=>by simp at hn
 | a::l,p,h,n,hn=>by
   unfold mw at h;split at h
   . cases h
   next b=>
   split at h
   . cases h
   next c=>
   rcases List.mem_cons.1 hn with rfl|hn
   . simp[dz]at b;omega
   . exact om h n hn
theorem IK:∀a:Fin 32,∀n:Fin 5,0<=cL (a.val:Int) (n.val:Int)/\cL (a.val:Int) (n.val:Int)<32:=by decide
theorem kv{l:List Int}(h:∀n∈l,0<=n/\n<=4):0<=br l/\br l<32:=by
 have key:∀(l:List Int) (a:Int),(∀n∈l,0<=n/\n<=4)->0<=a/\a<32->0<=l.foldl cL a/\l.foldl cL a<32:=by
  intro l;induction l with
  |nil=>intro a _ h;exact h
  | cons x l c=>
    intro a b g;rw[List.foldl_cons];refine c _ (λn d=>b n (List.mem_cons_of_mem _ d)) ?_;obtain⟨i,j⟩:=b x (List.mem_cons_self ..);have:=IK ⟨a.toNat,by omega⟩ ⟨x.toNat,by omega⟩;have e:(a.toNat:Int)=a:=by omega
    have f:(x.toNat:Int)=x:=by omega
    simpa only[e,f]using this
 exact key l 0 h (by omega)
theorem LX:∀a:Fin 32,∀b:Fin 32,tv 8 (yg (a.val:Int) (b.val:Int))=0/\0<=bF (a.val:Int) (b.val:Int)/\bF (a.val:Int) (b.val:Int)<=5:=by decide +kernel
theorem Gq{a b:Int}(e:0<=a/\a<32)(hb:0<=b/\b<32):tv 8 (yg a b)=0/\0<=bF a b/\bF a b<=5:=by
 have:=LX ⟨a.toNat,by omega⟩ ⟨b.toNat,by omega⟩;have c:(a.toNat:Int)=a:=by omega
 have d:(b.toNat:Int)=b:=by omega
 simpa only[c,d]using this
theorem Fr.Good.row{f:Fr}(a:f.Good){i:Nat}(b:i<f.roads.length):f.roads[i].length=f.roads.length/\∀x∈f.roads[i],0<=x/\x<=9:=by
 have h:=a.J3;unfold fe at h;split at h
 . cases h
 split at h
 . cases h
 split at h
 . next q=>exact absurd h q
 next q=>
 obtain⟨c,d⟩:=gS (by simpa using q) _ (List.getElem_mem b);exact⟨c,λx e=>iC (d x e)⟩
theorem FU{b mb:Nat}{f:Fr}{l:List Int}(x:f.Good)(hl:Nr f l)(h:KF (.val (bool (bj f l))) σ):aB prog m 182 [.agg [],iu b mb f 0,ints l] σ KF:=by
 obtain⟨Y,a7,hlen⟩:=hl;have D:=x.dO;unfold bj at h;refine fs T3 3 Tryz.func182 rfl rfl (by rfl) (by kernel_rfl) ?_
 simp[Tryz.f182];refine ab.loop (l.length-1) (λk s=>∃env q,s=⟨env,q,[],.no⟩/\σ.Le q/\env 1=iu b mb f 0/\env 2=ints l/\env 7=int ((k:Int)+1)/\∀i<k,gi f (l.getD i 0) (l.getD (i+1) 0)=false) ⟨_,_,rfl,aa.le_refl _,by simp⟩ ?_
 rintro c0 k _ hk ⟨env,q,rfl,E,a,g,j,p⟩ Z
 rcases Nat.lt_or_ge (k+1) l.length with g1|g1
 . have P:(k:Int)+1<l.length:=by omega
   have Q:k<l.length:=by omega
   obtain⟨x0,x1⟩:=Y _ (List.getElem_mem Q);obtain⟨y0,y1⟩:=Y _ (List.getElem_mem g1);have F:l[k].toNat<f.aA.length:=by omega
   have G:l[k+1].toNat<f.aA.length:=by omega
   have f1:-9223372036854775808<=(k:Int)/\(k:Int)<=9223372036854775807:=by omega
   have f2:((k:Int)+1).toNat=k+1:=by omega
   have f3:(0:Int)<=(k:Int)+1:=by omega
   obtain⟨A,H⟩:∃A,A=f.aA[l[k].toNat]:=⟨_,rfl⟩;obtain⟨B,I⟩:∃B,B=f.aA[l[k+1].toNat]:=⟨_,rfl⟩;have eA:=gn F;have eB:=gn G;rw[<-H]at eA;rw[<-I]at eB;have bA:=oX (x.yz A (by rw[H];exact List.getElem_mem F))
   have bB:=oX (x.yz B (by rw[I];exact List.getElem_mem G))
   refine rn ?_;simp[a,g,j,P,Q,g1,x0,F,y0,G,f1.1,f1.2,f2,f3,<-H,<-I];have r:=λ{c:Nat}(J:q c=none)=>E.none J
   have K:A.place.toNat<f.roads.length:=by omega
   obtain⟨r1,r2⟩:=x.row K;have L:B.place.toNat<f.roads[A.place.toNat].length:=by omega
   obtain⟨r3,r4⟩:=r2 _ (List.getElem_mem L);have R:rd f.roads A.place.toNat B.place.toNat=f.roads[A.place.toNat][B.place.toNat]:=dA K L;have S:=om bA.2.2.2.2.2;have T:=om bB.2.2.2.2.2;have lA:=kv S;have lB:=kv T;obtain⟨c1,U,c3⟩:=Gq lA lB;obtain⟨ch,t⟩:∃ch,ch=bF (br A.marks) (br B.marks):=⟨_,rfl⟩;rw[<-t]at U c3
   have hmul:0<=f.dO*ch/\f.dO*ch<=30:=by
    constructor
    . exact Int.mul_nonneg (by omega) U
    . calc f.dO*ch<=6*5:=Int.mul_le_mul D.2 c3 U (by omega)
       _=30:=by rfl
   have o:gi f l[k] l[k+1]=decide (B.hour-A.hour<f.roads[A.place.toNat][B.place.toNat]+f.dO*ch):=by unfold gi;rw[eA,eB,R,t]
   have u:l.getD k 0=l[k]:=by simp[List.getD_eq_getElem?_getD,Q]
   have v:l.getD (k+1) 0=l[k+1]:=by simp[List.getD_eq_getElem?_getD,g1]
   have M:-9223372036854775808<=B.hour-A.hour/\B.hour-A.hour<=9223372036854775807:=by omega
   have N:-9223372036854775808<=f.dO*ch/\f.dO*ch<=9223372036854775807:=by omega
   have O:-9223372036854775808<=f.roads[A.place.toNat][B.place.toNat]+f.dO*ch/\f.roads[A.place.toNat][B.place.toNat]+f.dO*ch<=9223372036854775807:=by omega
   refine⟨pI.intro λc J=>?_,pI.intro λc J=>?_⟩
   . simp[a,g,j]
     refine pI.intro λd hd=>?_
     obtain⟨y,z,hd⟩:=aa.aF hd;have V:=r J;have W:=r hd;simp[a,g,j,y,z,aa.ag];refine ab.bY 8 (b:=c) (aW A) (by simp[y,z,aa.ag]) (by simp) rfl ?_
     refine ab.bY 9 (b:=d) (aW B) (by simp[y,z,aa.ag,aa.del]) (by simp) rfl ?_
     refine rn ?_;simp[a,g,j,M.1,M.2,K,L];refine⟨by omega,by omega,?_⟩
     refine cf Tryz.func183 rfl (oV (by have:=x.fits.marks A (by rw[H];exact List.getElem_mem F);omega) (λn C=>(S n C).1) ?_)
     refine pg ?_;simp[a,g,j];refine cf Tryz.func183 rfl (oV (by have:=x.fits.marks B (by rw[I];exact List.getElem_mem G);omega) (λn C=>(T n C).1) ?_)
     refine pg ?_;simp[a,g,j];refine cf Tryz.func184 rfl (yj c1 ?_);rw[<-t];refine pg ?_;simp[a,g,j,N.1,N.2,O.1,O.2];refine rn ?_;simp[a,g,j]
     by_cases w:B.hour-A.hour<f.roads[A.place.toNat][B.place.toNat]+f.dO*ch
     . simp[a,g,j,w]
       have:(List.range (l.length-1)).any (λi=>gi f (l.getD i 0) (l.getD (i+1) 0))=true:=List.any_eq_true.2 ⟨k,List.mem_range.2 (by omega),by rw[u,v,o];simpa using w⟩
       rw[this]at h;exact .less (by repeat (first|exact aa.le_refl _|assumption|refine aa.ia ?_ (by assumption)|refine aa.jT ?_ (by assumption))) (.done h)
     . simp[a,g,j,w]
       refine⟨by omega,Z _ (by omega) ⟨_,_,rfl,(by repeat (first|exact aa.le_refl _|assumption|refine aa.ia ?_ (by assumption)|refine aa.jT ?_ (by assumption))),by simp[a,g,j],by simp[a,g,j],by simp,λi X=>?_⟩⟩
       by_cases e:i=k
       . subst e;rw[u,v,o];simpa using w
       . exact p i (by omega)
   . simp[a,g,j]
     refine pI.intro λd hd=>?_
     obtain⟨y,z,hd⟩:=aa.aF hd;have V:=r J;have W:=r hd;simp[a,g,j,y,z,aa.ag];refine ab.bY 8 (b:=d) (aW A) (by simp[y,z,aa.ag]) (by simp) rfl ?_
     refine ab.bY 9 (b:=c) (aW B) (by simp[y,z,aa.ag,aa.del]) (by simp) rfl ?_
     refine rn ?_;simp[a,g,j,M.1,M.2,K,L];refine⟨by omega,by omega,?_⟩
     refine cf Tryz.func183 rfl (oV (by have:=x.fits.marks A (by rw[H];exact List.getElem_mem F);omega) (λn C=>(S n C).1) ?_)
     refine pg ?_;simp[a,g,j];refine cf Tryz.func183 rfl (oV (by have:=x.fits.marks B (by rw[I];exact List.getElem_mem G);omega) (λn C=>(T n C).1) ?_)
     refine pg ?_;simp[a,g,j];refine cf Tryz.func184 rfl (yj c1 ?_);rw[<-t];refine pg ?_;simp[a,g,j,N.1,N.2,O.1,O.2];refine rn ?_;simp[a,g,j]
     by_cases w:B.hour-A.hour<f.roads[A.place.toNat][B.place.toNat]+f.dO*ch
     . simp[a,g,j,w]
       have:(List.range (l.length-1)).any (λi=>gi f (l.getD i 0) (l.getD (i+1) 0))=true:=List.any_eq_true.2 ⟨k,List.mem_range.2 (by omega),by rw[u,v,o];simpa using w⟩
       rw[this]at h;exact .less (by repeat (first|exact aa.le_refl _|assumption|refine aa.ia ?_ (by assumption)|refine aa.jT ?_ (by assumption))) (.done h)
     . simp[a,g,j,w]
       refine⟨by omega,Z _ (by omega) ⟨_,_,rfl,(by repeat (first|exact aa.le_refl _|assumption|refine aa.ia ?_ (by assumption)|refine aa.jT ?_ (by assumption))),by simp[a,g,j],by simp[a,g,j],by simp,λi X=>?_⟩⟩
       by_cases e:i=k
       . subst e;rw[u,v,o];simpa using w
       . exact p i (by omega)
 . have g2:¬(k:Int)+1<l.length:=by omega
   have:(List.range (l.length-1)).any (λi=>gi f (l.getD i 0) (l.getD (i+1) 0))=false:=by
    rw[List.any_eq_false];intro i X;rw[p i (by have:=List.mem_range.1 X;omega)]
    simp
   rw[this]at h;refine rn ?_;simp[a,g,j,g2];exact .less E (.done h)
theorem T7:(((prog.info? 141).bind λi=>i.methods.find? (·.name==  "palfrey/mark.breaks")).map λmt=>(mt.path,mt.func))=some (#[],some (180,false)):=by kernel_rfl
theorem T8:(((prog.info? 142).bind λi=>i.methods.find? (·.name==  "palfrey/mark.breaks")).map λmt=>(mt.path,mt.func))=some (#[],some (181,false)):=by kernel_rfl
theorem T9:(((prog.info? 143).bind λi=>i.methods.find? (·.name==  "palfrey/mark.breaks")).map λmt=>(mt.path,mt.func))=some (#[],some (182,false)):=by kernel_rfl
theorem QQ{a:AV}:oB prog 141  "palfrey/mark.breaks" 180 a a:=by obtain⟨mt,b,e⟩:=Option.map_eq_some_iff.1 T7;obtain⟨info,c,d⟩:=Option.bind_eq_some_iff.1 b;obtain⟨f,g⟩:=Prod.mk.inj e;exact rR lay TR c d (by rw[f]) g rfl
theorem QR{a:AV}:oB prog 142  "palfrey/mark.breaks" 181 a a:=by obtain⟨mt,b,e⟩:=Option.map_eq_some_iff.1 T8;obtain⟨info,c,d⟩:=Option.bind_eq_some_iff.1 b;obtain⟨f,g⟩:=Prod.mk.inj e;exact rR lay TS c d (by rw[f]) g rfl
theorem QS{a:AV}:oB prog 143  "palfrey/mark.breaks" 182 a a:=by obtain⟨mt,b,e⟩:=Option.map_eq_some_iff.1 T9;obtain⟨info,c,d⟩:=Option.bind_eq_some_iff.1 b;obtain⟨f,g⟩:=Prod.mk.inj e;exact rR lay TU c d (by rw[f]) g rfl
def aL(f:Fr)(l:List Int):List Int:=(dk (λa b=>decide (tF f a b<0)) l).reverse
def kr(f:Fr)(l:List Int):Int:=if dM f (aL f l)then 1 else if cC f (aL f l)then 2 else if bj f (aL f l)then 3 else 0
abbrev Ua(n:Int):AV:=if n=1 then .lg 141 (.agg [])else if n=2 then .lg 142 (.agg [])else if n=3 then .lg 143 (.agg [])else .lit .nilIface
theorem Nr.sort{f:Fr}{l:List Int}(h:Nr f l):Nr f (aL f l):=
 ⟨fun n a=>h.mem n ((qk _ _ _).1 (by simpa[aL]using a)),λe=>h.ne (by
   have:(aL f l).length=l.length:=by simp[aL,jR]
   rw[e]at this;exact List.length_eq_zero_iff.1 this.symm),by simp[aL,jR,h.len]⟩
theorem FV{b mb:Nat}{f:Fr}{l:List Int}(y:f.Good)(v:Nr f l)(d:l.length<20)(h:KF (.val (Ua (kr f l))) σ):aB prog m 43 [iu b mb f 0,ints l] σ KF:=by
 have t:=v.sort;refine fs [] 2 Tryz.func43 rfl rfl (by rfl) (by kernel_rfl) ?_;simp[Tryz.f43];refine bL.intro λc B=>?_
 simp;refine cf Tryz.func88 rfl (OZ LW v.mem d v.ne ⟨rfl,rfl⟩ ?_);obtain⟨S,z⟩:∃S,S=(dk (λa b=>decide (tF f a b<0)) l).reverse:=⟨_,rfl⟩;have r:aL f l=S:=z.symm;rw[r]at t;unfold kr at h;rw[r]at h;rw[<-z];refine rn ?_;simp;refine ab.loop 3 (λk s=>∃env o,s=⟨env,o,[],.no⟩/\σ.Le o/\env 1=ints S/\env 2=.cp (iu b mb f 0) 0/\env 19=.sl 1 [.lg 141 (.agg []),.lg 142 (.agg []),.lg 143 (.agg [])] .exact/\env 20=int 3/\env 21=int k/\(1<=k->dM f S=false)/\(2<=k->cC f S=false)/\(3<=k->bj f S=false)) ⟨_,_,rfl,aa.dg (aa.le_refl _) B,by simp,by simp,by simp,by simp,by simp,by simp,by simp,by simp⟩ ?_;rintro E k _ F ⟨env,o,rfl,n,i,j,e,d,g,w,A,C⟩ x;obtain rfl|rfl|rfl|rfl:k=0\/k=1\/k=2\/k=3:=by omega
 . refine rn ?_
   simp[i,j,e,d,g];refine ab.invoke rfl rfl rfl (by simp) rfl QQ Tryz.func180 rfl rfl ?_;refine FQ t ?_;refine rn ?_;simp[i,j,e,d,g];cases hb:dM f S
   . simp[i,j,e,d,g]
     exact x _ (by omega) ⟨_,_,rfl,n,by simp[i,j,e,d,g],by simp[i,j,e,d,g],by simp[i,j,e,d,g],by simp[i,j,e,d,g],by simp,λ_=>hb,λq=>(by omega),λq=>(by omega)⟩
   . simp[i,j,e,d,g]
     simp[hb]at h;exact .less n (.done h)
 . have p:=w (by omega)
   refine rn ?_;simp[i,j,e,d,g];refine ab.invoke rfl rfl rfl (by simp) rfl QR Tryz.func181 rfl rfl ?_;refine FT y t ?_;refine rn ?_;simp[i,j,e,d,g];cases hb:cC f S
   . simp[i,j,e,d,g]
     exact x _ (by omega) ⟨_,_,rfl,n,by simp[i,j,e,d,g],by simp[i,j,e,d,g],by simp[i,j,e,d,g],by simp[i,j,e,d,g],by simp,λ_=>p,λ_=>hb,λq=>(by omega)⟩
   . simp[i,j,e,d,g]
     simp[hb,p]at h;exact .less n (.done h)
 . have p:=w (by omega)
   have u:=A (by omega);refine rn ?_;simp[i,j,e,d,g];refine ab.invoke rfl rfl rfl (by simp) rfl QS Tryz.func182 rfl rfl ?_;refine FU y t ?_;refine rn ?_;simp[i,j,e,d,g];cases hb:bj f S
   . simp[i,j,e,d,g]
     exact x _ (by omega) ⟨_,_,rfl,n,by simp[i,j,e,d,g],by simp[i,j,e,d,g],by simp[i,j,e,d,g],by simp[i,j,e,d,g],by simp,λ_=>p,λ_=>u,λ_=>hb⟩
   . simp[i,j,e,d,g]
     simp[hb,p,u]at h;exact .less n (.done h)
 . have p:=w (by omega)
   have u:=A (by omega);have D:=C (by omega);simp[p,u,D]at h;refine rn ?_;simp[i,j,e,d,g];exact .less n (.done h)
end Go.Proofs.YtigilmjkokbblaaGreatDoor
namespace Go.Proofs.YtigilmjkokbblaaGreatDoor
open Tryz (prog)
open Go Go.bd
set_option maxRecDepth 100000
abbrev nn:Ae:=⟨132,133,144,145,149,151,115,116,127,114,148,150,153,154,156,157,159,218,166,21⟩
theorem LY:∀(a:Fl) b o kind,aR prog a [0,5] (LD prog nn b o kind) un=some (ui prog nn b o kind):=by intro a b o kind;kernel_rfl
theorem LZ:∀(a:Fl) b o kind,aR prog a [0] (ui prog nn b o kind) tt=some (Pu prog nn b o kind):=by intro a b o kind;kernel_rfl
theorem L0:∀(a:Fl) b o kind,aR prog a [0,2,3,4,5,12] (ui prog nn b o kind) ff=some (Us prog nn b o kind):=by intro a b o kind;kernel_rfl
theorem L1:∀(a:Fl) b o kind,aR prog a [8] (Pu prog nn b o kind) un=some (RA prog nn b o kind):=by intro a b o kind;kernel_rfl
theorem L2:∀(a:Fl) b o kind,aR prog a [9] (RA prog nn b o kind) (pt b o)=some (Pv prog nn b o kind):=by intro a b o kind;kernel_rfl
theorem L3:∀(a:Fl) b o kind,aR prog a [] (Pv prog nn b o kind) un=some (BK nn kind):=by intro a b o kind;kernel_rfl
theorem IL:∀(a:Fl) b o kind L K S aw sv it,pT prog a [0,2,3,4,5,6] (Qu prog nn b o kind aw sv it) (.word L K S 0)=some (HD prog nn b o kind L K S aw sv it):=by intro a b o kind L K S aw sv it;kernel_rfl
theorem IM:∀(a:Fl) b o kind L K S aw sv it,pT prog a [0,2,3,4,5,6] (GJ prog nn b o kind aw sv it) (.word L K S 0)=some (HD prog nn b o kind L K S aw sv it):=by intro a b o kind L K S aw sv it;kernel_rfl
theorem IN:∀(a:Fl) b o kind L K S aw sv it,pT prog a [0,2,3,4,5,6] (Qv prog nn b o kind aw sv it) (.word L K S 0)=some (HD prog nn b o kind L K S aw sv it):=by intro a b o kind L K S aw sv it;kernel_rfl
theorem L4:∀(a:Fl) b o kind K aw sv it,SZ prog a [0,2,3,4,5,6,17,18] (HD prog nn b o kind true K false aw sv it)=SQ prog nn b o kind K aw sv it:=by intro a b o kind K aw sv it;cases K<;>cases aw<;>cases sv<;>kernel_rfl
theorem L5:∀(a:Fl) b o kind L K S aw sv it,(L && !S)=false->(aw && !K)=false->SZ prog a [0,2,3,4,5,6,77,78,79] (HD prog nn b o kind L K S aw sv it)=Df prog nn b o kind L K S aw sv it:=by intro a b o kind L K S aw sv it c d;cases L<;>cases K<;>cases S<;>cases aw<;>cases sv<;>first|exact absurd c (by decide)|exact absurd d (by decide)|kernel_rfl
theorem IP:∀(a:Fl) b o kind it,aR prog {a with n0:=false} [0,2,3,4,5,33,36,37,39] (SQ prog nn b o kind false false false it) tt=some (SW prog nn b o kind it):=by intro a b o kind it;kernel_rfl
theorem FW:∀(a:Fl) b o kind n0 K aw sv it,(!aw && !K && !n0)=false->aR prog {a with n0:=n0} [0,2,3,4,5] (SQ prog nn b o kind K aw sv it) tt=some (DS prog nn b o kind aw sv it):=by intro a b o kind n0 K aw sv it h;cases n0<;>cases K<;>cases aw<;>cases sv<;>first|exact absurd h (by decide)|kernel_rfl
theorem IQ:∀(a:Fl) b o kind K aw sv it,(aw && !K)=false->aR prog a [0,2,3,4,5,6,77,78,79] (SQ prog nn b o kind K aw sv it) ff=some (Df prog nn b o kind true K false aw sv it):=by intro a b o kind K aw sv it h;cases K<;>cases aw<;>cases sv<;>first|exact absurd h (by decide)|kernel_rfl
theorem IS:∀(a:Fl) b o kind r it,aR prog a [0,2,3,4,5] (SW prog nn b o kind it) (bl r)=some (DS prog nn b o kind r false it):=by intro a b o kind r it;cases r<;>kernel_rfl
theorem FX:∀(a:Fl) b o kind aw sv,aR prog a [0,2,3,4,5,47] (DS prog nn b o kind aw sv 0) un=some (GJ prog nn b o kind aw sv 1):=by intro a b o kind aw sv;kernel_rfl
theorem FY:∀(a:Fl) b o kind aw sv,aR prog a [0,2,3,4,5,47] (DS prog nn b o kind aw sv 1) un=some (GJ prog nn b o kind aw sv 2):=by intro a b o kind aw sv;kernel_rfl
theorem FZ:∀(a:Fl) b o kind aw sv,aR prog a [0,2,3,4,5,47] (DS prog nn b o kind aw sv 2) un=some (GJ prog nn b o kind aw sv 3):=by intro a b o kind aw sv;kernel_rfl
theorem F0:∀(a:Fl) b o kind aw sv,aR prog a [0,2,3,4,5,47] (DS prog nn b o kind aw sv 3) un=some (GJ prog nn b o kind aw sv 4):=by intro a b o kind aw sv;kernel_rfl
theorem IT:∀(a:Fl) b o kind K aw sv it,aR prog a [0] (Df prog nn b o kind false K false aw sv it) tt=some (Np prog nn b o kind):=by intro a b o kind K aw sv it;cases K<;>kernel_rfl
theorem F1:∀(a:Fl) b o kind L K S aw sv it,(L||S)=true->aR prog {a with wz:=true} [0,3] (Df prog nn b o kind L K S aw sv it) tt=some (T1 prog nn b o kind sv):=by intro a b o kind L K S aw sv it h;cases L<;>cases K<;>cases S<;>first|exact absurd h (by decide)|kernel_rfl
theorem F3:∀(a:Fl) b o kind L K S aw sv it,(L||S)=true->aR prog {a with wz:=false} [0,2,3,91] (Df prog nn b o kind L K S aw sv it) tt=some (PK prog nn b o kind sv):=by intro a b o kind L K S aw sv it h;cases L<;>cases K<;>cases S<;>first|exact absurd h (by decide)|kernel_rfl
theorem IU:∀(a:Fl) b o kind L K S aw sv it,aR prog a [0,2,3,4,5,133] (Df prog nn b o kind L K S aw sv it) ff=some (Qv prog nn b o kind aw sv it):=by intro a b o kind L K S aw sv it;kernel_rfl
theorem IV:∀(a:Fl) b o kind sv,aR prog a [0,2,3,91] (T1 prog nn b o kind sv) .H4=some (PK prog nn b o kind sv):=by intro a b o kind sv;kernel_rfl
theorem F4:∀(a:Fl) b o kind,aR prog a [0,2,3,103] (PK prog nn b o kind true) un=some (UP prog nn b o kind true):=by intro a b o kind;kernel_rfl
theorem F5:∀(a:Fl) b o kind,aR prog a [0,2,95] (PK prog nn b o kind false) un=some (TQ prog nn b o kind):=by intro a b o kind;kernel_rfl
theorem IW:∀(a:Fl) b o kind x,aR prog {a with tb:=x} [0,2,3,103] (TQ prog nn b o kind) .now=some (UP prog nn b o kind x):=by intro a b o kind x;cases x<;>kernel_rfl
theorem IX:∀(a:Fl) b o kind sv n1,aR prog {a with n0:=false,n1:=n1} [0,128,129] (UP prog nn b o kind sv) (.word false false true 0)=some (AD prog nn b o kind (if !sv||n1 then -11 else -7)):=by intro a b o kind sv n1;cases sv<;>cases n1<;>kernel_rfl
theorem IY:∀(a:Fl) b o kind L K sv,pT prog a [0,2,3,4,5,6] (UP prog nn b o kind sv) (.word L K false 0)=some (HD prog nn b o kind L K false true sv 0):=by intro a b o kind L K sv;cases L<;>cases K<;>kernel_rfl
theorem IZ:∀(a:Fl) b o kind d,aR prog a [0] (AD prog nn b o kind d) .bC=some (Np prog nn b o kind):=by intro a b o kind d;kernel_rfl
theorem I0:∀(a:Fl) b o kind,aR prog a [136] (Np prog nn b o kind) un=some (RB prog nn b o kind):=by intro a b o kind;kernel_rfl
theorem I1:∀(a:Fl) b o kind,aR prog a [137] (RB prog nn b o kind) (pt b o)=some (Px prog nn b o kind):=by intro a b o kind;kernel_rfl
theorem I2:∀(a:Fl) b o kind,aR prog a [] (Px prog nn b o kind) un=some (BK nn kind):=by intro a b o kind;kernel_rfl
theorem L6:∀(a:Fl) b o kind,aR prog a [0,7] (U0 prog nn b o kind) .bC=some (RD prog nn b o kind):=by intro a b o kind;kernel_rfl
theorem L7:∀(a:Fl) b o kind,aR prog a [0,8] (RD prog nn b o kind) (pt b o)=some (UR prog nn b o kind):=by intro a b o kind;kernel_rfl
theorem L8:∀(a:Fl) b o kind,aR prog a [0] (UR prog nn b o kind) un=some (UD prog nn b o kind):=by intro a b o kind;kernel_rfl
theorem L9:∀(a:Fl) b o kind,aR prog a [0,13] (UD prog nn b o kind) un=some (rI prog nn b o kind):=by intro a b o kind;kernel_rfl
theorem Ma:∀(a:Fl) b o kind n0 K,(n0||K)=true->aR prog {a with n0:=n0} [] (rI prog nn b o kind) (.word false K false 0)=some (UE prog nn b o kind):=by intro a b o kind n0 K h;cases n0<;>cases K<;>first|exact absurd h (by decide)|kernel_rfl
theorem I3:∀(a:Fl) b o kind n0 K,aR prog {a with n0:=n0} [41] (rI prog nn b o kind) (.word false K true 0)=some (G9 prog nn b o kind):=by intro a b o kind n0 K;cases n0<;>cases K<;>kernel_rfl
theorem I4:∀(a:Fl) b o kind,aR prog {a with n0:=false} [0,27,28,29] (rI prog nn b o kind) (.word false false false 0)=some (UC prog nn b o kind):=by intro a b o kind;kernel_rfl
theorem I5:∀(a:Fl) b o kind,aR prog a [33] (UC prog nn b o kind) tt=some (G7 prog nn b o kind):=by intro a b o kind;kernel_rfl
theorem I6:∀(a:Fl) b o kind,aR prog a [0,37] (UC prog nn b o kind) ff=some (Nq prog nn b o kind):=by intro a b o kind;kernel_rfl
theorem Mb:∀(a:Fl) b o kind n0 L K S,(n0||L||K||S)=true->aR prog {a with n0:=n0} [] (Nq prog nn b o kind) (.word L K S 0)=some (UE prog nn b o kind):=by intro a b o kind n0 L K S h;cases n0<;>cases L<;>cases K<;>cases S<;>first|exact absurd h (by decide)|kernel_rfl
theorem I7:∀(a:Fl) b o kind,aR prog {a with n0:=false} [0,27,28,29] (Nq prog nn b o kind) (.word false false false 0)=some (UC prog nn b o kind):=by intro a b o kind;kernel_rfl
theorem Mc:∀(a:Fl) b o kind,aR prog a [] (G7 prog nn b o kind) un=some (UE prog nn b o kind):=by intro a b o kind;kernel_rfl
theorem Me:∀(a:Fl) b o kind,aR prog a [] (G9 prog nn b o kind) un=some (UE prog nn b o kind):=by intro a b o kind;kernel_rfl
theorem I8:∀(a:Fl) b o kind,aR prog a [] (UE prog nn b o kind) un=some (Ta nn kind):=by intro a b o kind;kernel_rfl
theorem Mf:∀b o kind,bb (LD prog nn b o kind).1=some (nn.ju,[])/\(LD prog nn b o kind).1.kind=.normal:=by intro b o kind;exact⟨by kernel_rfl,by kernel_rfl⟩
theorem Mg:∀b o kind,bb (ui prog nn b o kind).1=some (nn.kQ,[pt b o,i32 0,i32 1]):=by intro b o kind;kernel_rfl
theorem Mh:∀b o kind,bb (Pu prog nn b o kind).1=some (nn.en,[]):=by intro b o kind;kernel_rfl
theorem Mi:∀b o kind,kU (RA prog nn b o kind).1=some (nn.tM,nn.tU,pt b o):=by intro b o kind;kernel_rfl
theorem Mj:∀b o kind,bb (Pv prog nn b o kind).1=some (nn.acq,[pt b o]):=by intro b o kind;kernel_rfl
theorem I9:∀b o kind aw sv it,qG (Qu prog nn b o kind aw sv it).1=some (nn.tI,pt b o):=by intro b o kind aw sv it;kernel_rfl
theorem I':∀b o kind aw sv it,qG (GJ prog nn b o kind aw sv it).1=some (nn.tI,pt b o):=by intro b o kind aw sv it;kernel_rfl
theorem Ja:∀b o kind aw sv it,qG (Qv prog nn b o kind aw sv it).1=some (nn.tI,pt b o):=by intro b o kind aw sv it;kernel_rfl
theorem Mk:∀b o kind K aw sv it,bb (SQ prog nn b o kind K aw sv it).1=some (nn.H6,[i64 it]):=by intro b o kind K aw sv it;kernel_rfl
theorem Ml:∀b o kind it,bb (SW prog nn b o kind it).1=some (nn.kQ,[pt b o,.word true false false 0,.word true true false 0]):=by intro b o kind it;kernel_rfl
theorem Mm:∀b o kind aw sv it,bb (DS prog nn b o kind aw sv it).1=some (nn.uh,[]):=by intro b o kind aw sv it;kernel_rfl
theorem Jb:∀b o kind L K S aw sv it,bb (Df prog nn b o kind L K S aw sv it).1=some (nn.kQ,[pt b o,.word L K S 0,Ol L K S aw sv]):=by intro b o kind L K S aw sv it;kernel_rfl
theorem Jc:∀b o kind sv,bb (T1 prog nn b o kind sv).1=some (nn.nano,[]):=by intro b o kind sv;kernel_rfl
theorem Jd:∀b o kind sv,bb (PK prog nn b o kind sv).1=some (nn.Fo,[pt b (o+1),.bC,i64 2]):=by intro b o kind sv;kernel_rfl
theorem Je:∀b o kind,bb (TQ prog nn b o kind).1=some (nn.nano,[]):=by intro b o kind;kernel_rfl
theorem Jf:∀b o kind sv,qG (UP prog nn b o kind sv).1=some (nn.tI,pt b o):=by intro b o kind sv;kernel_rfl
theorem Jg:∀b o kind d,bb (AD prog nn b o kind d).1=some (nn.add,[pt b o,i32 d]):=by intro b o kind d;kernel_rfl
theorem Jh:∀b o kind,bb (Np prog nn b o kind).1=some (nn.en,[]):=by intro b o kind;kernel_rfl
theorem Ji:∀b o kind,kU (RB prog nn b o kind).1=some (nn.tM,nn.tU,pt b o):=by intro b o kind;kernel_rfl
theorem Jj:∀b o kind,bb (Px prog nn b o kind).1=some (nn.acq,[pt b o]):=by intro b o kind;kernel_rfl
theorem Jk:∀b o kind,qG (U0 prog nn b o kind).1=some (nn.tI,pt b o)/\(U0 prog nn b o kind).1.kind=.normal/\(U0 prog nn b o kind).1.fn=nn.vK:=by intro b o kind;exact⟨by kernel_rfl,by kernel_rfl,by kernel_rfl⟩
theorem Jl:∀b o kind,kU (RD prog nn b o kind).1=some (nn.tM,nn.tU,pt b o):=by intro b o kind;kernel_rfl
theorem Jm:∀b o kind,bb (UR prog nn b o kind).1=some (nn.rel,[pt b o]):=by intro b o kind;kernel_rfl
theorem Jn:∀b o kind,bb (UD prog nn b o kind).1=some (nn.ju,[]):=by intro b o kind;kernel_rfl
theorem Jo:∀b o kind,bb (rI prog nn b o kind).1=some (nn.add,[pt b o,i32 (-1)]):=by intro b o kind;kernel_rfl
theorem Jp:∀b o kind,bb (UC prog nn b o kind).1=some (nn.kQ,[pt b o,wf,.word false true false (-1)]):=by intro b o kind;kernel_rfl
theorem Jq:∀b o kind,bb (G7 prog nn b o kind).1=some (nn.oH,[pt b (o+1),ff,i64 2]):=by intro b o kind;kernel_rfl
theorem Jr:∀b o kind,bb (G9 prog nn b o kind).1=some (nn.oH,[pt b (o+1),tt,i64 2]):=by intro b o kind;kernel_rfl
theorem Js:∀b o kind,qG (Nq prog nn b o kind).1=some (nn.tI,pt b o):=by intro b o kind;kernel_rfl
theorem Jt:∀b o kind,bb (UE prog nn b o kind).1=some (nn.en,[]):=by intro b o kind;kernel_rfl
theorem Mn:∀b o kind,(S7 prog nn b o kind).all (·.env.all plain)=true/\(LD prog nn b o kind).1.env.all plain=true/\(LD prog nn b o kind).2=S7 prog nn b o kind:=by intro b o kind;exact⟨by kernel_rfl,by kernel_rfl,by kernel_rfl⟩
theorem Mp:∀b o kind,(Ur prog nn b o kind).all (·.env.all plain)=true:=by intro b o kind;kernel_rfl
theorem Mq:∀b o kind,(S9 prog nn b o kind).all (·.env.all plain)=true/\(U0 prog nn b o kind).1.env.all plain=true/\(U0 prog nn b o kind).2=S9 prog nn b o kind:=by intro b o kind;exact⟨by kernel_rfl,by kernel_rfl,by kernel_rfl⟩
theorem Mr:∀b o kind,(Ve prog nn b o kind).all (·.env.all plain)=true:=by intro b o kind;kernel_rfl
theorem nH:iT prog nn where
 e1:=LY
 e2:=LZ
 e3:=L0
 e4:=L1
 e5:=L2
 e6:=L3
 V1:=IL
 V2:=IM
 V3:=IN
 e8:=L4
 e9:=L5
 bg:=IP
 Tb:=FW
 bV:=IQ
 jA:=IS
 EE:=FX
 EF:=FY
 Tc:=FZ
 Td:=F0
 cT:=IT
 Te:=F1
 Tf:=F3
 cd:=IU
 cH:=IV
 Tg:=F4
 Ti:=F5
 oZ:=IW
 nG:=IX
 vJ:=IY
 yB:=IZ
 yC:=I0
 yD:=I1
 pj:=I2
 u1:=L6
 u2:=L7
 u3:=L8
 u4:=L9
 u5:=Ma
 V4:=I3
 V5:=I4
 V6:=I5
 V7:=I6
 u7:=Mb
 V8:=I7
 u8:=Mc
 u9:=Me
 V9:=I8
 o1:=Mf
 o2:=Mg
 o3:=Mh
 o4:=Mi
 o5:=Mj
 V':=I9
 Wa:=I'
 Wb:=Ja
 o7:=Mk
 o8:=Ml
 o9:=Mm
 Vf:=Jb
 Wc:=Jc
 Vg:=Jd
 We:=Je
 Wf:=Jf
 Wg:=Jg
 Wh:=Jh
 Wi:=Ji
 Wj:=Jj
 Vh:=Jk
 Wk:=Jl
 Wm:=Jm
 Wn:=Jn
 Vi:=Jo
 Vj:=Jp
 Vk:=Jq
 Vl:=Jr
 Wo:=Js
 Wp:=Jt
 p1:=Mn
 p2:=Mp
 p3:=Mq
 p4:=Mr
theorem nI:iU prog nn where
 ju:=⟨_,rfl,rfl,rfl,rfl,rfl⟩
 en:=⟨_,rfl,rfl,rfl,rfl,rfl⟩
 acq:=⟨_,rfl,rfl,rfl,rfl,rfl⟩
 rel:=⟨_,rfl,rfl,rfl,rfl,rfl⟩
 kQ:=⟨_,rfl,rfl,rfl,rfl,rfl⟩
 add:=⟨_,rfl,rfl,rfl,rfl,rfl⟩
 H6:=⟨_,rfl,rfl,rfl,rfl,rfl⟩
 uh:=⟨_,rfl,rfl,rfl,rfl,rfl⟩
 nano:=⟨_,rfl,rfl,rfl,rfl,rfl⟩
 KX:=⟨_,rfl,rfl⟩
 Fo:=⟨_,rfl,rfl,rfl,rfl,rfl⟩
 oH:=⟨_,rfl,rfl,rfl,rfl,rfl⟩
 Tj:=by kernel_rfl
 Wq:=⟨_,rfl,rfl,rfl⟩
 nS:=⟨_,rfl,rfl⟩
 nU:=⟨_,rfl,rfl⟩
 nV:=⟨_,rfl,rfl⟩
end Go.Proofs.YtigilmjkokbblaaGreatDoor
namespace Go.Proofs.YtigilmjkokbblaaGreatDoor
open Tryz (prog)
open Go.bd Go.Conc
set_option maxHeartbeats 1000000
set_option maxRecDepth 4000
variable{m:Mo}{σ:aa}{KF:dV->aa->Prop}
def lX(f:Fr)(x:Int):Bool:=decide (kr f (eS x)=0)
def dF(f:Fr)(l:List (Int × AV)):Prop:=∀n a,gY l n=some a->a=bool (lX f n)
theorem Ub:HY prog 136 160 4 5 .u8:=.of (by kernel_rfl) (by kernel_rfl) (by kernel_rfl) (by kernel_rfl)
theorem Hp(f:Fr)(l:List Int):kr f l=0\/kr f l=1\/kr f l=2\/kr f l=3:=by
 unfold kr;split
 . exact .inr (.inl rfl)
 split
 . exact .inr (.inr (.inl rfl))
 split
 . exact .inr (.inr (.inr rfl))
 . exact .inl rfl
theorem Ee{f:Fr}{l:List Int}(h:kr f l≠0):∃d a,Ua (kr f l)=.lg d a:=by
 rcases Hp f l with e|e|e|e
 . exact absurd e h
 all_goals rw[e];exact⟨_,_,rfl⟩
theorem Ju{f:Fr}{l:List (Int × AV)}{x n:Int}{a:AV}(b:dF f l)(h:gY (l++[(x,bool (lX f x))]) n=some a):a=bool (lX f n):=by
 unfold gY at h;rw[List.find?_append]at h;cases e:l.find? (λp=>n==p.1)with
 |some p=>rw[e]at h;simp only[Option.some_or,Option.map_some,Option.some.injEq]at h;subst h;exact b n p.2 (by unfold gY;rw[e];rfl)
 | none=>
   rw[e]at h;simp only[Option.none_or,List.find?_cons,List.find?_nil]at h;split at h
   . next q=>simp only[Option.map_some,Option.some.injEq]at h;rw[beq_iff_eq]at q;subst h;rw[q]
   . cases h
theorem QT{b mb:Nat}{f:Fr}{x:Int}{Un:aa->Prop}{Ld:aa->List (Int × AV)->Prop}(o:Gu prog m nn b 6 mb .u8 (dF f) Un Ld)(I:f.Good)(J:Nr f (eS x))(v:(eS x).length<20)(K:Un σ)(h:∀σ',Un σ'->lh b mb σ σ'->KF (.val (bool (lX f x))) σ'):aB prog m 103 [iu b mb f 0,yk x] σ KF:=by
 refine fs TY 2 Tryz.func103 rfl rfl (by rfl) (by kernel_rfl) ?_;simp[Tryz.f103];refine cf Tryz.func132 rfl (o.lock (Ap _ _ _ _) K λL l s w p q=>?_);refine rn ?_;simp;refine ab.defer rfl rfl rfl rfl (by simp) rfl ?_;refine rn ?_;simp;refine Fe lay Ub WK rfl rfl X3 rfl rfl (o.map s) ?_;refine pg ?_;simp
 have i:∀(env:Env) (g:aa) z,env 4=bool (lX f x)->Ld g z->dF f z->(∀c,c≠b->c≠mb->g c=σ c)->wo prog m (.func 133) [] [AV.kp b [iQ f.aA,rows f.roads,int f.bH,int f.hH,int f.dO,int f.most,.lit (.int .i32 0),.lit (.int .u32 0),.map mb] [6,7] 6] .ret g (λA σ'=>Nm lay m [ResultVar.tmp 4] env (oc KF) [] A σ'):=λenv g z M B C D=>by
  refine wo.func Tryz.func133 rfl rfl (o.unlock (Ap _ _ _ _) B C λE F G=>?_);refine⟨[env 4],rfl,.done ?_⟩;rw[show oneOf [env 4]=env 4 from rfl,M];refine h E F λc y H t j=>?_
  have vy:c≠mb:=λe=>by
   subst e;rcases j with j|j
   . exact j rfl
   . have:=q y H
     rw[j]at this;cases this
  rw[G c t vy,D c t vy];exact H
 cases r:gY l x with
 |some a=>have N:=w x a r;subst N;simp;refine rn ?_;simp;exact i _ _ _ (by simp) s w p
 | none=>
   simp;refine rn ?_;simp;refine cf Tryz.func134 rfl (LV ?_);refine rn ?_;simp;refine cf Tryz.func43 rfl (FV I J v ?_);refine rn ?_;simp;have k:decide (kr f (eS x)=0)=lX f x:=rfl;refine kA lay rfl TN rfl (isNil:=lX f x) ?_ (.inl ⟨rfl,rfl⟩) ?_
   . by_cases u:kr f (eS x)=0
     . left
       refine⟨?_,by rw[<-k];simp[u]⟩;simp[u];rfl
     . right
       obtain⟨d,a,e⟩:=Ee u;refine⟨⟨d,a,?_⟩,by rw[<-k];simp[u]⟩;rw[<-e];simp
   refine rn ?_;simp;refine yS lay Ub WK rfl rfl rfl rfl rfl (o.map s) r ?_;refine pg ?_;simp;refine rn ?_;simp;refine i _ _ _ (by simp) (o.put s) (λn a O=>?_) (λc t j=>by rw[aa.ag _ _ j];exact p c t j);exact Ju w (by simpa using O)
def fy(f:Fr)(begun:List Int):Nat->List Int->Int->List Int->List (List Int)
 |0,er,_,_=>[er]
 | fuel+1,er,many,a=>(List.range (min (many+1) f.most).toNat).flatMap λk:Nat=>
    if er.length<begun.length/\begun.getD er.length 0≠(k:Int)then[]
    else if lX f (cL (a.getD k 0) er.length)=true then fy f begun fuel (er++[(k:Int)]) (max many ((k:Int)+1)) (a.set k (cL (a.getD k 0) er.length))else[]
def ao(f:Fr)(begun:List Int):List (List Int):=fy f begun f.aA.length [] 0 [0,0,0,0,0,0]
def Mv(b mb:Nat)(F a:Nat->Prop)(σ σ':aa):Prop:=∀c x,σ c=some x -> ¬F c->c≠b->(c≠mb\/x.plain=true)->σ' c=some x/\¬a c
theorem Mv.refl(b mb:Nat)(F:Nat->Prop)(σ:aa):Mv b mb F F σ σ:=λ_ _ h a _ _=>⟨h,a⟩
theorem Mv.trans{b mb:Nat}{F g d:Nat->Prop}{σ σ' a:aa}(h:Mv b mb F g σ σ')(k:Mv b mb g d σ' a):Mv b mb F d σ a:=λc x i j e f=>k c x (h c x i j e f).1 (h c x i j e f).2 e f
structure NZ(m:Mo)(y:AV)(W:List (List Int))(I:Nat->(Nat->Prop)->aa->Prop)(E:(Nat->Prop)->aa->Prop):Prop where
 step:∀(k:Nat) (F:Nat->Prop) (σ:aa) (KF:dV->aa->Prop) (hk:k<W.length),I k F σ->(∀F' σ',GB F F' σ σ'->I (k+1) F' σ'->KF (.val (bool true)) σ')->(∀F' σ',GB F F' σ σ'->E F' σ'->KF (.val (bool false)) σ')->cN prog m y [ints W[k]] σ KF
 frame:∀(k:Nat) (F:Nat->Prop) (σ σ':aa),(∀c,F c->σ' c=σ c)->I k F σ->I k F σ'
 QU:∀(F:Nat->Prop) (σ σ':aa),(∀c,F c->σ' c=σ c)->E F σ->E F σ'
 PO:∀(k:Nat) (F:Nat->Prop) (σ:aa) (c:Nat),I k F σ->F c->∃x,σ c=some x/\x.plain=true
theorem Ef{b mb:Nat}{F a:Nat->Prop}{σ σ':aa}(h:GB F a σ σ'):Mv b mb F a σ σ':=λc x d e _ _=>h c x e d
theorem pZ{b mb:Nat}{GI:List (Int × AV)->Prop}{Un:aa->Prop}{Ld:aa->List (Int × AV)->Prop}(f:Gu prog m nn b 6 mb .u8 GI Un Ld){d:Nat}{y:jB}(g:Un σ)(hd:∀x,σ d=some x->x.plain=true):Un (σ.set d y):=f.un (λc _ ⟨x,h,a⟩=>aa.ag _ _ (λe=>by subst e;rw[hd x h]at a;cases a)) g
theorem yl{b mb:Nat}{GI:List (Int × AV)->Prop}{Un:aa->Prop}{Ld:aa->List (Int × AV)->Prop}(g:Gu prog m nn b 6 mb .u8 GI Un Ld){F h:Nat->Prop}{σ':aa}(i:Un σ)(j:GB F h σ σ')(hd:∀c,F c->∃x,σ c=some x/\x.plain=true):Un σ':=
 g.un (λc _ ⟨x,a,e⟩=>by
  have d:¬F c:=λd=>by obtain⟨l,f,k⟩:=hd c d;rw[a]at f;cases f;rw[k]at e;cases e
  rw[(j c x d a).1,a]) i
abbrev yo(a y:AV)(begun:List Int)(cp:Nat):AV:=.fn (.func 104) [] [.cp a 0,.cp y 0,.cp (ints begun) 0,.ref cp 0]
abbrev bo(a:AV)(c4 cg:Nat):AV:=.fn (.func 100) [] [.ref c4 0,.cp a 0,.ref cg 0]
structure WS(b mb:Nat)(f:Fr)(y:AV)(begun:List Int)(c4 cg cp:Nat)(hs:List Int)(F:Nat->Prop)(σ:aa):Prop where
 arr:σ c4=some (.cells (hs.map u8))
 Uc:σ cg=some (.cells [yo (iu b mb f 0) y begun cp])
 pt:σ cp=some (.cells [bo (iu b mb f 0) c4 cg])
 out:¬F c4/\¬F cg/\¬F cp
 ne:c4≠cg/\c4≠cp
theorem WS.mv{b mb:Nat}{f:Fr}{y:AV}{begun:List Int}{c4 cg cp:Nat}{d:List Int}{F g:Nat->Prop}{σ σ':aa}(h:WS b mb f y begun c4 cg cp d F σ)(hb:∃x,σ b=some x/\x.plain=false)(a:Mv b mb F g σ σ'):WS b mb f y begun c4 cg cp d g σ':=by
 obtain⟨x,j,k⟩:=hb;have ne:∀c l,σ c=some (.cells l)->c≠b:=λc l i e=>by subst e;rw[j]at i;cases i;cases k
 obtain⟨m,n⟩:=a c4 _ h.arr h.out.1 (ne _ _ h.arr) (.inr rfl);obtain⟨o,p⟩:=a cg _ h.Uc h.out.2.1 (ne _ _ h.Uc) (.inr rfl);obtain⟨q,r⟩:=a cp _ h.pt h.out.2.2 (ne _ _ h.pt) (.inr rfl);exact⟨m,o,q,⟨n,p,r⟩,h.ne⟩
structure Hs(f:Fr)(n:Nat)(hs:List Int):Prop where
 vw:hs.length=6
 bits:∀x∈hs,∀e∈eS x,e<n
 small:∀x∈hs,0<=x/\x<64
section
variable{b mb:Nat}{f:Fr}{begun:List Int}{y:AV}{W:List (List Int)}{I:Nat->(Nat->Prop)->aa->Prop}{E:(Nat->Prop)->aa->Prop}{Un:aa->Prop}{Ld:aa->List (Int × AV)->Prop}{c4 cg cp:Nat}
def PQ(b mb:Nat)(Un:aa->Prop)(I:Nat->(Nat->Prop)->aa->Prop)(E:(Nat->Prop)->aa->Prop)(a n:Nat)(F:Nat->Prop)(σ:aa)(KF:dV->aa->Prop):Prop:=(∀d c,Mv b mb F d σ c->Un c->I (a+n) d c->KF (.val (bool true)) c)/\(∀d c,Mv b mb F d σ c->Un c->E d c->KF (.val (bool false)) c)
def Ms(m:Mo)(b mb:Nat)(f:Fr)(begun:List Int)(y:AV)(W:List (List Int))(I:Nat->(Nat->Prop)->aa->Prop)(E:(Nat->Prop)->aa->Prop)(Un:aa->Prop)(c4 cg cp:Nat)(fuel:Nat):Prop:=
 ∀ (er:List Int) (many:Int) (a:List Int) (sp:cG) (F:Nat->Prop) (σ:aa) (pre post:List (List Int)) (KF:dV->aa->Prop),er.length+fuel=f.aA.length->0<=many/\many<=6->Hs f er.length a->WS b mb f y begun c4 cg cp a F σ->Un σ ->
   W=pre++fy f begun fuel er many a++post->I pre.length F σ->PQ b mb Un I E pre.length (fy f begun fuel er many a).length F σ KF ->
   aB prog m 104 [.sl 1 (er.map int) sp,int many,.cp (iu b mb f 0) 0,.cp y 0,.cp (ints begun) 0,.ref cp 0] σ KF
theorem O3:∀x:Fin 64,∀n:Fin 6,(0<=cL (x.val:Int) (n.val:Int)/\cL (x.val:Int) (n.val:Int)<64)/\(∀e∈eS (cL (x.val:Int) (n.val:Int)),e=(n.val:Int)\/e∈eS (x.val:Int))/\(n.val:Int)∈eS (cL (x.val:Int) (n.val:Int)):=by decide +kernel
theorem Mt{x:Int}{n:Nat}(c:0<=x/\x<64)(a:n<6):(0<=cL x n/\cL x n<64)/\(∀e∈eS (cL x n),e=(n:Int)\/e∈eS x)/\(n:Int)∈eS (cL x n):=by
 have:=O3 ⟨x.toNat,by omega⟩ ⟨n,a⟩;have b:(x.toNat:Int)=x:=by omega
 simpa only[b]using this
theorem Mw{x e:Int}(h:e∈eS x):0<=e/\e<6:=by unfold eS at h;obtain⟨a,_⟩:=List.mem_filter.1 h;obtain⟨i,b,rfl⟩:=List.mem_map.1 a;have:=List.mem_range.1 b;omega
theorem Eg(x:Int):(eS x).length<20:=by unfold eS;refine Nat.lt_of_le_of_lt (List.length_filter_le _ _) ?_;rw[List.length_map,List.length_range];omega
theorem Hs.set{n:Nat}{b:List Int}(h:Hs f n b)(g:n<6){k:Nat}(c:k<b.length):Hs f (n+1) (b.set k (cL b[k] n)):=by
 have d:=Mt (h.small _ (List.getElem_mem c)) g;refine⟨by rw[List.length_set];exact h.vw,λx a e he=>?_,λx a=>?_⟩
 . rcases List.mem_or_eq_of_mem_set a with a|rfl
   . have:=h.bits x a e he;omega
   . rcases d.2.1 e he with rfl|he
     . omega
     . have:=h.bits _ (List.getElem_mem c) e he;omega
 . rcases List.mem_or_eq_of_mem_set a with a|rfl
   . exact h.small x a
   . exact d.1
theorem Hs.vg{n:Nat}{a:List Int}(h:Hs f n a)(d:n<f.aA.length)(g:f.aA.length<=6){k:Nat}(b:k<a.length):Nr f (eS (cL a[k] n)):=by
 have c:=Mt (h.small _ (List.getElem_mem b)) (n:=n) (by omega);refine⟨λe he=>⟨(Mw he).1,?_⟩,λq=>?_,by have:=Eg (cL a[k] n);omega⟩
 . rcases c.2.1 e he with rfl|he
   . omega
   . have:=h.bits _ (List.getElem_mem b) e he;omega
 . have:=c.2.2
   rw[q]at this;cases this
theorem O4{d:Nat}{k:Nat}{x:Int}{l:List Int}(i:k<6)(e:l.length=6)(hd:σ d=some (.cells [u8 x]))(g:σ c4=some (.cells (l.map u8)))(h:KF (.val (.bG [])) (σ.set c4 (.cells ((l.set k x).map u8)))):aB prog m 101 [.ref d 0,.ref c4 0,.cp (int k) 0] σ KF:=by
 have b:(k:Int)<6:=by omega
 have c:k<=5:=by omega
 have a:k<l.length:=by omega
 refine fs [] 3 Tryz.func101 rfl rfl (by rfl) (by kernel_rfl) ?_;simp[Tryz.f101,hd,g,b,e,c,a];rw[xq (by simpa using a),<-List.map_set (f:=u8)];exact .done h
theorem QV(X : Gu prog m nn b 6 mb .u8 (dF f) Un Ld)(hf:f.Good)(dy:begun.length<1152921504606846976)(Y:NZ m y W I E){fuel:Nat}(hG:Ms m b mb f begun y W I E Un c4 cg cp fuel){er:List Int}{many:Int}{k:Nat}{n:List Int}{sp:cG}{F:Nat->Prop}{pre post:List (List Int)}(hlen:er.length+(fuel+1)=f.aA.length)(bz:0<=many/\many<=6)(hk:k<6)
 (hh:Hs f er.length n) (D:WS b mb f y begun c4 cg cp n F σ) (hu:Un σ){L:List (List Int)}(hL:L=if lX f (cL (n.getD k 0) er.length)=true then fy f begun fuel (er++[(k:Int)]) (max many ((k:Int)+1)) (n.set k (cL (n.getD k 0) er.length))else[]) (hW:W=pre++L++post)
 (hI:I pre.length F σ) (hR:PQ b mb Un I E pre.length L.length F σ KF):aB prog m 100 [.sl 1 (er.map int) sp,int many,int k,.ref c4 0,.cp (iu b mb f 0) 0,.ref cg 0] σ KF:=by
 have h6:=hf.vw;have t:k<n.length:=by rw[hh.vw];exact hk
 have bA:n.getD k 0=n[k]:=by simp[List.getD_eq_getElem?_getD,t]
 rw[bA]at hL;have O:(k:Int)<6:=by omega
 have o:=D.arr;have P:=hh.vw;have Q:k<=5:=by omega
 have e1:List.take 1 (List.drop k (List.map u8 n))=[u8 n[k]]:=by rw[<-List.map_drop,List.drop_eq_getElem_cons t];rfl
 refine fs TW 6 Tryz.func100 rfl rfl (by rfl) (by kernel_rfl) ?_
 simp[Tryz.f100,o,O,t,P,Q,e1];refine bL.intro λd hd=>?_
 have d4:d≠c4:=λe=>by subst e;rw[o]at hd;cases hd
 have M:=Ne.symm d4;simp[d4,M,aa.ag];refine ab.defer rfl rfl rfl rfl (by simp) rfl ?_
 refine rn ?_;simp[d4,M,aa.ag,o,O,t,P,Q,e1];obtain⟨z,hz⟩:∃z,z=cL n[k] er.length:=⟨_,rfl⟩;obtain⟨i,q⟩:∃i,i=n.set k z:=⟨_,rfl⟩;have b0:k<i.length:=by rw[q,List.length_set];exact t
 have b1:i[k]=z:=by subst q;simp
 have e2:List.take 1 (List.drop k (List.map u8 i))=[u8 z]:=by rw[<-List.map_drop,List.drop_eq_getElem_cons b0,b1];rfl
 have e3:aG (List.map u8 n) k [u8 z]=List.map u8 i:=by rw[xq (by simpa using t),q,List.map_set]
 have Z:i.length=6:=by rw[q,List.length_set];exact P
 refine cf Tryz.func102 rfl (OY (by omega) ?_)
 rw[<-hz];refine pg ?_;simp[d4,M,aa.ag,o,O,t,P,Q,e3];refine rn ?_;simp[d4,M,aa.ag,O,b0,Z,Q,e2];have bB:er.length<6:=by omega
 have c5:er.length<f.aA.length:=by omega
 have c6:Nr f (eS z):=by rw[hz];exact hh.vg c5 h6 t
 obtain⟨xb,R,b2⟩:=X.N1 hu;have cb:∀c l,σ c=some (.cells l)->c≠b:=λc l A e=>by subst e;rw[R]at A;cases A;cases b2
 have db:d≠b:=λe=>by subst e;rw[hd]at R;cases R
 have b3:Un ((σ.set d (.cells [u8 n[k]])).set c4 (.cells (i.map u8))):=pZ X (pZ X hu (λx w=>by rw[hd]at w;cases w)) (λx w=>by rw[aa.ag _ _ M,o]at w;cases w;rfl)
 have b4:((σ.set d (.cells [u8 n[k]])).set c4 (.cells (i.map u8))) c4=some (.cells (i.map u8)):=aa.ak _ _ _;have b5:((σ.set d (.cells [u8 n[k]])).set c4 (.cells (i.map u8))) d=some (.cells [u8 n[k]]):=by rw[aa.ag _ _ d4,aa.ak]
 have G:∀c,c≠d->c≠c4->((σ.set d (.cells [u8 n[k]])).set c4 (.cells (i.map u8))) c=σ c:=λc p J=>by rw[aa.ag _ _ J,aa.ag _ _ p]
 have b6:¬F d:=λhF=>by obtain⟨x,w,_⟩:=Y.PO _ _ _ _ hI hF;rw[hd]at w;cases w
 have ad:I pre.length F ((σ.set d (.cells [u8 n[k]])).set c4 (.cells (i.map u8))):=Y.frame _ _ _ _ (λc A=>G c (λe=>b6 (e ▸ A)) (λe=>D.out.1 (e ▸ A))) hI
 generalize (σ.set d (.cells [u8 n[k]])).set c4 (.cells (i.map u8))=e0 at b3 b4 b5 G ad;refine cf Tryz.func103 rfl (QT X hf c6 (Eg _) b3 λr b7 s=>?_)
 have B:r c4=some (.cells (i.map u8)):=s _ _ b4 (cb _ _ o) (.inr rfl);have S:r d=some (.cells [u8 n[k]]):=s _ _ b5 db (.inr rfl);have gd:cg≠d:=λe=>by have:=D.Uc;rw[e,hd]at this;cases this
 have T:r cg=some (.cells [yo (iu b mb f 0) y begun cp]):=s _ _ (by rw[G cg gd (Ne.symm D.ne.1)];exact D.Uc) (cb _ _ D.Uc) (.inr rfl)
 have al:i.set k n[k]=n:=by rw[q];simp
 have a7:∀(env:Env) (j:aa) (v:Bool),env 9=bool v->j d=some (.cells [u8 n[k]])->j c4=some (.cells (i.map u8))->KF (.val (bool v)) (j.set c4 (.cells (n.map u8)))->wo prog m (.func 101) [.ref d 0,.ref c4 0,.cp (int k) 0] [] .ret j (λc7 g=>Nm lay m [ResultVar.tmp 9] env (oc KF) [] c7 g):=λenv j v he c8 ca hK=>by
  refine wo.func Tryz.func101 rfl rfl (O4 hk Z c8 ca ?_);refine⟨[env 9],rfl,.done ?_⟩;rw[show oneOf [env 9]=env 9 from rfl,he,al]
  exact hK
 have b8:Mv b mb F F σ (r.set c4 (.cells (n.map u8))):=λc x p J K h4=>by
  refine⟨?_,J⟩
  by_cases e:c=c4
  . subst e;rw[aa.ak,<-o];exact p
  . have e':c≠d:=λe'=>by subst e';rw[hd]at p;cases p
    rw[aa.ag _ _ e];exact s c x (by rw[G c e' e];exact p) K h4
 have av:I pre.length F r:=Y.frame _ _ _ _ (λc A=>by
  obtain⟨x,p,J⟩:=Y.PO _ _ _ _ ad A
  have cl:c≠b:=λe=>by subst e;obtain⟨x',K,h4⟩:=Y.PO _ _ _ _ hI A;rw[R]at K;cases K;rw[b2]at h4;cases h4
  rw[p];exact s c x p cl (.inr J)) ad
 rw[<-hz,<-q]at hL;cases a8:lX f z with
 | false=>
   rw[a8]at hL;simp only[Bool.false_eq_true,if_false]at hL;subst hL;refine pg ?_;simp
   repeat' apply And.intro
   all_goals
    refine rn ?_;simp;refine a7 _ r true (by simp) S B (hR.1 F _ b8 (pZ X b7 (λx w=>by rw[B]at w;cases w;rfl)) ?_)
    exact Y.frame _ _ _ _ (λc A=>aa.ag _ _ (λe=>D.out.1 (e ▸ A))) av
 | true=>
   rw[a8,if_pos rfl]at hL
   have ax:∀(j:aa) (H:cG) (U:dV->aa->Prop),r.Le j->(∀(v:Bool) g,g d=some (.cells [u8 n[k]])->g c4=some (.cells (i.map u8))->KF (.val (bool v)) (g.set c4 (.cells (n.map u8)))->U (.val (bool v)) g) ->
    aB prog m 104 [.sl 1 ((er++[(k:Int)]).map int) H,int (max many ((k:Int)+1)),.cp (iu b mb f 0) 0,.cp y 0,.cp (ints begun) 0,.ref cp 0] j U:=λj H U u hK=>by
    have cm:r cp=some (.cells [bo (iu b mb f 0) c4 cg]):=by
     have pd:cp≠d:=λe=>by have:=D.pt;rw[e,hd]at this;cases this
     exact s _ _ (by rw[G cp pd (Ne.symm D.ne.2)];exact D.pt) (cb _ _ D.pt) (.inr rfl)
    have cv:Un j:=X.un (λc _ ⟨x,p,_⟩=>by rw[p];exact u _ _ p) b7
    have dd:WS b mb f y begun c4 cg cp i F j:=⟨u _ _ B,u _ _ T,u _ _ cm,D.out,D.ne⟩
    have dj:I pre.length F j:=Y.frame _ _ _ _ (λc A=>by obtain⟨x,p,_⟩:=Y.PO _ _ _ _ av A;rw[p];exact u _ _ p) av
    have a9:∀(C:Nat->Prop) (g:aa),Mv b mb F C j g->Mv b mb F C σ (g.set c4 (.cells (n.map u8))):=λC g hm c x p J K h4=>by
     by_cases e:c=c4
     . subst e
       obtain⟨q1,V⟩:=hm c _ (u _ _ B) J K (.inr rfl);exact⟨by rw[aa.ak,<-o];exact p,V⟩
     . have e':c≠d:=λe'=>by subst e';rw[hd]at p;cases p
       rw[aa.ag _ _ e];exact hm c x (u _ _ (s c x (by rw[G c e' e];exact p) K h4)) J K h4
    have b9:∀(C:Nat->Prop) (g:aa),Mv b mb F C j g->g d=some (.cells [u8 n[k]])/\(g c4=some (.cells (i.map u8))/\¬C c4):=λC g hm=>⟨(hm d _ (u _ _ S) b6 db (.inr rfl)).1,hm c4 _ (u _ _ B) D.out.1 (cb _ _ o) (.inr rfl)⟩
    subst hL;refine hG _ _ _ _ F j pre post U (by simp;omega) (by omega) (by rw[List.length_append,q,hz];exact hh.set bB t) dd cv hW dj ⟨λC g p J K=>?_,λC g p J K=>?_⟩
    . obtain⟨q1,V,q3⟩:=b9 C g p
      exact hK true g q1 V (hR.1 C _ (a9 C g p) (pZ X J (λx w=>by rw[V]at w;cases w;rfl)) (Y.frame _ _ _ _ (λc A=>aa.ag _ _ (λe=>q3 (e ▸ A))) K))
    . obtain⟨q1,V,q3⟩:=b9 C g p
      exact hK false g q1 V (hR.2 C _ (a9 C g p) (pZ X J (λx w=>by rw[V]at w;cases w;rfl)) (Y.QU _ _ _ (λc A=>aa.ag _ _ (λe=>q3 (e ▸ A))) K))
   have k1:-9223372036854775808<=(k:Int)+1/\(k:Int)+1<=9223372036854775807:=by omega
   have N:(if many<(k:Int)+1 then(k:Int)+1 else many)=max many ((k:Int)+1):=by split<;>omega
   refine pg ?_;simp[B,S,T,k1.1,k1.2,N]
   repeat' (first
             |apply And.intro
             | (refine pC lay rfl cK rfl rl (es:=er.map int) (sp:=sp) (l:=0) (h:=er.length) (by simp) (λcap bq=>⟨⟨⟨.i64,by simp⟩,by simpa using bq⟩,⟨⟨.i64,by simp⟩,Nat.le_refl _⟩,rfl⟩) (by simp) λa ha=>?_
                have dr:Tok r r a 1 (er.map int):=by
                 rcases ha with rfl|⟨e,rfl⟩
                 . have:List.take (er.length-0) (List.drop 0 (er.map int))=er.map int:=by rw[List.drop_zero,List.take_of_length_le (by simp)]
                   rw[this];exact .exact _ _ _
                 . rw[e];exact .nil _ _
                clear ha;refine pg ?_;simp[B,S,T,k1.1,k1.2,N])
             | (refine aS lay rfl rfl rfl cK rfl cK rfl rl (by decide) (by simp;omega) (σ0:=r) (es:=er.map int) (xs:=[int k]) (by simpa using dr) (.inr ⟨_,by simp;rfl⟩) λa' j ay=>?_
                obtain⟨H,rfl⟩:∃H,a'=.sl 1 (er.map int++[int k]) H:=by
                 rcases ay.2 with⟨_,e⟩|e|⟨_,_,_,e,_⟩
                 . simp at e
                 . exact⟨_,e⟩
                 . exact⟨_,e⟩
                have dx:=ay.1 _ _ T;refine pg ?_;simp[dx,k1.1,k1.2,N])
             | (refine eL Tryz.func104 rfl rfl (by simp) (ax j H _ ay.1 λv g q1 V q3=>?_)
                refine pg ?_;simp;refine rn ?_;simp;exact a7 _ _ v (by simp) q1 V q3))
end
end Go.Proofs.YtigilmjkokbblaaGreatDoor
