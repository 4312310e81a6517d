import Derived.Test.YtldmpfccgajobaaGreatDoorC30
set_option linter.all false
namespace Go.Proofs.YtldmpfccgajobaaGreatDoor
open Tryz (prog)
open Go.aR Go.Conc
set_option maxHeartbeats 1000000
set_option maxRecDepth 4000
variable{m:Mo}{σ:aa}{KF:dF->aa->Prop}
structure LW(f:Fr)(l:List Int):Prop where
 mem:∀n∈l,0<=n/\n<f.ao.length
 ne:l≠[]
 len:l.length<=1000000
def dt(f:Fr)(l:List Int):Bool:=l.any λn=>decide ((be f n).bG≠(be f (l.getD 0 0)).bG)
theorem iV{f:Fr}{x:Int}(h:x.toNat<f.ao.length):be f x=f.ao[x.toNat]:=by simp[be,List.getD_eq_getElem?_getD,h]
theorem ED{b mb:Nat}{f:Fr}{l:List Int}(x:LW f l)(h:KF (.val (bool (dt f l))) σ):ar prog m 203 [.agg [],iY b mb f 0,ints l] σ KF:=by
 obtain⟨o,j,hlen⟩:=x;have a:0<l.length:=List.length_pos_iff.2 j;obtain⟨y,C⟩:=o _ (List.getElem_mem a);have p:l[0].toNat<f.ao.length:=by omega
 have z:l.getD 0 0=l[0]:=by simp[List.getD_eq_getElem?_getD,a]
 unfold dt at h;rw[z]at h;refine fs Rx 3 Tryz.func203 rfl rfl (by rfl) (by kernel_rfl) ?_
 simp[Tryz.f203];refine ab.loop l.length (λk s=>∃env,s=⟨env,σ,[],.no⟩/\env 1=iY b mb f 0/\env 2=ints l/\env 9=ints l/\env 10=int l.length/\env 11=int k/\∀n∈l.take k,(be f n).bG=(be f l[0]).bG) ⟨_,rfl,by simp⟩ ?_
 rintro D k _ E ⟨env,rfl,q,r,t,d,e,c⟩ A
 rcases Nat.lt_or_ge k l.length with g1|g1
 . obtain⟨y0,F⟩:=o _ (List.getElem_mem g1)
   have u:l[k].toNat<f.ao.length:=by omega
   have v:=iV u;have w:=iV p;refine rn ?_;simp[q,r,t,d,e,g1,a,y0,u,y,p];refine rn ?_;simp
   by_cases i:f.ao[l[k].toNat].bG=f.ao[l[0].toNat].bG
   . simp[e,i]
     refine⟨by omega,A _ g1 ⟨_,rfl,by simp[q],by simp[r],by simp[t],by simp[d],by simp,λn g=>?_⟩⟩
     rw[List.take_succ_eq_append_getElem g1,List.mem_append,List.mem_singleton]at g
     rcases g with g|rfl
     . exact c n g
     . rw[v,w];exact i
   . have B:(f.ao[l[k].toNat].bG !=f.ao[l[0].toNat].bG)=true:=by simp[i]
     have:l.any (λn=>decide ((be f n).bG≠(be f l[0]).bG))=true:=List.any_eq_true.2 ⟨_,List.getElem_mem g1,by rw[v,w];simp[i]⟩
     rw[this]at h;simp[B];exact .done h
 . have:k=l.length:=by omega
   subst this;rw[List.take_length]at c
   have:l.any (λn=>decide ((be f n).bG≠(be f l[0]).bG))=false:=by rw[List.any_eq_false];intro n g;simp[c n g]
   rw[this]at h;refine rn ?_;simp[d,e];exact .done h
def ci(f:Fr)(l:List Int):Bool:=decide (eP f l=[])
theorem EE{b mb:Nat}{f:Fr}{l:List Int}(g:f.Good)(c:LW f l)(h:KF (.val (bool (ci f l))) σ):ar prog m 204 [.agg [],iY b mb f 0,ints l] σ KF:=by
 refine fs [] 3 Tryz.func204 rfl rfl (by rfl) (by kernel_rfl) ?_
 simp[Tryz.f204];refine cf Tryz.func73 rfl (xr g c.ne c.len c.mem ?_);refine rn ?_;simp;unfold ci at h;cases d:eP f l with
 |nil=>rw[d]at h;exact .done h
 | cons a r=>
   rw[d]at h;have e:((r.length:Int)+1==0)=false:=by rw[beq_eq_false_iff_ne];omega
   refine .done ?_;simpa[e]using h
def fR(f:Fr)(x y:Int):Bool:=decide ((be f y).hour-(be f x).hour<rd f.roads (be f x).place.toNat (be f y).place.toNat+f.dG*bc (bd (be f x).marks) (bd (be f y).marks))
def bY(f:Fr)(l:List Int):Bool:=(List.range (l.length-1)).any λi=>fR f (l.getD i 0) (l.getD (i+1) 0)
theorem mT:∀{l:List Int}{p:Option Int},ma p l=0->∀n∈l,0<=n/\n<=4
 |[],_,_,n,hn=>by simp at hn
 | a::l,p,h,n,hn=>by
   unfold ma at h;split at h
   . cases h
   next b=>
   split at h
   . cases h
   next c=>
   rcases List.mem_cons.1 hn with rfl|hn
   . simp[bx]at b;omega
   . exact mT h n hn
theorem Hp:∀a:Fin 32,∀n:Fin 5,0<=bH (a.val:Int) (n.val:Int)/\bH (a.val:Int) (n.val:Int)<32:=by decide
theorem jb{l:List Int}(h:∀n∈l,0<=n/\n<=4):0<=bd l/\bd l<32:=by
 have key:∀(l:List Int) (a:Int),(∀n∈l,0<=n/\n<=4)->0<=a/\a<32->0<=l.foldl bH a/\l.foldl bH a<32:=by
  intro l;induction l with
  |nil=>intro a _ h;exact h
  | cons x l c=>
    intro a b g;rw[List.foldl_cons];refine c _ (λn d=>b n (List.mem_cons_of_mem _ d)) ?_;obtain⟨i,j⟩:=b x (List.mem_cons_self ..);have:=Hp ⟨a.toNat,by omega⟩ ⟨x.toNat,by omega⟩;have e:(a.toNat:Int)=a:=by omega
    have f:(x.toNat:Int)=x:=by omega
    simpa only[e,f]using this
 exact key l 0 h (by omega)
theorem Kn:∀a:Fin 32,∀b:Fin 32,sX 8 (xp (a.val:Int) (b.val:Int))=0/\0<=bc (a.val:Int) (b.val:Int)/\bc (a.val:Int) (b.val:Int)<=5:=by decide +kernel
theorem F1{a b:Int}(e:0<=a/\a<32)(hb:0<=b/\b<32):sX 8 (xp a b)=0/\0<=bc a b/\bc a b<=5:=by
 have:=Kn ⟨a.toNat,by omega⟩ ⟨b.toNat,by omega⟩;have c:(a.toNat:Int)=a:=by omega
 have d:(b.toNat:Int)=b:=by omega
 simpa only[c,d]using this
theorem Fr.Good.row{f:Fr}(a:f.Good){i:Nat}(b:i<f.roads.length):f.roads[i].length=f.roads.length/\∀x∈f.roads[i],0<=x/\x<=9:=by
 have h:=a.Io;unfold fe at h;split at h
 . cases h
 split at h
 . cases h
 split at h
 . next q=>exact absurd h q
 next q=>
 obtain⟨c,d⟩:=iv (by simpa using q) _ (List.getElem_mem b);exact⟨c,λx e=>iU (d x e)⟩
theorem EF{b mb:Nat}{f:Fr}{l:List Int}(u:f.Good)(hl:LW f l)(h:KF (.val (bool (bY f l))) σ):ar prog m 205 [.agg [],iY b mb f 0,ints l] σ KF:=by
 obtain⟨Y,a7,hlen⟩:=hl;have w:=u.dG;unfold bY at h;refine fs Ry 3 Tryz.func205 rfl rfl (by rfl) (by kernel_rfl) ?_
 simp[Tryz.f205];refine ab.loop (l.length-1) (λk s=>∃env j,s=⟨env,j,[],.no⟩/\σ.Le j/\env 1=iY b mb f 0/\env 2=ints l/\env 7=int ((k:Int)+1)/\∀i<k,fR f (l.getD i 0) (l.getD (i+1) 0)=false) ⟨_,_,rfl,aa.le_refl _,by simp⟩ ?_
 rintro c0 k _ hk ⟨env,j,rfl,x,y,H,I,g⟩ Z
 rcases Nat.lt_or_ge (k+1) l.length with g1|g1
 . have P:(k:Int)+1<l.length:=by omega
   have Q:k<l.length:=by omega
   obtain⟨x0,x1⟩:=Y _ (List.getElem_mem Q);obtain⟨y0,y1⟩:=Y _ (List.getElem_mem g1);have z:l[k].toNat<f.ao.length:=by omega
   have C:l[k+1].toNat<f.ao.length:=by omega
   have f1:-9223372036854775808<=(k:Int)/\(k:Int)<=9223372036854775807:=by omega
   have f2:((k:Int)+1).toNat=k+1:=by omega
   have f3:(0:Int)<=(k:Int)+1:=by omega
   obtain⟨A,D⟩:∃A,A=f.ao[l[k].toNat]:=⟨_,rfl⟩;obtain⟨B,E⟩:∃B,B=f.ao[l[k+1].toNat]:=⟨_,rfl⟩;have eA:=iV z;have eB:=iV C;rw[<-D]at eA;rw[<-E]at eB;have bA:=lu (u.uB A (by rw[D];exact List.getElem_mem z))
   have bB:=lu (u.uB B (by rw[E];exact List.getElem_mem C))
   refine rn ?_;simp[y,H,I,P,Q,g1,x0,z,y0,C,f1.1,f1.2,f2,f3,<-D,<-E];have o:=λ{c:Nat}(F:j c=none)=>x.none F
   have J:A.place.toNat<f.roads.length:=by omega
   obtain⟨r1,r2⟩:=u.row J;have K:B.place.toNat<f.roads[A.place.toNat].length:=by omega
   obtain⟨r3,r4⟩:=r2 _ (List.getElem_mem K);have R:rd f.roads A.place.toNat B.place.toNat=f.roads[A.place.toNat][B.place.toNat]:=dE J K;have S:=mT bA.2.2.2.2.2;have T:=mT bB.2.2.2.2.2;have lA:=jb S;have lB:=jb T;obtain⟨c1,U,c3⟩:=F1 lA lB;obtain⟨ch,p⟩:∃ch,ch=bc (bd A.marks) (bd B.marks):=⟨_,rfl⟩;rw[<-p]at U c3
   have hmul:0<=f.dG*ch/\f.dG*ch<=30:=by
    constructor
    . exact Int.mul_nonneg (by omega) U
    . calc f.dG*ch<=6*5:=Int.mul_le_mul w.2 c3 U (by omega)
       _=30:=by rfl
   have a:fR f l[k] l[k+1]=decide (B.hour-A.hour<f.roads[A.place.toNat][B.place.toNat]+f.dG*ch):=by unfold fR;rw[eA,eB,R,p]
   have q:l.getD k 0=l[k]:=by simp[List.getD_eq_getElem?_getD,Q]
   have r:l.getD (k+1) 0=l[k+1]:=by simp[List.getD_eq_getElem?_getD,g1]
   have L:-9223372036854775808<=B.hour-A.hour/\B.hour-A.hour<=9223372036854775807:=by omega
   have M:-9223372036854775808<=f.dG*ch/\f.dG*ch<=9223372036854775807:=by omega
   have N:-9223372036854775808<=f.roads[A.place.toNat][B.place.toNat]+f.dG*ch/\f.roads[A.place.toNat][B.place.toNat]+f.dG*ch<=9223372036854775807:=by omega
   refine⟨ns.intro λc F=>?_,ns.intro λc F=>?_⟩
   . simp
     refine ns.intro λd hd=>?_
     obtain⟨O,G,hd⟩:=aa.aG hd;have V:=o F;have W:=o hd;simp[O,G,aa.ag];refine ab.bD 8 (b:=c) (aS A) (by simp[G,aa.ag]) (by simp) rfl ?_
     refine ab.bD 9 (b:=d) (aS B) (by simp[O,aa.del]) (by simp) rfl ?_
     refine rn ?_;simp[y,L.1,L.2,J,K];refine⟨by omega,by omega,?_⟩
     refine cf Tryz.func206 rfl (oX (by have:=u.fits.marks A (by rw[D];exact List.getElem_mem z);omega) (λn v=>(S n v).1) ?_)
     refine pg ?_;simp;refine cf Tryz.func206 rfl (oX (by have:=u.fits.marks B (by rw[E];exact List.getElem_mem C);omega) (λn v=>(T n v).1) ?_)
     refine pg ?_;simp;refine cf Tryz.func207 rfl (xu c1 ?_);rw[<-p];refine pg ?_;simp[M.1,M.2,N.1,N.2];refine rn ?_;simp
     by_cases t:B.hour-A.hour<f.roads[A.place.toNat][B.place.toNat]+f.dG*ch
     . simp[t]
       have:(List.range (l.length-1)).any (λi=>fR f (l.getD i 0) (l.getD (i+1) 0))=true:=List.any_eq_true.2 ⟨k,List.mem_range.2 (by omega),by rw[q,r,a];simpa using t⟩
       rw[this]at h;exact .less (by repeat (first|exact aa.le_refl _|assumption|refine aa.iz ?_ (by assumption)|refine aa.jZ ?_ (by assumption))) (.done h)
     . simp[I,t]
       refine⟨by omega,Z _ (by omega) ⟨_,_,rfl,(by repeat (first|exact aa.le_refl _|assumption|refine aa.iz ?_ (by assumption)|refine aa.jZ ?_ (by assumption))),by simp[y],by simp[H],by simp,λi X=>?_⟩⟩
       by_cases e:i=k
       . subst e;rw[q,r,a];simpa using t
       . exact g i (by omega)
   . simp
     refine ns.intro λd hd=>?_
     obtain⟨O,G,hd⟩:=aa.aG hd;have V:=o F;have W:=o hd;simp[G,aa.ag];refine ab.bD 8 (b:=d) (aS A) (by simp[O,aa.ag]) (by simp) rfl ?_
     refine ab.bD 9 (b:=c) (aS B) (by simp[G,aa.del]) (by simp) rfl ?_
     refine rn ?_;simp[y,L.1,L.2,J,K];refine⟨by omega,by omega,?_⟩
     refine cf Tryz.func206 rfl (oX (by have:=u.fits.marks A (by rw[D];exact List.getElem_mem z);omega) (λn v=>(S n v).1) ?_)
     refine pg ?_;simp;refine cf Tryz.func206 rfl (oX (by have:=u.fits.marks B (by rw[E];exact List.getElem_mem C);omega) (λn v=>(T n v).1) ?_)
     refine pg ?_;simp;refine cf Tryz.func207 rfl (xu c1 ?_);rw[<-p];refine pg ?_;simp[M.1,M.2,N.1,N.2];refine rn ?_;simp
     by_cases t:B.hour-A.hour<f.roads[A.place.toNat][B.place.toNat]+f.dG*ch
     . simp[t]
       have:(List.range (l.length-1)).any (λi=>fR f (l.getD i 0) (l.getD (i+1) 0))=true:=List.any_eq_true.2 ⟨k,List.mem_range.2 (by omega),by rw[q,r,a];simpa using t⟩
       rw[this]at h;exact .less (by repeat (first|exact aa.le_refl _|assumption|refine aa.iz ?_ (by assumption)|refine aa.jZ ?_ (by assumption))) (.done h)
     . simp[I,t]
       refine⟨by omega,Z _ (by omega) ⟨_,_,rfl,(by repeat (first|exact aa.le_refl _|assumption|refine aa.iz ?_ (by assumption)|refine aa.jZ ?_ (by assumption))),by simp[y],by simp[H],by simp,λi X=>?_⟩⟩
       by_cases e:i=k
       . subst e;rw[q,r,a];simpa using t
       . exact g i (by omega)
 . have g2:¬(k:Int)+1<l.length:=by omega
   have:(List.range (l.length-1)).any (λi=>fR f (l.getD i 0) (l.getD (i+1) 0))=false:=by
    rw[List.any_eq_false];intro i X;rw[g i (by have:=List.mem_range.1 X;omega)]
    simp
   rw[this]at h;refine rn ?_;simp[H,I,g2];exact .less x (.done h)
theorem RD:(((prog.info? 167).bind λi=>i.methods.find? (·.name==  "palfrey/mark.breaks")).map λmt=>(mt.path,mt.func))=some (#[],some (203,false)):=by kernel_rfl
theorem RE:(((prog.info? 168).bind λi=>i.methods.find? (·.name==  "palfrey/mark.breaks")).map λmt=>(mt.path,mt.func))=some (#[],some (204,false)):=by kernel_rfl
theorem RF:(((prog.info? 169).bind λi=>i.methods.find? (·.name==  "palfrey/mark.breaks")).map λmt=>(mt.path,mt.func))=some (#[],some (205,false)):=by kernel_rfl
theorem O5{a:AV}:wn prog 167  "palfrey/mark.breaks" 203 a a:=by obtain⟨mt,b,e⟩:=Option.map_eq_some_iff.1 RD;obtain⟨info,c,d⟩:=Option.bind_eq_some_iff.1 b;obtain⟨f,g⟩:=Prod.mk.inj e;exact rO lay Rk c d (by rw[f]) g rfl
theorem O6{a:AV}:wn prog 168  "palfrey/mark.breaks" 204 a a:=by obtain⟨mt,b,e⟩:=Option.map_eq_some_iff.1 RE;obtain⟨info,c,d⟩:=Option.bind_eq_some_iff.1 b;obtain⟨f,g⟩:=Prod.mk.inj e;exact rO lay Rl c d (by rw[f]) g rfl
theorem O7{a:AV}:wn prog 169  "palfrey/mark.breaks" 205 a a:=by obtain⟨mt,b,e⟩:=Option.map_eq_some_iff.1 RF;obtain⟨info,c,d⟩:=Option.bind_eq_some_iff.1 b;obtain⟨f,g⟩:=Prod.mk.inj e;exact rO lay Rm c d (by rw[f]) g rfl
def aU(f:Fr)(l:List Int):List Int:=(dp (λa b=>decide (uh f a b<0)) l).reverse
def mG(f:Fr)(l:List Int):Int:=if dt f (aU f l)then 1 else if ci f (aU f l)then 2 else if bY f (aU f l)then 3 else 0
abbrev RG(n:Int):AV:=if n=1 then .px 167 (.agg [])else if n=2 then .px 168 (.agg [])else if n=3 then .px 169 (.agg [])else .lit .nilIface
theorem LW.sort{f:Fr}{l:List Int}(h:LW f l):LW f (aU f l):=
 ⟨fun n a=>h.mem n ((qD _ _ _).1 (by simpa[aU]using a)),λe=>h.ne (by
   have:(aU f l).length=l.length:=by simp[aU,ke]
   rw[e]at this;exact List.length_eq_zero_iff.1 this.symm),by simp[aU,ke,h.len]⟩
theorem Ko{b mb:Nat}{f:Fr}{l:List Int}(y:f.Good)(v:LW f l)(d:l.length<20)(h:KF (.val (RG (mG f l))) σ):ar prog m 70 [iY b mb f 0,ints l] σ KF:=by
 have t:=v.sort;refine fs [] 2 Tryz.func70 rfl rfl (by rfl) (by kernel_rfl) ?_;simp[Tryz.f70];refine bT.intro λc B=>?_
 simp;refine cf Tryz.func123 rfl (Nl Km v.mem d v.ne ⟨rfl,rfl⟩ ?_);obtain⟨S,z⟩:∃S,S=(dp (λa b=>decide (uh f a b<0)) l).reverse:=⟨_,rfl⟩;have r:aU f l=S:=z.symm;rw[r]at t;unfold mG at h;rw[r]at h;rw[<-z];refine rn ?_;simp;refine ab.loop 3 (λk s=>∃env j,s=⟨env,j,[],.no⟩/\σ.Le j/\env 1=ints S/\env 2=.cp (iY b mb f 0) 0/\env 19=.sl 1 [.px 167 (.agg []),.px 168 (.agg []),.px 169 (.agg [])] .exact/\env 20=int 3/\env 21=int k/\(1<=k->dt f S=false)/\(2<=k->ci f S=false)/\(3<=k->bY f S=false)) ⟨_,_,rfl,aa.cX (aa.le_refl _) B,by simp,by simp,by simp,by simp,by simp,by simp,by simp,by simp⟩ ?_;rintro E k _ F ⟨env,j,rfl,e,o,p,i,d,g,w,A,C⟩ x;obtain rfl|rfl|rfl|rfl:k=0\/k=1\/k=2\/k=3:=by omega
 . refine rn ?_
   simp[o,p,i,d,g];refine ab.invoke rfl rfl rfl (by simp) rfl O5 Tryz.func203 rfl rfl ?_;refine ED t ?_;refine rn ?_;simp;cases hb:dt f S
   . simp[g]
     exact x _ (by omega) ⟨_,_,rfl,e,by simp[o],by simp[p],by simp[i],by simp[d],by simp,λ_=>hb,λq=>(by omega),λq=>(by omega)⟩
   . simp
     simp[hb]at h;exact .less e (.done h)
 . have n:=w (by omega)
   refine rn ?_;simp[o,p,i,d,g];refine ab.invoke rfl rfl rfl (by simp) rfl O6 Tryz.func204 rfl rfl ?_;refine EE y t ?_;refine rn ?_;simp;cases hb:ci f S
   . simp[g]
     exact x _ (by omega) ⟨_,_,rfl,e,by simp[o],by simp[p],by simp[i],by simp[d],by simp,λ_=>n,λ_=>hb,λq=>(by omega)⟩
   . simp
     simp[hb,n]at h;exact .less e (.done h)
 . have n:=w (by omega)
   have u:=A (by omega);refine rn ?_;simp[o,p,i,d,g];refine ab.invoke rfl rfl rfl (by simp) rfl O7 Tryz.func205 rfl rfl ?_;refine EF y t ?_;refine rn ?_;simp;cases hb:bY f S
   . simp[g]
     exact x _ (by omega) ⟨_,_,rfl,e,by simp[o],by simp[p],by simp[i],by simp[d],by simp,λ_=>n,λ_=>u,λ_=>hb⟩
   . simp
     simp[hb,n,u]at h;exact .less e (.done h)
 . have n:=w (by omega)
   have u:=A (by omega);have D:=C (by omega);simp[n,u,D]at h;refine rn ?_;simp[d,g];exact .less e (.done h)
end Go.Proofs.YtldmpfccgajobaaGreatDoor
namespace Go.Proofs.YtldmpfccgajobaaGreatDoor
open Tryz (prog)
open Go Go.aR
set_option maxRecDepth 100000
abbrev nn:zd:=⟨148,149,163,164,170,172,131,132,143,130,169,171,175,176,178,179,181,226,178,21⟩
theorem Kr:∀(a:Fl) b o kind,aN prog a [0,5] (LD prog nn b o kind) un=some (tV prog nn b o kind):=by intro a b o kind;kernel_rfl
theorem Ks:∀(a:Fl) b o kind,aN prog a [0] (tV prog nn b o kind) tt=some (NV prog nn b o kind):=by intro a b o kind;kernel_rfl
theorem Kt:∀(a:Fl) b o kind,aN prog a [0,2,3,4,5,12] (tV prog nn b o kind) ff=some (RY prog nn b o kind):=by intro a b o kind;kernel_rfl
theorem Ku:∀(a:Fl) b o kind,aN prog a [8] (NV prog nn b o kind) un=some (PR prog nn b o kind):=by intro a b o kind;kernel_rfl
theorem Kv:∀(a:Fl) b o kind,aN prog a [9] (PR prog nn b o kind) (pt b o)=some (NW prog nn b o kind):=by intro a b o kind;kernel_rfl
theorem Kw:∀(a:Fl) b o kind,aN prog a [] (NW prog nn b o kind) un=some (BK nn kind):=by intro a b o kind;kernel_rfl
theorem Hq:∀(a:Fl) b o kind L K S aw sv it,pS prog a [0,2,3,4,5,6] (OH prog nn b o kind aw sv it) (.word L K S 0)=some (HD prog nn b o kind L K S aw sv it):=by intro a b o kind L K S aw sv it;kernel_rfl
theorem Hr:∀(a:Fl) b o kind L K S aw sv it,pS prog a [0,2,3,4,5,6] (Fk prog nn b o kind aw sv it) (.word L K S 0)=some (HD prog nn b o kind L K S aw sv it):=by intro a b o kind L K S aw sv it;kernel_rfl
theorem Ht:∀(a:Fl) b o kind L K S aw sv it,pS prog a [0,2,3,4,5,6] (OI prog nn b o kind aw sv it) (.word L K S 0)=some (HD prog nn b o kind L K S aw sv it):=by intro a b o kind L K S aw sv it;kernel_rfl
theorem Kx:∀(a:Fl) b o kind K aw sv it,Qz prog a [0,2,3,4,5,6,17,18] (HD prog nn b o kind true K false aw sv it)=SQ prog nn b o kind K aw sv it:=by intro a b o kind K aw sv it;cases K<;>cases aw<;>cases sv<;>kernel_rfl
theorem Ky:∀(a:Fl) b o kind L K S aw sv it,(L && !S)=false->(aw && !K)=false->Qz prog a [0,2,3,4,5,6,77,78,79] (HD prog nn b o kind L K S aw sv it)=Ce prog nn b o kind L K S aw sv it:=by intro a b o kind L K S aw sv it c d;cases L<;>cases K<;>cases S<;>cases aw<;>cases sv<;>first|exact absurd c (by decide)|exact absurd d (by decide)|kernel_rfl
theorem Hu:∀(a:Fl) b o kind it,aN prog {a with n0:=false} [0,2,3,4,5,33,36,37,39] (SQ prog nn b o kind false false false it) tt=some (SW prog nn b o kind it):=by intro a b o kind it;kernel_rfl
theorem EG:∀(a:Fl) b o kind n0 K aw sv it,(!aw && !K && !n0)=false->aN prog {a with n0:=n0} [0,2,3,4,5] (SQ prog nn b o kind K aw sv it) tt=some (DS prog nn b o kind aw sv it):=by intro a b o kind n0 K aw sv it h;cases n0<;>cases K<;>cases aw<;>cases sv<;>first|exact absurd h (by decide)|kernel_rfl
theorem Hv:∀(a:Fl) b o kind K aw sv it,(aw && !K)=false->aN prog a [0,2,3,4,5,6,77,78,79] (SQ prog nn b o kind K aw sv it) ff=some (Ce prog nn b o kind true K false aw sv it):=by intro a b o kind K aw sv it h;cases K<;>cases aw<;>cases sv<;>first|exact absurd h (by decide)|kernel_rfl
theorem Hw:∀(a:Fl) b o kind r it,aN prog a [0,2,3,4,5] (SW prog nn b o kind it) (bl r)=some (DS prog nn b o kind r false it):=by intro a b o kind r it;cases r<;>kernel_rfl
theorem EH:∀(a:Fl) b o kind aw sv,aN prog a [0,2,3,4,5,47] (DS prog nn b o kind aw sv 0) un=some (Fk prog nn b o kind aw sv 1):=by intro a b o kind aw sv;kernel_rfl
theorem EI:∀(a:Fl) b o kind aw sv,aN prog a [0,2,3,4,5,47] (DS prog nn b o kind aw sv 1) un=some (Fk prog nn b o kind aw sv 2):=by intro a b o kind aw sv;kernel_rfl
theorem EJ:∀(a:Fl) b o kind aw sv,aN prog a [0,2,3,4,5,47] (DS prog nn b o kind aw sv 2) un=some (Fk prog nn b o kind aw sv 3):=by intro a b o kind aw sv;kernel_rfl
theorem EK:∀(a:Fl) b o kind aw sv,aN prog a [0,2,3,4,5,47] (DS prog nn b o kind aw sv 3) un=some (Fk prog nn b o kind aw sv 4):=by intro a b o kind aw sv;kernel_rfl
theorem Hx:∀(a:Fl) b o kind K aw sv it,aN prog a [0] (Ce prog nn b o kind false K false aw sv it) tt=some (LU prog nn b o kind):=by intro a b o kind K aw sv it;cases K<;>kernel_rfl
theorem EL:∀(a:Fl) b o kind L K S aw sv it,(L||S)=true->aN prog {a with wz:=true} [0,3] (Ce prog nn b o kind L K S aw sv it) tt=some (T1 prog nn b o kind sv):=by intro a b o kind L K S aw sv it h;cases L<;>cases K<;>cases S<;>first|exact absurd h (by decide)|kernel_rfl
theorem EM:∀(a:Fl) b o kind L K S aw sv it,(L||S)=true->aN prog {a with wz:=false} [0,2,3,91] (Ce prog nn b o kind L K S aw sv it) tt=some (PK prog nn b o kind sv):=by intro a b o kind L K S aw sv it h;cases L<;>cases K<;>cases S<;>first|exact absurd h (by decide)|kernel_rfl
theorem Hy:∀(a:Fl) b o kind L K S aw sv it,aN prog a [0,2,3,4,5,133] (Ce prog nn b o kind L K S aw sv it) ff=some (OI prog nn b o kind aw sv it):=by intro a b o kind L K S aw sv it;kernel_rfl
theorem Hz:∀(a:Fl) b o kind sv,aN prog a [0,2,3,91] (T1 prog nn b o kind sv) .GL=some (PK prog nn b o kind sv):=by intro a b o kind sv;kernel_rfl
theorem EN:∀(a:Fl) b o kind,aN prog a [0,2,3,103] (PK prog nn b o kind true) un=some (UP prog nn b o kind true):=by intro a b o kind;kernel_rfl
theorem EO:∀(a:Fl) b o kind,aN prog a [0,2,95] (PK prog nn b o kind false) un=some (TQ prog nn b o kind):=by intro a b o kind;kernel_rfl
theorem HA:∀(a:Fl) b o kind x,aN prog {a with tb:=x} [0,2,3,103] (TQ prog nn b o kind) .now=some (UP prog nn b o kind x):=by intro a b o kind x;cases x<;>kernel_rfl
theorem HB:∀(a:Fl) b o kind sv n1,aN prog {a with n0:=false,n1:=n1} [0,128,129] (UP prog nn b o kind sv) (.word false false true 0)=some (AD prog nn b o kind (if !sv||n1 then -11 else -7)):=by intro a b o kind sv n1;cases sv<;>cases n1<;>kernel_rfl
theorem HC:∀(a:Fl) b o kind L K sv,pS prog a [0,2,3,4,5,6] (UP prog nn b o kind sv) (.word L K false 0)=some (HD prog nn b o kind L K false true sv 0):=by intro a b o kind L K sv;cases L<;>cases K<;>kernel_rfl
theorem HE:∀(a:Fl) b o kind d,aN prog a [0] (AD prog nn b o kind d) .bJ=some (LU prog nn b o kind):=by intro a b o kind d;kernel_rfl
theorem HF:∀(a:Fl) b o kind,aN prog a [136] (LU prog nn b o kind) un=some (PS prog nn b o kind):=by intro a b o kind;kernel_rfl
theorem HG:∀(a:Fl) b o kind,aN prog a [137] (PS prog nn b o kind) (pt b o)=some (NY prog nn b o kind):=by intro a b o kind;kernel_rfl
theorem HH:∀(a:Fl) b o kind,aN prog a [] (NY prog nn b o kind) un=some (BK nn kind):=by intro a b o kind;kernel_rfl
theorem Kz:∀(a:Fl) b o kind,aN prog a [0,7] (U0 prog nn b o kind) .bJ=some (PT prog nn b o kind):=by intro a b o kind;kernel_rfl
theorem KA:∀(a:Fl) b o kind,aN prog a [0,8] (PT prog nn b o kind) (pt b o)=some (UR prog nn b o kind):=by intro a b o kind;kernel_rfl
theorem KB:∀(a:Fl) b o kind,aN prog a [0] (UR prog nn b o kind) un=some (UD prog nn b o kind):=by intro a b o kind;kernel_rfl
theorem KC:∀(a:Fl) b o kind,aN prog a [0,13] (UD prog nn b o kind) un=some (rD prog nn b o kind):=by intro a b o kind;kernel_rfl
theorem KG:∀(a:Fl) b o kind n0 K,(n0||K)=true->aN prog {a with n0:=n0} [] (rD prog nn b o kind) (.word false K false 0)=some (UE prog nn b o kind):=by intro a b o kind n0 K h;cases n0<;>cases K<;>first|exact absurd h (by decide)|kernel_rfl
theorem HI:∀(a:Fl) b o kind n0 K,aN prog {a with n0:=n0} [41] (rD prog nn b o kind) (.word false K true 0)=some (G9 prog nn b o kind):=by intro a b o kind n0 K;cases n0<;>cases K<;>kernel_rfl
theorem HJ:∀(a:Fl) b o kind,aN prog {a with n0:=false} [0,27,28,29] (rD prog nn b o kind) (.word false false false 0)=some (UC prog nn b o kind):=by intro a b o kind;kernel_rfl
theorem HK:∀(a:Fl) b o kind,aN prog a [33] (UC prog nn b o kind) tt=some (G7 prog nn b o kind):=by intro a b o kind;kernel_rfl
theorem HL:∀(a:Fl) b o kind,aN prog a [0,37] (UC prog nn b o kind) ff=some (LV prog nn b o kind):=by intro a b o kind;kernel_rfl
theorem KH:∀(a:Fl) b o kind n0 L K S,(n0||L||K||S)=true->aN prog {a with n0:=n0} [] (LV prog nn b o kind) (.word L K S 0)=some (UE prog nn b o kind):=by intro a b o kind n0 L K S h;cases n0<;>cases L<;>cases K<;>cases S<;>first|exact absurd h (by decide)|kernel_rfl
theorem HM:∀(a:Fl) b o kind,aN prog {a with n0:=false} [0,27,28,29] (LV prog nn b o kind) (.word false false false 0)=some (UC prog nn b o kind):=by intro a b o kind;kernel_rfl
theorem KI:∀(a:Fl) b o kind,aN prog a [] (G7 prog nn b o kind) un=some (UE prog nn b o kind):=by intro a b o kind;kernel_rfl
theorem KJ:∀(a:Fl) b o kind,aN prog a [] (G9 prog nn b o kind) un=some (UE prog nn b o kind):=by intro a b o kind;kernel_rfl
theorem HN:∀(a:Fl) b o kind,aN prog a [] (UE prog nn b o kind) un=some (QH nn kind):=by intro a b o kind;kernel_rfl
theorem KK:∀b o kind,bb (LD prog nn b o kind).1=some (nn.jF,[])/\(LD prog nn b o kind).1.kind=.normal:=by intro b o kind;exact⟨by kernel_rfl,by kernel_rfl⟩
theorem KL:∀b o kind,bb (tV prog nn b o kind).1=some (nn.kU,[pt b o,i32 0,i32 1]):=by intro b o kind;kernel_rfl
theorem KM:∀b o kind,bb (NV prog nn b o kind).1=some (nn.en,[]):=by intro b o kind;kernel_rfl
theorem KN:∀b o kind,kY (PR prog nn b o kind).1=some (nn.tM,nn.tU,pt b o):=by intro b o kind;kernel_rfl
theorem KO:∀b o kind,bb (NW prog nn b o kind).1=some (nn.acq,[pt b o]):=by intro b o kind;kernel_rfl
theorem HO:∀b o kind aw sv it,qI (OH prog nn b o kind aw sv it).1=some (nn.tI,pt b o):=by intro b o kind aw sv it;kernel_rfl
theorem HP:∀b o kind aw sv it,qI (Fk prog nn b o kind aw sv it).1=some (nn.tI,pt b o):=by intro b o kind aw sv it;kernel_rfl
theorem HQ:∀b o kind aw sv it,qI (OI prog nn b o kind aw sv it).1=some (nn.tI,pt b o):=by intro b o kind aw sv it;kernel_rfl
theorem KP:∀b o kind K aw sv it,bb (SQ prog nn b o kind K aw sv it).1=some (nn.GN,[i64 it]):=by intro b o kind K aw sv it;kernel_rfl
theorem KQ:∀b o kind it,bb (SW prog nn b o kind it).1=some (nn.kU,[pt b o,.word true false false 0,.word true true false 0]):=by intro b o kind it;kernel_rfl
theorem KR:∀b o kind aw sv it,bb (DS prog nn b o kind aw sv it).1=some (nn.tT,[]):=by intro b o kind aw sv it;kernel_rfl
theorem HR:∀b o kind L K S aw sv it,bb (Ce prog nn b o kind L K S aw sv it).1=some (nn.kU,[pt b o,.word L K S 0,ME L K S aw sv]):=by intro b o kind L K S aw sv it;kernel_rfl
theorem HS:∀b o kind sv,bb (T1 prog nn b o kind sv).1=some (nn.nano,[]):=by intro b o kind sv;kernel_rfl
theorem HT:∀b o kind sv,bb (PK prog nn b o kind sv).1=some (nn.D5,[pt b (o+1),.bJ,i64 2]):=by intro b o kind sv;kernel_rfl
theorem HU:∀b o kind,bb (TQ prog nn b o kind).1=some (nn.nano,[]):=by intro b o kind;kernel_rfl
theorem HV:∀b o kind sv,qI (UP prog nn b o kind sv).1=some (nn.tI,pt b o):=by intro b o kind sv;kernel_rfl
theorem HW:∀b o kind d,bb (AD prog nn b o kind d).1=some (nn.add,[pt b o,i32 d]):=by intro b o kind d;kernel_rfl
theorem HX:∀b o kind,bb (LU prog nn b o kind).1=some (nn.en,[]):=by intro b o kind;kernel_rfl
theorem HY:∀b o kind,kY (PS prog nn b o kind).1=some (nn.tM,nn.tU,pt b o):=by intro b o kind;kernel_rfl
theorem HZ:∀b o kind,bb (NY prog nn b o kind).1=some (nn.acq,[pt b o]):=by intro b o kind;kernel_rfl
theorem H1:∀b o kind,qI (U0 prog nn b o kind).1=some (nn.tI,pt b o)/\(U0 prog nn b o kind).1.kind=.normal/\(U0 prog nn b o kind).1.fn=nn.vq:=by intro b o kind;exact⟨by kernel_rfl,by kernel_rfl,by kernel_rfl⟩
theorem H2:∀b o kind,kY (PT prog nn b o kind).1=some (nn.tM,nn.tU,pt b o):=by intro b o kind;kernel_rfl
theorem H3:∀b o kind,bb (UR prog nn b o kind).1=some (nn.rel,[pt b o]):=by intro b o kind;kernel_rfl
theorem H4:∀b o kind,bb (UD prog nn b o kind).1=some (nn.jF,[]):=by intro b o kind;kernel_rfl
theorem H5:∀b o kind,bb (rD prog nn b o kind).1=some (nn.add,[pt b o,i32 (-1)]):=by intro b o kind;kernel_rfl
theorem H6:∀b o kind,bb (UC prog nn b o kind).1=some (nn.kU,[pt b o,wf,.word false true false (-1)]):=by intro b o kind;kernel_rfl
theorem H7:∀b o kind,bb (G7 prog nn b o kind).1=some (nn.oI,[pt b (o+1),ff,i64 2]):=by intro b o kind;kernel_rfl
theorem H8:∀b o kind,bb (G9 prog nn b o kind).1=some (nn.oI,[pt b (o+1),tt,i64 2]):=by intro b o kind;kernel_rfl
theorem H9:∀b o kind,qI (LV prog nn b o kind).1=some (nn.tI,pt b o):=by intro b o kind;kernel_rfl
theorem Ia:∀b o kind,bb (UE prog nn b o kind).1=some (nn.en,[]):=by intro b o kind;kernel_rfl
theorem KS:∀b o kind,(QE prog nn b o kind).all (·.env.all plain)=true/\(LD prog nn b o kind).1.env.all plain=true/\(LD prog nn b o kind).2=QE prog nn b o kind:=by intro b o kind;exact⟨by kernel_rfl,by kernel_rfl,by kernel_rfl⟩
theorem KT:∀b o kind,(RX prog nn b o kind).all (·.env.all plain)=true:=by intro b o kind;kernel_rfl
theorem KU:∀b o kind,(QG prog nn b o kind).all (·.env.all plain)=true/\(U0 prog nn b o kind).1.env.all plain=true/\(U0 prog nn b o kind).2=QG prog nn b o kind:=by intro b o kind;exact⟨by kernel_rfl,by kernel_rfl,by kernel_rfl⟩
theorem KV:∀b o kind,(Sv prog nn b o kind).all (·.env.all plain)=true:=by intro b o kind;kernel_rfl
theorem ln:jf prog nn where
 e1:=Kr
 e2:=Ks
 e3:=Kt
 e4:=Ku
 e5:=Kv
 e6:=Kw
 TE:=Hq
 TF:=Hr
 TG:=Ht
 e8:=Kx
 e9:=Ky
 cP:=Hu
 QI:=EG
 aV:=Hv
 bh:=Hw
 Ea:=EH
 Eb:=EI
 QJ:=EJ
 QK:=EK
 bU:=Hx
 QL:=EL
 QM:=EM
 ck:=Hy
 hQ:=Hz
 QN:=EN
 QO:=EO
 jM:=HA
 TH:=HB
 IU:=HC
 IV:=HE
 TJ:=HF
 TK:=HG
 Ps:=HH
 u1:=Kz
 u2:=KA
 u3:=KB
 u4:=KC
 u5:=KG
 TL:=HI
 TM:=HJ
 TN:=HK
 TO:=HL
 u7:=KH
 TP:=HM
 u8:=KI
 u9:=KJ
 TR:=HN
 o1:=KK
 o2:=KL
 o3:=KM
 o4:=KN
 o5:=KO
 TS:=HO
 TU:=HP
 TV:=HQ
 o7:=KP
 o8:=KQ
 o9:=KR
 Sw:=HR
 TW:=HS
 Sx:=HT
 TX:=HU
 TY:=HV
 TZ:=HW
 T0:=HX
 T2:=HY
 T3:=HZ
 Sz:=H1
 T4:=H2
 T5:=H3
 T6:=H4
 SA:=H5
 SB:=H6
 SC:=H7
 SD:=H8
 T7:=H9
 T8:=Ia
 p1:=KS
 p2:=KT
 p3:=KU
 p4:=KV
theorem lp:jg prog nn where
 jF:=⟨_,rfl,rfl,rfl,rfl,rfl⟩
 en:=⟨_,rfl,rfl,rfl,rfl,rfl⟩
 acq:=⟨_,rfl,rfl,rfl,rfl,rfl⟩
 rel:=⟨_,rfl,rfl,rfl,rfl,rfl⟩
 kU:=⟨_,rfl,rfl,rfl,rfl,rfl⟩
 add:=⟨_,rfl,rfl,rfl,rfl,rfl⟩
 GN:=⟨_,rfl,rfl,rfl,rfl,rfl⟩
 tT:=⟨_,rfl,rfl,rfl,rfl,rfl⟩
 nano:=⟨_,rfl,rfl,rfl,rfl,rfl⟩
 Jv:=⟨_,rfl,rfl⟩
 D5:=⟨_,rfl,rfl,rfl,rfl,rfl⟩
 oI:=⟨_,rfl,rfl,rfl,rfl,rfl⟩
 QP:=by kernel_rfl
 T9:=⟨_,rfl,rfl,rfl⟩
 nS:=⟨_,rfl,rfl⟩
 nU:=⟨_,rfl,rfl⟩
 nV:=⟨_,rfl,rfl⟩
end Go.Proofs.YtldmpfccgajobaaGreatDoor
namespace Go.Proofs.YtldmpfccgajobaaGreatDoor
open Tryz (prog)
open Go.aR Go.Conc
set_option maxHeartbeats 1000000
set_option maxRecDepth 4000
variable{m:Mo}{σ:aa}{KF:dF->aa->Prop}
def jc(f:Fr)(x:Int):Bool:=decide (mG f (cD x)=0)
def cO(f:Fr)(l:List (Int × AV)):Prop:=∀n a,gu l n=some a->a=bool (jc f n)
theorem RH:GG prog 139 151 4 5 .u8:=.of (by kernel_rfl) (by kernel_rfl) (by kernel_rfl) (by kernel_rfl)
theorem Nn(f:Fr)(l:List Int):mG f l=0\/mG f l=1\/mG f l=2\/mG f l=3:=by
 unfold mG;split
 . exact .inr (.inl rfl)
 split
 . exact .inr (.inr (.inl rfl))
 split
 . exact .inr (.inr (.inr rfl))
 . exact .inl rfl
theorem C2{f:Fr}{l:List Int}(h:mG f l≠0):∃d a,RG (mG f l)=.px d a:=by
 rcases Nn f l with e|e|e|e
 . exact absurd e h
 all_goals rw[e];exact⟨_,_,rfl⟩
theorem Ib{f:Fr}{l:List (Int × AV)}{x n:Int}{a:AV}(b:cO f l)(h:gu (l++[(x,bool (jc f x))]) n=some a):a=bool (jc f n):=by
 unfold gu at h;rw[List.find?_append]at h;cases e:l.find? (λp=>n==p.1)with
 |some p=>rw[e]at h;simp only[Option.some_or,Option.map_some,Option.some.injEq]at h;subst h;exact b n p.2 (by unfold gu;rw[e];rfl)
 | none=>
   rw[e]at h;simp only[Option.none_or,List.find?_cons,List.find?_nil]at h;split at h
   . next q=>simp only[Option.map_some,Option.some.injEq]at h;rw[beq_iff_eq]at q;subst h;rw[q]
   . cases h
theorem O8{b mb:Nat}{f:Fr}{x:Int}{Un:aa->Prop}{Ld:aa->List (Int × AV)->Prop}(o:Fa prog m nn b 6 mb .u8 (cO f) Un Ld)(I:f.Good)(J:LW f (cD x))(v:(cD x).length<20)(K:Un σ)(h:∀σ',Un σ'->lq b mb σ σ'->KF (.val (bool (jc f x))) σ'):ar prog m 116 [iY b mb f 0,xv x] σ KF:=by
 refine fs Rs 2 Tryz.func116 rfl rfl (by rfl) (by kernel_rfl) ?_;simp[Tryz.f116];refine cf Tryz.func148 rfl (o.lock (zr _ _ _ _) K λL l s w p q=>?_);refine rn ?_;simp;refine ab.defer rfl rfl rfl rfl (by simp) rfl ?_;refine rn ?_;simp;refine DU lay RH Ul rfl rfl Vz rfl rfl (o.map s) ?_;refine pg ?_;simp
 have i:∀(env:Env) (g:aa) z,env 4=bool (jc f x)->Ld g z->cO f z->(∀c,c≠b->c≠mb->g c=σ c)->vN prog m (.func 149) [] [AV.kp b [ll f.ao,rows f.roads,int f.bE,int f.iQ,int f.dG,int f.most,.lit (.int .i32 0),.lit (.int .u32 0),.map mb] [6,7] 6] .ret g (λA σ'=>LR lay m [ResultVar.tmp 4] env (ov KF) [] A σ'):=λenv g z M B C D=>by
  refine vN.func Tryz.func149 rfl rfl (o.unlock (zr _ _ _ _) B C λE F G=>?_);refine⟨[env 4],rfl,.done ?_⟩;rw[show oneOf [env 4]=env 4 from rfl,M];refine h E F λc y H t j=>?_
  have tk:c≠mb:=λe=>by
   subst e;rcases j with j|j
   . exact j rfl
   . have:=q y H
     rw[j]at this;cases this
  rw[G c t tk,D c t tk];exact H
 cases r:gu l x with
 |some a=>have N:=w x a r;subst N;simp;refine rn ?_;simp;exact i _ _ _ (by simp) s w p
 | none=>
   simp;refine rn ?_;simp;refine cf Tryz.func150 rfl (Kl ?_);refine rn ?_;simp;refine cf Tryz.func70 rfl (Ko I J v ?_);refine rn ?_;simp;have k:decide (mG f (cD x)=0)=jc f x:=rfl;refine pM lay rfl Rg rfl (isNil:=jc f x) ?_ (.inl ⟨rfl,rfl⟩) ?_
   . by_cases u:mG f (cD x)=0
     . left
       refine⟨?_,by rw[<-k];simp[u]⟩;simp[u];rfl
     . right
       obtain⟨d,a,e⟩:=C2 u;refine⟨⟨d,a,?_⟩,by rw[<-k];simp[u]⟩;rw[<-e];simp
   refine rn ?_;simp;refine xZ lay RH Ul rfl rfl rfl rfl rfl (o.map s) r ?_;refine pg ?_;simp;refine rn ?_;simp;refine i _ _ _ (by simp) (o.put s) (λn a O=>?_) (λc t j=>by rw[aa.ag _ _ j];exact p c t j);exact Ib w (by simpa using O)
def dv(f:Fr)(begun:List Int):Nat->List Int->Int->List Int->List (List Int)
 |0,de,_,_=>[de]
 | fuel+1,de,many,a=>(List.range (min (many+1) f.most).toNat).flatMap λk:Nat=>
    if de.length<begun.length/\begun.getD de.length 0≠(k:Int)then[]
    else if jc f (bH (a.getD k 0) de.length)=true then dv f begun fuel (de++[(k:Int)]) (max many ((k:Int)+1)) (a.set k (bH (a.getD k 0) de.length))else[]
def am(f:Fr)(begun:List Int):List (List Int):=dv f begun f.ao.length [] 0 [0,0,0,0,0,0]
def Mv(b mb:Nat)(F a:Nat->Prop)(σ σ':aa):Prop:=∀c x,σ c=some x -> ¬F c->c≠b->(c≠mb\/x.plain=true)->σ' c=some x/\¬a c
theorem Mv.refl(b mb:Nat)(F:Nat->Prop)(σ:aa):Mv b mb F F σ σ:=λ_ _ h a _ _=>⟨h,a⟩
theorem Mv.trans{b mb:Nat}{F g d:Nat->Prop}{σ σ' a:aa}(h:Mv b mb F g σ σ')(k:Mv b mb g d σ' a):Mv b mb F d σ a:=λc x i j e f=>k c x (h c x i j e f).1 (h c x i j e f).2 e f
structure Ma(m:Mo)(y:AV)(W:List (List Int))(I:Nat->(Nat->Prop)->aa->Prop)(E:(Nat->Prop)->aa->Prop):Prop where
 step:∀(k:Nat) (F:Nat->Prop) (σ:aa) (KF:dF->aa->Prop) (hk:k<W.length),I k F σ->(∀F' σ',Ff F F' σ σ'->I (k+1) F' σ'->KF (.val (bool true)) σ')->(∀F' σ',Ff F F' σ σ'->E F' σ'->KF (.val (bool false)) σ')->dX prog m y [ints W[k]] σ KF
 frame:∀(k:Nat) (F:Nat->Prop) (σ σ':aa),(∀c,F c->σ' c=σ c)->I k F σ->I k F σ'
 O9:∀(F:Nat->Prop) (σ σ':aa),(∀c,F c->σ' c=σ c)->E F σ->E F σ'
 Oe:∀(k:Nat) (F:Nat->Prop) (σ:aa) (c:Nat),I k F σ->F c->∃x,σ c=some x/\x.plain=true
theorem C3{b mb:Nat}{F a:Nat->Prop}{σ σ':aa}(h:Ff F a σ σ'):Mv b mb F a σ σ':=λc x d e _ _=>h c x e d
theorem pZ{b mb:Nat}{GI:List (Int × AV)->Prop}{Un:aa->Prop}{Ld:aa->List (Int × AV)->Prop}(f:Fa prog m nn b 6 mb .u8 GI Un Ld){d:Nat}{y:ku}(g:Un σ)(hd:∀x,σ d=some x->x.plain=true):Un (σ.set d y):=f.un (λc _ ⟨x,h,a⟩=>aa.ag _ _ (λe=>by subst e;rw[hd x h]at a;cases a)) g
theorem xw{b mb:Nat}{GI:List (Int × AV)->Prop}{Un:aa->Prop}{Ld:aa->List (Int × AV)->Prop}(g:Fa prog m nn b 6 mb .u8 GI Un Ld){F h:Nat->Prop}{σ':aa}(i:Un σ)(j:Ff F h σ σ')(hd:∀c,F c->∃x,σ c=some x/\x.plain=true):Un σ':=
 g.un (λc _ ⟨x,a,e⟩=>by
  have d:¬F c:=λd=>by obtain⟨l,f,k⟩:=hd c d;rw[a]at f;cases f;rw[k]at e;cases e
  rw[(j c x d a).1,a]) i
abbrev xx(a y:AV)(begun:List Int)(cp:Nat):AV:=.fn (.func 117) [] [.cp a 0,.cp y 0,.cp (ints begun) 0,.ref cp 0]
abbrev bp(a:AV)(c4 cg:Nat):AV:=.fn (.func 113) [] [.ref c4 0,.cp a 0,.ref cg 0]
structure WS(b mb:Nat)(f:Fr)(y:AV)(begun:List Int)(c4 cg cp:Nat)(hs:List Int)(F:Nat->Prop)(σ:aa):Prop where
 arr:σ c4=some (.cells (hs.map u8))
 RI:σ cg=some (.cells [xx (iY b mb f 0) y begun cp])
 pt:σ cp=some (.cells [bp (iY b mb f 0) c4 cg])
 out:¬F c4/\¬F cg/\¬F cp
 ne:c4≠cg/\c4≠cp
theorem WS.mv{b mb:Nat}{f:Fr}{y:AV}{begun:List Int}{c4 cg cp:Nat}{d:List Int}{F g:Nat->Prop}{σ σ':aa}(h:WS b mb f y begun c4 cg cp d F σ)(hb:∃x,σ b=some x/\x.plain=false)(a:Mv b mb F g σ σ'):WS b mb f y begun c4 cg cp d g σ':=by
 obtain⟨x,j,k⟩:=hb;have ne:∀c l,σ c=some (.cells l)->c≠b:=λc l i e=>by subst e;rw[j]at i;cases i;cases k
 obtain⟨m,n⟩:=a c4 _ h.arr h.out.1 (ne _ _ h.arr) (.inr rfl);obtain⟨o,p⟩:=a cg _ h.RI h.out.2.1 (ne _ _ h.RI) (.inr rfl);obtain⟨q,r⟩:=a cp _ h.pt h.out.2.2 (ne _ _ h.pt) (.inr rfl);exact⟨m,o,q,⟨n,p,r⟩,h.ne⟩
structure Hs(f:Fr)(n:Nat)(hs:List Int):Prop where
 oA:hs.length=6
 bits:∀x∈hs,∀e∈cD x,e<n
 small:∀x∈hs,0<=x/\x<64
section
variable{b mb:Nat}{f:Fr}{begun:List Int}{y:AV}{W:List (List Int)}{I:Nat->(Nat->Prop)->aa->Prop}{E:(Nat->Prop)->aa->Prop}{Un:aa->Prop}{Ld:aa->List (Int × AV)->Prop}{c4 cg cp:Nat}
def Of(b mb:Nat)(Un:aa->Prop)(I:Nat->(Nat->Prop)->aa->Prop)(E:(Nat->Prop)->aa->Prop)(a n:Nat)(F:Nat->Prop)(σ:aa)(KF:dF->aa->Prop):Prop:=(∀d c,Mv b mb F d σ c->Un c->I (a+n) d c->KF (.val (bool true)) c)/\(∀d c,Mv b mb F d σ c->Un c->E d c->KF (.val (bool false)) c)
def KW(m:Mo)(b mb:Nat)(f:Fr)(begun:List Int)(y:AV)(W:List (List Int))(I:Nat->(Nat->Prop)->aa->Prop)(E:(Nat->Prop)->aa->Prop)(Un:aa->Prop)(c4 cg cp:Nat)(fuel:Nat):Prop:=
 ∀ (de:List Int) (many:Int) (a:List Int) (sp:bX) (F:Nat->Prop) (σ:aa) (pre post:List (List Int)) (KF:dF->aa->Prop),de.length+fuel=f.ao.length->0<=many/\many<=6->Hs f de.length a->WS b mb f y begun c4 cg cp a F σ->Un σ ->
   W=pre++dv f begun fuel de many a++post->I pre.length F σ->Of b mb Un I E pre.length (dv f begun fuel de many a).length F σ KF ->
   ar prog m 117 [.sl 1 (de.map int) sp,int many,.cp (iY b mb f 0) 0,.cp y 0,.cp (ints begun) 0,.ref cp 0] σ KF
theorem No:∀x:Fin 64,∀n:Fin 6,(0<=bH (x.val:Int) (n.val:Int)/\bH (x.val:Int) (n.val:Int)<64)/\(∀e∈cD (bH (x.val:Int) (n.val:Int)),e=(n.val:Int)\/e∈cD (x.val:Int))/\(n.val:Int)∈cD (bH (x.val:Int) (n.val:Int)):=by decide +kernel
theorem KX{x:Int}{n:Nat}(c:0<=x/\x<64)(a:n<6):(0<=bH x n/\bH x n<64)/\(∀e∈cD (bH x n),e=(n:Int)\/e∈cD x)/\(n:Int)∈cD (bH x n):=by
 have:=No ⟨x.toNat,by omega⟩ ⟨n,a⟩;have b:(x.toNat:Int)=x:=by omega
 simpa only[b]using this
theorem KY{x e:Int}(h:e∈cD x):0<=e/\e<6:=by unfold cD at h;obtain⟨a,_⟩:=List.mem_filter.1 h;obtain⟨i,b,rfl⟩:=List.mem_map.1 a;have:=List.mem_range.1 b;omega
theorem C4(x:Int):(cD x).length<20:=by unfold cD;refine Nat.lt_of_le_of_lt (List.length_filter_le _ _) ?_;rw[List.length_map,List.length_range];omega
theorem Hs.set{n:Nat}{b:List Int}(h:Hs f n b)(g:n<6){k:Nat}(c:k<b.length):Hs f (n+1) (b.set k (bH b[k] n)):=by
 have d:=KX (h.small _ (List.getElem_mem c)) g;refine⟨by rw[List.length_set];exact h.oA,λx a e he=>?_,λx a=>?_⟩
 . rcases List.mem_or_eq_of_mem_set a with a|rfl
   . have:=h.bits x a e he;omega
   . rcases d.2.1 e he with rfl|he
     . omega
     . have:=h.bits _ (List.getElem_mem c) e he;omega
 . rcases List.mem_or_eq_of_mem_set a with a|rfl
   . exact h.small x a
   . exact d.1
theorem Hs.uQ{n:Nat}{a:List Int}(h:Hs f n a)(d:n<f.ao.length)(g:f.ao.length<=6){k:Nat}(b:k<a.length):LW f (cD (bH a[k] n)):=by
 have c:=KX (h.small _ (List.getElem_mem b)) (n:=n) (by omega);refine⟨λe he=>⟨(KY he).1,?_⟩,λq=>?_,by have:=C4 (bH a[k] n);omega⟩
 . rcases c.2.1 e he with rfl|he
   . omega
   . have:=h.bits _ (List.getElem_mem b) e he;omega
 . have:=c.2.2
   rw[q]at this;cases this
theorem Np{d:Nat}{k:Nat}{x:Int}{l:List Int}(i:k<6)(e:l.length=6)(hd:σ d=some (.cells [u8 x]))(g:σ c4=some (.cells (l.map u8)))(h:KF (.val (.bk [])) (σ.set c4 (.cells ((l.set k x).map u8)))):ar prog m 114 [.ref d 0,.ref c4 0,.cp (int k) 0] σ KF:=by
 have a:(k:Int)<6:=by omega
 have b:k<=5:=by omega
 have c:k<l.length:=by omega
 refine fs [] 3 Tryz.func114 rfl rfl (by rfl) (by kernel_rfl) ?_;simp[Tryz.f114,hd,g,a,e,b];rw[wm (by simpa using c),<-List.map_set (f:=u8)];exact .done h
theorem Pa(R : Fa prog m nn b 6 mb .u8 (cO f) Un Ld)(hf:f.Good)(e0:begun.length<1152921504606846976)(Y:Ma m y W I E){fuel:Nat}(hG:KW m b mb f begun y W I E Un c4 cg cp fuel){de:List Int}{many:Int}{k:Nat}{n:List Int}{sp:bX}{F:Nat->Prop}{pre post:List (List Int)}(hlen:de.length+(fuel+1)=f.ao.length)(bz:0<=many/\many<=6)(hk:k<6)
 (hh:Hs f de.length n) (B:WS b mb f y begun c4 cg cp n F σ) (hu:Un σ){L:List (List Int)}(X:L=if jc f (bH (n.getD k 0) de.length)=true then dv f begun fuel (de++[(k:Int)]) (max many ((k:Int)+1)) (n.set k (bH (n.getD k 0) de.length))else[]) (hW:W=pre++L++post)
 (hI:I pre.length F σ) (hR:Of b mb Un I E pre.length L.length F σ KF):ar prog m 113 [.sl 1 (de.map int) sp,int many,int k,.ref c4 0,.cp (iY b mb f 0) 0,.ref cg 0] σ KF:=by
 have h6:=hf.oA;have C:k<n.length:=by rw[hh.oA];exact hk
 have bA:n.getD k 0=n[k]:=by simp[List.getD_eq_getElem?_getD,C]
 rw[bA]at X;have Z:(k:Int)<6:=by omega
 have o:=B.arr;have a7:=hh.oA;have a8:k<=5:=by omega
 have e1:List.take 1 (List.drop k (List.map u8 n))=[u8 n[k]]:=by rw[<-List.map_drop,List.drop_eq_getElem_cons C];rfl
 refine fs Rq 6 Tryz.func113 rfl rfl (by rfl) (by kernel_rfl) ?_
 simp[Tryz.f113,o,Z,a7,a8,e1];refine bT.intro λd hd=>?_
 have d4:d≠c4:=λe=>by subst e;rw[o]at hd;cases hd
 have b0:=Ne.symm d4;simp;refine ab.defer rfl rfl rfl rfl (by simp) rfl ?_
 refine rn ?_;simp[Z];obtain⟨z,hz⟩:∃z,z=bH n[k] de.length:=⟨_,rfl⟩;obtain⟨i,q⟩:∃i,i=n.set k z:=⟨_,rfl⟩;have bB:k<i.length:=by rw[q,List.length_set];exact C
 have b1:i[k]=z:=by subst q;simp
 have e2:List.take 1 (List.drop k (List.map u8 i))=[u8 z]:=by rw[<-List.map_drop,List.drop_eq_getElem_cons bB,b1];rfl
 have e3:aH (List.map u8 n) k [u8 z]=List.map u8 i:=by rw[wm (by simpa using C),q,List.map_set]
 have S:i.length=6:=by rw[q,List.length_set];exact a7
 refine cf Tryz.func115 rfl (Nk (by omega) ?_)
 rw[<-hz];refine pg ?_;simp[b0,aa.ag,o,a7,a8,e3];refine rn ?_;simp[Z,S,a8,e2];have c5:de.length<6:=by omega
 have c6:de.length<f.ao.length:=by omega
 have c7:LW f (cD z):=by rw[hz];exact hh.uQ c6 h6 C
 obtain⟨xb,N,b2⟩:=R.Mb hu;have cb:∀c l,σ c=some (.cells l)->c≠b:=λc l w e=>by subst e;rw[N]at w;cases w;cases b2
 have db:d≠b:=λe=>by subst e;rw[hd]at N;cases N
 have b3:Un ((σ.set d (.cells [u8 n[k]])).set c4 (.cells (i.map u8))):=pZ R (pZ R hu (λx u=>by rw[hd]at u;cases u)) (λx u=>by rw[aa.ag _ _ b0,o]at u;cases u;rfl)
 have b4:((σ.set d (.cells [u8 n[k]])).set c4 (.cells (i.map u8))) c4=some (.cells (i.map u8)):=aa.an _ _ _;have b5:((σ.set d (.cells [u8 n[k]])).set c4 (.cells (i.map u8))) d=some (.cells [u8 n[k]]):=by rw[aa.ag _ _ d4,aa.an]
 have D:∀c,c≠d->c≠c4->((σ.set d (.cells [u8 n[k]])).set c4 (.cells (i.map u8))) c=σ c:=λc p J=>by rw[aa.ag _ _ J,aa.ag _ _ p]
 have b6:¬F d:=λhF=>by obtain⟨x,u,_⟩:=Y.Oe _ _ _ _ hI hF;rw[hd]at u;cases u
 have a9:I pre.length F ((σ.set d (.cells [u8 n[k]])).set c4 (.cells (i.map u8))):=Y.frame _ _ _ _ (λc w=>D c (λe=>b6 (e ▸ w)) (λe=>B.out.1 (e ▸ w))) hI
 generalize (σ.set d (.cells [u8 n[k]])).set c4 (.cells (i.map u8))=e7 at b3 b4 b5 D a9;refine cf Tryz.func116 rfl (O8 R hf c7 (C4 _) b3 λr b7 s=>?_)
 have G:r c4=some (.cells (i.map u8)):=s _ _ b4 (cb _ _ o) (.inr rfl);have ad:r d=some (.cells [u8 n[k]]):=s _ _ b5 db (.inr rfl);have gd:cg≠d:=λe=>by have:=B.RI;rw[e,hd]at this;cases this
 have O:r cg=some (.cells [xx (iY b mb f 0) y begun cp]):=s _ _ (by rw[D cg gd (Ne.symm B.ne.1)];exact B.RI) (cb _ _ B.RI) (.inr rfl)
 have al:i.set k n[k]=n:=by rw[q];simp
 have T:∀(env:Env) (j:aa) (v:Bool),env 9=bool v->j d=some (.cells [u8 n[k]])->j c4=some (.cells (i.map u8))->KF (.val (bool v)) (j.set c4 (.cells (n.map u8)))->vN prog m (.func 114) [.ref d 0,.ref c4 0,.cp (int k) 0] [] .ret j (λc8 g=>LR lay m [ResultVar.tmp 9] env (ov KF) [] c8 g):=λenv j v he ca cl hK=>by
  refine vN.func Tryz.func114 rfl rfl (Np hk S ca cl ?_);refine⟨[env 9],rfl,.done ?_⟩;rw[show oneOf [env 9]=env 9 from rfl,he,al]
  exact hK
 have b8:Mv b mb F F σ (r.set c4 (.cells (n.map u8))):=λc x p J K h4=>by
  refine⟨?_,J⟩
  by_cases e:c=c4
  . subst e;rw[aa.an,<-o];exact p
  . have e':c≠d:=λe'=>by subst e';rw[hd]at p;cases p
    rw[aa.ag _ _ e];exact s c x (by rw[D c e' e];exact p) K h4
 have av:I pre.length F r:=Y.frame _ _ _ _ (λc w=>by
  obtain⟨x,p,J⟩:=Y.Oe _ _ _ _ a9 w
  have cm:c≠b:=λe=>by subst e;obtain⟨x',K,h4⟩:=Y.Oe _ _ _ _ hI w;rw[N]at K;cases K;rw[b2]at h4;cases h4
  rw[p];exact s c x p cm (.inr J)) a9
 rw[<-hz,<-q]at X;cases U:jc f z with
 | false=>
   rw[U]at X;simp only[Bool.false_eq_true,if_false]at X;subst X;refine pg ?_;simp
   repeat' apply And.intro
   all_goals
    refine rn ?_;simp;refine T _ r true (by simp) ad G (hR.1 F _ b8 (pZ R b7 (λx u=>by rw[G]at u;cases u;rfl)) ?_)
    exact Y.frame _ _ _ _ (λc w=>aa.ag _ _ (λe=>B.out.1 (e ▸ w))) av
 | true=>
   rw[U,if_pos rfl]at X
   have ax:∀(j:aa) (H:bX) (P:dF->aa->Prop),r.Le j->(∀(v:Bool) g,g d=some (.cells [u8 n[k]])->g c4=some (.cells (i.map u8))->KF (.val (bool v)) (g.set c4 (.cells (n.map u8)))->P (.val (bool v)) g) ->
    ar prog m 117 [.sl 1 ((de++[(k:Int)]).map int) H,int (max many ((k:Int)+1)),.cp (iY b mb f 0) 0,.cp y 0,.cp (ints begun) 0,.ref cp 0] j P:=λj H P t hK=>by
    have cv:r cp=some (.cells [bp (iY b mb f 0) c4 cg]):=by
     have pd:cp≠d:=λe=>by have:=B.pt;rw[e,hd]at this;cases this
     exact s _ _ (by rw[D cp pd (Ne.symm B.ne.2)];exact B.pt) (cb _ _ B.pt) (.inr rfl)
    have dd:Un j:=R.un (λc _ ⟨x,p,_⟩=>by rw[p];exact t _ _ p) b7
    have dj:WS b mb f y begun c4 cg cp i F j:=⟨t _ _ G,t _ _ O,t _ _ cv,B.out,B.ne⟩
    have dr:I pre.length F j:=Y.frame _ _ _ _ (λc w=>by obtain⟨x,p,_⟩:=Y.Oe _ _ _ _ av w;rw[p];exact t _ _ p) av
    have V:∀(A:Nat->Prop) (g:aa),Mv b mb F A j g->Mv b mb F A σ (g.set c4 (.cells (n.map u8))):=λA g hm c x p J K h4=>by
     by_cases e:c=c4
     . subst e
       obtain⟨q1,Q⟩:=hm c _ (t _ _ G) J K (.inr rfl);exact⟨by rw[aa.an,<-o];exact p,Q⟩
     . have e':c≠d:=λe'=>by subst e';rw[hd]at p;cases p
       rw[aa.ag _ _ e];exact hm c x (t _ _ (s c x (by rw[D c e' e];exact p) K h4)) J K h4
    have b9:∀(A:Nat->Prop) (g:aa),Mv b mb F A j g->g d=some (.cells [u8 n[k]])/\(g c4=some (.cells (i.map u8))/\¬A c4):=λA g hm=>⟨(hm d _ (t _ _ ad) b6 db (.inr rfl)).1,hm c4 _ (t _ _ G) B.out.1 (cb _ _ o) (.inr rfl)⟩
    subst X;refine hG _ _ _ _ F j pre post P (by simp;omega) (by omega) (by rw[List.length_append,q,hz];exact hh.set c5 C) dj dd hW dr ⟨λA g p J K=>?_,λA g p J K=>?_⟩
    . obtain⟨q1,Q,q3⟩:=b9 A g p
      exact hK true g q1 Q (hR.1 A _ (V A g p) (pZ R J (λx u=>by rw[Q]at u;cases u;rfl)) (Y.frame _ _ _ _ (λc w=>aa.ag _ _ (λe=>q3 (e ▸ w))) K))
    . obtain⟨q1,Q,q3⟩:=b9 A g p
      exact hK false g q1 Q (hR.2 A _ (V A g p) (pZ R J (λx u=>by rw[Q]at u;cases u;rfl)) (Y.O9 _ _ _ (λc w=>aa.ag _ _ (λe=>q3 (e ▸ w))) K))
   have k1:-9223372036854775808<=(k:Int)+1/\(k:Int)+1<=9223372036854775807:=by omega
   have M:(if many<(k:Int)+1 then(k:Int)+1 else many)=max many ((k:Int)+1):=by split<;>omega
   refine pg ?_;simp[O,k1.1,k1.2,M]
   repeat' (first
             |apply And.intro
             | (refine pE lay rfl bC rfl oo (es:=de.map int) (sp:=sp) (l:=0) (h:=de.length) (by simp) (λcap bq=>⟨⟨⟨.i64,by simp⟩,by simpa using bq⟩,⟨⟨.i64,by simp⟩,Nat.le_refl _⟩,rfl⟩) (by simp) λa ha=>?_
                have dx:Tok r r a 1 (de.map int):=by
                 rcases ha with rfl|⟨e,rfl⟩
                 . have:List.take (de.length-0) (List.drop 0 (de.map int))=de.map int:=by rw[List.drop_zero,List.take_of_length_le (by simp)]
                   rw[this];exact .exact _ _ _
                 . rw[e];exact .nil _ _
                clear ha;refine pg ?_;simp[G,ad,O,k1.1,k1.2,M])
             | (refine aF lay rfl rfl rfl bC rfl bC rfl oo (by decide) (by simp;omega) (σ0:=r) (es:=de.map int) (xs:=[int k]) (by simpa using dx) (.inr ⟨_,by simp;rfl⟩) λa' j ay=>?_
                obtain⟨H,rfl⟩:∃H,a'=.sl 1 (de.map int++[int k]) H:=by
                 rcases ay.2 with⟨_,e⟩|e|⟨_,_,_,e,_⟩
                 . simp at e
                 . exact⟨_,e⟩
                 . exact⟨_,e⟩
                have dy:=ay.1 _ _ O;refine pg ?_;simp[dy,k1.1,k1.2,M])
             | (refine eY Tryz.func117 rfl rfl (by simp) (ax j H _ ay.1 λv g q1 Q q3=>?_)
                refine pg ?_;simp;refine rn ?_;simp;exact T _ _ v (by simp) q1 Q q3))
end
end Go.Proofs.YtldmpfccgajobaaGreatDoor
