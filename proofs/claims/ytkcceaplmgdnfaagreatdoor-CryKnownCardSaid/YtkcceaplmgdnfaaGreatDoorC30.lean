import Derived.Test.YtkcceaplmgdnfaaGreatDoorC29
set_option linter.all false
namespace Go.Proofs.YtkcceaplmgdnfaaGreatDoor
open Go.Proofs.Tryz (prog)
open Go.bu Go.Conc
set_option maxHeartbeats 1000000
set_option maxRecDepth 4000
variable{m:Mo}{σ:aa}{KF:cJ->aa->Prop}
structure Mi(f:Fr)(l:List Int):Prop where
 mem:∀n∈l,0<=n/\n<f.aF.length
 ne:l≠[]
 len:l.length<=1000000
def fK(f:Fr)(l:List Int):Bool:=l.any λn=>decide ((cx f n).lr≠(cx f (l.getD 0 0)).lr)
theorem rE{f:Fr}{x:Int}(h:x.toNat<f.aF.length):cx f x=f.aF[x.toNat]:=by simp[cx,List.getD_eq_getElem?_getD,h]
theorem Ea{b mb:Nat}{f:Fr}{l:List Int}(u:Mi f l)(h:KF (.val (bool (fK f l))) σ):aB prog m 250 [.agg [],jU b mb f 0,ints l] σ KF:=by
 obtain⟨i,g,hlen⟩:=u;have a:0<l.length:=List.length_pos_iff.2 g;obtain⟨v,A⟩:=i _ (List.getElem_mem a);have j:l[0].toNat<f.aF.length:=by omega
 have w:l.getD 0 0=l[0]:=by simp_all
 unfold fK at h;rw[w]at h;refine fs SJ 3 Tryz.func250 rfl rfl (by rfl) (by kernel_rfl) ?_;simp[Tryz.f250];refine af.loop l.length (λk s=>∃env,s=⟨env,σ,[],.no⟩/\env 1=jU b mb f 0/\env 2=ints l/\env 9=ints l/\env 10=int l.length/\env 11=int k/\∀n∈l.take k,(cx f n).lr=(cx f l[0]).lr) ⟨_,rfl,by simp⟩ ?_;rintro B k _ C ⟨env,rfl,o,p,q,c,d,e⟩ x;rcases Nat.lt_or_ge k l.length with g1|g1
 . obtain⟨y0,D⟩:=i _ (List.getElem_mem g1)
   have r:l[k].toNat<f.aF.length:=by omega
   have E:=rE r;have F:=rE j;refine rn ?_;simp[o,p,q,c,d,g1,a,y0,r,v,j];refine rn ?_;simp;by_cases t:f.aF[l[k].toNat].lr=f.aF[l[0].toNat].lr
   . simp[d,t]
     refine⟨by omega,x _ g1 ⟨_,rfl,by simp[o],by simp[p],by simp[q],by simp[c],by simp,λn y=>?_⟩⟩;rw[List.take_succ_eq_append_getElem g1,List.mem_append,List.mem_singleton]at y
     grind
   . have z:(f.aF[l[k].toNat].lr !=f.aF[l[0].toNat].lr)=true:=by simp[t]
     have:l.any (λn=>decide ((cx f n).lr≠(cx f l[0]).lr))=true:=List.any_eq_true.2 ⟨_,List.getElem_mem g1,by simp_all⟩;rw[this]at h;simp[z];exact .done h
 . have:k=l.length:=by omega
   subst this;rw[List.take_length]at e;have:l.any (λn=>decide ((cx f n).lr≠(cx f l[0]).lr))=false:=by simp_all
   rw[this]at h;refine rn ?_;simp[c,d];exact .done h
def dU(f:Fr)(l:List Int):Bool:=decide (jl f l=[])
theorem Eb{b mb:Nat}{f:Fr}{l:List Int}(g:f.Good)(c:Mi f l)(h:KF (.val (bool (dU f l))) σ):aB prog m 251 [.agg [],jU b mb f 0,ints l] σ KF:=by
 refine fs [] 3 Tryz.func251 rfl rfl (by rfl) (by kernel_rfl) ?_;simp[Tryz.f251];refine cf Tryz.func252 rfl (DY g c.ne c.len c.mem ?_);refine rn ?_;simp;unfold dU at h;cases d:jl f l with
 |nil=>rw[d]at h;exact .done h
 | cons a r=>
   rw[d]at h;have e:((r.length:Int)+1==0)=false:=by grind
   refine .done ?_;simpa[e]using h
def nA(f:Fr)(x y:Int):Bool:=decide ((cx f y).hour-(cx f x).hour<rd f.roads (cx f x).place.toNat (cx f y).place.toNat+f.oZ*cU (aW (cx f x).marks) (aW (cx f y).marks))
def fL(f:Fr)(l:List Int):Bool:=(List.range (l.length-1)).any λi=>nA f (l.getD i 0) (l.getD (i+1) 0)
theorem uJ:∀{l:List Int}{p:Option Int},sI p l=0->∀n∈l,0<=n/\n<=4
 |[],_,_,n,hn=>by simp at hn
 | a::l,p,h,n,hn=>by
   unfold sI at h;split at h
   . cases h
   next b=>
   split at h
   . cases h
   next c=>
   rcases List.mem_cons.1 hn with rfl|hn
   . simp[cZ]at b;omega
   . exact uJ h n hn
theorem GP:∀a:Fin 32,∀n:Fin 5,0<=b0 (a.val:Int) (n.val:Int)/\b0 (a.val:Int) (n.val:Int)<32:=by decide
theorem ot{l:List Int}(h:∀n∈l,0<=n/\n<=4):0<=aW l/\aW l<32:=by
 have key:∀(l:List Int) (a:Int),(∀n∈l,0<=n/\n<=4)->0<=a/\a<32->0<=l.foldl b0 a/\l.foldl b0 a<32:=by
  intro l;induction l with
  |nil=>simp_all
  | cons x l c=>
    intro a b e;rw[List.foldl_cons];refine c _ (λn d=>b n (List.mem_cons_of_mem _ d)) ?_;obtain⟨f,g⟩:=b x (List.mem_cons_self ..);have:=GP ⟨a.toNat,by omega⟩ ⟨x.toNat,by omega⟩;have i:(a.toNat:Int)=a:=by omega
    have j:(x.toNat:Int)=x:=by omega
    simp_all
 exact key l 0 h (by omega)
theorem J1:∀a:Fin 32,∀b:Fin 32,rC 8 (wA (a.val:Int) (b.val:Int))=0/\0<=cU (a.val:Int) (b.val:Int)/\cU (a.val:Int) (b.val:Int)<=5:=by decide +kernel
theorem Nv{a b:Int}(c:0<=a/\a<32)(hb:0<=b/\b<32):rC 8 (wA a b)=0/\0<=cU a b/\cU a b<=5:=by
 have:=J1 ⟨a.toNat,by omega⟩ ⟨b.toNat,by omega⟩
 grind
theorem Fr.Good.row{f:Fr}(a:f.Good){i:Nat}(b:i<f.roads.length):f.roads[i].length=f.roads.length/\∀x∈f.roads[i],0<=x/\x<=9:=by
 have h:=a.Tr;unfold kX at h;split at h
 . cases h
 split at h
 . cases h
 split at h
 . omega
 next q=>
 obtain⟨c,d⟩:=j8 (by simpa using q) _ (List.getElem_mem b);exact⟨c,λx e=>dc (d x e)⟩
theorem Ec{b mb:Nat}{f:Fr}{l:List Int}(j:f.Good)(hl:Mi f l)(h:KF (.val (bool (fL f l))) σ):aB prog m 254 [.agg [],jU b mb f 0,ints l] σ KF:=by
 obtain⟨S,a7,hlen⟩:=hl;have p:=j.oZ;unfold fL at h;refine fs SL 3 Tryz.func254 rfl rfl (by rfl) (by kernel_rfl) ?_
 simp[Tryz.f254];refine af.loop (l.length-1) (λk s=>∃env a,s=⟨env,a,[],.no⟩/\σ.Le a/\env 1=jU b mb f 0/\env 2=ints l/\env 7=int ((k:Int)+1)/\∀i<k,nA f (l.getD i 0) (l.getD (i+1) 0)=false) ⟨_,_,rfl,aa.le_refl _,by simp⟩ ?_
 rintro c0 k _ hk ⟨env,a,rfl,q,r,w,x,T⟩ U
 rcases Nat.lt_or_ge (k+1) l.length with g1|g1
 . have K:(k:Int)+1<l.length:=by omega
   have L:k<l.length:=by omega
   obtain⟨x0,x1⟩:=S _ (List.getElem_mem L);obtain⟨y0,y1⟩:=S _ (List.getElem_mem g1);have y:l[k].toNat<f.aF.length:=by omega
   have z:l[k+1].toNat<f.aF.length:=by omega
   have f1:-9223372036854775808<=(k:Int)/\(k:Int)<=9223372036854775807:=by omega
   have f2:((k:Int)+1).toNat=k+1:=by omega
   have f3:(0:Int)<=(k:Int)+1:=by omega
   obtain⟨A,C⟩:∃A,A=f.aF[l[k].toNat]:=⟨_,rfl⟩;obtain⟨B,D⟩:∃B,B=f.aF[l[k+1].toNat]:=⟨_,rfl⟩;have V:=rE y;have W:=rE z;rw[<-C]at V;rw[<-D]at W;have bA:=yE (j.Nr A (by grind))
   have bB:=yE (j.Nr B (by grind))
   refine rn ?_;simp[r,w,x,K,L,g1,x0,y,y0,z,f1.1,f1.2,f2,f3,<-C,<-D];have e:=λ{c:Nat}(t:a c=none)=>q.none t
   have E:A.place.toNat<f.roads.length:=by omega
   obtain⟨r1,r2⟩:=j.row E;have F:B.place.toNat<f.roads[A.place.toNat].length:=by omega
   obtain⟨r3,r4⟩:=r2 _ (List.getElem_mem F);have M:rd f.roads A.place.toNat B.place.toNat=f.roads[A.place.toNat][B.place.toNat]:=mI E F;have N:=uJ bA.2.2.2.2.2;have O:=uJ bB.2.2.2.2.2;have lA:=ot N;have lB:=ot O;obtain⟨X,P,Y⟩:=Nv lA lB;obtain⟨ch,g⟩:∃ch,ch=cU (aW A.marks) (aW B.marks):=⟨_,rfl⟩;rw[<-g]at P Y
   have hmul:0<=f.oZ*ch/\f.oZ*ch<=30:=by
    constructor
    . exact Int.mul_nonneg (by omega) P
    . calc f.oZ*ch<=6*5:=Int.mul_le_mul p.2 Y P (by omega)
       _=30:=by rfl
   have Z:nA f l[k] l[k+1]=decide (B.hour-A.hour<f.roads[A.place.toNat][B.place.toNat]+f.oZ*ch):=by unfold nA;rw[V,W,M,g]
   have a8:l.getD k 0=l[k]:=by simp[List.getD_eq_getElem?_getD,L]
   have a9:l.getD (k+1) 0=l[k+1]:=by simp[List.getD_eq_getElem?_getD,g1]
   have G:-9223372036854775808<=B.hour-A.hour/\B.hour-A.hour<=9223372036854775807:=by omega
   have H:-9223372036854775808<=f.oZ*ch/\f.oZ*ch<=9223372036854775807:=by omega
   have I:-9223372036854775808<=f.roads[A.place.toNat][B.place.toNat]+f.oZ*ch/\f.roads[A.place.toNat][B.place.toNat]+f.oZ*ch<=9223372036854775807:=by omega
   refine⟨po.intro λc t=>?_,po.intro λc t=>?_⟩
   . simp
     refine po.intro λd hd=>?_
     obtain⟨J,u,hd⟩:=aa.aH hd;have Q:=e t;have R:=e hd;simp[J,u,aa.ak];refine af.aV 8 (b:=c) (dw A) (by simp[u,aa.ak]) (by simp) rfl ?_
     refine af.aV 9 (b:=d) (dw B) (by simp[J,aa.del]) (by simp) rfl ?_
     refine rn ?_;simp[r,G.1,G.2,E,F];refine⟨by omega,by omega,?_⟩
     refine cf Tryz.func255 rfl (nz (by have:=j.fits.marks A (by rw[C];exact List.getElem_mem y);omega) (λn o=>(N n o).1) ?_)
     refine pg ?_;simp;refine cf Tryz.func255 rfl (nz (by have:=j.fits.marks B (by rw[D];exact List.getElem_mem z);omega) (λn o=>(O n o).1) ?_)
     refine pg ?_;simp;refine cf Tryz.func256 rfl (wB X ?_);rw[<-g];refine pg ?_;simp[H.1,H.2,I.1,I.2];refine rn ?_;simp
     by_cases v:B.hour-A.hour<f.roads[A.place.toNat][B.place.toNat]+f.oZ*ch
     . simp[v]
       have:(List.range (l.length-1)).any (λi=>nA f (l.getD i 0) (l.getD (i+1) 0))=true:=List.any_eq_true.2 ⟨k,List.mem_range.2 (by omega),by grind⟩
       rw[this]at h;exact .less (by repeat (first|exact aa.le_refl _|assumption|refine aa.eo ?_ (by assumption)|refine aa.kJ ?_ (by assumption))) (.done h)
     . simp[x,v]
       refine⟨by omega,U _ (by omega) ⟨_,_,rfl,(by repeat (first|exact aa.le_refl _|assumption|refine aa.eo ?_ (by assumption)|refine aa.kJ ?_ (by assumption))),by simp[r],by simp[w],by simp,λi hi=>?_⟩⟩
       grind
   . simp
     refine po.intro λd hd=>?_
     obtain⟨J,u,hd⟩:=aa.aH hd;have Q:=e t;have R:=e hd;simp[u,aa.ak];refine af.aV 8 (b:=d) (dw A) (by simp[J,aa.ak]) (by simp) rfl ?_
     refine af.aV 9 (b:=c) (dw B) (by simp[u,aa.del]) (by simp) rfl ?_
     refine rn ?_;simp[r,G.1,G.2,E,F];refine⟨by omega,by omega,?_⟩
     refine cf Tryz.func255 rfl (nz (by have:=j.fits.marks A (by rw[C];exact List.getElem_mem y);omega) (λn o=>(N n o).1) ?_)
     refine pg ?_;simp;refine cf Tryz.func255 rfl (nz (by have:=j.fits.marks B (by rw[D];exact List.getElem_mem z);omega) (λn o=>(O n o).1) ?_)
     refine pg ?_;simp;refine cf Tryz.func256 rfl (wB X ?_);rw[<-g];refine pg ?_;simp[H.1,H.2,I.1,I.2];refine rn ?_;simp
     by_cases v:B.hour-A.hour<f.roads[A.place.toNat][B.place.toNat]+f.oZ*ch
     . simp[v]
       have:(List.range (l.length-1)).any (λi=>nA f (l.getD i 0) (l.getD (i+1) 0))=true:=List.any_eq_true.2 ⟨k,List.mem_range.2 (by omega),by grind⟩
       rw[this]at h;exact .less (by repeat (first|exact aa.le_refl _|assumption|refine aa.eo ?_ (by assumption)|refine aa.kJ ?_ (by assumption))) (.done h)
     . simp[x,v]
       refine⟨by omega,U _ (by omega) ⟨_,_,rfl,(by repeat (first|exact aa.le_refl _|assumption|refine aa.eo ?_ (by assumption)|refine aa.kJ ?_ (by assumption))),by simp[r],by simp[w],by simp,λi hi=>?_⟩⟩
       grind
 . have g2:¬(k:Int)+1<l.length:=by omega
   have:(List.range (l.length-1)).any (λi=>nA f (l.getD i 0) (l.getD (i+1) 0))=false:=by grind
   rw[this]at h;refine rn ?_;simp[w,x,g2];exact .less q (.done h)
theorem SO:(((prog.info? 278).bind λi=>i.methods.find? (·.name==  "palfrey/mark.breaks")).map λmt=>(mt.path,mt.func))=some (#[],some (250,false)):=by kernel_rfl
theorem SP:(((prog.info? 279).bind λi=>i.methods.find? (·.name==  "palfrey/mark.breaks")).map λmt=>(mt.path,mt.func))=some (#[],some (251,false)):=by kernel_rfl
theorem SS:(((prog.info? 280).bind λi=>i.methods.find? (·.name==  "palfrey/mark.breaks")).map λmt=>(mt.path,mt.func))=some (#[],some (254,false)):=by kernel_rfl
theorem Px{a:AV}:mW prog 278  "palfrey/mark.breaks" 250 a a:=by obtain⟨mt,b,e⟩:=Option.map_eq_some_iff.1 SO;obtain⟨info,c,d⟩:=Option.bind_eq_some_iff.1 b;obtain⟨f,g⟩:=Prod.mk.inj e;exact qj lay Sp c d (by rw[f]) g rfl
theorem Py{a:AV}:mW prog 279  "palfrey/mark.breaks" 251 a a:=by obtain⟨mt,b,e⟩:=Option.map_eq_some_iff.1 SP;obtain⟨info,c,d⟩:=Option.bind_eq_some_iff.1 b;obtain⟨f,g⟩:=Prod.mk.inj e;exact qj lay Sq c d (by rw[f]) g rfl
theorem Pz{a:AV}:mW prog 280  "palfrey/mark.breaks" 254 a a:=by obtain⟨mt,b,e⟩:=Option.map_eq_some_iff.1 SS;obtain⟨info,c,d⟩:=Option.bind_eq_some_iff.1 b;obtain⟨f,g⟩:=Prod.mk.inj e;exact qj lay Sr c d (by rw[f]) g rfl
def c8(f:Fr)(l:List Int):List Int:=(fj (λa b=>decide (wD f a b<0)) l).reverse
def nB(f:Fr)(l:List Int):Int:=if fK f (c8 f l)then 1 else if dU f (c8 f l)then 2 else if fL f (c8 f l)then 3 else 0
abbrev SU(n:Int):AV:=if n=1 then .kD 278 (.agg [])else if n=2 then .kD 279 (.agg [])else if n=3 then .kD 280 (.agg [])else .lit .nilIface
theorem Mi.sort{f:Fr}{l:List Int}(h:Mi f l):Mi f (c8 f l):=
 ⟨fun n a=>h.mem n ((yI _ _ _).1 (by simpa[c8]using a)),λe=>h.ne (by
   have:(c8 f l).length=l.length:=by simp[c8,kA]
   rw[e]at this;exact List.length_eq_zero_iff.1 this.symm),by simp[c8,kA,h.len]⟩
theorem J2{b mb:Nat}{f:Fr}{l:List Int}(y:f.Good)(v:Mi f l)(d:l.length<20)(h:KF (.val (SU (nB f l))) σ):aB prog m 144 [jU b mb f 0,ints l] σ KF:=by
 have t:=v.sort;refine fs [] 2 Tryz.func144 rfl rfl (by rfl) (by kernel_rfl) ?_;simp[Tryz.f144];refine bq.intro λc B=>?_
 simp;refine cf Tryz.func177 rfl (Nt J0 v.mem d v.ne ⟨rfl,rfl⟩ ?_);obtain⟨S,z⟩:∃S,S=(fj (λa b=>decide (wD f a b<0)) l).reverse:=⟨_,rfl⟩;have r:c8 f l=S:=z.symm;rw[r]at t;unfold nB at h;rw[r]at h;rw[<-z];refine rn ?_;simp;refine af.loop 3 (λk s=>∃env j,s=⟨env,j,[],.no⟩/\σ.Le j/\env 1=ints S/\env 2=.cp (jU b mb f 0) 0/\env 19=.sl 1 [.kD 278 (.agg []),.kD 279 (.agg []),.kD 280 (.agg [])] .exact/\env 20=int 3/\env 21=int k/\(1<=k->fK f S=false)/\(2<=k->dU f S=false)/\(3<=k->fL f S=false)) ⟨_,_,rfl,aa.r7 (aa.le_refl _) B,by simp,by simp,by simp,by simp,by simp,by simp,by simp,by simp⟩ ?_;rintro E k _ F ⟨env,j,rfl,e,o,p,i,d,g,w,A,C⟩ x;obtain rfl|rfl|rfl|rfl:k=0\/k=1\/k=2\/k=3:=by omega
 . refine rn ?_
   simp[o,p,i,d,g];refine af.invoke rfl rfl rfl (by simp) rfl Px Tryz.func250 rfl rfl ?_;refine Ea t ?_;refine rn ?_;simp;cases hb:fK f S
   . simp[g]
     exact x _ (by omega) ⟨_,_,rfl,e,by simp[o],by simp[p],by simp[i],by simp[d],by simp,λ_=>hb,λq=>(by omega),λq=>(by omega)⟩
   . simp
     simp[hb]at h;exact .less e (.done h)
 . have n:=w (by omega)
   refine rn ?_;simp[o,p,i,d,g];refine af.invoke rfl rfl rfl (by simp) rfl Py Tryz.func251 rfl rfl ?_;refine Eb y t ?_;refine rn ?_;simp;cases hb:dU f S
   . simp[g]
     exact x _ (by omega) ⟨_,_,rfl,e,by simp[o],by simp[p],by simp[i],by simp[d],by simp,λ_=>n,λ_=>hb,λq=>(by omega)⟩
   . simp
     simp[hb,n]at h;exact .less e (.done h)
 . have n:=w (by omega)
   have u:=A (by omega);refine rn ?_;simp[o,p,i,d,g];refine af.invoke rfl rfl rfl (by simp) rfl Pz Tryz.func254 rfl rfl ?_;refine Ec y t ?_;refine rn ?_;simp;cases hb:fL f S
   . simp[g]
     exact x _ (by omega) ⟨_,_,rfl,e,by simp[o],by simp[p],by simp[i],by simp[d],by simp,λ_=>n,λ_=>u,λ_=>hb⟩
   . simp
     simp[hb,n,u]at h;exact .less e (.done h)
 . have n:=w (by omega)
   have u:=A (by omega);have D:=C (by omega);simp[n,u,D]at h;refine rn ?_;simp[d,g];exact .less e (.done h)
end Go.Proofs.YtkcceaplmgdnfaaGreatDoor
namespace Go.Proofs.YtkcceaplmgdnfaaGreatDoor
open Go.Proofs.Tryz (prog)
open Go Go.bu
set_option maxRecDepth 100000
abbrev nn:xy:=⟨93,94,131,132,166,168,119,120,133,118,165,167,190,191,193,194,196,265,210,21⟩
theorem J3:∀(a:Fl) b o kind,aN prog a [0,5] (LD prog nn b o kind) un=some (sj prog nn b o kind):=by intro a b o kind;kernel_rfl
theorem J4:∀(a:Fl) b o kind,aN prog a [0] (sj prog nn b o kind) tt=some (N3 prog nn b o kind):=by intro a b o kind;kernel_rfl
theorem J5:∀(a:Fl) b o kind,aN prog a [0,2,3,4,5,12] (sj prog nn b o kind) ff=some (Tl prog nn b o kind):=by intro a b o kind;kernel_rfl
theorem J6:∀(a:Fl) b o kind,aN prog a [8] (N3 prog nn b o kind) un=some (Qo prog nn b o kind):=by intro a b o kind;kernel_rfl
theorem J7:∀(a:Fl) b o kind,aN prog a [9] (Qo prog nn b o kind) (pt b o)=some (N4 prog nn b o kind):=by intro a b o kind;kernel_rfl
theorem J8:∀(a:Fl) b o kind,aN prog a [] (N4 prog nn b o kind) un=some (BK nn kind):=by intro a b o kind;kernel_rfl
theorem GQ:∀(a:Fl) b o kind L K S aw sv it,n9 prog a [0,2,3,4,5,6] (O5 prog nn b o kind aw sv it) (.word L K S 0)=some (HD prog nn b o kind L K S aw sv it):=by intro a b o kind L K S aw sv it;kernel_rfl
theorem GR:∀(a:Fl) b o kind L K S aw sv it,n9 prog a [0,2,3,4,5,6] (EW prog nn b o kind aw sv it) (.word L K S 0)=some (HD prog nn b o kind L K S aw sv it):=by intro a b o kind L K S aw sv it;kernel_rfl
theorem GU:∀(a:Fl) b o kind L K S aw sv it,n9 prog a [0,2,3,4,5,6] (O6 prog nn b o kind aw sv it) (.word L K S 0)=some (HD prog nn b o kind L K S aw sv it):=by intro a b o kind L K S aw sv it;kernel_rfl
theorem J9:∀(a:Fl) b o kind K aw sv it,Rg prog a [0,2,3,4,5,6,17,18] (HD prog nn b o kind true K false aw sv it)=SQ prog nn b o kind K aw sv it:=by intro a b o kind K aw sv it;cases K<;>cases aw<;>cases sv<;>kernel_rfl
theorem Ka:∀(a:Fl) b o kind L K S aw sv it,(L && !S)=false->(aw && !K)=false->Rg prog a [0,2,3,4,5,6,77,78,79] (HD prog nn b o kind L K S aw sv it)=Bh prog nn b o kind L K S aw sv it:=by intro a b o kind L K S aw sv it c d;cases L<;>cases K<;>cases S<;>cases aw<;>cases sv<;>first|exact absurd c (by decide)|exact absurd d (by decide)|kernel_rfl
theorem GV:∀(a:Fl) b o kind it,aN prog {a with n0:=false} [0,2,3,4,5,33,36,37,39] (SQ prog nn b o kind false false false it) tt=some (SW prog nn b o kind it):=by intro a b o kind it;kernel_rfl
theorem Ed:∀(a:Fl) b o kind n0 K aw sv it,(!aw && !K && !n0)=false->aN prog {a with n0:=n0} [0,2,3,4,5] (SQ prog nn b o kind K aw sv it) tt=some (DS prog nn b o kind aw sv it):=by intro a b o kind n0 K aw sv it h;cases n0<;>cases K<;>cases aw<;>cases sv<;>first|exact absurd h (by decide)|kernel_rfl
theorem GW:∀(a:Fl) b o kind K aw sv it,(aw && !K)=false->aN prog a [0,2,3,4,5,6,77,78,79] (SQ prog nn b o kind K aw sv it) ff=some (Bh prog nn b o kind true K false aw sv it):=by intro a b o kind K aw sv it h;cases K<;>cases aw<;>cases sv<;>first|exact absurd h (by decide)|kernel_rfl
theorem GX:∀(a:Fl) b o kind r it,aN prog a [0,2,3,4,5] (SW prog nn b o kind it) (bl r)=some (DS prog nn b o kind r false it):=by intro a b o kind r it;cases r<;>kernel_rfl
theorem Ee:∀(a:Fl) b o kind aw sv,aN prog a [0,2,3,4,5,47] (DS prog nn b o kind aw sv 0) un=some (EW prog nn b o kind aw sv 1):=by intro a b o kind aw sv;kernel_rfl
theorem Ef:∀(a:Fl) b o kind aw sv,aN prog a [0,2,3,4,5,47] (DS prog nn b o kind aw sv 1) un=some (EW prog nn b o kind aw sv 2):=by intro a b o kind aw sv;kernel_rfl
theorem Eg:∀(a:Fl) b o kind aw sv,aN prog a [0,2,3,4,5,47] (DS prog nn b o kind aw sv 2) un=some (EW prog nn b o kind aw sv 3):=by intro a b o kind aw sv;kernel_rfl
theorem Eh:∀(a:Fl) b o kind aw sv,aN prog a [0,2,3,4,5,47] (DS prog nn b o kind aw sv 3) un=some (EW prog nn b o kind aw sv 4):=by intro a b o kind aw sv;kernel_rfl
theorem GY:∀(a:Fl) b o kind K aw sv it,aN prog a [0] (Bh prog nn b o kind false K false aw sv it) tt=some (Mb prog nn b o kind):=by intro a b o kind K aw sv it;cases K<;>kernel_rfl
theorem Ei:∀(a:Fl) b o kind L K S aw sv it,(L||S)=true->aN prog {a with wz:=true} [0,3] (Bh prog nn b o kind L K S aw sv it) tt=some (T1 prog nn b o kind sv):=by intro a b o kind L K S aw sv it h;cases L<;>cases K<;>cases S<;>first|exact absurd h (by decide)|kernel_rfl
theorem Ej:∀(a:Fl) b o kind L K S aw sv it,(L||S)=true->aN prog {a with wz:=false} [0,2,3,91] (Bh prog nn b o kind L K S aw sv it) tt=some (PK prog nn b o kind sv):=by intro a b o kind L K S aw sv it h;cases L<;>cases K<;>cases S<;>first|exact absurd h (by decide)|kernel_rfl
theorem GZ:∀(a:Fl) b o kind L K S aw sv it,aN prog a [0,2,3,4,5,133] (Bh prog nn b o kind L K S aw sv it) ff=some (O6 prog nn b o kind aw sv it):=by intro a b o kind L K S aw sv it;kernel_rfl
theorem G1:∀(a:Fl) b o kind sv,aN prog a [0,2,3,91] (T1 prog nn b o kind sv) .F4=some (PK prog nn b o kind sv):=by intro a b o kind sv;kernel_rfl
theorem Ek:∀(a:Fl) b o kind,aN prog a [0,2,3,103] (PK prog nn b o kind true) un=some (UP prog nn b o kind true):=by intro a b o kind;kernel_rfl
theorem El:∀(a:Fl) b o kind,aN prog a [0,2,95] (PK prog nn b o kind false) un=some (TQ prog nn b o kind):=by intro a b o kind;kernel_rfl
theorem G2:∀(a:Fl) b o kind x,aN prog {a with tb:=x} [0,2,3,103] (TQ prog nn b o kind) .now=some (UP prog nn b o kind x):=by intro a b o kind x;cases x<;>kernel_rfl
theorem G3:∀(a:Fl) b o kind sv n1,aN prog {a with n0:=false,n1:=n1} [0,128,129] (UP prog nn b o kind sv) (.word false false true 0)=some (AD prog nn b o kind (if !sv||n1 then -11 else -7)):=by intro a b o kind sv n1;cases sv<;>cases n1<;>kernel_rfl
theorem G4:∀(a:Fl) b o kind L K sv,n9 prog a [0,2,3,4,5,6] (UP prog nn b o kind sv) (.word L K false 0)=some (HD prog nn b o kind L K false true sv 0):=by intro a b o kind L K sv;cases L<;>cases K<;>kernel_rfl
theorem G5:∀(a:Fl) b o kind d,aN prog a [0] (AD prog nn b o kind d) .bJ=some (Mb prog nn b o kind):=by intro a b o kind d;kernel_rfl
theorem G6:∀(a:Fl) b o kind,aN prog a [136] (Mb prog nn b o kind) un=some (Qp prog nn b o kind):=by intro a b o kind;kernel_rfl
theorem G8:∀(a:Fl) b o kind,aN prog a [137] (Qp prog nn b o kind) (pt b o)=some (N6 prog nn b o kind):=by intro a b o kind;kernel_rfl
theorem Ha:∀(a:Fl) b o kind,aN prog a [] (N6 prog nn b o kind) un=some (BK nn kind):=by intro a b o kind;kernel_rfl
theorem Kb:∀(a:Fl) b o kind,aN prog a [0,7] (U0 prog nn b o kind) .bJ=some (Qq prog nn b o kind):=by intro a b o kind;kernel_rfl
theorem Kc:∀(a:Fl) b o kind,aN prog a [0,8] (Qq prog nn b o kind) (pt b o)=some (UR prog nn b o kind):=by intro a b o kind;kernel_rfl
theorem Kd:∀(a:Fl) b o kind,aN prog a [0] (UR prog nn b o kind) un=some (UD prog nn b o kind):=by intro a b o kind;kernel_rfl
theorem Ke:∀(a:Fl) b o kind,aN prog a [0,13] (UD prog nn b o kind) un=some (qe prog nn b o kind):=by intro a b o kind;kernel_rfl
theorem Kf:∀(a:Fl) b o kind n0 K,(n0||K)=true->aN prog {a with n0:=n0} [] (qe prog nn b o kind) (.word false K false 0)=some (UE prog nn b o kind):=by intro a b o kind n0 K h;cases n0<;>cases K<;>first|exact absurd h (by decide)|kernel_rfl
theorem Hb:∀(a:Fl) b o kind n0 K,aN prog {a with n0:=n0} [41] (qe prog nn b o kind) (.word false K true 0)=some (G9 prog nn b o kind):=by intro a b o kind n0 K;cases n0<;>cases K<;>kernel_rfl
theorem Hc:∀(a:Fl) b o kind,aN prog {a with n0:=false} [0,27,28,29] (qe prog nn b o kind) (.word false false false 0)=some (UC prog nn b o kind):=by intro a b o kind;kernel_rfl
theorem Hd:∀(a:Fl) b o kind,aN prog a [33] (UC prog nn b o kind) tt=some (G7 prog nn b o kind):=by intro a b o kind;kernel_rfl
theorem He:∀(a:Fl) b o kind,aN prog a [0,37] (UC prog nn b o kind) ff=some (Mc prog nn b o kind):=by intro a b o kind;kernel_rfl
theorem Kg:∀(a:Fl) b o kind n0 L K S,(n0||L||K||S)=true->aN prog {a with n0:=n0} [] (Mc prog nn b o kind) (.word L K S 0)=some (UE prog nn b o kind):=by intro a b o kind n0 L K S h;cases n0<;>cases L<;>cases K<;>cases S<;>first|exact absurd h (by decide)|kernel_rfl
theorem Hf:∀(a:Fl) b o kind,aN prog {a with n0:=false} [0,27,28,29] (Mc prog nn b o kind) (.word false false false 0)=some (UC prog nn b o kind):=by intro a b o kind;kernel_rfl
theorem Kh:∀(a:Fl) b o kind,aN prog a [] (G7 prog nn b o kind) un=some (UE prog nn b o kind):=by intro a b o kind;kernel_rfl
theorem Ki:∀(a:Fl) b o kind,aN prog a [] (G9 prog nn b o kind) un=some (UE prog nn b o kind):=by intro a b o kind;kernel_rfl
theorem Hg:∀(a:Fl) b o kind,aN prog a [] (UE prog nn b o kind) un=some (Ro nn kind):=by intro a b o kind;kernel_rfl
theorem Kj:∀b o kind,aU (LD prog nn b o kind).1=some (nn.iF,[])/\(LD prog nn b o kind).1.kind=.normal:=by intro b o kind;exact⟨by kernel_rfl,by kernel_rfl⟩
theorem Kk:∀b o kind,aU (sj prog nn b o kind).1=some (nn.jI,[pt b o,i32 0,i32 1]):=by intro b o kind;kernel_rfl
theorem Kl:∀b o kind,aU (N3 prog nn b o kind).1=some (nn.en,[]):=by intro b o kind;kernel_rfl
theorem Km:∀b o kind,jL (Qo prog nn b o kind).1=some (nn.tM,nn.tU,pt b o):=by intro b o kind;kernel_rfl
theorem Kn:∀b o kind,aU (N4 prog nn b o kind).1=some (nn.acq,[pt b o]):=by intro b o kind;kernel_rfl
theorem Hh:∀b o kind aw sv it,pq (O5 prog nn b o kind aw sv it).1=some (nn.tI,pt b o):=by intro b o kind aw sv it;kernel_rfl
theorem Hi:∀b o kind aw sv it,pq (EW prog nn b o kind aw sv it).1=some (nn.tI,pt b o):=by intro b o kind aw sv it;kernel_rfl
theorem Hj:∀b o kind aw sv it,pq (O6 prog nn b o kind aw sv it).1=some (nn.tI,pt b o):=by intro b o kind aw sv it;kernel_rfl
theorem Ko:∀b o kind K aw sv it,aU (SQ prog nn b o kind K aw sv it).1=some (nn.F6,[i64 it]):=by intro b o kind K aw sv it;kernel_rfl
theorem Kr:∀b o kind it,aU (SW prog nn b o kind it).1=some (nn.jI,[pt b o,.word true false false 0,.word true true false 0]):=by intro b o kind it;kernel_rfl
theorem Ks:∀b o kind aw sv it,aU (DS prog nn b o kind aw sv it).1=some (nn.si,[]):=by intro b o kind aw sv it;kernel_rfl
theorem Hk:∀b o kind L K S aw sv it,aU (Bh prog nn b o kind L K S aw sv it).1=some (nn.jI,[pt b o,.word L K S 0,MG L K S aw sv]):=by intro b o kind L K S aw sv it;kernel_rfl
theorem Hl:∀b o kind sv,aU (T1 prog nn b o kind sv).1=some (nn.nano,[]):=by intro b o kind sv;kernel_rfl
theorem Hm:∀b o kind sv,aU (PK prog nn b o kind sv).1=some (nn.Dd,[pt b (o+1),.bJ,i64 2]):=by intro b o kind sv;kernel_rfl
theorem Hn:∀b o kind,aU (TQ prog nn b o kind).1=some (nn.nano,[]):=by intro b o kind;kernel_rfl
theorem Ho:∀b o kind sv,pq (UP prog nn b o kind sv).1=some (nn.tI,pt b o):=by intro b o kind sv;kernel_rfl
theorem Hp:∀b o kind d,aU (AD prog nn b o kind d).1=some (nn.add,[pt b o,i32 d]):=by intro b o kind d;kernel_rfl
theorem Hq:∀b o kind,aU (Mb prog nn b o kind).1=some (nn.en,[]):=by intro b o kind;kernel_rfl
theorem Hr:∀b o kind,jL (Qp prog nn b o kind).1=some (nn.tM,nn.tU,pt b o):=by intro b o kind;kernel_rfl
theorem Ht:∀b o kind,aU (N6 prog nn b o kind).1=some (nn.acq,[pt b o]):=by intro b o kind;kernel_rfl
theorem Hu:∀b o kind,pq (U0 prog nn b o kind).1=some (nn.tI,pt b o)/\(U0 prog nn b o kind).1.kind=.normal/\(U0 prog nn b o kind).1.fn=nn.uw:=by intro b o kind;exact⟨by kernel_rfl,by kernel_rfl,by kernel_rfl⟩
theorem Hv:∀b o kind,jL (Qq prog nn b o kind).1=some (nn.tM,nn.tU,pt b o):=by intro b o kind;kernel_rfl
theorem Hw:∀b o kind,aU (UR prog nn b o kind).1=some (nn.rel,[pt b o]):=by intro b o kind;kernel_rfl
theorem Hx:∀b o kind,aU (UD prog nn b o kind).1=some (nn.iF,[]):=by intro b o kind;kernel_rfl
theorem Hy:∀b o kind,aU (qe prog nn b o kind).1=some (nn.add,[pt b o,i32 (-1)]):=by intro b o kind;kernel_rfl
theorem Hz:∀b o kind,aU (UC prog nn b o kind).1=some (nn.jI,[pt b o,wf,.word false true false (-1)]):=by intro b o kind;kernel_rfl
theorem HA:∀b o kind,aU (G7 prog nn b o kind).1=some (nn.m6,[pt b (o+1),ff,i64 2]):=by intro b o kind;kernel_rfl
theorem HB:∀b o kind,aU (G9 prog nn b o kind).1=some (nn.m6,[pt b (o+1),tt,i64 2]):=by intro b o kind;kernel_rfl
theorem HC:∀b o kind,pq (Mc prog nn b o kind).1=some (nn.tI,pt b o):=by intro b o kind;kernel_rfl
theorem HE:∀b o kind,aU (UE prog nn b o kind).1=some (nn.en,[]):=by intro b o kind;kernel_rfl
theorem Kt:∀b o kind,(Rl prog nn b o kind).all (·.env.all plain)=true/\(LD prog nn b o kind).1.env.all plain=true/\(LD prog nn b o kind).2=Rl prog nn b o kind:=by intro b o kind;exact⟨by kernel_rfl,by kernel_rfl,by kernel_rfl⟩
theorem Ku:∀b o kind,(Tj prog nn b o kind).all (·.env.all plain)=true:=by intro b o kind;kernel_rfl
theorem Kv:∀b o kind,(Rn prog nn b o kind).all (·.env.all plain)=true/\(U0 prog nn b o kind).1.env.all plain=true/\(U0 prog nn b o kind).2=Rn prog nn b o kind:=by intro b o kind;exact⟨by kernel_rfl,by kernel_rfl,by kernel_rfl⟩
theorem Kw:∀b o kind,(TL prog nn b o kind).all (·.env.all plain)=true:=by intro b o kind;kernel_rfl
theorem yJ:eY prog nn where
 e1:=J3
 e2:=J4
 e3:=J5
 e4:=J6
 e5:=J7
 e6:=J8
 Rq:=GQ
 Rr:=GR
 Qr:=GU
 e8:=J9
 e9:=Ka
 xh:=GV
 Rs:=Ed
 CQ:=GW
 Me:=GX
 Rt:=Ee
 Ru:=Ef
 Rv:=Eg
 Rw:=Eh
 O7:=GY
 Rx:=Ei
 Ry:=Ej
 zu:=GZ
 vB:=G1
 Rz:=Ek
 RA:=El
 rU:=G2
 MH:=G3
 xz:=G4
 uy:=G5
 uz:=G6
 H5:=G8
 uA:=Ha
 u1:=Kb
 u2:=Kc
 u3:=Kd
 u4:=Ke
 u5:=Kf
 UQ:=Hb
 US:=Hc
 UT:=Hd
 UU:=He
 u7:=Kg
 UW:=Hf
 u8:=Kh
 u9:=Ki
 UX:=Hg
 o1:=Kj
 o2:=Kk
 o3:=Kl
 o4:=Km
 o5:=Kn
 UY:=Hh
 UZ:=Hi
 U1:=Hj
 o7:=Ko
 o8:=Kr
 o9:=Ks
 Qs:=Hk
 RB:=Hl
 Qt:=Hm
 Tn:=Hn
 Qu:=Ho
 RD:=Hp
 U2:=Hq
 U3:=Hr
 U4:=Ht
 TM:=Hu
 U5:=Hv
 U6:=Hw
 U7:=Hx
 TN:=Hy
 TO:=Hz
 TP:=HA
 TR:=HB
 U8:=HC
 U9:=HE
 p1:=Kt
 p2:=Ku
 p3:=Kv
 p4:=Kw
theorem yK:eZ prog nn where
 iF:=⟨_,rfl,rfl,rfl,rfl,rfl⟩
 en:=⟨_,rfl,rfl,rfl,rfl,rfl⟩
 acq:=⟨_,rfl,rfl,rfl,rfl,rfl⟩
 rel:=⟨_,rfl,rfl,rfl,rfl,rfl⟩
 jI:=⟨_,rfl,rfl,rfl,rfl,rfl⟩
 add:=⟨_,rfl,rfl,rfl,rfl,rfl⟩
 F6:=⟨_,rfl,rfl,rfl,rfl,rfl⟩
 si:=⟨_,rfl,rfl,rfl,rfl,rfl⟩
 nano:=⟨_,rfl,rfl,rfl,rfl,rfl⟩
 IX:=⟨_,rfl,rfl⟩
 Dd:=⟨_,rfl,rfl,rfl,rfl,rfl⟩
 m6:=⟨_,rfl,rfl,rfl,rfl,rfl⟩
 RE:=by kernel_rfl
 Va:=⟨_,rfl,rfl,rfl⟩
 nS:=⟨_,rfl,rfl⟩
 nU:=⟨_,rfl,rfl⟩
 nV:=⟨_,rfl,rfl⟩
end Go.Proofs.YtkcceaplmgdnfaaGreatDoor
namespace Go.Proofs.YtkcceaplmgdnfaaGreatDoor
open Go.Proofs.Tryz (prog)
open Go.bu Go.Conc
set_option maxHeartbeats 1000000
set_option maxRecDepth 4000
variable{m:Mo}{σ:aa}{KF:cJ->aa->Prop}
def lf(f:Fr)(x:Int):Bool:=decide (nB f (aC x)=0)
def jV(f:Fr)(l:List (Int × AV)):Prop:=∀n a,ES l n=some a->a=bool (lf f n)
theorem SX:IA prog 255 291 4 5 .u8:=.of (by kernel_rfl) (by kernel_rfl) (by kernel_rfl) (by kernel_rfl)
theorem Nw(f:Fr)(l:List Int):nB f l=0\/nB f l=1\/nB f l=2\/nB f l=3:=by
 unfold nB;split
 . exact .inr (.inl rfl)
 split
 . exact .inr (.inr (.inl rfl))
 split
 . exact .inr (.inr (.inr rfl))
 . exact .inl rfl
theorem Ce{f:Fr}{l:List Int}(h:nB f l≠0):∃d a,SU (nB f l)=.kD d a:=by
 rcases Nw f l with e|e|e|e
 . exact absurd e h
 all_goals rw[e];exact⟨_,_,rfl⟩
theorem HF{f:Fr}{l:List (Int × AV)}{x n:Int}{a:AV}(b:jV f l)(h:ES (l++[(x,bool (lf f x))]) n=some a):a=bool (lf f n):=by
 unfold ES cS at h;rw[List.find?_append]at h;cases e:l.find? (λp=>n==p.1)with
 |some p=>rw[e]at h;simp only[Option.some_or,Option.map_some,Option.some.injEq]at h;subst h;exact b n p.2 (by unfold ES cS;rw[e];rfl)
 | none=>
   rw[e]at h;simp only[Option.none_or,List.find?_cons,List.find?_nil]at h;split at h
   . next q=>simp only[Option.map_some,Option.some.injEq]at h;rw[beq_iff_eq]at q;subst h;rw[q]
   . cases h
theorem PA{b mb:Nat}{f:Fr}{x:Int}{Un:aa->Prop}{Ld:aa->List (Int × AV)->Prop}(o:JJ prog m nn b 6 mb .u8 (jV f) Un Ld)(I:f.Good)(J:Mi f (aC x))(v:(aC x).length<20)(K:Un σ)(h:∀σ',Un σ'->nL b mb σ σ'->KF (.val (bool (lf f x))) σ'):aB prog m 188 [jU b mb f 0,wC x] σ KF:=by
 refine fs SF 2 Tryz.func188 rfl rfl (by rfl) (by kernel_rfl) ?_;simp[Tryz.f188];refine cf Tryz.func93 rfl (o.lock (oY _ _ _ _) K λL l s w p q=>?_);refine rn ?_;simp;refine af.defer rfl rfl rfl rfl (by simp) rfl ?_;refine rn ?_;simp;refine vp lay (SX.key lay Vn rfl) rfl WZ rfl rfl (o.map s) ?_;refine pg ?_;simp
 have i:∀(env:Env) (g:aa) z,env 4=bool (lf f x)->Ld g z->jV f z->(∀c,c≠b->c≠mb->g c=σ c)->pz prog m (.func 94) [] [AV.kp b [iY f.aF,rows f.roads,int f.bV,int f.jj,int f.oZ,int f.eQ,.lit (.int .i32 0),.lit (.int .u32 0),.map mb] [6,7] 6] .ret g (λA σ'=>H2 lay m [ResultVar.tmp 4] env (ml KF) [] A σ'):=λenv g z M B C D=>by
  refine pz.func Tryz.func94 rfl rfl (o.unlock (oY _ _ _ _) B C λE F G=>?_);refine⟨[env 4],rfl,.done ?_⟩;rw[show oneOf [env 4]=env 4 from rfl,M];refine h E F λc y H t j=>?_
  have xI:c≠mb:=λe=>by
   subst e;rcases j with j|j
   . exact j rfl
   . have:=q y H
     rw[j]at this;cases this
  rw[G c t xI,D c t xI];exact H
 cases r:cS l x with
 |some a=>have N:=w x a r;subst N;simp;refine rn ?_;simp;exact i _ _ _ (by simp) s w p
 | none=>
   simp;refine rn ?_;simp;refine cf Tryz.func205 rfl (JZ ?_);refine rn ?_;simp;refine cf Tryz.func144 rfl (J2 I J v ?_);refine rn ?_;simp;have k:decide (nB f (aC x)=0)=lf f x:=rfl;refine cK lay rfl Ot rfl (isNil:=lf f x) ?_ (.inl ⟨rfl,rfl⟩) ?_
   . by_cases u:nB f (aC x)=0
     . left
       refine⟨?_,by rw[<-k];simp[u]⟩;simp[u];rfl
     . right
       obtain⟨d,a,e⟩:=Ce u;refine⟨⟨d,a,?_⟩,by rw[<-k];simp[u]⟩;rw[<-e];simp
   refine rn ?_;simp;refine pG (SX.key lay Vn rfl) rfl rfl rfl rfl (o.map s) r ?_;refine pg ?_;simp;refine rn ?_;simp;refine i _ _ _ (by simp) (o.put s) (λn a O=>?_) (λc t j=>by rw[aa.ak _ _ j];exact p c t j);exact HF w (by simpa using O)
def fM(f:Fr)(begun:List Int):Nat->List Int->Int->List Int->List (List Int)
 |0,way,_,_=>[way]
 | fuel+1,way,many,a=>(List.range (min (many+1) f.eQ).toNat).flatMap λk:Nat=>
    if way.length<begun.length/\begun.getD way.length 0≠(k:Int)then[]
    else if lf f (b0 (a.getD k 0) way.length)=true then fM f begun fuel (way++[(k:Int)]) (max many ((k:Int)+1)) (a.set k (b0 (a.getD k 0) way.length))else[]
def aK(f:Fr)(begun:List Int):List (List Int):=fM f begun f.aF.length [] 0 [0,0,0,0,0,0]
def Mv(b mb:Nat)(F a:Nat->Prop)(σ σ':aa):Prop:=∀c x,σ c=some x -> ¬F c->c≠b->(c≠mb\/x.plain=true)->σ' c=some x/\¬a c
theorem Mv.refl(b mb:Nat)(F:Nat->Prop)(σ:aa):Mv b mb F F σ σ:=λ_ _ h a _ _=>⟨h,a⟩
theorem Mv.trans{b mb:Nat}{F g d:Nat->Prop}{σ σ' a:aa}(h:Mv b mb F g σ σ')(k:Mv b mb g d σ' a):Mv b mb F d σ a:=λc x i j e f=>k c x (h c x i j e f).1 (h c x i j e f).2 e f
structure QG(m:Mo)(y:AV)(W:List (List Int))(I:Nat->(Nat->Prop)->aa->Prop)(E:(Nat->Prop)->aa->Prop):Prop where
 step:∀(k:Nat) (F:Nat->Prop) (σ:aa) (KF:cJ->aa->Prop) (hk:k<W.length),I k F σ->(∀F' σ',EP F F' σ σ'->I (k+1) F' σ'->KF (.val (bool true)) σ')->(∀F' σ',EP F F' σ σ'->E F' σ'->KF (.val (bool false)) σ')->bz prog m y [ints W[k]] σ KF
 frame:∀(k:Nat) (F:Nat->Prop) (σ σ':aa),(∀c,F c->σ' c=σ c)->I k F σ->I k F σ'
 PB:∀(F:Nat->Prop) (σ σ':aa),(∀c,F c->σ' c=σ c)->E F σ->E F σ'
 Mh:∀(k:Nat) (F:Nat->Prop) (σ:aa) (c:Nat),I k F σ->F c->∃x,σ c=some x/\x.plain=true
theorem Cf{b mb:Nat}{F a:Nat->Prop}{σ σ':aa}(h:EP F a σ σ'):Mv b mb F a σ σ':=λc x d e _ _=>h c x e d
theorem ou{b mb:Nat}{GI:List (Int × AV)->Prop}{Un:aa->Prop}{Ld:aa->List (Int × AV)->Prop}(a:JJ prog m nn b 6 mb .u8 GI Un Ld){d:Nat}{y:fy}(f:Un σ)(hd:∀x,σ d=some x->x.plain=true):Un (σ.set d y):=a.un (λc _ ⟨x,g,h⟩=>aa.ak _ _ (λe=>by simp_all)) f
theorem wE{b mb:Nat}{GI:List (Int × AV)->Prop}{Un:aa->Prop}{Ld:aa->List (Int × AV)->Prop}(e:JJ prog m nn b 6 mb .u8 GI Un Ld){F f:Nat->Prop}{σ':aa}(g:Un σ)(h:EP F f σ σ')(hd:∀c,F c->∃x,σ c=some x/\x.plain=true):Un σ':=
 e.un (λc _ ⟨x,a,i⟩=>by
  have d:¬F c:=λd=>by grind
  rw[(h c x d a).1,a]) g
abbrev wF(a y:AV)(begun:List Int)(cp:Nat):AV:=.fn (.func 189) [] [.cp a 0,.cp y 0,.cp (ints begun) 0,.ref cp 0]
abbrev aX(a:AV)(c4 cg:Nat):AV:=.fn (.func 185) [] [.ref c4 0,.cp a 0,.ref cg 0]
structure WS(b mb:Nat)(f:Fr)(y:AV)(begun:List Int)(c4 cg cp:Nat)(hs:List Int)(F:Nat->Prop)(σ:aa):Prop where
 arr:σ c4=some (.cells (hs.map u8))
 SY:σ cg=some (.cells [wF (jU b mb f 0) y begun cp])
 pt:σ cp=some (.cells [aX (jU b mb f 0) c4 cg])
 out:¬F c4/\¬F cg/\¬F cp
 ne:c4≠cg/\c4≠cp
theorem WS.mv{b mb:Nat}{f:Fr}{y:AV}{begun:List Int}{c4 cg cp:Nat}{d:List Int}{F g:Nat->Prop}{σ σ':aa}(h:WS b mb f y begun c4 cg cp d F σ)(hb:∃x,σ b=some x/\x.plain=false)(a:Mv b mb F g σ σ'):WS b mb f y begun c4 cg cp d g σ':=by
 obtain⟨x,j,k⟩:=hb;have ne:∀c l,σ c=some (.cells l)->c≠b:=λc l i e=>by subst e;rw[j]at i;cases i;cases k
 obtain⟨m,n⟩:=a c4 _ h.arr h.out.1 (ne _ _ h.arr) (.inr rfl);obtain⟨o,p⟩:=a cg _ h.SY h.out.2.1 (ne _ _ h.SY) (.inr rfl);obtain⟨q,r⟩:=a cp _ h.pt h.out.2.2 (ne _ _ h.pt) (.inr rfl);exact⟨m,o,q,⟨n,p,r⟩,h.ne⟩
structure Hs(f:Fr)(n:Nat)(hs:List Int):Prop where
 qt:hs.length=6
 bits:∀x∈hs,∀e∈aC x,e<n
 small:∀x∈hs,0<=x/\x<64
section
variable{b mb:Nat}{f:Fr}{begun:List Int}{y:AV}{W:List (List Int)}{I:Nat->(Nat->Prop)->aa->Prop}{E:(Nat->Prop)->aa->Prop}{Un:aa->Prop}{Ld:aa->List (Int × AV)->Prop}{c4 cg cp:Nat}
def Oy(b mb:Nat)(Un:aa->Prop)(I:Nat->(Nat->Prop)->aa->Prop)(E:(Nat->Prop)->aa->Prop)(a n:Nat)(F:Nat->Prop)(σ:aa)(KF:cJ->aa->Prop):Prop:=(∀d c,Mv b mb F d σ c->Un c->I (a+n) d c->KF (.val (bool true)) c)/\(∀d c,Mv b mb F d σ c->Un c->E d c->KF (.val (bool false)) c)
def Kx(m:Mo)(b mb:Nat)(f:Fr)(begun:List Int)(y:AV)(W:List (List Int))(I:Nat->(Nat->Prop)->aa->Prop)(E:(Nat->Prop)->aa->Prop)(Un:aa->Prop)(c4 cg cp:Nat)(fuel:Nat):Prop:=
 ∀ (way:List Int) (many:Int) (a:List Int) (sp:cQ) (F:Nat->Prop) (σ:aa) (pre post:List (List Int)) (KF:cJ->aa->Prop),way.length+fuel=f.aF.length->0<=many/\many<=6->Hs f way.length a->WS b mb f y begun c4 cg cp a F σ->Un σ ->
   W=pre++fM f begun fuel way many a++post->I pre.length F σ->Oy b mb Un I E pre.length (fM f begun fuel way many a).length F σ KF ->
   aB prog m 189 [.sl 1 (way.map int) sp,int many,.cp (jU b mb f 0) 0,.cp y 0,.cp (ints begun) 0,.ref cp 0] σ KF
theorem Nx:∀x:Fin 64,∀n:Fin 6,(0<=b0 (x.val:Int) (n.val:Int)/\b0 (x.val:Int) (n.val:Int)<64)/\(∀e∈aC (b0 (x.val:Int) (n.val:Int)),e=(n.val:Int)\/e∈aC (x.val:Int))/\(n.val:Int)∈aC (b0 (x.val:Int) (n.val:Int)):=by decide +kernel
theorem Ky{x:Int}{n:Nat}(b:0<=x/\x<64)(a:n<6):(0<=b0 x n/\b0 x n<64)/\(∀e∈aC (b0 x n),e=(n:Int)\/e∈aC x)/\(n:Int)∈aC (b0 x n):=by
 have:=Nx ⟨x.toNat,by omega⟩ ⟨n,a⟩
 grind
theorem Kz{x e:Int}(h:e∈aC x):0<=e/\e<6:=by
 unfold aC at h
 grind
theorem lg(x:Int):(aC x).length<20:=by
 unfold aC
 grind
theorem Hs.set{n:Nat}{b:List Int}(h:Hs f n b)(d:n<6){k:Nat}(c:k<b.length):Hs f (n+1) (b.set k (b0 b[k] n)):=by
 have g:=Ky (h.small _ (List.getElem_mem c)) d;refine⟨by rw[List.length_set];exact h.qt,λx a e he=>?_,λx a=>?_⟩
 . rcases List.mem_or_eq_of_mem_set a with a|rfl
   . have:=h.bits x a e he;omega
   . rcases g.2.1 e he with rfl|he
     . omega
     . have:=h.bits _ (List.getElem_mem c) e he;omega
 . rcases List.mem_or_eq_of_mem_set a with a|rfl
   . exact h.small x a
   omega
theorem Hs.tz{n:Nat}{a:List Int}(h:Hs f n a)(d:n<f.aF.length)(g:f.aF.length<=6){k:Nat}(b:k<a.length):Mi f (aC (b0 a[k] n)):=by
 have c:=Ky (h.small _ (List.getElem_mem b)) (n:=n) (by omega);refine⟨λe he=>⟨(Kz he).1,?_⟩,λq=>?_,by have:=lg (b0 a[k] n);omega⟩
 . rcases c.2.1 e he with rfl|he
   . omega
   . have:=h.bits _ (List.getElem_mem b) e he;omega
 simp_all
theorem Ny{d:Nat}{k:Nat}{x:Int}{l:List Int}(i:k<6)(c:l.length=6)(hd:σ d=some (.cells [u8 x]))(e:σ c4=some (.cells (l.map u8)))(h:KF (.val (.bp [])) (σ.set c4 (.cells ((l.set k x).map u8)))):aB prog m 186 [.ref d 0,.ref c4 0,.cp (int k) 0] σ KF:=by
 have a:(k:Int)<6:=by omega
 have b:k<=5:=by omega
 have g:k<l.length:=by omega
 refine fs [] 3 Tryz.func186 rfl rfl (by rfl) (by kernel_rfl) ?_;simp[Tryz.f186,hd,e,a,c,b];rw[C7 (by simp_all),<-List.map_set (f:=u8)];exact .done h
theorem PC(N : JJ prog m nn b 6 mb .u8 (jV f) Un Ld)(hf:f.Good)(dx:begun.length<1152921504606846976)(Y:QG m y W I E){fuel:Nat}(hG:Kx m b mb f begun y W I E Un c4 cg cp fuel){way:List Int}{many:Int}{k:Nat}{n:List Int}{sp:cQ}{F:Nat->Prop}{pre post:List (List Int)}(hlen:way.length+(fuel+1)=f.aF.length)(b6:0<=many/\many<=6)(hk:k<6)
 (hh:Hs f way.length n) (w:WS b mb f y begun c4 cg cp n F σ) (hu:Un σ){L:List (List Int)}(U:L=if lf f (b0 (n.getD k 0) way.length)=true then fM f begun fuel (way++[(k:Int)]) (max many ((k:Int)+1)) (n.set k (b0 (n.getD k 0) way.length))else[]) (hW:W=pre++L++post)
 (hI:I pre.length F σ) (hR:Oy b mb Un I E pre.length L.length F σ KF):aB prog m 185 [.sl 1 (way.map int) sp,int many,int k,.ref c4 0,.cp (jU b mb f 0) 0,.ref cg 0] σ KF:=by
 have h6:=hf.qt;have V:k<n.length:=by rw[hh.qt];exact hk
 have b7:n.getD k 0=n[k]:=by simp_all
 rw[b7]at U;have X:(k:Int)<6:=by omega
 have s:=w.arr;have al:=hh.qt;have Z:k<=5:=by omega
 have e1:List.take 1 (List.drop k (List.map u8 n))=[u8 n[k]]:=by rw[<-List.map_drop,List.drop_eq_getElem_cons V];rfl
 refine fs SD 6 Tryz.func185 rfl rfl (by rfl) (by kernel_rfl) ?_
 simp[Tryz.f185,s,X,al,Z,e1];refine bq.intro λd hd=>?_
 have d4:d≠c4:=λe=>by simp_all
 have ar:=Ne.symm d4;simp;refine af.defer rfl rfl rfl rfl (by simp) rfl ?_
 refine rn ?_;simp[X];obtain⟨z,hz⟩:∃z,z=b0 n[k] way.length:=⟨_,rfl⟩;obtain⟨i,O⟩:∃i,i=n.set k z:=⟨_,rfl⟩;have b8:k<i.length:=by simp_all
 have av:i[k]=z:=by simp_all
 have e2:List.take 1 (List.drop k (List.map u8 i))=[u8 z]:=by rw[<-List.map_drop,List.drop_eq_getElem_cons b8,av];rfl
 have e3:aL (List.map u8 n) k [u8 z]=List.map u8 i:=by simp_all
 have P:i.length=6:=by simp_all
 refine cf Tryz.func187 rfl (Ns (by omega) ?_)
 rw[<-hz];refine pg ?_;simp[ar,aa.ak,s,al,Z,e3];refine rn ?_;simp[X,P,Z,e2];have b9:way.length<6:=by omega
 have bm:way.length<f.aF.length:=by omega
 have br:Mi f (aC z):=by rw[hz];exact hh.tz bm h6 V
 obtain⟨xb,bw,bx⟩:=N.QC hu;have cb:∀c l,σ c=some (.cells l)->c≠b:=λc l t e=>by subst e;rw[bw]at t;cases t;cases bx
 have db:d≠b:=λe=>by simp_all
 have ax:Un ((σ.set d (.cells [u8 n[k]])).set c4 (.cells (i.map u8))):=ou N (ou N hu (λx A=>by simp_all)) (λx A=>by rw[aa.ak _ _ ar,s]at A;cases A;rfl)
 have ay:((σ.set d (.cells [u8 n[k]])).set c4 (.cells (i.map u8))) c4=some (.cells (i.map u8)):=aa.ao _ _ _;have b1:((σ.set d (.cells [u8 n[k]])).set c4 (.cells (i.map u8))) d=some (.cells [u8 n[k]]):=by rw[aa.ak _ _ d4,aa.ao]
 have H:∀c,c≠d->c≠c4->((σ.set d (.cells [u8 n[k]])).set c4 (.cells (i.map u8))) c=σ c:=λc r D=>by rw[aa.ak _ _ D,aa.ak _ _ r]
 have b2:¬F d:=λhF=>by
  obtain⟨x,A,_⟩:=Y.Mh _ _ _ _ hI hF
  simp_all
 have a7:I pre.length F ((σ.set d (.cells [u8 n[k]])).set c4 (.cells (i.map u8))):=Y.frame _ _ _ _ (λc t=>H c (λe=>b2 (e ▸ t)) (λe=>w.out.1 (e ▸ t))) hI
 generalize (σ.set d (.cells [u8 n[k]])).set c4 (.cells (i.map u8))=dy at ax ay b1 H a7;refine cf Tryz.func188 rfl (PA N hf br (lg _) ax λo b3 p=>?_)
 have B:o c4=some (.cells (i.map u8)):=p _ _ ay (cb _ _ s) (.inr rfl);have a8:o d=some (.cells [u8 n[k]]):=p _ _ b1 db (.inr rfl);have gd:cg≠d:=λe=>by have:=w.SY;simp_all
 have J:o cg=some (.cells [wF (jU b mb f 0) y begun cp]):=p _ _ (by rw[H cg gd (Ne.symm w.ne.1)];exact w.SY) (cb _ _ w.SY) (.inr rfl)
 have bA:i.set k n[k]=n:=by simp_all
 have Q:∀(env:Env) (j:aa) (v:Bool),env 9=bool v->j d=some (.cells [u8 n[k]])->j c4=some (.cells (i.map u8))->KF (.val (bool v)) (j.set c4 (.cells (n.map u8)))->pz prog m (.func 186) [.ref d 0,.ref c4 0,.cp (int k) 0] [] .ret j (λbB g=>H2 lay m [ResultVar.tmp 9] env (ml KF) [] bB g):=λenv j v he c6 c7 hK=>by
  refine pz.func Tryz.func186 rfl rfl (Ny hk P c6 c7 ?_);refine⟨[env 9],rfl,.done ?_⟩
  simp_all
 have b4:Mv b mb F F σ (o.set c4 (.cells (n.map u8))):=λc x r D K h4=>by
  refine⟨?_,D⟩
  by_cases e:c=c4
  . simp_all
  . have e':c≠d:=λe'=>by simp_all
    rw[aa.ak _ _ e];exact p c x (by simp_all) K h4
 have a9:I pre.length F o:=Y.frame _ _ _ _ (λc t=>by
  obtain⟨x,r,D⟩:=Y.Mh _ _ _ _ a7 t
  have ca:c≠b:=λe=>by grind
  rw[r];exact p c x r ca (.inr D)) a7
 rw[<-hz,<-O]at U;cases R:lf f z with
 | false=>
   rw[R]at U;simp only[Bool.false_eq_true,if_false]at U;subst U;refine pg ?_;simp
   repeat' apply And.intro
   all_goals
    refine rn ?_;simp;refine Q _ o true (by simp) a8 B (hR.1 F _ b4 (ou N b3 (λx A=>by rw[B]at A;cases A;rfl)) ?_)
    exact Y.frame _ _ _ _ (λc t=>aa.ak _ _ (λe=>w.out.1 (e ▸ t))) a9
 | true=>
   rw[R,if_pos rfl]at U
   have ab:∀(j:aa) (C:cQ) (M:cJ->aa->Prop),o.Le j->(∀(v:Bool) g,g d=some (.cells [u8 n[k]])->g c4=some (.cells (i.map u8))->KF (.val (bool v)) (g.set c4 (.cells (n.map u8)))->M (.val (bool v)) g) ->
    aB prog m 189 [.sl 1 ((way++[(k:Int)]).map int) C,int (max many ((k:Int)+1)),.cp (jU b mb f 0) 0,.cp y 0,.cp (ints begun) 0,.ref cp 0] j M:=λj C M q hK=>by
    have cm:o cp=some (.cells [aX (jU b mb f 0) c4 cg]):=by
     have pd:cp≠d:=λe=>by have:=w.pt;simp_all
     exact p _ _ (by rw[H cp pd (Ne.symm w.ne.2)];exact w.pt) (cb _ _ w.pt) (.inr rfl)
    have cr:Un j:=N.un (λc _ ⟨x,r,_⟩=>by rw[r];exact q _ _ r) b3
    have cv:WS b mb f y begun c4 cg cp i F j:=⟨q _ _ B,q _ _ J,q _ _ cm,w.out,w.ne⟩
    have dj:I pre.length F j:=Y.frame _ _ _ _ (λc t=>by obtain⟨x,r,_⟩:=Y.Mh _ _ _ _ a9 t;rw[r];exact q _ _ r) a9
    have S:∀(u:Nat->Prop) (g:aa),Mv b mb F u j g->Mv b mb F u σ (g.set c4 (.cells (n.map u8))):=λu g hm c x r D K h4=>by
     by_cases e:c=c4
     . subst e
       obtain⟨q1,T⟩:=hm c _ (q _ _ B) D K (.inr rfl)
       simp_all
     . have e':c≠d:=λe'=>by simp_all
       rw[aa.ak _ _ e];exact hm c x (q _ _ (p c x (by simp_all) K h4)) D K h4
    have CR:∀(u:Nat->Prop) (g:aa),Mv b mb F u j g->g d=some (.cells [u8 n[k]])/\(g c4=some (.cells (i.map u8))/\¬u c4):=λu g hm=>⟨(hm d _ (q _ _ a8) b2 db (.inr rfl)).1,hm c4 _ (q _ _ B) w.out.1 (cb _ _ s) (.inr rfl)⟩
    subst U;refine hG _ _ _ _ F j pre post M (by simp;omega) (by omega) (by rw[List.length_append,O,hz];exact hh.set b9 V) cv cr hW dj ⟨λu g r D K=>?_,λu g r D K=>?_⟩
    . obtain⟨q1,T,q3⟩:=CR u g r
      exact hK true g q1 T (hR.1 u _ (S u g r) (ou N D (λx A=>by rw[T]at A;cases A;rfl)) (Y.frame _ _ _ _ (λc t=>aa.ak _ _ (λe=>q3 (e ▸ t))) K))
    . obtain⟨q1,T,q3⟩:=CR u g r
      exact hK false g q1 T (hR.2 u _ (S u g r) (ou N D (λx A=>by rw[T]at A;cases A;rfl)) (Y.PB _ _ _ (λc t=>aa.ak _ _ (λe=>q3 (e ▸ t))) K))
   have k1:-9223372036854775808<=(k:Int)+1/\(k:Int)+1<=9223372036854775807:=by omega
   have G:(if many<(k:Int)+1 then(k:Int)+1 else many)=max many ((k:Int)+1):=by omega
   refine pg ?_;simp[J,k1.1,k1.2,G]
   repeat' (first
             |apply And.intro
             | (refine jy lay rfl dT rfl qp (es:=way.map int) (sp:=sp) (l:=0) (h:=way.length) (by simp) (λcap b5=>⟨⟨⟨.i64,by simp⟩,by simpa using b5⟩,⟨⟨.i64,by simp⟩,Nat.le_refl _⟩,rfl⟩) (by simp) λa ha=>?_
                have dm:Tok o o a 1 (way.map int):=by
                 rcases ha with rfl|⟨e,rfl⟩
                 . have:List.take (way.length-0) (List.drop 0 (way.map int))=way.map int:=by rw[List.drop_zero,List.take_of_length_le (by simp)]
                   rw[this];exact .exact _ _ _
                 . rw[e];exact .nil _ _
                clear ha;refine pg ?_;simp[B,a8,J,k1.1,k1.2,G])
             | (refine aR lay rfl rfl rfl dT rfl dT rfl qp (by decide) (by simp;omega) (σ0:=o) (es:=way.map int) (xs:=[int k]) (by simpa using dm) (.inr ⟨_,by simp;rfl⟩) λa' j ad=>?_
                obtain⟨C,rfl⟩:∃C,a'=.sl 1 (way.map int++[int k]) C:=by
                 rcases ad.2 with⟨_,e⟩|e|⟨_,_,_,e,_⟩
                 . simp at e
                 . exact⟨_,e⟩
                 . exact⟨_,e⟩
                have dr:=ad.1 _ _ J;refine pg ?_;simp[dr,k1.1,k1.2,G])
             | (refine cP Tryz.func189 rfl rfl (by simp) (ab j C _ ad.1 λv g q1 T q3=>?_)
                refine pg ?_;simp;refine rn ?_;simp;exact Q _ _ v (by simp) q1 T q3))
end
end Go.Proofs.YtkcceaplmgdnfaaGreatDoor
