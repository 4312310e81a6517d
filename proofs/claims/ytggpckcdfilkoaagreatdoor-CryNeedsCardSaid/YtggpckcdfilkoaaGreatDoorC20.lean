import Derived.Test.YtggpckcdfilkoaaGreatDoorC19
set_option linter.all false
set_option maxHeartbeats 2000000
set_option maxRecDepth 4000
namespace Go.Proofs.YtggpckcdfilkoaaGreatDoor
open Go.Proofs.Tryz hiding f0 f1 f10
section
open Go.bu Go.Conc
def EX(l:FH)(s:Int × Int)(b:Int):Int × Int:=(if s.1<1048576 then fj l s.1 s.2 b else 1048576,b)
def oY(l:FH)(s:Int × Int)(q:RQ):Int × Int:=q.foldl (EX l) s
def fin(a:Int)(q:RQ):Int:=q.foldl (λ_ b=>b) a
theorem EY(a b:Int)(q:RQ):fin a (q++[b])=b:=by unfold fin;grind
theorem Ar(l:FH):∀(q:RQ) (s:Int × Int),(oY l s q).2=fin s.2 q
 |[],_=>rfl
 |b::q,s=>Ar l q _
section
variable{l:FH}
def Lc(h a b:Int):fj l h a b<=1048576:=(Aq h a b l 1048576).1
def adg{s s':Int × Int}(a:s.1<=s'.1)(c:s.2=s'.2)(b:Int):(EX l s b).1<=(EX l s' b).1:=by
 unfold EX;by_cases g:s'.1<1048576
 . rw[wS g,wS ac,c]
   exact(Bv.refl l).adY a
 . split
   . simp[Lc]
   omega
def Lf:∀(q:RQ){s s':Int × Int},s.1<=s'.1->s.2=s'.2->(oY l s q).1<=(oY l s' q).1
 |[],_,_,h,_=>h
 |b::q,s,s',a,c=>Lf q (adg a c b) rfl
def Yl(a:∀x∈l,1<=x.bJ){s:Int × Int}(h:s.1<=1048576)(b:Int):s.1<=(EX l s b).1/\(EX l s b).1<=1048576:=by
 unfold EX;split
 . exact⟨OF l _ a (FJ _) h,Lc _ _ _⟩
 omega
def vE(a:∀x∈l,1<=x.bJ):∀(q:RQ){s:Int × Int},s.1<=1048576->s.1<=(oY l s q).1/\(oY l s q).1<=1048576
 |[],_,h=>⟨FJ _,h⟩
 |b::q,s,h=>by have c:=Yl a h b;have d:=vE a q c.2;exact⟨LL c.1 d.1,d.2⟩
theorem qL(s:Int × Int)(u v:RQ):oY l s (u++v)=oY l (oY l s u) v:=ET ..
def EZ{n:Nat}{t:RQ}(c:Closed l n t)(d:∀i,t.getD i 0<=1048576):∀(q:RQ){s:Int × Int},(∀x∈q,0<=x/\x<n)->(0<=s.2/\s.2<n)->t.getD s.2.toNat 0<=s.1->t.getD (fin s.2 q).toNat 0<=(oY l s q).1
 |[],_,_,_,h=>h
 | b ::q,s,e,f,h=>by
   have hb:=e b ap;refine EZ c d q  am hb ?_;show t.getD b.toNat 0<=(if s.1<1048576 then fj l s.1 s.2 b else 1048576);split
   . have g:=c s.2.toNat b.toNat ac ac ac
     have j:=(Bv.refl l).adY (a:=(s.2.toNat:Int)) (b:=(b.toNat:Int)) h
     grind
   grind
def yI(l:FH)(n:Nat)(s0:Int × Int)(t:RQ):Prop:=t.length=4/\∀b:Nat,b<n->t.getD b 0<1048576->∃q,(∀x∈q,0<=x/\x<(n:Int))/\oY l s0 q=(t.getD b 0,(b:Int))
theorem adU{n:Nat}{s0:Int × Int}{a b:Nat}(i:a<n)(hb:b<n){t:RQ}(h:yI l n s0 t):yI l n s0 (nD l a b t):=by
 unfold nD;split
 . next g=>
   refine⟨by rw[KU];exact h.1,λc j d=>?_⟩;rw[wW]at d ⊢;split at d
   . next e=>
     rw[wS e];rw[e.1];split
     . next f=>
       obtain⟨q,m,k⟩:=h.2 a i g;refine⟨q++[(b:Int)],λx o=>?_,?_⟩
       . grind
       . rw[qL,k]
         show(if t.getD a 0<1048576 then fj l _ a b else 1048576,(b:Int))=_
         grind
     . next f=>rw[wN f]at d;exact h.2 b hb d
   . next e=>rw[wN e];exact h.2 c j d
 omega
def afH{n:Nat}{s0:Int × Int}{t:RQ}(h:yI l n s0 t):yI l n s0 (pass l n t):=EW _ _ _ _ (λ_ _ b a=>EW _ _ _ _ (by grind [adU]) a) h
def Cf{n:Nat}{s0:Int × Int}:∀(k:Nat){t:RQ},yI l n s0 t->yI l n s0 (gF l n k t)
 |0,_,h=>h
 | k+1,t,h=>by
   unfold gF;split
   . exact h
   . exact Cf k (afH h)
def afE{n:Nat}(c:n<=4){town hour:Int}(d:0<=town):yI l n (hour,town) (begun town hour):=by
 refine⟨by simp[begun],λb hb a=>?_⟩;unfold begun at a ⊢;rw[wW]at a ⊢;split at a
 . next e=>exact⟨[],ap,by show(hour,town)=_;grind⟩
 . match b with
   |0=>grind
   |1=>grind
   |2=>grind
   |3=>grind
   |b+4=>omega
structure Plain(a:Int)(q:RQ):Prop where
 once:∀u1 u2 v,q=u1++u2++v->u2≠[]->fin a u1≠fin a (u1++u2)
 last:∀u v,q=u++v->v≠[]->fin a u≠0
theorem Ym(a:Int)(u v:RQ):fin a (u++v)=fin (fin a u) v:=ET ..
def VZ(c:∀x∈l,1<=x.bJ){s0:Int × Int}(k:s0.1<=1048576){R:RQ->Prop}(p:∀u v w,R (u++v++w)->R (u++w)):∀(m:Nat) (q:RQ),q.length=m->R q->fin s0.2 q=0->∃q',R q'/\fin s0.2 q'=0/\Plain s0.2 q'/\(oY l s0 q').1<=(oY l s0 q).1/\(q'=q\/q'.length<q.length):=by
 intro m
 induction m using Nat.strongRecOn with
 | _ m n=>
   intro q B o r
   by_cases s:∀a b v,q=a++b++v->b≠[]->fin s0.2 a≠fin s0.2 (a++b)
   . by_cases t:∀u v,q=u++v->v≠[]->fin s0.2 u≠0
     . exact⟨q,o,r,⟨s,t⟩,FJ _,.inl rfl⟩
     . obtain⟨u,v,e,C,y⟩:∃u v,q=u++v/\v≠[]/\fin s0.2 u=0:=by
        grind
       have hlen:u.length<m:=by grind [List.length_append,List.length_pos_iff]
       have d:R u:=by have:=p u v [] (by rw[xx,<-e];exact o);grind
       obtain⟨q',f,g,h,i,z⟩:=n u.length hlen u rfl d y;refine⟨q',f,g,h,LL i ?_,am⟩
       rw[e,qL];exact(vE c v (vE c u k).2).1
   . obtain⟨a,b,v,e,A,D⟩:∃a b v,q=a++b++v/\b≠[]/\fin s0.2 a=fin s0.2 (a++b):=by
      grind
     have hlen:(a++v).length<m:=by grind [List.length_append,List.length_pos_iff]
     have j:fin s0.2 (a++v)=0:=by grind [Ym]
     obtain⟨q',f,g,h,i,z⟩:=n _ hlen (a++v) rfl am j
     refine⟨q',f,g,h,LL i ?_,am⟩
     rw[e,qL,qL];refine Lf v ?_ (by grind [Ar])
     rw[qL];exact(vE c b (vE c a k).2).1
def Yn(a b:Int):∀(u:RQ),b∈a::u->∃c d,u=c++d/\fin a c=b
 | u,h=>by
   rcases Cv.1 h with rfl|h
   . exact⟨[],u,rfl,rfl⟩
   . obtain⟨x,y,rfl⟩:=List.append_of_mem h
     exact⟨x++[b],y,ap,EY a b x⟩
def Plain.nodup{a:Int}:∀{q:RQ},(∀c d v,q=c++d++v->d≠[]->fin a c≠fin a (c++d))->(a::q).Nodup:=by
 intro q h;induction q generalizing a with
 |nil=>simp
 | cons b q f=>
   refine List.nodup_cons.2 ⟨λg=>?_,f λc d v e i=>?_⟩
   . obtain⟨x,y,e⟩:=List.append_of_mem g
     refine h [] (x++[a]) y am ap ?_;rw[List.nil_append,EY];rfl
   . have:=h (b::c) d v (by rw[e];simp) i
     exact this
end
theorem uG(a:Int)(q:RQ):lastT (a::q)=fin a q:=by
 unfold lastT;induction q generalizing a with
 |nil=>rfl
 |cons b q c=>rw[List.getLast?_cons_cons,c];rfl
def Lh{w:bF}(c:∀x∈w.ways,1<=x.bJ){s0:Int × Int}(h:s0.1<=1048576){q:RQ}(i:Plain s0.2 q)(j:∀x∈q,0<=x/\x<w.aX)(k:(oY w.ways s0 q).1<1048576):∀(m:Nat) (u v:RQ),u.length=m->q=u++v->(s0.2::u,(oY w.ways s0 u).1)∈vl w ([s0.2],s0.1) u.length
 |0,u,v,g,_=>by obtain rfl:=MM.1 g;show([s0.2],s0.1)∈[([s0.2],s0.1)];simp
 | m + 1,u,v,g,e=>by
   obtain⟨x,b,rfl⟩:∃x b,u=x++[b]:=by
    rcases List.eq_nil_or_concat u with rfl|⟨x,b,rfl⟩
    . grind
    grind
   have l:x.length=m:=am
   have n:=Lh c h i j k m x (b::v) l am;have o:=j b (by rw[e];simp)
   have d:(oY w.ways s0 (x++[b])).1<1048576:=by
    have:=(vE c v (vE c (x++[b]) h).2).1
    grind [qL]
   have f:(oY w.ways s0 x).1<1048576:=by
    have:=(vE c [b] (vE c x h).2).1
    grind [qL]
   have a:(oY w.ways s0 (x++[b])).1=fj w.ways (oY w.ways s0 x).1 (fin s0.2 x) b:=by
    rw[qL];show(if(oY w.ways s0 x).1<1048576 then fj w.ways (oY w.ways s0 x).1 (oY w.ways s0 x).2 b else 1048576)=_;rw[wS f,Ar]
   have hlen:(x++[b]).length=x.length+1:=ap
   rw[hlen];refine E2.2 ⟨_,n,?_⟩;unfold sB;rw[uG,wN (i.last x (b::v) am ap)];refine CR.2 ⟨b.toNat,LB.2 ⟨am,?_⟩,?_⟩
   . unfold Bg
     rw[uG,show((b.toNat:Nat):Int)=b by omega,vc,wK,<-a];refine⟨d,?_⟩;rw[Kr,K2];intro g;obtain⟨p,r,s,t⟩:=Yn s0.2 b x g;refine i.once p (r++[b]) v am ap ?_
     grind [EY]
   grind [uG]
def OG{w:bF}(a:w.Valid){c:Nat}(d:c<w.ak.length){p:RQ}(f:∀x∈p,0<=x/\x<w.aX)(g:fin w.ak[c].town p=0):bP w c<=(oY w.ways (w.ak[c].hour,w.ak[c].town) p).1:=by
 have e:=a.jS.2 _ (lb d);have h:=a.aX;have j:bP w c=(lr w.ways w.aX.toNat w.ak[c].town w.ak[c].hour).getD 0 0:=by unfold bP;rw[kn d];rfl
 have:=EZ (FM  (λy b=>(a.way y b).2.2.1) (n:=w.aX.toNat) ac  (hour:=w.ak[c].hour) ac) (λi=>((th (λy b=>(a.way y b).2.2.1) _ _ (by grind [xH])).2 i).2) p (s:=(w.ak[c].hour,w.ak[c].town)) am ⟨e.1.1,ac⟩ (by
  have:=afc (l:=w.ways) (n:=w.aX.toNat) (town:=w.ak[c].town) (hour:=w.ak[c].hour) ac w.ak[c].town.toNat;refine LL this ?_;unfold begun
  grind)
 grind
def adR{w:bF}(a:w.Valid){c:Nat}(b:c<w.ak.length)(o:bP w c<1048576):∃p,(∀x∈p,0<=x/\x<w.aX)/\fin w.ak[c].town p=0/\Plain w.ak[c].town p/\(oY w.ways (w.ak[c].hour,w.ak[c].town) p).1=bP w c:=by
 have d:=a.jS.2 _ (lb b);have r:=a.aX;have f:∀x∈w.ways,1<=x.bJ:=λy g=>(a.way y g).2.2.1.1
 have i:bP w c=(lr w.ways w.aX.toNat w.ak[c].town w.ak[c].hour).getD 0 0:=by unfold bP;rw[kn b];rfl
 obtain⟨q,s,e⟩:=(Cf  (n:=w.aX.toNat) _ (afE  ac  d.1.1)).2 0 ac (by show(lr w.ways w.aX.toNat w.ak[c].town w.ak[c].hour).getD 0 0<_;omega)
 have t:(oY w.ways (w.ak[c].hour,w.ak[c].town) q).1=bP w c:=by rw[e,i];rfl
 have j:fin w.ak[c].town q=0:=by grind [Ar]
 obtain⟨p,k,l,A,B,_⟩:=VZ f (s0:=(w.ak[c].hour,w.ak[c].town)) ac (R:=λq=>∀x∈q,0<=x/\x<w.aX) (λu v z h x d=>h x am) q.length q rfl am j
 have m:=OG a b k l
 grind
theorem yz{w:bF}(a:w.Valid){c:Nat}(e:c<w.ak.length)(j:bP w c<=72):(rY w c w.ak[c]).isSome=true:=by
 have k:=a.jS.2 _ (lb e);have g:∀x∈w.ways,1<=x.bJ:=λy h=>(a.way y h).2.2.1.1
 obtain⟨p,i,l,f,m⟩:=adR a e ac;have b:=Lh g (s0:=(w.ak[c].hour,w.ak[c].town)) ac f i ac p.length p [] rfl ap;have d:=Plain.nodup f.once;have hlen:=qR w.aX.toNat _ d am;unfold rY;rw[List.find?_isSome];refine⟨_,E2.2 ⟨p.length,wL.2 (by simp at hlen;omega),b⟩,?_⟩;unfold Fu
 simp_all [uG]
def cx(T:Nat):Nat->Wz
 |0=>[[]]
 |k+1=>(cx T k).flatMap λp=>(List.range T).map λ(j:Nat)=>p++[(j:Int)]
def OH{T:Nat}:∀{k:Nat}{p:RQ},p∈cx T k↔p.length=k/\∀x∈p,0<=x/\x<(T:Int)
 | 0,p=>by
   simp  [cx]
   grind
 | k + 1,p=>by
   simp only[cx,E2,CR,wL];constructor
   . rintro⟨q,a,j,d,rfl⟩
     have:=OH.1 a
     grind
   . rintro⟨e,c⟩
     rcases List.eq_nil_or_concat p with rfl|⟨q,b,rfl⟩
     . grind
     . have hb:=c b ap
       refine⟨q,OH.2 am,b.toNat,ac,?_⟩
       grind
def V0{w:bF}{a h:Int}(d:h<1048576):∀(k:Nat) (r:RQ × Int),r∈vl w ([a],h) k->∃u,r.1=a::u/\u.length=k/\(∀x∈u,0<=x/\x<(w.aX.toNat:Int))/\(oY w.ways (h,a) u).1=r.2/\r.2<1048576
 | 0,r,b=>by
   have:r=([a],h):=by simpa[vl]using b
   subst this;exact⟨[],rfl,rfl,ap,rfl,d⟩
 | k + 1,r,b=>by
   simp only[vl,E2]at b;obtain⟨y,e,b⟩:=b;obtain⟨u,f,i,l,m,n⟩:=V0 d k y e;unfold sB at b;split at b
   . grind
   . obtain⟨j,g,rfl⟩:=CR.1 b
     obtain⟨o,c⟩:=LB.1 g;unfold Bg at c;rw[vc,wK]at c;have p:lastT y.1=fin a u:=by rw[f,uG]
     refine⟨u++[(j:Int)],am,am,λx q=>?_,?_,c.1⟩
     . grind
     . rw[qL]
       show(if(oY w.ways (h,a) u).1<1048576 then fj w.ways (oY w.ways (h,a) u).1 (oY w.ways (h,a) u).2 j else 1048576)=fj w.ways y.2 _ j
       simp_all [Ar]
end
section
open Go.bu Go.Conc
variable{m:Mo}{σ:af}{KF:YC}
def ly(t:Int):Int:=if t<1048576 then t else -1
def aaE{h a b best:Int}{x:Way}(q:¬(mz x a b/\js h x<=x.fN)):AA h a b x best=best:=by
 unfold AA;split
 . rfl
 . next z=>rw[wN λc=>q ⟨by unfold mz;omega,c⟩]
def Yo{h a b best:Int}{x:Way}(q:mz x a b)(c:js h x<=x.fN):AA h a b x best=if js h x+x.bJ<best then js h x+x.bJ else best:=by unfold AA;rw[wN (by unfold mz at q;omega),wS c]
end
section
open Go.bu Go.Conc
section
variable{w:bF}
def lu(w:bF):Nat->RQ × Int->JD
 |0,r=>if lastT r.1=0 then[r]else[]
 |n+1,r=>(mS w r w.aX.toNat).flatMap (lu w n)
theorem Bw  l   b :lastT (l++[b])=b:=by unfold lastT;simp
theorem ID{r x n}(h:x∈mS w r n):∃k ,k<n/\Bg w r k=true/\x=(r.1++[(k:Int)],fj w.ways r.2 (lastT r.1) k):=by
 unfold mS at h
 grind
theorem Li{r k}(h:Bg w r k=true):(k:Int)∉r.1:=by
 unfold Bg at h
 grind
theorem G2:∀  n   r ,(0:Int)∈r.1->lastT r.1≠0->lu w n r=[]
 |0,r,_,h=>by unfold lu;grind
 | n+1,r,b,h=>by
   unfold lu;rw[List.flatMap_eq_nil_iff];intro x a;obtain⟨k,_,c,rfl⟩:=ID a;refine G2 n _ am ?_
   grind [Bw,Li]
theorem aaF  n   r  (a:lastT r.1=0->(0:Int)∈r.1):lu w (n+1) r=(sB w r).flatMap (lu w n):=by
 show(mS w r w.aX.toNat).flatMap _=_;unfold sB;split
 . next q=>
   rw[List.flatMap_nil,List.flatMap_eq_nil_iff]
   grind [ID,G2,Bw,Li]
 . rfl
def MP(w:bF):Nat->JD->JD
 |0,L=>L
 |n+1,L=>MP w n (L.flatMap (sB w))
def V1  r0 :∀  n k ,MP w n (vl w r0 k)=vl w r0 (k+n)
 |0,_=>rfl
 | n+1,k=>by
   show MP w n (vl w r0 (k+1))=_;rw[V1 r0 n _]
   grind
def V2:∀  n   L ,(∀r∈L,lastT r.1=0->(0:Int)∈r.1)->L.flatMap (lu w n)=(MP w n L).filter λr=>decide (lastT r.1=0)
 | 0,L,h=>by
   show L.flatMap _=L.filter _
   induction L with
   |nil=>rfl
   | cons r L a=>
     rw[Mh,a (λr b=>h r (by simp[b])),List.filter_cons]
     unfold lu
     grind
 | n + 1,L,h=>by
   have e:L.flatMap (lu w (n+1))=(L.flatMap (sB w)).flatMap (lu w n):=by rw[List.flatMap_assoc];exact congrArg List.flatten (by grind [List.map_congr_left,aaF])
   rw[e,V2 n _ λx c d=>?_]
   . rfl
   . unfold sB at c
     grind [ID,Bw]
def iv(o:Ke)(r:RQ × Int):Ke:=match o with
 |none=>some r
 |some b=>if r.2<b.2 then some r else some b
def vF:∀  A   b ,∃x,A.foldl iv (some b)=some x/\x.2<=b.2/\(∀r∈A,x.2<=r.2)/\(x=b\/x∈A)/\(b::A).find? (λr=>decide (r.2=x.2))=some x
 |[],b=>⟨b,rfl,FJ _,ap,.inl rfl,ap⟩
 | a ::A,b=>by
   rw[HW];by_cases g:a.2<b.2
   . have e:iv (some b) a=some a:=by unfold iv;grind
     rw[e];obtain⟨x,c,d,f,h,i⟩:=vF A a;refine⟨x,c,ac,λr j=>?_,am,?_⟩
     . grind
     grind [List.find?_cons_of_neg]
   . have e:iv (some b) a=some b:=by unfold iv;grind
     rw[e];obtain⟨x,c,d,f,h,i⟩:=vF A b;refine⟨x,c,d,λr j=>?_,am,?_⟩
     . grind
     grind
def sL(w:bF)(a:Az)(T:Nat):JD:=(List.range T).flatMap λk=>lu w k ([a.town],a.hour)
def V3  a   T :sL w a T=((List.range T).flatMap (vl w ([a.town],a.hour))).filter λr=>decide (lastT r.1=0):=by
 rw[List.filter_flatMap];refine congrArg List.flatten (afJ λk _=>?_);have h:=V2 (w:=w) k [([a.town],a.hour)] λr b q=>by rw[sN.1 b]at q ⊢;simpa[lastT]using q.symm
 rw[show[([a.town],a.hour)]=vl w ([a.town],a.hour) 0 from rfl,V1 ([a.town],a.hour) k 0,IC]at h;rw[<-h];simp[vl]
def uf(i:w.Valid){c}  j :(bP w c<=72->∃r,rY w c w.ak[c]=some r/\(sL w w.ak[c] w.aX.toNat).foldl iv none=some r/\r.2=bP w c)/\(72<bP w c->∀r,(sL w w.ak[c] w.aX.toNat).foldl iv none=some r->72<r.2):=by
 have l:=i.jS.2 _ (lb j);obtain⟨A,o⟩:=S1 (sL w w.ak[c] w.aX.toNat);have d:=V3 (w:=w) w.ak[c] w.aX.toNat;rw[<-o]at d ⊢
 have p:∀r∈A,bP w c<=r.2:=λr b=>by
  rw[d]at b;obtain⟨f,q⟩:=LB.1 b;obtain⟨k,_,f⟩:=E2.1 f;obtain⟨u,C,_,D,s,_⟩:=V0 (w:=w) (a:=w.ak[c].town) (h:=w.ak[c].hour) ac k r f
  rw[<-s];refine OG i j am ?_
  simp_all [wK,uG]
 have g:∀r,A.foldl iv none=some r->r∈A/\(∀x∈A,r.2<=x.2)/\A.find? (λx=>decide (x.2=r.2))=some r:=λr b=>by
  cases A with
  |nil=>grind
  | cons a A=>
    obtain⟨x,f,q,E,F,G⟩:=vF A a;have:some x=some r:=by rw[<-f,<-b];rfl
    obtain rfl:=KE this
    grind
 refine⟨λm=>?_,λm r b=>?_⟩
 . obtain⟨r,b⟩:=OY.1 (yz i j m)
   have t:=b;unfold rY at b;have H:=List.mem_of_find?_eq_some b;have n:=List.find?_some b;unfold Fu at n;rw[vc,wK,wK]at n;have v:r∈A:=am
   obtain⟨x,l⟩:∃x,A.foldl iv none=some x:=by
    cases A with
    |nil=>grind
    |cons a A=>obtain⟨x,f,_⟩:=vF A a;exact⟨x,f⟩
   obtain⟨I,J,z⟩:=g x l
   have B:x.2=bP w c:=am
   rw[d,List.find?_filter,B]at z
   have e:(λx:RQ × Int=>decide (decide (lastT x.1=0)=true/\decide (x.2=bP w c)=true))=Fu w (bP w c):=by
    funext y
    unfold Fu
    grind
   grind
 grind
end
end
section
open Go.bu Go.Conc
variable{m:Mo}{σ:af}{KF:YC}
def V4:PH 192 194 where
 mkP r:=s8
 mkW r:=s8
 mkA r o:=s8
 typ r:=s8
 VD r:=s8
 Jb r o:=s8
 Zk r:=s8
 Zl:=s8
 Zm:=s8
 el:=s8
 elem:=s8
 impl:=s8
 adP v:=s8
 asg:=s8
 dir:=s8
def E0{e:Int}(d:σ 0=some (.stay [fW]))(h:KF (.val (Xn e)) σ):ar prog m 74 [.pH 192 (.agg [Xn e])] σ KF:=by
 refine S0 [] func74 ?_;simp;refine bz.intro λb hb=>?_
 simp;refine O1 func123 (aax V4 ac9 ac' rfl ⟨rfl,rfl⟩ ⟨rfl,rfl⟩ (by grind [af.ah]) (af.aj _ _ _) λa f c=>?_);apply rn;simp[c];refine .less (λx o g=>?_) (.done h)
 grind [af.ah]
def xc{f:Fr}(a:f.Fits)(c:check f≠0)(h:KF (.val (.pH 192 (.agg [Xn (check f)]))) σ):ar prog m 75 [bR f] σ KF:=by
 refine S0 [] func75 ?_;simp;refine O1 func124 (Ew a ?_);have d:(check f==0)=false:=am
 have b:(check f !=0)=true:=am
 apply rn;simp[b];exact .done h
def xQ(w:bF)(c:Az):Int:=if check (lone w.fair c.lost)≠0 then check (lone w.fair c.lost)else EG w c
def ij(w:bF):Int:=if check w.fair≠0 then check w.fair else if cz w.aX 1 4=false then 1 else if(6:Int)<w.ways.length then 6 else if dv (sD w.aX) w.ways≠0 then dv (sD w.aX) w.ways else if(3:Int)<w.ak.length then 6 else if dv (xQ w) w.ak≠0 then dv (xQ w) w.ak
 else if(6:Int)<(w.fair.ao.length:Int)+w.ak.length then 6 else if jl (dM w)=0 then 9 else 0
def As{α:Type}{g g':α->Int}:∀{l:List α},(∀x∈l,g x=g' x)->dv g l=dv g' l
 |[],_=>rfl
 |y::l,h=>by unfold dv;rw[h y (MJ ..),As λx a=>h x (Lb _ a)]
structure bF.cA(w:bF):Prop where
 fits:w.fair.Fits
 Rl:∀c∈w.ak,(lone w.fair c.lost).Fits
 ways:w.ways.length<1152921504606846976
 ak:w.ak.length<1152921504606846976
def bF.cA.oX{w:bF}(h:w.cA)(a:check w.fair=0)(b:∀c∈w.ak,check (lone w.fair c.lost)=0):w.pq:=⟨h.fits,a,λc q=>⟨h.Rl c q,b c q⟩,h.ways,h.ak⟩
def adL{w:bF}(h:w.pq):dv (xQ w) w.ak=dv (EG w) w.ak:=As λc a=>by unfold xQ;rw[wN (by simp[(h.Rl c a).2])]
theorem G3{w:bF}(h:w.pq):ij w=tE w:=by unfold ij tE;rw[wN (by simp[h.Jc]),adL h]
theorem Bx{w:bF}{c:Az}(h:xQ w c=0):check (lone w.fair c.lost)=0:=by unfold xQ at h;omega
theorem cX{w:bF}(a:w.cA)(h:ij w=0):w.pq/\tE w=0:=by
 have c:=h;unfold ij at h;by_cases b:check w.fair=0
 . by_cases d:dv (xQ w) w.ak=0
   . have e:=a.oX b (by grind [Bx,nX])
     grind [G3]
   omega
 omega
def aiM{w:bF}{c:Az}(j:σ 0=some (.stay [fW]))(f:0<=w.aX/\w.aX<=100)(d:(lone w.fair c.lost).Fits)(h:KF (.val (Xn (xQ w c))) σ):ar prog m 78 [aT w,cK c] σ KF:=by
 unfold xQ at h;by_cases a:check (lone w.fair c.lost)=0
 . rw[wN (by simp[a])]at h
   exact Al f d a h
 . rw[wS a]at h
   have g:Wl [AV.agg [.sl 6 [bn c.lost] .exact,Cu w.fair.roads,Xn w.fair.bs,Xn w.fair.fN,Xn w.fair.dN,Xn w.fair.bc]] [bR (lone w.fair c.lost)]:=.cons Vz .nil;refine S0 [] func78 ?_;simp;refine bz.intro λb hb=>?_
   simp;refine bp func75 rfl rfl g (xc d a ?_);apply rn;simp;refine O1 func74 (E0 (by grind [af.ah]) ?_);generalize check _=e at a h ⊢;have k:(e==0)=false:=am
   have i:(e !=0)=true:=am
   apply rn;simp[i];exact .less (af.bZ (af.le_refl _) hb) (.done h)
def vi{w:bF}(D:m.solo=true)(C:σ 0=some (.stay [fW]))(l:w.cA)(h:KF (.val (Xn (ij w))) σ):ar prog m 33 [aT w] σ KF:=by
 by_cases A:w.pq
 . rw[G3 A]at h
   exact EH D A h
 have E:=l.ways;have F:=l.ak;unfold ij at h;refine S0 Q5 func33 ?_;simp[f33];by_cases g:¬check w.fair=0
 . rw[wS g]at h
   refine O1 func75 (xc l.fits g ?_);apply rn;simp;refine O1 func74 (E0 C ?_);generalize check w.fair=e at g h ⊢;have K:(e==0)=false:=am
   have G:(e !=0)=true:=am
   apply rn;simp[G];exact .done h
 replace g:check w.fair=0:=Classical.not_not.1 g
 rw[wN (by simp[g])]at h;refine O1 func75 (tD l.fits g ?_);apply rn;simp;refine O1 func74 (yG ?_);apply rn;simp;refine O1 func76 (im ?_);apply rn;simp;refine aM.intro (λp=>?_) (λp=>?_)<;>(try simp[-Int.not_lt,-Int.not_le,-Nat.not_lt,-Nat.not_le]at p)<;>(try simp[p]at h)<;>(try simp[p])<;>(try exact .done h);have L:=dJ p;refine aM.intro (λx=>?_) (λx=>?_)<;>(try simp[-Int.not_lt,-Int.not_le,-Nat.not_lt,-Nat.not_le]at x)<;>(try simp[x]at h)<;>(try simp[x])<;>(try exact .done h);refine aa.loop w.ways.length (λk=>MY σ λε=>ε 1=.cp (aT w) 0/\ε 28=rW w.ways/\ε 29=Xn w.ways.length/\ε 30=Xn k/\dv (sD w.aX) w.ways=dv (sD w.aX) (w.ways.drop k)) ⟨_,rfl,ap⟩ ?_;rintro H k _ I ⟨ε,rfl,f,q,r,i,a⟩ B
 refine aa.runN Ax [] 17 ?_;simp[r,i];refine aM.intro (λy=>?_) (λy=>?_)<;>(try simp[-Int.not_lt,-Int.not_le,-Nat.not_lt,-Nat.not_le]at y)<;>(try simp[f,q,i,y])
 . rw[qY _ _ k y]at a
   refine bz.intro λd hd=>?_
   simp;change aa _ _ _ _ _ _ _ _ _;refine aa.runN Ax [] 1 ?_;simp;change aa _ _ _ _ _ _ _ _ _;refine aa.bj 5 (b:=d) (fG w.ways[k]) (af.aj _ _ _) ap rfl ?_;rw[cy hd];apply rn;simp[f];refine O1 func77 (Ak ac ?_);apply rn;simp;refine aM.intro (λn=>?_) (λn=>?_)<;>(try simp[-Int.not_lt,-Int.not_le,-Nat.not_lt,-Nat.not_le]at n)<;>(try simp[i,n])
   . rw[wN n]at a
     simp[a,n]at h;exact .done h
   . rw[wS n]at a
     refine⟨ac,B _ ac ⟨_,rfl,by simp[f],by simp[q],by simp[r],ap,a⟩⟩
 . have ek:k=w.ways.length:=ac
   subst ek;rw[K1]at a;rw[show dv (sD w.aX) []=0 from rfl]at a;simp[a]at h;refine aM.intro (λz=>?_) (λz=>?_)<;>(try simp[-Int.not_lt,-Int.not_le,-Nat.not_lt,-Nat.not_le]at z)<;>(try simp[z]at h)<;>(try simp[z])<;>(try exact .done h)
   . apply rn
     simp;exact .done h
   apply rn;simp[f];refine aa.loop w.ak.length (λk=>MY σ λε=>ε 1=.cp (aT w) 0/\ε 47=kr w.ak/\ε 48=Xn w.ak.length/\ε 49=Xn k/\dv (xQ w) w.ak=dv (xQ w) (w.ak.drop k)) ⟨_,rfl,by simp[f]⟩ ?_;rintro H k _ I ⟨ε,rfl,f,t,u,j,a⟩ B;refine aa.runN Ax [] 17 ?_;simp[u,j];refine aM.intro (λv=>?_) (λv=>?_)<;>(try simp[-Int.not_lt,-Int.not_le,-Nat.not_lt,-Nat.not_le]at v)<;>(try simp[f,t,j,v])
   . rw[qY _ _ k v]at a
     refine bz.intro λd hd=>?_
     simp;change aa _ _ _ _ _ _ _ _ _;refine aa.runN Ax [] 1 ?_;simp;change aa _ _ _ _ _ _ _ _ _;refine aa.bj 8 (b:=d) (cK w.ak[k]) (af.aj _ _ _) ap rfl ?_;rw[cy hd];apply rn;simp[f];refine O1 func78 (aiM C ac (l.Rl _ (lb v)) ?_);apply rn;simp;refine aM.intro (λo=>?_) (λo=>?_)<;>(try simp[-Int.not_lt,-Int.not_le,-Nat.not_lt,-Nat.not_le]at o)<;>(try simp[j,o])
     . rw[wN o]at a
       simp[a,o]at h;exact .done h
     . rw[wS o]at a
       refine⟨ac,B _ ac ⟨_,rfl,by simp[f],by simp[t],by simp[u],ap,a⟩⟩
   . have ek:k=w.ak.length:=ac
     subst ek;rw[K1]at a;exact absurd (l.oX g λc J=>Bx (nX _ a c J)) A
def bg(w:bF)(bJ ji ak:RQ):Int:=if ij w=0 then dR w bJ ji ak else ij w
def j9{w:bF}(c:m.solo=true)(f:σ 0=some (.stay [fW]))(d:w.cA){bJ ji ak:RQ}(g:bJ.length<1000000/\ji.length<1000000/\ak.length<1000000)(b:bg w bJ ji ak≠0)
 (h:KF (.val (.cx [.lit (.pointer none),Xn (bg w bJ ji ak)])) σ):ar prog m 51 [aT w,Ae bJ,Ae ji,Ae ak] σ KF:=by
 unfold bg at b h;by_cases a:ij w=0
 . rw[wS a]at b h
   exact kM c (cX d a).1 g (λ_=>h) ac
 . rw[wN a]at b h
   refine S0 [] func51 ?_;simp;refine O1 func33 (vi c f d ?_);generalize ij w=e at a h ⊢;have j:(e==0)=false:=am
   have i:(e !=0)=true:=am
   apply rn;simp[i];exact .done h
end
section
open Go.bu Go.Conc
def gY(f:Fr)(e:vU)(h:Int):Bool:=if e.ma=0 then decide (e.bY=h)else if e.ma=1 then cz (e.bY-h) f.bs f.fN else decide (e.bY=h)||cz (e.bY-h) f.bs f.fN
def By:RQ:=(List.range 34).map λi:Nat=>(i:Int)-3
def qd(f:Fr)(l:RQ):RQ:=By.filter λh=>l.all λn=>gY f (aU f n) h
def Au{a lo hi}:cz a lo hi=true↔lo<=a/\a<=hi:=by simp[cz]
def G4{f e h}(a:e.ma≠0):h∈lg f e↔f.bs<=e.bY-h/\e.bY-h<=f.fN:=by
 rw[KJ a,CR];constructor
 . grind
 . rintro⟨b,c⟩
   exact⟨(h-(e.bY-f.fN)).toNat,wL.2 ac,ac⟩
def stL{f e}(a:e.ma=0):lg f e=[]:=by unfold lg;simp_all
def Bz{f e h}(c:0<=e.ma/\e.ma<=2):h∈cD f e↔gY f e h=true:=by
 unfold gY;by_cases a:e.ma=0
 . rw[wS a]
   unfold cD;rw[stL a,wS ⟨ac,ap⟩]
   grind
 rw[wN a];by_cases b:e.ma=1
 . rw[wS b]
   unfold cD;rw[wN (by simp[b]),G4 a,Au]
 . rw[wN b,Mb,wK,Au,<-G4 a]
   unfold cD
   grind
def Nm:∀{l c:RQ},l.Pairwise (·<·)->c.Pairwise (·<·)->(∀x,x∈l↔x∈c)->l=c
 |[],[],_,_,_=>rfl
 |[],b::c,_,_,h=>absurd ((h b).2 ap) ap
 |a::l,[],_,_,h=>absurd ((h a).1 ap) ap
 | a::l,b::c,d,f,h=>by
   obtain⟨j,g⟩:=KD.1 d;obtain⟨k,i⟩:=KD.1 f
   have e:a=b:=by
    have m:=(h a).1 ap;have hb:=(h b).2 ap
    grind
   subst e;rw[Nm g i λx=>?_]
   grind
def V5{h}:h∈By↔-3<=h/\h<=30:=by
 unfold By;rw[CR];constructor
 . grind
 . rintro⟨a,b⟩
   exact⟨(h+3).toNat,wL.2 ac,ac⟩
def adK{f}(b:f.Good){e}(c:e∈f.ao){h}(a:gY f e h=true):-3<=h/\h<=30:=by
 have hb:=(lf (b.pS e c)).2.2.2.1;have d:=b.fr;have g:=b.to;unfold gY at a;split at a
 . grind
 split at a
 . have:=Au.1 a;omega
 . rw[Mb,wK,Au]at a
   omega
def aeu{f}(g:f.Good){l}(d:l≠[])(i:∀n∈l,0<=n/\n<f.ao.length){h}:h∈qd f l↔∀j∈l,h∈cD f (aU f j):=by
 unfold qd;rw[LB,V5,LF];have e:∀j∈l,0<=(aU f j).ma/\(aU f j).ma<=2:=λj b=>(lf (g.pS _ (dL (i j b)))).2.2.2.2.1
 constructor
 . rintro⟨_,c⟩ j b
   exact(Bz (e j b)).2 (c j b)
 . intro c
   obtain⟨a,r,rfl⟩:=List.exists_cons_of_ne_nil d;refine⟨adK g (dL (i a ap)) ((Bz (e a ap)).1 (c a ap)),λj b=>(Bz (e j b)).1 (c j b)⟩
def Av(a b:RQ):Int:=(((List.range 5).filter λi:Nat=>decide ((i:Int)∈a)!=decide ((i:Int)∈b)).length:Int)
def OI:Wz:=(List.range 32).map λx:Nat=>((List.range 5).map λi:Nat=>(i:Int)).filter λi=>x.testBit i.toNat
def Lj:∀{l p},sC p l=0->(∀q,p=some q->∀x∈l,q<x)/\l.Pairwise (·<·)
 |[],p,_=>⟨λ_ _ x b=>(by cases b),List.Pairwise.nil⟩
 | a::l,p,h=>by
   unfold sC at h;split at h
   . cases h
   split at h
   . cases h
   next c=>
   obtain⟨d,e⟩:=Lj h;have b:∀x∈l,a<x:=d a rfl;refine⟨λq f x g=>?_,KD.2 ⟨b,e⟩⟩;subst f;have:q<a:=by simpa[ua]using c
   grind
def ajH:∀a b c d e ,(((List.range 5).map λi:Nat=>(i:Int)).filter λi=>[a,b,c,d,e].getD i.toNat false)∈OI:=v3
def G5{l}(h:sC none l=0):l∈OI:=by
 have c:=vw h;have d:=(Lj h).2
 have:l=((List.range 5).map λi:Nat=>(i:Int)).filter λi=>[decide ((0:Int)∈l),decide ((1:Int)∈l),decide ((2:Int)∈l),decide ((3:Int)∈l),decide ((4:Int)∈l)].getD i.toNat false:=by
  refine Nm d ?_ λx=>?_
  . refine List.Pairwise.filter _ ?_
    simp_all
  . rw[LB,CR]
    constructor
    . intro a
      have hb:=c x a;refine⟨⟨x.toNat,wL.2 ac,ac⟩,?_⟩;have:x=0\/x=1\/x=2\/x=3\/x=4:=ac
      rcases this with rfl|rfl|rfl|rfl|rfl<;>simpa using a
    . rintro⟨⟨i,b,rfl⟩,a⟩
      have b:=wL.1 b;have:i=0\/i=1\/i=2\/i=3\/i=4:=ac
      rcases this with rfl|rfl|rfl|rfl|rfl<;>simpa using a
 rw[this];exact ajH _ _ _ _ _
def Yp:∀a∈OI,∀b∈OI,Av a b=cj (bh a) (bh b):=v3
def Yld{a b}(c:sC none a=0)(hb:sC none b=0):Av a b=cj (bh a) (bh b):=Yp _ (G5 c) _ (G5 hb)
def FQ(f:Fr)(l:RQ):RQ:=((List.range f.ao.length).map λi:Nat=>(i:Int)).filter λi=>decide (i∈l)
def IF(f:Fr)(l:RQ):Bool:=l.all λn=>decide ((aU f n).di=(aU f (l.getD 0 0)).di)
def Lm(f:Fr)(l:RQ):Bool:=IF f l && decide (qd f l≠[]) && !bI f (aV f (FQ f l))
def Yq  f   l :(FQ f l).Pairwise (·<·):=by refine List.Pairwise.filter _ ?_;rw[List.pairwise_map];exact List.pairwise_lt_range.imp λh=>ac
theorem Ln{f l x}:x∈FQ f l↔(0<=x/\x<f.ao.length)/\x∈l:=by
 unfold FQ;rw[LB,CR,wK];constructor
 . grind
 . rintro⟨a,h⟩
   exact⟨⟨x.toNat,wL.2 ac,ac⟩,h⟩
def Yr{f l}(h:l.Pairwise (·<·))(a:∀n∈l,0<=n/\n<f.ao.length):FQ f l=l:=Nm (Yq f l) h λx=>Ln.trans ⟨λh=>h.2,λh=>⟨a x h,h⟩⟩
def V6  f  {l}(b:l≠[]):IF f l=!cR f (aV f l):=by
 have c:=jM f l;have d:∀n,n∈aV f l↔n∈l:=λn=>c.mem_iff
 have z:∀{r:RQ},r≠[]->r.getD 0 0∈r:=λ{r} h=>am
 have a:aV f l≠[]:=λe=>aq
 rw[IJ];unfold IF cR
 grind
def sop{f}(c:f.Good){l}(b:l≠[])(d:∀n∈l,0<=n/\n<f.ao.length):decide (qd f l≠[])=!cd f (aV f l):=by
 have g:=jM f l;have j:∀n,n∈aV f l↔n∈l:=λn=>g.mem_iff
 have a:aV f l≠[]:=λe=>aq
 have key:∀x,x∈qd f l↔x∈fM f (aV f l):=λx=>by
  rw[aeu c b d,kZ a]
  simp_all
 unfold cd;rw[IJ,Kr,wK,K2];constructor
 . intro h e
   obtain⟨x,i⟩:=HN _ h
   simp_all
 . intro h e
   obtain⟨x,i⟩:=HN _ h
   simp_all
def Ys{f}(d:f.Good){l}(a:l≠[])(b:l.Pairwise (·<·))(c:∀n∈l,0<=n/\n<f.ao.length):Lm f l=decide (iS f l=0):=by
 unfold Lm;rw[Yr b c,V6 f a,sop d a c,IJ,wK,jz]
 grind
def uH(f:Fr)(begun:RQ)(μ:RQ->Wz)(k:Nat):Wz:=if Lm f (aN (begun++[(k:Int)]) k)=true then μ (begun++[(k:Int)])else[]
def lT(f:Fr)(out:RQ):Nat->RQ->Wz
 |0,begun=>[begun]
 |n+1,begun=>if(begun.length:Int)∈out then lT f out n (begun++[-1])else(List.range (min (aJ begun+1) f.bc).toNat).flatMap (uH f begun (lT f out n))
def rU0  w   k :(aN w k).Pairwise (·<·):=(nI k w 0).1
def E1{f}(i:f.Good):∀  fuel   way a ,way.length+fuel=f.ao.length->Hs f way.length a->(∀k ,k<6->aB (a.getD k 0)=aN way k) ->
 eu f [] fuel way (aJ way) a=lT f [] fuel way
 |0,way,a,_,_,_=>by simp[eu,lT]
 | fuel+1,way,a,u,l,hb=>by
   have m:=i.bc;have v:=i.jo;have q:=iJ way;rw[iT,lT,wN ap]
   refine lZ λk p=>?_
   have p:=wL.1 p;have c:k<6:=ac
   have b:k<a.length:=by rw[l.jo];exact c
   have d:a.getD k 0=a[k]:=aq
   have g:way.length<6:=ac
   have o:aB (cM a[k] way.length)=aN (way++[(k:Int)]) k:=by rw[l8 (l.small _ (lb b)) g (l.bits _ (lb b)),<-d,hb k c,ba,wS rfl]
   unfold nH uH;rw[wN ap,d]
   have h:iY f (cM a[k] way.length)=Lm f (aN (way++[(k:Int)]) k):=by
    unfold iY;rw[o,Ys i (by rw[ba,wS rfl];simp) (rU0 _ _) λn r=>?_]
    have:=aZ r
    grind
   rw[h,<-aS];have s:=l.set g b;rw[E1 i fuel _ _ F2 aq λj t=>?_]
   by_cases e:j=k
   . simp_all
   . rw[sg,Fp (vj e),<-List.getD_eq_getElem?_getD,hb j t,ba,wN ac,xx]
def rSq{f}(c:f.Good):lT f [] f.ao.length []=aG f []:=by
 have d:aB 0=[]:=v3
 have g:∀x∈([0,0,0,0,0,0]:RQ),x=0:=λx b=>aq
 have h:Hs f ([]:RQ).length [0,0,0,0,0,0]:=⟨rfl,λx b e j=>aq,λx b=>aq⟩
 have a:∀k:Nat,k<6->aB (([0,0,0,0,0,0]:RQ).getD k 0)=aN [] k:=λk i=>by
  have:([0,0,0,0,0,0]:RQ).getD k 0=0:=by
   match k,i with
   |0,_=>rfl
   |1,_=>rfl
   |2,_=>rfl
   |3,_=>rfl
   |4,_=>rfl
   |5,_=>rfl
  rw[this,d];rfl
 exact(E1 c f.ao.length [] [0,0,0,0,0,0] ap h a).symm
end
section
open Go.bu Go.Conc
variable{m:Mo}{σ:af}{KF:YC}
def iq{n lo hi:Int}(h:KF (.val (T0 (cz n lo hi))) σ):ar prog m 129 [Xn n,Xn lo,Xn hi] σ KF:=by
 unfold cz at h;refine S0 [] func129 ?_;simp;refine xj.intro (λa=>?_) (λa=>?_)<;>(try simp[-Int.not_le,-Nat.not_lt]at a)<;>(try simp[a]at h)<;>(try simp[a])<;>(try exact .done h)
def CQ{l:RQ}{n:Int}(g:l.length<1152921504606846976)(h:KF (.val (T0 (decide (n∈l)))) σ):ar prog m 196 [Ae l,Xn n] σ KF:=by
 refine S0 [] func196 ?_;simp;refine aa.loop l.length (λk=>MY σ λε=>ε 0=Ae l/\ε 1=Xn n/\ε 5=Xn k/\n∉l.take k) ⟨_,rfl,ap⟩ ?_;rintro i k _ j ⟨ε,rfl,b,e,a,c⟩ o;rcases za k l.length with g1|g1
 . have f:(k:Int)<l.length:=ac
   have f1:=M1 ((k:Int)+1)
   apply rn;simp[b,e,a,g1];refine aM.intro (λd=>?_) (λd=>?_)<;>(try simp[-Nat.not_lt]at d)<;>(try simp[a])
   . have:n∈l:=am
     simp[this]at h;exact .done h
   simp_all [te]
 . have:k=l.length:=ac
   subst this;rw[zH]at c;apply rn;simp[b,a];simp[c]at h;exact .done h
def abf{f:Fr}{e:vU}(u:f.roads.length<1152921504606846976)(v:e.marks.length<1152921504606846976)(h:KF (.val (Xn (fJ f.roads.length e))) σ):ar prog m 130 [bR f,bn e] σ KF:=by
 unfold fJ at h;have f1:=M1 ((f.roads.length:Int)-1)
 refine S0 adk func130 ?_;simp[f130];refine O1 func129 (iq ?_);apply rn;simp;refine aM.intro (λg=>?_) (λg=>?_)<;>(try simp[-Int.not_lt,-Int.not_le,-Nat.not_lt,-Nat.not_le]at g)<;>(try simp[g]at h)<;>(try simp[g,f1.1,f1.2])<;>(try exact .done h);refine O1 func129 (iq ?_);apply rn;simp;refine aM.intro (λi=>?_) (λi=>?_)<;>(try simp[-Int.not_lt,-Int.not_le,-Nat.not_lt,-Nat.not_le]at i)<;>(try simp[i]at h)<;>(try simp[i])<;>(try exact .done h);refine O1 func129 (iq ?_);apply rn;simp;refine aM.intro (λj=>?_) (λj=>?_)<;>(try simp[-Int.not_lt,-Int.not_le,-Nat.not_lt,-Nat.not_le]at j)<;>(try simp[j]at h)<;>(try simp[j])<;>(try exact .done h)
 refine aa.loop e.marks.length (λk=>MY σ λε=>ε 2=.cp (bR f) 0/\ε 3=.cp (bn e) 0/\ε 5=Xn k/\sC none e.marks=sC (if k=0 then none else e.marks[k-1]?) (e.marks.drop k)) aq ?_;rintro w k _ x ⟨ε,rfl,y,l,d,a⟩ z;rcases za k e.marks.length with g4|g4
 . have o:(k:Int)<e.marks.length:=ac
   have A:=M1 ((k:Int)+1)
   rw[Oo _ k g4]at a;apply rn;simp[l,d,g4,o];refine O1 func129 (iq ?_);apply rn;simp;refine aM.intro (λb=>?_) (λb=>?_)<;>(try simp[-Int.not_lt,-Int.not_le,-Nat.not_lt,-Nat.not_le]at b)<;>(try simp[b]at a)<;>(try simp[d,b])<;>(try exact .done a)
   . refine RR.intro (λc=>?_) (λc=>?_)<;>(try simp[-Int.not_lt,-Int.not_le,-Nat.not_lt,-Nat.not_le]at c)<;>(try simp[c]at a)<;>(try simp[l,d,c,g4])<;>(try exact .done a)
     . have q:(k:Int)-1=((k-1:Nat):Int):=ac
       have p:k-1<e.marks.length:=ac
       have r:¬k=0:=ac
       simp[q,p];repeat refine⟨ac,?_⟩
       try simp[p,r,ua]at a
       apply rn;simp;refine aM.intro (λn=>?_) (λn=>?_)<;>(try simp[-Int.not_lt,-Int.not_le,-Nat.not_lt,-Nat.not_le]at n)<;>(try simp[n]at a)<;>(try simp[d,n])<;>(try exact .done a)
       . simp[a]at h
         exact .done h
       simp_all
     . have t:k=0:=ac
       subst t;simp[ua]at a;apply rn
       simp_all
   . simp[a]at h
     exact .done h
 . have:k=e.marks.length:=ac
   subst this;simp[sC]at a;simp[a]at h;apply rn;simp[l,d];refine O1 func129 (iq ?_);apply rn;simp;refine aM.intro (λb=>?_) (λb=>?_)<;>(try simp[-Int.not_lt,-Int.not_le,-Nat.not_lt,-Nat.not_le]at b)<;>(try simp[b]at h)<;>(try simp[l,b])<;>(try exact .done h);refine O1 func129 (iq ?_);apply rn;simp;refine aM.intro (λc=>?_) (λc=>?_)<;>(try simp[-Int.not_lt,-Int.not_le,-Nat.not_lt,-Nat.not_le]at c)<;>(try simp[c]at h)<;>(try simp[c])<;>(try exact .done h)
def E3(r:Wz)(i j:Nat):Bool:=(decide (i=j) && rd r i j !=0)||rd r i j !=rd r j i||(List.range r.length).any λk=>decide (rd r i j>rd r i k+rd r k j)
def ab8{r:Wz}{i j:Nat}(a:E3 r i i=false)(b:E3 r i j=false):cS r i j=false:=by
 unfold E3 at a b;unfold cS
 grind
def abj{r:Wz}(hr:r.length<1152921504606846976)(hl:∀l∈r,l.length<1152921504606846976)(h:KF (.val (Xn (fD r))) σ):ar prog m 128 [Cu r] σ KF:=by
 unfold fD at h;refine S0 adj func128 ?_
 simp[f128];refine aM.intro (λU=>?_) (λU=>?_)<;>simp at U<;>simp[U]
 . rw[wS (show r.length<1 by simp[U])]at h
   exact .done h
 have P:¬r.length<1:=λq=>U (MM.1 ac)
 refine aM.intro (λg2=>?_) (λg2=>?_)<;>simp at g2<;>simp[g2]
 . have I:3<r.length:=ac
   rw[wN P,wS I]at h;exact .done h
 have I:¬3<r.length:=ac
 rw[wN P,wN I]at h;refine aa.loop r.length (λk=>MY σ λε=>ε 0=Cu r/\ε 3=Xn r.length/\ε 4=Xn k/\jV r.length r=jV r.length (r.drop k)) ⟨_,rfl,ap⟩ ?_
 rintro c0 k _ Q ⟨ε,rfl,b,a,A,u⟩ ih
 rcases za k r.length with g4|g4
 . have V:(k:Int)<r.length:=ac
   rw[Es _ _ k g4]at u;obtain⟨l,v⟩:=S1 (r[k]);have aC:l.length<1152921504606846976:=hl l (by rw[v];exact lb g4)
   by_cases g5:l.length=r.length
   . have J:((l.length:Int) !=r.length)=false:=by simp[g5]
     rw[<-v]at u;apply rn;simp[b,a,A,g4,V,v.symm,J];refine aa.loop l.length (λj=>MY σ λε=>ε 0=Cu r/\ε 3=Xn r.length/\ε 4=Xn k/\ε 5=Xn j/\(l.take j).all (cz · 0 9)=true) ⟨_,rfl,by simp[b],by simp[a],by simp[A],ap,ap⟩ ?_
     clear b a A
     rintro c1 j _ R ⟨ε,rfl,b,a,A,h5,w⟩ C
     rcases za j l.length with g6|g6
     . have x:(j:Int)<r.length:=ac
       apply rn;simp[b,a,A,h5,g4,v.symm,g6,x];refine O1 func129 (iq ?_);apply rn;simp;refine aM.intro (λW=>?_) (λW=>?_)<;>(try simp[-Int.not_lt,-Int.not_le,-Nat.not_lt,-Nat.not_le]at W)<;>(try simp[h5,W])
       . refine⟨ac,C _ g6 ⟨_,rfl,by simp[b],by simp[a],by simp[A],ap,?_⟩⟩
         rw[so g6,Ma,w];simp[W]
       . have:l.all (cz · 0 9)=false:=by
          rw[List.all_eq_false];exact⟨_,lb g6,by simp[W]⟩
         simp[nB,g5,this]at u;simp[u]at h;exact .done h
     . have:j=l.length:=ac
       subst this;have X:¬(l.length:Int)<r.length:=ac
       rw[zH]at w;have a8:nB r.length l=0:=by unfold nB;rw[wN (by simp[g5]),wS w]
       rw[wS a8]at u;apply rn;simp[a,A,h5,X];exact⟨ac,ih _ g4 ⟨_,rfl,by simp[b],by simp[a],ap,u⟩⟩
   . have J:((l.length:Int) !=r.length)=true:=by
      have:¬(l.length:Int)=r.length:=ac
      simp[this]
     rw[<-v]at u;simp[nB,g5]at u;simp[u]at h;apply rn;simp[b,a,A,g4,V,v.symm,J];exact .done h
 have:k=r.length:=ac
 subst this;simp[jV]at u;rw[wN (by rw[u];simp)]at h
 clear ih;have d:∀(i:Nat) (B:i<r.length),r[i].length=r.length:=λi B=>(mh u _ (lb B)).1
 have D:∀(i:Nat) (B:i<r.length) (j:Nat) (R:j<r[i].length),0<=r[i][j]/\r[i][j]<=9:=λi B j R=>dJ ((mh u _ (lb B)).2 _ (lb R))
 have p:∀i j,i<r.length->j<r.length->cS r i j=true->KF (.val (Xn 9)) σ:=λi j g5 g6 hb=>by
  have:((List.range r.length).any λi=>(List.range r.length).any λj=>cS r i j)=true:=ES.2 ⟨i,wL.2 g5,ES.2 ⟨j,wL.2 g6,hb⟩⟩
  rw[wS this]at h;exact h
 have n4:¬(r.length:Int)<r.length:=ac
 apply rn;simp[a,A,n4];refine aa.loop r.length (λi=>MY σ λε=>ε 0=Cu r/\ε 3=Xn r.length/\ε 6=Xn i/\∀i'<i,∀j<r.length,E3 r i' j=false) ⟨_,rfl,by simp[b],by simp[a],ap,ap⟩ ?_
 clear b a A
 rintro c1 i _ B ⟨ε,rfl,b,a,c,n⟩ ih
 rcases za i r.length with g5|g5
 . have Y : (i : Int)<r.length:=ac
   apply rn;simp[a,c,Y];refine aa.loop r.length (λj=>MY σ λε=>ε 0=Cu r/\ε 3=Xn r.length/\ε 6=Xn i/\ε 7=Xn j/\∀f<j,E3 r i f=false) ⟨_,rfl,by simp[b],by simp[a],by simp[c],ap,ap⟩ ?_
   clear b a c
   rintro c2 j _ R ⟨ε,rfl,b,a,c,g,K⟩ C
   rcases za j r.length with g6|g6
   . have x : (j:Int)<r.length:=ac
     have q1:i<r[i].length:=by rw[d i g5];exact g5
     have t:j<r[i].length:=by rw[d i g5];exact g6
     have S:i<r[j].length:=by rw[d j g6];exact g5
     have a9:((i:Int)==(j:Int))=decide (i=j):=by
      by_cases e:i=j
      . simp[e]
      . have:¬(i:Int)=j:=ac
        simp[e,this]
     by_cases Z:i=j/\r[i][j]≠0
     . obtain⟨rfl,Z⟩:=Z
       have ab:(r[i][i] !=0)=true:=by simpa using Z
       apply rn;simp[b,a,c,g,Y,g5,q1,ab];apply rn;simp;exact .done (p i i g5 g5 (by unfold cS;rw[gL g5 q1];simp[Z]))
     have L:i=j->r[i][j]=0:=λe=>K3 λq=>Z ⟨e,q⟩
     by_cases T:r[i][j]=r[j][i]
     . have E:(r[i][j] !=r[j][i])=false:=by simpa using T
       have hz:∃bq:Bool,((i:Int)==(j:Int))=bq/\(bq=true->(r[i][j]!=0)=false):=⟨_,rfl,λq=>by
        have e:i=j:=by have:=FE q;omega
        simp[L e]⟩
       obtain⟨bq,a7,ad⟩:=hz;cases bq
       . apply rn
         simp[b,a,c,g,g5,x,g6,t,S,a7,E];apply rn;simp
         ((
           refine aa.loop r.length (λk=>MY σ λε=>ε 0=Cu r/\ε 3=Xn r.length/\ε 6=Xn i/\ε 7=Xn j/\ε 8=Xn k/\∀y<k,¬rd r i j>rd r i y+rd r y j) ⟨_,rfl,by simp[b],by simp[a],by simp[c],by simp[g],ap,ap⟩ ?_
           clear b a c g
           rintro c3 k _ Q ⟨ε,rfl,b,a,c,g,M,z⟩ N
           rcases za k r.length with g9|g9
           . have O:(k:Int)<r.length:=ac
             have F:k<r[i].length:=by rw[d i g5];exact g9
             have G:j<r[k].length:=by rw[d k g9];exact g6
             have al:=D i g5 k F;have av:=D k g9 j G;have f1:-9223372036854775808<=r[i][k]+r[k][j]:=ac
             have f2:r[i][k]+r[k][j]<=9223372036854775807:=ac
             apply rn;simp[b,a,c,g,M,O,g5,g6,g9,t,F,G,f1,f2];apply rn
             by_cases o:r[i][k]+r[k][j]<r[i][j]
             . simp[o]
               refine .done (p i j g5 g6 ?_);unfold cS;have:((List.range r.length).any λk=>decide (rd r i j>rd r i k+rd r k j))=true:=ES.2 ⟨k,wL.2 g9,by rw[gL g5 t,gL g5 F,gL g9 G];simpa using o⟩
               rw[this];simp
             . simp[o,b,a,c,g,M]
               refine⟨ac,N _ g9 ⟨_,rfl,by simp[b],by simp[a],by simp[c],by simp[g],ap,λy ax=>?_⟩⟩
               by_cases e:y=k
               . subst e
                 rw[gL g5 t,gL g5 F,gL g9 G];omega
               . exact z y ac
           . have:k=r.length:=ac
             subst this;have n9:¬(r.length:Int)<r.length:=ac
             apply rn;simp[b,a,c,g,M,n9];refine⟨ac,C _ g6 ⟨_,rfl,by simp[b],by simp[a],by simp[c],ap,λf H=>?_⟩⟩
             by_cases e:f=j
             . subst e
               unfold E3
               have P:((List.range r.length).any λk=>decide (rd r i f>rd r i k+rd r k f))=false:=by rw[Ib];intro k Q;simpa using z k (wL.1 Q)
               have I:(decide (i=f) && rd r i f !=0)=false:=by
                by_cases e:i=f
                . rw[gL g5 t,L e];simp
                . simp[e]
               have e3:rd r i f=rd r f i:=by rw[gL g5 t,gL g6 S];exact T
               rw[P,I,e3];simp
             . exact K f ac))
       . have ay:=ad rfl
         apply rn;simp[b,a,c,g,g5,x,g6,t,S,a7,ay,E];apply rn;simp
         ((
           refine aa.loop r.length (λk=>MY σ λε=>ε 0=Cu r/\ε 3=Xn r.length/\ε 6=Xn i/\ε 7=Xn j/\ε 8=Xn k/\∀y<k,¬rd r i j>rd r i y+rd r y j) ⟨_,rfl,by simp[b],by simp[a],by simp[c],by simp[g],ap,ap⟩ ?_
           clear b a c g
           rintro c3 k _ Q ⟨ε,rfl,b,a,c,g,M,z⟩ N
           rcases za k r.length with g9|g9
           . have O:(k:Int)<r.length:=ac
             have F:k<r[i].length:=by rw[d i g5];exact g9
             have G:j<r[k].length:=by rw[d k g9];exact g6
             have al:=D i g5 k F;have av:=D k g9 j G;have f1:-9223372036854775808<=r[i][k]+r[k][j]:=ac
             have f2:r[i][k]+r[k][j]<=9223372036854775807:=ac
             apply rn;simp[b,a,c,g,M,O,g5,g6,g9,t,F,G,f1,f2];apply rn
             by_cases o:r[i][k]+r[k][j]<r[i][j]
             . simp[o]
               refine .done (p i j g5 g6 ?_);unfold cS;have:((List.range r.length).any λk=>decide (rd r i j>rd r i k+rd r k j))=true:=ES.2 ⟨k,wL.2 g9,by rw[gL g5 t,gL g5 F,gL g9 G];simpa using o⟩
               rw[this];simp
             . simp[o,b,a,c,g,M]
               refine⟨ac,N _ g9 ⟨_,rfl,by simp[b],by simp[a],by simp[c],by simp[g],ap,λy ax=>?_⟩⟩
               by_cases e:y=k
               . subst e
                 rw[gL g5 t,gL g5 F,gL g9 G];omega
               . exact z y ac
           . have:k=r.length:=ac
             subst this;have n9:¬(r.length:Int)<r.length:=ac
             apply rn;simp[b,a,c,g,M,n9];refine⟨ac,C _ g6 ⟨_,rfl,by simp[b],by simp[a],by simp[c],ap,λf H=>?_⟩⟩
             by_cases e:f=j
             . subst e
               unfold E3
               have P:((List.range r.length).any λk=>decide (rd r i f>rd r i k+rd r k f))=false:=by rw[Ib];intro k Q;simpa using z k (wL.1 Q)
               have I:(decide (i=f) && rd r i f !=0)=false:=by
                by_cases e:i=f
                . rw[gL g5 t,L e];simp
                . simp[e]
               have e3:rd r i f=rd r f i:=by rw[gL g5 t,gL g6 S];exact T
               rw[P,I,e3];simp
             . exact K f ac))
     . have E:(r[i][j]!=r[j][i])=true:=by simpa using T
       have e:i≠j:=λe=>by subst e;exact T rfl
       have e':((i:Int)==(j:Int))=false:=by rw[a9];simp[e]
       apply rn;simp[b,a,c,g,g5,x,g6,t,S,e',E];apply rn;simp;exact .done (p i j g5 g6 (by unfold cS;rw[gL g5 t,gL g6 S];simp[T]))
   . have:j=r.length:=ac
     subst this;have X:¬(r.length:Int)<r.length:=ac
     apply rn;simp[a,c,g,X];refine⟨ac,ih _ g5 ⟨_,rfl,by simp[b],by simp[a],ap,λi' aE j H=>?_⟩⟩
     by_cases e:i'=i
     . subst e;exact K j H
     . exact n i' ac j H
 . have:i=r.length:=ac
   subst this
   have:((List.range r.length).any λi=>(List.range r.length).any λj=>cS r i j)=false:=by rw[Ib];intro i B;rw[Bool.not_eq_true,Ib];intro j R;rw[Bool.not_eq_true];exact ab8 (n i (wL.1 B) i (wL.1 B)) (n i (wL.1 B) j (wL.1 R))
   rw[this]at h;have X:¬(r.length:Int)<r.length:=ac
   apply rn;simp[a,c,X];exact .done h
def BA{f:Fr}(a:f.Fits)(h:KF (.val (Xn (check f))) σ):ar prog m 82 [bR f] σ KF:=by
 unfold check at h;have u:=a.roads;have r:=a.ao;refine S0 afo func82 ?_;simp[f82];refine O1 func128 (abj a.roads a.row ?_);apply rn;simp;refine aM.intro (λc=>?_) (λc=>?_)<;>(try simp[-Int.not_lt,-Int.not_le,-Nat.not_lt,-Nat.not_le]at c)<;>(try simp[c]at h)<;>(try simp[c])<;>(try exact .done h);refine O1 func129 (iq ?_);apply rn;simp;refine xj.intro (λd=>?_) (λd=>?_)<;>(try simp[-Int.not_lt,-Int.not_le,-Nat.not_lt,-Nat.not_le]at d)<;>(try simp[d]at h)<;>(try simp[d])<;>(try exact .done h);refine O1 func129 (iq ?_);apply rn;simp;refine aM.intro (λe=>?_) (λe=>?_)<;>(try simp[-Int.not_lt,-Int.not_le,-Nat.not_lt,-Nat.not_le]at e)<;>(try simp[e]at h)<;>(try simp[e])<;>(try exact .done h)
 refine aM.intro (λg=>?_) (λg=>?_)<;>(try simp[-Int.not_lt,-Int.not_le,-Nat.not_lt,-Nat.not_le]at g)<;>(try simp[g]at h)<;>(try simp[g])<;>(try exact .done h);refine O1 func129 (iq ?_);apply rn;simp;refine xj.intro (λi=>?_) (λi=>?_)<;>(try simp[-Int.not_lt,-Int.not_le,-Nat.not_lt,-Nat.not_le]at i)<;>(try simp[i]at h)<;>(try simp[i])<;>(try exact .done h);refine O1 func129 (iq ?_);apply rn;simp;refine aM.intro (λj=>?_) (λj=>?_)<;>(try simp[-Int.not_lt,-Int.not_le,-Nat.not_lt,-Nat.not_le]at j)<;>(try simp[j]at h)<;>(try simp[j])<;>(try exact .done h);refine aM.intro (λl=>?_) (λl=>?_)<;>(try simp[-Int.not_lt,-Int.not_le,-Nat.not_lt,-Nat.not_le]at l)<;>(try simp[l]at h)<;>(try simp[l])<;>(try exact .done h)
 refine aa.loop f.ao.length (λk=>MY σ λε=>ε 1=.cp (bR f) 0/\ε 4=Xn k/\jh (fJ f.roads.length) f.ao=jh (fJ f.roads.length) (f.ao.drop k)) aq ?_;rintro v k _ w ⟨ε,rfl,q,o,b⟩ t;rcases za k f.ao.length with g8|g8
 . have p:(k:Int)<f.ao.length:=ac
   rw[B8 _ _ k g8]at b;apply rn;simp[q,o,g8,p];refine O1 func130 (abf a.roads (a.marks _ (lb g8)) ?_);apply pg;simp;apply rn;simp;refine aM.intro (λn=>?_) (λn=>?_)<;>(try simp[-Int.not_lt,-Int.not_le,-Nat.not_lt,-Nat.not_le]at n)<;>(try simp[n]at b)<;>(try simp[o,n])<;>(try exact .done b)
   . rw[b]at h
     exact .done h
   . exact⟨ac,t _ g8 aq⟩
 . have:k=f.ao.length:=ac
   subst this;simp[jh]at b;rw[b]at h;apply rn;simp[q,o];exact .done h
def rLd{f e a}(hb:-1000<=e.bY-a/\e.bY-a<=1000)(h:KF (.val (T0 (gY f e a))) σ):ar prog m 235 [bR f,bn e,Xn a] σ KF:=by
 have f1:=M1 (e.bY-a)
 unfold gY at h;refine S0 [] func235 ?_;simp[f235,f1.1,f1.2];refine O1 func129 (iq ?_);apply rn;simp;rw[show decide (e.bY=a)=(e.bY==a)from rfl]at h;generalize (e.bY==a)=d at h ⊢;refine aM.intro (λb=>?_) (λb=>?_)<;>simp at b
 . rw[wS b]at h
   simp;exact .done h
 rw[wN b]at h;simp;refine aM.intro (λc=>?_) (λc=>?_)<;>simp at c
 . rw[wS c]at h
   simp;exact .done h
 rw[wN c]at h;cases d<;>first|exact .done h|(simp at h ⊢;exact .done h)
theorem Lp{i}(h:i<=34):By.take i=(List.range i).map λi:Nat=>(i:Int)-3:=by unfold By;rw[<-List.map_take,List.take_range,Nat.min_eq_left h]
theorem Yt{i}(h:i<34):By.take (i+1)=By.take i++[(i:Int)-3]:=by grind [Lp,List.range_succ]
def aiG{f}{l:RQ}{i}(h:i<34):(By.take (i+1)).filter (λh=>l.all λn=>gY f (aU f n) h)=(By.take i).filter (λh=>l.all λn=>gY f (aU f n) h)++if l.all (λn=>gY f (aU f n) ((i:Int)-3))then[(i:Int)-3]else[]:=by grind [Yt]
def Yu{f l}(E:f.Good)(K:l.length<1000000)(w:∀n∈l,0<=n/\n<f.ao.length)(h:KF (.val (Ae (qd f l))) σ):ar prog m 218 [bR f,Ae l] σ KF:=by
 refine S0 adw func218 ?_
 simp[f218];refine aa.loop 34 (λi s=>∃ε e a,s=⟨ε,e,[],.no⟩/\ε 1=Ae l/\ε 2=.cp (bR f) 0/\ε 5=a/\ε 6=Xn ((i:Int)-3)/\Tok σ e a 1 (((By.take i).filter λh=>l.all λn=>gY f (aU f n) h).map Xn)) ⟨_,σ,.lit (.slice none 0 0),rfl,ap,ap,ap,ap,by grind [Tok.nil]⟩ ?_
 rintro L i _ M ⟨ε,e,a,rfl,g,o,p,k,c⟩ C
 have F:=c.cells
 rcases za i 34 with g1|g1
 . have x:(i:Int)-3<=30:=ac
   have f1:=M1 ((i:Int)-3+1)
   apply rn;simp[k,x];refine aa.loop l.length (λj s=>∃ε,s=⟨ε,e,[],.no⟩/\ε 1=Ae l/\ε 2=.cp (bR f) 0/\ε 5=a/\ε 6=Xn ((i:Int)-3)/\ε 7=T0 ((l.take j).all λn=>gY f (aU f n) ((i:Int)-3))/\ε 8=Xn j) ⟨_,rfl,by simp[g,o,p,k]⟩ ?_
   clear g o p k
   rintro N j _ O ⟨ε,rfl,g,o,p,k,G,r⟩ t
   rcases za j l.length with g2|g2
   . have pL:(j:Int)<l.length:=ac
     have v:=M1 ((j:Int)+1)
     obtain⟨H,P⟩:=w _ (lb g2);have y:l[j].toNat<f.ao.length:=ac
     have b:(l.take (j+1)).all (λn=>gY f (aU f n) ((i:Int)-3))=((l.take j).all (λn=>gY f (aU f n) ((i:Int)-3)) && gY f f.ao[l[j].toNat] ((i:Int)-3)):=by rw[so g2,Ma,<-m9 y];simp
     by_cases q:(l.take j).all (λn=>gY f (aU f n) ((i:Int)-3))=true
     . have Q:=(lf (E.pS _ (lb y))).2.2.2.1
       have d:ε 7=T0 true:=am
       rw[q,LN]at b;apply rn;simp[g,o,k,d,r,g2,pL,H,y];refine O1 func235 (rLd ac ?_)
       apply pg;simp;apply rn;simp[r,v.1,v.2];exact t _ g2 ⟨_,rfl,by simp[g,o,p,k,b]⟩
     . have q:(l.take j).all (λn=>gY f (aU f n) ((i:Int)-3))=false:=am
       have d:ε 7=T0 false:=am
       rw[q,Bool.false_and]at b;apply rn;simp[g,d,r,pL];apply rn;simp[r,v.1,v.2];exact t _ g2 ⟨_,rfl,by simp[g,o,p,k,b]⟩
   . have:j=l.length:=ac
     subst this;rw[zH]at G;have D:=aiG (f:=f) (l:=l) g1
     by_cases q:l.all (λn=>gY f (aU f n) ((i:Int)-3))=true
     . have d:ε 7=T0 true:=am
       rw[wS q]at D;apply rn;simp[g,p,k,d,r];refine aP Ax rfl rfl rfl bX rfl bX rfl nM be am (σ0:=σ) (es:=((By.take i).filter λh=>l.all λn=>gY f (aU f n) h).map Xn) (xs:=[Xn ((i:Int)-3)]) (by simpa using c) (.inr ⟨_,by simp;rfl⟩) λI z A=>?_
       have J:=A.cells;apply rn;simp[k,f1.1,f1.2];exact C _ g1 ⟨_,z,I,rfl,by simp[g],by simp[o],ap,F2,am⟩
     . have q:l.all (λn=>gY f (aU f n) ((i:Int)-3))=false:=am
       have d:ε 7=T0 false:=am
       rw[wN (by simp[q]),xx]at D
       apply rn;simp[g,k,d,r,f1.1,f1.2];exact C _ g1 ⟨_,e,a,rfl,by simp[g],by simp[o],by simp[p],F2,am⟩
 . have B:i=34:=ac
   subst B;apply rn;simp[p,k];have u:By.take 34=By:=by rw[Lp (AK _)];rfl
   rw[u]at c;exact .dp c.W (.less c.1 (.done h))
def Wp(a b:RQ)(k:Nat):Int:=(((List.range k).filter λi:Nat=>decide ((i:Int)∈a)!=decide ((i:Int)∈b)).length:Int)
def V7  a b   k :Wp a b (k+1)=Wp a b k+if(decide ((k:Int)∈a)!=decide ((k:Int)∈b))=true then 1 else 0:=by
 unfold Wp
 grind [List.range_succ,List.length_append]
def aaG  a b   k :0<=Wp a b k/\Wp a b k<=k:=by
 unfold Wp
 grind
namespace RC
abbrev adZ:YA:=[⟨5,.take [0,1,2,4,5,6] false (MU [3,7,8] .done)⟩]
def Cg{a b}(n:a.marks.length<1152921504606846976)(hb:b.marks.length<1152921504606846976)(h:KF (.val (Xn (Av a.marks b.marks))) σ):ar prog m 237 [bn a,bn b] σ KF:=by
 refine S0 adZ func237 ?_;simp[f237];refine aa.loop 5 (λk=>MY σ λε=>ε 2=.cp (bn a) 0/\ε 3=.cp (bn b) 0/\ε 5=Xn (Wp a.marks b.marks k)/\ε 6=Xn k) ⟨_,rfl,by simp[Wp]⟩ ?_;rintro v k _ w ⟨ε,rfl,o,r,f,c⟩ t;rcases za k 5 with g1|g1
 . have d:(k:Int)<=4:=ac
   have u:=aaG a.marks b.marks k;have f1:=M1 ((k:Int)+1)
   have g:=M1 (Wp a.marks b.marks k+1)
   have i:=V7 a.marks b.marks k;apply rn;simp[o,r,c,d];obtain⟨p,j⟩:=S1 (decide ((k:Int)∈a.marks));obtain⟨q,l⟩:=S1 (decide ((k:Int)∈b.marks));rw[<-j,<-l]at i;refine O1 func196 (CQ n ?_);rw[<-j];apply pg;simp;refine O1 func196 (CQ hb ?_);rw[<-l];apply pg;simp;cases p<;>cases q<;>simp at i
   all_goals (
    apply rn;simp[f,c,f1.1,f1.2,g.1,g.2];exact t _ g1 aq)
 . have e:k=5:=ac
   subst e;apply rn;simp[f,c];exact .done h
end RC
abbrev pF(f:Fr):Int->Int->Bool:=tF λn=>(aU f n).hour
def jW(l:RQ)(i:Nat):RQ:=((List.range i).map λi:Nat=>(i:Int)).filter λi=>decide (i∈l)
def aeq  l   i :jW l (i+1)=jW l i++if(i:Int)∈l then[(i:Int)]else[]:=by
 unfold jW
 grind [List.range_succ]
def UnS{l i x}(h:x∈jW l i):0<=x/\x<i:=by
 unfold jW at h
 grind
theorem Ch  l   i :(jW l i).length<=i:=by
 unfold jW
 grind
def okN{f l}(h6:f.ao.length<=1000)(hl:l.length<1000000)(h:KF (.val (Ae (aV f (FQ f l)))) σ):ar prog m 236 [bR f,Ae l] σ KF:=by
 have W:∀i,(gX (pF f) (jW l i)).length<=i:=(by grind [pz,Ch])
 refine S0 adA func236 ?_
 simp[f236];refine aa.loop f.ao.length (λi s=>∃ε G a,s=⟨ε,G,[],.no⟩/\ε 1=Ae l/\ε 2=.cp (bR f) 0/\ε 5=a/\ε 6=Xn i/\cV σ G a 1 ((gX (pF f) (jW l i)).reverse.map Xn)) ⟨_,σ,.lit (.slice none 0 0),rfl,ap,ap,ap,ap,⟨af.le_refl _,.inl ⟨am,.inl rfl⟩⟩⟩ ?_
 rintro c0 i _ hi ⟨ε,G,a,rfl,H,t,u,o,j⟩ ih
 have ad:=j.cells;have X:=W i
 rcases za i f.ao.length with g1|g1
 . have Y:(i:Int)<f.ao.length:=ac
   have f1:=M1 ((i:Int)+1)
   have I:=aeq l i;apply rn;simp[H,t,o,Y];refine O1 func196 (CQ ac ?_)
   by_cases Z:(i:Int)∈l
   . rw [wS Z]at I
     have J:gX (pF f) (jW l (i+1))=cI (pF f) i (gX (pF f) (jW l i)):=by rw[I,gX,ET];rfl
     obtain⟨S,hS⟩:=S1 (gX (pF f) (jW l i))
     have a7:∀x∈S,0<=x/\x.toNat<f.ao.length:=λx K=>by have:=UnS ((xE _ _ x).1 (hS ▸ K));omega
     rw[<-hS]at J j X;obtain⟨x,K⟩:=S1 ((i:Int));have O:x.toNat=i:=ac
     have al:(S.reverse.map Xn).length=S.length:=ap
     rcases j.len with⟨rfl,D⟩|⟨sp,rfl⟩|⟨b0,ab,rfl⟩
     all_goals (
      apply rn;simp[u,o,Z];refine kA Ax rfl rfl rfl bX rfl bX rfl nM be F2 (σ0:=σ) (es:=S.reverse.map Xn) (xs:=[Xn i]) (by simpa using j) (.inl (.inr ⟨_,by simp;rfl⟩)) ap λa' w p=>?_
      rw[<-List.map_singleton (f:=Xn),<-List.map_append,<-K]at p
      obtain⟨b,cap,μ,rfl,t1,t2,t4,t5⟩:∃b cap μ,a'=.mJ b 0 (S.length+1) cap/\σ b=none/\S.length+1<=cap/\w b=some (.cells ((S.reverse++[x]).map Xn++μ))/\μ.length=(cap-(S.length+1))*1:=by
       have P:((S.reverse++[x]).map Xn).length=S.length+1:=ap
       rcases p.2 with⟨e,_⟩|⟨b,cap,μ,r1,r2,r3,r4,r5,r6⟩
       . have:=congrArg List.length e
         rw[P,Dv]at this;omega
       . rw[P]at r1 r3 r6
         rw[iC (λe he=>by obtain⟨_,_,rfl⟩:=CR.1 he;rfl)]at r5
         exact am
      have E:∀(d:af) (T:RQ),T.length=S.length+1->d b=some (.cells (T.reverse.map Xn++μ))->(∀y,y≠b->d y=w y)->cV σ d (.mJ b 0 (S.length+1) cap) 1 (T.reverse.map Xn):=λd T L h5 Q=>by
       refine⟨λy v hv=>?_,.inr ⟨b,cap,μ,by simp[L],t1,by simp[L];exact t2,(by simp[CR]),?_,by simp[L];omega⟩⟩
       . have:y≠b:=am
         rw[Q y this];exact p.1 y v hv
       . rw[iC (λe he=>by obtain⟨_,_,rfl⟩:=CR.1 he;rfl)];exact h5
      apply rn;simp
      refine aa.loop S.length (λk s=>∃ε d g c,s=⟨ε,d,[],.no⟩/\ε 1=Ae l/\ε 2=.cp (bR f) 0/\ε 5=.mJ b 0 (S.length+1) cap/\ε 6=Xn i/\ε 7=Xn c.length/\S=g++c/\c.length+k=S.length/\cI (pF f) x S=g++cI (pF f) x c/\d b=some (.cells (c.reverse.map Xn++Xn x::(g.reverse.map Xn++μ)))/\∀y,y≠b->d y=w y)
       ⟨_,w,[],S,rfl,by simp[H],by simp[t],ap,by simp[o],by first|(simp;done)|(simp at D;simp[D]),rfl,rfl,rfl,by rw[t4];simp,am⟩ ?_
      clear H t u o
      rintro c1 k _ hk ⟨ε,d,g,c,rfl,H,t,u,o,e7,q,hlen,r,hc,Q⟩ a8
      cases c with
      | nil=>
        simp only[Dv,IC]at hlen;simp only[xx]at q;have L:gX (pF f) (jW l (i+1))=g++[x]:=by rw[J,<-K,r];rfl
        apply rn;simp[e7];apply rn;simp[o,f1.1,f1.2];exact ih _ g1 ⟨_,d,.mJ b 0 (S.length+1) cap,rfl,by simp[H],by simp[t],by simp[u],ap,by rw[L];exact E d (g++[x]) (by rw[q];simp) (by simpa using hc) Q⟩
      | cons z c=>
        obtain⟨q1,q2,q3,q4⟩:=QT (A:=c.reverse.map Xn) (B:=g.reverse.map Xn++μ) (x:=Xn x) (y:=Xn z) (n:=c.length) ap
        have R:d b=some (.cells (c.reverse.map Xn++Xn z::Xn x::(g.reverse.map Xn++μ))):=by rw[hc];simp
        have M:=a7 z (by rw[q];simp)
        have p1:(0:Int)<(c.length:Int)+1:=ac
        have F:S.length=g.length+(c.length+1):=by rw[q];simp
        have p2:(c.length:Int)+1<(S.length:Int)+1:=ac
        have p3:(c.length:Int)<(S.length:Int)+1:=ac
        have p4:(0:Int)<=(c.length:Int)+1:=ac
        have p5:((c.length:Int)+1).toNat=c.length+1:=ac
        have V:=M1 ((c.length:Int))
        apply rn;simp[t,u,o,e7,p1,p3,V.1,V.2,R,M.1,M.2,g1];have ez:=m9 M.2;have ex:aU f x=f.ao[i]:=by rw[m9 (by rw[O];exact g1)];simp[O]
        by_cases C:f.ao[i].hour<f.ao[z.toNat].hour
        . have N:cI (pF f) x (z::c)=z::cI (pF f) x c:=lY (by rw[ez,ex];exact C)
          have p7:c.length+1+1<=c.length+(g.length+μ.length+1+1):=ac
          have p8:c.length+1<=c.length+(g.length+μ.length+1+1):=ac
          rw[<-K]at o;apply rn;simp[u,o,e7,C,p2,p3,p4,p5,V.1,V.2,R,p7,p8];refine a8 _ (by rw[F];simp at hlen;omega) ⟨_,_,g++[z],c,rfl,by simp[H],by simp[t],by simp[u],by simp[o,K],ap,by rw[q];simp,by simp at hlen;omega,by rw[r,N];simp,?_,λy U=>?_⟩
          . rw[af.aj];simp
          . rw[af.ah _ _ U]
            exact Q y U
        . have N:cI (pF f) x (z::c)=x::z::c:=qD (by rw[ez,ex];exact C)
          have L:gX (pF f) (jW l (i+1))=g++x::z::c:=by rw[J,<-K,r,N]
          apply rn;simp[o,C,f1.1,f1.2];exact ih _ g1 ⟨_,d,.mJ b 0 (S.length+1) cap,rfl,by simp[H],by simp[t],by simp[u],ap,by rw[L];exact E d (g++x::z::c) (by rw[F];simp;omega) (by simpa using hc) Q⟩)
   . rw[wN Z,xx]at I
     apply rn
     simp_all
 . have a9:i=f.ao.length:=ac
   subst a9;apply rn;simp[t,u,o];have:jW l f.ao.length=FQ f l:=rfl;rw[this]at j;refine j.thaw ?_
   grind [eV]
def goM{f l}(p:f.Good)(hl:l.length<1000000)(h:KF (.val (T0 (!bI f (aV f (FQ f l))))) σ):ar prog m 219 [bR f,Ae l] σ KF:=by
 have H:=p.dN;have h6:=p.jo;obtain⟨L,V⟩:=S1 (aV f (FQ f l));have h0:∀n∈L,0<=n/\n<f.ao.length:=(by grind [Ln,iE])
 have hlen:L.length<=1000:=by rw[V];have:=(jM f (FQ f l)).length_eq;rw[this];have:=Ch l f.ao.length;show(jW l f.ao.length).length<=1000;omega
 rw[<-V]at h;unfold bI at h;refine S0 adx func219 ?_
 simp[f219];refine O1 func236 (okN ac hl ?_)
 rw[<-V];apply rn;simp;refine aa.loop (L.length-1) (λk s=>∃ε D,s=⟨ε,D,[],.no⟩/\σ.Le D/\ε 1=Ae L/\ε 2=.cp (bR f) 0/\ε 5=Xn ((k:Int)+1)/\∀i<k,dg f (L.getD i 0) (L.getD (i+1) 0)=false) ⟨_,_,rfl,af.le_refl _,ap⟩ ?_
 rintro c0 k _ hk ⟨ε,D,rfl,a,o,q,v,w⟩ ih
 rcases za (k+1) L.length with g1|g1
 . have W:(k:Int)+1<L.length:=ac
   have X:k<L.length:=ac
   obtain⟨x0,x1⟩:=h0 _ (lb X);obtain⟨y0,y1⟩:=h0 _ (lb g1);have M:L[k].toNat<f.ao.length:=ac
   have N:L[k+1].toNat<f.ao.length:=ac
   have f1:=M1 ((k:Int))
   have f2:((k:Int)+1).toNat=k+1:=ac
   have f3:(0:Int)<=(k:Int)+1:=ac
   have O:=M1 ((k:Int)+1+1)
   obtain⟨A,P⟩:=S1 (f.ao[L[k].toNat]);obtain⟨B,Q⟩:=S1 (f.ao[L[k+1].toNat]);have eA:=m9 M;have eB:=m9 N;rw[<-P]at eA;rw[<-Q]at eB;have bA:=lf (p.pS A am)
   have bB:=lf (p.pS B am)
   have R:A.place.toNat<f.roads.length:=ac
   obtain⟨r1,r2⟩:=p.row R;have S:B.place.toNat<f.roads[A.place.toNat].length:=ac
   obtain⟨r3,r4⟩:=r2 _ (lb S);have Y:rd f.roads A.place.toNat B.place.toNat=f.roads[A.place.toNat][B.place.toNat]:=gL R S;have lA:=p9 (vw bA.2.2.2.2.2);have lB:=p9 (vw bB.2.2.2.2.2);obtain⟨_,Z,c3⟩:=Oq lA lB;have a7:=Yld bA.2.2.2.2.2 bB.2.2.2.2.2;obtain⟨ch,I⟩:=S1 (cj (bh A.marks) (bh B.marks));have z:Av A.marks B.marks=ch:=ac
   rw[<-I]at Z c3
   have hmul:0<=f.dN*ch/\f.dN*ch<=30:=by
    constructor
    . exact Int.mul_nonneg ac Z
    . calc f.dN*ch<=6*5:=MF H.2 c3 Z ac
       _=30:=by rfl
   have j:dg f L[k] L[k+1]=decide (B.hour-A.hour<f.roads[A.place.toNat][B.place.toNat]+f.dN*ch):=by unfold dg;rw[eA,eB,Y,I]
   have r:L.getD k 0=L[k]:=by simp[sg,X]
   have t:L.getD (k+1) 0=L[k+1]:=by simp[sg,g1]
   have C:=M1 (B.hour-A.hour)
   have T:=M1 (f.dN*ch)
   have U:=M1 (f.roads[A.place.toNat][B.place.toNat]+f.dN*ch)
   apply rn;simp[o,q,v,W,X,g1,x0,M,y0,N,f1.1,f1.2,f2,f3,<-P,<-Q];refine⟨qB.intro λc J=>?_,qB.intro λc J=>?_⟩
   . simp
     refine qB.intro λd hd=>?_
     obtain⟨G,K,hd⟩:=af.bd hd;simp[G,K,af.ah];refine aa.bj 6 (b:=c) (bn A) (by simp[K,af.ah]) ap rfl ?_
     refine aa.bj 7 (b:=d) (bn B) (by simp[G,af.del]) ap rfl ?_
     ((
       apply rn;simp[o,q,v,C.1,C.2,R,S]
       repeat refine⟨ac,?_⟩
       refine O1 func237 (RC.Cg (p.fits.marks A (by rw[P];exact lb M)) (p.fits.marks B (by rw[Q];exact lb N)) ?_)
       rw[z];apply pg;simp[o,q,v,C.1,C.2,T.1,T.2,U.1,U.2];apply rn
       by_cases u:B.hour-A.hour<f.roads[A.place.toNat][B.place.toNat]+f.dN*ch
       . simp[u]
         have:(List.range (L.length-1)).any (λi=>dg f (L.getD i 0) (L.getD (i+1) 0))=true:=ES.2 ⟨k,wL.2 ac,by rw[r,t,j];simpa using u⟩
         rw[this]at h;refine .less ?_ (.done h);intro y x g;have E:y≠c:=λe=>by rw[e,a.none J]at g;cases g
         have F:y≠d:=λe=>by rw[e,a.none hd]at g;cases g
         simpa[af.del,af.ah,E,F]using a y x g
       . simp[u,o,q,v,O.1,O.2]
         refine ih _ ac ⟨_,_,rfl,λy x g=>?_,by simp[o],by simp[q],ap,λi hi=>?_⟩
         . have E:y≠c:=λe=>by rw[e,a.none J]at g;cases g
           have F:y≠d:=λe=>by rw[e,a.none hd]at g;cases g
           simpa[af.del,af.ah,E,F]using a y x g
         . by_cases e:i=k
           . subst e;rw[r,t,j];simpa using u
           . exact w i ac))
   . simp
     refine qB.intro λd hd=>?_
     obtain⟨G,K,hd⟩:=af.bd hd;simp[K,af.ah];refine aa.bj 6 (b:=d) (bn A) (by simp[G,af.ah]) ap rfl ?_
     refine aa.bj 7 (b:=c) (bn B) (by simp[K,af.del]) ap rfl ?_
     ((
       apply rn;simp[o,q,v,C.1,C.2,R,S]
       repeat refine⟨ac,?_⟩
       refine O1 func237 (RC.Cg (p.fits.marks A (by rw[P];exact lb M)) (p.fits.marks B (by rw[Q];exact lb N)) ?_)
       rw[z];apply pg;simp[o,q,v,C.1,C.2,T.1,T.2,U.1,U.2];apply rn
       by_cases u:B.hour-A.hour<f.roads[A.place.toNat][B.place.toNat]+f.dN*ch
       . simp[u]
         have:(List.range (L.length-1)).any (λi=>dg f (L.getD i 0) (L.getD (i+1) 0))=true:=ES.2 ⟨k,wL.2 ac,by rw[r,t,j];simpa using u⟩
         rw[this]at h;refine .less ?_ (.done h);intro y x g;have E:y≠c:=λe=>by rw[e,a.none J]at g;cases g
         have F:y≠d:=λe=>by rw[e,a.none hd]at g;cases g
         simpa[af.del,af.ah,E,F]using a y x g
       . simp[u,o,q,v,O.1,O.2]
         refine ih _ ac ⟨_,_,rfl,λy x g=>?_,by simp[o],by simp[q],ap,λi hi=>?_⟩
         . have E:y≠c:=λe=>by rw[e,a.none J]at g;cases g
           have F:y≠d:=λe=>by rw[e,a.none hd]at g;cases g
           simpa[af.del,af.ah,E,F]using a y x g
         . by_cases e:i=k
           . subst e;rw[r,t,j];simpa using u
           . exact w i ac))
 . have G:¬(k:Int)+1<L.length:=ac
   apply rn;simp[o,v,G]
   have:(List.range (L.length-1)).any (λi=>dg f (L.getD i 0) (L.getD (i+1) 0))=false:=am
   rw[this]at h;exact .less a (.done h)
def Yv{f:Fr}{l:RQ}(y:f.Good)(z:l.length<1000000)(t:l≠[])(g:∀n∈l,0<=n/\n<f.ao.length)(h:KF (.val (T0 (Lm f l))) σ):ar prog m 198 [bR f,Ae l] σ KF:=by
 have a:0<l.length:=JC.2 t;obtain⟨A,H⟩:=g _ (lb a);have u:l[0].toNat<f.ao.length:=ac
 have v:l.getD 0 0=l[0]:=by simp[sg,a]
 have j:=m9 u;unfold Lm IF at h;rw[v,j]at h;refine S0 adt func198 ?_
 simp[f198];refine aa.loop (l.length-1) (λk=>MY σ λε=>ε 1=Ae l/\ε 2=.cp (bR f) 0/\ε 5=Xn ((k:Int)+1)/\(l.take (k+1)).all (λn=>decide ((aU f n).di=f.ao[l[0].toNat].di))=true) ⟨_,rfl,ap,ap,ap,?_⟩ ?_
 . rw[so a]
   simp[j]
 rintro I k _ J ⟨ε,rfl,c,d,e,b⟩ E
 rcases za (k+1) l.length with g1|g1
 . have o:(k:Int)+1<l.length:=ac
   obtain⟨y0,K⟩:=g _ (lb g1);have w:l[k+1].toNat<f.ao.length:=ac
   have B:((k:Int)+1).toNat=k+1:=ac
   have C:(0:Int)<=(k:Int)+1:=ac
   have D:=M1 ((k:Int)+1+1)
   have p:=m9 w
   have i:(l.take (k+1+1)).all (λn=>decide ((aU f n).di=f.ao[l[0].toNat].di))=decide (f.ao[l[k+1].toNat].di=f.ao[l[0].toNat].di):=by rw[so g1,Ma,b,<-p];simp
   by_cases q:f.ao[l[k+1].toNat].di=f.ao[l[0].toNat].di
   . have r:(f.ao[l[k+1].toNat].di !=f.ao[l[0].toNat].di)=false:=by simp[q]
     apply rn;simp[c,d,e,o,g1,y0,w,B,C,A,u,a,r];apply rn;simp[c,d,e,D.1,D.2];exact E _ ac ⟨_,rfl,by simp[c,d,e],by simp[c,d,e],ap,by rw[i];simp[q]⟩
   . have r:(f.ao[l[k+1].toNat].di !=f.ao[l[0].toNat].di)=true:=by simp[q]
     have F:l.all (λn=>decide ((aU f n).di=f.ao[l[0].toNat].di))=false:=by rw[List.all_eq_false];exact⟨_,lb g1,by rw[p];simp[q]⟩
     rw[F]at h;apply rn;simp[c,d,e,o,g1,y0,w,B,C,A,u,a,r];apply rn;simp[c,d,e];simp at h;exact .done h
 . have G:¬(k:Int)+1<l.length:=ac
   have x:k+1=l.length:=ac
   rw[x,zH]at b;rw[b,LN]at h;apply rn;simp[c,d,e,G];refine O1 func218 (Yu y z g ?_);apply rn;simp[c,d,e]
   by_cases q:qd f l=[]
   . rw[q]at h ⊢
     simp at h ⊢;exact .done h
   . have r:0<(qd f l).length:=JC.2 q
     simp[q]at h;simp[c,d,e,r];refine O1 func219 (goM y z ?_);apply rn;simp[c,d,e];exact .done h
def HQ{n}(h:n<=6):7 ^ n<=117649:=FL (KQ ac h) be
def xK{f}(a:f.Good)  out :∀  fuel   w ,(lT f out fuel w).length<=7 ^ fuel
 |0,w=>by simp[lT]
 | fuel+1,w=>by
   have b:=a.bc;unfold lT;split
   . exact FL (xK a out fuel _) am
   . rw[Nat.pow_succ,Jw]
     refine FL (xw  _ λk _=>?_) (IQ _ ?_)
     . unfold uH
       split
       . exact xK a out fuel _
       . simp
     grind
def V8{f:Fr}(C:f.Good){out:RQ}(ho:out.length<1152921504606846976):∀(fuel:Nat) (w:RQ) (σ:af) (KF:YC),w.length+fuel=f.ao.length->(∀x∈w,-1<=x/\x<6)->KF (.val (Cu (lT f out fuel w))) σ->ar prog m 160 [bR f,Ae out,Ae w] σ KF:=by
 have h6:=C.jo;have a7:=C.bc;intro fuel
 induction fuel with
 | zero=>
   intro w σ KF hlen M h;have Q:(w.length:Int)=f.ao.length:=ac
   unfold lT at h;refine S0 Zc func160 ?_
   simp[f160,Q];refine .dp (a':=Cu [w]) ?_ (.done h);exact eo 1 [Ae w] .exact
 | succ fuel D=>
   intro w σ KF hlen M h;have Q:((w.length:Int)==f.ao.length)=false:=by rw[beq_eq_false_iff_ne];omega
   unfold lT at h
   have E:∀y:Int,-1<=y/\y<6->∀x∈w++[y],-1<=x/\x<6:=λy hy x hx=>by
    rcases E4.1 hx with hx|hx
    . exact M x hx
    . simp at hx;subst hx;exact hy
   refine S0 Zc func160 ?_
   simp[f160,Q];refine O1 func196 (CQ ho ?_);apply rn;simp
   by_cases N:(w.length:Int)∈out
   . rw[wS N] at h
     simp[N]
     repeat' (first
               |apply And.intro
               | (refine aP Ax rfl rfl rfl bX rfl bX rfl nM be F2 (σ0:=σ) (es:=[]) (xs:=w.map Xn) ⟨af.le_refl _,.inr (.inl rfl)⟩ (.inr ⟨_,by simp;rfl⟩) λa1 R t=>?_
                  have u:=t.cells;apply pg;simp[u.1,u.2];refine aP Ax rfl rfl rfl bX rfl bX rfl nM be F2 (σ0:=σ) (es:=w.map Xn) (xs:=[Xn (-1)]) (by simpa using t) (.inr ⟨_,by simp;rfl⟩) λF z r=>?_
                  have A:=r.cells;apply pg;simp[A.1,A.2];have hW:Wl [bR f,Ae out,F] [bR f,Ae out,Ae (w++[-1])]:=.cons (.refl _) (.cons (.refl _) (.cons (show F.W (.sl 1 ((w++[-1]).map Xn) .any)by rw[DL];exact r.W) .nil))
                  refine bp func160 rfl rfl hW (D (w++[-1]) z _ F2 (E (-1) ac) ?_)
                  apply pg;simp;apply rn;simp;exact .less r.1 (.done h)))
   . rw [wN N]at h
     obtain⟨cnt,G⟩:=S1 ((min (aJ w+1) f.bc).toNat);have a8:=iJ w;have a9:=afN w 6 ac λx hx=>(M x hx).2
     rw[<-G]at h
     have S:∀k,((List.range k).flatMap (uH f w (lT f out fuel))).length<=k*117649:=λk=>by
      have:=xw (B:=117649) (g:=uH f w (lT f out fuel)) (List.range k) λj _=>by
       unfold uH;split
       . exact FL (xK C out fuel _) (HQ ac)
       . simp
      rwa [L2]at this
     simp[N];refine aa.loop cnt (λk s=>∃ε H a,s=⟨ε,H,[],.no⟩/\ε 1=Ae out/\ε 2=Ae w/\ε 3=.cp (bR f) 0/\ε 7=Xn w.length/\ε 8=a/\ε 9=Xn k/\Tok σ H a 1 (((List.range k).flatMap (uH f w (lT f out fuel))).map Ae)) ⟨_,σ,.lit (.slice none 0 0),rfl,ap,ap,ap,ap,ap,ap,by simpa using Tok.nil σ 1⟩ ?_
     rintro c0 k _ hk ⟨ε,I,a,rfl,e,i,l,o,p,d,q⟩ Z
     have b:=q.cells;apply rn;simp[e,i,l,o,p,d,b.1,b.2];refine O1 func197 (Ya ac (λx hx=>by have:=M x hx;omega) ?_)
     apply rn;simp[e,i,l,o,p,d,b.1,b.2]
     rcases za k cnt with g2|g2
     . have O:(k:Int)<=aJ w:=ac
       have T:(k:Int)<f.bc:=ac
       have f1:=M1 ((k:Int)+1)
       simp[e,i,l,o,p,d,b.1,b.2,O,T];refine aP Ax rfl rfl rfl bX rfl bX rfl nM be F2 (σ0:=I) (es:=[]) (xs:=w.map Xn) ⟨af.le_refl _,.inr (.inl rfl)⟩ (.inr ⟨_,by simp;rfl⟩) λa1 R t=>?_
       have u:=t.cells;apply rn;simp[d,u.1,u.2];refine aP Ax rfl rfl rfl bX rfl bX rfl nM be F2 (σ0:=I) (es:=w.map Xn) (xs:=[Xn k]) (by simpa using t) (.inr ⟨_,by simp;rfl⟩) λF z r=>?_
       have A:=r.cells
       have U:F.W (Ae (w++[(k:Int)])):=by show F.W (.sl 1 ((w++[(k:Int)]).map Xn) .any);rw[DL];exact r.W
       refine aa.Fs 48 (a':=Ae (w++[(k:Int)])) (by simpa using U) ?_
       apply rn;simp[e,i,l,o,p,d,b.1,b.2];refine O1 func199 (Vw F2 ?_)
       apply pg;simp[e,i,l,o,p,d,b.1,b.2];have J:=E k ac
       refine O1 func198 (Yv C (by have:=B9 (w++[(k:Int)]) k;simp at this;omega) (by rw[ba,wS rfl];simp) (λn hn=>by have:=aZ hn;simp at this;omega) ?_)
       apply pg;simp[e,i,l,o,p,d,b.1,b.2]
       have c:(List.range (k+1)).flatMap (uH f w (lT f out fuel))=(List.range k).flatMap (uH f w (lT f out fuel))++uH f w (lT f out fuel) k:=by rw[zU,Fe];simp
       have v:=q.up r.1
       by_cases P:Lm f (aN (w++[(k:Int)]) k)=true
       . have V:uH f w (lT f out fuel) k=lT f out fuel (w++[(k:Int)]):=wS P
         rw[V]at c;apply rn;simp[e,i,l,o,p,d,b.1,b.2,P];refine O1 func160 (D (w++[(k:Int)]) z _ F2 J ?_)
         apply rn;simp[e,i,l,o,p,d,b.1,b.2];have q1:=S k;have q2:=FL (xK C out fuel (w++[(k:Int)])) (HQ ac)
         have q3:k*117649<=6*117649:=IQ _ ac
         refine aP Ax rfl rfl rfl sA rfl sA rfl bX be (by simp only[zD];omega) (σ0:=σ) (es:=((List.range k).flatMap (uH f w (lT f out fuel))).map Ae) (xs:=(lT f out fuel (w++[(k:Int)])).map Ae) (by simpa using v) (.inr ⟨_,by simp;rfl⟩) λa3 X K=>?_
         have L:=K.cells;apply rn;simp[e,i,l,o,p,d,b.1,b.2,L.1,L.2,f1.1,f1.2];exact Z _ g2 ⟨_,X,a3,rfl,by simp[e,i,l,o,p,d,b.1,b.2],by simp[e,i,l,o,p,d,b.1,b.2],by simp[e,i,l,o,p,d,b.1,b.2],by simp[e,i,l,o,p,d,b.1,b.2],by simp[e,i,l,o,p,d,b.1,b.2],ap,by rw[c,DL];exact K⟩
       . have Cq:Lm f (aN (w++[(k:Int)]) k)=false:=by simpa using P
         have V:uH f w (lT f out fuel) k=[]:=wN P;rw[V,xx]at c;apply rn;simp[e,i,l,o,p,d,b.1,b.2,Cq,f1.1,f1.2];exact Z _ g2 ⟨_,z,a,rfl,by simp[e,i,l,o,p,d,b.1,b.2],by simp[e,i,l,o,p,d,b.1,b.2],by simp[e,i,l,o,p,d,b.1,b.2],by simp[e,i,l,o,p,d,b.1,b.2],by simp[e,i,l,o,p,d,b.1,b.2],ap,by rw[c];exact v⟩
     . have Y:k=cnt:=ac
       subst Y
       by_cases O:(k:Int)<=aJ w
       . have T:¬(k:Int)<f.bc:=ac
         simp[e,i,l,o,p,d,b.1,b.2,O,T];exact .dp q.W (.less q.1 (.done h))
       . simp[e,i,l,o,p,d,b.1,b.2,O]
         exact .dp q.W (.less q.1 (.done h))
def zs{f:Fr}(a:f.Good)(h:KF (.val (Cu (aG f []))) σ):ar prog m 131 [bR f] σ KF:=by
 have b:Wl [bR f,AV.lit (.slice none 0 0),AV.lit (.slice none 0 0)] [bR f,Ae [],Ae []]:=.cons (.refl _) (.cons (bK 1) (.cons (bK 1) .nil));refine S0 [] func131 ?_;simp[f131];refine bp func160 rfl rfl b (V8 a ap f.ao.length [] _ _ ap ap ?_);rw[rSq a];apply rn;simp;exact .done h
def E5(f:Fr):Int × Int:=if check f≠0 then(0,check f)else(((aG f []).length:Int),0)
def ab6{f:Fr}(b:f.Fits)(h:KF (.val (.cx [Xn (E5 f).1,Xn (E5 f).2])) σ):ar prog m 86 [bR f] σ KF:=by
 unfold E5 at h;refine S0 [] func86 ?_;simp[f86];refine O1 func82 (BA b ?_);apply rn;simp;refine aM.intro (λa=>?_) (λa=>?_)<;>simp at a<;>simp[a]
 . rw[wS a]at h
   exact .done h
 rw[wN (by simp[a])]at h;have c:=Fr.wA b a;have hlen:=sM c [];refine O1 func131 (zs c ?_);apply rn;simp;exact .done h
def eY{n lo hi:Int}(h:KF (.val (T0 (cz n lo hi))) σ):ar prog m 67 [Xn n,Xn lo,Xn hi] σ KF:=by
 unfold cz at h;refine S0 [] func67 ?_;simp;refine xj.intro (λa=>?_) (λa=>?_)<;>(try simp[-Int.not_le,-Nat.not_lt]at a)<;>(try simp[a]at h)<;>(try simp[a])<;>(try exact .done h)
def zt{l:RQ}{n:Int}(g:l.length<1152921504606846976)(h:KF (.val (T0 (decide (n∈l)))) σ):ar prog m 56 [Ae l,Xn n] σ KF:=by
 refine S0 [] func56 ?_;simp;refine aa.loop l.length (λk=>MY σ λε=>ε 0=Ae l/\ε 1=Xn n/\ε 5=Xn k/\n∉l.take k) ⟨_,rfl,ap⟩ ?_;rintro i k _ j ⟨ε,rfl,b,e,a,c⟩ o;rcases za k l.length with g1|g1
 . have f:(k:Int)<l.length:=ac
   have f1:=M1 ((k:Int)+1)
   apply rn;simp[b,e,a,g1];refine aM.intro (λd=>?_) (λd=>?_)<;>(try simp[-Nat.not_lt]at d)<;>(try simp[a])
   . have:n∈l:=am
     simp[this]at h;exact .done h
   simp_all [te]
 . have:k=l.length:=ac
   subst this;rw[zH]at c;apply rn;simp[b,a];simp[c]at h;exact .done h
def aiB{w:bF}{x:Way}(l:1<=w.aX/\w.aX<=4)(h:KF (.val (Xn (sD w.aX x))) σ):ar prog m 83 [aT w,fG x] σ KF:=by
 have f1:=M1 (w.aX-1)
 unfold sD at h;refine S0 [] func83 ?_;simp[f83,f1.1,f1.2];refine O1 func67 (eY ?_);cases f:cz x.a 0 (w.aX-1)<;>simp[f]at h<;>apply rn<;>simp[f1.1,f1.2]<;>try exact .done h
 refine O1 func67 (eY ?_);cases g:cz x.b 0 (w.aX-1)<;>cases c:x.a==x.b<;>have d:=c<;>simp at d<;>simp[g,d]at h<;>apply rn<;>simp[c]<;>try exact .done h
 refine O1 func67 (eY ?_);cases i:cz x.bJ 1 12<;>simp[i]at h<;>apply rn<;>simp<;>try exact .done h
 refine O1 func67 (eY ?_);cases j:cz x.bs 0 72<;>simp[j]at h<;>apply rn<;>simp<;>try exact .done h
 refine O1 func67 (eY ?_);cases k:cz x.fN 0 72<;>by_cases e:x.fN<x.bs<;>simp[k,e]at h<;>apply rn<;>simp[e]<;>exact .done h
def acR{w:bF}{c:Az}(n:1<=w.aX/\w.aX<=4)(i:(lone w.fair c.lost).Fits)(h:KF (.val (Xn (xQ w c))) σ):ar prog m 84 [aT w,cK c] σ KF:=by
 have f1:=M1 (w.aX-1)
 unfold xQ at h;refine S0 [] func84 ?_;simp[f84];refine bz.intro λd hd=>?_
 simp[aI];have j:Wl [.agg (.sl 6 [bn c.lost] .exact::zr w.fair)] [bR (lone w.fair c.lost)]:=.cons (tA (eo 6 _ .exact)) .nil;refine bp func82 rfl rfl j (BA i ?_);by_cases b:check (lone w.fair c.lost)=0
 . rw [wN (by simp[b])]at h
   unfold EG at h;rw[b];apply rn;simp[f1.1,f1.2];refine O1 func67 (eY ?_);by_cases f:cz c.town 0 (w.aX-1)=true
   . rw [wN (by simp[f])]at h
     apply rn;simp[f];refine O1 func67 (eY ?_);by_cases a:cz c.hour 0 72=true
     . rw[wN (by simp[a])]at h
       by_cases g:c.hour<c.lost.hour
       . rw[wS g]at h
         apply rn;simp[a,g];exact .less (af.bZ (af.le_refl _) hd) (.done h)
       . rw[wN g]at h
         apply rn;simp[a,g];exact .less (af.bZ (af.le_refl _) hd) (.done h)
     . rw[wS (by simpa using a)]at h
       apply rn;simp[a];exact .less (af.bZ (af.le_refl _) hd) (.done h)
   . rw[wS (by simpa using f)]at h
     apply rn;simp[f];exact .less (af.bZ (af.le_refl _) hd) (.done h)
 . rw[wS b]at h
   obtain⟨e,k⟩:=S1 (check (lone w.fair c.lost));rw[<-k]at h b ⊢;have l:(e !=0)=true:=am
   apply rn;simp[l];exact .less (af.bZ (af.le_refl _) hd) (.done h)
def ab5{w:bF}{h a b:Int}(hl:w.ways.length<1152921504606846976)(T:∀x∈w.ways,uv w.aX x)(U:0<=h/\h<=1048576)(V:KF (.val (Xn (ly (fj w.ways h a b)))) σ):ar prog m 148 [aT w,Xn a,Xn b,Xn h] σ KF:=by
 refine S0 [] func148 ?_
 simp[f148];refine aa.loop w.ways.length (λk=>MY σ λε=>ε 1=Xn a/\ε 2=Xn b/\ε 3=Xn h/\ε 4=.cp (aT w) 0/\ε 9=Xn (ly (fj (w.ways.take k) h a b))/\ε 10=Xn k) ⟨_,rfl,ap,ap,ap,ap,by simp[ly,fj],ap⟩ ?_
 rintro c1 k _ hk ⟨ε,rfl,g,i,j,t,n,er⟩ v
 refine aa.runN Ax [] 24 ?_;simp[t,er];refine aM.intro (λp=>?_) (λp=>?_)<;>(try simp[-Int.not_lt,-Int.not_le,-Nat.not_lt,-Nat.not_le]at p)<;>(try simp[t,n,er,p])
 . refine bz.intro λd hd=>?_
   simp
   change aa _ _ _ _ _ _ _ _ _
   refine aa.bj 11 (b:=d) (fG w.ways[k]) (af.aj _ _ _) ap rfl ?_
   rw[cy hd];obtain⟨⟨x1,x2⟩,⟨x3,x4⟩,⟨x5,x6⟩,⟨x7,x8⟩,x9,X⟩:=T _ (lb p);have N:=uw (l:=w.ways.take k) (h:=h) (a:=a) (b:=b) (λx Y=>(T x (P1 Y)).2.2.1) U.1
   have H:fj (w.ways.take (k+1)) h a b=AA h a b w.ways[k] (fj (w.ways.take k) h a b):=by unfold fj;rw[so p,ET];rfl
   obtain⟨F,O⟩:=S1 (js h w.ways[k]);have Z:0<=F/\F<=1048576:=by rw[O];unfold js;split<;>omega
   have e:(if h<w.ways[k].bs then w.ways[k].bs else h)=F:=by rw[O];rfl
   obtain⟨W,hW⟩:=S1 (fj (w.ways.take k) h a b);rw[<-hW]at N H n;have Q:F<=w.ways[k].fN -> -9223372036854775808<=F+w.ways[k].bJ/\F+w.ways[k].bJ<=9223372036854775807:=λq=>ac
   obtain⟨W1,f⟩:=S1 (fj (w.ways.take (k+1)) h a b);rw[<-f]at H;have y:¬(mz w.ways[k] a b/\F<=w.ways[k].fN)->ly W1=ly W:=λz=>by rw[H,aaE (by rw[<-O];exact z)]
   have K:mz w.ways[k] a b->F<=w.ways[k].fN->W1=if F+w.ways[k].bJ<W then F+w.ways[k].bJ else W:=λz1 z2=>by rw[H,Yo z1 (by rw[<-O];exact z2),<-O]
   have a7:0<=W/\W<=1048576:=N
   by_cases R:w.ways[k].a=a
   . have u : (w.ways[k].a==a)=true:=by simp[R]
     by_cases S:w.ways[k].b=b
     . have E:(w.ways[k].b==b)=true:=by simp[S]
       have P:mz w.ways[k] a b:=.inl ⟨R,S⟩
       by_cases o:F<=w.ways[k].fN
       . have G:=K P o
         have r:=Q o
         by_cases I:W<1048576
         . have B:ly W=W:=by unfold ly;rw[wS I]
           have J:¬W<0:=ac
           rw[B]at n
           by_cases C:F+w.ways[k].bJ<W
           . have c:ly W1=F+w.ways[k].bJ:=by rw[G,wS C];unfold ly;rw[wS ac]
             apply rn;simp[g,i,j,n,er,u,E,e,o,J,r.1,r.2,C];refine⟨ac,v _ p ⟨_,rfl,by simp[g],by simp[i],by simp[j],by simp[t],by rw[<-f,c];simp,ap⟩⟩
           . have c:ly W1=W:=by rw[G,wN C,B]
             apply rn;simp[g,i,j,n,er,u,E,e,o,J,r.1,r.2,C];refine⟨ac,v _ p ⟨_,rfl,by simp[g],by simp[i],by simp[j],by simp[t],by rw[<-f,c];simp[n],ap⟩⟩
         . have B:ly W=-1:=by unfold ly;rw[wN I]
           rw[B]at n;have c:ly W1=F+w.ways[k].bJ:=by rw[G,wS ac];unfold ly;rw[wS ac]
           apply rn;simp[g,i,j,n,er,u,E,e,o,r.1,r.2];refine⟨ac,v _ p ⟨_,rfl,by simp[g],by simp[i],by simp[j],by simp[t],by rw[<-f,c];simp,ap⟩⟩
       . have c:=y (λz=>o z.2)
         apply rn;simp[g,i,j,er,u,E,e,o];refine⟨ac,v _ p ⟨_,rfl,by simp[g],by simp[i],by simp[j],by simp[t],by rw[<-f,c];simp[n],ap⟩⟩
     . have E : (w.ways[k].b==b)=false:=by rw[beq_eq_false_iff_ne];exact S
       by_cases L:w.ways[k].a=b
       . have A : (w.ways[k].a==b)=true:=by simp[L]
         by_cases M:w.ways[k].b=a
         . have D:(w.ways[k].b==a)=true:=by simp[M]
           have P:mz w.ways[k] a b:=.inr ⟨L,M⟩
           by_cases o:F<=w.ways[k].fN
           . have G:=K P o
             have r:=Q o
             by_cases I:W<1048576
             . have B:ly W=W:=by unfold ly;rw[wS I]
               have J:¬W<0:=ac
               rw[B]at n
               by_cases C:F+w.ways[k].bJ<W
               . have c:ly W1=F+w.ways[k].bJ:=by rw[G,wS C];unfold ly;rw[wS ac]
                 apply rn;simp[g,i,j,n,er,u,E,D,A,e,o,J,r.1,r.2,C];refine⟨ac,v _ p ⟨_,rfl,by simp[g],by simp[i],by simp[j],by simp[t],by rw[<-f,c];simp,ap⟩⟩
               . have c:ly W1=W:=by rw[G,wN C,B]
                 apply rn;simp[g,i,j,n,er,u,E,D,A,e,o,J,r.1,r.2,C];refine⟨ac,v _ p ⟨_,rfl,by simp[g],by simp[i],by simp[j],by simp[t],by rw[<-f,c];simp[n],ap⟩⟩
             . have B:ly W=-1:=by unfold ly;rw[wN I]
               rw[B]at n;have c:ly W1=F+w.ways[k].bJ:=by rw[G,wS ac];unfold ly;rw[wS ac]
               apply rn;simp[g,i,j,n,er,u,E,D,A,e,o,r.1,r.2];refine⟨ac,v _ p ⟨_,rfl,by simp[g],by simp[i],by simp[j],by simp[t],by rw[<-f,c];simp,ap⟩⟩
           . have c:=y (λz=>o z.2)
             apply rn;simp[g,i,j,er,u,E,D,A,e,o];refine⟨ac,v _ p ⟨_,rfl,by simp[g],by simp[i],by simp[j],by simp[t],by rw[<-f,c];simp[n],ap⟩⟩
         . have D:(w.ways[k].b==a)=false:=by rw[beq_eq_false_iff_ne];exact M
           have c:=y (λz=>by unfold mz at z;omega)
           apply rn;simp[g,i,er,u,E,D,A];refine⟨ac,v _ p ⟨_,rfl,by simp[g],by simp[i],by simp[j],by simp[t],by rw[<-f,c];simp[n],ap⟩⟩
       . have A:(w.ways[k].a==b)=false:=by rw[beq_eq_false_iff_ne];exact L
         have c:=y (λz=>by unfold mz at z;omega)
         apply rn;simp[g,i,er,u,E,A];refine⟨ac,v _ p ⟨_,rfl,by simp[g],by simp[i],by simp[j],by simp[t],by rw[<-f,c];simp[n],ap⟩⟩
   . have u : (w.ways[k].a==a)=false:=by rw[beq_eq_false_iff_ne];exact R
     by_cases L:w.ways[k].a=b
     . have A : (w.ways[k].a==b)=true:=by simp[L]
       by_cases M:w.ways[k].b=a
       . have D:(w.ways[k].b==a)=true:=by simp[M]
         have P:mz w.ways[k] a b:=.inr ⟨L,M⟩
         by_cases o:F<=w.ways[k].fN
         . have G:=K P o
           have r:=Q o
           by_cases I:W<1048576
           . have B:ly W=W:=by unfold ly;rw[wS I]
             have J:¬W<0:=ac
             rw[B]at n
             by_cases C:F+w.ways[k].bJ<W
             . have c:ly W1=F+w.ways[k].bJ:=by rw[G,wS C];unfold ly;rw[wS ac]
               apply rn;simp[g,i,j,n,er,u,D,A,e,o,J,r.1,r.2,C];refine⟨ac,v _ p ⟨_,rfl,by simp[g],by simp[i],by simp[j],by simp[t],by rw[<-f,c];simp,ap⟩⟩
             . have c:ly W1=W:=by rw[G,wN C,B]
               apply rn;simp[g,i,j,n,er,u,D,A,e,o,J,r.1,r.2,C];refine⟨ac,v _ p ⟨_,rfl,by simp[g],by simp[i],by simp[j],by simp[t],by rw[<-f,c];simp[n],ap⟩⟩
           . have B:ly W=-1:=by unfold ly;rw[wN I]
             rw[B]at n;have c:ly W1=F+w.ways[k].bJ:=by rw[G,wS ac];unfold ly;rw[wS ac]
             apply rn;simp[g,i,j,n,er,u,D,A,e,o,r.1,r.2];refine⟨ac,v _ p ⟨_,rfl,by simp[g],by simp[i],by simp[j],by simp[t],by rw[<-f,c];simp,ap⟩⟩
         . have c:=y (λz=>o z.2)
           apply rn;simp[g,i,j,er,u,D,A,e,o];refine⟨ac,v _ p ⟨_,rfl,by simp[g],by simp[i],by simp[j],by simp[t],by rw[<-f,c];simp[n],ap⟩⟩
       . have D:(w.ways[k].b==a)=false:=by rw[beq_eq_false_iff_ne];exact M
         have c:=y (λz=>by unfold mz at z;omega)
         apply rn;simp[g,i,er,u,D,A];refine⟨ac,v _ p ⟨_,rfl,by simp[g],by simp[i],by simp[j],by simp[t],by rw[<-f,c];simp[n],ap⟩⟩
     . have A:(w.ways[k].a==b)=false:=by rw[beq_eq_false_iff_ne];exact L
       have c:=y (λz=>by unfold mz at z;omega)
       apply rn;simp[g,i,er,u,A];refine⟨ac,v _ p ⟨_,rfl,by simp[g],by simp[i],by simp[j],by simp[t],by rw[<-f,c];simp[n],ap⟩⟩
 . have ek:k=w.ways.length:=ac
   subst ek;rw[zH]at n;exact .done (by rw[zH];exact V)
end
open Go Go.bu Go.Conc
variable{m:Mo}{σ:af}{KF:YC}
def G6  w   r   d :mS w r (d+1)=mS w r d++if Bg w r d then[(r.1++[(d:Int)],fj w.ways r.2 (lastT r.1) d)]else[]:=by
 unfold mS
 grind [List.range_succ]
def BB{w n B}(a:∀r,(lu w n r).length<=B)  r :∀k,((mS w r k).flatMap (lu w n)).length<=k*B
 |0=>by simp[mS]
 | k+1=>by
   have:=BB a r k;rw[G6,Fe,zR,Nat.succ_mul]
   grind
def Aw{w}(a:w.aX<=4):∀n r,(lu w n r).length<=4 ^ n
 |0,r=>by unfold lu;grind
 | n+1,r=>by
   refine FL (BB (Aw a n) r w.aX.toNat) ?_;rw[Nat.pow_succ,Jw]
   simp_all [Nat.mul_le_mul_left]
def Lr{l}(h:l≠[]):l[l.length-1]?=some (lastT l):=by
 unfold lastT
 grind [List.getLast?_eq_some_getLast]
def CAt{w}(hl:w.ways.length<1152921504606846976)(hw:∀x∈w.ways,uv w.aX x)(ht:1<=w.aX/\w.aX<=4):∀  n  {r}{many:Nat}{σ KF},r.1.length+n=many->r.1≠[]->many<=4->(0<=r.2/\r.2<=1048576)->KF (.val (.sl 2 ((lu w n r).map lN) .any)) σ->ar prog m 122 [aT w,lN r,Xn many] σ KF:=by
 intro n
 induction n with
 | zero=>
   intro r many σ KF hm j D S h;have o:=Lr j;have E:0<r.1.length:=JC.2 j;have e:(r.1.length:Int)-1=((r.1.length-1:Nat):Int):=ac
   have f1:=M1 (((r.1.length-1:Nat):Int))
   have z1:r.1.length-1<r.1.length:=ac
   unfold lu at h;obtain⟨T,M⟩:=S1 (lastT r.1);rw[<-M]at o h;refine S0 Za func122 ?_
   simp[f122];refine⟨ac,ac,?_⟩
   simp[e,o];have O:((r.1.length:Int)==many)=true:=am
   by_cases q:T=0
   . rw[wS q]at h
     simp[O,q];exact .dp (eo 2 _ .exact) (.done h)
   . rw[wN q]at h
     have b2:(T==0)=false:=am
     simp[O,b2];exact .dp (bK 2) (.done h)
 | succ n U=>
   intro r many σ KF hm j D S h;have o:=Lr j;have E:0<r.1.length:=JC.2 j;have e:(r.1.length:Int)-1=((r.1.length-1:Nat):Int):=ac
   unfold lu at h;have y:=BB (w:=w) (Aw ht.2 n) r;have F:=Aw (w:=w) ht.2 n
   have V:4 ^ n<=64:=by
    have:n<=3:=ac
    exact FL (KQ ac this) be
   have z:=G6 w r;unfold Bg at z;obtain⟨T,M⟩:=S1 (lastT r.1);rw[<-M]at o;simp only[<-M]at z;refine S0 Za func122 ?_
   simp[f122];refine⟨ac,ac,?_⟩
   simp[e,o];have O:((r.1.length:Int)==many)=false:=am
   simp[O];obtain⟨N,hN⟩:∃N:Nat,w.aX=N:=⟨w.aX.toNat,ac⟩
   have a9:N<=4:=ac
   rw[show w.aX.toNat=N by omega]at h
   refine aa.loop N (λk s=>∃ε d,s=⟨ε,d,[],.no⟩/\ε 2=Xn many/\ε 3=.cp (aT w) 0/\ε 4=.cp (lN r) 0/\ε 7=Xn T/\ε 9=Xn k/\Tok σ d (ε 8) 2 (((mS w r k).flatMap (lu w n)).map lN)) ⟨_,_,rfl,ap,ap,ap,ap,ap,.nil σ 2⟩ ?_
   rintro c0 k _ hk ⟨ε,d,rfl,p,g,i,t,f,c⟩ X
   apply rn;simp[g,f];refine aM.intro (λY=>?_) (λY=>?_)<;>(try simp[-Int.not_lt,-Int.not_le,-Nat.not_lt,-Nat.not_le]at Y)<;>(try simp[g,i,t,f,Y])
   . have P:=z k
     have G:=uw (l:=w.ways) (h:=r.2) (a:=T) (b:=k) (λx hx=>(hw x hx).2.2.1) S.1
     have Z:=y k;have hlen:((mS w r k).flatMap (lu w n)).length<=4*64:=FL Z (Nat.mul_le_mul ac V)
     refine O1 func148 (ab5 hl hw S ?_);obtain⟨R,hR⟩:=S1 (fj w.ways r.2 T k);rw[<-hR]at P G ⊢
     by_cases q1:R<1048576
     . have A:ly R=R:=by unfold ly;omega
       rw[A];have z1:0<=R:=G.1;apply rn;simp[i,f,z1];refine O1 func56 (zt ac ?_)
       by_cases Q:(k:Int)∈r.1
       . have u:mS w r (k+1)=mS w r k:=by rw[P];simp[Q]
         apply rn;simp[f,Q];refine⟨ac,X _ ac ⟨_,_,rfl,by simp[p],by simp[g],by simp[i],by simp[t],ap,by rw[u];exact c⟩⟩
       . have u:mS w r (k+1)=mS w r k++[(r.1++[(k:Int)],R)]:=by rw[P];simp[q1,Q]
         apply rn;simp[p,g,i,f,Q];have h2:=F (r.1++[(k:Int)],R);have ab:r.1.length<=4:=ac
         apply sQ (I:=λε d=>ε 2=Xn many/\ε 3=.cp (aT w) 0/\ε 4=.cp (lN r) 0/\ε 7=Xn T/\ε 9=Xn k/\Tok σ d (ε 8) 2 (((mS w r (k+1)).flatMap (lu w n)).map lN))
         . intro B
           repeat' (first
                     |apply And.intro
                     | (refine aP Ax rfl rfl rfl bX rfl bX rfl nM be F2 (σ0:=d) (es:=[]) (xs:=r.1.map Xn) ⟨af.le_refl _,.inr (.inl rfl)⟩ (.inr ⟨_,by simp;rfl⟩) λa1 ad H=>?_
                        have J:=H.cells;apply pg;simp[J.1,J.2,p,g,i,t,f];refine aP Ax rfl rfl rfl bX rfl bX rfl nM be F2 (σ0:=d) (es:=r.1.map Xn) (xs:=[Xn k]) (by simpa using H) (.inr ⟨_,by simp;rfl⟩) λa2 al C=>?_
                        have v:=C.cells;have a7:a2.W (Ae (r.1++[(k:Int)])):=by have:=C.W;rw[show Ae (r.1++[(k:Int)])=.sl 1 (r.1.map Xn++[Xn k]) .any by simp];exact this
                        apply pg;simp[v.1,v.2,p,g,i,t,f,aI];refine bp func122 rfl rfl (.cons (.refl _) (.cons (tA a7) (.cons (.refl _) .nil))) (U (r:=(r.1++[(k:Int)],R)) F2 ap D (by dsimp only;omega) ?_)
                        apply pg;simp[v.1,v.2,p,g,i,t,f,aI];refine aP Ax rfl rfl rfl Y' rfl Y' rfl ac7 be (by simp only[zD,zR];omega) (σ0:=σ) (es:=((mS w r k).flatMap (lu w n)).map lN) (xs:=(lu w n (r.1++[(k:Int)],R)).map lN) (by simpa using c.up C.1) (.inr ⟨_,by simp;rfl⟩) λa3 a8 K=>?_
                        have L:=K.cells;apply pg;simp[L.1,L.2,p,g,i,t,f];exact B _ _ ⟨by simp[p],by simp[g],by simp[i],by simp[t],by simp[f],by rw[u,Fe,DL];simpa using K⟩))
         clear p g i t f c
         rintro ε a8 ⟨p,g,i,t,f,c⟩
         apply rn;simp[f];refine⟨ac,X _ ac ⟨_,_,rfl,by simp[p],by simp[g],by simp[i],by simp[t],ap,by simpa using c⟩⟩
     . have A:ly R=-1:=by unfold ly;omega
       have u:mS w r (k+1)=mS w r k:=by rw[P];simp[q1]
       rw[A];apply rn;simp[f];refine⟨ac,X _ ac ⟨_,_,rfl,by simp[p],by simp[g],by simp[i],by simp[t],ap,by rw[u];exact c⟩⟩
   . have ek:k=N:=ac
     subst ek;exact .dp c.W (.less c.1 (.done h))
