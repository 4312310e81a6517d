import Derived.Test.YtldmpfccgajobaaGreatDoorV24
set_option linter.all false
namespace Go.Proofs.YtldmpfccgajobaaGreatDoor
open Tryz (prog)
open Go.bG Go.Conc
set_option maxHeartbeats 1000000
set_option maxRecDepth 4000
variable{m:Mo}{σ:aa}{KF:eI->aa->Prop}
def km(g:Nat × Nat->Int)(all:Int)(o:Option (Nat × Nat)):Int × Int × Int:=
 match o with
 |some q=>if g q<all then((q.1:Int),(q.2:Int),g q)else(-1,-1,all)
 |none=>(-1,-1,all)
def ik(g:Nat × Nat->Int)(s:Int × Int × Int)(p:Nat × Nat):Int × Int × Int:=if g p<s.2.2 then((p.1:Int),(p.2:Int),g p)else s
theorem FC(g:Nat × Nat->Int)(all:Int)(o:Option (Nat × Nat))(p:Nat × Nat):ik g (km g all o) p=km g all (aU g o p):=by
 cases o with
 |none=>by_cases h:g p<all<;>simp[ik,km,aU,h]
 | some q=>
   unfold aU;by_cases c:g p<g q
   . simp only[c,if_true]
     by_cases a:g q<all
     . have b:g p<all:=by omega
       simp[km,ik,c,a,b]
     . by_cases b:g p<all
       . simp[km,ik,a,b]
       . simp[km,ik,a,b]
   . simp only[c,if_false]
     by_cases a:g q<all
     . simp[km,ik,c,a]
     . have b:¬g p<all:=by omega
       simp[km,ik,a,b]
theorem FD(g:Nat × Nat->Int)(all:Int)(l:List (Nat × Nat))(p:Nat × Nat):ik g (km g all (l.foldl (aU g) none)) p=km g all ((l++[p]).foldl (aU g) none):=by rw[FC,List.foldl_append];rfl
theorem KL{g:Nat × Nat->Int}{all:Int}{o:Option (Nat × Nat)}:(km g all o).1<0/\km g all o=(-1,-1,all)/\f9 g all o=[int 0,int 0,int 0,int 11]\/0<=(km g all o).1/\f9 g all o=[int (km g all o).1,int (km g all o).2.1,int (km g all o).2.2,int 0]:=by
 cases o with
 |none=>left;exact⟨show(-1:Int)<0 by omega,rfl,rfl⟩
 | some q=>
   by_cases h:g q<all
   . right;simp[km,f9,h]
   . left;simp[km,f9,h]
theorem I4{f:Fr}(J:f.Fits)(N:bY f false 0 0≠0->KF (.val (.cq [int 0,int 0,int 0,int (bY f false 0 0)])) σ)
 (O:bY f false 0 0=0->KF (.val (.cq (f9 (iF (au f [])) (au f []).length ((dq f.aq.length f.aq.length).foldl (aU (iF (au f []))) none)))) σ):ar prog m 38 [aA f] σ KF:=by
 refine fs [] 1 Tryz.func38 rfl rfl (by rfl) (by kernel_rfl) ?_
 simp[Tryz.f38];refine cf Tryz.func66 rfl (FA (asks:=false) J (λt=>?_) λt _ _=>?_)
 . have h:=N t
   rw[<-bne_iff_ne]at t;refine rn ?_;simp[t];exact .done h
 . have h:=O t
   obtain⟨P,V⟩:=AO t;have C:=Fr.mQ J P;have W:=C.sH;have hlen:=qp C [];have c:∀w∈au f [],w.length=f.aq.length:=λw v=>(I1 C v).1
   generalize au f []=L at *;obtain⟨g,x⟩:∃g,g=iF L:=⟨_,rfl⟩;rw[<-x]at h;obtain⟨all,e⟩:∃all,all=(L.length:Int):=⟨_,rfl⟩;rw[<-e]at h;refine rn ?_;simp;refine ab.loop f.aq.length (λi s=>∃env r,s=⟨env,σ,[],.no⟩/\r=km g all ((dq f.aq.length i).foldl (aU g) none)/\env 1=.cp (aA f) 0/\env 6=rows L/\env 8=int r.1/\env 9=int r.2.1/\env 10=int r.2.2/\env 11=int i) ⟨_,(-1,-1,all),rfl,by simp[dq,km,e]⟩ ?_
   rintro X i _ Y ⟨env,r,rfl,l,a,j,n,u,ir,lU⟩ Q
   rcases Nat.lt_or_ge i f.aq.length with g2|g2
   . have pP:(i:Int)<f.aq.length:=by omega
     have f1:-9223372036854775808<=(i:Int)+1/\(i:Int)+1<=9223372036854775807:=by omega
     refine rn ?_;simp[a,lU,pP,f1.1,f1.2];refine ab.loop (f.aq.length-(i+1)) (λd s=>∃env r,s=⟨env,σ,[],.no⟩/\r=km g all ((dq f.aq.length i++rh i d).foldl (aU g) none)/\env 1=.cp (aA f) 0/\env 6=rows L/\env 8=int r.1/\env 9=int r.2.1/\env 10=int r.2.2/\env 11=int i/\env 12=int ((i:Int)+1+d)) ⟨_,r,rfl,by rw[l];simp[rh],by simp[a],by simp[j],by simp[n],by simp[u],by simp[ir],by simp[lU],by simp⟩ ?_
     clear a j n u ir lU l r
     rintro Z d _ hd ⟨env,r,rfl,l,a,j,n,u,ir,lU,rP⟩ y
     rcases Nat.lt_or_ge d (f.aq.length-(i+1))with g3|g3
     . obtain⟨k,R⟩:∃k,k=i+1+d:=⟨_,rfl⟩
       have D:(i:Int)+1+d=(k:Int):=by omega
       rw[D]at rP;have pf:(k:Int)<f.aq.length:=by omega
       have z:-9223372036854775808<=(k:Int)+1/\(k:Int)+1<=9223372036854775807:=by omega
       obtain⟨q,K⟩:∃q,q=((L.filter (eF i k)).length:Int):=⟨_,rfl⟩;have S:=List.length_filter_le (eF (i:Int) k) L;have M:-9223372036854775808<=(L.length:Int)-q/\(L.length:Int)-q<=9223372036854775807:=by omega
       have E:g (i,k)=if q<(L.length:Int)-q then(L.length:Int)-q else q:=by rw[x];unfold iF;rw[<-K];split<;>omega
       have b:ik g r (i,k)=km g all ((dq f.aq.length i++rh i (d+1)).foldl (aU g) none):=by rw[l,FD,wZ,<-R,List.append_assoc]
       refine rn ?_;simp[a,j,lU,rP,pf];refine cf Tryz.func94 rfl (Mn (by omega) ⟨by omega,λw v=>by rw[c w v];omega⟩ ⟨by omega,λw v=>by rw[c w v];omega⟩ ?_)
       rw[<-K];refine rn ?_;simp[j,ir,M.1,M.2];rw[<-E]
       by_cases A:g (i,k)<r.2.2
       . have p:ik g r (i,k)=((i:Int),(k:Int),g (i,k)):=if_pos A
         rw[p]at b;simp[lU,rP,A,z.1,z.2];exact y _ g3 ⟨_,_,rfl,b,by simp[a],by simp[j],by simp,by simp,by simp,by simp[lU],by simp;omega⟩
       . have p:ik g r (i,k)=r:=if_neg A
         rw[p]at b;simp[rP,A,z.1,z.2];exact y _ g3 ⟨_,_,rfl,b,by simp[a],by simp[j],by simp[n],by simp[u],by simp[ir],by simp[lU],by simp;omega⟩
     . have F:d=f.aq.length-(i+1):=by omega
       have T:¬(i:Int)+1+d<f.aq.length:=by omega
       refine rn ?_;simp[a,lU,rP,T,f1.1,f1.2];refine Q _ g2 ⟨_,r,rfl,?_,by simp[a],by simp[j],by simp[n],by simp[u],by simp[ir],by simp⟩
       rw[l,sf,F]
   . have G:i=f.aq.length:=by omega
     subst G;refine rn ?_;simp[a,n,lU]
     rcases KL (g:=g) (all:=all) (o:=(dq f.aq.length f.aq.length).foldl (aU g) none)with⟨B,H,U⟩|⟨B,H⟩
     . rw[<-l]at B
       rw[U]at h;simp[B];exact .done h
     . rw[<-l]at B H
       rw[H]at h;have I:¬r.1<0:=by omega
       simp[n,u,ir,I];exact .done h
end Go.Proofs.YtldmpfccgajobaaGreatDoor
namespace Go.Proofs.YtldmpfccgajobaaGreatDoor
open Tryz (prog)
open Go.bG Go.Conc
set_option maxHeartbeats 1000000
set_option maxRecDepth 4000
def fD(n:Nat):Nat->Nat->List (List Int)
 |0,_=>[[]]
 |more+1,a=>(List.range' a (n-a)).flatMap λx:Nat=>(fD n more (x+1)).map λr=>(x:Int)::r
theorem AP(n:Nat):∀(more a:Nat) (out:List Int),kZ n more a out=(fD n more a).map λr=>out++r
 |0,a,out=>by simp[kZ,fD]
 | more+1,a,out=>by
   unfold kZ fD;rw[List.map_flatMap];refine lP λx _=>?_
   rw[AP n more (x+1),List.map_map];refine List.map_congr_left λr _=>?_
   simp
theorem I5(n more:Nat):kZ n more 0 []=fD n more 0:=by rw[AP];simp
theorem vk(f:Fr):er f=(List.range' 0 (f.aq.length+1)).findSome? λmany=>(fD f.aq.length many 0).find? (ij f):=by
 unfold er;congr 1;funext many;rw[rf,I5]
section
variable{f:Fr}{out:List Int}
def iH(f:Fr)(out:List Int)(i:Int):Int:=((jc (f.aq.take i.toNat) out).length:Int)
def eV(w:List Int):List Int:=w.filter λx=>decide (x≠-1)
theorem vl(l:List gL)(out:List Int):∀(d i:Nat),∃r,jc (l.take (i+d)) out=jc (l.take i) out++r
 |0,i=>⟨[],by simp⟩
 | d + 1,i=>by
   obtain⟨r,a⟩:=vl l out d i;rcases Nat.lt_or_ge (i+d) l.length with g|g
   . rw[show i+(d+1)=i+d+1 by omega,kc _ _ _ g,a]
     exact⟨_,List.append_assoc _ _ _⟩
   . have e:l.take (i+(d+1))=l.take (i+d):=by rw[List.take_of_length_le (by omega),List.take_of_length_le (by omega)]
     rw[e,a];exact⟨r,rfl⟩
theorem vm{i:Nat}(a:i<f.aq.length):iH f out ((i:Int)+1)=iH f out i+if(i:Int)∈out then 0 else 1:=by
 unfold iH;rw[show((i:Int)+1).toNat=i+1 by omega,Int.toNat_natCast,kc _ _ _ a,List.length_append];split<;>simp
theorem AQ{i j:Nat}(b:i<=j):iH f out i<=iH f out j:=by
 obtain⟨r,a⟩:=vl f.aq out (j-i) i;rw[show i+(j-i)=j by omega]at a;unfold iH;rw[Int.toNat_natCast,Int.toNat_natCast,a,List.length_append];omega
theorem Co{i j:Nat}(a:i<j)(b:i<f.aq.length)(c:(i:Int)∉out):iH f out i<iH f out j:=by
 have d:=vm (f:=f) (out:=out) b;rw[if_neg c]at d;have e:=AQ (f:=f) (out:=out) (i:=i+1) (j:=j) a;rw[show((i+1:Nat):Int)=(i:Int)+1 by omega]at e;omega
theorem yE:iH f out f.aq.length=((aY f out).aq.length:Int):=by unfold iH;rw[Int.toNat_natCast,List.take_of_length_le (Nat.le_refl _)];rfl
theorem KM{i:Nat}(a:i<f.aq.length)(c:(i:Int)∉out):aO (aY f out) (iH f out i)=aO f i:=by
 obtain⟨r,b⟩:=vl f.aq out (f.aq.length-(i+1)) (i+1);rw[show i+1+(f.aq.length-(i+1))=f.aq.length by omega,List.take_of_length_le (Nat.le_refl _),kc _ _ _ a,if_neg c]at b;unfold aO iH aY;simp only[Int.toNat_natCast];rw[b,List.getD_eq_getElem?_getD,List.getElem?_append_left (by simp),List.getElem?_append_right (by omega)];simp[List.getD_eq_getElem?_getD,a]
theorem AR(E:f.Good){l:List Int}(o:l≠[])(y:l.Pairwise (·<·))(u:∀n∈l,(0<=n/\n<f.aq.length)/\n∉out)(s:(l.map (iH f out)).Pairwise (·<·)):sI (aY f out) (l.map (iH f out))=sI f l:=by
 have z:=kX E out
 have J:∀n∈l,0<=iH f out n/\iH f out n<(aY f out).aq.length:=λn m=>by
  obtain⟨⟨L,M⟩,F⟩:=u n m;have e:((n.toNat:Nat):Int)=n:=by omega
  have:=Co (f:=f) (out:=out) (i:=n.toNat) (j:=f.aq.length) (by omega) (by omega) (by rw[e];exact F)
  rw[e,yE]at this;exact⟨by unfold iH;omega,this⟩
 have t:∀n∈l,aO (aY f out) (iH f out n)=aO f n:=λn m=>by
  obtain⟨⟨L,M⟩,F⟩:=u n m;have e:((n.toNat:Nat):Int)=n:=by omega
  have:=KM (f:=f) (out:=out) (i:=n.toNat) (by omega) (by rw[e];exact F)
  rw[e]at this;exact this
 have A:∀a∈l,∀b∈l,a≠b->iH f out a≠iH f out b:=λa c b hb p e=>by
  obtain⟨⟨P,Q⟩,N⟩:=u a c;obtain⟨⟨R,S⟩,O⟩:=u b hb;have G:((a.toNat:Nat):Int)=a:=by omega
  have H:((b.toNat:Nat):Int)=b:=by omega
  rcases Int.lt_or_le a b with q|q
  . have:=Co (f:=f) (out:=out) (i:=a.toNat) (j:=b.toNat) (by omega) (by omega) (by rw[G];exact N)
    rw[G,H]at this;omega
  . have:=Co (f:=f) (out:=out) (i:=b.toNat) (j:=a.toNat) (by omega) (by omega) (by rw[H];exact O)
    rw[G,H]at this;omega
 have B:∀{r:List Int},r.Pairwise (·<·)->r.Nodup:=λh=>h.imp λh=>by omega
 rw[yB z (by simpa using o) s (λn m=>by
  obtain⟨a,c,rfl⟩:=List.mem_map.1 m;exact J a c),yB E o y λn m=>(u n m).1,Bool.eq_iff_iff,decide_eq_true_eq,decide_eq_true_eq,
  Dq z (by simpa using o) (B s) (λn m=>by
  obtain⟨a,c,rfl⟩:=List.mem_map.1 m;exact J a c),Dq E o (B y) λn m=>(u n m).1]
 have d:∀a∈l,∀b∈l,(Fit (aY f out) (iH f out a) (iH f out b)↔Fit f a b):=λa c b hb=>by unfold Fit eN;rw[t a c,t b hb];exact Iff.rfl
 constructor
 . intro h
   refine⟨λa c b hb=>?_,?_,λa c b hb p=>?_⟩
   . have:=h.bk _ (List.mem_map.2 ⟨a,c,rfl⟩) _ (List.mem_map.2 ⟨b,hb,rfl⟩)
     rw[t a c,t b hb]at this;exact this
   . obtain⟨x,I⟩:=h.Nd
     refine⟨x,λj D=>?_⟩
     have:=I _ (List.mem_map.2 ⟨j,D,rfl⟩);rw[t j D]at this;exact this
   . have:=h.fit _ (List.mem_map.2 ⟨a,c,rfl⟩) _ (List.mem_map.2 ⟨b,hb,rfl⟩) (A a c b hb p)
     rw[d a c b hb,d b hb a c]at this;exact this
 . intro h
   refine⟨λa c b hb=>?_,?_,λa c b hb p=>?_⟩
   . obtain⟨v,g,rfl⟩:=List.mem_map.1 c
     obtain⟨w,k,rfl⟩:=List.mem_map.1 hb;rw[t v g,t w k];exact h.bk v g w k
   . obtain⟨x,I⟩:=h.Nd
     refine⟨x,λj D=>?_⟩
     obtain⟨K,C,rfl⟩:=List.mem_map.1 D;rw[t K C];exact I K C
   . obtain⟨v,g,rfl⟩:=List.mem_map.1 c
     obtain⟨w,k,rfl⟩:=List.mem_map.1 hb;rw[d v g w k,d w k v g];exact h.fit v g w k λe=>p (by rw[e])
structure mL(f:Fr)(out begun:List Int):Prop where
 at_:∀j:Nat,j<begun.length->((j:Int)∈out↔begun.getD j 0=-1)
 nn:∀x∈begun,-1<=x
theorem lT(w:List Int)(x:Int):eV (w++[x])=eV w++if x=-1 then[]else[x]:=by
 unfold eV;rw[List.filter_append];by_cases h:x=-1<;>simp[h]
theorem mL.snoc{w:List Int}{x:Int}(h:mL f out w)(c:-1<=x)(d:(w.length:Int)∈out↔x=-1):mL f out (w++[x]):=
 ⟨fun j b=>by
   rw[lQ];rw[List.length_append]at b;simp only[List.length_cons,List.length_nil]at b;rcases Nat.lt_or_ge j w.length with g|g
   . rw[if_pos g];exact h.at_ j g
   . have:j=w.length:=by omega
     subst this;rw[if_neg (by omega),if_pos rfl];exact d,λy a=>by
   rcases List.mem_append.1 a with a|a
   . exact h.nn y a
   . simp at a;subst a;exact c⟩
theorem mL.len{w:List Int}(h:mL f out w)(i:w.length<=f.aq.length):((eV w).length:Int)=iH f out w.length:=by
 have key:∀(k:Nat),k<=w.length->((eV (w.take k)).length:Int)=iH f out k:=by
  intro k;induction k with
  |zero=>intro _;simp[eV,iH,jc]
  | succ k c=>
    intro j;have a:k<w.length:=by omega
    have d:=c (by omega);have b:=h.at_ k a;have e:w.getD k 0=w[k]:=by simp[List.getD_eq_getElem?_getD,a]
    rw[e]at b;rw[List.take_succ_eq_append_getElem a,lT,List.length_append,show((k+1:Nat):Int)=(k:Int)+1 by omega,vm (by omega)];by_cases q:w[k]=-1
    . rw[if_pos q,if_pos (b.2 q)];simpa using d
    . rw[if_neg q,if_neg (λg=>q (b.1 g))];simp;omega
 have:=key w.length (Nat.le_refl _)
 rwa [List.take_length]at this
theorem mL.Mp{w:List Int}(h:mL f out w):bf (eV w)=bf w:=by
 have key:∀(l:List Int) (n:Int),0<=n->(∀x∈l,-1<=x)->(eV l).foldl (λn k=>max n (k+1)) n=l.foldl (λn k=>max n (k+1)) n:=by
  intro l;induction l with
  |nil=>intro n _ _;rfl
  | cons a l c=>
    intro n e d;have i:=d a (by simp);have b:∀x∈l,-1<=x:=λx g=>d x (by simp[g])
    by_cases q:a=-1
    . have:eV (a::l)=eV l:=by unfold eV;simp[q]
      rw[this,List.foldl_cons,c n e b,q,show max n (-1+1)=n by omega]
    . have:eV (a::l)=a::eV l:=by unfold eV;simp[q]
      rw[this,List.foldl_cons,List.foldl_cons];exact c _ (by omega) b
 exact key w 0 (Int.le_refl _) h.nn
theorem mL.Ln{w:List Int}{k:Int}(h:mL f out w)(m:w.length<=f.aq.length)(n:0<=k):bF (eV w) k=(bF w k).map (iH f out):=by
 have key:∀(d:Nat),d<=w.length->bF (eV (w.take d)) k=(bF (w.take d) k).map (iH f out):=by
  intro d
  induction d with
  |zero=>intro _;rfl
  | succ d e=>
    intro hd;have b:d<w.length:=by omega
    have g:mL f out (w.take d):=⟨λj i=>by
     rw[List.length_take]at i;have:=h.at_ j (by omega)
     rw[List.getD_eq_getElem?_getD,List.getElem?_take_of_lt (by omega),<-List.getD_eq_getElem?_getD];exact this,λx l=>h.nn x (List.mem_of_mem_take l)⟩
    have hlen:=g.len (by rw[List.length_take];omega)
    have c:(w.take d).length=d:=by rw[List.length_take];omega
    rw[List.take_succ_eq_append_getElem b,lT,dC,List.map_append,<-e (by omega)]
    by_cases q:w[d]=-1
    . rw[if_pos q,List.append_nil,if_neg (by omega)];simp
    . rw[if_neg q,dC]
      by_cases a:w[d]=k
      . rw[if_pos a,if_pos a,hlen,c];rfl
      . rw[if_neg a,if_neg a];rfl
 have:=key w.length (Nat.le_refl _)
 rwa [List.take_length]at this
theorem rk(l:f.Good):∀(fuel a:Nat) (w:List Int),w.length+fuel=f.aq.length->(eV w).length+a=(aY f out).aq.length->mL f out w->(cW f out fuel w).map eV=cW (aY f out) [] a (eV w)
 | 0,a,w,s,q,d=>by
   have:=d.len (by omega);rw[show w.length=f.aq.length by omega,yE]at this;have:a=0:=by omega
   subst this;simp[cW]
 | fuel+1,a,w,s,q,d=>by
   have hlen:=d.len (by omega);have m:=vm (f:=f) (out:=out) (i:=w.length) (by omega);have o:=AQ (f:=f) (out:=out) (i:=w.length+1) (j:=f.aq.length) (by omega);rw[yE,show((w.length+1:Nat):Int)=(w.length:Int)+1 by omega]at o;by_cases e:(w.length:Int)∈out
   . rw[cW,if_pos e,rk l fuel a (w++[-1]) (by simp;omega) (by rw[lT];simpa using q) (d.snoc (by omega) (by simp[e])),lT,if_pos rfl,List.append_nil]
   . rw [if_neg e]at m
     obtain⟨p,rfl⟩:∃p,a=p+1:=⟨a-1,by omega⟩;rw[cW,if_neg e,cW,if_neg (by simp),List.map_flatMap,d.Mp];refine lP λk _=>?_
     have b:mL f out (w++[(k:Int)]):=d.snoc (by omega) ⟨λg=>absurd g e,λg=>by omega⟩;have c:eV (w++[(k:Int)])=eV w++[(k:Int)]:=by rw[lT,if_neg (by omega)]
     have h:sI (aY f out) (bF (eV w++[(k:Int)]) k)=sI f (bF (w++[(k:Int)]) k):=by
      rw[<-c,b.Ln (by simp;omega) (by omega)];refine AR l (by rw[dC,if_pos rfl];simp) (o6 _ _) (λn t=>?_) ?_
      . obtain⟨u,r,v⟩:=ny t
        rw[List.length_append]at r;simp only[List.length_cons,List.length_nil]at r;refine⟨⟨u,by omega⟩,λg=>?_⟩;have:=(b.at_ n.toNat (by simp;omega)).1 (by rw[show((n.toNat:Nat):Int)=n by omega];exact g);omega
      . rw[<-b.Ln (by simp;omega) (by omega)]
        exact o6 _ _
     unfold kJ;rw[h];split
     . rw[rk l fuel p _ (by simp;omega) (by rw[c];simp;omega) b,c]
     . rfl
theorem Cp(a:f.Good)(out:List Int):decide (cW f out f.aq.length []≠[])=ij f out:=by
 have h:=rk (out:=out) a f.aq.length (aY f out).aq.length [] (by simp) (by simp[eV]) ⟨λj b=>by simp at b,λx c=>by simp at c⟩;have d:=vb (kX a out);have e:eV []=[]:=rfl;rw[e,d]at h;unfold ij;rw[<-h];simp
end
end Go.Proofs.YtldmpfccgajobaaGreatDoor
namespace Go.Proofs.YtldmpfccgajobaaGreatDoor
open Tryz (prog)
open Go.bG Go.Conc
set_option maxHeartbeats 1000000
set_option maxRecDepth 4000
variable{m:Mo}{σ:aa}{KF:eI->aa->Prop}
def mM(n more x:Nat):List (List Int):=(fD n more (x+1)).map λr=>(x:Int)::r
theorem pe(n more a:Nat):fD n (more+1) a=(List.range' a (n-a)).flatMap (mM n more):=rfl
theorem nZ(n:Nat):∀(more a:Nat),(fD n more a).length<=(n+1) ^ more
 |0,a=>by simp[fD]
 | more+1,a=>by
   rw[pe,Nat.pow_succ,Nat.mul_comm];refine Nat.le_trans (nY (B:=(n+1) ^ more) _ λk _=>?_) (Nat.mul_le_mul_right _ ?_)
   . unfold mM
     rw[List.length_map];exact nZ n more _
   . rw[List.length_range'];omega
theorem n7(n:Nat):∀(more a:Nat),∀r∈fD n more a,r.length=more
 |0,a,r,b=>by simp[fD]at b;subst b;rfl
 |more+1,a,r,b=>by rw[pe]at b;obtain⟨k,_,d⟩:=List.mem_flatMap.1 b;unfold mM at d;obtain⟨e,c,rfl⟩:=List.mem_map.1 d;simp[n7 n more _ e c]
theorem I6{n more:Nat}(b:n<=6)(a:more<=6):(n+1) ^ more<=117649:=Nat.le_trans (Nat.pow_le_pow_left (show n+1<=7 by omega) more) (sY a)
theorem FE{n:Nat}(Q:n<=6):∀(more b:Nat) (σ:aa) (KF:eI->aa->Prop),more<=6->b<=100->KF (.val (rows (fD n more b))) σ->ar prog m 89 [int b,int n,int more] σ KF:=by
 intro more
 induction more with
 | zero=>
   intro b σ KF V A h
   have X:(AV.sl 1 [.lit (.slice none 0 0)] .exact).W (rows (fD n 0 b)):=L4 rfl (by simp) (by simp[fD]) (λi a a' C S=>by
    match i with
    |0=>simp[fD]at C S;subst C;subst S;exact gl 1
    |i+1=>simp at C)
   refine fs [] 3 Tryz.func89 rfl rfl (by rfl) (by kernel_rfl) ?_
   simp[Tryz.f89];exact .jm X (.done h)
 | succ more D=>
   intro b σ KF V A h;have Y:(((more+1:Nat):Int)==0)=false:=by rw[beq_eq_false_iff_ne];omega
   have E:(((more:Int)+1)==0)=false:=by rw[beq_eq_false_iff_ne];omega
   have Z:((more+1:Nat):Int)-1=(more:Int):=by omega
   rw[pe]at h;refine fs [] 3 Tryz.func89 rfl rfl (by rfl) (by kernel_rfl) ?_
   simp[Tryz.f89,E];refine ab.loop (n-b) (λj s=>∃env d a,s=⟨env,d,[],.no⟩/\env 1=int n/\env 2=int ((more:Int)+1)/\env 7=a/\env 8=int ((b:Int)+j)/\Tok σ d a 1 (((List.range' b j).flatMap (mM n more)).map ints)) ⟨_,σ,.lit (.slice none 0 0),rfl,by simp,by simp,by simp,by simp,Tok.nil σ 1⟩ ?_
   rintro c0 j _ hj ⟨env,d,a,rfl,f,q,t,e,c⟩ ih
   have u:=c.cells
   rcases Nat.lt_or_ge j (n-b)with g1|g1
   . have a7:(b:Int)+j<n:=by omega
     have f1:-9223372036854775808<=(b:Int)+j+1/\(b:Int)+j+1<=9223372036854775807:=by omega
     have T:-9223372036854775808<=(more:Int)/\(more:Int)<=9223372036854775807:=by omega
     obtain⟨x,hx⟩:∃x,x=b+j:=⟨_,rfl⟩;have a8:(b:Int)+j+1=((x+1:Nat):Int):=by omega
     have F:(b:Int)+j=(x:Int):=by omega
     obtain⟨R,y⟩:∃R,R=fD n more (x+1):=⟨_,rfl⟩;have a9:R.length<=117649:=by rw[y];exact Nat.le_trans (nZ n more _) (I6 Q (by omega))
     have G:∀r∈R,r.length=more:=λr hr=>n7 n more _ r (by rw[<-y];exact hr)
     have l:(List.range' b (j+1)).flatMap (mM n more)=(List.range' b j).flatMap (mM n more)++R.map λr=>(x:Int)::r:=by rw[List.range'_concat,List.flatMap_append,y,Nat.one_mul,<-hx];simp[mM]
     have ad:((List.range' b j).flatMap (mM n more)).length<=j*117649:=by
      have:=nY (B:=117649) (g:=mM n more) (List.range' b j) λk _=>by unfold mM;rw[List.length_map];exact Nat.le_trans (nZ n more _) (I6 Q (by omega))
      rwa [List.length_range']at this
     have al:j*117649<=6*117649:=Nat.mul_le_mul_right _ (by omega)
     rw[F]at e;have z:-9223372036854775808<=(x:Int)+1/\(x:Int)+1<=9223372036854775807:=by omega
     have g2:(x:Int)<n:=by omega
     refine rn ?_;simp[f,q,e,g2,z.1,z.2,T.1,T.2];have H:(x:Int)+1=((x+1:Nat):Int):=by omega
     rw[H];refine cf Tryz.func89 rfl (D (x+1) _ _ (by omega) (by omega) ?_)
     rw[<-y];refine rn ?_;simp;refine ab.loop R.length (λk s=>∃env d a,s=⟨env,d,[],.no⟩/\env 1=int n/\env 2=int ((more:Int)+1)/\env 7=a/\env 8=int x/\env 9=rows R/\env 10=int k/\Tok σ d a 1 (((List.range' b j).flatMap (mM n more)++(R.take k).map λr=>(x:Int)::r).map ints)) ⟨_,d,a,rfl,by simp[f],by simp[q],by simp[t],by simp[e],by simp,by simp,by simpa using c⟩ ?_
     clear f q t e c u
     rintro c1 k _ hk ⟨env,v,a,rfl,f,q,t,e,I,ir,c⟩ J
     have u:=c.cells
     rcases Nat.lt_or_ge k R.length with g3|g3
     . have pf:(k:Int)<R.length:=by omega
       have U:-9223372036854775808<=(k:Int)+1/\(k:Int)+1<=9223372036854775807:=by omega
       have av:=G _ (List.getElem_mem g3);have K:((R.take k).map λr=>(x:Int)::r).length<=117649:=by rw[List.length_map,List.length_take];omega
       have L:(R.take (k+1)).map (λr=>(x:Int)::r)=(R.take k).map (λr=>(x:Int)::r)++[(x:Int)::R[k]]:=by rw[List.take_succ_eq_append_getElem g3,List.map_append];rfl
       refine rn ?_;simp[t,e,I,ir,g3,pf];refine aH lay rfl rfl rfl cr rfl cr rfl qa (by decide) (by simp;omega) (σ0:=v) (es:=[int x]) (xs:=R[k].map int) ⟨aa.le_refl _,.inr (.inl rfl)⟩ (.inr ⟨_,by simp;rfl⟩) λa1 ax o=>?_
       have ay:=o.cells;have M:a1.W (ints ((x:Int)::R[k])):=o.W;refine ab.Hk 39 (a':=ints ((x:Int)::R[k])) (by simpa using M) ?_
       have p:=c.up o.1;refine rn ?_;simp;refine aH lay rfl rfl rfl lJ rfl lJ rfl cr (by decide) (by simp only[List.length_map,List.length_append,List.length_singleton];simp only[List.length_map]at K;omega) (σ0:=σ) (es:=((List.range' b j).flatMap (mM n more)++(R.take k).map λr=>(x:Int)::r).map ints) (xs:=[ints ((x:Int)::R[k])]) (by simpa using p) (.inr ⟨_,by simp;rfl⟩) λa3 N w=>?_
       have b0:=w.cells;refine rn ?_;simp[ir,U.1,U.2];refine J _ g3 ⟨_,N,a3,rfl,by simp[f],by simp[q],by simp,by simp[e],by simp[I],by simp,?_⟩
       rw[L,<-List.append_assoc,List.map_append (l₂:=[(x:Int)::R[k]])];exact w
     . have O:k=R.length:=by omega
       subst O;rw[List.take_length]at c;refine rn ?_;simp[e,I,ir,z.1,z.2];refine ih _ g1 ⟨_,v,a,rfl,by simp[f],by simp[q],by simp[t],by simp;omega,?_⟩
       rw[l];exact c
   . have P:j=n-b:=by omega
     have n1:¬(b:Int)+j<n:=by omega
     rw[P]at c;refine rn ?_;simp[f,t,e,n1];exact .jm c.W (.less c.1 (.done h))
theorem FF{f:Fr}{w:List Int}(M:f.Fits)(R:check f≠0->KF (.val (.cq [ints [],int (check f)])) σ)(S:check f=0->er f=some w->KF (.val (.cq [ints w,int 0])) σ)(o:er f=some w):ar prog m 36 [aA f] σ KF:=by
 refine fs Qh 1 Tryz.func36 rfl rfl (by rfl) (by kernel_rfl) ?_
 simp[Tryz.f36];refine cf Tryz.func34 rfl (xe M ?_);refine rn ?_;simp;refine aB.intro (λp=>?_) (λp=>?_)<;>simp at p<;>simp[p]
 . exact .jm (I0 (b:=.bz)) (.done (R p))
 have h:=S p o;have z:=Fr.mQ M p;have C:=z.sH;obtain⟨n,N⟩:∃n,n=f.aq.length:=⟨_,rfl⟩;rw[vk,<-N]at o;rw[<-N]at C;have D:(f.aq.length:Int)=n:=by omega
 refine ab.loop (n+1) (λi s=>∃env,s=⟨env,σ,[],.no⟩/\env 1=.cp (aA f) 0/\env 5=int i/\∀u,u<i->(fD n u 0).find? (ij f)=none) ⟨_,rfl,by simp⟩ ?_
 rintro c0 i _ hi ⟨env,rfl,g,t,a⟩ T
 rcases Nat.lt_or_ge i (n+1)with g2|g2
 . have pP:(i:Int)<=n:=by omega
   have f1:-9223372036854775808<=(i:Int)+1/\(i:Int)+1<=9223372036854775807:=by omega
   obtain⟨P,v⟩:∃P,P=fD n i 0:=⟨_,rfl⟩;have U:P.length<=117649:=by rw[v];exact Nat.le_trans (nZ n i _) (I6 C (by omega))
   have E:∀r∈P,r.length=i:=λr c=>n7 n i _ r (by rw[<-v];exact c)
   refine rn ?_;simp[g,t,D,pP];refine cf Tryz.func89 rfl (FE C i 0 _ _ (by omega) (by omega) ?_)
   rw[<-v];refine rn ?_;simp;refine ab.loop P.length (λk s=>∃env,s=⟨env,σ,[],.no⟩/\env 1=.cp (aA f) 0/\env 5=int i/\env 6=rows P/\env 7=int k/\∀r∈P.take k,ij f r=false) ⟨_,rfl,by simp[g,t]⟩ ?_
   clear g t
   rintro c1 k _ hk ⟨env,rfl,g,t,A,B,d⟩ F
   rcases Nat.lt_or_ge k P.length with g3|g3
   . have pf:(k:Int)<P.length:=by omega
     have f2:-9223372036854775808<=(k:Int)+1/\(k:Int)+1<=9223372036854775807:=by omega
     have V:=E _ (List.getElem_mem g3);have y:=Cp z P[k];have G:=lS z P[k] f.aq.length [];have O:=Nat.le_trans G (sY (by omega))
     refine rn ?_;simp[g,A,B,g3,pf];have W:Wl [aA f,ints P[k],AV.lit (.slice none 0 0)] [aA f,ints P[k],ints []]:=.cons (.refl _) (.cons (.refl _) (.cons (gl 1) .nil));refine bi Tryz.func90 rfl rfl W (AN z (by omega) f.aq.length [] _ _ (by simp) (by simp) ?_)
     refine pg ?_;simp
     by_cases q:ij f P[k]=true
     . have Q:(0:Int)<(cW f P[k] f.aq.length []).length:=by
        rw[<-y,decide_eq_true_eq]at q;have:=List.length_pos_iff.2 q;omega
       have H:P.find? (ij f)=some P[k]:=by
        rw[List.find?_eq_some_iff_getElem]
        exact⟨q,k,g3,rfl,λj hj=>by
         have:P[j]∈P.take k:=List.mem_take_iff_getElem.2 ⟨j,by omega,rfl⟩
         simp[d _ this]⟩
       have I:w=P[k]:=by
        have X:(List.range' 0 (n+1)).findSome? (λmany=>(fD n many 0).find? (ij f))=some P[k]:=by
         rw[show n+1=i+(1+(n-i))by omega,<-List.range'_append_1,List.findSome?_append]
         have:(List.range' 0 i).findSome? (λmany=>(fD n many 0).find? (ij f))=none:=by rw[List.findSome?_eq_none_iff];intro x J;exact a x (by have:=List.mem_range'_1.1 J;omega)
         rw[this,Option.none_or,Nat.add_comm 1,List.range'_succ,List.findSome?_cons,Nat.zero_add,<-v,H]
        rw[X]at o;exact (Option.some.inj o).symm
       have l:0<(cW f P[k] f.aq.length []).length:=by omega
       rw[I]at h;refine rn ?_;simp[A,B,l,g3];exact .done h
     . have q:ij f P[k]=false:=by simpa using q
       have Y:cW f P[k] f.aq.length []=[]:=by rw[<-y,decide_eq_false_iff_not,Decidable.not_not]at q;exact q
       refine rn ?_;simp[B,Y];refine⟨by omega,F _ g3 ⟨_,rfl,by simp[g],by simp[t],by simp[A],by simp,λr c=>?_⟩⟩
       rw[List.take_succ_eq_append_getElem g3]at c
       rcases List.mem_append.1 c with c|c
       . exact d r c
       . simp at c;subst c;exact q
   . have K:k=P.length:=by omega
     subst K;rw[List.take_length]at d;refine rn ?_;simp[t,A,B];refine⟨by omega,T _ g2 ⟨_,rfl,by simp[g],by simp,λu Z=>?_⟩⟩
     by_cases e:u=i
     . rw[e,<-v,List.find?_eq_none]
       intro r c;simp[d r c]
     . exact a u (by omega)
 . have L:i=n+1:=by omega
   exfalso
   rw[L]at a
   have:(List.range' 0 (n+1)).findSome? (λmany=>(fD n many 0).find? (ij f))=none:=by rw[List.findSome?_eq_none_iff];intro x J;exact a x (by have:=List.mem_range'_1.1 J;omega)
   rw[this]at o;cases o
def jC(f:Fr)(l:List Int):Int:=if cD f l≠0 then cD f l else if au f []=[]then 11 else 0
theorem Cq(j:m.solo=true){f:Fr}{l:List Int}{sp:bV}(g:f.Fits)(b:l.length<1152921504606846976)(hb:jC f l≠0)(h:∀σ',σ.Le σ'->KF (.val (.cq [.lit (.pointer none),int (jC f l)])) σ'):ar prog m 62 [aA f,.sl 1 (l.map int) sp] σ KF:=by
 by_cases a:cD f l=0
 . have i:check f=0:=by
    unfold cD at a;split at a
    . next q=>exact absurd a q
    next q=>simpa using q
   have k:∀n∈l,0<=n/\n<f.aq.length:=by
    unfold cD at a;rw[if_neg (by simp[i])]at a
    split at a
    . next q=>intro n o;have:=nA.1 (List.all_eq_true.1 q n o);omega
    . cases a
   have e:jC f l=if au f []=[]then 11 else 0:=by unfold jC;rw[if_neg (by simp[a])]
   by_cases c:au f []=[]
   . rw[if_pos c]at e
     rw[e]at h;exact Ar j g i k b c h
   . rw[if_neg c]at e
     exact absurd e hb
 . have e:jC f l=cD f l:=by unfold jC;rw[if_pos a]
   rw[e]at h;have d:(cD f l==0)=false:=by simpa using a
   refine fs [] 2 Tryz.func62 rfl rfl (by rfl) (by kernel_rfl) ?_
   simp[Tryz.f62];have p:Wl [AV.agg (eS f),.sl 1 (l.map int) sp] [aA f,ints l]:=.cons (.refl _) (.cons (fC 1 _ sp) .nil);refine bi Tryz.func59 rfl rfl p (qf g b (λq=>?_) λq=>absurd q a)
   refine rn ?_;simp[d];exact .done (h σ (aa.le_refl _))
theorem sx(f:Fr):bY f false 0 0=jC f []:=by
 unfold bY jC cD;by_cases a:check f=0<;>simp[a]
theorem FG(g:m.solo=true){f:Fr}{w:List Int}(d:f.Fits)(i:check f≠0->KF (.val (.cq [ints [],int (check f)])) σ)(j:check f=0->er f=some w->KF (.val (.cq [ints w,int 0])) σ)(e:er f=some w):ar prog m 35 [aA f] σ KF:=by
 by_cases a:check f=0
 . exact As g d a e (j a e)
 . have h:=i a
   have c:(check f !=0)=true:=by simpa using a
   refine fs [] 1 Tryz.func35 rfl rfl (by rfl) (by kernel_rfl) ?_;simp[Tryz.f35];refine cf Tryz.func33 rfl (uM d ?_);refine rn ?_;simp[c];exact .jm (I0 (b:=.bz)) (.done h)
theorem I7(c:m.solo=true){f:Fr}(d:f.Fits)(e:bY f false 0 0≠0->KF (.val (.cq [int 0,int 0,int 0,int (bY f false 0 0)])) σ)
 (g:bY f false 0 0=0->KF (.val (.cq (f9 (iF (au f [])) (au f []).length ((dq f.aq.length f.aq.length).foldl (aU (iF (au f []))) none)))) σ):ar prog m 37 [aA f] σ KF:=by
 by_cases hb:bY f false 0 0=0
 . obtain⟨i,j⟩:=AO hb
   exact KK c d i j (g hb)
 . have h:=e hb
   rw[sx]at h;rw[sx]at hb;have a:(jC f []!=0)=true:=by simpa using hb
   refine fs OE 1 Tryz.func37 rfl rfl (by rfl) (by kernel_rfl) ?_;simp[Tryz.f37];have k:Wl [aA f,AV.lit (.slice none 0 0)] [aA f,.sl 1 (([]:List Int).map int) .any]:=.cons (.refl _) (.cons (gl 1) .nil);refine bi Tryz.func62 rfl rfl k (Cq (l:=[]) (sp:=.any) c d (by simp) hb λn b=>?_);refine rn ?_;simp[a];exact .less b (.done h)
end Go.Proofs.YtldmpfccgajobaaGreatDoor
namespace Go.Proofs.YtldmpfccgajobaaGreatDoor
open Tryz (prog)
open Go.bG Go.Conc
set_option maxHeartbeats 2000000
set_option maxRecDepth 4000
variable{m:Mo}{σ:aa}{KF:eI->aa->Prop}
theorem vU{r:List (List Int)}(j:r.length<1152921504606846976)(e:∀l∈r,l.length<1152921504606846976)(h:KF (.val (bool true)) σ):ar prog m 68 [rows r,rows r] σ KF:=by
 refine fs Qk 2 Tryz.func68 rfl rfl (by rfl) (by kernel_rfl) ?_;simp[Tryz.f68];refine ab.loop r.length (λi s=>∃env,s=⟨env,σ,[],.no⟩/\env 0=rows r/\env 1=rows r/\env 5=int i) ⟨_,rfl,by simp⟩ ?_;rintro k i _ n ⟨env,rfl,a,b,c⟩ f;rcases Nat.lt_or_ge i r.length with g1|g1
 . have d:(i:Int)<r.length:=by omega
   have f1:-9223372036854775808<=(i:Int)+1/\(i:Int)+1<=9223372036854775807:=by omega
   refine rn ?_;simp[a,b,c,g1,d];refine cf Tryz.func21 rfl (gF (e _ (List.getElem_mem g1)) (e _ (List.getElem_mem g1)) ?_);refine pg ?_;simp;refine rn ?_;simp[c,f1.1,f1.2];exact f _ g1 ⟨_,rfl,by simp[a,b]⟩
 . have g:¬(i:Int)<r.length:=by omega
   refine rn ?_;simp[a,b,c,g];exact .done h
theorem rl{e:gL}(a:e.marks.length<1152921504606846976)(h:KF (.val (bool true)) σ):ar prog m 47 [bd e,bd e] σ KF:=by
 refine fs [] 2 Tryz.func47 rfl rfl (by rfl) (by kernel_rfl) ?_;simp[Tryz.f47];refine cf Tryz.func21 rfl (gF a a ?_);refine rn ?_;simp;exact .done h
theorem vn{f:Fr}(e:f.Fits)(h:KF (.val (bool true)) σ):ar prog m 22 [aA f,aA f] σ KF:=by
 have n:=e.aq;refine fs Qf 2 Tryz.func22 rfl rfl (by rfl) (by kernel_rfl) ?_;simp[Tryz.f22];refine cf Tryz.func68 rfl (vU e.roads e.row ?_);refine rn ?_;simp;refine Eo lay O8 qa rfl (a:=f.bh) (b:=f.gE) (c:=f.bh) (d:=f.gE) (r:=false) rfl (by simp) (by simp) (.inr ⟨rfl,by simp⟩) ?_;refine rn ?_;simp;refine ab.loop f.aq.length (λi s=>∃env,s=⟨env,σ,[],.no⟩/\env 2=.cp (aA f) 0/\env 3=.cp (aA f) 0/\env 5=int i) ⟨_,rfl,by simp⟩ ?_;rintro q i _ t ⟨env,rfl,g,l,j⟩ o;rcases Nat.lt_or_ge i f.aq.length with g1|g1
 . have k:(i:Int)<f.aq.length:=by omega
   have f1:-9223372036854775808<=(i:Int)+1/\(i:Int)+1<=9223372036854775807:=by omega
   refine rn ?_;simp[g,l,j,g1,k];refine cf Tryz.func47 rfl (rl (e.marks _ (List.getElem_mem g1)) ?_);refine pg ?_;simp;refine rn ?_;simp[j,f1.1,f1.2];exact o _ g1 ⟨_,rfl,by simp[g,l]⟩
 . have p:¬(i:Int)<f.aq.length:=by omega
   refine rn ?_;simp[g,j,p];exact .done h
namespace WI
abbrev QA:List Entry:=[⟨1,.take [1,4,7] false (.both 0 (.both 2 (.both 3 (.one 5 (.one 6 (.one 8 (.done)))) (.one 5 (.one 3 (.one 6 (.one 8 (.done)))))) (.one 5 (.one 2 (.one 3 (.one 6 (.one 8 (.done))))))) (.both 2 (.both 0 (.both 3 (.one 5 (.one 6 (.one 8 (.done)))) (.one 5 (.one 3 (.one 6 (.one 8 (.done)))))) (.one 5 (.one 0 (.one 3 (.one 6 (.one 8 (.done))))))) (.one 5 (.both 0 (.one 2 (.one 3 (.one 6 (.one 8 (.done))))) (.one 2 (.one 0 (.one 3 (.one 6 (.one 8 (.done))))))))))⟩]
theorem KN{f:Fr}{n:gL}(O:f.aq.length<=1000)(h:KF (.val (aA (qt f n))) σ):ar prog m 57 [aA f,bd n] σ KF:=by
 refine ar.start lay [2] QA 2 Tryz.func57 rfl rfl (by rfl) (by kernel_rfl) ?_
 simp[Tryz.f57];refine cZ.intro λp E=>?_
 simp;refine cZ.intro λw z=>?_
 obtain⟨F,A,z⟩:=aa.aL z;simp[A,aa.aj];generalize j:(σ.set p (.cells (eS f))).set w (.cells [AV.lit (.slice none 0 0),.lit (.slice none 0 0),int 0,int 0,int 0,int 0])=q;have B:q p=some (.cells (eS f)):=by subst j;simp[aa.aj,aa.an,A]
 have G:q w=some (.cells [AV.lit (.slice none 0 0),.lit (.slice none 0 0),int 0,int 0,int 0,int 0]):=by subst j;simp[aa.an]
 apply AH (I:=λenv r=>∃o c,env 2=.ref p 0/\env 4=.ref w 0/\r=c.set p (.cells [o,rows f.roads,int f.bh,int f.gE,int f.cS,int f.most])/\Tok q c o 6 (f.aq.map bd++[bd n]))
 . intro k
   repeat' (first
             |apply And.intro
             | (refine aH lay rfl rfl rfl my rfl my rfl vL (by decide) (by simp;omega) (σ0:=q) (es:=[]) (xs:=f.aq.map bd) ⟨aa.le_refl _,.inr (.inl rfl)⟩ (.inr ⟨_,by simp;rfl⟩) λP H l=>?_
                have s:=l.cells;have J:=l.1 _ _ B;refine pg ?_;simp[s.1,s.2,J];refine aH lay rfl rfl rfl my rfl my rfl vL (by decide) (by simp;omega) (σ0:=q) (es:=f.aq.map bd) (xs:=[bd n]) (by simpa using l) (.inr ⟨_,by simp;rfl⟩) λo c a=>?_
                have g:=a.cells;have K:=a.1 _ _ B;refine pg ?_;simp[g.1,g.2,K,aJ];exact k _ _ ⟨o,c,by simp,by simp,rfl,by simpa using a⟩))
 rintro env r ⟨o,c,L,M,rfl,a⟩
 have g:=a.cells;have N:=a.1 _ _ G;refine ab.run lay [2] ?_;simp[L,M,g.2,N,aa.aj,F,aJ];refine .jm (a':=aA (qt f n)) (ns rfl λi u v b d=>?_) (.less (λy x t=>?_) (.done h))
 . match i with
   |0=>obtain rfl:=Option.some.inj b;obtain rfl:=Option.some.inj d;have:=a.W;show o.W (.sl 6 ((f.aq++[n]).map bd) .any);rw[List.map_append];exact this
   |1=>simp at b d;subst b;subst d;exact .refl _
   |2=>simp at b d;subst b;subst d;exact .refl _
   |3=>simp at b d;subst b;subst d;exact .refl _
   |4=>simp at b d;subst b;subst d;exact .refl _
   |5=>simp at b d;subst b;subst d;exact .refl _
   |i+6=>simp at b
 . have C:y≠p:=λe=>by subst e;rw[E]at t;cases t
   have D:y≠w:=λe=>by subst e;rw[z]at t;cases t
   rw[aa.aj _ _ D,aa.aj _ _ C];refine a.1 _ _ ?_;rw[<-j,aa.aj _ _ D,aa.aj _ _ C];exact t
end WI
end Go.Proofs.YtldmpfccgajobaaGreatDoor
namespace Go.Proofs.YtldmpfccgajobaaGreatDoor
open Tryz (prog)
open Go.bG Go.Conc
set_option maxHeartbeats 1000000
set_option maxRecDepth 4000
variable{m:Mo}{σ:aa}{KF:eI->aa->Prop}
structure Small(f:Fr):Prop where
 aq:f.aq.length<=21
 roads:f.roads.length<=20
 marks:∀e∈f.aq,e.marks.length<=20
 row:∀r∈f.roads,r.length<=20
theorem Small.fits{f:Fr}(h:Small f):f.Fits:=⟨by have:=h.aq;omega,by have:=h.roads;omega,λr a=>by have:=h.row r a;omega,λe b=>by have:=h.marks e b;omega⟩
theorem Cr{f:Fr}(a:f.Good)(b:∀e∈f.aq,e.marks.length<=20):Small f/\f.aq.length<=6:=by
 have g:f.roads.length<=3:=by
  have h:=a.Jd;unfold dQ at h;split at h
  . cases h
  split at h
  . cases h
  . omega
 refine⟨⟨by have:=a.sH;omega,by omega,b,λr c=>?_⟩,a.sH⟩;obtain⟨i,d,rfl⟩:=List.mem_iff_getElem.1 c;have:=(a.row d).1;omega
theorem KO{f:Fr}(g:f.Fits)(h:∀v,(v=false->Small f/\f.aq.length<=20)->KF (.val (bool v)) σ):ar prog m 10 [aA f] σ KF:=by
 have w:=g.roads;have q:=g.aq;have j:=h true (λe=>by cases e);refine fs [] 1 Tryz.func10 rfl rfl (by rfl) (by kernel_rfl) ?_;simp[Tryz.f10];by_cases o:(20:Int)<f.aq.length
 . simp[o]
   exact .done j
 . simp [o]
   by_cases p:(20:Int)<f.roads.length
   . simp[p]
     exact .done j
   . simp [p]
     refine ab.loop f.aq.length (λi s=>∃env,s=⟨env,σ,[],.no⟩/\env 1=.cp (aA f) 0/\env 3=int i/\∀e∈f.aq.take i,e.marks.length<=20) ⟨_,rfl,by simp⟩ ?_;rintro x i _ t ⟨env,rfl,b,k,c⟩ l;rcases Nat.lt_or_ge i f.aq.length with g3|g3
     . have pf:(i:Int)<f.aq.length:=by omega
       have u:=g.marks _ (List.getElem_mem g3);have f1:-9223372036854775808<=(i:Int)+1/\(i:Int)+1<=9223372036854775807:=by omega
       by_cases d:(20:Int)<f.aq[i].marks.length
       . refine rn ?_
         simp[b,k,g3,pf,d];exact .done j
       . refine rn ?_
         simp[b,k,g3,pf,d];refine⟨by omega,l _ g3 ⟨_,rfl,by simp[b],by simp,λe he=>?_⟩⟩;rw[List.take_succ_eq_append_getElem g3]at he;rcases List.mem_append.1 he with he|he
         . exact c e he
         . simp at he;subst he;omega
     . have:i=f.aq.length:=by omega
       subst this;rw[List.take_length]at c;refine rn ?_;simp[b,k];refine ab.loop f.roads.length (λi s=>∃env,s=⟨env,σ,[],.no⟩/\env 1=.cp (aA f) 0/\env 4=int i/\∀r∈f.roads.take i,r.length<=20) ⟨_,rfl,by simp[b]⟩ ?_;clear b k l;rintro y i _ t ⟨env,rfl,b,n,a⟩ l;rcases Nat.lt_or_ge i f.roads.length with g3|g3
       . have pf:(i:Int)<f.roads.length:=by omega
         have f1:-9223372036854775808<=(i:Int)+1/\(i:Int)+1<=9223372036854775807:=by omega
         have u:=g.row _ (List.getElem_mem g3);by_cases d:(20:Int)<f.roads[i].length
         . refine rn ?_
           simp[b,n,g3,pf,d];exact .done j
         . refine rn ?_
           simp[b,n,g3,pf,d];refine⟨by omega,l _ g3 ⟨_,rfl,by simp[b],by simp,λe he=>?_⟩⟩;rw[List.take_succ_eq_append_getElem g3]at he;rcases List.mem_append.1 he with he|he
           . exact a e he
           . simp at he;subst he;omega
       . have:i=f.roads.length:=by omega
         subst this;rw[List.take_length]at a;refine rn ?_;simp[b,n];exact .done (h false λ_=>⟨⟨by omega,by omega,c,a⟩,by omega⟩)
section
variable{c k:Nat}{nums:List Int}
abbrev Cs(L:List Fr):AV:=.sl 6 (L.map aA) .any
theorem yC.small{cnt:Int}{f:Fr}{a:List Int}(h:yC cnt f a):Small f/\f.aq.length<=6:=Cr h.mQ λe b=>by have:=h.marks e b;omega
theorem Ct{f:Fr}(h:kY 5 f):Small f:=by
 have d:=h.cN;have g:=h.len;obtain⟨i,_,a⟩:=h.Jd;refine⟨by omega,by omega,λe b=>?_,λr c=>?_⟩
 . have:=(iE (h.vr e b).marks).2
   omega
 . have:=a.row r c
   omega
theorem Cu{f:Fr}{n:gL}(t:k+2000<1000000)(r:nums.length<1152921504606846976)(hb:bJ c nums k σ)(u:σ c≠none)(h:∀(f1 seen:Fr) σ',kY 5 f1->seen.Good->Small seen->seen.aq.length<=5->nv c nums (k+1500) σ σ'->KF (.val (Cs [f,f1,seen,qt seen n])) σ'):ar prog m 12 [aA f,bd n,.ref c 0] σ KF:=by
 refine fs Qc 3 Tryz.func12 rfl rfl (by rfl) (by kernel_rfl) ?_;simp[Tryz.f12];refine cf Tryz.func55 rfl (Fy (by omega) r ⟨by omega,by omega⟩ hb λseen v a j hd=>?_);refine ab.runN lay [] 6 ?_;simp;refine cZ.intro λd l=>?_
 simp;refine ab.cV 7 (b:=d) (aA seen) (by simp) (by simp) rfl ?_
 have o:(a.set d (.cells (eS seen))).del d=a:=by
  funext y;by_cases e:y=d
  . subst e;simp[aa.del,l]
  . simp[aa.del,e,aa.aj]
 rw[o];have g:=j.small;refine rn ?_;simp;refine cf Tryz.func56 rfl (Fq (by omega) r ⟨by omega,by omega⟩ hd.1 λf1 p q i=>?_);refine pg ?_;simp;refine cf Tryz.func57 rfl (WI.KN (by have:=g.2;omega) ?_);refine pg ?_;simp;refine rn ?_;simp;refine .jm (a':=Cs [f,f1,seen,qt seen n]) (fC 6 ([f,f1,seen,qt seen n].map aA) .exact) (.done (h f1 seen p q j.mQ g.1 (by have:=j.len;omega) ⟨?_,λy s=>?_⟩))
 . exact i.1.mono (by simp)
 . rw[i.2 y s,hd.2 y s]
end
end Go.Proofs.YtldmpfccgajobaaGreatDoor
namespace Go.Proofs.YtldmpfccgajobaaGreatDoor
open Tryz (prog)
open Go.bG Go.Conc
set_option maxHeartbeats 2000000
set_option maxRecDepth 4000
variable{m:Mo}{σ:aa}{KF:eI->aa->Prop}
def lc(f:Fr):List Int × Int:=if check f≠0 then([],check f)else((er f).getD [],0)
theorem qx{f:Fr}{w:List Int}(a:er f=some w)(h:KF (.val (.cq [ints (lc f).1,int (lc f).2])) σ):(check f≠0->KF (.val (.cq [ints [],int (check f)])) σ)/\(check f=0->er f=some w->KF (.val (.cq [ints w,int 0])) σ):=by
 unfold lc at h;refine⟨λq=>?_,λq a=>?_⟩
 . rw[if_pos q]at h;exact h
 . rw[if_neg (by simp[q]),a]at h;exact h
theorem KP(b:m.solo=true){f:Fr}(c:f.Fits)(h:KF (.val (.cq [ints (lc f).1,int (lc f).2])) σ):ar prog m 35 [aA f] σ KF:=by obtain⟨w,a⟩:=o0 f;exact FG b c (qx a h).1 (qx a h).2 a
theorem I8{f:Fr}(b:f.Fits)(h:KF (.val (.cq [ints (lc f).1,int (lc f).2])) σ):ar prog m 36 [aA f] σ KF:=by obtain⟨w,a⟩:=o0 f;exact FF b (qx a h).1 (qx a h).2 a
def xg(g:Nat × Nat->Int)(all:Int):Option (Nat × Nat)->Int × Int × Int × Int
 |none=>(0,0,0,11)
 |some q=>if g q<all then((q.1:Int),(q.2:Int),g q,0)else(0,0,0,11)
theorem FH(g:Nat × Nat->Int)(all:Int)(o:Option (Nat × Nat)):f9 g all o=[int (xg g all o).1,int (xg g all o).2.1,int (xg g all o).2.2.1,int (xg g all o).2.2.2]:=by
 cases o with
 |none=>rfl
 |some q=>by_cases h:g q<all<;>simp[f9,xg,h]
def xh(f:Fr):Int × Int × Int × Int:=if bY f false 0 0≠0 then(0,0,0,bY f false 0 0)else xg (iF (au f [])) (au f []).length ((dq f.aq.length f.aq.length).foldl (aU (iF (au f []))) none)
abbrev xi(f:Fr):AV:=.cq [int (xh f).1,int (xh f).2.1,int (xh f).2.2.1,int (xh f).2.2.2]
theorem sZ{f:Fr}(h:KF (.val (xi f)) σ):(bY f false 0 0≠0->KF (.val (.cq [int 0,int 0,int 0,int (bY f false 0 0)])) σ)/\(bY f false 0 0=0->KF (.val (.cq (f9 (iF (au f [])) (au f []).length ((dq f.aq.length f.aq.length).foldl (aU (iF (au f []))) none)))) σ):=by
 unfold xi xh at h;refine⟨λq=>?_,λq=>?_⟩
 . rw[if_pos q]at h;exact h
 . rw[if_neg (by simp[q])]at h
   rw[FH];exact h
theorem Mq(a:m.solo=true){f:Fr}(b:f.Fits)(h:KF (.val (xi f)) σ):ar prog m 37 [aA f] σ KF:=I7 a b (sZ h).1 (sZ h).2
theorem KQ{f:Fr}(a:f.Fits)(h:KF (.val (xi f)) σ):ar prog m 38 [aA f] σ KF:=I4 a (sZ h).1 (sZ h).2
theorem AS{f:Fr}(b:f.Fits):(lc f).1.length<1000000:=by
 unfold lc;split
 . simp
 . next q=>have q:check f=0:=Decidable.not_not.1 q;have c:=Fr.mQ b q;obtain⟨w,a⟩:=o0 f;rw[a];rw[vk]at a;obtain⟨many,d,e⟩:=List.exists_of_findSome?_eq_some a;have g:=List.mem_range'_1.1 d;have:=n7 _ _ _ _ (List.mem_of_find?_eq_some e);have:=c.sH;show w.length<1000000;omega
theorem KR{σ:aa}{d:Nat}{x:ji}(h:σ d=none):(σ.set d x).del d=σ:=by
 funext y;by_cases e:y=d
 . subst e;simp[aa.del,h]
 . simp[aa.del,e,aa.aj]
theorem Small.own{f:Fr}(h:Small f)(a:KF (.val (aA f)) σ):ar prog m 14 [aA f] σ KF:=AI (by have:=h.aq;omega) (λe b=>by have:=h.marks e b;omega) (by have:=h.roads;omega) (λr c=>by have:=h.row r c;omega) a
theorem Cv{f f1 seen:Fr}{n:gL}(c:Small f)(d:kY 5 f1)(a:Small seen)(i:seen.aq.length<=5)(h:n.marks.length<=20):∀g∈[f,f1,seen,qt seen n],Small g:=λg b=>by
 simp only[List.mem_cons,List.not_mem_nil,or_false]at b;rcases b with rfl|rfl|rfl|rfl
 . exact c
 . exact Ct d
 . exact a
 . refine⟨by simp[qt];omega,a.roads,λe he=>?_,a.row⟩
   rcases List.mem_append.1 he with he|he
   . exact a.marks e he
   . simp at he;subst he;exact h
theorem vV(p:m.solo=true){f:Fr}{n:gL}{nums:List Int}(P:f.Fits)(W:n.marks.length<1152921504606846976)(Q:nums.length<1152921504606846976)(h:KF (.val (bool true)) σ):rN prog lay m 5 [aA f,bd n,ints nums] σ KF:=by
 refine rN.start lay [] Tk 3 Tryz.func5 rfl rfl (by rfl) (by kernel_rfl) ?_
 simp[Tryz.f5];refine cf Tryz.func10 rfl (KO P λv R=>?_)
 refine rn ?_;simp;cases v with
 |true=>simp;refine cf Tryz.func11 rfl (rb p ?_);refine rn ?_;simp;exact .done h
 |false=>
 by_cases K:(20:Int)<n.marks.length
 . simp[K]
   refine cf Tryz.func11 rfl (rb p ?_);refine rn ?_;simp;exact .done h
 obtain⟨A,_⟩:=R rfl;have r:n.marks.length<=20:=by omega
 simp[K];refine cf Tryz.func13 rfl (Fp λc S T hb k=>?_)
 refine pg ?_;simp;refine cf Tryz.func12 rfl (Cu (by omega) Q hb (by obtain⟨_,_,_,q⟩:=hb;rw[q];simp) λf1 seen B C _ D U hd=>?_)
 have j:=Cv A C D U r;have hlen:[f,f1,seen,qt seen n].length=4:=rfl;generalize [f,f1,seen,qt seen n]=L at j hlen ⊢
 have E:σ.Le B:=λy x F=>by
  have M:y≠c:=λe=>by subst e;rw[T]at F;cases F
  rw[hd.2 y M,k y M];exact F
 refine pg ?_;simp;refine rn ?_;simp;refine ab.weaken (σ:=σ) ?_ E;refine ab.loop L.length (λi s=>∃env,s=⟨env,σ,[],.no⟩/\env 7=Cs L/\env 8=int i) ⟨_,rfl,by simp⟩ ?_
 rintro X i _ Y ⟨env,rfl,l,o⟩ V
 rcases Nat.lt_or_ge i L.length with g1|g1
 . have G:(i:Int)<L.length:=by omega
   have f1:-9223372036854775808<=(i:Int)+1/\(i:Int)+1<=9223372036854775807:=by omega
   obtain⟨g,t⟩:∃g,g=L[i]:=⟨_,rfl⟩;have u:=j g (by rw[t];exact List.getElem_mem g1)
   have a:=u.fits;refine rn ?_;simp[l,o,g1,G,<-t];refine cf Tryz.func14 rfl (u.own ?_);refine ab.runN lay [] 2 ?_;simp;refine cZ.intro λd H=>?_
   simp;refine ab.cV 9 (b:=d) (aA g) (by simp) (by simp) rfl ?_
   rw[KR H];refine rn ?_;simp;refine cf Tryz.func35 rfl (KP p a ?_);have I:=AS a;obtain⟨w,N⟩:∃w,w=lc g:=⟨_,rfl⟩;rw[<-N]at I ⊢;refine rn ?_;simp[l,o,g1,<-t];refine cf Tryz.func36 rfl (I8 a ?_);rw[<-N];have Z:∀z:Int,(z !=z)=false:=λz=>by simp
   refine rn ?_;simp;refine cf Tryz.func21 rfl (gF (by omega) (by omega) ?_)
   rw[decide_eq_true rfl];refine rn ?_;simp;refine cf Tryz.func37 rfl (Mq p a ?_);obtain⟨q,O⟩:∃q,q=xh g:=⟨_,rfl⟩;unfold xi;rw[<-O];refine rn ?_;simp[l,o,g1,<-t];refine cf Tryz.func38 rfl (KQ a ?_);unfold xi;rw[<-O];refine rn ?_;simp[l,o,g1,<-t];refine cf Tryz.func22 rfl (vn a ?_);refine pg ?_;simp;refine rn ?_;simp[o,f1.1,f1.2];exact V _ g1 ⟨_,rfl,by simp[l]⟩
 . have J:i=L.length:=by omega
   subst J;refine rn ?_;simp[l,o];refine cf Tryz.func11 rfl (rb p ?_);refine rn ?_;simp;exact .done h
end Go.Proofs.YtldmpfccgajobaaGreatDoor
