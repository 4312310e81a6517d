import Derived.Test.YtldmpfccgajobaaGreatDoorV22
set_option linter.all false
namespace Go.Proofs.YtldmpfccgajobaaGreatDoor
open Tryz (prog)
open Go.bG Go.Conc
set_option maxHeartbeats 1000000
set_option maxRecDepth 4000
section
variable{k:Int->Int}
abbrev Fs(k:Int->Int):Int->Int->Bool:=λa b=>decide (k a<k b)
def Dn(k:Int->Int)(r:List Int):Prop:=r.Pairwise λy z=>k z<=k y
theorem wW(x:Int):∀{r:List Int}{z:Int},z∈dR (Fs k) x r->z=x\/z∈r
 |[],z,h=>by simp[dR]at h;exact .inl h
 | y :: r,z,h=>by
   unfold dR at h;split at h
   . rcases List.mem_cons.1 h with rfl|h
     . exact .inr (by simp)
     . rcases wW x h with h|h
       . exact .inl h
       . exact .inr (by simp[h])
   . rcases List.mem_cons.1 h with rfl|h
     . exact .inl rfl
     . exact .inr h
theorem Do(x:Int):∀{r:List Int},Dn k r->Dn k (dR (Fs k) x r)
 |[],_=>by simp[dR,Dn]
 | y ::r,h=>by
   obtain⟨b,c⟩:=List.pairwise_cons.1 h;unfold dR;split
   . next q=>
     have d:k x<k y:=by simpa[Fs]using q
     refine List.pairwise_cons.2 ⟨λz a=>?_,Do x c⟩;rcases wW x a with rfl|a
     . omega
     . exact b z a
   . next q=>
     have d:¬k x<k y:=by simpa[Fs]using q
     refine List.pairwise_cons.2 ⟨λz a=>?_,h⟩;rcases List.mem_cons.1 a with rfl|a
     . omega
     . have:=b z a;omega
theorem Kr{x y:Int}{r:List Int}(h:k x<k y):dR (Fs k) x (y::r)=y::dR (Fs k) x r:=by simp[dR,Fs,h]
theorem Ks{x y:Int}{r:List Int}(h:¬k x<k y):dR (Fs k) x (y::r)=x::y::r:=by simp[dR,Fs,h]
end
theorem r9(f:Fr)(l:List Int):aI f l=(cA (Fs λn=>(aO f n).hour) l).reverse:=by
 unfold aI;congr 2;funext a b;unfold qZ yp Fs;by_cases c:(aO f a).hour<(aO f b).hour
 . simp[c]
 . by_cases d:(aO f b).hour<(aO f a).hour
   . simp[c,d]
   . simp[c,d]
theorem yy{f:Fr}{l:List Int}{n:Int}:n∈aI f l↔n∈l:=by unfold aI;rw[List.mem_reverse,nT]
theorem Mi:∀a:Fin 32,∀b:Fin 32,∀c:Fin 32,bc (a.val:Int) (c.val:Int)<=bc (a.val:Int) (b.val:Int)+bc (b.val:Int) (c.val:Int):=by decide +kernel
theorem lO{l:List Int}(h:kj none l=0):∃a:Fin 32,aT l=(a.val:Int):=by have:=ja (mC h);exact⟨⟨(aT l).toNat,by omega⟩,by show aT l=((aT l).toNat:Int);omega⟩
def Fit(f:Fr)(a b:Int):Prop:=eN f a b=false
theorem Fr.Good.Tm{f:Fr}(b:f.Good){i j k:Nat}(c:i<f.roads.length)(d:j<f.roads.length)(e:k<f.roads.length):rd f.roads i k<=rd f.roads i j+rd f.roads j k:=by
 have h:=b.Jd;unfold dQ at h;split at h
 . cases h
 split at h
 . cases h
 split at h
 . next q=>exact absurd h q
 split at h
 . cases h
 next q=>
 simp only[List.any_eq_true,List.mem_range,not_exists,not_and]at q;have a:=q i c k e;unfold bE at a;simp only[Bool.or_eq_true,not_or,List.any_eq_true,List.mem_range,not_exists,not_and,decide_eq_true_eq]at a;have:=a.2 j d;omega
theorem ke{f:Fr}{n:Int}(h:0<=n/\n<f.aq.length):aO f n∈f.aq:=by
 have:n.toNat<f.aq.length:=by omega
 rw[fY this];exact List.getElem_mem this
theorem Ft{f:Fr}(d:f.Good){a b c:Int}(q:0<=a/\a<f.aq.length)(hb:0<=b/\b<f.aq.length)(r:0<=c/\c<f.aq.length)(e:Fit f a b)(g:Fit f b c):Fit f a c:=by
 have h:=lK (d.vr _ (ke q));have l:=lK (d.vr _ (ke hb));have m:=lK (d.vr _ (ke r));have hd:=d.cS;obtain⟨A,n⟩:=lO h.2.2.2.2.2;obtain⟨B,o⟩:=lO l.2.2.2.2.2;obtain⟨C,p⟩:=lO m.2.2.2.2.2;have s:=Mi A B C;have u:=h.2.1;have v:=l.2.1;have pc:=m.2.1;have w:=d.Tm (i:=(aO f a).place.toNat) (j:=(aO f b).place.toNat) (k:=(aO f c).place.toNat) (by omega) (by omega) (by omega);unfold Fit eN at e g ⊢;rw[n,o]at e;rw[o,p]at g;rw[n,p];simp only[decide_eq_false_iff_not]at e g ⊢;have t:f.cS*bc (A.val:Int) (C.val:Int)<=f.cS*(bc (A.val:Int) (B.val:Int)+bc (B.val:Int) (C.val:Int)):=Int.mul_le_mul_of_nonneg_left s (by omega);rw[Int.mul_add]at t;omega
theorem uZ(f:Fr)(a b:Int)(r:List Int):bx f (a::b::r)=(eN f a b||bx f (b::r)):=by
 unfold bx;rw[show(a::b::r).length-1=r.length+1 from rfl,List.range_succ_eq_map,List.any_cons,List.any_map];rfl
theorem wX{f:Fr}(e:f.Good):∀{l:List Int},(∀n∈l,0<=n/\n<f.aq.length)->bx f l=false->l.Pairwise (Fit f)
 |[],_,_=>List.Pairwise.nil
 |[a],_,_=>List.pairwise_singleton _ _
 | a::b::r,d,h=>by
   rw[uZ,Bool.or_eq_false_iff]at h;have g:=wX e (λn i=>d n (by simp[i])) h.2;refine List.pairwise_cons.2 ⟨λz j=>?_,g⟩;rcases List.mem_cons.1 j with rfl|c
   . exact h.1
   . exact Ft e (d a (by simp)) (d b (by simp)) (d z (by simp[c])) h.1 ((List.pairwise_cons.1 g).1 z c)
theorem wY{f:Fr}:∀{l:List Int},l.Pairwise (Fit f)->bx f l=false
 |[],_=>rfl
 |[a],_=>rfl
 |a::b::r,h=>by obtain⟨c,d⟩:=List.pairwise_cons.1 h;rw[uZ,wY d,Bool.or_false];exact c b (by simp)
theorem sW{f:Fr}{l:List Int}(b:l≠[]){h:Int}:h∈du f l↔∀j∈l,h∈bu f (aO f j):=by
 rw[Aw b]
 match l,b with
 |a::r,_=>simp only[IN,List.mem_filter,List.all_eq_true,decide_eq_true_eq];exact⟨λq=>q.2,λq=>⟨q a (by simp),q⟩⟩
theorem u0{f:Fr}{l:List Int}:kU f l=0↔cR f (aI f l)=false/\bO f (aI f l)=false/\bx f (aI f l)=false:=by unfold kU;cases cR f (aI f l)<;>cases bO f (aI f l)<;>cases bx f (aI f l)<;>simp
theorem Mj{f:Fr}(b:f.Good)(n:Int):kU f [n]=0:=by
 have e:aI f [n]=[n]:=by simp[aI,cA,dR]
 refine u0.2 ?_;rw[e];refine⟨by simp[cR],?_,rfl⟩;unfold bO;simp only[decide_eq_false_iff_not];obtain⟨x,c⟩:=List.exists_mem_of_ne_nil _ (IM b (aO f n));exact List.ne_nil_of_mem ((sW (by simp)).2 (λj a=>by simp at a;subst a;exact c))
theorem nY{α β:Type}{B:Nat}{g:α->List β}:∀(l:List α),(∀x∈l,(g x).length<=B)->(l.flatMap g).length<=l.length*B
 |[],_=>by simp
 | a::l,h=>by
   rw[List.flatMap_cons,List.length_append,List.length_cons,Nat.add_mul,Nat.one_mul];have c:=h a (by simp);have d:=nY l λx b=>h x (by simp[b])
   omega
theorem Ax{f:Fr}(a:f.Good)(begun:List Int):∀(fuel:Nat) (cG:List Int) (many:Int) (b:List Int),(dI f begun fuel cG many b).length<=6 ^ fuel
 |0,_,_,_=>by simp[dI]
 | fuel+1,cG,many,b=>by
   unfold dI;refine Nat.le_trans (nY (B:=6 ^ fuel) _ λk _=>?_) ?_
   . split
     . simp
     split
     . exact Ax a begun fuel _ _ _
     . simp
   . rw[List.length_range,Nat.pow_succ,Nat.mul_comm]
     have:=a.most;exact Nat.mul_le_mul_left _ (by omega)
theorem qp{f:Fr}(a:f.Good)(begun:List Int):(au f begun).length<=46656:=by refine Nat.le_trans (Ax a begun _ _ _ _) ?_;exact Nat.pow_le_pow_right (by omega) a.sH
theorem kI(f:Fr)(begun:List Int):∀(fuel:Nat) (cG:List Int) (many:Int) (a:List Int),begun.length<=cG.length->dI f begun fuel cG many a=dI f [] fuel cG many a
 |0,_,_,_,_=>rfl
 | fuel+1,cG,many,a,h=>by
   unfold dI;congr 1;funext k;have b:¬(cG.length<begun.length/\begun.getD cG.length 0≠(k:Int)):=by omega
   have c:¬(cG.length<([]:List Int).length/\([]:List Int).getD cG.length 0≠(k:Int)):=by simp
   rw[if_neg b,if_neg c];split
   . exact kI f begun fuel _ _ _ (by simp;omega)
   . rfl
theorem Cc{f:Fr}(b:f.Good)(e:2<=f.aq.length):au f []=au f [0,0]++au f [0,1]:=by
 obtain⟨n,c⟩:∃n,f.aq.length=n+2:=⟨f.aq.length-2,by omega⟩;have g:=b.most;have d:(min ((0:Int)+1) f.most).toNat=1:=by omega
 unfold au;rw[c];unfold dI;rw[d];simp only[List.range_succ,List.range_zero,List.nil_append,List.flatMap_cons,List.flatMap_nil,List.append_nil];simp;by_cases a:jb f (bw 0 0)=true
 . simp only[a,if_true]
   unfold dI;have e2:(min (max (0:Int) 1+1) f.most).toNat=1\/(min (max (0:Int) 1+1) f.most).toNat=2:=by omega
   rcases e2 with e2|e2
   . rw[e2]
     simp only[List.range_succ,List.range_zero,List.nil_append,List.flatMap_cons,List.flatMap_nil,List.append_nil];simp;rw[kI f [0,0] n [0,0] _ _ (by simp)]
   . rw[e2]
     simp only[List.range_succ,List.range_zero,List.nil_append];simp;rw[kI f [0,0] n [0,0] _ _ (by simp),kI f [0,1] n [0,1] _ _ (by simp)]
 . simp[a]
theorem Cd{f:Fr}(a:f.Good)(b:2<=f.aq.length):jz f=((au f []).length:Int):=by
 unfold jz;rw[if_neg (by omega),Cc a b,List.length_append];omega
def kZ(n:Nat):Nat->Nat->List Int->List (List Int)
 |0,_,out=>[out]
 |more+1,a,out=>(List.range' a (n-a)).flatMap λx:Nat=>kZ n more (x+1) (out++[(x:Int)])
theorem rf(f:Fr):∀(more a:Nat) (out:List Int),eG f more a out=(kZ f.aq.length more a out).find? λl=>decide (au (aY f l) []≠[])
 | 0,a,out=>by
   unfold eG kZ;by_cases h:au (aY f out) []=[]<;>simp[h]
 | more+1,a,out=>by
   unfold eG kZ;rw[List.find?_flatMap];congr 1;funext x;exact rf f more (x+1) _
theorem ext_nil(n:Nat):∀(more a:Nat) (out:List Int),0<more->n<a+more->kZ n more a out=[]
 | more+1,a,out,_,h=>by
   unfold kZ;rw[List.flatMap_eq_nil_iff];intro x b;obtain⟨c,d⟩:=List.mem_range'_1.1 b;cases more with
   |zero=>omega
   |succ more=>exact ext_nil n (more+1) (x+1) _ (by omega) (by omega)
theorem Ay(n:Nat):∀(more a:Nat) (out:List Int),a+more<=n->out++(List.range' a more).map (λx:Nat=>(x:Int))∈kZ n more a out
 |0,a,out,_=>by simp[kZ]
 | more+1,a,out,h=>by
   unfold kZ;refine List.mem_flatMap.2 ⟨a,List.mem_range'_1.2 (by omega),?_⟩;have:=Ay n more (a+1) (out++[(a:Int)]) (by omega);rw[List.range'_succ,List.map_cons];simpa using this
theorem u6{β:Type}{G:Nat->List β}{c:Nat}:∀d:Nat,(∀j,c<=j->j<c+d->G j=[])->(List.range (c+d)).flatMap G=(List.range c).flatMap G
 |0,_=>rfl
 | d+1,h=>by
   rw[<-Nat.add_assoc,List.range_succ,List.flatMap_append,u6 d λj a b=>h j a (by omega)];simp[h (c+d) (by omega) (by omega)]
theorem lP{α β:Type}{f g:α->List β}{l:List α}(h:∀x∈l,f x=g x):l.flatMap f=l.flatMap g:=by rw[List.flatMap_def,List.flatMap_def,List.map_congr_left h]
theorem Kt{n k i:Nat}{l:List Int}(q:k<=n)(r:i<k)(m:Sq n i l):kZ n (k-i) (gI i l).toNat l=(sU n k i l).flatMap λo=>kZ n (k-(i+1)) (gI (i+1) o).toNat o:=by
 obtain⟨more,p⟩:∃more,k-i=more+1:=⟨k-i-1,by omega⟩
 have h:k-(i+1)=more:=by omega
 have hlen:=m.len
 have b:0<=gI i l/\gI i l<=n:=by
  unfold gI;split
  . omega
  . next s=>
    have c:i-1<l.length:=by omega
    have e:l.getD (i-1) 0∈l:=by rw[List.getD_eq_getElem?_getD,List.getElem?_eq_getElem c];exact List.getElem_mem c
    have:=m.mem _ e;omega
 obtain⟨a,f⟩:∃a:Nat,gI i l=(a:Int):=⟨(gI i l).toNat,by omega⟩
 unfold sU Mh;rw[p,h,f,Int.toNat_natCast];rw[f]at b;obtain⟨cnt,g⟩:∃cnt:Nat,((n:Int)-k+i+1-a).toNat=cnt:=⟨_,rfl⟩;rw[g,List.map_map,List.flatMap_map,show kZ n (more+1) a l=(List.range' a (n-a)).flatMap λx:Nat=>kZ n more (x+1) (l++[(x:Int)])from rfl]
 rw[List.range'_eq_map_range,List.flatMap_map];obtain⟨d,hd⟩:∃d,n-a=cnt+d:=⟨n-a-cnt,by omega⟩
 rw[hd,u6 d λj t u=>?_]
 . refine lP λj v=>?_
   have:gI (i+1) (l++[(a:Int)+(j:Int)])=(a:Int)+j+1:=by
    unfold gI;rw[if_neg (by omega),List.getD_eq_getElem?_getD,List.getElem?_append_right (by omega)]
    simp[hlen]
   simp only[Function.comp];rw[this,show((a:Int)+j+1).toNat=a+j+1 by omega,show((a+j:Nat):Int)=(a:Int)+j by omega]
 . cases more with
   |zero=>omega
   |succ more=>exact ext_nil n (more+1) _ _ (by omega) (by omega)
theorem u'{n k:Nat}(a:k<=n):∀i:Nat,i<=k->kZ n k 0 []=(kH n k i).flatMap λl=>kZ n (k-i) (gI i l).toNat l
 |0,_=>by simp[kH,gI]
 | i+1,c=>by
   rw[u' a i (by omega),kH,List.flatMap_assoc];exact lP λl b=>Kt a (by omega) (r8 i (by omega) l b)
theorem sa{n k:Nat}(a:k<=n):sV n k=kZ n k 0 []:=by rw[u' a k (Nat.le_refl _)];unfold sV;simp[kZ]
abbrev ij(f:Fr)(l:List Int):Bool:=decide (au (aY f l) []≠[])
theorem Ce(f:Fr):er f=(List.range' 0 (f.aq.length+1)).findSome? λmany=>(sV f.aq.length many).find? (ij f):=by
 unfold er
 have:∀(l:List Nat),(∀x∈l,x<=f.aq.length)->(l.findSome? λmany=>eG f many 0 [])=l.findSome? λmany=>(sV f.aq.length many).find? (ij f):=λl=>by
  induction l with
  |nil=>intro _;rfl
  |cons a l c=>intro h;rw[List.findSome?_cons,List.findSome?_cons,rf,sa (h a (by simp)),c λx b=>h x (by simp[b])]
 exact this _ λx b=>by have:=List.mem_range'_1.1 b;omega
theorem IP(l:List gL):jc l ((List.range' 0 l.length).map λx:Nat=>(x:Int))=[]:=by
 unfold jc;rw[List.map_eq_nil_iff,List.filter_eq_nil_iff];rintro⟨e,i⟩ a;have:=List.mem_zipIdx a;have b:(i:Int)∈(List.range' 0 l.length).map (λx:Nat=>(x:Int)):=List.mem_map.2 ⟨i,List.mem_range'_1.2 (by omega),rfl⟩;simp only[b];simp
theorem o0(f:Fr):∃w,er f=some w:=by
 cases h:er f with
 |some w=>exact⟨w,rfl⟩
 | none=>
   rw[Ce,List.findSome?_eq_none_iff]at h;have a:=h f.aq.length (List.mem_range'_1.2 (by omega));rw[List.find?_eq_none]at a;have b:=Ay f.aq.length f.aq.length 0 [] (by omega);rw[<-sa (Nat.le_refl _)]at b;refine absurd ?_ (a _ b);simp only[List.nil_append];unfold ij aY;rw[IP];simp[au,dI]
def bF(w:List Int)(k:Int):List Int:=(w.zipIdx.filter λp=>decide (p.1=k)).map λp=>(p.2:Int)
theorem dC(w:List Int)(x k:Int):bF (w++[x]) k=bF w k++if x=k then[(w.length:Int)]else[]:=by
 unfold bF;rw[List.zipIdx_append,List.filter_append,List.map_append];by_cases e:x=k<;>simp[e]
theorem ny{w:List Int}{k n:Int}(h:n∈bF w k):0<=n/\n<w.length/\w.getD n.toNat 0=k:=by
 unfold bF at h;obtain⟨p,c,rfl⟩:=List.mem_map.1 h;obtain⟨d,a⟩:=List.mem_filter.1 c;obtain⟨x,i⟩:=p;have b:=List.mem_zipIdx d;simp at a b;refine⟨by omega,by omega,?_⟩;rw[Int.toNat_natCast,List.getD_eq_getElem?_getD,List.getElem?_eq_getElem (by omega)];simp[<-a,b.2]
theorem oz(w:List Int)(x:Int):bf (w++[x])=max (bf w) (x+1):=by unfold bf;rw[List.foldl_append];rfl
theorem vP(t:List Int):∀n:Int,n<=t.foldl (λn k=>max n (k+1)) n:=by
 induction t with
 |nil=>intro n;exact Int.le_refl _
 |cons a t b=>intro n;rw[List.foldl_cons];exact Int.le_trans (by omega) (b _)
theorem sc(w:List Int):0<=bf w:=vP w 0
theorem Az(w:List Int)(b:Int)(hb:0<=b)(h:∀x∈w,x<b):bf w<=b:=by
 have:∀n:Int,n<=b->w.foldl (λn k=>max n (k+1)) n<=b:=by
  induction w with
  |nil=>intro n c;exact c
  | cons a t d=>
    intro n c;rw[List.foldl_cons];have:=h a (by simp);exact d (λx e=>h x (by simp[e])) _ (by omega)
 exact this 0 hb
theorem IQ:∀x:Fin 64,∀n:Fin 6,(∀e∈bS (x.val:Int),e<(n.val:Int))->bS (bw (x.val:Int) (n.val:Int))=bS (x.val:Int)++[(n.val:Int)]:=by decide +kernel
theorem Fu{x:Int}{n:Nat}(c:0<=x/\x<64)(a:n<6)(h:∀e∈bS x,e<n):bS (bw x n)=bS x++[(n:Int)]:=by
 have b:(x.toNat:Int)=x:=by omega
 have:=IQ ⟨x.toNat,by omega⟩ ⟨n,a⟩;simp only[b]at this;exact this h
end Go.Proofs.YtldmpfccgajobaaGreatDoor
namespace Go.Proofs.YtldmpfccgajobaaGreatDoor
open Tryz (prog)
open Go.bG Go.Conc
set_option maxHeartbeats 1000000
set_option maxRecDepth 4000
variable{m:Mo}{σ:aa}{KF:eI->aa->Prop}
theorem vQ(w:List Int)(i:Nat)(h:i<w.length):bf (w.take (i+1))=max (bf (w.take i)) (w[i]+1):=by rw[List.take_succ_eq_append_getElem h,oz]
theorem Ku{l:List Int}(i:l.length<1152921504606846976)(hb:∀x∈l,-1<=x/\x<=1000)(h:KF (.val (int (bf l))) σ):ar prog m 67 [ints l] σ KF:=by
 refine fs [] 1 Tryz.func67 rfl rfl (by rfl) (by kernel_rfl) ?_;simp[Tryz.f67];refine ab.loop l.length (λk s=>∃env,s=⟨env,σ,[],.no⟩/\env 0=ints l/\env 3=int (bf (l.take k))/\env 4=int k) ⟨_,rfl,by simp[bf]⟩ ?_;rintro j k _ n ⟨env,rfl,a,b,d⟩ f;rcases Nat.lt_or_ge k l.length with g1|g1
 . have g:(k:Int)<l.length:=by omega
   have o:=hb _ (List.getElem_mem g1);have f1:-9223372036854775808<=(k:Int)+1/\(k:Int)+1<=9223372036854775807:=by omega
   have e:-9223372036854775808<=l[k]+1/\l[k]+1<=9223372036854775807:=by omega
   refine rn ?_;simp[a,b,d,g1,f1.1,f1.2,e.1,e.2];refine f _ g1 ⟨_,rfl,by simp[a],?_,by simp⟩;rw[vQ _ _ g1];simp;split<;>omega
 . have c:k=l.length:=by omega
   subst c;rw[List.take_length]at b;refine rn ?_;simp[a,b,d];exact .done h
theorem qr(w:List Int)(k:Int)(i:Nat)(h:i<w.length):bF (w.take (i+1)) k=bF (w.take i) k++if w[i]=k then[(i:Int)]else[]:=by rw[List.take_succ_eq_append_getElem h,dC,List.length_take,Nat.min_eq_left (by omega)]
theorem sd(w:List Int)(k:Int):(bF w k).length<=w.length:=by unfold bF;rw[List.length_map];refine Nat.le_trans (List.length_filter_le _ _) ?_;simp
theorem IR{w:List Int}{k:Int}(r:w.length<1000000)(h:KF (.val (ints (bF w k))) σ):ar prog m 102 [ints w,int k] σ KF:=by
 refine fs [] 2 Tryz.func102 rfl rfl (by rfl) (by kernel_rfl) ?_;simp[Tryz.f102];refine ab.loop w.length (λi s=>∃env b,s=⟨env,b,[],.no⟩/\env 0=ints w/\env 1=int k/\env 6=int i/\Tok σ b (env 5) 1 ((bF (w.take i) k).map int)) ⟨_,σ,rfl,by simp,by simp,by simp,by simpa[bF]using Tok.nil σ 1⟩ ?_;rintro t i _ u ⟨env,b,rfl,d,f,e,a⟩ n;have o:=a.cells;rcases Nat.lt_or_ge i w.length with g1|g1
 . have p:(i:Int)<w.length:=by omega
   have f1:-9223372036854775808<=(i:Int)+1/\(i:Int)+1<=9223372036854775807:=by omega
   refine rn ?_;simp[d,f,e,g1];refine aB.intro (λc=>?_) (λc=>?_)<;>(try simp[-Int.not_lt,-Int.not_le,-Nat.not_lt,-Nat.not_le]at c)<;>(try simp[e,c])
   . have g:=sd (w.take i) k
     rw[List.length_take]at g;refine aH lay rfl rfl rfl cr rfl cr rfl qa (by decide) (by simp;omega) (σ0:=σ) (es:=(bF (w.take i) k).map int) (xs:=[int i]) (by simpa using a) (.inr ⟨_,rfl⟩) λv q j=>?_
     refine rn ?_;simp[e,f1.1,f1.2];refine n _ g1 ⟨_,_,rfl,by simp[d],by simp[f],by simp,?_⟩;rw[qr _ _ _ g1,if_pos c,List.map_append];simpa using j
   . simp[f1.1,f1.2]
     refine n _ g1 ⟨_,_,rfl,by simp[d],by simp[f],by simp,?_⟩;rw[qr _ _ _ g1,if_neg c,List.append_nil];simpa using a
 . have l:i=w.length:=by omega
   subst l;rw[List.take_length]at a;refine rn ?_;simp[d,e];exact .less a.1 (.jm a.W (.done h))
end Go.Proofs.YtldmpfccgajobaaGreatDoor
namespace Go.Proofs.YtldmpfccgajobaaGreatDoor
open Tryz (prog)
open Go.bG Go.Conc
set_option maxHeartbeats 1000000
set_option maxRecDepth 4000
theorem se(k:Int):∀(w:List Int) (n:Nat),(((w.zipIdx n).filter λp=>decide (p.1=k)).map λp=>(p.2:Int)).Pairwise (·<·)/\∀x∈(((w.zipIdx n).filter λp=>decide (p.1=k)).map λp=>(p.2:Int)),(n:Int)<=x
 |[],n=>by simp
 | a :: w,n=>by
   have c:=se k w (n+1);rw[List.zipIdx_cons,List.filter_cons];split
   . rw[List.map_cons]
     refine⟨List.pairwise_cons.2 ⟨λx b=>?_,c.1⟩,λx b=>?_⟩
     . have:=c.2 x b
       simp only;omega
     . rcases List.mem_cons.1 b with rfl|b
       . exact Int.le_refl _
       . have:=c.2 x b;omega
   . exact⟨c.1,λx b=>by have:=c.2 x b;omega⟩
abbrev rg:gL:=⟨0,0,0,[],0,0⟩
def Kv(f:Fr)(a b:gL):Prop:=rd f.roads a.place.toNat b.place.toNat+f.cS*bc (aT a.marks) (aT b.marks)<=b.hour-a.hour
structure Seen(f0:Fr)(most:Nat)(C H:List Int)(ks:List Int)(es last:List gL):Prop where
 len:ks.length=es.length
 Qx:∀x∈ks,0<=x/\x<most
 vr:∀e∈es,bp f0.roads.length e=0
 bk:∀i,i<es.length->(es.getD i rg).bk=C.getD (ks.getD i 0).toNat 0
 Nd:∀i,i<es.length->H.getD (ks.getD i 0).toNat 0∈bu f0 (es.getD i rg)
 fit:∀i j,i<j->j<es.length->ks.getD i 0=ks.getD j 0->(∀m,i<m->m<j->ks.getD m 0≠ks.getD i 0)->Kv f0 (es.getD i rg) (es.getD j rg)
 Qy:∀i,i<es.length->(∀m,i<m->m<es.length->ks.getD m 0≠ks.getD i 0)->last.getD (ks.getD i 0).toNat rg=es.getD i rg
 Dp:∀k,k<most->(last.getD k rg).bk=C.getD k 0
 Mk:last.length=most
theorem lQ{α:Type}(l:List α)(x d:α)(i:Nat):(l++[x]).getD i d=if i<l.length then l.getD i d else if i=l.length then x else d:=by
 rw[List.getD_eq_getElem?_getD,List.getD_eq_getElem?_getD];split
 . next h=>rw[List.getElem?_append_left h]
 . next h=>
   split
   . next e=>subst e;simp
   . rw[List.getElem?_eq_none (by simp;omega)];rfl
theorem Seen.push{f0:Fr}{most:Nat}{C H ks:List Int}{es last:List gL}(h:Seen f0 most C H ks es last){k:Nat}{n:gL}(A:k<most)(B:bp f0.roads.length n=0)(y:n.bk=(last.getD k rg).bk)(D:H.getD k 0∈bu f0 n)(E:(k:Int)∈ks->Kv f0 (last.getD k rg) n):
 Seen f0 most C H (ks++[(k:Int)]) (es++[n]) (last.set k n):=by
 have hlen:=h.len;have t:=h.Mk;have f:∀i,i<es.length->(es++[n]).getD i rg=es.getD i rg:=λi a=>by rw[lQ,if_pos a]
 have r:(es++[n]).getD es.length rg=n:=by rw[lQ,if_neg (by omega),if_pos rfl]
 have c:∀i,i<es.length->(ks++[(k:Int)]).getD i 0=ks.getD i 0:=λi a=>by rw[lQ,if_pos (by omega)]
 have p:(ks++[(k:Int)]).getD es.length 0=(k:Int):=by rw[lQ,if_neg (by omega),if_pos hlen.symm]
 have u:∀i,i<es.length->0<=ks.getD i 0/\ks.getD i 0<most:=λi a=>by
  have d:i<ks.length:=by omega
  rw[List.getD_eq_getElem?_getD,List.getElem?_eq_getElem d];exact h.Qx _ (List.getElem_mem d)
 refine⟨by simp[hlen],λx g=>?_,λe he=>?_,λi a=>?_,λi a=>?_,λi j v s he l=>?_,λi a l=>?_,λj s=>?_,by rw[List.length_set];exact t⟩
 . rcases List.mem_append.1 g with g|g
   . exact h.Qx x g
   . simp at g;subst g;omega
 . rcases List.mem_append.1 he with he|he
   . exact h.vr e he
   . simp at he;subst he;exact B
 . rw[List.length_append,List.length_singleton]at a
   by_cases e:i=es.length
   . subst e;rw[r,p,y,Int.toNat_natCast];exact h.Dp k A
   . rw[f i (by omega),c i (by omega)];exact h.bk i (by omega)
 . rw[List.length_append,List.length_singleton]at a
   by_cases e:i=es.length
   . subst e;rw[r,p,Int.toNat_natCast];exact D
   . rw[f i (by omega),c i (by omega)];exact h.Nd i (by omega)
 . rw [List.length_append,List.length_singleton]at s
   have a:i<es.length:=by omega
   by_cases e:j=es.length
   . subst e
     rw[c i a,p]at he
     have z:=h.Qy i a λm q o=>by
      have:=l m q o
      rwa [c m o,c i a]at this
     rw[he,Int.toNat_natCast]at z;rw[f i a,r,<-z];refine E ?_;have d:i<ks.length:=by omega
     rw[<-he,List.getD_eq_getElem?_getD,List.getElem?_eq_getElem d];exact List.getElem_mem d
   . rw[c i a,c j (by omega)]at he
     rw[f i a,f j (by omega)];refine h.fit i j v (by omega) he λm q o=>?_
     have:=l m q o
     rwa [c m (by omega),c i a]at this
 . rw[List.length_append,List.length_singleton]at a l
   by_cases e:i=es.length
   . subst e
     rw[r,p,Int.toNat_natCast,List.getD_eq_getElem?_getD,List.getElem?_set_self (by omega)];rfl
   . have b:i<es.length:=by omega
     have w:=l es.length b (by omega);rw[p,c i b]at w;have F:=u i b;rw[f i b,c i b,List.getD_eq_getElem?_getD,List.getElem?_set_ne (by omega),<-List.getD_eq_getElem?_getD];refine h.Qy i b λm q o=>?_
     have:=l m q (by omega)
     rwa [c m o,c i b]at this
 . by_cases e:j=k
   . subst e
     rw[List.getD_eq_getElem?_getD,List.getElem?_set_self (by omega),Option.getD_some,y];exact h.Dp j s
   . rw[List.getD_eq_getElem?_getD,List.getElem?_set_ne (Ne.symm e),<-List.getD_eq_getElem?_getD]
     exact h.Dp j s
section
variable{f:Fr}{most:Nat}{C H ks:List Int}{last:List gL}
end
def aU(g:Nat × Nat->Int)(o:Option (Nat × Nat))(p:Nat × Nat):Option (Nat × Nat):=
 match o with
 |none=>some p
 |some q=>if g p<g q then some p else some q
def rh(i d:Nat):List (Nat × Nat):=(List.range d).map λk=>(i,i+1+k)
def dq(n i:Nat):List (Nat × Nat):=(List.range i).flatMap λa=>rh a (n-(a+1))
theorem wZ(i d:Nat):rh i (d+1)=rh i d++[(i,i+1+d)]:=by unfold rh;rw[List.range_succ,List.map_append];rfl
theorem sf(n i:Nat):dq n (i+1)=dq n i++rh i (n-(i+1)):=by unfold dq;rw[List.range_succ,List.flatMap_append];simp
theorem Cf{n i:Nat}{p:Nat × Nat}(h:p∈dq n i):p.1<p.2/\p.2<n:=by obtain⟨a,d,b⟩:=List.mem_flatMap.1 h;obtain⟨k,c,rfl⟩:=List.mem_map.1 b;have:=List.mem_range.1 c;simp only;omega
theorem AA(g:Nat × Nat->Int):∀(l:List (Nat × Nat)) (o:Option (Nat × Nat)) (q:Nat × Nat),l.foldl (aU g) o=some q->q∈l\/o=some q
 |[],o,q,h=>.inr h
 | p :: l,o,q,h=>by
   rw[List.foldl_cons]at h;rcases AA g l _ q h with a|a
   . exact .inl (by simp[a])
   . cases o with
     |none=>simp only[aU]at a;obtain rfl:=Option.some.inj a;simp
     | some r=>
       simp only[aU]at a;split at a
       . obtain rfl:=Option.some.inj a;simp
       . exact .inr a
def iF(L:List (List Int))(p:Nat × Nat):Int:=max ((L.filter (eF p.1 p.2)).length:Int) ((L.length:Int)-((L.filter (eF p.1 p.2)).length:Int))
section
variable{L:List (List Int)}{n:Nat}
end
theorem nz{b mb:Nat}{f:Fr}{σ σ':aa}(h:Dc b 6 mb .u8 (eU f) σ)(a:σ' b=σ b)(c:σ' mb=σ mb):Dc b 6 mb .u8 (eU f) σ':=by unfold Dc at h ⊢;rw[a,c];exact h
theorem xa(lt:Int->Int->Bool)(x:Int):∀r:List Int,(dR lt x r).Perm (x::r)
 |[]=>List.Perm.refl _
 | y::r=>by
   unfold dR;split
   . exact((xa lt x r).cons y).trans (List.Perm.swap x y r)
   . exact List.Perm.refl _
theorem Cg(lt:Int->Int->Bool)(l:List Int):(cA lt l).Perm l:=by
 have key:∀(l r:List Int),(l.foldl (λr x=>dR lt x r) r).Perm (l++r):=by
  intro l;induction l with
  |nil=>intro r;exact List.Perm.refl _
  |cons a l b=>intro r;rw[List.foldl_cons];refine(b _).trans (((xa lt a r).append_left l).trans ?_);exact List.perm_middle
 simpa[cA]using key l []
theorem iN(f:Fr)(l:List Int):(aI f l).Perm l:=(List.reverse_perm _).trans (Cg _ _)
theorem AB(f:Fr)(l:List Int):(aI f l).Pairwise λa b=>(aO f a).hour<=(aO f b).hour:=by
 rw[r9,List.pairwise_reverse]
 have key:∀(l r:List Int),Dn (λn=>(aO f n).hour) r->Dn (λn=>(aO f n).hour) (l.foldl (λr x=>dR (Fs λn=>(aO f n).hour) x r) r):=by
  intro l;induction l with
  |nil=>intro r h;exact h
  |cons a l c=>intro r h;exact c _ (Do a h)
 exact key l [] List.Pairwise.nil
theorem sk{R:Int->Int->Prop}:∀{l:List Int},l.Pairwise R->∀a∈l,∀b∈l,a≠b->R a b\/R b a
 |[],_,a,g,_,_,_=>by cases g
 | c ::l,h,a,g,b,hb,e=>by
   obtain⟨i,j⟩:=List.pairwise_cons.1 h;rcases List.mem_cons.1 g with rfl|f
   . rcases List.mem_cons.1 hb with rfl|d
     . exact absurd rfl e
     . exact .inl (i b d)
   . rcases List.mem_cons.1 hb with rfl|d
     . exact .inr (i a f)
     . exact sk j a f b d e
theorem Kw:∀a:Fin 32,∀b:Fin 32,bc (a.val:Int) (b.val:Int)=bc (b.val:Int) (a.val:Int):=by decide +kernel
theorem Fr.Good.symm{f:Fr}(b:f.Good){i j:Nat}(c:i<f.roads.length)(d:j<f.roads.length):rd f.roads i j=rd f.roads j i:=by
 have h:=b.Jd;unfold dQ at h;split at h
 . cases h
 split at h
 . cases h
 split at h
 . next q=>exact absurd h q
 split at h
 . cases h
 next q=>
 simp only[List.any_eq_true,List.mem_range,not_exists,not_and]at q;have a:=q i c j d;unfold bE at a;simp only[Bool.or_eq_true,not_or,bne_iff_ne,ne_eq,Decidable.not_not]at a;exact a.1.2
theorem IS{f:Fr}(c:f.Good){a b:Int}(l:0<=a/\a<f.aq.length)(hb:0<=b/\b<f.aq.length)(o:(aO f a).hour<=(aO f b).hour)(h:Fit f b a):Fit f a b:=by
 have d:=lK (c.vr _ (ke l));have e:=lK (c.vr _ (ke hb));have hd:=c.cS;obtain⟨A,g⟩:=lO d.2.2.2.2.2;obtain⟨B,k⟩:=lO e.2.2.2.2.2;have p:=d.2.1;have q:=e.2.1;have m:=Kw A B;have n:=c.symm (i:=(aO f a).place.toNat) (j:=(aO f b).place.toNat) (by omega) (by omega);unfold Fit eN at h ⊢;rw[k,g]at h;rw[g,k];simp only[decide_eq_false_iff_not]at h ⊢;rw[m,n];omega
structure Qz(f:Fr)(l:List Int):Prop where
 bk:∀a∈l,∀b∈l,(aO f a).bk=(aO f b).bk
 Nd:∃h,∀j∈l,h∈bu f (aO f j)
 fit:∀a∈l,∀b∈l,a≠b->Fit f a b\/Fit f b a
theorem Dq{f:Fr}(A:f.Good){l:List Int}(s:l≠[])(t:l.Nodup)(u:∀n∈l,0<=n/\n<f.aq.length):kU f l=0↔Qz f l:=by
 have p:=iN f l;have c:∀n,n∈aI f l↔n∈l:=λn=>p.mem_iff
 have v:=AB f l;have m:(aI f l).Nodup:=p.nodup_iff.2 t;have d:aI f l≠[]:=λe=>by rw[e]at p;exact s (List.nil_perm.1 p)
 rw[u0];generalize aI f l=S at *
 have B:S.getD 0 0∈S:=by
  match S,d with
  |a::r,_=>simp
 constructor
 . rintro⟨w,y,C⟩
   unfold cR at w;rw[List.any_eq_false]at w;have o:∀x∈S,(aO f x).bk=(aO f (S.getD 0 0)).bk:=λx k=>by simpa using w x k
   refine⟨λa i b hb=>by rw[o a ((c a).2 i),o b ((c b).2 hb)],?_,λa i b hb g=>sk (wX A (λn D=>u n ((c n).1 D)) C) a ((c a).2 i) b ((c b).2 hb) g⟩
   unfold bO at y;simp only[decide_eq_false_iff_not]at y;obtain⟨x,k⟩:=List.exists_mem_of_ne_nil _ y;exact⟨x,λj z=>(sW d).1 k j ((c j).2 z)⟩
 . intro h
   refine⟨?_,?_,wY ?_⟩
   . unfold cR
     rw[List.any_eq_false];intro x k;rw[h.bk x ((c x).1 k) _ ((c _).1 B)];simp
   . unfold bO
     simp only[decide_eq_false_iff_not];obtain⟨x,k⟩:=h.Nd;have:x∈du f S:=(sW d).2 λj z=>k j ((c j).1 z)
     exact List.ne_nil_of_mem this
   . refine(v.and m).imp_of_mem λ{a b} i hb g=>?_
     have i:=(c a).1 i;have hb:=(c b).1 hb
     rcases h.fit a i b hb g.2 with q|q
     . exact q
     . exact IS A (u a i) (u b hb) g.1 q
def qt(f:Fr)(n:gL):Fr:={f with aq:=f.aq++[n]}
def cE(f:Fr)(e:gL)(h:Int):Bool:=if e.eE=0 then decide (e.aG=h)else if e.eE=1 then cK (e.aG-h) f.bh f.gE else decide (e.aG=h)||cK (e.aG-h) f.bh f.gE
def qu:List Int:=(List.range 34).map λi:Nat=>(i:Int)-3
def je(f:Fr)(l:List Int):List Int:=qu.filter λh=>l.all λn=>cE f (aO f n) h
theorem nA{a b c:Int}:cK a b c=true↔b<=a/\a<=c:=by simp[cK]
theorem xc{f:Fr}{e:gL}{h:Int}(a:e.eE≠0):h∈eT f e↔f.bh<=e.aG-h/\e.aG-h<=f.gE:=by
 rw[Ai a,List.mem_map];constructor
 . rintro⟨i,b,rfl⟩
   have:=List.mem_range.1 b;omega
 . rintro⟨c,d⟩
   exact⟨(h-(e.aG-f.gE)).toNat,List.mem_range.2 (by omega),by omega⟩
theorem Ch{f:Fr}{e:gL}(a:e.eE=0):eT f e=[]:=by unfold eT;rw[if_neg (by simpa using a)]
theorem ri{f:Fr}{e:gL}{h:Int}(c:0<=e.eE/\e.eE<=2):h∈bu f e↔cE f e h=true:=by
 unfold cE;by_cases a:e.eE=0
 . rw[if_pos a]
   unfold bu;rw[Ch a,if_pos ⟨by omega,by simp⟩];simp[eq_comm]
 rw[if_neg a];by_cases b:e.eE=1
 . rw[if_pos b]
   unfold bu;rw[if_neg (by simp[b]),xc a,nA]
 . rw [if_neg b,Bool.or_eq_true,decide_eq_true_eq,nA,<-xc a]
   unfold bu;split
   . rw[List.mem_append,List.mem_singleton]
     constructor
     . rintro(h|h)
       . exact .inr h
       . exact .inl h.symm
     . rintro(h|h)
       . exact .inr h.symm
       . exact .inl h
   . next q=>
     have q:e.aG∈eT f e:=by refine Classical.byContradiction λg=>q ⟨b,g⟩
     constructor
     . exact .inr
     . rintro(h|h)
       . subst h;exact q
       . exact h
theorem Ci:∀{l c:List Int},l.Pairwise (·<·)->c.Pairwise (·<·)->(∀x,x∈l↔x∈c)->l=c
 |[],[],_,_,_=>rfl
 |[],b::c,_,_,h=>absurd ((h b).2 (by simp)) (by simp)
 |a::l,[],_,_,h=>absurd ((h a).1 (by simp)) (by simp)
 | a :: l,b::c,k,m,h=>by
   obtain⟨i,n⟩:=List.pairwise_cons.1 k;obtain⟨j,o⟩:=List.pairwise_cons.1 m
   have e:a=b:=by
    have d:=(h a).1 (by simp);have hb:=(h b).2 (by simp);rcases List.mem_cons.1 d with d|d
    . exact d
    . rcases List.mem_cons.1 hb with hb|hb
      . exact hb.symm
      . have:=i b hb
        have:=j a d;omega
   subst e;rw[Ci n o λx=>?_];have g:=h x;simp only[List.mem_cons]at g;constructor
   . intro f
     have:=i x f;rcases g.1 (.inr f)with e|e
     . omega
     . exact e
   . intro f
     have:=j x f;rcases g.2 (.inr f)with e|e
     . omega
     . exact e
theorem IT{h:Int}:h∈qu↔-3<=h/\h<=30:=by
 unfold qu;rw[List.mem_map];constructor
 . rintro⟨i,a,rfl⟩
   have:=List.mem_range.1 a;omega
 . rintro⟨b,c⟩
   exact⟨(h+3).toNat,List.mem_range.2 (by omega),by omega⟩
theorem Fv{f:Fr}(b:f.Good){e:gL}(c:e∈f.aq){h:Int}(a:cE f e h=true):-3<=h/\h<=30:=by
 have hb:=(lK (b.vr e c)).2.2.2.1;have d:=b.fr;have g:=b.to;unfold cE at a;split at a
 . have:=of_decide_eq_true a;omega
 split at a
 . have:=nA.1 a;omega
 . rw[Bool.or_eq_true,decide_eq_true_eq,nA]at a
   omega
theorem yz{f:Fr}(g:f.Good){l:List Int}(d:l≠[])(i:∀n∈l,0<=n/\n<f.aq.length){h:Int}:h∈je f l↔∀j∈l,h∈bu f (aO f j):=by
 unfold je;rw[List.mem_filter,IT,List.all_eq_true];have e:∀j∈l,0<=(aO f j).eE/\(aO f j).eE<=2:=λj b=>(lK (g.vr _ (ke (i j b)))).2.2.2.2.1
 constructor
 . rintro⟨_,c⟩ j b
   exact(ri (e j b)).2 (c j b)
 . intro c
   obtain⟨a,r,rfl⟩:=List.exists_cons_of_ne_nil d;refine⟨Fv g (ke (i a (by simp))) ((ri (e a (by simp))).1 (c a (by simp))),λj b=>(ri (e j b)).1 (c j b)⟩
def qv(a b:List Int):Int:=(((List.range 5).filter λi:Nat=>decide ((i:Int)∈a)!=decide ((i:Int)∈b)).length:Int)
def Dr:List (List Int):=(List.range 32).map λx:Nat=>((List.range 5).map λi:Nat=>(i:Int)).filter λi=>x.testBit i.toNat
theorem AC:∀{l:List Int}{p:Option Int},kj p l=0->(∀q,p=some q->∀x∈l,q<x)/\l.Pairwise (·<·)
 |[],p,_=>⟨λ_ _ x b=>(by cases b),List.Pairwise.nil⟩
 | a::l,p,h=>by
   unfold kj at h;split at h
   . cases h
   split at h
   . cases h
   next d=>
   obtain⟨e,f⟩:=AC h;have b:∀x∈l,a<x:=e a rfl;refine⟨λq g x c=>?_,List.pairwise_cons.2 ⟨b,f⟩⟩;subst g;have:q<a:=by simpa[np]using d
   rcases List.mem_cons.1 c with rfl|hm
   . exact this
   . have:=b x hm;omega
theorem Fw:∀a b c d e:Bool,(((List.range 5).map λi:Nat=>(i:Int)).filter λi=>[a,b,c,d,e].getD i.toNat false)∈Dr:=by decide +kernel
theorem xd{l:List Int}(h:kj none l=0):l∈Dr:=by
 have c:=mC h;have d:=(AC h).2
 have:l=((List.range 5).map λi:Nat=>(i:Int)).filter λi=>[decide ((0:Int)∈l),decide ((1:Int)∈l),decide ((2:Int)∈l),decide ((3:Int)∈l),decide ((4:Int)∈l)].getD i.toNat false:=by
  refine Ci d ?_ λx=>?_
  . refine List.Pairwise.filter _ ?_
    rw[List.pairwise_map];exact List.pairwise_lt_range.imp λh=>by omega
  . rw[List.mem_filter,List.mem_map]
    constructor
    . intro a
      have hb:=c x a;refine⟨⟨x.toNat,List.mem_range.2 (by omega),by omega⟩,?_⟩;have:x=0\/x=1\/x=2\/x=3\/x=4:=by omega
      rcases this with rfl|rfl|rfl|rfl|rfl<;>simpa using a
    . rintro⟨⟨i,b,rfl⟩,a⟩
      have b:=List.mem_range.1 b;have:i=0\/i=1\/i=2\/i=3\/i=4:=by omega
      rcases this with rfl|rfl|rfl|rfl|rfl<;>simpa using a
 rw[this];exact Fw _ _ _ _ _
theorem Kx:∀a∈Dr,∀b∈Dr,qv a b=bc (aT a) (aT b):=by decide +kernel
theorem AE{a b:List Int}(c:kj none a=0)(hb:kj none b=0):qv a b=bc (aT a) (aT b):=Kx _ (xd c) _ (xd hb)
def vR(f:Fr)(l:List Int):List Int:=((List.range f.aq.length).map λi:Nat=>(i:Int)).filter λi=>decide (i∈l)
def yA(f:Fr)(l:List Int):Bool:=l.all λn=>decide ((aO f n).bk=(aO f (l.getD 0 0)).bk)
def sI(f:Fr)(l:List Int):Bool:=yA f l && decide (je f l≠[]) && !bx f (aI f (vR f l))
theorem Ky(f:Fr)(l:List Int):(vR f l).Pairwise (·<·):=by refine List.Pairwise.filter _ ?_;rw[List.pairwise_map];exact List.pairwise_lt_range.imp λh=>by omega
theorem AF{f:Fr}{l:List Int}{x:Int}:x∈vR f l↔(0<=x/\x<f.aq.length)/\x∈l:=by
 unfold vR;rw[List.mem_filter,List.mem_map,decide_eq_true_eq];constructor
 . rintro⟨⟨i,a,rfl⟩,h⟩
   have:=List.mem_range.1 a;exact⟨by omega,h⟩
 . rintro⟨b,h⟩
   exact⟨⟨x.toNat,List.mem_range.2 (by omega),by omega⟩,h⟩
theorem Kz{f:Fr}{l:List Int}(h:l.Pairwise (·<·))(a:∀n∈l,0<=n/\n<f.aq.length):vR f l=l:=Ci (Ky f l) h λx=>AF.trans ⟨λh=>h.2,λh=>⟨a x h,h⟩⟩
theorem IU(f:Fr){l:List Int}(b:l≠[]):yA f l=!cR f (aI f l):=by
 have g:=iN f l;have d:∀n,n∈aI f l↔n∈l:=λn=>g.mem_iff
 have z:∀{r:List Int},r≠[]->r.getD 0 0∈r:=λ{r} h=>by
  match r,h with
  |a::r,_=>simp
 have c:aI f l≠[]:=λe=>by rw[e]at g;exact b (List.nil_perm.1 g)
 rw[Bool.eq_iff_iff];unfold yA cR;rw[Bool.not_eq_true',List.any_eq_false,List.all_eq_true];simp only[decide_eq_true_eq,Decidable.not_not];have j:=z b;have k:=z c;constructor
 . intro h x i
   rw[h x ((d x).1 i),h _ ((d _).1 k)]
 . intro h x i
   rw[h x ((d x).2 i),h _ ((d _).2 j)]
theorem Cj{f:Fr}(k:f.Good){l:List Int}(a:l≠[])(m:∀n∈l,0<=n/\n<f.aq.length):decide (je f l≠[])=!bO f (aI f l):=by
 have c:=iN f l;have i:∀n,n∈aI f l↔n∈l:=λn=>c.mem_iff
 have b:aI f l≠[]:=λe=>by rw[e]at c;exact a (List.nil_perm.1 c)
 have key:∀x,x∈je f l↔x∈du f (aI f l):=λx=>by rw[yz k a m,sW b];exact⟨λh j d=>h j ((i j).1 d),λh j d=>h j ((i j).2 d)⟩
 unfold bO;rw[Bool.eq_iff_iff,Bool.not_eq_true',decide_eq_true_eq,decide_eq_false_iff_not];constructor
 . intro h e
   obtain⟨x,g⟩:=List.exists_mem_of_ne_nil _ h;have:=(key x).1 g;rw[e]at this;cases this
 . intro h e
   obtain⟨x,g⟩:=List.exists_mem_of_ne_nil _ h;have:=(key x).2 g;rw[e]at this;cases this
theorem yB{f:Fr}(d:f.Good){l:List Int}(a:l≠[])(b:l.Pairwise (·<·))(c:∀n∈l,0<=n/\n<f.aq.length):sI f l=decide (kU f l=0):=by unfold sI;rw[Kz b c,IU f a,Cj d a c,Bool.eq_iff_iff,decide_eq_true_eq,u0];simp[and_assoc]
def kJ(f:Fr)(begun:List Int)(rest:List Int->List (List Int))(k:Nat):List (List Int):=if sI f (bF (begun++[(k:Int)]) k)=true then rest (begun++[(k:Int)])else[]
def cW(f:Fr)(out:List Int):Nat->List Int->List (List Int)
 |0,begun=>[begun]
 |n+1,begun=>if(begun.length:Int)∈out then cW f out n (begun++[-1])else(List.range (min (bf begun+1) f.most).toNat).flatMap (kJ f begun (cW f out n))
theorem o6(w:List Int)(k:Int):(bF w k).Pairwise (·<·):=(se k w 0).1
theorem va{f:Fr}(l:f.Good):∀(fuel:Nat) (cG b:List Int),cG.length+fuel=f.aq.length->Hs f cG.length b->(∀k:Nat,k<6->bS (b.getD k 0)=bF cG k) ->
 dI f [] fuel cG (bf cG) b=cW f [] fuel cG
 |0,cG,b,_,_,_=>by simp[dI,cW]
 | fuel+1,cG,b,u,m,hb=>by
   have o:=l.most;have v:=l.sH;have r:=sc cG;rw[mD,cW,if_neg (by simp)]
   refine lP λk q=>?_
   have q:=List.mem_range.1 q;have c:k<6:=by omega
   have a:k<b.length:=by rw[m.sH];exact c
   have d:b.getD k 0=b[k]:=by rw[List.getD_eq_getElem?_getD,List.getElem?_eq_getElem a];rfl
   have g:cG.length<6:=by omega
   have h:bS (bw b[k] cG.length)=bF (cG++[(k:Int)]) k:=by rw[Fu (m.small _ (List.getElem_mem a)) g (m.bits _ (List.getElem_mem a)),<-d,hb k c,dC,if_pos rfl]
   unfold lM kJ;rw[if_neg (by simp),d]
   have i:jb f (bw b[k] cG.length)=sI f (bF (cG++[(k:Int)]) k):=by
    unfold jb;rw[h,yB l (by rw[dC,if_pos rfl];simp) (o6 _ _) λn s=>?_]
    have:=ny s;simp at this;omega
   rw[i,<-oz];have p:=m.set g a;rw[va l fuel _ _ (by simp;omega) (by simpa using p) λj t=>?_]
   by_cases e:j=k
   . subst e
     rw[List.getD_eq_getElem?_getD,List.getElem?_set_self a];exact h
   . rw[List.getD_eq_getElem?_getD,List.getElem?_set_ne (Ne.symm e),<-List.getD_eq_getElem?_getD,hb j t,dC,if_neg (by omega),List.append_nil]
theorem vb{f:Fr}(h:f.Good):cW f [] f.aq.length []=au f []:=by
 have d:bS 0=[]:=by decide +kernel
 have a:∀x∈([0,0,0,0,0,0]:List Int),x=0:=λx b=>by simpa using b
 have i:Hs f ([]:List Int).length [0,0,0,0,0,0]:=⟨rfl,λx b e g=>by rw[a x b,d]at g;exact absurd g List.not_mem_nil,λx b=>by rw[a x b];omega⟩
 have c:∀k:Nat,k<6->bS (([0,0,0,0,0,0]:List Int).getD k 0)=bF [] k:=λk j=>by
  have:([0,0,0,0,0,0]:List Int).getD k 0=0:=by
   match k,j with
   |0,_=>rfl
   |1,_=>rfl
   |2,_=>rfl
   |3,_=>rfl
   |4,_=>rfl
   |5,_=>rfl
  rw[this,d];rfl
 exact(va h f.aq.length [] [0,0,0,0,0,0] (by simp) i c).symm
end Go.Proofs.YtldmpfccgajobaaGreatDoor
namespace Go.Proofs.YtldmpfccgajobaaGreatDoor
open Tryz (prog)
open Go.bG Go.Conc
set_option maxHeartbeats 1000000
variable{m:Mo}{σ:aa}{KF:eI->aa->Prop}
theorem cy{n b c:Int}(h:KF (.val (bool (cK n b c))) σ):ar prog m 83 [int n,int b,int c] σ KF:=by
 unfold cK at h;refine fs [] 3 Tryz.func83 rfl rfl (by rfl) (by kernel_rfl) ?_;simp[Tryz.f83];refine sK.intro (λa=>?_) (λa=>?_)<;>(try simp[-Int.not_lt,-Int.not_le,-Nat.not_lt,-Nat.not_le]at a)<;>(try simp[a]at h)<;>(try simp[a])<;>(try exact .done h)
theorem sX{l:List Int}{n:Int}(i:l.length<1152921504606846976)(h:KF (.val (bool (decide (n∈l)))) σ):ar prog m 128 [ints l,int n] σ KF:=by
 refine fs [] 2 Tryz.func128 rfl rfl (by rfl) (by kernel_rfl) ?_;simp[Tryz.f128];refine ab.loop l.length (λk s=>∃env,s=⟨env,σ,[],.no⟩/\env 0=ints l/\env 1=int n/\env 5=int k/\n∉l.take k) ⟨_,rfl,by simp⟩ ?_;rintro j k _ o ⟨env,rfl,b,f,c,d⟩ g;rcases Nat.lt_or_ge k l.length with g1|g1
 . have e:(k:Int)<l.length:=by omega
   have f1:-9223372036854775808<=(k:Int)+1/\(k:Int)+1<=9223372036854775807:=by omega
   refine rn ?_;simp[b,f,c,g1,e];refine aB.intro (λa=>?_) (λa=>?_)<;>(try simp[-Int.not_lt,-Int.not_le,-Nat.not_lt,-Nat.not_le]at a)<;>(try simp[c,a])
   . have:n∈l:=by rw[<-a];exact List.getElem_mem g1
     simp[this]at h;exact .done h
   . exact⟨by omega,g _ g1 ⟨_,rfl,by simp[b],by simp[f],by simp,qc g1 d a⟩⟩
 . have:k=l.length:=by omega
   subst this;rw[List.take_length]at d;refine rn ?_;simp[b,c];simp[d]at h;exact .done h
theorem sm{f:Fr}{n:Int}(a:f.aq.length<1152921504606846976)(h:KF (.val (bool (cK n 0 (f.aq.length-1)))) σ):ar prog m 118 [aA f,int n] σ KF:=by
 have f1:-9223372036854775808<=(f.aq.length:Int)-1/\(f.aq.length:Int)-1<=9223372036854775807:=by omega
 refine fs [] 2 Tryz.func118 rfl rfl (by rfl) (by kernel_rfl) ?_;simp[Tryz.f118,f1.1,f1.2];refine cf Tryz.func83 rfl (cy ?_);refine rn ?_;simp;exact .done h
theorem vd{f:Fr}{e:gL}(w:f.roads.length<1152921504606846976)(x:e.marks.length<1152921504606846976)(h:KF (.val (int (bp f.roads.length e))) σ):ar prog m 84 [aA f,bd e] σ KF:=by
 unfold bp at h;have f1:-9223372036854775808<=(f.roads.length:Int)-1/\(f.roads.length:Int)-1<=9223372036854775807:=by omega
 refine fs Qt 2 Tryz.func84 rfl rfl (by rfl) (by kernel_rfl) ?_;simp[Tryz.f84];refine cf Tryz.func83 rfl (cy ?_);refine rn ?_;simp;refine aB.intro (λi=>?_) (λi=>?_)<;>(try simp[-Int.not_lt,-Int.not_le,-Nat.not_lt,-Nat.not_le]at i)<;>(try simp[i]at h)<;>(try simp[i,f1.1,f1.2])<;>(try exact .done h);refine cf Tryz.func83 rfl (cy ?_);refine rn ?_;simp;refine aB.intro (λj=>?_) (λj=>?_)<;>(try simp[-Int.not_lt,-Int.not_le,-Nat.not_lt,-Nat.not_le]at j)<;>(try simp[j]at h)<;>(try simp[j])<;>(try exact .done h);refine cf Tryz.func83 rfl (cy ?_);refine rn ?_;simp;refine aB.intro (λl=>?_) (λl=>?_)<;>(try simp[-Int.not_lt,-Int.not_le,-Nat.not_lt,-Nat.not_le]at l)<;>(try simp[l]at h)<;>(try simp[l])<;>(try exact .done h)
 refine ab.loop e.marks.length (λk s=>∃env,s=⟨env,σ,[],.no⟩/\env 2=.cp (aA f) 0/\env 3=.cp (bd e) 0/\env 5=int k/\kj none e.marks=kj (if k=0 then none else e.marks[k-1]?) (e.marks.drop k)) ⟨_,rfl,by simp⟩ ?_;rintro y k _ z ⟨env,rfl,p,d,g,a⟩ q;rcases Nat.lt_or_ge k e.marks.length with g4|g4
 . have o:(k:Int)<e.marks.length:=by omega
   have A:-9223372036854775808<=(k:Int)+1/\(k:Int)+1<=9223372036854775807:=by omega
   rw[Dg _ k g4]at a;refine rn ?_;simp[d,g,g4,o];refine cf Tryz.func83 rfl (cy ?_);refine rn ?_;simp;refine aB.intro (λb=>?_) (λb=>?_)<;>(try simp[-Int.not_lt,-Int.not_le,-Nat.not_lt,-Nat.not_le]at b)<;>(try simp[b]at a)<;>(try simp[g,b])<;>(try exact .done a)
   . refine F9.intro (λc=>?_) (λc=>?_)<;>(try simp[-Int.not_lt,-Int.not_le,-Nat.not_lt,-Nat.not_le]at c)<;>(try simp[c]at a)<;>(try simp[d,g,c,g4])<;>(try exact .done a)
     . have t:(k:Int)-1=((k-1:Nat):Int):=by omega
       have r:k-1<e.marks.length:=by omega
       have u:¬k=0:=by omega
       simp[t,r];repeat refine⟨by omega,?_⟩
       try simp[r,u,np]at a
       refine rn ?_;simp;refine aB.intro (λn=>?_) (λn=>?_)<;>(try simp[-Int.not_lt,-Int.not_le,-Nat.not_lt,-Nat.not_le]at n)<;>(try simp[n]at a)<;>(try simp[g,n])<;>(try exact .done a)
       . simp[a]at h
         exact .done h
       . refine⟨by omega,q _ g4 ⟨_,rfl,by simp[p],by simp[d],by simp,?_⟩⟩
         simp[a,g4]
     . have v:k=0:=by omega
       subst v;simp[np]at a;refine rn ?_;simp[g];refine q _ g4 ⟨_,rfl,by simp[p],by simp[d],by simp,?_⟩;simp[a,g4]
   . simp[a]at h
     exact .done h
 . have:k=e.marks.length:=by omega
   subst this;simp[kj]at a;simp[a]at h;refine rn ?_;simp[d,g];refine cf Tryz.func83 rfl (cy ?_);refine rn ?_;simp;refine aB.intro (λb=>?_) (λb=>?_)<;>(try simp[-Int.not_lt,-Int.not_le,-Nat.not_lt,-Nat.not_le]at b)<;>(try simp[b]at h)<;>(try simp[d,b])<;>(try exact .done h);refine cf Tryz.func83 rfl (cy ?_);refine rn ?_;simp;refine aB.intro (λc=>?_) (λc=>?_)<;>(try simp[-Int.not_lt,-Int.not_le,-Nat.not_lt,-Nat.not_le]at c)<;>(try simp[c]at h)<;>(try simp[c])<;>(try exact .done h)
def ve(r:List (List Int))(i j:Nat):Bool:=(decide (i=j) && rd r i j !=0)||rd r i j !=rd r j i||(List.range r.length).any λk=>decide (rd r i j>rd r i k+rd r k j)
theorem Fx{r:List (List Int)}{i j:Nat}(b:ve r i i=false)(a:ve r i j=false):bE r i j=false:=by unfold ve at b a;unfold bE;simp only[Bool.or_eq_false_iff,decide_true,Bool.true_and]at b a ⊢;exact⟨⟨b.1.1,a.1.2⟩,a.2⟩
theorem vf{r:List (List Int)}(hr:r.length<1152921504606846976)(hl:∀l∈r,l.length<1152921504606846976)(h:KF (.val (int (dQ r))) σ):ar prog m 82 [rows r] σ KF:=by
 unfold dQ at h;refine fs Qs 1 Tryz.func82 rfl rfl (by rfl) (by kernel_rfl) ?_
 simp[Tryz.f82];refine aB.intro (λU=>?_) (λU=>?_)<;>simp at U<;>simp[U]
 . rw[if_pos (show r.length<1 by simp[U])]at h
   exact .done h
 have P:¬r.length<1:=λq=>U (List.length_eq_zero_iff.1 (by omega))
 refine aB.intro (λg2=>?_) (λg2=>?_)<;>simp at g2<;>simp[g2]
 . have I:3<r.length:=by omega
   rw[if_neg P,if_pos I]at h;exact .done h
 have I:¬3<r.length:=by omega
 rw[if_neg P,if_neg I]at h;refine ab.loop r.length (λk s=>∃env,s=⟨env,σ,[],.no⟩/\env 0=rows r/\env 3=int r.length/\env 4=int k/\dL r.length r=dL r.length (r.drop k)) ⟨_,rfl,by simp⟩ ?_
 rintro c0 k _ Q ⟨env,rfl,b,a,A,u⟩ ih
 rcases Nat.lt_or_ge k r.length with g4|g4
 . have V:(k:Int)<r.length:=by omega
   rw[uH _ _ k g4]at u;obtain⟨l,v⟩:∃l,l=r[k]:=⟨_,rfl⟩;have b3:l.length<1152921504606846976:=hl l (by rw[v];exact List.getElem_mem g4)
   by_cases g5:l.length=r.length
   . have J:((l.length:Int) !=r.length)=false:=by simp[g5]
     rw[<-v]at u;refine rn ?_;simp[b,a,A,g4,V,v.symm,J];refine ab.loop l.length (λj s=>∃env,s=⟨env,σ,[],.no⟩/\env 0=rows r/\env 3=int r.length/\env 4=int k/\env 5=int j/\(l.take j).all (cK · 0 9)=true) ⟨_,rfl,by simp[b,a,A]⟩ ?_
     clear b a A
     rintro c1 j _ R ⟨env,rfl,b,a,A,h5,w⟩ C
     rcases Nat.lt_or_ge j l.length with g6|g6
     . have x:(j:Int)<r.length:=by omega
       refine rn ?_;simp[b,a,A,h5,g4,v.symm,g6,x];refine cf Tryz.func83 rfl (cy ?_);refine rn ?_;simp;refine aB.intro (λW=>?_) (λW=>?_)<;>(try simp[-Int.not_lt,-Int.not_le,-Nat.not_lt,-Nat.not_le]at W)<;>(try simp[h5,W])
       . refine⟨by omega,C _ g6 ⟨_,rfl,by simp[b],by simp[a],by simp[A],by simp,?_⟩⟩
         rw[List.take_succ_eq_append_getElem g6,List.all_append,w];simp[W]
       . have:l.all (cK · 0 9)=false:=by
          rw[List.all_eq_false];exact⟨_,List.getElem_mem g6,by simp[W]⟩
         simp[gh,g5,this]at u;simp[u]at h;exact .done h
     . have:j=l.length:=by omega
       subst this;have X:¬(l.length:Int)<r.length:=by omega
       rw[List.take_length]at w;have a8:gh r.length l=0:=by unfold gh;rw[if_neg (by simp[g5]),if_pos w]
       rw[if_pos a8]at u;refine rn ?_;simp[a,A,h5,X];exact⟨by omega,ih _ g4 ⟨_,rfl,by simp[b],by simp[a],by simp,u⟩⟩
   . have J:((l.length:Int) !=r.length)=true:=by
      have:¬(l.length:Int)=r.length:=by omega
      simp[this]
     rw[<-v]at u;simp[gh,g5]at u;simp[u]at h;refine rn ?_;simp[b,a,A,g4,V,v.symm,J];exact .done h
 have:k=r.length:=by omega
 subst this;simp[dL]at u;rw[if_neg (by rw[u];simp)]at h
 clear ih;have d:∀(i:Nat) (B:i<r.length),r[i].length=r.length:=λi B=>(fB u _ (List.getElem_mem B)).1
 have D:∀(i:Nat) (B:i<r.length) (j:Nat) (R:j<r[i].length),0<=r[i][j]/\r[i][j]<=9:=λi B j R=>fX ((fB u _ (List.getElem_mem B)).2 _ (List.getElem_mem R))
 have p:∀i j,i<r.length->j<r.length->bE r i j=true->KF (.val (int 9)) σ:=λi j g5 g6 hb=>by
  have:((List.range r.length).any λi=>(List.range r.length).any λj=>bE r i j)=true:=List.any_eq_true.2 ⟨i,List.mem_range.2 g5,List.any_eq_true.2 ⟨j,List.mem_range.2 g6,hb⟩⟩
  rw[if_pos this]at h;exact h
 have n4:¬(r.length:Int)<r.length:=by omega
 refine rn ?_;simp[a,A,n4];refine ab.loop r.length (λi s=>∃env,s=⟨env,σ,[],.no⟩/\env 0=rows r/\env 3=int r.length/\env 6=int i/\∀i'<i,∀j<r.length,ve r i' j=false) ⟨_,rfl,by simp[b,a]⟩ ?_
 clear b a A
 rintro c1 i _ B ⟨env,rfl,b,a,c,n⟩ ih
 rcases Nat.lt_or_ge i r.length with g5|g5
 . have Y : (i : Int)<r.length:=by omega
   refine rn ?_;simp[a,c,Y];refine ab.loop r.length (λj s=>∃env,s=⟨env,σ,[],.no⟩/\env 0=rows r/\env 3=int r.length/\env 6=int i/\env 7=int j/\∀f<j,ve r i f=false) ⟨_,rfl,by simp[b,a,c]⟩ ?_
   clear b a c
   rintro c2 j _ R ⟨env,rfl,b,a,c,g,K⟩ C
   rcases Nat.lt_or_ge j r.length with g6|g6
   . have x : (j:Int)<r.length:=by omega
     have q1:i<r[i].length:=by rw[d i g5];exact g5
     have t:j<r[i].length:=by rw[d i g5];exact g6
     have S:i<r[j].length:=by rw[d j g6];exact g5
     have a9:((i:Int)==(j:Int))=decide (i=j):=by
      by_cases e:i=j
      . simp[e]
      . have:¬(i:Int)=j:=by omega
        simp[e,this]
     by_cases Z:i=j/\r[i][j]≠0
     . obtain⟨rfl,Z⟩:=Z
       have ad:(r[i][i] !=0)=true:=by simpa using Z
       refine rn ?_;simp[b,a,c,g,Y,g5,q1,ad];refine rn ?_;simp;exact .done (p i i g5 g5 (by unfold bE;rw[cI g5 q1];simp[Z]))
     have L:i=j->r[i][j]=0:=λe=>Classical.byContradiction λq=>Z ⟨e,q⟩
     by_cases T:r[i][j]=r[j][i]
     . have E:(r[i][j] !=r[j][i])=false:=by simpa using T
       have hz:∃bq:Bool,((i:Int)==(j:Int))=bq/\(bq=true->(r[i][j]!=0)=false):=⟨_,rfl,λq=>by
        have e:i=j:=by have:=of_decide_eq_true q;omega
        simp[L e]⟩
       obtain⟨bq,a7,al⟩:=hz;cases bq
       . refine rn ?_
         simp[b,a,c,g,g5,x,g6,t,S,a7,E];refine rn ?_;simp
         ((
           refine ab.loop r.length (λk s=>∃env,s=⟨env,σ,[],.no⟩/\env 0=rows r/\env 3=int r.length/\env 6=int i/\env 7=int j/\env 8=int k/\∀y<k,¬rd r i j>rd r i y+rd r y j) ⟨_,rfl,by simp[b,a,c,g]⟩ ?_
           clear b a c g
           rintro c3 k _ Q ⟨env,rfl,b,a,c,g,M,z⟩ N
           rcases Nat.lt_or_ge k r.length with g9|g9
           . have O:(k:Int)<r.length:=by omega
             have F:k<r[i].length:=by rw[d i g5];exact g9
             have G:j<r[k].length:=by rw[d k g9];exact g6
             have av:=D i g5 k F;have ax:=D k g9 j G;have f1:-9223372036854775808<=r[i][k]+r[k][j]:=by omega
             have f2:r[i][k]+r[k][j]<=9223372036854775807:=by omega
             refine rn ?_;simp[b,a,c,g,M,O,g5,g6,g9,t,F,G,f1,f2];refine rn ?_
             by_cases o:r[i][k]+r[k][j]<r[i][j]
             . simp[o]
               refine .done (p i j g5 g6 ?_);unfold bE;have:((List.range r.length).any λk=>decide (rd r i j>rd r i k+rd r k j))=true:=List.any_eq_true.2 ⟨k,List.mem_range.2 g9,by rw[cI g5 t,cI g5 F,cI g9 G];simpa using o⟩
               rw[this];simp
             . simp[o,b,a,c,g,M]
               refine⟨by omega,N _ g9 ⟨_,rfl,by simp[b],by simp[a],by simp[c],by simp[g],by simp,λy ay=>?_⟩⟩
               by_cases e:y=k
               . subst e
                 rw[cI g5 t,cI g5 F,cI g9 G];omega
               . exact z y (by omega)
           . have:k=r.length:=by omega
             subst this;have n9:¬(r.length:Int)<r.length:=by omega
             refine rn ?_;simp[b,a,c,g,M,n9];refine⟨by omega,C _ g6 ⟨_,rfl,by simp[b],by simp[a],by simp[c],by simp,λf H=>?_⟩⟩
             by_cases e:f=j
             . subst e
               unfold ve
               have P:((List.range r.length).any λk=>decide (rd r i f>rd r i k+rd r k f))=false:=by rw[List.any_eq_false];intro k Q;simpa using z k (List.mem_range.1 Q)
               have I:(decide (i=f) && rd r i f !=0)=false:=by
                by_cases e:i=f
                . rw[cI g5 t,L e];simp
                . simp[e]
               have e3:rd r i f=rd r f i:=by rw[cI g5 t,cI g6 S];exact T
               rw[P,I,e3];simp
             . exact K f (by omega)))
       . have b0:=al rfl
         refine rn ?_;simp[b,a,c,g,g5,x,g6,t,S,a7,b0,E];refine rn ?_;simp
         ((
           refine ab.loop r.length (λk s=>∃env,s=⟨env,σ,[],.no⟩/\env 0=rows r/\env 3=int r.length/\env 6=int i/\env 7=int j/\env 8=int k/\∀y<k,¬rd r i j>rd r i y+rd r y j) ⟨_,rfl,by simp[b,a,c,g]⟩ ?_
           clear b a c g
           rintro c3 k _ Q ⟨env,rfl,b,a,c,g,M,z⟩ N
           rcases Nat.lt_or_ge k r.length with g9|g9
           . have O:(k:Int)<r.length:=by omega
             have F:k<r[i].length:=by rw[d i g5];exact g9
             have G:j<r[k].length:=by rw[d k g9];exact g6
             have av:=D i g5 k F;have ax:=D k g9 j G;have f1:-9223372036854775808<=r[i][k]+r[k][j]:=by omega
             have f2:r[i][k]+r[k][j]<=9223372036854775807:=by omega
             refine rn ?_;simp[b,a,c,g,M,O,g5,g6,g9,t,F,G,f1,f2];refine rn ?_
             by_cases o:r[i][k]+r[k][j]<r[i][j]
             . simp[o]
               refine .done (p i j g5 g6 ?_);unfold bE;have:((List.range r.length).any λk=>decide (rd r i j>rd r i k+rd r k j))=true:=List.any_eq_true.2 ⟨k,List.mem_range.2 g9,by rw[cI g5 t,cI g5 F,cI g9 G];simpa using o⟩
               rw[this];simp
             . simp[o,b,a,c,g,M]
               refine⟨by omega,N _ g9 ⟨_,rfl,by simp[b],by simp[a],by simp[c],by simp[g],by simp,λy ay=>?_⟩⟩
               by_cases e:y=k
               . subst e
                 rw[cI g5 t,cI g5 F,cI g9 G];omega
               . exact z y (by omega)
           . have:k=r.length:=by omega
             subst this;have n9:¬(r.length:Int)<r.length:=by omega
             refine rn ?_;simp[b,a,c,g,M,n9];refine⟨by omega,C _ g6 ⟨_,rfl,by simp[b],by simp[a],by simp[c],by simp,λf H=>?_⟩⟩
             by_cases e:f=j
             . subst e
               unfold ve
               have P:((List.range r.length).any λk=>decide (rd r i f>rd r i k+rd r k f))=false:=by rw[List.any_eq_false];intro k Q;simpa using z k (List.mem_range.1 Q)
               have I:(decide (i=f) && rd r i f !=0)=false:=by
                by_cases e:i=f
                . rw[cI g5 t,L e];simp
                . simp[e]
               have e3:rd r i f=rd r f i:=by rw[cI g5 t,cI g6 S];exact T
               rw[P,I,e3];simp
             . exact K f (by omega)))
     . have E:(r[i][j]!=r[j][i])=true:=by simpa using T
       have e:i≠j:=λe=>by subst e;exact T rfl
       have e':((i:Int)==(j:Int))=false:=by rw[a9];simp[e]
       refine rn ?_;simp[b,a,c,g,g5,x,g6,t,S,e',E];refine rn ?_;simp;exact .done (p i j g5 g6 (by unfold bE;rw[cI g5 t,cI g6 S];simp[T]))
   . have:j=r.length:=by omega
     subst this;have X:¬(r.length:Int)<r.length:=by omega
     refine rn ?_;simp[a,c,g,X];refine⟨by omega,ih _ g5 ⟨_,rfl,by simp[b],by simp[a],by simp,λi' b4 j H=>?_⟩⟩
     by_cases e:i'=i
     . subst e;exact K j H
     . exact n i' (by omega) j H
 . have:i=r.length:=by omega
   subst this
   have:((List.range r.length).any λi=>(List.range r.length).any λj=>bE r i j)=false:=by rw[List.any_eq_false];intro i B;rw[Bool.not_eq_true,List.any_eq_false];intro j R;rw[Bool.not_eq_true];exact Fx (n i (List.mem_range.1 B) i (List.mem_range.1 B)) (n i (List.mem_range.1 B) j (List.mem_range.1 R))
   rw[this]at h;have X:¬(r.length:Int)<r.length:=by omega
   refine rn ?_;simp[a,c,X];exact .done h
theorem xe{f:Fr}(b:f.Fits)(h:KF (.val (int (check f))) σ):ar prog m 34 [aA f] σ KF:=by
 unfold check at h;have u:=b.roads;have r:=b.aq;refine fs Qg 1 Tryz.func34 rfl rfl (by rfl) (by kernel_rfl) ?_;simp[Tryz.f34];refine cf Tryz.func82 rfl (vf b.roads b.row ?_);refine rn ?_;simp;refine aB.intro (λc=>?_) (λc=>?_)<;>(try simp[-Int.not_lt,-Int.not_le,-Nat.not_lt,-Nat.not_le]at c)<;>(try simp[c]at h)<;>(try simp[c])<;>(try exact .done h);refine cf Tryz.func83 rfl (cy ?_);refine rn ?_;simp;refine sK.intro (λd=>?_) (λd=>?_)<;>(try simp[-Int.not_lt,-Int.not_le,-Nat.not_lt,-Nat.not_le]at d)<;>(try simp[d]at h)<;>(try simp[d])<;>(try exact .done h);refine cf Tryz.func83 rfl (cy ?_);refine rn ?_;simp;refine aB.intro (λe=>?_) (λe=>?_)<;>(try simp[-Int.not_lt,-Int.not_le,-Nat.not_lt,-Nat.not_le]at e)<;>(try simp[e]at h)<;>(try simp[e])<;>(try exact .done h)
 refine aB.intro (λg=>?_) (λg=>?_)<;>(try simp[-Int.not_lt,-Int.not_le,-Nat.not_lt,-Nat.not_le]at g)<;>(try simp[g]at h)<;>(try simp[g])<;>(try exact .done h);refine cf Tryz.func83 rfl (cy ?_);refine rn ?_;simp;refine sK.intro (λi=>?_) (λi=>?_)<;>(try simp[-Int.not_lt,-Int.not_le,-Nat.not_lt,-Nat.not_le]at i)<;>(try simp[i]at h)<;>(try simp[i])<;>(try exact .done h);refine cf Tryz.func83 rfl (cy ?_);refine rn ?_;simp;refine aB.intro (λj=>?_) (λj=>?_)<;>(try simp[-Int.not_lt,-Int.not_le,-Nat.not_lt,-Nat.not_le]at j)<;>(try simp[j]at h)<;>(try simp[j])<;>(try exact .done h);refine aB.intro (λl=>?_) (λl=>?_)<;>(try simp[-Int.not_lt,-Int.not_le,-Nat.not_lt,-Nat.not_le]at l)<;>(try simp[l]at h)<;>(try simp[l])<;>(try exact .done h)
 refine ab.loop f.aq.length (λk s=>∃env,s=⟨env,σ,[],.no⟩/\env 1=.cp (aA f) 0/\env 4=int k/\dh (bp f.roads.length) f.aq=dh (bp f.roads.length) (f.aq.drop k)) ⟨_,rfl,by simp⟩ ?_;rintro v k _ w ⟨env,rfl,o,p,a⟩ t;rcases Nat.lt_or_ge k f.aq.length with g8|g8
 . have q:(k:Int)<f.aq.length:=by omega
   rw[rW _ _ k g8]at a;refine rn ?_;simp[o,p,g8,q];refine cf Tryz.func84 rfl (vd b.roads (b.marks _ (List.getElem_mem g8)) ?_);refine pg ?_;simp;refine rn ?_;simp;refine aB.intro (λn=>?_) (λn=>?_)<;>(try simp[-Int.not_lt,-Int.not_le,-Nat.not_lt,-Nat.not_le]at n)<;>(try simp[n]at a)<;>(try simp[p,n])<;>(try exact .done a)
   . rw[a]at h
     exact .done h
   . exact⟨by omega,t _ g8 ⟨_,rfl,by simp[o],by simp,a⟩⟩
 . have:k=f.aq.length:=by omega
   subst this;simp[dh]at a;rw[a]at h;refine rn ?_;simp[o,p];exact .done h
end Go.Proofs.YtldmpfccgajobaaGreatDoor
namespace Go.Proofs.YtldmpfccgajobaaGreatDoor
open Tryz (prog)
open Go.bG Go.Conc
set_option maxHeartbeats 1000000
set_option maxRecDepth 4000
variable{m:Mo}{σ:aa}{KF:eI->aa->Prop}
theorem AG{e:gL}(f:e.marks.length<=1000000000)(h:KF (.val (bd e)) σ):ar prog m 44 [bd e] σ KF:=by
 refine ar.start lay [1] [] 1 Tryz.func44 rfl rfl (by rfl) (by kernel_rfl) ?_
 simp[Tryz.f44];refine cZ.intro λg i=>?_
 simp;refine cZ.intro λj b=>?_
 obtain⟨k,d,b⟩:=aa.aL b;simp[d,aa.aj];refine cf Tryz.func25 rfl (uL f ?_);refine ab.run lay [1] ?_;simp[k,d,aa.aj,aJ];refine .less (λc x a=>?_) (.done h)
 have l:c≠g:=λe=>by subst e;rw[i]at a;cases a
 have n:c≠j:=λe=>by subst e;rw[b]at a;cases a
 simp[aa.aj,l,n,a]
theorem vg{r:List (List Int)}(B:r.length<=1000000)(t:∀l∈r,l.length<=1000000000)(h:KF (.val (rows r)) σ):ar prog m 58 [rows r] σ KF:=by
 refine ar.thaw ?_;refine fs [] 1 Tryz.func58 rfl rfl (by rfl) (by kernel_rfl) ?_
 simp[Tryz.f58];refine mw lay rfl lJ rfl cr rfl (by decide) rfl rfl (n:=r.length) (by simp) (by simp) ⟨by omega,by omega⟩ λb hb=>?_
 refine rn ?_;simp;refine ab.loop r.length (λi s=>∃env,s=⟨env,σ.set b (.cells (List.take i (List.map ints r)++List.replicate (r.length-i) (.lit (.slice none 0 0)))),[],.no⟩/\env 0=rows r/\env 3=.eu b 0 r.length r.length/\env 4=int i) ⟨_,by simp;rfl,by simp⟩ ?_
 rintro C i _ D ⟨env,rfl,d,f,g⟩ u
 rcases Nat.lt_or_ge i r.length with g1|g1
 . have v:(i:Int)<r.length:=by omega
   have f1:-9223372036854775808<=(i:Int)+1/\(i:Int)+1<=9223372036854775807:=by omega
   refine rn ?_;simp[d,f,g,g1];refine cf Tryz.func25 rfl (uL (t _ (List.getElem_mem g1)) ?_);have j:i+1<=min i r.length+(r.length-i):=by omega
   have a:List.take i (List.take i (List.map ints r)++List.replicate (r.length-i) (AV.lit (.slice none 0 0)))++AV.sl 1 (List.map int r[i]) .any::List.drop (i+1) (List.take i (List.map ints r)++List.replicate (r.length-i) (AV.lit (.slice none 0 0)))=List.take (i+1) (List.map ints r)++List.replicate (r.length-(i+1)) (.lit (.slice none 0 0)):=by
    have c:(List.take i (List.map ints r)).length=i:=by rw[List.length_take,List.length_map];omega
    obtain⟨q,w⟩:∃q,r.length-i=q+1:=⟨r.length-i-1,by omega⟩
    have k:r.length-(i+1)=q:=by omega
    have y:List.drop (i+1) (List.take i (List.map ints r)++List.replicate (r.length-i) (AV.lit (.slice none 0 0)))=List.replicate q (.lit (.slice none 0 0)):=by
     rw[List.drop_append,List.drop_eq_nil_of_le (by omega),c,w,Nat.add_sub_cancel_left]
     simp
    have z:List.take (i+1) (List.map ints r)=List.take i (List.map ints r)++[ints r[i]]:=by rw[List.take_succ_eq_append_getElem (by rw[List.length_map];exact g1),List.getElem_map]
    rw[List.take_left' c,y,z,k,List.append_assoc];rfl
   refine rn ?_;simp[g,g1,f1.1,f1.2,aJ,j,a];exact u _ g1 ⟨_,rfl,by simp[d,f]⟩
 . have o:i=r.length:=by omega
   subst o;refine rn ?_;simp[d,f,g];refine .done (bn.thaw (σ0:=σ) (kk:=1) (es:=r.map ints) ⟨aa.fa (aa.le_refl _) hb,.inr ⟨b,r.length,[],by simp,hb,by simp,λe p=>?_,?_,by simp⟩⟩ h)
   . obtain⟨x,_,rfl⟩:=List.mem_map.1 p
     rfl
   . rw[cY (λe p=>by obtain⟨x,_,rfl⟩:=List.mem_map.1 p;rfl),List.append_nil]
     have A:List.take r.length (List.map ints r)=List.map ints r:=List.take_of_length_le (by simp)
     simp[aa.an,A]
theorem AH{P:Program}{m:Mo}{fid n:Nat}{ro:Option Nat}{hold:List Entry}{K:bG.Exit->St->Prop}{todo:List Item}{D:List kL}{rc:Rec}{G:Prop}(I:Env->aa->Prop)
 (a:(∀env σ,I env σ->ab P m fid n ro hold todo ⟨env,σ,D,rc⟩ K)->G) (b:∀env σ,I env σ->ab P m fid n ro hold todo ⟨env,σ,D,rc⟩ K):G:=a b
abbrev IV:List AV:=[.lit (.slice none 0 0),.lit (.slice none 0 0),int 0,int 0,int 0,int 0]
theorem AI{f:Fr}(U:f.aq.length<=1000)(R:∀e∈f.aq,e.marks.length<=1000000000)(A:f.roads.length<=1000000)(B:∀r∈f.roads,r.length<=1000000000)(h:KF (.val (aA f)) σ):ar prog m 14 [aA f] σ KF:=by
 refine fs Qd 1 Tryz.func14 rfl rfl (by rfl) (by kernel_rfl) ?_
 simp[Tryz.f14];refine cZ.intro λu M=>?_
 simp;apply AH (I:=λenv σ'=>∃c,σ c=none/\c≠u/\env 1=.cp (aA f) 0/\env 2=.ref u 0/\env 3=.ref c 0/\σ'=(σ.set u (.cells IV)).set c (.cells [.lit (.slice none 0 0),rows f.roads,int f.bh,int f.gE,int f.cS,int f.most]))
 . intro d
   refine⟨?_,?_⟩
   . refine cf Tryz.func58 rfl (vg A B ?_)
     refine pg ?_;simp[aJ];refine⟨?_,?_⟩
     . refine pD.intro λc g=>?_
       obtain⟨n,C,g⟩:=aa.aL g;simp[aJ];exact d _ _ ⟨c,g,n,by simp,by simp,by simp,by simp⟩
     . refine pD.intro λc g=>?_
       obtain⟨n,C,g⟩:=aa.aL g;simp[aJ];exact d _ _ ⟨c,g,n,by simp,by simp,by simp,by simp⟩
   . refine pD.intro λc g=>?_
     obtain⟨n,C,g⟩:=aa.aL g;simp;refine cf Tryz.func58 rfl (vg A B ?_);refine pg ?_;simp[aJ];exact d _ _ ⟨c,g,n,by simp,by simp,by simp,by simp⟩
 . rintro env σ' ⟨c,g,n,o,v,p,rfl⟩
   have C:u≠c:=Ne.symm n;refine rn ?_;simp;have N:Tok σ ((σ.set u (.cells IV)).set c (.cells [.lit (.slice none 0 0),rows f.roads,int f.bh,int f.gE,int f.cS,int f.most])) (.lit (.slice none 0 0)) 6 []:=(Tok.nil σ 6).up (aa.fa (aa.fa (aa.le_refl _) M) (by rw[aa.aj _ _ n];exact g))
   refine ab.loop f.aq.length (λi s=>∃env σ' a,s=⟨env,σ',[],.no⟩/\env 1=.cp (aA f) 0/\env 2=.ref u 0/\env 3=.ref c 0/\env 4=int i/\σ' u=some (.cells IV)/\σ' c=some (.cells [a,rows f.roads,int f.bh,int f.gE,int f.cS,int f.most])/\Tok σ σ' a 6 ((f.aq.take i).map bd))
    ⟨_,_,.lit (.slice none 0 0),rfl,by simp[o],by simp[v],by simp[p],by simp,by rw[aa.aj _ _ C,aa.an],aa.an _ _ _,by simpa using N⟩ ?_
   clear o v p N
   rintro V i _ X ⟨env,σ',a,rfl,o,v,p,D,J,H,b⟩ S
   have w:=b.cells;have K:∀y l,σ' y=some (.cells l)->cH a≠some y:=λy l t e=>by obtain⟨_,_,q⟩:=b.be e;rw[t]at q;cases q
   rcases Nat.lt_or_ge i f.aq.length with g1|g1
   . have T:(i:Int)<f.aq.length:=by omega
     have f1:-9223372036854775808<=(i:Int)+1/\(i:Int)+1<=9223372036854775807:=by omega
     refine rn ?_;simp[o,p,D,H,g1]
     repeat' (first
               |apply And.intro
               | (refine cf Tryz.func44 rfl (AG (R _ (List.getElem_mem g1)) ?_)
                  refine pg ?_;simp[o,v,p,D,J,H,w.1,w.2,g1])
               | (refine aH lay rfl rfl rfl my rfl my rfl vL (by decide) (by simp;omega) (σ0:=σ'.off a) (es:=(f.aq.take i).map bd) (xs:=[bd f.aq[i]]) (by simpa using b.here.1) (.inr ⟨_,by simp;rfl⟩) λa' E z=>?_
                  have F:=z.cells;have O:∀y l,σ' y=some (.cells l)->E y=some (.cells l):=λy l t=>z.1 _ _ (by rw[aa.iA (K y l t)];exact t)
                  have P:=O _ _ H;have Q:=O _ _ J;refine pg ?_;simp[o,v,p,D,Q,P,F.1,F.2,aJ]))
     all_goals (
      refine rn ?_;simp[D,f1.1,f1.2]
      have G:Tok σ E a' 6 ((f.aq.take (i+1)).map bd):=by have:=z.base b.here.2;rw[List.take_succ_eq_append_getElem g1,List.map_append];simpa using this
      exact S _ g1 ⟨_,_,a',rfl,by simp[o],by simp[v],by simp[p],by simp,by rw[aa.aj _ _ C];exact Q,aa.an _ _ _,G.beside g (λe=>by obtain⟨_,_,q⟩:=G.be e;rw[P]at q;cases q)⟩)
   . have L:i=f.aq.length:=by omega
     subst L;rw[List.take_length]at b;refine rn ?_;simp[o,v,p,D,J,H,w.2,aJ];refine .less (σ':=σ) (λy x t=>?_) (.jm (a':=aA f) (ns rfl λi x y j k=>?_) (.done h))
     . rw[aa.aj _ _ (λe=>by subst e;rw[M]at t;cases t)]
       exact b.1 y x t
     . match i with
       |0=>simp at j k;subst j;subst k;exact b.W
       |1=>simp at j k;subst j;subst k;exact .refl _
       |2=>simp at j k;subst j;subst k;exact .refl _
       |3=>simp at j k;subst j;subst k;exact .refl _
       |4=>simp at j k;subst j;subst k;exact .refl _
       |5=>simp at j k;subst j;subst k;exact .refl _
       |i+6=>simp at j
def jf(a b:List Int):List Int:=a.filter λx=>decide (x∉b)
def O6(a b:List Int):Int:=((jf a b).length:Int)+((jf b a).length:Int)
theorem vh{a b:List Int}{i:Nat}(h:i<a.length):jf (a.take (i+1)) b=jf (a.take i) b++if a[i]∈b then[]else[a[i]]:=by
 unfold jf;rw[List.take_succ_eq_append_getElem h,List.filter_append];by_cases e:a[i]∈b<;>simp[e]
theorem lR(a b:List Int):(jf a b).length<=a.length:=List.length_filter_le _ _
def IW:List (List Int):=[[],[0],[1],[2],[0,1],[0,2],[1,2],[0,1,2]]
theorem AJ{l:List Int}(h:l.Sublist [0,1,2]):l∈IW:=by cases h<;>(rename_i h;cases h<;>(rename_i h;cases h<;>(rename_i h;cases h;decide)))
theorem KA:∀a∈IW,∀b∈IW,O6 a b=bc (aT a) (aT b):=by decide +kernel
theorem AL{a b:List Int}(c:a.Sublist [0,1,2])(hb:b.Sublist [0,1,2]):O6 a b=bc (aT a) (aT b):=KA _ (AJ c) _ (AJ hb)
theorem Ck{a b:List Int}(x:a.length<1000000)(hb:b.length<1000000)(h:KF (.val (int (O6 a b))) σ):ar prog m 106 [ints a,ints b] σ KF:=by
 refine fs [] 2 Tryz.func106 rfl rfl (by rfl) (by kernel_rfl) ?_
 simp[Tryz.f106];refine ab.loop a.length (λi s=>∃env,s=⟨env,σ,[],.no⟩/\env 0=ints a/\env 1=ints b/\env 5=int ((jf (a.take i) b).length:Int)/\env 6=int i) ⟨_,rfl,by simp[jf]⟩ ?_
 rintro u i _ v ⟨env,rfl,d,e,f,o⟩ n
 rcases Nat.lt_or_ge i a.length with g1|g1
 . have t:(i:Int)<a.length:=by omega
   have j:=lR (a.take i) b;rw[List.length_take]at j;have f1:-9223372036854775808<=(i:Int)+1/\(i:Int)+1<=9223372036854775807:=by omega
   have p:-9223372036854775808<=((jf (a.take i) b).length:Int)+1/\((jf (a.take i) b).length:Int)+1<=9223372036854775807:=by omega
   have c:=vh (b:=b) g1;refine rn ?_;simp[d,e,o,g1];refine cf Tryz.func105 rfl (qd (by omega) ?_)
   by_cases q:a[i]∈b
   . rw[if_pos q,List.append_nil]at c
     have k:¬od b a[i]<0:=by have:=(kb b a[i]).2 q;omega
     refine rn ?_;simp[o,k,f1.1,f1.2];refine n _ g1 ⟨_,rfl,by simp[d,e,c,f]⟩
   . rw[if_neg q]at c
     have k:od b a[i]<0:=by
      rcases Int.lt_or_le (od b a[i]) 0 with g|g
      . exact g
      . exact absurd ((kb b a[i]).1 g) q
     refine rn ?_;simp[f,o,k,f1.1,f1.2,p.1,p.2];refine n _ g1 ⟨_,rfl,by simp[d,e,c]⟩
 . have l:i=a.length:=by omega
   subst l;rw[List.take_length]at f;have w:=lR a b;refine rn ?_;simp[d,o];refine ab.loop b.length (λi s=>∃env,s=⟨env,σ,[],.no⟩/\env 0=ints a/\env 1=ints b/\env 5=int (((jf a b).length:Int)+((jf (b.take i) a).length:Int))/\env 7=int i) ⟨_,rfl,by simp[d,e,jf,f]⟩ ?_
   clear d e f o n
   rintro u i _ v ⟨env,rfl,d,e,f,r⟩ n
   rcases Nat.lt_or_ge i b.length with g1|g1
   . have t:(i:Int)<b.length:=by omega
     have j:=lR (b.take i) a;rw[List.length_take]at j;have f1:-9223372036854775808<=(i:Int)+1/\(i:Int)+1<=9223372036854775807:=by omega
     have p:-9223372036854775808<=((jf a b).length:Int)+((jf (b.take i) a).length:Int)+1/\((jf a b).length:Int)+((jf (b.take i) a).length:Int)+1<=9223372036854775807:=by omega
     have c:=vh (b:=a) g1;refine rn ?_;simp[d,e,r,g1];refine cf Tryz.func105 rfl (qd (by omega) ?_)
     by_cases q:b[i]∈a
     . rw[if_pos q,List.append_nil]at c
       have k:¬od a b[i]<0:=by have:=(kb a b[i]).2 q;omega
       refine rn ?_;simp[r,k,f1.1,f1.2];refine n _ g1 ⟨_,rfl,by simp[d,e,c,f]⟩
     . rw[if_neg q]at c
       have k:od a b[i]<0:=by
        rcases Int.lt_or_le (od a b[i]) 0 with g|g
        . exact g
        . exact absurd ((kb a b[i]).1 g) q
       refine rn ?_;simp[f,r,k,f1.1,f1.2,p.1,p.2];refine n _ g1 ⟨_,rfl,by simp[d,e,c,Int.add_assoc]⟩
   . have l:i=b.length:=by omega
     subst l;rw[List.take_length]at f;refine rn ?_;simp[e,f,r];exact .done h
end Go.Proofs.YtldmpfccgajobaaGreatDoor
