/- Part 4 of the proof. -/
import Derived.Test.YtigilmjkokbblaaGreatDoorN3
set_option linter.all false
namespace Go.Proofs.YtigilmjkokbblaaGreatDoor
open Go.bd
abbrev XR:List Entry:=[⟨41,.take [0] false (.both 1 (.take [2,3] false (.both 4 (.take [5,6,7,10] false (.one 8 (.one 9 (.done)))) (.one 8 (.one 4 (.take [5,6,7,10] false (.one 9 (.done))))))) (.one 8 (.one 1 (.take [2,3] false (.one 4 (.take [5,6,7,10] false (.one 9 (.done))))))))⟩]
abbrev P6:List Entry:=[⟨7,.take [0,1,2,3,4,5,6,7,8] true (.done)⟩,⟨18,.take [0,1,2,3,7] false (.one 4 (.one 5 (.take [6] true (.done))))⟩]
abbrev R3:List Entry:=[⟨19,.take [0,1,2,3,4,5,6,7,8,9,10,11] true (.done)⟩]
abbrev Kd:List Entry:=[⟨17,.take [0,1,2,3,4,5,6,7,9,13] false (.both 8 (.one 10 (.one 11 (.take [12] true (.done)))) (.one 10 (.one 8 (.one 11 (.take [12] true (.done))))))⟩]
abbrev UU:List Entry:=[⟨1,.take [0,1,2,3,4,5,6,7,8,9] true (.done)⟩]
end Go.Proofs.YtigilmjkokbblaaGreatDoor
namespace Go.Proofs.YtigilmjkokbblaaGreatDoor
open Go.bd Go.Conc
set_option maxHeartbeats 1000000
set_option maxRecDepth 4000
variable{m:Mo}{σ:aa}{KF:dV->aa->Prop}
theorem CB(r:m.solo=true){f:Fr}{l:List Int}{sp:cG}(o:f.Fits)(p:check f=0)(s:∀n∈l,0<=n/\n<f.aA.length)(j:l.length<1152921504606846976)(g:ao f []=[])(h:∀σ',σ.Le σ'->KF (.val (.bG [.lit (.pointer none),int 11])) σ'):aB Tryz.prog m 62 [aC f,.sl 1 (l.map int) sp] σ KF:=by
 have t:=Fr.hQ o p;have u:=ry p s;refine aB.start lay [] [] 2 Tryz.func62 rfl rfl (by rfl) (by kernel_rfl) ?_
 simp[Tryz.f62];have v:Wl [AV.agg (bO f),.sl 1 (l.map int) sp] [aC f,ints l]:=.cons (.refl _) (.cons (ck 1 _ sp) .nil);refine aH Tryz.func49 rfl rfl v (gq o j (λq=>absurd u q) λ_ b mb σ' d=>?_)
 have w:yA b 6 mb .u8 (dF f) σ':=by rw[d.eq];exact⟨aa.ak _ _ _,[],(aa.ag _ _ (Ne.symm d.ne)).trans (aa.ak _ _ _),λn a h=>by simp[gY]at h⟩
 refine ab.run lay [] ?_;simp;refine an Tryz.func74 rfl rfl (sK (fS nH nI tO r d.ne) t w λk B y=>?_)
 refine ab.run lay [] ?_;simp[g];refine .done (h k λc x i=>?_)
 have z:c≠b:=λe=>by subst e;rw[d.hb]at i;cases i
 have A:c≠mb:=λe=>by subst e;rw[d.vy]at i;cases i
 exact y c x (d.le c x i) z (.inl A)
end Go.Proofs.YtigilmjkokbblaaGreatDoor
namespace Go.Proofs.YtigilmjkokbblaaGreatDoor
open Go.bd Go.Conc
set_option maxHeartbeats 2000000
set_option maxRecDepth 4000
theorem Ke{f:Fr}(b:f.Good)(e:gX):bI f e≠[]:=by
 unfold bI fQ;have:=b.le;by_cases a:e.fj=0
 . simp[a]
 . have c:(f.hH-f.bH+1).toNat=(f.hH-f.bH).toNat+1:=by omega
   rw[if_pos a,c,List.range_succ_eq_map];split<;>simp
end Go.Proofs.YtigilmjkokbblaaGreatDoor
namespace Go.Proofs.YtigilmjkokbblaaGreatDoor
open Go.bd Go.Conc
set_option maxHeartbeats 1000000
set_option maxRecDepth 4000
section
variable{k:Int->Int}
end
theorem P7:∀a:Fin 32,∀b:Fin 32,∀c:Fin 32,bF (a.val:Int) (c.val:Int)<=bF (a.val:Int) (b.val:Int)+bF (b.val:Int) (c.val:Int):=by decide +kernel
theorem Fr.Good.XS{f:Fr}(b:f.Good){i j k:Nat}(c:i<f.roads.length)(d:j<f.roads.length)(e:k<f.roads.length):rd f.roads i k<=rd f.roads i j+rd f.roads j k:=by
 have h:=b.J3;unfold fe at h;split at h
 . cases h
 split at h
 . cases h
 split at h
 . next q=>exact absurd h q
 split at h
 . cases h
 next q=>
 simp only[List.any_eq_true,List.mem_range,not_exists,not_and]at q;have a:=q i c k e;unfold cx at a;simp only[Bool.or_eq_true,not_or,List.any_eq_true,List.mem_range,not_exists,not_and,decide_eq_true_eq]at a;have:=a.2 j d;omega
theorem Q'{f:Fr}(d:f.Good){a b c:Int}(q:0<=a/\a<f.aA.length)(hb:0<=b/\b<f.aA.length)(r:0<=c/\c<f.aA.length)(e:Fit f a b)(g:Fit f b c):Fit f a c:=by
 have h:=oX (d.yz _ (nD q));have l:=oX (d.yz _ (nD hb));have m:=oX (d.yz _ (nD r));have hd:=d.dO;obtain⟨A,n⟩:=qo h.2.2.2.2.2;obtain⟨B,o⟩:=qo l.2.2.2.2.2;obtain⟨C,p⟩:=qo m.2.2.2.2.2;have s:=P7 A B C;have u:=h.2.1;have v:=l.2.1;have pc:=m.2.1;have w:=d.XS (i:=(bp f a).place.toNat) (j:=(bp f b).place.toNat) (k:=(bp f c).place.toNat) (by omega) (by omega) (by omega);unfold Fit gi at e g ⊢;rw[n,o]at e;rw[o,p]at g;rw[n,p];simp only[decide_eq_false_iff_not]at e g ⊢;have t:f.dO*bF (A.val:Int) (C.val:Int)<=f.dO*(bF (A.val:Int) (B.val:Int)+bF (B.val:Int) (C.val:Int)):=Int.mul_le_mul_of_nonneg_left s (by omega);rw[Int.mul_add]at t;omega
theorem P8{f:Fr}(b:f.Good)(n:Int):kr f [n]=0:=by
 have e:aL f [n]=[n]:=by simp[aL,dk,gE]
 refine Cs.2 ?_;rw[e];refine⟨by simp[dM],?_,rfl⟩;unfold cC;simp only[decide_eq_false_iff_not];obtain⟨x,c⟩:=List.exists_mem_of_ne_nil _ (Ke b (bp f n));exact List.ne_nil_of_mem ((Ba (by simp)).2 (λj a=>by simp at a;subst a;exact c))
theorem Gt{α β:Type}{B:Nat}{g:α->List β}:∀(l:List α),(∀x∈l,(g x).length<=B)->(l.flatMap g).length<=l.length*B
 |[],_=>by simp
 | a::l,h=>by
   rw[List.flatMap_cons,List.length_append,List.length_cons,Nat.add_mul,Nat.one_mul];have c:=h a (by simp);have d:=Gt l λx b=>h x (by simp[b])
   omega
theorem CC{f:Fr}(a:f.Good)(begun:List Int):∀(fuel:Nat) (er:List Int) (many:Int) (b:List Int),(fy f begun fuel er many b).length<=6 ^ fuel
 |0,_,_,_=>by simp[fy]
 | fuel+1,er,many,b=>by
   unfold fy;refine Nat.le_trans (Gt (B:=6 ^ fuel) _ λk _=>?_) ?_
   . split
     . simp
     split
     . exact CC a begun fuel _ _ _
     . simp
   . rw[List.length_range,Nat.pow_succ,Nat.mul_comm]
     have:=a.most;exact Nat.mul_le_mul_left _ (by omega)
theorem jo{f:Fr}(a:f.Good)(begun:List Int):(ao f begun).length<=46656:=by refine Nat.le_trans (CC a begun _ _ _ _) ?_;exact Nat.pow_le_pow_right (by omega) a.vw
theorem mN(f:Fr)(begun:List Int):∀(fuel:Nat) (er:List Int) (many:Int) (a:List Int),begun.length<=er.length->fy f begun fuel er many a=fy f [] fuel er many a
 |0,_,_,_,_=>rfl
 | fuel+1,er,many,a,h=>by
   unfold fy;congr 1;funext k;have b:¬(er.length<begun.length/\begun.getD er.length 0≠(k:Int)):=by omega
   have c:¬(er.length<([]:List Int).length/\([]:List Int).getD er.length 0≠(k:Int)):=by simp
   rw[if_neg b,if_neg c];split
   . exact mN f begun fuel _ _ _ (by simp;omega)
   . rfl
theorem EP{f:Fr}(b:f.Good)(e:2<=f.aA.length):ao f []=ao f [0,0]++ao f [0,1]:=by
 obtain⟨n,c⟩:∃n,f.aA.length=n+2:=⟨f.aA.length-2,by omega⟩;have g:=b.most;have d:(min ((0:Int)+1) f.most).toNat=1:=by omega
 unfold ao;rw[c];unfold fy;rw[d];simp only[List.range_succ,List.range_zero,List.nil_append,List.flatMap_cons,List.flatMap_nil,List.append_nil];simp;by_cases a:lX f (cL 0 0)=true
 . simp only[a,if_true]
   unfold fy;have e2:(min (max (0:Int) 1+1) f.most).toNat=1\/(min (max (0:Int) 1+1) f.most).toNat=2:=by omega
   rcases e2 with e2|e2
   . rw[e2]
     simp only[List.range_succ,List.range_zero,List.nil_append,List.flatMap_cons,List.flatMap_nil,List.append_nil];simp;rw[mN f [0,0] n [0,0] _ _ (by simp)]
   . rw[e2]
     simp only[List.range_succ,List.range_zero,List.nil_append,List.flatMap_cons,List.flatMap_nil,List.append_nil];simp;rw[mN f [0,0] n [0,0] _ _ (by simp),mN f [0,1] n [0,1] _ _ (by simp)]
 . simp[a]
theorem ER{f:Fr}(a:f.Good)(b:2<=f.aA.length):lx f=((ao f []).length:Int):=by
 unfold lx;rw[if_neg (by omega),EP a b,List.length_append];omega
def pL(n:Nat):Nat->Nat->List Int->List (List Int)
 |0,_,out=>[out]
 |more+1,a,out=>(List.range' a (n-a)).flatMap λx:Nat=>pL n more (x+1) (out++[(x:Int)])
theorem zC(f:Fr):∀(more a:Nat) (out:List Int),fT f more a out=(pL f.aA.length more a out).find? λl=>decide (ao (dB f l) []≠[])
 | 0,a,out=>by
   unfold fT pL;by_cases h:ao (dB f out) []=[]<;>simp[h]
 | more+1,a,out=>by
   unfold fT pL;rw[List.find?_flatMap];congr 1;funext x;exact zC f more (x+1) _
theorem ext_nil(n:Nat):∀(more a:Nat) (out:List Int),0<more->n<a+more->pL n more a out=[]
 | more+1,a,out,_,h=>by
   unfold pL;rw[List.flatMap_eq_nil_iff];intro x b;obtain⟨c,d⟩:=List.mem_range'_1.1 b;cases more with
   |zero=>omega
   |succ more=>exact ext_nil n (more+1) (x+1) _ (by omega) (by omega)
theorem CD(n:Nat):∀(more a:Nat) (out:List Int),a+more<=n->out++(List.range' a more).map (λx:Nat=>(x:Int))∈pL n more a out
 |0,a,out,_=>by simp[pL]
 | more+1,a,out,h=>by
   unfold pL;refine List.mem_flatMap.2 ⟨a,List.mem_range'_1.2 (by omega),?_⟩;have:=CD n more (a+1) (out++[(a:Int)]) (by omega);rw[List.range'_succ,List.map_cons];simpa using this
theorem wV{β:Type}{G:Nat->List β}{c:Nat}:∀d:Nat,(∀j,c<=j->j<c+d->G j=[])->(List.range (c+d)).flatMap G=(List.range c).flatMap G
 |0,_=>rfl
 | d+1,h=>by
   rw[<-Nat.add_assoc,List.range_succ,List.flatMap_append,wV d λj a b=>h j a (by omega)];simp[h (c+d) (by omega) (by omega)]
theorem zE{α β:Type}{f g:α->List β}{l:List α}(h:∀x∈l,f x=g x):l.flatMap f=l.flatMap g:=by rw[List.flatMap_def,List.flatMap_def,List.map_congr_left h]
theorem NY{n k i:Nat}{l:List Int}(q:k<=n)(r:i<k)(m:Uo n i l):pL n (k-i) (cz i l).toNat l=(aT n k i l).flatMap λo=>pL n (k-(i+1)) (cz (i+1) o).toNat o:=by
 obtain⟨more,p⟩:∃more,k-i=more+1:=⟨k-i-1,by omega⟩
 have h:k-(i+1)=more:=by omega
 have hlen:=m.len
 have b:0<=cz i l/\cz i l<=n:=by
  unfold cz;split
  . omega
  . next s=>
    have c:i-1<l.length:=by omega
    have e:l.getD (i-1) 0∈l:=by rw[List.getD_eq_getElem?_getD,List.getElem?_eq_getElem c];exact List.getElem_mem c
    have:=m.mem _ e;omega
 obtain⟨a,f⟩:∃a:Nat,cz i l=(a:Int):=⟨(cz i l).toNat,by omega⟩
 unfold aT EA;rw[p,h,f,Int.toNat_natCast];rw[f]at b;obtain⟨cnt,g⟩:∃cnt:Nat,((n:Int)-k+i+1-a).toNat=cnt:=⟨_,rfl⟩;rw[g,List.map_map,List.flatMap_map,show pL n (more+1) a l=(List.range' a (n-a)).flatMap λx:Nat=>pL n more (x+1) (l++[(x:Int)])from rfl]
 rw[List.range'_eq_map_range,List.flatMap_map];obtain⟨d,hd⟩:∃d,n-a=cnt+d:=⟨n-a-cnt,by omega⟩
 rw[hd,wV d λj t u=>?_]
 . refine zE λj v=>?_
   have:cz (i+1) (l++[(a:Int)+(j:Int)])=(a:Int)+j+1:=by
    unfold cz;rw[if_neg (by omega),List.getD_eq_getElem?_getD,List.getElem?_append_right (by omega)]
    simp[hlen]
   simp only[Function.comp];rw[this,show((a:Int)+j+1).toNat=a+j+1 by omega,show((a+j:Nat):Int)=(a:Int)+j by omega]
 . cases more with
   |zero=>omega
   |succ more=>exact ext_nil n (more+1) _ _ (by omega) (by omega)
theorem wW{n k:Nat}(a:k<=n):∀i:Nat,i<=k->pL n k 0 []=(du n k i).flatMap λl=>pL n (k-i) (cz i l).toNat l
 |0,_=>by simp[du,cz]
 | i+1,c=>by
   rw[wW a i (by omega),du,List.flatMap_assoc];exact zE λl b=>NY a (by omega) (kq i (by omega) l b)
theorem uV{n k:Nat}(a:k<=n):lu n k=pL n k 0 []:=by rw[wW a k (Nat.le_refl _)];unfold lu;simp[pL]
abbrev ES(f:Fr)(l:List Int):Bool:=decide (ao (dB f l) []≠[])
theorem ET(f:Fr):jq f=(List.range' 0 (f.aA.length+1)).findSome? λmany=>(lu f.aA.length many).find? (ES f):=by
 unfold jq
 have:∀(l:List Nat),(∀x∈l,x<=f.aA.length)->(l.findSome? λmany=>fT f many 0 [])=l.findSome? λmany=>(lu f.aA.length many).find? (ES f):=λl=>by
  induction l with
  |nil=>intro _;rfl
  |cons a l c=>intro h;rw[List.findSome?_cons,List.findSome?_cons,zC,uV (h a (by simp)),c λx b=>h x (by simp[b])]
 exact this _ λx b=>by have:=List.mem_range'_1.1 b;omega
theorem Kf(l:List gX):nJ l ((List.range' 0 l.length).map λx:Nat=>(x:Int))=[]:=by
 unfold nJ;rw[List.map_eq_nil_iff,List.filter_eq_nil_iff];rintro⟨e,i⟩ a;have:=List.mem_zipIdx a;have b:(i:Int)∈(List.range' 0 l.length).map (λx:Nat=>(x:Int)):=List.mem_map.2 ⟨i,List.mem_range'_1.2 (by omega),rfl⟩;simp only[b];simp
theorem EU(f:Fr):∃w,jq f=some w:=by
 cases h:jq f with
 |some w=>exact⟨w,rfl⟩
 | none=>
   rw[ET,List.findSome?_eq_none_iff]at h;have a:=h f.aA.length (List.mem_range'_1.2 (by omega));rw[List.find?_eq_none]at a;have b:=CD f.aA.length f.aA.length 0 [] (by omega);rw[<-uV (Nat.le_refl _)]at b;refine absurd ?_ (a _ b);simp only[List.nil_append];unfold ES dB;rw[Kf];simp[ao,fy]
def bK(w:List Int)(k:Int):List Int:=(w.zipIdx.filter λp=>decide (p.1=k)).map λp=>(p.2:Int)
theorem Bl(w:List Int)(x k:Int):bK (w++[x]) k=bK w k++if x=k then[(w.length:Int)]else[]:=by
 unfold bK;rw[List.zipIdx_append,List.filter_append,List.map_append];by_cases e:x=k<;>simp[e]
theorem uW{w:List Int}{k n:Int}(h:n∈bK w k):0<=n/\n<w.length/\w.getD n.toNat 0=k:=by
 unfold bK at h;obtain⟨p,c,rfl⟩:=List.mem_map.1 h;obtain⟨d,a⟩:=List.mem_filter.1 c;obtain⟨x,i⟩:=p;have b:=List.mem_zipIdx d;simp at a b;refine⟨by omega,by omega,?_⟩;rw[Int.toNat_natCast,List.getD_eq_getElem?_getD,List.getElem?_eq_getElem (by omega)];simp[<-a,b.2]
theorem yP(t:List Int):∀n:Int,n<=t.foldl (λn k=>max n (k+1)) n:=by
 induction t with
 |nil=>intro n;exact Int.le_refl _
 |cons a t b=>intro n;rw[List.foldl_cons];exact Int.le_trans (by omega) (b _)
theorem CE(w:List Int):0<=aM w:=yP w 0
theorem CF(w:List Int)(b:Int)(hb:0<=b)(h:∀x∈w,x<b):aM w<=b:=by
 have:∀n:Int,n<=b->w.foldl (λn k=>max n (k+1)) n<=b:=by
  induction w with
  |nil=>intro n c;exact c
  | cons a t d=>
    intro n c;rw[List.foldl_cons];have:=h a (by simp);exact d (λx e=>h x (by simp[e])) _ (by omega)
 exact this 0 hb
end Go.Proofs.YtigilmjkokbblaaGreatDoor
namespace Go.Proofs.YtigilmjkokbblaaGreatDoor
open Go.bd Go.Conc
set_option maxHeartbeats 1000000
set_option maxRecDepth 4000
variable{m:Mo}{σ:aa}{KF:dV->aa->Prop}
theorem ot(w:List Int)(k:Int)(i:Nat)(h:i<w.length):bK (w.take (i+1)) k=bK (w.take i) k++if w[i]=k then[(i:Int)]else[]:=by rw[List.take_succ_eq_append_getElem h,Bl,List.length_take,Nat.min_eq_left (by omega)]
theorem pM(w:List Int)(k:Int):(bK w k).length<=w.length:=by unfold bK;rw[List.length_map];refine Nat.le_trans (List.length_filter_le _ _) ?_;simp
def cD(g:List Int->Int):Option (List Int)->List Int->Option (List Int)
 |none,w=>some w
 |some v,w=>if g w<g v then some w else some v
def gk(g:List Int->Int):Option (List Int)->List AV
 |none=>[.lit (.slice none 0 0),int 0,bool false]
 |some w=>[ints w,int (g w),bool true]
theorem rz(g:List Int->Int){l:List (List Int)}(h:l≠[]):∃w,l.foldl (cD g) none=some w/\w∈l:=by
 have key:∀(l:List (List Int)) (v:List Int),∃w,l.foldl (cD g) (some v)=some w/\(w=v\/w∈l):=λl=>by
  induction l with
  |nil=>intro v;exact⟨v,rfl,.inl rfl⟩
  | cons a l d=>
    intro v;rw[List.foldl_cons];by_cases q:g a<g v
    . rw[show cD g (some v) a=some a by simp[cD,q]]
      obtain⟨w,c,b⟩:=d a;exact⟨w,c,.inr (by rcases b with rfl|b<;>simp[*])⟩
    . rw[show cD g (some v) a=some v by simp[cD,q]]
      obtain⟨w,c,b⟩:=d v;exact⟨w,c,by rcases b with rfl|b<;>simp[*]⟩
 cases l with
 |nil=>exact absurd rfl h
 |cons a l=>obtain⟨w,c,b⟩:=key l a;exact⟨w,c,by rcases b with rfl|b<;>simp[*]⟩
theorem CG{g:List Int->Int}{c:Nat}{o:Option (List Int)}{w:List Int}{n:Int}(d:n=g w)(a:σ c=some (.cells (gk g o)))(h:∀σ',σ' c=some (.cells (gk g (cD g o w)))->(∀x,x≠c->σ' x=σ x)->KF (.val (.bG [])) σ'):aB Tryz.prog m 64 [.ref c 0,ints w,int n] σ KF:=by
 subst d;cases o with
 | none=>
   simp only[gk]at a;refine aB.start lay [] [] 3 Tryz.func64 rfl rfl (by rfl) (by kernel_rfl) ?_;simp[Tryz.f64,a];refine .done (h _ (aa.ak _ _ _) λx b=>?_);simp[aa.ag,b]
 | some v=>
   simp only[gk]at a;refine aB.start lay [] [] 3 Tryz.func64 rfl rfl (by rfl) (by kernel_rfl) ?_;simp[Tryz.f64,a];by_cases q:g w<g v
   . simp[aI,q,a]
     simp only[cD,if_pos q]at h;refine .done (h _ (aa.ak _ _ _) λx b=>?_);simp[aa.ag,b]
   . simp[aI,q,a]
     simp only[cD,if_neg q]at h;exact .done (h _ a λx _=>rfl)
theorem zF{P:Program}{o:Oper}{env:Env}{σ:aa}{K Kp:AV->aa->Prop}{t:Nat}{x:Operand}{a:Int}(c:o.op=.unOp .neg t x)(e:ar env x=int a)(f:-9223372036854775808<=-a/\-a<=9223372036854775807)(g:K (int (-a)) σ):aK P o env σ K Kp:=λk O h b i=>by
 have d:=b x (by simp[c,Op.operands]);rw[e]at d;have j:=cZ d;have:execOp h o=pure (.value (.int .i64 (-a))):=by simp[execOp,c,j,Op.unary,Op.intArith,Op.intBits,wrap_i64 f]
 rw[this];exact aj ⟨_,.inl rfl,.here ⟨.refl k,_,σ,.lit _,i,g⟩⟩
theorem wX{l:List Int}(a:l.length<1152921504606846976)(hb:∀x∈l,-1<=x/\x<=1000)(h:KF (.val (int (aM l))) σ):aB Tryz.prog m 65 [ints l] σ KF:=zI a hb h
abbrev Ek(w:List Int):Int:=-aM w
theorem HK(hs:m.solo=true){f:Fr}{w v:List Int}(hf:f.Fits)(s:check f=0)(C:(ao f []).foldl (cD aM) none=some w)(hv:(ao f []).foldl (cD Ek) none=some v)(hlen:(ao f []).length<1152921504606846976)(h:KF (.val (.bG [.agg [int (aM w),int (aM v)],int 0])) σ):aB Tryz.prog m 26 [aC f] σ KF:=by
 have hg:=Fr.hQ hf s;have c8:=hg.vw;have ca:=hg.most;have E:ao f []≠[]:=λe=>by rw[e]at C;cases C
 have b1:∀w∈ao f [],w.length=f.aA.length:=λw C=>by have:=iR f [] _ _ _ _ w C;simpa using this
 have Q:∀w∈ao f [],∀x∈w,0<=x/\x<f.most:=λw C=>qp f [] _ _ _ _ (by simp) w C
 have R:∀w∈ao f [],0<=aM w/\aM w<=6:=λw C=>⟨CE w,CF w 6 (by omega) λx D=>by have:=Q w C x D;omega⟩
 refine aB.start lay [] [] 1 Tryz.func26 rfl rfl (by rfl) (by kernel_rfl) ?_
 simp[Tryz.f26];refine bL.intro λt h2=>?_
 simp;have hW:Wl [aC f,AV.lit (.slice none 0 0)] [aC f,.sl 1 (([]:List Int).map int) .any]:=.cons (.refl _) (.cons (cW 1) .nil);refine aH Tryz.func62 rfl rfl hW (jS (l:=[]) (sp:=.any) hs hf s (by simp) (by simp) E λb mb j b2 hu J G=>?_)
 refine ab.run lay [] ?_;simp;have LK:Gu Tryz.prog m nn b 6 mb .u8 (dF f) (yA b 6 mb .u8 (dF f)) (Up b 6 mb .u8):=fS nH nI tO hs b2;refine bL.intro λn h6=>?_
 simp;refine bL.intro λp h7=>?_
 obtain⟨S,b3,h7⟩:=aa.aF h7;simp;have hW:Wl [iu b mb f 0,AV.lit (.slice none 0 0)] [iu b mb f 0,ints []]:=.cons (.refl _) (.cons (cW 1) .nil);refine aH Tryz.func63 rfl rfl hW (qt (begun:=[]) ?_);refine ab.run lay [] ?_;simp;refine ab.rangeFunc rfl λb4 r l H K L=>?_
 obtain⟨a1,_,H⟩:=aa.aF H;obtain⟨T,_,K⟩:=aa.aF K;obtain⟨a3,_,H⟩:=aa.aF H;obtain⟨U,_,K⟩:=aa.aF K;have V:j t=some (.cells [int 0,int 0]):=G _ _ (aa.ak _ _ _);have cb:t≠n:=λe=>by subst e;rw[V]at h6;cases h6
 have cg:t≠p:=λe=>by subst e;rw[V]at h7;cases h7
 have W:t≠r:=λe=>by subst e;rw[V]at H;cases H
 have b5:t≠l:=λe=>by subst e;rw[V]at K;cases K
 generalize X:mE.mk _ _ _ _ _ _ _ _ _=Y
 have hY:NZ m (.fn (.yield l) [] []) (ao f []) (λk F d=>(∀c,F c↔c=l\/c=n\/c=p)/\d l=some (.loop Y)/\d n=some (.cells (gk aM (((ao f []).take k).foldl (cD aM) none)))/\d p=some (.cells (gk Ek (((ao f []).take k).foldl (cD Ek) none)))) (λF d=>False):=by
  refine⟨λk F d cl hk M hT hF=>?_,λk F b6 Z he M=>?_,λF b6 Z he M=>M.elim,λk F d c M s=>?_⟩
  . obtain⟨i,O,g3,g4⟩:=M
    have u:(ao f [])[k]∈ao f []:=List.getElem_mem hk;have cm:=R _ u
    have y:∀g,((ao f []).take (k+1)).foldl (cD g) none=cD g (((ao f []).take k).foldl (cD g) none) (ao f [])[k]:=λg=>by rw[List.take_succ_eq_append_getElem hk,List.foldl_append];rfl
    have I:(ao f [])[k].length<1152921504606846976:=by rw[b1 _ u];omega
    have a7:∀x∈(ao f [])[k],-1<=x/\x<=1000:=λx D=>by have:=Q _ u x D;omega
    subst X;refine cN.tP (hold:=[]) b4 Tryz.func26 O rfl ?_;refine ab.run lay [] ?_;simp[gg];refine ab.beginRound O rfl ?_;refine ab.run lay [] ?_;simp[gg];refine an Tryz.func65 rfl rfl (wX I a7 ?_);refine ab.run lay [] ?_;simp;refine an Tryz.func64 rfl rfl (CG (g:=aM) (o:=((ao f []).take k).foldl (cD aM) none) (w:=(ao f [])[k]) rfl ((aa.ag _ _ (Ne.symm U)).trans g3) λZ q1 N=>?_)
    refine ab.run lay [] ?_;simp;refine an Tryz.func65 rfl rfl (wX I a7 ?_);refine ab.run lay [] ?_;simp;refine zF (a:=aM (ao f [])[k]) rfl (by simp) (by omega) ?_
    refine ab.run lay [] ?_;simp;refine an Tryz.func64 rfl rfl (CG (g:=Ek) (o:=((ao f []).take k).foldl (cD Ek) none) (w:=(ao f [])[k]) rfl (by rw[N p S];exact(aa.ag _ _ (Ne.symm T)).trans g4) λcv q3 P=>?_)
    refine ab.run lay [] ?_;simp;refine⟨rfl,rfl,_,((P l T).trans ((N l U).trans (aa.ak _ _ _))),?_⟩;refine hT F _ (λc x s D=>⟨?_,s⟩) ⟨i,aa.ak _ _ _,?_,?_⟩
    . have p1:c≠l:=λe=>s ((i c).2 (.inl e))
      have p3:c≠n:=λe=>s ((i c).2 (.inr (.inl e)))
      have p4:c≠p:=λe=>s ((i c).2 (.inr (.inr e)))
      exact(aa.ag _ _ p1).trans ((P c p4).trans ((N c p3).trans ((aa.ag _ _ p1).trans D)))
    . rw[y]
      exact(aa.ag _ _ (Ne.symm U)).trans ((P n (Ne.symm S)).trans q1)
    . rw[y]
      exact(aa.ag _ _ (Ne.symm T)).trans q3
  . obtain⟨i,O,g3,g4⟩:=M
    exact⟨i,by rw[he l ((i l).2 (.inl rfl))];exact O,by rw[he n ((i n).2 (.inr (.inl rfl)))];exact g3,by rw[he p ((i p).2 (.inr (.inr rfl)))];exact g4⟩
  . obtain⟨i,O,g3,g4⟩:=M
    rcases(i c).1 s with rfl|rfl|rfl
    . exact⟨_,O,rfl⟩
    . exact⟨_,g3,rfl⟩
    . exact⟨_,g4,rfl⟩
 obtain⟨xb,a8,dd⟩:=LK.N1 hu;have nb:∀c,j c=none->c≠b:=λc s e=>by subst e;rw[s]at a8;cases a8
 have b7:t≠b:=λe=>by have:=J.1;rw[<-e,aa.ak]at this;cases this
 have a9:j.Le ((((j.set n (.cells (gk aM none))).set p (.cells (gk Ek none))).set r (.raw (.deferred (some [])))).set l (.loop Y)):=(by repeat (first|exact aa.le_refl _|assumption|refine aa.ia ?_ (by assumption)|refine aa.jT ?_ (by assumption)))
 have sr:((((j.set n (.cells (gk aM none))).set p (.cells (gk Ek none))).set r (.raw (.deferred (some [])))).set l (.loop Y)) r=some (.raw (.deferred (some []))):=(aa.ag _ _ L).trans (aa.ak _ _ _)
 have s6:((((j.set n (.cells (gk aM none))).set p (.cells (gk Ek none))).set r (.raw (.deferred (some [])))).set l (.loop Y)) n=some (.cells (gk aM none)):=by rw[aa.ag _ _ (Ne.symm U),aa.ag _ _ (Ne.symm a3),aa.ag _ _ b3,aa.ak]
 have s7:((((j.set n (.cells (gk aM none))).set p (.cells (gk Ek none))).set r (.raw (.deferred (some [])))).set l (.loop Y)) p=some (.cells (gk Ek none)):=by rw[aa.ag _ _ (Ne.symm T),aa.ag _ _ (Ne.symm a1),aa.ak]
 refine eL Tryz.func99 rfl rfl rfl (nK (F:=λc=>c=l\/c=n\/c=p) LK hg (by simp) hY ⟨rfl,rfl⟩ (LK.un (λc _ ⟨x,h1,_⟩=>(a9 _ _ h1).trans h1.symm) hu) ⟨λc=>Iff.rfl,aa.ak _ _ _,by simpa[gk]using s6,by simpa[gk]using s7⟩ λF' d ad dj av=>?_)
 have b8:=(ad r _ sr (λe=>by rcases e with e|e|e;exact L e;exact a3 e;exact a1 e) (nb r H) (.inr rfl)).1
 have z:lh b mb j d:=λc x h1 h2 b9=>(ad c x (a9 c x h1) (λe=>by rcases e with e|e|e<;>subst e<;>simp_all) h2 b9).1
 have ax:d t=some (.cells [int 0,int 0]):=z t _ V b7 (.inr rfl)
 rcases av with⟨_,q1,q3,P⟩|q
 . rw[List.take_length,C]at q3
   rw[List.take_length,hv]at P;subst X;refine⟨_,q1,by simp,rfl,?_⟩
   have bq:(d.del l) n=some (.cells [ints w,int (aM w),bool true]):=by simp only[aa.del,Ne.symm U,if_false];exact q3
   have bz:(d.del l) p=some (.cells [ints v,int (Ek v),bool true]):=by simp only[aa.del,Ne.symm T,if_false];exact P
   have ay:(d.del l) t=some (.cells [int 0,int 0]):=by simp only[aa.del,b5,if_false];exact ax
   refine ab.run lay [] ?_;simp[bq,bz,ay];obtain⟨v',b0,bA⟩:=rz Ek E;rw[hv]at b0;obtain rfl:=Option.some.inj b0;have dr:=R _ bA;have bB:-Ek v=aM v:=Int.neg_neg _;refine zF (a:=Ek v) rfl (by simp) (by omega) ?_
   rw[bB];refine ab.run lay [] ?_;simp[ay,aG];refine⟨?_,[.agg [int (aM w),int (aM v)],int 0],?_,?_⟩
   . rw[aa.ag _ _ (Ne.symm W)]
     simp only[aa.del,L,if_false];exact b8
   . rw[aa.ag _ _ W,aa.ak]
     rfl
   . refine .less (λc x D=>?_) (.done h)
     have c0:c≠t:=λe=>by subst e;rw[h2]at D;cases D
     have A:σ.set t (.cells [int 0,int 0]) c=some x:=(aa.ag _ _ c0).trans D;have B:=G c x A;have c1:c≠r:=λe=>by subst e;rw[H]at B;cases B
     have c5:c≠l:=λe=>by subst e;rw[K]at B;cases B
     have c3:c≠b:=λe=>by subst e;rw[J.1]at A;cases A
     have c4:c≠mb:=λe=>by subst e;rw[J.2]at A;cases A
     rw[aa.ag _ _ c1,aa.ag _ _ c0];simp only[aa.del,c5,if_false];exact z c x B c3 (.inl c4)
 . exact q.elim
def tQ(x:Int)(w:List Int):Bool:=decide ((bK w (w.getD x.toNat 0)).length=1)
theorem HL{w:List Int}{x:Int}(u:w.length<1000000)(j:0<=x/\x.toNat<w.length)(h:KF (.val (bool (tQ x w))) σ):aB Tryz.prog m 69 [ints w,.cp (int x) 0] σ KF:=by
 have b:w.getD x.toNat 0=w[x.toNat]:=by simp[List.getD_eq_getElem?_getD,j.2]
 unfold tQ at h;rw[b]at h;obtain⟨v,k⟩:∃v,v=w[x.toNat]:=⟨_,rfl⟩;rw[<-k]at h;refine aB.start lay [] [] 2 Tryz.func69 rfl rfl (by rfl) (by kernel_rfl) ?_;simp[Tryz.f69];refine ab.loop w.length (λi s=>∃env,s=⟨env,σ,[],.no⟩/\env 0=ints w/\env 1=.cp (int x) 0/\env 4=int ((bK (w.take i) v).length:Int)/\env 7=ints w/\env 8=int w.length/\env 9=int i) ⟨_,rfl,by simp,by simp,by simp[bK],by simp,by simp,by simp⟩ ?_;rintro y i _ z ⟨env,rfl,d,b,c,e,f,g⟩ p;rcases Nat.lt_or_ge i w.length with g1|g1
 . have t:(i:Int)<w.length:=by omega
   have l:=pM (w.take i) v;rw[List.length_take]at l;have f1:-9223372036854775808<=(i:Int)+1/\(i:Int)+1<=9223372036854775807:=by omega
   have r:-9223372036854775808<=((bK (w.take i) v).length:Int)+1/\((bK (w.take i) v).length:Int)+1<=9223372036854775807:=by omega
   have a:=ot w v i g1;by_cases q:w[i]=v
   . rw[if_pos q]at a
     have n:(w[i]==v)=true:=beq_iff_eq.2 q;refine ab.run lay [] ?_;simp[d,b,c,e,f,g,g1,j.1,j.2,<-k,n,f1.1,f1.2,r.1,r.2];refine p _ g1 ⟨_,rfl,by simp[d,b,c,e,f,g],by simp[d,b,c,e,f,g],by simp[a],by simp[d,b,c,e,f,g],by simp[d,b,c,e,f,g],by simp⟩
   . rw[if_neg q,List.append_nil]at a
     have n:(w[i]==v)=false:=beq_eq_false_iff_ne.2 q;refine ab.run lay [] ?_;simp[d,b,c,e,f,g,g1,j.1,j.2,<-k,n,f1.1,f1.2];refine p _ g1 ⟨_,rfl,by simp[d,b,c,e,f,g],by simp[d,b,c,e,f,g],by simp[a,c],by simp[d,b,c,e,f,g],by simp[d,b,c,e,f,g],by simp⟩
 . have o:i=w.length:=by omega
   subst o;rw[List.take_length]at c;refine ab.run lay [] ?_;simp[d,b,c,e,f,g]
   have hb:(((bK w v).length:Int)==1)=decide ((bK w v).length=1):=by
    by_cases q:(bK w v).length=1
    . simp[q]
    . simp[q];omega
   rw[hb];exact .done h
theorem Kg(q:m.solo=true){f:Fr}{x:Int}(r:f.Fits)(s:check f=0)(t:0<=x/\x<f.aA.length)(a:ao f []≠[])(hlen:(ao f []).length<1152921504606846976)(h:KF (.val (.bG [int (fY (((ao f []).filter (tQ x)).length:Int) (ao f []).length),int 0])) σ):aB Tryz.prog m 30 [aC f,int x] σ KF:=by
 have u:=Fr.hQ r s;have G:=u.vw;have j:∀w∈ao f [],w.length=f.aA.length:=λw j=>by have:=iR f [] _ _ _ _ w j;simpa using this
 refine aB.start lay [] [] 2 Tryz.func30 rfl rfl (by rfl) (by kernel_rfl) ?_
 simp[Tryz.f30];refine an Tryz.func62 rfl rfl (jS (l:=[x]) (sp:=.exact) q r s (λn v=>by simp at v;subst v;exact t) (by simp) a λb mb z k A d o=>?_)
 refine ab.run lay [] ?_;simp;refine an Tryz.func68 rfl rfl (rA (fS nH nI tO q k) u (p:=tQ x) ⟨rfl,rfl⟩ (λw g σ KF B=>eL Tryz.func69 rfl rfl rfl (HL (by rw[j w g];omega) ⟨t.1,by rw[j w g];omega⟩ B)) hlen A λC H D=>?_)
 refine ab.run lay [] ?_;simp;refine an Tryz.func67 rfl rfl (wY ?_);refine ab.run lay [] ?_;simp;refine .less (λc y i=>?_) (.done h)
 have E:c≠b:=λe=>by subst e;rw[d.1]at i;cases i
 have F:c≠mb:=λe=>by subst e;rw[d.2]at i;cases i
 exact D c y (o c y i) E (.inl F)
def toldOf(n all:Int):Int:=if n=0 then 2 else if n=all then 1 else 3
theorem ou{n all:Int}(c:0<=n)(d:n<=all)(e:0<all):fY n all=toldOf n all:=by
 unfold fY toldOf;by_cases a:n=0
 . subst a;rw[if_neg (by omega),if_neg (by omega),if_pos rfl]
 . rw[if_neg a]
   by_cases b:n=all
   . subst b;rw[if_neg (by omega),if_pos rfl,if_pos rfl]
   . rw[if_pos (by omega),if_neg b]
end Go.Proofs.YtigilmjkokbblaaGreatDoor
namespace Go.Proofs.YtigilmjkokbblaaGreatDoor
open Go.bd Go.Conc
set_option maxHeartbeats 1000000
set_option maxRecDepth 4000
theorem uX(k:Int):∀(w:List Int) (n:Nat),(((w.zipIdx n).filter λp=>decide (p.1=k)).map λp=>(p.2:Int)).Pairwise (·<·)/\∀x∈(((w.zipIdx n).filter λp=>decide (p.1=k)).map λp=>(p.2:Int)),(n:Int)<=x
 |[],n=>by simp
 | a :: w,n=>by
   have c:=uX k w (n+1);rw[List.zipIdx_cons,List.filter_cons];split
   . rw[List.map_cons]
     refine⟨List.pairwise_cons.2 ⟨λx b=>?_,c.1⟩,λx b=>?_⟩
     . have:=c.2 x b
       simp only;omega
     . rcases List.mem_cons.1 b with rfl|b
       . exact Int.le_refl _
       . have:=c.2 x b;omega
   . exact⟨c.1,λx b=>by have:=c.2 x b;omega⟩
theorem EV{w:List Int}{k:Int}{i:Nat}(a:i<w.length)(h:w.getD i 0=k):(i:Int)∈bK w k:=by
 unfold bK;refine List.mem_map.2 ⟨(w[i],i),List.mem_filter.2 ⟨?_,?_⟩,rfl⟩
 . exact List.mem_zipIdx_iff_getElem?.2 (by simp[a])
 . rw[List.getD_eq_getElem?_getD,List.getElem?_eq_getElem a]at h
   simpa using h
section
variable{f:Fr}{most:Nat}{C H ks:List Int}{last:List gX}
end
theorem HM{n all:Int}(h:0<all):toldOf n all=1↔n=all:=by
 unfold toldOf;by_cases a:n=0
 . subst a;simp;omega
 . by_cases b:n=all
   . rw[if_neg a,if_pos b];simp[b]
   . simp[a,b]
theorem CH{α:Type}(p:α->Bool):∀l:List α,(l.filter p).length=l.length↔∀x∈l,p x=true
 |[]=>by simp
 | a ::l=>by
   have b:=CH p l;have:=List.length_filter_le p l;rw[List.filter_cons];by_cases q:p a=true
   . rw[if_pos q,List.length_cons,List.length_cons]
     simp only[List.mem_cons,forall_eq_or_imp,q,true_and,<-b];omega
   . rw[if_neg q,List.length_cons]
     simp only[List.mem_cons,forall_eq_or_imp];constructor
     . intro h;omega
     . intro h;exact absurd h.1 q
theorem HN{α:Type}(p:α->Bool)(l:List α):(l.filter p).length=0↔∀x∈l,p x=false:=by rw[List.length_eq_zero_iff,List.filter_eq_nil_iff];simp
section
variable{L:List (List Int)}{n:Nat}
def EW(L:List (List Int))(x y:Nat):Int:=fY ((L.filter (bZ x y)).length:Int) L.length
theorem HO(a:0<L.length){x y:Nat}:EW L x y=1↔∀w∈L,bZ x y w=true:=by
 have:=List.length_filter_le (bZ (x:Int) y) L;unfold EW;rw[ou (by omega) (by omega) (by omega),HM (by omega),<-CH];omega
end
theorem HP{l:List (List Int)}(h:l≠[]):∃w,l.foldl fg none=some w/\w∈l:=by
 have key:∀(l:List (List Int)) (v:List Int),∃w,l.foldl fg (some v)=some w/\(w=v\/w∈l):=λl=>by
  induction l with
  |nil=>intro v;exact⟨v,rfl,.inl rfl⟩
  | cons a l d=>
    intro v;rw[List.foldl_cons];by_cases q:aM a<aM v
    . rw[show fg (some v) a=some a by simp[fg,q]]
      obtain⟨w,c,b⟩:=d a;exact⟨w,c,.inr (by rcases b with rfl|b<;>simp[*])⟩
    . rw[show fg (some v) a=some v by simp[fg,q]]
      obtain⟨w,c,b⟩:=d v;exact⟨w,c,by rcases b with rfl|b<;>simp[*]⟩
 cases l with
 |nil=>exact absurd rfl h
 |cons a l=>obtain⟨w,c,b⟩:=key l a;exact⟨w,c,by rcases b with rfl|b<;>simp[*]⟩
def cY(g:Nat × Nat->Int)(o:Option (Nat × Nat))(p:Nat × Nat):Option (Nat × Nat):=
 match o with
 |none=>some p
 |some q=>if g p<g q then some p else some q
def yQ(i d:Nat):List (Nat × Nat):=(List.range d).map λk=>(i,i+1+k)
def ib(n i:Nat):List (Nat × Nat):=(List.range i).flatMap λa=>yQ a (n-(a+1))
theorem HQ(i d:Nat):yQ i (d+1)=yQ i d++[(i,i+1+d)]:=by unfold yQ;rw[List.range_succ,List.map_append];rfl
theorem CI(n i:Nat):ib n (i+1)=ib n i++yQ i (n-(i+1)):=by unfold ib;rw[List.range_succ,List.flatMap_append];simp
theorem EX{n i:Nat}{p:Nat × Nat}(h:p∈ib n i):p.1<p.2/\p.2<n:=by obtain⟨a,d,b⟩:=List.mem_flatMap.1 h;obtain⟨k,c,rfl⟩:=List.mem_map.1 b;have:=List.mem_range.1 c;simp only;omega
theorem CJ(g:Nat × Nat->Int):∀(l:List (Nat × Nat)) (o:Option (Nat × Nat)) (q:Nat × Nat),l.foldl (cY g) o=some q->q∈l\/o=some q
 |[],o,q,h=>.inr h
 | p :: l,o,q,h=>by
   rw[List.foldl_cons]at h;rcases CJ g l _ q h with a|a
   . exact .inl (by simp[a])
   . cases o with
     |none=>simp only[cY]at a;obtain rfl:=Option.some.inj a;simp
     | some r=>
       simp only[cY]at a;split at a
       . obtain rfl:=Option.some.inj a;simp
       . exact .inr a
def ov(L:List (List Int))(p:Nat × Nat):Int:=max ((L.filter (bZ p.1 p.2)).length:Int) ((L.length:Int)-((L.filter (bZ p.1 p.2)).length:Int))
def aX(S:Nat->Nat->Bool):Nat->List Int × Int
 |0=>([],0)
 | n+1=>
   match (List.range n).find? (λk=>S k n)with
   |some k=>((aX S n).1++[(aX S n).1.getD k 0],(aX S n).2)
   |none=>((aX S n).1++[(aX S n).2],(aX S n).2+1)
def CK(l:List Int):Int:=l.foldl max (-1)
structure CN(S:Nat->Nat->Bool)(n:Nat)(l:List Int)(many:Int):Prop where
 len:l.length=n
 NK:∀x:Nat,x<n->0<=l.getD x 0/\l.getD x 0<many
 same:∀x y:Nat,x<n->y<n->(l.getD x 0=l.getD y 0↔S x y=true)
 top:CK l=many-1
 low:∀x:Nat,x<n->l.getD x 0<=CK (l.take x)+1
 le:0<=many/\many<=n
theorem wZ(l:List Int)(a:Int):CK (l++[a])=max (CK l) a:=by unfold CK;rw[List.foldl_append];rfl
theorem Kh(l:List Int)(a:Int)(x:Nat)(h:x<=l.length):(l++[a]).getD x 0=if x<l.length then l.getD x 0 else a:=by
 rw[nC];split
 . rfl
 . rw[if_pos (by omega)]
theorem zJ{S:Nat->Nat->Bool}{N:Nat}(o:∀x:Nat,x<N->S x x=true)(m:∀x y:Nat,x<N->y<N->S x y=true->S y x=true)(j:∀x y z:Nat,x<N->y<N->z<N->S x y=true->S y z=true->S x z=true):∀n:Nat,n<=N->CN S n (aX S n).1 (aX S n).2
 |0,_=>⟨rfl,by simp,by simp,rfl,by simp,by simp[aX]⟩
 | n + 1,s=>by
   have b:=zJ o m j n (by omega);have hlen:=b.len;have q:=b.le;have f:∀(a:Int) (x:Nat),x<=n->((aX S n).1++[a]).getD x 0=if x<n then(aX S n).1.getD x 0 else a:=λa x h=>by rw[Kh _ _ x (by omega),hlen]
   unfold aX;split
   . next k g=>
     have d:=List.find?_some g;have i:=List.mem_range.1 (List.mem_of_find?_eq_some g);have p:=b.NK k i;refine⟨by simp[hlen],λx l=>?_,λx y l r=>?_,?_,λx l=>?_,by omega⟩
     . rw[f _ x (by omega)]
       by_cases e:x<n
       . rw[if_pos e];exact b.NK x e
       . rw[if_neg e];exact p
     . rw [f _ x (by omega),f _ y (by omega)]
       by_cases ex:x<n
       . by_cases c:y<n
         . rw[if_pos ex,if_pos c];exact b.same x y ex c
         . rw[if_pos ex,if_neg c]
           obtain rfl:y=n:=by omega
           rw[b.same x k ex i];exact⟨λh=>j x k y (by omega) (by omega) (by omega) h d,λh=>j x y k (by omega) (by omega) (by omega) h (m k y (by omega) (by omega) d)⟩
       . obtain rfl:x=n:=by omega
         rw[if_neg ex];by_cases c:y<x
         . rw[if_pos c,b.same k y i c]
           exact⟨λh=>j x k y (by omega) (by omega) (by omega) (m k x (by omega) (by omega) d) h,λh=>j k x y (by omega) (by omega) (by omega) d h⟩
         . obtain rfl:y=x:=by omega
           rw[if_neg ex];simp[o y (by omega)]
     . simp only[wZ,b.top];omega
     . rw[f _ x (by omega)]
       by_cases e:x<n
       . rw[if_pos e,List.take_append_of_le_length (by omega)];exact b.low x e
       . obtain rfl:x=n:=by omega
         rw[if_neg e,List.take_append_of_le_length (by omega),List.take_of_length_le (by omega),b.top];omega
   . next g=>
     rw[List.find?_eq_none]at g;have g:∀k,k<n->S k n=false:=λk h=>by simpa using g k (List.mem_range.2 h)
     refine⟨by simp[hlen],λx l=>?_,λx y l r=>?_,?_,λx l=>?_,by omega⟩
     . rw[f _ x (by omega)]
       by_cases e:x<n
       . rw[if_pos e];have:=b.NK x e;omega
       . rw[if_neg e];omega
     . rw [f _ x (by omega),f _ y (by omega)]
       by_cases ex:x<n
       . by_cases c:y<n
         . rw[if_pos ex,if_pos c];exact b.same x y ex c
         . rw[if_pos ex,if_neg c]
           obtain rfl:y=n:=by omega
           rw[g x ex];have:=b.NK x ex;exact⟨λh=>by omega,λh=>by cases h⟩
       . obtain rfl:x=n:=by omega
         rw[if_neg ex];by_cases c:y<x
         . rw[if_pos c]
           have:=b.NK y c;exact⟨λh=>by omega,λh=>by have:=m x y (by omega) (by omega) h;rw[g y c]at this;cases this⟩
         . obtain rfl:y=x:=by omega
           rw[if_neg ex];simp[o y (by omega)]
     . simp only[wZ,b.top];omega
     . rw[f _ x (by omega)]
       by_cases e:x<n
       . rw[if_pos e,List.take_append_of_le_length (by omega)];exact b.low x e
       . obtain rfl:x=n:=by omega
         rw[if_neg e,List.take_append_of_le_length (by omega),List.take_of_length_le (by omega),b.top];omega
def fA(L:List (List Int))(x y:Nat):Bool:=decide (EW L x y=1)
theorem lJ{L:List (List Int)}(a:0<L.length){x y:Nat}:fA L x y=true↔∀w∈L,bZ x y w=true:=by unfold fA;rw[decide_eq_true_eq,HO a]
theorem HR(x y:Nat)(w:List Int):bZ x y w=bZ y x w:=by simp only[bZ,eq_comm]
theorem EY{x y z:Nat}{w:List Int}(a:bZ x y w=true)(b:bZ y z w=true):bZ x z w=true:=by simp only[bZ,decide_eq_true_eq]at a b ⊢;rw[a,b]
theorem HS(x:Nat)(w:List Int):bZ x x w=true:=by simp[bZ]
theorem CO{L:List (List Int)}(a:0<L.length)(n:Nat):CN (fA L) n (aX (fA L) n).1 (aX (fA L) n).2:=
 zJ (N:=n) (λx _=>(lJ a).2 λw _=>HS x w)
  (λx y _ _ h=>(lJ a).2 λw b=>by rw[HR];exact(lJ a).1 h w b)
  (λx y z _ _ _ c d=>(lJ a).2 λw b=>EY ((lJ a).1 c w b) ((lJ a).1 d w b)) n (Nat.le_refl _)
section
variable{L:List (List Int)}{n:Nat}
def gI(L:List (List Int))(x y:Nat):List (List Int):=(L.filter (bZ x y)).map λw=>bK w (w.getD x 0)
theorem sL{w:List Int}{z:Nat}{k:Int}(a:z<w.length):(z:Int)∈bK w k↔w.getD z 0=k:=⟨λh=>by have:=(uW h).2.2;simpa using this,λh=>EV a h⟩
def Pf(L:List (List Int))(x y z:Nat):Prop:=∀w∈L,bZ x y w=true->bZ x z w=true
theorem HT{x y:Nat}:gI L x y=[]↔∀w∈L,bZ x y w=false:=by unfold gI;rw[List.map_eq_nil_iff,List.filter_eq_nil_iff];simp
theorem uY(e:∀w∈L,w.length=n){x y z:Nat}(j:x<n)(f:z<n){a:List Int}{r:List (List Int)}(h:gI L x y=a::r):(z:Int)∈cO a r↔Pf L x y z:=by
 have g:(z:Int)∈cO a r↔∀l∈gI L x y,(z:Int)∈l:=by rw[h];unfold cO;simp
 rw[g];unfold gI Pf;constructor
 . intro c w b d
   have:=c (bK w (w.getD x 0)) (List.mem_map.2 ⟨w,List.mem_filter.2 ⟨b,d⟩,rfl⟩);rw[sL (by rw[e w b];exact f)]at this
   simp only[bZ,decide_eq_true_eq,Int.toNat_natCast];exact this.symm
 . intro i l c
   obtain⟨w,b,rfl⟩:=List.mem_map.1 c;obtain⟨b,d⟩:=List.mem_filter.1 b;rw[sL (by rw[e w b];exact f)]
   have:=i w b d;simp only[bZ,decide_eq_true_eq,Int.toNat_natCast]at this;exact this.symm
end
theorem jr{b mb:Nat}{f:Fr}{σ σ':aa}(h:yA b 6 mb .u8 (dF f) σ)(a:σ' b=σ b)(c:σ' mb=σ mb):yA b 6 mb .u8 (dF f) σ':=by unfold yA at h ⊢;rw[a,c];exact h
theorem HU{f:Fr}(a:f.Good){n:gX}(b:bf f.roads.length n=0)(c:n.marks.length<1152921504606846976)(d:f.aA.length<6):(fu f n).Good:=
 ⟨⟨by have:=d;simp[fu];omega,a.fits.roads,a.fits.row,λe he=>by
    rcases List.mem_append.1 he with he|he
    . exact a.fits.marks e he
    . simp at he;subst he;exact c⟩,a.fr,a.to,a.le,a.dO,a.most,by simp[fu];omega,λe he=>by
    rcases List.mem_append.1 he with he|he
    . exact a.yz e he
    . simp at he;subst he;exact b,a.J3⟩
theorem EZ(w:List Int)(k:Int):(bK w k).Pairwise (·<·):=(uX k w 0).1
end Go.Proofs.YtigilmjkokbblaaGreatDoor
namespace Go.Proofs.YtigilmjkokbblaaGreatDoor
open Go.bd Go.Conc
set_option maxHeartbeats 1000000
set_option maxRecDepth 4000
variable{m:Mo}{σ:aa}{KF:dV->aa->Prop}
def aV(f:Fr)(asks:Bool)(x y:Int):Int:=if check f≠0 then check f else if asks=true/\¬(dz x 0 (f.aA.length-1)=true/\dz y 0 (f.aA.length-1)=true)then 3 else if ao f []=[]then 11 else 0
end Go.Proofs.YtigilmjkokbblaaGreatDoor
namespace Go.Proofs.YtigilmjkokbblaaGreatDoor
open Go.bd Go.Conc
set_option maxHeartbeats 2000000
set_option maxRecDepth 4000
variable{m:Mo}{σ:aa}{KF:dV->aa->Prop}
theorem zK{f:Fr}(a:f.Good):lx f=((ao f []).length:Int):=by
 by_cases b:2<=f.aA.length
 . exact ER a b
 have e:lx f=1:=by unfold lx;rw[if_pos (by omega)]
 rw[e];have g:=a.most;have c:(min ((0:Int)+1) f.most).toNat=1:=by omega
 have d:lX f (cL 0 0)=true:=by
  have:eS (cL 0 0)=[0]:=by decide +kernel
  unfold lX;rw[this,decide_eq_true_eq];exact P8 a 0
 rcases(show f.aA.length=0\/f.aA.length=1 by omega)with hn|hn
 . unfold ao;rw[hn];simp[fy]
 . unfold ao;rw[hn]
   unfold fy;rw[c];simp only[List.range_succ,List.range_zero,List.nil_append,List.flatMap_cons,List.flatMap_nil,List.append_nil];simp[d,fy]
theorem xa(g:List Int->Int):∀(L:List (List Int)) (v:List Int),∃w,L.foldl (cD g) (some v)=some w/\g w=L.foldl (λa x=>min a (g x)) (g v)
 |[],v=>⟨v,rfl,rfl⟩
 | a ::L,v=>by
   rw[List.foldl_cons,List.foldl_cons];by_cases q:g a<g v
   . rw[show cD g (some v) a=some a by simp[cD,q],show min (g v) (g a)=g a by omega]
     exact xa g L a
   . rw[show cD g (some v) a=some v by simp[cD,q],show min (g v) (g a)=g v by omega]
     exact xa g L v
theorem zL{g:List Int->Int}{L:List (List Int)}{w:List Int}(b:0<L.length)(h:L.foldl (cD g) none=some w):g w=L.foldl (λa x=>min a (g x)) (g L[0]):=by
 cases L with
 |nil=>simp at b
 | cons a r=>
   rw[List.foldl_cons,show cD g none a=some a from rfl]at h;obtain⟨e,c,d⟩:=xa g r a;rw[c]at h;obtain rfl:=Option.some.inj h;rw[d,List.foldl_cons];congr 1;show g a=min (g a) (g a);omega
theorem CP(g:List Int->Int):∀(L:List (List Int)) (n:Int),L.foldl (λa x=>min a (-g x)) (-n)=-(L.foldl (λa x=>max a (g x)) n)
 |[],n=>rfl
 |a::L,n=>by rw[List.foldl_cons,List.foldl_cons,<-CP g L];congr 1;omega
namespace MA
end MA
end Go.Proofs.YtigilmjkokbblaaGreatDoor
namespace Go.Proofs.YtigilmjkokbblaaGreatDoor
open Go.bd Go.Conc
set_option maxHeartbeats 1000000
set_option maxRecDepth 4000
variable{m:Mo}{σ:aa}{KF:dV->aa->Prop}
def xc(f:Fr):Int × Int:=if check f≠0 then(0,check f)else(((ao f []).length:Int),0)
theorem xd{f:Fr}{x y:Int}(h:aV f true x y=0):check f=0/\(0<=x/\x<f.aA.length)/\(0<=y/\y<f.aA.length)/\ao f []≠[]:=by
 unfold aV at h;split at h
 . next q=>exact absurd h q
 next q=>
 split at h
 . cases h
 next a=>
 split at h
 . cases h
 next b=>
 have a:dz x 0 (f.aA.length-1)=true/\dz y 0 (f.aA.length-1)=true:=Classical.byContradiction λg=>a ⟨rfl,g⟩
 rw[jl,jl]at a;exact⟨by simpa using q,by omega,by omega,b⟩
theorem Ki{f:Fr}(b:f.Good){w:List Int}(a:w∈ao f []):w.length=f.aA.length/\∀x∈w,0<=x/\x<f.most:=by
 refine⟨?_,qp f [] _ _ _ _ (by simp) w a⟩;have:=iR f [] _ _ _ _ w a;simpa using this
def CQ(f:Fr)(x y:Int):Int × Int:=if aV f true x y≠0 then(0,aV f true x y)else(toldOf (((ao f []).filter (bZ x y)).length:Int) (ao f []).length,0)
def tR(f:Fr)(x:Int):Int × Int:=if aV f true x x≠0 then(0,aV f true x x)else(toldOf (((ao f []).filter (tQ x)).length:Int) (ao f []).length,0)
theorem sM{f:Fr}(h:aV f false 0 0=0):check f=0/\ao f []≠[]:=by
 unfold aV at h;split at h
 . next q=>exact absurd h q
 next q=>
 rw[if_neg (by simp)]at h;split at h
 . cases h
 next a=>exact⟨by simpa using q,a⟩
def R4(L:List (List Int))(n:Int):Int:=L.foldl (λa x=>min a (aM x)) n
def P9(L:List (List Int))(n:Int):Int:=L.foldl (λa x=>max a (aM x)) n
def vI(f:Fr):List Int:=if aV f false 0 0≠0 then[0,0,aV f false 0 0]else[R4 (ao f []) (aM ((ao f []).headD [])),P9 (ao f []) (aM ((ao f []).headD [])),0]
abbrev N2(l:List Int):AV:=.bG [.agg [int (l.getD 0 0),int (l.getD 1 0)],int (l.getD 2 0)]
end Go.Proofs.YtigilmjkokbblaaGreatDoor
