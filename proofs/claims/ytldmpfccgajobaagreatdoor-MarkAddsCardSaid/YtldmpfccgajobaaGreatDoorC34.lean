import Derived.Test.YtldmpfccgajobaaGreatDoorC33
set_option linter.all false
namespace Go.Proofs.YtldmpfccgajobaaGreatDoor
open Tryz (prog)
open Go.aR Go.Conc
set_option maxHeartbeats 1000000
set_option maxRecDepth 4000
variable{m:Mo}{σ:aa}{KF:dF->aa->Prop}
structure s8(n:Nat)(lo:Int)(r:List (List Int)):Prop where
 len:r.length=n
 row:∀l∈r,l.length=n
 diag:∀i,i<n->rd r i i=0
 sym:∀i j,i<n->j<n->rd r i j=rd r j i
 off:∀i j,i<n->j<n->i≠j->lo<=rd r i j/\rd r i j<=2*lo
structure nG(cnt:Int)(f:Fr):Prop where
 dG:1<=f.dG/\f.dG<=4
 most:f.most=1\/f.most=2\/f.most=3\/f.most=6
 dM:1<=f.roads.length/\f.roads.length<=3
 Io:∃lo:Int,(0<=lo/\lo<=4)/\s8 f.roads.length lo f.roads
 fr:0<=f.bE/\f.bE<=2
 to:f.bE<=f.iQ/\f.iQ<=2
 len:(f.ao.length:Int)<=cnt
 uB:∀e∈f.ao,uY f.roads.length e
theorem s8.err{n:Nat}{m:Int}{r:List (List Int)}(h:s8 n m r)(D:1<=n/\n<=3)(v:0<=m/\m<=4):fe r=0:=by
 have p:=h.len
 have hb:∀i j,i<n->j<n->0<=rd r i j/\rd r i j<=9:=λi j a b=>by
  by_cases e:i=j
  . subst e;rw[h.diag i a];omega
  . have:=h.off i j a b e;omega
 have f:∀l∈r,i7 n l=0:=λl q=>by
  have w:=h.row l q
  have z:l.all (bx · 0 9)=true:=by
   rw[List.all_eq_true];intro x g;obtain⟨i,a,rfl⟩:=List.mem_iff_getElem.1 q;obtain⟨j,b,rfl⟩:=List.mem_iff_getElem.1 g;have:=hb i j (by omega) (by omega);have e:rd r i j=r[i][j]:=by simp[rd,List.getD_eq_getElem?_getD,a,b]
   rw[e]at this;simp[bx,this.1,this.2]
  unfold i7;rw[if_neg (by simp[w]),if_pos z]
 have d:∀l:List (List Int),(∀x∈l,x∈r)->fK n l=0:=λl=>by
  induction l with
  |nil=>intro _;rfl
  | cons x l A=>
    intro g;unfold fK;rw[if_pos (f x (g x (by simp)))];exact A λy B=>g y (by simp[B])
 have o:((List.range n).any λi=>(List.range n).any λj=>bW r i j)=false:=by
  rw[List.any_eq_false];intro i a;rw[Bool.not_eq_true,List.any_eq_false];intro j b;have a:=List.mem_range.1 a;have b:=List.mem_range.1 b;unfold bW;rw[h.diag i a,h.sym i j a b,p]
  have C : ((List.range n).any λk=>decide (rd r j i>rd r i k+rd r k j))=false:=by
   rw[List.any_eq_false];intro k c;have c:=List.mem_range.1 c;have E:=hb i k a c;have F:=hb k j c b;simp only[decide_eq_true_eq,Int.not_lt,gt_iff_lt];by_cases s:i=j
   . subst s;rw[h.diag i a];omega
   . by_cases t:i=k
     . subst t;rw[h.diag i a,h.sym i j a b];omega
     . by_cases u:k=j
       . subst u;rw[h.diag k c,h.sym i k a c];omega
       . have G:=h.off j i b a (Ne.symm s)
         have H:=h.off i k a c t;have I:=h.off k j c b u;omega
  rw[C];simp
 unfold fe;rw[p,if_neg (by omega),if_neg (by omega),d r (λ_ h=>h),if_neg (by simp),o];simp
theorem LH{M:List (List Int)}{i k:Nat}{n:Int}(c:i<M.length)(d:k<(M.getD i []).length)(x y:Nat):rd (M.set i ((M.getD i []).set k n)) x y=if x=i/\y=k then n else rd M x y:=by
 unfold rd;by_cases e:x=i
 . subst e
   have a:(M.set x ((M.getD x []).set k n)).getD x []=(M.getD x []).set k n:=by simp[List.getD_eq_getElem?_getD,c]
   rw[a];by_cases b:y=k
   . subst b
     rw[if_pos ⟨rfl,rfl⟩];rw[List.getD_eq_getElem?_getD,List.getElem?_set_self d];rfl
   . rw[if_neg (λq=>b q.2)]
     rw[List.getD_eq_getElem?_getD,List.getElem?_set_ne (Ne.symm b),<-List.getD_eq_getElem?_getD]
 . rw[if_neg (λq=>e q.1)]
   have a:(M.set i ((M.getD i []).set k n)).getD x []=M.getD x []:=by rw[List.getD_eq_getElem?_getD,List.getElem?_set_ne (Ne.symm e),<-List.getD_eq_getElem?_getD]
   rw[a]
def yg(M:List (List Int))(i k:Nat)(n:Int):List (List Int):=(M.set i ((M.getD i []).set k n)).set k ((M.getD k []).set i n)
structure F5(n:Nat)(lo:Int)(i k:Nat)(M:List (List Int)):Prop where
 len:M.length=n
 row:∀j,j<n->(M.getD j []).length=n
 diag:∀x,x<n->rd M x x=0
 sym:∀x y,x<n->y<n->rd M x y=rd M y x
 off:∀x y,y<x->x<n->(x<i\/(x=i/\y<k))->lo<=rd M x y/\rd M x y<=2*lo
theorem zI{M:List (List Int)}{i k:Nat}{v:Int}(c:i<M.length)(d:k<M.length)(e:k≠i)(j:Nat):(yg M i k v).getD j []=if j=k then(M.getD k []).set i v else if j=i then(M.getD i []).set k v else M.getD j []:=by
 unfold yg;by_cases a:j=k
 . subst a
   rw[if_pos rfl,List.getD_eq_getElem?_getD,List.getElem?_set_self (by simpa using d)];rfl
 . rw[if_neg a,List.getD_eq_getElem?_getD,List.getElem?_set_ne (Ne.symm a)]
   by_cases b:j=i
   . subst b
     rw[if_pos rfl,List.getElem?_set_self c];rfl
   . rw[if_neg b,List.getElem?_set_ne (Ne.symm b),<-List.getD_eq_getElem?_getD]
theorem Nv{n:Nat}{j:Int}{i k a b:Nat}{M:List (List Int)}{v:Int}(h:F5 n j a b M)(g:i<n)(e:k<n)(f:k≠i)(x y:Nat):rd (yg M i k v) x y=if(x=i/\y=k)\/(x=k/\y=i)then v else rd M x y:=by
 have l:=h.len
 have m:rd (yg M i k v) x y=if x=k/\y=i then v else rd (M.set i ((M.getD i []).set k v)) x y:=by
  have q:M.getD k []=(M.set i ((M.getD i []).set k v)).getD k []:=by rw[List.getD_eq_getElem?_getD,List.getD_eq_getElem?_getD,List.getElem?_set_ne (Ne.symm f)]
  unfold yg;rw[q];exact LH (by simp[l,e]) (by rw[<-q];rw[h.row k e];exact g) x y
 rw[m,LH (by omega) (by rw[h.row i g];exact e)];by_cases c:x=k/\y=i
 . rw[if_pos c,if_pos (.inr c)]
 . rw[if_neg c]
   by_cases d:x=i/\y=k
   . rw[if_pos d,if_pos (.inl d)]
   . rw[if_neg d,if_neg (λq=>q.elim d c)]
theorem F5.next{n:Nat}{d:Int}{i k:Nat}{M:List (List Int)}{v:Int}(h:F5 n d i k M)(g:i<n)(s:k<i)(m:d<=v/\v<=2*d):F5 n d i (k+1) (yg M i k v):=by
 have o:=h.len;have a:=Nv (v:=v) h g (show k<n by omega) (by omega);refine⟨by simp[yg,o],λj p=>?_,λx b=>?_,λx y b r=>?_,λx y f b hd=>?_⟩
 . rw[zI (by omega) (by omega) (by omega)]
   split
   . rw[List.length_set];exact h.row k (by omega)
   . split
     . rw[List.length_set];exact h.row i g
     . exact h.row j p
 . rw[a,if_neg (by omega)];exact h.diag x b
 . rw[a,a]
   by_cases c:(x=i/\y=k)\/(x=k/\y=i)
   . rw[if_pos c,if_pos (c.elim (λq=>.inr ⟨q.2,q.1⟩) (λq=>.inl ⟨q.2,q.1⟩))]
   . rw[if_neg c,if_neg (λq=>c (q.elim (λq=>.inr ⟨q.2,q.1⟩) (λq=>.inl ⟨q.2,q.1⟩)))]
     exact h.sym x y b r
 . rw [a]
   by_cases c:(x=i/\y=k)\/(x=k/\y=i)
   . rw[if_pos c];exact m
   . rw[if_neg c]
     refine h.off x y f b ?_;rcases hd with hd|⟨l,t⟩
     . exact .inl hd
     . refine .inr ⟨l,?_⟩
       have:y≠k:=λe=>c (.inl ⟨l,e⟩)
       omega
theorem F5.line{n:Nat}{b:Int}{i:Nat}{M:List (List Int)}(h:F5 n b i i M):F5 n b (i+1) 0 M:=⟨h.len,h.row,h.diag,h.sym,λx y a c hd=>h.off x y a c (by omega)⟩
theorem F5.fin{n:Nat}{c:Int}{M:List (List Int)}(h:F5 n c n 0 M):s8 n c M:=by
 have f:=h.len;refine⟨h.len,λl d=>?_,h.diag,h.sym,λi j a b e=>?_⟩
 . obtain⟨i,a,rfl⟩:=List.mem_iff_getElem.1 d
   have:=h.row i (by omega);simpa[List.getD_eq_getElem?_getD,a]using this
 . rcases Nat.lt_or_ge j i with q|q
   . exact h.off i j q a (.inl a)
   . rw[h.sym i j a b]
     exact h.off j i (by omega) b (.inl b)
theorem F5.start(n:Nat)(c:Int):F5 n c 0 0 (List.replicate n (List.replicate n 0)):=by
 have a:∀x y,rd (List.replicate n (List.replicate n 0)) x y=0:=λx y=>by
  unfold rd;simp only[List.getD_eq_getElem?_getD,List.getElem?_replicate];by_cases b:x<n
  . simp only[b,if_true,Option.getD_some,List.getElem?_replicate]
    split<;>rfl
  . simp[b]
 refine⟨by simp,λj d=>by simp[List.getD_eq_getElem?_getD,d],λx _=>a x x,λx y _ _=>by rw[a,a],λx y _ _ h=>by omega⟩
theorem s9{g:gq->Int}:∀{l:List gq},(∀e∈l,g e=0)->ew g l=0
 |[],_=>rfl
 | a::l,h=>by
   unfold ew;rw[if_pos (h a (by simp))];exact s9 λe b=>h e (by simp[b])
theorem nG.check{most:Int}{f:Fr}(h:nG most f)(j:most<=6):check f=0:=by
 obtain⟨k,a,b⟩:=h.Io;have c:=b.err h.dM a;have l:=h.fr;have m:=h.to;have n:=h.dG;have o:=h.most;have p:=h.len
 have d:(bx f.bE 0 3 && bx f.iQ 0 3)=true:=by simp[bx];omega
 have g:(bx f.dG 1 6 && bx f.most 1 6)=true:=by simp[bx];omega
 unfold Go.Proofs.YtldmpfccgajobaaGreatDoor.check;rw[c,if_neg (by simp),d,if_neg (by simp),if_neg (by omega),g,if_neg (by simp),if_neg (by omega)]
 exact s9 λe i=>(h.uB e i).check
theorem nG.fits{most:Int}{f:Fr}(h:nG most f)(g:most<=1000):f.Fits:=by
 obtain⟨i,a,b⟩:=h.Io;have:=h.len;have j:=h.dM;refine⟨by omega,by omega,λl c=>?_,λe d=>?_⟩
 . have:=b.row l c;omega
 . have:=(ja (h.uB e d).marks).2;omega
end Go.Proofs.YtldmpfccgajobaaGreatDoor
namespace Go.Proofs.YtldmpfccgajobaaGreatDoor
open Tryz (prog)
open Go.aR Go.Conc
set_option maxHeartbeats 2000000
set_option maxRecDepth 4000
variable{m:Mo}{σ:aa}{KF:dF->aa->Prop}
theorem ta{l:List Nat}(h:l.Nodup){i j:Nat}{a:i<l.length}{b:j<l.length}(c:i≠j):l[i]≠l[j]:=by
 rw[List.Nodup,List.pairwise_iff_getElem]at h;rcases Nat.lt_or_ge i j with q|q
 . exact h i j a b q
 . exact Ne.symm (h j i b a (by omega))
def i8(rs:List Nat)(M:List (List Int))(n j:Nat):List AV:=(List.range rs.length).map λl=>if l<j then ints (M.getD l [])else AV.gn (rs.getD l 0) 0 n n
theorem o0(rs:List Nat)(M:List (List Int))(n j:Nat):(i8 rs M n j).length=rs.length:=by rw[i8,List.length_map,List.length_range]
theorem o6{rs:List Nat}{M:List (List Int)}{n j l:Nat}(a:l<rs.length):(i8 rs M n j)[l]?=some (if l<j then ints (M.getD l [])else AV.gn (rs.getD l 0) 0 n n):=by rw[i8,List.getElem?_map,List.getElem?_range a];rfl
theorem C6{fid x:Nat}{ro:Option Nat}{hold:List Entry}{K:aR.Exit->St->Prop}{todo:List Item}{env:Env}{D:List nj}{rc:Rec}{d n at_:Nat}{rs:List Nat}{M:List (List Int)}{cs:List AV}{spr:bX}(σ0:aa)(o:rs.Nodup)(z:∀l,l<rs.length->(M.getD l []).length=n)(p:at_<cs.length)(hd:d∉rs)
 (A:∀σ',σ' d=some (.cells (cs.set at_ (.sl 1 (i8 rs M n rs.length) spr)))->(∀y,y≠d->y∉rs->σ' y=σ0 y)->ab prog m fid x ro hold todo ⟨env,σ',D,rc⟩ K):
 ∀(f j:Nat),j+f=rs.length->∀σ,σ d=some (.cells (cs.set at_ (.sl 1 (i8 rs M n j) spr)))->(∀(l:Nat) (c:l<rs.length),j<=l->σ rs[l]=some (.cells ((M.getD l []).map int)))->(∀y,y≠d->y∉rs->σ y=σ0 y)->ab prog m fid x ro hold todo ⟨env,σ,D,rc⟩ K
 | 0,j,G,σ,t,_,u=>by
   have:j=rs.length:=by omega
   subst this;exact A σ t u
 | f + 1,j,G,σ,t,B,u=>by
   have a:j<rs.length:=by omega
   have v:=z j a;have w:d≠rs[j]:=λe=>hd (e ▸ List.getElem_mem a)
   have h:∀e∈i8 rs M n j,e.cells=[e]:=λe s=>by unfold i8 at s;obtain⟨l,_,rfl⟩:=List.mem_map.1 s;split<;>rfl
   have hlen:(i8 rs M n j).length=rs.length:=o0 _ _ _ _;have g:∀l,l<rs.length->(i8 rs M n j)[l]?=some (if l<j then ints (M.getD l [])else AV.gn (rs.getD l 0) 0 n n):=λl c=>o6 c
   have k:(i8 rs M n j).set j (.sl 1 ((M.getD j []).map int) .any)=i8 rs M n (j+1):=by
    apply List.ext_getElem?;intro l
    by_cases c:l<rs.length
    . have H:(i8 rs M n (j+1))[l]?=some (if l<j+1 then ints (M.getD l [])else AV.gn (rs.getD l 0) 0 n n):=o6 c
      rw[H]
      by_cases r:l=j
      . subst r
        rw[List.getElem?_set_self (by omega),if_pos (by omega)]
      . rw[List.getElem?_set_ne (Ne.symm r),g l c]
        by_cases q:l<j
        . rw[if_pos q,if_pos (by omega)]
        . rw[if_neg q,if_neg (by omega)]
    . rw[List.getElem?_eq_none (by rw[List.length_set,hlen];omega),List.getElem?_eq_none (by rw[o0];omega)]
   refine ab.Ng (b:=rs[j]) (d:=d) (i:=j) (l:=(M.getD j []).map int) (at_:=at_) w (B j a (Nat.le_refl _)) (λe s=>by obtain⟨_,_,rfl⟩:=List.mem_map.1 s;rfl) t (by rw[List.getElem?_set_self p]) h (by rw[g j a,if_neg (by omega),List.length_map,v];simp[List.getD_eq_getElem?_getD,a]) ?_
   rw[List.set_set,k];refine C6 σ0 o z p hd A f (j+1) (by omega) _ (aa.an _ _ _) (λl c C=>?_) (λy E F=>?_)
   . have I:rs[l]≠d:=λe=>hd (e ▸ List.getElem_mem c)
     rw[aa.ag _ _ I];simp only[aa.del,ta o (show l≠j by omega),if_false]
     exact B l c (by omega)
   . rw[aa.ag _ _ E]
     have:y≠rs[j]:=λe=>F (e ▸ List.getElem_mem a)
     simp only[aa.del,this,if_false];exact u y E F
section
variable{c k:Nat}{nums:List Int}
abbrev gK:List AV:=[.lit (.slice none 0 0),.lit (.slice none 0 0),int 0,int 0,int 0,int 0]
theorem xz{cnt:Int}(hk:k+20+11*cnt.toNat<1000000)(hn:nums.length<1152921504606846976)(hq:0<=cnt/\cnt<=1000)(hb:cB c nums k σ)(h:∀(f:Fr) (a:AV) σ',nG cnt f->nR c nums (k+20+11*cnt.toNat) σ σ'->(f.ao=[]->a=.lit (.slice none 0 0))/\(f.ao≠[]->a=ll f.ao)->KF (.val (.agg [a,rows f.roads,int f.bE,int f.iQ,int f.dG,int f.most])) σ'):ar prog m 56 [.ref c 0,int cnt] σ KF:=by
 obtain⟨n0,s0,_,ey⟩:=id hb;refine fs Tf 2 Tryz.func56 rfl rfl (by rfl) (by kernel_rfl) ?_
 simp[Tryz.f56];refine bT.intro λA h4=>?_
 have n4:c≠A:=λe=>by subst e;rw[ey]at h4;cases h4
 have H:∀x,cB c nums k (σ.set A x):=λx=>⟨n0,s0,by assumption,by rw[aa.ag _ _ n4];exact ey⟩
 simp;refine cf Tryz.func104 rfl (kR (by omega) hn ⟨by omega,by omega⟩ ⟨by omega,by omega⟩ (H _) λdG hr gC eb=>?_)
 refine rn ?_;simp;refine cf Tryz.func97 rfl (qF (l:=[1,2,2,3,3,6]) (by omega) hn ⟨by simp,by simp⟩ eb.1 λmost r ez c8=>?_)
 refine rn ?_;simp;refine bT.intro λw h5=>?_
 have a7:A≠c:=Ne.symm n4;have b1:nR c nums (k+2) (σ.set A (.cells gK)) r:=eb.trans c8;have ec:r A=some (.cells gK):=by rw[b1.2 A a7,aa.an]
 have N:w≠c:=λe=>by subst e;obtain⟨_,_,_,q⟩:=c8.1;rw[q]at h5;cases h5
 have P:w≠A:=λe=>by subst e;rw[ec]at h5;cases h5
 have Y:σ w=none:=by rw[b1.2 w N,aa.ag _ _ P]at h5;exact h5
 simp[aH]
 have eA:∀x,cB c nums (k+2) (r.set w x):=λx=>by obtain⟨n,z,h1,h2⟩:=c8.1;exact⟨n,z,by omega,by rw[aa.ag _ _ (Ne.symm N)];exact h2⟩
 refine cf Tryz.func104 rfl (kR (by omega) hn ⟨by omega,by omega⟩ ⟨by omega,by omega⟩ (eA _) λdM g gD ee=>?_)
 refine rn ?_;simp;refine cf Tryz.func30 rfl (iW (by omega) hn ⟨by omega,by omega⟩ ee.1 λlo b5 gG eg=>?_)
 refine rn ?_;simp;have b2:nR c nums (k+4) (r.set w (.cells [.lit (.slice none 0 0),.lit (.slice none 0 0),int 0,int 0,int dG,int most])) b5:=ee.trans eg;obtain⟨sp,rfl⟩:∃sp:Nat,dM=(sp:Int):=⟨dM.toNat,by omega⟩
 have hz:1<=sp/\sp<=3:=by omega
 have gH:0<=lo/\lo<=4:=by omega
 have eB:1<=dG/\dG<=4:=by omega
 have ei:most=1\/most=2\/most=3\/most=6:=by simp at ez;omega
 have eK:b5 w=some (.cells [.lit (.slice none 0 0),.lit (.slice none 0 0),int 0,int 0,int dG,int most]):=by rw[b2.2 w N,aa.an]
 have eR:b5 A=some (.cells gK):=by rw[b2.2 A a7,aa.ag _ _ (Ne.symm P)];exact ec
 have cv:(σ.del c).Le b5:=λy x p=>by
  have y1:y≠c:=λe=>by subst e;simp[aa.del]at p
  have y0:σ y=some x:=by simpa[aa.del,y1]using p
  have y5:y≠w:=λe=>by subst e;rw[Y]at y0;cases y0
  have y4:y≠A:=λe=>by subst e;rw[h4]at y0;cases y0
  rw[b2.2 y y1,aa.ag _ _ y5,b1.2 y y1,aa.ag _ _ y4];exact y0
 have b7:=eg.1;clear eb c8 ee eg b1 b2 H eA h5 ec gC ez gD gG
 refine ab.loop sp (λi s=>∃env σ' a rs,s=⟨env,σ',[],.no⟩/\env 0=.ref c 0/\env 1=int cnt/\env 4=.ref A 0/\env 5=.ref w 0/\env 6=int sp/\env 7=int lo/\env 8=int i/\cB c nums (k+4) σ'/\σ' A=some (.cells gK)/\σ' w=some (.cells [.lit (.slice none 0 0),a,int 0,int 0,int dG,int most])/\
  Tok (σ.del c) σ' a 1 (rs.map λb:Nat=>AV.gn b 0 sp sp)/\rs.length=i/\rs.Nodup/\(∀b∈rs,σ b=none/\b≠c/\b≠A/\b≠w/\σ' b=some (.cells (List.replicate sp (int 0))))) ⟨_,b5,.lit (.slice none 0 0),[],rfl,by simp,by simp,by simp,by simp,by simp,by simp,by simp,b7,eR,eK,⟨cv,.inl ⟨rfl,rfl⟩⟩,rfl,List.nodup_nil,by simp⟩ ?_
 rintro c0 i _ hi ⟨env,σ',a,rs,rfl,O,e1,Z,G,J,e7,e8,K,q4,Q,u,b8,a8,ad⟩ ih
 have S:=u.cells
 rcases Nat.lt_or_ge i sp with g1|g1
 . have gP:(i:Int)<sp:=by omega
   have f1:-9223372036854775808<=(i:Int)+1/\(i:Int)+1<=9223372036854775807:=by omega
   have ej:∀al:aa,Tok (σ.del c) al a 1 (rs.map λb:Nat=>AV.gn b 0 sp sp)->∀y l,al y=some (.cells l)->bv a≠some y:=λal I y l p e=>by obtain⟨_,_,q⟩:=I.aY e;rw[p]at q;cases q
   have fresh:∀b,σ' b=none->σ b=none/\b≠c/\b≠A/\b≠w/\w≠b/\b∉rs:=λb B=>by
    have n1:b≠c:=λe=>by subst e;obtain⟨_,_,_,q⟩:=K;rw[q]at B;cases B
    refine⟨?_,n1,λe=>(by subst e;rw[q4]at B;cases B),λe=>(by subst e;rw[Q]at B;cases B),λe=>(by subst e;rw[Q]at B;cases B),λe=>(by rw[(ad b e).2.2.2.2]at B;cases B)⟩
    cases e:σ b with
    |none=>rfl
    |some x=>have:=u.1 b x (by simp[aa.del,n1,e]);rw[B]at this;cases this
   refine rn ?_;simp[G,J,e8,Q,gP];refine⟨?_,?_⟩
   . ((
       refine oW lay rfl bC rfl oo rfl (by decide) rfl rfl (n:=sp) (by simp[J]) (by simp[J]) ⟨by omega,by omega⟩ λb B=>?_
       obtain⟨ca,av,ax,ay,b9,b0⟩:=fresh b B;have up:=u.up (aa.cX (x:=.cells (List.replicate sp (int 0))) (aa.le_refl _) B);have b6:(σ'.set b (.cells (List.replicate sp (int 0)))) w=some (.cells [.lit (.slice none 0 0),a,int 0,int 0,int dG,int most]):=(aa.ag _ _ b9).trans Q;refine pg ?_;simp[G,J,b6,S.1,S.2]))
     ((
       refine aF lay rfl rfl rfl kX rfl kX rfl bC (by decide) (by simp;omega) (σ0:=(σ'.set b (.cells (List.replicate sp (int 0)))).off a) (es:=rs.map λb:Nat=>AV.gn b 0 sp sp) (xs:=[AV.gn b 0 sp sp]) (by simpa using up.here.1) (.inr ⟨_,by simp;rfl⟩) λa' g t=>?_
       have C:=t.cells;have F:∀y l,(σ'.set b (.cells (List.replicate sp (int 0)))) y=some (.cells l)->g y=some (.cells l):=λy l p=>t.1 _ _ (by rw[aa.fQ (ej _ up y l p)];exact p)
       have X:=F _ _ b6;refine pg ?_;simp[G,X,C.1,C.2,aH];refine rn ?_;simp[e8,f1.1,f1.2];obtain⟨nb,zb,H,D⟩:=K
       have E:Tok (σ.del c) g a' 1 ((rs++[b]).map λb:Nat=>AV.gn b 0 sp sp):=by have:=t.base up.here.2;simpa using this
       refine ih _ g1 ⟨_,_,a',rs++[b],rfl,by simp[O],by simp[e1],by simp[Z],by simp[G],by simp[J],by simp[e7],by simp,⟨nb,zb,H,?_⟩,?_,aa.an _ _ _,E.beside (by simp[aa.del,N,Y]) (λe=>by obtain⟨_,_,q⟩:=E.aY e;rw[X]at q;cases q),by simp[b8],?_,?_⟩
       . rw[aa.ag _ _ (Ne.symm N)];exact F _ _ ((aa.ag _ _ (Ne.symm av)).trans D)
       . rw[aa.ag _ _ (Ne.symm P)];exact F _ _ ((aa.ag _ _ (Ne.symm ax)).trans q4)
       . rw[List.nodup_append]
         exact⟨a8,by simp,λx I y p=>by simp at p;subst p;exact λe=>b0 (e ▸ I)⟩
       . intro d hd
         rcases List.mem_append.1 hd with hd|hd
         . obtain⟨p1,p2,p3,p4,p5⟩:=ad d hd
           have bq:d≠b:=λe=>b0 (e ▸ hd)
           exact⟨p1,p2,p3,p4,by rw[aa.ag _ _ p4];exact F _ _ ((aa.ag _ _ bq).trans p5)⟩
         . simp at hd
           subst hd;exact⟨ca,av,ax,ay,by rw[aa.ag _ _ ay];exact F _ _ (aa.an _ _ _)⟩))
   . ((
       refine oW lay rfl bC rfl oo rfl (by decide) rfl rfl (n:=sp) (by simp[J]) (by simp[J]) ⟨by omega,by omega⟩ λb B=>?_
       obtain⟨ca,av,ax,ay,b9,b0⟩:=fresh b B;have up:=u.up (aa.cX (x:=.cells (List.replicate sp (int 0))) (aa.le_refl _) B);have b6:(σ'.set b (.cells (List.replicate sp (int 0)))) w=some (.cells [.lit (.slice none 0 0),a,int 0,int 0,int dG,int most]):=(aa.ag _ _ b9).trans Q;refine pg ?_;simp[G,J,b6,S.1,S.2]))
     refine⟨?_,?_⟩
     . ((
         refine aF lay rfl rfl rfl kX rfl kX rfl bC (by decide) (by simp;omega) (σ0:=(σ'.set b (.cells (List.replicate sp (int 0)))).off a) (es:=rs.map λb:Nat=>AV.gn b 0 sp sp) (xs:=[AV.gn b 0 sp sp]) (by simpa using up.here.1) (.inr ⟨_,by simp;rfl⟩) λa' g t=>?_
         have C:=t.cells;have F:∀y l,(σ'.set b (.cells (List.replicate sp (int 0)))) y=some (.cells l)->g y=some (.cells l):=λy l p=>t.1 _ _ (by rw[aa.fQ (ej _ up y l p)];exact p)
         have X:=F _ _ b6;refine pg ?_;simp[G,X,C.1,C.2,aH];refine rn ?_;simp[e8,f1.1,f1.2];obtain⟨nb,zb,H,D⟩:=K
         have E:Tok (σ.del c) g a' 1 ((rs++[b]).map λb:Nat=>AV.gn b 0 sp sp):=by have:=t.base up.here.2;simpa using this
         refine ih _ g1 ⟨_,_,a',rs++[b],rfl,by simp[O],by simp[e1],by simp[Z],by simp[G],by simp[J],by simp[e7],by simp,⟨nb,zb,H,?_⟩,?_,aa.an _ _ _,E.beside (by simp[aa.del,N,Y]) (λe=>by obtain⟨_,_,q⟩:=E.aY e;rw[X]at q;cases q),by simp[b8],?_,?_⟩
         . rw[aa.ag _ _ (Ne.symm N)];exact F _ _ ((aa.ag _ _ (Ne.symm av)).trans D)
         . rw[aa.ag _ _ (Ne.symm P)];exact F _ _ ((aa.ag _ _ (Ne.symm ax)).trans q4)
         . rw[List.nodup_append]
           exact⟨a8,by simp,λx I y p=>by simp at p;subst p;exact λe=>b0 (e ▸ I)⟩
         . intro d hd
           rcases List.mem_append.1 hd with hd|hd
           . obtain⟨p1,p2,p3,p4,p5⟩:=ad d hd
             have bq:d≠b:=λe=>b0 (e ▸ hd)
             exact⟨p1,p2,p3,p4,by rw[aa.ag _ _ p4];exact F _ _ ((aa.ag _ _ bq).trans p5)⟩
           . simp at hd
             subst hd;exact⟨ca,av,ax,ay,by rw[aa.ag _ _ ay];exact F _ _ (aa.an _ _ _)⟩))
     . ((
         refine aF lay rfl rfl rfl kX rfl kX rfl bC (by decide) (by simp;omega) (σ0:=(σ'.set b (.cells (List.replicate sp (int 0)))).off a) (es:=rs.map λb:Nat=>AV.gn b 0 sp sp) (xs:=[AV.gn b 0 sp sp]) (by simpa using up.here.1) (.inr ⟨_,by simp;rfl⟩) λa' g t=>?_
         have C:=t.cells;have F:∀y l,(σ'.set b (.cells (List.replicate sp (int 0)))) y=some (.cells l)->g y=some (.cells l):=λy l p=>t.1 _ _ (by rw[aa.fQ (ej _ up y l p)];exact p)
         have X:=F _ _ b6;refine pg ?_;simp[G,X,C.1,C.2,aH];refine rn ?_;simp[e8,f1.1,f1.2];obtain⟨nb,zb,H,D⟩:=K
         have E:Tok (σ.del c) g a' 1 ((rs++[b]).map λb:Nat=>AV.gn b 0 sp sp):=by have:=t.base up.here.2;simpa using this
         refine ih _ g1 ⟨_,_,a',rs++[b],rfl,by simp[O],by simp[e1],by simp[Z],by simp[G],by simp[J],by simp[e7],by simp,⟨nb,zb,H,?_⟩,?_,aa.an _ _ _,E.beside (by simp[aa.del,N,Y]) (λe=>by obtain⟨_,_,q⟩:=E.aY e;rw[X]at q;cases q),by simp[b8],?_,?_⟩
         . rw[aa.ag _ _ (Ne.symm N)];exact F _ _ ((aa.ag _ _ (Ne.symm av)).trans D)
         . rw[aa.ag _ _ (Ne.symm P)];exact F _ _ ((aa.ag _ _ (Ne.symm ax)).trans q4)
         . rw[List.nodup_append]
           exact⟨a8,by simp,λx I y p=>by simp at p;subst p;exact λe=>b0 (e ▸ I)⟩
         . intro d hd
           rcases List.mem_append.1 hd with hd|hd
           . obtain⟨p1,p2,p3,p4,p5⟩:=ad d hd
             have bq:d≠b:=λe=>b0 (e ▸ hd)
             exact⟨p1,p2,p3,p4,by rw[aa.ag _ _ p4];exact F _ _ ((aa.ag _ _ bq).trans p5)⟩
           . simp at hd
             subst hd;exact⟨ca,av,ax,ay,by rw[aa.ag _ _ ay];exact F _ _ (aa.an _ _ _)⟩))
 . have gR:sp=i:=by omega
   subst gR;clear ih b7 eK eR cv
   obtain⟨spr,rfl⟩:∃spr,a=.sl 1 (rs.map λb:Nat=>AV.gn b 0 sp sp) spr:=by
    rcases u.2 with⟨_,e⟩|e|⟨_,_,_,e,_⟩
    . have:=congrArg List.length e
      rw[List.length_map]at this;simp only[List.length_nil]at this;omega
    . exact⟨_,e⟩
    . exact⟨_,e⟩
   have T:=u.1;clear u
   have a9:∀(j:Nat) (hj:j<rs.length),σ rs[j]=none/\rs[j]≠c/\rs[j]≠A/\rs[j]≠w:=λj hj=>by obtain⟨p1,p2,p3,p4,_⟩:=ad _ (List.getElem_mem hj);exact⟨p1,p2,p3,p4⟩
   refine rn ?_;simp[J,e8]
   have o:∀(j:Nat) (hj:j<rs.length),σ' rs[j]=some (.cells (((List.replicate sp (List.replicate sp (0:Int))).getD j []).map int)):=λj hj=>by rw[(ad _ (List.getElem_mem hj)).2.2.2.2];simp[List.getD_eq_getElem?_getD,show j<sp by omega]
   clear ad
   refine ab.loop sp (λi s=>∃env σ' M,s=⟨env,σ',[],.no⟩/\env 0=.ref c 0/\env 1=int cnt/\env 4=.ref A 0/\env 5=.ref w 0/\env 6=int sp/\env 7=int lo/\env 9=int i/\cB c nums (k+4+3*i) σ'/\σ' A=some (.cells gK)/\σ' w=some (.cells [.lit (.slice none 0 0),.sl 1 (rs.map λb:Nat=>AV.gn b 0 sp sp) spr,int 0,int 0,int dG,int most])/\
    (σ.del c).Le σ'/\F5 sp lo i 0 M/\∀(j:Nat) (hj:j<rs.length),σ' rs[j]=some (.cells ((M.getD j []).map int))) ⟨_,σ',_,rfl,by simp[O],by simp[e1],by simp[Z],by simp[G],by simp[J],by simp[e7],by simp,K,q4,Q,T,F5.start sp lo,o⟩ ?_
   clear O e1 Z G J e7 e8 K q4 Q T o
   rintro c1 i _ hA ⟨env,σ',M,rfl,O,e1,Z,G,J,e7,e9,K,q4,Q,T,hM,o⟩ ih
   rcases Nat.lt_or_ge i sp with g2|g2
   . have jj:(i:Int)<sp:=by omega
     refine rn ?_;simp[J,e9,jj]
     refine ab.loop i (λj s=>∃env σ' M,s=⟨env,σ',[],.no⟩/\env 0=.ref c 0/\env 1=int cnt/\env 4=.ref A 0/\env 5=.ref w 0/\env 6=int sp/\env 7=int lo/\env 9=int i/\env 10=int j/\cB c nums (k+4+3*i+j) σ'/\σ' A=some (.cells gK)/\σ' w=some (.cells [.lit (.slice none 0 0),.sl 1 (rs.map λb:Nat=>AV.gn b 0 sp sp) spr,int 0,int 0,int dG,int most])/\
      (σ.del c).Le σ'/\F5 sp lo i j M/\∀(j:Nat) (hj:j<rs.length),σ' rs[j]=some (.cells ((M.getD j []).map int))) ⟨_,σ',M,rfl,by simp[O],by simp[e1],by simp[Z],by simp[G],by simp[J],by simp[e7],by simp[e9],by simp,K,q4,Q,T,hM,o⟩ ?_
     clear O e1 Z G J e7 e9 K q4 Q T hM o
     rintro c2 j _ hj ⟨env,σ',M,rfl,O,e1,Z,G,J,e7,e9,cP,K,q4,Q,T,hM,o⟩ eW
     rcases Nat.lt_or_ge j i with g3|g3
     . have mE:(j:Int)<i:=by omega
       have f1:-9223372036854775808<=(j:Int)+1/\(j:Int)+1<=9223372036854775807:=by omega
       have f2:-9223372036854775808<=2*lo/\2*lo<=9223372036854775807:=by omega
       refine rn ?_;simp[O,e7,e9,cP,mE,f2.1,f2.2];refine cf Tryz.func104 rfl (kR (by omega) hn ⟨by omega,by omega⟩ ⟨by omega,by omega⟩ K λv r hv hd=>?_)
       have s5:r w=some (.cells [.lit (.slice none 0 0),.sl 1 (rs.map λb:Nat=>AV.gn b 0 sp sp) spr,int 0,int 0,int dG,int most]):=by rw[hd.2 w N];exact Q
       have s4:r A=some (.cells gK):=by rw[hd.2 A a7];exact q4
       have dd:i<rs.length:=by omega
       have dj:j<rs.length:=by omega
       obtain⟨z1,z2,z3,z4⟩:=a9 i dd;obtain⟨y1,y2,y3,y4⟩:=a9 j dj;have si:r rs[i]=some (.cells ((M.getD i []).map int)):=by rw[hd.2 _ z2];exact o i dd
       have sj:r rs[j]=some (.cells ((M.getD j []).map int)):=by rw[hd.2 _ y2];exact o j dj
       have gU:rs[i]≠rs[j]:=ta a8 (by omega)
       have fc:=Ne.symm gU;obtain⟨Ri,fi⟩:∃R,R=M.getD i []:=⟨_,rfl⟩;obtain⟨Rj,fl⟩:∃R,R=M.getD j []:=⟨_,rfl⟩;have li:=hM.row i (by omega)
       have lj:=hM.row j (by omega)
       rw[<-fi]at si li;rw[<-fl]at sj lj;have h3:j+1<=sp:=by omega
       have h6:i+1<=sp:=by omega
       have g4:j<sp:=by omega
       have h7:(j:Int)<sp:=by omega
       have fp:(i:Int)<sp:=by omega
       have hF:∀g,g=(r.set rs[i] (.cells ((Ri.map int).set j (int v)))).set rs[j] (.cells ((Rj.map int).set i (int v)))->cB c nums (k+4+3*i+(j+1)) g/\g A=some (.cells gK)/\g w=some (.cells [.lit (.slice none 0 0),.sl 1 (rs.map λb:Nat=>AV.gn b 0 sp sp) spr,int 0,int 0,int dG,int most])/\(σ.del c).Le g/\∀(l:Nat) (L:l<rs.length),g rs[l]=some (.cells (((yg M i j v).getD l []).map int)):=λg e3=>by
        subst e3;refine⟨?_,?_,?_,λy x p=>?_,λl L=>?_⟩
        . obtain⟨nb,zb,H,D⟩:=hd.1
          exact⟨nb,zb,by omega,by rw[aa.ag _ _ (Ne.symm y2),aa.ag _ _ (Ne.symm z2)];exact D⟩
        . rw[aa.ag _ _ (Ne.symm y3),aa.ag _ _ (Ne.symm z3)];exact s4
        . rw[aa.ag _ _ (Ne.symm y4),aa.ag _ _ (Ne.symm z4)];exact s5
        . have w1:y≠c:=λe=>by subst e;simp[aa.del]at p
          have w0:σ y=some x:=by simpa[aa.del,w1]using p
          have w2:y≠rs[i]:=λe=>by rw[e,z1]at w0;cases w0
          have w3:y≠rs[j]:=λe=>by rw[e,y1]at w0;cases w0
          rw[aa.ag _ _ w3,aa.ag _ _ w2,hd.2 y w1];exact T y x p
        . rw [zI (by rw[hM.len];omega) (by rw[hM.len];omega) (by omega),<-fi,<-fl]
          by_cases q1:l=j
          . subst q1
            rw[if_pos rfl,aa.an,List.map_set]
          . rw[if_neg q1,aa.ag _ _ (ta a8 q1)]
            by_cases q2:l=i
            . subst q2
              rw[if_pos rfl,aa.an,List.map_set]
            . rw[if_neg q2,aa.ag _ _ (ta a8 q2),hd.2 _ (a9 l L).2.1]
              exact o l L
       have U:=hF _ rfl;clear hF;refine rn ?_;simp[G,e9,cP,s5,b8,g2,g4,h7,fp,h3,h6,li,lj,si,sj,aa.ag,fc];refine⟨?_,?_⟩
       . refine rn ?_
         simp[cP,f1.1,f1.2];exact eW _ g3 ⟨_,_,yg M i j v,rfl,by simp[O],by simp[e1],by simp[Z],by simp[G],by simp[J],by simp[e7],by simp[e9],by simp,U.1,U.2.1,U.2.2.1,U.2.2.2.1,hM.next (by omega) g3 ⟨hv.1,by omega⟩,U.2.2.2.2⟩
       . refine rn ?_
         simp[cP,f1.1,f1.2];exact eW _ g3 ⟨_,_,yg M i j v,rfl,by simp[O],by simp[e1],by simp[Z],by simp[G],by simp[J],by simp[e7],by simp[e9],by simp,U.1,U.2.1,U.2.2.1,U.2.2.2.1,hM.next (by omega) g3 ⟨hv.1,by omega⟩,U.2.2.2.2⟩
     . have h8:i=j:=by omega
       subst h8;have f1:-9223372036854775808<=(i:Int)+1/\(i:Int)+1<=9223372036854775807:=by omega
       refine rn ?_;simp[e9,cP,f1.1,f1.2];exact ih _ g2 ⟨_,_,M,rfl,by simp[O],by simp[e1],by simp[Z],by simp[G],by simp[J],by simp[e7],by simp,K.mono (by omega),q4,Q,T,hM.line,o⟩
   . have h9:sp=i:=by omega
     subst h9;clear ih;have ft:∀l,l<rs.length->(M.getD l []).length=sp:=λl L=>hM.row l (by omega)
     have fv:w∉rs:=λe=>by obtain⟨l,L,e'⟩:=List.mem_iff_getElem.1 e;exact(a9 l L).2.2.2 e'
     have b3:rs.map (λb:Nat=>AV.gn b 0 sp sp)=i8 rs M sp 0:=by
      apply List.ext_getElem?;intro l
      by_cases L:l<rs.length
      . rw[o6 L,if_neg (by omega),List.getElem?_map,List.getElem?_eq_getElem L]
        simp[List.getD_eq_getElem?_getD,L]
      . rw[List.getElem?_eq_none (by rw[List.length_map];omega),List.getElem?_eq_none (by rw[o0];omega)]
     have b4:i8 rs M sp rs.length=M.map ints:=by
      have ep:=hM.len;apply List.ext_getElem?;intro l
      by_cases L:l<rs.length
      . have fw:l<M.length:=by omega
        rw[o6 L,if_pos L,List.getElem?_map,List.getElem?_eq_getElem fw];simp[List.getD_eq_getElem?_getD,fw]
      . rw[List.getElem?_eq_none (by rw[o0];omega),List.getElem?_eq_none (by rw[List.length_map];omega)]
     rw[b3]at Q;refine C6 (d:=w) (n:=sp) (at_:=1) (rs:=rs) (M:=M) (cs:=[.lit (.slice none 0 0),.bJ,int 0,int 0,int dG,int most]) (spr:=spr) σ' a8 ft (by simp) fv (λg et fx=>?_) rs.length 0 (by omega) σ' (by simpa using Q) (λl L _=>o l L) (λ_ _ _=>rfl)
     rw[b4]at et;have fO:=hM.fin;have ep:=hM.len
     have F:∀(j:Nat),j≠w->(∀(l:Nat) (L:l<rs.length),rs[l]≠j)->g j=σ' j:=λj h1 h2=>fx j h1 λe=>by obtain⟨l,L,e'⟩:=List.mem_iff_getElem.1 e;exact h2 l L e'
     have gd:cB c nums (k+4+3*sp) g:=by obtain⟨nb,zb,H,D⟩:=K;exact⟨nb,zb,H,by rw[F c (Ne.symm N) (λl L=>(a9 l L).2.1)];exact D⟩
     have gj:g A=some (.cells gK):=by rw[F A (Ne.symm P) (λl L=>(a9 l L).2.2.1)];exact q4
     have gp:g w=some (.cells [.lit (.slice none 0 0),.sl 1 (M.map ints) spr,int 0,int 0,int dG,int most]):=by simpa using et
     have dr:(σ.del c).Le g:=λy x p=>by
      have w1:y≠c:=λe=>by subst e;simp[aa.del]at p
      have w0:σ y=some x:=by simpa[aa.del,w1]using p
      rw[F y (λe=>by subst e;rw[Y]at w0;cases w0) (λl L e=>by subst e;rw[(a9 l L).1]at w0;cases w0)]
      exact T y x p
     clear et fx o b3 b4 K q4 Q T hM ft fv F a9 a8 b8;refine rn ?_;simp[O,J,e9];refine cf Tryz.func30 rfl (iW (by omega) hn ⟨by omega,by omega⟩ gd λfr b5 hB bz=>?_)
     refine rn ?_;simp[O];refine cf Tryz.func104 rfl (kR (by omega) hn ⟨by omega,by omega⟩ ⟨by omega,by omega⟩ bz.1 λto cb hD bA=>?_)
     have X:cb w=some (.cells [.lit (.slice none 0 0),.sl 1 (M.map ints) spr,int 0,int 0,int dG,int most]):=by rw[bA.2 w N,bz.2 w N];exact gp
     refine rn ?_;simp[O,e1,G,X,aH];have t4:cb A=some (.cells gK):=by rw[bA.2 A a7,bz.2 A a7];exact gj
     have dx:(σ.del c).Le cb:=λy x p=>by
      have w1:y≠c:=λe=>by subst e;simp[aa.del]at p
      rw[bA.2 y w1,bz.2 y w1];exact dr y x p
     have gw:∀x,cB c nums (k+6+3*sp) (cb.set w x):=λx=>by obtain⟨n,z,h1,h2⟩:=bA.1;exact⟨n,z,by omega,by rw[aa.ag _ _ (Ne.symm N)];exact h2⟩
     refine cf Tryz.func30 rfl (iW (by omega) hn ⟨by omega,by omega⟩ (gw _) λq cg hE bB=>?_)
     refine rn ?_;simp;have u5:cg w=some (.cells [.lit (.slice none 0 0),.sl 1 (M.map ints) spr,int fr,int to,int dG,int most]):=by rw[bB.2 w N,aa.an]
     have u4:cg A=some (.cells gK):=by rw[bB.2 A a7,aa.ag _ _ (Ne.symm P)];exact t4
     have dy:(σ.del c).Le cg:=λy x p=>by
      have w1:y≠c:=λe=>by subst e;simp[aa.del]at p
      have w0:σ y=some x:=by simpa[aa.del,w1]using p
      rw[bB.2 y w1,aa.ag _ _ (λe=>by subst e;rw[Y]at w0;cases w0)];exact dx y x p
     obtain⟨qn,rfl⟩:∃qn:Nat,q=(qn:Int):=⟨q.toNat,by omega⟩
     have hG:(qn:Int)<=cnt:=by omega
     have ea:=bB.1;clear bz bA bB gw gd gj gp dr dx X t4
     refine ab.loop qn (λi s=>∃env σ' a es,s=⟨env,σ',[],.no⟩/\env 0=.ref c 0/\env 4=.ref A 0/\env 5=.ref w 0/\env 6=int sp/\env 13=int ((qn:Int)-i)/\cB c nums (k+7+3*sp+11*i) σ'/\σ' A=some (.cells gK)/\σ' w=some (.cells [a,.sl 1 (M.map ints) spr,int fr,int to,int dG,int most])/\
      Tok (σ.del c) σ' a 6 (es.map aS)/\es.length=i/\(∀e∈es,uY sp e)/\(es=[]->a=.lit (.slice none 0 0))) ⟨_,cg,.lit (.slice none 0 0),[],rfl,by simp[O],by simp[Z],by simp[G],by simp[J],by simp,ea.mono (by omega),u4,u5,⟨dy,.inl ⟨rfl,rfl⟩⟩,rfl,by simp,λ_=>rfl⟩ ?_
     clear O e1 Z G J e7 e9 ea u4 u5 dy
     rintro c3 i _ hH ⟨env,σ',a,es,rfl,O,Z,G,J,c6,cl,q4,Q,u,ev,cm,gA⟩ ih
     have S:=u.cells;have c7:∀al:aa,Tok (σ.del c) al a 6 (es.map aS)->∀y l,al y=some (.cells l)->bv a≠some y:=λal I y l p e=>by obtain⟨_,_,q⟩:=I.aY e;rw[p]at q;cases q
     have gB:∃l,σ' c=some (.cells l):=by obtain⟨_,_,_,q⟩:=cl;exact⟨_,q⟩
     rcases Nat.lt_or_ge i qn with g1|g1
     . have f1 : -9223372036854775808<=(qn:Int)-i-1/\(qn:Int)-i-1<=9223372036854775807:=by omega
       refine rn ?_;simp[O,G,J,c6,Q,g1];refine⟨?_,?_⟩
       . ((
           refine cf Tryz.func43 rfl (oZ (by omega) hn ⟨by omega,by omega⟩ cl λe r he hd=>?_)
           have s5:r w=some (.cells [a,.sl 1 (M.map ints) spr,int fr,int to,int dG,int most]):=by rw[hd.2 w N];exact Q
           have s4:r A=some (.cells gK):=by rw[hd.2 A a7];exact q4
           have V:Tok (σ.del c) r a 6 (es.map aS):=sZ u (by simp[aa.del]) gB hd.2
           refine pg ?_;simp[G,s5,S.1,S.2]))
         ((
           refine aF lay rfl rfl rfl lz rfl lz rfl tx (by decide) (by simp;omega) (σ0:=r.off a) (es:=es.map aS) (xs:=[aS e]) (by simpa using V.here.1) (.inr ⟨_,by simp;rfl⟩) λa' g t=>?_
           have C:=t.cells;have F:∀y l,r y=some (.cells l)->g y=some (.cells l):=λy l p=>t.1 _ _ (by rw[aa.fQ (c7 _ V y l p)];exact p)
           have X:=F _ _ s5;have t4:=F _ _ s4;refine pg ?_;simp[G,X,C.1,C.2,aH];refine rn ?_;simp[c6,f1.1,f1.2];obtain⟨nb,zb,H,D⟩:=hd.1
           have E:Tok (σ.del c) g a' 6 ((es++[e]).map aS):=by have:=t.base V.here.2;simpa using this
           refine ih _ g1 ⟨_,_,a',es++[e],rfl,by simp[O],by simp[Z],by simp[G],by simp[J],by simp;omega,⟨nb,zb,by omega,?_⟩,?_,aa.an _ _ _,E.beside (by simp[aa.del,N,Y]) (λe=>by obtain⟨_,_,q⟩:=E.aY e;rw[X]at q;cases q),by simp[ev],?_,λe=>by simp at e⟩
           . rw[aa.ag _ _ (Ne.symm N)];exact F _ _ D
           . rw[aa.ag _ _ (Ne.symm P)];exact t4
           . intro x I
             rcases List.mem_append.1 I with I|I
             . exact cm x I
             . simp at I;subst I;exact he))
       . ((
           refine cf Tryz.func43 rfl (oZ (by omega) hn ⟨by omega,by omega⟩ cl λe r he hd=>?_)
           have s5:r w=some (.cells [a,.sl 1 (M.map ints) spr,int fr,int to,int dG,int most]):=by rw[hd.2 w N];exact Q
           have s4:r A=some (.cells gK):=by rw[hd.2 A a7];exact q4
           have V:Tok (σ.del c) r a 6 (es.map aS):=sZ u (by simp[aa.del]) gB hd.2
           refine pg ?_;simp[G,s5,S.1,S.2]))
         refine⟨?_,?_⟩
         . ((
             refine aF lay rfl rfl rfl lz rfl lz rfl tx (by decide) (by simp;omega) (σ0:=r.off a) (es:=es.map aS) (xs:=[aS e]) (by simpa using V.here.1) (.inr ⟨_,by simp;rfl⟩) λa' g t=>?_
             have C:=t.cells;have F:∀y l,r y=some (.cells l)->g y=some (.cells l):=λy l p=>t.1 _ _ (by rw[aa.fQ (c7 _ V y l p)];exact p)
             have X:=F _ _ s5;have t4:=F _ _ s4;refine pg ?_;simp[G,X,C.1,C.2,aH];refine rn ?_;simp[c6,f1.1,f1.2];obtain⟨nb,zb,H,D⟩:=hd.1
             have E:Tok (σ.del c) g a' 6 ((es++[e]).map aS):=by have:=t.base V.here.2;simpa using this
             refine ih _ g1 ⟨_,_,a',es++[e],rfl,by simp[O],by simp[Z],by simp[G],by simp[J],by simp;omega,⟨nb,zb,by omega,?_⟩,?_,aa.an _ _ _,E.beside (by simp[aa.del,N,Y]) (λe=>by obtain⟨_,_,q⟩:=E.aY e;rw[X]at q;cases q),by simp[ev],?_,λe=>by simp at e⟩
             . rw[aa.ag _ _ (Ne.symm N)];exact F _ _ D
             . rw[aa.ag _ _ (Ne.symm P)];exact t4
             . intro x I
               rcases List.mem_append.1 I with I|I
               . exact cm x I
               . simp at I;subst I;exact he))
         . ((
             refine aF lay rfl rfl rfl lz rfl lz rfl tx (by decide) (by simp;omega) (σ0:=r.off a) (es:=es.map aS) (xs:=[aS e]) (by simpa using V.here.1) (.inr ⟨_,by simp;rfl⟩) λa' g t=>?_
             have C:=t.cells;have F:∀y l,r y=some (.cells l)->g y=some (.cells l):=λy l p=>t.1 _ _ (by rw[aa.fQ (c7 _ V y l p)];exact p)
             have X:=F _ _ s5;have t4:=F _ _ s4;refine pg ?_;simp[G,X,C.1,C.2,aH];refine rn ?_;simp[c6,f1.1,f1.2];obtain⟨nb,zb,H,D⟩:=hd.1
             have E:Tok (σ.del c) g a' 6 ((es++[e]).map aS):=by have:=t.base V.here.2;simpa using this
             refine ih _ g1 ⟨_,_,a',es++[e],rfl,by simp[O],by simp[Z],by simp[G],by simp[J],by simp;omega,⟨nb,zb,by omega,?_⟩,?_,aa.an _ _ _,E.beside (by simp[aa.del,N,Y]) (λe=>by obtain⟨_,_,q⟩:=E.aY e;rw[X]at q;cases q),by simp[ev],?_,λe=>by simp at e⟩
             . rw[aa.ag _ _ (Ne.symm N)];exact F _ _ D
             . rw[aa.ag _ _ (Ne.symm P)];exact t4
             . intro x I
               rcases List.mem_append.1 I with I|I
               . exact cm x I
               . simp at I;subst I;exact he))
     . have ha:i=qn:=by omega
       subst ha;refine rn ?_;simp[Z,G,c6,Q,S.2,q4,aH];obtain⟨nb,zb,H,D⟩:=cl;obtain⟨f,hf⟩:∃f:Fr,f=⟨es,M,fr,to,dG,most⟩:=⟨_,rfl⟩
       have hh:nG cnt f:=by
        subst hf;refine⟨eB,ei,by show 1<=M.length/\M.length<=3;omega,⟨lo,gH,by show s8 M.length lo M;rw[ep];exact fO⟩,by show 0<=fr/\fr<=2;omega,by show fr<=to/\to<=2;omega,by show(es.length:Int)<=cnt;omega,λe he=>?_⟩
        show uY M.length e;rw[ep];exact cm e he
       obtain⟨a2,ho,hp⟩:∃a2,((f.ao=[]->a2=.lit (.slice none 0 0))/\(f.ao≠[]->a2=ll f.ao))/\a.W a2:=by
        by_cases e:es=[]
        . exact⟨_,⟨λ_=>rfl,λe2=>absurd (by subst hf;exact e) e2⟩,by rw[gA e];exact .refl _⟩
        . exact⟨_,⟨λe2=>absurd (by subst hf;exact e2) e,λ_=>rfl⟩,by subst hf;exact u.W⟩
       refine .eG (a':=.agg [a2,rows f.roads,int f.bE,int f.iQ,int f.dG,int f.most]) (oz (by subst hf;rfl) λi x y x1 x2=>?_) (.less (σ':=σ.set c (.cells [ints nums,int nb,.lit (.int .u64 zb)])) (λy x p=>?_) (.done (h f a2 _ hh ⟨⟨nb,zb,by omega,aa.an _ _ _⟩,λy p=>aa.ag _ _ p⟩ ho)))
       . subst hf
         match i with
         |0=>simp at x1 x2;subst x1;subst x2;exact hp
         |1=>simp at x1 x2;subst x1;subst x2;exact eE 1 _ spr
         |2=>simp at x1 x2;subst x1;subst x2;exact .refl _
         |3=>simp at x1 x2;subst x1;subst x2;exact .refl _
         |4=>simp at x1 x2;subst x1;subst x2;exact .refl _
         |5=>simp at x1 x2;subst x1;subst x2;exact .refl _
         |i+6=>simp at x1
       . by_cases y1:y=c
         . subst y1
           rw[aa.an]at p;rw[aa.ag _ _ n4,D];exact p
         . rw[aa.ag _ _ y1]at p
           have y4:y≠A:=λe=>by subst e;rw[h4]at p;cases p
           rw[aa.ag _ _ y4];exact u.1 y x (by simpa[aa.del,y1]using p)
theorem Ih{cnt:Int}(n:k+20+11*cnt.toNat<1000000)(o:nums.length<1152921504606846976)(g:0<=cnt/\cnt<=1000)(hb:cB c nums k σ)(h:∀(f:Fr) σ',nG cnt f->nR c nums (k+20+11*cnt.toNat) σ σ'->KF (.val (az f)) σ'):ar prog m 56 [.ref c 0,int cnt] σ KF:=by
 refine ar.thaw (xz n o g hb λf a σ' j hd l=>?_);by_cases e:f.ao=[]
 . obtain rfl:=l.1 e
   refine .eG (a':=az f) (oz rfl λi x y b d=>?_) (.done (h f σ' j hd))
   match i with
   |0=>simp at b d;subst b;subst d;rw[e];exact cV 6
   |1=>simp at b d;subst b;subst d;exact .refl _
   |2=>simp at b d;subst b;subst d;exact .refl _
   |3=>simp at b d;subst b;subst d;exact .refl _
   |4=>simp at b d;subst b;subst d;exact .refl _
   |5=>simp at b d;subst b;subst d;exact .refl _
   |i+6=>simp at b
 . obtain rfl:=l.2 e
   exact .done (h f σ' j hd)
end
end Go.Proofs.YtldmpfccgajobaaGreatDoor
namespace Go.Proofs.YtldmpfccgajobaaGreatDoor
open Tryz (prog)
open Go.aR Go.Conc
set_option maxHeartbeats 2000000
set_option maxRecDepth 4000
def LI(f:Fr)(l:List Int):List Int:=(bL f (be f (l.getD 0 0))).filter λh=>l.all λj=>decide (h∈bL f (be f j))
theorem C7{f:Fr}{l:List Int}(b:l≠[]):eP f l=LI f l:=by
 match l,b with
 | a::r,_=>
   simp only[eP,LI,dm,List.map_cons,List.getD_cons_zero];refine List.filter_congr λx c=>?_
   simp[c]
end Go.Proofs.YtldmpfccgajobaaGreatDoor
namespace Go.Proofs.YtldmpfccgajobaaGreatDoor
open Tryz (prog)
open Go.aR Go.Conc
set_option maxHeartbeats 1000000
set_option maxRecDepth 4000
section
variable{k:Int->Int}
abbrev Gz(k:Int->Int):Int->Int->Bool:=λa b=>decide (k a<k b)
theorem Nw{x y:Int}{r:List Int}(h:k x<k y):fH (Gz k) x (y::r)=y::fH (Gz k) x r:=by simp[fH,Gz,h]
theorem Nx{x y:Int}{r:List Int}(h:¬k x<k y):fH (Gz k) x (y::r)=x::y::r:=by simp[fH,Gz,h]
end
theorem uJ(f:Fr)(l:List Int):aU f l=(dp (Gz λn=>(be f n).hour) l).reverse:=by
 unfold aU;congr 2;funext a b;unfold uh A9 Gz;by_cases c:(be f a).hour<(be f b).hour
 . simp[c]
 . by_cases d:(be f b).hour<(be f a).hour
   . simp[c,d]
   . simp[c,d]
theorem Bh{f:Fr}{l:List Int}{n:Int}:n∈aU f l↔n∈l:=by unfold aU;rw[List.mem_reverse,qD]
theorem iJ{f:Fr}{n:Int}(h:0<=n/\n<f.ao.length):be f n∈f.ao:=by
 have:n.toNat<f.ao.length:=by omega
 rw[iV this];exact List.getElem_mem this
theorem sm{f:Fr}{l:List Int}(b:l≠[]){h:Int}:h∈eP f l↔∀j∈l,h∈bL f (be f j):=by
 rw[C7 b]
 match l,b with
 |a::r,_=>simp only[LI,List.mem_filter,List.all_eq_true,decide_eq_true_eq];exact⟨λq=>q.2,λq=>⟨q a (by simp),q⟩⟩
theorem sk{f:Fr}{l:List Int}:mG f l=0↔dt f (aU f l)=false/\ci f (aU f l)=false/\bY f (aU f l)=false:=by unfold mG;cases dt f (aU f l)<;>cases ci f (aU f l)<;>cases bY f (aU f l)<;>simp
theorem qr{α β:Type}{B:Nat}{g:α->List β}:∀(l:List α),(∀x∈l,(g x).length<=B)->(l.flatMap g).length<=l.length*B
 |[],_=>by simp
 | a::l,h=>by
   rw[List.flatMap_cons,List.length_append,List.length_cons,Nat.add_mul,Nat.one_mul];have c:=h a (by simp);have d:=qr l λx b=>h x (by simp[b])
   omega
theorem C8{f:Fr}(a:f.Good)(begun:List Int):∀(fuel:Nat) (de:List Int) (many:Int) (b:List Int),(dv f begun fuel de many b).length<=6 ^ fuel
 |0,_,_,_=>by simp[dv]
 | fuel+1,de,many,b=>by
   unfold dv;refine Nat.le_trans (qr (B:=6 ^ fuel) _ λk _=>?_) ?_
   . split
     . simp
     split
     . exact C8 a begun fuel _ _ _
     . simp
   . rw[List.length_range,Nat.pow_succ,Nat.mul_comm]
     have:=a.most;exact Nat.mul_le_mul_left _ (by omega)
theorem cH{f:Fr}(a:f.Good)(begun:List Int):(am f begun).length<=46656:=by refine Nat.le_trans (C8 a begun _ _ _ _) ?_;exact Nat.pow_le_pow_right (by omega) a.oA
theorem nY{α β:Type}{f g:α->List β}{l:List α}(h:∀x∈l,f x=g x):l.flatMap f=l.flatMap g:=by rw[List.flatMap_def,List.flatMap_def,List.map_congr_left h]
def aP(w:List Int)(k:Int):List Int:=(w.zipIdx.filter λp=>decide (p.1=k)).map λp=>(p.2:Int)
theorem fh(w:List Int)(x k:Int):aP (w++[x]) k=aP w k++if x=k then[(w.length:Int)]else[]:=by
 unfold aP;rw[List.zipIdx_append,List.filter_append,List.map_append];by_cases e:x=k<;>simp[e]
theorem kD{w:List Int}{k n:Int}(h:n∈aP w k):0<=n/\n<w.length/\w.getD n.toNat 0=k:=by
 unfold aP at h;obtain⟨p,c,rfl⟩:=List.mem_map.1 h;obtain⟨d,a⟩:=List.mem_filter.1 c;obtain⟨x,i⟩:=p;have b:=List.mem_zipIdx d;simp at a b;refine⟨by omega,by omega,?_⟩;rw[Int.toNat_natCast,List.getD_eq_getElem?_getD,List.getElem?_eq_getElem (by omega)];simp[<-a,b.2]
theorem ki(w:List Int)(x:Int):aB (w++[x])=max (aB w) (x+1):=by unfold aB;rw[List.foldl_append];rfl
theorem yh(t:List Int):∀n:Int,n<=t.foldl (λn k=>max n (k+1)) n:=by
 induction t with
 |nil=>intro n;exact Int.le_refl _
 |cons a t b=>intro n;rw[List.foldl_cons];exact Int.le_trans (by omega) (b _)
theorem mU(w:List Int):0<=aB w:=yh w 0
theorem pL(w:List Int)(b:Int)(hb:0<=b)(h:∀x∈w,x<b):aB w<=b:=by
 have:∀n:Int,n<=b->w.foldl (λn k=>max n (k+1)) n<=b:=by
  induction w with
  |nil=>intro n c;exact c
  | cons a t d=>
    intro n c;rw[List.foldl_cons];have:=h a (by simp);exact d (λx e=>h x (by simp[e])) _ (by omega)
 exact this 0 hb
theorem LJ:∀x:Fin 64,∀n:Fin 6,(∀e∈cD (x.val:Int),e<(n.val:Int))->cD (bH (x.val:Int) (n.val:Int))=cD (x.val:Int)++[(n.val:Int)]:=by decide +kernel
theorem Ii{x:Int}{n:Nat}(c:0<=x/\x<64)(a:n<6)(h:∀e∈cD x,e<n):cD (bH x n)=cD x++[(n:Int)]:=by
 have b:(x.toNat:Int)=x:=by omega
 have:=LJ ⟨x.toNat,by omega⟩ ⟨n,a⟩;simp only[b]at this;exact this h
end Go.Proofs.YtldmpfccgajobaaGreatDoor
namespace Go.Proofs.YtldmpfccgajobaaGreatDoor
open Tryz (prog)
open Go.aR Go.Conc
set_option maxHeartbeats 1000000
set_option maxRecDepth 4000
variable{m:Mo}{σ:aa}{KF:dF->aa->Prop}
theorem yi(w:List Int)(i:Nat)(h:i<w.length):aB (w.take (i+1))=max (aB (w.take i)) (w[i]+1):=by rw[List.take_succ_eq_append_getElem h,ki]
theorem oC{l:List Int}(i:l.length<1152921504606846976)(hb:∀x∈l,-1<=x/\x<=1000)(h:KF (.val (int (aB l))) σ):ar prog m 67 [ints l] σ KF:=by
 refine fs [] 1 Tryz.func67 rfl rfl (by rfl) (by kernel_rfl) ?_;simp[Tryz.f67];refine ab.loop l.length (λk s=>∃env,s=⟨env,σ,[],.no⟩/\env 0=ints l/\env 3=int (aB (l.take k))/\env 4=int k) ⟨_,rfl,by simp,by simp[aB],by simp⟩ ?_;rintro j k _ n ⟨env,rfl,a,b,d⟩ f;rcases Nat.lt_or_ge k l.length with g1|g1
 . have g:(k:Int)<l.length:=by omega
   have o:=hb _ (List.getElem_mem g1);have f1:-9223372036854775808<=(k:Int)+1/\(k:Int)+1<=9223372036854775807:=by omega
   have e:-9223372036854775808<=l[k]+1/\l[k]+1<=9223372036854775807:=by omega
   refine rn ?_;simp[a,b,d,g1,f1.1,f1.2,e.1,e.2];refine f _ g1 ⟨_,rfl,by simp[a],?_,by simp⟩;rw[yi _ _ g1];simp;split<;>omega
 . have c:k=l.length:=by omega
   subst c;rw[List.take_length]at b;refine rn ?_;simp[a,b,d];exact .done h
theorem jB(w:List Int)(k:Int)(i:Nat)(h:i<w.length):aP (w.take (i+1)) k=aP (w.take i) k++if w[i]=k then[(i:Int)]else[]:=by rw[List.take_succ_eq_append_getElem h,fh,List.length_take,Nat.min_eq_left (by omega)]
theorem kB(w:List Int)(k:Int):(aP w k).length<=w.length:=by unfold aP;rw[List.length_map];refine Nat.le_trans (List.length_filter_le _ _) ?_;simp
theorem BI{w:List Int}{k:Int}(r:w.length<1000000)(h:KF (.val (ints (aP w k))) σ):ar prog m 102 [ints w,int k] σ KF:=by
 refine fs [] 2 Tryz.func102 rfl rfl (by rfl) (by kernel_rfl) ?_;simp[Tryz.f102];refine ab.loop w.length (λi s=>∃env b,s=⟨env,b,[],.no⟩/\env 0=ints w/\env 1=int k/\env 6=int i/\Tok σ b (env 5) 1 ((aP (w.take i) k).map int)) ⟨_,σ,rfl,by simp,by simp,by simp,by simpa[aP]using Tok.nil σ 1⟩ ?_;rintro t i _ u ⟨env,b,rfl,d,f,e,a⟩ n;have o:=a.cells;rcases Nat.lt_or_ge i w.length with g1|g1
 . have p:(i:Int)<w.length:=by omega
   have f1:-9223372036854775808<=(i:Int)+1/\(i:Int)+1<=9223372036854775807:=by omega
   refine rn ?_;simp[d,f,e,g1];refine aE.intro (λc=>?_) (λc=>?_)<;>(try simp[-Int.not_lt,-Int.not_le,-Nat.not_lt,-Nat.not_le]at c)<;>(try simp[e,c])
   . have g:=kB (w.take i) k
     rw[List.length_take]at g;refine aF lay rfl rfl rfl bC rfl bC rfl oo (by decide) (by simp;omega) (σ0:=σ) (es:=(aP (w.take i) k).map int) (xs:=[int i]) (by simpa using a) (.inr ⟨_,rfl⟩) λv q j=>?_
     refine rn ?_;simp[e,f1.1,f1.2];refine n _ g1 ⟨_,_,rfl,by simp[d],by simp[f],by simp,?_⟩;rw[jB _ _ _ g1,if_pos c,List.map_append];simpa using j
   . simp[f1.1,f1.2]
     refine n _ g1 ⟨_,_,rfl,by simp[d],by simp[f],by simp,?_⟩;rw[jB _ _ _ g1,if_neg c,List.append_nil];simpa using a
 . have l:i=w.length:=by omega
   subst l;rw[List.take_length]at a;refine rn ?_;simp[d,e];exact .less a.1 (.eG a.W (.done h))
end Go.Proofs.YtldmpfccgajobaaGreatDoor
namespace Go.Proofs.YtldmpfccgajobaaGreatDoor
open Tryz (prog)
open Go.aR Go.Conc
set_option maxHeartbeats 1000000
set_option maxRecDepth 4000
theorem uZ(k:Int):∀(w:List Int) (n:Nat),(((w.zipIdx n).filter λp=>decide (p.1=k)).map λp=>(p.2:Int)).Pairwise (·<·)/\∀x∈(((w.zipIdx n).filter λp=>decide (p.1=k)).map λp=>(p.2:Int)),(n:Int)<=x
 |[],n=>by simp
 | a :: w,n=>by
   have c:=uZ k w (n+1);rw[List.zipIdx_cons,List.filter_cons];split
   . rw[List.map_cons]
     refine⟨List.pairwise_cons.2 ⟨λx b=>?_,c.1⟩,λx b=>?_⟩
     . have:=c.2 x b
       simp only;omega
     . rcases List.mem_cons.1 b with rfl|b
       . exact Int.le_refl _
       . have:=c.2 x b;omega
   . exact⟨c.1,λx b=>by have:=c.2 x b;omega⟩
abbrev ui:gq:=⟨0,0,0,[],0,0⟩
def Ny(f:Fr)(a b:gq):Prop:=rd f.roads a.place.toNat b.place.toNat+f.dG*bc (bd a.marks) (bd b.marks)<=b.hour-a.hour
structure Seen(f0:Fr)(most:Nat)(C H:List Int)(ks:List Int)(es last:List gq):Prop where
 len:ks.length=es.length
 Me:∀x∈ks,0<=x/\x<most
 uB:∀e∈es,bf f0.roads.length e=0
 bG:∀i,i<es.length->(es.getD i ui).bG=C.getD (ks.getD i 0).toNat 0
 Pt:∀i,i<es.length->H.getD (ks.getD i 0).toNat 0∈bL f0 (es.getD i ui)
 fit:∀i j,i<j->j<es.length->ks.getD i 0=ks.getD j 0->(∀m,i<m->m<j->ks.getD m 0≠ks.getD i 0)->Ny f0 (es.getD i ui) (es.getD j ui)
 Ts:∀i,i<es.length->(∀m,i<m->m<es.length->ks.getD m 0≠ks.getD i 0)->last.getD (ks.getD i 0).toNat ui=es.getD i ui
 F6:∀k,k<most->(last.getD k ui).bG=C.getD k 0
 Pe:last.length=most
theorem lM{α:Type}(l:List α)(x d:α)(i:Nat):(l++[x]).getD i d=if i<l.length then l.getD i d else if i=l.length then x else d:=by
 rw[List.getD_eq_getElem?_getD,List.getD_eq_getElem?_getD];split
 . next h=>rw[List.getElem?_append_left h]
 . next h=>
   split
   . next e=>subst e;simp
   . rw[List.getElem?_eq_none (by simp;omega)];rfl
theorem Seen.push{f0:Fr}{most:Nat}{C H ks:List Int}{es last:List gq}(h:Seen f0 most C H ks es last){k:Nat}{n:gq}(A:k<most)(B:bf f0.roads.length n=0)(y:n.bG=(last.getD k ui).bG)(D:H.getD k 0∈bL f0 n)(E:(k:Int)∈ks->Ny f0 (last.getD k ui) n):
 Seen f0 most C H (ks++[(k:Int)]) (es++[n]) (last.set k n):=by
 have hlen:=h.len;have t:=h.Pe;have f:∀i,i<es.length->(es++[n]).getD i ui=es.getD i ui:=λi a=>by rw[lM,if_pos a]
 have r:(es++[n]).getD es.length ui=n:=by rw[lM,if_neg (by omega),if_pos rfl]
 have c:∀i,i<es.length->(ks++[(k:Int)]).getD i 0=ks.getD i 0:=λi a=>by rw[lM,if_pos (by omega)]
 have p:(ks++[(k:Int)]).getD es.length 0=(k:Int):=by rw[lM,if_neg (by omega),if_pos hlen.symm]
 have u:∀i,i<es.length->0<=ks.getD i 0/\ks.getD i 0<most:=λi a=>by
  have d:i<ks.length:=by omega
  rw[List.getD_eq_getElem?_getD,List.getElem?_eq_getElem d];exact h.Me _ (List.getElem_mem d)
 refine⟨by simp[hlen],λx g=>?_,λe he=>?_,λi a=>?_,λi a=>?_,λi j v s he l=>?_,λi a l=>?_,λj s=>?_,by rw[List.length_set];exact t⟩
 . rcases List.mem_append.1 g with g|g
   . exact h.Me x g
   . simp at g;subst g;omega
 . rcases List.mem_append.1 he with he|he
   . exact h.uB e he
   . simp at he;subst he;exact B
 . rw[List.length_append,List.length_singleton]at a
   by_cases e:i=es.length
   . subst e;rw[r,p,y,Int.toNat_natCast];exact h.F6 k A
   . rw[f i (by omega),c i (by omega)];exact h.bG i (by omega)
 . rw[List.length_append,List.length_singleton]at a
   by_cases e:i=es.length
   . subst e;rw[r,p,Int.toNat_natCast];exact D
   . rw[f i (by omega),c i (by omega)];exact h.Pt i (by omega)
 . rw [List.length_append,List.length_singleton]at s
   have a:i<es.length:=by omega
   by_cases e:j=es.length
   . subst e
     rw[c i a,p]at he
     have z:=h.Ts i a λm q o=>by
      have:=l m q o
      rwa [c m o,c i a]at this
     rw[he,Int.toNat_natCast]at z;rw[f i a,r,<-z];refine E ?_;have d:i<ks.length:=by omega
     rw[<-he,List.getD_eq_getElem?_getD,List.getElem?_eq_getElem d];exact List.getElem_mem d
   . rw[c i a,c j (by omega)]at he
     rw[f i a,f j (by omega)];refine h.fit i j v (by omega) he λm q o=>?_
     have:=l m q o
     rwa [c m (by omega),c i a]at this
 . rw[List.length_append,List.length_singleton]at a l
   by_cases e:i=es.length
   . subst e
     rw[r,p,Int.toNat_natCast,List.getD_eq_getElem?_getD,List.getElem?_set_self (by omega)];rfl
   . have b:i<es.length:=by omega
     have w:=l es.length b (by omega);rw[p,c i b]at w;have F:=u i b;rw[f i b,c i b,List.getD_eq_getElem?_getD,List.getElem?_set_ne (by omega),<-List.getD_eq_getElem?_getD];refine h.Ts i b λm q o=>?_
     have:=l m q (by omega)
     rwa [c m o,c i b]at this
 . by_cases e:j=k
   . subst e
     rw[List.getD_eq_getElem?_getD,List.getElem?_set_self (by omega),Option.getD_some,y];exact h.F6 j s
   . rw[List.getD_eq_getElem?_getD,List.getElem?_set_ne (Ne.symm e),<-List.getD_eq_getElem?_getD]
     exact h.F6 j s
section
variable{f:Fr}{most:Nat}{C H ks:List Int}{last:List gq}
end
end Go.Proofs.YtldmpfccgajobaaGreatDoor
