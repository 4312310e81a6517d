/- Part 34 of the proof. -/
import Derived.Test.YtalogdafegmilaaGreatDoorC33
set_option linter.all false
namespace Go.Proofs.YtalogdafegmilaaGreatDoor
open Go.aN Go.Conc
set_option maxHeartbeats 1000000
set_option maxRecDepth 4000
variable{m:Mo}{σ:aa}{KF:cL->aa->Prop}
structure rE(n:Nat)(lo:Int)(r:List (List Int)):Prop where
 len:r.length=n
 row:∀l∈r,l.length=n
 diag:∀i,i<n->rd r i i=0
 sym:∀i j,i<n->j<n->rd r i j=rd r j i
 off:∀i j,i<n->j<n->i≠j->lo<=rd r i j/\rd r i j<=2*lo
structure pR(cnt:Int)(f:Fr):Prop where
 dR:1<=f.dR/\f.dR<=4
 most:f.most=1\/f.most=2\/f.most=3\/f.most=6
 ew:1<=f.roads.length/\f.roads.length<=3
 Lu:∃lo:Int,(0<=lo/\lo<=4)/\rE f.roads.length lo f.roads
 fr:0<=f.bM/\f.bM<=2
 to:f.bM<=f.jn/\f.jn<=2
 len:(f.az.length:Int)<=cnt
 Bp:∀e∈f.az,vU f.roads.length e
theorem rE.err{n:Nat}{lo:Int}{r:List (List Int)}(h:rE n lo r)(hn:1<=n/\n<=3)(hlo:0<=lo/\lo<=4):i6 r=0:=by
 have hl:=h.len
 have hb:∀i j,i<n->j<n->0<=rd r i j/\rd r i j<=9:=λi j hi hj=>by
  by_cases e:i=j
  . subst e;rw[h.diag i hi];omega
  . have:=h.off i j hi hj e;omega
 have hrow:∀l∈r,kZ n l=0:=λl hm=>by
  have h1:=h.row l hm
  have h2:l.all (dv · 0 9)=true:=by
   rw[List.all_eq_true];intro x hx;obtain⟨i,hi,rfl⟩:=List.mem_iff_getElem.1 hm;obtain⟨j,hj,rfl⟩:=List.mem_iff_getElem.1 hx;have:=hb i j (by omega) (by omega);have e:rd r i j=r[i][j]:=by simp[rd,List.getD_eq_getElem?_getD,hi,hj]
   rw[e]at this;simp[dv,this.1,this.2]
  unfold kZ;rw[if_neg (by simp[h1]),if_pos h2]
 have hrows:∀l:List (List Int),(∀x∈l,x∈r)->gl n l=0:=λl=>by
  induction l with
  |nil=>intro _;rfl
  | cons x l ih=>
    intro hx;unfold gl;rw[if_pos (hrow x (hx x (by simp)))];exact ih λy hy=>hx y (by simp[hy])
 have hno:((List.range n).any λi=>(List.range n).any λj=>dZ r i j)=false:=by
  rw[List.any_eq_false];intro i hi;rw[Bool.not_eq_true,List.any_eq_false];intro j hj;have hi:=List.mem_range.1 hi;have hj:=List.mem_range.1 hj;unfold dZ;rw[h.diag i hi,h.sym i j hi hj,hl]
  have h3:((List.range n).any λk=>decide (rd r j i>rd r i k+rd r k j))=false:=by
   rw[List.any_eq_false];intro k hk;have hk:=List.mem_range.1 hk;have a1:=hb i k hi hk;have a2:=hb k j hk hj;simp only[decide_eq_true_eq,Int.not_lt,gt_iff_lt];by_cases e1:i=j
   . subst e1;rw[h.diag i hi];omega
   . by_cases e2:i=k
     . subst e2;rw[h.diag i hi,h.sym i j hi hj];omega
     . by_cases e3:k=j
       . subst e3;rw[h.diag k hk,h.sym i k hi hk];omega
       . have b1:=h.off j i hj hi (Ne.symm e1)
         have b2:=h.off i k hi hk e2;have b3:=h.off k j hk hj e3;omega
  rw[h3];simp
 unfold i6;rw[hl,if_neg (by omega),if_neg (by omega),hrows r (λ_ h=>h),if_neg (by simp),hno];simp
theorem Jj{M:List (List Int)}{i k:Nat}{n:Int}(hi:i<M.length)(hk:k<(M.getD i []).length)(x y:Nat):rd (M.set i ((M.getD i []).set k n)) x y=if x=i/\y=k then n else rd M x y:=by
 unfold rd;by_cases e:x=i
 . subst e
   have e1:(M.set x ((M.getD x []).set k n)).getD x []=(M.getD x []).set k n:=by simp[List.getD_eq_getElem?_getD,hi]
   rw[e1];by_cases e2:y=k
   . subst e2
     rw[if_pos ⟨rfl,rfl⟩];rw[List.getD_eq_getElem?_getD,List.getElem?_set_self hk];rfl
   . rw[if_neg (λq=>e2 q.2)]
     rw[List.getD_eq_getElem?_getD,List.getElem?_set_ne (Ne.symm e2),<-List.getD_eq_getElem?_getD]
 . rw[if_neg (λq=>e q.1)]
   have e1:(M.set i ((M.getD i []).set k n)).getD x []=M.getD x []:=by rw[List.getD_eq_getElem?_getD,List.getElem?_set_ne (Ne.symm e),<-List.getD_eq_getElem?_getD]
   rw[e1]
def wD(M:List (List Int))(i k:Nat)(n:Int):List (List Int):=(M.set i ((M.getD i []).set k n)).set k ((M.getD k []).set i n)
structure Eg(n:Nat)(lo:Int)(i k:Nat)(M:List (List Int)):Prop where
 len:M.length=n
 row:∀j,j<n->(M.getD j []).length=n
 diag:∀x,x<n->rd M x x=0
 sym:∀x y,x<n->y<n->rd M x y=rd M y x
 off:∀x y,y<x->x<n->(x<i\/(x=i/\y<k))->lo<=rd M x y/\rd M x y<=2*lo
theorem xT{M:List (List Int)}{i k:Nat}{v:Int}(hi:i<M.length)(hk:k<M.length)(hik:k≠i)(j:Nat):(wD M i k v).getD j []=if j=k then(M.getD k []).set i v else if j=i then(M.getD i []).set k v else M.getD j []:=by
 unfold wD;by_cases e1:j=k
 . subst e1
   rw[if_pos rfl,List.getD_eq_getElem?_getD,List.getElem?_set_self (by simpa using hk)];rfl
 . rw[if_neg e1,List.getD_eq_getElem?_getD,List.getElem?_set_ne (Ne.symm e1)]
   by_cases e2:j=i
   . subst e2
     rw[if_pos rfl,List.getElem?_set_self hi];rfl
   . rw[if_neg e2,List.getElem?_set_ne (Ne.symm e2),<-List.getD_eq_getElem?_getD]
theorem KT{n:Nat}{lo:Int}{i k a b:Nat}{M:List (List Int)}{v:Int}(h:Eg n lo a b M)(hi:i<n)(hk:k<n)(hik:k≠i)(x y:Nat):rd (wD M i k v) x y=if(x=i/\y=k)\/(x=k/\y=i)then v else rd M x y:=by
 have hl:=h.len
 have e1:rd (wD M i k v) x y=if x=k/\y=i then v else rd (M.set i ((M.getD i []).set k v)) x y:=by
  have q:M.getD k []=(M.set i ((M.getD i []).set k v)).getD k []:=by rw[List.getD_eq_getElem?_getD,List.getD_eq_getElem?_getD,List.getElem?_set_ne (Ne.symm hik)]
  unfold wD;rw[q];exact Jj (by simp[hl,hk]) (by rw[<-q];rw[h.row k hk];exact hi) x y
 rw[e1,Jj (by omega) (by rw[h.row i hi];exact hk)];by_cases c1:x=k/\y=i
 . rw[if_pos c1,if_pos (.inr c1)]
 . rw[if_neg c1]
   by_cases c2:x=i/\y=k
   . rw[if_pos c2,if_pos (.inl c2)]
   . rw[if_neg c2,if_neg (λq=>q.elim c2 c1)]
theorem Eg.next{n:Nat}{lo:Int}{i k:Nat}{M:List (List Int)}{v:Int}(h:Eg n lo i k M)(hi:i<n)(hk:k<i)(hv:lo<=v/\v<=2*lo):Eg n lo i (k+1) (wD M i k v):=by
 have hl:=h.len;have hrd:=KT (v:=v) h hi (show k<n by omega) (by omega);refine⟨by simp[wD,hl],λj hj=>?_,λx hx=>?_,λx y hx hy=>?_,λx y hxy hx hd=>?_⟩
 . rw[xT (by omega) (by omega) (by omega)]
   split
   . rw[List.length_set];exact h.row k (by omega)
   . split
     . rw[List.length_set];exact h.row i hi
     . exact h.row j hj
 . rw[hrd,if_neg (by omega)];exact h.diag x hx
 . rw[hrd,hrd]
   by_cases c:(x=i/\y=k)\/(x=k/\y=i)
   . rw[if_pos c,if_pos (c.elim (λq=>.inr ⟨q.2,q.1⟩) (λq=>.inl ⟨q.2,q.1⟩))]
   . rw[if_neg c,if_neg (λq=>c (q.elim (λq=>.inr ⟨q.2,q.1⟩) (λq=>.inl ⟨q.2,q.1⟩)))]
     exact h.sym x y hx hy
 . rw [hrd]
   by_cases c:(x=i/\y=k)\/(x=k/\y=i)
   . rw[if_pos c];exact hv
   . rw[if_neg c]
     refine h.off x y hxy hx ?_;rcases hd with hd|⟨h1,h2⟩
     . exact .inl hd
     . refine .inr ⟨h1,?_⟩
       have:y≠k:=λe=>c (.inl ⟨h1,e⟩)
       omega
theorem Eg.line{n:Nat}{lo:Int}{i:Nat}{M:List (List Int)}(h:Eg n lo i i M):Eg n lo (i+1) 0 M:=⟨h.len,h.row,h.diag,h.sym,λx y hxy hx hd=>h.off x y hxy hx (by omega)⟩
theorem Eg.fin{n:Nat}{lo:Int}{M:List (List Int)}(h:Eg n lo n 0 M):rE n lo M:=by
 have hl:=h.len;refine⟨h.len,λl hm=>?_,h.diag,h.sym,λi j hi hj hij=>?_⟩
 . obtain⟨i,hi,rfl⟩:=List.mem_iff_getElem.1 hm
   have:=h.row i (by omega);simpa[List.getD_eq_getElem?_getD,hi]using this
 . rcases Nat.lt_or_ge j i with q|q
   . exact h.off i j q hi (.inl hi)
   . rw[h.sym i j hi hj]
     exact h.off j i (by omega) hj (.inl hj)
theorem Eg.start(n:Nat)(lo:Int):Eg n lo 0 0 (List.replicate n (List.replicate n 0)):=by
 have h0:∀x y,rd (List.replicate n (List.replicate n 0)) x y=0:=λx y=>by
  unfold rd;simp only[List.getD_eq_getElem?_getD,List.getElem?_replicate];by_cases hx:x<n
  . simp only[hx,if_true,Option.getD_some,List.getElem?_replicate]
    split<;>rfl
  . simp[hx]
 refine⟨by simp,λj hj=>by simp[List.getD_eq_getElem?_getD,hj],λx _=>h0 x x,λx y _ _=>by rw[h0,h0],λx y _ _ h=>by omega⟩
theorem nf{g:lP->Int}:∀{l:List lP},(∀e∈l,g e=0)->fE g l=0
 |[],_=>rfl
 | a::l,h=>by
   unfold fE;rw[if_pos (h a (by simp))];exact nf λe he=>h e (by simp[he])
theorem pR.check{most:Int}{f:Fr}(h:pR most f)(h6:most<=6):check f=0:=by
 obtain⟨lo,hlo,hr⟩:=h.Lu;have e1:=hr.err h.ew hlo;have h1:=h.fr;have h2:=h.to;have h3:=h.dR;have h4:=h.most;have h5:=h.len
 have e2:(dv f.bM 0 3 && dv f.jn 0 3)=true:=by simp[dv];omega
 have e3:(dv f.dR 1 6 && dv f.most 1 6)=true:=by simp[dv];omega
 unfold Go.Proofs.YtalogdafegmilaaGreatDoor.check;rw[e1,if_neg (by simp),e2,if_neg (by simp),if_neg (by omega),e3,if_neg (by simp),if_neg (by omega)]
 exact nf λe he=>(h.Bp e he).check
theorem pR.fits{most:Int}{f:Fr}(h:pR most f)(h6:most<=1000):f.Fits:=by
 obtain⟨lo,hlo,hr⟩:=h.Lu;have:=h.len;have hs:=h.ew;refine⟨by omega,by omega,λl hl=>?_,λe he=>?_⟩
 . have:=hr.row l hl;omega
 . have:=(kJ (h.Bp e he).marks).2;omega
end Go.Proofs.YtalogdafegmilaaGreatDoor
namespace Go.Proofs.YtalogdafegmilaaGreatDoor
open Go.aN Go.Conc
set_option maxHeartbeats 2000000
set_option maxRecDepth 4000
variable{m:Mo}{σ:aa}{KF:cL->aa->Prop}
theorem rH{l:List Nat}(h:l.Nodup){i j:Nat}{hi:i<l.length}{hj:j<l.length}(hij:i≠j):l[i]≠l[j]:=by
 rw[List.Nodup,List.pairwise_iff_getElem]at h;rcases Nat.lt_or_ge i j with q|q
 . exact h i j hi hj q
 . exact Ne.symm (h j i hj hi (by omega))
def il(rs:List Nat)(M:List (List Int))(n j:Nat):List AV:=(List.range rs.length).map λl=>if l<j then ints (M.getD l [])else AV.fZ (rs.getD l 0) 0 n n
theorem ni(rs:List Nat)(M:List (List Int))(n j:Nat):(il rs M n j).length=rs.length:=by rw[il,List.length_map,List.length_range]
theorem nj{rs:List Nat}{M:List (List Int)}{n j l:Nat}(hl:l<rs.length):(il rs M n j)[l]?=some (if l<j then ints (M.getD l [])else AV.fZ (rs.getD l 0) 0 n n):=by rw[il,List.getElem?_map,List.getElem?_range hl];rfl
theorem Bx{fid nt:Nat}{ro:Option Nat}{hold:List Entry}{K:aN.Exit->St->Prop}{todo:List Item}{env:Env}{D:List kL}{rc:Rec}{d n at_:Nat}{rs:List Nat}{M:List (List Int)}{cs:List AV}{spr:cM}(σ0:aa)(hnd:rs.Nodup)(hM:∀l,l<rs.length->(M.getD l []).length=n)(hat:at_<cs.length)(hd:d∉rs)
 (hR:∀σ',σ' d=some (.cells (cs.set at_ (.sl 1 (il rs M n rs.length) spr)))->(∀y,y≠d->y∉rs->σ' y=σ0 y)->ab Tryz.prog m fid nt ro hold todo ⟨env,σ',D,rc⟩ K):
 ∀(f j:Nat),j+f=rs.length->∀σ,σ d=some (.cells (cs.set at_ (.sl 1 (il rs M n j) spr)))->(∀(l:Nat) (hl:l<rs.length),j<=l->σ rs[l]=some (.cells ((M.getD l []).map int)))->(∀y,y≠d->y∉rs->σ y=σ0 y)->ab Tryz.prog m fid nt ro hold todo ⟨env,σ,D,rc⟩ K
 | 0,j,hj,σ,h1,_,h3=>by
   have:j=rs.length:=by omega
   subst this;exact hR σ h1 h3
 | f + 1,j,hj,σ,h1,h2,h3=>by
   have hjl:j<rs.length:=by omega
   have hln:=hM j hjl;have hdj:d≠rs[j]:=λe=>hd (e ▸ List.getElem_mem hjl)
   have hcell:∀e∈il rs M n j,e.cells=[e]:=λe he=>by unfold il at he;obtain⟨l,_,rfl⟩:=List.mem_map.1 he;split<;>rfl
   have hlen:(il rs M n j).length=rs.length:=ni _ _ _ _;have hget:∀l,l<rs.length->(il rs M n j)[l]?=some (if l<j then ints (M.getD l [])else AV.fZ (rs.getD l 0) 0 n n):=λl hl=>nj hl
   have hnext:(il rs M n j).set j (.sl 1 ((M.getD j []).map int) .any)=il rs M n (j+1):=by
    apply List.ext_getElem?;intro l
    by_cases hl:l<rs.length
    . have e2:(il rs M n (j+1))[l]?=some (if l<j+1 then ints (M.getD l [])else AV.fZ (rs.getD l 0) 0 n n):=nj hl
      rw[e2]
      by_cases hlj:l=j
      . subst hlj
        rw[List.getElem?_set_self (by omega),if_pos (by omega)]
      . rw[List.getElem?_set_ne (Ne.symm hlj),hget l hl]
        by_cases q:l<j
        . rw[if_pos q,if_pos (by omega)]
        . rw[if_neg q,if_neg (by omega)]
    . rw[List.getElem?_eq_none (by rw[List.length_set,hlen];omega),List.getElem?_eq_none (by rw[ni];omega)]
   refine ab.KA (b:=rs[j]) (d:=d) (i:=j) (l:=(M.getD j []).map int) (at_:=at_) hdj (h2 j hjl (Nat.le_refl _)) (λe he=>by obtain⟨_,_,rfl⟩:=List.mem_map.1 he;rfl) h1 (by rw[List.getElem?_set_self hat]) hcell (by rw[hget j hjl,if_neg (by omega),List.length_map,hln];simp[List.getD_eq_getElem?_getD,hjl]) ?_
   rw[List.set_set,hnext];refine Bx σ0 hnd hM hat hd hR f (j+1) (by omega) _ (aa.ao _ _ _) (λl hl hjl2=>?_) (λy y1 y2=>?_)
   . have n1:rs[l]≠d:=λe=>hd (e ▸ List.getElem_mem hl)
     rw[aa.ai _ _ n1];simp only[aa.del,rH hnd (show l≠j by omega),if_false]
     exact h2 l hl (by omega)
   . rw[aa.ai _ _ y1]
     have:y≠rs[j]:=λe=>y2 (e ▸ List.getElem_mem hjl)
     simp only[aa.del,this,if_false];exact h3 y y1 y2
section
variable{c k:Nat}{nums:List Int}
abbrev fF:List AV:=[.lit (.slice none 0 0),.lit (.slice none 0 0),int 0,int 0,int 0,int 0]
theorem uI{cnt:Int}(hk:k+20+11*cnt.toNat<1000000)(hn:nums.length<1152921504606846976)(hcnt:0<=cnt/\cnt<=1000)(hb:bZ c nums k σ)(h:∀(f:Fr) (a:AV) σ',pR cnt f->pS c nums (k+20+11*cnt.toNat) σ σ'->(f.az=[]->a=.lit (.slice none 0 0))/\(f.az≠[]->a=ru f.az)->KF (.val (.agg [a,rows f.roads,int f.bM,int f.jn,int f.dR,int f.most])) σ'):aA Tryz.prog m 14 [.ref c 0,int cnt] σ KF:=by
 obtain⟨n0,s0,_,hc0⟩:=id hb;refine aA.start lay [] P8 2 Tryz.func14 rfl rfl (by rfl) (by kernel_rfl) ?_
 simp[Tryz.f14];refine cT.intro λc4 h4=>?_
 have n4:c≠c4:=λe=>by subst e;rw[hc0]at h4;cases h4
 have hb1:∀x,bZ c nums k (σ.set c4 x):=λx=>⟨n0,s0,by assumption,by rw[aa.ai _ _ n4];exact hc0⟩
 simp;refine aq Tryz.func17 rfl rfl (jQ (by omega) hn ⟨by omega,by omega⟩ ⟨by omega,by omega⟩ (hb1 _) λdR σ1 hx1 hd1=>?_)
 refine ab.run lay [] ?_;simp;refine aq Tryz.func43 rfl rfl (o6 (l:=[1,2,2,3,3,6]) (by omega) hn ⟨by simp,by simp⟩ hd1.1 λmost σ2 hx2 hd2=>?_)
 refine ab.run lay [] ?_;simp;refine cT.intro λc5 h5=>?_
 have n45:c4≠c:=Ne.symm n4;have hd02:pS c nums (k+2) (σ.set c4 (.cells fF)) σ2:=hd1.trans hd2;have h84:σ2 c4=some (.cells fF):=by rw[hd02.2 c4 n45,aa.ao]
 have n5:c5≠c:=λe=>by subst e;obtain⟨_,_,_,q⟩:=hd2.1;rw[q]at h5;cases h5
 have n54:c5≠c4:=λe=>by subst e;rw[h84]at h5;cases h5
 have h85:σ c5=none:=by rw[hd02.2 c5 n5,aa.ai _ _ n54]at h5;exact h5
 simp[aS]
 have hb3:∀x,bZ c nums (k+2) (σ2.set c5 x):=λx=>by obtain⟨n,z,h1,h2⟩:=hd2.1;exact⟨n,z,by omega,by rw[aa.ai _ _ (Ne.symm n5)];exact h2⟩
 refine aq Tryz.func17 rfl rfl (jQ (by omega) hn ⟨by omega,by omega⟩ ⟨by omega,by omega⟩ (hb3 _) λew σ3 hx3 hd3=>?_)
 refine ab.run lay [] ?_;simp;refine aq Tryz.func16 rfl rfl (ia (by omega) hn ⟨by omega,by omega⟩ hd3.1 λlo σ4 hx4 hd4=>?_)
 refine ab.run lay [] ?_;simp;have hd24:pS c nums (k+4) (σ2.set c5 (.cells [.lit (.slice none 0 0),.lit (.slice none 0 0),int 0,int 0,int dR,int most])) σ4:=hd3.trans hd4;obtain⟨sp,rfl⟩:∃sp:Nat,ew=(sp:Int):=⟨ew.toNat,by omega⟩
 have hsp:1<=sp/\sp<=3:=by omega
 have hlo:0<=lo/\lo<=4:=by omega
 have hdye:1<=dR/\dR<=4:=by omega
 have hmost:most=1\/most=2\/most=3\/most=6:=by simp at hx2;omega
 have h45:σ4 c5=some (.cells [.lit (.slice none 0 0),.lit (.slice none 0 0),int 0,int 0,int dR,int most]):=by rw[hd24.2 c5 n5,aa.ao]
 have h44:σ4 c4=some (.cells fF):=by rw[hd24.2 c4 n45,aa.ai _ _ (Ne.symm n54)];exact h84
 have hle4:(σ.del c).Le σ4:=λy x hy=>by
  have y1:y≠c:=λe=>by subst e;simp[aa.del]at hy
  have y0:σ y=some x:=by simpa[aa.del,y1]using hy
  have y5:y≠c5:=λe=>by subst e;rw[h85]at y0;cases y0
  have y4:y≠c4:=λe=>by subst e;rw[h4]at y0;cases y0
  rw[hd24.2 y y1,aa.ai _ _ y5,hd02.2 y y1,aa.ai _ _ y4];exact y0
 have hbag4:=hd4.1;clear hd1 hd2 hd3 hd4 hd02 hd24 hb1 hb3 h5 h84 hx1 hx2 hx3 hx4
 refine ab.loop sp (λi s=>∃env σ' a rs,s=⟨env,σ',[],.no⟩/\env 0=.ref c 0/\env 1=int cnt/\env 4=.ref c4 0/\env 5=.ref c5 0/\env 6=int sp/\env 7=int lo/\env 8=int i/\bZ c nums (k+4) σ'/\σ' c4=some (.cells fF)/\σ' c5=some (.cells [.lit (.slice none 0 0),a,int 0,int 0,int dR,int most])/\
  Tok (σ.del c) σ' a 1 (rs.map λb:Nat=>AV.fZ b 0 sp sp)/\rs.length=i/\rs.Nodup/\(∀b∈rs,σ b=none/\b≠c/\b≠c4/\b≠c5/\σ' b=some (.cells (List.replicate sp (int 0))))) ⟨_,σ4,.lit (.slice none 0 0),[],rfl,by simp,by simp,by simp,by simp,by simp,by simp,by simp,hbag4,h44,h45,⟨hle4,.inl ⟨rfl,rfl⟩⟩,rfl,List.nodup_nil,by simp⟩ ?_
 rintro c0 i _ hi ⟨env,σ',a,rs,rfl,e0,e1,e4,e5,e6,e7,e8,hbi,q4,q5,htok,hrl,hnd,hrs⟩ ih
 have htc:=htok.cells
 rcases Nat.lt_or_ge i sp with g1|g1
 . have g1':(i:Int)<sp:=by omega
   have f1:-9223372036854775808<=(i:Int)+1/\(i:Int)+1<=9223372036854775807:=by omega
   have nta:∀σx:aa,Tok (σ.del c) σx a 1 (rs.map λb:Nat=>AV.fZ b 0 sp sp)->∀y l,σx y=some (.cells l)->bJ a≠some y:=λσx hx y l hy e=>by obtain⟨_,_,q⟩:=hx.aW e;rw[hy]at q;cases q
   have fresh:∀b,σ' b=none->σ b=none/\b≠c/\b≠c4/\b≠c5/\c5≠b/\b∉rs:=λb hbn=>by
    have n1:b≠c:=λe=>by subst e;obtain⟨_,_,_,q⟩:=hbi;rw[q]at hbn;cases hbn
    refine⟨?_,n1,λe=>(by subst e;rw[q4]at hbn;cases hbn),λe=>(by subst e;rw[q5]at hbn;cases hbn),λe=>(by subst e;rw[q5]at hbn;cases hbn),λe=>(by rw[(hrs b e).2.2.2.2]at hbn;cases hbn)⟩
    cases e:σ b with
    |none=>rfl
    |some x=>have:=htok.1 b x (by simp[aa.del,n1,e]);rw[hbn]at this;cases this
   refine ab.run lay [] ?_;simp[e0,e1,e4,e5,e6,e7,e8,q5,htc.1,htc.2,g1'];refine⟨?_,?_⟩
   . ((
       refine rt lay rfl cA rfl pQ rfl (by decide) rfl rfl (n:=sp) (by simp[e6]) (by simp[e6]) ⟨by omega,by omega⟩ λb hbn=>?_
       obtain⟨fb0,fbc,fb4,fb5,fb5',fbr⟩:=fresh b hbn;have up:=htok.up (aa.iU (x:=.cells (List.replicate sp (int 0))) (aa.le_refl _) hbn);have q5b:(σ'.set b (.cells (List.replicate sp (int 0)))) c5=some (.cells [.lit (.slice none 0 0),a,int 0,int 0,int dR,int most]):=(aa.ai _ _ fb5').trans q5;refine bm.go lay [] ?_;simp[e5,e6,q5b,htc.1,htc.2]))
     ((
       refine aM lay rfl rfl rfl jC rfl jC rfl cA (by decide) (by simp;omega) (σ0:=(σ'.set b (.cells (List.replicate sp (int 0)))).off a) (es:=rs.map λb:Nat=>AV.fZ b 0 sp sp) (xs:=[AV.fZ b 0 sp sp]) (by simpa using up.here.1) (.inr ⟨_,by simp;rfl⟩) λa' σ3 ht'=>?_
       have hta:=ht'.cells;have k3:∀y l,(σ'.set b (.cells (List.replicate sp (int 0)))) y=some (.cells l)->σ3 y=some (.cells l):=λy l hy=>ht'.1 _ _ (by rw[aa.fU (nta _ up y l hy)];exact hy)
       have t5:=k3 _ _ q5b;refine bm.go lay [] ?_;simp[e5,t5,hta.1,hta.2,aS];refine ab.run lay [] ?_;simp[e8,f1.1,f1.2];obtain⟨nb,zb,hb1,hb2⟩:=hbi
       have htb:Tok (σ.del c) σ3 a' 1 ((rs++[b]).map λb:Nat=>AV.fZ b 0 sp sp):=by have:=ht'.base up.here.2;simpa using this
       refine ih _ g1 ⟨_,_,a',rs++[b],rfl,by simp[e0],by simp[e1],by simp[e4],by simp[e5],by simp[e6],by simp[e7],by simp,⟨nb,zb,hb1,?_⟩,?_,aa.ao _ _ _,htb.beside (by simp[aa.del,n5,h85]) (λe=>by obtain⟨_,_,q⟩:=htb.aW e;rw[t5]at q;cases q),by simp[hrl],?_,?_⟩
       . rw[aa.ai _ _ (Ne.symm n5)];exact k3 _ _ ((aa.ai _ _ (Ne.symm fbc)).trans hb2)
       . rw[aa.ai _ _ (Ne.symm n54)];exact k3 _ _ ((aa.ai _ _ (Ne.symm fb4)).trans q4)
       . rw[List.nodup_append]
         exact⟨hnd,by simp,λx hx y hy=>by simp at hy;subst hy;exact λe=>fbr (e ▸ hx)⟩
       . intro d hd
         rcases List.mem_append.1 hd with hd|hd
         . obtain⟨p1,p2,p3,p4,p5⟩:=hrs d hd
           have hdb:d≠b:=λe=>fbr (e ▸ hd)
           exact⟨p1,p2,p3,p4,by rw[aa.ai _ _ p4];exact k3 _ _ ((aa.ai _ _ hdb).trans p5)⟩
         . simp at hd
           subst hd;exact⟨fb0,fbc,fb4,fb5,by rw[aa.ai _ _ fb5];exact k3 _ _ (aa.ao _ _ _)⟩))
   . ((
       refine rt lay rfl cA rfl pQ rfl (by decide) rfl rfl (n:=sp) (by simp[e6]) (by simp[e6]) ⟨by omega,by omega⟩ λb hbn=>?_
       obtain⟨fb0,fbc,fb4,fb5,fb5',fbr⟩:=fresh b hbn;have up:=htok.up (aa.iU (x:=.cells (List.replicate sp (int 0))) (aa.le_refl _) hbn);have q5b:(σ'.set b (.cells (List.replicate sp (int 0)))) c5=some (.cells [.lit (.slice none 0 0),a,int 0,int 0,int dR,int most]):=(aa.ai _ _ fb5').trans q5;refine bm.go lay [] ?_;simp[e5,e6,q5b,htc.1,htc.2]))
     refine⟨?_,?_⟩
     . ((
         refine aM lay rfl rfl rfl jC rfl jC rfl cA (by decide) (by simp;omega) (σ0:=(σ'.set b (.cells (List.replicate sp (int 0)))).off a) (es:=rs.map λb:Nat=>AV.fZ b 0 sp sp) (xs:=[AV.fZ b 0 sp sp]) (by simpa using up.here.1) (.inr ⟨_,by simp;rfl⟩) λa' σ3 ht'=>?_
         have hta:=ht'.cells;have k3:∀y l,(σ'.set b (.cells (List.replicate sp (int 0)))) y=some (.cells l)->σ3 y=some (.cells l):=λy l hy=>ht'.1 _ _ (by rw[aa.fU (nta _ up y l hy)];exact hy)
         have t5:=k3 _ _ q5b;refine bm.go lay [] ?_;simp[e5,t5,hta.1,hta.2,aS];refine ab.run lay [] ?_;simp[e8,f1.1,f1.2];obtain⟨nb,zb,hb1,hb2⟩:=hbi
         have htb:Tok (σ.del c) σ3 a' 1 ((rs++[b]).map λb:Nat=>AV.fZ b 0 sp sp):=by have:=ht'.base up.here.2;simpa using this
         refine ih _ g1 ⟨_,_,a',rs++[b],rfl,by simp[e0],by simp[e1],by simp[e4],by simp[e5],by simp[e6],by simp[e7],by simp,⟨nb,zb,hb1,?_⟩,?_,aa.ao _ _ _,htb.beside (by simp[aa.del,n5,h85]) (λe=>by obtain⟨_,_,q⟩:=htb.aW e;rw[t5]at q;cases q),by simp[hrl],?_,?_⟩
         . rw[aa.ai _ _ (Ne.symm n5)];exact k3 _ _ ((aa.ai _ _ (Ne.symm fbc)).trans hb2)
         . rw[aa.ai _ _ (Ne.symm n54)];exact k3 _ _ ((aa.ai _ _ (Ne.symm fb4)).trans q4)
         . rw[List.nodup_append]
           exact⟨hnd,by simp,λx hx y hy=>by simp at hy;subst hy;exact λe=>fbr (e ▸ hx)⟩
         . intro d hd
           rcases List.mem_append.1 hd with hd|hd
           . obtain⟨p1,p2,p3,p4,p5⟩:=hrs d hd
             have hdb:d≠b:=λe=>fbr (e ▸ hd)
             exact⟨p1,p2,p3,p4,by rw[aa.ai _ _ p4];exact k3 _ _ ((aa.ai _ _ hdb).trans p5)⟩
           . simp at hd
             subst hd;exact⟨fb0,fbc,fb4,fb5,by rw[aa.ai _ _ fb5];exact k3 _ _ (aa.ao _ _ _)⟩))
     . ((
         refine aM lay rfl rfl rfl jC rfl jC rfl cA (by decide) (by simp;omega) (σ0:=(σ'.set b (.cells (List.replicate sp (int 0)))).off a) (es:=rs.map λb:Nat=>AV.fZ b 0 sp sp) (xs:=[AV.fZ b 0 sp sp]) (by simpa using up.here.1) (.inr ⟨_,by simp;rfl⟩) λa' σ3 ht'=>?_
         have hta:=ht'.cells;have k3:∀y l,(σ'.set b (.cells (List.replicate sp (int 0)))) y=some (.cells l)->σ3 y=some (.cells l):=λy l hy=>ht'.1 _ _ (by rw[aa.fU (nta _ up y l hy)];exact hy)
         have t5:=k3 _ _ q5b;refine bm.go lay [] ?_;simp[e5,t5,hta.1,hta.2,aS];refine ab.run lay [] ?_;simp[e8,f1.1,f1.2];obtain⟨nb,zb,hb1,hb2⟩:=hbi
         have htb:Tok (σ.del c) σ3 a' 1 ((rs++[b]).map λb:Nat=>AV.fZ b 0 sp sp):=by have:=ht'.base up.here.2;simpa using this
         refine ih _ g1 ⟨_,_,a',rs++[b],rfl,by simp[e0],by simp[e1],by simp[e4],by simp[e5],by simp[e6],by simp[e7],by simp,⟨nb,zb,hb1,?_⟩,?_,aa.ao _ _ _,htb.beside (by simp[aa.del,n5,h85]) (λe=>by obtain⟨_,_,q⟩:=htb.aW e;rw[t5]at q;cases q),by simp[hrl],?_,?_⟩
         . rw[aa.ai _ _ (Ne.symm n5)];exact k3 _ _ ((aa.ai _ _ (Ne.symm fbc)).trans hb2)
         . rw[aa.ai _ _ (Ne.symm n54)];exact k3 _ _ ((aa.ai _ _ (Ne.symm fb4)).trans q4)
         . rw[List.nodup_append]
           exact⟨hnd,by simp,λx hx y hy=>by simp at hy;subst hy;exact λe=>fbr (e ▸ hx)⟩
         . intro d hd
           rcases List.mem_append.1 hd with hd|hd
           . obtain⟨p1,p2,p3,p4,p5⟩:=hrs d hd
             have hdb:d≠b:=λe=>fbr (e ▸ hd)
             exact⟨p1,p2,p3,p4,by rw[aa.ai _ _ p4];exact k3 _ _ ((aa.ai _ _ hdb).trans p5)⟩
           . simp at hd
             subst hd;exact⟨fb0,fbc,fb4,fb5,by rw[aa.ai _ _ fb5];exact k3 _ _ (aa.ao _ _ _)⟩))
 . have hi':sp=i:=by omega
   subst hi';clear ih hbag4 h45 h44 hle4
   obtain⟨spr,rfl⟩:∃spr,a=.sl 1 (rs.map λb:Nat=>AV.fZ b 0 sp sp) spr:=by
    rcases htok.2 with⟨_,e⟩|e|⟨_,_,_,e,_⟩
    . have:=congrArg List.length e
      rw[List.length_map]at this;simp only[List.length_nil]at this;omega
    . exact⟨_,e⟩
    . exact⟨_,e⟩
   have hle:=htok.1;clear htok
   have hrb:∀(j:Nat) (hj:j<rs.length),σ rs[j]=none/\rs[j]≠c/\rs[j]≠c4/\rs[j]≠c5:=λj hj=>by obtain⟨p1,p2,p3,p4,_⟩:=hrs _ (List.getElem_mem hj);exact⟨p1,p2,p3,p4⟩
   refine ab.run lay [] ?_;simp[e0,e1,e4,e5,e6,e7,e8]
   have hcells:∀(j:Nat) (hj:j<rs.length),σ' rs[j]=some (.cells (((List.replicate sp (List.replicate sp (0:Int))).getD j []).map int)):=λj hj=>by rw[(hrs _ (List.getElem_mem hj)).2.2.2.2];simp[List.getD_eq_getElem?_getD,show j<sp by omega]
   clear hrs
   refine ab.loop sp (λi s=>∃env σ' M,s=⟨env,σ',[],.no⟩/\env 0=.ref c 0/\env 1=int cnt/\env 4=.ref c4 0/\env 5=.ref c5 0/\env 6=int sp/\env 7=int lo/\env 9=int i/\bZ c nums (k+4+3*i) σ'/\σ' c4=some (.cells fF)/\σ' c5=some (.cells [.lit (.slice none 0 0),.sl 1 (rs.map λb:Nat=>AV.fZ b 0 sp sp) spr,int 0,int 0,int dR,int most])/\
    (σ.del c).Le σ'/\Eg sp lo i 0 M/\∀(j:Nat) (hj:j<rs.length),σ' rs[j]=some (.cells ((M.getD j []).map int))) ⟨_,σ',_,rfl,by simp[e0],by simp[e1],by simp[e4],by simp[e5],by simp[e6],by simp[e7],by simp,hbi,q4,q5,hle,Eg.start sp lo,hcells⟩ ?_
   clear e0 e1 e4 e5 e6 e7 e8 hbi q4 q5 hle hcells
   rintro c1 i _ hi2 ⟨env,σ',M,rfl,e0,e1,e4,e5,e6,e7,e9,hbi,q4,q5,hle,hM,hcells⟩ ih
   rcases Nat.lt_or_ge i sp with g2|g2
   . have ns:(i:Int)<sp:=by omega
     refine ab.run lay [] ?_;simp[e0,e1,e4,e5,e6,e7,e9,ns]
     refine ab.loop i (λj s=>∃env σ' M,s=⟨env,σ',[],.no⟩/\env 0=.ref c 0/\env 1=int cnt/\env 4=.ref c4 0/\env 5=.ref c5 0/\env 6=int sp/\env 7=int lo/\env 9=int i/\env 10=int j/\bZ c nums (k+4+3*i+j) σ'/\σ' c4=some (.cells fF)/\σ' c5=some (.cells [.lit (.slice none 0 0),.sl 1 (rs.map λb:Nat=>AV.fZ b 0 sp sp) spr,int 0,int 0,int dR,int most])/\
      (σ.del c).Le σ'/\Eg sp lo i j M/\∀(j:Nat) (hj:j<rs.length),σ' rs[j]=some (.cells ((M.getD j []).map int))) ⟨_,σ',M,rfl,by simp[e0],by simp[e1],by simp[e4],by simp[e5],by simp[e6],by simp[e7],by simp[e9],by simp,hbi,q4,q5,hle,hM,hcells⟩ ?_
     clear e0 e1 e4 e5 e6 e7 e9 hbi q4 q5 hle hM hcells
     rintro c2 j _ hj ⟨env,σ',M,rfl,e0,e1,e4,e5,e6,e7,e9,aJ,hbi,q4,q5,hle,hM,hcells⟩ ih2
     rcases Nat.lt_or_ge j i with g3|g3
     . have tE:(j:Int)<i:=by omega
       have f1:-9223372036854775808<=(j:Int)+1/\(j:Int)+1<=9223372036854775807:=by omega
       have f2:-9223372036854775808<=2*lo/\2*lo<=9223372036854775807:=by omega
       refine ab.run lay [] ?_;simp[e0,e1,e4,e5,e6,e7,e9,aJ,tE,f2.1,f2.2];refine aq Tryz.func17 rfl rfl (jQ (by omega) hn ⟨by omega,by omega⟩ ⟨by omega,by omega⟩ hbi λv σ2 hv hd=>?_)
       have s5:σ2 c5=some (.cells [.lit (.slice none 0 0),.sl 1 (rs.map λb:Nat=>AV.fZ b 0 sp sp) spr,int 0,int 0,int dR,int most]):=by rw[hd.2 c5 n5];exact q5
       have s4:σ2 c4=some (.cells fF):=by rw[hd.2 c4 n45];exact q4
       have hrl':i<rs.length:=by omega
       have hrl2:j<rs.length:=by omega
       obtain⟨z1,z2,z3,z4⟩:=hrb i hrl';obtain⟨y1,y2,y3,y4⟩:=hrb j hrl2;have si:σ2 rs[i]=some (.cells ((M.getD i []).map int)):=by rw[hd.2 _ z2];exact hcells i hrl'
       have sj:σ2 rs[j]=some (.cells ((M.getD j []).map int)):=by rw[hd.2 _ y2];exact hcells j hrl2
       have hij:rs[i]≠rs[j]:=rH hnd (by omega)
       have hij':=Ne.symm hij;obtain⟨Ri,hRi⟩:∃R,R=M.getD i []:=⟨_,rfl⟩;obtain⟨Rj,hRj⟩:∃R,R=M.getD j []:=⟨_,rfl⟩;have li:=hM.row i (by omega)
       have lj:=hM.row j (by omega)
       rw[<-hRi]at si li;rw[<-hRj]at sj lj;have hli:j+1<=sp:=by omega
       have hlj:i+1<=sp:=by omega
       have g4:j<sp:=by omega
       have g4':(j:Int)<sp:=by omega
       have g2'':(i:Int)<sp:=by omega
       have hF:∀σ3,σ3=(σ2.set rs[i] (.cells ((Ri.map int).set j (int v)))).set rs[j] (.cells ((Rj.map int).set i (int v)))->bZ c nums (k+4+3*i+(j+1)) σ3/\σ3 c4=some (.cells fF)/\σ3 c5=some (.cells [.lit (.slice none 0 0),.sl 1 (rs.map λb:Nat=>AV.fZ b 0 sp sp) spr,int 0,int 0,int dR,int most])/\(σ.del c).Le σ3/\∀(l:Nat) (hl:l<rs.length),σ3 rs[l]=some (.cells (((wD M i j v).getD l []).map int)):=λσ3 e3=>by
        subst e3;refine⟨?_,?_,?_,λy x hy=>?_,λl hl=>?_⟩
        . obtain⟨nb,zb,hb1,hb2⟩:=hd.1
          exact⟨nb,zb,by omega,by rw[aa.ai _ _ (Ne.symm y2),aa.ai _ _ (Ne.symm z2)];exact hb2⟩
        . rw[aa.ai _ _ (Ne.symm y3),aa.ai _ _ (Ne.symm z3)];exact s4
        . rw[aa.ai _ _ (Ne.symm y4),aa.ai _ _ (Ne.symm z4)];exact s5
        . have w1:y≠c:=λe=>by subst e;simp[aa.del]at hy
          have w0:σ y=some x:=by simpa[aa.del,w1]using hy
          have w2:y≠rs[i]:=λe=>by rw[e,z1]at w0;cases w0
          have w3:y≠rs[j]:=λe=>by rw[e,y1]at w0;cases w0
          rw[aa.ai _ _ w3,aa.ai _ _ w2,hd.2 y w1];exact hle y x hy
        . rw [xT (by rw[hM.len];omega) (by rw[hM.len];omega) (by omega),<-hRi,<-hRj]
          by_cases q1:l=j
          . subst q1
            rw[if_pos rfl,aa.ao,List.map_set]
          . rw[if_neg q1,aa.ai _ _ (rH hnd q1)]
            by_cases q2:l=i
            . subst q2
              rw[if_pos rfl,aa.ao,List.map_set]
            . rw[if_neg q2,aa.ai _ _ (rH hnd q2),hd.2 _ (hrb l hl).2.1]
              exact hcells l hl
       have hF':=hF _ rfl;clear hF;refine ab.run lay [] ?_;simp[e0,e1,e4,e5,e6,e7,e9,aJ,s5,hrl,g2,g4,g4',g2'',hli,hlj,li,lj,si,sj,aa.ai,hij,hij'];refine⟨?_,?_⟩
       . refine ab.run lay [] ?_
         simp[e0,e1,e4,e5,e6,e7,e9,aJ,f1.1,f1.2];exact ih2 _ g3 ⟨_,_,wD M i j v,rfl,by simp[e0,e1,e4,e5,e6,e7,e9,aJ],by simp[e0,e1,e4,e5,e6,e7,e9,aJ],by simp[e0,e1,e4,e5,e6,e7,e9,aJ],by simp[e0,e1,e4,e5,e6,e7,e9,aJ],by simp[e0,e1,e4,e5,e6,e7,e9,aJ],by simp[e0,e1,e4,e5,e6,e7,e9,aJ],by simp[e0,e1,e4,e5,e6,e7,e9,aJ],by simp[e0,e1,e4,e5,e6,e7,e9,aJ],hF'.1,hF'.2.1,hF'.2.2.1,hF'.2.2.2.1,hM.next (by omega) g3 ⟨hv.1,by omega⟩,hF'.2.2.2.2⟩
       . refine ab.run lay [] ?_
         simp[e0,e1,e4,e5,e6,e7,e9,aJ,f1.1,f1.2];exact ih2 _ g3 ⟨_,_,wD M i j v,rfl,by simp[e0,e1,e4,e5,e6,e7,e9,aJ],by simp[e0,e1,e4,e5,e6,e7,e9,aJ],by simp[e0,e1,e4,e5,e6,e7,e9,aJ],by simp[e0,e1,e4,e5,e6,e7,e9,aJ],by simp[e0,e1,e4,e5,e6,e7,e9,aJ],by simp[e0,e1,e4,e5,e6,e7,e9,aJ],by simp[e0,e1,e4,e5,e6,e7,e9,aJ],by simp[e0,e1,e4,e5,e6,e7,e9,aJ],hF'.1,hF'.2.1,hF'.2.2.1,hF'.2.2.2.1,hM.next (by omega) g3 ⟨hv.1,by omega⟩,hF'.2.2.2.2⟩
     . have hji:i=j:=by omega
       subst hji;have f1:-9223372036854775808<=(i:Int)+1/\(i:Int)+1<=9223372036854775807:=by omega
       refine ab.run lay [] ?_;simp[e0,e1,e4,e5,e6,e7,e9,aJ,f1.1,f1.2];exact ih _ g2 ⟨_,_,M,rfl,by simp[e0,e1,e4,e5,e6,e7,e9,aJ],by simp[e0,e1,e4,e5,e6,e7,e9,aJ],by simp[e0,e1,e4,e5,e6,e7,e9,aJ],by simp[e0,e1,e4,e5,e6,e7,e9,aJ],by simp[e0,e1,e4,e5,e6,e7,e9,aJ],by simp[e0,e1,e4,e5,e6,e7,e9,aJ],by simp[e0,e1,e4,e5,e6,e7,e9,aJ],hbi.mono (by omega),q4,q5,hle,hM.line,hcells⟩
   . have hi3:sp=i:=by omega
     subst hi3;clear ih;have hMl:∀l,l<rs.length->(M.getD l []).length=sp:=λl hl=>hM.row l (by omega)
     have hc5:c5∉rs:=λe=>by obtain⟨l,hl,e'⟩:=List.mem_iff_getElem.1 e;exact(hrb l hl).2.2.2 e'
     have hrows0:rs.map (λb:Nat=>AV.fZ b 0 sp sp)=il rs M sp 0:=by
      apply List.ext_getElem?;intro l
      by_cases hl:l<rs.length
      . rw[nj hl,if_neg (by omega),List.getElem?_map,List.getElem?_eq_getElem hl]
        simp[List.getD_eq_getElem?_getD,hl]
      . rw[List.getElem?_eq_none (by rw[List.length_map];omega),List.getElem?_eq_none (by rw[ni];omega)]
     have hrows1:il rs M sp rs.length=M.map ints:=by
      have hML:=hM.len;apply List.ext_getElem?;intro l
      by_cases hl:l<rs.length
      . have hlM:l<M.length:=by omega
        rw[nj hl,if_pos hl,List.getElem?_map,List.getElem?_eq_getElem hlM];simp[List.getD_eq_getElem?_getD,hlM]
      . rw[List.getElem?_eq_none (by rw[ni];omega),List.getElem?_eq_none (by rw[List.length_map];omega)]
     rw[hrows0]at q5;refine Bx (d:=c5) (n:=sp) (at_:=1) (rs:=rs) (M:=M) (cs:=[.lit (.slice none 0 0),.bL,int 0,int 0,int dR,int most]) (spr:=spr) σ' hnd hMl (by simp) hc5 (λσ3 h31 h32=>?_) rs.length 0 (by omega) σ' (by simpa using q5) (λl hl _=>hcells l hl) (λ_ _ _=>rfl)
     rw[hrows1]at h31;have hRok:=hM.fin;have hML:=hM.len
     have k3:∀(j:Nat),j≠c5->(∀(l:Nat) (hl:l<rs.length),rs[l]≠j)->σ3 j=σ' j:=λj h1 h2=>h32 j h1 λe=>by obtain⟨l,hl,e'⟩:=List.mem_iff_getElem.1 e;exact h2 l hl e'
     have s3c:bZ c nums (k+4+3*sp) σ3:=by obtain⟨nb,zb,hb1,hb2⟩:=hbi;exact⟨nb,zb,hb1,by rw[k3 c (Ne.symm n5) (λl hl=>(hrb l hl).2.1)];exact hb2⟩
     have s34:σ3 c4=some (.cells fF):=by rw[k3 c4 (Ne.symm n54) (λl hl=>(hrb l hl).2.2.1)];exact q4
     have s35:σ3 c5=some (.cells [.lit (.slice none 0 0),.sl 1 (M.map ints) spr,int 0,int 0,int dR,int most]):=by simpa using h31
     have hle3:(σ.del c).Le σ3:=λy x hy=>by
      have w1:y≠c:=λe=>by subst e;simp[aa.del]at hy
      have w0:σ y=some x:=by simpa[aa.del,w1]using hy
      rw[k3 y (λe=>by subst e;rw[h85]at w0;cases w0) (λl hl e=>by subst e;rw[(hrb l hl).1]at w0;cases w0)]
      exact hle y x hy
     clear h31 h32 hcells hrows0 hrows1 hbi q4 q5 hle hM hMl hc5 k3 hrb hnd hrl;refine ab.run lay [] ?_;simp[e0,e1,e4,e5,e6,e7,e9];refine aq Tryz.func16 rfl rfl (ia (by omega) hn ⟨by omega,by omega⟩ s3c λfr σ4 hx5 hd5=>?_)
     refine ab.run lay [] ?_;simp[e0,e1,e4,e5,e6,e7,e9];refine aq Tryz.func17 rfl rfl (jQ (by omega) hn ⟨by omega,by omega⟩ ⟨by omega,by omega⟩ hd5.1 λto σ5 hx6 hd6=>?_)
     have t5:σ5 c5=some (.cells [.lit (.slice none 0 0),.sl 1 (M.map ints) spr,int 0,int 0,int dR,int most]):=by rw[hd6.2 c5 n5,hd5.2 c5 n5];exact s35
     refine ab.run lay [] ?_;simp[e0,e1,e4,e5,e6,e7,e9,t5,aS];have t4:σ5 c4=some (.cells fF):=by rw[hd6.2 c4 n45,hd5.2 c4 n45];exact s34
     have hle5:(σ.del c).Le σ5:=λy x hy=>by
      have w1:y≠c:=λe=>by subst e;simp[aa.del]at hy
      rw[hd6.2 y w1,hd5.2 y w1];exact hle3 y x hy
     have hb6:∀x,bZ c nums (k+6+3*sp) (σ5.set c5 x):=λx=>by obtain⟨n,z,h1,h2⟩:=hd6.1;exact⟨n,z,by omega,by rw[aa.ai _ _ (Ne.symm n5)];exact h2⟩
     refine aq Tryz.func16 rfl rfl (ia (by omega) hn ⟨by omega,by omega⟩ (hb6 _) λq σ6 hx7 hd7=>?_)
     refine ab.run lay [] ?_;simp[e0,e1,e4,e5,e6,e7,e9];have u5:σ6 c5=some (.cells [.lit (.slice none 0 0),.sl 1 (M.map ints) spr,int fr,int to,int dR,int most]):=by rw[hd7.2 c5 n5,aa.ao]
     have u4:σ6 c4=some (.cells fF):=by rw[hd7.2 c4 n45,aa.ai _ _ (Ne.symm n54)];exact t4
     have hle6:(σ.del c).Le σ6:=λy x hy=>by
      have w1:y≠c:=λe=>by subst e;simp[aa.del]at hy
      have w0:σ y=some x:=by simpa[aa.del,w1]using hy
      rw[hd7.2 y w1,aa.ai _ _ (λe=>by subst e;rw[h85]at w0;cases w0)];exact hle5 y x hy
     obtain⟨qn,rfl⟩:∃qn:Nat,q=(qn:Int):=⟨q.toNat,by omega⟩
     have hqn:(qn:Int)<=cnt:=by omega
     have hbj0:=hd7.1;clear hd5 hd6 hd7 hb6 s3c s34 s35 hle3 hle5 t5 t4
     refine ab.loop qn (λi s=>∃env σ' a es,s=⟨env,σ',[],.no⟩/\env 0=.ref c 0/\env 4=.ref c4 0/\env 5=.ref c5 0/\env 6=int sp/\env 13=int ((qn:Int)-i)/\bZ c nums (k+7+3*sp+11*i) σ'/\σ' c4=some (.cells fF)/\σ' c5=some (.cells [a,.sl 1 (M.map ints) spr,int fr,int to,int dR,int most])/\
      Tok (σ.del c) σ' a 6 (es.map dt)/\es.length=i/\(∀e∈es,vU sp e)/\(es=[]->a=.lit (.slice none 0 0))) ⟨_,σ6,.lit (.slice none 0 0),[],rfl,by simp[e0],by simp[e4],by simp[e5],by simp[e6],by simp,hbj0.mono (by omega),u4,u5,⟨hle6,.inl ⟨rfl,rfl⟩⟩,rfl,by simp,λ_=>rfl⟩ ?_
     clear e0 e1 e4 e5 e6 e7 e9 hbj0 u4 u5 hle6
     rintro c3 i _ hi4 ⟨env,σ',a,es,rfl,e0,e4,e5,e6,e13,hbj,q4,q5,htok,hel,hes,hnil⟩ ih
     have htc:=htok.cells;have nta2:∀σx:aa,Tok (σ.del c) σx a 6 (es.map dt)->∀y l,σx y=some (.cells l)->bJ a≠some y:=λσx hx y l hy e=>by obtain⟨_,_,q⟩:=hx.aW e;rw[hy]at q;cases q
     have hbc:∃l,σ' c=some (.cells l):=by obtain⟨_,_,_,q⟩:=hbj;exact⟨_,q⟩
     rcases Nat.lt_or_ge i qn with g1|g1
     . have f1 : -9223372036854775808<=(qn:Int)-i-1/\(qn:Int)-i-1<=9223372036854775807:=by omega
       refine ab.run lay [] ?_;simp[e0,e4,e5,e6,e13,q5,htc.1,htc.2,g1];refine⟨?_,?_⟩
       . ((
           refine aq Tryz.func38 rfl rfl (nc (by omega) hn ⟨by omega,by omega⟩ hbj λe σ2 he hd=>?_)
           have s5:σ2 c5=some (.cells [a,.sl 1 (M.map ints) spr,int fr,int to,int dR,int most]):=by rw[hd.2 c5 n5];exact q5
           have s4:σ2 c4=some (.cells fF):=by rw[hd.2 c4 n45];exact q4
           have htk:Tok (σ.del c) σ2 a 6 (es.map dt):=rD htok (by simp[aa.del]) hbc hd.2
           refine bm.go lay [] ?_;simp[e5,s5,htc.1,htc.2]))
         ((
           refine aM lay rfl rfl rfl sB rfl sB rfl CR (by decide) (by simp;omega) (σ0:=σ2.off a) (es:=es.map dt) (xs:=[dt e]) (by simpa using htk.here.1) (.inr ⟨_,by simp;rfl⟩) λa' σ3 ht'=>?_
           have hta:=ht'.cells;have k3:∀y l,σ2 y=some (.cells l)->σ3 y=some (.cells l):=λy l hy=>ht'.1 _ _ (by rw[aa.fU (nta2 _ htk y l hy)];exact hy)
           have t5:=k3 _ _ s5;have t4:=k3 _ _ s4;refine bm.go lay [] ?_;simp[e5,t5,hta.1,hta.2,aS];refine ab.run lay [] ?_;simp[e13,f1.1,f1.2];obtain⟨nb,zb,hb1,hb2⟩:=hd.1
           have htb:Tok (σ.del c) σ3 a' 6 ((es++[e]).map dt):=by have:=ht'.base htk.here.2;simpa using this
           refine ih _ g1 ⟨_,_,a',es++[e],rfl,by simp[e0],by simp[e4],by simp[e5],by simp[e6],by simp;omega,⟨nb,zb,by omega,?_⟩,?_,aa.ao _ _ _,htb.beside (by simp[aa.del,n5,h85]) (λe=>by obtain⟨_,_,q⟩:=htb.aW e;rw[t5]at q;cases q),by simp[hel],?_,λe=>by simp at e⟩
           . rw[aa.ai _ _ (Ne.symm n5)];exact k3 _ _ hb2
           . rw[aa.ai _ _ (Ne.symm n54)];exact t4
           . intro x hx
             rcases List.mem_append.1 hx with hx|hx
             . exact hes x hx
             . simp at hx;subst hx;exact he))
       . ((
           refine aq Tryz.func38 rfl rfl (nc (by omega) hn ⟨by omega,by omega⟩ hbj λe σ2 he hd=>?_)
           have s5:σ2 c5=some (.cells [a,.sl 1 (M.map ints) spr,int fr,int to,int dR,int most]):=by rw[hd.2 c5 n5];exact q5
           have s4:σ2 c4=some (.cells fF):=by rw[hd.2 c4 n45];exact q4
           have htk:Tok (σ.del c) σ2 a 6 (es.map dt):=rD htok (by simp[aa.del]) hbc hd.2
           refine bm.go lay [] ?_;simp[e5,s5,htc.1,htc.2]))
         refine⟨?_,?_⟩
         . ((
             refine aM lay rfl rfl rfl sB rfl sB rfl CR (by decide) (by simp;omega) (σ0:=σ2.off a) (es:=es.map dt) (xs:=[dt e]) (by simpa using htk.here.1) (.inr ⟨_,by simp;rfl⟩) λa' σ3 ht'=>?_
             have hta:=ht'.cells;have k3:∀y l,σ2 y=some (.cells l)->σ3 y=some (.cells l):=λy l hy=>ht'.1 _ _ (by rw[aa.fU (nta2 _ htk y l hy)];exact hy)
             have t5:=k3 _ _ s5;have t4:=k3 _ _ s4;refine bm.go lay [] ?_;simp[e5,t5,hta.1,hta.2,aS];refine ab.run lay [] ?_;simp[e13,f1.1,f1.2];obtain⟨nb,zb,hb1,hb2⟩:=hd.1
             have htb:Tok (σ.del c) σ3 a' 6 ((es++[e]).map dt):=by have:=ht'.base htk.here.2;simpa using this
             refine ih _ g1 ⟨_,_,a',es++[e],rfl,by simp[e0],by simp[e4],by simp[e5],by simp[e6],by simp;omega,⟨nb,zb,by omega,?_⟩,?_,aa.ao _ _ _,htb.beside (by simp[aa.del,n5,h85]) (λe=>by obtain⟨_,_,q⟩:=htb.aW e;rw[t5]at q;cases q),by simp[hel],?_,λe=>by simp at e⟩
             . rw[aa.ai _ _ (Ne.symm n5)];exact k3 _ _ hb2
             . rw[aa.ai _ _ (Ne.symm n54)];exact t4
             . intro x hx
               rcases List.mem_append.1 hx with hx|hx
               . exact hes x hx
               . simp at hx;subst hx;exact he))
         . ((
             refine aM lay rfl rfl rfl sB rfl sB rfl CR (by decide) (by simp;omega) (σ0:=σ2.off a) (es:=es.map dt) (xs:=[dt e]) (by simpa using htk.here.1) (.inr ⟨_,by simp;rfl⟩) λa' σ3 ht'=>?_
             have hta:=ht'.cells;have k3:∀y l,σ2 y=some (.cells l)->σ3 y=some (.cells l):=λy l hy=>ht'.1 _ _ (by rw[aa.fU (nta2 _ htk y l hy)];exact hy)
             have t5:=k3 _ _ s5;have t4:=k3 _ _ s4;refine bm.go lay [] ?_;simp[e5,t5,hta.1,hta.2,aS];refine ab.run lay [] ?_;simp[e13,f1.1,f1.2];obtain⟨nb,zb,hb1,hb2⟩:=hd.1
             have htb:Tok (σ.del c) σ3 a' 6 ((es++[e]).map dt):=by have:=ht'.base htk.here.2;simpa using this
             refine ih _ g1 ⟨_,_,a',es++[e],rfl,by simp[e0],by simp[e4],by simp[e5],by simp[e6],by simp;omega,⟨nb,zb,by omega,?_⟩,?_,aa.ao _ _ _,htb.beside (by simp[aa.del,n5,h85]) (λe=>by obtain⟨_,_,q⟩:=htb.aW e;rw[t5]at q;cases q),by simp[hel],?_,λe=>by simp at e⟩
             . rw[aa.ai _ _ (Ne.symm n5)];exact k3 _ _ hb2
             . rw[aa.ai _ _ (Ne.symm n54)];exact t4
             . intro x hx
               rcases List.mem_append.1 hx with hx|hx
               . exact hes x hx
               . simp at hx;subst hx;exact he))
     . have hiq:i=qn:=by omega
       subst hiq;refine ab.run lay [] ?_;simp[e0,e4,e5,e6,e13,q5,htc.1,htc.2,q4,aS];obtain⟨nb,zb,hb1,hb2⟩:=hbj;obtain⟨f,hf⟩:∃f:Fr,f=⟨es,M,fr,to,dR,most⟩:=⟨_,rfl⟩
       have hOK:pR cnt f:=by
        subst hf;refine⟨hdye,hmost,by show 1<=M.length/\M.length<=3;omega,⟨lo,hlo,by show rE M.length lo M;rw[hML];exact hRok⟩,by show 0<=fr/\fr<=2;omega,by show fr<=to/\to<=2;omega,by show(es.length:Int)<=cnt;omega,λe he=>?_⟩
        show vU M.length e;rw[hML];exact hes e he
       obtain⟨a2,ha2,haw⟩:∃a2,((f.az=[]->a2=.lit (.slice none 0 0))/\(f.az≠[]->a2=ru f.az))/\a.W a2:=by
        by_cases e:es=[]
        . exact⟨_,⟨λ_=>rfl,λe2=>absurd (by subst hf;exact e) e2⟩,by rw[hnil e];exact .refl _⟩
        . exact⟨_,⟨λe2=>absurd (by subst hf;exact e2) e,λ_=>rfl⟩,by subst hf;exact htok.W⟩
       refine .nC (a':=.agg [a2,rows f.roads,int f.bM,int f.jn,int f.dR,int f.most]) (rS (by subst hf;rfl) λi x y x1 x2=>?_) (.less (σ':=σ.set c (.cells [ints nums,int nb,.lit (.int .u64 zb)])) (λy x hy=>?_) (.done (h f a2 _ hOK ⟨⟨nb,zb,by omega,aa.ao _ _ _⟩,λy hy=>aa.ai _ _ hy⟩ ha2)))
       . subst hf
         match i with
         |0=>simp at x1 x2;subst x1;subst x2;exact haw
         |1=>simp at x1 x2;subst x1;subst x2;exact gK 1 _ spr
         |2=>simp at x1 x2;subst x1;subst x2;exact .refl _
         |3=>simp at x1 x2;subst x1;subst x2;exact .refl _
         |4=>simp at x1 x2;subst x1;subst x2;exact .refl _
         |5=>simp at x1 x2;subst x1;subst x2;exact .refl _
         |i+6=>simp at x1
       . by_cases y1:y=c
         . subst y1
           rw[aa.ao]at hy;rw[aa.ai _ _ n4,hb2];exact hy
         . rw[aa.ai _ _ y1]at hy
           have y4:y≠c4:=λe=>by subst e;rw[h4]at hy;cases hy
           rw[aa.ai _ _ y4];exact htok.1 y x (by simpa[aa.del,y1]using hy)
end
end Go.Proofs.YtalogdafegmilaaGreatDoor
namespace Go.Proofs.YtalogdafegmilaaGreatDoor
open Go.aN Go.Conc
set_option maxHeartbeats 2000000
set_option maxRecDepth 4000
def Jk(f:Fr)(l:List Int):List Int:=(bO f (bT f (l.getD 0 0))).filter λh=>l.all λj=>decide (h∈bO f (bT f j))
theorem By{f:Fr}{l:List Int}(hl:l≠[]):dS f l=Jk f l:=by
 match l,hl with
 | a::r,_=>
   simp only[dS,Jk,dE,List.map_cons,List.getD_cons_zero];refine List.filter_congr λx hx=>?_
   simp[hx,List.all_eq_true]
end Go.Proofs.YtalogdafegmilaaGreatDoor
namespace Go.Proofs.YtalogdafegmilaaGreatDoor
open Go.aN Go.Conc
set_option maxHeartbeats 1000000
set_option maxRecDepth 4000
section
variable{k:Int->Int}
abbrev zo(k:Int->Int):Int->Int->Bool:=λa b=>decide (k a<k b)
def Dn(k:Int->Int)(r:List Int):Prop:=r.Pairwise λy z=>k z<=k y
theorem Bz(x:Int):∀{r:List Int},(∀z∈r,k z<=k x)->eI (zo k) x r=x::r
 |[],_=>rfl
 |y::r,h=>by unfold eI;rw[if_neg (by have:=h y (by simp);simp[zo];omega)]
theorem xU(x:Int):∀{r:List Int}{z:Int},z∈eI (zo k) x r->z=x\/z∈r
 |[],z,h=>by simp[eI]at h;exact .inl h
 | y :: r,z,h=>by
   unfold eI at h;split at h
   . rcases List.mem_cons.1 h with rfl|h
     . exact .inr (by simp)
     . rcases xU x h with h|h
       . exact .inl h
       . exact .inr (by simp[h])
   . rcases List.mem_cons.1 h with rfl|h
     . exact .inl rfl
     . exact .inr h
theorem zp(x:Int):∀{r:List Int},Dn k r->Dn k (eI (zo k) x r)
 |[],_=>by simp[eI,Dn]
 | y ::r,h=>by
   obtain⟨h1,h2⟩:=List.pairwise_cons.1 h;unfold eI;split
   . next q=>
     have q':k x<k y:=by simpa[zo]using q
     refine List.pairwise_cons.2 ⟨λz hz=>?_,zp x h2⟩;rcases xU x hz with rfl|hz
     . omega
     . exact h1 z hz
   . next q=>
     have q':¬k x<k y:=by simpa[zo]using q
     refine List.pairwise_cons.2 ⟨λz hz=>?_,h⟩;rcases List.mem_cons.1 hz with rfl|hz
     . omega
     . have:=h1 z hz;omega
theorem zq{x y:Int}{r:List Int}(h:k x<k y):eI (zo k) x (y::r)=y::eI (zo k) x r:=by simp[eI,zo,h]
theorem zr{x y:Int}{r:List Int}(h:¬k x<k y):eI (zo k) x (y::r)=x::y::r:=by simp[eI,zo,h]
theorem BA(x:Int):∀r:List Int,r.Sublist (eI (zo k) x r)
 |[]=>List.nil_sublist _
 | y::r=>by
   unfold eI;split
   . exact(BA x r).cons_cons y
   . exact(List.Sublist.refl _).cons x
theorem Jl(x:Int){r' r:List Int}(hs:r'.Sublist r)(hd:Dn k r):(eI (zo k) x r').Sublist (eI (zo k) x r):=by
 induction hs with
 |slnil=>exact List.Sublist.refl _
 | cons y hs ih=>
   obtain⟨h1,h2⟩:=List.pairwise_cons.1 hd;by_cases q:k x<k y
   . rw[zq q]
     exact(ih h2).cons y
   . rw[zr q,Bz x (λz hz=>by have:=h1 z (hs.subset hz);omega)]
     exact(hs.cons y).cons_cons x
 | cons_cons y hs ih=>
   obtain⟨h1,h2⟩:=List.pairwise_cons.1 hd;by_cases q:k x<k y
   . rw[zq q,zq q]
     exact(ih h2).cons_cons y
   . rw[zr q,zr q]
     exact(hs.cons_cons y).cons_cons x
theorem Ge{l' l:List Int}(hs:l'.Sublist l):∀{r' r:List Int},r'.Sublist r->Dn k r->(l'.foldl (λr x=>eI (zo k) x r) r').Sublist (l.foldl (λr x=>eI (zo k) x r) r):=by
 induction hs with
 |slnil=>intro r' r h _;exact h
 |cons x hs ih=>intro r' r h hd;exact ih (h.trans (BA x r)) (zp x hd)
 |cons_cons x hs ih=>intro r' r h hd;exact ih (Jl x h hd) (zp x hd)
end
theorem oo(f:Fr)(l:List Int):aT f l=(eH (zo λn=>(bT f n).hour) l).reverse:=by
 unfold aT;congr 2;funext a b;unfold sD ze zo;by_cases h1:(bT f a).hour<(bT f b).hour
 . simp[h1]
 . by_cases h2:(bT f b).hour<(bT f a).hour
   . simp[h1,h2]
   . simp[h1,h2]
theorem zt{f:Fr}{l' l:List Int}(hs:l'.Sublist l):(aT f l').Sublist (aT f l):=by rw[oo,oo];exact(Ge hs (List.Sublist.refl _) List.Pairwise.nil).reverse
theorem rI{f:Fr}{l:List Int}{n:Int}:n∈aT f l↔n∈l:=by unfold aT;rw[List.mem_reverse,sC]
theorem Ms:∀a:Fin 32,∀b:Fin 32,∀c:Fin 32,bQ (a.val:Int) (c.val:Int)<=bQ (a.val:Int) (b.val:Int)+bQ (b.val:Int) (c.val:Int):=by decide +kernel
theorem sE{l:List Int}(h:rv none l=0):∃a:Fin 32,bH l=(a.val:Int):=by have:=jP (oZ h);exact⟨⟨(bH l).toNat,by omega⟩,by show bH l=((bH l).toNat:Int);omega⟩
def Fit(f:Fr)(a b:Int):Prop:=j7 f a b=false
theorem Fr.Good.SU{f:Fr}(hg:f.Good){i j k:Nat}(hi:i<f.roads.length)(hj:j<f.roads.length)(hk:k<f.roads.length):rd f.roads i k<=rd f.roads i j+rd f.roads j k:=by
 have h:=hg.Lu;unfold i6 at h;split at h
 . cases h
 split at h
 . cases h
 split at h
 . next q=>exact absurd h q
 split at h
 . cases h
 next q=>
 simp only[List.any_eq_true,List.mem_range,not_exists,not_and]at q;have h1:=q i hi k hk;unfold dZ at h1;simp only[Bool.or_eq_true,not_or,List.any_eq_true,List.mem_range,not_exists,not_and,decide_eq_true_eq]at h1;have:=h1.2 j hj;omega
theorem oq{f:Fr}{n:Int}(h:0<=n/\n<f.az.length):bT f n∈f.az:=by
 have:n.toNat<f.az.length:=by omega
 rw[rC this];exact List.getElem_mem this
theorem xV{f:Fr}(hg:f.Good){a b c:Int}(ha:0<=a/\a<f.az.length)(hb:0<=b/\b<f.az.length)(hc:0<=c/\c<f.az.length)(h1:Fit f a b)(h2:Fit f b c):Fit f a c:=by
 have ea:=tv (hg.Bp _ (oq ha));have eb:=tv (hg.Bp _ (oq hb));have ec:=tv (hg.Bp _ (oq hc));have hd:=hg.dR;obtain⟨A,hA⟩:=sE ea.2.2.2.2.2;obtain⟨B,hB⟩:=sE eb.2.2.2.2.2;obtain⟨C,hC⟩:=sE ec.2.2.2.2.2;have t1:=Ms A B C;have pa:=ea.2.1;have pb:=eb.2.1;have pc:=ec.2.1;have t2:=hg.SU (i:=(bT f a).place.toNat) (j:=(bT f b).place.toNat) (k:=(bT f c).place.toNat) (by omega) (by omega) (by omega);unfold Fit j7 at h1 h2 ⊢;rw[hA,hB]at h1;rw[hB,hC]at h2;rw[hA,hC];simp only[decide_eq_false_iff_not]at h1 h2 ⊢;have t3:f.dR*bQ (A.val:Int) (C.val:Int)<=f.dR*(bQ (A.val:Int) (B.val:Int)+bQ (B.val:Int) (C.val:Int)):=Int.mul_le_mul_of_nonneg_left t1 (by omega);rw[Int.mul_add]at t3;omega
theorem vV(f:Fr)(a b:Int)(r:List Int):cO f (a::b::r)=(j7 f a b||cO f (b::r)):=by
 unfold cO;rw[show(a::b::r).length-1=r.length+1 from rfl,List.range_succ_eq_map,List.any_cons,List.any_map];rfl
theorem xW{f:Fr}(hf:f.Good):∀{l:List Int},(∀n∈l,0<=n/\n<f.az.length)->cO f l=false->l.Pairwise (Fit f)
 |[],_,_=>List.Pairwise.nil
 |[a],_,_=>List.pairwise_singleton _ _
 | a::b::r,hl,h=>by
   rw[vV,Bool.or_eq_false_iff]at h;have ih:=xW hf (λn hn=>hl n (by simp[hn])) h.2;refine List.pairwise_cons.2 ⟨λz hz=>?_,ih⟩;rcases List.mem_cons.1 hz with rfl|hz'
   . exact h.1
   . exact xV hf (hl a (by simp)) (hl b (by simp)) (hl z (by simp[hz'])) h.1 ((List.pairwise_cons.1 ih).1 z hz')
theorem sF{f:Fr}:∀{l:List Int},l.Pairwise (Fit f)->cO f l=false
 |[],_=>rfl
 |[a],_=>rfl
 |a::b::r,h=>by obtain⟨h1,h2⟩:=List.pairwise_cons.1 h;rw[vV,sF h2,Bool.or_false];exact h1 b (by simp)
theorem qN{f:Fr}{l:List Int}(hl:l≠[]){h:Int}:h∈dS f l↔∀j∈l,h∈bO f (bT f j):=by
 rw[By hl]
 match l,hl with
 |a::r,_=>simp only[Jk,List.mem_filter,List.all_eq_true,decide_eq_true_eq];exact⟨λq=>q.2,λq=>⟨q a (by simp),q⟩⟩
theorem nR{f:Fr}{l:List Int}:ii f l=0↔dF f (aT f l)=false/\cG f (aT f l)=false/\cO f (aT f l)=false:=by unfold ii;cases dF f (aT f l)<;>cases cG f (aT f l)<;>cases cO f (aT f l)<;>simp
theorem KU{f:Fr}(hf:f.Good){l' l:List Int}(hs:l'.Sublist l)(hne:l'≠[])(hl:∀n∈l,0<=n/\n<f.az.length)(h:ii f l=0):ii f l'=0:=by
 obtain⟨h1,h2,h3⟩:=nR.1 h;have hS:=zt (f:=f) hs
 have hne':aT f l'≠[]:=λe=>by
  cases l' with
  |nil=>exact hne rfl
  |cons a r=>have:a∈aT f (a::r):=rI.2 (by simp);rw[e]at this;cases this
 have hne2:aT f l≠[]:=λe=>hne' (by rw[e]at hS;exact List.sublist_nil.1 hS)
 have hr:∀n∈aT f l,0<=n/\n<f.az.length:=λn hn=>hl n (rI.1 hn)
 generalize aT f l=S at *;refine nR.2 ⟨?_,?_,sF ((xW hf hr h3).sublist hS)⟩
 . generalize aT f l'=S' at *
   unfold dF at h1 ⊢;rw[List.any_eq_false]at h1 ⊢;have h1':∀x∈S,(bT f x).cS=(bT f (S.getD 0 0)).cS:=λx hx=>by simpa using h1 x hx
   intro x hx
   have hz:S'.getD 0 0∈S':=by
    match S',hne' with
    |a::r,_=>simp
   rw[h1' x (hS.subset hx),h1' _ (hS.subset hz)];simp
 . generalize aT f l'=S' at *
   unfold cG at h2 ⊢;simp only[decide_eq_false_iff_not]at h2 ⊢;obtain⟨x,hx⟩:=List.exists_mem_of_ne_nil _ h2;have:x∈dS f S':=(qN hne').2 λj hj=>(qN hne2).1 hx j (hS.subset hj)
   exact List.ne_nil_of_mem this
theorem tT{α β:Type}{B:Nat}{g:α->List β}:∀(l:List α),(∀x∈l,(g x).length<=B)->(l.flatMap g).length<=l.length*B
 |[],_=>by simp
 | a::l,h=>by
   rw[List.flatMap_cons,List.length_append,List.length_cons,Nat.add_mul,Nat.one_mul];have h1:=h a (by simp);have h2:=tT l λx hx=>h x (by simp[hx])
   omega
theorem BB{f:Fr}(hg:f.Good)(begun:List Int):∀(fuel:Nat) (cd:List Int) (many:Int) (hs:List Int),(cV f begun fuel cd many hs).length<=6 ^ fuel
 |0,_,_,_=>by simp[cV]
 | fuel+1,cd,many,hs=>by
   unfold cV;refine Nat.le_trans (tT (B:=6 ^ fuel) _ λk _=>?_) ?_
   . split
     . simp
     split
     . exact BB hg begun fuel _ _ _
     . simp
   . rw[List.length_range,Nat.pow_succ,Nat.mul_comm]
     have:=hg.most;exact Nat.mul_le_mul_left _ (by omega)
theorem fa{f:Fr}(hg:f.Good)(begun:List Int):(ak f begun).length<=46656:=by refine Nat.le_trans (BB hg begun _ _ _ _) ?_;exact Nat.pow_le_pow_right (by omega) hg.pi
theorem p9{β:Type}{G:Nat->List β}{c:Nat}:∀d:Nat,(∀j,c<=j->j<c+d->G j=[])->(List.range (c+d)).flatMap G=(List.range c).flatMap G
 |0,_=>rfl
 | d+1,h=>by
   rw[<-Nat.add_assoc,List.range_succ,List.flatMap_append,p9 d λj h1 h2=>h j h1 (by omega)];simp[h (c+d) (by omega) (by omega)]
theorem oP{α β:Type}{f g:α->List β}{l:List α}(h:∀x∈l,f x=g x):l.flatMap f=l.flatMap g:=by rw[List.flatMap_def,List.flatMap_def,List.map_congr_left h]
end Go.Proofs.YtalogdafegmilaaGreatDoor
