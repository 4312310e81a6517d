/- Part 32 of the proof. -/
import Derived.Test.YtelgggdkahhhfaaGreatDoorC31
set_option linter.all false
namespace Go.Proofs.YtelgggdkahhhfaaGreatDoor
open Go.aZ Go.Conc
set_option maxHeartbeats 1000000
set_option maxRecDepth 4000
variable {m:Mo} {σ:aa} {KF:cV->aa->Prop}
structure og (n:Nat) (lo:Int) (r:List (List Int)):Prop where
 len:r.length=n
 row:∀ l∈r,l.length=n
 diag:∀ i,i<n->rd r i i=0
 sym:∀ i j,i<n->j<n->rd r i j=rd r j i
 off:∀ i j,i<n->j<n->i≠j->lo≤rd r i j∧rd r i j≤2*lo
structure pj (cnt:Int) (f:Fr):Prop where
 iM:1≤f.iM∧f.iM≤4
 most:f.most=1∨f.most=2∨f.most=3∨f.most=6
 ga:1≤f.roads.length∧f.roads.length≤3
 I5:∃ lo:Int,(0≤lo∧lo≤4)∧og f.roads.length lo f.roads
 fr:0≤f.eQ∧f.eQ≤2
 to:f.eQ≤f.m8∧f.m8≤2
 len:(f.aB.length:Int)≤cnt
 FF:∀ e∈f.aB,ub f.roads.length e
theorem og.err {n:Nat} {lo:Int} {r:List (List Int)} (h:og n lo r) (hn:1≤n∧n≤3) (hlo:0≤lo∧lo≤4):fW r=0:=by
 have hl:=h.len
 have hb:∀ i j,i<n->j<n->0≤rd r i j∧rd r i j≤9:=fun i j hi hj=>by
  by_cases e:i=j
  . subst e;rw[h.diag i hi];omega
  . have:=h.off i j hi hj e;omega
 have hrow:∀ l∈r,jj n l=0:=fun l hm=>by
  have h1:=h.row l hm
  have h2:l.all (dD · 0 9)=true:=by
   rw[List.all_eq_true];intro x hx;obtain⟨i,hi,rfl⟩:=List.mem_iff_getElem.1 hm;obtain⟨j,hj,rfl⟩:=List.mem_iff_getElem.1 hx;have:=hb i j (by omega) (by omega)
   have e:rd r i j=r[i][j]:=by simp[rd,List.getD_eq_getElem?_getD,hi,hj]
   rw[e] at this;simp[dD,this.1,this.2]
  unfold jj;rw[if_neg (by simp[h1]),if_pos h2]
 have hrows:∀ l:List (List Int),(∀ x∈l,x∈r)->ed n l=0:=fun l=>by
  induction l with
  | nil=>intro _;rfl
  | cons x l ih=>
    intro hx;unfold ed;rw[if_pos (hrow x (hx x (by simp)))]
    exact ih fun y hy=>hx y (by simp[hy])
 have hno:((List.range n).any fun i=>(List.range n).any fun j=>cO r i j)=false:=by
  rw[List.any_eq_false];intro i hi;rw[Bool.not_eq_true,List.any_eq_false];intro j hj;have hi:=List.mem_range.1 hi;have hj:=List.mem_range.1 hj;unfold cO;rw[h.diag i hi,h.sym i j hi hj,hl]
  have h3 : ((List.range n).any fun k=>decide (rd r j i > rd r i k+rd r k j))=false:=by
   rw[List.any_eq_false];intro k hk;have hk:=List.mem_range.1 hk;have a1:=hb i k hi hk;have a2:=hb k j hk hj;simp only[decide_eq_true_eq,Int.not_lt,gt_iff_lt]
   by_cases e1:i=j
   . subst e1;rw[h.diag i hi];omega
   . by_cases e2:i=k
     . subst e2;rw[h.diag i hi,h.sym i j hi hj];omega
     . by_cases e3:k=j
       . subst e3;rw[h.diag k hk,h.sym i k hi hk];omega
       . have b1:=h.off j i hj hi (Ne.symm e1)
         have b2:=h.off i k hi hk e2;have b3:=h.off k j hk hj e3;omega
  rw[h3];simp
 unfold fW;rw[hl,if_neg (by omega),if_neg (by omega),hrows r (fun _ h=>h),if_neg (by simp),hno]
 simp
theorem Fk {M:List (List Int)} {i k:Nat} {n:Int} (hi:i<M.length) (hk:k<(M.getD i []).length) (x y:Nat):rd (M.set i ((M.getD i []).set k n)) x y=if x=i∧y=k then n else rd M x y:=by
 unfold rd
 by_cases e:x=i
 . subst e
   have e1:(M.set x ((M.getD x []).set k n)).getD x []=(M.getD x []).set k n:=by
    simp[List.getD_eq_getElem?_getD,hi]
   rw[e1]
   by_cases e2:y=k
   . subst e2
     rw[if_pos ⟨rfl,rfl⟩];rw[List.getD_eq_getElem?_getD,List.getElem?_set_self hk];rfl
   . rw[if_neg (fun q=>e2 q.2)]
     rw[List.getD_eq_getElem?_getD,List.getElem?_set_ne (Ne.symm e2),← List.getD_eq_getElem?_getD]
 . rw[if_neg (fun q=>e q.1)]
   have e1:(M.set i ((M.getD i []).set k n)).getD x []=M.getD x []:=by
    rw[List.getD_eq_getElem?_getD,List.getElem?_set_ne (Ne.symm e),← List.getD_eq_getElem?_getD]
   rw[e1]
def sO (M:List (List Int)) (i k:Nat) (n:Int):List (List Int):=(M.set i ((M.getD i []).set k n)).set k ((M.getD k []).set i n)
structure Aa (n:Nat) (lo:Int) (i k:Nat) (M:List (List Int)):Prop where
 len:M.length=n
 row:∀ j,j<n->(M.getD j []).length=n
 diag:∀ x,x<n->rd M x x=0
 sym:∀ x y,x<n->y<n->rd M x y=rd M y x
 off:∀ x y,y<x->x<n->(x<i∨(x=i∧y<k))->lo≤rd M x y∧rd M x y≤2*lo
theorem uf {M:List (List Int)} {i k:Nat} {v:Int} (hi:i<M.length) (hk:k<M.length) (hik:k≠i) (j:Nat):(sO M i k v).getD j []=if j=k then (M.getD k []).set i v else if j=i then (M.getD i []).set k v else M.getD j []:=by
 unfold sO
 by_cases e1:j=k
 . subst e1
   rw[if_pos rfl,List.getD_eq_getElem?_getD,List.getElem?_set_self (by simpa using hk)];rfl
 . rw[if_neg e1,List.getD_eq_getElem?_getD,List.getElem?_set_ne (Ne.symm e1)]
   by_cases e2:j=i
   . subst e2
     rw[if_pos rfl,List.getElem?_set_self hi];rfl
   . rw[if_neg e2,List.getElem?_set_ne (Ne.symm e2),← List.getD_eq_getElem?_getD]
theorem GW {n:Nat} {lo:Int} {i k a b:Nat} {M:List (List Int)} {v:Int} (h:Aa n lo a b M) (hi:i<n) (hk:k<n) (hik:k≠i) (x y:Nat):rd (sO M i k v) x y=if (x=i∧y=k)∨(x=k∧y=i) then v else rd M x y:=by
 have hl:=h.len
 have e1:rd (sO M i k v) x y=if x=k∧y=i then v else rd (M.set i ((M.getD i []).set k v)) x y:=by
  have q:M.getD k []=(M.set i ((M.getD i []).set k v)).getD k []:=by
   rw[List.getD_eq_getElem?_getD,List.getD_eq_getElem?_getD,List.getElem?_set_ne (Ne.symm hik)]
  unfold sO;rw[q];exact Fk (by simp[hl,hk]) (by rw[← q];rw[h.row k hk];exact hi) x y
 rw[e1,Fk (by omega) (by rw[h.row i hi];exact hk)]
 by_cases c1:x=k∧y=i
 . rw[if_pos c1,if_pos (.inr c1)]
 . rw[if_neg c1]
   by_cases c2:x=i∧y=k
   . rw[if_pos c2,if_pos (.inl c2)]
   . rw[if_neg c2,if_neg (fun q=>q.elim c2 c1)]
theorem Aa.next {n:Nat} {lo:Int} {i k:Nat} {M:List (List Int)} {v:Int} (h:Aa n lo i k M) (hi:i<n) (hk:k<i) (hv:lo≤v∧v≤2*lo):Aa n lo i (k+1) (sO M i k v):=by
 have hl:=h.len;have hrd:=GW (v:=v) h hi (show k<n by omega) (by omega)
 refine⟨by simp[sO,hl],fun j hj=>?_,fun x hx=>?_,fun x y hx hy=>?_,fun x y hxy hx hd=>?_⟩
 . rw[uf (by omega) (by omega) (by omega)]
   split
   . rw[List.length_set];exact h.row k (by omega)
   . split
     . rw[List.length_set];exact h.row i hi
     . exact h.row j hj
 . rw[hrd,if_neg (by omega)];exact h.diag x hx
 . rw[hrd,hrd]
   by_cases c:(x=i∧y=k)∨(x=k∧y=i)
   . rw[if_pos c,if_pos (c.elim (fun q => .inr ⟨q.2,q.1⟩) (fun q => .inl ⟨q.2,q.1⟩))]
   . rw[if_neg c,if_neg (fun q=>c (q.elim (fun q => .inr ⟨q.2,q.1⟩) (fun q => .inl ⟨q.2,q.1⟩)))]
     exact h.sym x y hx hy
 . rw [hrd]
   by_cases c:(x=i∧y=k)∨(x=k∧y=i)
   . rw[if_pos c];exact hv
   . rw[if_neg c]
     refine h.off x y hxy hx ?_
     rcases hd with hd|⟨h1,h2⟩
     . exact .inl hd
     . refine .inr ⟨h1,?_⟩
       have:y≠k:=fun e=>c (.inl ⟨h1,e⟩)
       omega
theorem Aa.line {n:Nat} {lo:Int} {i:Nat} {M:List (List Int)} (h:Aa n lo i i M):Aa n lo (i+1) 0 M:=
 ⟨h.len,h.row,h.diag,h.sym,fun x y hxy hx hd=>h.off x y hxy hx (by omega)⟩
theorem Aa.fin {n:Nat} {lo:Int} {M:List (List Int)} (h:Aa n lo n 0 M):og n lo M:=by
 have hl:=h.len;refine⟨h.len,fun l hm=>?_,h.diag,h.sym,fun i j hi hj hij=>?_⟩
 . obtain⟨i,hi,rfl⟩:=List.mem_iff_getElem.1 hm
   have:=h.row i (by omega)
   simpa[List.getD_eq_getElem?_getD,hi] using this
 . rcases Nat.lt_or_ge j i with q|q
   . exact h.off i j q hi (.inl hi)
   . rw[h.sym i j hi hj]
     exact h.off j i (by omega) hj (.inl hj)
theorem Aa.start (n:Nat) (lo:Int):Aa n lo 0 0 (List.replicate n (List.replicate n 0)):=by
 have h0:∀ x y,rd (List.replicate n (List.replicate n 0)) x y=0:=fun x y=>by
  unfold rd;simp only[List.getD_eq_getElem?_getD,List.getElem?_replicate]
  by_cases hx:x<n
  . simp only[hx,if_true,Option.getD_some,List.getElem?_replicate]
    split <;> rfl
  . simp[hx]
 refine⟨by simp,fun j hj=>by simp[List.getD_eq_getElem?_getD,hj],fun x _=>h0 x x,fun x y _ _=>by rw[h0,h0],fun x y _ _ h=>by omega⟩
theorem oh {g:m7->Int}:∀ {l:List m7},(∀ e∈l,g e=0)->dE g l=0
 | [],_=>rfl
 | a :: l,h=>by
   unfold dE;rw[if_pos (h a (by simp))]
   exact oh fun e he=>h e (by simp[he])
theorem pj.check {most:Int} {f:Fr} (h:pj most f) (h6:most≤6):check f=0:=by
 obtain⟨lo,hlo,hr⟩:=h.I5;have e1:=hr.err h.ga hlo;have h1:=h.fr;have h2:=h.to;have h3:=h.iM;have h4:=h.most;have h5:=h.len
 have e2:(dD f.eQ 0 3 && dD f.m8 0 3)=true:=by
  simp[dD];omega
 have e3:(dD f.iM 1 6 && dD f.most 1 6)=true:=by
  simp[dD];omega
 unfold Go.Proofs.YtelgggdkahhhfaaGreatDoor.check;rw[e1,if_neg (by simp),e2,if_neg (by simp),if_neg (by omega),e3,if_neg (by simp),if_neg (by omega)]
 exact oh fun e he=>(h.FF e he).check
theorem pj.fits {most:Int} {f:Fr} (h:pj most f) (h6:most≤1000):f.Fits:=by
 obtain⟨lo,hlo,hr⟩:=h.I5;have:=h.len;have hs:=h.ga;refine⟨by omega,by omega,fun l hl=>?_,fun e he=>?_⟩
 . have:=hr.row l hl;omega
 . have:=(uc (h.FF e he).marks).2;omega
end Go.Proofs.YtelgggdkahhhfaaGreatDoor
namespace Go.Proofs.YtelgggdkahhhfaaGreatDoor
open Go.aZ Go.Conc
set_option maxHeartbeats 2000000
set_option maxRecDepth 4000
variable {m:Mo} {σ:aa} {KF:cV->aa->Prop}
theorem oi {l:List Nat} (h:l.Nodup) {i j:Nat} {hi:i<l.length} {hj:j<l.length} (hij:i≠j):l[i]≠l[j]:=by
 rw[List.Nodup,List.pairwise_iff_getElem] at h
 rcases Nat.lt_or_ge i j with q|q
 . exact h i j hi hj q
 . exact Ne.symm (h j i hj hi (by omega))
def fh (rs:List Nat) (M:List (List Int)) (n j:Nat):List AV:=(List.range rs.length).map fun l=>if l<j then ints (M.getD l []) else AV.gq (rs.getD l 0) 0 n n
theorem kO (rs:List Nat) (M:List (List Int)) (n j:Nat):(fh rs M n j).length=rs.length:=by rw[fh,List.length_map,List.length_range]
theorem kP {rs:List Nat} {M:List (List Int)} {n j l:Nat} (hl:l<rs.length):(fh rs M n j)[l]? = some (if l<j then ints (M.getD l []) else AV.gq (rs.getD l 0) 0 n n):=by
 rw[fh,List.getElem?_map,List.getElem?_range hl];rfl
theorem xy {fid nt:Nat} {ro:Option Nat} {hold:List Entry} {K:aZ.Exit->St->Prop} {todo:List Item} {env:Env} {D:List jS} {rc:Rec} {d n at_:Nat} {rs:List Nat} {M:List (List Int)} {cs:List AV} {spr:bK} (σ0:aa) (hnd:rs.Nodup) (hM:∀ l,l<rs.length->(M.getD l []).length=n) (hat:at_<cs.length) (hd:d ∉ rs)
 (hR:∀ σ',σ' d=some (.cells (cs.set at_ (.sl 1 (fh rs M n rs.length) spr)))->(∀ y,y≠d->y ∉ rs->σ' y=σ0 y)->ab Tryz.prog m fid nt ro hold todo ⟨env,σ',D,rc⟩ K) :
 ∀ (f j:Nat),j+f=rs.length->∀ σ,σ d=some (.cells (cs.set at_ (.sl 1 (fh rs M n j) spr)))->(∀ (l:Nat) (hl:l<rs.length),j≤l->σ rs[l]=some (.cells ((M.getD l []).map int)))->(∀ y,y≠d->y ∉ rs->σ y=σ0 y)->ab Tryz.prog m fid nt ro hold todo ⟨env,σ,D,rc⟩ K
 | 0,j,hj,σ,h1,_,h3=>by
   have:j=rs.length:=by omega
   subst this;exact hR σ h1 h3
 | f + 1,j,hj,σ,h1,h2,h3=>by
   have hjl:j<rs.length:=by omega
   have hln:=hM j hjl;have hdj:d≠rs[j]:=fun e=>hd (e ▸ List.getElem_mem hjl)
   have hcell:∀ e∈fh rs M n j,e.cells=[e]:=fun e he=>by
    unfold fh at he;obtain⟨l,_,rfl⟩:=List.mem_map.1 he;split <;> rfl
   have hlen:(fh rs M n j).length=rs.length:=kO _ _ _ _;have hget:∀ l,l<rs.length->(fh rs M n j)[l]? = some (if l<j then ints (M.getD l []) else AV.gq (rs.getD l 0) 0 n n):=fun l hl=>kP hl
   have hnext:(fh rs M n j).set j (.sl 1 ((M.getD j []).map int) .any)=fh rs M n (j+1):=by
    apply List.ext_getElem?;intro l
    by_cases hl:l<rs.length
    . have e2:(fh rs M n (j+1))[l]? = some (if l<j+1 then ints (M.getD l []) else AV.gq (rs.getD l 0) 0 n n):=kP hl
      rw[e2]
      by_cases hlj:l=j
      . subst hlj
        rw[List.getElem?_set_self (by omega),if_pos (by omega)]
      . rw[List.getElem?_set_ne (Ne.symm hlj),hget l hl]
        by_cases q:l<j
        . rw[if_pos q,if_pos (by omega)]
        . rw[if_neg q,if_neg (by omega)]
    . rw[List.getElem?_eq_none (by rw[List.length_set,hlen];omega),List.getElem?_eq_none (by rw[kO];omega)]
   refine ab.Gz (b:=rs[j]) (d:=d) (i:=j) (l:=(M.getD j []).map int) (at_:=at_) hdj (h2 j hjl (Nat.le_refl _)) (fun e he=>by obtain⟨_,_,rfl⟩:=List.mem_map.1 he;rfl) h1 (by rw[List.getElem?_set_self hat]) hcell (by rw[hget j hjl,if_neg (by omega),List.length_map,hln];simp[List.getD_eq_getElem?_getD,hjl]) ?_
   rw[List.set_set,hnext];refine xy σ0 hnd hM hat hd hR f (j+1) (by omega) _ (aa.ao _ _ _) (fun l hl hjl2=>?_) (fun y y1 y2=>?_)
   . have n1:rs[l]≠d:=fun e=>hd (e ▸ List.getElem_mem hl)
     rw[aa.ak _ _ n1];simp only[aa.del,oi hnd (show l≠j by omega),if_false]
     exact h2 l hl (by omega)
   . rw[aa.ak _ _ y1]
     have:y≠rs[j]:=fun e=>y2 (e ▸ List.getElem_mem hjl)
     simp only[aa.del,this,if_false];exact h3 y y1 y2
section
variable {c k:Nat} {nums:List Int}
abbrev jH:List AV:=[.lit (.slice none 0 0),.lit (.slice none 0 0),int 0,int 0,int 0,int 0]
theorem B4 {cnt:Int} (hk:k+20+11*cnt.toNat<1000000) (hn:nums.length<1152921504606846976) (hcnt:0≤cnt∧cnt≤1000) (hb:dJ c nums k σ) (h:∀ (f:Fr) σ',pj cnt f->pi c nums (k+20+11*cnt.toNat) σ σ'->KF (.val (bg f)) σ'):ar Tryz.prog m 10 [.ref c 0,int cnt] σ KF:=by
 obtain⟨n0,s0,_,hc0⟩:=id hb;refine ar.start lay [] LR 2 Tryz.func10 rfl rfl (by rfl) (by kernel_rfl) ?_
 simp[Tryz.f10];refine dL.intro fun c4 h4=>?_
 have n4:c≠c4:=fun e=>by subst e;rw[hc0] at h4;cases h4
 have hb1:∀ x,dJ c nums k (σ.set c4 x):=fun x=>⟨n0,s0,by assumption,by rw[aa.ak _ _ n4];exact hc0⟩
 simp;refine ap Tryz.func13 rfl rfl (od (by omega) hn ⟨by omega,by omega⟩ ⟨by omega,by omega⟩ (hb1 _) fun iM σ1 hx1 hd1=>?_)
 refine ab.run lay [] ?_;simp;refine ap Tryz.func30 rfl rfl (oe (l:=[1,2,2,3,3,6]) (by omega) hn ⟨by simp,by simp⟩ hd1.1 fun most σ2 hx2 hd2=>?_)
 refine ab.run lay [] ?_;simp;refine dL.intro fun c5 h5=>?_
 have n45:c4≠c:=Ne.symm n4;have hd02:pi c nums (k+2) (σ.set c4 (.cells jH)) σ2:=hd1.trans hd2;have h84:σ2 c4=some (.cells jH):=by rw[hd02.2 c4 n45,aa.ao]
 have n5:c5≠c:=fun e=>by subst e;obtain⟨_,_,_,q⟩:=hd2.1;rw[q] at h5;cases h5
 have n54:c5≠c4:=fun e=>by subst e;rw[h84] at h5;cases h5
 have h85:σ c5=none:=by rw[hd02.2 c5 n5,aa.ak _ _ n54] at h5;exact h5
 simp[bt]
 have hb3:∀ x,dJ c nums (k+2) (σ2.set c5 x):=fun x=>by
  obtain⟨n,z,h1,h2⟩:=hd2.1;exact⟨n,z,by omega,by rw[aa.ak _ _ (Ne.symm n5)];exact h2⟩
 refine ap Tryz.func13 rfl rfl (od (by omega) hn ⟨by omega,by omega⟩ ⟨by omega,by omega⟩ (hb3 _) fun ga σ3 hx3 hd3=>?_)
 refine ab.run lay [] ?_;simp;refine ap Tryz.func12 rfl rfl (gS (by omega) hn ⟨by omega,by omega⟩ hd3.1 fun lo σ4 hx4 hd4=>?_)
 refine ab.run lay [] ?_;simp;have hd24:pi c nums (k+4) (σ2.set c5 (.cells [.lit (.slice none 0 0),.lit (.slice none 0 0),int 0,int 0,int iM,int most])) σ4:=hd3.trans hd4;obtain⟨sp,rfl⟩:∃ sp:Nat,ga=(sp:Int):=⟨ga.toNat,by omega⟩
 have hsp:1≤sp∧sp≤3:=by omega
 have hlo:0≤lo∧lo≤4:=by omega
 have hdye:1≤iM∧iM≤4:=by omega
 have hmost:most=1∨most=2∨most=3∨most=6:=by simp at hx2;omega
 have h45:σ4 c5=some (.cells [.lit (.slice none 0 0),.lit (.slice none 0 0),int 0,int 0,int iM,int most]):=by rw[hd24.2 c5 n5,aa.ao]
 have h44:σ4 c4=some (.cells jH):=by rw[hd24.2 c4 n45,aa.ak _ _ (Ne.symm n54)];exact h84
 have hle4:(σ.del c).Le σ4:=fun y x hy=>by
  have y1:y≠c:=fun e=>by subst e;simp[aa.del] at hy
  have y0:σ y=some x:=by simpa[aa.del,y1] using hy
  have y5:y≠c5:=fun e=>by subst e;rw[h85] at y0;cases y0
  have y4:y≠c4:=fun e=>by subst e;rw[h4] at y0;cases y0
  rw[hd24.2 y y1,aa.ak _ _ y5,hd02.2 y y1,aa.ak _ _ y4];exact y0
 have hbag4:=hd4.1;clear hd1 hd2 hd3 hd4 hd02 hd24 hb1 hb3 h5 h84 hx1 hx2 hx3 hx4
 refine ab.loop sp (fun i s => ∃ env σ' a rs,s=⟨env,σ',[],.no⟩∧env 0 = .ref c 0∧env 1=int cnt∧env 4 = .ref c4 0∧env 5 = .ref c5 0∧env 6=int sp∧env 7=int lo∧env 8=int i∧dJ c nums (k+4) σ'∧σ' c4=some (.cells jH)∧σ' c5=some (.cells [.lit (.slice none 0 0),a,int 0,int 0,int iM,int most]) ∧
  Tok (σ.del c) σ' a 1 (rs.map fun b:Nat=>AV.gq b 0 sp sp)∧rs.length=i∧rs.Nodup∧(∀ b∈rs,σ b=none∧b≠c∧b≠c4∧b≠c5∧σ' b=some (.cells (List.replicate sp (int 0))))) ⟨_,σ4,.lit (.slice none 0 0),[],rfl,by simp,by simp,by simp,by simp,by simp,by simp,by simp,hbag4,h44,h45,⟨hle4,.inl ⟨rfl,rfl⟩⟩,rfl,List.nodup_nil,by simp⟩ ?_
 rintro c0 i _ hi ⟨env,σ',a,rs,rfl,e0,e1,e4,e5,e6,e7,e8,hbi,q4,q5,htok,hrl,hnd,hrs⟩ ih
 have htc:=htok.cells
 rcases Nat.lt_or_ge i sp with g1|g1
 . have g1':(i:Int)<sp:=by omega
   have f1 : -9223372036854775808≤(i:Int)+1∧(i:Int)+1≤9223372036854775807:=by omega
   have nta:∀ σx:aa,Tok (σ.del c) σx a 1 (rs.map fun b:Nat=>AV.gq b 0 sp sp)->∀ y l,σx y=some (.cells l)->gF a≠some y:=fun σx hx y l hy e=>by obtain⟨_,_,q⟩:=hx.dO e;rw[hy] at q;cases q
   have fresh:∀ b,σ' b=none->σ b=none∧b≠c∧b≠c4∧b≠c5∧c5≠b∧b ∉ rs:=fun b hbn=>by
    have n1:b≠c:=fun e=>by subst e;obtain⟨_,_,_,q⟩:=hbi;rw[q] at hbn;cases hbn
    refine⟨?_,n1,fun e=>(by subst e;rw[q4] at hbn;cases hbn),fun e=>(by subst e;rw[q5] at hbn;cases hbn),fun e=>(by subst e;rw[q5] at hbn;cases hbn),fun e=>(by rw[(hrs b e).2.2.2.2] at hbn;cases hbn)⟩
    cases e:σ b with
    | none=>rfl
    | some x=>have:=htok.1 b x (by simp[aa.del,n1,e]);rw[hbn] at this;cases this
   refine ab.run lay [] ?_;simp[e0,e1,e4,e5,e6,e7,e8,q5,htc.1,htc.2,g1'];refine⟨?_,?_⟩
   . ((
       refine nY lay rfl dz rfl tO rfl (by decide) rfl rfl (n:=sp) (by simp[e6]) (by simp[e6]) ⟨by omega,by omega⟩ fun b hbn=>?_
       obtain⟨fb0,fbc,fb4,fb5,fb5',fbr⟩:=fresh b hbn;have up:=htok.up (aa.fQ (x:=.cells (List.replicate sp (int 0))) (aa.le_refl _) hbn);have q5b:(σ'.set b (.cells (List.replicate sp (int 0)))) c5=some (.cells [.lit (.slice none 0 0),a,int 0,int 0,int iM,int most]):=(aa.ak _ _ fb5').trans q5;refine bk.go lay [] ?_;simp[e5,e6,q5b,htc.1,htc.2]))
     ((
       refine aU lay rfl rfl rfl kL rfl kL rfl dz (by decide) (by simp;omega) (σ0:=(σ'.set b (.cells (List.replicate sp (int 0)))).off a) (es:=rs.map fun b:Nat=>AV.gq b 0 sp sp) (xs:=[AV.gq b 0 sp sp]) (by simpa using up.here.1) (.inr ⟨_,by simp;rfl⟩) fun a' σ3 ht'=>?_
       have hta:=ht'.cells;have k3:∀ y l,(σ'.set b (.cells (List.replicate sp (int 0)))) y=some (.cells l)->σ3 y=some (.cells l):=fun y l hy=>ht'.1 _ _ (by rw[aa.mP (nta _ up y l hy)];exact hy)
       have t5:=k3 _ _ q5b;refine bk.go lay [] ?_;simp[e5,t5,hta.1,hta.2,bt];refine ab.run lay [] ?_;simp[e8,f1.1,f1.2];obtain⟨nb,zb,hb1,hb2⟩:=hbi
       have htb:Tok (σ.del c) σ3 a' 1 ((rs ++ [b]).map fun b:Nat=>AV.gq b 0 sp sp):=by
        have:=ht'.base up.here.2;simpa using this
       refine ih _ g1 ⟨_,_,a',rs ++ [b],rfl,by simp[e0],by simp[e1],by simp[e4],by simp[e5],by simp[e6],by simp[e7],by simp,⟨nb,zb,hb1,?_⟩,?_,aa.ao _ _ _,htb.beside (by simp[aa.del,n5,h85]) (fun e=>by obtain⟨_,_,q⟩:=htb.dO e;rw[t5] at q;cases q),by simp[hrl],?_,?_⟩
       . rw[aa.ak _ _ (Ne.symm n5)];exact k3 _ _ ((aa.ak _ _ (Ne.symm fbc)).trans hb2)
       . rw[aa.ak _ _ (Ne.symm n54)];exact k3 _ _ ((aa.ak _ _ (Ne.symm fb4)).trans q4)
       . rw[List.nodup_append]
         exact⟨hnd,by simp,fun x hx y hy=>by simp at hy;subst hy;exact fun e=>fbr (e ▸ hx)⟩
       . intro d hd
         rcases List.mem_append.1 hd with hd|hd
         . obtain⟨p1,p2,p3,p4,p5⟩:=hrs d hd
           have hdb:d≠b:=fun e=>fbr (e ▸ hd)
           exact⟨p1,p2,p3,p4,by rw[aa.ak _ _ p4];exact k3 _ _ ((aa.ak _ _ hdb).trans p5)⟩
         . simp at hd
           subst hd;exact⟨fb0,fbc,fb4,fb5,by rw[aa.ak _ _ fb5];exact k3 _ _ (aa.ao _ _ _)⟩))
   . ((
       refine nY lay rfl dz rfl tO rfl (by decide) rfl rfl (n:=sp) (by simp[e6]) (by simp[e6]) ⟨by omega,by omega⟩ fun b hbn=>?_
       obtain⟨fb0,fbc,fb4,fb5,fb5',fbr⟩:=fresh b hbn;have up:=htok.up (aa.fQ (x:=.cells (List.replicate sp (int 0))) (aa.le_refl _) hbn);have q5b:(σ'.set b (.cells (List.replicate sp (int 0)))) c5=some (.cells [.lit (.slice none 0 0),a,int 0,int 0,int iM,int most]):=(aa.ak _ _ fb5').trans q5;refine bk.go lay [] ?_;simp[e5,e6,q5b,htc.1,htc.2]))
     refine⟨?_,?_⟩
     . ((
         refine aU lay rfl rfl rfl kL rfl kL rfl dz (by decide) (by simp;omega) (σ0:=(σ'.set b (.cells (List.replicate sp (int 0)))).off a) (es:=rs.map fun b:Nat=>AV.gq b 0 sp sp) (xs:=[AV.gq b 0 sp sp]) (by simpa using up.here.1) (.inr ⟨_,by simp;rfl⟩) fun a' σ3 ht'=>?_
         have hta:=ht'.cells;have k3:∀ y l,(σ'.set b (.cells (List.replicate sp (int 0)))) y=some (.cells l)->σ3 y=some (.cells l):=fun y l hy=>ht'.1 _ _ (by rw[aa.mP (nta _ up y l hy)];exact hy)
         have t5:=k3 _ _ q5b;refine bk.go lay [] ?_;simp[e5,t5,hta.1,hta.2,bt];refine ab.run lay [] ?_;simp[e8,f1.1,f1.2];obtain⟨nb,zb,hb1,hb2⟩:=hbi
         have htb:Tok (σ.del c) σ3 a' 1 ((rs ++ [b]).map fun b:Nat=>AV.gq b 0 sp sp):=by
          have:=ht'.base up.here.2;simpa using this
         refine ih _ g1 ⟨_,_,a',rs ++ [b],rfl,by simp[e0],by simp[e1],by simp[e4],by simp[e5],by simp[e6],by simp[e7],by simp,⟨nb,zb,hb1,?_⟩,?_,aa.ao _ _ _,htb.beside (by simp[aa.del,n5,h85]) (fun e=>by obtain⟨_,_,q⟩:=htb.dO e;rw[t5] at q;cases q),by simp[hrl],?_,?_⟩
         . rw[aa.ak _ _ (Ne.symm n5)];exact k3 _ _ ((aa.ak _ _ (Ne.symm fbc)).trans hb2)
         . rw[aa.ak _ _ (Ne.symm n54)];exact k3 _ _ ((aa.ak _ _ (Ne.symm fb4)).trans q4)
         . rw[List.nodup_append]
           exact⟨hnd,by simp,fun x hx y hy=>by simp at hy;subst hy;exact fun e=>fbr (e ▸ hx)⟩
         . intro d hd
           rcases List.mem_append.1 hd with hd|hd
           . obtain⟨p1,p2,p3,p4,p5⟩:=hrs d hd
             have hdb:d≠b:=fun e=>fbr (e ▸ hd)
             exact⟨p1,p2,p3,p4,by rw[aa.ak _ _ p4];exact k3 _ _ ((aa.ak _ _ hdb).trans p5)⟩
           . simp at hd
             subst hd;exact⟨fb0,fbc,fb4,fb5,by rw[aa.ak _ _ fb5];exact k3 _ _ (aa.ao _ _ _)⟩))
     . ((
         refine aU lay rfl rfl rfl kL rfl kL rfl dz (by decide) (by simp;omega) (σ0:=(σ'.set b (.cells (List.replicate sp (int 0)))).off a) (es:=rs.map fun b:Nat=>AV.gq b 0 sp sp) (xs:=[AV.gq b 0 sp sp]) (by simpa using up.here.1) (.inr ⟨_,by simp;rfl⟩) fun a' σ3 ht'=>?_
         have hta:=ht'.cells;have k3:∀ y l,(σ'.set b (.cells (List.replicate sp (int 0)))) y=some (.cells l)->σ3 y=some (.cells l):=fun y l hy=>ht'.1 _ _ (by rw[aa.mP (nta _ up y l hy)];exact hy)
         have t5:=k3 _ _ q5b;refine bk.go lay [] ?_;simp[e5,t5,hta.1,hta.2,bt];refine ab.run lay [] ?_;simp[e8,f1.1,f1.2];obtain⟨nb,zb,hb1,hb2⟩:=hbi
         have htb:Tok (σ.del c) σ3 a' 1 ((rs ++ [b]).map fun b:Nat=>AV.gq b 0 sp sp):=by
          have:=ht'.base up.here.2;simpa using this
         refine ih _ g1 ⟨_,_,a',rs ++ [b],rfl,by simp[e0],by simp[e1],by simp[e4],by simp[e5],by simp[e6],by simp[e7],by simp,⟨nb,zb,hb1,?_⟩,?_,aa.ao _ _ _,htb.beside (by simp[aa.del,n5,h85]) (fun e=>by obtain⟨_,_,q⟩:=htb.dO e;rw[t5] at q;cases q),by simp[hrl],?_,?_⟩
         . rw[aa.ak _ _ (Ne.symm n5)];exact k3 _ _ ((aa.ak _ _ (Ne.symm fbc)).trans hb2)
         . rw[aa.ak _ _ (Ne.symm n54)];exact k3 _ _ ((aa.ak _ _ (Ne.symm fb4)).trans q4)
         . rw[List.nodup_append]
           exact⟨hnd,by simp,fun x hx y hy=>by simp at hy;subst hy;exact fun e=>fbr (e ▸ hx)⟩
         . intro d hd
           rcases List.mem_append.1 hd with hd|hd
           . obtain⟨p1,p2,p3,p4,p5⟩:=hrs d hd
             have hdb:d≠b:=fun e=>fbr (e ▸ hd)
             exact⟨p1,p2,p3,p4,by rw[aa.ak _ _ p4];exact k3 _ _ ((aa.ak _ _ hdb).trans p5)⟩
           . simp at hd
             subst hd;exact⟨fb0,fbc,fb4,fb5,by rw[aa.ak _ _ fb5];exact k3 _ _ (aa.ao _ _ _)⟩))
 . have hi':sp=i:=by omega
   subst hi';clear ih hbag4 h45 h44 hle4
   obtain⟨spr,rfl⟩:∃ spr,a = .sl 1 (rs.map fun b:Nat=>AV.gq b 0 sp sp) spr:=by
    rcases htok.2 with ⟨_,e⟩|e|⟨_,_,_,e,_⟩
    . have:=congrArg List.length e
      rw[List.length_map] at this;simp only[List.length_nil] at this;omega
    . exact⟨_,e⟩
    . exact⟨_,e⟩
   have hle:=htok.1;clear htok
   have hrb:∀ (j:Nat) (hj:j<rs.length),σ rs[j]=none∧rs[j]≠c∧rs[j]≠c4∧rs[j]≠c5:=fun j hj=>by
    obtain⟨p1,p2,p3,p4,_⟩:=hrs _ (List.getElem_mem hj);exact⟨p1,p2,p3,p4⟩
   refine ab.run lay [] ?_;simp[e0,e1,e4,e5,e6,e7,e8]
   have hcells:∀ (j:Nat) (hj:j<rs.length),σ' rs[j]=some (.cells (((List.replicate sp (List.replicate sp (0:Int))).getD j []).map int)):=fun j hj=>by
    rw[(hrs _ (List.getElem_mem hj)).2.2.2.2];simp[List.getD_eq_getElem?_getD,show j<sp by omega]
   clear hrs
   refine ab.loop sp (fun i s => ∃ env σ' M,s=⟨env,σ',[],.no⟩∧env 0 = .ref c 0∧env 1=int cnt∧env 4 = .ref c4 0∧env 5 = .ref c5 0∧env 6=int sp∧env 7=int lo∧env 9=int i∧dJ c nums (k+4+3*i) σ'∧σ' c4=some (.cells jH)∧σ' c5=some (.cells [.lit (.slice none 0 0),.sl 1 (rs.map fun b:Nat=>AV.gq b 0 sp sp) spr,int 0,int 0,int iM,int most]) ∧
    (σ.del c).Le σ'∧Aa sp lo i 0 M∧∀ (j:Nat) (hj:j<rs.length),σ' rs[j]=some (.cells ((M.getD j []).map int))) ⟨_,σ',_,rfl,by simp[e0],by simp[e1],by simp[e4],by simp[e5],by simp[e6],by simp[e7],by simp,hbi,q4,q5,hle,Aa.start sp lo,hcells⟩ ?_
   clear e0 e1 e4 e5 e6 e7 e8 hbi q4 q5 hle hcells
   rintro c1 i _ hi2 ⟨env,σ',M,rfl,e0,e1,e4,e5,e6,e7,e9,hbi,q4,q5,hle,hM,hcells⟩ ih
   rcases Nat.lt_or_ge i sp with g2|g2
   . have xK:(i:Int)<sp:=by omega
     refine ab.run lay [] ?_;simp[e0,e1,e4,e5,e6,e7,e9,xK]
     refine ab.loop i (fun j s => ∃ env σ' M,s=⟨env,σ',[],.no⟩∧env 0 = .ref c 0∧env 1=int cnt∧env 4 = .ref c4 0∧env 5 = .ref c5 0∧env 6=int sp∧env 7=int lo∧env 9=int i∧env 10=int j∧dJ c nums (k+4+3*i+j) σ'∧σ' c4=some (.cells jH)∧σ' c5=some (.cells [.lit (.slice none 0 0),.sl 1 (rs.map fun b:Nat=>AV.gq b 0 sp sp) spr,int 0,int 0,int iM,int most]) ∧
      (σ.del c).Le σ'∧Aa sp lo i j M∧∀ (j:Nat) (hj:j<rs.length),σ' rs[j]=some (.cells ((M.getD j []).map int))) ⟨_,σ',M,rfl,by simp[e0],by simp[e1],by simp[e4],by simp[e5],by simp[e6],by simp[e7],by simp[e9],by simp,hbi,q4,q5,hle,hM,hcells⟩ ?_
     clear e0 e1 e4 e5 e6 e7 e9 hbi q4 q5 hle hM hcells
     rintro c2 j _ hj ⟨env,σ',M,rfl,e0,e1,e4,e5,e6,e7,e9,ew,hbi,q4,q5,hle,hM,hcells⟩ ih2
     rcases Nat.lt_or_ge j i with g3|g3
     . have xL:(j:Int)<i:=by omega
       have f1 : -9223372036854775808≤(j:Int)+1∧(j:Int)+1≤9223372036854775807:=by omega
       have f2 : -9223372036854775808≤2*lo∧2*lo≤9223372036854775807:=by omega
       refine ab.run lay [] ?_;simp[e0,e1,e4,e5,e6,e7,e9,ew,xL,f2.1,f2.2];refine ap Tryz.func13 rfl rfl (od (by omega) hn ⟨by omega,by omega⟩ ⟨by omega,by omega⟩ hbi fun v σ2 hv hd=>?_)
       have s5:σ2 c5=some (.cells [.lit (.slice none 0 0),.sl 1 (rs.map fun b:Nat=>AV.gq b 0 sp sp) spr,int 0,int 0,int iM,int most]):=by rw[hd.2 c5 n5];exact q5
       have s4:σ2 c4=some (.cells jH):=by rw[hd.2 c4 n45];exact q4
       have hrl':i<rs.length:=by omega
       have hrl2:j<rs.length:=by omega
       obtain⟨z1,z2,z3,z4⟩:=hrb i hrl';obtain⟨y1,y2,y3,y4⟩:=hrb j hrl2;have si:σ2 rs[i]=some (.cells ((M.getD i []).map int)):=by rw[hd.2 _ z2];exact hcells i hrl'
       have sj:σ2 rs[j]=some (.cells ((M.getD j []).map int)):=by rw[hd.2 _ y2];exact hcells j hrl2
       have hij:rs[i]≠rs[j]:=oi hnd (by omega)
       have hij':=Ne.symm hij;obtain⟨Ri,hRi⟩:∃ R,R=M.getD i []:=⟨_,rfl⟩;obtain⟨Rj,hRj⟩:∃ R,R=M.getD j []:=⟨_,rfl⟩;have li:=hM.row i (by omega)
       have lj:=hM.row j (by omega)
       rw[← hRi] at si li;rw[← hRj] at sj lj;have hli:j+1≤sp:=by omega
       have hlj:i+1≤sp:=by omega
       have g4:j<sp:=by omega
       have g4':(j:Int)<sp:=by omega
       have g2'':(i:Int)<sp:=by omega
       have hF : ∀ σ3,σ3=(σ2.set rs[i] (.cells ((Ri.map int).set j (int v)))).set rs[j] (.cells ((Rj.map int).set i (int v)))->dJ c nums (k+4+3*i+(j+1)) σ3∧σ3 c4=some (.cells jH)∧σ3 c5=some (.cells [.lit (.slice none 0 0),.sl 1 (rs.map fun b:Nat=>AV.gq b 0 sp sp) spr,int 0,int 0,int iM,int most])∧(σ.del c).Le σ3∧∀ (l:Nat) (hl:l<rs.length),σ3 rs[l]=some (.cells (((sO M i j v).getD l []).map int)):=fun σ3 e3=>by
        subst e3;refine⟨?_,?_,?_,fun y x hy=>?_,fun l hl=>?_⟩
        . obtain⟨nb,zb,hb1,hb2⟩:=hd.1
          exact⟨nb,zb,by omega,by rw[aa.ak _ _ (Ne.symm y2),aa.ak _ _ (Ne.symm z2)];exact hb2⟩
        . rw[aa.ak _ _ (Ne.symm y3),aa.ak _ _ (Ne.symm z3)];exact s4
        . rw[aa.ak _ _ (Ne.symm y4),aa.ak _ _ (Ne.symm z4)];exact s5
        . have w1:y≠c:=fun e=>by subst e;simp[aa.del] at hy
          have w0:σ y=some x:=by simpa[aa.del,w1] using hy
          have w2:y≠rs[i]:=fun e=>by rw[e,z1] at w0;cases w0
          have w3:y≠rs[j]:=fun e=>by rw[e,y1] at w0;cases w0
          rw[aa.ak _ _ w3,aa.ak _ _ w2,hd.2 y w1];exact hle y x hy
        . rw [uf (by rw[hM.len];omega) (by rw[hM.len];omega) (by omega),← hRi,← hRj]
          by_cases q1:l=j
          . subst q1
            rw[if_pos rfl,aa.ao,List.map_set]
          . rw[if_neg q1,aa.ak _ _ (oi hnd q1)]
            by_cases q2:l=i
            . subst q2
              rw[if_pos rfl,aa.ao,List.map_set]
            . rw[if_neg q2,aa.ak _ _ (oi hnd q2),hd.2 _ (hrb l hl).2.1]
              exact hcells l hl
       have hF':=hF _ rfl;clear hF;refine ab.run lay [] ?_;simp[e0,e1,e4,e5,e6,e7,e9,ew,s5,hrl,g2,g4,g4',g2'',hli,hlj,li,lj,si,sj,aa.ak,hij,hij'];refine⟨?_,?_⟩
       . refine ab.run lay [] ?_
         simp[e0,e1,e4,e5,e6,e7,e9,ew,f1.1,f1.2];exact ih2 _ g3 ⟨_,_,sO M i j v,rfl,by simp[e0,e1,e4,e5,e6,e7,e9,ew],by simp[e0,e1,e4,e5,e6,e7,e9,ew],by simp[e0,e1,e4,e5,e6,e7,e9,ew],by simp[e0,e1,e4,e5,e6,e7,e9,ew],by simp[e0,e1,e4,e5,e6,e7,e9,ew],by simp[e0,e1,e4,e5,e6,e7,e9,ew],by simp[e0,e1,e4,e5,e6,e7,e9,ew],by simp[e0,e1,e4,e5,e6,e7,e9,ew],hF'.1,hF'.2.1,hF'.2.2.1,hF'.2.2.2.1,hM.next (by omega) g3 ⟨hv.1,by omega⟩,hF'.2.2.2.2⟩
       . refine ab.run lay [] ?_
         simp[e0,e1,e4,e5,e6,e7,e9,ew,f1.1,f1.2];exact ih2 _ g3 ⟨_,_,sO M i j v,rfl,by simp[e0,e1,e4,e5,e6,e7,e9,ew],by simp[e0,e1,e4,e5,e6,e7,e9,ew],by simp[e0,e1,e4,e5,e6,e7,e9,ew],by simp[e0,e1,e4,e5,e6,e7,e9,ew],by simp[e0,e1,e4,e5,e6,e7,e9,ew],by simp[e0,e1,e4,e5,e6,e7,e9,ew],by simp[e0,e1,e4,e5,e6,e7,e9,ew],by simp[e0,e1,e4,e5,e6,e7,e9,ew],hF'.1,hF'.2.1,hF'.2.2.1,hF'.2.2.2.1,hM.next (by omega) g3 ⟨hv.1,by omega⟩,hF'.2.2.2.2⟩
     . have hji:i=j:=by omega
       subst hji;have f1 : -9223372036854775808≤(i:Int)+1∧(i:Int)+1≤9223372036854775807:=by omega
       refine ab.run lay [] ?_;simp[e0,e1,e4,e5,e6,e7,e9,ew,f1.1,f1.2];exact ih _ g2 ⟨_,_,M,rfl,by simp[e0,e1,e4,e5,e6,e7,e9,ew],by simp[e0,e1,e4,e5,e6,e7,e9,ew],by simp[e0,e1,e4,e5,e6,e7,e9,ew],by simp[e0,e1,e4,e5,e6,e7,e9,ew],by simp[e0,e1,e4,e5,e6,e7,e9,ew],by simp[e0,e1,e4,e5,e6,e7,e9,ew],by simp[e0,e1,e4,e5,e6,e7,e9,ew],hbi.mono (by omega),q4,q5,hle,hM.line,hcells⟩
   . have hi3:sp=i:=by omega
     subst hi3;clear ih;have hMl:∀ l,l<rs.length->(M.getD l []).length=sp:=fun l hl=>hM.row l (by omega)
     have hc5:c5 ∉ rs:=fun e=>by
      obtain⟨l,hl,e'⟩:=List.mem_iff_getElem.1 e;exact (hrb l hl).2.2.2 e'
     have hrows0:rs.map (fun b:Nat=>AV.gq b 0 sp sp)=fh rs M sp 0:=by
      apply List.ext_getElem?;intro l
      by_cases hl:l<rs.length
      . rw[kP hl,if_neg (by omega),List.getElem?_map,List.getElem?_eq_getElem hl]
        simp[List.getD_eq_getElem?_getD,hl]
      . rw[List.getElem?_eq_none (by rw[List.length_map];omega),List.getElem?_eq_none (by rw[kO];omega)]
     have hrows1:fh rs M sp rs.length=M.map ints:=by
      have hML:=hM.len;apply List.ext_getElem?;intro l
      by_cases hl:l<rs.length
      . have hlM:l<M.length:=by omega
        rw[kP hl,if_pos hl,List.getElem?_map,List.getElem?_eq_getElem hlM];simp[List.getD_eq_getElem?_getD,hlM]
      . rw[List.getElem?_eq_none (by rw[kO];omega),List.getElem?_eq_none (by rw[List.length_map];omega)]
     rw[hrows0] at q5;refine xy (d:=c5) (n:=sp) (at_:=1) (rs:=rs) (M:=M) (cs:=[.lit (.slice none 0 0),.aO,int 0,int 0,int iM,int most]) (spr:=spr) σ' hnd hMl (by simp) hc5 (fun σ3 h31 h32=>?_) rs.length 0 (by omega) σ' (by simpa using q5) (fun l hl _=>hcells l hl) (fun _ _ _=>rfl)
     rw[hrows1] at h31;have hRok:=hM.fin;have hML:=hM.len
     have k3:∀ (j:Nat),j≠c5->(∀ (l:Nat) (hl:l<rs.length),rs[l]≠j)->σ3 j=σ' j:=fun j h1 h2=>h32 j h1 fun e=>by
      obtain⟨l,hl,e'⟩:=List.mem_iff_getElem.1 e;exact h2 l hl e'
     have s3c:dJ c nums (k+4+3*sp) σ3:=by
      obtain⟨nb,zb,hb1,hb2⟩:=hbi;exact⟨nb,zb,hb1,by rw[k3 c (Ne.symm n5) (fun l hl=>(hrb l hl).2.1)];exact hb2⟩
     have s34:σ3 c4=some (.cells jH):=by rw[k3 c4 (Ne.symm n54) (fun l hl=>(hrb l hl).2.2.1)];exact q4
     have s35:σ3 c5=some (.cells [.lit (.slice none 0 0),.sl 1 (M.map ints) spr,int 0,int 0,int iM,int most]):=by simpa using h31
     have hle3:(σ.del c).Le σ3:=fun y x hy=>by
      have w1:y≠c:=fun e=>by subst e;simp[aa.del] at hy
      have w0:σ y=some x:=by simpa[aa.del,w1] using hy
      rw[k3 y (fun e=>by subst e;rw[h85] at w0;cases w0) (fun l hl e=>by subst e;rw[(hrb l hl).1] at w0;cases w0)]
      exact hle y x hy
     clear h31 h32 hcells hrows0 hrows1 hbi q4 q5 hle hM hMl hc5 k3 hrb hnd hrl;refine ab.run lay [] ?_;simp[e0,e1,e4,e5,e6,e7,e9];refine ap Tryz.func12 rfl rfl (gS (by omega) hn ⟨by omega,by omega⟩ s3c fun fr σ4 hx5 hd5=>?_)
     refine ab.run lay [] ?_;simp[e0,e1,e4,e5,e6,e7,e9];refine ap Tryz.func13 rfl rfl (od (by omega) hn ⟨by omega,by omega⟩ ⟨by omega,by omega⟩ hd5.1 fun to σ5 hx6 hd6=>?_)
     have t5:σ5 c5=some (.cells [.lit (.slice none 0 0),.sl 1 (M.map ints) spr,int 0,int 0,int iM,int most]):=by rw[hd6.2 c5 n5,hd5.2 c5 n5];exact s35
     refine ab.run lay [] ?_;simp[e0,e1,e4,e5,e6,e7,e9,t5,bt];have t4:σ5 c4=some (.cells jH):=by rw[hd6.2 c4 n45,hd5.2 c4 n45];exact s34
     have hle5:(σ.del c).Le σ5:=fun y x hy=>by
      have w1:y≠c:=fun e=>by subst e;simp[aa.del] at hy
      rw[hd6.2 y w1,hd5.2 y w1];exact hle3 y x hy
     have hb6:∀ x,dJ c nums (k+6+3*sp) (σ5.set c5 x):=fun x=>by
      obtain⟨n,z,h1,h2⟩:=hd6.1;exact⟨n,z,by omega,by rw[aa.ak _ _ (Ne.symm n5)];exact h2⟩
     refine ap Tryz.func12 rfl rfl (gS (by omega) hn ⟨by omega,by omega⟩ (hb6 _) fun q σ6 hx7 hd7=>?_)
     refine ab.run lay [] ?_;simp[e0,e1,e4,e5,e6,e7,e9];have u5:σ6 c5=some (.cells [.lit (.slice none 0 0),.sl 1 (M.map ints) spr,int fr,int to,int iM,int most]):=by rw[hd7.2 c5 n5,aa.ao]
     have u4:σ6 c4=some (.cells jH):=by rw[hd7.2 c4 n45,aa.ak _ _ (Ne.symm n54)];exact t4
     have hle6:(σ.del c).Le σ6:=fun y x hy=>by
      have w1:y≠c:=fun e=>by subst e;simp[aa.del] at hy
      have w0:σ y=some x:=by simpa[aa.del,w1] using hy
      rw[hd7.2 y w1,aa.ak _ _ (fun e=>by subst e;rw[h85] at w0;cases w0)];exact hle5 y x hy
     obtain⟨qn,rfl⟩:∃ qn:Nat,q=(qn:Int):=⟨q.toNat,by omega⟩
     have hqn:(qn:Int)≤cnt:=by omega
     have hbj0:=hd7.1;clear hd5 hd6 hd7 hb6 s3c s34 s35 hle3 hle5 t5 t4
     refine ab.loop qn (fun i s => ∃ env σ' a es,s=⟨env,σ',[],.no⟩∧env 0 = .ref c 0∧env 4 = .ref c4 0∧env 5 = .ref c5 0∧env 6=int sp∧env 13=int ((qn:Int)-i)∧dJ c nums (k+7+3*sp+11*i) σ'∧σ' c4=some (.cells jH)∧σ' c5=some (.cells [a,.sl 1 (M.map ints) spr,int fr,int to,int iM,int most]) ∧
      Tok (σ.del c) σ' a 6 (es.map gM)∧es.length=i∧∀ e∈es,ub sp e) ⟨_,σ6,.lit (.slice none 0 0),[],rfl,by simp[e0],by simp[e4],by simp[e5],by simp[e6],by simp,hbj0.mono (by omega),u4,u5,⟨hle6,.inl ⟨rfl,rfl⟩⟩,rfl,by simp⟩ ?_
     clear e0 e1 e4 e5 e6 e7 e9 hbj0 u4 u5 hle6
     rintro c3 i _ hi4 ⟨env,σ',a,es,rfl,e0,e4,e5,e6,e13,hbj,q4,q5,htok,hel,hes⟩ ih
     have htc:=htok.cells;have nta2:∀ σx:aa,Tok (σ.del c) σx a 6 (es.map gM)->∀ y l,σx y=some (.cells l)->gF a≠some y:=fun σx hx y l hy e=>by obtain⟨_,_,q⟩:=hx.dO e;rw[hy] at q;cases q
     have hbc:∃ l,σ' c=some (.cells l):=by obtain⟨_,_,_,q⟩:=hbj;exact⟨_,q⟩
     rcases Nat.lt_or_ge i qn with g1|g1
     . have f1 : -9223372036854775808≤(qn:Int)-i-1∧(qn:Int)-i-1≤9223372036854775807:=by omega
       refine ab.run lay [] ?_;simp[e0,e4,e5,e6,e13,q5,htc.1,htc.2,g1];refine⟨?_,?_⟩
       . ((
           refine ap Tryz.func31 rfl rfl (r7 (by omega) hn ⟨by omega,by omega⟩ hbj fun e σ2 he hd=>?_)
           have s5:σ2 c5=some (.cells [a,.sl 1 (M.map ints) spr,int fr,int to,int iM,int most]):=by rw[hd.2 c5 n5];exact q5
           have s4:σ2 c4=some (.cells jH):=by rw[hd.2 c4 n45];exact q4
           have htk:Tok (σ.del c) σ2 a 6 (es.map gM):=vD htok (by simp[aa.del]) hbc hd.2
           refine bk.go lay [] ?_;simp[e5,s5,htc.1,htc.2]))
         ((
           refine aU lay rfl rfl rfl vo rfl vo rfl DO (by decide) (by simp;omega) (σ0:=σ2.off a) (es:=es.map gM) (xs:=[gM e]) (by simpa using htk.here.1) (.inr ⟨_,by simp;rfl⟩) fun a' σ3 ht'=>?_
           have hta:=ht'.cells;have k3:∀ y l,σ2 y=some (.cells l)->σ3 y=some (.cells l):=fun y l hy=>ht'.1 _ _ (by rw[aa.mP (nta2 _ htk y l hy)];exact hy)
           have t5:=k3 _ _ s5;have t4:=k3 _ _ s4;refine bk.go lay [] ?_;simp[e5,t5,hta.1,hta.2,bt];refine ab.run lay [] ?_;simp[e13,f1.1,f1.2];obtain⟨nb,zb,hb1,hb2⟩:=hd.1
           have htb:Tok (σ.del c) σ3 a' 6 ((es ++ [e]).map gM):=by
            have:=ht'.base htk.here.2;simpa using this
           refine ih _ g1 ⟨_,_,a',es ++ [e],rfl,by simp[e0],by simp[e4],by simp[e5],by simp[e6],by simp;omega,⟨nb,zb,by omega,?_⟩,?_,aa.ao _ _ _,htb.beside (by simp[aa.del,n5,h85]) (fun e=>by obtain⟨_,_,q⟩:=htb.dO e;rw[t5] at q;cases q),by simp[hel],?_⟩
           . rw[aa.ak _ _ (Ne.symm n5)];exact k3 _ _ hb2
           . rw[aa.ak _ _ (Ne.symm n54)];exact t4
           . intro x hx
             rcases List.mem_append.1 hx with hx|hx
             . exact hes x hx
             . simp at hx;subst hx;exact he))
       . ((
           refine ap Tryz.func31 rfl rfl (r7 (by omega) hn ⟨by omega,by omega⟩ hbj fun e σ2 he hd=>?_)
           have s5:σ2 c5=some (.cells [a,.sl 1 (M.map ints) spr,int fr,int to,int iM,int most]):=by rw[hd.2 c5 n5];exact q5
           have s4:σ2 c4=some (.cells jH):=by rw[hd.2 c4 n45];exact q4
           have htk:Tok (σ.del c) σ2 a 6 (es.map gM):=vD htok (by simp[aa.del]) hbc hd.2
           refine bk.go lay [] ?_;simp[e5,s5,htc.1,htc.2]))
         refine⟨?_,?_⟩
         . ((
             refine aU lay rfl rfl rfl vo rfl vo rfl DO (by decide) (by simp;omega) (σ0:=σ2.off a) (es:=es.map gM) (xs:=[gM e]) (by simpa using htk.here.1) (.inr ⟨_,by simp;rfl⟩) fun a' σ3 ht'=>?_
             have hta:=ht'.cells;have k3:∀ y l,σ2 y=some (.cells l)->σ3 y=some (.cells l):=fun y l hy=>ht'.1 _ _ (by rw[aa.mP (nta2 _ htk y l hy)];exact hy)
             have t5:=k3 _ _ s5;have t4:=k3 _ _ s4;refine bk.go lay [] ?_;simp[e5,t5,hta.1,hta.2,bt];refine ab.run lay [] ?_;simp[e13,f1.1,f1.2];obtain⟨nb,zb,hb1,hb2⟩:=hd.1
             have htb:Tok (σ.del c) σ3 a' 6 ((es ++ [e]).map gM):=by
              have:=ht'.base htk.here.2;simpa using this
             refine ih _ g1 ⟨_,_,a',es ++ [e],rfl,by simp[e0],by simp[e4],by simp[e5],by simp[e6],by simp;omega,⟨nb,zb,by omega,?_⟩,?_,aa.ao _ _ _,htb.beside (by simp[aa.del,n5,h85]) (fun e=>by obtain⟨_,_,q⟩:=htb.dO e;rw[t5] at q;cases q),by simp[hel],?_⟩
             . rw[aa.ak _ _ (Ne.symm n5)];exact k3 _ _ hb2
             . rw[aa.ak _ _ (Ne.symm n54)];exact t4
             . intro x hx
               rcases List.mem_append.1 hx with hx|hx
               . exact hes x hx
               . simp at hx;subst hx;exact he))
         . ((
             refine aU lay rfl rfl rfl vo rfl vo rfl DO (by decide) (by simp;omega) (σ0:=σ2.off a) (es:=es.map gM) (xs:=[gM e]) (by simpa using htk.here.1) (.inr ⟨_,by simp;rfl⟩) fun a' σ3 ht'=>?_
             have hta:=ht'.cells;have k3:∀ y l,σ2 y=some (.cells l)->σ3 y=some (.cells l):=fun y l hy=>ht'.1 _ _ (by rw[aa.mP (nta2 _ htk y l hy)];exact hy)
             have t5:=k3 _ _ s5;have t4:=k3 _ _ s4;refine bk.go lay [] ?_;simp[e5,t5,hta.1,hta.2,bt];refine ab.run lay [] ?_;simp[e13,f1.1,f1.2];obtain⟨nb,zb,hb1,hb2⟩:=hd.1
             have htb:Tok (σ.del c) σ3 a' 6 ((es ++ [e]).map gM):=by
              have:=ht'.base htk.here.2;simpa using this
             refine ih _ g1 ⟨_,_,a',es ++ [e],rfl,by simp[e0],by simp[e4],by simp[e5],by simp[e6],by simp;omega,⟨nb,zb,by omega,?_⟩,?_,aa.ao _ _ _,htb.beside (by simp[aa.del,n5,h85]) (fun e=>by obtain⟨_,_,q⟩:=htb.dO e;rw[t5] at q;cases q),by simp[hel],?_⟩
             . rw[aa.ak _ _ (Ne.symm n5)];exact k3 _ _ hb2
             . rw[aa.ak _ _ (Ne.symm n54)];exact t4
             . intro x hx
               rcases List.mem_append.1 hx with hx|hx
               . exact hes x hx
               . simp at hx;subst hx;exact he))
     . have hiq:i=qn:=by omega
       subst hiq;refine ab.run lay [] ?_;simp[e0,e4,e5,e6,e13,q5,htc.1,htc.2,q4,bt];obtain⟨nb,zb,hb1,hb2⟩:=hbj;obtain⟨f,hf⟩:∃ f:Fr,f=⟨es,M,fr,to,iM,most⟩:=⟨_,rfl⟩
       have hOK:pj cnt f:=by
        subst hf;refine⟨hdye,hmost,by show 1≤M.length∧M.length≤3;omega,⟨lo,hlo,by show og M.length lo M;rw[hML];exact hRok⟩,by show 0≤fr∧fr≤2;omega,by show fr≤to∧to≤2;omega,by show (es.length:Int)≤cnt;omega,fun e he=>?_⟩
        show ub M.length e;rw[hML];exact hes e he
       refine .nu (a':=bg f) (vz (by subst hf;rfl) fun i x y x1 x2=>?_) (.less (σ':=σ.set c (.cells [ints nums,int nb,.lit (.int .u64 zb)])) (fun y x hy=>?_) (.done (h f _ hOK ⟨⟨nb,zb,by omega,aa.ao _ _ _⟩,fun y hy=>aa.ak _ _ hy⟩)))
       . subst hf
         match i with
         | 0=>simp at x1 x2;subst x1;subst x2;exact htok.W
         | 1=>simp at x1 x2;subst x1;subst x2;exact fq 1 _ spr
         | 2=>simp at x1 x2;subst x1;subst x2;exact .refl _
         | 3=>simp at x1 x2;subst x1;subst x2;exact .refl _
         | 4=>simp at x1 x2;subst x1;subst x2;exact .refl _
         | 5=>simp at x1 x2;subst x1;subst x2;exact .refl _
         | i+6=>simp at x1
       . by_cases y1:y=c
         . subst y1
           rw[aa.ao] at hy;rw[aa.ak _ _ n4,hb2];exact hy
         . rw[aa.ak _ _ y1] at hy
           have y4:y≠c4:=fun e=>by subst e;rw[h4] at hy;cases hy
           rw[aa.ak _ _ y4];exact htok.1 y x (by simpa[aa.del,y1] using hy)
end
end Go.Proofs.YtelgggdkahhhfaaGreatDoor
namespace Go.Proofs.YtelgggdkahhhfaaGreatDoor
open Go.aZ Go.Conc
set_option maxHeartbeats 2000000
set_option maxRecDepth 4000
structure L5 (n:Int) (i:Nat) (l:List Int):Prop where
 len:l.length=i
 mem:∀ x∈l,0≤x∧x<n
 OG:∀ a b,a<b->b<i->l.getD a 0<l.getD b 0
def Fm (f:Fr) (l:List Int):List Int:=(ci f (bR f (l.getD 0 0))).filter fun h=>l.all fun j=>decide (h∈ci f (bR f j))
theorem xz {f:Fr} {l:List Int} (hl:l≠[]):c8 f l=Fm f l:=by
 match l,hl with
 | a :: r,_=>
   simp only[c8,Fm,eT,List.map_cons,List.getD_cons_zero];refine List.filter_congr fun x hx=>?_
   simp[hx,List.all_eq_true]
theorem ol (f:Fr):∀ (l:List Int) (p:Option Int),(∀ x∈l,0≤x∧x<f.aB.length)->l.Pairwise (· < ·)->(∀ q,p=some q->∀ x∈l,q<x)->eZ f p l=0
 | [],_,_,_,_=>rfl
 | a :: l,p,h1,h2,h3=>by
   have ha:=h1 a (by simp)
   have h2':=List.pairwise_cons.1 h2
   have e1:dD a 0 (f.aB.length-1)=true:=by
    simp[dD,ha.1];omega
   have e2:mC p a=false:=by
    cases p with
    | none=>rfl
    | some q=>
      have:=h3 q rfl a (by simp)
      simp[mC];omega
   unfold eZ;rw[e1,if_neg (by simp),e2,if_neg (by simp)]
   exact ol f l (some a) (fun x hx=>h1 x (by simp[hx])) h2'.2 (fun q hq x hx=>by cases hq;exact h2'.1 x hx)
theorem L5.pw {n:Int} {i:Nat} {l:List Int} (h:L5 n i l):l.Pairwise (· < ·):=by
 rw[List.pairwise_iff_getElem];intro a b ha hb hab;have:=h.OG a b hab (by rw[← h.len];exact hb)
 simpa[List.getD_eq_getElem?_getD,ha,hb] using this
theorem GX {f:Fr} {n:Nat} {l:List Int} (h:L5 f.aB.length n l) (hn:1≤n∧n≤6):GF f l:=by
 have hl:=h.len;refine⟨?_,by omega⟩
 unfold o6;rw[if_neg (by omega)]
 exact ol f l none h.mem h.pw (fun q hq=>by cases hq)
end Go.Proofs.YtelgggdkahhhfaaGreatDoor
namespace Go.Proofs.YtelgggdkahhhfaaGreatDoor
open Go.aZ Go.Conc
set_option maxHeartbeats 1000000
set_option maxRecDepth 4000
section
variable {k:Int->Int}
abbrev vM (k:Int->Int):Int->Int->Bool:=fun a b=>decide (k a<k b)
def Dn (k:Int->Int) (r:List Int):Prop:=r.Pairwise fun y z=>k z≤k y
theorem Fo (x:Int):∀ {r:List Int},(∀ z∈r,k z≤k x)->dF (vM k) x r=x :: r
 | [],_=>rfl
 | y :: r,h=>by
   unfold dF;rw[if_neg (by have:=h y (by simp);simp[vM];omega)]
theorem ug (x:Int):∀ {r:List Int} {z:Int},z∈dF (vM k) x r->z=x∨z∈r
 | [],z,h=>by simp[dF] at h;exact .inl h
 | y :: r,z,h=>by
   unfold dF at h;split at h
   . rcases List.mem_cons.1 h with rfl|h
     . exact .inr (by simp)
     . rcases ug x h with h|h
       . exact .inl h
       . exact .inr (by simp[h])
   . rcases List.mem_cons.1 h with rfl|h
     . exact .inl rfl
     . exact .inr h
theorem vE (x:Int):∀ {r:List Int},Dn k r->Dn k (dF (vM k) x r)
 | [],_=>by simp[dF,Dn]
 | y :: r,h=>by
   obtain⟨h1,h2⟩:=List.pairwise_cons.1 h;unfold dF;split
   . next q=>
     have q':k x<k y:=by simpa[vM] using q
     refine List.pairwise_cons.2 ⟨fun z hz=>?_,vE x h2⟩
     rcases ug x hz with rfl|hz
     . omega
     . exact h1 z hz
   . next q=>
     have q' : ¬ k x<k y:=by simpa[vM] using q
     refine List.pairwise_cons.2 ⟨fun z hz=>?_,h⟩
     rcases List.mem_cons.1 hz with rfl|hz
     . omega
     . have:=h1 z hz;omega
theorem vF {x y:Int} {r:List Int} (h:k x<k y):dF (vM k) x (y :: r)=y :: dF (vM k) x r:=by simp[dF,vM,h]
theorem vG {x y:Int} {r:List Int} (h : ¬ k x<k y):dF (vM k) x (y :: r)=x :: y :: r:=by simp[dF,vM,h]
theorem xA (x:Int):∀ r:List Int,r.Sublist (dF (vM k) x r)
 | []=>List.nil_sublist _
 | y :: r=>by
   unfold dF;split
   . exact (xA x r).cons_cons y
   . exact (List.Sublist.refl _).cons x
theorem Fp (x:Int) {r' r:List Int} (hs:r'.Sublist r) (hd:Dn k r):(dF (vM k) x r').Sublist (dF (vM k) x r):=by
 induction hs with
 | slnil=>exact List.Sublist.refl _
 | cons y hs ih=>
   obtain⟨h1,h2⟩:=List.pairwise_cons.1 hd
   by_cases q:k x<k y
   . rw[vF q]
     exact (ih h2).cons y
   . rw[vG q,Fo x (fun z hz=>by have:=h1 z (hs.subset hz);omega)]
     exact (hs.cons y).cons_cons x
 | cons_cons y hs ih=>
   obtain⟨h1,h2⟩:=List.pairwise_cons.1 hd
   by_cases q:k x<k y
   . rw[vF q,vF q]
     exact (ih h2).cons_cons y
   . rw[vG q,vG q]
     exact (hs.cons_cons y).cons_cons x
theorem B5 {l' l:List Int} (hs:l'.Sublist l):∀ {r' r:List Int},r'.Sublist r->Dn k r->(l'.foldl (fun r x=>dF (vM k) x r) r').Sublist (l.foldl (fun r x=>dF (vM k) x r) r):=by
 induction hs with
 | slnil=>intro r' r h _;exact h
 | cons x hs ih=>intro r' r h hd;exact ih (h.trans (xA x r)) (vE x hd)
 | cons_cons x hs ih=>intro r' r h hd;exact ih (Fp x h hd) (vE x hd)
end
theorem pW (f:Fr) (l:List Int):aP f l=(dI (vM fun n=>(bR f n).hour) l).reverse:=by
 unfold aP;congr 2
 funext a b
 unfold pf vq vM
 by_cases h1:(bR f a).hour<(bR f b).hour
 . simp[h1]
 . by_cases h2:(bR f b).hour<(bR f a).hour
   . simp[h1,h2]
   . simp[h1,h2]
theorem vH {f:Fr} {l' l:List Int} (hs:l'.Sublist l):(aP f l').Sublist (aP f l):=by
 rw[pW,pW];exact (B5 hs (List.Sublist.refl _) List.Pairwise.nil).reverse
theorem om {f:Fr} {l:List Int} {n:Int}:n∈aP f l ↔ n∈l:=by
 unfold aP;rw[List.mem_reverse,pe]
theorem Ip:∀ a:Fin 32,∀ b:Fin 32,∀ c:Fin 32,bN (a.val:Int) (c.val:Int)≤bN (a.val:Int) (b.val:Int)+bN (b.val:Int) (c.val:Int):=by decide +kernel
theorem pn {l:List Int} (h:nZ none l=0):∃ a:Fin 32,bS l=(a.val:Int):=by
 have:=lH (qr h);exact⟨⟨(bS l).toNat,by omega⟩,by show bS l=((bS l).toNat:Int);omega⟩
def Fit (f:Fr) (a b:Int):Prop:=jQ f a b=false
theorem Fr.Good.OH {f:Fr} (hg:f.Good) {i j k:Nat} (hi:i<f.roads.length) (hj:j<f.roads.length) (hk:k<f.roads.length):rd f.roads i k≤rd f.roads i j+rd f.roads j k:=by
 have h:=hg.I5;unfold fW at h;split at h
 . cases h
 split at h
 . cases h
 split at h
 . next q=>exact absurd h q
 split at h
 . cases h
 next q=>
 simp only[List.any_eq_true,List.mem_range,not_exists,not_and] at q;have h1:=q i hi k hk;unfold cO at h1;simp only[Bool.or_eq_true,not_or,List.any_eq_true,List.mem_range,not_exists,not_and,decide_eq_true_eq] at h1;have:=h1.2 j hj;omega
theorem r8 {f:Fr} {n:Int} (h:0≤n∧n<f.aB.length):bR f n∈f.aB:=by
 have:n.toNat<f.aB.length:=by omega
 rw[oa this];exact List.getElem_mem this
theorem B6 {f:Fr} (hg:f.Good) {a b c:Int} (ha:0≤a∧a<f.aB.length) (hb:0≤b∧b<f.aB.length) (hc:0≤c∧c<f.aB.length) (h1:Fit f a b) (h2:Fit f b c):Fit f a c:=by
 have ea:=tQ (hg.FF _ (r8 ha));have eb:=tQ (hg.FF _ (r8 hb));have ec:=tQ (hg.FF _ (r8 hc));have hd:=hg.iM;obtain⟨A,hA⟩:=pn ea.2.2.2.2.2;obtain⟨B,hB⟩:=pn eb.2.2.2.2.2;obtain⟨C,hC⟩:=pn ec.2.2.2.2.2;have t1:=Ip A B C;have pa:=ea.2.1;have pb:=eb.2.1;have pc:=ec.2.1;have t2:=hg.OH (i:=(bR f a).place.toNat) (j:=(bR f b).place.toNat) (k:=(bR f c).place.toNat) (by omega) (by omega) (by omega)
 unfold Fit jQ at h1 h2 ⊢;rw[hA,hB] at h1;rw[hB,hC] at h2;rw[hA,hC];simp only[decide_eq_false_iff_not] at h1 h2 ⊢;have t3:f.iM*bN (A.val:Int) (C.val:Int)≤f.iM*(bN (A.val:Int) (B.val:Int)+bN (B.val:Int) (C.val:Int)):=Int.mul_le_mul_of_nonneg_left t1 (by omega)
 rw[Int.mul_add] at t3;omega
theorem r9 (f:Fr) (a b:Int) (r:List Int):bG f (a :: b :: r)=(jQ f a b || bG f (b :: r)):=by
 unfold bG;rw[show (a :: b :: r).length-1=r.length+1 from rfl,List.range_succ_eq_map,List.any_cons,List.any_map]
 rfl
theorem uh {f:Fr} (hf:f.Good):∀ {l:List Int},(∀ n∈l,0≤n∧n<f.aB.length)->bG f l=false->l.Pairwise (Fit f)
 | [],_,_=>List.Pairwise.nil
 | [a],_,_=>List.pairwise_singleton _ _
 | a :: b :: r,hl,h=>by
   rw[r9,Bool.or_eq_false_iff] at h;have ih:=uh hf (fun n hn=>hl n (by simp[hn])) h.2
   refine List.pairwise_cons.2 ⟨fun z hz=>?_,ih⟩
   rcases List.mem_cons.1 hz with rfl|hz'
   . exact h.1
   . exact B6 hf (hl a (by simp)) (hl b (by simp)) (hl z (by simp[hz'])) h.1 ((List.pairwise_cons.1 ih).1 z hz')
theorem ui {f:Fr}:∀ {l:List Int},l.Pairwise (Fit f)->bG f l=false
 | [],_=>rfl
 | [a],_=>rfl
 | a :: b :: r,h=>by
   obtain⟨h1,h2⟩:=List.pairwise_cons.1 h;rw[r9,ui h2,Bool.or_false];exact h1 b (by simp)
theorem Ab {f:Fr} {l:List Int} (hl:l≠[]) {h:Int}:h∈c8 f l ↔ ∀ j∈l,h∈ci f (bR f j):=by
 rw[xz hl]
 match l,hl with
 | a :: r,_=>
   simp only[Fm,List.mem_filter,List.all_eq_true,decide_eq_true_eq];exact⟨fun q=>q.2,fun q=>⟨q a (by simp),q⟩⟩
theorem xB {f:Fr} {l:List Int}:iA f l=0 ↔ dT f (aP f l)=false∧cP f (aP f l)=false∧bG f (aP f l)=false:=by
 unfold iA;cases dT f (aP f l) <;> cases cP f (aP f l) <;> cases bG f (aP f l) <;> simp
theorem GY {f:Fr} (hf:f.Good) {l' l:List Int} (hs:l'.Sublist l) (hne:l'≠[]) (hl:∀ n∈l,0≤n∧n<f.aB.length) (h:iA f l=0):iA f l'=0:=by
 obtain⟨h1,h2,h3⟩:=xB.1 h;have hS:=vH (f:=f) hs
 have hne':aP f l'≠[]:=fun e=>by
  cases l' with
  | nil=>exact hne rfl
  | cons a r=>have:a∈aP f (a :: r):=om.2 (by simp);rw[e] at this;cases this
 have hne2:aP f l≠[]:=fun e=>hne' (by rw[e] at hS;exact List.sublist_nil.1 hS)
 have hr:∀ n∈aP f l,0≤n∧n<f.aB.length:=fun n hn=>hl n (om.1 hn)
 generalize aP f l=S at *;refine xB.2 ⟨?_,?_,ui ((uh hf hr h3).sublist hS)⟩
 . generalize aP f l'=S' at *
   unfold dT at h1 ⊢;rw[List.any_eq_false] at h1 ⊢;have h1':∀ x∈S,(bR f x).gL=(bR f (S.getD 0 0)).gL:=fun x hx=>by simpa using h1 x hx
   intro x hx
   have hz:S'.getD 0 0∈S':=by
    match S',hne' with
    | a :: r,_=>simp
   rw[h1' x (hS.subset hx),h1' _ (hS.subset hz)];simp
 . generalize aP f l'=S' at *
   unfold cP at h2 ⊢;simp only[decide_eq_false_iff_not] at h2 ⊢;obtain⟨x,hx⟩:=List.exists_mem_of_ne_nil _ h2;have:x∈c8 f S':=(Ab hne').2 fun j hj=>(Ab hne2).1 hx j (hS.subset hj)
   exact List.ne_nil_of_mem this
theorem vI {α β:Type} {B:Nat} {g:α->List β}:∀ (l:List α),(∀ x∈l,(g x).length≤B)->(l.flatMap g).length≤l.length*B
 | [],_=>by simp
 | a :: l,h=>by
   rw[List.flatMap_cons,List.length_append,List.length_cons,Nat.add_mul,Nat.one_mul];have h1:=h a (by simp)
   have h2:=vI l fun x hx=>h x (by simp[hx])
   omega
theorem xC {f:Fr} (hg:f.Good) (begun:List Int):∀ (fuel:Nat) (bT:List Int) (many:Int) (hs:List Int),(fY f begun fuel bT many hs).length≤6 ^ fuel
 | 0,_,_,_=>by simp[fY]
 | fuel+1,bT,many,hs=>by
   unfold fY;refine Nat.le_trans (vI (B:=6 ^ fuel) _ fun k _=>?_) ?_
   . split
     . simp
     split
     . exact xC hg begun fuel _ _ _
     . simp
   . rw[List.length_range,Nat.pow_succ,Nat.mul_comm]
     have:=hg.most;exact Nat.mul_le_mul_left _ (by omega)
theorem Ac {f:Fr} (hg:f.Good) (begun:List Int):(az f begun).length≤46656:=by
 refine Nat.le_trans (xC hg begun _ _ _ _) ?_;exact Nat.pow_le_pow_right (by omega) hg.vt
theorem sa {β:Type} {G:Nat->List β} {c:Nat}:∀ d:Nat,(∀ j,c≤j->j<c+d->G j=[])->(List.range (c+d)).flatMap G=(List.range c).flatMap G
 | 0,_=>rfl
 | d+1,h=>by
   rw[← Nat.add_assoc,List.range_succ,List.flatMap_append,sa d fun j h1 h2=>h j h1 (by omega)]
   simp[h (c+d) (by omega) (by omega)]
theorem uj {α β:Type} {f g:α->List β} {l:List α} (h:∀ x∈l,f x=g x):l.flatMap f=l.flatMap g:=by
 rw[List.flatMap_def,List.flatMap_def,List.map_congr_left h]
end Go.Proofs.YtelgggdkahhhfaaGreatDoor
