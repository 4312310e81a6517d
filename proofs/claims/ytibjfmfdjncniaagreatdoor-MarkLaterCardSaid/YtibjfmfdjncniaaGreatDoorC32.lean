/- Part 32 of the proof. -/
import Derived.Test.YtibjfmfdjncniaaGreatDoorC31
set_option linter.all false
namespace Go.Proofs.YtibjfmfdjncniaaGreatDoor
open Go.Pal Go.Conc
set_option maxHeartbeats 1000000
set_option maxRecDepth 4000
variable {m:Mo} {σ:Store} {KF:Res->Store->Prop}
structure RoadsOK (n:Nat) (lo:Int) (r:List (List Int)):Prop where
  len:r.length=n
  row:∀ l∈r,l.length=n
  diag:∀ i,i<n->rd r i i=0
  sym:∀ i j,i<n->j<n->rd r i j=rd r j i
  off:∀ i j,i<n->j<n->i≠j->lo≤rd r i j∧rd r i j≤2*lo
structure FairOK (cnt:Int) (f:Fr):Prop where
  dye:1≤f.dye∧f.dye≤4
  most:f.most=1∨f.most=2∨f.most=3∨f.most=6
  spots:1≤f.roads.length∧f.roads.length≤3
  rds:∃ lo:Int,(0≤lo∧lo≤4)∧RoadsOK f.roads.length lo f.roads
  fr:0≤f.sfrom∧f.sfrom≤2
  to:f.sfrom≤f.sto∧f.sto≤2
  len:(f.ents.length:Int)≤cnt
  ent:∀ e∈f.ents,EntOK f.roads.length e
theorem RoadsOK.err {n:Nat} {lo:Int} {r:List (List Int)} (h:RoadsOK n lo r) (hn:1≤n∧n≤3) (hlo:0≤lo∧lo≤4):roadsErr r=0:=by
  have hl:=h.len
  have hb:∀ i j,i<n->j<n->0≤rd r i j∧rd r i j≤9:=fun i j hi hj=>by
    by_cases e:i=j
    . subst e;rw[h.diag i hi];omega
    . have:=h.off i j hi hj e;omega
  have hrow:∀ l∈r,rowErr n l=0:=fun l hm=>by
    have h1:=h.row l hm
    have h2:l.all (isIn · 0 9)=true:=by
      rw[List.all_eq_true];intro x hx;obtain⟨i,hi,rfl⟩:=List.mem_iff_getElem.1 hm;obtain⟨j,hj,rfl⟩:=List.mem_iff_getElem.1 hx;have:=hb i j (by omega) (by omega)
      have e:rd r i j=r[i][j]:=by simp[rd,List.getD_eq_getElem?_getD,hi,hj]
      rw[e] at this;simp[isIn,this.1,this.2]
    unfold rowErr;rw[if_neg (by simp[h1]),if_pos h2]
  have hrows:∀ l:List (List Int),(∀ x∈l,x∈r)->rowsErr n l=0:=fun l=>by
    induction l with
    | nil=>intro _;rfl
    | cons x l ih=>
      intro hx;unfold rowsErr;rw[if_pos (hrow x (hx x (by simp)))]
      exact ih fun y hy=>hx y (by simp[hy])
  have hno:((List.range n).any fun i=>(List.range n).any fun j=>pairBad r i j)=false:=by
    rw[List.any_eq_false];intro i hi;rw[Bool.not_eq_true,List.any_eq_false];intro j hj;have hi:=List.mem_range.1 hi;have hj:=List.mem_range.1 hj;unfold pairBad;rw[h.diag i hi,h.sym i j hi hj,hl]
    have h3 : ((List.range n).any fun k=>decide (rd r j i > rd r i k+rd r k j))=false:=by
      rw[List.any_eq_false];intro k hk;have hk:=List.mem_range.1 hk;have a1:=hb i k hi hk;have a2:=hb k j hk hj;simp only[decide_eq_true_eq,Int.not_lt,gt_iff_lt]
      by_cases e1:i=j
      . subst e1;rw[h.diag i hi];omega
      . by_cases e2:i=k
        . subst e2;rw[h.diag i hi,h.sym i j hi hj];omega
        . by_cases e3:k=j
          . subst e3;rw[h.diag k hk,h.sym i k hi hk];omega
          . have b1:=h.off j i hj hi (Ne.symm e1)
            have b2:=h.off i k hi hk e2;have b3:=h.off k j hk hj e3;omega
    rw[h3];simp
  unfold roadsErr;rw[hl,if_neg (by omega),if_neg (by omega),hrows r (fun _ h=>h),if_neg (by simp),hno]
  simp
theorem rd_set {M:List (List Int)} {i k:Nat} {n:Int} (hi:i<M.length) (hk:k<(M.getD i []).length) (x y:Nat):rd (M.set i ((M.getD i []).set k n)) x y=if x=i∧y=k then n else rd M x y:=by
  unfold rd
  by_cases e:x=i
  . subst e
    have e1:(M.set x ((M.getD x []).set k n)).getD x []=(M.getD x []).set k n:=by
      simp[List.getD_eq_getElem?_getD,hi]
    rw[e1]
    by_cases e2:y=k
    . subst e2
      rw[if_pos ⟨rfl,rfl⟩];rw[List.getD_eq_getElem?_getD,List.getElem?_set_self hk];rfl
    . rw[if_neg (fun q=>e2 q.2)]
      rw[List.getD_eq_getElem?_getD,List.getElem?_set_ne (Ne.symm e2),← List.getD_eq_getElem?_getD]
  . rw[if_neg (fun q=>e q.1)]
    have e1:(M.set i ((M.getD i []).set k n)).getD x []=M.getD x []:=by
      rw[List.getD_eq_getElem?_getD,List.getElem?_set_ne (Ne.symm e),← List.getD_eq_getElem?_getD]
    rw[e1]
def updM (M:List (List Int)) (i k:Nat) (n:Int):List (List Int):=(M.set i ((M.getD i []).set k n)).set k ((M.getD k []).set i n)
structure MOK (n:Nat) (lo:Int) (i k:Nat) (M:List (List Int)):Prop where
  len:M.length=n
  row:∀ j,j<n->(M.getD j []).length=n
  diag:∀ x,x<n->rd M x x=0
  sym:∀ x y,x<n->y<n->rd M x y=rd M y x
  off:∀ x y,y<x->x<n->(x<i∨(x=i∧y<k))->lo≤rd M x y∧rd M x y≤2*lo
theorem updM_getD {M:List (List Int)} {i k:Nat} {v:Int} (hi:i<M.length) (hk:k<M.length) (hik:k≠i) (j:Nat):(updM M i k v).getD j []=if j=k then (M.getD k []).set i v else if j=i then (M.getD i []).set k v else M.getD j []:=by
  unfold updM
  by_cases e1:j=k
  . subst e1
    rw[if_pos rfl,List.getD_eq_getElem?_getD,List.getElem?_set_self (by simpa using hk)];rfl
  . rw[if_neg e1,List.getD_eq_getElem?_getD,List.getElem?_set_ne (Ne.symm e1)]
    by_cases e2:j=i
    . subst e2
      rw[if_pos rfl,List.getElem?_set_self hi];rfl
    . rw[if_neg e2,List.getElem?_set_ne (Ne.symm e2),← List.getD_eq_getElem?_getD]
theorem rd_updM {n:Nat} {lo:Int} {i k a b:Nat} {M:List (List Int)} {v:Int} (h:MOK n lo a b M) (hi:i<n) (hk:k<n) (hik:k≠i) (x y:Nat):rd (updM M i k v) x y=if (x=i∧y=k)∨(x=k∧y=i) then v else rd M x y:=by
  have hl:=h.len
  have e1:rd (updM M i k v) x y=if x=k∧y=i then v else rd (M.set i ((M.getD i []).set k v)) x y:=by
    have q:M.getD k []=(M.set i ((M.getD i []).set k v)).getD k []:=by
      rw[List.getD_eq_getElem?_getD,List.getD_eq_getElem?_getD,List.getElem?_set_ne (Ne.symm hik)]
    unfold updM;rw[q];exact rd_set (by simp[hl,hk]) (by rw[← q];rw[h.row k hk];exact hi) x y
  rw[e1,rd_set (by omega) (by rw[h.row i hi];exact hk)]
  by_cases c1:x=k∧y=i
  . rw[if_pos c1,if_pos (.inr c1)]
  . rw[if_neg c1]
    by_cases c2:x=i∧y=k
    . rw[if_pos c2,if_pos (.inl c2)]
    . rw[if_neg c2,if_neg (fun q=>q.elim c2 c1)]
theorem MOK.next {n:Nat} {lo:Int} {i k:Nat} {M:List (List Int)} {v:Int} (h:MOK n lo i k M) (hi:i<n) (hk:k<i) (hv:lo≤v∧v≤2*lo):MOK n lo i (k+1) (updM M i k v):=by
  have hl:=h.len;have hrd:=rd_updM (v:=v) h hi (show k<n by omega) (by omega)
  refine⟨by simp[updM,hl],fun j hj=>?_,fun x hx=>?_,fun x y hx hy=>?_,fun x y hxy hx hd=>?_⟩
  . rw[updM_getD (by omega) (by omega) (by omega)]
    split
    . rw[List.length_set];exact h.row k (by omega)
    . split
      . rw[List.length_set];exact h.row i hi
      . exact h.row j hj
  . rw[hrd,if_neg (by omega)];exact h.diag x hx
  . rw[hrd,hrd]
    by_cases c:(x=i∧y=k)∨(x=k∧y=i)
    . rw[if_pos c,if_pos (c.elim (fun q => .inr ⟨q.2,q.1⟩) (fun q => .inl ⟨q.2,q.1⟩))]
    . rw[if_neg c,if_neg (fun q=>c (q.elim (fun q => .inr ⟨q.2,q.1⟩) (fun q => .inl ⟨q.2,q.1⟩)))]
      exact h.sym x y hx hy
  . rw [hrd]
    by_cases c:(x=i∧y=k)∨(x=k∧y=i)
    . rw[if_pos c];exact hv
    . rw[if_neg c]
      refine h.off x y hxy hx ?_
      rcases hd with hd|⟨h1,h2⟩
      . exact .inl hd
      . refine .inr ⟨h1,?_⟩
        have:y≠k:=fun e=>c (.inl ⟨h1,e⟩)
        omega
theorem MOK.line {n:Nat} {lo:Int} {i:Nat} {M:List (List Int)} (h:MOK n lo i i M):MOK n lo (i+1) 0 M:=
  ⟨h.len,h.row,h.diag,h.sym,fun x y hxy hx hd=>h.off x y hxy hx (by omega)⟩
theorem MOK.fin {n:Nat} {lo:Int} {M:List (List Int)} (h:MOK n lo n 0 M):RoadsOK n lo M:=by
  have hl:=h.len;refine⟨h.len,fun l hm=>?_,h.diag,h.sym,fun i j hi hj hij=>?_⟩
  . obtain⟨i,hi,rfl⟩:=List.mem_iff_getElem.1 hm
    have:=h.row i (by omega)
    simpa[List.getD_eq_getElem?_getD,hi] using this
  . rcases Nat.lt_or_ge j i with q|q
    . exact h.off i j q hi (.inl hi)
    . rw[h.sym i j hi hj]
      exact h.off j i (by omega) hj (.inl hj)
theorem MOK.start (n:Nat) (lo:Int):MOK n lo 0 0 (List.replicate n (List.replicate n 0)):=by
  have h0:∀ x y,rd (List.replicate n (List.replicate n 0)) x y=0:=fun x y=>by
    unfold rd;simp only[List.getD_eq_getElem?_getD,List.getElem?_replicate]
    by_cases hx:x<n
    . simp only[hx,if_true,Option.getD_some,List.getElem?_replicate]
      split <;> rfl
    . simp[hx]
  refine⟨by simp,fun j hj=>by simp[List.getD_eq_getElem?_getD,hj],fun x _=>h0 x x,fun x y _ _=>by rw[h0,h0],fun x y _ _ h=>by omega⟩
theorem firstBad_all {g:Ent->Int}:∀ {l:List Ent},(∀ e∈l,g e=0)->firstBad g l=0
  | [],_=>rfl
  | a :: l,h=>by
    unfold firstBad;rw[if_pos (h a (by simp))]
    exact firstBad_all fun e he=>h e (by simp[he])
theorem FairOK.check {most:Int} {f:Fr} (h:FairOK most f) (h6:most≤6):check f=0:=by
  obtain⟨lo,hlo,hr⟩:=h.rds;have e1:=hr.err h.spots hlo;have h1:=h.fr;have h2:=h.to;have h3:=h.dye;have h4:=h.most;have h5:=h.len
  have e2:(isIn f.sfrom 0 3 && isIn f.sto 0 3)=true:=by
    simp[isIn];omega
  have e3:(isIn f.dye 1 6 && isIn f.most 1 6)=true:=by
    simp[isIn];omega
  unfold Go.Proofs.YtibjfmfdjncniaaGreatDoor.check;rw[e1,if_neg (by simp),e2,if_neg (by simp),if_neg (by omega),e3,if_neg (by simp),if_neg (by omega)]
  exact firstBad_all fun e he=>(h.ent e he).check
theorem FairOK.fits {most:Int} {f:Fr} (h:FairOK most f) (h6:most≤1000):f.Fits:=by
  obtain⟨lo,hlo,hr⟩:=h.rds;have:=h.len;have hs:=h.spots;refine⟨by omega,by omega,fun l hl=>?_,fun e he=>?_⟩
  . have:=hr.row l hl;omega
  . have:=(sub_marks (h.ent e he).marks).2;omega
end Go.Proofs.YtibjfmfdjncniaaGreatDoor
namespace Go.Proofs.YtibjfmfdjncniaaGreatDoor
open Go.Pal Go.Conc
set_option maxHeartbeats 2000000
set_option maxRecDepth 4000
variable {m:Mo} {σ:Store} {KF:Res->Store->Prop}
theorem nodup_ne {l:List Nat} (h:l.Nodup) {i j:Nat} {hi:i<l.length} {hj:j<l.length} (hij:i≠j):l[i]≠l[j]:=by
  rw[List.Nodup,List.pairwise_iff_getElem] at h
  rcases Nat.lt_or_ge i j with q|q
  . exact h i j hi hj q
  . exact Ne.symm (h j i hj hi (by omega))
def rowsAt (rs:List Nat) (M:List (List Int)) (n j:Nat):List AV:=(List.range rs.length).map fun l=>if l<j then ints (M.getD l []) else AV.msl (rs.getD l 0) 0 n n
theorem rowsAt_len (rs:List Nat) (M:List (List Int)) (n j:Nat):(rowsAt rs M n j).length=rs.length:=by rw[rowsAt,List.length_map,List.length_range]
theorem rowsAt_get {rs:List Nat} {M:List (List Int)} {n j l:Nat} (hl:l<rs.length):(rowsAt rs M n j)[l]? = some (if l<j then ints (M.getD l []) else AV.msl (rs.getD l 0) 0 n n):=by
  rw[rowsAt,List.getElem?_map,List.getElem?_range hl];rfl
theorem thawRows {fid nt:Nat} {ro:Option Nat} {hold:List Entry} {K:Pal.Exit->St->Prop} {todo:List Item} {env:Env} {D:List ADef} {rc:Rec} {d n at_:Nat} {rs:List Nat} {M:List (List Int)} {cs:List AV} {spr:Spare} (σ0:Store) (hnd:rs.Nodup) (hM:∀ l,l<rs.length->(M.getD l []).length=n) (hat:at_<cs.length) (hd:d ∉ rs)
    (hR:∀ σ',σ' d=some (.cells (cs.set at_ (.sl 1 (rowsAt rs M n rs.length) spr)))->(∀ y,y≠d->y ∉ rs->σ' y=σ0 y)->Resume Tryz.prog m fid nt ro hold todo ⟨env,σ',D,rc⟩ K) :
    ∀ (f j:Nat),j+f=rs.length->∀ σ,σ d=some (.cells (cs.set at_ (.sl 1 (rowsAt rs M n j) spr)))->(∀ (l:Nat) (hl:l<rs.length),j≤l->σ rs[l]=some (.cells ((M.getD l []).map int)))->(∀ y,y≠d->y ∉ rs->σ y=σ0 y)->Resume Tryz.prog m fid nt ro hold todo ⟨env,σ,D,rc⟩ K
  | 0,j,hj,σ,h1,_,h3=>by
    have:j=rs.length:=by omega
    subst this;exact hR σ h1 h3
  | f + 1,j,hj,σ,h1,h2,h3=>by
    have hjl:j<rs.length:=by omega
    have hln:=hM j hjl;have hdj:d≠rs[j]:=fun e=>hd (e ▸ List.getElem_mem hjl)
    have hcell:∀ e∈rowsAt rs M n j,e.cells=[e]:=fun e he=>by
      unfold rowsAt at he;obtain⟨l,_,rfl⟩:=List.mem_map.1 he;split <;> rfl
    have hlen:(rowsAt rs M n j).length=rs.length:=rowsAt_len _ _ _ _;have hget:∀ l,l<rs.length->(rowsAt rs M n j)[l]? = some (if l<j then ints (M.getD l []) else AV.msl (rs.getD l 0) 0 n n):=fun l hl=>rowsAt_get hl
    have hnext:(rowsAt rs M n j).set j (.sl 1 ((M.getD j []).map int) .any)=rowsAt rs M n (j+1):=by
      apply List.ext_getElem?;intro l
      by_cases hl:l<rs.length
      . have e2:(rowsAt rs M n (j+1))[l]? = some (if l<j+1 then ints (M.getD l []) else AV.msl (rs.getD l 0) 0 n n):=rowsAt_get hl
        rw[e2]
        by_cases hlj:l=j
        . subst hlj
          rw[List.getElem?_set_self (by omega),if_pos (by omega)]
        . rw[List.getElem?_set_ne (Ne.symm hlj),hget l hl]
          by_cases q:l<j
          . rw[if_pos q,if_pos (by omega)]
          . rw[if_neg q,if_neg (by omega)]
      . rw[List.getElem?_eq_none (by rw[List.length_set,hlen];omega),List.getElem?_eq_none (by rw[rowsAt_len];omega)]
    refine Resume.thawRow (b:=rs[j]) (d:=d) (i:=j) (l:=(M.getD j []).map int) (at_:=at_) hdj (h2 j hjl (Nat.le_refl _)) (fun e he=>by obtain⟨_,_,rfl⟩:=List.mem_map.1 he;rfl) h1 (by rw[List.getElem?_set_self hat]) hcell (by rw[hget j hjl,if_neg (by omega),List.length_map,hln];simp[List.getD_eq_getElem?_getD,hjl]) ?_
    rw[List.set_set,hnext];refine thawRows σ0 hnd hM hat hd hR f (j+1) (by omega) _ (Store.set_same _ _ _) (fun l hl hjl2=>?_) (fun y y1 y2=>?_)
    . have n1:rs[l]≠d:=fun e=>hd (e ▸ List.getElem_mem hl)
      rw[Store.set_ne _ _ n1];simp only[Store.del,nodup_ne hnd (show l≠j by omega),if_false]
      exact h2 l hl (by omega)
    . rw[Store.set_ne _ _ y1]
      have:y≠rs[j]:=fun e=>y2 (e ▸ List.getElem_mem hjl)
      simp only[Store.del,this,if_false];exact h3 y y1 y2
section
variable {c k:Nat} {nums:List Int}
abbrev fair0:List AV:=[.lit (.slice none 0 0),.lit (.slice none 0 0),int 0,int 0,int 0,int 0]
theorem FairOf_ok {cnt:Int} (hk:k+20+11*cnt.toNat<1000000) (hn:nums.length<1152921504606846976) (hcnt:0≤cnt∧cnt≤1000) (hb:BagAt c nums k σ) (h:∀ (f:Fr) σ',FairOK cnt f->Drew c nums (k+20+11*cnt.toNat) σ σ'->KF (.val (fairA f)) σ'):FnOK Tryz.prog m 5 [.ref c 0,int cnt] σ KF:=by
  obtain⟨n0,s0,_,hc0⟩:=id hb;refine FnOK.start lay [] pl5 2 Tryz.func5 rfl rfl (by rfl) (by kernel_rfl) ?_
  simp[Tryz.f5];refine newW.intro fun c4 h4=>?_
  have n4:c≠c4:=fun e=>by subst e;rw[hc0] at h4;cases h4
  have hb1:∀ x,BagAt c nums k (σ.set c4 x):=fun x=>⟨n0,s0,by assumption,by rw[Store.set_ne _ _ n4];exact hc0⟩
  simp;refine callFn Tryz.func16 rfl rfl (Among_ok (by omega) hn ⟨by omega,by omega⟩ ⟨by omega,by omega⟩ (hb1 _) fun dye σ1 hx1 hd1=>?_)
  refine Resume.run lay [] ?_;simp;refine callFn Tryz.func17 rfl rfl (Pick_ok (l:=[1,2,2,3,3,6]) (by omega) hn ⟨by simp,by simp⟩ hd1.1 fun most σ2 hx2 hd2=>?_)
  refine Resume.run lay [] ?_;simp;refine newW.intro fun c5 h5=>?_
  have n45:c4≠c:=Ne.symm n4;have hd02:Drew c nums (k+2) (σ.set c4 (.cells fair0)) σ2:=hd1.trans hd2;have h84:σ2 c4=some (.cells fair0):=by rw[hd02.2 c4 n45,Store.set_same]
  have n5:c5≠c:=fun e=>by subst e;obtain⟨_,_,_,q⟩:=hd2.1;rw[q] at h5;cases h5
  have n54:c5≠c4:=fun e=>by subst e;rw[h84] at h5;cases h5
  have h85:σ c5=none:=by rw[hd02.2 c5 n5,Store.set_ne _ _ n54] at h5;exact h5
  simp[splice]
  have hb3:∀ x,BagAt c nums (k+2) (σ2.set c5 x):=fun x=>by
    obtain⟨n,z,h1,h2⟩:=hd2.1;exact⟨n,z,by omega,by rw[Store.set_ne _ _ (Ne.symm n5)];exact h2⟩
  refine callFn Tryz.func16 rfl rfl (Among_ok (by omega) hn ⟨by omega,by omega⟩ ⟨by omega,by omega⟩ (hb3 _) fun spots σ3 hx3 hd3=>?_)
  refine Resume.run lay [] ?_;simp;refine callFn Tryz.func14 rfl rfl (UpTo_ok (by omega) hn ⟨by omega,by omega⟩ hd3.1 fun lo σ4 hx4 hd4=>?_)
  refine Resume.run lay [] ?_;simp;have hd24:Drew c nums (k+4) (σ2.set c5 (.cells [.lit (.slice none 0 0),.lit (.slice none 0 0),int 0,int 0,int dye,int most])) σ4:=hd3.trans hd4;obtain⟨sp,rfl⟩:∃ sp:Nat,spots=(sp:Int):=⟨spots.toNat,by omega⟩
  have hsp:1≤sp∧sp≤3:=by omega
  have hlo:0≤lo∧lo≤4:=by omega
  have hdye:1≤dye∧dye≤4:=by omega
  have hmost:most=1∨most=2∨most=3∨most=6:=by simp at hx2;omega
  have h45:σ4 c5=some (.cells [.lit (.slice none 0 0),.lit (.slice none 0 0),int 0,int 0,int dye,int most]):=by rw[hd24.2 c5 n5,Store.set_same]
  have h44:σ4 c4=some (.cells fair0):=by rw[hd24.2 c4 n45,Store.set_ne _ _ (Ne.symm n54)];exact h84
  have hle4:(σ.del c).Le σ4:=fun y x hy=>by
    have y1:y≠c:=fun e=>by subst e;simp[Store.del] at hy
    have y0:σ y=some x:=by simpa[Store.del,y1] using hy
    have y5:y≠c5:=fun e=>by subst e;rw[h85] at y0;cases y0
    have y4:y≠c4:=fun e=>by subst e;rw[h4] at y0;cases y0
    rw[hd24.2 y y1,Store.set_ne _ _ y5,hd02.2 y y1,Store.set_ne _ _ y4];exact y0
  have hbag4:=hd4.1;clear hd1 hd2 hd3 hd4 hd02 hd24 hb1 hb3 h5 h84 hx1 hx2 hx3 hx4
  refine Resume.loop sp (fun i s => ∃ env σ' a rs,s=⟨env,σ',[],.no⟩∧env 0 = .ref c 0∧env 1=int cnt∧env 4 = .ref c4 0∧env 5 = .ref c5 0∧env 6=int sp∧env 7=int lo∧env 8=int i∧BagAt c nums (k+4) σ'∧σ' c4=some (.cells fair0)∧σ' c5=some (.cells [.lit (.slice none 0 0),a,int 0,int 0,int dye,int most]) ∧
    Tok (σ.del c) σ' a 1 (rs.map fun b:Nat=>AV.msl b 0 sp sp)∧rs.length=i∧rs.Nodup∧(∀ b∈rs,σ b=none∧b≠c∧b≠c4∧b≠c5∧σ' b=some (.cells (List.replicate sp (int 0))))) ⟨_,σ4,.lit (.slice none 0 0),[],rfl,by simp,by simp,by simp,by simp,by simp,by simp,by simp,hbag4,h44,h45,⟨hle4,.inl ⟨rfl,rfl⟩⟩,rfl,List.nodup_nil,by simp⟩ ?_
  rintro c0 i _ hi ⟨env,σ',a,rs,rfl,e0,e1,e4,e5,e6,e7,e8,hbi,q4,q5,htok,hrl,hnd,hrs⟩ ih
  have htc:=htok.cells
  rcases Nat.lt_or_ge i sp with g1|g1
  . have g1':(i:Int)<sp:=by omega
    have f1 : -9223372036854775808≤(i:Int)+1∧(i:Int)+1≤9223372036854775807:=by omega
    have nta:∀ σx:Store,Tok (σ.del c) σx a 1 (rs.map fun b:Nat=>AV.msl b 0 sp sp)->∀ y l,σx y=some (.cells l)->tokBlk a≠some y:=fun σx hx y l hy e=>by obtain⟨_,_,q⟩:=hx.tok_some e;rw[hy] at q;cases q
    have fresh:∀ b,σ' b=none->σ b=none∧b≠c∧b≠c4∧b≠c5∧c5≠b∧b ∉ rs:=fun b hbn=>by
      have n1:b≠c:=fun e=>by subst e;obtain⟨_,_,_,q⟩:=hbi;rw[q] at hbn;cases hbn
      refine⟨?_,n1,fun e=>(by subst e;rw[q4] at hbn;cases hbn),fun e=>(by subst e;rw[q5] at hbn;cases hbn),fun e=>(by subst e;rw[q5] at hbn;cases hbn),fun e=>(by rw[(hrs b e).2.2.2.2] at hbn;cases hbn)⟩
      cases e:σ b with
      | none=>rfl
      | some x=>have:=htok.1 b x (by simp[Store.del,n1,e]);rw[hbn] at this;cases this
    refine Resume.run lay [] ?_;simp[e0,e1,e4,e5,e6,e7,e8,q5,htc.1,htc.2,g1'];refine⟨?_,?_⟩
    . ((
        refine os_makeSlice lay rfl tt22 rfl tt3 rfl (by decide) rfl rfl (n:=sp) (by simp[e6]) (by simp[e6]) ⟨by omega,by omega⟩ fun b hbn=>?_
        obtain⟨fb0,fbc,fb4,fb5,fb5',fbr⟩:=fresh b hbn;have up:=htok.up (Store.le_set (x:=.cells (List.replicate sp (int 0))) (Store.le_refl _) hbn);have q5b:(σ'.set b (.cells (List.replicate sp (int 0)))) c5=some (.cells [.lit (.slice none 0 0),a,int 0,int 0,int dye,int most]):=(Store.set_ne _ _ fb5').trans q5;refine PendW.go lay [] ?_;simp[e5,e6,q5b,htc.1,htc.2]))
      ((
        refine os_append lay rfl rfl rfl tt24 rfl tt24 rfl tt22 (by decide) (by simp;omega) (σ0:=(σ'.set b (.cells (List.replicate sp (int 0)))).off a) (es:=rs.map fun b:Nat=>AV.msl b 0 sp sp) (xs:=[AV.msl b 0 sp sp]) (by simpa using up.here.1) (.inr ⟨_,by simp;rfl⟩) fun a' σ3 ht'=>?_
        have hta:=ht'.cells;have k3:∀ y l,(σ'.set b (.cells (List.replicate sp (int 0)))) y=some (.cells l)->σ3 y=some (.cells l):=fun y l hy=>ht'.1 _ _ (by rw[Store.off_ne (nta _ up y l hy)];exact hy)
        have t5:=k3 _ _ q5b;refine PendW.go lay [] ?_;simp[e5,t5,hta.1,hta.2,splice];refine Resume.run lay [] ?_;simp[e8,f1.1,f1.2];obtain⟨nb,zb,hb1,hb2⟩:=hbi
        have htb:Tok (σ.del c) σ3 a' 1 ((rs ++ [b]).map fun b:Nat=>AV.msl b 0 sp sp):=by
          have:=ht'.base up.here.2;simpa using this
        refine ih _ g1 ⟨_,_,a',rs ++ [b],rfl,by simp[e0],by simp[e1],by simp[e4],by simp[e5],by simp[e6],by simp[e7],by simp,⟨nb,zb,hb1,?_⟩,?_,Store.set_same _ _ _,htb.beside (by simp[Store.del,n5,h85]) (fun e=>by obtain⟨_,_,q⟩:=htb.tok_some e;rw[t5] at q;cases q),by simp[hrl],?_,?_⟩
        . rw[Store.set_ne _ _ (Ne.symm n5)];exact k3 _ _ ((Store.set_ne _ _ (Ne.symm fbc)).trans hb2)
        . rw[Store.set_ne _ _ (Ne.symm n54)];exact k3 _ _ ((Store.set_ne _ _ (Ne.symm fb4)).trans q4)
        . rw[List.nodup_append]
          exact⟨hnd,by simp,fun x hx y hy=>by simp at hy;subst hy;exact fun e=>fbr (e ▸ hx)⟩
        . intro d hd
          rcases List.mem_append.1 hd with hd|hd
          . obtain⟨p1,p2,p3,p4,p5⟩:=hrs d hd
            have hdb:d≠b:=fun e=>fbr (e ▸ hd)
            exact⟨p1,p2,p3,p4,by rw[Store.set_ne _ _ p4];exact k3 _ _ ((Store.set_ne _ _ hdb).trans p5)⟩
          . simp at hd
            subst hd;exact⟨fb0,fbc,fb4,fb5,by rw[Store.set_ne _ _ fb5];exact k3 _ _ (Store.set_same _ _ _)⟩))
    . ((
        refine os_makeSlice lay rfl tt22 rfl tt3 rfl (by decide) rfl rfl (n:=sp) (by simp[e6]) (by simp[e6]) ⟨by omega,by omega⟩ fun b hbn=>?_
        obtain⟨fb0,fbc,fb4,fb5,fb5',fbr⟩:=fresh b hbn;have up:=htok.up (Store.le_set (x:=.cells (List.replicate sp (int 0))) (Store.le_refl _) hbn);have q5b:(σ'.set b (.cells (List.replicate sp (int 0)))) c5=some (.cells [.lit (.slice none 0 0),a,int 0,int 0,int dye,int most]):=(Store.set_ne _ _ fb5').trans q5;refine PendW.go lay [] ?_;simp[e5,e6,q5b,htc.1,htc.2]))
      refine⟨?_,?_⟩
      . ((
          refine os_append lay rfl rfl rfl tt24 rfl tt24 rfl tt22 (by decide) (by simp;omega) (σ0:=(σ'.set b (.cells (List.replicate sp (int 0)))).off a) (es:=rs.map fun b:Nat=>AV.msl b 0 sp sp) (xs:=[AV.msl b 0 sp sp]) (by simpa using up.here.1) (.inr ⟨_,by simp;rfl⟩) fun a' σ3 ht'=>?_
          have hta:=ht'.cells;have k3:∀ y l,(σ'.set b (.cells (List.replicate sp (int 0)))) y=some (.cells l)->σ3 y=some (.cells l):=fun y l hy=>ht'.1 _ _ (by rw[Store.off_ne (nta _ up y l hy)];exact hy)
          have t5:=k3 _ _ q5b;refine PendW.go lay [] ?_;simp[e5,t5,hta.1,hta.2,splice];refine Resume.run lay [] ?_;simp[e8,f1.1,f1.2];obtain⟨nb,zb,hb1,hb2⟩:=hbi
          have htb:Tok (σ.del c) σ3 a' 1 ((rs ++ [b]).map fun b:Nat=>AV.msl b 0 sp sp):=by
            have:=ht'.base up.here.2;simpa using this
          refine ih _ g1 ⟨_,_,a',rs ++ [b],rfl,by simp[e0],by simp[e1],by simp[e4],by simp[e5],by simp[e6],by simp[e7],by simp,⟨nb,zb,hb1,?_⟩,?_,Store.set_same _ _ _,htb.beside (by simp[Store.del,n5,h85]) (fun e=>by obtain⟨_,_,q⟩:=htb.tok_some e;rw[t5] at q;cases q),by simp[hrl],?_,?_⟩
          . rw[Store.set_ne _ _ (Ne.symm n5)];exact k3 _ _ ((Store.set_ne _ _ (Ne.symm fbc)).trans hb2)
          . rw[Store.set_ne _ _ (Ne.symm n54)];exact k3 _ _ ((Store.set_ne _ _ (Ne.symm fb4)).trans q4)
          . rw[List.nodup_append]
            exact⟨hnd,by simp,fun x hx y hy=>by simp at hy;subst hy;exact fun e=>fbr (e ▸ hx)⟩
          . intro d hd
            rcases List.mem_append.1 hd with hd|hd
            . obtain⟨p1,p2,p3,p4,p5⟩:=hrs d hd
              have hdb:d≠b:=fun e=>fbr (e ▸ hd)
              exact⟨p1,p2,p3,p4,by rw[Store.set_ne _ _ p4];exact k3 _ _ ((Store.set_ne _ _ hdb).trans p5)⟩
            . simp at hd
              subst hd;exact⟨fb0,fbc,fb4,fb5,by rw[Store.set_ne _ _ fb5];exact k3 _ _ (Store.set_same _ _ _)⟩))
      . ((
          refine os_append lay rfl rfl rfl tt24 rfl tt24 rfl tt22 (by decide) (by simp;omega) (σ0:=(σ'.set b (.cells (List.replicate sp (int 0)))).off a) (es:=rs.map fun b:Nat=>AV.msl b 0 sp sp) (xs:=[AV.msl b 0 sp sp]) (by simpa using up.here.1) (.inr ⟨_,by simp;rfl⟩) fun a' σ3 ht'=>?_
          have hta:=ht'.cells;have k3:∀ y l,(σ'.set b (.cells (List.replicate sp (int 0)))) y=some (.cells l)->σ3 y=some (.cells l):=fun y l hy=>ht'.1 _ _ (by rw[Store.off_ne (nta _ up y l hy)];exact hy)
          have t5:=k3 _ _ q5b;refine PendW.go lay [] ?_;simp[e5,t5,hta.1,hta.2,splice];refine Resume.run lay [] ?_;simp[e8,f1.1,f1.2];obtain⟨nb,zb,hb1,hb2⟩:=hbi
          have htb:Tok (σ.del c) σ3 a' 1 ((rs ++ [b]).map fun b:Nat=>AV.msl b 0 sp sp):=by
            have:=ht'.base up.here.2;simpa using this
          refine ih _ g1 ⟨_,_,a',rs ++ [b],rfl,by simp[e0],by simp[e1],by simp[e4],by simp[e5],by simp[e6],by simp[e7],by simp,⟨nb,zb,hb1,?_⟩,?_,Store.set_same _ _ _,htb.beside (by simp[Store.del,n5,h85]) (fun e=>by obtain⟨_,_,q⟩:=htb.tok_some e;rw[t5] at q;cases q),by simp[hrl],?_,?_⟩
          . rw[Store.set_ne _ _ (Ne.symm n5)];exact k3 _ _ ((Store.set_ne _ _ (Ne.symm fbc)).trans hb2)
          . rw[Store.set_ne _ _ (Ne.symm n54)];exact k3 _ _ ((Store.set_ne _ _ (Ne.symm fb4)).trans q4)
          . rw[List.nodup_append]
            exact⟨hnd,by simp,fun x hx y hy=>by simp at hy;subst hy;exact fun e=>fbr (e ▸ hx)⟩
          . intro d hd
            rcases List.mem_append.1 hd with hd|hd
            . obtain⟨p1,p2,p3,p4,p5⟩:=hrs d hd
              have hdb:d≠b:=fun e=>fbr (e ▸ hd)
              exact⟨p1,p2,p3,p4,by rw[Store.set_ne _ _ p4];exact k3 _ _ ((Store.set_ne _ _ hdb).trans p5)⟩
            . simp at hd
              subst hd;exact⟨fb0,fbc,fb4,fb5,by rw[Store.set_ne _ _ fb5];exact k3 _ _ (Store.set_same _ _ _)⟩))
  . have hi':sp=i:=by omega
    subst hi';clear ih hbag4 h45 h44 hle4
    obtain⟨spr,rfl⟩:∃ spr,a = .sl 1 (rs.map fun b:Nat=>AV.msl b 0 sp sp) spr:=by
      rcases htok.2 with ⟨_,e⟩|e|⟨_,_,_,e,_⟩
      . have:=congrArg List.length e
        rw[List.length_map] at this;simp only[List.length_nil] at this;omega
      . exact⟨_,e⟩
      . exact⟨_,e⟩
    have hle:=htok.1;clear htok
    have hrb:∀ (j:Nat) (hj:j<rs.length),σ rs[j]=none∧rs[j]≠c∧rs[j]≠c4∧rs[j]≠c5:=fun j hj=>by
      obtain⟨p1,p2,p3,p4,_⟩:=hrs _ (List.getElem_mem hj);exact⟨p1,p2,p3,p4⟩
    refine Resume.run lay [] ?_;simp[e0,e1,e4,e5,e6,e7,e8]
    have hcells:∀ (j:Nat) (hj:j<rs.length),σ' rs[j]=some (.cells (((List.replicate sp (List.replicate sp (0:Int))).getD j []).map int)):=fun j hj=>by
      rw[(hrs _ (List.getElem_mem hj)).2.2.2.2];simp[List.getD_eq_getElem?_getD,show j<sp by omega]
    clear hrs
    refine Resume.loop sp (fun i s => ∃ env σ' M,s=⟨env,σ',[],.no⟩∧env 0 = .ref c 0∧env 1=int cnt∧env 4 = .ref c4 0∧env 5 = .ref c5 0∧env 6=int sp∧env 7=int lo∧env 9=int i∧BagAt c nums (k+4+3*i) σ'∧σ' c4=some (.cells fair0)∧σ' c5=some (.cells [.lit (.slice none 0 0),.sl 1 (rs.map fun b:Nat=>AV.msl b 0 sp sp) spr,int 0,int 0,int dye,int most]) ∧
      (σ.del c).Le σ'∧MOK sp lo i 0 M∧∀ (j:Nat) (hj:j<rs.length),σ' rs[j]=some (.cells ((M.getD j []).map int))) ⟨_,σ',_,rfl,by simp[e0],by simp[e1],by simp[e4],by simp[e5],by simp[e6],by simp[e7],by simp,hbi,q4,q5,hle,MOK.start sp lo,hcells⟩ ?_
    clear e0 e1 e4 e5 e6 e7 e8 hbi q4 q5 hle hcells
    rintro c1 i _ hi2 ⟨env,σ',M,rfl,e0,e1,e4,e5,e6,e7,e9,hbi,q4,q5,hle,hM,hcells⟩ ih
    rcases Nat.lt_or_ge i sp with g2|g2
    . have g2':(i:Int)<sp:=by omega
      refine Resume.run lay [] ?_;simp[e0,e1,e4,e5,e6,e7,e9,g2']
      refine Resume.loop i (fun j s => ∃ env σ' M,s=⟨env,σ',[],.no⟩∧env 0 = .ref c 0∧env 1=int cnt∧env 4 = .ref c4 0∧env 5 = .ref c5 0∧env 6=int sp∧env 7=int lo∧env 9=int i∧env 10=int j∧BagAt c nums (k+4+3*i+j) σ'∧σ' c4=some (.cells fair0)∧σ' c5=some (.cells [.lit (.slice none 0 0),.sl 1 (rs.map fun b:Nat=>AV.msl b 0 sp sp) spr,int 0,int 0,int dye,int most]) ∧
        (σ.del c).Le σ'∧MOK sp lo i j M∧∀ (j:Nat) (hj:j<rs.length),σ' rs[j]=some (.cells ((M.getD j []).map int))) ⟨_,σ',M,rfl,by simp[e0],by simp[e1],by simp[e4],by simp[e5],by simp[e6],by simp[e7],by simp[e9],by simp,hbi,q4,q5,hle,hM,hcells⟩ ?_
      clear e0 e1 e4 e5 e6 e7 e9 hbi q4 q5 hle hM hcells
      rintro c2 j _ hj ⟨env,σ',M,rfl,e0,e1,e4,e5,e6,e7,e9,e10,hbi,q4,q5,hle,hM,hcells⟩ ih2
      rcases Nat.lt_or_ge j i with g3|g3
      . have g3':(j:Int)<i:=by omega
        have f1 : -9223372036854775808≤(j:Int)+1∧(j:Int)+1≤9223372036854775807:=by omega
        have f2 : -9223372036854775808≤2*lo∧2*lo≤9223372036854775807:=by omega
        refine Resume.run lay [] ?_;simp[e0,e1,e4,e5,e6,e7,e9,e10,g3',f2.1,f2.2];refine callFn Tryz.func16 rfl rfl (Among_ok (by omega) hn ⟨by omega,by omega⟩ ⟨by omega,by omega⟩ hbi fun v σ2 hv hd=>?_)
        have s5:σ2 c5=some (.cells [.lit (.slice none 0 0),.sl 1 (rs.map fun b:Nat=>AV.msl b 0 sp sp) spr,int 0,int 0,int dye,int most]):=by rw[hd.2 c5 n5];exact q5
        have s4:σ2 c4=some (.cells fair0):=by rw[hd.2 c4 n45];exact q4
        have hrl':i<rs.length:=by omega
        have hrl2:j<rs.length:=by omega
        obtain⟨z1,z2,z3,z4⟩:=hrb i hrl';obtain⟨y1,y2,y3,y4⟩:=hrb j hrl2;have si:σ2 rs[i]=some (.cells ((M.getD i []).map int)):=by rw[hd.2 _ z2];exact hcells i hrl'
        have sj:σ2 rs[j]=some (.cells ((M.getD j []).map int)):=by rw[hd.2 _ y2];exact hcells j hrl2
        have hij:rs[i]≠rs[j]:=nodup_ne hnd (by omega)
        have hij':=Ne.symm hij;obtain⟨Ri,hRi⟩:∃ R,R=M.getD i []:=⟨_,rfl⟩;obtain⟨Rj,hRj⟩:∃ R,R=M.getD j []:=⟨_,rfl⟩;have li:=hM.row i (by omega)
        have lj:=hM.row j (by omega)
        rw[← hRi] at si li;rw[← hRj] at sj lj;have hli:j+1≤sp:=by omega
        have hlj:i+1≤sp:=by omega
        have g4:j<sp:=by omega
        have g4':(j:Int)<sp:=by omega
        have g2'':(i:Int)<sp:=by omega
        have hF : ∀ σ3,σ3=(σ2.set rs[i] (.cells ((Ri.map int).set j (int v)))).set rs[j] (.cells ((Rj.map int).set i (int v)))->BagAt c nums (k+4+3*i+(j+1)) σ3∧σ3 c4=some (.cells fair0)∧σ3 c5=some (.cells [.lit (.slice none 0 0),.sl 1 (rs.map fun b:Nat=>AV.msl b 0 sp sp) spr,int 0,int 0,int dye,int most])∧(σ.del c).Le σ3∧∀ (l:Nat) (hl:l<rs.length),σ3 rs[l]=some (.cells (((updM M i j v).getD l []).map int)):=fun σ3 e3=>by
          subst e3;refine⟨?_,?_,?_,fun y x hy=>?_,fun l hl=>?_⟩
          . obtain⟨nb,zb,hb1,hb2⟩:=hd.1
            exact⟨nb,zb,by omega,by rw[Store.set_ne _ _ (Ne.symm y2),Store.set_ne _ _ (Ne.symm z2)];exact hb2⟩
          . rw[Store.set_ne _ _ (Ne.symm y3),Store.set_ne _ _ (Ne.symm z3)];exact s4
          . rw[Store.set_ne _ _ (Ne.symm y4),Store.set_ne _ _ (Ne.symm z4)];exact s5
          . have w1:y≠c:=fun e=>by subst e;simp[Store.del] at hy
            have w0:σ y=some x:=by simpa[Store.del,w1] using hy
            have w2:y≠rs[i]:=fun e=>by rw[e,z1] at w0;cases w0
            have w3:y≠rs[j]:=fun e=>by rw[e,y1] at w0;cases w0
            rw[Store.set_ne _ _ w3,Store.set_ne _ _ w2,hd.2 y w1];exact hle y x hy
          . rw [updM_getD (by rw[hM.len];omega) (by rw[hM.len];omega) (by omega),← hRi,← hRj]
            by_cases q1:l=j
            . subst q1
              rw[if_pos rfl,Store.set_same,List.map_set]
            . rw[if_neg q1,Store.set_ne _ _ (nodup_ne hnd q1)]
              by_cases q2:l=i
              . subst q2
                rw[if_pos rfl,Store.set_same,List.map_set]
              . rw[if_neg q2,Store.set_ne _ _ (nodup_ne hnd q2),hd.2 _ (hrb l hl).2.1]
                exact hcells l hl
        have hF':=hF _ rfl;clear hF;refine Resume.run lay [] ?_;simp[e0,e1,e4,e5,e6,e7,e9,e10,s5,hrl,g2,g4,g4',g2'',hli,hlj,li,lj,si,sj,Store.set_ne,hij,hij'];refine⟨?_,?_⟩
        . refine Resume.run lay [] ?_
          simp[e0,e1,e4,e5,e6,e7,e9,e10,f1.1,f1.2];exact ih2 _ g3 ⟨_,_,updM M i j v,rfl,by simp[e0,e1,e4,e5,e6,e7,e9,e10],by simp[e0,e1,e4,e5,e6,e7,e9,e10],by simp[e0,e1,e4,e5,e6,e7,e9,e10],by simp[e0,e1,e4,e5,e6,e7,e9,e10],by simp[e0,e1,e4,e5,e6,e7,e9,e10],by simp[e0,e1,e4,e5,e6,e7,e9,e10],by simp[e0,e1,e4,e5,e6,e7,e9,e10],by simp[e0,e1,e4,e5,e6,e7,e9,e10],hF'.1,hF'.2.1,hF'.2.2.1,hF'.2.2.2.1,hM.next (by omega) g3 ⟨hv.1,by omega⟩,hF'.2.2.2.2⟩
        . refine Resume.run lay [] ?_
          simp[e0,e1,e4,e5,e6,e7,e9,e10,f1.1,f1.2];exact ih2 _ g3 ⟨_,_,updM M i j v,rfl,by simp[e0,e1,e4,e5,e6,e7,e9,e10],by simp[e0,e1,e4,e5,e6,e7,e9,e10],by simp[e0,e1,e4,e5,e6,e7,e9,e10],by simp[e0,e1,e4,e5,e6,e7,e9,e10],by simp[e0,e1,e4,e5,e6,e7,e9,e10],by simp[e0,e1,e4,e5,e6,e7,e9,e10],by simp[e0,e1,e4,e5,e6,e7,e9,e10],by simp[e0,e1,e4,e5,e6,e7,e9,e10],hF'.1,hF'.2.1,hF'.2.2.1,hF'.2.2.2.1,hM.next (by omega) g3 ⟨hv.1,by omega⟩,hF'.2.2.2.2⟩
      . have hji:i=j:=by omega
        subst hji;have f1 : -9223372036854775808≤(i:Int)+1∧(i:Int)+1≤9223372036854775807:=by omega
        refine Resume.run lay [] ?_;simp[e0,e1,e4,e5,e6,e7,e9,e10,f1.1,f1.2];exact ih _ g2 ⟨_,_,M,rfl,by simp[e0,e1,e4,e5,e6,e7,e9,e10],by simp[e0,e1,e4,e5,e6,e7,e9,e10],by simp[e0,e1,e4,e5,e6,e7,e9,e10],by simp[e0,e1,e4,e5,e6,e7,e9,e10],by simp[e0,e1,e4,e5,e6,e7,e9,e10],by simp[e0,e1,e4,e5,e6,e7,e9,e10],by simp[e0,e1,e4,e5,e6,e7,e9,e10],hbi.mono (by omega),q4,q5,hle,hM.line,hcells⟩
    . have hi3:sp=i:=by omega
      subst hi3;clear ih;have hMl:∀ l,l<rs.length->(M.getD l []).length=sp:=fun l hl=>hM.row l (by omega)
      have hc5:c5 ∉ rs:=fun e=>by
        obtain⟨l,hl,e'⟩:=List.mem_iff_getElem.1 e;exact (hrb l hl).2.2.2 e'
      have hrows0:rs.map (fun b:Nat=>AV.msl b 0 sp sp)=rowsAt rs M sp 0:=by
        apply List.ext_getElem?;intro l
        by_cases hl:l<rs.length
        . rw[rowsAt_get hl,if_neg (by omega),List.getElem?_map,List.getElem?_eq_getElem hl]
          simp[List.getD_eq_getElem?_getD,hl]
        . rw[List.getElem?_eq_none (by rw[List.length_map];omega),List.getElem?_eq_none (by rw[rowsAt_len];omega)]
      have hrows1:rowsAt rs M sp rs.length=M.map ints:=by
        have hML:=hM.len;apply List.ext_getElem?;intro l
        by_cases hl:l<rs.length
        . have hlM:l<M.length:=by omega
          rw[rowsAt_get hl,if_pos hl,List.getElem?_map,List.getElem?_eq_getElem hlM];simp[List.getD_eq_getElem?_getD,hlM]
        . rw[List.getElem?_eq_none (by rw[rowsAt_len];omega),List.getElem?_eq_none (by rw[List.length_map];omega)]
      rw[hrows0] at q5;refine thawRows (d:=c5) (n:=sp) (at_:=1) (rs:=rs) (M:=M) (cs:=[.lit (.slice none 0 0),.junk,int 0,int 0,int dye,int most]) (spr:=spr) σ' hnd hMl (by simp) hc5 (fun σ3 h31 h32=>?_) rs.length 0 (by omega) σ' (by simpa using q5) (fun l hl _=>hcells l hl) (fun _ _ _=>rfl)
      rw[hrows1] at h31;have hRok:=hM.fin;have hML:=hM.len
      have k3:∀ (j:Nat),j≠c5->(∀ (l:Nat) (hl:l<rs.length),rs[l]≠j)->σ3 j=σ' j:=fun j h1 h2=>h32 j h1 fun e=>by
        obtain⟨l,hl,e'⟩:=List.mem_iff_getElem.1 e;exact h2 l hl e'
      have s3c:BagAt c nums (k+4+3*sp) σ3:=by
        obtain⟨nb,zb,hb1,hb2⟩:=hbi;exact⟨nb,zb,hb1,by rw[k3 c (Ne.symm n5) (fun l hl=>(hrb l hl).2.1)];exact hb2⟩
      have s34:σ3 c4=some (.cells fair0):=by rw[k3 c4 (Ne.symm n54) (fun l hl=>(hrb l hl).2.2.1)];exact q4
      have s35:σ3 c5=some (.cells [.lit (.slice none 0 0),.sl 1 (M.map ints) spr,int 0,int 0,int dye,int most]):=by simpa using h31
      have hle3:(σ.del c).Le σ3:=fun y x hy=>by
        have w1:y≠c:=fun e=>by subst e;simp[Store.del] at hy
        have w0:σ y=some x:=by simpa[Store.del,w1] using hy
        rw[k3 y (fun e=>by subst e;rw[h85] at w0;cases w0) (fun l hl e=>by subst e;rw[(hrb l hl).1] at w0;cases w0)]
        exact hle y x hy
      clear h31 h32 hcells hrows0 hrows1 hbi q4 q5 hle hM hMl hc5 k3 hrb hnd hrl;refine Resume.run lay [] ?_;simp[e0,e1,e4,e5,e6,e7,e9];refine callFn Tryz.func14 rfl rfl (UpTo_ok (by omega) hn ⟨by omega,by omega⟩ s3c fun fr σ4 hx5 hd5=>?_)
      refine Resume.run lay [] ?_;simp[e0,e1,e4,e5,e6,e7,e9];refine callFn Tryz.func16 rfl rfl (Among_ok (by omega) hn ⟨by omega,by omega⟩ ⟨by omega,by omega⟩ hd5.1 fun to σ5 hx6 hd6=>?_)
      have t5:σ5 c5=some (.cells [.lit (.slice none 0 0),.sl 1 (M.map ints) spr,int 0,int 0,int dye,int most]):=by rw[hd6.2 c5 n5,hd5.2 c5 n5];exact s35
      refine Resume.run lay [] ?_;simp[e0,e1,e4,e5,e6,e7,e9,t5,splice];have t4:σ5 c4=some (.cells fair0):=by rw[hd6.2 c4 n45,hd5.2 c4 n45];exact s34
      have hle5:(σ.del c).Le σ5:=fun y x hy=>by
        have w1:y≠c:=fun e=>by subst e;simp[Store.del] at hy
        rw[hd6.2 y w1,hd5.2 y w1];exact hle3 y x hy
      have hb6:∀ x,BagAt c nums (k+6+3*sp) (σ5.set c5 x):=fun x=>by
        obtain⟨n,z,h1,h2⟩:=hd6.1;exact⟨n,z,by omega,by rw[Store.set_ne _ _ (Ne.symm n5)];exact h2⟩
      refine callFn Tryz.func14 rfl rfl (UpTo_ok (by omega) hn ⟨by omega,by omega⟩ (hb6 _) fun q σ6 hx7 hd7=>?_)
      refine Resume.run lay [] ?_;simp[e0,e1,e4,e5,e6,e7,e9];have u5:σ6 c5=some (.cells [.lit (.slice none 0 0),.sl 1 (M.map ints) spr,int fr,int to,int dye,int most]):=by rw[hd7.2 c5 n5,Store.set_same]
      have u4:σ6 c4=some (.cells fair0):=by rw[hd7.2 c4 n45,Store.set_ne _ _ (Ne.symm n54)];exact t4
      have hle6:(σ.del c).Le σ6:=fun y x hy=>by
        have w1:y≠c:=fun e=>by subst e;simp[Store.del] at hy
        have w0:σ y=some x:=by simpa[Store.del,w1] using hy
        rw[hd7.2 y w1,Store.set_ne _ _ (fun e=>by subst e;rw[h85] at w0;cases w0)];exact hle5 y x hy
      obtain⟨qn,rfl⟩:∃ qn:Nat,q=(qn:Int):=⟨q.toNat,by omega⟩
      have hqn:(qn:Int)≤cnt:=by omega
      have hbj0:=hd7.1;clear hd5 hd6 hd7 hb6 s3c s34 s35 hle3 hle5 t5 t4
      refine Resume.loop qn (fun i s => ∃ env σ' a es,s=⟨env,σ',[],.no⟩∧env 0 = .ref c 0∧env 4 = .ref c4 0∧env 5 = .ref c5 0∧env 6=int sp∧env 13=int ((qn:Int)-i)∧BagAt c nums (k+7+3*sp+11*i) σ'∧σ' c4=some (.cells fair0)∧σ' c5=some (.cells [a,.sl 1 (M.map ints) spr,int fr,int to,int dye,int most]) ∧
        Tok (σ.del c) σ' a 6 (es.map entA)∧es.length=i∧∀ e∈es,EntOK sp e) ⟨_,σ6,.lit (.slice none 0 0),[],rfl,by simp[e0],by simp[e4],by simp[e5],by simp[e6],by simp,hbj0.mono (by omega),u4,u5,⟨hle6,.inl ⟨rfl,rfl⟩⟩,rfl,by simp⟩ ?_
      clear e0 e1 e4 e5 e6 e7 e9 hbj0 u4 u5 hle6
      rintro c3 i _ hi4 ⟨env,σ',a,es,rfl,e0,e4,e5,e6,e13,hbj,q4,q5,htok,hel,hes⟩ ih
      have htc:=htok.cells;have nta2:∀ σx:Store,Tok (σ.del c) σx a 6 (es.map entA)->∀ y l,σx y=some (.cells l)->tokBlk a≠some y:=fun σx hx y l hy e=>by obtain⟨_,_,q⟩:=hx.tok_some e;rw[hy] at q;cases q
      have hbc:∃ l,σ' c=some (.cells l):=by obtain⟨_,_,_,q⟩:=hbj;exact⟨_,q⟩
      rcases Nat.lt_or_ge i qn with g1|g1
      . have f1 : -9223372036854775808≤(qn:Int)-i-1∧(qn:Int)-i-1≤9223372036854775807:=by omega
        refine Resume.run lay [] ?_;simp[e0,e4,e5,e6,e13,q5,htc.1,htc.2,g1];refine⟨?_,?_⟩
        . ((
            refine callFn Tryz.func18 rfl rfl (EntryOf_ok (by omega) hn ⟨by omega,by omega⟩ hbj fun e σ2 he hd=>?_)
            have s5:σ2 c5=some (.cells [a,.sl 1 (M.map ints) spr,int fr,int to,int dye,int most]):=by rw[hd.2 c5 n5];exact q5
            have s4:σ2 c4=some (.cells fair0):=by rw[hd.2 c4 n45];exact q4
            have htk:Tok (σ.del c) σ2 a 6 (es.map entA):=tok_but htok (by simp[Store.del]) hbc hd.2
            refine PendW.go lay [] ?_;simp[e5,s5,htc.1,htc.2]))
          ((
            refine os_append lay rfl rfl rfl tt23 rfl tt23 rfl tt45 (by decide) (by simp;omega) (σ0:=σ2.off a) (es:=es.map entA) (xs:=[entA e]) (by simpa using htk.here.1) (.inr ⟨_,by simp;rfl⟩) fun a' σ3 ht'=>?_
            have hta:=ht'.cells;have k3:∀ y l,σ2 y=some (.cells l)->σ3 y=some (.cells l):=fun y l hy=>ht'.1 _ _ (by rw[Store.off_ne (nta2 _ htk y l hy)];exact hy)
            have t5:=k3 _ _ s5;have t4:=k3 _ _ s4;refine PendW.go lay [] ?_;simp[e5,t5,hta.1,hta.2,splice];refine Resume.run lay [] ?_;simp[e13,f1.1,f1.2];obtain⟨nb,zb,hb1,hb2⟩:=hd.1
            have htb:Tok (σ.del c) σ3 a' 6 ((es ++ [e]).map entA):=by
              have:=ht'.base htk.here.2;simpa using this
            refine ih _ g1 ⟨_,_,a',es ++ [e],rfl,by simp[e0],by simp[e4],by simp[e5],by simp[e6],by simp;omega,⟨nb,zb,by omega,?_⟩,?_,Store.set_same _ _ _,htb.beside (by simp[Store.del,n5,h85]) (fun e=>by obtain⟨_,_,q⟩:=htb.tok_some e;rw[t5] at q;cases q),by simp[hel],?_⟩
            . rw[Store.set_ne _ _ (Ne.symm n5)];exact k3 _ _ hb2
            . rw[Store.set_ne _ _ (Ne.symm n54)];exact t4
            . intro x hx
              rcases List.mem_append.1 hx with hx|hx
              . exact hes x hx
              . simp at hx;subst hx;exact he))
        . ((
            refine callFn Tryz.func18 rfl rfl (EntryOf_ok (by omega) hn ⟨by omega,by omega⟩ hbj fun e σ2 he hd=>?_)
            have s5:σ2 c5=some (.cells [a,.sl 1 (M.map ints) spr,int fr,int to,int dye,int most]):=by rw[hd.2 c5 n5];exact q5
            have s4:σ2 c4=some (.cells fair0):=by rw[hd.2 c4 n45];exact q4
            have htk:Tok (σ.del c) σ2 a 6 (es.map entA):=tok_but htok (by simp[Store.del]) hbc hd.2
            refine PendW.go lay [] ?_;simp[e5,s5,htc.1,htc.2]))
          refine⟨?_,?_⟩
          . ((
              refine os_append lay rfl rfl rfl tt23 rfl tt23 rfl tt45 (by decide) (by simp;omega) (σ0:=σ2.off a) (es:=es.map entA) (xs:=[entA e]) (by simpa using htk.here.1) (.inr ⟨_,by simp;rfl⟩) fun a' σ3 ht'=>?_
              have hta:=ht'.cells;have k3:∀ y l,σ2 y=some (.cells l)->σ3 y=some (.cells l):=fun y l hy=>ht'.1 _ _ (by rw[Store.off_ne (nta2 _ htk y l hy)];exact hy)
              have t5:=k3 _ _ s5;have t4:=k3 _ _ s4;refine PendW.go lay [] ?_;simp[e5,t5,hta.1,hta.2,splice];refine Resume.run lay [] ?_;simp[e13,f1.1,f1.2];obtain⟨nb,zb,hb1,hb2⟩:=hd.1
              have htb:Tok (σ.del c) σ3 a' 6 ((es ++ [e]).map entA):=by
                have:=ht'.base htk.here.2;simpa using this
              refine ih _ g1 ⟨_,_,a',es ++ [e],rfl,by simp[e0],by simp[e4],by simp[e5],by simp[e6],by simp;omega,⟨nb,zb,by omega,?_⟩,?_,Store.set_same _ _ _,htb.beside (by simp[Store.del,n5,h85]) (fun e=>by obtain⟨_,_,q⟩:=htb.tok_some e;rw[t5] at q;cases q),by simp[hel],?_⟩
              . rw[Store.set_ne _ _ (Ne.symm n5)];exact k3 _ _ hb2
              . rw[Store.set_ne _ _ (Ne.symm n54)];exact t4
              . intro x hx
                rcases List.mem_append.1 hx with hx|hx
                . exact hes x hx
                . simp at hx;subst hx;exact he))
          . ((
              refine os_append lay rfl rfl rfl tt23 rfl tt23 rfl tt45 (by decide) (by simp;omega) (σ0:=σ2.off a) (es:=es.map entA) (xs:=[entA e]) (by simpa using htk.here.1) (.inr ⟨_,by simp;rfl⟩) fun a' σ3 ht'=>?_
              have hta:=ht'.cells;have k3:∀ y l,σ2 y=some (.cells l)->σ3 y=some (.cells l):=fun y l hy=>ht'.1 _ _ (by rw[Store.off_ne (nta2 _ htk y l hy)];exact hy)
              have t5:=k3 _ _ s5;have t4:=k3 _ _ s4;refine PendW.go lay [] ?_;simp[e5,t5,hta.1,hta.2,splice];refine Resume.run lay [] ?_;simp[e13,f1.1,f1.2];obtain⟨nb,zb,hb1,hb2⟩:=hd.1
              have htb:Tok (σ.del c) σ3 a' 6 ((es ++ [e]).map entA):=by
                have:=ht'.base htk.here.2;simpa using this
              refine ih _ g1 ⟨_,_,a',es ++ [e],rfl,by simp[e0],by simp[e4],by simp[e5],by simp[e6],by simp;omega,⟨nb,zb,by omega,?_⟩,?_,Store.set_same _ _ _,htb.beside (by simp[Store.del,n5,h85]) (fun e=>by obtain⟨_,_,q⟩:=htb.tok_some e;rw[t5] at q;cases q),by simp[hel],?_⟩
              . rw[Store.set_ne _ _ (Ne.symm n5)];exact k3 _ _ hb2
              . rw[Store.set_ne _ _ (Ne.symm n54)];exact t4
              . intro x hx
                rcases List.mem_append.1 hx with hx|hx
                . exact hes x hx
                . simp at hx;subst hx;exact he))
      . have hiq:i=qn:=by omega
        subst hiq;refine Resume.run lay [] ?_;simp[e0,e4,e5,e6,e13,q5,htc.1,htc.2,q4,splice];obtain⟨nb,zb,hb1,hb2⟩:=hbj;obtain⟨f,hf⟩:∃ f:Fr,f=⟨es,M,fr,to,dye,most⟩:=⟨_,rfl⟩
        have hOK:FairOK cnt f:=by
          subst hf;refine⟨hdye,hmost,by show 1≤M.length∧M.length≤3;omega,⟨lo,hlo,by show RoadsOK M.length lo M;rw[hML];exact hRok⟩,by show 0≤fr∧fr≤2;omega,by show fr≤to∧to≤2;omega,by show (es.length:Int)≤cnt;omega,fun e he=>?_⟩
          show EntOK M.length e;rw[hML];exact hes e he
        refine .weak (a':=fairA f) (W_aggE (by subst hf;rfl) fun i x y x1 x2=>?_) (.less (σ':=σ.set c (.cells [ints nums,int nb,.lit (.int .u64 zb)])) (fun y x hy=>?_) (.done (h f _ hOK ⟨⟨nb,zb,by omega,Store.set_same _ _ _⟩,fun y hy=>Store.set_ne _ _ hy⟩)))
        . subst hf
          match i with
          | 0=>simp at x1 x2;subst x1;subst x2;exact htok.W
          | 1=>simp at x1 x2;subst x1;subst x2;exact W_any 1 _ spr
          | 2=>simp at x1 x2;subst x1;subst x2;exact .refl _
          | 3=>simp at x1 x2;subst x1;subst x2;exact .refl _
          | 4=>simp at x1 x2;subst x1;subst x2;exact .refl _
          | 5=>simp at x1 x2;subst x1;subst x2;exact .refl _
          | i+6=>simp at x1
        . by_cases y1:y=c
          . subst y1
            rw[Store.set_same] at hy;rw[Store.set_ne _ _ n4,hb2];exact hy
          . rw[Store.set_ne _ _ y1] at hy
            have y4:y≠c4:=fun e=>by subst e;rw[h4] at hy;cases hy
            rw[Store.set_ne _ _ y4];exact htok.1 y x (by simpa[Store.del,y1] using hy)
end
end Go.Proofs.YtibjfmfdjncniaaGreatDoor
namespace Go.Proofs.YtibjfmfdjncniaaGreatDoor
open Go.Pal Go.Conc
set_option maxHeartbeats 2000000
set_option maxRecDepth 4000
variable {m:Mo} {σ:Store} {KF:Res->Store->Prop}
def upTo (low top:Int):List Int:=(List.range (top+1-low).toNat).map fun i:Nat=>low+i
def lowOf (i:Nat) (l:List Int):Int:=if i=0 then 0 else l.getD (i-1) 0+1
def growRow (n k:Int) (i:Nat) (l:List Int):List (List Int):=(upTo (lowOf i l) (n-k+i)).map fun y=>l ++ [y]
def chosenN (n k:Int):Nat->List (List Int)
  | 0=>[[]]
  | i+1=>(chosenN n k i).flatMap (growRow n k i)
def chosenL (n:Int) (k:Nat):List (List Int):=chosenN n k k
structure Asc (n:Int) (i:Nat) (l:List Int):Prop where
  len:l.length=i
  mem:∀ x∈l,0≤x∧x<n
  asc:∀ a b,a<b->b<i->l.getD a 0<l.getD b 0
theorem chosenN_asc {n k:Int}:∀ (i:Nat),(i:Int)≤k->∀ l∈chosenN n k i,Asc n i l
  | 0,_,l,hl=>by
    simp[chosenN] at hl;subst hl;exact⟨rfl,by simp,fun a b h1 h2=>by omega⟩
  | i + 1,hi,l,hl=>by
    unfold chosenN at hl;obtain⟨p,hp,hq⟩:=List.mem_flatMap.1 hl;have hA:=chosenN_asc i (by omega) p hp
    unfold growRow at hq;obtain⟨y,hy,rfl⟩:=List.mem_map.1 hq;unfold upTo at hy;obtain⟨t,ht,rfl⟩:=List.mem_map.1 hy;have ht:=List.mem_range.1 ht
    have hlow:0≤lowOf i p∧∀ a,a<i->p.getD a 0<lowOf i p:=by
      unfold lowOf;split
      . exact⟨by omega,fun a h=>by omega⟩
      . next h0=>
        have hlt:i-1<p.length:=by rw[hA.len];omega
        have hm:p.getD (i-1) 0∈p:=by
          rw[List.getD_eq_getElem?_getD,List.getElem?_eq_getElem hlt];exact List.getElem_mem hlt
        have:=hA.mem _ hm;refine⟨by omega,fun a ha=>?_⟩
        by_cases e:a=i-1
        . subst e;omega
        . have:=hA.asc a (i-1) (by omega) (by omega);omega
    have hlen:=hA.len;refine⟨by simp[hlen],fun x hx=>?_,fun a b hab hb=>?_⟩
    . rcases List.mem_append.1 hx with hx|hx
      . exact hA.mem x hx
      . simp at hx;subst hx;omega
    . by_cases e:b=i
      . subst e
        have e1:(p ++ [lowOf b p+t]).getD b 0=lowOf b p+t:=by
          rw[List.getD_eq_getElem?_getD,List.getElem?_append_right (by omega),hlen];simp
        have e2:(p ++ [lowOf b p+t]).getD a 0=p.getD a 0:=by
          rw[List.getD_eq_getElem?_getD,List.getElem?_append_left (by omega),← List.getD_eq_getElem?_getD]
        rw[e1,e2];have:=hlow.2 a hab;omega
      . have e1:(p ++ [lowOf i p+t]).getD b 0=p.getD b 0:=by
          rw[List.getD_eq_getElem?_getD,List.getElem?_append_left (by omega),← List.getD_eq_getElem?_getD]
        have e2:(p ++ [lowOf i p+t]).getD a 0=p.getD a 0:=by
          rw[List.getD_eq_getElem?_getD,List.getElem?_append_left (by omega),← List.getD_eq_getElem?_getD]
        rw[e1,e2];exact hA.asc a b hab (by omega)
theorem chosenL_asc {n:Int} {k:Nat} {l:List Int} (h:l∈chosenL n k):Asc n k l:=chosenN_asc k (Int.le_refl _) l h
end Go.Proofs.YtibjfmfdjncniaaGreatDoor
namespace Go.Proofs.YtibjfmfdjncniaaGreatDoor
open Go.Pal Go.Conc
set_option maxHeartbeats 1000000
set_option maxRecDepth 4000
variable {m:Mo} {σ:Store} {KF:Res->Store->Prop}
theorem OwnEntry_ok {e:Ent} (hl:e.marks.length≤1000000000) (h:KF (.val (entA e)) σ):FnOK Tryz.prog m 33 [entA e] σ KF:=by
  refine FnOK.start lay [1] [] 1 Tryz.func33 rfl rfl (by rfl) (by kernel_rfl) ?_
  simp[Tryz.f33];refine newW.intro fun c1 h1=>?_
  simp;refine newW.intro fun c2 h2=>?_
  obtain⟨z1,z2,h2⟩:=Store.set_none h2;simp[z1,z2,Store.set_ne,splice];refine callFn Tryz.func24 rfl rfl (OwnInts_ok hl ?_);refine Resume.run lay [1] ?_;simp[z1,z2,Store.set_ne,splice];refine .less (fun c x hx=>?_) (.done h)
  have n1:c≠c1:=fun e=>by subst e;rw[h1] at hx;cases hx
  have n2:c≠c2:=fun e=>by subst e;rw[h2] at hx;cases hx
  simp[Store.set_ne,n1,n2,hx]
theorem OwnRows_ok {r:List (List Int)} (hr:r.length≤1000000) (hl:∀ l∈r,l.length≤1000000000) (h:KF (.val (rows r)) σ):FnOK Tryz.prog m 32 [rows r] σ KF:=by
  refine FnOK.thaw ?_;refine FnOK.start lay [] [] 1 Tryz.func32 rfl rfl (by rfl) (by kernel_rfl) ?_
  simp[Tryz.f32];refine os_makeSlice lay rfl tt24 rfl tt22 rfl (by decide) rfl rfl (n:=r.length) (by simp) (by simp) ⟨by omega,by omega⟩ fun b hb=>?_
  refine Resume.run lay [] ?_;simp;refine Resume.loop r.length (fun i s => ∃ env,s=⟨env,σ.set b (.cells (List.take i (List.map ints r) ++ List.replicate (r.length-i) (.lit (.slice none 0 0)))),[],.no⟩∧env 0=rows r∧env 3 = .msl b 0 r.length r.length∧env 4=int i) ⟨_,by simp;rfl,by simp,by simp,by simp⟩ ?_
  rintro c0 i _ hi ⟨env,rfl,e0,e3,e4⟩ ih
  rcases Nat.lt_or_ge i r.length with g1|g1
  . have g1':(i:Int)<r.length:=by omega
    have f1 : -9223372036854775808≤(i:Int)+1∧(i:Int)+1≤9223372036854775807:=by omega
    refine Resume.run lay [] ?_;simp[e0,e3,e4,g1];refine callFn Tryz.func24 rfl rfl (OwnInts_ok (hl _ (List.getElem_mem g1)) ?_);have hsp:i+1≤min i r.length+(r.length-i):=by omega
    have hcell:List.take i (List.take i (List.map ints r) ++ List.replicate (r.length-i) (AV.lit (.slice none 0 0))) ++ AV.sl 1 (List.map int r[i]) .any :: List.drop (i+1) (List.take i (List.map ints r) ++ List.replicate (r.length-i) (AV.lit (.slice none 0 0)))=List.take (i+1) (List.map ints r) ++ List.replicate (r.length-(i+1)) (.lit (.slice none 0 0)):=by
      have hti:(List.take i (List.map ints r)).length=i:=by rw[List.length_take,List.length_map];omega
      obtain⟨q,hq⟩:∃ q,r.length-i=q+1:=⟨r.length-i-1,by omega⟩
      have hq':r.length-(i+1)=q:=by omega
      have e1:List.drop (i+1) (List.take i (List.map ints r) ++ List.replicate (r.length-i) (AV.lit (.slice none 0 0)))=List.replicate q (.lit (.slice none 0 0)):=by
        rw[List.drop_append,List.drop_eq_nil_of_le (by omega),hti,hq,Nat.add_sub_cancel_left]
        simp
      have e2:List.take (i+1) (List.map ints r)=List.take i (List.map ints r) ++ [ints r[i]]:=by
        rw[List.take_succ_eq_append_getElem (by rw[List.length_map];exact g1),List.getElem_map]
      rw[List.take_left' hti,e1,e2,hq',List.append_assoc];rfl
    refine Resume.run lay [] ?_;simp[e0,e3,e4,g1,f1.1,f1.2,splice,hsp,hcell];exact ih _ g1 ⟨_,rfl,by simp[e0,e3,e4],by simp[e0,e3,e4],by simp⟩
  . have hie:i=r.length:=by omega
    subst hie;refine Resume.run lay [] ?_;simp[e0,e3,e4];refine .done (OwnTok.thaw (σ0:=σ) (kk:=1) (es:=r.map ints) ⟨Store.le_set (Store.le_refl _) hb,.inr ⟨b,r.length,[],by simp,hb,by simp,fun e he=>?_,?_,by simp⟩⟩ h)
    . obtain⟨x,_,rfl⟩:=List.mem_map.1 he
      rfl
    . rw[flatten_self (fun e he=>by obtain⟨x,_,rfl⟩:=List.mem_map.1 he;rfl),List.append_nil]
      have ht:List.take r.length (List.map ints r)=List.map ints r:=List.take_of_length_le (by simp)
      simp[Store.set_same,ht]
theorem joinS {P:Program} {m:Mo} {fid n:Nat} {ro:Option Nat} {hold:List Entry} {K:Pal.Exit->St->Prop} {todo:List Item} {D:List ADef} {rc:Rec} {G:Prop} (I:Env->Store->Prop)
    (h1:(∀ env σ,I env σ->Resume P m fid n ro hold todo ⟨env,σ,D,rc⟩ K)->G) (h2:∀ env σ,I env σ->Resume P m fid n ro hold todo ⟨env,σ,D,rc⟩ K):G:=h1 h2
abbrev fairZ:List AV:=[.lit (.slice none 0 0),.lit (.slice none 0 0),int 0,int 0,int 0,int 0]
end Go.Proofs.YtibjfmfdjncniaaGreatDoor
namespace Go.Proofs.YtibjfmfdjncniaaGreatDoor
open Go.Pal Go.Conc
set_option maxHeartbeats 1000000
set_option maxRecDepth 4000
variable {m:Mo} {σ:Store} {KF:Res->Store->Prop}
theorem OwnFair_own {f:Fr} (hg:f.Good) (hm:∀ e∈f.ents,e.marks.length≤1000000000) (hr1:f.roads.length≤1000000) (hr2:∀ r∈f.roads,r.length≤1000000000) (h:∀ a σ',OwnTok σ σ' a 6 (f.ents.map entA)->KF (.val (.agg [a,rows f.roads,int f.sfrom,int f.sto,int f.dye,int f.most])) σ'):FnOK Tryz.prog m 13 [fairA f] σ KF:=by
  have h6:=hg.six;refine FnOK.start lay [] pl13 1 Tryz.func13 rfl rfl (by rfl) (by kernel_rfl) ?_
  simp[Tryz.f13];refine newW.intro fun c2 h2=>?_
  simp;apply joinS (I:=fun env σ' => ∃ c3,σ c3=none∧c3≠c2∧env 1 = .cp (fairA f) 0∧env 2 = .ref c2 0∧env 3 = .ref c3 0∧σ'=(σ.set c2 (.cells fairZ)).set c3 (.cells [.lit (.slice none 0 0),rows f.roads,int f.sfrom,int f.sto,int f.dye,int f.most]))
  . intro hrest
    refine⟨?_,?_⟩
    . refine callFn Tryz.func32 rfl rfl (OwnRows_ok hr1 hr2 ?_)
      refine PendW.go lay [] ?_;simp[splice];refine⟨?_,?_⟩
      . refine newD.intro fun c3 h3=>?_
        obtain⟨z1,z2,h3⟩:=Store.set_none h3;simp[splice];exact hrest _ _ ⟨c3,h3,z1,by simp,by simp,by simp,by simp⟩
      . refine newD.intro fun c3 h3=>?_
        obtain⟨z1,z2,h3⟩:=Store.set_none h3;simp[splice];exact hrest _ _ ⟨c3,h3,z1,by simp,by simp,by simp,by simp⟩
    . refine newD.intro fun c3 h3=>?_
      obtain⟨z1,z2,h3⟩:=Store.set_none h3;simp[splice];refine callFn Tryz.func32 rfl rfl (OwnRows_ok hr1 hr2 ?_);refine PendW.go lay [] ?_;simp[splice];exact hrest _ _ ⟨c3,h3,z1,by simp,by simp,by simp,by simp⟩
  . rintro env σ' ⟨c3,h3,z1,e1,e2,e3,rfl⟩
    have z2:c2≠c3:=Ne.symm z1;refine Resume.run lay [] ?_;simp[e1,e2,e3];have t0:OwnTok σ ((σ.set c2 (.cells fairZ)).set c3 (.cells [.lit (.slice none 0 0),rows f.roads,int f.sfrom,int f.sto,int f.dye,int f.most])) (.lit (.slice none 0 0)) 6 []:=⟨Store.le_set (Store.le_set (Store.le_refl _) h2) (by rw[Store.set_ne _ _ z1];exact h3),.inl ⟨rfl,.inl rfl⟩⟩
    refine Resume.loop f.ents.length (fun i s => ∃ env σ' a,s=⟨env,σ',[],.no⟩∧env 1 = .cp (fairA f) 0∧env 2 = .ref c2 0∧env 3 = .ref c3 0∧env 4=int i∧σ' c2=some (.cells fairZ)∧σ' c3=some (.cells [a,rows f.roads,int f.sfrom,int f.sto,int f.dye,int f.most])∧ownBlk a≠some c2∧ownBlk a≠some c3∧OwnTok σ σ' a 6 ((f.ents.take i).map entA))
      ⟨_,_,.lit (.slice none 0 0),rfl,by simp[e1],by simp[e2],by simp[e3],by simp,by rw[Store.set_ne _ _ z2,Store.set_same],Store.set_same _ _ _,by simp[ownBlk],by simp[ownBlk],by simpa using t0⟩ ?_
    clear e1 e2 e3 t0
    rintro c0 i _ hi ⟨env,σ',a,rfl,e1,e2,e3,e4,q2,q3,nb2,nb3,htok⟩ ih
    have htc:=htok.cells
    rcases Nat.lt_or_ge i f.ents.length with g1|g1
    . have g1':(i:Int)<f.ents.length:=by omega
      have f1 : -9223372036854775808≤(i:Int)+1∧(i:Int)+1≤9223372036854775807:=by omega
      refine Resume.run lay [] ?_;simp[e1,e2,e3,e4,q2,q3,htc.1,htc.2,g1]
      repeat' (first
                | apply And.intro
                | (refine callFn Tryz.func33 rfl rfl (OwnEntry_ok (hm _ (List.getElem_mem g1)) ?_)
                   refine PendW.go lay [] ?_;simp[e1,e2,e3,e4,q2,q3,htc.1,htc.2,g1])
                | (refine os_appendOwn lay rfl rfl rfl tt23 rfl tt23 rfl tt45 (by decide) (by simp;omega) (σ0:=σ'.offO a) (es:=(f.ents.take i).map entA) (xs:=[entA f.ents[i]]) (by simpa using htok.here.1) (.inl (.inr ⟨_,by simp;rfl⟩)) (by simp) fun a' σ3 ht'=>?_
                   have hta:=ht'.cells;have k3:∀ y l,ownBlk a≠some y->σ' y=some (.cells l)->σ3 y=some (.cells l):=fun y l hb hy=>ht'.1 _ _ (by rw[Store.offO_ne hb];exact hy)
                   have t3:=k3 _ _ nb3 q3;have t2:=k3 _ _ nb2 q2;refine PendW.go lay [] ?_;simp[e1,e2,e3,e4,t2,t3,hta.1,hta.2,splice]))
      all_goals (
        refine Resume.run lay [] ?_;simp[e4,f1.1,f1.2]
        have htb:OwnTok σ σ3 a' 6 ((f.ents.take (i+1)).map entA):=by
          have:=ht'.base htok.here.2;rw[List.take_succ_eq_append_getElem g1,List.map_append];simpa using this
        have hb2:ownBlk a'≠some c2:=fun e=>by have:=(ht'.blk_some e).1;rw[Store.offO_ne nb2,q2] at this;cases this
        have hb3:ownBlk a'≠some c3:=fun e=>by have:=(ht'.blk_some e).1;rw[Store.offO_ne nb3,q3] at this;cases this
        exact ih _ g1 ⟨_,_,a',rfl,by simp[e1],by simp[e2],by simp[e3],by simp,by rw[Store.set_ne _ _ z2];exact t2,Store.set_same _ _ _,hb2,hb3,htb.beside h3 hb3⟩)
    . have hie:i=f.ents.length:=by omega
      subst hie;rw[List.take_length] at htok;refine Resume.run lay [] ?_;simp[e1,e2,e3,e4,q2,q3,htc.1,htc.2,splice];exact .done (h a _ (htok.beside h2 nb2))
end Go.Proofs.YtibjfmfdjncniaaGreatDoor
namespace Go.Proofs.YtibjfmfdjncniaaGreatDoor
open Go.Pal Go.Conc
set_option maxHeartbeats 1000000
set_option maxRecDepth 4000
variable {m:Mo} {σ:Store} {KF:Res->Store->Prop}
theorem opened_void (hs:m.solo=true) {f:Fr} {l:List Int} {sp:Spare} (hf:f.Fits) (hc:check f=0) (hl:∀ n∈l,0≤n∧n<f.ents.length) (hll:l.length<1152921504606846976) (hway:waysOf f []=[]) (h:∀ σ',σ.Le σ'->KF (.val (.tup [.lit (.pointer none),int 11])) σ'):FnOK Tryz.prog m 35 [fairA f,.sl 1 (l.map int) sp] σ KF:=by
  have hg:=Fr.good hf hc;have ho:=openErr_in hc hl;refine FnOK.start lay [] [] 2 Tryz.func35 rfl rfl (by rfl) (by kernel_rfl) ?_
  simp[Tryz.f35];have hW:Wl [AV.agg (fairL f),.sl 1 (l.map int) sp] [fairA f,ints l]:=.cons (.refl _) (.cons (W_any 1 _ sp) .nil);refine callFnW Tryz.func25 rfl rfl hW (open_ok hf hll (fun q=>absurd ho q) fun _ b mb σ' hn=>?_)
  have hu:UnS b 6 mb .u8 (Known f) σ':=by
    rw[hn.eq];exact⟨Store.set_same _ _ _,[],(Store.set_ne _ _ (Ne.symm hn.ne)).trans (Store.set_same _ _ _),fun n a h=>by simp[alook] at h⟩
  refine Resume.run lay [] ?_;simp;refine callFn Tryz.func23 rfl rfl (some_ok (lkM_solo muChk muExt muFn hs hn.ne) hg hu fun σ2 q1 q2=>?_)
  refine Resume.run lay [] ?_;simp[hway];refine .done (h σ2 fun c x hx=>?_)
  have c1:c≠b:=fun e=>by subst e;rw[hn.hb] at hx;cases hx
  have c2:c≠mb:=fun e=>by subst e;rw[hn.hmb] at hx;cases hx
  exact q2 c x (hn.le c x hx) c1 (.inl c2)
theorem W_tupE {l l':List AV} (hl:l.length=l'.length) (hw:∀ (i:Nat) a a',l[i]? = some a->l'[i]? = some a'->a.W a'):(AV.tup l).W (.tup l'):=fun k x hx=>by
  cases hx with
  | tup c _ g1 g2=>
    refine .tup c l' (by omega) fun i v a' hv ha'=>?_
    have hi:i<l.length:=by rw[hl];exact (List.getElem?_eq_some_iff.1 ha').1
    exact hw i l[i] a' (by simp[hi]) ha' k v (g2 i v _ hv (by simp[hi]))
theorem Fewest_void (hs:m.solo=true) {f:Fr} (hf:f.Fits) (hc:check f=0) (hway:waysOf f []=[]) (h:KF (.val (.tup [ints [],int 0,int 11])) σ):FnOK Tryz.prog m 15 [fairA f] σ KF:=by
  refine FnOK.start lay [] pl15 1 Tryz.func15 rfl rfl (by rfl) (by kernel_rfl) ?_
  simp[Tryz.f15];have hW:Wl [fairA f,AV.lit (.slice none 0 0)] [fairA f,.sl 1 (([]:List Int).map int) .any]:=.cons (.refl _) (.cons (W_nil 1) .nil);refine callFnW Tryz.func35 rfl rfl hW (opened_void (l:=[]) (sp:=.any) hs hf hc (by simp) (by simp) hway fun σ0 hle0=>?_)
  refine Resume.run lay [] ?_;simp;refine .weak (a':=.tup [ints [],int 0,int 11]) (W_tupE rfl fun i a a' h1 h2=>?_) (.less hle0 (.done h))
  match i with
  | 0=>simp at h1 h2;subst h1;subst h2;exact W_nil 1
  | 1=>simp at h1 h2;subst h1;subst h2;exact .refl _
  | 2=>simp at h1 h2;subst h1;subst h2;exact .refl _
  | i+3=>simp at h1
end Go.Proofs.YtibjfmfdjncniaaGreatDoor
namespace Go.Proofs.YtibjfmfdjncniaaGreatDoor
open Go.Pal Go.Conc
set_option maxHeartbeats 1000000
set_option maxRecDepth 4000
section
variable {k:Int->Int}
abbrev ltK (k:Int->Int):Int->Int->Bool:=fun a b=>decide (k a<k b)
end
theorem hourSort_eq (f:Fr) (l:List Int):hourSort f l=(sortR (ltK fun n=>(entN f n).hour) l).reverse:=by
  unfold hourSort;congr 2
  funext a b
  unfold byHour cmpInt ltK
  by_cases h1:(entN f a).hour<(entN f b).hour
  . simp[h1]
  . by_cases h2:(entN f b).hour<(entN f a).hour
    . simp[h1,h2]
    . simp[h1,h2]
theorem hourSort_mem {f:Fr} {l:List Int} {n:Int}:n∈hourSort f l ↔ n∈l:=by
  unfold hourSort;rw[List.mem_reverse,sortR_mem]
theorem hours_cons (f:Fr) (a b:Int) (r:List Int):hoursBreaks f (a :: b :: r)=(tooFar f a b || hoursBreaks f (b :: r)):=by
  unfold hoursBreaks;rw[show (a :: b :: r).length-1=r.length+1 from rfl,List.range_succ_eq_map,List.any_cons,List.any_map]
  rfl
end Go.Proofs.YtibjfmfdjncniaaGreatDoor
