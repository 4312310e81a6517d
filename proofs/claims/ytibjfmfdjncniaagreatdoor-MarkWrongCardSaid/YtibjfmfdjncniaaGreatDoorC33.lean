/- Part 33 of the proof. -/
import Derived.Test.YtibjfmfdjncniaaGreatDoorC32
set_option linter.all false
namespace Go.Proofs.YtibjfmfdjncniaaGreatDoor
open Go.Pal Go.Conc
set_option maxHeartbeats 2000000
set_option maxRecDepth 4000
variable {m:Mo} {σ:Store} {KF:Res->Store->Prop}
theorem tells_ne {f:Fr} (hf:f.Good) (e:Ent):tells f e≠[]:=by
  unfold tells shoes;have:=hf.le
  by_cases h0:e.shod=0
  . simp[h0]
  . have hp:(f.sto-f.sfrom+1).toNat=(f.sto-f.sfrom).toNat+1:=by omega
    rw[if_pos h0,hp,List.range_succ_eq_map];split <;> simp
def dueOf (f:Fr) (l:List Int):List Int:=(tells f (entN f (l.getD 0 0))).filter fun h=>l.all fun j=>decide (h∈tells f (entN f j))
theorem due_heights {f:Fr} {l:List Int} (hl:l≠[]):heightsOf f l=dueOf f l:=by
  match l,hl with
  | a :: r,_=>
    simp only[heightsOf,dueOf,commonOf,List.map_cons,List.getD_cons_zero];refine List.filter_congr fun x hx=>?_
    simp[hx,List.all_eq_true]
theorem Chosen_ok' {n kI:Int} {kn:Nat} (e:kI=kn) (hn:0≤n∧n≤6) (hk:(kn:Int)≤n) (h:KF (.val (rows (chosenL n kn))) σ):FnOK Tryz.prog m 8 [int n,int kI] σ KF:=by
  subst e;exact Chosen_ok hn hk h
end Go.Proofs.YtibjfmfdjncniaaGreatDoor
namespace Go.Proofs.YtibjfmfdjncniaaGreatDoor
open Go.Pal Go.Conc
set_option maxHeartbeats 1000000
set_option maxRecDepth 4000
variable {m:Mo} {σ:Store} {KF:Res->Store->Prop}
theorem OwnEntry_ok {e:Ent} (hl:e.marks.length≤1000000000) (h:KF (.val (entA e)) σ):FnOK Tryz.prog m 33 [entA e] σ KF:=by
  refine FnOK.start lay [1] [] 1 Tryz.func33 rfl rfl (by rfl) (by kernel_rfl) ?_
  simp[Tryz.f33];refine newW.intro fun c1 h1=>?_
  simp;refine newW.intro fun c2 h2=>?_
  obtain⟨z1,z2,h2⟩:=Store.set_none h2;simp[z1,z2,Store.set_ne,splice];refine callFn Tryz.func24 rfl rfl (OwnInts_ok hl ?_);refine Resume.run lay [1] ?_;simp[z1,z2,Store.set_ne,splice];refine .less (fun c x hx=>?_) (.done h)
  have n1:c≠c1:=fun e=>by subst e;rw[h1] at hx;cases hx
  have n2:c≠c2:=fun e=>by subst e;rw[h2] at hx;cases hx
  simp[Store.set_ne,n1,n2,hx]
theorem OwnRows_ok {r:List (List Int)} (hr:r.length≤1000000) (hl:∀ l∈r,l.length≤1000000000) (h:KF (.val (rows r)) σ):FnOK Tryz.prog m 32 [rows r] σ KF:=by
  refine FnOK.thaw ?_;refine FnOK.start lay [] [] 1 Tryz.func32 rfl rfl (by rfl) (by kernel_rfl) ?_
  simp[Tryz.f32];refine os_makeSlice lay rfl tt24 rfl tt22 rfl (by decide) rfl rfl (n:=r.length) (by simp) (by simp) ⟨by omega,by omega⟩ fun b hb=>?_
  refine Resume.run lay [] ?_;simp;refine Resume.loop r.length (fun i s => ∃ env,s=⟨env,σ.set b (.cells (List.take i (List.map ints r) ++ List.replicate (r.length-i) (.lit (.slice none 0 0)))),[],.no⟩∧env 0=rows r∧env 3 = .msl b 0 r.length r.length∧env 4=int i) ⟨_,by simp;rfl,by simp,by simp,by simp⟩ ?_
  rintro c0 i _ hi ⟨env,rfl,e0,e3,e4⟩ ih
  rcases Nat.lt_or_ge i r.length with g1|g1
  . have g1':(i:Int)<r.length:=by omega
    have f1 : -9223372036854775808≤(i:Int)+1∧(i:Int)+1≤9223372036854775807:=by omega
    refine Resume.run lay [] ?_;simp[e0,e3,e4,g1];refine callFn Tryz.func24 rfl rfl (OwnInts_ok (hl _ (List.getElem_mem g1)) ?_);have hsp:i+1≤min i r.length+(r.length-i):=by omega
    have hcell:List.take i (List.take i (List.map ints r) ++ List.replicate (r.length-i) (AV.lit (.slice none 0 0))) ++ AV.sl 1 (List.map int r[i]) .any :: List.drop (i+1) (List.take i (List.map ints r) ++ List.replicate (r.length-i) (AV.lit (.slice none 0 0)))=List.take (i+1) (List.map ints r) ++ List.replicate (r.length-(i+1)) (.lit (.slice none 0 0)):=by
      have hti:(List.take i (List.map ints r)).length=i:=by rw[List.length_take,List.length_map];omega
      obtain⟨q,hq⟩:∃ q,r.length-i=q+1:=⟨r.length-i-1,by omega⟩
      have hq':r.length-(i+1)=q:=by omega
      have e1:List.drop (i+1) (List.take i (List.map ints r) ++ List.replicate (r.length-i) (AV.lit (.slice none 0 0)))=List.replicate q (.lit (.slice none 0 0)):=by
        rw[List.drop_append,List.drop_eq_nil_of_le (by omega),hti,hq,Nat.add_sub_cancel_left]
        simp
      have e2:List.take (i+1) (List.map ints r)=List.take i (List.map ints r) ++ [ints r[i]]:=by
        rw[List.take_succ_eq_append_getElem (by rw[List.length_map];exact g1),List.getElem_map]
      rw[List.take_left' hti,e1,e2,hq',List.append_assoc];rfl
    refine Resume.run lay [] ?_;simp[e0,e3,e4,g1,f1.1,f1.2,splice,hsp,hcell];exact ih _ g1 ⟨_,rfl,by simp[e0,e3,e4],by simp[e0,e3,e4],by simp⟩
  . have hie:i=r.length:=by omega
    subst hie;refine Resume.run lay [] ?_;simp[e0,e3,e4];refine .done (OwnTok.thaw (σ0:=σ) (kk:=1) (es:=r.map ints) ⟨Store.le_set (Store.le_refl _) hb,.inr ⟨b,r.length,[],by simp,hb,by simp,fun e he=>?_,?_,by simp⟩⟩ h)
    . obtain⟨x,_,rfl⟩:=List.mem_map.1 he
      rfl
    . rw[flatten_self (fun e he=>by obtain⟨x,_,rfl⟩:=List.mem_map.1 he;rfl),List.append_nil]
      have ht:List.take r.length (List.map ints r)=List.map ints r:=List.take_of_length_le (by simp)
      simp[Store.set_same,ht]
theorem joinS {P:Program} {m:Mo} {fid n:Nat} {ro:Option Nat} {hold:List Entry} {K:Pal.Exit->St->Prop} {todo:List Item} {D:List ADef} {rc:Rec} {G:Prop} (I:Env->Store->Prop)
    (h1:(∀ env σ,I env σ->Resume P m fid n ro hold todo ⟨env,σ,D,rc⟩ K)->G) (h2:∀ env σ,I env σ->Resume P m fid n ro hold todo ⟨env,σ,D,rc⟩ K):G:=h1 h2
abbrev fairZ:List AV:=[.lit (.slice none 0 0),.lit (.slice none 0 0),int 0,int 0,int 0,int 0]
theorem OwnFair_ok {f:Fr} (hg:f.Good) (hm:∀ e∈f.ents,e.marks.length≤1000000000) (hr1:f.roads.length≤1000000) (hr2:∀ r∈f.roads,r.length≤1000000000) (h:KF (.val (fairA f)) σ):FnOK Tryz.prog m 13 [fairA f] σ KF:=by
  have h6:=hg.six;refine FnOK.start lay [] pl13 1 Tryz.func13 rfl rfl (by rfl) (by kernel_rfl) ?_
  simp[Tryz.f13];refine newW.intro fun c2 h2=>?_
  simp;apply joinS (I:=fun env σ' => ∃ c3,σ c3=none∧c3≠c2∧env 1 = .cp (fairA f) 0∧env 2 = .ref c2 0∧env 3 = .ref c3 0∧σ'=(σ.set c2 (.cells fairZ)).set c3 (.cells [.lit (.slice none 0 0),rows f.roads,int f.sfrom,int f.sto,int f.dye,int f.most]))
  . intro hrest
    refine⟨?_,?_⟩
    . refine callFn Tryz.func32 rfl rfl (OwnRows_ok hr1 hr2 ?_)
      refine PendW.go lay [] ?_;simp[splice];refine⟨?_,?_⟩
      . refine newD.intro fun c3 h3=>?_
        obtain⟨z1,z2,h3⟩:=Store.set_none h3;simp[splice];exact hrest _ _ ⟨c3,h3,z1,by simp,by simp,by simp,by simp⟩
      . refine newD.intro fun c3 h3=>?_
        obtain⟨z1,z2,h3⟩:=Store.set_none h3;simp[splice];exact hrest _ _ ⟨c3,h3,z1,by simp,by simp,by simp,by simp⟩
    . refine newD.intro fun c3 h3=>?_
      obtain⟨z1,z2,h3⟩:=Store.set_none h3;simp[splice];refine callFn Tryz.func32 rfl rfl (OwnRows_ok hr1 hr2 ?_);refine PendW.go lay [] ?_;simp[splice];exact hrest _ _ ⟨c3,h3,z1,by simp,by simp,by simp,by simp⟩
  . rintro env σ' ⟨c3,h3,z1,e1,e2,e3,rfl⟩
    have z2:c2≠c3:=Ne.symm z1;refine Resume.run lay [] ?_;simp[e1,e2,e3];have t0:Tok σ ((σ.set c2 (.cells fairZ)).set c3 (.cells [.lit (.slice none 0 0),rows f.roads,int f.sfrom,int f.sto,int f.dye,int f.most])) (.lit (.slice none 0 0)) 6 []:=(Tok.nil σ 6).up (Store.le_set (Store.le_set (Store.le_refl _) h2) (by rw[Store.set_ne _ _ z1];exact h3))
    refine Resume.loop f.ents.length (fun i s => ∃ env σ' a,s=⟨env,σ',[],.no⟩∧env 1 = .cp (fairA f) 0∧env 2 = .ref c2 0∧env 3 = .ref c3 0∧env 4=int i∧σ' c2=some (.cells fairZ)∧σ' c3=some (.cells [a,rows f.roads,int f.sfrom,int f.sto,int f.dye,int f.most])∧Tok σ σ' a 6 ((f.ents.take i).map entA))
      ⟨_,_,.lit (.slice none 0 0),rfl,by simp[e1],by simp[e2],by simp[e3],by simp,by rw[Store.set_ne _ _ z2,Store.set_same],Store.set_same _ _ _,by simpa using t0⟩ ?_
    clear e1 e2 e3 t0
    rintro c0 i _ hi ⟨env,σ',a,rfl,e1,e2,e3,e4,q2,q3,htok⟩ ih
    have htc:=htok.cells;have nta:∀ y l,σ' y=some (.cells l)->tokBlk a≠some y:=fun y l hy e=>by obtain⟨_,_,q⟩:=htok.tok_some e;rw[hy] at q;cases q
    rcases Nat.lt_or_ge i f.ents.length with g1|g1
    . have g1':(i:Int)<f.ents.length:=by omega
      have f1 : -9223372036854775808≤(i:Int)+1∧(i:Int)+1≤9223372036854775807:=by omega
      refine Resume.run lay [] ?_;simp[e1,e2,e3,e4,q2,q3,htc.1,htc.2,g1]
      repeat' (first
                | apply And.intro
                | (refine callFn Tryz.func33 rfl rfl (OwnEntry_ok (hm _ (List.getElem_mem g1)) ?_)
                   refine PendW.go lay [] ?_;simp[e1,e2,e3,e4,q2,q3,htc.1,htc.2,g1])
                | (refine os_append lay rfl rfl rfl tt23 rfl tt23 rfl tt45 (by decide) (by simp;omega) (σ0:=σ'.off a) (es:=(f.ents.take i).map entA) (xs:=[entA f.ents[i]]) (by simpa using htok.here.1) (.inr ⟨_,by simp;rfl⟩) fun a' σ3 ht'=>?_
                   have hta:=ht'.cells;have k3:∀ y l,σ' y=some (.cells l)->σ3 y=some (.cells l):=fun y l hy=>ht'.1 _ _ (by rw[Store.off_ne (nta y l hy)];exact hy)
                   have t3:=k3 _ _ q3;have t2:=k3 _ _ q2;refine PendW.go lay [] ?_;simp[e1,e2,e3,e4,t2,t3,hta.1,hta.2,splice]))
      all_goals (
        refine Resume.run lay [] ?_;simp[e4,f1.1,f1.2]
        have htb:Tok σ σ3 a' 6 ((f.ents.take (i+1)).map entA):=by
          have:=ht'.base htok.here.2;rw[List.take_succ_eq_append_getElem g1,List.map_append];simpa using this
        exact ih _ g1 ⟨_,_,a',rfl,by simp[e1],by simp[e2],by simp[e3],by simp,by rw[Store.set_ne _ _ z2];exact t2,Store.set_same _ _ _,htb.beside h3 (fun e=>by obtain⟨_,_,q⟩:=htb.tok_some e;rw[t3] at q;cases q)⟩)
    . have hie:i=f.ents.length:=by omega
      subst hie;rw[List.take_length] at htok;refine Resume.run lay [] ?_;simp[e1,e2,e3,e4,q2,q3,htc.1,htc.2,splice];refine .less (σ':=σ) (fun y x hy=>?_) (.weak (a':=fairA f) (W_aggE rfl fun i x y x1 x2=>?_) (.done h))
      . rw[Store.set_ne _ _ (fun e=>by subst e;rw[h2] at hy;cases hy)]
        exact htok.1 y x hy
      . match i with
        | 0=>simp at x1 x2;subst x1;subst x2;exact htok.W
        | 1=>simp at x1 x2;subst x1;subst x2;exact .refl _
        | 2=>simp at x1 x2;subst x1;subst x2;exact .refl _
        | 3=>simp at x1 x2;subst x1;subst x2;exact .refl _
        | 4=>simp at x1 x2;subst x1;subst x2;exact .refl _
        | 5=>simp at x1 x2;subst x1;subst x2;exact .refl _
        | i+6=>simp at x1
end Go.Proofs.YtibjfmfdjncniaaGreatDoor
namespace Go.Proofs.YtibjfmfdjncniaaGreatDoor
open Go.Pal Go.Conc
set_option maxHeartbeats 1000000
set_option maxRecDepth 4000
section
variable {k:Int->Int}
end
theorem ch_tri:∀ a:Fin 8,∀ b:Fin 8,∀ c:Fin 8,changedOf (a.val:Int) (c.val:Int)≤changedOf (a.val:Int) (b.val:Int)+changedOf (b.val:Int) (c.val:Int):=by decide +kernel
theorem marks_in {l:List Int} (h:l.Sublist [0,1,2]):∃ a:Fin 8,marksInt l=(a.val:Int):=by
  cases h <;> (rename_i h;cases h <;> (rename_i h;cases h <;> (rename_i h;cases h;first|exact⟨0,by decide⟩|exact⟨1,by decide⟩|exact⟨2,by decide⟩|exact⟨3,by decide⟩|exact⟨4,by decide⟩|exact⟨5,by decide⟩|exact⟨6,by decide⟩|exact⟨7,by decide⟩)))
def Fit (f:Fr) (a b:Int):Prop:=tooFar f a b=false
theorem RoadsOK.tri {n:Nat} {lo:Int} {r:List (List Int)} (h:RoadsOK n lo r) (hlo:0≤lo) {i j k:Nat} (hi:i<n) (hj:j<n) (hk:k<n):rd r i k≤rd r i j+rd r j k:=by
  have pos:∀ a b,a<n->b<n->0≤rd r a b:=fun a b ha hb=>by
    by_cases e:a=b
    . subst e;rw[h.diag a ha];omega
    . have:=h.off a b ha hb e;omega
  have p1:=pos i j hi hj;have p2:=pos j k hj hk
  by_cases e1:i=k
  . subst e1;rw[h.diag i hi];omega
  by_cases e2:i=j
  . subst e2;omega
  by_cases e3:j=k
  . subst e3;omega
  have a1:=h.off i k hi hk e1;have a2:=h.off i j hi hj e2;have a3:=h.off j k hj hk e3;omega
theorem entN_mem {f:Fr} {n:Int} (h:0≤n∧n<f.ents.length):entN f n∈f.ents:=by
  have:n.toNat<f.ents.length:=by omega
  rw[entN_at this];exact List.getElem_mem this
theorem fit_trans {cnt:Int} {f:Fr} (hf:FairOK cnt f) {a b c:Int} (ha:0≤a∧a<f.ents.length) (hb:0≤b∧b<f.ents.length) (hc:0≤c∧c<f.ents.length) (h1:Fit f a b) (h2:Fit f b c):Fit f a c:=by
  have ea:=hf.ent _ (entN_mem ha);have eb:=hf.ent _ (entN_mem hb);have ec:=hf.ent _ (entN_mem hc);obtain⟨lo,hlo,hr⟩:=hf.rds;have hd:=hf.dye;obtain⟨A,hA⟩:=marks_in ea.marks;obtain⟨B,hB⟩:=marks_in eb.marks;obtain⟨C,hC⟩:=marks_in ec.marks;have t1:=ch_tri A B C;have pa:=ea.place;have pb:=eb.place;have pc:=ec.place;have t2:=hr.tri hlo.1 (i:=(entN f a).place.toNat) (j:=(entN f b).place.toNat) (k:=(entN f c).place.toNat) (by omega) (by omega) (by omega)
  unfold Fit tooFar at h1 h2 ⊢;rw[hA,hB] at h1;rw[hB,hC] at h2;rw[hA,hC];simp only[decide_eq_false_iff_not] at h1 h2 ⊢;have t3:f.dye*changedOf (A.val:Int) (C.val:Int)≤f.dye*(changedOf (A.val:Int) (B.val:Int)+changedOf (B.val:Int) (C.val:Int)):=Int.mul_le_mul_of_nonneg_left t1 (by omega)
  rw[Int.mul_add] at t3;omega
theorem due_mem {f:Fr} {l:List Int} (hl:l≠[]) {h:Int}:h∈heightsOf f l ↔ ∀ j∈l,h∈tells f (entN f j):=by
  rw[due_heights hl]
  match l,hl with
  | a :: r,_=>
    simp only[dueOf,List.mem_filter,List.all_eq_true,decide_eq_true_eq];exact⟨fun q=>q.2,fun q=>⟨q a (by simp),q⟩⟩
theorem why_zero {f:Fr} {l:List Int}:whyN f l=0 ↔ coatBreaks f (hourSort f l)=false∧heightBreaks f (hourSort f l)=false∧hoursBreaks f (hourSort f l)=false:=by
  unfold whyN;cases coatBreaks f (hourSort f l) <;> cases heightBreaks f (hourSort f l) <;> cases hoursBreaks f (hourSort f l) <;> simp
theorem one_ok {f:Fr} (hg:f.Good) (n:Int):whyN f [n]=0:=by
  have e:hourSort f [n]=[n]:=by simp[hourSort,sortR,insR]
  refine why_zero.2 ?_;rw[e];refine⟨by simp[coatBreaks],?_,rfl⟩
  unfold heightBreaks;simp only[decide_eq_false_iff_not];obtain⟨x,hx⟩:=List.exists_mem_of_ne_nil _ (tells_ne hg (entN f n));exact List.ne_nil_of_mem ((due_mem (by simp)).2 (fun j hj=>by simp at hj;subst hj;exact hx))
theorem flat_le {α β:Type} {B:Nat} {g:α->List β}:∀ (l:List α),(∀ x∈l,(g x).length≤B)->(l.flatMap g).length≤l.length*B
  | [],_=>by simp
  | a :: l,h=>by
    rw[List.flatMap_cons,List.length_append,List.length_cons,Nat.add_mul,Nat.one_mul];have h1:=h a (by simp)
    have h2:=flat_le l fun x hx=>h x (by simp[hx])
    omega
theorem growL_le {f:Fr} (hg:f.Good) (begun:List Int):∀ (fuel:Nat) (way:List Int) (many:Int) (hs:List Int),(growL f begun fuel way many hs).length≤6 ^ fuel
  | 0,_,_,_=>by simp[growL]
  | fuel+1,way,many,hs=>by
    unfold growL;refine Nat.le_trans (flat_le (B:=6 ^ fuel) _ fun k _=>?_) ?_
    . split
      . simp
      split
      . exact growL_le hg begun fuel _ _ _
      . simp
    . rw[List.length_range,Nat.pow_succ,Nat.mul_comm]
      have:=hg.most;exact Nat.mul_le_mul_left _ (by omega)
theorem ways_le {f:Fr} (hg:f.Good) (begun:List Int):(waysOf f begun).length≤46656:=by
  refine Nat.le_trans (growL_le hg begun _ _ _ _) ?_;exact Nat.pow_le_pow_right (by omega) hg.six
theorem growL_begun (f:Fr) (begun:List Int):∀ (fuel:Nat) (way:List Int) (many:Int) (hs:List Int),begun.length≤way.length->growL f begun fuel way many hs=growL f [] fuel way many hs
  | 0,_,_,_,_=>rfl
  | fuel+1,way,many,hs,h=>by
    unfold growL;congr 1
    funext k
    have e1 : ¬ (way.length<begun.length∧begun.getD way.length 0≠(k:Int)):=by omega
    have e2 : ¬ (way.length<([]:List Int).length∧([]:List Int).getD way.length 0≠(k:Int)):=by simp
    rw[if_neg e1,if_neg e2];split
    . exact growL_begun f begun fuel _ _ _ (by simp;omega)
    . rfl
theorem ways_split {f:Fr} (hg:f.Good) (h2:2≤f.ents.length):waysOf f []=waysOf f [0,0] ++ waysOf f [0,1]:=by
  obtain⟨n,hn⟩:∃ n,f.ents.length=n+2:=⟨f.ents.length-2,by omega⟩
  have hm:=hg.most;have e1:(min ((0:Int)+1) f.most).toNat=1:=by omega
  unfold waysOf;rw[hn];unfold growL;rw[e1];simp only[List.range_succ,List.range_zero,List.nil_append,List.flatMap_cons,List.flatMap_nil,List.append_nil];simp
  by_cases c0:canOf f (setBit 0 0)=true
  . simp only[c0,if_true]
    unfold growL;have e2:(min (max (0:Int) 1+1) f.most).toNat=1∨(min (max (0:Int) 1+1) f.most).toNat=2:=by omega
    rcases e2 with e2|e2
    . rw[e2]
      simp only[List.range_succ,List.range_zero,List.nil_append,List.flatMap_cons,List.flatMap_nil,List.append_nil];simp;rw[growL_begun f [0,0] n [0,0] _ _ (by simp)]
    . rw[e2]
      simp only[List.range_succ,List.range_zero,List.nil_append,List.flatMap_cons,List.flatMap_nil,List.append_nil];simp;rw[growL_begun f [0,0] n [0,0] _ _ (by simp),growL_begun f [0,1] n [0,1] _ _ (by simp)]
  . simp[c0]
theorem ways_few {f:Fr} (hg:f.Good) (h2:f.ents.length<2):waysOf f []≠[]:=by
  have hm:=hg.most;have e1:(min ((0:Int)+1) f.most).toNat=1:=by omega
  have hc:canOf f (setBit 0 0)=true:=by
    have:bitsOf (setBit 0 0)=[0]:=by decide +kernel
    unfold canOf;rw[this,decide_eq_true_eq];exact one_ok hg 0
  rcases (show f.ents.length=0∨f.ents.length=1 by omega) with hn|hn
  . unfold waysOf;rw[hn];simp[growL]
  . unfold waysOf;rw[hn]
    unfold growL;rw[e1];simp only[List.range_succ,List.range_zero,List.nil_append,List.flatMap_cons,List.flatMap_nil,List.append_nil];simp[hc,growL]
theorem count_ways {f:Fr} (hg:f.Good) (h2:2≤f.ents.length):countOf f=((waysOf f []).length:Int):=by
  unfold countOf;rw[if_neg (by omega),ways_split hg h2,List.length_append]
  omega
theorem count_pos {f:Fr} (hg:f.Good):0<countOf f ↔ waysOf f []≠[]:=by
  by_cases h2:2≤f.ents.length
  . rw[count_ways hg h2]
    cases waysOf f [] <;> simp
  . have:=ways_few hg (by omega)
    have e:countOf f=1:=by unfold countOf;rw[if_pos (by omega)]
    rw[e];simp[this]
def extL (n:Nat):Nat->Nat->List Int->List (List Int)
  | 0,_,out=>[out]
  | more+1,frm,out=>(List.range' frm (n-frm)).flatMap fun x:Nat=>extL n more (x+1) (out ++ [(x:Int)])
theorem growW_ext (f:Fr):∀ (more frm:Nat) (out:List Int),growW f more frm out=(extL f.ents.length more frm out).find? fun l=>decide (waysOf (withoutF f l) []≠[])
  | 0,frm,out=>by
    unfold growW extL
    by_cases h:waysOf (withoutF f out) []=[] <;> simp[h]
  | more+1,frm,out=>by
    unfold growW extL;rw[List.find?_flatMap];congr 1
    funext x
    exact growW_ext f more (x+1) _
theorem ext_nil (n:Nat):∀ (more frm:Nat) (out:List Int),0<more->n<frm+more->extL n more frm out=[]
  | more+1,frm,out,_,h=>by
    unfold extL;rw[List.flatMap_eq_nil_iff];intro x hx;obtain⟨h1,h2⟩:=List.mem_range'_1.1 hx;cases more with
    | zero=>omega
    | succ more=>exact ext_nil n (more+1) (x+1) _ (by omega) (by omega)
theorem ext_full (n:Nat):∀ (more frm:Nat) (out:List Int),frm+more≤n->out ++ (List.range' frm more).map (fun x:Nat=>(x:Int))∈extL n more frm out
  | 0,frm,out,_=>by simp[extL]
  | more+1,frm,out,h=>by
    unfold extL;refine List.mem_flatMap.2 ⟨frm,List.mem_range'_1.2 (by omega),?_⟩
    have:=ext_full n more (frm+1) (out ++ [(frm:Int)]) (by omega)
    rw[List.range'_succ,List.map_cons];simpa using this
theorem flat_range {β:Type} {G:Nat->List β} {c:Nat}:∀ d:Nat,(∀ j,c≤j->j<c+d->G j=[])->(List.range (c+d)).flatMap G=(List.range c).flatMap G
  | 0,_=>rfl
  | d+1,h=>by
    rw[← Nat.add_assoc,List.range_succ,List.flatMap_append,flat_range d fun j h1 h2=>h j h1 (by omega)]
    simp[h (c+d) (by omega) (by omega)]
theorem flat_same {α β:Type} {f g:α->List β} {l:List α} (h:∀ x∈l,f x=g x):l.flatMap f=l.flatMap g:=by
  rw[List.flatMap_def,List.flatMap_def,List.map_congr_left h]
theorem row_ext {n k i:Nat} {l:List Int} (hk:k≤n) (hi:i<k) (hA:Asc n i l):extL n (k-i) (lowOf i l).toNat l=(growRow n k i l).flatMap fun l'=>extL n (k-(i+1)) (lowOf (i+1) l').toNat l':=by
  obtain⟨more,hm⟩:∃ more,k-i=more+1:=⟨k-i-1,by omega⟩
  have hm':k-(i+1)=more:=by omega
  have hlen:=hA.len
  have hlow:0≤lowOf i l∧lowOf i l≤n:=by
    unfold lowOf;split
    . omega
    . next h0=>
      have hlt:i-1<l.length:=by omega
      have hmem:l.getD (i-1) 0∈l:=by rw[List.getD_eq_getElem?_getD,List.getElem?_eq_getElem hlt];exact List.getElem_mem hlt
      have:=hA.mem _ hmem;omega
  obtain⟨lo,hlo⟩:∃ lo:Nat,lowOf i l=(lo:Int):=⟨(lowOf i l).toNat,by omega⟩
  unfold growRow upTo;rw[hm,hm',hlo,Int.toNat_natCast];rw[hlo] at hlow;obtain⟨cnt,hcnt⟩:∃ cnt:Nat,((n:Int)-k+i+1-lo).toNat=cnt:=⟨_,rfl⟩;rw[hcnt,List.map_map,List.flatMap_map,show extL n (more+1) lo l=(List.range' lo (n-lo)).flatMap fun x:Nat=>extL n more (x+1) (l ++ [(x:Int)]) from rfl]
  rw[List.range'_eq_map_range,List.flatMap_map];obtain⟨d,hd⟩:∃ d,n-lo=cnt+d:=⟨n-lo-cnt,by omega⟩
  rw[hd,flat_range d fun j h1 h2=>?_]
  . refine flat_same fun j hj=>?_
    have:lowOf (i+1) (l ++ [(lo:Int)+(j:Int)])=(lo:Int)+j+1:=by
      unfold lowOf;rw[if_neg (by omega),List.getD_eq_getElem?_getD,List.getElem?_append_right (by omega)]
      simp[hlen]
    simp only[Function.comp];rw[this,show ((lo:Int)+j+1).toNat=lo+j+1 by omega,show ((lo+j:Nat):Int)=(lo:Int)+j by omega]
  . cases more with
    | zero=>omega
    | succ more=>exact ext_nil n (more+1) _ _ (by omega) (by omega)
theorem chosen_ext {n k:Nat} (hk:k≤n):∀ i:Nat,i≤k->extL n k 0 []=(chosenN n k i).flatMap fun l=>extL n (k-i) (lowOf i l).toNat l
  | 0,_=>by simp[chosenN,lowOf]
  | i+1,hi=>by
    rw[chosen_ext hk i (by omega),chosenN,List.flatMap_assoc]
    exact flat_same fun l hl=>row_ext hk (by omega) (chosenN_asc i (by omega) l hl)
theorem chosenL_ext {n k:Nat} (hk:k≤n):chosenL n k=extL n k 0 []:=by
  rw[chosen_ext hk k (Nat.le_refl _)];unfold chosenL;simp[extL]
abbrev wrongP (f:Fr) (l:List Int):Bool:=decide (waysOf (withoutF f l) []≠[])
theorem wrong_find (f:Fr):wrongOf f=(List.range' 0 (f.ents.length+1)).findSome? fun many=>(chosenL f.ents.length many).find? (wrongP f):=by
  unfold wrongOf
  have:∀ (l:List Nat),(∀ x∈l,x≤f.ents.length)->(l.findSome? fun many=>growW f many 0 [])=l.findSome? fun many=>(chosenL f.ents.length many).find? (wrongP f):=fun l=>by
    induction l with
    | nil=>intro _;rfl
    | cons a l ih=>
      intro h;rw[List.findSome?_cons,List.findSome?_cons,growW_ext,chosenL_ext (h a (by simp)),ih fun x hx=>h x (by simp[hx])]
  exact this _ fun x hx=>by have:=List.mem_range'_1.1 hx;omega
theorem left_all (l:List Ent):leftE l ((List.range' 0 l.length).map fun x:Nat=>(x:Int))=[]:=by
  unfold leftE;rw[List.map_eq_nil_iff,List.filter_eq_nil_iff]
  rintro⟨e,i⟩ he
  have:=List.mem_zipIdx he;have hm:(i:Int)∈(List.range' 0 l.length).map (fun x:Nat=>(x:Int)):=List.mem_map.2 ⟨i,List.mem_range'_1.2 (by omega),rfl⟩
  simp only[hm];simp
theorem wrong_some (f:Fr):∃ w,wrongOf f=some w:=by
  cases h:wrongOf f with
  | some w=>exact⟨w,rfl⟩
  | none=>
    rw[wrong_find,List.findSome?_eq_none_iff] at h;have h1:=h f.ents.length (List.mem_range'_1.2 (by omega))
    rw[List.find?_eq_none] at h1;have h2:=ext_full f.ents.length f.ents.length 0 [] (by omega)
    rw[← chosenL_ext (Nat.le_refl _)] at h2;refine absurd ?_ (h1 _ h2);simp only[List.nil_append];unfold wrongP withoutF;rw[left_all];simp[waysOf,growL]
theorem Fr.Good.chk {f:Fr} (h:f.Good):check f=0:=by
  have h1:=h.fr;have h2:=h.to;have h3:=h.le;have h4:=h.dye;have h5:=h.most;have h6:=h.six;have e1:(isIn f.sfrom 0 3 && isIn f.sto 0 3)=true:=by simp[isIn];omega
  have e2:(isIn f.dye 1 6 && isIn f.most 1 6)=true:=by simp[isIn];omega
  unfold Go.Proofs.YtibjfmfdjncniaaGreatDoor.check;rw[if_neg (by simp[h.rds]),e1,if_neg (by simp),if_neg (by omega),e2,if_neg (by simp),if_neg (by omega)]
  exact firstBad_all h.ent
theorem wrong_first {f:Fr} {w:List Int} {many i:Nat} (hw:wrongOf f=some w) (hm:many≤f.ents.length) (h1:∀ m',m'<many->(chosenL f.ents.length m').find? (wrongP f)=none)
    (hi:i<(chosenL f.ents.length many).length) (h2:∀ (j:Nat) (hj:j<i),wrongP f ((chosenL f.ents.length many)[j]'(by omega))=false) (hp:wrongP f (chosenL f.ents.length many)[i]=true):w=(chosenL f.ents.length many)[i]:=by
  rw[wrong_find] at hw;obtain⟨d,hd⟩:∃ d,f.ents.length+1=many+(d+1):=⟨f.ents.length-many,by omega⟩
  have e0:List.range' 0 (many+(d+1))=List.range' 0 many ++ List.range' many (d+1):=by
    rw[← List.range'_append_1];simp
  rw[hd,e0,List.findSome?_append] at hw
  have e1:(List.range' 0 many).findSome? (fun many=>(chosenL f.ents.length many).find? (wrongP f))=none:=by
    rw[List.findSome?_eq_none_iff];intro x hx;exact h1 x (by have:=List.mem_range'_1.1 hx;omega)
  rw[e1,List.range'_succ,List.findSome?_cons] at hw
  have e2:(chosenL f.ents.length many).find? (wrongP f)=some (chosenL f.ents.length many)[i]:=by
    rw[List.find?_eq_some_iff_getElem];refine⟨hp,i,hi,rfl,fun j hj=>?_⟩
    rw[h2 j hj];rfl
  rw[e2] at hw;exact (Option.some.inj (by simpa using hw)).symm
theorem wrong_end {f:Fr} (h1:∀ m',m'≤f.ents.length->(chosenL f.ents.length m').find? (wrongP f)=none):False:=by
  obtain⟨w,hw⟩:=wrong_some f;rw[wrong_find] at hw
  have:(List.range' 0 (f.ents.length+1)).findSome? (fun many=>(chosenL f.ents.length many).find? (wrongP f))=none:=by
    rw[List.findSome?_eq_none_iff];intro x hx;exact h1 x (by have:=List.mem_range'_1.1 hx;omega)
  rw[this] at hw;cases hw
end Go.Proofs.YtibjfmfdjncniaaGreatDoor
namespace Go.Proofs.YtibjfmfdjncniaaGreatDoor
open Go.Pal Go.Conc
set_option maxHeartbeats 1000000
set_option maxRecDepth 4000
variable {m:Mo} {σ:Store} {KF:Res->Store->Prop}
theorem less_ok {f : Fr} {out:List Int} (hg:f.Good) (hm:∀ e∈f.ents,e.marks.length≤1000000000) (hr1:f.roads.length≤1000000) (hr2:∀ r∈f.roads,r.length≤1000000000) (hl:out.length<1152921504606846976) (h:KF (.val (fairA (withoutF f out))) σ):FnOK Tryz.prog m 10 [fairA f,ints out] σ KF:=by
  have h6:=hg.six;refine FnOK.start lay [] pl10 2 Tryz.func10 rfl rfl (by rfl) (by kernel_rfl) ?_
  simp[Tryz.f10];refine newW.intro fun c4 h4=>?_
  simp;refine callFn Tryz.func13 rfl rfl (OwnFair_ok hg hm hr1 hr2 ?_);refine Resume.run lay [] ?_;simp;refine newW.intro fun c5 h5=>?_
  obtain⟨z1,z2,h5⟩:=Store.set_none h5;simp[splice,Store.set_ne,z1,z2];have t0:Tok σ ((σ.set c4 (.cells fairZ)).set c5 (.cells [.lit (.slice none 0 0),rows f.roads,int f.sfrom,int f.sto,int f.dye,int f.most])) (.lit (.slice none 0 0)) 6 []:=(Tok.nil σ 6).up (Store.le_set (Store.le_set (Store.le_refl _) h4) (by rw[Store.set_ne _ _ z1];exact h5))
  refine Resume.loop f.ents.length (fun i s => ∃ env σ' a,s=⟨env,σ',[],.no⟩∧env 1=ints out∧env 2 = .cp (fairA f) 0∧env 4 = .ref c4 0∧env 5 = .ref c5 0∧env 6=int i∧σ' c4=some (.cells fairZ)∧σ' c5=some (.cells [a,rows f.roads,int f.sfrom,int f.sto,int f.dye,int f.most])∧Tok σ σ' a 6 ((leftE (f.ents.take i) out).map entA))
    ⟨_,_,.lit (.slice none 0 0),rfl,by simp,by simp,by simp,by simp,by simp,by rw[Store.set_ne _ _ z2,Store.set_same],Store.set_same _ _ _,by simpa[leftE] using t0⟩ ?_
  clear t0
  rintro c0 i _ hi ⟨env,σ',a,rfl,e1,e2,e4,e5,e6,q4,q5,htok⟩ ih
  have htc:=htok.cells;have nta:∀ y l,σ' y=some (.cells l)->tokBlk a≠some y:=fun y l hy e=>by obtain⟨_,_,q⟩:=htok.tok_some e;rw[hy] at q;cases q
  rcases Nat.lt_or_ge i f.ents.length with g1|g1
  . have g1' : (i:Int)<f.ents.length:=by omega
    have f1 : -9223372036854775808≤(i:Int)+1∧(i:Int)+1≤9223372036854775807:=by omega
    have hlk:=leftE_len (f.ents.take i) out;rw[List.length_take] at hlk;refine Resume.run lay [] ?_;simp[e1,e2,e4,e5,e6,q4,q5,htc.1,htc.2,g1];refine callFn Tryz.func27 rfl rfl (Where_ok hl ?_);refine Resume.run lay [] ?_;simp[e1,e2,e4,e5,e6,q4,q5,htc.1,htc.2];refine condW.intro (fun q=>?_) (fun q=>?_)
    . have hin:(i:Int) ∉ out:=fun e=>by
        have h1:=(ixOf_mem out i).2 e;simp at q;omega
      simp[e1,e2,e4,e5,e6,q4,q5,htc.1,htc.2,g1]
      repeat' (first
                | apply And.intro
                | (refine os_append lay rfl rfl rfl tt23 rfl tt23 rfl tt45 (by decide) (by simp;omega) (σ0:=σ'.off a) (es:=(leftE (f.ents.take i) out).map entA) (xs:=[entA f.ents[i]]) (by simpa using htok.here.1) (.inr ⟨_,by simp;rfl⟩) fun a' σ3 ht'=>?_
                   have hta:=ht'.cells;have k3:∀ y l,σ' y=some (.cells l)->σ3 y=some (.cells l):=fun y l hy=>ht'.1 _ _ (by rw[Store.off_ne (nta y l hy)];exact hy)
                   have t5:=k3 _ _ q5;have t4:=k3 _ _ q4;refine PendW.go lay [] ?_;simp[e1,e2,e4,e5,e6,t4,t5,hta.1,hta.2,splice]))
      all_goals (
        refine Resume.run lay [] ?_;simp[e6,f1.1,f1.2]
        have htb:Tok σ σ3 a' 6 ((leftE (f.ents.take (i+1)) out).map entA):=by
          have:=ht'.base htok.here.2;rw[leftE_take _ _ _ g1,if_neg hin,List.map_append];simpa using this
        exact ih _ g1 ⟨_,_,a',rfl,by simp[e1],by simp[e2],by simp[e4],by simp[e5],by simp,by rw[Store.set_ne _ _ z2];exact t4,Store.set_same _ _ _,htb.beside h5 (fun e=>by obtain⟨_,_,q⟩:=htb.tok_some e;rw[t5] at q;cases q)⟩)
    . have hin:(i:Int)∈out:=(ixOf_mem out i).1 (by simpa using q)
      simp[e1,e2,e4,e5,e6,q4,q5,htc.1,htc.2,f1.1,f1.2];refine ih _ g1 ⟨_,_,a,rfl,by simp[e1,e2,e4,e5,e6,q4,q5,htc.1,htc.2],by simp[e1,e2,e4,e5,e6,q4,q5,htc.1,htc.2],by simp[e1,e2,e4,e5,e6,q4,q5,htc.1,htc.2],by simp[e1,e2,e4,e5,e6,q4,q5,htc.1,htc.2],by simp,q4,q5,?_⟩
      rw[leftE_take _ _ _ g1,if_pos hin,List.append_nil];exact htok
  . have hie:i=f.ents.length:=by omega
    subst hie;rw[List.take_length] at htok;refine Resume.run lay [] ?_;simp[e1,e2,e4,e5,e6,q4,q5,htc.1,htc.2,splice];refine .less (σ':=σ) (fun y x hy=>?_) (.weak (a':=fairA (withoutF f out)) (W_aggE rfl fun i x y x1 x2=>?_) (.done h))
    . rw[Store.set_ne _ _ (fun e=>by subst e;rw[h4] at hy;cases hy)]
      exact htok.1 y x hy
    . match i with
      | 0=>simp[withoutF] at x1 x2;subst x1;subst x2;exact htok.W
      | 1=>simp[withoutF] at x1 x2;subst x1;subst x2;exact .refl _
      | 2=>simp[withoutF] at x1 x2;subst x1;subst x2;exact .refl _
      | 3=>simp[withoutF] at x1 x2;subst x1;subst x2;exact .refl _
      | 4=>simp[withoutF] at x1 x2;subst x1;subst x2;exact .refl _
      | 5=>simp[withoutF] at x1 x2;subst x1;subst x2;exact .refl _
      | i+6=>simp at x1
end Go.Proofs.YtibjfmfdjncniaaGreatDoor
namespace Go.Proofs.YtibjfmfdjncniaaGreatDoor
open Go.Pal Go.Conc
set_option maxHeartbeats 2000000
set_option maxRecDepth 4000
variable {m:Mo} {σ:Store} {KF:Res->Store->Prop}
theorem MarkWrong_ok (hs:m.solo=true) {nums:List Int} (hn:nums.length<1152921504606846976) (h:KF (.val (bool true)) σ):TopOK Tryz.prog lay m 3 [ints nums] σ KF:=by
  refine TopOK.start lay [] pl3 1 Tryz.func3 rfl rfl (by rfl) (by kernel_rfl) ?_
  simp[Tryz.f3];refine callFn Tryz.func6 rfl rfl (NewBag_ok fun c σ1 hc hb hsame=>?_)
  refine Resume.run lay [] ?_;simp;refine callFn Tryz.func5 rfl rfl (FairOf_ok (by omega) hn ⟨by omega,by omega⟩ hb fun f σ2 hf hd=>?_)
  refine Resume.run lay [] ?_;simp;refine newW.intro fun d hd3=>?_
  have hfit:=hf.fits (by omega)
  have hchk:=hf.check (by omega)
  have hg:=Fr.good hfit hchk;have h5:=hf.len;obtain⟨w,hw⟩:=wrong_some f;simp;refine callFn Tryz.func7 rfl rfl (Wrong_ok hs hfit hchk hw ?_);refine Resume.run lay [] ?_;simp;refine Resume.freezeAt 3 (b:=d) (fairA f) (by simp) (by simp) rfl ?_
  have hle:σ.Le (((σ2.set d (.cells (fairL f))).del d)):=fun y x hy=>by
    have y1:y≠c:=fun e=>by subst e;rw[hc] at hy;cases hy
    have y0:σ2 y=some x:=by rw[hd.2 y y1,hsame y y1];exact hy
    have y2:y≠d:=fun e=>by subst e;rw[hd3] at y0;cases y0
    simp only[Store.del,y2,if_false,Store.set_ne _ _ y2];exact y0
  refine Resume.weaken (σ:=σ) ?_ hle;have h6:=hg.six;have hmk:∀ e∈f.ents,e.marks.length≤1000000000:=fun e he=>by have:=(sub_marks (hf.ent e he).marks).2;omega
  have hrd1:f.roads.length≤1000000:=by have:=hf.spots;omega
  have hrd2:∀ r∈f.roads,r.length≤1000000000:=fun r hr=>by
    obtain⟨lo,_,hk⟩:=hf.rds;have:=hk.row r hr;omega
  refine Resume.loop (f.ents.length+1) (fun t s => ∃ env,s=⟨env,σ,[],.no⟩∧env 3 = .cp (fairA f) 0∧env 4=ints w∧env 5=int 0∧env 6=int t∧∀ m',m'<t->(chosenL f.ents.length m').find? (wrongP f)=none) ⟨_,rfl,by simp,by simp,by simp,by simp,fun m' hm'=>by omega⟩ ?_
  rintro c1 t _ ht ⟨env,rfl,e3,e4,e5,e6,hnone⟩ ih2
  refine Resume.run lay [] ?_;simp[e3,e4,e5,e6];refine condW.intro (fun q=>?_) (fun q=>?_) <;> simp[-Int.not_lt,-Int.not_le,-Nat.not_lt,-Nat.not_le] at q
  . have ht6:t≤f.ents.length:=by omega
    simp[e3,e4,e5,e6];refine callFn Tryz.func8 rfl rfl (Chosen_ok' (kn:=t) rfl ⟨by omega,by omega⟩ (by omega) ?_)
    have hLa:∀ l∈chosenL f.ents.length t,Asc f.ents.length t l:=fun l hl=>chosenL_asc hl
    have hLn:(chosenL f.ents.length t).length≤117649:=Nat.le_trans (chosenN_len (n:=f.ents.length) (k:=(t:Int)) (by omega) t (by omega)) (Nat.le_trans (Nat.pow_le_pow_right (by omega) (show t≤6 by omega)) (by decide))
    obtain⟨L,hL⟩:∃ L,L=chosenL f.ents.length t:=⟨_,rfl⟩;rw[← hL] at hLa hLn ⊢;refine Resume.run lay [] ?_;simp[e3,e4,e5,e6];refine Resume.loop L.length (fun x s => ∃ env,s=⟨env,σ,[],.no⟩∧env 3 = .cp (fairA f) 0∧env 4=ints w∧env 5=int 0∧env 6=int t∧env 7=rows L∧env 8=int x∧∀ (j:Nat) (hj:j<L.length),j<x->wrongP f L[j]=false) ⟨_,rfl,by simp[e3],by simp[e4],by simp[e5],by simp[e6],by simp,by simp,fun j hj hj0=>by omega⟩ ?_
    clear e3 e4 e5 e6
    rintro c2 x _ hx ⟨env,rfl,e3,e4,e5,e6,e7,e8,hfal⟩ ih3
    rcases Nat.lt_or_ge x L.length with g2|g2
    . have g2':(x:Int)<L.length:=by omega
      obtain⟨l,hl⟩:∃ l,l=L[x]:=⟨_,rfl⟩;have hA:=hLa l (by rw[hl];exact List.getElem_mem g2)
      have hll:=hA.len;have hgw:=withoutF_good hg l;have f0 : -9223372036854775808≤(x:Int)+1∧(x:Int)+1≤9223372036854775807:=by omega
      refine Resume.run lay [] ?_;simp[e3,e4,e5,e6,e7,e8,g2,← hl];refine callFn Tryz.func10 rfl rfl (less_ok hg hmk hrd1 hrd2 (by omega) ?_)
      refine PendW.go lay [] ?_;simp[e3,e4,e5,e6,e7,e8];refine callFn Tryz.func9 rfl rfl (Count_ok hs hgw.fits hgw.chk ⟨Nat.lt_of_le_of_lt (ways_le hgw _) (by omega),Nat.lt_of_le_of_lt (ways_le hgw _) (by omega)⟩ ?_)
      refine PendW.go lay [] ?_;simp[e3,e4,e5,e6,e7,e8];refine Resume.run lay [] ?_;simp[e3,e4,e5,e6,e7,e8];refine condW.intro (fun q=>?_) (fun q=>?_)
      . have hp:wrongP f l=true:=decide_eq_true ((count_pos hgw).1 (of_decide_eq_true q))
        have hwl:w=l:=by
          subst hL;rw[hl];exact wrong_first hw ht6 hnone g2 (fun j hj=>hfal j (by omega) hj) (by rw[← hl];exact hp)
        subst hwl;simp[e3,e4,e5,e6,e7,e8,g2,← hl];refine callFn Tryz.func11 rfl rfl (SameInts_ok (by omega) (by omega) ?_)
        refine Resume.run lay [] ?_;simp[e3,e4,e5,e6,e7,e8];refine callFn Tryz.func12 rfl rfl (marked_ok hs ?_);refine Resume.run lay [] ?_;simp[e3,e4,e5,e6,e7,e8];exact .done h
      . have hp:wrongP f l=false:=decide_eq_false fun e=>of_decide_eq_false q ((count_pos hgw).2 e)
        simp[e3,e4,e5,e6,e7,e8,f0.1,f0.2];refine Resume.run lay [] ?_;simp[e3,e4,e5,e6,e7,e8,f0.1,f0.2];refine ih3 _ g2 ⟨_,rfl,by simp[e3,e4,e5,e6,e7,e8],by simp[e3,e4,e5,e6,e7,e8],by simp[e3,e4,e5,e6,e7,e8],by simp[e3,e4,e5,e6,e7,e8],by simp[e3,e4,e5,e6,e7,e8],by simp,fun j hj hj2=>?_⟩
        by_cases e:j=x
        . subst e;rw[← hl];exact hp
        . exact hfal j hj (by omega)
    . have hxe:x=L.length:=by omega
      subst hxe;have f7 : -9223372036854775808≤(t:Int)+1∧(t:Int)+1≤9223372036854775807:=by omega
      refine Resume.run lay [] ?_;simp[e3,e4,e5,e6,e7,e8,f7.1,f7.2];refine ih2 _ (by omega) ⟨_,rfl,by simp[e3,e4,e5,e6,e7,e8],by simp[e3,e4,e5,e6,e7,e8],by simp[e3,e4,e5,e6,e7,e8],by simp,fun m' hm'=>?_⟩
      by_cases e:m'=t
      . subst e
        rw[← hL,List.find?_eq_none];intro y hy;obtain⟨j,hj,rfl⟩:=List.mem_iff_getElem.1 hy;rw[hfal j hj hj];simp
      . exact hnone m' (by omega)
  . exact absurd (wrong_end fun m' hm'=>hnone m' (by omega)) id
end Go.Proofs.YtibjfmfdjncniaaGreatDoor
