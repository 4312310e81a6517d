/- Part 28 of the proof. -/
import Derived.Test.YtibjfmfdjncniaaGreatDoorC27
set_option linter.all false
namespace Go.Proofs.YtibjfmfdjncniaaGreatDoor
open Go.Pal Go.Conc
set_option maxHeartbeats 1000000
variable {m:Mo} {σ:Store} {KF:Res->Store->Prop}
theorem Check_ok {f:Fr} (hf:f.Fits) (h:KF (.val (int (check f))) σ):FnOK Tryz.prog m 19 [fairA f] σ KF:=by
  unfold check at h;have hr:=hf.roads;have hen:=hf.ents;refine FnOK.start lay [] [] 1 Tryz.func19 rfl rfl (by rfl) (by kernel_rfl) ?_
  simp[Tryz.f19];refine callFn Tryz.func40 rfl rfl (checkRoads_ok hf.roads hf.row ?_);refine Resume.run lay [] ?_;simp;refine condW.intro (fun g1=>?_) (fun g1=>?_) <;> (try simp[-Int.not_lt,-Int.not_le,-Nat.not_lt,-Nat.not_le] at g1) <;> (try simp[g1] at h) <;> (try simp[g1]) <;> (try exact .done h)
  refine callFn Tryz.func41 rfl rfl (within_ok ?_);refine Resume.run lay [] ?_;simp;refine goW.intro (fun g2=>?_) (fun g2=>?_) <;> (try simp[-Int.not_lt,-Int.not_le,-Nat.not_lt,-Nat.not_le] at g2) <;> (try simp[g2] at h) <;> (try simp[g2]) <;> (try exact .done h)
  refine callFn Tryz.func41 rfl rfl (within_ok ?_);refine Resume.run lay [] ?_;simp;refine condW.intro (fun g3=>?_) (fun g3=>?_) <;> (try simp[-Int.not_lt,-Int.not_le,-Nat.not_lt,-Nat.not_le] at g3) <;> (try simp[g3] at h) <;> (try simp[g3]) <;> (try exact .done h)
  refine condW.intro (fun g4=>?_) (fun g4=>?_) <;> (try simp[-Int.not_lt,-Int.not_le,-Nat.not_lt,-Nat.not_le] at g4) <;> (try simp[g4] at h) <;> (try simp[g4]) <;> (try exact .done h)
  refine callFn Tryz.func41 rfl rfl (within_ok ?_);refine Resume.run lay [] ?_;simp;refine goW.intro (fun g5=>?_) (fun g5=>?_) <;> (try simp[-Int.not_lt,-Int.not_le,-Nat.not_lt,-Nat.not_le] at g5) <;> (try simp[g5] at h) <;> (try simp[g5]) <;> (try exact .done h)
  refine callFn Tryz.func41 rfl rfl (within_ok ?_);refine Resume.run lay [] ?_;simp;refine condW.intro (fun g6=>?_) (fun g6=>?_) <;> (try simp[-Int.not_lt,-Int.not_le,-Nat.not_lt,-Nat.not_le] at g6) <;> (try simp[g6] at h) <;> (try simp[g6]) <;> (try exact .done h)
  refine condW.intro (fun g7=>?_) (fun g7=>?_) <;> (try simp[-Int.not_lt,-Int.not_le,-Nat.not_lt,-Nat.not_le] at g7) <;> (try simp[g7] at h) <;> (try simp[g7]) <;> (try exact .done h)
  refine Resume.loop f.ents.length (fun k s => ∃ env σ',s=⟨env,σ',[],.no⟩∧σ.Le σ'∧env 1 = .cp (fairA f) 0∧env 47=entsA f.ents∧env 48=int f.ents.length∧env 49=int k∧firstBad (checkEntry f.roads.length) f.ents=firstBad (checkEntry f.roads.length) (f.ents.drop k)) ⟨_,_,rfl,Store.le_refl _,by simp⟩ ?_
  rintro c0 k _ hk ⟨env,σ',rfl,hle,h1,h47,h48,h49,hn⟩ ih
  refine Resume.run lay [] ?_;simp[h1,h47,h48,h49];refine condW.intro (fun g8=>?_) (fun g8=>?_) <;> (try simp[-Int.not_lt,-Int.not_le,-Nat.not_lt,-Nat.not_le] at g8) <;> (try simp[h1,h47,h48,h49,g8])
  . rw[firstBad_at _ _ k g8] at hn
    refine newW.intro fun b hb=>?_
    simp[h1,h47,h48,h49];refine callFn Tryz.func42 rfl rfl (checkEntry_ok ⟨by omega,by omega⟩ (hf.marks _ (List.getElem_mem g8)) ?_)
    refine Resume.run lay [] ?_;simp[h1,h47,h48,h49];refine condW.intro (fun g9=>?_) (fun g9=>?_) <;> (try simp[-Int.not_lt,-Int.not_le,-Nat.not_lt,-Nat.not_le] at g9) <;> (try simp[g9] at hn) <;> (try simp[h1,h47,h48,h49,g9]) <;> (try exact .done hn)
    . rw[hn] at h
      exact .less (Store.le_set hle hb) (.done h)
    . exact⟨by omega,ih _ g8 ⟨_,_,rfl,Store.le_set hle hb,by simp[h1,h47,h48,h49],by simp[h1,h47,h48,h49],by simp[h1,h47,h48,h49],by simp,hn⟩⟩
  . have:k=f.ents.length:=by omega
    subst this;simp[firstBad] at hn;rw[hn] at h;exact .less hle (.done h)
structure NewFair (σ:Store) (b mb:Nat) (σ':Store):Prop where
  hb:σ b=none
  hmb:σ mb=none
  ne:b≠mb
  eq:σ'=(σ.set mb (mapA .u8 [])).set b (.part (lockEnd 6))
def NewFair0 (f:Fr) (σ:Store):Res->Store->Prop:=fun r σ' => ∃ b mb,r = .val (.ref b 0)∧σ b=none∧σ mb=none∧b≠mb∧σ'=(σ.set mb (mapA .u8 [])).set b (.cells [entsA f.ents,rows f.roads,int f.sfrom,int f.sto,int f.dye,int f.most,.lit (.int .i32 0),.lit (.int .u32 0),.map mb])
theorem newFair_ok {f:Fr} (h:∀ b mb σ',NewFair σ b mb σ'->KF (.val (fpA b mb f 0)) σ'):FnOK Tryz.prog m 21 [fairA f] σ KF:=by
  refine FnOK.share (KF0:=NewFair0 f σ) ?_ ?_
  . refine FnOK.start lay [6] [] 1 Tryz.func21 rfl rfl (by rfl) (by kernel_rfl) ?_
    simp[Tryz.f21];refine os_makeMap .u8 rfl fun mb hmb=>?_
    refine Resume.run lay [6] ?_;simp[splice];refine newW.intro fun b hb=>?_
    obtain⟨n1,n2,hb⟩:=Store.set_none hb;simp;exact .done ⟨b,mb,rfl,hb,hmb,n1,rfl⟩
  . rintro r σ' ⟨b,mb,rfl,hb,hmb,hne,rfl⟩
    refine .inr ⟨b,_,[6,7],lockEnd 6,rfl,Store.set_same _ _ _,fun i v hv=>?_,fun i=>?_,?_⟩
    . unfold lockEnd at hv
      split at hv
      . next e=>subst e;cases hv;rfl
      . split at hv
        . next e=>subst e;cases hv;rfl
        . cases hv
    . unfold lockEnd
      simp;constructor
      . intro h;split at h <;> simp_all
      . rintro⟨h1,h2⟩;simp[h1,h2]
    . exact h b mb _ ⟨hb,hmb,hne,by simp⟩
def openErr (f:Fr) (l:List Int):Int:=if check f≠0 then check f else if l.all (isIn · 0 (f.ents.length-1)) then 0 else 3
theorem open_ok {f:Fr} {l:List Int} (hf:f.Fits) (hl:l.length<1152921504606846976) (h0:openErr f l≠0->KF (.val (.tup [.lit (.pointer none),int (openErr f l)])) σ)
    (h1:openErr f l=0->∀ b mb σ',NewFair σ b mb σ'->KF (.val (.tup [fpA b mb f 0,int 0])) σ'):FnOK Tryz.prog m 25 [fairA f,ints l] σ KF:=by
  have hen:=hf.ents;refine FnOK.start lay [] [] 2 Tryz.func25 rfl rfl (by rfl) (by kernel_rfl) ?_
  simp[Tryz.f25];refine callFn Tryz.func19 rfl rfl (Check_ok hf ?_);refine Resume.run lay [] ?_;simp;refine condW.intro (fun g1=>?_) (fun g1=>?_) <;> simp at g1 <;> simp[g1]
  . have:openErr f l=check f:=by unfold openErr;rw[if_pos g1]
    rw[this] at h0;exact .done (h0 g1)
  refine Resume.loop l.length (fun k s => ∃ env,s=⟨env,σ,[],.no⟩∧env 2 = .cp (fairA f) 0∧env 14=ints l∧env 15=int l.length∧env 16=int k∧(l.take k).all (isIn · 0 (f.ents.length-1))=true) ⟨_,rfl,by simp⟩ ?_
  rintro c0 k _ hk ⟨env,rfl,h2,h14,h15,h16,hall⟩ ih
  refine Resume.run lay [] ?_;simp[h2,h14,h15,h16];refine condW.intro (fun g2=>?_) (fun g2=>?_) <;> (try simp[-Int.not_lt,-Int.not_le,-Nat.not_lt,-Nat.not_le] at g2) <;> (try simp[h2,h14,h15,h16,g2])
  . refine⟨by omega,?_⟩
    refine callFn Tryz.func41 rfl rfl (within_ok ?_);refine Resume.run lay [] ?_;simp[h2,h14,h15,h16];refine condW.intro (fun g3=>?_) (fun g3=>?_) <;> (try simp[-Int.not_lt,-Int.not_le,-Nat.not_lt,-Nat.not_le] at g3) <;> (try simp[h2,h14,h15,h16,g3])
    . refine⟨by omega,ih _ g2 ⟨_,rfl,by simp[h2,h14,h15,h16],by simp[h2,h14,h15,h16],by simp[h2,h14,h15,h16],by simp,?_⟩⟩
      rw[List.take_succ_eq_append_getElem g2,List.all_append,hall];simp[g3]
    . have e:l.all (isIn · 0 (f.ents.length-1))=false:=by
        rw[List.all_eq_false];exact⟨_,List.getElem_mem g2,by simp[g3]⟩
      have:openErr f l=3:=by unfold openErr;rw[if_neg (by simp[g1]),e];rfl
      rw[this] at h0;exact .done (h0 (by simp))
  . have:k=l.length:=by omega
    subst this;rw[List.take_length] at hall;have:openErr f l=0:=by unfold openErr;rw[if_neg (by simp[g1]),if_pos hall]
    refine callFn Tryz.func21 rfl rfl (newFair_ok fun b mb σ' hn=>?_)
    refine Resume.run lay [] ?_;simp[h2,h14,h15,h16];exact .done (h1 this b mb σ' hn)
theorem list_ok {b mb:Nat} {f:Fr} {l:List Int} (hf:f.Fits) (hl:l.length<1152921504606846976) (h:KF (.val (errA (lister f l))) σ):FnOK Tryz.prog m 80 [fpA b mb f 0,ints l] σ KF:=by
  have hen:=hf.ents;unfold lister at h;refine FnOK.start lay [] [] 2 Tryz.func80 rfl rfl (by rfl) (by kernel_rfl) ?_
  simp[Tryz.f80];refine condW.intro (fun g1=>?_) (fun g1=>?_) <;> simp at g1 <;> simp[g1]
  . rw[if_pos (by simp[g1])] at h
    exact .done h
  rw[if_neg (by simpa using g1)] at h
  refine Resume.loop l.length (fun k s => ∃ env,s=⟨env,σ,[],.no⟩∧env 0=fpA b mb f 0∧env 1=ints l∧env 12=ints l∧env 13=int l.length∧env 14=int k∧listErr f none l=listErr f (if k=0 then none else l[k-1]?) (l.drop k)) ⟨_,rfl,by simp⟩ ?_
  rintro c0 k _ hk ⟨env,rfl,h0,h1,h12,h13,h14,hn⟩ ih
  refine Resume.run lay [] ?_;simp[h0,h1,h12,h13,h14];refine condW.intro (fun g2=>?_) (fun g2=>?_) <;> (try simp[-Int.not_lt,-Int.not_le,-Nat.not_lt,-Nat.not_le] at g2) <;> (try simp[h0,h1,h12,h13,h14,g2])
  . rw [listErr_at f _ k g2] at hn
    refine⟨by omega,?_⟩
    refine callFn Tryz.func41 rfl rfl (within_ok ?_);refine Resume.run lay [] ?_;simp[h0,h1,h12,h13,h14];refine condW.intro (fun g3=>?_) (fun g3=>?_) <;> (try simp[-Int.not_lt,-Int.not_le,-Nat.not_lt,-Nat.not_le] at g3) <;> (try simp[g3] at hn) <;> (try simp[h0,h1,h12,h13,h14,g3]) <;> (try exact .done hn)
    . refine goW.intro (fun g4=>?_) (fun g4=>?_) <;> (try simp[-Int.not_lt,-Int.not_le,-Nat.not_lt,-Nat.not_le] at g4) <;> (try simp[g4] at hn) <;> (try simp[h0,h1,h12,h13,h14,g4,g2]) <;> (try exact .done hn)
      . have e0:(k:Int)-1=((k-1:Nat):Int):=by omega
        have e1:k-1<l.length:=by omega
        have e2 : ¬ k=0:=by omega
        simp[h0,h1,h12,h13,h14,e0,e1]
        repeat refine⟨by omega,?_⟩
        try simp[e1,e2,notUp] at hn
        refine condW.intro (fun g5=>?_) (fun g5=>?_) <;> (try simp[-Int.not_lt,-Int.not_le,-Nat.not_lt,-Nat.not_le] at g5) <;> (try simp[g5] at hn) <;> (try simp[h0,h1,h12,h13,h14,g5]) <;> (try exact .done hn)
        . rw[hn] at h
          exact .done h
        . refine⟨by omega,ih _ g2 ⟨_,rfl,by simp[h0,h1,h12,h13,h14],by simp[h0,h1,h12,h13,h14],by simp[h0,h1,h12,h13,h14],by simp[h0,h1,h12,h13,h14],by simp,?_⟩⟩
          simp[hn,g2]
      . have g8:k=0:=by omega
        subst g8;simp[notUp] at hn;refine⟨by omega,ih _ g2 ⟨_,rfl,by simp[h0,h1,h12,h13,h14],by simp[h0,h1,h12,h13,h14],by simp[h0,h1,h12,h13,h14],by simp[h0,h1,h12,h13,h14],by simp,?_⟩⟩
        simp[hn,g2]
    . rw[hn] at h
      exact .done h
  . have:k=l.length:=by omega
    subst this;simp[listErr] at hn;rw[hn] at h;exact .done h
theorem As_ok {a:AV} (h:KF (.val (bool false)) σ):FnOK Tryz.prog m 79 [.lit .nilIface,a] σ KF:=by
  refine FnOK.start lay [] [] 2 Tryz.func79 rfl rfl (by rfl) (by kernel_rfl) ?_
  simp[Tryz.f79];refine os_ifaceNil lay rfl tt131 rfl (.inl ⟨rfl,rfl⟩) (.inl ⟨rfl,rfl⟩) ?_;refine Resume.run lay [] ?_;simp;exact .done h
end Go.Proofs.YtibjfmfdjncniaaGreatDoor
namespace Go.Proofs.YtibjfmfdjncniaaGreatDoor
open Go.Pal Go.Conc
set_option maxHeartbeats 1000000
set_option maxRecDepth 4000
variable {m:Mo} {σ:Store} {KF:Res->Store->Prop}
theorem commonOf_take (first:List Int) (others:List (List Int)) (k:Nat) (h:k<first.length):commonOf (first.take (k+1)) others=commonOf (first.take k) others ++ if others.all (fun l=>decide (first[k]∈l)) then [first[k]] else []:=by
  unfold commonOf;rw[List.take_succ_eq_append_getElem h,List.filter_append];simp only[List.filter_cons,List.filter_nil]
theorem commonOf_len (first:List Int) (others:List (List Int)):(commonOf first others).length≤first.length:=List.length_filter_le _ _
theorem common_ok {first:List Int} {others:List (List Int)} {sp sp2:Spare} (hf:first.length≤1000000000) (ho:others.length<1152921504606846976) (hl:∀ l∈others,l.length<1152921504606846976) (h:KF (.val (ints (commonOf first others))) σ):FnOK Tryz.prog m 85 [.sl 1 (first.map int) sp,.sl 1 (others.map ints) sp2] σ KF:=by
  refine FnOK.start lay [] [] 2 Tryz.func85 rfl rfl (by rfl) (by kernel_rfl) ?_
  simp[Tryz.f85];refine Resume.loop first.length (fun k s => ∃ env σ',s=⟨env,σ',[],.no⟩∧env 0 = .sl 1 (first.map int) sp∧env 1 = .sl 1 (others.map ints) sp2∧env 10 = .sl 1 (first.map int) sp∧env 11=int first.length∧env 12=int k∧Tok σ σ' (env 5) 1 ((commonOf (first.take k) others).map int)) ⟨_,_,rfl,by simp,by simp,by simp,by simp,by simp,.nil σ 1⟩ ?_
  rintro c0 k _ hk ⟨env,σ',rfl,h0,h1,h10,h11,h12,htok⟩ ih
  refine Resume.run lay [] ?_;simp[h0,h1,h10,h11,h12];have hlen:=commonOf_len (first.take k) others
  rw[List.length_take] at hlen;refine condW.intro (fun g1=>?_) (fun g1=>?_) <;> (try simp[-Int.not_lt,-Int.not_le,-Nat.not_lt,-Nat.not_le] at g1) <;> (try simp[h0,h1,h10,h11,h12,g1])
  . refine Resume.loop others.length (fun j s => ∃ env,s=⟨env,σ',[],.no⟩∧env 0 = .sl 1 (first.map int) sp∧env 1 = .sl 1 (others.map ints) sp2∧env 10 = .sl 1 (first.map int) sp∧env 11=int first.length∧env 12=int k∧Tok σ σ' (env 5) 1 ((commonOf (first.take k) others).map int)∧env 7=int first[k]∧env 16 = .sl 1 (others.map ints) sp2∧env 17=int others.length∧env 18=int j∧∀ l∈others.take j,first[k]∈l) ⟨_,rfl,by simp[h0,h1,h10,h11,h12,htok,g1]⟩ ?_
    clear h0 h1 h10 h11 h12 htok
    rintro c1 j _ hj ⟨env,rfl,h0,h1,h10,h11,h12,htok,h7,h16,h17,h18,hall⟩ ih2
    refine Resume.run lay [] ?_;simp[h0,h1,h10,h11,h12,h7,h16,h17,h18];refine condW.intro (fun g2=>?_) (fun g2=>?_) <;> (try simp[-Int.not_lt,-Int.not_le,-Nat.not_lt,-Nat.not_le] at g2) <;> (try simp[h0,h1,h10,h11,h12,h7,h16,h17,h18,g2])
    . refine callFn Tryz.func43 rfl rfl (Contains_ok (hl _ (List.getElem_mem g2)) ?_)
      refine Resume.run lay [] ?_;simp[h0,h1,h10,h11,h12,h7,h16,h17,h18];refine condW.intro (fun g3=>?_) (fun g3=>?_) <;> (try simp[-Int.not_lt,-Int.not_le,-Nat.not_lt,-Nat.not_le] at g3) <;> (try simp[h0,h1,h10,h11,h12,h7,h16,h17,h18,g3])
      . refine⟨by omega,ih2 _ g2 ⟨_,rfl,by simp[h0,h1,h10,h11,h12,h7,h16,h17,h18],by simp[h0,h1,h10,h11,h12,h7,h16,h17,h18],by simp[h0,h1,h10,h11,h12,h7,h16,h17,h18],by simp[h0,h1,h10,h11,h12,h7,h16,h17,h18],by simp[h0,h1,h10,h11,h12,h7,h16,h17,h18],by simpa using htok,by simp[h0,h1,h10,h11,h12,h7,h16,h17,h18],by simp[h0,h1,h10,h11,h12,h7,h16,h17,h18],by simp[h0,h1,h10,h11,h12,h7,h16,h17,h18],by simp,fun l hl=>?_⟩⟩
        rw[List.take_succ_eq_append_getElem g2,List.mem_append,List.mem_singleton] at hl
        rcases hl with hl|rfl
        . exact hall l hl
        . exact g3
      . refine⟨by omega,ih _ g1 ⟨_,_,rfl,by simp[h0,h1,h10,h11,h12,h7,h16,h17,h18],by simp[h0,h1,h10,h11,h12,h7,h16,h17,h18],by simp[h0,h1,h10,h11,h12,h7,h16,h17,h18],by simp[h0,h1,h10,h11,h12,h7,h16,h17,h18],by simp,?_⟩⟩
        have:others.all (fun l=>decide (first[k]∈l))=false:=by
          rw[List.all_eq_false];exact⟨_,List.getElem_mem g2,by simp[g3]⟩
        rw[commonOf_take _ _ _ g1,this];simpa using htok
    . have:j=others.length:=by omega
      subst this;rw[List.take_length] at hall;refine os_append lay rfl rfl rfl tt22 rfl tt22 rfl tt3 (by decide) (by simp;omega) (σ0:=σ) (es:=(commonOf (first.take k) others).map int) (xs:=[int first[k]]) (by simpa using htok) (.inr ⟨_,rfl⟩) fun a' σ2 ht'=>?_
      refine Resume.run lay [] ?_;simp[h0,h1,h10,h11,h12,h7,h16,h17,h18];refine⟨by omega,ih _ g1 ⟨_,_,rfl,by simp[h0,h1,h10,h11,h12,h7,h16,h17,h18],by simp[h0,h1,h10,h11,h12,h7,h16,h17,h18],by simp[h0,h1,h10,h11,h12,h7,h16,h17,h18],by simp[h0,h1,h10,h11,h12,h7,h16,h17,h18],by simp,?_⟩⟩
      have:others.all (fun l=>decide (first[k]∈l))=true:=by
        rw[List.all_eq_true];exact fun l hl=>by simpa using hall l hl
      rw[commonOf_take _ _ _ g1,this];simpa using ht'
  . have:k=first.length:=by omega
    subst this;rw[List.take_length] at htok;exact .weak htok.W (.less htok.1 (.done h))
structure Fr.Good (f:Fr):Prop where
  fits:f.Fits
  fr:0≤f.sfrom∧f.sfrom≤3
  to:0≤f.sto∧f.sto≤3
  le:f.sfrom≤f.sto
  dye:1≤f.dye∧f.dye≤6
  most:1≤f.most∧f.most≤6
  six:f.ents.length≤6
  ent:∀ e∈f.ents,checkEntry f.roads.length e=0
  rds:roadsErr f.roads=0
theorem firstBad_zero (g:Ent->Int):∀ {l:List Ent},firstBad g l=0->∀ e∈l,g e=0
  | [],_,e,he=>by simp at he
  | a :: l,h,e,he=>by
    unfold firstBad at h;split at h
    . next h0=>
      rcases List.mem_cons.1 he with rfl|he
      . exact h0
      . exact firstBad_zero g h e he
    . next h0=>exact absurd h h0
theorem Fr.good {f:Fr} (hf:f.Fits) (h:check f=0):f.Good:=by
  unfold check at h;split at h
  . next q=>exact absurd h q
  next q1=>
  split at h
  . cases h
  next q2=>
  split at h
  . cases h
  next q3=>
  split at h
  . cases h
  next q4=>
  split at h
  . cases h
  next q5=>
  simp only[Bool.not_eq_false,Bool.and_eq_true] at q2 q4;exact⟨hf,isIn_bd q2.1,isIn_bd q2.2,by omega,isIn_bd q4.1,isIn_bd q4.2,by omega,firstBad_zero _ h,by simpa using q1⟩
theorem entBd {p:Int} {e:Ent} (h:checkEntry p e=0):(0≤e.hour∧e.hour≤72)∧(0≤e.place∧e.place≤p-1)∧(0≤e.coat∧e.coat≤5)∧(0≤e.height∧e.height≤30)∧(0≤e.shod∧e.shod≤2)∧chkM none e.marks=0:=by
  unfold checkEntry at h;split at h
  . cases h
  next q1=>
  split at h
  . cases h
  next q2=>
  split at h
  . cases h
  next q3=>
  split at h
  . next q=>exact absurd h q
  next q4=>
  split at h
  . cases h
  next q5=>
  split at h
  . cases h
  next q6=>
  simp only[Bool.not_eq_false] at q1 q2 q3 q5 q6;exact⟨isIn_bd q1,isIn_bd q2,isIn_bd q3,isIn_bd q5,isIn_bd q6,by simpa using q4⟩
theorem shoes_len {f:Fr} (hf:f.Good) (e:Ent):(shoes f e).length≤4:=by
  unfold shoes;have:=hf.fr;have:=hf.to;split
  . rw[List.length_map,List.length_range];omega
  . simp
theorem tells_len {f:Fr} (hf:f.Good) (e:Ent):(tells f e).length≤5:=by
  unfold tells;have:=shoes_len hf e;split
  . rw[List.length_append];simp;omega
  . omega
theorem shoes_eq {f:Fr} {e:Ent} (h:e.shod≠0):shoes f e=(List.range (f.sto-f.sfrom+1).toNat).map fun i:Nat=>e.height-f.sto+(i:Int):=if_pos h
theorem heights_ok {b mb:Nat} {f:Fr} {l:List Int} (hf:f.Good) (hne:l≠[]) (hl:l.length≤1000000) (hb:∀ n∈l,0≤n∧n<f.ents.length) (h:KF (.val (ints (heightsOf f l))) σ):FnOK Tryz.prog m 52 [fpA b mb f 0,ints l] σ KF:=by
  have h6:=hf.six;have hfr:=hf.fr;have hto:=hf.to;have hle:=hf.le;refine FnOK.start lay [] pl52 2 Tryz.func52 rfl rfl (by rfl) (by kernel_rfl) ?_
  simp[Tryz.f52];refine Resume.loop l.length (fun k s => ∃ env σ',s=⟨env,σ',[],.no⟩∧env 0=fpA b mb f 0∧env 11=ints l∧env 12=int l.length∧env 13=int k∧Tok σ σ' (env 5) 1 ((l.take k).map fun n=>ints (tells f (entN f n)))) ⟨_,_,rfl,by simp,by simp,by simp,by simp,.nil σ 1⟩ ?_
  rintro c0 k _ hk ⟨env,σ',rfl,h0,h11,h12,h13,htok⟩ ih
  rcases Nat.lt_or_ge k l.length with g1|g1
  . obtain ⟨n0,n1⟩:=hb _ (List.getElem_mem g1)
    have n2:l[k].toNat<f.ents.length:=by omega
    obtain⟨e,he⟩:∃ e,e=f.ents[l[k].toNat]:=⟨_,rfl⟩;have heN:entN f l[k]=e:=by simp[entN,List.getD_eq_getElem?_getD,n2,he]
    have hbd:=entBd (hf.ent e (by rw[he];exact List.getElem_mem n2))
    have hnext:(l.take (k+1)).map (fun n=>ints (tells f (entN f n)))=(l.take k).map (fun n=>ints (tells f (entN f n))) ++ [ints (tells f e)]:=by
      rw[List.take_succ_eq_append_getElem g1,List.map_append];simp[heN]
    refine Resume.run lay [] ?_;simp[h0,h11,h12,h13,g1,n0,n2,← he];refine newW.intro fun c hc=>?_
    simp[h0,h11,h12,h13]
    have hc0:σ c=none:=by
      cases q:σ c with
      | none=>rfl
      | some x=>rw[htok.1 c x q] at hc;cases hc
    have ht1:Tok σ (σ'.set c (.cells [int e.hour,int e.place,int e.coat,ints e.marks,int e.height,int e.shod])) (env 5) 1 ((l.take k).map fun n=>ints (tells f (entN f n))):=htok.beside hc0 (fun q=>by obtain⟨_,x,hx⟩:=htok.tok_some q;rw[hx] at hc;cases hc)
    have hcs:(σ'.set c (.cells [int e.hour,int e.place,int e.coat,ints e.marks,int e.height,int e.shod])) c=some (.cells [int e.hour,int e.place,int e.coat,ints e.marks,int e.height,int e.shod]):=Store.set_same _ _ _;generalize σ'.set c (.cells [int e.hour,int e.place,int e.coat,ints e.marks,int e.height,int e.shod])=σ1 at ht1 hcs;refine condW.intro (fun g2=>?_) (fun g2=>?_) <;> simp at g2 <;> simp[g2]
    . have f1 : -9223372036854775808≤f.sto-f.sfrom∧f.sto-f.sfrom≤9223372036854775807:=by omega
      have f2 : -9223372036854775808≤f.sto-f.sfrom+1∧f.sto-f.sfrom+1≤9223372036854775807:=by omega
      simp[h0,h11,h12,h13,f1.1,f1.2,f2.1,f2.2];refine Resume.run lay [] ?_;simp[h0,h11,h12,h13];obtain⟨a5,ha5⟩:∃ a,a=env 5:=⟨_,rfl⟩;rw[← ha5] at ht1;obtain⟨cnt,hcnt⟩:∃ cnt:Nat,(cnt:Int)=f.sto-f.sfrom+1:=⟨(f.sto-f.sfrom+1).toNat,by omega⟩
      have hc4:cnt≤4:=by omega
      have hsh:shoes f e=(List.range cnt).map fun i:Nat=>e.height-f.sto+(i:Int):=by
        rw[shoes_eq g2];congr 2;omega
      refine Resume.loop cnt (fun j s => ∃ env σ2,s=⟨env,σ2,[],.no⟩∧env 0=fpA b mb f 0∧env 11=ints l∧env 12=int l.length∧env 13=int k∧env 5=a5∧env 8 = .ref c 0∧env 41=int cnt∧env 42=int j∧Tok σ1 σ2 (env 9) 1 (((List.range j).map fun i:Nat=>e.height-f.sto+(i:Int)).map int)) ⟨_,_,rfl,by simp[h0,h11,h12,h13,← ha5,hcnt,Tok.nil]⟩ ?_
      clear h0 h11 h12 h13 htok ha5
      rintro c1 j _ hj ⟨env,σ2,rfl,h0,h11,h12,h13,h5,h8,h41,h42,htk⟩ ih2
      have hcs2:=htk.1 _ _ hcs
      rcases Nat.lt_or_ge j cnt with g3|g3
      . have f3 : -9223372036854775808≤e.height-f.sto∧e.height-f.sto≤9223372036854775807:=by omega
        have f4 : -9223372036854775808≤e.height-f.sto+j∧e.height-f.sto+j≤9223372036854775807:=by omega
        refine Resume.run lay [] ?_;simp[h0,h11,h12,h13,h5,h8,h41,h42,g3,hcs2,f3.1,f3.2,f4.1,f4.2];refine os_append lay rfl rfl rfl tt22 rfl tt22 rfl tt3 (by decide) (by simp only[List.length_map,List.length_range,List.length_cons,List.length_nil];omega) (σ0:=σ1) (es:=((List.range j).map fun i:Nat=>e.height-f.sto+(i:Int)).map int) (xs:=[int (e.height-f.sto+j)]) (by simpa using htk) (.inr ⟨_,rfl⟩) fun a' σ3 ht'=>?_
        refine PendW.go lay [] ?_;simp[h0,h11,h12,h13,h5,h8,h41,h42];refine Resume.run lay [] ?_;simp[h0,h11,h12,h13,h5,h8,h41,h42];refine⟨by omega,ih2 _ g3 ⟨_,_,rfl,by simp[h0,h11,h12,h13,h5,h8,h41,h42],by simp[h0,h11,h12,h13,h5,h8,h41,h42],by simp[h0,h11,h12,h13,h5,h8,h41,h42],by simp[h0,h11,h12,h13,h5,h8,h41,h42],by simp[h0,h11,h12,h13,h5,h8,h41,h42],by simp[h0,h11,h12,h13,h5,h8,h41,h42],by simp[h0,h11,h12,h13,h5,h8,h41,h42],by simp,?_⟩⟩
        rw[List.range_succ,List.map_append,List.map_append];simpa using ht'
      . have:j=cnt:=by omega
        subst this;rw[← hsh] at htk;have hsl:=shoes_len hf e;have hW:Wl [env 9,int e.height] [ints (shoes f e),int e.height]:=.cons htk.W (.cons (.refl _) .nil)
        by_cases g4:e.shod=1
        . refine Resume.wat 9 htk.W ?_
          have htl:tells f e=shoes f e:=if_neg fun q=>q.1 g4
          refine Resume.run lay [] ?_;simp[h0,h11,h12,h13,h5,h8,h41,h42,g3,hcs2,g4];refine os_append lay rfl rfl rfl tt24 rfl tt24 rfl tt22 (by decide) (by simp;omega) (σ0:=σ) (es:=(l.take k).map fun n=>ints (tells f (entN f n))) (xs:=[ints (tells f e)]) (by simpa using ht1.up htk.1) (.inr ⟨_,by rw[htl];simp;rfl⟩) fun a4 σ4 ht4=>?_
          refine Resume.run lay [] ?_;simp[h0,h11,h12,h13,h5,h8,h41,h42];refine⟨by omega,ih _ g1 ⟨_,_,rfl,by simp[h0,h11,h12,h13,h5,h8,h41,h42],by simp[h0,h11,h12,h13,h5,h8,h41,h42],by simp[h0,h11,h12,h13,h5,h8,h41,h42],by simp,?_⟩⟩
          rw[hnext];simpa using ht4
        . have g4':(e.shod != 1)=true:=by simp[g4]
          by_cases g5:e.height∈shoes f e
          . have htl:tells f e=shoes f e:=if_neg fun q=>q.2 g5
            refine Resume.run lay [] ?_;simp[h0,h11,h12,h13,h5,h8,h41,h42,g3,hcs2,g4'];refine callFnW Tryz.func43 rfl rfl hW (Contains_ok (by omega) ?_)
            refine Resume.wat 9 (a':=ints (shoes f e)) (by simpa using htk.W) ?_
            refine Resume.run lay [] ?_;simp[h0,h11,h12,h13,h5,h8,h41,h42,g5];refine os_append lay rfl rfl rfl tt24 rfl tt24 rfl tt22 (by decide) (by simp;omega) (σ0:=σ) (es:=(l.take k).map fun n=>ints (tells f (entN f n))) (xs:=[ints (tells f e)]) (by simpa using ht1.up htk.1) (.inr ⟨_,by rw[htl];simp;rfl⟩) fun a4 σ4 ht4=>?_
            refine Resume.run lay [] ?_;simp[h0,h11,h12,h13,h5,h8,h41,h42];refine⟨by omega,ih _ g1 ⟨_,_,rfl,by simp[h0,h11,h12,h13,h5,h8,h41,h42],by simp[h0,h11,h12,h13,h5,h8,h41,h42],by simp[h0,h11,h12,h13,h5,h8,h41,h42],by simp,?_⟩⟩
            rw[hnext];simpa using ht4
          . have htl:tells f e=shoes f e ++ [e.height]:=if_pos ⟨g4,g5⟩
            refine Resume.run lay [] ?_;simp[h0,h11,h12,h13,h5,h8,h41,h42,g3,hcs2,g4'];refine callFnW Tryz.func43 rfl rfl hW (Contains_ok (by omega) ?_)
            refine Resume.run lay [] ?_;simp[h0,h11,h12,h13,h5,h8,h41,h42,g5,hcs2];refine os_append lay rfl rfl rfl tt22 rfl tt22 rfl tt3 (by decide) (by simp;omega) (σ0:=σ1) (es:=(shoes f e).map int) (xs:=[int e.height]) (by simpa using htk) (.inr ⟨_,rfl⟩) fun a' σ3 ht'=>?_
            refine Resume.wat 74 (a':=AV.sl 1 ((shoes f e).map int ++ [int e.height]) .any) (by simpa using ht'.W) ?_
            refine Resume.run lay [] ?_;simp[h0,h11,h12,h13,h5,h8,h41,h42];refine os_append lay rfl rfl rfl tt24 rfl tt24 rfl tt22 (by decide) (by simp;omega) (σ0:=σ) (es:=(l.take k).map fun n=>ints (tells f (entN f n))) (xs:=[ints (tells f e)]) (by simpa using ht1.up ht'.1) (.inr ⟨_,by rw[htl];simp;rfl⟩) fun a4 σ4 ht4=>?_
            refine Resume.run lay [] ?_;simp[h0,h11,h12,h13,h5,h8,h41,h42];refine⟨by omega,ih _ g1 ⟨_,_,rfl,by simp[h0,h11,h12,h13,h5,h8,h41,h42],by simp[h0,h11,h12,h13,h5,h8,h41,h42],by simp[h0,h11,h12,h13,h5,h8,h41,h42],by simp,?_⟩⟩
            rw[hnext];simpa using ht4
    . have htl:tells f e=[e.height]:=by
        simp[tells,shoes,g2]
      simp[h0,h11,h12,h13,hcs,g2];have hW:Wl [AV.lit (.slice none 0 0),int e.height] [ints [],int e.height]:=.cons (W_nil 1) (.cons (.refl _) .nil);refine callFnW Tryz.func43 rfl rfl hW (Contains_ok (by simp) ?_)
      refine Resume.run lay [] ?_;simp[h0,h11,h12,h13,hcs];refine os_append lay rfl rfl rfl tt22 rfl tt22 rfl tt3 (by decide) (by simp) (σ0:=σ1) (es:=[]) (xs:=[int e.height]) (by simpa using Tok.nil σ1 1) (.inr ⟨_,rfl⟩) fun a' σ3 ht'=>?_
      refine Resume.wat 74 (a':=AV.sl 1 [int e.height] .any) (by simpa using ht'.W) ?_
      refine Resume.run lay [] ?_;simp[h0,h11,h12,h13];refine os_append lay rfl rfl rfl tt24 rfl tt24 rfl tt22 (by decide) (by simp;omega) (σ0:=σ) (es:=(l.take k).map fun n=>ints (tells f (entN f n))) (xs:=[ints (tells f e)]) (by simpa using ht1.up ht'.1) (.inr ⟨_,by rw[htl];simp;rfl⟩) fun a4 σ4 ht4=>?_
      refine Resume.run lay [] ?_;simp[h0,h11,h12,h13];refine⟨by omega,ih _ g1 ⟨_,_,rfl,by simp[h0,h11,h12,h13],by simp[h0,h11,h12,h13],by simp[h0,h11,h12,h13],by simp,?_⟩⟩
      rw[hnext];simpa using ht4
  . have:k=l.length:=by omega
    subst this;rw[List.take_length] at htok;refine Resume.wat 5 htok.W ?_;have hpos:0<l.length:=List.length_pos_iff.2 hne;refine Resume.run lay [] ?_;simp[h0,h11,h12,h13,hpos];refine os_sliceSl lay rfl tt24 rfl tt22 (es:=l.map fun n=>ints (tells f (entN f n))) (sp:=.any) (l:=1) (h:=l.length) ?_ (fun cap hcap=>⟨rfl,⟨rfl,by simp⟩,⟨_,rfl⟩,by first|omega | (simp;omega)⟩) (by simp) ?_
    . simp
    obtain⟨n0,r,rfl⟩:∃ n0 r,l=n0 :: r:=by
      cases l with
      | nil=>exact absurd rfl hne
      | cons a r=>exact⟨a,r,rfl⟩
    refine PendW.go lay [] ?_;simp[h0,h11,h12,h13]
    have e:List.take r.length (List.map (fun n=>ints (tells f (entN f n))) r)=(r.map fun n=>tells f (entN f n)).map ints:=by
      rw[List.take_of_length_le (by simp)]
      simp
    rw[e];have hlen:=tells_len hf (entN f n0);refine callFn Tryz.func85 rfl rfl (common_ok (first:=tells f (entN f n0)) (others:=r.map fun n=>tells f (entN f n)) (by omega) (by simp at hl ⊢;omega) (fun x hx=>?_) ?_)
    . obtain⟨n,_,rfl⟩:=List.mem_map.1 hx
      have:=tells_len hf (entN f n);omega
    refine PendW.go lay [] ?_;simp[h0,h11,h12,h13];refine Resume.run lay [] ?_;simp[h0,h11,h12,h13];refine .less htok.1 (.done ?_);simpa[heightsOf] using h
end Go.Proofs.YtibjfmfdjncniaaGreatDoor
namespace Go.Proofs.YtibjfmfdjncniaaGreatDoor
open Go.Pal Go.Conc
set_option maxHeartbeats 1000000
set_option maxRecDepth 4000
variable {m:Mo} {σ:Store} {KF:Res->Store->Prop}
theorem openErr_nil {f:Fr} (h:check f=0):openErr f []=0:=by unfold openErr;rw[if_neg (by simp[h])];rfl
theorem openErr_in {f:Fr} {l:List Int} (h:check f=0) (hl:∀ n∈l,0≤n∧n<f.ents.length):openErr f l=0:=by
  unfold openErr;rw[if_neg (by simp[h]),if_pos]
  rw[List.all_eq_true];intro n hn;have:=hl n hn;simp[isIn];omega
theorem NewFair.le {σ σ':Store} {b mb:Nat} (h:NewFair σ b mb σ'):σ.Le σ':=by
  rw[h.eq];exact Store.le_set (Store.le_set (Store.le_refl _) h.hmb) (by rw[Store.set_ne _ _ h.ne];exact h.hb)
structure Lst (f:Fr) (l:List Int):Prop where
  ok:lister f l=0
  len:l.length≤1000000
theorem lst_mem (f:Fr):∀ {l:List Int} {p:Option Int},listErr f p l=0->∀ n∈l,0≤n∧n<f.ents.length
  | [],_,_,n,hn=>by simp at hn
  | a :: l,p,h,n,hn=>by
    unfold listErr at h;split at h
    . cases h
    next q1=>
    split at h
    . cases h
    next q2=>
    rcases List.mem_cons.1 hn with rfl|hn
    . simp[isIn] at q1;omega
    . exact lst_mem f h n hn
theorem Lst.mem {f:Fr} {l:List Int} (h:Lst f l):∀ n∈l,0≤n∧n<f.ents.length:=by
  have:=h.ok;unfold lister at this;split at this
  . cases this
  . exact lst_mem f this
theorem Lst.ne {f:Fr} {l:List Int} (h:Lst f l):l≠[]:=fun e=>by
  have:=h.ok;subst e;simp[lister] at this
theorem listed_ok {f:Fr} {l:List Int} (hf:f.Fits) (hc:check f=0) (hl:Lst f l) (h:∀ b mb σ',NewFair σ b mb σ'->KF (.val (.tup [fpA b mb f 0,int 0])) σ'):FnOK Tryz.prog m 49 [fairA f,ints l] σ KF:=by
  have hll:=hl.len;refine FnOK.start lay [] pl49 2 Tryz.func49 rfl rfl (by rfl) (by kernel_rfl) ?_
  simp[Tryz.f49];have hno:=openErr_nil hc;have hW:Wl [AV.agg (fairL f),AV.lit (.slice none 0 0)] [fairA f,ints []]:=.cons (.refl _) (.cons (W_nil 1) .nil);refine callFnW Tryz.func25 rfl rfl hW (open_ok hf (by simp) (fun q=>absurd hno q) fun _ b mb σ' hn=>?_)
  refine Resume.run lay [] ?_;simp;refine newW.intro fun c hc'=>?_
  simp;refine callFn Tryz.func80 rfl rfl (list_ok hf (by omega) ?_)
  rw[hl.ok];refine Resume.run lay [] ?_;simp;refine callFn Tryz.func79 rfl rfl (As_ok ?_);refine Resume.run lay [] ?_;simp;exact .less (Store.le_set (Store.le_refl _) hc') (.done (h b mb σ' hn))
theorem Heights_ok {f:Fr} {l:List Int} (hf:f.Fits) (hc:check f=0) (hl:Lst f l) (h:KF (.val (.tup [ints (heightsOf f l),int 0])) σ):FnOK Tryz.prog m 30 [fairA f,ints l] σ KF:=by
  refine FnOK.start lay [] [] 2 Tryz.func30 rfl rfl (by rfl) (by kernel_rfl) ?_
  simp[Tryz.f30];refine callFn Tryz.func49 rfl rfl (listed_ok hf hc hl fun b mb σ' hn=>?_)
  refine Resume.run lay [] ?_;simp;refine callFn Tryz.func52 rfl rfl (heights_ok (Fr.good hf hc) hl.ne hl.len hl.mem ?_);refine Resume.run lay [] ?_;simp;exact .less hn.le (.done h)
theorem marksWith_ok {a n:Int} (hn:0≤n) (h:KF (.val (u8 (setBit a n))) σ):FnOK Tryz.prog m 149 [u8 a,int n] σ KF:=by
  refine FnOK.start lay [] [] 2 Tryz.func149 rfl rfl (by rfl) (by kernel_rfl) ?_
  simp[Tryz.f149];refine⟨hn,?_⟩;simp[ibin_or8];exact .done h
theorem marksOf_ok {l:List Int} (hl:l.length<1152921504606846976) (h0:∀ n∈l,0≤n) (h:KF (.val (u8 (marksInt l))) σ):FnOK Tryz.prog m 147 [ints l] σ KF:=by
  refine FnOK.start lay [] [] 1 Tryz.func147 rfl rfl (by rfl) (by kernel_rfl) ?_
  simp[Tryz.f147];refine Resume.loop l.length (fun k s => ∃ env,s=⟨env,σ,[],.no⟩∧env 3=u8 (marksInt (l.take k))∧env 4 = .fn (.func 149) [u8 (marksInt (l.take k))] []∧env 9=ints l∧env 10=int l.length∧env 11=int k) ⟨_,rfl,by simp[marksInt]⟩ ?_
  rintro c0 k _ hk ⟨env,rfl,h3,h4,h9,h10,h11⟩ ih
  refine Resume.run lay [] ?_;simp[h3,h4,h9,h10,h11];refine condW.intro (fun g1=>?_) (fun g1=>?_) <;> (try simp[-Int.not_lt,-Int.not_le,-Nat.not_lt,-Nat.not_le] at g1) <;> (try simp[h3,h4,h9,h10,h11,g1])
  . have e:marksInt (l.take (k+1))=setBit (marksInt (l.take k)) l[k]:=by
      unfold marksInt;rw[List.take_succ_eq_append_getElem g1,List.foldl_append];rfl
    refine callFnC Tryz.func149 rfl rfl rfl (marksWith_ok (h0 _ (List.getElem_mem g1)) ?_);rw[← e];refine Resume.run lay [] ?_;simp[h3,h4,h9,h10,h11];exact⟨by omega,ih _ g1 ⟨_,rfl,by simp[h3,h4,h9,h10,h11],by simp[h3,h4,h9,h10,h11],by simp[h3,h4,h9,h10,h11],by simp[h3,h4,h9,h10,h11],by simp⟩⟩
  . have:k=l.length:=by omega
    subst this;rw[List.take_length];exact .done h
def dropBit (x:Int):Int:=andU8 x (subU8 x 1)
def dropN:Nat->Int->Int
  | 0,x=>x
  | n+1,x=>dropBit (dropN n x)
def popF:Nat->Int->Int
  | 0,_=>0
  | n+1,x=>if x=0 then 0 else 1+popF n (dropBit x)
def changedOf (a b:Int):Int:=popF 8 (xorU8 a b)
theorem changed_ok {a b:Int} (hz:dropN 8 (xorU8 a b)=0) (h:KF (.val (int (changedOf a b))) σ):FnOK Tryz.prog m 148 [u8 a,u8 b] σ KF:=by
  refine FnOK.start lay [] [] 2 Tryz.func148 rfl rfl (by rfl) (by kernel_rfl) ?_
  simp[Tryz.f148,ibin_xor8];refine Resume.loop 8 (fun k s => ∃ env,s=⟨env,σ,[],.no⟩∧env 5=int k∧env 6=u8 (dropN k (xorU8 a b))∧changedOf a b=k+popF (8-k) (dropN k (xorU8 a b))) ⟨_,rfl,by simp,by simp;rfl,by simp[dropN,changedOf]⟩ ?_
  rintro c0 k _ hk ⟨env,rfl,h5,h6,hn⟩ ih
  refine Resume.run lay [] ?_;simp[h5,h6];refine condW.intro (fun g1=>?_) (fun g1=>?_) <;> (try simp[-Int.not_lt,-Int.not_le,-Nat.not_lt,-Nat.not_le] at g1) <;> (try simp[h5,h6,g1])
  . have k8:k<8:=by
      rcases Nat.lt_or_ge k 8 with q|q
      . exact q
      . have:k=8:=by omega
        subst this;exact absurd hz g1
    refine⟨by omega,?_⟩
    simp[h5,h6,ibin_and8,ibin_sub8];refine ih _ k8 ⟨_,rfl,by simp,by simp[dropN,dropBit],?_⟩
    have e:8-k=(8-(k+1))+1:=by omega
    rw[e,popF,if_neg g1] at hn;rw[hn];simp only[dropN];omega
  . rw[g1] at hn
    have e:popF (8-k) 0=0:=by cases 8-k <;> simp[popF]
    rw[e] at hn;rw[hn] at h;exact .done (by simpa using h)
abbrev horseA (x:Int):AV:=.agg [u8 x]
theorem with_ok {x n:Int} (hn:0≤n) (h:KF (.val (horseA (setBit x n))) σ):FnOK Tryz.prog m 57 [horseA x,int n] σ KF:=by
  refine FnOK.start lay [2] pl57 2 Tryz.func57 rfl rfl (by rfl) (by kernel_rfl) ?_
  simp[Tryz.f57];refine newW.intro fun c hc=>?_
  simp;refine newW.intro fun d hd=>?_
  obtain⟨n1,n2,hd⟩:=Store.set_none hd;simp[n1,n2,Store.set_ne,ibin_or8,hn];refine Resume.run lay [2] ?_;simp[n1,n2,Store.set_ne];exact .less (by repeat (first|exact Store.le_refl _|assumption|refine Store.le_upd ?_ (by assumption) | refine Store.le_del ?_ (by assumption))) (.done h)
theorem hlist_ok {x:Int} (h:KF (.val (ints (bitsOf x))) σ):FnOK Tryz.prog m 91 [horseA x] σ KF:=by
  refine FnOK.start lay [] [] 1 Tryz.func91 rfl rfl (by rfl) (by kernel_rfl) ?_
  simp[Tryz.f91];refine Resume.loop 6 (fun k s => ∃ env σ',s=⟨env,σ',[],.no⟩∧env 1 = .cp (horseA x) 0∧env 5=int k∧Tok σ σ' (env 3) 1 ((((List.range k).map fun n:Nat=>(n:Int)).filter fun n=>hasBit x n).map int)) ⟨_,_,rfl,by simp,by simp,.nil σ 1⟩ ?_
  rintro c0 k _ hk ⟨env,σ',rfl,h1,h5,htok⟩ ih
  rcases Nat.lt_or_ge k 6 with g1|g1
  . have g1':(k:Int)<6:=by omega
    have hl:(((List.range k).map fun n:Nat=>(n:Int)).filter fun n=>hasBit x n).length≤k:=by
      refine Nat.le_trans (List.length_filter_le _ _) ?_;rw[List.length_map,List.length_range];exact Nat.le_refl _
    have hs:(((List.range (k+1)).map fun n:Nat=>(n:Int)).filter fun n=>hasBit x n)=(((List.range k).map fun n:Nat=>(n:Int)).filter fun n=>hasBit x n) ++ if hasBit x k then [(k:Int)] else []:=by
      rw[List.range_succ,List.map_append,List.filter_append];simp[List.filter_cons]
    refine Resume.run lay [] ?_;simp[h1,h5,g1',ibin_and8];have hx:hasBit x k=(andU8 (x.fdiv (2 ^ min k IntKind.u8.bits)) 1 == 1):=by simp[hasBit]
    rw[← hx];cases hb:hasBit x k
    . simp[h1,h5]
      refine⟨by omega,ih _ g1 ⟨_,_,rfl,by simp[h1,h5],by simp,?_⟩⟩
      rw[hs,hb];simpa using htok
    . simp[h1,h5]
      refine os_append lay rfl rfl rfl tt22 rfl tt22 rfl tt3 (by decide) (by simp only[List.length_map,List.length_cons,List.length_nil];omega) (σ0:=σ) (es:=(((List.range k).map fun n:Nat=>(n:Int)).filter fun n=>hasBit x n).map int) (xs:=[int k]) (by simpa using htok) (.inr ⟨_,rfl⟩) fun a' σ2 ht'=>?_
      refine Resume.run lay [] ?_;simp[h1,h5];refine⟨by omega,ih _ g1 ⟨_,_,rfl,by simp[h1,h5],by simp,?_⟩⟩
      rw[hs,hb];simpa using ht'
  . have:k=6:=by omega
    subst this;refine Resume.run lay [] ?_;simp[h1,h5];exact .weak htok.W (.less htok.1 (.done h))
def verdictOf (a b:Int):Int:=if 0<a∧a<b then 3 else if a=b then 1 else 2
theorem verdict_ok {a b:Int} (h:KF (.val (int (verdictOf a b))) σ):FnOK Tryz.prog m 86 [int a,int b] σ KF:=by
  unfold verdictOf at h;refine FnOK.start lay [] [] 2 Tryz.func86 rfl rfl (by rfl) (by kernel_rfl) ?_
  simp[Tryz.f86];refine goW.intro (fun g1=>?_) (fun g1=>?_) <;> (try simp[-Int.not_lt,-Int.not_le,-Nat.not_lt,-Nat.not_le] at g1) <;> (try simp[g1] at h) <;> (try simp[g1]) <;> (try exact .done h)
  . refine condW.intro (fun g2=>?_) (fun g2=>?_) <;> (try simp[-Int.not_lt,-Int.not_le,-Nat.not_lt,-Nat.not_le] at g2) <;> (try simp[g2] at h) <;> (try simp[g2]) <;> (try exact .done h)
    . have:a≠b:=by omega
      refine condW.intro (fun g3=>?_) (fun g3=>?_) <;> (try simp[-Int.not_lt,-Int.not_le,-Nat.not_lt,-Nat.not_le] at g3) <;> (try simp[g3])
      . exact absurd g3 this
      . exact .done h
    . refine condW.intro (fun g3=>?_) (fun g3=>?_) <;> (try simp[-Int.not_lt,-Int.not_le,-Nat.not_lt,-Nat.not_le] at g3) <;> (try simp[g3] at h) <;> (try simp[g3]) <;> (try exact .done h)
  . refine condW.intro (fun g3=>?_) (fun g3=>?_) <;> (try simp[-Int.not_lt,-Int.not_le,-Nat.not_lt,-Nat.not_le] at g3) <;> (try simp[g3] at h) <;> (try simp[g3]) <;> (try exact .done h)
end Go.Proofs.YtibjfmfdjncniaaGreatDoor
namespace Go.Proofs.YtibjfmfdjncniaaGreatDoor
open Go.Pal Go.Conc
set_option maxHeartbeats 1000000
set_option maxRecDepth 4000
variable {m:Mo} {σ:Store} {KF:Res->Store->Prop}
theorem Clone_own {l:List Int} (hne:l≠[]) (hl:l.length≤1000000000) (h:∀ a σ',OwnTok σ σ' a 1 (l.map int)->KF (.val a) σ'):FnOK Tryz.prog m 102 [ints l] σ KF:=by
  refine FnOK.start lay [] [] 1 Tryz.func102 rfl rfl (by rfl) (by kernel_rfl) ?_
  simp[Tryz.f102];refine os_sliceNil lay rfl tt22 rfl rfl (.inr (.inl ⟨rfl,by simpa using hne,rfl⟩)) (.inl ⟨rfl,rfl⟩) ?_
  refine Resume.run lay [] ?_;simp;refine os_appendOwn lay rfl rfl rfl tt22 rfl tt22 rfl tt3 (by decide) (by simp;omega) (σ0:=σ) (es:=[]) (xs:=l.map int) (.empty σ 1) (.inl (.inr ⟨_,rfl⟩)) (by simp) fun a' σ' ht=>?_
  refine Resume.run lay [] ?_;simp;exact .done (h _ _ (by simpa using ht))
def insR (lt:Int->Int->Bool) (x:Int):List Int->List Int
  | []=>[x]
  | y :: r=>if lt x y then y :: insR lt x r else x :: y :: r
def sortR (lt:Int->Int->Bool) (l:List Int):List Int:=l.foldl (fun r x=>insR lt x r) []
theorem insR_len (lt:Int->Int->Bool) (x:Int):∀ r,(insR lt x r).length=r.length+1
  | []=>rfl
  | y :: r=>by unfold insR;split <;> simp[insR_len lt x r]
theorem sortR_len (lt:Int->Int->Bool) (l:List Int):(sortR lt l).length=l.length:=by
  have key:∀ (l r:List Int),(l.foldl (fun r x=>insR lt x r) r).length=r.length+l.length:=by
    intro l
    induction l with
    | nil=>intro r;rfl
    | cons a l ih=>intro r;rw[List.foldl_cons,ih,insR_len];simp;omega
  rw[sortR,key];simp
theorem insR_mem (lt:Int->Int->Bool) (x:Int):∀ (r:List Int) (y:Int),y∈insR lt x r ↔ y=x∨y∈r
  | [],y=>by simp[insR]
  | z :: r,y=>by
    unfold insR;split
    . rw[List.mem_cons,insR_mem lt x r y,List.mem_cons]
      constructor
      . rintro (h|h|h)
        . exact .inr (.inl h)
        . exact .inl h
        . exact .inr (.inr h)
      . rintro (h|h|h)
        . exact .inr (.inl h)
        . exact .inl h
        . exact .inr (.inr h)
    . simp
theorem sortR_mem (lt:Int->Int->Bool) (l:List Int) (y:Int):y∈sortR lt l ↔ y∈l:=by
  have key:∀ (l r:List Int),y∈l.foldl (fun r x=>insR lt x r) r ↔ y∈r∨y∈l:=by
    intro l
    induction l with
    | nil=>intro r;simp
    | cons a l ih=>
      intro r;rw[List.foldl_cons,ih,insR_mem,List.mem_cons];constructor
      . rintro ((h|h) | h)
        . exact .inr (.inl h)
        . exact .inl h
        . exact .inr (.inr h)
      . rintro (h|h|h)
        . exact .inl (.inr h)
        . exact .inl (.inl h)
        . exact .inr h
  rw[sortR,key];simp
def CmpOK (m:Mo) (y:AV) (c:Int->Int->Int) (In:Int->Prop):Prop := ∀ (a b:Int) (σ:Store) (KF:Res->Store->Prop),In a->In b->KF (.val (int (c a b))) σ->CallV Tryz.prog m y [int a,int b] σ KF
theorem at_n {α:Type} {A B:List α} {x y:α} {n:Nat} (hn:A.length=n):(A ++ y :: x :: B)[n]? = some y∧(A ++ y :: x :: B)[n+1]? = some x∧((A ++ y :: x :: B).set n x).set (n+1) y=A ++ x :: y :: B∧((A ++ y :: x :: B).set (n+1) y).set n x=A ++ x :: y :: B:=by
  subst hn;refine⟨by simp,?_,?_,?_⟩
  . rw[List.getElem?_append_right (by omega)];simp
  . rw[List.set_append_right _ _ (by omega),List.set_append_right _ _ (by omega)];simp
  . rw[List.set_append_right _ _ (by omega),List.set_append_right _ _ (by omega)];simp
theorem insSort_ok {y:AV} {c:Int->Int->Int} {In:Int->Prop} {l:List Int} {b cap:Nat} {rest:List AV} (hy:CmpOK m y c In) (hin:∀ x∈l,In x) (hl:l.length≤1000000) (hb:σ b=some (.cells (l.map int ++ rest)))
    (h:KF (.val (.tup [])) (σ.set b (.cells ((sortR (fun a b=>decide (c a b<0)) l).reverse.map int ++ rest)))):FnOK Tryz.prog m 114 [.msl b 0 l.length cap,int 0,int l.length,y] σ KF:=by
  refine FnOK.start lay [] pl114 4 Tryz.func114 rfl rfl (by rfl) (by kernel_rfl) ?_
  simp[Tryz.f114];obtain⟨lt,hlt⟩:∃ lt,lt=fun a b=>decide (c a b<0):=⟨_,rfl⟩
  rw[← hlt] at h;refine Resume.loop l.length (fun i s => ∃ env σ',s=⟨env,σ',[],.no⟩∧env 0 = .msl b 0 l.length cap∧env 1=int 0∧env 2=int l.length∧env 3=y∧env 8=int ((i:Int)+1)∧σ'=σ.set b (.cells ((sortR lt (l.take (i+1))).reverse.map int ++ ((l.drop (i+1)).map int ++ rest)))) ⟨_,_,rfl,by simp,by simp,by simp,by simp,by simp,?_⟩ ?_
  . have e:(sortR lt (l.take 1)).reverse.map int ++ ((l.drop 1).map int ++ rest)=l.map int ++ rest:=by
      cases l with
      | nil=>simp[sortR]
      | cons a l=>simp[sortR,insR]
    rw[e]
    funext d
    by_cases q:d=b
    . subst q;rw[Store.set_same,hb]
    . rw[Store.set_ne _ _ q]
  rintro c0 i _ hi ⟨env,σ',rfl,h0,h1,h2,h3,h8,hσ⟩ ih
  rcases Nat.lt_or_ge (i+1) l.length with g1|g1
  . have g1':(i:Int)+1<l.length:=by omega
    obtain⟨S,hS⟩:∃ S,S=sortR lt (l.take (i+1)):=⟨_,rfl⟩;have hSl:S.length=i+1:=by rw[hS,sortR_len,List.length_take];omega
    have hSm:∀ x∈S,In x:=fun x hx=>hin x (List.mem_of_mem_take ((sortR_mem lt _ x).1 (hS ▸ hx)))
    have hSn:sortR lt (l.take (i+1+1))=insR lt l[i+1] S:=by
      rw[hS,sortR,List.take_succ_eq_append_getElem g1,List.foldl_append];rfl
    obtain⟨x,hx⟩:∃ x,x=l[i+1]:=⟨_,rfl⟩;have hxi:In x:=hin x (by rw[hx];exact List.getElem_mem g1)
    have hdr:l.drop (i+1)=x :: l.drop (i+2):=by rw[hx];exact List.drop_eq_getElem_cons g1
    rw[← hS,hdr] at hσ;rw[← hx] at hSn;refine Resume.run lay [] ?_;simp[h0,h1,h2,h3,h8,g1']
    refine Resume.loop (i+1) (fun k s => ∃ env σ' S1 S2,s=⟨env,σ',[],.no⟩∧env 0 = .msl b 0 l.length cap∧env 1=int 0∧env 2=int l.length∧env 3=y∧env 8=int ((i:Int)+1)∧env 9=int S2.length∧S=S1 ++ S2∧S2.length+k=i+1∧insR lt x S=S1 ++ insR lt x S2 ∧
      σ'=σ.set b (.cells ((S2.reverse.map int) ++ int x :: (S1.reverse.map int ++ ((l.drop (i+2)).map int ++ rest)))) ) ⟨_,_,[],S,rfl,by simp[h0],by simp[h1],by simp[h2],by simp[h3],by simp[h8],by simp[hSl],rfl,by omega,rfl,by rw[hσ];simp⟩ ?_
    clear h0 h1 h2 h3 h8 hσ
    rintro c1 k _ hk ⟨env,σ',S1,S2,rfl,h0,h1,h2,h3,h8,h9,hSS,hlen,hins,hσ⟩ ih2
    cases S2 with
    | nil=>
      simp only[List.length_nil,Nat.zero_add] at hlen;simp only[List.append_nil] at hSS;subst hSS
      have hfin:σ'=σ.set b (.cells ((sortR lt (l.take (i+1+1))).reverse.map int ++ ((l.drop (i+1+1)).map int ++ rest))):=by
        rw[hσ,hSn,hins];simp[insR]
      refine Resume.run lay [] ?_;simp[h0,h1,h2,h3,h8,h9];refine⟨?_,?_⟩
      all_goals
        refine Resume.run lay [] ?_;simp[h0,h1,h2,h3,h8,h9];refine⟨by omega,ih _ (by omega) ⟨_,_,rfl,by simp[h0,h1,h2,h3,h8,h9],by simp[h0,h1,h2,h3,h8,h9],by simp[h0,h1,h2,h3,h8,h9],by simp[h0,h1,h2,h3,h8,h9],by simp,hfin⟩⟩
    | cons z S2=>
      obtain⟨e1,e2,e3,e4⟩:=at_n (A:=S2.reverse.map int) (B:=S1.reverse.map int ++ ((l.drop (i+2)).map int ++ rest)) (x:=int x) (y:=int z) (n:=S2.length) (by simp)
      have hσ':σ' b=some (.cells (S2.reverse.map int ++ int z :: int x :: (S1.reverse.map int ++ ((l.drop (i+2)).map int ++ rest)))):=by
        rw[hσ,Store.set_same];simp
      have hzi:In z:=hSm z (by rw[hSS];simp)
      have f1:(0:Int)<(S2.length:Int)+1:=by omega
      have f2:(S2.length:Int)+1<l.length:=by simp at hlen;omega
      have f3:(S2.length:Int)<l.length:=by omega
      have f4:(0:Int)≤(S2.length:Int)+1:=by omega
      have f5:((S2.length:Int)+1).toNat=S2.length+1:=by omega
      have f6 : -9223372036854775808≤(S2.length:Int)∧(S2.length:Int)≤9223372036854775807:=by omega
      refine Resume.run lay [] ?_;simp[h0,h1,h2,h3,h8,h9,f1,f2,f3,f4,f5,f6.1,f6.2,hσ',e1,e2];refine⟨hy _ _ _ _ hxi hzi ?_,hy _ _ _ _ hxi hzi ?_⟩
      all_goals
        refine PendW.go lay [] ?_;simp[h0,h1,h2,h3,h8,h9];refine Resume.run lay [] ?_;simp[h0,h1,h2,h3,h8,h9]
        by_cases hc:c x z<0
        . have f7:S2.length+1+1≤S2.length+(S1.length+(l.length-(i+2)+rest.length)+1+1):=by omega
          have f8:S2.length+1≤S2.length+(S1.length+(l.length-(i+2)+rest.length)+1+1):=by omega
          have hl1:insR lt x (z :: S2)=z :: insR lt x S2:=by rw[hlt];simp[insR,hc]
          simp[h0,h1,h2,h3,h8,h9,hc,f5,f6.1,f6.2,f2,f3,f4,hσ',e1,e2,f7,f8];refine Resume.run lay [] ?_;simp[h0,h1,h2,h3,h8,h9,f6.1,f6.2];refine ih2 _ (by simp at hlen;omega) ⟨_,_,S1 ++ [z],S2,rfl,by simp[h0,h1,h2,h3,h8,h9],by simp[h0,h1,h2,h3,h8,h9],by simp[h0,h1,h2,h3,h8,h9],by simp[h0,h1,h2,h3,h8,h9],by simp[h0,h1,h2,h3,h8,h9],by simp,by rw[hSS];simp,by simp at hlen;omega,by rw[hins,hl1];simp,?_⟩
          rw[hσ];simp
        . have hl1:insR lt x (z :: S2)=x :: z :: S2:=by rw[hlt];simp[insR,hc]
          have hfin:σ'=σ.set b (.cells ((sortR lt (l.take (i+1+1))).reverse.map int ++ ((l.drop (i+1+1)).map int ++ rest))):=by
            rw[hσ,hSn,hins,hl1];simp
          simp[h0,h1,h2,h3,h8,h9,hc];exact⟨by omega,ih _ (by omega) ⟨_,_,rfl,by simp[h0,h1,h2,h3,h8,h9],by simp[h0,h1,h2,h3,h8,h9],by simp[h0,h1,h2,h3,h8,h9],by simp[h0,h1,h2,h3,h8,h9],by simp,hfin⟩⟩
  . have hfin:(sortR lt (l.take (i+1))).reverse.map int ++ ((l.drop (i+1)).map int ++ rest)=(sortR lt l).reverse.map int ++ rest:=by
      rw[List.take_of_length_le (by omega),List.drop_of_length_le (by omega)];simp
    rw[hfin] at hσ;have g2 : ¬ (i:Int)+1<l.length:=by omega
    refine Resume.run lay [] ?_;simp[h0,h1,h2,h3,h8,g2];rw[hσ];exact .done h
theorem stableCmp_ok {y:AV} {c:Int->Int->Int} {In:Int->Prop} {l:List Int} {b cap:Nat} {rest:List AV} (hy:CmpOK m y c In) (hin:∀ x∈l,In x) (hl:l.length<20) (hb:σ b=some (.cells (l.map int ++ rest)))
    (h:KF (.val (.tup [])) (σ.set b (.cells ((sortR (fun a b=>decide (c a b<0)) l).reverse.map int ++ rest)))):FnOK Tryz.prog m 109 [.msl b 0 l.length cap,int l.length,y] σ KF:=by
  refine FnOK.start lay [] [] 3 Tryz.func109 rfl rfl (by rfl) (by kernel_rfl) ?_
  simp[Tryz.f109];have g1 : ¬ (20:Int)≤l.length:=by omega
  have g2 : ¬ (20:Int)<l.length:=by omega
  refine Resume.loop 1 (fun k s => ∃ env,s=⟨env,σ,[],.no⟩∧env 0 = .msl b 0 l.length cap∧env 1=int l.length∧env 2=y∧env 6=int 20∧env 7=int 0∧env 8=int 20) ⟨_,rfl,by simp⟩ ?_
  rintro c0 k _ hk ⟨env,rfl,h0,h1,h2,h6,h7,h8⟩ ih
  refine Resume.run lay [] ?_;simp[h0,h1,h2,h6,h7,h8,g1];refine callFn Tryz.func114 rfl rfl (insSort_ok hy hin (by omega) hb ?_)
  refine Resume.run lay [] ?_;simp[h0,h1,h2,h6,h7,h8];refine Resume.loop 1 (fun k s => ∃ env σ',s=⟨env,σ',[],.no⟩∧env 1=int l.length∧env 6=int 20∧σ'=σ.set b (.cells ((sortR (fun a b=>decide (c a b<0)) l).reverse.map int ++ rest))) ⟨_,_,rfl,by simp[h1],by simp[h6],by simp⟩ ?_
  clear h0 h1 h2 h6 h7 h8
  rintro c1 k _ hk ⟨env,σ',rfl,h1,h6,hσ⟩ ih
  refine Resume.run lay [] ?_;simp[h1,h6,g2];rw[hσ];exact .done h
theorem SortStableFunc_ok {y:AV} {c:Int->Int->Int} {In:Int->Prop} {l:List Int} {b cap:Nat} {rest:List AV} (hy:CmpOK m y c In) (hin:∀ x∈l,In x) (hl:l.length<20) (hb:σ b=some (.cells (l.map int ++ rest)))
    (h:KF (.val (.tup [])) (σ.set b (.cells ((sortR (fun a b=>decide (c a b<0)) l).reverse.map int ++ rest)))):FnOK Tryz.prog m 103 [.msl b 0 l.length cap,y] σ KF:=by
  refine FnOK.start lay [] [] 2 Tryz.func103 rfl rfl (by rfl) (by kernel_rfl) ?_
  simp[Tryz.f103];refine callFn Tryz.func109 rfl rfl (stableCmp_ok hy hin hl hb ?_);refine Resume.run lay [] ?_;simp;exact .done (by simpa using h)
theorem sort_ok {y:AV} {c:Int->Int->Int} {In:Int->Prop} {l:List Int} (hy:CmpOK m y c In) (hin:∀ x∈l,In x) (hl:l.length<20) (hne:l≠[]) (hyc:y.cells=[y]∧y.flat=true) (h:KF (.val (ints (sortR (fun a b=>decide (c a b<0)) l).reverse)) σ):FnOK Tryz.prog m 83 [.agg [y],ints l] σ KF:=by
  refine FnOK.start lay [] [] 2 Tryz.func83 rfl rfl (by rfl) (by kernel_rfl) ?_
  simp[Tryz.f83,hyc.1,hyc.2];refine callFn Tryz.func102 rfl rfl (Clone_own hne (by omega) fun a σ' ht=>?_)
  obtain⟨b,cap,rest,rfl,q1,q2,q3,q4,q5⟩:∃ b cap rest,a = .msl b 0 (l.map int).length cap∧σ b=none∧(l.map int).length≤cap∧(∀ e∈l.map int,e.cells.length=1)∧σ' b=some (.cells (flatten (l.map int) ++ rest))∧rest.length=(cap-(l.map int).length)*1:=by
    rcases ht.2 with ⟨e,_⟩|h
    . exact absurd (by simpa using e) hne
    . exact h
  have hfl:∀ l:List Int,flatten (l.map int)=l.map int:=fun l=>by
    induction l with
    | nil=>rfl
    | cons a l ih=>simp[flatten_cons,AV.cells,ih]
  rw[hfl] at q4;rw[List.length_map] at q2 q5 ⊢;refine Resume.run lay [] ?_;simp[hyc.1,hyc.2];refine callFn Tryz.func103 rfl rfl (SortStableFunc_ok hy hin hl q4 ?_);refine Resume.run lay [] ?_;simp;refine OwnTok.thaw (σ0:=σ) (kk:=1) (es:=(sortR (fun a b=>decide (c a b<0)) l).reverse.map int) ⟨Store.le_upd ht.1 q1,.inr ⟨b,cap,rest,?_,q1,?_,fun e he=>?_,?_,?_⟩⟩ h
  . simp[sortR_len]
  . simpa[sortR_len] using q2
  . obtain⟨x,_,rfl⟩:=List.mem_map.1 he;rfl
  . rw[hfl];simp
  . simpa[sortR_len] using q5
def byHour (f:Fr) (a b:Int):Int:=cmpInt (entN f a).hour (entN f b).hour
theorem why1_ok {b mb:Nat} {f:Fr} {x y:Int} (hx:0≤x∧x<f.ents.length) (hy:0≤y∧y<f.ents.length) (h:KF (.val (int (byHour f x y))) σ):FnOK Tryz.prog m 81 [int x,int y,.cp (fpA b mb f 0) 0] σ KF:=by
  have x1:x.toNat<f.ents.length:=by omega
  have y1:y.toNat<f.ents.length:=by omega
  have ex:entN f x=f.ents[x.toNat]:=by simp[entN,List.getD_eq_getElem?_getD,x1]
  have ey:entN f y=f.ents[y.toNat]:=by simp[entN,List.getD_eq_getElem?_getD,y1]
  unfold byHour at h;rw[ex,ey] at h;refine FnOK.start lay [] pl81 3 Tryz.func81 rfl rfl (by rfl) (by kernel_rfl) ?_
  simp[Tryz.f81,x1,y1,hx.1,hy.1];refine callFn Tryz.func82 rfl rfl (Compare_ok ?_);refine PendW.go lay [] ?_;simp;refine Resume.run lay [] ?_;simp;exact .done h
theorem why1_cmp {b mb:Nat} {f:Fr}:CmpOK m (.fn (.func 81) [] [.cp (fpA b mb f 0) 0]) (byHour f) (fun n=>0≤n∧n<f.ents.length):=fun x y σ KF hx hy h=>by
  refine callFnC Tryz.func81 rfl rfl rfl (why1_ok hx hy h)
end Go.Proofs.YtibjfmfdjncniaaGreatDoor
