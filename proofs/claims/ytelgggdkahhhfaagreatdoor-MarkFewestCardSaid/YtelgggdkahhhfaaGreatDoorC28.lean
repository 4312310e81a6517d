/- Part 28 of the proof. -/
import Derived.Test.YtelgggdkahhhfaaGreatDoorC27
set_option linter.all false
namespace Go.Proofs.YtelgggdkahhhfaaGreatDoor
open Go.aZ Go.Conc
set_option maxHeartbeats 1000000
variable {m:Mo} {σ:aa} {KF:cV->aa->Prop}
theorem xn {f:Fr} (hf:f.Fits) (h:KF (.val (int (check f))) σ):ar Tryz.prog m 37 [bg f] σ KF:=by
 unfold check at h;have hr:=hf.roads;have hen:=hf.aB;refine ar.start lay [] [] 1 Tryz.func37 rfl rfl (by rfl) (by kernel_rfl) ?_
 simp[Tryz.f37];refine ap Tryz.func67 rfl rfl (sL hf.roads hf.row ?_);refine ab.run lay [] ?_;simp;refine aF.intro (fun g1=>?_) (fun g1=>?_) <;> (try simp[-Int.not_lt,-Int.not_le,-Nat.not_lt,-Nat.not_le] at g1) <;> (try simp[g1] at h) <;> (try simp[g1]) <;> (try exact .done h)
 refine ap Tryz.func61 rfl rfl (ck ?_);refine ab.run lay [] ?_;simp;refine sz.intro (fun g2=>?_) (fun g2=>?_) <;> (try simp[-Int.not_lt,-Int.not_le,-Nat.not_lt,-Nat.not_le] at g2) <;> (try simp[g2] at h) <;> (try simp[g2]) <;> (try exact .done h)
 refine ap Tryz.func61 rfl rfl (ck ?_);refine ab.run lay [] ?_;simp;refine aF.intro (fun g3=>?_) (fun g3=>?_) <;> (try simp[-Int.not_lt,-Int.not_le,-Nat.not_lt,-Nat.not_le] at g3) <;> (try simp[g3] at h) <;> (try simp[g3]) <;> (try exact .done h)
 refine aF.intro (fun g4=>?_) (fun g4=>?_) <;> (try simp[-Int.not_lt,-Int.not_le,-Nat.not_lt,-Nat.not_le] at g4) <;> (try simp[g4] at h) <;> (try simp[g4]) <;> (try exact .done h)
 refine ap Tryz.func61 rfl rfl (ck ?_);refine ab.run lay [] ?_;simp;refine sz.intro (fun g5=>?_) (fun g5=>?_) <;> (try simp[-Int.not_lt,-Int.not_le,-Nat.not_lt,-Nat.not_le] at g5) <;> (try simp[g5] at h) <;> (try simp[g5]) <;> (try exact .done h)
 refine ap Tryz.func61 rfl rfl (ck ?_);refine ab.run lay [] ?_;simp;refine aF.intro (fun g6=>?_) (fun g6=>?_) <;> (try simp[-Int.not_lt,-Int.not_le,-Nat.not_lt,-Nat.not_le] at g6) <;> (try simp[g6] at h) <;> (try simp[g6]) <;> (try exact .done h)
 refine aF.intro (fun g7=>?_) (fun g7=>?_) <;> (try simp[-Int.not_lt,-Int.not_le,-Nat.not_lt,-Nat.not_le] at g7) <;> (try simp[g7] at h) <;> (try simp[g7]) <;> (try exact .done h)
 refine ab.loop f.aB.length (fun k s => ∃ env σ',s=⟨env,σ',[],.no⟩∧σ.Le σ'∧env 1 = .cp (bg f) 0∧env 47=rQ f.aB∧env 48=int f.aB.length∧env 49=int k∧dE (cS f.roads.length) f.aB=dE (cS f.roads.length) (f.aB.drop k)) ⟨_,_,rfl,aa.le_refl _,by simp⟩ ?_
 rintro c0 k _ hk ⟨env,σ',rfl,hle,h1,h47,h48,h49,hn⟩ ih
 refine ab.run lay [] ?_;simp[h1,h47,h48,h49];refine aF.intro (fun g8=>?_) (fun g8=>?_) <;> (try simp[-Int.not_lt,-Int.not_le,-Nat.not_lt,-Nat.not_le] at g8) <;> (try simp[h1,h47,h48,h49,g8])
 . rw[xj _ _ k g8] at hn
   refine dL.intro fun b hb=>?_
   simp[h1,h47,h48,h49];refine ap Tryz.func68 rfl rfl (sK ⟨by omega,by omega⟩ (hf.marks _ (List.getElem_mem g8)) ?_)
   refine ab.run lay [] ?_;simp[h1,h47,h48,h49];refine aF.intro (fun g9=>?_) (fun g9=>?_) <;> (try simp[-Int.not_lt,-Int.not_le,-Nat.not_lt,-Nat.not_le] at g9) <;> (try simp[g9] at hn) <;> (try simp[h1,h47,h48,h49,g9]) <;> (try exact .done hn)
   . rw[hn] at h
     exact .less (aa.fQ hle hb) (.done h)
   . exact⟨by omega,ih _ g8 ⟨_,_,rfl,aa.fQ hle hb,by simp[h1,h47,h48,h49],by simp[h1,h47,h48,h49],by simp[h1,h47,h48,h49],by simp,hn⟩⟩
 . have:k=f.aB.length:=by omega
   subst this;simp[dE] at hn;rw[hn] at h;exact .less hle (.done h)
structure n7 (σ:aa) (b mb:Nat) (σ':aa):Prop where
 hb:σ b=none
 vL:σ mb=none
 ne:b≠mb
 eq:σ'=(σ.set mb (mapA .u8 [])).set b (.part (bc 6))
def DR (f:Fr) (σ:aa):cV->aa->Prop:=fun r σ' => ∃ b mb,r = .val (.ref b 0)∧σ b=none∧σ mb=none∧b≠mb∧σ'=(σ.set mb (mapA .u8 [])).set b (.cells [rQ f.aB,rows f.roads,int f.eQ,int f.m8,int f.iM,int f.most,.lit (.int .i32 0),.lit (.int .u32 0),.map mb])
theorem rT {f:Fr} (h:∀ b mb σ',n7 σ b mb σ'->KF (.val (io b mb f 0)) σ'):ar Tryz.prog m 39 [bg f] σ KF:=by
 refine ar.share (KF0:=DR f σ) ?_ ?_
 . refine ar.start lay [6] [] 1 Tryz.func39 rfl rfl (by rfl) (by kernel_rfl) ?_
   simp[Tryz.f39];refine x8 .u8 rfl fun mb vL=>?_
   refine ab.run lay [6] ?_;simp[bt];refine dL.intro fun b hb=>?_
   obtain⟨n1,n2,hb⟩:=aa.aR hb;simp;exact .done ⟨b,mb,rfl,hb,vL,n1,rfl⟩
 . rintro r σ' ⟨b,mb,rfl,hb,vL,hne,rfl⟩
   refine .inr ⟨b,_,[6,7],bc 6,rfl,aa.ao _ _ _,fun i v hv=>?_,fun i=>?_,?_⟩
   . unfold bc at hv
     split at hv
     . next e=>subst e;cases hv;rfl
     . split at hv
       . next e=>subst e;cases hv;rfl
       . cases hv
   . unfold bc
     simp;constructor
     . intro h;split at h <;> simp_all
     . rintro⟨h1,h2⟩;simp[h1,h2]
   . exact h b mb _ ⟨hb,vL,hne,by simp⟩
def eh (f:Fr) (l:List Int):Int:=if check f≠0 then check f else if l.all (dD · 0 (f.aB.length-1)) then 0 else 3
theorem qp {f:Fr} {l:List Int} (hf:f.Fits) (hl:l.length<1152921504606846976) (h0:eh f l≠0->KF (.val (.cB [.lit (.pointer none),int (eh f l)])) σ)
 (h1:eh f l=0->∀ b mb σ',n7 σ b mb σ'->KF (.val (.cB [io b mb f 0,int 0])) σ'):ar Tryz.prog m 35 [bg f,ints l] σ KF:=by
 have hen:=hf.aB;refine ar.start lay [] [] 2 Tryz.func35 rfl rfl (by rfl) (by kernel_rfl) ?_
 simp[Tryz.f35];refine ap Tryz.func37 rfl rfl (xn hf ?_);refine ab.run lay [] ?_;simp;refine aF.intro (fun g1=>?_) (fun g1=>?_) <;> simp at g1 <;> simp[g1]
 . have:eh f l=check f:=by unfold eh;rw[if_pos g1]
   rw[this] at h0;exact .done (h0 g1)
 refine ab.loop l.length (fun k s => ∃ env,s=⟨env,σ,[],.no⟩∧env 2 = .cp (bg f) 0∧env 14=ints l∧env 15=int l.length∧env 16=int k∧(l.take k).all (dD · 0 (f.aB.length-1))=true) ⟨_,rfl,by simp⟩ ?_
 rintro c0 k _ hk ⟨env,rfl,h2,h14,h15,h16,hall⟩ ih
 refine ab.run lay [] ?_;simp[h2,h14,h15,h16];refine aF.intro (fun g2=>?_) (fun g2=>?_) <;> (try simp[-Int.not_lt,-Int.not_le,-Nat.not_lt,-Nat.not_le] at g2) <;> (try simp[h2,h14,h15,h16,g2])
 . refine⟨by omega,?_⟩
   refine ap Tryz.func61 rfl rfl (ck ?_);refine ab.run lay [] ?_;simp[h2,h14,h15,h16];refine aF.intro (fun g3=>?_) (fun g3=>?_) <;> (try simp[-Int.not_lt,-Int.not_le,-Nat.not_lt,-Nat.not_le] at g3) <;> (try simp[h2,h14,h15,h16,g3])
   . refine⟨by omega,ih _ g2 ⟨_,rfl,by simp[h2,h14,h15,h16],by simp[h2,h14,h15,h16],by simp[h2,h14,h15,h16],by simp,?_⟩⟩
     rw[List.take_succ_eq_append_getElem g2,List.all_append,hall];simp[g3]
   . have e:l.all (dD · 0 (f.aB.length-1))=false:=by
      rw[List.all_eq_false];exact⟨_,List.getElem_mem g2,by simp[g3]⟩
     have:eh f l=3:=by unfold eh;rw[if_neg (by simp[g1]),e];rfl
     rw[this] at h0;exact .done (h0 (by simp))
 . have:k=l.length:=by omega
   subst this;rw[List.take_length] at hall;have:eh f l=0:=by unfold eh;rw[if_neg (by simp[g1]),if_pos hall]
   refine ap Tryz.func39 rfl rfl (rT fun b mb σ' hn=>?_)
   refine ab.run lay [] ?_;simp[h2,h14,h15,h16];exact .done (h1 this b mb σ' hn)
theorem GE {b mb:Nat} {f:Fr} {l:List Int} (hf:f.Fits) (hl:l.length<1152921504606846976) (h:KF (.val (L3 (o6 f l))) σ):ar Tryz.prog m 79 [io b mb f 0,ints l] σ KF:=by
 have hen:=hf.aB;unfold o6 at h;refine ar.start lay [] [] 2 Tryz.func79 rfl rfl (by rfl) (by kernel_rfl) ?_
 simp[Tryz.f79];refine aF.intro (fun g1=>?_) (fun g1=>?_) <;> simp at g1 <;> simp[g1]
 . rw[if_pos (by simp[g1])] at h
   exact .done h
 rw[if_neg (by simpa using g1)] at h
 refine ab.loop l.length (fun k s => ∃ env,s=⟨env,σ,[],.no⟩∧env 0=io b mb f 0∧env 1=ints l∧env 12=ints l∧env 13=int l.length∧env 14=int k∧eZ f none l=eZ f (if k=0 then none else l[k-1]?) (l.drop k)) ⟨_,rfl,by simp⟩ ?_
 rintro c0 k _ hk ⟨env,rfl,h0,h1,h12,h13,h14,hn⟩ ih
 refine ab.run lay [] ?_;simp[h0,h1,h12,h13,h14];refine aF.intro (fun g2=>?_) (fun g2=>?_) <;> (try simp[-Int.not_lt,-Int.not_le,-Nat.not_lt,-Nat.not_le] at g2) <;> (try simp[h0,h1,h12,h13,h14,g2])
 . rw [yC f _ k g2] at hn
   refine⟨by omega,?_⟩
   refine ap Tryz.func61 rfl rfl (ck ?_);refine ab.run lay [] ?_;simp[h0,h1,h12,h13,h14];refine aF.intro (fun g3=>?_) (fun g3=>?_) <;> (try simp[-Int.not_lt,-Int.not_le,-Nat.not_lt,-Nat.not_le] at g3) <;> (try simp[g3] at hn) <;> (try simp[h0,h1,h12,h13,h14,g3]) <;> (try exact .done hn)
   . refine sz.intro (fun g4=>?_) (fun g4=>?_) <;> (try simp[-Int.not_lt,-Int.not_le,-Nat.not_lt,-Nat.not_le] at g4) <;> (try simp[g4] at hn) <;> (try simp[h0,h1,h12,h13,h14,g4,g2]) <;> (try exact .done hn)
     . have e0:(k:Int)-1=((k-1:Nat):Int):=by omega
       have e1:k-1<l.length:=by omega
       have e2 : ¬ k=0:=by omega
       simp[h0,h1,h12,h13,h14,e0,e1]
       repeat refine⟨by omega,?_⟩
       try simp[e1,e2,mC] at hn
       refine aF.intro (fun g5=>?_) (fun g5=>?_) <;> (try simp[-Int.not_lt,-Int.not_le,-Nat.not_lt,-Nat.not_le] at g5) <;> (try simp[g5] at hn) <;> (try simp[h0,h1,h12,h13,h14,g5]) <;> (try exact .done hn)
       . rw[hn] at h
         exact .done h
       . refine⟨by omega,ih _ g2 ⟨_,rfl,by simp[h0,h1,h12,h13,h14],by simp[h0,h1,h12,h13,h14],by simp[h0,h1,h12,h13,h14],by simp[h0,h1,h12,h13,h14],by simp,?_⟩⟩
         simp[hn,g2]
     . have g8:k=0:=by omega
       subst g8;simp[mC] at hn;refine⟨by omega,ih _ g2 ⟨_,rfl,by simp[h0,h1,h12,h13,h14],by simp[h0,h1,h12,h13,h14],by simp[h0,h1,h12,h13,h14],by simp[h0,h1,h12,h13,h14],by simp,?_⟩⟩
       simp[hn,g2]
   . rw[hn] at h
     exact .done h
 . have:k=l.length:=by omega
   subst this;simp[eZ] at hn;rw[hn] at h;exact .done h
theorem Kx {a:AV} (h:KF (.val (bool false)) σ):ar Tryz.prog m 78 [.lit .nilIface,a] σ KF:=by
 refine ar.start lay [] [] 2 Tryz.func78 rfl rfl (by rfl) (by kernel_rfl) ?_
 simp[Tryz.f78];refine lp lay rfl Km rfl (.inl ⟨rfl,rfl⟩) (.inl ⟨rfl,rfl⟩) ?_;refine ab.run lay [] ?_;simp;exact .done h
end Go.Proofs.YtelgggdkahhhfaaGreatDoor
namespace Go.Proofs.YtelgggdkahhhfaaGreatDoor
open Go.aZ Go.Conc
set_option maxHeartbeats 1000000
set_option maxRecDepth 4000
variable {m:Mo} {σ:aa} {KF:cV->aa->Prop}
theorem mD (first:List Int) (others:List (List Int)) (k:Nat) (h:k<first.length):eT (first.take (k+1)) others=eT (first.take k) others ++ if others.all (fun l=>decide (first[k]∈l)) then [first[k]] else []:=by
 unfold eT;rw[List.take_succ_eq_append_getElem h,List.filter_append];simp only[List.filter_cons,List.filter_nil]
theorem vr (first:List Int) (others:List (List Int)):(eT first others).length≤first.length:=List.length_filter_le _ _
theorem A9 {first:List Int} {others:List (List Int)} {sp sp2:bK} (hf:first.length≤1000000000) (ho:others.length<1152921504606846976) (hl:∀ l∈others,l.length<1152921504606846976) (h:KF (.val (ints (eT first others))) σ):ar Tryz.prog m 104 [.sl 1 (first.map int) sp,.sl 1 (others.map ints) sp2] σ KF:=by
 refine ar.start lay [] [] 2 Tryz.func104 rfl rfl (by rfl) (by kernel_rfl) ?_
 simp[Tryz.f104];refine ab.loop first.length (fun k s => ∃ env σ',s=⟨env,σ',[],.no⟩∧env 0 = .sl 1 (first.map int) sp∧env 1 = .sl 1 (others.map ints) sp2∧env 10 = .sl 1 (first.map int) sp∧env 11=int first.length∧env 12=int k∧Tok σ σ' (env 5) 1 ((eT (first.take k) others).map int)) ⟨_,_,rfl,by simp,by simp,by simp,by simp,by simp,.nil σ 1⟩ ?_
 rintro c0 k _ hk ⟨env,σ',rfl,h0,h1,h10,h11,h12,htok⟩ ih
 refine ab.run lay [] ?_;simp[h0,h1,h10,h11,h12];have hlen:=vr (first.take k) others
 rw[List.length_take] at hlen;refine aF.intro (fun g1=>?_) (fun g1=>?_) <;> (try simp[-Int.not_lt,-Int.not_le,-Nat.not_lt,-Nat.not_le] at g1) <;> (try simp[h0,h1,h10,h11,h12,g1])
 . refine ab.loop others.length (fun j s => ∃ env,s=⟨env,σ',[],.no⟩∧env 0 = .sl 1 (first.map int) sp∧env 1 = .sl 1 (others.map ints) sp2∧env 10 = .sl 1 (first.map int) sp∧env 11=int first.length∧env 12=int k∧Tok σ σ' (env 5) 1 ((eT (first.take k) others).map int)∧env 7=int first[k]∧env 16 = .sl 1 (others.map ints) sp2∧env 17=int others.length∧env 18=int j∧∀ l∈others.take j,first[k]∈l) ⟨_,rfl,by simp[h0,h1,h10,h11,h12,htok,g1]⟩ ?_
   clear h0 h1 h10 h11 h12 htok
   rintro c1 j _ hj ⟨env,rfl,h0,h1,h10,h11,h12,htok,h7,h16,h17,h18,hall⟩ ih2
   refine ab.run lay [] ?_;simp[h0,h1,h10,h11,h12,h7,h16,h17,h18];refine aF.intro (fun g2=>?_) (fun g2=>?_) <;> (try simp[-Int.not_lt,-Int.not_le,-Nat.not_lt,-Nat.not_le] at g2) <;> (try simp[h0,h1,h10,h11,h12,h7,h16,h17,h18,g2])
   . refine ap Tryz.func69 rfl rfl (il (hl _ (List.getElem_mem g2)) ?_)
     refine ab.run lay [] ?_;simp[h0,h1,h10,h11,h12,h7,h16,h17,h18];refine aF.intro (fun g3=>?_) (fun g3=>?_) <;> (try simp[-Int.not_lt,-Int.not_le,-Nat.not_lt,-Nat.not_le] at g3) <;> (try simp[h0,h1,h10,h11,h12,h7,h16,h17,h18,g3])
     . refine⟨by omega,ih2 _ g2 ⟨_,rfl,by simp[h0,h1,h10,h11,h12,h7,h16,h17,h18],by simp[h0,h1,h10,h11,h12,h7,h16,h17,h18],by simp[h0,h1,h10,h11,h12,h7,h16,h17,h18],by simp[h0,h1,h10,h11,h12,h7,h16,h17,h18],by simp[h0,h1,h10,h11,h12,h7,h16,h17,h18],by simpa using htok,by simp[h0,h1,h10,h11,h12,h7,h16,h17,h18],by simp[h0,h1,h10,h11,h12,h7,h16,h17,h18],by simp[h0,h1,h10,h11,h12,h7,h16,h17,h18],by simp,fun l hl=>?_⟩⟩
       rw[List.take_succ_eq_append_getElem g2,List.mem_append,List.mem_singleton] at hl
       rcases hl with hl|rfl
       . exact hall l hl
       . exact g3
     . refine⟨by omega,ih _ g1 ⟨_,_,rfl,by simp[h0,h1,h10,h11,h12,h7,h16,h17,h18],by simp[h0,h1,h10,h11,h12,h7,h16,h17,h18],by simp[h0,h1,h10,h11,h12,h7,h16,h17,h18],by simp[h0,h1,h10,h11,h12,h7,h16,h17,h18],by simp,?_⟩⟩
       have:others.all (fun l=>decide (first[k]∈l))=false:=by
        rw[List.all_eq_false];exact⟨_,List.getElem_mem g2,by simp[g3]⟩
       rw[mD _ _ _ g1,this];simpa using htok
   . have:j=others.length:=by omega
     subst this;rw[List.take_length] at hall;refine aU lay rfl rfl rfl dz rfl dz rfl tO (by decide) (by simp;omega) (σ0:=σ) (es:=(eT (first.take k) others).map int) (xs:=[int first[k]]) (by simpa using htok) (.inr ⟨_,rfl⟩) fun a' σ2 ht'=>?_
     refine ab.run lay [] ?_;simp[h0,h1,h10,h11,h12,h7,h16,h17,h18];refine⟨by omega,ih _ g1 ⟨_,_,rfl,by simp[h0,h1,h10,h11,h12,h7,h16,h17,h18],by simp[h0,h1,h10,h11,h12,h7,h16,h17,h18],by simp[h0,h1,h10,h11,h12,h7,h16,h17,h18],by simp[h0,h1,h10,h11,h12,h7,h16,h17,h18],by simp,?_⟩⟩
     have:others.all (fun l=>decide (first[k]∈l))=true:=by
      rw[List.all_eq_true];exact fun l hl=>by simpa using hall l hl
     rw[mD _ _ _ g1,this];simpa using ht'
 . have:k=first.length:=by omega
   subst this;rw[List.take_length] at htok;exact .nu htok.W (.less htok.1 (.done h))
structure Fr.Good (f:Fr):Prop where
 fits:f.Fits
 fr:0≤f.eQ∧f.eQ≤3
 to:0≤f.m8∧f.m8≤3
 le:f.eQ≤f.m8
 iM:1≤f.iM∧f.iM≤6
 most:1≤f.most∧f.most≤6
 vt:f.aB.length≤6
 FF:∀ e∈f.aB,cS f.roads.length e=0
 I5:fW f.roads=0
theorem mE (g:m7->Int):∀ {l:List m7},dE g l=0->∀ e∈l,g e=0
 | [],_,e,he=>by simp at he
 | a :: l,h,e,he=>by
   unfold dE at h;split at h
   . next h0=>
     rcases List.mem_cons.1 he with rfl|he
     . exact h0
     . exact mE g h e he
   . next h0=>exact absurd h h0
theorem Fr.sM {f:Fr} (hf:f.Fits) (h:check f=0):f.Good:=by
 unfold check at h;split at h
 . next q=>exact absurd h q
 next q1=>
 split at h
 . cases h
 next q2=>
 split at h
 . cases h
 next q3=>
 split at h
 . cases h
 next q4=>
 split at h
 . cases h
 next q5=>
 simp only[Bool.not_eq_false,Bool.and_eq_true] at q2 q4;exact⟨hf,fX q2.1,fX q2.2,by omega,fX q4.1,fX q4.2,by omega,mE _ h,by simpa using q1⟩
theorem tQ {p:Int} {e:m7} (h:cS p e=0):(0≤e.hour∧e.hour≤72)∧(0≤e.place∧e.place≤p-1)∧(0≤e.gL∧e.gL≤5)∧(0≤e.bb∧e.bb≤30)∧(0≤e.lG∧e.lG≤2)∧nZ none e.marks=0:=by
 unfold cS at h;split at h
 . cases h
 next q1=>
 split at h
 . cases h
 next q2=>
 split at h
 . cases h
 next q3=>
 split at h
 . next q=>exact absurd h q
 next q4=>
 split at h
 . cases h
 next q5=>
 split at h
 . cases h
 next q6=>
 simp only[Bool.not_eq_false] at q1 q2 q3 q5 q6;exact⟨fX q1,fX q2,fX q3,fX q5,fX q6,by simpa using q4⟩
theorem tR {f:Fr} (hf:f.Good) (e:m7):(iG f e).length≤4:=by
 unfold iG;have:=hf.fr;have:=hf.to;split
 . rw[List.length_map,List.length_range];omega
 . simp
theorem tT {f:Fr} (hf:f.Good) (e:m7):(ci f e).length≤5:=by
 unfold ci;have:=tR hf e;split
 . rw[List.length_append];simp;omega
 . omega
theorem DT {f:Fr} {e:m7} (h:e.lG≠0):iG f e=(List.range (f.m8-f.eQ+1).toNat).map fun i:Nat=>e.bb-f.m8+(i:Int):=if_pos h
theorem rU {b mb:Nat} {f:Fr} {l:List Int} (hf:f.Good) (hne:l≠[]) (hl:l.length≤1000000) (hb:∀ n∈l,0≤n∧n<f.aB.length) (h:KF (.val (ints (c8 f l))) σ):ar Tryz.prog m 71 [io b mb f 0,ints l] σ KF:=by
 have h6:=hf.vt;have hfr:=hf.fr;have hto:=hf.to;have hle:=hf.le;refine ar.start lay [] LX 2 Tryz.func71 rfl rfl (by rfl) (by kernel_rfl) ?_
 simp[Tryz.f71];refine ab.loop l.length (fun k s => ∃ env σ',s=⟨env,σ',[],.no⟩∧env 0=io b mb f 0∧env 11=ints l∧env 12=int l.length∧env 13=int k∧Tok σ σ' (env 5) 1 ((l.take k).map fun n=>ints (ci f (bR f n)))) ⟨_,_,rfl,by simp,by simp,by simp,by simp,.nil σ 1⟩ ?_
 rintro c0 k _ hk ⟨env,σ',rfl,h0,h11,h12,h13,htok⟩ ih
 rcases Nat.lt_or_ge k l.length with g1|g1
 . obtain ⟨n0,n1⟩:=hb _ (List.getElem_mem g1)
   have n2:l[k].toNat<f.aB.length:=by omega
   obtain⟨e,he⟩:∃ e,e=f.aB[l[k].toNat]:=⟨_,rfl⟩;have heN:bR f l[k]=e:=by simp[bR,List.getD_eq_getElem?_getD,n2,he]
   have hbd:=tQ (hf.FF e (by rw[he];exact List.getElem_mem n2))
   have hnext:(l.take (k+1)).map (fun n=>ints (ci f (bR f n)))=(l.take k).map (fun n=>ints (ci f (bR f n))) ++ [ints (ci f e)]:=by
    rw[List.take_succ_eq_append_getElem g1,List.map_append];simp[heN]
   refine ab.run lay [] ?_;simp[h0,h11,h12,h13,g1,n0,n2,← he];refine dL.intro fun c hc=>?_
   simp[h0,h11,h12,h13]
   have hc0:σ c=none:=by
    cases q:σ c with
    | none=>rfl
    | some x=>rw[htok.1 c x q] at hc;cases hc
   have ht1:Tok σ (σ'.set c (.cells [int e.hour,int e.place,int e.gL,ints e.marks,int e.bb,int e.lG])) (env 5) 1 ((l.take k).map fun n=>ints (ci f (bR f n))):=htok.beside hc0 (fun q=>by obtain⟨_,x,hx⟩:=htok.dO q;rw[hx] at hc;cases hc)
   have hcs:(σ'.set c (.cells [int e.hour,int e.place,int e.gL,ints e.marks,int e.bb,int e.lG])) c=some (.cells [int e.hour,int e.place,int e.gL,ints e.marks,int e.bb,int e.lG]):=aa.ao _ _ _;generalize σ'.set c (.cells [int e.hour,int e.place,int e.gL,ints e.marks,int e.bb,int e.lG])=σ1 at ht1 hcs;refine aF.intro (fun g2=>?_) (fun g2=>?_) <;> simp at g2 <;> simp[g2]
   . have f1 : -9223372036854775808≤f.m8-f.eQ∧f.m8-f.eQ≤9223372036854775807:=by omega
     have f2 : -9223372036854775808≤f.m8-f.eQ+1∧f.m8-f.eQ+1≤9223372036854775807:=by omega
     simp[h0,h11,h12,h13,f1.1,f1.2,f2.1,f2.2];refine ab.run lay [] ?_;simp[h0,h11,h12,h13];obtain⟨a5,ha5⟩:∃ a,a=env 5:=⟨_,rfl⟩;rw[← ha5] at ht1;obtain⟨cnt,hcnt⟩:∃ cnt:Nat,(cnt:Int)=f.m8-f.eQ+1:=⟨(f.m8-f.eQ+1).toNat,by omega⟩
     have hc4:cnt≤4:=by omega
     have hsh:iG f e=(List.range cnt).map fun i:Nat=>e.bb-f.m8+(i:Int):=by
      rw[DT g2];congr 2;omega
     refine ab.loop cnt (fun j s => ∃ env σ2,s=⟨env,σ2,[],.no⟩∧env 0=io b mb f 0∧env 11=ints l∧env 12=int l.length∧env 13=int k∧env 5=a5∧env 8 = .ref c 0∧env 41=int cnt∧env 42=int j∧Tok σ1 σ2 (env 9) 1 (((List.range j).map fun i:Nat=>e.bb-f.m8+(i:Int)).map int)) ⟨_,_,rfl,by simp[h0,h11,h12,h13,← ha5,hcnt,Tok.nil]⟩ ?_
     clear h0 h11 h12 h13 htok ha5
     rintro c1 j _ hj ⟨env,σ2,rfl,h0,h11,h12,h13,h5,h8,h41,h42,htk⟩ ih2
     have hcs2:=htk.1 _ _ hcs
     rcases Nat.lt_or_ge j cnt with g3|g3
     . have f3 : -9223372036854775808≤e.bb-f.m8∧e.bb-f.m8≤9223372036854775807:=by omega
       have f4 : -9223372036854775808≤e.bb-f.m8+j∧e.bb-f.m8+j≤9223372036854775807:=by omega
       refine ab.run lay [] ?_;simp[h0,h11,h12,h13,h5,h8,h41,h42,g3,hcs2,f3.1,f3.2,f4.1,f4.2];refine aU lay rfl rfl rfl dz rfl dz rfl tO (by decide) (by simp only[List.length_map,List.length_range,List.length_cons,List.length_nil];omega) (σ0:=σ1) (es:=((List.range j).map fun i:Nat=>e.bb-f.m8+(i:Int)).map int) (xs:=[int (e.bb-f.m8+j)]) (by simpa using htk) (.inr ⟨_,rfl⟩) fun a' σ3 ht'=>?_
       refine bk.go lay [] ?_;simp[h0,h11,h12,h13,h5,h8,h41,h42];refine ab.run lay [] ?_;simp[h0,h11,h12,h13,h5,h8,h41,h42];refine⟨by omega,ih2 _ g3 ⟨_,_,rfl,by simp[h0,h11,h12,h13,h5,h8,h41,h42],by simp[h0,h11,h12,h13,h5,h8,h41,h42],by simp[h0,h11,h12,h13,h5,h8,h41,h42],by simp[h0,h11,h12,h13,h5,h8,h41,h42],by simp[h0,h11,h12,h13,h5,h8,h41,h42],by simp[h0,h11,h12,h13,h5,h8,h41,h42],by simp[h0,h11,h12,h13,h5,h8,h41,h42],by simp,?_⟩⟩
       rw[List.range_succ,List.map_append,List.map_append];simpa using ht'
     . have:j=cnt:=by omega
       subst this;rw[← hsh] at htk;have hsl:=tR hf e;have hW:Wl [env 9,int e.bb] [ints (iG f e),int e.bb]:=.cons htk.W (.cons (.refl _) .nil)
       by_cases g4:e.lG=1
       . refine ab.Cg 9 htk.W ?_
         have htl:ci f e=iG f e:=if_neg fun q=>q.1 g4
         refine ab.run lay [] ?_;simp[h0,h11,h12,h13,h5,h8,h41,h42,g3,hcs2,g4];refine aU lay rfl rfl rfl kL rfl kL rfl dz (by decide) (by simp;omega) (σ0:=σ) (es:=(l.take k).map fun n=>ints (ci f (bR f n))) (xs:=[ints (ci f e)]) (by simpa using ht1.up htk.1) (.inr ⟨_,by rw[htl];simp;rfl⟩) fun a4 σ4 ht4=>?_
         refine ab.run lay [] ?_;simp[h0,h11,h12,h13,h5,h8,h41,h42];refine⟨by omega,ih _ g1 ⟨_,_,rfl,by simp[h0,h11,h12,h13,h5,h8,h41,h42],by simp[h0,h11,h12,h13,h5,h8,h41,h42],by simp[h0,h11,h12,h13,h5,h8,h41,h42],by simp,?_⟩⟩
         rw[hnext];simpa using ht4
       . have g4':(e.lG != 1)=true:=by simp[g4]
         by_cases g5:e.bb∈iG f e
         . have htl:ci f e=iG f e:=if_neg fun q=>q.2 g5
           refine ab.run lay [] ?_;simp[h0,h11,h12,h13,h5,h8,h41,h42,g3,hcs2,g4'];refine bD Tryz.func69 rfl rfl hW (il (by omega) ?_)
           refine ab.Cg 9 (a':=ints (iG f e)) (by simpa using htk.W) ?_
           refine ab.run lay [] ?_;simp[h0,h11,h12,h13,h5,h8,h41,h42,g5];refine aU lay rfl rfl rfl kL rfl kL rfl dz (by decide) (by simp;omega) (σ0:=σ) (es:=(l.take k).map fun n=>ints (ci f (bR f n))) (xs:=[ints (ci f e)]) (by simpa using ht1.up htk.1) (.inr ⟨_,by rw[htl];simp;rfl⟩) fun a4 σ4 ht4=>?_
           refine ab.run lay [] ?_;simp[h0,h11,h12,h13,h5,h8,h41,h42];refine⟨by omega,ih _ g1 ⟨_,_,rfl,by simp[h0,h11,h12,h13,h5,h8,h41,h42],by simp[h0,h11,h12,h13,h5,h8,h41,h42],by simp[h0,h11,h12,h13,h5,h8,h41,h42],by simp,?_⟩⟩
           rw[hnext];simpa using ht4
         . have htl:ci f e=iG f e ++ [e.bb]:=if_pos ⟨g4,g5⟩
           refine ab.run lay [] ?_;simp[h0,h11,h12,h13,h5,h8,h41,h42,g3,hcs2,g4'];refine bD Tryz.func69 rfl rfl hW (il (by omega) ?_)
           refine ab.run lay [] ?_;simp[h0,h11,h12,h13,h5,h8,h41,h42,g5,hcs2];refine aU lay rfl rfl rfl dz rfl dz rfl tO (by decide) (by simp;omega) (σ0:=σ1) (es:=(iG f e).map int) (xs:=[int e.bb]) (by simpa using htk) (.inr ⟨_,rfl⟩) fun a' σ3 ht'=>?_
           refine ab.Cg 74 (a':=AV.sl 1 ((iG f e).map int ++ [int e.bb]) .any) (by simpa using ht'.W) ?_
           refine ab.run lay [] ?_;simp[h0,h11,h12,h13,h5,h8,h41,h42];refine aU lay rfl rfl rfl kL rfl kL rfl dz (by decide) (by simp;omega) (σ0:=σ) (es:=(l.take k).map fun n=>ints (ci f (bR f n))) (xs:=[ints (ci f e)]) (by simpa using ht1.up ht'.1) (.inr ⟨_,by rw[htl];simp;rfl⟩) fun a4 σ4 ht4=>?_
           refine ab.run lay [] ?_;simp[h0,h11,h12,h13,h5,h8,h41,h42];refine⟨by omega,ih _ g1 ⟨_,_,rfl,by simp[h0,h11,h12,h13,h5,h8,h41,h42],by simp[h0,h11,h12,h13,h5,h8,h41,h42],by simp[h0,h11,h12,h13,h5,h8,h41,h42],by simp,?_⟩⟩
           rw[hnext];simpa using ht4
   . have htl:ci f e=[e.bb]:=by
      simp[ci,iG,g2]
     simp[h0,h11,h12,h13,hcs,g2];have hW:Wl [AV.lit (.slice none 0 0),int e.bb] [ints [],int e.bb]:=.cons (iC 1) (.cons (.refl _) .nil);refine bD Tryz.func69 rfl rfl hW (il (by simp) ?_)
     refine ab.run lay [] ?_;simp[h0,h11,h12,h13,hcs];refine aU lay rfl rfl rfl dz rfl dz rfl tO (by decide) (by simp) (σ0:=σ1) (es:=[]) (xs:=[int e.bb]) (by simpa using Tok.nil σ1 1) (.inr ⟨_,rfl⟩) fun a' σ3 ht'=>?_
     refine ab.Cg 74 (a':=AV.sl 1 [int e.bb] .any) (by simpa using ht'.W) ?_
     refine ab.run lay [] ?_;simp[h0,h11,h12,h13];refine aU lay rfl rfl rfl kL rfl kL rfl dz (by decide) (by simp;omega) (σ0:=σ) (es:=(l.take k).map fun n=>ints (ci f (bR f n))) (xs:=[ints (ci f e)]) (by simpa using ht1.up ht'.1) (.inr ⟨_,by rw[htl];simp;rfl⟩) fun a4 σ4 ht4=>?_
     refine ab.run lay [] ?_;simp[h0,h11,h12,h13];refine⟨by omega,ih _ g1 ⟨_,_,rfl,by simp[h0,h11,h12,h13],by simp[h0,h11,h12,h13],by simp[h0,h11,h12,h13],by simp,?_⟩⟩
     rw[hnext];simpa using ht4
 . have:k=l.length:=by omega
   subst this;rw[List.take_length] at htok;refine ab.Cg 5 htok.W ?_;have hpos:0<l.length:=List.length_pos_iff.2 hne;refine ab.run lay [] ?_;simp[h0,h11,h12,h13,hpos];refine qP lay rfl kL rfl dz (es:=l.map fun n=>ints (ci f (bR f n))) (sp:=.any) (l:=1) (h:=l.length) ?_ (fun cap hcap=>⟨rfl,⟨rfl,by simp⟩,⟨_,rfl⟩,by first|omega | (simp;omega)⟩) (by simp) ?_
   . simp
   obtain⟨n0,r,rfl⟩:∃ n0 r,l=n0 :: r:=by
    cases l with
    | nil=>exact absurd rfl hne
    | cons a r=>exact⟨a,r,rfl⟩
   refine bk.go lay [] ?_;simp[h0,h11,h12,h13]
   have e:List.take r.length (List.map (fun n=>ints (ci f (bR f n))) r)=(r.map fun n=>ci f (bR f n)).map ints:=by
    rw[List.take_of_length_le (by simp)]
    simp
   rw[e];have hlen:=tT hf (bR f n0);refine ap Tryz.func104 rfl rfl (A9 (first:=ci f (bR f n0)) (others:=r.map fun n=>ci f (bR f n)) (by omega) (by simp at hl ⊢;omega) (fun x hx=>?_) ?_)
   . obtain⟨n,_,rfl⟩:=List.mem_map.1 hx
     have:=tT hf (bR f n);omega
   refine bk.go lay [] ?_;simp[h0,h11,h12,h13];refine ab.run lay [] ?_;simp[h0,h11,h12,h13];refine .less htok.1 (.done ?_);simpa[c8] using h
end Go.Proofs.YtelgggdkahhhfaaGreatDoor
namespace Go.Proofs.YtelgggdkahhhfaaGreatDoor
open Go.aZ Go.Conc
set_option maxHeartbeats 1000000
set_option maxRecDepth 4000
variable {m:Mo} {σ:aa} {KF:cV->aa->Prop}
theorem pT {f:Fr} (h:check f=0):eh f []=0:=by unfold eh;rw[if_neg (by simp[h])];rfl
theorem rV {f:Fr} {l:List Int} (h:check f=0) (hl:∀ n∈l,0≤n∧n<f.aB.length):eh f l=0:=by
 unfold eh;rw[if_neg (by simp[h]),if_pos]
 rw[List.all_eq_true];intro n hn;have:=hl n hn;simp[dD];omega
theorem n7.le {σ σ':aa} {b mb:Nat} (h:n7 σ b mb σ'):σ.Le σ':=by
 rw[h.eq];exact aa.fQ (aa.fQ (aa.le_refl _) h.vL) (by rw[aa.ak _ _ h.ne];exact h.hb)
structure GF (f:Fr) (l:List Int):Prop where
 ok:o6 f l=0
 len:l.length≤1000000
theorem z7 (f:Fr):∀ {l:List Int} {p:Option Int},eZ f p l=0->∀ n∈l,0≤n∧n<f.aB.length
 | [],_,_,n,hn=>by simp at hn
 | a :: l,p,h,n,hn=>by
   unfold eZ at h;split at h
   . cases h
   next q1=>
   split at h
   . cases h
   next q2=>
   rcases List.mem_cons.1 hn with rfl|hn
   . simp[dD] at q1;omega
   . exact z7 f h n hn
theorem GF.mem {f:Fr} {l:List Int} (h:GF f l):∀ n∈l,0≤n∧n<f.aB.length:=by
 have:=h.ok;unfold o6 at this;split at this
 . cases this
 . exact z7 f this
theorem GF.ne {f:Fr} {l:List Int} (h:GF f l):l≠[]:=fun e=>by
 have:=h.ok;subst e;simp[o6] at this
theorem tV {f:Fr} {l:List Int} (hf:f.Fits) (hc:check f=0) (hl:GF f l) (h:∀ b mb σ',n7 σ b mb σ'->KF (.val (.cB [io b mb f 0,int 0])) σ'):ar Tryz.prog m 52 [bg f,ints l] σ KF:=by
 have hll:=hl.len;refine ar.start lay [] LV 2 Tryz.func52 rfl rfl (by rfl) (by kernel_rfl) ?_
 simp[Tryz.f52];have hno:=pT hc;have hW:Wl [AV.agg (eS f),AV.lit (.slice none 0 0)] [bg f,ints []]:=.cons (.refl _) (.cons (iC 1) .nil);refine bD Tryz.func35 rfl rfl hW (qp hf (by simp) (fun q=>absurd hno q) fun _ b mb σ' hn=>?_)
 refine ab.run lay [] ?_;simp;refine dL.intro fun c hc'=>?_
 simp;refine ap Tryz.func79 rfl rfl (GE hf (by omega) ?_)
 rw[hl.ok];refine ab.run lay [] ?_;simp;refine ap Tryz.func78 rfl rfl (Kx ?_);refine ab.run lay [] ?_;simp;exact .less (aa.fQ (aa.le_refl _) hc') (.done (h b mb σ' hn))
theorem yE {f:Fr} {l:List Int} (hf:f.Fits) (hc:check f=0) (hl:GF f l) (h:KF (.val (.cB [ints (c8 f l),int 0])) σ):ar Tryz.prog m 43 [bg f,ints l] σ KF:=by
 refine ar.start lay [] [] 2 Tryz.func43 rfl rfl (by rfl) (by kernel_rfl) ?_
 simp[Tryz.f43];refine ap Tryz.func52 rfl rfl (tV hf hc hl fun b mb σ' hn=>?_)
 refine ab.run lay [] ?_;simp;refine ap Tryz.func71 rfl rfl (rU (Fr.sM hf hc) hl.ne hl.len hl.mem ?_);refine ab.run lay [] ?_;simp;exact .less hn.le (.done h)
theorem vu {a n:Int} (hn:0≤n) (h:KF (.val (u8 (bo a n))) σ):ar Tryz.prog m 165 [u8 a,int n] σ KF:=by
 refine ar.start lay [] [] 2 Tryz.func165 rfl rfl (by rfl) (by kernel_rfl) ?_
 simp[Tryz.f165];refine⟨hn,?_⟩;simp[xk];exact .done h
theorem kM {l:List Int} (hl:l.length<1152921504606846976) (h0:∀ n∈l,0≤n) (h:KF (.val (u8 (bS l))) σ):ar Tryz.prog m 163 [ints l] σ KF:=by
 refine ar.start lay [] [] 1 Tryz.func163 rfl rfl (by rfl) (by kernel_rfl) ?_
 simp[Tryz.f163];refine ab.loop l.length (fun k s => ∃ env,s=⟨env,σ,[],.no⟩∧env 3=u8 (bS (l.take k))∧env 4 = .fn (.func 165) [u8 (bS (l.take k))] []∧env 9=ints l∧env 10=int l.length∧env 11=int k) ⟨_,rfl,by simp[bS]⟩ ?_
 rintro c0 k _ hk ⟨env,rfl,h3,h4,h9,h10,h11⟩ ih
 refine ab.run lay [] ?_;simp[h3,h4,h9,h10,h11];refine aF.intro (fun g1=>?_) (fun g1=>?_) <;> (try simp[-Int.not_lt,-Int.not_le,-Nat.not_lt,-Nat.not_le] at g1) <;> (try simp[h3,h4,h9,h10,h11,g1])
 . have e:bS (l.take (k+1))=bo (bS (l.take k)) l[k]:=by
    unfold bS;rw[List.take_succ_eq_append_getElem g1,List.foldl_append];rfl
   refine dW Tryz.func165 rfl rfl rfl (vu (h0 _ (List.getElem_mem g1)) ?_);rw[← e];refine ab.run lay [] ?_;simp[h3,h4,h9,h10,h11];exact⟨by omega,ih _ g1 ⟨_,rfl,by simp[h3,h4,h9,h10,h11],by simp[h3,h4,h9,h10,h11],by simp[h3,h4,h9,h10,h11],by simp[h3,h4,h9,h10,h11],by simp⟩⟩
 . have:k=l.length:=by omega
   subst this;rw[List.take_length];exact .done h
def vv (x:Int):Int:=z6 x (Hu x 1)
def n8:Nat->Int->Int
 | 0,x=>x
 | n+1,x=>vv (n8 n x)
def Ba:Nat->Int->Int
 | 0,_=>0
 | n+1,x=>if x=0 then 0 else 1+Ba n (vv x)
def bN (a b:Int):Int:=Ba 8 (rS a b)
theorem rW {a b:Int} (hz:n8 8 (rS a b)=0) (h:KF (.val (int (bN a b))) σ):ar Tryz.prog m 164 [u8 a,u8 b] σ KF:=by
 refine ar.start lay [] [] 2 Tryz.func164 rfl rfl (by rfl) (by kernel_rfl) ?_
 simp[Tryz.f164,A6];refine ab.loop 8 (fun k s => ∃ env,s=⟨env,σ,[],.no⟩∧env 5=int k∧env 6=u8 (n8 k (rS a b))∧bN a b=k+Ba (8-k) (n8 k (rS a b))) ⟨_,rfl,by simp,by simp;rfl,by simp[n8,bN]⟩ ?_
 rintro c0 k _ hk ⟨env,rfl,h5,h6,hn⟩ ih
 refine ab.run lay [] ?_;simp[h5,h6];refine aF.intro (fun g1=>?_) (fun g1=>?_) <;> (try simp[-Int.not_lt,-Int.not_le,-Nat.not_lt,-Nat.not_le] at g1) <;> (try simp[h5,h6,g1])
 . have k8:k<8:=by
    rcases Nat.lt_or_ge k 8 with q|q
    . exact q
    . have:k=8:=by omega
      subst this;exact absurd hz g1
   refine⟨by omega,?_⟩
   simp[h5,h6,tP,A7];refine ih _ k8 ⟨_,rfl,by simp,by simp[n8,vv],?_⟩
   have e:8-k=(8-(k+1))+1:=by omega
   rw[e,Ba,if_neg g1] at hn;rw[hn];simp only[n8];omega
 . rw[g1] at hn
   have e:Ba (8-k) 0=0:=by cases 8-k <;> simp[Ba]
   rw[e] at hn;rw[hn] at h;exact .done (by simpa using h)
abbrev rX (x:Int):AV:=.agg [u8 x]
theorem GG {x n:Int} (hn:0≤n) (h:KF (.val (rX (bo x n))) σ):ar Tryz.prog m 75 [rX x,int n] σ KF:=by
 refine ar.start lay [2] LZ 2 Tryz.func75 rfl rfl (by rfl) (by kernel_rfl) ?_
 simp[Tryz.f75];refine dL.intro fun c hc=>?_
 simp;refine dL.intro fun d hd=>?_
 obtain⟨n1,n2,hd⟩:=aa.aR hd;simp[n1,n2,aa.ak,xk,hn];refine ab.run lay [2] ?_;simp[n1,n2,aa.ak];exact .less (by repeat (first|exact aa.le_refl _|assumption|refine aa.gE ?_ (by assumption) | refine aa.i8 ?_ (by assumption))) (.done h)
theorem DU {x:Int} (h:KF (.val (ints (bx x))) σ):ar Tryz.prog m 107 [rX x] σ KF:=by
 refine ar.start lay [] [] 1 Tryz.func107 rfl rfl (by rfl) (by kernel_rfl) ?_
 simp[Tryz.f107];refine ab.loop 6 (fun k s => ∃ env σ',s=⟨env,σ',[],.no⟩∧env 1 = .cp (rX x) 0∧env 5=int k∧Tok σ σ' (env 3) 1 ((((List.range k).map fun n:Nat=>(n:Int)).filter fun n=>jP x n).map int)) ⟨_,_,rfl,by simp,by simp,.nil σ 1⟩ ?_
 rintro c0 k _ hk ⟨env,σ',rfl,h1,h5,htok⟩ ih
 rcases Nat.lt_or_ge k 6 with g1|g1
 . have g1':(k:Int)<6:=by omega
   have hl:(((List.range k).map fun n:Nat=>(n:Int)).filter fun n=>jP x n).length≤k:=by
    refine Nat.le_trans (List.length_filter_le _ _) ?_;rw[List.length_map,List.length_range];exact Nat.le_refl _
   have hs:(((List.range (k+1)).map fun n:Nat=>(n:Int)).filter fun n=>jP x n)=(((List.range k).map fun n:Nat=>(n:Int)).filter fun n=>jP x n) ++ if jP x k then [(k:Int)] else []:=by
    rw[List.range_succ,List.map_append,List.filter_append];simp[List.filter_cons]
   refine ab.run lay [] ?_;simp[h1,h5,g1',tP];have hx:jP x k=(z6 (x.fdiv (2 ^ min k IntKind.u8.bits)) 1 == 1):=by simp[jP]
   rw[← hx];cases hb:jP x k
   . simp[h1,h5]
     refine⟨by omega,ih _ g1 ⟨_,_,rfl,by simp[h1,h5],by simp,?_⟩⟩
     rw[hs,hb];simpa using htok
   . simp[h1,h5]
     refine aU lay rfl rfl rfl dz rfl dz rfl tO (by decide) (by simp only[List.length_map,List.length_cons,List.length_nil];omega) (σ0:=σ) (es:=(((List.range k).map fun n:Nat=>(n:Int)).filter fun n=>jP x n).map int) (xs:=[int k]) (by simpa using htok) (.inr ⟨_,rfl⟩) fun a' σ2 ht'=>?_
     refine ab.run lay [] ?_;simp[h1,h5];refine⟨by omega,ih _ g1 ⟨_,_,rfl,by simp[h1,h5],by simp,?_⟩⟩
     rw[hs,hb];simpa using ht'
 . have:k=6:=by omega
   subst this;refine ab.run lay [] ?_;simp[h1,h5];exact .nu htok.W (.less htok.1 (.done h))
def km (a b:Int):Int:=if 0<a∧a<b then 3 else if a=b then 1 else 2
theorem yF {a b:Int} (h:KF (.val (int (km a b))) σ):ar Tryz.prog m 55 [int a,int b] σ KF:=by
 unfold km at h;refine ar.start lay [] [] 2 Tryz.func55 rfl rfl (by rfl) (by kernel_rfl) ?_
 simp[Tryz.f55];refine sz.intro (fun g1=>?_) (fun g1=>?_) <;> (try simp[-Int.not_lt,-Int.not_le,-Nat.not_lt,-Nat.not_le] at g1) <;> (try simp[g1] at h) <;> (try simp[g1]) <;> (try exact .done h)
 . refine aF.intro (fun g2=>?_) (fun g2=>?_) <;> (try simp[-Int.not_lt,-Int.not_le,-Nat.not_lt,-Nat.not_le] at g2) <;> (try simp[g2] at h) <;> (try simp[g2]) <;> (try exact .done h)
   . have:a≠b:=by omega
     refine aF.intro (fun g3=>?_) (fun g3=>?_) <;> (try simp[-Int.not_lt,-Int.not_le,-Nat.not_lt,-Nat.not_le] at g3) <;> (try simp[g3])
     . exact absurd g3 this
     . exact .done h
   . refine aF.intro (fun g3=>?_) (fun g3=>?_) <;> (try simp[-Int.not_lt,-Int.not_le,-Nat.not_lt,-Nat.not_le] at g3) <;> (try simp[g3] at h) <;> (try simp[g3]) <;> (try exact .done h)
 . refine aF.intro (fun g3=>?_) (fun g3=>?_) <;> (try simp[-Int.not_lt,-Int.not_le,-Nat.not_lt,-Nat.not_le] at g3) <;> (try simp[g3] at h) <;> (try simp[g3]) <;> (try exact .done h)
end Go.Proofs.YtelgggdkahhhfaaGreatDoor
namespace Go.Proofs.YtelgggdkahhhfaaGreatDoor
open Go.aZ Go.Conc
set_option maxHeartbeats 1000000
set_option maxRecDepth 4000
variable {m:Mo} {σ:aa} {KF:cV->aa->Prop}
theorem Bb {l:List Int} (hne:l≠[]) (hl:l.length≤1000000000) (h:∀ a σ',iq σ σ' a 1 (l.map int)->KF (.val a) σ'):ar Tryz.prog m 113 [ints l] σ KF:=by
 refine ar.start lay [] [] 1 Tryz.func113 rfl rfl (by rfl) (by kernel_rfl) ?_
 simp[Tryz.f113];refine vV lay rfl dz rfl rfl (.inr (.inl ⟨rfl,by simpa using hne,rfl⟩)) (.inl ⟨rfl,rfl⟩) ?_
 refine ab.run lay [] ?_;simp;refine ku lay rfl rfl rfl dz rfl dz rfl tO (by decide) (by simp;omega) (σ0:=σ) (es:=[]) (xs:=l.map int) (.empty σ 1) (.inl (.inr ⟨_,rfl⟩)) (by simp) fun a' σ' ht=>?_
 refine ab.run lay [] ?_;simp;exact .done (h _ _ (by simpa using ht))
def dF (lt:Int->Int->Bool) (x:Int):List Int->List Int
 | []=>[x]
 | y :: r=>if lt x y then y :: dF lt x r else x :: y :: r
def dI (lt:Int->Int->Bool) (l:List Int):List Int:=l.foldl (fun r x=>dF lt x r) []
theorem xp (lt:Int->Int->Bool) (x:Int):∀ r,(dF lt x r).length=r.length+1
 | []=>rfl
 | y :: r=>by unfold dF;split <;> simp[xp lt x r]
theorem iX (lt:Int->Int->Bool) (l:List Int):(dI lt l).length=l.length:=by
 have key:∀ (l r:List Int),(l.foldl (fun r x=>dF lt x r) r).length=r.length+l.length:=by
  intro l
  induction l with
  | nil=>intro r;rfl
  | cons a l ih=>intro r;rw[List.foldl_cons,ih,xp];simp;omega
 rw[dI,key];simp
theorem xq (lt:Int->Int->Bool) (x:Int):∀ (r:List Int) (y:Int),y∈dF lt x r ↔ y=x∨y∈r
 | [],y=>by simp[dF]
 | z :: r,y=>by
   unfold dF;split
   . rw[List.mem_cons,xq lt x r y,List.mem_cons]
     constructor
     . rintro (h|h|h)
       . exact .inr (.inl h)
       . exact .inl h
       . exact .inr (.inr h)
     . rintro (h|h|h)
       . exact .inr (.inl h)
       . exact .inl h
       . exact .inr (.inr h)
   . simp
theorem pe (lt:Int->Int->Bool) (l:List Int) (y:Int):y∈dI lt l ↔ y∈l:=by
 have key:∀ (l r:List Int),y∈l.foldl (fun r x=>dF lt x r) r ↔ y∈r∨y∈l:=by
  intro l
  induction l with
  | nil=>intro r;simp
  | cons a l ih=>
    intro r;rw[List.foldl_cons,ih,xq,List.mem_cons];constructor
    . rintro ((h|h) | h)
      . exact .inr (.inl h)
      . exact .inl h
      . exact .inr (.inr h)
    . rintro (h|h|h)
      . exact .inl (.inr h)
      . exact .inl (.inl h)
      . exact .inr h
 rw[dI,key];simp
def xr (m:Mo) (y:AV) (c:Int->Int->Int) (In:Int->Prop):Prop := ∀ (a b:Int) (σ:aa) (KF:cV->aa->Prop),In a->In b->KF (.val (int (c a b))) σ->cI Tryz.prog m y [int a,int b] σ KF
theorem L4 {α:Type} {A B:List α} {x y:α} {n:Nat} (hn:A.length=n):(A ++ y :: x :: B)[n]? = some y∧(A ++ y :: x :: B)[n+1]? = some x∧((A ++ y :: x :: B).set n x).set (n+1) y=A ++ x :: y :: B∧((A ++ y :: x :: B).set (n+1) y).set n x=A ++ x :: y :: B:=by
 subst hn;refine⟨by simp,?_,?_,?_⟩
 . rw[List.getElem?_append_right (by omega)];simp
 . rw[List.set_append_right _ _ (by omega),List.set_append_right _ _ (by omega)];simp
 . rw[List.set_append_right _ _ (by omega),List.set_append_right _ _ (by omega)];simp
theorem yG {y:AV} {c:Int->Int->Int} {In:Int->Prop} {l:List Int} {b cap:Nat} {rest:List AV} (hy:xr m y c In) (hin:∀ x∈l,In x) (hl:l.length≤1000000) (hb:σ b=some (.cells (l.map int ++ rest)))
 (h:KF (.val (.cB [])) (σ.set b (.cells ((dI (fun a b=>decide (c a b<0)) l).reverse.map int ++ rest)))):ar Tryz.prog m 130 [.gq b 0 l.length cap,int 0,int l.length,y] σ KF:=by
 refine ar.start lay [] Kt 4 Tryz.func130 rfl rfl (by rfl) (by kernel_rfl) ?_
 simp[Tryz.f130];obtain⟨lt,hlt⟩:∃ lt,lt=fun a b=>decide (c a b<0):=⟨_,rfl⟩
 rw[← hlt] at h;refine ab.loop l.length (fun i s => ∃ env σ',s=⟨env,σ',[],.no⟩∧env 0 = .gq b 0 l.length cap∧env 1=int 0∧env 2=int l.length∧env 3=y∧env 8=int ((i:Int)+1)∧σ'=σ.set b (.cells ((dI lt (l.take (i+1))).reverse.map int ++ ((l.drop (i+1)).map int ++ rest)))) ⟨_,_,rfl,by simp,by simp,by simp,by simp,by simp,?_⟩ ?_
 . have e:(dI lt (l.take 1)).reverse.map int ++ ((l.drop 1).map int ++ rest)=l.map int ++ rest:=by
    cases l with
    | nil=>simp[dI]
    | cons a l=>simp[dI,dF]
   rw[e]
   funext d
   by_cases q:d=b
   . subst q;rw[aa.ao,hb]
   . rw[aa.ak _ _ q]
 rintro c0 i _ hi ⟨env,σ',rfl,h0,h1,h2,h3,h8,hσ⟩ ih
 rcases Nat.lt_or_ge (i+1) l.length with g1|g1
 . have g1':(i:Int)+1<l.length:=by omega
   obtain⟨S,hS⟩:∃ S,S=dI lt (l.take (i+1)):=⟨_,rfl⟩;have hSl:S.length=i+1:=by rw[hS,iX,List.length_take];omega
   have hSm:∀ x∈S,In x:=fun x hx=>hin x (List.mem_of_mem_take ((pe lt _ x).1 (hS ▸ hx)))
   have hSn:dI lt (l.take (i+1+1))=dF lt l[i+1] S:=by
    rw[hS,dI,List.take_succ_eq_append_getElem g1,List.foldl_append];rfl
   obtain⟨x,hx⟩:∃ x,x=l[i+1]:=⟨_,rfl⟩;have hxi:In x:=hin x (by rw[hx];exact List.getElem_mem g1)
   have hdr:l.drop (i+1)=x :: l.drop (i+2):=by rw[hx];exact List.drop_eq_getElem_cons g1
   rw[← hS,hdr] at hσ;rw[← hx] at hSn;refine ab.run lay [] ?_;simp[h0,h1,h2,h3,h8,g1']
   refine ab.loop (i+1) (fun k s => ∃ env σ' S1 S2,s=⟨env,σ',[],.no⟩∧env 0 = .gq b 0 l.length cap∧env 1=int 0∧env 2=int l.length∧env 3=y∧env 8=int ((i:Int)+1)∧env 9=int S2.length∧S=S1 ++ S2∧S2.length+k=i+1∧dF lt x S=S1 ++ dF lt x S2 ∧
    σ'=σ.set b (.cells ((S2.reverse.map int) ++ int x :: (S1.reverse.map int ++ ((l.drop (i+2)).map int ++ rest)))) ) ⟨_,_,[],S,rfl,by simp[h0],by simp[h1],by simp[h2],by simp[h3],by simp[h8],by simp[hSl],rfl,by omega,rfl,by rw[hσ];simp⟩ ?_
   clear h0 h1 h2 h3 h8 hσ
   rintro c1 k _ hk ⟨env,σ',S1,S2,rfl,h0,h1,h2,h3,h8,h9,hSS,hlen,hins,hσ⟩ ih2
   cases S2 with
   | nil=>
     simp only[List.length_nil,Nat.zero_add] at hlen;simp only[List.append_nil] at hSS;subst hSS
     have hfin:σ'=σ.set b (.cells ((dI lt (l.take (i+1+1))).reverse.map int ++ ((l.drop (i+1+1)).map int ++ rest))):=by
      rw[hσ,hSn,hins];simp[dF]
     refine ab.run lay [] ?_;simp[h0,h1,h2,h3,h8,h9];refine⟨?_,?_⟩
     all_goals
      refine ab.run lay [] ?_;simp[h0,h1,h2,h3,h8,h9];refine⟨by omega,ih _ (by omega) ⟨_,_,rfl,by simp[h0,h1,h2,h3,h8,h9],by simp[h0,h1,h2,h3,h8,h9],by simp[h0,h1,h2,h3,h8,h9],by simp[h0,h1,h2,h3,h8,h9],by simp,hfin⟩⟩
   | cons z S2=>
     obtain⟨e1,e2,e3,e4⟩:=L4 (A:=S2.reverse.map int) (B:=S1.reverse.map int ++ ((l.drop (i+2)).map int ++ rest)) (x:=int x) (y:=int z) (n:=S2.length) (by simp)
     have hσ':σ' b=some (.cells (S2.reverse.map int ++ int z :: int x :: (S1.reverse.map int ++ ((l.drop (i+2)).map int ++ rest)))):=by
      rw[hσ,aa.ao];simp
     have hzi:In z:=hSm z (by rw[hSS];simp)
     have f1:(0:Int)<(S2.length:Int)+1:=by omega
     have f2:(S2.length:Int)+1<l.length:=by simp at hlen;omega
     have f3:(S2.length:Int)<l.length:=by omega
     have f4:(0:Int)≤(S2.length:Int)+1:=by omega
     have f5:((S2.length:Int)+1).toNat=S2.length+1:=by omega
     have f6 : -9223372036854775808≤(S2.length:Int)∧(S2.length:Int)≤9223372036854775807:=by omega
     refine ab.run lay [] ?_;simp[h0,h1,h2,h3,h8,h9,f1,f2,f3,f4,f5,f6.1,f6.2,hσ',e1,e2];refine⟨hy _ _ _ _ hxi hzi ?_,hy _ _ _ _ hxi hzi ?_⟩
     all_goals
      refine bk.go lay [] ?_;simp[h0,h1,h2,h3,h8,h9];refine ab.run lay [] ?_;simp[h0,h1,h2,h3,h8,h9]
      by_cases hc:c x z<0
      . have f7:S2.length+1+1≤S2.length+(S1.length+(l.length-(i+2)+rest.length)+1+1):=by omega
        have f8:S2.length+1≤S2.length+(S1.length+(l.length-(i+2)+rest.length)+1+1):=by omega
        have hl1:dF lt x (z :: S2)=z :: dF lt x S2:=by rw[hlt];simp[dF,hc]
        simp[h0,h1,h2,h3,h8,h9,hc,f5,f6.1,f6.2,f2,f3,f4,hσ',e1,e2,f7,f8];refine ab.run lay [] ?_;simp[h0,h1,h2,h3,h8,h9,f6.1,f6.2];refine ih2 _ (by simp at hlen;omega) ⟨_,_,S1 ++ [z],S2,rfl,by simp[h0,h1,h2,h3,h8,h9],by simp[h0,h1,h2,h3,h8,h9],by simp[h0,h1,h2,h3,h8,h9],by simp[h0,h1,h2,h3,h8,h9],by simp[h0,h1,h2,h3,h8,h9],by simp,by rw[hSS];simp,by simp at hlen;omega,by rw[hins,hl1];simp,?_⟩
        rw[hσ];simp
      . have hl1:dF lt x (z :: S2)=x :: z :: S2:=by rw[hlt];simp[dF,hc]
        have hfin:σ'=σ.set b (.cells ((dI lt (l.take (i+1+1))).reverse.map int ++ ((l.drop (i+1+1)).map int ++ rest))):=by
         rw[hσ,hSn,hins,hl1];simp
        simp[h0,h1,h2,h3,h8,h9,hc];exact⟨by omega,ih _ (by omega) ⟨_,_,rfl,by simp[h0,h1,h2,h3,h8,h9],by simp[h0,h1,h2,h3,h8,h9],by simp[h0,h1,h2,h3,h8,h9],by simp[h0,h1,h2,h3,h8,h9],by simp,hfin⟩⟩
 . have hfin:(dI lt (l.take (i+1))).reverse.map int ++ ((l.drop (i+1)).map int ++ rest)=(dI lt l).reverse.map int ++ rest:=by
    rw[List.take_of_length_le (by omega),List.drop_of_length_le (by omega)];simp
   rw[hfin] at hσ;have g2 : ¬ (i:Int)+1<l.length:=by omega
   refine ab.run lay [] ?_;simp[h0,h1,h2,h3,h8,g2];rw[hσ];exact .done h
theorem vw {y:AV} {c:Int->Int->Int} {In:Int->Prop} {l:List Int} {b cap:Nat} {rest:List AV} (hy:xr m y c In) (hin:∀ x∈l,In x) (hl:l.length<20) (hb:σ b=some (.cells (l.map int ++ rest)))
 (h:KF (.val (.cB [])) (σ.set b (.cells ((dI (fun a b=>decide (c a b<0)) l).reverse.map int ++ rest)))):ar Tryz.prog m 125 [.gq b 0 l.length cap,int l.length,y] σ KF:=by
 refine ar.start lay [] [] 3 Tryz.func125 rfl rfl (by rfl) (by kernel_rfl) ?_
 simp[Tryz.f125];have g1 : ¬ (20:Int)≤l.length:=by omega
 have g2 : ¬ (20:Int)<l.length:=by omega
 refine ab.loop 1 (fun k s => ∃ env,s=⟨env,σ,[],.no⟩∧env 0 = .gq b 0 l.length cap∧env 1=int l.length∧env 2=y∧env 6=int 20∧env 7=int 0∧env 8=int 20) ⟨_,rfl,by simp⟩ ?_
 rintro c0 k _ hk ⟨env,rfl,h0,h1,h2,h6,h7,h8⟩ ih
 refine ab.run lay [] ?_;simp[h0,h1,h2,h6,h7,h8,g1];refine ap Tryz.func130 rfl rfl (yG hy hin (by omega) hb ?_)
 refine ab.run lay [] ?_;simp[h0,h1,h2,h6,h7,h8];refine ab.loop 1 (fun k s => ∃ env σ',s=⟨env,σ',[],.no⟩∧env 1=int l.length∧env 6=int 20∧σ'=σ.set b (.cells ((dI (fun a b=>decide (c a b<0)) l).reverse.map int ++ rest))) ⟨_,_,rfl,by simp[h1],by simp[h6],by simp⟩ ?_
 clear h0 h1 h2 h6 h7 h8
 rintro c1 k _ hk ⟨env,σ',rfl,h1,h6,hσ⟩ ih
 refine ab.run lay [] ?_;simp[h1,h6,g2];rw[hσ];exact .done h
theorem n9 {y:AV} {c:Int->Int->Int} {In:Int->Prop} {l:List Int} {b cap:Nat} {rest:List AV} (hy:xr m y c In) (hin:∀ x∈l,In x) (hl:l.length<20) (hb:σ b=some (.cells (l.map int ++ rest)))
 (h:KF (.val (.cB [])) (σ.set b (.cells ((dI (fun a b=>decide (c a b<0)) l).reverse.map int ++ rest)))):ar Tryz.prog m 114 [.gq b 0 l.length cap,y] σ KF:=by
 refine ar.start lay [] [] 2 Tryz.func114 rfl rfl (by rfl) (by kernel_rfl) ?_
 simp[Tryz.f114];refine ap Tryz.func125 rfl rfl (vw hy hin hl hb ?_);refine ab.run lay [] ?_;simp;exact .done (by simpa using h)
theorem GH {y:AV} {c:Int->Int->Int} {In:Int->Prop} {l:List Int} (hy:xr m y c In) (hin:∀ x∈l,In x) (hl:l.length<20) (hne:l≠[]) (hyc:y.cells=[y]∧y.flat=true) (h:KF (.val (ints (dI (fun a b=>decide (c a b<0)) l).reverse)) σ):ar Tryz.prog m 82 [.agg [y],ints l] σ KF:=by
 refine ar.start lay [] [] 2 Tryz.func82 rfl rfl (by rfl) (by kernel_rfl) ?_
 simp[Tryz.f82,hyc.1,hyc.2];refine ap Tryz.func113 rfl rfl (Bb hne (by omega) fun a σ' ht=>?_)
 obtain⟨b,cap,rest,rfl,q1,q2,q3,q4,q5⟩:∃ b cap rest,a = .gq b 0 (l.map int).length cap∧σ b=none∧(l.map int).length≤cap∧(∀ e∈l.map int,e.cells.length=1)∧σ' b=some (.cells (flatten (l.map int) ++ rest))∧rest.length=(cap-(l.map int).length)*1:=by
  rcases ht.2 with ⟨e,_⟩|h
  . exact absurd (by simpa using e) hne
  . exact h
 have hfl:∀ l:List Int,flatten (l.map int)=l.map int:=fun l=>by
  induction l with
  | nil=>rfl
  | cons a l ih=>simp[flatten_cons,AV.cells,ih]
 rw[hfl] at q4;rw[List.length_map] at q2 q5 ⊢;refine ab.run lay [] ?_;simp[hyc.1,hyc.2];refine ap Tryz.func114 rfl rfl (n9 hy hin hl q4 ?_);refine ab.run lay [] ?_;simp;refine iq.thaw (σ0:=σ) (kk:=1) (es:=(dI (fun a b=>decide (c a b<0)) l).reverse.map int) ⟨aa.gE ht.1 q1,.inr ⟨b,cap,rest,?_,q1,?_,fun e he=>?_,?_,?_⟩⟩ h
 . simp[iX]
 . simpa[iX] using q2
 . obtain⟨x,_,rfl⟩:=List.mem_map.1 he;rfl
 . rw[hfl];simp
 . simpa[iX] using q5
def pf (f:Fr) (a b:Int):Int:=vq (bR f a).hour (bR f b).hour
theorem GJ {b mb:Nat} {f:Fr} {x y:Int} (hx:0≤x∧x<f.aB.length) (hy:0≤y∧y<f.aB.length) (h:KF (.val (int (pf f x y))) σ):ar Tryz.prog m 80 [int x,int y,.cp (io b mb f 0) 0] σ KF:=by
 have x1:x.toNat<f.aB.length:=by omega
 have y1:y.toNat<f.aB.length:=by omega
 have ex:bR f x=f.aB[x.toNat]:=by simp[bR,List.getD_eq_getElem?_getD,x1]
 have ey:bR f y=f.aB[y.toNat]:=by simp[bR,List.getD_eq_getElem?_getD,y1]
 unfold pf at h;rw[ex,ey] at h;refine ar.start lay [] L1 3 Tryz.func80 rfl rfl (by rfl) (by kernel_rfl) ?_
 simp[Tryz.f80,x1,y1,hx.1,hy.1];refine ap Tryz.func81 rfl rfl (yD ?_);refine bk.go lay [] ?_;simp;refine ab.run lay [] ?_;simp;exact .done h
theorem DV {b mb:Nat} {f:Fr}:xr m (.fn (.func 80) [] [.cp (io b mb f 0) 0]) (pf f) (fun n=>0≤n∧n<f.aB.length):=fun x y σ KF hx hy h=>by
 refine dW Tryz.func80 rfl rfl rfl (GJ hx hy h)
end Go.Proofs.YtelgggdkahhhfaaGreatDoor
