/- Part 30 of the proof. -/
import Derived.Test.YtalogdafegmilaaGreatDoorC29
set_option linter.all false
namespace Go.Proofs.YtalogdafegmilaaGreatDoor
open Go.aN Go.Conc
set_option maxHeartbeats 1000000
variable{m:Mo}{σ:aa}{KF:cL->aa->Prop}
theorem Bo{f:Fr}(hf:f.Fits)(h:KF (.val (int (check f))) σ):aA Tryz.prog m 49 [aF f] σ KF:=by
 unfold check at h;have hr:=hf.roads;have hen:=hf.az;refine aA.start lay [] [] 1 Tryz.func49 rfl rfl (by rfl) (by kernel_rfl) ?_;simp[Tryz.f49];refine aq Tryz.func82 rfl rfl (wB hf.roads hf.row ?_);refine ab.run lay [] ?_;simp;refine aK.intro (λg1=>?_) (λg1=>?_)<;>(try simp[-Int.not_lt,-Int.not_le,-Nat.not_lt,-Nat.not_le]at g1)<;>(try simp[g1]at h)<;>(try simp[g1])<;>(try exact .done h);refine aq Tryz.func76 rfl rfl (dB ?_);refine ab.run lay [] ?_;simp;refine wk.intro (λg2=>?_) (λg2=>?_)<;>(try simp[-Int.not_lt,-Int.not_le,-Nat.not_lt,-Nat.not_le]at g2)<;>(try simp[g2]at h)<;>(try simp[g2])<;>(try exact .done h);refine aq Tryz.func76 rfl rfl (dB ?_);refine ab.run lay [] ?_;simp;refine aK.intro (λg3=>?_) (λg3=>?_)<;>(try simp[-Int.not_lt,-Int.not_le,-Nat.not_lt,-Nat.not_le]at g3)<;>(try simp[g3]at h)<;>(try simp[g3])<;>(try exact .done h)
 refine aK.intro (λg4=>?_) (λg4=>?_)<;>(try simp[-Int.not_lt,-Int.not_le,-Nat.not_lt,-Nat.not_le]at g4)<;>(try simp[g4]at h)<;>(try simp[g4])<;>(try exact .done h);refine aq Tryz.func76 rfl rfl (dB ?_);refine ab.run lay [] ?_;simp;refine wk.intro (λg5=>?_) (λg5=>?_)<;>(try simp[-Int.not_lt,-Int.not_le,-Nat.not_lt,-Nat.not_le]at g5)<;>(try simp[g5]at h)<;>(try simp[g5])<;>(try exact .done h);refine aq Tryz.func76 rfl rfl (dB ?_);refine ab.run lay [] ?_;simp;refine aK.intro (λg6=>?_) (λg6=>?_)<;>(try simp[-Int.not_lt,-Int.not_le,-Nat.not_lt,-Nat.not_le]at g6)<;>(try simp[g6]at h)<;>(try simp[g6])<;>(try exact .done h);refine aK.intro (λg7=>?_) (λg7=>?_)<;>(try simp[-Int.not_lt,-Int.not_le,-Nat.not_lt,-Nat.not_le]at g7)<;>(try simp[g7]at h)<;>(try simp[g7])<;>(try exact .done h)
 refine ab.loop f.az.length (λk s=>∃env σ',s=⟨env,σ',[],.no⟩/\σ.Le σ'/\env 1=.cp (aF f) 0/\env 47=ru f.az/\env 48=int f.az.length/\env 49=int k/\fE (cI f.roads.length) f.az=fE (cI f.roads.length) (f.az.drop k)) ⟨_,_,rfl,aa.le_refl _,by simp⟩ ?_;rintro c0 k _ hk ⟨env,σ',rfl,hle,h1,h47,h48,h49,hn⟩ ih;refine ab.run lay [] ?_;simp[h1,h47,h48,h49];refine aK.intro (λg8=>?_) (λg8=>?_)<;>(try simp[-Int.not_lt,-Int.not_le,-Nat.not_lt,-Nat.not_le]at g8)<;>(try simp[h1,h47,h48,h49,g8])
 . rw[Bl _ _ k g8]at hn
   refine cT.intro λb hb=>?_
   simp[h1,h47,h48,h49];refine aq Tryz.func71 rfl rfl (wA ⟨by omega,by omega⟩ (hf.marks _ (List.getElem_mem g8)) ?_);refine ab.run lay [] ?_;simp[h1,h47,h48,h49];refine aK.intro (λg9=>?_) (λg9=>?_)<;>(try simp[-Int.not_lt,-Int.not_le,-Nat.not_lt,-Nat.not_le]at g9)<;>(try simp[g9]at hn)<;>(try simp[h1,h47,h48,h49,g9])<;>(try exact .done hn)
   . rw[hn]at h
     exact .less (aa.iU hle hb) (.done h)
   . exact⟨by omega,ih _ g8 ⟨_,_,rfl,aa.iU hle hb,by simp[h1,h47,h48,h49],by simp[h1,h47,h48,h49],by simp[h1,h47,h48,h49],by simp,hn⟩⟩
 . have:k=f.az.length:=by omega
   subst this;simp[fE]at hn;rw[hn]at h;exact .less hle (.done h)
structure rz(σ:aa)(b mb:Nat)(σ':aa):Prop where
 hb:σ b=none
 zy:σ mb=none
 ne:b≠mb
 eq:σ'=(σ.set mb (mapA .u8 [])).set b (.part (bC 6))
def H2(f:Fr)(σ:aa):cL->aa->Prop:=λr σ'=>∃b mb,r=.val (.ref b 0)/\σ b=none/\σ mb=none/\b≠mb/\σ'=(σ.set mb (mapA .u8 [])).set b (.cells [ru f.az,rows f.roads,int f.bM,int f.jn,int f.dR,int f.most,.lit (.int .i32 0),.lit (.int .u32 0),.map mb])
theorem vM{f:Fr}(h:∀b mb σ',rz σ b mb σ'->KF (.val (iF b mb f 0)) σ'):aA Tryz.prog m 51 [aF f] σ KF:=by
 refine aA.share (KF0:=H2 f σ) ?_ ?_
 . refine aA.start lay [6] [] 1 Tryz.func51 rfl rfl (by rfl) (by kernel_rfl) ?_
   simp[Tryz.f51];refine Ck .u8 rfl λmb zy=>?_
   refine ab.run lay [6] ?_;simp[aS];refine cT.intro λb hb=>?_
   obtain⟨n1,n2,hb⟩:=aa.aO hb;simp;exact .done ⟨b,mb,rfl,hb,zy,n1,rfl⟩
 . rintro r σ' ⟨b,mb,rfl,hb,zy,hne,rfl⟩
   refine .inr ⟨b,_,[6,7],bC 6,rfl,aa.ao _ _ _,λi v hv=>?_,λi=>?_,?_⟩
   . unfold bC at hv
     split at hv
     . next e=>subst e;cases hv;rfl
     . split at hv
       . next e=>subst e;cases hv;rfl
       . cases hv
   . unfold bC
     simp;constructor
     . intro h;split at h<;>simp_all
     . rintro⟨h1,h2⟩;simp[h1,h2]
   . exact h b mb _ ⟨hb,zy,hne,by simp⟩
def gn(f:Fr)(l:List Int):Int:=if check f≠0 then check f else if l.all (dv · 0 (f.az.length-1))then 0 else 3
theorem tV{f:Fr}{l:List Int}(hf:f.Fits)(hl:l.length<1152921504606846976)(h0:gn f l≠0->KF (.val (.c9 [.lit (.pointer none),int (gn f l)])) σ)
 (h1:gn f l=0->∀b mb σ',rz σ b mb σ'->KF (.val (.c9 [iF b mb f 0,int 0])) σ'):aA Tryz.prog m 47 [aF f,ints l] σ KF:=by
 have hen:=hf.az;refine aA.start lay [] [] 2 Tryz.func47 rfl rfl (by rfl) (by kernel_rfl) ?_
 simp[Tryz.f47];refine aq Tryz.func49 rfl rfl (Bo hf ?_);refine ab.run lay [] ?_;simp;refine aK.intro (λg1=>?_) (λg1=>?_)<;>simp at g1<;>simp[g1]
 . have:gn f l=check f:=by unfold gn;rw[if_pos g1]
   rw[this]at h0;exact .done (h0 g1)
 refine ab.loop l.length (λk s=>∃env,s=⟨env,σ,[],.no⟩/\env 2=.cp (aF f) 0/\env 14=ints l/\env 15=int l.length/\env 16=int k/\(l.take k).all (dv · 0 (f.az.length-1))=true) ⟨_,rfl,by simp⟩ ?_
 rintro c0 k _ hk ⟨env,rfl,h2,h14,h15,h16,hall⟩ ih
 refine ab.run lay [] ?_;simp[h2,h14,h15,h16];refine aK.intro (λg2=>?_) (λg2=>?_)<;>(try simp[-Int.not_lt,-Int.not_le,-Nat.not_lt,-Nat.not_le]at g2)<;>(try simp[h2,h14,h15,h16,g2])
 . refine⟨by omega,?_⟩
   refine aq Tryz.func76 rfl rfl (dB ?_);refine ab.run lay [] ?_;simp[h2,h14,h15,h16];refine aK.intro (λg3=>?_) (λg3=>?_)<;>(try simp[-Int.not_lt,-Int.not_le,-Nat.not_lt,-Nat.not_le]at g3)<;>(try simp[h2,h14,h15,h16,g3])
   . refine⟨by omega,ih _ g2 ⟨_,rfl,by simp[h2,h14,h15,h16],by simp[h2,h14,h15,h16],by simp[h2,h14,h15,h16],by simp,?_⟩⟩
     rw[List.take_succ_eq_append_getElem g2,List.all_append,hall];simp[g3]
   . have e:l.all (dv · 0 (f.az.length-1))=false:=by
      rw[List.all_eq_false];exact⟨_,List.getElem_mem g2,by simp[g3]⟩
     have:gn f l=3:=by unfold gn;rw[if_neg (by simp[g1]),e];rfl
     rw[this]at h0;exact .done (h0 (by simp))
 . have:k=l.length:=by omega
   subst this;rw[List.take_length]at hall;have:gn f l=0:=by unfold gn;rw[if_neg (by simp[g1]),if_pos hall]
   refine aq Tryz.func51 rfl rfl (vM λb mb σ' hn=>?_)
   refine ab.run lay [] ?_;simp[h2,h14,h15,h16];exact .done (h1 this b mb σ' hn)
theorem KH{b mb:Nat}{f:Fr}{l:List Int}(hf:f.Fits)(hl:l.length<1152921504606846976)(h:KF (.val (Qk (nQ f l))) σ):aA Tryz.prog m 94 [iF b mb f 0,ints l] σ KF:=by
 have hen:=hf.az;unfold nQ at h;refine aA.start lay [] [] 2 Tryz.func94 rfl rfl (by rfl) (by kernel_rfl) ?_;simp[Tryz.f94];refine aK.intro (λg1=>?_) (λg1=>?_)<;>simp at g1<;>simp[g1]
 . rw[if_pos (by simp[g1])]at h
   exact .done h
 rw[if_neg (by simpa using g1)]at h;refine ab.loop l.length (λk s=>∃env,s=⟨env,σ,[],.no⟩/\env 0=iF b mb f 0/\env 1=ints l/\env 12=ints l/\env 13=int l.length/\env 14=int k/\ez f none l=ez f (if k=0 then none else l[k-1]?) (l.drop k)) ⟨_,rfl,by simp⟩ ?_;rintro c0 k _ hk ⟨env,rfl,h0,h1,h12,h13,h14,hn⟩ ih;refine ab.run lay [] ?_;simp[h0,h1,h12,h13,h14];refine aK.intro (λg2=>?_) (λg2=>?_)<;>(try simp[-Int.not_lt,-Int.not_le,-Nat.not_lt,-Nat.not_le]at g2)<;>(try simp[h0,h1,h12,h13,h14,g2])
 . rw [CT f _ k g2]at hn
   refine⟨by omega,?_⟩;refine aq Tryz.func76 rfl rfl (dB ?_);refine ab.run lay [] ?_;simp[h0,h1,h12,h13,h14];refine aK.intro (λg3=>?_) (λg3=>?_)<;>(try simp[-Int.not_lt,-Int.not_le,-Nat.not_lt,-Nat.not_le]at g3)<;>(try simp[g3]at hn)<;>(try simp[h0,h1,h12,h13,h14,g3])<;>(try exact .done hn)
   . refine wk.intro (λg4=>?_) (λg4=>?_)<;>(try simp[-Int.not_lt,-Int.not_le,-Nat.not_lt,-Nat.not_le]at g4)<;>(try simp[g4]at hn)<;>(try simp[h0,h1,h12,h13,h14,g4,g2])<;>(try exact .done hn)
     . have e0:(k:Int)-1=((k-1:Nat):Int):=by omega
       have e1:k-1<l.length:=by omega
       have e2:¬k=0:=by omega
       simp[h0,h1,h12,h13,h14,e0,e1];repeat refine⟨by omega,?_⟩
       try simp[e1,e2,lw]at hn
       refine aK.intro (λg5=>?_) (λg5=>?_)<;>(try simp[-Int.not_lt,-Int.not_le,-Nat.not_lt,-Nat.not_le]at g5)<;>(try simp[g5]at hn)<;>(try simp[h0,h1,h12,h13,h14,g5])<;>(try exact .done hn)
       . rw[hn]at h
         exact .done h
       . refine⟨by omega,ih _ g2 ⟨_,rfl,by simp[h0,h1,h12,h13,h14],by simp[h0,h1,h12,h13,h14],by simp[h0,h1,h12,h13,h14],by simp[h0,h1,h12,h13,h14],by simp,?_⟩⟩
         simp[hn,g2]
     . have g8:k=0:=by omega
       subst g8;simp[lw]at hn;refine⟨by omega,ih _ g2 ⟨_,rfl,by simp[h0,h1,h12,h13,h14],by simp[h0,h1,h12,h13,h14],by simp[h0,h1,h12,h13,h14],by simp[h0,h1,h12,h13,h14],by simp,?_⟩⟩;simp[hn,g2]
   . rw[hn]at h
     exact .done h
 . have:k=l.length:=by omega
   subst this;simp[ez]at hn;rw[hn]at h;exact .done h
theorem OL{a:AV}(h:KF (.val (bool false)) σ):aA Tryz.prog m 93 [.lit .nilIface,a] σ KF:=by
 refine aA.start lay [] [] 2 Tryz.func93 rfl rfl (by rfl) (by kernel_rfl) ?_;simp[Tryz.f93];refine nY lay rfl OB rfl (.inl ⟨rfl,rfl⟩) (.inl ⟨rfl,rfl⟩) ?_;refine ab.run lay [] ?_;simp;exact .done h
end Go.Proofs.YtalogdafegmilaaGreatDoor
namespace Go.Proofs.YtalogdafegmilaaGreatDoor
open Go.aN Go.Conc
set_option maxHeartbeats 1000000
set_option maxRecDepth 4000
variable{m:Mo}{σ:aa}{KF:cL->aa->Prop}
theorem pD(first:List Int)(others:List (List Int))(k:Nat)(h:k<first.length):dE (first.take (k+1)) others=dE (first.take k) others++if others.all (λl=>decide (first[k]∈l))then[first[k]]else[]:=by unfold dE;rw[List.take_succ_eq_append_getElem h,List.filter_append];simp only[List.filter_cons,List.filter_nil]
theorem qL(first:List Int)(others:List (List Int)):(dE first others).length<=first.length:=List.length_filter_le _ _
theorem wV{first:List Int}{others:List (List Int)}{sp sp2:cM}(hf:first.length<=1000000000)(ho:others.length<1152921504606846976)(hl:∀l∈others,l.length<1152921504606846976)(h:KF (.val (ints (dE first others))) σ):aA Tryz.prog m 70 [.sl 1 (first.map int) sp,.sl 1 (others.map ints) sp2] σ KF:=by
 refine aA.start lay [] [] 2 Tryz.func70 rfl rfl (by rfl) (by kernel_rfl) ?_
 simp[Tryz.f70];refine ab.loop first.length (λk s=>∃env σ',s=⟨env,σ',[],.no⟩/\env 0=.sl 1 (first.map int) sp/\env 1=.sl 1 (others.map ints) sp2/\env 10=.sl 1 (first.map int) sp/\env 11=int first.length/\env 12=int k/\Tok σ σ' (env 5) 1 ((dE (first.take k) others).map int)) ⟨_,_,rfl,by simp,by simp,by simp,by simp,by simp,.nil σ 1⟩ ?_
 rintro c0 k _ hk ⟨env,σ',rfl,h0,h1,h10,h11,h12,htok⟩ ih
 refine ab.run lay [] ?_;simp[h0,h1,h10,h11,h12];have hlen:=qL (first.take k) others
 rw[List.length_take]at hlen;refine aK.intro (λg1=>?_) (λg1=>?_)<;>(try simp[-Int.not_lt,-Int.not_le,-Nat.not_lt,-Nat.not_le]at g1)<;>(try simp[h0,h1,h10,h11,h12,g1])
 . refine ab.loop others.length (λj s=>∃env,s=⟨env,σ',[],.no⟩/\env 0=.sl 1 (first.map int) sp/\env 1=.sl 1 (others.map ints) sp2/\env 10=.sl 1 (first.map int) sp/\env 11=int first.length/\env 12=int k/\Tok σ σ' (env 5) 1 ((dE (first.take k) others).map int)/\env 7=int first[k]/\env 16=.sl 1 (others.map ints) sp2/\env 17=int others.length/\env 18=int j/\∀l∈others.take j,first[k]∈l) ⟨_,rfl,by simp[h0,h1,h10,h11,h12,htok,g1]⟩ ?_
   clear h0 h1 h10 h11 h12 htok
   rintro c1 j _ hj ⟨env,rfl,h0,h1,h10,h11,h12,htok,h7,h16,h17,h18,hall⟩ ih2
   refine ab.run lay [] ?_;simp[h0,h1,h10,h11,h12,h7,h16,h17,h18];refine aK.intro (λg2=>?_) (λg2=>?_)<;>(try simp[-Int.not_lt,-Int.not_le,-Nat.not_lt,-Nat.not_le]at g2)<;>(try simp[h0,h1,h10,h11,h12,h7,h16,h17,h18,g2])
   . refine aq Tryz.func83 rfl rfl (jO (hl _ (List.getElem_mem g2)) ?_)
     refine ab.run lay [] ?_;simp[h0,h1,h10,h11,h12,h7,h16,h17,h18];refine aK.intro (λg3=>?_) (λg3=>?_)<;>(try simp[-Int.not_lt,-Int.not_le,-Nat.not_lt,-Nat.not_le]at g3)<;>(try simp[h0,h1,h10,h11,h12,h7,h16,h17,h18,g3])
     . refine⟨by omega,ih2 _ g2 ⟨_,rfl,by simp[h0,h1,h10,h11,h12,h7,h16,h17,h18],by simp[h0,h1,h10,h11,h12,h7,h16,h17,h18],by simp[h0,h1,h10,h11,h12,h7,h16,h17,h18],by simp[h0,h1,h10,h11,h12,h7,h16,h17,h18],by simp[h0,h1,h10,h11,h12,h7,h16,h17,h18],by simpa using htok,by simp[h0,h1,h10,h11,h12,h7,h16,h17,h18],by simp[h0,h1,h10,h11,h12,h7,h16,h17,h18],by simp[h0,h1,h10,h11,h12,h7,h16,h17,h18],by simp,λl hl=>?_⟩⟩
       rw[List.take_succ_eq_append_getElem g2,List.mem_append,List.mem_singleton]at hl
       rcases hl with hl|rfl
       . exact hall l hl
       . exact g3
     . refine⟨by omega,ih _ g1 ⟨_,_,rfl,by simp[h0,h1,h10,h11,h12,h7,h16,h17,h18],by simp[h0,h1,h10,h11,h12,h7,h16,h17,h18],by simp[h0,h1,h10,h11,h12,h7,h16,h17,h18],by simp[h0,h1,h10,h11,h12,h7,h16,h17,h18],by simp,?_⟩⟩
       have:others.all (λl=>decide (first[k]∈l))=false:=by rw[List.all_eq_false];exact⟨_,List.getElem_mem g2,by simp[g3]⟩
       rw[pD _ _ _ g1,this];simpa using htok
   . have:j=others.length:=by omega
     subst this;rw[List.take_length]at hall;refine aM lay rfl rfl rfl cA rfl cA rfl pQ (by decide) (by simp;omega) (σ0:=σ) (es:=(dE (first.take k) others).map int) (xs:=[int first[k]]) (by simpa using htok) (.inr ⟨_,rfl⟩) λa' σ2 ht'=>?_
     refine ab.run lay [] ?_;simp[h0,h1,h10,h11,h12,h7,h16,h17,h18];refine⟨by omega,ih _ g1 ⟨_,_,rfl,by simp[h0,h1,h10,h11,h12,h7,h16,h17,h18],by simp[h0,h1,h10,h11,h12,h7,h16,h17,h18],by simp[h0,h1,h10,h11,h12,h7,h16,h17,h18],by simp[h0,h1,h10,h11,h12,h7,h16,h17,h18],by simp,?_⟩⟩
     have:others.all (λl=>decide (first[k]∈l))=true:=by rw[List.all_eq_true];exact λl hl=>by simpa using hall l hl
     rw[pD _ _ _ g1,this];simpa using ht'
 . have:k=first.length:=by omega
   subst this;rw[List.take_length]at htok;exact .nC htok.W (.less htok.1 (.done h))
structure Fr.Good(f:Fr):Prop where
 fits:f.Fits
 fr:0<=f.bM/\f.bM<=3
 to:0<=f.jn/\f.jn<=3
 le:f.bM<=f.jn
 dR:1<=f.dR/\f.dR<=6
 most:1<=f.most/\f.most<=6
 pi:f.az.length<=6
 Bp:∀e∈f.az,cI f.roads.length e=0
 Lu:i6 f.roads=0
theorem pE(g:lP->Int):∀{l:List lP},fE g l=0->∀e∈l,g e=0
 |[],_,e,he=>by simp at he
 | a ::l,h,e,he=>by
   unfold fE at h;split at h
   . next h0=>
     rcases List.mem_cons.1 he with rfl|he
     . exact h0
     . exact pE g h e he
   . next h0=>exact absurd h h0
theorem Fr.jw{f:Fr}(hf:f.Fits)(h:check f=0):f.Good:=by
 unfold check at h;split at h
 . next q=>exact absurd h q
 next q1=>
 split at h
 . cases h
 next q2=>
 split at h
 . cases h
 next q3=>
 split at h
 . cases h
 next q4=>
 split at h
 . cases h
 next q5=>
 simp only[Bool.not_eq_false,Bool.and_eq_true]at q2 q4;exact⟨hf,i8 q2.1,i8 q2.2,by omega,i8 q4.1,i8 q4.2,by omega,pE _ h,by simpa using q1⟩
theorem tv{p:Int}{e:lP}(h:cI p e=0):(0<=e.hour/\e.hour<=72)/\(0<=e.place/\e.place<=p-1)/\(0<=e.cS/\e.cS<=5)/\(0<=e.aX/\e.aX<=30)/\(0<=e.iS/\e.iS<=2)/\rv none e.marks=0:=by
 unfold cI at h;split at h
 . cases h
 next q1=>
 split at h
 . cases h
 next q2=>
 split at h
 . cases h
 next q3=>
 split at h
 . next q=>exact absurd h q
 next q4=>
 split at h
 . cases h
 next q5=>
 split at h
 . cases h
 next q6=>
 simp only[Bool.not_eq_false]at q1 q2 q3 q5 q6;exact⟨i8 q1,i8 q2,i8 q3,i8 q5,i8 q6,by simpa using q4⟩
theorem xN{f:Fr}(hf:f.Good)(e:lP):(gN f e).length<=4:=by
 unfold gN;have:=hf.fr;have:=hf.to;split
 . rw[List.length_map,List.length_range];omega
 . simp
theorem xO{f:Fr}(hf:f.Good)(e:lP):(bO f e).length<=5:=by
 unfold bO;have:=xN hf e;split
 . rw[List.length_append];simp;omega
 . omega
theorem H3{f:Fr}{e:lP}(h:e.iS≠0):gN f e=(List.range (f.jn-f.bM+1).toNat).map λi:Nat=>e.aX-f.jn+(i:Int):=if_pos h
theorem vN{b mb:Nat}{f:Fr}{l:List Int}(hf:f.Good)(hne:l≠[])(hl:l.length<=1000000)(hb:∀n∈l,0<=n/\n<f.az.length)(h:KF (.val (ints (dS f l))) σ):aA Tryz.prog m 85 [iF b mb f 0,ints l] σ KF:=by
 have h6:=hf.pi;have hfr:=hf.fr;have hto:=hf.to;have hle:=hf.le;refine aA.start lay [] Qe 2 Tryz.func85 rfl rfl (by rfl) (by kernel_rfl) ?_
 simp[Tryz.f85];refine ab.loop l.length (λk s=>∃env σ',s=⟨env,σ',[],.no⟩/\env 0=iF b mb f 0/\env 11=ints l/\env 12=int l.length/\env 13=int k/\Tok σ σ' (env 5) 1 ((l.take k).map λn=>ints (bO f (bT f n)))) ⟨_,_,rfl,by simp,by simp,by simp,by simp,.nil σ 1⟩ ?_
 rintro c0 k _ hk ⟨env,σ',rfl,h0,h11,h12,h13,htok⟩ ih
 rcases Nat.lt_or_ge k l.length with g1|g1
 . obtain ⟨n0,n1⟩:=hb _ (List.getElem_mem g1)
   have n2:l[k].toNat<f.az.length:=by omega
   obtain⟨e,he⟩:∃e,e=f.az[l[k].toNat]:=⟨_,rfl⟩;have heN:bT f l[k]=e:=by simp[bT,List.getD_eq_getElem?_getD,n2,he]
   have hbd:=tv (hf.Bp e (by rw[he];exact List.getElem_mem n2))
   have hnext:(l.take (k+1)).map (λn=>ints (bO f (bT f n)))=(l.take k).map (λn=>ints (bO f (bT f n)))++[ints (bO f e)]:=by rw[List.take_succ_eq_append_getElem g1,List.map_append];simp[heN]
   refine ab.run lay [] ?_;simp[h0,h11,h12,h13,g1,n0,n2,<-he];refine cT.intro λc hc=>?_
   simp[h0,h11,h12,h13]
   have hc0:σ c=none:=by
    cases q:σ c with
    |none=>rfl
    |some x=>rw[htok.1 c x q]at hc;cases hc
   have ht1:Tok σ (σ'.set c (.cells [int e.hour,int e.place,int e.cS,ints e.marks,int e.aX,int e.iS])) (env 5) 1 ((l.take k).map λn=>ints (bO f (bT f n))):=htok.beside hc0 (λq=>by obtain⟨_,x,hx⟩:=htok.aW q;rw[hx]at hc;cases hc)
   have hcs:(σ'.set c (.cells [int e.hour,int e.place,int e.cS,ints e.marks,int e.aX,int e.iS])) c=some (.cells [int e.hour,int e.place,int e.cS,ints e.marks,int e.aX,int e.iS]):=aa.ao _ _ _;generalize σ'.set c (.cells [int e.hour,int e.place,int e.cS,ints e.marks,int e.aX,int e.iS])=σ1 at ht1 hcs;refine aK.intro (λg2=>?_) (λg2=>?_)<;>simp at g2<;>simp[g2]
   . have f1:-9223372036854775808<=f.jn-f.bM/\f.jn-f.bM<=9223372036854775807:=by omega
     have f2:-9223372036854775808<=f.jn-f.bM+1/\f.jn-f.bM+1<=9223372036854775807:=by omega
     simp[h0,h11,h12,h13,f1.1,f1.2,f2.1,f2.2];refine ab.run lay [] ?_;simp[h0,h11,h12,h13];obtain⟨a5,ha5⟩:∃a,a=env 5:=⟨_,rfl⟩;rw[<-ha5]at ht1;obtain⟨cnt,hcnt⟩:∃cnt:Nat,(cnt:Int)=f.jn-f.bM+1:=⟨(f.jn-f.bM+1).toNat,by omega⟩
     have hc4:cnt<=4:=by omega
     have hsh:gN f e=(List.range cnt).map λi:Nat=>e.aX-f.jn+(i:Int):=by rw[H3 g2];congr 2;omega
     refine ab.loop cnt (λj s=>∃env σ2,s=⟨env,σ2,[],.no⟩/\env 0=iF b mb f 0/\env 11=ints l/\env 12=int l.length/\env 13=int k/\env 5=a5/\env 8=.ref c 0/\env 41=int cnt/\env 42=int j/\Tok σ1 σ2 (env 9) 1 (((List.range j).map λi:Nat=>e.aX-f.jn+(i:Int)).map int)) ⟨_,_,rfl,by simp[h0,h11,h12,h13,<-ha5,hcnt,Tok.nil]⟩ ?_
     clear h0 h11 h12 h13 htok ha5
     rintro c1 j _ hj ⟨env,σ2,rfl,h0,h11,h12,h13,h5,h8,h41,h42,htk⟩ ih2
     have hcs2:=htk.1 _ _ hcs
     rcases Nat.lt_or_ge j cnt with g3|g3
     . have f3:-9223372036854775808<=e.aX-f.jn/\e.aX-f.jn<=9223372036854775807:=by omega
       have f4:-9223372036854775808<=e.aX-f.jn+j/\e.aX-f.jn+j<=9223372036854775807:=by omega
       refine ab.run lay [] ?_;simp[h0,h11,h12,h13,h5,h8,h41,h42,g3,hcs2,f3.1,f3.2,f4.1,f4.2];refine aM lay rfl rfl rfl cA rfl cA rfl pQ (by decide) (by simp only[List.length_map,List.length_range,List.length_cons,List.length_nil];omega) (σ0:=σ1) (es:=((List.range j).map λi:Nat=>e.aX-f.jn+(i:Int)).map int) (xs:=[int (e.aX-f.jn+j)]) (by simpa using htk) (.inr ⟨_,rfl⟩) λa' σ3 ht'=>?_
       refine bm.go lay [] ?_;simp[h0,h11,h12,h13,h5,h8,h41,h42];refine ab.run lay [] ?_;simp[h0,h11,h12,h13,h5,h8,h41,h42];refine⟨by omega,ih2 _ g3 ⟨_,_,rfl,by simp[h0,h11,h12,h13,h5,h8,h41,h42],by simp[h0,h11,h12,h13,h5,h8,h41,h42],by simp[h0,h11,h12,h13,h5,h8,h41,h42],by simp[h0,h11,h12,h13,h5,h8,h41,h42],by simp[h0,h11,h12,h13,h5,h8,h41,h42],by simp[h0,h11,h12,h13,h5,h8,h41,h42],by simp[h0,h11,h12,h13,h5,h8,h41,h42],by simp,?_⟩⟩
       rw[List.range_succ,List.map_append,List.map_append];simpa using ht'
     . have:j=cnt:=by omega
       subst this;rw[<-hsh]at htk;have hsl:=xN hf e;have hW:Wl [env 9,int e.aX] [ints (gN f e),int e.aX]:=.cons htk.W (.cons (.refl _) .nil)
       by_cases g4:e.iS=1
       . refine ab.yt 9 htk.W ?_
         have htl:bO f e=gN f e:=if_neg λq=>q.1 g4
         refine ab.run lay [] ?_;simp[h0,h11,h12,h13,h5,h8,h41,h42,g3,hcs2,g4];refine aM lay rfl rfl rfl jC rfl jC rfl cA (by decide) (by simp;omega) (σ0:=σ) (es:=(l.take k).map λn=>ints (bO f (bT f n))) (xs:=[ints (bO f e)]) (by simpa using ht1.up htk.1) (.inr ⟨_,by rw[htl];simp;rfl⟩) λa4 σ4 ht4=>?_
         refine ab.run lay [] ?_;simp[h0,h11,h12,h13,h5,h8,h41,h42];refine⟨by omega,ih _ g1 ⟨_,_,rfl,by simp[h0,h11,h12,h13,h5,h8,h41,h42],by simp[h0,h11,h12,h13,h5,h8,h41,h42],by simp[h0,h11,h12,h13,h5,h8,h41,h42],by simp,?_⟩⟩
         rw[hnext];simpa using ht4
       . have g4':(e.iS !=1)=true:=by simp[g4]
         by_cases g5:e.aX∈gN f e
         . have htl:bO f e=gN f e:=if_neg λq=>q.2 g5
           refine ab.run lay [] ?_;simp[h0,h11,h12,h13,h5,h8,h41,h42,g3,hcs2,g4'];refine bs Tryz.func83 rfl rfl hW (jO (by omega) ?_)
           refine ab.yt 9 (a':=ints (gN f e)) (by simpa using htk.W) ?_
           refine ab.run lay [] ?_;simp[h0,h11,h12,h13,h5,h8,h41,h42,g5];refine aM lay rfl rfl rfl jC rfl jC rfl cA (by decide) (by simp;omega) (σ0:=σ) (es:=(l.take k).map λn=>ints (bO f (bT f n))) (xs:=[ints (bO f e)]) (by simpa using ht1.up htk.1) (.inr ⟨_,by rw[htl];simp;rfl⟩) λa4 σ4 ht4=>?_
           refine ab.run lay [] ?_;simp[h0,h11,h12,h13,h5,h8,h41,h42];refine⟨by omega,ih _ g1 ⟨_,_,rfl,by simp[h0,h11,h12,h13,h5,h8,h41,h42],by simp[h0,h11,h12,h13,h5,h8,h41,h42],by simp[h0,h11,h12,h13,h5,h8,h41,h42],by simp,?_⟩⟩
           rw[hnext];simpa using ht4
         . have htl:bO f e=gN f e++[e.aX]:=if_pos ⟨g4,g5⟩
           refine ab.run lay [] ?_;simp[h0,h11,h12,h13,h5,h8,h41,h42,g3,hcs2,g4'];refine bs Tryz.func83 rfl rfl hW (jO (by omega) ?_)
           refine ab.run lay [] ?_;simp[h0,h11,h12,h13,h5,h8,h41,h42,g5,hcs2];refine aM lay rfl rfl rfl cA rfl cA rfl pQ (by decide) (by simp;omega) (σ0:=σ1) (es:=(gN f e).map int) (xs:=[int e.aX]) (by simpa using htk) (.inr ⟨_,rfl⟩) λa' σ3 ht'=>?_
           refine ab.yt 74 (a':=AV.sl 1 ((gN f e).map int++[int e.aX]) .any) (by simpa using ht'.W) ?_
           refine ab.run lay [] ?_;simp[h0,h11,h12,h13,h5,h8,h41,h42];refine aM lay rfl rfl rfl jC rfl jC rfl cA (by decide) (by simp;omega) (σ0:=σ) (es:=(l.take k).map λn=>ints (bO f (bT f n))) (xs:=[ints (bO f e)]) (by simpa using ht1.up ht'.1) (.inr ⟨_,by rw[htl];simp;rfl⟩) λa4 σ4 ht4=>?_
           refine ab.run lay [] ?_;simp[h0,h11,h12,h13,h5,h8,h41,h42];refine⟨by omega,ih _ g1 ⟨_,_,rfl,by simp[h0,h11,h12,h13,h5,h8,h41,h42],by simp[h0,h11,h12,h13,h5,h8,h41,h42],by simp[h0,h11,h12,h13,h5,h8,h41,h42],by simp,?_⟩⟩
           rw[hnext];simpa using ht4
   . have htl:bO f e=[e.aX]:=by
      simp[bO,gN,g2]
     simp[h0,h11,h12,h13,hcs,g2];have hW:Wl [AV.lit (.slice none 0 0),int e.aX] [ints [],int e.aX]:=.cons (fT 1) (.cons (.refl _) .nil);refine bs Tryz.func83 rfl rfl hW (jO (by simp) ?_)
     refine ab.run lay [] ?_;simp[h0,h11,h12,h13,hcs];refine aM lay rfl rfl rfl cA rfl cA rfl pQ (by decide) (by simp) (σ0:=σ1) (es:=[]) (xs:=[int e.aX]) (by simpa using Tok.nil σ1 1) (.inr ⟨_,rfl⟩) λa' σ3 ht'=>?_
     refine ab.yt 74 (a':=AV.sl 1 [int e.aX] .any) (by simpa using ht'.W) ?_
     refine ab.run lay [] ?_;simp[h0,h11,h12,h13];refine aM lay rfl rfl rfl jC rfl jC rfl cA (by decide) (by simp;omega) (σ0:=σ) (es:=(l.take k).map λn=>ints (bO f (bT f n))) (xs:=[ints (bO f e)]) (by simpa using ht1.up ht'.1) (.inr ⟨_,by rw[htl];simp;rfl⟩) λa4 σ4 ht4=>?_
     refine ab.run lay [] ?_;simp[h0,h11,h12,h13];refine⟨by omega,ih _ g1 ⟨_,_,rfl,by simp[h0,h11,h12,h13],by simp[h0,h11,h12,h13],by simp[h0,h11,h12,h13],by simp,?_⟩⟩
     rw[hnext];simpa using ht4
 . have:k=l.length:=by omega
   subst this;rw[List.take_length]at htok;refine ab.yt 5 htok.W ?_;have hpos:0<l.length:=List.length_pos_iff.2 hne;refine ab.run lay [] ?_;simp[h0,h11,h12,h13,hpos];refine pN lay rfl jC rfl cA (es:=l.map λn=>ints (bO f (bT f n))) (sp:=.any) (l:=1) (h:=l.length) ?_ (λcap hcap=>⟨rfl,⟨rfl,by simp⟩,⟨_,rfl⟩,by first|omega|(simp;omega)⟩) (by simp) ?_
   . simp
   obtain⟨n0,r,rfl⟩:∃n0 r,l=n0::r:=by
    cases l with
    |nil=>exact absurd rfl hne
    |cons a r=>exact⟨a,r,rfl⟩
   refine bm.go lay [] ?_;simp[h0,h11,h12,h13]
   have e:List.take r.length (List.map (λn=>ints (bO f (bT f n))) r)=(r.map λn=>bO f (bT f n)).map ints:=by
    rw[List.take_of_length_le (by simp)]
    simp
   rw[e];have hlen:=xO hf (bT f n0);refine aq Tryz.func70 rfl rfl (wV (first:=bO f (bT f n0)) (others:=r.map λn=>bO f (bT f n)) (by omega) (by simp at hl ⊢;omega) (λx hx=>?_) ?_)
   . obtain⟨n,_,rfl⟩:=List.mem_map.1 hx
     have:=xO hf (bT f n);omega
   refine bm.go lay [] ?_;simp[h0,h11,h12,h13];refine ab.run lay [] ?_;simp[h0,h11,h12,h13];refine .less htok.1 (.done ?_);simpa[dS]using h
end Go.Proofs.YtalogdafegmilaaGreatDoor
namespace Go.Proofs.YtalogdafegmilaaGreatDoor
open Go.aN Go.Conc
set_option maxHeartbeats 1000000
set_option maxRecDepth 4000
variable{m:Mo}{σ:aa}{KF:cL->aa->Prop}
theorem tx{f:Fr}(h:check f=0):gn f []=0:=by unfold gn;rw[if_neg (by simp[h])];rfl
theorem uK{f:Fr}{l:List Int}(h:check f=0)(hl:∀n∈l,0<=n/\n<f.az.length):gn f l=0:=by
 unfold gn;rw[if_neg (by simp[h]),if_pos];rw[List.all_eq_true];intro n hn;have:=hl n hn;simp[dv];omega
theorem rz.le{σ σ':aa}{b mb:Nat}(h:rz σ b mb σ'):σ.Le σ':=by rw[h.eq];exact aa.iU (aa.iU (aa.le_refl _) h.zy) (by rw[aa.ai _ _ h.ne];exact h.hb)
structure Dk(f:Fr)(l:List Int):Prop where
 ok:nQ f l=0
 len:l.length<=1000000
theorem Ec(f:Fr):∀{l:List Int}{p:Option Int},ez f p l=0->∀n∈l,0<=n/\n<f.az.length
 |[],_,_,n,hn=>by simp at hn
 | a::l,p,h,n,hn=>by
   unfold ez at h;split at h
   . cases h
   next q1=>
   split at h
   . cases h
   next q2=>
   rcases List.mem_cons.1 hn with rfl|hn
   . simp[dv]at q1;omega
   . exact Ec f h n hn
theorem Dk.mem{f:Fr}{l:List Int}(h:Dk f l):∀n∈l,0<=n/\n<f.az.length:=by
 have:=h.ok;unfold nQ at this;split at this
 . cases this
 . exact Ec f this
theorem Dk.ne{f:Fr}{l:List Int}(h:Dk f l):l≠[]:=λe=>by have:=h.ok;subst e;simp[nQ]at this
theorem xP{f:Fr}{l:List Int}(hf:f.Fits)(hc:check f=0)(hl:Dk f l)(h:∀b mb σ',rz σ b mb σ'->KF (.val (.c9 [iF b mb f 0,int 0])) σ'):aA Tryz.prog m 63 [aF f,ints l] σ KF:=by
 have hll:=hl.len;refine aA.start lay [] Qc 2 Tryz.func63 rfl rfl (by rfl) (by kernel_rfl) ?_;simp[Tryz.f63];have hno:=tx hc;have hW:Wl [AV.agg (eP f),AV.lit (.slice none 0 0)] [aF f,ints []]:=.cons (.refl _) (.cons (fT 1) .nil);refine bs Tryz.func47 rfl rfl hW (tV hf (by simp) (λq=>absurd hno q) λ_ b mb σ' hn=>?_);refine ab.run lay [] ?_;simp;refine cT.intro λc hc'=>?_
 simp;refine aq Tryz.func94 rfl rfl (KH hf (by omega) ?_);rw[hl.ok];refine ab.run lay [] ?_;simp;refine aq Tryz.func93 rfl rfl (OL ?_);refine ab.run lay [] ?_;simp;exact .less (aa.iU (aa.le_refl _) hc') (.done (h b mb σ' hn))
theorem CV{f:Fr}{l:List Int}(hf:f.Fits)(hc:check f=0)(hl:Dk f l)(h:KF (.val (.c9 [ints (dS f l),int 0])) σ):aA Tryz.prog m 55 [aF f,ints l] σ KF:=by
 refine aA.start lay [] [] 2 Tryz.func55 rfl rfl (by rfl) (by kernel_rfl) ?_;simp[Tryz.f55];refine aq Tryz.func63 rfl rfl (xP hf hc hl λb mb σ' hn=>?_);refine ab.run lay [] ?_;simp;refine aq Tryz.func85 rfl rfl (vN (Fr.jw hf hc) hl.ne hl.len hl.mem ?_);refine ab.run lay [] ?_;simp;exact .less hn.le (.done h)
theorem zf{a n:Int}(hn:0<=n)(h:KF (.val (u8 (bq a n))) σ):aA Tryz.prog m 177 [u8 a,int n] σ KF:=by
 refine aA.start lay [] [] 2 Tryz.func177 rfl rfl (by rfl) (by kernel_rfl) ?_;simp[Tryz.f177];refine⟨hn,?_⟩;simp[Bm];exact .done h
theorem m9{l:List Int}(hl:l.length<1152921504606846976)(h0:∀n∈l,0<=n)(h:KF (.val (u8 (bH l))) σ):aA Tryz.prog m 175 [ints l] σ KF:=by
 refine aA.start lay [] [] 1 Tryz.func175 rfl rfl (by rfl) (by kernel_rfl) ?_;simp[Tryz.f175];refine ab.loop l.length (λk s=>∃env,s=⟨env,σ,[],.no⟩/\env 3=u8 (bH (l.take k))/\env 4=.fn (.func 177) [u8 (bH (l.take k))] []/\env 9=ints l/\env 10=int l.length/\env 11=int k) ⟨_,rfl,by simp[bH]⟩ ?_;rintro c0 k _ hk ⟨env,rfl,h3,h4,h9,h10,h11⟩ ih;refine ab.run lay [] ?_;simp[h3,h4,h9,h10,h11];refine aK.intro (λg1=>?_) (λg1=>?_)<;>(try simp[-Int.not_lt,-Int.not_le,-Nat.not_lt,-Nat.not_le]at g1)<;>(try simp[h3,h4,h9,h10,h11,g1])
 . have e:bH (l.take (k+1))=bq (bH (l.take k)) l[k]:=by
    unfold bH;rw[List.take_succ_eq_append_getElem g1,List.foldl_append];rfl
   refine dJ Tryz.func177 rfl rfl rfl (zf (h0 _ (List.getElem_mem g1)) ?_);rw[<-e];refine ab.run lay [] ?_;simp[h3,h4,h9,h10,h11];exact⟨by omega,ih _ g1 ⟨_,rfl,by simp[h3,h4,h9,h10,h11],by simp[h3,h4,h9,h10,h11],by simp[h3,h4,h9,h10,h11],by simp[h3,h4,h9,h10,h11],by simp⟩⟩
 . have:k=l.length:=by omega
   subst this;rw[List.take_length];exact .done h
def zg(x:Int):Int:=Eb x (Lt x 1)
def rA:Nat->Int->Int
 |0,x=>x
 |n+1,x=>zg (rA n x)
def Fg:Nat->Int->Int
 |0,_=>0
 |n+1,x=>if x=0 then 0 else 1+Fg n (zg x)
def bQ(a b:Int):Int:=Fg 8 (vL a b)
theorem vO{a b:Int}(hz:rA 8 (vL a b)=0)(h:KF (.val (int (bQ a b))) σ):aA Tryz.prog m 176 [u8 a,u8 b] σ KF:=by
 refine aA.start lay [] [] 2 Tryz.func176 rfl rfl (by rfl) (by kernel_rfl) ?_
 simp[Tryz.f176,Fe];refine ab.loop 8 (λk s=>∃env,s=⟨env,σ,[],.no⟩/\env 5=int k/\env 6=u8 (rA k (vL a b))/\bQ a b=k+Fg (8-k) (rA k (vL a b))) ⟨_,rfl,by simp,by simp;rfl,by simp[rA,bQ]⟩ ?_
 rintro c0 k _ hk ⟨env,rfl,h5,h6,hn⟩ ih
 refine ab.run lay [] ?_;simp[h5,h6];refine aK.intro (λg1=>?_) (λg1=>?_)<;>(try simp[-Int.not_lt,-Int.not_le,-Nat.not_lt,-Nat.not_le]at g1)<;>(try simp[h5,h6,g1])
 . have k8:k<8:=by
    rcases Nat.lt_or_ge k 8 with q|q
    . exact q
    . have:k=8:=by omega
      subst this;exact absurd hz g1
   refine⟨by omega,?_⟩
   simp[h5,h6,xL,Ff];refine ih _ k8 ⟨_,rfl,by simp,by simp[rA,zg],?_⟩
   have e:8-k=(8-(k+1))+1:=by omega
   rw[e,Fg,if_neg g1]at hn;rw[hn];simp only[rA];omega
 . rw[g1]at hn
   have e:Fg (8-k) 0=0:=by cases 8-k<;>simp[Fg]
   rw[e]at hn;rw[hn]at h;exact .done (by simpa using h)
abbrev vP(x:Int):AV:=.agg [u8 x]
theorem KI{x n:Int}(hn:0<=n)(h:KF (.val (vP (bq x n))) σ):aA Tryz.prog m 89 [vP x,int n] σ KF:=by
 refine aA.start lay [2] Qg 2 Tryz.func89 rfl rfl (by rfl) (by kernel_rfl) ?_;simp[Tryz.f89];refine cT.intro λc hc=>?_
 simp;refine cT.intro λd hd=>?_
 obtain⟨n1,n2,hd⟩:=aa.aO hd;simp[n1,n2,aa.ai,Bm,hn];refine ab.run lay [2] ?_;simp[n1,n2,aa.ai];exact .less (by repeat (first|exact aa.le_refl _|assumption|refine aa.ig ?_ (by assumption)|refine aa.jm ?_ (by assumption))) (.done h)
theorem H4{x:Int}(h:KF (.val (ints (bU x))) σ):aA Tryz.prog m 120 [vP x] σ KF:=by
 refine aA.start lay [] [] 1 Tryz.func120 rfl rfl (by rfl) (by kernel_rfl) ?_
 simp[Tryz.f120];refine ab.loop 6 (λk s=>∃env σ',s=⟨env,σ',[],.no⟩/\env 1=.cp (vP x) 0/\env 5=int k/\Tok σ σ' (env 3) 1 ((((List.range k).map λn:Nat=>(n:Int)).filter λn=>lV x n).map int)) ⟨_,_,rfl,by simp,by simp,.nil σ 1⟩ ?_
 rintro c0 k _ hk ⟨env,σ',rfl,h1,h5,htok⟩ ih
 rcases Nat.lt_or_ge k 6 with g1|g1
 . have g1':(k:Int)<6:=by omega
   have hl:(((List.range k).map λn:Nat=>(n:Int)).filter λn=>lV x n).length<=k:=by refine Nat.le_trans (List.length_filter_le _ _) ?_;rw[List.length_map,List.length_range];exact Nat.le_refl _
   have hs:(((List.range (k+1)).map λn:Nat=>(n:Int)).filter λn=>lV x n)=(((List.range k).map λn:Nat=>(n:Int)).filter λn=>lV x n)++if lV x k then[(k:Int)]else[]:=by rw[List.range_succ,List.map_append,List.filter_append];simp[List.filter_cons]
   refine ab.run lay [] ?_;simp[h1,h5,g1',xL];have hx:lV x k=(Eb (x.fdiv (2 ^ min k IntKind.u8.bits)) 1==1):=by simp[lV]
   rw[<-hx];cases hb:lV x k
   . simp[h1,h5]
     refine⟨by omega,ih _ g1 ⟨_,_,rfl,by simp[h1,h5],by simp,?_⟩⟩
     rw[hs,hb];simpa using htok
   . simp[h1,h5]
     refine aM lay rfl rfl rfl cA rfl cA rfl pQ (by decide) (by simp only[List.length_map,List.length_cons,List.length_nil];omega) (σ0:=σ) (es:=(((List.range k).map λn:Nat=>(n:Int)).filter λn=>lV x n).map int) (xs:=[int k]) (by simpa using htok) (.inr ⟨_,rfl⟩) λa' σ2 ht'=>?_
     refine ab.run lay [] ?_;simp[h1,h5];refine⟨by omega,ih _ g1 ⟨_,_,rfl,by simp[h1,h5],by simp,?_⟩⟩
     rw[hs,hb];simpa using ht'
 . have:k=6:=by omega
   subst this;refine ab.run lay [] ?_;simp[h1,h5];exact .nC htok.W (.less htok.1 (.done h))
def aL(a b:Int):Int:=if 0<a/\a<b then 3 else if a=b then 1 else 2
theorem pG{a b:Int}(h:KF (.val (int (aL a b))) σ):aA Tryz.prog m 65 [int a,int b] σ KF:=by
 unfold aL at h;refine aA.start lay [] [] 2 Tryz.func65 rfl rfl (by rfl) (by kernel_rfl) ?_;simp[Tryz.f65];refine wk.intro (λg1=>?_) (λg1=>?_)<;>(try simp[-Int.not_lt,-Int.not_le,-Nat.not_lt,-Nat.not_le]at g1)<;>(try simp[g1]at h)<;>(try simp[g1])<;>(try exact .done h)
 . refine aK.intro (λg2=>?_) (λg2=>?_)<;>(try simp[-Int.not_lt,-Int.not_le,-Nat.not_lt,-Nat.not_le]at g2)<;>(try simp[g2]at h)<;>(try simp[g2])<;>(try exact .done h)
   . have:a≠b:=by omega
     refine aK.intro (λg3=>?_) (λg3=>?_)<;>(try simp[-Int.not_lt,-Int.not_le,-Nat.not_lt,-Nat.not_le]at g3)<;>(try simp[g3])
     . exact absurd g3 this
     . exact .done h
   . refine aK.intro (λg3=>?_) (λg3=>?_)<;>(try simp[-Int.not_lt,-Int.not_le,-Nat.not_lt,-Nat.not_le]at g3)<;>(try simp[g3]at h)<;>(try simp[g3])<;>(try exact .done h)
 . refine aK.intro (λg3=>?_) (λg3=>?_)<;>(try simp[-Int.not_lt,-Int.not_le,-Nat.not_lt,-Nat.not_le]at g3)<;>(try simp[g3]at h)<;>(try simp[g3])<;>(try exact .done h)
end Go.Proofs.YtalogdafegmilaaGreatDoor
namespace Go.Proofs.YtalogdafegmilaaGreatDoor
open Go.aN Go.Conc
set_option maxHeartbeats 1000000
set_option maxRecDepth 4000
variable{m:Mo}{σ:aa}{KF:cL->aa->Prop}
theorem Fh{l:List Int}(hne:l≠[])(hl:l.length<=1000000000)(h:∀a σ',bG σ σ' a 1 (l.map int)->KF (.val a) σ'):aA Tryz.prog m 72 [ints l] σ KF:=by
 refine aA.start lay [] [] 1 Tryz.func72 rfl rfl (by rfl) (by kernel_rfl) ?_;simp[Tryz.f72];refine zL lay rfl cA rfl rfl (.inr (.inl ⟨rfl,by simpa using hne,rfl⟩)) (.inl ⟨rfl,rfl⟩) ?_;refine ab.run lay [] ?_;simp;refine gf lay rfl rfl rfl cA rfl cA rfl pQ (by decide) (by simp;omega) (σ0:=σ) (es:=[]) (xs:=l.map int) (.empty σ 1) (.inl (.inr ⟨_,rfl⟩)) (by simp) λa' σ' ht=>?_
 refine ab.run lay [] ?_;simp;exact .done (h _ _ (by simpa using ht))
def eI(lt:Int->Int->Bool)(x:Int):List Int->List Int
 |[]=>[x]
 |y::r=>if lt x y then y::eI lt x r else x::y::r
def eH(lt:Int->Int->Bool)(l:List Int):List Int:=l.foldl (λr x=>eI lt x r) []
theorem Bq(lt:Int->Int->Bool)(x:Int):∀r,(eI lt x r).length=r.length+1
 |[]=>rfl
 |y::r=>by unfold eI;split<;>simp[Bq lt x r]
theorem kH(lt:Int->Int->Bool)(l:List Int):(eH lt l).length=l.length:=by
 have key:∀(l r:List Int),(l.foldl (λr x=>eI lt x r) r).length=r.length+l.length:=by
  intro l;induction l with
  |nil=>intro r;rfl
  |cons a l ih=>intro r;rw[List.foldl_cons,ih,Bq];simp;omega
 rw[eH,key];simp
theorem Br(lt:Int->Int->Bool)(x:Int):∀(r:List Int) (y:Int),y∈eI lt x r↔y=x\/y∈r
 |[],y=>by simp[eI]
 | z :: r,y=>by
   unfold eI;split
   . rw[List.mem_cons,Br lt x r y,List.mem_cons]
     constructor
     . rintro(h|h|h)
       . exact .inr (.inl h)
       . exact .inl h
       . exact .inr (.inr h)
     . rintro(h|h|h)
       . exact .inr (.inl h)
       . exact .inl h
       . exact .inr (.inr h)
   . simp
theorem sC(lt:Int->Int->Bool)(l:List Int)(y:Int):y∈eH lt l↔y∈l:=by
 have key:∀(l r:List Int),y∈l.foldl (λr x=>eI lt x r) r↔y∈r\/y∈l:=by
  intro l;induction l with
  |nil=>intro r;simp
  | cons a l ih=>
    intro r;rw[List.foldl_cons,ih,Br,List.mem_cons];constructor
    . rintro((h|h)|h)
      . exact .inr (.inl h)
      . exact .inl h
      . exact .inr (.inr h)
    . rintro(h|h|h)
      . exact .inl (.inr h)
      . exact .inl (.inl h)
      . exact .inr h
 rw[eH,key];simp
def Bs(m:Mo)(y:AV)(c:Int->Int->Int)(In:Int->Prop):Prop:=∀(a b:Int) (σ:aa) (KF:cL->aa->Prop),In a->In b->KF (.val (int (c a b))) σ->dC Tryz.prog m y [int a,int b] σ KF
theorem Ql{α:Type}{A B:List α}{x y:α}{n:Nat}(hn:A.length=n):(A++y::x::B)[n]?=some y/\(A++y::x::B)[n+1]?=some x/\((A++y::x::B).set n x).set (n+1) y=A++x::y::B/\((A++y::x::B).set (n+1) y).set n x=A++x::y::B:=by
 subst hn;refine⟨by simp,?_,?_,?_⟩
 . rw[List.getElem?_append_right (by omega)];simp
 . rw[List.set_append_right _ _ (by omega),List.set_append_right _ _ (by omega)];simp
 . rw[List.set_append_right _ _ (by omega),List.set_append_right _ _ (by omega)];simp
theorem CW{y:AV}{c:Int->Int->Int}{In:Int->Prop}{l:List Int}{b cap:Nat}{rest:List AV}(hy:Bs m y c In)(hin:∀x∈l,In x)(hl:l.length<=1000000)(hb:σ b=some (.cells (l.map int++rest)))
 (h:KF (.val (.c9 [])) (σ.set b (.cells ((eH (λa b=>decide (c a b<0)) l).reverse.map int++rest)))):aA Tryz.prog m 142 [.fZ b 0 l.length cap,int 0,int l.length,y] σ KF:=by
 refine aA.start lay [] OH 4 Tryz.func142 rfl rfl (by rfl) (by kernel_rfl) ?_
 simp[Tryz.f142];obtain⟨lt,hlt⟩:∃lt,lt=λa b=>decide (c a b<0):=⟨_,rfl⟩
 rw[<-hlt]at h;refine ab.loop l.length (λi s=>∃env σ',s=⟨env,σ',[],.no⟩/\env 0=.fZ b 0 l.length cap/\env 1=int 0/\env 2=int l.length/\env 3=y/\env 8=int ((i:Int)+1)/\σ'=σ.set b (.cells ((eH lt (l.take (i+1))).reverse.map int++((l.drop (i+1)).map int++rest)))) ⟨_,_,rfl,by simp,by simp,by simp,by simp,by simp,?_⟩ ?_
 . have e:(eH lt (l.take 1)).reverse.map int++((l.drop 1).map int++rest)=l.map int++rest:=by
    cases l with
    |nil=>simp[eH]
    |cons a l=>simp[eH,eI]
   rw[e]
   funext d
   by_cases q:d=b
   . subst q;rw[aa.ao,hb]
   . rw[aa.ai _ _ q]
 rintro c0 i _ hi ⟨env,σ',rfl,h0,h1,h2,h3,h8,hσ⟩ ih
 rcases Nat.lt_or_ge (i+1) l.length with g1|g1
 . have g1':(i:Int)+1<l.length:=by omega
   obtain⟨S,hS⟩:∃S,S=eH lt (l.take (i+1)):=⟨_,rfl⟩;have hSl:S.length=i+1:=by rw[hS,kH,List.length_take];omega
   have hSm:∀x∈S,In x:=λx hx=>hin x (List.mem_of_mem_take ((sC lt _ x).1 (hS ▸ hx)))
   have hSn:eH lt (l.take (i+1+1))=eI lt l[i+1] S:=by rw[hS,eH,List.take_succ_eq_append_getElem g1,List.foldl_append];rfl
   obtain⟨x,hx⟩:∃x,x=l[i+1]:=⟨_,rfl⟩;have hxi:In x:=hin x (by rw[hx];exact List.getElem_mem g1)
   have hdr:l.drop (i+1)=x::l.drop (i+2):=by rw[hx];exact List.drop_eq_getElem_cons g1
   rw[<-hS,hdr]at hσ;rw[<-hx]at hSn;refine ab.run lay [] ?_;simp[h0,h1,h2,h3,h8,g1']
   refine ab.loop (i+1) (λk s=>∃env σ' S1 S2,s=⟨env,σ',[],.no⟩/\env 0=.fZ b 0 l.length cap/\env 1=int 0/\env 2=int l.length/\env 3=y/\env 8=int ((i:Int)+1)/\env 9=int S2.length/\S=S1++S2/\S2.length+k=i+1/\eI lt x S=S1++eI lt x S2/\
    σ'=σ.set b (.cells ((S2.reverse.map int)++int x::(S1.reverse.map int++((l.drop (i+2)).map int++rest))))) ⟨_,_,[],S,rfl,by simp[h0],by simp[h1],by simp[h2],by simp[h3],by simp[h8],by simp[hSl],rfl,by omega,rfl,by rw[hσ];simp⟩ ?_
   clear h0 h1 h2 h3 h8 hσ
   rintro c1 k _ hk ⟨env,σ',S1,S2,rfl,h0,h1,h2,h3,h8,h9,hSS,hlen,hins,hσ⟩ ih2
   cases S2 with
   | nil=>
     simp only[List.length_nil,Nat.zero_add]at hlen;simp only[List.append_nil]at hSS;subst hSS
     have hfin:σ'=σ.set b (.cells ((eH lt (l.take (i+1+1))).reverse.map int++((l.drop (i+1+1)).map int++rest))):=by rw[hσ,hSn,hins];simp[eI]
     refine ab.run lay [] ?_;simp[h0,h1,h2,h3,h8,h9];refine⟨?_,?_⟩
     all_goals
      refine ab.run lay [] ?_;simp[h0,h1,h2,h3,h8,h9];refine⟨by omega,ih _ (by omega) ⟨_,_,rfl,by simp[h0,h1,h2,h3,h8,h9],by simp[h0,h1,h2,h3,h8,h9],by simp[h0,h1,h2,h3,h8,h9],by simp[h0,h1,h2,h3,h8,h9],by simp,hfin⟩⟩
   | cons z S2=>
     obtain⟨e1,e2,e3,e4⟩:=Ql (A:=S2.reverse.map int) (B:=S1.reverse.map int++((l.drop (i+2)).map int++rest)) (x:=int x) (y:=int z) (n:=S2.length) (by simp)
     have hσ':σ' b=some (.cells (S2.reverse.map int++int z::int x::(S1.reverse.map int++((l.drop (i+2)).map int++rest)))):=by rw[hσ,aa.ao];simp
     have hzi:In z:=hSm z (by rw[hSS];simp)
     have f1:(0:Int)<(S2.length:Int)+1:=by omega
     have f2:(S2.length:Int)+1<l.length:=by simp at hlen;omega
     have f3:(S2.length:Int)<l.length:=by omega
     have f4:(0:Int)<=(S2.length:Int)+1:=by omega
     have f5:((S2.length:Int)+1).toNat=S2.length+1:=by omega
     have f6:-9223372036854775808<=(S2.length:Int)/\(S2.length:Int)<=9223372036854775807:=by omega
     refine ab.run lay [] ?_;simp[h0,h1,h2,h3,h8,h9,f1,f2,f3,f4,f5,f6.1,f6.2,hσ',e1,e2];refine⟨hy _ _ _ _ hxi hzi ?_,hy _ _ _ _ hxi hzi ?_⟩
     all_goals
      refine bm.go lay [] ?_;simp[h0,h1,h2,h3,h8,h9];refine ab.run lay [] ?_;simp[h0,h1,h2,h3,h8,h9]
      by_cases hc:c x z<0
      . have f7:S2.length+1+1<=S2.length+(S1.length+(l.length-(i+2)+rest.length)+1+1):=by omega
        have f8:S2.length+1<=S2.length+(S1.length+(l.length-(i+2)+rest.length)+1+1):=by omega
        have hl1:eI lt x (z::S2)=z::eI lt x S2:=by rw[hlt];simp[eI,hc]
        simp[h0,h1,h2,h3,h8,h9,hc,f5,f6.1,f6.2,f2,f3,f4,hσ',e1,e2,f7,f8];refine ab.run lay [] ?_;simp[h0,h1,h2,h3,h8,h9,f6.1,f6.2];refine ih2 _ (by simp at hlen;omega) ⟨_,_,S1++[z],S2,rfl,by simp[h0,h1,h2,h3,h8,h9],by simp[h0,h1,h2,h3,h8,h9],by simp[h0,h1,h2,h3,h8,h9],by simp[h0,h1,h2,h3,h8,h9],by simp[h0,h1,h2,h3,h8,h9],by simp,by rw[hSS];simp,by simp at hlen;omega,by rw[hins,hl1];simp,?_⟩
        rw[hσ];simp
      . have hl1:eI lt x (z::S2)=x::z::S2:=by rw[hlt];simp[eI,hc]
        have hfin:σ'=σ.set b (.cells ((eH lt (l.take (i+1+1))).reverse.map int++((l.drop (i+1+1)).map int++rest))):=by rw[hσ,hSn,hins,hl1];simp
        simp[h0,h1,h2,h3,h8,h9,hc];exact⟨by omega,ih _ (by omega) ⟨_,_,rfl,by simp[h0,h1,h2,h3,h8,h9],by simp[h0,h1,h2,h3,h8,h9],by simp[h0,h1,h2,h3,h8,h9],by simp[h0,h1,h2,h3,h8,h9],by simp,hfin⟩⟩
 . have hfin:(eH lt (l.take (i+1))).reverse.map int++((l.drop (i+1)).map int++rest)=(eH lt l).reverse.map int++rest:=by
    rw[List.take_of_length_le (by omega),List.drop_of_length_le (by omega)];simp
   rw[hfin]at hσ;have g2:¬(i:Int)+1<l.length:=by omega
   refine ab.run lay [] ?_;simp[h0,h1,h2,h3,h8,g2];rw[hσ];exact .done h
theorem zh{y:AV}{c:Int->Int->Int}{In:Int->Prop}{l:List Int}{b cap:Nat}{rest:List AV}(hy:Bs m y c In)(hin:∀x∈l,In x)(hl:l.length<20)(hb:σ b=some (.cells (l.map int++rest)))
 (h:KF (.val (.c9 [])) (σ.set b (.cells ((eH (λa b=>decide (c a b<0)) l).reverse.map int++rest)))):aA Tryz.prog m 137 [.fZ b 0 l.length cap,int l.length,y] σ KF:=by
 refine aA.start lay [] [] 3 Tryz.func137 rfl rfl (by rfl) (by kernel_rfl) ?_;simp[Tryz.f137];have g1:¬(20:Int)<=l.length:=by omega
 have g2:¬(20:Int)<l.length:=by omega
 refine ab.loop 1 (λk s=>∃env,s=⟨env,σ,[],.no⟩/\env 0=.fZ b 0 l.length cap/\env 1=int l.length/\env 2=y/\env 6=int 20/\env 7=int 0/\env 8=int 20) ⟨_,rfl,by simp⟩ ?_;rintro c0 k _ hk ⟨env,rfl,h0,h1,h2,h6,h7,h8⟩ ih;refine ab.run lay [] ?_;simp[h0,h1,h2,h6,h7,h8,g1];refine aq Tryz.func142 rfl rfl (CW hy hin (by omega) hb ?_);refine ab.run lay [] ?_;simp[h0,h1,h2,h6,h7,h8];refine ab.loop 1 (λk s=>∃env σ',s=⟨env,σ',[],.no⟩/\env 1=int l.length/\env 6=int 20/\σ'=σ.set b (.cells ((eH (λa b=>decide (c a b<0)) l).reverse.map int++rest))) ⟨_,_,rfl,by simp[h1],by simp[h6],by simp⟩ ?_;clear h0 h1 h2 h6 h7 h8;rintro c1 k _ hk ⟨env,σ',rfl,h1,h6,hσ⟩ ih;refine ab.run lay [] ?_;simp[h1,h6,g2];rw[hσ];exact .done h
theorem rB{y:AV}{c:Int->Int->Int}{In:Int->Prop}{l:List Int}{b cap:Nat}{rest:List AV}(hy:Bs m y c In)(hin:∀x∈l,In x)(hl:l.length<20)(hb:σ b=some (.cells (l.map int++rest)))
 (h:KF (.val (.c9 [])) (σ.set b (.cells ((eH (λa b=>decide (c a b<0)) l).reverse.map int++rest)))):aA Tryz.prog m 126 [.fZ b 0 l.length cap,y] σ KF:=by
 refine aA.start lay [] [] 2 Tryz.func126 rfl rfl (by rfl) (by kernel_rfl) ?_;simp[Tryz.f126];refine aq Tryz.func137 rfl rfl (zh hy hin hl hb ?_);refine ab.run lay [] ?_;simp;exact .done (by simpa using h)
theorem KJ{y:AV}{c:Int->Int->Int}{In:Int->Prop}{l:List Int}(hy:Bs m y c In)(hin:∀x∈l,In x)(hl:l.length<20)(hne:l≠[])(hyc:y.cells=[y]/\y.flat=true)(h:KF (.val (ints (eH (λa b=>decide (c a b<0)) l).reverse)) σ):aA Tryz.prog m 97 [.agg [y],ints l] σ KF:=by
 refine aA.start lay [] [] 2 Tryz.func97 rfl rfl (by rfl) (by kernel_rfl) ?_;simp[Tryz.f97,hyc.1,hyc.2];refine aq Tryz.func72 rfl rfl (Fh hne (by omega) λa σ' ht=>?_)
 obtain⟨b,cap,rest,rfl,q1,q2,q3,q4,q5⟩:∃b cap rest,a=.fZ b 0 (l.map int).length cap/\σ b=none/\(l.map int).length<=cap/\(∀e∈l.map int,e.cells.length=1)/\σ' b=some (.cells (flatten (l.map int)++rest))/\rest.length=(cap-(l.map int).length)*1:=by
  rcases ht.2 with⟨e,_⟩|h
  . exact absurd (by simpa using e) hne
  . exact h
 have hfl:∀l:List Int,flatten (l.map int)=l.map int:=λl=>by
  induction l with
  |nil=>rfl
  |cons a l ih=>simp[flatten_cons,AV.cells,ih]
 rw[hfl]at q4;rw[List.length_map]at q2 q5 ⊢;refine ab.run lay [] ?_;simp[hyc.1,hyc.2];refine aq Tryz.func126 rfl rfl (rB hy hin hl q4 ?_);refine ab.run lay [] ?_;simp;refine bG.thaw (σ0:=σ) (kk:=1) (es:=(eH (λa b=>decide (c a b<0)) l).reverse.map int) ⟨aa.ig ht.1 q1,.inr ⟨b,cap,rest,?_,q1,?_,λe he=>?_,?_,?_⟩⟩ h
 . simp[kH]
 . simpa[kH]using q2
 . obtain⟨x,_,rfl⟩:=List.mem_map.1 he;rfl
 . rw[hfl];simp
 . simpa[kH]using q5
def sD(f:Fr)(a b:Int):Int:=ze (bT f a).hour (bT f b).hour
theorem KK{b mb:Nat}{f:Fr}{x y:Int}(hx:0<=x/\x<f.az.length)(hy:0<=y/\y<f.az.length)(h:KF (.val (int (sD f x y))) σ):aA Tryz.prog m 95 [int x,int y,.cp (iF b mb f 0) 0] σ KF:=by
 have x1:x.toNat<f.az.length:=by omega
 have y1:y.toNat<f.az.length:=by omega
 have ex:bT f x=f.az[x.toNat]:=by simp[bT,List.getD_eq_getElem?_getD,x1]
 have ey:bT f y=f.az[y.toNat]:=by simp[bT,List.getD_eq_getElem?_getD,y1]
 unfold sD at h;rw[ex,ey]at h;refine aA.start lay [] Qj 3 Tryz.func95 rfl rfl (by rfl) (by kernel_rfl) ?_;simp[Tryz.f95,x1,y1,hx.1,hy.1];refine aq Tryz.func96 rfl rfl (CU ?_);refine bm.go lay [] ?_;simp;refine ab.run lay [] ?_;simp;exact .done h
theorem H5{b mb:Nat}{f:Fr}:Bs m (.fn (.func 95) [] [.cp (iF b mb f 0) 0]) (sD f) (λn=>0<=n/\n<f.az.length):=λx y σ KF hx hy h=>by refine dJ Tryz.func95 rfl rfl rfl (KK hx hy h)
end Go.Proofs.YtalogdafegmilaaGreatDoor
