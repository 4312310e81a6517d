/- Part 30 of the proof. -/
import Derived.Test.YtigilmjkokbblaaGreatDoorC29
set_option linter.all false
namespace Go.Proofs.YtigilmjkokbblaaGreatDoor
open Tryz (prog)
open Go.bd Go.Conc
set_option maxHeartbeats 1000000
variable{m:Mo}{σ:aa}{KF:dV->aa->Prop}
theorem gF{f:Fr}(n:f.Fits)(h:KF (.val (int (check f))) σ):aB prog m 21 [aC f] σ KF:=by
 unfold check at h;have z:=n.roads;have x:=n.aA;refine fs [] 1 Tryz.func21 rfl rfl (by rfl) (by kernel_rfl) ?_;simp[Tryz.f21];refine cf Tryz.func53 rfl (y9 n.roads n.row ?_);refine rn ?_;simp;refine aI.intro (λo=>?_) (λo=>?_)<;>(try simp[-Int.not_lt,-Int.not_le,-Nat.not_lt,-Nat.not_le]at o)<;>(try simp[o]at h)<;>(try simp[o])<;>(try exact .done h);refine cf Tryz.func54 rfl (dU ?_);refine rn ?_;simp;refine vv.intro (λp=>?_) (λp=>?_)<;>(try simp[-Int.not_lt,-Int.not_le,-Nat.not_lt,-Nat.not_le]at p)<;>(try simp[p]at h)<;>(try simp[p])<;>(try exact .done h);refine cf Tryz.func54 rfl (dU ?_);refine rn ?_;simp;refine aI.intro (λq=>?_) (λq=>?_)<;>(try simp[-Int.not_lt,-Int.not_le,-Nat.not_lt,-Nat.not_le]at q)<;>(try simp[q]at h)<;>(try simp[q])<;>(try exact .done h)
 refine aI.intro (λr=>?_) (λr=>?_)<;>(try simp[-Int.not_lt,-Int.not_le,-Nat.not_lt,-Nat.not_le]at r)<;>(try simp[r]at h)<;>(try simp[r])<;>(try exact .done h);refine cf Tryz.func54 rfl (dU ?_);refine rn ?_;simp;refine vv.intro (λt=>?_) (λt=>?_)<;>(try simp[-Int.not_lt,-Int.not_le,-Nat.not_lt,-Nat.not_le]at t)<;>(try simp[t]at h)<;>(try simp[t])<;>(try exact .done h);refine cf Tryz.func54 rfl (dU ?_);refine rn ?_;simp;refine aI.intro (λu=>?_) (λu=>?_)<;>(try simp[-Int.not_lt,-Int.not_le,-Nat.not_lt,-Nat.not_le]at u)<;>(try simp[u]at h)<;>(try simp[u])<;>(try exact .done h);refine aI.intro (λv=>?_) (λv=>?_)<;>(try simp[-Int.not_lt,-Int.not_le,-Nat.not_lt,-Nat.not_le]at v)<;>(try simp[v]at h)<;>(try simp[v])<;>(try exact .done h)
 refine ab.loop f.aA.length (λk s=>∃env g,s=⟨env,g,[],.no⟩/\σ.Le g/\env 1=.cp (aC f) 0/\env 47=iQ f.aA/\env 48=int f.aA.length/\env 49=int k/\dX (bf f.roads.length) f.aA=dX (bf f.roads.length) (f.aA.drop k)) ⟨_,_,rfl,aa.le_refl _,by simp⟩ ?_;rintro A k _ B ⟨env,g,rfl,i,e,a,c,d,j⟩ y;refine rn ?_;simp[e,a,c,d];refine aI.intro (λl=>?_) (λl=>?_)<;>(try simp[-Int.not_lt,-Int.not_le,-Nat.not_lt,-Nat.not_le]at l)<;>(try simp[e,a,c,d,l])
 . rw[uS _ _ k l]at j
   refine bL.intro λb hb=>?_
   simp[e,a,c,d];refine cf Tryz.func55 rfl (m7 ⟨by omega,by omega⟩ (n.marks _ (List.getElem_mem l)) ?_);refine rn ?_;simp[e,a,c,d];refine aI.intro (λw=>?_) (λw=>?_)<;>(try simp[-Int.not_lt,-Int.not_le,-Nat.not_lt,-Nat.not_le]at w)<;>(try simp[w]at j)<;>(try simp[e,a,c,d,w])<;>(try exact .done j)
   . rw[j]at h
     exact .less (aa.dg i hb) (.done h)
   . exact⟨by omega,y _ l ⟨_,_,rfl,aa.dg i hb,by simp[e,a,c,d],by simp[e,a,c,d],by simp[e,a,c,d],by simp,j⟩⟩
 . have:k=f.aA.length:=by omega
   subst this;simp[dX]at j;rw[j]at h;exact .less i (.done h)
structure tu(σ:aa)(b mb:Nat)(σ':aa):Prop where
 hb:σ b=none
 vy:σ mb=none
 ne:b≠mb
 eq:σ'=(σ.set mb (mapA .u8 [])).set b (.part (bS 6))
def LU(f:Fr)(σ:aa):dV->aa->Prop:=λr a=>∃b mb,r=.val (.ref b 0)/\σ b=none/\σ mb=none/\b≠mb/\a=(σ.set mb (mapA .u8 [])).set b (.cells [iQ f.aA,rows f.roads,int f.bH,int f.hH,int f.dO,int f.most,.lit (.int .i32 0),.lit (.int .u32 0),.map mb])
theorem rB{f:Fr}(h:∀b mb σ',tu σ b mb σ'->KF (.val (iu b mb f 0)) σ'):aB prog m 72 [aC f] σ KF:=by
 refine aB.share (KF0:=LU f σ) ?_ ?_
 . refine aB.start lay [6] [] 1 Tryz.func72 rfl rfl (by rfl) (by kernel_rfl) ?_
   simp[Tryz.f72];refine Ff .u8 rfl λmb vy=>?_
   refine ab.run lay [6] ?_;simp[aG];refine bL.intro λb hb=>?_
   obtain⟨d,k,hb⟩:=aa.aF hb;simp;exact .done ⟨b,mb,rfl,hb,vy,d,rfl⟩
 . rintro r σ' ⟨b,mb,rfl,hb,vy,c,rfl⟩
   refine .inr ⟨b,_,[6,7],bS 6,rfl,aa.ak _ _ _,λi v a=>?_,λi=>?_,?_⟩
   . unfold bS at a
     split at a
     . next e=>subst e;cases a;rfl
     . split at a
       . next e=>subst e;cases a;rfl
       . cases a
   . unfold bS
     simp;constructor
     . intro h;split at h<;>simp_all
     . rintro⟨g,j⟩;simp[g,j]
   . exact h b mb _ ⟨hb,vy,c,by simp⟩
def ba(f:Fr)(l:List Int):Int:=if check f≠0 then check f else if l.all (dz · 0 (f.aA.length-1))then 0 else 3
theorem gq{f:Fr}{l:List Int}(p:f.Fits)(v:l.length<1152921504606846976)(o:ba f l≠0->KF (.val (.bG [.lit (.pointer none),int (ba f l)])) σ)
 (q:ba f l=0->∀b mb σ',tu σ b mb σ'->KF (.val (.bG [iu b mb f 0,int 0])) σ'):aB prog m 49 [aC f,ints l] σ KF:=by
 have r:=p.aA;refine fs [] 2 Tryz.func49 rfl rfl (by rfl) (by kernel_rfl) ?_
 simp[Tryz.f49];refine cf Tryz.func21 rfl (gF p ?_);refine rn ?_;simp;refine aI.intro (λi=>?_) (λi=>?_)<;>simp at i<;>simp[i]
 . have:ba f l=check f:=by unfold ba;rw[if_pos i]
   rw[this]at o;exact .done (o i)
 refine ab.loop l.length (λk s=>∃env,s=⟨env,σ,[],.no⟩/\env 2=.cp (aC f) 0/\env 14=ints l/\env 15=int l.length/\env 16=int k/\(l.take k).all (dz · 0 (f.aA.length-1))=true) ⟨_,rfl,by simp⟩ ?_
 rintro w k _ x ⟨env,rfl,h,a,c,d,g⟩ t
 refine rn ?_;simp[h,a,c,d];refine aI.intro (λj=>?_) (λj=>?_)<;>(try simp[-Int.not_lt,-Int.not_le,-Nat.not_lt,-Nat.not_le]at j)<;>(try simp[h,a,c,d,j])
 . refine⟨by omega,?_⟩
   refine cf Tryz.func54 rfl (dU ?_);refine rn ?_;simp[h,a,c,d];refine aI.intro (λn=>?_) (λn=>?_)<;>(try simp[-Int.not_lt,-Int.not_le,-Nat.not_lt,-Nat.not_le]at n)<;>(try simp[h,a,c,d,n])
   . refine⟨by omega,t _ j ⟨_,rfl,by simp[h,a,c,d],by simp[h,a,c,d],by simp[h,a,c,d],by simp,?_⟩⟩
     rw[List.take_succ_eq_append_getElem j,List.all_append,g];simp[n]
   . have e:l.all (dz · 0 (f.aA.length-1))=false:=by
      rw[List.all_eq_false];exact⟨_,List.getElem_mem j,by simp[n]⟩
     have:ba f l=3:=by unfold ba;rw[if_neg (by simp[i]),e];rfl
     rw[this]at o;exact .done (o (by simp))
 . have:k=l.length:=by omega
   subst this;rw[List.take_length]at g;have:ba f l=0:=by unfold ba;rw[if_neg (by simp[i]),if_pos g]
   refine cf Tryz.func72 rfl (rB λb mb σ' u=>?_)
   refine rn ?_;simp[h,a,c,d];exact .done (q this b mb σ' u)
theorem Ho{b mb:Nat}{f:Fr}{l:List Int}(u:f.Fits)(z:l.length<1152921504606846976)(h:KF (.val (T4 (lU f l))) σ):aB prog m 85 [iu b mb f 0,ints l] σ KF:=by
 have v:=u.aA;unfold lU at h;refine fs [] 2 Tryz.func85 rfl rfl (by rfl) (by kernel_rfl) ?_;simp[Tryz.f85];refine aI.intro (λn=>?_) (λn=>?_)<;>simp at n<;>simp[n]
 . rw[if_pos (by simp[n])]at h
   exact .done h
 rw[if_neg (by simpa using n)]at h;refine ab.loop l.length (λk s=>∃env,s=⟨env,σ,[],.no⟩/\env 0=iu b mb f 0/\env 1=ints l/\env 12=ints l/\env 13=int l.length/\env 14=int k/\fI f none l=fI f (if k=0 then none else l[k-1]?) (l.drop k)) ⟨_,rfl,by simp⟩ ?_;rintro A k _ B ⟨env,rfl,e,g,a,c,d,i⟩ r;refine rn ?_;simp[e,g,a,c,d];refine aI.intro (λj=>?_) (λj=>?_)<;>(try simp[-Int.not_lt,-Int.not_le,-Nat.not_lt,-Nat.not_le]at j)<;>(try simp[e,g,a,c,d,j])
 . rw [wM f _ k j]at i
   refine⟨by omega,?_⟩;refine cf Tryz.func54 rfl (dU ?_);refine rn ?_;simp[e,g,a,c,d];refine aI.intro (λo=>?_) (λo=>?_)<;>(try simp[-Int.not_lt,-Int.not_le,-Nat.not_lt,-Nat.not_le]at o)<;>(try simp[o]at i)<;>(try simp[e,g,a,c,d,o])<;>(try exact .done i)
   . refine vv.intro (λp=>?_) (λp=>?_)<;>(try simp[-Int.not_lt,-Int.not_le,-Nat.not_lt,-Nat.not_le]at p)<;>(try simp[p]at i)<;>(try simp[e,g,a,c,d,p,j])<;>(try exact .done i)
     . have w:(k:Int)-1=((k-1:Nat):Int):=by omega
       have t:k-1<l.length:=by omega
       have x:¬k=0:=by omega
       simp[e,g,a,c,d,w,t];repeat refine⟨by omega,?_⟩
       try simp[t,x,mL]at i
       refine aI.intro (λq=>?_) (λq=>?_)<;>(try simp[-Int.not_lt,-Int.not_le,-Nat.not_lt,-Nat.not_le]at q)<;>(try simp[q]at i)<;>(try simp[e,g,a,c,d,q])<;>(try exact .done i)
       . rw[i]at h
         exact .done h
       . refine⟨by omega,r _ j ⟨_,rfl,by simp[e,g,a,c,d],by simp[e,g,a,c,d],by simp[e,g,a,c,d],by simp[e,g,a,c,d],by simp,?_⟩⟩
         simp[i,j]
     . have y:k=0:=by omega
       subst y;simp[mL]at i;refine⟨by omega,r _ j ⟨_,rfl,by simp[e,g,a,c,d],by simp[e,g,a,c,d],by simp[e,g,a,c,d],by simp[e,g,a,c,d],by simp,?_⟩⟩;simp[i,j]
   . rw[i]at h
     exact .done h
 . have:k=l.length:=by omega
   subst this;simp[fI]at i;rw[i]at h;exact .done h
theorem T6{a:AV}(h:KF (.val (bool false)) σ):aB prog m 84 [.lit .nilIface,a] σ KF:=by
 refine fs [] 2 Tryz.func84 rfl rfl (by rfl) (by kernel_rfl) ?_;simp[Tryz.f84];refine kA lay rfl PM rfl (.inl ⟨rfl,rfl⟩) (.inl ⟨rfl,rfl⟩) ?_;refine rn ?_;simp;exact .done h
end Go.Proofs.YtigilmjkokbblaaGreatDoor
namespace Go.Proofs.YtigilmjkokbblaaGreatDoor
open Tryz (prog)
open Go.bd Go.Conc
set_option maxHeartbeats 1000000
set_option maxRecDepth 4000
variable{m:Mo}{σ:aa}{KF:dV->aa->Prop}
theorem qW(first:List Int)(others:List (List Int))(k:Nat)(h:k<first.length):cO (first.take (k+1)) others=cO (first.take k) others++if others.all (λl=>decide (first[k]∈l))then[first[k]]else[]:=by unfold cO;rw[List.take_succ_eq_append_getElem h,List.filter_append];simp only[List.filter_cons,List.filter_nil]
theorem BW(first:List Int)(others:List (List Int)):(cO first others).length<=first.length:=List.length_filter_le _ _
theorem zN{first:List Int}{others:List (List Int)}{sp r:cG}(B:first.length<=1000000000)(C:others.length<1152921504606846976)(t:∀l∈others,l.length<1152921504606846976)(h:KF (.val (ints (cO first others))) σ):aB prog m 70 [.sl 1 (first.map int) sp,.sl 1 (others.map ints) r] σ KF:=by
 refine fs [] 2 Tryz.func70 rfl rfl (by rfl) (by kernel_rfl) ?_
 simp[Tryz.f70];refine ab.loop first.length (λk s=>∃env p,s=⟨env,p,[],.no⟩/\env 0=.sl 1 (first.map int) sp/\env 1=.sl 1 (others.map ints) r/\env 10=.sl 1 (first.map int) sp/\env 11=int first.length/\env 12=int k/\Tok σ p (env 5) 1 ((cO (first.take k) others).map int)) ⟨_,_,rfl,by simp,by simp,by simp,by simp,by simp,.nil σ 1⟩ ?_
 rintro D k _ E ⟨env,p,rfl,i,n,a,b,c,g⟩ z
 refine rn ?_;simp[i,n,a,b,c];have hlen:=BW (first.take k) others
 rw[List.length_take]at hlen;refine aI.intro (λu=>?_) (λu=>?_)<;>(try simp[-Int.not_lt,-Int.not_le,-Nat.not_lt,-Nat.not_le]at u)<;>(try simp[i,n,a,b,c,u])
 . refine ab.loop others.length (λj s=>∃env,s=⟨env,p,[],.no⟩/\env 0=.sl 1 (first.map int) sp/\env 1=.sl 1 (others.map ints) r/\env 10=.sl 1 (first.map int) sp/\env 11=int first.length/\env 12=int k/\Tok σ p (env 5) 1 ((cO (first.take k) others).map int)/\env 7=int first[k]/\env 16=.sl 1 (others.map ints) r/\env 17=int others.length/\env 18=int j/\∀l∈others.take j,first[k]∈l) ⟨_,rfl,by simp[i,n,a,b,c,g,u]⟩ ?_
   clear i n a b c g
   rintro F j _ G ⟨env,rfl,i,n,a,b,c,g,o,d,e,f,q⟩ x
   refine rn ?_;simp[i,n,a,b,c,o,d,e,f];refine aI.intro (λv=>?_) (λv=>?_)<;>(try simp[-Int.not_lt,-Int.not_le,-Nat.not_lt,-Nat.not_le]at v)<;>(try simp[i,n,a,b,c,o,d,e,f,v])
   . refine cf Tryz.func90 rfl (kL (t _ (List.getElem_mem v)) ?_)
     refine rn ?_;simp[i,n,a,b,c,o,d,e,f];refine aI.intro (λw=>?_) (λw=>?_)<;>(try simp[-Int.not_lt,-Int.not_le,-Nat.not_lt,-Nat.not_le]at w)<;>(try simp[i,n,a,b,c,o,d,e,f,w])
     . refine⟨by omega,x _ v ⟨_,rfl,by simp[i,n,a,b,c,o,d,e,f],by simp[i,n,a,b,c,o,d,e,f],by simp[i,n,a,b,c,o,d,e,f],by simp[i,n,a,b,c,o,d,e,f],by simp[i,n,a,b,c,o,d,e,f],by simpa using g,by simp[i,n,a,b,c,o,d,e,f],by simp[i,n,a,b,c,o,d,e,f],by simp[i,n,a,b,c,o,d,e,f],by simp,λl t=>?_⟩⟩
       rw[List.take_succ_eq_append_getElem v,List.mem_append,List.mem_singleton]at t
       rcases t with t|rfl
       . exact q l t
       . exact w
     . refine⟨by omega,z _ u ⟨_,_,rfl,by simp[i,n,a,b,c,o,d,e,f],by simp[i,n,a,b,c,o,d,e,f],by simp[i,n,a,b,c,o,d,e,f],by simp[i,n,a,b,c,o,d,e,f],by simp,?_⟩⟩
       have:others.all (λl=>decide (first[k]∈l))=false:=by rw[List.all_eq_false];exact⟨_,List.getElem_mem v,by simp[w]⟩
       rw[qW _ _ _ u,this];simpa using g
   . have:j=others.length:=by omega
     subst this;rw[List.take_length]at q;refine aS lay rfl rfl rfl cK rfl cK rfl rl (by decide) (by simp;omega) (σ0:=σ) (es:=(cO (first.take k) others).map int) (xs:=[int first[k]]) (by simpa using g) (.inr ⟨_,rfl⟩) λH A y=>?_
     refine rn ?_;simp[i,n,a,b,c,o,d,e,f];refine⟨by omega,z _ u ⟨_,_,rfl,by simp[i,n,a,b,c,o,d,e,f],by simp[i,n,a,b,c,o,d,e,f],by simp[i,n,a,b,c,o,d,e,f],by simp[i,n,a,b,c,o,d,e,f],by simp,?_⟩⟩
     have:others.all (λl=>decide (first[k]∈l))=true:=by rw[List.all_eq_true];exact λl t=>by simpa using q l t
     rw[qW _ _ _ u,this];simpa using y
 . have:k=first.length:=by omega
   subst this;rw[List.take_length]at g;exact .iI g.W (.less g.1 (.done h))
structure Fr.Good(f:Fr):Prop where
 fits:f.Fits
 fr:0<=f.bH/\f.bH<=3
 to:0<=f.hH/\f.hH<=3
 le:f.bH<=f.hH
 dO:1<=f.dO/\f.dO<=6
 most:1<=f.most/\f.most<=6
 vw:f.aA.length<=6
 yz:∀e∈f.aA,bf f.roads.length e=0
 J3:fe f.roads=0
theorem qX(g:gX->Int):∀{l:List gX},dX g l=0->∀e∈l,g e=0
 |[],_,e,he=>by simp at he
 | a ::l,h,e,he=>by
   unfold dX at h;split at h
   . next b=>
     rcases List.mem_cons.1 he with rfl|he
     . exact b
     . exact qX g h e he
   . next b=>exact absurd h b
theorem Fr.hQ{f:Fr}(c:f.Fits)(h:check f=0):f.Good:=by
 unfold check at h;split at h
 . next q=>exact absurd h q
 next d=>
 split at h
 . cases h
 next a=>
 split at h
 . cases h
 next e=>
 split at h
 . cases h
 next b=>
 split at h
 . cases h
 next g=>
 simp only[Bool.not_eq_false,Bool.and_eq_true]at a b;exact⟨c,iC a.1,iC a.2,by omega,iC b.1,iC b.2,by omega,qX _ h,by simpa using d⟩
theorem oX{p:Int}{e:gX}(h:bf p e=0):(0<=e.hour/\e.hour<=72)/\(0<=e.place/\e.place<=p-1)/\(0<=e.bE/\e.bE<=5)/\(0<=e.aQ/\e.aQ<=30)/\(0<=e.fj/\e.fj<=2)/\mw none e.marks=0:=by
 unfold bf at h;split at h
 . cases h
 next a=>
 split at h
 . cases h
 next b=>
 split at h
 . cases h
 next c=>
 split at h
 . next q=>exact absurd h q
 next g=>
 split at h
 . cases h
 next d=>
 split at h
 . cases h
 next f=>
 simp only[Bool.not_eq_false]at a b c d f;exact⟨iC a,iC b,iC c,iC d,iC f,by simpa using g⟩
theorem Ax{f:Fr}(a:f.Good)(e:gX):(fQ f e).length<=4:=by
 unfold fQ;have:=a.fr;have:=a.to;split
 . rw[List.length_map,List.length_range];omega
 . simp
theorem Ay{f:Fr}(a:f.Good)(e:gX):(bI f e).length<=5:=by
 unfold bI;have:=Ax a e;split
 . rw[List.length_append];simp;omega
 . omega
theorem wE{f:Fr}{e:gX}(h:e.fj≠0):fQ f e=(List.range (f.hH-f.bH+1).toNat).map λi:Nat=>e.aQ-f.hH+(i:Int):=if_pos h
theorem yh{b mb:Nat}{f:Fr}{l:List Int}(J:f.Good)(P:l≠[])(hl:l.length<=1000000)(hb:∀n∈l,0<=n/\n<f.aA.length)(h:KF (.val (ints (dT f l))) σ):aB prog m 46 [iu b mb f 0,ints l] σ KF:=by
 have h6:=J.vw;have av:=J.fr;have ax:=J.to;have ay:=J.le;refine fs VO 2 Tryz.func46 rfl rfl (by rfl) (by kernel_rfl) ?_
 simp[Tryz.f46];refine ab.loop l.length (λk s=>∃env F,s=⟨env,F,[],.no⟩/\env 0=iu b mb f 0/\env 11=ints l/\env 12=int l.length/\env 13=int k/\Tok σ F (env 5) 1 ((l.take k).map λn=>ints (bI f (bp f n)))) ⟨_,_,rfl,by simp,by simp,by simp,by simp,.nil σ 1⟩ ?_
 rintro c0 k _ hk ⟨env,F,rfl,u,d,g,o,y⟩ U
 rcases Nat.lt_or_ge k l.length with g1|g1
 . obtain ⟨N,n1⟩:=hb _ (List.getElem_mem g1)
   have n2:l[k].toNat<f.aA.length:=by omega
   obtain⟨e,he⟩:∃e,e=f.aA[l[k].toNat]:=⟨_,rfl⟩;have a7:bp f l[k]=e:=by simp[bp,List.getD_eq_getElem?_getD,n2,he]
   have b0:=oX (J.yz e (by rw[he];exact List.getElem_mem n2))
   have z:(l.take (k+1)).map (λn=>ints (bI f (bp f n)))=(l.take k).map (λn=>ints (bI f (bp f n)))++[ints (bI f e)]:=by rw[List.take_succ_eq_append_getElem g1,List.map_append];simp[a7]
   refine rn ?_;simp[u,d,g,o,g1,N,n2,<-he];refine bL.intro λc V=>?_
   simp[u,d,g,o]
   have a8:σ c=none:=by
    cases q:σ c with
    |none=>rfl
    |some x=>rw[y.1 c x q]at V;cases V
   have G:Tok σ (F.set c (.cells [int e.hour,int e.place,int e.bE,ints e.marks,int e.aQ,int e.fj])) (env 5) 1 ((l.take k).map λn=>ints (bI f (bp f n))):=y.beside a8 (λq=>by obtain⟨_,x,hx⟩:=y.bc q;rw[hx]at V;cases V)
   have I:(F.set c (.cells [int e.hour,int e.place,int e.bE,ints e.marks,int e.aQ,int e.fj])) c=some (.cells [int e.hour,int e.place,int e.bE,ints e.marks,int e.aQ,int e.fj]):=aa.ak _ _ _;generalize F.set c (.cells [int e.hour,int e.place,int e.bE,ints e.marks,int e.aQ,int e.fj])=H at G I;refine aI.intro (λO=>?_) (λO=>?_)<;>simp at O<;>simp[O]
   . have f1:-9223372036854775808<=f.hH-f.bH/\f.hH-f.bH<=9223372036854775807:=by omega
     have f2:-9223372036854775808<=f.hH-f.bH+1/\f.hH-f.bH+1<=9223372036854775807:=by omega
     simp[u,d,g,o,f1.1,f1.2,f2.1,f2.2];refine rn ?_;simp[u,d,g,o];obtain⟨a5,K⟩:∃a,a=env 5:=⟨_,rfl⟩;rw[<-K]at G;obtain⟨cnt,Q⟩:∃cnt:Nat,(cnt:Int)=f.hH-f.bH+1:=⟨(f.hH-f.bH+1).toNat,by omega⟩
     have b1:cnt<=4:=by omega
     have a9:fQ f e=(List.range cnt).map λi:Nat=>e.aQ-f.hH+(i:Int):=by rw[wE O];congr 2;omega
     refine ab.loop cnt (λj s=>∃env L,s=⟨env,L,[],.no⟩/\env 0=iu b mb f 0/\env 11=ints l/\env 12=int l.length/\env 13=int k/\env 5=a5/\env 8=.ref c 0/\env 41=int cnt/\env 42=int j/\Tok H L (env 9) 1 (((List.range j).map λi:Nat=>e.aQ-f.hH+(i:Int)).map int)) ⟨_,_,rfl,by simp[u,d,g,o,<-K,Q,Tok.nil]⟩ ?_
     clear u d g o y K
     rintro c1 j _ hj ⟨env,L,rfl,u,d,g,o,v,w,p,t,A⟩ ad
     have B:=A.1 _ _ I
     rcases Nat.lt_or_ge j cnt with g3|g3
     . have f3:-9223372036854775808<=e.aQ-f.hH/\e.aQ-f.hH<=9223372036854775807:=by omega
       have f4:-9223372036854775808<=e.aQ-f.hH+j/\e.aQ-f.hH+j<=9223372036854775807:=by omega
       refine rn ?_;simp[u,d,g,o,v,w,p,t,g3,B,f3.1,f3.2,f4.1,f4.2];refine aS lay rfl rfl rfl cK rfl cK rfl rl (by decide) (by simp only[List.length_map,List.length_range,List.length_cons,List.length_nil];omega) (σ0:=H) (es:=((List.range j).map λi:Nat=>e.aQ-f.hH+(i:Int)).map int) (xs:=[int (e.aQ-f.hH+j)]) (by simpa using A) (.inr ⟨_,rfl⟩) λa' R C=>?_
       refine pg ?_;simp[u,d,g,o,v,w,p,t];refine rn ?_;simp[u,d,g,o,v,w,p,t];refine⟨by omega,ad _ g3 ⟨_,_,rfl,by simp[u,d,g,o,v,w,p,t],by simp[u,d,g,o,v,w,p,t],by simp[u,d,g,o,v,w,p,t],by simp[u,d,g,o,v,w,p,t],by simp[u,d,g,o,v,w,p,t],by simp[u,d,g,o,v,w,p,t],by simp[u,d,g,o,v,w,p,t],by simp,?_⟩⟩
       rw[List.range_succ,List.map_append,List.map_append];simpa using C
     . have:j=cnt:=by omega
       subst this;rw[<-a9]at A;have b2:=Ax J e;have X:Wl [env 9,int e.aQ] [ints (fQ f e),int e.aQ]:=.cons A.W (.cons (.refl _) .nil)
       by_cases Y:e.fj=1
       . refine ab.zt 9 A.W ?_
         have D:bI f e=fQ f e:=if_neg λq=>q.1 Y
         refine rn ?_;simp[u,d,g,o,v,w,p,t,g3,B,Y];refine aS lay rfl rfl rfl jO rfl jO rfl cK (by decide) (by simp;omega) (σ0:=σ) (es:=(l.take k).map λn=>ints (bI f (bp f n))) (xs:=[ints (bI f e)]) (by simpa using G.up A.1) (.inr ⟨_,by rw[D];simp;rfl⟩) λa4 M E=>?_
         refine rn ?_;simp[u,d,g,o,v,w,p,t];refine⟨by omega,U _ g1 ⟨_,_,rfl,by simp[u,d,g,o,v,w,p,t],by simp[u,d,g,o,v,w,p,t],by simp[u,d,g,o,v,w,p,t],by simp,?_⟩⟩
         rw[z];simpa using E
       . have S:(e.fj !=1)=true:=by simp[Y]
         by_cases Z:e.aQ∈fQ f e
         . have D:bI f e=fQ f e:=if_neg λq=>q.2 Z
           refine rn ?_;simp[u,d,g,o,v,w,p,t,g3,B,S];refine aH Tryz.func90 rfl rfl X (kL (by omega) ?_)
           refine ab.zt 9 (a':=ints (fQ f e)) (by simpa using A.W) ?_
           refine rn ?_;simp[u,d,g,o,v,w,p,t,Z];refine aS lay rfl rfl rfl jO rfl jO rfl cK (by decide) (by simp;omega) (σ0:=σ) (es:=(l.take k).map λn=>ints (bI f (bp f n))) (xs:=[ints (bI f e)]) (by simpa using G.up A.1) (.inr ⟨_,by rw[D];simp;rfl⟩) λa4 M E=>?_
           refine rn ?_;simp[u,d,g,o,v,w,p,t];refine⟨by omega,U _ g1 ⟨_,_,rfl,by simp[u,d,g,o,v,w,p,t],by simp[u,d,g,o,v,w,p,t],by simp[u,d,g,o,v,w,p,t],by simp,?_⟩⟩
           rw[z];simpa using E
         . have D:bI f e=fQ f e++[e.aQ]:=if_pos ⟨Y,Z⟩
           refine rn ?_;simp[u,d,g,o,v,w,p,t,g3,B,S];refine aH Tryz.func90 rfl rfl X (kL (by omega) ?_)
           refine rn ?_;simp[u,d,g,o,v,w,p,t,Z,B];refine aS lay rfl rfl rfl cK rfl cK rfl rl (by decide) (by simp;omega) (σ0:=H) (es:=(fQ f e).map int) (xs:=[int e.aQ]) (by simpa using A) (.inr ⟨_,rfl⟩) λa' R C=>?_
           refine ab.zt 74 (a':=AV.sl 1 ((fQ f e).map int++[int e.aQ]) .any) (by simpa using C.W) ?_
           refine rn ?_;simp[u,d,g,o,v,w,p,t];refine aS lay rfl rfl rfl jO rfl jO rfl cK (by decide) (by simp;omega) (σ0:=σ) (es:=(l.take k).map λn=>ints (bI f (bp f n))) (xs:=[ints (bI f e)]) (by simpa using G.up C.1) (.inr ⟨_,by rw[D];simp;rfl⟩) λa4 M E=>?_
           refine rn ?_;simp[u,d,g,o,v,w,p,t];refine⟨by omega,U _ g1 ⟨_,_,rfl,by simp[u,d,g,o,v,w,p,t],by simp[u,d,g,o,v,w,p,t],by simp[u,d,g,o,v,w,p,t],by simp,?_⟩⟩
           rw[z];simpa using E
   . have D:bI f e=[e.aQ]:=by
      simp[bI,fQ,O]
     simp[u,d,g,o,I,O];have X:Wl [AV.lit (.slice none 0 0),int e.aQ] [ints [],int e.aQ]:=.cons (cW 1) (.cons (.refl _) .nil);refine aH Tryz.func90 rfl rfl X (kL (by simp) ?_)
     refine rn ?_;simp[u,d,g,o,I];refine aS lay rfl rfl rfl cK rfl cK rfl rl (by decide) (by simp) (σ0:=H) (es:=[]) (xs:=[int e.aQ]) (by simpa using Tok.nil H 1) (.inr ⟨_,rfl⟩) λa' R C=>?_
     refine ab.zt 74 (a':=AV.sl 1 [int e.aQ] .any) (by simpa using C.W) ?_
     refine rn ?_;simp[u,d,g,o];refine aS lay rfl rfl rfl jO rfl jO rfl cK (by decide) (by simp;omega) (σ0:=σ) (es:=(l.take k).map λn=>ints (bI f (bp f n))) (xs:=[ints (bI f e)]) (by simpa using G.up C.1) (.inr ⟨_,by rw[D];simp;rfl⟩) λa4 M E=>?_
     refine rn ?_;simp[u,d,g,o];refine⟨by omega,U _ g1 ⟨_,_,rfl,by simp[u,d,g,o],by simp[u,d,g,o],by simp[u,d,g,o],by simp,?_⟩⟩
     rw[z];simpa using E
 . have:k=l.length:=by omega
   subst this;rw[List.take_length]at y;refine ab.zt 5 y.W ?_;have T:0<l.length:=List.length_pos_iff.2 P;refine rn ?_;simp[u,d,g,o,T];refine rj lay rfl jO rfl cK (es:=l.map λn=>ints (bI f (bp f n))) (sp:=.any) (l:=1) (h:=l.length) ?_ (λcap al=>⟨rfl,⟨rfl,by simp⟩,⟨_,rfl⟩,by first|omega|(simp;omega)⟩) (by simp) ?_
   . simp
   obtain⟨N,r,rfl⟩:∃N r,l=N::r:=by
    cases l with
    |nil=>exact absurd rfl P
    |cons a r=>exact⟨a,r,rfl⟩
   refine pg ?_;simp[u,d,g,o]
   have e:List.take r.length (List.map (λn=>ints (bI f (bp f n))) r)=(r.map λn=>bI f (bp f n)).map ints:=by
    rw[List.take_of_length_le (by simp)]
    simp
   rw[e];have hlen:=Ay J (bp f N);refine cf Tryz.func70 rfl (zN (first:=bI f (bp f N)) (others:=r.map λn=>bI f (bp f n)) (by omega) (by simp at hl ⊢;omega) (λx hx=>?_) ?_)
   . obtain⟨n,_,rfl⟩:=List.mem_map.1 hx
     have:=Ay J (bp f n);omega
   refine pg ?_;simp[u,d,g,o];refine rn ?_;simp[u,d,g,o];refine .less y.1 (.done ?_);simpa[dT]using h
theorem kz{f:Fr}(h:check f=0):ba f []=0:=by unfold ba;rw[if_neg (by simp[h])];rfl
theorem ry{f:Fr}{l:List Int}(h:check f=0)(a:∀n∈l,0<=n/\n<f.aA.length):ba f l=0:=by
 unfold ba;rw[if_neg (by simp[h]),if_pos];rw[List.all_eq_true];intro n b;have:=a n b;simp[dz];omega
theorem tu.le{σ σ':aa}{b mb:Nat}(h:tu σ b mb σ'):σ.Le σ':=by rw[h.eq];exact aa.dg (aa.dg (aa.le_refl _) h.vy) (by rw[aa.ag _ _ h.ne];exact h.hb)
structure QP(f:Fr)(l:List Int):Prop where
 ok:lU f l=0
 len:l.length<=1000000
theorem BX(f:Fr):∀{l:List Int}{p:Option Int},fI f p l=0->∀n∈l,0<=n/\n<f.aA.length
 |[],_,_,n,hn=>by simp at hn
 | a::l,p,h,n,hn=>by
   unfold fI at h;split at h
   . cases h
   next b=>
   split at h
   . cases h
   next c=>
   rcases List.mem_cons.1 hn with rfl|hn
   . simp[dz]at b;omega
   . exact BX f h n hn
theorem QP.mem{f:Fr}{l:List Int}(h:QP f l):∀n∈l,0<=n/\n<f.aA.length:=by
 have:=h.ok;unfold lU at this;split at this
 . cases this
 . exact BX f this
theorem QP.ne{f:Fr}{l:List Int}(h:QP f l):l≠[]:=λe=>by have:=h.ok;subst e;simp[lU]at this
theorem Az{f:Fr}{l:List Int}(e:f.Fits)(i:check f=0)(g:QP f l)(h:∀b mb σ',tu σ b mb σ'->KF (.val (.bG [iu b mb f 0,int 0])) σ'):aB prog m 42 [aC f,ints l] σ KF:=by
 have j:=g.len;refine fs QO 2 Tryz.func42 rfl rfl (by rfl) (by kernel_rfl) ?_;simp[Tryz.f42];have a:=kz i;have k:Wl [AV.agg (bO f),AV.lit (.slice none 0 0)] [aC f,ints []]:=.cons (.refl _) (.cons (cW 1) .nil);refine aH Tryz.func49 rfl rfl k (gq e (by simp) (λq=>absurd a q) λ_ b mb σ' n=>?_);refine rn ?_;simp;refine bL.intro λc d=>?_
 simp;refine cf Tryz.func85 rfl (Ho e (by omega) ?_);rw[g.ok];refine rn ?_;simp;refine cf Tryz.func84 rfl (T6 ?_);refine rn ?_;simp;exact .less (aa.dg (aa.le_refl _) d) (.done (h b mb σ' n))
theorem yi{f:Fr}{l:List Int}(c:f.Fits)(d:check f=0)(a:QP f l)(h:KF (.val (.bG [ints (dT f l),int 0])) σ):aB prog m 15 [aC f,ints l] σ KF:=by
 refine fs [] 2 Tryz.func15 rfl rfl (by rfl) (by kernel_rfl) ?_;simp[Tryz.f15];refine cf Tryz.func42 rfl (Az c d a λb mb e g=>?_);refine rn ?_;simp;refine cf Tryz.func46 rfl (yh (Fr.hQ c d) a.ne a.len a.mem ?_);refine rn ?_;simp;exact .less g.le (.done h)
theorem BY{a n:Int}(b:0<=n)(h:KF (.val (u8 (cL a n))) σ):aB prog m 185 [u8 a,int n] σ KF:=by
 refine fs [] 2 Tryz.func185 rfl rfl (by rfl) (by kernel_rfl) ?_;simp[Tryz.f185];refine⟨b,?_⟩;simp[D9];exact .done h
theorem oV{l:List Int}(o:l.length<1152921504606846976)(i:∀n∈l,0<=n)(h:KF (.val (u8 (br l))) σ):aB prog m 183 [ints l] σ KF:=by
 refine fs [] 1 Tryz.func183 rfl rfl (by rfl) (by kernel_rfl) ?_;simp[Tryz.f183];refine ab.loop l.length (λk s=>∃env,s=⟨env,σ,[],.no⟩/\env 3=u8 (br (l.take k))/\env 4=.fn (.func 185) [u8 (br (l.take k))] []/\env 9=ints l/\env 10=int l.length/\env 11=int k) ⟨_,rfl,by simp[br]⟩ ?_;rintro p k _ q ⟨env,rfl,c,d,f,a,b⟩ j;refine rn ?_;simp[c,d,f,a,b];refine aI.intro (λg=>?_) (λg=>?_)<;>(try simp[-Int.not_lt,-Int.not_le,-Nat.not_lt,-Nat.not_le]at g)<;>(try simp[c,d,f,a,b,g])
 . have e:br (l.take (k+1))=cL (br (l.take k)) l[k]:=by
    unfold br;rw[List.take_succ_eq_append_getElem g,List.foldl_append];rfl
   refine eL Tryz.func185 rfl rfl rfl (BY (i _ (List.getElem_mem g)) ?_);rw[<-e];refine rn ?_;simp[c,d,f,a,b];exact⟨by omega,j _ g ⟨_,rfl,by simp[c,d,f,a,b],by simp[c,d,f,a,b],by simp[c,d,f,a,b],by simp[c,d,f,a,b],by simp⟩⟩
 . have:k=l.length:=by omega
   subst this;rw[List.take_length];exact .done h
def BZ(x:Int):Int:=Hn x (PN x 1)
def tv:Nat->Int->Int
 |0,x=>x
 |n+1,x=>BZ (tv n x)
def IJ:Nat->Int->Int
 |0,_=>0
 |n+1,x=>if x=0 then 0 else 1+IJ n (BZ x)
def bF(a b:Int):Int:=IJ 8 (yg a b)
theorem yj{a b:Int}(i:tv 8 (yg a b)=0)(h:KF (.val (int (bF a b))) σ):aB prog m 184 [u8 a,u8 b] σ KF:=by
 refine fs [] 2 Tryz.func184 rfl rfl (by rfl) (by kernel_rfl) ?_
 simp[Tryz.f184,IG];refine ab.loop 8 (λk s=>∃env,s=⟨env,σ,[],.no⟩/\env 5=int k/\env 6=u8 (tv k (yg a b))/\bF a b=k+IJ (8-k) (tv k (yg a b))) ⟨_,rfl,by simp,by simp;rfl,by simp[tv,bF]⟩ ?_
 rintro n k _ o ⟨env,rfl,f,g,d⟩ j
 refine rn ?_;simp[f,g];refine aI.intro (λc=>?_) (λc=>?_)<;>(try simp[-Int.not_lt,-Int.not_le,-Nat.not_lt,-Nat.not_le]at c)<;>(try simp[f,g,c])
 . have l:k<8:=by
    rcases Nat.lt_or_ge k 8 with q|q
    . exact q
    . have:k=8:=by omega
      subst this;exact absurd i c
   refine⟨by omega,?_⟩
   simp[f,g,Aw,II];refine j _ l ⟨_,rfl,by simp,by simp[tv,BZ],?_⟩
   have e:8-k=(8-(k+1))+1:=by omega
   rw[e,IJ,if_neg c]at d;rw[d];simp only[tv];omega
 . rw[c]at d
   have e:IJ (8-k) 0=0:=by cases 8-k<;>simp[IJ]
   rw[e]at d;rw[d]at h;exact .done (by simpa using h)
abbrev yk(x:Int):AV:=.agg [u8 x]
theorem OY{x n:Int}(e:0<=n)(h:KF (.val (yk (cL x n))) σ):aB prog m 102 [yk x,int n] σ KF:=by
 refine aB.start lay [2] TX 2 Tryz.func102 rfl rfl (by rfl) (by kernel_rfl) ?_;simp[Tryz.f102];refine bL.intro λc f=>?_
 simp;refine bL.intro λd hd=>?_
 obtain⟨a,b,hd⟩:=aa.aF hd;simp[a,b,aa.ag,D9,e];refine ab.run lay [2] ?_;simp[a,b,aa.ag];exact .less (by repeat (first|exact aa.le_refl _|assumption|refine aa.ia ?_ (by assumption)|refine aa.jT ?_ (by assumption))) (.done h)
theorem LV{x:Int}(h:KF (.val (ints (eS x))) σ):aB prog m 134 [yk x] σ KF:=by
 refine fs [] 1 Tryz.func134 rfl rfl (by rfl) (by kernel_rfl) ?_
 simp[Tryz.f134];refine ab.loop 6 (λk s=>∃env b,s=⟨env,b,[],.no⟩/\env 1=.cp (yk x) 0/\env 5=int k/\Tok σ b (env 3) 1 ((((List.range k).map λn:Nat=>(n:Int)).filter λn=>ni x n).map int)) ⟨_,_,rfl,by simp,by simp,.nil σ 1⟩ ?_
 rintro o k _ p ⟨env,b,rfl,c,d,a⟩ g
 rcases Nat.lt_or_ge k 6 with g1|g1
 . have e:(k:Int)<6:=by omega
   have q:(((List.range k).map λn:Nat=>(n:Int)).filter λn=>ni x n).length<=k:=by refine Nat.le_trans (List.length_filter_le _ _) ?_;rw[List.length_map,List.length_range];exact Nat.le_refl _
   have i:(((List.range (k+1)).map λn:Nat=>(n:Int)).filter λn=>ni x n)=(((List.range k).map λn:Nat=>(n:Int)).filter λn=>ni x n)++if ni x k then[(k:Int)]else[]:=by rw[List.range_succ,List.map_append,List.filter_append];simp[List.filter_cons]
   refine rn ?_;simp[c,d,e,Aw];have j:ni x k=(Hn (x.fdiv (2 ^ min k IntKind.u8.bits)) 1==1):=by simp[ni]
   rw[<-j];cases hb:ni x k
   . simp[c,d]
     refine⟨by omega,g _ g1 ⟨_,_,rfl,by simp[c,d],by simp,?_⟩⟩
     rw[i,hb];simpa using a
   . simp[c,d]
     refine aS lay rfl rfl rfl cK rfl cK rfl rl (by decide) (by simp only[List.length_map,List.length_cons,List.length_nil];omega) (σ0:=σ) (es:=(((List.range k).map λn:Nat=>(n:Int)).filter λn=>ni x n).map int) (xs:=[int k]) (by simpa using a) (.inr ⟨_,rfl⟩) λr l f=>?_
     refine rn ?_;simp[c,d];refine⟨by omega,g _ g1 ⟨_,_,rfl,by simp[c,d],by simp,?_⟩⟩
     rw[i,hb];simpa using f
 . have:k=6:=by omega
   subst this;refine rn ?_;simp[c,d];exact .iI a.W (.less a.1 (.done h))
def fY(a b:Int):Int:=if 0<a/\a<b then 3 else if a=b then 1 else 2
theorem wY{a b:Int}(h:KF (.val (int (fY a b))) σ):aB prog m 67 [int a,int b] σ KF:=by
 unfold fY at h;refine fs [] 2 Tryz.func67 rfl rfl (by rfl) (by kernel_rfl) ?_;simp[Tryz.f67];refine vv.intro (λd=>?_) (λd=>?_)<;>(try simp[-Int.not_lt,-Int.not_le,-Nat.not_lt,-Nat.not_le]at d)<;>(try simp[d]at h)<;>(try simp[d])<;>(try exact .done h)
 . refine aI.intro (λe=>?_) (λe=>?_)<;>(try simp[-Int.not_lt,-Int.not_le,-Nat.not_lt,-Nat.not_le]at e)<;>(try simp[e]at h)<;>(try simp[e])<;>(try exact .done h)
   . have:a≠b:=by omega
     refine aI.intro (λc=>?_) (λc=>?_)<;>(try simp[-Int.not_lt,-Int.not_le,-Nat.not_lt,-Nat.not_le]at c)<;>(try simp[c])
     . exact absurd c this
     . exact .done h
   . refine aI.intro (λc=>?_) (λc=>?_)<;>(try simp[-Int.not_lt,-Int.not_le,-Nat.not_lt,-Nat.not_le]at c)<;>(try simp[c]at h)<;>(try simp[c])<;>(try exact .done h)
 . refine aI.intro (λc=>?_) (λc=>?_)<;>(try simp[-Int.not_lt,-Int.not_le,-Nat.not_lt,-Nat.not_le]at c)<;>(try simp[c]at h)<;>(try simp[c])<;>(try exact .done h)
theorem zQ{l:List Int}(b:l≠[])(d:l.length<=1000000000)(h:∀a σ',bw σ σ' a 1 (l.map int)->KF (.val a) σ'):aB prog m 77 [ints l] σ KF:=by
 refine fs [] 1 Tryz.func77 rfl rfl (by rfl) (by kernel_rfl) ?_;simp[Tryz.f77];refine Cc lay rfl cK rfl rfl (.inr (.inl ⟨rfl,by simpa using b,rfl⟩)) (.inl ⟨rfl,rfl⟩) ?_;refine rn ?_;simp;refine eG lay rfl rfl rfl cK rfl cK rfl rl (by decide) (by simp;omega) (σ0:=σ) (es:=[]) (xs:=l.map int) (.empty σ 1) (.inl (.inr ⟨_,rfl⟩)) (by simp) λe σ' c=>?_
 refine rn ?_;simp;exact .done (h _ _ (by simpa using c))
def gE(lt:Int->Int->Bool)(x:Int):List Int->List Int
 |[]=>[x]
 |y::r=>if lt x y then y::gE lt x r else x::y::r
def dk(lt:Int->Int->Bool)(l:List Int):List Int:=l.foldl (λr x=>gE lt x r) []
theorem Eb(lt:Int->Int->Bool)(x:Int):∀r,(gE lt x r).length=r.length+1
 |[]=>rfl
 |y::r=>by unfold gE;split<;>simp[Eb lt x r]
theorem jR(lt:Int->Int->Bool)(l:List Int):(dk lt l).length=l.length:=by
 have key:∀(l r:List Int),(l.foldl (λr x=>gE lt x r) r).length=r.length+l.length:=by
  intro l;induction l with
  |nil=>intro r;rfl
  |cons a l b=>intro r;rw[List.foldl_cons,b,Eb];simp;omega
 rw[dk,key];simp
theorem Ec(lt:Int->Int->Bool)(x:Int):∀(r:List Int) (y:Int),y∈gE lt x r↔y=x\/y∈r
 |[],y=>by simp[gE]
 | z :: r,y=>by
   unfold gE;split
   . rw[List.mem_cons,Ec lt x r y,List.mem_cons]
     constructor
     . rintro(h|h|h)
       . exact .inr (.inl h)
       . exact .inl h
       . exact .inr (.inr h)
     . rintro(h|h|h)
       . exact .inr (.inl h)
       . exact .inl h
       . exact .inr (.inr h)
   . simp
theorem qk(lt:Int->Int->Bool)(l:List Int)(y:Int):y∈dk lt l↔y∈l:=by
 have key:∀(l r:List Int),y∈l.foldl (λr x=>gE lt x r) r↔y∈r\/y∈l:=by
  intro l;induction l with
  |nil=>intro r;simp
  | cons a l b=>
    intro r;rw[List.foldl_cons,b,Ec,List.mem_cons];constructor
    . rintro((h|h)|h)
      . exact .inr (.inl h)
      . exact .inl h
      . exact .inr (.inr h)
    . rintro(h|h|h)
      . exact .inl (.inr h)
      . exact .inl (.inl h)
      . exact .inr h
 rw[dk,key];simp
def Ed(m:Mo)(y:AV)(c:Int->Int->Int)(In:Int->Prop):Prop:=∀(a b:Int) (σ:aa) (KF:dV->aa->Prop),In a->In b->KF (.val (int (c a b))) σ->cN prog m y [int a,int b] σ KF
theorem R2{α:Type}{A B:List α}{x y:α}{n:Nat}(a:A.length=n):(A++y::x::B)[n]?=some y/\(A++y::x::B)[n+1]?=some x/\((A++y::x::B).set n x).set (n+1) y=A++x::y::B/\((A++y::x::B).set (n+1) y).set n x=A++x::y::B:=by
 subst a;refine⟨by simp,?_,?_,?_⟩
 . rw[List.getElem?_append_right (by omega)];simp
 . rw[List.set_append_right _ _ (by omega),List.set_append_right _ _ (by omega)];simp
 . rw[List.set_append_right _ _ (by omega),List.set_append_right _ _ (by omega)];simp
theorem FP{y:AV}{c:Int->Int->Int}{In:Int->Prop}{l:List Int}{b cap:Nat}{rest:List AV}(W:Ed m y c In)(K:∀x∈l,In x)(hl:l.length<=1000000)(hb:σ b=some (.cells (l.map int++rest)))
 (h:KF (.val (.bG [])) (σ.set b (.cells ((dk (λa b=>decide (c a b<0)) l).reverse.map int++rest)))):aB prog m 146 [.ew b 0 l.length cap,int 0,int l.length,y] σ KF:=by
 refine fs T0 4 Tryz.func146 rfl rfl (by rfl) (by kernel_rfl) ?_
 simp[Tryz.f146];obtain⟨lt,G⟩:∃lt,lt=λa b=>decide (c a b<0):=⟨_,rfl⟩
 rw[<-G]at h;refine ab.loop l.length (λi s=>∃env t,s=⟨env,t,[],.no⟩/\env 0=.ew b 0 l.length cap/\env 1=int 0/\env 2=int l.length/\env 3=y/\env 8=int ((i:Int)+1)/\t=σ.set b (.cells ((dk lt (l.take (i+1))).reverse.map int++((l.drop (i+1)).map int++rest)))) ⟨_,_,rfl,by simp,by simp,by simp,by simp,by simp,?_⟩ ?_
 . have e:(dk lt (l.take 1)).reverse.map int++((l.drop 1).map int++rest)=l.map int++rest:=by
    cases l with
    |nil=>simp[dk]
    |cons a l=>simp[dk,gE]
   rw[e]
   funext d
   by_cases q:d=b
   . subst q;rw[aa.ak,hb]
   . rw[aa.ag _ _ q]
 rintro c0 i _ hi ⟨env,t,rfl,g,j,o,p,r,u⟩ X
 rcases Nat.lt_or_ge (i+1) l.length with g1|g1
 . have Q:(i:Int)+1<l.length:=by omega
   obtain⟨S,O⟩:∃S,S=dk lt (l.take (i+1)):=⟨_,rfl⟩;have R:S.length=i+1:=by rw[O,jR,List.length_take];omega
   have T:∀x∈S,In x:=λx L=>K x (List.mem_of_mem_take ((qk lt _ x).1 (O ▸ L)))
   have H:dk lt (l.take (i+1+1))=gE lt l[i+1] S:=by rw[O,dk,List.take_succ_eq_append_getElem g1,List.foldl_append];rfl
   obtain⟨x,L⟩:∃x,x=l[i+1]:=⟨_,rfl⟩;have M:In x:=K x (by rw[L];exact List.getElem_mem g1)
   have U:l.drop (i+1)=x::l.drop (i+2):=by rw[L];exact List.drop_eq_getElem_cons g1
   rw[<-O,U]at u;rw[<-L]at H;refine rn ?_;simp[g,j,o,p,r,Q]
   refine ab.loop (i+1) (λk s=>∃env t D f,s=⟨env,t,[],.no⟩/\env 0=.ew b 0 l.length cap/\env 1=int 0/\env 2=int l.length/\env 3=y/\env 8=int ((i:Int)+1)/\env 9=int f.length/\S=D++f/\f.length+k=i+1/\gE lt x S=D++gE lt x f/\
    t=σ.set b (.cells ((f.reverse.map int)++int x::(D.reverse.map int++((l.drop (i+2)).map int++rest))))) ⟨_,_,[],S,rfl,by simp[g],by simp[j],by simp[o],by simp[p],by simp[r],by simp[R],rfl,by omega,rfl,by rw[u];simp⟩ ?_
   clear g j o p r u
   rintro c1 k _ hk ⟨env,t,D,f,rfl,g,j,o,p,r,v,E,hlen,C,u⟩ V
   cases f with
   | nil=>
     simp only[List.length_nil,Nat.zero_add]at hlen;simp only[List.append_nil]at E;subst E
     have w:t=σ.set b (.cells ((dk lt (l.take (i+1+1))).reverse.map int++((l.drop (i+1+1)).map int++rest))):=by rw[u,H,C];simp[gE]
     refine rn ?_;simp[g,j,o,p,r,v];refine⟨?_,?_⟩
     all_goals
      refine rn ?_;simp[g,j,o,p,r,v];refine⟨by omega,X _ (by omega) ⟨_,_,rfl,by simp[g,j,o,p,r,v],by simp[g,j,o,p,r,v],by simp[g,j,o,p,r,v],by simp[g,j,o,p,r,v],by simp,w⟩⟩
   | cons z f=>
     obtain⟨Y,Z,e3,e4⟩:=R2 (A:=f.reverse.map int) (B:=D.reverse.map int++((l.drop (i+2)).map int++rest)) (x:=int x) (y:=int z) (n:=f.length) (by simp)
     have F:t b=some (.cells (f.reverse.map int++int z::int x::(D.reverse.map int++((l.drop (i+2)).map int++rest)))):=by rw[u,aa.ak];simp
     have N:In z:=T z (by rw[E];simp)
     have f1:(0:Int)<(f.length:Int)+1:=by omega
     have f2:(f.length:Int)+1<l.length:=by simp at hlen;omega
     have f3:(f.length:Int)<l.length:=by omega
     have f4:(0:Int)<=(f.length:Int)+1:=by omega
     have f5:((f.length:Int)+1).toNat=f.length+1:=by omega
     have J:-9223372036854775808<=(f.length:Int)/\(f.length:Int)<=9223372036854775807:=by omega
     refine rn ?_;simp[g,j,o,p,r,v,f1,f2,f3,f4,f5,J.1,J.2,F,Y,Z];refine⟨W _ _ _ _ M N ?_,W _ _ _ _ M N ?_⟩
     all_goals
      refine pg ?_;simp[g,j,o,p,r,v];refine rn ?_;simp[g,j,o,p,r,v]
      by_cases P:c x z<0
      . have f7:f.length+1+1<=f.length+(D.length+(l.length-(i+2)+rest.length)+1+1):=by omega
        have f8:f.length+1<=f.length+(D.length+(l.length-(i+2)+rest.length)+1+1):=by omega
        have I:gE lt x (z::f)=z::gE lt x f:=by rw[G];simp[gE,P]
        simp[g,j,o,p,r,v,P,f5,J.1,J.2,f2,f3,f4,F,Y,Z,f7,f8];refine rn ?_;simp[g,j,o,p,r,v,J.1,J.2];refine V _ (by simp at hlen;omega) ⟨_,_,D++[z],f,rfl,by simp[g,j,o,p,r,v],by simp[g,j,o,p,r,v],by simp[g,j,o,p,r,v],by simp[g,j,o,p,r,v],by simp[g,j,o,p,r,v],by simp,by rw[E];simp,by simp at hlen;omega,by rw[C,I];simp,?_⟩
        rw[u];simp
      . have I:gE lt x (z::f)=x::z::f:=by rw[G];simp[gE,P]
        have w:t=σ.set b (.cells ((dk lt (l.take (i+1+1))).reverse.map int++((l.drop (i+1+1)).map int++rest))):=by rw[u,H,C,I];simp
        simp[g,j,o,p,r,v,P];exact⟨by omega,X _ (by omega) ⟨_,_,rfl,by simp[g,j,o,p,r,v],by simp[g,j,o,p,r,v],by simp[g,j,o,p,r,v],by simp[g,j,o,p,r,v],by simp,w⟩⟩
 . have w:(dk lt (l.take (i+1))).reverse.map int++((l.drop (i+1)).map int++rest)=(dk lt l).reverse.map int++rest:=by
    rw[List.take_of_length_le (by omega),List.drop_of_length_le (by omega)];simp
   rw[w]at u;have g2:¬(i:Int)+1<l.length:=by omega
   refine rn ?_;simp[g,j,o,p,r,g2];rw[u];exact .done h
theorem B0{y:AV}{c:Int->Int->Int}{In:Int->Prop}{l:List Int}{b cap:Nat}{rest:List AV}(q:Ed m y c In)(g:∀x∈l,In x)(w:l.length<20)(hb:σ b=some (.cells (l.map int++rest)))
 (h:KF (.val (.bG [])) (σ.set b (.cells ((dk (λa b=>decide (c a b<0)) l).reverse.map int++rest)))):aB prog m 138 [.ew b 0 l.length cap,int l.length,y] σ KF:=by
 refine fs [] 3 Tryz.func138 rfl rfl (by rfl) (by kernel_rfl) ?_;simp[Tryz.f138];have r:¬(20:Int)<=l.length:=by omega
 have t:¬(20:Int)<l.length:=by omega
 refine ab.loop 1 (λk s=>∃env,s=⟨env,σ,[],.no⟩/\env 0=.ew b 0 l.length cap/\env 1=int l.length/\env 2=y/\env 6=int 20/\env 7=int 0/\env 8=int 20) ⟨_,rfl,by simp⟩ ?_;rintro z k _ u ⟨env,rfl,i,e,j,f,n,o⟩ v;refine rn ?_;simp[i,e,j,f,n,o,r];refine cf Tryz.func146 rfl (FP q g (by omega) hb ?_);refine rn ?_;simp[i,e,j,f,n,o];refine ab.loop 1 (λk s=>∃env d,s=⟨env,d,[],.no⟩/\env 1=int l.length/\env 6=int 20/\d=σ.set b (.cells ((dk (λa b=>decide (c a b<0)) l).reverse.map int++rest))) ⟨_,_,rfl,by simp[e],by simp[f],by simp⟩ ?_;clear i e j f n o;rintro A k _ u ⟨env,d,rfl,e,f,p⟩ v;refine rn ?_;simp[e,f,t];rw[p];exact .done h
theorem tw{y:AV}{c:Int->Int->Int}{In:Int->Prop}{l:List Int}{b cap:Nat}{rest:List AV}(e:Ed m y c In)(d:∀x∈l,In x)(f:l.length<20)(hb:σ b=some (.cells (l.map int++rest)))
 (h:KF (.val (.bG [])) (σ.set b (.cells ((dk (λa b=>decide (c a b<0)) l).reverse.map int++rest)))):aB prog m 111 [.ew b 0 l.length cap,y] σ KF:=by
 refine fs [] 2 Tryz.func111 rfl rfl (by rfl) (by kernel_rfl) ?_;simp[Tryz.f111];refine cf Tryz.func138 rfl (B0 e d f hb ?_);refine rn ?_;simp;exact .done (by simpa using h)
theorem OZ{y:AV}{c:Int->Int->Int}{In:Int->Prop}{l:List Int}(r:Ed m y c In)(i:∀x∈l,In x)(s:l.length<20)(f:l≠[])(d:y.cells=[y]/\y.flat=true)(h:KF (.val (ints (dk (λa b=>decide (c a b<0)) l).reverse)) σ):aB prog m 88 [.agg [y],ints l] σ KF:=by
 refine fs [] 2 Tryz.func88 rfl rfl (by rfl) (by kernel_rfl) ?_;simp[Tryz.f88,d.1,d.2];refine cf Tryz.func77 rfl (zQ f (by omega) λa j k=>?_)
 obtain⟨b,cap,rest,rfl,n,o,v,p,q⟩:∃b cap rest,a=.ew b 0 (l.map int).length cap/\σ b=none/\(l.map int).length<=cap/\(∀e∈l.map int,e.cells.length=1)/\j b=some (.cells (flatten (l.map int)++rest))/\rest.length=(cap-(l.map int).length)*1:=by
  rcases k.2 with⟨e,_⟩|h
  . exact absurd (by simpa using e) f
  . exact h
 have g:∀l:List Int,flatten (l.map int)=l.map int:=λl=>by
  induction l with
  |nil=>rfl
  |cons a l t=>simp[flatten_cons,AV.cells,t]
 rw[g]at p;rw[List.length_map]at o q ⊢;refine rn ?_;simp[d.1,d.2];refine cf Tryz.func111 rfl (tw r i s p ?_);refine rn ?_;simp;refine bw.thaw (σ0:=σ) (kk:=1) (es:=(dk (λa b=>decide (c a b<0)) l).reverse.map int) ⟨aa.ia k.1 n,.inr ⟨b,cap,rest,?_,n,?_,λe u=>?_,?_,?_⟩⟩ h
 . simp[jR]
 . simpa[jR]using o
 . obtain⟨x,_,rfl⟩:=List.mem_map.1 u;rfl
 . rw[g];simp
 . simpa[jR]using q
def tF(f:Fr)(a b:Int):Int:=A8 (bp f a).hour (bp f b).hour
theorem O0{b mb:Nat}{f:Fr}{x y:Int}(d:0<=x/\x<f.aA.length)(e:0<=y/\y<f.aA.length)(h:KF (.val (int (tF f x y))) σ):aB prog m 86 [int x,int y,.cp (iu b mb f 0) 0] σ KF:=by
 have a:x.toNat<f.aA.length:=by omega
 have c:y.toNat<f.aA.length:=by omega
 have ex:bp f x=f.aA[x.toNat]:=by simp[bp,List.getD_eq_getElem?_getD,a]
 have g:bp f y=f.aA[y.toNat]:=by simp[bp,List.getD_eq_getElem?_getD,c]
 unfold tF at h;rw[ex,g]at h;refine fs VR 3 Tryz.func86 rfl rfl (by rfl) (by kernel_rfl) ?_;simp[Tryz.f86,a,c,d.1,e.1];refine cf Tryz.func87 rfl (FO ?_);refine pg ?_;simp;refine rn ?_;simp;exact .done h
theorem LW{b mb:Nat}{f:Fr}:Ed m (.fn (.func 86) [] [.cp (iu b mb f 0) 0]) (tF f) (λn=>0<=n/\n<f.aA.length):=λx y σ KF a c h=>by refine eL Tryz.func86 rfl rfl rfl (O0 a c h)
end Go.Proofs.YtigilmjkokbblaaGreatDoor
