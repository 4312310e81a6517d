import Derived.Test.YtldmpfccgajobaaGreatDoorC29
set_option linter.all false
namespace Go.Proofs.YtldmpfccgajobaaGreatDoor
open Tryz (prog)
open Go.aR Go.Conc
set_option maxHeartbeats 1000000
variable{m:Mo}{σ:aa}{KF:dF->aa->Prop}
theorem wj{f:Fr}(i:f.Fits)(h:KF (.val (int (check f))) σ):ar prog m 33 [az f] σ KF:=by
 unfold check at h;have z:=i.roads;have x:=i.ao;refine fs [] 1 Tryz.func33 rfl rfl (by rfl) (by kernel_rfl) ?_;simp[Tryz.f33];refine cf Tryz.func79 rfl (yf i.roads i.row ?_);refine rn ?_;simp;refine aE.intro (λn=>?_) (λn=>?_)<;>(try simp[-Int.not_lt,-Int.not_le,-Nat.not_lt,-Nat.not_le]at n)<;>(try simp[n]at h)<;>(try simp[n])<;>(try exact .done h);refine cf Tryz.func80 rfl (dZ ?_);refine rn ?_;simp;refine vp.intro (λo=>?_) (λo=>?_)<;>(try simp[-Int.not_lt,-Int.not_le,-Nat.not_lt,-Nat.not_le]at o)<;>(try simp[o]at h)<;>(try simp[o])<;>(try exact .done h);refine cf Tryz.func80 rfl (dZ ?_);refine rn ?_;simp;refine aE.intro (λp=>?_) (λp=>?_)<;>(try simp[-Int.not_lt,-Int.not_le,-Nat.not_lt,-Nat.not_le]at p)<;>(try simp[p]at h)<;>(try simp[p])<;>(try exact .done h)
 refine aE.intro (λq=>?_) (λq=>?_)<;>(try simp[-Int.not_lt,-Int.not_le,-Nat.not_lt,-Nat.not_le]at q)<;>(try simp[q]at h)<;>(try simp[q])<;>(try exact .done h);refine cf Tryz.func80 rfl (dZ ?_);refine rn ?_;simp;refine vp.intro (λr=>?_) (λr=>?_)<;>(try simp[-Int.not_lt,-Int.not_le,-Nat.not_lt,-Nat.not_le]at r)<;>(try simp[r]at h)<;>(try simp[r])<;>(try exact .done h);refine cf Tryz.func80 rfl (dZ ?_);refine rn ?_;simp;refine aE.intro (λt=>?_) (λt=>?_)<;>(try simp[-Int.not_lt,-Int.not_le,-Nat.not_lt,-Nat.not_le]at t)<;>(try simp[t]at h)<;>(try simp[t])<;>(try exact .done h);refine aE.intro (λu=>?_) (λu=>?_)<;>(try simp[-Int.not_lt,-Int.not_le,-Nat.not_lt,-Nat.not_le]at u)<;>(try simp[u]at h)<;>(try simp[u])<;>(try exact .done h)
 refine ab.loop f.ao.length (λk s=>∃env a,s=⟨env,a,[],.no⟩/\σ.Le a/\env 1=.cp (az f) 0/\env 47=ll f.ao/\env 48=int f.ao.length/\env 49=int k/\ew (bf f.roads.length) f.ao=ew (bf f.roads.length) (f.ao.drop k)) ⟨_,_,rfl,aa.le_refl _,by simp⟩ ?_;rintro A k _ B ⟨env,a,rfl,c,w,j,l,d,e⟩ y;refine rn ?_;simp[l,d];refine aE.intro (λg=>?_) (λg=>?_)<;>(try simp[-Int.not_lt,-Int.not_le,-Nat.not_lt,-Nat.not_le]at g)<;>(try simp[j,d,g])
 . rw[uV _ _ k g]at e
   refine bT.intro λb hb=>?_
   simp[w];refine cf Tryz.func81 rfl (nr ⟨by omega,by omega⟩ (i.marks _ (List.getElem_mem g)) ?_);refine rn ?_;simp;refine aE.intro (λv=>?_) (λv=>?_)<;>(try simp[-Int.not_lt,-Int.not_le,-Nat.not_lt,-Nat.not_le]at v)<;>(try simp[v]at e)<;>(try simp[d,v])<;>(try exact .done e)
   . rw[e]at h
     exact .less (aa.cX c hb) (.done h)
   . exact⟨by omega,y _ g ⟨_,_,rfl,aa.cX c hb,by simp[w],by simp[j],by simp[l],by simp,e⟩⟩
 . have:k=f.ao.length:=by omega
   subst this;simp[ew]at e;rw[e]at h;exact .less c (.done h)
structure sW(σ:aa)(b mb:Nat)(σ':aa):Prop where
 hb:σ b=none
 tk:σ mb=none
 ne:b≠mb
 eq:σ'=(σ.set mb (mapA .u8 [])).set b (.part (bP 6))
def Kk(f:Fr)(σ:aa):dF->aa->Prop:=λr a=>∃b mb,r=.val (.ref b 0)/\σ b=none/\σ mb=none/\b≠mb/\a=(σ.set mb (mapA .u8 [])).set b (.cells [ll f.ao,rows f.roads,int f.bE,int f.iQ,int f.dG,int f.most,.lit (.int .i32 0),.lit (.int .u32 0),.map mb])
theorem rk{f:Fr}(h:∀b mb σ',sW σ b mb σ'->KF (.val (iY b mb f 0)) σ'):ar prog m 86 [az f] σ KF:=by
 refine ar.share (KF0:=Kk f σ) ?_ ?_
 . refine ar.start lay [6] [] 1 Tryz.func86 rfl rfl (by rfl) (by kernel_rfl) ?_
   simp[Tryz.f86];refine DV .u8 rfl λmb tk=>?_
   refine ab.run lay [6] ?_;simp[aH];refine bT.intro λb hb=>?_
   obtain⟨d,k,hb⟩:=aa.aG hb;simp;exact .done ⟨b,mb,rfl,hb,tk,d,rfl⟩
 . rintro r σ' ⟨b,mb,rfl,hb,tk,c,rfl⟩
   refine .inr ⟨b,_,[6,7],bP 6,rfl,aa.an _ _ _,λi v a=>?_,λi=>?_,?_⟩
   . unfold bP at a
     split at a
     . next e=>subst e;cases a;rfl
     . split at a
       . next e=>subst e;cases a;rfl
       . cases a
   . unfold bP
     simp;constructor
     . intro h;split at h<;>simp_all
     . rintro⟨g,j⟩;simp[g,j]
   . exact h b mb _ ⟨hb,tk,c,by simp⟩
def aO(f:Fr)(l:List Int):Int:=if check f≠0 then check f else if l.all (bx · 0 (f.ao.length-1))then 0 else 3
theorem fI{f:Fr}{l:List Int}(o:f.Fits)(v:l.length<1152921504606846976)(n:aO f l≠0->KF (.val (.bk [.lit (.pointer none),int (aO f l)])) σ)
 (q:aO f l=0->∀b mb σ',sW σ b mb σ'->KF (.val (.bk [iY b mb f 0,int 0])) σ'):ar prog m 59 [az f,ints l] σ KF:=by
 have r:=o.ao;refine fs [] 2 Tryz.func59 rfl rfl (by rfl) (by kernel_rfl) ?_
 simp[Tryz.f59];refine cf Tryz.func33 rfl (wj o ?_);refine rn ?_;simp;refine aE.intro (λc=>?_) (λc=>?_)<;>simp at c<;>simp[c]
 . have:aO f l=check f:=by unfold aO;rw[if_pos c]
   rw[this]at n;exact .done (n c)
 refine ab.loop l.length (λk s=>∃env,s=⟨env,σ,[],.no⟩/\env 2=.cp (az f) 0/\env 14=ints l/\env 15=int l.length/\env 16=int k/\(l.take k).all (bx · 0 (f.ao.length-1))=true) ⟨_,rfl,by simp⟩ ?_
 rintro w k _ x ⟨env,rfl,p,h,i,d,a⟩ t
 refine rn ?_;simp[i,d];refine aE.intro (λg=>?_) (λg=>?_)<;>(try simp[-Int.not_lt,-Int.not_le,-Nat.not_lt,-Nat.not_le]at g)<;>(try simp[p,h,d,g])
 . refine⟨by omega,?_⟩
   refine cf Tryz.func80 rfl (dZ ?_);refine rn ?_;simp;refine aE.intro (λj=>?_) (λj=>?_)<;>(try simp[-Int.not_lt,-Int.not_le,-Nat.not_lt,-Nat.not_le]at j)<;>(try simp[d,j])
   . refine⟨by omega,t _ g ⟨_,rfl,by simp[p],by simp[h],by simp[i],by simp,?_⟩⟩
     rw[List.take_succ_eq_append_getElem g,List.all_append,a];simp[j]
   . have e:l.all (bx · 0 (f.ao.length-1))=false:=by
      rw[List.all_eq_false];exact⟨_,List.getElem_mem g,by simp[j]⟩
     have:aO f l=3:=by unfold aO;rw[if_neg (by simp[c]),e];rfl
     rw[this]at n;exact .done (n (by simp))
 . have:k=l.length:=by omega
   subst this;rw[List.take_length]at a;have:aO f l=0:=by unfold aO;rw[if_neg (by simp[c]),if_pos a]
   refine cf Tryz.func86 rfl (rk λb mb σ' u=>?_)
   refine rn ?_;simp;exact .done (q this b mb σ' u)
theorem Nj{b mb:Nat}{f:Fr}{l:List Int}(u:f.Fits)(z:l.length<1152921504606846976)(h:KF (.val (Tr (xm f l))) σ):ar prog m 120 [iY b mb f 0,ints l] σ KF:=by
 have v:=u.ao;unfold xm at h;refine fs [] 2 Tryz.func120 rfl rfl (by rfl) (by kernel_rfl) ?_;simp[Tryz.f120];refine aE.intro (λi=>?_) (λi=>?_)<;>simp at i<;>simp[i]
 . rw[if_pos (by simp[i])]at h
   exact .done h
 rw[if_neg (by simpa using i)]at h;refine ab.loop l.length (λk s=>∃env,s=⟨env,σ,[],.no⟩/\env 0=iY b mb f 0/\env 1=ints l/\env 12=ints l/\env 13=int l.length/\env 14=int k/\kq f none l=kq f (if k=0 then none else l[k-1]?) (l.drop k)) ⟨_,rfl,by simp⟩ ?_;rintro A k _ B ⟨env,rfl,p,q,e,g,c,a⟩ r;refine rn ?_;simp[g,c];refine aE.intro (λd=>?_) (λd=>?_)<;>(try simp[-Int.not_lt,-Int.not_le,-Nat.not_lt,-Nat.not_le]at d)<;>(try simp[p,e,c,d])
 . rw [Ez f _ k d]at a
   refine⟨by omega,?_⟩;refine cf Tryz.func80 rfl (dZ ?_);refine rn ?_;simp;refine aE.intro (λj=>?_) (λj=>?_)<;>(try simp[-Int.not_lt,-Int.not_le,-Nat.not_lt,-Nat.not_le]at j)<;>(try simp[j]at a)<;>(try simp[j])<;>(try exact .done a)
   . refine vp.intro (λn=>?_) (λn=>?_)<;>(try simp[-Int.not_lt,-Int.not_le,-Nat.not_lt,-Nat.not_le]at n)<;>(try simp[n]at a)<;>(try simp[q,c,n])<;>(try exact .done a)
     . have w:(k:Int)-1=((k-1:Nat):Int):=by omega
       have t:k-1<l.length:=by omega
       have x:¬k=0:=by omega
       simp[w,t];repeat refine⟨by omega,?_⟩
       try simp[t,x,pY]at a
       refine aE.intro (λo=>?_) (λo=>?_)<;>(try simp[-Int.not_lt,-Int.not_le,-Nat.not_lt,-Nat.not_le]at o)<;>(try simp[o]at a)<;>(try simp[c,o])<;>(try exact .done a)
       . rw[a]at h
         exact .done h
       . refine⟨by omega,r _ d ⟨_,rfl,by simp[p],by simp[q],by simp[e],by simp[g],by simp,?_⟩⟩
         simp[a,d]
     . have y:k=0:=by omega
       subst y;simp[pY]at a;refine⟨by omega,r _ d ⟨_,rfl,by simp[p],by simp[q],by simp[e],by simp[g],by simp,?_⟩⟩;simp[a,d]
   . rw[a]at h
     exact .done h
 . have:k=l.length:=by omega
   subst this;simp[kq]at a;rw[a]at h;exact .done h
theorem RA{a:AV}(h:KF (.val (bool false)) σ):ar prog m 119 [.lit .nilIface,a] σ KF:=by
 refine fs [] 2 Tryz.func119 rfl rfl (by rfl) (by kernel_rfl) ?_;simp[Tryz.f119];refine pM lay rfl Rh rfl (.inl ⟨rfl,rfl⟩) (.inl ⟨rfl,rfl⟩) ?_;refine rn ?_;simp;exact .done h
end Go.Proofs.YtldmpfccgajobaaGreatDoor
namespace Go.Proofs.YtldmpfccgajobaaGreatDoor
open Tryz (prog)
open Go.aR Go.Conc
set_option maxHeartbeats 1000000
set_option maxRecDepth 4000
variable{m:Mo}{σ:aa}{KF:dF->aa->Prop}
theorem qX(first:List Int)(others:List (List Int))(k:Nat)(h:k<first.length):dm (first.take (k+1)) others=dm (first.take k) others++if others.all (λl=>decide (first[k]∈l))then[first[k]]else[]:=by unfold dm;rw[List.take_succ_eq_append_getElem h,List.filter_append];simp only[List.filter_cons,List.filter_nil]
theorem Ba(first:List Int)(others:List (List Int)):(dm first others).length<=first.length:=List.length_filter_le _ _
theorem yF{first:List Int}{others:List (List Int)}{sp g:bX}(B:first.length<=1000000000)(C:others.length<1152921504606846976)(i:∀l∈others,l.length<1152921504606846976)(h:KF (.val (ints (dm first others))) σ):ar prog m 103 [.sl 1 (first.map int) sp,.sl 1 (others.map ints) g] σ KF:=by
 refine fs [] 2 Tryz.func103 rfl rfl (by rfl) (by kernel_rfl) ?_
 simp[Tryz.f103];refine ab.loop first.length (λk s=>∃env e,s=⟨env,e,[],.no⟩/\env 0=.sl 1 (first.map int) sp/\env 1=.sl 1 (others.map ints) g/\env 10=.sl 1 (first.map int) sp/\env 11=int first.length/\env 12=int k/\Tok σ e (env 5) 1 ((dm (first.take k) others).map int)) ⟨_,_,rfl,by simp,by simp,by simp,by simp,by simp,.nil σ 1⟩ ?_
 rintro D k _ E ⟨env,e,rfl,r,n,c,d,b,a⟩ y
 refine rn ?_;simp[d,b];have hlen:=Ba (first.take k) others
 rw[List.length_take]at hlen;refine aE.intro (λo=>?_) (λo=>?_)<;>(try simp[-Int.not_lt,-Int.not_le,-Nat.not_lt,-Nat.not_le]at o)<;>(try simp[n,c,b,o])
 . refine ab.loop others.length (λj s=>∃env,s=⟨env,e,[],.no⟩/\env 0=.sl 1 (first.map int) sp/\env 1=.sl 1 (others.map ints) g/\env 10=.sl 1 (first.map int) sp/\env 11=int first.length/\env 12=int k/\Tok σ e (env 5) 1 ((dm (first.take k) others).map int)/\env 7=int first[k]/\env 16=.sl 1 (others.map ints) g/\env 17=int others.length/\env 18=int j/\∀l∈others.take j,first[k]∈l) ⟨_,rfl,by simp[r,n,c,d,b,a]⟩ ?_
   clear r n c d b a
   rintro F j _ G ⟨env,rfl,r,n,c,d,b,a,z,t,u,p,f⟩ w
   refine rn ?_;simp[u,p];refine aE.intro (λq=>?_) (λq=>?_)<;>(try simp[-Int.not_lt,-Int.not_le,-Nat.not_lt,-Nat.not_le]at q)<;>(try simp[z,t,p,q])
   . refine cf Tryz.func124 rfl (kQ (i _ (List.getElem_mem q)) ?_)
     refine rn ?_;simp;refine aE.intro (λv=>?_) (λv=>?_)<;>(try simp[-Int.not_lt,-Int.not_le,-Nat.not_lt,-Nat.not_le]at v)<;>(try simp[b,p,v])
     . refine⟨by omega,w _ q ⟨_,rfl,by simp[r],by simp[n],by simp[c],by simp[d],by simp[b],by simpa using a,by simp[z],by simp[t],by simp[u],by simp,λl i=>?_⟩⟩
       rw[List.take_succ_eq_append_getElem q,List.mem_append,List.mem_singleton]at i
       rcases i with i|rfl
       . exact f l i
       . exact v
     . refine⟨by omega,y _ o ⟨_,_,rfl,by simp[r],by simp[n],by simp[c],by simp[d],by simp,?_⟩⟩
       have:others.all (λl=>decide (first[k]∈l))=false:=by rw[List.all_eq_false];exact⟨_,List.getElem_mem q,by simp[v]⟩
       rw[qX _ _ _ o,this];simpa using a
   . have:j=others.length:=by omega
     subst this;rw[List.take_length]at f;refine aF lay rfl rfl rfl bC rfl bC rfl oo (by decide) (by simp;omega) (σ0:=σ) (es:=(dm (first.take k) others).map int) (xs:=[int first[k]]) (by simpa using a) (.inr ⟨_,rfl⟩) λH A x=>?_
     refine rn ?_;simp[b];refine⟨by omega,y _ o ⟨_,_,rfl,by simp[r],by simp[n],by simp[c],by simp[d],by simp,?_⟩⟩
     have:others.all (λl=>decide (first[k]∈l))=true:=by rw[List.all_eq_true];exact λl i=>by simpa using f l i
     rw[qX _ _ _ o,this];simpa using x
 . have:k=first.length:=by omega
   subst this;rw[List.take_length]at a;exact .eG a.W (.less a.1 (.done h))
structure Fr.Good(f:Fr):Prop where
 fits:f.Fits
 fr:0<=f.bE/\f.bE<=3
 to:0<=f.iQ/\f.iQ<=3
 le:f.bE<=f.iQ
 dG:1<=f.dG/\f.dG<=6
 most:1<=f.most/\f.most<=6
 oA:f.ao.length<=6
 uB:∀e∈f.ao,bf f.roads.length e=0
 Io:fe f.roads=0
theorem qY(g:gq->Int):∀{l:List gq},ew g l=0->∀e∈l,g e=0
 |[],_,e,he=>by simp at he
 | a ::l,h,e,he=>by
   unfold ew at h;split at h
   . next b=>
     rcases List.mem_cons.1 he with rfl|he
     . exact b
     . exact qY g h e he
   . next b=>exact absurd h b
theorem Fr.eh{f:Fr}(c:f.Fits)(h:check f=0):f.Good:=by
 unfold check at h;split at h
 . next q=>exact absurd h q
 next d=>
 split at h
 . cases h
 next a=>
 split at h
 . cases h
 next e=>
 split at h
 . cases h
 next b=>
 split at h
 . cases h
 next g=>
 simp only[Bool.not_eq_false,Bool.and_eq_true]at a b;exact⟨c,iU a.1,iU a.2,by omega,iU b.1,iU b.2,by omega,qY _ h,by simpa using d⟩
theorem lu{p:Int}{e:gq}(h:bf p e=0):(0<=e.hour/\e.hour<=72)/\(0<=e.place/\e.place<=p-1)/\(0<=e.bG/\e.bG<=5)/\(0<=e.aQ/\e.aQ<=30)/\(0<=e.fT/\e.fT<=2)/\ma none e.marks=0:=by
 unfold bf at h;split at h
 . cases h
 next a=>
 split at h
 . cases h
 next b=>
 split at h
 . cases h
 next c=>
 split at h
 . next q=>exact absurd h q
 next g=>
 split at h
 . cases h
 next d=>
 split at h
 . cases h
 next f=>
 simp only[Bool.not_eq_false]at a b c d f;exact⟨iU a,iU b,iU c,iU d,iU f,by simpa using g⟩
theorem zy{f:Fr}(a:f.Good)(e:gq):(gz f e).length<=4:=by
 unfold gz;have:=a.fr;have:=a.to;split
 . rw[List.length_map,List.length_range];omega
 . simp
theorem zz{f:Fr}(a:f.Good)(e:gq):(bL f e).length<=5:=by
 unfold bL;have:=zy a e;split
 . rw[List.length_append];simp;omega
 . omega
theorem CY{f:Fr}{e:gq}(h:e.fT≠0):gz f e=(List.range (f.iQ-f.bE+1).toNat).map λi:Nat=>e.aQ-f.iQ+(i:Int):=if_pos h
theorem xr{b mb:Nat}{f:Fr}{l:List Int}(H:f.Good)(O:l≠[])(hl:l.length<=1000000)(hb:∀n∈l,0<=n/\n<f.ao.length)(h:KF (.val (ints (eP f l))) σ):ar prog m 73 [iY b mb f 0,ints l] σ KF:=by
 have h6:=H.oA;have av:=H.fr;have ax:=H.to;have ay:=H.le;refine fs Tj 2 Tryz.func73 rfl rfl (by rfl) (by kernel_rfl) ?_
 simp[Tryz.f73];refine ab.loop l.length (λk s=>∃env A,s=⟨env,A,[],.no⟩/\env 0=iY b mb f 0/\env 11=ints l/\env 12=int l.length/\env 13=int k/\Tok σ A (env 5) 1 ((l.take k).map λn=>ints (bL f (be f n)))) ⟨_,_,rfl,by simp,by simp,by simp,by simp,.nil σ 1⟩ ?_
 rintro c0 k _ hk ⟨env,A,rfl,C,p,g,o,d⟩ T
 rcases Nat.lt_or_ge k l.length with g1|g1
 . obtain ⟨L,n1⟩:=hb _ (List.getElem_mem g1)
   have n2:l[k].toNat<f.ao.length:=by omega
   obtain⟨e,he⟩:∃e,e=f.ao[l[k].toNat]:=⟨_,rfl⟩;have a7:be f l[k]=e:=by simp[be,List.getD_eq_getElem?_getD,n2,he]
   have b0:=lu (H.uB e (by rw[he];exact List.getElem_mem n2))
   have t:(l.take (k+1)).map (λn=>ints (bL f (be f n)))=(l.take k).map (λn=>ints (bL f (be f n)))++[ints (bL f e)]:=by rw[List.take_succ_eq_append_getElem g1,List.map_append];simp[a7]
   refine rn ?_;simp[C,p,g,o,g1,L,n2,<-he];refine bT.intro λc U=>?_
   simp
   have a8:σ c=none:=by
    cases q:σ c with
    |none=>rfl
    |some x=>rw[d.1 c x q]at U;cases U
   have B:Tok σ (A.set c (.cells [int e.hour,int e.place,int e.bG,ints e.marks,int e.aQ,int e.fT])) (env 5) 1 ((l.take k).map λn=>ints (bL f (be f n))):=d.beside a8 (λq=>by obtain⟨_,x,hx⟩:=d.aY q;rw[hx]at U;cases U)
   have G:(A.set c (.cells [int e.hour,int e.place,int e.bG,ints e.marks,int e.aQ,int e.fT])) c=some (.cells [int e.hour,int e.place,int e.bG,ints e.marks,int e.aQ,int e.fT]):=aa.an _ _ _;generalize A.set c (.cells [int e.hour,int e.place,int e.bG,ints e.marks,int e.aQ,int e.fT])=D at B G;refine aE.intro (λM=>?_) (λM=>?_)<;>simp at M<;>simp[M]
   . have f1:-9223372036854775808<=f.iQ-f.bE/\f.iQ-f.bE<=9223372036854775807:=by omega
     have f2:-9223372036854775808<=f.iQ-f.bE+1/\f.iQ-f.bE+1<=9223372036854775807:=by omega
     simp[C,f1.1,f1.2,f2.1,f2.2];refine rn ?_;simp;obtain⟨a5,I⟩:∃a,a=env 5:=⟨_,rfl⟩;rw[<-I]at B;obtain⟨cnt,P⟩:∃cnt:Nat,(cnt:Int)=f.iQ-f.bE+1:=⟨(f.iQ-f.bE+1).toNat,by omega⟩
     have b1:cnt<=4:=by omega
     have a9:gz f e=(List.range cnt).map λi:Nat=>e.aQ-f.iQ+(i:Int):=by rw[CY M];congr 2;omega
     refine ab.loop cnt (λj s=>∃env J,s=⟨env,J,[],.no⟩/\env 0=iY b mb f 0/\env 11=ints l/\env 12=int l.length/\env 13=int k/\env 5=a5/\env 8=.ref c 0/\env 41=int cnt/\env 42=int j/\Tok D J (env 9) 1 (((List.range j).map λi:Nat=>e.aQ-f.iQ+(i:Int)).map int)) ⟨_,_,rfl,by simp[C,p,g,o,<-I,P,Tok.nil]⟩ ?_
     clear C p g o d I
     rintro c1 j _ hj ⟨env,J,rfl,C,p,g,o,V,N,E,F,u⟩ ad
     have v:=u.1 _ _ G
     rcases Nat.lt_or_ge j cnt with g3|g3
     . have f3:-9223372036854775808<=e.aQ-f.iQ/\e.aQ-f.iQ<=9223372036854775807:=by omega
       have f4:-9223372036854775808<=e.aQ-f.iQ+j/\e.aQ-f.iQ+j<=9223372036854775807:=by omega
       refine rn ?_;simp[C,N,E,F,g3,v,f3.1,f3.2,f4.1,f4.2];refine aF lay rfl rfl rfl bC rfl bC rfl oo (by decide) (by simp only[List.length_map,List.length_range,List.length_cons,List.length_nil];omega) (σ0:=D) (es:=((List.range j).map λi:Nat=>e.aQ-f.iQ+(i:Int)).map int) (xs:=[int (e.aQ-f.iQ+j)]) (by simpa using u) (.inr ⟨_,rfl⟩) λa' Q w=>?_
       refine pg ?_;simp;refine rn ?_;simp[F];refine⟨by omega,ad _ g3 ⟨_,_,rfl,by simp[C],by simp[p],by simp[g],by simp[o],by simp[V],by simp[N],by simp[E],by simp,?_⟩⟩
       rw[List.range_succ,List.map_append,List.map_append];simpa using w
     . have:j=cnt:=by omega
       subst this;rw[<-a9]at u;have b2:=zy H e;have X:Wl [env 9,int e.aQ] [ints (gz f e),int e.aQ]:=.cons u.W (.cons (.refl _) .nil)
       by_cases Y:e.fT=1
       . refine ab.yD 9 u.W ?_
         have y:bL f e=gz f e:=if_neg λq=>q.1 Y
         refine rn ?_;simp[V,N,E,F,v,Y];refine aF lay rfl rfl rfl kX rfl kX rfl bC (by decide) (by simp;omega) (σ0:=σ) (es:=(l.take k).map λn=>ints (bL f (be f n))) (xs:=[ints (bL f e)]) (by simpa using B.up u.1) (.inr ⟨_,by rw[y];simp;rfl⟩) λa4 K z=>?_
         refine rn ?_;simp[o];refine⟨by omega,T _ g1 ⟨_,_,rfl,by simp[C],by simp[p],by simp[g],by simp,?_⟩⟩
         rw[t];simpa using z
       . have R:(e.fT !=1)=true:=by simp[Y]
         by_cases Z:e.aQ∈gz f e
         . have y:bL f e=gz f e:=if_neg λq=>q.2 Z
           refine rn ?_;simp[N,E,F,v,R];refine aT Tryz.func124 rfl rfl X (kQ (by omega) ?_)
           refine ab.yD 9 (a':=ints (gz f e)) (by simpa using u.W) ?_
           refine rn ?_;simp[V,Z];refine aF lay rfl rfl rfl kX rfl kX rfl bC (by decide) (by simp;omega) (σ0:=σ) (es:=(l.take k).map λn=>ints (bL f (be f n))) (xs:=[ints (bL f e)]) (by simpa using B.up u.1) (.inr ⟨_,by rw[y];simp;rfl⟩) λa4 K z=>?_
           refine rn ?_;simp[o];refine⟨by omega,T _ g1 ⟨_,_,rfl,by simp[C],by simp[p],by simp[g],by simp,?_⟩⟩
           rw[t];simpa using z
         . have y:bL f e=gz f e++[e.aQ]:=if_pos ⟨Y,Z⟩
           refine rn ?_;simp[N,E,F,v,R];refine aT Tryz.func124 rfl rfl X (kQ (by omega) ?_)
           refine rn ?_;simp[N,Z,v];refine aF lay rfl rfl rfl bC rfl bC rfl oo (by decide) (by simp;omega) (σ0:=D) (es:=(gz f e).map int) (xs:=[int e.aQ]) (by simpa using u) (.inr ⟨_,rfl⟩) λa' Q w=>?_
           refine ab.yD 74 (a':=AV.sl 1 ((gz f e).map int++[int e.aQ]) .any) (by simpa using w.W) ?_
           refine rn ?_;simp[V];refine aF lay rfl rfl rfl kX rfl kX rfl bC (by decide) (by simp;omega) (σ0:=σ) (es:=(l.take k).map λn=>ints (bL f (be f n))) (xs:=[ints (bL f e)]) (by simpa using B.up w.1) (.inr ⟨_,by rw[y];simp;rfl⟩) λa4 K z=>?_
           refine rn ?_;simp[o];refine⟨by omega,T _ g1 ⟨_,_,rfl,by simp[C],by simp[p],by simp[g],by simp,?_⟩⟩
           rw[t];simpa using z
   . have y:bL f e=[e.aQ]:=by
      simp[bL,gz,M]
     simp[G,M];have X:Wl [AV.lit (.slice none 0 0),int e.aQ] [ints [],int e.aQ]:=.cons (cV 1) (.cons (.refl _) .nil);refine aT Tryz.func124 rfl rfl X (kQ (by simp) ?_)
     refine rn ?_;simp[G];refine aF lay rfl rfl rfl bC rfl bC rfl oo (by decide) (by simp) (σ0:=D) (es:=[]) (xs:=[int e.aQ]) (by simpa using Tok.nil D 1) (.inr ⟨_,rfl⟩) λa' Q w=>?_
     refine ab.yD 74 (a':=AV.sl 1 [int e.aQ] .any) (by simpa using w.W) ?_
     refine rn ?_;simp;refine aF lay rfl rfl rfl kX rfl kX rfl bC (by decide) (by simp;omega) (σ0:=σ) (es:=(l.take k).map λn=>ints (bL f (be f n))) (xs:=[ints (bL f e)]) (by simpa using B.up w.1) (.inr ⟨_,by rw[y];simp;rfl⟩) λa4 K z=>?_
     refine rn ?_;simp[o];refine⟨by omega,T _ g1 ⟨_,_,rfl,by simp[C],by simp[p],by simp[g],by simp,?_⟩⟩
     rw[t];simpa using z
 . have:k=l.length:=by omega
   subst this;rw[List.take_length]at d;refine ab.yD 5 d.W ?_;have S:0<l.length:=List.length_pos_iff.2 O;refine rn ?_;simp[g,o,S];refine rh lay rfl kX rfl bC (es:=l.map λn=>ints (bL f (be f n))) (sp:=.any) (l:=1) (h:=l.length) ?_ (λcap al=>⟨rfl,⟨rfl,by simp⟩,⟨_,rfl⟩,by first|omega|(simp;omega)⟩) (by simp) ?_
   . simp
   obtain⟨L,r,rfl⟩:∃L r,l=L::r:=by
    cases l with
    |nil=>exact absurd rfl O
    |cons a r=>exact⟨a,r,rfl⟩
   refine pg ?_;simp
   have e:List.take r.length (List.map (λn=>ints (bL f (be f n))) r)=(r.map λn=>bL f (be f n)).map ints:=by
    rw[List.take_of_length_le (by simp)]
    simp
   rw[e];have hlen:=zz H (be f L);refine cf Tryz.func103 rfl (yF (first:=bL f (be f L)) (others:=r.map λn=>bL f (be f n)) (by omega) (by simp at hl ⊢;omega) (λx hx=>?_) ?_)
   . obtain⟨n,_,rfl⟩:=List.mem_map.1 hx
     have:=zz H (be f n);omega
   refine pg ?_;simp;refine rn ?_;simp;refine .less d.1 (.done ?_);simpa[eP]using h
theorem mQ{f:Fr}(h:check f=0):aO f []=0:=by unfold aO;rw[if_neg (by simp[h])];rfl
theorem l8{f:Fr}{l:List Int}(h:check f=0)(a:∀n∈l,0<=n/\n<f.ao.length):aO f l=0:=by
 unfold aO;rw[if_neg (by simp[h]),if_pos];rw[List.all_eq_true];intro n b;have:=a n b;simp[bx];omega
theorem sW.le{σ σ':aa}{b mb:Nat}(h:sW σ b mb σ'):σ.Le σ':=by rw[h.eq];exact aa.cX (aa.cX (aa.le_refl _) h.tk) (by rw[aa.ag _ _ h.ne];exact h.hb)
structure O4(f:Fr)(l:List Int):Prop where
 ok:xm f l=0
 len:l.length<=1000000
theorem F0(f:Fr):∀{l:List Int}{p:Option Int},kq f p l=0->∀n∈l,0<=n/\n<f.ao.length
 |[],_,_,n,hn=>by simp at hn
 | a::l,p,h,n,hn=>by
   unfold kq at h;split at h
   . cases h
   next b=>
   split at h
   . cases h
   next c=>
   rcases List.mem_cons.1 hn with rfl|hn
   . simp[bx]at b;omega
   . exact F0 f h n hn
theorem O4.mem{f:Fr}{l:List Int}(h:O4 f l):∀n∈l,0<=n/\n<f.ao.length:=by
 have:=h.ok;unfold xm at this;split at this
 . cases this
 . exact F0 f this
theorem O4.ne{f:Fr}{l:List Int}(h:O4 f l):l≠[]:=λe=>by have:=h.ok;subst e;simp[xm]at this
theorem zB{f:Fr}{l:List Int}(e:f.Fits)(i:check f=0)(g:O4 f l)(h:∀b mb σ',sW σ b mb σ'->KF (.val (.bk [iY b mb f 0,int 0])) σ'):ar prog m 69 [az f,ints l] σ KF:=by
 have j:=g.len;refine fs Th 2 Tryz.func69 rfl rfl (by rfl) (by kernel_rfl) ?_;simp[Tryz.f69];have a:=mQ i;have k:Wl [AV.agg (bS f),AV.lit (.slice none 0 0)] [az f,ints []]:=.cons (.refl _) (.cons (cV 1) .nil);refine aT Tryz.func59 rfl rfl k (fI e (by simp) (λq=>absurd a q) λ_ b mb σ' n=>?_);refine rn ?_;simp;refine bT.intro λc d=>?_
 simp;refine cf Tryz.func120 rfl (Nj e (by omega) ?_);rw[g.ok];refine rn ?_;simp;refine cf Tryz.func119 rfl (RA ?_);refine rn ?_;simp;exact .less (aa.cX (aa.le_refl _) d) (.done (h b mb σ' n))
theorem EB{f:Fr}{l:List Int}(c:f.Fits)(d:check f=0)(a:O4 f l)(h:KF (.val (.bk [ints (eP f l),int 0])) σ):ar prog m 28 [az f,ints l] σ KF:=by
 refine fs [] 2 Tryz.func28 rfl rfl (by rfl) (by kernel_rfl) ?_;simp[Tryz.f28];refine cf Tryz.func69 rfl (zB c d a λb mb e g=>?_);refine rn ?_;simp;refine cf Tryz.func73 rfl (xr (Fr.eh c d) a.ne a.len a.mem ?_);refine rn ?_;simp;exact .less g.le (.done h)
theorem Bb{a n:Int}(b:0<=n)(h:KF (.val (u8 (bH a n))) σ):ar prog m 208 [u8 a,int n] σ KF:=by
 refine fs [] 2 Tryz.func208 rfl rfl (by rfl) (by kernel_rfl) ?_;simp[Tryz.f208];refine⟨b,?_⟩;simp[CV];exact .done h
theorem oX{l:List Int}(o:l.length<1152921504606846976)(f:∀n∈l,0<=n)(h:KF (.val (u8 (bd l))) σ):ar prog m 206 [ints l] σ KF:=by
 refine fs [] 1 Tryz.func206 rfl rfl (by rfl) (by kernel_rfl) ?_;simp[Tryz.f206];refine ab.loop l.length (λk s=>∃env,s=⟨env,σ,[],.no⟩/\env 3=u8 (bd (l.take k))/\env 4=.fn (.func 208) [u8 (bd (l.take k))] []/\env 9=ints l/\env 10=int l.length/\env 11=int k) ⟨_,rfl,by simp[bd]⟩ ?_;rintro p k _ q ⟨env,rfl,g,i,d,c,a⟩ j;refine rn ?_;simp[c,a];refine aE.intro (λb=>?_) (λb=>?_)<;>(try simp[-Int.not_lt,-Int.not_le,-Nat.not_lt,-Nat.not_le]at b)<;>(try simp[g,i,d,a,b])
 . have e:bd (l.take (k+1))=bH (bd (l.take k)) l[k]:=by
    unfold bd;rw[List.take_succ_eq_append_getElem b,List.foldl_append];rfl
   refine eY Tryz.func208 rfl rfl rfl (Bb (f _ (List.getElem_mem b)) ?_);rw[<-e];refine rn ?_;simp[a];exact⟨by omega,j _ b ⟨_,rfl,by simp,by simp,by simp[d],by simp[c],by simp⟩⟩
 . have:k=l.length:=by omega
   subst this;rw[List.take_length];exact .done h
def Bc(x:Int):Int:=FZ x (Od x 1)
def sX:Nat->Int->Int
 |0,x=>x
 |n+1,x=>Bc (sX n x)
def Ho:Nat->Int->Int
 |0,_=>0
 |n+1,x=>if x=0 then 0 else 1+Ho n (Bc x)
def bc(a b:Int):Int:=Ho 8 (xp a b)
theorem xu{a b:Int}(g:sX 8 (xp a b)=0)(h:KF (.val (int (bc a b))) σ):ar prog m 207 [u8 a,u8 b] σ KF:=by
 refine fs [] 2 Tryz.func207 rfl rfl (by rfl) (by kernel_rfl) ?_
 simp[Tryz.f207,Hm];refine ab.loop 8 (λk s=>∃env,s=⟨env,σ,[],.no⟩/\env 5=int k/\env 6=u8 (sX k (xp a b))/\bc a b=k+Ho (8-k) (sX k (xp a b))) ⟨_,rfl,by simp,by simp;rfl,by simp[sX,bc]⟩ ?_
 rintro n k _ o ⟨env,rfl,i,f,d⟩ j
 refine rn ?_;simp[f];refine aE.intro (λc=>?_) (λc=>?_)<;>(try simp[-Int.not_lt,-Int.not_le,-Nat.not_lt,-Nat.not_le]at c)<;>(try simp[i,f,c])
 . have l:k<8:=by
    rcases Nat.lt_or_ge k 8 with q|q
    . exact q
    . have:k=8:=by omega
      subst this;exact absurd g c
   refine⟨by omega,?_⟩
   simp[zx,Hn];refine j _ l ⟨_,rfl,by simp,by simp[sX,Bc],?_⟩
   have e:8-k=(8-(k+1))+1:=by omega
   rw[e,Ho,if_neg c]at d;rw[d];simp only[sX];omega
 . rw[c]at d
   have e:Ho (8-k) 0=0:=by cases 8-k<;>simp[Ho]
   rw[e]at d;rw[d]at h;exact .done (by simpa using h)
abbrev xv(x:Int):AV:=.agg [u8 x]
theorem Nk{x n:Int}(a:0<=n)(h:KF (.val (xv (bH x n))) σ):ar prog m 115 [xv x,int n] σ KF:=by
 refine ar.start lay [2] Rr 2 Tryz.func115 rfl rfl (by rfl) (by kernel_rfl) ?_;simp[Tryz.f115];refine bT.intro λc f=>?_
 simp;refine bT.intro λd hd=>?_
 obtain⟨b,e,hd⟩:=aa.aG hd;simp[e,aa.ag,CV,a];refine ab.run lay [2] ?_;simp[b,aa.ag];exact .less (by repeat (first|exact aa.le_refl _|assumption|refine aa.iz ?_ (by assumption)|refine aa.jZ ?_ (by assumption))) (.done h)
theorem Kl{x:Int}(h:KF (.val (ints (cD x))) σ):ar prog m 150 [xv x] σ KF:=by
 refine fs [] 1 Tryz.func150 rfl rfl (by rfl) (by kernel_rfl) ?_
 simp[Tryz.f150];refine ab.loop 6 (λk s=>∃env b,s=⟨env,b,[],.no⟩/\env 1=.cp (xv x) 0/\env 5=int k/\Tok σ b (env 3) 1 ((((List.range k).map λn:Nat=>(n:Int)).filter λn=>nE x n).map int)) ⟨_,_,rfl,by simp,by simp,.nil σ 1⟩ ?_
 rintro o k _ p ⟨env,b,rfl,d,c,a⟩ g
 rcases Nat.lt_or_ge k 6 with g1|g1
 . have e:(k:Int)<6:=by omega
   have q:(((List.range k).map λn:Nat=>(n:Int)).filter λn=>nE x n).length<=k:=by refine Nat.le_trans (List.length_filter_le _ _) ?_;rw[List.length_map,List.length_range];exact Nat.le_refl _
   have i:(((List.range (k+1)).map λn:Nat=>(n:Int)).filter λn=>nE x n)=(((List.range k).map λn:Nat=>(n:Int)).filter λn=>nE x n)++if nE x k then[(k:Int)]else[]:=by rw[List.range_succ,List.map_append,List.filter_append];simp[List.filter_cons]
   refine rn ?_;simp[d,c,e,zx];have j:nE x k=(FZ (x.fdiv (2 ^ min k IntKind.u8.bits)) 1==1):=by simp[nE]
   rw[<-j];cases hb:nE x k
   . simp[c]
     refine⟨by omega,g _ g1 ⟨_,_,rfl,by simp[d],by simp,?_⟩⟩
     rw[i,hb];simpa using a
   . simp
     refine aF lay rfl rfl rfl bC rfl bC rfl oo (by decide) (by simp only[List.length_map,List.length_cons,List.length_nil];omega) (σ0:=σ) (es:=(((List.range k).map λn:Nat=>(n:Int)).filter λn=>nE x n).map int) (xs:=[int k]) (by simpa using a) (.inr ⟨_,rfl⟩) λr l f=>?_
     refine rn ?_;simp[c];refine⟨by omega,g _ g1 ⟨_,_,rfl,by simp[d],by simp,?_⟩⟩
     rw[i,hb];simpa using f
 . have:k=6:=by omega
   subst this;refine rn ?_;simp[c];exact .eG a.W (.less a.1 (.done h))
def eN(a b:Int):Int:=if 0<a/\a<b then 3 else if a=b then 1 else 2
theorem vW{a b:Int}(h:KF (.val (int (eN a b))) σ):ar prog m 100 [int a,int b] σ KF:=by
 unfold eN at h;refine fs [] 2 Tryz.func100 rfl rfl (by rfl) (by kernel_rfl) ?_;simp[Tryz.f100];refine vp.intro (λd=>?_) (λd=>?_)<;>(try simp[-Int.not_lt,-Int.not_le,-Nat.not_lt,-Nat.not_le]at d)<;>(try simp[d]at h)<;>(try simp[d])<;>(try exact .done h)
 . refine aE.intro (λe=>?_) (λe=>?_)<;>(try simp[-Int.not_lt,-Int.not_le,-Nat.not_lt,-Nat.not_le]at e)<;>(try simp[e]at h)<;>(try simp[e])<;>(try exact .done h)
   . have:a≠b:=by omega
     refine aE.intro (λc=>?_) (λc=>?_)<;>(try simp[-Int.not_lt,-Int.not_le,-Nat.not_lt,-Nat.not_le]at c)<;>(try simp[c])
     . exact absurd c this
     . exact .done h
   . refine aE.intro (λc=>?_) (λc=>?_)<;>(try simp[-Int.not_lt,-Int.not_le,-Nat.not_lt,-Nat.not_le]at c)<;>(try simp[c]at h)<;>(try simp[c])<;>(try exact .done h)
 . refine aE.intro (λc=>?_) (λc=>?_)<;>(try simp[-Int.not_lt,-Int.not_le,-Nat.not_lt,-Nat.not_le]at c)<;>(try simp[c]at h)<;>(try simp[c])<;>(try exact .done h)
theorem yC{l:List Int}(b:l≠[])(d:l.length<=1000000000)(h:∀a σ',bF σ σ' a 1 (l.map int)->KF (.val a) σ'):ar prog m 99 [ints l] σ KF:=by
 refine fs [] 1 Tryz.func99 rfl rfl (by rfl) (by kernel_rfl) ?_;simp[Tryz.f99];refine Bx lay rfl bC rfl rfl (.inr (.inl ⟨rfl,by simpa using b,rfl⟩)) (.inl ⟨rfl,rfl⟩) ?_;refine rn ?_;simp;refine jx lay rfl rfl rfl bC rfl bC rfl oo (by decide) (by simp;omega) (σ0:=σ) (es:=[]) (xs:=l.map int) (.empty σ 1) (.inl (.inr ⟨_,rfl⟩)) (by simp) λe σ' c=>?_
 refine rn ?_;simp;exact .done (h _ _ (by simpa using c))
def fH(lt:Int->Int->Bool)(x:Int):List Int->List Int
 |[]=>[x]
 |y::r=>if lt x y then y::fH lt x r else x::y::r
def dp(lt:Int->Int->Bool)(l:List Int):List Int:=l.foldl (λr x=>fH lt x r) []
theorem CZ(lt:Int->Int->Bool)(x:Int):∀r,(fH lt x r).length=r.length+1
 |[]=>rfl
 |y::r=>by unfold fH;split<;>simp[CZ lt x r]
theorem ke(lt:Int->Int->Bool)(l:List Int):(dp lt l).length=l.length:=by
 have key:∀(l r:List Int),(l.foldl (λr x=>fH lt x r) r).length=r.length+l.length:=by
  intro l;induction l with
  |nil=>intro r;rfl
  |cons a l b=>intro r;rw[List.foldl_cons,b,CZ];simp;omega
 rw[dp,key];simp
theorem C0(lt:Int->Int->Bool)(x:Int):∀(r:List Int) (y:Int),y∈fH lt x r↔y=x\/y∈r
 |[],y=>by simp[fH]
 | z :: r,y=>by
   unfold fH;split
   . rw[List.mem_cons,C0 lt x r y,List.mem_cons]
     constructor
     . rintro(h|h|h)
       . exact .inr (.inl h)
       . exact .inl h
       . exact .inr (.inr h)
     . rintro(h|h|h)
       . exact .inr (.inl h)
       . exact .inl h
       . exact .inr (.inr h)
   . simp
theorem qD(lt:Int->Int->Bool)(l:List Int)(y:Int):y∈dp lt l↔y∈l:=by
 have key:∀(l r:List Int),y∈l.foldl (λr x=>fH lt x r) r↔y∈r\/y∈l:=by
  intro l;induction l with
  |nil=>intro r;simp
  | cons a l b=>
    intro r;rw[List.foldl_cons,b,C0,List.mem_cons];constructor
    . rintro((h|h)|h)
      . exact .inr (.inl h)
      . exact .inl h
      . exact .inr (.inr h)
    . rintro(h|h|h)
      . exact .inl (.inr h)
      . exact .inl (.inl h)
      . exact .inr h
 rw[dp,key];simp
def C1(m:Mo)(y:AV)(c:Int->Int->Int)(In:Int->Prop):Prop:=∀(a b:Int) (σ:aa) (KF:dF->aa->Prop),In a->In b->KF (.val (int (c a b))) σ->dX prog m y [int a,int b] σ KF
theorem RB{α:Type}{A B:List α}{x y:α}{n:Nat}(a:A.length=n):(A++y::x::B)[n]?=some y/\(A++y::x::B)[n+1]?=some x/\((A++y::x::B).set n x).set (n+1) y=A++x::y::B/\((A++y::x::B).set (n+1) y).set n x=A++x::y::B:=by
 subst a;refine⟨by simp,?_,?_,?_⟩
 . rw[List.getElem?_append_right (by omega)];simp
 . rw[List.set_append_right _ _ (by omega),List.set_append_right _ _ (by omega)];simp
 . rw[List.set_append_right _ _ (by omega),List.set_append_right _ _ (by omega)];simp
theorem EC{y:AV}{c:Int->Int->Int}{In:Int->Prop}{l:List Int}{b cap:Nat}{rest:List AV}(W:C1 m y c In)(J:∀x∈l,In x)(hl:l.length<=1000000)(hb:σ b=some (.cells (l.map int++rest)))
 (h:KF (.val (.bk [])) (σ.set b (.cells ((dp (λa b=>decide (c a b<0)) l).reverse.map int++rest)))):ar prog m 173 [.gn b 0 l.length cap,int 0,int l.length,y] σ KF:=by
 refine fs Rw 4 Tryz.func173 rfl rfl (by rfl) (by kernel_rfl) ?_
 simp[Tryz.f173];obtain⟨lt,E⟩:∃lt,lt=λa b=>decide (c a b<0):=⟨_,rfl⟩
 rw[<-E]at h;refine ab.loop l.length (λi s=>∃env g,s=⟨env,g,[],.no⟩/\env 0=.gn b 0 l.length cap/\env 1=int 0/\env 2=int l.length/\env 3=y/\env 8=int ((i:Int)+1)/\g=σ.set b (.cells ((dp lt (l.take (i+1))).reverse.map int++((l.drop (i+1)).map int++rest)))) ⟨_,_,rfl,by simp,by simp,by simp,by simp,by simp,?_⟩ ?_
 . have e:(dp lt (l.take 1)).reverse.map int++((l.drop 1).map int++rest)=l.map int++rest:=by
    cases l with
    |nil=>simp[dp]
    |cons a l=>simp[dp,fH]
   rw[e]
   funext d
   by_cases q:d=b
   . subst q;rw[aa.an,hb]
   . rw[aa.ag _ _ q]
 rintro c0 i _ hi ⟨env,g,rfl,u,v,w,F,C,j⟩ X
 rcases Nat.lt_or_ge (i+1) l.length with g1|g1
 . have Q:(i:Int)+1<l.length:=by omega
   obtain⟨S,N⟩:∃S,S=dp lt (l.take (i+1)):=⟨_,rfl⟩;have R:S.length=i+1:=by rw[N,ke,List.length_take];omega
   have T:∀x∈S,In x:=λx K=>J x (List.mem_of_mem_take ((qD lt _ x).1 (N ▸ K)))
   have G:dp lt (l.take (i+1+1))=fH lt l[i+1] S:=by rw[N,dp,List.take_succ_eq_append_getElem g1,List.foldl_append];rfl
   obtain⟨x,K⟩:∃x,x=l[i+1]:=⟨_,rfl⟩;have L:In x:=J x (by rw[K];exact List.getElem_mem g1)
   have U:l.drop (i+1)=x::l.drop (i+2):=by rw[K];exact List.drop_eq_getElem_cons g1
   rw[<-N,U]at j;rw[<-K]at G;refine rn ?_;simp[w,C,Q]
   refine ab.loop (i+1) (λk s=>∃env g r f,s=⟨env,g,[],.no⟩/\env 0=.gn b 0 l.length cap/\env 1=int 0/\env 2=int l.length/\env 3=y/\env 8=int ((i:Int)+1)/\env 9=int f.length/\S=r++f/\f.length+k=i+1/\fH lt x S=r++fH lt x f/\
    g=σ.set b (.cells ((f.reverse.map int)++int x::(r.reverse.map int++((l.drop (i+2)).map int++rest))))) ⟨_,_,[],S,rfl,by simp[u],by simp[v],by simp[w],by simp[F],by simp[C],by simp[R],rfl,by omega,rfl,by rw[j];simp⟩ ?_
   clear u v w F C j
   rintro c1 k _ hk ⟨env,g,r,f,rfl,u,v,w,F,C,O,t,hlen,p,j⟩ V
   cases f with
   | nil=>
     simp only[List.length_nil,Nat.zero_add]at hlen;simp only[List.append_nil]at t;subst t
     have o:g=σ.set b (.cells ((dp lt (l.take (i+1+1))).reverse.map int++((l.drop (i+1+1)).map int++rest))):=by rw[j,G,p];simp[fH]
     refine rn ?_;simp[v,O];refine⟨?_,?_⟩
     all_goals
      refine rn ?_;simp[C];refine⟨by omega,X _ (by omega) ⟨_,_,rfl,by simp[u],by simp[v],by simp[w],by simp[F],by simp,o⟩⟩
   | cons z f=>
     obtain⟨e1,e2,e3,e4⟩:=RB (A:=f.reverse.map int) (B:=r.reverse.map int++((l.drop (i+2)).map int++rest)) (x:=int x) (y:=int z) (n:=f.length) (by simp)
     have D:g b=some (.cells (f.reverse.map int++int z::int x::(r.reverse.map int++((l.drop (i+2)).map int++rest)))):=by rw[j,aa.an];simp
     have M:In z:=T z (by rw[t];simp)
     have f1:(0:Int)<(f.length:Int)+1:=by omega
     have Y:(f.length:Int)+1<l.length:=by simp at hlen;omega
     have Z:(f.length:Int)<l.length:=by omega
     have f4:(0:Int)<=(f.length:Int)+1:=by omega
     have f5:((f.length:Int)+1).toNat=f.length+1:=by omega
     have I:-9223372036854775808<=(f.length:Int)/\(f.length:Int)<=9223372036854775807:=by omega
     refine rn ?_;simp[u,v,F,O,f1,Y,Z,f4,f5,I.1,I.2,D];refine⟨W _ _ _ _ L M ?_,W _ _ _ _ L M ?_⟩
     all_goals
      refine pg ?_;simp;refine rn ?_;simp
      by_cases P:c x z<0
      . have f7:f.length+1+1<=f.length+(r.length+(l.length-(i+2)+rest.length)+1+1):=by omega
        have f8:f.length+1<=f.length+(r.length+(l.length-(i+2)+rest.length)+1+1):=by omega
        have H:fH lt x (z::f)=z::fH lt x f:=by rw[E];simp[fH,P]
        simp[u,O,P,f5,I.1,I.2,Y,Z,f4,D,f7,f8];refine rn ?_;simp[O,I.1,I.2];refine V _ (by simp at hlen;omega) ⟨_,_,r++[z],f,rfl,by simp[u],by simp[v],by simp[w],by simp[F],by simp[C],by simp,by rw[t];simp,by simp at hlen;omega,by rw[p,H];simp,?_⟩
        rw[j];simp
      . have H:fH lt x (z::f)=x::z::f:=by rw[E];simp[fH,P]
        have o:g=σ.set b (.cells ((dp lt (l.take (i+1+1))).reverse.map int++((l.drop (i+1+1)).map int++rest))):=by rw[j,G,p,H];simp
        simp[C,P];exact⟨by omega,X _ (by omega) ⟨_,_,rfl,by simp[u],by simp[v],by simp[w],by simp[F],by simp,o⟩⟩
 . have o:(dp lt (l.take (i+1))).reverse.map int++((l.drop (i+1)).map int++rest)=(dp lt l).reverse.map int++rest:=by
    rw[List.take_of_length_le (by omega),List.drop_of_length_le (by omega)];simp
   rw[o]at j;have g2:¬(i:Int)+1<l.length:=by omega
   refine rn ?_;simp[w,C,g2];rw[j];exact .done h
theorem Bd{y:AV}{c:Int->Int->Int}{In:Int->Prop}{l:List Int}{b cap:Nat}{rest:List AV}(q:C1 m y c In)(g:∀x∈l,In x)(w:l.length<20)(hb:σ b=some (.cells (l.map int++rest)))
 (h:KF (.val (.bk [])) (σ.set b (.cells ((dp (λa b=>decide (c a b<0)) l).reverse.map int++rest)))):ar prog m 168 [.gn b 0 l.length cap,int l.length,y] σ KF:=by
 refine fs [] 3 Tryz.func168 rfl rfl (by rfl) (by kernel_rfl) ?_;simp[Tryz.f168];have r:¬(20:Int)<=l.length:=by omega
 have t:¬(20:Int)<l.length:=by omega
 refine ab.loop 1 (λk s=>∃env,s=⟨env,σ,[],.no⟩/\env 0=.gn b 0 l.length cap/\env 1=int l.length/\env 2=y/\env 6=int 20/\env 7=int 0/\env 8=int 20) ⟨_,rfl,by simp⟩ ?_;rintro z k _ u ⟨env,rfl,j,e,n,f,o,p⟩ v;refine rn ?_;simp[j,e,n,o,p,r];refine cf Tryz.func173 rfl (EC q g (by omega) hb ?_);refine rn ?_;simp;refine ab.loop 1 (λk s=>∃env d,s=⟨env,d,[],.no⟩/\env 1=int l.length/\env 6=int 20/\d=σ.set b (.cells ((dp (λa b=>decide (c a b<0)) l).reverse.map int++rest))) ⟨_,_,rfl,by simp[e],by simp[f],by simp⟩ ?_;clear j e n f o p;rintro A k _ u ⟨env,d,rfl,e,f,i⟩ v;refine rn ?_;simp[e,f,t];rw[i];exact .done h
theorem sY{y:AV}{c:Int->Int->Int}{In:Int->Prop}{l:List Int}{b cap:Nat}{rest:List AV}(e:C1 m y c In)(d:∀x∈l,In x)(f:l.length<20)(hb:σ b=some (.cells (l.map int++rest)))
 (h:KF (.val (.bk [])) (σ.set b (.cells ((dp (λa b=>decide (c a b<0)) l).reverse.map int++rest)))):ar prog m 156 [.gn b 0 l.length cap,y] σ KF:=by
 refine fs [] 2 Tryz.func156 rfl rfl (by rfl) (by kernel_rfl) ?_;simp[Tryz.f156];refine cf Tryz.func168 rfl (Bd e d f hb ?_);refine rn ?_;simp;exact .done (by simpa using h)
theorem Nl{y:AV}{c:Int->Int->Int}{In:Int->Prop}{l:List Int}(r:C1 m y c In)(g:∀x∈l,In x)(s:l.length<20)(d:l≠[])(i:y.cells=[y]/\y.flat=true)(h:KF (.val (ints (dp (λa b=>decide (c a b<0)) l).reverse)) σ):ar prog m 123 [.agg [y],ints l] σ KF:=by
 refine fs [] 2 Tryz.func123 rfl rfl (by rfl) (by kernel_rfl) ?_;simp[Tryz.f123,i.2];refine cf Tryz.func99 rfl (yC d (by omega) λa j k=>?_)
 obtain⟨b,cap,rest,rfl,n,o,v,p,q⟩:∃b cap rest,a=.gn b 0 (l.map int).length cap/\σ b=none/\(l.map int).length<=cap/\(∀e∈l.map int,e.cells.length=1)/\j b=some (.cells (flatten (l.map int)++rest))/\rest.length=(cap-(l.map int).length)*1:=by
  rcases k.2 with⟨e,_⟩|h
  . exact absurd (by simpa using e) d
  . exact h
 have f:∀l:List Int,flatten (l.map int)=l.map int:=λl=>by
  induction l with
  |nil=>rfl
  |cons a l t=>simp[flatten_cons,AV.cells,t]
 rw[f]at p;rw[List.length_map]at o q ⊢;refine rn ?_;simp;refine cf Tryz.func156 rfl (sY r g s p ?_);refine rn ?_;simp;refine bF.thaw (σ0:=σ) (kk:=1) (es:=(dp (λa b=>decide (c a b<0)) l).reverse.map int) ⟨aa.iz k.1 n,.inr ⟨b,cap,rest,?_,n,?_,λe u=>?_,?_,?_⟩⟩ h
 . simp[ke]
 . simpa[ke]using o
 . obtain⟨x,_,rfl⟩:=List.mem_map.1 u;rfl
 . rw[f];simp
 . simpa[ke]using q
def uh(f:Fr)(a b:Int):Int:=A9 (be f a).hour (be f b).hour
theorem Nm{b mb:Nat}{f:Fr}{x y:Int}(d:0<=x/\x<f.ao.length)(e:0<=y/\y<f.ao.length)(h:KF (.val (int (uh f x y))) σ):ar prog m 121 [int x,int y,.cp (iY b mb f 0) 0] σ KF:=by
 have a:x.toNat<f.ao.length:=by omega
 have c:y.toNat<f.ao.length:=by omega
 have ex:be f x=f.ao[x.toNat]:=by simp[be,List.getD_eq_getElem?_getD,a]
 have g:be f y=f.ao[y.toNat]:=by simp[be,List.getD_eq_getElem?_getD,c]
 unfold uh at h;rw[ex,g]at h;refine fs Rt 3 Tryz.func121 rfl rfl (by rfl) (by kernel_rfl) ?_;simp[Tryz.f121,a,c,d.1,e.1];refine cf Tryz.func122 rfl (EA ?_);refine pg ?_;simp;refine rn ?_;simp;exact .done h
theorem Km{b mb:Nat}{f:Fr}:C1 m (.fn (.func 121) [] [.cp (iY b mb f 0) 0]) (uh f) (λn=>0<=n/\n<f.ao.length):=λx y σ KF a c h=>by refine eY Tryz.func121 rfl rfl rfl (Nm a c h)
end Go.Proofs.YtldmpfccgajobaaGreatDoor
