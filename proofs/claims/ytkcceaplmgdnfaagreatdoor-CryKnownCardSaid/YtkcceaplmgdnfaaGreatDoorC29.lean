import Derived.Test.YtkcceaplmgdnfaaGreatDoorC28
set_option linter.all false
namespace Go.Proofs.YtkcceaplmgdnfaaGreatDoor
open Go.Proofs.Tryz (prog)
open Go.bu Go.Conc
set_option maxHeartbeats 1000000
variable{m:Mo}{σ:aa}{KF:cJ->aa->Prop}
theorem j8{n:Nat}:∀{r:List (List Int)},iN n r=0->∀l∈r,l.length=n/\∀x∈l,cZ x 0 9=true
 |[],_,l,b=>by simp at b
 | a :: r,h,l,b=>by
   unfold iN at h;split at h
   . next c=>
     rcases List.mem_cons.1 b with rfl|b
     . unfold nu at c
       grind
     . exact j8 h l b
   omega
theorem mI{r:List (List Int)}{i j:Nat}(a:i<r.length)(b:j<r[i].length):rd r i j=r[i][j]:=by simp[rd,List.getD_eq_getElem?_getD,a,b]
theorem dc{a b c:Int}(h:cZ a b c=true):b<=a/\a<=c:=by simpa[cZ]using h
theorem xL{r:List (List Int)}(hr:r.length<1152921504606846976)(hl:∀l∈r,l.length<1152921504606846976)(h:KF (.val (int (kX r))) σ):aB prog m 154 [rows r] σ KF:=by
 unfold kX at h;refine fs SB 1 Tryz.func154 rfl rfl (by rfl) (by kernel_rfl) ?_
 simp[Tryz.f154];refine aG.intro (λV=>?_) (λV=>?_)<;>simp at V<;>simp[V]
 . rw[if_pos (show r.length<1 by omega)]at h
   exact .done h
 refine aG.intro (λW=>?_) (λW=>?_)<;>simp at W<;>simp[W]
 . have X:¬r.length<1:=by omega
   have Q:3<r.length:=by omega
   rw[if_neg (show ¬r.length<1 by omega),if_pos Q]at h
   exact .done h
 have X:¬r.length<1:=by omega
 have Q:¬3<r.length:=by omega
 rw[if_neg X,if_neg Q]at h;refine af.loop r.length (λk s=>∃env,s=⟨env,σ,[],.no⟩/\env 0=rows r/\env 19=rows r/\env 20=int r.length/\env 21=int k/\iN r.length r=iN r.length (r.drop k)) ⟨_,rfl,by simp⟩ ?_
 rintro c0 k _ hk ⟨env,rfl,a,o,p,g,v⟩ R
 refine rn ?_;simp[p,g];refine aG.intro (λG=>?_) (λG=>?_)<;>(try simp[-Int.not_lt,-Int.not_le,-Nat.not_lt,-Nat.not_le]at G)<;>(try simp[a,o,g,G])
 . rw [DQ _ _ k G]at v
   obtain⟨l,J⟩:∃l,l=r[k]:=⟨_,rfl⟩;simp only[<-J]at v ⊢;have al:l.length<1152921504606846976:=hl l (by rw[J];exact List.getElem_mem G)
   refine aG.intro (λb=>?_) (λb=>?_)<;>simp at b<;>simp[b]
   . have w:l.length≠r.length:=λe=>b (by rw[e])
     simp[nu,w]at v;simp[v]at h;exact .done h
   have w:l.length=r.length:=by omega
   refine af.loop l.length (λj s=>∃env,s=⟨env,σ,[],.no⟩/\env 0=rows r/\env 19=rows r/\env 20=int r.length/\env 21=int k/\env 30=ints l/\env 31=int l.length/\env 32=int j/\(l.take j).all (cZ · 0 9)=true) ⟨_,rfl,by simp[a,o,p,g,w]⟩ ?_
   clear a o p g
   rintro c1 j _ S ⟨env,rfl,a,o,p,g,K,L,B,x⟩ C
   refine rn ?_;simp[L,B];refine aG.intro (λn=>?_) (λn=>?_)<;>(try simp[-Int.not_lt,-Int.not_le,-Nat.not_lt,-Nat.not_le]at n)<;>(try simp[g,K,B,n])
   . refine cf Tryz.func155 rfl (dD ?_)
     refine rn ?_;simp;refine aG.intro (λu=>?_) (λu=>?_)<;>(try simp[-Int.not_lt,-Int.not_le,-Nat.not_lt,-Nat.not_le]at u)<;>(try simp[B,u])
     . refine⟨by omega,C _ n ⟨_,rfl,by simp[a],by simp[o],by simp[p],by simp[g],by simp[K],by simp[L],by simp,?_⟩⟩
       rw[List.take_succ_eq_append_getElem n,List.all_append,x];simp[u]
     . have:l.all (cZ · 0 9)=false:=by
        rw[List.all_eq_false];exact⟨_,List.getElem_mem n,by simp[u]⟩
       simp[nu,w,this]at v;simp[v]at h;exact .done h
   . have:j=l.length:=by omega
     subst this;rw[List.take_length]at x;have Y:nu r.length l=0:=by unfold nu;rw[if_neg (by simp[w]),if_pos x]
     rw[if_pos Y]at v;exact⟨by omega,R _ G ⟨_,rfl,by simp[a],by simp[o],by simp[p],by simp,v⟩⟩
 have:k=r.length:=by omega
 subst this;simp[iN]at v;rw[if_neg (by omega)]at h
 clear R;have ad:∀(i:Nat) (H:i<r.length),r[i].length=r.length:=λi H=>(j8 v _ (List.getElem_mem H)).1
 have M:∀(i:Nat) (H:i<r.length) (j:Nat) (S:j<r[i].length),0<=r[i][j]/\r[i][j]<=9:=λi H j S=>dc ((j8 v _ (List.getElem_mem H)).2 _ (List.getElem_mem S))
 refine af.loop r.length (λi s=>∃env,s=⟨env,σ,[],.no⟩/\env 0=rows r/\env 41=rows r/\env 42=int r.length/\env 43=int i/\∀i'<i,∀j<r.length,eI r i' j=false) ⟨_,rfl,by simp[a]⟩ ?_
 clear a o p g
 rintro c1 i _ H ⟨env,rfl,a,f,d,c,Z⟩ R
 refine rn ?_;simp[d,c];refine aG.intro (λb=>?_) (λb=>?_)<;>(try simp[-Int.not_lt,-Int.not_le,-Nat.not_lt,-Nat.not_le]at b)<;>(try simp[a,c,b])
 . refine af.loop r.length (λj s=>∃env,s=⟨env,σ,[],.no⟩/\env 0=rows r/\env 41=rows r/\env 42=int r.length/\env 43=int i/\env 8=int i/\env 46=rows r/\env 47=int r.length/\env 48=int j/\∀D<j,eI r i D=false) ⟨_,rfl,by simp[a,f,d,c]⟩ ?_
   clear a f d c
   rintro c2 j _ S ⟨env,rfl,a,f,d,c,z,y,t,q,ar⟩ C
   refine rn ?_;simp[t,q];refine aG.intro (λn=>?_) (λn=>?_)<;>(try simp[-Int.not_lt,-Int.not_le,-Nat.not_lt,-Nat.not_le]at n)<;>(try simp[a,c,z,q,n])
   . have q1 : i<r[i].length:=by grind
     have I:j<r[i].length:=by grind
     have q3:i<r[j].length:=by grind
     simp[z,b,q1];refine Ma.intro (λu=>?_) (λu=>?_)<;>(try simp[-Int.not_lt,-Int.not_le,-Nat.not_lt,-Nat.not_le]at u)<;>(try simp[a,z,u,b,n,I,q3])
     . refine rn ?_
       simp;refine aG.intro (λN=>?_) (λN=>?_)<;>(try simp[-Int.not_lt,-Int.not_le,-Nat.not_lt,-Nat.not_le]at N)<;>(try simp[a,N])
       ·
        have hb:eI r i j=true:=by unfold eI;rw[mI b I,mI n q3];simp[N]
        have:((List.range r.length).any λi=>(List.range r.length).any λj=>eI r i j)=true:=List.any_eq_true.2 ⟨i,List.mem_range.2 b,List.any_eq_true.2 ⟨j,List.mem_range.2 n,hb⟩⟩
        rw[if_pos this]at h;exact .done h
       . refine af.loop r.length (λk s=>∃env,s=⟨env,σ,[],.no⟩/\env 0=rows r/\env 41=rows r/\env 42=int r.length/\env 43=int i/\env 8=int i/\env 46=rows r/\env 47=int r.length/\env 48=int j/\env 9=int j/\env 76=rows r/\env 77=int r.length/\env 78=int k/\∀O<k,¬rd r i j>rd r i O+rd r O j) ⟨_,rfl,by simp[a,f,d,c,z,y,t,q]⟩ ?_
         clear a f d c z y t q
         rintro c3 k _ hk ⟨env,rfl,a,f,d,c,z,y,t,q,h9,a7,P,E,a8⟩ a9
         refine rn ?_;simp[P,E];refine aG.intro (λA=>?_) (λA=>?_)<;>(try simp[-Int.not_lt,-Int.not_le,-Nat.not_lt,-Nat.not_le]at A)<;>(try simp[a,z,q,E,A])
         . have T:k<r[i].length:=by grind
           have U:j<r[k].length:=by grind
           have b1:=M i b k T;have b2:=M k A j U;have f1:-9223372036854775808<=r[i][k]+r[k][j]:=by omega
           have f2:r[i][k]+r[k][j]<=9223372036854775807:=by omega
           simp[a,z,h9,b,A,I,T,U,f1,f2];refine rn ?_;simp;refine aG.intro (λF=>?_) (λF=>?_)<;>(try simp[-Int.not_lt,-Int.not_le,-Nat.not_lt,-Nat.not_le]at F)<;>(try simp[E,F])
           . have hb:eI r i j=true:=by
              unfold eI;have:((List.range r.length).any λk=>decide (rd r i j>rd r i k+rd r k j))=true:=List.any_eq_true.2 ⟨k,List.mem_range.2 A,by rw[mI b I,mI b T,mI A U];grind⟩
              grind
             have:((List.range r.length).any λi=>(List.range r.length).any λj=>eI r i j)=true:=List.any_eq_true.2 ⟨i,List.mem_range.2 b,List.any_eq_true.2 ⟨j,List.mem_range.2 n,hb⟩⟩
             rw[if_pos this]at h;exact .done h
           . refine⟨by omega,a9 _ A ⟨_,rfl,by simp[a],by simp[f],by simp[d],by simp[c],by simp[z],by simp[y],by simp[t],by simp[q],by simp[h9],by simp[a7],by simp[P],by simp,λO av=>?_⟩⟩
             by_cases e:O=k
             . subst e
               rw[mI b I,mI b T,mI A U];omega
             . exact a8 O (by omega)
         . have:k=r.length:=by omega
           subst this;refine⟨by omega,C _ n ⟨_,rfl,by simp[a],by simp[f],by simp[d],by simp[c],by simp[z],by simp[y],by simp[t],by simp,λD ab=>?_⟩⟩
           by_cases e:D=j
           . subst e
             unfold eI
             have X:((List.range r.length).any λk=>decide (rd r i D>rd r i k+rd r k D))=false:=by
              rw[List.any_eq_false]
              grind
             have Q:rd r i i=0:=by rw[mI b q1];exact u
             have e3:rd r i D=rd r D i:=by rw[mI b I,mI n q3];exact N
             grind
           grind
     . have e:(r[i][i] !=0)=true:=by simp[u]
       simp[e];refine rn ?_;simp
       have hb:eI r i j=true:=by unfold eI;rw[mI b q1];simp[u]
       have:((List.range r.length).any λi=>(List.range r.length).any λj=>eI r i j)=true:=List.any_eq_true.2 ⟨i,List.mem_range.2 b,List.any_eq_true.2 ⟨j,List.mem_range.2 n,hb⟩⟩
       rw[if_pos this]at h;exact .done h
   . have:j=r.length:=by omega
     subst this;refine⟨by omega,R _ b ⟨_,rfl,by simp[a],by simp[f],by simp[d],by simp,λi' ax j ab=>?_⟩⟩
     grind
 . have:i=r.length:=by omega
   subst this
   have:((List.range r.length).any λi=>(List.range r.length).any λj=>eI r i j)=false:=by grind
   rw[this]at h;exact .done (by grind)
theorem Ca{f:Fr}(i:f.Fits)(h:KF (.val (int (check f))) σ):aB prog m 112 [dt f] σ KF:=by
 unfold check at h;have z:=i.roads;have x:=i.aF;refine fs [] 1 Tryz.func112 rfl rfl (by rfl) (by kernel_rfl) ?_;simp[Tryz.f112];refine cf Tryz.func154 rfl (xL i.roads i.row ?_);refine rn ?_;simp;refine aG.intro (λn=>?_) (λn=>?_)<;>(try simp[-Int.not_lt,-Int.not_le,-Nat.not_lt,-Nat.not_le]at n)<;>(try simp[n]at h)<;>(try simp[n])<;>(try exact .done h);refine cf Tryz.func155 rfl (dD ?_);refine rn ?_;simp;refine qJ.intro (λo=>?_) (λo=>?_)<;>(try simp[-Int.not_lt,-Int.not_le,-Nat.not_lt,-Nat.not_le]at o)<;>(try simp[o]at h)<;>(try simp[o])<;>(try exact .done h);refine cf Tryz.func155 rfl (dD ?_);refine rn ?_;simp;refine aG.intro (λp=>?_) (λp=>?_)<;>(try simp[-Int.not_lt,-Int.not_le,-Nat.not_lt,-Nat.not_le]at p)<;>(try simp[p]at h)<;>(try simp[p])<;>(try exact .done h)
 refine aG.intro (λq=>?_) (λq=>?_)<;>(try simp[-Int.not_lt,-Int.not_le,-Nat.not_lt,-Nat.not_le]at q)<;>(try simp[q]at h)<;>(try simp[q])<;>(try exact .done h);refine cf Tryz.func155 rfl (dD ?_);refine rn ?_;simp;refine qJ.intro (λr=>?_) (λr=>?_)<;>(try simp[-Int.not_lt,-Int.not_le,-Nat.not_lt,-Nat.not_le]at r)<;>(try simp[r]at h)<;>(try simp[r])<;>(try exact .done h);refine cf Tryz.func155 rfl (dD ?_);refine rn ?_;simp;refine aG.intro (λt=>?_) (λt=>?_)<;>(try simp[-Int.not_lt,-Int.not_le,-Nat.not_lt,-Nat.not_le]at t)<;>(try simp[t]at h)<;>(try simp[t])<;>(try exact .done h);refine aG.intro (λu=>?_) (λu=>?_)<;>(try simp[-Int.not_lt,-Int.not_le,-Nat.not_lt,-Nat.not_le]at u)<;>(try simp[u]at h)<;>(try simp[u])<;>(try exact .done h)
 refine af.loop f.aF.length (λk s=>∃env a,s=⟨env,a,[],.no⟩/\σ.Le a/\env 1=.cp (dt f) 0/\env 47=iY f.aF/\env 48=int f.aF.length/\env 49=int k/\eR (fJ f.roads.length) f.aF=eR (fJ f.roads.length) (f.aF.drop k)) ⟨_,_,rfl,aa.le_refl _,by simp⟩ ?_;rintro A k _ B ⟨env,a,rfl,c,w,j,l,d,e⟩ y;refine rn ?_;simp[l,d];refine aG.intro (λg=>?_) (λg=>?_)<;>(try simp[-Int.not_lt,-Int.not_le,-Nat.not_lt,-Nat.not_le]at g)<;>(try simp[j,d,g])
 . rw[B2 _ _ k g]at e
   refine bq.intro λb hb=>?_
   simp[w];refine cf Tryz.func156 rfl (xK ⟨by omega,by omega⟩ (i.marks _ (List.getElem_mem g)) ?_);refine rn ?_;simp;refine aG.intro (λv=>?_) (λv=>?_)<;>(try simp[-Int.not_lt,-Int.not_le,-Nat.not_lt,-Nat.not_le]at v)<;>(try simp[v]at e)<;>(try simp[d,v])<;>(try exact .done e)
   . rw[e]at h
     exact .less (aa.r7 c hb) (.done h)
   . exact⟨by omega,y _ g ⟨_,_,rfl,aa.r7 c hb,by simp[w],by simp[j],by simp[l],by simp,e⟩⟩
 . have:k=f.aF.length:=by omega
   subst this;simp[eR]at e;rw[e]at h;exact .less c (.done h)
structure rB(σ:aa)(b mb:Nat)(σ':aa):Prop where
 hb:σ b=none
 xI:σ mb=none
 ne:b≠mb
 eq:σ'=(σ.set mb (mapA .u8 [])).set b (.part (bo 6))
def JX(f:Fr)(σ:aa):cJ->aa->Prop:=λr a=>∃b mb,r=.val (.ref b 0)/\σ b=none/\σ mb=none/\b≠mb/\a=(σ.set mb (mapA .u8 [])).set b (.cells [iY f.aF,rows f.roads,int f.bV,int f.jj,int f.oZ,int f.eQ,.lit (.int .i32 0),.lit (.int .u32 0),.map mb])
theorem DX{f:Fr}(h:∀b mb σ',rB σ b mb σ'->KF (.val (jU b mb f 0)) σ'):aB prog m 157 [dt f] σ KF:=by
 refine aB.share (KF0:=JX f σ) ?_ ?_
 . refine aB.start lay [6] [] 1 Tryz.func157 rfl rfl (by rfl) (by kernel_rfl) ?_
   simp[Tryz.f157];refine th (FX .u8) rfl λmb xI=>?_
   refine af.run lay [6] ?_;simp[aL];refine bq.intro λb hb=>?_
   obtain⟨d,e,hb⟩:=aa.aH hb;simp;exact .done ⟨b,mb,rfl,hb,xI,d,rfl⟩
 . rintro r σ' ⟨b,mb,rfl,hb,xI,a,rfl⟩
   refine .inr ⟨b,_,[6,7],bo 6,rfl,aa.ao _ _ _,λi v c=>?_,λi=>?_,?_⟩
   . unfold bo at c
     split at c
     . simp_all
     simp_all
   . unfold bo
     grind
   . exact h b mb _ ⟨hb,xI,a,by simp⟩
def fW(f:Fr)(l:List Int):Int:=if check f≠0 then check f else if l.all (cZ · 0 (f.aF.length-1))then 0 else 3
theorem z8{f:Fr}{l:List Int}(o:f.Fits)(v:l.length<1152921504606846976)(i:fW f l≠0->KF (.val (.bp [.lit (.pointer none),int (fW f l)])) σ)
 (q:fW f l=0->∀b mb σ',rB σ b mb σ'->KF (.val (.bp [jU b mb f 0,int 0])) σ'):aB prog m 113 [dt f,ints l] σ KF:=by
 have r:=o.aF;refine fs [] 2 Tryz.func113 rfl rfl (by rfl) (by kernel_rfl) ?_
 simp[Tryz.f113];refine cf Tryz.func112 rfl (Ca o ?_);refine rn ?_;simp;refine aG.intro (λj=>?_) (λj=>?_)<;>simp at j<;>simp[j]
 . have:fW f l=check f:=by unfold fW;omega
   rw[this]at i;exact .done (i j)
 refine af.loop l.length (λk s=>∃env,s=⟨env,σ,[],.no⟩/\env 2=.cp (dt f) 0/\env 14=ints l/\env 15=int l.length/\env 16=int k/\(l.take k).all (cZ · 0 (f.aF.length-1))=true) ⟨_,rfl,by simp⟩ ?_
 rintro w k _ x ⟨env,rfl,p,d,g,c,a⟩ t
 refine rn ?_;simp[g,c];refine aG.intro (λh=>?_) (λh=>?_)<;>(try simp[-Int.not_lt,-Int.not_le,-Nat.not_lt,-Nat.not_le]at h)<;>(try simp[p,d,c,h])
 . refine⟨by omega,?_⟩
   refine cf Tryz.func155 rfl (dD ?_);refine rn ?_;simp;refine aG.intro (λn=>?_) (λn=>?_)<;>(try simp[-Int.not_lt,-Int.not_le,-Nat.not_lt,-Nat.not_le]at n)<;>(try simp[c,n])
   . refine⟨by omega,t _ h ⟨_,rfl,by simp[p],by simp[d],by simp[g],by simp,?_⟩⟩
     rw[List.take_succ_eq_append_getElem h,List.all_append,a];simp[n]
   . have e:l.all (cZ · 0 (f.aF.length-1))=false:=by
      grind
     have:fW f l=3:=by unfold fW;simp_all
     rw[this]at i;exact .done (i (by simp))
 . have:k=l.length:=by omega
   subst this;rw[List.take_length]at a;have:fW f l=0:=by unfold fW;simp_all
   refine cf Tryz.func157 rfl (DX λb mb σ' u=>?_)
   refine rn ?_;simp;exact .done (q this b mb σ' u)
theorem Nq{b mb:Nat}{f:Fr}{l:List Int}(t:f.Fits)(z:l.length<1152921504606846976)(h:KF (.val (Ur (sJ f l))) σ):aB prog m 174 [jU b mb f 0,ints l] σ KF:=by
 have u:=t.aF;unfold sJ at h;refine fs [] 2 Tryz.func174 rfl rfl (by rfl) (by kernel_rfl) ?_;simp[Tryz.f174];refine aG.intro (λi=>?_) (λi=>?_)<;>simp at i<;>simp[i]
 . rw[if_pos (by simp[i])]at h
   exact .done h
 rw[if_neg (by simp_all)]at h;refine af.loop l.length (λk s=>∃env,s=⟨env,σ,[],.no⟩/\env 0=jU b mb f 0/\env 1=ints l/\env 12=ints l/\env 13=int l.length/\env 14=int k/\gS f none l=gS f (if k=0 then none else l[k-1]?) (l.drop k)) ⟨_,rfl,by simp⟩ ?_;rintro A k _ B ⟨env,rfl,p,q,d,e,c,a⟩ v;refine rn ?_;simp[e,c];refine aG.intro (λg=>?_) (λg=>?_)<;>(try simp[-Int.not_lt,-Int.not_le,-Nat.not_lt,-Nat.not_le]at g)<;>(try simp[p,d,c,g])
 . rw [DT f _ k g]at a
   refine⟨by omega,?_⟩;refine cf Tryz.func155 rfl (dD ?_);refine rn ?_;simp;refine aG.intro (λj=>?_) (λj=>?_)<;>(try simp[-Int.not_lt,-Int.not_le,-Nat.not_lt,-Nat.not_le]at j)<;>(try simp[j]at a)<;>(try simp[j])<;>(try exact .done a)
   . refine qJ.intro (λn=>?_) (λn=>?_)<;>(try simp[-Int.not_lt,-Int.not_le,-Nat.not_lt,-Nat.not_le]at n)<;>(try simp[n]at a)<;>(try simp[q,c,n])<;>(try exact .done a)
     . have w:(k:Int)-1=((k-1:Nat):Int):=by omega
       have r:k-1<l.length:=by omega
       have x:¬k=0:=by omega
       simp[w,r];repeat refine⟨by omega,?_⟩
       try simp[r,x,pP]at a
       refine aG.intro (λo=>?_) (λo=>?_)<;>(try simp[-Int.not_lt,-Int.not_le,-Nat.not_lt,-Nat.not_le]at o)<;>(try simp[o]at a)<;>(try simp[c,o])<;>(try exact .done a)
       . rw[a]at h
         exact .done h
       . refine⟨by omega,v _ g ⟨_,rfl,by simp[p],by simp[q],by simp[d],by simp[e],by simp,?_⟩⟩
         grind
     . have y:k=0:=by omega
       subst y;simp[pP]at a
       simp_all
   . rw[a]at h
     exact .done h
 . have:k=l.length:=by omega
   subst this;simp[gS]at a;rw[a]at h;exact .done h
theorem Ox{a:AV}(h:KF (.val (bool false)) σ):aB prog m 111 [.lit .nilIface,a] σ KF:=by
 refine fs [] 2 Tryz.func111 rfl rfl (by rfl) (by kernel_rfl) ?_;simp[Tryz.f111];refine cK lay rfl tJ rfl (.inl ⟨rfl,rfl⟩) (.inl ⟨rfl,rfl⟩) ?_;refine rn ?_;simp;exact .done h
end Go.Proofs.YtkcceaplmgdnfaaGreatDoor
namespace Go.Proofs.YtkcceaplmgdnfaaGreatDoor
open Go.Proofs.Tryz (prog)
open Go.bu Go.Conc
set_option maxHeartbeats 1000000
set_option maxRecDepth 4000
variable{m:Mo}{σ:aa}{KF:cJ->aa->Prop}
theorem pR(first:List Int)(others:List (List Int))(k:Nat)(h:k<first.length):gM (first.take (k+1)) others=gM (first.take k) others++if others.all (λl=>decide (first[k]∈l))then[first[k]]else[]:=by
 unfold gM;rw[List.take_succ_eq_append_getElem h,List.filter_append]
 grind
theorem z9(first:List Int)(others:List (List Int)):(gM first others).length<=first.length:=List.length_filter_le _ _
theorem GM{first:List Int}{others:List (List Int)}{sp f:cQ}(B:first.length<=1000000000)(C:others.length<1152921504606846976)(u:∀l∈others,l.length<1152921504606846976)(h:KF (.val (ints (gM first others))) σ):aB prog m 253 [.sl 1 (first.map int) sp,.sl 1 (others.map ints) f] σ KF:=by
 refine fs [] 2 Tryz.func253 rfl rfl (by rfl) (by kernel_rfl) ?_;simp[Tryz.f253];refine af.loop first.length (λk s=>∃env e,s=⟨env,e,[],.no⟩/\env 0=.sl 1 (first.map int) sp/\env 1=.sl 1 (others.map ints) f/\env 10=.sl 1 (first.map int) sp/\env 11=int first.length/\env 12=int k/\Tok σ e (env 5) 1 ((gM (first.take k) others).map int)) ⟨_,_,rfl,by simp,by simp,by simp,by simp,by simp,.nil σ 1⟩ ?_
 rintro D k _ E ⟨env,e,rfl,o,g,c,d,b,a⟩ y;refine rn ?_;simp[d,b];have hlen:=z9 (first.take k) others;rw[List.length_take]at hlen;refine aG.intro (λi=>?_) (λi=>?_)<;>(try simp[-Int.not_lt,-Int.not_le,-Nat.not_lt,-Nat.not_le]at i)<;>(try simp[g,c,b,i])
 . refine af.loop others.length (λj s=>∃env,s=⟨env,e,[],.no⟩/\env 0=.sl 1 (first.map int) sp/\env 1=.sl 1 (others.map ints) f/\env 10=.sl 1 (first.map int) sp/\env 11=int first.length/\env 12=int k/\Tok σ e (env 5) 1 ((gM (first.take k) others).map int)/\env 7=int first[k]/\env 16=.sl 1 (others.map ints) f/\env 17=int others.length/\env 18=int j/\∀l∈others.take j,first[k]∈l) ⟨_,rfl,by simp[o,g,c,d,b,a]⟩ ?_
   clear o g c d b a;rintro F j _ G ⟨env,rfl,o,g,c,d,b,a,z,q,r,n,t⟩ v;refine rn ?_;simp[r,n];refine aG.intro (λp=>?_) (λp=>?_)<;>(try simp[-Int.not_lt,-Int.not_le,-Nat.not_lt,-Nat.not_le]at p)<;>(try simp[z,q,n,p])
   . refine cf Tryz.func66 rfl (ik (u _ (List.getElem_mem p)) ?_)
     refine rn ?_;simp;refine aG.intro (λw=>?_) (λw=>?_)<;>(try simp[-Int.not_lt,-Int.not_le,-Nat.not_lt,-Nat.not_le]at w)<;>(try simp[b,n,w])
     . refine⟨by omega,v _ p ⟨_,rfl,by simp[o],by simp[g],by simp[c],by simp[d],by simp[b],by simpa using a,by simp[z],by simp[q],by simp[r],by simp,λl u=>?_⟩⟩
       rw[List.take_succ_eq_append_getElem p,List.mem_append,List.mem_singleton]at u
       grind
     . refine⟨by omega,y _ i ⟨_,_,rfl,by simp[o],by simp[g],by simp[c],by simp[d],by simp,?_⟩⟩
       have:others.all (λl=>decide (first[k]∈l))=false:=by grind
       rw[pR _ _ _ i,this];simpa using a
   . have:j=others.length:=by omega
     subst this;rw[List.take_length]at t;refine aR lay rfl rfl rfl dT rfl dT rfl qp (by decide) (by simp;omega) (σ0:=σ) (es:=(gM (first.take k) others).map int) (xs:=[int first[k]]) (by simpa using a) (.inr ⟨_,rfl⟩) λH A x=>?_
     refine rn ?_;simp[b];refine⟨by omega,y _ i ⟨_,_,rfl,by simp[o],by simp[g],by simp[c],by simp[d],by simp,?_⟩⟩;have:others.all (λl=>decide (first[k]∈l))=true:=by grind
     rw[pR _ _ _ i,this];simpa using x
 . have:k=first.length:=by omega
   subst this;rw[List.take_length]at a;exact .lV a.W (.less a.1 (.done h))
structure Fr.Good(f:Fr):Prop where
 fits:f.Fits
 fr:0<=f.bV/\f.bV<=3
 to:0<=f.jj/\f.jj<=3
 le:f.bV<=f.jj
 oZ:1<=f.oZ/\f.oZ<=6
 eQ:1<=f.eQ/\f.eQ<=6
 qt:f.aF.length<=6
 Nr:∀e∈f.aF,fJ f.roads.length e=0
 Tr:kX f.roads=0
theorem pS(g:rv->Int):∀{l:List rv},eR g l=0->∀e∈l,g e=0
 |[],_,e,he=>by simp at he
 | a ::l,h,e,he=>by
   unfold eR at h;split at h
   . next b=>
     rcases List.mem_cons.1 he with rfl|he
     . exact b
     . exact pS g h e he
   omega
theorem Fr.uo{f:Fr}(c:f.Fits)(h:check f=0):f.Good:=by
 unfold check at h;split at h
 . omega
 next d=>
 split at h
 . cases h
 next a=>
 split at h
 . cases h
 next e=>
 split at h
 . cases h
 next b=>
 split at h
 . cases h
 next g=>
 simp only[Bool.not_eq_false,Bool.and_eq_true]at a b;exact⟨c,dc a.1,dc a.2,by omega,dc b.1,dc b.2,by omega,pS _ h,by omega⟩
theorem yE{p:Int}{e:rv}(h:fJ p e=0):(0<=e.hour/\e.hour<=72)/\(0<=e.place/\e.place<=p-1)/\(0<=e.lr/\e.lr<=5)/\(0<=e.bS/\e.bS<=30)/\(0<=e.pr/\e.pr<=2)/\sI none e.marks=0:=by
 unfold fJ at h;split at h
 . cases h
 next a=>
 split at h
 . cases h
 next b=>
 split at h
 . cases h
 next c=>
 split at h
 . omega
 next g=>
 split at h
 . cases h
 next d=>
 split at h
 . cases h
 next f=>
 simp only[Bool.not_eq_false]at a b c d f;exact⟨dc a,dc b,dc c,dc d,dc f,by omega⟩
theorem yF{f:Fr}(a:f.Good)(e:rv):(jG f e).length<=4:=by
 unfold jG;have:=a.fr;have:=a.to
 grind
theorem yG{f:Fr}(a:f.Good)(e:rv):(c5 f e).length<=5:=by
 unfold c5;have:=yF a e
 grind
theorem JY{f:Fr}{e:rv}(h:e.pr≠0):jG f e=(List.range (f.jj-f.bV+1).toNat).map λi:Nat=>e.bS-f.jj+(i:Int):=if_pos h
theorem DY{b mb:Nat}{f:Fr}{l:List Int}(H:f.Good)(Y:l≠[])(hl:l.length<=1000000)(hb:∀n∈l,0<=n/\n<f.aF.length)(h:KF (.val (ints (jl f l))) σ):aB prog m 252 [jU b mb f 0,ints l] σ KF:=by
 have h6:=H.qt;have ad:=H.fr;have al:=H.to;have ar:=H.le;refine fs SK 2 Tryz.func252 rfl rfl (by rfl) (by kernel_rfl) ?_
 simp[Tryz.f252];refine af.loop l.length (λk s=>∃env A,s=⟨env,A,[],.no⟩/\env 0=jU b mb f 0/\env 11=ints l/\env 12=int l.length/\env 13=int k/\Tok σ A (env 5) 1 ((l.take k).map λn=>ints (c5 f (cx f n)))) ⟨_,_,rfl,by simp,by simp,by simp,by simp,.nil σ 1⟩ ?_
 rintro c0 k _ hk ⟨env,A,rfl,C,p,g,o,d⟩ S
 rcases Nat.lt_or_ge k l.length with g1|g1
 . obtain ⟨L,n1⟩:=hb _ (List.getElem_mem g1)
   have n2:l[k].toNat<f.aF.length:=by omega
   obtain⟨e,he⟩:∃e,e=f.aF[l[k].toNat]:=⟨_,rfl⟩;have Z:cx f l[k]=e:=by simp[cx,List.getD_eq_getElem?_getD,n2,he]
   have av:=yE (H.Nr e (by simp_all))
   have t:(l.take (k+1)).map (λn=>ints (c5 f (cx f n)))=(l.take k).map (λn=>ints (c5 f (cx f n)))++[ints (c5 f e)]:=by rw[List.take_succ_eq_append_getElem g1,List.map_append];simp[Z]
   refine rn ?_;simp[C,p,g,o,g1,L,n2,<-he];refine bq.intro λc hc=>?_
   simp
   have a7:σ c=none:=by
    cases q:σ c with
    |none=>rfl
    |some x=>rw[d.1 c x q]at hc;cases hc
   have B:Tok σ (A.set c (.cells [int e.hour,int e.place,int e.lr,ints e.marks,int e.bS,int e.pr])) (env 5) 1 ((l.take k).map λn=>ints (c5 f (cx f n))):=d.beside a7 (λq=>by obtain⟨_,x,hx⟩:=d.bZ q;grind)
   have G:(A.set c (.cells [int e.hour,int e.place,int e.lr,ints e.marks,int e.bS,int e.pr])) c=some (.cells [int e.hour,int e.place,int e.lr,ints e.marks,int e.bS,int e.pr]):=aa.ao _ _ _;generalize A.set c (.cells [int e.hour,int e.place,int e.lr,ints e.marks,int e.bS,int e.pr])=D at B G;refine aG.intro (λM=>?_) (λM=>?_)<;>simp at M<;>simp[M]
   . have f1:-9223372036854775808<=f.jj-f.bV/\f.jj-f.bV<=9223372036854775807:=by omega
     have f2:-9223372036854775808<=f.jj-f.bV+1/\f.jj-f.bV+1<=9223372036854775807:=by omega
     simp[C,f1.1,f1.2,f2.1,f2.2];refine rn ?_;simp;obtain⟨a5,I⟩:∃a,a=env 5:=⟨_,rfl⟩;rw[<-I]at B;obtain⟨cnt,O⟩:∃cnt:Nat,(cnt:Int)=f.jj-f.bV+1:=⟨(f.jj-f.bV+1).toNat,by omega⟩
     have ax:cnt<=4:=by omega
     have a8:jG f e=(List.range cnt).map λi:Nat=>e.bS-f.jj+(i:Int):=by rw[JY M];grind
     refine af.loop cnt (λj s=>∃env J,s=⟨env,J,[],.no⟩/\env 0=jU b mb f 0/\env 11=ints l/\env 12=int l.length/\env 13=int k/\env 5=a5/\env 8=.ref c 0/\env 41=int cnt/\env 42=int j/\Tok D J (env 9) 1 (((List.range j).map λi:Nat=>e.bS-f.jj+(i:Int)).map int)) ⟨_,_,rfl,by simp[C,p,g,o,<-I,O,Tok.nil]⟩ ?_
     clear C p g o d I
     rintro c1 j _ hj ⟨env,J,rfl,C,p,g,o,T,N,E,F,u⟩ a9
     have v:=u.1 _ _ G
     rcases Nat.lt_or_ge j cnt with g3|g3
     . have f3:-9223372036854775808<=e.bS-f.jj/\e.bS-f.jj<=9223372036854775807:=by omega
       have f4:-9223372036854775808<=e.bS-f.jj+j/\e.bS-f.jj+j<=9223372036854775807:=by omega
       refine rn ?_;simp[C,N,E,F,g3,v,f3.1,f3.2,f4.1,f4.2];refine aR lay rfl rfl rfl dT rfl dT rfl qp (by decide) (by simp only[List.length_map,List.length_range,List.length_cons,List.length_nil];omega) (σ0:=D) (es:=((List.range j).map λi:Nat=>e.bS-f.jj+(i:Int)).map int) (xs:=[int (e.bS-f.jj+j)]) (by simpa using u) (.inr ⟨_,rfl⟩) λa' P w=>?_
       refine pg ?_;simp;refine rn ?_;simp[F];refine⟨by omega,a9 _ g3 ⟨_,_,rfl,by simp[C],by simp[p],by simp[g],by simp[o],by simp[T],by simp[N],by simp[E],by simp,?_⟩⟩
       rw[List.range_succ,List.map_append,List.map_append];simpa using w
     . have:j=cnt:=by omega
       subst this;rw[<-a8]at u;have ay:=yF H e;have U:Wl [env 9,int e.bS] [ints (jG f e),int e.bS]:=.cons u.W (.cons (.refl _) .nil)
       by_cases V:e.pr=1
       . refine af.CS 9 u.W ?_
         have y:c5 f e=jG f e:=if_neg λq=>q.1 V
         refine rn ?_;simp[T,N,E,F,v,V];refine aR lay rfl rfl rfl sH rfl sH rfl dT (by decide) (by simp;omega) (σ0:=σ) (es:=(l.take k).map λn=>ints (c5 f (cx f n))) (xs:=[ints (c5 f e)]) (by simpa using B.up u.1) (.inr ⟨_,by rw[y];simp;rfl⟩) λa4 K z=>?_
         refine rn ?_;simp[o];refine⟨by omega,S _ g1 ⟨_,_,rfl,by simp[C],by simp[p],by simp[g],by simp,?_⟩⟩
         rw[t];simpa using z
       . have Q:(e.pr !=1)=true:=by simp[V]
         by_cases X:e.bS∈jG f e
         . have y:c5 f e=jG f e:=if_neg λq=>q.2 X
           refine rn ?_;simp[N,E,F,v,Q];refine aM Tryz.func66 rfl rfl U (ik (by omega) ?_)
           refine af.CS 9 (a':=ints (jG f e)) (by simpa using u.W) ?_
           refine rn ?_;simp[T,X];refine aR lay rfl rfl rfl sH rfl sH rfl dT (by decide) (by simp;omega) (σ0:=σ) (es:=(l.take k).map λn=>ints (c5 f (cx f n))) (xs:=[ints (c5 f e)]) (by simpa using B.up u.1) (.inr ⟨_,by rw[y];simp;rfl⟩) λa4 K z=>?_
           refine rn ?_;simp[o];refine⟨by omega,S _ g1 ⟨_,_,rfl,by simp[C],by simp[p],by simp[g],by simp,?_⟩⟩
           rw[t];simpa using z
         . have y:c5 f e=jG f e++[e.bS]:=if_pos ⟨V,X⟩
           refine rn ?_;simp[N,E,F,v,Q];refine aM Tryz.func66 rfl rfl U (ik (by omega) ?_)
           refine rn ?_;simp[N,X,v];refine aR lay rfl rfl rfl dT rfl dT rfl qp (by decide) (by simp;omega) (σ0:=D) (es:=(jG f e).map int) (xs:=[int e.bS]) (by simpa using u) (.inr ⟨_,rfl⟩) λa' P w=>?_
           refine af.CS 74 (a':=AV.sl 1 ((jG f e).map int++[int e.bS]) .any) (by simpa using w.W) ?_
           refine rn ?_;simp[T];refine aR lay rfl rfl rfl sH rfl sH rfl dT (by decide) (by simp;omega) (σ0:=σ) (es:=(l.take k).map λn=>ints (c5 f (cx f n))) (xs:=[ints (c5 f e)]) (by simpa using B.up w.1) (.inr ⟨_,by rw[y];simp;rfl⟩) λa4 K z=>?_
           refine rn ?_;simp[o];refine⟨by omega,S _ g1 ⟨_,_,rfl,by simp[C],by simp[p],by simp[g],by simp,?_⟩⟩
           rw[t];simpa using z
   . have y:c5 f e=[e.bS]:=by
      simp[c5,jG,M]
     simp[G,M];have U:Wl [AV.lit (.slice none 0 0),int e.bS] [ints [],int e.bS]:=.cons (cz 1) (.cons (.refl _) .nil);refine aM Tryz.func66 rfl rfl U (ik (by simp) ?_)
     refine rn ?_;simp[G];refine aR lay rfl rfl rfl dT rfl dT rfl qp (by decide) (by simp) (σ0:=D) (es:=[]) (xs:=[int e.bS]) (by simpa using Tok.nil D 1) (.inr ⟨_,rfl⟩) λa' P w=>?_
     refine af.CS 74 (a':=AV.sl 1 [int e.bS] .any) (by simpa using w.W) ?_
     refine rn ?_;simp;refine aR lay rfl rfl rfl sH rfl sH rfl dT (by decide) (by simp;omega) (σ0:=σ) (es:=(l.take k).map λn=>ints (c5 f (cx f n))) (xs:=[ints (c5 f e)]) (by simpa using B.up w.1) (.inr ⟨_,by rw[y];simp;rfl⟩) λa4 K z=>?_
     refine rn ?_;simp[o];refine⟨by omega,S _ g1 ⟨_,_,rfl,by simp[C],by simp[p],by simp[g],by simp,?_⟩⟩
     rw[t];simpa using z
 . have:k=l.length:=by omega
   subst this;rw[List.take_length]at d;refine af.CS 5 d.W ?_;have R:0<l.length:=List.length_pos_iff.2 Y;refine rn ?_;simp[g,o,R];refine mT lay rfl sH rfl dT (es:=l.map λn=>ints (c5 f (cx f n))) (sp:=.any) (l:=1) (h:=l.length) ?_ (λcap ab=>⟨rfl,⟨rfl,by simp⟩,⟨_,rfl⟩,by omega⟩) (by simp) ?_
   . simp
   obtain⟨L,r,rfl⟩:∃L r,l=L::r:=by
    cases l with
    |nil=>simp_all
    |cons a r=>simp_all
   refine pg ?_;simp
   have e:List.take r.length (List.map (λn=>ints (c5 f (cx f n))) r)=(r.map λn=>c5 f (cx f n)).map ints:=by
    rw[List.take_of_length_le (by simp)]
    simp
   rw[e];have hlen:=yG H (cx f L);refine cf Tryz.func253 rfl (GM (first:=c5 f (cx f L)) (others:=r.map λn=>c5 f (cx f n)) (by omega) (by grind) (λx hx=>?_) ?_)
   . obtain⟨n,_,rfl⟩:=List.mem_map.1 hx
     have:=yG H (cx f n);omega
   refine pg ?_;simp;refine rn ?_;simp;refine .less d.1 (.done ?_);simpa[jl]using h
theorem tL{f:Fr}(h:check f=0):fW f []=0:=by unfold fW;simp_all
theorem DZ{f:Fr}{l:List Int}(h:check f=0)(a:∀n∈l,0<=n/\n<f.aF.length):fW f l=0:=by
 unfold fW;rw[if_neg (by simp[h]),if_pos];rw[List.all_eq_true];intro n b;have:=a n b;simp[cZ];omega
theorem rB.le{σ σ':aa}{b mb:Nat}(h:rB σ b mb σ'):σ.Le σ':=by rw[h.eq];exact aa.r7 (aa.r7 (aa.le_refl _) h.xI) (by rw[aa.ak _ _ h.ne];exact h.hb)
structure Pw(f:Fr)(l:List Int):Prop where
 ok:sJ f l=0
 len:l.length<=1000000
theorem Fx(f:Fr):∀{l:List Int}{p:Option Int},gS f p l=0->∀n∈l,0<=n/\n<f.aF.length
 |[],_,_,n,hn=>by simp at hn
 | a::l,p,h,n,hn=>by
   unfold gS at h;split at h
   . cases h
   next b=>
   split at h
   . cases h
   next c=>
   rcases List.mem_cons.1 hn with rfl|hn
   . simp[cZ]at b;omega
   . exact Fx f h n hn
theorem Pw.mem{f:Fr}{l:List Int}(h:Pw f l):∀n∈l,0<=n/\n<f.aF.length:=by
 have:=h.ok;unfold sJ at this;split at this
 . cases this
 . exact Fx f this
theorem Pw.ne{f:Fr}{l:List Int}(h:Pw f l):l≠[]:=λe=>by have:=h.ok;subst e;simp[sJ]at this
theorem GN{f:Fr}{l:List Int}(e:f.Fits)(i:check f=0)(g:Pw f l)(h:∀b mb σ',rB σ b mb σ'->KF (.val (.bp [jU b mb f 0,int 0])) σ'):aB prog m 143 [dt f,ints l] σ KF:=by
 have j:=g.len;refine fs Sx 2 Tryz.func143 rfl rfl (by rfl) (by kernel_rfl) ?_;simp[Tryz.f143];have a:=tL i;have k:Wl [AV.agg (B1 f),AV.lit (.slice none 0 0)] [dt f,ints []]:=.cons (.refl _) (.cons (cz 1) .nil);refine aM Tryz.func113 rfl rfl k (z8 e (by simp) (λq=>absurd a q) λ_ b mb σ' n=>?_);refine rn ?_;simp;refine bq.intro λc d=>?_
 simp;refine cf Tryz.func174 rfl (Nq e (by omega) ?_);rw[g.ok];refine rn ?_;simp;refine cf Tryz.func111 rfl (Ox ?_);refine rn ?_;simp;exact .less (aa.r7 (aa.le_refl _) d) (.done (h b mb σ' n))
theorem Aa{a n:Int}(b:0<=n)(h:KF (.val (u8 (b0 a n))) σ):aB prog m 257 [u8 a,int n] σ KF:=by
 refine fs [] 2 Tryz.func257 rfl rfl (by rfl) (by kernel_rfl) ?_;simp[Tryz.f257];refine⟨b,?_⟩;simp[ry];exact .done h
theorem nz{l:List Int}(o:l.length<1152921504606846976)(f:∀n∈l,0<=n)(h:KF (.val (u8 (aW l))) σ):aB prog m 255 [ints l] σ KF:=by
 refine fs [] 1 Tryz.func255 rfl rfl (by rfl) (by kernel_rfl) ?_;simp[Tryz.f255];refine af.loop l.length (λk s=>∃env,s=⟨env,σ,[],.no⟩/\env 3=u8 (aW (l.take k))/\env 4=.fn (.func 257) [u8 (aW (l.take k))] []/\env 9=ints l/\env 10=int l.length/\env 11=int k) ⟨_,rfl,by simp[aW]⟩ ?_;rintro p k _ q ⟨env,rfl,g,i,d,c,a⟩ j;refine rn ?_;simp[c,a];refine aG.intro (λb=>?_) (λb=>?_)<;>(try simp[-Int.not_lt,-Int.not_le,-Nat.not_lt,-Nat.not_le]at b)<;>(try simp[g,i,d,a,b])
 . have e:aW (l.take (k+1))=b0 (aW (l.take k)) l[k]:=by
    unfold aW;rw[List.take_succ_eq_append_getElem b,List.foldl_append];rfl
   refine cP Tryz.func257 rfl rfl rfl (Aa (f _ (List.getElem_mem b)) ?_);rw[<-e];refine rn ?_;simp[a];exact⟨by omega,j _ b ⟨_,rfl,by simp,by simp,by simp[d],by simp[c],by simp⟩⟩
 . have:k=l.length:=by omega
   subst this;rw[List.take_length];exact .done h
def Ab(x:Int):Int:=B3 x (Ow x 1)
def rC:Nat->Int->Int
 |0,x=>x
 |n+1,x=>Ab (rC n x)
def GO:Nat->Int->Int
 |0,_=>0
 |n+1,x=>if x=0 then 0 else 1+GO n (Ab x)
def cU(a b:Int):Int:=GO 8 (wA a b)
theorem wB{a b:Int}(l:rC 8 (wA a b)=0)(h:KF (.val (int (cU a b))) σ):aB prog m 256 [u8 a,u8 b] σ KF:=by
 refine fs [] 2 Tryz.func256 rfl rfl (by rfl) (by kernel_rfl) ?_
 simp[Tryz.f256,GJ];refine af.loop 8 (λk s=>∃env,s=⟨env,σ,[],.no⟩/\env 5=int k/\env 6=u8 (rC k (wA a b))/\cU a b=k+GO (8-k) (rC k (wA a b))) ⟨_,rfl,by simp,by simp;rfl,by simp[rC,cU]⟩ ?_
 rintro n k _ o ⟨env,rfl,g,f,c⟩ i
 refine rn ?_;simp[f];refine aG.intro (λd=>?_) (λd=>?_)<;>(try simp[-Int.not_lt,-Int.not_le,-Nat.not_lt,-Nat.not_le]at d)<;>(try simp[g,f,d])
 . have j:k<8:=by
    grind
   refine⟨by omega,?_⟩
   simp[sK,GK];refine i _ j ⟨_,rfl,by simp,by simp[rC,Ab],?_⟩
   have e:8-k=(8-(k+1))+1:=by omega
   rw[e,GO,if_neg d]at c;rw[c];simp only[rC];omega
 . rw[d]at c
   have e:GO (8-k) 0=0:=by cases 8-k<;>simp[GO]
   rw[e]at c;rw[c]at h;exact .done (by grind)
abbrev wC(x:Int):AV:=.agg [u8 x]
theorem Ns{x n:Int}(a:0<=n)(h:KF (.val (wC (b0 x n))) σ):aB prog m 187 [wC x,int n] σ KF:=by
 refine aB.start lay [2] SE 2 Tryz.func187 rfl rfl (by rfl) (by kernel_rfl) ?_;simp[Tryz.f187];refine bq.intro λc f=>?_
 simp;refine bq.intro λd hd=>?_
 obtain⟨b,e,hd⟩:=aa.aH hd;simp[e,aa.ak,ry,a];refine af.run lay [2] ?_;simp[b,aa.ak];exact .less (by repeat (first|exact aa.le_refl _|assumption|refine aa.eo ?_ (by assumption)|refine aa.kJ ?_ (by assumption))) (.done h)
theorem JZ{x:Int}(h:KF (.val (ints (aC x))) σ):aB prog m 205 [wC x] σ KF:=by
 refine fs [] 1 Tryz.func205 rfl rfl (by rfl) (by kernel_rfl) ?_;simp[Tryz.f205];refine af.loop 6 (λk s=>∃env b,s=⟨env,b,[],.no⟩/\env 1=.cp (wC x) 0/\env 5=int k/\Tok σ b (env 3) 1 ((((List.range k).map λn:Nat=>(n:Int)).filter λn=>eL x n).map int)) ⟨_,_,rfl,by simp,by simp,.nil σ 1⟩ ?_;rintro l k _ o ⟨env,b,rfl,d,c,a⟩ f;rcases Nat.lt_or_ge k 6 with g1|g1
 . have e:(k:Int)<6:=by omega
   have p:(((List.range k).map λn:Nat=>(n:Int)).filter λn=>eL x n).length<=k:=by grind
   have q:(((List.range (k+1)).map λn:Nat=>(n:Int)).filter λn=>eL x n)=(((List.range k).map λn:Nat=>(n:Int)).filter λn=>eL x n)++if eL x k then[(k:Int)]else[]:=by
    rw[List.range_succ,List.map_append,List.filter_append]
    grind
   refine rn ?_;simp[d,c,e,sK];have g:eL x k=(B3 (x.fdiv (2 ^ min k IntKind.u8.bits)) 1==1):=by simp[eL]
   rw[<-g];cases hb:eL x k
   . simp[c]
     refine⟨by omega,f _ g1 ⟨_,_,rfl,by simp[d],by simp,?_⟩⟩
     simp_all
   . simp
     refine aR lay rfl rfl rfl dT rfl dT rfl qp (by decide) (by grind) (σ0:=σ) (es:=(((List.range k).map λn:Nat=>(n:Int)).filter λn=>eL x n).map int) (xs:=[int k]) (by simp_all) (.inr ⟨_,rfl⟩) λr i j=>?_
     refine rn ?_;simp[c];refine⟨by omega,f _ g1 ⟨_,_,rfl,by simp[d],by simp,?_⟩⟩
     simp_all
 . have:k=6:=by omega
   subst this;refine rn ?_;simp[c];exact .lV a.W (.less a.1 (.done h))
def kz(a b:Int):Int:=if 0<a/\a<b then 3 else if a=b then 1 else 2
theorem D5{a b:Int}(h:KF (.val (int (kz a b))) σ):aB prog m 202 [int a,int b] σ KF:=by
 unfold kz at h;refine fs [] 2 Tryz.func202 rfl rfl (by rfl) (by kernel_rfl) ?_;simp[Tryz.f202];refine qJ.intro (λd=>?_) (λd=>?_)<;>(try simp[-Int.not_lt,-Int.not_le,-Nat.not_lt,-Nat.not_le]at d)<;>(try simp[d]at h)<;>(try simp[d])<;>(try exact .done h)
 . refine aG.intro (λe=>?_) (λe=>?_)<;>(try simp[-Int.not_lt,-Int.not_le,-Nat.not_lt,-Nat.not_le]at e)<;>(try simp[e]at h)<;>(try simp[e])<;>(try exact .done h)
   . have:a≠b:=by omega
     refine aG.intro (λc=>?_) (λc=>?_)<;>(try simp[-Int.not_lt,-Int.not_le,-Nat.not_lt,-Nat.not_le]at c)<;>(try simp[c])
     . omega
     . exact .done h
   . refine aG.intro (λc=>?_) (λc=>?_)<;>(try simp[-Int.not_lt,-Int.not_le,-Nat.not_lt,-Nat.not_le]at c)<;>(try simp[c]at h)<;>(try simp[c])<;>(try exact .done h)
 . refine aG.intro (λc=>?_) (λc=>?_)<;>(try simp[-Int.not_lt,-Int.not_le,-Nat.not_lt,-Nat.not_le]at c)<;>(try simp[c]at h)<;>(try simp[c])<;>(try exact .done h)
theorem yH{l:List Int}(b:l≠[])(c:l.length<=1000000000)(h:∀a σ',kI σ σ' a 1 (l.map int)->KF (.val a) σ'):aB prog m 80 [ints l] σ KF:=by
 refine fs [] 1 Tryz.func80 rfl rfl (by rfl) (by kernel_rfl) ?_;simp[Tryz.f80];refine AN lay rfl dT rfl rfl (.inr (.inl ⟨rfl,by simp_all,rfl⟩)) (.inl ⟨rfl,rfl⟩) ?_;refine rn ?_;simp;refine qF lay rfl rfl rfl dT rfl dT rfl qp (by decide) (by simp;omega) (σ0:=σ) (es:=[]) (xs:=l.map int) (.empty σ 1) (.inl (.inr ⟨_,rfl⟩)) (by simp) λd σ' e=>?_
 refine rn ?_;simp;exact .done (h _ _ (by simp_all))
def mJ(lt:Int->Int->Bool)(x:Int):List Int->List Int
 |[]=>[x]
 |y::r=>if lt x y then y::mJ lt x r else x::y::r
def fj(lt:Int->Int->Bool)(l:List Int):List Int:=l.foldl (λr x=>mJ lt x r) []
theorem Cb(lt:Int->Int->Bool)(x:Int):∀r,(mJ lt x r).length=r.length+1
 |[]=>rfl
 |y::r=>by unfold mJ;split<;>simp[Cb lt x r]
theorem kA(lt:Int->Int->Bool)(l:List Int):(fj lt l).length=l.length:=by
 have key:∀(l r:List Int),(l.foldl (λr x=>mJ lt x r) r).length=r.length+l.length:=by
  intro l;induction l with
  |nil=>intro r;rfl
  |cons a l b=>intro r;rw[List.foldl_cons,b,Cb];simp;omega
 rw[fj,key];simp
theorem Cc(lt:Int->Int->Bool)(x:Int):∀(r:List Int) (y:Int),y∈mJ lt x r↔y=x\/y∈r
 |[],y=>by simp[mJ]
 | z ::r,y=>by
   unfold mJ;split
   . rw[List.mem_cons,Cc lt x r y,List.mem_cons]
     grind
   . simp
theorem yI(lt:Int->Int->Bool)(l:List Int)(y:Int):y∈fj lt l↔y∈l:=by
 have key:∀(l r:List Int),y∈l.foldl (λr x=>mJ lt x r) r↔y∈r\/y∈l:=by
  intro l;induction l with
  |nil=>grind
  | cons a l b=>
    intro r;rw[List.foldl_cons,b,Cc,List.mem_cons]
    grind
 rw[fj,key];simp
def Cd(m:Mo)(y:AV)(c:Int->Int->Int)(In:Int->Prop):Prop:=∀(a b:Int) (σ:aa) (KF:cJ->aa->Prop),In a->In b->KF (.val (int (c a b))) σ->bz prog m y [int a,int b] σ KF
theorem Us{α:Type}{A B:List α}{x y:α}{n:Nat}(a:A.length=n):(A++y::x::B)[n]?=some y/\(A++y::x::B)[n+1]?=some x/\((A++y::x::B).set n x).set (n+1) y=A++x::y::B/\((A++y::x::B).set (n+1) y).set n x=A++x::y::B:=by simp_all
theorem D9{y:AV}{c:Int->Int->Int}{In:Int->Prop}{l:List Int}{b cap:Nat}{rest:List AV}(W:Cd m y c In)(J:∀x∈l,In x)(hl:l.length<=1000000)(hb:σ b=some (.cells (l.map int++rest)))
 (h:KF (.val (.bp [])) (σ.set b (.cells ((fj (λa b=>decide (c a b<0)) l).reverse.map int++rest)))):aB prog m 209 [.kB b 0 l.length cap,int 0,int l.length,y] σ KF:=by
 refine fs SI 4 Tryz.func209 rfl rfl (by rfl) (by kernel_rfl) ?_
 simp[Tryz.f209];obtain⟨lt,D⟩:∃lt,lt=λa b=>decide (c a b<0):=⟨_,rfl⟩
 rw[<-D]at h;refine af.loop l.length (λi s=>∃env g,s=⟨env,g,[],.no⟩/\env 0=.kB b 0 l.length cap/\env 1=int 0/\env 2=int l.length/\env 3=y/\env 8=int ((i:Int)+1)/\g=σ.set b (.cells ((fj lt (l.take (i+1))).reverse.map int++((l.drop (i+1)).map int++rest)))) ⟨_,_,rfl,by simp,by simp,by simp,by simp,by simp,?_⟩ ?_
 . have e:(fj lt (l.take 1)).reverse.map int++((l.drop 1).map int++rest)=l.map int++rest:=by
    cases l with
    |nil=>simp[fj]
    |cons a l=>simp[fj,mJ]
   rw[e]
   funext d
   by_cases q:d=b
   . simp_all
   . rw[aa.ak _ _ q]
 rintro c0 i _ hi ⟨env,g,rfl,t,u,v,E,w,j⟩ X
 rcases Nat.lt_or_ge (i+1) l.length with g1|g1
 . have Q:(i:Int)+1<l.length:=by omega
   obtain⟨S,M⟩:∃S,S=fj lt (l.take (i+1)):=⟨_,rfl⟩;have R:S.length=i+1:=by rw[M,kA,List.length_take];omega
   have T:∀x∈S,In x:=λx N=>J x (List.mem_of_mem_take ((yI lt _ x).1 (M ▸ N)))
   have F:fj lt (l.take (i+1+1))=mJ lt l[i+1] S:=by rw[M,fj,List.take_succ_eq_append_getElem g1,List.foldl_append];rfl
   obtain⟨x,N⟩:∃x,x=l[i+1]:=⟨_,rfl⟩;have K:In x:=J x (by simp_all)
   have U:l.drop (i+1)=x::l.drop (i+2):=by rw[N];exact List.drop_eq_getElem_cons g1
   rw[<-M,U]at j;rw[<-N]at F;refine rn ?_;simp[v,w,Q]
   refine af.loop (i+1) (λk s=>∃env g r f,s=⟨env,g,[],.no⟩/\env 0=.kB b 0 l.length cap/\env 1=int 0/\env 2=int l.length/\env 3=y/\env 8=int ((i:Int)+1)/\env 9=int f.length/\S=r++f/\f.length+k=i+1/\mJ lt x S=r++mJ lt x f/\
    g=σ.set b (.cells ((f.reverse.map int)++int x::(r.reverse.map int++((l.drop (i+2)).map int++rest))))) ⟨_,_,[],S,rfl,by simp[t],by simp[u],by simp[v],by simp[E],by simp[w],by simp[R],rfl,by omega,rfl,by grind⟩ ?_
   clear t u v E w j
   rintro c1 k _ hk ⟨env,g,r,f,rfl,t,u,v,E,w,O,G,hlen,p,j⟩ V
   cases f with
   | nil=>
     simp only[List.length_nil,Nat.zero_add]at hlen;simp only[List.append_nil]at G;subst G
     have o:g=σ.set b (.cells ((fj lt (l.take (i+1+1))).reverse.map int++((l.drop (i+1+1)).map int++rest))):=by rw[j,F,p];simp[mJ]
     refine rn ?_;simp[u,O];refine⟨?_,?_⟩
     all_goals
      refine rn ?_;simp[w];refine⟨by omega,X _ (by omega) ⟨_,_,rfl,by simp[t],by simp[u],by simp[v],by simp[E],by simp,o⟩⟩
   | cons z f=>
     obtain⟨e1,e2,e3,e4⟩:=Us (A:=f.reverse.map int) (B:=r.reverse.map int++((l.drop (i+2)).map int++rest)) (x:=int x) (y:=int z) (n:=f.length) (by simp)
     have C:g b=some (.cells (f.reverse.map int++int z::int x::(r.reverse.map int++((l.drop (i+2)).map int++rest)))):=by rw[j,aa.ao];simp
     have L:In z:=T z (by grind)
     have f1:(0:Int)<(f.length:Int)+1:=by omega
     have Y:(f.length:Int)+1<l.length:=by grind
     have Z:(f.length:Int)<l.length:=by omega
     have f4:(0:Int)<=(f.length:Int)+1:=by omega
     have f5:((f.length:Int)+1).toNat=f.length+1:=by omega
     have I:-9223372036854775808<=(f.length:Int)/\(f.length:Int)<=9223372036854775807:=by omega
     refine rn ?_;simp[t,u,E,O,f1,Y,Z,f4,f5,I.1,I.2,C];refine⟨W _ _ _ _ K L ?_,W _ _ _ _ K L ?_⟩
     all_goals
      refine pg ?_;simp;refine rn ?_;simp
      by_cases P:c x z<0
      . have f7:f.length+1+1<=f.length+(r.length+(l.length-(i+2)+rest.length)+1+1):=by omega
        have f8:f.length+1<=f.length+(r.length+(l.length-(i+2)+rest.length)+1+1):=by omega
        have H:mJ lt x (z::f)=z::mJ lt x f:=by rw[D];simp[mJ,P]
        simp[t,O,P,f5,I.1,I.2,Y,Z,f4,C,f7,f8];refine rn ?_;simp[O,I.1,I.2];refine V _ (by simp at hlen;omega) ⟨_,_,r++[z],f,rfl,by simp[t],by simp[u],by simp[v],by simp[E],by simp[w],by simp,by rw[G];simp,by simp at hlen;omega,by rw[p,H];simp,?_⟩
        rw[j];simp
      . have H:mJ lt x (z::f)=x::z::f:=by rw[D];simp[mJ,P]
        have o:g=σ.set b (.cells ((fj lt (l.take (i+1+1))).reverse.map int++((l.drop (i+1+1)).map int++rest))):=by rw[j,F,p,H];simp
        simp[w,P];exact⟨by omega,X _ (by omega) ⟨_,_,rfl,by simp[t],by simp[u],by simp[v],by simp[E],by simp,o⟩⟩
 . have o:(fj lt (l.take (i+1))).reverse.map int++((l.drop (i+1)).map int++rest)=(fj lt l).reverse.map int++rest:=by
    rw[List.take_of_length_le (by omega),List.drop_of_length_le (by omega)];simp
   rw[o]at j;have g2:¬(i:Int)+1<l.length:=by omega
   refine rn ?_;simp[v,w,g2];rw[j];exact .done h
theorem Ac{y:AV}{c:Int->Int->Int}{In:Int->Prop}{l:List Int}{b cap:Nat}{rest:List AV}(q:Cd m y c In)(g:∀x∈l,In x)(w:l.length<20)(hb:σ b=some (.cells (l.map int++rest)))
 (h:KF (.val (.bp [])) (σ.set b (.cells ((fj (λa b=>decide (c a b<0)) l).reverse.map int++rest)))):aB prog m 206 [.kB b 0 l.length cap,int l.length,y] σ KF:=by
 refine fs [] 3 Tryz.func206 rfl rfl (by rfl) (by kernel_rfl) ?_;simp[Tryz.f206];have r:¬(20:Int)<=l.length:=by omega
 have t:¬(20:Int)<l.length:=by omega
 refine af.loop 1 (λk s=>∃env,s=⟨env,σ,[],.no⟩/\env 0=.kB b 0 l.length cap/\env 1=int l.length/\env 2=y/\env 6=int 20/\env 7=int 0/\env 8=int 20) ⟨_,rfl,by simp⟩ ?_;rintro z k _ u ⟨env,rfl,j,e,n,f,o,p⟩ v;refine rn ?_;simp[j,e,n,o,p,r];refine cf Tryz.func209 rfl (D9 q g (by omega) hb ?_);refine rn ?_;simp;refine af.loop 1 (λk s=>∃env d,s=⟨env,d,[],.no⟩/\env 1=int l.length/\env 6=int 20/\d=σ.set b (.cells ((fj (λa b=>decide (c a b<0)) l).reverse.map int++rest))) ⟨_,_,rfl,by simp[e],by simp[f],by simp⟩ ?_;clear j e n f o p;rintro A k _ u ⟨env,d,rfl,e,f,i⟩ v;refine rn ?_;simp[e,f,t];rw[i];exact .done h
theorem rD{y:AV}{c:Int->Int->Int}{In:Int->Prop}{l:List Int}{b cap:Nat}{rest:List AV}(e:Cd m y c In)(d:∀x∈l,In x)(f:l.length<20)(hb:σ b=some (.cells (l.map int++rest)))
 (h:KF (.val (.bp [])) (σ.set b (.cells ((fj (λa b=>decide (c a b<0)) l).reverse.map int++rest)))):aB prog m 198 [.kB b 0 l.length cap,y] σ KF:=by
 refine fs [] 2 Tryz.func198 rfl rfl (by rfl) (by kernel_rfl) ?_;simp[Tryz.f198];refine cf Tryz.func206 rfl (Ac e d f hb ?_);refine rn ?_;simp;exact .done (by simpa using h)
theorem Nt{y:AV}{c:Int->Int->Int}{In:Int->Prop}{l:List Int}(r:Cd m y c In)(f:∀x∈l,In x)(s:l.length<20)(g:l≠[])(i:y.cells=[y]/\y.flat=true)(h:KF (.val (ints (fj (λa b=>decide (c a b<0)) l).reverse)) σ):aB prog m 177 [.agg [y],ints l] σ KF:=by
 refine fs [] 2 Tryz.func177 rfl rfl (by rfl) (by kernel_rfl) ?_;simp[Tryz.f177,i.2];refine cf Tryz.func80 rfl (yH g (by omega) λa j k=>?_)
 obtain⟨b,cap,rest,rfl,n,o,v,p,q⟩:∃b cap rest,a=.kB b 0 (l.map int).length cap/\σ b=none/\(l.map int).length<=cap/\(∀e∈l.map int,e.cells.length=1)/\j b=some (.cells (flatten (l.map int)++rest))/\rest.length=(cap-(l.map int).length)*1:=by
  rcases k.2 with⟨e,_⟩|h
  . simp_all
  . exact h
 have d:∀l:List Int,flatten (l.map int)=l.map int:=λl=>by
  induction l with
  |nil=>rfl
  |cons a l t=>simp[flatten_cons,AV.cells,t]
 rw[d]at p;rw[List.length_map]at o q ⊢;refine rn ?_;simp;refine cf Tryz.func198 rfl (rD r f s p ?_);refine rn ?_;simp;refine kI.thaw (σ0:=σ) (kk:=1) (es:=(fj (λa b=>decide (c a b<0)) l).reverse.map int) ⟨aa.eo k.1 n,.inr ⟨b,cap,rest,?_,n,?_,λe u=>?_,?_,?_⟩⟩ h
 . simp[kA]
 . simpa[kA]using o
 . obtain⟨x,_,rfl⟩:=List.mem_map.1 u;rfl
 . rw[d];simp
 . simpa[kA]using q
def wD(f:Fr)(a b:Int):Int:=DU (cx f a).hour (cx f b).hour
theorem Nu{b mb:Nat}{f:Fr}{x y:Int}(d:0<=x/\x<f.aF.length)(e:0<=y/\y<f.aF.length)(h:KF (.val (int (wD f x y))) σ):aB prog m 175 [int x,int y,.cp (jU b mb f 0) 0] σ KF:=by
 have a:x.toNat<f.aF.length:=by omega
 have c:y.toNat<f.aF.length:=by omega
 have ex:cx f x=f.aF[x.toNat]:=by simp[cx,List.getD_eq_getElem?_getD,a]
 have g:cx f y=f.aF[y.toNat]:=by simp[cx,List.getD_eq_getElem?_getD,c]
 unfold wD at h;rw[ex,g]at h;refine fs SC 3 Tryz.func175 rfl rfl (by rfl) (by kernel_rfl) ?_;simp[Tryz.f175,a,c,d.1,e.1];refine cf Tryz.func176 rfl (DV ?_);refine pg ?_;simp;refine rn ?_;simp;exact .done h
theorem J0{b mb:Nat}{f:Fr}:Cd m (.fn (.func 175) [] [.cp (jU b mb f 0) 0]) (wD f) (λn=>0<=n/\n<f.aF.length):=λx y σ KF a c h=>by refine cP Tryz.func175 rfl rfl rfl (Nu a c h)
end Go.Proofs.YtkcceaplmgdnfaaGreatDoor
