/- Part 6 of the proof. -/
import Derived.Test.YtigilmjkokbblaaGreatDoorK5
set_option linter.all false
namespace Go.Proofs.YtigilmjkokbblaaGreatDoor
open Go.bd Go.Conc
set_option maxHeartbeats 1000000
variable{m:Mo}{σ:aa}{KF:dV->aa->Prop}
theorem dp{n b c:Int}(h:KF (.val (bool (dz n b c))) σ):aB Tryz.prog m 57 [int n,int b,int c] σ KF:=by
 unfold dz at h;refine aB.start lay [] [] 3 Tryz.func57 rfl rfl (by rfl) (by kernel_rfl) ?_;simp[Tryz.f57];refine vv.intro (λa=>?_) (λa=>?_)<;>(try simp[-Int.not_lt,-Int.not_le,-Nat.not_lt,-Nat.not_le]at a)<;>(try simp[a]at h)<;>(try simp[a])<;>(try exact .done h)
theorem Bb{l:List Int}{n:Int}(i:l.length<1152921504606846976)(h:KF (.val (bool (decide (n∈l)))) σ):aB Tryz.prog m 113 [ints l,int n] σ KF:=by
 refine aB.start lay [] [] 2 Tryz.func113 rfl rfl (by rfl) (by kernel_rfl) ?_;simp[Tryz.f113];refine ab.loop l.length (λk s=>∃env,s=⟨env,σ,[],.no⟩/\env 0=ints l/\env 1=int n/\env 5=int k/\n∉l.take k) ⟨_,rfl,by simp⟩ ?_;rintro j k _ o ⟨env,rfl,a,b,c,e⟩ g;rcases Nat.lt_or_ge k l.length with g1|g1
 . have f:(k:Int)<l.length:=by omega
   have f1:-9223372036854775808<=(k:Int)+1/\(k:Int)+1<=9223372036854775807:=by omega
   refine ab.run lay [] ?_;simp[a,b,c,g1,f];refine aI.intro (λd=>?_) (λd=>?_)<;>(try simp[-Int.not_lt,-Int.not_le,-Nat.not_lt,-Nat.not_le]at d)<;>(try simp[a,b,c,d])
   . have:n∈l:=by rw[<-d];exact List.getElem_mem g1
     simp[this]at h;exact .done h
   . exact⟨by omega,g _ g1 ⟨_,rfl,by simp[a,b,c],by simp[a,b,c],by simp,su g1 e d⟩⟩
 . have:k=l.length:=by omega
   subst this;rw[List.take_length]at e;refine ab.run lay [] ?_;simp[a,b,c];simp[e]at h;exact .done h
theorem pH{f:Fr}{n:Int}(a:f.aA.length<1152921504606846976)(h:KF (.val (bool (dz n 0 (f.aA.length-1)))) σ):aB Tryz.prog m 89 [aC f,int n] σ KF:=by
 have f1:-9223372036854775808<=(f.aA.length:Int)-1/\(f.aA.length:Int)-1<=9223372036854775807:=by omega
 refine aB.start lay [] [] 2 Tryz.func89 rfl rfl (by rfl) (by kernel_rfl) ?_;simp[Tryz.f89,f1.1,f1.2];refine an Tryz.func57 rfl rfl (dp ?_);refine ab.run lay [] ?_;simp;exact .done h
theorem wG{f:Fr}{e:gX}(w:f.roads.length<1152921504606846976)(x:e.marks.length<1152921504606846976)(h:KF (.val (int (bf f.roads.length e))) σ):aB Tryz.prog m 58 [aC f,aW e] σ KF:=by
 unfold bf at h;have f1:-9223372036854775808<=(f.roads.length:Int)-1/\(f.roads.length:Int)-1<=9223372036854775807:=by omega
 refine aB.start lay [] UN 2 Tryz.func58 rfl rfl (by rfl) (by kernel_rfl) ?_;simp[Tryz.f58];refine an Tryz.func57 rfl rfl (dp ?_);refine ab.run lay [] ?_;simp;refine aI.intro (λj=>?_) (λj=>?_)<;>(try simp[-Int.not_lt,-Int.not_le,-Nat.not_lt,-Nat.not_le]at j)<;>(try simp[j]at h)<;>(try simp[j,f1.1,f1.2])<;>(try exact .done h);refine an Tryz.func57 rfl rfl (dp ?_);refine ab.run lay [] ?_;simp;refine aI.intro (λl=>?_) (λl=>?_)<;>(try simp[-Int.not_lt,-Int.not_le,-Nat.not_lt,-Nat.not_le]at l)<;>(try simp[l]at h)<;>(try simp[l])<;>(try exact .done h);refine an Tryz.func57 rfl rfl (dp ?_);refine ab.run lay [] ?_;simp;refine aI.intro (λn=>?_) (λn=>?_)<;>(try simp[-Int.not_lt,-Int.not_le,-Nat.not_lt,-Nat.not_le]at n)<;>(try simp[n]at h)<;>(try simp[n])<;>(try exact .done h)
 refine ab.loop e.marks.length (λk s=>∃env,s=⟨env,σ,[],.no⟩/\env 2=.cp (aC f) 0/\env 3=.cp (aW e) 0/\env 5=int k/\mw none e.marks=mw (if k=0 then none else e.marks[k-1]?) (e.marks.drop k)) ⟨_,rfl,by simp⟩ ?_;rintro y k _ z ⟨env,rfl,a,b,c,d⟩ q;rcases Nat.lt_or_ge k e.marks.length with g4|g4
 . have p:(k:Int)<e.marks.length:=by omega
   have A:-9223372036854775808<=(k:Int)+1/\(k:Int)+1<=9223372036854775807:=by omega
   rw[Gl _ k g4]at d;refine ab.run lay [] ?_;simp[a,b,c,g4,p];refine an Tryz.func57 rfl rfl (dp ?_);refine ab.run lay [] ?_;simp[a,b,c];refine aI.intro (λg=>?_) (λg=>?_)<;>(try simp[-Int.not_lt,-Int.not_le,-Nat.not_lt,-Nat.not_le]at g)<;>(try simp[g]at d)<;>(try simp[a,b,c,g])<;>(try exact .done d)
   . refine JC.intro (λi=>?_) (λi=>?_)<;>(try simp[-Int.not_lt,-Int.not_le,-Nat.not_lt,-Nat.not_le]at i)<;>(try simp[i]at d)<;>(try simp[a,b,c,i,g4])<;>(try exact .done d)
     . have t:(k:Int)-1=((k-1:Nat):Int):=by omega
       have r:k-1<e.marks.length:=by omega
       have u:¬k=0:=by omega
       simp[t,r];repeat refine⟨by omega,?_⟩
       try simp[r,u,mL]at d
       refine ab.run lay [] ?_;simp[a,b,c];refine aI.intro (λo=>?_) (λo=>?_)<;>(try simp[-Int.not_lt,-Int.not_le,-Nat.not_lt,-Nat.not_le]at o)<;>(try simp[o]at d)<;>(try simp[a,b,c,o])<;>(try exact .done d)
       . simp[d]at h
         exact .done h
       . refine⟨by omega,q _ g4 ⟨_,rfl,by simp[a,b,c],by simp[a,b,c],by simp,?_⟩⟩
         simp[d,g4]
     . have v:k=0:=by omega
       subst v;simp[mL]at d;refine ab.run lay [] ?_;simp[a,b,c];refine q _ g4 ⟨_,rfl,by simp[a,b,c],by simp[a,b,c],by simp,?_⟩;simp[d,g4]
   . simp[d]at h
     exact .done h
 . have:k=e.marks.length:=by omega
   subst this;simp[mw]at d;simp[d]at h;refine ab.run lay [] ?_;simp[a,b,c];refine an Tryz.func57 rfl rfl (dp ?_);refine ab.run lay [] ?_;simp[a,b,c];refine aI.intro (λg=>?_) (λg=>?_)<;>(try simp[-Int.not_lt,-Int.not_le,-Nat.not_lt,-Nat.not_le]at g)<;>(try simp[g]at h)<;>(try simp[a,b,c,g])<;>(try exact .done h);refine an Tryz.func57 rfl rfl (dp ?_);refine ab.run lay [] ?_;simp[a,b,c];refine aI.intro (λi=>?_) (λi=>?_)<;>(try simp[-Int.not_lt,-Int.not_le,-Nat.not_lt,-Nat.not_le]at i)<;>(try simp[i]at h)<;>(try simp[a,b,c,i])<;>(try exact .done h)
def wH(r:List (List Int))(i j:Nat):Bool:=(decide (i=j) && rd r i j !=0)||rd r i j !=rd r j i||(List.range r.length).any λk=>decide (rd r i j>rd r i k+rd r k j)
theorem HF{r:List (List Int)}{i j:Nat}(b:wH r i i=false)(a:wH r i j=false):cx r i j=false:=by unfold wH at b a;unfold cx;simp only[Bool.or_eq_false_iff,decide_true,Bool.true_and]at b a ⊢;exact⟨⟨b.1.1,a.1.2⟩,a.2⟩
theorem wI{r:List (List Int)}(hr:r.length<1152921504606846976)(hl:∀l∈r,l.length<1152921504606846976)(h:KF (.val (int (fe r))) σ):aB Tryz.prog m 56 [rows r] σ KF:=by
 unfold fe at h;refine aB.start lay [] UM 1 Tryz.func56 rfl rfl (by rfl) (by kernel_rfl) ?_
 simp[Tryz.f56];refine aI.intro (λX=>?_) (λX=>?_)<;>simp at X<;>simp[X]
 . rw[if_pos (show r.length<1 by simp[X])]at h
   exact .done h
 have S:¬r.length<1:=λq=>X (List.length_eq_zero_iff.1 (by omega))
 refine aI.intro (λg2=>?_) (λg2=>?_)<;>simp at g2<;>simp[g2]
 . have L:3<r.length:=by omega
   rw[if_neg S,if_pos L]at h;exact .done h
 have L:¬3<r.length:=by omega
 rw[if_neg S,if_neg L]at h;refine ab.loop r.length (λk s=>∃env,s=⟨env,σ,[],.no⟩/\env 0=rows r/\env 3=int r.length/\env 4=int k/\eV r.length r=eV r.length (r.drop k)) ⟨_,rfl,by simp⟩ ?_
 rintro c0 k _ T ⟨env,rfl,a,b,p,x⟩ ih
 rcases Nat.lt_or_ge k r.length with g4|g4
 . have g:(k:Int)<r.length:=by omega
   rw[wJ _ _ k g4]at x;obtain⟨l,d⟩:∃l,l=r[k]:=⟨_,rfl⟩;have b3:l.length<1152921504606846976:=hl l (by rw[d];exact List.getElem_mem g4)
   by_cases g5:l.length=r.length
   . have M:((l.length:Int) !=r.length)=false:=by simp[g5]
     rw[<-d]at x;refine ab.run lay [] ?_;simp[a,b,p,g4,g,d.symm,M];refine ab.loop l.length (λj s=>∃env,s=⟨env,σ,[],.no⟩/\env 0=rows r/\env 3=int r.length/\env 4=int k/\env 5=int j/\(l.take j).all (dz · 0 9)=true) ⟨_,rfl,by simp[a],by simp[b],by simp[p],by simp,by simp⟩ ?_
     clear a b p
     rintro c1 j _ U ⟨env,rfl,a,b,p,E,y⟩ F
     rcases Nat.lt_or_ge j l.length with g6|g6
     . have z:(j:Int)<r.length:=by omega
       refine ab.run lay [] ?_;simp[a,b,p,E,g4,g,d.symm,g6,z];refine an Tryz.func57 rfl rfl (dp ?_);refine ab.run lay [] ?_;simp[a,b,p,E,g4,g,d.symm];refine aI.intro (λY=>?_) (λY=>?_)<;>(try simp[-Int.not_lt,-Int.not_le,-Nat.not_lt,-Nat.not_le]at Y)<;>(try simp[a,b,p,E,g4,g,d.symm,Y])
       . refine⟨by omega,F _ g6 ⟨_,rfl,by simp[a,b,p,E,g4,g,d.symm],by simp[a,b,p,E,g4,g,d.symm],by simp[a,b,p,E,g4,g,d.symm],by simp,?_⟩⟩
         rw[List.take_succ_eq_append_getElem g6,List.all_append,y];simp[Y]
       . have:l.all (dz · 0 9)=false:=by
          rw[List.all_eq_false];exact⟨_,List.getElem_mem g6,by simp[Y]⟩
         simp[iJ,g5,this]at x;simp[x]at h;exact .done h
     . have:j=l.length:=by omega
       subst this;have Z:¬(l.length:Int)<r.length:=by omega
       rw[List.take_length]at y;have a8:iJ r.length l=0:=by unfold iJ;rw[if_neg (by simp[g5]),if_pos y]
       rw[if_pos a8]at x;refine ab.run lay [] ?_;simp[a,b,p,E,g4,g,d.symm,Z];exact⟨by omega,ih _ g4 ⟨_,rfl,by simp[a,b,p,E,g4,g,d.symm],by simp[a,b,p,E,g4,g,d.symm],by simp,x⟩⟩
   . have M:((l.length:Int) !=r.length)=true:=by
      have:¬(l.length:Int)=r.length:=by omega
      simp[this]
     rw[<-d]at x;simp[iJ,g5]at x;simp[x]at h;refine ab.run lay [] ?_;simp[a,b,p,g4,g,d.symm,M];exact .done h
 have:k=r.length:=by omega
 subst this;simp[eV]at x;rw[if_neg (by rw[x];simp)]at h
 clear ih;have n:∀(i:Nat) (D:i<r.length),r[i].length=r.length:=λi D=>(gS x _ (List.getElem_mem D)).1
 have G:∀(i:Nat) (D:i<r.length) (j:Nat) (U:j<r[i].length),0<=r[i][j]/\r[i][j]<=9:=λi D j U=>iC ((gS x _ (List.getElem_mem D)).2 _ (List.getElem_mem U))
 have v:∀i j,i<r.length->j<r.length->cx r i j=true->KF (.val (int 9)) σ:=λi j g5 g6 hb=>by
  have:((List.range r.length).any λi=>(List.range r.length).any λj=>cx r i j)=true:=List.any_eq_true.2 ⟨i,List.mem_range.2 g5,List.any_eq_true.2 ⟨j,List.mem_range.2 g6,hb⟩⟩
  rw[if_pos this]at h;exact h
 have n4:¬(r.length:Int)<r.length:=by omega
 refine ab.run lay [] ?_;simp[a,b,p,n4];refine ab.loop r.length (λi s=>∃env,s=⟨env,σ,[],.no⟩/\env 0=rows r/\env 3=int r.length/\env 6=int i/\∀i'<i,∀j<r.length,wH r i' j=false) ⟨_,rfl,by simp[a],by simp[b],by simp,by simp⟩ ?_
 clear a b p
 rintro c1 i _ D ⟨env,rfl,a,b,c,t⟩ ih
 rcases Nat.lt_or_ge i r.length with g5|g5
 . have A : (i : Int)<r.length:=by omega
   refine ab.run lay [] ?_;simp[a,b,c,A];refine ab.loop r.length (λj s=>∃env,s=⟨env,σ,[],.no⟩/\env 0=rows r/\env 3=int r.length/\env 6=int i/\env 7=int j/\∀o<j,wH r i o=false) ⟨_,rfl,by simp[a],by simp[b],by simp[c],by simp,by simp⟩ ?_
   clear a b c
   rintro c2 j _ U ⟨env,rfl,a,b,c,f,N⟩ F
   rcases Nat.lt_or_ge j r.length with g6|g6
   . have z : (j:Int)<r.length:=by omega
     have q1:i<r[i].length:=by rw[n i g5];exact g5
     have w:j<r[i].length:=by rw[n i g5];exact g6
     have V:i<r[j].length:=by rw[n j g6];exact g5
     have a9:((i:Int)==(j:Int))=decide (i=j):=by
      by_cases e:i=j
      . simp[e]
      . have:¬(i:Int)=j:=by omega
        simp[e,this]
     by_cases b1:i=j/\r[i][j]≠0
     . obtain⟨rfl,b1⟩:=b1
       have ad:(r[i][i] !=0)=true:=by simpa using b1
       refine ab.run lay [] ?_;simp[a,b,c,f,A,g5,q1,ad];refine ab.run lay [] ?_;simp[a,b,c,f];exact .done (v i i g5 g5 (by unfold cx;rw[dA g5 q1];simp[b1]))
     have O:i=j->r[i][j]=0:=λe=>Classical.byContradiction λq=>b1 ⟨e,q⟩
     by_cases W:r[i][j]=r[j][i]
     . have H:(r[i][j] !=r[j][i])=false:=by simpa using W
       have hz:∃bq:Bool,((i:Int)==(j:Int))=bq/\(bq=true->(r[i][j] !=0)=false):=⟨_,rfl,λq=>by
        have e:i=j:=by have:=of_decide_eq_true q;omega
        simp[O e]⟩
       obtain⟨bq,a7,al⟩:=hz;cases bq
       . refine ab.run lay [] ?_
         simp[a,b,c,f,A,g5,z,g6,q1,w,V,a7,H];refine ab.run lay [] ?_;simp[a,b,c,f]
         ((
           refine ab.loop r.length (λk s=>∃env,s=⟨env,σ,[],.no⟩/\env 0=rows r/\env 3=int r.length/\env 6=int i/\env 7=int j/\env 8=int k/\∀B<k,¬rd r i j>rd r i B+rd r B j) ⟨_,rfl,by simp[a],by simp[b],by simp[c],by simp[f],by simp,by simp⟩ ?_
           clear a b c f
           rintro c3 k _ T ⟨env,rfl,a,b,c,f,P,C⟩ Q
           rcases Nat.lt_or_ge k r.length with g9|g9
           . have R:(k:Int)<r.length:=by omega
             have I:k<r[i].length:=by rw[n i g5];exact g9
             have J:j<r[k].length:=by rw[n k g9];exact g6
             have av:=G i g5 k I;have ax:=G k g9 j J;have f1:-9223372036854775808<=r[i][k]+r[k][j]:=by omega
             have f2:r[i][k]+r[k][j]<=9223372036854775807:=by omega
             refine ab.run lay [] ?_;simp[a,b,c,f,P,R,g5,g6,g9,w,I,J,f1,f2];refine ab.run lay [] ?_
             by_cases u:r[i][k]+r[k][j]<r[i][j]
             . simp[u]
               refine .done (v i j g5 g6 ?_);unfold cx;have:((List.range r.length).any λk=>decide (rd r i j>rd r i k+rd r k j))=true:=List.any_eq_true.2 ⟨k,List.mem_range.2 g9,by rw[dA g5 w,dA g5 I,dA g9 J];simpa using u⟩
               rw[this];simp
             . simp[u,a,b,c,f,P]
               refine⟨by omega,Q _ g9 ⟨_,rfl,by simp[a],by simp[b],by simp[c],by simp[f],by simp,λB ay=>?_⟩⟩
               by_cases e:B=k
               . subst e
                 rw[dA g5 w,dA g5 I,dA g9 J];omega
               . exact C B (by omega)
           . have:k=r.length:=by omega
             subst this;have n9:¬(r.length:Int)<r.length:=by omega
             refine ab.run lay [] ?_;simp[a,b,c,f,P,n9];refine⟨by omega,F _ g6 ⟨_,rfl,by simp[a],by simp[b],by simp[c],by simp,λo K=>?_⟩⟩
             by_cases e:o=j
             . subst e
               unfold wH
               have S:((List.range r.length).any λk=>decide (rd r i o>rd r i k+rd r k o))=false:=by rw[List.any_eq_false];intro k T;simpa using C k (List.mem_range.1 T)
               have L:(decide (i=o) && rd r i o !=0)=false:=by
                by_cases e:i=o
                . rw[dA g5 w,O e];simp
                . simp[e]
               have e3:rd r i o=rd r o i:=by rw[dA g5 w,dA g6 V];exact W
               rw[S,L,e3];simp
             . exact N o (by omega)))
       . have b0:=al rfl
         refine ab.run lay [] ?_;simp[a,b,c,f,A,g5,z,g6,q1,w,V,a7,b0,H];refine ab.run lay [] ?_;simp[a,b,c,f]
         ((
           refine ab.loop r.length (λk s=>∃env,s=⟨env,σ,[],.no⟩/\env 0=rows r/\env 3=int r.length/\env 6=int i/\env 7=int j/\env 8=int k/\∀B<k,¬rd r i j>rd r i B+rd r B j) ⟨_,rfl,by simp[a],by simp[b],by simp[c],by simp[f],by simp,by simp⟩ ?_
           clear a b c f
           rintro c3 k _ T ⟨env,rfl,a,b,c,f,P,C⟩ Q
           rcases Nat.lt_or_ge k r.length with g9|g9
           . have R:(k:Int)<r.length:=by omega
             have I:k<r[i].length:=by rw[n i g5];exact g9
             have J:j<r[k].length:=by rw[n k g9];exact g6
             have av:=G i g5 k I;have ax:=G k g9 j J;have f1:-9223372036854775808<=r[i][k]+r[k][j]:=by omega
             have f2:r[i][k]+r[k][j]<=9223372036854775807:=by omega
             refine ab.run lay [] ?_;simp[a,b,c,f,P,R,g5,g6,g9,w,I,J,f1,f2];refine ab.run lay [] ?_
             by_cases u:r[i][k]+r[k][j]<r[i][j]
             . simp[u]
               refine .done (v i j g5 g6 ?_);unfold cx;have:((List.range r.length).any λk=>decide (rd r i j>rd r i k+rd r k j))=true:=List.any_eq_true.2 ⟨k,List.mem_range.2 g9,by rw[dA g5 w,dA g5 I,dA g9 J];simpa using u⟩
               rw[this];simp
             . simp[u,a,b,c,f,P]
               refine⟨by omega,Q _ g9 ⟨_,rfl,by simp[a],by simp[b],by simp[c],by simp[f],by simp,λB ay=>?_⟩⟩
               by_cases e:B=k
               . subst e
                 rw[dA g5 w,dA g5 I,dA g9 J];omega
               . exact C B (by omega)
           . have:k=r.length:=by omega
             subst this;have n9:¬(r.length:Int)<r.length:=by omega
             refine ab.run lay [] ?_;simp[a,b,c,f,P,n9];refine⟨by omega,F _ g6 ⟨_,rfl,by simp[a],by simp[b],by simp[c],by simp,λo K=>?_⟩⟩
             by_cases e:o=j
             . subst e
               unfold wH
               have S:((List.range r.length).any λk=>decide (rd r i o>rd r i k+rd r k o))=false:=by rw[List.any_eq_false];intro k T;simpa using C k (List.mem_range.1 T)
               have L:(decide (i=o) && rd r i o !=0)=false:=by
                by_cases e:i=o
                . rw[dA g5 w,O e];simp
                . simp[e]
               have e3:rd r i o=rd r o i:=by rw[dA g5 w,dA g6 V];exact W
               rw[S,L,e3];simp
             . exact N o (by omega)))
     . have H:(r[i][j] !=r[j][i])=true:=by simpa using W
       have e:i≠j:=λe=>by subst e;exact W rfl
       have e':((i:Int)==(j:Int))=false:=by rw[a9];simp[e]
       refine ab.run lay [] ?_;simp[a,b,c,f,A,g5,z,g6,q1,w,V,e',H];refine ab.run lay [] ?_;simp[a,b,c,f];exact .done (v i j g5 g6 (by unfold cx;rw[dA g5 w,dA g6 V];simp[W]))
   . have:j=r.length:=by omega
     subst this;have Z:¬(r.length:Int)<r.length:=by omega
     refine ab.run lay [] ?_;simp[a,b,c,f,Z];refine⟨by omega,ih _ g5 ⟨_,rfl,by simp[a,b,c,f],by simp[a,b,c,f],by simp,λi' b4 j K=>?_⟩⟩
     by_cases e:i'=i
     . subst e;exact N j K
     . exact t i' (by omega) j K
 . have:i=r.length:=by omega
   subst this
   have:((List.range r.length).any λi=>(List.range r.length).any λj=>cx r i j)=false:=by rw[List.any_eq_false];intro i D;rw[Bool.not_eq_true,List.any_eq_false];intro j U;rw[Bool.not_eq_true];exact HF (t i (List.mem_range.1 D) i (List.mem_range.1 D)) (t i (List.mem_range.1 D) j (List.mem_range.1 U))
   rw[this]at h;have Z:¬(r.length:Int)<r.length:=by omega
   refine ab.run lay [] ?_;simp[a,b,c,Z];exact .done h
theorem tL{f:Fr}(b:f.Fits)(h:KF (.val (int (check f))) σ):aB Tryz.prog m 22 [aC f] σ KF:=by
 unfold check at h;have u:=b.roads;have r:=b.aA;refine aB.start lay [] UB 1 Tryz.func22 rfl rfl (by rfl) (by kernel_rfl) ?_;simp[Tryz.f22];refine an Tryz.func56 rfl rfl (wI b.roads b.row ?_);refine ab.run lay [] ?_;simp;refine aI.intro (λe=>?_) (λe=>?_)<;>(try simp[-Int.not_lt,-Int.not_le,-Nat.not_lt,-Nat.not_le]at e)<;>(try simp[e]at h)<;>(try simp[e])<;>(try exact .done h);refine an Tryz.func57 rfl rfl (dp ?_);refine ab.run lay [] ?_;simp;refine vv.intro (λg=>?_) (λg=>?_)<;>(try simp[-Int.not_lt,-Int.not_le,-Nat.not_lt,-Nat.not_le]at g)<;>(try simp[g]at h)<;>(try simp[g])<;>(try exact .done h);refine an Tryz.func57 rfl rfl (dp ?_);refine ab.run lay [] ?_;simp;refine aI.intro (λi=>?_) (λi=>?_)<;>(try simp[-Int.not_lt,-Int.not_le,-Nat.not_lt,-Nat.not_le]at i)<;>(try simp[i]at h)<;>(try simp[i])<;>(try exact .done h)
 refine aI.intro (λj=>?_) (λj=>?_)<;>(try simp[-Int.not_lt,-Int.not_le,-Nat.not_lt,-Nat.not_le]at j)<;>(try simp[j]at h)<;>(try simp[j])<;>(try exact .done h);refine an Tryz.func57 rfl rfl (dp ?_);refine ab.run lay [] ?_;simp;refine vv.intro (λl=>?_) (λl=>?_)<;>(try simp[-Int.not_lt,-Int.not_le,-Nat.not_lt,-Nat.not_le]at l)<;>(try simp[l]at h)<;>(try simp[l])<;>(try exact .done h);refine an Tryz.func57 rfl rfl (dp ?_);refine ab.run lay [] ?_;simp;refine aI.intro (λn=>?_) (λn=>?_)<;>(try simp[-Int.not_lt,-Int.not_le,-Nat.not_lt,-Nat.not_le]at n)<;>(try simp[n]at h)<;>(try simp[n])<;>(try exact .done h);refine aI.intro (λo=>?_) (λo=>?_)<;>(try simp[-Int.not_lt,-Int.not_le,-Nat.not_lt,-Nat.not_le]at o)<;>(try simp[o]at h)<;>(try simp[o])<;>(try exact .done h)
 refine ab.loop f.aA.length (λk s=>∃env,s=⟨env,σ,[],.no⟩/\env 1=.cp (aC f) 0/\env 4=int k/\dX (bf f.roads.length) f.aA=dX (bf f.roads.length) (f.aA.drop k)) ⟨_,rfl,by simp⟩ ?_;rintro v k _ w ⟨env,rfl,c,d,a⟩ t;rcases Nat.lt_or_ge k f.aA.length with g8|g8
 . have q:(k:Int)<f.aA.length:=by omega
   rw[uS _ _ k g8]at a;refine ab.run lay [] ?_;simp[c,d,g8,q];refine an Tryz.func58 rfl rfl (wG b.roads (b.marks _ (List.getElem_mem g8)) ?_);refine aU.go lay [] ?_;simp[c,d];refine ab.run lay [] ?_;simp[c,d];refine aI.intro (λp=>?_) (λp=>?_)<;>(try simp[-Int.not_lt,-Int.not_le,-Nat.not_lt,-Nat.not_le]at p)<;>(try simp[p]at a)<;>(try simp[c,d,p])<;>(try exact .done a)
   . rw[a]at h
     exact .done h
   . exact⟨by omega,t _ g8 ⟨_,rfl,by simp[c,d],by simp,a⟩⟩
 . have:k=f.aA.length:=by omega
   subst this;simp[dX]at a;rw[a]at h;refine ab.run lay [] ?_;simp[c,d];exact .done h
theorem qL{f:Fr}{l:List Int}(q:f.Fits)(x:l.length<1152921504606846976)(h:KF (.val (int (dR f l))) σ):aB Tryz.prog m 44 [aC f,ints l] σ KF:=by
 unfold dR lU at h;have o:=q.aA;refine aB.start lay [] UH 2 Tryz.func44 rfl rfl (by rfl) (by kernel_rfl) ?_;simp[Tryz.f44];refine an Tryz.func22 rfl rfl (tL q ?_);refine ab.run lay [] ?_;simp;refine aI.intro (λe=>?_) (λe=>?_)<;>(try simp[-Int.not_lt,-Int.not_le,-Nat.not_lt,-Nat.not_le]at e)<;>(try simp[e]at h)<;>(try simp[e])<;>(try exact .done h);refine aI.intro (λg=>?_) (λg=>?_)<;>(try simp[-Int.not_lt,-Int.not_le,-Nat.not_lt,-Nat.not_le]at g)<;>(try simp[g]at h)<;>(try simp[g])<;>(try exact .done h);refine ab.loop l.length (λk s=>∃env,s=⟨env,σ,[],.no⟩/\env 1=ints l/\env 2=.cp (aC f) 0/\env 6=int k/\fI f none l=fI f (if k=0 then none else l[k-1]?) (l.drop k)) ⟨_,rfl,by simp⟩ ?_;rintro y k _ z ⟨env,rfl,b,c,d,a⟩ r;rcases Nat.lt_or_ge k l.length with g4|g4
 . have p:(k:Int)<l.length:=by omega
   rw[wM f _ k g4]at a;refine ab.run lay [] ?_;simp[b,c,d,g4,p];refine an Tryz.func89 rfl rfl (pH o ?_);refine aU.go lay [] ?_;simp[b,c,d];refine ab.run lay [] ?_;simp[b,c,d];refine aI.intro (λi=>?_) (λi=>?_)<;>(try simp[-Int.not_lt,-Int.not_le,-Nat.not_lt,-Nat.not_le]at i)<;>(try simp[i]at a)<;>(try simp[b,c,d,i])<;>(try exact .done a)
   . refine JC.intro (λj=>?_) (λj=>?_)<;>(try simp[-Int.not_lt,-Int.not_le,-Nat.not_lt,-Nat.not_le]at j)<;>(try simp[j]at a)<;>(try simp[b,c,d,j,g4])<;>(try exact .done a)
     . have u:(k:Int)-1=((k-1:Nat):Int):=by omega
       have t:k-1<l.length:=by omega
       have v:¬k=0:=by omega
       simp[u,t];repeat refine⟨by omega,?_⟩
       try simp[t,v,mL]at a
       refine ab.run lay [] ?_;simp[b,c,d];refine aI.intro (λn=>?_) (λn=>?_)<;>(try simp[-Int.not_lt,-Int.not_le,-Nat.not_lt,-Nat.not_le]at n)<;>(try simp[n]at a)<;>(try simp[b,c,d,n])<;>(try exact .done a)
       . rw[a]at h
         exact .done h
       . refine⟨by omega,r _ g4 ⟨_,rfl,by simp[b,c,d],by simp[b,c,d],by simp,?_⟩⟩
         simp[a,g4]
     . have w:k=0:=by omega
       subst w;simp[mL]at a;refine ab.run lay [] ?_;simp[b,c,d];refine r _ g4 ⟨_,rfl,by simp[b,c,d],by simp[b,c,d],by simp,?_⟩;simp[a,g4]
   . rw[a]at h
     exact .done h
 . have:k=l.length:=by omega
   subst this;simp[fI]at a;rw[a]at h;refine ab.run lay [] ?_;simp[b,c,d];exact .done h
theorem HG{f:Fr}{x y:Int}(e:f.Fits)(h:KF (.val (int (ba f [x,y]))) σ):aB Tryz.prog m 51 [aC f,int x,int y] σ KF:=by
 unfold ba at h;simp only[List.all_cons,List.all_nil,Bool.and_true]at h;have a:=e.aA;refine aB.start lay [] [] 3 Tryz.func51 rfl rfl (by rfl) (by kernel_rfl) ?_;simp[Tryz.f51];refine an Tryz.func22 rfl rfl (tL e ?_);refine ab.run lay [] ?_;simp;refine aI.intro (λb=>?_) (λb=>?_)<;>(try simp[-Int.not_lt,-Int.not_le,-Nat.not_lt,-Nat.not_le]at b)<;>(try simp[b]at h)<;>(try simp[b])<;>(try exact .done h);refine an Tryz.func89 rfl rfl (pH a ?_);refine ab.run lay [] ?_;simp;refine vv.intro (λc=>?_) (λc=>?_)<;>(try simp[-Int.not_lt,-Int.not_le,-Nat.not_lt,-Nat.not_le]at c)<;>(try simp[c]at h)<;>(try simp[c])<;>(try exact .done h);refine an Tryz.func89 rfl rfl (pH a ?_);refine ab.run lay [] ?_;simp;refine aI.intro (λd=>?_) (λd=>?_)<;>(try simp[-Int.not_lt,-Int.not_le,-Nat.not_lt,-Nat.not_le]at d)<;>(try simp[d]at h)<;>(try simp[d])<;>(try exact .done h)
end Go.Proofs.YtigilmjkokbblaaGreatDoor
namespace Go.Proofs.YtigilmjkokbblaaGreatDoor
open Go.bd Go.Conc
set_option maxHeartbeats 1000000
set_option maxRecDepth 4000
variable{m:Mo}{σ:aa}{KF:dV->aa->Prop}
theorem Ct{e:gX}(g:e.marks.length<=1000000000)(h:KF (.val (aW e)) σ):aB Tryz.prog m 41 [aW e] σ KF:=by
 refine aB.start lay [1] [] 1 Tryz.func41 rfl rfl (by rfl) (by kernel_rfl) ?_
 simp[Tryz.f41];refine bL.intro λi j=>?_
 simp;refine bL.intro λk b=>?_
 obtain⟨d,f,b⟩:=aa.aF b;simp[d,f,aa.ag,aG];refine an Tryz.func12 rfl rfl (rm g ?_);refine ab.run lay [1] ?_;simp[d,f,aa.ag,aG];refine .less (λc x a=>?_) (.done h)
 have l:c≠i:=λe=>by subst e;rw[j]at a;cases a
 have n:c≠k:=λe=>by subst e;rw[b]at a;cases a
 simp[aa.ag,l,n,a]
theorem wO{r:List (List Int)}(B:r.length<=1000000)(t:∀l∈r,l.length<=1000000000)(h:KF (.val (rows r)) σ):aB Tryz.prog m 40 [rows r] σ KF:=by
 refine aB.thaw ?_;refine aB.start lay [] [] 1 Tryz.func40 rfl rfl (by rfl) (by kernel_rfl) ?_
 simp[Tryz.f40];refine oe lay rfl jO rfl cK rfl (by decide) rfl rfl (n:=r.length) (by simp) (by simp) ⟨by omega,by omega⟩ λb hb=>?_
 refine ab.run lay [] ?_;simp;refine ab.loop r.length (λi s=>∃env,s=⟨env,σ.set b (.cells (List.take i (List.map ints r)++List.replicate (r.length-i) (.lit (.slice none 0 0)))),[],.no⟩/\env 0=rows r/\env 3=.ew b 0 r.length r.length/\env 4=int i) ⟨_,by simp;rfl,by simp,by simp,by simp⟩ ?_
 rintro C i _ D ⟨env,rfl,c,d,f⟩ u
 rcases Nat.lt_or_ge i r.length with g1|g1
 . have v:(i:Int)<r.length:=by omega
   have f1:-9223372036854775808<=(i:Int)+1/\(i:Int)+1<=9223372036854775807:=by omega
   refine ab.run lay [] ?_;simp[c,d,f,g1];refine an Tryz.func12 rfl rfl (rm (t _ (List.getElem_mem g1)) ?_);have j:i+1<=min i r.length+(r.length-i):=by omega
   have a:List.take i (List.take i (List.map ints r)++List.replicate (r.length-i) (AV.lit (.slice none 0 0)))++AV.sl 1 (List.map int r[i]) .any::List.drop (i+1) (List.take i (List.map ints r)++List.replicate (r.length-i) (AV.lit (.slice none 0 0)))=List.take (i+1) (List.map ints r)++List.replicate (r.length-(i+1)) (.lit (.slice none 0 0)):=by
    have g:(List.take i (List.map ints r)).length=i:=by rw[List.length_take,List.length_map];omega
    obtain⟨q,w⟩:∃q,r.length-i=q+1:=⟨r.length-i-1,by omega⟩
    have k:r.length-(i+1)=q:=by omega
    have y:List.drop (i+1) (List.take i (List.map ints r)++List.replicate (r.length-i) (AV.lit (.slice none 0 0)))=List.replicate q (.lit (.slice none 0 0)):=by
     rw[List.drop_append,List.drop_eq_nil_of_le (by omega),g,w,Nat.add_sub_cancel_left]
     simp
    have z:List.take (i+1) (List.map ints r)=List.take i (List.map ints r)++[ints r[i]]:=by rw[List.take_succ_eq_append_getElem (by rw[List.length_map];exact g1),List.getElem_map]
    rw[List.take_left' g,y,z,k,List.append_assoc];rfl
   refine ab.run lay [] ?_;simp[c,d,f,g1,f1.1,f1.2,aG,j,a];exact u _ g1 ⟨_,rfl,by simp[c,d,f],by simp[c,d,f],by simp⟩
 . have o:i=r.length:=by omega
   subst o;refine ab.run lay [] ?_;simp[c,d,f];refine .done (bw.thaw (σ0:=σ) (kk:=1) (es:=r.map ints) ⟨aa.dg (aa.le_refl _) hb,.inr ⟨b,r.length,[],by simp,hb,by simp,λe p=>?_,?_,by simp⟩⟩ h)
   . obtain⟨x,_,rfl⟩:=List.mem_map.1 p
     rfl
   . rw[cX (λe p=>by obtain⟨x,_,rfl⟩:=List.mem_map.1 p;rfl),List.append_nil]
     have A:List.take r.length (List.map ints r)=List.map ints r:=List.take_of_length_le (by simp)
     simp[aa.ak,A]
theorem Cu{f:Fr}(U:f.aA.length<=1000)(R:∀e∈f.aA,e.marks.length<=1000000000)(A:f.roads.length<=1000000)(B:∀r∈f.roads,r.length<=1000000000)(h:KF (.val (aC f)) σ):aB Tryz.prog m 9 [aC f] σ KF:=by
 refine aB.start lay [] XQ 1 Tryz.func9 rfl rfl (by rfl) (by kernel_rfl) ?_
 simp[Tryz.f9];refine bL.intro λw M=>?_
 simp;apply sH (I:=λenv σ'=>∃c,σ c=none/\c≠w/\env 1=.cp (aC f) 0/\env 2=.ref w 0/\env 3=.ref c 0/\σ'=(σ.set w (.cells lV)).set c (.cells [.lit (.slice none 0 0),rows f.roads,int f.bH,int f.hH,int f.dO,int f.most]))
 . intro d
   refine⟨?_,?_⟩
   . refine an Tryz.func40 rfl rfl (wO A B ?_)
     refine aU.go lay [] ?_;simp[aG];refine⟨?_,?_⟩
     . refine pI.intro λc g=>?_
       obtain⟨u,C,g⟩:=aa.aF g;simp[aG];exact d _ _ ⟨c,g,u,by simp,by simp,by simp,by simp⟩
     . refine pI.intro λc g=>?_
       obtain⟨u,C,g⟩:=aa.aF g;simp[aG];exact d _ _ ⟨c,g,u,by simp,by simp,by simp,by simp⟩
   . refine pI.intro λc g=>?_
     obtain⟨u,C,g⟩:=aa.aF g;simp[aG];refine an Tryz.func40 rfl rfl (wO A B ?_);refine aU.go lay [] ?_;simp[aG];exact d _ _ ⟨c,g,u,by simp,by simp,by simp,by simp⟩
 . rintro env σ' ⟨c,g,u,o,p,t,rfl⟩
   have C:w≠c:=Ne.symm u;refine ab.run lay [] ?_;simp[o,p,t];have N:Tok σ ((σ.set w (.cells lV)).set c (.cells [.lit (.slice none 0 0),rows f.roads,int f.bH,int f.hH,int f.dO,int f.most])) (.lit (.slice none 0 0)) 6 []:=(Tok.nil σ 6).up (aa.dg (aa.dg (aa.le_refl _) M) (by rw[aa.ag _ _ u];exact g))
   refine ab.loop f.aA.length (λi s=>∃env σ' a,s=⟨env,σ',[],.no⟩/\env 1=.cp (aC f) 0/\env 2=.ref w 0/\env 3=.ref c 0/\env 4=int i/\σ' w=some (.cells lV)/\σ' c=some (.cells [a,rows f.roads,int f.bH,int f.hH,int f.dO,int f.most])/\Tok σ σ' a 6 ((f.aA.take i).map aW))
    ⟨_,_,.lit (.slice none 0 0),rfl,by simp[o],by simp[p],by simp[t],by simp,by rw[aa.ag _ _ C,aa.ak],aa.ak _ _ _,by simpa using N⟩ ?_
   clear o p t N
   rintro V i _ X ⟨env,σ',a,rfl,o,p,t,D,H,J,b⟩ S
   have j:=b.cells;have K:∀y l,σ' y=some (.cells l)->bX a≠some y:=λy l v e=>by obtain⟨_,_,q⟩:=b.bc e;rw[v]at q;cases q
   rcases Nat.lt_or_ge i f.aA.length with g1|g1
   . have T:(i:Int)<f.aA.length:=by omega
     have f1:-9223372036854775808<=(i:Int)+1/\(i:Int)+1<=9223372036854775807:=by omega
     refine ab.run lay [] ?_;simp[o,p,t,D,H,J,j.1,j.2,g1]
     repeat' (first
               |apply And.intro
               | (refine an Tryz.func41 rfl rfl (Ct (R _ (List.getElem_mem g1)) ?_)
                  refine aU.go lay [] ?_;simp[o,p,t,D,H,J,j.1,j.2,g1])
               | (refine aS lay rfl rfl rfl ko rfl ko rfl rp (by decide) (by simp;omega) (σ0:=σ'.off a) (es:=(f.aA.take i).map aW) (xs:=[aW f.aA[i]]) (by simpa using b.here.1) (.inr ⟨_,by simp;rfl⟩) λa' E z=>?_
                  have F:=z.cells;have O:∀y l,σ' y=some (.cells l)->E y=some (.cells l):=λy l v=>z.1 _ _ (by rw[aa.gh (K y l v)];exact v)
                  have P:=O _ _ J;have Q:=O _ _ H;refine aU.go lay [] ?_;simp[o,p,t,D,Q,P,F.1,F.2,aG]))
     all_goals (
      refine ab.run lay [] ?_;simp[D,f1.1,f1.2]
      have G:Tok σ E a' 6 ((f.aA.take (i+1)).map aW):=by have:=z.base b.here.2;rw[List.take_succ_eq_append_getElem g1,List.map_append];simpa using this
      exact S _ g1 ⟨_,_,a',rfl,by simp[o],by simp[p],by simp[t],by simp,by rw[aa.ag _ _ C];exact Q,aa.ak _ _ _,G.beside g (λe=>by obtain⟨_,_,q⟩:=G.bc e;rw[P]at q;cases q)⟩)
   . have L:i=f.aA.length:=by omega
     subst L;rw[List.take_length]at b;refine ab.run lay [] ?_;simp[o,p,t,D,H,J,j.1,j.2,aG];refine .less (σ':=σ) (λy x v=>?_) (.iI (a':=aC f) (lT rfl λi x y k n=>?_) (.done h))
     . rw[aa.ag _ _ (λe=>by subst e;rw[M]at v;cases v)]
       exact b.1 y x v
     . match i with
       |0=>simp at k n;subst k;subst n;exact b.W
       |1=>simp at k n;subst k;subst n;exact .refl _
       |2=>simp at k n;subst k;subst n;exact .refl _
       |3=>simp at k n;subst k;subst n;exact .refl _
       |4=>simp at k n;subst k;subst n;exact .refl _
       |5=>simp at k n;subst k;subst n;exact .refl _
       |i+6=>simp at k
def ku(a b:List Int):List Int:=a.filter λx=>decide (x∉b)
def R1(a b:List Int):Int:=((ku a b).length:Int)+((ku b a).length:Int)
theorem wP{a b:List Int}{i:Nat}(h:i<a.length):ku (a.take (i+1)) b=ku (a.take i) b++if a[i]∈b then[]else[a[i]]:=by
 unfold ku;rw[List.take_succ_eq_append_getElem h,List.filter_append];by_cases e:a[i]∈b<;>simp[e]
theorem nE(a b:List Int):(ku a b).length<=a.length:=List.length_filter_le _ _
def J7:List (List Int):=[[],[0],[1],[2],[0,1],[0,2],[1,2],[0,1,2]]
theorem Cv{l:List Int}(h:l.Sublist [0,1,2]):l∈J7:=by cases h<;>(rename_i h;cases h<;>(rename_i h;cases h<;>(rename_i h;cases h;decide)))
theorem NO:∀a∈J7,∀b∈J7,R1 a b=bF (br a) (br b):=by decide +kernel
theorem Cw{a b:List Int}(c:a.Sublist [0,1,2])(hb:b.Sublist [0,1,2]):R1 a b=bF (br a) (br b):=NO _ (Cv c) _ (Cv hb)
theorem ED{a b:List Int}(x:a.length<1000000)(hb:b.length<1000000)(h:KF (.val (int (R1 a b))) σ):aB Tryz.prog m 82 [ints a,ints b] σ KF:=by
 refine aB.start lay [] [] 2 Tryz.func82 rfl rfl (by rfl) (by kernel_rfl) ?_
 simp[Tryz.f82];refine ab.loop a.length (λi s=>∃env,s=⟨env,σ,[],.no⟩/\env 0=ints a/\env 1=ints b/\env 5=int ((ku (a.take i) b).length:Int)/\env 6=int i) ⟨_,rfl,by simp,by simp,by simp[ku],by simp⟩ ?_
 rintro u i _ v ⟨env,rfl,e,f,d,j⟩ p
 rcases Nat.lt_or_ge i a.length with g1|g1
 . have t:(i:Int)<a.length:=by omega
   have l:=nE (a.take i) b;rw[List.length_take]at l;have f1:-9223372036854775808<=(i:Int)+1/\(i:Int)+1<=9223372036854775807:=by omega
   have r:-9223372036854775808<=((ku (a.take i) b).length:Int)+1/\((ku (a.take i) b).length:Int)+1<=9223372036854775807:=by omega
   have c:=wP (b:=b) g1;refine ab.run lay [] ?_;simp[e,f,d,j,g1];refine an Tryz.func81 rfl rfl (sx (by omega) ?_)
   by_cases q:a[i]∈b
   . rw[if_pos q,List.append_nil]at c
     have n:¬qF b a[i]<0:=by have:=(lW b a[i]).2 q;omega
     refine ab.run lay [] ?_;simp[e,f,d,j,n,f1.1,f1.2];refine p _ g1 ⟨_,rfl,by simp[e,f,d,j],by simp[e,f,d,j],by simp[c,d],by simp⟩
   . rw[if_neg q]at c
     have n:qF b a[i]<0:=by
      rcases Int.lt_or_le (qF b a[i]) 0 with g|g
      . exact g
      . exact absurd ((lW b a[i]).1 g) q
     refine ab.run lay [] ?_;simp[e,f,d,j,n,f1.1,f1.2,r.1,r.2];refine p _ g1 ⟨_,rfl,by simp[e,f,d,j],by simp[e,f,d,j],by simp[c],by simp⟩
 . have o:i=a.length:=by omega
   subst o;rw[List.take_length]at d;have w:=nE a b;refine ab.run lay [] ?_;simp[e,f,d,j];refine ab.loop b.length (λi s=>∃env,s=⟨env,σ,[],.no⟩/\env 0=ints a/\env 1=ints b/\env 5=int (((ku a b).length:Int)+((ku (b.take i) a).length:Int))/\env 7=int i) ⟨_,rfl,by simp[e],by simp[f],by simp[ku,d],by simp⟩ ?_
   clear e f d j p
   rintro u i _ v ⟨env,rfl,e,f,d,k⟩ p
   rcases Nat.lt_or_ge i b.length with g1|g1
   . have t:(i:Int)<b.length:=by omega
     have l:=nE (b.take i) a;rw[List.length_take]at l;have f1:-9223372036854775808<=(i:Int)+1/\(i:Int)+1<=9223372036854775807:=by omega
     have r:-9223372036854775808<=((ku a b).length:Int)+((ku (b.take i) a).length:Int)+1/\((ku a b).length:Int)+((ku (b.take i) a).length:Int)+1<=9223372036854775807:=by omega
     have c:=wP (b:=a) g1;refine ab.run lay [] ?_;simp[e,f,d,k,g1];refine an Tryz.func81 rfl rfl (sx (by omega) ?_)
     by_cases q:b[i]∈a
     . rw[if_pos q,List.append_nil]at c
       have n:¬qF a b[i]<0:=by have:=(lW a b[i]).2 q;omega
       refine ab.run lay [] ?_;simp[e,f,d,k,n,f1.1,f1.2];refine p _ g1 ⟨_,rfl,by simp[e,f,d,k],by simp[e,f,d,k],by simp[c,d],by simp⟩
     . rw[if_neg q]at c
       have n:qF a b[i]<0:=by
        rcases Int.lt_or_le (qF a b[i]) 0 with g|g
        . exact g
        . exact absurd ((lW a b[i]).1 g) q
       refine ab.run lay [] ?_;simp[e,f,d,k,n,f1.1,f1.2,r.1,r.2];refine p _ g1 ⟨_,rfl,by simp[e,f,d,k],by simp[e,f,d,k],by simp[c,Int.add_assoc],by simp⟩
   . have o:i=b.length:=by omega
     subst o;rw[List.take_length]at d;refine ab.run lay [] ?_;simp[e,f,d,k];exact .done h
end Go.Proofs.YtigilmjkokbblaaGreatDoor
