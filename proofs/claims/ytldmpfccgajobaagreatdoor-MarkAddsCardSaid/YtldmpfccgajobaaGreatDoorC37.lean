import Derived.Test.YtldmpfccgajobaaGreatDoorC36
set_option linter.all false
namespace Go.Proofs.YtldmpfccgajobaaGreatDoor
open Tryz (prog)
open Go.aR Go.Conc
set_option maxHeartbeats 1000000
set_option maxRecDepth 4000
variable{m:Mo}{σ:aa}{KF:dF->aa->Prop}
theorem EY{f:Fr}{e:gq}{a:Int}(hb:-1000<=e.aQ-a/\e.aQ-a<=1000)(h:KF (.val (bool (dC f e a))) σ):ar prog m 125 [az f,aS e,int a] σ KF:=by
 have f1:-9223372036854775808<=e.aQ-a/\e.aQ-a<=9223372036854775807:=by omega
 unfold dC at h;refine fs [] 3 Tryz.func125 rfl rfl (by rfl) (by kernel_rfl) ?_;simp[Tryz.f125,f1.1,f1.2];refine cf Tryz.func83 rfl (cr ?_);refine rn ?_;simp;rw[show decide (e.aQ=a)=(e.aQ==a)from rfl]at h;generalize (e.aQ==a)=d at h ⊢;refine aE.intro (λb=>?_) (λb=>?_)<;>simp at b
 . rw[if_pos b]at h
   simp;exact .done h
 rw[if_neg b]at h;simp;refine aE.intro (λc=>?_) (λc=>?_)<;>simp at c
 . rw[if_pos c]at h
   simp;exact .done h
 rw[if_neg c]at h;simp;cases d<;>first|exact .done h|(simp at h ⊢;exact .done h)
theorem xH{i:Nat}(h:i<=34):te.take i=(List.range i).map λi:Nat=>(i:Int)-3:=by unfold te;rw[<-List.map_take,List.take_range,Nat.min_eq_left h]
theorem NG{i:Nat}(h:i<34):te.take (i+1)=te.take i++[(i:Int)-3]:=by rw[xH (by omega),xH (by omega),List.range_succ,List.map_append];rfl
theorem yl{f:Fr}{l:List Int}{i:Nat}(h:i<34):(te.take (i+1)).filter (λh=>l.all λn=>dC f (be f n) h)=(te.take i).filter (λh=>l.all λn=>dC f (be f n) h)++if l.all (λn=>dC f (be f n) ((i:Int)-3))then[(i:Int)-3]else[]:=by rw[NG h,List.filter_append];congr 1;rw[List.filter_cons];rfl
theorem NH{f:Fr}{l:List Int}(F:f.Good)(K:l.length<1000000)(z:∀n∈l,0<=n/\n<f.ao.length)(h:KF (.val (ints (kS f l))) σ):ar prog m 74 [az f,ints l] σ KF:=by
 refine fs Tk 2 Tryz.func74 rfl rfl (by rfl) (by kernel_rfl) ?_
 simp[Tryz.f74];refine ab.loop 34 (λi s=>∃env e a,s=⟨env,e,[],.no⟩/\env 1=ints l/\env 2=.cp (az f) 0/\env 5=a/\env 6=int ((i:Int)-3)/\Tok σ e a 1 (((te.take i).filter λh=>l.all λn=>dC f (be f n) h).map int)) ⟨_,σ,.lit (.slice none 0 0),rfl,by simp,by simp,by simp,by simp,by simpa using Tok.nil σ 1⟩ ?_
 rintro L i _ M ⟨env,e,a,rfl,g,o,p,k,b⟩ E
 have G:=b.cells
 rcases Nat.lt_or_ge i 34 with g1|g1
 . have A:(i:Int)-3<=30:=by omega
   have f1:-9223372036854775808<=(i:Int)-3+1/\(i:Int)-3+1<=9223372036854775807:=by omega
   refine rn ?_;simp[k,A];refine ab.loop l.length (λj s=>∃env,s=⟨env,e,[],.no⟩/\env 1=ints l/\env 2=.cp (az f) 0/\env 5=a/\env 6=int ((i:Int)-3)/\env 7=bool ((l.take j).all λn=>dC f (be f n) ((i:Int)-3))/\env 8=int j) ⟨_,rfl,by simp[g],by simp[o],by simp[p],by simp[k],by simp,by simp⟩ ?_
   clear g o p k
   rintro N j _ O ⟨env,rfl,g,o,p,k,t,r⟩ u
   rcases Nat.lt_or_ge j l.length with g2|g2
   . have jj:(j:Int)<l.length:=by omega
     have x:-9223372036854775808<=(j:Int)+1/\(j:Int)+1<=9223372036854775807:=by omega
     obtain⟨H,P⟩:=z _ (List.getElem_mem g2);have B:l[j].toNat<f.ao.length:=by omega
     have c:(l.take (j+1)).all (λn=>dC f (be f n) ((i:Int)-3))=((l.take j).all (λn=>dC f (be f n) ((i:Int)-3)) && dC f f.ao[l[j].toNat] ((i:Int)-3)):=by rw[List.take_succ_eq_append_getElem g2,List.all_append,<-iV B];simp
     by_cases q:(l.take j).all (λn=>dC f (be f n) ((i:Int)-3))=true
     . have Q:=(lu (F.uB _ (List.getElem_mem B))).2.2.2.1
       have d:env 7=bool true:=by rw[t,q]
       rw[q,Bool.true_and]at c;refine rn ?_;simp[g,o,k,d,r,g2,jj,H,B];refine cf Tryz.func125 rfl (EY (by omega) ?_)
       refine pg ?_;simp;refine rn ?_;simp[r,x.1,x.2];exact u _ g2 ⟨_,rfl,by simp[g],by simp[o],by simp[p],by simp[k],by simp[c],by simp⟩
     . have q:(l.take j).all (λn=>dC f (be f n) ((i:Int)-3))=false:=by simpa using q
       have d:env 7=bool false:=by rw[t,q]
       rw[q,Bool.false_and]at c;refine rn ?_;simp[g,d,r,jj];refine rn ?_;simp[r,x.1,x.2];exact u _ g2 ⟨_,rfl,by simp[g],by simp[o],by simp[p],by simp[k],by simp[c],by simp⟩
   . have:j=l.length:=by omega
     subst this;rw[List.take_length]at t;have y:=yl (f:=f) (l:=l) g1
     by_cases q:l.all (λn=>dC f (be f n) ((i:Int)-3))=true
     . have d:env 7=bool true:=by rw[t,q]
       rw[if_pos q]at y;refine rn ?_;simp[g,p,k,d,r];refine aF lay rfl rfl rfl bC rfl bC rfl oo (by decide) (by simp;have:=List.length_filter_le (λh=>l.all λn=>dC f (be f n) h) (te.take i);rw[List.length_take]at this;omega) (σ0:=σ) (es:=((te.take i).filter λh=>l.all λn=>dC f (be f n) h).map int) (xs:=[int ((i:Int)-3)]) (by simpa using b) (.inr ⟨_,by simp;rfl⟩) λI C v=>?_
       have J:=v.cells;refine rn ?_;simp[k,f1.1,f1.2];exact E _ g1 ⟨_,C,I,rfl,by simp[g],by simp[o],by simp,by simp;omega,by rw[y,List.map_append];exact v⟩
     . have q:l.all (λn=>dC f (be f n) ((i:Int)-3))=false:=by simpa using q
       have d:env 7=bool false:=by rw[t,q]
       rw[if_neg (by simp[q]),List.append_nil]at y
       refine rn ?_;simp[g,k,d,r,f1.1,f1.2];exact E _ g1 ⟨_,e,a,rfl,by simp[g],by simp[o],by simp[p],by simp;omega,by rw[y];exact b⟩
 . have D:i=34:=by omega
   subst D;refine rn ?_;simp[p,k];have w:te.take 34=te:=by rw[xH (Nat.le_refl _)];rfl
   rw[w]at b;exact .eG b.W (.less b.1 (.done h))
def LX(a b:List Int)(k:Nat):Int:=(((List.range k).filter λi:Nat=>decide ((i:Int)∈a)!=decide ((i:Int)∈b)).length:Int)
theorem LQ(a b:List Int)(k:Nat):LX a b (k+1)=LX a b k+if(decide ((k:Int)∈a)!=decide ((k:Int)∈b))=true then 1 else 0:=by unfold LX;rw[List.range_succ,List.filter_append,List.length_append,List.filter_cons];split<;>simp
theorem Pg(a b:List Int)(k:Nat):0<=LX a b k/\LX a b k<=k:=by
 unfold LX;have:=List.length_filter_le (λi:Nat=>decide ((i:Int)∈a)!=decide ((i:Int)∈b)) (List.range k);rw[List.length_range]at this;omega
namespace RC
abbrev RO:List Entry:=[⟨5,.take [0,1,2,4,5,6] false (.one 3 (.one 7 (.one 8 (.done))))⟩]
theorem u0{a b:gq}(r:a.marks.length<1152921504606846976)(hb:b.marks.length<1152921504606846976)(h:KF (.val (int (tg a.marks b.marks))) σ):ar prog m 127 [aS a,aS b] σ KF:=by
 refine fs RO 2 Tryz.func127 rfl rfl (by rfl) (by kernel_rfl) ?_;simp[Tryz.f127];refine ab.loop 5 (λk s=>∃env,s=⟨env,σ,[],.no⟩/\env 2=.cp (aS a) 0/\env 3=.cp (aS b) 0/\env 5=int (LX a.marks b.marks k)/\env 6=int k) ⟨_,rfl,by simp,by simp,by simp[LX],by simp⟩ ?_;rintro v k _ w ⟨env,rfl,l,n,c,d⟩ t;rcases Nat.lt_or_ge k 5 with g1|g1
 . have e:(k:Int)<=4:=by omega
   have u:=Pg a.marks b.marks k;have f1:-9223372036854775808<=(k:Int)+1/\(k:Int)+1<=9223372036854775807:=by omega
   have o:-9223372036854775808<=LX a.marks b.marks k+1/\LX a.marks b.marks k+1<=9223372036854775807:=by omega
   have f:=LQ a.marks b.marks k;refine rn ?_;simp[l,n,d,e];obtain⟨p,g⟩:∃p,p=decide ((k:Int)∈a.marks):=⟨_,rfl⟩;obtain⟨q,i⟩:∃q,q=decide ((k:Int)∈b.marks):=⟨_,rfl⟩;rw[<-g,<-i]at f;refine cf Tryz.func128 rfl (vz r ?_);rw[<-g];refine pg ?_;simp;refine cf Tryz.func128 rfl (vz hb ?_);rw[<-i];refine pg ?_;simp;clear g i;cases p<;>cases q<;>simp at f
   all_goals (
    refine rn ?_;simp[c,d,f1.1,f1.2,o.1,o.2];exact t _ g1 ⟨_,rfl,by simp[l],by simp[n],by simp[f,c],by simp⟩)
 . have j:k=5:=by omega
   subst j;refine rn ?_;simp[c,d];exact .done h
end RC
abbrev kf(f:Fr):Int->Int->Bool:=Gz λn=>(be f n).hour
def fy(l:List Int)(i:Nat):List Int:=((List.range i).map λi:Nat=>(i:Int)).filter λi=>decide (i∈l)
theorem Bl(l:List Int)(i:Nat):fy l (i+1)=fy l i++if(i:Int)∈l then[(i:Int)]else[]:=by
 unfold fy;rw[List.range_succ,List.map_append,List.filter_append];by_cases h:(i:Int)∈l<;>simp[h]
theorem De{l:List Int}{i:Nat}{x:Int}(h:x∈fy l i):0<=x/\x<i:=by unfold fy at h;obtain⟨a,_⟩:=List.mem_filter.1 h;obtain⟨j,b,rfl⟩:=List.mem_map.1 a;have:=List.mem_range.1 b;omega
theorem u6(l:List Int)(i:Nat):(fy l i).length<=i:=by unfold fy;refine Nat.le_trans (List.length_filter_le _ _) ?_;rw[List.length_map,List.length_range];exact Nat.le_refl _
theorem EZ{f:Fr}{l:List Int}(h6:f.ao.length<=1000)(hl:l.length<1000000)(h:KF (.val (ints (aU f (yj f l)))) σ):ar prog m 126 [az f,ints l] σ KF:=by
 have Y:∀i,(dp (kf f) (fy l i)).length<=i:=λi=>by rw[ke];exact u6 l i
 refine fs Ru 2 Tryz.func126 rfl rfl (by rfl) (by kernel_rfl) ?_
 simp[Tryz.f126];refine ab.loop f.ao.length (λi s=>∃env w a,s=⟨env,w,[],.no⟩/\env 1=ints l/\env 2=.cp (az f) 0/\env 5=a/\env 6=int i/\bF σ w a 1 ((dp (kf f) (fy l i)).reverse.map int)) ⟨_,σ,.lit (.slice none 0 0),rfl,by simp,by simp,by simp,by simp,⟨aa.le_refl _,.inl ⟨by simp[fy,dp],.inl rfl⟩⟩⟩ ?_
 rintro c0 i _ hi ⟨env,w,a,rfl,F,t,u,o,g⟩ Z
 have ax:=g.cells;have a7:=Y i
 rcases Nat.lt_or_ge i f.ao.length with g1|g1
 . have a8:(i:Int)<f.ao.length:=by omega
   have f1:-9223372036854775808<=(i:Int)+1/\(i:Int)+1<=9223372036854775807:=by omega
   have C:=Bl l i;refine rn ?_;simp[F,t,o,a8];refine cf Tryz.func128 rfl (vz (by omega) ?_)
   by_cases W:(i:Int)∈l
   . rw [if_pos W]at C
     have J:dp (kf f) (fy l (i+1))=fH (kf f) i (dp (kf f) (fy l i)):=by rw[C,dp,List.foldl_append];rfl
     obtain⟨S,hS⟩:∃S,S=dp (kf f) (fy l i):=⟨_,rfl⟩
     have a9:∀x∈S,0<=x/\x.toNat<f.ao.length:=λx K=>by have:=De ((qD _ _ x).1 (hS ▸ K));omega
     rw[<-hS]at J g a7;obtain⟨x,K⟩:∃x,x=(i:Int):=⟨_,rfl⟩;have O:x.toNat=i:=by omega
     have ay:(S.reverse.map int).length=S.length:=by simp
     rcases g.len with⟨rfl,G⟩|⟨sp,rfl⟩|⟨b0,av,rfl⟩
     all_goals (
      refine rn ?_;simp[u,o,W];refine jx lay rfl rfl rfl bC rfl bC rfl oo (by decide) (by simp;omega) (σ0:=σ) (es:=S.reverse.map int) (xs:=[int i]) (by simpa using g) (.inl (.inr ⟨_,by simp;rfl⟩)) (by simp) λa' D p=>?_
      rw[<-List.map_singleton (f:=int),<-List.map_append,<-K]at p
      obtain⟨b,cap,rest,rfl,t1,t2,t4,t5⟩:∃b cap rest,a'=.gn b 0 (S.length+1) cap/\σ b=none/\S.length+1<=cap/\D b=some (.cells ((S.reverse++[x]).map int++rest))/\rest.length=(cap-(S.length+1))*1:=by
       have P:((S.reverse++[x]).map int).length=S.length+1:=by simp
       rcases p.2 with⟨e,_⟩|⟨b,cap,rest,r1,r2,r3,r4,r5,r6⟩
       . have:=congrArg List.length e
         rw[P,List.length_nil]at this;omega
       . rw[P]at r1 r3 r6
         rw[dU (λe Q=>by obtain⟨_,_,rfl⟩:=List.mem_map.1 Q;rfl)]at r5
         exact⟨b,cap,rest,r1,r2,r3,r5,r6⟩
      have H:∀(d:aa) (T:List Int),T.length=S.length+1->d b=some (.cells (T.reverse.map int++rest))->(∀y,y≠b->d y=D y)->bF σ d (.gn b 0 (S.length+1) cap) 1 (T.reverse.map int):=λd T L h5 R=>by
       refine⟨λy v hv=>?_,.inr ⟨b,cap,rest,by simp[L],t1,by simp[L];exact t2,λe Q=>by obtain⟨_,_,rfl⟩:=List.mem_map.1 Q;rfl,?_,by simp[L];omega⟩⟩
       . have:y≠b:=λe=>by subst e;rw[t1]at hv;cases hv
         rw[R y this];exact p.1 y v hv
       . rw[dU (λe Q=>by obtain⟨_,_,rfl⟩:=List.mem_map.1 Q;rfl)];exact h5
      refine rn ?_;simp
      refine ab.loop S.length (λk s=>∃env d j c,s=⟨env,d,[],.no⟩/\env 1=ints l/\env 2=.cp (az f) 0/\env 5=.gn b 0 (S.length+1) cap/\env 6=int i/\env 7=int c.length/\S=j++c/\c.length+k=S.length/\fH (kf f) x S=j++fH (kf f) x c/\d b=some (.cells (c.reverse.map int++int x::(j.reverse.map int++rest)))/\∀y,y≠b->d y=D y)
       ⟨_,D,[],S,rfl,by simp[F],by simp[t],by simp,by simp[o],by first|(simp;done)|(simp at G;simp[G]),rfl,rfl,rfl,by rw[t4];simp,λ_ _=>rfl⟩ ?_
      clear F t u o
      rintro c1 k _ hk ⟨env,d,j,c,rfl,F,t,u,o,e7,q,hlen,r,hc,R⟩ ad
      cases c with
      | nil=>
        simp only[List.length_nil,Nat.zero_add]at hlen;simp only[List.append_nil]at q;have L:dp (kf f) (fy l (i+1))=j++[x]:=by rw[J,<-K,r];rfl
        refine rn ?_;simp[e7];refine rn ?_;simp[o,f1.1,f1.2];exact Z _ g1 ⟨_,d,.gn b 0 (S.length+1) cap,rfl,by simp[F],by simp[t],by simp[u],by simp,by rw[L];exact H d (j++[x]) (by rw[q];simp) (by simpa using hc) R⟩
      | cons z c=>
        obtain⟨q1,q2,q3,q4⟩:=RB (A:=c.reverse.map int) (B:=j.reverse.map int++rest) (x:=int x) (y:=int z) (n:=c.length) (by simp)
        have U:d b=some (.cells (c.reverse.map int++int z::int x::(j.reverse.map int++rest))):=by rw[hc];simp
        have M:=a9 z (by rw[q];simp)
        have p1:(0:Int)<(c.length:Int)+1:=by omega
        have I:S.length=j.length+(c.length+1):=by rw[q];simp
        have p2:(c.length:Int)+1<(S.length:Int)+1:=by omega
        have p3:(c.length:Int)<(S.length:Int)+1:=by omega
        have p4:(0:Int)<=(c.length:Int)+1:=by omega
        have p5:((c.length:Int)+1).toNat=c.length+1:=by omega
        have X:-9223372036854775808<=(c.length:Int)/\(c.length:Int)<=9223372036854775807:=by omega
        refine rn ?_;simp[t,u,o,e7,p1,p3,X.1,X.2,U,M.1,M.2,g1];have ez:=iV M.2;have ex:be f x=f.ao[i]:=by rw[iV (by rw[O];exact g1)];simp[O]
        by_cases E:f.ao[i].hour<f.ao[z.toNat].hour
        . have N:fH (kf f) x (z::c)=z::fH (kf f) x c:=Nw (by rw[ez,ex];exact E)
          have p7:c.length+1+1<=c.length+(j.length+rest.length+1+1):=by omega
          have p8:c.length+1<=c.length+(j.length+rest.length+1+1):=by omega
          rw[<-K]at o;refine rn ?_;simp[u,o,e7,E,p2,p3,p4,p5,X.1,X.2,U,p7,p8];refine ad _ (by rw[I];simp at hlen;omega) ⟨_,_,j++[z],c,rfl,by simp[F],by simp[t],by simp[u],by simp[o,K],by simp,by rw[q];simp,by simp at hlen;omega,by rw[r,N];simp,?_,λy V=>?_⟩
          . rw[aa.an];simp
          . rw[aa.ag _ _ V]
            exact R y V
        . have N:fH (kf f) x (z::c)=x::z::c:=Nx (by rw[ez,ex];exact E)
          have L:dp (kf f) (fy l (i+1))=j++x::z::c:=by rw[J,<-K,r,N]
          refine rn ?_;simp[o,E,f1.1,f1.2];exact Z _ g1 ⟨_,d,.gn b 0 (S.length+1) cap,rfl,by simp[F],by simp[t],by simp[u],by simp,by rw[L];exact H d (j++x::z::c) (by rw[I];simp;omega) (by simpa using hc) R⟩)
   . rw[if_neg W,List.append_nil]at C
     refine rn ?_;simp[o,W,f1.1,f1.2];exact Z _ g1 ⟨_,w,a,rfl,by simp[F],by simp[t],by simp[u],by simp,by rw[C];exact g⟩
 . have al:i=f.ao.length:=by omega
   subst al;refine rn ?_;simp[t,u,o];have:fy l f.ao.length=yj f l:=rfl;rw[this]at g;refine g.thaw ?_;rw[uJ]at h;exact h
theorem E0{f:Fr}{l:List Int}(q:f.Good)(hl:l.length<1000000)(h:KF (.val (bool (!bY f (aU f (yj f l))))) σ):ar prog m 78 [az f,ints l] σ KF:=by
 have I:=q.dG;have h6:=q.oA;obtain⟨L,R⟩:∃L,L=aU f (yj f l):=⟨_,rfl⟩
 have h0:∀n∈L,0<=n/\n<f.ao.length:=λn hn=>by rw[R]at hn;exact(Da.1 (Bh.1 hn)).1
 have hlen:L.length<=1000:=by rw[R];have:=(km f (yj f l)).length_eq;rw[this];have:=u6 l f.ao.length;show(fy l f.ao.length).length<=1000;omega
 rw[<-R]at h;unfold bY at h;refine fs Tm 2 Tryz.func78 rfl rfl (by rfl) (by kernel_rfl) ?_
 simp[Tryz.f78];refine cf Tryz.func126 rfl (EZ (by omega) hl ?_)
 rw[<-R];refine rn ?_;simp;refine ab.loop (L.length-1) (λk s=>∃env D,s=⟨env,D,[],.no⟩/\σ.Le D/\env 1=ints L/\env 2=.cp (az f) 0/\env 5=int ((k:Int)+1)/\∀i<k,fR f (L.getD i 0) (L.getD (i+1) 0)=false) ⟨_,_,rfl,aa.le_refl _,by simp⟩ ?_
 rintro c0 k _ hk ⟨env,D,rfl,a,p,r,w,o⟩ ih
 rcases Nat.lt_or_ge (k+1) L.length with g1|g1
 . have X:(k:Int)+1<L.length:=by omega
   have Y:k<L.length:=by omega
   obtain⟨x0,x1⟩:=h0 _ (List.getElem_mem Y);obtain⟨y0,y1⟩:=h0 _ (List.getElem_mem g1);have J:L[k].toNat<f.ao.length:=by omega
   have K:L[k+1].toNat<f.ao.length:=by omega
   have f1:-9223372036854775808<=(k:Int)/\(k:Int)<=9223372036854775807:=by omega
   have f2:((k:Int)+1).toNat=k+1:=by omega
   have f3:(0:Int)<=(k:Int)+1:=by omega
   have S:-9223372036854775808<=(k:Int)+1+1/\(k:Int)+1+1<=9223372036854775807:=by omega
   obtain⟨A,M⟩:∃A,A=f.ao[L[k].toNat]:=⟨_,rfl⟩;obtain⟨B,N⟩:∃B,B=f.ao[L[k+1].toNat]:=⟨_,rfl⟩;have eA:=iV J;have eB:=iV K;rw[<-M]at eA;rw[<-N]at eB;have bA:=lu (q.uB A (by rw[M];exact List.getElem_mem J))
   have bB:=lu (q.uB B (by rw[N];exact List.getElem_mem K))
   have T:A.place.toNat<f.roads.length:=by omega
   obtain⟨r1,r2⟩:=q.row T;have U:B.place.toNat<f.roads[A.place.toNat].length:=by omega
   obtain⟨r3,r4⟩:=r2 _ (List.getElem_mem U);have Z:rd f.roads A.place.toNat B.place.toNat=f.roads[A.place.toNat][B.place.toNat]:=dE T U;have lA:=jb (mT bA.2.2.2.2.2);have lB:=jb (mT bB.2.2.2.2.2);obtain⟨_,c2,c3⟩:=F1 lA lB;have O:=C' bA.2.2.2.2.2 bB.2.2.2.2.2;obtain⟨ch,E⟩:∃ch,ch=bc (bd A.marks) (bd B.marks):=⟨_,rfl⟩;have z:tg A.marks B.marks=ch:=by rw[O,E]
   rw[<-E]at c2 c3
   have hmul:0<=f.dG*ch/\f.dG*ch<=30:=by
    constructor
    . exact Int.mul_nonneg (by omega) c2
    . calc f.dG*ch<=6*5:=Int.mul_le_mul I.2 c3 c2 (by omega)
       _=30:=by rfl
   have j:fR f L[k] L[k+1]=decide (B.hour-A.hour<f.roads[A.place.toNat][B.place.toNat]+f.dG*ch):=by unfold fR;rw[eA,eB,Z,E]
   have t:L.getD k 0=L[k]:=by simp[List.getD_eq_getElem?_getD,Y]
   have u:L.getD (k+1) 0=L[k+1]:=by simp[List.getD_eq_getElem?_getD,g1]
   have C:-9223372036854775808<=B.hour-A.hour/\B.hour-A.hour<=9223372036854775807:=by omega
   have V:-9223372036854775808<=f.dG*ch/\f.dG*ch<=9223372036854775807:=by omega
   have W:-9223372036854775808<=f.roads[A.place.toNat][B.place.toNat]+f.dG*ch/\f.roads[A.place.toNat][B.place.toNat]+f.dG*ch<=9223372036854775807:=by omega
   refine rn ?_;simp[p,r,w,X,Y,g1,x0,J,y0,K,f1.1,f1.2,f2,f3,<-M,<-N];refine⟨ns.intro λc P=>?_,ns.intro λc P=>?_⟩
   . simp
     refine ns.intro λd hd=>?_
     obtain⟨H,Q,hd⟩:=aa.aG hd;simp[H,Q,aa.ag];refine ab.bD 6 (b:=c) (aS A) (by simp[Q,aa.ag]) (by simp) rfl ?_
     refine ab.bD 7 (b:=d) (aS B) (by simp[H,aa.del]) (by simp) rfl ?_
     ((
       refine rn ?_;simp[p,r,w,C.1,C.2,T,U]
       repeat refine⟨by omega,?_⟩
       refine cf Tryz.func127 rfl (RC.u0 (q.fits.marks A (by rw[M];exact List.getElem_mem J)) (q.fits.marks B (by rw[N];exact List.getElem_mem K)) ?_)
       rw[z];refine pg ?_;simp[p,r,w,C.1,C.2,V.1,V.2,W.1,W.2];refine rn ?_
       by_cases v:B.hour-A.hour<f.roads[A.place.toNat][B.place.toNat]+f.dG*ch
       . simp[v]
         have:(List.range (L.length-1)).any (λi=>fR f (L.getD i 0) (L.getD (i+1) 0))=true:=List.any_eq_true.2 ⟨k,List.mem_range.2 (by omega),by rw[t,u,j];simpa using v⟩
         rw[this]at h;refine .less ?_ (.done h);intro y x g;have F:y≠c:=λe=>by rw[e,a.none P]at g;cases g
         have G:y≠d:=λe=>by rw[e,a.none hd]at g;cases g
         simpa[aa.del,aa.ag,F,G]using a y x g
       . simp[v,p,r,w,S.1,S.2]
         refine ih _ (by omega) ⟨_,_,rfl,λy x g=>?_,by simp[p],by simp[r],by simp,λi hi=>?_⟩
         . have F:y≠c:=λe=>by rw[e,a.none P]at g;cases g
           have G:y≠d:=λe=>by rw[e,a.none hd]at g;cases g
           simpa[aa.del,aa.ag,F,G]using a y x g
         . by_cases e:i=k
           . subst e;rw[t,u,j];simpa using v
           . exact o i (by omega)))
   . simp
     refine ns.intro λd hd=>?_
     obtain⟨H,Q,hd⟩:=aa.aG hd;simp[Q,aa.ag];refine ab.bD 6 (b:=d) (aS A) (by simp[H,aa.ag]) (by simp) rfl ?_
     refine ab.bD 7 (b:=c) (aS B) (by simp[Q,aa.del]) (by simp) rfl ?_
     ((
       refine rn ?_;simp[p,r,w,C.1,C.2,T,U]
       repeat refine⟨by omega,?_⟩
       refine cf Tryz.func127 rfl (RC.u0 (q.fits.marks A (by rw[M];exact List.getElem_mem J)) (q.fits.marks B (by rw[N];exact List.getElem_mem K)) ?_)
       rw[z];refine pg ?_;simp[p,r,w,C.1,C.2,V.1,V.2,W.1,W.2];refine rn ?_
       by_cases v:B.hour-A.hour<f.roads[A.place.toNat][B.place.toNat]+f.dG*ch
       . simp[v]
         have:(List.range (L.length-1)).any (λi=>fR f (L.getD i 0) (L.getD (i+1) 0))=true:=List.any_eq_true.2 ⟨k,List.mem_range.2 (by omega),by rw[t,u,j];simpa using v⟩
         rw[this]at h;refine .less ?_ (.done h);intro y x g;have F:y≠c:=λe=>by rw[e,a.none P]at g;cases g
         have G:y≠d:=λe=>by rw[e,a.none hd]at g;cases g
         simpa[aa.del,aa.ag,F,G]using a y x g
       . simp[v,p,r,w,S.1,S.2]
         refine ih _ (by omega) ⟨_,_,rfl,λy x g=>?_,by simp[p],by simp[r],by simp,λi hi=>?_⟩
         . have F:y≠c:=λe=>by rw[e,a.none P]at g;cases g
           have G:y≠d:=λe=>by rw[e,a.none hd]at g;cases g
           simpa[aa.del,aa.ag,F,G]using a y x g
         . by_cases e:i=k
           . subst e;rw[t,u,j];simpa using v
           . exact o i (by omega)))
 . have H:¬(k:Int)+1<L.length:=by omega
   refine rn ?_;simp[p,w,H]
   have:(List.range (L.length-1)).any (λi=>fR f (L.getD i 0) (L.getD (i+1) 0))=false:=by rw[List.any_eq_false];intro i hi;have:=List.mem_range.1 hi;rw[o i (by omega)];simp
   rw[this]at h;exact .less a (.done h)
theorem NI{f:Fr}{l:List Int}(y:f.Good)(z:l.length<1000000)(t:l≠[])(c:∀n∈l,0<=n/\n<f.ao.length)(h:KF (.val (bool (vb f l))) σ):ar prog m 72 [az f,ints l] σ KF:=by
 have a:0<l.length:=List.length_pos_iff.2 t;obtain⟨A,H⟩:=c _ (List.getElem_mem a);have u:l[0].toNat<f.ao.length:=by omega
 have v:l.getD 0 0=l[0]:=by simp[List.getD_eq_getElem?_getD,a]
 have e:=iV u;unfold vb Bj at h;rw[v,e]at h;refine fs Ti 2 Tryz.func72 rfl rfl (by rfl) (by kernel_rfl) ?_
 simp[Tryz.f72];refine ab.loop (l.length-1) (λk s=>∃env,s=⟨env,σ,[],.no⟩/\env 1=ints l/\env 2=.cp (az f) 0/\env 5=int ((k:Int)+1)/\(l.take (k+1)).all (λn=>decide ((be f n).bG=f.ao[l[0].toNat].bG))=true) ⟨_,rfl,by simp,by simp,by simp,?_⟩ ?_
 . rw[List.take_succ_eq_append_getElem a]
   simp[e]
 rintro I k _ J ⟨env,rfl,g,i,r,b⟩ E
 rcases Nat.lt_or_ge (k+1) l.length with g1|g1
 . have j:(k:Int)+1<l.length:=by omega
   obtain⟨y0,K⟩:=c _ (List.getElem_mem g1);have w:l[k+1].toNat<f.ao.length:=by omega
   have B:((k:Int)+1).toNat=k+1:=by omega
   have C:(0:Int)<=(k:Int)+1:=by omega
   have D:-9223372036854775808<=(k:Int)+1+1/\(k:Int)+1+1<=9223372036854775807:=by omega
   have o:=iV w
   have d:(l.take (k+1+1)).all (λn=>decide ((be f n).bG=f.ao[l[0].toNat].bG))=decide (f.ao[l[k+1].toNat].bG=f.ao[l[0].toNat].bG):=by rw[List.take_succ_eq_append_getElem g1,List.all_append,b,<-o];simp
   by_cases q:f.ao[l[k+1].toNat].bG=f.ao[l[0].toNat].bG
   . have p:(f.ao[l[k+1].toNat].bG !=f.ao[l[0].toNat].bG)=false:=by simp[q]
     refine rn ?_;simp[g,i,r,j,g1,y0,w,B,C,A,u,a,p];refine rn ?_;simp[r,D.1,D.2];exact E _ (by omega) ⟨_,rfl,by simp[g],by simp[i],by simp,by rw[d];simp[q]⟩
   . have p:(f.ao[l[k+1].toNat].bG !=f.ao[l[0].toNat].bG)=true:=by simp[q]
     have F:l.all (λn=>decide ((be f n).bG=f.ao[l[0].toNat].bG))=false:=by rw[List.all_eq_false];exact⟨_,List.getElem_mem g1,by rw[o];simp[q]⟩
     rw[F]at h;refine rn ?_;simp[g,i,r,j,g1,y0,w,B,C,A,u,a,p];refine rn ?_;simp;simp at h;exact .done h
 . have G:¬(k:Int)+1<l.length:=by omega
   have x:k+1=l.length:=by omega
   rw[x,List.take_length]at b;rw[b,Bool.true_and]at h;refine rn ?_;simp[g,i,r,G];refine cf Tryz.func74 rfl (NH y z c ?_);refine rn ?_;simp
   by_cases q:kS f l=[]
   . rw[q]at h ⊢
     simp at h ⊢;exact .done h
   . have p:0<(kS f l).length:=List.length_pos_iff.2 q
     simp[q]at h;simp[g,i,p];refine cf Tryz.func78 rfl (E0 y z ?_);refine rn ?_;simp;exact .done h
theorem vn{n:Nat}(h:n<=6):7 ^ n<=117649:=Nat.le_trans (Nat.pow_le_pow_right (by omega) h) (by decide)
theorem n7{f:Fr}(a:f.Good)(out:List Int):∀(fuel:Nat) (w:List Int),(dQ f out fuel w).length<=7 ^ fuel
 |0,w=>by simp[dQ]
 | fuel+1,w=>by
   have b:=a.most;unfold dQ;split
   . exact Nat.le_trans (n7 a out fuel _) (Nat.pow_le_pow_right (by omega) (by omega))
   . rw[Nat.pow_succ,Nat.mul_comm]
     refine Nat.le_trans (qr (B:=7 ^ fuel) _ λk _=>?_) (Nat.mul_le_mul_right _ ?_)
     . unfold mW
       split
       . exact n7 a out fuel _
       . simp
     . rw[List.length_range];omega
theorem B1{f:Fr}(u:f.Good){out:List Int}(Z:out.length<1152921504606846976):∀(fuel:Nat) (w:List Int) (σ:aa) (KF:dF->aa->Prop),w.length+fuel=f.ao.length->(∀x∈w,-1<=x/\x<6)->KF (.val (rows (dQ f out fuel w))) σ->ar prog m 90 [az f,ints out,ints w] σ KF:=by
 have h6:=u.oA;have a7:=u.most;intro fuel
 induction fuel with
 | zero=>
   intro w σ KF hlen H h;have N:(w.length:Int)=f.ao.length:=by omega
   unfold dQ at h;refine fs Rn 3 Tryz.func90 rfl rfl (by rfl) (by kernel_rfl) ?_
   simp[Tryz.f90,N];refine .eG (a':=rows [w]) ?_ (.done h);exact eE 1 [ints w] .exact
 | succ fuel v=>
   intro w σ KF hlen H h;have N:((w.length:Int)==f.ao.length)=false:=by rw[beq_eq_false_iff_ne];omega
   unfold dQ at h
   have z:∀y:Int,-1<=y/\y<6->∀x∈w++[y],-1<=x/\x<6:=λy hy x l=>by
    rcases List.mem_append.1 l with l|l
    . exact H x l
    . simp at l;subst l;exact hy
   refine fs Rn 3 Tryz.func90 rfl rfl (by rfl) (by kernel_rfl) ?_
   simp[Tryz.f90,N];refine cf Tryz.func128 rfl (vz Z ?_);refine rn ?_;simp
   by_cases I:(w.length:Int)∈out
   . rw[if_pos I] at h
     simp[I]
     repeat' (first
               |apply And.intro
               | (refine aF lay rfl rfl rfl bC rfl bC rfl oo (by decide) (by simp;omega) (σ0:=σ) (es:=[]) (xs:=w.map int) ⟨aa.le_refl _,.inr (.inl rfl)⟩ (.inr ⟨_,by simp;rfl⟩) λa1 O e=>?_
                  have p:=e.cells;refine pg ?_;simp[p.1,p.2];refine aF lay rfl rfl rfl bC rfl bC rfl oo (by decide) (by simp;omega) (σ0:=σ) (es:=w.map int) (xs:=[int (-1)]) (by simpa using e) (.inr ⟨_,by simp;rfl⟩) λA o d=>?_
                  have q:=d.cells;refine pg ?_;simp[q.1,q.2];have hW:Wl [az f,ints out,A] [az f,ints out,ints (w++[-1])]:=.cons (.refl _) (.cons (.refl _) (.cons (show A.W (.sl 1 ((w++[-1]).map int) .any)by rw[List.map_append];exact d.W) .nil))
                  refine aT Tryz.func90 rfl rfl hW (v (w++[-1]) o _ (by simp;omega) (z (-1) (by omega)) ?_)
                  refine pg ?_;simp;refine rn ?_;simp;exact .less d.1 (.done h)))
   . rw [if_neg I]at h
     obtain⟨cnt,C⟩:∃cnt,cnt=(min (aB w+1) f.most).toNat:=⟨_,rfl⟩;have a8:=mU w;have a9:=pL w 6 (by omega) λx l=>(H x l).2
     rw[<-C]at h
     have P:∀k,((List.range k).flatMap (mW f w (dQ f out fuel))).length<=k*117649:=λk=>by
      have:=qr (B:=117649) (g:=mW f w (dQ f out fuel)) (List.range k) λj _=>by
       unfold mW;split
       . exact Nat.le_trans (n7 u out fuel _) (vn (by omega))
       . simp
      rwa [List.length_range]at this
     simp[I];refine ab.loop cnt (λk s=>∃env D a,s=⟨env,D,[],.no⟩/\env 1=ints out/\env 2=ints w/\env 3=.cp (az f) 0/\env 7=int w.length/\env 8=a/\env 9=int k/\Tok σ D a 1 (((List.range k).flatMap (mW f w (dQ f out fuel))).map ints)) ⟨_,σ,.lit (.slice none 0 0),rfl,by simp,by simp,by simp,by simp,by simp,by simp,by simpa using Tok.nil σ 1⟩ ?_
     rintro c0 k _ hk ⟨env,E,a,rfl,Q,J,t,X,K,r,c⟩ Y
     have ad:=c.cells;refine rn ?_;simp[J,r];refine cf Tryz.func67 rfl (oC (by omega) (λx l=>by have:=H x l;omega) ?_)
     refine rn ?_;simp
     rcases Nat.lt_or_ge k cnt with g2|g2
     . have L:(k:Int)<=aB w:=by omega
       have R:(k:Int)<f.most:=by omega
       have f1:-9223372036854775808<=(k:Int)+1/\(k:Int)+1<=9223372036854775807:=by omega
       simp[J,t,r,L,R];refine aF lay rfl rfl rfl bC rfl bC rfl oo (by decide) (by simp;omega) (σ0:=E) (es:=[]) (xs:=w.map int) ⟨aa.le_refl _,.inr (.inl rfl)⟩ (.inr ⟨_,by simp;rfl⟩) λa1 O e=>?_
       have p:=e.cells;refine rn ?_;simp[r];refine aF lay rfl rfl rfl bC rfl bC rfl oo (by decide) (by simp;omega) (σ0:=E) (es:=w.map int) (xs:=[int k]) (by simpa using e) (.inr ⟨_,by simp;rfl⟩) λA o d=>?_
       have q:=d.cells
       have S:A.W (ints (w++[(k:Int)])):=by show A.W (.sl 1 ((w++[(k:Int)]).map int) .any);rw[List.map_append];exact d.W
       refine ab.yD 48 (a':=ints (w++[(k:Int)])) (by simpa using S) ?_
       refine rn ?_;simp[t,r];refine cf Tryz.func102 rfl (BI (by simp;omega) ?_)
       refine pg ?_;simp;have F:=z k (by omega)
       refine cf Tryz.func72 rfl (NI u (by have:=kB (w++[(k:Int)]) k;simp at this;omega) (by rw[fh,if_pos rfl];simp) (λn hn=>by have:=kD hn;simp at this;omega) ?_)
       refine pg ?_;simp
       have b:(List.range (k+1)).flatMap (mW f w (dQ f out fuel))=(List.range k).flatMap (mW f w (dQ f out fuel))++mW f w (dQ f out fuel) k:=by rw[List.range_succ,List.flatMap_append];simp
       have i:=c.up d.1
       by_cases M:vb f (aP (w++[(k:Int)]) k)=true
       . have T:mW f w (dQ f out fuel) k=dQ f out fuel (w++[(k:Int)]):=if_pos M
         rw[T]at b;refine rn ?_;simp[Q,t,K,M];refine cf Tryz.func90 rfl (v (w++[(k:Int)]) o _ (by simp;omega) F ?_)
         refine rn ?_;simp;have q1:=P k;have q2:=Nat.le_trans (n7 u out fuel (w++[(k:Int)])) (vn (by omega))
         have q3:k*117649<=6*117649:=Nat.mul_le_mul_right _ (by omega)
         refine aF lay rfl rfl rfl kX rfl kX rfl bC (by decide) (by simp only[List.length_map];omega) (σ0:=σ) (es:=((List.range k).flatMap (mW f w (dQ f out fuel))).map ints) (xs:=(dQ f out fuel (w++[(k:Int)])).map ints) (by simpa using i) (.inr ⟨_,by simp;rfl⟩) λa3 U G=>?_
         have al:=G.cells;refine rn ?_;simp[r,f1.1,f1.2];exact Y _ g2 ⟨_,U,a3,rfl,by simp[Q],by simp[J],by simp[t],by simp[X],by simp,by simp,by rw[b,List.map_append];exact G⟩
       . have mE:vb f (aP (w++[(k:Int)]) k)=false:=by simpa using M
         have T:mW f w (dQ f out fuel) k=[]:=if_neg M;rw[T,List.append_nil]at b;refine rn ?_;simp[r,mE,f1.1,f1.2];exact Y _ g2 ⟨_,o,a,rfl,by simp[Q],by simp[J],by simp[t],by simp[X],by simp[K],by simp,by rw[b];exact i⟩
     . have V:k=cnt:=by omega
       subst V
       by_cases L:(k:Int)<=aB w
       . have R:¬(k:Int)<f.most:=by omega
         simp[t,K,r,L,R];exact .eG c.W (.less c.1 (.done h))
       . simp[K,L]
         exact .eG c.W (.less c.1 (.done h))
theorem jy{f:Fr}(a:f.Good)(h:KF (.val (rows (am f []))) σ):ar prog m 61 [az f] σ KF:=by
 have b:Wl [az f,AV.lit (.slice none 0 0),AV.lit (.slice none 0 0)] [az f,ints [],ints []]:=.cons (.refl _) (.cons (cV 1) (.cons (cV 1) .nil));refine fs [] 1 Tryz.func61 rfl rfl (by rfl) (by kernel_rfl) ?_;simp[Tryz.f61];refine aT Tryz.func90 rfl rfl b (B1 a (by simp) f.ao.length [] _ _ (by simp) (by simp) ?_);rw[wh a];refine rn ?_;simp;exact .done h
end Go.Proofs.YtldmpfccgajobaaGreatDoor
namespace Go.Proofs.YtldmpfccgajobaaGreatDoor
open Tryz (prog)
open Go.aR Go.Conc
set_option maxHeartbeats 2000000
set_option maxRecDepth 4000
variable{m:Mo}{σ:aa}{KF:dF->aa->Prop}
theorem NM:FW prog 25 3:=.of (by kernel_rfl) (by kernel_rfl) (by kernel_rfl) (by kernel_rfl)
namespace MA
end MA
theorem yo{r:List (List Int)}(j:r.length<1152921504606846976)(e:∀l∈r,l.length<1152921504606846976)(h:KF (.val (bool true)) σ):ar prog m 68 [rows r,rows r] σ KF:=by
 refine fs Tg 2 Tryz.func68 rfl rfl (by rfl) (by kernel_rfl) ?_;simp[Tryz.f68];refine ab.loop r.length (λi s=>∃env,s=⟨env,σ,[],.no⟩/\env 0=rows r/\env 1=rows r/\env 5=int i) ⟨_,rfl,by simp,by simp,by simp⟩ ?_;rintro k i _ n ⟨env,rfl,a,b,c⟩ f;rcases Nat.lt_or_ge i r.length with g1|g1
 . have d:(i:Int)<r.length:=by omega
   have f1:-9223372036854775808<=(i:Int)+1/\(i:Int)+1<=9223372036854775807:=by omega
   refine rn ?_;simp[a,b,c,g1,d];refine cf Tryz.func21 rfl (fa (e _ (List.getElem_mem g1)) (e _ (List.getElem_mem g1)) ?_);refine pg ?_;simp;refine rn ?_;simp[c,f1.1,f1.2];exact f _ g1 ⟨_,rfl,by simp[a],by simp[b],by simp⟩
 . have g:¬(i:Int)<r.length:=by omega
   refine rn ?_;simp[a,b,c,g];exact .done h
theorem nT{e:gq}(a:e.marks.length<1152921504606846976)(h:KF (.val (bool true)) σ):ar prog m 47 [aS e,aS e] σ KF:=by
 refine fs [] 2 Tryz.func47 rfl rfl (by rfl) (by kernel_rfl) ?_;simp[Tryz.f47];refine cf Tryz.func21 rfl (fa a a ?_);refine rn ?_;simp;exact .done h
theorem fN{f:Fr}(e:f.Fits)(h:KF (.val (bool true)) σ):ar prog m 22 [az f,az f] σ KF:=by
 have n:=e.ao;refine fs Tc 2 Tryz.func22 rfl rfl (by rfl) (by kernel_rfl) ?_;simp[Tryz.f22];refine cf Tryz.func68 rfl (yo e.roads e.row ?_);refine rn ?_;simp;refine yN lay NM oo rfl (a:=f.bE) (b:=f.iQ) (c:=f.bE) (d:=f.iQ) (r:=false) rfl (by simp) (by simp) (.inr ⟨rfl,by simp⟩) ?_;refine rn ?_;simp;refine ab.loop f.ao.length (λi s=>∃env,s=⟨env,σ,[],.no⟩/\env 2=.cp (az f) 0/\env 3=.cp (az f) 0/\env 5=int i) ⟨_,rfl,by simp,by simp,by simp⟩ ?_;rintro q i _ t ⟨env,rfl,g,l,j⟩ o;rcases Nat.lt_or_ge i f.ao.length with g1|g1
 . have k:(i:Int)<f.ao.length:=by omega
   have f1:-9223372036854775808<=(i:Int)+1/\(i:Int)+1<=9223372036854775807:=by omega
   refine rn ?_;simp[g,l,j,g1,k];refine cf Tryz.func47 rfl (nT (e.marks _ (List.getElem_mem g1)) ?_);refine pg ?_;simp;refine rn ?_;simp[j,f1.1,f1.2];exact o _ g1 ⟨_,rfl,by simp[g],by simp[l],by simp⟩
 . have p:¬(i:Int)<f.ao.length:=by omega
   refine rn ?_;simp[g,j,p];exact .done h
namespace WI
abbrev Tt:List Entry:=[⟨1,.take [1,4,7] false (.both 0 (.both 2 (.both 3 (.one 5 (.one 6 (.one 8 (.done)))) (.one 5 (.one 3 (.one 6 (.one 8 (.done)))))) (.one 5 (.one 2 (.one 3 (.one 6 (.one 8 (.done))))))) (.both 2 (.both 0 (.both 3 (.one 5 (.one 6 (.one 8 (.done)))) (.one 5 (.one 3 (.one 6 (.one 8 (.done)))))) (.one 5 (.one 0 (.one 3 (.one 6 (.one 8 (.done))))))) (.one 5 (.both 0 (.one 2 (.one 3 (.one 6 (.one 8 (.done))))) (.one 2 (.one 0 (.one 3 (.one 6 (.one 8 (.done))))))))))⟩]
theorem E9{f:Fr}{n:gq}(O:f.ao.length<=1000)(h:KF (.val (az (cW f n))) σ):ar prog m 57 [az f,aS n] σ KF:=by
 refine ar.start lay [2] Tt 2 Tryz.func57 rfl rfl (by rfl) (by kernel_rfl) ?_
 simp[Tryz.f57];refine bT.intro λp E=>?_
 simp;refine bT.intro λw z=>?_
 obtain⟨F,A,z⟩:=aa.aG z;simp[A,aa.ag];generalize j:(σ.set p (.cells (bS f))).set w (.cells [AV.lit (.slice none 0 0),.lit (.slice none 0 0),int 0,int 0,int 0,int 0])=q;have B:q p=some (.cells (bS f)):=by subst j;simp[aa.ag,aa.an,A]
 have G:q w=some (.cells [AV.lit (.slice none 0 0),.lit (.slice none 0 0),int 0,int 0,int 0,int 0]):=by subst j;simp[aa.an]
 apply pG (I:=λenv r=>∃o c,env 2=.ref p 0/\env 4=.ref w 0/\r=c.set p (.cells [o,rows f.roads,int f.bE,int f.iQ,int f.dG,int f.most])/\Tok q c o 6 (f.ao.map aS++[aS n]))
 . intro k
   repeat' (first
             |apply And.intro
             | (refine aF lay rfl rfl rfl lz rfl lz rfl tx (by decide) (by simp;omega) (σ0:=q) (es:=[]) (xs:=f.ao.map aS) ⟨aa.le_refl _,.inr (.inl rfl)⟩ (.inr ⟨_,by simp;rfl⟩) λP H l=>?_
                have s:=l.cells;have J:=l.1 _ _ B;refine pg ?_;simp[s.1,s.2,J];refine aF lay rfl rfl rfl lz rfl lz rfl tx (by decide) (by simp;omega) (σ0:=q) (es:=f.ao.map aS) (xs:=[aS n]) (by simpa using l) (.inr ⟨_,by simp;rfl⟩) λo c a=>?_
                have g:=a.cells;have K:=a.1 _ _ B;refine pg ?_;simp[g.1,g.2,K,aH];exact k _ _ ⟨o,c,by simp,by simp,rfl,by simpa using a⟩))
 rintro env r ⟨o,c,L,M,rfl,a⟩
 have g:=a.cells;have N:=a.1 _ _ G;refine ab.run lay [2] ?_;simp[L,M,g.2,N,aa.ag,F,aH];refine .eG (a':=az (cW f n)) (oz rfl λi u v b d=>?_) (.less (λy x t=>?_) (.done h))
 . match i with
   |0=>obtain rfl:=Option.some.inj b;obtain rfl:=Option.some.inj d;have:=a.W;show o.W (.sl 6 ((f.ao++[n]).map aS) .any);rw[List.map_append];exact this
   |1=>simp at b d;subst b;subst d;exact .refl _
   |2=>simp at b d;subst b;subst d;exact .refl _
   |3=>simp at b d;subst b;subst d;exact .refl _
   |4=>simp at b d;subst b;subst d;exact .refl _
   |5=>simp at b d;subst b;subst d;exact .refl _
   |i+6=>simp at b
 . have C:y≠p:=λe=>by subst e;rw[E]at t;cases t
   have D:y≠w:=λe=>by subst e;rw[z]at t;cases t
   rw[aa.ag _ _ D,aa.ag _ _ C];refine a.1 _ _ ?_;rw[<-j,aa.ag _ _ D,aa.ag _ _ C];exact t
end WI
end Go.Proofs.YtldmpfccgajobaaGreatDoor
namespace Go.Proofs.YtldmpfccgajobaaGreatDoor
open Tryz (prog)
open Go.aR Go.Conc
set_option maxHeartbeats 1000000
set_option maxRecDepth 4000
variable{m:Mo}{σ:aa}{KF:dF->aa->Prop}
structure Small(f:Fr):Prop where
 ao:f.ao.length<=21
 roads:f.roads.length<=20
 marks:∀e∈f.ao,e.marks.length<=20
 row:∀r∈f.roads,r.length<=20
theorem Small.fits{f:Fr}(h:Small f):f.Fits:=⟨by have:=h.ao;omega,by have:=h.roads;omega,λr a=>by have:=h.row r a;omega,λe b=>by have:=h.marks e b;omega⟩
theorem E1{f:Fr}(a:f.Good)(b:∀e∈f.ao,e.marks.length<=20):Small f/\f.ao.length<=6:=by
 have g:f.roads.length<=3:=by
  have h:=a.Io;unfold fe at h;split at h
  . cases h
  split at h
  . cases h
  . omega
 refine⟨⟨by have:=a.oA;omega,by omega,b,λr c=>?_⟩,a.oA⟩;obtain⟨i,d,rfl⟩:=List.mem_iff_getElem.1 c;have:=(a.row d).1;omega
theorem r9{f:Fr}(g:f.Fits)(h:∀v,(v=false->Small f/\f.ao.length<=20)->KF (.val (bool v)) σ):ar prog m 10 [az f] σ KF:=by
 have w:=g.roads;have q:=g.ao;have j:=h true (λe=>by cases e);refine fs [] 1 Tryz.func10 rfl rfl (by rfl) (by kernel_rfl) ?_;simp[Tryz.f10];by_cases o:(20:Int)<f.ao.length
 . simp[o]
   exact .done j
 . simp [o]
   by_cases p:(20:Int)<f.roads.length
   . simp[p]
     exact .done j
   . simp [p]
     refine ab.loop f.ao.length (λi s=>∃env,s=⟨env,σ,[],.no⟩/\env 1=.cp (az f) 0/\env 3=int i/\∀e∈f.ao.take i,e.marks.length<=20) ⟨_,rfl,by simp,by simp,by simp⟩ ?_;rintro x i _ t ⟨env,rfl,b,k,c⟩ l;rcases Nat.lt_or_ge i f.ao.length with g3|g3
     . have mE:(i:Int)<f.ao.length:=by omega
       have u:=g.marks _ (List.getElem_mem g3);have f1:-9223372036854775808<=(i:Int)+1/\(i:Int)+1<=9223372036854775807:=by omega
       by_cases d:(20:Int)<f.ao[i].marks.length
       . refine rn ?_
         simp[b,k,g3,mE,d];exact .done j
       . refine rn ?_
         simp[b,k,g3,mE,d];refine⟨by omega,l _ g3 ⟨_,rfl,by simp[b],by simp,λe he=>?_⟩⟩;rw[List.take_succ_eq_append_getElem g3]at he;rcases List.mem_append.1 he with he|he
         . exact c e he
         . simp at he;subst he;omega
     . have:i=f.ao.length:=by omega
       subst this;rw[List.take_length]at c;refine rn ?_;simp[b,k];refine ab.loop f.roads.length (λi s=>∃env,s=⟨env,σ,[],.no⟩/\env 1=.cp (az f) 0/\env 4=int i/\∀r∈f.roads.take i,r.length<=20) ⟨_,rfl,by simp[b],by simp,by simp⟩ ?_;clear b k l;rintro y i _ t ⟨env,rfl,b,n,a⟩ l;rcases Nat.lt_or_ge i f.roads.length with g3|g3
       . have mE:(i:Int)<f.roads.length:=by omega
         have f1:-9223372036854775808<=(i:Int)+1/\(i:Int)+1<=9223372036854775807:=by omega
         have u:=g.row _ (List.getElem_mem g3);by_cases d:(20:Int)<f.roads[i].length
         . refine rn ?_
           simp[b,n,g3,mE,d];exact .done j
         . refine rn ?_
           simp[b,n,g3,mE,d];refine⟨by omega,l _ g3 ⟨_,rfl,by simp[b],by simp,λe he=>?_⟩⟩;rw[List.take_succ_eq_append_getElem g3]at he;rcases List.mem_append.1 he with he|he
           . exact a e he
           . simp at he;subst he;omega
       . have:i=f.roads.length:=by omega
         subst this;rw[List.take_length]at a;refine rn ?_;simp[b,n];exact .done (h false λ_=>⟨⟨by omega,by omega,c,a⟩,by omega⟩)
section
variable{c k:Nat}{nums:List Int}
abbrev gO(L:List Fr):AV:=.sl 6 (L.map az) .any
theorem Bk.small{cnt:Int}{f:Fr}{a:List Int}(h:Bk cnt f a):Small f/\f.ao.length<=6:=E1 h.eh λe b=>by have:=h.marks e b;omega
theorem E2{f:Fr}(h:nG 5 f):Small f:=by
 have d:=h.dM;have g:=h.len;obtain⟨i,_,a⟩:=h.Io;refine⟨by omega,by omega,λe b=>?_,λr c=>?_⟩
 . have:=(ja (h.uB e b).marks).2
   omega
 . have:=a.row r c
   omega
theorem lY{f:Fr}{n:gq}(t:k+2000<1000000)(r:nums.length<1152921504606846976)(hb:cB c nums k σ)(u:σ c≠none)(h:∀(f1 seen:Fr) σ',nG 5 f1->seen.Good->Small seen->seen.ao.length<=5->nR c nums (k+1500) σ σ'->KF (.val (gO [f,f1,seen,cW seen n])) σ'):ar prog m 12 [az f,aS n,.ref c 0] σ KF:=by
 refine fs S9 3 Tryz.func12 rfl rfl (by rfl) (by kernel_rfl) ?_;simp[Tryz.f12];refine cf Tryz.func55 rfl (Im (by omega) r ⟨by omega,by omega⟩ hb λseen v a j hd=>?_);refine ab.runN lay [] 6 ?_;simp;refine bT.intro λd l=>?_
 simp;refine ab.bD 7 (b:=d) (az seen) (by simp) (by simp) rfl ?_
 have o:(a.set d (.cells (bS seen))).del d=a:=by
  funext y;by_cases e:y=d
  . subst e;simp[aa.del,l]
  . simp[aa.del,e,aa.ag]
 rw[o];have g:=j.small;refine rn ?_;simp;refine cf Tryz.func56 rfl (Ih (by omega) r ⟨by omega,by omega⟩ hd.1 λf1 p q i=>?_);refine pg ?_;simp;refine cf Tryz.func57 rfl (WI.E9 (by have:=g.2;omega) ?_);refine pg ?_;simp;refine rn ?_;simp;refine .eG (a':=gO [f,f1,seen,cW seen n]) (eE 6 ([f,f1,seen,cW seen n].map az) .exact) (.done (h f1 seen p q j.eh g.1 (by have:=j.len;omega) ⟨?_,λy s=>?_⟩))
 . exact i.1.mono (by simp)
 . rw[i.2 y s,hd.2 y s]
end
end Go.Proofs.YtldmpfccgajobaaGreatDoor
namespace Go.Proofs.YtldmpfccgajobaaGreatDoor
open Tryz (prog)
open Go.aR Go.Conc
set_option maxHeartbeats 2000000
set_option maxRecDepth 4000
variable{m:Mo}{σ:aa}{KF:dF->aa->Prop}
theorem mS{σ:aa}{d:Nat}{x:ku}(h:σ d=none):(σ.set d x).del d=σ:=by
 funext y;by_cases e:y=d
 . subst e;simp[aa.del,h]
 . simp[aa.del,e,aa.ag]
theorem Small.own{f:Fr}(h:Small f)(a:KF (.val (az f)) σ):ar prog m 14 [az f] σ KF:=Db (by have:=h.ao;omega) (λe b=>by have:=h.marks e b;omega) (by have:=h.roads;omega) (λr c=>by have:=h.row r c;omega) a
theorem lZ{f f1 seen:Fr}{n:gq}(c:Small f)(d:nG 5 f1)(a:Small seen)(i:seen.ao.length<=5)(h:n.marks.length<=20):∀g∈[f,f1,seen,cW seen n],Small g:=λg b=>by
 simp only[List.mem_cons,List.not_mem_nil,or_false]at b;rcases b with rfl|rfl|rfl|rfl
 . exact c
 . exact E2 d
 . exact a
 . refine⟨by simp[cW];omega,a.roads,λe he=>?_,a.row⟩
   rcases List.mem_append.1 he with he|he
   . exact a.marks e he
   . simp at he;subst he;exact h
end Go.Proofs.YtldmpfccgajobaaGreatDoor
