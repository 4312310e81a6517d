import Derived.Test.YtldmpfccgajobaaGreatDoorC34
set_option linter.all false
namespace Go.Proofs.YtldmpfccgajobaaGreatDoor
open Tryz (prog)
open Go.aR Go.Conc
set_option maxHeartbeats 1000000
set_option maxRecDepth 4000
theorem zJ(lt:Int->Int->Bool)(x:Int):∀r:List Int,(fH lt x r).Perm (x::r)
 |[]=>List.Perm.refl _
 | y::r=>by
   unfold fH;split
   . exact((zJ lt x r).cons y).trans (List.Perm.swap x y r)
   . exact List.Perm.refl _
theorem EU(lt:Int->Int->Bool)(l:List Int):(dp lt l).Perm l:=by
 have key:∀(l r:List Int),(l.foldl (λr x=>fH lt x r) r).Perm (l++r):=by
  intro l;induction l with
  |nil=>intro r;exact List.Perm.refl _
  |cons a l b=>intro r;rw[List.foldl_cons];refine(b _).trans (((zJ lt a r).append_left l).trans ?_);exact List.perm_middle
 simpa[dp]using key l []
theorem km(f:Fr)(l:List Int):(aU f l).Perm l:=(List.reverse_perm _).trans (EU _ _)
def cW(f:Fr)(n:gq):Fr:={f with ao:=f.ao++[n]}
def dC(f:Fr)(e:gq)(h:Int):Bool:=if e.fT=0 then decide (e.aQ=h)else if e.fT=1 then bx (e.aQ-h) f.bE f.iQ else decide (e.aQ=h)||bx (e.aQ-h) f.bE f.iQ
def te:List Int:=(List.range 34).map λi:Nat=>(i:Int)-3
def kS(f:Fr)(l:List Int):List Int:=te.filter λh=>l.all λn=>dC f (be f n) h
theorem gx{a b c:Int}:bx a b c=true↔b<=a/\a<=c:=by simp[bx]
theorem zK{f:Fr}{e:gq}{h:Int}(a:e.fT≠0):h∈gz f e↔f.bE<=e.aQ-h/\e.aQ-h<=f.iQ:=by
 rw[CY a,List.mem_map];constructor
 . rintro⟨i,b,rfl⟩
   have:=List.mem_range.1 b;omega
 . rintro⟨c,d⟩
   exact⟨(h-(e.aQ-f.iQ)).toNat,List.mem_range.2 (by omega),by omega⟩
theorem EV{f:Fr}{e:gq}(a:e.fT=0):gz f e=[]:=by unfold gz;rw[if_neg (by simpa using a)]
theorem uj{f:Fr}{e:gq}{h:Int}(c:0<=e.fT/\e.fT<=2):h∈bL f e↔dC f e h=true:=by
 unfold dC;by_cases a:e.fT=0
 . rw[if_pos a]
   unfold bL;rw[EV a,if_pos ⟨by omega,by simp⟩];simp[eq_comm]
 rw[if_neg a];by_cases b:e.fT=1
 . rw[if_pos b]
   unfold bL;rw[if_neg (by simp[b]),zK a,gx]
 . rw [if_neg b,Bool.or_eq_true,decide_eq_true_eq,gx,<-zK a]
   unfold bL;split
   . rw[List.mem_append,List.mem_singleton]
     constructor
     . rintro(h|h)
       . exact .inr h
       . exact .inl h.symm
     . rintro(h|h)
       . exact .inr h.symm
       . exact .inl h
   . next q=>
     have q:e.aQ∈gz f e:=by refine Classical.byContradiction λg=>q ⟨b,g⟩
     constructor
     . exact .inr
     . rintro(h|h)
       . subst h;exact q
       . exact h
theorem Am:∀{l c:List Int},l.Pairwise (·<·)->c.Pairwise (·<·)->(∀x,x∈l↔x∈c)->l=c
 |[],[],_,_,_=>rfl
 |[],b::c,_,_,h=>absurd ((h b).2 (by simp)) (by simp)
 |a::l,[],_,_,h=>absurd ((h a).1 (by simp)) (by simp)
 | a :: l,b::c,k,m,h=>by
   obtain⟨i,n⟩:=List.pairwise_cons.1 k;obtain⟨j,o⟩:=List.pairwise_cons.1 m
   have e:a=b:=by
    have d:=(h a).1 (by simp);have hb:=(h b).2 (by simp);rcases List.mem_cons.1 d with d|d
    . exact d
    . rcases List.mem_cons.1 hb with hb|hb
      . exact hb.symm
      . have:=i b hb
        have:=j a d;omega
   subst e;rw[Am n o λx=>?_];have g:=h x;simp only[List.mem_cons]at g;constructor
   . intro f
     have:=i x f;rcases g.1 (.inr f)with e|e
     . omega
     . exact e
   . intro f
     have:=j x f;rcases g.2 (.inr f)with e|e
     . omega
     . exact e
theorem LL{h:Int}:h∈te↔-3<=h/\h<=30:=by
 unfold te;rw[List.mem_map];constructor
 . rintro⟨i,a,rfl⟩
   have:=List.mem_range.1 a;omega
 . rintro⟨b,c⟩
   exact⟨(h+3).toNat,List.mem_range.2 (by omega),by omega⟩
theorem Ij{f:Fr}(b:f.Good){e:gq}(c:e∈f.ao){h:Int}(a:dC f e h=true):-3<=h/\h<=30:=by
 have hb:=(lu (b.uB e c)).2.2.2.1;have d:=b.fr;have g:=b.to;unfold dC at a;split at a
 . have:=of_decide_eq_true a;omega
 split at a
 . have:=gx.1 a;omega
 . rw[Bool.or_eq_true,decide_eq_true_eq,gx]at a
   omega
theorem Bi{f:Fr}(g:f.Good){l:List Int}(d:l≠[])(i:∀n∈l,0<=n/\n<f.ao.length){h:Int}:h∈kS f l↔∀j∈l,h∈bL f (be f j):=by
 unfold kS;rw[List.mem_filter,LL,List.all_eq_true];have e:∀j∈l,0<=(be f j).fT/\(be f j).fT<=2:=λj b=>(lu (g.uB _ (iJ (i j b)))).2.2.2.2.1
 constructor
 . rintro⟨_,c⟩ j b
   exact(uj (e j b)).2 (c j b)
 . intro c
   obtain⟨a,r,rfl⟩:=List.exists_cons_of_ne_nil d;refine⟨Ij g (iJ (i a (by simp))) ((uj (e a (by simp))).1 (c a (by simp))),λj b=>(uj (e j b)).1 (c j b)⟩
def tg(a b:List Int):Int:=(((List.range 5).filter λi:Nat=>decide ((i:Int)∈a)!=decide ((i:Int)∈b)).length:Int)
def F7:List (List Int):=(List.range 32).map λx:Nat=>((List.range 5).map λi:Nat=>(i:Int)).filter λi=>x.testBit i.toNat
theorem C9:∀{l:List Int}{p:Option Int},ma p l=0->(∀q,p=some q->∀x∈l,q<x)/\l.Pairwise (·<·)
 |[],p,_=>⟨λ_ _ x b=>(by cases b),List.Pairwise.nil⟩
 | a::l,p,h=>by
   unfold ma at h;split at h
   . cases h
   split at h
   . cases h
   next d=>
   obtain⟨e,f⟩:=C9 h;have b:∀x∈l,a<x:=e a rfl;refine⟨λq g x c=>?_,List.pairwise_cons.2 ⟨b,f⟩⟩;subst g;have:q<a:=by simpa[pY]using d
   rcases List.mem_cons.1 c with rfl|hm
   . exact this
   . have:=b x hm;omega
theorem Ik:∀a b c d e:Bool,(((List.range 5).map λi:Nat=>(i:Int)).filter λi=>[a,b,c,d,e].getD i.toNat false)∈F7:=by decide +kernel
theorem zL{l:List Int}(h:ma none l=0):l∈F7:=by
 have c:=mT h;have d:=(C9 h).2
 have:l=((List.range 5).map λi:Nat=>(i:Int)).filter λi=>[decide ((0:Int)∈l),decide ((1:Int)∈l),decide ((2:Int)∈l),decide ((3:Int)∈l),decide ((4:Int)∈l)].getD i.toNat false:=by
  refine Am d ?_ λx=>?_
  . refine List.Pairwise.filter _ ?_
    rw[List.pairwise_map];exact List.pairwise_lt_range.imp λh=>by omega
  . rw[List.mem_filter,List.mem_map]
    constructor
    . intro a
      have hb:=c x a;refine⟨⟨x.toNat,List.mem_range.2 (by omega),by omega⟩,?_⟩;have:x=0\/x=1\/x=2\/x=3\/x=4:=by omega
      rcases this with rfl|rfl|rfl|rfl|rfl<;>simpa using a
    . rintro⟨⟨i,b,rfl⟩,a⟩
      have b:=List.mem_range.1 b;have:i=0\/i=1\/i=2\/i=3\/i=4:=by omega
      rcases this with rfl|rfl|rfl|rfl|rfl<;>simpa using a
 rw[this];exact Ik _ _ _ _ _
theorem Nz:∀a∈F7,∀b∈F7,tg a b=bc (bd a) (bd b):=by decide +kernel
theorem C'{a b:List Int}(c:ma none a=0)(hb:ma none b=0):tg a b=bc (bd a) (bd b):=Nz _ (zL c) _ (zL hb)
def yj(f:Fr)(l:List Int):List Int:=((List.range f.ao.length).map λi:Nat=>(i:Int)).filter λi=>decide (i∈l)
def Bj(f:Fr)(l:List Int):Bool:=l.all λn=>decide ((be f n).bG=(be f (l.getD 0 0)).bG)
def vb(f:Fr)(l:List Int):Bool:=Bj f l && decide (kS f l≠[]) && !bY f (aU f (yj f l))
theorem NA(f:Fr)(l:List Int):(yj f l).Pairwise (·<·):=by refine List.Pairwise.filter _ ?_;rw[List.pairwise_map];exact List.pairwise_lt_range.imp λh=>by omega
theorem Da{f:Fr}{l:List Int}{x:Int}:x∈yj f l↔(0<=x/\x<f.ao.length)/\x∈l:=by
 unfold yj;rw[List.mem_filter,List.mem_map,decide_eq_true_eq];constructor
 . rintro⟨⟨i,a,rfl⟩,h⟩
   have:=List.mem_range.1 a;exact⟨by omega,h⟩
 . rintro⟨b,h⟩
   exact⟨⟨x.toNat,List.mem_range.2 (by omega),by omega⟩,h⟩
theorem NB{f:Fr}{l:List Int}(h:l.Pairwise (·<·))(a:∀n∈l,0<=n/\n<f.ao.length):yj f l=l:=Am (NA f l) h λx=>Da.trans ⟨λh=>h.2,λh=>⟨a x h,h⟩⟩
theorem LM(f:Fr){l:List Int}(b:l≠[]):Bj f l=!dt f (aU f l):=by
 have g:=km f l;have d:∀n,n∈aU f l↔n∈l:=λn=>g.mem_iff
 have z:∀{r:List Int},r≠[]->r.getD 0 0∈r:=λ{r} h=>by
  match r,h with
  |a::r,_=>simp
 have c:aU f l≠[]:=λe=>by rw[e]at g;exact b (List.nil_perm.1 g)
 rw[Bool.eq_iff_iff];unfold Bj dt;rw[Bool.not_eq_true',List.any_eq_false,List.all_eq_true];simp only[decide_eq_true_eq,Decidable.not_not];have j:=z b;have k:=z c;constructor
 . intro h x i
   rw[h x ((d x).1 i),h _ ((d _).1 k)]
 . intro h x i
   rw[h x ((d x).2 i),h _ ((d _).2 j)]
theorem EW{f:Fr}(k:f.Good){l:List Int}(a:l≠[])(m:∀n∈l,0<=n/\n<f.ao.length):decide (kS f l≠[])=!ci f (aU f l):=by
 have c:=km f l;have i:∀n,n∈aU f l↔n∈l:=λn=>c.mem_iff
 have b:aU f l≠[]:=λe=>by rw[e]at c;exact a (List.nil_perm.1 c)
 have key:∀x,x∈kS f l↔x∈eP f (aU f l):=λx=>by rw[Bi k a m,sm b];exact⟨λh j d=>h j ((i j).1 d),λh j d=>h j ((i j).2 d)⟩
 unfold ci;rw[Bool.eq_iff_iff,Bool.not_eq_true',decide_eq_true_eq,decide_eq_false_iff_not];constructor
 . intro h e
   obtain⟨x,g⟩:=List.exists_mem_of_ne_nil _ h;have:=(key x).1 g;rw[e]at this;cases this
 . intro h e
   obtain⟨x,g⟩:=List.exists_mem_of_ne_nil _ h;have:=(key x).2 g;rw[e]at this;cases this
theorem As{f:Fr}(d:f.Good){l:List Int}(a:l≠[])(b:l.Pairwise (·<·))(c:∀n∈l,0<=n/\n<f.ao.length):vb f l=decide (mG f l=0):=by unfold vb;rw[NB b c,LM f a,EW d a c,Bool.eq_iff_iff,decide_eq_true_eq,sk];simp[and_assoc]
def mW(f:Fr)(begun:List Int)(rest:List Int->List (List Int))(k:Nat):List (List Int):=if vb f (aP (begun++[(k:Int)]) k)=true then rest (begun++[(k:Int)])else[]
def dQ(f:Fr)(out:List Int):Nat->List Int->List (List Int)
 |0,begun=>[begun]
 |n+1,begun=>if(begun.length:Int)∈out then dQ f out n (begun++[-1])else(List.range (min (aB begun+1) f.most).toNat).flatMap (mW f begun (dQ f out n))
theorem oB(w:List Int)(k:Int):(aP w k).Pairwise (·<·):=(uZ k w 0).1
theorem xA{f:Fr}(l:f.Good):∀(fuel:Nat) (de b:List Int),de.length+fuel=f.ao.length->Hs f de.length b->(∀k:Nat,k<6->cD (b.getD k 0)=aP de k) ->
 dv f [] fuel de (aB de) b=dQ f [] fuel de
 |0,de,b,_,_,_=>by simp[dv,dQ]
 | fuel+1,de,b,u,m,hb=>by
   have o:=l.most;have v:=l.oA;have r:=mU de;rw[oY,dQ,if_neg (by simp)]
   refine nY λk q=>?_
   have q:=List.mem_range.1 q;have c:k<6:=by omega
   have a:k<b.length:=by rw[m.oA];exact c
   have d:b.getD k 0=b[k]:=by rw[List.getD_eq_getElem?_getD,List.getElem?_eq_getElem a];rfl
   have g:de.length<6:=by omega
   have h:cD (bH b[k] de.length)=aP (de++[(k:Int)]) k:=by rw[Ii (m.small _ (List.getElem_mem a)) g (m.bits _ (List.getElem_mem a)),<-d,hb k c,fh,if_pos rfl]
   unfold ol mW;rw[if_neg (by simp),d]
   have i:jc f (bH b[k] de.length)=vb f (aP (de++[(k:Int)]) k):=by
    unfold jc;rw[h,As l (by rw[fh,if_pos rfl];simp) (oB _ _) λn s=>?_]
    have:=kD s;simp at this;omega
   rw[i,<-ki];have p:=m.set g a;rw[xA l fuel _ _ (by simp;omega) (by simpa using p) λj t=>?_]
   by_cases e:j=k
   . subst e
     rw[List.getD_eq_getElem?_getD,List.getElem?_set_self a];exact h
   . rw[List.getD_eq_getElem?_getD,List.getElem?_set_ne (Ne.symm e),<-List.getD_eq_getElem?_getD,hb j t,fh,if_neg (by omega),List.append_nil]
theorem wh{f:Fr}(h:f.Good):dQ f [] f.ao.length []=am f []:=by
 have d:cD 0=[]:=by decide +kernel
 have a:∀x∈([0,0,0,0,0,0]:List Int),x=0:=λx b=>by simpa using b
 have i:Hs f ([]:List Int).length [0,0,0,0,0,0]:=⟨rfl,λx b e g=>by rw[a x b,d]at g;exact absurd g List.not_mem_nil,λx b=>by rw[a x b];omega⟩
 have c:∀k:Nat,k<6->cD (([0,0,0,0,0,0]:List Int).getD k 0)=aP [] k:=λk j=>by
  have:([0,0,0,0,0,0]:List Int).getD k 0=0:=by
   match k,j with
   |0,_=>rfl
   |1,_=>rfl
   |2,_=>rfl
   |3,_=>rfl
   |4,_=>rfl
   |5,_=>rfl
  rw[this,d];rfl
 exact(xA h f.ao.length [] [0,0,0,0,0,0] (by simp) i c).symm
end Go.Proofs.YtldmpfccgajobaaGreatDoor
namespace Go.Proofs.YtldmpfccgajobaaGreatDoor
open Tryz (prog)
open Go.aR Go.Conc
set_option maxHeartbeats 1000000
variable{m:Mo}{σ:aa}{KF:dF->aa->Prop}
theorem cr{n b c:Int}(h:KF (.val (bool (bx n b c))) σ):ar prog m 83 [int n,int b,int c] σ KF:=by
 unfold bx at h;refine fs [] 3 Tryz.func83 rfl rfl (by rfl) (by kernel_rfl) ?_;simp[Tryz.f83];refine vp.intro (λa=>?_) (λa=>?_)<;>(try simp[-Int.not_lt,-Int.not_le,-Nat.not_lt,-Nat.not_le]at a)<;>(try simp[a]at h)<;>(try simp[a])<;>(try exact .done h)
theorem vz{l:List Int}{n:Int}(i:l.length<1152921504606846976)(h:KF (.val (bool (decide (n∈l)))) σ):ar prog m 128 [ints l,int n] σ KF:=by
 refine fs [] 2 Tryz.func128 rfl rfl (by rfl) (by kernel_rfl) ?_;simp[Tryz.f128];refine ab.loop l.length (λk s=>∃env,s=⟨env,σ,[],.no⟩/\env 0=ints l/\env 1=int n/\env 5=int k/\n∉l.take k) ⟨_,rfl,by simp⟩ ?_;rintro j k _ o ⟨env,rfl,b,f,c,d⟩ g;rcases Nat.lt_or_ge k l.length with g1|g1
 . have e:(k:Int)<l.length:=by omega
   have f1:-9223372036854775808<=(k:Int)+1/\(k:Int)+1<=9223372036854775807:=by omega
   refine rn ?_;simp[b,f,c,g1,e];refine aE.intro (λa=>?_) (λa=>?_)<;>(try simp[-Int.not_lt,-Int.not_le,-Nat.not_lt,-Nat.not_le]at a)<;>(try simp[c,a])
   . have:n∈l:=by rw[<-a];exact List.getElem_mem g1
     simp[this]at h;exact .done h
   . exact⟨by omega,g _ g1 ⟨_,rfl,by simp[b],by simp[f],by simp,sU g1 d a⟩⟩
 . have:k=l.length:=by omega
   subst this;rw[List.take_length]at d;refine rn ?_;simp[b,c];simp[d]at h;exact .done h
theorem pH{f:Fr}{e:gq}(w:f.roads.length<1152921504606846976)(x:e.marks.length<1152921504606846976)(h:KF (.val (int (bf f.roads.length e))) σ):ar prog m 84 [az f,aS e] σ KF:=by
 unfold bf at h;have f1:-9223372036854775808<=(f.roads.length:Int)-1/\(f.roads.length:Int)-1<=9223372036854775807:=by omega
 refine fs Tq 2 Tryz.func84 rfl rfl (by rfl) (by kernel_rfl) ?_;simp[Tryz.f84];refine cf Tryz.func83 rfl (cr ?_);refine rn ?_;simp;refine aE.intro (λi=>?_) (λi=>?_)<;>(try simp[-Int.not_lt,-Int.not_le,-Nat.not_lt,-Nat.not_le]at i)<;>(try simp[i]at h)<;>(try simp[i,f1.1,f1.2])<;>(try exact .done h);refine cf Tryz.func83 rfl (cr ?_);refine rn ?_;simp;refine aE.intro (λj=>?_) (λj=>?_)<;>(try simp[-Int.not_lt,-Int.not_le,-Nat.not_lt,-Nat.not_le]at j)<;>(try simp[j]at h)<;>(try simp[j])<;>(try exact .done h);refine cf Tryz.func83 rfl (cr ?_);refine rn ?_;simp;refine aE.intro (λl=>?_) (λl=>?_)<;>(try simp[-Int.not_lt,-Int.not_le,-Nat.not_lt,-Nat.not_le]at l)<;>(try simp[l]at h)<;>(try simp[l])<;>(try exact .done h)
 refine ab.loop e.marks.length (λk s=>∃env,s=⟨env,σ,[],.no⟩/\env 2=.cp (az f) 0/\env 3=.cp (aS e) 0/\env 5=int k/\ma none e.marks=ma (if k=0 then none else e.marks[k-1]?) (e.marks.drop k)) ⟨_,rfl,by simp⟩ ?_;rintro y k _ z ⟨env,rfl,p,d,g,a⟩ q;rcases Nat.lt_or_ge k e.marks.length with g4|g4
 . have o:(k:Int)<e.marks.length:=by omega
   have A:-9223372036854775808<=(k:Int)+1/\(k:Int)+1<=9223372036854775807:=by omega
   rw[FY _ k g4]at a;refine rn ?_;simp[d,g,g4,o];refine cf Tryz.func83 rfl (cr ?_);refine rn ?_;simp;refine aE.intro (λb=>?_) (λb=>?_)<;>(try simp[-Int.not_lt,-Int.not_le,-Nat.not_lt,-Nat.not_le]at b)<;>(try simp[b]at a)<;>(try simp[g,b])<;>(try exact .done a)
   . refine Jb.intro (λc=>?_) (λc=>?_)<;>(try simp[-Int.not_lt,-Int.not_le,-Nat.not_lt,-Nat.not_le]at c)<;>(try simp[c]at a)<;>(try simp[d,g,c,g4])<;>(try exact .done a)
     . have t:(k:Int)-1=((k-1:Nat):Int):=by omega
       have r:k-1<e.marks.length:=by omega
       have u:¬k=0:=by omega
       simp[t,r];repeat refine⟨by omega,?_⟩
       try simp[r,u,pY]at a
       refine rn ?_;simp;refine aE.intro (λn=>?_) (λn=>?_)<;>(try simp[-Int.not_lt,-Int.not_le,-Nat.not_lt,-Nat.not_le]at n)<;>(try simp[n]at a)<;>(try simp[g,n])<;>(try exact .done a)
       . simp[a]at h
         exact .done h
       . refine⟨by omega,q _ g4 ⟨_,rfl,by simp[p],by simp[d],by simp,?_⟩⟩
         simp[a,g4]
     . have v:k=0:=by omega
       subst v;simp[pY]at a;refine rn ?_;simp[g];refine q _ g4 ⟨_,rfl,by simp[p],by simp[d],by simp,?_⟩;simp[a,g4]
   . simp[a]at h
     exact .done h
 . have:k=e.marks.length:=by omega
   subst this;simp[ma]at a;simp[a]at h;refine rn ?_;simp[d,g];refine cf Tryz.func83 rfl (cr ?_);refine rn ?_;simp;refine aE.intro (λb=>?_) (λb=>?_)<;>(try simp[-Int.not_lt,-Int.not_le,-Nat.not_lt,-Nat.not_le]at b)<;>(try simp[b]at h)<;>(try simp[d,b])<;>(try exact .done h);refine cf Tryz.func83 rfl (cr ?_);refine rn ?_;simp;refine aE.intro (λc=>?_) (λc=>?_)<;>(try simp[-Int.not_lt,-Int.not_le,-Nat.not_lt,-Nat.not_le]at c)<;>(try simp[c]at h)<;>(try simp[c])<;>(try exact .done h)
def xB(r:List (List Int))(i j:Nat):Bool:=(decide (i=j) && rd r i j !=0)||rd r i j !=rd r j i||(List.range r.length).any λk=>decide (rd r i j>rd r i k+rd r k j)
theorem Il{r:List (List Int)}{i j:Nat}(b:xB r i i=false)(a:xB r i j=false):bW r i j=false:=by unfold xB at b a;unfold bW;simp only[Bool.or_eq_false_iff,decide_true,Bool.true_and]at b a ⊢;exact⟨⟨b.1.1,a.1.2⟩,a.2⟩
theorem xC{r:List (List Int)}(hr:r.length<1152921504606846976)(hl:∀l∈r,l.length<1152921504606846976)(h:KF (.val (int (fe r))) σ):ar prog m 82 [rows r] σ KF:=by
 unfold fe at h;refine fs Tp 1 Tryz.func82 rfl rfl (by rfl) (by kernel_rfl) ?_
 simp[Tryz.f82];refine aE.intro (λU=>?_) (λU=>?_)<;>simp at U<;>simp[U]
 . rw[if_pos (show r.length<1 by simp[U])]at h
   exact .done h
 have P:¬r.length<1:=λq=>U (List.length_eq_zero_iff.1 (by omega))
 refine aE.intro (λg2=>?_) (λg2=>?_)<;>simp at g2<;>simp[g2]
 . have I:3<r.length:=by omega
   rw[if_neg P,if_pos I]at h;exact .done h
 have I:¬3<r.length:=by omega
 rw[if_neg P,if_neg I]at h;refine ab.loop r.length (λk s=>∃env,s=⟨env,σ,[],.no⟩/\env 0=rows r/\env 3=int r.length/\env 4=int k/\fK r.length r=fK r.length (r.drop k)) ⟨_,rfl,by simp⟩ ?_
 rintro c0 k _ Q ⟨env,rfl,b,a,A,u⟩ ih
 rcases Nat.lt_or_ge k r.length with g4|g4
 . have V:(k:Int)<r.length:=by omega
   rw[xk _ _ k g4]at u;obtain⟨l,v⟩:∃l,l=r[k]:=⟨_,rfl⟩;have b3:l.length<1152921504606846976:=hl l (by rw[v];exact List.getElem_mem g4)
   by_cases g5:l.length=r.length
   . have J:((l.length:Int) !=r.length)=false:=by simp[g5]
     rw[<-v]at u;refine rn ?_;simp[b,a,A,g4,V,v.symm,J];refine ab.loop l.length (λj s=>∃env,s=⟨env,σ,[],.no⟩/\env 0=rows r/\env 3=int r.length/\env 4=int k/\env 5=int j/\(l.take j).all (bx · 0 9)=true) ⟨_,rfl,by simp[b],by simp[a],by simp[A],by simp,by simp⟩ ?_
     clear b a A
     rintro c1 j _ R ⟨env,rfl,b,a,A,h5,w⟩ C
     rcases Nat.lt_or_ge j l.length with g6|g6
     . have x:(j:Int)<r.length:=by omega
       refine rn ?_;simp[b,a,A,h5,g4,v.symm,g6,x];refine cf Tryz.func83 rfl (cr ?_);refine rn ?_;simp;refine aE.intro (λW=>?_) (λW=>?_)<;>(try simp[-Int.not_lt,-Int.not_le,-Nat.not_lt,-Nat.not_le]at W)<;>(try simp[h5,W])
       . refine⟨by omega,C _ g6 ⟨_,rfl,by simp[b],by simp[a],by simp[A],by simp,?_⟩⟩
         rw[List.take_succ_eq_append_getElem g6,List.all_append,w];simp[W]
       . have:l.all (bx · 0 9)=false:=by
          rw[List.all_eq_false];exact⟨_,List.getElem_mem g6,by simp[W]⟩
         simp[i7,g5,this]at u;simp[u]at h;exact .done h
     . have:j=l.length:=by omega
       subst this;have X:¬(l.length:Int)<r.length:=by omega
       rw[List.take_length]at w;have a8:i7 r.length l=0:=by unfold i7;rw[if_neg (by simp[g5]),if_pos w]
       rw[if_pos a8]at u;refine rn ?_;simp[a,A,h5,X];exact⟨by omega,ih _ g4 ⟨_,rfl,by simp[b],by simp[a],by simp,u⟩⟩
   . have J:((l.length:Int) !=r.length)=true:=by
      have:¬(l.length:Int)=r.length:=by omega
      simp[this]
     rw[<-v]at u;simp[i7,g5]at u;simp[u]at h;refine rn ?_;simp[b,a,A,g4,V,v.symm,J];exact .done h
 have:k=r.length:=by omega
 subst this;simp[fK]at u;rw[if_neg (by rw[u];simp)]at h
 clear ih;have d:∀(i:Nat) (B:i<r.length),r[i].length=r.length:=λi B=>(iv u _ (List.getElem_mem B)).1
 have D:∀(i:Nat) (B:i<r.length) (j:Nat) (R:j<r[i].length),0<=r[i][j]/\r[i][j]<=9:=λi B j R=>iU ((iv u _ (List.getElem_mem B)).2 _ (List.getElem_mem R))
 have p:∀i j,i<r.length->j<r.length->bW r i j=true->KF (.val (int 9)) σ:=λi j g5 g6 hb=>by
  have:((List.range r.length).any λi=>(List.range r.length).any λj=>bW r i j)=true:=List.any_eq_true.2 ⟨i,List.mem_range.2 g5,List.any_eq_true.2 ⟨j,List.mem_range.2 g6,hb⟩⟩
  rw[if_pos this]at h;exact h
 have n4:¬(r.length:Int)<r.length:=by omega
 refine rn ?_;simp[a,A,n4];refine ab.loop r.length (λi s=>∃env,s=⟨env,σ,[],.no⟩/\env 0=rows r/\env 3=int r.length/\env 6=int i/\∀i'<i,∀j<r.length,xB r i' j=false) ⟨_,rfl,by simp[b],by simp[a],by simp,by simp⟩ ?_
 clear b a A
 rintro c1 i _ B ⟨env,rfl,b,a,c,n⟩ ih
 rcases Nat.lt_or_ge i r.length with g5|g5
 . have Y : (i : Int)<r.length:=by omega
   refine rn ?_;simp[a,c,Y];refine ab.loop r.length (λj s=>∃env,s=⟨env,σ,[],.no⟩/\env 0=rows r/\env 3=int r.length/\env 6=int i/\env 7=int j/\∀f<j,xB r i f=false) ⟨_,rfl,by simp[b],by simp[a],by simp[c],by simp,by simp⟩ ?_
   clear b a c
   rintro c2 j _ R ⟨env,rfl,b,a,c,g,K⟩ C
   rcases Nat.lt_or_ge j r.length with g6|g6
   . have x : (j:Int)<r.length:=by omega
     have q1:i<r[i].length:=by rw[d i g5];exact g5
     have t:j<r[i].length:=by rw[d i g5];exact g6
     have S:i<r[j].length:=by rw[d j g6];exact g5
     have a9:((i:Int)==(j:Int))=decide (i=j):=by
      by_cases e:i=j
      . simp[e]
      . have:¬(i:Int)=j:=by omega
        simp[e,this]
     by_cases Z:i=j/\r[i][j]≠0
     . obtain⟨rfl,Z⟩:=Z
       have ad:(r[i][i] !=0)=true:=by simpa using Z
       refine rn ?_;simp[b,a,c,g,Y,g5,q1,ad];refine rn ?_;simp;exact .done (p i i g5 g5 (by unfold bW;rw[dE g5 q1];simp[Z]))
     have L:i=j->r[i][j]=0:=λe=>Classical.byContradiction λq=>Z ⟨e,q⟩
     by_cases T:r[i][j]=r[j][i]
     . have E:(r[i][j] !=r[j][i])=false:=by simpa using T
       have hz:∃bq:Bool,((i:Int)==(j:Int))=bq/\(bq=true->(r[i][j]!=0)=false):=⟨_,rfl,λq=>by
        have e:i=j:=by have:=of_decide_eq_true q;omega
        simp[L e]⟩
       obtain⟨bq,a7,al⟩:=hz;cases bq
       . refine rn ?_
         simp[b,a,c,g,g5,x,g6,t,S,a7,E];refine rn ?_;simp
         ((
           refine ab.loop r.length (λk s=>∃env,s=⟨env,σ,[],.no⟩/\env 0=rows r/\env 3=int r.length/\env 6=int i/\env 7=int j/\env 8=int k/\∀y<k,¬rd r i j>rd r i y+rd r y j) ⟨_,rfl,by simp[b],by simp[a],by simp[c],by simp[g],by simp,by simp⟩ ?_
           clear b a c g
           rintro c3 k _ Q ⟨env,rfl,b,a,c,g,M,z⟩ N
           rcases Nat.lt_or_ge k r.length with g9|g9
           . have O:(k:Int)<r.length:=by omega
             have F:k<r[i].length:=by rw[d i g5];exact g9
             have G:j<r[k].length:=by rw[d k g9];exact g6
             have av:=D i g5 k F;have ax:=D k g9 j G;have f1:-9223372036854775808<=r[i][k]+r[k][j]:=by omega
             have f2:r[i][k]+r[k][j]<=9223372036854775807:=by omega
             refine rn ?_;simp[b,a,c,g,M,O,g5,g6,g9,t,F,G,f1,f2];refine rn ?_
             by_cases o:r[i][k]+r[k][j]<r[i][j]
             . simp[o]
               refine .done (p i j g5 g6 ?_);unfold bW;have:((List.range r.length).any λk=>decide (rd r i j>rd r i k+rd r k j))=true:=List.any_eq_true.2 ⟨k,List.mem_range.2 g9,by rw[dE g5 t,dE g5 F,dE g9 G];simpa using o⟩
               rw[this];simp
             . simp[o,b,a,c,g,M]
               refine⟨by omega,N _ g9 ⟨_,rfl,by simp[b],by simp[a],by simp[c],by simp[g],by simp,λy ay=>?_⟩⟩
               by_cases e:y=k
               . subst e
                 rw[dE g5 t,dE g5 F,dE g9 G];omega
               . exact z y (by omega)
           . have:k=r.length:=by omega
             subst this;have n9:¬(r.length:Int)<r.length:=by omega
             refine rn ?_;simp[b,a,c,g,M,n9];refine⟨by omega,C _ g6 ⟨_,rfl,by simp[b],by simp[a],by simp[c],by simp,λf H=>?_⟩⟩
             by_cases e:f=j
             . subst e
               unfold xB
               have P:((List.range r.length).any λk=>decide (rd r i f>rd r i k+rd r k f))=false:=by rw[List.any_eq_false];intro k Q;simpa using z k (List.mem_range.1 Q)
               have I:(decide (i=f) && rd r i f !=0)=false:=by
                by_cases e:i=f
                . rw[dE g5 t,L e];simp
                . simp[e]
               have e3:rd r i f=rd r f i:=by rw[dE g5 t,dE g6 S];exact T
               rw[P,I,e3];simp
             . exact K f (by omega)))
       . have b0:=al rfl
         refine rn ?_;simp[b,a,c,g,g5,x,g6,t,S,a7,b0,E];refine rn ?_;simp
         ((
           refine ab.loop r.length (λk s=>∃env,s=⟨env,σ,[],.no⟩/\env 0=rows r/\env 3=int r.length/\env 6=int i/\env 7=int j/\env 8=int k/\∀y<k,¬rd r i j>rd r i y+rd r y j) ⟨_,rfl,by simp[b],by simp[a],by simp[c],by simp[g],by simp,by simp⟩ ?_
           clear b a c g
           rintro c3 k _ Q ⟨env,rfl,b,a,c,g,M,z⟩ N
           rcases Nat.lt_or_ge k r.length with g9|g9
           . have O:(k:Int)<r.length:=by omega
             have F:k<r[i].length:=by rw[d i g5];exact g9
             have G:j<r[k].length:=by rw[d k g9];exact g6
             have av:=D i g5 k F;have ax:=D k g9 j G;have f1:-9223372036854775808<=r[i][k]+r[k][j]:=by omega
             have f2:r[i][k]+r[k][j]<=9223372036854775807:=by omega
             refine rn ?_;simp[b,a,c,g,M,O,g5,g6,g9,t,F,G,f1,f2];refine rn ?_
             by_cases o:r[i][k]+r[k][j]<r[i][j]
             . simp[o]
               refine .done (p i j g5 g6 ?_);unfold bW;have:((List.range r.length).any λk=>decide (rd r i j>rd r i k+rd r k j))=true:=List.any_eq_true.2 ⟨k,List.mem_range.2 g9,by rw[dE g5 t,dE g5 F,dE g9 G];simpa using o⟩
               rw[this];simp
             . simp[o,b,a,c,g,M]
               refine⟨by omega,N _ g9 ⟨_,rfl,by simp[b],by simp[a],by simp[c],by simp[g],by simp,λy ay=>?_⟩⟩
               by_cases e:y=k
               . subst e
                 rw[dE g5 t,dE g5 F,dE g9 G];omega
               . exact z y (by omega)
           . have:k=r.length:=by omega
             subst this;have n9:¬(r.length:Int)<r.length:=by omega
             refine rn ?_;simp[b,a,c,g,M,n9];refine⟨by omega,C _ g6 ⟨_,rfl,by simp[b],by simp[a],by simp[c],by simp,λf H=>?_⟩⟩
             by_cases e:f=j
             . subst e
               unfold xB
               have P:((List.range r.length).any λk=>decide (rd r i f>rd r i k+rd r k f))=false:=by rw[List.any_eq_false];intro k Q;simpa using z k (List.mem_range.1 Q)
               have I:(decide (i=f) && rd r i f !=0)=false:=by
                by_cases e:i=f
                . rw[dE g5 t,L e];simp
                . simp[e]
               have e3:rd r i f=rd r f i:=by rw[dE g5 t,dE g6 S];exact T
               rw[P,I,e3];simp
             . exact K f (by omega)))
     . have E:(r[i][j]!=r[j][i])=true:=by simpa using T
       have e:i≠j:=λe=>by subst e;exact T rfl
       have e':((i:Int)==(j:Int))=false:=by rw[a9];simp[e]
       refine rn ?_;simp[b,a,c,g,g5,x,g6,t,S,e',E];refine rn ?_;simp;exact .done (p i j g5 g6 (by unfold bW;rw[dE g5 t,dE g6 S];simp[T]))
   . have:j=r.length:=by omega
     subst this;have X:¬(r.length:Int)<r.length:=by omega
     refine rn ?_;simp[a,c,g,X];refine⟨by omega,ih _ g5 ⟨_,rfl,by simp[b],by simp[a],by simp,λi' b4 j H=>?_⟩⟩
     by_cases e:i'=i
     . subst e;exact K j H
     . exact n i' (by omega) j H
 . have:i=r.length:=by omega
   subst this
   have:((List.range r.length).any λi=>(List.range r.length).any λj=>bW r i j)=false:=by rw[List.any_eq_false];intro i B;rw[Bool.not_eq_true,List.any_eq_false];intro j R;rw[Bool.not_eq_true];exact Il (n i (List.mem_range.1 B) i (List.mem_range.1 B)) (n i (List.mem_range.1 B) j (List.mem_range.1 R))
   rw[this]at h;have X:¬(r.length:Int)<r.length:=by omega
   refine rn ?_;simp[a,c,X];exact .done h
theorem jW{f:Fr}(b:f.Fits)(h:KF (.val (int (check f))) σ):ar prog m 34 [az f] σ KF:=by
 unfold check at h;have u:=b.roads;have r:=b.ao;refine fs Td 1 Tryz.func34 rfl rfl (by rfl) (by kernel_rfl) ?_;simp[Tryz.f34];refine cf Tryz.func82 rfl (xC b.roads b.row ?_);refine rn ?_;simp;refine aE.intro (λc=>?_) (λc=>?_)<;>(try simp[-Int.not_lt,-Int.not_le,-Nat.not_lt,-Nat.not_le]at c)<;>(try simp[c]at h)<;>(try simp[c])<;>(try exact .done h);refine cf Tryz.func83 rfl (cr ?_);refine rn ?_;simp;refine vp.intro (λd=>?_) (λd=>?_)<;>(try simp[-Int.not_lt,-Int.not_le,-Nat.not_lt,-Nat.not_le]at d)<;>(try simp[d]at h)<;>(try simp[d])<;>(try exact .done h);refine cf Tryz.func83 rfl (cr ?_);refine rn ?_;simp;refine aE.intro (λe=>?_) (λe=>?_)<;>(try simp[-Int.not_lt,-Int.not_le,-Nat.not_lt,-Nat.not_le]at e)<;>(try simp[e]at h)<;>(try simp[e])<;>(try exact .done h)
 refine aE.intro (λg=>?_) (λg=>?_)<;>(try simp[-Int.not_lt,-Int.not_le,-Nat.not_lt,-Nat.not_le]at g)<;>(try simp[g]at h)<;>(try simp[g])<;>(try exact .done h);refine cf Tryz.func83 rfl (cr ?_);refine rn ?_;simp;refine vp.intro (λi=>?_) (λi=>?_)<;>(try simp[-Int.not_lt,-Int.not_le,-Nat.not_lt,-Nat.not_le]at i)<;>(try simp[i]at h)<;>(try simp[i])<;>(try exact .done h);refine cf Tryz.func83 rfl (cr ?_);refine rn ?_;simp;refine aE.intro (λj=>?_) (λj=>?_)<;>(try simp[-Int.not_lt,-Int.not_le,-Nat.not_lt,-Nat.not_le]at j)<;>(try simp[j]at h)<;>(try simp[j])<;>(try exact .done h);refine aE.intro (λl=>?_) (λl=>?_)<;>(try simp[-Int.not_lt,-Int.not_le,-Nat.not_lt,-Nat.not_le]at l)<;>(try simp[l]at h)<;>(try simp[l])<;>(try exact .done h)
 refine ab.loop f.ao.length (λk s=>∃env,s=⟨env,σ,[],.no⟩/\env 1=.cp (az f) 0/\env 4=int k/\ew (bf f.roads.length) f.ao=ew (bf f.roads.length) (f.ao.drop k)) ⟨_,rfl,by simp⟩ ?_;rintro v k _ w ⟨env,rfl,o,p,a⟩ t;rcases Nat.lt_or_ge k f.ao.length with g8|g8
 . have q:(k:Int)<f.ao.length:=by omega
   rw[uV _ _ k g8]at a;refine rn ?_;simp[o,p,g8,q];refine cf Tryz.func84 rfl (pH b.roads (b.marks _ (List.getElem_mem g8)) ?_);refine pg ?_;simp;refine rn ?_;simp;refine aE.intro (λn=>?_) (λn=>?_)<;>(try simp[-Int.not_lt,-Int.not_le,-Nat.not_lt,-Nat.not_le]at n)<;>(try simp[n]at a)<;>(try simp[p,n])<;>(try exact .done a)
   . rw[a]at h
     exact .done h
   . exact⟨by omega,t _ g8 ⟨_,rfl,by simp[o],by simp,a⟩⟩
 . have:k=f.ao.length:=by omega
   subst this;simp[ew]at a;rw[a]at h;refine rn ?_;simp[o,p];exact .done h
end Go.Proofs.YtldmpfccgajobaaGreatDoor
namespace Go.Proofs.YtldmpfccgajobaaGreatDoor
open Tryz (prog)
open Go.aR Go.Conc
set_option maxHeartbeats 1000000
set_option maxRecDepth 4000
variable{m:Mo}{σ:aa}{KF:dF->aa->Prop}
theorem pI{e:gq}(f:e.marks.length<=1000000000)(h:KF (.val (aS e)) σ):ar prog m 44 [aS e] σ KF:=by
 refine ar.start lay [1] [] 1 Tryz.func44 rfl rfl (by rfl) (by kernel_rfl) ?_
 simp[Tryz.f44];refine bT.intro λg i=>?_
 simp;refine bT.intro λj b=>?_
 obtain⟨k,d,b⟩:=aa.aG b;simp[d,aa.ag];refine cf Tryz.func25 rfl (xq f ?_);refine ab.run lay [1] ?_;simp[k,d,aa.ag,aH];refine .less (λc x a=>?_) (.done h)
 have l:c≠g:=λe=>by subst e;rw[i]at a;cases a
 have n:c≠j:=λe=>by subst e;rw[b]at a;cases a
 simp[aa.ag,l,n,a]
theorem xD{r:List (List Int)}(B:r.length<=1000000)(t:∀l∈r,l.length<=1000000000)(h:KF (.val (rows r)) σ):ar prog m 58 [rows r] σ KF:=by
 refine ar.thaw ?_;refine fs [] 1 Tryz.func58 rfl rfl (by rfl) (by kernel_rfl) ?_
 simp[Tryz.f58];refine oW lay rfl kX rfl bC rfl (by decide) rfl rfl (n:=r.length) (by simp) (by simp) ⟨by omega,by omega⟩ λb hb=>?_
 refine rn ?_;simp;refine ab.loop r.length (λi s=>∃env,s=⟨env,σ.set b (.cells (List.take i (List.map ints r)++List.replicate (r.length-i) (.lit (.slice none 0 0)))),[],.no⟩/\env 0=rows r/\env 3=.gn b 0 r.length r.length/\env 4=int i) ⟨_,by simp;rfl,by simp,by simp,by simp⟩ ?_
 rintro C i _ D ⟨env,rfl,d,f,g⟩ u
 rcases Nat.lt_or_ge i r.length with g1|g1
 . have v:(i:Int)<r.length:=by omega
   have f1:-9223372036854775808<=(i:Int)+1/\(i:Int)+1<=9223372036854775807:=by omega
   refine rn ?_;simp[d,f,g,g1];refine cf Tryz.func25 rfl (xq (t _ (List.getElem_mem g1)) ?_);have j:i+1<=min i r.length+(r.length-i):=by omega
   have a:List.take i (List.take i (List.map ints r)++List.replicate (r.length-i) (AV.lit (.slice none 0 0)))++AV.sl 1 (List.map int r[i]) .any::List.drop (i+1) (List.take i (List.map ints r)++List.replicate (r.length-i) (AV.lit (.slice none 0 0)))=List.take (i+1) (List.map ints r)++List.replicate (r.length-(i+1)) (.lit (.slice none 0 0)):=by
    have c:(List.take i (List.map ints r)).length=i:=by rw[List.length_take,List.length_map];omega
    obtain⟨q,w⟩:∃q,r.length-i=q+1:=⟨r.length-i-1,by omega⟩
    have k:r.length-(i+1)=q:=by omega
    have y:List.drop (i+1) (List.take i (List.map ints r)++List.replicate (r.length-i) (AV.lit (.slice none 0 0)))=List.replicate q (.lit (.slice none 0 0)):=by
     rw[List.drop_append,List.drop_eq_nil_of_le (by omega),c,w,Nat.add_sub_cancel_left]
     simp
    have z:List.take (i+1) (List.map ints r)=List.take i (List.map ints r)++[ints r[i]]:=by rw[List.take_succ_eq_append_getElem (by rw[List.length_map];exact g1),List.getElem_map]
    rw[List.take_left' c,y,z,k,List.append_assoc];rfl
   refine rn ?_;simp[g,g1,f1.1,f1.2,aH,j,a];exact u _ g1 ⟨_,rfl,by simp[d],by simp[f],by simp⟩
 . have o:i=r.length:=by omega
   subst o;refine rn ?_;simp[d,f,g];refine .done (bF.thaw (σ0:=σ) (kk:=1) (es:=r.map ints) ⟨aa.cX (aa.le_refl _) hb,.inr ⟨b,r.length,[],by simp,hb,by simp,λe p=>?_,?_,by simp⟩⟩ h)
   . obtain⟨x,_,rfl⟩:=List.mem_map.1 p
     rfl
   . rw[dU (λe p=>by obtain⟨x,_,rfl⟩:=List.mem_map.1 p;rfl),List.append_nil]
     have A:List.take r.length (List.map ints r)=List.map ints r:=List.take_of_length_le (by simp)
     simp[aa.an,A]
theorem pG{P:Program}{m:Mo}{fid n:Nat}{ro:Option Nat}{hold:List Entry}{K:aR.Exit->St->Prop}{todo:List Item}{D:List nj}{rc:Rec}{G:Prop}(I:Env->aa->Prop)
 (a:(∀env σ,I env σ->ab P m fid n ro hold todo ⟨env,σ,D,rc⟩ K)->G) (b:∀env σ,I env σ->ab P m fid n ro hold todo ⟨env,σ,D,rc⟩ K):G:=a b
abbrev kA:List AV:=[.lit (.slice none 0 0),.lit (.slice none 0 0),int 0,int 0,int 0,int 0]
theorem Db{f:Fr}(U:f.ao.length<=1000)(R:∀e∈f.ao,e.marks.length<=1000000000)(A:f.roads.length<=1000000)(B:∀r∈f.roads,r.length<=1000000000)(h:KF (.val (az f)) σ):ar prog m 14 [az f] σ KF:=by
 refine fs Ta 1 Tryz.func14 rfl rfl (by rfl) (by kernel_rfl) ?_
 simp[Tryz.f14];refine bT.intro λu M=>?_
 simp;apply pG (I:=λenv σ'=>∃c,σ c=none/\c≠u/\env 1=.cp (az f) 0/\env 2=.ref u 0/\env 3=.ref c 0/\σ'=(σ.set u (.cells kA)).set c (.cells [.lit (.slice none 0 0),rows f.roads,int f.bE,int f.iQ,int f.dG,int f.most]))
 . intro d
   refine⟨?_,?_⟩
   . refine cf Tryz.func58 rfl (xD A B ?_)
     refine pg ?_;simp[aH];refine⟨?_,?_⟩
     . refine ns.intro λc g=>?_
       obtain⟨n,C,g⟩:=aa.aG g;simp[aH];exact d _ _ ⟨c,g,n,by simp,by simp,by simp,by simp⟩
     . refine ns.intro λc g=>?_
       obtain⟨n,C,g⟩:=aa.aG g;simp[aH];exact d _ _ ⟨c,g,n,by simp,by simp,by simp,by simp⟩
   . refine ns.intro λc g=>?_
     obtain⟨n,C,g⟩:=aa.aG g;simp;refine cf Tryz.func58 rfl (xD A B ?_);refine pg ?_;simp[aH];exact d _ _ ⟨c,g,n,by simp,by simp,by simp,by simp⟩
 . rintro env σ' ⟨c,g,n,o,v,p,rfl⟩
   have C:u≠c:=Ne.symm n;refine rn ?_;simp;have N:Tok σ ((σ.set u (.cells kA)).set c (.cells [.lit (.slice none 0 0),rows f.roads,int f.bE,int f.iQ,int f.dG,int f.most])) (.lit (.slice none 0 0)) 6 []:=(Tok.nil σ 6).up (aa.cX (aa.cX (aa.le_refl _) M) (by rw[aa.ag _ _ n];exact g))
   refine ab.loop f.ao.length (λi s=>∃env σ' a,s=⟨env,σ',[],.no⟩/\env 1=.cp (az f) 0/\env 2=.ref u 0/\env 3=.ref c 0/\env 4=int i/\σ' u=some (.cells kA)/\σ' c=some (.cells [a,rows f.roads,int f.bE,int f.iQ,int f.dG,int f.most])/\Tok σ σ' a 6 ((f.ao.take i).map aS))
    ⟨_,_,.lit (.slice none 0 0),rfl,by simp[o],by simp[v],by simp[p],by simp,by rw[aa.ag _ _ C,aa.an],aa.an _ _ _,by simpa using N⟩ ?_
   clear o v p N
   rintro V i _ X ⟨env,σ',a,rfl,o,v,p,D,J,H,b⟩ S
   have w:=b.cells;have K:∀y l,σ' y=some (.cells l)->bv a≠some y:=λy l t e=>by obtain⟨_,_,q⟩:=b.aY e;rw[t]at q;cases q
   rcases Nat.lt_or_ge i f.ao.length with g1|g1
   . have T:(i:Int)<f.ao.length:=by omega
     have f1:-9223372036854775808<=(i:Int)+1/\(i:Int)+1<=9223372036854775807:=by omega
     refine rn ?_;simp[o,p,D,H,g1]
     repeat' (first
               |apply And.intro
               | (refine cf Tryz.func44 rfl (pI (R _ (List.getElem_mem g1)) ?_)
                  refine pg ?_;simp[o,v,p,D,J,H,w.1,w.2,g1])
               | (refine aF lay rfl rfl rfl lz rfl lz rfl tx (by decide) (by simp;omega) (σ0:=σ'.off a) (es:=(f.ao.take i).map aS) (xs:=[aS f.ao[i]]) (by simpa using b.here.1) (.inr ⟨_,by simp;rfl⟩) λa' E z=>?_
                  have F:=z.cells;have O:∀y l,σ' y=some (.cells l)->E y=some (.cells l):=λy l t=>z.1 _ _ (by rw[aa.fQ (K y l t)];exact t)
                  have P:=O _ _ H;have Q:=O _ _ J;refine pg ?_;simp[o,v,p,D,Q,P,F.1,F.2,aH]))
     all_goals (
      refine rn ?_;simp[D,f1.1,f1.2]
      have G:Tok σ E a' 6 ((f.ao.take (i+1)).map aS):=by have:=z.base b.here.2;rw[List.take_succ_eq_append_getElem g1,List.map_append];simpa using this
      exact S _ g1 ⟨_,_,a',rfl,by simp[o],by simp[v],by simp[p],by simp,by rw[aa.ag _ _ C];exact Q,aa.an _ _ _,G.beside g (λe=>by obtain⟨_,_,q⟩:=G.aY e;rw[P]at q;cases q)⟩)
   . have L:i=f.ao.length:=by omega
     subst L;rw[List.take_length]at b;refine rn ?_;simp[o,v,p,D,J,H,w.2,aH];refine .less (σ':=σ) (λy x t=>?_) (.eG (a':=az f) (oz rfl λi x y j k=>?_) (.done h))
     . rw[aa.ag _ _ (λe=>by subst e;rw[M]at t;cases t)]
       exact b.1 y x t
     . match i with
       |0=>simp at j k;subst j;subst k;exact b.W
       |1=>simp at j k;subst j;subst k;exact .refl _
       |2=>simp at j k;subst j;subst k;exact .refl _
       |3=>simp at j k;subst j;subst k;exact .refl _
       |4=>simp at j k;subst j;subst k;exact .refl _
       |5=>simp at j k;subst j;subst k;exact .refl _
       |i+6=>simp at j
def kT(a b:List Int):List Int:=a.filter λx=>decide (x∉b)
def RN(a b:List Int):Int:=((kT a b).length:Int)+((kT b a).length:Int)
theorem xE{a b:List Int}{i:Nat}(h:i<a.length):kT (a.take (i+1)) b=kT (a.take i) b++if a[i]∈b then[]else[a[i]]:=by
 unfold kT;rw[List.take_succ_eq_append_getElem h,List.filter_append];by_cases e:a[i]∈b<;>simp[e]
theorem om(a b:List Int):(kT a b).length<=a.length:=List.length_filter_le _ _
def LN:List (List Int):=[[],[0],[1],[2],[0,1],[0,2],[1,2],[0,1,2]]
theorem Dc{l:List Int}(h:l.Sublist [0,1,2]):l∈LN:=by cases h<;>(rename_i h;cases h<;>(rename_i h;cases h<;>(rename_i h;cases h;decide)))
theorem NC:∀a∈LN,∀b∈LN,RN a b=bc (bd a) (bd b):=by decide +kernel
theorem Dd{a b:List Int}(c:a.Sublist [0,1,2])(hb:b.Sublist [0,1,2]):RN a b=bc (bd a) (bd b):=NC _ (Dc c) _ (Dc hb)
theorem EX{a b:List Int}(x:a.length<1000000)(hb:b.length<1000000)(h:KF (.val (int (RN a b))) σ):ar prog m 106 [ints a,ints b] σ KF:=by
 refine fs [] 2 Tryz.func106 rfl rfl (by rfl) (by kernel_rfl) ?_
 simp[Tryz.f106];refine ab.loop a.length (λi s=>∃env,s=⟨env,σ,[],.no⟩/\env 0=ints a/\env 1=ints b/\env 5=int ((kT (a.take i) b).length:Int)/\env 6=int i) ⟨_,rfl,by simp,by simp,by simp[kT],by simp⟩ ?_
 rintro u i _ v ⟨env,rfl,d,e,f,o⟩ n
 rcases Nat.lt_or_ge i a.length with g1|g1
 . have t:(i:Int)<a.length:=by omega
   have j:=om (a.take i) b;rw[List.length_take]at j;have f1:-9223372036854775808<=(i:Int)+1/\(i:Int)+1<=9223372036854775807:=by omega
   have p:-9223372036854775808<=((kT (a.take i) b).length:Int)+1/\((kT (a.take i) b).length:Int)+1<=9223372036854775807:=by omega
   have c:=xE (b:=b) g1;refine rn ?_;simp[d,e,o,g1];refine cf Tryz.func105 rfl (sV (by omega) ?_)
   by_cases q:a[i]∈b
   . rw[if_pos q,List.append_nil]at c
     have k:¬qK b a[i]<0:=by have:=(mD b a[i]).2 q;omega
     refine rn ?_;simp[o,k,f1.1,f1.2];refine n _ g1 ⟨_,rfl,by simp[d],by simp[e],by simp[c,f],by simp⟩
   . rw[if_neg q]at c
     have k:qK b a[i]<0:=by
      rcases Int.lt_or_le (qK b a[i]) 0 with g|g
      . exact g
      . exact absurd ((mD b a[i]).1 g) q
     refine rn ?_;simp[f,o,k,f1.1,f1.2,p.1,p.2];refine n _ g1 ⟨_,rfl,by simp[d],by simp[e],by simp[c],by simp⟩
 . have l:i=a.length:=by omega
   subst l;rw[List.take_length]at f;have w:=om a b;refine rn ?_;simp[d,o];refine ab.loop b.length (λi s=>∃env,s=⟨env,σ,[],.no⟩/\env 0=ints a/\env 1=ints b/\env 5=int (((kT a b).length:Int)+((kT (b.take i) a).length:Int))/\env 7=int i) ⟨_,rfl,by simp[d],by simp[e],by simp[kT,f],by simp⟩ ?_
   clear d e f o n
   rintro u i _ v ⟨env,rfl,d,e,f,r⟩ n
   rcases Nat.lt_or_ge i b.length with g1|g1
   . have t:(i:Int)<b.length:=by omega
     have j:=om (b.take i) a;rw[List.length_take]at j;have f1:-9223372036854775808<=(i:Int)+1/\(i:Int)+1<=9223372036854775807:=by omega
     have p:-9223372036854775808<=((kT a b).length:Int)+((kT (b.take i) a).length:Int)+1/\((kT a b).length:Int)+((kT (b.take i) a).length:Int)+1<=9223372036854775807:=by omega
     have c:=xE (b:=a) g1;refine rn ?_;simp[d,e,r,g1];refine cf Tryz.func105 rfl (sV (by omega) ?_)
     by_cases q:b[i]∈a
     . rw[if_pos q,List.append_nil]at c
       have k:¬qK a b[i]<0:=by have:=(mD a b[i]).2 q;omega
       refine rn ?_;simp[r,k,f1.1,f1.2];refine n _ g1 ⟨_,rfl,by simp[d],by simp[e],by simp[c,f],by simp⟩
     . rw[if_neg q]at c
       have k:qK a b[i]<0:=by
        rcases Int.lt_or_le (qK a b[i]) 0 with g|g
        . exact g
        . exact absurd ((mD a b[i]).1 g) q
       refine rn ?_;simp[f,r,k,f1.1,f1.2,p.1,p.2];refine n _ g1 ⟨_,rfl,by simp[d],by simp[e],by simp[c,Int.add_assoc],by simp⟩
   . have l:i=b.length:=by omega
     subst l;rw[List.take_length]at f;refine rn ?_;simp[e,f,r];exact .done h
end Go.Proofs.YtldmpfccgajobaaGreatDoor
