import Derived.Test.YtkcceaplmgdnfaaGreatDoorC34
set_option linter.all false
namespace Go.Proofs.YtkcceaplmgdnfaaGreatDoor
open Go.Proofs.Tryz (prog)
open Go Go.bu Go.Conc
set_option maxHeartbeats 1000000
set_option maxRecDepth 4000
variable{m:Mo}{σ:aa}{KF:cJ->aa->Prop}
def rQ(w:bH):Fr:=dP w (aC (kE w 72)) (aC (kC w 72))
def fx(w:bH):List (List Int):=ja (rQ w) (rQ w).aF.length [] 0
def nE(w:bH)(c:Int):Int:=w.fair.aF.length+DR (aC (kC w 72)) c
def NJ(w:bH)(at_:Int)(x:List Int):Bool:=decide (x[at_.toNat]?.getD 0∈x.take w.fair.aF.length)
def rR(w:bH)(c:Int):Int:=if(fx w).any (NJ w (nE w c)) && (fx w).any (λx=>!NJ w (nE w c) x)then 3 else if(fx w).any (NJ w (nE w c))then 1 else 2
theorem CA(f:Fr):∀(n:Nat) (way:List Int) (many:Nat),∀x∈ja f n way many,x.length=way.length+n
 | 0,way,many,x,a=>by
   have:x=way:=by simpa[ja]using a
   simp_all
 | n + 1,way,many,x,a=>by
   simp only[ja,List.mem_flatMap]at a;obtain⟨k,_,h⟩:=a;split at h
   . have:=CA f n _ _ x h
     grind
   . cases h
theorem LR{P Q:Prop}(f:P->Q)(p:P):Q:=f p
theorem CB(hs:m.solo=true){w:bH}(hw:w.iU)(hO:w.Open){c:Nat}(v:c<3)(av:cM w c<=72->0<=DR (aC (kC w 72)) c/\nE w c<(rQ w).aF.length/\w.fair.aF.length<=(rQ w).aF.length)(he:bW w [] [] [(c:Int)]=0)
 (N:if 72<cM w c then KF (.val (.bp [int 0,int 11])) σ else KF (.val (.bp [int (rR w c),int 0])) σ):aB prog m 30 [aT w,int c] σ KF:=by
 have hW:Wl [aT w,iv,iv,.sl 1 [int c] .exact] [aT w,ints [],ints [],ints [(c:Int)]]:=LL (.refl _) (cz 1) (cz 1) (bQ 1 _ _);have h6:=hO.qt;have C:=hO.bk 72;refine fs Ss 2 Tryz.func30 rfl rfl (by rfl) (by kernel_rfl) ?_
 simp[Tryz.f30];refine aM Tryz.func41 rfl rfl hW (fQ hs hw ⟨by simp,by simp,by simp⟩ (λq=>absurd he q) λq D fb mb hk=>?_)
 have g:=hk.less (.refl mb D);refine rn ?_;simp;refine cf Tryz.func55 rfl (lR v ?_)
 by_cases E:72<cM w c
 . rw[if_pos E]at N
   simp only[E,if_true];refine rn ?_;simp;refine cK lay rfl tJ rfl (isNil:=false) (.inr ⟨⟨_,_,rfl⟩,rfl⟩) (.inr ⟨rfl,rfl⟩) ?_;refine rn ?_;simp[aG];exact .less g (.done N)
 . rw [if_neg E]at N
   simp only[E,if_false];refine rn ?_;simp;refine cK lay rfl tJ rfl (isNil:=true) (.inl ⟨rfl,rfl⟩) (.inr ⟨rfl,rfl⟩) ?_;refine rn ?_;simp[aG];refine cf Tryz.func59 rfl (CK.sO h6.1 h6.2 ?_);refine af.runN lay [] 3 ?_;simp;refine bq.intro λeb ax=>?_
   simp
   change af _ _ _ _ _ _ _ _ _
   refine af.aV 10 (b:=eb) (Ai w 72) (aa.ao _ _ _) (by simp) rfl ?_
   rw[dz ax];have ay:(AV.lit (.int .u8 (aW (ql w 72))))=u8 (kC w 72):=rfl;refine rn ?_;simp[ay];have J:=av (by omega)
   have bw:=lg (kC w 72);have bx:(rQ w).aF.length<=6:=C.uo.qt;obtain⟨A,hA⟩:∃A:Nat,nE w c=(A:Int):=⟨(nE w c).toNat,by unfold nE at J ⊢;omega⟩
   rw[hA]at J;have U:=hA;unfold nE at U;have b5:(A:Int)<=9223372036854775807/\-9223372036854775808<=(A:Int):=by omega
   have V:(aC (kC w 72)).length<1152921504606846976:=by omega
   apply LR
   . intro key
     repeat' first
      |refine⟨?_,?_⟩
      |(refine cf Tryz.func60 rfl (il ?_);refine pg ?_;simp)
      |(refine cf Tryz.func63 rfl (B4 V ?_);refine pg ?_;simp[U,b5])
      |(refine po.intro λab b6=>?_;simp)
     iterate 3
      refine af.aV 11 (b:=ab) (int A) (aa.ao _ _ _) (by simp) rfl ?_
      rw[dz b6];refine af.mH (λe s=>(e 2=.cp (aT w) 0/\e 6=pw fb mb w 0/\e 10=.cp (Ai w 72) 0/\e 11=.cp (int A) 0)/\s=D) ⟨by simp,rfl⟩ ?_
      exact key
   rintro env D ⟨⟨e2,e6,xh,CQ⟩,rfl⟩
   refine rn ?_;simp;refine bq.intro λi B=>?_
   simp;refine bq.intro λn o=>?_
   obtain⟨n2,n1,o⟩:=aa.aH o;simp[e6,xh,n1,n2,aa.ak];have b7:(AV.agg [AV.lit (.int .u8 (aW (qk w 72))),AV.lit (.int .u8 (aW (ql w 72)))])=.agg [u8 (kE w 72),u8 (kC w 72)]:=rfl;rw[b7];refine cf Tryz.func65 rfl (CF.Co C.hx C.hy ?_)
   change af _ _ _ _ _ _ _ _ _
   refine rn ?_;simp;refine cf Tryz.func64 rfl (LQ ?_);refine rn ?_;simp
   have L:∀X Y Z T,σ.Le ((((D.set i X).set n Y).set i Z).set n T):=λX Y Z T c x hc=>by
    have f:=g c x hc;have F:c≠i:=λe=>by simp_all
    have M:c≠n:=λe=>by simp_all
    rw[aa.ak _ _ M,aa.ak _ _ F,aa.ak _ _ M,aa.ak _ _ F];exact f
   refine af.mH (λe s=>(e 2=.cp (aT w) 0/\e 11=.cp (int A) 0/\e 12=.ref i 0/\e 13=.ref n 0/\e 48=.fn (.func 106) [] [.cp (dt (rQ w)) 0])/\σ.Le s/\s i=some (.cells [bool false])/\s n=some (.cells [bool false])) ⟨⟨by simp[e2],by simp[CQ],by simp,by simp,rfl⟩,L _ _ _ _,(aa.ak _ _ n1).trans (aa.ao _ _ _),aa.ao _ _ _⟩ ?_
   have f1:∀d x,σ d=some x->d≠i:=λd x h e=>by rw[<-e,g d x h]at B;cases B
   have f2:∀d x,σ d=some x->d≠n:=λd x h e=>by rw[<-e,g d x h]at o;cases o
   clear L e2 e6 xh CQ B o g hk
   rintro env s ⟨⟨e2,CQ,Me,W,b8⟩,g,B,o⟩
   refine af.rangeFunc rfl λb9 r l hr E O=>?_
   change s r=none at hr
   change s l=none at E
   have P:i≠l:=λe=>by simp_all
   have Q:n≠l:=λe=>by simp_all
   have r1:i≠r:=λe=>by simp_all
   have r2:n≠r:=λe=>by simp_all
   obtain⟨p,hp⟩:∃p,p=NJ w A:=⟨_,rfl⟩
   change bz _ _ (env 48) _ _ _
   rw[b8];generalize a7:me.mk _ _ _ _ _ _ _ _ _=al;refine cP Tryz.func106 rfl rfl rfl (HW C.uo (y:=.fn (.yield l) [] []) ⟨rfl,rfl⟩ (I:=λk a=>a l=some (.loop al)/\a i=some (.cells [bool (((fx w).take k).any p)])/\a n=some (.cells [bool (((fx w).take k).any λx=>!p x)])/\∀d x,(s.set r (.raw (.deferred (some [])))) d=some x->d≠i->d≠n->a d=some x) (λk a bA q h=>⟨h _ _ q.1,h _ _ q.2.1,h _ _ q.2.2.1,λd x f t v=>h _ _ (q.2.2.2 d x f t v)⟩) ?_ ?_ ?_)
   . rintro j hj a K ⟨b1,b2,b3,b4⟩ a8
     change j<(fx w).length at hj
     change bz _ _ _ [ints (fx w)[j]] _ _
     have bB:=CA (rQ w) _ _ _ _ (List.getElem_mem hj);have G:w.fair.aF.length<=(fx w)[j].length/\A<(fx w)[j].length:=by omega
     have R:∀q:List Int->Bool,((fx w).take (j+1)).any q=(((fx w).take j).any q||q (fx w)[j]):=λq=>by rw[List.take_succ_eq_append_getElem hj,List.any_append];simp
     obtain⟨x,hx⟩:∃x,x=(fx w)[j]:=⟨_,rfl⟩;have S:p x=decide (x[A]?.getD 0∈x.take w.fair.aF.length):=by rw[hp];rfl
     rw[<-hx]at R G ⊢;subst a7;refine bz.r6 (hold:=Ss) b9 Tryz.func30 b1 rfl ?_;refine rn ?_;simp[kG];refine af.beginRound b1 rfl ?_;have c6:w.fair.aF.length<=x.length:=G.1;refine rn ?_;simp[e2,CQ,G.2];rw[List.getElem?_eq_getElem G.2,Option.getD_some]at S;refine mT lay rfl dT rfl qp (es:=x.map int) (sp:=.any) (l:=0) (h:=w.fair.aF.length) (by simp) (λcap bm=>⟨rfl,⟨⟨.i64,by simp⟩,by grind⟩,rfl⟩) (by simp;omega) ?_
     obtain⟨z,hz⟩:∃z,z=x.take w.fair.aF.length:=⟨_,rfl⟩;have ez:List.take w.fair.aF.length (x.map int)=z.map int:=by rw[hz,List.map_take]
     have c7:z.length<=6:=by grind
     rw[<-hz]at S;simp only[List.drop_zero,Nat.sub_zero,ez];refine pg ?_;simp;refine cf Tryz.func66 rfl (ik (by omega) ?_)
     refine pg ?_;simp;rw[<-S];have k1:∀X,(a.set l X) i=some (.cells [bool (((fx w).take j).any p)]):=λX=>(aa.ak _ _ P).trans b2
     have k2:∀X,(a.set l X) n=some (.cells [bool (((fx w).take j).any λx=>!p x)]):=λX=>(aa.ak _ _ Q).trans b3
     have br:=Me
     have H:∀X Y Z e,e=i\/e=n->∀d x,d≠l->d≠i->d≠n->a d=some x->(((a.set l X).set e Y).set l Z) d=some x:=λX Y Z e he d x f t v h=>by rw[aa.ak _ _ f,aa.ak _ _ (by omega),aa.ak _ _ f];exact h
     have a9:∀d x,(((s.set r (.raw (.deferred (some [])))).set l x) d=none)->d≠l/\d≠i/\d≠n:=λd x h=>by
      refine⟨λe=>?_,λe=>?_,λe=>?_⟩
      . rw[e,aa.ao]at h;cases h
      . rw[e,aa.ak _ _ P,aa.ak _ _ r1,B]at h;cases h
      . rw[e,aa.ak _ _ Q,aa.ak _ _ r2,o]at h;cases h
     have ad:∀d x,(s.set r (.raw (.deferred (some [])))) d=some x->d≠l:=λd x h e=>by rw[e,aa.ak _ _ (Ne.symm O),E]at h;cases h
     cases ar:p x
     . refine rn ?_
       simp[W,aG,k2];refine⟨rfl,rfl,_,(aa.ak _ _ (Ne.symm Q)).trans (aa.ao _ _ _),?_⟩;refine a8 _ ⟨aa.ao _ _ _,(aa.ak _ _ P).trans ((aa.ak _ _ n1).trans ((k1 _).trans (by rw[R p,ar,Bool.or_false]))),(aa.ak _ _ Q).trans ((aa.ao _ _ _).trans (by grind)),λd y f t v=>H _ _ _ _ (.inr rfl) d y (ad d y f) t v (b4 d y f t v)⟩ λd y f t=>?_
       obtain⟨F,M,m3⟩:=a9 d _ f;exact H _ _ _ _ (.inr rfl) d y F M m3 t
     . refine rn ?_
       simp[Me,aG,k1];refine⟨rfl,rfl,_,(aa.ak _ _ (Ne.symm P)).trans (aa.ao _ _ _),?_⟩;refine a8 _ ⟨aa.ao _ _ _,(aa.ak _ _ P).trans ((aa.ao _ _ _).trans (by grind)),(aa.ak _ _ Q).trans ((aa.ak _ _ n2).trans ((k2 _).trans (by rw[R λx=>!p x,ar,Bool.not_true,Bool.or_false]))),λd y f t v=>H _ _ _ _ (.inl rfl) d y (ad d y f) t v (b4 d y f t v)⟩ λd y f t=>?_
       obtain⟨F,M,m3⟩:=a9 d _ f;exact H _ _ _ _ (.inl rfl) d y F M m3 t
   . exact⟨aa.ao _ _ _,(aa.ak _ _ P).trans ((aa.ak _ _ r1).trans (by simp_all)),(aa.ak _ _ Q).trans ((aa.ak _ _ r2).trans (by simp_all)),λd x f t v=>(aa.ak _ _ λe=>by rw[e,aa.ak _ _ (Ne.symm O),E]at f;cases f).trans f⟩
   . rintro a ⟨b1,b2,b3,b4⟩
     change a i=some (.cells [bool (((fx w).take (fx w).length).any p)])at b2
     change a n=some (.cells [bool (((fx w).take (fx w).length).any _)])at b3
     rw[List.take_length]at b2 b3;subst a7;refine⟨_,b1,by simp,rfl,?_⟩
     have u:∀d x,d≠l->a d=some x->(a.del l) d=some x:=λd x f t=>by simp only[aa.del,f,if_false];exact t
     have c1:=u _ _ P b2;have c2:=u _ _ Q b3;have cr:=u _ _ O (b4 _ _ (aa.ao _ _ _) (Ne.symm r1) (Ne.symm r2));have hv:rR w c=if(fx w).any p && (fx w).any (λx=>!p x)then 3 else if(fx w).any p then 1 else 2:=by rw[hp,<-hA];rfl
     rw[hv]at N;cases ha:(fx w).any p<;>cases hb:(fx w).any (λx=>!p x)<;>rw[ha]at c1 N<;>rw[hb]at c2 N
     all_goals
      refine rn ?_;simp[Me,W,c1,c2,qJ,aG];refine⟨cr,.less (λd x h=>?_) (.done (by simpa using N))⟩
      have q1:=g d x h;have F:d≠r:=λe=>by rw[e,hr]at q1;cases q1
      have M:d≠l:=λe=>by rw[e,E]at q1;cases q1
      rw[aa.ak _ _ F];exact u _ _ M (b4 d x ((aa.ak _ _ F).trans q1) (f1 d x h) (f2 d x h))
abbrev sR(r:List Int × Int):AV:=.agg [ints r.1,int r.2]
def lastT(l:List Int):Int:=l.getLast?.getD 0
def HX(w:bH)(r:List Int × Int)(k:Nat):Bool:=decide (jH w.ways r.2 (lastT r.1) k<1048576) && !decide ((k:Int)∈r.1)
def sS(w:bH)(r:List Int × Int)(n:Nat):List (List Int × Int):=((List.range n).filter (HX w r)).map λ(k:Nat)=>(r.1++[(k:Int)],jH w.ways r.2 (lastT r.1) k)
def qo(w:bH)(r:List Int × Int):List (List Int × Int):=if lastT r.1=0 then[]else sS w r w.aS.toNat
def Ar(w:bH)(r0:List Int × Int):Nat->List (List Int × Int)
 |0=>[r0]
 |k+1=>(Ar w r0 k).flatMap (qo w)
def HY(w:bH)(a:Int)(r:List Int × Int):Bool:=decide (lastT r.1=0) && decide (r.2=a)
def lh(w:bH)(c:Nat)(a:AB):Option (List Int × Int):=((List.range w.aS.toNat).flatMap (Ar w ([a.town],a.hour))).find? (HY w (cM w c))
theorem NK{kk:Nat}{es d:List AV}{sp:cQ}(h:es.length=d.length)(l:∀a∈es,a.cells.length=kk)(e:∀a∈d,a.cells.length=kk)(m:∀(i:Nat) a a',(flatten es)[i]?=some a->(flatten d)[i]?=some a'->a.W a'):(AV.sl kk es sp).W (.sl kk d .any):=λk x n=>by
 have f1:=bc l;have u:=bc e;cases n with
 | sl b off cap _ N E _ _ c g o p v q r w=>
   rw[h]at g f1 ⊢;refine .sl b off cap kk N E d .any c g o p e (λj f=>q j (by omega)) (λj a s=>?_) trivial;have f:j<(flatten es).length:=by grind
   exact m j (flatten es)[j] a (by simp[f]) s k _ (r j _ (by simp[f]))
 | slnil t=>
   have:d=[]:=by grind
   subst this;exact .slnil t kk .any (.inl rfl)
theorem S7(t h:Int):(AV.sl 2 [.agg [.sl 1 [int t] .exact,int h]] .exact).W (.sl 2 ([([t],h)].map sR) .any):=NK rfl (λa d=>by simp_all) (λa d=>by simp_all) λi a e b c=>by
 match i with
 |0=>cases b;cases c;exact bQ 1 _ _
 |1=>cases b;cases c;exact .refl _
 |n+2=>cases b
theorem LS{α:Type}{L:Nat->List α}{G:α->Bool}{n k i:Nat}(a:k<n)(b:i<(L k).length)(c:∀k'<k,∀x∈L k',G x=false)(d:∀x∈(L k).take i,G x=false)(h:G (L k)[i]=true):((List.range n).flatMap L).find? G=some (L k)[i]:=by
 have e:List.range n=List.range k++k::List.range' (k+1) (n-(k+1)):=by rw[List.range_eq_range',List.range_eq_range',show n=k+(n-(k+1)+1)by omega,<-List.range'_append_1,Nat.zero_add,show k+(n-(k+1)+1)-(k+1)=n-(k+1)by omega];rfl
 have f:((List.range k).flatMap L).find? G=none:=List.find?_eq_none.2 λx g=>by grind
 have j:L k=(L k).take i++(L k)[i]::(L k).drop (i+1):=by simp_all
 have l:(L k).find? G=some (L k)[i]:=by grind
 grind
theorem NL{α:Type}{L:Nat->List α}{G:α->Bool}{n:Nat}(a:∀k'<n,∀x∈L k',G x=false):((List.range n).flatMap L).find? G=none:=List.find?_eq_none.2 λx b=>by grind
theorem LU(w:bH)(a:w.aS<=4)(r:List Int × Int):(qo w r).length<=4:=by
 unfold qo;split
 . simp
 . unfold sS
   grind
theorem LV(w:bH)(a:w.aS<=4):∀M:List (List Int × Int),(M.flatMap (qo w)).length<=M.length*4
 |[]=>by simp
 | x::M=>by
   have b:=LV w a M;have c:=LU w a x
   grind
theorem FI{w:bH}(d:∀x∈w.ways,pQ w.aS x)(e:w.aS<=4){r0:List Int × Int}(f:r0.1.length=1/\0<=r0.2/\r0.2<=1048576):∀k,(Ar w r0 k).length<=4 ^ k/\∀r∈Ar w r0 k,r.1.length=k+1/\0<=r.2/\r.2<=1048576
 | 0=>⟨by simp[Ar],λr c=>by
   have:r=r0:=by simpa[Ar]using c
   simp_all⟩
 | k + 1=>by
   obtain⟨g,i⟩:=FI d e f k;refine⟨?_,λr c=>?_⟩
   . have:=LV w e (Ar w r0 k)
     rw[Nat.pow_succ];exact Nat.le_trans this (Nat.mul_le_mul_right 4 g)
   . simp only[Ar,List.mem_flatMap]at c
     obtain⟨y,m,c⟩:=c;obtain⟨p,n,q⟩:=i y m;unfold qo at c;split at c
     . cases c
     . obtain⟨j,s,rfl⟩:=List.mem_map.1 c
       have:=rz (l:=w.ways) (h:=y.2) (a:=lastT y.1) (b:=j) (λx o=>(d x o).2.2.1) n
       simp_all
theorem yW(hs:m.solo=true){w:bH}(hw:w.iU){c:Nat}(h3:c<3)(hc:c<w.aD.length)(he:bW w [] [] [(c:Int)]=0)
 (hK:if 72<cM w c then KF (.val (.bp [.nil,int 11])) σ else ∀r,lh w c w.aD[c]=some r->KF (.val (.bp [ints r.1,int 0])) σ) (A:cM w c<=72->(lh w c w.aD[c]).isSome=true):aB prog m 34 [aT w,int c] σ KF:=by
 have hW:Wl [aT w,iv,iv,.sl 1 [int c] .exact] [aT w,ints [],ints [],ints [(c:Int)]]:=LL (.refl _) (cz 1) (cz 1) (bQ 1 _ _);have hv:w.Valid:=bH.valid hw (by unfold bW at he;omega)
 refine fs Um 2 Tryz.func34 rfl rfl (by rfl) (by kernel_rfl) ?_
 simp[Tryz.f34];refine aM Tryz.func41 rfl rfl hW (fQ hs hw ⟨by simp,by simp,by simp⟩ (λq=>absurd he q) λq U fb mb hk=>?_)
 have ar:=hk.less (.refl mb U);refine rn ?_;simp;refine cf Tryz.func55 rfl (lR h3 ?_)
 by_cases hl:72<cM w c
 . rw[if_pos hl]at hK
   simp only[hl,if_true];refine rn ?_;simp;refine cK lay rfl tJ rfl (isNil:=false) (.inr ⟨⟨_,_,rfl⟩,rfl⟩) (.inr ⟨rfl,rfl⟩) ?_;refine rn ?_;simp[aG];exact .less ar (.done hK)
 . rw [if_neg hl]at hK
   simp only[hl,if_false];have A:=A (by omega)
   refine rn ?_;simp;refine cK lay rfl tJ rfl (isNil:=true) (.inl ⟨rfl,rfl⟩) (.inr ⟨rfl,rfl⟩) ?_;refine rn ?_;simp[aG,hc];have dx:=hv.NF.2 _ (List.getElem_mem hc);obtain⟨N,hN⟩:∃N:Nat,w.aS=(N:Int):=⟨w.aS.toNat,by omega⟩
   have hT:=hv.aS;have av:w.aS.toNat=N:=by omega
   obtain⟨R,hR⟩:∃R,R=Ar w ([w.aD[c].town],w.aD[c].hour):=⟨_,rfl⟩;have ax:=FI hv.way hT.2 (r0:=([w.aD[c].town],w.aD[c].hour)) ⟨rfl,by omega,by omega⟩
   rw[<-hR]at ax;have bA:lh w c w.aD[c]=((List.range N).flatMap R).find? (HY w (cM w c)):=by rw[hR,<-av];rfl
   have bB:∀k,R (k+1)=(R k).flatMap (qo w):=λk=>by rw[hR];rfl
   rw[bA]at A hK;have c6:R 0=[([w.aD[c].town],w.aD[c].hour)]:=by rw[hR];rfl
   refine af.CS 10 (a':=.sl 2 ((R 0).map sR) .any) (by rw[c6];exact S7 _ _) ?_
   obtain⟨G,hG⟩:∃G,G=HY w (cM w c):=⟨_,rfl⟩;rw[<-hG]at A hK;refine rn ?_;simp;refine af.loop N (λk s=>∃env f,s=⟨env,f,[],.no⟩/\(env 2=.cp (aT w) 0/\env 6=pw fb mb w 0/\env 8=int (cM w c)/\env 10=.sl 2 ((R k).map sR) .any/\env 51=int N/\env 52=int k)/\U.Le f/\∀k'<k,∀r∈R k',G r=false) ⟨_,_,rfl,by simp[hN],aa.le_refl _,by simp⟩ ?_
   rintro c0 k _ dy ⟨env,f,rfl,⟨E,F,H,xh,g,j⟩,ay,b1⟩ ih
   obtain⟨a8,hM⟩:=ax k;have b3:=bB k;obtain⟨M,I⟩:∃M,M=R k:=⟨_,rfl⟩;rw[<-I]at a8 hM xh b3;refine rn ?_;simp[g,j];refine aG.intro (λg1=>?_) (λg1=>?_)<;>(try simp[-Int.not_lt,-Int.not_le,-Nat.not_lt,-Nat.not_le]at g1)<;>(try simp[xh,g1])
   . have a8:M.length<=256:=Nat.le_trans a8 (Nat.pow_le_pow_right (n:=4) (by decide) (show k<=4 by omega))
     refine af.loop M.length (λi s=>∃env f a,s=⟨env,f,[],.no⟩/\(env 2=.cp (aT w) 0/\env 6=pw fb mb w 0/\env 8=int (cM w c)/\env 51=int N/\env 52=int k/\env 54=.sl 2 (M.map sR) .any/\env 55=int M.length/\env 56=int i/\env 11=a)/\Tok U f a 2 (((M.take i).flatMap (qo w)).map sR)/\∀r∈M.take i,G r=false) ⟨_,_,.nil,rfl,by simp[E,F,H,g,j],⟨ay,.inl ⟨rfl,by simp⟩⟩,by simp⟩ ?_
     rintro c1 i _ hi ⟨env,f,a,rfl,⟨E,F,H,g,j,u,v,p,CQ⟩,ht,J⟩ b4
     refine rn ?_;simp[v,p];refine aG.intro (λg2=>?_) (λg2=>?_)<;>(try simp[-Int.not_lt,-Int.not_le,-Nat.not_lt,-Nat.not_le]at g2)<;>(try simp[j,u,p,CQ,g2])
     . obtain ⟨c7,a9,b5⟩:=hM _ (List.getElem_mem g2)
       have e0:=LV w hT.2 (M.take i);have dr:(M.take i).length<=256:=by rw[List.length_take];omega
       obtain⟨x,B⟩:∃x,x=M[i]:=⟨_,rfl⟩;rw[<-B]at c7 a9 b5;simp only[<-B];have b6:∀q,(M.take (i+1)).flatMap q=(M.take i).flatMap q++(q x:List (List Int × Int)):=λq=>by rw[List.take_succ_eq_append_getElem g2,List.flatMap_append,List.flatMap_singleton,<-B]
       have b7:G x=false->∀r∈M.take (i+1),G r=false:=λh r A=>by
        rw[List.take_succ_eq_append_getElem g2,<-B]at A
        rcases List.mem_append.1 A with A|A
        . exact J r A
        . rw[List.mem_singleton.1 A];exact h
       refine bq.intro λb hb=>?_
       have ca:x.1[x.1.length-1]?=some (lastT x.1):=by unfold lastT;rw[List.getLast?_eq_getElem?,List.getElem?_eq_getElem (by omega)];rfl
       have gx:0<=(x.1.length:Int)-1/\(x.1.length:Int)-1<x.1.length/\1<=(x.1.length:Int):=by omega
       simp[gx,ca];refine⟨by omega,?_⟩
       have V:(f.set b (.cells [ints x.1,int x.2])) b=some (.cells [ints x.1,int x.2]):=aa.ao _ _ _;have cb:f.Le (f.set b (.cells [ints x.1,int x.2])):=λc y h=>(aa.ak _ _ λe=>by rw[e,hb]at h;cases h).trans h
       have X:=ht.up cb;generalize f.set b (.cells [ints x.1,int x.2])=e7 at V X;refine aG.intro (λg3=>?_) (λg3=>?_)<;>(try simp[-Int.not_lt,-Int.not_le,-Nat.not_lt,-Nat.not_le]at g3)<;>(try simp[E,H,g3,V])
       . have KA:qo w x=[]:=by unfold qo;rw[if_pos g3]
         refine aG.intro (λg4=>?_) (λg4=>?_)<;>(try simp[-Int.not_lt,-Int.not_le,-Nat.not_lt,-Nat.not_le]at g4)<;>(try simp[p,g4,V])
         . have K:G x=true:=by rw[hG];simp[HY,g3,g4]
           have cg:=LS (L:=R) (G:=G) (k:=k) (i:=i) g1 (by rw[<-I];exact g2) b1 (by rw[<-I];exact J) (by simp only[<-I,<-B];exact K)
           have b8:=hK _ cg;simp only[<-I,<-B]at b8;exact .less (aa.le_trans ar X.1) (.done b8)
         . have K:G x=false:=by rw[hG];simp[HY,g4]
           refine⟨by omega,b4 _ (by omega) ⟨_,_,a,rfl,by simp[E,F,H,g,j,u,v,CQ],by rw[b6,KA,List.append_nil];exact X,b7 K⟩⟩
       . have KA:qo w x=sS w x N:=by unfold qo;rw[if_neg g3,av]
         have K:G x=false:=by rw[hG];simp[HY,g3]
         refine af.loop N (λd s=>∃env z a',s=⟨env,z,[],.no⟩/\(env 2=.cp (aT w) 0/\env 6=pw fb mb w 0/\env 8=int (cM w c)/\env 51=int N/\env 52=int k/\env 54=.sl 2 (M.map sR) .any/\env 55=int M.length/\env 56=int i/\env 13=.ref b 0/\env 14=int (lastT x.1)/\env 77=int N/\env 78=int d/\env 11=a')/\z b=some (.cells [ints x.1,int x.2])/\Tok U z a' 2 (((M.take i).flatMap (qo w)++sS w x d).map sR)) ⟨_,_,a,rfl,by simp[E,F,H,g,j,u,v,p,CQ,hN],V,by simpa[sS]using X⟩ ?_
         rintro c2 d _ hd ⟨env,z,a',rfl,⟨E,F,H,g,j,u,v,p,C,O7,Y,O,CQ⟩,o,Z⟩ ab
         have D:sS w x (d+1)=sS w x d++if HX w x d then [(x.1++[(d:Int)],jH w.ways x.2 (lastT x.1) d)]else []:=by unfold sS;rw[List.range_succ,List.filter_append,List.map_append];congr 1;simp only[List.filter_cons,List.filter_nil];split<;>rfl
         have ea:(sS w x d).length<=d:=by unfold sS;rw[List.length_map];exact Nat.le_trans (List.length_filter_le _ _) (by rw[List.length_range];omega)
         refine rn ?_;simp[Y,O];refine aG.intro (λg5=>?_) (λg5=>?_)<;>(try simp[-Int.not_lt,-Int.not_le,-Nat.not_lt,-Nat.not_le]at g5)<;>(try simp[F,p,C,O7,O,g5,o])
         . refine cf Tryz.func77 rfl (B6 (by simp) hw.ways hv.way ⟨a9,b5⟩ ?_)
           have cm:=rz (l:=w.ways) (h:=x.2) (a:=lastT x.1) (b:=d) (λy hy=>(hv.way y hy).2.2.1) a9
           obtain⟨T,b9⟩:∃T,T=jH w.ways x.2 (lastT x.1) d:=⟨_,rfl⟩;rw[<-b9]at cm D ⊢;have ad:HX w x d=(decide (T<1048576) && !decide ((d:Int)∈x.1)):=by rw[b9];rfl
           refine rn ?_;simp;refine qJ.intro (λg6=>?_) (λg6=>?_)<;>(try simp[-Int.not_lt,-Int.not_le,-Nat.not_lt,-Nat.not_le]at g6)<;>(try simp[C,O,g6,o])
           . refine cf Tryz.func66 rfl (ik (by omega) ?_)
             refine rn ?_;simp;refine aG.intro (λg7=>?_) (λg7=>?_)<;>(try simp[-Int.not_lt,-Int.not_le,-Nat.not_lt,-Nat.not_le]at g7)<;>(try simp[C,O,CQ,g7,o])
             . have P:HX w x d=false:=by rw[ad];simp[g7]
               refine⟨by omega,ab _ (by omega) ⟨_,_,a',rfl,by simp[E,F,H,g,j,u,v,p,C,O7,Y,CQ],o,by rw[D,P,if_neg (by simp),List.append_nil];exact Z⟩⟩
             . have P:HX w x d=true:=by rw[ad];simp[g6,g7]
               rw[P,if_pos rfl]at D;refine jy lay rfl dT rfl qp (es:=x.1.map int) (sp:=.any) (l:=0) (h:=x.1.length) (by simp) (λcap bm=>⟨⟨⟨.i64,by simp⟩,by simpa using bm⟩,⟨⟨.i64,by simp⟩,Nat.le_refl _⟩,rfl⟩) (by simp) λb2 br=>?_
               have bw:Tok z z b2 1 (x.1.map int):=by
                rw[List.drop_zero,List.take_of_length_le (by simp)]at br
                rcases br with rfl|⟨e,rfl⟩
                . exact .exact _ _ _
                . rw[e];exact .nil _ _
               refine rn ?_;simp;refine aR lay rfl rfl rfl dT rfl dT rfl qp (by decide) (by simp only[List.length_map,List.length_cons,List.length_nil];omega) (σ0:=z) (es:=x.1.map int) (xs:=[int d]) (by simpa using bw) (.inr ⟨_,rfl⟩) λa2 cr Q=>?_
               have cv:x.1.map int++[int d]=(x.1++[(d:Int)]).map int:=by rw[List.map_append];rfl
               rw[cv]at Q;obtain⟨y,hy⟩:∃y,y=x.1++[(d:Int)]:=⟨_,rfl⟩;rw[<-hy]at Q D;refine af.CS 108 (a':=ints y) (show AV.W a2 _ from Q.W) ?_
               refine rn ?_;simp
               have dj:(((M.take i).flatMap (qo w)++sS w x (d+1)).map sR)=(((M.take i).flatMap (qo w)++sS w x d).map sR)++[sR (y,T)]:=by rw[D,<-List.append_assoc,List.map_append];rfl
               have S:=Z.up Q.1;have a7:=Q.1 _ _ o;have dm:cq a'≠some b:=λe=>by obtain⟨_,t,q⟩:=S.bZ e;rw[a7]at q;cases q
               refine aR lay rfl rfl rfl Oo rfl Oo rfl Sm (by decide) (by simp only[List.length_map,List.length_append,List.length_cons,List.length_nil];omega) (σ0:=cr.off a') (es:=((M.take i).flatMap (qo w)++sS w x d).map sR) (xs:=[sR (y,T)]) (by simpa using S.here.1) (.inr ⟨_,rfl⟩) λa3 eb al=>?_
               rw[<-dj]at al;have bx:=al.1 _ _ ((aa.gT dm).trans a7);refine rn ?_;simp[O];refine⟨by omega,ab _ (by omega) ⟨_,_,a3,rfl,by simp[E,F,H,g,j,u,v,p,C,O7,Y],bx,al.base S.here.2⟩⟩
           . have P:HX w x d=false:=by rw[ad];simp[g6]
             refine⟨by omega,ab _ (by omega) ⟨_,_,a',rfl,by simp[E,F,H,g,j,u,v,p,C,O7,Y,CQ],o,by rw[D,P,if_neg (by simp),List.append_nil];exact Z⟩⟩
         . have ed:d=N:=by omega
           subst ed;refine⟨by omega,b4 _ (by omega) ⟨_,_,a',rfl,by simp[E,F,H,g,j,u,v,CQ],by rw[b6,KA];exact Z,b7 K⟩⟩
     . have ei:i=M.length:=by omega
       subst ei;rw[List.take_length]at ht J;refine⟨by omega,?_⟩
       refine af.CS 10 (a':=.sl 2 ((R (k+1)).map sR) .any) ?_ (ih _ (by omega) ⟨_,_,rfl,by simp[E,F,H,g],ht.1,λk' q x hx=>?_⟩)
       . change AV.W a _
         rw[b3];exact ht.W
       grind
   . have ek:k=N:=by omega
     subst ek;rw[NL b1]at A;cases A
theorem cC{a b c d e:Int}{l:List Int}(h:KF (.val (dw ⟨a,b,c,l,d,e⟩)) σ):aB prog m 37 [int a,int b,int c,int d,int e,ints l] σ KF:=by
 refine fs [] 6 Tryz.func37 rfl rfl (by rfl) (by kernel_rfl) ?_;simp[Tryz.f37];refine bq.intro λk f=>?_
 simp;exact .less (by repeat (first|exact aa.le_refl _|assumption|refine aa.eo ?_ (by assumption)|refine aa.kJ ?_ (by assumption))) (.done h)
theorem kg{a b c d e:Int}(h:KF (.val (jQ ⟨a,b,c,d,e⟩)) σ):aB prog m 68 [int a,int b,int c,int d,int e] σ KF:=by
 refine fs [] 5 Tryz.func68 rfl rfl (by rfl) (by kernel_rfl) ?_;simp[Tryz.f68];refine bq.intro λk f=>?_
 simp[aL];exact .less (by repeat (first|exact aa.le_refl _|assumption|refine aa.eo ?_ (by assumption)|refine aa.kJ ?_ (by assumption))) (.done h)
def tT:List rv:=[⟨10,0,1,[0],15,0⟩,⟨12,0,1,[],16,1⟩,⟨14,0,2,[],14,0⟩,⟨16,0,1,[],14,0⟩]
def im:List Way:=[⟨0,1,4,6,20⟩,⟨1,2,1,0,72⟩,⟨2,0,2,0,72⟩]
def LW:Fr:=⟨tT,[[0,2],[2,0]],1,2,3,3⟩
def iV:AB:=⟨⟨4,1,1,[0],15,0⟩,1,5⟩
def lW(n:Nat):bH:=⟨LW,3,im.take n,[iV]⟩
theorem pn{n:Nat}(z:n<=3)(h:KF (.val (aT (lW n))) σ):aB prog m 32 [int n] σ KF:=by
 have v:∀a b c d e:Int,∀l:List Int,Wl [int a,int b,int c,int d,int e,.sl 1 (l.map int) .exact] [int a,int b,int c,int d,int e,ints l]:=λa b c d e l=>.cons (.refl _) (.cons (.refl _) (.cons (.refl _) (.cons (.refl _) (.cons (.refl _) (.cons (bQ 1 _ .exact) .nil)))))
 have r:∀a b c d e:Int,Wl [int a,int b,int c,int d,int e,.lit (.slice none 0 0)] [int a,int b,int c,int d,int e,ints []]:=λa b c d e=>.cons (.refl _) (.cons (.refl _) (.cons (.refl _) (.cons (.refl _) (.cons (.refl _) (.cons (cz 1) .nil)))))
 refine fs Pu 1 Tryz.func32 rfl rfl (by rfl) (by kernel_rfl) ?_
 simp[Tryz.f32];refine bq.intro λwb t=>?_
 simp;refine aM Tryz.func37 rfl rfl (v 10 0 1 15 0 [0]) (cC ?_);refine rn ?_;simp;refine aM Tryz.func37 rfl rfl (r 12 0 1 16 1) (cC ?_);refine rn ?_;simp;refine aM Tryz.func37 rfl rfl (r 14 0 2 14 0) (cC ?_);refine rn ?_;simp;refine aM Tryz.func37 rfl rfl (r 16 0 1 14 0) (cC ?_);refine af.runN lay [] 9 ?_;simp[aL];refine bq.intro λfb j=>?_
 obtain⟨A,B,w⟩:=aa.aH j;simp[aL]
 change af _ _ _ _ _ _ _ _ _
 refine af.aV 3 (b:=fb) (.agg [.sl 6 (tT.map dw) .exact,.sl 1 [.sl 1 [int 0,int 2] .exact,.sl 1 [int 2,int 0] .exact] .exact,int 1,int 2,int 3,int 3]) (aa.ao _ _ _) (by simp) rfl ?_
 rw[dz j];refine rn ?_;simp;refine cf Tryz.func68 rfl (kg ?_);refine rn ?_;simp;refine cf Tryz.func68 rfl (kg ?_);refine rn ?_;simp;refine cf Tryz.func68 rfl (kg ?_);refine rn ?_;simp;obtain⟨L,x⟩:∃L,L=(im.take n).map jQ:=⟨_,rfl⟩;have u:((im.map jQ).drop 0).take (n-0)=L:=by rw[x,List.map_take];rfl
 have KA:(σ.set wb (.cells [.nil,.nil,int 0,int 0,int 0,int 0,int 0,.nil,.nil])) wb=some (.cells [.nil,.nil,int 0,int 0,int 0,int 0,int 0,.nil,.nil]):=aa.ao _ _ _;have k:n<=(im.map jQ).length:=by simp[im];omega
 apply LR
 . intro key
   repeat' first
    |refine⟨?_,?_⟩
    | (refine mT lay rfl DN rfl JR (es:=im.map jQ) (sp:=.exact) (l:=0) (h:=n) (by simp[im]) (λcap o=>⟨rfl,⟨⟨.i64,by simp⟩,Nat.le_trans k o⟩,rfl⟩) k ?_
       rw[u];refine pg ?_;simp[aL])
    | (refine aM Tryz.func37 rfl rfl (v 4 1 1 15 0 [0]) (cC ?_)
       refine pg ?_;simp[aL])
   all_goals
    refine af.mH (λe s=>e 2=.ref wb 0/\s=σ.set wb (.cells [.sl 6 (tT.map dw) .exact,.sl 1 [.sl 1 [int 0,int 2] .exact,.sl 1 [int 2,int 0] .exact] .exact,int 1,int 2,int 3,int 3,int 3,.sl 5 L .any,.sl 8 [bM iV] .exact])) ⟨by simp,rfl⟩ ?_
    exact key
 rintro env _ ⟨y,rfl⟩
 refine rn ?_;simp[y]
 have p:(AV.sl 1 [AV.sl 1 [int 0,int 2] .exact,.sl 1 [int 2,int 0] .exact] .exact).W (rows [[0,2],[2,0]]):=Lm rfl (λa q=>by simp at q;rcases q with rfl|rfl<;>rfl) (λa q=>by simp at q;rcases q with rfl|rfl<;>rfl) (λi a a' f g=>by
  match i with
  |0=>simp at f g;subst f;subst g;exact bQ 1 [int 0,int 2] .exact
  |1=>simp at f g;subst f;subst g;exact bQ 1 [int 2,int 0] .exact
  |i+2=>simp at f)
 refine .less (aa.eo (aa.le_refl _) t) (.lV (a':=aT (lW n)) (nC rfl λi a a' f g=>?_) (.done h))
 match i with
 |0=>cases f;cases g;exact bQ 6 _ .exact
 |1=>cases f;cases g;exact p
 |2=>cases f;cases g;exact .refl _
 |3=>cases f;cases g;exact .refl _
 |4=>cases f;cases g;exact .refl _
 |5=>cases f;cases g;exact .refl _
 |6=>cases f;cases g;exact .refl _
 |7=>cases f;cases g;rw[x];exact .refl _
 |8=>cases f;cases g;exact bQ 8 _ .exact
 |i+9=>cases f
end Go.Proofs.YtkcceaplmgdnfaaGreatDoor
namespace Go.Proofs.YtkcceaplmgdnfaaGreatDoor
open Go.Proofs.Tryz (prog)
open Go Go.bu Go.Conc
set_option maxHeartbeats 1000000
set_option maxRecDepth 4000
def FJ(f:Fr):Bool:=decide (f.aF.length<100) && decide (f.roads.length<100) && f.roads.all (λr=>decide (r.length<100)) && f.aF.all (λe=>decide (e.marks.length<100))
theorem xc{f:Fr}(h:FJ f=true):f.Fits:=by simp only[FJ,Bool.and_eq_true,decide_eq_true_eq,List.all_eq_true]at h;obtain⟨⟨⟨g,i⟩,a⟩,b⟩:=h;exact⟨by omega,by omega,λr c=>by have:=a r c;omega,λe d=>by have:=b e d;omega⟩
def CC(f:Fr):Bool:=FJ f && decide (check f=0)
theorem LX{f:Fr}(h:CC f=true):f.Good:=by simp only[CC,Bool.and_eq_true,decide_eq_true_eq]at h;exact Fr.uo (xc h.1) h.2
def nF(h:Int):Int:=if h<0 then -1 else if 72<h then 72 else h
theorem LY(h:Int):∃k:Nat,k<74/\nF h=(k:Int)-1:=by refine⟨(nF h+1).toNat,?_,?_⟩<;>(unfold nF;split<;>(try split)<;>omega)
def EE(w:bH):Bool:=(sL w.fair.aF.length).all (λi=>decide (0<=(cx w.fair i).hour) && decide ((cx w.fair i).hour<=72)) && (sL w.aD.length).all λi=>decide (0<=cM w i.toNat)
theorem CD{w:bH}(a:EE w=true)(h:Int):kE w h=kE w (nF h)/\kC w h=kC w (nF h):=by
 simp only[EE,Bool.and_eq_true,List.all_eq_true,decide_eq_true_eq]at a;have c:qk w h=qk w (nF h):=List.filter_congr λx b=>by have:=a.1 x b;unfold pE nF;split<;>(try split)<;>(rw[decide_eq_decide]<;>omega)
 have d:ql w h=ql w (nF h):=List.filter_congr λx b=>by
  have:=a.2 x b;unfold pC nF;by_cases q:cM w x.toNat<=72
  . simp only[q,decide_true,Bool.true_and]
    split<;>(try split)<;>(rw[decide_eq_decide]<;>omega)
  . simp[q]
 exact⟨congrArg aW c,congrArg aW d⟩
def Uy(w:bH)(p:Int × Int):Bool:=(aC p.1).all (λi=>decide (0<=i) && decide (i<w.fair.aF.length)) && (aC p.2).all (λi=>decide (0<=i) && decide (i<w.aD.length)) && CC (dP w (aC p.1) (aC p.2)) && decide (aK (dP w (aC p.1) (aC p.2)) []≠[])
theorem S8{w:bH}{p:Int × Int}(h:Uy w p=true):w.Bk p.1 p.2:=by simp only[Uy,Bool.and_eq_true,List.all_eq_true,decide_eq_true_eq]at h;exact⟨h.1.1.1,h.1.1.2,LX h.1.2,h.2⟩
def OE(w:bH)(L:List (Int × Int)):Bool:=decide (w.fair.aF.length<=6) && decide (w.aD.length<=3) && EE w && (List.range 74).all (λk=>L.contains (kE w ((k:Int)-1),kC w ((k:Int)-1))) && L.all (Uy w)
theorem As{w:bH}{L:List (Int × Int)}(h:OE w L=true):w.Open:=by
 simp only[OE,Bool.and_eq_true,List.all_eq_true,decide_eq_true_eq]at h;refine⟨⟨h.1.1.1.1,h.1.1.1.2⟩,λt=>?_⟩;obtain⟨a,b⟩:=CD h.1.1.2 t;obtain⟨k,c,ek⟩:=LY t;rw[a,b,ek];exact S8 (p:=(kE w ((k:Int)-1),kC w ((k:Int)-1))) (h.2 _ (by simpa using h.1.2 k (List.mem_range.2 c)))
def OF(w:bH):Bool:=CC w.fair && w.aD.all (λc=>FJ (lone w.fair c.lost) && decide (check (lone w.fair c.lost)=0)) && decide (w.ways.length<100) && decide (w.aD.length<100)
theorem lT{w:bH}(h:OF w=true):w.iU:=by simp only[OF,CC,Bool.and_eq_true,List.all_eq_true,decide_eq_true_eq]at h;obtain⟨⟨⟨⟨d,e⟩,a⟩,f⟩,g⟩:=h;exact⟨xc d,e,λc b=>⟨xc (a c b).1,(a c b).2⟩,by omega,by omega⟩
theorem Au:(lW 2).iU/\(lW 3).iU:=⟨lT (by decide +kernel),lT (by decide +kernel)⟩
theorem Av:(lW 2).Open/\(lW 3).Open:=⟨As (L:=[(0,0),(0,1),(1,0),(1,1),(3,1),(7,1),(15,1)]) (by decide +kernel),As (L:=[(0,0),(0,1),(1,1),(3,1),(7,1),(15,1)]) (by decide +kernel)⟩
end Go.Proofs.YtkcceaplmgdnfaaGreatDoor
namespace Go.Proofs.YtkcceaplmgdnfaaGreatDoor
open Go.Proofs.Tryz (prog)
open Go Go.bu Go.Conc
set_option maxHeartbeats 1000000
set_option maxRecDepth 4000
variable{m:Mo}{σ:aa}{KF:cJ->aa->Prop}
theorem PN:BX prog 26 3:=.of (by kernel_rfl) (by kernel_rfl) (by kernel_rfl) (by kernel_rfl)
namespace SR
abbrev Uz:List Entry:=[⟨4,.take [0,1,2,3,4,5,6,7] false (.one 8 (.done))⟩]
theorem pV{a b:List (Int × Int)}(A:a.length<1152921504606846976)(hb:b.length<1152921504606846976)(h:KF (.val (bool (decide (a=b)))) σ):aB prog m 35 [j9 a,j9 b] σ KF:=by
 refine fs Uz 2 Tryz.func35 rfl rfl (by rfl) (by kernel_rfl) ?_;simp[Tryz.f35];refine af.loop a.length (λk s=>∃env,s=⟨env,σ,[],.no⟩/\env 0=j9 a/\env 1=j9 b/\env 5=int k/\k<=b.length/\a.take k=b.take k) ⟨_,rfl,by simp⟩ ?_;rintro B k _ C ⟨env,rfl,g,l,i,r,o⟩ t;refine rn ?_;simp[g,i];refine qJ.intro (λf=>?_) (λf=>?_)<;>(try simp[-Int.not_lt,-Int.not_le,-Nat.not_lt,-Nat.not_le]at f)<;>(try simp[g,l,i,f])
 . refine aG.intro (λj=>?_) (λj=>?_)<;>(try simp[-Int.not_lt,-Int.not_le,-Nat.not_lt,-Nat.not_le]at j)<;>(try simp[g,l,i,j,f])
   . obtain⟨x,u⟩:∃x,x=a[k]:=⟨_,rfl⟩
     obtain⟨y,v⟩:∃y,y=b[k]:=⟨_,rfl⟩;simp only[<-u,<-v];refine yB lay PN qp rfl rfl (a:=x.1) (b:=x.2) (c:=y.1) (d:=y.2) (by simp) (by simp) (.inr ⟨rfl,rfl⟩) ?_;have w:(!(x.1==y.1 && x.2==y.2))=!decide (x=y):=by grind
     rw[w];by_cases p:x=y
     . refine pg ?_
       simp[p];refine rn ?_;simp[i];have z:a[k]=b[k]:=by simp_all
       refine⟨by omega,t _ f ⟨_,rfl,by simp[g],by simp[l],by simp,by omega,?_⟩⟩;rw[List.take_succ_eq_append_getElem f,List.take_succ_eq_append_getElem j,o,z]
     . have:a≠b:=λe=>by simp_all
       simp[this]at h;refine pg ?_;simp[p];refine rn ?_;simp;exact .done h
   . have:a≠b:=λe=>by simp_all
     have n:((a.length:Int)==b.length)=false:=by grind
     rw[n];exact .done (by simp_all)
 . have:k=a.length:=by omega
   subst this;rw[List.take_length]at o;by_cases e:a.length=b.length
   . have:a=b:=by grind
     exact .done (by grind)
   . have:a≠b:=λq=>e (by rw[q])
     have n:((a.length:Int)==b.length)=false:=by grind
     rw[n];exact .done (by grind)
end SR
theorem LZ:bW (lW 3) [] [] [0]=0/\bW (lW 3) [14] [] []=0/\bW (lW 3) [] [1] []=0/\bW (lW 2) [] [] []=0/\bW (lW 3) [] [] []=0:=by decide +kernel
theorem NM:cM (lW 3) 0=8/\fq (lW 3) 14=[0,1]/\bN (lW 3) 1=[(12,15)]/\gq (lW 2) (lW 2).fair.aF.length=67/\FH (lW 3)=[0]:=by decide +kernel
theorem L0:iZ (lW 3) 16 0 0=1/\((List.range 16).all λh=>(List.range 4).all λ(i:Nat)=>decide (iZ (lW 3) (h:Nat) i 0≠1))=true:=by decide +kernel
theorem PO:∀l:List Int,(∀c∈l,0<=c/\c<((lW 3).aD.length:Int))->l.length<=(lW 3).aD.length->((lW 3).only l).Open:=λl d g=>by
 have f:l=[]\/l=[0]:=by
  match l with
  |[]=>simp_all
  | [a]=>
    have:=d a (by simp);have e:(lW 3).aD.length=1:=rfl
    grind
  | a::b::t=>
    have e:(lW 3).aD.length=1:=rfl
    simp_all
 rcases f with rfl|rfl
 . exact As (L:=[(0,0),(1,0),(3,0),(7,0),(15,0)]) (by decide +kernel)
 . exact Av.2
theorem EF:(∀h i:Nat,h<73->i<(lW 3).fair.aF.length->foundAt (lW 3) 0 h i->h=16/\i=0)/\¬(∀a b:Nat,a<73->b<(lW 3).fair.aF.length->iZ (lW 3) a b 0≠1):=by
 obtain⟨f1,c⟩:=L0;have e:(lW 3).fair.aF.length=4:=rfl;refine⟨λh i j k d=>?_,λq=>q 16 0 (by omega) (by omega) f1⟩;simp only[List.all_eq_true,decide_eq_true_eq,List.mem_range]at c;by_cases f:h<16
 . exact absurd d.1 (c h f i (by omega))
 . by_cases g:h=16/\i=0
   . exact g
   . exact absurd f1 (d.2 16 0 (by omega) (by omega))
theorem L1(d:m.solo=true)(h:KF (.val (bool true)) σ):aB prog m 16 [] σ KF:=by
 have e:∀(σ:aa) (KF:cJ->aa->Prop),KF (.val (aT (lW 3))) σ->aB prog m 32 [int 3] σ KF:=λσ KF h=>pn (n:=3) (by decide) h
 have k:∀(σ:aa) (KF:cJ->aa->Prop),KF (.val (aT (lW 2))) σ->aB prog m 32 [int 2] σ KF:=λσ KF h=>pn (n:=2) (by decide) h
 obtain⟨j,l,o,p,r⟩:=LZ;obtain⟨s,t,u,v,w⟩:=NM;obtain⟨f1,x⟩:=EF;obtain⟨y,f⟩:=Au;obtain⟨z,g⟩:=Av;have sub:=PO;generalize lW 3=A at *;generalize lW 2=B at *;refine fs [] 0 Tryz.func16 rfl rfl (by rfl) (by kernel_rfl) ?_;simp[Tryz.f16];refine cf Tryz.func32 rfl (e _ _ ?_);refine rn ?_;simp;refine cf Tryz.func22 rfl (oz d f (c:=0) (by decide) j ?_);rw[s,if_neg (by decide)];refine rn ?_;simp;refine cf Tryz.func32 rfl (e _ _ ?_);refine rn ?_;simp;refine cf Tryz.func11 rfl (mL d f g (λq=>absurd l q) λ_=>?_);rw[t];refine rn ?_;simp;refine cf Tryz.func32 rfl (e _ _ ?_);refine rn ?_;simp;refine cf Tryz.func23 rfl (pj d f g (by decide) (λq=>absurd o q) λ_=>?_);rw[u];refine rn ?_;simp;refine cf Tryz.func32 rfl (e _ _ ?_);refine rn ?_;simp;refine cf Tryz.func31 rfl (HP d f g (by decide) j (λh i C D E=>?_) λq=>absurd q x)
 obtain⟨rfl,rfl⟩:=f1 h i C D E;refine rn ?_;simp;refine cf Tryz.func32 rfl (k _ _ ?_);refine rn ?_;simp;refine cf Tryz.func25 rfl (yU d y z p ?_);rw[v];refine rn ?_;simp;refine cf Tryz.func32 rfl (e _ _ ?_);refine rn ?_;simp;refine cf Tryz.func12 rfl (EC d f g sub r ?_);rw[w];refine rn ?_;simp;refine aM Tryz.func15 rfl rfl (.cons (.refl _) (.cons (bQ 1 [int 0,int 1] .exact) .nil)) (cL (a:=[0,1]) (b:=[0,1]) (by simp) (by simp) ?_);refine rn ?_;simp;refine aM Tryz.func35 rfl rfl (.cons (.refl _) (.cons (bQ 2 [jm (12,15)] .exact) .nil)) (SR.pV (a:=[(12,15)]) (b:=[(12,15)]) (by simp) (by simp) ?_);refine rn ?_;simp;refine aM Tryz.func15 rfl rfl (.cons (.refl _) (.cons (bQ 1 [int 0] .exact) .nil)) (cL (a:=[0]) (b:=[0]) (by simp) (by simp) ?_);refine rn ?_;simp;exact .done h
end Go.Proofs.YtkcceaplmgdnfaaGreatDoor
namespace Go.Proofs.YtkcceaplmgdnfaaGreatDoor
open Go.Proofs.Tryz (prog)
open Go.bu Go.Conc
set_option maxHeartbeats 1000000
set_option maxRecDepth 4000
variable{m:Mo}{σ:aa}{KF:cJ->aa->Prop}
theorem OG{P:Program}{m:Mo}{fid n:Nat}{ro:Option Nat}{hold:List Entry}{K:bu.Exit->St->Prop}{todo:List Item}{D:List kF}{rc:Rec}{G:Prop}(I:Env->aa->Prop)
 (a:(∀env σ,I env σ->af P m fid n ro hold todo ⟨env,σ,D,rc⟩ K)->G) (b:∀env σ,I env σ->af P m fid n ro hold todo ⟨env,σ,D,rc⟩ K):G:=a b
end Go.Proofs.YtkcceaplmgdnfaaGreatDoor
namespace Go.Proofs.YtkcceaplmgdnfaaGreatDoor
open Go.Proofs.Tryz (prog)
open Go.bu Go.Conc
set_option maxHeartbeats 2000000
set_option maxRecDepth 4000
variable{m:Mo}{σ:aa}{KF:cJ->aa->Prop}
theorem S9:BX prog 26 3:=.of (by kernel_rfl) (by kernel_rfl) (by kernel_rfl) (by kernel_rfl)
namespace MA
end MA
theorem xP{r:List (List Int)}(j:r.length<1152921504606846976)(e:∀l∈r,l.length<1152921504606846976)(h:KF (.val (bool true)) σ):aB prog m 116 [rows r,rows r] σ KF:=by
 refine fs Sw 2 Tryz.func116 rfl rfl (by rfl) (by kernel_rfl) ?_;simp[Tryz.f116];refine af.loop r.length (λi s=>∃env,s=⟨env,σ,[],.no⟩/\env 0=rows r/\env 1=rows r/\env 5=int i) ⟨_,rfl,by simp,by simp,by simp⟩ ?_;rintro k i _ n ⟨env,rfl,a,b,c⟩ f;rcases Nat.lt_or_ge i r.length with g1|g1
 . have d:(i:Int)<r.length:=by omega
   have f1:-9223372036854775808<=(i:Int)+1/\(i:Int)+1<=9223372036854775807:=by omega
   refine rn ?_;simp[a,b,c,g1,d];refine cf Tryz.func15 rfl (cL (e _ (List.getElem_mem g1)) (e _ (List.getElem_mem g1)) ?_);refine pg ?_;simp;refine rn ?_;simp[c,f1.1,f1.2];exact f _ g1 ⟨_,rfl,by simp[a],by simp[b],by simp⟩
 . have g:¬(i:Int)<r.length:=by omega
   refine rn ?_;simp[a,b,c,g];exact .done h
theorem mM{e:rv}(a:e.marks.length<1152921504606846976)(h:KF (.val (bool true)) σ):aB prog m 117 [dw e,dw e] σ KF:=by
 refine fs [] 2 Tryz.func117 rfl rfl (by rfl) (by kernel_rfl) ?_;simp[Tryz.f117];refine cf Tryz.func15 rfl (cL a a ?_);refine rn ?_;simp;exact .done h
theorem xd{f:Fr}(e:f.Fits)(h:KF (.val (bool true)) σ):aB prog m 81 [dt f,dt f] σ KF:=by
 have n:=e.aF;refine fs Up 2 Tryz.func81 rfl rfl (by rfl) (by kernel_rfl) ?_;simp[Tryz.f81];refine cf Tryz.func116 rfl (xP e.roads e.row ?_);refine rn ?_;simp;refine yB lay S9 qp rfl (a:=f.bV) (b:=f.jj) (c:=f.bV) (d:=f.jj) (r:=false) rfl (by simp) (by simp) (.inr ⟨rfl,by simp⟩) ?_;refine rn ?_;simp;refine af.loop f.aF.length (λi s=>∃env,s=⟨env,σ,[],.no⟩/\env 2=.cp (dt f) 0/\env 3=.cp (dt f) 0/\env 5=int i) ⟨_,rfl,by simp,by simp,by simp⟩ ?_;rintro q i _ t ⟨env,rfl,g,l,j⟩ o;rcases Nat.lt_or_ge i f.aF.length with g1|g1
 . have k:(i:Int)<f.aF.length:=by omega
   have f1:-9223372036854775808<=(i:Int)+1/\(i:Int)+1<=9223372036854775807:=by omega
   refine rn ?_;simp[g,l,j,g1,k];refine cf Tryz.func117 rfl (mM (e.marks _ (List.getElem_mem g1)) ?_);refine pg ?_;simp;refine rn ?_;simp[j,f1.1,f1.2];exact o _ g1 ⟨_,rfl,by simp[g],by simp[l],by simp⟩
 . have p:¬(i:Int)<f.aF.length:=by omega
   refine rn ?_;simp[g,j,p];exact .done h
namespace WI
end WI
end Go.Proofs.YtkcceaplmgdnfaaGreatDoor
namespace Go.Proofs.YtkcceaplmgdnfaaGreatDoor
open Go.Proofs.Tryz (prog)
open Go Go.bu Go.Conc
set_option maxHeartbeats 1000000
set_option maxRecDepth 4000
variable{m:Mo}{σ:aa}{KF:cJ->aa->Prop}
theorem xe{c:AB}(a:c.lost.marks.length<1152921504606846976)(h:KF (.val (bool true)) σ):aB prog m 82 [bM c,bM c] σ KF:=by
 refine fs [] 2 Tryz.func82 rfl rfl (by rfl) (by kernel_rfl) ?_;simp[Tryz.f82];refine cf Tryz.func117 rfl (mM (e:=c.lost) a ?_);refine rn ?_;simp;exact .done h
namespace WL
abbrev UA:List Entry:=[⟨1,.take [1,4,7] false (.both 0 (.both 2 (.both 3 (.one 5 (.one 6 (.one 8 (.done)))) (.one 5 (.one 3 (.one 6 (.one 8 (.done)))))) (.one 5 (.one 2 (.one 3 (.one 6 (.one 8 (.done))))))) (.both 2 (.both 0 (.both 3 (.one 5 (.one 6 (.one 8 (.done)))) (.one 5 (.one 3 (.one 6 (.one 8 (.done)))))) (.one 5 (.one 0 (.one 3 (.one 6 (.one 8 (.done))))))) (.one 5 (.both 0 (.one 2 (.one 3 (.one 6 (.one 8 (.done))))) (.one 2 (.one 0 (.one 3 (.one 6 (.one 8 (.done))))))))))⟩]
theorem L2{w:bH}{c:AB}(M:w.aD.length<=1000)(h:KF (.val (aT {w with aD:=w.aD++[c]})) σ):aB prog m 38 [aT w,bM c] σ KF:=by
 refine aB.start lay [2] UA 2 Tryz.func38 rfl rfl (by rfl) (by kernel_rfl) ?_
 simp[Tryz.f38];refine bq.intro λn l=>?_
 simp;refine bq.intro λr s=>?_
 obtain⟨A,B,s⟩:=aa.aH s;simp[B,aa.ak];generalize f:(σ.set n (.cells (pv w))).set r (.cells [.lit (.slice none 0 0),.lit (.slice none 0 0),int 0,int 0,int 0,int 0,int 0,.lit (.slice none 0 0),.lit (.slice none 0 0)])=o;have t:o n=some (.cells (pv w)):=by subst f;exact(aa.ak _ _ (by assumption)).trans (aa.ao _ _ _)
 have C:o r=some (.cells [.lit (.slice none 0 0),.lit (.slice none 0 0),int 0,int 0,int 0,int 0,int 0,.lit (.slice none 0 0),.lit (.slice none 0 0)]):=by subst f;simp_all
 apply OG (I:=λenv p=>∃g b,env 2=.ref n 0/\env 4=.ref r 0/\p=b.set n (.cells (lu w g))/\Tok o b g 8 (w.aD.map bM++[bM c]))
 . intro j
   repeat' (first
             |apply And.intro
             | (refine aR lay rfl rfl rfl um rfl um rfl DO (by decide) (by simp;omega) (σ0:=o) (es:=[]) (xs:=w.aD.map bM) ⟨aa.le_refl _,.inr (.inl rfl)⟩ (.inr ⟨_,by simp;rfl⟩) λN D k=>?_
                have q:=k.cells;have E:=k.1 _ _ t;refine pg ?_;simp[q.1,q.2,E];refine aR lay rfl rfl rfl um rfl um rfl DO (by decide) (by simp;omega) (σ0:=o) (es:=w.aD.map bM) (xs:=[bM c]) (by simpa using k) (.inr ⟨_,by simp;rfl⟩) λg b a=>?_
                have d:=a.cells;have F:=a.1 _ _ t;refine pg ?_;simp[d.1,d.2,F,aL];exact j _ _ ⟨g,b,by simp,by simp,rfl,by simpa using a⟩))
 rintro env p ⟨g,b,G,H,rfl,a⟩
 have d:=a.cells;have J:=a.1 _ _ C;refine af.run lay [2] ?_;simp[G,H,d.2,J,aa.ak,A,aL]
 have K:(AV.agg (lu w g)).W (aT {w with aD:=w.aD++[c]}):=nC rfl λi x y u l=>by
  change (lu w (fh (w.aD++[c])))[i]?=some y at l
  rw[<-wZ w g]at l
  by_cases e:i=8
  . subst e
    cases u;cases l;have:=a.W
    grind
  . rw[List.getElem?_set_ne (Ne.symm e),u]at l
    cases l;exact .refl _
 refine .lV K (.less (λy x L=>?_) (.done h))
 have v:y≠n:=λe=>by simp_all
 have z:y≠r:=λe=>by simp_all
 rw[aa.ak _ _ z,aa.ak _ _ v];refine a.1 _ _ ?_;rw[<-f,aa.ak _ _ z,aa.ak _ _ v];exact L
end WL
theorem L3{k:ai}{c:Value}{l:List Value}(h:V k c (.agg (l.map AV.lit))):c=.agg l.toArray:=by
 generalize a:l.map AV.lit=L at h;cases h with
 | agg c _ b d=>
   congr 1;refine Array.ext' (List.ext_getElem? λi=>?_);subst a;rw[List.length_map]at b;by_cases e:i<l.length
   . have f:i<c.toList.length:=by simp_all
     rw[List.getElem?_eq_getElem f,List.getElem?_eq_getElem (by omega)];have:=d i c[i] (.lit l[i]) (by simp) (by simp[e]);have:=wu.1 this;simp[this]
   simp_all
namespace SW
abbrev UB:List Entry:=[⟨6,.take [0,1,2,3,4,5,6,7,8,9] false (.one 10 (.done))⟩,⟨11,.take [0,1,2,3,4,5,6,7,8,9] false (.one 10 (.take [11] true (.done)))⟩]
theorem sT{w:bH}(u:w.fair.Fits)(y:∀c∈w.aD,c.lost.marks.length<1152921504606846976)(D:w.aD.length<1000)(z:∀x∈w.ways,x∈im)(A:w.ways.length<1000)(h:KF (.val (bool true)) σ):aB prog m 39 [aT w,aT w] σ KF:=by
 refine fs UB 2 Tryz.func39 rfl rfl (by rfl) (by kernel_rfl) ?_;simp[Tryz.f39];refine cf Tryz.func81 rfl (xd u ?_);refine rn ?_;simp;refine af.loop w.ways.length (λi s=>∃env,s=⟨env,σ,[],.no⟩/\env 2=.cp (aT w) 0/\env 3=.cp (aT w) 0/\env 5=int i) ⟨_,rfl,by simp,by simp,by simp⟩ ?_;rintro B i _ C ⟨env,rfl,e,g,o⟩ p;refine rn ?_;simp[e,o];refine aG.intro (λd=>?_) (λd=>?_)<;>(try simp[-Int.not_lt,-Int.not_le,-Nat.not_lt,-Nat.not_le]at d)<;>(try simp[e,g,o,d])
 . obtain⟨x,j⟩:∃x,x=w.ways[i]:=⟨_,rfl⟩
   have f:=z _ (List.getElem_mem d);simp only[<-j]at f ⊢;have n:∀(k:ai) (v:Value),V k v (jQ x)->v=.agg #[.int .i64 x.a,.int .i64 x.b,.int .i64 x.bI,.int .i64 x.bV,.int .i64 x.jj]:=λk v n=>L3 (l:=[.int .i64 x.a,.int .i64 x.b,.int .i64 x.bI,.int .i64 x.bV,.int .i64 x.jj]) n
   refine kW (vx:=.agg #[.int .i64 x.a,.int .i64 x.b,.int .i64 x.bI,.int .i64 x.bV,.int .i64 x.jj]) (vy:=.agg #[.int .i64 x.a,.int .i64 x.b,.int .i64 x.bI,.int .i64 x.bV,.int .i64 x.jj]) (r:=.bool false) rfl (λk v q=>n k v (by simpa using q)) (λk v q=>n k v (by simpa using q)) ?_ ?_
   . clear n j
     simp only[im,List.mem_cons,List.not_mem_nil,or_false]at f;rcases f with rfl|rfl|rfl<;>kernel_rfl
   refine pg ?_;simp;refine rn ?_;simp[o];refine⟨by omega,p _ (by omega) ⟨_,rfl,by simp[e],by simp[g],by simp⟩⟩
 . refine af.loop w.aD.length (λi s=>∃env,s=⟨env,σ,[],.no⟩/\env 2=.cp (aT w) 0/\env 3=.cp (aT w) 0/\env 6=int i) ⟨_,rfl,by simp[e],by simp[g],by simp⟩ ?_
   rintro B i _ C ⟨env,rfl,e,g,t⟩ p;refine rn ?_;simp[e,t];refine aG.intro (λd=>?_) (λd=>?_)<;>(try simp[-Int.not_lt,-Int.not_le,-Nat.not_lt,-Nat.not_le]at d)<;>(try simp[e,g,t,d])
   . refine cf Tryz.func82 rfl (xe (c:=w.aD[i]) (y _ (List.getElem_mem d)) ?_)
     refine pg ?_;simp;refine rn ?_;simp[t];refine⟨by omega,p _ (by omega) ⟨_,rfl,by simp[e],by simp[g],by simp⟩⟩
   . exact .done h
end SW
end Go.Proofs.YtkcceaplmgdnfaaGreatDoor
namespace Go.Proofs.YtkcceaplmgdnfaaGreatDoor
open Go.Proofs.Tryz (prog)
open Go.bu Go.Conc
set_option maxHeartbeats 2000000
set_option maxRecDepth 4000
variable{m:Mo}{σ:aa}{KF:cJ->aa->Prop}
theorem CE{l:List Int}(f:l.length<=1000000000)(h:KF (.val (ints l)) σ):aB prog m 80 [ints l] σ KF:=by
 by_cases b:l=[]
 . subst b
   refine aB.thaw ?_;refine fs [] 1 Tryz.func80 rfl rfl (by rfl) (by kernel_rfl) ?_;simp[Tryz.f80];refine mU (es:=[]) (sp:=.any) (kk:=1) lay rfl dT rfl rfl ?_ (.inl rfl) (λ_=>?_) ?_
   . simp
   . have e:(BinOp.eql==BinOp.eql)=true:=rfl
     refine rn ?_;simp;exact .done (.lV (cz 1) (.done h))
   . have e:(BinOp.eql==BinOp.neq)=false:=rfl
     refine rn ?_;simp[e];refine qF lay rfl rfl rfl dT rfl dT rfl qp (by decide) (by simp) (σ0:=σ) (es:=[]) (xs:=([]:List Int).map int) (.empty σ 1) (.inl (.inr ⟨_,by simp;rfl⟩)) (by simp) λg c d=>?_
     refine rn ?_;simp;exact .done ((show kI σ c g 1 (([]:List Int).map int)by simpa using d).thaw h)
 . exact(yH b f λa c d=>d.thaw h).thaw
theorem NN{σ0 σ:aa}{a:AV}{kk:Nat}{es:List AV}(h:Tok σ0 σ a kk es)(c:es≠[]):∃sp,a=.sl kk es sp:=by
 rcases h.2 with⟨_,q⟩|q|⟨b,e,_,q,_⟩
 . exact absurd q c
 . exact⟨_,q⟩
 . exact⟨_,q⟩
namespace AD
end AD
end Go.Proofs.YtkcceaplmgdnfaaGreatDoor
namespace Go.Proofs.YtkcceaplmgdnfaaGreatDoor
open Go.Proofs.Tryz (prog)
open Go Go.bu Go.Conc
set_option maxHeartbeats 1000000
set_option maxRecDepth 4000
variable{m:Mo}{σ:aa}{KF:cJ->aa->Prop}
theorem FK{e:rv}(i:e.marks.length<=1000000000)(h:KF (.val (dw e)) σ):aB prog m 78 [dw e] σ KF:=by
 refine aB.start lay [1] [] 1 Tryz.func78 rfl rfl (by rfl) (by kernel_rfl) ?_
 simp[Tryz.f78];refine bq.intro λb hb=>?_
 simp;refine bq.intro λd hd=>?_
 obtain⟨j,c,hd⟩:=aa.aH hd;simp[c,aa.ak];refine cf Tryz.func80 rfl (CE i ?_);refine af.run lay [1] ?_;simp[j,c,aa.ak,aL];refine .less (λy x a=>?_) (.done h)
 have f:y≠b:=λe=>by rw[e,hb]at a;cases a
 have g:y≠d:=λe=>by rw[e,hd]at a;cases a
 rw[aa.ak _ _ g,aa.ak _ _ f,aa.ak _ _ g,aa.ak _ _ f];exact a
theorem Aw{l:List Way}(e:l.length<=1000)(h:KF (.val (nv l)) σ):aB prog m 79 [nv l] σ KF:=by
 refine fs [] 1 Tryz.func79 rfl rfl (by rfl) (by kernel_rfl) ?_;simp[Tryz.f79];refine mU (es:=l.map jQ) (sp:=.any) (kk:=5) lay rfl DN rfl rfl (by simp) (.inl rfl) (λa=>?_) ?_
 . have:l=[]:=by simpa using a
   subst this;have c:(BinOp.eql==BinOp.eql)=true:=rfl;refine rn ?_;simp;exact .lV (cz 5) (.done h)
 . have c:(BinOp.eql==BinOp.neq)=false:=rfl
   refine rn ?_;simp[c];refine aR lay rfl rfl rfl DN rfl DN rfl JR (by decide) (by simp only[List.length_map,List.length_nil];omega) (σ0:=σ) (es:=[]) (xs:=l.map jQ) ⟨aa.le_refl _,.inr (.inl (by simp))⟩ (.inr ⟨_,rfl⟩) λf d b=>?_
   refine rn ?_;simp;exact .lV b.W (.less b.1 (.done h))
end Go.Proofs.YtkcceaplmgdnfaaGreatDoor
