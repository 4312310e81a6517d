import Derived.Test.YtkcceaplmgdnfaaGreatDoorC31
set_option linter.all false
namespace Go.Proofs.YtkcceaplmgdnfaaGreatDoor
open Go.Proofs.Tryz (prog)
open Go.bu Go.Conc
set_option maxHeartbeats 1000000
set_option maxRecDepth 4000
variable{m:Mo}{σ:aa}{KF:cJ->aa->Prop}
theorem dH{a b c:Int}(h:KF (.val (bool (cZ a b c))) σ):aB prog m 71 [int a,int b,int c] σ KF:=by
 refine fs [] 3 Tryz.func71 rfl rfl (by rfl) (by kernel_rfl) ?_;simp[Tryz.f71];unfold cZ at h;by_cases g:b<=a
 . simp[g]
   refine .done ?_;simpa[g]using h
 . simp[g]
   refine .done ?_;simpa[g]using h
theorem il{x:Int}(h:KF (.val (ints (aC x))) σ):aB prog m 60 [u8 x] σ KF:=by
 refine fs [] 1 Tryz.func60 rfl rfl (by rfl) (by kernel_rfl) ?_
 simp[Tryz.f60];refine af.loop 6 (λk s=>∃env b,s=⟨env,b,[],.no⟩/\env 0=u8 x/\env 5=int k/\Tok σ b (env 3) 1 ((((List.range k).map λn:Nat=>(n:Int)).filter λn=>eL x n).map int)) ⟨_,_,rfl,by simp,by simp,.nil σ 1⟩ ?_
 rintro o k _ p ⟨env,b,rfl,c,d,a⟩ g
 rcases Nat.lt_or_ge k 6 with g1|g1
 . have e:(k:Int)<6:=by omega
   have q:(((List.range k).map λn:Nat=>(n:Int)).filter λn=>eL x n).length<=k:=by refine Nat.le_trans (List.length_filter_le _ _) ?_;rw[List.length_map,List.length_range];exact Nat.le_refl _
   have i:(((List.range (k+1)).map λn:Nat=>(n:Int)).filter λn=>eL x n)=(((List.range k).map λn:Nat=>(n:Int)).filter λn=>eL x n)++if eL x k then[(k:Int)]else[]:=by rw[List.range_succ,List.map_append,List.filter_append];simp[List.filter_cons]
   refine rn ?_;simp[c,d,e,sK];have j:eL x k=(B3 (x.fdiv (2 ^ min k IntKind.u8.bits)) 1==1):=by simp[eL]
   rw[<-j];cases hb:eL x k
   . simp[c,d]
     refine⟨by omega,g _ g1 ⟨_,_,rfl,by simp[c,d],by simp,?_⟩⟩
     rw[i,hb];simpa using a
   . simp[c,d]
     refine aR lay rfl rfl rfl dT rfl dT rfl qp (by decide) (by simp only[List.length_map,List.length_cons,List.length_nil];omega) (σ0:=σ) (es:=(((List.range k).map λn:Nat=>(n:Int)).filter λn=>eL x n).map int) (xs:=[int k]) (by simpa using a) (.inr ⟨_,rfl⟩) λr l f=>?_
     refine rn ?_;simp[c,d];refine⟨by omega,g _ g1 ⟨_,_,rfl,by simp[c,d],by simp,?_⟩⟩
     rw[i,hb];simpa using f
 . have:k=6:=by omega
   subst this;refine rn ?_;simp[c,d];exact .lV a.W (.less a.1 (.done h))
abbrev sL(n:Nat):List Int:=(List.range n).map λn:Nat=>(n:Int)
theorem pe{n:Nat}(j:n<=1000)(h:KF (.val (ints (sL n))) σ):aB prog m 49 [int n] σ KF:=by
 refine fs [] 1 Tryz.func49 rfl rfl (by rfl) (by kernel_rfl) ?_;simp[Tryz.f49];refine af.loop n (λk s=>∃env b,s=⟨env,b,[],.no⟩/\env 5=int n/\env 6=int k/\Tok σ b (env 3) 1 ((sL k).map int)) ⟨_,_,rfl,by simp,by simp,.nil σ 1⟩ ?_;rintro l k _ o ⟨env,b,rfl,c,d,a⟩ g;rcases Nat.lt_or_ge k n with g1|g1
 . have e:(k:Int)<n:=by omega
   have f1:-9223372036854775808<=(k:Int)+1/\(k:Int)+1<=9223372036854775807:=by omega
   refine rn ?_;simp[c,d,e];refine aR lay rfl rfl rfl dT rfl dT rfl qp (by decide) (by simp only[List.length_map,List.length_range,List.length_cons,List.length_nil];omega) (σ0:=σ) (es:=(sL k).map int) (xs:=[int k]) (by simpa using a) (.inr ⟨_,rfl⟩) λp i f=>?_
   refine rn ?_;simp[c,d];refine⟨by omega,g _ g1 ⟨_,_,rfl,by simp[c,d],by simp,?_⟩⟩;rw[show sL (k+1)=sL k++[(k:Int)]by unfold sL;rw[List.range_succ,List.map_append];rfl,List.map_append];exact f
 . have:k=n:=by omega
   subst this;refine rn ?_;simp[c,d];exact .lV a.W (.less a.1 (.done h))
theorem Lj(h:KF (.val (.agg [u8 1,u8 2,u8 4])) σ):aB prog m 101 [] σ KF:=by
 refine aB.JN lay [] [] 3 0 Tryz.func101 rfl rfl (by rfl) (by kernel_rfl) ?_;simp[Tryz.f101];refine bq.intro λc a=>?_
 simp;change af _ _ _ _ _ _ _ _ _;refine af.runN lay [] 3 ?_;simp;change af _ _ _ _ _ _ _ _ _;refine af.op rfl (bs rfl) (by simp) (λc=>by simp) (oi lay rfl Sn rfl JU (l:=[u8 1,u8 2,u8 4]) (by simp) rfl ?_);refine rn ?_;simp;refine .less ?_ (.done h);exact aa.eo (aa.le_refl _) a
theorem Eo{n:Int}{t:Nat}(b:t=if n=1 then 125 else if n=3 then 284 else 195)(h:KF (.val (.kD t (.agg []))) σ):aB prog m 149 [int n] σ KF:=by
 subst b;refine fs [] 1 Tryz.func149 rfl rfl (by rfl) (by kernel_rfl) ?_;simp[Tryz.f149];by_cases g:n=1
 . subst g
   simp;exact .done h
 . by_cases a:n=3
   . subst a
     simp;exact .done h
   . have c:(n==1)=false:=by simpa using g
     have d:(n==3)=false:=by simpa using a
     simp[c,d];refine .done ?_;simpa[g,a]using h
abbrev wJ(l:List AB):List rv:=l.map (·.lost)
theorem Ll{l:List AB}(p:l.length<=1000)(h:KF (.val (iY (wJ l))) σ):aB prog m 76 [fh l] σ KF:=by
 refine fs [] 1 Tryz.func76 rfl rfl (by rfl) (by kernel_rfl) ?_;simp[Tryz.f76];refine af.loop l.length (λk s=>∃env g,s=⟨env,g,[],.no⟩/\env 6=fh l/\env 7=int l.length/\env 8=int k/\Tok σ g (env 3) 6 ((wJ (l.take k)).map dw)) ⟨_,_,rfl,by simp,by simp,by simp,.nil σ 6⟩ ?_;rintro q k _ r ⟨env,g,rfl,c,e,f,a⟩ n;rcases Nat.lt_or_ge k l.length with g1|g1
 . have i:(k:Int)<l.length:=by omega
   refine af.runN lay [] 17 ?_;simp[c,e,f,g1,i];refine bq.intro λd hd=>?_
   simp[c,e,f];change af _ _ _ _ _ _ _ _ _;refine af.runN lay [] 1 ?_;simp[c,e,f];change af _ _ _ _ _ _ _ _ _;refine af.aV 5 (b:=d) (bM l[k]) (aa.ao _ _ _) (by simp) rfl ?_;rw[dz hd];refine rn ?_;simp[c,e,f];refine aR lay rfl rfl rfl wx rfl wx rfl JS (by decide) (by simp only[List.length_map,List.length_take,List.length_cons,List.length_nil];omega) (σ0:=σ) (es:=(wJ (l.take k)).map dw) (xs:=[dw l[k].lost]) (by simpa using a) (.inr ⟨_,rfl⟩) λt o j=>?_
   refine rn ?_;simp[c,e,f];refine⟨by omega,n _ g1 ⟨_,_,rfl,by simp[c,e,f],by simp[c,e,f],by simp,?_⟩⟩;rw[show(wJ (l.take (k+1))).map dw=(wJ (l.take k)).map dw++[dw l[k].lost]by unfold wJ;rw[List.take_succ_eq_append_getElem g1,List.map_append,List.map_append];rfl];exact j
 . have:k=l.length:=by omega
   subst this;refine rn ?_;simp[c,e,f];rw[List.take_length]at a;exact .lV a.W (.less a.1 (.done h))
theorem xN{l:List rv}(f:l.length<=1000)(h:∀a σ',Tok σ σ' a 6 (l.map dw)->KF (.val a) σ'):aB prog m 115 [iY l] σ KF:=by
 refine fs [] 1 Tryz.func115 rfl rfl (by rfl) (by kernel_rfl) ?_;simp[Tryz.f115];refine mU (es:=l.map dw) (sp:=.any) (kk:=6) lay rfl wx rfl rfl (by simp) (.inl rfl) (λb=>?_) ?_
 . have:l=[]:=by simpa using b
   subst this;have c:(BinOp.eql==BinOp.eql)=true:=rfl;refine rn ?_;simp[c];exact .done (h _ _ (.nil σ 6))
 . have c:(BinOp.eql==BinOp.neq)=false:=rfl
   refine rn ?_;simp[c];refine aR lay rfl rfl rfl wx rfl wx rfl JS (by decide) (by simp only[List.length_map,List.length_nil];omega) (σ0:=σ) (es:=[]) (xs:=l.map dw) ⟨aa.le_refl _,.inr (.inl (by simp))⟩ (.inr ⟨_,rfl⟩) λg e d=>?_
   refine rn ?_;simp;exact .done (h _ _ (by simpa using d))
theorem Ch{f:Fr}{l:List rv}(u:f.aF.length+l.length<=1000)(h:KF (.val (dt {f with aF:=f.aF++l})) σ):aB prog m 75 [dt f,iY l] σ KF:=by
 refine aB.start lay [2] [] 2 Tryz.func75 rfl rfl (by rfl) (by kernel_rfl) ?_
 simp[Tryz.f75];refine bq.intro λb hb=>?_
 simp;refine bq.intro λd hd=>?_
 obtain⟨k,n,hd⟩:=aa.aH hd;simp[k,n,aa.ak];refine cf Tryz.func115 rfl (xN (by omega) λa q r=>?_)
 refine af.run lay [2] ?_;simp;refine aR lay rfl rfl rfl wx rfl wx rfl JS (by decide) (by simp only[List.length_map];omega) (es:=f.aF.map dw) (xs:=l.map dw) r (.inr ⟨_,rfl⟩) λa' i g=>?_
 rw[<-List.map_append]at g;generalize f.aF++l=L at h g;refine af.CS 9 (a':=iY L) (by simpa using g.W) ?_
 have s:i b=some (.cells (B1 f)):=g.1 _ _ (by simp[k,n,aa.ak])
 have t:i d=some (.cells [.lit (.slice none 0 0),.lit (.slice none 0 0),int 0,int 0,int 0,int 0]):=g.1 _ _ (by simp[k,n,aa.ak])
 refine af.run lay [2] ?_;simp[s,t,k,n,aa.ak];refine .less (λc x j=>?_) (.done h)
 have o:c≠b:=λe=>by rw[e,hb]at j;cases j
 have p:c≠d:=λe=>by rw[e,hd]at j;cases j
 rw[aa.ak _ _ p,aa.ak _ _ o];exact g.1 _ _ (by rw[aa.ak _ _ p,aa.ak _ _ o];exact j)
theorem wM(h:KF (.val (int 0)) σ):aB prog m 69 [.lit .nilIface] σ KF:=by
 refine fs [] 1 Tryz.func69 rfl rfl (by rfl) (by kernel_rfl) ?_;simp[Tryz.f69];refine bq.intro λb hb=>?_
 simp;refine cf Tryz.func111 rfl (Ox ?_);refine rn ?_;simp;exact .less (by repeat (first|exact aa.le_refl _|assumption|refine aa.eo ?_ (by assumption)|refine aa.kJ ?_ (by assumption))) (.done h)
theorem pT{f:Fr}(a:f.Fits)(b:check f=0)(h:KF (.val (.lit .nilIface)) σ):aB prog m 70 [dt f] σ KF:=by
 refine fs [] 1 Tryz.func70 rfl rfl (by rfl) (by kernel_rfl) ?_;simp[Tryz.f70];refine cf Tryz.func112 rfl (Ca a ?_);refine rn ?_;simp[b];exact .done h
def Ae(t:Int)(x:Way):Int:=if cZ x.a 0 (t-1)=false then 3 else if cZ x.b 0 (t-1)=false then 3 else if x.a=x.b then 8 else if cZ x.bI 1 12=false then 1 else if cZ x.bV 0 72=false then 1 else if cZ x.jj 0 72=false then 1 else if x.bV>x.jj then 5 else 0
theorem Af{x:Way}{t:Int}(i:0<=t/\t<=100)(h:KF (.val (int (Ae t x))) σ):aB prog m 72 [jQ x,int t] σ KF:=by
 unfold Ae at h;refine fs [] 2 Tryz.func72 rfl rfl (by rfl) (by kernel_rfl) ?_;simp[Tryz.f72];refine⟨by omega,?_⟩;refine cf Tryz.func71 rfl (dH ?_);refine rn ?_;simp;refine qJ.intro (λa=>?_) (λa=>?_)<;>(try simp[-Int.not_lt,-Int.not_le,-Nat.not_lt,-Nat.not_le]at a)<;>(try simp[a]at h)<;>(try simp[a])<;>(try exact .done h);refine⟨by omega,?_⟩;refine cf Tryz.func71 rfl (dH ?_);refine rn ?_;simp;refine aG.intro (λb=>?_) (λb=>?_)<;>(try simp[-Int.not_lt,-Int.not_le,-Nat.not_lt,-Nat.not_le]at b)<;>(try simp[b]at h)<;>(try simp[b])<;>(try exact .done h);refine aG.intro (λc=>?_) (λc=>?_)<;>(try simp[-Int.not_lt,-Int.not_le,-Nat.not_lt,-Nat.not_le]at c)<;>(try simp[c]at h)<;>(try simp[c])<;>(try exact .done h)
 refine cf Tryz.func71 rfl (dH ?_);refine rn ?_;simp;refine qJ.intro (λd=>?_) (λd=>?_)<;>(try simp[-Int.not_lt,-Int.not_le,-Nat.not_lt,-Nat.not_le]at d)<;>(try simp[d]at h)<;>(try simp[d])<;>(try exact .done h);refine cf Tryz.func71 rfl (dH ?_);refine rn ?_;simp;refine qJ.intro (λe=>?_) (λe=>?_)<;>(try simp[-Int.not_lt,-Int.not_le,-Nat.not_lt,-Nat.not_le]at e)<;>(try simp[e]at h)<;>(try simp[e])<;>(try exact .done h);refine cf Tryz.func71 rfl (dH ?_);refine rn ?_;simp;refine aG.intro (λf=>?_) (λf=>?_)<;>(try simp[-Int.not_lt,-Int.not_le,-Nat.not_lt,-Nat.not_le]at f)<;>(try simp[f]at h)<;>(try simp[f])<;>(try exact .done h);refine aG.intro (λg=>?_) (λg=>?_)<;>(try simp[-Int.not_lt,-Int.not_le,-Nat.not_lt,-Nat.not_le]at g)<;>(try simp[g]at h)<;>(try simp[g])<;>(try exact .done h)
theorem Fy:∀{es:List AV},(∀a∈es,a.cells=[a])->flatten es=es
 |[],_=>rfl
 |a::es,h=>by rw[flatten_cons,h a (List.mem_cons_self ..),Fy λx b=>h x (List.mem_cons_of_mem _ b)];rfl
theorem Lm{es d:List AV}{sp:cQ}(h:es.length=d.length)(p:∀a∈es,a.cells=[a])(f:∀a∈d,a.cells=[a])(q:∀(i:Nat) a a',es[i]?=some a->d[i]?=some a'->a.W a'):(AV.sl 1 es sp).W (.sl 1 d .any):=λk x r=>by
 cases r with
 | sl b off cap w N E _ _ c m s t y n o z=>
   rw[Fy p]at n o;rw[h]at m ⊢;refine .sl b off cap 1 N E d .any c m s t (λe u=>by rw[f e u];rfl) (λj g=>?_) (λj a l=>?_) trivial
   . rw[Fy f]at g
     exact n j (by omega)
   . rw[Fy f]at l
     have g:j<es.length:=by rw[h];exact(List.getElem?_eq_some_iff.1 l).1
     exact q j es[j] a (by simp[g]) l k _ (o j _ (by simp[g]))
 | slnil v=>
   have:d=[]:=by cases d with|nil=>rfl|cons _ _=>simp at h
   subst this;exact .slnil v 1 .any (.inl rfl)
theorem nC{l d:List AV}(f:l.length=d.length)(g:∀(i:Nat) a a',l[i]?=some a->d[i]?=some a'->a.W a'):(AV.agg l).W (.agg d):=λk x h=>by
 cases h with
 | agg c _ n j=>
   refine .agg c d (by omega) λi v a' m b=>?_
   have e:i<l.length:=by rw[f];exact(List.getElem?_eq_some_iff.1 b).1
   exact g i l[i] a' (by simp[e]) b k v (j i v _ m (by simp[e]))
theorem rH{g:rv->Int}:∀{l:List rv},(∀e∈l,g e=0)->eR g l=0
 |[],_=>rfl
 | a::l,h=>by
   unfold eR;rw[if_pos (h a (by simp))];exact rH λe b=>h e (by simp[b])
end Go.Proofs.YtkcceaplmgdnfaaGreatDoor
namespace Go.Proofs.YtkcceaplmgdnfaaGreatDoor
open Go.Proofs.Tryz (prog)
open Go.bu Go.Conc
set_option maxHeartbeats 2000000
set_option maxRecDepth 4000
theorem Ln{f:Fr}(b:f.Good)(e:rv):c5 f e≠[]:=by
 unfold c5 jG;have:=b.le;by_cases a:e.pr=0
 . simp[a]
 . have c:(f.jj-f.bV+1).toNat=(f.jj-f.bV).toNat+1:=by omega
   rw[if_pos a,c,List.range_succ_eq_map];split<;>simp
def Lp(f:Fr)(l:List Int):List Int:=(c5 f (cx f (l.getD 0 0))).filter λh=>l.all λj=>decide (h∈c5 f (cx f j))
theorem Ci{f:Fr}{l:List Int}(b:l≠[]):jl f l=Lp f l:=by
 match l,b with
 | a::r,_=>
   simp only[jl,Lp,gM,List.map_cons,List.getD_cons_zero];refine List.filter_congr λx c=>?_
   simp[c]
theorem rI(f:Fr):∀(l:List Int) (p:Option Int),(∀x∈l,0<=x/\x<f.aF.length)->l.Pairwise (·<·)->(∀q,p=some q->∀x∈l,q<x)->gS f p l=0
 |[],_,_,_,_=>rfl
 | a :: l,p,d,e,g=>by
   have h:=d a (by simp);have b:=List.pairwise_cons.1 e;have i:cZ a 0 (f.aF.length-1)=true:=by simp[cZ,h.1];omega
   have j:pP p a=false:=by
    cases p with
    |none=>rfl
    | some q=>
      have:=g q rfl a (by simp);simp[pP];omega
   unfold gS;rw[i,if_neg (by simp),j,if_neg (by simp)];exact rI f l (some a) (λx c=>d x (by simp[c])) b.2 (λq k x c=>by cases k;exact b.1 x c)
end Go.Proofs.YtkcceaplmgdnfaaGreatDoor
namespace Go.Proofs.YtkcceaplmgdnfaaGreatDoor
open Go.Proofs.Tryz (prog)
open Go.bu Go.Conc
set_option maxHeartbeats 1000000
set_option maxRecDepth 4000
section
variable{k:Int->Int}
end
theorem PF:∀a:Fin 32,∀b:Fin 32,∀c:Fin 32,cU (a.val:Int) (c.val:Int)<=cU (a.val:Int) (b.val:Int)+cU (b.val:Int) (c.val:Int):=by decide +kernel
theorem sM{l:List Int}(h:sI none l=0):∃a:Fin 32,aW l=(a.val:Int):=by have:=ot (uJ h);exact⟨⟨(aW l).toNat,by omega⟩,by show aW l=((aW l).toNat:Int);omega⟩
def Fit(f:Fr)(a b:Int):Prop:=nA f a b=false
theorem Fr.Good.XO{f:Fr}(b:f.Good){i j k:Nat}(c:i<f.roads.length)(d:j<f.roads.length)(e:k<f.roads.length):rd f.roads i k<=rd f.roads i j+rd f.roads j k:=by
 have h:=b.Tr;unfold kX at h;split at h
 . cases h
 split at h
 . cases h
 split at h
 . next q=>exact absurd h q
 split at h
 . cases h
 next q=>
 simp only[List.any_eq_true,List.mem_range,not_exists,not_and]at q;have a:=q i c k e;unfold eI at a;simp only[Bool.or_eq_true,not_or,List.any_eq_true,List.mem_range,not_exists,not_and,decide_eq_true_eq]at a;have:=a.2 j d;omega
theorem wO{f:Fr}{n:Int}(h:0<=n/\n<f.aF.length):cx f n∈f.aF:=by
 have:n.toNat<f.aF.length:=by omega
 rw[rE this];exact List.getElem_mem this
theorem QH{f:Fr}(d:f.Good){a b c:Int}(q:0<=a/\a<f.aF.length)(hb:0<=b/\b<f.aF.length)(r:0<=c/\c<f.aF.length)(e:Fit f a b)(g:Fit f b c):Fit f a c:=by
 have h:=yE (d.Nr _ (wO q));have l:=yE (d.Nr _ (wO hb));have m:=yE (d.Nr _ (wO r));have hd:=d.oZ;obtain⟨A,n⟩:=sM h.2.2.2.2.2;obtain⟨B,o⟩:=sM l.2.2.2.2.2;obtain⟨C,p⟩:=sM m.2.2.2.2.2;have s:=PF A B C;have u:=h.2.1;have v:=l.2.1;have pc:=m.2.1;have w:=d.XO (i:=(cx f a).place.toNat) (j:=(cx f b).place.toNat) (k:=(cx f c).place.toNat) (by omega) (by omega) (by omega);unfold Fit nA at e g ⊢;rw[n,o]at e;rw[o,p]at g;rw[n,p];simp only[decide_eq_false_iff_not]at e g ⊢;have t:f.oZ*cU (A.val:Int) (C.val:Int)<=f.oZ*(cU (A.val:Int) (B.val:Int)+cU (B.val:Int) (C.val:Int)):=Int.mul_le_mul_of_nonneg_left s (by omega);rw[Int.mul_add]at t;omega
theorem ND{f:Fr}{l:List Int}(b:l≠[]){h:Int}:h∈jl f l↔∀j∈l,h∈c5 f (cx f j):=by
 rw[Ci b]
 match l,b with
 |a::r,_=>simp only[Lp,List.mem_filter,List.all_eq_true,decide_eq_true_eq];exact⟨λq=>q.2,λq=>⟨q a (by simp),q⟩⟩
theorem Lq{f:Fr}{l:List Int}:nB f l=0↔fK f (c8 f l)=false/\dU f (c8 f l)=false/\fL f (c8 f l)=false:=by unfold nB;cases fK f (c8 f l)<;>cases dU f (c8 f l)<;>cases fL f (c8 f l)<;>simp
theorem PG{f:Fr}(b:f.Good)(n:Int):nB f [n]=0:=by
 have e:c8 f [n]=[n]:=by simp[c8,fj,mJ]
 refine Lq.2 ?_;rw[e];refine⟨by simp[fK],?_,rfl⟩;unfold dU;simp only[decide_eq_false_iff_not];obtain⟨x,c⟩:=List.exists_mem_of_ne_nil _ (Ln b (cx f n));exact List.ne_nil_of_mem ((ND (by simp)).2 (λj a=>by simp at a;subst a;exact c))
theorem FA{α β:Type}{B:Nat}{g:α->List β}:∀(l:List α),(∀x∈l,(g x).length<=B)->(l.flatMap g).length<=l.length*B
 |[],_=>by simp
 | a::l,h=>by
   rw[List.flatMap_cons,List.length_append,List.length_cons,Nat.add_mul,Nat.one_mul];have c:=h a (by simp);have d:=FA l λx b=>h x (by simp[b])
   omega
theorem Cj{f:Fr}(a:f.Good)(begun:List Int):∀(fuel:Nat) (way:List Int) (many:Int) (b:List Int),(fM f begun fuel way many b).length<=6 ^ fuel
 |0,_,_,_=>by simp[fM]
 | fuel+1,way,many,b=>by
   unfold fM;refine Nat.le_trans (FA (B:=6 ^ fuel) _ λk _=>?_) ?_
   . split
     . simp
     split
     . exact Cj a begun fuel _ _ _
     . simp
   . rw[List.length_range,Nat.pow_succ,Nat.mul_comm]
     have:=a.eQ;exact Nat.mul_le_mul_left _ (by omega)
theorem Ag{f:Fr}(a:f.Good)(begun:List Int):(aK f begun).length<=46656:=by refine Nat.le_trans (Cj a begun _ _ _ _) ?_;exact Nat.pow_le_pow_right (by omega) a.qt
theorem lQ(f:Fr)(begun:List Int):∀(fuel:Nat) (way:List Int) (many:Int) (a:List Int),begun.length<=way.length->fM f begun fuel way many a=fM f [] fuel way many a
 |0,_,_,_,_=>rfl
 | fuel+1,way,many,a,h=>by
   unfold fM;congr 1;funext k;have b:¬(way.length<begun.length/\begun.getD way.length 0≠(k:Int)):=by omega
   have c:¬(way.length<([]:List Int).length/\([]:List Int).getD way.length 0≠(k:Int)):=by simp
   rw[if_neg b,if_neg c];split
   . exact lQ f begun fuel _ _ _ (by simp;omega)
   . rfl
theorem Ep{f:Fr}(b:f.Good)(e:2<=f.aF.length):aK f []=aK f [0,0]++aK f [0,1]:=by
 obtain⟨n,c⟩:∃n,f.aF.length=n+2:=⟨f.aF.length-2,by omega⟩;have g:=b.eQ;have d:(min ((0:Int)+1) f.eQ).toNat=1:=by omega
 unfold aK;rw[c];unfold fM;rw[d];simp only[List.range_succ,List.range_zero,List.nil_append,List.flatMap_cons,List.flatMap_nil,List.append_nil];simp;by_cases a:lf f (b0 0 0)=true
 . simp only[a,if_true]
   unfold fM;have e2:(min (max (0:Int) 1+1) f.eQ).toNat=1\/(min (max (0:Int) 1+1) f.eQ).toNat=2:=by omega
   rcases e2 with e2|e2
   . rw[e2]
     simp only[List.range_succ,List.range_zero,List.nil_append,List.flatMap_cons,List.flatMap_nil,List.append_nil];simp;rw[lQ f [0,0] n [0,0] _ _ (by simp)]
   . rw[e2]
     simp only[List.range_succ,List.range_zero,List.nil_append];simp;rw[lQ f [0,0] n [0,0] _ _ (by simp),lQ f [0,1] n [0,1] _ _ (by simp)]
 . simp[a]
theorem Lr{f:Fr}(a:f.Good)(d:f.aF.length<2):aK f []≠[]:=by
 have e:=a.eQ;have b:(min ((0:Int)+1) f.eQ).toNat=1:=by omega
 have c:lf f (b0 0 0)=true:=by
  have:aC (b0 0 0)=[0]:=by decide +kernel
  unfold lf;rw[this,decide_eq_true_eq];exact PG a 0
 rcases(show f.aF.length=0\/f.aF.length=1 by omega)with hn|hn
 . unfold aK;rw[hn];simp[fM]
 . unfold aK;rw[hn]
   unfold fM;rw[b];simp only[List.range_succ,List.range_zero,List.nil_append,List.flatMap_cons,List.flatMap_nil,List.append_nil];simp[c,fM]
theorem Er{f:Fr}(a:f.Good)(b:2<=f.aF.length):fX f=((aK f []).length:Int):=by
 unfold fX;rw[if_neg (by omega),Ep a b,List.length_append];omega
theorem HJ{f:Fr}(a:f.Good):0<fX f↔aK f []≠[]:=by
 by_cases b:2<=f.aF.length
 . rw[Er a b]
   cases aK f []<;>simp
 . have:=Lr a (by omega)
   have e:fX f=1:=by unfold fX;rw[if_pos (by omega)]
   rw[e];simp[this]
theorem Fr.Good.H4{f:Fr}(h:f.Good):check f=0:=by
 have c:=h.fr;have d:=h.to;have e:=h.le;have g:=h.oZ;have i:=h.eQ;have j:=h.qt;have a:(cZ f.bV 0 3 && cZ f.jj 0 3)=true:=by simp[cZ];omega
 have b:(cZ f.oZ 1 6 && cZ f.eQ 1 6)=true:=by simp[cZ];omega
 unfold Go.Proofs.YtkcceaplmgdnfaaGreatDoor.check;rw[if_neg (by simp[h.Tr]),a,if_neg (by simp),if_neg (by omega),b,if_neg (by simp),if_neg (by omega)]
 exact rH h.Nr
end Go.Proofs.YtkcceaplmgdnfaaGreatDoor
namespace Go.Proofs.YtkcceaplmgdnfaaGreatDoor
open Go.Proofs.Tryz (prog)
open Go.bu Go.Conc
set_option maxHeartbeats 1000000
set_option maxRecDepth 4000
variable{m:Mo}{σ:aa}{KF:cJ->aa->Prop}
def gn{α:Type}(g:α->Int):List α->Int
 |[]=>0
 |x::l=>if g x=0 then gn g l else g x
theorem yN{α:Type}(g:α->Int)(l:List α)(i:Nat)(h:i<l.length):gn g (l.drop i)=if g l[i]=0 then gn g (l.drop (i+1))else g l[i]:=by rw[List.drop_eq_getElem_cons h,gn]
abbrev lone(f:Fr)(e:rv):Fr:={f with aF:=[e]}
abbrev wP(w:bH):Fr:={w.fair with aF:=w.fair.aF++wJ w.aD}
def Ck(w:bH)(c:AB):Int:=if cZ c.town 0 (w.aS-1)=false then 3 else if cZ c.hour 0 72=false then 1 else if c.hour<c.lost.hour then 5 else 0
def fN(w:bH):Int:=if cZ w.aS 1 4=false then 1 else if(6:Int)<w.ways.length then 6 else if gn (Ae w.aS) w.ways≠0 then gn (Ae w.aS) w.ways else if(3:Int)<w.aD.length then 6 else if gn (Ck w) w.aD≠0 then gn (Ck w) w.aD
 else if(6:Int)<(w.fair.aF.length:Int)+w.aD.length then 6 else if fX (wP w)=0 then 9 else 0
structure bH.iU(w:bH):Prop where
 fits:w.fair.Fits
 H4:check w.fair=0
 SZ:∀c∈w.aD,(lone w.fair c.lost).Fits/\check (lone w.fair c.lost)=0
 ways:w.ways.length<1152921504606846976
 aD:w.aD.length<1152921504606846976
theorem PH{es:List AV}{sp:cQ}{l:List AV}:(AV.agg (.sl 6 es sp::l)).W (.agg (.sl 6 es .any::l)):=nC rfl λi x y b a=>by
 cases i with
 |zero=>simp at b a;subst b;subst a;exact bQ _ _ _
 |succ i=>simp at b a;rw[b]at a;cases a;exact .refl _
theorem Ah{w:bH}{c:AB}(j:0<=w.aS/\w.aS<=100)(f:(lone w.fair c.lost).Fits)(g:check (lone w.fair c.lost)=0)(h:KF (.val (int (Ck w c))) σ):aB prog m 73 [aT w,bM c] σ KF:=by
 unfold Ck at h;have i:Wl [AV.agg [.sl 6 [dw c.lost] .exact,rows w.fair.roads,int w.fair.bV,int w.fair.jj,int w.fair.oZ,int w.fair.eQ]] [dt (lone w.fair c.lost)]:=.cons PH .nil;refine aB.thaw ?_;refine fs [] 2 Tryz.func73 rfl rfl (by rfl) (by kernel_rfl) ?_;simp[Tryz.f73];refine bq.intro λb hb=>?_
 simp;refine aM Tryz.func70 rfl rfl i (pT f g ?_);refine rn ?_;simp;refine cf Tryz.func69 rfl (wM ?_);refine rn ?_;simp
 replace h:=ml.less (aa.eo (b:=b) (x:=.cells [.sl 6 [dw c.lost] .exact,rows w.fair.roads,int w.fair.bV,int w.fair.jj,int w.fair.oZ,int w.fair.eQ]) (aa.le_refl _) hb) (.done h)
 refine⟨by omega,?_⟩;refine cf Tryz.func71 rfl (dH ?_);refine rn ?_;simp;refine aG.intro (λa=>?_) (λa=>?_)<;>(try simp[-Int.not_lt,-Int.not_le,-Nat.not_lt,-Nat.not_le]at a)<;>(try simp[a]at h)<;>(try simp[a])<;>(try exact .done h);refine cf Tryz.func71 rfl (dH ?_);refine rn ?_;simp;refine aG.intro (λd=>?_) (λd=>?_)<;>(try simp[-Int.not_lt,-Int.not_le,-Nat.not_lt,-Nat.not_le]at d)<;>(try simp[d]at h)<;>(try simp[d])<;>(try exact .done h);refine aG.intro (λe=>?_) (λe=>?_)<;>(try simp[-Int.not_lt,-Int.not_le,-Nat.not_lt,-Nat.not_le]at e)<;>(try simp[e]at h)<;>(try simp[e])<;>(try exact .done h)
theorem wQ{w:bH}(b:w.iU)(f:w.fair.aF.length+w.aD.length<=6):(wP w).Good:=by
 have a:=Fr.uo b.fits b.H4;refine⟨⟨?_,a.fits.roads,a.fits.row,λe he=>?_⟩,a.fr,a.to,a.le,a.oZ,a.eQ,?_,λe he=>?_,a.Tr⟩
 . grind
 . rcases List.mem_append.1 he with he|he
   . exact a.fits.marks e he
   . obtain⟨c,d,rfl⟩:=List.mem_map.1 he
     exact(b.SZ c d).1.marks _ (List.mem_singleton.2 rfl)
 . simp_all
 . rcases List.mem_append.1 he with he|he
   . exact a.Nr e he
   . obtain⟨c,d,rfl⟩:=List.mem_map.1 he
     exact(Fr.uo (b.SZ c d).1 (b.SZ c d).2).Nr _ (List.mem_singleton.2 rfl)
theorem fP{w:bH}(D:m.solo=true)(e:w.iU)(h:KF (.val (int (fN w))) σ):aB prog m 33 [aT w] σ KF:=by
 have E:=e.ways;have F:=e.aD;unfold fN at h;refine fs Ul 1 Tryz.func33 rfl rfl (by rfl) (by kernel_rfl) ?_;simp[Tryz.f33];refine cf Tryz.func70 rfl (pT e.fits e.H4 ?_);refine rn ?_;simp;refine cf Tryz.func69 rfl (wM ?_);refine rn ?_;simp;refine cf Tryz.func71 rfl (dH ?_);refine rn ?_;simp;refine aG.intro (λp=>?_) (λp=>?_)<;>(try simp[-Int.not_lt,-Int.not_le,-Nat.not_lt,-Nat.not_le]at p)<;>(try simp[p]at h)<;>(try simp[p])<;>(try exact .done h);have I:=dc p;refine aG.intro (λv=>?_) (λv=>?_)<;>(try simp[-Int.not_lt,-Int.not_le,-Nat.not_lt,-Nat.not_le]at v)<;>(try simp[v]at h)<;>(try simp[v])<;>(try exact .done h);refine af.loop w.ways.length (λk s=>∃env,s=⟨env,σ,[],.no⟩/\env 1=.cp (aT w) 0/\env 28=nv w.ways/\env 29=int w.ways.length/\env 30=int k/\gn (Ae w.aS) w.ways=gn (Ae w.aS) (w.ways.drop k)) ⟨_,rfl,by simp⟩ ?_;rintro G k _ H ⟨env,rfl,c,q,r,g,a⟩ C
 refine af.runN lay [] 17 ?_;simp[r,g];refine aG.intro (λx=>?_) (λx=>?_)<;>(try simp[-Int.not_lt,-Int.not_le,-Nat.not_lt,-Nat.not_le]at x)<;>(try simp[c,q,g,x])
 . rw[yN _ _ k x]at a
   refine bq.intro λd hd=>?_
   simp;change af _ _ _ _ _ _ _ _ _;refine af.runN lay [] 1 ?_;simp;change af _ _ _ _ _ _ _ _ _;refine af.aV 5 (b:=d) (jQ w.ways[k]) (aa.ao _ _ _) (by simp) rfl ?_;rw[dz hd];refine rn ?_;simp[c];refine cf Tryz.func72 rfl (Af (by omega) ?_);refine rn ?_;simp;refine aG.intro (λj=>?_) (λj=>?_)<;>(try simp[-Int.not_lt,-Int.not_le,-Nat.not_lt,-Nat.not_le]at j)<;>(try simp[g,j])
   . rw[if_neg j]at a
     simp[a,j]at h;exact .done h
   . rw[if_pos j]at a
     refine⟨by omega,C _ (by omega) ⟨_,rfl,by simp[c],by simp[q],by simp[r],by simp,a⟩⟩
 . have ek:k=w.ways.length:=by omega
   subst ek;rw[List.drop_length]at a;rw[show gn (Ae w.aS) []=0 from rfl]at a;simp[a]at h;refine aG.intro (λy=>?_) (λy=>?_)<;>(try simp[-Int.not_lt,-Int.not_le,-Nat.not_lt,-Nat.not_le]at y)<;>(try simp[y]at h)<;>(try simp[y])<;>(try exact .done h)
   . refine rn ?_
     simp;exact .done h
   refine rn ?_;simp[c];refine af.loop w.aD.length (λk s=>∃env,s=⟨env,σ,[],.no⟩/\env 1=.cp (aT w) 0/\env 47=fh w.aD/\env 48=int w.aD.length/\env 49=int k/\gn (Ck w) w.aD=gn (Ck w) (w.aD.drop k)) ⟨_,rfl,by simp[c]⟩ ?_;rintro G k _ H ⟨env,rfl,c,t,u,i,a⟩ C;refine af.runN lay [] 17 ?_;simp[u,i];refine aG.intro (λl=>?_) (λl=>?_)<;>(try simp[-Int.not_lt,-Int.not_le,-Nat.not_lt,-Nat.not_le]at l)<;>(try simp[c,t,i,l])
   . rw[yN _ _ k l]at a
     refine bq.intro λd hd=>?_
     simp;change af _ _ _ _ _ _ _ _ _;refine af.runN lay [] 1 ?_;simp;change af _ _ _ _ _ _ _ _ _;refine af.aV 8 (b:=d) (bM w.aD[k]) (aa.ao _ _ _) (by simp) rfl ?_;rw[dz hd];refine rn ?_;simp[c];refine cf Tryz.func73 rfl (Ah (by omega) (e.SZ _ (List.getElem_mem l)).1 (e.SZ _ (List.getElem_mem l)).2 ?_);refine rn ?_;simp;refine aG.intro (λo=>?_) (λo=>?_)<;>(try simp[-Int.not_lt,-Int.not_le,-Nat.not_lt,-Nat.not_le]at o)<;>(try simp[i,o])
     . rw[if_neg o]at a
       simp[a,o]at h;exact .done h
     . rw[if_pos o]at a
       refine⟨by omega,C _ (by omega) ⟨_,rfl,by simp[c],by simp[t],by simp[u],by simp,a⟩⟩
   . have ek:k=w.aD.length:=by omega
     subst ek;rw[List.drop_length]at a;rw[show gn (Ck w) []=0 from rfl]at a;simp[a]at h;have J:=(Fr.uo e.fits e.H4).qt;have f1:-9223372036854775808<=(w.fair.aF.length:Int)+w.aD.length/\(w.fair.aF.length:Int)+w.aD.length<=9223372036854775807:=by omega
     refine rn ?_;simp[f1.1,f1.2];refine aG.intro (λz=>?_) (λz=>?_)<;>(try simp[-Int.not_lt,-Int.not_le,-Nat.not_lt,-Nat.not_le]at z)<;>(try simp[z]at h)<;>(try simp[c,z])<;>(try exact .done h);have A:=wQ e (by omega);refine cf Tryz.func76 rfl (Ll (by omega) ?_);refine pg ?_;simp;refine cf Tryz.func75 rfl (Ch (by grind) ?_);refine pg ?_;simp;refine cf Tryz.func74 rfl (Li (f:=wP w) D A.fits A.H4 ⟨Nat.lt_of_le_of_lt (Ag A _) (by decide),Nat.lt_of_le_of_lt (Ag A _) (by decide)⟩ ?_);refine pg ?_;simp;obtain⟨n,a⟩:∃n,n=fX (wP w):=⟨_,rfl⟩;rw[<-a]at h;change af _ _ _ _ _ _ _ _ _;simp only[<-a];refine rn ?_;simp;refine aG.intro (λB=>?_) (λB=>?_)<;>(try simp[-Int.not_lt,-Int.not_le,-Nat.not_lt,-Nat.not_le]at B)<;>(try simp[B]at h)<;>(try simp[B])<;>(try exact .done h)
end Go.Proofs.YtkcceaplmgdnfaaGreatDoor
namespace Go.Proofs.YtkcceaplmgdnfaaGreatDoor
open Go.Proofs.Tryz (prog)
open Go.bu Go.Conc
set_option maxHeartbeats 1000000
set_option maxRecDepth 4000
theorem wR{o:ai}{fb mb:Nat}{A:bt}{j:Nat}{w:bH}{c:AB}{p q r:AV}{hole:List Nat}(D:∀i∈hole,9<=i)(E:A.fb=fb/\A.mb=mb/\A.fo=9/\A.nm=nn/\A.ng=ng/\A.dir=true)(L:j<3)(s:∀x,A.GI x↔x=.map [])(F:w.ways.length<1152921504606846976)(t:∀x∈w.ways,pQ w.aS x)(G:1<=w.aS/\w.aS<=4)(H:0<=c.town/\c.town<w.aS)(y:0<=c.hour/\c.hour<=72)
 (z:A.val j=.int .i64 ((o0 w.ways w.aS.toNat c.town c.hour).getD 0 0)){body:Code}(hb:Tryz.f90.body=some body):
 af prog (gg prog A j) 90 25 none Su [.code body] ⟨cW [.ref A.gb 0,.cp (Np fb mb w p q r hole 0) 0,.cp (bM c) 0,.cp (int j) 0],ij A.fb,[],.told .deferred [cd prog] o⟩ (Pp prog A j Tryz.f90):=by
 obtain⟨rfl,rfl,a,d,g,e⟩:=E;simp only[Tryz.f90,Option.some.injEq]at hb;subst hb;refine rn ?_;simp;refine af.defer rfl rfl rfl rfl (by simp) rfl ?_
 refine rn ?_;simp;obtain⟨I,M,N,O,B⟩:=z7 (l:=w.ways) (n:=w.aS.toNat) (town:=c.town) (λx h=>(t x h).2.2.1) y
 rw[B]at z;refine cf Tryz.func92 rfl (DW D F t G H y λk m=>?_)
 have J:k A.fb=some .fC:=m _ _ (by simp[ij])
 rw[B];refine rn ?_;simp;have cell:A.cell j=11+j:=by unfold bt.cell;rw[a]
 have C:=@DG prog A j e;rw[a,d]at C;refine cf Tryz.func93 rfl (C (by rw[cell];simp<;>omega) J λx v h P=>?_)
 obtain rfl:=(s x).1 h;refine rn ?_;simp;refine af.defer rfl rfl rfl rfl (by simp) rfl ?_
 have K:(j:Int)<3:=by omega
 have Q:j<=2:=by omega
 refine af.runN lay [] 1 ?_;simp
 change af _ _ _ _ _ _ _ _ _
 refine af.draw lay (.take [0,1,2,3,4,5] false (.one 6 (.done))) rfl ?_;refine aI.take lay [] ?_;simp[zl,K];refine aI.one rfl (by kernel_rfl) rfl (by simp) ?_
 refine GC lay (b:=A.fb) (off:=11+j) (u:=.int .i64 I) (v0:=v) (f:=A.own j v) rfl qp rfl ?_ (by simp) rfl (by simp) (by simp[bt.own,cell]) ?_
 . simp
   exact oY _ _ _ _
 . refine gy.done ?_
   refine rn ?_;simp;exact⟨rfl,.inl rfl,⟨o,rfl⟩,Np A.fb A.mb w p q r hole 9,_,.map [],by rw[a];exact oY _ _ _ _,by rw[d,g],aa.ao _ _ _,by rw[cell,z];simp,(aa.ak _ _ (Ne.symm A.d5)).trans (aa.ao _ _ _),(s _).2 rfl,rfl⟩
end Go.Proofs.YtkcceaplmgdnfaaGreatDoor
namespace Go.Proofs.YtkcceaplmgdnfaaGreatDoor
open Go.Proofs.Tryz (prog)
open Go.bu Go.Conc
set_option maxHeartbeats 1000000
set_option maxRecDepth 4000
variable{m:Mo}{σ:aa}{KF:cJ->aa->Prop}
theorem Ls:lq prog nn:=⟨⟨_,_,Tryz.func93,rfl,rfl,rfl⟩,⟨_,_,Tryz.func94,rfl,rfl,rfl⟩⟩
def wT(w:bH):Prop:=w.aD.length<=3/\∀c∈w.aD,(0<=c.town/\c.town<w.aS)/\0<=c.hour/\c.hour<=72
def OC(w:bH)(c:AB):Int:=(o0 w.ways w.aS.toNat c.town c.hour).getD 0 0
def cM(w:bH)(j:Nat):Int:=match w.aD[j]? with|some c=>OC w c|none=>0
abbrev pw(fb mb:Nat)(w:bH)(o:Nat):AV:=Np fb mb w (int (cM w 0)) (int (cM w 1)) (int (cM w 2)) [9,10] o
structure HK(σ:aa)(fb mb:Nat)(w:bH)(σ':aa):Prop where
 f0:σ fb=none
 m0:σ mb=none
 ne:fb≠mb
 eq:σ'=(σ.set mb (lX (nW .u8) [])).set fb (.part (bo 9))
def tN(n:Nat):List Nat:=[9,10]++(List.range n).map (11+·)
abbrev Ut(mb:Nat)(w:bH):List AV:=[iY w.fair.aF,rows w.fair.roads,int w.fair.bV,int w.fair.jj,int w.fair.oZ,int w.fair.eQ,int w.aS,nv w.ways,fh w.aD,.lit (.int .i32 0),.lit (.int .u32 0),int 0,int 0,int 0,.map mb]
abbrev PI(fb mb:Nat)(w:bH)(o:Nat):AV:=Np fb mb w (int 0) (int 0) (int 0) (tN w.aD.length) o
def QI(n:Nat):Nat->Option Value:=λi=>if i=9 then some (.int .i32 0)else if i=10 then some (.int .u32 0)else if 11<=i/\i<11+n then some (.int .i64 0)else none
theorem mK{n i:Nat}:i∈tN n↔i=9\/i=10\/11<=i/\i<11+n:=by
 unfold tN;rw[List.mem_append,List.mem_map];constructor
 . grind
 . rintro(h|h|h)
   . simp_all
   . simp_all
   . exact .inr ⟨i-11,List.mem_range.2 (by omega),by omega⟩
theorem Lt{n i:Nat}(h:i∈tN n):9<=i:=by have:=mK.1 h;omega
theorem PJ{n mb:Nat}{w:bH}(h:n<=3)(i:Nat)(v:Value)(a:QI n i=some v):(Ut mb w)[i]?=some (.lit v):=by
 unfold QI at a;split at a
 . simp_all
 split at a
 . simp_all
 split at a
 . next e=>
   cases a;have:i=11\/i=12\/i=13:=by omega
   rcases this with rfl|rfl|rfl<;>rfl
 . cases a
theorem Lu(n i:Nat):QI n i=none↔i∉tN n:=by
 rw[mK];unfold QI
 grind
theorem rJ{w:bH}(hs:m.solo=true)(hl:w.ways.length<1152921504606846976)(hw:∀x∈w.ways,pQ w.aS x)(hn:1<=w.aS/\w.aS<=4)(hc:wT w)(hK:∀σ' fb mb,HK σ fb mb w σ'->KF (.val (pw fb mb w 0)) σ'):aB prog m 48 [aT w] σ KF:=by
 have h3:=hc.1;refine aB.start lay [10] [] 1 Tryz.func48 rfl rfl (by rfl) (by kernel_rfl) ?_;simp[Tryz.f48];refine th (nW .u8) rfl λmb xI=>?_
 refine af.run lay [10] ?_;simp[aL];refine bq.intro λfb S=>?_
 simp;obtain⟨fm,mf,I⟩:=aa.aH S;refine bq.intro λbw B=>?_
 obtain⟨wf,T,B⟩:=aa.aH B;obtain⟨wm,mw,B⟩:=aa.aH B;simp;refine bq.intro λgb o=>?_
 obtain⟨gw,wg,o⟩:=aa.aH o;obtain⟨gf,U,o⟩:=aa.aH o;obtain⟨gm,mg,o⟩:=aa.aH o;simp[wf,T,wm,mw,gw,wg,gf,U,gm,mg,fm,mf,aa.ak];refine af.part fb (Ut mb w) (tN w.aD.length) (QI w.aD.length) (bw:=bw) (l1:=[.ref fb 0]) (l2:=[PI fb mb w 0]) (by simp[aa.ak,T,U]) (PJ h3) (Lu w.aD.length) (λt=>.inl rfl) wf (by simp[aa.ak,wg]) rfl (λi a a' W h2=>?_) ?_
 . match i with
   |0=>simp at W h2;subst W;subst h2;exact .inr ⟨0,rfl,rfl⟩
   |i+1=>simp at W
 refine af.aV 3 (b:=bw) (PI fb mb w 0) (aa.ao _ _ _) (by simp) rfl ?_;refine af.mH (λe σ'=>(e 3=.cp (PI fb mb w 0) 0/\e 4=.ref gb 0/\e 15=fh w.aD/\e 16=int w.aD.length/\e 17=int 0)/\σ' fb=some (.part (QI w.aD.length))/\σ' gb=some (.cells [.lit (.int .u64 0),.lit (.int .u32 0)])/\σ' mb=some (lX (nW .u8) [])/\∀c x,σ c=some x->c≠fb/\c≠mb/\c≠gb/\σ' c=some x) ⟨by simp,by simp[aa.del,aa.set,T],by simp[aa.del,aa.set,gw,gf],by simp[aa.del,aa.set,mw,mf,mg],λc x C=>?_⟩ ?_
 . have D:c≠fb:=λe=>by simp_all
   have E:c≠mb:=λe=>by simp_all
   have P:c≠gb:=λe=>by simp_all
   have X:c≠bw:=λe=>by simp_all
   exact⟨D,E,P,by simp[aa.del,aa.set,D,E,P,X,C]⟩
 rintro env ad ⟨⟨g,h,zu,vB,d⟩,F,s2,s3,H⟩;refine af.Se hs (n:=w.aD.length) (fo:=9) (GI:=λx=>x=.map []) (λj=>.int .i64 (cM w j)) Oz OA yJ yK Ls (by omega) U fm gm s2 F rfl rfl (λj Q q=>(Lu _ _).1 q (mK.2 (.inr (.inr (by omega))))) s3 rfl rfl rfl ?_;rintro A ⟨J,rfl,Y,rfl,rfl,K,p,y,L,G⟩ Fin kd Z k0 M;refine af.mH (λe σ'=>(e 3=.cp (PI A.fb A.mb w 0) 0/\e 4=.ref A.gb 0/\e 15=fh w.aD/\e 16=int w.aD.length/\e 17=int 0)/\σ' A.fb=some .fC/\∀c x,σ c=some x->c≠A.fb/\c≠A.mb/\σ' c=some x) ⟨⟨g,h,zu,vB,d⟩,aa.ao _ _ _,λc x C=>?_⟩ ?_
 . obtain⟨D,E,P,X⟩:=H c x C
   exact⟨D,E,by simp[aa.del,aa.set,D,E,P,X]⟩
 rintro env al ⟨⟨g,h,zu,vB,d⟩,F,H⟩;refine af.Sd (λk s=>∃e σ',s=⟨e,σ',[],.told kd Z k0⟩/\(e 3=.cp (PI A.fb A.mb w 0) 0/\e 4=.ref A.gb 0/\e 15=fh w.aD/\e 16=int w.aD.length/\e 17=int k)/\σ' A.fb=some .fC/\∀c x,σ c=some x->c≠A.fb/\c≠A.mb/\σ' c=some x) ⟨_,_,rfl,⟨g,h,zu,vB,d⟩,F,H⟩ ?_ ?_
 . rintro r k _ hk ⟨env,σ',rfl,⟨g,h,zu,vB,d⟩,F,H⟩ ih
   rw[J]at hk;have z:k<w.aD.length:=by omega
   have f:(k:Int)<w.aD.length:=by omega
   refine af.runN lay [] 17 ?_;simp[g,h,zu,vB,d,z,f];refine bq.intro λD ar=>?_
   simp[g,h,zu,vB,d,z,f];refine bq.intro λE N=>?_
   obtain⟨n1,n2,N⟩:=aa.aH N;simp[g,h,zu,vB,d,z,f,n1,n2,aa.ak];change af _ _ _ _ _ _ _ _ _;refine af.runN lay [] 4 ?_;simp[g,h,zu,vB,d,z,f,n1,n2,aa.ak];change af _ _ _ _ _ _ _ _ _;refine af.aV 6 (b:=E) (bM w.aD[k]) (aa.ao _ _ _) (by simp) rfl ?_;refine af.aV 5 (b:=D) (int k) (by simp[aa.del,aa.set,n1,n2]) (by simp) rfl ?_;refine af.JG rfl (by rw[p];rfl) rfl (by simp) (by rw[p];exact Tryz.func89) rfl rfl (by simp[g,h,zu,vB,d,z,f]) ?_;refine af.runN lay [] 4 ?_;simp[g,h,zu,vB,d,z,f];change af _ _ _ _ _ _ _ _ _;have Q:A.n-(r+1)=k:=by omega
   have b1:A.fb≠D:=λe=>by simp_all
   have b2:A.fb≠E:=λe=>by simp_all
   have O:=hc.2 _ (List.getElem_mem z);refine af.NW y (hold':=Su) (first:=[]) (cap:=[.ref A.gb 0,.cp (PI A.fb A.mb w 0) 0,.cp (bM w.aD[k]) 0,.cp (int k) 0]) rfl rfl rfl (by simp) (by simp[g,h,zu,vB,d,z,f]) Tryz.func90 rfl rfl (by show(4:Nat)<=25;decide) (by simp[aa.del,aa.set,b1,b2,F]) (by kernel_rfl) (by rw[p];exact Tryz.func91) rfl rfl (by rw[K];exact Tryz.func94) rfl rfl (λk1=>?_) ?_
   . rw[Q]
     exact wR (λi hi=>Lt hi) ⟨rfl,rfl,Y,K,p,y⟩ (by omega) (λx=>by rw[L]) hl hw hn O.1 O.2 (by rw[G];simp[cM,z,OC]) rfl
   have f1:-9223372036854775808<=(k:Int)+1/\(k:Int)+1<=9223372036854775807:=by omega
   refine af.run lay [10] ?_;simp[g,h,zu,vB,d,z,f,f1.1,f1.2];refine ih _ ⟨_,_,rfl,by simp[g,h,zu,vB,d,z,f],by simp[aa.del,aa.set,b1,b2,F],λc x C=>?_⟩;obtain⟨x1,x2,x3⟩:=H c x C;have y1:c≠D:=λe=>by grind
   have y2:c≠E:=λe=>by grind
   exact⟨x1,x2,by simp[aa.del,aa.set,y1,y2,x3]⟩
 . rintro _ ⟨env,σ',rfl,⟨g,h,zu,vB,d⟩,F,H⟩
   rw[J]at d;refine af.runN lay [] 9 ?_;simp[g,h,zu,vB,d];change af _ _ _ _ _ _ _ _ _;refine af.JM y ((bu.aX (env.upd 18 (bool false)) (some 25) (.bp [])).upd 3 (.cp (pw A.fb A.mb w 0) 0)) rfl (by rw[p];rfl) rfl (by simp) (by rw[p];exact Tryz.func95) rfl rfl (by simp_all) F rfl M (λkk a7 t v R=>?_) λa ha=>?_
   . change V kk v (bu.aX (env.upd 18 (bool false)) (some 25) (.bp []) t)at R
     by_cases e:t=3
     . subst e
       rw[show(bu.aX (env.upd 18 (bool false)) (some 25) (.bp [])) 3=.cp (PI A.fb A.mb w 0) 0 by simp[g]]at R;rw[show((bu.aX (env.upd 18 (bool false)) (some 25) (.bp [])).upd 3 (.cp (pw A.fb A.mb w 0) 0)) 3=.cp (pw A.fb A.mb w 0) 0 by simp];refine V.WY rfl rfl (λu=>Nj (l:=Ut A.mb w) (hole:=tN w.aD.length) rfl λj Q av=>?_) R;by_cases hm:j∈tN w.aD.length
       . have ax:11<=j/\j<11+w.aD.length:=by
          have:=mK.1 hm
          simp_all
         refine .inr ⟨.int .i64 (cM w (j-11)),?_,rfl,?_⟩
         . have:=a7 (j-11) (by omega)
           rwa [G,show A.cell (j-11)=j by unfold bt.cell;omega]at this
         . have:j=11\/j=12\/j=13:=by omega
           rcases this with rfl|rfl|rfl<;>rfl
       . refine .inl ⟨hm,?_⟩
         have ay:j<15:=Q;have hz:∀i,w.aD.length<=i->int (cM w i)=int 0:=λi hi=>by rw[cM,List.getElem?_eq_none hi]
         have b3:¬(11<=j/\j<11+w.aD.length):=λq=>hm (mK.2 (.inr (.inr q)))
         by_cases a8:j=11
         . subst a8;simp[hz 0 (by omega)]
         by_cases a9:j=12
         . subst a9;simp[hz 1 (by omega)]
         by_cases ab:j=13
         . subst ab;simp[hz 2 (by omega)]
         have:j=0\/j=1\/j=2\/j=3\/j=4\/j=5\/j=6\/j=7\/j=8\/j=9\/j=10\/j=14:=by omega
         rcases this with rfl|rfl|rfl|rfl|rfl|rfl|rfl|rfl|rfl|rfl|rfl|rfl<;>rfl
     . simpa[Env.upd,e]using R
   . rw[L]at ha
     subst ha;refine af.run lay [10] ?_;simp[g,h,zu,vB,d];refine .less (σ':=(σ.set A.mb (lX (nW .u8) [])).set A.fb (.part (bo 9))) ?_ (.done (hK _ _ _ ⟨I,xI,fm,rfl⟩));intro c x C;by_cases c1:c=A.fb
     . simp_all
     by_cases c2:c=A.mb
     . subst c2
       rw[aa.ak _ _ c1,aa.ao]at C;rw[aa.ak _ _ c1,aa.ao];exact C
     rw[aa.ak _ _ c1,aa.ak _ _ c2]at C ⊢
     simp_all
def bW(w:bH)(bI a aD:List Int):Int:=if fN w=0 then(if bI.all (cZ · 0 72)=false then 1 else if a.all (cZ · 0 (w.fair.aF.length-1))=false then 3 else if aD.all (cZ · 0 (w.aD.length-1))=false then 3 else 0)else fN w
theorem ow{α:Type}(g:α->Int):∀{l:List α},gn g l=0->∀x∈l,g x=0
 |[],_,x,hx=>by simp at hx
 | a ::l,h,x,hx=>by
   unfold gn at h;split at h
   . next e=>
     rcases List.mem_cons.1 hx with rfl|hx
     . exact e
     . exact ow g h x hx
   omega
theorem HL{t:Int}{x:Way}(h:Ae t x=0):pQ t x:=by
 unfold Ae at h;split at h
 . cases h
 next a=>
 split at h
 . cases h
 next b=>
 split at h
 . cases h
 split at h
 . cases h
 next c=>
 split at h
 . cases h
 next d=>
 split at h
 . cases h
 next e=>
 have f:=dc (by simpa using a);have g:=dc (by simpa using b);have i:=dc (by simpa using c);have j:=dc (by simpa using d);have k:=dc (by simpa using e);unfold pQ;omega
structure bH.Valid(w:bH):Prop where
 XP:w.iU
 aS:1<=w.aS/\w.aS<=4
 way:∀x∈w.ways,pQ w.aS x
 XQ:w.ways.length<=6
 NF:wT w
 late:∀c∈w.aD,c.lost.hour<=c.hour
 qt:w.fair.aF.length+w.aD.length<=6
 some:aK (wP w) []≠[]
theorem bH.valid{w:bH}(d:w.iU)(h:fN w=0):w.Valid:=by
 unfold fN at h;split at h
 . cases h
 next f=>
 split at h
 . cases h
 next o=>
 split at h
 . omega
 next p=>
 split at h
 . cases h
 next q=>
 split at h
 . omega
 next g=>
 split at h
 . cases h
 next r=>
 split at h
 . cases h
 next i=>
 have j:=dc (a:=w.aS) (by simpa using f)
 have e:w.fair.aF.length+w.aD.length<=6:=by omega
 have b:∀c∈w.aD,((0<=c.town/\c.town<w.aS)/\0<=c.hour/\c.hour<=72)/\c.lost.hour<=c.hour:=λc b=>by
  have:=ow _ (by simpa using g) c b
  unfold Ck at this;split at this
  . cases this
  next k=>
  split at this
  . cases this
  next l=>
  split at this
  . cases this
  next s=>
  have t:=dc (by simpa using k)
  have u:=dc (by simpa using l)
  omega
 have m:=wQ d e;have v:fX (wP w)≠0:=i;refine⟨d,j,λx n=>HL (ow _ (by omega) x n),by omega,⟨by omega,λc h=>(b c h).1⟩,λc h=>(b c h).2,e,(HJ m).1 ?_⟩
 have:0<=fX (wP w):=by unfold fX;omega
 omega
theorem Es(p:Int->Bool)(l:List Int){i:Nat}(h:i<l.length):(l.drop i).all p=(p l[i] && (l.drop (i+1)).all p):=by rw[List.drop_eq_getElem_cons h,List.all_cons]
theorem fQ{w:bH}(A:m.solo=true)(y:w.iU){bI a aD:List Int}(D:bI.length<1000000/\a.length<1000000/\aD.length<1000000)
 (g:bW w bI a aD≠0->KF (.val (.bp [.lit (.pointer none),int (bW w bI a aD)])) σ)
 (r:bW w bI a aD=0->∀σ' fb mb,HK σ fb mb w σ'->KF (.val (.bp [pw fb mb w 0,int 0])) σ'):aB prog m 41 [aT w,ints bI,ints a,ints aD] σ KF:=by
 unfold bW at g r;refine fs [] 4 Tryz.func41 rfl rfl (by rfl) (by kernel_rfl) ?_;simp[Tryz.f41];refine cf Tryz.func33 rfl (fP A y ?_);refine rn ?_;simp;refine aG.intro (λt=>?_) (λt=>?_)<;>(try simp[-Int.not_lt,-Int.not_le,-Nat.not_lt,-Nat.not_le]at t)<;>(try simp[t])
 . simp[t]at g
   exact .done g
 have v:=bH.valid y t;have z:=y.ways;have E:=v.qt;simp only[t,if_true]at g r;refine af.loop bI.length (λk s=>∃env,s=⟨env,σ,[],.no⟩/\env 2=ints a/\env 3=ints aD/\env 4=.cp (aT w) 0/\env 22=ints bI/\env 23=int bI.length/\env 24=int k/\bI.all (cZ · 0 72)=(bI.drop k).all (cZ · 0 72)) ⟨_,rfl,by simp⟩ ?_;rintro F k _ x ⟨env,rfl,B,C,q,uz,H5,uA,b⟩ u;refine rn ?_;simp[H5,uA];refine aG.intro (λf=>?_) (λf=>?_)<;>(try simp[-Int.not_lt,-Int.not_le,-Nat.not_lt,-Nat.not_le]at f)<;>(try simp[B,C,uz,uA,f])
 . rw[Es _ _ f]at b
   refine cf Tryz.func71 rfl (dH ?_);refine rn ?_;simp;refine aG.intro (λd=>?_) (λd=>?_)<;>(try simp[-Int.not_lt,-Int.not_le,-Nat.not_lt,-Nat.not_le]at d)<;>(try simp[uA,d])
   . rw[d,Bool.true_and]at b
     refine⟨by omega,u _ (by omega) ⟨_,rfl,by simp[B],by simp[C],by simp[q],by simp[uz],by simp[H5],by simp,b⟩⟩
   . simp[b,d]at g
     exact .done g
 have ek:k=bI.length:=by omega
 subst ek;rw[List.drop_length,List.all_nil]at b;simp only[b,Bool.true_eq_false,if_false]at g r;refine af.sF ?_;refine rn ?_;simp;refine af.loop a.length (λk s=>∃env,s=⟨env,σ,[],.no⟩/\env 4=.cp (aT w) 0/\env 34=.sl 1 [ints a,ints aD] .exact/\env 35=int 2/\env 36=int 0/\env 13=int 0/\env 41=ints a/\env 42=int a.length/\env 43=int k/\a.all (cZ · 0 (w.fair.aF.length-1))=(a.drop k).all (cZ · 0 (w.fair.aF.length-1))) ⟨_,rfl,by simp[q]⟩ ?_;rintro G k _ x ⟨env,rfl,q,i,h,j,n,o,p,e,b⟩ u;refine af.runN lay [] 25 ?_;simp[p,e];refine aG.intro (λf=>?_) (λf=>?_)<;>(try simp[-Int.not_lt,-Int.not_le,-Nat.not_lt,-Nat.not_le]at f)<;>(try simp[q,j,o,e,f])
 . rw[Es _ _ f]at b
   refine af.op rfl (bs rfl) (by simp) (λc=>by simp) (oi lay rfl Oq rfl qp (l:=[int w.fair.aF.length,int w.aD.length]) (by simp) (by simp[jv,aL]) ?_);refine rn ?_;simp[n];refine⟨by omega,?_⟩;refine cf Tryz.func71 rfl (dH ?_);refine rn ?_;simp;refine aG.intro (λd=>?_) (λd=>?_)<;>(try simp[-Int.not_lt,-Int.not_le,-Nat.not_lt,-Nat.not_le]at d)<;>(try simp[e,d])
   . rw[d,Bool.true_and]at b
     refine⟨by omega,u _ (by omega) ⟨_,rfl,by simp[q],by simp[i],by simp[h],by simp[j],by simp[n],by simp[o],by simp[p],by simp,b⟩⟩
   . rw[d,Bool.false_and]at b
     simp only[b,if_true]at g;exact .done (g (by decide))
 have ek:k=a.length:=by omega
 subst ek;rw[List.drop_length,List.all_nil]at b;simp only[b,Bool.true_eq_false,if_false]at g r;refine af.again (by kernel_rfl) ?_;refine rn ?_;simp[i,h];refine af.loop aD.length (λk s=>∃env,s=⟨env,σ,[],.no⟩/\env 4=.cp (aT w) 0/\env 34=.sl 1 [ints a,ints aD] .exact/\env 35=int 2/\env 36=int 1/\env 13=int 1/\env 41=ints aD/\env 42=int aD.length/\env 43=int k/\aD.all (cZ · 0 (w.aD.length-1))=(aD.drop k).all (cZ · 0 (w.aD.length-1))) ⟨_,rfl,by simp[q,i,h]⟩ ?_;rintro H k _ x ⟨env,rfl,q,i,h,j,n,o,p,e,b⟩ u;refine af.runN lay [] 25 ?_;simp[p,e];refine aG.intro (λf=>?_) (λf=>?_)<;>(try simp[-Int.not_lt,-Int.not_le,-Nat.not_lt,-Nat.not_le]at f)<;>(try simp[q,j,o,e,f])
 . rw[Es _ _ f]at b
   refine af.op rfl (bs rfl) (by simp) (λc=>by simp) (oi lay rfl Oq rfl qp (l:=[int w.fair.aF.length,int w.aD.length]) (by simp) (by simp[jv,aL]) ?_);refine rn ?_;simp[n];refine⟨by omega,?_⟩;refine cf Tryz.func71 rfl (dH ?_);refine rn ?_;simp;refine aG.intro (λd=>?_) (λd=>?_)<;>(try simp[-Int.not_lt,-Int.not_le,-Nat.not_lt,-Nat.not_le]at d)<;>(try simp[e,d])
   . rw[d,Bool.true_and]at b
     refine⟨by omega,u _ (by omega) ⟨_,rfl,by simp[q],by simp[i],by simp[h],by simp[j],by simp[n],by simp[o],by simp[p],by simp,b⟩⟩
   . rw[d,Bool.false_and]at b
     simp only[b,if_true]at g;exact .done (g (by decide))
 have ek:k=aD.length:=by omega
 subst ek;rw[List.drop_length,List.all_nil]at b;simp only[b,Bool.true_eq_false,if_false]at g r;refine af.again (by kernel_rfl) ?_;refine rn ?_;simp[q,h];refine cf Tryz.func48 rfl (rJ A z v.way v.aS v.NF λσ' fb mb x=>?_);refine rn ?_;simp;exact .done (r trivial σ' fb mb x)
end Go.Proofs.YtkcceaplmgdnfaaGreatDoor
namespace Go.Proofs.YtkcceaplmgdnfaaGreatDoor
open Go.Proofs.Tryz (prog)
open Go Go.bu Go.Conc
open Go.Extern
set_option maxHeartbeats 1000000
set_option maxRecDepth 4000
variable{m:Mo}{σ:aa}{KF:cJ->aa->Prop}
abbrev S3(t:Nat):Value:=.pointer (some ⟨1,t,none⟩)
abbrev S4(t:Nat):AV:=.kD 224 (.agg [.lit (S3 t)])
theorem tO{P:Program}{t f:Nat}{name:String}{a a':AV}(h:∀k v,V k v a->∃r,dW P (Go.method (P.types.size+Made.depth) t v name)=some (f,r)/\V k r a'):mW P t name f a a':=λk O v K g b c=>by obtain⟨r,d,e⟩:=h k v b;exact nt _ d (c r e)
theorem HM{t f:Nat}{name:String}(h:∀h,dW prog (Go.method (prog.types.size+Made.depth) 224 (.agg #[h]) name)=some (f,.agg #[h])):mW prog 224 name f (.agg [.lit (S3 t)]) (.agg [.lit (S3 t)]):=tO λk v a=>by obtain⟨x,rfl,_⟩:=DJ.1 a;exact⟨_,h x,a⟩
theorem PL(k:ai)(t:Nat):V k (.iface 224 (.agg #[S3 t])) (S4 t):=Om.2 ⟨_,rfl,DJ.2 ⟨_,rfl,.lit _⟩⟩
end Go.Proofs.YtkcceaplmgdnfaaGreatDoor
