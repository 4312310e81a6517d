import Derived.Test.YtldmpfccgajobaaGreatDoorV21
set_option linter.all false
namespace Go.Proofs.YtldmpfccgajobaaGreatDoor
open Tryz (prog)
open Go.bG Go.Conc
set_option maxHeartbeats 1000000
set_option maxRecDepth 4000
variable{m:Mo}{σ:aa}{KF:eI->aa->Prop}
theorem lN(f:Fr)(begun:List Int):∀(fuel:Nat) (cG:List Int) (many:Int) (c:List Int),∀w∈dI f begun fuel cG many c,w.length=cG.length+fuel
 |0,cG,many,c,w,b=>by simp[dI]at b;subst b;rfl
 | fuel+1,cG,many,c,w,b=>by
   rw[mD,List.mem_flatMap]at b;obtain⟨k,_,a⟩:=b;unfold lM at a;split at a
   . cases a
   split at a
   . have:=lN f begun fuel _ _ _ w a
     rw[this];simp;omega
   . cases a
section
variable{b mb:Nat}{f:Fr}{Un:aa->Prop}{Ld:aa->List (Int × AV)->Prop}
def eF(x y:Int)(w:List Int):Bool:=decide (w.getD x.toNat 0=w.getD y.toNat 0)
theorem IE{w:List Int}{x y:Int}(a:0<=x/\x.toNat<w.length)(b:0<=y/\y.toNat<w.length)(h:KF (.val (bool (eF x y w))) σ):ar prog m 129 [ints w,.cp (int x) 0,.cp (int y) 0] σ KF:=by
 have c:w.getD x.toNat 0=w[x.toNat]:=by simp[List.getD_eq_getElem?_getD,a.2]
 have d:w.getD y.toNat 0=w[y.toNat]:=by simp[List.getD_eq_getElem?_getD,b.2]
 unfold eF at h;rw[c,d]at h;refine fs OM 3 Tryz.func129 rfl rfl (by rfl) (by kernel_rfl) ?_;simp[Tryz.f129,a.1,a.2,b.1,b.2];refine rn ?_;simp;refine .done ?_;by_cases q:w[x.toNat]=w[y.toNat]
 . simpa[q]using h
 . have:(w[x.toNat]==w[y.toNat])=false:=by simp[q]
   simpa[q,this]using h
theorem Ki(g:FL prog m nn b 6 mb .u8 (eU f) Un Ld)(i:f.Good){x y:Int}(d:0<=x/\x.toNat<f.aq.length)(e:0<=y/\y.toNat<f.aq.length)(hlen:(au f []).length<1152921504606846976)(j:Un σ)
 (h:∀σ',Un σ'->lI b mb σ σ'->KF (.val (int (lL (((au f []).filter (eF x y)).length:Int) (au f []).length))) σ'):ar prog m 95 [iL b mb f 0,int x,int y] σ KF:=by
 have c:∀w∈au f [],w.length=f.aq.length:=λw c=>by have:=lN f [] _ _ _ _ w c;simpa using this
 refine fs [] 3 Tryz.func95 rfl rfl (by rfl) (by kernel_rfl) ?_;simp[Tryz.f95];refine cf Tryz.func91 rfl (uX g i (p:=eF x y) ⟨rfl,rfl⟩ (λw a σ KF k=>eP Tryz.func129 rfl rfl rfl (IE ⟨d.1,by rw[c w a];exact d.2⟩ ⟨e.1,by rw[c w a];exact e.2⟩ k)) hlen j λσ' l n=>?_);refine rn ?_;simp;refine cf Tryz.func100 rfl (BS ?_);refine rn ?_;simp;exact .done (h σ' l n)
end
theorem q8(r:m.solo=true){f:Fr}{l:List Int}{sp:bV}(o:f.Fits)(p:check f=0)(s:∀n∈l,0<=n/\n<f.aq.length)(j:l.length<1152921504606846976)(g:au f []≠[])(h:∀b mb σ',b≠mb->Dc b 6 mb .u8 (eU f) σ'->σ b=none/\σ mb=none->σ.Le σ'->KF (.val (.cq [iL b mb f 0,int 0])) σ'):ar prog m 62 [aA f,.sl 1 (l.map int) sp] σ KF:=by
 have t:=Fr.mQ o p;have u:=uP p s;refine fs [] 2 Tryz.func62 rfl rfl (by rfl) (by kernel_rfl) ?_
 simp[Tryz.f62];have v:Wl [AV.agg (eS f),.sl 1 (l.map int) sp] [aA f,ints l]:=.cons (.refl _) (.cons (fC 1 _ sp) .nil);refine bi Tryz.func59 rfl rfl v (qf o j (λq=>absurd u q) λ_ b mb σ' d=>?_)
 have w:Dc b 6 mb .u8 (eU f) σ':=by rw[d.eq];exact⟨aa.an _ _ _,[],(aa.aj _ _ (Ne.symm d.ne)).trans (aa.an _ _ _),λn a h=>by simp[gn]at h⟩
 refine rn ?_;simp;refine cf Tryz.func88 rfl (yu (lH uS uT B6 r d.ne) t w λk y z=>?_)
 refine rn ?_;simp[g];refine .done (h b mb k d.ne y ⟨d.hb,d.yF⟩ λc x i=>?_)
 have A:c≠b:=λe=>by subst e;rw[d.hb]at i;cases i
 have B:c≠mb:=λe=>by subst e;rw[d.yF]at i;cases i
 exact z c x (d.le c x i) A (.inl B)
theorem Kj(k:m.solo=true){f:Fr}{x y:Int}(o:f.Fits)(p:check f=0)(a:0<=x/\x<f.aq.length)(r:0<=y/\y<f.aq.length)(d:au f []≠[])(hlen:(au f []).length<1152921504606846976)(h:KF (.val (.cq [int (lL (((au f []).filter (eF x y)).length:Int) (au f []).length),int 0])) σ):ar prog m 39 [aA f,int x,int y] σ KF:=by
 have s:=Fr.mQ o p;refine fs [] 3 Tryz.func39 rfl rfl (by rfl) (by kernel_rfl) ?_
 simp[Tryz.f39];refine cf Tryz.func62 rfl (q8 (l:=[x,y]) (sp:=.exact) k o p (λn q=>by simp at q;rcases q with rfl|rfl<;>omega) (by simp) d λb mb t i u g j=>?_)
 refine rn ?_;simp;refine cf Tryz.func95 rfl (Ki (lH uS uT B6 k i) s ⟨a.1,by omega⟩ ⟨r.1,by omega⟩ hlen u λv B w=>?_)
 refine rn ?_;simp;refine .less (λc x a=>?_) (.done h)
 have z:c≠b:=λe=>by subst e;rw[g.1]at a;cases a
 have A:c≠mb:=λe=>by subst e;rw[g.2]at a;cases a
 exact w c x (j c x a) z (.inl A)
theorem IF(l:m.solo=true){f:Fr}(j:f.Fits)(k:check f=0)(hlen:(au f [0,0]).length<1000000000/\(au f [0,1]).length<1000000000)(h:KF (.val (.cq [int (jz f),int 0])) σ):ar prog m 15 [aA f] σ KF:=by
 have o:=Fr.mQ j k;have p:=rX k;refine fs [] 1 Tryz.func15 rfl rfl (by rfl) (by kernel_rfl) ?_
 simp[Tryz.f15];have r:Wl [AV.agg (eS f),AV.lit (.slice none 0 0)] [aA f,ints []]:=.cons (.refl _) (.cons (gl 1) .nil);refine bi Tryz.func59 rfl rfl r (qf j (by simp) (λq=>absurd p q) λ_ b mb i d=>?_)
 have s:Dc b 6 mb .u8 (eU f) i:=by rw[d.eq];exact⟨aa.an _ _ _,[],(aa.aj _ _ (Ne.symm d.ne)).trans (aa.an _ _ _),λn a h=>by simp[gn]at h⟩
 refine rn ?_;simp;refine cf Tryz.func60 rfl (Aq l o hlen d.ne s λt y u=>?_)
 refine rn ?_;simp;refine .less (λc x g=>?_) (.done h)
 have v:c≠b:=λe=>by subst e;rw[d.hb]at g;cases g
 have w:c≠mb:=λe=>by subst e;rw[d.yF]at g;cases g
 exact u c x (d.le c x g) v (.inl w)
theorem Mf{f:Fr}{l:List Int}(j:f.Fits)(k:check f=0)(c:L6 f l)(i:l.length<20)(h:KF (.val (.cq [bool (decide (kU f l=0)),int 0])) σ):ar prog m 26 [aA f,ints l] σ KF:=by
 refine fs [] 2 Tryz.func26 rfl rfl (by rfl) (by kernel_rfl) ?_;simp[Tryz.f26];refine cf Tryz.func69 rfl (wQ j k c λb mb n o=>?_);refine rn ?_;simp;refine cf Tryz.func70 rfl (Hv (Fr.mQ j k) ⟨c.mem,c.ne,c.len⟩ i ?_);refine rn ?_;simp;refine mZ lay rfl Oy rfl (isNil:=decide (kU f l=0)) ?_ (.inl ⟨rfl,rfl⟩) ?_
 . by_cases g:kU f l=0
   . left
     refine⟨?_,by simp[g]⟩;simp[g];rfl
   . right
     obtain⟨d,a,e⟩:=Am g;refine⟨⟨d,a,?_⟩,by simp[g]⟩;rw[<-e];simp
 refine rn ?_;simp;exact .less o.le (.done h)
def bf(w:List Int):Int:=w.foldl (λn k=>max n (k+1)) 0
def kV:Option (List Int)->List Int->Option (List Int)
 |none,w=>some w
 |some v,w=>if bf w<bf v then some w else some v
def kW:Option (List Int)->List AV
 |none=>[.lit (.slice none 0 0),int 0,bool false]
 |some w=>[ints w,int (bf w),bool true]
theorem Kk{c:Nat}{o:Option (List Int)}{w:List Int}(a:σ c=some (.cells (kW o)))(h:∀σ',σ' c=some (.cells (kW (kV o w)))->(∀x,x≠c->σ' x=σ x)->KF (.val (.cq [])) σ'):ar prog m 64 [.ref c 0,ints w,int (bf w)] σ KF:=by
 cases o with
 | none=>
   simp only[kW]at a;refine fs [] 3 Tryz.func64 rfl rfl (by rfl) (by kernel_rfl) ?_;simp[Tryz.f64,a];refine .done (h _ (aa.an _ _ _) λx b=>?_);simp[aa.aj,b]
 | some v=>
   simp only[kW]at a;refine fs [] 3 Tryz.func64 rfl rfl (by rfl) (by kernel_rfl) ?_;simp[Tryz.f64,a];by_cases g:bf w<bf v
   . simp[aB,g,a]
     simp only[kV,if_pos g]at h;refine .done (h _ (aa.an _ _ _) λx b=>?_);simp[aa.aj,b]
   . simp[aB,g]
     simp only[kV,if_neg g]at h;exact .done (h _ a λx _=>rfl)
theorem q9(f:Fr)(begun:List Int):∀(fuel:Nat) (cG:List Int) (many:Int) (d:List Int),(∀x∈cG,0<=x/\x<f.most)->∀w∈dI f begun fuel cG many d,∀x∈w,0<=x/\x<f.most
 |0,cG,many,d,hb,w,c=>by simp[dI]at c;subst c;exact hb
 | fuel+1,cG,many,d,hb,w,c=>by
   rw[mD,List.mem_flatMap]at c;obtain⟨k,e,a⟩:=c;have:=List.mem_range.1 e;unfold lM at a;split at a
   . cases a
   split at a
   . refine q9 f begun fuel _ _ _ (λx b=>?_) w a
     rcases List.mem_append.1 b with b|b
     . exact hb x b
     . simp at b;subst b;omega
   . cases a
section
variable{b mb:Nat}{f:Fr}{Un:aa->Prop}{Ld:aa->List (Int × AV)->Prop}
theorem Fj(hs:m.solo=true){f:Fr}{w:List Int}(hf:f.Fits)(p:check f=0)(u:(au f []).foldl kV none=some w)(hlen:(au f []).length<1152921504606846976)(h:KF (.val (.cq [ints w,int (bf w),int 0])) σ):ar prog m 19 [aA f] σ KF:=by
 have P:=Fr.mQ hf p;have ad:=P.sH;have C:au f []≠[]:=λe=>by rw[e]at u;cases u
 have T:∀w∈au f [],w.length=f.aq.length:=λw u=>by have:=lN f [] _ _ _ _ w u;simpa using this
 have U:∀w∈au f [],∀x∈w,0<=x/\x<f.most:=λw u=>q9 f [] _ _ _ _ (by simp) w u
 refine fs OD 1 Tryz.func19 rfl rfl (by rfl) (by kernel_rfl) ?_
 simp[Tryz.f19];have V:Wl [aA f,AV.lit (.slice none 0 0)] [aA f,.sl 1 (([]:List Int).map int) .any]:=.cons (.refl _) (.cons (gl 1) .nil);refine bi Tryz.func62 rfl rfl V (q8 (l:=[]) (sp:=.any) hs hf p (by simp) (by simp) C λb mb d W hu D E=>?_)
 refine rn ?_;simp;have X:FL prog m nn b 6 mb .u8 (eU f) (Dc b 6 mb .u8 (eU f)) (Ru b 6 mb .u8):=lH uS uT B6 hs W;refine cZ.intro λi h7=>?_
 simp;have V:Wl [iL b mb f 0,AV.lit (.slice none 0 0)] [iL b mb f 0,ints []]:=.cons (.refl _) (.cons (gl 1) .nil);refine bi Tryz.func63 rfl rfl V (sT (begun:=[]) ?_);refine rn ?_;simp;refine ab.rangeFunc rfl λY r l G Q v=>?_
 obtain⟨a1,_,G⟩:=aa.aL G;obtain⟨a2,_,Q⟩:=aa.aL Q;have H:d r=none/\r≠i:=⟨G,a1⟩;have j:d l=none/\l≠i:=⟨Q,a2⟩;generalize I:mT.mk _ _ _ _ _ _ _ _ _=R
 have hY:Mb m (.fn (.yield l) [] []) (au f []) (λk F g=>(∀c,F c↔c=l\/c=i)/\g l=some (.loop R)/\g i=some (.cells (kW (((au f []).take k).foldl kV none)))) (λF g=>False):=by
  refine⟨λk F g av hk y hT hF=>?_,λk F Z J he y=>?_,λF Z J he y=>y.elim,λk F g c y p=>?_⟩
  . obtain⟨a,B,K⟩:=y
    have t:(au f [])[k]∈au f []:=List.getElem_mem hk
    have z:((au f []).take (k+1)).foldl kV none=kV (((au f []).take k).foldl kV none) (au f [])[k]:=by rw[List.take_succ_eq_append_getElem hk,List.foldl_append];rfl
    subst I;refine dl.xK (hold:=OD) Y Tryz.func19 B rfl ?_;refine rn ?_;simp[lX];refine ab.beginRound B rfl ?_;refine rn ?_;simp;refine cf Tryz.func65 rfl (Es (by rw[T _ t];have:=P.sH;omega) (λx s=>by have:=U _ t x s;have:=P.most;omega) ?_)
    refine rn ?_;simp;refine cf Tryz.func64 rfl (Kk (o:=((au f []).take k).foldl kV none) (w:=(au f [])[k]) ((aa.aj _ _ (Ne.symm j.2)).trans K) λJ q1 q2=>?_)
    refine rn ?_;simp;refine⟨rfl,rfl,_,((q2 l j.2).trans (aa.an _ _ _)),?_⟩;refine hT F _ (λc x p s=>⟨?_,p⟩) ⟨a,aa.an _ _ _,?_⟩
    . have p1:c≠l:=λe=>p ((a c).2 (.inl e))
      have p3:c≠i:=λe=>p ((a c).2 (.inr e))
      exact(aa.aj _ _ p1).trans ((q2 c p3).trans ((aa.aj _ _ p1).trans s))
    . rw[z]
      exact(aa.aj _ _ (Ne.symm j.2)).trans q1
  . obtain⟨a,B,K⟩:=y
    exact⟨a,by rw[he l ((a l).2 (.inl rfl))];exact B,by rw[he i ((a i).2 (.inr rfl))];exact K⟩
  . obtain⟨a,B,K⟩:=y
    rcases(a c).1 p with rfl|rfl
    . exact⟨_,B,rfl⟩
    . exact⟨_,K,rfl⟩
 obtain⟨xb,L,ax⟩:=X.L2 hu;have nb:∀c,d c=none->c≠b:=λc p e=>by subst e;rw[p]at L;cases L
 have M:d.Le (((d.set i (.cells (kW none))).set r (.raw (.deferred (some [])))).set l (.loop R)):=(by repeat (first|exact aa.le_refl _|assumption|refine aa.iz ?_ (by assumption)|refine aa.jQ ?_ (by assumption)))
 have sr:(((d.set i (.cells (kW none))).set r (.raw (.deferred (some [])))).set l (.loop R)) r=some (.raw (.deferred (some []))):=(aa.aj _ _ v).trans (aa.an _ _ _);have s7:(((d.set i (.cells (kW none))).set r (.raw (.deferred (some [])))).set l (.loop R)) i=some (.cells (kW none)):=(aa.aj _ _ (Ne.symm j.2)).trans ((aa.aj _ _ (Ne.symm H.2)).trans (aa.an _ _ _))
 refine eP Tryz.func112 rfl rfl rfl (qi (F:=λc=>c=l\/c=i) X P (by simp) hY ⟨rfl,rfl⟩ (X.un (λc _ ⟨x,S,_⟩=>(M _ _ S).trans S.symm) hu) ⟨λc=>Iff.rfl,aa.an _ _ _,by simpa[kW]using s7⟩ λF' g N ay O=>?_)
 have a7:=(N r _ sr (λe=>by rcases e with e|e;exact v e;exact H.2 e) (nb r G) (.inr rfl)).1
 have A:lI b mb d g:=λc x S h2 a8=>(N c x (M c x S) (λe=>by rcases e with e|e<;>subst e<;>simp_all) h2 a8).1
 rcases O with⟨_,q1,q3⟩|q
 . rw[List.take_length,u]at q3
   subst I;refine⟨_,q1,by simp,rfl,?_⟩
   have a9:(g.del l) i=some (.cells [ints w,int (bf w),bool true]):=by simp only[aa.del,Ne.symm j.2,if_false];exact q3
   refine rn ?_;simp[a9];refine rn ?_;simp;refine⟨by simp only[aa.del,v,if_false];exact a7,.less (λc x s=>?_) (.done h)⟩
   have n:=E c x s;have c1:c≠r:=λe=>by subst e;rw[G]at n;cases n
   have c2:c≠l:=λe=>by subst e;rw[Q]at n;cases n
   have c3:c≠b:=λe=>by subst e;rw[D.1]at s;cases s
   have c4:c≠mb:=λe=>by subst e;rw[D.2]at s;cases s
   rw[aa.aj _ _ c1];simp only[aa.del,c2,if_false];exact A c x n c3 (.inl c4)
 . exact q.elim
end
theorem Ar(r:m.solo=true){f:Fr}{l:List Int}{sp:bV}(o:f.Fits)(p:check f=0)(s:∀n∈l,0<=n/\n<f.aq.length)(j:l.length<1152921504606846976)(g:au f []=[])(h:∀σ',σ.Le σ'->KF (.val (.cq [.lit (.pointer none),int 11])) σ'):ar prog m 62 [aA f,.sl 1 (l.map int) sp] σ KF:=by
 have t:=Fr.mQ o p;have u:=uP p s;refine fs [] 2 Tryz.func62 rfl rfl (by rfl) (by kernel_rfl) ?_
 simp[Tryz.f62];have v:Wl [AV.agg (eS f),.sl 1 (l.map int) sp] [aA f,ints l]:=.cons (.refl _) (.cons (fC 1 _ sp) .nil);refine bi Tryz.func59 rfl rfl v (qf o j (λq=>absurd u q) λ_ b mb σ' d=>?_)
 have w:Dc b 6 mb .u8 (eU f) σ':=by rw[d.eq];exact⟨aa.an _ _ _,[],(aa.aj _ _ (Ne.symm d.ne)).trans (aa.an _ _ _),λn a h=>by simp[gn]at h⟩
 refine rn ?_;simp;refine cf Tryz.func88 rfl (yu (lH uS uT B6 r d.ne) t w λk B y=>?_)
 refine rn ?_;simp[g];refine .done (h k λc x i=>?_)
 have z:c≠b:=λe=>by subst e;rw[d.hb]at i;cases i
 have A:c≠mb:=λe=>by subst e;rw[d.yF]at i;cases i
 exact y c x (d.le c x i) z (.inl A)
theorem IG{l d:List AV}(f:l.length=d.length)(g:∀(i:Nat) a a',l[i]?=some a->d[i]?=some a'->a.W a'):(AV.cq l).W (.cq d):=λk x h=>by
 cases h with
 | cq c _ n j=>
   refine .cq c d (by omega) λi v a' m b=>?_
   have e:i<l.length:=by rw[f];exact(List.getElem?_eq_some_iff.1 b).1
   exact g i l[i] a' (by simp[e]) b k v (j i v _ m (by simp[e]))
theorem Dk:∀{es:List AV},(∀a∈es,a.cells=[a])->flatten es=es
 |[],_=>rfl
 |a::es,h=>by rw[flatten_cons,h a (List.mem_cons_self ..),Dk λx b=>h x (List.mem_cons_of_mem _ b)];rfl
theorem O4{es d:List AV}{sp:bV}(h:es.length=d.length)(p:∀a∈es,a.cells=[a])(f:∀a∈d,a.cells=[a])(q:∀(i:Nat) a a',es[i]?=some a->d[i]?=some a'->a.W a'):(AV.sl 1 es sp).W (.sl 1 d .any):=λk x r=>by
 cases r with
 | sl b off cap w N E _ _ c m s t y n o z=>
   rw[Dk p]at n o;rw[h]at m ⊢;refine .sl b off cap 1 N E d .any c m s t (λe u=>by rw[f e u];rfl) (λj g=>?_) (λj a l=>?_) trivial
   . rw[Dk f]at g
     exact n j (by omega)
   . rw[Dk f]at l
     have g:j<es.length:=by rw[h];exact(List.getElem?_eq_some_iff.1 l).1
     exact q j es[j] a (by simp[g]) l k _ (o j _ (by simp[g]))
 | slnil v=>
   have:d=[]:=by cases d with|nil=>rfl|cons _ _=>simp at h
   subst this;exact .slnil v 1 .any (.inl rfl)
theorem ns{l d:List AV}(f:l.length=d.length)(g:∀(i:Nat) a a',l[i]?=some a->d[i]?=some a'->a.W a'):(AV.agg l).W (.agg d):=λk x h=>by
 cases h with
 | agg c _ n j=>
   refine .agg c d (by omega) λi v a' m b=>?_
   have e:i<l.length:=by rw[f];exact(List.getElem?_eq_some_iff.1 b).1
   exact g i l[i] a' (by simp[e]) b k v (j i v _ m (by simp[e]))
def rY:List gL:=[⟨0,0,1,[0],15,0⟩,⟨3,1,1,[0],16,1⟩,⟨4,0,1,[0,2],15,2⟩,⟨10,0,2,[],14,0⟩,⟨12,0,1,[2],15,0⟩]
def dJ(n:Nat)(most:Int):Fr:=⟨rY.take n,[[0,2],[2,0]],1,2,3,most⟩
theorem nu{a b c d e:Int}{l:List Int}(h:KF (.val (bd ⟨a,b,c,l,d,e⟩)) σ):ar prog m 54 [int a,int b,int c,int d,int e,ints l] σ KF:=by
 refine fs [] 6 Tryz.func54 rfl rfl (by rfl) (by kernel_rfl) ?_;simp[Tryz.f54];refine cZ.intro λk f=>?_
 simp;exact .less (by repeat (first|exact aa.le_refl _|assumption|refine aa.iz ?_ (by assumption)|refine aa.jQ ?_ (by assumption))) (.done h)
theorem Kl(h:KF (.val (qb rY)) σ):ar prog m 53 [] σ KF:=by
 have f:∀a b c d e:Int,∀l:List Int,Wl [int a,int b,int c,int d,int e,.sl 1 (l.map int) .exact] [int a,int b,int c,int d,int e,ints l]:=λa b c d e l=>.cons (.refl _) (.cons (.refl _) (.cons (.refl _) (.cons (.refl _) (.cons (.refl _) (.cons (fC 1 _ .exact) .nil)))))
 have g:∀a b c d e:Int,Wl [int a,int b,int c,int d,int e,.lit (.slice none 0 0)] [int a,int b,int c,int d,int e,ints []]:=λa b c d e=>.cons (.refl _) (.cons (.refl _) (.cons (.refl _) (.cons (.refl _) (.cons (.refl _) (.cons (gl 1) .nil)))))
 refine fs [] 0 Tryz.func53 rfl rfl (by rfl) (by kernel_rfl) ?_;simp[Tryz.f53];refine bi Tryz.func54 rfl rfl (f 0 0 1 15 0 [0]) (nu ?_);refine rn ?_;simp;refine bi Tryz.func54 rfl rfl (f 3 1 1 16 1 [0]) (nu ?_);refine rn ?_;simp;refine bi Tryz.func54 rfl rfl (f 4 0 1 15 2 [0,2]) (nu ?_);refine rn ?_;simp;refine bi Tryz.func54 rfl rfl (g 10 0 2 14 0) (nu ?_);refine rn ?_;simp;refine bi Tryz.func54 rfl rfl (f 12 0 1 15 0 [2]) (nu ?_);refine rn ?_;simp;exact .jm (fC 6 _ .exact) (.done h)
theorem nW{n:Nat}{most:Int}(g:n<=5)(h:KF (.val (aA (dJ n most))) σ):ar prog m 52 [int n,int most] σ KF:=by
 refine fs [] 2 Tryz.func52 rfl rfl (by rfl) (by kernel_rfl) ?_;simp[Tryz.f52];refine cZ.intro λk j=>?_
 simp;refine cf Tryz.func53 rfl (Kl ?_);refine rn ?_;simp;refine tE lay rfl my rfl vL (es:=rY.map bd) (sp:=.any) (l:=0) (h:=n) ?_ (λcap d=>⟨rfl,⟨⟨.i64,by simp⟩,?_⟩,rfl⟩) (by simp[rY];omega) ?_
 . simp
 . simp[rY]at d;omega
 refine rn ?_;simp[aJ]
 have e:(AV.sl 1 [AV.sl 1 [int 0,int 2] .exact,.sl 1 [int 2,int 0] .exact] .exact).W (rows [[0,2],[2,0]]):=O4 rfl (λa f=>by simp at f;rcases f with rfl|rfl<;>rfl) (λa f=>by simp at f;rcases f with rfl|rfl<;>rfl) (λi a a' b c=>by
  match i with
  |0=>simp at b c;subst b;subst c;exact fC 1 [int 0,int 2] .exact
  |1=>simp at b c;subst b;subst c;exact fC 1 [int 2,int 0] .exact
  |i+2=>simp at b)
 refine .less (by repeat (first|exact aa.le_refl _|assumption|refine aa.iz ?_ (by assumption)|refine aa.jQ ?_ (by assumption))) (.jm (a':=aA (dJ n most)) (ns rfl λi a a' b c=>?_) (.done h))
 match i with
 |0=>simp[eS,dJ]at b c;subst b;subst c;rw[<-List.map_take];exact .refl _
 |1=>simp[eS,dJ]at b c;subst b;subst c;exact e
 |2=>simp[eS,dJ]at b c;subst b;subst c;exact .refl _
 |3=>simp[eS,dJ]at b c;subst b;subst c;exact .refl _
 |4=>simp[eS,dJ]at b c;subst b;subst c;exact .refl _
 |5=>simp[eS,dJ]at b c;subst b;subst c;exact .refl _
 |i+6=>simp at b
def jc(l:List gL)(out:List Int):List gL:=(l.zipIdx.filter λp=>!decide ((p.2:Int)∈out)).map Prod.fst
theorem kc(l:List gL)(out:List Int)(k:Nat)(h:k<l.length):jc (l.take (k+1)) out=jc (l.take k) out++if(k:Int)∈out then[]else[l[k]]:=by
 unfold jc;rw[List.take_succ_eq_append_getElem h,List.zipIdx_append,List.filter_append,List.map_append];congr 1;rw[List.length_take,Nat.min_eq_left (by omega)];by_cases a:(k:Int)∈out<;>simp[a]
theorem wR(l:List gL)(out:List Int):(jc l out).length<=l.length:=by unfold jc;rw[List.length_map];refine Nat.le_trans (List.length_filter_le _ _) ?_;simp
def aY(f:Fr)(out:List Int):Fr:={f with aq:=jc f.aq out}
theorem B8{f:Fr}{out:List Int}(K:f.Good)(L:out.length<1152921504606846976)(h:KF (.val (aA (aY f out))) σ):ar prog m 87 [aA f,ints out] σ KF:=by
 have R:=K.sH;refine ar.start lay [2] [] 2 Tryz.func87 rfl rfl (by rfl) (by kernel_rfl) ?_
 simp[Tryz.f87];refine cZ.intro λt F=>?_
 simp;refine cZ.intro λu v=>?_
 obtain⟨G,H,v⟩:=aa.aL v;simp[H,aa.aj];generalize g:(σ.set t (.cells (eS f))).set u (.cells [AV.lit (.slice none 0 0),.lit (.slice none 0 0),int 0,int 0,int 0,int 0])=d;have y:σ.Le d:=by subst g;exact aa.fa (aa.fa (aa.le_refl _) F) (by rw[aa.aj _ _ G];exact v)
 have M:d t=some (.cells (eS f)):=by subst g;simp[aa.aj,aa.an,H]
 have N:d u=some (.cells [AV.lit (.slice none 0 0),.lit (.slice none 0 0),int 0,int 0,int 0,int 0]):=by subst g;simp[aa.an]
 refine ab.loop f.aq.length (λk s=>∃env n,s=⟨env,n,[],.no⟩/\env 1=ints out/\env 2=.ref t 0/\env 4=.ref u 0/\env 9=qb f.aq/\env 10=int f.aq.length/\env 11=int k/\Tok d n (env 5) 6 ((jc (f.aq.take k) out).map bd)) ⟨_,d,by rw[<-g],by simp,by simp,by simp,by simp,by simp,by simp,by simpa[jc]using Tok.nil d 6⟩ ?_
 rintro S k _ T ⟨env,n,rfl,z,w,A,B,ir,lU,b⟩ I
 have o:=b.cells;refine ab.run lay [2] ?_;simp[ir,lU];refine aB.intro (λp=>?_) (λp=>?_)<;>(try simp[-Int.not_lt,-Int.not_le,-Nat.not_lt,-Nat.not_le]at p)<;>(try simp[w,B,lU,o.1,o.2,p])
 . refine cZ.intro λU J=>?_
   simp[z];refine cf Tryz.func124 rfl (i9 L ?_);refine ab.run lay [2] ?_;simp;refine aB.intro (λq=>?_) (λq=>?_)<;>(try simp[-Int.not_lt,-Int.not_le,-Nat.not_lt,-Nat.not_le]at q)<;>(try simp[lU,q])
   . refine⟨by omega,I _ p ⟨_,_,rfl,by simp[z],by simp[w],by simp[A],by simp[B],by simp[ir],by simp,?_⟩⟩
     have:=b.up (aa.fa (x:=.cells [int f.aq[k].hour,int f.aq[k].place,int f.aq[k].bk,ints f.aq[k].marks,int f.aq[k].aG,int f.aq[k].eE]) (aa.le_refl _) J);rw[kc _ _ _ p,if_pos q,List.append_nil];simpa using this
   . have C:=wR (f.aq.take k) out
     rw[List.length_take]at C;refine aH lay rfl rfl rfl my rfl my rfl vL (by decide) (by simp;omega) (σ0:=d) (es:=(jc (f.aq.take k) out).map bd) (xs:=[bd f.aq[k]]) (by simpa using b.up (aa.fa (aa.le_refl _) J)) (.inr ⟨_,rfl⟩) λa' O D=>?_
     refine ab.run lay [2] ?_;simp[lU];refine⟨by omega,I _ p ⟨_,_,rfl,by simp[z],by simp[w],by simp[A],by simp[B],by simp[ir],by simp,?_⟩⟩
     rw[kc _ _ _ p,if_neg q,List.map_append];simpa using D
 . have E:k=f.aq.length:=by omega
   subst E;rw[List.take_length]at b;simp[w,A,o.2,b.1 _ _ M,eS,aJ,b.1 _ _ N,aa.aj,G];refine .less (λc x r=>?_) (.jm (a':=aA (aY f out)) (ns rfl λi a a' j l=>?_) (.done h))
   . have P:c≠t:=λe=>by subst e;rw[F]at r;cases r
     have Q:c≠u:=λe=>by subst e;rw[v]at r;cases r
     rw[aa.aj _ _ Q,aa.aj _ _ P];exact b.1 _ _ (y _ _ r)
   . match i with
     |0=>simp[eS,aY]at j l;subst j;subst l;exact b.W
     |1=>simp[eS,aY]at j l;subst j;subst l;exact .refl _
     |2=>simp[eS,aY]at j l;subst j;subst l;exact .refl _
     |3=>simp[eS,aY]at j l;subst j;subst l;exact .refl _
     |4=>simp[eS,aY]at j l;subst j;subst l;exact .refl _
     |5=>simp[eS,aY]at j l;subst j;subst l;exact .refl _
     |i+6=>simp at j
def eG(f:Fr):Nat->Nat->List Int->Option (List Int)
 |0,_,out=>if au (aY f out) []≠[]then some out else none
 |more+1,a,out=>(List.range' a (f.aq.length-a)).findSome? λn=>eG f more (n+1) (out++[(n:Int)])
theorem wT(l:List gL)(out:List Int):∀e∈jc l out,e∈l:=λe a=>by unfold jc at a;obtain⟨p,b,rfl⟩:=List.mem_map.1 a;have:=(List.mem_filter.1 b).1;exact List.fst_mem_of_mem_zipIdx this
theorem kX{f:Fr}(a:f.Good)(out:List Int):(aY f out).Good:=by have c:=wR f.aq out;exact⟨⟨Nat.lt_of_le_of_lt c a.fits.aq,a.fits.roads,a.fits.row,λe b=>a.fits.marks e (wT _ _ e b)⟩,a.fr,a.to,a.le,a.cS,a.most,Nat.le_trans c a.sH,λe b=>a.vr e (wT _ _ e b),a.Jd⟩
namespace W
abbrev O5:List Entry:=[⟨7,.take [1,2,3,4,5,7,10,11,12,13] false (.both 0 (.both 6 (.one 8 (.one 9 (.one 14 (.done)))) (.one 8 (.one 6 (.one 9 (.one 14 (.done)))))) (.both 6 (.both 0 (.one 8 (.one 9 (.one 14 (.done)))) (.one 8 (.both 0 (.one 9 (.one 14 (.done))) (.one 9 (.take [0] true (.one 14 (.done))))))) (.one 8 (.both 0 (.one 6 (.one 9 (.one 14 (.done)))) (.one 6 (.both 0 (.one 9 (.one 14 (.done))) (.one 9 (.take [0] true (.one 14 (.done))))))))))⟩]
def wU(x:Nat)(σ σ':aa):Prop:=∀c v,σ c=some v->c≠x->σ' c=some v
abbrev B9(f:Fr)(a b:Nat):AV:=.fn (.func 85) [] [.ref a 0,.cp (aA f) 0,.ref b 0]
theorem Fk(hs:m.solo=true){f:Fr}(W:f.Good){o L:Nat}(X:o≠L):∀(more d:Nat) (out:List Int) (sp:bV) (σ:aa) (KF:eI->aa->Prop) (v:AV),σ o=some (.cells [v])->σ L=some (.cells [B9 f o L])->d<=f.aq.length->out.length+more<=6 ->
 (∀σ',wU o σ σ'->(∃D,σ' o=some (.cells [D]))->(∀w,eG f more d out=some w->∃sp,σ' o=some (.cells [.sl 1 (w.map int) sp]))->KF (.val (bool (eG f more d out).isSome)) σ')->ar prog m 85 [.sl 1 (out.map int) sp,int d,int more,.ref o 0,.cp (aA f) 0,.ref L 0] σ KF:=by
 intro more
 induction more with
 | zero=>
   intro d out sp σ KF v Y h6 P hlen h;refine fs O5 6 Tryz.func85 rfl rfl (by rfl) (by kernel_rfl) ?_
   simp[Tryz.f85,Y];have hW:Wl [aA f,AV.sl 1 (out.map int) sp] [aA f,ints out]:=.cons (.refl _) (.cons (fC 1 _ sp) .nil);refine bi Tryz.func87 rfl rfl hW (B8 W (by omega) ?_)
   refine rn ?_;simp;refine cf Tryz.func86 rfl (uN λb mb Z B=>?_)
   have hu:Dc b 6 mb .u8 (eU (aY f out)) Z:=by rw[B.eq];exact⟨aa.an _ _ _,[],(aa.aj _ _ (Ne.symm B.ne)).trans (aa.an _ _ _),λn a h=>by simp[gn]at h⟩
   refine rn ?_;simp;refine cf Tryz.func88 rfl (yu (lH uS uT B6 hs B.ne) (kX W out) hu λi Q M=>?_)
   refine rn ?_;simp
   have N:(eG f 0 d out).isSome=!decide (au (aY f out) []=[]):=by
    unfold eG
    by_cases g:au (aY f out) []=[]<;>simp[g]
   rw[<-N]
   have key:∀c x,(σ.set o (.cells [.sl 1 (out.map int) sp])) c=some x->i c=some x:=λc x y=>by
    have n1:c≠b:=λe=>by subst e;rw[B.hb]at y;cases y
    have n2:c≠mb:=λe=>by subst e;rw[B.yF]at y;cases y
    exact M c x (B.le c x y) n1 (.inl n2)
   refine .done (h i (λc x y U=>key c x ((aa.aj _ _ U).trans y)) ⟨_,key o _ (aa.an _ _ _)⟩ λw O=>⟨sp,?_⟩)
   have:w=out:=by
    unfold eG at O;split at O
    . exact(Option.some.inj O).symm
    . cases O
   subst this;exact key o _ (aa.an _ _ _)
 | succ more IH=>
   intro d out sp σ KF v Y h6 P hlen h;refine fs O5 6 Tryz.func85 rfl rfl (by rfl) (by kernel_rfl) ?_
   simp[Tryz.f85];have a7:((more:Int)+1==0)=false:=by simp;omega
   simp[aB,a7];refine ab.loop (f.aq.length-d) (λk s=>∃env σ',s=⟨env,σ',[],.no⟩/\env 0=.sl 1 (out.map int) sp/\env 2=int (more+1)/\env 4=.cp (aA f) 0/\env 5=.ref L 0/\env 10=int ((d:Int)+k)/\wU o σ σ'/\(∃D,σ' o=some (.cells [D]))/\eG f (more+1) d out=(List.range' (d+k) (f.aq.length-(d+k))).findSome? λn=>eG f more (n+1) (out++[(n:Int)])) ⟨_,_,rfl,by simp,by simp,by simp,by simp,by simp,λc v h _=>h,⟨_,Y⟩,rfl⟩ ?_
   rintro c0 k _ hk ⟨env,σ',rfl,C,E,F,G,ir,p,⟨D,R⟩,H⟩ ih
   have z:=p _ _ h6 (Ne.symm X);have a8:=W.sH;refine rn ?_;simp[F,ir];refine aB.intro (λg1=>?_) (λg1=>?_)<;>(try simp[-Int.not_lt,-Int.not_le,-Nat.not_lt,-Nat.not_le]at g1)<;>(try simp[C,ir,g1])
   . have t : -9223372036854775808<=(d:Int)+k+1/\(d:Int)+k+1<=9223372036854775807:=by omega
     have u:-9223372036854775808<=(more:Int)/\(more:Int)<=9223372036854775807:=by omega
     have I:∀i q (A:eI->aa->Prop),σ'.Le i->(∀v j,wU o σ j->(∃D,j o=some (.cells [D]))->(v=true->(eG f (more+1) d out).isSome=true/\∀w,eG f (more+1) d out=some w->∃sp,j o=some (.cells [.sl 1 (w.map int) sp]))->(v=false->eG f (more+1) d out=(List.range' (d+(k+1)) (f.aq.length-(d+(k+1)))).findSome? λn=>eG f more (n+1) (out++[(n:Int)]))->A (.val (bool v)) j)->ar prog m 85 [.sl 1 (out.map int++[int ((d:Int)+k)]) q,int ((d:Int)+k+1),int more,.ref o 0,.cp (aA f) 0,.ref L 0] i A:=λi q A J V=>by
      have r:eG f (more+1) d out=(eG f more (d+k+1) (out++[((d+k:Nat):Int)])).or ((List.range' (d+(k+1)) (f.aq.length-(d+(k+1)))).findSome? λn=>eG f more (n+1) (out++[(n:Int)])):=by
       rw[H];obtain⟨n,B⟩:∃n,f.aq.length-(d+k)=n+1:=⟨f.aq.length-(d+k)-1,by omega⟩
       have a9:f.aq.length-(d+(k+1))=n:=by omega
       rw[B,a9,List.range'_succ,List.findSome?_cons];cases eG f more (d+k+1) (out++[((d+k:Nat):Int)])<;>rfl
      have:=IH (d+k+1) (out++[((d+k:Nat):Int)]) q i A D (J _ _ R) (J _ _ z) (by omega) (by simp;omega) λj Q M q3=>V _ j (λc x y U=>Q c x (J _ _ (p c x y U)) U) M (λS=>by
       rw[r];cases N:eG f more (d+k+1) (out++[((d+k:Nat):Int)])with
       |none=>rw[N]at S;cases S
       |some w=>exact⟨rfl,λw' ad=>q3 w' (by rw[N];exact ad)⟩) (λS=>by
       rw[r];cases N:eG f more (d+k+1) (out++[((d+k:Nat):Int)])with
       |none=>rfl
       |some w=>rw[N]at S;cases S)
      simpa using this
     simp[E,G,z,t.1,t.2,u.1,u.2]
     repeat' (first
               |apply And.intro
               | (refine rz lay rfl cr rfl qa (es:=out.map int) (sp:=sp) (l:=0) (h:=out.length) (by simp[C]) (λcap T=>⟨⟨⟨.i64,by simp⟩,by simpa using T⟩,⟨⟨.i64,by simp⟩,Nat.le_refl _⟩,rfl⟩) (by simp) λa ha=>?_
                  have al:Tok σ' σ' a 1 (out.map int):=by
                   rcases ha with rfl|⟨e,rfl⟩
                   . have:List.take (out.length-0) (List.drop 0 (out.map int))=out.map int:=by rw[List.drop_zero,List.take_of_length_le (by simp)]
                     rw[this];exact .exact _ _ _
                   . rw[e];exact .nil _ _
                  clear ha;refine pg ?_;simp[z,C,E,F,G,ir,t.1,t.2,u.1,u.2])
               | (refine aH lay rfl rfl rfl cr rfl cr rfl qa (by decide) (by simp;omega) (σ0:=σ') (es:=out.map int) (xs:=[int ((d:Int)+k)]) (by simpa using al) (.inr ⟨_,by simp;rfl⟩) λa' i K=>?_
                  obtain⟨q,rfl⟩:∃q,a'=.sl 1 (out.map int++[int ((d:Int)+k)]) q:=by
                   rcases K.2 with⟨_,e⟩|e|⟨_,_,_,e,_⟩
                   . simp at e
                   . exact⟨_,e⟩
                   . exact⟨_,e⟩
                  have av:=K.1 _ _ z;refine pg ?_;simp[av,C,E,F,G,ir,t.1,t.2,u.1,u.2])
               | (refine eP Tryz.func85 rfl rfl (by simp) (I i q _ K.1 λv j Q M q3 q4=>?_)
                  refine pg ?_;simp[C,E,F,G,ir,t.1,t.2,u.1,u.2];cases v with
                  |true=>refine rn ?_;simp[aB,C,E,F,G,ir,t.1,t.2,u.1,u.2];obtain⟨w1,w2⟩:=q3 rfl;have V:=h j Q M w2;rw[w1]at V;exact .done V
                  |false=>refine rn ?_;simp[aB,C,E,F,G,ir,t.1,t.2,u.1,u.2];refine ih _ (by omega) ⟨_,_,rfl,by simp[C],by simp[E],by simp[F],by simp[G],by simp;omega,Q,M,q4 rfl⟩))
   . have:f.aq.length-(d+k)=0:=by omega
     rw[this]at H;rw[H]at h;exact .done (h _ p ⟨_,R⟩ λw O=>by cases O)
end W
end Go.Proofs.YtldmpfccgajobaaGreatDoor
namespace Go.Proofs.YtldmpfccgajobaaGreatDoor
open Tryz (prog)
open Go.bG Go.Conc
set_option maxHeartbeats 1000000
set_option maxRecDepth 4000
variable{m:Mo}{σ:aa}{KF:eI->aa->Prop}
open W
def er(f:Fr):Option (List Int):=(List.range' 0 (f.aq.length+1)).findSome? λmany=>eG f many 0 []
theorem As(Q:m.solo=true){f:Fr}{w:List Int}(M:f.Fits)(u:check f=0)(R:er f=some w)(h:KF (.val (.cq [ints w,int 0])) σ):ar prog m 35 [aA f] σ KF:=by
 have N:=Fr.mQ M u;have h6:=N.sH;refine fs [] 1 Tryz.func35 rfl rfl (by rfl) (by kernel_rfl) ?_
 simp[Tryz.f35];refine cf Tryz.func33 rfl (uM M ?_);refine rn ?_;simp[u];refine cZ.intro λj B=>?_
 simp;refine cZ.intro λq r=>?_
 obtain⟨C,S,r⟩:=aa.aL r;simp;refine⟨by omega,?_⟩
 generalize i:(σ.set j (.cells [AV.lit (.slice none 0 0)])).set q (.cells [B9 f j q])=d;have D:σ.Le d:=by subst i;exact aa.fa (aa.fa (aa.le_refl _) B) (by rw[aa.aj _ _ C];exact r)
 have T:d j=some (.cells [AV.lit (.slice none 0 0)]):=by subst i;simp[aa.aj,aa.an,S]
 have U:d q=some (.cells [B9 f j q]):=by subst i;simp[aa.an]
 have y:∀a,wU j d a->σ.Le a:=λa O c x o=>O c x (D c x o) (λe=>by subst e;rw[B]at o;cases o)
 refine ab.loop (f.aq.length+1) (λk s=>∃env a,s=⟨env,a,[],.no⟩/\env 5=.ref j 0/\env 6=.ref q 0/\env 17=int ((f.aq.length:Int)+1)/\env 18=int k/\wU j d a/\(∃E,a j=some (.cells [E]))/\((List.range' k (f.aq.length+1-k)).findSome? λmany=>eG f many 0 [])=some w) ⟨_,d,by rw[<-i],by simp,by simp,by simp,by simp,λc v h _=>h,⟨_,T⟩,R⟩ ?_
 rintro c0 k _ O ⟨env,a,rfl,F,P,z,M7,l,⟨E,G⟩,g⟩ V
 have p:=l _ _ U C;refine rn ?_;simp[z,M7];refine aB.intro (λH=>?_) (λH=>?_)<;>(try simp[-Int.not_lt,-Int.not_le,-Nat.not_lt,-Nat.not_le]at H)<;>(try simp[F,P,M7,p,H])
 . have W:k<=f.aq.length:=by omega
   obtain⟨n,X⟩:∃n,f.aq.length+1-k=n+1:=⟨f.aq.length-k,by omega⟩
   have I:f.aq.length+1-(k+1)=n:=by omega
   rw[X,List.range'_succ,List.findSome?_cons]at g;have Y:Wl [AV.lit (.slice none 0 0),int 0,int k,.ref j 0,.cp (aA f) 0,.ref q 0] [.sl 1 (([]:List Int).map int) .any,int (0:Nat),int k,.ref j 0,.cp (aA f) 0,.ref q 0]:=.cons (gl 1) (.cons (.refl _) (.cons (.refl _) (.cons (.refl _) (.cons (.refl _) (.cons (.refl _) .nil)))));refine eP Tryz.func85 rfl rfl rfl (ar.CC (Fk Q N (Ne.symm C) k 0 [] .any a _ E G p (by omega) (by simp;omega) λJ Z q2 q3=>?_) Y)
   have A:wU j d J:=λc x o u=>Z c x (l c x o u) u
   cases t:eG f k 0 []with
   | some K=>
     rw[t]at g;have:K=w:=by simpa using g
     subst this;obtain⟨sp,L⟩:=q3 _ t;refine ab.cV 5 (b:=j) (.sl 1 (K.map int) sp) L (by simp only[Env.upd];exact F) rfl ?_
     refine ab.Hk 5 (a':=.cp (ints K) 0) (by simp;exact ID rfl rfl (fC 1 _ sp)) ?_
     refine rn ?_;simp;refine .less (λc x o=>?_) (.done h)
     have n5:c≠j:=λe=>by subst e;rw[B]at o;cases o
     simp only[aa.del,n5,if_false];exact y _ A c x o
   | none=>
     rw[t]at g;refine rn ?_;simp[M7];refine⟨by omega,V _ (by omega) ⟨_,_,rfl,by simp[F],by simp[P],by simp[z],by simp,A,q2,?_⟩⟩
     rw[I];simpa using g
 . rw[show f.aq.length+1-k=0 by omega]at g
   cases g
end Go.Proofs.YtldmpfccgajobaaGreatDoor
namespace Go.Proofs.YtldmpfccgajobaaGreatDoor
open Tryz (prog)
open Go.bG Go.Conc
set_option maxHeartbeats 1000000
set_option maxRecDepth 4000
theorem jA:check (dJ 4 3)=0:=by decide +kernel
theorem yv:check (dJ 5 3)=0:=by decide +kernel
theorem yw:check (dJ 4 2)=0:=by decide +kernel
theorem II:kU (dJ 4 3) [0,1]=0:=by decide +kernel
theorem yx:du (dJ 4 3) [2]=[13,14,15]:=by decide +kernel
theorem Ca:jz (dJ 5 3)=4:=by decide +kernel
theorem Fm:au (dJ 4 3) []≠[]:=by decide +kernel
theorem rZ:(au (dJ 4 3) []).foldl kV none=some [0,0,1,2]/\bf [0,0,1,2]=3:=by decide +kernel
theorem Fo:lL (((au (dJ 4 3) []).filter (eF 1 2)).length:Int) (au (dJ 4 3) []).length=2:=by decide +kernel
theorem Cb:er (dJ 4 2)=some [1]:=by decide +kernel
end Go.Proofs.YtldmpfccgajobaaGreatDoor
namespace Go.Proofs.YtldmpfccgajobaaGreatDoor
open Tryz (prog)
open Go.bG Go.Conc
set_option maxHeartbeats 1000000
set_option maxRecDepth 4000
variable{m:Mo}{σ:aa}{KF:eI->aa->Prop}
theorem jL(n:Nat)(most:Int):(dJ n most).Fits:=by
 refine⟨?_,by simp[dJ],λr a=>?_,λe b=>?_⟩
 . simp[dJ,rY];omega
 . simp[dJ]at a;rcases a with rfl|rfl<;>simp
 . have:=List.mem_of_mem_take (show e∈rY.take n from b)
   simp[rY]at this;rcases this with rfl|rfl|rfl|rfl|rfl<;>simp
theorem rb(a:m.solo=true)(h:KF (.val (bool true)) σ):ar prog m 11 [] σ KF:=by
 refine fs [] 0 Tryz.func11 rfl rfl (by rfl) (by kernel_rfl) ?_;simp[Tryz.f11];refine cf Tryz.func52 rfl (nW (n:=4) (most:=3) (by omega) ?_);refine rn ?_;simp;have b:Wl [aA (dJ 4 3),.sl 1 [int 0,int 1] .exact] [aA (dJ 4 3),ints [0,1]]:=.cons (.refl _) (.cons (fC 1 [int 0,int 1] .exact) .nil);refine bi Tryz.func26 rfl rfl b (Mf (jL 4 3) jA ?_ (by simp) ?_)
 . exact⟨by decide +kernel,by simp⟩
 refine rn ?_;simp[II];refine cf Tryz.func52 rfl (nW (n:=4) (most:=3) (by omega) ?_);refine rn ?_;simp;have b:Wl [aA (dJ 4 3),.sl 1 [int 2] .exact] [aA (dJ 4 3),ints [2]]:=.cons (.refl _) (.cons (fC 1 [int 2] .exact) .nil);refine bi Tryz.func28 rfl rfl b (BR (jL 4 3) jA ?_ ?_)
 . exact⟨by decide +kernel,by simp⟩
 refine rn ?_;simp;refine cf Tryz.func52 rfl (nW (n:=5) (most:=3) (by omega) ?_);refine rn ?_;simp;refine cf Tryz.func15 rfl (IF a (jL 5 3) yv (by decide +kernel) ?_);refine rn ?_;simp[Ca];refine cf Tryz.func52 rfl (nW (n:=4) (most:=3) (by omega) ?_);refine rn ?_;simp;refine cf Tryz.func19 rfl (Fj a (jL 4 3) jA rZ.1 (by decide +kernel) ?_);refine rn ?_;simp[rZ.2];refine cf Tryz.func52 rfl (nW (n:=4) (most:=3) (by omega) ?_);refine rn ?_;simp;refine cf Tryz.func39 rfl (Kj a (jL 4 3) jA (by decide) (by decide) Fm (by decide +kernel) ?_);refine rn ?_;simp[Fo];refine cf Tryz.func52 rfl (nW (n:=4) (most:=2) (by omega) ?_)
 refine rn ?_;simp;refine cf Tryz.func35 rfl (As a (jL 4 2) yw Cb ?_);refine rn ?_;simp;refine bi Tryz.func21 rfl rfl (args':=[ints (du (dJ 4 3) [2]),ints [13,14,15]]) (.cons (.refl _) (.cons (fC 1 [int 13,int 14,int 15] .exact) .nil)) (gF (by decide +kernel) (by decide +kernel) ?_);refine rn ?_;simp[yx];refine bi Tryz.func21 rfl rfl (args':=[ints [0,0,1,2],ints [0,0,1,2]]) (.cons (.refl _) (.cons (fC 1 [int 0,int 0,int 1,int 2] .exact) .nil)) (gF (by simp) (by simp) ?_);refine rn ?_;simp;refine bi Tryz.func21 rfl rfl (args':=[ints [1],ints [1]]) (.cons (.refl _) (.cons (fC 1 [int 1] .exact) .nil)) (gF (by simp) (by simp) ?_);refine rn ?_;simp;exact .done h
def bJ(c:Nat)(nums:List Int)(k:Nat)(σ:aa):Prop:=∃(n:Nat) (s:Int),n<=k/\σ c=some (.cells [ints nums,int n,.lit (.int .u64 s)])
theorem Fp{nums:List Int}(h:∀c σ',σ c=none->bJ c nums 0 σ'->(∀x,x≠c->σ' x=σ x)->KF (.val (.ref c 0)) σ'):ar prog m 13 [ints nums] σ KF:=by
 refine ar.start lay [5] [] 1 Tryz.func13 rfl rfl (by rfl) (by kernel_rfl) ?_;simp[Tryz.f13];refine cZ.intro λc a=>?_
 simp;exact .done (h c _ a ⟨0,_,Nat.le_refl _,aa.an _ _ _⟩ λx b=>aa.aj _ _ b)
theorem Km(a b:Int):0<=IntKind.u64.wrap (((BitVec.ofInt 64 a ^^^ BitVec.ofInt 64 b).toNat:Nat):Int)/\IntKind.u64.wrap (((BitVec.ofInt 64 a ^^^ BitVec.ofInt 64 b).toNat:Nat):Int)<18446744073709551616:=by generalize (((BitVec.ofInt 64 a ^^^ BitVec.ofInt 64 b).toNat:Nat):Int)=x;simp only[IntKind.wrap,IntKind.signed,IntKind.bits];simp;omega
theorem IJ{x:Int}(h:0<=x/\x<18446744073709551616):0<=x.fdiv (2 ^ min 11 IntKind.u64.bits)/\x.fdiv (2 ^ min 11 IntKind.u64.bits)<9007199254740992:=by
 have e:(2:Int) ^ min 11 IntKind.u64.bits=2048:=by decide
 rw[e,Int.fdiv_eq_ediv_of_nonneg _ (by omega)];omega
theorem Kn{c k:Nat}{nums:List Int}(B:k<1000000)(C:nums.length<1152921504606846976)(hb:bJ c nums k σ)(h:∀(x:Int) σ',0<=x/\x<9007199254740992->bJ c nums (k+1) σ'->(∀y,y≠c->σ' y=σ y)->KF (.val (.lit (.int .u64 x))) σ'):ar prog m 75 [.ref c 0] σ KF:=by
 obtain⟨n,s,w,l⟩:=hb;have t:-9223372036854775808<=(n:Int)+1/\(n:Int)+1<=9223372036854775807:=by omega
 obtain⟨fm,d⟩:∃f:Int->Int->Int,∀a b,n8 .mul .u64 a b=some (.int .u64 (f a b)):=⟨_,λ_ _=>rfl⟩;obtain⟨D,g,r⟩:∃f:Int->Int->Int,(∀a b,n8 .xor .u64 a b=some (.int .u64 (f a b)))/\∀a b,0<=f a b/\f a b<18446744073709551616:=⟨_,λ_ _=>rfl,Km⟩;refine ar.L3 lay [] Qp 27 1 Tryz.func75 rfl rfl (by rfl) (by kernel_rfl) ?_;simp[Tryz.f75,l,t.1,t.2,aJ,d];refine ab.Dd (λe i=>e 0=.ref c 0/\(∃z,e 3=.lit (.int .u64 z))/\i c=some (.cells [ints nums,int ((n:Int)+1),.lit (.int .u64 s)])/\∀y,y≠c->i y=σ y) (by simp;intro y p;exact aa.aj _ _ p) ?_;clear l;rintro env i ⟨o,⟨z,q⟩,l,j⟩;refine ab.runN lay [] 2 ?_;simp[o,l];refine ab.runN lay [] 2 ?_;simp;refine aB.intro (λu=>?_) (λu=>?_)<;>simp[-Int.not_lt,-Int.not_le,-Nat.not_lt,-Nat.not_le]at u
 . have E:(n:Int)<nums.length:=by omega
   have A:n<nums.length:=by omega
   have v:-9223372036854775808<=(n:Int)/\(n:Int)<=9223372036854775807:=by omega
   simp[o,q,l,A,v.1,v.2,d,g];refine ab.Dd (λe i=>e 0=.ref c 0/\(∃z,e 3=.lit (.int .u64 z))/\i c=some (.cells [ints nums,int ((n:Int)+1),.lit (.int .u64 s)])/\∀y,y≠c->i y=σ y) (by simp[o,l];exact j) ?_;clear o q l j;rintro env i ⟨o,⟨z,q⟩,l,j⟩;refine rn ?_;simp[o,q,l,d,g,aJ];refine ab.Dd (λe i=>e 0=.ref c 0/\(∃s,i c=some (.cells [ints nums,int ((n:Int)+1),.lit (.int .u64 s)]))/\∀y,y≠c->i y=σ y) (by refine⟨by simp[o],⟨_,by simp;rfl⟩,λy p=>?_⟩;simp[aa.aj,p,j y p]) ?_;clear o q l j;rintro env i ⟨o,⟨z,l⟩,j⟩;refine rn ?_;simp[o,l,d,g];refine .done (h _ i (IJ (r _ _)) ⟨n+1,z,by omega,by simpa using l⟩ j)
 . simp
   refine rn ?_;simp[o,q,l,d,g,aJ];refine ab.Dd (λe i=>e 0=.ref c 0/\(∃s,i c=some (.cells [ints nums,int ((n:Int)+1),.lit (.int .u64 s)]))/\∀y,y≠c->i y=σ y) (by refine⟨by simp[o],⟨_,by simp;rfl⟩,λy p=>?_⟩;simp[aa.aj,p,j y p]) ?_;clear o q l j;rintro env i ⟨o,⟨z,l⟩,j⟩;refine rn ?_;simp[o,l,d,g];refine .done (h _ i (IJ (r _ _)) ⟨n+1,z,by omega,by simpa using l⟩ j)
def nv(c:Nat)(nums:List Int)(k:Nat)(σ σ':aa):Prop:=bJ c nums k σ'/\∀y,y≠c->σ' y=σ y
theorem nv.trans{c:Nat}{nums:List Int}{k k':Nat}{σ σ' a:aa}(h:nv c nums k σ σ')(b:nv c nums k' σ' a):nv c nums k' σ a:=⟨b.1,λy d=>(b.2 y d).trans (h.2 y d)⟩
theorem bJ.mono{c:Nat}{nums:List Int}{k k':Nat}(h:bJ c nums k σ)(b:k<=k'):bJ c nums k' σ:=by obtain⟨n,s,d,a⟩:=h;exact⟨n,s,by omega,a⟩
theorem IK{n:Int}(h:0<=n/\n<18446744073709551616):IntKind.u64.wrap n=n:=by simp only[IntKind.wrap,IntKind.signed,IntKind.bits];simp;omega
theorem Mg{n:Int}(h:-9223372036854775808<=n/\n<=9223372036854775807):IntKind.i64.wrap n=n:=by simp[IntKind.wrap,IntKind.signed,IntKind.bits];omega
section
variable{c k:Nat}{nums:List Int}
theorem fZ{n:Int}(f:k<1000000)(g:nums.length<1152921504606846976)(i:-4611686018427387904<=n/\n<4611686018427387904)(hb:bJ c nums k σ)(h:∀(x:Int) σ',0<=x/\(x<=n\/x=0)->nv c nums (k+1) σ σ'->KF (.val (int x)) σ'):ar prog m 30 [.ref c 0,int n] σ KF:=by
 refine fs [] 2 Tryz.func30 rfl rfl (by rfl) (by kernel_rfl) ?_;simp[Tryz.f30];refine cf Tryz.func75 rfl (Kn f g hb λx σ' j a b=>?_);refine rn ?_;simp;refine aB.intro (λd=>?_) (λd=>?_)<;>simp[-Int.not_lt,-Int.not_le]at d
 . simp
   exact .done (h 0 σ' ⟨by omega,.inr rfl⟩ ⟨a,b⟩)
 . have l:IntKind.u64.wrap n=n:=IK (by omega)
   have o:n8 .add .u64 n 1=some (.int .u64 (n+1)):=by show some (Value.int .u64 (IntKind.u64.wrap (n+1)))=_;rw[IK (by omega)]
   obtain⟨r,e,p⟩:∃r:Int,(0<=r/\r<=n)/\n8 .rem .u64 x (n+1)=some (.int .u64 r):=by
    refine⟨x.tmod (n+1),⟨Int.tmod_nonneg _ j.1,?_⟩,by simp[n8];omega⟩;have:=Int.tmod_lt_of_pos x (show 0<n+1 by omega);omega
   have q:IntKind.i64.wrap r=r:=Mg (by omega);simp[l,o,p,q];exact .done (h r σ' ⟨e.1,.inl e.2⟩ ⟨a,b⟩)
theorem jd{a b:Int}(f:k<1000000)(g:nums.length<1152921504606846976)(i:-1000000000<=a/\a<=1000000000)(j:-1000000000<=b/\b<=1000000000)(hb:bJ c nums k σ)(h:∀(x:Int) σ',a<=x/\(x<=b\/x=a)->nv c nums (k+1) σ σ'->KF (.val (int x)) σ'):ar prog m 104 [.ref c 0,int a,int b] σ KF:=by
 have d:-9223372036854775808<=b-a/\b-a<=9223372036854775807:=by omega
 refine fs [] 3 Tryz.func104 rfl rfl (by rfl) (by kernel_rfl) ?_;simp[Tryz.f104,d.1,d.2];refine cf Tryz.func30 rfl (fZ f g ⟨by omega,by omega⟩ hb λx σ' l hd=>?_);have e:-9223372036854775808<=a+x/\a+x<=9223372036854775807:=by omega
 refine rn ?_;simp[e.1,e.2];exact .done (h _ σ' ⟨by omega,by omega⟩ hd)
theorem nX{l:List Int}{sp:bV}(d:k<1000000)(f:nums.length<1152921504606846976)(i:0<l.length/\l.length<1000000)(hb:bJ c nums k σ)(h:∀(x:Int) σ',x∈l->nv c nums (k+1) σ σ'->KF (.val (int x)) σ'):ar prog m 97 [.ref c 0,.sl 1 (l.map int) sp] σ KF:=by
 have a:-9223372036854775808<=(l.length:Int)-1/\(l.length:Int)-1<=9223372036854775807:=by omega
 refine fs [] 2 Tryz.func97 rfl rfl (by rfl) (by kernel_rfl) ?_;simp[Tryz.f97,a.1,a.2];refine cf Tryz.func30 rfl (fZ d f ⟨by omega,by omega⟩ hb λx σ' g hd=>?_);have b:x.toNat<l.length:=by omega
 have j:x<l.length:=by omega
 have e:(x.toNat:Int)=x:=by omega
 refine rn ?_;simp[g.1,b];exact .done (h _ σ' (List.getElem_mem b) hd)
theorem Dl{n:Int}(b:k<1000000)(d:nums.length<1152921504606846976)(e:0<=n/\n<1000000000)(hb:bJ c nums k σ)(h:∀(x:Bool) σ',nv c nums (k+1) σ σ'->KF (.val (bool x)) σ'):ar prog m 98 [.ref c 0,int n] σ KF:=by
 have a:-9223372036854775808<=n-1/\n-1<=9223372036854775807:=by omega
 refine fs [] 2 Tryz.func98 rfl rfl (by rfl) (by kernel_rfl) ?_;simp[Tryz.f98,a.1,a.2];refine cf Tryz.func30 rfl (fZ b d ⟨by omega,by omega⟩ hb λx σ' f hd=>?_);refine rn ?_;simp;exact .done (h _ σ' hd)
end
structure r7(cN:Int)(e:gL):Prop where
 hour:0<=e.hour/\e.hour<=40
 place:0<=e.place/\e.place<cN
 bk:0<=e.bk/\e.bk<=1
 marks:e.marks.Sublist [0,1,2]
 aG:14<=e.aG/\e.aG<=16
 eE:0<=e.eE/\e.eE<=2
theorem iE{l:List Int}(h:l.Sublist [0,1,2]):kj none l=0/\l.length<=3:=by cases h<;>(rename_i h;cases h<;>(rename_i h;cases h<;>(rename_i h;cases h;decide)))
theorem r7.check{cN:Int}{e:gL}(h:r7 cN e):bp cN e=0:=by
 obtain⟨b,d,f,a,m,c⟩:=h;have a:=(iE a).1;unfold bp cK;have n:(0<=e.hour):=b.1;have g:e.hour<=72:=by omega
 have i:e.place<=cN-1:=by omega
 have j:e.bk<=5:=by omega
 have k:0<=e.aG:=by omega
 have l:e.aG<=30:=by omega
 simp[b.1,g,d.1,i,f.1,j,a,k,l,c.1,c.2]
theorem qj{σ0 σ d:aa}{a:AV}{kk:Nat}{es:List AV}{c:Nat}(h:Tok σ0 σ a kk es)(j:σ0 c=none)(k:∃l,σ c=some (.cells l))(i:∀y,y≠c->d y=σ y):Tok σ0 d a kk es:=by
 refine⟨λy x f=>?_,?_⟩
 . have:y≠c:=λe=>by subst e;rw[j]at f;cases f
   rw[i y this];exact h.1 y x f
 rcases h.2 with q|q|⟨b,e,m,n,g⟩
 . exact .inl q
 . exact .inr (.inl q)
 . refine .inr (.inr ⟨b,e,m,n,?_⟩)
   have:b≠c:=λe=>by subst e;obtain⟨l,o⟩:=k;rw[o]at g;cases g
   rw[i b this];exact g
section
variable{c k:Nat}{nums:List Int}
theorem Au{cN:Int}(hk:k+11<1000000)(u:nums.length<1152921504606846976)(b9:0<=cN/\cN<=1000)(hb:bJ c nums k σ)(h:∀(e:gL) σ',r7 (max cN 1) e->nv c nums (k+11) σ σ'->KF (.val (bd e)) σ'):ar prog m 43 [.ref c 0,int cN] σ KF:=by
 have r1:-9223372036854775808<=cN-1/\cN-1<=9223372036854775807:=by omega
 obtain⟨n0,s0,_,K⟩:=id hb;refine fs [] 2 Tryz.func43 rfl rfl (by rfl) (by kernel_rfl) ?_
 simp[Tryz.f43];refine cZ.intro λt h4=>?_
 have n4:c≠t:=λe=>by subst e;rw[K]at h4;cases h4
 have v:∀x,bJ c nums k (σ.set t x):=λx=>⟨n0,s0,by assumption,by rw[aa.aj _ _ n4];exact K⟩
 simp;refine cf Tryz.func30 rfl (fZ (by omega) u ⟨by omega,by omega⟩ (v _) λf bq bA L=>?_)
 refine rn ?_;simp;refine cf Tryz.func30 rfl (fZ (by omega) u ⟨by omega,by omega⟩ L.1 λo g bB M=>?_)
 refine rn ?_;simp;refine cf Tryz.func30 rfl (fZ (by omega) u ⟨by omega,by omega⟩ M.1 λx3 B c6 N=>?_)
 refine rn ?_;simp;refine cf Tryz.func97 rfl (nX (l:=[f,o,x3]) (by omega) u ⟨by simp,by simp⟩ N.1 λG c7 av O=>?_)
 refine rn ?_;simp[r1.1,r1.2];refine cf Tryz.func30 rfl (fZ (by omega) u ⟨by omega,by omega⟩ O.1 λpl c8 ca P=>?_)
 refine rn ?_;simp;refine cf Tryz.func97 rfl (nX (l:=[0,0,0,1]) (by omega) u ⟨by simp,by simp⟩ P.1 λco cb ax Q=>?_)
 refine rn ?_;simp;refine cf Tryz.func97 rfl (nX (l:=[14,14,15,15,16]) (by omega) u ⟨by simp,by simp⟩ Q.1 λH cg ay R=>?_)
 refine rn ?_;simp;refine cf Tryz.func97 rfl (nX (l:=[0,0,1,2]) (by omega) u ⟨by simp,by simp⟩ R.1 λsh S b0 T=>?_)
 refine rn ?_;simp;refine cZ.intro λw I=>?_
 simp;have p:nv c nums (k+8) (σ.set t (.cells [int 0,int 0,int 0,.lit (.slice none 0 0),int 0,int 0])) S:=L.trans (M.trans (N.trans (O.trans (P.trans (Q.trans (R.trans T))))));have U:t≠c:=Ne.symm n4;have V:S t=some (.cells [int 0,int 0,int 0,.lit (.slice none 0 0),int 0,int 0]):=by rw[p.2 t U,aa.an]
 have X:w≠c:=λe=>by subst e;obtain⟨_,_,_,q⟩:=T.1;rw[q]at I;cases I
 have C:w≠t:=λe=>by subst e;rw[V]at I;cases I
 have Y:σ w=none:=by rw[p.2 w X,aa.aj _ _ C]at I;exact I
 have b1:0<=G/\G<=40:=by simp at av;omega
 have b2:0<=co/\co<=1:=by simp at ax;omega
 have b3:14<=H/\H<=16:=by simp at ay;omega
 have b4:0<=sh/\sh<=2:=by simp at b0;omega
 have b5:0<=pl/\pl<max cN 1:=by omega
 refine ab.loop 3 (λj s=>∃env σ' a mk,s=⟨env,σ',[],.no⟩/\env 0=.ref c 0/\env 4=.ref t 0/\env 5=.ref w 0/\env 6=int j/\bJ c nums (k+8+j) σ'/\σ' t=some (.cells [int 0,int 0,int 0,.lit (.slice none 0 0),int 0,int 0])/\σ' w=some (.cells [int G,int pl,int co,a,int H,int sh])/\Tok (σ.del c) σ' a 1 (mk.map int)/\mk.Sublist ((List.range j).map λi:Nat=>(i:Int))) ⟨_,_,.lit (.slice none 0 0),[],rfl,by simp,by simp,by simp,by simp,?_,?_,?_,?_,by simp⟩ ?_
 . obtain⟨n,z,h1,h2⟩:=p.1
   exact⟨n,z,by omega,by rw[aa.aj _ _ (Ne.symm X)];exact h2⟩
 . rw[aa.aj _ _ (Ne.symm C)];exact V
 . simp
 . refine⟨λy x d=>?_,.inl ⟨rfl,rfl⟩⟩
   have J:y≠c:=λe=>by subst e;simp[aa.del]at d
   have y0:σ y=some x:=by simpa[aa.del,J]using d
   have y5:y≠w:=λe=>by subst e;rw[Y]at y0;cases y0
   have y4:y≠t:=λe=>by subst e;rw[h4]at y0;cases y0
   rw[aa.aj _ _ y5,p.2 y J,aa.aj _ _ y4];exact y0
 rintro c0 j _ hj ⟨env,σ',a,mk,rfl,e0,e4,Z,e6,D,q4,q5,r,A⟩ ih
 have cl:mk.length<=j:=by have:=A.length_le;rwa [List.length_map,List.length_range]at this
 rcases Nat.lt_or_ge j 3 with g1|g1
 . have b6:(j:Int)<3:=by omega
   refine rn ?_;simp[e0,e6,b6];refine cf Tryz.func98 rfl (Dl (by omega) u ⟨by omega,by omega⟩ D λx g hd=>?_)
   have b7:∃l,σ' c=some (.cells l):=by obtain⟨_,_,_,q⟩:=D;exact⟨_,q⟩
   have b:Tok (σ.del c) g a 1 (mk.map int):=qj r (by simp[aa.del]) b7 hd.2
   have a7:=b.cells;have s4:g t=some (.cells [int 0,int 0,int 0,.lit (.slice none 0 0),int 0,int 0]):=by rw[hd.2 t U];exact q4
   have s5:g w=some (.cells [int G,int pl,int co,a,int H,int sh]):=by rw[hd.2 w X];exact q5
   have a8:(List.range (j+1)).map (λi:Nat=>(i:Int))=(List.range j).map (λi:Nat=>(i:Int))++[(j:Int)]:=by rw[List.range_succ,List.map_append];rfl
   have f1:-9223372036854775808<=(j:Int)+1/\(j:Int)+1<=9223372036854775807:=by omega
   refine rn ?_;simp;cases x with
   | false=>
     simp[e6,f1.1,f1.2];refine ih _ g1 ⟨_,_,a,mk,rfl,by simp[e0],by simp[e4],by simp[Z],by simp,hd.1,s4,s5,b,?_⟩
     rw[a8];exact A.trans (List.sublist_append_left _ _)
   | true=>
     simp[Z,e6,s5];refine aH lay rfl rfl rfl cr rfl cr rfl qa (by decide) (by simp;omega) (σ0:=g.off a) (es:=mk.map int) (xs:=[int j]) (by simpa using b.here.1) (.inr ⟨_,rfl⟩) λa' B E=>?_
     have a9:=E.cells;have b8:∀y l,g y=some (.cells l)->cH a≠some y:=λy l d e=>by obtain⟨_,_,q⟩:=b.be e;rw[d]at q;cases q
     have k3:∀y l,g y=some (.cells l)->B y=some (.cells l):=λy l d=>E.1 _ _ (by rw[aa.iA (b8 y l d)];exact d)
     have t5:=k3 _ _ s5;have t4:=k3 _ _ s4;refine rn ?_;simp[Z,e6,f1.1,f1.2,t5,a9.1,a9.2,aJ];obtain⟨nb,zb,v,F⟩:=hd.1;have tc:=k3 _ _ F
     have ad:Tok (σ.del c) B a' 1 ((mk++[(j:Int)]).map int):=by have:=E.base b.here.2;simpa using this
     refine ih _ g1 ⟨_,_,a',mk++[(j:Int)],rfl,by simp[e0],by simp[e4],by simp[Z],by simp,⟨nb,zb,v,by rw[aa.aj _ _ (Ne.symm X)];exact tc⟩,by rw[aa.aj _ _ (Ne.symm C)];exact t4,aa.an _ _ _,ad.beside (by simp[aa.del,X,Y]) (λe=>by obtain⟨_,_,q⟩:=ad.be e;rw[t5]at q;cases q),?_⟩
     rw[a8];exact A.append (List.Sublist.refl _)
 . have:j=3:=by omega
   subst this;have a7:=r.cells;refine rn ?_;simp[e4,Z,e6,q4,q5,a7.2,aJ];obtain⟨nb,zb,v,F⟩:=D;have al:mk.Sublist [0,1,2]:=A;refine .jm (a':=bd ⟨G,pl,co,mk,H,sh⟩) (ns rfl λi x y f o=>?_) (.less (σ':=σ.set c (.cells [ints nums,int nb,.lit (.int .u64 zb)])) (λy x d=>?_) (.done (h ⟨G,pl,co,mk,H,sh⟩ _ ⟨b1,b5,b2,al,b3,b4⟩ ⟨⟨nb,zb,by omega,aa.an _ _ _⟩,λy d=>aa.aj _ _ d⟩)))
   . match i with
     |0=>simp at f o;subst f;subst o;exact .refl _
     |1=>simp at f o;subst f;subst o;exact .refl _
     |2=>simp at f o;subst f;subst o;exact .refl _
     |3=>simp at f o;subst f;subst o;exact r.W
     |4=>simp at f o;subst f;subst o;exact .refl _
     |5=>simp at f o;subst f;subst o;exact .refl _
     |i+6=>simp at f
   . by_cases J:y=c
     . subst J
       rw[aa.an]at d;rw[aa.aj _ _ n4,F];exact d
     . rw[aa.aj _ _ J]at d
       have y4:y≠t:=λe=>by subst e;rw[h4]at d;cases d
       rw[aa.aj _ _ y4];exact r.1 y x (by simpa[aa.del,J]using d)
theorem mE{cN:Int}(d:k+11<1000000)(f:nums.length<1152921504606846976)(a:1<=cN/\cN<=1000)(hb:bJ c nums k σ)(h:∀(e:gL) σ',r7 cN e->nv c nums (k+11) σ σ'->KF (.val (bd e)) σ'):ar prog m 43 [.ref c 0,int cN] σ KF:=Au d f ⟨by omega,a.2⟩ hb λe σ' b hd=>h e σ' (by rw[Int.max_eq_left a.1]at b;exact b) hd
end
structure qk(n:Nat)(lo:Int)(r:List (List Int)):Prop where
 len:r.length=n
 row:∀l∈r,l.length=n
 diag:∀i,i<n->rd r i i=0
 sym:∀i j,i<n->j<n->rd r i j=rd r j i
 off:∀i j,i<n->j<n->i≠j->lo<=rd r i j/\rd r i j<=2*lo
structure kY(cnt:Int)(f:Fr):Prop where
 cS:1<=f.cS/\f.cS<=4
 most:f.most=1\/f.most=2\/f.most=3\/f.most=6
 cN:1<=f.roads.length/\f.roads.length<=3
 Jd:∃lo:Int,(0<=lo/\lo<=4)/\qk f.roads.length lo f.roads
 fr:0<=f.bh/\f.bh<=2
 to:f.bh<=f.gE/\f.gE<=2
 len:(f.aq.length:Int)<=cnt
 vr:∀e∈f.aq,r7 f.roads.length e
theorem qk.err{n:Nat}{m:Int}{r:List (List Int)}(h:qk n m r)(D:1<=n/\n<=3)(v:0<=m/\m<=4):dQ r=0:=by
 have p:=h.len
 have hb:∀i j,i<n->j<n->0<=rd r i j/\rd r i j<=9:=λi j a b=>by
  by_cases e:i=j
  . subst e;rw[h.diag i a];omega
  . have:=h.off i j a b e;omega
 have f:∀l∈r,gh n l=0:=λl q=>by
  have w:=h.row l q
  have z:l.all (cK · 0 9)=true:=by
   rw[List.all_eq_true];intro x g;obtain⟨i,a,rfl⟩:=List.mem_iff_getElem.1 q;obtain⟨j,b,rfl⟩:=List.mem_iff_getElem.1 g;have:=hb i j (by omega) (by omega);have e:rd r i j=r[i][j]:=by simp[rd,List.getD_eq_getElem?_getD,a,b]
   rw[e]at this;simp[cK,this.1,this.2]
  unfold gh;rw[if_neg (by simp[w]),if_pos z]
 have d:∀l:List (List Int),(∀x∈l,x∈r)->dL n l=0:=λl=>by
  induction l with
  |nil=>intro _;rfl
  | cons x l A=>
    intro g;unfold dL;rw[if_pos (f x (g x (by simp)))];exact A λy B=>g y (by simp[B])
 have o:((List.range n).any λi=>(List.range n).any λj=>bE r i j)=false:=by
  rw[List.any_eq_false];intro i a;rw[Bool.not_eq_true,List.any_eq_false];intro j b;have a:=List.mem_range.1 a;have b:=List.mem_range.1 b;unfold bE;rw[h.diag i a,h.sym i j a b,p]
  have C : ((List.range n).any λk=>decide (rd r j i>rd r i k+rd r k j))=false:=by
   rw[List.any_eq_false];intro k c;have c:=List.mem_range.1 c;have E:=hb i k a c;have F:=hb k j c b;simp only[decide_eq_true_eq,Int.not_lt,gt_iff_lt];by_cases s:i=j
   . subst s;rw[h.diag i a];omega
   . by_cases t:i=k
     . subst t;rw[h.diag i a,h.sym i j a b];omega
     . by_cases u:k=j
       . subst u;rw[h.diag k c,h.sym i k a c];omega
       . have G:=h.off j i b a (Ne.symm s)
         have H:=h.off i k a c t;have I:=h.off k j c b u;omega
  rw[C];simp
 unfold dQ;rw[p,if_neg (by omega),if_neg (by omega),d r (λ_ h=>h),if_neg (by simp),o];simp
theorem IL{M:List (List Int)}{i k:Nat}{n:Int}(c:i<M.length)(d:k<(M.getD i []).length)(x y:Nat):rd (M.set i ((M.getD i []).set k n)) x y=if x=i/\y=k then n else rd M x y:=by
 unfold rd;by_cases e:x=i
 . subst e
   have a:(M.set x ((M.getD x []).set k n)).getD x []=(M.getD x []).set k n:=by simp[List.getD_eq_getElem?_getD,c]
   rw[a];by_cases b:y=k
   . subst b
     rw[if_pos ⟨rfl,rfl⟩];rw[List.getD_eq_getElem?_getD,List.getElem?_set_self d];rfl
   . rw[if_neg (λq=>b q.2)]
     rw[List.getD_eq_getElem?_getD,List.getElem?_set_ne (Ne.symm b),<-List.getD_eq_getElem?_getD]
 . rw[if_neg (λq=>e q.1)]
   have a:(M.set i ((M.getD i []).set k n)).getD x []=M.getD x []:=by rw[List.getD_eq_getElem?_getD,List.getElem?_set_ne (Ne.symm e),<-List.getD_eq_getElem?_getD]
   rw[a]
def vO(M:List (List Int))(i k:Nat)(n:Int):List (List Int):=(M.set i ((M.getD i []).set k n)).set k ((M.getD k []).set i n)
structure Dm(n:Nat)(lo:Int)(i k:Nat)(M:List (List Int)):Prop where
 len:M.length=n
 row:∀j,j<n->(M.getD j []).length=n
 diag:∀x,x<n->rd M x x=0
 sym:∀x y,x<n->y<n->rd M x y=rd M y x
 off:∀x y,y<x->x<n->(x<i\/(x=i/\y<k))->lo<=rd M x y/\rd M x y<=2*lo
theorem wV{M:List (List Int)}{i k:Nat}{v:Int}(c:i<M.length)(d:k<M.length)(e:k≠i)(j:Nat):(vO M i k v).getD j []=if j=k then(M.getD k []).set i v else if j=i then(M.getD i []).set k v else M.getD j []:=by
 unfold vO;by_cases a:j=k
 . subst a
   rw[if_pos rfl,List.getD_eq_getElem?_getD,List.getElem?_set_self (by simpa using d)];rfl
 . rw[if_neg a,List.getD_eq_getElem?_getD,List.getElem?_set_ne (Ne.symm a)]
   by_cases b:j=i
   . subst b
     rw[if_pos rfl,List.getElem?_set_self c];rfl
   . rw[if_neg b,List.getElem?_set_ne (Ne.symm b),<-List.getD_eq_getElem?_getD]
theorem Ko{n:Nat}{j:Int}{i k a b:Nat}{M:List (List Int)}{v:Int}(h:Dm n j a b M)(g:i<n)(e:k<n)(f:k≠i)(x y:Nat):rd (vO M i k v) x y=if(x=i/\y=k)\/(x=k/\y=i)then v else rd M x y:=by
 have l:=h.len
 have m:rd (vO M i k v) x y=if x=k/\y=i then v else rd (M.set i ((M.getD i []).set k v)) x y:=by
  have q:M.getD k []=(M.set i ((M.getD i []).set k v)).getD k []:=by rw[List.getD_eq_getElem?_getD,List.getD_eq_getElem?_getD,List.getElem?_set_ne (Ne.symm f)]
  unfold vO;rw[q];exact IL (by simp[l,e]) (by rw[<-q];rw[h.row k e];exact g) x y
 rw[m,IL (by omega) (by rw[h.row i g];exact e)];by_cases c:x=k/\y=i
 . rw[if_pos c,if_pos (.inr c)]
 . rw[if_neg c]
   by_cases d:x=i/\y=k
   . rw[if_pos d,if_pos (.inl d)]
   . rw[if_neg d,if_neg (λq=>q.elim d c)]
theorem Dm.next{n:Nat}{d:Int}{i k:Nat}{M:List (List Int)}{v:Int}(h:Dm n d i k M)(g:i<n)(s:k<i)(m:d<=v/\v<=2*d):Dm n d i (k+1) (vO M i k v):=by
 have o:=h.len;have a:=Ko (v:=v) h g (show k<n by omega) (by omega);refine⟨by simp[vO,o],λj p=>?_,λx b=>?_,λx y b r=>?_,λx y f b hd=>?_⟩
 . rw[wV (by omega) (by omega) (by omega)]
   split
   . rw[List.length_set];exact h.row k (by omega)
   . split
     . rw[List.length_set];exact h.row i g
     . exact h.row j p
 . rw[a,if_neg (by omega)];exact h.diag x b
 . rw[a,a]
   by_cases c:(x=i/\y=k)\/(x=k/\y=i)
   . rw[if_pos c,if_pos (c.elim (λq=>.inr ⟨q.2,q.1⟩) (λq=>.inl ⟨q.2,q.1⟩))]
   . rw[if_neg c,if_neg (λq=>c (q.elim (λq=>.inr ⟨q.2,q.1⟩) (λq=>.inl ⟨q.2,q.1⟩)))]
     exact h.sym x y b r
 . rw [a]
   by_cases c:(x=i/\y=k)\/(x=k/\y=i)
   . rw[if_pos c];exact m
   . rw[if_neg c]
     refine h.off x y f b ?_;rcases hd with hd|⟨l,t⟩
     . exact .inl hd
     . refine .inr ⟨l,?_⟩
       have:y≠k:=λe=>c (.inl ⟨l,e⟩)
       omega
theorem Dm.line{n:Nat}{b:Int}{i:Nat}{M:List (List Int)}(h:Dm n b i i M):Dm n b (i+1) 0 M:=⟨h.len,h.row,h.diag,h.sym,λx y a c hd=>h.off x y a c (by omega)⟩
theorem Dm.fin{n:Nat}{c:Int}{M:List (List Int)}(h:Dm n c n 0 M):qk n c M:=by
 have f:=h.len;refine⟨h.len,λl d=>?_,h.diag,h.sym,λi j a b e=>?_⟩
 . obtain⟨i,a,rfl⟩:=List.mem_iff_getElem.1 d
   have:=h.row i (by omega);simpa[List.getD_eq_getElem?_getD,a]using this
 . rcases Nat.lt_or_ge j i with q|q
   . exact h.off i j q a (.inl a)
   . rw[h.sym i j a b]
     exact h.off j i (by omega) b (.inl b)
theorem Dm.start(n:Nat)(c:Int):Dm n c 0 0 (List.replicate n (List.replicate n 0)):=by
 have a:∀x y,rd (List.replicate n (List.replicate n 0)) x y=0:=λx y=>by
  unfold rd;simp only[List.getD_eq_getElem?_getD,List.getElem?_replicate];by_cases b:x<n
  . simp only[b,if_true,Option.getD_some,List.getElem?_replicate]
    split<;>rfl
  . simp[b]
 refine⟨by simp,λj d=>by simp[List.getD_eq_getElem?_getD,d],λx _=>a x x,λx y _ _=>by rw[a,a],λx y _ _ h=>by omega⟩
theorem qm{g:gL->Int}:∀{l:List gL},(∀e∈l,g e=0)->dh g l=0
 |[],_=>rfl
 | a::l,h=>by
   unfold dh;rw[if_pos (h a (by simp))];exact qm λe b=>h e (by simp[b])
theorem kY.check{most:Int}{f:Fr}(h:kY most f)(j:most<=6):check f=0:=by
 obtain⟨k,a,b⟩:=h.Jd;have c:=b.err h.cN a;have l:=h.fr;have m:=h.to;have n:=h.cS;have o:=h.most;have p:=h.len
 have d:(cK f.bh 0 3 && cK f.gE 0 3)=true:=by simp[cK];omega
 have g:(cK f.cS 1 6 && cK f.most 1 6)=true:=by simp[cK];omega
 unfold Go.Proofs.YtldmpfccgajobaaGreatDoor.check;rw[c,if_neg (by simp),d,if_neg (by simp),if_neg (by omega),g,if_neg (by simp),if_neg (by omega)]
 exact qm λe i=>(h.vr e i).check
theorem kY.fits{most:Int}{f:Fr}(h:kY most f)(g:most<=1000):f.Fits:=by
 obtain⟨i,a,b⟩:=h.Jd;have:=h.len;have j:=h.cN;refine⟨by omega,by omega,λl c=>?_,λe d=>?_⟩
 . have:=b.row l c;omega
 . have:=(iE (h.vr e d).marks).2;omega
end Go.Proofs.YtldmpfccgajobaaGreatDoor
namespace Go.Proofs.YtldmpfccgajobaaGreatDoor
open Tryz (prog)
open Go.bG Go.Conc
set_option maxHeartbeats 2000000
set_option maxRecDepth 4000
variable{m:Mo}{σ:aa}{KF:eI->aa->Prop}
theorem qo{l:List Nat}(h:l.Nodup){i j:Nat}{a:i<l.length}{b:j<l.length}(c:i≠j):l[i]≠l[j]:=by
 rw[List.Nodup,List.pairwise_iff_getElem]at h;rcases Nat.lt_or_ge i j with q|q
 . exact h i j a b q
 . exact Ne.symm (h j i b a (by omega))
def gi(rs:List Nat)(M:List (List Int))(n j:Nat):List AV:=(List.range rs.length).map λl=>if l<j then ints (M.getD l [])else AV.eu (rs.getD l 0) 0 n n
theorem mF(rs:List Nat)(M:List (List Int))(n j:Nat):(gi rs M n j).length=rs.length:=by rw[gi,List.length_map,List.length_range]
theorem mG{rs:List Nat}{M:List (List Int)}{n j l:Nat}(a:l<rs.length):(gi rs M n j)[l]?=some (if l<j then ints (M.getD l [])else AV.eu (rs.getD l 0) 0 n n):=by rw[gi,List.getElem?_map,List.getElem?_range a];rfl
theorem Av{fid x:Nat}{ro:Option Nat}{hold:List Entry}{K:bG.Exit->St->Prop}{todo:List Item}{env:Env}{D:List kL}{rc:Rec}{d n at_:Nat}{rs:List Nat}{M:List (List Int)}{cs:List AV}{spr:bV}(σ0:aa)(o:rs.Nodup)(z:∀l,l<rs.length->(M.getD l []).length=n)(p:at_<cs.length)(hd:d∉rs)
 (A:∀σ',σ' d=some (.cells (cs.set at_ (.sl 1 (gi rs M n rs.length) spr)))->(∀y,y≠d->y∉rs->σ' y=σ0 y)->ab prog m fid x ro hold todo ⟨env,σ',D,rc⟩ K):
 ∀(f j:Nat),j+f=rs.length->∀σ,σ d=some (.cells (cs.set at_ (.sl 1 (gi rs M n j) spr)))->(∀(l:Nat) (c:l<rs.length),j<=l->σ rs[l]=some (.cells ((M.getD l []).map int)))->(∀y,y≠d->y∉rs->σ y=σ0 y)->ab prog m fid x ro hold todo ⟨env,σ,D,rc⟩ K
 | 0,j,G,σ,t,_,u=>by
   have:j=rs.length:=by omega
   subst this;exact A σ t u
 | f + 1,j,G,σ,t,B,u=>by
   have a:j<rs.length:=by omega
   have v:=z j a;have w:d≠rs[j]:=λe=>hd (e ▸ List.getElem_mem a)
   have h:∀e∈gi rs M n j,e.cells=[e]:=λe s=>by unfold gi at s;obtain⟨l,_,rfl⟩:=List.mem_map.1 s;split<;>rfl
   have hlen:(gi rs M n j).length=rs.length:=mF _ _ _ _;have g:∀l,l<rs.length->(gi rs M n j)[l]?=some (if l<j then ints (M.getD l [])else AV.eu (rs.getD l 0) 0 n n):=λl c=>mG c
   have k:(gi rs M n j).set j (.sl 1 ((M.getD j []).map int) .any)=gi rs M n (j+1):=by
    apply List.ext_getElem?;intro l
    by_cases c:l<rs.length
    . have H:(gi rs M n (j+1))[l]?=some (if l<j+1 then ints (M.getD l [])else AV.eu (rs.getD l 0) 0 n n):=mG c
      rw[H]
      by_cases r:l=j
      . subst r
        rw[List.getElem?_set_self (by omega),if_pos (by omega)]
      . rw[List.getElem?_set_ne (Ne.symm r),g l c]
        by_cases q:l<j
        . rw[if_pos q,if_pos (by omega)]
        . rw[if_neg q,if_neg (by omega)]
    . rw[List.getElem?_eq_none (by rw[List.length_set,hlen];omega),List.getElem?_eq_none (by rw[mF];omega)]
   refine ab.J7 (b:=rs[j]) (d:=d) (i:=j) (l:=(M.getD j []).map int) (at_:=at_) w (B j a (Nat.le_refl _)) (λe s=>by obtain⟨_,_,rfl⟩:=List.mem_map.1 s;rfl) t (by rw[List.getElem?_set_self p]) h (by rw[g j a,if_neg (by omega),List.length_map,v];simp[List.getD_eq_getElem?_getD,a]) ?_
   rw[List.set_set,k];refine Av σ0 o z p hd A f (j+1) (by omega) _ (aa.an _ _ _) (λl c C=>?_) (λy E F=>?_)
   . have I:rs[l]≠d:=λe=>hd (e ▸ List.getElem_mem c)
     rw[aa.aj _ _ I];simp only[aa.del,qo o (show l≠j by omega),if_false]
     exact B l c (by omega)
   . rw[aa.aj _ _ E]
     have:y≠rs[j]:=λe=>F (e ▸ List.getElem_mem a)
     simp only[aa.del,this,if_false];exact u y E F
section
variable{c k:Nat}{nums:List Int}
abbrev eH:List AV:=[.lit (.slice none 0 0),.lit (.slice none 0 0),int 0,int 0,int 0,int 0]
theorem uY{cnt:Int}(hk:k+20+11*cnt.toNat<1000000)(hn:nums.length<1152921504606846976)(hr:0<=cnt/\cnt<=1000)(hb:bJ c nums k σ)(h:∀(f:Fr) (a:AV) σ',kY cnt f->nv c nums (k+20+11*cnt.toNat) σ σ'->(f.aq=[]->a=.lit (.slice none 0 0))/\(f.aq≠[]->a=qb f.aq)->KF (.val (.agg [a,rows f.roads,int f.bh,int f.gE,int f.cS,int f.most])) σ'):ar prog m 56 [.ref c 0,int cnt] σ KF:=by
 obtain⟨n0,s0,_,ez⟩:=id hb;refine fs Qj 2 Tryz.func56 rfl rfl (by rfl) (by kernel_rfl) ?_
 simp[Tryz.f56];refine cZ.intro λA h4=>?_
 have n4:c≠A:=λe=>by subst e;rw[ez]at h4;cases h4
 have H:∀x,bJ c nums k (σ.set A x):=λx=>⟨n0,s0,by assumption,by rw[aa.aj _ _ n4];exact ez⟩
 simp;refine cf Tryz.func104 rfl (jd (by omega) hn ⟨by omega,by omega⟩ ⟨by omega,by omega⟩ (H _) λcS hz gD ec=>?_)
 refine rn ?_;simp;refine cf Tryz.func97 rfl (nX (l:=[1,2,2,3,3,6]) (by omega) hn ⟨by simp,by simp⟩ ec.1 λmost r eA ca=>?_)
 refine rn ?_;simp;refine cZ.intro λw h5=>?_
 have a7:A≠c:=Ne.symm n4;have b1:nv c nums (k+2) (σ.set A (.cells eH)) r:=ec.trans ca;have ee:r A=some (.cells eH):=by rw[b1.2 A a7,aa.an]
 have N:w≠c:=λe=>by subst e;obtain⟨_,_,_,q⟩:=ca.1;rw[q]at h5;cases h5
 have P:w≠A:=λe=>by subst e;rw[ee]at h5;cases h5
 have Y:σ w=none:=by rw[b1.2 w N,aa.aj _ _ P]at h5;exact h5
 simp[aJ]
 have eB:∀x,bJ c nums (k+2) (r.set w x):=λx=>by obtain⟨n,z,h1,h2⟩:=ca.1;exact⟨n,z,by omega,by rw[aa.aj _ _ (Ne.symm N)];exact h2⟩
 refine cf Tryz.func104 rfl (jd (by omega) hn ⟨by omega,by omega⟩ ⟨by omega,by omega⟩ (eB _) λcN g gG eg=>?_)
 refine rn ?_;simp;refine cf Tryz.func30 rfl (fZ (by omega) hn ⟨by omega,by omega⟩ eg.1 λlo b5 gH ei=>?_)
 refine rn ?_;simp;have b2:nv c nums (k+4) (r.set w (.cells [.lit (.slice none 0 0),.lit (.slice none 0 0),int 0,int 0,int cS,int most])) b5:=eg.trans ei;obtain⟨sp,rfl⟩:∃sp:Nat,cN=(sp:Int):=⟨cN.toNat,by omega⟩
 have hA:1<=sp/\sp<=3:=by omega
 have gP:0<=lo/\lo<=4:=by omega
 have eK:1<=cS/\cS<=4:=by omega
 have ej:most=1\/most=2\/most=3\/most=6:=by simp at eA;omega
 have eR:b5 w=some (.cells [.lit (.slice none 0 0),.lit (.slice none 0 0),int 0,int 0,int cS,int most]):=by rw[b2.2 w N,aa.an]
 have eW:b5 A=some (.cells eH):=by rw[b2.2 A a7,aa.aj _ _ (Ne.symm P)];exact ee
 have dd:(σ.del c).Le b5:=λy x p=>by
  have y1:y≠c:=λe=>by subst e;simp[aa.del]at p
  have y0:σ y=some x:=by simpa[aa.del,y1]using p
  have y5:y≠w:=λe=>by subst e;rw[Y]at y0;cases y0
  have y4:y≠A:=λe=>by subst e;rw[h4]at y0;cases y0
  rw[b2.2 y y1,aa.aj _ _ y5,b1.2 y y1,aa.aj _ _ y4];exact y0
 have b7:=ei.1;clear ec ca eg ei b1 b2 H eB h5 ee gD eA gG gH
 refine ab.loop sp (λi s=>∃env σ' a rs,s=⟨env,σ',[],.no⟩/\env 0=.ref c 0/\env 1=int cnt/\env 4=.ref A 0/\env 5=.ref w 0/\env 6=int sp/\env 7=int lo/\env 8=int i/\bJ c nums (k+4) σ'/\σ' A=some (.cells eH)/\σ' w=some (.cells [.lit (.slice none 0 0),a,int 0,int 0,int cS,int most])/\
  Tok (σ.del c) σ' a 1 (rs.map λb:Nat=>AV.eu b 0 sp sp)/\rs.length=i/\rs.Nodup/\(∀b∈rs,σ b=none/\b≠c/\b≠A/\b≠w/\σ' b=some (.cells (List.replicate sp (int 0))))) ⟨_,b5,.lit (.slice none 0 0),[],rfl,by simp,by simp,by simp,by simp,by simp,by simp,by simp,b7,eW,eR,⟨dd,.inl ⟨rfl,rfl⟩⟩,rfl,List.nodup_nil,by simp⟩ ?_
 rintro c0 i _ hi ⟨env,σ',a,rs,rfl,O,e1,Z,G,J,e7,e8,K,q4,Q,u,b8,a8,ad⟩ ih
 have S:=u.cells
 rcases Nat.lt_or_ge i sp with g1|g1
 . have gR:(i:Int)<sp:=by omega
   have f1:-9223372036854775808<=(i:Int)+1/\(i:Int)+1<=9223372036854775807:=by omega
   have ep:∀al:aa,Tok (σ.del c) al a 1 (rs.map λb:Nat=>AV.eu b 0 sp sp)->∀y l,al y=some (.cells l)->cH a≠some y:=λal I y l p e=>by obtain⟨_,_,q⟩:=I.be e;rw[p]at q;cases q
   have fresh:∀b,σ' b=none->σ b=none/\b≠c/\b≠A/\b≠w/\w≠b/\b∉rs:=λb B=>by
    have n1:b≠c:=λe=>by subst e;obtain⟨_,_,_,q⟩:=K;rw[q]at B;cases B
    refine⟨?_,n1,λe=>(by subst e;rw[q4]at B;cases B),λe=>(by subst e;rw[Q]at B;cases B),λe=>(by subst e;rw[Q]at B;cases B),λe=>(by rw[(ad b e).2.2.2.2]at B;cases B)⟩
    cases e:σ b with
    |none=>rfl
    |some x=>have:=u.1 b x (by simp[aa.del,n1,e]);rw[B]at this;cases this
   refine rn ?_;simp[G,J,e8,Q,gR];refine⟨?_,?_⟩
   . ((
       refine mw lay rfl cr rfl qa rfl (by decide) rfl rfl (n:=sp) (by simp[J]) (by simp[J]) ⟨by omega,by omega⟩ λb B=>?_
       obtain⟨cb,av,ax,ay,b9,b0⟩:=fresh b B;have up:=u.up (aa.fa (x:=.cells (List.replicate sp (int 0))) (aa.le_refl _) B);have b6:(σ'.set b (.cells (List.replicate sp (int 0)))) w=some (.cells [.lit (.slice none 0 0),a,int 0,int 0,int cS,int most]):=(aa.aj _ _ b9).trans Q;refine pg ?_;simp[G,J,b6,S.1,S.2]))
     ((
       refine aH lay rfl rfl rfl lJ rfl lJ rfl cr (by decide) (by simp;omega) (σ0:=(σ'.set b (.cells (List.replicate sp (int 0)))).off a) (es:=rs.map λb:Nat=>AV.eu b 0 sp sp) (xs:=[AV.eu b 0 sp sp]) (by simpa using up.here.1) (.inr ⟨_,by simp;rfl⟩) λa' g t=>?_
       have C:=t.cells;have F:∀y l,(σ'.set b (.cells (List.replicate sp (int 0)))) y=some (.cells l)->g y=some (.cells l):=λy l p=>t.1 _ _ (by rw[aa.iA (ep _ up y l p)];exact p)
       have X:=F _ _ b6;refine pg ?_;simp[G,X,C.1,C.2,aJ];refine rn ?_;simp[e8,f1.1,f1.2];obtain⟨nb,zb,H,D⟩:=K
       have E:Tok (σ.del c) g a' 1 ((rs++[b]).map λb:Nat=>AV.eu b 0 sp sp):=by have:=t.base up.here.2;simpa using this
       refine ih _ g1 ⟨_,_,a',rs++[b],rfl,by simp[O],by simp[e1],by simp[Z],by simp[G],by simp[J],by simp[e7],by simp,⟨nb,zb,H,?_⟩,?_,aa.an _ _ _,E.beside (by simp[aa.del,N,Y]) (λe=>by obtain⟨_,_,q⟩:=E.be e;rw[X]at q;cases q),by simp[b8],?_,?_⟩
       . rw[aa.aj _ _ (Ne.symm N)];exact F _ _ ((aa.aj _ _ (Ne.symm av)).trans D)
       . rw[aa.aj _ _ (Ne.symm P)];exact F _ _ ((aa.aj _ _ (Ne.symm ax)).trans q4)
       . rw[List.nodup_append]
         exact⟨a8,by simp,λx I y p=>by simp at p;subst p;exact λe=>b0 (e ▸ I)⟩
       . intro d hd
         rcases List.mem_append.1 hd with hd|hd
         . obtain⟨p1,p2,p3,p4,p5⟩:=ad d hd
           have bq:d≠b:=λe=>b0 (e ▸ hd)
           exact⟨p1,p2,p3,p4,by rw[aa.aj _ _ p4];exact F _ _ ((aa.aj _ _ bq).trans p5)⟩
         . simp at hd
           subst hd;exact⟨cb,av,ax,ay,by rw[aa.aj _ _ ay];exact F _ _ (aa.an _ _ _)⟩))
   . ((
       refine mw lay rfl cr rfl qa rfl (by decide) rfl rfl (n:=sp) (by simp[J]) (by simp[J]) ⟨by omega,by omega⟩ λb B=>?_
       obtain⟨cb,av,ax,ay,b9,b0⟩:=fresh b B;have up:=u.up (aa.fa (x:=.cells (List.replicate sp (int 0))) (aa.le_refl _) B);have b6:(σ'.set b (.cells (List.replicate sp (int 0)))) w=some (.cells [.lit (.slice none 0 0),a,int 0,int 0,int cS,int most]):=(aa.aj _ _ b9).trans Q;refine pg ?_;simp[G,J,b6,S.1,S.2]))
     refine⟨?_,?_⟩
     . ((
         refine aH lay rfl rfl rfl lJ rfl lJ rfl cr (by decide) (by simp;omega) (σ0:=(σ'.set b (.cells (List.replicate sp (int 0)))).off a) (es:=rs.map λb:Nat=>AV.eu b 0 sp sp) (xs:=[AV.eu b 0 sp sp]) (by simpa using up.here.1) (.inr ⟨_,by simp;rfl⟩) λa' g t=>?_
         have C:=t.cells;have F:∀y l,(σ'.set b (.cells (List.replicate sp (int 0)))) y=some (.cells l)->g y=some (.cells l):=λy l p=>t.1 _ _ (by rw[aa.iA (ep _ up y l p)];exact p)
         have X:=F _ _ b6;refine pg ?_;simp[G,X,C.1,C.2,aJ];refine rn ?_;simp[e8,f1.1,f1.2];obtain⟨nb,zb,H,D⟩:=K
         have E:Tok (σ.del c) g a' 1 ((rs++[b]).map λb:Nat=>AV.eu b 0 sp sp):=by have:=t.base up.here.2;simpa using this
         refine ih _ g1 ⟨_,_,a',rs++[b],rfl,by simp[O],by simp[e1],by simp[Z],by simp[G],by simp[J],by simp[e7],by simp,⟨nb,zb,H,?_⟩,?_,aa.an _ _ _,E.beside (by simp[aa.del,N,Y]) (λe=>by obtain⟨_,_,q⟩:=E.be e;rw[X]at q;cases q),by simp[b8],?_,?_⟩
         . rw[aa.aj _ _ (Ne.symm N)];exact F _ _ ((aa.aj _ _ (Ne.symm av)).trans D)
         . rw[aa.aj _ _ (Ne.symm P)];exact F _ _ ((aa.aj _ _ (Ne.symm ax)).trans q4)
         . rw[List.nodup_append]
           exact⟨a8,by simp,λx I y p=>by simp at p;subst p;exact λe=>b0 (e ▸ I)⟩
         . intro d hd
           rcases List.mem_append.1 hd with hd|hd
           . obtain⟨p1,p2,p3,p4,p5⟩:=ad d hd
             have bq:d≠b:=λe=>b0 (e ▸ hd)
             exact⟨p1,p2,p3,p4,by rw[aa.aj _ _ p4];exact F _ _ ((aa.aj _ _ bq).trans p5)⟩
           . simp at hd
             subst hd;exact⟨cb,av,ax,ay,by rw[aa.aj _ _ ay];exact F _ _ (aa.an _ _ _)⟩))
     . ((
         refine aH lay rfl rfl rfl lJ rfl lJ rfl cr (by decide) (by simp;omega) (σ0:=(σ'.set b (.cells (List.replicate sp (int 0)))).off a) (es:=rs.map λb:Nat=>AV.eu b 0 sp sp) (xs:=[AV.eu b 0 sp sp]) (by simpa using up.here.1) (.inr ⟨_,by simp;rfl⟩) λa' g t=>?_
         have C:=t.cells;have F:∀y l,(σ'.set b (.cells (List.replicate sp (int 0)))) y=some (.cells l)->g y=some (.cells l):=λy l p=>t.1 _ _ (by rw[aa.iA (ep _ up y l p)];exact p)
         have X:=F _ _ b6;refine pg ?_;simp[G,X,C.1,C.2,aJ];refine rn ?_;simp[e8,f1.1,f1.2];obtain⟨nb,zb,H,D⟩:=K
         have E:Tok (σ.del c) g a' 1 ((rs++[b]).map λb:Nat=>AV.eu b 0 sp sp):=by have:=t.base up.here.2;simpa using this
         refine ih _ g1 ⟨_,_,a',rs++[b],rfl,by simp[O],by simp[e1],by simp[Z],by simp[G],by simp[J],by simp[e7],by simp,⟨nb,zb,H,?_⟩,?_,aa.an _ _ _,E.beside (by simp[aa.del,N,Y]) (λe=>by obtain⟨_,_,q⟩:=E.be e;rw[X]at q;cases q),by simp[b8],?_,?_⟩
         . rw[aa.aj _ _ (Ne.symm N)];exact F _ _ ((aa.aj _ _ (Ne.symm av)).trans D)
         . rw[aa.aj _ _ (Ne.symm P)];exact F _ _ ((aa.aj _ _ (Ne.symm ax)).trans q4)
         . rw[List.nodup_append]
           exact⟨a8,by simp,λx I y p=>by simp at p;subst p;exact λe=>b0 (e ▸ I)⟩
         . intro d hd
           rcases List.mem_append.1 hd with hd|hd
           . obtain⟨p1,p2,p3,p4,p5⟩:=ad d hd
             have bq:d≠b:=λe=>b0 (e ▸ hd)
             exact⟨p1,p2,p3,p4,by rw[aa.aj _ _ p4];exact F _ _ ((aa.aj _ _ bq).trans p5)⟩
           . simp at hd
             subst hd;exact⟨cb,av,ax,ay,by rw[aa.aj _ _ ay];exact F _ _ (aa.an _ _ _)⟩))
 . have gU:sp=i:=by omega
   subst gU;clear ih b7 eR eW dd
   obtain⟨spr,rfl⟩:∃spr,a=.sl 1 (rs.map λb:Nat=>AV.eu b 0 sp sp) spr:=by
    rcases u.2 with⟨_,e⟩|e|⟨_,_,_,e,_⟩
    . have:=congrArg List.length e
      rw[List.length_map]at this;simp only[List.length_nil]at this;omega
    . exact⟨_,e⟩
    . exact⟨_,e⟩
   have T:=u.1;clear u
   have a9:∀(j:Nat) (hj:j<rs.length),σ rs[j]=none/\rs[j]≠c/\rs[j]≠A/\rs[j]≠w:=λj hj=>by obtain⟨p1,p2,p3,p4,_⟩:=ad _ (List.getElem_mem hj);exact⟨p1,p2,p3,p4⟩
   refine rn ?_;simp[J,e8]
   have o:∀(j:Nat) (hj:j<rs.length),σ' rs[j]=some (.cells (((List.replicate sp (List.replicate sp (0:Int))).getD j []).map int)):=λj hj=>by rw[(ad _ (List.getElem_mem hj)).2.2.2.2];simp[List.getD_eq_getElem?_getD,show j<sp by omega]
   clear ad
   refine ab.loop sp (λi s=>∃env σ' M,s=⟨env,σ',[],.no⟩/\env 0=.ref c 0/\env 1=int cnt/\env 4=.ref A 0/\env 5=.ref w 0/\env 6=int sp/\env 7=int lo/\env 9=int i/\bJ c nums (k+4+3*i) σ'/\σ' A=some (.cells eH)/\σ' w=some (.cells [.lit (.slice none 0 0),.sl 1 (rs.map λb:Nat=>AV.eu b 0 sp sp) spr,int 0,int 0,int cS,int most])/\
    (σ.del c).Le σ'/\Dm sp lo i 0 M/\∀(j:Nat) (hj:j<rs.length),σ' rs[j]=some (.cells ((M.getD j []).map int))) ⟨_,σ',_,rfl,by simp[O],by simp[e1],by simp[Z],by simp[G],by simp[J],by simp[e7],by simp,K,q4,Q,T,Dm.start sp lo,o⟩ ?_
   clear O e1 Z G J e7 e8 K q4 Q T o
   rintro c1 i _ hB ⟨env,σ',M,rfl,O,e1,Z,G,J,e7,e9,K,q4,Q,T,hM,o⟩ ih
   rcases Nat.lt_or_ge i sp with g2|g2
   . have pP:(i:Int)<sp:=by omega
     refine rn ?_;simp[J,e9,pP]
     refine ab.loop i (λj s=>∃env σ' M,s=⟨env,σ',[],.no⟩/\env 0=.ref c 0/\env 1=int cnt/\env 4=.ref A 0/\env 5=.ref w 0/\env 6=int sp/\env 7=int lo/\env 9=int i/\env 10=int j/\bJ c nums (k+4+3*i+j) σ'/\σ' A=some (.cells eH)/\σ' w=some (.cells [.lit (.slice none 0 0),.sl 1 (rs.map λb:Nat=>AV.eu b 0 sp sp) spr,int 0,int 0,int cS,int most])/\
      (σ.del c).Le σ'/\Dm sp lo i j M/\∀(j:Nat) (hj:j<rs.length),σ' rs[j]=some (.cells ((M.getD j []).map int))) ⟨_,σ',M,rfl,by simp[O],by simp[e1],by simp[Z],by simp[G],by simp[J],by simp[e7],by simp[e9],by simp,K,q4,Q,T,hM,o⟩ ?_
     clear O e1 Z G J e7 e9 K q4 Q T hM o
     rintro c2 j _ hj ⟨env,σ',M,rfl,O,e1,Z,G,J,e7,e9,ir,K,q4,Q,T,hM,o⟩ fc
     rcases Nat.lt_or_ge j i with g3|g3
     . have pf:(j:Int)<i:=by omega
       have f1:-9223372036854775808<=(j:Int)+1/\(j:Int)+1<=9223372036854775807:=by omega
       have f2:-9223372036854775808<=2*lo/\2*lo<=9223372036854775807:=by omega
       refine rn ?_;simp[O,e7,e9,ir,pf,f2.1,f2.2];refine cf Tryz.func104 rfl (jd (by omega) hn ⟨by omega,by omega⟩ ⟨by omega,by omega⟩ K λv r hv hd=>?_)
       have s5:r w=some (.cells [.lit (.slice none 0 0),.sl 1 (rs.map λb:Nat=>AV.eu b 0 sp sp) spr,int 0,int 0,int cS,int most]):=by rw[hd.2 w N];exact Q
       have s4:r A=some (.cells eH):=by rw[hd.2 A a7];exact q4
       have dj:i<rs.length:=by omega
       have dr:j<rs.length:=by omega
       obtain⟨z1,z2,z3,z4⟩:=a9 i dj;obtain⟨y1,y2,y3,y4⟩:=a9 j dr;have si:r rs[i]=some (.cells ((M.getD i []).map int)):=by rw[hd.2 _ z2];exact o i dj
       have sj:r rs[j]=some (.cells ((M.getD j []).map int)):=by rw[hd.2 _ y2];exact o j dr
       have h3:rs[i]≠rs[j]:=qo a8 (by omega)
       have fi:=Ne.symm h3;obtain⟨Ri,fl⟩:∃R,R=M.getD i []:=⟨_,rfl⟩;obtain⟨Rj,fp⟩:∃R,R=M.getD j []:=⟨_,rfl⟩;have li:=hM.row i (by omega)
       have lj:=hM.row j (by omega)
       rw[<-fl]at si li;rw[<-fp]at sj lj;have h6:j+1<=sp:=by omega
       have h7:i+1<=sp:=by omega
       have g4:j<sp:=by omega
       have h8:(j:Int)<sp:=by omega
       have ft:(i:Int)<sp:=by omega
       have hF:∀g,g=(r.set rs[i] (.cells ((Ri.map int).set j (int v)))).set rs[j] (.cells ((Rj.map int).set i (int v)))->bJ c nums (k+4+3*i+(j+1)) g/\g A=some (.cells eH)/\g w=some (.cells [.lit (.slice none 0 0),.sl 1 (rs.map λb:Nat=>AV.eu b 0 sp sp) spr,int 0,int 0,int cS,int most])/\(σ.del c).Le g/\∀(l:Nat) (L:l<rs.length),g rs[l]=some (.cells (((vO M i j v).getD l []).map int)):=λg e3=>by
        subst e3;refine⟨?_,?_,?_,λy x p=>?_,λl L=>?_⟩
        . obtain⟨nb,zb,H,D⟩:=hd.1
          exact⟨nb,zb,by omega,by rw[aa.aj _ _ (Ne.symm y2),aa.aj _ _ (Ne.symm z2)];exact D⟩
        . rw[aa.aj _ _ (Ne.symm y3),aa.aj _ _ (Ne.symm z3)];exact s4
        . rw[aa.aj _ _ (Ne.symm y4),aa.aj _ _ (Ne.symm z4)];exact s5
        . have w1:y≠c:=λe=>by subst e;simp[aa.del]at p
          have w0:σ y=some x:=by simpa[aa.del,w1]using p
          have w2:y≠rs[i]:=λe=>by rw[e,z1]at w0;cases w0
          have w3:y≠rs[j]:=λe=>by rw[e,y1]at w0;cases w0
          rw[aa.aj _ _ w3,aa.aj _ _ w2,hd.2 y w1];exact T y x p
        . rw [wV (by rw[hM.len];omega) (by rw[hM.len];omega) (by omega),<-fl,<-fp]
          by_cases q1:l=j
          . subst q1
            rw[if_pos rfl,aa.an,List.map_set]
          . rw[if_neg q1,aa.aj _ _ (qo a8 q1)]
            by_cases q2:l=i
            . subst q2
              rw[if_pos rfl,aa.an,List.map_set]
            . rw[if_neg q2,aa.aj _ _ (qo a8 q2),hd.2 _ (a9 l L).2.1]
              exact o l L
       have U:=hF _ rfl;clear hF;refine rn ?_;simp[G,e9,ir,s5,b8,g2,g4,h8,ft,h6,h7,li,lj,si,sj,aa.aj,fi];refine⟨?_,?_⟩
       . refine rn ?_
         simp[ir,f1.1,f1.2];exact fc _ g3 ⟨_,_,vO M i j v,rfl,by simp[O],by simp[e1],by simp[Z],by simp[G],by simp[J],by simp[e7],by simp[e9],by simp,U.1,U.2.1,U.2.2.1,U.2.2.2.1,hM.next (by omega) g3 ⟨hv.1,by omega⟩,U.2.2.2.2⟩
       . refine rn ?_
         simp[ir,f1.1,f1.2];exact fc _ g3 ⟨_,_,vO M i j v,rfl,by simp[O],by simp[e1],by simp[Z],by simp[G],by simp[J],by simp[e7],by simp[e9],by simp,U.1,U.2.1,U.2.2.1,U.2.2.2.1,hM.next (by omega) g3 ⟨hv.1,by omega⟩,U.2.2.2.2⟩
     . have h9:i=j:=by omega
       subst h9;have f1:-9223372036854775808<=(i:Int)+1/\(i:Int)+1<=9223372036854775807:=by omega
       refine rn ?_;simp[e9,ir,f1.1,f1.2];exact ih _ g2 ⟨_,_,M,rfl,by simp[O],by simp[e1],by simp[Z],by simp[G],by simp[J],by simp[e7],by simp,K.mono (by omega),q4,Q,T,hM.line,o⟩
   . have ha:sp=i:=by omega
     subst ha;clear ih;have fv:∀l,l<rs.length->(M.getD l []).length=sp:=λl L=>hM.row l (by omega)
     have fw:w∉rs:=λe=>by obtain⟨l,L,e'⟩:=List.mem_iff_getElem.1 e;exact(a9 l L).2.2.2 e'
     have b3:rs.map (λb:Nat=>AV.eu b 0 sp sp)=gi rs M sp 0:=by
      apply List.ext_getElem?;intro l
      by_cases L:l<rs.length
      . rw[mG L,if_neg (by omega),List.getElem?_map,List.getElem?_eq_getElem L]
        simp[List.getD_eq_getElem?_getD,L]
      . rw[List.getElem?_eq_none (by rw[List.length_map];omega),List.getElem?_eq_none (by rw[mF];omega)]
     have b4:gi rs M sp rs.length=M.map ints:=by
      have et:=hM.len;apply List.ext_getElem?;intro l
      by_cases L:l<rs.length
      . have fx:l<M.length:=by omega
        rw[mG L,if_pos L,List.getElem?_map,List.getElem?_eq_getElem fx];simp[List.getD_eq_getElem?_getD,fx]
      . rw[List.getElem?_eq_none (by rw[mF];omega),List.getElem?_eq_none (by rw[List.length_map];omega)]
     rw[b3]at Q;refine Av (d:=w) (n:=sp) (at_:=1) (rs:=rs) (M:=M) (cs:=[.lit (.slice none 0 0),.bz,int 0,int 0,int cS,int most]) (spr:=spr) σ' a8 fv (by simp) fw (λg ev fO=>?_) rs.length 0 (by omega) σ' (by simpa using Q) (λl L _=>o l L) (λ_ _ _=>rfl)
     rw[b4]at ev;have gd:=hM.fin;have et:=hM.len
     have F:∀(j:Nat),j≠w->(∀(l:Nat) (L:l<rs.length),rs[l]≠j)->g j=σ' j:=λj h1 h2=>fO j h1 λe=>by obtain⟨l,L,e'⟩:=List.mem_iff_getElem.1 e;exact h2 l L e'
     have gj:bJ c nums (k+4+3*sp) g:=by obtain⟨nb,zb,H,D⟩:=K;exact⟨nb,zb,H,by rw[F c (Ne.symm N) (λl L=>(a9 l L).2.1)];exact D⟩
     have gp:g A=some (.cells eH):=by rw[F A (Ne.symm P) (λl L=>(a9 l L).2.2.1)];exact q4
     have gw:g w=some (.cells [.lit (.slice none 0 0),.sl 1 (M.map ints) spr,int 0,int 0,int cS,int most]):=by simpa using ev
     have dx:(σ.del c).Le g:=λy x p=>by
      have w1:y≠c:=λe=>by subst e;simp[aa.del]at p
      have w0:σ y=some x:=by simpa[aa.del,w1]using p
      rw[F y (λe=>by subst e;rw[Y]at w0;cases w0) (λl L e=>by subst e;rw[(a9 l L).1]at w0;cases w0)]
      exact T y x p
     clear ev fO o b3 b4 K q4 Q T hM fv fw F a9 a8 b8;refine rn ?_;simp[O,J,e9];refine cf Tryz.func30 rfl (fZ (by omega) hn ⟨by omega,by omega⟩ gj λfr b5 hD bA=>?_)
     refine rn ?_;simp[O];refine cf Tryz.func104 rfl (jd (by omega) hn ⟨by omega,by omega⟩ ⟨by omega,by omega⟩ bA.1 λto cg hE bB=>?_)
     have X:cg w=some (.cells [.lit (.slice none 0 0),.sl 1 (M.map ints) spr,int 0,int 0,int cS,int most]):=by rw[bB.2 w N,bA.2 w N];exact gw
     refine rn ?_;simp[O,e1,G,X,aJ];have t4:cg A=some (.cells eH):=by rw[bB.2 A a7,bA.2 A a7];exact gp
     have dy:(σ.del c).Le cg:=λy x p=>by
      have w1:y≠c:=λe=>by subst e;simp[aa.del]at p
      rw[bB.2 y w1,bA.2 y w1];exact dx y x p
     have gA:∀x,bJ c nums (k+6+3*sp) (cg.set w x):=λx=>by obtain⟨n,z,h1,h2⟩:=bB.1;exact⟨n,z,by omega,by rw[aa.aj _ _ (Ne.symm N)];exact h2⟩
     refine cf Tryz.func30 rfl (fZ (by omega) hn ⟨by omega,by omega⟩ (gA _) λq cl hG c6=>?_)
     refine rn ?_;simp;have u5:cl w=some (.cells [.lit (.slice none 0 0),.sl 1 (M.map ints) spr,int fr,int to,int cS,int most]):=by rw[c6.2 w N,aa.an]
     have u4:cl A=some (.cells eH):=by rw[c6.2 A a7,aa.aj _ _ (Ne.symm P)];exact t4
     have ea:(σ.del c).Le cl:=λy x p=>by
      have w1:y≠c:=λe=>by subst e;simp[aa.del]at p
      have w0:σ y=some x:=by simpa[aa.del,w1]using p
      rw[c6.2 y w1,aa.aj _ _ (λe=>by subst e;rw[Y]at w0;cases w0)];exact dy y x p
     obtain⟨qn,rfl⟩:∃qn:Nat,q=(qn:Int):=⟨q.toNat,by omega⟩
     have hH:(qn:Int)<=cnt:=by omega
     have eb:=c6.1;clear bA bB c6 gA gj gp gw dx dy X t4
     refine ab.loop qn (λi s=>∃env σ' a es,s=⟨env,σ',[],.no⟩/\env 0=.ref c 0/\env 4=.ref A 0/\env 5=.ref w 0/\env 6=int sp/\env 13=int ((qn:Int)-i)/\bJ c nums (k+7+3*sp+11*i) σ'/\σ' A=some (.cells eH)/\σ' w=some (.cells [a,.sl 1 (M.map ints) spr,int fr,int to,int cS,int most])/\
      Tok (σ.del c) σ' a 6 (es.map bd)/\es.length=i/\(∀e∈es,r7 sp e)/\(es=[]->a=.lit (.slice none 0 0))) ⟨_,cl,.lit (.slice none 0 0),[],rfl,by simp[O],by simp[Z],by simp[G],by simp[J],by simp,eb.mono (by omega),u4,u5,⟨ea,.inl ⟨rfl,rfl⟩⟩,rfl,by simp,λ_=>rfl⟩ ?_
     clear O e1 Z G J e7 e9 eb u4 u5 ea
     rintro c3 i _ hI ⟨env,σ',a,es,rfl,O,Z,G,J,c7,cm,q4,Q,u,ey,cv,gB⟩ ih
     have S:=u.cells;have c8:∀al:aa,Tok (σ.del c) al a 6 (es.map bd)->∀y l,al y=some (.cells l)->cH a≠some y:=λal I y l p e=>by obtain⟨_,_,q⟩:=I.be e;rw[p]at q;cases q
     have gC:∃l,σ' c=some (.cells l):=by obtain⟨_,_,_,q⟩:=cm;exact⟨_,q⟩
     rcases Nat.lt_or_ge i qn with g1|g1
     . have f1 : -9223372036854775808<=(qn:Int)-i-1/\(qn:Int)-i-1<=9223372036854775807:=by omega
       refine rn ?_;simp[O,G,J,c7,Q,g1];refine⟨?_,?_⟩
       . ((
           refine cf Tryz.func43 rfl (mE (by omega) hn ⟨by omega,by omega⟩ cm λe r he hd=>?_)
           have s5:r w=some (.cells [a,.sl 1 (M.map ints) spr,int fr,int to,int cS,int most]):=by rw[hd.2 w N];exact Q
           have s4:r A=some (.cells eH):=by rw[hd.2 A a7];exact q4
           have V:Tok (σ.del c) r a 6 (es.map bd):=qj u (by simp[aa.del]) gC hd.2
           refine pg ?_;simp[G,s5,S.1,S.2]))
         ((
           refine aH lay rfl rfl rfl my rfl my rfl vL (by decide) (by simp;omega) (σ0:=r.off a) (es:=es.map bd) (xs:=[bd e]) (by simpa using V.here.1) (.inr ⟨_,by simp;rfl⟩) λa' g t=>?_
           have C:=t.cells;have F:∀y l,r y=some (.cells l)->g y=some (.cells l):=λy l p=>t.1 _ _ (by rw[aa.iA (c8 _ V y l p)];exact p)
           have X:=F _ _ s5;have t4:=F _ _ s4;refine pg ?_;simp[G,X,C.1,C.2,aJ];refine rn ?_;simp[c7,f1.1,f1.2];obtain⟨nb,zb,H,D⟩:=hd.1
           have E:Tok (σ.del c) g a' 6 ((es++[e]).map bd):=by have:=t.base V.here.2;simpa using this
           refine ih _ g1 ⟨_,_,a',es++[e],rfl,by simp[O],by simp[Z],by simp[G],by simp[J],by simp;omega,⟨nb,zb,by omega,?_⟩,?_,aa.an _ _ _,E.beside (by simp[aa.del,N,Y]) (λe=>by obtain⟨_,_,q⟩:=E.be e;rw[X]at q;cases q),by simp[ey],?_,λe=>by simp at e⟩
           . rw[aa.aj _ _ (Ne.symm N)];exact F _ _ D
           . rw[aa.aj _ _ (Ne.symm P)];exact t4
           . intro x I
             rcases List.mem_append.1 I with I|I
             . exact cv x I
             . simp at I;subst I;exact he))
       . ((
           refine cf Tryz.func43 rfl (mE (by omega) hn ⟨by omega,by omega⟩ cm λe r he hd=>?_)
           have s5:r w=some (.cells [a,.sl 1 (M.map ints) spr,int fr,int to,int cS,int most]):=by rw[hd.2 w N];exact Q
           have s4:r A=some (.cells eH):=by rw[hd.2 A a7];exact q4
           have V:Tok (σ.del c) r a 6 (es.map bd):=qj u (by simp[aa.del]) gC hd.2
           refine pg ?_;simp[G,s5,S.1,S.2]))
         refine⟨?_,?_⟩
         . ((
             refine aH lay rfl rfl rfl my rfl my rfl vL (by decide) (by simp;omega) (σ0:=r.off a) (es:=es.map bd) (xs:=[bd e]) (by simpa using V.here.1) (.inr ⟨_,by simp;rfl⟩) λa' g t=>?_
             have C:=t.cells;have F:∀y l,r y=some (.cells l)->g y=some (.cells l):=λy l p=>t.1 _ _ (by rw[aa.iA (c8 _ V y l p)];exact p)
             have X:=F _ _ s5;have t4:=F _ _ s4;refine pg ?_;simp[G,X,C.1,C.2,aJ];refine rn ?_;simp[c7,f1.1,f1.2];obtain⟨nb,zb,H,D⟩:=hd.1
             have E:Tok (σ.del c) g a' 6 ((es++[e]).map bd):=by have:=t.base V.here.2;simpa using this
             refine ih _ g1 ⟨_,_,a',es++[e],rfl,by simp[O],by simp[Z],by simp[G],by simp[J],by simp;omega,⟨nb,zb,by omega,?_⟩,?_,aa.an _ _ _,E.beside (by simp[aa.del,N,Y]) (λe=>by obtain⟨_,_,q⟩:=E.be e;rw[X]at q;cases q),by simp[ey],?_,λe=>by simp at e⟩
             . rw[aa.aj _ _ (Ne.symm N)];exact F _ _ D
             . rw[aa.aj _ _ (Ne.symm P)];exact t4
             . intro x I
               rcases List.mem_append.1 I with I|I
               . exact cv x I
               . simp at I;subst I;exact he))
         . ((
             refine aH lay rfl rfl rfl my rfl my rfl vL (by decide) (by simp;omega) (σ0:=r.off a) (es:=es.map bd) (xs:=[bd e]) (by simpa using V.here.1) (.inr ⟨_,by simp;rfl⟩) λa' g t=>?_
             have C:=t.cells;have F:∀y l,r y=some (.cells l)->g y=some (.cells l):=λy l p=>t.1 _ _ (by rw[aa.iA (c8 _ V y l p)];exact p)
             have X:=F _ _ s5;have t4:=F _ _ s4;refine pg ?_;simp[G,X,C.1,C.2,aJ];refine rn ?_;simp[c7,f1.1,f1.2];obtain⟨nb,zb,H,D⟩:=hd.1
             have E:Tok (σ.del c) g a' 6 ((es++[e]).map bd):=by have:=t.base V.here.2;simpa using this
             refine ih _ g1 ⟨_,_,a',es++[e],rfl,by simp[O],by simp[Z],by simp[G],by simp[J],by simp;omega,⟨nb,zb,by omega,?_⟩,?_,aa.an _ _ _,E.beside (by simp[aa.del,N,Y]) (λe=>by obtain⟨_,_,q⟩:=E.be e;rw[X]at q;cases q),by simp[ey],?_,λe=>by simp at e⟩
             . rw[aa.aj _ _ (Ne.symm N)];exact F _ _ D
             . rw[aa.aj _ _ (Ne.symm P)];exact t4
             . intro x I
               rcases List.mem_append.1 I with I|I
               . exact cv x I
               . simp at I;subst I;exact he))
     . have hh:i=qn:=by omega
       subst hh;refine rn ?_;simp[Z,G,c7,Q,S.2,q4,aJ];obtain⟨nb,zb,H,D⟩:=cm;obtain⟨f,hf⟩:∃f:Fr,f=⟨es,M,fr,to,cS,most⟩:=⟨_,rfl⟩
       have ho:kY cnt f:=by
        subst hf;refine⟨eK,ej,by show 1<=M.length/\M.length<=3;omega,⟨lo,gP,by show qk M.length lo M;rw[et];exact gd⟩,by show 0<=fr/\fr<=2;omega,by show fr<=to/\to<=2;omega,by show(es.length:Int)<=cnt;omega,λe he=>?_⟩
        show r7 M.length e;rw[et];exact cv e he
       obtain⟨a2,hp,hq⟩:∃a2,((f.aq=[]->a2=.lit (.slice none 0 0))/\(f.aq≠[]->a2=qb f.aq))/\a.W a2:=by
        by_cases e:es=[]
        . exact⟨_,⟨λ_=>rfl,λe2=>absurd (by subst hf;exact e) e2⟩,by rw[gB e];exact .refl _⟩
        . exact⟨_,⟨λe2=>absurd (by subst hf;exact e2) e,λ_=>rfl⟩,by subst hf;exact u.W⟩
       refine .jm (a':=.agg [a2,rows f.roads,int f.bh,int f.gE,int f.cS,int f.most]) (ns (by subst hf;rfl) λi x y x1 x2=>?_) (.less (σ':=σ.set c (.cells [ints nums,int nb,.lit (.int .u64 zb)])) (λy x p=>?_) (.done (h f a2 _ ho ⟨⟨nb,zb,by omega,aa.an _ _ _⟩,λy p=>aa.aj _ _ p⟩ hp)))
       . subst hf
         match i with
         |0=>simp at x1 x2;subst x1;subst x2;exact hq
         |1=>simp at x1 x2;subst x1;subst x2;exact fC 1 _ spr
         |2=>simp at x1 x2;subst x1;subst x2;exact .refl _
         |3=>simp at x1 x2;subst x1;subst x2;exact .refl _
         |4=>simp at x1 x2;subst x1;subst x2;exact .refl _
         |5=>simp at x1 x2;subst x1;subst x2;exact .refl _
         |i+6=>simp at x1
       . by_cases y1:y=c
         . subst y1
           rw[aa.an]at p;rw[aa.aj _ _ n4,D];exact p
         . rw[aa.aj _ _ y1]at p
           have y4:y≠A:=λe=>by subst e;rw[h4]at p;cases p
           rw[aa.aj _ _ y4];exact u.1 y x (by simpa[aa.del,y1]using p)
theorem Fq{cnt:Int}(n:k+20+11*cnt.toNat<1000000)(o:nums.length<1152921504606846976)(g:0<=cnt/\cnt<=1000)(hb:bJ c nums k σ)(h:∀(f:Fr) σ',kY cnt f->nv c nums (k+20+11*cnt.toNat) σ σ'->KF (.val (aA f)) σ'):ar prog m 56 [.ref c 0,int cnt] σ KF:=by
 refine ar.thaw (uY n o g hb λf a σ' j hd l=>?_);by_cases e:f.aq=[]
 . obtain rfl:=l.1 e
   refine .jm (a':=aA f) (ns rfl λi x y b d=>?_) (.done (h f σ' j hd))
   match i with
   |0=>simp at b d;subst b;subst d;rw[e];exact gl 6
   |1=>simp at b d;subst b;subst d;exact .refl _
   |2=>simp at b d;subst b;subst d;exact .refl _
   |3=>simp at b d;subst b;subst d;exact .refl _
   |4=>simp at b d;subst b;subst d;exact .refl _
   |5=>simp at b d;subst b;subst d;exact .refl _
   |i+6=>simp at b
 . obtain rfl:=l.2 e
   exact .done (h f σ' j hd)
end
end Go.Proofs.YtldmpfccgajobaaGreatDoor
namespace Go.Proofs.YtldmpfccgajobaaGreatDoor
open Tryz (prog)
open Go.bG Go.Conc
set_option maxHeartbeats 2000000
set_option maxRecDepth 4000
def Mh(low top:Int):List Int:=(List.range (top+1-low).toNat).map λi:Nat=>low+i
def gI(i:Nat)(l:List Int):Int:=if i=0 then 0 else l.getD (i-1) 0+1
def sU(n k:Int)(i:Nat)(l:List Int):List (List Int):=(Mh (gI i l) (n-k+i)).map λy=>l++[y]
def kH(n k:Int):Nat->List (List Int)
 |0=>[[]]
 |i+1=>(kH n k i).flatMap (sU n k i)
def sV(n:Int)(k:Nat):List (List Int):=kH n k k
structure Sq(n:Int)(i:Nat)(l:List Int):Prop where
 len:l.length=i
 mem:∀x∈l,0<=x/\x<n
 Sr:∀a b,a<b->b<i->l.getD a 0<l.getD b 0
theorem r8{n k:Int}:∀(i:Nat),(i:Int)<=k->∀l∈kH n k i,Sq n i l
 |0,_,l,f=>by simp[kH]at f;subst f;exact⟨rfl,by simp,λa b z A=>by omega⟩
 | i + 1,B,l,f=>by
   unfold kH at f;obtain⟨p,v,r⟩:=List.mem_flatMap.1 f;have c:=r8 i (by omega) p v
   unfold sU at r;obtain⟨y,s,rfl⟩:=List.mem_map.1 r;unfold Mh at s;obtain⟨t,u,rfl⟩:=List.mem_map.1 s;have u:=List.mem_range.1 u
   have g:0<=gI i p/\∀a,a<i->p.getD a 0<gI i p:=by
    unfold gI;split
    . exact⟨by omega,λa h=>by omega⟩
    . next C=>
      have j:i-1<p.length:=by rw[c.len];omega
      have w:p.getD (i-1) 0∈p:=by rw[List.getD_eq_getElem?_getD,List.getElem?_eq_getElem j];exact List.getElem_mem j
      have:=c.mem _ w;refine⟨by omega,λa D=>?_⟩
      by_cases e:a=i-1
      . subst e;omega
      . have:=c.Sr a (i-1) (by omega) (by omega);omega
   have hlen:=c.len;refine⟨by simp[hlen],λx d=>?_,λa b m hb=>?_⟩
   . rcases List.mem_append.1 d with d|d
     . exact c.mem x d
     . simp at d;subst d;omega
   . by_cases e:b=i
     . subst e
       have o:(p++[gI b p+t]).getD b 0=gI b p+t:=by rw[List.getD_eq_getElem?_getD,List.getElem?_append_right (by omega),hlen];simp
       have q:(p++[gI b p+t]).getD a 0=p.getD a 0:=by rw[List.getD_eq_getElem?_getD,List.getElem?_append_left (by omega),<-List.getD_eq_getElem?_getD]
       rw[o,q];have:=g.2 a m;omega
     . have o:(p++[gI i p+t]).getD b 0=p.getD b 0:=by
        rw[List.getD_eq_getElem?_getD,List.getElem?_append_left (by omega),<-List.getD_eq_getElem?_getD]
       have q:(p++[gI i p+t]).getD a 0=p.getD a 0:=by rw[List.getD_eq_getElem?_getD,List.getElem?_append_left (by omega),<-List.getD_eq_getElem?_getD]
       rw[o,q];exact c.Sr a b m (by omega)
theorem IM{f:Fr}(b:f.Good)(e:gL):bu f e≠[]:=by
 unfold bu eT;have:=b.le;by_cases a:e.eE=0
 . simp[a]
 . have c:(f.gE-f.bh+1).toNat=(f.gE-f.bh).toNat+1:=by omega
   rw[if_pos a,c,List.range_succ_eq_map];split<;>simp
def IN(f:Fr)(l:List Int):List Int:=(bu f (aO f (l.getD 0 0))).filter λh=>l.all λj=>decide (h∈bu f (aO f j))
theorem Aw{f:Fr}{l:List Int}(b:l≠[]):du f l=IN f l:=by
 match l,b with
 | a::r,_=>
   simp only[du,IN,fT,List.map_cons,List.getD_cons_zero];refine List.filter_congr λx c=>?_
   simp[c]
end Go.Proofs.YtldmpfccgajobaaGreatDoor
