import Derived.Test.YtldmpfccgajobaaGreatDoorC32
set_option linter.all false
namespace Go.Proofs.YtldmpfccgajobaaGreatDoor
open Tryz (prog)
open Go.aR Go.Conc
set_option maxHeartbeats 1000000
set_option maxRecDepth 4000
variable{m:Mo}{σ:aa}{KF:dF->aa->Prop}
def aB(w:List Int):Int:=w.foldl (λn k=>max n (k+1)) 0
def di:Option (List Int)->List Int->Option (List Int)
 |none,w=>some w
 |some v,w=>if aB w<aB v then some w else some v
def nF:Option (List Int)->List AV
 |none=>[.lit (.slice none 0 0),int 0,bool false]
 |some w=>[ints w,int (aB w),bool true]
theorem Nr{c:Nat}{o:Option (List Int)}{w:List Int}(a:σ c=some (.cells (nF o)))(h:∀σ',σ' c=some (.cells (nF (di o w)))->(∀x,x≠c->σ' x=σ x)->KF (.val (.bk [])) σ'):ar prog m 64 [.ref c 0,ints w,int (aB w)] σ KF:=by
 cases o with
 | none=>
   simp only[nF]at a;refine fs [] 3 Tryz.func64 rfl rfl (by rfl) (by kernel_rfl) ?_;simp[Tryz.f64,a];refine .done (h _ (aa.an _ _ _) λx b=>?_);simp[aa.ag,b]
 | some v=>
   simp only[nF]at a;refine fs [] 3 Tryz.func64 rfl rfl (by rfl) (by kernel_rfl) ?_;simp[Tryz.f64,a];by_cases g:aB w<aB v
   . simp[aE,g,a]
     simp only[di,if_pos g]at h;refine .done (h _ (aa.an _ _ _) λx b=>?_);simp[aa.ag,b]
   . simp[aE,g]
     simp only[di,if_neg g]at h;exact .done (h _ a λx _=>rfl)
theorem jY(f:Fr)(begun:List Int):∀(fuel:Nat) (de:List Int) (many:Int) (d:List Int),(∀x∈de,0<=x/\x<f.most)->∀w∈dv f begun fuel de many d,∀x∈w,0<=x/\x<f.most
 |0,de,many,d,hb,w,c=>by simp[dv]at c;subst c;exact hb
 | fuel+1,de,many,d,hb,w,c=>by
   rw[oY,List.mem_flatMap]at c;obtain⟨k,e,a⟩:=c;have:=List.mem_range.1 e;unfold ol at a;split at a
   . cases a
   split at a
   . refine jY f begun fuel _ _ _ (λx b=>?_) w a
     rcases List.mem_append.1 b with b|b
     . exact hb x b
     . simp at b;subst b;omega
   . cases a
section
variable{b mb:Nat}{f:Fr}{Un:aa->Prop}{Ld:aa->List (Int × AV)->Prop}
theorem yM(hs:m.solo=true){f:Fr}{w:List Int}(hf:f.Fits)(p:check f=0)(u:(am f []).foldl di none=some w)(hlen:(am f []).length<1152921504606846976)(h:KF (.val (.bk [ints w,int (aB w),int 0])) σ):ar prog m 19 [az f] σ KF:=by
 have P:=Fr.eh hf p;have ad:=P.oA;have C:am f []≠[]:=λe=>by rw[e]at u;cases u
 have T:∀w∈am f [],w.length=f.ao.length:=λw u=>by have:=fP f [] _ _ _ _ w u;simpa using this
 have U:∀w∈am f [],∀x∈w,0<=x/\x<f.most:=λw u=>jY f [] _ _ _ _ (by simp) w u
 refine fs On 1 Tryz.func19 rfl rfl (by rfl) (by kernel_rfl) ?_
 simp[Tryz.f19];have V:Wl [az f,AV.lit (.slice none 0 0)] [az f,.sl 1 (([]:List Int).map int) .any]:=.cons (.refl _) (.cons (cV 1) .nil);refine aT Tryz.func62 rfl rfl V (jX (l:=[]) (sp:=.any) hs hf p (by simp) (by simp) C λb mb d W hu D E=>?_)
 refine rn ?_;simp;have X:Fa prog m nn b 6 mb .u8 (cO f) (rj b 6 mb .u8 (cO f)) (RV b 6 mb .u8):=eo ln lp qH hs W;refine bT.intro λi h7=>?_
 simp;have V:Wl [iY b mb f 0,AV.lit (.slice none 0 0)] [iY b mb f 0,ints []]:=.cons (.refl _) (.cons (cV 1) .nil);refine aT Tryz.func63 rfl rfl V (qk (begun:=[]) ?_);refine rn ?_;simp;refine ab.rangeFunc rfl λY r l G Q v=>?_
 obtain⟨a1,_,G⟩:=aa.aG G;obtain⟨a2,_,Q⟩:=aa.aG Q;have H:d r=none/\r≠i:=⟨G,a1⟩;have j:d l=none/\l≠i:=⟨Q,a2⟩;generalize I:mM.mk _ _ _ _ _ _ _ _ _=R
 have hY:Ma m (.fn (.yield l) [] []) (am f []) (λk F g=>(∀c,F c↔c=l\/c=i)/\g l=some (.loop R)/\g i=some (.cells (nF (((am f []).take k).foldl di none)))) (λF g=>False):=by
  refine⟨λk F g av hk y hT hF=>?_,λk F Z J he y=>?_,λF Z J he y=>y.elim,λk F g c y p=>?_⟩
  . obtain⟨a,B,K⟩:=y
    have t:(am f [])[k]∈am f []:=List.getElem_mem hk
    have z:((am f []).take (k+1)).foldl di none=di (((am f []).take k).foldl di none) (am f [])[k]:=by rw[List.take_succ_eq_append_getElem hk,List.foldl_append];rfl
    subst I;refine dX.tA (hold:=On) Y Tryz.func19 B rfl ?_;refine rn ?_;simp[lU];refine ab.beginRound B rfl ?_;refine rn ?_;simp;refine cf Tryz.func65 rfl (yJ (by rw[T _ t];have:=P.oA;omega) (λx s=>by have:=U _ t x s;have:=P.most;omega) ?_)
    refine rn ?_;simp;refine cf Tryz.func64 rfl (Nr (o:=((am f []).take k).foldl di none) (w:=(am f [])[k]) ((aa.ag _ _ (Ne.symm j.2)).trans K) λJ q1 q2=>?_)
    refine rn ?_;simp;refine⟨rfl,rfl,_,((q2 l j.2).trans (aa.an _ _ _)),?_⟩;refine hT F _ (λc x p s=>⟨?_,p⟩) ⟨a,aa.an _ _ _,?_⟩
    . have p1:c≠l:=λe=>p ((a c).2 (.inl e))
      have p3:c≠i:=λe=>p ((a c).2 (.inr e))
      exact(aa.ag _ _ p1).trans ((q2 c p3).trans ((aa.ag _ _ p1).trans s))
    . rw[z]
      exact(aa.ag _ _ (Ne.symm j.2)).trans q1
  . obtain⟨a,B,K⟩:=y
    exact⟨a,by rw[he l ((a l).2 (.inl rfl))];exact B,by rw[he i ((a i).2 (.inr rfl))];exact K⟩
  . obtain⟨a,B,K⟩:=y
    rcases(a c).1 p with rfl|rfl
    . exact⟨_,B,rfl⟩
    . exact⟨_,K,rfl⟩
 obtain⟨xb,L,ax⟩:=X.Mb hu;have nb:∀c,d c=none->c≠b:=λc p e=>by subst e;rw[p]at L;cases L
 have M:d.Le (((d.set i (.cells (nF none))).set r (.raw (.deferred (some [])))).set l (.loop R)):=(by repeat (first|exact aa.le_refl _|assumption|refine aa.iz ?_ (by assumption)|refine aa.jZ ?_ (by assumption)))
 have sr:(((d.set i (.cells (nF none))).set r (.raw (.deferred (some [])))).set l (.loop R)) r=some (.raw (.deferred (some []))):=(aa.ag _ _ v).trans (aa.an _ _ _);have s7:(((d.set i (.cells (nF none))).set r (.raw (.deferred (some [])))).set l (.loop R)) i=some (.cells (nF none)):=(aa.ag _ _ (Ne.symm j.2)).trans ((aa.ag _ _ (Ne.symm H.2)).trans (aa.an _ _ _))
 refine eY Tryz.func112 rfl rfl rfl (nX (F:=λc=>c=l\/c=i) X P (by simp) hY ⟨rfl,rfl⟩ (X.un (λc _ ⟨x,S,_⟩=>(M _ _ S).trans S.symm) hu) ⟨λc=>Iff.rfl,aa.an _ _ _,by simpa[nF]using s7⟩ λF' g N ay O=>?_)
 have a7:=(N r _ sr (λe=>by rcases e with e|e;exact v e;exact H.2 e) (nb r G) (.inr rfl)).1
 have A:lq b mb d g:=λc x S h2 a8=>(N c x (M c x S) (λe=>by rcases e with e|e<;>subst e<;>simp_all) h2 a8).1
 rcases O with⟨_,q1,q3⟩|q
 . rw[List.take_length,u]at q3
   subst I;refine⟨_,q1,by simp,rfl,?_⟩
   have a9:(g.del l) i=some (.cells [ints w,int (aB w),bool true]):=by simp only[aa.del,Ne.symm j.2,if_false];exact q3
   refine rn ?_;simp[a9];refine rn ?_;simp;refine⟨by simp only[aa.del,v,if_false];exact a7,.less (λc x s=>?_) (.done h)⟩
   have n:=E c x s;have c1:c≠r:=λe=>by subst e;rw[G]at n;cases n
   have c2:c≠l:=λe=>by subst e;rw[Q]at n;cases n
   have c3:c≠b:=λe=>by subst e;rw[D.1]at s;cases s
   have c4:c≠mb:=λe=>by subst e;rw[D.2]at s;cases s
   rw[aa.ag _ _ c1];simp only[aa.del,c2,if_false];exact A c x n c3 (.inl c4)
 . exact q.elim
end
theorem oy{l d:List AV}(f:l.length=d.length)(g:∀(i:Nat) a a',l[i]?=some a->d[i]?=some a'->a.W a'):(AV.bk l).W (.bk d):=λk x h=>by
 cases h with
 | bk c _ n j=>
   refine .bk c d (by omega) λi v a' m b=>?_
   have e:i<l.length:=by rw[f];exact(List.getElem?_eq_some_iff.1 b).1
   exact g i l[i] a' (by simp[e]) b k v (j i v _ m (by simp[e]))
theorem F3:∀{es:List AV},(∀a∈es,a.cells=[a])->flatten es=es
 |[],_=>rfl
 |a::es,h=>by rw[flatten_cons,h a (List.mem_cons_self ..),F3 λx b=>h x (List.mem_cons_of_mem _ b)];rfl
theorem RL{es d:List AV}{sp:bX}(h:es.length=d.length)(p:∀a∈es,a.cells=[a])(f:∀a∈d,a.cells=[a])(q:∀(i:Nat) a a',es[i]?=some a->d[i]?=some a'->a.W a'):(AV.sl 1 es sp).W (.sl 1 d .any):=λk x r=>by
 cases r with
 | sl b off cap w N E _ _ c m s t y n o z=>
   rw[F3 p]at n o;rw[h]at m ⊢;refine .sl b off cap 1 N E d .any c m s t (λe u=>by rw[f e u];rfl) (λj g=>?_) (λj a l=>?_) trivial
   . rw[F3 f]at g
     exact n j (by omega)
   . rw[F3 f]at l
     have g:j<es.length:=by rw[h];exact(List.getElem?_eq_some_iff.1 l).1
     exact q j es[j] a (by simp[g]) l k _ (o j _ (by simp[g]))
 | slnil v=>
   have:d=[]:=by cases d with|nil=>rfl|cons _ _=>simp at h
   subst this;exact .slnil v 1 .any (.inl rfl)
theorem oz{l d:List AV}(f:l.length=d.length)(g:∀(i:Nat) a a',l[i]?=some a->d[i]?=some a'->a.W a'):(AV.agg l).W (.agg d):=λk x h=>by
 cases h with
 | agg c _ n j=>
   refine .agg c d (by omega) λi v a' m b=>?_
   have e:i<l.length:=by rw[f];exact(List.getElem?_eq_some_iff.1 b).1
   exact g i l[i] a' (by simp[e]) b k v (j i v _ m (by simp[e]))
def uW:List gq:=[⟨0,0,1,[0],15,0⟩,⟨3,1,1,[0],16,1⟩,⟨4,0,1,[0,2],15,2⟩,⟨10,0,2,[],14,0⟩,⟨12,0,1,[2],15,0⟩]
def fG(n:Nat)(most:Int):Fr:=⟨uW.take n,[[0,2],[2,0]],1,2,3,most⟩
theorem p9{a b c d e:Int}{l:List Int}(h:KF (.val (aS ⟨a,b,c,l,d,e⟩)) σ):ar prog m 54 [int a,int b,int c,int d,int e,ints l] σ KF:=by
 refine fs [] 6 Tryz.func54 rfl rfl (by rfl) (by kernel_rfl) ?_;simp[Tryz.f54];refine bT.intro λk f=>?_
 simp;exact .less (by repeat (first|exact aa.le_refl _|assumption|refine aa.iz ?_ (by assumption)|refine aa.jZ ?_ (by assumption))) (.done h)
theorem Ns(h:KF (.val (ll uW)) σ):ar prog m 53 [] σ KF:=by
 have f:∀a b c d e:Int,∀l:List Int,Wl [int a,int b,int c,int d,int e,.sl 1 (l.map int) .exact] [int a,int b,int c,int d,int e,ints l]:=λa b c d e l=>.cons (.refl _) (.cons (.refl _) (.cons (.refl _) (.cons (.refl _) (.cons (.refl _) (.cons (eE 1 _ .exact) .nil)))))
 have g:∀a b c d e:Int,Wl [int a,int b,int c,int d,int e,.lit (.slice none 0 0)] [int a,int b,int c,int d,int e,ints []]:=λa b c d e=>.cons (.refl _) (.cons (.refl _) (.cons (.refl _) (.cons (.refl _) (.cons (.refl _) (.cons (cV 1) .nil)))))
 refine fs [] 0 Tryz.func53 rfl rfl (by rfl) (by kernel_rfl) ?_;simp[Tryz.f53];refine aT Tryz.func54 rfl rfl (f 0 0 1 15 0 [0]) (p9 ?_);refine rn ?_;simp;refine aT Tryz.func54 rfl rfl (f 3 1 1 16 1 [0]) (p9 ?_);refine rn ?_;simp;refine aT Tryz.func54 rfl rfl (f 4 0 1 15 2 [0,2]) (p9 ?_);refine rn ?_;simp;refine aT Tryz.func54 rfl rfl (g 10 0 2 14 0) (p9 ?_);refine rn ?_;simp;refine aT Tryz.func54 rfl rfl (f 12 0 1 15 0 [2]) (p9 ?_);refine rn ?_;simp;exact .eG (eE 6 _ .exact) (.done h)
theorem qE{n:Nat}{most:Int}(g:n<=5)(h:KF (.val (az (fG n most))) σ):ar prog m 52 [int n,int most] σ KF:=by
 refine fs [] 2 Tryz.func52 rfl rfl (by rfl) (by kernel_rfl) ?_;simp[Tryz.f52];refine bT.intro λk j=>?_
 simp;refine cf Tryz.func53 rfl (Ns ?_);refine rn ?_;simp;refine rh lay rfl lz rfl tx (es:=uW.map aS) (sp:=.any) (l:=0) (h:=n) ?_ (λcap d=>⟨rfl,⟨⟨.i64,by simp⟩,?_⟩,rfl⟩) (by simp[uW];omega) ?_
 . simp
 . simp[uW]at d;omega
 refine rn ?_;simp[aH]
 have e:(AV.sl 1 [AV.sl 1 [int 0,int 2] .exact,.sl 1 [int 2,int 0] .exact] .exact).W (rows [[0,2],[2,0]]):=RL rfl (λa f=>by simp at f;rcases f with rfl|rfl<;>rfl) (λa f=>by simp at f;rcases f with rfl|rfl<;>rfl) (λi a a' b c=>by
  match i with
  |0=>simp at b c;subst b;subst c;exact eE 1 [int 0,int 2] .exact
  |1=>simp at b c;subst b;subst c;exact eE 1 [int 2,int 0] .exact
  |i+2=>simp at b)
 refine .less (by repeat (first|exact aa.le_refl _|assumption|refine aa.iz ?_ (by assumption)|refine aa.jZ ?_ (by assumption))) (.eG (a':=az (fG n most)) (oz rfl λi a a' b c=>?_) (.done h))
 match i with
 |0=>simp[bS,fG]at b c;subst b;subst c;rw[<-List.map_take];exact .refl _
 |1=>simp[bS,fG]at b c;subst b;subst c;exact e
 |2=>simp[bS,fG]at b c;subst b;subst c;exact .refl _
 |3=>simp[bS,fG]at b c;subst b;subst c;exact .refl _
 |4=>simp[bS,fG]at b c;subst b;subst c;exact .refl _
 |5=>simp[bS,fG]at b c;subst b;subst c;exact .refl _
 |i+6=>simp at b
def kF(l:List gq)(out:List Int):List gq:=(l.zipIdx.filter λp=>!decide ((p.2:Int)∈out)).map Prod.fst
theorem mc(l:List gq)(out:List Int)(k:Nat)(h:k<l.length):kF (l.take (k+1)) out=kF (l.take k) out++if(k:Int)∈out then[]else[l[k]]:=by
 unfold kF;rw[List.take_succ_eq_append_getElem h,List.zipIdx_append,List.filter_append,List.map_append];congr 1;rw[List.length_take,Nat.min_eq_left (by omega)];by_cases a:(k:Int)∈out<;>simp[a]
theorem zC(l:List gq)(out:List Int):(kF l out).length<=l.length:=by unfold kF;rw[List.length_map];refine Nat.le_trans (List.length_filter_le _ _) ?_;simp
def bt(f:Fr)(out:List Int):Fr:={f with ao:=kF f.ao out}
theorem EQ{f:Fr}{out:List Int}(K:f.Good)(L:out.length<1152921504606846976)(h:KF (.val (az (bt f out))) σ):ar prog m 87 [az f,ints out] σ KF:=by
 have R:=K.oA;refine ar.start lay [2] [] 2 Tryz.func87 rfl rfl (by rfl) (by kernel_rfl) ?_
 simp[Tryz.f87];refine bT.intro λt F=>?_
 simp;refine bT.intro λu v=>?_
 obtain⟨G,H,v⟩:=aa.aG v;simp[H,aa.ag];generalize g:(σ.set t (.cells (bS f))).set u (.cells [AV.lit (.slice none 0 0),.lit (.slice none 0 0),int 0,int 0,int 0,int 0])=d;have y:σ.Le d:=by subst g;exact aa.cX (aa.cX (aa.le_refl _) F) (by rw[aa.ag _ _ G];exact v)
 have M:d t=some (.cells (bS f)):=by subst g;simp[aa.ag,aa.an,H]
 have N:d u=some (.cells [AV.lit (.slice none 0 0),.lit (.slice none 0 0),int 0,int 0,int 0,int 0]):=by subst g;simp[aa.an]
 refine ab.loop f.ao.length (λk s=>∃env n,s=⟨env,n,[],.no⟩/\env 1=ints out/\env 2=.ref t 0/\env 4=.ref u 0/\env 9=ll f.ao/\env 10=int f.ao.length/\env 11=int k/\Tok d n (env 5) 6 ((kF (f.ao.take k) out).map aS)) ⟨_,d,by rw[<-g],by simp,by simp,by simp,by simp,by simp,by simp,by simpa[kF]using Tok.nil d 6⟩ ?_
 rintro S k _ T ⟨env,n,rfl,z,w,A,B,cP,aV,b⟩ I
 have o:=b.cells;refine ab.run lay [2] ?_;simp[cP,aV];refine aE.intro (λp=>?_) (λp=>?_)<;>(try simp[-Int.not_lt,-Int.not_le,-Nat.not_lt,-Nat.not_le]at p)<;>(try simp[w,B,aV,o.1,o.2,p])
 . refine bT.intro λU J=>?_
   simp[z];refine cf Tryz.func124 rfl (kQ L ?_);refine ab.run lay [2] ?_;simp;refine aE.intro (λq=>?_) (λq=>?_)<;>(try simp[-Int.not_lt,-Int.not_le,-Nat.not_lt,-Nat.not_le]at q)<;>(try simp[aV,q])
   . refine⟨by omega,I _ p ⟨_,_,rfl,by simp[z],by simp[w],by simp[A],by simp[B],by simp[cP],by simp,?_⟩⟩
     have:=b.up (aa.cX (x:=.cells [int f.ao[k].hour,int f.ao[k].place,int f.ao[k].bG,ints f.ao[k].marks,int f.ao[k].aQ,int f.ao[k].fT]) (aa.le_refl _) J);rw[mc _ _ _ p,if_pos q,List.append_nil];simpa using this
   . have C:=zC (f.ao.take k) out
     rw[List.length_take]at C;refine aF lay rfl rfl rfl lz rfl lz rfl tx (by decide) (by simp;omega) (σ0:=d) (es:=(kF (f.ao.take k) out).map aS) (xs:=[aS f.ao[k]]) (by simpa using b.up (aa.cX (aa.le_refl _) J)) (.inr ⟨_,rfl⟩) λa' O D=>?_
     refine ab.run lay [2] ?_;simp[aV];refine⟨by omega,I _ p ⟨_,_,rfl,by simp[z],by simp[w],by simp[A],by simp[B],by simp[cP],by simp,?_⟩⟩
     rw[mc _ _ _ p,if_neg q,List.map_append];simpa using D
 . have E:k=f.ao.length:=by omega
   subst E;rw[List.take_length]at b;simp[w,A,o.2,b.1 _ _ M,bS,aH,b.1 _ _ N,aa.ag,G];refine .less (λc x r=>?_) (.eG (a':=az (bt f out)) (oz rfl λi a a' j l=>?_) (.done h))
   . have P:c≠t:=λe=>by subst e;rw[F]at r;cases r
     have Q:c≠u:=λe=>by subst e;rw[v]at r;cases r
     rw[aa.ag _ _ Q,aa.ag _ _ P];exact b.1 _ _ (y _ _ r)
   . match i with
     |0=>simp[bS,bt]at j l;subst j;subst l;exact b.W
     |1=>simp[bS,bt]at j l;subst j;subst l;exact .refl _
     |2=>simp[bS,bt]at j l;subst j;subst l;exact .refl _
     |3=>simp[bS,bt]at j l;subst j;subst l;exact .refl _
     |4=>simp[bS,bt]at j l;subst j;subst l;exact .refl _
     |5=>simp[bS,bt]at j l;subst j;subst l;exact .refl _
     |i+6=>simp at j
def gE(f:Fr):Nat->Nat->List Int->Option (List Int)
 |0,_,out=>if am (bt f out) []≠[]then some out else none
 |more+1,a,out=>(List.range' a (f.ao.length-a)).findSome? λn=>gE f more (n+1) (out++[(n:Int)])
theorem zE(l:List gq)(out:List Int):∀e∈kF l out,e∈l:=λe a=>by unfold kF at a;obtain⟨p,b,rfl⟩:=List.mem_map.1 a;have:=(List.mem_filter.1 b).1;exact List.fst_mem_of_mem_zipIdx this
theorem ny{f:Fr}(a:f.Good)(out:List Int):(bt f out).Good:=by have c:=zC f.ao out;exact⟨⟨Nat.lt_of_le_of_lt c a.fits.ao,a.fits.roads,a.fits.row,λe b=>a.fits.marks e (zE _ _ e b)⟩,a.fr,a.to,a.le,a.dG,a.most,Nat.le_trans c a.oA,λe b=>a.uB e (zE _ _ e b),a.Io⟩
namespace W
abbrev RM:List Entry:=[⟨7,.take [1,2,3,4,5,7,10,11,12,13] false (.both 0 (.both 6 (.one 8 (.one 9 (.one 14 (.done)))) (.one 8 (.one 6 (.one 9 (.one 14 (.done)))))) (.both 6 (.both 0 (.one 8 (.one 9 (.one 14 (.done)))) (.one 8 (.both 0 (.one 9 (.one 14 (.done))) (.one 9 (.take [0] true (.one 14 (.done))))))) (.one 8 (.both 0 (.one 6 (.one 9 (.one 14 (.done)))) (.one 6 (.both 0 (.one 9 (.one 14 (.done))) (.one 9 (.take [0] true (.one 14 (.done))))))))))⟩]
def zF(x:Nat)(σ σ':aa):Prop:=∀c v,σ c=some v->c≠x->σ' c=some v
abbrev ER(f:Fr)(a b:Nat):AV:=.fn (.func 85) [] [.ref a 0,.cp (az f) 0,.ref b 0]
theorem Ie(hs:m.solo=true){f:Fr}(W:f.Good){o L:Nat}(X:o≠L):∀(more d:Nat) (out:List Int) (sp:bX) (σ:aa) (KF:dF->aa->Prop) (v:AV),σ o=some (.cells [v])->σ L=some (.cells [ER f o L])->d<=f.ao.length->out.length+more<=6 ->
 (∀σ',zF o σ σ'->(∃D,σ' o=some (.cells [D]))->(∀w,gE f more d out=some w->∃sp,σ' o=some (.cells [.sl 1 (w.map int) sp]))->KF (.val (bool (gE f more d out).isSome)) σ')->ar prog m 85 [.sl 1 (out.map int) sp,int d,int more,.ref o 0,.cp (az f) 0,.ref L 0] σ KF:=by
 intro more
 induction more with
 | zero=>
   intro d out sp σ KF v Y h6 P hlen h;refine fs RM 6 Tryz.func85 rfl rfl (by rfl) (by kernel_rfl) ?_
   simp[Tryz.f85,Y];have hW:Wl [az f,AV.sl 1 (out.map int) sp] [az f,ints out]:=.cons (.refl _) (.cons (eE 1 _ sp) .nil);refine aT Tryz.func87 rfl rfl hW (EQ W (by omega) ?_)
   refine rn ?_;simp;refine cf Tryz.func86 rfl (rk λb mb Z B=>?_)
   have hu:rj b 6 mb .u8 (cO (bt f out)) Z:=by rw[B.eq];exact⟨aa.an _ _ _,[],(aa.ag _ _ (Ne.symm B.ne)).trans (aa.an _ _ _),λn a h=>by simp[gu]at h⟩
   refine rn ?_;simp;refine cf Tryz.func88 rfl (mR (eo ln lp qH hs B.ne) (ny W out) hu λi Q M=>?_)
   refine rn ?_;simp
   have N:(gE f 0 d out).isSome=!decide (am (bt f out) []=[]):=by
    unfold gE
    by_cases g:am (bt f out) []=[]<;>simp[g]
   rw[<-N]
   have key:∀c x,(σ.set o (.cells [.sl 1 (out.map int) sp])) c=some x->i c=some x:=λc x y=>by
    have n1:c≠b:=λe=>by subst e;rw[B.hb]at y;cases y
    have n2:c≠mb:=λe=>by subst e;rw[B.tk]at y;cases y
    exact M c x (B.le c x y) n1 (.inl n2)
   refine .done (h i (λc x y U=>key c x ((aa.ag _ _ U).trans y)) ⟨_,key o _ (aa.an _ _ _)⟩ λw O=>⟨sp,?_⟩)
   have:w=out:=by
    unfold gE at O;split at O
    . exact(Option.some.inj O).symm
    . cases O
   subst this;exact key o _ (aa.an _ _ _)
 | succ more IH=>
   intro d out sp σ KF v Y h6 P hlen h;refine fs RM 6 Tryz.func85 rfl rfl (by rfl) (by kernel_rfl) ?_
   simp[Tryz.f85];have a7:((more:Int)+1==0)=false:=by simp;omega
   simp[aE,a7];refine ab.loop (f.ao.length-d) (λk s=>∃env σ',s=⟨env,σ',[],.no⟩/\env 0=.sl 1 (out.map int) sp/\env 2=int (more+1)/\env 4=.cp (az f) 0/\env 5=.ref L 0/\env 10=int ((d:Int)+k)/\zF o σ σ'/\(∃D,σ' o=some (.cells [D]))/\gE f (more+1) d out=(List.range' (d+k) (f.ao.length-(d+k))).findSome? λn=>gE f more (n+1) (out++[(n:Int)])) ⟨_,_,rfl,by simp,by simp,by simp,by simp,by simp,λc v h _=>h,⟨_,Y⟩,rfl⟩ ?_
   rintro c0 k _ hk ⟨env,σ',rfl,C,E,F,G,cP,p,⟨D,R⟩,H⟩ ih
   have z:=p _ _ h6 (Ne.symm X);have a8:=W.oA;refine rn ?_;simp[F,cP];refine aE.intro (λg1=>?_) (λg1=>?_)<;>(try simp[-Int.not_lt,-Int.not_le,-Nat.not_lt,-Nat.not_le]at g1)<;>(try simp[C,cP,g1])
   . have t : -9223372036854775808<=(d:Int)+k+1/\(d:Int)+k+1<=9223372036854775807:=by omega
     have u:-9223372036854775808<=(more:Int)/\(more:Int)<=9223372036854775807:=by omega
     have I:∀i q (A:dF->aa->Prop),σ'.Le i->(∀v j,zF o σ j->(∃D,j o=some (.cells [D]))->(v=true->(gE f (more+1) d out).isSome=true/\∀w,gE f (more+1) d out=some w->∃sp,j o=some (.cells [.sl 1 (w.map int) sp]))->(v=false->gE f (more+1) d out=(List.range' (d+(k+1)) (f.ao.length-(d+(k+1)))).findSome? λn=>gE f more (n+1) (out++[(n:Int)]))->A (.val (bool v)) j)->ar prog m 85 [.sl 1 (out.map int++[int ((d:Int)+k)]) q,int ((d:Int)+k+1),int more,.ref o 0,.cp (az f) 0,.ref L 0] i A:=λi q A J V=>by
      have r:gE f (more+1) d out=(gE f more (d+k+1) (out++[((d+k:Nat):Int)])).or ((List.range' (d+(k+1)) (f.ao.length-(d+(k+1)))).findSome? λn=>gE f more (n+1) (out++[(n:Int)])):=by
       rw[H];obtain⟨n,B⟩:∃n,f.ao.length-(d+k)=n+1:=⟨f.ao.length-(d+k)-1,by omega⟩
       have a9:f.ao.length-(d+(k+1))=n:=by omega
       rw[B,a9,List.range'_succ,List.findSome?_cons];cases gE f more (d+k+1) (out++[((d+k:Nat):Int)])<;>rfl
      have:=IH (d+k+1) (out++[((d+k:Nat):Int)]) q i A D (J _ _ R) (J _ _ z) (by omega) (by simp;omega) λj Q M q3=>V _ j (λc x y U=>Q c x (J _ _ (p c x y U)) U) M (λS=>by
       rw[r];cases N:gE f more (d+k+1) (out++[((d+k:Nat):Int)])with
       |none=>rw[N]at S;cases S
       |some w=>exact⟨rfl,λw' ad=>q3 w' (by rw[N];exact ad)⟩) (λS=>by
       rw[r];cases N:gE f more (d+k+1) (out++[((d+k:Nat):Int)])with
       |none=>rfl
       |some w=>rw[N]at S;cases S)
      simpa using this
     simp[E,G,z,t.1,t.2,u.1,u.2]
     repeat' (first
               |apply And.intro
               | (refine pE lay rfl bC rfl oo (es:=out.map int) (sp:=sp) (l:=0) (h:=out.length) (by simp[C]) (λcap T=>⟨⟨⟨.i64,by simp⟩,by simpa using T⟩,⟨⟨.i64,by simp⟩,Nat.le_refl _⟩,rfl⟩) (by simp) λa ha=>?_
                  have al:Tok σ' σ' a 1 (out.map int):=by
                   rcases ha with rfl|⟨e,rfl⟩
                   . have:List.take (out.length-0) (List.drop 0 (out.map int))=out.map int:=by rw[List.drop_zero,List.take_of_length_le (by simp)]
                     rw[this];exact .exact _ _ _
                   . rw[e];exact .nil _ _
                  clear ha;refine pg ?_;simp[z,C,E,F,G,cP,t.1,t.2,u.1,u.2])
               | (refine aF lay rfl rfl rfl bC rfl bC rfl oo (by decide) (by simp;omega) (σ0:=σ') (es:=out.map int) (xs:=[int ((d:Int)+k)]) (by simpa using al) (.inr ⟨_,by simp;rfl⟩) λa' i K=>?_
                  obtain⟨q,rfl⟩:∃q,a'=.sl 1 (out.map int++[int ((d:Int)+k)]) q:=by
                   rcases K.2 with⟨_,e⟩|e|⟨_,_,_,e,_⟩
                   . simp at e
                   . exact⟨_,e⟩
                   . exact⟨_,e⟩
                  have av:=K.1 _ _ z;refine pg ?_;simp[av,C,E,F,G,cP,t.1,t.2,u.1,u.2])
               | (refine eY Tryz.func85 rfl rfl (by simp) (I i q _ K.1 λv j Q M q3 q4=>?_)
                  refine pg ?_;simp[C,E,F,G,cP,t.1,t.2,u.1,u.2];cases v with
                  |true=>refine rn ?_;simp[aE,C,E,F,G,cP,t.1,t.2,u.1,u.2];obtain⟨w1,w2⟩:=q3 rfl;have V:=h j Q M w2;rw[w1]at V;exact .done V
                  |false=>refine rn ?_;simp[aE,C,E,F,G,cP,t.1,t.2,u.1,u.2];refine ih _ (by omega) ⟨_,_,rfl,by simp[C],by simp[E],by simp[F],by simp[G],by simp;omega,Q,M,q4 rfl⟩))
   . have:f.ao.length-(d+k)=0:=by omega
     rw[this]at H;rw[H]at h;exact .done (h _ p ⟨_,R⟩ λw O=>by cases O)
end W
end Go.Proofs.YtldmpfccgajobaaGreatDoor
namespace Go.Proofs.YtldmpfccgajobaaGreatDoor
open Tryz (prog)
open Go.aR Go.Conc
set_option maxHeartbeats 1000000
set_option maxRecDepth 4000
variable{m:Mo}{σ:aa}{KF:dF->aa->Prop}
open W
def gh(f:Fr):Option (List Int):=(List.range' 0 (f.ao.length+1)).findSome? λmany=>gE f many 0 []
theorem B2(Q:m.solo=true){f:Fr}{w:List Int}(M:f.Fits)(u:check f=0)(R:gh f=some w)(h:KF (.val (.bk [ints w,int 0])) σ):ar prog m 35 [az f] σ KF:=by
 have N:=Fr.eh M u;have h6:=N.oA;refine fs [] 1 Tryz.func35 rfl rfl (by rfl) (by kernel_rfl) ?_
 simp[Tryz.f35];refine cf Tryz.func33 rfl (wj M ?_);refine rn ?_;simp[u];refine bT.intro λj B=>?_
 simp;refine bT.intro λq r=>?_
 obtain⟨C,S,r⟩:=aa.aG r;simp;refine⟨by omega,?_⟩
 generalize i:(σ.set j (.cells [AV.lit (.slice none 0 0)])).set q (.cells [ER f j q])=d;have D:σ.Le d:=by subst i;exact aa.cX (aa.cX (aa.le_refl _) B) (by rw[aa.ag _ _ C];exact r)
 have T:d j=some (.cells [AV.lit (.slice none 0 0)]):=by subst i;simp[aa.ag,aa.an,S]
 have U:d q=some (.cells [ER f j q]):=by subst i;simp[aa.an]
 have y:∀a,zF j d a->σ.Le a:=λa O c x o=>O c x (D c x o) (λe=>by subst e;rw[B]at o;cases o)
 refine ab.loop (f.ao.length+1) (λk s=>∃env a,s=⟨env,a,[],.no⟩/\env 5=.ref j 0/\env 6=.ref q 0/\env 17=int ((f.ao.length:Int)+1)/\env 18=int k/\zF j d a/\(∃E,a j=some (.cells [E]))/\((List.range' k (f.ao.length+1-k)).findSome? λmany=>gE f many 0 [])=some w) ⟨_,d,by rw[<-i],by simp,by simp,by simp,by simp,λc v h _=>h,⟨_,T⟩,R⟩ ?_
 rintro c0 k _ O ⟨env,a,rfl,F,P,z,jM,l,⟨E,G⟩,g⟩ V
 have p:=l _ _ U C;refine rn ?_;simp[z,jM];refine aE.intro (λH=>?_) (λH=>?_)<;>(try simp[-Int.not_lt,-Int.not_le,-Nat.not_lt,-Nat.not_le]at H)<;>(try simp[F,P,jM,p,H])
 . have W:k<=f.ao.length:=by omega
   obtain⟨n,X⟩:∃n,f.ao.length+1-k=n+1:=⟨f.ao.length-k,by omega⟩
   have I:f.ao.length+1-(k+1)=n:=by omega
   rw[X,List.range'_succ,List.findSome?_cons]at g;have Y:Wl [AV.lit (.slice none 0 0),int 0,int k,.ref j 0,.cp (az f) 0,.ref q 0] [.sl 1 (([]:List Int).map int) .any,int (0:Nat),int k,.ref j 0,.cp (az f) 0,.ref q 0]:=.cons (cV 1) (.cons (.refl _) (.cons (.refl _) (.cons (.refl _) (.cons (.refl _) (.cons (.refl _) .nil)))));refine eY Tryz.func85 rfl rfl rfl (ar.Fg (Ie Q N (Ne.symm C) k 0 [] .any a _ E G p (by omega) (by simp;omega) λJ Z q2 q3=>?_) Y)
   have A:zF j d J:=λc x o u=>Z c x (l c x o u) u
   cases t:gE f k 0 []with
   | some K=>
     rw[t]at g;have:K=w:=by simpa using g
     subst this;obtain⟨sp,L⟩:=q3 _ t;refine ab.bD 5 (b:=j) (.sl 1 (K.map int) sp) L (by simp only[Env.upd];exact F) rfl ?_
     refine ab.yD 5 (a':=.cp (ints K) 0) (by simp;exact LB rfl rfl (eE 1 _ sp)) ?_
     refine rn ?_;simp;refine .less (λc x o=>?_) (.done h)
     have n5:c≠j:=λe=>by subst e;rw[B]at o;cases o
     simp only[aa.del,n5,if_false];exact y _ A c x o
   | none=>
     rw[t]at g;refine rn ?_;simp[jM];refine⟨by omega,V _ (by omega) ⟨_,_,rfl,by simp[F],by simp[P],by simp[z],by simp,A,q2,?_⟩⟩
     rw[I];simpa using g
 . rw[show f.ao.length+1-k=0 by omega]at g
   cases g
end Go.Proofs.YtldmpfccgajobaaGreatDoor
namespace Go.Proofs.YtldmpfccgajobaaGreatDoor
open Tryz (prog)
open Go.aR Go.Conc
set_option maxHeartbeats 1000000
set_option maxRecDepth 4000
theorem lI:check (fG 4 3)=0:=by decide +kernel
theorem Be:check (fG 5 3)=0:=by decide +kernel
theorem Bf:check (fG 4 2)=0:=by decide +kernel
theorem LE:mG (fG 4 3) [0,1]=0:=by decide +kernel
theorem Bg:eP (fG 4 3) [2]=[13,14,15]:=by decide +kernel
theorem ES:gT (fG 5 3)=4:=by decide +kernel
theorem If:am (fG 4 3) []≠[]:=by decide +kernel
theorem uX:(am (fG 4 3) []).foldl di none=some [0,0,1,2]/\aB [0,0,1,2]=3:=by decide +kernel
theorem Ig:eN (((am (fG 4 3) []).filter (aJ 1 2)).length:Int) (am (fG 4 3) []).length=2:=by decide +kernel
theorem ET:gh (fG 4 2)=some [1]:=by decide +kernel
end Go.Proofs.YtldmpfccgajobaaGreatDoor
namespace Go.Proofs.YtldmpfccgajobaaGreatDoor
open Tryz (prog)
open Go.aR Go.Conc
set_option maxHeartbeats 1000000
set_option maxRecDepth 4000
variable{m:Mo}{σ:aa}{KF:dF->aa->Prop}
theorem lS(n:Nat)(most:Int):(fG n most).Fits:=by
 refine⟨?_,by simp[fG],λr a=>?_,λe b=>?_⟩
 . simp[fG,uW];omega
 . simp[fG]at a;rcases a with rfl|rfl<;>simp
 . have:=List.mem_of_mem_take (show e∈uW.take n from b)
   simp[uW]at this;rcases this with rfl|rfl|rfl|rfl|rfl<;>simp
theorem dq(a:m.solo=true)(h:KF (.val (bool true)) σ):ar prog m 11 [] σ KF:=by
 refine fs [] 0 Tryz.func11 rfl rfl (by rfl) (by kernel_rfl) ?_;simp[Tryz.f11];refine cf Tryz.func52 rfl (qE (n:=4) (most:=3) (by omega) ?_);refine rn ?_;simp;have b:Wl [az (fG 4 3),.sl 1 [int 0,int 1] .exact] [az (fG 4 3),ints [0,1]]:=.cons (.refl _) (.cons (eE 1 [int 0,int 1] .exact) .nil);refine aT Tryz.func26 rfl rfl b (Pb (lS 4 3) lI ?_ (by simp) ?_)
 . exact⟨by decide +kernel,by simp⟩
 refine rn ?_;simp[LE];refine cf Tryz.func52 rfl (qE (n:=4) (most:=3) (by omega) ?_);refine rn ?_;simp;have b:Wl [az (fG 4 3),.sl 1 [int 2] .exact] [az (fG 4 3),ints [2]]:=.cons (.refl _) (.cons (eE 1 [int 2] .exact) .nil);refine aT Tryz.func28 rfl rfl b (EB (lS 4 3) lI ?_ ?_)
 . exact⟨by decide +kernel,by simp⟩
 refine rn ?_;simp;refine cf Tryz.func52 rfl (qE (n:=5) (most:=3) (by omega) ?_);refine rn ?_;simp;refine cf Tryz.func15 rfl (BT a (lS 5 3) Be (by decide +kernel) ?_);refine rn ?_;simp[ES];refine cf Tryz.func52 rfl (qE (n:=4) (most:=3) (by omega) ?_);refine rn ?_;simp;refine cf Tryz.func19 rfl (yM a (lS 4 3) lI uX.1 (by decide +kernel) ?_);refine rn ?_;simp[uX.2];refine cf Tryz.func52 rfl (qE (n:=4) (most:=3) (by omega) ?_);refine rn ?_;simp;refine cf Tryz.func39 rfl (Fc a (lS 4 3) lI (by decide) (by decide) If (by decide +kernel) ?_);refine rn ?_;simp[Ig];refine cf Tryz.func52 rfl (qE (n:=4) (most:=2) (by omega) ?_)
 refine rn ?_;simp;refine cf Tryz.func35 rfl (B2 a (lS 4 2) Bf ET ?_);refine rn ?_;simp;refine aT Tryz.func21 rfl rfl (args':=[ints (eP (fG 4 3) [2]),ints [13,14,15]]) (.cons (.refl _) (.cons (eE 1 [int 13,int 14,int 15] .exact) .nil)) (fa (by decide +kernel) (by decide +kernel) ?_);refine rn ?_;simp[Bg];refine aT Tryz.func21 rfl rfl (args':=[ints [0,0,1,2],ints [0,0,1,2]]) (.cons (.refl _) (.cons (eE 1 [int 0,int 0,int 1,int 2] .exact) .nil)) (fa (by simp) (by simp) ?_);refine rn ?_;simp;refine aT Tryz.func21 rfl rfl (args':=[ints [1],ints [1]]) (.cons (.refl _) (.cons (eE 1 [int 1] .exact) .nil)) (fa (by simp) (by simp) ?_);refine rn ?_;simp;exact .done h
def cB(c:Nat)(nums:List Int)(k:Nat)(σ:aa):Prop:=∃(n:Nat) (s:Int),n<=k/\σ c=some (.cells [ints nums,int n,.lit (.int .u64 s)])
theorem nQ{nums:List Int}(h:∀c σ',σ c=none->cB c nums 0 σ'->(∀x,x≠c->σ' x=σ x)->KF (.val (.ref c 0)) σ'):ar prog m 13 [ints nums] σ KF:=by
 refine ar.start lay [5] [] 1 Tryz.func13 rfl rfl (by rfl) (by kernel_rfl) ?_;simp[Tryz.f13];refine bT.intro λc a=>?_
 simp;exact .done (h c _ a ⟨0,_,Nat.le_refl _,aa.an _ _ _⟩ λx b=>aa.ag _ _ b)
theorem Nt(a b:Int):0<=IntKind.u64.wrap (((BitVec.ofInt 64 a ^^^ BitVec.ofInt 64 b).toNat:Nat):Int)/\IntKind.u64.wrap (((BitVec.ofInt 64 a ^^^ BitVec.ofInt 64 b).toNat:Nat):Int)<18446744073709551616:=by generalize (((BitVec.ofInt 64 a ^^^ BitVec.ofInt 64 b).toNat:Nat):Int)=x;simp only[IntKind.wrap,IntKind.signed,IntKind.bits];simp;omega
theorem LF{x:Int}(h:0<=x/\x<18446744073709551616):0<=x.fdiv (2 ^ min 11 IntKind.u64.bits)/\x.fdiv (2 ^ min 11 IntKind.u64.bits)<9007199254740992:=by
 have e:(2:Int) ^ min 11 IntKind.u64.bits=2048:=by decide
 rw[e,Int.fdiv_eq_ediv_of_nonneg _ (by omega)];omega
theorem Nu{c k:Nat}{nums:List Int}(B:k<1000000)(C:nums.length<1152921504606846976)(hb:cB c nums k σ)(h:∀(x:Int) σ',0<=x/\x<9007199254740992->cB c nums (k+1) σ'->(∀y,y≠c->σ' y=σ y)->KF (.val (.lit (.int .u64 x))) σ'):ar prog m 75 [.ref c 0] σ KF:=by
 obtain⟨n,s,w,l⟩:=hb;have t:-9223372036854775808<=(n:Int)+1/\(n:Int)+1<=9223372036854775807:=by omega
 obtain⟨fm,d⟩:∃f:Int->Int->Int,∀a b,qG .mul .u64 a b=some (.int .u64 (f a b)):=⟨_,λ_ _=>rfl⟩;obtain⟨D,g,r⟩:∃f:Int->Int->Int,(∀a b,qG .xor .u64 a b=some (.int .u64 (f a b)))/\∀a b,0<=f a b/\f a b<18446744073709551616:=⟨_,λ_ _=>rfl,Nt⟩;refine ar.O0 lay [] Tl 27 1 Tryz.func75 rfl rfl (by rfl) (by kernel_rfl) ?_;simp[Tryz.f75,l,t.1,t.2,aH,d];refine ab.FV (λe i=>e 0=.ref c 0/\(∃z,e 3=.lit (.int .u64 z))/\i c=some (.cells [ints nums,int ((n:Int)+1),.lit (.int .u64 s)])/\∀y,y≠c->i y=σ y) (by simp;intro y p;exact aa.ag _ _ p) ?_;clear l;rintro env i ⟨o,⟨z,q⟩,l,j⟩;refine ab.runN lay [] 2 ?_;simp[o,l];refine ab.runN lay [] 2 ?_;simp;refine aE.intro (λu=>?_) (λu=>?_)<;>simp[-Int.not_lt,-Int.not_le,-Nat.not_lt,-Nat.not_le]at u
 . have E:(n:Int)<nums.length:=by omega
   have A:n<nums.length:=by omega
   have v:-9223372036854775808<=(n:Int)/\(n:Int)<=9223372036854775807:=by omega
   simp[o,q,l,A,v.1,v.2,d,g];refine ab.FV (λe i=>e 0=.ref c 0/\(∃z,e 3=.lit (.int .u64 z))/\i c=some (.cells [ints nums,int ((n:Int)+1),.lit (.int .u64 s)])/\∀y,y≠c->i y=σ y) (by simp[o,l];exact j) ?_;clear o q l j;rintro env i ⟨o,⟨z,q⟩,l,j⟩;refine rn ?_;simp[o,q,l,d,g,aH];refine ab.FV (λe i=>e 0=.ref c 0/\(∃s,i c=some (.cells [ints nums,int ((n:Int)+1),.lit (.int .u64 s)]))/\∀y,y≠c->i y=σ y) (by refine⟨by simp[o],⟨_,by simp;rfl⟩,λy p=>?_⟩;simp[aa.ag,p,j y p]) ?_;clear o q l j;rintro env i ⟨o,⟨z,l⟩,j⟩;refine rn ?_;simp[o,l,d,g];refine .done (h _ i (LF (r _ _)) ⟨n+1,z,by omega,by simpa using l⟩ j)
 . simp
   refine rn ?_;simp[o,q,l,d,g,aH];refine ab.FV (λe i=>e 0=.ref c 0/\(∃s,i c=some (.cells [ints nums,int ((n:Int)+1),.lit (.int .u64 s)]))/\∀y,y≠c->i y=σ y) (by refine⟨by simp[o],⟨_,by simp;rfl⟩,λy p=>?_⟩;simp[aa.ag,p,j y p]) ?_;clear o q l j;rintro env i ⟨o,⟨z,l⟩,j⟩;refine rn ?_;simp[o,l,d,g];refine .done (h _ i (LF (r _ _)) ⟨n+1,z,by omega,by simpa using l⟩ j)
def nR(c:Nat)(nums:List Int)(k:Nat)(σ σ':aa):Prop:=cB c nums k σ'/\∀y,y≠c->σ' y=σ y
theorem nR.trans{c:Nat}{nums:List Int}{k k':Nat}{σ σ' a:aa}(h:nR c nums k σ σ')(b:nR c nums k' σ' a):nR c nums k' σ a:=⟨b.1,λy d=>(b.2 y d).trans (h.2 y d)⟩
theorem cB.mono{c:Nat}{nums:List Int}{k k':Nat}(h:cB c nums k σ)(b:k<=k'):cB c nums k' σ:=by obtain⟨n,s,d,a⟩:=h;exact⟨n,s,by omega,a⟩
theorem LG{n:Int}(h:0<=n/\n<18446744073709551616):IntKind.u64.wrap n=n:=by simp only[IntKind.wrap,IntKind.signed,IntKind.bits];simp;omega
theorem Pd{n:Int}(h:-9223372036854775808<=n/\n<=9223372036854775807):IntKind.i64.wrap n=n:=by simp[IntKind.wrap,IntKind.signed,IntKind.bits];omega
section
variable{c k:Nat}{nums:List Int}
theorem iW{n:Int}(f:k<1000000)(g:nums.length<1152921504606846976)(i:-4611686018427387904<=n/\n<4611686018427387904)(hb:cB c nums k σ)(h:∀(x:Int) σ',0<=x/\(x<=n\/x=0)->nR c nums (k+1) σ σ'->KF (.val (int x)) σ'):ar prog m 30 [.ref c 0,int n] σ KF:=by
 refine fs [] 2 Tryz.func30 rfl rfl (by rfl) (by kernel_rfl) ?_;simp[Tryz.f30];refine cf Tryz.func75 rfl (Nu f g hb λx σ' j a b=>?_);refine rn ?_;simp;refine aE.intro (λd=>?_) (λd=>?_)<;>simp[-Int.not_lt,-Int.not_le]at d
 . simp
   exact .done (h 0 σ' ⟨by omega,.inr rfl⟩ ⟨a,b⟩)
 . have l:IntKind.u64.wrap n=n:=LG (by omega)
   have o:qG .add .u64 n 1=some (.int .u64 (n+1)):=by show some (Value.int .u64 (IntKind.u64.wrap (n+1)))=_;rw[LG (by omega)]
   obtain⟨r,e,p⟩:∃r:Int,(0<=r/\r<=n)/\qG .rem .u64 x (n+1)=some (.int .u64 r):=by
    refine⟨x.tmod (n+1),⟨Int.tmod_nonneg _ j.1,?_⟩,by simp[qG];omega⟩;have:=Int.tmod_lt_of_pos x (show 0<n+1 by omega);omega
   have q:IntKind.i64.wrap r=r:=Pd (by omega);simp[l,o,p,q];exact .done (h r σ' ⟨e.1,.inl e.2⟩ ⟨a,b⟩)
theorem kR{a b:Int}(f:k<1000000)(g:nums.length<1152921504606846976)(i:-1000000000<=a/\a<=1000000000)(j:-1000000000<=b/\b<=1000000000)(hb:cB c nums k σ)(h:∀(x:Int) σ',a<=x/\(x<=b\/x=a)->nR c nums (k+1) σ σ'->KF (.val (int x)) σ'):ar prog m 104 [.ref c 0,int a,int b] σ KF:=by
 have d:-9223372036854775808<=b-a/\b-a<=9223372036854775807:=by omega
 refine fs [] 3 Tryz.func104 rfl rfl (by rfl) (by kernel_rfl) ?_;simp[Tryz.f104,d.1,d.2];refine cf Tryz.func30 rfl (iW f g ⟨by omega,by omega⟩ hb λx σ' l hd=>?_);have e:-9223372036854775808<=a+x/\a+x<=9223372036854775807:=by omega
 refine rn ?_;simp[e.1,e.2];exact .done (h _ σ' ⟨by omega,by omega⟩ hd)
theorem qF{l:List Int}{sp:bX}(d:k<1000000)(f:nums.length<1152921504606846976)(i:0<l.length/\l.length<1000000)(hb:cB c nums k σ)(h:∀(x:Int) σ',x∈l->nR c nums (k+1) σ σ'->KF (.val (int x)) σ'):ar prog m 97 [.ref c 0,.sl 1 (l.map int) sp] σ KF:=by
 have a:-9223372036854775808<=(l.length:Int)-1/\(l.length:Int)-1<=9223372036854775807:=by omega
 refine fs [] 2 Tryz.func97 rfl rfl (by rfl) (by kernel_rfl) ?_;simp[Tryz.f97,a.1,a.2];refine cf Tryz.func30 rfl (iW d f ⟨by omega,by omega⟩ hb λx σ' g hd=>?_);have b:x.toNat<l.length:=by omega
 have j:x<l.length:=by omega
 have e:(x.toNat:Int)=x:=by omega
 refine rn ?_;simp[g.1,b];exact .done (h _ σ' (List.getElem_mem b) hd)
theorem F4{n:Int}(b:k<1000000)(d:nums.length<1152921504606846976)(e:0<=n/\n<1000000000)(hb:cB c nums k σ)(h:∀(x:Bool) σ',nR c nums (k+1) σ σ'->KF (.val (bool x)) σ'):ar prog m 98 [.ref c 0,int n] σ KF:=by
 have a:-9223372036854775808<=n-1/\n-1<=9223372036854775807:=by omega
 refine fs [] 2 Tryz.func98 rfl rfl (by rfl) (by kernel_rfl) ?_;simp[Tryz.f98,a.1,a.2];refine cf Tryz.func30 rfl (iW b d ⟨by omega,by omega⟩ hb λx σ' f hd=>?_);refine rn ?_;simp;exact .done (h _ σ' hd)
end
structure uY(dM:Int)(e:gq):Prop where
 hour:0<=e.hour/\e.hour<=40
 place:0<=e.place/\e.place<dM
 bG:0<=e.bG/\e.bG<=1
 marks:e.marks.Sublist [0,1,2]
 aQ:14<=e.aQ/\e.aQ<=16
 fT:0<=e.fT/\e.fT<=2
theorem ja{l:List Int}(h:l.Sublist [0,1,2]):ma none l=0/\l.length<=3:=by cases h<;>(rename_i h;cases h<;>(rename_i h;cases h<;>(rename_i h;cases h;decide)))
theorem uY.check{dM:Int}{e:gq}(h:uY dM e):bf dM e=0:=by
 obtain⟨b,d,f,a,m,c⟩:=h;have a:=(ja a).1;unfold bf bx;have n:(0<=e.hour):=b.1;have g:e.hour<=72:=by omega
 have i:e.place<=dM-1:=by omega
 have j:e.bG<=5:=by omega
 have k:0<=e.aQ:=by omega
 have l:e.aQ<=30:=by omega
 simp[b.1,g,d.1,i,f.1,j,a,k,l,c.1,c.2]
theorem sZ{σ0 σ d:aa}{a:AV}{kk:Nat}{es:List AV}{c:Nat}(h:Tok σ0 σ a kk es)(j:σ0 c=none)(k:∃l,σ c=some (.cells l))(i:∀y,y≠c->d y=σ y):Tok σ0 d a kk es:=by
 refine⟨λy x f=>?_,?_⟩
 . have:y≠c:=λe=>by subst e;rw[j]at f;cases f
   rw[i y this];exact h.1 y x f
 rcases h.2 with q|q|⟨b,e,m,n,g⟩
 . exact .inl q
 . exact .inr (.inl q)
 . refine .inr (.inr ⟨b,e,m,n,?_⟩)
   have:b≠c:=λe=>by subst e;obtain⟨l,o⟩:=k;rw[o]at g;cases g
   rw[i b this];exact g
section
variable{c k:Nat}{nums:List Int}
theorem uD{dM:Int}(hk:k+11<1000000)(u:nums.length<1152921504606846976)(b9:0<=dM/\dM<=1000)(hb:cB c nums k σ)(h:∀(e:gq) σ',uY (max dM 1) e->nR c nums (k+11) σ σ'->KF (.val (aS e)) σ'):ar prog m 43 [.ref c 0,int dM] σ KF:=by
 have r1:-9223372036854775808<=dM-1/\dM-1<=9223372036854775807:=by omega
 obtain⟨n0,s0,_,K⟩:=id hb;refine fs [] 2 Tryz.func43 rfl rfl (by rfl) (by kernel_rfl) ?_
 simp[Tryz.f43];refine bT.intro λt h4=>?_
 have n4:c≠t:=λe=>by subst e;rw[K]at h4;cases h4
 have v:∀x,cB c nums k (σ.set t x):=λx=>⟨n0,s0,by assumption,by rw[aa.ag _ _ n4];exact K⟩
 simp;refine cf Tryz.func30 rfl (iW (by omega) u ⟨by omega,by omega⟩ (v _) λf bq bz L=>?_)
 refine rn ?_;simp;refine cf Tryz.func30 rfl (iW (by omega) u ⟨by omega,by omega⟩ L.1 λo g bA M=>?_)
 refine rn ?_;simp;refine cf Tryz.func30 rfl (iW (by omega) u ⟨by omega,by omega⟩ M.1 λx3 B bB N=>?_)
 refine rn ?_;simp;refine cf Tryz.func97 rfl (qF (l:=[f,o,x3]) (by omega) u ⟨by simp,by simp⟩ N.1 λG c6 av O=>?_)
 refine rn ?_;simp[r1.1,r1.2];refine cf Tryz.func30 rfl (iW (by omega) u ⟨by omega,by omega⟩ O.1 λpl c7 c8 P=>?_)
 refine rn ?_;simp;refine cf Tryz.func97 rfl (qF (l:=[0,0,0,1]) (by omega) u ⟨by simp,by simp⟩ P.1 λco ca ax Q=>?_)
 refine rn ?_;simp;refine cf Tryz.func97 rfl (qF (l:=[14,14,15,15,16]) (by omega) u ⟨by simp,by simp⟩ Q.1 λH cb ay R=>?_)
 refine rn ?_;simp;refine cf Tryz.func97 rfl (qF (l:=[0,0,1,2]) (by omega) u ⟨by simp,by simp⟩ R.1 λsh S b0 T=>?_)
 refine rn ?_;simp;refine bT.intro λw I=>?_
 simp;have p:nR c nums (k+8) (σ.set t (.cells [int 0,int 0,int 0,.lit (.slice none 0 0),int 0,int 0])) S:=L.trans (M.trans (N.trans (O.trans (P.trans (Q.trans (R.trans T))))));have U:t≠c:=Ne.symm n4;have V:S t=some (.cells [int 0,int 0,int 0,.lit (.slice none 0 0),int 0,int 0]):=by rw[p.2 t U,aa.an]
 have X:w≠c:=λe=>by subst e;obtain⟨_,_,_,q⟩:=T.1;rw[q]at I;cases I
 have C:w≠t:=λe=>by subst e;rw[V]at I;cases I
 have Y:σ w=none:=by rw[p.2 w X,aa.ag _ _ C]at I;exact I
 have b1:0<=G/\G<=40:=by simp at av;omega
 have b2:0<=co/\co<=1:=by simp at ax;omega
 have b3:14<=H/\H<=16:=by simp at ay;omega
 have b4:0<=sh/\sh<=2:=by simp at b0;omega
 have b5:0<=pl/\pl<max dM 1:=by omega
 refine ab.loop 3 (λj s=>∃env σ' a mk,s=⟨env,σ',[],.no⟩/\env 0=.ref c 0/\env 4=.ref t 0/\env 5=.ref w 0/\env 6=int j/\cB c nums (k+8+j) σ'/\σ' t=some (.cells [int 0,int 0,int 0,.lit (.slice none 0 0),int 0,int 0])/\σ' w=some (.cells [int G,int pl,int co,a,int H,int sh])/\Tok (σ.del c) σ' a 1 (mk.map int)/\mk.Sublist ((List.range j).map λi:Nat=>(i:Int))) ⟨_,_,.lit (.slice none 0 0),[],rfl,by simp,by simp,by simp,by simp,?_,?_,?_,?_,by simp⟩ ?_
 . obtain⟨n,z,h1,h2⟩:=p.1
   exact⟨n,z,by omega,by rw[aa.ag _ _ (Ne.symm X)];exact h2⟩
 . rw[aa.ag _ _ (Ne.symm C)];exact V
 . simp
 . refine⟨λy x d=>?_,.inl ⟨rfl,rfl⟩⟩
   have J:y≠c:=λe=>by subst e;simp[aa.del]at d
   have y0:σ y=some x:=by simpa[aa.del,J]using d
   have y5:y≠w:=λe=>by subst e;rw[Y]at y0;cases y0
   have y4:y≠t:=λe=>by subst e;rw[h4]at y0;cases y0
   rw[aa.ag _ _ y5,p.2 y J,aa.ag _ _ y4];exact y0
 rintro c0 j _ hj ⟨env,σ',a,mk,rfl,e0,e4,Z,e6,D,q4,q5,r,A⟩ ih
 have cg:mk.length<=j:=by have:=A.length_le;rwa [List.length_map,List.length_range]at this
 rcases Nat.lt_or_ge j 3 with g1|g1
 . have b6:(j:Int)<3:=by omega
   refine rn ?_;simp[e0,e6,b6];refine cf Tryz.func98 rfl (F4 (by omega) u ⟨by omega,by omega⟩ D λx g hd=>?_)
   have b7:∃l,σ' c=some (.cells l):=by obtain⟨_,_,_,q⟩:=D;exact⟨_,q⟩
   have b:Tok (σ.del c) g a 1 (mk.map int):=sZ r (by simp[aa.del]) b7 hd.2
   have a7:=b.cells;have s4:g t=some (.cells [int 0,int 0,int 0,.lit (.slice none 0 0),int 0,int 0]):=by rw[hd.2 t U];exact q4
   have s5:g w=some (.cells [int G,int pl,int co,a,int H,int sh]):=by rw[hd.2 w X];exact q5
   have a8:(List.range (j+1)).map (λi:Nat=>(i:Int))=(List.range j).map (λi:Nat=>(i:Int))++[(j:Int)]:=by rw[List.range_succ,List.map_append];rfl
   have f1:-9223372036854775808<=(j:Int)+1/\(j:Int)+1<=9223372036854775807:=by omega
   refine rn ?_;simp;cases x with
   | false=>
     simp[e6,f1.1,f1.2];refine ih _ g1 ⟨_,_,a,mk,rfl,by simp[e0],by simp[e4],by simp[Z],by simp,hd.1,s4,s5,b,?_⟩
     rw[a8];exact A.trans (List.sublist_append_left _ _)
   | true=>
     simp[Z,e6,s5];refine aF lay rfl rfl rfl bC rfl bC rfl oo (by decide) (by simp;omega) (σ0:=g.off a) (es:=mk.map int) (xs:=[int j]) (by simpa using b.here.1) (.inr ⟨_,rfl⟩) λa' B E=>?_
     have a9:=E.cells;have b8:∀y l,g y=some (.cells l)->bv a≠some y:=λy l d e=>by obtain⟨_,_,q⟩:=b.aY e;rw[d]at q;cases q
     have k3:∀y l,g y=some (.cells l)->B y=some (.cells l):=λy l d=>E.1 _ _ (by rw[aa.fQ (b8 y l d)];exact d)
     have t5:=k3 _ _ s5;have t4:=k3 _ _ s4;refine rn ?_;simp[Z,e6,f1.1,f1.2,t5,a9.1,a9.2,aH];obtain⟨nb,zb,v,F⟩:=hd.1;have tc:=k3 _ _ F
     have ad:Tok (σ.del c) B a' 1 ((mk++[(j:Int)]).map int):=by have:=E.base b.here.2;simpa using this
     refine ih _ g1 ⟨_,_,a',mk++[(j:Int)],rfl,by simp[e0],by simp[e4],by simp[Z],by simp,⟨nb,zb,v,by rw[aa.ag _ _ (Ne.symm X)];exact tc⟩,by rw[aa.ag _ _ (Ne.symm C)];exact t4,aa.an _ _ _,ad.beside (by simp[aa.del,X,Y]) (λe=>by obtain⟨_,_,q⟩:=ad.aY e;rw[t5]at q;cases q),?_⟩
     rw[a8];exact A.append (List.Sublist.refl _)
 . have:j=3:=by omega
   subst this;have a7:=r.cells;refine rn ?_;simp[e4,Z,e6,q4,q5,a7.2,aH];obtain⟨nb,zb,v,F⟩:=D;have al:mk.Sublist [0,1,2]:=A;refine .eG (a':=aS ⟨G,pl,co,mk,H,sh⟩) (oz rfl λi x y f o=>?_) (.less (σ':=σ.set c (.cells [ints nums,int nb,.lit (.int .u64 zb)])) (λy x d=>?_) (.done (h ⟨G,pl,co,mk,H,sh⟩ _ ⟨b1,b5,b2,al,b3,b4⟩ ⟨⟨nb,zb,by omega,aa.an _ _ _⟩,λy d=>aa.ag _ _ d⟩)))
   . match i with
     |0=>simp at f o;subst f;subst o;exact .refl _
     |1=>simp at f o;subst f;subst o;exact .refl _
     |2=>simp at f o;subst f;subst o;exact .refl _
     |3=>simp at f o;subst f;subst o;exact r.W
     |4=>simp at f o;subst f;subst o;exact .refl _
     |5=>simp at f o;subst f;subst o;exact .refl _
     |i+6=>simp at f
   . by_cases J:y=c
     . subst J
       rw[aa.an]at d;rw[aa.ag _ _ n4,F];exact d
     . rw[aa.ag _ _ J]at d
       have y4:y≠t:=λe=>by subst e;rw[h4]at d;cases d
       rw[aa.ag _ _ y4];exact r.1 y x (by simpa[aa.del,J]using d)
theorem oZ{dM:Int}(d:k+11<1000000)(f:nums.length<1152921504606846976)(a:1<=dM/\dM<=1000)(hb:cB c nums k σ)(h:∀(e:gq) σ',uY dM e->nR c nums (k+11) σ σ'->KF (.val (aS e)) σ'):ar prog m 43 [.ref c 0,int dM] σ KF:=uD d f ⟨by omega,a.2⟩ hb λe σ' b hd=>h e σ' (by rw[Int.max_eq_left a.1]at b;exact b) hd
end
end Go.Proofs.YtldmpfccgajobaaGreatDoor
