/- Part 33 of the proof. -/
import Derived.Test.YtigilmjkokbblaaGreatDoorC32
set_option linter.all false
namespace Go.Proofs.YtigilmjkokbblaaGreatDoor
open Tryz (prog)
open Go.bd Go.Conc
set_option maxHeartbeats 1000000
set_option maxRecDepth 4000
variable{m:Mo}{σ:aa}{KF:dV->aa->Prop}
def aM(w:List Int):Int:=w.foldl (λn k=>max n (k+1)) 0
def fg:Option (List Int)->List Int->Option (List Int)
 |none,w=>some w
 |some v,w=>if aM w<aM v then some w else some v
def nj:Option (List Int)->List AV
 |none=>[.lit (.slice none 0 0),int 0,bool false]
 |some w=>[ints w,int (aM w),bool true]
theorem O6{c:Nat}{o:Option (List Int)}{w:List Int}(a:σ c=some (.cells (nj o)))(h:∀σ',σ' c=some (.cells (nj (fg o w)))->(∀x,x≠c->σ' x=σ x)->KF (.val (.bG [])) σ'):aB prog m 64 [.ref c 0,ints w,int (aM w)] σ KF:=by
 cases o with
 | none=>
   simp only[nj]at a;refine fs [] 3 Tryz.func64 rfl rfl (by rfl) (by kernel_rfl) ?_;simp[Tryz.f64,a];refine .done (h _ (aa.ak _ _ _) λx b=>?_);simp[aa.ag,b]
 | some v=>
   simp only[nj]at a;refine fs [] 3 Tryz.func64 rfl rfl (by rfl) (by kernel_rfl) ?_;simp[Tryz.f64,a];by_cases g:aM w<aM v
   . simp[aI,g,a]
     simp only[fg,if_pos g]at h;refine .done (h _ (aa.ak _ _ _) λx b=>?_);simp[aa.ag,b]
   . simp[aI,g,a]
     simp only[fg,if_neg g]at h;exact .done (h _ a λx _=>rfl)
theorem qp(f:Fr)(begun:List Int):∀(fuel:Nat) (er:List Int) (many:Int) (d:List Int),(∀x∈er,0<=x/\x<f.most)->∀w∈fy f begun fuel er many d,∀x∈w,0<=x/\x<f.most
 |0,er,many,d,hb,w,c=>by simp[fy]at c;subst c;exact hb
 | fuel+1,er,many,d,hb,w,c=>by
   rw[rU,List.mem_flatMap]at c;obtain⟨k,e,a⟩:=c;have:=List.mem_range.1 e;unfold pf at a;split at a
   . cases a
   split at a
   . refine qp f begun fuel _ _ _ (λx b=>?_) w a
     rcases List.mem_append.1 b with b|b
     . exact hb x b
     . simp at b;subst b;omega
   . cases a
section
variable{b mb:Nat}{f:Fr}{Un:aa->Prop}{Ld:aa->List (Int × AV)->Prop}
theorem zP(hs:m.solo=true){f:Fr}{w:List Int}(hf:f.Fits)(p:check f=0)(u:(ao f []).foldl fg none=some w)(hlen:(ao f []).length<1152921504606846976)(h:KF (.val (.bG [ints w,int (aM w),int 0])) σ):aB prog m 27 [aC f] σ KF:=by
 have P:=Fr.hQ hf p;have ad:=P.vw;have C:ao f []≠[]:=λe=>by rw[e]at u;cases u
 have T:∀w∈ao f [],w.length=f.aA.length:=λw u=>by have:=iR f [] _ _ _ _ w u;simpa using this
 have U:∀w∈ao f [],∀x∈w,0<=x/\x<f.most:=λw u=>qp f [] _ _ _ _ (by simp) w u
 refine fs Qd 1 Tryz.func27 rfl rfl (by rfl) (by kernel_rfl) ?_
 simp[Tryz.f27];have V:Wl [aC f,AV.lit (.slice none 0 0)] [aC f,.sl 1 (([]:List Int).map int) .any]:=.cons (.refl _) (.cons (cW 1) .nil);refine aH Tryz.func62 rfl rfl V (jS (l:=[]) (sp:=.any) hs hf p (by simp) (by simp) C λb mb d W hu D E=>?_)
 refine rn ?_;simp;have X:Gu prog m nn b 6 mb .u8 (dF f) (yA b 6 mb .u8 (dF f)) (Up b 6 mb .u8):=fS nH nI tO hs W;refine bL.intro λi h7=>?_
 simp;have V:Wl [iu b mb f 0,AV.lit (.slice none 0 0)] [iu b mb f 0,ints []]:=.cons (.refl _) (.cons (cW 1) .nil);refine aH Tryz.func63 rfl rfl V (qt (begun:=[]) ?_);refine rn ?_;simp;refine ab.rangeFunc rfl λY r l G Q v=>?_
 obtain⟨a1,_,G⟩:=aa.aF G;obtain⟨a2,_,Q⟩:=aa.aF Q;have H:d r=none/\r≠i:=⟨G,a1⟩;have j:d l=none/\l≠i:=⟨Q,a2⟩;generalize I:mE.mk _ _ _ _ _ _ _ _ _=R
 have hY:NZ m (.fn (.yield l) [] []) (ao f []) (λk F g=>(∀c,F c↔c=l\/c=i)/\g l=some (.loop R)/\g i=some (.cells (nj (((ao f []).take k).foldl fg none)))) (λF g=>False):=by
  refine⟨λk F g av hk y hT hF=>?_,λk F Z J he y=>?_,λF Z J he y=>y.elim,λk F g c y p=>?_⟩
  . obtain⟨a,B,K⟩:=y
    have t:(ao f [])[k]∈ao f []:=List.getElem_mem hk
    have z:((ao f []).take (k+1)).foldl fg none=fg (((ao f []).take k).foldl fg none) (ao f [])[k]:=by rw[List.take_succ_eq_append_getElem hk,List.foldl_append];rfl
    subst I;refine cN.tP (hold:=Qd) Y Tryz.func27 B rfl ?_;refine rn ?_;simp[gg];refine ab.beginRound B rfl ?_;refine rn ?_;simp[gg];refine cf Tryz.func65 rfl (zI (by rw[T _ t];have:=P.vw;omega) (λx s=>by have:=U _ t x s;have:=P.most;omega) ?_)
    refine rn ?_;simp;refine cf Tryz.func64 rfl (O6 (o:=((ao f []).take k).foldl fg none) (w:=(ao f [])[k]) ((aa.ag _ _ (Ne.symm j.2)).trans K) λJ q1 q2=>?_)
    refine rn ?_;simp;refine⟨rfl,rfl,_,((q2 l j.2).trans (aa.ak _ _ _)),?_⟩;refine hT F _ (λc x p s=>⟨?_,p⟩) ⟨a,aa.ak _ _ _,?_⟩
    . have p1:c≠l:=λe=>p ((a c).2 (.inl e))
      have p3:c≠i:=λe=>p ((a c).2 (.inr e))
      exact(aa.ag _ _ p1).trans ((q2 c p3).trans ((aa.ag _ _ p1).trans s))
    . rw[z]
      exact(aa.ag _ _ (Ne.symm j.2)).trans q1
  . obtain⟨a,B,K⟩:=y
    exact⟨a,by rw[he l ((a l).2 (.inl rfl))];exact B,by rw[he i ((a i).2 (.inr rfl))];exact K⟩
  . obtain⟨a,B,K⟩:=y
    rcases(a c).1 p with rfl|rfl
    . exact⟨_,B,rfl⟩
    . exact⟨_,K,rfl⟩
 obtain⟨xb,L,ax⟩:=X.N1 hu;have nb:∀c,d c=none->c≠b:=λc p e=>by subst e;rw[p]at L;cases L
 have M:d.Le (((d.set i (.cells (nj none))).set r (.raw (.deferred (some [])))).set l (.loop R)):=(by repeat (first|exact aa.le_refl _|assumption|refine aa.ia ?_ (by assumption)|refine aa.jT ?_ (by assumption)))
 have sr:(((d.set i (.cells (nj none))).set r (.raw (.deferred (some [])))).set l (.loop R)) r=some (.raw (.deferred (some []))):=(aa.ag _ _ v).trans (aa.ak _ _ _);have s7:(((d.set i (.cells (nj none))).set r (.raw (.deferred (some [])))).set l (.loop R)) i=some (.cells (nj none)):=(aa.ag _ _ (Ne.symm j.2)).trans ((aa.ag _ _ (Ne.symm H.2)).trans (aa.ak _ _ _))
 refine eL Tryz.func99 rfl rfl rfl (nK (F:=λc=>c=l\/c=i) X P (by simp) hY ⟨rfl,rfl⟩ (X.un (λc _ ⟨x,S,_⟩=>(M _ _ S).trans S.symm) hu) ⟨λc=>Iff.rfl,aa.ak _ _ _,by simpa[nj]using s7⟩ λF' g N ay O=>?_)
 have a7:=(N r _ sr (λe=>by rcases e with e|e;exact v e;exact H.2 e) (nb r G) (.inr rfl)).1
 have A:lh b mb d g:=λc x S h2 a8=>(N c x (M c x S) (λe=>by rcases e with e|e<;>subst e<;>simp_all) h2 a8).1
 rcases O with⟨_,q1,q3⟩|q
 . rw[List.take_length,u]at q3
   subst I;refine⟨_,q1,by simp,rfl,?_⟩
   have a9:(g.del l) i=some (.cells [ints w,int (aM w),bool true]):=by simp only[aa.del,Ne.symm j.2,if_false];exact q3
   refine rn ?_;simp[a9];refine rn ?_;simp;refine⟨by simp only[aa.del,v,if_false];exact a7,.less (λc x s=>?_) (.done h)⟩
   have n:=E c x s;have c1:c≠r:=λe=>by subst e;rw[G]at n;cases n
   have c2:c≠l:=λe=>by subst e;rw[Q]at n;cases n
   have c3:c≠b:=λe=>by subst e;rw[D.1]at s;cases s
   have c4:c≠mb:=λe=>by subst e;rw[D.2]at s;cases s
   rw[aa.ag _ _ c1];simp only[aa.del,c2,if_false];exact A c x n c3 (.inl c4)
 . exact q.elim
end
theorem wQ{l d:List AV}(f:l.length=d.length)(g:∀(i:Nat) a a',l[i]?=some a->d[i]?=some a'->a.W a'):(AV.bG l).W (.bG d):=λk x h=>by
 cases h with
 | bG c _ n j=>
   refine .bG c d (by omega) λi v a' m b=>?_
   have e:i<l.length:=by rw[f];exact(List.getElem?_eq_some_iff.1 b).1
   exact g i l[i] a' (by simp[e]) b k v (j i v _ m (by simp[e]))
theorem Hq:∀{es:List AV},(∀a∈es,a.cells=[a])->flatten es=es
 |[],_=>rfl
 |a::es,h=>by rw[flatten_cons,h a (List.mem_cons_self ..),Hq λx b=>h x (List.mem_cons_of_mem _ b)];rfl
theorem Ku{es d:List AV}{sp:cG}(h:es.length=d.length)(p:∀a∈es,a.cells=[a])(f:∀a∈d,a.cells=[a])(q:∀(i:Nat) a a',es[i]?=some a->d[i]?=some a'->a.W a'):(AV.sl 1 es sp).W (.sl 1 d .any):=λk x r=>by
 cases r with
 | sl b off cap w N E _ _ c m s t y n o z=>
   rw[Hq p]at n o;rw[h]at m ⊢;refine .sl b off cap 1 N E d .any c m s t (λe u=>by rw[f e u];rfl) (λj g=>?_) (λj a l=>?_) trivial
   . rw[Hq f]at g
     exact n j (by omega)
   . rw[Hq f]at l
     have g:j<es.length:=by rw[h];exact(List.getElem?_eq_some_iff.1 l).1
     exact q j es[j] a (by simp[g]) l k _ (o j _ (by simp[g]))
 | slnil v=>
   have:d=[]:=by cases d with|nil=>rfl|cons _ _=>simp at h
   subst this;exact .slnil v 1 .any (.inl rfl)
theorem lT{l d:List AV}(f:l.length=d.length)(g:∀(i:Nat) a a',l[i]?=some a->d[i]?=some a'->a.W a'):(AV.agg l).W (.agg d):=λk x h=>by
 cases h with
 | agg c _ n j=>
   refine .agg c d (by omega) λi v a' m b=>?_
   have e:i<l.length:=by rw[f];exact(List.getElem?_eq_some_iff.1 b).1
   exact g i l[i] a' (by simp[e]) b k v (j i v _ m (by simp[e]))
def fU:List gX:=[⟨0,0,1,[0],15,0⟩,⟨3,1,1,[0],16,1⟩,⟨4,0,1,[0,2],15,2⟩,⟨10,0,2,[],14,0⟩,⟨12,0,1,[2],15,0⟩]
def aE(n:Nat)(most:Int):Fr:=⟨fU.take n,[[0,2],[2,0]],1,2,3,most⟩
theorem gJ{a b c d e:Int}{l:List Int}(h:KF (.val (aW ⟨a,b,c,l,d,e⟩)) σ):aB prog m 36 [int a,int b,int c,int d,int e,ints l] σ KF:=by
 refine fs [] 6 Tryz.func36 rfl rfl (by rfl) (by kernel_rfl) ?_;simp[Tryz.f36];refine bL.intro λk f=>?_
 simp;exact .less (by repeat (first|exact aa.le_refl _|assumption|refine aa.ia ?_ (by assumption)|refine aa.jT ?_ (by assumption))) (.done h)
theorem Bo(h:KF (.val (iQ fU)) σ):aB prog m 35 [] σ KF:=by
 have f:∀a b c d e:Int,∀l:List Int,Wl [int a,int b,int c,int d,int e,.sl 1 (l.map int) .exact] [int a,int b,int c,int d,int e,ints l]:=λa b c d e l=>.cons (.refl _) (.cons (.refl _) (.cons (.refl _) (.cons (.refl _) (.cons (.refl _) (.cons (ck 1 _ .exact) .nil)))))
 have g:∀a b c d e:Int,Wl [int a,int b,int c,int d,int e,.lit (.slice none 0 0)] [int a,int b,int c,int d,int e,ints []]:=λa b c d e=>.cons (.refl _) (.cons (.refl _) (.cons (.refl _) (.cons (.refl _) (.cons (.refl _) (.cons (cW 1) .nil)))))
 refine fs [] 0 Tryz.func35 rfl rfl (by rfl) (by kernel_rfl) ?_;simp[Tryz.f35];refine aH Tryz.func36 rfl rfl (f 0 0 1 15 0 [0]) (gJ ?_);refine rn ?_;simp;refine aH Tryz.func36 rfl rfl (f 3 1 1 16 1 [0]) (gJ ?_);refine rn ?_;simp;refine aH Tryz.func36 rfl rfl (f 4 0 1 15 2 [0,2]) (gJ ?_);refine rn ?_;simp;refine aH Tryz.func36 rfl rfl (g 10 0 2 14 0) (gJ ?_);refine rn ?_;simp;refine aH Tryz.func36 rfl rfl (f 12 0 1 15 0 [2]) (gJ ?_);refine rn ?_;simp;exact .iI (ck 6 _ .exact) (.done h)
theorem fJ{n:Nat}{most:Int}(g:n<=5)(h:KF (.val (aC (aE n most))) σ):aB prog m 24 [int n,int most] σ KF:=by
 refine fs [] 2 Tryz.func24 rfl rfl (by rfl) (by kernel_rfl) ?_;simp[Tryz.f24];refine bL.intro λk j=>?_
 simp;refine cf Tryz.func35 rfl (Bo ?_);refine rn ?_;simp;refine rj lay rfl ko rfl rp (es:=fU.map aW) (sp:=.any) (l:=0) (h:=n) ?_ (λcap d=>⟨rfl,⟨⟨.i64,by simp⟩,?_⟩,rfl⟩) (by simp[fU];omega) ?_
 . simp
 . simp[fU]at d;omega
 refine rn ?_;simp[aG]
 have e:(AV.sl 1 [AV.sl 1 [int 0,int 2] .exact,.sl 1 [int 2,int 0] .exact] .exact).W (rows [[0,2],[2,0]]):=Ku rfl (λa f=>by simp at f;rcases f with rfl|rfl<;>rfl) (λa f=>by simp at f;rcases f with rfl|rfl<;>rfl) (λi a a' b c=>by
  match i with
  |0=>simp at b c;subst b;subst c;exact ck 1 [int 0,int 2] .exact
  |1=>simp at b c;subst b;subst c;exact ck 1 [int 2,int 0] .exact
  |i+2=>simp at b)
 refine .less (by repeat (first|exact aa.le_refl _|assumption|refine aa.ia ?_ (by assumption)|refine aa.jT ?_ (by assumption))) (.iI (a':=aC (aE n most)) (lT rfl λi a a' b c=>?_) (.done h))
 match i with
 |0=>simp[bO,aE]at b c;subst b;subst c;rw[<-List.map_take];exact .refl _
 |1=>simp[bO,aE]at b c;subst b;subst c;exact e
 |2=>simp[bO,aE]at b c;subst b;subst c;exact .refl _
 |3=>simp[bO,aE]at b c;subst b;subst c;exact .refl _
 |4=>simp[bO,aE]at b c;subst b;subst c;exact .refl _
 |5=>simp[bO,aE]at b c;subst b;subst c;exact .refl _
 |i+6=>simp at b
def nJ(l:List gX)(out:List Int):List gX:=(l.zipIdx.filter λp=>!decide ((p.2:Int)∈out)).map Prod.fst
theorem yq(l:List gX)(out:List Int)(k:Nat)(h:k<l.length):nJ (l.take (k+1)) out=nJ (l.take k) out++if(k:Int)∈out then[]else[l[k]]:=by
 unfold nJ;rw[List.take_succ_eq_append_getElem h,List.zipIdx_append,List.filter_append,List.map_append];congr 1;rw[List.length_take,Nat.min_eq_left (by omega)];by_cases a:(k:Int)∈out<;>simp[a]
theorem AA(l:List gX)(out:List Int):(nJ l out).length<=l.length:=by unfold nJ;rw[List.length_map];refine Nat.le_trans (List.length_filter_le _ _) ?_;simp
def dB(f:Fr)(out:List Int):Fr:={f with aA:=nJ f.aA out}
theorem F7{f:Fr}{out:List Int}(K:f.Good)(L:out.length<1152921504606846976)(h:KF (.val (aC (dB f out))) σ):aB prog m 73 [aC f,ints out] σ KF:=by
 have R:=K.vw;refine aB.start lay [2] [] 2 Tryz.func73 rfl rfl (by rfl) (by kernel_rfl) ?_
 simp[Tryz.f73];refine bL.intro λy H=>?_
 simp;refine bL.intro λz A=>?_
 obtain⟨B,C,A⟩:=aa.aF A;simp[B,C,aa.ag];generalize p:(σ.set y (.cells (bO f))).set z (.cells [AV.lit (.slice none 0 0),.lit (.slice none 0 0),int 0,int 0,int 0,int 0])=o;have D:σ.Le o:=by subst p;exact aa.dg (aa.dg (aa.le_refl _) H) (by rw[aa.ag _ _ B];exact A)
 have M:o y=some (.cells (bO f)):=by subst p;simp[aa.ag,aa.ak,B,C]
 have N:o z=some (.cells [AV.lit (.slice none 0 0),.lit (.slice none 0 0),int 0,int 0,int 0,int 0]):=by subst p;simp[aa.ak]
 refine ab.loop f.aA.length (λk s=>∃env t,s=⟨env,t,[],.no⟩/\env 1=ints out/\env 2=.ref y 0/\env 4=.ref z 0/\env 9=iQ f.aA/\env 10=int f.aA.length/\env 11=int k/\Tok o t (env 5) 6 ((nJ (f.aA.take k) out).map aW)) ⟨_,o,by rw[<-p],by simp,by simp,by simp,by simp,by simp,by simp,by simpa[nJ]using Tok.nil o 6⟩ ?_
 rintro S k _ T ⟨env,t,rfl,g,j,l,n,bg,bV,d⟩ I
 have b:=d.cells;refine ab.run lay [2] ?_;simp[g,j,l,n,bg,bV,b.1,b.2];refine aI.intro (λu=>?_) (λu=>?_)<;>(try simp[-Int.not_lt,-Int.not_le,-Nat.not_lt,-Nat.not_le]at u)<;>(try simp[g,j,l,n,bg,bV,b.1,b.2,u])
 . refine bL.intro λU J=>?_
   simp[g,j,l,n,bg,bV,b.1,b.2];refine cf Tryz.func90 rfl (kL L ?_);refine ab.run lay [2] ?_;simp[g,j,l,n,bg,bV,b.1,b.2];refine aI.intro (λv=>?_) (λv=>?_)<;>(try simp[-Int.not_lt,-Int.not_le,-Nat.not_lt,-Nat.not_le]at v)<;>(try simp[g,j,l,n,bg,bV,b.1,b.2,v])
   . refine⟨by omega,I _ u ⟨_,_,rfl,by simp[g,j,l,n,bg,bV,b.1,b.2],by simp[g,j,l,n,bg,bV,b.1,b.2],by simp[g,j,l,n,bg,bV,b.1,b.2],by simp[g,j,l,n,bg,bV,b.1,b.2],by simp[g,j,l,n,bg,bV,b.1,b.2],by simp,?_⟩⟩
     have:=d.up (aa.dg (x:=.cells [int f.aA[k].hour,int f.aA[k].place,int f.aA[k].bE,ints f.aA[k].marks,int f.aA[k].aQ,int f.aA[k].fj]) (aa.le_refl _) J);rw[yq _ _ _ u,if_pos v,List.append_nil];simpa using this
   . have E:=AA (f.aA.take k) out
     rw[List.length_take]at E;refine aS lay rfl rfl rfl ko rfl ko rfl rp (by decide) (by simp;omega) (σ0:=o) (es:=(nJ (f.aA.take k) out).map aW) (xs:=[aW f.aA[k]]) (by simpa using d.up (aa.dg (aa.le_refl _) J)) (.inr ⟨_,rfl⟩) λa' O F=>?_
     refine ab.run lay [2] ?_;simp[g,j,l,n,bg,bV,b.1,b.2];refine⟨by omega,I _ u ⟨_,_,rfl,by simp[g,j,l,n,bg,bV,b.1,b.2],by simp[g,j,l,n,bg,bV,b.1,b.2],by simp[g,j,l,n,bg,bV,b.1,b.2],by simp[g,j,l,n,bg,bV,b.1,b.2],by simp[g,j,l,n,bg,bV,b.1,b.2],by simp,?_⟩⟩
     rw[yq _ _ _ u,if_neg v,List.map_append];simpa using F
 . have G:k=f.aA.length:=by omega
   subst G;rw[List.take_length]at d;simp[g,j,l,n,bg,bV,b.1,b.2,d.1 _ _ M,bO,aG,d.1 _ _ N,aa.ag,B,C];refine .less (λc x w=>?_) (.iI (a':=aC (dB f out)) (lT rfl λi a a' q r=>?_) (.done h))
   . have P:c≠y:=λe=>by subst e;rw[H]at w;cases w
     have Q:c≠z:=λe=>by subst e;rw[A]at w;cases w
     rw[aa.ag _ _ Q,aa.ag _ _ P];exact d.1 _ _ (D _ _ w)
   . match i with
     |0=>simp[bO,dB]at q r;subst q;subst r;exact d.W
     |1=>simp[bO,dB]at q r;subst q;subst r;exact .refl _
     |2=>simp[bO,dB]at q r;subst q;subst r;exact .refl _
     |3=>simp[bO,dB]at q r;subst q;subst r;exact .refl _
     |4=>simp[bO,dB]at q r;subst q;subst r;exact .refl _
     |5=>simp[bO,dB]at q r;subst q;subst r;exact .refl _
     |i+6=>simp at q
def fT(f:Fr):Nat->Nat->List Int->Option (List Int)
 |0,_,out=>if ao (dB f out) []≠[]then some out else none
 |more+1,a,out=>(List.range' a (f.aA.length-a)).findSome? λn=>fT f more (n+1) (out++[(n:Int)])
theorem AB(l:List gX)(out:List Int):∀e∈nJ l out,e∈l:=λe a=>by unfold nJ at a;obtain⟨p,b,rfl⟩:=List.mem_map.1 a;have:=(List.mem_filter.1 b).1;exact List.fst_mem_of_mem_zipIdx this
theorem zc{f:Fr}(a:f.Good)(out:List Int):(dB f out).Good:=by have c:=AA f.aA out;exact⟨⟨Nat.lt_of_le_of_lt c a.fits.aA,a.fits.roads,a.fits.row,λe b=>a.fits.marks e (AB _ _ e b)⟩,a.fr,a.to,a.le,a.dO,a.most,Nat.le_trans c a.vw,λe b=>a.yz e (AB _ _ e b),a.J3⟩
namespace W
abbrev Uf:List Entry:=[⟨7,.take [1,2,3,4,5,7,10,11,12,13] false (.both 0 (.both 6 (.one 8 (.one 9 (.one 14 (.done)))) (.one 8 (.one 6 (.one 9 (.one 14 (.done)))))) (.both 6 (.both 0 (.one 8 (.one 9 (.one 14 (.done)))) (.one 8 (.both 0 (.one 9 (.one 14 (.done))) (.one 9 (.take [0] true (.one 14 (.done))))))) (.one 8 (.both 0 (.one 6 (.one 9 (.one 14 (.done)))) (.one 6 (.both 0 (.one 9 (.one 14 (.done))) (.one 9 (.take [0] true (.one 14 (.done))))))))))⟩]
def AE(x:Nat)(σ σ':aa):Prop:=∀c v,σ c=some v->c≠x->σ' c=some v
abbrev F8(f:Fr)(a b:Nat):AV:=.fn (.func 71) [] [.ref a 0,.cp (aC f) 0,.ref b 0]
theorem Jx(hs:m.solo=true){f:Fr}(Y:f.Good){o L:Nat}(Z:o≠L):∀(more d:Nat) (out:List Int) (sp:cG) (σ:aa) (KF:dV->aa->Prop) (v:AV),σ o=some (.cells [v])->σ L=some (.cells [F8 f o L])->d<=f.aA.length->out.length+more<=6 ->
 (∀σ',AE o σ σ'->(∃G,σ' o=some (.cells [G]))->(∀w,fT f more d out=some w->∃sp,σ' o=some (.cells [.sl 1 (w.map int) sp]))->KF (.val (bool (fT f more d out).isSome)) σ')->aB prog m 71 [.sl 1 (out.map int) sp,int d,int more,.ref o 0,.cp (aC f) 0,.ref L 0] σ KF:=by
 intro more
 induction more with
 | zero=>
   intro d out sp σ KF v U V P hlen h;refine fs Uf 6 Tryz.func71 rfl rfl (by rfl) (by kernel_rfl) ?_
   simp[Tryz.f71,U,V];have hW:Wl [aC f,AV.sl 1 (out.map int) sp] [aC f,ints out]:=.cons (.refl _) (.cons (ck 1 _ sp) .nil);refine aH Tryz.func73 rfl rfl hW (F7 Y (by omega) ?_)
   refine rn ?_;simp;refine cf Tryz.func72 rfl (rB λb mb a7 F=>?_)
   have hu:yA b 6 mb .u8 (dF (dB f out)) a7:=by rw[F.eq];exact⟨aa.ak _ _ _,[],(aa.ag _ _ (Ne.symm F.ne)).trans (aa.ak _ _ _),λn a h=>by simp[gY]at h⟩
   refine rn ?_;simp;refine cf Tryz.func74 rfl (sK (fS nH nI tO hs F.ne) (zc Y out) hu λi Q M=>?_)
   refine rn ?_;simp
   have N:(fT f 0 d out).isSome=!decide (ao (dB f out) []=[]):=by
    unfold fT
    by_cases g:ao (dB f out) []=[]<;>simp[g]
   rw[<-N]
   have key:∀c x,(σ.set o (.cells [.sl 1 (out.map int) sp])) c=some x->i c=some x:=λc x A=>by
    have n1:c≠b:=λe=>by subst e;rw[F.hb]at A;cases A
    have n2:c≠mb:=λe=>by subst e;rw[F.vy]at A;cases A
    exact M c x (F.le c x A) n1 (.inl n2)
   refine .done (h i (λc x A W=>key c x ((aa.ag _ _ W).trans A)) ⟨_,key o _ (aa.ak _ _ _)⟩ λw O=>⟨sp,?_⟩)
   have:w=out:=by
    unfold fT at O;split at O
    . exact(Option.some.inj O).symm
    . cases O
   subst this;exact key o _ (aa.ak _ _ _)
 | succ more IH=>
   intro d out sp σ KF v U V P hlen h;refine fs Uf 6 Tryz.func71 rfl rfl (by rfl) (by kernel_rfl) ?_
   simp[Tryz.f71,U,V];have a8:((more:Int)+1==0)=false:=by simp;omega
   simp[aI,a8];refine ab.loop (f.aA.length-d) (λk s=>∃env σ',s=⟨env,σ',[],.no⟩/\env 0=.sl 1 (out.map int) sp/\env 2=int (more+1)/\env 4=.cp (aC f) 0/\env 5=.ref L 0/\env 10=int ((d:Int)+k)/\AE o σ σ'/\(∃G,σ' o=some (.cells [G]))/\fT f (more+1) d out=(List.range' (d+k) (f.aA.length-(d+k))).findSome? λn=>fT f more (n+1) (out++[(n:Int)])) ⟨_,_,rfl,by simp,by simp,by simp,by simp,by simp,λc v h _=>h,⟨_,U⟩,rfl⟩ ?_
   rintro c0 k _ hk ⟨env,σ',rfl,z,B,C,D,bg,p,⟨G,R⟩,H⟩ ih
   have t:=p _ _ V (Ne.symm Z);have a9:=Y.vw;refine rn ?_;simp[z,B,C,D,bg,t];refine aI.intro (λg1=>?_) (λg1=>?_)<;>(try simp[-Int.not_lt,-Int.not_le,-Nat.not_lt,-Nat.not_le]at g1)<;>(try simp[z,B,C,D,bg,t,g1])
   . have u : -9223372036854775808<=(d:Int)+k+1/\(d:Int)+k+1<=9223372036854775807:=by omega
     have y:-9223372036854775808<=(more:Int)/\(more:Int)<=9223372036854775807:=by omega
     have I:∀i q (E:dV->aa->Prop),σ'.Le i->(∀v j,AE o σ j->(∃G,j o=some (.cells [G]))->(v=true->(fT f (more+1) d out).isSome=true/\∀w,fT f (more+1) d out=some w->∃sp,j o=some (.cells [.sl 1 (w.map int) sp]))->(v=false->fT f (more+1) d out=(List.range' (d+(k+1)) (f.aA.length-(d+(k+1)))).findSome? λn=>fT f more (n+1) (out++[(n:Int)]))->E (.val (bool v)) j)->aB prog m 71 [.sl 1 (out.map int++[int ((d:Int)+k)]) q,int ((d:Int)+k+1),int more,.ref o 0,.cp (aC f) 0,.ref L 0] i E:=λi q E J X=>by
      have r:fT f (more+1) d out=(fT f more (d+k+1) (out++[((d+k:Nat):Int)])).or ((List.range' (d+(k+1)) (f.aA.length-(d+(k+1)))).findSome? λn=>fT f more (n+1) (out++[(n:Int)])):=by
       rw[H];obtain⟨n,F⟩:∃n,f.aA.length-(d+k)=n+1:=⟨f.aA.length-(d+k)-1,by omega⟩
       have ad:f.aA.length-(d+(k+1))=n:=by omega
       rw[F,ad,List.range'_succ,List.findSome?_cons];cases fT f more (d+k+1) (out++[((d+k:Nat):Int)])<;>rfl
      have:=IH (d+k+1) (out++[((d+k:Nat):Int)]) q i E G (J _ _ R) (J _ _ t) (by omega) (by simp;omega) λj Q M q3=>X _ j (λc x A W=>Q c x (J _ _ (p c x A W)) W) M (λS=>by
       rw[r];cases N:fT f more (d+k+1) (out++[((d+k:Nat):Int)])with
       |none=>rw[N]at S;cases S
       |some w=>exact⟨rfl,λw' al=>q3 w' (by rw[N];exact al)⟩) (λS=>by
       rw[r];cases N:fT f more (d+k+1) (out++[((d+k:Nat):Int)])with
       |none=>rfl
       |some w=>rw[N]at S;cases S)
      simpa using this
     simp[z,B,C,D,bg,t,u.1,u.2,y.1,y.2]
     repeat' (first
               |apply And.intro
               | (refine pC lay rfl cK rfl rl (es:=out.map int) (sp:=sp) (l:=0) (h:=out.length) (by simp[z]) (λcap T=>⟨⟨⟨.i64,by simp⟩,by simpa using T⟩,⟨⟨.i64,by simp⟩,Nat.le_refl _⟩,rfl⟩) (by simp) λa ha=>?_
                  have av:Tok σ' σ' a 1 (out.map int):=by
                   rcases ha with rfl|⟨e,rfl⟩
                   . have:List.take (out.length-0) (List.drop 0 (out.map int))=out.map int:=by rw[List.drop_zero,List.take_of_length_le (by simp)]
                     rw[this];exact .exact _ _ _
                   . rw[e];exact .nil _ _
                  clear ha;refine pg ?_;simp[t,z,B,C,D,bg,u.1,u.2,y.1,y.2])
               | (refine aS lay rfl rfl rfl cK rfl cK rfl rl (by decide) (by simp;omega) (σ0:=σ') (es:=out.map int) (xs:=[int ((d:Int)+k)]) (by simpa using av) (.inr ⟨_,by simp;rfl⟩) λa' i K=>?_
                  obtain⟨q,rfl⟩:∃q,a'=.sl 1 (out.map int++[int ((d:Int)+k)]) q:=by
                   rcases K.2 with⟨_,e⟩|e|⟨_,_,_,e,_⟩
                   . simp at e
                   . exact⟨_,e⟩
                   . exact⟨_,e⟩
                  have ax:=K.1 _ _ t;refine pg ?_;simp[ax,z,B,C,D,bg,u.1,u.2,y.1,y.2])
               | (refine eL Tryz.func71 rfl rfl (by simp) (I i q _ K.1 λv j Q M q3 q4=>?_)
                  refine pg ?_;simp[z,B,C,D,bg,u.1,u.2,y.1,y.2];cases v with
                  |true=>refine rn ?_;simp[aI,z,B,C,D,bg,u.1,u.2,y.1,y.2];obtain⟨w1,w2⟩:=q3 rfl;have X:=h j Q M w2;rw[w1]at X;exact .done X
                  |false=>refine rn ?_;simp[aI,z,B,C,D,bg,u.1,u.2,y.1,y.2];refine ih _ (by omega) ⟨_,_,rfl,by simp[z],by simp[B],by simp[C],by simp[D],by simp;omega,Q,M,q4 rfl⟩))
   . have:f.aA.length-(d+k)=0:=by omega
     rw[this]at H;rw[H]at h;exact .done (h _ p ⟨_,R⟩ λw O=>by cases O)
end W
end Go.Proofs.YtigilmjkokbblaaGreatDoor
namespace Go.Proofs.YtigilmjkokbblaaGreatDoor
open Tryz (prog)
open Go.bd Go.Conc
set_option maxHeartbeats 1000000
set_option maxRecDepth 4000
variable{m:Mo}{σ:aa}{KF:dV->aa->Prop}
open W
def jq(f:Fr):Option (List Int):=(List.range' 0 (f.aA.length+1)).findSome? λmany=>fT f many 0 []
theorem CX(R:m.solo=true){f:Fr}{w:List Int}(N:f.Fits)(A:check f=0)(S:jq f=some w)(h:KF (.val (.bG [ints w,int 0])) σ):aB prog m 32 [aC f] σ KF:=by
 have O:=Fr.hQ N A;have h6:=O.vw;refine fs [] 1 Tryz.func32 rfl rfl (by rfl) (by kernel_rfl) ?_
 simp[Tryz.f32];refine cf Tryz.func21 rfl (gF N ?_);refine rn ?_;simp[A];refine bL.intro λo E=>?_
 simp;refine bL.intro λt u=>?_
 obtain⟨B,P,u⟩:=aa.aF u;simp[B,P,aa.ag];refine⟨by omega,?_⟩
 generalize l:(σ.set o (.cells [AV.lit (.slice none 0 0)])).set t (.cells [F8 f o t])=g;have F:σ.Le g:=by subst l;exact aa.dg (aa.dg (aa.le_refl _) E) (by rw[aa.ag _ _ B];exact u)
 have T:g o=some (.cells [AV.lit (.slice none 0 0)]):=by subst l;simp[aa.ag,aa.ak,B,P]
 have U:g t=some (.cells [F8 f o t]):=by subst l;simp[aa.ak]
 have C:∀d,AE o g d->σ.Le d:=λd Q c x q=>Q c x (F c x q) (λe=>by subst e;rw[E]at q;cases q)
 refine ab.loop (f.aA.length+1) (λk s=>∃env d,s=⟨env,d,[],.no⟩/\env 5=.ref o 0/\env 6=.ref t 0/\env 17=int ((f.aA.length:Int)+1)/\env 18=int k/\AE o g d/\(∃G,d o=some (.cells [G]))/\((List.range' k (f.aA.length+1-k)).findSome? λmany=>fT f many 0 [])=some w) ⟨_,g,by rw[<-l],by simp,by simp,by simp,by simp,λc v h _=>h,⟨_,T⟩,S⟩ ?_
 rintro c0 k _ Q ⟨env,d,rfl,r,y,i,oZ,p,⟨G,H⟩,j⟩ V
 have a:=p _ _ U B;refine rn ?_;simp[r,y,i,oZ,a];refine aI.intro (λI=>?_) (λI=>?_)<;>(try simp[-Int.not_lt,-Int.not_le,-Nat.not_lt,-Nat.not_le]at I)<;>(try simp[r,y,i,oZ,a,I])
 . have W:k<=f.aA.length:=by omega
   obtain⟨n,X⟩:∃n,f.aA.length+1-k=n+1:=⟨f.aA.length-k,by omega⟩
   have J:f.aA.length+1-(k+1)=n:=by omega
   rw[X,List.range'_succ,List.findSome?_cons]at j;have Y:Wl [AV.lit (.slice none 0 0),int 0,int k,.ref o 0,.cp (aC f) 0,.ref t 0] [.sl 1 (([]:List Int).map int) .any,int (0:Nat),int k,.ref o 0,.cp (aC f) 0,.ref t 0]:=.cons (cW 1) (.cons (.refl _) (.cons (.refl _) (.cons (.refl _) (.cons (.refl _) (.cons (.refl _) .nil)))));refine eL Tryz.func71 rfl rfl rfl (aB.GC (Jx R O (Ne.symm B) k 0 [] .any d _ G H a (by omega) (by simp;omega) λK Z q2 q3=>?_) Y)
   have D:AE o g K:=λc x q A=>Z c x (p c x q A) A
   cases z:fT f k 0 []with
   | some L=>
     rw[z]at j;have:L=w:=by simpa using j
     subst this;obtain⟨sp,M⟩:=q3 _ z;refine ab.bY 5 (b:=o) (.sl 1 (L.map int) sp) M (by simp only[Env.upd];exact r) rfl ?_
     refine ab.zt 5 (a':=.cp (ints L) 0) (by simp;exact Nb rfl rfl (ck 1 _ sp)) ?_
     refine rn ?_;simp[r,y,i,oZ,a];refine .less (λc x q=>?_) (.done h)
     have n5:c≠o:=λe=>by subst e;rw[E]at q;cases q
     simp only[aa.del,n5,if_false];exact C _ D c x q
   | none=>
     rw[z]at j;refine rn ?_;simp[r,y,i,oZ,a];refine⟨by omega,V _ (by omega) ⟨_,_,rfl,by simp[r,y,i,oZ,a],by simp[r,y,i,oZ,a],by simp[r,y,i,oZ,a],by simp,D,q2,?_⟩⟩
     rw[J];simpa using j
 . rw[show f.aA.length+1-k=0 by omega]at j
   cases j
end Go.Proofs.YtigilmjkokbblaaGreatDoor
namespace Go.Proofs.YtigilmjkokbblaaGreatDoor
open Tryz (prog)
open Go.bd Go.Conc
set_option maxHeartbeats 1000000
set_option maxRecDepth 4000
theorem js:check (aE 4 3)=0:=by decide +kernel
theorem B1:check (aE 5 3)=0:=by decide +kernel
theorem B2:check (aE 4 2)=0:=by decide +kernel
theorem Nf:kr (aE 4 3) [0,1]=0:=by decide +kernel
theorem B3:dT (aE 4 3) [2]=[13,14,15]:=by decide +kernel
theorem F9:lx (aE 5 3)=4:=by decide +kernel
theorem Jy:ao (aE 4 3) []≠[]:=by decide +kernel
theorem vp:(ao (aE 4 3) []).foldl fg none=some [0,0,1,2]/\aM [0,0,1,2]=3:=by decide +kernel
theorem Jz:fY (((ao (aE 4 3) []).filter (bZ 1 2)).length:Int) (ao (aE 4 3) []).length=2:=by decide +kernel
theorem Ga:jq (aE 4 2)=some [1]:=by decide +kernel
end Go.Proofs.YtigilmjkokbblaaGreatDoor
namespace Go.Proofs.YtigilmjkokbblaaGreatDoor
open Tryz (prog)
open Go.bd Go.Conc
set_option maxHeartbeats 1000000
set_option maxRecDepth 4000
variable{m:Mo}{σ:aa}{KF:dV->aa->Prop}
theorem aP(n:Nat)(most:Int):(aE n most).Fits:=by
 refine⟨?_,by simp[aE],λr a=>?_,λe b=>?_⟩
 . simp[aE,fU];omega
 . simp[aE]at a;rcases a with rfl|rfl<;>simp
 . have:=List.mem_of_mem_take (show e∈fU.take n from b)
   simp[fU]at this;rcases this with rfl|rfl|rfl|rfl|rfl<;>simp
theorem nF(a:m.solo=true)(h:KF (.val (bool true)) σ):aB prog m 6 [] σ KF:=by
 refine fs [] 0 Tryz.func6 rfl rfl (by rfl) (by kernel_rfl) ?_;simp[Tryz.f6];refine cf Tryz.func24 rfl (fJ (n:=4) (most:=3) (by omega) ?_);refine rn ?_;simp;have b:Wl [aC (aE 4 3),.sl 1 [int 0,int 1] .exact] [aC (aE 4 3),ints [0,1]]:=.cons (.refl _) (.cons (ck 1 [int 0,int 1] .exact) .nil);refine aH Tryz.func13 rfl rfl b (Nd (aP 4 3) js ?_ (by simp) ?_)
 . exact⟨by decide +kernel,by simp⟩
 refine rn ?_;simp[Nf];refine cf Tryz.func24 rfl (fJ (n:=4) (most:=3) (by omega) ?_);refine rn ?_;simp;have b:Wl [aC (aE 4 3),.sl 1 [int 2] .exact] [aC (aE 4 3),ints [2]]:=.cons (.refl _) (.cons (ck 1 [int 2] .exact) .nil);refine aH Tryz.func15 rfl rfl b (yi (aP 4 3) js ?_ ?_)
 . exact⟨by decide +kernel,by simp⟩
 refine rn ?_;simp;refine cf Tryz.func24 rfl (fJ (n:=5) (most:=3) (by omega) ?_);refine rn ?_;simp;refine cf Tryz.func25 rfl (CU a (aP 5 3) B1 (by decide +kernel) ?_);refine rn ?_;simp[F9];refine cf Tryz.func24 rfl (fJ (n:=4) (most:=3) (by omega) ?_);refine rn ?_;simp;refine cf Tryz.func27 rfl (zP a (aP 4 3) js vp.1 (by decide +kernel) ?_);refine rn ?_;simp[vp.2];refine cf Tryz.func24 rfl (fJ (n:=4) (most:=3) (by omega) ?_);refine rn ?_;simp;refine cf Tryz.func28 rfl (Gw a (aP 4 3) js (by decide) (by decide) Jy (by decide +kernel) ?_);refine rn ?_;simp[Jz];refine cf Tryz.func24 rfl (fJ (n:=4) (most:=2) (by omega) ?_)
 refine rn ?_;simp;refine cf Tryz.func32 rfl (CX a (aP 4 2) B2 Ga ?_);refine rn ?_;simp;refine aH Tryz.func17 rfl rfl (args':=[ints (dT (aE 4 3) [2]),ints [13,14,15]]) (.cons (.refl _) (.cons (ck 1 [int 13,int 14,int 15] .exact) .nil)) (cP (by decide +kernel) (by decide +kernel) ?_);refine rn ?_;simp[B3];refine aH Tryz.func17 rfl rfl (args':=[ints [0,0,1,2],ints [0,0,1,2]]) (.cons (.refl _) (.cons (ck 1 [int 0,int 0,int 1,int 2] .exact) .nil)) (cP (by simp) (by simp) ?_);refine rn ?_;simp;refine aH Tryz.func17 rfl rfl (args':=[ints [1],ints [1]]) (.cons (.refl _) (.cons (ck 1 [int 1] .exact) .nil)) (cP (by simp) (by simp) ?_);refine rn ?_;simp;exact .done h
end Go.Proofs.YtigilmjkokbblaaGreatDoor
namespace Go.Proofs.YtigilmjkokbblaaGreatDoor
open Tryz (prog)
open Go.bd Go.Conc
set_option maxHeartbeats 2000000
set_option maxRecDepth 4000
def EA(low top:Int):List Int:=(List.range (top+1-low).toNat).map λi:Nat=>low+i
def cz(i:Nat)(l:List Int):Int:=if i=0 then 0 else l.getD (i-1) 0+1
def aT(n k:Int)(i:Nat)(l:List Int):List (List Int):=(EA (cz i l) (n-k+i)).map λy=>l++[y]
def du(n k:Int):Nat->List (List Int)
 |0=>[[]]
 |i+1=>(du n k i).flatMap (aT n k i)
def lu(n:Int)(k:Nat):List (List Int):=du n k k
structure Uo(n:Int)(i:Nat)(l:List Int):Prop where
 len:l.length=i
 mem:∀x∈l,0<=x/\x<n
 XH:∀a b,a<b->b<i->l.getD a 0<l.getD b 0
theorem kq{n k:Int}:∀(i:Nat),(i:Int)<=k->∀l∈du n k i,Uo n i l
 |0,_,l,f=>by simp[du]at f;subst f;exact⟨rfl,by simp,λa b z A=>by omega⟩
 | i + 1,B,l,f=>by
   unfold du at f;obtain⟨p,v,r⟩:=List.mem_flatMap.1 f;have c:=kq i (by omega) p v
   unfold aT at r;obtain⟨y,s,rfl⟩:=List.mem_map.1 r;unfold EA at s;obtain⟨t,u,rfl⟩:=List.mem_map.1 s;have u:=List.mem_range.1 u
   have g:0<=cz i p/\∀a,a<i->p.getD a 0<cz i p:=by
    unfold cz;split
    . exact⟨by omega,λa h=>by omega⟩
    . next C=>
      have j:i-1<p.length:=by rw[c.len];omega
      have w:p.getD (i-1) 0∈p:=by rw[List.getD_eq_getElem?_getD,List.getElem?_eq_getElem j];exact List.getElem_mem j
      have:=c.mem _ w;refine⟨by omega,λa D=>?_⟩
      by_cases e:a=i-1
      . subst e;omega
      . have:=c.XH a (i-1) (by omega) (by omega);omega
   have hlen:=c.len;refine⟨by simp[hlen],λx d=>?_,λa b m hb=>?_⟩
   . rcases List.mem_append.1 d with d|d
     . exact c.mem x d
     . simp at d;subst d;omega
   . by_cases e:b=i
     . subst e
       have o:(p++[cz b p+t]).getD b 0=cz b p+t:=by rw[List.getD_eq_getElem?_getD,List.getElem?_append_right (by omega),hlen];simp
       have q:(p++[cz b p+t]).getD a 0=p.getD a 0:=by rw[List.getD_eq_getElem?_getD,List.getElem?_append_left (by omega),<-List.getD_eq_getElem?_getD]
       rw[o,q];have:=g.2 a m;omega
     . have o:(p++[cz i p+t]).getD b 0=p.getD b 0:=by
        rw[List.getD_eq_getElem?_getD,List.getElem?_append_left (by omega),<-List.getD_eq_getElem?_getD]
       have q:(p++[cz i p+t]).getD a 0=p.getD a 0:=by rw[List.getD_eq_getElem?_getD,List.getElem?_append_left (by omega),<-List.getD_eq_getElem?_getD]
       rw[o,q];exact c.XH a b m (by omega)
def Ng(f:Fr)(l:List Int):List Int:=(bI f (bp f (l.getD 0 0))).filter λh=>l.all λj=>decide (h∈bI f (bp f j))
theorem Ei{f:Fr}{l:List Int}(b:l≠[]):dT f l=Ng f l:=by
 match l,b with
 | a::r,_=>
   simp only[dT,Ng,cO,List.map_cons,List.getD_cons_zero];refine List.filter_congr λx c=>?_
   simp[c,List.all_eq_true]
end Go.Proofs.YtigilmjkokbblaaGreatDoor
namespace Go.Proofs.YtigilmjkokbblaaGreatDoor
open Tryz (prog)
open Go.bd Go.Conc
set_option maxHeartbeats 1000000
set_option maxRecDepth 4000
section
variable{k:Int->Int}
end
theorem qo{l:List Int}(h:mw none l=0):∃a:Fin 32,br l=(a.val:Int):=by have:=kv (om h);exact⟨⟨(br l).toNat,by omega⟩,by show br l=((br l).toNat:Int);omega⟩
def Fit(f:Fr)(a b:Int):Prop:=gi f a b=false
theorem nD{f:Fr}{n:Int}(h:0<=n/\n<f.aA.length):bp f n∈f.aA:=by
 have:n.toNat<f.aA.length:=by omega
 rw[gn this];exact List.getElem_mem this
theorem Ba{f:Fr}{l:List Int}(b:l≠[]){h:Int}:h∈dT f l↔∀j∈l,h∈bI f (bp f j):=by
 rw[Ei b]
 match l,b with
 |a::r,_=>simp only[Ng,List.mem_filter,List.all_eq_true,decide_eq_true_eq];exact⟨λq=>q.2,λq=>⟨q a (by simp),q⟩⟩
theorem Cs{f:Fr}{l:List Int}:kr f l=0↔dM f (aL f l)=false/\cC f (aL f l)=false/\bj f (aL f l)=false:=by unfold kr;cases dM f (aL f l)<;>cases cC f (aL f l)<;>cases bj f (aL f l)<;>simp
theorem nC{α:Type}(l:List α)(x d:α)(i:Nat):(l++[x]).getD i d=if i<l.length then l.getD i d else if i=l.length then x else d:=by
 rw[List.getD_eq_getElem?_getD,List.getD_eq_getElem?_getD];split
 . next h=>rw[List.getElem?_append_left h]
 . next h=>
   split
   . next e=>subst e;simp
   . rw[List.getElem?_eq_none (by simp;omega)];rfl
section
variable{f:Fr}{most:Nat}{C H ks:List Int}{last:List gX}
end
def fu(f:Fr)(n:gX):Fr:={f with aA:=f.aA++[n]}
theorem jl{a b c:Int}:dz a b c=true↔b<=a/\a<=c:=by simp[dz]
theorem rv:∀{l c:List Int},l.Pairwise (·<·)->c.Pairwise (·<·)->(∀x,x∈l↔x∈c)->l=c
 |[],[],_,_,_=>rfl
 |[],b::c,_,_,h=>absurd ((h b).2 (by simp)) (by simp)
 |a::l,[],_,_,h=>absurd ((h a).1 (by simp)) (by simp)
 | a :: l,b::c,k,m,h=>by
   obtain⟨i,n⟩:=List.pairwise_cons.1 k;obtain⟨j,o⟩:=List.pairwise_cons.1 m
   have e:a=b:=by
    have d:=(h a).1 (by simp);have hb:=(h b).2 (by simp);rcases List.mem_cons.1 d with d|d
    . exact d
    . rcases List.mem_cons.1 hb with hb|hb
      . exact hb.symm
      . have:=i b hb
        have:=j a d;omega
   subst e;rw[rv n o λx=>?_];have g:=h x;simp only[List.mem_cons]at g;constructor
   . intro f
     have:=i x f;rcases g.1 (.inr f)with e|e
     . omega
     . exact e
   . intro f
     have:=j x f;rcases g.2 (.inr f)with e|e
     . omega
     . exact e
def pG(f:Fr)(l:List Int):List Int:=((List.range f.aA.length).map λi:Nat=>(i:Int)).filter λi=>decide (i∈l)
theorem Bg(f:Fr)(l:List Int):(pG f l).Pairwise (·<·):=by refine List.Pairwise.filter _ ?_;rw[List.pairwise_map];exact List.pairwise_lt_range.imp λh=>by omega
theorem sI{f:Fr}{l:List Int}{x:Int}:x∈pG f l↔(0<=x/\x<f.aA.length)/\x∈l:=by
 unfold pG;rw[List.mem_filter,List.mem_map,decide_eq_true_eq];constructor
 . rintro⟨⟨i,a,rfl⟩,h⟩
   have:=List.mem_range.1 a;exact⟨by omega,h⟩
 . rintro⟨b,h⟩
   exact⟨⟨x.toNat,List.mem_range.2 (by omega),by omega⟩,h⟩
theorem Gk{f:Fr}{l:List Int}(h:l.Pairwise (·<·))(a:∀n∈l,0<=n/\n<f.aA.length):pG f l=l:=rv (Bg f l) h λx=>sI.trans ⟨λh=>h.2,λh=>⟨a x h,h⟩⟩
end Go.Proofs.YtigilmjkokbblaaGreatDoor
namespace Go.Proofs.YtigilmjkokbblaaGreatDoor
open Tryz (prog)
open Go.bd Go.Conc
set_option maxHeartbeats 1000000
variable{m:Mo}{σ:aa}{KF:dV->aa->Prop}
def dR(f:Fr)(l:List Int):Int:=if check f≠0 then check f else lU f l
end Go.Proofs.YtigilmjkokbblaaGreatDoor
namespace Go.Proofs.YtigilmjkokbblaaGreatDoor
open Tryz (prog)
open Go.bd Go.Conc
set_option maxHeartbeats 1000000
set_option maxRecDepth 4000
variable{m:Mo}{σ:aa}{KF:dV->aa->Prop}
theorem sH{P:Program}{m:Mo}{fid n:Nat}{ro:Option Nat}{hold:List Entry}{K:bd.Exit->St->Prop}{todo:List Item}{D:List lQ}{rc:Rec}{G:Prop}(I:Env->aa->Prop)
 (a:(∀env σ,I env σ->ab P m fid n ro hold todo ⟨env,σ,D,rc⟩ K)->G) (b:∀env σ,I env σ->ab P m fid n ro hold todo ⟨env,σ,D,rc⟩ K):G:=a b
abbrev lV:List AV:=[.lit (.slice none 0 0),.lit (.slice none 0 0),int 0,int 0,int 0,int 0]
end Go.Proofs.YtigilmjkokbblaaGreatDoor
namespace Go.Proofs.YtigilmjkokbblaaGreatDoor
open Tryz (prog)
open Go.bd Go.Conc
set_option maxHeartbeats 2000000
set_option maxRecDepth 4000
variable{m:Mo}{σ:aa}{KF:dV->aa->Prop}
theorem jm{σ0 σ c σ':aa}{a:AV}{kk:Nat}{es:List AV}(h:Tok σ0 σ a kk es)(d:c.Le σ')(hb:∀b,bX a=some b->σ' b=σ b/\c b=none):Tok c σ' a kk es:=by
 refine⟨d,?_⟩;rcases h.2 with q|q|⟨b,e,k,f,g⟩
 . exact .inl q
 . exact .inr (.inl q)
 . obtain⟨i,j⟩:=hb b (by rw[f];rfl)
   exact .inr (.inr ⟨b,e,j,f,by rw[i];exact g⟩)
theorem iD{env:Env}{t u:Nat}{v:AV}(h:u≠t):(env.upd t v) u=env u:=by unfold Env.upd;rw[if_neg h]
theorem lH{env:Env}{t:Nat}{v:AV}:(env.upd t v) t=v:=by unfold Env.upd;rw[if_pos rfl]
section
variable{V:Nat->AV}{jP env:Env}{σ6:aa}{c c13 K:Nat}{nums:List Int}{T:Int}{X:Int->List AV}{done:List Nat}
end
section
variable{c k:Nat}{nums:List Int}
end
theorem Pm:Hj prog 25 3:=.of (by kernel_rfl) (by kernel_rfl) (by kernel_rfl) (by kernel_rfl)
namespace MA
end MA
end Go.Proofs.YtigilmjkokbblaaGreatDoor
namespace Go.Proofs.YtigilmjkokbblaaGreatDoor
open Tryz (prog)
open Go.bd Go.Conc
set_option maxHeartbeats 1000000
set_option maxRecDepth 4000
variable{m:Mo}{σ:aa}{KF:dV->aa->Prop}
theorem yr{f:Fr}:∀{l:List Int}{p:Option Int},fI f p l=0->(∀q,p=some q->∀x∈l,q<x)/\l.Pairwise (·<·)
 |[],p,_=>⟨λ_ _ x b=>(by cases b),List.Pairwise.nil⟩
 | a::l,p,h=>by
   unfold fI at h;split at h
   . cases h
   split at h
   . cases h
   next d=>
   obtain⟨e,g⟩:=yr h;have b:∀x∈l,a<x:=e a rfl;refine⟨λq i x c=>?_,List.pairwise_cons.2 ⟨b,g⟩⟩;subst i;have:q<a:=by simpa[mL]using d
   rcases List.mem_cons.1 c with rfl|hm
   . exact this
   . have:=b x hm;omega
theorem lI{f:Fr}{l:List Int}(h:dR f l=0):check f=0/\lU f l=0/\l≠[]/\l.Pairwise (·<·)/\∀n∈l,0<=n/\n<f.aA.length:=by
 unfold dR at h;split at h
 . next q=>exact absurd h q
 next q=>
 have a:=h;unfold lU at h;split at h
 . cases h
 next b=>exact⟨by simpa using q,a,λe=>b (by rw[e];rfl),(yr h).2,BX f h⟩
def yN(f:Fr)(l:List Int):Bool × Int:=if dR f l≠0 then(false,dR f l)else(decide (kr f l=0),0)
def fR(f:Fr)(l:List Int):List Int × Int:=if dR f l≠0 then([],dR f l)else(dT f l,0)
theorem tN{a b:AV}:(AV.bG [.lit (.slice none 0 0),a]).W (.bG [ints [],a]):=wQ rfl λi x y c d=>by
 match i with
 |0=>simp at c d;subst c;subst d;exact cW 1
 |1=>simp at c d;subst c;subst d;exact .refl _
 |i+2=>simp at c
end Go.Proofs.YtigilmjkokbblaaGreatDoor
namespace Go.Proofs.YtigilmjkokbblaaGreatDoor
open Tryz (prog)
open Go.bd Go.Conc
set_option maxHeartbeats 2000000
set_option maxRecDepth 4000
variable{m:Mo}{σ:aa}{KF:dV->aa->Prop}
theorem zd{r:List (List Int)}(j:r.length<1152921504606846976)(e:∀l∈r,l.length<1152921504606846976)(h:KF (.val (bool true)) σ):aB prog m 59 [rows r,rows r] σ KF:=by
 refine fs VQ 2 Tryz.func59 rfl rfl (by rfl) (by kernel_rfl) ?_;simp[Tryz.f59];refine ab.loop r.length (λi s=>∃env,s=⟨env,σ,[],.no⟩/\env 0=rows r/\env 1=rows r/\env 5=int i) ⟨_,rfl,by simp,by simp,by simp⟩ ?_;rintro k i _ n ⟨env,rfl,a,b,c⟩ f;rcases Nat.lt_or_ge i r.length with g1|g1
 . have d:(i:Int)<r.length:=by omega
   have f1:-9223372036854775808<=(i:Int)+1/\(i:Int)+1<=9223372036854775807:=by omega
   refine rn ?_;simp[a,b,c,g1,d];refine cf Tryz.func17 rfl (cP (e _ (List.getElem_mem g1)) (e _ (List.getElem_mem g1)) ?_);refine pg ?_;simp[a,b,c];refine rn ?_;simp[a,b,c,f1.1,f1.2];exact f _ g1 ⟨_,rfl,by simp[a,b,c],by simp[a,b,c],by simp⟩
 . have g:¬(i:Int)<r.length:=by omega
   refine rn ?_;simp[a,b,c,g];exact .done h
theorem uB{e:gX}(a:e.marks.length<1152921504606846976)(h:KF (.val (bool true)) σ):aB prog m 60 [aW e,aW e] σ KF:=by
 refine fs [] 2 Tryz.func60 rfl rfl (by rfl) (by kernel_rfl) ?_;simp[Tryz.f60];refine cf Tryz.func17 rfl (cP a a ?_);refine rn ?_;simp;exact .done h
theorem pK{f:Fr}(k:f.Fits)(h:KF (.val (bool true)) σ):aB prog m 23 [aC f,aC f] σ KF:=by
 have n:=k.aA;refine fs VN 2 Tryz.func23 rfl rfl (by rfl) (by kernel_rfl) ?_;simp[Tryz.f23];refine cf Tryz.func59 rfl (zd k.roads k.row ?_);refine rn ?_;simp;refine zV lay Pm rl rfl (a:=f.bH) (b:=f.hH) (c:=f.bH) (d:=f.hH) (r:=false) rfl (by simp) (by simp) (.inr ⟨rfl,by simp⟩) ?_;refine rn ?_;simp;refine ab.loop f.aA.length (λi s=>∃env,s=⟨env,σ,[],.no⟩/\env 2=.cp (aC f) 0/\env 3=.cp (aC f) 0/\env 5=int i) ⟨_,rfl,by simp,by simp,by simp⟩ ?_;rintro q i _ t ⟨env,rfl,e,g,j⟩ o;rcases Nat.lt_or_ge i f.aA.length with g1|g1
 . have l:(i:Int)<f.aA.length:=by omega
   have f1:-9223372036854775808<=(i:Int)+1/\(i:Int)+1<=9223372036854775807:=by omega
   refine rn ?_;simp[e,g,j,g1,l];refine cf Tryz.func60 rfl (uB (k.marks _ (List.getElem_mem g1)) ?_);refine pg ?_;simp[e,g,j];refine rn ?_;simp[e,g,j,f1.1,f1.2];exact o _ g1 ⟨_,rfl,by simp[e,g,j],by simp[e,g,j],by simp⟩
 . have p:¬(i:Int)<f.aA.length:=by omega
   refine rn ?_;simp[e,g,j,p];exact .done h
namespace WI
end WI
theorem Gs{σ:aa}{d:Nat}{x:jB}(h:σ d=none):(σ.set d x).del d=σ:=by
 funext y;by_cases e:y=d
 . subst e;simp[aa.del,h]
 . simp[aa.del,e,aa.ag]
end Go.Proofs.YtigilmjkokbblaaGreatDoor
