/- Part 3 of the proof. -/
import Derived.Test.YtalogdafegmilaaGreatDoorL2
set_option linter.all false
namespace Go.Proofs.YtalogdafegmilaaGreatDoor
open Go.aN
abbrev LE:List Entry:=[⟨11,.take [0,1,2,3,4,5] false (.one 6 (.one 7 (.take [8,9,10,11,12] true (.done))))⟩]
abbrev LF:List Entry:=[⟨5,.take [0,1,2,3,4,5,6,7,8,9,10,11,12,13,14] true (.done)⟩]
end Go.Proofs.YtalogdafegmilaaGreatDoor
namespace Go.Proofs.YtalogdafegmilaaGreatDoor
open Go.aN Go.Conc
set_option maxHeartbeats 1000000
variable{m:Mo}{σ:aa}{KF:cL->aa->Prop}
theorem nP{l:List Int}(hl:l.length<=1000000000)(h:∀a σ',bG σ σ' a 1 (l.map int)->KF (.val a) σ'):aA Tryz.prog m 75 [ints l] σ KF:=by
 refine aA.start lay [] [] 1 Tryz.func75 rfl rfl (by rfl) (by kernel_rfl) ?_;simp[Tryz.f75];refine gf lay rfl rfl rfl cA rfl cA rfl pQ (by decide) (by simp;omega) (σ0:=σ) (es:=[]) (xs:=l.map int) (.empty σ 1) (.inl (.inr ⟨_,rfl⟩)) (by simp) λa' σ' ht=>?_
 refine ab.run lay [] ?_;simp;exact .done (h _ _ (by simpa using ht))
end Go.Proofs.YtalogdafegmilaaGreatDoor
namespace Go.Proofs.YtalogdafegmilaaGreatDoor
open Go.aN Go.Conc
set_option maxHeartbeats 2000000
set_option maxRecDepth 4000
variable{m:Mo}{σ:aa}{KF:cL->aa->Prop}
section
variable{c k:Nat}{nums:List Int}
theorem Eu{cnt:Int}(hk:k+20+11*cnt.toNat<1000000)(hn:nums.length<1152921504606846976)(hcnt:0<=cnt/\cnt<=1000)(hb:bZ c nums k σ)(h:∀(f:Fr) σ',pR cnt f->pS c nums (k+20+11*cnt.toNat) σ σ'->KF (.val (aF f)) σ'):aA Tryz.prog m 14 [.ref c 0,int cnt] σ KF:=by
 refine aA.thaw (uI hk hn hcnt hb λf a σ' hf hd ha=>?_);by_cases e:f.az=[]
 . obtain rfl:=ha.1 e
   refine .nC (a':=aF f) (rS rfl λi x y x1 x2=>?_) (.done (h f σ' hf hd))
   match i with
   |0=>simp at x1 x2;subst x1;subst x2;rw[e];exact fT 6
   |1=>simp at x1 x2;subst x1;subst x2;exact .refl _
   |2=>simp at x1 x2;subst x1;subst x2;exact .refl _
   |3=>simp at x1 x2;subst x1;subst x2;exact .refl _
   |4=>simp at x1 x2;subst x1;subst x2;exact .refl _
   |5=>simp at x1 x2;subst x1;subst x2;exact .refl _
   |i+6=>simp at x1
 . obtain rfl:=ha.2 e
   exact .done (h f σ' hf hd)
end
end Go.Proofs.YtalogdafegmilaaGreatDoor
namespace Go.Proofs.YtalogdafegmilaaGreatDoor
open Go.aN Go.Conc
set_option maxHeartbeats 2000000
set_option maxRecDepth 4000
structure Ev(n:Int)(i:Nat)(l:List Int):Prop where
 len:l.length=i
 mem:∀x∈l,0<=x/\x<n
 LG:∀a b,a<b->b<i->l.getD a 0<l.getD b 0
theorem uJ{f:Fr}(hf:f.Good)(e:lP):bO f e≠[]:=by
 unfold bO gN;have:=hf.le;by_cases h0:e.iS=0
 . simp[h0]
 . have hp:(f.jn-f.bM+1).toNat=(f.jn-f.bM).toNat+1:=by omega
   rw[if_pos h0,hp,List.range_succ_eq_map];split<;>simp
theorem dU(f:Fr):∀(l:List Int) (p:Option Int),(∀x∈l,0<=x/\x<f.az.length)->l.Pairwise (·<·)->(∀q,p=some q->∀x∈l,q<x)->ez f p l=0
 |[],_,_,_,_=>rfl
 | a :: l,p,h1,h2,h3=>by
   have ha:=h1 a (by simp);have h2':=List.pairwise_cons.1 h2;have e1:dv a 0 (f.az.length-1)=true:=by simp[dv,ha.1];omega
   have e2:lw p a=false:=by
    cases p with
    |none=>rfl
    | some q=>
      have:=h3 q rfl a (by simp);simp[lw];omega
   unfold ez;rw[e1,if_neg (by simp),e2,if_neg (by simp)];exact dU f l (some a) (λx hx=>h1 x (by simp[hx])) h2'.2 (λq hq x hx=>by cases hq;exact h2'.1 x hx)
theorem Ev.pw{n:Int}{i:Nat}{l:List Int}(h:Ev n i l):l.Pairwise (·<·):=by
 rw[List.pairwise_iff_getElem];intro a b ha hb hab;have:=h.LG a b hab (by rw[<-h.len];exact hb);simpa[List.getD_eq_getElem?_getD,ha,hb]using this
theorem qM{f:Fr}{n:Nat}{l:List Int}(h:Ev f.az.length n l)(hn:1<=n/\n<=6):Dk f l:=by
 have hl:=h.len;refine⟨?_,by omega⟩;unfold nQ;rw[if_neg (by omega)];exact dU f l none h.mem h.pw (λq hq=>by cases hq)
end Go.Proofs.YtalogdafegmilaaGreatDoor
namespace Go.Proofs.YtalogdafegmilaaGreatDoor
open Go.aN Go.Conc
set_option maxHeartbeats 1000000
set_option maxRecDepth 4000
section
variable{k:Int->Int}
end
theorem B8{f:Fr}(hg:f.Good)(n:Int):ii f [n]=0:=by
 have e:aT f [n]=[n]:=by simp[aT,eH,eI]
 refine nR.2 ?_;rw[e];refine⟨by simp[dF],?_,rfl⟩;unfold cG;simp only[decide_eq_false_iff_not];obtain⟨x,hx⟩:=List.exists_mem_of_ne_nil _ (uJ hg (bT f n));exact List.ne_nil_of_mem ((qN (by simp)).2 (λj hj=>by simp at hj;subst hj;exact hx))
theorem dV(f:Fr)(begun:List Int):∀(fuel:Nat) (cd:List Int) (many:Int) (hs:List Int),begun.length<=cd.length->cV f begun fuel cd many hs=cV f [] fuel cd many hs
 |0,_,_,_,_=>rfl
 | fuel+1,cd,many,hs,h=>by
   unfold cV;congr 1;funext k;have e1:¬(cd.length<begun.length/\begun.getD cd.length 0≠(k:Int)):=by omega
   have e2:¬(cd.length<([]:List Int).length/\([]:List Int).getD cd.length 0≠(k:Int)):=by simp
   rw[if_neg e1,if_neg e2];split
   . exact dV f begun fuel _ _ _ (by simp;omega)
   . rfl
theorem pT{f:Fr}(hg:f.Good)(h2:2<=f.az.length):ak f []=ak f [0,0]++ak f [0,1]:=by
 obtain⟨n,hn⟩:∃n,f.az.length=n+2:=⟨f.az.length-2,by omega⟩;have hm:=hg.most;have e1:(min ((0:Int)+1) f.most).toNat=1:=by omega
 unfold ak;rw[hn];unfold cV;rw[e1];simp only[List.range_succ,List.range_zero,List.nil_append,List.flatMap_cons,List.flatMap_nil,List.append_nil];simp;by_cases c0:gO f (bq 0 0)=true
 . simp only[c0,if_true]
   unfold cV;have e2:(min (max (0:Int) 1+1) f.most).toNat=1\/(min (max (0:Int) 1+1) f.most).toNat=2:=by omega
   rcases e2 with e2|e2
   . rw[e2]
     simp only[List.range_succ,List.range_zero,List.nil_append,List.flatMap_cons,List.flatMap_nil,List.append_nil];simp;rw[dV f [0,0] n [0,0] _ _ (by simp)]
   . rw[e2]
     simp only[List.range_succ,List.range_zero,List.nil_append,List.flatMap_cons,List.flatMap_nil,List.append_nil];simp;rw[dV f [0,0] n [0,0] _ _ (by simp),dV f [0,1] n [0,1] _ _ (by simp)]
 . simp[c0]
theorem pU{f:Fr}(hg:f.Good)(h2:2<=f.az.length):fK f=((ak f []).length:Int):=by
 unfold fK;rw[if_neg (by omega),pT hg h2,List.length_append];omega
theorem sW(w:List Int)(b:Int)(hb:0<=b)(h:∀x∈w,x<b):am w<=b:=by
 have:∀n:Int,n<=b->w.foldl (λn k=>max n (k+1)) n<=b:=by
  induction w with
  |nil=>intro n hn;exact hn
  | cons a t ih=>
    intro n hn;rw[List.foldl_cons];have:=h a (by simp);exact ih (λx hx=>h x (by simp[hx])) _ (by omega)
 exact this 0 hb
theorem nT:∀(i:Nat),∀l∈aU i,∀k:Nat,(k:Int)<am l->au l k≠[]
 |0,l,h,k,hk=>by simp[aU]at h;subst h;rw[show am []=0 from rfl]at hk;omega
 | i + 1,l,h,k,hk=>by
   unfold aU at h;obtain⟨p,hp,hq⟩:=List.mem_flatMap.1 h;unfold aV at hq;obtain⟨k',hk1,rfl⟩:=List.mem_map.1 hq;have hk1:=List.mem_range.1 hk1;have:=bP p;rw[bn]at hk;rw[bo];by_cases e:k'=k
   . subst e;simp
   . have:=nT i p hp k (by omega)
     rw[if_neg (by omega),List.append_nil];exact this
theorem gg:∀(i:Nat),i<=6->(aU i).length<=7 ^ i
 |0,_=>by simp[aU]
 | i+1,hi=>by
   have ih:=gg i (by omega);unfold aU;rw[Nat.pow_succ];refine Nat.le_trans (tT (B:=7) _ λl hl=>?_) (Nat.mul_le_mul_right _ ih);have:=(ir i l hl).2.2;have:=bP l;unfold aV;rw[List.length_map,List.length_range];omega
end Go.Proofs.YtalogdafegmilaaGreatDoor
namespace Go.Proofs.YtalogdafegmilaaGreatDoor
open Go.aN Go.Conc
set_option maxHeartbeats 1000000
set_option maxRecDepth 4000
variable{m:Mo}{σ:aa}{KF:cL->aa->Prop}
theorem zY(hs:m.solo=true){f:Fr}{l:List Int}{sp:cM}(hf:f.Fits)(hc:check f=0)(hl:∀n∈l,0<=n/\n<f.az.length)(hll:l.length<1152921504606846976)(hway:ak f []=[])(h:∀σ',σ.Le σ'->KF (.val (.c9 [.lit (.pointer none),int 11])) σ'):aA Tryz.prog m 56 [aF f,.sl 1 (l.map int) sp] σ KF:=by
 have hg:=Fr.jw hf hc;have ho:=uK hc hl;refine aA.start lay [] [] 2 Tryz.func56 rfl rfl (by rfl) (by kernel_rfl) ?_
 simp[Tryz.f56];have hW:Wl [AV.agg (eP f),.sl 1 (l.map int) sp] [aF f,ints l]:=.cons (.refl _) (.cons (gK 1 _ sp) .nil);refine bs Tryz.func47 rfl rfl hW (tV hf hll (λq=>absurd ho q) λ_ b mb σ' hn=>?_)
 have hu:v4 b 6 mb .u8 (dm f) σ':=by rw[hn.eq];exact⟨aa.ao _ _ _,[],(aa.ai _ _ (Ne.symm hn.ne)).trans (aa.ao _ _ _),λn a h=>by simp[iu]at h⟩
 refine ab.run lay [] ?_;simp;refine aq Tryz.func53 rfl rfl (yu (fQ nk np tB hs hn.ne) hg hu λσ2 q1 q2=>?_)
 refine ab.run lay [] ?_;simp[hway];refine .done (h σ2 λc x hx=>?_)
 have c1:c≠b:=λe=>by subst e;rw[hn.hb]at hx;cases hx
 have c2:c≠mb:=λe=>by subst e;rw[hn.zy]at hx;cases hx
 exact q2 c x (hn.le c x hx) c1 (.inl c2)
end Go.Proofs.YtalogdafegmilaaGreatDoor
namespace Go.Proofs.YtalogdafegmilaaGreatDoor
open Go.aN Go.Conc
set_option maxHeartbeats 1000000
set_option maxRecDepth 4000
variable{m:Mo}{σ:aa}{KF:cL->aa->Prop}
theorem gQ(w:List Int)(i:Nat)(h:i<w.length):am (w.take (i+1))=max (am (w.take i)) (w[i]+1):=by rw[List.take_succ_eq_append_getElem h,bn]
theorem qO{l:List Int}(hl:l.length<1152921504606846976)(hb:∀x∈l,-1<=x/\x<=1000)(h:KF (.val (int (am l))) σ):aA Tryz.prog m 23 [ints l] σ KF:=by
 refine aA.start lay [] [] 1 Tryz.func23 rfl rfl (by rfl) (by kernel_rfl) ?_;simp[Tryz.f23];refine ab.loop l.length (λk s=>∃env,s=⟨env,σ,[],.no⟩/\env 0=ints l/\env 3=int (am (l.take k))/\env 4=int k) ⟨_,rfl,by simp,by simp[am],by simp⟩ ?_;rintro c0 k _ hk ⟨env,rfl,e0,e3,e4⟩ ih;rcases Nat.lt_or_ge k l.length with g1|g1
 . have g1':(k:Int)<l.length:=by omega
   have hx:=hb _ (List.getElem_mem g1);have f1:-9223372036854775808<=(k:Int)+1/\(k:Int)+1<=9223372036854775807:=by omega
   have f2:-9223372036854775808<=l[k]+1/\l[k]+1<=9223372036854775807:=by omega
   refine ab.run lay [] ?_;simp[e0,e3,e4,g1,f1.1,f1.2,f2.1,f2.2];refine ih _ g1 ⟨_,rfl,by simp[e0,e3,e4],?_,by simp⟩;rw[gQ _ _ g1];simp[e0,e3,e4];split<;>omega
 . have hke:k=l.length:=by omega
   subst hke;rw[List.take_length]at e3;refine ab.run lay [] ?_;simp[e0,e3,e4];exact .done h
theorem bw(w:List Int)(k:Int)(i:Nat)(h:i<w.length):au (w.take (i+1)) k=au (w.take i) k++if w[i]=k then[(i:Int)]else[]:=by rw[List.take_succ_eq_append_getElem h,bo,List.length_take,Nat.min_eq_left (by omega)]
theorem bg(w:List Int)(k:Int):(au w k).length<=w.length:=by unfold au;rw[List.length_map];refine Nat.le_trans (List.length_filter_le _ _) ?_;simp
theorem qP{w:List Int}{k:Int}(hl:w.length<1000000)(h:KF (.val (ints (au w k))) σ):aA Tryz.prog m 36 [ints w,int k] σ KF:=by
 refine aA.start lay [] [] 2 Tryz.func36 rfl rfl (by rfl) (by kernel_rfl) ?_;simp[Tryz.f36];refine ab.loop w.length (λi s=>∃env σ',s=⟨env,σ',[],.no⟩/\env 0=ints w/\env 1=int k/\env 6=int i/\Tok σ σ' (env 5) 1 ((au (w.take i) k).map int)) ⟨_,σ,rfl,by simp,by simp,by simp,by simpa[au]using Tok.nil σ 1⟩ ?_;rintro c0 i _ hi ⟨env,σ',rfl,e0,e1,e6,htok⟩ ih;have htc:=htok.cells;rcases Nat.lt_or_ge i w.length with g1|g1
 . have g1':(i:Int)<w.length:=by omega
   have f1:-9223372036854775808<=(i:Int)+1/\(i:Int)+1<=9223372036854775807:=by omega
   refine ab.run lay [] ?_;simp[e0,e1,e6,htc.1,htc.2,g1];refine aK.intro (λg2=>?_) (λg2=>?_)<;>(try simp[-Int.not_lt,-Int.not_le,-Nat.not_lt,-Nat.not_le]at g2)<;>(try simp[e0,e1,e6,htc.1,htc.2,g2])
   . have hlk:=bg (w.take i) k
     rw[List.length_take]at hlk;refine aM lay rfl rfl rfl cA rfl cA rfl pQ (by decide) (by simp;omega) (σ0:=σ) (es:=(au (w.take i) k).map int) (xs:=[int i]) (by simpa using htok) (.inr ⟨_,rfl⟩) λa' σ2 ht'=>?_
     refine ab.run lay [] ?_;simp[e0,e1,e6,htc.1,htc.2,f1.1,f1.2];refine ih _ g1 ⟨_,_,rfl,by simp[e0,e1,e6,htc.1,htc.2],by simp[e0,e1,e6,htc.1,htc.2],by simp,?_⟩;rw[bw _ _ _ g1,if_pos g2,List.map_append];simpa using ht'
   . simp[e0,e1,e6,htc.1,htc.2,f1.1,f1.2]
     refine ih _ g1 ⟨_,_,rfl,by simp[e0,e1,e6,htc.1,htc.2],by simp[e0,e1,e6,htc.1,htc.2],by simp,?_⟩;rw[bw _ _ _ g1,if_neg g2,List.append_nil];simpa using htok
 . have hie:i=w.length:=by omega
   subst hie;rw[List.take_length]at htok;refine ab.run lay [] ?_;simp[e0,e1,e6];exact .less htok.1 (.nC htok.W (.done h))
end Go.Proofs.YtalogdafegmilaaGreatDoor
namespace Go.Proofs.YtalogdafegmilaaGreatDoor
open Go.aN Go.Conc
set_option maxHeartbeats 1000000
set_option maxRecDepth 4000
variable{m:Mo}{σ:aa}{KF:cL->aa->Prop}
def bX(g:List Int->Int):Option (List Int)->List Int->Option (List Int)
 |none,w=>some w
 |some v,w=>if g w<g v then some w else some v
def fJ(g:List Int->Int):Option (List Int)->List AV
 |none=>[.lit (.slice none 0 0),int 0,bool false]
 |some w=>[ints w,int (g w),bool true]
theorem pV(g:List Int->Int){l:List (List Int)}(h:l≠[]):∃w,l.foldl (bX g) none=some w/\w∈l:=by
 have key:∀(l:List (List Int)) (v:List Int),∃w,l.foldl (bX g) (some v)=some w/\(w=v\/w∈l):=λl=>by
  induction l with
  |nil=>intro v;exact⟨v,rfl,.inl rfl⟩
  | cons a l ih=>
    intro v;rw[List.foldl_cons];by_cases q:g a<g v
    . rw[show bX g (some v) a=some a by simp[bX,q]]
      obtain⟨w,h1,h2⟩:=ih a;exact⟨w,h1,.inr (by rcases h2 with rfl|h2<;>simp[*])⟩
    . rw[show bX g (some v) a=some v by simp[bX,q]]
      obtain⟨w,h1,h2⟩:=ih v;exact⟨w,h1,by rcases h2 with rfl|h2<;>simp[*]⟩
 cases l with
 |nil=>exact absurd rfl h
 |cons a l=>obtain⟨w,h1,h2⟩:=key l a;exact⟨w,h1,by rcases h2 with rfl|h2<;>simp[*]⟩
theorem zZ{g:List Int->Int}{c:Nat}{o:Option (List Int)}{w:List Int}{n:Int}(hn:n=g w)(hc:σ c=some (.cells (fJ g o)))(h:∀σ',σ' c=some (.cells (fJ g (bX g o w)))->(∀x,x≠c->σ' x=σ x)->KF (.val (.c9 [])) σ'):aA Tryz.prog m 58 [.ref c 0,ints w,int n] σ KF:=by
 subst hn;cases o with
 | none=>
   simp only[fJ]at hc;refine aA.start lay [] [] 3 Tryz.func58 rfl rfl (by rfl) (by kernel_rfl) ?_;simp[Tryz.f58,hc];refine .done (h _ (aa.ao _ _ _) λx hx=>?_);simp[aa.ai,hx]
 | some v=>
   simp only[fJ]at hc;refine aA.start lay [] [] 3 Tryz.func58 rfl rfl (by rfl) (by kernel_rfl) ?_;simp[Tryz.f58,hc];by_cases q:g w<g v
   . simp[aK,q,hc]
     simp only[bX,if_pos q]at h;refine .done (h _ (aa.ao _ _ _) λx hx=>?_);simp[aa.ai,hx]
   . simp[aK,q,hc]
     simp only[bX,if_neg q]at h;exact .done (h _ hc λx _=>rfl)
theorem wX{P:Program}{o:Oper}{env:Env}{σ:aa}{K Kp:AV->aa->Prop}{t:Nat}{x:Operand}{a:Int}(ho:o.op=.unOp .neg t x)(hx:ap env x=int a)(ha:-9223372036854775808<=-a/\-a<=9223372036854775807)(hK:K (int (-a)) σ):aG P o env σ K Kp:=λk O ρ hρ hr=>by
 have h1:=hρ x (by simp[ho,Op.operands]);rw[hx]at h1;have e1:=cJ h1;have:execOp ρ o=pure (.value (.int .i64 (-a))):=by simp[execOp,ho,e1,Op.unary,Op.intArith,Op.intBits,wrap_i64 ha]
 rw[this];exact aj ⟨_,.inl rfl,.here ⟨.refl k,_,σ,.lit _,hr,hK⟩⟩
theorem uL{l:List Int}(hl:l.length<1152921504606846976)(hb:∀x∈l,-1<=x/\x<=1000)(h:KF (.val (int (am l))) σ):aA Tryz.prog m 59 [ints l] σ KF:=wY hl hb h
abbrev BI(w:List Int):Int:=-am w
theorem Ew(hs:m.solo=true){f:Fr}{w v:List Int}(hf:f.Fits)(hc:check f=0)(hw:(ak f []).foldl (bX am) none=some w)(hv:(ak f []).foldl (bX BI) none=some v)(hlen:(ak f []).length<1152921504606846976)(h:KF (.val (.c9 [.agg [int (am w),int (am v)],int 0])) σ):aA Tryz.prog m 35 [aF f] σ KF:=by
 have hg:=Fr.jw hf hc;have hm6:=hg.pi;have hmo:=hg.most;have hway:ak f []≠[]:=λe=>by rw[e]at hw;cases hw
 have hwl:∀w∈ak f [],w.length=f.az.length:=λw hw=>by have:=dA f [] _ _ _ _ w hw;simpa using this
 have hwm:∀w∈ak f [],∀x∈w,0<=x/\x<f.most:=λw hw=>oO f [] _ _ _ _ (by simp) w hw
 have hhl:∀w∈ak f [],0<=am w/\am w<=6:=λw hw=>⟨bP w,sW w 6 (by omega) λx hx=>by have:=hwm w hw x hx;omega⟩
 refine aA.start lay [] [] 1 Tryz.func35 rfl rfl (by rfl) (by kernel_rfl) ?_
 simp[Tryz.f35];refine cT.intro λc2 h2=>?_
 simp;have hW:Wl [aF f,AV.lit (.slice none 0 0)] [aF f,.sl 1 (([]:List Int).map int) .any]:=.cons (.refl _) (.cons (fT 1) .nil);refine bs Tryz.func56 rfl rfl hW (im (l:=[]) (sp:=.any) hs hf hc (by simp) (by simp) hway λb mb σ0 hne hu hfr hle0=>?_)
 refine ab.run lay [] ?_;simp;have LK:Dj Tryz.prog m nn b 6 mb .u8 (dm f) (v4 b 6 mb .u8 (dm f)) (O7 b 6 mb .u8):=fQ nk np tB hs hne;refine cT.intro λc6 h6=>?_
 simp;refine cT.intro λc7 h7=>?_
 obtain⟨n76,n67,h7⟩:=aa.aO h7;simp;have hW:Wl [iF b mb f 0,AV.lit (.slice none 0 0)] [iF b mb f 0,ints []]:=.cons (.refl _) (.cons (fT 1) .nil);refine bs Tryz.func57 rfl rfl hW (oI (begun:=[]) ?_);refine ab.run lay [] ?_;simp;refine ab.rangeFunc rfl λhpl r l hr hl hrl=>?_
 obtain⟨a1,_,hr⟩:=aa.aO hr;obtain⟨a2,_,hl⟩:=aa.aO hl;obtain⟨a3,_,hr⟩:=aa.aO hr;obtain⟨a4,_,hl⟩:=aa.aO hl;have q2:σ0 c2=some (.cells [int 0,int 0]):=hle0 _ _ (aa.ao _ _ _);have n26:c2≠c6:=λe=>by subst e;rw[q2]at h6;cases h6
 have n27:c2≠c7:=λe=>by subst e;rw[q2]at h7;cases h7
 have n2r:c2≠r:=λe=>by subst e;rw[q2]at hr;cases hr
 have n2l:c2≠l:=λe=>by subst e;rw[q2]at hl;cases hl
 generalize hal:ln.mk _ _ _ _ _ _ _ _ _=al
 have hY:JM m (.fn (.yield l) [] []) (ak f []) (λk F σ'=>(∀c,F c↔c=l\/c=c6\/c=c7)/\σ' l=some (.loop al)/\σ' c6=some (.cells (fJ am (((ak f []).take k).foldl (bX am) none)))/\σ' c7=some (.cells (fJ BI (((ak f []).take k).foldl (bX BI) none)))) (λF σ'=>False):=by
  refine⟨λk F σ' KF' hk hI hT hF=>?_,λk F σ1 σ2 he hI=>?_,λF σ1 σ2 he hI=>hI.elim,λk F σ' c hI hc=>?_⟩
  . obtain⟨hFd,g1,g3,g4⟩:=hI
    have hmem:(ak f [])[k]∈ak f []:=List.getElem_mem hk;have hhm:=hhl _ hmem
    have hsucc:∀g,((ak f []).take (k+1)).foldl (bX g) none=bX g (((ak f []).take k).foldl (bX g) none) (ak f [])[k]:=λg=>by rw[List.take_succ_eq_append_getElem hk,List.foldl_append];rfl
    have hhl2:(ak f [])[k].length<1152921504606846976:=by rw[hwl _ hmem];omega
    have hhb:∀x∈(ak f [])[k],-1<=x/\x<=1000:=λx hx=>by have:=hwm _ hmem x hx;omega
    subst hal;refine dC.rR (hold:=[]) hpl Tryz.func35 g1 rfl ?_;refine ab.run lay [] ?_;simp[fI];refine ab.beginRound g1 rfl ?_;refine ab.run lay [] ?_;simp[fI];refine aq Tryz.func59 rfl rfl (uL hhl2 hhb ?_);refine ab.run lay [] ?_;simp;refine aq Tryz.func58 rfl rfl (zZ (g:=am) (o:=((ak f []).take k).foldl (bX am) none) (w:=(ak f [])[k]) rfl ((aa.ai _ _ (Ne.symm a4)).trans g3) λσ2 q1 q2'=>?_)
    refine ab.run lay [] ?_;simp;refine aq Tryz.func59 rfl rfl (uL hhl2 hhb ?_);refine ab.run lay [] ?_;simp;refine wX (a:=am (ak f [])[k]) rfl (by simp) (by omega) ?_
    refine ab.run lay [] ?_;simp;refine aq Tryz.func58 rfl rfl (zZ (g:=BI) (o:=((ak f []).take k).foldl (bX BI) none) (w:=(ak f [])[k]) rfl (by rw[q2' c7 n76];exact(aa.ai _ _ (Ne.symm a2)).trans g4) λσ3 q3 q4=>?_)
    refine ab.run lay [] ?_;simp;refine⟨rfl,rfl,_,((q4 l a2).trans ((q2' l a4).trans (aa.ao _ _ _))),?_⟩;refine hT F _ (λc x hc hx=>⟨?_,hc⟩) ⟨hFd,aa.ao _ _ _,?_,?_⟩
    . have p1:c≠l:=λe=>hc ((hFd c).2 (.inl e))
      have p3:c≠c6:=λe=>hc ((hFd c).2 (.inr (.inl e)))
      have p4:c≠c7:=λe=>hc ((hFd c).2 (.inr (.inr e)))
      exact(aa.ai _ _ p1).trans ((q4 c p4).trans ((q2' c p3).trans ((aa.ai _ _ p1).trans hx)))
    . rw[hsucc]
      exact(aa.ai _ _ (Ne.symm a4)).trans ((q4 c6 (Ne.symm n76)).trans q1)
    . rw[hsucc]
      exact(aa.ai _ _ (Ne.symm a2)).trans q3
  . obtain⟨hFd,g1,g3,g4⟩:=hI
    exact⟨hFd,by rw[he l ((hFd l).2 (.inl rfl))];exact g1,by rw[he c6 ((hFd c6).2 (.inr (.inl rfl)))];exact g3,by rw[he c7 ((hFd c7).2 (.inr (.inr rfl)))];exact g4⟩
  . obtain⟨hFd,g1,g3,g4⟩:=hI
    rcases(hFd c).1 hc with rfl|rfl|rfl
    . exact⟨_,g1,rfl⟩
    . exact⟨_,g3,rfl⟩
    . exact⟨_,g4,rfl⟩
 obtain⟨xb,hxb,hpb⟩:=LK.JN hu;have nb:∀c,σ0 c=none->c≠b:=λc hc e=>by subst e;rw[hc]at hxb;cases hxb
 have n2b:c2≠b:=λe=>by have:=hfr.1;rw[<-e,aa.ao]at this;cases this
 have hle:σ0.Le ((((σ0.set c6 (.cells (fJ am none))).set c7 (.cells (fJ BI none))).set r (.raw (.deferred (some [])))).set l (.loop al)):=(by repeat (first|exact aa.le_refl _|assumption|refine aa.ig ?_ (by assumption)|refine aa.jm ?_ (by assumption)))
 have sr:((((σ0.set c6 (.cells (fJ am none))).set c7 (.cells (fJ BI none))).set r (.raw (.deferred (some [])))).set l (.loop al)) r=some (.raw (.deferred (some []))):=(aa.ai _ _ hrl).trans (aa.ao _ _ _)
 have s6:((((σ0.set c6 (.cells (fJ am none))).set c7 (.cells (fJ BI none))).set r (.raw (.deferred (some [])))).set l (.loop al)) c6=some (.cells (fJ am none)):=by rw[aa.ai _ _ (Ne.symm a4),aa.ai _ _ (Ne.symm a3),aa.ai _ _ n67,aa.ao]
 have s7:((((σ0.set c6 (.cells (fJ am none))).set c7 (.cells (fJ BI none))).set r (.raw (.deferred (some [])))).set l (.loop al)) c7=some (.cells (fJ BI none)):=by rw[aa.ai _ _ (Ne.symm a2),aa.ai _ _ (Ne.symm a1),aa.ao]
 refine dJ Tryz.func86 rfl rfl rfl (mp (F:=λc=>c=l\/c=c6\/c=c7) LK hg (by simp) hY ⟨rfl,rfl⟩ (LK.un (λc _ ⟨x,h1,_⟩=>(hle _ _ h1).trans h1.symm) hu) ⟨λc=>Iff.rfl,aa.ao _ _ _,by simpa[fJ]using s6,by simpa[fJ]using s7⟩ λF' σ' hmv hu' hend=>?_)
 have hr':=(hmv r _ sr (λe=>by rcases e with e|e|e;exact hrl e;exact a3 e;exact a1 e) (nb r hr) (.inr rfl)).1
 have hkeep:j8 b mb σ0 σ':=λc x h1 h2 h3'=>(hmv c x (hle c x h1) (λe=>by rcases e with e|e|e<;>subst e<;>simp_all) h2 h3').1
 have q2'':σ' c2=some (.cells [int 0,int 0]):=hkeep c2 _ q2 n2b (.inr rfl)
 rcases hend with⟨_,q1,q3,q4⟩|q
 . rw[List.take_length,hw]at q3
   rw[List.take_length,hv]at q4;subst hal;refine⟨_,q1,by simp,rfl,?_⟩
   have q3':(σ'.del l) c6=some (.cells [ints w,int (am w),bool true]):=by simp only[aa.del,Ne.symm a4,if_false];exact q3
   have q4':(σ'.del l) c7=some (.cells [ints v,int (BI v),bool true]):=by simp only[aa.del,Ne.symm a2,if_false];exact q4
   have q2d:(σ'.del l) c2=some (.cells [int 0,int 0]):=by simp only[aa.del,n2l,if_false];exact q2''
   refine ab.run lay [] ?_;simp[q3',q4',q2d];obtain⟨v',hv',hvm⟩:=pV BI hway;rw[hv]at hv';obtain rfl:=Option.some.inj hv';have hvb:=hhl _ hvm;have hnn:-BI v=am v:=Int.neg_neg _;refine wX (a:=BI v) rfl (by simp) (by omega) ?_
   rw[hnn];refine ab.run lay [] ?_;simp[q2d,aS];refine⟨?_,[.agg [int (am w),int (am v)],int 0],?_,?_⟩
   . rw[aa.ai _ _ (Ne.symm n2r)]
     simp only[aa.del,hrl,if_false];exact hr'
   . rw[aa.ai _ _ n2r,aa.ao]
     rfl
   . refine .less (λc x hx=>?_) (.done h)
     have c0:c≠c2:=λe=>by subst e;rw[h2]at hx;cases hx
     have hx2:σ.set c2 (.cells [int 0,int 0]) c=some x:=(aa.ai _ _ c0).trans hx;have hx0:=hle0 c x hx2;have c1:c≠r:=λe=>by subst e;rw[hr]at hx0;cases hx0
     have c2':c≠l:=λe=>by subst e;rw[hl]at hx0;cases hx0
     have c3:c≠b:=λe=>by subst e;rw[hfr.1]at hx2;cases hx2
     have c4:c≠mb:=λe=>by subst e;rw[hfr.2]at hx2;cases hx2
     rw[aa.ai _ _ c1,aa.ai _ _ c0];simp only[aa.del,c2',if_false];exact hkeep c x hx0 c3 (.inl c4)
 . exact q.elim
end Go.Proofs.YtalogdafegmilaaGreatDoor
namespace Go.Proofs.YtalogdafegmilaaGreatDoor
open Go.aN Go.Conc
set_option maxHeartbeats 1000000
set_option maxRecDepth 4000
variable{m:Mo}{σ:aa}{KF:cL->aa->Prop}
def cB(x:Int)(w:List Int):Bool:=decide ((au w (w.getD x.toNat 0)).length=1)
theorem rJ{w:List Int}{x:Int}(hw:w.length<1000000)(hx:0<=x/\x.toNat<w.length)(h:KF (.val (bool (cB x w))) σ):aA Tryz.prog m 67 [ints w,.cp (int x) 0] σ KF:=by
 have e1:w.getD x.toNat 0=w[x.toNat]:=by simp[List.getD_eq_getElem?_getD,hx.2]
 unfold cB at h;rw[e1]at h;obtain⟨v,hv⟩:∃v,v=w[x.toNat]:=⟨_,rfl⟩;rw[<-hv]at h;refine aA.start lay [] [] 2 Tryz.func67 rfl rfl (by rfl) (by kernel_rfl) ?_;simp[Tryz.f67];refine ab.loop w.length (λi s=>∃env,s=⟨env,σ,[],.no⟩/\env 0=ints w/\env 1=.cp (int x) 0/\env 4=int ((au (w.take i) v).length:Int)/\env 7=ints w/\env 8=int w.length/\env 9=int i) ⟨_,rfl,by simp,by simp,by simp[au],by simp,by simp,by simp⟩ ?_;rintro c0 i _ hi ⟨env,rfl,e0,e1,e4,e7,e8,e9⟩ ih;rcases Nat.lt_or_ge i w.length with g1|g1
 . have g1':(i:Int)<w.length:=by omega
   have hlk:=bg (w.take i) v;rw[List.length_take]at hlk;have f1:-9223372036854775808<=(i:Int)+1/\(i:Int)+1<=9223372036854775807:=by omega
   have f2:-9223372036854775808<=((au (w.take i) v).length:Int)+1/\((au (w.take i) v).length:Int)+1<=9223372036854775807:=by omega
   have hsucc:=bw w v i g1;by_cases q:w[i]=v
   . rw[if_pos q]at hsucc
     have hq:(w[i]==v)=true:=beq_iff_eq.2 q;refine ab.run lay [] ?_;simp[e0,e1,e4,e7,e8,e9,g1,hx.1,hx.2,<-hv,hq,f1.1,f1.2,f2.1,f2.2];refine ih _ g1 ⟨_,rfl,by simp[e0,e1,e4,e7,e8,e9],by simp[e0,e1,e4,e7,e8,e9],by simp[hsucc],by simp[e0,e1,e4,e7,e8,e9],by simp[e0,e1,e4,e7,e8,e9],by simp⟩
   . rw[if_neg q,List.append_nil]at hsucc
     have hq:(w[i]==v)=false:=beq_eq_false_iff_ne.2 q;refine ab.run lay [] ?_;simp[e0,e1,e4,e7,e8,e9,g1,hx.1,hx.2,<-hv,hq,f1.1,f1.2];refine ih _ g1 ⟨_,rfl,by simp[e0,e1,e4,e7,e8,e9],by simp[e0,e1,e4,e7,e8,e9],by simp[hsucc,e4],by simp[e0,e1,e4,e7,e8,e9],by simp[e0,e1,e4,e7,e8,e9],by simp⟩
 . have hie:i=w.length:=by omega
   subst hie;rw[List.take_length]at e4;refine ab.run lay [] ?_;simp[e0,e1,e4,e7,e8,e9]
   have hb:(((au w v).length:Int)==1)=decide ((au w v).length=1):=by
    by_cases q:(au w v).length=1
    . simp[q]
    . simp[q];omega
   rw[hb];exact .done h
theorem uf(hs:m.solo=true){f:Fr}{x:Int}(hf:f.Fits)(hc:check f=0)(hx:0<=x/\x<f.az.length)(hway:ak f []≠[])(hlen:(ak f []).length<1152921504606846976)(h:KF (.val (.c9 [int (aL (((ak f []).filter (cB x)).length:Int) (ak f []).length),int 0])) σ):aA Tryz.prog m 29 [aF f,int x] σ KF:=by
 have hg:=Fr.jw hf hc;have h6:=hg.pi;have hw:∀w∈ak f [],w.length=f.az.length:=λw hw=>by have:=dA f [] _ _ _ _ w hw;simpa using this
 refine aA.start lay [] [] 2 Tryz.func29 rfl rfl (by rfl) (by kernel_rfl) ?_
 simp[Tryz.f29];refine aq Tryz.func56 rfl rfl (im (l:=[x]) (sp:=.exact) hs hf hc (λn hn=>by simp at hn;subst hn;exact hx) (by simp) hway λb mb σ' hne hu hfr hle=>?_)
 refine ab.run lay [] ?_;simp;refine aq Tryz.func66 rfl rfl (mM (fQ nk np tB hs hne) hg (p:=cB x) ⟨rfl,rfl⟩ (λw hwm σ KF hK=>dJ Tryz.func67 rfl rfl rfl (rJ (by rw[hw w hwm];omega) ⟨hx.1,by rw[hw w hwm];omega⟩ hK)) hlen hu λσ2 q1 q2=>?_)
 refine ab.run lay [] ?_;simp;refine aq Tryz.func65 rfl rfl (pG ?_);refine ab.run lay [] ?_;simp;refine .less (λc y hy=>?_) (.done h)
 have c1:c≠b:=λe=>by subst e;rw[hfr.1]at hy;cases hy
 have c2:c≠mb:=λe=>by subst e;rw[hfr.2]at hy;cases hy
 exact q2 c y (hle c y hy) c1 (.inl c2)
def toldOf(n all:Int):Int:=if n=0 then 2 else if n=all then 1 else 3
theorem bx{n all:Int}(h0:0<=n)(h1:n<=all)(h2:0<all):aL n all=toldOf n all:=by
 unfold aL toldOf;by_cases a:n=0
 . subst a;rw[if_neg (by omega),if_neg (by omega),if_pos rfl]
 . rw[if_neg a]
   by_cases b:n=all
   . subst b;rw[if_neg (by omega),if_pos rfl,if_pos rfl]
   . rw[if_pos (by omega),if_neg b]
theorem Dl{n all:Int}(h:KF (.val (int (toldOf n all))) σ):aA Tryz.prog m 37 [int n,int all] σ KF:=by
 unfold toldOf at h;by_cases a:n=0
 . rw[if_pos a]at h
   have ha:(n==0)=true:=beq_iff_eq.2 a;refine aA.start lay [] [] 2 Tryz.func37 rfl rfl (by rfl) (by kernel_rfl) ?_;simp[Tryz.f37,ha,aK];exact .done h
 . rw[if_neg a]at h
   have ha:(n==0)=false:=beq_eq_false_iff_ne.2 a;by_cases b:n=all
   . rw[if_pos b]at h
     have hb:(n==all)=true:=beq_iff_eq.2 b;refine aA.start lay [] [] 2 Tryz.func37 rfl rfl (by rfl) (by kernel_rfl) ?_;simp[Tryz.f37,ha,hb,aK];exact .done h
   . rw[if_neg b]at h
     have hb:(n==all)=false:=beq_eq_false_iff_ne.2 b;refine aA.start lay [] [] 2 Tryz.func37 rfl rfl (by rfl) (by kernel_rfl) ?_;simp[Tryz.f37,ha,hb,aK];exact .done h
theorem nW{l:List (List Int)}{x y:Int}(hl:l.length<1000000000)(hx:0<=x/\∀w∈l,x.toNat<w.length)(hy:0<=y/\∀w∈l,y.toNat<w.length)(h:KF (.val (int ((l.filter (aC x y)).length:Int))) σ):aA Tryz.prog m 31 [rows l,int x,int y] σ KF:=by
 refine aA.start lay [] LF 3 Tryz.func31 rfl rfl (by rfl) (by kernel_rfl) ?_;simp[Tryz.f31];refine ab.loop l.length (λi s=>∃env,s=⟨env,σ,[],.no⟩/\env 0=rows l/\env 1=int x/\env 2=int y/\env 7=int (((l.take i).filter (aC x y)).length:Int)/\env 8=int i) ⟨_,rfl,by simp,by simp,by simp,by simp,by simp⟩ ?_;rintro c0 i _ hi ⟨env,rfl,e0,e1,e2,e7,e8⟩ ih;rcases Nat.lt_or_ge i l.length with g1|g1
 . have g1':(i:Int)<l.length:=by omega
   obtain⟨w,hw⟩:∃w,w=l[i]:=⟨_,rfl⟩;have hxw:=hx.2 w (by rw[hw];exact List.getElem_mem g1);have hyw:=hy.2 w (by rw[hw];exact List.getElem_mem g1);have hlk:((l.take i).filter (aC x y)).length<=i:=Nat.le_trans (List.length_filter_le _ _) (by rw[List.length_take];omega);have f1:-9223372036854775808<=(i:Int)+1/\(i:Int)+1<=9223372036854775807:=by omega
   have f2:-9223372036854775808<=(((l.take i).filter (aC x y)).length:Int)+1/\(((l.take i).filter (aC x y)).length:Int)+1<=9223372036854775807:=by omega
   have hp:aC x y w=decide (w[x.toNat]=w[y.toNat]):=by simp[aC,List.getD_eq_getElem?_getD,hxw,hyw]
   have hsucc:(l.take (i+1)).filter (aC x y)=(l.take i).filter (aC x y)++if aC x y w=true then[w]else[]:=by
    rw[List.take_succ_eq_append_getElem g1,List.filter_append,<-hw];by_cases e:aC x y w=true<;>simp[e]
   by_cases q:w[x.toNat]=w[y.toNat]
   . rw[hp,if_pos (decide_eq_true q)]at hsucc
     refine ab.run lay [] ?_;simp[e0,e1,e2,e7,e8,g1,<-hw,hx.1,hy.1,hxw,hyw,beq_iff_eq.2 q];refine ab.run lay [] ?_;simp[e0,e1,e2,e7,e8,f1.1,f1.2,f2.1,f2.2];refine ih _ g1 ⟨_,rfl,by simp[e0,e1,e2,e7,e8],by simp[e0,e1,e2,e7,e8],by simp[e0,e1,e2,e7,e8],by simp[hsucc],by simp⟩
   . rw[hp,if_neg (by simpa using q),List.append_nil]at hsucc
     refine ab.run lay [] ?_;simp[e0,e1,e2,e7,e8,g1,<-hw,hx.1,hy.1,hxw,hyw,beq_eq_false_iff_ne.2 q];refine ab.run lay [] ?_;simp[e0,e1,e2,e7,e8,f1.1,f1.2];refine ih _ g1 ⟨_,rfl,by simp[e0,e1,e2,e7,e8],by simp[e0,e1,e2,e7,e8],by simp[e0,e1,e2,e7,e8],by simp[hsucc,e7],by simp⟩
 . have hie:i=l.length:=by omega
   subst hie;rw[List.take_length]at e7;refine ab.run lay [] ?_;simp[e0,e1,e2,e7,e8];exact .done h
end Go.Proofs.YtalogdafegmilaaGreatDoor
namespace Go.Proofs.YtalogdafegmilaaGreatDoor
open Go.aN Go.Conc
set_option maxHeartbeats 2000000
set_option maxRecDepth 4000
variable{m:Mo}{σ:aa}{KF:cL->aa->Prop}
theorem jo(l:List Int):((aV l).length:Int)=am l+1:=by have:=bP l;unfold aV;rw[List.length_map,List.length_range];omega
theorem pW{l:List Int}{j:Nat}(h:(j:Int)<=am l):(aV l).take (j+1)=(aV l).take j++[l++[(j:Int)]]:=by
 have hl:j<(aV l).length:=by have:=jo l;omega
 rw[List.take_succ_eq_append_getElem hl];congr 2;simp only[aV,List.getElem_map,List.getElem_range]
theorem rT{l:List Int}{j:Nat}(h:¬(j:Int)<=am l):(aV l).take j=aV l:=by apply List.take_of_length_le;have:=jo l;omega
theorem uM{n:Nat}(hn:n<=6)(h:KF (.val (rows (aU n))) σ):aA Tryz.prog m 60 [int n] σ KF:=by
 refine aA.start lay [] [] 1 Tryz.func60 rfl rfl (by rfl) (by kernel_rfl) ?_
 simp[Tryz.f60]
 have hW:(AV.sl 1 [.lit (.slice none 0 0)] .exact).W (rows (aU 0)):=B6 rfl (by simp) (by simp[aU]) (λi a a' h1 h2=>by
  match i with
  |0=>simp[aU]at h1 h2;subst h1;subst h2;exact fT 1
  |i+1=>simp at h1)
 refine ab.yt 3 (a':=rows (aU 0)) (by simpa using hW) ?_
 refine ab.loop n (λi s=>∃env σ',s=⟨env,σ',[],.no⟩/\σ.Le σ'/\env 0=int n/\env 3=rows (aU i)/\env 4=int i) ⟨_,σ,rfl,aa.le_refl _,by simp,by simp,by simp⟩ ?_
 rintro c0 i _ hi ⟨env,σ1,rfl,hle1,e0,e3,e4⟩ ih
 rcases Nat.lt_or_ge i n with g1|g1
 . have g1':(i:Int)<n:=by omega
   have hLa:=ir i;have hLl:=gg i (by omega)
   have hLl':(aU i).length<=117649:=Nat.le_trans hLl (Nat.le_trans (Nat.pow_le_pow_right (by omega) (show i<=6 by omega)) (by decide))
   have hnl:=gg (i+1) (by omega)
   have hnl':(aU (i+1)).length<=117649:=Nat.le_trans hnl (Nat.le_trans (Nat.pow_le_pow_right (by omega) (show i+1<=6 by omega)) (by decide))
   obtain⟨L,hL⟩:∃L,L=aU i:=⟨_,rfl⟩;have hnext:aU (i+1)=L.flatMap aV:=by rw[hL];rfl
   rw[<-hL]at hLa hLl' e3;rw[hnext]at hnl';refine ab.run lay [] ?_;simp[e0,e3,e4,g1'];refine ab.loop L.length (λx s=>∃env σ',s=⟨env,σ',[],.no⟩/\env 0=int n/\env 3=rows L/\env 4=int i/\env 6=int x/\Tok σ1 σ' (env 5) 1 (((L.take x).flatMap aV).map ints)) ⟨_,σ1,rfl,by simp[e0],by simp[e3],by simp[e4],by simp,by simpa using Tok.nil σ1 1⟩ ?_
   clear e0 e3 e4
   rintro c1 x _ hx ⟨env,σ2,rfl,e0,e3,e4,e6,htok⟩ ih2
   rcases Nat.lt_or_ge x L.length with g2|g2
   . have ns:(x:Int)<L.length:=by omega
     obtain⟨l,hl⟩:∃l,l=L[x]:=⟨_,rfl⟩;obtain⟨hll,hlm,hlh⟩:=hLa l (by rw[hl];exact List.getElem_mem g2)
     have htail:(L.take (x+1)).flatMap aV=(L.take x).flatMap aV++aV l:=by rw[List.take_succ_eq_append_getElem g2,List.flatMap_append,<-hl];simp
     have hcnt:((L.take x).flatMap aV++aV l).length<=117649:=by
      rw[<-htail];refine Nat.le_trans (List.Sublist.length_le ?_) hnl'
      have e:L.flatMap aV=(L.take (x+1)).flatMap aV++(L.drop (x+1)).flatMap aV:=by rw[<-List.flatMap_append,List.take_append_drop]
      rw[e];exact List.sublist_append_left _ _
     have hcnt':((L.take x).flatMap aV).length+(aV l).length<=117649:=by rw[<-List.length_append];exact hcnt
     have f0:-9223372036854775808<=(x:Int)+1/\(x:Int)+1<=9223372036854775807:=by omega
     refine ab.run lay [] ?_;simp[e0,e3,e4,e6,g2,<-hl];refine ab.loop i (λy s=>∃env,s=⟨env,σ2,[],.no⟩/\env 0=int n/\env 3=rows L/\env 4=int i/\env 6=int x/\env 7=int (am (l.take y)-1)/\env 8=int y/\Tok σ1 σ2 (env 5) 1 (((L.take x).flatMap aV).map ints)) ⟨_,rfl,by simp[e0],by simp[e3],by simp[e4],by simp[e6],by simp[am],by simp,by simpa using htok⟩ ?_
     clear e0 e3 e4 e6 htok
     rintro c2 y _ hy ⟨env,rfl,e0,e3,e4,e6,e7,e8,htok⟩ ih3
     rcases Nat.lt_or_ge y i with g3|g3
     . have tE:(y:Int)<i:=by omega
       have hyl:y<l.length:=by omega
       have hym:=hlm _ (List.getElem_mem hyl);have f1:-9223372036854775808<=(y:Int)+1/\(y:Int)+1<=9223372036854775807:=by omega
       refine ab.run lay [] ?_;simp[e0,e3,e4,e6,e7,e8,g2,<-hl,hyl,tE,f1.1,f1.2];refine ih3 _ g3 ⟨_,rfl,by simp[e0,e3,e4,e6,e7,e8],by simp[e0,e3,e4,e6,e7,e8],by simp[e0,e3,e4,e6,e7,e8],by simp[e0,e3,e4,e6,e7,e8],?_,by simp,by simpa using htok⟩
       rw[gQ _ _ hyl];simp[e0,e3,e4,e6,e7,e8];split<;>omega
     . have hyi:y=l.length:=by omega
       rw[hyi,List.take_length]at e7;have hnn:=bP l;refine ab.run lay [] ?_;simp[e0,e3,e4,e6,e7,e8,Nat.not_lt.2 g3];refine ab.loop (aV l).length (λj s=>∃env σ',s=⟨env,σ',[],.no⟩/\env 0=int n/\env 3=rows L/\env 4=int i/\env 6=int x/\env 7=int (am l-1)/\env 9=int j/\Tok σ1 σ' (env 5) 1 (((L.take x).flatMap aV++(aV l).take j).map ints)) ⟨_,σ2,rfl,by simp[e0],by simp[e3],by simp[e4],by simp[e6],by simp[e7],by simp,by simpa using htok⟩ ?_
       clear e0 e3 e4 e6 e7 e8 htok
       rintro c2 j _ hj ⟨env,σ3,rfl,e0,e3,e4,e6,e7,e9,htok⟩ ih4
       have htc:=htok.cells;have hG:=jo l;have f5:-9223372036854775808<=(j:Int)+1/\(j:Int)+1<=9223372036854775807:=by omega
       have f6:-9223372036854775808<=am l/\am l<=9223372036854775807:=by omega
       refine ab.run lay [] ?_;simp[e0,e3,e4,e6,e7,e9,f6.1,f6.2];refine aK.intro (λq=>?_) (λq=>?_)<;>simp[-Int.not_lt,-Int.not_le,-Nat.not_lt,-Nat.not_le]at q
       . have q':(j:Int)<=am l:=by omega
         have hj':j<(aV l).length:=by omega
         have hlm:l.length+1<=1000:=by omega
         simp[e0,e3,e4,e6,e7,e9,g2,<-hl];refine aq Tryz.func75 rfl rfl (nP (by omega) λa4 σ4 ht4=>?_)
         refine ab.run lay [] ?_;simp[e9];refine gf lay rfl rfl rfl cA rfl cA rfl pQ (by decide) (by simp;omega) (σ0:=σ3) (es:=l.map int) (xs:=[int j]) (by simpa using ht4) (.inl (.inr ⟨_,rfl⟩)) (by simp) λa5 σ5 ht5=>?_
         refine ab.B7 (σ0:=σ3) (es:=l.map int++[int j]) 50 (by simpa using ht5) ?_
         refine ab.run lay [] ?_;simp;have LH:=pW q';have hjl:((aV l).take j).length<=(aV l).length:=by rw[List.length_take];exact Nat.min_le_right _ _
         refine aM lay rfl rfl rfl jC rfl jC rfl cA (by decide) (by simp only[List.length_map,List.length_append,List.length_singleton];omega) (σ0:=σ1) (es:=((L.take x).flatMap aV++(aV l).take j).map ints) (xs:=[ints (l++[(j:Int)])]) (by simpa using htok) (.inr ⟨_,by simp;rfl⟩) λa6 σ6 ht6=>?_
         refine ab.run lay [] ?_;simp[e9,f5.1,f5.2];refine ih4 _ hj' ⟨_,_,rfl,by simp[e0],by simp[e3],by simp[e4],by simp[e6],by simp[e7],by simp,?_⟩
         rw[LH];simpa[List.map_append]using ht6
       . rw[rT (by omega)]at htok
         simp[e0,e3,e4,e6,e7,e9,f0.1,f0.2];refine ih2 _ g2 ⟨_,_,rfl,by simp[e0],by simp[e3],by simp[e4],by simp,?_⟩
         rw[htail];simpa using htok
   . have hxe:x=L.length:=by omega
     subst hxe;rw[List.take_length]at htok;refine ab.yt 5 (a':=rows (aU (i+1))) (by rw[hnext];simpa using htok.W) ?_
     have f0:-9223372036854775808<=(i:Int)+1/\(i:Int)+1<=9223372036854775807:=by omega
     refine ab.run lay [] ?_;simp[e0,e3,e4,e6,f0.1,f0.2];exact ih _ g1 ⟨_,_,rfl,aa.le_trans hle1 htok.1,by simp[e0,e3,e4,e6],by simp,by simp⟩
 . have hie:i=n:=by omega
   subst hie;refine ab.run lay [] ?_;simp[e0,e3,e4];exact .less hle1 (.done h)
end Go.Proofs.YtalogdafegmilaaGreatDoor
namespace Go.Proofs.YtalogdafegmilaaGreatDoor
open Go.aN Go.Conc
set_option maxHeartbeats 2000000
set_option maxRecDepth 4000
variable{m:Mo}{σ:aa}{KF:cL->aa->Prop}
def yv(f:Fr)(l:List Int)(k:Nat):Bool:=decide (am l<=f.most) && (List.range k).all λj:Nat=>decide (ii f (au l j)=0)
theorem uN{f:Fr}{l:List Int}{k:Nat}(h:yv f l k=true):yv f l (k+1)=decide (ii f (au l k)=0):=by unfold yv at h ⊢;rw[List.range_succ,List.all_append,<-Bool.and_assoc,h];simp
theorem rU{f:Fr}{l:List Int}{k:Nat}(hk:(k:Int)<=am l)(h:yv f l k=false):de f l=false:=by
 cases e:de f l with
 |false=>rfl
 | true=>
   unfold de at e;rw[Bool.and_eq_true,List.all_eq_true]at e
   have:yv f l k=true:=by unfold yv;rw[Bool.and_eq_true,List.all_eq_true];exact⟨e.1,λj hj=>e.2 j (by have:=List.mem_range.1 hj;exact List.mem_range.2 (by omega))⟩
   rw[this]at h;cases h
theorem mq{f:Fr}{l:List Int}{k:Int}(h6:f.az.length<=6)(hl:l.length=f.az.length)(hne:au l k≠[]):Dk f (au l k):=by
 have h1:=bg l k;have hp:(au l k).Pairwise (·<·):=(io k l 0).1
 have h0:1<=(au l k).length:=by
  cases e:au l k with
  |nil=>exact absurd e hne
  |cons a r=>simp
 refine qM (n:=(au l k).length) ⟨rfl,λx hx=>?_,λa b hab hb=>?_⟩ ⟨h0,by omega⟩
 . have:=cr hx
   omega
 . have:=List.pairwise_iff_getElem.1 hp a b (by omega) hb hab
   simpa[List.getD_eq_getElem?_getD,hb,show a<(au l k).length by omega]using this
theorem uO{f:Fr}(hf:f.Fits)(hc:check f=0)(h:KF (.val (.c9 [rows (ak f []),bool true])) σ):aA Tryz.prog m 22 [aF f] σ KF:=by
 have hg:=Fr.jw hf hc;have h6:=hg.pi;have hlen:=fa hg [];rw[<-pX hg]at h hlen;refine aA.start lay [] LE 1 Tryz.func22 rfl rfl (by rfl) (by kernel_rfl) ?_
 simp[Tryz.f22];refine aq Tryz.func60 rfl rfl (uM h6 ?_);have hLa:=ir f.az.length;have hLn:=nT f.az.length;have hLl:=gg f.az.length h6;have hLl':(aU f.az.length).length<=117649:=Nat.le_trans hLl (Nat.le_trans (Nat.pow_le_pow_right (by omega) (show f.az.length<=6 by omega)) (by decide))
 obtain⟨L,hL⟩:∃L,L=aU f.az.length:=⟨_,rfl⟩;rw[<-hL]at hLa hLn hLl' h hlen ⊢;refine ab.run lay [] ?_;simp;refine ab.loop L.length (λi s=>∃env σ',s=⟨env,σ',[],.no⟩/\env 1=.cp (aF f) 0/\env 5=rows L/\env 6=int i/\Tok σ σ' (env 4) 1 (((L.take i).filter (de f)).map ints)) ⟨_,σ,rfl,by simp,by simp,by simp,by simpa using Tok.nil σ 1⟩ ?_
 rintro c0 i _ hi ⟨env,σ1,rfl,e1,e5,e6,htok⟩ ih
 rcases Nat.lt_or_ge i L.length with g2|g2
 . have ns : (i : Int)<L.length:=by omega
   obtain⟨l,hl⟩:∃l,l=L[i]:=⟨_,rfl⟩;obtain⟨hll,hlm,hlh⟩:=hLa l (by rw[hl];exact List.getElem_mem g2)
   have hne:=hLn l (by rw[hl];exact List.getElem_mem g2)
   have hnn:=bP l
   have htail:(L.take (i+1)).filter (de f)=(L.take i).filter (de f)++if de f l=true then[l]else[]:=by
    rw[List.take_succ_eq_append_getElem g2,List.filter_append,<-hl]
    by_cases e:de f l=true<;>simp[e]
   have hcnt:((L.take i).filter (de f)).length<=117649:=by refine Nat.le_trans (List.length_filter_le _ _) ?_;rw[List.length_take];omega
   have f0:-9223372036854775808<=(i:Int)+1/\(i:Int)+1<=9223372036854775807:=by omega
   refine ab.run lay [] ?_;simp[e1,e5,e6,g2,<-hl];refine aq Tryz.func23 rfl rfl (qO (by omega) (λx hx=>by have:=hlm x hx;omega) ?_)
   refine ab.run lay [] ?_;simp[e1,e5,e6];refine ab.loop (am l).toNat (λk s=>∃env,s=⟨env,σ1,[],.no⟩/\env 1=.cp (aF f) 0/\env 5=rows L/\env 6=int i/\env 7=int (am l)/\env 8=bool (yv f l k)/\env 9=int k/\Tok σ σ1 (env 4) 1 (((L.take i).filter (de f)).map ints)) ⟨_,rfl,by simp[e1],by simp[e5],by simp[e6],by simp,by simp[yv],by simp,by simpa using htok⟩ ?_
   clear e1 e5 e6 htok
   rintro c1 k _ hk ⟨env,rfl,e1,e5,e6,e7,e8,e9,htok⟩ ih2
   have htc:=htok.cells;have hkn:(k:Int)<=am l:=by omega
   cases hok:yv f l k with
   | false=>
     have hfit:=rU hkn hok;rw[hok]at e8;rw[hfit]at htail
     by_cases g3:(k:Int)<am l
     . refine ab.run lay [] ?_
       simp[e1,e5,e6,e7,e8,e9,g3];refine⟨f0,ih _ g2 ⟨_,_,rfl,by simp[e1],by simp[e5],by simp,?_⟩⟩
       rw[htail];simpa using htok
     . refine ab.run lay [] ?_
       simp[e1,e5,e6,e7,e8,e9,g3];refine⟨f0,ih _ g2 ⟨_,_,rfl,by simp[e1],by simp[e5],by simp,?_⟩⟩
       rw[htail];simpa using htok
   | true=>
     rw[hok]at e8
     by_cases g3:(k:Int)<am l
     . have hlst := mq h6 hll (hne k g3)
       have hl20:=bg l k;have hks:=uN hok;have f1:-9223372036854775808<=(k:Int)+1/\(k:Int)+1<=9223372036854775807:=by omega
       refine ab.run lay [] ?_;simp[e1,e5,e6,e7,e8,e9,g3,g2,<-hl]
       repeat' (first
                 |apply And.intro
                 | (refine aq Tryz.func36 rfl rfl (qP (by omega) ?_)
                    refine bm.go lay [] ?_;simp[e1,e5,e6,e7,e8,e9,g2,<-hl])
                 | (refine aq Tryz.func28 rfl rfl (yw hf hc hlst (by omega) ?_)
                    refine bm.go lay [] ?_;simp[e1,e5,e6,e7,e8,e9,g2,<-hl]))
       all_goals (
        refine ab.run lay [] ?_;simp[e9,f1.1,f1.2];refine ih2 _ (by omega) ⟨_,rfl,by simp[e1],by simp[e5],by simp[e6],by simp[e7],by simp[hks],by simp,by simpa using htok⟩)
     . have hke:k=(am l).toNat:=by omega
       have hfit:de f l=true:=by rw[hke]at hok;exact hok
       rw[hfit]at htail;refine ab.run lay [] ?_;simp[e1,e5,e6,e7,e8,e9,g3,g2,<-hl];refine aM lay rfl rfl rfl jC rfl jC rfl cA (by decide) (by simp only[List.length_map,List.length_append,List.length_singleton];omega) (σ0:=σ) (es:=((L.take i).filter (de f)).map ints) (xs:=[ints l]) (by simpa using htok) (.inr ⟨_,by simp;rfl⟩) λa6 σ6 ht6=>?_
       refine ab.run lay [] ?_;simp[e1,e5,e6,e7,e8,e9,f0.1,f0.2];refine ih _ g2 ⟨_,_,rfl,by simp[e1],by simp[e5],by simp,?_⟩
       rw[htail];simpa[List.map_append]using ht6
 . have hie:i=L.length:=by omega
   subst hie;rw[List.take_length]at htok;refine ab.run lay [] ?_;simp[e1,e5,e6];refine .less htok.1 (.nC (a':=.c9 [rows (L.filter (de f)),bool true]) (yx rfl λi a a' h1 h2=>?_) (.done h))
   match i with
   |0=>simp at h1 h2;subst h1;subst h2;exact htok.W
   |1=>simp at h1 h2;subst h1;subst h2;exact .refl _
   |i+2=>simp at h1
end Go.Proofs.YtalogdafegmilaaGreatDoor
