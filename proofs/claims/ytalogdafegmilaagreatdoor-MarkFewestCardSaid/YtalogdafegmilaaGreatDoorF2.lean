/- Part 2 of the proof. -/
import Derived.Test.YtalogdafegmilaaGreatDoorF1
set_option linter.all false
namespace Go.Proofs.YtalogdafegmilaaGreatDoor
open Go.aN
abbrev Ue:List Entry:=[⟨12,.take [0,1,2,3,5,6,7,8] false (.one 4 (.one 9 (.take [10] true (.done))))⟩]
abbrev LE:List Entry:=[⟨11,.take [0,1,2,3,4,5] false (.one 6 (.one 7 (.take [8,9,10,11,12] true (.done))))⟩]
end Go.Proofs.YtalogdafegmilaaGreatDoor
namespace Go.Proofs.YtalogdafegmilaaGreatDoor
open Go.aN Go.Conc
set_option maxHeartbeats 1000000
variable{m:Mo}{σ:aa}{KF:cL->aa->Prop}
theorem nP{l:List Int}(hl:l.length<=1000000000)(h:∀a σ',bG σ σ' a 1 (l.map int)->KF (.val a) σ'):aA Tryz.prog m 75 [ints l] σ KF:=by
 refine aA.start lay [] [] 1 Tryz.func75 rfl rfl (by rfl) (by kernel_rfl) ?_;simp[Tryz.f75];refine gf lay rfl rfl rfl cA rfl cA rfl pQ (by decide) (by simp;omega) (σ0:=σ) (es:=[]) (xs:=l.map int) (.empty σ 1) (.inl (.inr ⟨_,rfl⟩)) (by simp) λa' σ' ht=>?_
 refine ab.run lay [] ?_;simp;exact .done (h _ _ (by simpa using ht))
end Go.Proofs.YtalogdafegmilaaGreatDoor
namespace Go.Proofs.YtalogdafegmilaaGreatDoor
open Go.aN Go.Conc
set_option maxHeartbeats 2000000
set_option maxRecDepth 4000
variable{m:Mo}{σ:aa}{KF:cL->aa->Prop}
section
variable{c k:Nat}{nums:List Int}
theorem Eu{cnt:Int}(hk:k+20+11*cnt.toNat<1000000)(hn:nums.length<1152921504606846976)(hcnt:0<=cnt/\cnt<=1000)(hb:bZ c nums k σ)(h:∀(f:Fr) σ',pR cnt f->pS c nums (k+20+11*cnt.toNat) σ σ'->KF (.val (aF f)) σ'):aA Tryz.prog m 14 [.ref c 0,int cnt] σ KF:=by
 refine aA.thaw (uI hk hn hcnt hb λf a σ' hf hd ha=>?_);by_cases e:f.az=[]
 . obtain rfl:=ha.1 e
   refine .nC (a':=aF f) (rS rfl λi x y x1 x2=>?_) (.done (h f σ' hf hd))
   match i with
   |0=>simp at x1 x2;subst x1;subst x2;rw[e];exact fT 6
   |1=>simp at x1 x2;subst x1;subst x2;exact .refl _
   |2=>simp at x1 x2;subst x1;subst x2;exact .refl _
   |3=>simp at x1 x2;subst x1;subst x2;exact .refl _
   |4=>simp at x1 x2;subst x1;subst x2;exact .refl _
   |5=>simp at x1 x2;subst x1;subst x2;exact .refl _
   |i+6=>simp at x1
 . obtain rfl:=ha.2 e
   exact .done (h f σ' hf hd)
end
end Go.Proofs.YtalogdafegmilaaGreatDoor
namespace Go.Proofs.YtalogdafegmilaaGreatDoor
open Go.aN Go.Conc
set_option maxHeartbeats 2000000
set_option maxRecDepth 4000
structure Ev(n:Int)(i:Nat)(l:List Int):Prop where
 len:l.length=i
 mem:∀x∈l,0<=x/\x<n
 LG:∀a b,a<b->b<i->l.getD a 0<l.getD b 0
theorem dU(f:Fr):∀(l:List Int) (p:Option Int),(∀x∈l,0<=x/\x<f.az.length)->l.Pairwise (·<·)->(∀q,p=some q->∀x∈l,q<x)->ez f p l=0
 |[],_,_,_,_=>rfl
 | a :: l,p,h1,h2,h3=>by
   have ha:=h1 a (by simp);have h2':=List.pairwise_cons.1 h2;have e1:dv a 0 (f.az.length-1)=true:=by simp[dv,ha.1];omega
   have e2:lw p a=false:=by
    cases p with
    |none=>rfl
    | some q=>
      have:=h3 q rfl a (by simp);simp[lw];omega
   unfold ez;rw[e1,if_neg (by simp),e2,if_neg (by simp)];exact dU f l (some a) (λx hx=>h1 x (by simp[hx])) h2'.2 (λq hq x hx=>by cases hq;exact h2'.1 x hx)
theorem Ev.pw{n:Int}{i:Nat}{l:List Int}(h:Ev n i l):l.Pairwise (·<·):=by
 rw[List.pairwise_iff_getElem];intro a b ha hb hab;have:=h.LG a b hab (by rw[<-h.len];exact hb);simpa[List.getD_eq_getElem?_getD,ha,hb]using this
theorem qM{f:Fr}{n:Nat}{l:List Int}(h:Ev f.az.length n l)(hn:1<=n/\n<=6):Dk f l:=by
 have hl:=h.len;refine⟨?_,by omega⟩;unfold nQ;rw[if_neg (by omega)];exact dU f l none h.mem h.pw (λq hq=>by cases hq)
end Go.Proofs.YtalogdafegmilaaGreatDoor
namespace Go.Proofs.YtalogdafegmilaaGreatDoor
open Go.aN Go.Conc
set_option maxHeartbeats 1000000
set_option maxRecDepth 4000
theorem nT:∀(i:Nat),∀l∈aU i,∀k:Nat,(k:Int)<am l->au l k≠[]
 |0,l,h,k,hk=>by simp[aU]at h;subst h;rw[show am []=0 from rfl]at hk;omega
 | i + 1,l,h,k,hk=>by
   unfold aU at h;obtain⟨p,hp,hq⟩:=List.mem_flatMap.1 h;unfold aV at hq;obtain⟨k',hk1,rfl⟩:=List.mem_map.1 hq;have hk1:=List.mem_range.1 hk1;have:=bP p;rw[bn]at hk;rw[bo];by_cases e:k'=k
   . subst e;simp
   . have:=nT i p hp k (by omega)
     rw[if_neg (by omega),List.append_nil];exact this
theorem gg:∀(i:Nat),i<=6->(aU i).length<=7 ^ i
 |0,_=>by simp[aU]
 | i+1,hi=>by
   have ih:=gg i (by omega);unfold aU;rw[Nat.pow_succ];refine Nat.le_trans (tT (B:=7) _ λl hl=>?_) (Nat.mul_le_mul_right _ ih);have:=(ir i l hl).2.2;have:=bP l;unfold aV;rw[List.length_map,List.length_range];omega
end Go.Proofs.YtalogdafegmilaaGreatDoor
namespace Go.Proofs.YtalogdafegmilaaGreatDoor
open Go.aN Go.Conc
set_option maxHeartbeats 1000000
set_option maxRecDepth 4000
variable{m:Mo}{σ:aa}{KF:cL->aa->Prop}
theorem zY(hs:m.solo=true){f:Fr}{l:List Int}{sp:cM}(hf:f.Fits)(hc:check f=0)(hl:∀n∈l,0<=n/\n<f.az.length)(hll:l.length<1152921504606846976)(hway:ak f []=[])(h:∀σ',σ.Le σ'->KF (.val (.c9 [.lit (.pointer none),int 11])) σ'):aA Tryz.prog m 56 [aF f,.sl 1 (l.map int) sp] σ KF:=by
 have hg:=Fr.jw hf hc;have ho:=uK hc hl;refine aA.start lay [] [] 2 Tryz.func56 rfl rfl (by rfl) (by kernel_rfl) ?_
 simp[Tryz.f56];have hW:Wl [AV.agg (eP f),.sl 1 (l.map int) sp] [aF f,ints l]:=.cons (.refl _) (.cons (gK 1 _ sp) .nil);refine bs Tryz.func47 rfl rfl hW (tV hf hll (λq=>absurd ho q) λ_ b mb σ' hn=>?_)
 have hu:v4 b 6 mb .u8 (dm f) σ':=by rw[hn.eq];exact⟨aa.ao _ _ _,[],(aa.ai _ _ (Ne.symm hn.ne)).trans (aa.ao _ _ _),λn a h=>by simp[iu]at h⟩
 refine ab.run lay [] ?_;simp;refine aq Tryz.func53 rfl rfl (yu (fQ nk np tB hs hn.ne) hg hu λσ2 q1 q2=>?_)
 refine ab.run lay [] ?_;simp[hway];refine .done (h σ2 λc x hx=>?_)
 have c1:c≠b:=λe=>by subst e;rw[hn.hb]at hx;cases hx
 have c2:c≠mb:=λe=>by subst e;rw[hn.zy]at hx;cases hx
 exact q2 c x (hn.le c x hx) c1 (.inl c2)
theorem TM(hs:m.solo=true){f:Fr}(hf:f.Fits)(hc:check f=0)(hway:ak f []=[])(h:KF (.val (.c9 [ints [],int 0,int 11])) σ):aA Tryz.prog m 21 [aF f] σ KF:=by
 refine aA.start lay [] OF 1 Tryz.func21 rfl rfl (by rfl) (by kernel_rfl) ?_;simp[Tryz.f21];have hW:Wl [aF f,AV.lit (.slice none 0 0)] [aF f,.sl 1 (([]:List Int).map int) .any]:=.cons (.refl _) (.cons (fT 1) .nil);refine bs Tryz.func56 rfl rfl hW (zY (l:=[]) (sp:=.any) hs hf hc (by simp) (by simp) hway λσ0 hle0=>?_);refine ab.run lay [] ?_;simp;refine .nC (a':=.c9 [ints [],int 0,int 11]) (yx rfl λi a a' h1 h2=>?_) (.less hle0 (.done h))
 match i with
 |0=>simp at h1 h2;subst h1;subst h2;exact fT 1
 |1=>simp at h1 h2;subst h1;subst h2;exact .refl _
 |2=>simp at h1 h2;subst h1;subst h2;exact .refl _
 |i+3=>simp at h1
end Go.Proofs.YtalogdafegmilaaGreatDoor
namespace Go.Proofs.YtalogdafegmilaaGreatDoor
open Go.aN Go.Conc
set_option maxHeartbeats 1000000
set_option maxRecDepth 4000
variable{m:Mo}{σ:aa}{KF:cL->aa->Prop}
theorem gQ(w:List Int)(i:Nat)(h:i<w.length):am (w.take (i+1))=max (am (w.take i)) (w[i]+1):=by rw[List.take_succ_eq_append_getElem h,bn]
theorem qO{l:List Int}(hl:l.length<1152921504606846976)(hb:∀x∈l,-1<=x/\x<=1000)(h:KF (.val (int (am l))) σ):aA Tryz.prog m 23 [ints l] σ KF:=by
 refine aA.start lay [] [] 1 Tryz.func23 rfl rfl (by rfl) (by kernel_rfl) ?_;simp[Tryz.f23];refine ab.loop l.length (λk s=>∃env,s=⟨env,σ,[],.no⟩/\env 0=ints l/\env 3=int (am (l.take k))/\env 4=int k) ⟨_,rfl,by simp,by simp[am],by simp⟩ ?_;rintro c0 k _ hk ⟨env,rfl,e0,e3,e4⟩ ih;rcases Nat.lt_or_ge k l.length with g1|g1
 . have g1':(k:Int)<l.length:=by omega
   have hx:=hb _ (List.getElem_mem g1);have f1:-9223372036854775808<=(k:Int)+1/\(k:Int)+1<=9223372036854775807:=by omega
   have f2:-9223372036854775808<=l[k]+1/\l[k]+1<=9223372036854775807:=by omega
   refine ab.run lay [] ?_;simp[e0,e3,e4,g1,f1.1,f1.2,f2.1,f2.2];refine ih _ g1 ⟨_,rfl,by simp[e0,e3,e4],?_,by simp⟩;rw[gQ _ _ g1];simp[e0,e3,e4];split<;>omega
 . have hke:k=l.length:=by omega
   subst hke;rw[List.take_length]at e3;refine ab.run lay [] ?_;simp[e0,e3,e4];exact .done h
theorem bw(w:List Int)(k:Int)(i:Nat)(h:i<w.length):au (w.take (i+1)) k=au (w.take i) k++if w[i]=k then[(i:Int)]else[]:=by rw[List.take_succ_eq_append_getElem h,bo,List.length_take,Nat.min_eq_left (by omega)]
theorem bg(w:List Int)(k:Int):(au w k).length<=w.length:=by unfold au;rw[List.length_map];refine Nat.le_trans (List.length_filter_le _ _) ?_;simp
theorem qP{w:List Int}{k:Int}(hl:w.length<1000000)(h:KF (.val (ints (au w k))) σ):aA Tryz.prog m 36 [ints w,int k] σ KF:=by
 refine aA.start lay [] [] 2 Tryz.func36 rfl rfl (by rfl) (by kernel_rfl) ?_;simp[Tryz.f36];refine ab.loop w.length (λi s=>∃env σ',s=⟨env,σ',[],.no⟩/\env 0=ints w/\env 1=int k/\env 6=int i/\Tok σ σ' (env 5) 1 ((au (w.take i) k).map int)) ⟨_,σ,rfl,by simp,by simp,by simp,by simpa[au]using Tok.nil σ 1⟩ ?_;rintro c0 i _ hi ⟨env,σ',rfl,e0,e1,e6,htok⟩ ih;have htc:=htok.cells;rcases Nat.lt_or_ge i w.length with g1|g1
 . have g1':(i:Int)<w.length:=by omega
   have f1:-9223372036854775808<=(i:Int)+1/\(i:Int)+1<=9223372036854775807:=by omega
   refine ab.run lay [] ?_;simp[e0,e1,e6,htc.1,htc.2,g1];refine aK.intro (λg2=>?_) (λg2=>?_)<;>(try simp[-Int.not_lt,-Int.not_le,-Nat.not_lt,-Nat.not_le]at g2)<;>(try simp[e0,e1,e6,htc.1,htc.2,g2])
   . have hlk:=bg (w.take i) k
     rw[List.length_take]at hlk;refine aM lay rfl rfl rfl cA rfl cA rfl pQ (by decide) (by simp;omega) (σ0:=σ) (es:=(au (w.take i) k).map int) (xs:=[int i]) (by simpa using htok) (.inr ⟨_,rfl⟩) λa' σ2 ht'=>?_
     refine ab.run lay [] ?_;simp[e0,e1,e6,htc.1,htc.2,f1.1,f1.2];refine ih _ g1 ⟨_,_,rfl,by simp[e0,e1,e6,htc.1,htc.2],by simp[e0,e1,e6,htc.1,htc.2],by simp,?_⟩;rw[bw _ _ _ g1,if_pos g2,List.map_append];simpa using ht'
   . simp[e0,e1,e6,htc.1,htc.2,f1.1,f1.2]
     refine ih _ g1 ⟨_,_,rfl,by simp[e0,e1,e6,htc.1,htc.2],by simp[e0,e1,e6,htc.1,htc.2],by simp,?_⟩;rw[bw _ _ _ g1,if_neg g2,List.append_nil];simpa using htok
 . have hie:i=w.length:=by omega
   subst hie;rw[List.take_length]at htok;refine ab.run lay [] ?_;simp[e0,e1,e6];exact .less htok.1 (.nC htok.W (.done h))
end Go.Proofs.YtalogdafegmilaaGreatDoor
namespace Go.Proofs.YtalogdafegmilaaGreatDoor
open Go.aN Go.Conc
set_option maxHeartbeats 1000000
set_option maxRecDepth 4000
theorem EA{l:List (List Int)}(h:l≠[]):∃w,l.foldl dG none=some w/\w∈l:=by
 have key:∀(l:List (List Int)) (v:List Int),∃w,l.foldl dG (some v)=some w/\(w=v\/w∈l):=λl=>by
  induction l with
  |nil=>intro v;exact⟨v,rfl,.inl rfl⟩
  | cons a l ih=>
    intro v;rw[List.foldl_cons];by_cases q:am a<am v
    . rw[show dG (some v) a=some a by simp[dG,q]]
      obtain⟨w,h1,h2⟩:=ih a;exact⟨w,h1,.inr (by rcases h2 with rfl|h2<;>simp[*])⟩
    . rw[show dG (some v) a=some v by simp[dG,q]]
      obtain⟨w,h1,h2⟩:=ih v;exact⟨w,h1,by rcases h2 with rfl|h2<;>simp[*]⟩
 cases l with
 |nil=>exact absurd rfl h
 |cons a l=>obtain⟨w,h1,h2⟩:=key l a;exact⟨w,h1,by rcases h2 with rfl|h2<;>simp[*]⟩
end Go.Proofs.YtalogdafegmilaaGreatDoor
namespace Go.Proofs.YtalogdafegmilaaGreatDoor
open Go.aN Go.Conc
set_option maxHeartbeats 2000000
set_option maxRecDepth 4000
variable{m:Mo}{σ:aa}{KF:cL->aa->Prop}
theorem jo(l:List Int):((aV l).length:Int)=am l+1:=by have:=bP l;unfold aV;rw[List.length_map,List.length_range];omega
theorem pW{l:List Int}{j:Nat}(h:(j:Int)<=am l):(aV l).take (j+1)=(aV l).take j++[l++[(j:Int)]]:=by
 have hl:j<(aV l).length:=by have:=jo l;omega
 rw[List.take_succ_eq_append_getElem hl];congr 2;simp only[aV,List.getElem_map,List.getElem_range]
theorem rT{l:List Int}{j:Nat}(h:¬(j:Int)<=am l):(aV l).take j=aV l:=by apply List.take_of_length_le;have:=jo l;omega
theorem uM{n:Nat}(hn:n<=6)(h:KF (.val (rows (aU n))) σ):aA Tryz.prog m 60 [int n] σ KF:=by
 refine aA.start lay [] [] 1 Tryz.func60 rfl rfl (by rfl) (by kernel_rfl) ?_
 simp[Tryz.f60]
 have hW:(AV.sl 1 [.lit (.slice none 0 0)] .exact).W (rows (aU 0)):=B6 rfl (by simp) (by simp[aU]) (λi a a' h1 h2=>by
  match i with
  |0=>simp[aU]at h1 h2;subst h1;subst h2;exact fT 1
  |i+1=>simp at h1)
 refine ab.yt 3 (a':=rows (aU 0)) (by simpa using hW) ?_
 refine ab.loop n (λi s=>∃env σ',s=⟨env,σ',[],.no⟩/\σ.Le σ'/\env 0=int n/\env 3=rows (aU i)/\env 4=int i) ⟨_,σ,rfl,aa.le_refl _,by simp,by simp,by simp⟩ ?_
 rintro c0 i _ hi ⟨env,σ1,rfl,hle1,e0,e3,e4⟩ ih
 rcases Nat.lt_or_ge i n with g1|g1
 . have g1':(i:Int)<n:=by omega
   have hLa:=ir i;have hLl:=gg i (by omega)
   have hLl':(aU i).length<=117649:=Nat.le_trans hLl (Nat.le_trans (Nat.pow_le_pow_right (by omega) (show i<=6 by omega)) (by decide))
   have hnl:=gg (i+1) (by omega)
   have hnl':(aU (i+1)).length<=117649:=Nat.le_trans hnl (Nat.le_trans (Nat.pow_le_pow_right (by omega) (show i+1<=6 by omega)) (by decide))
   obtain⟨L,hL⟩:∃L,L=aU i:=⟨_,rfl⟩;have hnext:aU (i+1)=L.flatMap aV:=by rw[hL];rfl
   rw[<-hL]at hLa hLl' e3;rw[hnext]at hnl';refine ab.run lay [] ?_;simp[e0,e3,e4,g1'];refine ab.loop L.length (λx s=>∃env σ',s=⟨env,σ',[],.no⟩/\env 0=int n/\env 3=rows L/\env 4=int i/\env 6=int x/\Tok σ1 σ' (env 5) 1 (((L.take x).flatMap aV).map ints)) ⟨_,σ1,rfl,by simp[e0],by simp[e3],by simp[e4],by simp,by simpa using Tok.nil σ1 1⟩ ?_
   clear e0 e3 e4
   rintro c1 x _ hx ⟨env,σ2,rfl,e0,e3,e4,e6,htok⟩ ih2
   rcases Nat.lt_or_ge x L.length with g2|g2
   . have ns:(x:Int)<L.length:=by omega
     obtain⟨l,hl⟩:∃l,l=L[x]:=⟨_,rfl⟩;obtain⟨hll,hlm,hlh⟩:=hLa l (by rw[hl];exact List.getElem_mem g2)
     have htail:(L.take (x+1)).flatMap aV=(L.take x).flatMap aV++aV l:=by rw[List.take_succ_eq_append_getElem g2,List.flatMap_append,<-hl];simp
     have hcnt:((L.take x).flatMap aV++aV l).length<=117649:=by
      rw[<-htail];refine Nat.le_trans (List.Sublist.length_le ?_) hnl'
      have e:L.flatMap aV=(L.take (x+1)).flatMap aV++(L.drop (x+1)).flatMap aV:=by rw[<-List.flatMap_append,List.take_append_drop]
      rw[e];exact List.sublist_append_left _ _
     have hcnt':((L.take x).flatMap aV).length+(aV l).length<=117649:=by rw[<-List.length_append];exact hcnt
     have f0:-9223372036854775808<=(x:Int)+1/\(x:Int)+1<=9223372036854775807:=by omega
     refine ab.run lay [] ?_;simp[e0,e3,e4,e6,g2,<-hl];refine ab.loop i (λy s=>∃env,s=⟨env,σ2,[],.no⟩/\env 0=int n/\env 3=rows L/\env 4=int i/\env 6=int x/\env 7=int (am (l.take y)-1)/\env 8=int y/\Tok σ1 σ2 (env 5) 1 (((L.take x).flatMap aV).map ints)) ⟨_,rfl,by simp[e0],by simp[e3],by simp[e4],by simp[e6],by simp[am],by simp,by simpa using htok⟩ ?_
     clear e0 e3 e4 e6 htok
     rintro c2 y _ hy ⟨env,rfl,e0,e3,e4,e6,e7,e8,htok⟩ ih3
     rcases Nat.lt_or_ge y i with g3|g3
     . have tE:(y:Int)<i:=by omega
       have hyl:y<l.length:=by omega
       have hym:=hlm _ (List.getElem_mem hyl);have f1:-9223372036854775808<=(y:Int)+1/\(y:Int)+1<=9223372036854775807:=by omega
       refine ab.run lay [] ?_;simp[e0,e3,e4,e6,e7,e8,g2,<-hl,hyl,tE,f1.1,f1.2];refine ih3 _ g3 ⟨_,rfl,by simp[e0,e3,e4,e6,e7,e8],by simp[e0,e3,e4,e6,e7,e8],by simp[e0,e3,e4,e6,e7,e8],by simp[e0,e3,e4,e6,e7,e8],?_,by simp,by simpa using htok⟩
       rw[gQ _ _ hyl];simp[e0,e3,e4,e6,e7,e8];split<;>omega
     . have hyi:y=l.length:=by omega
       rw[hyi,List.take_length]at e7;have hnn:=bP l;refine ab.run lay [] ?_;simp[e0,e3,e4,e6,e7,e8,Nat.not_lt.2 g3];refine ab.loop (aV l).length (λj s=>∃env σ',s=⟨env,σ',[],.no⟩/\env 0=int n/\env 3=rows L/\env 4=int i/\env 6=int x/\env 7=int (am l-1)/\env 9=int j/\Tok σ1 σ' (env 5) 1 (((L.take x).flatMap aV++(aV l).take j).map ints)) ⟨_,σ2,rfl,by simp[e0],by simp[e3],by simp[e4],by simp[e6],by simp[e7],by simp,by simpa using htok⟩ ?_
       clear e0 e3 e4 e6 e7 e8 htok
       rintro c2 j _ hj ⟨env,σ3,rfl,e0,e3,e4,e6,e7,e9,htok⟩ ih4
       have htc:=htok.cells;have hG:=jo l;have f5:-9223372036854775808<=(j:Int)+1/\(j:Int)+1<=9223372036854775807:=by omega
       have f6:-9223372036854775808<=am l/\am l<=9223372036854775807:=by omega
       refine ab.run lay [] ?_;simp[e0,e3,e4,e6,e7,e9,f6.1,f6.2];refine aK.intro (λq=>?_) (λq=>?_)<;>simp[-Int.not_lt,-Int.not_le,-Nat.not_lt,-Nat.not_le]at q
       . have q':(j:Int)<=am l:=by omega
         have hj':j<(aV l).length:=by omega
         have hlm:l.length+1<=1000:=by omega
         simp[e0,e3,e4,e6,e7,e9,g2,<-hl];refine aq Tryz.func75 rfl rfl (nP (by omega) λa4 σ4 ht4=>?_)
         refine ab.run lay [] ?_;simp[e9];refine gf lay rfl rfl rfl cA rfl cA rfl pQ (by decide) (by simp;omega) (σ0:=σ3) (es:=l.map int) (xs:=[int j]) (by simpa using ht4) (.inl (.inr ⟨_,rfl⟩)) (by simp) λa5 σ5 ht5=>?_
         refine ab.B7 (σ0:=σ3) (es:=l.map int++[int j]) 50 (by simpa using ht5) ?_
         refine ab.run lay [] ?_;simp;have LH:=pW q';have hjl:((aV l).take j).length<=(aV l).length:=by rw[List.length_take];exact Nat.min_le_right _ _
         refine aM lay rfl rfl rfl jC rfl jC rfl cA (by decide) (by simp only[List.length_map,List.length_append,List.length_singleton];omega) (σ0:=σ1) (es:=((L.take x).flatMap aV++(aV l).take j).map ints) (xs:=[ints (l++[(j:Int)])]) (by simpa using htok) (.inr ⟨_,by simp;rfl⟩) λa6 σ6 ht6=>?_
         refine ab.run lay [] ?_;simp[e9,f5.1,f5.2];refine ih4 _ hj' ⟨_,_,rfl,by simp[e0],by simp[e3],by simp[e4],by simp[e6],by simp[e7],by simp,?_⟩
         rw[LH];simpa[List.map_append]using ht6
       . rw[rT (by omega)]at htok
         simp[e0,e3,e4,e6,e7,e9,f0.1,f0.2];refine ih2 _ g2 ⟨_,_,rfl,by simp[e0],by simp[e3],by simp[e4],by simp,?_⟩
         rw[htail];simpa using htok
   . have hxe:x=L.length:=by omega
     subst hxe;rw[List.take_length]at htok;refine ab.yt 5 (a':=rows (aU (i+1))) (by rw[hnext];simpa using htok.W) ?_
     have f0:-9223372036854775808<=(i:Int)+1/\(i:Int)+1<=9223372036854775807:=by omega
     refine ab.run lay [] ?_;simp[e0,e3,e4,e6,f0.1,f0.2];exact ih _ g1 ⟨_,_,rfl,aa.le_trans hle1 htok.1,by simp[e0,e3,e4,e6],by simp,by simp⟩
 . have hie:i=n:=by omega
   subst hie;refine ab.run lay [] ?_;simp[e0,e3,e4];exact .less hle1 (.done h)
end Go.Proofs.YtalogdafegmilaaGreatDoor
namespace Go.Proofs.YtalogdafegmilaaGreatDoor
open Go.aN Go.Conc
set_option maxHeartbeats 2000000
set_option maxRecDepth 4000
variable{m:Mo}{σ:aa}{KF:cL->aa->Prop}
def yv(f:Fr)(l:List Int)(k:Nat):Bool:=decide (am l<=f.most) && (List.range k).all λj:Nat=>decide (ii f (au l j)=0)
theorem uN{f:Fr}{l:List Int}{k:Nat}(h:yv f l k=true):yv f l (k+1)=decide (ii f (au l k)=0):=by unfold yv at h ⊢;rw[List.range_succ,List.all_append,<-Bool.and_assoc,h];simp
theorem rU{f:Fr}{l:List Int}{k:Nat}(hk:(k:Int)<=am l)(h:yv f l k=false):de f l=false:=by
 cases e:de f l with
 |false=>rfl
 | true=>
   unfold de at e;rw[Bool.and_eq_true,List.all_eq_true]at e
   have:yv f l k=true:=by unfold yv;rw[Bool.and_eq_true,List.all_eq_true];exact⟨e.1,λj hj=>e.2 j (by have:=List.mem_range.1 hj;exact List.mem_range.2 (by omega))⟩
   rw[this]at h;cases h
theorem mq{f:Fr}{l:List Int}{k:Int}(h6:f.az.length<=6)(hl:l.length=f.az.length)(hne:au l k≠[]):Dk f (au l k):=by
 have h1:=bg l k;have hp:(au l k).Pairwise (·<·):=(io k l 0).1
 have h0:1<=(au l k).length:=by
  cases e:au l k with
  |nil=>exact absurd e hne
  |cons a r=>simp
 refine qM (n:=(au l k).length) ⟨rfl,λx hx=>?_,λa b hab hb=>?_⟩ ⟨h0,by omega⟩
 . have:=cr hx
   omega
 . have:=List.pairwise_iff_getElem.1 hp a b (by omega) hb hab
   simpa[List.getD_eq_getElem?_getD,hb,show a<(au l k).length by omega]using this
theorem uO{f:Fr}(hf:f.Fits)(hc:check f=0)(h:KF (.val (.c9 [rows (ak f []),bool true])) σ):aA Tryz.prog m 22 [aF f] σ KF:=by
 have hg:=Fr.jw hf hc;have h6:=hg.pi;have hlen:=fa hg [];rw[<-pX hg]at h hlen;refine aA.start lay [] LE 1 Tryz.func22 rfl rfl (by rfl) (by kernel_rfl) ?_
 simp[Tryz.f22];refine aq Tryz.func60 rfl rfl (uM h6 ?_);have hLa:=ir f.az.length;have hLn:=nT f.az.length;have hLl:=gg f.az.length h6;have hLl':(aU f.az.length).length<=117649:=Nat.le_trans hLl (Nat.le_trans (Nat.pow_le_pow_right (by omega) (show f.az.length<=6 by omega)) (by decide))
 obtain⟨L,hL⟩:∃L,L=aU f.az.length:=⟨_,rfl⟩;rw[<-hL]at hLa hLn hLl' h hlen ⊢;refine ab.run lay [] ?_;simp;refine ab.loop L.length (λi s=>∃env σ',s=⟨env,σ',[],.no⟩/\env 1=.cp (aF f) 0/\env 5=rows L/\env 6=int i/\Tok σ σ' (env 4) 1 (((L.take i).filter (de f)).map ints)) ⟨_,σ,rfl,by simp,by simp,by simp,by simpa using Tok.nil σ 1⟩ ?_
 rintro c0 i _ hi ⟨env,σ1,rfl,e1,e5,e6,htok⟩ ih
 rcases Nat.lt_or_ge i L.length with g2|g2
 . have ns : (i : Int)<L.length:=by omega
   obtain⟨l,hl⟩:∃l,l=L[i]:=⟨_,rfl⟩;obtain⟨hll,hlm,hlh⟩:=hLa l (by rw[hl];exact List.getElem_mem g2)
   have hne:=hLn l (by rw[hl];exact List.getElem_mem g2)
   have hnn:=bP l
   have htail:(L.take (i+1)).filter (de f)=(L.take i).filter (de f)++if de f l=true then[l]else[]:=by
    rw[List.take_succ_eq_append_getElem g2,List.filter_append,<-hl]
    by_cases e:de f l=true<;>simp[e]
   have hcnt:((L.take i).filter (de f)).length<=117649:=by refine Nat.le_trans (List.length_filter_le _ _) ?_;rw[List.length_take];omega
   have f0:-9223372036854775808<=(i:Int)+1/\(i:Int)+1<=9223372036854775807:=by omega
   refine ab.run lay [] ?_;simp[e1,e5,e6,g2,<-hl];refine aq Tryz.func23 rfl rfl (qO (by omega) (λx hx=>by have:=hlm x hx;omega) ?_)
   refine ab.run lay [] ?_;simp[e1,e5,e6];refine ab.loop (am l).toNat (λk s=>∃env,s=⟨env,σ1,[],.no⟩/\env 1=.cp (aF f) 0/\env 5=rows L/\env 6=int i/\env 7=int (am l)/\env 8=bool (yv f l k)/\env 9=int k/\Tok σ σ1 (env 4) 1 (((L.take i).filter (de f)).map ints)) ⟨_,rfl,by simp[e1],by simp[e5],by simp[e6],by simp,by simp[yv],by simp,by simpa using htok⟩ ?_
   clear e1 e5 e6 htok
   rintro c1 k _ hk ⟨env,rfl,e1,e5,e6,e7,e8,e9,htok⟩ ih2
   have htc:=htok.cells;have hkn:(k:Int)<=am l:=by omega
   cases hok:yv f l k with
   | false=>
     have hfit:=rU hkn hok;rw[hok]at e8;rw[hfit]at htail
     by_cases g3:(k:Int)<am l
     . refine ab.run lay [] ?_
       simp[e1,e5,e6,e7,e8,e9,g3];refine⟨f0,ih _ g2 ⟨_,_,rfl,by simp[e1],by simp[e5],by simp,?_⟩⟩
       rw[htail];simpa using htok
     . refine ab.run lay [] ?_
       simp[e1,e5,e6,e7,e8,e9,g3];refine⟨f0,ih _ g2 ⟨_,_,rfl,by simp[e1],by simp[e5],by simp,?_⟩⟩
       rw[htail];simpa using htok
   | true=>
     rw[hok]at e8
     by_cases g3:(k:Int)<am l
     . have hlst := mq h6 hll (hne k g3)
       have hl20:=bg l k;have hks:=uN hok;have f1:-9223372036854775808<=(k:Int)+1/\(k:Int)+1<=9223372036854775807:=by omega
       refine ab.run lay [] ?_;simp[e1,e5,e6,e7,e8,e9,g3,g2,<-hl]
       repeat' (first
                 |apply And.intro
                 | (refine aq Tryz.func36 rfl rfl (qP (by omega) ?_)
                    refine bm.go lay [] ?_;simp[e1,e5,e6,e7,e8,e9,g2,<-hl])
                 | (refine aq Tryz.func28 rfl rfl (yw hf hc hlst (by omega) ?_)
                    refine bm.go lay [] ?_;simp[e1,e5,e6,e7,e8,e9,g2,<-hl]))
       all_goals (
        refine ab.run lay [] ?_;simp[e9,f1.1,f1.2];refine ih2 _ (by omega) ⟨_,rfl,by simp[e1],by simp[e5],by simp[e6],by simp[e7],by simp[hks],by simp,by simpa using htok⟩)
     . have hke:k=(am l).toNat:=by omega
       have hfit:de f l=true:=by rw[hke]at hok;exact hok
       rw[hfit]at htail;refine ab.run lay [] ?_;simp[e1,e5,e6,e7,e8,e9,g3,g2,<-hl];refine aM lay rfl rfl rfl jC rfl jC rfl cA (by decide) (by simp only[List.length_map,List.length_append,List.length_singleton];omega) (σ0:=σ) (es:=((L.take i).filter (de f)).map ints) (xs:=[ints l]) (by simpa using htok) (.inr ⟨_,by simp;rfl⟩) λa6 σ6 ht6=>?_
       refine ab.run lay [] ?_;simp[e1,e5,e6,e7,e8,e9,f0.1,f0.2];refine ih _ g2 ⟨_,_,rfl,by simp[e1],by simp[e5],by simp,?_⟩
       rw[htail];simpa[List.map_append]using ht6
 . have hie:i=L.length:=by omega
   subst hie;rw[List.take_length]at htok;refine ab.run lay [] ?_;simp[e1,e5,e6];refine .less htok.1 (.nC (a':=.c9 [rows (L.filter (de f)),bool true]) (yx rfl λi a a' h1 h2=>?_) (.done h))
   match i with
   |0=>simp at h1 h2;subst h1;subst h2;exact htok.W
   |1=>simp at h1 h2;subst h1;subst h2;exact .refl _
   |i+2=>simp at h1
end Go.Proofs.YtalogdafegmilaaGreatDoor
namespace Go.Proofs.YtalogdafegmilaaGreatDoor
open Go.aN Go.Conc
set_option maxHeartbeats 2000000
set_option maxRecDepth 4000
variable{m:Mo}{σ:aa}{KF:cL->aa->Prop}
theorem TS{L:List (List Int)}{w v:List Int}(hL:0<L.length)(h1:L.foldl dG none=some w)(h2:L.foldl dG (some L[0])=some v):w=v:=by
 cases L with
 |nil=>simp at hL
 | cons a r=>
   rw[List.foldl_cons]at h1 h2;have:dG (some a) a=some a:=by simp[dG]
   rw[show(a::r)[0]=a from rfl,this]at h2;rw[show dG none a=some a from rfl,h2]at h1;exact(Option.some.inj h1).symm
theorem TC(hs:m.solo=true){nums:List Int}(hn:nums.length<1152921504606846976)(h:KF (.val (bool true)) σ):gq Tryz.prog lay m 4 [ints nums] σ KF:=by
 refine gq.start lay [] Ue 1 Tryz.func4 rfl rfl (by rfl) (by kernel_rfl) ?_
 simp[Tryz.f4];refine aq Tryz.func13 rfl rfl (kv λc σ1 hc hb hsame=>?_)
 refine ab.run lay [] ?_;simp;refine aq Tryz.func14 rfl rfl (Eu (by omega) hn ⟨by omega,by omega⟩ hb λf σ2 hf hd=>?_)
 refine ab.run lay [] ?_;simp;refine cT.intro λd hd3=>?_
 have hfit:=hf.fits (by omega)
 have hchk:=hf.check (by omega)
 have hg:=Fr.jw hfit hchk;have h5:=hf.len;simp
 have hle:σ.Le (((σ2.set d (.cells (eP f))).del d)):=λy x hy=>by
  have y1:y≠c:=λe=>by subst e;rw[hc]at hy;cases hy
  have y0:σ2 y=some x:=by rw[hd.2 y y1,hsame y y1];exact hy
  have y2:y≠d:=λe=>by subst e;rw[hd3]at y0;cases y0
  simp only[aa.del,y2,if_false,aa.ai _ _ y2];exact y0
 have h6:=hg.pi;have hm6:=hg.most;have hlen:=fa hg []
 by_cases hway:ak f []=[]
 . refine aq Tryz.func21 rfl rfl (TM hs hfit hchk hway ?_)
   refine ab.cZ 3 (b:=d) (aF f) (by simp) (by simp) rfl ?_
   refine ab.weaken (σ:=σ) ?_ hle;refine ab.run lay [] ?_;simp;refine aq Tryz.func22 rfl rfl (uO hfit hchk ?_);rw[hway];refine ab.run lay [] ?_;simp;refine aq Tryz.func20 rfl rfl (ip hs ?_);refine ab.run lay [] ?_;simp;exact .done h
 . obtain ⟨w, hw, hwmem⟩:=EA hway
   refine aq Tryz.func21 rfl rfl (xf hs hfit hchk hw (by omega) ?_)
   refine ab.cZ 3 (b:=d) (aF f) (by simp) (by simp) rfl ?_
   refine ab.weaken (σ:=σ) ?_ hle;refine ab.run lay [] ?_;simp;refine aq Tryz.func22 rfl rfl (uO hfit hchk ?_);have hwl:∀w∈ak f [],w.length=f.az.length:=λw hw=>by have:=dA f [] _ _ _ _ w hw;simpa using this
   have hwm:∀w∈ak f [],∀x∈w,0<=x/\x<f.most:=λw hw=>oO f [] _ _ _ _ (by simp) w hw
   obtain⟨L,hL⟩:∃L,L=ak f []:=⟨_,rfl⟩;rw[<-hL]at hwl hwm hlen hw hwmem hway ⊢
   have hpos:0<L.length:=by
    cases L with
    |nil=>exact absurd rfl hway
    |cons a r=>simp
   have hp0:((L.length:Int)==0)=false:=by rw[beq_eq_false_iff_ne];omega
   refine ab.run lay [] ?_;simp[hp0];refine ab.loop L.length (λi s=>∃env b,s=⟨env,σ,[],.no⟩/\env 4=ints w/\env 5=int (am w)/\env 6=int 0/\env 7=rows L/\env 9=int ((b:Nat):Int)/\env 10=int i/\∃hb:b<L.length,(L.take i).foldl dG (some L[0])=some L[b]) ⟨_,0,rfl,by simp,by simp,by simp,by simp,by simp,by simp,hpos,by simp⟩ ?_
   rintro c0 i _ hi ⟨env,b,rfl,e4,e5,e6,e7,e9,aJ,hbl,hfold⟩ ih
   have hbl':(b:Int)<L.length:=by omega
   rcases Nat.lt_or_ge i L.length with g1|g1
   . have g1':(i:Int)<L.length:=by omega
     have f1:-9223372036854775808<=(i:Int)+1/\(i:Int)+1<=9223372036854775807:=by omega
     have hnext:(L.take (i+1)).foldl dG (some L[0])=if am L[i]<am L[b]then some L[i]else some L[b]:=by rw[List.take_succ_eq_append_getElem g1,List.foldl_append,hfold];rfl
     refine ab.run lay [] ?_;simp[e4,e5,e6,e7,e9,aJ,g1,hbl]
     repeat' (first
               |apply And.intro
               | (refine aq Tryz.func23 rfl rfl (qO (by rw[hwl _ (List.getElem_mem _)];omega) (λx hx=>by have:=hwm _ (List.getElem_mem _) x hx;omega) ?_)
                  refine bm.go lay [] ?_;simp[e4,e5,e6,e7,e9,aJ,g1,hbl]))
     all_goals (
      by_cases q:am L[i]<am L[b]
      . rw[if_pos q]at hnext
        simp[aK,q];refine ab.run lay [] ?_;simp[aJ,f1.1,f1.2];exact ih _ g1 ⟨_,i,rfl,by simp[e4],by simp[e5],by simp[e6],by simp[e7],by simp,by simp,g1,hnext⟩
      . rw[if_neg q]at hnext
        simp[aK,q];refine ab.run lay [] ?_;simp[aJ,f1.1,f1.2];exact ih _ g1 ⟨_,b,rfl,by simp[e4],by simp[e5],by simp[e6],by simp[e7],by simp[e9],by simp,hbl,hnext⟩)
   . have hie:i=L.length:=by omega
     subst hie;rw[List.take_length]at hfold;have hwb:=TS hpos hw hfold;refine ab.run lay [] ?_;simp[e4,e5,e6,e7,e9,aJ,hbl];refine aq Tryz.func23 rfl rfl (qO (by rw[hwl _ (List.getElem_mem _)];omega) (λx hx=>by have:=hwm _ (List.getElem_mem _) x hx;omega) ?_)
     rw[<-hwb];refine ab.run lay [] ?_;simp[e4,e5,e6,e7,e9,aJ,hbl];rw[<-hwb];refine aq Tryz.func24 rfl rfl (oi (by rw[hwl _ hwmem];omega) (by rw[hwl _ hwmem];omega) ?_)
     refine ab.run lay [] ?_;simp[e4,e5,e6,e7,e9,aJ];refine aq Tryz.func20 rfl rfl (ip hs ?_);refine ab.run lay [] ?_;simp[e4,e5,e6,e7,e9,aJ];exact .done h
end Go.Proofs.YtalogdafegmilaaGreatDoor
