/- Part 1 of the proof. -/
import Derived.Test.YtalogdafegmilaaGreatDoorC36
set_option linter.all false
namespace Go.Proofs.YtalogdafegmilaaGreatDoor
open Go.aN
abbrev Nv:List Entry:=[⟨7,.take [0,1,2,3,4,5,6,7,8] true (.done)⟩,⟨18,.take [0,1,2,3,7] false (.one 4 (.one 5 (.take [6] true (.done))))⟩]
end Go.Proofs.YtalogdafegmilaaGreatDoor
namespace Go.Proofs.YtalogdafegmilaaGreatDoor
open Go.aN Go.Conc
set_option maxHeartbeats 1000000
set_option maxRecDepth 4000
variable{m:Mo}{σ:aa}{KF:cL->aa->Prop}
theorem bw(w:List Int)(k:Int)(i:Nat)(h:i<w.length):au (w.take (i+1)) k=au (w.take i) k++if w[i]=k then[(i:Int)]else[]:=by rw[List.take_succ_eq_append_getElem h,bo,List.length_take,Nat.min_eq_left (by omega)]
theorem bg(w:List Int)(k:Int):(au w k).length<=w.length:=by unfold au;rw[List.length_map];refine Nat.le_trans (List.length_filter_le _ _) ?_;simp
end Go.Proofs.YtalogdafegmilaaGreatDoor
namespace Go.Proofs.YtalogdafegmilaaGreatDoor
open Go.aN Go.Conc
set_option maxHeartbeats 1000000
set_option maxRecDepth 4000
variable{m:Mo}{σ:aa}{KF:cL->aa->Prop}
def toldOf(n all:Int):Int:=if n=0 then 2 else if n=all then 1 else 3
theorem bx{n all:Int}(h0:0<=n)(h1:n<=all)(h2:0<all):aL n all=toldOf n all:=by
 unfold aL toldOf;by_cases a:n=0
 . subst a;rw[if_neg (by omega),if_neg (by omega),if_pos rfl]
 . rw[if_neg a]
   by_cases b:n=all
   . subst b;rw[if_neg (by omega),if_pos rfl,if_pos rfl]
   . rw[if_pos (by omega),if_neg b]
end Go.Proofs.YtalogdafegmilaaGreatDoor
namespace Go.Proofs.YtalogdafegmilaaGreatDoor
open Go.aN Go.Conc
set_option maxHeartbeats 1000000
set_option maxRecDepth 4000
theorem jj{n all:Int}(h:0<all):toldOf n all=2↔n=0:=by
 unfold toldOf;by_cases a:n=0
 . simp[a]
 . by_cases b:n=all
   . simp[a,b]
   . simp[a,b]
theorem kq{n all:Int}(h:0<all):toldOf n all=1↔n=all:=by
 unfold toldOf;by_cases a:n=0
 . subst a;simp;omega
 . by_cases b:n=all
   . rw[if_neg a,if_pos b];simp[b]
   . simp[a,b]
theorem iH{α:Type}(p:α->Bool):∀l:List α,(l.filter p).length=l.length↔∀x∈l,p x=true
 |[]=>by simp
 | a ::l=>by
   have ih:=iH p l;have:=List.length_filter_le p l;rw[List.filter_cons];by_cases q:p a=true
   . rw[if_pos q,List.length_cons,List.length_cons]
     simp only[List.mem_cons,forall_eq_or_imp,q,true_and,<-ih];omega
   . rw[if_neg q,List.length_cons]
     simp only[List.mem_cons,forall_eq_or_imp];constructor
     . intro h;omega
     . intro h;exact absurd h.1 q
theorem kr{α:Type}(p:α->Bool)(l:List α):(l.filter p).length=0↔∀x∈l,p x=false:=by rw[List.length_eq_zero_iff,List.filter_eq_nil_iff];simp
section
variable{L:List (List Int)}{n:Nat}
def fy(L:List (List Int))(x y:Nat):Int:=aL ((L.filter (aC x y)).length:Int) L.length
theorem eZ(hL:0<L.length){x y:Nat}:fy L x y=2↔∀w∈L,aC x y w=false:=by
 have:=List.length_filter_le (aC (x:Int) y) L;unfold fy;rw[bx (by omega) (by omega) (by omega),jj (by omega),<-kr];omega
theorem ku(hL:0<L.length){x y:Nat}:fy L x y=1↔∀w∈L,aC x y w=true:=by
 have:=List.length_filter_le (aC (x:Int) y) L;unfold fy;rw[bx (by omega) (by omega) (by omega),kq (by omega),<-iH];omega
end
theorem oE(x y:Nat)(w:List Int):aC x y w=aC y x w:=by simp only[aC,eq_comm]
theorem mQ{x y z:Nat}{w:List Int}(h1:aC x y w=true)(h2:aC y z w=true):aC x z w=true:=by simp only[aC,decide_eq_true_eq]at h1 h2 ⊢;rw[h1,h2]
theorem rQ(x:Nat)(w:List Int):aC x x w=true:=by simp[aC]
section
variable{L:List (List Int)}{n:Nat}
def gu(L:List (List Int))(x y:Nat):List (List Int):=(L.filter (aC x y)).map λw=>au w (w.getD x 0)
theorem qK{w:List Int}{z:Nat}{k:Int}(hz:z<w.length):(z:Int)∈au w k↔w.getD z 0=k:=⟨λh=>by have:=(cr h).2.2;simpa using this,λh=>fR hz h⟩
def zT(L:List (List Int))(x y z:Nat):Prop:=∀w∈L,aC x y w=true->aC x z w=true
theorem Et{x y:Nat}:gu L x y=[]↔∀w∈L,aC x y w=false:=by unfold gu;rw[List.map_eq_nil_iff,List.filter_eq_nil_iff];simp
theorem zV(hw:∀w∈L,w.length=n){x y z:Nat}(hx:x<n)(hz:z<n){a:List Int}{r:List (List Int)}(h:gu L x y=a::r):(z:Int)∈dE a r↔zT L x y z:=by
 have h1:(z:Int)∈dE a r↔∀l∈gu L x y,(z:Int)∈l:=by rw[h];unfold dE;simp
 rw[h1];unfold gu zT;constructor
 . intro hl w hm hs
   have:=hl (au w (w.getD x 0)) (List.mem_map.2 ⟨w,List.mem_filter.2 ⟨hm,hs⟩,rfl⟩);rw[qK (by rw[hw w hm];exact hz)]at this
   simp only[aC,decide_eq_true_eq,Int.toNat_natCast];exact this.symm
 . intro hg l hl
   obtain⟨w,hm,rfl⟩:=List.mem_map.1 hl;obtain⟨hm,hs⟩:=List.mem_filter.1 hm;rw[qK (by rw[hw w hm];exact hz)]
   have:=hg w hm hs;simp only[aC,decide_eq_true_eq,Int.toNat_natCast]at this;exact this.symm
theorem JL(hL:0<L.length){x y z:Nat}(h:z=x\/z=y\/fy L x z=1\/fy L y z=1):zT L x y z:=by
 intro w hm hs;rcases h with rfl|rfl|h|h
 . exact rQ _ w
 . exact hs
 . exact(ku hL).1 h w hm
 . exact mQ hs ((ku hL).1 h w hm)
theorem B1(hL:0<L.length){x y z:Nat}(hn:fy L x y≠2)(h:zT L x y z):fy L x z≠2/\fy L y z≠2:=by
 have hex:∃w∈L,aC x y w=true:=by
  apply Decidable.byContradiction;intro hno;refine hn ((eZ hL).2 λw hm=>?_);rw[<-Bool.not_eq_true];exact λhs=>hno ⟨w,hm,hs⟩
 obtain⟨w,hm,hs⟩:=hex;have h1:=h w hm hs;refine⟨λq=>?_,λq=>?_⟩
 . have:=(eZ hL).1 q w hm;rw[h1]at this;cases this
 . have:=(eZ hL).1 q w hm
   rw[mQ (by rw[oE];exact hs) h1]at this;cases this
theorem B2(hL:0<L.length){x y:Nat}:gu L x y=[]↔fy L x y=2:=by rw[Et,eZ hL]
end
end Go.Proofs.YtalogdafegmilaaGreatDoor
namespace Go.Proofs.YtalogdafegmilaaGreatDoor
open Go.aN Go.Conc
set_option maxHeartbeats 2000000
set_option maxRecDepth 4000
variable{m:Mo}{σ:aa}{KF:cL->aa->Prop}
theorem B3{σ0 σ:aa}{a:AV}{kk:Nat}{es:List AV}(h:Tok σ0 σ a kk es)(hne:es≠[]):∃sp,a=.sl kk es sp:=by
 rcases h.2 with⟨_,q⟩|q|⟨b,e,_,q,_⟩
 . exact absurd q hne
 . exact⟨_,q⟩
 . exact⟨_,q⟩
namespace MS
end MS
end Go.Proofs.YtalogdafegmilaaGreatDoor
namespace Go.Proofs.YtalogdafegmilaaGreatDoor
open Go.aN Go.Conc
set_option maxHeartbeats 2000000
set_option maxRecDepth 4000
variable{m:Mo}{σ:aa}{KF:cL->aa->Prop}
abbrev σO:aa:=λ_=>none
theorem B4{L:List (List Int)}{x y k:Nat}(hk:k<L.length):gu (L.take (k+1)) x y=gu (L.take k) x y++if aC x y L[k]=true then[au L[k] (L[k].getD x 0)]else[]:=by
 unfold gu;rw[List.take_succ_eq_append_getElem hk,List.filter_append,List.map_append];by_cases e:aC x y L[k]=true<;>simp[e]
theorem wU(L:List (List Int))(x y:Nat):(gu L x y).length<=L.length:=by unfold gu;rw[List.length_map];exact List.length_filter_le _ _
def oH(L:List (List Int))(x y:Nat):List AV:=
 match gu L x y with
 |[]=>[.lit (.slice none 0 0),int 11]
 |a::r=>[ints (dE a r),int 0]
theorem B5(hs:m.solo=true){f:Fr}{x y:Nat}(hf:f.Fits)(hc:check f=0)(hx:x<f.az.length)(hy:y<f.az.length)(hway:ak f []≠[])(h:KF (.val (.c9 (oH (ak f []) x y))) σ):aA Tryz.prog m 33 [aF f,int x,int y] σ KF:=by
 have hg:=Fr.jw hf hc;have h6:=hg.pi;have hlen:=fa hg [];have hwl:∀w∈ak f [],w.length=f.az.length:=λw hw=>by have:=dA f [] _ _ _ _ w hw;simpa using this
 refine aA.start lay [] Nv 3 Tryz.func33 rfl rfl (by rfl) (by kernel_rfl) ?_
 simp[Tryz.f33];refine aq Tryz.func56 rfl rfl (im (l:=[(x:Int),(y:Int)]) (sp:=.exact) hs hf hc (λn hn=>by simp at hn;rcases hn with rfl|rfl<;>omega) (by simp) hway λb mb σ0 hne hu hfr hle0=>?_)
 refine ab.run lay [] ?_;simp;have LK:Dj Tryz.prog m nn b 6 mb .u8 (dm f) (v4 b 6 mb .u8 (dm f)) (O7 b 6 mb .u8):=fQ nk np tB hs hne;refine cT.intro λc10 h10=>?_
 simp;have hW:Wl [iF b mb f 0,AV.lit (.slice none 0 0)] [iF b mb f 0,ints []]:=.cons (.refl _) (.cons (fT 1) .nil);refine bs Tryz.func57 rfl rfl hW (oI (begun:=[]) ?_);refine ab.run lay [] ?_;simp;refine ab.rangeFunc rfl λhpl r l hr hl hrl=>?_
 obtain⟨a1,_,hr⟩:=aa.aO hr;obtain⟨a2,_,hl⟩:=aa.aO hl;generalize hal:ln.mk _ _ _ _ _ _ _ _ _=al;obtain⟨L,hL⟩:∃L,L=ak f []:=⟨_,rfl⟩
 have hY : JM m (.fn (.yield l) [] []) (ak f []) (λk F σ'=>∃a,(∀c,F c↔c=l\/c=c10\/bJ a=some c)/\σ' l=some (.loop al)/\σ' c10=some (.cells [a])/\Tok σO σ' a 1 ((gu ((ak f []).take k) x y).map ints)) (λF σ'=>False):=by
  refine⟨λk F σ' KF' hk hI hT hF=>?_,λk F σ1 σ2 he hI=>?_,λF σ1 σ2 he hI=>hI.elim,λk F σ' c hI hc=>?_⟩
  . obtain ⟨a,hFd,g1,g3,htok⟩:=hI
    have hmem:(ak f [])[k]∈ak f []:=List.getElem_mem hk;have hwlk:=hwl _ hmem;have hsucc:=B4 (L:=ak f []) (x:=x) (y:=y) hk;have hwll:=wU ((ak f []).take k) x y;rw[List.length_take]at hwll;obtain⟨w,hw⟩:∃w,w=(ak f [])[k]:=⟨_,rfl⟩;rw[<-hw]at hwlk hsucc;have hxw:x<w.length:=by omega
    have hyw:y<w.length:=by omega
    have hsp:aC x y w=decide (w[x]=w[y]):=by simp[aC,List.getD_eq_getElem?_getD,hxw,hyw]
    have hgx:w.getD x 0=w[x]:=by simp[List.getD_eq_getElem?_getD,hxw]
    rw[<-hw];subst hal;refine dC.rR (hold:=Nv) hpl Tryz.func33 g1 rfl ?_;refine ab.run lay [] ?_;simp[fI];refine ab.beginRound g1 rfl ?_;have hta:bJ a≠some l:=λq=>by obtain⟨_,e,q2⟩:=htok.aW q;rw[g1]at q2;cases q2
    have htc:bJ a≠some c10:=λq=>by obtain⟨_,e,q2⟩:=htok.aW q;rw[g3]at q2;cases q2
    by_cases q:w[x]=w[y]
    . have qb:(w[x] !=w[y])=false:=by simp[q]
      rw[hsp,if_pos (by simpa using q),hgx]at hsucc
      obtain⟨v,hv⟩:∃v,v=w[x]:=⟨_,rfl⟩;rw[<-hv]at hsucc;refine ab.run lay [] ?_;simp[fI,hxw,hyw,qb];generalize hbz:ln.mk _ _ _ _ _ _ _ _ _=bz;generalize hsb:σ'.set l (.loop bz)=σb;have hbl:σb l=some (.loop bz):=by rw[<-hsb];exact aa.ao _ _ _
      have hbk:∀z,z≠l->σb z=σ' z:=λz hz=>by rw[<-hsb];exact aa.ai _ _ hz
      have htb:Tok σO σb a 1 ((gu ((ak f []).take k) x y).map ints):=iQ htok (λz x hz=>by cases hz) λd hd=>⟨hbk d (λe=>hta (e ▸ hd)),rfl⟩
      have hb10:σb c10=some (.cells [a]):=(hbk c10 (Ne.symm a2)).trans g3;have hac:=htb.cells;refine ab.run lay [] ?_;simp;refine ab.loop w.length (λi s=>∃env σ2,s=⟨env,σ2,[],.no⟩/\env 4=.cp (int x) 0/\env 10=.ref c10 0/\env 11=ints w/\env 38=ints w/\env 39=int w.length/\env 40=int i/\Tok σb σ2 (env 12) 1 ((au (w.take i) v).map int)) ⟨_,σb,rfl,by simp,by simp,by simp,by simp,by simp,by simp,by simpa[au]using Tok.nil σb 1⟩ ?_
      rintro k1 i _ hi ⟨env,σ2,rfl,e4,aJ,aI,e38,e39,e40,htok2⟩ ih
      have htc2:=htok2.cells
      rcases Nat.lt_or_ge i w.length with g4|g4
      . have g4':(i:Int)<w.length:=by omega
        have f1:-9223372036854775808<=(i:Int)+1/\(i:Int)+1<=9223372036854775807:=by omega
        have hlk:=bg (w.take i) v;rw[List.length_take]at hlk
        by_cases q4:w[i]=v
        . have qb4:(w[i]==w[x])=true:=by simp[q4,hv]
          refine ab.run lay [] ?_;simp[e4,aJ,aI,e38,e39,e40,htc2.1,htc2.2,g4',g4,hxw,qb4];refine aM lay rfl rfl rfl cA rfl cA rfl pQ (by decide) (by simp;omega) (σ0:=σb) (es:=(au (w.take i) v).map int) (xs:=[int i]) (by simpa using htok2) (.inr ⟨_,by simp;rfl⟩) λa' σ3 ht'=>?_
          have htc':=ht'.cells;refine ab.run lay [] ?_;simp[e40,f1.1,f1.2,htc'.1,htc'.2];refine ih _ g4 ⟨_,_,rfl,by simp[e4,aJ,aI,e38,e39,e40,htc2.1,htc2.2],by simp[e4,aJ,aI,e38,e39,e40,htc2.1,htc2.2],by simp[e4,aJ,aI,e38,e39,e40,htc2.1,htc2.2],by simp[e4,aJ,aI,e38,e39,e40,htc2.1,htc2.2],by simp[e4,aJ,aI,e38,e39,e40,htc2.1,htc2.2],by simp,?_⟩
          rw[bw _ _ _ g4,if_pos q4,List.map_append];simpa using ht'
        . have qb4:(w[i]==w[x])=false:=by rw[beq_eq_false_iff_ne,<-hv];exact q4
          refine ab.run lay [] ?_;simp[e4,aJ,aI,e38,e39,e40,htc2.1,htc2.2,g4',g4,hxw,qb4,f1.1,f1.2];refine ih _ g4 ⟨_,_,rfl,by simp[e4,aJ,aI,e38,e39,e40,htc2.1,htc2.2],by simp[e4,aJ,aI,e38,e39,e40,htc2.1,htc2.2],by simp[e4,aJ,aI,e38,e39,e40,htc2.1,htc2.2],by simp[e4,aJ,aI,e38,e39,e40,htc2.1,htc2.2],by simp[e4,aJ,aI,e38,e39,e40,htc2.1,htc2.2],by simp,?_⟩
          rw[bw _ _ _ g4,if_neg q4,List.append_nil];simpa using htok2
      . have hie:i=w.length:=by omega
        subst hie;rw[List.take_length]at htok2;refine ab.yt 12 (a':=ints (au w v)) (by simpa using htok2.W) ?_
        refine ab.weaken (σ:=σb) ?_ htok2.1;clear htok2 ih htc2;refine ab.run lay [] ?_;simp[e4,aJ,aI,e38,e39,e40,hb10,hac.1,hac.2];refine aM lay rfl rfl rfl jC rfl jC rfl cA (by decide) (by simp;omega) (σ0:=σb.off a) (es:=(gu ((ak f []).take k) x y).map ints) (xs:=[ints (au w v)]) (by simpa using htb.here.1) (.inr ⟨_,by simp;rfl⟩) λa' σ3 ht3=>?_
        have htc3:=ht3.cells;have k3:∀z u,σb z=some u->bJ a≠some z->σ3 z=some u:=λz u hz hn=>ht3.1 _ _ (by rw[aa.fU hn];exact hz)
        have z10:=k3 _ _ hb10 htc;have zl:=k3 _ _ hbl hta;have hta':bJ a'≠some l:=λq=>by obtain⟨q1,_⟩:=ht3.aW q;rw[aa.fU hta,hbl]at q1;cases q1
        have htc':bJ a'≠some c10:=λq=>by obtain⟨q1,_⟩:=ht3.aW q;rw[aa.fU htc,hb10]at q1;cases q1
        have ht4:Tok σO σ3 a' 1 ((gu ((ak f []).take (k+1)) x y).map ints):=by
         have:=ht3.base (σ0:=σO) (λy x hy=>by cases hy)
         rw[hsucc,List.map_append];simpa using this
        refine ab.run lay [] ?_;simp[aJ,z10,htc3.1,htc3.2,aS];have fin:∀(X:jy) z u,z≠l->z≠c10->σ3 z=some u->((σ3.set c10 (.cells [a'])).set l X) z=some u:=λX z u h1 h2 h3=>(aa.ai _ _ h1).trans ((aa.ai _ _ h2).trans h3)
        subst hbz;refine⟨rfl,rfl,_,(aa.ai _ _ a2).trans zl,?_⟩;refine hT (λc=>c=l\/c=c10\/bJ a'=some c) _ (λc z hc hz=>⟨?_,λq=>?_⟩) ⟨a',λc=>Iff.rfl,aa.ao _ _ _,(aa.ai _ _ (Ne.symm a2)).trans (aa.ao _ _ _),iQ ht4 (λz x hz=>by cases hz) λd hd=>⟨?_,rfl⟩⟩
        . have q1:c≠l:=λe=>hc ((hFd c).2 (.inl e))
          have q2:c≠c10:=λe=>hc ((hFd c).2 (.inr (.inl e)))
          exact fin _ c z q1 q2 (k3 c z ((hbk c q1).trans hz) (λe=>hc ((hFd c).2 (.inr (.inr e)))))
        . have q1:c≠l:=λe=>hc ((hFd c).2 (.inl e))
          have q2:c≠c10:=λe=>hc ((hFd c).2 (.inr (.inl e)))
          rcases q with q|q|q
          . exact q1 q
          . exact q2 q
          . obtain⟨q3,_⟩:=ht3.aW q
            rw[aa.fU (λe=>hc ((hFd c).2 (.inr (.inr e)))),hbk c q1,hz]at q3
            cases q3
        . have q1:d≠l:=λe=>hta' (e ▸ hd)
          have q2:d≠c10:=λe=>htc' (e ▸ hd)
          exact(aa.ai _ _ q1).trans (aa.ai _ _ q2)
    . have qb:(w[x] !=w[y])=true:=by simp[q]
      rw[hsp,if_neg (by simpa using q),List.append_nil]at hsucc
      refine ab.run lay [] ?_;simp[fI,hxw,hyw,qb];refine ab.run lay [] ?_;simp;refine⟨rfl,rfl,_,aa.ao _ _ _,?_⟩;refine hT F _ (λc z hc hz=>⟨?_,hc⟩) ⟨a,hFd,aa.ao _ _ _,?_,?_⟩
      . have q1:c≠l:=λe=>hc ((hFd c).2 (.inl e))
        exact(aa.ai _ _ q1).trans ((aa.ai _ _ q1).trans hz)
      . exact(aa.ai _ _ (Ne.symm a2)).trans ((aa.ai _ _ (Ne.symm a2)).trans g3)
      . rw[hsucc]
        refine iQ htok (λz x hz=>by cases hz) λd hd=>⟨?_,rfl⟩
        have q1:d≠l:=λe=>hta (e ▸ hd)
        exact(aa.ai _ _ q1).trans (aa.ai _ _ q1)
  . obtain⟨a,hFd,g1,g3,htok⟩:=hI
    refine⟨a,hFd,by rw[he l ((hFd l).2 (.inl rfl))];exact g1,by rw[he c10 ((hFd c10).2 (.inr (.inl rfl)))];exact g3,iQ htok (λy x hy=>by cases hy) λd hd=>⟨he d ((hFd d).2 (.inr (.inr hd))),rfl⟩⟩
  . obtain⟨a,hFd,g1,g3,htok⟩:=hI
    rcases(hFd c).1 hc with rfl|rfl|q
    . exact⟨_,g1,rfl⟩
    . exact⟨_,g3,rfl⟩
    . obtain⟨_,e,q2⟩:=htok.aW q
      exact⟨_,q2,rfl⟩
 obtain⟨xb,hxb,hpb⟩:=LK.JN hu;have nb:∀c,σ0 c=none->c≠b:=λc hc e=>by subst e;rw[hc]at hxb;cases hxb
 have hle:σ0.Le (((σ0.set c10 (.cells [.lit (.slice none 0 0)])).set r (.raw (.deferred (some [])))).set l (.loop al)):=(by repeat (first|exact aa.le_refl _|assumption|refine aa.ig ?_ (by assumption)|refine aa.jm ?_ (by assumption)))
 have sr:(((σ0.set c10 (.cells [.lit (.slice none 0 0)])).set r (.raw (.deferred (some [])))).set l (.loop al)) r=some (.raw (.deferred (some []))):=(aa.ai _ _ hrl).trans (aa.ao _ _ _)
 have s10:(((σ0.set c10 (.cells [.lit (.slice none 0 0)])).set r (.raw (.deferred (some [])))).set l (.loop al)) c10=some (.cells [.lit (.slice none 0 0)]):=by rw[aa.ai _ _ (Ne.symm a2),aa.ai _ _ (Ne.symm a1),aa.ao]
 refine dJ Tryz.func86 rfl rfl rfl (mp (F:=λc=>c=l\/c=c10\/bJ (.lit (.slice none 0 0))=some c) LK hg (by simp) hY ⟨rfl,rfl⟩ (LK.un (λc _ ⟨x,h1,_⟩=>(hle _ _ h1).trans h1.symm) hu) ⟨.lit (.slice none 0 0),λc=>Iff.rfl,aa.ao _ _ _,s10,⟨(λ_ _ hy=>by cases hy),.inl ⟨rfl,by simp[gu]⟩⟩⟩ λF' σ' hmv hu' hend=>?_)
 have hr':=(hmv r _ sr (λe=>by rcases e with e|e|e;exact hrl e;exact a1 e;cases e) (nb r hr) (.inr rfl)).1
 have hkeep:j8 b mb σ0 σ':=λc x h1 h2 h3'=>(hmv c x (hle c x h1) (λe=>by rcases e with e|e|e<;>(try subst e)<;>simp_all [bJ]) h2 h3').1
 rcases hend with⟨a,hFd,q1,q3,htok⟩|q
 . rw [List.take_length]at htok
   subst hal;refine⟨_,q1,by simp,rfl,?_⟩
   have hac:=htok.cells;have q3':(σ'.del l) c10=some (.cells [a]):=by simp only[aa.del,Ne.symm a2,if_false];exact q3
   have hwln:=wU (ak f []) x y
   have hgo:σ.Le (σ'.del l):=λc x hx=>by
    have hx0:=hle0 c x hx;have c2':c≠l:=λe=>by subst e;rw[hl]at hx0;cases hx0
    have c3:c≠b:=λe=>by subst e;rw[hfr.1]at hx;cases hx
    have c4:c≠mb:=λe=>by subst e;rw[hfr.2]at hx;cases hx
    simp only[aa.del,c2',if_false];exact hkeep c x hx0 c3 (.inl c4)
   refine ab.cZ 10 (b:=c10) a q3' (by simp) hac.1 ?_
   have hrc:((σ'.del l).del c10) r=some (.raw (.deferred (some []))):=by simp only[aa.del,a1,hrl,if_false];exact hr'
   have hgo2:∀X,σ.Le ((((σ'.del l).del c10)).set r X):=λX c x hx=>by
    have c1:c≠r:=λe=>by subst e;rw[hle0 c x hx]at hr;cases hr
    have c2:c≠c10:=λe=>by subst e;rw[hle0 c x hx]at h10;cases h10
    rw[aa.ai _ _ c1];simp only[aa.del,c2,if_false];exact hgo c x hx
   simp only[oH]at h;cases hL2:gu (ak f []) x y with
   | nil=>
     rw[hL2]at h htok
     have hnil:a=.lit (.slice none 0 0)\/∃sp,a=.sl 1 [] sp:=by
      rcases htok.2 with⟨q,_⟩|q|⟨_,_,_,q,_⟩
      . exact .inl q
      . exact .inr ⟨_,q⟩
      . exact .inr ⟨_,q⟩
     rcases hnil with rfl|⟨sp,rfl⟩
     . refine ab.run lay [] ?_
       simp;exact⟨hrc,.less (hgo2 _) (.done h)⟩
     . refine ab.run lay [] ?_
       simp;exact⟨hrc,.less (hgo2 _) (.done h)⟩
   | cons w0 rs=>
     rw[hL2]at h htok;obtain⟨sp,rfl⟩:=B3 htok (by simp)
     have hl2:rs.length+1<=46656:=by rw[hL2]at hwln;simp at hwln;omega
     have q5:(((rs.length:Int)+1)==0)=false:=by rw[beq_eq_false_iff_ne];omega
     have hwn:∀z∈w0::rs,z.length<=6:=λz hz=>by rw[<-hL2]at hz;unfold gu at hz;obtain⟨w,hw,rfl⟩:=List.mem_map.1 hz;have:=bg w (w.getD x 0);have:=hwl w (List.mem_filter.1 hw).1;omega
     refine ab.run lay [] ?_;simp[q5];refine pN lay rfl jC rfl cA (es:=ints w0::rs.map ints) (sp:=sp) (l:=1) (h:=rs.length+1) ?_ (λcap hcap=>⟨rfl,⟨rfl,by simp⟩,⟨_,rfl⟩,by first|omega|(simp;omega)⟩) (by simp) ?_
     . simp
     refine bm.go lay [] ?_;simp;have hw0:=hwn w0 (by simp)
     rw[show List.take rs.length (List.map ints rs)=List.map ints rs from List.take_of_length_le (by simp)]
     refine aq Tryz.func70 rfl rfl (wV (first:=w0) (others:=rs) (by omega) (by omega) (λz hz=>?_) ?_)
     . have:=hwn z (by simp[hz]);omega
     refine bm.go lay [] ?_;simp;refine ab.run lay [] ?_;simp;exact⟨hrc,.less (hgo2 _) (.done h)⟩
 . exact q.elim
end Go.Proofs.YtalogdafegmilaaGreatDoor
namespace Go.Proofs.YtalogdafegmilaaGreatDoor
open Go.aN Go.Conc
set_option maxHeartbeats 2000000
set_option maxRecDepth 4000
variable{m:Mo}{σ:aa}{KF:cL->aa->Prop}
theorem uG(hs:m.solo=true){nums:List Int}(hn:nums.length<1152921504606846976)(h:KF (.val (bool true)) σ):gq Tryz.prog lay m 10 [ints nums] σ KF:=by
 refine gq.start lay [] [] 1 Tryz.func10 rfl rfl (by rfl) (by kernel_rfl) ?_
 simp[Tryz.f10];refine aq Tryz.func13 rfl rfl (kv λc σ1 hc hb hsame=>?_)
 refine ab.run lay [] ?_;simp;refine aq Tryz.func25 rfl rfl (lX (by omega) hn ⟨by omega,by omega⟩ hb λf ks σ2 hf hd=>?_)
 refine ab.run lay [] ?_;simp;refine cT.intro λd hd3=>?_
 simp;have hle:σ.Le ((σ2.set d (.cells (eP f))).del d):=qv hc hsame hd.2 hd3;have hg:=hf.jw;have hfit:=hg.fits;have hchk:=hg.Ng;have h6:=hg.pi;have hway:=hf.ways;have hlen:=fa hg [];have hL0:0<(ak f []).length:=List.length_pos_iff.2 hway;have hwl:∀w∈ak f [],w.length=f.az.length:=λw hw=>by have:=dA f [] _ _ _ _ w hw;simpa using this
 refine ab.cZ 3 (b:=d) (aF f) (by simp) (by simp) rfl ?_
 refine ab.weaken (σ:=σ) ?_ hle;obtain⟨n,hnn⟩:∃n,n=f.az.length:=⟨_,rfl⟩;refine ab.loop n (λx s=>∃env,s=⟨env,σ,[],.no⟩/\env 3=.cp (aF f) 0/\env 5=int x) ⟨_,rfl,by simp,by simp⟩ ?_
 rintro c0 x _ hx ⟨env,rfl,e3,e5⟩ ihx
 rcases Nat.lt_or_ge x n with g1|g1
 . have g1':(x:Int)<f.az.length:=by omega
   have f1:-9223372036854775808<=(x:Int)+1/\(x:Int)+1<=9223372036854775807:=by omega
   refine ab.run lay [] ?_;simp[e3,e5,g1'];refine ab.loop n (λy s=>∃env,s=⟨env,σ,[],.no⟩/\env 3=.cp (aF f) 0/\env 5=int x/\env 6=int y) ⟨_,rfl,by simp[e3],by simp[e5],by simp⟩ ?_
   clear e3 e5
   rintro c1 y _ hy ⟨env,rfl,e3,e5,e6⟩ ihy
   rcases Nat.lt_or_ge y n with g2|g2
   . have ns:(y:Int)<f.az.length:=by omega
     have f2:-9223372036854775808<=(y:Int)+1/\(y:Int)+1<=9223372036854775807:=by omega
     refine ab.run lay [] ?_;simp[e3,e5,e6,ns];refine aq Tryz.func33 rfl rfl (B5 hs hfit hchk (by omega) (by omega) hway ?_)
     obtain⟨v,hv⟩:∃v,v=fy (ak f []) x y:=⟨_,rfl⟩;have hnev:=B2 hL0 (x:=x) (y:=y);rw[<-hv]at hnev;cases hL2:gu (ak f []) x y with
     | nil=>
       rw[show oH (ak f []) x y=[.lit (.slice none 0 0),int 11]by simp only[oH,hL2]]
       have hv2:=hnev.1 hL2;have q1:(v==2)=true:=by simp[hv2]
       refine ab.run lay [] ?_;simp[e3,e5,e6];refine aq Tryz.func27 rfl rfl (jr hs hfit hchk ⟨by omega,by omega⟩ ⟨by omega,by omega⟩ hway (by omega) ?_)
       rw[show aL (((ak f []).filter (aC x y)).length:Int) (ak f []).length=v from hv.symm]
       refine ab.run lay [] ?_;simp[e3,e5,e6,q1];have hz:0<f.az.length:=by omega
       have hze:f.az≠[]:=List.length_pos_iff.1 hz;refine ab.loop 1 (λ_ s=>∃env,s=⟨env,σ,[],.no⟩/\env 3=.cp (aF f) 0/\env 5=int x/\env 6=int y/\env 8=int 11/\env 11=int 0) ⟨_,rfl,by simp[e3,e5,e6],by simp[e3,e5,e6],by simp[e3,e5,e6],by simp,by simp⟩ ?_
       clear e3 e5 e6
       rintro c2 z _ hz2 ⟨env,rfl,e3,e5,e6,e8,aI⟩ _
       refine ab.run lay [] ?_;simp[e3,e5,e6,e8,aI,hz,hze,f2.1,f2.2];exact ihy _ g2 ⟨_,rfl,by simp[e3,e5,e6,e8,aI],by simp[e3,e5,e6,e8,aI],by simp⟩
     | cons w0 rs=>
       have hv2:v≠2:=λe=>by rw[hnev.2 e]at hL2;cases hL2
       have q1:(v==2)=false:=by simp[hv2]
       obtain⟨l,hl⟩:∃l,l=dE w0 rs:=⟨_,rfl⟩
       have hll:l.length<=6:=by
        have h1:w0∈gu (ak f []) x y:=by rw[hL2];simp
        unfold gu at h1;obtain⟨w,hw,rfl⟩:=List.mem_map.1 h1;have:=bg w (w.getD x 0);have:=hwl w (List.mem_filter.1 hw).1;have h3:=qL (au w (w.getD x 0)) rs;rw[<-hl]at h3;omega
       have hmem:∀z:Nat,z<n->((z:Int)∈l↔zT (ak f []) x y z):=λz hz=>by rw[hl];exact zV hwl (by omega) (by omega) hL2
       rw[show oH (ak f []) x y=[ints l,int 0]by simp only[oH,hL2,<-hl]]
       refine ab.run lay [] ?_;simp[e3,e5,e6];refine aq Tryz.func27 rfl rfl (jr hs hfit hchk ⟨by omega,by omega⟩ ⟨by omega,by omega⟩ hway (by omega) ?_)
       rw[show aL (((ak f []).filter (aC x y)).length:Int) (ak f []).length=v from hv.symm]
       refine ab.run lay [] ?_;simp[e3,e5,e6,q1];refine ab.loop n (λz s=>∃env,s=⟨env,σ,[],.no⟩/\env 3=.cp (aF f) 0/\env 5=int x/\env 6=int y/\env 7=ints l/\env 8=int 0/\env 11=int z) ⟨_,rfl,by simp[e3,e5,e6],by simp[e3,e5,e6],by simp[e3,e5,e6],by simp,by simp,by simp⟩ ?_
       clear e3 e5 e6
       rintro c2 z _ hz2 ⟨env,rfl,e3,e5,e6,e7,e8,aI⟩ ihz
       rcases Nat.lt_or_ge z n with g3|g3
       . have tE:(z:Int)<f.az.length:=by omega
         have f3:-9223372036854775808<=(z:Int)+1/\(z:Int)+1<=9223372036854775807:=by omega
         obtain⟨u,hu⟩:∃u,u=fy (ak f []) x z:=⟨_,rfl⟩;obtain⟨w,hw⟩:∃w,w=fy (ak f []) y z:=⟨_,rfl⟩;have hin:=JL hL0 (x:=x) (y:=y) (z:=z);have hnv:=B1 hL0 (x:=x) (y:=y) (z:=z) (by rw[<-hv];exact hv2)
         rw[<-hu,<-hw]at hin hnv;have hm:=hmem z g3;refine ab.run lay [] ?_;simp[e3,e5,e6,e7,e8,aI,tE];refine aq Tryz.func27 rfl rfl (jr hs hfit hchk ⟨by omega,by omega⟩ ⟨by omega,by omega⟩ hway (by omega) ?_)
         rw[show aL (((ak f []).filter (aC x z)).length:Int) (ak f []).length=u from hu.symm]
         refine ab.run lay [] ?_;simp[e3,e5,e6,e7,e8,aI];refine aq Tryz.func27 rfl rfl (jr hs hfit hchk ⟨by omega,by omega⟩ ⟨by omega,by omega⟩ hway (by omega) ?_)
         rw[show aL (((ak f []).filter (aC y z)).length:Int) (ak f []).length=w from hw.symm]
         refine ab.run lay [] ?_;simp[e3,e5,e6,e7,e8,aI];refine aq Tryz.func34 rfl rfl (nO (by omega) ?_)
         by_cases q:(z:Int)∈l
         . have q2:nD l z>=0:=(iR l z).2 q
           have hn2:=hnv (hm.1 q);have q3:(u==2)=false:=by simp[hn2.1]
           have q4:(w==2)=false:=by simp[hn2.2]
           refine ab.run lay [] ?_;simp[e3,e5,e6,e7,e8,aI,q2,q3,q4,f3.1,f3.2];exact ihz _ g3 ⟨_,rfl,by simp[e3,e5,e6,e7,e8,aI],by simp[e3,e5,e6,e7,e8,aI],by simp[e3,e5,e6,e7,e8,aI],by simp[e3,e5,e6,e7,e8,aI],by simp[e3,e5,e6,e7,e8,aI],by simp⟩
         . have q2:¬nD l z>=0:=λe=>q ((iR l z).1 e)
           have hno:¬(z=x\/z=y\/u=1\/w=1):=λe=>q (hm.2 (hin e))
           have z1:((z:Int)==(x:Int))=false:=by rw[beq_eq_false_iff_ne];exact λe=>hno (.inl (by omega))
           have z2:((z:Int)==(y:Int))=false:=by rw[beq_eq_false_iff_ne];exact λe=>hno (.inr (.inl (by omega)))
           have z3:(u==1)=false:=by rw[beq_eq_false_iff_ne];exact λe=>hno (.inr (.inr (.inl e)))
           have z4:(w==1)=false:=by rw[beq_eq_false_iff_ne];exact λe=>hno (.inr (.inr (.inr e)))
           refine ab.run lay [] ?_;simp[e3,e5,e6,e7,e8,aI,q2,z1,z2,z3,z4,f3.1,f3.2];exact ihz _ g3 ⟨_,rfl,by simp[e3,e5,e6,e7,e8,aI],by simp[e3,e5,e6,e7,e8,aI],by simp[e3,e5,e6,e7,e8,aI],by simp[e3,e5,e6,e7,e8,aI],by simp[e3,e5,e6,e7,e8,aI],by simp⟩
       . have hze:z=n:=by omega
         have n3:¬(z:Int)<f.az.length:=by omega
         refine ab.run lay [] ?_;simp[e3,e5,e6,e7,e8,aI,n3,f2.1,f2.2];exact ihy _ g2 ⟨_,rfl,by simp[e3,e5,e6,e7,e8,aI],by simp[e3,e5,e6,e7,e8,aI],by simp⟩
   . have n2:¬(y:Int)<f.az.length:=by omega
     refine ab.run lay [] ?_;simp[e3,e5,e6,n2,f1.1,f1.2];exact ihx _ g1 ⟨_,rfl,by simp[e3,e5,e6],by simp⟩
 . have n1:¬(x:Int)<f.az.length:=by omega
   refine ab.run lay [] ?_;simp[e3,e5,n1];refine aq Tryz.func20 rfl rfl (ip hs ?_);refine ab.run lay [] ?_;simp[e3,e5];exact .done h
end Go.Proofs.YtalogdafegmilaaGreatDoor
