/- Part 33 of the proof. -/
import Derived.Test.YtalogdafegmilaaGreatDoorC32
set_option linter.all false
namespace Go.Proofs.YtalogdafegmilaaGreatDoor
open Go.aN Go.Conc
set_option maxHeartbeats 1000000
set_option maxRecDepth 4000
variable{m:Mo}{σ:aa}{KF:cL->aa->Prop}
theorem Ee:∀{es:List AV},(∀a∈es,a.cells=[a])->flatten es=es
 |[],_=>rfl
 |a::es,h=>by rw[flatten_cons,h a (List.mem_cons_self ..),Ee λx hx=>h x (List.mem_cons_of_mem _ hx)];rfl
theorem OV{es es':List AV}{sp:cM}(hl:es.length=es'.length)(hc:∀a∈es,a.cells=[a])(hc':∀a∈es',a.cells=[a])(hw:∀(i:Nat) a a',es[i]?=some a->es'[i]?=some a'->a.W a'):(AV.sl 1 es sp).W (.sl 1 es' .any):=λk x hx=>by
 cases hx with
 | sl b off cap kk N E _ _ c g1 g2 g3 g4 g5 g6 g7=>
   rw[Ee hc]at g5 g6;rw[hl]at g1 ⊢;refine .sl b off cap 1 N E es' .any c g1 g2 g3 (λe he=>by rw[hc' e he];rfl) (λj hj=>?_) (λj a ha=>?_) trivial
   . rw[Ee hc']at hj
     exact g5 j (by omega)
   . rw[Ee hc']at ha
     have hj:j<es.length:=by rw[hl];exact(List.getElem?_eq_some_iff.1 ha).1
     exact hw j es[j] a (by simp[hj]) ha k _ (g6 j _ (by simp[hj]))
 | slnil=>
   have:es'=[]:=by cases es' with|nil=>rfl|cons _ _=>simp at hl
   subst this;exact .slnil 1
theorem rS{l l':List AV}(hl:l.length=l'.length)(hw:∀(i:Nat) a a',l[i]?=some a->l'[i]?=some a'->a.W a'):(AV.agg l).W (.agg l'):=λk x hx=>by
 cases hx with
 | agg c _ g1 g2=>
   refine .agg c l' (by omega) λi v a' hv ha'=>?_
   have hi:i<l.length:=by rw[hl];exact(List.getElem?_eq_some_iff.1 ha').1
   exact hw i l[i] a' (by simp[hi]) ha' k v (g2 i v _ hv (by simp[hi]))
def tz:List lP:=[⟨0,0,1,[0],15,0⟩,⟨3,1,1,[0],16,1⟩,⟨4,0,1,[0,2],15,2⟩,⟨10,0,2,[],14,0⟩,⟨12,0,1,[2],15,0⟩]
def eu(n:Nat)(most:Int):Fr:=⟨tz.take n,[[0,2],[2,0]],1,2,3,most⟩
theorem om{a b c d e:Int}{l:List Int}(h:KF (.val (dt ⟨a,b,c,l,d,e⟩)) σ):aA Tryz.prog m 117 [int a,int b,int c,int d,int e,ints l] σ KF:=by
 refine aA.start lay [] [] 6 Tryz.func117 rfl rfl (by rfl) (by kernel_rfl) ?_;simp[Tryz.f117];refine cT.intro λk hk=>?_
 simp;exact .less (by repeat (first|exact aa.le_refl _|assumption|refine aa.ig ?_ (by assumption)|refine aa.jm ?_ (by assumption))) (.done h)
theorem KP(h:KF (.val (ru tz)) σ):aA Tryz.prog m 84 [] σ KF:=by
 have w1:∀a b c d e:Int,∀l:List Int,Wl [int a,int b,int c,int d,int e,.sl 1 (l.map int) .exact] [int a,int b,int c,int d,int e,ints l]:=λa b c d e l=>.cons (.refl _) (.cons (.refl _) (.cons (.refl _) (.cons (.refl _) (.cons (.refl _) (.cons (gK 1 _ .exact) .nil)))))
 have w0:∀a b c d e:Int,Wl [int a,int b,int c,int d,int e,.lit (.slice none 0 0)] [int a,int b,int c,int d,int e,ints []]:=λa b c d e=>.cons (.refl _) (.cons (.refl _) (.cons (.refl _) (.cons (.refl _) (.cons (.refl _) (.cons (fT 1) .nil)))))
 refine aA.start lay [] [] 0 Tryz.func84 rfl rfl (by rfl) (by kernel_rfl) ?_;simp[Tryz.f84];refine bs Tryz.func117 rfl rfl (w1 0 0 1 15 0 [0]) (om ?_);refine ab.run lay [] ?_;simp;refine bs Tryz.func117 rfl rfl (w1 3 1 1 16 1 [0]) (om ?_);refine ab.run lay [] ?_;simp;refine bs Tryz.func117 rfl rfl (w1 4 0 1 15 2 [0,2]) (om ?_);refine ab.run lay [] ?_;simp;refine bs Tryz.func117 rfl rfl (w0 10 0 2 14 0) (om ?_);refine ab.run lay [] ?_;simp;refine bs Tryz.func117 rfl rfl (w1 12 0 1 15 0 [2]) (om ?_);refine ab.run lay [] ?_;simp;exact .nC (gK 6 _ .exact) (.done h)
theorem o0{n:Nat}{most:Int}(hn:n<=5)(h:KF (.val (aF (eu n most))) σ):aA Tryz.prog m 54 [int n,int most] σ KF:=by
 refine aA.start lay [] [] 2 Tryz.func54 rfl rfl (by rfl) (by kernel_rfl) ?_;simp[Tryz.f54];refine cT.intro λk hk=>?_
 simp;refine aq Tryz.func84 rfl rfl (KP ?_);refine ab.run lay [] ?_;simp;refine pN lay rfl sB rfl CR (es:=tz.map dt) (sp:=.any) (l:=0) (h:=n) ?_ (λcap hcap=>⟨rfl,⟨⟨.i64,by simp⟩,?_⟩,rfl⟩) (by simp[tz];omega) ?_
 . simp
 . simp[tz]at hcap;omega
 refine ab.run lay [] ?_;simp[aS]
 have hrow:(AV.sl 1 [AV.sl 1 [int 0,int 2] .exact,.sl 1 [int 2,int 0] .exact] .exact).W (rows [[0,2],[2,0]]):=OV rfl (λa ha=>by simp at ha;rcases ha with rfl|rfl<;>rfl) (λa ha=>by simp at ha;rcases ha with rfl|rfl<;>rfl) (λi a a' h1 h2=>by
  match i with
  |0=>simp at h1 h2;subst h1;subst h2;exact gK 1 [int 0,int 2] .exact
  |1=>simp at h1 h2;subst h1;subst h2;exact gK 1 [int 2,int 0] .exact
  |i+2=>simp at h1)
 refine .less (by repeat (first|exact aa.le_refl _|assumption|refine aa.ig ?_ (by assumption)|refine aa.jm ?_ (by assumption))) (.nC (a':=aF (eu n most)) (rS rfl λi a a' h1 h2=>?_) (.done h))
 match i with
 |0=>simp[eP,eu]at h1 h2;subst h1;subst h2;rw[<-List.map_take];exact .refl _
 |1=>simp[eP,eu]at h1 h2;subst h1;subst h2;exact hrow
 |2=>simp[eP,eu]at h1 h2;subst h1;subst h2;exact .refl _
 |3=>simp[eP,eu]at h1 h2;subst h1;subst h2;exact .refl _
 |4=>simp[eP,eu]at h1 h2;subst h1;subst h2;exact .refl _
 |5=>simp[eP,eu]at h1 h2;subst h1;subst h2;exact .refl _
 |i+6=>simp at h1
end Go.Proofs.YtalogdafegmilaaGreatDoor
namespace Go.Proofs.YtalogdafegmilaaGreatDoor
open Go.aN Go.Conc
set_option maxHeartbeats 1000000
set_option maxRecDepth 4000
variable{m:Mo}{σ:aa}{KF:cL->aa->Prop}
def am(w:List Int):Int:=w.foldl (λn k=>max n (k+1)) 0
def dG:Option (List Int)->List Int->Option (List Int)
 |none,w=>some w
 |some v,w=>if am w<am v then some w else some v
def lW:Option (List Int)->List AV
 |none=>[.lit (.slice none 0 0),int 0,bool false]
 |some w=>[ints w,int (am w),bool true]
theorem KQ{c:Nat}{o:Option (List Int)}{w:List Int}(hc:σ c=some (.cells (lW o)))(h:∀σ',σ' c=some (.cells (lW (dG o w)))->(∀x,x≠c->σ' x=σ x)->KF (.val (.c9 [])) σ'):aA Tryz.prog m 58 [.ref c 0,ints w,int (am w)] σ KF:=by
 cases o with
 | none=>
   simp only[lW]at hc;refine aA.start lay [] [] 3 Tryz.func58 rfl rfl (by rfl) (by kernel_rfl) ?_;simp[Tryz.f58,hc];refine .done (h _ (aa.ao _ _ _) λx hx=>?_);simp[aa.ai,hx]
 | some v=>
   simp only[lW]at hc;refine aA.start lay [] [] 3 Tryz.func58 rfl rfl (by rfl) (by kernel_rfl) ?_;simp[Tryz.f58,hc];by_cases g:am w<am v
   . simp[aK,g,hc]
     simp only[dG,if_pos g]at h;refine .done (h _ (aa.ao _ _ _) λx hx=>?_);simp[aa.ai,hx]
   . simp[aK,g,hc]
     simp only[dG,if_neg g]at h;exact .done (h _ hc λx _=>rfl)
theorem oO(f:Fr)(begun:List Int):∀(fuel:Nat) (cd:List Int) (many:Int) (hs:List Int),(∀x∈cd,0<=x/\x<f.most)->∀w∈cV f begun fuel cd many hs,∀x∈w,0<=x/\x<f.most
 |0,cd,many,hs,hb,w,hw=>by simp[cV]at hw;subst hw;exact hb
 | fuel+1,cd,many,hs,hb,w,hw=>by
   rw[na,List.mem_flatMap]at hw;obtain⟨k,hk1,hk⟩:=hw;have:=List.mem_range.1 hk1;unfold mJ at hk;split at hk
   . cases hk
   split at hk
   . refine oO f begun fuel _ _ _ (λx hx=>?_) w hk
     rcases List.mem_append.1 hx with hx|hx
     . exact hb x hx
     . simp at hx;subst hx;omega
   . cases hk
section
variable{b mb:Nat}{f:Fr}{Un:aa->Prop}{Ld:aa->List (Int × AV)->Prop}
theorem xf(hs:m.solo=true){f:Fr}{w:List Int}(hf:f.Fits)(hc:check f=0)(hw:(ak f []).foldl dG none=some w)(hlen:(ak f []).length<1152921504606846976)(h:KF (.val (.c9 [ints w,int (am w),int 0])) σ):aA Tryz.prog m 21 [aF f] σ KF:=by
 have hg:=Fr.jw hf hc;have hm6:=hg.pi;have hway:ak f []≠[]:=λe=>by rw[e]at hw;cases hw
 have hwl:∀w∈ak f [],w.length=f.az.length:=λw hw=>by have:=dA f [] _ _ _ _ w hw;simpa using this
 have hwm:∀w∈ak f [],∀x∈w,0<=x/\x<f.most:=λw hw=>oO f [] _ _ _ _ (by simp) w hw
 refine aA.start lay [] OF 1 Tryz.func21 rfl rfl (by rfl) (by kernel_rfl) ?_
 simp[Tryz.f21];have hW:Wl [aF f,AV.lit (.slice none 0 0)] [aF f,.sl 1 (([]:List Int).map int) .any]:=.cons (.refl _) (.cons (fT 1) .nil);refine bs Tryz.func56 rfl rfl hW (im (l:=[]) (sp:=.any) hs hf hc (by simp) (by simp) hway λb mb σ0 hne hu hfr hle0=>?_)
 refine ab.run lay [] ?_;simp;have LK:Dj Tryz.prog m nn b 6 mb .u8 (dm f) (v4 b 6 mb .u8 (dm f)) (O7 b 6 mb .u8):=fQ nk np tB hs hne;refine cT.intro λc7 h7=>?_
 simp;have hW:Wl [iF b mb f 0,AV.lit (.slice none 0 0)] [iF b mb f 0,ints []]:=.cons (.refl _) (.cons (fT 1) .nil);refine bs Tryz.func57 rfl rfl hW (oI (begun:=[]) ?_);refine ab.run lay [] ?_;simp;refine ab.rangeFunc rfl λhpl r l hr hl hrl=>?_
 obtain⟨a1,_,hr⟩:=aa.aO hr;obtain⟨a2,_,hl⟩:=aa.aO hl;have hr0:σ0 r=none/\r≠c7:=⟨hr,a1⟩;have hl0:σ0 l=none/\l≠c7:=⟨hl,a2⟩;generalize hal:ln.mk _ _ _ _ _ _ _ _ _=al
 have hY:JM m (.fn (.yield l) [] []) (ak f []) (λk F σ'=>(∀c,F c↔c=l\/c=c7)/\σ' l=some (.loop al)/\σ' c7=some (.cells (lW (((ak f []).take k).foldl dG none)))) (λF σ'=>False):=by
  refine⟨λk F σ' KF' hk hI hT hF=>?_,λk F σ1 σ2 he hI=>?_,λF σ1 σ2 he hI=>hI.elim,λk F σ' c hI hc=>?_⟩
  . obtain⟨hFd,g1,g3⟩:=hI
    have hmem:(ak f [])[k]∈ak f []:=List.getElem_mem hk
    have hsucc:((ak f []).take (k+1)).foldl dG none=dG (((ak f []).take k).foldl dG none) (ak f [])[k]:=by rw[List.take_succ_eq_append_getElem hk,List.foldl_append];rfl
    subst hal;refine dC.rR (hold:=OF) hpl Tryz.func21 g1 rfl ?_;refine ab.run lay [] ?_;simp[fI];refine ab.beginRound g1 rfl ?_;refine ab.run lay [] ?_;simp[fI];refine aq Tryz.func59 rfl rfl (wY (by rw[hwl _ hmem];have:=hg.pi;omega) (λx hx=>by have:=hwm _ hmem x hx;have:=hg.most;omega) ?_)
    refine ab.run lay [] ?_;simp;refine aq Tryz.func58 rfl rfl (KQ (o:=((ak f []).take k).foldl dG none) (w:=(ak f [])[k]) ((aa.ai _ _ (Ne.symm hl0.2)).trans g3) λσ2 q1 q2=>?_)
    refine ab.run lay [] ?_;simp;refine⟨rfl,rfl,_,((q2 l hl0.2).trans (aa.ao _ _ _)),?_⟩;refine hT F _ (λc x hc hx=>⟨?_,hc⟩) ⟨hFd,aa.ao _ _ _,?_⟩
    . have p1:c≠l:=λe=>hc ((hFd c).2 (.inl e))
      have p3:c≠c7:=λe=>hc ((hFd c).2 (.inr e))
      exact(aa.ai _ _ p1).trans ((q2 c p3).trans ((aa.ai _ _ p1).trans hx))
    . rw[hsucc]
      exact(aa.ai _ _ (Ne.symm hl0.2)).trans q1
  . obtain⟨hFd,g1,g3⟩:=hI
    exact⟨hFd,by rw[he l ((hFd l).2 (.inl rfl))];exact g1,by rw[he c7 ((hFd c7).2 (.inr rfl))];exact g3⟩
  . obtain⟨hFd,g1,g3⟩:=hI
    rcases(hFd c).1 hc with rfl|rfl
    . exact⟨_,g1,rfl⟩
    . exact⟨_,g3,rfl⟩
 obtain⟨xb,hxb,hpb⟩:=LK.JN hu;have nb:∀c,σ0 c=none->c≠b:=λc hc e=>by subst e;rw[hc]at hxb;cases hxb
 have hle:σ0.Le (((σ0.set c7 (.cells (lW none))).set r (.raw (.deferred (some [])))).set l (.loop al)):=(by repeat (first|exact aa.le_refl _|assumption|refine aa.ig ?_ (by assumption)|refine aa.jm ?_ (by assumption)))
 have sr:(((σ0.set c7 (.cells (lW none))).set r (.raw (.deferred (some [])))).set l (.loop al)) r=some (.raw (.deferred (some []))):=(aa.ai _ _ hrl).trans (aa.ao _ _ _);have s7:(((σ0.set c7 (.cells (lW none))).set r (.raw (.deferred (some [])))).set l (.loop al)) c7=some (.cells (lW none)):=(aa.ai _ _ (Ne.symm hl0.2)).trans ((aa.ai _ _ (Ne.symm hr0.2)).trans (aa.ao _ _ _))
 refine dJ Tryz.func86 rfl rfl rfl (mp (F:=λc=>c=l\/c=c7) LK hg (by simp) hY ⟨rfl,rfl⟩ (LK.un (λc _ ⟨x,h1,_⟩=>(hle _ _ h1).trans h1.symm) hu) ⟨λc=>Iff.rfl,aa.ao _ _ _,by simpa[lW]using s7⟩ λF' σ' hmv hu' hend=>?_)
 have hr':=(hmv r _ sr (λe=>by rcases e with e|e;exact hrl e;exact hr0.2 e) (nb r hr) (.inr rfl)).1
 have hkeep:j8 b mb σ0 σ':=λc x h1 h2 h3'=>(hmv c x (hle c x h1) (λe=>by rcases e with e|e<;>subst e<;>simp_all) h2 h3').1
 rcases hend with⟨_,q1,q3⟩|q
 . rw[List.take_length,hw]at q3
   subst hal;refine⟨_,q1,by simp,rfl,?_⟩
   have q3':(σ'.del l) c7=some (.cells [ints w,int (am w),bool true]):=by simp only[aa.del,Ne.symm hl0.2,if_false];exact q3
   refine ab.run lay [] ?_;simp[q3'];refine ab.run lay [] ?_;simp;refine⟨by simp only[aa.del,hrl,if_false];exact hr',.less (λc x hx=>?_) (.done h)⟩
   have hx0:=hle0 c x hx;have c1:c≠r:=λe=>by subst e;rw[hr]at hx0;cases hx0
   have c2:c≠l:=λe=>by subst e;rw[hl]at hx0;cases hx0
   have c3:c≠b:=λe=>by subst e;rw[hfr.1]at hx;cases hx
   have c4:c≠mb:=λe=>by subst e;rw[hfr.2]at hx;cases hx
   rw[aa.ai _ _ c1];simp only[aa.del,c2,if_false];exact hkeep c x hx0 c3 (.inl c4)
 . exact q.elim
end
end Go.Proofs.YtalogdafegmilaaGreatDoor
namespace Go.Proofs.YtalogdafegmilaaGreatDoor
open Go.aN Go.Conc
set_option maxHeartbeats 1000000
set_option maxRecDepth 4000
variable{m:Mo}{σ:aa}{KF:cL->aa->Prop}
def lz(l:List lP)(out:List Int):List lP:=(l.zipIdx.filter λp=>!decide ((p.2:Int)∈out)).map Prod.fst
theorem vT(l:List lP)(out:List Int)(k:Nat)(h:k<l.length):lz (l.take (k+1)) out=lz (l.take k) out++if(k:Int)∈out then[]else[l[k]]:=by
 unfold lz;rw[List.take_succ_eq_append_getElem h,List.zipIdx_append,List.filter_append,List.map_append];congr 1;rw[List.length_take,Nat.min_eq_left (by omega)];by_cases hk:(k:Int)∈out<;>simp[hk]
theorem xQ(l:List lP)(out:List Int):(lz l out).length<=l.length:=by unfold lz;rw[List.length_map];refine Nat.le_trans (List.length_filter_le _ _) ?_;simp
def cH(f:Fr)(out:List Int):Fr:={f with az:=lz f.az out}
theorem C'{f:Fr}{out:List Int}(hf:f.Good)(hl:out.length<1152921504606846976)(h:KF (.val (aF (cH f out))) σ):aA Tryz.prog m 52 [aF f,ints out] σ KF:=by
 have h6:=hf.pi;refine aA.start lay [2] [] 2 Tryz.func52 rfl rfl (by rfl) (by kernel_rfl) ?_
 simp[Tryz.f52];refine cT.intro λc2 h2=>?_
 simp;refine cT.intro λc4 h4=>?_
 obtain⟨z1,z2,h4⟩:=aa.aO h4;simp[z1,z2,aa.ai];generalize hσb:(σ.set c2 (.cells (eP f))).set c4 (.cells [AV.lit (.slice none 0 0),.lit (.slice none 0 0),int 0,int 0,int 0,int 0])=σb;have hle:σ.Le σb:=by subst hσb;exact aa.iU (aa.iU (aa.le_refl _) h2) (by rw[aa.ai _ _ z1];exact h4)
 have b2:σb c2=some (.cells (eP f)):=by subst hσb;simp[aa.ai,aa.ao,z1,z2]
 have b4:σb c4=some (.cells [AV.lit (.slice none 0 0),.lit (.slice none 0 0),int 0,int 0,int 0,int 0]):=by subst hσb;simp[aa.ao]
 refine ab.loop f.az.length (λk s=>∃env σ',s=⟨env,σ',[],.no⟩/\env 1=ints out/\env 2=.ref c2 0/\env 4=.ref c4 0/\env 9=ru f.az/\env 10=int f.az.length/\env 11=int k/\Tok σb σ' (env 5) 6 ((lz (f.az.take k) out).map dt)) ⟨_,σb,by rw[<-hσb],by simp,by simp,by simp,by simp,by simp,by simp,by simpa[lz]using Tok.nil σb 6⟩ ?_
 rintro c0 k _ hk ⟨env,σ',rfl,e1,e2,e4,e9,aJ,aI,htok⟩ ih
 have htc:=htok.cells;refine ab.run lay [2] ?_;simp[e1,e2,e4,e9,aJ,aI,htc.1,htc.2];refine aK.intro (λg1=>?_) (λg1=>?_)<;>(try simp[-Int.not_lt,-Int.not_le,-Nat.not_lt,-Nat.not_le]at g1)<;>(try simp[e1,e2,e4,e9,aJ,aI,htc.1,htc.2,g1])
 . refine cT.intro λc7 h7=>?_
   simp[e1,e2,e4,e9,aJ,aI,htc.1,htc.2];refine aq Tryz.func83 rfl rfl (jO hl ?_);refine ab.run lay [2] ?_;simp[e1,e2,e4,e9,aJ,aI,htc.1,htc.2];refine aK.intro (λg2=>?_) (λg2=>?_)<;>(try simp[-Int.not_lt,-Int.not_le,-Nat.not_lt,-Nat.not_le]at g2)<;>(try simp[e1,e2,e4,e9,aJ,aI,htc.1,htc.2,g2])
   . refine⟨by omega,ih _ g1 ⟨_,_,rfl,by simp[e1,e2,e4,e9,aJ,aI,htc.1,htc.2],by simp[e1,e2,e4,e9,aJ,aI,htc.1,htc.2],by simp[e1,e2,e4,e9,aJ,aI,htc.1,htc.2],by simp[e1,e2,e4,e9,aJ,aI,htc.1,htc.2],by simp[e1,e2,e4,e9,aJ,aI,htc.1,htc.2],by simp,?_⟩⟩
     have:=htok.up (aa.iU (x:=.cells [int f.az[k].hour,int f.az[k].place,int f.az[k].cS,ints f.az[k].marks,int f.az[k].aX,int f.az[k].iS]) (aa.le_refl _) h7);rw[vT _ _ _ g1,if_pos g2,List.append_nil];simpa using this
   . have hlk:=xQ (f.az.take k) out
     rw[List.length_take]at hlk;refine aM lay rfl rfl rfl sB rfl sB rfl CR (by decide) (by simp;omega) (σ0:=σb) (es:=(lz (f.az.take k) out).map dt) (xs:=[dt f.az[k]]) (by simpa using htok.up (aa.iU (aa.le_refl _) h7)) (.inr ⟨_,rfl⟩) λa' σ2 ht'=>?_
     refine ab.run lay [2] ?_;simp[e1,e2,e4,e9,aJ,aI,htc.1,htc.2];refine⟨by omega,ih _ g1 ⟨_,_,rfl,by simp[e1,e2,e4,e9,aJ,aI,htc.1,htc.2],by simp[e1,e2,e4,e9,aJ,aI,htc.1,htc.2],by simp[e1,e2,e4,e9,aJ,aI,htc.1,htc.2],by simp[e1,e2,e4,e9,aJ,aI,htc.1,htc.2],by simp[e1,e2,e4,e9,aJ,aI,htc.1,htc.2],by simp,?_⟩⟩
     rw[vT _ _ _ g1,if_neg g2,List.map_append];simpa using ht'
 . have hk':k=f.az.length:=by omega
   subst hk';rw[List.take_length]at htok;simp[e1,e2,e4,e9,aJ,aI,htc.1,htc.2,htok.1 _ _ b2,eP,aS,htok.1 _ _ b4,aa.ai,z1,z2];refine .less (λc x hx=>?_) (.nC (a':=aF (cH f out)) (rS rfl λi a a' q1 q2=>?_) (.done h))
   . have n2:c≠c2:=λe=>by subst e;rw[h2]at hx;cases hx
     have n4:c≠c4:=λe=>by subst e;rw[h4]at hx;cases hx
     rw[aa.ai _ _ n4,aa.ai _ _ n2];exact htok.1 _ _ (hle _ _ hx)
   . match i with
     |0=>simp[eP,cH]at q1 q2;subst q1;subst q2;exact htok.W
     |1=>simp[eP,cH]at q1 q2;subst q1;subst q2;exact .refl _
     |2=>simp[eP,cH]at q1 q2;subst q1;subst q2;exact .refl _
     |3=>simp[eP,cH]at q1 q2;subst q1;subst q2;exact .refl _
     |4=>simp[eP,cH]at q1 q2;subst q1;subst q2;exact .refl _
     |5=>simp[eP,cH]at q1 q2;subst q1;subst q2;exact .refl _
     |i+6=>simp at q1
end Go.Proofs.YtalogdafegmilaaGreatDoor
namespace Go.Proofs.YtalogdafegmilaaGreatDoor
open Go.aN Go.Conc
set_option maxHeartbeats 1000000
set_option maxRecDepth 4000
variable{m:Mo}{σ:aa}{KF:cL->aa->Prop}
def fA(f:Fr):Nat->Nat->List Int->Option (List Int)
 |0,_,out=>if ak (cH f out) []≠[]then some out else none
 |more+1,frm,out=>(List.range' frm (f.az.length-frm)).findSome? λn=>fA f more (n+1) (out++[(n:Int)])
theorem xR(l:List lP)(out:List Int):∀e∈lz l out,e∈l:=λe he=>by unfold lz at he;obtain⟨p,hp,rfl⟩:=List.mem_map.1 he;have:=(List.mem_filter.1 hp).1;exact List.fst_mem_of_mem_zipIdx this
theorem wC{f:Fr}(hf:f.Good)(out:List Int):(cH f out).Good:=by have hl:=xQ f.az out;exact⟨⟨Nat.lt_of_le_of_lt hl hf.fits.az,hf.fits.roads,hf.fits.row,λe he=>hf.fits.marks e (xR _ _ e he)⟩,hf.fr,hf.to,hf.le,hf.dR,hf.most,Nat.le_trans hl hf.pi,λe he=>hf.Bp e (xR _ _ e he),hf.Lu⟩
namespace W
abbrev OW:List Entry:=[⟨7,.take [1,2,3,4,5,7,10,11,12,13] false (.both 0 (.both 6 (.one 8 (.one 9 (.one 14 (.done)))) (.one 8 (.one 6 (.one 9 (.one 14 (.done)))))) (.both 6 (.both 0 (.one 8 (.one 9 (.one 14 (.done)))) (.one 8 (.both 0 (.one 9 (.one 14 (.done))) (.one 9 (.take [0] true (.one 14 (.done))))))) (.one 8 (.both 0 (.one 6 (.one 9 (.one 14 (.done)))) (.one 6 (.both 0 (.one 9 (.one 14 (.done))) (.one 9 (.take [0] true (.one 14 (.done))))))))))⟩]
def xS(x:Nat)(σ σ':aa):Prop:=∀c v,σ c=some v->c≠x->σ' c=some v
abbrev Da(f:Fr)(c5 c6:Nat):AV:=.fn (.func 50) [] [.ref c5 0,.cp (aF f) 0,.ref c6 0]
theorem Gb(hs:m.solo=true){f:Fr}(hf:f.Good){c5 c6:Nat}(h56:c5≠c6):∀(more frm:Nat) (out:List Int) (sp:cM) (σ:aa) (KF:cL->aa->Prop) (v:AV),σ c5=some (.cells [v])->σ c6=some (.cells [Da f c5 c6])->frm<=f.az.length->out.length+more<=6 ->
 (∀σ',xS c5 σ σ'->(∃v',σ' c5=some (.cells [v']))->(∀w,fA f more frm out=some w->∃sp,σ' c5=some (.cells [.sl 1 (w.map int) sp]))->KF (.val (bool (fA f more frm out).isSome)) σ')->aA Tryz.prog m 50 [.sl 1 (out.map int) sp,int frm,int more,.ref c5 0,.cp (aF f) 0,.ref c6 0] σ KF:=by
 intro more
 induction more with
 | zero=>
   intro frm out sp σ KF v h5 h6 hfrm hlen h;refine aA.start lay [] OW 6 Tryz.func50 rfl rfl (by rfl) (by kernel_rfl) ?_
   simp[Tryz.f50,h5,h6];have hW:Wl [aF f,AV.sl 1 (out.map int) sp] [aF f,ints out]:=.cons (.refl _) (.cons (gK 1 _ sp) .nil);refine bs Tryz.func52 rfl rfl hW (C' hf (by omega) ?_)
   refine ab.run lay [] ?_;simp;refine aq Tryz.func51 rfl rfl (vM λb mb σ2 hn=>?_)
   have hu:v4 b 6 mb .u8 (dm (cH f out)) σ2:=by rw[hn.eq];exact⟨aa.ao _ _ _,[],(aa.ai _ _ (Ne.symm hn.ne)).trans (aa.ao _ _ _),λn a h=>by simp[iu]at h⟩
   refine ab.run lay [] ?_;simp;refine aq Tryz.func53 rfl rfl (yu (fQ nk np tB hs hn.ne) (wC hf out) hu λσ3 q1 q2=>?_)
   refine ab.run lay [] ?_;simp
   have hg:(fA f 0 frm out).isSome=!decide (ak (cH f out) []=[]):=by
    unfold fA
    by_cases g:ak (cH f out) []=[]<;>simp[g]
   rw[<-hg]
   have key:∀c x,(σ.set c5 (.cells [.sl 1 (out.map int) sp])) c=some x->σ3 c=some x:=λc x hx=>by
    have n1:c≠b:=λe=>by subst e;rw[hn.hb]at hx;cases hx
    have n2:c≠mb:=λe=>by subst e;rw[hn.zy]at hx;cases hx
    exact q2 c x (hn.le c x hx) n1 (.inl n2)
   refine .done (h σ3 (λc x hx hc=>key c x ((aa.ai _ _ hc).trans hx)) ⟨_,key c5 _ (aa.ao _ _ _)⟩ λw hw=>⟨sp,?_⟩)
   have:w=out:=by
    unfold fA at hw;split at hw
    . exact(Option.some.inj hw).symm
    . cases hw
   subst this;exact key c5 _ (aa.ao _ _ _)
 | succ more IH=>
   intro frm out sp σ KF v h5 h6 hfrm hlen h;refine aA.start lay [] OW 6 Tryz.func50 rfl rfl (by rfl) (by kernel_rfl) ?_
   simp[Tryz.f50,h5,h6];have hb0:((more:Int)+1==0)=false:=by simp;omega
   simp[aK,hb0];refine ab.loop (f.az.length-frm) (λk s=>∃env σ',s=⟨env,σ',[],.no⟩/\env 0=.sl 1 (out.map int) sp/\env 2=int (more+1)/\env 4=.cp (aF f) 0/\env 5=.ref c6 0/\env 10=int ((frm:Int)+k)/\xS c5 σ σ'/\(∃v',σ' c5=some (.cells [v']))/\fA f (more+1) frm out=(List.range' (frm+k) (f.az.length-(frm+k))).findSome? λn=>fA f more (n+1) (out++[(n:Int)])) ⟨_,_,rfl,by simp,by simp,by simp,by simp,by simp,λc v h _=>h,⟨_,h5⟩,rfl⟩ ?_
   rintro c0 k _ hk ⟨env,σ',rfl,e0,e2,e4,e5,aJ,hkeep,⟨v',h5'⟩,hgr⟩ ih
   have h6':=hkeep _ _ h6 (Ne.symm h56);have hlen6:=hf.pi;refine ab.run lay [] ?_;simp[e0,e2,e4,e5,aJ,h6'];refine aK.intro (λg1=>?_) (λg1=>?_)<;>(try simp[-Int.not_lt,-Int.not_le,-Nat.not_lt,-Nat.not_le]at g1)<;>(try simp[e0,e2,e4,e5,aJ,h6',g1])
   . have r1 : -9223372036854775808<=(frm:Int)+k+1/\(frm:Int)+k+1<=9223372036854775807:=by omega
     have r2:-9223372036854775808<=(more:Int)/\(more:Int)<=9223372036854775807:=by omega
     have hcall:∀σ3 sp' (KF':cL->aa->Prop),σ'.Le σ3->(∀v σ4,xS c5 σ σ4->(∃v',σ4 c5=some (.cells [v']))->(v=true->(fA f (more+1) frm out).isSome=true/\∀w,fA f (more+1) frm out=some w->∃sp,σ4 c5=some (.cells [.sl 1 (w.map int) sp]))->(v=false->fA f (more+1) frm out=(List.range' (frm+(k+1)) (f.az.length-(frm+(k+1)))).findSome? λn=>fA f more (n+1) (out++[(n:Int)]))->KF' (.val (bool v)) σ4)->aA Tryz.prog m 50 [.sl 1 (out.map int++[int ((frm:Int)+k)]) sp',int ((frm:Int)+k+1),int more,.ref c5 0,.cp (aF f) 0,.ref c6 0] σ3 KF':=λσ3 sp' KF' hle hK=>by
      have hsplit:fA f (more+1) frm out=(fA f more (frm+k+1) (out++[((frm+k:Nat):Int)])).or ((List.range' (frm+(k+1)) (f.az.length-(frm+(k+1)))).findSome? λn=>fA f more (n+1) (out++[(n:Int)])):=by
       rw[hgr];obtain⟨n,hn⟩:∃n,f.az.length-(frm+k)=n+1:=⟨f.az.length-(frm+k)-1,by omega⟩
       have hn':f.az.length-(frm+(k+1))=n:=by omega
       rw[hn,hn',List.range'_succ,List.findSome?_cons];cases fA f more (frm+k+1) (out++[((frm+k:Nat):Int)])<;>rfl
      have:=IH (frm+k+1) (out++[((frm+k:Nat):Int)]) sp' σ3 KF' v' (hle _ _ h5') (hle _ _ h6') (by omega) (by simp;omega) λσ4 q1 q2 q3=>hK _ σ4 (λc x hx hc=>q1 c x (hle _ _ (hkeep c x hx hc)) hc) q2 (λhv=>by
       rw[hsplit];cases hg:fA f more (frm+k+1) (out++[((frm+k:Nat):Int)])with
       |none=>rw[hg]at hv;cases hv
       |some w=>exact⟨rfl,λw' hw'=>q3 w' (by rw[hg];exact hw')⟩) (λhv=>by
       rw[hsplit];cases hg:fA f more (frm+k+1) (out++[((frm+k:Nat):Int)])with
       |none=>rfl
       |some w=>rw[hg]at hv;cases hv)
      simpa using this
     simp[e0,e2,e4,e5,aJ,h6',r1.1,r1.2,r2.1,r2.2]
     repeat' (first
               |apply And.intro
               | (refine sS lay rfl cA rfl pQ (es:=out.map int) (sp:=sp) (l:=0) (h:=out.length) (by simp[e0]) (λcap hcap=>⟨⟨⟨.i64,by simp⟩,by simpa using hcap⟩,⟨⟨.i64,by simp⟩,Nat.le_refl _⟩,rfl⟩) (by simp) λa ha=>?_
                  have hta:Tok σ' σ' a 1 (out.map int):=by
                   rcases ha with rfl|⟨e,rfl⟩
                   . have:List.take (out.length-0) (List.drop 0 (out.map int))=out.map int:=by rw[List.drop_zero,List.take_of_length_le (by simp)]
                     rw[this];exact .exact _ _ _
                   . rw[e];exact .nil _ _
                  clear ha;refine bm.go lay [] ?_;simp[h6',e0,e2,e4,e5,aJ,r1.1,r1.2,r2.1,r2.2])
               | (refine aM lay rfl rfl rfl cA rfl cA rfl pQ (by decide) (by simp;omega) (σ0:=σ') (es:=out.map int) (xs:=[int ((frm:Int)+k)]) (by simpa using hta) (.inr ⟨_,by simp;rfl⟩) λa' σ3 ht'=>?_
                  obtain⟨sp',rfl⟩:∃sp',a'=.sl 1 (out.map int++[int ((frm:Int)+k)]) sp':=by
                   rcases ht'.2 with⟨_,e⟩|e|⟨_,_,_,e,_⟩
                   . simp at e
                   . exact⟨_,e⟩
                   . exact⟨_,e⟩
                  have s36:=ht'.1 _ _ h6';refine bm.go lay [] ?_;simp[s36,e0,e2,e4,e5,aJ,r1.1,r1.2,r2.1,r2.2])
               | (refine dJ Tryz.func50 rfl rfl (by simp) (hcall σ3 sp' _ ht'.1 λv σ4 q1 q2 q3 q4=>?_)
                  refine bm.go lay [] ?_;simp[e0,e2,e4,e5,aJ,r1.1,r1.2,r2.1,r2.2];cases v with
                  |true=>refine ab.run lay [] ?_;simp[aK,e0,e2,e4,e5,aJ,r1.1,r1.2,r2.1,r2.2];obtain⟨w1,w2⟩:=q3 rfl;have hK:=h σ4 q1 q2 w2;rw[w1]at hK;exact .done hK
                  |false=>refine ab.run lay [] ?_;simp[aK,e0,e2,e4,e5,aJ,r1.1,r1.2,r2.1,r2.2];refine ih _ (by omega) ⟨_,_,rfl,by simp[e0],by simp[e2],by simp[e4],by simp[e5],by simp;omega,q1,q2,q4 rfl⟩))
   . have:f.az.length-(frm+k)=0:=by omega
     rw[this]at hgr;rw[hgr]at h;exact .done (h _ hkeep ⟨_,h5'⟩ λw hw=>by cases hw)
end W
end Go.Proofs.YtalogdafegmilaaGreatDoor
namespace Go.Proofs.YtalogdafegmilaaGreatDoor
open Go.aN Go.Conc
set_option maxHeartbeats 1000000
set_option maxRecDepth 4000
variable{m:Mo}{σ:aa}{KF:cL->aa->Prop}
open W
def ly(f:Fr):Option (List Int):=(List.range' 0 (f.az.length+1)).findSome? λmany=>fA f many 0 []
theorem Ak(hs:m.solo=true){f:Fr}{w:List Int}(hf:f.Fits)(hc:check f=0)(hw:ly f=some w)(h:KF (.val (.c9 [ints w,int 0])) σ):aA Tryz.prog m 19 [aF f] σ KF:=by
 have hg:=Fr.jw hf hc;have h6:=hg.pi;refine aA.start lay [] [] 1 Tryz.func19 rfl rfl (by rfl) (by kernel_rfl) ?_
 simp[Tryz.f19];refine aq Tryz.func49 rfl rfl (Bo hf ?_);refine ab.run lay [] ?_;simp[hc];refine cT.intro λc5 h5=>?_
 simp;refine cT.intro λc6 h6'=>?_
 obtain⟨z1,z2,h6'⟩:=aa.aO h6';simp[z1,z2,aa.ai];refine⟨by omega,?_⟩
 generalize hσb:(σ.set c5 (.cells [AV.lit (.slice none 0 0)])).set c6 (.cells [Da f c5 c6])=σb;have hle:σ.Le σb:=by subst hσb;exact aa.iU (aa.iU (aa.le_refl _) h5) (by rw[aa.ai _ _ z1];exact h6')
 have b5:σb c5=some (.cells [AV.lit (.slice none 0 0)]):=by subst hσb;simp[aa.ai,aa.ao,z1,z2]
 have b6:σb c6=some (.cells [Da f c5 c6]):=by subst hσb;simp[aa.ao]
 have hend:∀σ',xS c5 σb σ'->σ.Le σ':=λσ' hk c x hx=>hk c x (hle c x hx) (λe=>by subst e;rw[h5]at hx;cases hx)
 refine ab.loop (f.az.length+1) (λk s=>∃env σ',s=⟨env,σ',[],.no⟩/\env 5=.ref c5 0/\env 6=.ref c6 0/\env 17=int ((f.az.length:Int)+1)/\env 18=int k/\xS c5 σb σ'/\(∃v',σ' c5=some (.cells [v']))/\((List.range' k (f.az.length+1-k)).findSome? λmany=>fA f many 0 [])=some w) ⟨_,σb,by rw[<-hσb],by simp,by simp,by simp,by simp,λc v h _=>h,⟨_,b5⟩,hw⟩ ?_
 rintro c0 k _ hk ⟨env,σ',rfl,e5,e6,e17,JA,hkeep,⟨v',h5'⟩,hgr⟩ ih
 have h6'':=hkeep _ _ b6 z1;refine ab.run lay [] ?_;simp[e5,e6,e17,JA,h6''];refine aK.intro (λg1=>?_) (λg1=>?_)<;>(try simp[-Int.not_lt,-Int.not_le,-Nat.not_lt,-Nat.not_le]at g1)<;>(try simp[e5,e6,e17,JA,h6'',g1])
 . have hk6:k<=f.az.length:=by omega
   obtain⟨n,hn⟩:∃n,f.az.length+1-k=n+1:=⟨f.az.length-k,by omega⟩
   have hn':f.az.length+1-(k+1)=n:=by omega
   rw[hn,List.range'_succ,List.findSome?_cons]at hgr;have hW:Wl [AV.lit (.slice none 0 0),int 0,int k,.ref c5 0,.cp (aF f) 0,.ref c6 0] [.sl 1 (([]:List Int).map int) .any,int (0:Nat),int k,.ref c5 0,.cp (aF f) 0,.ref c6 0]:=.cons (fT 1) (.cons (.refl _) (.cons (.refl _) (.cons (.refl _) (.cons (.refl _) (.cons (.refl _) .nil)))));refine dJ Tryz.func50 rfl rfl rfl (aA.Dq (Gb hs hg (Ne.symm z1) k 0 [] .any σ' _ v' h5' h6'' (by omega) (by simp;omega) λσ3 q1 q2 q3=>?_) hW)
   have hk3:xS c5 σb σ3:=λc x hx hc=>q1 c x (hkeep c x hx hc) hc
   cases hgw:fA f k 0 []with
   | some w'=>
     rw[hgw]at hgr;have:w'=w:=by simpa using hgr
     subst this;obtain⟨sp,h5w⟩:=q3 _ hgw;refine ab.cZ 5 (b:=c5) (.sl 1 (w'.map int) sp) h5w (by simp only[Env.upd];exact e5) rfl ?_
     refine ab.yt 5 (a':=.cp (ints w') 0) (by simp;exact Je rfl rfl (gK 1 _ sp)) ?_
     refine ab.run lay [] ?_;simp[e5,e6,e17,JA,h6''];refine .less (λc x hx=>?_) (.done h)
     have n5:c≠c5:=λe=>by subst e;rw[h5]at hx;cases hx
     simp only[aa.del,n5,if_false];exact hend _ hk3 c x hx
   | none=>
     rw[hgw]at hgr;refine ab.run lay [] ?_;simp[e5,e6,e17,JA,h6''];refine⟨by omega,ih _ (by omega) ⟨_,_,rfl,by simp[e5,e6,e17,JA,h6''],by simp[e5,e6,e17,JA,h6''],by simp[e5,e6,e17,JA,h6''],by simp,hk3,q2,?_⟩⟩
     rw[hn'];simpa using hgr
 . rw[show f.az.length+1-k=0 by omega]at hgr
   cases hgr
end Go.Proofs.YtalogdafegmilaaGreatDoor
namespace Go.Proofs.YtalogdafegmilaaGreatDoor
open Go.aN Go.Conc
set_option maxHeartbeats 1000000
set_option maxRecDepth 4000
theorem km:check (eu 4 3)=0:=by decide +kernel
theorem zi:check (eu 5 3)=0:=by decide +kernel
theorem zk:check (eu 4 2)=0:=by decide +kernel
theorem Jg:ii (eu 4 3) [0,1]=0:=by decide +kernel
theorem zn:dS (eu 4 3) [2]=[13,14,15]:=by decide +kernel
theorem Db:fK (eu 5 3)=4:=by decide +kernel
theorem Gc:ak (eu 4 3) []≠[]:=by decide +kernel
theorem tA:(ak (eu 4 3) []).foldl dG none=some [0,0,1,2]/\am [0,0,1,2]=3:=by decide +kernel
theorem Gd:aL (((ak (eu 4 3) []).filter (aC 1 2)).length:Int) (ak (eu 4 3) []).length=2:=by decide +kernel
theorem Dc:ly (eu 4 2)=some [1]:=by decide +kernel
end Go.Proofs.YtalogdafegmilaaGreatDoor
namespace Go.Proofs.YtalogdafegmilaaGreatDoor
open Go.aN Go.Conc
set_option maxHeartbeats 1000000
set_option maxRecDepth 4000
variable{m:Mo}{σ:aa}{KF:cL->aa->Prop}
theorem kI(n:Nat)(most:Int):(eu n most).Fits:=by
 refine⟨?_,by simp[eu],λr hr=>?_,λe he=>?_⟩
 . simp[eu,tz];omega
 . simp[eu]at hr;rcases hr with rfl|rfl<;>simp
 . have:=List.mem_of_mem_take (show e∈tz.take n from he)
   simp[tz]at this;rcases this with rfl|rfl|rfl|rfl|rfl<;>simp
theorem ip(hs:m.solo=true)(h:KF (.val (bool true)) σ):aA Tryz.prog m 20 [] σ KF:=by
 refine aA.start lay [] [] 0 Tryz.func20 rfl rfl (by rfl) (by kernel_rfl) ?_;simp[Tryz.f20];refine aq Tryz.func54 rfl rfl (o0 (n:=4) (most:=3) (by omega) ?_);refine ab.run lay [] ?_;simp;have hW:Wl [aF (eu 4 3),.sl 1 [int 0,int 1] .exact] [aF (eu 4 3),ints [0,1]]:=.cons (.refl _) (.cons (gK 1 [int 0,int 1] .exact) .nil);refine bs Tryz.func28 rfl rfl hW (yw (kI 4 3) km ?_ (by simp) ?_)
 . exact⟨by decide +kernel,by simp⟩
 refine ab.run lay [] ?_;simp[Jg];refine aq Tryz.func54 rfl rfl (o0 (n:=4) (most:=3) (by omega) ?_);refine ab.run lay [] ?_;simp;have hW:Wl [aF (eu 4 3),.sl 1 [int 2] .exact] [aF (eu 4 3),ints [2]]:=.cons (.refl _) (.cons (gK 1 [int 2] .exact) .nil);refine bs Tryz.func55 rfl rfl hW (CV (kI 4 3) km ?_ ?_)
 . exact⟨by decide +kernel,by simp⟩
 refine ab.run lay [] ?_;simp;refine aq Tryz.func54 rfl rfl (o0 (n:=5) (most:=3) (by omega) ?_);refine ab.run lay [] ?_;simp;refine aq Tryz.func18 rfl rfl (z8 hs (kI 5 3) zi (by decide +kernel) ?_);refine ab.run lay [] ?_;simp[Db];refine aq Tryz.func54 rfl rfl (o0 (n:=4) (most:=3) (by omega) ?_);refine ab.run lay [] ?_;simp;refine aq Tryz.func21 rfl rfl (xf hs (kI 4 3) km tA.1 (by decide +kernel) ?_);refine ab.run lay [] ?_;simp[tA.2];refine aq Tryz.func54 rfl rfl (o0 (n:=4) (most:=3) (by omega) ?_);refine ab.run lay [] ?_;simp;refine aq Tryz.func27 rfl rfl (jr hs (kI 4 3) km (by decide) (by decide) Gc (by decide +kernel) ?_);refine ab.run lay [] ?_;simp[Gd];refine aq Tryz.func54 rfl rfl (o0 (n:=4) (most:=2) (by omega) ?_)
 refine ab.run lay [] ?_;simp;refine aq Tryz.func19 rfl rfl (Ak hs (kI 4 2) zk Dc ?_);refine ab.run lay [] ?_;simp;refine bs Tryz.func24 rfl rfl (args':=[ints (dS (eu 4 3) [2]),ints [13,14,15]]) (.cons (.refl _) (.cons (gK 1 [int 13,int 14,int 15] .exact) .nil)) (oi (by decide +kernel) (by decide +kernel) ?_);refine ab.run lay [] ?_;simp[zn];refine bs Tryz.func24 rfl rfl (args':=[ints [0,0,1,2],ints [0,0,1,2]]) (.cons (.refl _) (.cons (gK 1 [int 0,int 0,int 1,int 2] .exact) .nil)) (oi (by simp) (by simp) ?_);refine ab.run lay [] ?_;simp;refine bs Tryz.func24 rfl rfl (args':=[ints [1],ints [1]]) (.cons (.refl _) (.cons (gK 1 [int 1] .exact) .nil)) (oi (by simp) (by simp) ?_);refine ab.run lay [] ?_;simp;exact .done h
end Go.Proofs.YtalogdafegmilaaGreatDoor
namespace Go.Proofs.YtalogdafegmilaaGreatDoor
open Go.aN Go.Conc
set_option maxHeartbeats 1000000
set_option maxRecDepth 4000
variable{m:Mo}{σ:aa}{KF:cL->aa->Prop}
def bZ(c:Nat)(nums:List Int)(k:Nat)(σ:aa):Prop:=∃(n:Nat) (s:Int),n<=k/\σ c=some (.cells [ints nums,int n,.lit (.int .u64 s)])
theorem kv{nums:List Int}(h:∀c σ',σ c=none->bZ c nums 0 σ'->(∀x,x≠c->σ' x=σ x)->KF (.val (.ref c 0)) σ'):aA Tryz.prog m 13 [ints nums] σ KF:=by
 refine aA.start lay [5] [] 1 Tryz.func13 rfl rfl (by rfl) (by kernel_rfl) ?_;simp[Tryz.f13];refine cT.intro λc hc=>?_
 simp;exact .done (h c _ hc ⟨0,_,Nat.le_refl _,aa.ao _ _ _⟩ λx hx=>aa.ai _ _ hx)
end Go.Proofs.YtalogdafegmilaaGreatDoor
namespace Go.Proofs.YtalogdafegmilaaGreatDoor
open Go.aN Go.Conc
set_option maxHeartbeats 1000000
set_option maxRecDepth 4000
variable{m:Mo}{σ:aa}{KF:cL->aa->Prop}
theorem KR(a b:Int):0<=IntKind.u64.wrap (((BitVec.ofInt 64 a ^^^ BitVec.ofInt 64 b).toNat:Nat):Int)/\IntKind.u64.wrap (((BitVec.ofInt 64 a ^^^ BitVec.ofInt 64 b).toNat:Nat):Int)<18446744073709551616:=by generalize (((BitVec.ofInt 64 a ^^^ BitVec.ofInt 64 b).toNat:Nat):Int)=x;simp only[IntKind.wrap,IntKind.signed,IntKind.bits];simp;omega
theorem Jh{x:Int}(h:0<=x/\x<18446744073709551616):0<=x.fdiv (2 ^ min 11 IntKind.u64.bits)/\x.fdiv (2 ^ min 11 IntKind.u64.bits)<9007199254740992:=by
 have e:(2:Int) ^ min 11 IntKind.u64.bits=2048:=by decide
 rw[e,Int.fdiv_eq_ediv_of_nonneg _ (by omega)];omega
theorem KS{c k:Nat}{nums:List Int}(hk:k<1000000)(hn:nums.length<1152921504606846976)(hb:bZ c nums k σ)(h:∀(x:Int) σ',0<=x/\x<9007199254740992->bZ c nums (k+1) σ'->(∀y,y≠c->σ' y=σ y)->KF (.val (.lit (.int .u64 x))) σ'):aA Tryz.prog m 46 [.ref c 0] σ KF:=by
 obtain⟨n,s,hnk,hc⟩:=hb;have r1:-9223372036854775808<=(n:Int)+1/\(n:Int)+1<=9223372036854775807:=by omega
 obtain⟨fm,ibin_mulW⟩:∃f:Int->Int->Int,∀a b,pe .mul .u64 a b=some (.int .u64 (f a b)):=⟨_,λ_ _=>rfl⟩;obtain⟨fx,ibin_xorW,hxb⟩:∃f:Int->Int->Int,(∀a b,pe .xor .u64 a b=some (.int .u64 (f a b)))/\∀a b,0<=f a b/\f a b<18446744073709551616:=⟨_,λ_ _=>rfl,KR⟩;refine aA.Mi lay [] Qb 27 1 Tryz.func46 rfl rfl (by rfl) (by kernel_rfl) ?_;simp[Tryz.f46,hc,r1.1,r1.2,aS,ibin_mulW];refine ab.D9 (λe σ1=>e 0=.ref c 0/\(∃z,e 3=.lit (.int .u64 z))/\σ1 c=some (.cells [ints nums,int ((n:Int)+1),.lit (.int .u64 s)])/\∀y,y≠c->σ1 y=σ y) (by simp[aa.ai];intro y hy;exact aa.ai _ _ hy) ?_;clear hc;rintro env σ1 ⟨h0,⟨z,h3⟩,hc,hs1⟩;refine ab.runN lay [] 2 ?_;simp[h0,h3,hc];refine ab.runN lay [] 2 ?_;simp[h0,h3,hc];refine aK.intro (λg1=>?_) (λg1=>?_)<;>simp[-Int.not_lt,-Int.not_le,-Nat.not_lt,-Nat.not_le]at g1
 . have g2:(n:Int)<nums.length:=by omega
   have g3:n<nums.length:=by omega
   have r2:-9223372036854775808<=(n:Int)/\(n:Int)<=9223372036854775807:=by omega
   simp[h0,h3,hc,g2,g3,r2.1,r2.2,ibin_mulW,ibin_xorW];refine ab.D9 (λe σ1=>e 0=.ref c 0/\(∃z,e 3=.lit (.int .u64 z))/\σ1 c=some (.cells [ints nums,int ((n:Int)+1),.lit (.int .u64 s)])/\∀y,y≠c->σ1 y=σ y) (by simp[h0,h3,hc];exact hs1) ?_;clear h0 h3 hc hs1;rintro env σ1 ⟨h0,⟨z,h3⟩,hc,hs1⟩;refine ab.run lay [] ?_;simp[h0,h3,hc,ibin_mulW,ibin_xorW,aS];refine ab.D9 (λe σ1=>e 0=.ref c 0/\(∃s,σ1 c=some (.cells [ints nums,int ((n:Int)+1),.lit (.int .u64 s)]))/\∀y,y≠c->σ1 y=σ y) (by refine⟨by simp[h0],⟨_,by simp;rfl⟩,λy hy=>?_⟩;simp[aa.ai,hy,hs1 y hy]) ?_;clear h0 h3 hc hs1;rintro env σ1 ⟨h0,⟨z,hc⟩,hs1⟩;refine ab.run lay [] ?_;simp[h0,hc,ibin_mulW,ibin_xorW];refine .done (h _ σ1 (Jh (hxb _ _)) ⟨n+1,z,by omega,by simpa using hc⟩ hs1)
 . simp[h0,h3,hc]
   refine ab.run lay [] ?_;simp[h0,h3,hc,ibin_mulW,ibin_xorW,aS];refine ab.D9 (λe σ1=>e 0=.ref c 0/\(∃s,σ1 c=some (.cells [ints nums,int ((n:Int)+1),.lit (.int .u64 s)]))/\∀y,y≠c->σ1 y=σ y) (by refine⟨by simp[h0],⟨_,by simp;rfl⟩,λy hy=>?_⟩;simp[aa.ai,hy,hs1 y hy]) ?_;clear h0 h3 hc hs1;rintro env σ1 ⟨h0,⟨z,hc⟩,hs1⟩;refine ab.run lay [] ?_;simp[h0,hc,ibin_mulW,ibin_xorW];refine .done (h _ σ1 (Jh (hxb _ _)) ⟨n+1,z,by omega,by simpa using hc⟩ hs1)
end Go.Proofs.YtalogdafegmilaaGreatDoor
namespace Go.Proofs.YtalogdafegmilaaGreatDoor
open Go.aN Go.Conc
set_option maxHeartbeats 1000000
set_option maxRecDepth 4000
variable{m:Mo}{σ:aa}{KF:cL->aa->Prop}
def pS(c:Nat)(nums:List Int)(k:Nat)(σ σ':aa):Prop:=bZ c nums k σ'/\∀y,y≠c->σ' y=σ y
theorem pS.trans{c:Nat}{nums:List Int}{k k':Nat}{σ σ' σ'':aa}(h:pS c nums k σ σ')(h':pS c nums k' σ' σ''):pS c nums k' σ σ'':=⟨h'.1,λy hy=>(h'.2 y hy).trans (h.2 y hy)⟩
theorem bZ.mono{c:Nat}{nums:List Int}{k k':Nat}(h:bZ c nums k σ)(hk:k<=k'):bZ c nums k' σ:=by obtain⟨n,s,h1,h2⟩:=h;exact⟨n,s,by omega,h2⟩
theorem Ji{n:Int}(h:0<=n/\n<18446744073709551616):IntKind.u64.wrap n=n:=by simp only[IntKind.wrap,IntKind.signed,IntKind.bits];simp;omega
theorem Mr{n:Int}(h:-9223372036854775808<=n/\n<=9223372036854775807):IntKind.i64.wrap n=n:=by simp[IntKind.wrap,IntKind.signed,IntKind.bits];omega
section
variable{c k:Nat}{nums:List Int}
theorem ia{n:Int}(hk:k<1000000)(hn:nums.length<1152921504606846976)(hnn:-4611686018427387904<=n/\n<4611686018427387904)(hb:bZ c nums k σ)(h:∀(x:Int) σ',0<=x/\(x<=n\/x=0)->pS c nums (k+1) σ σ'->KF (.val (int x)) σ'):aA Tryz.prog m 16 [.ref c 0,int n] σ KF:=by
 refine aA.start lay [] [] 2 Tryz.func16 rfl rfl (by rfl) (by kernel_rfl) ?_;simp[Tryz.f16];refine aq Tryz.func46 rfl rfl (KS hk hn hb λx σ' hx h1 h2=>?_);refine ab.run lay [] ?_;simp;refine aK.intro (λg1=>?_) (λg1=>?_)<;>simp[-Int.not_lt,-Int.not_le]at g1
 . simp
   exact .done (h 0 σ' ⟨by omega,.inr rfl⟩ ⟨h1,h2⟩)
 . have eW:IntKind.u64.wrap n=n:=Ji (by omega)
   have e1:pe .add .u64 n 1=some (.int .u64 (n+1)):=by show some (Value.int .u64 (IntKind.u64.wrap (n+1)))=_;rw[Ji (by omega)]
   obtain⟨r,hr,e2⟩:∃r:Int,(0<=r/\r<=n)/\pe .rem .u64 x (n+1)=some (.int .u64 r):=by
    refine⟨x.tmod (n+1),⟨Int.tmod_nonneg _ hx.1,?_⟩,by simp[pe];omega⟩;have:=Int.tmod_lt_of_pos x (show 0<n+1 by omega);omega
   have eR:IntKind.i64.wrap r=r:=Mr (by omega);simp[eW,e1,e2,eR];exact .done (h r σ' ⟨hr.1,.inl hr.2⟩ ⟨h1,h2⟩)
theorem jQ{lo hi:Int}(hk:k<1000000)(hn:nums.length<1152921504606846976)(hlo:-1000000000<=lo/\lo<=1000000000)(hhi:-1000000000<=hi/\hi<=1000000000)(hb:bZ c nums k σ)(h:∀(x:Int) σ',lo<=x/\(x<=hi\/x=lo)->pS c nums (k+1) σ σ'->KF (.val (int x)) σ'):aA Tryz.prog m 17 [.ref c 0,int lo,int hi] σ KF:=by
 have r1:-9223372036854775808<=hi-lo/\hi-lo<=9223372036854775807:=by omega
 refine aA.start lay [] [] 3 Tryz.func17 rfl rfl (by rfl) (by kernel_rfl) ?_;simp[Tryz.f17,r1.1,r1.2];refine aq Tryz.func16 rfl rfl (ia hk hn ⟨by omega,by omega⟩ hb λx σ' hx hd=>?_);have r2:-9223372036854775808<=lo+x/\lo+x<=9223372036854775807:=by omega
 refine ab.run lay [] ?_;simp[r2.1,r2.2];exact .done (h _ σ' ⟨by omega,by omega⟩ hd)
theorem o6{l:List Int}{sp:cM}(hk:k<1000000)(hn:nums.length<1152921504606846976)(hl:0<l.length/\l.length<1000000)(hb:bZ c nums k σ)(h:∀(x:Int) σ',x∈l->pS c nums (k+1) σ σ'->KF (.val (int x)) σ'):aA Tryz.prog m 43 [.ref c 0,.sl 1 (l.map int) sp] σ KF:=by
 have r1:-9223372036854775808<=(l.length:Int)-1/\(l.length:Int)-1<=9223372036854775807:=by omega
 refine aA.start lay [] [] 2 Tryz.func43 rfl rfl (by rfl) (by kernel_rfl) ?_;simp[Tryz.f43,r1.1,r1.2];refine aq Tryz.func16 rfl rfl (ia hk hn ⟨by omega,by omega⟩ hb λx σ' hx hd=>?_);have g1:x.toNat<l.length:=by omega
 have g2:x<l.length:=by omega
 have e:(x.toNat:Int)=x:=by omega
 refine ab.run lay [] ?_;simp[hx.1,g1,g2];exact .done (h _ σ' (List.getElem_mem g1) hd)
theorem Ef{n:Int}(hk:k<1000000)(hn:nums.length<1152921504606846976)(hnn:0<=n/\n<1000000000)(hb:bZ c nums k σ)(h:∀(x:Bool) σ',pS c nums (k+1) σ σ'->KF (.val (bool x)) σ'):aA Tryz.prog m 39 [.ref c 0,int n] σ KF:=by
 have r1:-9223372036854775808<=n-1/\n-1<=9223372036854775807:=by omega
 refine aA.start lay [] [] 2 Tryz.func39 rfl rfl (by rfl) (by kernel_rfl) ?_;simp[Tryz.f39,r1.1,r1.2];refine aq Tryz.func16 rfl rfl (ia hk hn ⟨by omega,by omega⟩ hb λx σ' hx hd=>?_);refine ab.run lay [] ?_;simp;exact .done (h _ σ' hd)
end
end Go.Proofs.YtalogdafegmilaaGreatDoor
namespace Go.Proofs.YtalogdafegmilaaGreatDoor
open Go.aN Go.Conc
set_option maxHeartbeats 1000000
set_option maxRecDepth 4000
variable{m:Mo}{σ:aa}{KF:cL->aa->Prop}
structure vU(ew:Int)(e:lP):Prop where
 hour:0<=e.hour/\e.hour<=40
 place:0<=e.place/\e.place<ew
 cS:0<=e.cS/\e.cS<=1
 marks:e.marks.Sublist [0,1,2]
 aX:14<=e.aX/\e.aX<=16
 iS:0<=e.iS/\e.iS<=2
theorem kJ{l:List Int}(h:l.Sublist [0,1,2]):rv none l=0/\l.length<=3:=by cases h<;>(rename_i h;cases h<;>(rename_i h;cases h<;>(rename_i h;cases h;decide)))
theorem vU.check{ew:Int}{e:lP}(h:vU ew e):cI ew e=0:=by
 obtain⟨h1,h2,h3,h4,h5,h6⟩:=h;have h4:=(kJ h4).1;unfold cI dv;have e1:(0<=e.hour):=h1.1;have e2:e.hour<=72:=by omega
 have e3:e.place<=ew-1:=by omega
 have e4:e.cS<=5:=by omega
 have e5:0<=e.aX:=by omega
 have e6:e.aX<=30:=by omega
 simp[h1.1,e2,h2.1,e3,h3.1,e4,h4,e5,e6,h6.1,h6.2]
theorem rD{σ0 σ σ2:aa}{a:AV}{kk:Nat}{es:List AV}{c:Nat}(h:Tok σ0 σ a kk es)(h0:σ0 c=none)(hc:∃l,σ c=some (.cells l))(hs:∀y,y≠c->σ2 y=σ y):Tok σ0 σ2 a kk es:=by
 refine⟨λy x hy=>?_,?_⟩
 . have:y≠c:=λe=>by subst e;rw[h0]at hy;cases hy
   rw[hs y this];exact h.1 y x hy
 rcases h.2 with q|q|⟨b,e,q1,q2,q3⟩
 . exact .inl q
 . exact .inr (.inl q)
 . refine .inr (.inr ⟨b,e,q1,q2,?_⟩)
   have:b≠c:=λe=>by subst e;obtain⟨l,hl⟩:=hc;rw[hl]at q3;cases q3
   rw[hs b this];exact q3
section
variable{c k:Nat}{nums:List Int}
theorem nc{ew:Int}(hk:k+11<1000000)(hn:nums.length<1152921504606846976)(hsp:1<=ew/\ew<=1000)(hb:bZ c nums k σ)(h:∀(e:lP) σ',vU ew e->pS c nums (k+11) σ σ'->KF (.val (dt e)) σ'):aA Tryz.prog m 38 [.ref c 0,int ew] σ KF:=by
 have r1:-9223372036854775808<=ew-1/\ew-1<=9223372036854775807:=by omega
 obtain⟨n0,s0,_,hc0⟩:=id hb;refine aA.start lay [] [] 2 Tryz.func38 rfl rfl (by rfl) (by kernel_rfl) ?_
 simp[Tryz.f38];refine cT.intro λc4 h4=>?_
 have n4:c≠c4:=λe=>by subst e;rw[hc0]at h4;cases h4
 have hb1:∀x,bZ c nums k (σ.set c4 x):=λx=>⟨n0,s0,by assumption,by rw[aa.ai _ _ n4];exact hc0⟩
 simp;refine aq Tryz.func16 rfl rfl (ia (by omega) hn ⟨by omega,by omega⟩ (hb1 _) λx1 σ1 hx1 hd1=>?_)
 refine ab.run lay [] ?_;simp;refine aq Tryz.func16 rfl rfl (ia (by omega) hn ⟨by omega,by omega⟩ hd1.1 λx2 σ2 hx2 hd2=>?_)
 refine ab.run lay [] ?_;simp;refine aq Tryz.func16 rfl rfl (ia (by omega) hn ⟨by omega,by omega⟩ hd2.1 λx3 σ3 hx3 hd3=>?_)
 refine ab.run lay [] ?_;simp;refine aq Tryz.func43 rfl rfl (o6 (l:=[x1,x2,x3]) (by omega) hn ⟨by simp,by simp⟩ hd3.1 λhr σ4 hx4 hd4=>?_)
 refine ab.run lay [] ?_;simp[r1.1,r1.2];refine aq Tryz.func16 rfl rfl (ia (by omega) hn ⟨by omega,by omega⟩ hd4.1 λpl σ5 hx5 hd5=>?_)
 refine ab.run lay [] ?_;simp;refine aq Tryz.func43 rfl rfl (o6 (l:=[0,0,0,1]) (by omega) hn ⟨by simp,by simp⟩ hd5.1 λco σ6 hx6 hd6=>?_)
 refine ab.run lay [] ?_;simp;refine aq Tryz.func43 rfl rfl (o6 (l:=[14,14,15,15,16]) (by omega) hn ⟨by simp,by simp⟩ hd6.1 λhe σ7 hx7 hd7=>?_)
 refine ab.run lay [] ?_;simp;refine aq Tryz.func43 rfl rfl (o6 (l:=[0,0,1,2]) (by omega) hn ⟨by simp,by simp⟩ hd7.1 λsh σ8 hx8 hd8=>?_)
 refine ab.run lay [] ?_;simp;refine cT.intro λc5 h5=>?_
 simp;have hd08:pS c nums (k+8) (σ.set c4 (.cells [int 0,int 0,int 0,.lit (.slice none 0 0),int 0,int 0])) σ8:=hd1.trans (hd2.trans (hd3.trans (hd4.trans (hd5.trans (hd6.trans (hd7.trans hd8))))));have n45:c4≠c:=Ne.symm n4;have h84:σ8 c4=some (.cells [int 0,int 0,int 0,.lit (.slice none 0 0),int 0,int 0]):=by rw[hd08.2 c4 n45,aa.ao]
 have n5:c5≠c:=λe=>by subst e;obtain⟨_,_,_,q⟩:=hd8.1;rw[q]at h5;cases h5
 have n54:c5≠c4:=λe=>by subst e;rw[h84]at h5;cases h5
 have h85:σ c5=none:=by rw[hd08.2 c5 n5,aa.ai _ _ n54]at h5;exact h5
 have hr0:0<=hr/\hr<=40:=by simp at hx4;omega
 have co0:0<=co/\co<=1:=by simp at hx6;omega
 have he0:14<=he/\he<=16:=by simp at hx7;omega
 have sh0:0<=sh/\sh<=2:=by simp at hx8;omega
 have pl0:0<=pl/\pl<ew:=by omega
 refine ab.loop 3 (λj s=>∃env σ' a mk,s=⟨env,σ',[],.no⟩/\env 0=.ref c 0/\env 4=.ref c4 0/\env 5=.ref c5 0/\env 6=int j/\bZ c nums (k+8+j) σ'/\σ' c4=some (.cells [int 0,int 0,int 0,.lit (.slice none 0 0),int 0,int 0])/\σ' c5=some (.cells [int hr,int pl,int co,a,int he,int sh])/\Tok (σ.del c) σ' a 1 (mk.map int)/\mk.Sublist ((List.range j).map λi:Nat=>(i:Int))) ⟨_,_,.lit (.slice none 0 0),[],rfl,by simp,by simp,by simp,by simp,?_,?_,?_,?_,by simp⟩ ?_
 . obtain⟨n,z,h1,h2⟩:=hd08.1
   exact⟨n,z,by omega,by rw[aa.ai _ _ (Ne.symm n5)];exact h2⟩
 . rw[aa.ai _ _ (Ne.symm n54)];exact h84
 . simp
 . refine⟨λy x hy=>?_,.inl ⟨rfl,rfl⟩⟩
   have y1:y≠c:=λe=>by subst e;simp[aa.del]at hy
   have y0:σ y=some x:=by simpa[aa.del,y1]using hy
   have y5:y≠c5:=λe=>by subst e;rw[h85]at y0;cases y0
   have y4:y≠c4:=λe=>by subst e;rw[h4]at y0;cases y0
   rw[aa.ai _ _ y5,hd08.2 y y1,aa.ai _ _ y4];exact y0
 rintro c0 j _ hj ⟨env,σ',a,mk,rfl,e0,e4,e5,e6,hbj,q4,q5,htok,hmk⟩ ih
 have hml:mk.length<=j:=by have:=hmk.length_le;rwa [List.length_map,List.length_range]at this
 rcases Nat.lt_or_ge j 3 with g1|g1
 . have g1':(j:Int)<3:=by omega
   refine ab.run lay [] ?_;simp[e0,e4,e5,e6,g1'];refine aq Tryz.func39 rfl rfl (Ef (by omega) hn ⟨by omega,by omega⟩ hbj λx σ2 hd=>?_)
   have hbc:∃l,σ' c=some (.cells l):=by obtain⟨_,_,_,q⟩:=hbj;exact⟨_,q⟩
   have htok2:Tok (σ.del c) σ2 a 1 (mk.map int):=rD htok (by simp[aa.del]) hbc hd.2
   have htc:=htok2.cells;have s4:σ2 c4=some (.cells [int 0,int 0,int 0,.lit (.slice none 0 0),int 0,int 0]):=by rw[hd.2 c4 n45];exact q4
   have s5:σ2 c5=some (.cells [int hr,int pl,int co,a,int he,int sh]):=by rw[hd.2 c5 n5];exact q5
   have hrs:(List.range (j+1)).map (λi:Nat=>(i:Int))=(List.range j).map (λi:Nat=>(i:Int))++[(j:Int)]:=by rw[List.range_succ,List.map_append];rfl
   have f1:-9223372036854775808<=(j:Int)+1/\(j:Int)+1<=9223372036854775807:=by omega
   refine ab.run lay [] ?_;simp[e0,e4,e5,e6,s5,htc.1,htc.2,f1.1,f1.2];cases x with
   | false=>
     simp[e0,e4,e5,e6,s5,htc.1,htc.2,f1.1,f1.2];refine ih _ g1 ⟨_,_,a,mk,rfl,by simp[e0,e4,e5,e6,s5,htc.1,htc.2,f1.1,f1.2],by simp[e0,e4,e5,e6,s5,htc.1,htc.2,f1.1,f1.2],by simp[e0,e4,e5,e6,s5,htc.1,htc.2,f1.1,f1.2],by simp,hd.1,s4,s5,htok2,?_⟩
     rw[hrs];exact hmk.trans (List.sublist_append_left _ _)
   | true=>
     simp[e0,e4,e5,e6,s5,htc.1,htc.2,f1.1,f1.2];refine aM lay rfl rfl rfl cA rfl cA rfl pQ (by decide) (by simp;omega) (σ0:=σ2.off a) (es:=mk.map int) (xs:=[int j]) (by simpa using htok2.here.1) (.inr ⟨_,rfl⟩) λa' σ3 ht'=>?_
     have hta:=ht'.cells;have nta:∀y l,σ2 y=some (.cells l)->bJ a≠some y:=λy l hy e=>by obtain⟨_,_,q⟩:=htok2.aW e;rw[hy]at q;cases q
     have k3:∀y l,σ2 y=some (.cells l)->σ3 y=some (.cells l):=λy l hy=>ht'.1 _ _ (by rw[aa.fU (nta y l hy)];exact hy)
     have t5:=k3 _ _ s5;have t4:=k3 _ _ s4;refine ab.run lay [] ?_;simp[e0,e4,e5,e6,s5,htc.1,htc.2,f1.1,f1.2,t5,hta.1,hta.2,aS];obtain⟨nb,zb,hb1,hb2⟩:=hd.1;have tc:=k3 _ _ hb2
     have htb:Tok (σ.del c) σ3 a' 1 ((mk++[(j:Int)]).map int):=by have:=ht'.base htok2.here.2;simpa using this
     refine ih _ g1 ⟨_,_,a',mk++[(j:Int)],rfl,by simp[e0,e4,e5,e6,s5,htc.1,htc.2,f1.1,f1.2],by simp[e0,e4,e5,e6,s5,htc.1,htc.2,f1.1,f1.2],by simp[e0,e4,e5,e6,s5,htc.1,htc.2,f1.1,f1.2],by simp,⟨nb,zb,hb1,by rw[aa.ai _ _ (Ne.symm n5)];exact tc⟩,by rw[aa.ai _ _ (Ne.symm n54)];exact t4,aa.ao _ _ _,htb.beside (by simp[aa.del,n5,h85]) (λe=>by obtain⟨_,_,q⟩:=htb.aW e;rw[t5]at q;cases q),?_⟩
     rw[hrs];exact hmk.append (List.Sublist.refl _)
 . have:j=3:=by omega
   subst this;have htc:=htok.cells;refine ab.run lay [] ?_;simp[e0,e4,e5,e6,q4,q5,htc.1,htc.2,aS];obtain⟨nb,zb,hb1,hb2⟩:=hbj;have hmk':mk.Sublist [0,1,2]:=hmk;refine .nC (a':=dt ⟨hr,pl,co,mk,he,sh⟩) (rS rfl λi x y x1 x2=>?_) (.less (σ':=σ.set c (.cells [ints nums,int nb,.lit (.int .u64 zb)])) (λy x hy=>?_) (.done (h ⟨hr,pl,co,mk,he,sh⟩ _ ⟨hr0,pl0,co0,hmk',he0,sh0⟩ ⟨⟨nb,zb,by omega,aa.ao _ _ _⟩,λy hy=>aa.ai _ _ hy⟩)))
   . match i with
     |0=>simp at x1 x2;subst x1;subst x2;exact .refl _
     |1=>simp at x1 x2;subst x1;subst x2;exact .refl _
     |2=>simp at x1 x2;subst x1;subst x2;exact .refl _
     |3=>simp at x1 x2;subst x1;subst x2;exact htok.W
     |4=>simp at x1 x2;subst x1;subst x2;exact .refl _
     |5=>simp at x1 x2;subst x1;subst x2;exact .refl _
     |i+6=>simp at x1
   . by_cases y1:y=c
     . subst y1
       rw[aa.ao]at hy;rw[aa.ai _ _ n4,hb2];exact hy
     . rw[aa.ai _ _ y1]at hy
       have y4:y≠c4:=λe=>by subst e;rw[h4]at hy;cases hy
       rw[aa.ai _ _ y4];exact htok.1 y x (by simpa[aa.del,y1]using hy)
end
end Go.Proofs.YtalogdafegmilaaGreatDoor
