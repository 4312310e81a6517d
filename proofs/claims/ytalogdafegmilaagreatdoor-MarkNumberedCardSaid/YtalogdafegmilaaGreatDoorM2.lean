/- Part 2 of the proof. -/
import Derived.Test.YtalogdafegmilaaGreatDoorM1
set_option linter.all false
namespace Go.Proofs.YtalogdafegmilaaGreatDoor
open Go.aN
abbrev Ud:List Entry:=[⟨3,.take [0,2,3,4,5] false (.both 1 (.both 6 (.take [9] false (.one 7 (.one 8 (.done)))) (.one 7 (.one 6 (.take [9] false (.one 8 (.done)))))) (.one 7 (.one 1 (.one 6 (.take [9] false (.one 8 (.done)))))))⟩,⟨7,.take [0,1,2,3,4,5,6,7,8,9,10,11] true (.one 12 (.done))⟩,⟨19,.take [0,1,2,3,4,5,6,7,8] false (.one 9 (.take [10,11,12,13,14] true (.done)))⟩]
abbrev T8:List Entry:=[⟨1,.take [0,1,3,4,5,6,7,8] false (.both 2 (.both 9 (.one 10 (.one 11 (.done))) (.one 10 (.one 9 (.one 11 (.done))))) (.one 10 (.one 2 (.one 9 (.one 11 (.done))))))⟩,⟨5,.take [0,2,3,4,5,6,10] false (.both 1 (.one 7 (.one 8 (.one 9 (.one 11 (.done))))) (.one 7 (.both 1 (.one 8 (.one 9 (.one 11 (.done)))) (.one 8 (.take [1] true (.one 9 (.one 11 (.done))))))))⟩]
end Go.Proofs.YtalogdafegmilaaGreatDoor
namespace Go.Proofs.YtalogdafegmilaaGreatDoor
open Go.aN Go.Conc
set_option maxHeartbeats 1000000
variable{m:Mo}{σ:aa}{KF:cL->aa->Prop}
theorem nP{l:List Int}(hl:l.length<=1000000000)(h:∀a σ',bG σ σ' a 1 (l.map int)->KF (.val a) σ'):aA Tryz.prog m 75 [ints l] σ KF:=by
 refine aA.start lay [] [] 1 Tryz.func75 rfl rfl (by rfl) (by kernel_rfl) ?_;simp[Tryz.f75];refine gf lay rfl rfl rfl cA rfl cA rfl pQ (by decide) (by simp;omega) (σ0:=σ) (es:=[]) (xs:=l.map int) (.empty σ 1) (.inl (.inr ⟨_,rfl⟩)) (by simp) λa' σ' ht=>?_
 refine ab.run lay [] ?_;simp;exact .done (h _ _ (by simpa using ht))
theorem Tu{l:List Int}(hl:l.length<=1000000000)(h:KF (.val (ints l)) σ):aA Tryz.prog m 75 [ints l] σ KF:=(nP hl λa σ' ht=>ht.thaw h).thaw
end Go.Proofs.YtalogdafegmilaaGreatDoor
namespace Go.Proofs.YtalogdafegmilaaGreatDoor
open Go.aN Go.Conc
set_option maxHeartbeats 2000000
set_option maxRecDepth 4000
theorem uJ{f:Fr}(hf:f.Good)(e:lP):bO f e≠[]:=by
 unfold bO gN;have:=hf.le;by_cases h0:e.iS=0
 . simp[h0]
 . have hp:(f.jn-f.bM+1).toNat=(f.jn-f.bM).toNat+1:=by omega
   rw[if_pos h0,hp,List.range_succ_eq_map];split<;>simp
end Go.Proofs.YtalogdafegmilaaGreatDoor
namespace Go.Proofs.YtalogdafegmilaaGreatDoor
open Go.aN Go.Conc
set_option maxHeartbeats 1000000
set_option maxRecDepth 4000
section
variable{k:Int->Int}
end
theorem B8{f:Fr}(hg:f.Good)(n:Int):ii f [n]=0:=by
 have e:aT f [n]=[n]:=by simp[aT,eH,eI]
 refine nR.2 ?_;rw[e];refine⟨by simp[dF],?_,rfl⟩;unfold cG;simp only[decide_eq_false_iff_not];obtain⟨x,hx⟩:=List.exists_mem_of_ne_nil _ (uJ hg (bT f n));exact List.ne_nil_of_mem ((qN (by simp)).2 (λj hj=>by simp at hj;subst hj;exact hx))
theorem dV(f:Fr)(begun:List Int):∀(fuel:Nat) (cd:List Int) (many:Int) (hs:List Int),begun.length<=cd.length->cV f begun fuel cd many hs=cV f [] fuel cd many hs
 |0,_,_,_,_=>rfl
 | fuel+1,cd,many,hs,h=>by
   unfold cV;congr 1;funext k;have e1:¬(cd.length<begun.length/\begun.getD cd.length 0≠(k:Int)):=by omega
   have e2:¬(cd.length<([]:List Int).length/\([]:List Int).getD cd.length 0≠(k:Int)):=by simp
   rw[if_neg e1,if_neg e2];split
   . exact dV f begun fuel _ _ _ (by simp;omega)
   . rfl
theorem pT{f:Fr}(hg:f.Good)(h2:2<=f.az.length):ak f []=ak f [0,0]++ak f [0,1]:=by
 obtain⟨n,hn⟩:∃n,f.az.length=n+2:=⟨f.az.length-2,by omega⟩;have hm:=hg.most;have e1:(min ((0:Int)+1) f.most).toNat=1:=by omega
 unfold ak;rw[hn];unfold cV;rw[e1];simp only[List.range_succ,List.range_zero,List.nil_append,List.flatMap_cons,List.flatMap_nil,List.append_nil];simp;by_cases c0:gO f (bq 0 0)=true
 . simp only[c0,if_true]
   unfold cV;have e2:(min (max (0:Int) 1+1) f.most).toNat=1\/(min (max (0:Int) 1+1) f.most).toNat=2:=by omega
   rcases e2 with e2|e2
   . rw[e2]
     simp only[List.range_succ,List.range_zero,List.nil_append,List.flatMap_cons,List.flatMap_nil,List.append_nil];simp;rw[dV f [0,0] n [0,0] _ _ (by simp)]
   . rw[e2]
     simp only[List.range_succ,List.range_zero,List.nil_append,List.flatMap_cons,List.flatMap_nil,List.append_nil];simp;rw[dV f [0,0] n [0,0] _ _ (by simp),dV f [0,1] n [0,1] _ _ (by simp)]
 . simp[c0]
theorem pU{f:Fr}(hg:f.Good)(h2:2<=f.az.length):fK f=((ak f []).length:Int):=by
 unfold fK;rw[if_neg (by omega),pT hg h2,List.length_append];omega
theorem nT:∀(i:Nat),∀l∈aU i,∀k:Nat,(k:Int)<am l->au l k≠[]
 |0,l,h,k,hk=>by simp[aU]at h;subst h;rw[show am []=0 from rfl]at hk;omega
 | i + 1,l,h,k,hk=>by
   unfold aU at h;obtain⟨p,hp,hq⟩:=List.mem_flatMap.1 h;unfold aV at hq;obtain⟨k',hk1,rfl⟩:=List.mem_map.1 hq;have hk1:=List.mem_range.1 hk1;have:=bP p;rw[bn]at hk;rw[bo];by_cases e:k'=k
   . subst e;simp
   . have:=nT i p hp k (by omega)
     rw[if_neg (by omega),List.append_nil];exact this
end Go.Proofs.YtalogdafegmilaaGreatDoor
namespace Go.Proofs.YtalogdafegmilaaGreatDoor
open Go.aN Go.Conc
set_option maxHeartbeats 1000000
set_option maxRecDepth 4000
variable{m:Mo}{σ:aa}{KF:cL->aa->Prop}
theorem TN{e:lP}(hl:e.marks.length<=1000000000)(h:KF (.val (dt e)) σ):aA Tryz.prog m 45 [dt e] σ KF:=by
 refine aA.start lay [1] [] 1 Tryz.func45 rfl rfl (by rfl) (by kernel_rfl) ?_
 simp[Tryz.f45];refine cT.intro λc1 h1=>?_
 simp;refine cT.intro λc2 h2=>?_
 obtain⟨z1,z2,h2⟩:=aa.aO h2;simp[z1,z2,aa.ai,aS];refine aq Tryz.func75 rfl rfl (Tu hl ?_);refine ab.run lay [1] ?_;simp[z1,z2,aa.ai,aS];refine .less (λc x hx=>?_) (.done h)
 have n1:c≠c1:=λe=>by subst e;rw[h1]at hx;cases hx
 have n2:c≠c2:=λe=>by subst e;rw[h2]at hx;cases hx
 simp[aa.ai,n1,n2,hx]
theorem Tv{r:List (List Int)}(hr:r.length<=1000000)(hl:∀l∈r,l.length<=1000000000)(h:KF (.val (rows r)) σ):aA Tryz.prog m 44 [rows r] σ KF:=by
 refine aA.thaw ?_;refine aA.start lay [] [] 1 Tryz.func44 rfl rfl (by rfl) (by kernel_rfl) ?_
 simp[Tryz.f44];refine rt lay rfl jC rfl cA rfl (by decide) rfl rfl (n:=r.length) (by simp) (by simp) ⟨by omega,by omega⟩ λb hb=>?_
 refine ab.run lay [] ?_;simp;refine ab.loop r.length (λi s=>∃env,s=⟨env,σ.set b (.cells (List.take i (List.map ints r)++List.replicate (r.length-i) (.lit (.slice none 0 0)))),[],.no⟩/\env 0=rows r/\env 3=.fZ b 0 r.length r.length/\env 4=int i) ⟨_,by simp;rfl,by simp,by simp,by simp⟩ ?_
 rintro c0 i _ hi ⟨env,rfl,e0,e3,e4⟩ ih
 rcases Nat.lt_or_ge i r.length with g1|g1
 . have g1':(i:Int)<r.length:=by omega
   have f1:-9223372036854775808<=(i:Int)+1/\(i:Int)+1<=9223372036854775807:=by omega
   refine ab.run lay [] ?_;simp[e0,e3,e4,g1];refine aq Tryz.func75 rfl rfl (Tu (hl _ (List.getElem_mem g1)) ?_);have hsp:i+1<=min i r.length+(r.length-i):=by omega
   have hcell:List.take i (List.take i (List.map ints r)++List.replicate (r.length-i) (AV.lit (.slice none 0 0)))++AV.sl 1 (List.map int r[i]) .any::List.drop (i+1) (List.take i (List.map ints r)++List.replicate (r.length-i) (AV.lit (.slice none 0 0)))=List.take (i+1) (List.map ints r)++List.replicate (r.length-(i+1)) (.lit (.slice none 0 0)):=by
    have hti:(List.take i (List.map ints r)).length=i:=by rw[List.length_take,List.length_map];omega
    obtain⟨q,hq⟩:∃q,r.length-i=q+1:=⟨r.length-i-1,by omega⟩
    have hq':r.length-(i+1)=q:=by omega
    have e1:List.drop (i+1) (List.take i (List.map ints r)++List.replicate (r.length-i) (AV.lit (.slice none 0 0)))=List.replicate q (.lit (.slice none 0 0)):=by
     rw[List.drop_append,List.drop_eq_nil_of_le (by omega),hti,hq,Nat.add_sub_cancel_left]
     simp
    have e2:List.take (i+1) (List.map ints r)=List.take i (List.map ints r)++[ints r[i]]:=by rw[List.take_succ_eq_append_getElem (by rw[List.length_map];exact g1),List.getElem_map]
    rw[List.take_left' hti,e1,e2,hq',List.append_assoc];rfl
   refine ab.run lay [] ?_;simp[e0,e3,e4,g1,f1.1,f1.2,aS,hsp,hcell];exact ih _ g1 ⟨_,rfl,by simp[e0,e3,e4],by simp[e0,e3,e4],by simp⟩
 . have hie:i=r.length:=by omega
   subst hie;refine ab.run lay [] ?_;simp[e0,e3,e4];refine .done (bG.thaw (σ0:=σ) (kk:=1) (es:=r.map ints) ⟨aa.iU (aa.le_refl _) hb,.inr ⟨b,r.length,[],by simp,hb,by simp,λe he=>?_,?_,by simp⟩⟩ h)
   . obtain⟨x,_,rfl⟩:=List.mem_map.1 he
     rfl
   . rw[du (λe he=>by obtain⟨x,_,rfl⟩:=List.mem_map.1 he;rfl),List.append_nil]
     have ht:List.take r.length (List.map ints r)=List.map ints r:=List.take_of_length_le (by simp)
     simp[aa.ao,ht]
abbrev Ti:List AV:=[.lit (.slice none 0 0),.lit (.slice none 0 0),int 0,int 0,int 0,int 0]
end Go.Proofs.YtalogdafegmilaaGreatDoor
namespace Go.Proofs.YtalogdafegmilaaGreatDoor
open Go.aN Go.Conc
set_option maxHeartbeats 1000000
set_option maxRecDepth 4000
section
variable{L:List (List Int)}{n:Nat}
def fy(L:List (List Int))(x y:Nat):Int:=aL ((L.filter (aC x y)).length:Int) L.length
end
section
variable{L:List (List Int)}{n:Nat}
theorem Cf{p w s:List Int}(h:Canon p w s){i j:Nat}(hi:i<p.length)(hj:j<p.length)(e:p.getD i 0=p.getD j 0):aC i j w=true:=by
 have hiw:i<w.length:=by rw[h.len];exact hi
 have hjw:j<w.length:=by rw[h.len];exact hj
 have hpi:p.getD i 0=p[i]:=by simp[List.getD_eq_getElem?_getD,hi]
 have hs:p.getD i 0∈s:=h.all _ (by rw[hpi];exact List.getElem_mem hi)
 obtain⟨hk,he⟩:=Ah hs;have hh:=h.Ai _ hk;rw[he]at hh;have mi:(i:Int)∈au w ((s.idxOf (p.getD i 0):Nat):Int):=by rw[hh];exact fR hi rfl
 have mj:(j:Int)∈au w ((s.idxOf (p.getD i 0):Nat):Int):=by rw[hh];exact fR hj e.symm
 have qi:=(cr mi).2.2;have qj:=(cr mj).2.2;rw[Int.toNat_natCast]at qi qj;simp only[aC,decide_eq_true_eq,Int.toNat_natCast,qi,qj]
end
end Go.Proofs.YtalogdafegmilaaGreatDoor
namespace Go.Proofs.YtalogdafegmilaaGreatDoor
open Go.aN Go.Conc
set_option maxHeartbeats 2000000
set_option maxRecDepth 4000
variable{m:Mo}{σ:aa}{KF:cL->aa->Prop}
theorem rV{f:Fr}(hg:f.Good):fK f=((ak f []).length:Int):=by
 by_cases h2:2<=f.az.length
 . exact pU hg h2
 have e:fK f=1:=by unfold fK;rw[if_pos (by omega)]
 rw[e];have hm:=hg.most;have e1:(min ((0:Int)+1) f.most).toNat=1:=by omega
 have hc:gO f (bq 0 0)=true:=by
  have:bU (bq 0 0)=[0]:=by decide +kernel
  unfold gO;rw[this,decide_eq_true_eq];exact B8 hg 0
 rcases(show f.az.length=0\/f.az.length=1 by omega)with hn|hn
 . unfold ak;rw[hn];simp[cV]
 . unfold ak;rw[hn]
   unfold cV;rw[e1];simp only[List.range_succ,List.range_zero,List.nil_append,List.flatMap_cons,List.flatMap_nil,List.append_nil];simp[hc,cV]
namespace MA
end MA
end Go.Proofs.YtalogdafegmilaaGreatDoor
namespace Go.Proofs.YtalogdafegmilaaGreatDoor
open Go.aN Go.Conc
set_option maxHeartbeats 1000000
set_option maxRecDepth 4000
variable{m:Mo}{σ:aa}{KF:cL->aa->Prop}
theorem Tq{f:Fr}(hg:f.Good)(hm:∀e∈f.az,e.marks.length<=1000000000)(hr1:f.roads.length<=1000000)(hr2:∀r∈f.roads,r.length<=1000000000)(h:∀a σ',bG σ σ' a 6 (f.az.map dt)->KF (.val (.agg [a,rows f.roads,int f.bM,int f.jn,int f.dR,int f.most])) σ'):aA Tryz.prog m 15 [aF f] σ KF:=by
 have h6:=hg.pi;refine aA.start lay [] T8 1 Tryz.func15 rfl rfl (by rfl) (by kernel_rfl) ?_
 simp[Tryz.f15];refine cT.intro λc2 h2=>?_
 simp;apply Dm (I:=λenv σ'=>∃c3,σ c3=none/\c3≠c2/\env 1=.cp (aF f) 0/\env 2=.ref c2 0/\env 3=.ref c3 0/\σ'=(σ.set c2 (.cells Ti)).set c3 (.cells [.lit (.slice none 0 0),rows f.roads,int f.bM,int f.jn,int f.dR,int f.most]))
 . intro hrest
   refine⟨?_,?_⟩
   . refine aq Tryz.func44 rfl rfl (Tv hr1 hr2 ?_)
     refine bm.go lay [] ?_;simp[aS];refine⟨?_,?_⟩
     . refine z9.intro λc3 h3=>?_
       obtain⟨z1,z2,h3⟩:=aa.aO h3;simp[aS];exact hrest _ _ ⟨c3,h3,z1,by simp,by simp,by simp,by simp⟩
     . refine z9.intro λc3 h3=>?_
       obtain⟨z1,z2,h3⟩:=aa.aO h3;simp[aS];exact hrest _ _ ⟨c3,h3,z1,by simp,by simp,by simp,by simp⟩
   . refine z9.intro λc3 h3=>?_
     obtain⟨z1,z2,h3⟩:=aa.aO h3;simp[aS];refine aq Tryz.func44 rfl rfl (Tv hr1 hr2 ?_);refine bm.go lay [] ?_;simp[aS];exact hrest _ _ ⟨c3,h3,z1,by simp,by simp,by simp,by simp⟩
 . rintro env σ' ⟨c3,h3,z1,e1,e2,e3,rfl⟩
   have z2:c2≠c3:=Ne.symm z1;refine ab.run lay [] ?_;simp[e1,e2,e3];have t0:bG σ ((σ.set c2 (.cells Ti)).set c3 (.cells [.lit (.slice none 0 0),rows f.roads,int f.bM,int f.jn,int f.dR,int f.most])) (.lit (.slice none 0 0)) 6 []:=⟨aa.iU (aa.iU (aa.le_refl _) h2) (by rw[aa.ai _ _ z1];exact h3),.inl ⟨rfl,.inl rfl⟩⟩
   refine ab.loop f.az.length (λi s=>∃env σ' a,s=⟨env,σ',[],.no⟩/\env 1=.cp (aF f) 0/\env 2=.ref c2 0/\env 3=.ref c3 0/\env 4=int i/\σ' c2=some (.cells Ti)/\σ' c3=some (.cells [a,rows f.roads,int f.bM,int f.jn,int f.dR,int f.most])/\eh a≠some c2/\eh a≠some c3/\bG σ σ' a 6 ((f.az.take i).map dt))
    ⟨_,_,.lit (.slice none 0 0),rfl,by simp[e1],by simp[e2],by simp[e3],by simp,by rw[aa.ai _ _ z2,aa.ao],aa.ao _ _ _,by simp[eh],by simp[eh],by simpa using t0⟩ ?_
   clear e1 e2 e3 t0
   rintro c0 i _ hi ⟨env,σ',a,rfl,e1,e2,e3,e4,q2,q3,nb2,nb3,htok⟩ ih
   have htc:=htok.cells
   rcases Nat.lt_or_ge i f.az.length with g1|g1
   . have g1':(i:Int)<f.az.length:=by omega
     have f1:-9223372036854775808<=(i:Int)+1/\(i:Int)+1<=9223372036854775807:=by omega
     refine ab.run lay [] ?_;simp[e1,e2,e3,e4,q2,q3,htc.1,htc.2,g1]
     repeat' (first
               |apply And.intro
               | (refine aq Tryz.func45 rfl rfl (TN (hm _ (List.getElem_mem g1)) ?_)
                  refine bm.go lay [] ?_;simp[e1,e2,e3,e4,q2,q3,htc.1,htc.2,g1])
               | (refine gf lay rfl rfl rfl sB rfl sB rfl CR (by decide) (by simp;omega) (σ0:=σ'.yz a) (es:=(f.az.take i).map dt) (xs:=[dt f.az[i]]) (by simpa using htok.here.1) (.inl (.inr ⟨_,by simp;rfl⟩)) (by simp) λa' σ3 ht'=>?_
                  have hta:=ht'.cells;have k3:∀y l,eh a≠some y->σ' y=some (.cells l)->σ3 y=some (.cells l):=λy l hb hy=>ht'.1 _ _ (by rw[aa.oQ hb];exact hy)
                  have t3:=k3 _ _ nb3 q3;have t2:=k3 _ _ nb2 q2;refine bm.go lay [] ?_;simp[e1,e2,e3,e4,t2,t3,hta.1,hta.2,aS]))
     all_goals (
      refine ab.run lay [] ?_;simp[e4,f1.1,f1.2]
      have htb:bG σ σ3 a' 6 ((f.az.take (i+1)).map dt):=by have:=ht'.base htok.here.2;rw[List.take_succ_eq_append_getElem g1,List.map_append];simpa using this
      have hb2:eh a'≠some c2:=λe=>by have:=(ht'.kO e).1;rw[aa.oQ nb2,q2]at this;cases this
      have hb3:eh a'≠some c3:=λe=>by have:=(ht'.kO e).1;rw[aa.oQ nb3,q3]at this;cases this
      exact ih _ g1 ⟨_,_,a',rfl,by simp[e1],by simp[e2],by simp[e3],by simp,by rw[aa.ai _ _ z2];exact t2,aa.ao _ _ _,hb2,hb3,htb.beside h3 hb3⟩)
   . have hie:i=f.az.length:=by omega
     subst hie;rw[List.take_length]at htok;refine ab.run lay [] ?_;simp[e1,e2,e3,e4,q2,q3,htc.1,htc.2,aS];exact .done (h a _ (htok.beside h2 nb2))
end Go.Proofs.YtalogdafegmilaaGreatDoor
namespace Go.Proofs.YtalogdafegmilaaGreatDoor
open Go.aN Go.Conc
set_option maxHeartbeats 2000000
set_option maxRecDepth 4000
theorem T2{P:Program}{m:Mo}{fid n:Nat}{ro:Option Nat}{hold:List Entry}{K:aN.Exit->St->Prop}{todo:List Item}{env:Env}{σ0 σ:aa}{D:List kL}{rc:Rec}{kk d:Nat}{a:AV}{r es:List AV}(hd:eh a≠some d)(h0d:σ0 d=none)(h:bG σ0 σ a kk es)(hc:σ d=some (.cells (a::r)))
 (hR:∀a2 σ',σ' d=some (.cells (a2::r))->(a2=.sl kk es .any\/(es=[]/\(a2=.lit (.slice none 0 0)\/a2=.sl kk [] .exact)))->a2.W (.sl kk es .any)->a2.cells=[a2]/\a2.flat=true->σ0.Le σ'->ab P m fid n ro hold todo ⟨env,σ',D,rc⟩ K):ab P m fid n ro hold todo ⟨env,σ,D,rc⟩ K:=by
 rcases h.2 with⟨rfl,e|e⟩|⟨b,cap,rest,e,h0,h1,h2,h3,h4⟩
 . exact hR a σ hc (.inr ⟨rfl,.inl e⟩) (by rw[e];exact fT kk) h.cells h.1
 . exact hR a σ hc (.inr ⟨rfl,.inr e⟩) (by rw[e];exact gK kk [] .exact) h.cells h.1
 . subst e
   have hf:=bc h2;have hbd:d≠b:=λq=>hd (by rw[q];rfl)
   refine ab.freeze b _ h3 (λu=>.refl _) (σ':=(σ.del b).set d (.cells (.sl kk es .any::r))) (λy x hy=>?_) (hR (.sl kk es .any) _ (aa.ao _ _ _) (.inl rfl) (.refl _) ⟨rfl,rfl⟩ λc y hcy=>?_)
   . by_cases e:y=d
     . subst e
       rw[aa.ao]at hy;cases hy;refine⟨hbd,.inr ⟨_,_,hc,rfl,by simp,λj x x' g1 g2=>?_⟩⟩
       cases j with
       | zero=>
         simp at g1 g2;subst g1;subst g2;refine .sl 0 cap kk es .any h1 ?_ h2 (λj x hx=>?_) (.inl rfl)
         . have:cap*kk=es.length*kk+(cap-es.length)*kk:=by rw[<-Nat.add_mul];congr 1;omega
           simp only[List.length_append,hf,h4];omega
         . rw[Nat.zero_add,List.getElem?_append_left (List.getElem?_eq_some_iff.1 hx).1];exact hx
       |succ j=>simp at g1 g2;rw[g1]at g2;cases g2;exact .refl _
     . rw[aa.ai _ _ e]at hy
       unfold aa.del at hy;split at hy
       . cases hy
       . next q=>exact⟨q,.inl hy⟩
   . have c1:c≠d:=λq=>by rw[q,h0d]at hcy;cases hcy
     have c2:c≠b:=λq=>by rw[q,h0]at hcy;cases hcy
     rw[aa.ai _ _ c1];simp only[aa.del,c2,if_false];exact h.1 c y hcy
variable{m:Mo}{σ:aa}{KF:cL->aa->Prop}
def Tb(n:Nat)(l:List Int):Prop:=l.Perm ((List.range n).map λt:Nat=>(t:Int))
theorem Tb.len{n:Nat}{l:List Int}(h:Tb n l):l.length=n:=by have:=List.Perm.length_eq h;rw[List.length_map,List.length_range]at this;exact this
theorem Tb.nodup{n:Nat}{l:List Int}(h:Tb n l):l.Nodup:=by refine(List.Perm.nodup_iff h).2 ?_;unfold List.Nodup;rw[List.pairwise_map];exact List.nodup_range.imp λ{a b} hab e=>hab (by omega)
theorem Tb.mem{n:Nat}{l:List Int}(h:Tb n l){x:Int}:x∈l↔0<=x/\x<n:=by
 rw[List.Perm.mem_iff h,List.mem_map];constructor
 . rintro⟨t,ht,rfl⟩;have:=List.mem_range.1 ht;omega
 . rintro⟨h1,h2⟩;exact⟨x.toNat,List.mem_range.2 (by omega),by omega⟩
section
variable{c k:Nat}{nums:List Int}
theorem Tw{n:Nat}(hk:k+n<1000000)(hn:nums.length<1152921504606846976)(hnn:n<=1000)(hb:bZ c nums k σ)(h:∀(l:List Int) σ',Tb n l->pS c nums (k+n) σ σ'->KF (.val (ints l)) σ'):aA Tryz.prog m 26 [.ref c 0,int n] σ KF:=by
 have hd0n:σ.del c c=none:=by simp[aa.del]
 refine aA.start lay [] [] 2 Tryz.func26 rfl rfl (by rfl) (by kernel_rfl) ?_
 simp[Tryz.f26]
 refine ab.loop n (λi s=>∃env σ' a l,s=⟨env,σ',[],.no⟩/\env 0=.ref c 0/\env 1=int n/\env 5=a/\env 6=int i/\bZ c nums (k+i) σ'/\bG (σ.del c) σ' a 1 (l.map int)/\eh a≠some c/\Tb i l) ⟨_,σ,.lit (.slice none 0 0),[],rfl,by simp,by simp,by simp,by simp,hb,⟨λy x hy=>by
  have:y≠c:=λe=>by subst e;rw[hd0n]at hy;cases hy
  simpa[aa.del,this]using hy,.inl ⟨rfl,.inl rfl⟩⟩,by simp[eh],by simp[Tb]⟩ ?_
 rintro c0 i _ hi ⟨env,σ',a,l,rfl,e0,e1,e5,e6,hbi,hto,nb0,hP⟩ ih
 have htc:=hto.cells;have hll:=hP.len
 rcases Nat.lt_or_ge i n with g1|g1
 . have g1':(i:Int)<n:=by omega
   have f1:-9223372036854775808<=(i:Int)+1/\(i:Int)+1<=9223372036854775807:=by omega
   refine ab.run lay [] ?_;simp[e0,e1,e5,e6,htc.1,htc.2,g1'];refine aq Tryz.func16 rfl rfl (ia (by omega) hn ⟨by omega,by omega⟩ hbi λq σ3 hq hd3=>?_)
   obtain⟨qn,rfl⟩:∃qn:Nat,q=(qn:Int):=⟨q.toNat,by omega⟩
   have hqn:qn<=i:=by omega
   have hto3:=Ei hto hd0n nb0 hd3.2;refine ab.run lay [] ?_;simp[e0,e1,e5,e6,htc.1,htc.2];refine gf lay rfl rfl rfl cA rfl cA rfl pQ (by decide) (by simp;omega) (σ0:=σ3.yz a) (es:=l.map int) (xs:=[int i]) (by simpa using hto3.here.1) (.inl (.inr ⟨_,by simp;rfl⟩)) (by simp) λa' σ4 hto4=>?_
   have k4:∀y x,eh a≠some y->σ3 y=some x->σ4 y=some x:=λy x hy hx=>hto4.1 _ _ (by rw[aa.oQ hy];exact hx)
   have nb0':eh a'≠some c:=λq=>by obtain⟨g,_⟩:=hto4.kO q;obtain⟨_,_,_,g2⟩:=hd3.1;rw[aa.oQ nb0,g2]at g;cases g
   have hto5:bG (σ.del c) σ4 a' 1 ((l++[(i:Int)]).map int):=by have:=hto4.base hto3.here.2;simpa using this
   obtain⟨l0,hl0⟩:∃l0,l0=l++[(i:Int)]:=⟨_,rfl⟩;rw[<-hl0]at hto5;have hl0l:l0.length=i+1:=by rw[hl0,List.length_append,hll];rfl
   obtain⟨b,cap,rest,rfl,t1,t2,t3,t4,t5⟩:∃b cap rest,a'=.fZ b 0 (i+1) cap/\σ.del c b=none/\i+1<=cap/\(∀e∈l0.map int,e.cells.length=1)/\σ4 b=some (.cells (l0.map int++rest))/\rest.length=(cap-(i+1))*1:=by
    have hel:(l0.map int).length=i+1:=by rw[List.length_map,hl0l]
    rcases hto5.2 with⟨e,_⟩|⟨b,cap,rest,r1,r2,r3,r4,r5,r6⟩
    . have:=congrArg List.length e
      rw[hel,List.length_nil]at this;omega
    . rw[hel]at r1 r3 r6
      rw[du (λe he=>by obtain⟨_,_,rfl⟩:=List.mem_map.1 he;rfl)]at r5
      exact⟨b,cap,rest,r1,r2,r3,r4,r5,r6⟩
   have nbc:b≠c:=λe=>nb0' (by rw[e];rfl)
   obtain⟨CL,hCL⟩:∃CL,CL=l0.map int++rest:=⟨_,rfl⟩;rw[<-hCL]at t4;have hCLl:i+1<=CL.length:=by rw[hCL,List.length_append,List.length_map,hl0l];omega
   have hCLi:i<CL.length:=by omega
   have hCLq:qn<CL.length:=by omega
   have hq0:qn<l0.length:=by omega
   have hi0:i<l0.length:=by omega
   have hli:l0[i]=(i:Int):=by simp[hl0,hll]
   obtain⟨x,hx⟩:∃x,x=l0[qn]:=⟨_,rfl⟩
   have hCLg:CL[qn]?=some (int x):=by rw[hCL,List.getElem?_append_left (by rw[List.length_map];exact hq0),List.getElem?_map,List.getElem?_eq_getElem hq0,hx];rfl
   have hCLe:CL[qn]=int x:=by have:=hCLg;rw[List.getElem?_eq_getElem hCLq]at this;exact Option.some.inj this
   have hCLm:qn+1<=CL.length:=by omega
   have hqi:(qn:Int)<(i:Int)+1:=by omega
   have hii:(i:Int)<(i:Int)+1:=by omega
   refine ab.run lay [] ?_;simp[e0,e1,e6,t4,hCLg,hCLe,hCLi,hCLq,hCLl,hCLm,hqi,hii]
   have hset:(CL.set i (int x)).set qn (int i)=((l0.set i x).set qn (i:Int)).map int++rest:=by rw[hCL,List.set_append_left _ _ (by rw[List.length_map];exact hi0),List.set_append_left _ _ (by rw[List.length_set,List.length_map];exact hq0),List.map_set,List.map_set]
   have hperm:Tb (i+1) ((l0.set i x).set qn (i:Int)):=by have h1:((l0.set i l0[qn]).set qn l0[i]).Perm l0:=List.set_set_perm hi0 hq0;rw[<-hx,hli]at h1;refine h1.trans ?_;unfold Tb at hP;rw[List.range_succ,List.map_append,hl0];exact List.Perm.append_right _ hP
   have hl'l:((l0.set i x).set qn (i:Int)).length=i+1:=by rw[List.length_set,List.length_set,hl0l]
   refine⟨f1,ih _ g1 ⟨_,_,.fZ b 0 (i+1) cap,(l0.set i x).set qn (i:Int),rfl,by simp[e0,e1,e5,e6,htc.1,htc.2],by simp[e0,e1,e5,e6,htc.1,htc.2],by simp[e0,e1,e5,e6,htc.1,htc.2],by simp,?_,⟨λy v hy=>?_,.inr ⟨b,cap,rest,?_,t1,?_,λe he=>?_,?_,?_⟩⟩,nb0',hperm⟩⟩
   . obtain⟨nz,z,q1,q2⟩:=hd3.1
     exact⟨nz,z,by omega,by rw[aa.ai _ _ (Ne.symm nbc)];exact k4 _ _ nb0 q2⟩
   . have:y≠b:=λe=>by subst e;rw[t1]at hy;cases hy
     rw[aa.ai _ _ this];exact hto5.1 y v hy
   . rw[List.length_map,hl'l]
   . rw[List.length_map,hl'l];exact t2
   . obtain⟨y,_,rfl⟩:=List.mem_map.1 he
     rfl
   . rw[aa.ao,du (λe he=>by obtain⟨_,_,rfl⟩:=List.mem_map.1 he;rfl),<-hset]
   . rw[List.length_map,hl'l,t5]
 . have hie:i=n:=by omega
   subst hie;obtain⟨nz,z,hb1,hb2⟩:=hbi;refine ab.run lay [] ?_;simp[e0,e1,e5,e6,htc.1,htc.2];refine bG.thaw (σ0:=σ.set c (.cells [ints nums,int nz,.lit (.int .u64 z)])) (hto.keep (λy x hy=>?_) λd hd=>?_) (h l _ hP ⟨⟨nz,z,by omega,aa.ao _ _ _⟩,λy hy=>aa.ai _ _ hy⟩)
   . by_cases y1:y=c
     . subst y1
       rw[aa.ao]at hy;rw[hb2];exact hy
     . rw[aa.ai _ _ y1]at hy
       exact hto.1 y x (by simpa[aa.del,y1]using hy)
   . have d1:d≠c:=λe=>nb0 (e ▸ hd)
     refine⟨rfl,?_⟩;rw[aa.ai _ _ d1];have:=(hto.kO hd).1;simpa[aa.del,d1]using this
end
end Go.Proofs.YtalogdafegmilaaGreatDoor
namespace Go.Proofs.YtalogdafegmilaaGreatDoor
open Go.aN Go.Conc
set_option maxHeartbeats 1000000
set_option maxRecDepth 4000
theorem Tc(lt:Int->Int->Bool)(x:Int):∀r:List Int,(eI lt x r).Perm (x::r)
 |[]=>List.Perm.refl _
 | y::r=>by
   unfold eI;split
   . exact((Tc lt x r).cons y).trans (List.Perm.swap x y r)
   . exact List.Perm.refl _
theorem Tj(lt:Int->Int->Bool)(l:List Int):(eH lt l).Perm l:=by
 have key:∀(l r:List Int),(l.foldl (λr x=>eI lt x r) r).Perm (l++r):=by
  intro l;induction l with
  |nil=>intro r;exact List.Perm.refl _
  |cons a l ih=>intro r;rw[List.foldl_cons];refine(ih _).trans (((Tc lt a r).append_left l).trans ?_);exact List.perm_middle
 simpa[eH]using key l []
theorem Ta(f:Fr)(l:List Int):(aT f l).Perm l:=(List.reverse_perm _).trans (Tj _ _)
theorem Tf(f:Fr)(l:List Int):(aT f l).Pairwise λa b=>(bT f a).hour<=(bT f b).hour:=by
 rw[oo,List.pairwise_reverse]
 have key:∀(l r:List Int),Dn (λn=>(bT f n).hour) r->Dn (λn=>(bT f n).hour) (l.foldl (λr x=>eI (zo λn=>(bT f n).hour) x r) r):=by
  intro l;induction l with
  |nil=>intro r h;exact h
  |cons a l ih=>intro r h;exact ih _ (zp a h)
 exact key l [] List.Pairwise.nil
theorem S8{R:Int->Int->Prop}:∀{l:List Int},l.Pairwise R->∀a∈l,∀b∈l,a≠b->R a b\/R b a
 |[],_,a,ha,_,_,_=>by cases ha
 | c ::l,h,a,ha,b,hb,hne=>by
   obtain⟨h1,h2⟩:=List.pairwise_cons.1 h;rcases List.mem_cons.1 ha with rfl|ha'
   . rcases List.mem_cons.1 hb with rfl|hb'
     . exact absurd rfl hne
     . exact .inl (h1 b hb')
   . rcases List.mem_cons.1 hb with rfl|hb'
     . exact .inr (h1 a ha')
     . exact S8 h2 a ha' b hb' hne
theorem TG:∀a:Fin 32,∀b:Fin 32,bQ (a.val:Int) (b.val:Int)=bQ (b.val:Int) (a.val:Int):=by decide +kernel
theorem Fr.Good.symm{f:Fr}(hg:f.Good){i j:Nat}(hi:i<f.roads.length)(hj:j<f.roads.length):rd f.roads i j=rd f.roads j i:=by
 have h:=hg.Lu;unfold i6 at h;split at h
 . cases h
 split at h
 . cases h
 split at h
 . next q=>exact absurd h q
 split at h
 . cases h
 next q=>
 simp only[List.any_eq_true,List.mem_range,not_exists,not_and]at q;have h1:=q i hi j hj;unfold dZ at h1;simp only[Bool.or_eq_true,not_or,bne_iff_ne,ne_eq,Decidable.not_not]at h1;exact h1.1.2
theorem Tx{f:Fr}(hg:f.Good){a b:Int}(ha:0<=a/\a<f.az.length)(hb:0<=b/\b<f.az.length)(hh:(bT f a).hour<=(bT f b).hour)(h:Fit f b a):Fit f a b:=by
 have ea:=tv (hg.Bp _ (oq ha));have eb:=tv (hg.Bp _ (oq hb));have hd:=hg.dR;obtain⟨A,hA⟩:=sE ea.2.2.2.2.2;obtain⟨B,hB⟩:=sE eb.2.2.2.2.2;have pa:=ea.2.1;have pb:=eb.2.1;have t1:=TG A B;have t2:=hg.symm (i:=(bT f a).place.toNat) (j:=(bT f b).place.toNat) (by omega) (by omega);unfold Fit j7 at h ⊢;rw[hB,hA]at h;rw[hA,hB];simp only[decide_eq_false_iff_not]at h ⊢;rw[t1,t2];omega
structure TU(f:Fr)(l:List Int):Prop where
 cS:∀a∈l,∀b∈l,(bT f a).cS=(bT f b).cS
 LH:∃h,∀j∈l,h∈bO f (bT f j)
 fit:∀a∈l,∀b∈l,a≠b->Fit f a b\/Fit f b a
theorem Tl{f:Fr}(hg:f.Good){l:List Int}(hne:l≠[])(hnd:l.Nodup)(hl:∀n∈l,0<=n/\n<f.az.length):ii f l=0↔TU f l:=by
 have hp:=Ta f l;have hS:∀n,n∈aT f l↔n∈l:=λn=>hp.mem_iff
 have hup:=Tf f l;have hndS:(aT f l).Nodup:=hp.nodup_iff.2 hnd;have hneS:aT f l≠[]:=λe=>by rw[e]at hp;exact hne (List.nil_perm.1 hp)
 rw[nR];generalize aT f l=S at *
 have hz:S.getD 0 0∈S:=by
  match S,hneS with
  |a::r,_=>simp
 constructor
 . rintro⟨h1,h2,h3⟩
   unfold dF at h1;rw[List.any_eq_false]at h1;have h1':∀x∈S,(bT f x).cS=(bT f (S.getD 0 0)).cS:=λx hx=>by simpa using h1 x hx
   refine⟨λa ha b hb=>by rw[h1' a ((hS a).2 ha),h1' b ((hS b).2 hb)],?_,λa ha b hb hab=>S8 (xW hg (λn hn=>hl n ((hS n).1 hn)) h3) a ((hS a).2 ha) b ((hS b).2 hb) hab⟩
   unfold cG at h2;simp only[decide_eq_false_iff_not]at h2;obtain⟨x,hx⟩:=List.exists_mem_of_ne_nil _ h2;exact⟨x,λj hj=>(qN hneS).1 hx j ((hS j).2 hj)⟩
 . intro h
   refine⟨?_,?_,sF ?_⟩
   . unfold dF
     rw[List.any_eq_false];intro x hx;rw[h.cS x ((hS x).1 hx) _ ((hS _).1 hz)];simp
   . unfold cG
     simp only[decide_eq_false_iff_not];obtain⟨x,hx⟩:=h.LH;have:x∈dS f S:=(qN hneS).2 λj hj=>hx j ((hS j).1 hj)
     exact List.ne_nil_of_mem this
   . refine(hup.and hndS).imp_of_mem λ{a b} ha hb hab=>?_
     have ha:=(hS a).1 ha;have hb:=(hS b).1 hb
     rcases h.fit a ha b hb hab.2 with q|q
     . exact q
     . exact Tx hg (hl a ha) (hl b hb) hab.1 q
theorem S7(w:List Int)(k:Int):(au w k).Nodup:=(io k w 0).1.imp λh=>by omega
theorem Td{w:List Int}{n i j:Nat}(hi:i<n)(hj:j<n):aC i j (w.take n)=aC i j w:=by simp only[aC,List.getD_eq_getElem?_getD,Int.toNat_natCast];rw[List.getElem?_take_of_lt hi,List.getElem?_take_of_lt hj]
theorem Tk{w:List Int}{x:Int}(h:x∈w):x<am w:=by obtain⟨a,b,rfl⟩:=List.append_of_mem h;have:=ko (a++[x]) b;rw[List.append_assoc,List.singleton_append,bn]at this;omega
structure S9(f x:Fr)(π ρ:Nat->Nat):Prop where
 roads:x.roads=f.roads
 fr:x.bM=f.bM
 to:x.jn=f.jn
 dR:x.dR=f.dR
 most:x.most=f.most
 len:x.az.length=f.az.length
 pr:∀i,i<f.az.length->π i<f.az.length/\ρ (π i)=i
 rp:∀i,i<f.az.length->ρ i<f.az.length/\π (ρ i)=i
 Bp:∀i:Nat,i<f.az.length->bT x (π i)=bT f i
section
variable{f x:Fr}{π ρ:Nat->Nat}
theorem S9.symm(h:S9 f x π ρ):S9 x f ρ π:=
 ⟨h.roads.symm,h.fr.symm,h.to.symm,h.dR.symm,h.most.symm,h.len.symm,by rw[h.len];exact h.rp,by rw[h.len];exact h.pr,λi hi=>by rw[h.len]at hi;have:=h.Bp (ρ i) (h.rp i hi).1;rw[(h.rp i hi).2]at this;exact this.symm⟩
theorem S9.bO(h:S9 f x π ρ)(e:lP):bO x e=bO f e:=by unfold Go.Proofs.YtalogdafegmilaaGreatDoor.bO gN;rw[h.fr,h.to]
theorem S9.one(h:S9 f x π ρ){l l':List Int}(hl:∀j∈l',0<=j/\j<f.az.length/\((ρ j.toNat:Nat):Int)∈l)(h1:TU f l):TU x l':=by
 have he:∀j∈l',bT x j=bT f ((ρ j.toNat:Nat):Int):=λj hj=>by
  obtain⟨q1,q2,_⟩:=hl j hj;have q3:=h.rp j.toNat (by omega);rw[<-h.Bp _ q3.1,q3.2,show(j.toNat:Int)=j by omega]
 refine⟨λa ha b hb=>?_,?_,λa ha b hb hab=>?_⟩
 . rw[he a ha,he b hb];exact h1.cS _ (hl a ha).2.2 _ (hl b hb).2.2
 . obtain⟨z,hz⟩:=h1.LH
   exact⟨z,λj hj=>by rw[h.bO,he j hj];exact hz _ (hl j hj).2.2⟩
 . have hne:((ρ a.toNat:Nat):Int)≠((ρ b.toNat:Nat):Int):=λe=>by
    have qa:=hl a ha;have qb:=hl b hb;have ra:=h.rp a.toNat (by omega);have rb:=h.rp b.toNat (by omega);have e:ρ a.toNat=ρ b.toNat:=by omega
    rw[e,rb.2]at ra;omega
   have:=h1.fit _ (hl a ha).2.2 _ (hl b hb).2.2 hne;unfold Fit j7 at this ⊢;rw[he a ha,he b hb,h.roads,h.dR];exact this
theorem TV{p w s:List Int}(h:Canon p w s){i j:Nat}(hi:i<p.length)(hj:j<p.length)(e:aC i j w=true):p.getD i 0=p.getD j 0:=by
 have hiw:i<w.length:=by rw[h.len];exact hi
 have hjw:j<w.length:=by rw[h.len];exact hj
 simp only[aC,decide_eq_true_eq,Int.toNat_natCast]at e;have hwi:w.getD i 0=w[i]:=by simp[List.getD_eq_getElem?_getD,hiw]
 have h0:=((ir _ _ h.part).2.1 _ (List.getElem_mem hiw)).1;have h1:=Tk (List.getElem_mem hiw);rw[h.many]at h1;have hk:w[i].toNat<s.length:=by omega
 have hh:=h.Ai _ hk;have mi:(i:Int)∈au w ((w[i].toNat:Nat):Int):=fR hiw (by rw[hwi];omega)
 have mj:(j:Int)∈au w ((w[i].toNat:Nat):Int):=fR hjw (by rw[<-e,hwi];omega)
 rw[hh]at mi mj;have qi:=(cr mi).2.2;have qj:=(cr mj).2.2;rw[Int.toNat_natCast]at qi qj;rw[qi,qj]
theorem S9.cd(h:S9 f x π ρ)(hg:f.Good)(hx:x.Good){w:List Int}(hw:w∈ak f []):∃v∈ak x [],∀i j:Nat,i<f.az.length->j<f.az.length->aC i j w=aC (π i:Nat) (π j:Nat) v:=by
 rw[<-pX hg,List.mem_filter]at hw;obtain⟨hwp,hwf⟩:=hw;obtain⟨wl,w0,_⟩:=ir _ _ hwp;obtain⟨p,hp⟩:∃p,p=(List.range f.az.length).map λj=>w.getD (ρ j) 0:=⟨_,rfl⟩
 have hpl:p.length=f.az.length:=by rw[hp,List.length_map,List.length_range]
 have hpg:∀j,j<f.az.length->p.getD j 0=w.getD (ρ j) 0:=λj hj=>by rw[hp,List.getD_eq_getElem?_getD,List.getElem?_map,List.getElem?_range hj];rfl
 have hpm:∀c∈p,∃j,j<f.az.length/\p.getD j 0=c/\c∈w:=λc hc=>by
  obtain⟨j,hj,e⟩:=List.mem_iff_getElem.1 hc;have e2:p.getD j 0=c:=by rw[List.getD_eq_getElem?_getD,List.getElem?_eq_getElem hj];exact e
  rw[hpl]at hj;refine⟨j,hj,e2,?_⟩;have hr:ρ j<w.length:=by rw[wl];exact(h.rp j hj).1
  rw[<-e2,hpg j hj,List.getD_eq_getElem?_getD,List.getElem?_eq_getElem hr];exact List.getElem_mem hr
 obtain⟨v,s,hc⟩:=Jp p;have hf:=hwf;unfold de at hf;rw[Bool.and_eq_true,List.all_eq_true,decide_eq_true_eq]at hf;refine⟨v,?_,λi j hi hj=>?_⟩
 . rw[<-pX hx,List.mem_filter,h.len,<-hpl]
   refine⟨hc.part,?_⟩;unfold de;rw[Bool.and_eq_true,List.all_eq_true,hc.many];have hnn:=bP w
   have hl:=xY (am w).toNat s hc.nd λc hcs=>by obtain⟨_,_,_,hcw⟩:=hpm c (hc.sub c hcs);have:=w0 c hcw;have:=Tk hcw;omega
   refine⟨decide_eq_true (by rw[h.most];omega),λk hk=>?_⟩
   have hk':k<s.length:=by have:=List.mem_range.1 hk;omega
   rw[decide_eq_true_eq,hc.Ai k hk'];obtain⟨j,hj,e,hcw⟩:=hpm _ (hc.sub _ (List.getElem_mem hk'));generalize s[k]=c at *;have hc0:=w0 c hcw;have hc1:=Tk hcw;have hwhy:=of_decide_eq_true (hf.2 c.toNat (List.mem_range.2 (by omega)))
   rw[show(c.toNat:Int)=c by omega]at hwhy
   have hrj:=h.rp j hj;have hnw:au w c≠[]:=List.ne_nil_of_mem (fR (i:=ρ j) (by rw[wl];exact hrj.1) (by rw[<-hpg j hj];exact e))
   have hnp:au p c≠[]:=List.ne_nil_of_mem (fR (i:=j) (by rw[hpl];exact hj) e)
   rw[Tl hg hnw (S7 w c) λi hi=>by have:=cr hi;rw[wl]at this;exact⟨this.1,this.2.1⟩]at hwhy
   rw[Tl hx hnp (S7 p c) λi hi=>by have:=cr hi;rw[hpl,<-h.len]at this;exact⟨this.1,this.2.1⟩]
   refine h.one (λi hi=>?_) hwhy
   obtain⟨q1,q2,q3⟩:=cr hi;rw[hpl]at q2;have hri:=h.rp i.toNat (by omega)
   exact⟨q1,q2,fR (by rw[wl];exact hri.1) (by rw[<-hpg _ (by omega)];exact q3)⟩
 . have pi:=h.pr i hi
   have pj:=h.pr j hj;have e1:p.getD (π i) 0=w.getD i 0:=by rw[hpg _ pi.1,pi.2]
   have e2:p.getD (π j) 0=w.getD j 0:=by rw[hpg _ pj.1,pj.2]
   rw[Bool.eq_iff_iff];constructor
   . intro q
     simp only[aC,decide_eq_true_eq,Int.toNat_natCast]at q;exact Cf hc (by rw[hpl];exact pi.1) (by rw[hpl];exact pj.1) (by rw[e1,e2];exact q)
   . intro q
     have:=TV hc (by rw[hpl];exact pi.1) (by rw[hpl];exact pj.1) q
     rw[e1,e2]at this;simp only[aC,decide_eq_true_eq,Int.toNat_natCast];exact this
end
theorem TE:∀(n:Nat) (w v:List Int),w∈aU n->v∈aU n->(∀i j:Nat,i<n->j<n->aC i j w=aC i j v)->w=v
 |0,w,v,hw,hv,_=>by simp[aU]at hw hv;rw[hw,hv]
 | n + 1,w,v,hw,hv,h=>by
   unfold aU at hw hv;obtain⟨p,hp,hw⟩:=List.mem_flatMap.1 hw;obtain⟨q,hq,hv⟩:=List.mem_flatMap.1 hv;unfold aV at hw hv;obtain⟨a,ha,rfl⟩:=List.mem_map.1 hw;obtain⟨b,hb,rfl⟩:=List.mem_map.1 hv;have hpl:=(ir _ _ hp).1;have hql:=(ir _ _ hq).1
   have hpq:p=q:=TE n p q hp hq λi j hi hj=>by
    have:=h i j (by omega) (by omega);rw[<-Td (n:=n) (w:=p++_) hi hj,<-Td (n:=n) (w:=q++_) hi hj]at this;rw[List.take_append_of_le_length (by omega),List.take_of_length_le (by omega),List.take_append_of_le_length (by omega),List.take_of_length_le (by omega)]at this;exact this
   subst hpq;have ha:=List.mem_range.1 ha;have hb:=List.mem_range.1 hb;have hnn:=bP p;have last:∀(c:Int),(p++[c]).getD n 0=c:=λc=>by simp[List.getD_eq_getElem?_getD,<-hpl]
   have fst:∀(c:Int) (i:Nat),i<n->(p++[c]).getD i 0=p.getD i 0:=λc i hi=>by rw[List.getD_eq_getElem?_getD,List.getD_eq_getElem?_getD,List.getElem?_append_left (by omega)]
   have key:∀(a b:Nat),(∀i:Nat,i<n->aC i n (p++[(a:Int)])=aC i n (p++[(b:Int)]))->(a:Int)<am p->a=b:=λa b hab ha=>by
    obtain⟨i,hi⟩:=List.exists_mem_of_ne_nil _ (nT _ _ hp a ha);obtain⟨i0,i1,i2⟩:=cr hi;have:=hab i.toNat (by omega);simp only[aC,Int.toNat_natCast,last,fst _ i.toNat (show i.toNat<n by omega),i2]at this;simp at this;omega
   by_cases q1:(a:Int)<am p
   . rw[key a b (λi hi=>h i n (by omega) (by omega)) q1]
   . by_cases q2:(b:Int)<am p
     . rw[key b a (λi hi=>(h i n (by omega) (by omega)).symm) q2]
     . rw[show a=b by omega]
theorem Tr:∀n:Nat,(aU n).Nodup
 |0=>by simp[aU]
 | n + 1=>by
   unfold aU List.Nodup;rw[List.pairwise_flatMap];refine⟨λp _=>?_,(Tr n).imp_of_mem λ{p q} hp hq hpq a ha b hb=>?_⟩
   . unfold aV
     rw[List.pairwise_map];refine List.nodup_range.imp λ{a b} hab e=>hab ?_
     have:=List.append_cancel_left e;simp at this;omega
   . unfold aV at ha hb
     obtain⟨a,_,rfl⟩:=List.mem_map.1 ha;obtain⟨b,_,rfl⟩:=List.mem_map.1 hb;intro e;have:=List.append_inj_left e (by rw[(ir _ _ hp).1,(ir _ _ hq).1]);exact hpq this
theorem TO{α:Type}[DecidableEq α](R:α->α->Prop):∀(A B:List α),A.Nodup->(∀a∈A,∃b∈B,R a b)->(∀a∈A,∀a'∈A,∀b,R a b->R a' b->a=a')->A.length<=B.length
 |[],B,_,_,_=>Nat.zero_le _
 | a::A,B,hn,h1,h2=>by
   obtain⟨hn1,hn2⟩:=List.nodup_cons.1 hn;obtain⟨b,hb,hr⟩:=h1 a (by simp)
   have ih:=TO R A (B.erase b) hn2 (λa' ha'=>by
    obtain⟨b',hb',hr'⟩:=h1 a' (by simp[ha']);refine⟨b',(List.mem_erase_of_ne λe=>?_).2 hb',hr'⟩;subst e;exact hn1 (by rw[h2 a (by simp) a' (by simp[ha']) b' hr hr'];exact ha')) λx hx y hy=>h2 x (by simp[hx]) y (by simp[hy])
   rw[List.length_erase_of_mem hb]at ih;have:=List.length_pos_of_mem hb;simp;omega
section
variable{f x:Fr}{π ρ:Nat->Nat}
theorem Tg{f:Fr}(hg:f.Good){w:List Int}(h:w∈ak f []):w∈aU f.az.length:=by rw[<-pX hg]at h;exact(List.mem_filter.1 h).1
theorem TW{f:Fr}(hg:f.Good):(ak f []).Nodup:=by rw[<-pX hg];exact(Tr _).filter _
theorem S9.count(h:S9 f x π ρ)(hg:f.Good)(hx:x.Good)(P Q:List Int->Bool)(hPQ:∀w v,(∀i j:Nat,i<f.az.length->j<f.az.length->aC i j w=aC (π i:Nat) (π j:Nat) v)->P w=true->Q v=true):((ak f []).filter P).length<=((ak x []).filter Q).length:=by
 refine TO (λw v=>∀i j:Nat,i<f.az.length->j<f.az.length->aC i j w=aC (π i:Nat) (π j:Nat) v) _ _ ((TW hg).filter _) (λw hw=>?_) λw hw w' hw' v h1 h2=>?_
 . obtain⟨hw1,hw2⟩:=List.mem_filter.1 hw
   obtain⟨v,hv,hr⟩:=h.cd hg hx hw1;exact⟨v,List.mem_filter.2 ⟨hv,hPQ w v hr hw2⟩,hr⟩
 . refine TE _ w w' (Tg hg (List.mem_filter.1 hw).1) (Tg hg (List.mem_filter.1 hw').1) λi j hi hj=>?_
   rw[h1 i j hi hj,h2 i j hi hj]
theorem S9.same(h:S9 f x π ρ)(hg:f.Good)(hx:x.Good):(ak f []).length=(ak x []).length:=by
 have h1:=h.count hg hx (λ_=>true) (λ_=>true) λ_ _ _ _=>rfl
 have h2:=h.symm.count hx hg (λ_=>true) (λ_=>true) λ_ _ _ _=>rfl
 have e1:∀l:List (List Int),l.filter (λ_=>true)=l:=λl=>List.filter_eq_self.2 λ_ _=>rfl
 rw[e1,e1]at h1 h2;omega
theorem S9.Uf(h:S9 f x π ρ)(hg:f.Good)(hx:x.Good){i k:Nat}(hi:i<f.az.length)(hk:k<f.az.length):fy (ak f []) i k=fy (ak x []) (π i) (π k):=by
 have e:=h.same hg hx;have h1:=h.count hg hx (aC i k) (aC (π i:Nat) (π k:Nat)) λw v hr q=>by rw[<-hr i k hi hk];exact q
 have h2:=h.symm.count hx hg (aC (π i:Nat) (π k:Nat)) (aC i k) λw v hr q=>by
  have:=hr (π i) (π k) (by rw[h.len];exact(h.pr i hi).1) (by rw[h.len];exact(h.pr k hk).1);rw[(h.pr i hi).2,(h.pr k hk).2]at this;rw[<-this];exact q
 unfold fy;rw[e,show((ak f []).filter (aC i k)).length=((ak x []).filter (aC (π i:Nat) (π k:Nat))).length by omega]
end
end Go.Proofs.YtalogdafegmilaaGreatDoor
namespace Go.Proofs.YtalogdafegmilaaGreatDoor
open Go.aN Go.Conc
set_option maxHeartbeats 2000000
set_option maxRecDepth 4000
variable{m:Mo}{σ:aa}{KF:cL->aa->Prop}
theorem TX{f x:Fr}{l:List Int}(hP:Tb f.az.length l)(h1:x.roads=f.roads)(h2:x.bM=f.bM)(h3:x.jn=f.jn)(h4:x.dR=f.dR)(h5:x.most=f.most)(h6:x.az.length=f.az.length)(he:∀i,i<f.az.length->x.az.getD (l.getD i 0).toNat qt=f.az.getD i qt):
 S9 f x (λi=>(l.getD i 0).toNat) (λj=>l.idxOf (j:Int)):=by
 have hl:=hP.len;have at_:∀i,(hi:i<l.length)->l.getD i 0=l[i]:=λi hi=>by simp[List.getD_eq_getElem?_getD,hi]
 have hm:∀i,(hi:i<l.length)->0<=l[i]/\l[i]<f.az.length:=λi hi=>hP.mem.1 (List.getElem_mem hi)
 refine⟨h1,h2,h3,h4,h5,h6,λi hi=>?_,λj hj=>?_,λi hi=>?_⟩
 . have hi':i<l.length:=by omega
   have:=hm i hi';obtain⟨hk,hke⟩:=Ah (List.getElem_mem hi');simp only[at_ i hi',show((l[i].toNat:Nat):Int)=l[i]by omega];exact⟨by omega,Jo hP.nodup hke⟩
 . obtain⟨hk,hke⟩:=Ah (hP.mem.2 (show(0:Int)<=(j:Int)/\(j:Int)<f.az.length by omega))
   simp only[at_ _ hk,hke];exact⟨by omega,by omega⟩
 . exact he i hi
theorem TH{σ0 σB σ3 σ':aa}{a:AV}{kk:Nat}{es:List AV}{c x:Nat}(hta:bG σB σ3 a kk es)(hB:σ0.Le σB)(hk:∀y,y≠c->y≠x->σ' y=σ3 y)(hc:σ0 c=none)(hx:σ0 x=none)(hbc:eh a≠some c)(hbx:eh a≠some x):bG σ0 σ' a kk es:=
 hta.keep (λy v hy=>by
  have y1:y≠c:=λe=>by subst e;rw[hc]at hy;cases hy
  have y2:y≠x:=λe=>by subst e;rw[hx]at hy;cases hy
  rw[hk y y1 y2];exact hta.1 _ _ (hB y v hy)) λb hb=>⟨hk b (λe=>hbc (e ▸ hb)) (λe=>hbx (e ▸ hb)),by
  cases e:σ0 b with
  |none=>rfl
  |some v=>have:=hB _ _ e;rw[(hta.kO hb).1]at this;cases this⟩
def TJ:Nat->Code->Code
 |0,c=>c
 |k+1,.seq _ c=>TJ k c
 |_+1,c=>c
theorem Ts(hs:m.solo=true){nums:List Int}(hn:nums.length<1152921504606846976)(h:KF (.val (bool true)) σ):gq Tryz.prog lay m 5 [ints nums] σ KF:=by
 refine gq.start lay [] Ud 1 Tryz.func5 rfl rfl (by rfl) (by kernel_rfl) ?_
 simp[Tryz.f5];refine aq Tryz.func13 rfl rfl (kv λc σ1 hc hb hsame=>?_)
 refine ab.run lay [] ?_;simp;refine aq Tryz.func25 rfl rfl (lX (by omega) hn ⟨by omega,by omega⟩ hb λf ks σ2 hf hd=>?_)
 refine ab.runN lay [] 7 ?_;simp;refine cT.intro λd hd3=>?_
 simp;have hle:σ.Le ((σ2.set d (.cells (eP f))).del d):=qv hc hsame hd.2 hd3;have hg:=hf.jw;have hfit:=hg.fits;have hchk:=hg.Ng;have h6:=hg.pi;have hway:=hf.ways;have hlen:=fa hg [];have hb1:=fa hg [0,0];have hb2:=fa hg [0,1];have hmk:∀e∈f.az,e.marks.length<=1000000000:=λe he=>by have:=hf.marks e he;omega
 have hrd1:f.roads.length<=1000000:=by have:=hf.ew;omega
 have hrd2:∀r∈f.roads,r.length<=1000000000:=λr hr=>by have:=hf.row r hr;omega
 obtain⟨n,hnn⟩:∃n,n=f.az.length:=⟨_,rfl⟩;refine ab.cZ 4 (b:=d) (aF f) (by simp) (by simp) rfl ?_
 have hbA:bZ c nums 500 ((σ2.set d (.cells (eP f))).del d):=by
  obtain⟨nz,z,q1,q2⟩:=hd.1;have:c≠d:=λe=>by subst e;rw[q2]at hd3;cases hd3
  exact⟨nz,z,by omega,by simp only[aa.del,this,if_false,aa.ai _ _ this];exact q2⟩
 generalize (σ2.set d (.cells (eP f))).del d=σA at hle hbA ⊢;clear hd3 hd hb hsame;have hcA:∃l,σA c=some (.cells l):=by obtain⟨_,_,_,q⟩:=hbA;exact⟨_,q⟩
 have none_of:∀y,σA y=none->σ y=none:=λy hy=>by
  cases e:σ y with
  |none=>rfl
  |some x=>rw[hle _ _ e]at hy;cases hy
 apply Dm (todo:=[.code (TJ 4 (Tryz.f5.body.getD .skip))]) (P:=Tryz.prog) (m:=m) (fid:=5) (n:=115) (ro:=none) (hold:=Ud) (D:=[]) (rc:=.no) (K:=KC lay [.tmp 2] (nB KF)) (I:=λenv σ'=>∃x a l,env 4=.cp (aF f) 0/\env 6=.ref x 0/\env 7=ints l/\Tb n l/\σ' x=some (.cells [a,rows f.roads,int f.bM,int f.jn,int f.dR,int f.most])/\bG σ σ' a 6 (f.az.map dt)/\eh a≠some x/\σ x=none)
 . intro hrest
   have hxn:∀{x:Nat}{σx:aa},σA.Le σx->σx x=none->σ x=none:=λ{x σx} h1 h2=>none_of x (by
    cases e:σA x with
    |none=>rfl
    |some v=>rw[h1 _ _ e]at h2;cases h2)
   refine ab.run lay [] ?_;simp;refine⟨?_,?_⟩
   . refine aq Tryz.func15 rfl rfl (Tq hg hmk hrd1 hrd2 λa σ3 hta=>?_)
     have htc:=hta.cells;have hbc:eh a≠some c:=λe=>by obtain⟨l,q⟩:=hcA;rw[(hta.kO e).1]at q;cases q
     have hb3:bZ c nums 500 σ3:=by obtain⟨nz,z,q1,q2⟩:=hbA;exact⟨nz,z,q1,hta.1 _ _ q2⟩
     have hc3:∃l,σ3 c=some (.cells l):=by obtain⟨_,_,_,q⟩:=hb3;exact⟨_,q⟩
     refine bm.go lay [] ?_;simp[htc.1,htc.2];refine⟨?_,?_⟩
     . refine aq Tryz.func26 rfl rfl (Tw (k:=500) (n:=f.az.length) (by omega) hn (by omega) hb3 λl σ4 hP hd4=>?_)
       refine bm.go lay [] ?_;simp[htc.1,htc.2];refine z9.intro λx hx5=>?_
       have hxc:x≠c:=λe=>by subst e;obtain⟨_,_,_,q⟩:=hd4.1;rw[q]at hx5;cases hx5
       have hx3:σ3 x=none:=by rw[<-hd4.2 x hxc];exact hx5
       have hbx:eh a≠some x:=λe=>by obtain⟨_,l,q⟩:=hta.kO e;rw[hx3]at q;cases q
       have hσx:=hxn hta.1 hx3;simp[htc.1,htc.2,aS];exact hrest _ _ ⟨x,a,l,by simp,by simp,by simp,hnn ▸ hP,aa.ao _ _ _,TH hta hle (λy y1 y2=>by rw[aa.ai _ _ y2];exact hd4.2 y y1) hc hσx hbc hbx,hbx,hσx⟩
     . refine z9.intro λx hx5=>?_
       have hxc:x≠c:=λe=>by subst e;obtain⟨l,q⟩:=hc3;rw[q]at hx5;cases hx5
       have hbx:eh a≠some x:=λe=>by obtain⟨_,l,q⟩:=hta.kO e;rw[hx5]at q;cases q
       have hσx:=hxn hta.1 hx5;simp[htc.1,htc.2];have hb4:∀X,bZ c nums 500 (σ3.set x X):=λX=>by obtain⟨nz,z,q1,q2⟩:=hb3;exact⟨nz,z,q1,by rw[aa.ai _ _ (Ne.symm hxc)];exact q2⟩
       refine aq Tryz.func26 rfl rfl (Tw (k:=500) (n:=f.az.length) (by omega) hn (by omega) (hb4 _) λl σ4 hP hd4=>?_)
       have hx4:=hd4.2 x hxc;rw[aa.ao]at hx4;refine bm.go lay [] ?_;simp[htc.1,htc.2,aS,hx4];exact hrest _ _ ⟨x,a,l,by simp,by simp,by simp,hnn ▸ hP,aa.ao _ _ _,TH hta hle (λy y1 y2=>by rw[aa.ai _ _ y2,hd4.2 y y1,aa.ai _ _ y2]) hc hσx hbc hbx,hbx,hσx⟩
   . refine z9.intro λx hx5=>?_
     have hxc:x≠c:=λe=>by subst e;obtain⟨l,q⟩:=hcA;rw[q]at hx5;cases hx5
     have hσx:=none_of x hx5;simp;refine aq Tryz.func15 rfl rfl (Tq hg hmk hrd1 hrd2 λa σ3 hta=>?_)
     have htc:=hta.cells;have hbc:eh a≠some c:=λe=>by obtain⟨l,q⟩:=hcA;have:=(hta.kO e).1;rw[aa.ai _ _ (Ne.symm hxc),q]at this;cases this
     have hbx:eh a≠some x:=λe=>by have:=(hta.kO e).1;rw[aa.ao]at this;cases this
     have hb3:bZ c nums 500 σ3:=by obtain⟨nz,z,q1,q2⟩:=hbA;exact⟨nz,z,q1,hta.1 _ _ (by rw[aa.ai _ _ (Ne.symm hxc)];exact q2)⟩
     have hx3:=hta.1 x _ (aa.ao _ _ _);refine bm.go lay [] ?_;simp[htc.1,htc.2];refine aq Tryz.func26 rfl rfl (Tw (k:=500) (n:=f.az.length) (by omega) hn (by omega) hb3 λl σ4 hP hd4=>?_)
     have hx4:=hd4.2 x hxc;rw[hx3]at hx4;refine bm.go lay [] ?_;simp[htc.1,htc.2,aS,hx4];exact hrest _ _ ⟨x,a,l,by simp,by simp,by simp,hnn ▸ hP,aa.ao _ _ _,TH hta (aa.iU hle hx5) (λy y1 y2=>by rw[aa.ai _ _ y2];exact hd4.2 y y1) hc hσx hbc hbx,hbx,hσx⟩
 rintro env σ' ⟨x,a,l,e4,e6,e7,hP,q6,hto,hxb,hσx⟩
 have hll:=hP.len;refine ab.run lay [] ?_;simp[e4,e6,e7,Tryz.f5,TJ];refine ab.loop n (λi s=>∃env σ' X,s=⟨env,σ',[],.no⟩/\env 4=.cp (aF f) 0/\env 6=.ref x 0/\env 7=ints l/\env 8=int i/\σ' x=some (.cells [a,rows f.roads,int f.bM,int f.jn,int f.dR,int f.most])/\bG σ σ' a 6 (X.map dt)/\X.length=n/\(∀j,j<i->X.getD (l.getD j 0).toNat qt=f.az.getD j qt)/\(∀e∈X,e∈f.az)) ⟨_,σ',f.az,rfl,by simp[e4],by simp[e6],by simp[e7],by simp,q6,hto,hnn.symm,by simp,λe he=>he⟩ ?_
 clear e4 e6 e7 q6 hto
 rintro c0 i _ hi ⟨env,σ',X,rfl,e4,e6,e7,e8,q6,hto,hXl,hXj,hXm⟩ ih
 rcases Nat.lt_or_ge i n with g1|g1
 . have hil:i<l.length:=by omega
   have hif:i<f.az.length:=by omega
   have hlm:=hP.mem.1 (List.getElem_mem hil);obtain⟨p,hp⟩:∃p:Nat,l[i]=(p:Int):=⟨l[i].toNat,by omega⟩
   have hpn:p<n:=by omega
   have hel:(X.map dt).length=n:=by rw[List.length_map,hXl]
   obtain⟨b,cap,rest,rfl,t1,t2,t3,t4,t5⟩:∃b cap rest,a=.fZ b 0 n cap/\σ b=none/\n<=cap/\(∀e∈X.map dt,e.cells.length=6)/\σ' b=some (.cells (flatten (X.map dt)++rest))/\rest.length=(cap-n)*6:=by
    rcases hto.2 with⟨e,_⟩|⟨b,cap,rest,r1,r2,r3,r4,r5,r6⟩
    . have:=congrArg List.length e
      rw[hel,List.length_nil]at this;omega
    . rw[hel]at r1 r3 r6
      exact⟨b,cap,rest,r1,r2,r3,r4,r5,r6⟩
   have hbx:b≠x:=λe=>hxb (by rw[e];rfl)
   have f1:-9223372036854775808<=(i:Int)+1/\(i:Int)+1<=9223372036854775807:=by omega
   obtain⟨CL,hCL⟩:∃CL,CL=flatten (X.map dt)++rest:=⟨_,rfl⟩;rw[<-hCL]at t4;have hfl:=bc t3;rw[hel]at hfl;have hCLl:p*6+6<=CL.length:=by rw[hCL,List.length_append,hfl];omega
   obtain⟨fe,hfe⟩:∃fe,fe=f.az[i]:=⟨_,rfl⟩;have hfi:(f.az.map dt)[i]?=some (dt fe):=by rw[List.getElem?_map,List.getElem?_eq_getElem hif,hfe];rfl
   have hspl:aS CL (p*6) [int fe.hour,int fe.place,int fe.cS,ints fe.marks,int fe.aX,int fe.iS]=flatten ((X.set p fe).map dt)++rest:=by
    have:=xZ (k:=6) (X.map dt) p (dt fe) (by rw[hel];exact hpn) t3 rfl
    rw[List.map_set,<-this,hCL];unfold aS;rw[List.take_append_of_le_length (by rw[hfl];omega),List.drop_append_of_le_length (by rw[hfl];simp;omega)]
    simp
   have hli:(l.map int)[i]?=some (int p):=by rw[List.getElem?_map,List.getElem?_eq_getElem hil,hp];rfl
   have hil':(i:Int)<l.length:=by omega
   refine ab.run lay [] ?_;simp[e4,e6,e7,e8,q6,hil,hil',hif,hp,t4,hCLl,hspl,hpn,<-hfe];refine ab.run lay [] ?_;simp[e8,f1.1,f1.2];refine ih _ g1 ⟨_,_,X.set p fe,rfl,by simp[e4,e6,e7,e8,q6],by simp[e4,e6,e7,e8,q6],by simp[e4,e6,e7,e8,q6],by simp,by rw[aa.ai _ _ (Ne.symm hbx)];exact q6,⟨λy v hy=>?_,.inr ⟨b,cap,rest,?_,t1,?_,λe he=>?_,?_,?_⟩⟩,by rw[List.length_set];exact hXl,λj hj=>?_,λe he=>?_⟩
   . have:y≠b:=λe=>by subst e;rw[t1]at hy;cases hy
     rw[aa.ai _ _ this];exact hto.1 y v hy
   . rw[List.length_map,List.length_set,hXl]
   . rw[List.length_map,List.length_set,hXl];exact t2
   . obtain⟨y,_,rfl⟩:=List.mem_map.1 he
     rfl
   . rw[aa.ao,List.map_set]
   . rw[List.length_map,List.length_set,hXl,t5]
   . have hpp:(l.getD i 0).toNat=p:=by simp[List.getD_eq_getElem?_getD,hil,hp]
     by_cases e:j=i
     . subst e
       rw[hpp,List.getD_eq_getElem?_getD,List.getElem?_set_self (by omega),List.getD_eq_getElem?_getD,List.getElem?_eq_getElem hif,hfe]
     . have hjl:j<l.length:=by omega
       have hjm:=hP.mem.1 (List.getElem_mem hjl);have hjd:l.getD j 0=l[j]:=by simp[List.getD_eq_getElem?_getD,hjl]
       have hne:p≠(l.getD j 0).toNat:=λq=>by rw[hjd]at q;exact e (Jo hP.nodup (hi:=hjl) (hj:=hil) (by omega))
       rw[List.getD_eq_getElem?_getD,List.getElem?_set_ne hne,<-List.getD_eq_getElem?_getD];exact hXj j (by omega)
   . rcases List.mem_or_eq_of_mem_set he with he|rfl
     . exact hXm e he
     . rw[hfe];exact List.getElem_mem hif
 . have hie:i=n:=by omega
   refine T2 hxb hσx hto q6 λa2 σ5 q6' hsh hw2 hc2 hle5=>?_
   obtain⟨xf,hxf⟩:∃xf:Fr,xf=⟨X,f.roads,f.bM,f.jn,f.dR,f.most⟩:=⟨_,rfl⟩
   have hren:S9 f xf (λi=>(l.getD i 0).toNat) (λj=>l.idxOf (j:Int)):=by subst hxf;exact TX (by rw[<-hnn];exact hP) rfl rfl rfl rfl rfl (by rw[<-hnn];exact hXl) λj hj=>hXj j (by omega)
   have hgx:xf.Good:=by subst hxf;exact⟨⟨by show X.length<1152921504606846976;omega,hfit.roads,hfit.row,λe he=>hfit.marks e (hXm e he)⟩,hg.fr,hg.to,hg.le,hg.dR,hg.most,by show X.length<=6;omega,λe he=>hg.Bp e (hXm e he),hg.Lu⟩
   have hWf:(AV.agg [a2,rows f.roads,int f.bM,int f.jn,int f.dR,int f.most]).W (aF xf):=by
    subst hxf;refine rS rfl λi u v x1 x2=>?_
    match i with
    |0=>obtain rfl:=Option.some.inj x1;obtain rfl:=Option.some.inj x2;exact hw2
    |1=>simp at x1 x2;subst x1;subst x2;exact .refl _
    |2=>simp at x1 x2;subst x1;subst x2;exact .refl _
    |3=>simp at x1 x2;subst x1;subst x2;exact .refl _
    |4=>simp at x1 x2;subst x1;subst x2;exact .refl _
    |5=>simp at x1 x2;subst x1;subst x2;exact .refl _
    |i+6=>simp at x1
   have hW1:Wl [AV.agg [a2,rows f.roads,int f.bM,int f.jn,int f.dR,int f.most]] [aF xf]:=.cons hWf .nil;have hlx:=fa hgx [];have hx1:=fa hgx [0,0];have hx2:=fa hgx [0,1];have hsame:=hren.same hg hgx;have hlf:xf.az.length=f.az.length:=hren.len;refine ab.cZ 6 (b:=x) (.agg [a2,rows f.roads,int f.bM,int f.jn,int f.dR,int f.most]) q6' e6 (by simp[hc2.1]) ?_
   refine ab.weaken (σ:=σ) ?_ (λy v hy=>by
    have:y≠x:=λe=>by subst e;rw[hσx]at hy;cases hy
    simp only[aa.del,this,if_false];exact hle5 y v hy)
   have n1:¬(i:Int)<n:=by omega
   clear ih hto q6 q6' hsh;refine ab.run lay [] ?_;simp[e4,e7,e8,hc2.1,hc2.2,n1,hll];refine aq Tryz.func18 rfl rfl (z8 hs hfit hchk ⟨by omega,by omega⟩ ?_)
   rw[rV hg];refine ab.run lay [] ?_;simp[e4,e7,e8,hc2.1,hc2.2];refine bs Tryz.func18 rfl rfl hW1 (z8 hs hgx.fits hgx.Ng ⟨by omega,by omega⟩ ?_)
   rw[rV hgx,<-hsame];refine ab.run lay [] ?_;simp[e4,e7,e8,hc2.1,hc2.2];refine ab.loop n (λi s=>∃env,s=⟨env,σ,[],.no⟩/\env 4=.cp (aF f) 0/\env 6=.cp (.agg [a2,rows f.roads,int f.bM,int f.jn,int f.dR,int f.most]) 0/\env 7=ints l/\env 13=int i) ⟨_,rfl,by simp[e4,e7,e8,hc2.1,hc2.2],by simp[e4,e7,e8,hc2.1,hc2.2],by simp[e4,e7,e8,hc2.1,hc2.2],by simp⟩ ?_
   clear e4 e6 e7 e8
   rintro c1 i _ hi' ⟨env,rfl,e4,e6,e7,e13⟩ ihi
   rcases Nat.lt_or_ge i n with g2|g2
   . have hil:i<l.length:=by omega
     have hil':(i:Int)<n:=by omega
     have f1:-9223372036854775808<=(i:Int)+1/\(i:Int)+1<=9223372036854775807:=by omega
     have hlm:=hP.mem.1 (List.getElem_mem hil);obtain⟨p,hp⟩:∃p:Nat,l[i]=(p:Int):=⟨l[i].toNat,by omega⟩
     have hpp:(l.getD i 0).toNat=p:=by simp[List.getD_eq_getElem?_getD,hil,hp]
     refine ab.run lay [] ?_;simp[e4,e6,e7,e13,hc2.1,hc2.2,hil,hil',hll,g2];refine ab.loop i (λk s=>∃env,s=⟨env,σ,[],.no⟩/\env 4=.cp (aF f) 0/\env 6=.cp (.agg [a2,rows f.roads,int f.bM,int f.jn,int f.dR,int f.most]) 0/\env 7=ints l/\env 13=int i/\env 14=int k) ⟨_,rfl,by simp[e4,e6,e7,e13,hc2.1,hc2.2],by simp[e4,e6,e7,e13,hc2.1,hc2.2],by simp[e4,e6,e7,e13,hc2.1,hc2.2],by simp[e4,e6,e7,e13,hc2.1,hc2.2],by simp⟩ ?_
     clear e4 e6 e7 e13
     rintro c2 k _ hk ⟨env,rfl,e4,e6,e7,e13,eM⟩ ihk
     rcases Nat.lt_or_ge k i with g3|g3
     . have hkl:k<l.length:=by omega
       have tE:(k:Int)<i:=by omega
       have f2:-9223372036854775808<=(k:Int)+1/\(k:Int)+1<=9223372036854775807:=by omega
       have hkm:=hP.mem.1 (List.getElem_mem hkl);obtain⟨q,hq⟩:∃q:Nat,l[k]=(q:Int):=⟨l[k].toNat,by omega⟩
       have hqq:(l.getD k 0).toNat=q:=by simp[List.getD_eq_getElem?_getD,hkl,hq]
       have hsay:=hren.Uf hg hgx (i:=i) (k:=k) (by omega) (by omega)
       simp only[hpp,hqq]at hsay;obtain⟨v,hv⟩:∃v,v=fy (ak f []) i k:=⟨_,rfl⟩;rw[<-hv]at hsay;have hW3:Wl [AV.agg [a2,rows f.roads,int f.bM,int f.jn,int f.dR,int f.most],int p,int q] [aF xf,int p,int q]:=.cons hWf (.cons (.refl _) (.cons (.refl _) .nil));refine ab.run lay [] ?_;simp[e4,e6,e7,e13,eM,hc2.1,hc2.2,tE];refine aq Tryz.func27 rfl rfl (jr hs hfit hchk ⟨by omega,by omega⟩ ⟨by omega,by omega⟩ hway (by omega) ?_)
       rw[show aL (((ak f []).filter (aC i k)).length:Int) (ak f []).length=v from hv.symm]
       refine ab.run lay [] ?_;simp[e4,e6,e7,e13,eM,hc2.1,hc2.2,hil,hkl,hp,hq];refine bs Tryz.func27 rfl rfl hW3 (jr hs hgx.fits hgx.Ng ⟨by omega,by omega⟩ ⟨by omega,by omega⟩ (λe=>by rw[e]at hsame;exact hway (List.length_eq_zero_iff.1 hsame)) (by omega) ?_)
       rw[show aL (((ak xf []).filter (aC p q)).length:Int) (ak xf []).length=v from hsay.symm]
       refine bm.go lay [] ?_;simp[e4,e6,e7,e13,eM,hc2.1,hc2.2];refine ab.run lay [] ?_;simp[e4,e6,e7,e13,eM,hc2.1,hc2.2,f2.1,f2.2];exact ihk _ g3 ⟨_,rfl,by simp[e4,e6,e7,e13,eM,hc2.1,hc2.2],by simp[e4,e6,e7,e13,eM,hc2.1,hc2.2],by simp[e4,e6,e7,e13,eM,hc2.1,hc2.2],by simp[e4,e6,e7,e13,eM,hc2.1,hc2.2],by simp⟩
     . have n3:¬(k:Int)<i:=by omega
       refine ab.run lay [] ?_;simp[e4,e6,e7,e13,eM,hc2.1,hc2.2,n3,f1.1,f1.2];exact ihi _ g2 ⟨_,rfl,by simp[e4,e6,e7,e13,eM,hc2.1,hc2.2],by simp[e4,e6,e7,e13,eM,hc2.1,hc2.2],by simp[e4,e6,e7,e13,eM,hc2.1,hc2.2],by simp⟩
   . have n2:¬(i:Int)<n:=by omega
     refine ab.run lay [] ?_;simp[e4,e6,e7,e13,hc2.1,hc2.2,n2,hll];refine aq Tryz.func20 rfl rfl (ip hs ?_);refine ab.run lay [] ?_;simp[e4,e6,e7,e13,hc2.1,hc2.2];exact .done h
end Go.Proofs.YtalogdafegmilaaGreatDoor
