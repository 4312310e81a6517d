/- Part 4 of the proof. -/
import Derived.Test.YtalogdafegmilaaGreatDoorL3
set_option linter.all false
namespace Go.Proofs.YtalogdafegmilaaGreatDoor
open Go.aN Go.Conc
set_option maxHeartbeats 2000000
set_option maxRecDepth 4000
variable{m:Mo}{σ:aa}{KF:cL->aa->Prop}
theorem K1:zW Tryz.prog 28 3:=.of (by kernel_rfl) (by kernel_rfl) (by kernel_rfl) (by kernel_rfl)
theorem rV{f:Fr}(hg:f.Good):fK f=((ak f []).length:Int):=by
 by_cases h2:2<=f.az.length
 . exact pU hg h2
 have e:fK f=1:=by unfold fK;rw[if_pos (by omega)]
 rw[e];have hm:=hg.most;have e1:(min ((0:Int)+1) f.most).toNat=1:=by omega
 have hc:gO f (bq 0 0)=true:=by
  have:bU (bq 0 0)=[0]:=by decide +kernel
  unfold gO;rw[this,decide_eq_true_eq];exact B8 hg 0
 rcases(show f.az.length=0\/f.az.length=1 by omega)with hn|hn
 . unfold ak;rw[hn];simp[cV]
 . unfold ak;rw[hn]
   unfold cV;rw[e1];simp only[List.range_succ,List.range_zero,List.nil_append,List.flatMap_cons,List.flatMap_nil,List.append_nil];simp[hc,cV]
theorem uP(g:List Int->Int):∀(L:List (List Int)) (v:List Int),∃w,L.foldl (bX g) (some v)=some w/\g w=L.foldl (λa x=>min a (g x)) (g v)
 |[],v=>⟨v,rfl,rfl⟩
 | a ::L,v=>by
   rw[List.foldl_cons,List.foldl_cons];by_cases q:g a<g v
   . rw[show bX g (some v) a=some a by simp[bX,q],show min (g v) (g a)=g a by omega]
     exact uP g L a
   . rw[show bX g (some v) a=some v by simp[bX,q],show min (g v) (g a)=g v by omega]
     exact uP g L v
theorem wZ{g:List Int->Int}{L:List (List Int)}{w:List Int}(hL:0<L.length)(h:L.foldl (bX g) none=some w):g w=L.foldl (λa x=>min a (g x)) (g L[0]):=by
 cases L with
 |nil=>simp at hL
 | cons a r=>
   rw[List.foldl_cons,show bX g none a=some a from rfl]at h;obtain⟨w',h1,h2⟩:=uP g r a;rw[h1]at h;obtain rfl:=Option.some.inj h;rw[h2,List.foldl_cons];congr 1;show g a=min (g a) (g a);omega
theorem z5(g:List Int->Int):∀(L:List (List Int)) (n:Int),L.foldl (λa x=>min a (-g x)) (-n)=-(L.foldl (λa x=>max a (g x)) n)
 |[],n=>rfl
 |a::L,n=>by rw[List.foldl_cons,List.foldl_cons,<-z5 g L];congr 1;omega
theorem z7(hs:m.solo=true){f:Fr}(hf:f.Fits)(hc:check f=0)(hway:ak f []=[])(h:KF (.val (.c9 [.agg [int 0,int 0],int 11])) σ):aA Tryz.prog m 35 [aF f] σ KF:=by
 refine aA.start lay [] [] 1 Tryz.func35 rfl rfl (by rfl) (by kernel_rfl) ?_
 simp[Tryz.f35];refine cT.intro λc2 h2=>?_
 simp;have hW:Wl [aF f,AV.lit (.slice none 0 0)] [aF f,.sl 1 (([]:List Int).map int) .any]:=.cons (.refl _) (.cons (fT 1) .nil);refine bs Tryz.func56 rfl rfl hW (zY (l:=[]) (sp:=.any) hs hf hc (by simp) (by simp) hway λσ0 hle0=>?_)
 have q2:σ0 c2=some (.cells [int 0,int 0]):=hle0 _ _ (aa.ao _ _ _);refine ab.run lay [] ?_;simp[q2,aS];refine .less (λc x hx=>?_) (.done h)
 have c0:c≠c2:=λe=>by subst e;rw[h2]at hx;cases hx
 rw[aa.ai _ _ c0];exact hle0 _ _ ((aa.ai _ _ c0).trans hx)
namespace MA
abbrev Pi:List Entry:=[⟨9,.take [0,1,2,4,5,6] false (.both 3 (.both 7 (.both 8 (.one 9 (.one 10 (.done))) (.one 9 (.one 8 (.one 10 (.done))))) (.one 9 (.one 7 (.one 8 (.one 10 (.done)))))) (.one 9 (.one 3 (.one 7 (.one 8 (.one 10 (.done)))))))⟩,⟨13,.take [0,2,3,4,5,8,10,11,12,13] false (.both 1 (.both 6 (.both 7 (.both 9 (.one 14 (.one 15 (.one 16 (.one 17 (.done))))) (.one 14 (.one 9 (.one 15 (.one 16 (.one 17 (.done))))))) (.both 9 (.both 7 (.one 14 (.one 15 (.one 16 (.one 17 (.done))))) (.one 14 (.both 7 (.one 15 (.one 16 (.one 17 (.done)))) (.one 15 (.one 7 (.one 16 (.one 17 (.done)))))))) (.one 14 (.both 7 (.one 9 (.one 15 (.one 16 (.one 17 (.done))))) (.one 9 (.both 7 (.one 15 (.one 16 (.one 17 (.done)))) (.one 15 (.one 7 (.one 16 (.one 17 (.done))))))))))) (.one 9 (.one 6 (.both 7 (.one 14 (.one 15 (.one 16 (.one 17 (.done))))) (.one 14 (.both 7 (.one 15 (.one 16 (.one 17 (.done)))) (.one 15 (.one 7 (.one 16 (.one 17 (.done))))))))))) (.both 6 (.both 1 (.both 7 (.both 9 (.one 14 (.one 15 (.one 16 (.one 17 (.done))))) (.one 14 (.one 9 (.one 15 (.one 16 (.one 17 (.done))))))) (.both 9 (.both 7 (.one 14 (.one 15 (.one 16 (.one 17 (.done))))) (.one 14 (.both 7 (.one 15 (.one 16 (.one 17 (.done)))) (.one 15 (.one 7 (.one 16 (.one 17 (.done)))))))) (.one 14 (.both 7 (.one 9 (.one 15 (.one 16 (.one 17 (.done))))) (.one 9 (.both 7 (.one 15 (.one 16 (.one 17 (.done)))) (.one 15 (.one 7 (.one 16 (.one 17 (.done))))))))))) (.both 9 (.both 1 (.both 7 (.one 14 (.one 15 (.one 16 (.one 17 (.done))))) (.one 14 (.both 7 (.one 15 (.one 16 (.one 17 (.done)))) (.one 15 (.one 7 (.one 16 (.one 17 (.done)))))))) (.one 14 (.both 1 (.both 7 (.one 15 (.one 16 (.one 17 (.done)))) (.one 15 (.one 7 (.one 16 (.one 17 (.done)))))) (.one 15 (.one 1 (.one 7 (.one 16 (.one 17 (.done))))))))) (.one 14 (.both 1 (.both 7 (.one 9 (.one 15 (.one 16 (.one 17 (.done))))) (.one 9 (.both 7 (.one 15 (.one 16 (.one 17 (.done)))) (.one 15 (.one 7 (.one 16 (.one 17 (.done)))))))) (.one 9 (.both 1 (.both 7 (.one 15 (.one 16 (.one 17 (.done)))) (.one 15 (.one 7 (.one 16 (.one 17 (.done)))))) (.one 15 (.one 1 (.one 7 (.one 16 (.one 17 (.done)))))))))))) (.one 9 (.both 1 (.one 6 (.both 7 (.one 14 (.one 15 (.one 16 (.one 17 (.done))))) (.one 14 (.both 7 (.one 15 (.one 16 (.one 17 (.done)))) (.one 15 (.one 7 (.one 16 (.one 17 (.done))))))))) (.one 6 (.both 1 (.both 7 (.one 14 (.one 15 (.one 16 (.one 17 (.done))))) (.one 14 (.both 7 (.one 15 (.one 16 (.one 17 (.done)))) (.one 15 (.one 7 (.one 16 (.one 17 (.done)))))))) (.one 14 (.both 1 (.both 7 (.one 15 (.one 16 (.one 17 (.done)))) (.one 15 (.one 7 (.one 16 (.one 17 (.done)))))) (.one 15 (.one 1 (.one 7 (.one 16 (.one 17 (.done))))))))))))))⟩,⟨23,.take [0,1,2,3,4,5,6,7,8,9,10] false (.one 11 (.take [12,13] true (.done)))⟩]
theorem B9(hs:m.solo=true){nums:List Int}(hn:nums.length<1152921504606846976)(h:KF (.val (bool true)) σ):gq Tryz.prog lay m 11 [ints nums] σ KF:=by
 refine gq.start lay [] Pi 1 Tryz.func11 rfl rfl (by rfl) (by kernel_rfl) ?_
 simp[Tryz.f11];refine aq Tryz.func13 rfl rfl (kv λc σ1 hc hb hsame=>?_)
 refine ab.run lay [] ?_;simp;refine aq Tryz.func14 rfl rfl (Eu (by omega) hn ⟨by omega,by omega⟩ hb λf σ2 hf hd=>?_)
 refine ab.run lay [] ?_;simp;refine cT.intro λd hd3=>?_
 have hfit:=hf.fits (by omega)
 have hchk:=hf.check (by omega)
 have hg:=Fr.jw hfit hchk;have h5:=hf.len;simp
 have hle:σ.Le (((σ2.set d (.cells (eP f))).del d)):=λy x hy=>by
  have y1:y≠c:=λe=>by subst e;rw[hc]at hy;cases hy
  have y0:σ2 y=some x:=by rw[hd.2 y y1,hsame y y1];exact hy
  have y2:y≠d:=λe=>by subst e;rw[hd3]at y0;cases y0
  simp only[aa.del,y2,if_false,aa.ai _ _ y2];exact y0
 have h6:=hg.pi;have hm6:=hg.most;have hlen:=fa hg [];have hcl:=rV hg;have hb1:=fa hg [0,0];have hb2:=fa hg [0,1];refine aq Tryz.func22 rfl rfl (uO hfit hchk ?_);refine ab.cZ 3 (b:=d) (aF f) (by simp) (by simp) rfl ?_
 refine ab.weaken (σ:=σ) ?_ hle;refine ab.run lay [] ?_;simp;refine aq Tryz.func18 rfl rfl (z8 hs hfit hchk ⟨by omega,by omega⟩ ?_)
 rw[hcl];refine ab.run lay [] ?_;simp
 by_cases hway:ak f []=[]
 . refine aq Tryz.func35 rfl rfl (z7 hs hfit hchk hway ?_)
   rw[hway];refine ab.run lay [] ?_;simp;refine cT.intro λc8 h8=>?_
   simp;refine wW lay K1 pQ rfl (a:=0) (b:=0) (c:=0) (d:=0) rfl (by simp) (by simp) (.inl ⟨rfl,rfl⟩) ?_
   refine ab.run lay [] ?_;simp;refine aq Tryz.func20 rfl rfl (ip hs ?_);refine ab.run lay [] ?_;simp;refine .less (λc x hx=>?_) (.done h)
   have c0:c≠c8:=λe=>by subst e;rw[h8]at hx;cases hx
   exact(aa.ai _ _ c0).trans hx
 . have hway0:=hway
   obtain⟨w,hw,hwmem⟩:=pV am hway;obtain⟨v,hv,hvmem⟩:=pV BI hway;refine aq Tryz.func35 rfl rfl (Ew hs hfit hchk hw hv (by omega) ?_)
   have hwl:∀w∈ak f [],w.length=f.az.length:=λw hw=>by have:=dA f [] _ _ _ _ w hw;simpa using this
   have hwm:∀w∈ak f [],∀x∈w,0<=x/\x<f.most:=λw hw=>oO f [] _ _ _ _ (by simp) w hw
   have hhl:∀w∈ak f [],0<=am w/\am w<=6:=λw hw=>⟨bP w,sW w 6 (by omega) λx hx=>by have:=hwm w hw x hx;omega⟩
   obtain⟨L,hL⟩:∃L,L=ak f []:=⟨_,rfl⟩;rw[<-hL]at hwl hwm hhl hlen hw hv hwmem hvmem hway ⊢
   have hpos:0<L.length:=by
    cases L with
    |nil=>exact absurd rfl hway
    |cons a r=>simp
   have hp0:((L.length:Int)==0)=false:=by rw[beq_eq_false_iff_ne];omega
   have hL0:L[0]?=some L[0]:=List.getElem?_eq_getElem hpos;have hwn:=wZ hpos hw;have hvn:=wZ hpos hv;rw[z5 am L]at hvn;refine ab.run lay [] ?_;simp;refine cT.intro λc8 h8=>?_
   simp[hp0,hL0];apply Dm (I:=λenv σ'=>∃c10,σ c10=none/\c10≠c8/\env 3=.cp (aF f) 0/\env 4=rows L/\env 6=int L.length/\env 8=.ref c8 0/\env 9=int 0/\env 10=.ref c10 0/\σ'=(σ.set c8 (.cells [int (am w),int (am v)])).set c10 (.cells [int (am L[0]),int (am L[0])]))
   . intro hrest
     repeat' (first
               |apply And.intro
               | (refine aq Tryz.func23 rfl rfl (qO (by rw[hwl _ (List.getElem_mem hpos)];omega) (λx hx=>by have:=hwm _ (List.getElem_mem hpos) x hx;omega) ?_)
                  refine bm.go lay [] ?_;simp[hp0,hL0,aS])
               | (refine z9.intro λc10 h10=>?_
                  obtain⟨z1,z2,h10⟩:=aa.aO h10;simp[hp0,hL0,aS]))
     all_goals (
      refine hrest _ _ ?_;refine⟨c10,h10,z1,?_,?_,?_,?_,?_,?_,?_⟩
      all_goals simp)
   rintro env σ' ⟨c10,h10,z1,e3,e4,e6,e8,e9,aJ,rfl⟩
   have z2:c8≠c10:=Ne.symm z1;refine ab.run lay [] ?_;simp[e3,e4,e6,e8,e9,aJ]
   refine ab.loop L.length (λi s=>∃env lo hi,s=⟨env,(σ.set c8 (.cells [int (am w),int (am v)])).set c10 (.cells [int lo,int hi]),[],.no⟩/\env 3=.cp (aF f) 0/\env 4=rows L/\env 6=int L.length/\env 8=.ref c8 0/\env 9=int 0/\env 10=.ref c10 0/\env 11=int i/\lo=(L.take i).foldl (λa x=>min a (am x)) (am L[0])/\hi=(L.take i).foldl (λa x=>max a (am x)) (am L[0]))
    ⟨_,_,_,rfl,by simp[e3],by simp[e4],by simp[e6],by simp[e8],by simp[e9],by simp[aJ],by simp,rfl,rfl⟩ ?_
   clear e3 e4 e6 e8 e9 aJ
   rintro c0 i _ hi ⟨env,lo,hi',rfl,e3,e4,e6,e8,e9,aJ,aI,hlo,hhi⟩ ih
   rcases Nat.lt_or_ge i L.length with g1|g1
   . have g1':(i:Int)<L.length:=by omega
     have f1:-9223372036854775808<=(i:Int)+1/\(i:Int)+1<=9223372036854775807:=by omega
     have hlo1:(L.take (i+1)).foldl (λa x=>min a (am x)) (am L[0])=min lo (am L[i]):=by rw[List.take_succ_eq_append_getElem g1,List.foldl_append,<-hlo];rfl
     have hhi1:(L.take (i+1)).foldl (λa x=>max a (am x)) (am L[0])=max hi' (am L[i]):=by rw[List.take_succ_eq_append_getElem g1,List.foldl_append,<-hhi];rfl
     refine ab.run lay [] ?_;simp[e3,e4,e6,e8,e9,aJ,aI,g1,aa.ao]
     repeat' (first
               |apply And.intro
               | (refine aq Tryz.func23 rfl rfl (qO (by rw[hwl _ (List.getElem_mem g1)];omega) (λx hx=>by have:=hwm _ (List.getElem_mem g1) x hx;omega) ?_)
                  refine bm.go lay [] ?_;simp[e3,e4,e6,e8,e9,aJ,aI,g1,aa.ao]))
     all_goals (
      refine ab.run lay [] ?_;simp[aI,f1.1,f1.2];refine ih _ g1 ⟨_,_,_,by first|rfl|(rw[aa.set_set]),by simp[e3],by simp[e4],by simp[e6],by simp[e8],by simp[e9],by simp[aJ],by simp,?_,?_⟩
      . rw[hlo1];split<;>omega
      . rw[hhi1];split<;>omega)
   have hie:i=L.length:=by omega
   subst hie;rw[List.take_length]at hlo hhi;have hl1:lo=am w:=by rw[hlo,hwn]
   have hl2:hi'=am v:=by have hv2:BI v=-am v:=rfl;rw[hv2]at hvn;rw[hhi];omega
   subst hl1;subst hl2;refine ab.run lay [] ?_;simp[e3,e4,e6,e8,e9,aJ,aI,aa.ao,aa.ai,z1,z2];refine wW lay K1 pQ rfl (a:=am w) (b:=am v) (c:=am w) (d:=am v) (r:=false) rfl (by simp) (by simp) (.inr ⟨rfl,by simp⟩) ?_
   refine ab.weaken (σ:=σ) ?_ (λy x hy=>?_)
   . clear ih
     refine ab.run lay [] ?_;simp[e3,e4,e6,e8,e9,aJ,aI];refine ab.loop f.az.length (λx s=>∃env,s=⟨env,σ,[],.no⟩/\env 3=.cp (aF f) 0/\env 4=rows L/\env 6=int L.length/\env 12=int x) ⟨_,rfl,by simp[e3],by simp[e4],by simp[e6],by simp⟩ ?_
     clear e3 e4 e6 e8 e9 aJ aI
     rintro c1 x _ hx ⟨env,rfl,e3,e4,e6,bh⟩ ihx
     rcases Nat.lt_or_ge x f.az.length with g1|g1
     . have g1':(x:Int)<f.az.length:=by omega
       have f1:-9223372036854775808<=(x:Int)+1/\(x:Int)+1<=9223372036854775807:=by omega
       refine ab.run lay [] ?_;simp[e3,e4,e6,bh,g1'];refine ab.loop L.length (λi s=>∃env,s=⟨env,σ,[],.no⟩/\env 3=.cp (aF f) 0/\env 4=rows L/\env 6=int L.length/\env 12=int x/\env 13=int (((L.take i).filter (cB x)).length:Int)/\env 14=int i) ⟨_,rfl,by simp[e3],by simp[e4],by simp[e6],by simp[bh],by simp,by simp⟩ ?_
       clear e3 e4 e6 bh
       rintro c2 i _ hi ⟨env,rfl,e3,e4,e6,bh,e13,eM⟩ ihi
       rcases Nat.lt_or_ge i L.length with g2|g2
       . have ns:(i:Int)<L.length:=by omega
         obtain⟨wi,hwi⟩:∃wi,wi=L[i]:=⟨_,rfl⟩;have hwil:=hwl _ (List.getElem_mem g2);rw[<-hwi]at hwil;have hxw:x<wi.length:=by omega
         have hlk:((L.take i).filter (cB x)).length<=i:=Nat.le_trans (List.length_filter_le _ _) (by rw[List.length_take];omega)
         have f2:-9223372036854775808<=(i:Int)+1/\(i:Int)+1<=9223372036854775807:=by omega
         have f3:-9223372036854775808<=(((L.take i).filter (cB x)).length:Int)+1/\(((L.take i).filter (cB x)).length:Int)+1<=9223372036854775807:=by omega
         have hsucc:(L.take (i+1)).filter (cB x)=(L.take i).filter (cB x)++if cB x wi=true then[wi]else[]:=by
          rw[List.take_succ_eq_append_getElem g2,List.filter_append,<-hwi]
          by_cases e:cB x wi=true<;>simp[e]
         have hap:cB x wi=decide ((au wi wi[x]).length=1):=by simp[cB,List.getD_eq_getElem?_getD,hxw]
         refine ab.run lay [] ?_;simp[e3,e4,e6,bh,e13,eM,g2,<-hwi,hxw];refine aq Tryz.func36 rfl rfl (qP (by omega) ?_)
         by_cases q:(au wi wi[x]).length=1
         . rw[hap,if_pos (decide_eq_true q)]at hsucc
           have hq:(((au wi wi[x]).length:Int)==1)=true:=by simp[q]
           refine bm.go lay [] ?_;simp[e3,e4,e6,bh,e13,eM,hq];refine ab.run lay [] ?_;simp[e3,e4,e6,bh,e13,eM,f2.1,f2.2,f3.1,f3.2];refine ihi _ g2 ⟨_,rfl,by simp[e3,e4,e6,bh,e13,eM],by simp[e3,e4,e6,bh,e13,eM],by simp[e3,e4,e6,bh,e13,eM],by simp[e3,e4,e6,bh,e13,eM],by simp[hsucc],by simp⟩
         . rw[hap,if_neg (by simpa using q),List.append_nil]at hsucc
           have hq:(((au wi wi[x]).length:Int)==1)=false:=by rw[beq_eq_false_iff_ne];omega
           refine bm.go lay [] ?_;simp[e3,e4,e6,bh,e13,eM,hq];refine ab.run lay [] ?_;simp[e3,e4,e6,bh,e13,eM,f2.1,f2.2];refine ihi _ g2 ⟨_,rfl,by simp[e3,e4,e6,bh,e13,eM],by simp[e3,e4,e6,bh,e13,eM],by simp[e3,e4,e6,bh,e13,eM],by simp[e3,e4,e6,bh,e13,eM],by simp[hsucc,e13],by simp⟩
       . have hie:i=L.length:=by omega
         subst hie;rw[List.take_length]at e13;have hfa:((L.filter (cB x)).length:Int)<=L.length:=by have:=List.length_filter_le (cB x) L;omega
         refine ab.run lay [] ?_;simp[e3,e4,e6,bh,e13,eM];refine aq Tryz.func29 rfl rfl (uf hs hfit hchk ⟨by omega,by omega⟩ hway0 (by rw[<-hL];omega) ?_)
         rw[<-hL,bx (by omega) hfa (by omega)]
         refine ab.run lay [] ?_;simp[e3,e4,e6,bh,e13,eM];refine aq Tryz.func37 rfl rfl (Dl ?_);refine ab.run lay [] ?_;simp[e3,e4,e6,bh,e13,eM];refine ab.loop f.az.length (λy s=>∃env,s=⟨env,σ,[],.no⟩/\env 3=.cp (aF f) 0/\env 4=rows L/\env 6=int L.length/\env 12=int x/\env 17=int y) ⟨_,rfl,by simp[e3],by simp[e4],by simp[e6],by simp[bh],by simp⟩ ?_
         clear e3 e4 e6 bh e13 eM
         rintro c3 y _ hy ⟨env,rfl,e3,e4,e6,bh,e17⟩ ihy
         rcases Nat.lt_or_ge y f.az.length with g3|g3
         . have tE:(y:Int)<f.az.length:=by omega
           have f2:-9223372036854775808<=(y:Int)+1/\(y:Int)+1<=9223372036854775807:=by omega
           have hfs:((L.filter (aC x y)).length:Int)<=L.length:=by have:=List.length_filter_le (aC x y) L;omega
           refine ab.run lay [] ?_;simp[e3,e4,e6,bh,e17,tE];refine aq Tryz.func27 rfl rfl (jr hs hfit hchk ⟨by omega,by omega⟩ ⟨by omega,by omega⟩ hway0 (by rw[<-hL];omega) ?_)
           rw[<-hL,bx (by omega) hfs (by omega)]
           refine ab.run lay [] ?_;simp[e3,e4,e6,bh,e17];refine aq Tryz.func31 rfl rfl (nW (by omega) ⟨by omega,λw hw=>by rw[hwl w hw];omega⟩ ⟨by omega,λw hw=>by rw[hwl w hw];omega⟩ ?_)
           refine ab.run lay [] ?_;simp[e3,e4,e6,bh,e17];refine aq Tryz.func37 rfl rfl (Dl ?_);refine ab.run lay [] ?_;simp[e3,e4,e6,bh,e17,f2.1,f2.2];exact ihy _ g3 ⟨_,rfl,by simp[e3,e4,e6,bh,e17],by simp[e3,e4,e6,bh,e17],by simp[e3,e4,e6,bh,e17],by simp[e3,e4,e6,bh,e17],by simp⟩
         . have hye:y=f.az.length:=by omega
           subst hye;refine ab.run lay [] ?_;simp[e3,e4,e6,bh,e17,f1.1,f1.2];exact ihx _ g1 ⟨_,rfl,by simp[e3,e4,e6,bh,e17],by simp[e3,e4,e6,bh,e17],by simp[e3,e4,e6,bh,e17],by simp⟩
     . have hxe:x=f.az.length:=by omega
       subst hxe;refine ab.run lay [] ?_;simp[e3,e4,e6,bh];refine aq Tryz.func20 rfl rfl (ip hs ?_);refine ab.run lay [] ?_;simp[e3,e4,e6,bh];exact .done h
   . have y1:y≠c8:=λe=>by subst e;rw[h8]at hy;cases hy
     have y2:y≠c10:=λe=>by subst e;rw[h10]at hy;cases hy
     show((σ.set c8 _).set c10 _) y=some x;rw[aa.ai _ _ y2,aa.ai _ _ y1];exact hy
end MA
end Go.Proofs.YtalogdafegmilaaGreatDoor
