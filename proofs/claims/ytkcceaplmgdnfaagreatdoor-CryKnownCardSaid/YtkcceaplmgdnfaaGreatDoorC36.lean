import Derived.Test.YtkcceaplmgdnfaaGreatDoorC35
set_option linter.all false
namespace Go.Proofs.YtkcceaplmgdnfaaGreatDoor
open Go.Proofs.Tryz (prog)
open Go Go.bu Go.Conc
set_option maxHeartbeats 1000000
set_option maxRecDepth 4000
variable{m:Mo}{σ:aa}{KF:cJ->aa->Prop}
def bH.more(w:bH)(c:AB):bH:={w with aD:=w.aD++[c]}
abbrev uq:List AV:=[.lit (.slice none 0 0),.lit (.slice none 0 0),int 0,int 0,int 0,int 0,int 0,.lit (.slice none 0 0),.lit (.slice none 0 0)]
abbrev Ax(w:bH)(p q a:AV):List AV:=[p,q,int w.fair.bV,int w.fair.jj,int w.fair.oZ,int w.fair.eQ,int w.aS,nv w.ways,a]
theorem NO{a a' b:AV}(h:a.W a'):(AV.bp [a,b]).W (.bp [a',b]):=λk v d=>by
 cases d with
 | bp c l e f=>
   refine .bp c _ e λi v x g j=>?_
   cases i with
   |zero=>cases j;exact h k v (f 0 v a g rfl)
   |succ i=>grind
namespace AD
abbrev UF:List Entry:=[⟨8,.take [0,1,2,3,4,5,6,7,9,13] false (.both 8 (.one 10 (.one 11 (.take [12] true (.done)))) (.one 10 (.one 8 (.one 11 (.take [12] true (.done))))))⟩,⟨22,.take [0,1,7,8] false (.both 2 (.one 3 (.one 4 (.one 5 (.one 6 (.one 9 (.done)))))) (.one 3 (.both 2 (.one 4 (.one 5 (.one 6 (.one 9 (.done))))) (.one 4 (.both 2 (.one 5 (.one 6 (.one 9 (.done)))) (.one 5 (.take [2] true (.one 6 (.one 9 (.done))))))))))⟩,⟨28,.take [0,1,3,7,8] false (.both 2 (.one 4 (.one 5 (.one 6 (.one 9 (.done))))) (.one 4 (.both 2 (.one 5 (.one 6 (.one 9 (.done)))) (.one 5 (.take [2] true (.one 6 (.one 9 (.done))))))))⟩]
theorem FL(hs:m.solo=true){w:bH}{c:AB}(hw:w.iU)(h0:fN w=0)(h3:w.aD.length<3)(c7:(w.more c).iU)(ca:w.fair.roads.length<=1000/\∀r∈w.fair.roads,r.length<=1000000000)(cb:∀x∈w.fair.aF,x.marks.length<=1000000000)(cg:∀x∈(w.more c).aD,x.lost.marks.length<=1000000000)(h1:fN (w.more c)≠0->KF (.val (.bp [.agg uq,int (fN (w.more c))])) σ)(h2:fN (w.more c)=0->KF (.val (.bp [aT (w.more c),int 0])) σ):aB prog m 36 [aT w,bM c] σ KF:=by
 refine fs UF 2 Tryz.func36 rfl rfl (by rfl) (by kernel_rfl) ?_
 simp[Tryz.f36];refine bq.intro λo ez=>?_
 simp;refine cf Tryz.func33 rfl (fP hs hw ?_);rw[h0];have q3:((w.aD.length:Int)==3)=false:=by grind
 refine rn ?_;simp[q3];refine bq.intro λd ay=>?_
 obtain⟨z1,z2,et⟩:=aa.aH ay;simp;generalize a7:((σ.set o (.cells uq)).set d (.cells (lu w (.lit (.slice none 0 0)))))=sb;have b4:sb o=some (.cells uq):=by subst a7;rw[aa.ak _ _ (by assumption)];simp_all
 have bx:sb d=some (.cells (lu w (.lit (.slice none 0 0)))):=by subst a7;simp_all
 have b1:σ.Le sb:=λy v n=>by
  have J:y≠o:=λe=>by simp_all
  have D:y≠d:=λe=>by simp_all
  subst a7;rw[aa.ak _ _ D,aa.ak _ _ J];exact n
 have cm:(w.aD.map bM).length+[bM c].length<=1073741824:=by simp;omega
 have cr:w.aD.map bM++[bM c]≠[]:=by simp
 have cv:∀sp,(AV.sl 8 (w.aD.map bM++[bM c]) sp).W (fh (w.more c).aD):=λsp=>by
  rw[show fh (w.more c).aD=.sl 8 (w.aD.map bM++[bM c]) .any by simp[bH.more]]
  exact bQ _ _ _
 apply LR
 . intro key
   repeat' first
    |refine⟨?_,?_⟩
    | (refine jy lay rfl um rfl DO (es:=w.aD.map bM) (sp:=.any) (l:=0) (h:=w.aD.length) (by simp) (λcap b2=>⟨⟨⟨.i64,by simp⟩,by simpa using b2⟩,⟨⟨.i64,by simp⟩,Nat.le_refl _⟩,rfl⟩) (by simp) λa hq=>?_
       have N:Tok sb sb a 8 (w.aD.map bM):=by
        rcases hq with rfl|⟨h1,rfl⟩
        . have:List.take (w.aD.length-0) (List.drop 0 (w.aD.map bM))=w.aD.map bM:=by rw[List.drop_zero,List.take_of_length_le (by simp)]
          rw[this];exact⟨aa.le_refl _,.inr (.inl rfl)⟩
        . exact⟨aa.le_refl _,.inl ⟨rfl,h1⟩⟩
       have b3:=N.cells;clear hq;refine pg ?_;simp)
    | (refine aR lay rfl rfl rfl um rfl um rfl DO (by decide) cm (σ0:=sb) (es:=w.aD.map bM) (xs:=[bM c]) (by simpa using N) (.inr ⟨_,by simp;rfl⟩) λa2 eA b5=>?_
       obtain⟨dj,rfl⟩:=NN b5 cr;refine pg ?_;simp;refine af.CS 39 (a':=fh (w.more c).aD) (cv dj) ?_;refine af.mH (λe s=>(e 2=.cp (aT w) 0/\e 4=.ref o 0/\e 7=.ref d 0/\e 39=fh (w.more c).aD/\e 40=int ((w.aD.length:Int)+1)/\e 41=int 0)/\sb.Le s) ⟨by simp,b5.1⟩ ?_
       exact key)
 rintro env s0 ⟨⟨X,Z,H,O,al,P⟩,I⟩
 have dm:=I _ _ bx;have dr:=I _ _ b4;have b6:=aa.le_trans b1 I;clear I bx b4 b1 a7 ay q3;obtain⟨K,Q⟩:∃K,K=(w.more c).aD:=⟨_,rfl⟩;have ev:K.length=w.aD.length+1:=by rw[Q];simp[bH.more]
 rw[<-Q]at O;refine rn ?_;simp;refine af.loop K.length (λi s=>∃env b a,s=⟨env,b,[],.no⟩/\(env 2=.cp (aT w) 0/\env 4=.ref o 0/\env 7=.ref d 0/\env 39=fh K/\env 40=int K.length/\env 41=int i)/\Tok (s0.del d) b a 8 ((K.take i).map bM)/\b d=some (.cells (lu w a))) ⟨env,s0,.nil,rfl,⟨X,Z,H,O,by simp_all,P⟩,⟨λy v n=>?_,.inl ⟨rfl,by simp⟩⟩,dm⟩ ?_
 . simp only[aa.del]at n
   simp_all
 rintro c0 i _ hi ⟨env,b,a,rfl,⟨X,Z,H,O,al,P⟩,j,k⟩ ih
 refine rn ?_;simp[al,P];refine aG.intro (λg1=>?_) (λg1=>?_)<;>(try simp[-Int.not_lt,-Int.not_le,-Nat.not_lt,-Nat.not_le]at g1)<;>(try simp[H,O,P,g1])
 . have u:=cg _ (by rw[<-Q];exact List.getElem_mem g1)
   obtain⟨x,z⟩:∃x,x=K[i]:=⟨_,rfl⟩;simp only[<-z]at u ⊢;refine bq.intro λM b7=>?_
   have nx:d≠M:=λe=>by simp_all
   simp;refine cf Tryz.func78 rfl (FK (e:=x.lost) u ?_);have E:∀Y,(b.set M Y) d=some (.cells (lu w a)):=λY=>(aa.ak _ _ nx).trans k
   refine rn ?_;simp[H,E,aL];have R:∀Y,b.Le (b.set M Y):=λY y v h=>(aa.ak _ _ λe=>by rw[e,b7]at h;cases h).trans h
   generalize A:b.set M _=sa;have S:sa d=some (.cells (lu w a)):=by subst A;exact E _
   have F:Tok (s0.del d) sa a 8 ((K.take i).map bM):=by subst A;exact j.up (R _)
   clear R E A;have T:(K.take (i+1)).map bM=(K.take i).map bM++[bM x]:=by rw[List.take_succ_eq_append_getElem g1,List.map_append,<-z];rfl
   have U:cq a≠some d:=λe=>by obtain⟨_,y,q⟩:=F.bZ e;rw[S]at q;cases q
   refine aR lay rfl rfl rfl um rfl um rfl DO (by decide) (by simp only[List.length_map,List.length_take,List.length_cons,List.length_nil];omega) (σ0:=sa.off a) (es:=(K.take i).map bM) (xs:=[bM x]) (by simpa using F.here.1) (.inr ⟨_,rfl⟩) λa' g f=>?_
   rw[<-T]at f;have B:g d=some (.cells (lu w a)):=f.1 _ _ ((aa.gT U).trans S);have V:=f.cells;have C:cq a'≠some d:=λe=>by obtain⟨_,y,q⟩:=f.bZ e;rw[B]at q;cases q
   refine rn ?_;simp[H,P,B,V];refine⟨by omega,ih _ (by omega) ⟨_,_,a',rfl,by simp[X,Z,H,O,al],(f.base F.here.2).beside (by simp[aa.del]) C,aa.ao _ _ _⟩⟩
 . have ei : i=K.length:=by omega
   subst ei;rw[List.take_length]at j
   have dx:Wl [.agg (lu w a)] [aT (w.more c)]:=.cons (nC rfl λi x y L G=>by
    change (lu w (fh (w.more c).aD))[i]?=some y at G
    rw[<-wZ w a]at G
    by_cases e:i=8
    . subst e
      cases L;cases G;rw[<-Q];exact j.W
    . rw[List.getElem?_set_ne (Ne.symm e),L]at G
      cases G;exact .refl _) .nil
   simp[k];refine aM Tryz.func33 rfl rfl dx (fP hs c7 ?_);refine rn ?_;simp;have br:b o=some (.cells uq):=j.1 _ _ (by simp only[aa.del,z2,if_false];exact dr)
   have ar:∀y v,σ y=some v->y≠o/\y≠d/\b y=some v:=λy v n=>by
    have J:y≠o:=λe=>by grind
    have D:y≠d:=λe=>by grind
    exact⟨J,D,j.1 _ _ (by simp only[aa.del,D,if_false];exact b6 _ _ n)⟩
   refine aG.intro (λg5=>?_) (λg5=>?_)<;>(try simp[-Int.not_lt,-Int.not_le,-Nat.not_lt,-Nat.not_le]at g5)<;>(try simp[X,Z,g5,br])
   . refine .less (λy v n=>?_) (.done (h1 g5))
     obtain⟨J,D,y5⟩:=ar y v n;exact (aa.ak _ _ J).trans y5
   . have hv:=bH.valid hw h0
     have ey:=hv.XQ;have eB:=hv.qt;refine cf Tryz.func79 rfl (Aw (by omega) ?_)
     refine rn ?_;simp[X,H,k];have b3:=j.cells;have dy:a.W (fh (w.more c).aD):=by rw[<-Q];exact j.W
     generalize a8:b.set d _=s1;have b8:s1 d=some (.cells (Ax w (.lit (.slice none 0 0)) (rows w.fair.roads) a)):=by subst a8;exact aa.ao _ _ _
     have b9:s1 o=some (.cells uq):=by subst a8;exact (aa.ak _ _ z2).trans br
     have ab:∀y v,σ y=some v->y≠o/\y≠d/\s1 y=some v:=λy v n=>by obtain⟨J,D,y5⟩:=ar y v n;subst a8;exact⟨J,D,(aa.ak _ _ D).trans y5⟩
     clear a8 ar br k j ih;refine af.loop w.fair.aF.length (λi s=>∃env g p,s=⟨env,g,[],.no⟩/\(env 2=.cp (aT w) 0/\env 4=.ref o 0/\env 7=.ref d 0/\env 70=iY w.fair.aF/\env 71=int w.fair.aF.length/\env 72=int i)/\Tok (s1.del d) g p 6 ((w.fair.aF.take i).map dw)/\g d=some (.cells (Ax w p (rows w.fair.roads) a))) ⟨_,s1,.nil,rfl,by simp_all,⟨λy v n=>?_,.inl ⟨rfl,by simp⟩⟩,b8⟩ ?_
     . simp only[aa.del]at n
       simp_all
     rintro c1 i _ hi ⟨env,b,p,rfl,⟨X,Z,H,Rq,Rr,Qr⟩,j,k⟩ ih
     refine rn ?_;simp[Rr,Qr];refine aG.intro (λg6=>?_) (λg6=>?_)<;>(try simp[-Int.not_lt,-Int.not_le,-Nat.not_lt,-Nat.not_le]at g6)<;>(try simp[H,Rq,Qr,g6])
     . have u:=cb _ (List.getElem_mem g6)
       obtain⟨x,z⟩:∃x,x=w.fair.aF[i]:=⟨_,rfl⟩;simp only[<-z]at u ⊢;refine bq.intro λM b7=>?_
       have nx:d≠M:=λe=>by simp_all
       have E:∀Y,(b.set M Y) d=some (.cells (Ax w p (rows w.fair.roads) a)):=λY=>(aa.ak _ _ nx).trans k
       simp[H,E];have R:∀Y,b.Le (b.set M Y):=λY y v h=>(aa.ak _ _ λe=>by grind).trans h
       have bm:∀Y,(b.set M Y) M=some Y:=λY=>aa.ao _ _ _
       generalize A:b.set M _=sa;have S:sa d=some (.cells (Ax w p (rows w.fair.roads) a)):=by subst A;exact E _
       have eK:sa M=some (.cells [int x.hour,int x.place,int x.lr,ints x.marks,int x.bS,int x.pr]):=by subst A;exact bm _
       have F:Tok (s1.del d) sa p 6 ((w.fair.aF.take i).map dw):=by subst A;exact j.up (R _)
       clear R E bm A;have T:(w.fair.aF.take (i+1)).map dw=(w.fair.aF.take i).map dw++[dw x]:=by rw[List.take_succ_eq_append_getElem g6,List.map_append,<-z];rfl
       have U:cq p≠some d:=λe=>by obtain⟨_,y,q⟩:=F.bZ e;grind
       have av:((w.fair.aF.take i).map dw).length+[dw x].length<=1073741824:=by simp only[List.length_map,List.length_take,List.length_cons,List.length_nil];omega
       repeat' first
        |refine⟨?_,?_⟩
        | (refine cf Tryz.func78 rfl (FK (e:=x) u ?_)
           refine pg ?_;simp[S])
        | (refine aR lay rfl rfl rfl wx rfl wx rfl JS (by decide) av (σ0:=sa.off p) (es:=(w.fair.aF.take i).map dw) (xs:=[dw x]) (by simpa using F.here.1) (.inr ⟨_,rfl⟩) λa' g f=>?_
           rw[<-T]at f;have B:g d=some (.cells (Ax w p (rows w.fair.roads) a)):=f.1 _ _ ((aa.gT U).trans S);have V:=f.cells;have C:cq a'≠some d:=λe=>by obtain⟨_,y,q⟩:=f.bZ e;rw[B]at q;cases q
           refine pg ?_;simp[B,V,aL];refine rn ?_;simp[Qr];refine⟨by omega,ih _ (by omega) ⟨_,_,a',rfl,by simp[X,Z,H,Rq,Rr],(f.base F.here.2).beside (by simp[aa.del]) C,aa.ao _ _ _⟩⟩)
     . have ei:i=w.fair.aF.length:=by omega
       subst ei;rw[List.take_length]at j;have e0:=j.W;have ea:=j.cells;have bw:b o=some (.cells uq):=j.1 _ _ (by simp only[aa.del,z2,if_false];exact b9)
       have ad:∀y v,σ y=some v->y≠o/\y≠d/\b y=some v:=λy v n=>by obtain⟨J,D,y5⟩:=ab y v n;exact⟨J,D,j.1 _ _ (by simp only[aa.del,D,if_false];exact y5)⟩
       simp[X,k,aL];generalize a9:b.set d _=s2;have eb:s2 d=some (.cells (Ax w p (.lit (.slice none 0 0)) a)):=by subst a9;exact aa.ao _ _ _
       have ec:s2 o=some (.cells uq):=by subst a9;exact (aa.ak _ _ z2).trans bw
       have bA:∀y v,σ y=some v->y≠o/\y≠d/\s2 y=some v:=λy v n=>by obtain⟨J,D,y5⟩:=ad y v n;subst a9;exact⟨J,D,(aa.ak _ _ D).trans y5⟩
       clear a9 ad ab bw b9 b8 k j ih;refine af.loop w.fair.roads.length (λi s=>∃env g q,s=⟨env,g,[],.no⟩/\(env 2=.cp (aT w) 0/\env 4=.ref o 0/\env 7=.ref d 0/\env 90=rows w.fair.roads/\env 91=int w.fair.roads.length/\env 92=int i)/\Tok (s2.del d) g q 1 ((w.fair.roads.take i).map ints)/\g d=some (.cells (Ax w p q a))) ⟨_,s2,.nil,rfl,by simp_all,⟨λy v n=>?_,.inl ⟨rfl,by simp⟩⟩,eb⟩ ?_
       . simp only[aa.del]at n
         simp_all
       rintro c2 i _ hi ⟨env,b,q,rfl,⟨X,Z,H,bB,c6,ax⟩,j,k⟩ ih
       refine rn ?_;simp[c6,ax];refine aG.intro (λg7=>?_) (λg7=>?_)<;>(try simp[-Int.not_lt,-Int.not_le,-Nat.not_lt,-Nat.not_le]at g7)<;>(try simp[Z,H,bB,ax,g7,k])
       . have u:=ca.2 _ (List.getElem_mem g7)
         obtain⟨x,z⟩:∃x,x=w.fair.roads[i]:=⟨_,rfl⟩;simp only[<-z]at u ⊢;have T:(w.fair.roads.take (i+1)).map ints=(w.fair.roads.take i).map ints++[ints x]:=by rw[List.take_succ_eq_append_getElem g7,List.map_append,<-z];rfl
         have U:cq q≠some d:=λe=>by obtain⟨_,y,t⟩:=j.bZ e;simp_all
         have av:((w.fair.roads.take i).map ints).length+[ints x].length<=1073741824:=by grind
         repeat' first
          |refine⟨?_,?_⟩
          | (refine cf Tryz.func80 rfl (CE u ?_)
             refine pg ?_;simp[k])
          | (refine aR lay rfl rfl rfl sH rfl sH rfl dT (by decide) av (σ0:=b.off q) (es:=(w.fair.roads.take i).map ints) (xs:=[ints x]) (by simpa using j.here.1) (.inr ⟨_,rfl⟩) λa' g f=>?_
             rw[<-T]at f;have B:g d=some (.cells (Ax w p q a)):=f.1 _ _ ((aa.gT U).trans k);have V:=f.cells;have C:cq a'≠some d:=λe=>by obtain⟨_,y,t⟩:=f.bZ e;rw[B]at t;cases t
             refine pg ?_;simp[B,V,aL];refine rn ?_;simp[ax];refine⟨by omega,ih _ (by omega) ⟨_,_,a',rfl,by simp[X,Z,H,bB,c6],(f.base j.here.2).beside (by simp[aa.del]) C,aa.ao _ _ _⟩⟩)
       . have ei:i=w.fair.roads.length:=by omega
         subst ei;rw[List.take_length]at j;have ed:b o=some (.cells uq):=j.1 _ _ (by simp only[aa.del,z2,if_false];exact ec)
         have ee:=j.cells;have eg:=j.W;simp[Z,ed,aL,ea.2,b3.2,ee.2]
         have ej:(AV.agg (Ax w p q a)).W (aT (w.more c)):=nC rfl λi x y L G=>by
          match i with
          |0=>cases L;cases G;exact e0
          |1=>cases L;cases G;exact eg
          |2=>cases L;cases G;exact .refl _
          |3=>cases L;cases G;exact .refl _
          |4=>cases L;cases G;exact .refl _
          |5=>cases L;cases G;exact .refl _
          |6=>cases L;cases G;exact .refl _
          |7=>cases L;cases G;exact .refl _
          |8=>cases L;cases G;exact dy
          |i+9=>cases L
         refine .lV (NO ej) (.less (λy v n=>?_) (.done (h2 (by omega))))
         obtain⟨J,D,y5⟩:=bA y v n;rw[aa.ak _ _ J];exact j.1 _ _ (by simp only[aa.del,D,if_false];exact y5)
end AD
def mN:List AV:=flatten (im.map jQ)
abbrev Mj(r:Nat):AV:=.agg (pv (lW 3)|>.set 7 (.kB r 0 3 3))
theorem tV(h:∀r,σ r=none->KF (.val (Mj r)) (σ.set r (.cells mN))):aB prog m 32 [int 3] σ KF:=by
 have B:∀a b c d e:Int,∀l:List Int,Wl [int a,int b,int c,int d,int e,.sl 1 (l.map int) .exact] [int a,int b,int c,int d,int e,ints l]:=λa b c d e l=>.cons (.refl _) (.cons (.refl _) (.cons (.refl _) (.cons (.refl _) (.cons (.refl _) (.cons (bQ 1 _ .exact) .nil)))))
 have t:∀a b c d e:Int,Wl [int a,int b,int c,int d,int e,.lit (.slice none 0 0)] [int a,int b,int c,int d,int e,ints []]:=λa b c d e=>.cons (.refl _) (.cons (.refl _) (.cons (.refl _) (.cons (.refl _) (.cons (.refl _) (.cons (cz 1) .nil)))))
 refine fs Pu 1 Tryz.func32 rfl rfl (by rfl) (by kernel_rfl) ?_
 simp[Tryz.f32];refine bq.intro λwb u=>?_
 simp;refine aM Tryz.func37 rfl rfl (B 10 0 1 15 0 [0]) (cC ?_);refine rn ?_;simp;refine aM Tryz.func37 rfl rfl (t 12 0 1 16 1) (cC ?_);refine rn ?_;simp;refine aM Tryz.func37 rfl rfl (t 14 0 2 14 0) (cC ?_);refine rn ?_;simp;refine aM Tryz.func37 rfl rfl (t 16 0 1 14 0) (cC ?_);refine af.runN lay [] 9 ?_;simp[aL];refine bq.intro λfb k=>?_
 obtain⟨I,J,C⟩:=aa.aH k;simp[aL]
 change af _ _ _ _ _ _ _ _ _
 refine af.aV 3 (b:=fb) (.agg [.sl 6 (tT.map dw) .exact,.sl 1 [.sl 1 [int 0,int 2] .exact,.sl 1 [int 2,int 0] .exact] .exact,int 1,int 2,int 3,int 3]) (aa.ao _ _ _) (by simp) rfl ?_
 rw[dz k];refine rn ?_;simp;refine cf Tryz.func68 rfl (kg ?_);refine rn ?_;simp;refine cf Tryz.func68 rfl (kg ?_);refine rn ?_;simp;refine cf Tryz.func68 rfl (kg ?_);refine af.op rfl (bs rfl) (by simp) (by simp) ?_
 refine lP lay (es:=im.map jQ) rfl DN rfl JR (by decide) (by rfl) (.inr (by rfl)) ⟨by rfl,λe D=>?_⟩ (by rfl) λr F=>?_
 . simp[im]at D
   rcases D with rfl|rfl|rfl<;>rfl
 refine rn ?_;simp;obtain⟨n,G,v⟩:=aa.aH F;have KA:∀Y,((σ.set wb (.cells uq)).set r Y) wb=some (.cells uq):=λY=>(aa.ak _ _ (Ne.symm n)).trans (aa.ao _ _ _)
 have w:(3:Nat)<=3:=by omega
 have y:∀Y,(σ.set r (.cells mN)).Le (((σ.set wb (.cells uq)).set r (.cells (flatten (im.map jQ)))).set wb Y):=λY c x j=>by
  by_cases e:c=r
  . subst e
    rw[aa.ao]at j;rw[aa.ak _ _ n,aa.ao];exact j
  . rw[aa.ak _ _ e]at j
    have E:c≠wb:=λq=>by rw[q,u]at j;cases j
    rw[aa.ak _ _ E,aa.ak _ _ e,aa.ak _ _ E];exact j
 apply LR
 . intro key
   repeat' first
    |refine⟨?_,?_⟩
    | (refine AW lay (l:=0) (h:=3) (m:=3) rfl DN rfl JR rfl ⟨rfl,⟨⟨.i64,by simp⟩,w⟩,rfl⟩ ?_
       refine pg ?_;simp[aL,KA])
    | (refine aM Tryz.func37 rfl rfl (B 4 1 1 15 0 [0]) (cC ?_)
       refine pg ?_;simp[aL,KA])
   all_goals
    refine af.mH (λe s=>e 2=.ref wb 0/\s wb=some (.cells [.sl 6 (tT.map dw) .exact,.sl 1 [.sl 1 [int 0,int 2] .exact,.sl 1 [int 2,int 0] .exact] .exact,int 1,int 2,int 3,int 3,int 3,.kB r 0 3 3,.sl 8 [bM iV] .exact])/\(σ.set r (.cells mN)).Le s) ⟨by simp,aa.ao _ _ _,y _⟩ ?_
    exact key
 rintro env K ⟨H,z,A⟩
 refine rn ?_;simp[H,z]
 have o:(AV.sl 1 [AV.sl 1 [int 0,int 2] .exact,.sl 1 [int 2,int 0] .exact] .exact).W (rows [[0,2],[2,0]]):=Lm rfl (λa p=>by simp at p;rcases p with rfl|rfl<;>rfl) (λa p=>by simp at p;rcases p with rfl|rfl<;>rfl) (λi a a' f g=>by
  match i with
  |0=>simp at f g;subst f;subst g;exact bQ 1 [int 0,int 2] .exact
  |1=>simp at f g;subst f;subst g;exact bQ 1 [int 2,int 0] .exact
  |i+2=>simp at f)
 refine .lV (a':=Mj r) (nC rfl λi a a' f g=>?_) (.less A (.done (h r v)))
 match i with
 |0=>cases f;cases g;exact bQ 6 _ .exact
 |1=>cases f;cases g;exact o
 |2=>cases f;cases g;exact .refl _
 |3=>cases f;cases g;exact .refl _
 |4=>cases f;cases g;exact .refl _
 |5=>cases f;cases g;exact .refl _
 |6=>cases f;cases g;exact .refl _
 |7=>cases f;cases g;exact .refl _
 |8=>cases f;cases g;exact bQ 8 _ .exact
 |i+9=>cases f
theorem L4{P:Program}{m:Mo}{ops:Array Oper}{n:Nat}{Kp:AV->aa->Prop}{R:Env->aa->Prop}{i:Nat}{o:Oper}{p q:iD}{env:Env}{σ:aa}(d:ops[i]?=some o)(b:Oper.ok n o=true)(e:o.guard=none)(f:∀c,o.op≠.defer c)(h:aJ P o env σ (λa σ'=>aI P m ops n Kp p (Go.bu.aX env o.dst a) σ' R) Kp)(g:aI P m ops n Kp q env σ R):aI P m ops n Kp (.both i p q) env σ R:=gy.both ⟨o,d,b,.inl ⟨bs e,.inr ⟨f,h⟩⟩⟩ g
abbrev QJ(r:Nat):AV:=.agg (pv (lW 3)|>.set 8 (.kB r 0 1 1))
theorem Ay(h:∀r,σ r=none->KF (.val (QJ r)) (σ.set r (.cells (bM iV).cells))):aB prog m 32 [int 3] σ KF:=by
 have F:∀a b c d e:Int,∀l:List Int,Wl [int a,int b,int c,int d,int e,.sl 1 (l.map int) .exact] [int a,int b,int c,int d,int e,ints l]:=λa b c d e l=>.cons (.refl _) (.cons (.refl _) (.cons (.refl _) (.cons (.refl _) (.cons (.refl _) (.cons (bQ 1 _ .exact) .nil)))))
 have y:∀a b c d e:Int,Wl [int a,int b,int c,int d,int e,.lit (.slice none 0 0)] [int a,int b,int c,int d,int e,ints []]:=λa b c d e=>.cons (.refl _) (.cons (.refl _) (.cons (.refl _) (.cons (.refl _) (.cons (.refl _) (.cons (cz 1) .nil)))))
 refine fs Pu 1 Tryz.func32 rfl rfl (by rfl) (by kernel_rfl) ?_
 simp[Tryz.f32];refine bq.intro λwb z=>?_
 simp;refine aM Tryz.func37 rfl rfl (F 10 0 1 15 0 [0]) (cC ?_);refine rn ?_;simp;refine aM Tryz.func37 rfl rfl (y 12 0 1 16 1) (cC ?_);refine rn ?_;simp;refine aM Tryz.func37 rfl rfl (y 14 0 2 14 0) (cC ?_);refine rn ?_;simp;refine aM Tryz.func37 rfl rfl (y 16 0 1 14 0) (cC ?_);refine af.runN lay [] 9 ?_;simp[aL];refine bq.intro λfb o=>?_
 obtain⟨O,P,G⟩:=aa.aH o;simp[aL]
 change af _ _ _ _ _ _ _ _ _
 refine af.aV 3 (b:=fb) (.agg [.sl 6 (tT.map dw) .exact,.sl 1 [.sl 1 [int 0,int 2] .exact,.sl 1 [int 2,int 0] .exact] .exact,int 1,int 2,int 3,int 3]) (aa.ao _ _ _) (by simp) rfl ?_
 rw[dz o];refine rn ?_;simp;refine cf Tryz.func68 rfl (kg ?_);refine rn ?_;simp;refine cf Tryz.func68 rfl (kg ?_);refine rn ?_;simp;refine cf Tryz.func68 rfl (kg ?_);refine rn ?_;simp;obtain⟨L,H⟩:∃L,L=(im.take 3).map jQ:=⟨_,rfl⟩;have A:((im.map jQ).drop 0).take (3-0)=L:=by rw[H,List.map_take];rfl
 have KA:(σ.set wb (.cells [.nil,.nil,int 0,int 0,int 0,int 0,int 0,.nil,.nil])) wb=some (.cells [.nil,.nil,int 0,int 0,int 0,int 0,int 0,.nil,.nil]):=aa.ao _ _ _;have p:(3:Nat)<=(im.map jQ).length:=by simp[im]
 have t:∀r,(σ.set wb (.cells [.nil,.nil,int 0,int 0,int 0,int 0,int 0,.nil,.nil])) r=none->r≠wb/\σ r=none:=λr q=>by
  by_cases e:r=wb
  . subst e;rw[aa.ao]at q;cases q
  . rw[aa.ak _ _ e]at q;exact⟨e,q⟩
 have B:∀r,(σ.set wb (.cells [.nil,.nil,int 0,int 0,int 0,int 0,int 0,.nil,.nil])) r=none->∀Y,((σ.set wb (.cells [.nil,.nil,int 0,int 0,int 0,int 0,int 0,.nil,.nil])).set r Y) wb=some (.cells [.nil,.nil,int 0,int 0,int 0,int 0,int 0,.nil,.nil]):=λr q Y=>by rw[aa.ak _ _ (Ne.symm (t r q).1)];exact KA
 have C:∀r,r≠wb->∀Y,(σ.set r (.cells (bM iV).cells)).Le (((σ.set wb (.cells [.nil,.nil,int 0,int 0,int 0,int 0,int 0,.nil,.nil])).set r (.cells (bM iV).cells)).set wb Y):=λr j Y c x n=>by
  by_cases e:c=r
  . subst e
    rw[aa.ao]at n;rw[aa.ak _ _ j,aa.ao];exact n
  . rw[aa.ak _ _ e]at n
    have I:c≠wb:=λq=>by rw[q,z]at n;cases n
    rw[aa.ak _ _ I,aa.ak _ _ e,aa.ak _ _ I];exact n
 apply LR
 . intro key
   repeat' first
    |refine⟨?_,?_⟩
    |(refine aI.one (i:=6) rfl (by kernel_rfl) rfl (by simp) ?_;((refine xW (L:=lay) (mu:=[]) rfl ?_;simp[aL])))
    |(refine aI.one (i:=7) rfl (by kernel_rfl) rfl (by simp) ?_;((refine lP lay (es:=[bM iV]) rfl um rfl DO (by decide) (by rfl) (.inr (by rfl)) ⟨by rfl,λe J=>by simp at J;subst J;rfl⟩ (by rfl) λr M=>?_;have K:=B r M;simp[aL,K])))
    |(refine L4 (i:=3) rfl (by kernel_rfl) rfl (by simp) ?_ ?_)
    |(refine aI.one (i:=3) rfl (by kernel_rfl) rfl (by simp) ?_)
    |((refine mT lay rfl DN rfl JR (es:=im.map jQ) (sp:=.exact) (l:=0) (h:=3) (by simp[im]) (λcap u=>⟨rfl,⟨⟨.i64,by simp⟩,Nat.le_trans p u⟩,rfl⟩) p ?_;rw[A];try simp[aL]))
    |(refine aM Tryz.func37 rfl rfl (F 4 1 1 15 0 [0]) (cC ?_);dsimp only)
    |(refine pg ?_;simp[aL,K])
    |(refine pg ?_;simp)
   all_goals
    obtain⟨j,k⟩:=t r (by assumption)
    refine af.mH (λe s=>∃r,σ r=none/\e 2=.ref wb 0/\s wb=some (.cells [.sl 6 (tT.map dw) .exact,.sl 1 [.sl 1 [int 0,int 2] .exact,.sl 1 [int 2,int 0] .exact] .exact,int 1,int 2,int 3,int 3,int 3,.sl 5 L .any,.kB r 0 1 1])/\(σ.set r (.cells (bM iV).cells)).Le s) ?_ ?_
    . exact⟨r,k,by simp,aa.ao _ _ _,C r j _⟩
    . exact key
 rintro env Q ⟨r,k,N,D,E⟩
 refine rn ?_;simp[N,D]
 have v:(AV.sl 1 [AV.sl 1 [int 0,int 2] .exact,.sl 1 [int 2,int 0] .exact] .exact).W (rows [[0,2],[2,0]]):=Lm rfl (λa w=>by simp at w;rcases w with rfl|rfl<;>rfl) (λa w=>by simp at w;rcases w with rfl|rfl<;>rfl) (λi a a' f g=>by
  match i with
  |0=>simp at f g;subst f;subst g;exact bQ 1 [int 0,int 2] .exact
  |1=>simp at f g;subst f;subst g;exact bQ 1 [int 2,int 0] .exact
  |i+2=>simp at f)
 refine .lV (a':=QJ r) (nC rfl λi a a' f g=>?_) (.less E (.done (h r k)))
 match i with
 |0=>cases f;cases g;exact bQ 6 _ .exact
 |1=>cases f;cases g;exact v
 |2=>cases f;cases g;exact .refl _
 |3=>cases f;cases g;exact .refl _
 |4=>cases f;cases g;exact .refl _
 |5=>cases f;cases g;exact .refl _
 |6=>cases f;cases g;exact .refl _
 |7=>cases f;cases g;rw[H];exact .refl _
 |8=>cases f;cases g;exact .refl _
 |i+9=>cases f
end Go.Proofs.YtkcceaplmgdnfaaGreatDoor
namespace Go.Proofs.YtkcceaplmgdnfaaGreatDoor
open Go.Proofs.Tryz (prog)
open Go Go.bu Go.Conc
set_option maxHeartbeats 1000000
set_option maxRecDepth 4000
def CG:bH:={lW 3 with aS:=0}
def tW:bH:={lW 3 with ways:=[⟨0,0,4,6,20⟩,⟨1,2,1,0,72⟩,⟨2,0,2,0,72⟩]}
def tX:bH:={lW 3 with ways:=[⟨0,1,4,9,8⟩,⟨1,2,1,0,72⟩,⟨2,0,2,0,72⟩]}
def oB:bH:={lW 3 with aD:=[{iV with hour:=3}]}
def xf:AB:=⟨⟨0,0,3,[],10,0⟩,2,20⟩
def jb:AB:=⟨⟨1,1,2,[],14,0⟩,1,70⟩
theorem CH:CG.iU/\tW.iU/\tX.iU/\oB.iU:=⟨lT (by decide +kernel),lT (by decide +kernel),lT (by decide +kernel),lT (by decide +kernel)⟩
theorem xQ:fN (lW 3)=0/\fN CG=1/\fN tW=8/\fN tX=5/\fN oB=5:=by decide +kernel
theorem sU:((lW 3).more xf).iU/\((lW 3).more jb).iU:=⟨lT (by decide +kernel),lT (by decide +kernel)⟩
theorem CI:fN ((lW 3).more xf)=9/\fN ((lW 3).more jb)=0/\72<cM ((lW 3).more jb) 1:=by decide +kernel
theorem NP:bW (lW 2) [] [] [0]=0/\bW (lW 3) [] [] [0]=0/\bW (lW 3) [12] [] []=0/\bW (lW 3) [7] [] []=0/\bW (lW 3) [9] [] []=0/\bW (lW 3) [10] [] []=0/\bW (lW 3) [16] [] []=0/\bW (lW 3) [73] [] []=1/\bW (lW 3) [12] [1] []=0/\bW (lW 3) [16] [1] []=0/\bW (lW 3) [] [0] []=0/\bW (lW 3) [] [2] []=0/\bW (lW 3) [] [4] []=3/\bW (lW 3) [] [] []=0/\bW ((lW 3).more jb) [] [] [1]=0:=by decide +kernel
theorem rS:aC (kE (lW 3) 12)=[0,1]/\aC (kC (lW 3) 12)=[0]/\aC (kE (lW 3) 7)=[]/\aC (kC (lW 3) 7)=[]:=by decide +kernel
theorem uL:cM (lW 2) 0=10/\cM (lW 3) 0=8:=by decide +kernel
theorem rT:(lh (lW 3) 0 iV).map (·.1)=some [1,2,0]/\(lh (lW 2) 0 iV).map (·.1)=some [1,0]:=by decide +kernel
theorem uM:fq (lW 3) 9=[]/\fq (lW 3) 10=[0]/\fq (lW 3) 12=[0,1]/\fq (lW 3) 16=[0]:=by decide +kernel
theorem L5:Ez (lW 3) 12 1=[0]/\Ez (lW 3) 16 1=[]:=by decide +kernel
theorem CJ:bN (lW 3) 0=[(10,72)]/\bN (lW 3) 2=[]:=by decide +kernel
theorem xg:rR (lW 3) 0=1/\(0<=DR (aC (kC (lW 3) 72)) 0/\nE (lW 3) 0<(rQ (lW 3)).aF.length/\(lW 3).fair.aF.length<=(rQ (lW 3)).aF.length):=by decide +kernel
theorem L6:gq (lW 3) (lW 3).fair.aF.length=67:=by decide +kernel
theorem HZ:fq (lW 3) 15≠fq (lW 3) 72/\((List.range 73).all λh=>decide (h<16)||decide (fq (lW 3) (h:Nat)=fq (lW 3) 72))=true:=by decide +kernel
theorem EG{s:Nat}(h:yV (lW 3) s):s=16:=by
 obtain⟨e,b,c⟩:=h;obtain⟨d,a⟩:=HZ;simp only[List.all_eq_true,List.mem_range,Bool.or_eq_true,decide_eq_true_eq]at a;rcases Nat.lt_trichotomy s 16 with q|q|q
 . exact absurd (b 15 (by omega) (by omega)) d
 . exact q
 . have:=(a (s-1) (by omega)).resolve_left (by omega)
   refine absurd ?_ (c (by omega));rw[show(s:Int)-1=((s-1:Nat):Int)by omega];exact this
end Go.Proofs.YtkcceaplmgdnfaaGreatDoor
