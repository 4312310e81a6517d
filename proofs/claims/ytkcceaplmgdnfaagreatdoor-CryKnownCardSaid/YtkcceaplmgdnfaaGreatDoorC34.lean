import Derived.Test.YtkcceaplmgdnfaaGreatDoorC33
set_option linter.all false
namespace Go.Proofs.YtkcceaplmgdnfaaGreatDoor
open Go.Proofs.Tryz (prog)
open Go Go.bu Go.Conc
set_option maxHeartbeats 1000000
set_option maxRecDepth 4000
variable{m:Mo}{σ:aa}{KF:cJ->aa->Prop}
abbrev Ao(fb mb:Nat)(w:bH)(i:Int):AV:=.fn (.func 100) [] [.cp (pw fb mb w 0) 0,.cp (int i) 0]
theorem yS{w:bH}{fb mb:Nat}{i:Int}(h:KF (.val (Ao fb mb w i)) σ):aB prog m 58 [pw fb mb w 0,int i] σ KF:=by
 refine fs [] 2 Tryz.func58 rfl rfl (by rfl) (by kernel_rfl) ?_;simp[Tryz.f58];exact .done h
theorem pf(w:bH)(i:Int):∀h:Nat,(bE w i h).2.length<=h
 |0=>by simp[bE]
 | h+1=>by
   have:=pf w i h;unfold bE
   grind
theorem dI.mono{w:bH}{mb:Nat}{σ σ':aa}(h:dI w mb σ)(b:∀d x,σ d=some x->(∀e,x≠.tail e)->(∀a,x≠.cells [a])->(∀y,x≠.loop y)->(∀o,x≠.raw o)->σ' d=some x):dI w mb σ':=by
 obtain⟨l,c,f⟩:=h;refine⟨l,b _ _ c (by simp[lX]) (by simp[lX]) (by simp[lX]) (by simp[lX]),λp a g=>?_⟩
 grind
abbrev j9(l:List (Int × Int)):AV:=.sl 2 (l.map jm) .any
theorem xO(Q:m.solo=true){w:bH}{fb mb:Nat}{i:Int}(hO:w.Open)(hi:0<=i/\i<6)(hB:dI w mb σ)(h:∀σ',dI w mb σ'->dX mb σ σ'->KF (.val (j9 (bN w i))) σ'):aB prog m 99 [iv,Ao fb mb w i] σ KF:=by
 have hlen:=pf w i 74;refine aB.start lay [2] [] 2 Tryz.func99 rfl rfl (by rfl) (by kernel_rfl) ?_
 simp[Tryz.f99];refine bq.intro λc hc=>?_
 simp;refine af.rangeFunc rfl λR r l S T s=>?_
 obtain⟨r1,r2,S⟩:=aa.aH S;obtain⟨B,l2,T⟩:=aa.aH T;generalize C:me.mk _ _ _ _ _ _ _ _ _=al;have nm:∀d,σ d=none->d≠mb:=λd hd e=>by obtain⟨x,q,_⟩:=hB;simp_all
 have cm:=nm c hc;have lm:=nm l T;have rm:=nm r S;refine cP Tryz.func100 rfl rfl rfl (yR Q hO hi (y:=.fn (.yield l) [] []) (I:=λk σ'=>dI w mb σ'/\σ' l=some (.loop al)/\σ' r=some (.raw (.deferred (some [])))/\∃a,σ' c=some (.cells [a])/\Tok (σ'.off a) σ' a 2 (((bN w i).take k).map jm)/\dX mb σ (σ'.off a)) ⟨rfl,rfl⟩ ?_ ?_ ?_ ?_ ?_)
 . rintro k f ab ⟨D,z,E,a,F,g,G⟩ t U
   refine⟨U,t _ _ z lm,t _ _ E rm,a,t _ _ F cm,rL g λb e o=>t b _ o λq=>(qm w mb).mb D e (q ▸ o),λd x H hd=>?_⟩
   have J:=G d x H hd;have V:cq a≠some d:=λe=>by obtain⟨n,_⟩:=g.bZ e;simp_all
   rw[aa.gT V]at J ⊢;exact t _ _ J hd
 . simp_all
 . rintro k t f K ⟨D,z,E,a,F,g,G⟩ hK
   have Y:=g.cells;subst C;refine bz.r6 (hold:=[]) R Tryz.func99 z rfl ?_;refine rn ?_;simp[kG];refine bq.intro λq hq=>?_
   simp
   change af _ _ _ _ _ _ _ _ _
   refine af.runN lay [] 1 ?_;simp
   change af _ _ _ _ _ _ _ _ _
   refine af.aV 5 (b:=q) (jm (bN w i)[k]) (aa.ao _ _ _) (by simp) rfl ?_
   rw[dz hq];refine af.beginRound z rfl ?_;have cl:∀x,(f.set l x) c=some (.cells [a]):=λx=>(aa.ak _ _ (Ne.symm B)).trans F
   refine rn ?_;simp[cl];have H:∀X,Tok ((f.set l X).off a) (f.set l X) a 2 (((bN w i).take k).map jm):=λX=>rL g λb e o=>(aa.ak _ _ (λq=>by simp_all)).trans o
   have Q:((bN w i).take (k+1)).map jm=((bN w i).take k).map jm++[jm (bN w i)[k]]:=by rw[List.take_succ_eq_append_getElem t,List.map_append];rfl
   refine aR lay rfl rfl rfl Sl rfl Sl rfl Ui (by decide) (by simp only[List.length_map,List.length_take,List.length_cons,List.length_nil];unfold bN;omega) (es:=((bN w i).take k).map jm) (xs:=[jm (bN w i)[k]]) (H _) (.inr ⟨_,by simp;rfl⟩) λZ u j=>?_
   rw[<-Q]at j;have L:=j.cells;have a7:cq a≠some c:=λe=>by obtain⟨_,_,q⟩:=g.bZ e;simp_all
   have t3:u c=some (.cells [a]):=j.1 _ _ (by rw[aa.gT a7];exact cl _)
   have a8:cq a≠some l:=λe=>by obtain⟨_,_,q⟩:=g.bZ e;simp_all
   have t4:=λ(X:fy) (hX:((f.set l X).off a).Le u)=>hX l X (by rw[aa.gT a8];simp_all)
   have t4:=t4 _ j.1;refine af.run lay [2] ?_;simp[t3,L.1,L.2,aL];refine⟨rfl,rfl,_,(aa.ak _ _ B).trans t4,?_⟩
   have M:∀X d x,d≠l->d≠c->cq a≠some d->f d=some x->((u.set c (.cells [Z])).set l X) d=some x:=λX d x d1 d2 d3 hd=>by rw[aa.ak _ _ d1,aa.ak _ _ d2];exact j.1 _ _ (by rw[aa.gT d3,aa.ak _ _ d1];exact hd)
   refine hK _ ⟨D.mono λd x hd O h2 h3 _=>M _ d x (λe=>by grind) (λe=>by grind) (λe=>by obtain⟨_,_,q⟩:=g.bZ e;grind) hd,aa.ao _ _ _,M _ r _ s r1 (λe=>by obtain⟨_,_,q⟩:=g.bZ e;simp_all) E,Z,(aa.ak _ _ (Ne.symm B)).trans (aa.ao _ _ _),rL j λb e o=>?_,λd x H hd=>?_⟩
   . have v:b≠l:=λq=>by grind
     have A:b≠c:=λq=>by grind
     rw[aa.ak _ _ v];exact(aa.ak _ _ A).trans o
   . have v:d≠l:=λq=>by grind
     have A:d≠c:=λq=>by grind
     have J:=G d x H hd;have P:cq a≠some d:=λe=>by obtain⟨n,_⟩:=g.bZ e;grind
     rw[aa.gT P]at J
     have n4:cq Z≠some d:=λe=>by obtain⟨n,_⟩:=j.bZ e;rw[aa.gT P,aa.ak _ _ v,J]at n;cases n
     rw[aa.gT n4]
     grind
 . have N:∀d x,σ d=some x->(((σ.set c (.cells [iv])).set r (.raw (.deferred (some [])))).set l (.loop al)) d=some x:=λd x hd=>by
    have v:d≠l:=λq=>by simp_all
    have A:d≠r:=λq=>by simp_all
    have P:d≠c:=λq=>by simp_all
    rw[aa.ak _ _ v,aa.ak _ _ A,aa.ak _ _ P];exact hd
   exact⟨hB.mono λd x hd _ _ _ _=>N d x hd,aa.ao _ _ _,(aa.ak _ _ s).trans (aa.ao _ _ _),AV.nil,(aa.ak _ _ (Ne.symm B)).trans ((aa.ak _ _ (Ne.symm r1)).trans (aa.ao _ _ _)),Tok.nil _ 2,λd x hd _=>N d x hd⟩
 . rintro f ⟨D,z,E,a,F,g,G⟩
   have Y:=g.cells;rw[List.take_length]at g;subst C;refine⟨_,z,by simp,rfl,?_⟩
   have a9:(f.del l) c=some (.cells [a]):=by simp only[aa.del,Ne.symm B,if_false];exact F
   refine af.run lay [2] ?_;simp[a9];refine⟨by simp only[aa.del,s,if_false];exact E,?_⟩
   have p:∀{d x},d≠l->d≠r->(f.off a) d=some x->(((f.off a).del l).del r) d=some x:=λO h2 h3=>by simp only[aa.del,O,h2,if_false];exact h3
   refine .lV g.W (.less (λd x hd=>?_) (.done (h (((f.off a).del l).del r) (D.mono λd x hd O h2 h3 h4=>p (λe=>by grind) (λe=>by grind) (Ey g hd O)) λd x hd hm=>p (λq=>by simp_all) (λq=>by simp_all) (G d x hd hm))))
   simp only[aa.del]at hd;split at hd
   . cases hd
   next v=>
   split at hd
   . cases hd
   next A=>
   rw[aa.ak _ _ v];simp only[aa.del,A,if_false];exact aa.OX hd
theorem Cv(a:m.solo=true){w:bH}{fb mb:Nat}{i:Int}(b:w.Open)(c:0<=i/\i<6)(d:dI w mb σ)(h:∀σ',dI w mb σ'->dX mb σ σ'->KF (.val (j9 (bN w i))) σ'):aB prog m 57 [Ao fb mb w i] σ KF:=by
 refine fs [] 1 Tryz.func57 rfl rfl (by rfl) (by kernel_rfl) ?_;simp[Tryz.f57];refine cf Tryz.func99 rfl (xO a b c d λσ' e f=>?_);refine rn ?_;simp;exact .done (h σ' e f)
theorem pj(a:m.solo=true){w:bH}(f:w.iU)(g:w.Open){i:Int}(h:0<=i/\i<6)(b:bW w [] [i] []≠0->KF (.val (.bp [iv,int (bW w [] [i] [])])) σ)(j:bW w [] [i] []=0->KF (.val (.bp [j9 (bN w i),int 0])) σ):aB prog m 23 [aT w,int i] σ KF:=by
 have k:Wl [aT w,iv,.sl 1 [int i] .exact,iv] [aT w,ints [],ints [i],ints []]:=LL (.refl _) (cz 1) (bQ 1 _ _) (cz 1);obtain⟨e,l⟩:∃e,e=bW w [] [i] []:=⟨_,rfl⟩;refine fs [] 2 Tryz.func23 rfl rfl (by rfl) (by kernel_rfl) ?_;simp[Tryz.f23];refine aM Tryz.func41 rfl rfl k (fQ a f ⟨by simp,by simp,by simp⟩ (λq=>?_) λq n fb mb c=>?_)
 . rw[<-l]at q b ⊢
   have d:(e !=0)=true:=by grind
   refine rn ?_;simp[d];exact .done (b q)
 . refine rn ?_
   simp;refine cf Tryz.func58 rfl (yS ?_);refine rn ?_;simp;refine cf Tryz.func57 rfl (Cv a g h c.tQ λo d p=>?_);refine rn ?_;simp;exact .less (c.less p) (.done (j q))
def rO(l:List (Int × Int)):Int:=l.foldl (λn r=>n+(r.2-r.1+1)) 0
def gq(w:bH)(k:Nat):Int:=(List.range k).foldl (λ(n:Int) (i:Nat)=>n+rO (bN w (i:Int))) 0
theorem oA(w:bH)(i:Int):∀h:Nat,h<=74->∀r∈(bE w i h).2,(0<=r.1/\r.1<=1048576)/\-1<=r.2/\r.2<=73
 |0,_,r,a=>by simp[bE]at a
 | h + 1,b,r,a=>by
   have:=An w i h;unfold bE at a;split at a
   . exact oA w i h (by omega) r a
   split at a
   . rcases List.mem_append.1 a with a|a
     . exact oA w i h (by omega) r a
     grind
   . exact oA w i h (by omega) r a
theorem HO(l:List (Int × Int))(r:Int × Int):rO (l++[r])=rO l+(r.2-r.1+1):=by unfold rO;simp_all
theorem FF{l:List (Int × Int)}(a:∀r∈l,(0<=r.1/\r.1<=1048576)/\-1<=r.2/\r.2<=73):-(2000000*(l.length:Int))<=rO l/\rO l<=2000000*l.length:=by
 have key:∀(l:List (Int × Int)) (n:Int),(∀r∈l,(0<=r.1/\r.1<=1048576)/\-1<=r.2/\r.2<=73)->n-2000000*l.length<=l.foldl (λn r=>n+(r.2-r.1+1)) n/\l.foldl (λn r=>n+(r.2-r.1+1)) n<=n+2000000*l.length:=λl=>by
  induction l with
  |nil=>simp_all
  | cons r l b=>
    intro n h;have d:=h r (by simp);have e:=b (n+(r.2-r.1+1)) λx c=>h x (by simp[c])
    grind
 have:=key l 0 a;unfold rO;omega
theorem Cw(w:bH):∀k:Nat,-(200000000*(k:Int))<=gq w k/\gq w k<=200000000*k
 |0=>by simp[gq]
 | k+1=>by
   have a:=Cw w k;have b:=FF (oA w k 74 (by omega))
   have c:=pf w k 74;have e:gq w (k+1)=gq w k+rO (bN w k):=by unfold gq;rw[List.range_succ,List.foldl_append];rfl
   rw[e];unfold bN;omega
theorem yT{P:Program}(L:hQ P){rs:List ResultVar}{env:Env}{a:Md}:∀(ds:List Nat) (σ:aa),ds.Nodup->(∀r∈ds,σ r=some (.raw (.deferred (some []))))->(∀σ',(∀d,d∉ds->σ' d=σ d)->H2 L m rs env KF [] a σ')->H2 L m rs env KF (ds.map .mark) a σ
 |[],σ,_,_,h=>h σ λ_ _=>rfl
 | r ::ds,σ,b,c,h=>⟨c r (by simp),yT L ds _ (List.nodup_cons.1 b).2 (λd hd=>by
     have n:d≠r:=λe=>(List.nodup_cons.1 b).1 (by simp_all)
     rw[aa.ak _ _ n]
     simp_all) λσ' f=>h σ' λd hd=>by
     have n:d≠r:=λe=>hd (by simp[e])
     rw[f d λq=>hd (by simp[q]),aa.ak _ _ n]⟩
theorem yU(hs:m.solo=true){w:bH}(hw:w.iU)(hO:w.Open)(he:bW w [] [] []=0)(hK:KF (.val (.bp [int (gq w w.fair.aF.length),int 0])) σ):aB prog m 25 [aT w] σ KF:=by
 have hW:Wl [aT w,iv,iv,iv] [aT w,ints [],ints [],ints []]:=LL (.refl _) (cz 1) (cz 1) (cz 1);have h6:=hO.qt.1;refine fs [] 1 Tryz.func25 rfl rfl (by rfl) (by kernel_rfl) ?_
 simp[Tryz.f25];refine aM Tryz.func41 rfl rfl hW (fQ hs hw ⟨by simp,by simp,by simp⟩ (λq=>absurd he q) λq o fb mb v=>?_)
 have E:=v.tQ;have F:∀d,o d=none->d≠mb:=λd hd e=>by obtain⟨x,q,_⟩:=E;simp_all
 refine rn ?_;simp;refine bq.intro λc hc=>?_
 simp;have cm:=F c hc;refine af.loop w.fair.aF.length (λk s=>∃env a ds,s=⟨env,a,List.map kF.mark ds,.no⟩/\(env 1=.cp (aT w) 0/\env 4=pw fb mb w 0/\env 6=.ref c 0/\env 20=int w.fair.aF.length/\env 21=int k)/\dI w mb a/\a c=some (.cells [int (gq w k)])/\ds.Nodup/\(∀r∈ds,a r=some (.raw (.deferred (some [])))/\o r=none)/\dX mb o a) ⟨_,_,[],rfl,by simp,E.mono λd x hd _ _ _ _=>(aa.ak _ _ λe=>by simp_all).trans hd,aa.ao _ _ _,by simp,by simp,λd x hd _=>(aa.ak _ _ λe=>by simp_all).trans hd⟩ ?_
 rintro c0 k _ P ⟨env,a,ds,rfl,⟨e1,e4,U,xz,uy⟩,hB,G,H,z,A⟩ ih
 refine rn ?_;simp[xz,uy];refine aG.intro (λV=>?_) (λV=>?_)<;>(try simp[-Int.not_lt,-Int.not_le,-Nat.not_lt,-Nat.not_le]at V)<;>(try simp[e4,U,uy,V,G])
 . refine cf Tryz.func58 rfl (yS ?_)
   refine rn ?_;simp;refine af.rangeFunc rfl λW r l Q R B=>?_
   change a r=none at Q
   change a l=none at R
   have nm:∀d,a d=none->d≠mb:=λd hd e=>by obtain⟨x,q,_⟩:=hB;grind
   have lm:=nm l R;have rm:=nm r Q;have lc:l≠c:=λe=>by grind
   have rc:r≠c:=λe=>by grind
   have J:=oA w k 74 (by omega)
   have hlen:=pf w k 74;have av:=Cw w k
   have a7:o r=none:=by
    cases e:o r with
    |none=>rfl
    |some x=>have:=A r x e rm;grind
   have a8:gq w (k+1)=gq w k+rO (bN w k):=by unfold gq;rw[List.range_succ,List.foldl_append];rfl
   generalize L:me.mk _ _ _ _ _ _ _ _ _=al;refine cP Tryz.func100 rfl rfl rfl (yR hs hO (i:=(k:Int)) (by omega) (y:=.fn (.yield l) [] []) (I:=λj f=>dI w mb f/\f l=some (.loop al)/\f c=some (.cells [int (gq w k+rO ((bN w k).take j))])/\∀d x,(a.set r (.raw (.deferred (some [])))) d=some x->d≠mb->d≠c->f d=some x) ⟨rfl,rfl⟩ ?_ ?_ ?_ ?_ ?_)
   . rintro j f a9 ⟨T,t,u,D⟩ P ab
     exact⟨ab,P _ _ t lm,P _ _ u cm,λd x g p h=>P _ _ (D d x g p h) p⟩
   . grind
   . rintro j hj f K ⟨T,t,u,D⟩ ad
     have M:=J _ (List.getElem_mem hj);have ar:=FF (l:=(bN w k).take j) λx hx=>J x (List.mem_of_mem_take hx)
     have ax:((bN w k).take j).length<=74:=Nat.le_trans (List.length_take_le _ _) (by unfold bN at hj;omega)
     have C:rO ((bN w k).take (j+1))=rO ((bN w k).take j)+((bN w k)[j].2-(bN w k)[j].1+1):=by rw[List.take_succ_eq_append_getElem hj,HO]
     generalize rO ((bN w k).take j)=S at u ar C;obtain⟨x1,x2⟩:∃r:Int × Int,r=(bN w k)[j]:=⟨_,rfl⟩;rw[<-x2]at M C ⊢;obtain⟨ra,rb⟩:=x1;simp only at M C;subst L;refine bz.r6 (hold:=[]) W Tryz.func25 t rfl ?_;refine rn ?_;simp[kG];refine bq.intro λq hq=>?_
     simp
     change af _ _ _ _ _ _ _ _ _
     refine af.runN lay [] 1 ?_;simp
     change af _ _ _ _ _ _ _ _ _
     refine af.aV 8 (b:=q) (jm (ra,rb)) (aa.ao _ _ _) (by simp) rfl ?_
     rw[dz hq];refine af.beginRound t rfl ?_;have cl:∀x,(f.set l x) c=some (.cells [int (gq w k+S)]):=λx=>(aa.ak _ _ (Ne.symm lc)).trans u
     refine rn ?_;simp[cl,U];refine⟨by omega,by omega,by omega,?_⟩
     refine⟨rfl,rfl,_,(aa.ak _ _ lc).trans (aa.ao _ _ _),?_⟩
     have N:∀X Y Z d x,d≠l->d≠c->f d=some x->(((f.set l X).set c Y).set l Z) d=some x:=λX Y Z d x g p h=>by rw[aa.ak _ _ g,aa.ak _ _ p,aa.ak _ _ g];exact h
     refine ad _ ⟨T.mono λd x hd _ p h _=>N _ _ _ d x (λe=>by rw[e,t]at hd;exact h _ (Option.some.inj hd).symm) (λe=>by rw[e,u]at hd;exact p _ (Option.some.inj hd).symm) hd,aa.ao _ _ _,(aa.ak _ _ (Ne.symm lc)).trans ((aa.ao _ _ _).trans (by grind)),λd x g p h=>?_⟩
     have dl:d≠l:=λe=>by rw[e,aa.ak _ _ (Ne.symm B),R]at g;cases g
     exact N _ _ _ d x dl h (D d x g p h)
   . have O:∀d x,a d=some x->((a.set r (.raw (.deferred (some [])))).set l (.loop al)) d=some x:=λd x hd=>by
      have n1:d≠l:=λe=>by grind
      have n2:d≠r:=λe=>by grind
      rw[aa.ak _ _ n1,aa.ak _ _ n2];exact hd
     refine⟨hB.mono λd x hd _ _ _ _=>O d x hd,aa.ao _ _ _,(O _ _ G).trans (by simp[rO]),λd x g _ _=>?_⟩
     exact(aa.ak _ _ λe=>by rw[e,aa.ak _ _ (Ne.symm B),R]at g;cases g).trans g
   . rintro f ⟨T,t,u,D⟩
     rw[List.take_length,<-a8]at u;subst L;refine⟨_,t,by simp,rfl,?_⟩
     refine rn ?_;simp[uy];have n:∀d x,d≠l->f d=some x->(f.del l) d=some x:=λd x g p=>by simp only[aa.del,g,if_false];exact p
     have hold:∀d x,a d=some x->d≠mb->d≠c->(f.del l) d=some x:=λd x g p h=>n d x (λe=>by grind) (D d x ((aa.ak _ _ λe=>by grind).trans g) p h)
     refine⟨by omega,ih _ (by omega) ⟨_,_,r::ds,rfl,by simp[e1,e4,U,xz],T.mono λd x hd _ _ h _=>n d x (λe=>by rw[e,t]at hd;exact h _ (Option.some.inj hd).symm) hd,n _ _ (Ne.symm lc) u,List.nodup_cons.2 ⟨λq=>?_,H⟩,λd hd=>?_,λd x hd hm=>?_⟩⟩
     . grind
     . rcases List.mem_cons.1 hd with rfl|hd
       . exact⟨n _ _ B (D _ _ (aa.ao _ _ _) rm rc),a7⟩
       . obtain⟨q1,q2⟩:=z d hd
         exact⟨hold d _ q1 (F d q2) (λe=>by grind),q2⟩
     . exact hold d x (A d x hd hm) hm (λe=>by grind)
 . have ek:k=w.fair.aF.length:=by omega
   subst ek;refine yT lay ds _ H (λr Q=>(z r Q).1) λa9 h=>⟨[int (gq w w.fair.aF.length),int 0],by simp[dR],?_⟩
   refine .less (λd x hd=>?_) (.done hK)
   have q1:=v.less A d x hd;rw[h d λq=>?_]
   . exact q1
   . have:=(z d q).2
     have h0:=v.less (.refl mb o) d x hd
     grind
theorem rP{a b:List Int}(t:a.length<1152921504606846976)(hb:b.length<1152921504606846976)(h:KF (.val (bool (decide (a=b)))) σ):aB prog m 47 [ints a,ints b] σ KF:=by
 refine fs Uo 2 Tryz.func47 rfl rfl (by rfl) (by kernel_rfl) ?_;simp[Tryz.f47];refine aG.intro (λd=>?_) (λd=>?_)<;>(try simp[-Int.not_lt,-Int.not_le,-Nat.not_lt,-Nat.not_le]at d)<;>(try simp[d])
 . have:a≠b:=λe=>d (by rw[e])
   simp[this]at h;exact .done h
 refine af.loop a.length (λk s=>∃env,s=⟨env,σ,[],.no⟩/\env 0=ints a/\env 1=ints b/\env 12=int a.length/\env 13=int k/\a.take k=b.take k) ⟨_,rfl,by simp[d]⟩ ?_;rintro u k _ v ⟨env,rfl,l,n,Me,c,g⟩ p;have r:a.length=b.length:=by omega
 refine rn ?_;simp[Me,c];refine aG.intro (λf=>?_) (λf=>?_)<;>(try simp[-Int.not_lt,-Int.not_le,-Nat.not_lt,-Nat.not_le]at f)<;>(try simp[l,n,c,f])
 . have o:k<b.length:=by omega
   simp[o];refine rn ?_;simp;by_cases i:a[k]=b[k]
   . have q:(a[k]!=b[k])=false:=by simp[i]
     simp[c,q];refine⟨by omega,p _ (by omega) ⟨_,rfl,by simp[l],by simp[n],by simp[Me],by simp,?_⟩⟩;rw[List.take_succ_eq_append_getElem f,List.take_succ_eq_append_getElem o,g,i]
   . have q:(a[k] !=b[k])=true:=by simp[i]
     have j:a≠b:=λe=>by simp_all
     simp[j]at h;simp[q];exact .done h
 . have ek:k=a.length:=by omega
   subst ek;rw[List.take_length,r,List.take_length]at g;simp[g]at h;exact .done h
def foundAt(w:bH)(c:Int)(h i:Nat):Prop:=iZ w h i c=1/\∀a b:Nat,(a<h\/a=h/\b<i)->b<w.fair.aF.length->iZ w a b c≠1
theorem HP(B:m.solo=true){w:bH}(F:w.iU)(C:w.Open){c:Int}(G:0<=c/\c<3)(H:bW w [] [] [c]=0)(I:∀h i:Nat,h<73->i<w.fair.aF.length->foundAt w c h i->KF (.val (.bp [int h,int i,int 0])) σ)
 (J:(∀e b:Nat,e<73->b<w.fair.aF.length->iZ w e b c≠1)->KF (.val (.bp [int 0,int 0,int 11])) σ):aB prog m 31 [aT w,int c] σ KF:=by
 have K:Wl [aT w,iv,iv,.sl 1 [int c] .exact] [aT w,ints [],ints [],ints [c]]:=LL (.refl _) (cz 1) (cz 1) (bQ 1 _ _);have S:=C.qt.1;refine fs [] 2 Tryz.func31 rfl rfl (by rfl) (by kernel_rfl) ?_;simp[Tryz.f31];refine aM Tryz.func41 rfl rfl K (fQ B F ⟨by simp,by simp,by simp⟩ (λq=>absurd H q) λq g fb mb u=>?_);refine rn ?_;simp;refine af.loop 73 (λk s=>∃env a,s=⟨env,a,[],.no⟩/\(env 1=int c/\env 2=.cp (aT w) 0/\env 9=.fn (.func 67) [pw fb mb w 0] []/\env 24=int k)/\dI w mb a/\dX mb g a/\∀e b:Nat,e<k->b<w.fair.aF.length->iZ w e b c≠1) ⟨_,_,rfl,by simp,u.tQ,.refl mb g,λe b q=>absurd q (Nat.not_lt_zero _)⟩ ?_;rintro T k _ L ⟨env,a,rfl,⟨n,o,p,uA⟩,t,d,v⟩ M;refine rn ?_;simp[uA];refine aG.intro (λx=>?_) (λx=>?_)<;>(try simp[-Int.not_lt,-Int.not_le,-Nat.not_lt,-Nat.not_le]at x)<;>(try simp[o,uA,x])
 . refine af.loop w.fair.aF.length (λj s=>∃env a,s=⟨env,a,[],.no⟩/\(env 1=int c/\env 2=.cp (aT w) 0/\env 9=.fn (.func 67) [pw fb mb w 0] []/\env 24=int k/\env 10=int k/\env 30=int w.fair.aF.length/\env 31=int j)/\dI w mb a/\dX mb g a/\∀b:Nat,b<j->iZ w k b c≠1) ⟨_,_,rfl,by simp[n,o,p,uA],t,d,λb q=>absurd q (Nat.not_lt_zero _)⟩ ?_
   rintro U j _ V ⟨env,a,rfl,⟨n,o,p,uA,xh,r,l⟩,t,d,D⟩ y;refine rn ?_;simp[r,l];refine aG.intro (λz=>?_) (λz=>?_)<;>(try simp[-Int.not_lt,-Int.not_le,-Nat.not_lt,-Nat.not_le]at z)<;>(try simp[n,p,uA,xh,l,z])
   . refine cP Tryz.func67 rfl rfl rfl (Cq B C (by omega) G t λA N O=>?_)
     have f:=d.trans O;by_cases E:iZ w k j c=1
     . rw[show wV (iZ w k j c)=.kD 125 (.agg [])by rw[E];rfl]
       refine rn ?_;simp[xh];refine .less (u.less f) (.done (I k j (by omega) (by omega) ⟨E,λe b q P=>?_⟩))
       grind
     . have Q:yP (iZ w k j c)≠125:=by unfold yP;grind
       refine rn ?_;simp[l,Q];refine⟨by omega,y _ (by omega) ⟨_,A,rfl,⟨by simp[n],by simp[o],by simp[p],by simp[uA],by simp[xh],by simp[r],by simp⟩,N,f,λb q=>?_⟩⟩
       grind
   . have R:j=w.fair.aF.length:=by omega
     subst R;refine⟨by omega,M _ (by omega) ⟨_,a,rfl,⟨by simp[n],by simp[o],by simp[p],by simp⟩,t,d,λe b q P=>?_⟩⟩
     grind
 . have ek:k=73:=by omega
   subst ek;exact .less (u.less d) (.done (J v))
theorem sQ(w:bH)(h:Int):(fq w h).length<=w.fair.aF.length:=by
 unfold fq
 grind
def wY(H:Int->List Int)(s:Nat):Prop:=s<=72/\(∀h:Nat,s<=h->h<=72->H h=H 72)/\(0<s->H ((s:Int)-1)≠H 72)
theorem Cx(A:m.solo=true){w:bH}(B:w.iU){H:Int->List Int}(t:∀(fb mb:Nat) (h:Int) (σ:aa) (KF:cJ->aa->Prop),dI w mb σ->(∀σ',dI w mb σ'->dX mb σ σ'->KF (.val (ints (H h))) σ')->aB prog m 42 [pw fb mb w 0,int h] σ KF)(hlen:∀h,(H h).length<=6)(C:bW w [] [] []=0)(u:∀s:Nat,wY H s->KF (.val (.bp [int s,int 0])) σ):aB prog m 26 [aT w] σ KF:=by
 have D:Wl [aT w,iv,iv,iv] [aT w,ints [],ints [],ints []]:=LL (.refl _) (cz 1) (cz 1) (cz 1);have v:=hlen 72;refine fs [] 1 Tryz.func26 rfl rfl (by rfl) (by kernel_rfl) ?_;simp[Tryz.f26];refine aM Tryz.func41 rfl rfl D (fQ A B ⟨by simp,by simp,by simp⟩ (λq=>absurd C q) λq i fb mb j=>?_);refine rn ?_;simp;refine cf Tryz.func42 rfl (t _ _ _ _ _ j.tQ λE x l=>?_);refine rn ?_;simp;refine af.loop 72 (λk s=>∃env σ',s=⟨env,σ',[],.no⟩/\(env 4=pw fb mb w 0/\env 6=int (72-(k:Int))/\env 7=ints (H 72))/\dI w mb σ'/\dX mb i σ'/\∀h:Nat,72<=h+k->h<=72->H h=H 72) ⟨_,_,rfl,by simp,x,l,λh q F=>by grind⟩ ?_;rintro O k _ G ⟨env,σ',rfl,⟨y,d,z⟩,I,f,g⟩ J;obtain⟨a,K⟩:∃a:Nat,a+k=72:=⟨72-k,by omega⟩;have n:(72:Int)-k=a:=by omega
 have b:∀_:(0<a->H ((a:Int)-1)≠H 72),wY H a:=λq=>⟨by omega,λh x l=>g h (by omega) l,q⟩
 rw[n]at d;refine rn ?_;simp[d];refine qJ.intro (λo=>?_) (λo=>?_)<;>(try simp[-Int.not_lt,-Int.not_le,-Nat.not_lt,-Nat.not_le]at o)<;>(try simp[y,d,o])
 . refine⟨by omega,?_⟩
   refine cf Tryz.func42 rfl (t _ _ _ _ _ I λp L M=>?_);have c:=f.trans M;have N:=hlen ((a:Int)-1);refine rn ?_;simp[z];refine cf Tryz.func47 rfl (rP (by omega) (by omega) ?_);by_cases r:H ((a:Int)-1)=H 72
   . refine rn ?_
     simp[d,r];refine⟨by omega,J _ (by omega) ⟨_,p,rfl,⟨by simp[y],by simp;omega,by simp[z]⟩,L,c,λh q F=>?_⟩⟩;by_cases e:h+1=a
     . grind
     grind
   . refine rn ?_
     simp[d,r];exact .less (j.less c) (.done (u a (b λ_=>r)))
 . exact .less (j.less f) (.done (u a (b λq=>by omega)))
abbrev yV(w:bH)(s:Nat):Prop:=wY (fq w) s
theorem Cy(a:m.solo=true){w:bH}(c:w.iU)(b:w.Open)(d:bW w [] [] []=0)(e:∀s:Nat,yV w s->KF (.val (.bp [int s,int 0])) σ):aB prog m 26 [aT w] σ KF:=Cx a c (λfb mb h σ KF f g=>rN a b f g) (λh=>Nat.le_trans (sQ w h) b.qt.1) d e
def bH.only(w:bH)(l:List Int):bH:={w with aD:=l.filterMap λc=>w.aD[c.toNat]?}
abbrev lu(w:bH)(a:AV):List AV:=[iY w.fair.aF,rows w.fair.roads,int w.fair.bV,int w.fair.jj,int w.fair.oZ,int w.fair.eQ,int w.aS,nv w.ways,a]
theorem wZ(w:bH)(a b:AV):(lu w a).set 8 b=lu w b:=rfl
theorem HQ{w:bH}{wb:Nat}{a:AV}(b:σ wb=some (.cells (lu w a)))(h:KF (.val (.bp [])) (σ.set wb (.cells (pv w)))):aB prog m 88 [.cp (fh w.aD) 0,.cp (.ref wb 0) 0] σ KF:=by
 refine fs [] 2 Tryz.func88 rfl rfl (by rfl) (by kernel_rfl) ?_;simp[Tryz.f88];simp[b];exact .done h
namespace CW
abbrev Uw:List Entry:=[⟨7,.take [0,1,2,3,5,6,7,8,11,12] false (.both 4 (.one 9 (.one 10 (.one 13 (.done)))) (.one 9 (.take [4] true (.one 10 (.one 13 (.done))))))⟩]
abbrev Ux:List Entry:=[⟨0,.take [3] false (.one 0 (.one 1 (.one 2 (.one 4 (.one 5 (.done))))))⟩]
theorem LM{w:bH}{wb:Nat}{l:List Int}(M:∀c∈l,0<=c/\c<w.aD.length)(S:l.length<=1000){F:Fn}{t:List AV}(I:aa->Prop)(C:σ wb=some (.cells (pv w)))
 (N:∀a g K,Tok (σ.del wb) g a 8 ((w.only l).aD.map bM)->g wb=some (.cells (lu w a))->(∀σ2,σ2 wb=some (.cells (lu w a))->I σ2->K (.val (.bp [])) σ2)->bz prog m (.fn F [] t) [] g K)
 (h:∀σ2,I σ2->KF (.val (.bp [])) (σ2.set wb (.cells (pv w)))):aB prog m 45 [.ref wb 0,ints l,.fn F [] t] σ KF:=by
 refine aB.JN lay [] Uw 12 3 Tryz.func45 rfl rfl (by rfl) (by kernel_rfl) ?_
 simp[Tryz.f45,C];refine bq.intro λD u=>?_
 have T:wb≠D:=λe=>by simp_all
 simp
 change af _ _ _ _ _ _ _ _ _
 refine af.aV 6 (b:=D) (fh w.aD) (aa.ao _ _ _) (by simp) rfl ?_
 rw[dz u];refine rn ?_;simp;refine af.defer rfl rfl rfl rfl (by simp) rfl ?_
 refine rn ?_;simp[C];refine af.loop l.length (λk s=>∃env d a,s=⟨env,d,[.call (.func 88) [.cp (fh w.aD) 0,.cp (.ref wb 0) 0] []],.no⟩/\(env 2=.fn F [] t/\env 3=.cp (.ref wb 0) 0/\env 6=.cp (fh w.aD) 0/\env 17=ints l/\env 18=int l.length/\env 19=int k)/\Tok (σ.del wb) d a 8 ((w.only (l.take k)).aD.map bM)/\d wb=some (.cells (lu w a))) ⟨_,_,.lit (.slice none 0 0),rfl,by simp,⟨?_,.inl ⟨rfl,by simp[bH.only]⟩⟩,aa.ao _ _ _⟩ ?_
 . intro c x v
   have E:c≠wb:=λe=>by subst e;simp[aa.del]at v
   simp only[aa.del,E,if_false]at v;rw[aa.ak _ _ E];exact v
 rintro U k _ V ⟨env,d,a,rfl,⟨G,H,J,j,rU,MH⟩,n,i⟩ O
 refine rn ?_;simp[rU,MH];refine aG.intro (λo=>?_) (λo=>?_)<;>(try simp[-Int.not_lt,-Int.not_le,-Nat.not_lt,-Nat.not_le]at o)<;>(try simp[G,H,J,j,MH,o])
 . have P:=M l[k] (List.getElem_mem o)
   have y:((w.only (l.take k)).aD.map bM).length<=k:=by
    rw[List.length_map];refine Nat.le_trans (List.length_filterMap_le _ _) ?_
    grind
   have z:(w.only (l.take (k+1))).aD.map bM=(w.only (l.take k)).aD.map bM++[bM w.aD[l[k].toNat]]:=by simp only[bH.only];rw[List.take_succ_eq_append_getElem o,List.filterMap_append,List.map_append];simp[List.getElem?_eq_getElem (show l[k].toNat<w.aD.length by omega)]
   have A:cq a≠some wb:=λe=>by obtain⟨_,x,q⟩:=n.bZ e;simp_all
   simp[i,P];refine⟨?_,?_⟩
   all_goals
    refine aR lay rfl rfl rfl um rfl um rfl DO (by decide) (by simp only[List.length_map,List.length_cons,List.length_nil]at y ⊢;omega) (σ0:=d.off a) (es:=(w.only (l.take k)).aD.map bM) (xs:=[bM w.aD[l[k].toNat]]) (by simpa using n.here.1) (.inr ⟨_,rfl⟩) λL σ2 f=>?_
    rw[<-z]at f;have p:σ2 wb=some (.cells (lu w a)):=f.1 _ _ ((aa.gT A).trans i);have B:=f.cells;have r:cq L≠some wb:=λe=>by obtain⟨_,x,q⟩:=f.bZ e;rw[p]at q;cases q
    refine pg ?_;simp[p,B];refine rn ?_;simp[MH];refine⟨by omega,O _ (by omega) ⟨_,_,L,rfl,by simp[G,H,J,j,rU],(f.base n.here.2).beside (by simp[aa.del]) r,aa.ao _ _ _⟩⟩
 . have ek:k=l.length:=by omega
   subst ek;rw[List.take_length]at n;refine N a d _ n i λσ2 Q R=>?_
   refine rn ?_;simp;refine pz.func Tryz.func88 rfl rfl (HQ Q ?_);exact⟨[],rfl,.done (h σ2 R)⟩
theorem S6{w:bH}{l:List Int}{a:AV}(d:a.W (fh (w.only l).aD)):(AV.agg (lu w a)).W (aT (w.only l)):=nC rfl λi x y c b=>by
 change (lu w (fh (w.only l).aD))[i]?=some y at b;rw[<-wZ w a]at b;by_cases e:i=8
 . simp_all
 . rw[List.getElem?_set_ne (Ne.symm e),c]at b
   cases b;exact .refl _
theorem Ap(f:m.solo=true){w:bH}{wb c:Nat}{a:AV}{l e:List Int}{x:AV}(g:(w.only l).Open)(d:w.ways.length<1152921504606846976/\(∀x∈w.ways,pQ w.aS x)/\1<=w.aS/\w.aS<=4)(k:wT (w.only l))(t:e.length<1000000)(n:σ wb=some (.cells (lu w a)))(o:a.W (fh (w.only l).aD))(p:σ c=some (.cells [x]))
 (h:∀σ2,σ.Le σ2->KF (.val (.bp [])) (σ2.set c (.cells [bool (decide (fq (w.only l) 72=e))]))):aB prog m 46 [.ref wb 0,.cp (ints e) 0,.ref c 0] σ KF:=by
 have u:=g.qt.1;have i:=sQ (w.only l) 72;have q:Wl [.agg (lu w a)] [aT (w.only l)]:=.cons (S6 o) .nil;refine fs Ux 3 Tryz.func46 rfl rfl (by rfl) (by kernel_rfl) ?_;simp[Tryz.f46];simp[n];refine aM Tryz.func48 rfl rfl q (rJ f d.1 d.2.1 d.2.2 k λr fb mb j=>?_);refine pg ?_;simp;refine cf Tryz.func42 rfl (rN f g j.tQ λσ2 v s=>?_);refine pg ?_;simp;have b:=j.less s;refine cf Tryz.func47 rfl (rP (by omega) (by omega) ?_);refine pg ?_;simp[b _ _ p];refine rn ?_;simp;exact .done (h σ2 b)
end CW
theorem Cz(v:m.solo=true){w:bH}{wb:Nat}{l e:List Int}(y:(w.only l).Open)(z:w.ways.length<1152921504606846976/\(∀x∈w.ways,pQ w.aS x)/\1<=w.aS/\w.aS<=4)(A:wT (w.only l))(B:e.length<1000000)(k:∀c∈l,0<=c/\c<w.aD.length)(C:l.length<=1000)(D:σ wb=some (.cells (pv w)))
 (h:KF (.val (bool (decide (fq (w.only l) 72=e)))) σ):aB prog m 44 [ints l,.ref wb 0,.cp (ints e) 0] σ KF:=by
 refine aB.start lay [5] [] 3 Tryz.func44 rfl rfl (by rfl) (by kernel_rfl) ?_;simp[Tryz.f44];refine bq.intro λf E=>?_
 have j:wb≠f:=λe=>by simp_all
 simp;have o:(σ.set f (.cells [bool false])) wb=some (.cells (pv w)):=(aa.ak _ _ j).trans D;refine cf Tryz.func45 rfl (CW.LM k C (λb=>∃d:aa,(∀c x,σ c=some x->c≠wb->d c=some x)/\b=d.set f (.cells [bool (decide (fq (w.only l) 72=e))])) o (λa p K r g F=>?_) ?_)
 . have s:p f=some (.cells [bool false]):=r.1 _ _ (by simp[aa.del,Ne.symm j])
   refine cP Tryz.func46 rfl rfl rfl (CW.Ap v y z A B g r.W s λb i=>?_);refine F _ ((aa.ak _ _ j).trans (i _ _ g)) ⟨b,λc x u n=>i _ _ (r.1 _ _ ?_),rfl⟩;have t:c≠f:=λe=>by simp_all
   simp only[aa.del,n,if_false];exact(aa.ak _ _ t).trans u
 . rintro b ⟨d,q,rfl⟩
   have G:((d.set f (.cells [bool (decide (fq (w.only l) 72=e))])).set wb (.cells (pv w))) f=some (.cells [bool (decide (fq (w.only l) 72=e))]):=(aa.ak _ _ (Ne.symm j)).trans (aa.ao _ _ _);refine af.run lay [5] ?_;simp[G];refine .less (λc x u=>?_) (.done h);have t:c≠f:=λe=>by simp_all
   by_cases e:c=wb
   . simp_all
   . rw[aa.ak _ _ e,aa.ak _ _ t];simp_all
def cG(x:List Int):Nat:=match x.getLast? with|none=>0|some v=>v.toNat+1
def nxt(n:Nat)(x:List Int):List (List Int):=(List.range' (cG x) (n-cG x)).map λ(j:Nat)=>x++[(j:Int)]
def tR(n:Nat):Nat->List (List Int)
 |0=>[[]]
 |k+1=>(tR n k).flatMap (nxt n)
theorem LN(n:Nat):∀k,∀x∈tR n k,x.length=k/\(∀c∈x,0<=c/\c<n)/\cG x<=n
 | 0,x,a=>by
   have:x=[]:=by simpa[tR]using a
   subst this;simp[cG]
 | k+1,x,a=>by
   simp only[tR,List.mem_flatMap,nxt,List.mem_map,List.mem_range'_1]at a;obtain⟨y,b,j,e,rfl⟩:=a;obtain⟨d,f,g⟩:=LN n k y b;refine⟨by simp[d],λc h=>?_,?_⟩
   . grind
   . simp[cG];omega
theorem xa(n:Nat):∀M:List (List Int),(M.flatMap (nxt n)).length<=M.length*n
 |[]=>by simp
 | x::M=>by
   have:=xa n M;rw[List.flatMap_cons,List.length_append,List.length_cons,Nat.add_mul];have:(nxt n x).length<=n:=by simp[nxt]
   omega
theorem FG(n:Nat):∀k,(tR n k).length<=n ^ k
 |0=>by simp[tR]
 |k+1=>by have a:=xa n (tR n k);have b:=FG n k;rw[Nat.pow_succ];exact Nat.le_trans a (Nat.mul_le_mul_right n b)
theorem EA{x:List Int}(h:0<x.length)(a:∀c∈x,0<=c):x[x.length-1]?=some ((cG x:Int)-1):=by
 have b:=a x[x.length-1] (List.getElem_mem _);unfold cG
 grind
def EB(n:Nat)(G:List Int->Bool):List Int:=(((List.range (n+1)).flatMap (tR n)).find? G).getD (sL n)
theorem NH{n k i:Nat}{G:List Int->Bool}(a:k<n+1)(b:i<(tR n k).length)(c:∀k'<k,∀x∈tR n k',G x=false)(d:∀x∈(tR n k).take i,G x=false)(h:G (tR n k)[i]=true):EB n G=(tR n k)[i]:=by
 unfold EB
 have e:List.range (n+1)=List.range k++k::List.range' (k+1) (n-k):=by rw[List.range_eq_range',List.range_eq_range',show n+1=k+(n-k+1)by omega,<-List.range'_append_1,Nat.zero_add];rfl
 have f:((List.range k).flatMap (tR n)).find? G=none:=List.find?_eq_none.2 λx g=>by grind
 have j:(tR n k).find? G=some (tR n k)[i]:=by
  have l:tR n k=(tR n k).take i++(tR n k)[i]::(tR n k).drop (i+1):=by simp_all
  grind
 grind
theorem NI{n:Nat}{G:List Int->Bool}(a:∀k'<n+1,∀x∈tR n k',G x=false):EB n G=sL n:=by
 unfold EB;rw[List.find?_eq_none.2 λx b=>by grind];rfl
abbrev lS(M:List (List Int)):List AV:=M.map ints
theorem bz.vo{P:Program}{m:Mo}{b:AV}{args args':List AV}{σ:aa}{KF:cJ->aa->Prop}(h:bz P m b args' σ KF)(c:Wl args args'):bz P m b args σ KF:=λQ k O cf a fr cs d e f g i j l n=>h Q k O cf a fr cs d (e.vo c) f g i j l n
theorem HR{n:Nat}(hn:n<=3){G:List Int->Bool}{f:AV}(b5:f.cells=[f])(a8:f.flat=true)(hf:∀(l:List Int) (σ':aa) (K:cJ->aa->Prop),(∀c∈l,0<=c/\c<(n:Int))->l.length<=n->σ.Le σ'->K (.val (bool (G l))) σ'->bz prog m f [ints l] σ' K){xs:List Int}(hx:xs.length=n)(a9:∀(j:Nat) (q:j<xs.length),xs[j]=j)(h:KF (.val (ints (EB n G))) σ):aB prog m 43 [.agg [f],ints xs] σ KF:=by
 refine fs [] 2 Tryz.func43 rfl rfl (by rfl) (by kernel_rfl) ?_
 simp[Tryz.f43];refine⟨a8,by omega,?_⟩
 refine af.CS 5 (a':=.sl 1 (lS (tR n 0)) .any) ?_ ?_
 . change AV.W (.sl 1 [.nil] .exact) (.sl 1 [ints []] .any)
   exact Pq rfl (by simp) (by simp) λi a a' h1 h2=>by
    cases i with
    |zero=>cases h1;cases h2;exact cz 1
    |succ i=>simp at h1
 refine af.loop (n+1) (λk s=>∃env σ',s=⟨env,σ',[],.no⟩/\(env 1=ints xs/\env 2=.cp (.agg [f]) 0/\env 5=.sl 1 (lS (tR n k)) .any/\env 17=int ((n:Int)+1)/\env 18=int k)/\σ.Le σ'/\∀k'<k,∀x∈tR n k',G x=false) ⟨_,_,rfl,by simp[hx],aa.le_refl _,by simp⟩ ?_
 rintro c0 k _ hk ⟨env,σ',rfl,⟨o,r,e5,g,rU⟩,L,N⟩ ih
 have hM:=LN n k;obtain⟨M,B⟩:∃M,M=tR n k:=⟨_,rfl⟩;rw[<-B]at hM e5;refine rn ?_;simp[g,rU];refine aG.intro (λg1=>?_) (λg1=>?_)<;>(try simp[-Int.not_lt,-Int.not_le,-Nat.not_lt,-Nat.not_le]at g1)<;>(try simp[o,e5,g1])
 . have b6:M.length<=27:=by
    rw[B];exact Nat.le_trans (FG n k) (Nat.le_trans (Nat.pow_le_pow_left hn k) (Nat.pow_le_pow_right (n:=3) (by decide) (show k<=3 by omega)))
   refine af.loop M.length (λi s=>∃env σ' a,s=⟨env,σ',[],.no⟩/\(env 1=ints xs/\env 2=.cp (.agg [f]) 0/\env 17=int ((n:Int)+1)/\env 18=int k/\env 20=.sl 1 (lS M) .any/\env 21=int M.length/\env 22=int i/\env 6=a)/\Tok σ σ' a 1 (lS ((M.take i).flatMap (nxt n)))/\∀x∈M.take i,G x=false) ⟨_,_,.nil,rfl,by simp[o,r,g,rU],⟨L,.inl ⟨rfl,by simp⟩⟩,by simp⟩ ?_
   rintro c1 i _ hi ⟨env,σ',a,rfl,⟨o,r,g,rU,xz,uy,uz,u⟩,ht,v⟩ ab
   refine rn ?_;simp[uy,uz];refine aG.intro (λJ=>?_) (λJ=>?_)<;>(try simp[-Int.not_lt,-Int.not_le,-Nat.not_lt,-Nat.not_le]at J)<;>(try simp[rU,xz,uz,u,J])
   . obtain ⟨ad,C,al⟩:=hM _ (List.getElem_mem J)
     have ar:=xa n (M.take i);have b4:((M.take i).flatMap (nxt n)).length<=200:=Nat.le_trans ar (Nat.le_trans (Nat.mul_le_mul (by rw[List.length_take];omega:(M.take i).length<=27) hn) (by decide))
     obtain⟨x,D⟩:∃x,x=M[i]:=⟨_,rfl⟩;rw[<-D]at ad C al;simp only[<-D];refine af.loop x.length (λj s=>∃env t b,s=⟨env,t,[],.no⟩/\(env 1=ints xs/\env 2=.cp (.agg [f]) 0/\env 17=int ((n:Int)+1)/\env 18=int k/\env 20=.sl 1 (lS M) .any/\env 21=int M.length/\env 22=int i/\env 6=a/\env 8=ints x/\env 26=ints x/\env 27=int x.length/\env 28=int j/\env 9=b)/\Tok σ' t b 1 ((x.take j).map int)) ⟨_,_,.nil,rfl,by simp[o,r,g,rU,xz,uy,uz,u],.nil σ' 1⟩ ?_
     rintro c2 j _ hj ⟨env,t,b,rfl,⟨o,r,g,rU,xz,uy,uz,u,A,O,P,F,e9⟩,w⟩ av
     refine rn ?_;simp[P,F];refine aG.intro (λQ=>?_) (λQ=>?_)<;>(try simp[-Int.not_lt,-Int.not_le,-Nat.not_lt,-Nat.not_le]at Q)<;>(try simp[o,r,O,F,e9,Q])
     . have g4:=C _ (List.getElem_mem Q)
       have g5:x[j].toNat<xs.length:=by omega
       have R:(xs[x[j].toNat]:Int)=x[j]:=by rw[a9 _ g5];omega
       have g7:x[j]<(xs.length:Int):=by omega
       simp[g4,g7,R];have H:(x.take (j+1)).map int=(x.take j).map int++[int x[j]]:=by rw[List.take_succ_eq_append_getElem Q,List.map_append];rfl
       refine aR lay rfl rfl rfl dT rfl dT rfl qp (by decide) (by simp only[List.length_map,List.length_take,List.length_cons,List.length_nil];omega) (σ0:=σ') (es:=(x.take j).map int) (xs:=[int x[j]]) (by simpa using w) (.inr ⟨_,rfl⟩) λa' p S=>?_
       rw[<-H]at S;refine rn ?_;simp[F];refine⟨by omega,av _ (by omega) ⟨_,_,a',rfl,by simp[o,r,g,rU,xz,uy,uz,u,A,O,P],S⟩⟩
     . have ej:j=x.length:=by omega
       subst ej;rw[List.take_length]at w;have T:=ht.up w.1;have E:=T.1;refine bz.vo (hf x t _ C (by omega) E ?_) (.cons w.W .nil)
       have U:G x=true->ints (EB n G)=ints x:=λq=>by
        rw[NH (i:=i) (by omega) (by grind) N (by rw[<-B];exact v) (by grind)]
        grind
       cases hG:G x with
       |true=>rw[U hG]at h;refine rn ?_;simp[e9,aG];refine .lV w.W (.less E (.done h))
       | false=>
         by_cases gl:0<x.length
         have ax:=EA gl λc hc=>(C c hc).1
         have gx:0<=(x.length:Int)-1/\(x.length:Int)-1<x.length/\1<=(x.length:Int):=by omega
         refine rn ?_;simp[A,aG,gl,gx,ax];refine⟨by omega,by omega,?_⟩
         refine af.mH (λe s=>(e 1=ints xs/\e 2=.cp (.agg [f]) 0/\e 17=int ((n:Int)+1)/\e 18=int k/\e 20=.sl 1 (lS M) .any/\e 21=int M.length/\e 22=int i/\e 6=a/\e 8=ints x/\e 13=int (cG x))/\s=t) ⟨by simp[o,r,g,rU,xz,uy,uz,u,A],rfl⟩ ?_
         rotate_left
         have ay:cG x=0:=by
          have:x=[]:=List.length_eq_zero_iff.1 (by omega)
          subst this;rfl
         refine rn ?_;simp[A,aG,gl];refine af.mH (λe s=>(e 1=ints xs/\e 2=.cp (.agg [f]) 0/\e 17=int ((n:Int)+1)/\e 18=int k/\e 20=.sl 1 (lS M) .any/\e 21=int M.length/\e 22=int i/\e 6=a/\e 8=ints x/\e 13=int (cG x))/\s=t) ⟨by simp[o,r,g,rU,xz,uy,uz,u,A,ay],rfl⟩ ?_
         rotate_left
         all_goals
          rintro env _ ⟨⟨o,r,g,rU,xz,uy,uz,u,A,z⟩,rfl⟩
          refine af.loop (n-cG x) (λd s=>∃env p a',s=⟨env,p,[],.no⟩/\(env 1=ints xs/\env 2=.cp (.agg [f]) 0/\env 17=int ((n:Int)+1)/\env 18=int k/\env 20=.sl 1 (lS M) .any/\env 21=int M.length/\env 22=int i/\env 6=a'/\env 8=ints x/\env 13=int ((cG x:Int)+d))/\Tok σ p a' 1 (lS ((M.take i).flatMap (nxt n)++(List.range' (cG x) d).map λ(j:Nat)=>x++[(j:Int)]))) ⟨_,_,a,rfl,by simp[o,r,g,rU,xz,uy,uz,u,A,z],by simpa using T⟩ ?_
          rintro c3 d _ hd ⟨env,p,a',rfl,⟨o,r,g,rU,xz,uy,uz,u,A,z⟩,V⟩ b1
          refine rn ?_;simp[o,z];refine aG.intro (λR=>?_) (λR=>?_)<;>(try simp[-Int.not_lt,-Int.not_le,-Nat.not_lt,-Nat.not_le]at R)<;>(try simp[uz,u,A,R])
          . refine jy lay rfl dT rfl qp (es:=x.map int) (sp:=.any) (l:=0) (h:=x.length) (by simp) (λcap X=>⟨⟨⟨.i64,by simp⟩,by simpa using X⟩,⟨⟨.i64,by simp⟩,Nat.le_refl _⟩,rfl⟩) (by simp) λb2 Y=>?_
            have Z:Tok p p b2 1 (x.map int):=by
             rw[List.drop_zero,List.take_of_length_le (by simp)]at Y
             rcases Y with rfl|⟨e,rfl⟩
             . exact .exact _ _ _
             . rw[e];exact .nil _ _
            refine rn ?_;simp[z];refine aR lay rfl rfl rfl dT rfl dT rfl qp (by decide) (by simp only[List.length_map,List.length_cons,List.length_nil];omega) (σ0:=p) (es:=x.map int) (xs:=[int ((cG x:Int)+d)]) (by simpa using Z) (.inr ⟨_,rfl⟩) λa2 b7 I=>?_
            have H:x.map int++[int ((cG x:Int)+d)]=(x++[((cG x+d:Nat):Int)]).map int:=by rw[List.map_append,Int.natCast_add];rfl
            rw[H]at I;refine af.CS 71 (a':=ints (x++[((cG x+d:Nat):Int)])) (show AV.W a2 _ from I.W) ?_
            refine rn ?_;simp
            have b3:lS ((M.take i).flatMap (nxt n)++(List.range' (cG x) (d+1)).map λ(j:Nat)=>x++[(j:Int)])=lS ((M.take i).flatMap (nxt n)++(List.range' (cG x) d).map λ(j:Nat)=>x++[(j:Int)])++[ints (x++[((cG x+d:Nat):Int)])]:=by rw[List.range'_1_concat,List.map_append,<-List.append_assoc,lS,List.map_append];rfl
            refine aR lay rfl rfl rfl sH rfl sH rfl dT (by decide) (by simp only[List.length_map,List.length_append,List.length_range',List.length_cons,List.length_nil];omega) (σ0:=σ) (es:=lS ((M.take i).flatMap (nxt n)++(List.range' (cG x) d).map λ(j:Nat)=>x++[(j:Int)])) (xs:=[ints (x++[((cG x+d:Nat):Int)])]) (by simpa using V.up I.1) (.inr ⟨_,rfl⟩) λa3 b8 a7=>?_
            rw[<-b3]at a7;refine rn ?_;simp[z];refine⟨by omega,b1 _ (by omega) ⟨_,_,a3,rfl,by simp[o,r,g,rU,xz,uy,uz,A,Int.add_assoc],a7⟩⟩
          . have ed:d=n-cG x:=by omega
            subst ed;refine⟨by omega,ab _ (by omega) ⟨_,_,a',rfl,by simp[o,r,g,rU,xz,uy,u],?_,λy hy=>?_⟩⟩
            . rw[List.take_succ_eq_append_getElem J,List.flatMap_append,List.flatMap_singleton,<-D]
              exact V
            . rw[List.take_succ_eq_append_getElem J,<-D]at hy
              rcases List.mem_append.1 hy with hy|hy
              . exact v y hy
              . rw[List.mem_singleton.1 hy];exact hG
   . have ei:i=M.length:=by omega
     subst ei;rw[List.take_length]at ht v;refine⟨by omega,?_⟩
     refine af.CS 5 (a':=.sl 1 (lS (tR n (k+1))) .any) ?_ (ih _ (by omega) ⟨_,_,rfl,by simp[o,r,g],ht.1,λk' q x hx=>?_⟩)
     . change AV.W a _
       have:=ht.W;rw[B]at this;exact this
     grind
 . have ek:k=n+1:=by omega
   subst ek;have e:xs=sL n:=List.ext_getElem (by grind) λj q1 q2=>by grind
   rw[NI N,<-e]at h;exact .less L (.done h)
def FH(w:bH):List Int:=EB w.aD.length λl=>decide (fq (w.only l) 72=fq w 72)
theorem HS{w:bH}(a:w.Valid){l:List Int}(b:l.length<=w.aD.length):wT (w.only l):=by
 refine⟨Nat.le_trans (List.length_filterMap_le _ _) (Nat.le_trans b a.NF.1),λc d=>a.NF.2 c ?_⟩;obtain⟨i,_,h⟩:=List.mem_filterMap.1 d;exact List.mem_of_getElem? h
theorem EC(h:m.solo=true){w:bH}(i:w.iU)(s:w.Open)(hSub:∀l:List Int,(∀c∈l,0<=c/\c<(w.aD.length:Int))->l.length<=w.aD.length->(w.only l).Open)(g:bW w [] [] []=0)(z:KF (.val (.bp [ints (FH w),int 0])) σ):aB prog m 12 [aT w] σ KF:=by
 have A:Wl [aT w,iv,iv,iv] [aT w,ints [],ints [],ints []]:=LL (.refl _) (cz 1) (cz 1) (cz 1);have B:=s.qt;have t:=sQ w 72;refine aB.start lay [1] [] 1 Tryz.func12 rfl rfl (by rfl) (by kernel_rfl) ?_;simp[Tryz.f12];refine bq.intro λwb k=>?_
 simp;refine aM Tryz.func41 rfl rfl A (fQ h i ⟨by simp,by simp,by simp⟩ (λq=>absurd g q) λq C fb mb u=>?_);refine af.run lay [1] ?_;simp;refine cf Tryz.func42 rfl (rN h s u.tQ λn I D=>?_);have a:=u.less D;refine af.runN lay [1] 3 ?_;simp;refine bq.intro λE o=>?_
 simp;change af _ _ _ _ _ _ _ _ _;refine af.aV 6 (b:=E) (ints (fq w 72)) (aa.ao _ _ _) (by simp) rfl ?_;rw[dz o];have d:n wb=some (.cells (pv w)):=a _ _ (aa.ao _ _ _);refine af.run lay [1] ?_;simp[d];refine cf Tryz.func49 rfl (pe (by omega) ?_);refine af.run lay [1] ?_;simp;have p:w.Valid:=bH.valid i (by unfold bW at g;split at g<;>first|assumption|exact g);refine cf Tryz.func43 rfl (HR B.2 rfl (by simp) (G:=λl=>decide (fq (w.only l) 72=fq w 72)) (λl F K v y f H=>cP Tryz.func44 rfl rfl rfl (Cz h (hSub l v y) ⟨i.ways,p.way,p.aS⟩ (HS p y) (by omega) v (by omega) (f _ _ d) H)) (Al _) (λj q=>by unfold sL;rw[List.getElem_map,List.getElem_range]) ?_);refine af.run lay [1] ?_;simp;exact .less (λc x r=>a _ _ ((aa.ak _ _ λe=>by rw[e,k]at r;cases r).trans r)) (.done z)
def Aq(way:List Int)(k:Int)(x:Int):Bool:=way[x.toNat]?.getD 0==k
def nD(way:List Int)(k:Int):List Int:=(sL way.length).filter (Aq way k)
theorem HT{way:List Int}{k x:Int}(b:0<=x/\x<way.length)(h:KF (.val (bool (Aq way k x))) σ):aB prog m 145 [int x,.cp (ints way) 0,.cp (int k) 0] σ KF:=by
 have a:x.toNat<way.length:=by omega
 unfold Aq at h;rw[List.getElem?_eq_getElem a]at h;refine fs Sz 3 Tryz.func145 rfl rfl (by rfl) (by kernel_rfl) ?_;simp[Tryz.f145];simp[b];refine rn ?_;simp;exact .done h
theorem HU{gb:Nat}{X:List AV}(b:σ gb=some (.cells X)){way:List Int}{k:Int}(j:way.length<=100)(h:∀σ',σ.Le σ'->KF (.val (ints (nD way k))) σ'):aB prog m 109 [ints way,int k] σ KF:=by
 refine fs [] 2 Tryz.func109 rfl rfl (by rfl) (by kernel_rfl) ?_;simp[Tryz.f109];refine cf Tryz.func49 rfl (pe (by omega) ?_);refine rn ?_;simp;refine cf Tryz.func86 rfl (LI (I:=λσ'=>σ' gb=some (.cells X)) (mb:=gb) ⟨λh d=>d _ _ h (λ_ q=>by cases q),λh e q=>by simp_all⟩ (by grind) rfl (λx a σ K f g=>cP Tryz.func145 rfl rfl rfl (HT (k:=k) (uK a) (g σ f (.refl _ _)))) b λσ' l i=>?_);refine rn ?_;simp;refine .done (h σ' λc x a=>?_);by_cases e:c=gb
 . simp_all
 . exact i c x a e
def ED(f:Fr)(way:List Int)(k:Int):Bool:=decide (nB f (nD way k)=0)
def ja(f:Fr):Nat->List Int->Nat->List (List Int)
 |0,way,_=>[way]
 |n+1,way,many=>(List.range (min (many+1) f.eQ.toNat)).flatMap λ(k:Nat)=>if ED f (way++[(k:Int)]) k then ja f n (way++[(k:Int)]) (max many (k+1))else[]
theorem HV{f:Fr}{way:List Int}{k:Int}(g:way.length+1<=f.aF.length)(i:f.aF.length<=6):Pw f (nD (way++[k]) k)/\(nD (way++[k]) k).length<20:=by
 have a:(nD (way++[k]) k).length<20:=by
  unfold nD
  grind
 refine⟨⟨?_,by omega⟩,a⟩
 have b:nD (way++[k]) k≠[]:=λe=>by
  have:(way.length:Int)∈nD (way++[k]) k:=List.mem_filter.2 ⟨List.mem_map.2 ⟨way.length,List.mem_range.2 (by simp),rfl⟩,by simp[Aq]⟩
  simp_all
 have j:=rI f (nD (way++[k]) k) none (λx c=>by
  have:=uK (List.mem_filter.1 c).1
  grind) ((List.pairwise_map.2 (List.pairwise_lt_range.imp λh=>by omega)).filter _) (λq d=>by cases d)
 unfold sJ
 simp_all
abbrev LO(f:Fr)(y:AV)(gb:Nat):AV:=.fn (.func 107) [] [.cp (dt f) 0,.cp y 0,.ref gb 0]
theorem LP{f:Fr}(E:f.Good){y:AV}(G:y.cells=[y]/\y.flat=true){gb:Nat}{Wn:List (List Int)}{I:Nat->aa->Prop}(H:∀k σ σ',I k σ->σ.Le σ'->I k σ')(v:∀k σ,I k σ->σ gb=some (.cells [LO f y gb]))
 (hy:∀k (w:k<Wn.length) (σ:aa) (K:cJ->aa->Prop),I k σ->(∀σ',I (k+1) σ'->K (.val (bool true)) σ')->bz prog m y [ints Wn[k]] σ K):
 ∀(n:Nat) (way:List Int) (many:Nat) (pre post:List (List Int)) (σ:aa) (KF:cJ->aa->Prop),way.length+n=f.aF.length->many<=6->Wn=pre++ja f n way many++post->I pre.length σ->(∀σ',I (pre.length+(ja f n way many).length) σ'->KF (.val (bool true)) σ')->aB prog m 107 [ints way,int many,.cp (dt f) 0,.cp y 0,.ref gb 0] σ KF:=by
 have h6:=E.qt;intro n
 induction n with
 | zero=>
   intro way many pre post σ KF hn hm F J h;have p:way.length=f.aF.length:=by omega
   refine fs Ou 5 Tryz.func107 rfl rfl (by rfl) (by kernel_rfl) ?_
   simp[Tryz.f107];simp[p,aG,G];have w:pre.length<Wn.length:=by rw[F];simp[ja]
   have he:Wn[pre.length]=way:=by subst F;simp[ja]
   rw[<-he];refine hy _ w _ _ J λσ' q=>?_
   refine rn ?_;simp;exact .done (h σ' (by simpa[ja]using q))
 | succ n L=>
   intro way many pre post σ KF hn hm F J h;have p:((way.length:Int)==f.aF.length)=false:=by simp;omega
   have a9:=E.eQ;obtain⟨B,hB⟩:∃B:Nat,(if f.eQ<(many:Int)+1 then f.eQ else (many:Int)+1)=(B:Int):=⟨min (many+1) f.eQ.toNat,by omega⟩
   have M:min (many+1) f.eQ.toNat=B:=by omega
   obtain⟨d,b⟩:∃d:Nat->List (List Int),∀k,d k=(List.range k).flatMap λ(k:Nat)=>if ED f (way++[(k:Int)]) k then ja f n (way++[(k:Int)]) (max many (k+1))else[]:=⟨_,λk=>rfl⟩
   have N:ja f (n+1) way many=d B:=by rw[b,<-M];rfl
   have O:∀k:Nat,d (k+1)=d k++if ED f (way++[(k:Int)]) k then ja f n (way++[(k:Int)]) (max many (k+1))else[]:=λk=>by rw[b,b,List.range_succ,List.flatMap_append,List.flatMap_singleton]
   have x:∀k:Nat,k<=B->∃t,d B=d k++t:=λk w=>by
    refine⟨(List.range' k (B-k)).flatMap λ(k:Nat)=>if ED f (way++[(k:Int)]) k then ja f n (way++[(k:Int)]) (max many (k+1))else [],?_⟩
    rw[b,b,<-List.flatMap_append,List.range_eq_range',List.range_eq_range'];congr 1;rw[show List.range' k (B-k)=List.range' (0+k) (B-k)by grind,List.range'_append_1,Nat.add_sub_cancel' w]
   rw[N]at F h;refine fs Ou 5 Tryz.func107 rfl rfl (by rfl) (by kernel_rfl) ?_
   simp[Tryz.f107];simp[p,aG,hB];refine⟨by omega,?_⟩
   refine af.loop B (λk s=>∃env σ',s=⟨env,σ',[],.no⟩/\(env 0=ints way/\env 1=int many/\env 2=.cp (dt f) 0/\env 3=.cp y 0/\env 4=.ref gb 0/\env 25=int B/\env 26=int k)/\I (pre.length+(d k).length) σ') ⟨_,_,rfl,by simp,by simpa[b]using J⟩ ?_
   rintro c0 k _ w ⟨env,σ',rfl,⟨P,Q,R,e3,S,r,g⟩,u⟩ ih
   refine rn ?_;simp[r,g];refine aG.intro (λT=>?_) (λT=>?_)<;>(try simp[-Int.not_lt,-Int.not_le,-Nat.not_lt,-Nat.not_le]at T)<;>(try simp[P,g,T])
   . have U:=v _ _ u
     refine jy lay rfl dT rfl qp (es:=way.map int) (sp:=.any) (l:=0) (h:=way.length) (by simp) (λcap a8=>⟨⟨⟨.i64,by simp⟩,by grind⟩,⟨⟨.i64,by simp⟩,Nat.le_refl _⟩,rfl⟩) (by simp) λb2 z=>?_
     have A:Tok σ' σ' b2 1 (way.map int):=by
      rw[List.drop_zero,List.take_of_length_le (by simp)]at z
      rcases z with rfl|⟨e,rfl⟩
      . exact .exact _ _ _
      . rw[e];exact .nil _ _
     refine rn ?_;simp;refine aR lay rfl rfl rfl dT rfl dT rfl qp (by decide) (by simp only[List.length_map,List.length_cons,List.length_nil];omega) (σ0:=σ') (es:=way.map int) (xs:=[int k]) (by simpa using A) (.inr ⟨_,rfl⟩) λa2 ab i=>?_
     have V:way.map int++[int k]=(way++[(k:Int)]).map int:=by rw[List.map_append];rfl
     rw[V]at i;refine af.CS 37 (a':=ints (way++[(k:Int)])) (show AV.W a2 _ from i.W) ?_
     obtain⟨nx,C⟩:∃nx,nx=way++[(k:Int)]:=⟨_,rfl⟩;have c:=HV (f:=f) (way:=way) (k:=(k:Int)) (by omega) h6
     have ad:nx.length=way.length+1:=by rw[C];simp
     have j:=O k;rw[<-C]at c j ⊢;refine rn ?_;simp[R];refine cf Tryz.func109 rfl (HU (i.1 _ _ U) (by omega) λD q5=>?_)
     refine pg ?_;simp;refine cf Tryz.func108 rfl (PE E.fits E.H4 c.1 c.2 ?_);refine pg ?_;simp;have X:=H _ _ _ u (aa.le_trans i.1 q5);have Y:=v _ _ X;cases o:ED f nx k with
     |false=>have a:=o;unfold ED at a;rw[o]at j;rw[a];refine rn ?_;simp[g,aG];refine⟨by omega,ih _ (by omega) ⟨_,D,rfl,by simp[P,Q,R,e3,S,r],by grind⟩⟩
     | true=>
       have a:=o;unfold ED at a;rw[o,if_pos rfl]at j;rw[a];refine rn ?_;simp[Q,S,Y];refine⟨by omega,?_⟩
       have Z:(if (many:Int)<(k:Int)+1 then (k:Int)+1 else (many:Int))=((max many (k+1):Nat):Int):=by omega
       rw[Z];obtain⟨t,ht⟩:=x (k+1) (by omega)
       refine cP Tryz.func107 rfl rfl rfl (L nx (max many (k+1)) (pre++d k) (t++post) D _ (by omega) (by omega) (by grind) (by grind) λa7 q6=>?_)
       refine rn ?_;simp[g,aG];refine⟨by omega,ih _ (by omega) ⟨_,a7,rfl,by simp[P,Q,R,e3,S,r],by rw[j];simpa[Nat.add_assoc]using q6⟩⟩
   . have ek:k=B:=by omega
     subst ek;exact .done (h σ' u)
theorem HW{f:Fr}(n:f.Good){y:AV}(g:y.cells=[y]/\y.flat=true){I:Nat->aa->Prop}(b:∀k σ σ',I k σ->σ.Le σ'->I k σ')
 (o:∀k (j:k<(ja f f.aF.length [] 0).length) (a:aa) (K:cJ->aa->Prop),I k a->(∀σ',I (k+1) σ'->(∀d x,σ d=none->a d=some x->σ' d=some x)->K (.val (bool true)) σ')->bz prog m y [ints (ja f f.aF.length [] 0)[k]] a K)
 (p:I 0 σ) (h:∀σ',I (ja f f.aF.length [] 0).length σ'->KF (.val (.bp [])) σ'):aB prog m 106 [y,.cp (dt f) 0] σ KF:=by
 refine fs [] 2 Tryz.func106 rfl rfl (by rfl) (by kernel_rfl) ?_;simp[Tryz.f106];refine⟨by simp_all,?_⟩;refine bq.intro λgb i=>?_
 simp;refine cP Tryz.func107 rfl rfl rfl (aB.vo (LP n g (gb:=gb) (Wn:=ja f f.aF.length [] 0) (I:=λk σ'=>I k σ'/\σ' gb=some (.cells [LO f y gb])) (λk σ σ' q l=>⟨b _ _ _ q.1 l,l _ _ q.2⟩) (λk σ q=>q.2) (λk j a K q r=>o k j a K q.1 λσ' s t=>r σ' ⟨s,t _ _ i q.2⟩) f.aF.length [] 0 [] [] _ _ (by simp) (by omega) (by simp) ⟨b _ _ _ p ?_,aa.ao _ _ _⟩ λσ' q=>?_) (.cons (cz 1) (.refl _)))
 . exact λc x u=>(aa.ak _ _ λe=>by simp_all).trans u
 . refine rn ?_
   simp;exact .done (h σ' (by simp_all))
theorem LQ{f:Fr}(h:KF (.val (.fn (.func 106) [] [.cp (dt f) 0])) σ):aB prog m 64 [dt f] σ KF:=by
 refine fs [] 1 Tryz.func64 rfl rfl (by rfl) (by kernel_rfl) ?_;simp[Tryz.f64];exact .done h
end Go.Proofs.YtkcceaplmgdnfaaGreatDoor
