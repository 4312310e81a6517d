import Derived.Test.YtldmpfccgajobaaGreatDoorD1
set_option linter.all false
namespace Go.Proofs.YtldmpfccgajobaaGreatDoor
open Go.aR
abbrev Vk:List Entry:=[⟨8,.take [0,1,2,3,4,5,6,7] false (.one 8 (.one 9 (.one 10 (.take [11] true (.done)))))⟩,⟨12,.take [0,1,2,3,5,6,7,8] false (.both 4 (.both 9 (.both 10 (.one 11 (.one 12 (.one 13 (.done)))) (.one 11 (.one 10 (.one 12 (.one 13 (.done)))))) (.both 10 (.both 9 (.one 11 (.one 12 (.one 13 (.done)))) (.one 11 (.one 9 (.one 12 (.one 13 (.done)))))) (.one 11 (.both 9 (.one 10 (.one 12 (.one 13 (.done)))) (.one 10 (.one 9 (.one 12 (.one 13 (.done))))))))) (.both 10 (.both 4 (.both 9 (.one 11 (.one 12 (.one 13 (.done)))) (.one 11 (.one 9 (.one 12 (.one 13 (.done)))))) (.one 11 (.one 4 (.one 9 (.one 12 (.one 13 (.done))))))) (.one 11 (.both 4 (.both 9 (.one 10 (.one 12 (.one 13 (.done)))) (.one 10 (.one 9 (.one 12 (.one 13 (.done)))))) (.one 10 (.one 4 (.one 9 (.one 12 (.one 13 (.done))))))))))⟩,⟨14,.take [0,1,2,3,4,5,6,7] false (.both 8 (.take [9,10,11,14] false (.one 12 (.one 13 (.done)))) (.one 12 (.one 8 (.take [9,10,11,14] false (.one 13 (.done))))))⟩,⟨15,.take [0,1,2,3,4,5] false (.one 6 (.take [7,8,9,10,11,12,13,14] false (.one 15 (.take [16,17,18,19,20,21,22,23] false (.one 24 (.take [25,26] true (.done)))))))⟩]
abbrev IL:List Entry:=[⟨17,.take [0,1,2,3,4,5,6,7,9,13] false (.both 8 (.one 10 (.one 11 (.take [12] true (.done)))) (.one 10 (.one 8 (.one 11 (.take [12] true (.done))))))⟩]
end Go.Proofs.YtldmpfccgajobaaGreatDoor
namespace Go.Proofs.YtldmpfccgajobaaGreatDoor
open Go.aR Go.Conc
set_option maxHeartbeats 1000000
set_option maxRecDepth 4000
section
variable{L:List (List Int)}{n:Nat}
end
theorem ia{b mb:Nat}{f:Fr}{σ σ':aa}(h:rj b 6 mb .u8 (cO f) σ)(a:σ' b=σ b)(c:σ' mb=σ mb):rj b 6 mb .u8 (cO f) σ':=by unfold rj at h ⊢;rw[a,c];exact h
theorem yB{f:Fr}(a:f.Good){n:gq}(b:bf f.roads.length n=0)(c:n.marks.length<1152921504606846976)(d:f.ao.length<6):(cW f n).Good:=
 ⟨⟨by have:=d;simp[cW];omega,a.fits.roads,a.fits.row,λe he=>by
    rcases List.mem_append.1 he with he|he
    . exact a.fits.marks e he
    . simp at he;subst he;exact c⟩,a.fr,a.to,a.le,a.dG,a.most,by simp[cW];omega,λe he=>by
    rcases List.mem_append.1 he with he|he
    . exact a.uB e he
    . simp at he;subst he;exact b,a.Io⟩
end Go.Proofs.YtldmpfccgajobaaGreatDoor
namespace Go.Proofs.YtldmpfccgajobaaGreatDoor
open Go.aR Go.Conc
set_option maxHeartbeats 2000000
set_option maxRecDepth 4000
variable{m:Mo}{σ:aa}{KF:dF->aa->Prop}
theorem BF{l:List Int}(f:l.length<=1000000000)(h:KF (.val (ints l)) σ):ar Tryz.prog m 99 [ints l] σ KF:=by
 by_cases b:l=[]
 . subst b
   refine ar.thaw ?_;refine ar.start lay [] [] 1 Tryz.func99 rfl rfl (by rfl) (by kernel_rfl) ?_;simp[Tryz.f99];refine Ai (es:=[]) (sp:=.any) (kk:=1) lay rfl bC rfl rfl ?_ (.inl rfl) (λ_=>?_) ?_
   . simp
   . have e:(BinOp.eql==BinOp.eql)=true:=rfl
     refine ab.run lay [] ?_;simp;exact .done (.eG (cV 1) (.done h))
   . have e:(BinOp.eql==BinOp.neq)=false:=rfl
     refine ab.run lay [] ?_;simp[e];refine jx lay rfl rfl rfl bC rfl bC rfl oo (by decide) (by simp) (σ0:=σ) (es:=[]) (xs:=([]:List Int).map int) (.empty σ 1) (.inl (.inr ⟨_,by simp;rfl⟩)) (by simp) λg c d=>?_
     refine ab.run lay [] ?_;simp;exact .done ((show bF σ c g 1 (([]:List Int).map int)by simpa using d).thaw h)
 . exact(yC b f λa c d=>d.thaw h).thaw
theorem L7{σ0 σ:aa}{a:AV}{kk:Nat}{es:List AV}(h:Tok σ0 σ a kk es)(c:es≠[]):∃sp,a=.sl kk es sp:=by
 rcases h.2 with⟨_,q⟩|q|⟨b,e,_,q,_⟩
 . exact absurd q c
 . exact⟨_,q⟩
 . exact⟨_,q⟩
def BG(f:Fr)(n:gq):List AV:=if am f []≠[]/\am (cW f n) []=[]then[.agg kA,int 9]else[az (cW f n),int 0]
namespace AD
abbrev IL:List Entry:=[⟨17,.take [0,2,5,9,13] false (.both 1 (.both 3 (.take [4] false (.both 6 (.take [7] false (.both 8 (.one 10 (.one 11 (.take [12] true (.done)))) (.one 10 (.one 8 (.one 11 (.take [12] true (.done))))))) (.one 10 (.one 6 (.take [7] false (.one 8 (.one 11 (.take [12] true (.done))))))))) (.both 6 (.take [7] false (.both 3 (.take [4] false (.both 8 (.one 10 (.one 11 (.take [12] true (.done)))) (.one 10 (.one 8 (.one 11 (.take [12] true (.done))))))) (.one 10 (.one 3 (.take [4] false (.one 8 (.one 11 (.take [12] true (.done))))))))) (.one 10 (.both 3 (.take [4] false (.one 6 (.take [7] false (.one 8 (.one 11 (.take [12] true (.done))))))) (.one 6 (.take [7] false (.one 3 (.take [4] false (.one 8 (.one 11 (.take [12] true (.done)))))))))))) (.both 3 (.take [4] false (.both 1 (.both 6 (.take [7] false (.both 8 (.one 10 (.one 11 (.take [12] true (.done)))) (.one 10 (.one 8 (.one 11 (.take [12] true (.done))))))) (.one 10 (.one 6 (.take [7] false (.one 8 (.one 11 (.take [12] true (.done)))))))) (.both 6 (.take [7] false (.both 1 (.both 8 (.one 10 (.one 11 (.take [12] true (.done)))) (.one 10 (.one 8 (.one 11 (.take [12] true (.done)))))) (.one 10 (.one 1 (.one 8 (.one 11 (.take [12] true (.done)))))))) (.one 10 (.both 1 (.one 6 (.take [7] false (.one 8 (.one 11 (.take [12] true (.done)))))) (.one 6 (.take [7] false (.one 1 (.one 8 (.one 11 (.take [12] true (.done)))))))))))) (.both 6 (.take [7] false (.both 1 (.both 3 (.take [4] false (.both 8 (.one 10 (.one 11 (.take [12] true (.done)))) (.one 10 (.one 8 (.one 11 (.take [12] true (.done))))))) (.one 10 (.one 3 (.take [4] false (.one 8 (.one 11 (.take [12] true (.done)))))))) (.both 3 (.take [4] false (.both 1 (.both 8 (.one 10 (.one 11 (.take [12] true (.done)))) (.one 10 (.one 8 (.one 11 (.take [12] true (.done)))))) (.one 10 (.one 1 (.one 8 (.one 11 (.take [12] true (.done)))))))) (.one 10 (.both 1 (.one 3 (.take [4] false (.one 8 (.one 11 (.take [12] true (.done)))))) (.one 3 (.take [4] false (.one 1 (.one 8 (.one 11 (.take [12] true (.done)))))))))))) (.one 10 (.both 1 (.both 3 (.take [4] false (.one 6 (.take [7] false (.one 8 (.one 11 (.take [12] true (.done))))))) (.one 6 (.take [7] false (.one 3 (.take [4] false (.one 8 (.one 11 (.take [12] true (.done))))))))) (.both 3 (.take [4] false (.both 1 (.one 6 (.take [7] false (.one 8 (.one 11 (.take [12] true (.done)))))) (.one 6 (.take [7] false (.one 1 (.one 8 (.one 11 (.take [12] true (.done))))))))) (.one 6 (.take [7] false (.both 1 (.one 3 (.take [4] false (.one 8 (.one 11 (.take [12] true (.done)))))) (.one 3 (.take [4] false (.one 1 (.one 8 (.one 11 (.take [12] true (.done))))))))))))))))⟩]
theorem L8(hs:m.solo=true){f:Fr}{n:gq}(hf:f.Fits)(hc:check f=0)(h5:f.ao.length<6)(hn:bf f.roads.length n=0)(hm:n.marks.length<=1000)(b8:∀e∈f.ao,e.marks.length<=1000)(al:∀r∈f.roads,r.length<=1000000000)(cm:f.roads.length<=1000)(h:KF (.val (.bk (BG f n))) σ):ar Tryz.prog m 45 [az f,aS n] σ KF:=by
 have hg:=Fr.eh hf hc;have ho:=mQ hc;have cv:=hf.roads;have b9:=yB hg hn (by omega) h5
 refine ar.start lay [2] IL 2 Tryz.func45 rfl rfl (by rfl) (by kernel_rfl) ?_
 simp[Tryz.f45];refine bT.intro λt h2=>?_
 simp;refine bT.intro λu h4=>?_
 obtain⟨z1,z2,h4⟩:=aa.aG h4;simp[z2,aa.ag];generalize C:(σ.set t (.cells (bS f))).set u (.cells kA)=D;have S:σ.Le D:=by subst C;exact aa.cX (aa.cX (aa.le_refl _) h2) (by rw[aa.ag _ _ z1];exact h4)
 have J:D t=some (.cells (bS f)):=by subst C;simp[aa.ag,aa.an,z2]
 have b4:D u=some (.cells kA):=by subst C;simp[aa.an]
 have hW:Wl [AV.agg (bS f),AV.lit (.slice none 0 0)] [az f,ints []]:=.cons (.refl _) (.cons (cV 1) .nil);refine aT Tryz.func59 rfl rfl hW (fI hf (by simp) (λq=>absurd ho q) λ_ b mb j d=>?_)
 have hu:rj b 6 mb .u8 (cO f) j:=by rw[d.eq];exact⟨aa.an _ _ _,[],(aa.ag _ _ (Ne.symm d.ne)).trans (aa.an _ _ _),λn a h=>by simp[gu]at h⟩
 have k2:=d.le _ _ J;have k4:=d.le _ _ b4;have T:t≠b:=λe=>by rw[e,d.hb]at J;cases J
 have U:t≠mb:=λe=>by rw[e,d.tk]at J;cases J
 have bq:u≠b:=λe=>by rw[e,d.hb]at b4;cases b4
 have bz:u≠mb:=λe=>by rw[e,d.tk]at b4;cases b4
 have O:σ.Le j:=aa.le_trans S λy x o=>d.le y x o
 have q6:((f.ao.length:Int)==6)=false:=by rw[beq_eq_false_iff_ne];omega
 refine ab.run lay [2] ?_;simp[k2,q6];refine ai Tryz.func81 rfl rfl (nr ⟨by omega,by omega⟩ (by omega) ?_)
 rw[hn];refine ab.run lay [2] ?_;simp[k2];refine ab.loop f.roads.length (λk s=>∃env i,s=⟨env,i,[],.no⟩/\env 2=.ref t 0/\env 3=.cp (aS n) 0/\env 4=.ref u 0/\env 6=iY b mb f 0/\env 39=rows f.roads/\env 40=int f.roads.length/\env 41=int k/\Tok j i (env 9) 1 ((f.roads.take k).map ints)) ⟨_,j,rfl,by simp,by simp,by simp,by simp,by simp,by simp,by simp,by simpa using Tok.nil j 1⟩ ?_
 rintro k0 k _ hk ⟨env,i,rfl,B,e3,K,P,av,V,Y,c⟩ ih
 have Z:=c.cells
 rcases Nat.lt_or_ge k f.roads.length with g1|g1
 . have a7:(k:Int)<f.roads.length:=by omega
   have f1:-9223372036854775808<=(k:Int)+1/\(k:Int)+1<=9223372036854775807:=by omega
   refine ab.run lay [2] ?_;simp[av,V,Y,g1,a7];refine ai Tryz.func99 rfl rfl (BF (al _ (List.getElem_mem g1)) ?_);refine ab.run lay [2] ?_;simp;refine aF lay rfl rfl rfl kX rfl kX rfl bC (by decide) (by simp;omega) (σ0:=j) (es:=(f.roads.take k).map ints) (xs:=[ints f.roads[k]]) (by simpa using c) (.inr ⟨_,by simp;rfl⟩) λa' dd E=>?_
   have ax:=E.cells;refine ab.run lay [] ?_;simp[Y,f1.1,f1.2];refine ih _ g1 ⟨_,_,rfl,by simp[B],by simp[e3],by simp[K],by simp[P],by simp[av],by simp[V],by simp,?_⟩
   rw[List.take_succ_eq_append_getElem g1,List.map_append];simpa using E
 . have a8 : k = f.roads.length:=by omega
   subst a8;rw[List.take_length]at c;refine ab.yD 9 (a':=rows f.roads) (by simpa using c.W) ?_
   refine ab.weaken (σ:=j) ?_ c.1;clear ih c Z;obtain⟨p,F⟩:∃p,p=j.set t (.cells (bS f)):=⟨_,rfl⟩;refine ab.run lay [2] ?_;simp[B,e3,V,Y,k2,aH];simp only[<-F];apply pG (I:=λenv a9=>∃G,env 2=.ref t 0/\env 3=.cp (aS n) 0/\env 4=.ref u 0/\env 6=iY b mb f 0/\env 12=.lit (.slice none 0 0)/\env 64=.sl 6 (f.ao.map aS++[aS n]) G/\env 65=int ((f.ao.length:Int)+1)/\env 66=int 0/\Tok p a9 (.sl 6 (f.ao.map aS++[aS n]) G) 6 (f.ao.map aS++[aS n]))
   . intro ad
     repeat' (first
               |apply And.intro
               | (refine pE lay rfl lz rfl tx (es:=f.ao.map aS) (sp:=.any) (l:=0) (h:=f.ao.length) (by simp) (λcap ay=>⟨⟨⟨.i64,by simp⟩,by simpa using ay⟩,⟨⟨.i64,by simp⟩,Nat.le_refl _⟩,rfl⟩) (by simp) λa hq=>?_
                  have H:Tok p p a 6 (f.ao.map aS):=by
                   rcases hq with rfl|⟨h1,rfl⟩
                   . have:List.take (f.ao.length-0) (List.drop 0 (f.ao.map aS))=f.ao.map aS:=by rw[List.drop_zero,List.take_of_length_le (by simp)]
                     rw[this];exact⟨aa.le_refl _,.inr (.inl rfl)⟩
                   . exact⟨aa.le_refl _,.inl ⟨rfl,h1⟩⟩
                  have b0:=H.cells;clear hq;refine aI.go lay [] ?_;simp[b0.1,b0.2])
               | (refine aF lay rfl rfl rfl lz rfl lz rfl tx (by decide) (by simp;omega) (σ0:=p) (es:=f.ao.map aS) (xs:=[aS n]) (by simpa using H) (.inr ⟨_,by simp;rfl⟩) λa2 a9 b1=>?_
                  obtain⟨G,rfl⟩:=L7 b1 (by simp)
                  refine aI.go lay [] ?_;simp;refine ad _ _ ?_;refine⟨G,?_,?_,?_,?_,?_,?_,?_,?_,?_⟩
                  all_goals first|exact b1|simp[B,e3,K,P]))
   rintro env a9 ⟨G,B,e3,K,P,bh,w,z,A,c⟩
   obtain⟨M,hM⟩:∃M,M=(cW f n).ao:=⟨_,rfl⟩;have bA:M.length=f.ao.length+1:=by rw[hM];simp[cW]
   have bB:M.map aS=f.ao.map aS++[aS n]:=by rw[hM];simp[cW]
   rw[<-bB]at w c
   have c5:∀e∈M,e.marks.length<=1000000000:=λe he=>by
    rw[hM]at he
    rcases List.mem_append.1 he with he|he
    . have:=b8 e he;omega
    . simp at he;subst he;omega
   refine ab.yD 64 (a':=ll M) (by rw[w];exact eE 6 _ _) ?_
   refine ab.weaken (σ:=p) ?_ c.1;have s2:p t=some (.cells (bS f)):=by rw[F];exact aa.an _ _ _
   have s4:p u=some (.cells kA):=by rw[F,aa.ag _ _ z1];exact k4
   have c6:rj b 6 mb .u8 (cO f) p:=by rw[F];exact ia hu (aa.ag _ _ (Ne.symm T)) (aa.ag _ _ (Ne.symm U))
   have Q:σ.Le p:=by rw[F];exact aa.iz O h2
   clear c w;have R:env 65=int M.length:=by rw[z,bA];simp
   refine ab.run lay [2] ?_;simp;refine ab.loop M.length (λk s=>∃env i,s=⟨env,i,[],.no⟩/\env 2=.ref t 0/\env 4=.ref u 0/\env 6=iY b mb f 0/\env 64=ll M/\env 65=int M.length/\env 66=int k/\Tok p i (env 12) 6 ((M.take k).map aS)) ⟨_,p,rfl,by simp[B],by simp[K],by simp[P],by simp,by simp[R],by simp[A],by simpa[bh]using Tok.nil p 6⟩ ?_
   clear B e3 K P bh z R A
   rintro k0 k _ hk ⟨env,i,rfl,B,K,P,w,z,A,c⟩ ih
   have Z:=c.cells
   rcases Nat.lt_or_ge k M.length with g1|g1
   . have a7:(k:Int)<M.length:=by omega
     have f1:-9223372036854775808<=(k:Int)+1/\(k:Int)+1<=9223372036854775807:=by omega
     refine ab.run lay [2] ?_;simp[w,z,A,g1,a7];refine bT.intro λdj c7=>?_
     simp;refine ai Tryz.func99 rfl rfl (BF (c5 _ (List.getElem_mem g1)) ?_);refine ab.run lay [2] ?_;simp[aH];refine aF lay rfl rfl rfl lz rfl lz rfl tx (by decide) (by simp;omega) (σ0:=p) (es:=(M.take k).map aS) (xs:=[aS M[k]]) (by simpa using c.up (aa.cX (aa.le_refl _) c7)) (.inr ⟨_,by simp;rfl⟩) λa' dr E=>?_
     have ax:=E.cells;refine ab.run lay [] ?_;simp[A,f1.1,f1.2];refine ih _ g1 ⟨_,_,rfl,by simp[B],by simp[K],by simp[P],by simp[w],by simp[z],by simp,?_⟩
     rw[List.take_succ_eq_append_getElem g1,List.map_append];simpa using E
   . have a8:k=M.length:=by omega
     subst a8;rw[List.take_length]at c;refine ab.yD 12 (a':=ll M) (by simpa using c.W) ?_
     refine ab.weaken (σ:=p) ?_ c.1;clear ih c Z;subst hM;refine ab.run lay [2] ?_;simp[B,P,z,A,s2,aH];refine ai Tryz.func88 rfl rfl (mR (eo ln lp qH hs d.ne) hg (ia c6 (aa.ag _ _ (Ne.symm T)) (aa.ag _ _ (Ne.symm U))) λdx dy q5=>?_)
     have p2:=q5 t _ (aa.an _ _ _) T (.inl U);have p4:=q5 u _ ((aa.ag _ _ z1).trans s4) bq (.inl bz)
     by_cases v:am f []=[]
     . rw[show decide (am f []≠[])=false by simp[v],]
       rw[show BG f n=[az (cW f n),int 0]by simp[BG,v]]at h
       refine ab.run lay [2] ?_;simp[B,K,p2,p4,aH];refine .less (λy x o=>?_) (.done h)
       have y2:y≠t:=λe=>by subst e;rw[h2]at o;cases o
       have y4:y≠u:=λe=>by subst e;rw[h4]at o;cases o
       have L:D y=some x:=S y x o;have yb:y≠b:=λe=>by rw[e,d.hb]at L;cases L
       have ym:y≠mb:=λe=>by rw[e,d.tk]at L;cases L
       rw[aa.ag _ _ y4];exact q5 y x ((aa.ag _ _ y2).trans (Q y x o)) yb (.inl ym)
     refine ab.run lay [2] ?_;simp[B,v,p2];refine ai Tryz.func86 rfl rfl (rk (f:=cW f n) λJ N c8 g=>?_)
     have ca:rj J 6 N .u8 (cO (cW f n)) c8:=by rw[g.eq];exact⟨aa.an _ _ _,[],(aa.ag _ _ (Ne.symm g.ne)).trans (aa.an _ _ _),λn a h=>by simp[gu]at h⟩
     have r2:=g.le _ _ p2;have r4:=g.le _ _ p4;have b3:t≠J:=λe=>by rw[e,g.hb]at p2;cases p2
     have b5:t≠N:=λe=>by rw[e,g.tk]at p2;cases p2
     have b6:u≠J:=λe=>by rw[e,g.hb]at p4;cases p4
     have b7:u≠N:=λe=>by rw[e,g.tk]at p4;cases p4
     refine ab.run lay [2] ?_;simp;refine ai Tryz.func88 rfl rfl (mR (eo ln lp qH hs g.ne) b9 ca λcb e0 q7=>?_)
     have t2:=q7 t _ r2 b3 (.inl b5);have t4:=q7 u _ r4 b6 (.inl b7)
     have fin:∀X,σ.Le (cb.set u X):=λX y x o=>by
      have y2:y≠t:=λe=>by subst e;rw[h2]at o;cases o
      have y4:y≠u:=λe=>by subst e;rw[h4]at o;cases o
      have x1:=O y x o;have L:D y=some x:=S y x o;have yb:y≠b:=λe=>by rw[e,d.hb]at L;cases L
      have ym:y≠mb:=λe=>by rw[e,d.tk]at L;cases L
      have x5:=q5 y x ((aa.ag _ _ y2).trans (Q y x o)) yb (.inl ym);have cg:y≠J:=λe=>by rw[e,g.hb]at x5;cases x5
      have cl:y≠N:=λe=>by rw[e,g.tk]at x5;cases x5
      rw[aa.ag _ _ y4];exact q7 y x (g.le y x x5) cg (.inl cl)
     by_cases hw:am (cW f n) []=[]
     . rw[show decide (am (cW f n) []≠[])=false by simp[hw]]
       rw[show BG f n=[.agg kA,int 9]by simp[BG,hw,v]]at h
       refine ab.run lay [2] ?_;simp[K,t4,aH];exact .less (fin _) (.done h)
     . rw[show decide (am (cW f n) []≠[])=true by simp[hw]]
       rw[show BG f n=[az (cW f n),int 0]by simp[BG,hw]]at h
       refine ab.run lay [2] ?_;simp[B,K,t2,t4,aH];exact .less (fin _) (.done h)
end AD
end Go.Proofs.YtldmpfccgajobaaGreatDoor
namespace Go.Proofs.YtldmpfccgajobaaGreatDoor
open Go.aR Go.Conc
set_option maxHeartbeats 1000000
set_option maxRecDepth 4000
variable{m:Mo}{σ:aa}{KF:dF->aa->Prop}
def Df:Fr:=⟨[],[],0,0,0,0⟩
def Aj(f:Fr)(n:gq):Fr × Int:=if check f≠0 then(Df,check f)else if f.ao.length=6 then(Df,6)else if bf f.roads.length n≠0 then(Df,bf f.roads.length n)else if am f []≠[]/\am (cW f n) []=[]then(Df,9)else(cW f n,0)
theorem uC(e:AV):(AV.bk [.agg kA,e]).W (.bk [az Df,e]):=oy rfl λi x y c d=>by
 match i with
 | 0=>
   simp at c d;subst c;subst d
   exact oz rfl λi x y a b=>by
    match i with
    |0=>simp[Df]at a b;subst a;subst b;exact cV 6
    |1=>simp[Df]at a b;subst a;subst b;exact cV 1
    |2=>simp[Df]at a b;subst a;subst b;exact .refl _
    |3=>simp[Df]at a b;subst a;subst b;exact .refl _
    |4=>simp[Df]at a b;subst a;subst b;exact .refl _
    |5=>simp[Df]at a b;subst a;subst b;exact .refl _
    |i+6=>simp at a
 |1=>simp at c d;subst c;subst d;exact .refl _
 |i+2=>simp at c
theorem E8{f:Fr}{n:gq}(l:f.Fits)(v:n.marks.length<1152921504606846976)(h:KF (.val (.bk [az (Aj f n).1,int (Aj f n).2])) σ):ar Tryz.prog m 46 [az f,aS n] σ KF:=by
 have A:=l.ao;unfold Aj at h;refine ar.start lay [] [] 2 Tryz.func46 rfl rfl (by rfl) (by kernel_rfl) ?_
 simp[Tryz.f46];refine bT.intro λc g=>?_
 simp
 have B:∀X,σ.Le ((σ.set c (.cells kA)).set c X):=λX y x b=>by
  have i:y≠c:=λe=>by subst e;rw[g]at b;cases b
  rw[aa.ag _ _ i,aa.ag _ _ i];exact b
 refine ai Tryz.func34 rfl rfl (jW l ?_);refine ab.run lay [] ?_;simp;refine aE.intro (λd=>?_) (λd=>?_)<;>simp at d<;>simp[d]
 . rw[if_pos d]at h
   exact .less (aa.cX (aa.le_refl _) g) (.eG (uC _) (.done h))
 rw[if_neg (by simp[d])]at h
 have o:=Fr.eh l d;have F:=o.oA;refine aE.intro (λw=>?_) (λw=>?_)<;>simp at w
 . rw[if_pos (by omega)]at h
   simp[aH];exact .less (aa.cX (aa.le_refl _) g) (.eG (uC _) (.done h))
 rw[if_neg (by omega)]at h
 simp;refine ai Tryz.func84 rfl rfl (pH l.roads v ?_);refine ab.run lay [] ?_;simp;refine aE.intro (λj=>?_) (λj=>?_)<;>simp at j
 . rw[if_pos j]at h
   simp[aH];exact .less (aa.cX (aa.le_refl _) g) (.eG (uC _) (.done h))
 rw[if_neg (by simp[j])]at h
 have k:=yB o j v (by omega)
 have C:=cH o [];have D:=cH k [];simp;refine ai Tryz.func57 rfl rfl (WI.E9 (by omega) ?_)
 refine ab.run lay [] ?_;simp;refine bT.intro λz r=>?_
 obtain⟨G,s,r⟩:=aa.aG r;simp[aH];refine ai Tryz.func61 rfl rfl (jy o ?_);refine ab.run lay [] ?_;simp
 have a:∀X,σ.Le (((σ.set c (.cells kA)).set z (.cells (bS (cW f n)))).set c X):=λX y x b=>by
  have i:y≠c:=λe=>by subst e;rw[g]at b;cases b
  have E:y≠z:=λe=>by subst e;rw[r]at b;cases b
  rw[aa.ag _ _ i,aa.ag _ _ E,aa.ag _ _ i];exact b
 by_cases p:am f []=[]
 . rw[if_neg (by simp[p])]at h
   simp[p,s,aa.ag,aH];exact .less (a _) (.done h)
 . have t:0<(am f []).length:=List.length_pos_iff.2 p
   simp[t];refine ai Tryz.func61 rfl rfl (jy k ?_);refine ab.run lay [] ?_;simp
   by_cases q:am (cW f n) []=[]
   . rw[if_pos ⟨p,q⟩]at h
     simp[q,s,aa.ag,aH];exact .less (a _) (.eG (uC _) (.done h))
   . rw[if_neg (by simp[q])]at h
     have u:(((am (cW f n) []).length:Int)==0)=false:=by rw[beq_eq_false_iff_ne];have:=List.length_pos_iff.2 q;omega
     simp[u,s,aa.ag,aH];exact .less (a _) (.done h)
theorem L9(N:m.solo=true){f:Fr}{n:gq}(s:f.Fits)(O:n.marks.length<=1000)(H:∀e∈f.ao,e.marks.length<=1000)(v:∀r∈f.roads,r.length<=1000000000)(I:f.roads.length<=1000)(h:KF (.val (.bk [az (Aj f n).1,int (Aj f n).2])) σ):ar Tryz.prog m 45 [az f,aS n] σ KF:=by
 have P:=s.roads;have Q:=s.ao;unfold Aj at h
 by_cases l:check f=0
 . have R:=Fr.eh s l
   have S:=R.oA;rw[if_neg (by simp[l])]at h
   have w:=mQ l
   by_cases M:f.ao.length=6
   . rw[if_pos M]at h
     refine ar.start lay [2] IL 2 Tryz.func45 rfl rfl (by rfl) (by kernel_rfl) ?_
     simp[Tryz.f45];refine bT.intro λo z=>?_
     simp;refine bT.intro λi g=>?_
     obtain⟨A,p,g⟩:=aa.aG g;simp[p,aa.ag];generalize a:(σ.set o (.cells (bS f))).set i (.cells kA)=c;have j:σ.Le c:=by subst a;exact aa.cX (aa.cX (aa.le_refl _) z) (by rw[aa.ag _ _ A];exact g)
     have E:c o=some (.cells (bS f)):=by subst a;simp[aa.ag,aa.an,p]
     have B:c i=some (.cells kA):=by subst a;simp[aa.an]
     have C:Wl [AV.agg (bS f),AV.lit (.slice none 0 0)] [az f,ints []]:=.cons (.refl _) (.cons (cV 1) .nil);refine aT Tryz.func59 rfl rfl C (fI s (by simp) (λq=>absurd w q) λ_ b mb t d=>?_)
     have F:=d.le _ _ E;have J:=d.le _ _ B
     have fin:∀X,σ.Le (t.set i X):=λX y x k=>by
      have D:y≠i:=λe=>by subst e;rw[g]at k;cases k
      rw[aa.ag _ _ D];exact d.le y x (j y x k)
     refine ab.run lay [2] ?_;simp[F];have u:((f.ao.length:Int)==6)=true:=beq_iff_eq.2 (by omega)
     simp[u,J,aH];exact .less (fin _) (.eG (uC _) (.done h))
   . rw [if_neg M]at h
     by_cases G:bf f.roads.length n=0
     . rw[if_neg (by simp[G])]at h
       refine ar.thaw (AD.L8 N s l (by omega) G O H v I ?_)
       unfold BG;split
       . next q=>rw[if_pos q]at h;exact .eG (uC _) (.done h)
       . next q=>rw[if_neg q]at h;exact .done h
     . rw[if_pos G]at h
       have K:(bf f.roads.length n !=0)=true:=by simpa using G
       have u:((f.ao.length:Int)==6)=false:=by rw[beq_eq_false_iff_ne];omega
       refine ar.start lay [2] IL 2 Tryz.func45 rfl rfl (by rfl) (by kernel_rfl) ?_
       simp[Tryz.f45];refine bT.intro λo z=>?_
       simp;refine bT.intro λi g=>?_
       obtain⟨A,p,g⟩:=aa.aG g;simp[p,aa.ag];generalize a:(σ.set o (.cells (bS f))).set i (.cells kA)=c;have j:σ.Le c:=by subst a;exact aa.cX (aa.cX (aa.le_refl _) z) (by rw[aa.ag _ _ A];exact g)
       have E:c o=some (.cells (bS f)):=by subst a;simp[aa.ag,aa.an,p]
       have B:c i=some (.cells kA):=by subst a;simp[aa.an]
       have C:Wl [AV.agg (bS f),AV.lit (.slice none 0 0)] [az f,ints []]:=.cons (.refl _) (.cons (cV 1) .nil);refine aT Tryz.func59 rfl rfl C (fI s (by simp) (λq=>absurd w q) λ_ b mb t d=>?_)
       have F:=d.le _ _ E;have J:=d.le _ _ B
       have fin:∀X,σ.Le (t.set i X):=λX y x k=>by
        have D:y≠i:=λe=>by subst e;rw[g]at k;cases k
        rw[aa.ag _ _ D];exact d.le y x (j y x k)
       refine ab.run lay [2] ?_;simp[F];simp[u,F];refine ai Tryz.func81 rfl rfl (nr ⟨by omega,by omega⟩ (by omega) ?_)
       refine ab.run lay [2] ?_;simp[K,J,aH];exact .less (fin _) (.eG (uC _) (.done h))
 . rw[if_pos l]at h
   have w:aO f []=check f:=by unfold aO;rw[if_pos l]
   have L:(check f !=0)=true:=by simpa using l
   refine ar.start lay [2] IL 2 Tryz.func45 rfl rfl (by rfl) (by kernel_rfl) ?_
   simp[Tryz.f45];refine bT.intro λo z=>?_
   simp;refine bT.intro λi g=>?_
   obtain⟨A,p,g⟩:=aa.aG g;simp[p,aa.ag];generalize a:(σ.set o (.cells (bS f))).set i (.cells kA)=c;have j:σ.Le c:=by subst a;exact aa.cX (aa.cX (aa.le_refl _) z) (by rw[aa.ag _ _ A];exact g)
   have E:c o=some (.cells (bS f)):=by subst a;simp[aa.ag,aa.an,p]
   have B:c i=some (.cells kA):=by subst a;simp[aa.an]
   have C:Wl [AV.agg (bS f),AV.lit (.slice none 0 0)] [az f,ints []]:=.cons (.refl _) (.cons (cV 1) .nil);refine aT Tryz.func59 rfl rfl C (fI s (by simp) (λ_=>?_) λq=>absurd (w ▸ q) l)
   rw[w];refine ab.run lay [2] ?_;simp[L,B,aH];refine .less (λy x k=>?_) (.eG (uC _) (.done h))
   have D:y≠i:=λe=>by subst e;rw[g]at k;cases k
   rw[aa.ag _ _ D];exact j y x k
end Go.Proofs.YtldmpfccgajobaaGreatDoor
namespace Go.Proofs.YtldmpfccgajobaaGreatDoor
open Go.aR Go.Conc
set_option maxHeartbeats 2000000
set_option maxRecDepth 4000
variable{m:Mo}{σ:aa}{KF:dF->aa->Prop}
theorem IM:Df.Fits:=⟨by simp[Df],by simp[Df],by simp[Df],by simp[Df]⟩
theorem Gh{f:Fr}{n:gq}(h:Small f)(c:n.marks.length<=20):(Aj f n).1.Fits:=by
 have a:=IM
 have b:(cW f n).Fits:=⟨by simp[cW];have:=h.ao;omega,h.fits.roads,h.fits.row,λe he=>by
  rcases List.mem_append.1 he with he|he
  . exact h.fits.marks e he
  . simp at he;subst he;omega⟩
 unfold Aj;split
 . exact a
 split
 . exact a
 split
 . exact a
 split
 . exact a
 . exact b
theorem BH(hs:m.solo=true){f:Fr}{n:gq}{C:List Int}(hf:f.Fits)(hm:n.marks.length<1152921504606846976)(hn:C.length<1152921504606846976)(h:KF (.val (bool true)) σ):gS Tryz.prog lay m 7 [az f,aS n,ints C] σ KF:=by
 refine gS.start lay [] Vk 3 Tryz.func7 rfl rfl (by rfl) (by kernel_rfl) ?_
 simp[Tryz.f7];refine ai Tryz.func10 rfl rfl (r9 hf λv Y=>?_)
 refine ab.run lay [] ?_;simp;cases v with
 |true=>simp;refine ai Tryz.func11 rfl rfl (dq hs ?_);refine ab.run lay [] ?_;simp;exact .done h
 |false=>
 by_cases g0:(20:Int)<n.marks.length
 . simp[g0]
   refine ai Tryz.func11 rfl rfl (dq hs ?_);refine ab.run lay [] ?_;simp;exact .done h
 obtain⟨a9,_⟩:=Y rfl;have Q:n.marks.length<=20:=by omega
 simp[g0];refine ai Tryz.func13 rfl rfl (nQ λc T hc hb U=>?_)
 refine ab.run lay [] ?_;simp;refine ai Tryz.func12 rfl rfl (lY (by omega) hn hb (by obtain⟨_,_,_,q⟩:=hb;rw[q];simp) λf1 seen c5 ad _ al h5 hd=>?_)
 have R:=lZ a9 ad al h5 Q;have hlen:[f,f1,seen,cW seen n].length=4:=rfl;generalize [f,f1,seen,cW seen n]=L at R hlen ⊢
 have av:∀k O,nR c C k T O->σ.Le O:=λk O hd y x hy=>by
  have S:y≠c:=λe=>by subst e;rw[hc]at hy;cases hy
  rw[hd.2 y S,U y S];exact hy
 refine ab.run lay [] ?_;simp;refine ab.loop L.length (λi s=>∃env D,s=⟨env,D,[],.no⟩/\nR c C (1500+20*i) T D/\env 4=.cp (aS n) 0/\env 7=.ref c 0/\env 8=gO L/\env 9=int i) ⟨_,_,rfl,by simpa using hd,by simp,by simp,by simp,by simp⟩ ?_
 clear hd
 rintro c0 i _ hi ⟨env,O,rfl,hd,a,d,j,l⟩ ih
 rcases Nat.lt_or_ge i L.length with g1|g1
 . have o : (i : Int)<L.length:=by omega
   have f1:-9223372036854775808<=(i:Int)+1/\(i:Int)+1<=9223372036854775807:=by omega
   obtain⟨g,H⟩:∃g,g=L[i]:=⟨_,rfl⟩;have J:=R g (by rw[H];exact List.getElem_mem g1)
   have P:=J.fits;have c6:=J.roads;have b1:∀z:Int,(z !=z)=false:=λz=>by simp
   obtain⟨sp,ax⟩:∃sp:Int,sp=min (g.roads.length:Int) 3:=⟨_,rfl⟩;refine ab.run lay [] ?_;simp[a,d,j,l,g1,o,<-H,<-ax];refine ai Tryz.func43 rfl rfl (uD (by omega) hn ⟨by omega,by omega⟩ hd.1 λq F hq V=>?_)
   have c7:=(ja hq.marks).2;have ay:nR c C (1500+20*(i+1)) T F:=⟨(hd.trans V).1.mono (by omega),(hd.trans V).2⟩
   clear V hd;refine aI.go lay [] ?_;simp[a,d,j,l];refine ab.yD 10 (a':=ll [n,q]) (by simp;exact eE 6 [aS n,aS q] .exact) ?_
   have hE:∀e∈[n,q],e.marks.length<=20:=λe G=>by
    simp only[List.mem_cons,List.not_mem_nil,or_false]at G
    rcases G with rfl|rfl
    . exact Q
    . omega
   have b0:[n,q].length=2:=rfl;generalize [n,q]=E at hE b0 ⊢;refine ab.run lay [] ?_;simp[a,d,j,l];refine ab.loop E.length (λk s=>∃env,s=⟨env,F,[],.no⟩/\env 4=.cp (aS n) 0/\env 7=.ref c 0/\env 8=gO L/\env 9=int i/\env 10=ll E/\env 11=int k) ⟨_,rfl,by simp[a],by simp[d],by simp[j],by simp[l],by simp,by simp⟩ ?_
   clear a d j l
   rintro c1 k _ hk ⟨env,rfl,a,d,j,l,cP,aV⟩ b2
   rcases Nat.lt_or_ge k E.length with g2|g2
   . have jj : (k:Int)<E.length:=by omega
     have f2:-9223372036854775808<=(k:Int)+1/\(k:Int)+1<=9223372036854775807:=by omega
     obtain⟨e,G⟩:∃e,e=E[k]:=⟨_,rfl⟩;have b3:=hE e (by rw[G];exact List.getElem_mem g2)
     apply pG (I:=λenv D=>∃t u,t≠u/\F t=none/\F u=none/\env 4=.cp (aS n) 0/\env 7=.ref c 0/\env 8=gO L/\env 9=int i/\env 10=ll E/\env 11=int k/\env 12=.ref t 0/\env 13=.ref u 0/\(∀y,y≠t->y≠u->D y=F y)/\D t=some (.cells (bS g))/\D u=some (.cells [int e.hour,int e.place,int e.bG,ints e.marks,int e.aQ,int e.fT]))
     . intro A
       refine ab.run lay [] ?_;simp[a,d,j,l,cP,aV,g1,o,g2,jj,<-H,<-G]
       repeat' (first
                 |apply And.intro
                 | (refine ai Tryz.func14 rfl rfl (J.own ?_)
                    refine aI.go lay [] ?_;simp[a,d,j,l,cP,aV,g1,o,g2,jj,<-H,<-G])
                 | (refine ai Tryz.func44 rfl rfl (pI (by omega) ?_)
                    refine aI.go lay [] ?_;simp[a,d,j,l,cP,aV,g1,o,g2,jj,<-H,<-G,W,X,aa.ag,aH])
                 | (refine ai Tryz.func44 rfl rfl (pI (by omega) ?_)
                    refine aI.go lay [] ?_;simp[a,d,j,l,cP,aV,g1,o,g2,jj,<-H,<-G])
                 | (refine ns.intro (dst:=some 12) λt K=>?_
                    have W:=(aa.aG K).1;have X:=(aa.aG K).2.1;have K:=(aa.aG K).2.2;simp[a,d,j,l,cP,aV,g1,o,g2,jj,<-H,<-G,W,X,aa.ag,aH])
                 | (refine ns.intro (dst:=some 12) λt K=>?_
                    simp[a,d,j,l,cP,aV,g1,o,g2,jj,<-H,<-G])
                 | (refine ns.intro (dst:=some 13) λu M=>?_
                    have W:=(aa.aG M).1;have X:=(aa.aG M).2.1;have M:=(aa.aG M).2.2;simp[a,d,j,l,cP,aV,g1,o,g2,jj,<-H,<-G,W,X,aa.ag,aH])
                 | (refine ns.intro (dst:=some 13) λu M=>?_
                    simp[a,d,j,l,cP,aV,g1,o,g2,jj,<-H,<-G])
                 |exact A _ _ ⟨t,u,(by first|exact W|exact X),K,M,by simp[a],by simp[d],by simp[j],by simp[l],by simp[cP],by simp[aV],by simp,by simp,λy S Z=>by simp[aa.ag,S,Z],by simp[aa.ag,W,X],by simp[aa.ag,W,X]⟩)
     clear a d j l cP aV
     rintro env b4 ⟨t,u,b5,b6,b7,a,d,j,l,cP,aV,bh,p,a7,b8,b9⟩
     refine ab.bD 12 (b:=t) (az g) b8 bh rfl ?_;refine ab.bD 13 (b:=u) (aS e) (by simp[aa.del,Ne.symm b5,b9]) (by simp[p]) rfl ?_
     have bq:(b4.del t).del u=F:=by
      funext y
      by_cases S:y=u
      . subst S;simp[aa.del,b7]
      . by_cases Z:y=t
        . subst Z;simp[aa.del,b6]
        . simp[aa.del,S,Z,a7 y Z S]
     rw[bq];refine ab.run lay [] ?_;simp[a,d,j,l,cP,aV];refine ai Tryz.func45 rfl rfl (L9 hs P (by omega) (λz hz=>by have:=J.marks z hz;omega) (λr hr=>by have:=J.row r hr;omega) (by omega) ?_)
     have a8:=Gh J b3;obtain⟨v,Y⟩:∃v,v=Aj g e:=⟨_,rfl⟩;rw[<-Y]at a8 ⊢;refine ab.runN lay [] 6 ?_;simp;refine bT.intro λbz bA=>?_
     simp[a,d,j,l,cP,aV];refine ab.bD 14 (b:=bz) (az v.1) (by simp) (by simp) rfl ?_
     rw[mS bA];apply pG (I:=λenv D=>∃B,F B=none/\env 4=.cp (aS n) 0/\env 7=.ref c 0/\env 8=gO L/\env 9=int i/\env 10=ll E/\env 11=int k/\env 12=.cp (az g) 0/\env 13=.cp (aS e) 0/\env 14=.cp (az v.1) 0/\env 15=int v.2/\env 16=.ref B 0/\env 17=int v.2/\D=F.set B (.cells (bS v.1)))
     . intro A
       refine ab.run lay [] ?_;simp[a,d,j,l,cP,aV,g1,o,g2,jj,<-H,<-G];refine⟨?_,?_⟩
       . refine ai Tryz.func46 rfl rfl (E8 (n:=e) P (by omega) ?_)
         rw[<-Y];refine aI.go lay [] ?_;simp[a,d,j,l,cP,aV];refine ns.intro λB N=>?_
         simp[a,d,j,l,cP,aV,aH];exact A _ _ ⟨B,N,by simp[a,d,j,l,cP,aV],by simp[a,d,j,l,cP,aV],by simp[a,d,j,l,cP,aV],by simp[a,d,j,l,cP,aV],by simp[a,d,j,l,cP,aV],by simp[a,d,j,l,cP,aV],by simp[a,d,j,l,cP,aV],by simp[a,d,j,l,cP,aV],by simp[a,d,j,l,cP,aV],by simp,by simp,by simp,rfl⟩
       . refine ns.intro λB N=>?_
         simp[a,d,j,l,cP,aV,g1,o,g2,jj,<-H,<-G];refine ai Tryz.func46 rfl rfl (E8 (n:=e) P (by omega) ?_)
         rw[<-Y];refine aI.go lay [] ?_;simp[a,d,j,l,cP,aV,aH];exact A _ _ ⟨B,N,by simp[a,d,j,l,cP,aV],by simp[a,d,j,l,cP,aV],by simp[a,d,j,l,cP,aV],by simp[a,d,j,l,cP,aV],by simp[a,d,j,l,cP,aV],by simp[a,d,j,l,cP,aV],by simp[a,d,j,l,cP,aV],by simp[a,d,j,l,cP,aV],by simp[a,d,j,l,cP,aV],by simp,by simp,by simp,rfl⟩
     clear a d j l cP aV bh p
     rintro env c8 ⟨B,N,a,d,j,l,cP,aV,bh,p,bU,ck,hQ,w,rfl⟩
     refine ab.bD 16 (b:=B) (az v.1) (by simp) hQ rfl ?_
     rw[mS N];refine ab.run lay [] ?_;simp[a,d,j,l,cP,aV,bh,p,bU,ck,w,b1];refine ai Tryz.func22 rfl rfl (fN a8 ?_);refine aI.go lay [] ?_;simp[a,d,j,l,cP,aV,bh,p,bU,ck,w,g1,o,g2,jj,<-H,<-G];refine ai Tryz.func22 rfl rfl (fN P ?_);refine aI.go lay [] ?_;simp[a,d,j,l,cP,aV,bh,p,bU,ck,w,g1,o,g2,jj,<-H,<-G];refine ai Tryz.func47 rfl rfl (nT (by omega) ?_)
     refine aI.go lay [] ?_;simp[a,d,j,l,cP,aV,bh,p,bU,ck,w,g1,o,g2,jj,<-H,<-G];refine ab.run lay [] ?_;simp[a,d,j,l,cP,aV,bh,p,bU,ck,w,f2.1,f2.2];exact b2 _ g2 ⟨_,rfl,by simp[a,d,j,l,cP,aV,bh,p,bU,ck,w],by simp[a,d,j,l,cP,aV,bh,p,bU,ck,w],by simp[a,d,j,l,cP,aV,bh,p,bU,ck,w],by simp[a,d,j,l,cP,aV,bh,p,bU,ck,w],by simp[a,d,j,l,cP,aV,bh,p,bU,ck,w],by simp⟩
   . have ca:k=E.length:=by omega
     have jj:¬(k:Int)<E.length:=by omega
     refine ab.run lay [] ?_;simp[a,d,j,l,cP,aV,jj,f1.1,f1.2];exact ih _ g1 ⟨_,_,rfl,ay,by simp[a,d,j,l,cP,aV],by simp[a,d,j,l,cP,aV],by simp[a,d,j,l,cP,aV],by simp⟩
 . have bB:i=L.length:=by omega
   subst bB;refine ab.weaken (σ:=σ) ?_ (av _ _ hd);refine ab.run lay [] ?_;simp[a,d,j,l];refine ai Tryz.func11 rfl rfl (dq hs ?_);refine ab.run lay [] ?_;simp[a,d,j,l];exact .done h
end Go.Proofs.YtldmpfccgajobaaGreatDoor
