import Derived.Test.YtebcbkhnlnkolaaGreatDoorC19
set_option linter.all false
set_option maxHeartbeats 2000000
set_option maxRecDepth 4000
namespace Go.Proofs.YtebcbkhnlnkolaaGreatDoor
open Go.Proofs.Tryz (prog)
section
open Go.cE Go.Conc
def GS(L:acX)(g g':Int)(v:acX):Bool:=il (L.idxOf g:Int) (L.idxOf g':Int) v
theorem uf{L:acX}{g}(h:g∈L):L.getD (L.idxOf g) 0=g:=by grind
theorem H7  f  (es cs:acX)  x  (N:acX) (a:cs.Nodup) (b:∀c∈cs,0<=c/\c<3) (g:3*(es.getD x 0).toNat+2<N.length)  q :∀n ,n<=cs.length ->
 ((List.range n).foldl (λN y=>N.set (3*(es.getD x 0).toNat+(cs.getD y 0).toNat) (nZ f x ((es.length:Int)+y))) N).length=N.length/\
 (∀y<n,((List.range n).foldl (λN y=>N.set (3*(es.getD x 0).toNat+(cs.getD y 0).toNat) (nZ f x ((es.length:Int)+y))) N).getD (3*(es.getD x 0).toNat+(cs.getD y 0).toNat) 0=nZ f x ((es.length:Int)+y))/\
 ((∀y<n,q≠3*(es.getD x 0).toNat+(cs.getD y 0).toNat)->((List.range n).foldl (λN y=>N.set (3*(es.getD x 0).toNat+(cs.getD y 0).toNat) (nZ f x ((es.length:Int)+y))) N).getD q 0=N.getD q 0)
 |0,_=>⟨rfl,λy d=>by omega,λ_=>rfl⟩
 | n + 1,o=>by
   obtain⟨p,r,j⟩:=H7 f es cs x N a b g q n (by omega);rw[aaz,aaS,abd,List.foldl_nil];generalize (List.range n).foldl _ N=R at *;have s:=b _ (gQ (l:=cs) (i:=n) (by omega));refine⟨by simp_all,λy d=>?_,λh=>?_⟩
   . by_cases e:y=n
     . subst e
       rw[zs,abm (by omega)];rfl
     . have k:(cs.getD y 0).toNat≠(cs.getD n 0).toNat:=λq=>by
        have m:=b _ (gQ (l:=cs) (i:=y) (by omega));have:cs.getD y 0=cs.getD n 0:=by omega
        rw[zs,zs,zR (show y<cs.length by omega),zR (show n<cs.length by omega)]at this;exact e (yB a this)
       grind
   . rw[zs,abb (λe=>h n (by omega) e.symm),<-List.getD_eq_getElem?_getD]
     exact j λy d=>h y (by omega)
theorem ES  f   es cs  (a:es.Nodup) (g:∀i∈es,0<=i/\i<6) (b:cs.Nodup) (d:∀c∈cs,0<=c/\c<3)  q :∀n ,n<=es.length ->
 ((List.range n).foldl (λN x=>wj f es cs x N) (List.replicate 18 0)).length=18/\
 (∀x<n,∀y<cs.length,((List.range n).foldl (λN x=>wj f es cs x N) (List.replicate 18 0)).getD (3*(es.getD x 0).toNat+(cs.getD y 0).toNat) 0=nZ f x ((es.length:Int)+y))/\
 ((∀x<n,∀y<cs.length,q≠3*(es.getD x 0).toNat+(cs.getD y 0).toNat)->((List.range n).foldl (λN x=>wj f es cs x N) (List.replicate 18 0)).getD q 0=0)
 |0,_=>⟨by simp,λy j=>by omega,λ_=>by grind⟩
 | n + 1,w=>by
   obtain⟨o,p,r⟩:=ES f es cs a g b d q n (by omega);rw[aaz,aaS,abd,List.foldl_nil];obtain⟨R,k⟩:∃R,R=(List.range n).foldl (λN x=>wj f es cs x N) (List.replicate 18 0):=⟨_,rfl⟩;rw[<-k]at o p r ⊢;have z:=g _ (gQ (l:=es) (i:=n) (by omega));have s:3*(es.getD n 0).toNat+2<R.length:=by omega
   have key:=λq=>H7 f es cs n R b d s q cs.length (aao _)
   refine⟨by unfold wj;exact(key 0).1.trans o,λx A y j=>?_,λh=>?_⟩
   . by_cases e:x=n
     . subst e;exact(key 0).2.1 y j
     . have t:=g _ (gQ (l:=es) (i:=x) (by omega))
       have u:(es.getD x 0).toNat≠(es.getD n 0).toNat:=λq=>by
        have:es.getD x 0=es.getD n 0:=by omega
        rw[zs,zs,zR (show x<es.length by omega),zR (show n<es.length by omega)]at this;exact e (yB a this)
       have v:=d _ (gQ j);unfold wj;rw[(key _).2.2 λB m=>by have:=d _ (gQ m);omega]
       grind
   . unfold wj
     grind
section
variable{w:fP}
theorem AU  n :(pI n).Nodup:=by unfold pI;rw[List.Nodup,List.pairwise_map];exact(List.nodup_range (n:=n)).imp λh e=>h (by omega)
theorem Cq  w   h :(dR w h).Nodup:=(AU _).filter _
theorem Cr  w   h :(de w h).Nodup:=(AU _).filter _
theorem AW{es cs i}(hi:i∈es):(EP w es cs).idxOf i=es.idxOf i:=by grind
theorem Qo{cs:acX}{n c}:(cs.map fun  c=>c+n).idxOf (c+n)=cs.idxOf c:=by
 induction cs with
 |nil=>rfl
 |cons a l b=>grind
theorem AX{es cs:acX}{c:Int}(a:∀i∈es,i<w.fair.aD.length)(b:0<=c):(EP w es cs).idxOf (c+w.fair.aD.length)=es.length+cs.idxOf c:=by unfold EP;rw[List.idxOf_append,aaj λq=>by grind,Qo,Nat.add_comm]
abbrev Ok(w:fP)(h i c:Int):Int:=Eu (aI (mh w h) []) ((mn w h).idxOf i) ((mn w h).idxOf (c+w.fair.aD.length))
theorem Qp(a:w.Valid){h i c}(hi:0<=i/\i<6)(b:0<=c/\c<3):iL w h i c=if i∈dR w h/\c∈de w h then Ok w h i c else 0:=by
 have m:=a.px;have n:=a.GD.1;obtain⟨_,d,f⟩:=ES (mh w h) (dR w h) (de w h) (Cq w h) (λi q=>by have:=jU q;omega) (Cr w h) (λi q=>by have:=n8 q;omega) (3*i.toNat+c.toNat) _ (aao _)
 have e:iL w h i c=(AP (mh w h) (dR w h) (de w h)).getD (3*i.toNat+c.toNat) 0:=by show(AP (dg w (aB (kE w h)) (aB (kC w h))) (aB (kE w h)) (aB (kC w h))).getD (3*i.toNat+c.toNat) 0=_;rw[a.kE,a.kC]
 rw[e];unfold AP;split
 . next q=>
   obtain⟨g,o⟩:=nW q.1;obtain⟨j,p⟩:=nW q.2;have:=d _ g _ j;rw[uf q.1,uf q.2]at this;rw[this];unfold Ok Eu nZ;rw[AW q.1,AX (λi q=>(jU q).2) b.1]
   simp_all
 . next q=>
   refine f λx k y l e=>q ?_
   have r:=jU (gQ k);have s:=n8 (gQ l);have t:(dR w h).getD x 0=i:=by omega
   have u:(de w h).getD y 0=c:=by omega
   grind
theorem Ki(a:w.Valid)  h :0<(aI (mh w h) []).length:=by
 have:=(a.open.bk h).some;simp only[a.kE,a.kC]at this
 grind
theorem Qq(a:w.Valid){h i c}(hi:0<=i/\i<6)(d:0<=c/\c<3):vf (iL w h i c)=true↔(i∈dR w h/\c∈de w h)/\∃v∈aI (mh w h) [],GS (mn w h) i (c+w.fair.aD.length) v=true:=by
 have b:=Ki a h;rw[Qp a hi d];split
 . next q=>
   have f:=Gy b (x:=(mn w h).idxOf i) (y:=(mn w h).idxOf (c+w.fair.aD.length))
   have g:vf (Ok w h i c)=true↔Ok w h i c≠2:=by rcases J4 (aI (mh w h) []) ((mn w h).idxOf i) ((mn w h).idxOf (c+w.fair.aD.length)) b with e|e|e<;>simp[Ok,e,vf]
   rw[g,Ne,f];unfold GS
   simp_all
 . next q=>exact⟨λz=>(by cases z),λz=>absurd z.1 q⟩
end
end
section
open Go Go.cE Go.Conc
variable{m:Mo}{σ:af}{KF:acJ}
def sn(way:acX)(k:Int)(x:Int):Bool:=way[x.toNat]?.getD 0==k
def jF(way:acX)(k:Int):acX:=(pI way.length).filter (sn way k)
theorem Kj{way k x}(b:0<=x/\x<way.length)(h:KF (.val (bool (sn way k x))) σ):aA prog m 127 [int x,.cp (ints way) 0,.cp (int k) 0] σ KF:=by
 have a:x.toNat<way.length:=by omega
 unfold sn at h;rw[zR a]at h;refine fs Vr Tryz.func127 rfl (by kernel_rfl) ?_;simp[Tryz.f127];simp[b];apply rn;simp;exact .done h
theorem Kk{gb X}(b:σ gb=some (.cells X)){way k}(j:way.length<=100)(h:∀σ',σ.Le σ'->KF (.val (ints (jF way k))) σ'):aA prog m 96 [ints way,int k] σ KF:=by
 refine fs [] Tryz.func96 rfl (by kernel_rfl) ?_;simp[Tryz.f96];refine cf Tryz.func74 rfl (qZ (by omega) ?_);apply rn;simp;refine cf Tryz.func79 rfl (Oc (I:=λσ'=>σ' gb=some (.cells X)) (mb:=gb) ⟨λh d=>d _ _ h (λ_ q=>by cases q),λh e q=>by simp_all⟩ (by grind) rfl (λx a σ K f g=>dh Tryz.func127 rfl rfl rfl (Kj (k:=k) (q8 a) (g σ f (.refl _ _)))) b λσ' l i=>?_);apply rn;simp;refine .done (h σ' λc x a=>?_);by_cases e:c=gb
 . simp_all
 . exact i c x a e
def ET(f:Fr)(way:acX)(k:Int):Bool:=decide (jD f (jF way k)=0)
def im(f:Fr):Nat->acX->Nat->acD
 |0,way,_=>[way]
 |n+1,way,many=>(List.range (min (many+1) f.aR.toNat)).flatMap λ(k:Nat)=>if ET f (way++[(k:Int)]) k then im f n (way++[(k:Int)]) (max many (k+1))else[]
theorem Kl{f way k}(g:way.length+1<=f.aD.length)(i:f.aD.length<=6):Sa f (jF (way++[k]) k)/\(jF (way++[k]) k).length<20:=by
 have a:(jF (way++[k]) k).length<20:=by
  unfold jF
  grind
 refine⟨⟨?_,by omega⟩,a⟩
 have b:jF (way++[k]) k≠[]:=λe=>by
  have:(way.length:Int)∈jF (way++[k]) k:=aaR.2 ⟨aaA.2 ⟨way.length,aai.2 (by simp),rfl⟩,by simp[sn]⟩
  simp_all
 have j:=tO f (jF (way++[k]) k) none (λx c=>by
  have:=q8 (aaR.1 c).1
  grind) ((List.pairwise_map.2 (List.pairwise_lt_range.imp λh=>by omega)).filter _) (λq d=>by cases d)
 unfold uU
 simp_all
abbrev Ol(f:Fr)(y:AV)(gb:Nat):AV:=.fn (.func 94) [] [.cp (cy f) 0,.cp y 0,.ref gb 0]
theorem Om{f}(E:f.Good){y}(G:y.cells=[y]/\y.flat=true){gb Wn}{I:Nat->ada}(H:∀k σ σ',I k σ->σ.Le σ'->I k σ')(v:∀k σ,I k σ->σ gb=some (.cells [Ol f y gb]))
 (hy:∀k  w   σ   K ,I k σ->(∀σ',I (k+1) σ'->K (.val (bool true)) σ')->bK prog m y [ints Wn[k]] σ K):
 ∀  n   way   many   pre post   σ   KF ,way.length+n=f.aD.length->many<=6->Wn=pre++im f n way many++post->I pre.length σ->(∀σ',I (pre.length+(im f n way many).length) σ'->KF (.val (bool true)) σ')->aA prog m 94 [ints way,int many,.cp (cy f) 0,.cp y 0,.ref gb 0] σ KF:=by
 have h6:=E.px;intro n
 induction n with
 | zero=>
   intro way many pre post σ KF hn hm F J h;have p:way.length=f.aD.length:=by omega
   refine fs Vn Tryz.func94 rfl (by kernel_rfl) ?_
   simp[Tryz.f94];simp[p,aH,G];have w:pre.length<Wn.length:=by rw[F];simp[im]
   have he:Wn[pre.length]=way:=by subst F;simp[im]
   rw[<-he];refine hy _ w _ _ J λσ' q=>?_
   apply rn;simp;exact .done (h σ' (by simpa[im]using q))
 | succ n L=>
   intro way many pre post σ KF hn hm F J h;have p:((way.length:Int)==f.aD.length)=false:=by simp;omega
   have a8:=E.aR;obtain⟨B,hB⟩:∃B:Nat,(if f.aR<(many:Int)+1 then f.aR else(many:Int)+1)=(B:Int):=⟨min (many+1) f.aR.toNat,by omega⟩
   have M:min (many+1) f.aR.toNat=B:=by omega
   obtain⟨d,b⟩:∃d:Nat->acD,∀k,d k=(List.range k).flatMap λ(k:Nat)=>if ET f (way++[(k:Int)]) k then im f n (way++[(k:Int)]) (max many (k+1))else[]:=⟨_,λk=>rfl⟩
   have N:im f (n+1) way many=d B:=by rw[b,<-M];rfl
   have O:∀k:Nat,d (k+1)=d k++if ET f (way++[(k:Int)]) k then im f n (way++[(k:Int)]) (max many (k+1))else[]:=λk=>by rw[b,b,aaz,aby,acs]
   have x:∀k:Nat,k<=B->∃t,d B=d k++t:=λk w=>by
    refine⟨(List.range' k (B-k)).flatMap λ(k:Nat)=>if ET f (way++[(k:Int)]) k then im f n (way++[(k:Int)]) (max many (k+1))else[],?_⟩
    rw[b,b,<-List.flatMap_append,abC,abC];congr 1;rw[show List.range' k (B-k)=List.range' (0+k) (B-k)by grind,List.range'_append_1,Nat.add_sub_cancel' w]
   rw[N]at F h;refine fs Vn Tryz.func94 rfl (by kernel_rfl) ?_
   simp[Tryz.f94];simp[p,aH,hB];refine⟨by omega,?_⟩
   refine aa.loop B (λk s=>∃env σ',s=⟨env,σ',[],.no⟩/\(env 0=ints way/\env 1=int many/\env 2=.cp (cy f) 0/\env 3=.cp y 0/\env 4=.ref gb 0/\env 25=int B/\env 26=int k)/\I (pre.length+(d k).length) σ') ⟨_,_,rfl,by simp,by simpa[b]using J⟩ ?_
   rintro c0 k _ w ⟨env,σ',rfl,⟨P,Q,R,Z,S,r,g⟩,u⟩ ih
   apply rn;simp[r,g];apply aH.intro<;>intro g1<;>simp at g1<;>simp[P,g,g1]
   . have T:=v _ _ u
     refine pQ lay rfl dC rfl rp (es:=way.map int) (sp:=.any) (l:=0) (h:=way.length) (by simp) (λcap a7=>⟨⟨⟨.i64,by simp⟩,by grind⟩,⟨⟨.i64,by simp⟩,aao _⟩,rfl⟩) (by simp) λb2 z=>?_
     have A:Tok σ' σ' b2 1 (way.map int):=by
      rw[abQ,abe (by simp)]at z
      rcases z with rfl|⟨e,rfl⟩
      . exact .exact _ _ _
      . rw[e];exact .nil _ _
     apply rn;simp;refine aN lay rfl rfl rfl dC rfl dC rfl rp (by decide) (by simp only[aaC,aaI,abi];omega) (σ0:=σ') (es:=way.map int) (xs:=[int k]) (by simpa using A) (.inr ⟨_,rfl⟩) λa2 a9 i=>?_
     have U:way.map int++[int k]=(way++[(k:Int)]).map int:=by rw[aax];rfl
     rw[U]at i;refine aa.HO 37 (a':=ints (way++[(k:Int)])) (show AV.W a2 _ from i.W) ?_
     obtain⟨nx,C⟩:∃nx,nx=way++[(k:Int)]:=⟨_,rfl⟩;have c:=Kl (f:=f) (way:=way) (k:=(k:Int)) (by omega) h6
     have ab:nx.length=way.length+1:=by rw[C];simp
     have j:=O k;rw[<-C]at c j ⊢;apply rn;simp[R];refine cf Tryz.func96 rfl (Kk (i.1 _ _ T) (by omega) λD q5=>?_)
     apply pg;simp;refine cf Tryz.func95 rfl (Sj E.fits E.CX c.1 c.2 ?_);apply pg;simp;have V:=H _ _ _ u (af.le_trans i.1 q5);have X:=v _ _ V;cases o:ET f nx k with
     |false=>have a:=o;unfold ET at a;rw[o]at j;rw[a];apply rn;simp[g,aH];refine⟨by omega,ih _ (by omega) ⟨_,D,rfl,by simp[P,Q,R,Z,S,r],by grind⟩⟩
     | true=>
       have a:=o;unfold ET at a;rw[o,aal rfl]at j;rw[a];apply rn;simp[Q,S,X];refine⟨by omega,?_⟩
       have Y:(if(many:Int)<(k:Int)+1 then(k:Int)+1 else(many:Int))=((max many (k+1):Nat):Int):=by omega
       rw[Y];obtain⟨t,ht⟩:=x (k+1) (by omega)
       refine dh Tryz.func94 rfl rfl rfl (L nx (max many (k+1)) (pre++d k) (t++post) D _ (by omega) (by omega) (by grind) (by grind) λσ6 q6=>?_)
       apply rn;simp[g,aH];refine⟨by omega,ih _ (by omega) ⟨_,σ6,rfl,by simp[P,Q,R,Z,S,r],by rw[j];simpa[Nat.add_assoc]using q6⟩⟩
   . have ek:k=B:=by omega
     subst ek;exact .done (h σ' u)
theorem Km{f}(n:f.Good){y}(g:y.cells=[y]/\y.flat=true){I:Nat->ada}(b:∀k σ σ',I k σ->σ.Le σ'->I k σ')
 (o:∀k  j   a   K ,I k a->(∀σ',I (k+1) σ'->(∀d x,σ d=none->a d=some x->σ' d=some x)->K (.val (bool true)) σ')->bK prog m y [ints (im f f.aD.length [] 0)[k]] a K)
 (p:I 0 σ) (h:∀σ',I (im f f.aD.length [] 0).length σ'->KF (.val (.cq [])) σ'):aA prog m 93 [y,.cp (cy f) 0] σ KF:=by
 refine fs [] Tryz.func93 rfl (by kernel_rfl) ?_;simp[Tryz.f93];refine⟨by simp_all,?_⟩;refine bM.intro λgb i=>?_
 simp;refine dh Tryz.func94 rfl rfl rfl (aA.xr (Om n g (gb:=gb) (Wn:=im f f.aD.length [] 0) (I:=λk σ'=>I k σ'/\σ' gb=some (.cells [Ol f y gb])) (λk σ σ' q l=>⟨b _ _ _ q.1 l,l _ _ q.2⟩) (λk σ q=>q.2) (λk j a K q r=>o k j a K q.1 λσ' s t=>r σ' ⟨s,t _ _ i q.2⟩) f.aD.length [] 0 [] [] _ _ (by simp) (by omega) (by simp) ⟨b _ _ _ p ?_,af.aj _ _ _⟩ λσ' q=>?_) (.cons (eU 1) (.refl _)))
 . exact λc x u=>(af.ai _ _ λe=>by simp_all).trans u
 . apply rn
   simp;exact .done (h σ' (by simp_all))
theorem On{f}(h:KF (.val (.fn (.func 93) [] [.cp (cy f) 0])) σ):aA prog m 58 [cy f] σ KF:=by
 refine fs [] Tryz.func58 rfl (by kernel_rfl) ?_;simp[Tryz.f58];exact .done h
def oa(w:fP):Fr:=dg w (aB (kE w 72)) (aB (kC w 72))
def fA(w:fP):acD:=im (oa w) (oa w).aD.length [] 0
def jG(w:fP)(c:Int):Int:=w.fair.aD.length+lZ (aB (kC w 72)) c
def GQ(w:fP)(at_:Int)(x:acX):Bool:=decide (x[at_.toNat]?.getD 0∈x.take w.fair.aD.length)
def mq(w:fP)(c:Int):Int:=if(fA w).any (GQ w (jG w c)) && (fA w).any (λx=>!GQ w (jG w c) x)then 3 else if(fA w).any (GQ w (jG w c))then 1 else 2
theorem EU  f :∀  n   way   many ,∀x∈im f n way many,x.length=way.length+n
 | 0,way,many,x,a=>by
   have:x=way:=by simpa[im]using a
   simp_all
 | n + 1,way,many,x,a=>by
   simp only[im,abn]at a;obtain⟨k,_,h⟩:=a;split at h
   . have:=EU f n _ _ x h
     grind
   . cases h
theorem Oo{P Q:Prop}(f:P->Q)(p:P):Q:=f p
theorem vS(hs:m.solo=true){w}(hw:w.qy)(hO:w.Open){c}(v:c<3)(ax:dB w c<=72->0<=lZ (aB (kC w 72)) c/\jG w c<(oa w).aD.length/\w.fair.aD.length<=(oa w).aD.length)(he:eY w [] [] [(c:Int)]=0)
 (N:if 72<dB w c then KF (.val (.cq [int 0,int 11])) σ else KF (.val (.cq [int (mq w c),int 0])) σ):aA prog m 31 [dA w,int c] σ KF:=by
 have hW:Wl [dA w,nv,nv,.sl 1 [int c] .exact] [dA w,ints [],ints [],ints [(c:Int)]]:=Rf (.refl _) (eU 1) (eU 1) (fS 1 _ _);have h6:=hO.px;have C:=hO.bk 72;refine fs Vl Tryz.func31 rfl (by kernel_rfl) ?_
 simp[Tryz.f31];refine bS Tryz.func41 rfl rfl hW (kz hs hw (by simp) (λq=>absurd he q) λq D fb mb hk=>?_)
 have g:=hk.less (.refl mb D);apply rn;simp;refine cf Tryz.func42 rfl (qA v ?_)
 by_cases E:72<dB w c
 . rw[aal E]at N
   simp only[E,aan];apply rn;simp;refine dT lay rfl I7 rfl (isNil:=false) (.inr ⟨⟨_,_,rfl⟩,rfl⟩) (.inr ⟨rfl,rfl⟩) ?_;apply rn;simp[aH];exact .less g (.done N)
 . rw [aaj E]at N
   simp only[E,Rp];apply rn;simp;refine dT lay rfl I7 rfl (isNil:=true) (.inl ⟨rfl,rfl⟩) (.inr ⟨rfl,rfl⟩) ?_;apply rn;simp[aH];refine cf Tryz.func49 rfl (CK.AN h6.1 h6.2 ?_);refine aa.runN lay [] 3 ?_;simp;refine bM.intro λeb ay=>?_
   simp
   change aa _ _ _ _ _ _ _ _ _
   refine aa.bt 10 (b:=eb) (GG w 72) (af.aj _ _ _) (by simp) rfl ?_
   rw[ew ay];have aC:(AV.lit (.int .u8 (aT (de w 72))))=u8 (kC w 72):=rfl;apply rn;simp[aC];have J:=ax (by omega)
   have b8:=l8 (kC w 72);have b9:(oa w).aD.length<=6:=C.nQ.px;obtain⟨A,hA⟩:∃A:Nat,jG w c=(A:Int):=⟨(jG w c).toNat,by unfold jG at J ⊢;omega⟩
   rw[hA]at J;have U:=hA;unfold jG at U;have aE:(A:Int)<=9223372036854775807/\-9223372036854775808<=(A:Int):=by omega
   have V:(aB (kC w 72)).length<1152921504606846976:=by omega
   apply Oo
   . intro key
     repeat' first
      |refine⟨?_,?_⟩
      |(refine cf Tryz.func50 rfl (mX ?_);apply pg;simp)
      |(refine cf Tryz.func57 rfl (D5 V ?_);apply pg;simp[U,aE])
      |(refine uz.intro λab aL=>?_;simp)
     iterate 3
      refine aa.bt 11 (b:=ab) (int A) (af.aj _ _ _) (by simp) rfl ?_
      rw[ew aL];refine aa.jd (λe s=>(e 2=.cp (dA w) 0/\e 6=uj fb mb w 0/\e 10=.cp (GG w 72) 0/\e 11=.cp (int A) 0)/\s=D) ⟨by simp,rfl⟩ ?_
      exact key
   rintro env D ⟨⟨e2,e6,aZ,bd⟩,rfl⟩
   apply rn;simp;refine bM.intro λi B=>?_
   simp;refine bM.intro λn o=>?_
   obtain⟨n2,n1,o⟩:=af.aP o;simp[e6,aZ,n1,n2,af.ai];have aO:(AV.agg [AV.lit (.int .u8 (aT (dR w 72))),AV.lit (.int .u8 (aT (de w 72)))])=.agg [u8 (kE w 72),u8 (kC w 72)]:=rfl;rw[aO];refine cf Tryz.func59 rfl (CF.EF C.hx C.hy ?_)
   change aa _ _ _ _ _ _ _ _ _
   apply rn;simp;refine cf Tryz.func58 rfl (On ?_);apply rn;simp
   have L:∀X Y Z T,σ.Le ((((D.set i X).set n Y).set i Z).set n T):=λX Y Z T c x hc=>by
    have f:=g c x hc;have F:c≠i:=λe=>by simp_all
    have M:c≠n:=λe=>by simp_all
    rw[af.ai _ _ M,af.ai _ _ F,af.ai _ _ M,af.ai _ _ F];exact f
   refine aa.jd (λe s=>(e 2=.cp (dA w) 0/\e 11=.cp (int A) 0/\e 12=.ref i 0/\e 13=.ref n 0/\e 48=.fn (.func 93) [] [.cp (cy (oa w)) 0])/\σ.Le s/\s i=some (.cells [bool false])/\s n=some (.cells [bool false])) ⟨⟨by simp[e2],by simp[bd],by simp,by simp,rfl⟩,L _ _ _ _,(af.ai _ _ n1).trans (af.aj _ _ _),af.aj _ _ _⟩ ?_
   have f1:∀d x,σ d=some x->d≠i:=λd x h e=>by rw[<-e,g d x h]at B;cases B
   have f2:∀d x,σ d=some x->d≠n:=λd x h e=>by rw[<-e,g d x h]at o;cases o
   clear L e2 e6 aZ bd B o g hk
   rintro env s ⟨⟨e2,bd,bs,W,b0⟩,g,B,o⟩
   refine aa.rangeFunc rfl λb5 r l hr E O=>?_
   change s r=none at hr
   change s l=none at E
   have P:i≠l:=λe=>by simp_all
   have Q:n≠l:=λe=>by simp_all
   have r1:i≠r:=λe=>by simp_all
   have r2:n≠r:=λe=>by simp_all
   obtain⟨p,hp⟩:∃p,p=GQ w A:=⟨_,rfl⟩
   change bK _ _ (env 48) _ _ _
   rw[b0];generalize a7:vh.mk _ _ _ _ _ _ _ _ _=al;refine dh Tryz.func93 rfl rfl rfl (Km C.nQ (y:=.fn (.yield l) [] []) ⟨rfl,rfl⟩ (I:=λk a=>a l=some (.loop al)/\a i=some (.cells [bool (((fA w).take k).any p)])/\a n=some (.cells [bool (((fA w).take k).any λx=>!p x)])/\∀d x,(s.set r (.raw (.deferred (some [])))) d=some x->d≠i->d≠n->a d=some x) (λk a bm q h=>⟨h _ _ q.1,h _ _ q.2.1,h _ _ q.2.2.1,λd x f t v=>h _ _ (q.2.2.2 d x f t v)⟩) ?_ ?_ ?_)
   . rintro j hj a K ⟨b1,b2,b3,b4⟩ a8
     change j<(fA w).length at hj
     change bK _ _ _ [ints (fA w)[j]] _ _
     have bw:=EU (oa w) _ _ _ _ (zD hj);have G:w.fair.aD.length<=(fA w)[j].length/\A<(fA w)[j].length:=by omega
     have R:∀q:acX->Bool,((fA w).take (j+1)).any q=(((fA w).take j).any q||q (fA w)[j]):=λq=>by rw[zG hj,List.any_append];simp
     obtain⟨x,hx⟩:∃x,x=(fA w)[j]:=⟨_,rfl⟩;have S:p x=decide (x[A]?.getD 0∈x.take w.fair.aD.length):=by rw[hp];rfl
     rw[<-hx]at R G ⊢;subst a7;refine bK.uy (hold:=Vl) b5 Tryz.func31 b1 rfl ?_;apply rn;simp[lG];refine aa.beginRound b1 rfl ?_;have bA:w.fair.aD.length<=x.length:=G.1;apply rn;simp[e2,bd,G.2];rw[zR G.2,aba]at S;refine rX lay rfl dC rfl rp (es:=x.map int) (sp:=.any) (l:=0) (h:=w.fair.aD.length) (by simp) (λcap b6=>⟨rfl,⟨⟨.i64,by simp⟩,by grind⟩,rfl⟩) (by simp;omega) ?_
     obtain⟨z,hz⟩:∃z,z=x.take w.fair.aD.length:=⟨_,rfl⟩;have ez:List.take w.fair.aD.length (x.map int)=z.map int:=by rw[hz,List.map_take]
     have bB:z.length<=6:=by grind
     rw[<-hz]at S;simp only[abQ,Nat.sub_zero,ez];apply pg;simp;refine cf Tryz.func55 rfl (kr (by omega) ?_)
     apply pg;simp;rw[<-S];have k1:∀X,(a.set l X) i=some (.cells [bool (((fA w).take j).any p)]):=λX=>(af.ai _ _ P).trans b2
     have k2:∀X,(a.set l X) n=some (.cells [bool (((fA w).take j).any λx=>!p x)]):=λX=>(af.ai _ _ Q).trans b3
     have b7:=bs
     have H:∀X Y Z e,e=i\/e=n->∀d x,d≠l->d≠i->d≠n->a d=some x->(((a.set l X).set e Y).set l Z) d=some x:=λX Y Z e he d x f t v h=>by rw[af.ai _ _ f,af.ai _ _ (by omega),af.ai _ _ f];exact h
     have a9:∀d x,(((s.set r (.raw (.deferred (some [])))).set l x) d=none)->d≠l/\d≠i/\d≠n:=λd x h=>by
      refine⟨λe=>?_,λe=>?_,λe=>?_⟩
      . rw[e,af.aj]at h;cases h
      . rw[e,af.ai _ _ P,af.ai _ _ r1,B]at h;cases h
      . rw[e,af.ai _ _ Q,af.ai _ _ r2,o]at h;cases h
     have ad:∀d x,(s.set r (.raw (.deferred (some [])))) d=some x->d≠l:=λd x h e=>by rw[e,af.ai _ _ (za O),E]at h;cases h
     cases av:p x
     . apply rn
       simp[W,aH,k2];refine⟨rfl,rfl,_,(af.ai _ _ (za Q)).trans (af.aj _ _ _),?_⟩;refine a8 _ ⟨af.aj _ _ _,(af.ai _ _ P).trans ((af.ai _ _ n1).trans ((k1 _).trans (by rw[R p,av,Bool.or_false]))),(af.ai _ _ Q).trans ((af.aj _ _ _).trans (by grind)),λd y f t v=>H _ _ _ _ (.inr rfl) d y (ad d y f) t v (b4 d y f t v)⟩ λd y f t=>?_
       obtain⟨F,M,m3⟩:=a9 d _ f;exact H _ _ _ _ (.inr rfl) d y F M m3 t
     . apply rn
       simp[bs,aH,k1];refine⟨rfl,rfl,_,(af.ai _ _ (za P)).trans (af.aj _ _ _),?_⟩;refine a8 _ ⟨af.aj _ _ _,(af.ai _ _ P).trans ((af.aj _ _ _).trans (by grind)),(af.ai _ _ Q).trans ((af.ai _ _ n2).trans ((k2 _).trans (by rw[R λx=>!p x,av,Bool.not_true,Bool.or_false]))),λd y f t v=>H _ _ _ _ (.inl rfl) d y (ad d y f) t v (b4 d y f t v)⟩ λd y f t=>?_
       obtain⟨F,M,m3⟩:=a9 d _ f;exact H _ _ _ _ (.inl rfl) d y F M m3 t
   . exact⟨af.aj _ _ _,(af.ai _ _ P).trans ((af.ai _ _ r1).trans (by simp_all)),(af.ai _ _ Q).trans ((af.ai _ _ r2).trans (by simp_all)),λd x f t v=>(af.ai _ _ λe=>by rw[e,af.ai _ _ (za O),E]at f;cases f).trans f⟩
   . rintro a ⟨b1,b2,b3,b4⟩
     change a i=some (.cells [bool (((fA w).take (fA w).length).any p)])at b2
     change a n=some (.cells [bool (((fA w).take (fA w).length).any _)])at b3
     rw[aav]at b2 b3;subst a7;refine⟨_,b1,by simp,rfl,?_⟩
     have u:∀d x,d≠l->a d=some x->(a.del l) d=some x:=λd x f t=>by simp only[af.del,f,Rp];exact t
     have c1:=u _ _ P b2;have c2:=u _ _ Q b3;have cr:=u _ _ O (b4 _ _ (af.aj _ _ _) (za r1) (za r2));have hv:mq w c=if(fA w).any p && (fA w).any (λx=>!p x)then 3 else if(fA w).any p then 1 else 2:=by rw[hp,<-hA];rfl
     rw[hv]at N;cases ha:(fA w).any p<;>cases hb:(fA w).any (λx=>!p x)<;>rw[ha]at c1 N<;>rw[hb]at c2 N
     all_goals
      apply rn;simp[bs,W,c1,c2,uh,aH];refine⟨cr,.less (λd x h=>?_) (.done (by simpa using N))⟩
      have q1:=g d x h;have F:d≠r:=λe=>by rw[e,hr]at q1;cases q1
      have M:d≠l:=λe=>by rw[e,E]at q1;cases q1
      rw[af.ai _ _ F];exact u _ _ M (b4 d x ((af.ai _ _ F).trans q1) (f1 d x h) (f2 d x h))
end
section
open Go.cE Go.Conc
theorem GR  way   x k :jF (way++[x]) k=jF way k++if x=k then[(way.length:Int)]else[]:=by
 unfold jF;rw[aas,abh,tX]
 have a:sn (way++[x]) k (way.length:Int)=decide (x=k):=by
  unfold sn
  grind
 rw[a];congr 1
 . refine abw λy b=>?_
   have:=q8 b;unfold sn
   grind
 simp_all
theorem vT  way   k :jF way k=bb way k:=by
 have key:∀n (w:acX),w.length=n->jF w k=bb w k:=λn=>by
  induction n with
  |zero=>intro w h;rw[abN.1 h];rfl
  | succ n b=>
    intro w h;have a:w≠[]:=λe=>by simp_all
    rw[<-List.dropLast_concat_getLast a,GR,cW,b _ (by simp_all)]
 simp_all
theorem EV{f}(h:f.Good):∀  n   way  (many:Nat),way.length+n=f.aD.length->bC way=many->(many:Int)<=f.aR->(∀x∈way,0<=x)->(∀k ,k<many->jD f (bb way k)=0)->∀x,x∈im f n way many↔x∈se n way/\mW f x=true
 | 0,way,many,o,g,i,p,q,x=>by
   rw[im,se,lb];constructor
   . rintro rfl
     refine⟨rfl,?_⟩;unfold mW
     grind
   simp_all
 | n + 1,way,many,o,g,i,p,q,x=>by
   have r:=h.aR
   have step:∀k:Nat,k<many+1->(k:Int)<f.aR->jD f (bb (way++[(k:Int)]) k)=0->(x∈im f n (way++[(k:Int)]) (max many (k+1))↔x∈se n (way++[(k:Int)])/\mW f x=true):=λk l u v=>by
    refine EV h n _ _ (by simp;omega) (by rw[bI,g];omega) (by omega) (λy w=>?_) (λj z=>?_) x
    . grind
    . by_cases e:j=k
      . simp_all
      . rw[cW,aaj (by omega),aaV];grind
   rw[im,se,abn,abn,g];constructor
   . rintro⟨k,b,c⟩
     have b:=aai.1 b;split at c
     . next a=>
       have a:=abB a;rw[vT]at a;have:=(step k (by omega) (by omega) a).1 c;exact⟨⟨k,aai.2 (by omega),this.1⟩,this.2⟩
     . cases c
   . rintro⟨⟨k,b,c⟩,m⟩
     have b:=aai.1 b;obtain⟨t,rfl,A⟩:=tQ n _ x c;have l:=ig (way++[(k:Int)]) t;have d:=m;unfold mW at d;rw[zj,KD]at d;rw[bI,g]at l;have s:(k:Int)<f.aR:=by omega
     have a:jD f (bb (way++[(k:Int)]) k)=0:=Ep h (t:=t) (by simp;omega) (by rw[bI];omega) (by rw[cW,aal rfl];simp) m;refine⟨k,aai.2 (by omega),?_⟩;unfold ET;rw[vT,a,aal (by simp)]
     simp_all
theorem Kn{f}(a:f.Good)  x :x∈im f f.aD.length [] 0↔x∈aI f []:=by
 rw[EV a f.aD.length [] 0 (by simp) rfl (by have:=a.aR;omega) (by simp) (λk b=>by omega),<-l9 a,aaR];have:=u6 f.aD.length 0;rw[show iX 0=[[]]from rfl,abx,acs]at this;rw[this]
section
variable{w:fP}
theorem AY(a:w.Valid)  x :x∈fA w↔x∈aI (mh w 72) []:=by
 have e:oa w=mh w 72:=by unfold oa;rw[a.kE,a.kC]
 unfold fA;rw[e];exact Kn (pf a 72) x
theorem Oq(a:w.Valid){i:Int}(h:0<=i/\i<w.fair.aD.length):0<=(aS w.fair i).hour/\(aS w.fair i).hour<=72:=(nR ((Fr.nQ a.zF.fits a.zF.CX).tH _ (fY h))).1
theorem jV(a:w.Valid){h}(b:72<=h):dR w h=pI w.fair.aD.length:=List.filter_eq_self.2 λi q=>decide_eq_true (by have:=Oq a (q8 q);omega)
theorem Qr{n:Nat}{i:Int}(h:0<=i/\i<n):(pI n).idxOf i=i.toNat:=by
 have a:i∈pI n:=aaA.2 ⟨i.toNat,aai.2 (by omega),by omega⟩;obtain⟨b,c⟩:=nW a
 grind
theorem Ot{n:Nat}{i:Int}(h:0<=i/\i<n):i∈pI n:=aaA.2 ⟨i.toNat,aai.2 (by omega),by omega⟩
theorem su  v :∀  l   i ,v∈l->iA i l v=i+l.idxOf v
 |[],_,h=>by cases h
 | a ::l,i,h=>by
   rw[iA,List.idxOf_cons];by_cases e:a=v
   . simp[e]
   . have:(a==v)=false:=by grind
     rw[aaj e,this,su v l (i+1) ((aaD.1 h).resolve_left λq=>e q.symm)];simp;omega
theorem od(a:w.Valid){c}(b:c<w.aF.length){h}:(c:Int)∈de w h↔dB w c<=72/\dB w c<=h:=by
 unfold de pC;rw[aaR,zj,KD,KD,abl]
 grind
theorem Ou(a:w.Valid){c}(k:c<w.aF.length)(g:dB w c<=72){x}(l:x∈aI (mh w 72) []):GQ w (jG w c) x=true↔∃i ,i<w.fair.aD.length/\GS (mn w 72) i ((c:Int)+w.fair.aD.length) x=true:=by
 have m:(c:Int)∈de w 72:=(od a k).2 ⟨g,g⟩
 have d:x.length=(mh w 72).aD.length:=by have:=yE (pf a 72) l;exact(nT _ _ this).1
 rw[(rk w 72).len,aas,jV a (abq _),mY,aaC]at d
 have e:jG w c=((mn w 72).idxOf ((c:Int)+w.fair.aD.length):Nat):=by
  unfold jG lZ;rw[a.kC,su _ _ _ m,AX (λi q=>(jU q).2) (by omega),jV a (abq _),mY]
  omega
 have j:∀i:Nat,i<w.fair.aD.length->(mn w 72).idxOf (i:Int)=i:=λi h=>by rw[AW (by rw[jV a (abq _)];grind),jV a (abq _),Qr ⟨by omega,by omega⟩];rfl
 unfold GQ;rw[e,KD,abl];unfold GS;obtain⟨p,n⟩:∃p,p=(mn w 72).idxOf ((c:Int)+w.fair.aD.length):=⟨_,rfl⟩;rw[<-n];constructor
 . intro h
   obtain⟨i,f,b⟩:=aaH.1 h;rw[abk]at f;rw[List.getElem_take]at b;refine⟨i,by omega,?_⟩
   unfold il;simp only[j i (by omega),KD,abl]
   grind
 . rintro⟨i,f,b⟩
   unfold il at b;simp only[j i f,KD,abl]at b;rw[<-List.getD_eq_getElem?_getD,<-b,zs,zR (show i<x.length by omega)]
   exact aaH.2 ⟨i,by simp_all,List.getElem_take⟩
theorem Ct(a:w.Valid){h i c}(hi:0<=i/\i<6)(b:c<w.aF.length):(c:Int)∈ua w h i↔(i∈dR w h/\(c:Int)∈de w h)/\∃v∈aI (mh w h) [],GS (mn w h) i ((c:Int)+w.fair.aD.length) v=true:=by
 have:=a.GD.1;unfold ua;rw[aaR,Qq a hi ⟨by omega,by omega⟩]
 grind
theorem EW  w   c :mq w c≠2↔∃x∈fA w,GQ w (jG w c) x=true:=by
 rw[<-List.any_eq_true];unfold mq
 grind
theorem Cu(a:w.Valid){c}(b:c<w.aF.length):(∃i ,i<w.fair.aD.length/\(c:Int)∈ua w 72 i)↔dB w c<=72/\mq w c≠2:=by
 have l:=a.px;rw[EW];constructor
 . rintro⟨i,g,h⟩
   obtain⟨⟨_,j⟩,v,e,k⟩:=(Ct a ⟨by omega,by omega⟩ b).1 h;have d:=((od a b).1 j).1;exact⟨d,v,(AY a v).2 e,(Ou a b d e).2 ⟨i,g,k⟩⟩
 . rintro⟨d,x,f,j⟩
   have f:=(AY a x).1 f;obtain⟨i,g,e⟩:=(Ou a b d f).1 j;exact⟨i,g,(Ct a ⟨by omega,by omega⟩ b).2 ⟨⟨by rw[jV a (abq _)];grind,(od a b).2 ⟨d,d⟩⟩,x,f,e⟩⟩
theorem Qs{h i c}(q:i∈dR w h/\c∈de w h):i∈mn w h/\c+w.fair.aD.length∈mn w h:=⟨List.mem_append_left _ q.1,List.mem_append_right _ (aaA.2 ⟨c,q.2,rfl⟩)⟩
end
end
section
open Go.cE Go.Conc
variable{m:Mo}{σ:af}{KF:acJ}
def kA(a b:acX):acX:=a.filter λx=>decide (x∉b)
def VT(a b:acX):Int:=((kA a b).length:Int)+((kA b a).length:Int)
theorem yR{a b:acX}{i}  h :kA (a.take (i+1)) b=kA (a.take i) b++if a[i]∈b then[]else[a[i]]:=by
 unfold kA;rw[zG h,abt]
 grind
theorem oe  a b :(kA a b).length<=a.length:=aaU _ _
def Ov:acD:=[[],[0],[1],[2],[0,1],[0,2],[1,2],[0,1,2]]
theorem EX{l}(h:l.Sublist [0,1,2]):l∈Ov:=by cases h<;>(rename_i h;cases h<;>(rename_i h;cases h<;>(rename_i h;cases h;decide)))
theorem Qt:∀a∈Ov,∀b∈Ov,VT a b=bP (aT a) (aT b):=by decide +kernel
theorem EY{a b}(c:a.Sublist [0,1,2])(hb:b.Sublist [0,1,2]):VT a b=bP (aT a) (aT b):=Qt _ (EX c) _ (EX hb)
theorem GU{a b}(x:a.length<1000000)(hb:b.length<1000000)(h:KF (.val (int (VT a b))) σ):aA prog m 62 [ints a,ints b] σ KF:=by
 refine fs [] Tryz.func62 rfl (by kernel_rfl) ?_
 simp[Tryz.f62];refine aa.loop a.length (λi s=>∃env,s=⟨env,σ,[],.no⟩/\env 0=ints a/\env 1=ints b/\env 5=int ((kA (a.take i) b).length:Int)/\env 6=int i) ⟨_,rfl,by simp[kA]⟩ ?_
 rintro u i _ v ⟨env,rfl,e,f,d,n⟩ r
 rcases aaP i a.length with g1|g1
 . have t:(i:Int)<a.length:=by omega
   have j:=oe (a.take i) b;rw[abk]at j;have f1:-9223372036854775808<=(i:Int)+1/\(i:Int)+1<=9223372036854775807:=by omega
   have o:-9223372036854775808<=((kA (a.take i) b).length:Int)+1/\((kA (a.take i) b).length:Int)+1<=9223372036854775807:=by omega
   have c:=yR (b:=b) g1;apply rn;simp[e,f,d,n,g1];refine cf Tryz.func21 rfl (qh (by omega) ?_)
   by_cases q:a[i]∈b
   . rw[aal q,aaV]at c
     have k:¬lZ b a[i]<0:=by have:=(kq b a[i]).2 q;omega
     apply rn;simp[e,f,d,n,k,f1.1,f1.2]
     simp_all
   . rw[aaj q]at c
     have k:lZ b a[i]<0:=by
      rcases Int.lt_or_le (lZ b a[i]) 0 with g|g
      . exact g
      . exact absurd ((kq b a[i]).1 g) q
     apply rn;simp[e,f,d,n,k,f1.1,f1.2,o.1,o.2]
     simp_all
 . have l:i=a.length:=by omega
   subst l;rw[aav]at d;have w:=oe a b;apply rn;simp[e,f,d,n];refine aa.loop b.length (λi s=>∃env,s=⟨env,σ,[],.no⟩/\env 0=ints a/\env 1=ints b/\env 5=int (((kA a b).length:Int)+((kA (b.take i) a).length:Int))/\env 7=int i) ⟨_,rfl,by simp[e,f,kA,d]⟩ ?_
   clear e f d n r
   rintro u i _ v ⟨env,rfl,e,f,d,p⟩ r
   rcases aaP i b.length with g1|g1
   . have t:(i:Int)<b.length:=by omega
     have j:=oe (b.take i) a;rw[abk]at j;have f1:-9223372036854775808<=(i:Int)+1/\(i:Int)+1<=9223372036854775807:=by omega
     have o:-9223372036854775808<=((kA a b).length:Int)+((kA (b.take i) a).length:Int)+1/\((kA a b).length:Int)+((kA (b.take i) a).length:Int)+1<=9223372036854775807:=by omega
     have c:=yR (b:=a) g1;apply rn;simp[e,f,d,p,g1];refine cf Tryz.func21 rfl (qh (by omega) ?_)
     by_cases q:b[i]∈a
     . rw[aal q,aaV]at c
       have k:¬lZ a b[i]<0:=by have:=(kq a b[i]).2 q;omega
       apply rn;simp[e,f,d,p,k,f1.1,f1.2]
       simp_all
     . rw[aaj q]at c
       have k:lZ a b[i]<0:=by
        rcases Int.lt_or_le (lZ a b[i]) 0 with g|g
        . exact g
        . exact absurd ((kq a b[i]).1 g) q
       apply rn;simp[e,f,d,p,k,f1.1,f1.2,o.1,o.2];refine r _ g1 ⟨_,rfl,by simp_all,by simp_all,by simp[c,Int.add_assoc]⟩
   . have l:i=b.length:=by omega
     subst l;rw[aav]at d;apply rn;simp[e,f,d,p];exact .done h
theorem yS{P m fid n ro hold K todo D rc}{G:Prop}(I:acH)
 (a:(∀env σ,I env σ->aa P m fid n ro hold todo ⟨env,σ,D,rc⟩ K)->G) (b:∀env σ,I env σ->aa P m fid n ro hold todo ⟨env,σ,D,rc⟩ K):G:=a b
structure Ow  dV  (e:yn):Prop where
 hour:0<=e.hour/\e.hour<=72
 place:0<=e.place/\e.place<dV
 cU:0<=e.cU/\e.cU<=1
 marks:e.marks.Sublist [0,1,2]
 bu:0<=e.bu/\e.bu<=30
 jJ:0<=e.jJ/\e.jJ<=2
theorem Ow.check{dV e}(h:Ow dV e):cL dV e=0:=by
 obtain⟨b,c,d,a,f,g⟩:=h;have a:=(lC a).1;unfold cL bz
 grind
structure GV  cnt  (f:Fr)  ks :Prop where
 nQ:f.Good
 len:(f.aD.length:Int)<=cnt
 dV:f.roads.length<=3
 row:∀r∈f.roads,r.length<=3
 marks:∀e∈f.aD,e.marks.length<=3
 aR:f.aR<=3
 seen:∃  aR   C H   last ,Seen f aR C H ks f.aD last/\(aR:Int)=f.aR
theorem AZ{k}:∀  es   i   x ,i<es.length->(∀e∈es,e.cells.length=k)->x.cells.length=k->(flatten es).take (i*k)++x.cells++(flatten es).drop (i*k+k)=flatten (es.set i x)
 | e::es,0,x,_,a,b=>by
   have c:=a e (by simp);rw[List.set_cons_zero,flatten_cons,flatten_cons]
   grind
 | e::es,i+1,x,g,a,b=>by
   have c:=a e (by simp);have d:=AZ es i x (by simp_all) (λy f=>a y (by simp[f])) b;rw[List.set_cons_succ,flatten_cons,flatten_cons,<-d,abY,Nat.one_mul,aco,List.drop_append];rw[abe (by omega),List.drop_eq_nil_of_le (by omega),c,show i*k+k-k=i*k by omega,show i*k+k+k-k=i*k+k by omega];simp
theorem Ox{f n h}(g:f.aU<=f.eT)(i:0<=n.jJ/\n.jJ<=2)(hb:(n.jJ≠1/\n.bu=h)\/(n.jJ≠0/\∃y,f.aU<=y/\y<=f.eT/\n.bu=h+y)):h∈bW f n:=by
 have a:n.jJ≠1->n.bu∈bW f n:=λc=>by
  unfold bW
  grind
 have b:∀x,x∈je f n->x∈bW f n:=λx j=>by
  unfold bW
  grind
 rcases hb with⟨c,rfl⟩|⟨d,y,k,l,e⟩
 . exact a c
 . refine b _ ?_
   unfold je;rw[aal d];exact aaA.2 ⟨(f.eT-y).toNat,aai.2 (by omega),by omega⟩
theorem ug{σ0 σ c σ' a kk es}(h:Tok σ0 σ a kk es)(d:c.Le σ')(hb:∀b,br a=some b->σ' b=σ b/\c b=none):Tok c σ' a kk es:=by
 refine⟨d,?_⟩;rcases h.2 with q|q|⟨b,e,g,f,i⟩
 . exact .inl q
 . simp_all
 . obtain⟨j,k⟩:=hb b (by rw[f];rfl)
   grind
theorem H8{σ0 σ σ2 a kk es c}(h:cJ σ0 σ a kk es)(i:σ0 c=none)(f:eP a≠some c)(d:∀y,y≠c->σ2 y=σ y):cJ σ0 σ2 a kk es:=h.keep (λy x g=>by rw[d y (λe=>by simp_all)];exact h.1 y x g) λb hb=>⟨d b (λe=>f (e ▸ hb)),(h.lK hb).1⟩
theorem Qu{σ0 σ σ' a c j kk k m es n o}(h:Tok σ0 σ a kk es)(f:cJ σ0 σ c k n)(g:cJ (σ.Bs c) σ' j m o):Tok σ0 σ' a kk es:=
 ug h (af.le_trans f.here.2 g.1) λb hb=>by
  obtain⟨p,e,i⟩:=h.aY hb;have d:eP c≠some b:=λq=>by obtain⟨_,l,r⟩:=f.lK q;simp_all
  exact⟨by rw[i];exact g.1 b _ (by rw[af.qK d];exact i),p⟩
theorem Qv{σ0 σ σ' a c j kk k m es n o}(h:cJ σ0 σ a kk es)(f:Tok σ0 σ c k n)(g:Tok (σ.off c) σ' j m o):cJ σ0 σ' a kk es:=
 h.keep (af.le_trans f.here.2 g.1) λb hb=>by
  obtain⟨p,l,i⟩:=h.lK hb;have d:br c≠some b:=λq=>by obtain⟨_,e,r⟩:=f.aY q;simp_all
  exact⟨by rw[i];exact g.1 b _ (by rw[af.dP d];exact i),p⟩
theorem kZ{env:Env}{t u v}(h:u≠t):(env.upd t v) u=env u:=by simp_all
theorem TB{env:Env}{t v}:(env.upd t v) t=v:=by simp_all
structure H9(V:Nat->AV)(zJ:Env)  σ6   c c13 K   nums   T  (X:Int->ade) (done:acY) (env:Env)  σ :Prop where
 base:∀s,s<97->env s=zJ s
 dK:∀i,i∈done->i≠33->i≠34->i<36->env (97+i)=V i
 pre:33∉done->σ=σ6
 post:33∈done->36∉done->bo c nums K σ/\∀y,y≠c->σ y=σ6 y
 pick:33∈done->∃p ,(0<=p/\p<=3)/\env 130=int p/\(34∈done->env 131=int (T+p))
 all:36∈done->∀j,j<36->j∈done
 dep:34∈done->33∈done
 fin:36∈done->∃p ,(0<=p/\p<=3)/\bo c nums K σ/\σ c13=some (.cells (X (T+p)))/\∀y,y≠c->y≠c13->σ y=σ6 y
section
variable{V:Nat->AV}{zJ env:Env}{σ6:af}{c c13 K:Nat}{nums:acX}{T:Int}{X:Int->ade}{done:acY}
theorem H9.Qw(h:H9 V zJ σ6 c c13 K nums T X done env σ){i}(hi:i<36)(b:i∉done):36∉done:=λa=>b (h.all a i hi)
theorem H9.keep(h:H9 V zJ σ6 c c13 K nums T X done env σ){i}(hi:i<36)(a:i∉done){y}(b:y≠c):σ y=σ6 y:=by
 by_cases q:33∈done
 . exact(h.post q (h.Qw hi a)).2 y b
 . rw[h.pre q]
theorem H9.next(h:H9 V zJ σ6 c c13 K nums T X done env σ){i}(hi:i<36)(m:i∉done)(w:i≠33)(x:i≠34){a}(y:a=V i):H9 V zJ σ6 c c13 K nums T X (i::done) (env.upd (97+i) a) σ:=by
 have b:33∈i::done↔33∈done:=by grind
 have f:34∈i::done↔34∈done:=by grind
 have k:=h.Qw hi m;have d:36∉i::done:=by grind
 refine⟨λs n=>?_,λj o r t u=>?_,λq=>h.pre λl=>q (b.2 l),λq _=>h.post (b.1 q) k,λq=>?_,λq=>absurd q d,λq=>b.2 (h.dep (f.1 q)),λq=>absurd q d⟩
 . rw[kZ (by omega)];exact h.base s n
 . by_cases e:j=i
   . simp_all
   . rw[kZ (by omega)]
     exact h.dK j ((aaD.1 o).resolve_left e) r t u
 . obtain⟨p,v,l,z⟩:=h.pick (b.1 q)
   exact⟨p,v,by rw[kZ (by omega)];exact l,λg=>by rw[kZ (by omega)];simp_all⟩
theorem H9.Sx(h:H9 V zJ σ6 c c13 K nums T X done env σ)(l:33∉done)(b:34∉done){p}(m:0<=p/\p<=3){σ'}(hb:bo c nums K σ')(d:∀y,y≠c->σ' y=σ6 y):H9 V zJ σ6 c c13 K nums T X (33::done) (env.upd 130 (int p)) σ':=by
 have e:=h.Qw (i:=33) (by omega) l;have a:36∉33::done:=by simp[e]
 have f:34∉33::done:=by simp[b]
 refine⟨λs d=>?_,λj n k o r=>?_,λq=>absurd (by simp) q,λ_ _=>⟨hb,d⟩,λq=>⟨p,m,by simp_all,λg=>absurd g f⟩,λq=>absurd q a,λ_=>by simp,λq=>absurd q a⟩
 . rw[kZ (by omega)];exact h.base s d
 . rw[kZ (by omega)]
   exact h.dK j ((aaD.1 n).resolve_left k) k o r
theorem H9.summed(h:H9 V zJ σ6 c c13 K nums T X done env σ)(f:34∉done)(a:33∈done){p}(k:0<=p/\p<=3)(r:env 130=int p):H9 V zJ σ6 c c13 K nums T X (34::done) (env.upd 131 (int (T+p))) σ:=by
 have b:=h.Qw (i:=34) (by omega) f;have d:36∉34::done:=by simp[b]
 refine⟨λs l=>?_,λj m n e o=>?_,λq=>absurd (by simp[a]) q,λ_ _=>h.post a b,λq=>⟨p,k,by simp_all,λg=>by simp_all⟩,λq=>absurd q d,λ_=>by simp[a],λq=>absurd q d⟩
 . rw[kZ (by omega)];exact h.base s l
 . rw[kZ (by omega)]
   exact h.dK j ((aaD.1 m).resolve_left e) n e o
end
theorem Cv{σ0 σ σ' a c f kk j k es l m}(h:Tok σ0 σ a kk es)(n:Tok σ0 σ c j l)(hd:∀b,br a=some b->br c≠some b)(d:Tok (σ.off c) σ' f k m):Tok σ0 σ' a kk es/\∀b,br a=some b->br f≠some b:=by
 have key:∀b,br a=some b->(σ.off c) b=σ b:=λb hb=>af.dP (hd b hb)
 refine⟨ug h (af.le_trans n.here.2 d.1) λb hb=>?_,λb hb q=>?_⟩
 . obtain⟨g,e,i⟩:=h.aY hb
   exact⟨by rw[i];exact d.1 b _ (by simp_all),g⟩
 . obtain⟨g,e,i⟩:=h.aY hb
   obtain⟨o,_,_⟩:=d.aY q
   simp_all
section
variable{c k:Nat}{nums:acX}
theorem Ko{cnt}(hk:k+500<1000000)(hn:nums.length<1152921504606846976)(tf:1<=cnt/\cnt<=6)(hb:bo c nums k σ)(h:∀  f   ks  σ',GV cnt f ks->pH c nums (k+500) σ σ'->KF (.val (.cq [cy f,ints ks])) σ'):aA prog m 32 [.ref c 0,int cnt] σ KF:=by
 obtain⟨n0,s0,_,oF⟩:=id hb;refine fs Xh Tryz.func32 rfl (by kernel_rfl) ?_
 simp[Tryz.f32];refine bM.intro λX h4=>?_
 have n4:c≠X:=λe=>by simp_all
 have hT:∀x,bo c nums k (σ.set X x):=λx=>⟨n0,s0,by assumption,by rw[af.ai _ _ n4];exact oF⟩
 simp;refine cf Tryz.func60 rfl (Gu (cnt:=0) (by omega) hn ⟨by omega,by omega⟩ (hT _) λf0 a0 hU Z eg oG=>?_)
 obtain rfl:=oG.1 (abN.1 (by have:=Z.len;omega))
 have bw:X≠c:=za n4;have oK:hU X=some (.cells fX):=by rw[eg.2 X bw,af.aj]
 apply rn;simp;refine bM.intro λP h6=>?_
 have n6:P≠c:=λe=>by subst e;obtain⟨_,_,_,q⟩:=eg.1;simp_all
 have fi:P≠X:=λe=>by simp_all
 have oL:σ P=none:=by rw[eg.2 P n6,af.ai _ _ fi]at h6;exact h6
 simp
 have gU:∀x,bo c nums (k+20) (hU.set P x):=λx=>by obtain⟨n,z,g1,g2⟩:=eg.1;exact⟨n,z,g1,by rw[af.ai _ _ (za n6)];exact g2⟩
 refine cf Tryz.func13 rfl (eM (by omega) hn ⟨by omega,by omega⟩ ⟨by omega,by omega⟩ (gU _) λaR dy vx fl=>?_)
 have t6:dy P=some (.cells [.lit (.slice none 0 0),rows f0.roads,int f0.aU,int f0.eT,int f0.cP,int f0.aR]):=by rw[fl.2 P n6,af.aj]
 have t4:dy X=some (.cells fX):=by rw[fl.2 X bw,af.ai _ _ (za fi)];exact oK
 apply rn;simp[t6,aK];obtain⟨mo,rfl⟩:∃mo:Nat,aR=(mo:Int):=⟨aR.toNat,by omega⟩
 have vy:1<=mo/\mo<=3:=by omega
 have h1:=Z.dV;obtain⟨A6,ei⟩:∃A6:AV->ade,A6=λa=>[a,rows f0.roads,int f0.aU,int f0.eT,int f0.cP,int mo]:=⟨_,rfl⟩
 have oM:∀a,(A6 a).length=6:=λa=>by grind
 have b3:σ.del c c=none:=by simp[af.del]
 have hX:bo c nums (k+21) (dy.set P (.cells (A6 (.lit (.slice none 0 0))))):=by obtain⟨n,z,g1,g2⟩:=fl.1;exact⟨n,z,by omega,by rw[af.ai _ _ (za n6)];exact g2⟩
 have ad:(σ.del c).Le (dy.set P (.cells (A6 (.lit (.slice none 0 0))))):=λy x hy=>by
  have Y:y≠c:=λe=>by simp_all
  have y0:σ y=some x:=by simpa[af.del,Y]using hy
  have y6:y≠P:=λe=>by simp_all
  have y4:y≠X:=λe=>by simp_all
  rw[af.ai _ _ y6,fl.2 y Y,af.ai _ _ y6,eg.2 y Y,af.ai _ _ y4];exact y0
 have oN:σ.del c P=none:=by simp[af.del,oL]
 have wm:σ.del c X=none:=by simp[af.del,h4]
 have hY:(dy.set P (.cells (A6 (.lit (.slice none 0 0))))) X=some (.cells fX):=by rw[af.ai _ _ (za fi)];exact t4
 refine aa.loop mo (λi s=>∃env σ' la ha L H,s=⟨env,σ',[],.no⟩/\env 0=.ref c 0/\env 1=int cnt/\env 4=.ref X 0/\env 6=.ref P 0/\env 7=la/\env 8=ha/\env 9=int i/\bo c nums (k+21+12*i) σ'/\σ' X=some (.cells fX)/\σ' P=some (.cells (A6 (.lit (.slice none 0 0))))/\cJ (σ.del c) σ' la 6 (L.map bx)/\Tok (σ.del c) σ' ha 1 (H.map int)/\eP la≠some c/\eP la≠some X/\eP la≠some P/\L.length=i/\H.length=i/\(∀e∈L,yw f0.roads.length e)/\(∀x∈H,13<=x/\x<=16))
  ⟨_,dy.set P (.cells (A6 (.lit (.slice none 0 0)))),.lit (.slice none 0 0),.lit (.slice none 0 0),[],[],by rw[ei],by simp,by simp,by simp,by simp,by simp,by simp,by simp,hX,hY,af.aj _ _ _,⟨ad,.inl ⟨rfl,.inl rfl⟩⟩,⟨ad,.inl ⟨rfl,rfl⟩⟩,by simp[eP],by simp[eP],by simp[eP],rfl,rfl,by simp⟩ ?_
 clear hX ad hY
 rintro c0 i _ hi ⟨env,σ',la,ha,L,H,rfl,D,e1,G,E,F,J,e9,fp,q4,q6,ej,ep,et,ft,fu,hZ,oS,h2,ic⟩ ih
 have b4:=ej.cells;have d:=ep.cells;have a7:σ' P=some (.cells [.lit (.slice none 0 0),rows f0.roads,int f0.aU,int f0.eT,int f0.cP,int mo]):=by rw[q6,ei]
 rcases aaP i mo with g1|g1
 . have ie:(i:Int)<mo:=by omega
   have f1:-9223372036854775808<=(i:Int)+1/\(i:Int)+1<=9223372036854775807:=by omega
   apply rn;simp[D,e1,G,E,F,J,e9,a7,b4.1,b4.2,d.1,d.2,g1];refine cf Tryz.func61 rfl (oX (by omega) hn ⟨by omega,by omega⟩ fp λe a8 he U=>?_)
   have ix:∃l,σ' c=some (.cells l):=by obtain⟨_,_,_,q⟩:=fp;exact⟨_,q⟩
   have ev:=H8 ej b3 et U.2;have k0:=qV ep b3 ix U.2;have ey:a8 X=some (.cells fX):=by rw[U.2 X bw];exact q4
   have ez:a8 P=some (.cells (A6 (.lit (.slice none 0 0)))):=by rw[U.2 P n6];exact q6
   apply rn;simp[D,e1,G,E,F,J,e9,a7,b4.1,b4.2,d.1,d.2];refine sL lay rfl rfl rfl nk rfl nk rfl zw (by decide) (by simp;omega) (σ0:=a8.Bs la) (es:=L.map bx) (xs:=[bx e]) (by simpa using ev.here.1) (.inl (.inr ⟨_,by simp;rfl⟩)) (by simp) λfv aL al=>?_
   have k4:∀y l,eP la≠some y->a8 y=some l->aL y=some l:=λy l hy hl=>al.1 _ _ (by rw[af.qK hy];exact hl)
   have k2:=Qu k0 ev al;have h3:=al.base ev.here.2
   have k3:bo c nums (k+21+12*i+11) aL:=by obtain⟨n,z,g1,g2⟩:=U.1;exact⟨n,z,g1,k4 _ _ et g2⟩
   have gp:eP fv≠some c:=λq=>by obtain⟨g,_⟩:=al.lK q;obtain⟨_,_,_,g2⟩:=U.1;rw[af.qK et,g2]at g;cases g
   have k5:eP fv≠some X:=λq=>by obtain⟨g,_⟩:=al.lK q;rw[af.qK ft,ey]at g;cases g
   have k7:eP fv≠some P:=λq=>by obtain⟨g,_⟩:=al.lK q;rw[af.qK fu,ez]at g;cases g
   have aE:=al.cells;apply rn;simp[D,J,aE.1,aE.2];refine cf Tryz.func13 rfl (eM (by omega) hn ⟨by omega,by omega⟩ ⟨by omega,by omega⟩ k3 λx ea p0 aO=>?_)
   have k8:∃l,aL c=some (.cells l):=by obtain⟨_,_,_,q⟩:=k3;exact⟨_,q⟩
   have c9:=qV k2 b3 k8 aO.2;have kt:=H8 h3 b3 gp aO.2;apply rn;simp[D,J,aE.1,aE.2,d.1,d.2];refine aN lay rfl rfl rfl dC rfl dC rfl rp (by decide) (by simp;omega) (σ0:=ea.off ha) (es:=H.map int) (xs:=[int x]) (by simpa using c9.here.1) (.inr ⟨_,by simp;rfl⟩) λp5 σ6 ca=>?_
   have kv:=Qv kt c9 ca;have h5:=ca.base c9.here.2;have gw:=ca.cells;have k6:∀y l,ea y=some (.cells l)->σ6 y=some (.cells l):=λy l hy=>ca.1 _ _ (by rw[af.dP (λe=>by obtain⟨_,_,q⟩:=c9.aY e;rw[hy]at q;cases q)];exact hy)
   have p6:σ6 X=some (.cells fX):=k6 _ _ (by rw[aO.2 X bw];exact k4 _ _ ft ey)
   have p7:σ6 P=some (.cells (A6 (.lit (.slice none 0 0)))):=k6 _ _ (by rw[aO.2 P n6];exact k4 _ _ fu ez)
   have b1:bo c nums (k+21+12*(i+1)) σ6:=by obtain⟨n,z,g1,g2⟩:=aO.1;exact⟨n,z,by omega,k6 _ _ g2⟩
   apply rn;simp[D,e9,f1.1,f1.2,aE.1,aE.2,gw.1,gw.2];refine ih _ g1 ⟨_,σ6,fv,p5,L++[e],H++[x],rfl,by simp[D],by simp[e1],by simp[G],by simp[E],by simp,by simp,by simp,b1,p6,p7,by simpa using kv,by simpa using h5,gp,k5,k7,by simp[hZ],by simp[oS],λy hy=>?_,λy hy=>?_⟩
   . rcases aaq.1 hy with hy|hy
     . exact h2 y hy
     . simp at hy;subst hy;exact he
   . rcases aaq.1 hy with hy|hy
     . exact ic y hy
     . simp at hy;omega
 . have p8:i=mo:=by omega
   subst p8;clear ih
   obtain⟨Q,cap,rest,rfl,r1,r2,r3,r4,r5⟩:∃Q cap rest,la=.gS Q 0 i cap/\σ.del c Q=none/\i<=cap/\(∀e∈L.map bx,e.cells.length=6)/\σ' Q=some (.cells (flatten (L.map bx)++rest))/\rest.length=(cap-i)*6:=by
    have eA:(L.map bx).length=i:=by simp_all
    rcases ej.2 with⟨e,_⟩|⟨b,cap,rest,g1,g2,g3,g4,g5,g6⟩
    . grind
    . rw[eA]at g1 g3 g6
      grind
   have ax:Q≠c:=λe=>et (by rw[e];rfl)
   have pa:Q≠X:=λe=>ft (by rw[e];rfl)
   have h7:Q≠P:=λe=>fu (by rw[e];rfl)
   have tm:σ Q=none:=by simpa[af.del,ax]using r1
   refine aa.HO 8 (a':=ints H) (by rw[J];simpa using ep.W) ?_
   have b5:=ep.1;clear ej ep b4 d et ft fu J;apply rn;simp[D,e1,G,E,F,e9,a7];refine cf Tryz.func13 rfl (eM (by omega) hn ⟨by omega,by omega⟩ ⟨by omega,by omega⟩ fp λq a8 hq U=>?_)
   have ey:a8 X=some (.cells fX):=by rw[U.2 X bw];exact q4
   have ez:a8 P=some (.cells (A6 (.lit (.slice none 0 0)))):=by rw[U.2 P n6];exact q6
   have kx:a8 Q=some (.cells (flatten (L.map bx)++rest)):=by rw[U.2 Q ax];exact r4
   have ad:(σ.del c).Le a8:=λy x hy=>by
    have Y:y≠c:=λe=>by simp_all
    rw[U.2 y Y];exact b5 y x hy
   obtain⟨qn,rfl⟩:∃qn:Nat,q=(qn:Int):=⟨q.toNat,by omega⟩
   have wK:1<=qn/\qn<=6:=by omega
   have gx:bo c nums (k+60) a8:=U.1.mono (by omega)
   obtain⟨C,hC⟩:∃C,C=L.map (·.cU):=⟨_,rfl⟩;obtain⟨f1,eB⟩:∃f1:Fr,f1=⟨[],f0.roads,f0.aU,f0.eT,f0.cP,(i:Int)⟩:=⟨_,rfl⟩
   have cb:Seen f1 i C H [] [] L:=⟨rfl,by simp,by simp,λj hj=>by simp at hj,λj hj=>by simp at hj,λa b _ hb=>by simp at hb,λj hj=>by simp at hj,λj hj=>by simp_all,hZ⟩
   have gA:∀e∈L,Ow f0.roads.length e:=λe he=>by have:=h2 e he;exact⟨⟨this.hour.1,by have:=this.hour;omega⟩,this.place,this.cU,this.marks,⟨by have:=this.bu;omega,by have:=this.bu;omega⟩,this.jJ⟩
   apply rn;simp[D,e1,G,E,F,e9,a7];have ky:=D;have l1:=G;have l2:=E;have l3:=F;clear D e1 G E F e9 a7 h2 r3
   refine aa.loop qn (λj s=>∃env σ' a hh M es ks,s=⟨env,σ',[],.no⟩/\env 0=.ref c 0/\env 4=.ref X 0/\env 6=.ref P 0/\env 7=.gS Q 0 i cap/\env 8=ints H/\env 10=hh/\env 11=int ((qn:Int)-j)/\bo c nums (k+60+16*j) σ'/\σ' X=some (.cells fX)/\σ' P=some (.cells (A6 a))/\σ' Q=some (.cells (flatten (M.map bx)++rest))/\Tok (σ.del c) σ' a 6 (es.map bx)/\Tok (σ.del c) σ' hh 1 (ks.map int)/\(∀b,br a=some b->br hh≠some b)/\Seen f1 i C H ks es M/\(∀e∈M,Ow f0.roads.length e)/\(∀e∈es,e.marks.length<=3)/\es.length<=j)
    ⟨_,a8,.lit (.slice none 0 0),.lit (.slice none 0 0),L,[],[],rfl,by simp[ky],by simp[l1],by simp[l2],by simp[l3],by simp,by simp,by simp,gx,ey,ez,kx,⟨ad,.inl ⟨rfl,rfl⟩⟩,⟨ad,.inl ⟨rfl,rfl⟩⟩,λb hb=>by simp[br]at hb,cb,gA,by simp⟩ ?_
   clear ky l1 l2 l3 gx ey ez kx ad b5 cb gA q4 q6 fp U r4
   rintro c1 j _ hj ⟨env,σ',a,hh,M,es,ks,rfl,D,G,E,F,J,aZ,bd,h8,q4,q6,ql,b8,eb,gB,O,fw,h9,wL⟩ ih
   have o:=b8.cells;have d:=eb.cells;have a7:σ' P=some (.cells [a,rows f0.roads,int f0.aU,int f0.eT,int f0.cP,int i]):=by rw[q6,ei]
   rcases aaP j qn with g1|g1
   . have ie : (0 : Int)<(qn:Int)-j:=by omega
     have FF:(j:Int)<qn:=by omega
     have f2:-9223372036854775808<=(i:Int)-1/\(i:Int)-1<=9223372036854775807:=by omega
     have f3:-9223372036854775808<=(qn:Int)-j-1/\(qn:Int)-j-1<=9223372036854775807:=by omega
     apply rn;simp[D,G,E,F,J,aZ,bd,o.1,o.2,d.1,d.2,ie,FF,g1,a7,f2.1,f2.2];refine cf Tryz.func16 rfl (eu (by omega) hn ⟨by omega,by omega⟩ h8 λkk a8 wN U=>?_)
     obtain⟨R,rfl⟩:∃R:Nat,kk=(R:Int):=⟨kk.toNat,by omega⟩
     have bA:R<i:=by omega
     have w6:a8 P=some (.cells [a,rows f0.roads,int f0.aU,int f0.eT,int f0.cP,int i]):=by rw[U.2 P n6];exact a7
     apply rn;simp[D,G,E,F,J,aZ,bd,o.1,o.2,d.1,d.2,w6];refine cf Tryz.func61 rfl (oX (by omega) hn ⟨by omega,by omega⟩ U.1 λe aL he ho=>?_)
     have bB:∀y,y≠c->aL y=σ' y:=λy hy=>(ho.2 y hy).trans (U.2 y hy)
     have w6:aL P=some (.cells [a,rows f0.roads,int f0.aU,int f0.eT,int f0.cP,int i]):=by rw[bB P n6];exact a7
     have wl:aL Q=some (.cells (flatten (M.map bx)++rest)):=by rw[bB Q ax];exact ql
     have w4:aL X=some (.cells fX):=by rw[bB X bw];exact q4
     apply rn;simp[D,G,E,F,J,aZ,bd,o.1,o.2,d.1,d.2,w6];refine bM.intro λc13 l4=>?_
     have m0:c13≠c:=λe=>by subst e;obtain⟨_,_,_,q⟩:=ho.1;simp_all
     have m4:c13≠X:=λe=>by subst e;simp_all
     have m6:c13≠P:=λe=>by subst e;simp_all
     have ml:c13≠Q:=λe=>by subst e;simp_all
     have fx:R<M.length:=by rw[O.So];exact bA
     obtain⟨el,eA⟩:∃el,el=M[R]:=⟨_,rfl⟩;have b9:=fw el (by rw[eA];exact zD fx)
     obtain⟨CL,eK⟩:∃CL,CL=flatten (M.map bx)++rest:=⟨_,rfl⟩;rw[<-eK]at wl;have hv:∀x∈M.map bx,x.cells.length=6:=λx hx=>by obtain⟨y,_,rfl⟩:=aaA.1 hx;rfl
     have gC:(flatten (M.map bx)).length=M.length*6:=by rw[bL (kk:=6) hv,aaC]
     have cg:∀t,t<6->CL[R*6+t]?=(bx el).cells[t]?:=λt ht=>by
      rw[eK,aaQ (by omega)]
      exact mF (kk:=6) hv (by rw[aaK,zR fx,eA];rfl) t ht
     have l5:=cg 0 (by omega)
     have l6:=cg 1 (by omega)
     have l7:=cg 2 (by omega)
     have lj:=cg 3 (by omega)
     simp at l5 l6 l7 lj;simp[D,G,E,F,J,aZ,bd,o.1,o.2,d.1,d.2,wl,af.ai,za ml,bA,l7,aK]
     have pb:∀x,bo c nums (k+60+16*j+12) (aL.set c13 x):=λx=>by obtain⟨n,z,g1,g2⟩:=ho.1;exact⟨n,z,by omega,by rw[af.ai _ _ (za m0)];exact g2⟩
     refine cf Tryz.func16 rfl (eu (by omega) hn ⟨by omega,by omega⟩ (pb _) λsh ea p0 aO=>?_)
     have hz:ea c13=some (.cells [int e.hour,int e.place,int el.cU,ints e.marks,int e.bu,int e.jJ]):=by rw[aO.2 c13 m0,af.aj]
     have ec:R<H.length:=by omega
     obtain⟨h0,ed⟩:∃h0,h0=H[R]:=⟨_,rfl⟩;have tr:13<=h0/\h0<=16:=ic _ (by rw[ed];exact zD ec)
     have hA:(H.map int)[R]?=some (int h0):=by rw[aaK,zR ec,ed];rfl
     have lp:sh=0\/sh=1\/sh=2:=by omega
     have gD:0<=sh/\sh<=2:=by omega
     have lA:f0.aU<=f0.eT:=Z.to.1;have wS:0<=f0.aU/\f0.eT<=2:=⟨Z.fr.1,Z.to.2⟩
     have hB:∀x,bo c nums (k+60+16*j+13) (ea.set c13 x):=λx=>by obtain⟨n,z,g1,g2⟩:=aO.1;exact⟨n,z,by omega,by rw[af.ai _ _ (za m0)];exact g2⟩
     have hD:∀y,y≠c->y≠c13->ea y=σ' y:=λy Y y2=>by rw[aO.2 y Y,af.ai _ _ y2,bB y Y]
     have ts:ks.length<1000000:=by rw[O.len];omega
     apply yS (I:=λenv σ6=>∃b,env 0=.ref c 0/\env 4=.ref X 0/\env 6=.ref P 0/\env 7=.gS Q 0 i cap/\env 8=ints H/\env 10=hh/\env 11=int ((qn:Int)-j)/\env 12=int R/\env 13=.ref c13 0/\env 80=bool b/\bo c nums (k+60+16*j+14) σ6/\σ6 c13=some (.cells [int e.hour,int e.place,int el.cU,ints e.marks,int h0,int sh])/\(∀y,y≠c->y≠c13->σ6 y=σ' y)/\(b=true->sh≠0)/\(b=false->sh≠1))
     . intro T
       rcases lp with rfl|rfl|rfl
       . refine aa.runN lay [] 28 ?_
         simp[D,G,E,F,J,aZ,bd,o.1,o.2,d.1,d.2,hz,hA,ec,aK,<-ed]
         refine T _ _ ⟨false,by simp[D,G,E,F,J,aZ,bd,o.1,o.2,d.1,d.2],by simp[D,G,E,F,J,aZ,bd,o.1,o.2,d.1,d.2],by simp[D,G,E,F,J,aZ,bd,o.1,o.2,d.1,d.2],by simp[D,G,E,F,J,aZ,bd,o.1,o.2,d.1,d.2],by simp[D,G,E,F,J,aZ,bd,o.1,o.2,d.1,d.2],by simp[D,G,E,F,J,aZ,bd,o.1,o.2,d.1,d.2],by simp[D,G,E,F,J,aZ,bd,o.1,o.2,d.1,d.2],by simp[D,G,E,F,J,aZ,bd,o.1,o.2,d.1,d.2],by simp[D,G,E,F,J,aZ,bd,o.1,o.2,d.1,d.2],by simp[D,G,E,F,J,aZ,bd,o.1,o.2,d.1,d.2],(hB _).mono (by omega),af.aj _ _ _,λy Y y2=>by rw[af.ai _ _ y2];exact hD y Y y2,by simp⟩
       . refine aa.runN lay [] 28 ?_
         simp[D,G,E,F,J,aZ,bd,o.1,o.2,d.1,d.2,hz,hA,ec,aK,<-ed]
         refine T _ _ ⟨true,by simp[D,G,E,F,J,aZ,bd,o.1,o.2,d.1,d.2],by simp[D,G,E,F,J,aZ,bd,o.1,o.2,d.1,d.2],by simp[D,G,E,F,J,aZ,bd,o.1,o.2,d.1,d.2],by simp[D,G,E,F,J,aZ,bd,o.1,o.2,d.1,d.2],by simp[D,G,E,F,J,aZ,bd,o.1,o.2,d.1,d.2],by simp[D,G,E,F,J,aZ,bd,o.1,o.2,d.1,d.2],by simp[D,G,E,F,J,aZ,bd,o.1,o.2,d.1,d.2],by simp[D,G,E,F,J,aZ,bd,o.1,o.2,d.1,d.2],by simp[D,G,E,F,J,aZ,bd,o.1,o.2,d.1,d.2],by simp[D,G,E,F,J,aZ,bd,o.1,o.2,d.1,d.2],(hB _).mono (by omega),af.aj _ _ _,λy Y y2=>by rw[af.ai _ _ y2];exact hD y Y y2,by simp⟩
       . refine aa.runN lay [] 28 ?_
         simp[D,G,E,F,J,aZ,bd,o.1,o.2,d.1,d.2,hz,hA,ec,aK,<-ed];refine cf Tryz.func33 rfl (wI (by omega) hn ⟨by omega,by omega⟩ (hB _) λb σ6 hE=>?_)
         refine aa.runN lay [] 3 ?_;simp[D,G,E,F,J,aZ,bd,o.1,o.2,d.1,d.2]
         refine T _ _ ⟨b,by simp[D,G,E,F,J,aZ,bd,o.1,o.2,d.1,d.2],by simp[D,G,E,F,J,aZ,bd,o.1,o.2,d.1,d.2],by simp[D,G,E,F,J,aZ,bd,o.1,o.2,d.1,d.2],by simp[D,G,E,F,J,aZ,bd,o.1,o.2,d.1,d.2],by simp[D,G,E,F,J,aZ,bd,o.1,o.2,d.1,d.2],by simp[D,G,E,F,J,aZ,bd,o.1,o.2,d.1,d.2],by simp[D,G,E,F,J,aZ,bd,o.1,o.2,d.1,d.2],by simp[D,G,E,F,J,aZ,bd,o.1,o.2,d.1,d.2],by simp[D,G,E,F,J,aZ,bd,o.1,o.2,d.1,d.2],by simp[D,G,E,F,J,aZ,bd,o.1,o.2,d.1,d.2],hE.1,by rw[hE.2 c13 m0,af.aj],λy Y y2=>by rw[hE.2 y Y,af.ai _ _ y2];exact hD y Y y2,by simp⟩
     clear D G E F J aZ bd
     rintro env σ6 ⟨b,D,G,E,F,J,aZ,bd,bs,K,fO,b1,a9,ay,lB,m1⟩
     apply yS (I:=λenv σ6=>∃ht,env 0=.ref c 0/\env 4=.ref X 0/\env 6=.ref P 0/\env 7=.gS Q 0 i cap/\env 8=ints H/\env 10=hh/\env 11=int ((qn:Int)-j)/\env 12=int R/\env 13=.ref c13 0/\env 95=int (lZ ks R)/\bo c nums (k+60+16*j+15) σ6/\σ6 c13=some (.cells [int e.hour,int e.place,int el.cU,ints e.marks,int ht,int sh])/\(∀y,y≠c->y≠c13->σ6 y=σ' y)/\((sh≠1/\ht=h0)\/(sh≠0/\∃y,f0.aU<=y/\y<=f0.eT/\ht=h0+y)))
     . intro T
       have hW:Wl [hh,int R] [ints ks,int R]:=.cons (by simpa using eb.W) (.cons (.refl _) .nil)
       cases b
       . apply rn
         simp[D,G,E,F,J,aZ,bd,bs,K,fO];refine bS Tryz.func21 rfl rfl hW (qh (by omega) ?_)
         refine T _ _ ⟨h0,?_,?_,?_,?_,?_,?_,?_,?_,?_,?_,b1.mono (by omega),a9,ay,.inl ⟨m1 rfl,rfl⟩⟩<;>simp[D,G,E,F,J,aZ,bd,bs,K,fO]
       . have v6 : σ6 P=some (.cells [a,rows f0.roads,int f0.aU,int f0.eT,int f0.cP,int i]):=by rw[ay P n6 (za m6)];exact a7
         have x0:=Z.fr;have ej:=Z.to;apply rn;simp[D,G,E,F,J,aZ,bd,bs,K,fO,a9,v6,aK]
         repeat' (first
                   |apply And.intro
                   | (refine cf Tryz.func13 rfl (eM (by omega) hn ⟨by omega,by omega⟩ ⟨by omega,by omega⟩ b1 λy S hy hF=>?_)
                      have pd:S c13=some (.cells [int e.hour,int e.place,int el.cU,ints e.marks,int h0,int sh]):=by rw[hF.2 c13 m0];exact a9
                      have f4:-9223372036854775808<=h0+y/\h0+y<=9223372036854775807:=by omega
                      apply pg;simp[D,G,E,F,J,aZ,bd,bs,K,pd,f4.1,f4.2,aK];apply rn;simp[D,G,E,F,J,aZ,bd,bs,K];refine bS Tryz.func21 rfl rfl hW (qh (by omega) ?_)
                      refine T _ _ ⟨h0+y,by simp[D],by simp[G],by simp[E],by simp[F],by simp[J],by simp[aZ],by simp[bd],by simp[bs],by simp[K],by simp,?_,af.aj _ _ _,λz Y y2=>by rw[af.ai _ _ y2,hF.2 z Y];exact ay z Y y2,.inr ⟨lB rfl,y,by omega,by omega,rfl⟩⟩
                      obtain⟨n,z,g1,g2⟩:=hF.1;exact⟨n,z,by omega,by rw[af.ai _ _ (za m0)];exact g2⟩))
     clear b1 a9 ay D G E F J aZ bd bs K fO lB m1
     rintro env σ6 ⟨ht,D,G,E,F,J,aZ,bd,bs,K,ab,b1,a9,ay,m2⟩
     have hG:0<=ht/\ht<=30:=by rcases m2 with⟨_,q⟩|⟨_,y,q1,q2,q3⟩<;>omega
     have aC:=Fr.nQ (Z.fits (by omega)) (Z.check (by omega))
     have x3:∀x∈M,x.marks.length<=3:=λx hx=>(lC (fw x hx).marks).2
     have pk:=(lC he.marks).2;have v3:=(lC b9.marks).2;have m3:=he.place;have md:=b9.place;have v5:=b9.hour;have mf:=Z.cP;apply yS (I:=λenv S=>∃hr,env 0=.ref c 0/\env 4=.ref X 0/\env 6=.ref P 0/\env 7=.gS Q 0 i cap/\env 8=ints H/\env 10=hh/\env 11=int ((qn:Int)-j)/\env 12=int R/\env 13=.ref c13 0/\bo c nums (k+60+16*j+16) S/\S c13=some (.cells [int hr,int e.place,int el.cU,ints e.marks,int ht,int sh])/\(∀y,y≠c->y≠c13->S y=σ' y)/\(0<=hr/\hr<=1000)/\((R:Int)∈ks->NS f1 el {e with hour:=hr}))
     . intro T
       by_cases hH:(R:Int)∈ks
       . have q2:lZ ks R>=0:=(kq ks R).2 hH
         obtain⟨rw,cm⟩:∃rw,rw=f0.roads[el.place.toNat]'(by omega):=⟨_,rfl⟩
         have gG:=aC.row (i:=el.place.toNat) (by omega)
         rw[<-cm]at gG;have cr:e.place.toNat<rw.length:=by omega
         obtain⟨r,gd⟩:∃r,r=rw[e.place.toNat]:=⟨_,rfl⟩;have x4:=gG.2 r (by rw[gd];exact zD cr)
         have b2:el.place.toNat<f0.roads.length:=by omega
         have ps:(f0.roads.map ints)[el.place.toNat]?=some (ints rw):=by rw[aaK,zR b2,cm];rfl
         have hr:(rw.map int)[e.place.toNat]?=some (int r):=by rw[aaK,zR cr,gd];rfl
         have mg:=cr;obtain⟨ch,hK⟩:∃ch,ch=VT el.marks e.marks:=⟨_,rfl⟩
         have eN:0<=ch/\ch<=6:=by have q1:=oe el.marks e.marks;have q2:=oe e.marks el.marks;rw[hK];unfold VT;omega
         have x5:0<=f0.cP*ch/\f0.cP*ch<=24:=⟨Int.mul_nonneg (by omega) eN.1,Int.le_trans (Int.mul_le_mul mf.2 eN.2 eN.1 (by omega)) (by omega)⟩
         have mi:-9223372036854775808<=el.hour+r/\el.hour+r<=9223372036854775807:=by omega
         have mj:-9223372036854775808<=f0.cP*ch/\f0.cP*ch<=9223372036854775807:=by omega
         have mm:-9223372036854775808<=el.hour+r+f0.cP*ch/\el.hour+r+f0.cP*ch<=9223372036854775807:=by omega
         have hL:σ6 Q=some (.cells CL):=by rw[ay Q ax (za ml),<-bB Q ax];exact wl
         have gH:σ6 P=some (.cells [a,rows f0.roads,int f0.aU,int f0.eT,int f0.cP,int i]):=by rw[ay P n6 (za m6)];exact a7
         refine aa.runN lay [] 3 ?_;simp[D,G,E,F,J,aZ,bd,bs,K,ab,q2]
         obtain⟨V,hV⟩:∃V:Nat->AV,V=λj=>([.gS Q 0 i cap,int R,.ref Q (R*6),.ref Q (R*6),int el.hour,.ref P 1,rows f0.roads,.gS Q 0 i cap,int R,.ref Q (R*6),.ref Q (R*6+1),int el.place,.cp (ints rw) 0,ints rw,.ref c13 1,int e.place,.cp (int r) 0,int r,int (el.hour+r),.ref P 4,int f0.cP,.gS Q 0 i cap,int R,.ref Q (R*6),.ref Q (R*6+3),ints el.marks,.ref c13 3,ints e.marks,int ch,int (f0.cP*ch),int (el.hour+r+f0.cP*ch),.ref c 0,.sl 1 (([0,0,1,3]:acX).map int) .exact,int 0,int 0,.ref c13 0]:ade).getD j (int 0):=⟨_,rfl⟩
         have w:∀j,V j=_:=λj=>congrFun hV j
         refine aa.PV (H9 V (env.upd 96 (bool true)) σ6 c c13 (k+60+16*j+16) nums (el.hour+r+f0.cP*ch) (λz=>[int z,int e.place,int el.cU,ints e.marks,int ht,int sh])) lay.mixed (by rfl) ⟨λ_ _=>rfl,by simp,λ_=>rfl,by simp,by simp,by simp,by simp,by simp⟩ ?_ ?_
         . intro done i u S N B mw A
           have mw:i<37:=mw
           rcases(show i=0\/i=1\/i=2\/i=3\/i=4\/i=5\/i=6\/i=7\/i=8\/i=9\/i=10\/i=11\/i=12\/i=13\/i=14\/i=15\/i=16\/i=17\/i=18\/i=19\/i=20\/i=21\/i=22\/i=23\/i=24\/i=25\/i=26\/i=27\/i=28\/i=29\/i=30\/i=31\/i=32\/i=33\/i=34\/i=35\/i=36 by omega)with rfl|rfl|rfl|rfl|rfl|rfl|rfl|rfl|rfl|rfl|rfl|rfl|rfl|rfl|rfl|rfl|rfl|rfl|rfl|rfl|rfl|rfl|rfl|rfl|rfl|rfl|rfl|rfl|rfl|rfl|rfl|rfl|rfl|rfl|rfl|rfl|rfl
           . have b7:u 7=.gS Q 0 i cap:=(A.base 7 (by omega)).trans F
             refine bn lay (mu:=[]) ?_;simp[b7];exact A.next (i:=0) (by omega) B (by omega) (by omega) ((w 0).symm)
           . have eR:u 12=int R:=(A.base 12 (by omega)).trans bs
             refine bn lay (mu:=[]) ?_;simp[eR];exact A.next (i:=1) (by omega) B (by omega) (by omega) ((w 1).symm)
           . have d0:u 97=.gS Q 0 i cap:=(A.dK 0 (N 0 (by rfl)) (by omega) (by omega) (by omega)).trans (w 0)
             have d1:u 98=int R:=(A.dK 1 (N 1 (by rfl)) (by omega) (by omega) (by omega)).trans (w 1)
             refine bn lay (mu:=[]) ?_;simp[d0,d1,bA];exact A.next (i:=2) (by omega) B (by omega) (by omega) ((w 2).symm)
           . have d2:u 99=.ref Q (R*6):=(A.dK 2 (N 2 (by rfl)) (by omega) (by omega) (by omega)).trans (w 2)
             refine bn lay (mu:=[]) ?_;simp[d2];exact A.next (i:=3) (by omega) B (by omega) (by omega) ((w 3).symm)
           . have d3:u 100=.ref Q (R*6):=(A.dK 3 (N 3 (by rfl)) (by omega) (by omega) (by omega)).trans (w 3)
             have kl:=A.keep (by omega) B (y:=Q) ax;rw[hL]at kl
             refine bn lay (mu:=[]) ?_;simp[kl,l5,d3];exact A.next (i:=4) (by omega) B (by omega) (by omega) ((w 4).symm)
           . have b6:u 6=.ref P 0:=(A.base 6 (by omega)).trans E
             refine bn lay (mu:=[]) ?_;simp[b6];exact A.next (i:=5) (by omega) B (by omega) (by omega) ((w 5).symm)
           . have d5:u 102=.ref P 1:=(A.dK 5 (N 5 (by rfl)) (by omega) (by omega) (by omega)).trans (w 5)
             have k6:=A.keep (by omega) B (y:=P) n6;rw[gH]at k6
             refine bn lay (mu:=[]) ?_;simp[k6,d5];exact A.next (i:=6) (by omega) B (by omega) (by omega) ((w 6).symm)
           . have b7:u 7=.gS Q 0 i cap:=(A.base 7 (by omega)).trans F
             refine bn lay (mu:=[]) ?_;simp[b7];exact A.next (i:=7) (by omega) B (by omega) (by omega) ((w 7).symm)
           . have eR:u 12=int R:=(A.base 12 (by omega)).trans bs
             refine bn lay (mu:=[]) ?_;simp[eR];exact A.next (i:=8) (by omega) B (by omega) (by omega) ((w 8).symm)
           . have d7:u 104=.gS Q 0 i cap:=(A.dK 7 (N 7 (by rfl)) (by omega) (by omega) (by omega)).trans (w 7)
             have d8:u 105=int R:=(A.dK 8 (N 8 (by rfl)) (by omega) (by omega) (by omega)).trans (w 8)
             refine bn lay (mu:=[]) ?_;simp[d7,d8,bA];exact A.next (i:=9) (by omega) B (by omega) (by omega) ((w 9).symm)
           . have d9:u 106=.ref Q (R*6):=(A.dK 9 (N 9 (by rfl)) (by omega) (by omega) (by omega)).trans (w 9)
             refine bn lay (mu:=[]) ?_;simp[d9];exact A.next (i:=10) (by omega) B (by omega) (by omega) ((w 10).symm)
           . have pA:u 107=.ref Q (R*6+1):=(A.dK 10 (N 10 (by rfl)) (by omega) (by omega) (by omega)).trans (w 10)
             have kl:=A.keep (by omega) B (y:=Q) ax;rw[hL]at kl
             refine bn lay (mu:=[]) ?_;simp[kl,l6,pA];exact A.next (i:=11) (by omega) B (by omega) (by omega) ((w 11).symm)
           . have d6:u 103=rows f0.roads:=(A.dK 6 (N 6 (by rfl)) (by omega) (by omega) (by omega)).trans (w 6)
             have pB:u 108=int el.place:=(A.dK 11 (N 11 (by rfl)) (by omega) (by omega) (by omega)).trans (w 11)
             refine bn lay (mu:=[]) ?_;simp[d6,pB,ps,b2];refine⟨md.1,?_⟩;rw[<-cm];exact A.next (i:=12) (by omega) B (by omega) (by omega) ((w 12).symm)
           . have pO:u 109=.cp (ints rw) 0:=(A.dK 12 (N 12 (by rfl)) (by omega) (by omega) (by omega)).trans (w 12)
             refine bn lay (mu:=[]) ?_;simp[pO];exact A.next (i:=13) (by omega) B (by omega) (by omega) ((w 13).symm)
           . have eW:u 13=.ref c13 0:=(A.base 13 (by omega)).trans K
             refine bn lay (mu:=[]) ?_;simp[eW];exact A.next (i:=14) (by omega) B (by omega) (by omega) ((w 14).symm)
           . have q0:u 111=.ref c13 1:=(A.dK 14 (N 14 (by rfl)) (by omega) (by omega) (by omega)).trans (w 14)
             have c5:=A.keep (by omega) B (y:=c13) m0;rw[a9]at c5
             refine bn lay (mu:=[]) ?_;simp[c5,q0];exact A.next (i:=15) (by omega) B (by omega) (by omega) ((w 15).symm)
           . have q5:u 110=ints rw:=(A.dK 13 (N 13 (by rfl)) (by omega) (by omega) (by omega)).trans (w 13)
             have q7:u 112=int e.place:=(A.dK 15 (N 15 (by rfl)) (by omega) (by omega) (by omega)).trans (w 15)
             refine bn lay (mu:=[]) ?_;simp[q5,q7,hr,mg];refine⟨m3.1,?_⟩;rw[<-gd];exact A.next (i:=16) (by omega) B (by omega) (by omega) ((w 16).symm)
           . have q9:u 113=.cp (int r) 0:=(A.dK 16 (N 16 (by rfl)) (by omega) (by omega) (by omega)).trans (w 16)
             refine bn lay (mu:=[]) ?_;simp[q9];exact A.next (i:=17) (by omega) B (by omega) (by omega) ((w 17).symm)
           . have d4:u 101=int el.hour:=(A.dK 4 (N 4 (by rfl)) (by omega) (by omega) (by omega)).trans (w 4)
             have qb:u 114=int r:=(A.dK 17 (N 17 (by rfl)) (by omega) (by omega) (by omega)).trans (w 17)
             refine bn lay (mu:=[]) ?_;simp[d4,qb,mi.1,mi.2];exact A.next (i:=18) (by omega) B (by omega) (by omega) ((w 18).symm)
           . have b6:u 6=.ref P 0:=(A.base 6 (by omega)).trans E
             refine bn lay (mu:=[]) ?_;simp[b6];exact A.next (i:=19) (by omega) B (by omega) (by omega) ((w 19).symm)
           . have qi:u 116=.ref P 4:=(A.dK 19 (N 19 (by rfl)) (by omega) (by omega) (by omega)).trans (w 19)
             have k6:=A.keep (by omega) B (y:=P) n6;rw[gH]at k6
             refine bn lay (mu:=[]) ?_;simp[k6,qi];exact A.next (i:=20) (by omega) B (by omega) (by omega) ((w 20).symm)
           . have b7:u 7=.gS Q 0 i cap:=(A.base 7 (by omega)).trans F
             refine bn lay (mu:=[]) ?_;simp[b7];exact A.next (i:=21) (by omega) B (by omega) (by omega) ((w 21).symm)
           . have eR:u 12=int R:=(A.base 12 (by omega)).trans bs
             refine bn lay (mu:=[]) ?_;simp[eR];exact A.next (i:=22) (by omega) B (by omega) (by omega) ((w 22).symm)
           . have qj:u 118=.gS Q 0 i cap:=(A.dK 21 (N 21 (by rfl)) (by omega) (by omega) (by omega)).trans (w 21)
             have qq:u 119=int R:=(A.dK 22 (N 22 (by rfl)) (by omega) (by omega) (by omega)).trans (w 22)
             refine bn lay (mu:=[]) ?_;simp[qj,qq,bA];exact A.next (i:=23) (by omega) B (by omega) (by omega) ((w 23).symm)
           . have qs:u 120=.ref Q (R*6):=(A.dK 23 (N 23 (by rfl)) (by omega) (by omega) (by omega)).trans (w 23)
             refine bn lay (mu:=[]) ?_;simp[qs];exact A.next (i:=24) (by omega) B (by omega) (by omega) ((w 24).symm)
           . have r9:u 121=.ref Q (R*6+3):=(A.dK 24 (N 24 (by rfl)) (by omega) (by omega) (by omega)).trans (w 24)
             have kl:=A.keep (by omega) B (y:=Q) ax;rw[hL]at kl
             refine bn lay (mu:=[]) ?_;simp[kl,lj,r9];exact A.next (i:=25) (by omega) B (by omega) (by omega) ((w 25).symm)
           . have eW:u 13=.ref c13 0:=(A.base 13 (by omega)).trans K
             refine bn lay (mu:=[]) ?_;simp[eW];exact A.next (i:=26) (by omega) B (by omega) (by omega) ((w 26).symm)
           . have ra:u 123=.ref c13 3:=(A.dK 26 (N 26 (by rfl)) (by omega) (by omega) (by omega)).trans (w 26)
             have c5:=A.keep (by omega) B (y:=c13) m0;rw[a9]at c5
             refine bn lay (mu:=[]) ?_;simp[c5,ra];exact A.next (i:=27) (by omega) B (by omega) (by omega) ((w 27).symm)
           . have rb:u 122=ints el.marks:=(A.dK 25 (N 25 (by rfl)) (by omega) (by omega) (by omega)).trans (w 25)
             have rh:u 124=ints e.marks:=(A.dK 27 (N 27 (by rfl)) (by omega) (by omega) (by omega)).trans (w 27)
             refine bn lay (mu:=[]) ?_;simp[rb,rh];refine cf Tryz.func62 rfl (GU (by omega) (by omega) ?_)
             apply pg;simp;exact A.next (i:=28) (by omega) B (by omega) (by omega) (by rw[w,hK];rfl)
           . have ri:u 117=int f0.cP:=(A.dK 20 (N 20 (by rfl)) (by omega) (by omega) (by omega)).trans (w 20)
             have rj:u 125=int ch:=(A.dK 28 (N 28 (by rfl)) (by omega) (by omega) (by omega)).trans (w 28)
             refine bn lay (mu:=[]) ?_;simp[ri,rj,mj.1,mj.2];exact A.next (i:=29) (by omega) B (by omega) (by omega) ((w 29).symm)
           . have rm:u 115=int (el.hour+r):=(A.dK 18 (N 18 (by rfl)) (by omega) (by omega) (by omega)).trans (w 18)
             have rr:u 126=int (f0.cP*ch):=(A.dK 29 (N 29 (by rfl)) (by omega) (by omega) (by omega)).trans (w 29)
             refine bn lay (mu:=[]) ?_;simp[rm,rr,mm.1,mm.2];exact A.next (i:=30) (by omega) B (by omega) (by omega) ((w 30).symm)
           . have b0:u 0=.ref c 0:=(A.base 0 (by omega)).trans D
             refine bn lay (mu:=[]) ?_;simp[b0];exact A.next (i:=31) (by omega) B (by omega) (by omega) ((w 31).symm)
           . refine bn lay (mu:=[]) ?_
             simp;exact A.next (i:=32) (by omega) B (by omega) (by omega) ((w 32).symm)
           . have rF:u 128=.ref c 0:=(A.dK 31 (N 31 (by rfl)) (by omega) (by omega) (by omega)).trans (w 31)
             have rG:u 129=.sl 1 (([0,0,1,3]:acX).map int) .exact:=(A.dK 32 (N 32 (by rfl)) (by omega) (by omega) (by omega)).trans (w 32)
             refine bn lay (mu:=[]) ?_;simp[rF,rG];have rM:=A.pre B;subst rM;have rT:34∉done:=λq=>B (A.dep q)
             refine cf Tryz.func63 rfl (mT (l:=[0,0,1,3]) (by omega) hn ⟨by decide,by decide⟩ b1 λp x6 hp mx=>?_)
             apply pg;simp;exact A.Sx B rT (p:=p) (by simp at hp;omega) (mx.1.mono (by omega)) mx.2
           . have s3:u 127=int (el.hour+r+f0.cP*ch):=(A.dK 30 (N 30 (by rfl)) (by omega) (by omega) (by omega)).trans (w 30)
             have c7:=N 33 (by rfl)
             obtain⟨p,hp,Fw,_⟩:=A.pick c7;have mA:-9223372036854775808<=el.hour+r+f0.cP*ch+p/\el.hour+r+f0.cP*ch+p<=9223372036854775807:=by omega
             refine bn lay (mu:=[]) ?_;simp[s3,Fw,mA.1,mA.2];exact A.summed B c7 hp Fw
           . have eW:u 13=.ref c13 0:=(A.base 13 (by omega)).trans K
             refine bn lay (mu:=[]) ?_;simp[eW];exact A.next (i:=35) (by omega) B (by omega) (by omega) ((w 35).symm)
           . have s4:u 132=.ref c13 0:=(A.dK 35 (N 35 (by rfl)) (by omega) (by omega) (by omega)).trans (w 35)
             have c7:=N 33 (by rfl)
             have s5:=N 34 (by rfl)
             obtain⟨p,hp,Fw,Fx⟩:=A.pick c7;have Fx:=Fx s5;obtain⟨s6,h1⟩:=A.post c7 B;have c5:=(h1 c13 m0).trans a9;refine bn lay (mu:=[]) ?_;simp[s4,Fx,c5,aK]
             refine⟨A.base,λj hj g3 g4 g5=>A.dK j ((aaD.1 hj).resolve_left (by omega)) g3 g4 g5,λq=>absurd (abo _ c7) q,λ_ q=>absurd (ach ..) q,λ_=>⟨p,hp,Fw,λ_=>Fx⟩,λ_ j hj=>abo _ (N j ((by decide:∀j:Fin 36,jr _ j.val 36=true) ⟨j,hj⟩)),λ_=>abo _ c7,λ_=>⟨p,hp,?_,af.aj _ _ _,λy Y y2=>by rw[af.ai _ _ y2];exact h1 y Y⟩⟩
             obtain⟨n,z,g1,g2⟩:=s6;exact⟨n,z,g1,by rw[af.ai _ _ (za m0)];exact g2⟩
         . intro done v9 S mB A
           obtain⟨p,hp,g1,g2,g3⟩:=A.fin (mB 36 (by decide))
           have hb:=λ(t:Nat) (ht:t<96)=>(A.base t (by omega)).trans (kZ (env:=env) (v:=bool true) (show t≠96 by omega))
           refine T _ _ ⟨el.hour+r+f0.cP*ch+p,(hb 0 (by omega)).trans D,(hb 4 (by omega)).trans G,(hb 6 (by omega)).trans E,(hb 7 (by omega)).trans F,(hb 8 (by omega)).trans J,(hb 10 (by omega)).trans aZ,(hb 11 (by omega)).trans bd,(hb 12 (by omega)).trans bs,(hb 13 (by omega)).trans K,g1,g2,λy Y y2=>(g3 y Y y2).trans (ay y Y y2),by omega,λ_=>?_⟩
           have s7:rd f1.roads el.place.toNat e.place.toNat=r:=by rw[eB];unfold rd;rw[zs,zs,zR b2,aba,<-cm,zR cr,<-gd];rfl
           have s9:f1.cP=f0.cP:=by rw[eB]
           unfold NS;rw[s7,s9,<-EY b9.marks he.marks,<-hK];show r+f0.cP*ch<=el.hour+r+f0.cP*ch+p-el.hour;omega
       . have q2:¬lZ ks R>=0:=λq=>hH ((kq ks R).1 q)
         refine aa.runN lay [] 4 ?_;simp[D,G,E,F,J,aZ,bd,bs,K,ab,q2];refine T _ _ ⟨e.hour,by simp[D,G,E,F,J,aZ,bd,bs,K,ab],by simp[D,G,E,F,J,aZ,bd,bs,K,ab],by simp[D,G,E,F,J,aZ,bd,bs,K,ab],by simp[D,G,E,F,J,aZ,bd,bs,K,ab],by simp[D,G,E,F,J,aZ,bd,bs,K,ab],by simp[D,G,E,F,J,aZ,bd,bs,K,ab],by simp[D,G,E,F,J,aZ,bd,bs,K,ab],by simp[D,G,E,F,J,aZ,bd,bs,K,ab],by simp[D,G,E,F,J,aZ,bd,bs,K,ab],b1.mono (by omega),a9,ay,by have:=he.hour;omega,λq=>absurd q hH⟩
     clear b1 a9 ay D G E F J aZ bd bs K ab
     rintro env S ⟨hr,D,G,E,F,J,aZ,bd,bs,K,n2,a9,ee,sg,n3⟩
     have si:σ.del c c13=none:=by
      cases hx:σ.del c c13 with
      |none=>rfl
      |some x=>have:=b8.1 _ _ hx;rw[<-bB c13 m0,l4]at this;cases this
     have b5:(σ.del c).Le S:=λy x hy=>by
      have Y:y≠c:=λe=>by subst e;rw[b3]at hy;cases hy
      have y2:y≠c13:=λe=>by subst e;rw[si]at hy;cases hy
      rw[ee y Y y2];exact b8.1 y x hy
     have hO:∀b x,σ' b=some x->(∀l,x≠.cells l)->S b=σ' b:=λb x hb hx=>by
      refine ee b (λe=>?_) λe=>?_
      . rw[e]at hb;obtain⟨_,_,_,q⟩:=h8;rw[q]at hb;cases hb;exact hx _ rfl
      . rw[e,<-bB c13 m0,l4]at hb;cases hb
     have cv:Tok (σ.del c) S a 6 (es.map bx):=ug b8 b5 λb hb=>by obtain⟨g1,l,g2⟩:=b8.aY hb;exact⟨hO b _ g2 (by simp),g1⟩
     have dj:Tok (σ.del c) S hh 1 (ks.map int):=ug eb b5 λb hb=>by obtain⟨g1,l,g2⟩:=eb.aY hb;exact⟨hO b _ g2 (by simp),g1⟩
     have t4:S X=some (.cells fX):=by rw[ee X bw (za m4)];exact q4
     have t6:S P=some (.cells (A6 a)):=by rw[ee P n6 (za m6)];exact q6
     have tl:S Q=some (.cells (flatten (M.map bx)++rest)):=by rw[ee Q ax (za ml)];exact ql
     clear b8 eb q4 q6 ql a7 ee hO
     rcases Int.lt_or_le 72 hr with n5|n5
     . apply rn
       simp[D,G,E,F,J,aZ,bd,bs,K,a9,n5,f3.1,f3.2];refine ih _ g1 ⟨_,S,a,hh,M,es,ks,rfl,by simp[D,G,E,F,J,aZ,bd,bs,K],by simp[D,G,E,F,J,aZ,bd,bs,K],by simp[D,G,E,F,J,aZ,bd,bs,K],by simp[D,G,E,F,J,aZ,bd,bs,K],by simp[D,G,E,F,J,aZ,bd,bs,K],by simp[D,G,E,F,J,aZ,bd,bs,K],by simp;omega,n2.mono (by omega),t4,t6,tl,cv,dj,gB,O,fw,h9,by omega⟩
     . have n7:¬hr>72:=by omega
       obtain⟨n1,n9⟩:∃n1:yn,n1=⟨hr,e.place,el.cU,e.marks,ht,sh⟩:=⟨_,rfl⟩;obtain⟨bm,gI⟩:∃bm,bm=flatten ((M.set R n1).map bx)++rest:=⟨_,rfl⟩;have nc:R*6+6<=CL.length:=by rw[eK,aas,gC];omega
       have nh:aK CL (R*6) [int hr,int e.place,int el.cU,ints e.marks,int ht,int sh]=bm:=by
        have:=AZ (k:=6) (M.map bx) R (bx n1) (by rw[aaC];exact fx) hv rfl
        rw[gI,ace,<-this,eK];unfold aK;rw[List.take_append_of_le_length (by omega),List.drop_append_of_le_length (by rw[gC];simp;omega),n9]
        simp
       rw[<-eK]at tl;have b4:=cv.cells;have vc:=dj.cells;have nq:S P=some (.cells [a,rows f0.roads,int f0.aU,int f0.eT,int f0.cP,int i]):=by rw[t6,ei]
       have x7:=za ml;apply rn;simp[D,G,E,F,J,aZ,bd,bs,K,a9,n7,tl,bA,nh,nc,af.ai,h7.symm,ml,nq,b4.1,b4.2];subst n9;have sj:br a≠some Q:=λe=>by obtain⟨_,_,q⟩:=cv.aY e;rw[tl]at q;cases q
       have nt:br hh≠some Q:=λe=>by obtain⟨_,_,q⟩:=dj.aY e;rw[tl]at q;cases q
       have dm:Tok (σ.del c) (S.set Q (.cells bm)) a 6 (es.map bx):=cv.beside r1 sj;have ob:Tok (σ.del c) (S.set Q (.cells bm)) hh 1 (ks.map int):=dj.beside r1 nt;have vj:(es.map bx).length<=6:=by rw[aaC];omega
       have vk:(ks.map int).length<=6:=by rw[aaC,O.len];omega
       refine aN lay rfl rfl rfl nk rfl nk rfl zw (by decide) (by simp;omega) (σ0:=(S.set Q (.cells bm)).off a) (es:=es.map bx) (xs:=[bx ⟨hr,e.place,el.cU,e.marks,ht,sh⟩]) (by simpa using dm.here.1) (.inr ⟨_,by simp;rfl⟩) λa' hP hR=>?_
       obtain⟨dr,so⟩:=Cv ob dm (λb hb q=>gB b q hb) hR
       have gP:=hR.base dm.here.2;have k9:∀y l,(S.set Q (.cells bm)) y=some (.cells l)->hP y=some (.cells l):=λy l hy=>hR.1 _ _ (by rw[af.dP (λe=>by obtain⟨_,_,q⟩:=dm.aY e;rw[hy]at q;cases q)];exact hy)
       have dx:=gP.cells;apply rn;simp[D,G,E,F,J,aZ,bd,bs,K,dx.1,dx.2];refine aN lay rfl rfl rfl dC rfl dC rfl rp (by decide) (by simp;omega) (σ0:=hP.off hh) (es:=ks.map int) (xs:=[int R]) (by simpa using dr.here.1) (.inr ⟨_,by simp;rfl⟩) λsr av eX=>?_
       obtain⟨hS,oc⟩:=Cv gP dr (λb hb q=>so b q hb) eX
       have fc:=eX.base dr.here.2;have fg:=fc.cells;have gf:∀y l,hP y=some (.cells l)->av y=some (.cells l):=λy l hy=>eX.1 _ _ (by rw[af.dP (λe=>by obtain⟨_,_,q⟩:=dr.aY e;rw[hy]at q;cases q)];exact hy)
       have z6:av P=some (.cells [a,rows f0.roads,int f0.aU,int f0.eT,int f0.cP,int i]):=gf _ _ (k9 _ _ (by rw[af.ai _ _ (za h7)];exact nq))
       have z4:av X=some (.cells fX):=gf _ _ (k9 _ _ (by rw[af.ai _ _ (za pa)];exact t4))
       have zl:av Q=some (.cells bm):=gf _ _ (k9 _ _ (af.aj _ _ _));apply rn;simp[D,G,E,F,J,aZ,bd,bs,K,z6,aK,dx.1,dx.2,fg.1,fg.2,f3.1,f3.2];have oj:Ow f0.roads.length ⟨hr,e.place,el.cU,e.marks,ht,sh⟩:=⟨⟨sg.1,by omega⟩,he.place,b9.cU,he.marks,hG,gD⟩
       have ow:M.getD R sf=el:=by rw[zs,zR fx,eA];rfl
       have ox:H.getD R 0=h0:=by rw[zs,zR ec,ed];rfl
       have gj:=O.push (k:=R) (n:=⟨hr,e.place,el.cU,e.marks,ht,sh⟩) bA (by rw[eB];exact oj.check) (by rw[ow]) (by rw[ox,eB];refine Ox lA gD ?_;exact m2) (λq=>by rw[ow];exact n3 q)
       have gR:∀{x:AV}{kk:Nat}{l:ade},Tok (σ.del c) av x kk l->Tok (σ.del c) (av.set P (.cells (A6 a'))) x kk l:=λ{x kk l} hx=>hx.beside oN (λe=>by obtain⟨_,_,q⟩:=hx.aY e;rw[z6]at q;cases q)
       refine ih _ g1 ⟨_,av.set P (.cells (A6 a')),a',sr,M.set R ⟨hr,e.place,el.cU,e.marks,ht,sh⟩,es++[⟨hr,e.place,el.cU,e.marks,ht,sh⟩],ks++[(R:Int)],by rw[ei],by simp[D,G,E,F,J,aZ,bd,bs,K],by simp[D,G,E,F,J,aZ,bd,bs,K],by simp[D,G,E,F,J,aZ,bd,bs,K],by simp[D,G,E,F,J,aZ,bd,bs,K],by simp[D,G,E,F,J,aZ,bd,bs,K],by simp[D,G,E,F,J,aZ,bd,bs,K],by simp;omega,?_,?_,af.aj _ _ _,?_,by have:=gR hS;simpa using this,by have:=gR fc;simpa using this,λb hb=>oc b hb,gj,λx hx=>?_,λx hx=>?_,by simp;omega⟩
       . obtain⟨n,z,g1,g2⟩:=n2
         exact⟨n,z,by omega,by rw[af.ai _ _ (za n6)];exact gf _ _ (k9 _ _ (by rw[af.ai _ _ (za ax)];exact g2))⟩
       . rw[af.ai _ _ (za fi)];exact z4
       . rw[af.ai _ _ h7,zl,gI]
       . rcases abF hx with hx|rfl
         . exact fw x hx
         . exact oj
       . rcases aaq.1 hx with hx|hx
         . exact h9 x hx
         . simp at hx;subst hx;exact pk
   . have sy:j=qn:=by omega
     subst sy;have tc:¬(j:Int)<j:=by omega
     apply rn;simp[D,G,E,F,J,aZ,bd,o.1,o.2,d.1,d.2,tc,q4,a7,aK];obtain⟨nb,zb,hT,gU⟩:=h8;obtain⟨f,hf⟩:∃f:Fr,f=⟨es,f0.roads,f0.aU,f0.eT,f0.cP,(i:Int)⟩:=⟨_,rfl⟩;have aC:=Fr.nQ (Z.fits (by omega)) (Z.check (by omega))
     have td:GV cnt f ks:=by
      have gl:=Z.dV;subst eB;subst hf;refine⟨⟨⟨by grind,aC.fits.roads,aC.fits.row,λe he=>by grind⟩,aC.fr,aC.to,aC.le,aC.cP,by grind,by grind,λe he=>O.tH e he,aC.Kv⟩,by grind,by grind,λr hr=>?_,h9,by grind,i,C,H,M,⟨O.len,O.Sn,O.tH,O.cU,O.Ty,O.fit,O.Xr,O.HX,O.So⟩,rfl⟩
      obtain⟨t,ht,rfl⟩:=aaH.1 hr;exact aar (Nat.le_of_eq (aC.row (i:=t) ht).1) gl.2
     refine .pD (a':=.cq [cy f,ints ks]) (NJ rfl λi x y x1 x2=>?_) (.less (σ':=σ.set c (.cells [ints nums,int nb,.lit (.int .u64 zb)])) (λy x hy=>?_) (.done (h f ks _ td ⟨⟨nb,zb,by omega,af.aj _ _ _⟩,λy hy=>af.ai _ _ hy⟩)))
     . match i with
       | 0=>
         simp at x1 x2;subst x1;subst x2;refine qm (by grind) λi x y x1 x2=>?_
         subst hf
         match i with
         |0=>simp at x1 x2;subst x1;subst x2;exact b8.W
         |1=>simp at x1 x2;subst x1;subst x2;exact .refl _
         |2=>simp at x1 x2;subst x1;subst x2;exact .refl _
         |3=>simp at x1 x2;subst x1;subst x2;exact .refl _
         |4=>simp at x1 x2;subst x1;subst x2;exact .refl _
         |5=>simp at x1 x2;subst x1;subst x2;exact .refl _
         |i+6=>simp at x1
       |1=>simp at x1 x2;subst x1;subst x2;exact eb.W
       |i+2=>simp at x1
     . by_cases Y:y=c
       . subst Y
         rw[af.aj]at hy;rw[af.ai _ _ n4,gU];exact hy
       . rw[af.ai _ _ Y]at hy
         have y4:y≠X:=λe=>by grind
         rw[af.ai _ _ y4];exact b8.1 y x (by simpa[af.del,Y]using hy)
end
end
section
open Go.cE Go.Conc
theorem sx{α g}:∀{l:List α},(∀x∈l,g x=0)->fQ g l=0
 |[],_=>rfl
 |a::l,h=>by rw[fQ,aal (h a (by simp))];exact sx λx q=>h x (by simp[q])
structure EZ  cnt  (w:fP) (own lost:acX):Prop where
 valid:w.Valid
 CX:ns w=0
 len:(w.fair.aD.length:Int)+w.aF.length<=cnt
 aak:w.ways.length<=5
 lo:own.length=w.fair.aD.length
 ll:lost.length=w.aF.length
 Zv:∀e∈w.fair.aD,e.marks.length<=3
 Zw:∀c∈w.aF,c.lost.marks.length<=3
 rows:w.fair.roads.length<=3/\∀r∈w.fair.roads,r.length<=3
 VU:∃v∈aI (jf w) [],∀i j ,i<w.fair.aD.length+w.aF.length->j<w.fair.aD.length+w.aF.length->il i j v=decide ((own++lost).getD i 0=(own++lost).getD j 0)
theorem Qx{cnt f p}(t:GV cnt f p)(N:cnt<=6){w}{E C:acX}(z:∀i∈E++C,0<=i/\i<f.aD.length)(hn:(E.length:Int)+C.length<=cnt)
 (W:w.fair.aD=E.map (aS f)) (O:w.aF.map (·.lost)=C.map (aS f)) (y:w.fair.roads=f.roads) (m:w.fair.aU=f.aU) (n:w.fair.eT=f.eT) (hd:w.fair.cP=f.cP) (X:f.aR<=w.fair.aR/\w.fair.aR<=6)
 (P:1<=w.bf/\w.bf<=4) (Y:∀x∈w.ways,qx w.bf x=0) (F:w.ways.length<=5) (Z:w.aF.length<=3) (G:∀c∈w.aF,(0<=c.town/\c.town<w.bf)/\(0<=c.hour/\c.hour<=72)/\c.lost.hour<=c.hour):
 EZ cnt w (E.map λi=>p.getD i.toNat 0) (C.map λi=>p.getD i.toNat 0):=by
 have d:=t.nQ;have l1:w.fair.aD.length=E.length:=by simp_all
 have l2:w.aF.length=C.length:=by rw[<-List.length_map (f:=(·.lost)),O,aaC]
 have A:∀e∈w.fair.aD,e∈f.aD:=λe q=>by rw[W]at q;obtain⟨i,I,rfl⟩:=aaA.1 q;exact fY (z i (by simp[I]))
 have J:∀c∈w.aF,c.lost∈f.aD:=λc q=>by have:c.lost∈w.aF.map (·.lost):=aaA.2 ⟨c,q,rfl⟩;rw[O]at this;obtain⟨i,I,e⟩:=aaA.1 this;rw[<-e];exact fY (z i (by simp[I]))
 have gen:∀es:List yn,(∀e∈es,e∈f.aD)->es.length<=6->({w.fair with aD:=es}:Fr).Good:=λes q ql=>by
  have K:=d.aR;refine⟨⟨by grind,by show w.fair.roads.length<_;rw[y];exact d.fits.roads,by show ∀r∈w.fair.roads,_;rw[y];exact d.fits.row,λe D=>d.fits.marks e (q e D)⟩,by rw[m];exact d.fr,by rw[n];exact d.to,by rw[m,n];exact d.le,by rw[hd];exact d.cP,?_,ql,λe D=>?_,by show fV w.fair.roads=0;rw[y];exact d.Kv⟩
  . grind
  . show cL w.fair.roads.length e=0
    rw[y];exact d.tH e (q e D)
 have Q:w.fair.Good:=gen w.fair.aD A (by omega)
 have R:∀c∈w.aF,(lone w.fair c.lost).Good:=λc q=>gen [c.lost] (λe D=>by simp_all) (by simp)
 have S:w.qy:=⟨Q.fits,Q.CX,λc q=>⟨(R c q).fits,(R c q).CX⟩,by omega,by omega⟩
 have h6:w.fair.aD.length+w.aF.length<=6:=by omega
 have T:=jT S h6
 have B:vd f (jf w) (E++C):=⟨y,m,n,hd,X.1,z,by simp_all⟩
 obtain⟨mo,Cs,H,last,g,K⟩:=t.seen;obtain⟨v,s,h,hv⟩:=g.way d (by omega)
 obtain⟨u,U,o⟩:=B.way d T hv;have L:aI (jf w) []≠[]:=abK U
 have V:ns w=0:=by
  unfold ns;have a1:bz w.bf 1 4=true:=by simp[bz,P.1,P.2]
  have a2:fQ (zE w) w.aF=0:=sx λc q=>by
   have:=G c q;have e1:bz c.town 0 (w.bf-1)=true:=by simp only[bz,zj,KD];omega
   have e2:bz c.hour 0 72=true:=by simp only[bz,zj,KD];omega
   unfold zE
   simp_all
  have a3:=(AF T).2 L;rw[a1,sx Y,a2,aaj (by simp),aaj (by omega),aaj (by simp),aaj (by omega),aaj (by simp),aaj (by omega),aaj (by omega)]
 have a7:p.length=f.aD.length:=g.len;refine⟨fP.valid S V,V,by omega,F,by simp_all,by simp_all,λe q=>t.marks e (A e q),λc q=>t.marks _ (J c q),by rw[y];exact⟨t.dV,t.row⟩,u,U,λi j M hj=>?_⟩
 have hl:(E++C).length=w.fair.aD.length+w.aF.length:=by simp_all
 rw[o i j (by omega) (by omega),<-List.map_append]
 have k:∀i:Nat,i<(E++C).length->((E++C).map λi=>p.getD i.toNat 0).getD i 0=p.getD ((E++C).getD i 0).toNat 0:=λi M=>by rw[zs,aaK,zR M,zs (l:=E++C),zR M];rfl
 rw[k i (by omega),k j (by omega)]
 have ri:=z _ (gQ (l:=E++C) (i:=i) (by omega))
 have rj:=z _ (gQ (l:=E++C) (i:=j) (by omega))
 generalize (E++C).getD i 0=a at *;generalize (E++C).getD j 0=b at *;have ea:a=(a.toNat:Int):=by omega
 have eb:b=(b.toNat:Int):=by omega
 rw[acu,KD];constructor
 . intro q
   rw[ea,eb]at q;have:=yD h (by omega) (by omega) q
   omega
 . intro q
   have:=yC h (i:=a.toNat) (j:=b.toNat) (by omega) (by omega) q
   grind
theorem Kr{w h}{i:Nat}(hi:i<w.fair.aD.length):(i:Int)∈dR w h↔(aS w.fair i).hour<=h:=by unfold dR pE;rw[aaR,KD];exact⟨λq=>q.2,λq=>⟨Ot ⟨by omega,by omega⟩,q⟩⟩
theorem E0{cnt w own lost}(a:EZ cnt w own lost){i c h}(hi:i<w.fair.aD.length)(j:c<w.aF.length)(k:own.getD i 0=lost.getD c 0)(e:(i:Int)∈dR w h/\(c:Int)∈de w h):(c:Int)∈ua w h i:=by
 have b:=a.valid;have l:=b.px;refine(Ct b ⟨by omega,by omega⟩ j).2 ⟨e,?_⟩;obtain⟨v,d,m⟩:=a.VU;obtain⟨u,n,o⟩:=(rk w h).way (jT b.zF l) (pf b h) d;refine⟨u,n,?_⟩;obtain⟨f,g⟩:=Qs e;unfold GS;rw[o _ _ (List.idxOf_lt_length_of_mem f) (List.idxOf_lt_length_of_mem g),uf f,uf g];have:=m i (w.fair.aD.length+c) (by omega) (by omega);rw[show((w.fair.aD.length+c:Nat):Int)=(c:Int)+w.fair.aD.length by omega]at this;rw[this,KD,zs,zs,aaQ (by rw[a.lo];exact hi),aaB (by rw[a.lo];omega),a.lo,Nat.add_sub_cancel_left,<-List.getD_eq_getElem?_getD,<-List.getD_eq_getElem?_getD];exact k
theorem yT{cnt w own lost}(d:EZ cnt w own lost){i c}(hi:i<w.fair.aD.length)(a:c<w.aF.length)(f:own.getD i 0=lost.getD c 0)(e:dB w c<=72):mq w c≠2:=by have b:=d.valid;refine((Cu b a).1 ⟨i,hi,E0 d hi a f ⟨?_,(od b a).2 ⟨e,e⟩⟩⟩).2;rw[jV b (abq _)];exact Ot ⟨by omega,by omega⟩
end
section
open Go Go.cE Go.Conc
variable{m:Mo}{σ:af}{KF:acJ}
theorem og{a b c d e l}(h:KF (.val (bx ⟨a,b,c,l,d,e⟩)) σ):aA prog m 65 [int a,int b,int c,int d,int e,ints l] σ KF:=by
 refine fs [] Tryz.func65 rfl (by kernel_rfl) ?_;simp[Tryz.f65];refine bM.intro λk f=>?_
 simp;exact .less (by repeat (first|exact af.le_refl _|assumption|refine af.fj ?_ (by assumption)|refine af.lJ ?_ (by assumption))) (.done h)
theorem Cw{a b c d e}(h:KF (.val (jK ⟨a,b,c,d,e⟩)) σ):aA prog m 66 [int a,int b,int c,int d,int e] σ KF:=by
 refine fs [] Tryz.func66 rfl (by kernel_rfl) ?_;simp[Tryz.f66];refine bM.intro λk f=>?_
 simp[aK];exact .less (by repeat (first|exact af.le_refl _|assumption|refine af.fj ?_ (by assumption)|refine af.lJ ?_ (by assumption))) (.done h)
def Oy:List yn:=[⟨10,0,1,[0],15,0⟩,⟨12,0,1,[],16,1⟩,⟨14,0,2,[],14,0⟩,⟨16,0,1,[],14,0⟩]
def yU:List Way:=[⟨0,1,4,6,20⟩,⟨1,2,1,0,72⟩,⟨2,0,2,0,72⟩]
def VV:Fr:=⟨Oy,[[0,2],[2,0]],1,2,3,3⟩
def VW:OR:=⟨⟨4,1,1,[0],15,0⟩,1,5⟩
def lW(n:Nat):fP:=⟨VV,3,yU.take n,[VW]⟩
theorem A7{n}(z:n<=3)(h:KF (.val (dA (lW n))) σ):aA prog m 37 [int n] σ KF:=by
 have v:∀a b c d e:Int,∀l:acX,Wl [int a,int b,int c,int d,int e,.sl 1 (l.map int) .exact] [int a,int b,int c,int d,int e,ints l]:=λa b c d e l=>.cons (.refl _) (.cons (.refl _) (.cons (.refl _) (.cons (.refl _) (.cons (.refl _) (.cons (fS 1 _ .exact) .nil)))))
 have r:∀a b c d e:Int,Wl [int a,int b,int c,int d,int e,.lit (.slice none 0 0)] [int a,int b,int c,int d,int e,ints []]:=λa b c d e=>.cons (.refl _) (.cons (.refl _) (.cons (.refl _) (.cons (.refl _) (.cons (.refl _) (.cons (eU 1) .nil)))))
 refine fs Xi Tryz.func37 rfl (by kernel_rfl) ?_
 simp[Tryz.f37];refine bM.intro λwb t=>?_
 simp;refine bS Tryz.func65 rfl rfl (v 10 0 1 15 0 [0]) (og ?_);apply rn;simp;refine bS Tryz.func65 rfl rfl (r 12 0 1 16 1) (og ?_);apply rn;simp;refine bS Tryz.func65 rfl rfl (r 14 0 2 14 0) (og ?_);apply rn;simp;refine bS Tryz.func65 rfl rfl (r 16 0 1 14 0) (og ?_);refine aa.runN lay [] 9 ?_;simp[aK];refine bM.intro λfb j=>?_
 obtain⟨A,B,w⟩:=af.aP j;simp[aK]
 change aa _ _ _ _ _ _ _ _ _
 refine aa.bt 3 (b:=fb) (.agg [.sl 6 (Oy.map bx) .exact,.sl 1 [.sl 1 [int 0,int 2] .exact,.sl 1 [int 2,int 0] .exact] .exact,int 1,int 2,int 3,int 3]) (af.aj _ _ _) (by simp) rfl ?_
 rw[ew j];apply rn;simp;refine cf Tryz.func66 rfl (Cw ?_);apply rn;simp;refine cf Tryz.func66 rfl (Cw ?_);apply rn;simp;refine cf Tryz.func66 rfl (Cw ?_);apply rn;simp;obtain⟨L,x⟩:∃L,L=(yU.take n).map jK:=⟨_,rfl⟩;have u:((yU.map jK).drop 0).take (n-0)=L:=by simp_all
 have Zu:(σ.set wb (.cells [.nil,.nil,int 0,int 0,int 0,int 0,int 0,.nil,.nil])) wb=some (.cells [.nil,.nil,int 0,int 0,int 0,int 0,int 0,.nil,.nil]):=af.aj _ _ _;have k:n<=(yU.map jK).length:=by simp[yU];omega
 apply Oo
 . intro key
   repeat' first
    |refine⟨?_,?_⟩
    | (refine rX lay rfl R9 rfl Vb (es:=yU.map jK) (sp:=.exact) (l:=0) (h:=n) (by simp[yU]) (λcap o=>⟨rfl,⟨⟨.i64,by simp⟩,aar k o⟩,rfl⟩) k ?_
       rw[u];apply pg;simp[aK])
    | (refine bS Tryz.func65 rfl rfl (v 4 1 1 15 0 [0]) (og ?_)
       apply pg;simp[aK])
   all_goals
    refine aa.jd (λe s=>e 2=.ref wb 0/\s=σ.set wb (.cells [.sl 6 (Oy.map bx) .exact,.sl 1 [.sl 1 [int 0,int 2] .exact,.sl 1 [int 2,int 0] .exact] .exact,int 1,int 2,int 3,int 3,int 3,.sl 5 L .any,.sl 8 [ij VW] .exact])) ⟨by simp,rfl⟩ ?_
    exact key
 rintro env _ ⟨y,rfl⟩
 apply rn;simp[y]
 have p:(AV.sl 1 [AV.sl 1 [int 0,int 2] .exact,.sl 1 [int 2,int 0] .exact] .exact).W (rows [[0,2],[2,0]]):=VK rfl (λa q=>by simp at q;rcases q with rfl|rfl<;>rfl) (λa q=>by simp at q;rcases q with rfl|rfl<;>rfl) (λi a a' f g=>by
  match i with
  |0=>simp at f g;subst f;subst g;exact fS 1 [int 0,int 2] .exact
  |1=>simp at f g;subst f;subst g;exact fS 1 [int 2,int 0] .exact
  |i+2=>simp at f)
 refine .less (af.fj (af.le_refl _) t) (.pD (a':=dA (lW n)) (qm rfl λi a a' f g=>?_) (.done h))
 match i with
 |0=>cases f;cases g;exact fS 6 _ .exact
 |1=>cases f;cases g;exact p
 |2=>cases f;cases g;exact .refl _
 |3=>cases f;cases g;exact .refl _
 |4=>cases f;cases g;exact .refl _
 |5=>cases f;cases g;exact .refl _
 |6=>cases f;cases g;exact .refl _
 |7=>cases f;cases g;rw[x];exact .refl _
 |8=>cases f;cases g;exact fS 8 _ .exact
 |i+9=>cases f
end
section
open Go Go.cE Go.Conc
def Ia(f:Fr):Bool:=decide (f.aD.length<100) && decide (f.roads.length<100) && f.roads.all (λr=>decide (r.length<100)) && f.aD.all (λe=>decide (e.marks.length<100))
theorem yV{f}(h:Ia f=true):f.Fits:=by simp only[Ia,zj,KD,aap]at h;obtain⟨⟨⟨a,b⟩,c⟩,d⟩:=h;exact⟨by omega,by omega,λr g=>by grind,λe i=>by grind⟩
def E1(f:Fr):Bool:=Ia f && decide (check f=0)
theorem Oz{f}(h:E1 f=true):f.Good:=by simp only[E1,zj,KD]at h;exact Fr.nQ (yV h.1) h.2
def pj(h:Int):Int:=if h<0 then -1 else if 72<h then 72 else h
theorem OA  h :∃k:Nat,k<74/\pj h=(k:Int)-1:=by refine⟨(pj h+1).toNat,?_,?_⟩<;>(unfold pj;split<;>(try split)<;>omega)
def GW(w:fP):Bool:=(pI w.fair.aD.length).all (λi=>decide (0<=(aS w.fair i).hour) && decide ((aS w.fair i).hour<=72)) && (pI w.aF.length).all λi=>decide (0<=dB w i.toNat)
theorem E2{w}(a:GW w=true)  h :kE w h=kE w (pj h)/\kC w h=kC w (pj h):=by
 simp only[GW,zj,aap,KD]at a
 have c:dR w h=dR w (pj h):=abw λx b=>by
  have:=a.1 x b;unfold pE pj
  grind
 have d:de w h=de w (pj h):=abw λx b=>by
  have:=a.2 x b;unfold pC pj
  grind
 grind
def Xx(w:fP)(p:Int × Int):Bool:=(aB p.1).all (λi=>decide (0<=i) && decide (i<w.fair.aD.length)) && (aB p.2).all (λi=>decide (0<=i) && decide (i<w.aF.length)) && E1 (dg w (aB p.1) (aB p.2)) && decide (aI (dg w (aB p.1) (aB p.2)) []≠[])
theorem VX{w p}(h:Xx w p=true):w.Bk p.1 p.2:=by simp only[Xx,zj,aap,KD]at h;exact⟨h.1.1.1,h.1.1.2,Oz h.1.2,h.2⟩
def Rg(w:fP)(L:acB):Bool:=decide (w.fair.aD.length<=6) && decide (w.aF.length<=3) && GW w && (List.range 74).all (λk=>L.contains (kE w ((k:Int)-1),kC w ((k:Int)-1))) && L.all (Xx w)
theorem Cx{w L}(h:Rg w L=true):w.Open:=by
 simp only[Rg,zj,aap,KD]at h;refine⟨⟨h.1.1.1.1,h.1.1.1.2⟩,λt=>?_⟩;obtain⟨a,b⟩:=E2 h.1.1.2 t;obtain⟨k,c,ek⟩:=OA t;rw[a,b,ek];exact VX (p:=(kE w ((k:Int)-1),kC w ((k:Int)-1))) (h.2 _ (by grind))
def Rh(w:fP):Bool:=E1 w.fair && w.aF.all (λc=>Ia (lone w.fair c.lost) && decide (check (lone w.fair c.lost)=0)) && decide (w.ways.length<100) && decide (w.aF.length<100)
theorem Ib{w}(h:Rh w=true):w.qy:=by simp only[Rh,E1,zj,aap,KD]at h;obtain⟨⟨⟨⟨d,e⟩,a⟩,f⟩,g⟩:=h;exact⟨yV d,e,λc b=>⟨yV (a c b).1,(a c b).2⟩,by omega,by omega⟩
theorem Qy:(lW 2).qy/\(lW 3).qy:=⟨Ib (by decide +kernel),Ib (by decide +kernel)⟩
theorem Ic:(lW 2).Open/\(lW 3).Open:=⟨Cx (L:=[(0,0),(0,1),(1,0),(1,1),(3,1),(7,1),(15,1)]) (by decide +kernel),Cx (L:=[(0,0),(0,1),(1,1),(3,1),(7,1),(15,1)]) (by decide +kernel)⟩
end
open Go Go.cE Go.Conc
variable{m:Mo}{σ:af}{KF:acJ}
theorem Sz:HP prog 28 3:=.of (by kernel_rfl) (by kernel_rfl) (by kernel_rfl) (by kernel_rfl)
namespace SR
abbrev Xy:acO:=[⟨4,.take [0,1,2,3,4,5,6,7] false (.one 8 (.done))⟩]
theorem zK{a b}(A:a.length<1152921504606846976)(hb:b.length<1152921504606846976)(h:KF (.val (bool (decide (a=b)))) σ):aA prog m 40 [pe a,pe b] σ KF:=by
 refine fs Xy Tryz.func40 rfl (by kernel_rfl) ?_;simp[Tryz.f40];refine aa.loop a.length (λk s=>∃env,s=⟨env,σ,[],.no⟩/\env 0=pe a/\env 1=pe b/\env 5=int k/\k<=b.length/\a.take k=b.take k) ⟨_,rfl,by simp⟩ ?_;rintro B k _ C ⟨env,rfl,g,l,i,r,o⟩ t;apply rn;simp[g,i];refine uh.intro (λf=>?_) (λf=>?_)<;>(try simp[-Nat.not_lt,-Nat.not_le]at f)<;>(try simp[g,l,i,f])
 . refine aH.intro (λj=>?_) (λj=>?_)<;>(try simp[-Nat.not_lt,-Nat.not_le]at j)<;>(try simp[g,l,i,j,f])
   . obtain⟨x,u⟩:∃x,x=a[k]:=⟨_,rfl⟩
     obtain⟨y,v⟩:∃y,y=b[k]:=⟨_,rfl⟩;simp only[<-u,<-v];refine I4 lay Sz rp rfl rfl (a:=x.1) (b:=x.2) (c:=y.1) (d:=y.2) (by simp) (by simp) (.inr ⟨rfl,rfl⟩) ?_;have w:(!(x.1==y.1 && x.2==y.2))=!decide (x=y):=by grind
     rw[w];by_cases p:x=y
     . apply pg
       simp[p];apply rn;simp[i];have z:a[k]=b[k]:=by simp_all
       refine⟨by omega,t _ f ⟨_,rfl,by simp[g],by simp[l],by simp,by omega,?_⟩⟩;rw[zG f,zG j,o,z]
     . have:a≠b:=λe=>by simp_all
       simp[this]at h;apply pg;simp[p];apply rn;simp;exact .done h
   . have:a≠b:=λe=>by simp_all
     have n:((a.length:Int)==b.length)=false:=by grind
     rw[n];exact .done (by simp_all)
 . have:k=a.length:=by omega
   subst this;rw[aav]at o;by_cases e:a.length=b.length
   . have:a=b:=by grind
     exact .done (by grind)
   . have:a≠b:=λq=>e (by rw[q])
     have n:((a.length:Int)==b.length)=false:=by grind
     rw[n];exact .done (by grind)
end SR
theorem OB:eY (lW 3) [] [] [0]=0/\eY (lW 3) [14] [] []=0/\eY (lW 3) [] [1] []=0/\eY (lW 2) [] [] []=0/\eY (lW 3) [] [] []=0:=by decide +kernel
theorem Qz:dB (lW 3) 0=8/\me (lW 3) 14=[0,1]/\cM (lW 3) 1=[(12,15)]/\iY (lW 2) (lW 2).fair.aD.length=67/\H6 (lW 3)=[0]:=by decide +kernel
theorem OC:iL (lW 3) 16 0 0=1/\((List.range 16).all λh=>(List.range 4).all fun  i=>decide (iL (lW 3) (h:Nat) i 0≠1))=true:=by decide +kernel
theorem SA:∀l ,(∀c∈l,0<=c/\c<((lW 3).aF.length:Int))->l.length<=(lW 3).aF.length->((lW 3).only l).Open:=λl d g=>by
 have f:l=[]\/l=[0]:=by
  match l with
  |[]=>simp_all
  | [a]=>
    have:=d a (by simp);have e:(lW 3).aF.length=1:=rfl
    grind
  | a::b::t=>
    have e:(lW 3).aF.length=1:=rfl
    simp_all
 rcases f with rfl|rfl
 . exact Cx (L:=[(0,0),(1,0),(3,0),(7,0),(15,0)]) (by decide +kernel)
 . exact Ic.2
theorem GX:(∀h i ,h<73->i<(lW 3).fair.aD.length->foundAt (lW 3) 0 h i->h=16/\i=0)/\¬(∀a b:Nat,a<73->b<(lW 3).fair.aD.length->iL (lW 3) a b 0≠1):=by
 obtain⟨f1,c⟩:=OC;have e:(lW 3).fair.aD.length=4:=rfl;refine⟨λh i j k d=>?_,λq=>q 16 0 (by omega) (by omega) f1⟩;simp only[aap,KD,aai]at c;by_cases f:h<16
 . exact absurd d.1 (c h f i (by omega))
 . by_cases g:h=16/\i=0
   . exact g
   . exact absurd f1 (d.2 16 0 (by omega) (by omega))
theorem OD(d:m.solo=true)(h:KF (.val (bool true)) σ):aA prog m 14 [] σ KF:=by
 have e:∀(σ:af) (KF:acJ),KF (.val (dA (lW 3))) σ->aA prog m 37 [int 3] σ KF:=λσ KF h=>A7 (n:=3) (by decide) h
 have k:∀(σ:af) (KF:acJ),KF (.val (dA (lW 2))) σ->aA prog m 37 [int 2] σ KF:=λσ KF h=>A7 (n:=2) (by decide) h
 obtain⟨j,l,o,p,r⟩:=OB;obtain⟨s,t,u,v,w⟩:=Qz;obtain⟨f1,x⟩:=GX;obtain⟨y,f⟩:=Qy;obtain⟨z,g⟩:=Ic;have sub:=SA;generalize lW 3=A at *;generalize lW 2=B at *;refine fs [] Tryz.func14 rfl (by kernel_rfl) ?_;simp[Tryz.f14];refine cf Tryz.func37 rfl (e _ _ ?_);apply rn;simp;refine cf Tryz.func15 rfl (qC d f (c:=0) (by decide) j ?_);rw[s,aaj (by decide)];apply rn;simp;refine cf Tryz.func37 rfl (e _ _ ?_);apply rn;simp;refine cf Tryz.func17 rfl (Oe d f g (λq=>absurd l q) λ_=>?_);rw[t];apply rn;simp;refine cf Tryz.func37 rfl (e _ _ ?_);apply rn;simp;refine cf Tryz.func38 rfl (Ka d f g (by decide) (λq=>absurd o q) λ_=>?_);rw[u];apply rn;simp;refine cf Tryz.func37 rfl (e _ _ ?_);apply rn;simp;refine cf Tryz.func19 rfl (Kd d f g (by decide) j (λh i C D E=>?_) λq=>absurd q x)
 obtain⟨rfl,rfl⟩:=f1 h i C D E;apply rn;simp;refine cf Tryz.func37 rfl (k _ _ ?_);apply rn;simp;refine cf Tryz.func30 rfl (Kc d y z p ?_);rw[v];apply rn;simp;refine cf Tryz.func37 rfl (e _ _ ?_);apply rn;simp;refine cf Tryz.func39 rfl (GN d f g sub r ?_);rw[w];apply rn;simp;refine bS Tryz.func18 rfl rfl (.cons (.refl _) (.cons (fS 1 [int 0,int 1] .exact) .nil)) (vL (a:=[0,1]) (b:=[0,1]) (by simp) (by simp) ?_);apply rn;simp;refine bS Tryz.func40 rfl rfl (.cons (.refl _) (.cons (fS 2 [kL (12,15)] .exact) .nil)) (SR.zK (a:=[(12,15)]) (b:=[(12,15)]) (by simp) (by simp) ?_);apply rn;simp;refine bS Tryz.func18 rfl rfl (.cons (.refl _) (.cons (fS 1 [int 0] .exact) .nil)) (vL (a:=[0]) (b:=[0]) (by simp) (by simp) ?_);apply rn;simp;exact .done h
