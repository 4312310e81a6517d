import Derived.Test.YtkcceaplmgdnfaaGreatDoorC30
set_option linter.all false
set_option maxHeartbeats 2000000
set_option maxRecDepth 4000
namespace Go.Proofs.YtkcceaplmgdnfaaGreatDoor
open Go.Proofs.Tryz (prog)
section
open Go.bQ Go.Conc
variable{m:Mo}{σ:aa}{KF:abT}
structure v7(n:Nat)(lo:Int)(r:abG):Prop where
 len:r.length=n
 row:∀l∈r,l.length=n
 diag:∀i,i<n->rd r i i=0
 sym:∀i j,i<n->j<n->rd r i j=rd r j i
 off:∀i j,i<n->j<n->i≠j->lo<=rd r i j/\rd r i j<=2*lo
structure uz(cnt:Int)(f:Fr):Prop where
 cQ:1<=f.cQ/\f.cQ<=4
 aX:f.aX=1\/f.aX=2\/f.aX=3\/f.aX=6
 dS:1<=f.roads.length/\f.roads.length<=3
 JN:∃lo:Int,(0<=lo/\lo<=4)/\v7 f.roads.length lo f.roads
 fr:0<=f.aR/\f.aR<=2
 to:f.aR<=f.eS/\f.eS<=2
 len:(f.aD.length:Int)<=cnt
 te:∀e∈f.aD,ye f.roads.length e
theorem v7.err{n:Nat}{lo:Int}{r:abG}(h:v7 n lo r)(v:1<=n/\n<=3)(s:0<=lo/\lo<=4):fT r=0:=by
 have t:=h.len
 have hb:∀i j,i<n->j<n->0<=rd r i j/\rd r i j<=9:=λi j a b=>by
  by_cases e:i=j
  . subst e;rw[h.diag i a];omega
  . have:=h.off i j a b e;omega
 have f:∀l∈r,lS n l=0:=λl g=>by
  have w:=h.row l g
  have y:l.all (bD · 0 9)=true:=by
   rw[ZP];intro x m;obtain⟨i,a,rfl⟩:=List.mem_iff_getElem.1 g;obtain⟨j,b,rfl⟩:=List.mem_iff_getElem.1 m;have:=hb i j (by omega) (by omega);have e:rd r i j=r[i][j]:=by simp[rd,zA,a,b]
   rw[e]at this;simp[bD,this.1,this.2]
  unfold lS
  simp_all
 have d:∀l:abG,(∀x∈l,x∈r)->ib n l=0:=λl=>by
  induction l with
  |nil=>intro _;rfl
  | cons x l z=>
    intro m;unfold ib
    simp_all
 have u:((List.range n).any λi=>(List.range n).any λj=>dP r i j)=false:=by
  rw[aaC];intro i a;rw[Bool.not_eq_true,aaC];intro j b;have a:=List.mem_range.1 a;have b:=List.mem_range.1 b;unfold dP;rw[h.diag i a,h.sym i j a b,t]
  have A : ((List.range n).any λk=>decide (rd r j i>rd r i k+rd r k j))=false:=by
   rw[aaC];intro k c;have c:=List.mem_range.1 c;have B:=hb i k a c;have C:=hb k j c b;simp only[decide_eq_true_eq,Int.not_lt,gt_iff_lt];by_cases o:i=j
   . subst o;rw[h.diag i a];omega
   . by_cases p:i=k
     . subst p;rw[h.diag i a,h.sym i j a b];omega
     . by_cases q:k=j
       . subst q;rw[h.diag k c,h.sym i k a c];omega
       . have D:=h.off j i b a (za o)
         have E:=h.off i k a c p;have F:=h.off k j c b q;omega
  simp_all
 unfold fT
 grind
theorem M8{M:abG}{i k:Nat}{n:Int}(hi:i<M.length)(a:k<(M.getD i []).length)(x y:Nat):rd (M.set i ((M.getD i []).set k n)) x y=if x=i/\y=k then n else rd M x y:=by
 unfold rd
 grind
def zh(M:abG)(i k:Nat)(n:Int):abG:=(M.set i ((M.getD i []).set k n)).set k ((M.getD k []).set i n)
structure He(n:Nat)(lo:Int)(i k:Nat)(M:abG):Prop where
 len:M.length=n
 row:∀j,j<n->(M.getD j []).length=n
 diag:∀x,x<n->rd M x x=0
 sym:∀x y,x<n->y<n->rd M x y=rd M y x
 off:∀x y,y<x->x<n->(x<i\/(x=i/\y<k))->lo<=rd M x y/\rd M x y<=2*lo
theorem Ao{M:abG}{i k:Nat}{v:Int}(hi:i<M.length)(b:k<M.length)(a:k≠i)(j:Nat):(zh M i k v).getD j []=if j=k then(M.getD k []).set i v else if j=i then(M.getD i []).set k v else M.getD j []:=by
 unfold zh
 grind
theorem Pr{n:Nat}{lo:Int}{i k a b:Nat}{M:abG}{v:Int}(h:He n lo a b M)(hi:i<n)(c:k<n)(d:k≠i)(x y:Nat):rd (zh M i k v) x y=if(x=i/\y=k)\/(x=k/\y=i)then v else rd M x y:=by
 have f:=h.len
 have e:rd (zh M i k v) x y=if x=k/\y=i then v else rd (M.set i ((M.getD i []).set k v)) x y:=by
  have q:M.getD k []=(M.set i ((M.getD i []).set k v)).getD k []:=by grind
  unfold zh;rw[q];exact M8 (by grind) (by rw[<-q];rw[h.row k c];exact hi) x y
 rw[e,M8 (by omega) (by rw[h.row i hi];exact c)];omega
theorem He.next{n:Nat}{lo:Int}{i k:Nat}{M:abG}{v:Int}(h:He n lo i k M)(hi:i<n)(l:k<i)(m:lo<=v/\v<=2*lo):He n lo i (k+1) (zh M i k v):=by
 have e:=h.len;have a:=Pr (v:=v) h hi (show k<n by omega) (by omega);refine⟨by simp[zh,e],λj f=>?_,λx b=>?_,λx y b g=>?_,λx y d b hd=>?_⟩
 . rw[Ao (by omega) (by omega) (by omega)]
   split
   . rw[aaI];exact h.row k (by omega)
   . split
     . rw[aaI];exact h.row i hi
     . exact h.row j f
 . rw[a,if_neg (by omega)];exact h.diag x b
 . rw[a,a]
   by_cases c:(x=i/\y=k)\/(x=k/\y=i)
   . grind
   . rw[if_neg c,if_neg (λq=>c (q.elim (λq=>.inr ⟨q.2,q.1⟩) (λq=>.inl ⟨q.2,q.1⟩)))]
     exact h.sym x y b g
 . rw[a]
   by_cases c:(x=i/\y=k)\/(x=k/\y=i)
   . omega
   . rw[if_neg c]
     refine h.off x y d b ?_;omega
theorem He.line{n:Nat}{lo:Int}{i:Nat}{M:abG}(h:He n lo i i M):He n lo (i+1) 0 M:=⟨h.len,h.row,h.diag,h.sym,λx y a b hd=>h.off x y a b (by omega)⟩
theorem He.fin{n:Nat}{lo:Int}{M:abG}(h:He n lo n 0 M):v7 n lo M:=by
 have e:=h.len;refine⟨h.len,λl c=>?_,h.diag,h.sym,λi j a b d=>?_⟩
 . obtain⟨i,a,rfl⟩:=List.mem_iff_getElem.1 c
   have:=h.row i (by omega)
   grind
 . rcases ZU j i with q|q
   . exact h.off i j q a (.inl a)
   . rw[h.sym i j a b]
     exact h.off j i (by omega) b (.inl b)
theorem He.start(n:Nat)(lo:Int):He n lo 0 0 (List.replicate n (List.replicate n 0)):=by
 have a:∀x y,rd (List.replicate n (List.replicate n 0)) x y=0:=λx y=>by
  unfold rd
  grind
 refine⟨by simp,λj b=>by simp_all,λx _=>a x x,λx y _ _=>by rw[a,a],λx y _ _ h=>by omega⟩
theorem oH{g:mN->Int}:∀{l:acC},(∀e∈l,g e=0)->fS g l=0
 |[],_=>rfl
 | a::l,h=>by
   unfold fS;rw[if_pos (h a (by simp))];exact oH λe b=>h e (by simp[b])
theorem uz.check{aX:Int}{f:Fr}(h:uz aX f)(j:aX<=6):check f=0:=by
 obtain⟨lo,a,b⟩:=h.JN;have c:=b.err h.dS a;have k:=h.fr;have l:=h.to;have m:=h.cQ;have n:=h.aX;have o:=h.len
 have d:(bD f.aR 0 3 && bD f.eS 0 3)=true:=by simp[bD];omega
 have g:(bD f.cQ 1 6 && bD f.aX 1 6)=true:=by simp[bD];omega
 unfold Go.Proofs.YtkcceaplmgdnfaaGreatDoor.check;rw[c,if_neg (by simp),d,if_neg (by simp),if_neg (by omega),g,if_neg (by simp),if_neg (by omega)]
 exact oH λe i=>(h.te e i).check
theorem uz.fits{aX:Int}{f:Fr}(h:uz aX f)(g:aX<=1000):f.Fits:=by
 obtain⟨lo,a,b⟩:=h.JN;have:=h.len;have i:=h.dS;refine⟨by omega,by omega,λl c=>?_,λe d=>?_⟩
 . have:=b.row l c;omega
 . have:=(lr (h.te e d).marks).2;omega
theorem tj{l:acr}(h:l.Nodup){i j:Nat}{hi:i<l.length}{hj:j<l.length}(a:i≠j):l[i]≠l[j]:=by
 rw[List.Nodup,List.pairwise_iff_getElem]at h
 grind
def iR(rs:acr)(M:abG)(n j:Nat):acw:=(List.range rs.length).map λl=>if l<j then ints (M.getD l [])else AV.gW (rs.getD l 0) 0 n n
theorem oI(rs:acr)(M:abG)(n j:Nat):(iR rs M n j).length=rs.length:=by rw[iR,ZE,aaw]
theorem oJ{rs:acr}{M:abG}{n j l:Nat}(a:l<rs.length):(iR rs M n j)[l]?=some (if l<j then ints (M.getD l [])else AV.gW (rs.getD l 0) 0 n n):=by rw[iR,ZT,List.getElem?_range a];rfl
theorem DK{fid r:Nat}{ro:acf}{hold:ace}{K:bQ.Exit->St->Prop}{todo:acm}{env:Env}{D:acz}{rc:Rec}{d n at_:Nat}{rs:acr}{M:abG}{cs:acw}{spr:cT}(σ0:aa)(k:rs.Nodup)(s:∀l,l<rs.length->(M.getD l []).length=n)(o:at_<cs.length)(hd:d∉rs)
 (w:∀σ',σ' d=some (.cells (cs.set at_ (.sl 1 (iR rs M n rs.length) spr)))->(∀y,y≠d->y∉rs->σ' y=σ0 y)->ab prog m fid r ro hold todo ⟨env,σ',D,rc⟩ K):
 ∀(f j:Nat),j+f=rs.length->∀σ,σ d=some (.cells (cs.set at_ (.sl 1 (iR rs M n j) spr)))->(∀(l:Nat) (h:l<rs.length),j<=l->σ rs[l]=some (.cells ((M.getD l []).map int)))->(∀y,y≠d->y∉rs->σ y=σ0 y)->ab prog m fid r ro hold todo ⟨env,σ,D,rc⟩ K
 | 0,j,x,σ,t,_,z=>by
   have:j=rs.length:=by omega
   simp_all
 | f + 1,j,x,σ,t,A,z=>by
   have a:j<rs.length:=by omega
   have B:=s j a;have q:d≠rs[j]:=λe=>hd (e ▸ zD a)
   have c:∀e∈iR rs M n j,e.cells=[e]:=λe p=>by unfold iR at p;obtain⟨l,_,rfl⟩:=List.mem_map.1 p;split<;>rfl
   have hlen:(iR rs M n j).length=rs.length:=oI _ _ _ _;have u:∀l,l<rs.length->(iR rs M n j)[l]?=some (if l<j then ints (M.getD l [])else AV.gW (rs.getD l 0) 0 n n):=λl h=>oJ h
   have g:(iR rs M n j).set j (.sl 1 ((M.getD j []).map int) .any)=iR rs M n (j+1):=by
    apply List.ext_getElem?;intro l
    by_cases h:l<rs.length
    . have G:(iR rs M n (j+1))[l]?=some (if l<j+1 then ints (M.getD l [])else AV.gW (rs.getD l 0) 0 n n):=oJ h
      grind
    . rw[aaj (by simp_all),aaj (by rw[oI];omega)]
   refine ab.O6 (b:=rs[j]) (d:=d) (i:=j) (l:=(M.getD j []).map int) (at_:=at_) q (A j a (ZF _)) (λe p=>by obtain⟨_,_,rfl⟩:=List.mem_map.1 p;rfl) t (by rw[aap o]) c (by simp_all) ?_
   rw[List.set_set,g];refine DK σ0 k s o hd w f (j+1) (by omega) _ (aa.ak _ _ _) (λl h v=>?_) (λy C E=>?_)
   . have F:rs[l]≠d:=λe=>hd (e ▸ zD h)
     rw[aa.ai _ _ F];simp only[aa.del,tj k (show l≠j by omega),if_false]
     grind
   . rw[aa.ai _ _ C]
     have:y≠rs[j]:=λe=>E (e ▸ zD a)
     simp only[aa.del,this,if_false]
     simp_all
section
variable{c k:Nat}{nums:acp}
abbrev fV:acw:=[.lit (.slice none 0 0),.lit (.slice none 0 0),int 0,int 0,int 0,int 0]
theorem FT{cnt:Int}(hk:k+20+11*cnt.toNat<1000000)(hn:nums.length<1152921504606846976)(gH:0<=cnt/\cnt<=1000)(hb:bj c nums k σ)(h:∀(f:Fr) (a:AV) σ',uz cnt f->pn c nums (k+20+11*cnt.toNat) σ σ'->(f.aD=[]->a=.lit (.slice none 0 0))/\(f.aD≠[]->a=jw f.aD)->KF (.val (.agg [a,rows f.roads,int f.aR,int f.eS,int f.cQ,int f.aX])) σ'):aA prog m 83 [.ref c 0,int cnt] σ KF:=by
 obtain⟨n0,s0,_,fp⟩:=id hb;refine fs Wf 2 Tryz.func83 rfl rfl (by rfl) (by kernel_rfl) ?_
 simp[Tryz.f83];refine bR.intro λA h4=>?_
 have n4:c≠A:=λe=>by simp_all
 have G:∀x,bj c nums k (σ.set A x):=λx=>⟨n0,s0,by assumption,by rw[aa.ai _ _ n4];exact fp⟩
 simp;refine cf Tryz.func19 rfl (eH (by omega) hn ⟨by omega,by omega⟩ ⟨by omega,by omega⟩ (G _) λcQ gP ft dm=>?_)
 refine rn ?_;simp;refine cf Tryz.func54 rfl (mQ (l:=[1,2,2,3,3,6]) (by omega) hn ⟨by simp,by simp⟩ dm.1 λaX r fu bw=>?_)
 refine rn ?_;simp;refine bR.intro λw h5=>?_
 have Z:A≠c:=za n4;have ax:pn c nums (k+2) (σ.set A (.cells fV)) r:=dm.trans bw;have ed:r A=some (.cells fV):=by rw[ax.2 A Z,aa.ak]
 have K:w≠c:=λe=>by subst e;obtain⟨_,_,_,q⟩:=bw.1;simp_all
 have S:w≠A:=λe=>by simp_all
 have aL:σ w=none:=by rw[ax.2 w K,aa.ai _ _ S]at h5;exact h5
 simp[aJ]
 have ee:∀x,bj c nums (k+2) (r.set w x):=λx=>by obtain⟨n,z,h1,h2⟩:=bw.1;exact⟨n,z,by omega,by rw[aa.ai _ _ (za K)];exact h2⟩
 refine cf Tryz.func19 rfl (eH (by omega) hn ⟨by omega,by omega⟩ ⟨by omega,by omega⟩ (ee _) λdS g fv dr=>?_)
 refine rn ?_;simp;refine cf Tryz.func18 rfl (fa (by omega) hn ⟨by omega,by omega⟩ dr.1 λlo aO fw dx=>?_)
 refine rn ?_;simp;have ay:pn c nums (k+4) (r.set w (.cells [.lit (.slice none 0 0),.lit (.slice none 0 0),int 0,int 0,int cQ,int aX])) aO:=dr.trans dx;obtain⟨sp,rfl⟩:∃sp:Nat,dS=(sp:Int):=⟨dS.toNat,by omega⟩
 have gR:1<=sp/\sp<=3:=by omega
 have fx:0<=lo/\lo<=4:=by omega
 have eg:1<=cQ/\cQ<=4:=by omega
 have dy:aX=1\/aX=2\/aX=3\/aX=6:=by simp_all
 have ei:aO w=some (.cells [.lit (.slice none 0 0),.lit (.slice none 0 0),int 0,int 0,int cQ,int aX]):=by rw[ay.2 w K,aa.ak]
 have ej:aO A=some (.cells fV):=by rw[ay.2 A Z,aa.ai _ _ (za S)];exact ed
 have c9:(σ.del c).Le aO:=λy x p=>by
  have y1:y≠c:=λe=>by subst e;simp[aa.del]at p
  have y0:σ y=some x:=by simpa[aa.del,y1]using p
  have y5:y≠w:=λe=>by simp_all
  have y4:y≠A:=λe=>by simp_all
  rw[ay.2 y y1,aa.ai _ _ y5,ax.2 y y1,aa.ai _ _ y4];exact y0
 have b2:=dx.1;clear dm bw dr dx ax ay G ee h5 ed ft fu fv fw
 refine ab.loop sp (λi s=>∃env σ' a rs,s=⟨env,σ',[],.no⟩/\env 0=.ref c 0/\env 1=int cnt/\env 4=.ref A 0/\env 5=.ref w 0/\env 6=int sp/\env 7=int lo/\env 8=int i/\bj c nums (k+4) σ'/\σ' A=some (.cells fV)/\σ' w=some (.cells [.lit (.slice none 0 0),a,int 0,int 0,int cQ,int aX])/\
  Tok (σ.del c) σ' a 1 (rs.map λb:Nat=>AV.gW b 0 sp sp)/\rs.length=i/\rs.Nodup/\(∀b∈rs,σ b=none/\b≠c/\b≠A/\b≠w/\σ' b=some (.cells (List.replicate sp (int 0))))) ⟨_,aO,.lit (.slice none 0 0),[],rfl,by simp,by simp,by simp,by simp,by simp,by simp,by simp,b2,ej,ei,⟨c9,.inl ⟨rfl,rfl⟩⟩,rfl,abg,by simp⟩ ?_
 rintro c0 i _ hi ⟨env,σ',a,rs,rfl,J,e1,T,D,H,e7,e8,I,q4,V,u,b3,a7,b0⟩ ih
 have L:=u.cells
 rcases ZU i sp with g1|g1
 . have fO:(i:Int)<sp:=by omega
   have f1:-9223372036854775808<=(i:Int)+1/\(i:Int)+1<=9223372036854775807:=by omega
   have ea:∀a8:aa,Tok (σ.del c) a8 a 1 (rs.map λb:Nat=>AV.gW b 0 sp sp)->∀y l,a8 y=some (.cells l)->bp a≠some y:=λa8 hx y l p e=>by obtain⟨_,_,q⟩:=hx.aV e;rw[p]at q;cases q
   have fresh:∀b,σ' b=none->σ b=none/\b≠c/\b≠A/\b≠w/\w≠b/\b∉rs:=λb U=>by
    have n1:b≠c:=λe=>by subst e;obtain⟨_,_,_,q⟩:=I;simp_all
    refine⟨?_,n1,λe=>(by subst e;simp_all),λe=>(by subst e;simp_all),λe=>(by simp_all),λe=>(by rw[(b0 b e).2.2.2.2]at U;cases U)⟩
    cases e:σ b with
    |none=>rfl
    |some x=>have:=u.1 b x (by simp[aa.del,n1,e]);rw[U]at this;cases this
   refine rn ?_;simp[D,H,e8,V,fO];refine⟨?_,?_⟩
   . ((
       refine sY lay rfl dh rfl qM rfl (by decide) rfl rfl (n:=sp) (by simp[H]) (by simp[H]) ⟨by omega,by omega⟩ λb U=>?_
       obtain⟨bx,a9,ad,al,b4,av⟩:=fresh b U;have up:=u.up (aa.rH (x:=.cells (List.replicate sp (int 0))) (aa.le_refl _) U);have b1:(σ'.set b (.cells (List.replicate sp (int 0)))) w=some (.cells [.lit (.slice none 0 0),a,int 0,int 0,int cQ,int aX]):=(aa.ai _ _ b4).trans V;refine pg ?_;simp[D,H,b1,L.1,L.2]))
     ((
       refine aK lay rfl rfl rfl nf rfl nf rfl dh (by decide) (by simp;omega) (σ0:=(σ'.set b (.cells (List.replicate sp (int 0)))).off a) (es:=rs.map λb:Nat=>AV.gW b 0 sp sp) (xs:=[AV.gW b 0 sp sp]) (by simpa using up.here.1) (.inr ⟨_,by simp;rfl⟩) λa' g t=>?_
       have B:=t.cells;have F:∀y l,(σ'.set b (.cells (List.replicate sp (int 0)))) y=some (.cells l)->g y=some (.cells l):=λy l p=>t.1 _ _ (by rw[aa.dO (ea _ up y l p)];exact p)
       have Q:=F _ _ b1;refine pg ?_;simp[D,Q,B.1,B.2,aJ];refine rn ?_;simp[e8,f1.1,f1.2];obtain⟨X,Y,G,E⟩:=I
       have C:Tok (σ.del c) g a' 1 ((rs++[b]).map λb:Nat=>AV.gW b 0 sp sp):=by have:=t.base up.here.2;simpa using this
       refine ih _ g1 ⟨_,_,a',rs++[b],rfl,by simp[J],by simp[e1],by simp[T],by simp[D],by simp[H],by simp[e7],by simp,⟨X,Y,G,?_⟩,?_,aa.ak _ _ _,C.beside (by simp[aa.del,K,aL]) (λe=>by obtain⟨_,_,q⟩:=C.aV e;rw[Q]at q;cases q),by simp[b3],?_,?_⟩
       . rw[aa.ai _ _ (za K)];exact F _ _ ((aa.ai _ _ (za a9)).trans E)
       . rw[aa.ai _ _ (za S)];exact F _ _ ((aa.ai _ _ (za ad)).trans q4)
       . rw[abl]
         exact⟨a7,by simp,λx hx y p=>by simp at p;subst p;exact λe=>av (e ▸ hx)⟩
       . intro d hd
         rcases List.mem_append.1 hd with hd|hd
         . obtain⟨p1,p2,p3,p4,p5⟩:=b0 d hd
           have b5:d≠b:=λe=>av (e ▸ hd)
           exact⟨p1,p2,p3,p4,by rw[aa.ai _ _ p4];exact F _ _ ((aa.ai _ _ b5).trans p5)⟩
         . simp at hd
           subst hd;exact⟨bx,a9,ad,al,by rw[aa.ai _ _ al];exact F _ _ (aa.ak _ _ _)⟩))
   . ((
       refine sY lay rfl dh rfl qM rfl (by decide) rfl rfl (n:=sp) (by simp[H]) (by simp[H]) ⟨by omega,by omega⟩ λb U=>?_
       obtain⟨bx,a9,ad,al,b4,av⟩:=fresh b U;have up:=u.up (aa.rH (x:=.cells (List.replicate sp (int 0))) (aa.le_refl _) U);have b1:(σ'.set b (.cells (List.replicate sp (int 0)))) w=some (.cells [.lit (.slice none 0 0),a,int 0,int 0,int cQ,int aX]):=(aa.ai _ _ b4).trans V;refine pg ?_;simp[D,H,b1,L.1,L.2]))
     refine⟨?_,?_⟩
     . ((
         refine aK lay rfl rfl rfl nf rfl nf rfl dh (by decide) (by simp;omega) (σ0:=(σ'.set b (.cells (List.replicate sp (int 0)))).off a) (es:=rs.map λb:Nat=>AV.gW b 0 sp sp) (xs:=[AV.gW b 0 sp sp]) (by simpa using up.here.1) (.inr ⟨_,by simp;rfl⟩) λa' g t=>?_
         have B:=t.cells;have F:∀y l,(σ'.set b (.cells (List.replicate sp (int 0)))) y=some (.cells l)->g y=some (.cells l):=λy l p=>t.1 _ _ (by rw[aa.dO (ea _ up y l p)];exact p)
         have Q:=F _ _ b1;refine pg ?_;simp[D,Q,B.1,B.2,aJ];refine rn ?_;simp[e8,f1.1,f1.2];obtain⟨X,Y,G,E⟩:=I
         have C:Tok (σ.del c) g a' 1 ((rs++[b]).map λb:Nat=>AV.gW b 0 sp sp):=by have:=t.base up.here.2;simpa using this
         refine ih _ g1 ⟨_,_,a',rs++[b],rfl,by simp[J],by simp[e1],by simp[T],by simp[D],by simp[H],by simp[e7],by simp,⟨X,Y,G,?_⟩,?_,aa.ak _ _ _,C.beside (by simp[aa.del,K,aL]) (λe=>by obtain⟨_,_,q⟩:=C.aV e;rw[Q]at q;cases q),by simp[b3],?_,?_⟩
         . rw[aa.ai _ _ (za K)];exact F _ _ ((aa.ai _ _ (za a9)).trans E)
         . rw[aa.ai _ _ (za S)];exact F _ _ ((aa.ai _ _ (za ad)).trans q4)
         . rw[abl]
           exact⟨a7,by simp,λx hx y p=>by simp at p;subst p;exact λe=>av (e ▸ hx)⟩
         . intro d hd
           rcases List.mem_append.1 hd with hd|hd
           . obtain⟨p1,p2,p3,p4,p5⟩:=b0 d hd
             have b5:d≠b:=λe=>av (e ▸ hd)
             exact⟨p1,p2,p3,p4,by rw[aa.ai _ _ p4];exact F _ _ ((aa.ai _ _ b5).trans p5)⟩
           . simp at hd
             subst hd;exact⟨bx,a9,ad,al,by rw[aa.ai _ _ al];exact F _ _ (aa.ak _ _ _)⟩))
     . ((
         refine aK lay rfl rfl rfl nf rfl nf rfl dh (by decide) (by simp;omega) (σ0:=(σ'.set b (.cells (List.replicate sp (int 0)))).off a) (es:=rs.map λb:Nat=>AV.gW b 0 sp sp) (xs:=[AV.gW b 0 sp sp]) (by simpa using up.here.1) (.inr ⟨_,by simp;rfl⟩) λa' g t=>?_
         have B:=t.cells;have F:∀y l,(σ'.set b (.cells (List.replicate sp (int 0)))) y=some (.cells l)->g y=some (.cells l):=λy l p=>t.1 _ _ (by rw[aa.dO (ea _ up y l p)];exact p)
         have Q:=F _ _ b1;refine pg ?_;simp[D,Q,B.1,B.2,aJ];refine rn ?_;simp[e8,f1.1,f1.2];obtain⟨X,Y,G,E⟩:=I
         have C:Tok (σ.del c) g a' 1 ((rs++[b]).map λb:Nat=>AV.gW b 0 sp sp):=by have:=t.base up.here.2;simpa using this
         refine ih _ g1 ⟨_,_,a',rs++[b],rfl,by simp[J],by simp[e1],by simp[T],by simp[D],by simp[H],by simp[e7],by simp,⟨X,Y,G,?_⟩,?_,aa.ak _ _ _,C.beside (by simp[aa.del,K,aL]) (λe=>by obtain⟨_,_,q⟩:=C.aV e;rw[Q]at q;cases q),by simp[b3],?_,?_⟩
         . rw[aa.ai _ _ (za K)];exact F _ _ ((aa.ai _ _ (za a9)).trans E)
         . rw[aa.ai _ _ (za S)];exact F _ _ ((aa.ai _ _ (za ad)).trans q4)
         . rw[abl]
           exact⟨a7,by simp,λx hx y p=>by simp at p;subst p;exact λe=>av (e ▸ hx)⟩
         . intro d hd
           rcases List.mem_append.1 hd with hd|hd
           . obtain⟨p1,p2,p3,p4,p5⟩:=b0 d hd
             have b5:d≠b:=λe=>av (e ▸ hd)
             exact⟨p1,p2,p3,p4,by rw[aa.ai _ _ p4];exact F _ _ ((aa.ai _ _ b5).trans p5)⟩
           . simp at hd
             subst hd;exact⟨bx,a9,ad,al,by rw[aa.ai _ _ al];exact F _ _ (aa.ak _ _ _)⟩))
 . have gd:sp=i:=by omega
   subst gd;clear ih b2 ei ej c9
   obtain⟨spr,rfl⟩:∃spr,a=.sl 1 (rs.map λb:Nat=>AV.gW b 0 sp sp) spr:=by
    rcases u.2 with⟨_,e⟩|e|⟨_,_,_,e,_⟩
    . have:=congrArg List.length e
      grind
    . simp_all
    simp_all
   have N:=u.1;clear u
   have bA:∀(j:Nat) (hj:j<rs.length),σ rs[j]=none/\rs[j]≠c/\rs[j]≠A/\rs[j]≠w:=λj hj=>by simp_all
   refine rn ?_;simp[H,e8]
   have o:∀(j:Nat) (hj:j<rs.length),σ' rs[j]=some (.cells (((List.replicate sp (List.replicate sp (0:Int))).getD j []).map int)):=λj hj=>by
    rw[(b0 _ (zD hj)).2.2.2.2]
    simp_all
   clear b0
   refine ab.loop sp (λi s=>∃env σ' M,s=⟨env,σ',[],.no⟩/\env 0=.ref c 0/\env 1=int cnt/\env 4=.ref A 0/\env 5=.ref w 0/\env 6=int sp/\env 7=int lo/\env 9=int i/\bj c nums (k+4+3*i) σ'/\σ' A=some (.cells fV)/\σ' w=some (.cells [.lit (.slice none 0 0),.sl 1 (rs.map λb:Nat=>AV.gW b 0 sp sp) spr,int 0,int 0,int cQ,int aX])/\
    (σ.del c).Le σ'/\He sp lo i 0 M/\∀(j:Nat) (hj:j<rs.length),σ' rs[j]=some (.cells ((M.getD j []).map int))) ⟨_,σ',_,rfl,by simp[J],by simp[e1],by simp[T],by simp[D],by simp[H],by simp[e7],by simp,I,q4,V,N,He.start sp lo,o⟩ ?_
   clear J e1 T D H e7 e8 I q4 V N o
   rintro c1 i _ gU ⟨env,σ',M,rfl,J,e1,T,D,H,e7,e9,I,q4,V,N,hM,o⟩ ih
   rcases ZU i sp with g2|g2
   . have Ev:(i:Int)<sp:=by omega
     refine rn ?_;simp[H,e9,Ev]
     refine ab.loop i (λj s=>∃env σ' M,s=⟨env,σ',[],.no⟩/\env 0=.ref c 0/\env 1=int cnt/\env 4=.ref A 0/\env 5=.ref w 0/\env 6=int sp/\env 7=int lo/\env 9=int i/\env 10=int j/\bj c nums (k+4+3*i+j) σ'/\σ' A=some (.cells fV)/\σ' w=some (.cells [.lit (.slice none 0 0),.sl 1 (rs.map λb:Nat=>AV.gW b 0 sp sp) spr,int 0,int 0,int cQ,int aX])/\
      (σ.del c).Le σ'/\He sp lo i j M/\∀(j:Nat) (hj:j<rs.length),σ' rs[j]=some (.cells ((M.getD j []).map int))) ⟨_,σ',M,rfl,by simp[J],by simp[e1],by simp[T],by simp[D],by simp[H],by simp[e7],by simp[e9],by simp,I,q4,V,N,hM,o⟩ ?_
     clear J e1 T D H e7 e9 I q4 V N hM o
     rintro c2 j _ hj ⟨env,σ',M,rfl,J,e1,T,D,H,e7,e9,bK,I,q4,V,N,hM,o⟩ ep
     rcases ZU j i with g3|g3
     . have GM:(j:Int)<i:=by omega
       have f1:-9223372036854775808<=(j:Int)+1/\(j:Int)+1<=9223372036854775807:=by omega
       have f2:-9223372036854775808<=2*lo/\2*lo<=9223372036854775807:=by omega
       refine rn ?_;simp[J,e7,e9,bK,GM,f2.1,f2.2];refine cf Tryz.func19 rfl (eH (by omega) hn ⟨by omega,by omega⟩ ⟨by omega,by omega⟩ I λv r hv hd=>?_)
       have s5:r w=some (.cells [.lit (.slice none 0 0),.sl 1 (rs.map λb:Nat=>AV.gW b 0 sp sp) spr,int 0,int 0,int cQ,int aX]):=by rw[hd.2 w K];exact V
       have s4:r A=some (.cells fV):=by rw[hd.2 A Z];exact q4
       have ca:i<rs.length:=by omega
       have cb:j<rs.length:=by omega
       obtain⟨z1,z2,z3,z4⟩:=bA i ca;obtain⟨y1,y2,y3,y4⟩:=bA j cb;have si:r rs[i]=some (.cells ((M.getD i []).map int)):=by rw[hd.2 _ z2];exact o i ca
       have sj:r rs[j]=some (.cells ((M.getD j []).map int)):=by rw[hd.2 _ y2];exact o j cb
       have gf:rs[i]≠rs[j]:=tj a7 (by omega)
       have et:=za gf;obtain⟨Ri,ev⟩:∃R,R=M.getD i []:=⟨_,rfl⟩;obtain⟨Rj,ey⟩:∃R,R=M.getD j []:=⟨_,rfl⟩;have li:=hM.row i (by omega)
       have lj:=hM.row j (by omega)
       rw[<-ev]at si li;rw[<-ey]at sj lj;have gj:j+1<=sp:=by omega
       have gl:i+1<=sp:=by omega
       have g4:j<sp:=by omega
       have gp:(j:Int)<sp:=by omega
       have eA:(i:Int)<sp:=by omega
       have hF:∀g,g=(r.set rs[i] (.cells ((Ri.map int).set j (int v)))).set rs[j] (.cells ((Rj.map int).set i (int v)))->bj c nums (k+4+3*i+(j+1)) g/\g A=some (.cells fV)/\g w=some (.cells [.lit (.slice none 0 0),.sl 1 (rs.map λb:Nat=>AV.gW b 0 sp sp) spr,int 0,int 0,int cQ,int aX])/\(σ.del c).Le g/\∀(l:Nat) (hl:l<rs.length),g rs[l]=some (.cells (((zh M i j v).getD l []).map int)):=λg e3=>by
        subst e3;refine⟨?_,?_,?_,λy x p=>?_,λl hl=>?_⟩
        . obtain⟨X,Y,G,E⟩:=hd.1
          exact⟨X,Y,by omega,by rw[aa.ai _ _ (za y2),aa.ai _ _ (za z2)];exact E⟩
        . rw[aa.ai _ _ (za y3),aa.ai _ _ (za z3)];exact s4
        . rw[aa.ai _ _ (za y4),aa.ai _ _ (za z4)];exact s5
        . have w1:y≠c:=λe=>by subst e;simp[aa.del]at p
          have w0:σ y=some x:=by simpa[aa.del,w1]using p
          have w2:y≠rs[i]:=λe=>by rw[e,z1]at w0;cases w0
          have w3:y≠rs[j]:=λe=>by rw[e,y1]at w0;cases w0
          rw[aa.ai _ _ w3,aa.ai _ _ w2,hd.2 y w1];exact N y x p
        . rw [Ao (by rw[hM.len];omega) (by rw[hM.len];omega) (by omega),<-ev,<-ey]
          by_cases q1:l=j
          . subst q1
            rw[if_pos rfl,aa.ak,abe]
          . rw[if_neg q1,aa.ai _ _ (tj a7 q1)]
            by_cases q2:l=i
            . subst q2
              rw[if_pos rfl,aa.ak,abe]
            . rw[if_neg q2,aa.ai _ _ (tj a7 q2),hd.2 _ (bA l hl).2.1]
              exact o l hl
       have O:=hF _ rfl;clear hF;refine rn ?_;simp[D,e9,bK,s5,b3,g2,g4,gp,eA,gj,gl,li,lj,si,sj,aa.ai,et];refine⟨?_,?_⟩
       . refine rn ?_
         simp[bK,f1.1,f1.2];exact ep _ g3 ⟨_,_,zh M i j v,rfl,by simp[J],by simp[e1],by simp[T],by simp[D],by simp[H],by simp[e7],by simp[e9],by simp,O.1,O.2.1,O.2.2.1,O.2.2.2.1,hM.next (by omega) g3 ⟨hv.1,by omega⟩,O.2.2.2.2⟩
       . refine rn ?_
         simp[bK,f1.1,f1.2];exact ep _ g3 ⟨_,_,zh M i j v,rfl,by simp[J],by simp[e1],by simp[T],by simp[D],by simp[H],by simp[e7],by simp[e9],by simp,O.1,O.2.1,O.2.2.1,O.2.2.2.1,hM.next (by omega) g3 ⟨hv.1,by omega⟩,O.2.2.2.2⟩
     . have gw:i=j:=by omega
       subst gw;have f1:-9223372036854775808<=(i:Int)+1/\(i:Int)+1<=9223372036854775807:=by omega
       refine rn ?_;simp[e9,bK,f1.1,f1.2];exact ih _ g2 ⟨_,_,M,rfl,by simp[J],by simp[e1],by simp[T],by simp[D],by simp[H],by simp[e7],by simp,I.mono (by omega),q4,V,N,hM.line,o⟩
   . have gx:sp=i:=by omega
     subst gx;clear ih;have eB:∀l,l<rs.length->(M.getD l []).length=sp:=λl hl=>hM.row l (by omega)
     have eK:w∉rs:=λe=>by
      obtain⟨l,hl,e'⟩:=List.mem_iff_getElem.1 e
      grind
     have aC:rs.map (λb:Nat=>AV.gW b 0 sp sp)=iR rs M sp 0:=by
      apply List.ext_getElem?;intro l
      by_cases hl:l<rs.length
      . rw[oJ hl,if_neg (by omega),ZT,zU hl]
        grind
      . rw[aaj (by simp_all),aaj (by rw[oI];omega)]
     have aE:iR rs M sp rs.length=M.map ints:=by
      have gA:=hM.len;apply List.ext_getElem?;intro l
      by_cases hl:l<rs.length
      . have gB:l<M.length:=by omega
        rw[oJ hl,if_pos hl,ZT,zU gB]
        simp_all
      . rw[aaj (by rw[oI];omega),aaj (by simp_all)]
     rw[aC]at V;refine DK (d:=w) (n:=sp) (at_:=1) (rs:=rs) (M:=M) (cs:=[.lit (.slice none 0 0),.cE,int 0,int 0,int cQ,int aX]) (spr:=spr) σ' a7 eB (by simp) eK (λg eN eR=>?_) rs.length 0 (by omega) σ' (by simp_all) (λl hl _=>o l hl) (λ_ _ _=>rfl)
     rw[aE]at eN;have gI:=hM.fin;have gA:=hM.len
     have F:∀(j:Nat),j≠w->(∀(l:Nat) (hl:l<rs.length),rs[l]≠j)->g j=σ' j:=λj h1 h2=>eR j h1 λe=>by
      obtain⟨l,hl,e'⟩:=List.mem_iff_getElem.1 e
      grind
     have eW:bj c nums (k+4+3*sp) g:=by obtain⟨X,Y,G,E⟩:=I;exact⟨X,Y,G,by grind⟩
     have eX:g A=some (.cells fV):=by grind
     have fc:g w=some (.cells [.lit (.slice none 0 0),.sl 1 (M.map ints) spr,int 0,int 0,int cQ,int aX]):=by grind
     have cg:(σ.del c).Le g:=λy x p=>by
      have w1:y≠c:=λe=>by subst e;simp[aa.del]at p
      have w0:σ y=some x:=by simpa[aa.del,w1]using p
      rw[F y (λe=>by grind) (λl hl e=>by grind)]
      exact N y x p
     clear eN eR o aC aE I q4 V N hM eB eK F bA a7 b3;refine rn ?_;simp[J,H,e9];refine cf Tryz.func18 rfl (fa (by omega) hn ⟨by omega,by omega⟩ eW λfr aO h3 b6=>?_)
     refine rn ?_;simp[J];refine cf Tryz.func19 rfl (eH (by omega) hn ⟨by omega,by omega⟩ ⟨by omega,by omega⟩ b6.1 λto bB h6 b7=>?_)
     have Q:bB w=some (.cells [.lit (.slice none 0 0),.sl 1 (M.map ints) spr,int 0,int 0,int cQ,int aX]):=by rw[b7.2 w K,b6.2 w K];exact fc
     refine rn ?_;simp[J,e1,D,Q,aJ];have t4:bB A=some (.cells fV):=by rw[b7.2 A Z,b6.2 A Z];exact eX
     have cm:(σ.del c).Le bB:=λy x p=>by
      have w1:y≠c:=λe=>by subst e;simp[aa.del]at p
      rw[b7.2 y w1,b6.2 y w1];exact cg y x p
     have fg:∀x,bj c nums (k+6+3*sp) (bB.set w x):=λx=>by obtain⟨n,z,h1,h2⟩:=b7.1;exact⟨n,z,by omega,by rw[aa.ai _ _ (za K)];exact h2⟩
     refine cf Tryz.func18 rfl (fa (by omega) hn ⟨by omega,by omega⟩ (fg _) λq c6 h7 b8=>?_)
     refine rn ?_;simp;have u5:c6 w=some (.cells [.lit (.slice none 0 0),.sl 1 (M.map ints) spr,int fr,int to,int cQ,int aX]):=by rw[b8.2 w K,aa.ak]
     have u4:c6 A=some (.cells fV):=by rw[b8.2 A Z,aa.ai _ _ (za S)];exact t4
     have cv:(σ.del c).Le c6:=λy x p=>by
      have w1:y≠c:=λe=>by subst e;simp[aa.del]at p
      have w0:σ y=some x:=by simpa[aa.del,w1]using p
      rw[b8.2 y w1,aa.ai _ _ (λe=>by simp_all)];exact cm y x p
     obtain⟨qn,rfl⟩:∃qn:Nat,q=(qn:Int):=⟨q.toNat,by omega⟩
     have h8:(qn:Int)<=cnt:=by omega
     have dj:=b8.1;clear b6 b7 b8 fg eW eX fc cg cm Q t4
     refine ab.loop qn (λi s=>∃env σ' a es,s=⟨env,σ',[],.no⟩/\env 0=.ref c 0/\env 4=.ref A 0/\env 5=.ref w 0/\env 6=int sp/\env 13=int ((qn:Int)-i)/\bj c nums (k+7+3*sp+11*i) σ'/\σ' A=some (.cells fV)/\σ' w=some (.cells [a,.sl 1 (M.map ints) spr,int fr,int to,int cQ,int aX])/\
      Tok (σ.del c) σ' a 6 (es.map br)/\es.length=i/\(∀e∈es,ye sp e)/\(es=[]->a=.lit (.slice none 0 0))) ⟨_,c6,.lit (.slice none 0 0),[],rfl,by simp[J],by simp[T],by simp[D],by simp[H],by simp,dj.mono (by omega),u4,u5,⟨cv,.inl ⟨rfl,rfl⟩⟩,rfl,by simp,λ_=>rfl⟩ ?_
     clear J e1 T D H e7 e9 dj u4 u5 cv
     rintro c3 i _ h9 ⟨env,σ',a,es,rfl,J,T,D,H,b9,c7,q4,V,u,eb,ec,fi⟩ ih
     have L:=u.cells;have bm:∀a8:aa,Tok (σ.del c) a8 a 6 (es.map br)->∀y l,a8 y=some (.cells l)->bp a≠some y:=λa8 hx y l p e=>by obtain⟨_,_,q⟩:=hx.aV e;grind
     have fl:∃l,σ' c=some (.cells l):=by obtain⟨_,_,_,q⟩:=c7;grind
     rcases ZU i qn with g1|g1
     . have f1 : -9223372036854775808<=(qn:Int)-i-1/\(qn:Int)-i-1<=9223372036854775807:=by omega
       refine rn ?_;simp[J,D,H,b9,V,g1];refine⟨?_,?_⟩
       . ((
           refine cf Tryz.func84 rfl (oE (by omega) hn ⟨by omega,by omega⟩ c7 λe r he hd=>?_)
           have s5:r w=some (.cells [a,.sl 1 (M.map ints) spr,int fr,int to,int cQ,int aX]):=by rw[hd.2 w K];exact V
           have s4:r A=some (.cells fV):=by rw[hd.2 A Z];exact q4
           have P:Tok (σ.del c) r a 6 (es.map br):=qD u (by simp[aa.del]) fl hd.2
           refine pg ?_;simp[D,s5,L.1,L.2]))
         ((
           refine aK lay rfl rfl rfl na rfl na rfl ze (by decide) (by simp;omega) (σ0:=r.off a) (es:=es.map br) (xs:=[br e]) (by simpa using P.here.1) (.inr ⟨_,by simp;rfl⟩) λa' g t=>?_
           have B:=t.cells;have F:∀y l,r y=some (.cells l)->g y=some (.cells l):=λy l p=>t.1 _ _ (by rw[aa.dO (bm _ P y l p)];exact p)
           have Q:=F _ _ s5;have t4:=F _ _ s4;refine pg ?_;simp[D,Q,B.1,B.2,aJ];refine rn ?_;simp[b9,f1.1,f1.2];obtain⟨X,Y,G,E⟩:=hd.1
           have C:Tok (σ.del c) g a' 6 ((es++[e]).map br):=by have:=t.base P.here.2;simpa using this
           refine ih _ g1 ⟨_,_,a',es++[e],rfl,by simp[J],by simp[T],by simp[D],by simp[H],by simp;omega,⟨X,Y,by omega,?_⟩,?_,aa.ak _ _ _,C.beside (by simp[aa.del,K,aL]) (λe=>by obtain⟨_,_,q⟩:=C.aV e;rw[Q]at q;cases q),by simp[eb],?_,λe=>by simp at e⟩
           . rw[aa.ai _ _ (za K)];exact F _ _ E
           . rw[aa.ai _ _ (za S)];exact t4
           . intro x hx
             rcases List.mem_append.1 hx with hx|hx
             . exact ec x hx
             . simp at hx;subst hx;exact he))
       . ((
           refine cf Tryz.func84 rfl (oE (by omega) hn ⟨by omega,by omega⟩ c7 λe r he hd=>?_)
           have s5:r w=some (.cells [a,.sl 1 (M.map ints) spr,int fr,int to,int cQ,int aX]):=by rw[hd.2 w K];exact V
           have s4:r A=some (.cells fV):=by rw[hd.2 A Z];exact q4
           have P:Tok (σ.del c) r a 6 (es.map br):=qD u (by simp[aa.del]) fl hd.2
           refine pg ?_;simp[D,s5,L.1,L.2]))
         refine⟨?_,?_⟩
         . ((
             refine aK lay rfl rfl rfl na rfl na rfl ze (by decide) (by simp;omega) (σ0:=r.off a) (es:=es.map br) (xs:=[br e]) (by simpa using P.here.1) (.inr ⟨_,by simp;rfl⟩) λa' g t=>?_
             have B:=t.cells;have F:∀y l,r y=some (.cells l)->g y=some (.cells l):=λy l p=>t.1 _ _ (by rw[aa.dO (bm _ P y l p)];exact p)
             have Q:=F _ _ s5;have t4:=F _ _ s4;refine pg ?_;simp[D,Q,B.1,B.2,aJ];refine rn ?_;simp[b9,f1.1,f1.2];obtain⟨X,Y,G,E⟩:=hd.1
             have C:Tok (σ.del c) g a' 6 ((es++[e]).map br):=by have:=t.base P.here.2;simpa using this
             refine ih _ g1 ⟨_,_,a',es++[e],rfl,by simp[J],by simp[T],by simp[D],by simp[H],by simp;omega,⟨X,Y,by omega,?_⟩,?_,aa.ak _ _ _,C.beside (by simp[aa.del,K,aL]) (λe=>by obtain⟨_,_,q⟩:=C.aV e;rw[Q]at q;cases q),by simp[eb],?_,λe=>by simp at e⟩
             . rw[aa.ai _ _ (za K)];exact F _ _ E
             . rw[aa.ai _ _ (za S)];exact t4
             . intro x hx
               rcases List.mem_append.1 hx with hx|hx
               . exact ec x hx
               . simp at hx;subst hx;exact he))
         . ((
             refine aK lay rfl rfl rfl na rfl na rfl ze (by decide) (by simp;omega) (σ0:=r.off a) (es:=es.map br) (xs:=[br e]) (by simpa using P.here.1) (.inr ⟨_,by simp;rfl⟩) λa' g t=>?_
             have B:=t.cells;have F:∀y l,r y=some (.cells l)->g y=some (.cells l):=λy l p=>t.1 _ _ (by rw[aa.dO (bm _ P y l p)];exact p)
             have Q:=F _ _ s5;have t4:=F _ _ s4;refine pg ?_;simp[D,Q,B.1,B.2,aJ];refine rn ?_;simp[b9,f1.1,f1.2];obtain⟨X,Y,G,E⟩:=hd.1
             have C:Tok (σ.del c) g a' 6 ((es++[e]).map br):=by have:=t.base P.here.2;simpa using this
             refine ih _ g1 ⟨_,_,a',es++[e],rfl,by simp[J],by simp[T],by simp[D],by simp[H],by simp;omega,⟨X,Y,by omega,?_⟩,?_,aa.ak _ _ _,C.beside (by simp[aa.del,K,aL]) (λe=>by obtain⟨_,_,q⟩:=C.aV e;rw[Q]at q;cases q),by simp[eb],?_,λe=>by simp at e⟩
             . rw[aa.ai _ _ (za K)];exact F _ _ E
             . rw[aa.ai _ _ (za S)];exact t4
             . intro x hx
               rcases List.mem_append.1 hx with hx|hx
               . exact ec x hx
               . simp at hx;subst hx;exact he))
     . have gC:i=qn:=by omega
       subst gC;refine rn ?_;simp[T,D,b9,V,L.2,q4,aJ];obtain⟨X,Y,G,E⟩:=c7;obtain⟨f,hf⟩:∃f:Fr,f=⟨es,M,fr,to,cQ,aX⟩:=⟨_,rfl⟩
       have gD:uz cnt f:=by
        subst hf;refine⟨eg,dy,by grind,⟨lo,fx,by grind⟩,by grind,by grind,by grind,λe he=>?_⟩
        grind
       obtain⟨a2,gG,ha⟩:∃a2,((f.aD=[]->a2=.lit (.slice none 0 0))/\(f.aD≠[]->a2=jw f.aD))/\a.W a2:=by
        by_cases e:es=[]
        . exact⟨_,⟨λ_=>rfl,λe2=>absurd (by grind) e2⟩,by rw[fi e];exact .refl _⟩
        . exact⟨_,⟨λe2=>absurd (by grind) e,λ_=>rfl⟩,by subst hf;exact u.W⟩
       refine .n8 (a':=.agg [a2,rows f.roads,int f.aR,int f.eS,int f.cQ,int f.aX]) (pS (by grind) λi x y x1 x2=>?_) (.less (σ':=σ.set c (.cells [ints nums,int X,.lit (.int .u64 Y)])) (λy x p=>?_) (.done (h f a2 _ gD ⟨⟨X,Y,by omega,aa.ak _ _ _⟩,λy p=>aa.ai _ _ p⟩ gG)))
       . subst hf
         match i with
         |0=>grind
         |1=>simp at x1 x2;subst x1;subst x2;exact ik 1 _ spr
         |2=>simp at x1 x2;subst x1;subst x2;exact .refl _
         |3=>simp at x1 x2;subst x1;subst x2;exact .refl _
         |4=>simp at x1 x2;subst x1;subst x2;exact .refl _
         |5=>simp at x1 x2;subst x1;subst x2;exact .refl _
         |i+6=>simp at x1
       . by_cases y1:y=c
         . subst y1
           rw[aa.ak]at p;rw[aa.ai _ _ n4,E];exact p
         . rw[aa.ai _ _ y1]at p
           have y4:y≠A:=λe=>by grind
           rw[aa.ai _ _ y4];exact u.1 y x (by simpa[aa.del,y1]using p)
end
end
open Go.bQ Go.Conc
def Jo(low top:Int):acp:=(List.range (top+1-low).toNat).map λi:Nat=>low+i
def dD(i:Nat)(l:acp):Int:=if i=0 then 0 else l.getD (i-1) 0+1
def aW(n k:Int)(i:Nat)(l:acp):abG:=(Jo (dD i l) (n-k+i)).map λy=>l++[y]
def eI(n k:Int):Nat->abG
 |0=>[[]]
 |i+1=>(eI n k i).flatMap (aW n k i)
def BR(n:Int)(k:Nat):abG:=eI n k k
structure YC(n:Int)(i:Nat)(l:acp):Prop where
 len:l.length=i
 mem:∀x∈l,0<=x/\x<n
 YD:∀a b,a<b->b<i->l.getD a 0<l.getD b 0
theorem pT{n k:Int}:∀(i:Nat),(i:Int)<=k->∀l∈eI n k i,YC n i l
 |0,_,l,d=>by simp[eI]at d;subst d;exact⟨rfl,by simp,λa b w z=>by omega⟩
 | i + 1,A,l,d=>by
   unfold eI at d;obtain⟨p,u,q⟩:=List.mem_flatMap.1 d;have c:=pT i (by omega) p u
   unfold aW at q;obtain⟨y,r,rfl⟩:=List.mem_map.1 q;unfold Jo at r;obtain⟨t,s,rfl⟩:=List.mem_map.1 r;have s:=List.mem_range.1 s
   have f:0<=dD i p/\∀a,a<i->p.getD a 0<dD i p:=by
    unfold dD;split
    . exact⟨by omega,λa h=>by omega⟩
    . next B=>
      have g:i-1<p.length:=by rw[c.len];omega
      have v:p.getD (i-1) 0∈p:=by rw[zA,zU g];exact zD g
      have:=c.mem _ v;refine⟨by omega,λa C=>?_⟩
      by_cases e:a=i-1
      . subst e;omega
      . have:=c.YD a (i-1) (by omega) (by omega);omega
   have hlen:=c.len;refine⟨by simp[hlen],λx hx=>?_,λa b j hb=>?_⟩
   . rcases List.mem_append.1 hx with hx|hx
     . exact c.mem x hx
     . simp at hx;subst hx;omega
   . by_cases e:b=i
     . subst e
       have m:(p++[dD b p+t]).getD b 0=dD b p+t:=by rw[zA,ZK (by omega),hlen];simp
       have o:(p++[dD b p+t]).getD a 0=p.getD a 0:=by rw[zA,ZS (by omega),<-List.getD_eq_getElem?_getD]
       rw[m,o];have:=f.2 a j;omega
     . have m:(p++[dD i p+t]).getD b 0=p.getD b 0:=by
        rw[zA,ZS (by omega),<-List.getD_eq_getElem?_getD]
       have o:(p++[dD i p+t]).getD a 0=p.getD a 0:=by rw[zA,ZS (by omega),<-List.getD_eq_getElem?_getD]
       rw[m,o];exact c.YD a b j (by omega)
theorem pU{n k:Int}(f:n<=6):∀(i:Nat),(i:Int)<=k->(eI n k i).length<=7 ^ i
 |0,_=>by simp[eI]
 | i + 1, j=>by
   have b:=pU (k:=k) f i (by omega)
   unfold eI
   have:∀ l:abG,(∀x∈l,YC n i x)->(l.flatMap (aW n k i)).length<=l.length*7:=λl=>by
    induction l with
    |nil=>intro _;simp
    | cons x l b=>
      intro c;rw[aaD,Rp,ZQ];have d:=b λy g=>c y (by simp[g])
      have m:(aW n k i x).length<=7:=by
       have e:=c x (by simp)
       unfold aW Jo;rw[ZE,ZE,aaw]
       have:0<=dD i x:=by
        unfold dD;split
        . omega
        . have a:i-1<x.length:=by rw[e.len];omega
          have h:x.getD (i-1) 0∈x:=by rw[zA,zU a];exact zD a
          have:=e.mem _ h;omega
       omega
      omega
   have d:=this _ (pT (n:=n) (k:=k) i (by omega))
   rw[Nat.pow_succ];exact KD d (ZZ _ b)
theorem tk(low top:Int):(Jo low top).length=(top+1-low).toNat:=by unfold Jo;rw[ZE,aaw]
theorem tp{n k:Int}{i:Nat}{l:acp}{j:Nat}(h:dD i l+j<=n-k+i):(aW n k i l).take (j+1)=(aW n k i l).take j++[l++[dD i l+j]]:=by
 have a:j<(aW n k i l).length:=by unfold aW;rw[ZE,tk];omega
 rw[zs a];congr 2;simp only[aW,Jo,aaR,List.getElem_range]
theorem vo{n k:Int}{i:Nat}{l:acp}{j:Nat}(h:¬dD i l+j<=n-k+i):(aW n k i l).take j=aW n k i l:=by apply aag;unfold aW;rw[ZE,tk];omega
theorem M9{f:Fr}(b:f.Good)(e:mN):bV f e≠[]:=by
 unfold bV iX;have:=b.le;by_cases a:e.jG=0
 . simp[a]
 . have c:(f.eS-f.aR+1).toNat=(f.eS-f.aR).toNat+1:=by omega
   rw[if_pos a,c,List.range_succ_eq_map];split<;>simp
def Na(f:Fr)(l:acp):acp:=(bV f (aQ f (l.getD 0 0))).filter λh=>l.all λj=>decide (h∈bV f (aQ f j))
theorem DL{f:Fr}{l:acp}(b:l≠[]):fZ f l=Na f l:=by
 match l,b with
 | a::r,_=>
   simp only[fZ,Na,iI,aaT,List.getD_cons_zero];refine aaA λx c=>?_
   simp[c]
section
variable{k:Int->Int}
abbrev DN(k:Int->Int):abM:=λa b=>decide (k a<k b)
def Dn(k:Int->Int)(r:acp):Prop:=r.Pairwise λy z=>k z<=k y
theorem DO(x:Int):∀{r:acp},(∀z∈r,k z<=k x)->eG (DN k) x r=x::r
 |[],_=>rfl
 | y::r,h=>by
   unfold eG
   grind
theorem Ap(x:Int):∀{r:acp}{z:Int},z∈eG (DN k) x r->z=x\/z∈r
 |[],z,h=>by simp[eG]at h;exact .inl h
 | y :: r,z,h=>by
   unfold eG at h;split at h
   . rcases List.mem_cons.1 h with rfl|h
     . simp_all
     . rcases Ap x h with h|h
       . exact .inl h
       simp_all
   simp_all
theorem v8(x:Int):∀{r:acp},Dn k r->Dn k (eG (DN k) x r)
 |[],_=>by simp[eG,Dn]
 | y ::r,h=>by
   obtain⟨d,b⟩:=List.pairwise_cons.1 h;unfold eG;split
   . next q=>
     have c:k x<k y:=by simp_all
     refine List.pairwise_cons.2 ⟨λz a=>?_,v8 x b⟩;rcases Ap x a with rfl|a
     . omega
     simp_all
   . next q=>
     have c:¬k x<k y:=by simp_all
     refine List.pairwise_cons.2 ⟨λz a=>?_,h⟩
     grind
theorem BS{x y:Int}{r:acp}(h:k x<k y):eG (DN k) x (y::r)=y::eG (DN k) x r:=by simp[eG,DN,h]
theorem BT{x y:Int}{r:acp}(h:¬k x<k y):eG (DN k) x (y::r)=x::y::r:=by simp[eG,DN,h]
theorem DQ(x:Int):∀r:acp,r.Sublist (eG (DN k) x r)
 |[]=>List.nil_sublist _
 | y::r=>by
   unfold eG;split
   . exact(DQ x r).cons_cons y
   simp_all
theorem Nb(x:Int){d r:acp}(a:d.Sublist r)(hd:Dn k r):(eG (DN k) x d).Sublist (eG (DN k) x r):=by
 induction a with
 |slnil=>simp_all
 | cons y a b=>
   obtain⟨e,c⟩:=List.pairwise_cons.1 hd;by_cases q:k x<k y
   . rw[BS q]
     exact(b c).cons y
   . rw[BT q,DO x (λz f=>by grind)]
     simp_all
 | cons_cons y a b=>
   obtain⟨e,c⟩:=List.pairwise_cons.1 hd;by_cases q:k x<k y
   . rw[BS q,BS q]
     exact(b c).cons_cons y
   . rw[BT q,BT q]
     simp_all
theorem Jp{d l:acp}(b:d.Sublist l):∀{a r:acp},a.Sublist r->Dn k r->(d.foldl (λr x=>eG (DN k) x r) a).Sublist (l.foldl (λr x=>eG (DN k) x r) r):=by
 induction b with
 |slnil=>simp_all
 |cons x b c=>intro a r h hd;exact c (h.trans (DQ x r)) (v8 x hd)
 |cons_cons x b c=>intro a r h hd;exact c (Nb x h hd) (v8 x hd)
end
theorem mR(f:Fr)(l:acp):aZ f l=(eU (DN λn=>(aQ f n).hour) l).reverse:=by
 unfold aZ;congr 2;funext a b;unfold uy BL DN
 grind
theorem BU{f:Fr}{a l:acp}(b:a.Sublist l):(aZ f a).Sublist (aZ f l):=by rw[mR,mR];exact(Jp b (List.Sublist.refl _) List.Pairwise.nil).reverse
theorem tu{f:Fr}{l:acp}{n:Int}:n∈aZ f l↔n∈l:=by unfold aZ;rw[List.mem_reverse,uw]
theorem Rt:∀a:Fin 32,∀b:Fin 32,∀c:Fin 32,bM (a.val:Int) (c.val:Int)<=bM (a.val:Int) (b.val:Int)+bM (b.val:Int) (c.val:Int):=by decide +kernel
theorem lu{l:acp}(h:sZ none l=0):∃a:Fin 32,aY l=(a.val:Int):=by have:=kj (qC h);exact⟨⟨(aY l).toNat,by omega⟩,by grind⟩
def Fit(f:Fr)(a b:Int):Prop:=gQ f a b=false
theorem Fr.Good.Zw{f:Fr}(a:f.Good){i j k:Nat}(hi:i<f.roads.length)(hj:j<f.roads.length)(b:k<f.roads.length):rd f.roads i k<=rd f.roads i j+rd f.roads j k:=by
 have h:=a.JN;unfold fT at h;split at h
 . cases h
 split at h
 . cases h
 split at h
 . omega
 split at h
 . cases h
 next q=>
 simp only[abn,abf,not_exists,not_and]at q;have c:=q i hi k b;unfold dP at c
 grind
theorem gS{f:Fr}{n:Int}(h:0<=n/\n<f.aD.length):aQ f n∈f.aD:=by
 have:n.toNat<f.aD.length:=by omega
 rw[ti this]
 simp_all
theorem Aq{f:Fr}(d:f.Good){a b c:Int}(q:0<=a/\a<f.aD.length)(hb:0<=b/\b<f.aD.length)(r:0<=c/\c<f.aD.length)(e:Fit f a b)(g:Fit f b c):Fit f a c:=by
 have h:=o6 (d.te _ (gS q));have l:=o6 (d.te _ (gS hb));have m:=o6 (d.te _ (gS r));have hd:=d.cQ;obtain⟨A,n⟩:=lu h.2.2.2.2.2;obtain⟨B,o⟩:=lu l.2.2.2.2.2;obtain⟨C,p⟩:=lu m.2.2.2.2.2;have s:=Rt A B C;have t:=h.2.1;have u:=l.2.1;have pc:=m.2.1;have v:=d.Zw (i:=(aQ f a).place.toNat) (j:=(aQ f b).place.toNat) (k:=(aQ f c).place.toNat) (by omega) (by omega) (by omega);unfold Fit gQ at e g ⊢;rw[n,o]at e;rw[o,p]at g;rw[n,p];simp only[decide_eq_false_iff_not]at e g ⊢;have w:f.cQ*bM (A.val:Int) (C.val:Int)<=f.cQ*(bM (A.val:Int) (B.val:Int)+bM (B.val:Int) (C.val:Int)):=Int.mul_le_mul_of_nonneg_left s (by omega)
 grind
theorem yf(f:Fr)(a b:Int)(r:acp):dw f (a::b::r)=(gQ f a b||dw f (b::r)):=by
 unfold dw;rw[show(a::b::r).length-1=r.length+1 from rfl,List.range_succ_eq_map,List.any_cons,List.any_map];rfl
theorem uA{f:Fr}(e:f.Good):∀{l:acp},(∀n∈l,0<=n/\n<f.aD.length)->dw f l=false->l.Pairwise (Fit f)
 |[],_,_=>List.Pairwise.nil
 |[a],_,_=>List.pairwise_singleton _ _
 | a::b::r,d,h=>by
   rw[yf,aaW]at h;have g:=uA e (λn i=>d n (by simp[i])) h.2;refine List.pairwise_cons.2 ⟨λz j=>?_,g⟩;rcases List.mem_cons.1 j with rfl|c
   . exact h.1
   . exact Aq e (d a (by simp)) (d b (by simp)) (d z (by simp[c])) h.1 ((List.pairwise_cons.1 g).1 z c)
theorem qE{f:Fr}:∀{l:acp},l.Pairwise (Fit f)->dw f l=false
 |[],_=>rfl
 |[a],_=>rfl
 |a::b::r,h=>by obtain⟨c,d⟩:=List.pairwise_cons.1 h;rw[yf,qE d,Bool.or_false];exact c b (by simp)
theorem qF{f:Fr}{l:acp}(b:l≠[]){h:Int}:h∈fZ f l↔∀j∈l,h∈bV f (aQ f j):=by
 rw[DL b]
 match l,b with
 | a::r,_=>
   simp only[Na,aaX,ZP,decide_eq_true_eq]
   simp_all
theorem pV{f:Fr}{l:acp}:me f l=0↔dW f (aZ f l)=false/\cX f (aZ f l)=false/\dw f (aZ f l)=false:=by
 unfold me
 grind
theorem Ps{f:Fr}(m:f.Good){c l:acp}(o:c.Sublist l)(p:c≠[])(q:∀n∈l,0<=n/\n<f.aD.length)(h:me f l=0):me f c=0:=by
 obtain⟨s,g,t⟩:=pV.1 h;have i:=BU (f:=f) o
 have b:aZ f c≠[]:=λe=>by
  cases c with
  |nil=>grind
  |cons a r=>have:a∈aZ f (a::r):=tu.2 (by simp);simp_all
 have d:aZ f l≠[]:=λe=>b (by simp_all)
 have u:∀n∈aZ f l,0<=n/\n<f.aD.length:=λn v=>q n (tu.1 v)
 generalize aZ f l=S at *;refine pV.2 ⟨?_,?_,qE ((uA m u t).sublist i)⟩
 . generalize aZ f c=k at *
   unfold dW at s ⊢
   grind
 . generalize aZ f c=k at *
   unfold cX at g ⊢;simp only[decide_eq_false_iff_not]at g ⊢;obtain⟨x,w⟩:=aat _ g;have:x∈fZ f k:=(qF b).2 λj y=>(qF d).1 w j (i.subset y)
   grind
theorem Ru{f:Fr}(b:f.Good)(n:Int):me f [n]=0:=by
 have e:aZ f [n]=[n]:=by simp[aZ,eU,eG]
 refine pV.2 ?_;rw[e];refine⟨by simp[dW],?_,rfl⟩;unfold cX;simp only[decide_eq_false_iff_not];obtain⟨x,c⟩:=aat _ (M9 b (aQ f n));exact aaL ((qF (by simp)).2 (λj a=>by simp at a;subst a;exact c))
theorem Hf{α β:Type}{B:Nat}{g:α->List β}:∀(l:List α),(∀x∈l,(g x).length<=B)->(l.flatMap g).length<=l.length*B
 |[],_=>by simp
 | a::l,h=>by
   rw[aaD,Rp,ZQ,aaU,Nat.one_mul];have c:=h a (by simp);have d:=Hf l λx b=>h x (by simp[b])
   omega
theorem DR{f:Fr}(a:f.Good)(begun:acp):∀(fuel:Nat) (cS:acp) (many:Int) (b:acp),(fU f begun fuel cS many b).length<=6 ^ fuel
 |0,_,_,_=>by simp[fU]
 | fuel+1,cS,many,b=>by
   unfold fU;refine KD (Hf (B:=6 ^ fuel) _ λk _=>?_) ?_
   . split
     . simp
     split
     . exact DR a begun fuel _ _ _
     . simp
   . rw[aaw,Nat.pow_succ,Nat.mul_comm]
     have:=a.aX;exact Nat.mul_le_mul_left _ (by omega)
theorem BV{f:Fr}(a:f.Good)(begun:acp):(aH f begun).length<=46656:=by refine KD (DR a begun _ _ _ _) ?_;exact aav (by omega) a.qB
theorem mS(f:Fr)(begun:acp):∀(fuel:Nat) (cS:acp) (many:Int) (a:acp),begun.length<=cS.length->fU f begun fuel cS many a=fU f [] fuel cS many a
 |0,_,_,_,_=>rfl
 | fuel+1,cS,many,a,h=>by
   unfold fU;congr 1;funext k;have b:¬(cS.length<begun.length/\begun.getD cS.length 0≠(k:Int)):=by omega
   have c:¬(cS.length<([]:acp).length/\([]:acp).getD cS.length 0≠(k:Int)):=by simp
   rw[if_neg b,if_neg c];split
   . exact mS f begun fuel _ _ _ (by simp;omega)
   . rfl
theorem FU{f:Fr}(b:f.Good)(e:2<=f.aD.length):aH f []=aH f [0,0]++aH f [0,1]:=by
 obtain⟨n,c⟩:∃n,f.aD.length=n+2:=⟨f.aD.length-2,by omega⟩;have g:=b.aX;have d:(min ((0:Int)+1) f.aX).toNat=1:=by omega
 unfold aH;rw[c];unfold fU;rw[d];simp only[ZN,abu,aaZ,aaD,List.flatMap_nil,aab];simp;by_cases a:jM f (bU 0 0)=true
 . simp only[a,if_true]
   unfold fU;have e2:(min (max (0:Int) 1+1) f.aX).toNat=1\/(min (max (0:Int) 1+1) f.aX).toNat=2:=by omega
   rcases e2 with e2|e2
   . rw[e2]
     simp only[ZN,abu,aaZ,aaD,List.flatMap_nil,aab];simp;rw[mS f [0,0] n [0,0] _ _ (by simp)]
   . rw[e2]
     simp only[ZN,abu,aaZ];simp;rw[mS f [0,0] n [0,0] _ _ (by simp),mS f [0,1] n [0,1] _ _ (by simp)]
 . simp[a]
theorem Nc{f:Fr}(a:f.Good)(d:f.aD.length<2):aH f []≠[]:=by
 have e:=a.aX;have b:(min ((0:Int)+1) f.aX).toNat=1:=by omega
 have c:jM f (bU 0 0)=true:=by
  have:aB (bU 0 0)=[0]:=by decide +kernel
  unfold jM;rw[this,decide_eq_true_eq];exact Ru a 0
 rcases(show f.aD.length=0\/f.aD.length=1 by omega)with hn|hn
 . unfold aH;rw[hn];simp[fU]
 . unfold aH;rw[hn]
   unfold fU;rw[b];simp only[ZN,abu,aaZ,aaD,List.flatMap_nil,aab];simp[c,fU]
theorem FV{f:Fr}(a:f.Good)(b:2<=f.aD.length):gz f=((aH f []).length:Int):=by
 unfold gz;rw[if_neg (by omega),FU a b,Rp];omega
theorem uB{f:Fr}(a:f.Good):0<gz f↔aH f []≠[]:=by
 by_cases b:2<=f.aD.length
 . rw[FV a b]
   cases aH f []<;>simp
 . have:=Nc a (by omega)
   have e:gz f=1:=by unfold gz;omega
   simp_all
theorem yg{β:Type}{G:Nat->List β}{c:Nat}:∀d:Nat,(∀j,c<=j->j<c+d->G j=[])->(List.range (c+d)).flatMap G=(List.range c).flatMap G
 |0,_=>rfl
 | d+1,h=>by
   rw[<-Nat.add_assoc,ZN,aay,yg d λj a b=>h j a (by omega)]
   simp_all
theorem Ar{α β:Type}{f g:α->List β}{l:List α}(h:∀x∈l,f x=g x):l.flatMap f=l.flatMap g:=by rw[List.flatMap_def,List.flatMap_def,aba h]
