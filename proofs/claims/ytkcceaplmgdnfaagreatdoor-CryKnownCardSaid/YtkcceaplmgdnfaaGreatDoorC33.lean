import Derived.Test.YtkcceaplmgdnfaaGreatDoorC32
set_option linter.all false
namespace Go.Proofs.YtkcceaplmgdnfaaGreatDoor
open Go.Proofs.Tryz (prog)
open Go Go.bu Go.Conc
open Go.Extern
set_option maxHeartbeats 1000000
set_option maxRecDepth 4000
variable{m:Mo}{σ:aa}{KF:cJ->aa->Prop}
abbrev yO:AV:=.kD 105 (.agg [])
theorem Lv(h:KF (.val (bool false)) σ):aB prog m 56 [.lit .nilIface,yO] σ KF:=by
 refine fs [] 2 Tryz.func56 rfl rfl (by rfl) (by kernel_rfl) ?_;simp[Tryz.f56];refine cK lay rfl tJ rfl (.inl ⟨rfl,rfl⟩) (.inl ⟨rfl,rfl⟩) ?_;refine rn ?_;simp;refine kW (vx:=.nilIface) (vy:=.iface 105 (.agg #[])) (r:=.bool false) rfl (λk v a=>by simpa using wu.1 a) (λk v a=>V.Nm (by simpa using a)) (by kernel_rfl) ?_;refine rn ?_;simp;exact .done h
theorem Lw(h:Value):dW prog (Go.method (prog.types.size+Made.depth) 224 (.agg #[h])  "Comparable")=some (237,.agg #[h]):=by kernel_rfl
theorem NG(h:KF (.val (bool true)) σ):aB prog m 98 [yO,yO,bool true] σ KF:=by
 refine fs [] 3 Tryz.func98 rfl rfl (by rfl) (by kernel_rfl) ?_;simp[Tryz.f98];refine af.sF ?_;refine rn ?_;simp;refine kW (vx:=.iface 105 (.agg #[])) (vy:=.iface 105 (.agg #[])) (r:=.bool true) rfl (λk v a=>V.Nm (by simpa using a)) (λk v a=>V.Nm (by simpa using a)) (by kernel_rfl) ?_;refine rn ?_;simp;exact .done h
theorem FB(h:KF (.val (bool true)) σ):aB prog m 56 [yO,yO] σ KF:=by
 refine fs [] 2 Tryz.func56 rfl rfl (by rfl) (by kernel_rfl) ?_;simp[Tryz.f56];refine cK lay rfl tJ rfl (.inr ⟨⟨_,_,rfl⟩,rfl⟩) (.inl ⟨rfl,rfl⟩) ?_;refine rn ?_;simp;refine cK lay rfl tJ rfl (.inr ⟨⟨_,_,rfl⟩,rfl⟩) (.inl ⟨rfl,rfl⟩) ?_;refine rn ?_;simp;refine bz.ext Tryz.func97 rfl rfl (by kernel_rfl) (e:=ReflectliteType.typeOf) (by kernel_rfl) (tF.pure (v:=.iface 224 (.agg #[S3 105])) (a:=S4 105) (λk f d=>?_) (λk=>PL k _) ?_)
 . obtain⟨v,b,c⟩:=d.one
   subst b;rw[V.Nm c]
   kernel_rfl
 refine rn ?_;simp;refine af.Nl rfl rfl (bs rfl) (by simp) rfl (HM Lw) Tryz.func237 rfl rfl (by kernel_rfl) (e:=ReflectliteType.method λt=>do Rtype.noPackHeld  "Comparable" t;pure (.bool (<-typeInfo t).comparable)) (by kernel_rfl) (tF.pure (v:=.bool true) (a:=bool true) (λk f d=>?_) (λk=>.lit _) ?_)
 . obtain⟨v,b,c⟩:=d.one
   subst b;obtain⟨u,rfl,g⟩:=DJ.1 c;rw[wu.1 g]
   kernel_rfl
 refine rn ?_;simp;refine cf Tryz.func98 rfl (NG ?_);refine rn ?_;simp;exact .done h
theorem lR{w:bH}{fb mb c:Nat}(b:c<3)(h:if 72<cM w c then KF (.val (.bp [int 0,yO])) σ else KF (.val (.bp [int (cM w c),.lit .nilIface])) σ):aB prog m 55 [pw fb mb w 0,int c] σ KF:=by
 have:c=0\/c=1\/c=2:=by omega
 rcases this with rfl|rfl|rfl
 all_goals
  refine fs [] 2 Tryz.func55 rfl rfl (by rfl) (by kernel_rfl) ?_;simp[Tryz.f55];refine aG.intro (λa=>?_) (λa=>?_)<;>(try simp[-Int.not_lt,-Int.not_le,-Nat.not_lt,-Nat.not_le]at a)<;>(try simp[a]at h)<;>(try simp[a])<;>(try exact .done h)
 all_goals exact .done h
def pE(w:bH)(h:Int)(i:Int):Bool:=decide ((cx w.fair i).hour<=h)
def pC(w:bH)(h:Int)(i:Int):Bool:=decide (cM w i.toNat<=72) && decide (cM w i.toNat<=h)
def qk(w:bH)(h:Int):List Int:=(sL w.fair.aF.length).filter (pE w h)
def ql(w:bH)(h:Int):List Int:=(sL w.aD.length).filter (pC w h)
abbrev Ai(w:bH)(h:Int):AV:=.agg [u8 (aW (qk w h)),u8 (aW (ql w h))]
theorem Cl(k:Nat)(p:Int->Bool):(sL (k+1)).filter p=(sL k).filter p++if p k then[(k:Int)]else[]:=by
 unfold sL;rw[List.range_succ,List.map_append,List.filter_append]
 grind
theorem pU(l:List Int)(n:Int):aW (l++[n])=b0 (aW l) n:=by
 unfold aW
 simp_all
namespace CK
abbrev Uu:List Entry:=[⟨6,.take [0,1,2,3,4,5] true (.one 6 (.done))⟩,⟨13,.take [0,3,6] false (.both 1 (.one 2 (.take [4,5] true (.one 7 (.done)))) (.one 2 (.take [1,4,5] true (.one 7 (.done)))))⟩]
theorem sO{w:bH}{fb mb:Nat}{h:Int}(H:w.fair.aF.length<=6)(I:w.aD.length<=3)(z:KF (.val (Ai w h)) σ):aB prog m 59 [pw fb mb w 0,int h] σ KF:=by
 refine fs Uu 2 Tryz.func59 rfl rfl (by rfl) (by kernel_rfl) ?_
 simp[Tryz.f59];refine bq.intro λb hb=>?_
 simp;refine bq.intro λd hd=>?_
 obtain⟨J,A,hd⟩:=aa.aH hd;simp;refine af.loop w.fair.aF.length (λk s=>∃env,s=⟨env,(σ.set b (.cells [u8 0,u8 0])).set d (.cells [u8 (aW ((sL k).filter (pE w h))),u8 0]),[],.no⟩/\env 0=pw fb mb w 0/\env 1=int h/\env 4=.ref b 0/\env 5=.ref d 0/\env 16=iY w.fair.aF/\env 17=int w.fair.aF.length/\env 18=int k) ⟨_,rfl,by simp⟩ ?_
 rintro K k _ B ⟨env,rfl,i,j,n,g,vB,p,rU⟩ r
 refine af.runN lay [] 17 ?_;simp[p,rU];refine aG.intro (λo=>?_) (λo=>?_)<;>(try simp[-Int.not_lt,-Int.not_le,-Nat.not_lt,-Nat.not_le]at o)<;>(try simp[i,vB,rU,o])
 . have C:cx w.fair k=w.fair.aF[k]:=by simp[cx,o]
   refine bq.intro λq D=>?_
   obtain⟨L,M,E⟩:=aa.aH D;obtain⟨N,O,P⟩:=aa.aH E;simp
   change af _ _ _ _ _ _ _ _ _
   refine af.runN lay [] 2 ?_;simp
   change af _ _ _ _ _ _ _ _ _
   refine af.aV 7 (b:=q) (dw w.fair.aF[k]) (aa.ao _ _ _) (by simp) rfl ?_
   rw[dz (by omega)]
   refine rn ?_;simp[j];have a:=Cl k (pE w h);have t:pE w h k=decide (w.fair.aF[k].hour<=h):=by unfold pE;rw[C]
   refine aG.intro (λu=>?_) (λu=>?_)<;>(try simp[-Int.not_lt,-Int.not_le,-Nat.not_lt,-Nat.not_le]at u)<;>(try simp[g,rU,u,ry])
   . rw[t,show decide (w.fair.aF[k].hour<=h)=true by grind,if_pos rfl]at a
     refine rn ?_;simp[rU];refine⟨by omega,r _ (by omega) ⟨_,by rw[a,pU];rfl,by simp[i],by simp[j],by simp[n],by simp[g],by simp[vB],by simp[p],by simp⟩⟩
   . rw[t,show decide (w.fair.aF[k].hour<=h)=false by grind,if_neg (by simp),List.append_nil]at a
     refine⟨by omega,r _ (by omega) ⟨_,by rw[a],by simp[i],by simp[j],by simp[n],by simp[g],by simp[vB],by simp[p],by simp⟩⟩
 have ek:k=w.fair.aF.length:=by omega
 subst ek;rw[show (sL w.fair.aF.length).filter (pE w h)=qk w h from rfl]
 refine rn ?_;simp;refine af.loop w.aD.length (λk s=>∃env,s=⟨env,(σ.set b (.cells [u8 0,u8 0])).set d (.cells [u8 (aW (qk w h)),u8 (aW ((sL k).filter (pC w h)))]),[],.no⟩/\env 0=pw fb mb w 0/\env 1=int h/\env 4=.ref b 0/\env 5=.ref d 0/\env 39=int w.aD.length/\env 40=int k) ⟨_,rfl,by simp[i,j,n,g]⟩ ?_
 rintro v k _ B ⟨env,rfl,i,j,n,g,l,f⟩ r
 refine rn ?_;simp[l,f];refine aG.intro (λo=>?_) (λo=>?_)<;>(try simp[-Int.not_lt,-Int.not_le,-Nat.not_lt,-Nat.not_le]at o)<;>(try simp[i,n,g,f,o,A,aa.ak])
 . have a:=Cl k (pC w h)
   have t:pC w h k=(decide (cM w k<=72) && decide (cM w k<=h)):=rfl;refine cf Tryz.func55 rfl (lR (by omega) ?_)
   split
   . next u=>
     refine rn ?_;simp;refine cf Tryz.func56 rfl (FB ?_);refine rn ?_;simp[f];rw[t,show decide (cM w k<=72)=false by simp;omega,Bool.false_and,if_neg (by simp),List.append_nil]at a
     refine⟨by omega,r _ (by omega) ⟨_,by rw[a],by simp[i],by simp[j],by simp[n],by simp[g],by simp[l],by simp⟩⟩
   . next u=>
     refine rn ?_;simp;refine cf Tryz.func56 rfl (Lv ?_);refine rn ?_;simp[j];rw[t,show decide (cM w k<=72)=true by simp;omega,Bool.true_and]at a
     refine aG.intro (λy=>?_) (λy=>?_)<;>(try simp[-Int.not_lt,-Int.not_le,-Nat.not_lt,-Nat.not_le]at y)<;>(try simp[g,f,y])
     . rw[show decide (cM w k<=h)=true by grind,if_pos rfl]at a
       have:k=0\/k=1\/k=2:=by omega
       refine⟨?_,?_⟩
       all_goals
        refine cf Tryz.func101 rfl (Lj ?_)
        rcases this with rfl|rfl|rfl
       all_goals
        refine pg ?_;simp[ry];refine rn ?_;simp[f]
       all_goals exact r _ (by omega) ⟨_,by rw[a,pU];rfl,by simp[i],by simp[j],by simp[n],by simp[g],by simp[l],by simp⟩
     . rw[show decide (cM w k<=h)=false by grind,if_neg (by simp),List.append_nil]at a
       refine⟨by omega,r _ (by omega) ⟨_,by rw[a],by simp[i],by simp[j],by simp[n],by simp[g],by simp[l],by simp⟩⟩
 . have ek:k=w.aD.length:=by omega
   subst ek;rw[show(sL w.aD.length).filter (pC w h)=ql w h from rfl]
   refine .less (λc x F=>?_) (.done z)
   have v:c≠b:=λe=>by grind
   have G:c≠d:=λe=>by grind
   rw[aa.ak _ _ v,aa.ak _ _ G,aa.ak _ _ v];exact F
end CK
theorem oy{b o:Nat}{l:List AV}{n:Int}(a:σ b=some (.cells l))(c:l[o]?=some (.lit (.int .u32 n)))(h:KF (.val (bool (n !=0))) σ):aB prog m 178 [.ref b o] σ KF:=by
 refine fs [] 1 Tryz.func178 rfl rfl (by rfl) (by kernel_rfl) ?_;simp[Tryz.f178];refine bz.ext Tryz.func199 rfl rfl (by kernel_rfl) (e:=Atomic.loadT (.int .u32)) (by kernel_rfl) (DK (ns b o) a c ?_);refine rn ?_;simp;exact .done h
theorem PM(h:KF (.val (.lit (.int .u32 1))) σ):aB prog m 208 [bool true] σ KF:=by
 refine fs [] 1 Tryz.func208 rfl rfl (by rfl) (by kernel_rfl) ?_;simp[Tryz.f208];exact .done h
theorem Aj{b o:Nat}{l:List AV}(a:σ b=some (.cells l))(c:o<l.length)(h:KF (.val (.bp [])) (σ.set b (.cells (l.set o (.lit (.int .u32 1)))))):aB prog m 200 [.ref b o,bool true] σ KF:=by
 refine fs SG 2 Tryz.func200 rfl rfl (by rfl) (by kernel_rfl) ?_;simp[Tryz.f200];refine cf Tryz.func208 rfl (PM ?_);refine pg ?_;simp;refine bz.ext Tryz.func207 rfl rfl (by kernel_rfl) (e:=Atomic.storeT) (by kernel_rfl) (B0 (ns b o) a c ?_);refine pg ?_;simp;refine rn ?_;simp;exact .done h
theorem Cm{b:Nat}{l:List AV}{f:AV}(a:σ b=some (.cells l))(c:l[0]?=some (.lit (.int .u32 1)))(h:KF (.val (.bp [])) σ):aB prog m 146 [.ref b 0,f] σ KF:=by
 refine fs [] 2 Tryz.func146 rfl rfl (by rfl) (by kernel_rfl) ?_;simp[Tryz.f146];refine cf Tryz.func178 rfl (oy a c ?_);refine rn ?_;simp;exact .done h
theorem Cn(d:m.solo=true){b:Nat}{l:List AV}{f:AV}(c:σ b=some (.cells l))(e:l[0]?=some (.lit (.int .u32 0)))(g:l[1]?=some (.lit (.int .i32 0)))(h:l[2]?=some (.lit (.int .u32 0)))
 (i:∀K:cJ->aa->Prop,(∀σ' a,σ' b=some (.cells a)->a[0]?=some (.lit (.int .u32 0))->a[1]?=some (.lit (.int .i32 1))->a[2]?=some (.lit (.int .u32 0))->KF (.val (.bp [])) (σ'.set b (.cells ((a.set 0 (.lit (.int .u32 1))).set 1 (.lit (.int .i32 0)))))->K (.val (.bp [])) σ')->bz prog m f [] (σ.set b (.cells (l.set 1 (.lit (.int .i32 1))))) K):
 aB prog m 179 [.ref b 0,f] σ KF:=by
 refine fs [] 2 Tryz.func179 rfl rfl (by rfl) (by kernel_rfl) ?_
 simp[Tryz.f179];refine cf Tryz.func93 rfl (Dx yJ yK Ls d (ns b 1) c g h ?_);refine rn ?_;simp;refine af.defer rfl rfl rfl rfl (by simp) rfl ?_
 refine rn ?_;simp;have j:(σ.set b (.cells (l.set 1 (.lit (.int .i32 1))))) b=some (.cells (l.set 1 (.lit (.int .i32 1)))):=aa.ao _ _ _;have k:(l.set 1 (.lit (.int .i32 1)))[0]?=some (.lit (.int .u32 0)):=by rw[List.getElem?_set_ne (by decide)];exact e
 refine cf Tryz.func178 rfl (oy j k ?_);refine rn ?_;simp;refine af.defer rfl rfl rfl rfl (by simp) rfl ?_
 refine rn ?_;simp;refine i _ λσ' a n o p q r=>?_
 refine rn ?_;simp;refine pz.func Tryz.func200 rfl rfl (Aj n (List.getElem?_eq_some_iff.1 o).1 ?_);refine pz.func Tryz.func94 rfl rfl (zV yJ yK Ls d (ns b 1) (aa.ao _ _ _) (by rw[List.getElem?_set_ne (by decide)];exact p) (by rw[List.getElem?_set_ne (by decide)];exact q) ?_)
 rw[aa.set_set];exact⟨[],rfl,.done r⟩
theorem Ak(e:m.solo=true){b:Nat}{l:List AV}{f:AV}(c:σ b=some (.cells l))(d:l[0]?=some (.lit (.int .u32 0)))(g:l[1]?=some (.lit (.int .i32 0)))(h:l[2]?=some (.lit (.int .u32 0)))
 (i:∀K:cJ->aa->Prop,(∀σ' a,σ' b=some (.cells a)->a[0]?=some (.lit (.int .u32 0))->a[1]?=some (.lit (.int .i32 1))->a[2]?=some (.lit (.int .u32 0))->KF (.val (.bp [])) (σ'.set b (.cells ((a.set 0 (.lit (.int .u32 1))).set 1 (.lit (.int .i32 0)))))->K (.val (.bp [])) σ')->bz prog m f [] (σ.set b (.cells (l.set 1 (.lit (.int .i32 1))))) K):
 aB prog m 146 [.ref b 0,f] σ KF:=by
 refine aB.thaw ?_;refine fs [] 2 Tryz.func146 rfl rfl (by rfl) (by kernel_rfl) ?_;simp[Tryz.f146];refine cf Tryz.func178 rfl (oy c d ?_);refine rn ?_;simp;refine cf Tryz.func179 rfl (Cn e c d g h λK j=>i K λσ' a k n o p q=>j σ' a k n o p ?_);refine rn ?_;simp;exact .done (.done q)
end Go.Proofs.YtkcceaplmgdnfaaGreatDoor
namespace Go.Proofs.YtkcceaplmgdnfaaGreatDoor
open Go.Proofs.Tryz (prog)
open Go Go.bu Go.Conc
set_option maxHeartbeats 1000000
set_option maxRecDepth 4000
variable{m:Mo}{σ:aa}{KF:cJ->aa->Prop}
def Et(w:bH)(c:Int):AB:=w.aD.getD c.toNat ⟨⟨0,0,0,[],0,0⟩,0,0⟩
abbrev dP(w:bH)(es cs:List Int):Fr:={w.fair with aF:=es.map (cx w.fair)++cs.map λc=>(Et w c).lost}
abbrev FC(f:Fr):List AV:=[rows f.roads,int f.bV,int f.jj,int f.oZ,int f.eQ]
abbrev Eu:List AV:=[.lit (.slice none 0 0),.lit (.slice none 0 0),int 0,int 0,int 0,int 0]
theorem Lx{a a':AV}{l:List AV}(h:a.W a'):(AV.agg (a::l)).W (.agg (a'::l)):=nC rfl λi x y c b=>by
 cases i with
 |zero=>simp_all
 |succ i=>simp at c b;rw[c]at b;cases b;exact .refl _
namespace CF
abbrev Uv:List Entry:=[⟨6,.take [0,2,3,4,5,6,7,8,9,10,13] false (.both 1 (.one 11 (.one 12 (.one 14 (.done)))) (.one 11 (.take [1] true (.one 12 (.one 14 (.done))))))⟩,⟨11,.take [1,2,3,4,5,6,7,8,9] false (.both 0 (.one 10 (.one 11 (.one 12 (.done)))) (.one 10 (.take [0] true (.one 11 (.one 12 (.done))))))⟩]
theorem Co{w:bH}{fb mb:Nat}{x y:Int}(U:∀i∈aC x,0<=i/\i<w.fair.aF.length)(V:∀i∈aC y,0<=i/\i<w.aD.length)(h:KF (.val (dt (dP w (aC x) (aC y)))) σ):aB prog m 65 [pw fb mb w 0,.agg [u8 x,u8 y]] σ KF:=by
 have X:=lg x;have Y:=lg y;refine fs Uv 2 Tryz.func65 rfl rfl (by rfl) (by kernel_rfl) ?_
 simp[Tryz.f65];refine bq.intro λb hb=>?_
 simp;refine bq.intro λd n=>?_
 obtain⟨n1,n2,hd⟩:=aa.aH n;simp;refine cf Tryz.func60 rfl (il ?_);refine rn ?_;simp
 refine af.loop (aC x).length (λk s=>∃env f a,s=⟨env,f,[],.no⟩/\env 0=pw fb mb w 0/\env 3=.cp (.agg [u8 x,u8 y]) 0/\env 4=.ref b 0/\env 5=.ref d 0/\env 18=ints (aC x)/\env 19=int (aC x).length/\env 20=int k/\f d=some (.cells (a::FC w.fair))/\Tok (σ.set b (.cells Eu)) f a 6 (((aC x).take k).map λi=>dw (cx w.fair i))) ⟨_,_,_,rfl,by simp,by simp,by simp,by simp,by simp,by simp,by simp,aa.ao _ _ _,(Tok.nil _ _).beside n (by simp[cq])⟩ ?_
 rintro c0 k _ Z ⟨env,f,a,rfl,E,S,F,o,rU,MH,xz,p,g⟩ K
 have L:=g.cells;refine rn ?_;simp[MH,xz];refine aG.intro (λj=>?_) (λj=>?_)<;>(try simp[-Int.not_lt,-Int.not_le,-Nat.not_lt,-Nat.not_le]at j)<;>(try simp[E,S,o,rU,xz,j])
 . obtain⟨i,r⟩:∃i,(aC x)[k]=i:=⟨_,rfl⟩
   have t:=U i (r ▸ List.getElem_mem j);have l:i.toNat<w.fair.aF.length:=by omega
   have M:cx w.fair i=w.fair.aF[i.toNat]:=by simp[cx,l]
   simp only[r];have u:w.fair.aF[i.toNat]?=some w.fair.aF[i.toNat]:=List.getElem?_eq_getElem l;refine⟨t.1,?_⟩;simp[o,p,u]
   have N:((aC x).take (k+1)).map (λi=>dw (cx w.fair i))=((aC x).take k).map (λi=>dw (cx w.fair i))++[dw w.fair.aF[i.toNat]]:=by rw[List.take_succ_eq_append_getElem j,List.map_append,r,<-M];rfl
   have O:cq a≠some d:=λe=>by obtain⟨_,_,q⟩:=g.bZ e;simp_all
   refine⟨?_,?_⟩
   all_goals
    refine aR lay rfl rfl rfl wx rfl wx rfl JS (by decide) (by simp only[List.length_map,List.length_take,List.length_cons,List.length_nil];omega) (σ0:=f.off a) (es:=((aC x).take k).map λi=>dw (cx w.fair i)) (xs:=[dw w.fair.aF[i.toNat]]) (by simpa using g.here.1) (.inr ⟨_,by simp;rfl⟩) λa' P A=>?_
    have G:=A.cells;have T:P d=some (.cells (a::FC w.fair)):=A.1 _ _ (by rw[aa.gT O];exact p)
    have B:=A.base g.here.2;rw[<-N]at B;refine pg ?_;simp[T,G.1,G.2,aL];refine rn ?_;simp[xz];refine⟨by omega,K _ (by omega) ⟨_,_,a',rfl,by simp[E],by simp[S],by simp[F],by simp[o],by simp[rU],by simp[MH],by simp,aa.ao _ _ _,B.beside n (λe=>by obtain⟨_,_,q⟩:=B.bZ e;rw[T]at q;cases q)⟩⟩
 . have ek:k=(aC x).length:=by omega
   subst ek;rw[List.take_length]at g;refine cf Tryz.func60 rfl (il ?_);refine rn ?_;simp
   have H:a.W (iY ((aC x).map (cx w.fair)++(((aC y).take 0).map λc=>(Et w c).lost))):=by simp only[List.take_zero,List.map_nil,List.append_nil];have:=g.W;show a.W (.sl 6 (((aC x).map (cx w.fair)).map dw) .any);rw[List.map_map];exact this
   refine af.loop (aC y).length (λk s=>∃env f z,s=⟨env,f,[],.no⟩/\env 0=pw fb mb w 0/\env 4=.ref b 0/\env 5=.ref d 0/\env 41=ints (aC y)/\env 42=int (aC y).length/\env 43=int k/\f d=some (.cells (z::FC w.fair))/\(z.cells=[z]/\z.flat=true)/\z.W (iY ((aC x).map (cx w.fair)++(((aC y).take k).map λc=>(Et w c).lost)))/\(σ.set b (.cells Eu)).Le f) ⟨_,_,a,rfl,by simp[E],by simp[F],by simp[o],by simp,by simp,by simp,p,L,H,g.1⟩ ?_
   rintro Q k _ Z ⟨env,f,z,rfl,E,F,o,I,J,C,p,R,H,D⟩ K
   have qb:f b=some (.cells Eu):=D _ _ (aa.ao _ _ _);refine rn ?_;simp[J,C];refine aG.intro (λj=>?_) (λj=>?_)<;>(try simp[-Int.not_lt,-Int.not_le,-Nat.not_lt,-Nat.not_le]at j)<;>(try simp[E,F,o,I,C,p,qb,R.2,j,aL])
   . obtain⟨i,r⟩:∃i,(aC y)[k]=i:=⟨_,rfl⟩
     have t:=V i (r ▸ List.getElem_mem j);have l:i.toNat<w.aD.length:=by omega
     have M:Et w i=w.aD[i.toNat]:=by simp[Et,l]
     simp only[r];have u:w.aD[i.toNat]?=some w.aD[i.toNat]:=List.getElem?_eq_getElem l;refine⟨t.1,?_⟩;simp[o,p,u]
     have N:((aC y).take (k+1)).map (λc=>(Et w c).lost)=((aC y).take k).map (λc=>(Et w c).lost)++[w.aD[i.toNat].lost]:=by rw[List.take_succ_eq_append_getElem j,List.map_append,r,<-M];rfl
     have hW:Wl [AV.agg (z::FC w.fair),.sl 6 [dw w.aD[i.toNat].lost] .exact] [dt (dP w (aC x) ((aC y).take k)),iY [w.aD[i.toNat].lost]]:=.cons (Lx H) (.cons (bQ _ _ _) .nil);refine⟨?_,?_⟩
     all_goals
      refine aM Tryz.func75 rfl rfl hW (Ch (by simp only[List.length_append,List.length_map,List.length_take,List.length_cons,List.length_nil];omega) ?_)
      rw[List.append_assoc,<-N];refine pg ?_;simp[o,p];refine rn ?_;simp[C];refine⟨by omega,K _ (by omega) ⟨_,_,_,rfl,by simp[E],by simp[F],by simp[o],by simp[I],by simp[J],by simp,aa.ao _ _ _,⟨rfl,rfl⟩,by simp only[List.map_take];exact .refl _,aa.eo D n⟩⟩
   . have ek:k=(aC y).length:=by omega
     subst ek;rw[List.take_length]at H;refine .lV (Lx H) (.less (λc v hv=>?_) (.done h))
     have Q:c≠b:=λe=>by grind
     rw[aa.ak _ _ Q];exact D _ _ (by rw[aa.ak _ _ Q];exact hv)
end CF
def wU(f:Fr)(x y:Int):Int:=kz (((aK f []).filter (yM x y)).length:Int) (aK f []).length
def yP(n:Int):Nat:=if n=1 then 125 else if n=3 then 284 else 195
abbrev wV(n:Int):AV:=.kD (yP n) (.agg [])
def rK(n:Int):AV:=if n=0 then .lit .nilIface else wV n
def Ly(f:Fr)(es cs:List Int)(x:Nat)(N:List Int):List Int:=(List.range cs.length).foldl (λN y=>N.set (3*(es.getD x 0).toNat+(cs.getD y 0).toNat) (wU f x ((es.length:Int)+y))) N
def Lz(f:Fr)(es cs:List Int):List Int:=(List.range es.length).foldl (λN x=>Ly f es cs x N) (List.replicate 18 0)
abbrev tP(a b:Int)(N:List Int):List AV:=[.lit (.int .u32 a),.lit (.int .i32 b),.lit (.int .u32 0)]++N.map rK
theorem LA(f:Fr)(x y:Int):wU f x y≠0:=by unfold wU kz;omega
theorem iK{σ:aa}{b:Nat}{x:fy}(h:σ b=some x):σ.set b x=σ:=by
 funext c;by_cases e:c=b
 . simp_all
 . simp[aa.set,e]
theorem LB(f:Fr)(es cs:List Int)(x:Nat)(N:List Int):(Ly f es cs x N).length=N.length:=by
 have key:∀(l:List Nat) (N:List Int),(l.foldl (λN y=>N.set (3*(es.getD x 0).toNat+(cs.getD y 0).toNat) (wU f x ((es.length:Int)+y))) N).length=N.length:=λl=>by
  induction l with
  |nil=>simp_all
  |cons a l b=>simp_all
 exact key _ N
theorem Cp{a b c:AV}{N:List Int}{i j:Nat}{n:Int}(d:3*i+j<N.length)(f:n≠0):aL (a::b::c::N.map rK) (3+i*3+j) [wV n]=a::b::c::(N.set (3*i+j) n).map rK:=by
 have e:3+i*3+j=3*i+j+1+1+1:=by omega
 rw[e];generalize 3*i+j=p at d ⊢;unfold aL;simp only[List.take_succ_cons,List.length_cons,List.length_nil,Nat.zero_add,List.drop_succ_cons,List.cons_append];rw[List.map_set,List.set_eq_take_append_cons_drop,if_pos (by simp_all)];simp[rK,f]
theorem LC(Q:m.solo=true){w:bH}{fb mb bk:Nat}{x y:Int}(K:∀i∈aC x,0<=i/\i<w.fair.aF.length)(L:∀i∈aC y,0<=i/\i<w.aD.length)(D:(dP w (aC x) (aC y)).Good)(R:aK (dP w (aC x) (aC y)) []≠[])(h6:w.fair.aF.length<=6/\w.aD.length<=3)
 (hb:σ bk=some (.cells (tP 0 1 (List.replicate 18 0)))) (h:KF (.val (.bp [])) (σ.set bk (.cells (tP 0 1 (Lz (dP w (aC x) (aC y)) (aC x) (aC y)))))):
 aB prog m 147 [.cp (pw fb mb w 0) 0,.cp (.agg [u8 x,u8 y]) 0,.cp (.ref bk 0) 0] σ KF:=by
 have S:=lg x;have T:=lg y;refine fs SA 3 Tryz.func147 rfl rfl (by rfl) (by kernel_rfl) ?_;simp[Tryz.f147]
 repeat' first
  |refine⟨?_,?_⟩
  | (refine cf Tryz.func65 rfl (CF.Co K L ?_)
     refine pg ?_;simp)
  | (refine cf Tryz.func60 rfl (il ?_)
     refine pg ?_;simp)
  | (refine po.intro λd hd=>?_
     simp)
 all_goals
  refine af.aV 3 (b:=d) (dt (dP w (aC x) (aC y))) (aa.ao _ _ _) (by simp) rfl ?_;rw[dz hd];refine rn ?_;simp;refine af.loop (aC x).length (λk s=>∃env N,s=⟨env,σ.set bk (.cells (tP 0 1 N)),[],.no⟩/\N.length=18/\N=(List.range k).foldl (λN i=>Ly (dP w (aC x) (aC y)) (aC x) (aC y) i N) (List.replicate 18 0)/\env 2=.cp (.ref bk 0) 0/\env 3=.cp (dt (dP w (aC x) (aC y))) 0/\env 4=ints (aC x)/\env 5=ints (aC y)/\env 21=ints (aC x)/\env 22=int (aC x).length/\env 23=int k) ⟨_,List.replicate 18 0,by rw[iK hb],rfl,rfl,by simp⟩ ?_;rintro c0 k _ hk ⟨env,N,rfl,U,p,q,r,u,v,uy,uz,H5⟩ V;refine rn ?_;simp[uz,H5];refine aG.intro (λz=>?_) (λz=>?_)<;>(try simp[-Int.not_lt,-Int.not_le,-Nat.not_lt,-Nat.not_le]at z)<;>(try simp[v,uy,H5,z])
  . obtain⟨i,E⟩:∃i,(aC x)[k]=i:=⟨_,rfl⟩
    have W:=K i (E ▸ List.getElem_mem z);have F:(aC x).getD k 0=i:=by simp[List.getD_eq_getElem?_getD,z,E]
    refine af.loop (aC y).length (λj s=>∃env g,s=⟨env,σ.set bk (.cells (tP 0 1 g)),[],.no⟩/\g.length=18/\g=(List.range j).foldl (λN M=>N.set (3*i.toNat+((aC y).getD M 0).toNat) (wU (dP w (aC x) (aC y)) k (((aC x).length:Int)+M))) N/\env 2=.cp (.ref bk 0) 0/\env 3=.cp (dt (dP w (aC x) (aC y))) 0/\env 4=ints (aC x)/\env 5=ints (aC y)/\env 21=ints (aC x)/\env 22=int (aC x).length/\env 23=int k/\env 6=int k/\env 7=int i/\env 28=ints (aC y)/\env 29=int (aC y).length/\env 30=int j) ⟨_,N,rfl,U,rfl,by simp[q,r,u,v,uy,uz,H5,E]⟩ ?_;rintro c1 j _ hj ⟨env,g,rfl,l,e,q,r,u,v,uy,uz,H5,O,P,A,B,n⟩ G;refine rn ?_;simp[B,n];refine aG.intro (λC=>?_) (λC=>?_)<;>(try simp[-Int.not_lt,-Int.not_le,-Nat.not_lt,-Nat.not_le]at C)<;>(try simp[r,u,H5,O,A,n,C])
    . obtain⟨c,o⟩:∃c,(aC y)[j]=c:=⟨_,rfl⟩
      have X:=L c (o ▸ List.getElem_mem C);have H:(aC y).getD j 0=c:=by simp[List.getD_eq_getElem?_getD,C,o]
      have Y:(dP w (aC x) (aC y)).aF.length=(aC x).length+(aC y).length:=by simp
      simp only[o];refine⟨by omega,?_⟩;refine cf Tryz.func148 rfl (NC (f:=dP w (aC x) (aC y)) Q D.fits D.H4 ⟨by omega,by omega⟩ ⟨by omega,by omega⟩ R (Nat.lt_of_le_of_lt (Ag D _) (by decide)) ?_);refine rn ?_;simp[q,P];refine⟨by omega,by omega,?_⟩;refine cf Tryz.func149 rfl (Eo (t:=yP (wU (dP w (aC x) (aC y)) k (((aC x).length:Int)+j))) rfl ?_);have I:3+i.toNat*3+c.toNat<=20:=by omega
      have J:=λa b d=>Cp (a:=a) (b:=b) (c:=d) (N:=g) (i:=i.toNat) (j:=c.toNat) (by omega) (LA (dP w (aC x) (aC y)) k (((aC x).length:Int)+j))
      refine pg ?_;simp[l,I,J];refine rn ?_;simp[n];simp only[<-List.map_set];refine⟨by omega,G _ (by omega) ⟨_,g.set (3*i.toNat+c.toNat) (wU (dP w (aC x) (aC y)) k (((aC x).length:Int)+j)),rfl,by rw[List.length_set];exact l,?_,by simp[q],by simp[r],by simp[u],by simp[v],by simp[uy],by simp[uz],by simp[H5],by simp[O],by simp[P],by simp[A],by simp[B],by simp⟩⟩;rw[List.range_succ,List.foldl_append,<-e];simp only[List.foldl_cons,List.foldl_nil,H]
    . have Z:j=(aC y).length:=by omega
      subst Z;refine⟨by omega,V _ (by omega) ⟨_,g,rfl,l,?_,by simp[q],by simp[r],by simp[u],by simp[v],by simp[uy],by simp[uz],by simp⟩⟩;rw[List.range_succ,List.foldl_append,<-p];simp only[List.foldl_cons,List.foldl_nil];unfold Ly;rw[F];exact e
  . have ek:k=(aC x).length:=by omega
    subst ek;refine .done ?_;rw[p];exact h
theorem OD:AY prog 156 112 193 110 .u8:=.of (by kernel_rfl) (by kernel_rfl) (by kernel_rfl) (by kernel_rfl)
abbrev wW(w:bH)(p:Int × Int):List Int:=Lz (dP w (aC p.1) (aC p.2)) (aC p.1) (aC p.2)
def dI(w:bH)(mb:Nat)(σ:aa):Prop:=∃l,σ mb=some (lX (nW .u8) l)/\∀p a,cS l p=some a->∃bk,a=.ref bk 0/\bk≠mb/\σ bk=some (.cells (tP 1 0 (wW w p)))
def dX(mb:Nat)(σ σ':aa):Prop:=∀c x,σ c=some x->c≠mb->σ' c=some x
theorem dX.refl(mb:Nat)(σ:aa):dX mb σ σ:=λ_ _ h _=>h
theorem dX.trans{mb:Nat}{a b c:aa}(h:dX mb a b)(e:dX mb b c):dX mb a c:=λd x q n=>e d x (h d x q n) n
structure bH.Bk(w:bH)(x y:Int):Prop where
 hx:∀i∈aC x,0<=i/\i<w.fair.aF.length
 hy:∀i∈aC y,0<=i/\i<w.aD.length
 uo:(dP w (aC x) (aC y)).Good
 some:aK (dP w (aC x) (aC y)) []≠[]
theorem Ev{l:List ((Int × Int) × AV)}{p q:Int × Int}{a b:AV}(h:cS (l++[(q,b)]) p=some a):cS l p=some a\/p=q/\a=b:=by
 unfold cS at h ⊢;rw[List.find?_append]at h;cases e:l.find? (λr=>p==r.1)with
 |some r=>simp_all
 |none=>grind
theorem LG(J:m.solo=true){w:bH}{fb mb:Nat}{x y:Int}(hb:w.Bk x y)(P:w.fair.aF.length<=6/\w.aD.length<=3)(Q:dI w mb σ)
 (h:∀bk σ',dI w mb σ'->dX mb σ σ'->σ' bk=some (.cells (tP 1 0 (wW w (x,y))))->KF (.val (.ref bk 0)) σ'):aB prog m 110 [pw fb mb w 0,.agg [u8 x,u8 y]] σ KF:=by
 obtain⟨l,s,A⟩:=Q;refine aB.start lay [15] Sv 2 Tryz.func110 rfl rfl (by rfl) (by kernel_rfl) ?_
 simp[Tryz.f110]
 have f:∀{o:Oper}{env:Env}{σ:aa}{K R:AV->aa->Prop},o.op=.lookup 156 (.tmp 9) (.tmp 10) false->env 9=.map mb->env 10=nW .u8 (x,y)->σ mb=some (lX (nW .u8) l)->K ((cS l (x,y)).getD (.lit (.pointer none))) σ->aJ prog o env σ K R:=λS T E U F=>vp lay (OD.key lay JU rfl) S So T E U F
 have t:cS l (x,y)=none\/∃bk,cS l (x,y)=some (.ref bk 0)/\bk≠mb/\σ bk=some (.cells (tP 1 0 (wW w (x,y)))):=by
  cases e:cS l (x,y)with
  |none=>simp_all
  |some a=>simp_all
 rcases t with j|⟨bk,j,V,B⟩
 . refine⟨f rfl (by simp) (by simp[nW]) s ?_,?_⟩
   rotate_left
   refine po.intro λd hd=>?_
   have u:mb≠d:=λe=>by simp_all
   simp;refine f rfl (by simp) (by simp[nW]) (by simp[aa.ak,u,s]) ?_
   rw[j];refine aI.go lay [15] ?_;simp
   rotate_left
   rw[j];refine aI.go lay [15] ?_;simp;refine po.intro λd hd=>?_
   have u:mb≠d:=λe=>by simp_all
   simp
   all_goals
    refine af.run lay [15] ?_;simp;refine kW (vx:=.pointer none) (vy:=.pointer none) (r:=.bool true) rfl (λk v g=>by simpa using wu.1 g) (λk v g=>by simpa using wu.1 g) (by kernel_rfl) ?_
    refine af.run lay [15] ?_;simp;refine bq.intro λbk C=>?_
    obtain⟨W,X,i⟩:=aa.aH C;have D:mb≠bk:=λe=>by rw[<-e,s]at i;cases i
    simp[X,aa.ak];refine pG (OD.key lay JU rfl) rfl (b:=mb) (l:=l) (n:=(x,y)) (a:=.ref bk 0) (by simp) (by simp[nW]) (by simp) (by simp[aa.set,u,D,s]) j ?_
    refine aI.go lay [15] ?_;simp;refine af.aV 5 (b:=d) (.ref bk 0) (by simp[aa.set,Ne.symm u]) (by simp) rfl ?_
    refine af.mH (λe q=>(e 2=.cp (pw fb mb w 0) 0/\e 3=.cp (.agg [u8 x,u8 y]) 0/\e 5=.cp (.ref bk 0) 0)/\q mb=some (lX (nW .u8) (l++[((x,y),.ref bk 0)]))/\q bk=some (.cells (tP 0 0 (List.replicate 18 0)))/\dX mb σ q) ⟨by simp,by simp[aa.set,aa.del,u],by simp[aa.set,aa.del,W,Ne.symm D,List.replicate,rK],λc v g z=>?_⟩ ?_
    . have Y:c≠d:=λe=>by rw[e,hd]at g;cases g
      have G:c≠bk:=λe=>by rw[e,i]at g;cases g
      simp[aa.set,aa.del,Y,G,z,g]
    rintro env q ⟨⟨Z,e3,L⟩,q1,q2,M⟩
    refine af.run lay [15] ?_;simp[Z,e3,L];refine cf Tryz.func146 rfl (Ak J q2 rfl rfl rfl λK F=>cP Tryz.func147 rfl rfl rfl (LC J hb.hx hb.hy hb.uo hb.some P (aa.ao _ _ _) (F _ _ (aa.ao _ _ _) rfl rfl rfl ?_)))
    simp only[aa.set_set];refine af.run lay [15] ?_;simp[L];refine .done (h bk _ ⟨_,(aa.ak _ _ D).trans q1,λp a H=>?_⟩ (λc v g z=>?_) (aa.ao _ _ _))
    . rcases Ev H with H|⟨rfl,rfl⟩
      . obtain⟨N,rfl,O,I⟩:=A _ _ H
        have h3:N≠bk:=λe=>by rw[e,i]at I;cases I
        exact⟨N,rfl,O,(aa.ak _ _ h3).trans (M _ _ I O)⟩
      . exact⟨bk,rfl,Ne.symm D,aa.ao _ _ _⟩
    . have G:c≠bk:=λe=>by rw[e,i]at g;cases g
      exact(aa.ak _ _ G).trans (M _ _ g z)
 . refine⟨f rfl (by simp) (by simp[nW]) s ?_,?_⟩
   rotate_left
   refine po.intro λd hd=>?_
   have u:mb≠d:=λe=>by simp_all
   simp;refine f rfl (by simp) (by simp[nW]) (by simp[aa.ak,u,s]) ?_
   rw[j];refine aI.go lay [15] ?_;simp
   rotate_left
   rw[j];refine aI.go lay [15] ?_;simp;refine po.intro λd hd=>?_
   simp
   all_goals
    refine af.aV 5 (b:=d) (.ref bk 0) (aa.ao _ _ _) (by simp) rfl ?_
    rw[dz hd];refine af.run lay [15] ?_;simp;refine kW (vx:=.pointer (some ⟨bk,0,none⟩)) (vy:=.pointer none) (r:=.bool false) rfl (λk v g=>by simpa using Sc.1 g) (λk v g=>by simpa using wu.1 g) (by kernel_rfl) ?_
    refine af.run lay [15] ?_;simp;refine cf Tryz.func146 rfl (Cm B rfl ?_);refine af.run lay [15] ?_;simp;exact .done (h bk σ ⟨l,s,A⟩ (.refl mb σ) B)
abbrev kE(w:bH)(h:Int):Int:=aW (qk w h)
abbrev kC(w:bH)(h:Int):Int:=aW (ql w h)
structure bH.Open(w:bH):Prop where
 qt:w.fair.aF.length<=6/\w.aD.length<=3
 bk:∀h,w.Bk (kE w h) (kC w h)
def iZ(w:bH)(h i c:Int):Int:=(wW w (kE w h,kC w h)).getD (3*i.toNat+c.toNat) 0
theorem HN(f:Fr)(es cs:List Int):(Lz f es cs).length=18:=by
 have key:∀(l:List Nat) (N:List Int),(l.foldl (λN x=>Ly f es cs x N) N).length=N.length:=λl=>by
  induction l with
  |nil=>simp_all
  |cons a l b=>exact λN=>(b _).trans (LB ..)
 exact key _ _
theorem Cq(q:m.solo=true){w:bH}{fb mb:Nat}{h i c:Int}(b:w.Open)(f:0<=i/\i<6)(g:0<=c/\c<3)(r:dI w mb σ)(d:∀σ',dI w mb σ'->dX mb σ σ'->KF (.val (wV (iZ w h i c))) σ'):aB prog m 67 [pw fb mb w 0,int h,int i,int c] σ KF:=by
 refine fs [] 4 Tryz.func67 rfl rfl (by rfl) (by kernel_rfl) ?_
 simp[Tryz.f67];refine cf Tryz.func59 rfl (CK.sO b.qt.1 b.qt.2 ?_);refine rn ?_;simp;refine cf Tryz.func110 rfl (LG q (b.bk h) b.qt r λbk σ' j k l=>?_)
 have hlen:=HN (dP w (aC (kE w h)) (aC (kC w h))) (aC (kE w h)) (aC (kC w h));obtain⟨N,o⟩:∃N,N=wW w (kE w h,kC w h):=⟨_,rfl⟩;have s:N.length=18:=by simp_all
 have t:iZ w h i c=N.getD (3*i.toNat+c.toNat) 0:=by rw[o];rfl
 rw[<-o]at l
 have a:(AV.lit (.int .u32 1)::.lit (.int .i32 0)::.lit (.int .u32 0)::N.map rK)[3+i.toNat*3+c.toNat]?=some (rK (iZ w h i c)):=by
  have e:3+i.toNat*3+c.toNat=3*i.toNat+c.toNat+3:=by omega
  have u:3*i.toNat+c.toNat<N.length:=by omega
  simp_all
 generalize iZ w h i c=n at d a;refine rn ?_;simp[l,f.1,f.2,g.1,g.2,a]
 by_cases p:n=0
 . subst p
   refine cK lay rfl On rfl (.inl ⟨by simp[rK],rfl⟩) (.inr ⟨rfl,rfl⟩) ?_
   refine rn ?_;simp;exact .done (d σ' j k)
 . have e:rK n=wV n:=if_neg p
   rw[e];refine cK lay rfl On rfl (.inr ⟨⟨yP n,.agg [],by simp⟩,rfl⟩) (.inr ⟨rfl,rfl⟩) ?_
   refine rn ?_;simp;exact .done (d σ' j k)
def Ew(n:Int):Bool:=n==1||n==3
theorem sP{t f:Nat}(h:dW prog (Go.method (prog.types.size+Made.depth) t (.agg #[])  "palfrey/cry.holds")=some (f,.agg #[])):mW prog t  "palfrey/cry.holds" f (.agg []) (.agg []):=tO λk v b=>by
 cases b with
 | agg c l d e=>
   obtain⟨c⟩:=c
   match c,d with
   |[],_=>exact⟨_,h,.agg _ _ rfl λi v a h=>by simp at h⟩
theorem Cr(h:KF (.val (bool true)) σ):aB prog m 232 [.agg []] σ KF:=by
 refine fs [] 1 Tryz.func232 rfl rfl (by rfl) (by kernel_rfl) ?_;simp[Tryz.f232];exact .done h
theorem Cs(h:KF (.val (bool true)) σ):aB prog m 258 [.agg []] σ KF:=by
 refine fs [] 1 Tryz.func258 rfl rfl (by rfl) (by kernel_rfl) ?_;simp[Tryz.f258];exact .done h
theorem Ct(h:KF (.val (bool false)) σ):aB prog m 233 [.agg []] σ KF:=by
 refine fs [] 1 Tryz.func233 rfl rfl (by rfl) (by kernel_rfl) ?_;simp[Tryz.f233];exact .done h
theorem LH(b:m.solo=true){w:bH}{fb mb:Nat}{h i c:Int}(d:w.Open)(f:0<=i/\i<6)(g:0<=c/\c<3)(j:dI w mb σ)(a:∀σ',dI w mb σ'->dX mb σ σ'->KF (.val (bool (Ew (iZ w h i c)))) σ'):aB prog m 102 [int c,.cp (pw fb mb w 0) 0,.cp (int h) 0,.cp (int i) 0] σ KF:=by
 refine fs [] 4 Tryz.func102 rfl rfl (by rfl) (by kernel_rfl) ?_
 simp[Tryz.f102];refine cf Tryz.func67 rfl (Cq b d f g j λσ' k l=>?_)
 have a:=a σ' k l;generalize iZ w h i c=n at a;unfold Ew at a
 by_cases o:n=1
 . subst o
   refine rn ?_;simp;refine af.invoke rfl rfl rfl (by simp) rfl (sP (by kernel_rfl)) Tryz.func232 rfl rfl (Cr ?_)
   refine rn ?_;simp;exact .done a
 by_cases p:n=3
 . subst p
   refine rn ?_;simp;refine af.invoke rfl rfl rfl (by simp) rfl (sP (by kernel_rfl)) Tryz.func258 rfl rfl (Cs ?_)
   refine rn ?_;simp;exact .done a
 have e:wV n=.kD 195 (.agg []):=by unfold wV yP;simp_all
 rw[e];refine rn ?_;simp;refine af.invoke rfl rfl rfl (by simp) rfl (sP (by kernel_rfl)) Tryz.func233 rfl rfl (Ct ?_)
 refine rn ?_;simp;rw[show(n==1)=false by simp_all,show(n==3)=false by simp_all]at a
 exact .done a
theorem rL{σ0 σ σ2:aa}{a:AV}{kk:Nat}{es:List AV}(h:Tok σ0 σ a kk es)(d:∀b e,σ b=some (.tail e)->σ2 b=some (.tail e)):Tok (σ2.off a) σ2 a kk es:=by
 rcases h.2 with⟨rfl,rfl⟩|rfl|⟨b,e,_,rfl,f⟩
 . exact⟨aa.le_refl _,.inl ⟨rfl,rfl⟩⟩
 . exact⟨aa.le_refl _,.inr (.inl rfl)⟩
 . refine⟨λc x g=>?_,.inr (.inr ⟨b,e,by simp[aa.off,cq,aa.del],rfl,d b e f⟩)⟩
   simp only[aa.off,cq,aa.del]at g
   simp_all
structure S5(I:aa->Prop)(mb:Nat):Prop where
 le:∀{σ σ':aa},I σ->(∀c x,σ c=some x->(∀e,x≠.tail e)->σ' c=some x)->I σ'
 mb:∀{σ:aa},I σ->∀e,σ mb≠some (.tail e)
theorem Ey{σ0 σ:aa}{a:AV}{kk:Nat}{es:List AV}(h:Tok σ0 σ a kk es){c:Nat}{x:fy}(b:σ c=some x)(d:∀e,x≠.tail e):(σ.off a) c=some x:=by
 rw[aa.gT λe=>?_]
 . exact b
 . obtain⟨_,n,q⟩:=h.bZ e
   grind
theorem LI{I:aa->Prop}{mb:Nat}(y:S5 I mb){f:AV}{l:List Int}{p:Int->Bool}(T:l.length<=1000)(z:f.flat=true)
 (P:∀x∈l,∀(σ:aa) (K:cJ->aa->Prop),I σ->(∀σ',I σ'->dX mb σ σ'->K (.val (bool (p x))) σ')->bz prog m f [int x] σ K)
 (Q:I σ) (h:∀σ',I σ'->dX mb σ σ'->KF (.val (ints (l.filter p))) σ'):aB prog m 86 [.agg [f],ints l] σ KF:=by
 refine fs [] 2 Tryz.func86 rfl rfl (by rfl) (by kernel_rfl) ?_
 simp[Tryz.f86];refine⟨z,?_⟩;refine af.loop l.length (λk s=>∃env σ' a,s=⟨env,σ',[],.no⟩/\env 2=.cp (.agg [f]) 0/\env 8=ints l/\env 9=int l.length/\env 10=int k/\env 5=a/\I σ'/\Tok (σ'.off a) σ' a 1 (((l.take k).filter p).map int)/\dX mb σ (σ'.off a)) ?_ ?_
 . exact⟨_,σ,AV.nil,rfl,by simp,by simp,by simp,by simp,by simp,Q,Tok.nil σ 1,dX.refl mb σ⟩
 rintro U k _ V ⟨env,σ',a,rfl,A,B,C,xh,v,D,d,hb⟩ J
 refine rn ?_;simp[C,xh];refine aG.intro (λj=>?_) (λj=>?_)<;>(try simp[-Int.not_lt,-Int.not_le,-Nat.not_lt,-Nat.not_le]at j)<;>(try simp[A,B,xh,v,j])
 . have L:(l.take (k+1)).filter p=(l.take k).filter p++if p l[k]then[l[k]]else[]:=by
    rw[List.take_succ_eq_append_getElem j,List.filter_append]
    grind
   have R:((l.take k).filter p).length<=k:=Nat.le_trans (List.length_filter_le _ _) (by grind)
   refine P _ (List.getElem_mem j) _ _ D λσ2 M o=>?_
   have r:=rL d (σ2:=σ2) (λb e t=>o b _ t λq=>y.mb D e (q ▸ t))
   have g:dX mb σ (σ2.off a):=λc x i w=>by
    have N:=hb c x i w;have E:cq a≠some c:=λe=>by obtain⟨n,_⟩:=d.bZ e;grind
    rw[aa.gT E]at N ⊢;exact o c x N w
   refine rn ?_;simp;cases O:p l[k]
   . rw[O,if_neg (by simp),List.append_nil]at L
     simp[xh];refine⟨by omega,J _ (by omega) ⟨_,σ2,a,rfl,by simp[A],by simp[B],by simp[C],by simp,by simp[v],M,by grind,g⟩⟩
   . rw[O,if_pos rfl]at L
     simp[v];refine aR lay rfl rfl rfl dT rfl dT rfl qp (by decide) (by grind) (σ0:=σ2.off a) (es:=((l.take k).filter p).map int) (xs:=[int l[k]]) (by simpa[v]using r) (.inr ⟨_,by simp;rfl⟩) λS F u=>?_
     refine rn ?_;simp[xh];have G:=u.here;refine⟨by omega,J _ (by omega) ⟨_,F,S,rfl,by simp[A],by simp[B],by simp[C],by simp,by simp,y.le M λc x i H=>u.1 _ _ (Ey r i H),by rw[L,List.map_append];exact G.1,λc x i w=>G.2 _ _ (g c x i w)⟩⟩
 . have ek:k=l.length:=by omega
   subst ek;rw[List.take_length]at d;refine .lV d.W (.less d.1 (.done (h _ (y.le D λc x i H=>Ey d i H) hb)))
theorem qm(w:bH)(mb:Nat):S5 (dI w mb) mb where
 le h hk:=by
  obtain⟨l,b,c⟩:=h;refine⟨l,hk _ _ b (by simp[lX]),λp a d=>?_⟩;obtain⟨bk,f,g,i⟩:=c p a d;exact⟨bk,f,g,hk _ _ i (by simp)⟩
 mb h e q:=by obtain⟨l,b,_⟩:=h;rw[b]at q;simp[lX]at q
theorem uK{n:Nat}{x:Int}(h:x∈sL n):0<=x/\x<n:=by obtain⟨k,a,rfl⟩:=List.mem_map.1 h;have:=List.mem_range.1 a;omega
theorem Al(n:Nat):(sL n).length=n:=by unfold sL;rw[List.length_map,List.length_range]
def Ez(w:bH)(h i:Int):List Int:=(sL w.aD.length).filter λc=>Ew (iZ w h i c)
def fq(w:bH)(h:Int):List Int:=(sL w.fair.aF.length).filter λi=>decide (0<(Ez w h i).length)
theorem Am(c:m.solo=true){w:bH}{fb mb:Nat}{h i:Int}(b:w.Open)(d:0<=i/\i<6)(e:dI w mb σ)(a:∀σ',dI w mb σ'->dX mb σ σ'->KF (.val (ints (Ez w h i))) σ'):aB prog m 61 [pw fb mb w 0,int h,int i] σ KF:=by
 have l:=b.qt.2;refine fs [] 3 Tryz.func61 rfl rfl (by rfl) (by kernel_rfl) ?_;simp[Tryz.f61];refine cf Tryz.func49 rfl (pe (by omega) ?_);refine rn ?_;simp;refine cf Tryz.func86 rfl (LI (qm w mb) (by rw[Al];omega) rfl (λx f σ K g a=>cP Tryz.func102 rfl rfl rfl (LH c b d (by have:=uK f;omega) g a)) e λσ' j k=>?_);refine rn ?_;simp;exact .done (a σ' j k)
theorem LJ(a:m.solo=true){w:bH}{fb mb:Nat}{h i:Int}(b:w.Open)(c:0<=i/\i<6)(d:dI w mb σ)(e:∀σ',dI w mb σ'->dX mb σ σ'->KF (.val (bool (decide (0<(Ez w h i).length)))) σ'):aB prog m 87 [int i,.cp (pw fb mb w 0) 0,.cp (int h) 0] σ KF:=by
 refine fs [] 3 Tryz.func87 rfl rfl (by rfl) (by kernel_rfl) ?_;simp[Tryz.f87];refine cf Tryz.func61 rfl (Am a b c d λσ' f g=>?_);refine rn ?_;simp;refine .done ?_;have:=e σ' f g;simpa using this
theorem rN(c:m.solo=true){w:bH}{fb mb:Nat}{h:Int}(b:w.Open)(d:dI w mb σ)(a:∀σ',dI w mb σ'->dX mb σ σ'->KF (.val (ints (fq w h))) σ'):aB prog m 42 [pw fb mb w 0,int h] σ KF:=by
 have j:=b.qt.1;refine fs [] 2 Tryz.func42 rfl rfl (by rfl) (by kernel_rfl) ?_;simp[Tryz.f42];refine cf Tryz.func49 rfl (pe (by omega) ?_);refine rn ?_;simp;refine cf Tryz.func86 rfl (LI (qm w mb) (by rw[Al];omega) rfl (λx e σ K f a=>cP Tryz.func87 rfl rfl rfl (LJ c b (by have:=uK e;omega) f a)) d λσ' g i=>?_);refine rn ?_;simp;exact .done (a σ' g i)
theorem HK.tQ{σ σ':aa}{fb mb:Nat}{w:bH}(h:HK σ fb mb w σ'):dI w mb σ':=⟨[],by rw[h.eq,aa.ak _ _ (Ne.symm h.ne),aa.ao],λp a b=>by simp[cS]at b⟩
theorem HK.less{σ σ' σ2:aa}{fb mb:Nat}{w:bH}(h:HK σ fb mb w σ')(hb:dX mb σ' σ2):σ.Le σ2:=λc x a=>by
 have d:c≠fb:=λe=>by rw[e,h.f0]at a;cases a
 have b:c≠mb:=λe=>by rw[e,h.m0]at a;cases a
 exact hb c x (by rw[h.eq,aa.ak _ _ d,aa.ak _ _ b];exact a) b
abbrev iv:AV:=.lit (.slice none 0 0)
theorem LL{a b c d a' b' c' d':AV}(e:a.W a')(f:b.W b')(g:c.W c')(h:d.W d'):Wl [a,b,c,d] [a',b',c',d']:=.cons e (.cons f (.cons g (.cons h .nil)))
theorem oz(e:m.solo=true){w:bH}(f:w.iU){c:Nat}(h:c<3)(i:bW w [] [] [(c:Int)]=0)(b:if 72<cM w c then KF (.val (.bp [int 0,int 11])) σ else KF (.val (.bp [int (cM w c),int 0])) σ):aB prog m 22 [aT w,int c] σ KF:=by
 have j:Wl [aT w,iv,iv,.sl 1 [int c] .exact] [aT w,ints [],ints [],ints [(c:Int)]]:=LL (.refl _) (cz 1) (cz 1) (bQ 1 _ _);refine fs [] 2 Tryz.func22 rfl rfl (by rfl) (by kernel_rfl) ?_;simp[Tryz.f22];refine aM Tryz.func41 rfl rfl j (fQ e f ⟨by simp,by simp,by simp⟩ (λq=>absurd i q) λ_ d fb mb k=>?_);have a:=k.less (.refl mb d);refine rn ?_;simp;refine cf Tryz.func55 rfl (lR h ?_);split at b
 . next g=>rw[if_pos g];refine rn ?_;simp;refine cf Tryz.func56 rfl (FB ?_);refine rn ?_;simp;exact .less a (.done b)
 . next g=>rw[if_neg g];refine rn ?_;simp;refine cf Tryz.func56 rfl (Lv ?_);refine rn ?_;simp;exact .less a (.done b)
theorem mL(a:m.solo=true){w:bH}(f:w.iU)(g:w.Open){h:Int}(b:bW w [h] [] []≠0->KF (.val (.bp [iv,int (bW w [h] [] [])])) σ)(i:bW w [h] [] []=0->KF (.val (.bp [ints (fq w h),int 0])) σ):aB prog m 11 [aT w,int h] σ KF:=by
 have j:Wl [aT w,.sl 1 [int h] .exact,iv,iv] [aT w,ints [h],ints [],ints []]:=LL (.refl _) (bQ 1 _ _) (cz 1) (cz 1);obtain⟨e,k⟩:∃e,e=bW w [h] [] []:=⟨_,rfl⟩;refine fs [] 2 Tryz.func11 rfl rfl (by rfl) (by kernel_rfl) ?_;simp[Tryz.f11];refine aM Tryz.func41 rfl rfl j (fQ a f ⟨by simp,by simp,by simp⟩ (λq=>?_) λq l fb mb c=>?_)
 . rw[<-k]at q b ⊢
   have d:(e !=0)=true:=by simpa using q
   refine rn ?_;simp[d];exact .done (b q)
 . refine rn ?_
   simp;refine cf Tryz.func42 rfl (rN a g c.tQ λn d o=>?_);refine rn ?_;simp;exact .less (c.less o) (.done (i q))
theorem yQ(f:m.solo=true){w:bH}(g:w.iU)(e:w.fair.aF.length<=6/\w.aD.length<=3){h:Int}(i:bW w [h] [] []=0)(j:KF (.val (.bp [ints (aC (kE w h)),ints (aC (kC w h)),int 0])) σ):aB prog m 27 [aT w,int h] σ KF:=by
 have k:Wl [aT w,.sl 1 [int h] .exact,iv,iv] [aT w,ints [h],ints [],ints []]:=LL (.refl _) (bQ 1 _ _) (cz 1) (cz 1);refine fs Uk 2 Tryz.func27 rfl rfl (by rfl) (by kernel_rfl) ?_;simp[Tryz.f27];refine aM Tryz.func41 rfl rfl k (fQ f g ⟨by simp,by simp,by simp⟩ (λq=>absurd i q) λq a fb mb l=>?_);have c:=l.less (.refl mb a);refine rn ?_;simp;refine cf Tryz.func59 rfl (CK.sO e.1 e.2 ?_);refine af.runN lay [] 1 ?_;simp;refine bq.intro λd hd=>?_
 simp;change af _ _ _ _ _ _ _ _ _;refine af.runN lay [] 1 ?_;simp;change af _ _ _ _ _ _ _ _ _;refine af.aV 9 (b:=d) (Ai w h) (aa.ao _ _ _) (by simp) rfl ?_;rw[dz hd];refine rn ?_;simp;refine cf Tryz.func60 rfl (il ?_);refine pg ?_;simp;refine cf Tryz.func60 rfl (il ?_);refine pg ?_;simp;refine rn ?_;simp;exact .less c (.done j)
theorem FD(a:m.solo=true){w:bH}(c:w.iU)(d:w.Open){h i:Int}(e:0<=i/\i<6)(f:bW w [h] [i] []=0)(g:KF (.val (.bp [ints (Ez w h i),int 0])) σ):aB prog m 28 [aT w,int h,int i] σ KF:=by
 have j:Wl [aT w,.sl 1 [int h] .exact,.sl 1 [int i] .exact,iv] [aT w,ints [h],ints [i],ints []]:=LL (.refl _) (bQ 1 _ _) (bQ 1 _ _) (cz 1);refine fs [] 3 Tryz.func28 rfl rfl (by rfl) (by kernel_rfl) ?_;simp[Tryz.f28];refine aM Tryz.func41 rfl rfl j (fQ a c ⟨by simp,by simp,by simp⟩ (λq=>absurd f q) λq k fb mb b=>?_);refine rn ?_;simp;refine cf Tryz.func61 rfl (Am a d e b.tQ λl o n=>?_);refine rn ?_;simp;exact .less (b.less n) (.done g)
def wX(w:bH)(h i:Int):Bool:=decide (0<(Ez w h i).length)
def bE(w:bH)(i:Int):Nat->Int × List (Int × Int)
 |0=>(1048576,[])
 |h+1=>if(h:Int)<=72/\wX w h i=true then(if(h:Int)<(bE w i h).1 then(h:Int)else(bE w i h).1,(bE w i h).2)else if(bE w i h).1<1048576 then(1048576,(bE w i h).2++[((bE w i h).1,(h:Int)-1)])else(1048576,(bE w i h).2)
def bN(w:bH)(i:Int):List (Int × Int):=(bE w i 74).2
abbrev jm(r:Int × Int):AV:=.agg [int r.1,int r.2]
theorem An(w:bH)(i:Int):∀h:Nat,0<=(bE w i h).1/\(bE w i h).1<=1048576
 |0=>by simp[bE]
 | h+1=>by
   have:=An w i h;unfold bE;split
   . simp only;split<;>omega
   split<;>simp
theorem Cu(w:bH)(i:Int):∀d h:Nat,(bE w i h).2 <+: (bE w i (h+d)).2
 |0,h=>List.prefix_refl _
 | d+1,h=>by
   refine(Cu w i d h).trans ?_;show _ <+: (bE w i ((h+d)+1)).2
   conv=>rhs;unfold bE
   split
   . exact List.prefix_refl _
   split
   . exact List.prefix_append _ _
   . exact List.prefix_refl _
theorem FE{w:bH}{i:Int}{h:Nat}(d:h<74){r:Int × Int}(b:(bE w i (h+1)).2=(bE w i h).2++[r]):∃f:(bE w i h).2.length<(bN w i).length,(bN w i)[(bE w i h).2.length]=r:=by
 have a:=Cu w i (73-h) (h+1);rw[show h+1+(73-h)=74 by omega,b]at a;obtain⟨t,c⟩:=a;have e:bN w i=(bE w i h).2++[r]++t:=c.symm;refine⟨by rw[e];simp,?_⟩;simp[e]
theorem yR(C:m.solo=true){w:bH}{fb mb:Nat}{i:Int}(D:w.Open)(E:0<=i/\i<6){y:AV}{I:Nat->aa->Prop}(F:y.cells=[y]/\y.flat=true)
 (x:∀k σ σ',I k σ->dX mb σ σ'->dI w mb σ'->I k σ') (hb:∀k σ,I k σ->dI w mb σ)
 (B:∀k (G:k<(bN w i).length) (σ:aa) (K:cJ->aa->Prop),I k σ->(∀σ',I (k+1) σ'->K (.val (bool true)) σ')->bz prog m y [jm (bN w i)[k]] σ K)
 (H:I 0 σ) (h:∀σ',I (bN w i).length σ'->KF (.val (.bp [])) σ'):aB prog m 100 [y,.cp (pw fb mb w 0) 0,.cp (int i) 0] σ KF:=by
 refine fs [] 3 Tryz.func100 rfl rfl (by rfl) (by kernel_rfl) ?_;simp[Tryz.f100];refine af.loop 74 (λk s=>∃env σ',s=⟨env,σ',[],.no⟩/\env 0=y/\env 1=.cp (pw fb mb w 0) 0/\env 2=.cp (int i) 0/\env 4=int (bE w i k).1/\env 7=int k/\I (bE w i k).2.length σ') ⟨_,_,rfl,by simp,by simp,by simp,by simp[bE],by simp,H⟩ ?_;rintro O k _ G ⟨env,σ',rfl,f,o,p,v,g,e⟩ t;have J:=An w i k;refine rn ?_;simp[g];refine aG.intro (λr=>?_) (λr=>?_)<;>(try simp[-Int.not_lt,-Int.not_le,-Nat.not_lt,-Nat.not_le]at r)<;>(try simp[g,r])
 . have r : k<74:=by omega
   refine qJ.intro (λz=>?_) (λz=>?_)<;>(try simp[-Int.not_lt,-Int.not_le,-Nat.not_lt,-Nat.not_le]at z)<;>(try simp[o,p,v,z])
   . refine cf Tryz.func61 rfl (Am C D E (hb _ _ e) λL M N=>?_)
     have e:=x _ _ _ e N M;refine rn ?_;simp;refine aG.intro (λu=>?_) (λu=>?_)<;>(try simp[-Int.not_lt,-Int.not_le,-Nat.not_lt,-Nat.not_le]at u)<;>(try simp[v,g,u])
     . have a:bE w i (k+1)=(if (k:Int)<(bE w i k).1 then (k:Int)else (bE w i k).1,(bE w i k).2):=by
        conv=>lhs;unfold bE
        rw[if_pos ⟨by omega,by unfold wX;simpa using u⟩]
       refine⟨by omega,t _ (by omega) ⟨_,_,rfl,by simp[f],by simp[o],by simp[p],by rw[a];simp,by simp,by rw[a];exact e⟩⟩
     . have c:¬((k:Int)<=72/\wX w k i=true):=λq=>by have:=q.2;simp[wX,u]at this
       refine qJ.intro (λd=>?_) (λd=>?_)<;>(try simp[-Int.not_lt,-Int.not_le,-Nat.not_lt,-Nat.not_le]at d)<;>(try simp[f,v,g,d])
       . have a:bE w i (k+1)=(1048576,(bE w i k).2++[((bE w i k).1,(k:Int)-1)]):=by
          conv=>lhs;unfold bE
          rw[if_neg c,if_pos d]
         obtain⟨A,j⟩:=FE (w:=w) (i:=i) r (by rw[a]);have b:=B _ A;rw[j]at b;refine⟨by omega,?_⟩;refine b _ _ e λl n=>?_
         refine rn ?_;simp[g];refine⟨by omega,t _ (by omega) ⟨_,l,rfl,by simp[f],by simp[o],by simp[p],by rw[a];simp,by simp,by rw[a,List.length_append];exact n⟩⟩
       . have a:bE w i (k+1)=(1048576,(bE w i k).2):=by
          conv=>lhs;unfold bE
          rw[if_neg c,if_neg d]
         refine⟨by omega,t _ (by omega) ⟨_,_,rfl,by simp[f],by simp[o],by simp[p],by rw[a];simp,by simp,by rw[a];exact e⟩⟩
   . have c:¬((k:Int)<=72/\wX w k i=true):=λq=>by omega
     refine qJ.intro (λd=>?_) (λd=>?_)<;>(try simp[-Int.not_lt,-Int.not_le,-Nat.not_lt,-Nat.not_le]at d)<;>(try simp[f,v,g,d])
     . have a:bE w i (k+1)=(1048576,(bE w i k).2++[((bE w i k).1,(k:Int)-1)]):=by
        conv=>lhs;unfold bE
        rw[if_neg c,if_pos d]
       obtain⟨A,j⟩:=FE (w:=w) (i:=i) r (by rw[a]);have b:=B _ A;rw[j]at b;refine⟨by omega,?_⟩;refine b _ _ e λl n=>?_
       refine rn ?_;simp[g];refine⟨by omega,t _ (by omega) ⟨_,l,rfl,by simp[f],by simp[o],by simp[p],by rw[a];simp,by simp,by rw[a,List.length_append];exact n⟩⟩
     . have a:bE w i (k+1)=(1048576,(bE w i k).2):=by
        conv=>lhs;unfold bE
        rw[if_neg c,if_neg d]
       refine⟨by omega,t _ (by omega) ⟨_,_,rfl,by simp[f],by simp[o],by simp[p],by rw[a];simp,by simp,by rw[a];exact e⟩⟩
 . have ek:k=74:=by omega
   subst ek;exact .done (h _ e)
end Go.Proofs.YtkcceaplmgdnfaaGreatDoor
