import Derived.Test.YtldmpfccgajobaaGreatDoorC37
set_option linter.all false
namespace Go.Proofs.YtldmpfccgajobaaGreatDoor
open Go.aR
abbrev Vn:List Entry:=[⟨3,.take [0,1,2] false (.one 3 (.one 4 (.take [5] true (.done))))⟩,⟨16,.take [0,1,2,3,4,5,6,7,8,9,10] false (.one 11 (.take [12,13,14,15,16,17,18,19] false (.one 20 (.take [21,22] true (.done)))))⟩]
abbrev R8:List Entry:=[⟨4,.take [0,1,2,4,5,6] false (.both 3 (.both 7 (.both 8 (.one 9 (.one 10 (.done))) (.one 9 (.one 8 (.one 10 (.done))))) (.one 9 (.one 7 (.one 8 (.one 10 (.done)))))) (.one 9 (.one 3 (.one 7 (.one 8 (.one 10 (.done)))))))⟩,⟨8,.take [0,2,3,4,5,8,10,11,12,13] false (.both 1 (.both 6 (.both 7 (.both 9 (.one 14 (.one 15 (.one 16 (.one 17 (.done))))) (.one 14 (.one 9 (.one 15 (.one 16 (.one 17 (.done))))))) (.both 9 (.both 7 (.one 14 (.one 15 (.one 16 (.one 17 (.done))))) (.one 14 (.both 7 (.one 15 (.one 16 (.one 17 (.done)))) (.one 15 (.one 7 (.one 16 (.one 17 (.done)))))))) (.one 14 (.both 7 (.one 9 (.one 15 (.one 16 (.one 17 (.done))))) (.one 9 (.both 7 (.one 15 (.one 16 (.one 17 (.done)))) (.one 15 (.one 7 (.one 16 (.one 17 (.done))))))))))) (.one 9 (.one 6 (.both 7 (.one 14 (.one 15 (.one 16 (.one 17 (.done))))) (.one 14 (.both 7 (.one 15 (.one 16 (.one 17 (.done)))) (.one 15 (.one 7 (.one 16 (.one 17 (.done))))))))))) (.both 6 (.both 1 (.both 7 (.both 9 (.one 14 (.one 15 (.one 16 (.one 17 (.done))))) (.one 14 (.one 9 (.one 15 (.one 16 (.one 17 (.done))))))) (.both 9 (.both 7 (.one 14 (.one 15 (.one 16 (.one 17 (.done))))) (.one 14 (.both 7 (.one 15 (.one 16 (.one 17 (.done)))) (.one 15 (.one 7 (.one 16 (.one 17 (.done)))))))) (.one 14 (.both 7 (.one 9 (.one 15 (.one 16 (.one 17 (.done))))) (.one 9 (.both 7 (.one 15 (.one 16 (.one 17 (.done)))) (.one 15 (.one 7 (.one 16 (.one 17 (.done))))))))))) (.both 9 (.both 1 (.both 7 (.one 14 (.one 15 (.one 16 (.one 17 (.done))))) (.one 14 (.both 7 (.one 15 (.one 16 (.one 17 (.done)))) (.one 15 (.one 7 (.one 16 (.one 17 (.done)))))))) (.one 14 (.both 1 (.both 7 (.one 15 (.one 16 (.one 17 (.done)))) (.one 15 (.one 7 (.one 16 (.one 17 (.done)))))) (.one 15 (.one 1 (.one 7 (.one 16 (.one 17 (.done))))))))) (.one 14 (.both 1 (.both 7 (.one 9 (.one 15 (.one 16 (.one 17 (.done))))) (.one 9 (.both 7 (.one 15 (.one 16 (.one 17 (.done)))) (.one 15 (.one 7 (.one 16 (.one 17 (.done)))))))) (.one 9 (.both 1 (.both 7 (.one 15 (.one 16 (.one 17 (.done)))) (.one 15 (.one 7 (.one 16 (.one 17 (.done)))))) (.one 15 (.one 1 (.one 7 (.one 16 (.one 17 (.done)))))))))))) (.one 9 (.both 1 (.one 6 (.both 7 (.one 14 (.one 15 (.one 16 (.one 17 (.done))))) (.one 14 (.both 7 (.one 15 (.one 16 (.one 17 (.done)))) (.one 15 (.one 7 (.one 16 (.one 17 (.done))))))))) (.one 6 (.both 1 (.both 7 (.one 14 (.one 15 (.one 16 (.one 17 (.done))))) (.one 14 (.both 7 (.one 15 (.one 16 (.one 17 (.done)))) (.one 15 (.one 7 (.one 16 (.one 17 (.done)))))))) (.one 14 (.both 1 (.both 7 (.one 15 (.one 16 (.one 17 (.done)))) (.one 15 (.one 7 (.one 16 (.one 17 (.done)))))) (.one 15 (.one 1 (.one 7 (.one 16 (.one 17 (.done))))))))))))))⟩]
abbrev R9:List Entry:=[⟨8,.take [0,1,2,3,5,6,7,8] false (.one 4 (.one 9 (.take [10] true (.done))))⟩,⟨10,.take [0,1,2,3,4,5,6,7,9,11] false (.one 8 (.take [10] true (.done)))⟩]
end Go.Proofs.YtldmpfccgajobaaGreatDoor
namespace Go.Proofs.YtldmpfccgajobaaGreatDoor
open Go.aR Go.Conc
set_option maxHeartbeats 1000000
set_option maxRecDepth 4000
variable{m:Mo}{σ:aa}{KF:dF->aa->Prop}
theorem ib(r:m.solo=true){f:Fr}{l:List Int}{sp:bX}(o:f.Fits)(p:check f=0)(s:∀n∈l,0<=n/\n<f.ao.length)(j:l.length<1152921504606846976)(g:am f []=[])(h:∀σ',σ.Le σ'->KF (.val (.bk [.lit (.pointer none),int 11])) σ'):ar Tryz.prog m 62 [az f,.sl 1 (l.map int) sp] σ KF:=by
 have t:=Fr.eh o p;have u:=l8 p s;refine ar.start lay [] [] 2 Tryz.func62 rfl rfl (by rfl) (by kernel_rfl) ?_
 simp[Tryz.f62];have v:Wl [AV.agg (bS f),.sl 1 (l.map int) sp] [az f,ints l]:=.cons (.refl _) (.cons (eE 1 _ sp) .nil);refine aT Tryz.func59 rfl rfl v (fI o j (λq=>absurd u q) λ_ b mb σ' d=>?_)
 have w:rj b 6 mb .u8 (cO f) σ':=by rw[d.eq];exact⟨aa.an _ _ _,[],(aa.ag _ _ (Ne.symm d.ne)).trans (aa.an _ _ _),λn a h=>by simp[gu]at h⟩
 refine ab.run lay [] ?_;simp;refine ai Tryz.func88 rfl rfl (mR (eo ln lp qH r d.ne) t w λk B y=>?_)
 refine ab.run lay [] ?_;simp[g];refine .done (h k λc x i=>?_)
 have z:c≠b:=λe=>by subst e;rw[d.hb]at i;cases i
 have A:c≠mb:=λe=>by subst e;rw[d.tk]at i;cases i
 exact y c x (d.le c x i) z (.inl A)
end Go.Proofs.YtldmpfccgajobaaGreatDoor
namespace Go.Proofs.YtldmpfccgajobaaGreatDoor
open Go.aR Go.Conc
set_option maxHeartbeats 2000000
set_option maxRecDepth 4000
theorem vZ{f:Fr}(b:f.Good)(e:gq):bL f e≠[]:=by
 unfold bL gz;have:=b.le;by_cases a:e.fT=0
 . simp[a]
 . have c:(f.iQ-f.bE+1).toNat=(f.iQ-f.bE).toNat+1:=by omega
   rw[if_pos a,c,List.range_succ_eq_map];split<;>simp
end Go.Proofs.YtldmpfccgajobaaGreatDoor
namespace Go.Proofs.YtldmpfccgajobaaGreatDoor
open Go.aR Go.Conc
set_option maxHeartbeats 1000000
set_option maxRecDepth 4000
section
variable{k:Int->Int}
end
theorem DH:∀a:Fin 32,∀b:Fin 32,∀c:Fin 32,bc (a.val:Int) (c.val:Int)<=bc (a.val:Int) (b.val:Int)+bc (b.val:Int) (c.val:Int):=by decide +kernel
theorem ip{l:List Int}(h:ma none l=0):∃a:Fin 32,bd l=(a.val:Int):=by have:=jb (mT h);exact⟨⟨(bd l).toNat,by omega⟩,by show bd l=((bd l).toNat:Int);omega⟩
def Fit(f:Fr)(a b:Int):Prop:=fR f a b=false
theorem Fr.Good.Sa{f:Fr}(b:f.Good){i j k:Nat}(c:i<f.roads.length)(d:j<f.roads.length)(e:k<f.roads.length):rd f.roads i k<=rd f.roads i j+rd f.roads j k:=by
 have h:=b.Io;unfold fe at h;split at h
 . cases h
 split at h
 . cases h
 split at h
 . next q=>exact absurd h q
 split at h
 . cases h
 next q=>
 simp only[List.any_eq_true,List.mem_range,not_exists,not_and]at q;have a:=q i c k e;unfold bW at a;simp only[Bool.or_eq_true,not_or,List.any_eq_true,List.mem_range,not_exists,not_and,decide_eq_true_eq]at a;have:=a.2 j d;omega
theorem yH{f:Fr}(d:f.Good){a b c:Int}(q:0<=a/\a<f.ao.length)(hb:0<=b/\b<f.ao.length)(r:0<=c/\c<f.ao.length)(e:Fit f a b)(g:Fit f b c):Fit f a c:=by
 have h:=lu (d.uB _ (iJ q));have l:=lu (d.uB _ (iJ hb));have m:=lu (d.uB _ (iJ r));have hd:=d.dG;obtain⟨A,n⟩:=ip h.2.2.2.2.2;obtain⟨B,o⟩:=ip l.2.2.2.2.2;obtain⟨C,p⟩:=ip m.2.2.2.2.2;have s:=DH A B C;have u:=h.2.1;have v:=l.2.1;have pc:=m.2.1;have w:=d.Sa (i:=(be f a).place.toNat) (j:=(be f b).place.toNat) (k:=(be f c).place.toNat) (by omega) (by omega) (by omega);unfold Fit fR at e g ⊢;rw[n,o]at e;rw[o,p]at g;rw[n,p];simp only[decide_eq_false_iff_not]at e g ⊢;have t:f.dG*bc (A.val:Int) (C.val:Int)<=f.dG*(bc (A.val:Int) (B.val:Int)+bc (B.val:Int) (C.val:Int)):=Int.mul_le_mul_of_nonneg_left s (by omega);rw[Int.mul_add]at t;omega
theorem DI{f:Fr}(b:f.Good)(n:Int):mG f [n]=0:=by
 have e:aU f [n]=[n]:=by simp[aU,dp,fH]
 refine sk.2 ?_;rw[e];refine⟨by simp[dt],?_,rfl⟩;unfold ci;simp only[decide_eq_false_iff_not];obtain⟨x,c⟩:=List.exists_mem_of_ne_nil _ (vZ b (be f n));exact List.ne_nil_of_mem ((sm (by simp)).2 (λj a=>by simp at a;subst a;exact c))
theorem fg(f:Fr)(begun:List Int):∀(fuel:Nat) (de:List Int) (many:Int) (a:List Int),begun.length<=de.length->dv f begun fuel de many a=dv f [] fuel de many a
 |0,_,_,_,_=>rfl
 | fuel+1,de,many,a,h=>by
   unfold dv;congr 1;funext k;have b:¬(de.length<begun.length/\begun.getD de.length 0≠(k:Int)):=by omega
   have c:¬(de.length<([]:List Int).length/\([]:List Int).getD de.length 0≠(k:Int)):=by simp
   rw[if_neg b,if_neg c];split
   . exact fg f begun fuel _ _ _ (by simp;omega)
   . rfl
theorem rt{f:Fr}(b:f.Good)(e:2<=f.ao.length):am f []=am f [0,0]++am f [0,1]:=by
 obtain⟨n,c⟩:∃n,f.ao.length=n+2:=⟨f.ao.length-2,by omega⟩;have g:=b.most;have d:(min ((0:Int)+1) f.most).toNat=1:=by omega
 unfold am;rw[c];unfold dv;rw[d];simp only[List.range_succ,List.range_zero,List.nil_append,List.flatMap_cons,List.flatMap_nil,List.append_nil];simp;by_cases a:jc f (bH 0 0)=true
 . simp only[a,if_true]
   unfold dv;have e2:(min (max (0:Int) 1+1) f.most).toNat=1\/(min (max (0:Int) 1+1) f.most).toNat=2:=by omega
   rcases e2 with e2|e2
   . rw[e2]
     simp only[List.range_succ,List.range_zero,List.nil_append,List.flatMap_cons,List.flatMap_nil,List.append_nil];simp;rw[fg f [0,0] n [0,0] _ _ (by simp)]
   . rw[e2]
     simp only[List.range_succ,List.range_zero,List.nil_append];simp;rw[fg f [0,0] n [0,0] _ _ (by simp),fg f [0,1] n [0,1] _ _ (by simp)]
 . simp[a]
theorem ru{f:Fr}(a:f.Good)(b:2<=f.ao.length):gT f=((am f []).length:Int):=by
 unfold gT;rw[if_neg (by omega),rt a b,List.length_append];omega
end Go.Proofs.YtldmpfccgajobaaGreatDoor
namespace Go.Proofs.YtldmpfccgajobaaGreatDoor
open Go.aR Go.Conc
set_option maxHeartbeats 1000000
set_option maxRecDepth 4000
variable{m:Mo}{σ:aa}{KF:dF->aa->Prop}
def cJ(g:List Int->Int):Option (List Int)->List Int->Option (List Int)
 |none,w=>some w
 |some v,w=>if g w<g v then some w else some v
def gQ(g:List Int->Int):Option (List Int)->List AV
 |none=>[.lit (.slice none 0 0),int 0,bool false]
 |some w=>[ints w,int (g w),bool true]
theorem rv(g:List Int->Int){l:List (List Int)}(h:l≠[]):∃w,l.foldl (cJ g) none=some w/\w∈l:=by
 have key:∀(l:List (List Int)) (v:List Int),∃w,l.foldl (cJ g) (some v)=some w/\(w=v\/w∈l):=λl=>by
  induction l with
  |nil=>intro v;exact⟨v,rfl,.inl rfl⟩
  | cons a l d=>
    intro v;rw[List.foldl_cons];by_cases q:g a<g v
    . rw[show cJ g (some v) a=some a by simp[cJ,q]]
      obtain⟨w,c,b⟩:=d a;exact⟨w,c,.inr (by rcases b with rfl|b<;>simp[*])⟩
    . rw[show cJ g (some v) a=some v by simp[cJ,q]]
      obtain⟨w,c,b⟩:=d v;exact⟨w,c,by rcases b with rfl|b<;>simp[*]⟩
 cases l with
 |nil=>exact absurd rfl h
 |cons a l=>obtain⟨w,c,b⟩:=key l a;exact⟨w,c,by rcases b with rfl|b<;>simp[*]⟩
theorem BR{g:List Int->Int}{c:Nat}{o:Option (List Int)}{w:List Int}{n:Int}(d:n=g w)(a:σ c=some (.cells (gQ g o)))(h:∀σ',σ' c=some (.cells (gQ g (cJ g o w)))->(∀x,x≠c->σ' x=σ x)->KF (.val (.bk [])) σ'):ar Tryz.prog m 64 [.ref c 0,ints w,int n] σ KF:=by
 subst d;cases o with
 | none=>
   simp only[gQ]at a;refine ar.start lay [] [] 3 Tryz.func64 rfl rfl (by rfl) (by kernel_rfl) ?_;simp[Tryz.f64,a];refine .done (h _ (aa.an _ _ _) λx b=>?_);simp[aa.ag,b]
 | some v=>
   simp only[gQ]at a;refine ar.start lay [] [] 3 Tryz.func64 rfl rfl (by rfl) (by kernel_rfl) ?_;simp[Tryz.f64,a];by_cases q:g w<g v
   . simp[aE,q,a]
     simp only[cJ,if_pos q]at h;refine .done (h _ (aa.an _ _ _) λx b=>?_);simp[aa.ag,b]
   . simp[aE,q]
     simp only[cJ,if_neg q]at h;exact .done (h _ a λx _=>rfl)
theorem yI{P:Program}{o:Oper}{env:Env}{σ:aa}{K Kp:AV->aa->Prop}{t:Nat}{x:Operand}{a:Int}(c:o.op=.unOp .neg t x)(e:aq env x=int a)(f:-9223372036854775808<=-a/\-a<=9223372036854775807)(g:K (int (-a)) σ):aM P o env σ K Kp:=λk O h b i=>by
 have d:=b x (by simp[c,Op.operands]);rw[e]at d;have j:=c9 d;have:execOp h o=pure (.value (.int .i64 (-a))):=by simp[execOp,c,j,Op.unary,Op.intArith,wrap_i64 f]
 rw[this];exact ak ⟨_,.inl rfl,.here ⟨.refl k,_,σ,.lit _,i,g⟩⟩
theorem v2{l:List Int}(a:l.length<1152921504606846976)(hb:∀x∈l,-1<=x/\x<=1000)(h:KF (.val (int (aB l))) σ):ar Tryz.prog m 65 [ints l] σ KF:=yJ a hb h
abbrev Dg(w:List Int):Int:=-aB w
theorem Gv(hs:m.solo=true){f:Fr}{w v:List Int}(hf:f.Fits)(s:check f=0)(C:(am f []).foldl (cJ aB) none=some w)(hv:(am f []).foldl (cJ Dg) none=some v)(hlen:(am f []).length<1152921504606846976)(h:KF (.val (.bk [.agg [int (aB w),int (aB v)],int 0])) σ):ar Tryz.prog m 17 [az f] σ KF:=by
 have hg:=Fr.eh hf s;have c8:=hg.oA;have ca:=hg.most;have E:am f []≠[]:=λe=>by rw[e]at C;cases C
 have b0:∀w∈am f [],w.length=f.ao.length:=λw C=>by have:=fP f [] _ _ _ _ w C;simpa using this
 have Q:∀w∈am f [],∀x∈w,0<=x/\x<f.most:=λw C=>jY f [] _ _ _ _ (by simp) w C
 have R:∀w∈am f [],0<=aB w/\aB w<=6:=λw C=>⟨mU w,pL w 6 (by omega) λx D=>by have:=Q w C x D;omega⟩
 refine ar.start lay [] [] 1 Tryz.func17 rfl rfl (by rfl) (by kernel_rfl) ?_
 simp[Tryz.f17];refine bT.intro λt h2=>?_
 simp;have hW:Wl [az f,AV.lit (.slice none 0 0)] [az f,.sl 1 (([]:List Int).map int) .any]:=.cons (.refl _) (.cons (cV 1) .nil);refine aT Tryz.func62 rfl rfl hW (jX (l:=[]) (sp:=.any) hs hf s (by simp) (by simp) E λb mb j b1 hu J G=>?_)
 refine ab.run lay [] ?_;simp;have LK:Fa Tryz.prog m nn b 6 mb .u8 (cO f) (rj b 6 mb .u8 (cO f)) (RV b 6 mb .u8):=eo ln lp qH hs b1;refine bT.intro λn h6=>?_
 simp;refine bT.intro λp h7=>?_
 obtain⟨S,b2,h7⟩:=aa.aG h7;simp;have hW:Wl [iY b mb f 0,AV.lit (.slice none 0 0)] [iY b mb f 0,ints []]:=.cons (.refl _) (.cons (cV 1) .nil);refine aT Tryz.func63 rfl rfl hW (qk (begun:=[]) ?_);refine ab.run lay [] ?_;simp;refine ab.rangeFunc rfl λb3 r l H K L=>?_
 obtain⟨a1,_,H⟩:=aa.aG H;obtain⟨T,_,K⟩:=aa.aG K;obtain⟨a3,_,H⟩:=aa.aG H;obtain⟨U,_,K⟩:=aa.aG K;have V:j t=some (.cells [int 0,int 0]):=G _ _ (aa.an _ _ _);have cb:t≠n:=λe=>by subst e;rw[V]at h6;cases h6
 have cg:t≠p:=λe=>by subst e;rw[V]at h7;cases h7
 have W:t≠r:=λe=>by subst e;rw[V]at H;cases H
 have b4:t≠l:=λe=>by subst e;rw[V]at K;cases K
 generalize X:mM.mk _ _ _ _ _ _ _ _ _=Y
 have hY:Ma m (.fn (.yield l) [] []) (am f []) (λk F d=>(∀c,F c↔c=l\/c=n\/c=p)/\d l=some (.loop Y)/\d n=some (.cells (gQ aB (((am f []).take k).foldl (cJ aB) none)))/\d p=some (.cells (gQ Dg (((am f []).take k).foldl (cJ Dg) none)))) (λF d=>False):=by
  refine⟨λk F d cl hk M hT hF=>?_,λk F b5 Z he M=>?_,λF b5 Z he M=>M.elim,λk F d c M s=>?_⟩
  . obtain⟨i,O,g3,g4⟩:=M
    have u:(am f [])[k]∈am f []:=List.getElem_mem hk;have cm:=R _ u
    have y:∀g,((am f []).take (k+1)).foldl (cJ g) none=cJ g (((am f []).take k).foldl (cJ g) none) (am f [])[k]:=λg=>by rw[List.take_succ_eq_append_getElem hk,List.foldl_append];rfl
    have I:(am f [])[k].length<1152921504606846976:=by rw[b0 _ u];omega
    have a7:∀x∈(am f [])[k],-1<=x/\x<=1000:=λx D=>by have:=Q _ u x D;omega
    subst X;refine dX.tA (hold:=[]) b3 Tryz.func17 O rfl ?_;refine ab.run lay [] ?_;simp[lU];refine ab.beginRound O rfl ?_;refine ab.run lay [] ?_;simp;refine ai Tryz.func65 rfl rfl (v2 I a7 ?_);refine ab.run lay [] ?_;simp;refine ai Tryz.func64 rfl rfl (BR (g:=aB) (o:=((am f []).take k).foldl (cJ aB) none) (w:=(am f [])[k]) rfl ((aa.ag _ _ (Ne.symm U)).trans g3) λZ q1 N=>?_)
    refine ab.run lay [] ?_;simp;refine ai Tryz.func65 rfl rfl (v2 I a7 ?_);refine ab.run lay [] ?_;simp;refine yI (a:=aB (am f [])[k]) rfl (by simp) (by omega) ?_
    refine ab.run lay [] ?_;simp;refine ai Tryz.func64 rfl rfl (BR (g:=Dg) (o:=((am f []).take k).foldl (cJ Dg) none) (w:=(am f [])[k]) rfl (by rw[N p S];exact(aa.ag _ _ (Ne.symm T)).trans g4) λcv q3 P=>?_)
    refine ab.run lay [] ?_;simp;refine⟨rfl,rfl,_,((P l T).trans ((N l U).trans (aa.an _ _ _))),?_⟩;refine hT F _ (λc x s D=>⟨?_,s⟩) ⟨i,aa.an _ _ _,?_,?_⟩
    . have p1:c≠l:=λe=>s ((i c).2 (.inl e))
      have p3:c≠n:=λe=>s ((i c).2 (.inr (.inl e)))
      have p4:c≠p:=λe=>s ((i c).2 (.inr (.inr e)))
      exact(aa.ag _ _ p1).trans ((P c p4).trans ((N c p3).trans ((aa.ag _ _ p1).trans D)))
    . rw[y]
      exact(aa.ag _ _ (Ne.symm U)).trans ((P n (Ne.symm S)).trans q1)
    . rw[y]
      exact(aa.ag _ _ (Ne.symm T)).trans q3
  . obtain⟨i,O,g3,g4⟩:=M
    exact⟨i,by rw[he l ((i l).2 (.inl rfl))];exact O,by rw[he n ((i n).2 (.inr (.inl rfl)))];exact g3,by rw[he p ((i p).2 (.inr (.inr rfl)))];exact g4⟩
  . obtain⟨i,O,g3,g4⟩:=M
    rcases(i c).1 s with rfl|rfl|rfl
    . exact⟨_,O,rfl⟩
    . exact⟨_,g3,rfl⟩
    . exact⟨_,g4,rfl⟩
 obtain⟨xb,a8,dd⟩:=LK.Mb hu;have nb:∀c,j c=none->c≠b:=λc s e=>by subst e;rw[s]at a8;cases a8
 have b6:t≠b:=λe=>by have:=J.1;rw[<-e,aa.an]at this;cases this
 have a9:j.Le ((((j.set n (.cells (gQ aB none))).set p (.cells (gQ Dg none))).set r (.raw (.deferred (some [])))).set l (.loop Y)):=(by repeat (first|exact aa.le_refl _|assumption|refine aa.iz ?_ (by assumption)|refine aa.jZ ?_ (by assumption)))
 have sr:((((j.set n (.cells (gQ aB none))).set p (.cells (gQ Dg none))).set r (.raw (.deferred (some [])))).set l (.loop Y)) r=some (.raw (.deferred (some []))):=(aa.ag _ _ L).trans (aa.an _ _ _)
 have s6:((((j.set n (.cells (gQ aB none))).set p (.cells (gQ Dg none))).set r (.raw (.deferred (some [])))).set l (.loop Y)) n=some (.cells (gQ aB none)):=by rw[aa.ag _ _ (Ne.symm U),aa.ag _ _ (Ne.symm a3),aa.ag _ _ b2,aa.an]
 have s7:((((j.set n (.cells (gQ aB none))).set p (.cells (gQ Dg none))).set r (.raw (.deferred (some [])))).set l (.loop Y)) p=some (.cells (gQ Dg none)):=by rw[aa.ag _ _ (Ne.symm T),aa.ag _ _ (Ne.symm a1),aa.an]
 refine eY Tryz.func112 rfl rfl rfl (nX (F:=λc=>c=l\/c=n\/c=p) LK hg (by simp) hY ⟨rfl,rfl⟩ (LK.un (λc _ ⟨x,h1,_⟩=>(a9 _ _ h1).trans h1.symm) hu) ⟨λc=>Iff.rfl,aa.an _ _ _,by simpa[gQ]using s6,by simpa[gQ]using s7⟩ λF' d ad dj av=>?_)
 have b7:=(ad r _ sr (λe=>by rcases e with e|e|e;exact L e;exact a3 e;exact a1 e) (nb r H) (.inr rfl)).1
 have z:lq b mb j d:=λc x h1 h2 b8=>(ad c x (a9 c x h1) (λe=>by rcases e with e|e|e<;>subst e<;>simp_all) h2 b8).1
 have ax:d t=some (.cells [int 0,int 0]):=z t _ V b6 (.inr rfl)
 rcases av with⟨_,q1,q3,P⟩|q
 . rw[List.take_length,C]at q3
   rw[List.take_length,hv]at P;subst X;refine⟨_,q1,by simp,rfl,?_⟩
   have b9:(d.del l) n=some (.cells [ints w,int (aB w),bool true]):=by simp only[aa.del,Ne.symm U,if_false];exact q3
   have bq:(d.del l) p=some (.cells [ints v,int (Dg v),bool true]):=by simp only[aa.del,Ne.symm T,if_false];exact P
   have bz:(d.del l) t=some (.cells [int 0,int 0]):=by simp only[aa.del,b4,if_false];exact ax
   refine ab.run lay [] ?_;simp[b9,bq];obtain⟨v',ay,bA⟩:=rv Dg E;rw[hv]at ay;obtain rfl:=Option.some.inj ay;have dr:=R _ bA;have bB:-Dg v=aB v:=Int.neg_neg _;refine yI (a:=Dg v) rfl (by simp) (by omega) ?_
   rw[bB];refine ab.run lay [] ?_;simp[bz,aH];refine⟨?_,[.agg [int (aB w),int (aB v)],int 0],?_,?_⟩
   . rw[aa.ag _ _ (Ne.symm W)]
     simp only[aa.del,L,if_false];exact b7
   . rw[aa.ag _ _ W,aa.an]
     rfl
   . refine .less (λc x D=>?_) (.done h)
     have c0:c≠t:=λe=>by subst e;rw[h2]at D;cases D
     have A:σ.set t (.cells [int 0,int 0]) c=some x:=(aa.ag _ _ c0).trans D;have B:=G c x A;have c1:c≠r:=λe=>by subst e;rw[H]at B;cases B
     have c5:c≠l:=λe=>by subst e;rw[K]at B;cases B
     have c3:c≠b:=λe=>by subst e;rw[J.1]at A;cases A
     have c4:c≠mb:=λe=>by subst e;rw[J.2]at A;cases A
     rw[aa.ag _ _ c1,aa.ag _ _ c0];simp only[aa.del,c5,if_false];exact z c x B c3 (.inl c4)
 . exact q.elim
end Go.Proofs.YtldmpfccgajobaaGreatDoor
namespace Go.Proofs.YtldmpfccgajobaaGreatDoor
open Go.aR Go.Conc
set_option maxHeartbeats 1000000
set_option maxRecDepth 4000
theorem yK{l:List (List Int)}(h:l≠[]):∃w,l.foldl di none=some w/\w∈l:=by
 have key:∀(l:List (List Int)) (v:List Int),∃w,l.foldl di (some v)=some w/\(w=v\/w∈l):=λl=>by
  induction l with
  |nil=>intro v;exact⟨v,rfl,.inl rfl⟩
  | cons a l d=>
    intro v;rw[List.foldl_cons];by_cases q:aB a<aB v
    . rw[show di (some v) a=some a by simp[di,q]]
      obtain⟨w,c,b⟩:=d a;exact⟨w,c,.inr (by rcases b with rfl|b<;>simp[*])⟩
    . rw[show di (some v) a=some v by simp[di,q]]
      obtain⟨w,c,b⟩:=d v;exact⟨w,c,by rcases b with rfl|b<;>simp[*]⟩
 cases l with
 |nil=>exact absurd rfl h
 |cons a l=>obtain⟨w,c,b⟩:=key l a;exact⟨w,c,by rcases b with rfl|b<;>simp[*]⟩
end Go.Proofs.YtldmpfccgajobaaGreatDoor
namespace Go.Proofs.YtldmpfccgajobaaGreatDoor
open Go.aR Go.Conc
set_option maxHeartbeats 1000000
variable{m:Mo}{σ:aa}{KF:dF->aa->Prop}
theorem dD{f:Fr}{n:Int}(a:f.ao.length<1152921504606846976)(h:KF (.val (bool (bx n 0 (f.ao.length-1)))) σ):ar Tryz.prog m 118 [az f,int n] σ KF:=by
 have f1:-9223372036854775808<=(f.ao.length:Int)-1/\(f.ao.length:Int)-1<=9223372036854775807:=by omega
 refine ar.start lay [] [] 2 Tryz.func118 rfl rfl (by rfl) (by kernel_rfl) ?_;simp[Tryz.f118,f1.1,f1.2];refine ai Tryz.func83 rfl rfl (cr ?_);refine ab.run lay [] ?_;simp;exact .done h
end Go.Proofs.YtldmpfccgajobaaGreatDoor
namespace Go.Proofs.YtldmpfccgajobaaGreatDoor
open Go.aR Go.Conc
set_option maxHeartbeats 1000000
set_option maxRecDepth 4000
variable{m:Mo}{σ:aa}{KF:dF->aa->Prop}
def aA(f:Fr)(asks:Bool)(x y:Int):Int:=if check f≠0 then check f else if asks=true/\¬(bx x 0 (f.ao.length-1)=true/\bx y 0 (f.ao.length-1)=true)then 3 else if am f []=[]then 11 else 0
theorem gL{f:Fr}{asks:Bool}{x y:Int}(j:f.Fits)(a:aA f asks x y≠0->KF (.val (.bk [.lit (.slice none 0 0),int (aA f asks x y)])) σ)(d:aA f asks x y=0->check f=0->am f []≠[]->KF (.val (.bk [rows (am f []),int 0])) σ):
 ar Tryz.prog m 66 [az f,bool asks,int x,int y] σ KF:=by
 have g:=j.ao;refine ar.start lay [] [] 4 Tryz.func66 rfl rfl (by rfl) (by kernel_rfl) ?_
 simp[Tryz.f66];refine ai Tryz.func34 rfl rfl (jW j ?_);refine ab.run lay [] ?_;simp;refine aE.intro (λb=>?_) (λb=>?_)<;>simp at b<;>simp[b]
 . have e:aA f asks x y=check f:=by unfold aA;rw[if_pos b]
   rw[e]at a;exact .done (a b)
 have k:=Fr.eh j b;have hlen:=cH k [];cases asks with
 | false=>
   have e:aA f false x y=if am f []=[]then 11 else 0:=by unfold aA;rw[if_neg (by simp[b]),if_neg (by simp)]
   rw[e]at a d;simp
   ((
     refine ai Tryz.func61 rfl rfl (jy k ?_);refine ab.run lay [] ?_;simp;refine aE.intro (λc=>?_) (λc=>?_)<;>simp at c
     . rw[if_pos c]at a
       simp;exact .done (a (by simp))
     . rw[if_neg c]at d
       simp;exact .done (d rfl b c)))
 | true=>
   simp;refine ai Tryz.func118 rfl rfl (dD g ?_);refine ab.run lay [] ?_;simp
   by_cases h:bx x 0 (f.ao.length-1)=true
   . simp [h]
     refine ai Tryz.func118 rfl rfl (dD g ?_);refine ab.run lay [] ?_;simp
     by_cases i:bx y 0 (f.ao.length-1)=true
     . have e:aA f true x y=if am f []=[]then 11 else 0:=by unfold aA;rw[if_neg (by simp[b]),if_neg (by simp[h,i])]
       rw[e]at a d;simp[i]
       ((
         refine ai Tryz.func61 rfl rfl (jy k ?_);refine ab.run lay [] ?_;simp;refine aE.intro (λc=>?_) (λc=>?_)<;>simp at c
         . rw[if_pos c]at a
           simp;exact .done (a (by simp))
         . rw[if_neg c]at d
           simp;exact .done (d rfl b c)))
     . have e:aA f true x y=3:=by unfold aA;rw[if_neg (by simp[b]),if_pos ⟨rfl,λq=>i q.2⟩]
       rw[e]at a;have mE:bx y 0 (f.ao.length-1)=false:=by simpa using i
       simp[mE];exact .done (a (by simp))
   . have e:aA f true x y=3:=by unfold aA;rw[if_neg (by simp[b]),if_pos ⟨rfl,λq=>h q.1⟩]
     rw[e]at a;have jj:bx x 0 (f.ao.length-1)=false:=by simpa using h
     simp[jj];exact .done (a (by simp))
end Go.Proofs.YtldmpfccgajobaaGreatDoor
namespace Go.Proofs.YtldmpfccgajobaaGreatDoor
open Go.aR Go.Conc
set_option maxHeartbeats 2000000
set_option maxRecDepth 4000
variable{m:Mo}{σ:aa}{KF:dF->aa->Prop}
theorem tC{f:Fr}(a:f.Good):gT f=((am f []).length:Int):=by
 by_cases b:2<=f.ao.length
 . exact ru a b
 have e:gT f=1:=by unfold gT;rw[if_pos (by omega)]
 rw[e];have g:=a.most;have c:(min ((0:Int)+1) f.most).toNat=1:=by omega
 have d:jc f (bH 0 0)=true:=by
  have:cD (bH 0 0)=[0]:=by decide +kernel
  unfold jc;rw[this,decide_eq_true_eq];exact DI a 0
 rcases(show f.ao.length=0\/f.ao.length=1 by omega)with hn|hn
 . unfold am;rw[hn];simp[dv]
 . unfold am;rw[hn]
   unfold dv;rw[c];simp only[List.range_succ,List.range_zero,List.nil_append,List.flatMap_cons,List.flatMap_nil,List.append_nil];simp[d,dv]
theorem v3(g:List Int->Int):∀(L:List (List Int)) (v:List Int),∃w,L.foldl (cJ g) (some v)=some w/\g w=L.foldl (λa x=>min a (g x)) (g v)
 |[],v=>⟨v,rfl,rfl⟩
 | a ::L,v=>by
   rw[List.foldl_cons,List.foldl_cons];by_cases q:g a<g v
   . rw[show cJ g (some v) a=some a by simp[cJ,q],show min (g v) (g a)=g a by omega]
     exact v3 g L a
   . rw[show cJ g (some v) a=some v by simp[cJ,q],show min (g v) (g a)=g v by omega]
     exact v3 g L v
theorem yL{g:List Int->Int}{L:List (List Int)}{w:List Int}(b:0<L.length)(h:L.foldl (cJ g) none=some w):g w=L.foldl (λa x=>min a (g x)) (g L[0]):=by
 cases L with
 |nil=>simp at b
 | cons a r=>
   rw[List.foldl_cons,show cJ g none a=some a from rfl]at h;obtain⟨e,c,d⟩:=v3 g r a;rw[c]at h;obtain rfl:=Option.some.inj h;rw[d,List.foldl_cons];congr 1;show g a=min (g a) (g a);omega
theorem BS(g:List Int->Int):∀(L:List (List Int)) (n:Int),L.foldl (λa x=>min a (-g x)) (-n)=-(L.foldl (λa x=>max a (g x)) n)
 |[],n=>rfl
 |a::L,n=>by rw[List.foldl_cons,List.foldl_cons,<-BS g L];congr 1;omega
namespace MA
end MA
end Go.Proofs.YtldmpfccgajobaaGreatDoor
namespace Go.Proofs.YtldmpfccgajobaaGreatDoor
open Go.aR Go.Conc
set_option maxHeartbeats 1000000
set_option maxRecDepth 4000
variable{m:Mo}{σ:aa}{KF:dF->aa->Prop}
def tD(f:Fr):Int × Int:=if check f≠0 then(0,check f)else(((am f []).length:Int),0)
theorem Gw{f:Fr}(b:f.Fits)(h:KF (.val (.bk [int (tD f).1,int (tD f).2])) σ):ar Tryz.prog m 16 [az f] σ KF:=by
 unfold tD at h;refine ar.start lay [] [] 1 Tryz.func16 rfl rfl (by rfl) (by kernel_rfl) ?_;simp[Tryz.f16];refine ai Tryz.func34 rfl rfl (jW b ?_);refine ab.run lay [] ?_;simp;refine aE.intro (λa=>?_) (λa=>?_)<;>simp at a<;>simp[a]
 . rw[if_pos a]at h
   exact .done h
 rw[if_neg (by simp[a])]at h;have c:=Fr.eh b a;have hlen:=cH c [];refine ai Tryz.func61 rfl rfl (jy c ?_);refine ab.run lay [] ?_;simp;exact .done h
theorem eZ{f:Fr}(b:f.Good){w:List Int}(a:w∈am f []):w.length=f.ao.length/\∀x∈w,0<=x/\x<f.most:=by
 refine⟨?_,jY f [] _ _ _ _ (by simp) w a⟩;have:=fP f [] _ _ _ _ w a;simpa using this
theorem gy{f:Fr}(h:aA f false 0 0=0):check f=0/\am f []≠[]:=by
 unfold aA at h;split at h
 . next q=>exact absurd h q
 next q=>
 rw[if_neg (by simp)]at h;split at h
 . cases h
 next a=>exact⟨by simpa using q,a⟩
def sn(L:List (List Int))(n:Int):Int:=L.foldl (λa x=>min a (aB x)) n
def rx(L:List (List Int))(n:Int):Int:=L.foldl (λa x=>max a (aB x)) n
def su(f:Fr):List Int:=if aA f false 0 0≠0 then[0,0,aA f false 0 0]else[sn (am f []) (aB ((am f []).headD [])),rx (am f []) (aB ((am f []).headD [])),0]
abbrev Ap(l:List Int):AV:=.bk [.agg [int (l.getD 0 0),int (l.getD 1 0)],int (l.getD 2 0)]
theorem Mg{f:Fr}(a:f.Good){w:List Int}(b:w∈am f []):0<=aB w/\aB w<=6:=by have c:=(eZ a b).2;have e:=a.most;exact⟨mU w,pL w 6 (by omega) λx d=>by have:=c x d;omega⟩
theorem Mh{L:List (List Int)}(e:∀w∈L,0<=aB w/\aB w<=6):∀(i:Nat) (n:Int),0<=n/\n<=6->(0<=sn (L.take i) n/\sn (L.take i) n<=6)/\(0<=rx (L.take i) n/\rx (L.take i) n<=6):=by
 have key:∀(l:List (List Int)),(∀w∈l,0<=aB w/\aB w<=6)->∀n:Int,0<=n/\n<=6->(0<=sn l n/\sn l n<=6)/\(0<=rx l n/\rx l n<=6):=by
  intro l;induction l with
  |nil=>intro _ n b;exact⟨b,b⟩
  | cons a l d=>
    intro h n b;have f:=h a (by simp);exact⟨(d (λw c=>h w (by simp[c])) (min n (aB a)) (by omega)).1,(d (λw c=>h w (by simp[c])) (max n (aB a)) (by omega)).2⟩
 exact λi n b=>key _ (λw c=>e w (List.mem_of_mem_take c)) n b
theorem DJ{f:Fr}(hf:f.Fits)(h:KF (.val (Ap (su f))) σ):ar Tryz.prog m 18 [az f] σ KF:=by
 unfold su at h;refine ar.start lay [] R8 1 Tryz.func18 rfl rfl (by rfl) (by kernel_rfl) ?_
 simp[Tryz.f18];refine bT.intro λp h2=>?_
 simp;refine ai Tryz.func66 rfl rfl (gL (asks:=false) hf (λE=>?_) λE _ _=>?_)
 . rw[if_pos E]at h
   rw[<-bne_iff_ne]at E;refine ab.run lay [] ?_;simp[E,aH];refine .less (λy x q=>?_) (.done h)
   have T:y≠p:=λe=>by subst e;rw[h2]at q;cases q
   simpa[aa.ag,T]using q
 . rw [if_neg (by simp[E])]at h
   obtain⟨U,h4⟩:=gy E;have F:=Fr.eh hf U;have hlen:=cH F []
   have t:∀w∈am f [],w.length<1152921504606846976/\∀x∈w,-1<=x/\x<=1000:=λw V=>by have U:=eZ F V;have:=F.oA;have:=F.most;exact⟨by omega,λx hx=>by have:=U.2 x hx;omega⟩
   have d:∀w∈am f [],0<=aB w/\aB w<=6:=λw V=>Mg F V
   have j:0<(am f []).length:=List.length_pos_iff.2 h4;generalize am f []=L at *
   have W:L.headD []=L[0]:=by
    match L,j with
    |a::r,_=>rfl
   rw[W]at h;have G:=t _ (List.getElem_mem j);have H:=d _ (List.getElem_mem j);have X:=Mh d;obtain⟨b,J⟩:∃b,b=aB L[0]:=⟨_,rfl⟩;rw[<-J]at H h;refine ab.run lay [] ?_;simp[j];apply pG (I:=λenv c=>∃k,k≠p/\σ k=none/\env 2=.ref p 0/\env 4=rows L/\env 6=.ref k 0/\c=(σ.set p (.cells [int 0,int 0])).set k (.cells [int b,int b]))
   . intro B
     repeat' (first
               |apply And.intro
               | (refine ai Tryz.func67 rfl rfl (oC G.1 G.2 ?_)
                  rw[<-J];refine aI.go lay [] ?_;simp)
               | (refine ns.intro λk R=>?_
                  obtain⟨z1,z2,R⟩:=aa.aG R;simp[z1,z2,aa.ag])
               |exact B _ _ ⟨k,by assumption,by assumption,by simp,by simp,by simp,by simp[aH]⟩)
   rintro env a9 ⟨k,Y,R,C,u,v,rfl⟩
   have Z:=Ne.symm Y;refine ab.run lay [] ?_;simp;refine ab.loop L.length (λi s=>∃env c,s=⟨env,c,[],.no⟩/\env 2=.ref p 0/\env 4=rows L/\env 6=.ref k 0/\env 7=int i/\c=(σ.set p (.cells [int 0,int 0])).set k (.cells [int (sn (L.take i) b),int (rx (L.take i) b)])) ⟨_,_,rfl,by simp[C],by simp[u],by simp[v],by simp,by simp[sn,rx]⟩ ?_
   clear C u v
   rintro c0 i _ hi ⟨env,c,rfl,C,u,v,S,o⟩ ih
   have K:c k=some (.cells [int (sn (L.take i) b),int (rx (L.take i) b)]):=by rw[o,aa.an]
   have q2:c p=some (.cells [int 0,int 0]):=by rw[o,aa.ag _ _ Z,aa.an]
   rcases Nat.lt_or_ge i L.length with g2|g2
   . have jj:(i:Int)<L.length:=by omega
     have M:=t _ (List.getElem_mem g2);have a7:=d _ (List.getElem_mem g2);have N:=X i b H;have f1:-9223372036854775808<=(i:Int)+1/\(i:Int)+1<=9223372036854775807:=by omega
     have O:sn (L.take (i+1)) b=min (sn (L.take i) b) (aB L[i]):=by unfold sn;rw[List.take_succ_eq_append_getElem g2,List.foldl_append];rfl
     have P:rx (L.take (i+1)) b=max (rx (L.take i) b) (aB L[i]):=by unfold rx;rw[List.take_succ_eq_append_getElem g2,List.foldl_append];rfl
     obtain⟨D,z⟩:∃D,D=sn (L.take i) b:=⟨_,rfl⟩;obtain⟨g,A⟩:∃g,g=rx (L.take i) b:=⟨_,rfl⟩;obtain⟨n,l⟩:∃n,n=aB L[i]:=⟨_,rfl⟩;rw[<-z,<-A]at K N;rw[<-z,<-l]at O;rw[<-A,<-l]at P;rw[<-l]at a7
     have Q:c.set k (.cells [AV.lit (Value.int IntKind.i64 (if n<D then n else D)),AV.lit (Value.int IntKind.i64 (if g<n then n else g))])=(σ.set p (.cells [int 0,int 0])).set k (.cells [int (sn (L.take (i+1)) b),int (rx (L.take (i+1)) b)]):=by
      have u1:(if n<D then n else D)=min D n:=by split<;>omega
      have u2:(if g<n then n else g)=max g n:=by split<;>omega
      rw[O,P,u1,u2,o]
      funext y
      by_cases e:y=k
      . subst e;rw[aa.an,aa.an]
      . rw[aa.ag _ _ e,aa.ag _ _ e,aa.ag _ _ e]
     refine ab.run lay [] ?_;simp[u,v,S,K,g2,jj]
     repeat' (first
               |apply And.intro
               | (refine ai Tryz.func67 rfl rfl (oC M.1 M.2 ?_)
                  rw[<-l];refine aI.go lay [] ?_;simp[C,u,v,S,K,aH])
               | (refine ab.run lay [] ?_
                  simp[C,u,v,S,f1.1,f1.2];exact ih _ g2 ⟨_,_,rfl,by simp[C],by simp[u],by simp[v],by simp,Q⟩))
   . have a8:i=L.length:=by omega
     subst a8;rw[List.take_length]at K o;refine ab.run lay [] ?_;simp[C,u,v,S,K,q2,aH];refine .less (λy x q=>?_) (.done h)
     have T:y≠p:=λe=>by rw[e,h2]at q;cases q
     have y6:y≠k:=λe=>by rw[e,R]at q;cases q
     rw[o];simpa[aa.ag,T,y6]using q
theorem DK{f:Fr}(y:f.Fits)(A:aA f false 0 0≠0->KF (.val (.bk [ints [],int 0,int (aA f false 0 0)])) σ)(d:∀w,aA f false 0 0=0->(am f []).foldl di none=some w->KF (.val (.bk [ints w,int (aB w),int 0])) σ):ar Tryz.prog m 20 [az f] σ KF:=by
 refine ar.start lay [] R9 1 Tryz.func20 rfl rfl (by rfl) (by kernel_rfl) ?_
 simp[Tryz.f20];refine ai Tryz.func66 rfl rfl (gL (asks:=false) y (λk=>?_) λk _ _=>?_)
 . have h:=A k
   rw[<-bne_iff_ne]at k;refine ab.run lay [] ?_;simp[k];refine .eG (a':=.bk [ints [],int 0,int (aA f false 0 0)]) (oy rfl λi a a' d l=>?_) (.done h)
   match i with
   |0=>simp at d l;subst d;subst l;exact cV 1
   |1=>simp at d l;subst d;subst l;exact .refl _
   |2=>simp at d l;subst d;subst l;exact .refl _
   |i+3=>simp at d
 . have h:=d
   obtain⟨B,C⟩:=gy k;have p:=Fr.eh y B;have hlen:=cH p []
   have j:∀w∈am f [],w.length<1152921504606846976/\∀x∈w,-1<=x/\x<=1000:=λw D=>by have d:=eZ p D;have:=p.oA;have:=p.most;exact⟨by omega,λx E=>by have:=d.2 x E;omega⟩
   have n:0<(am f []).length:=List.length_pos_iff.2 C;have h:=λw=>h w k
   generalize am f []=L at *;refine ab.run lay [] ?_;simp;refine ab.loop L.length (λi s=>∃env b,s=⟨env,σ,[],.no⟩/\env 5=rows L/\env 7=int ((b:Nat):Int)/\env 8=int i/\∃hb:b<L.length,(i=0/\b=0)\/(L.take i).foldl di none=some L[b]) ⟨_,0,rfl,by simp,by simp,by simp,n,.inl ⟨rfl,rfl⟩⟩ ?_
   rintro F i _ G ⟨env,b,rfl,r,u,t,hb,c⟩ z
   have g:=j _ (List.getElem_mem hb)
   rcases Nat.lt_or_ge i L.length with g2|g2
   . have jj:(i:Int)<L.length:=by omega
     have o:=j _ (List.getElem_mem g2);have f1:-9223372036854775808<=(i:Int)+1/\(i:Int)+1<=9223372036854775807:=by omega
     have e:(L.take (i+1)).foldl di none=di ((L.take i).foldl di none) L[i]:=by rw[List.take_succ_eq_append_getElem g2,List.foldl_append];rfl
     refine ab.run lay [] ?_;simp[r,u,t,g2,jj,hb];refine ai Tryz.func67 rfl rfl (oC o.1 o.2 ?_);refine aI.go lay [] ?_;simp;refine ai Tryz.func67 rfl rfl (oC g.1 g.2 ?_);refine aI.go lay [] ?_;simp
     by_cases q:aB L[i]<aB L[b]
     . refine ab.run lay [] ?_
       simp[t,q];refine⟨by omega,z _ g2 ⟨_,i,rfl,by simp[r],by simp,by simp,g2,.inr ?_⟩⟩
       rw[e]
       rcases c with⟨rfl,rfl⟩|c
       . rfl
       . rw[c];simp[di,q]
     . refine ab.run lay [] ?_
       simp[t,q];refine⟨by omega,z _ g2 ⟨_,b,rfl,by simp[r],by simp[u],by simp,hb,.inr ?_⟩⟩
       rw[e]
       rcases c with⟨rfl,rfl⟩|c
       . rfl
       . rw[c];simp[di,q]
   . have v:i=L.length:=by omega
     subst v;rw[List.take_length]at c;have c:L.foldl di none=some L[b]:=c.resolve_left λq=>by omega
     refine ab.run lay [] ?_;simp[r,u,t,hb];refine ai Tryz.func67 rfl rfl (oC g.1 g.2 ?_);refine aI.go lay [] ?_;simp;refine ab.run lay [] ?_;simp;exact .done (h _ c)
def aW(f:Fr)(l:List Int):Int:=if aO f l≠0 then aO f l else if am f []=[]then 11 else 0
theorem fB(j:m.solo=true){f:Fr}{l:List Int}{sp:bX}(g:f.Fits)(b:l.length<1152921504606846976)(hb:aW f l≠0)(h:∀σ',σ.Le σ'->KF (.val (.bk [.lit (.pointer none),int (aW f l)])) σ'):ar Tryz.prog m 62 [az f,.sl 1 (l.map int) sp] σ KF:=by
 by_cases a:aO f l=0
 . have i:check f=0:=by
    unfold aO at a;split at a
    . next q=>exact absurd a q
    next q=>simpa using q
   have k:∀n∈l,0<=n/\n<f.ao.length:=by
    unfold aO at a;rw[if_neg (by simp[i])]at a
    split at a
    . next q=>intro n o;have:=gx.1 (List.all_eq_true.1 q n o);omega
    . cases a
   have e:aW f l=if am f []=[]then 11 else 0:=by unfold aW;rw[if_neg (by simp[a])]
   by_cases c:am f []=[]
   . rw[if_pos c]at e
     rw[e]at h;exact ib j g i k b c h
   . rw[if_neg c]at e
     exact absurd e hb
 . have e:aW f l=aO f l:=by unfold aW;rw[if_pos a]
   rw[e]at h;have d:(aO f l==0)=false:=by simpa using a
   refine ar.start lay [] [] 2 Tryz.func62 rfl rfl (by rfl) (by kernel_rfl) ?_
   simp[Tryz.f62];have p:Wl [AV.agg (bS f),.sl 1 (l.map int) sp] [az f,ints l]:=.cons (.refl _) (.cons (eE 1 _ sp) .nil);refine aT Tryz.func59 rfl rfl p (fI g b (λq=>?_) λq=>absurd q a)
   refine ab.run lay [] ?_;simp[d];exact .done (h σ (aa.le_refl _))
theorem dY(f:Fr):aA f false 0 0=aW f []:=by
 unfold aA aW aO;by_cases a:check f=0<;>simp[a]
theorem Gx(g:m.solo=true){f:Fr}(b:f.Fits)(h:KF (.val (.bk [int (tD f).1,int (tD f).2])) σ):ar Tryz.prog m 15 [az f] σ KF:=by
 unfold tD at h
 by_cases a:check f=0
 . rw[if_neg (by simp[a])]at h
   have c:=Fr.eh b a;have j:=cH c [0,0];have k:=cH c [0,1];refine BT g b a ⟨by omega,by omega⟩ ?_
   rw[tC c];exact h
 . rw[if_pos a]at h
   have e:aO f []=check f:=by unfold aO;rw[if_pos a]
   have d:(check f !=0)=true:=by simpa using a
   refine ar.start lay [] [] 1 Tryz.func15 rfl rfl (by rfl) (by kernel_rfl) ?_
   simp[Tryz.f15];have i:Wl [AV.agg (bS f),AV.lit (.slice none 0 0)] [az f,ints []]:=.cons (.refl _) (.cons (cV 1) .nil);refine aT Tryz.func59 rfl rfl i (fI b (by simp) (λ_=>?_) λq=>absurd (e ▸ q) a)
   rw[e];refine ab.run lay [] ?_;simp[d];exact .done h
theorem DL(k:m.solo=true){f:Fr}(e:f.Fits)(o:aA f false 0 0≠0->KF (.val (.bk [ints [],int 0,int (aA f false 0 0)])) σ)(b:∀w,aA f false 0 0=0->(am f []).foldl di none=some w->KF (.val (.bk [ints w,int (aB w),int 0])) σ):ar Tryz.prog m 19 [az f] σ KF:=by
 by_cases hb:aA f false 0 0=0
 . obtain⟨n,p⟩:=gy hb
   have q:=Fr.eh e n;have hlen:=cH q [];obtain⟨w,d,_⟩:=yK p;exact yM k e n d (by omega) (b w hb d)
 . have h:=o hb
   rw[dY]at h;rw[dY]at hb;have g:(aW f []!=0)=true:=by simpa using hb
   refine ar.start lay [] On 1 Tryz.func19 rfl rfl (by rfl) (by kernel_rfl) ?_;simp[Tryz.f19];have r:Wl [az f,AV.lit (.slice none 0 0)] [az f,.sl 1 (([]:List Int).map int) .any]:=.cons (.refl _) (.cons (cV 1) .nil);refine aT Tryz.func62 rfl rfl r (fB (l:=[]) (sp:=.any) k e (by simp) hb λs j=>?_);refine ab.run lay [] ?_;simp[g];refine .less j (.eG (a':=.bk [ints [],int 0,int (aW f [])]) (oy rfl λi a a' b c=>?_) (.done h))
   match i with
   |0=>simp at b c;subst b;subst c;exact cV 1
   |1=>simp at b c;subst b;subst c;exact .refl _
   |2=>simp at b c;subst b;subst c;exact .refl _
   |i+3=>simp at b
theorem Mi(g:List Int->Int)(L:List (List Int))(n:Int):L.foldl (λa x=>max a (g x)) n=-(L.foldl (λa x=>min a (-g x)) (-n)):=by rw[BS];omega
theorem DM(s:m.solo=true){f:Fr}(j:f.Fits)(h:KF (.val (Ap (su f))) σ):ar Tryz.prog m 17 [az f] σ KF:=by
 unfold su at h
 by_cases hb:aA f false 0 0=0
 . rw[if_neg (by simp[hb])]at h
   obtain⟨t,k⟩:=gy hb;have A:=Fr.eh j t;have hlen:=cH A [];have b:=List.length_pos_iff.2 k;obtain⟨w,g,_⟩:=rv aB k;obtain⟨v,i,_⟩:=rv Dg k;refine Gv s j t g i (by omega) ?_
   have B:=yL b g;have u:=yL b i
   have n:(am f []).headD []=(am f [])[0]:=by
    match H:am f [],b with
    |a::r,_=>rfl
   rw[n]at h
   have C:rx (am f []) (aB (am f [])[0])=aB v:=by unfold rx;rw[Mi];unfold Dg at u;rw[<-u];omega
   have D:sn (am f []) (aB (am f [])[0])=aB w:=B.symm;rw[C,D]at h;exact h
 . rw[if_pos hb,dY]at h
   rw[dY]at hb;have o:(aW f [] !=0)=true:=by simpa using hb
   refine ar.start lay [] [] 1 Tryz.func17 rfl rfl (by rfl) (by kernel_rfl) ?_
   simp[Tryz.f17];refine bT.intro λy E=>?_
   simp;have F:Wl [az f,AV.lit (.slice none 0 0)] [az f,.sl 1 (([]:List Int).map int) .any]:=.cons (.refl _) (.cons (cV 1) .nil);refine aT Tryz.func62 rfl rfl F (fB (l:=[]) (sp:=.any) s j (by simp) hb λp d=>?_)
   have G:p y=some (.cells [int 0,int 0]):=d _ _ (aa.an _ _ _);refine ab.run lay [] ?_;simp[o,G,aH];refine .less (λc x q=>?_) (.done h)
   have z:c≠y:=λe=>by subst e;rw[E]at q;cases q
   rw[aa.ag _ _ z];exact d _ _ ((aa.ag _ _ z).trans q)
end Go.Proofs.YtldmpfccgajobaaGreatDoor
namespace Go.Proofs.YtldmpfccgajobaaGreatDoor
open Go.aR Go.Conc
set_option maxHeartbeats 2000000
set_option maxRecDepth 4000
variable{m:Mo}{σ:aa}{KF:dF->aa->Prop}
def tE(f:Fr):List Int × Int × Int:=if aA f false 0 0≠0 then([],0,aA f false 0 0)else(((am f []).foldl di none).getD [],aB (((am f []).foldl di none).getD []),0)
theorem Aq{f:Fr}(h:KF (.val (.bk [ints (tE f).1,int (tE f).2.1,int (tE f).2.2])) σ):(aA f false 0 0≠0->KF (.val (.bk [ints [],int 0,int (aA f false 0 0)])) σ)/\∀w,aA f false 0 0=0->(am f []).foldl di none=some w->KF (.val (.bk [ints w,int (aB w),int 0])) σ:=by
 unfold tE at h;refine⟨λq=>?_,λw q a=>?_⟩
 . rw[if_pos q]at h;exact h
 . rw[if_neg (by simp[q]),a]at h;exact h
theorem IZ(a:m.solo=true){f:Fr}(b:f.Fits)(h:KF (.val (.bk [ints (tE f).1,int (tE f).2.1,int (tE f).2.2])) σ):ar Tryz.prog m 19 [az f] σ KF:=DL a b (Aq h).1 (Aq h).2
theorem Gy{f:Fr}(a:f.Fits)(h:KF (.val (.bk [ints (tE f).1,int (tE f).2.1,int (tE f).2.2])) σ):ar Tryz.prog m 20 [az f] σ KF:=DK a (Aq h).1 (Aq h).2
theorem Mj{f:Fr}(d:f.Fits):(tE f).1.length<1000000:=by
 unfold tE;split
 . simp
 . next q=>have q:aA f false 0 0=0:=Decidable.not_not.1 q;obtain⟨e,g⟩:=gy q;have c:=Fr.eh d e;obtain⟨w,a,b⟩:=yK g;rw[a];have:=(eZ c b).1;have:=c.oA;show w.length<1000000;omega
theorem xW(u:m.solo=true){f:Fr}{n:gq}{k:List Int}(X:f.Fits)(hm:n.marks.length<1152921504606846976)(Y:k.length<1152921504606846976)(h:KF (.val (bool true)) σ):gS Tryz.prog lay m 3 [az f,aS n,ints k] σ KF:=by
 refine gS.start lay [] Vn 3 Tryz.func3 rfl rfl (by rfl) (by kernel_rfl) ?_
 simp[Tryz.f3];refine ai Tryz.func10 rfl rfl (r9 X λv Z=>?_)
 refine ab.run lay [] ?_;simp;cases v with
 |true=>simp;refine ai Tryz.func11 rfl rfl (dq u ?_);refine ab.run lay [] ?_;simp;exact .done h
 |false=>
 by_cases S:(20:Int)<n.marks.length
 . simp[S]
   refine ai Tryz.func11 rfl rfl (dq u ?_);refine ab.run lay [] ?_;simp;exact .done h
 obtain⟨H,_⟩:=Z rfl;have D:n.marks.length<=20:=by omega
 simp[S];refine ai Tryz.func13 rfl rfl (nQ λc a7 hc hb o=>?_)
 refine aI.go lay [] ?_;simp;refine ai Tryz.func12 rfl rfl (lY (by omega) Y hb (by obtain⟨_,_,_,q⟩:=hb;rw[q];simp) λf1 seen I J _ K h5 hd=>?_)
 have l:=lZ H J K h5 D;have hlen:[f,f1,seen,cW seen n].length=4:=rfl;generalize [f,f1,seen,cW seen n]=L at l hlen ⊢
 have M:σ.Le I:=λy x N=>by
  have T:y≠c:=λe=>by subst e;rw[hc]at N;cases N
  rw[hd.2 y T,o y T];exact N
 refine aI.go lay [] ?_;simp;refine ab.run lay [] ?_;simp;refine ab.weaken (σ:=σ) ?_ M;refine ab.loop L.length (λi s=>∃env,s=⟨env,σ,[],.no⟩/\env 7=gO L/\env 8=int i) ⟨_,rfl,by simp,by simp⟩ ?_
 rintro c0 i _ hi ⟨env,rfl,p,t⟩ ih
 rcases Nat.lt_or_ge i L.length with g1|g1
 . have O:(i:Int)<L.length:=by omega
   have f1:-9223372036854775808<=(i:Int)+1/\(i:Int)+1<=9223372036854775807:=by omega
   obtain⟨g,A⟩:∃g,g=L[i]:=⟨_,rfl⟩;have E:=l g (by rw[A];exact List.getElem_mem g1)
   have j:=E.fits;refine ab.run lay [] ?_;simp[p,t,g1,O,<-A];refine ai Tryz.func14 rfl rfl (E.own ?_);refine ab.runN lay [] 2 ?_;simp;refine bT.intro λd P=>?_
   simp;refine ab.bD 9 (b:=d) (az g) (by simp) (by simp) rfl ?_
   rw[mS P];refine ab.run lay [] ?_;simp;refine ai Tryz.func15 rfl rfl (Gx u j ?_);refine ab.run lay [] ?_;simp[p,t,g1,<-A];refine ai Tryz.func16 rfl rfl (Gw j ?_);refine ab.run lay [] ?_;simp;refine ai Tryz.func17 rfl rfl (DM u j ?_);obtain⟨B,C,U,V⟩:∃B C U,Ap (su g)=.bk [.agg [int B,int C],int U]:=⟨_,_,_,rfl⟩;rw[V];refine ab.runN lay [] 6 ?_;simp;refine bT.intro λd1 F=>?_
   simp;refine ab.bD 14 (b:=d1) (.agg [int B,int C]) (by simp) (by simp) rfl ?_
   rw[mS F];refine ab.run lay [] ?_;simp[p,t,g1,<-A];refine ai Tryz.func18 rfl rfl (DJ j ?_);rw[V];refine ab.runN lay [] 6 ?_;simp;refine bT.intro λd2 G=>?_
   simp;refine ab.bD 16 (b:=d2) (.agg [int B,int C]) (by simp) (by simp) rfl ?_
   rw[mS G];have b1:∀z:Int,(z !=z)=false:=λz=>by simp
   refine ab.run lay [] ?_;simp;refine yN lay NM oo rfl (a:=B) (b:=C) (c:=B) (d:=C) (r:=false) rfl (by simp) (by simp) (.inr ⟨rfl,by simp⟩) ?_
   refine ab.run lay [] ?_;simp;refine ai Tryz.func19 rfl rfl (IZ u j ?_);have Q:=Mj j;obtain⟨w,W⟩:∃w,w=tE g:=⟨_,rfl⟩;rw[<-W]at Q ⊢;refine ab.run lay [] ?_;simp[p,t,g1,<-A];refine ai Tryz.func20 rfl rfl (Gy j ?_);rw[<-W];refine ab.run lay [] ?_;simp;refine ai Tryz.func21 rfl rfl (fa (by omega) (by omega) ?_)
   rw[decide_eq_true rfl];refine aI.go lay [] ?_;simp[p,t,g1,<-A];refine ai Tryz.func22 rfl rfl (fN j ?_);refine aI.go lay [] ?_;simp;refine ab.run lay [] ?_;simp[t,f1.1,f1.2];exact ih _ g1 ⟨_,rfl,by simp[p],by simp⟩
 . have R:i=L.length:=by omega
   subst R;refine ab.run lay [] ?_;simp[p,t];refine ai Tryz.func11 rfl rfl (dq u ?_);refine ab.run lay [] ?_;simp;exact .done h
end Go.Proofs.YtldmpfccgajobaaGreatDoor
