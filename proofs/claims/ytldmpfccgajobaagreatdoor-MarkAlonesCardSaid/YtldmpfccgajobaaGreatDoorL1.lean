import Derived.Test.YtldmpfccgajobaaGreatDoorC37
set_option linter.all false
namespace Go.Proofs.YtldmpfccgajobaaGreatDoor
open Go.aR
abbrev Vl:List Entry:=[⟨3,.take [0,1,2] false (.one 3 (.one 4 (.take [5] true (.done))))⟩,⟨19,.take [0,1,2,3,4] false (.one 5 (.take [6,7,8,9,10] true (.done)))⟩,⟨20,.take [0,1,2,3,4,5,6,7] false (.one 8 (.take [9,10,11,12,13] true (.done)))⟩,⟨21,.take [0,1,2,3,4,5,6,7,8] false (.one 9 (.take [10,11,12,13,14] true (.done)))⟩,⟨22,.take [0,1,2,3,4,5,6,7,8,9,10,11] false (.one 12 (.take [13,14,15,16,17] true (.done)))⟩,⟨25,.take [0,1,2,3,4] false (.one 5 (.take [6] true (.done)))⟩]
abbrev R6:List Entry:=[⟨8,.take [0,1,2,3,4,5,6,7,8,9,10] false (.one 11 (.take [12,13] true (.done)))⟩]
abbrev Ol:List Entry:=[⟨7,.take [0,1,2,3,4,5,6,7,8] true (.done)⟩,⟨18,.take [0,1,2,3,7] false (.one 4 (.one 5 (.take [6] true (.done))))⟩]
abbrev R7:List Entry:=[⟨15,.take [0,1,2,3,4,5,6,7,8,9,10,11,12,13,14,15,16,17,18,19,20,21,22,23,24,25,26,27,28,29,30,31] true (.done)⟩]
abbrev IN:List Entry:=[⟨5,.take [0,1,2,3,4,5,6,7,8,9,10,11,12,13,14] true (.done)⟩]
end Go.Proofs.YtldmpfccgajobaaGreatDoor
namespace Go.Proofs.YtldmpfccgajobaaGreatDoor
open Go.aR Go.Conc
set_option maxHeartbeats 1000000
set_option maxRecDepth 4000
variable{m:Mo}{σ:aa}{KF:dF->aa->Prop}
theorem ib(r:m.solo=true){f:Fr}{l:List Int}{sp:bX}(o:f.Fits)(p:check f=0)(s:∀n∈l,0<=n/\n<f.ao.length)(j:l.length<1152921504606846976)(g:am f []=[])(h:∀σ',σ.Le σ'->KF (.val (.bk [.lit (.pointer none),int 11])) σ'):ar Tryz.prog m 62 [az f,.sl 1 (l.map int) sp] σ KF:=by
 have t:=Fr.eh o p;have u:=l8 p s;refine ar.start lay [] [] 2 Tryz.func62 rfl rfl (by rfl) (by kernel_rfl) ?_
 simp[Tryz.f62];have v:Wl [AV.agg (bS f),.sl 1 (l.map int) sp] [az f,ints l]:=.cons (.refl _) (.cons (eE 1 _ sp) .nil);refine aT Tryz.func59 rfl rfl v (fI o j (λq=>absurd u q) λ_ b mb σ' d=>?_)
 have w:rj b 6 mb .u8 (cO f) σ':=by rw[d.eq];exact⟨aa.an _ _ _,[],(aa.ag _ _ (Ne.symm d.ne)).trans (aa.an _ _ _),λn a h=>by simp[gu]at h⟩
 refine ab.run lay [] ?_;simp;refine ai Tryz.func88 rfl rfl (mR (eo ln lp qH r d.ne) t w λk B y=>?_)
 refine ab.run lay [] ?_;simp[g];refine .done (h k λc x i=>?_)
 have z:c≠b:=λe=>by subst e;rw[d.hb]at i;cases i
 have A:c≠mb:=λe=>by subst e;rw[d.tk]at i;cases i
 exact y c x (d.le c x i) z (.inl A)
def iA(x:Int)(w:List Int):Bool:=decide ((aP w (w.getD x.toNat 0)).length=1)
theorem Gi{w:List Int}{x:Int}(u:w.length<1000000)(c:0<=x/\x.toNat<w.length)(h:KF (.val (bool (iA x w))) σ):ar Tryz.prog m 101 [ints w,.cp (int x) 0] σ KF:=by
 have b:w.getD x.toNat 0=w[x.toNat]:=by simp[List.getD_eq_getElem?_getD,c.2]
 unfold iA at h;rw[b]at h;obtain⟨v,j⟩:∃v,v=w[x.toNat]:=⟨_,rfl⟩;rw[<-j]at h;refine ar.start lay [] [] 2 Tryz.func101 rfl rfl (by rfl) (by kernel_rfl) ?_;simp[Tryz.f101];refine ab.loop w.length (λi s=>∃env,s=⟨env,σ,[],.no⟩/\env 0=ints w/\env 1=.cp (int x) 0/\env 4=int ((aP (w.take i) v).length:Int)/\env 7=ints w/\env 8=int w.length/\env 9=int i) ⟨_,rfl,by simp,by simp,by simp[aP],by simp,by simp,by simp⟩ ?_;rintro y i _ z ⟨env,rfl,e,b,f,g,d,k⟩ p;rcases Nat.lt_or_ge i w.length with g1|g1
 . have t:(i:Int)<w.length:=by omega
   have l:=kB (w.take i) v;rw[List.length_take]at l;have f1:-9223372036854775808<=(i:Int)+1/\(i:Int)+1<=9223372036854775807:=by omega
   have r:-9223372036854775808<=((aP (w.take i) v).length:Int)+1/\((aP (w.take i) v).length:Int)+1<=9223372036854775807:=by omega
   have a:=jB w v i g1;by_cases q:w[i]=v
   . rw[if_pos q]at a
     have n:(w[i]==v)=true:=beq_iff_eq.2 q;refine ab.run lay [] ?_;simp[e,b,f,g,d,k,g1,c.1,c.2,<-j,n,f1.1,f1.2,r.1,r.2];refine p _ g1 ⟨_,rfl,by simp[e],by simp[b],by simp[a],by simp[g],by simp[d],by simp⟩
   . rw[if_neg q,List.append_nil]at a
     have n:(w[i]==v)=false:=beq_eq_false_iff_ne.2 q;refine ab.run lay [] ?_;simp[e,b,g,d,k,g1,c.1,c.2,<-j,n,f1.1,f1.2];refine p _ g1 ⟨_,rfl,by simp[e],by simp[b],by simp[a,f],by simp[g],by simp[d],by simp⟩
 . have o:i=w.length:=by omega
   subst o;rw[List.take_length]at f;refine ab.run lay [] ?_;simp[f,d,k]
   have hb:(((aP w v).length:Int)==1)=decide ((aP w v).length=1):=by
    by_cases q:(aP w v).length=1
    . simp[q]
    . simp[q];omega
   rw[hb];exact .done h
theorem IP(q:m.solo=true){f:Fr}{x:Int}(r:f.Fits)(s:check f=0)(t:0<=x/\x<f.ao.length)(a:am f []≠[])(hlen:(am f []).length<1152921504606846976)(h:KF (.val (.bk [int (eN (((am f []).filter (iA x)).length:Int) (am f []).length),int 0])) σ):ar Tryz.prog m 48 [az f,int x] σ KF:=by
 have u:=Fr.eh r s;have G:=u.oA;have j:∀w∈am f [],w.length=f.ao.length:=λw j=>by have:=fP f [] _ _ _ _ w j;simpa using this
 refine ar.start lay [] [] 2 Tryz.func48 rfl rfl (by rfl) (by kernel_rfl) ?_
 simp[Tryz.f48];refine ai Tryz.func62 rfl rfl (jX (l:=[x]) (sp:=.exact) q r s (λn v=>by simp at v;subst v;exact t) (by simp) a λb mb z k A d o=>?_)
 refine ab.run lay [] ?_;simp;refine ai Tryz.func91 rfl rfl (rl (eo ln lp qH q k) u (p:=iA x) ⟨rfl,rfl⟩ (λw g σ KF B=>eY Tryz.func101 rfl rfl rfl (Gi (by rw[j w g];omega) ⟨t.1,by rw[j w g];omega⟩ B)) hlen A λC H D=>?_)
 refine ab.run lay [] ?_;simp;refine ai Tryz.func100 rfl rfl (vW ?_);refine ab.run lay [] ?_;simp;refine .less (λc y i=>?_) (.done h)
 have E:c≠b:=λe=>by subst e;rw[d.1]at i;cases i
 have F:c≠mb:=λe=>by subst e;rw[d.2]at i;cases i
 exact D c y (o c y i) E (.inl F)
def toldOf(n all:Int):Int:=if n=0 then 2 else if n=all then 1 else 3
theorem lD{n all:Int}(c:0<=n)(d:n<=all)(e:0<all):eN n all=toldOf n all:=by
 unfold eN toldOf;by_cases a:n=0
 . subst a;rw[if_neg (by omega),if_neg (by omega),if_pos rfl]
 . rw[if_neg a]
   by_cases b:n=all
   . subst b;rw[if_neg (by omega),if_pos rfl,if_pos rfl]
   . rw[if_pos (by omega),if_neg b]
end Go.Proofs.YtldmpfccgajobaaGreatDoor
namespace Go.Proofs.YtldmpfccgajobaaGreatDoor
open Go.aR Go.Conc
set_option maxHeartbeats 1000000
set_option maxRecDepth 4000
theorem Dv{w:List Int}{k:Int}{i:Nat}(a:i<w.length)(h:w.getD i 0=k):(i:Int)∈aP w k:=by
 unfold aP;refine List.mem_map.2 ⟨(w[i],i),List.mem_filter.2 ⟨?_,?_⟩,rfl⟩
 . exact List.mem_zipIdx_iff_getElem?.2 (by simp[a])
 . rw[List.getD_eq_getElem?_getD,List.getElem?_eq_getElem a]at h
   simpa using h
section
variable{f:Fr}{most:Nat}{C H ks:List Int}{last:List gq}
end
theorem kC{α:Type}(p:α->Bool):∀l:List α,(l.filter p).length=l.length↔∀x∈l,p x=true
 |[]=>by simp
 | a ::l=>by
   have b:=kC p l;have:=List.length_filter_le p l;rw[List.filter_cons];by_cases q:p a=true
   . rw[if_pos q,List.length_cons,List.length_cons]
     simp only[List.mem_cons,forall_eq_or_imp,q,true_and,<-b];omega
   . rw[if_neg q,List.length_cons]
     simp only[List.mem_cons,forall_eq_or_imp];constructor
     . intro h;omega
     . intro h;exact absurd h.1 q
theorem Gj{α:Type}(p:α->Bool)(l:List α):(l.filter p).length=0↔∀x∈l,p x=false:=by rw[List.length_eq_zero_iff,List.filter_eq_nil_iff];simp
section
variable{L:List (List Int)}{n:Nat}
end
section
variable{L:List (List Int)}{n:Nat}
def ig(L:List (List Int))(x y:Nat):List (List Int):=(L.filter (aJ x y)).map λw=>aP w (w.getD x 0)
theorem sd{w:List Int}{z:Nat}{k:Int}(a:z<w.length):(z:Int)∈aP w k↔w.getD z 0=k:=⟨λh=>by have:=(kD h).2.2;simpa using this,λh=>Dv a h⟩
def NL(L:List (List Int))(x y z:Nat):Prop:=∀w∈L,aJ x y w=true->aJ x z w=true
theorem Gk{x y:Nat}:ig L x y=[]↔∀w∈L,aJ x y w=false:=by unfold ig;rw[List.map_eq_nil_iff,List.filter_eq_nil_iff];simp
theorem uE(e:∀w∈L,w.length=n){x y z:Nat}(j:x<n)(f:z<n){a:List Int}{r:List (List Int)}(h:ig L x y=a::r):(z:Int)∈dm a r↔NL L x y z:=by
 have g:(z:Int)∈dm a r↔∀l∈ig L x y,(z:Int)∈l:=by rw[h];unfold dm;simp
 rw[g];unfold ig NL;constructor
 . intro c w b d
   have:=c (aP w (w.getD x 0)) (List.mem_map.2 ⟨w,List.mem_filter.2 ⟨b,d⟩,rfl⟩);rw[sd (by rw[e w b];exact f)]at this
   simp only[aJ,decide_eq_true_eq,Int.toNat_natCast];exact this.symm
 . intro i l c
   obtain⟨w,b,rfl⟩:=List.mem_map.1 c;obtain⟨b,d⟩:=List.mem_filter.1 b;rw[sd (by rw[e w b];exact f)]
   have:=i w b d;simp only[aJ,decide_eq_true_eq,Int.toNat_natCast]at this;exact this.symm
end
end Go.Proofs.YtldmpfccgajobaaGreatDoor
namespace Go.Proofs.YtldmpfccgajobaaGreatDoor
open Go.aR Go.Conc
set_option maxHeartbeats 1000000
variable{m:Mo}{σ:aa}{KF:dF->aa->Prop}
theorem dD{f:Fr}{n:Int}(a:f.ao.length<1152921504606846976)(h:KF (.val (bool (bx n 0 (f.ao.length-1)))) σ):ar Tryz.prog m 118 [az f,int n] σ KF:=by
 have f1:-9223372036854775808<=(f.ao.length:Int)-1/\(f.ao.length:Int)-1<=9223372036854775807:=by omega
 refine ar.start lay [] [] 2 Tryz.func118 rfl rfl (by rfl) (by kernel_rfl) ?_;simp[Tryz.f118,f1.1,f1.2];refine ai Tryz.func83 rfl rfl (cr ?_);refine ab.run lay [] ?_;simp;exact .done h
end Go.Proofs.YtldmpfccgajobaaGreatDoor
namespace Go.Proofs.YtldmpfccgajobaaGreatDoor
open Go.aR Go.Conc
set_option maxHeartbeats 1000000
set_option maxRecDepth 4000
variable{m:Mo}{σ:aa}{KF:dF->aa->Prop}
def aA(f:Fr)(asks:Bool)(x y:Int):Int:=if check f≠0 then check f else if asks=true/\¬(bx x 0 (f.ao.length-1)=true/\bx y 0 (f.ao.length-1)=true)then 3 else if am f []=[]then 11 else 0
theorem gL{f:Fr}{asks:Bool}{x y:Int}(j:f.Fits)(a:aA f asks x y≠0->KF (.val (.bk [.lit (.slice none 0 0),int (aA f asks x y)])) σ)(d:aA f asks x y=0->check f=0->am f []≠[]->KF (.val (.bk [rows (am f []),int 0])) σ):
 ar Tryz.prog m 66 [az f,bool asks,int x,int y] σ KF:=by
 have g:=j.ao;refine ar.start lay [] [] 4 Tryz.func66 rfl rfl (by rfl) (by kernel_rfl) ?_
 simp[Tryz.f66];refine ai Tryz.func34 rfl rfl (jW j ?_);refine ab.run lay [] ?_;simp;refine aE.intro (λb=>?_) (λb=>?_)<;>simp at b<;>simp[b]
 . have e:aA f asks x y=check f:=by unfold aA;rw[if_pos b]
   rw[e]at a;exact .done (a b)
 have k:=Fr.eh j b;have hlen:=cH k [];cases asks with
 | false=>
   have e:aA f false x y=if am f []=[]then 11 else 0:=by unfold aA;rw[if_neg (by simp[b]),if_neg (by simp)]
   rw[e]at a d;simp
   ((
     refine ai Tryz.func61 rfl rfl (jy k ?_);refine ab.run lay [] ?_;simp;refine aE.intro (λc=>?_) (λc=>?_)<;>simp at c
     . rw[if_pos c]at a
       simp;exact .done (a (by simp))
     . rw[if_neg c]at d
       simp;exact .done (d rfl b c)))
 | true=>
   simp;refine ai Tryz.func118 rfl rfl (dD g ?_);refine ab.run lay [] ?_;simp
   by_cases h:bx x 0 (f.ao.length-1)=true
   . simp [h]
     refine ai Tryz.func118 rfl rfl (dD g ?_);refine ab.run lay [] ?_;simp
     by_cases i:bx y 0 (f.ao.length-1)=true
     . have e:aA f true x y=if am f []=[]then 11 else 0:=by unfold aA;rw[if_neg (by simp[b]),if_neg (by simp[h,i])]
       rw[e]at a d;simp[i]
       ((
         refine ai Tryz.func61 rfl rfl (jy k ?_);refine ab.run lay [] ?_;simp;refine aE.intro (λc=>?_) (λc=>?_)<;>simp at c
         . rw[if_pos c]at a
           simp;exact .done (a (by simp))
         . rw[if_neg c]at d
           simp;exact .done (d rfl b c)))
     . have e:aA f true x y=3:=by unfold aA;rw[if_neg (by simp[b]),if_pos ⟨rfl,λq=>i q.2⟩]
       rw[e]at a;have mE:bx y 0 (f.ao.length-1)=false:=by simpa using i
       simp[mE];exact .done (a (by simp))
   . have e:aA f true x y=3:=by unfold aA;rw[if_neg (by simp[b]),if_pos ⟨rfl,λq=>h q.1⟩]
     rw[e]at a;have jj:bx x 0 (f.ao.length-1)=false:=by simpa using h
     simp[jj];exact .done (a (by simp))
theorem pJ{L:List (List Int)}{n:Int}(h:KF (.val (int (toldOf n L.length))) σ):ar Tryz.prog m 96 [rows L,int n] σ KF:=by
 unfold toldOf at h;refine ar.start lay [] [] 2 Tryz.func96 rfl rfl (by rfl) (by kernel_rfl) ?_;simp[Tryz.f96];refine aE.intro (λa=>?_) (λa=>?_)<;>simp at a
 . rw[if_pos a]at h
   simp;exact .done h
 rw[if_neg a]at h;simp;refine aE.intro (λb=>?_) (λb=>?_)<;>simp at b
 . rw[if_pos b]at h
   simp;exact .done h
 rw[if_neg b]at h;simp;exact .done h
theorem tz{l:List (List Int)}{x y:Int}(B:l.length<1000000000)(o:0<=x/\∀w∈l,x.toNat<w.length)(p:0<=y/\∀w∈l,y.toNat<w.length)(h:KF (.val (int ((l.filter (aJ x y)).length:Int))) σ):ar Tryz.prog m 94 [rows l,int x,int y] σ KF:=by
 refine ar.start lay [] IN 3 Tryz.func94 rfl rfl (by rfl) (by kernel_rfl) ?_;simp[Tryz.f94];refine ab.loop l.length (λi s=>∃env,s=⟨env,σ,[],.no⟩/\env 0=rows l/\env 1=int x/\env 2=int y/\env 7=int (((l.take i).filter (aJ x y)).length:Int)/\env 8=int i) ⟨_,rfl,by simp,by simp,by simp,by simp,by simp⟩ ?_;rintro C i _ D ⟨env,rfl,d,j,k,n,f⟩ t;rcases Nat.lt_or_ge i l.length with g1|g1
 . have z:(i:Int)<l.length:=by omega
   obtain⟨w,g⟩:∃w,w=l[i]:=⟨_,rfl⟩;have b:=o.2 w (by rw[g];exact List.getElem_mem g1);have c:=p.2 w (by rw[g];exact List.getElem_mem g1);have A:((l.take i).filter (aJ x y)).length<=i:=Nat.le_trans (List.length_filter_le _ _) (by rw[List.length_take];omega);have f1:-9223372036854775808<=(i:Int)+1/\(i:Int)+1<=9223372036854775807:=by omega
   have u:-9223372036854775808<=(((l.take i).filter (aJ x y)).length:Int)+1/\(((l.take i).filter (aJ x y)).length:Int)+1<=9223372036854775807:=by omega
   have v:aJ x y w=decide (w[x.toNat]=w[y.toNat]):=by simp[aJ,List.getD_eq_getElem?_getD,b,c]
   have a:(l.take (i+1)).filter (aJ x y)=(l.take i).filter (aJ x y)++if aJ x y w=true then[w]else[]:=by
    rw[List.take_succ_eq_append_getElem g1,List.filter_append,<-g];by_cases e:aJ x y w=true<;>simp[e]
   by_cases q:w[x.toNat]=w[y.toNat]
   . rw[v,if_pos (decide_eq_true q)]at a
     refine ab.run lay [] ?_;simp[d,j,k,f,g1,<-g,o.1,p.1,b,c,beq_iff_eq.2 q];refine ab.run lay [] ?_;simp[n,f,f1.1,f1.2,u.1,u.2];refine t _ g1 ⟨_,rfl,by simp[d],by simp[j],by simp[k],by simp[a],by simp⟩
   . rw[v,if_neg (by simpa using q),List.append_nil]at a
     refine ab.run lay [] ?_;simp[d,j,k,f,g1,<-g,o.1,p.1,b,c,beq_eq_false_iff_ne.2 q];refine ab.run lay [] ?_;simp[f,f1.1,f1.2];refine t _ g1 ⟨_,rfl,by simp[d],by simp[j],by simp[k],by simp[a,n],by simp⟩
 . have r:i=l.length:=by omega
   subst r;rw[List.take_length]at n;refine ab.run lay [] ?_;simp[d,n,f];exact .done h
theorem nu{a b:AV}:(AV.bk [.lit (.slice none 0 0),a]).W (.bk [ints [],a]):=oy rfl λi x y c d=>by
 match i with
 |0=>simp at c d;subst c;subst d;exact cV 1
 |1=>simp at c d;subst c;subst d;exact .refl _
 |i+2=>simp at c
theorem kE{f:Fr}{x y:Int}(h:aA f true x y=0):check f=0/\(0<=x/\x<f.ao.length)/\(0<=y/\y<f.ao.length)/\am f []≠[]:=by
 unfold aA at h;split at h
 . next q=>exact absurd h q
 next q=>
 split at h
 . cases h
 next a=>
 split at h
 . cases h
 next b=>
 have a:bx x 0 (f.ao.length-1)=true/\bx y 0 (f.ao.length-1)=true:=Classical.byContradiction λg=>a ⟨rfl,g⟩
 rw[gx,gx]at a;exact⟨by simpa using q,by omega,by omega,b⟩
theorem eZ{f:Fr}(b:f.Good){w:List Int}(a:w∈am f []):w.length=f.ao.length/\∀x∈w,0<=x/\x<f.most:=by
 refine⟨?_,jY f [] _ _ _ _ (by simp) w a⟩;have:=fP f [] _ _ _ _ w a;simpa using this
def rm(f:Fr)(x:Int):Int × Int:=if aA f true x x≠0 then(0,aA f true x x)else(toldOf (((am f []).filter (iA x)).length:Int) (am f []).length,0)
theorem Gl{f:Fr}{x:Int}(v:f.Fits)(h:KF (.val (.bk [int (rm f x).1,int (rm f x).2])) σ):ar Tryz.prog m 49 [az f,int x] σ KF:=by
 unfold rm at h;refine ar.start lay [] R6 2 Tryz.func49 rfl rfl (by rfl) (by kernel_rfl) ?_
 simp[Tryz.f49];refine ai Tryz.func66 rfl rfl (gL (asks:=true) v (λb=>?_) λb _ _=>?_)
 . rw[if_pos b]at h
   rw[<-bne_iff_ne]at b;refine ab.run lay [] ?_;simp[b];exact .done h
 . rw [if_neg (by simp[b])]at h
   obtain⟨A,B,D,E⟩:=kE b;have o:=Fr.eh v A;have hlen:=cH o [];have c:∀w∈am f [],x.toNat<w.length/\w.length<1000000:=λw d=>by have:=(eZ o d).1;have:=o.oA;omega
   generalize am f []=l at *;refine ab.run lay [] ?_;simp;refine ab.loop l.length (λi s=>∃env,s=⟨env,σ,[],.no⟩/\env 1=int x/\env 6=rows l/\env 8=int (((l.take i).filter (iA x)).length:Int)/\env 9=int i) ⟨_,rfl,by simp,by simp,by simp,by simp⟩ ?_
   rintro F i _ G ⟨env,rfl,p,j,k,n⟩ y
   rcases Nat.lt_or_ge i l.length with g2|g2
   . have jj:(i:Int)<l.length:=by omega
     obtain⟨w,d⟩:∃w,w=l[i]:=⟨_,rfl⟩;obtain⟨g,r⟩:=c w (by rw[d];exact List.getElem_mem g2)
     have C:((l.take i).filter (iA x)).length<=i:=Nat.le_trans (List.length_filter_le _ _) (by rw[List.length_take];omega)
     have f1:-9223372036854775808<=(i:Int)+1/\(i:Int)+1<=9223372036854775807:=by omega
     have H:-9223372036854775808<=(((l.take i).filter (iA x)).length:Int)+1/\(((l.take i).filter (iA x)).length:Int)+1<=9223372036854775807:=by omega
     have z:iA x w=decide ((aP w w[x.toNat]).length=1):=by simp[iA,List.getD_eq_getElem?_getD,g]
     have a:(l.take (i+1)).filter (iA x)=(l.take i).filter (iA x)++if iA x w=true then[w]else[]:=by
      rw[List.take_succ_eq_append_getElem g2,List.filter_append,<-d]
      by_cases e:iA x w=true<;>simp[e]
     refine ab.run lay [] ?_;simp[p,j,n,g2,jj,<-d,B.1,g];refine ai Tryz.func102 rfl rfl (BI r ?_);refine aI.go lay [] ?_;simp;refine ab.run lay [] ?_;simp
     by_cases q:(aP w w[x.toNat]).length=1
     . rw[z,if_pos (decide_eq_true q)]at a
       have t:(((aP w w[x.toNat]).length:Int)==1)=true:=beq_iff_eq.2 (by omega)
       simp[k,n,t];exact⟨by omega,by omega,y _ g2 ⟨_,rfl,by simp[p],by simp[j],by simp[a],by simp⟩⟩
     . rw[z,if_neg (by simpa using q),List.append_nil]at a
       have t:(((aP w w[x.toNat]).length:Int)==1)=false:=beq_eq_false_iff_ne.2 (by omega)
       simp[n,t];exact⟨by omega,y _ g2 ⟨_,rfl,by simp[p],by simp[j],by simp[a,k],by simp⟩⟩
   . have u:i=l.length:=by omega
     subst u;rw[List.take_length]at k;refine ab.run lay [] ?_;simp[j,k,n];refine ai Tryz.func96 rfl rfl (pJ ?_);refine ab.run lay [] ?_;simp;exact .done h
end Go.Proofs.YtldmpfccgajobaaGreatDoor
namespace Go.Proofs.YtldmpfccgajobaaGreatDoor
open Go.aR Go.Conc
set_option maxHeartbeats 2000000
set_option maxRecDepth 4000
variable{m:Mo}{σ:aa}{KF:dF->aa->Prop}
theorem Ak{σ0 σ:aa}{a:AV}{kk:Nat}{es:List AV}(h:Tok σ0 σ a kk es)(c:es≠[]):∃sp,a=.sl kk es sp:=by
 rcases h.2 with⟨_,q⟩|q|⟨b,e,_,q,_⟩
 . exact absurd q c
 . exact⟨_,q⟩
 . exact⟨_,q⟩
theorem Al{a a' b:AV}(h:a.W a'):(AV.bk [a,b]).W (.bk [a',b]):=oy rfl λi x y c d=>by
 match i with
 |0=>simp at c d;subst c;subst d;exact h
 |1=>simp at c d;subst c;subst d;exact .refl _
 |i+2=>simp at c
namespace MS
end MS
abbrev σO:aa:=λ_=>none
theorem Dw{L:List (List Int)}{x y k:Nat}(a:k<L.length):ig (L.take (k+1)) x y=ig (L.take k) x y++if aJ x y L[k]=true then[aP L[k] (L[k].getD x 0)]else[]:=by
 unfold ig;rw[List.take_succ_eq_append_getElem a,List.filter_append,List.map_append];by_cases e:aJ x y L[k]=true<;>simp[e]
theorem yE(L:List (List Int))(x y:Nat):(ig L x y).length<=L.length:=by unfold ig;rw[List.length_map];exact List.length_filter_le _ _
def qj(L:List (List Int))(x y:Nat):List AV:=
 match ig L x y with
 |[]=>[.lit (.slice none 0 0),int 11]
 |a::r=>[ints (dm a r),int 0]
theorem Dx(hs:m.solo=true){f:Fr}{x y:Nat}(hf:f.Fits)(E:check f=0)(Q:x<f.ao.length)(hy:y<f.ao.length)(b0:am f []≠[])(h:KF (.val (.bk (qj (am f []) x y))) σ):ar Tryz.prog m 50 [az f,int x,int y] σ KF:=by
 have hg:=Fr.eh hf E;have h6:=hg.oA;have hlen:=cH hg [];have b1:∀w∈am f [],w.length=f.ao.length:=λw hw=>by have:=fP f [] _ _ _ _ w hw;simpa using this
 refine ar.start lay [] Ol 3 Tryz.func50 rfl rfl (by rfl) (by kernel_rfl) ?_
 simp[Tryz.f50];refine ai Tryz.func62 rfl rfl (jX (l:=[(x:Int),(y:Int)]) (sp:=.exact) hs hf E (λn hn=>by simp at hn;rcases hn with rfl|rfl<;>omega) (by simp) b0 λb mb σ0 dj hu b2 J=>?_)
 refine ab.run lay [] ?_;simp;have LK:Fa Tryz.prog m nn b 6 mb .u8 (cO f) (rj b 6 mb .u8 (cO f)) (RV b 6 mb .u8):=eo ln lp qH hs dj;refine bT.intro λg b3=>?_
 simp;have hW:Wl [iY b mb f 0,AV.lit (.slice none 0 0)] [iY b mb f 0,ints []]:=.cons (.refl _) (.cons (cV 1) .nil);refine aT Tryz.func63 rfl rfl hW (qk (begun:=[]) ?_);refine ab.run lay [] ?_;simp;refine ab.rangeFunc rfl λdr r l hr hl a8=>?_
 obtain⟨a1,_,hr⟩:=aa.aG hr;obtain⟨a2,_,hl⟩:=aa.aG hl;generalize b4:mM.mk _ _ _ _ _ _ _ _ _=al;obtain⟨L,hL⟩:∃L,L=am f []:=⟨_,rfl⟩
 have hY : Ma m (.fn (.yield l) [] []) (am f []) (λk F t=>∃a,(∀c,F c↔c=l\/c=g\/bv a=some c)/\t l=some (.loop al)/\t g=some (.cells [a])/\Tok σO t a 1 ((ig ((am f []).take k) x y).map ints)) (λF t=>False):=by
  refine⟨λk F t ey hk hI hT hF=>?_,λk F dx K he hI=>?_,λF dx K he hI=>hI.elim,λk F t c hI E=>?_⟩
  . obtain ⟨a,o,g1,g3,j⟩:=hI
    have b5:(am f [])[k]∈am f []:=List.getElem_mem hk;have b6:=b1 _ b5;have A:=Dw (L:=am f []) (x:=x) (y:=y) hk;have b7:=yE ((am f []).take k) x y;rw[List.length_take]at b7;obtain⟨w,hw⟩:∃w,w=(am f [])[k]:=⟨_,rfl⟩;rw[<-hw]at b6 A;have G:x<w.length:=by omega
    have a9:y<w.length:=by omega
    have b8:aJ x y w=decide (w[x]=w[y]):=by simp[aJ,List.getD_eq_getElem?_getD,G,a9]
    have dy:w.getD x 0=w[x]:=by simp[List.getD_eq_getElem?_getD,G]
    rw[<-hw];subst b4;refine dX.tA (hold:=Ol) dr Tryz.func50 g1 rfl ?_;refine ab.run lay [] ?_;simp[lU];refine ab.beginRound g1 rfl ?_;have R:bv a≠some l:=λq=>by obtain⟨_,e,H⟩:=j.aY q;rw[g1]at H;cases H
    have b9:bv a≠some g:=λq=>by obtain⟨_,e,H⟩:=j.aY q;rw[g3]at H;cases H
    by_cases q:w[x]=w[y]
    . have qb:(w[x] !=w[y])=false:=by simp[q]
      rw[b8,if_pos (by simpa using q),dy]at A
      obtain⟨v,hv⟩:∃v,v=w[x]:=⟨_,rfl⟩;rw[<-hv]at A;refine ab.run lay [] ?_;simp[G,a9,qb];generalize e0:mM.mk _ _ _ _ _ _ _ _ _=bz;generalize bq:t.set l (.loop bz)=B;have bA:B l=some (.loop bz):=by rw[<-bq];exact aa.an _ _ _
      have S:∀z,z≠l->B z=t z:=λz D=>by rw[<-bq];exact aa.ag _ _ D
      have bB:Tok σO B a 1 ((ig ((am f []).take k) x y).map ints):=jC j (λz x D=>by cases D) λd hd=>⟨S d (λe=>R (e ▸ hd)),rfl⟩
      have M:B g=some (.cells [a]):=(S g (Ne.symm a2)).trans g3;have c5:=bB.cells;refine ab.run lay [] ?_;simp;refine ab.loop w.length (λi s=>∃env K,s=⟨env,K,[],.no⟩/\env 4=.cp (int x) 0/\env 10=.ref g 0/\env 11=ints w/\env 38=ints w/\env 39=int w.length/\env 40=int i/\Tok B K (env 12) 1 ((aP (w.take i) v).map int)) ⟨_,B,rfl,by simp,by simp,by simp,by simp,by simp,by simp,by simpa[aP]using Tok.nil B 1⟩ ?_
      rintro k1 i _ hi ⟨env,K,rfl,e4,cP,aV,T,N,U,p⟩ ih
      have c6:=p.cells
      rcases Nat.lt_or_ge i w.length with g4|g4
      . have c7:(i:Int)<w.length:=by omega
        have f1:-9223372036854775808<=(i:Int)+1/\(i:Int)+1<=9223372036854775807:=by omega
        have e7:=kB (w.take i) v;rw[List.length_take]at e7
        by_cases q4:w[i]=v
        . have ad:(w[i]==w[x])=true:=by simp[q4,hv]
          refine ab.run lay [] ?_;simp[e4,aV,T,N,U,c7,g4,G,ad];refine aF lay rfl rfl rfl bC rfl bC rfl oo (by decide) (by simp;omega) (σ0:=B) (es:=(aP (w.take i) v).map int) (xs:=[int i]) (by simpa using p) (.inr ⟨_,by simp;rfl⟩) λa' O c8=>?_
          have Y:=c8.cells;refine ab.run lay [] ?_;simp[U,f1.1,f1.2];refine ih _ g4 ⟨_,_,rfl,by simp[e4],by simp[cP],by simp[aV],by simp[T],by simp[N],by simp,?_⟩
          rw[jB _ _ _ g4,if_pos q4,List.map_append];simpa using c8
        . have ad:(w[i]==w[x])=false:=by rw[beq_eq_false_iff_ne,<-hv];exact q4
          refine ab.run lay [] ?_;simp[e4,aV,T,N,U,c7,g4,G,ad,f1.1,f1.2];refine ih _ g4 ⟨_,_,rfl,by simp[e4],by simp[cP],by simp[aV],by simp[T],by simp[N],by simp,?_⟩
          rw[jB _ _ _ g4,if_neg q4,List.append_nil];simpa using p
      . have ea:i=w.length:=by omega
        subst ea;rw[List.take_length]at p;refine ab.yD 12 (a':=ints (aP w v)) (by simpa using p.W) ?_
        refine ab.weaken (σ:=B) ?_ p.1;clear p ih c6;refine ab.run lay [] ?_;simp[cP,N,U,M];refine aF lay rfl rfl rfl kX rfl kX rfl bC (by decide) (by simp;omega) (σ0:=B.off a) (es:=(ig ((am f []).take k) x y).map ints) (xs:=[ints (aP w v)]) (by simpa using bB.here.1) (.inr ⟨_,by simp;rfl⟩) λa' O I=>?_
        have Z:=I.cells;have k3:∀z u,B z=some u->bv a≠some z->O z=some u:=λz u D hn=>I.1 _ _ (by rw[aa.fQ hn];exact D)
        have eb:=k3 _ _ M b9;have zl:=k3 _ _ bA R;have ca:bv a'≠some l:=λq=>by obtain⟨C,_⟩:=I.aY q;rw[aa.fQ R,bA]at C;cases C
        have Y:bv a'≠some g:=λq=>by obtain⟨C,_⟩:=I.aY q;rw[aa.fQ b9,M]at C;cases C
        have ec:Tok σO O a' 1 ((ig ((am f []).take (k+1)) x y).map ints):=by
         have:=I.base (σ0:=σO) (λy x hy=>by cases hy)
         rw[A,List.map_append];simpa using this
        refine ab.run lay [] ?_;simp[cP,eb,Z.1,Z.2,aH];have fin:∀(X:ku) z u,z≠l->z≠g->O z=some u->((O.set g (.cells [a'])).set l X) z=some u:=λX z u h1 h2 h3=>(aa.ag _ _ h1).trans ((aa.ag _ _ h2).trans h3)
        subst e0;refine⟨rfl,rfl,_,(aa.ag _ _ a2).trans zl,?_⟩;refine hT (λc=>c=l\/c=g\/bv a'=some c) _ (λc z E D=>⟨?_,λq=>?_⟩) ⟨a',λc=>Iff.rfl,aa.an _ _ _,(aa.ag _ _ (Ne.symm a2)).trans (aa.an _ _ _),jC ec (λz x D=>by cases D) λd hd=>⟨?_,rfl⟩⟩
        . have C:c≠l:=λe=>E ((o c).2 (.inl e))
          have H:c≠g:=λe=>E ((o c).2 (.inr (.inl e)))
          exact fin _ c z C H (k3 c z ((S c C).trans D) (λe=>E ((o c).2 (.inr (.inr e)))))
        . have C:c≠l:=λe=>E ((o c).2 (.inl e))
          have H:c≠g:=λe=>E ((o c).2 (.inr (.inl e)))
          rcases q with q|q|q
          . exact C q
          . exact H q
          . obtain⟨q3,_⟩:=I.aY q
            rw[aa.fQ (λe=>E ((o c).2 (.inr (.inr e)))),S c C,D]at q3
            cases q3
        . have C:d≠l:=λe=>ca (e ▸ hd)
          have H:d≠g:=λe=>Y (e ▸ hd)
          exact(aa.ag _ _ C).trans (aa.ag _ _ H)
    . have qb:(w[x] !=w[y])=true:=by simp[q]
      rw[b8,if_neg (by simpa using q),List.append_nil]at A
      refine ab.run lay [] ?_;simp[G,a9,qb];refine ab.run lay [] ?_;simp;refine⟨rfl,rfl,_,aa.an _ _ _,?_⟩;refine hT F _ (λc z E D=>⟨?_,E⟩) ⟨a,o,aa.an _ _ _,?_,?_⟩
      . have C:c≠l:=λe=>E ((o c).2 (.inl e))
        exact(aa.ag _ _ C).trans ((aa.ag _ _ C).trans D)
      . exact(aa.ag _ _ (Ne.symm a2)).trans ((aa.ag _ _ (Ne.symm a2)).trans g3)
      . rw[A]
        refine jC j (λz x D=>by cases D) λd hd=>⟨?_,rfl⟩
        have C:d≠l:=λe=>R (e ▸ hd)
        exact(aa.ag _ _ C).trans (aa.ag _ _ C)
  . obtain⟨a,o,g1,g3,j⟩:=hI
    refine⟨a,o,by rw[he l ((o l).2 (.inl rfl))];exact g1,by rw[he g ((o g).2 (.inr (.inl rfl)))];exact g3,jC j (λy x hy=>by cases hy) λd hd=>⟨he d ((o d).2 (.inr (.inr hd))),rfl⟩⟩
  . obtain⟨a,o,g1,g3,j⟩:=hI
    rcases(o c).1 E with rfl|rfl|q
    . exact⟨_,g1,rfl⟩
    . exact⟨_,g3,rfl⟩
    . obtain⟨_,e,H⟩:=j.aY q
      exact⟨_,H,rfl⟩
 obtain⟨xb,cb,ez⟩:=LK.Mb hu;have nb:∀c,σ0 c=none->c≠b:=λc E e=>by subst e;rw[E]at cb;cases cb
 have cg:σ0.Le (((σ0.set g (.cells [.lit (.slice none 0 0)])).set r (.raw (.deferred (some [])))).set l (.loop al)):=(by repeat (first|exact aa.le_refl _|assumption|refine aa.iz ?_ (by assumption)|refine aa.jZ ?_ (by assumption)))
 have sr:(((σ0.set g (.cells [.lit (.slice none 0 0)])).set r (.raw (.deferred (some [])))).set l (.loop al)) r=some (.raw (.deferred (some []))):=(aa.ag _ _ a8).trans (aa.an _ _ _)
 have ee:(((σ0.set g (.cells [.lit (.slice none 0 0)])).set r (.raw (.deferred (some [])))).set l (.loop al)) g=some (.cells [.lit (.slice none 0 0)]):=by rw[aa.ag _ _ (Ne.symm a2),aa.ag _ _ (Ne.symm a1),aa.an]
 refine eY Tryz.func112 rfl rfl rfl (nX (F:=λc=>c=l\/c=g\/bv (.lit (.slice none 0 0))=some c) LK hg (by simp) hY ⟨rfl,rfl⟩ (LK.un (λc _ ⟨x,h1,_⟩=>(cg _ _ h1).trans h1.symm) hu) ⟨.lit (.slice none 0 0),λc=>Iff.rfl,aa.an _ _ _,ee,⟨(λ_ _ hy=>by cases hy),.inl ⟨rfl,by simp[ig]⟩⟩⟩ λF' t cl eA cm=>?_)
 have eg:=(cl r _ sr (λe=>by rcases e with e|e|e;exact a8 e;exact a1 e;cases e) (nb r hr) (.inr rfl)).1
 have av:lq b mb σ0 t:=λc x h1 h2 ei=>(cl c x (cg c x h1) (λe=>by rcases e with e|e|e<;>(try subst e)<;>simp_all [bv]) h2 ei).1
 rcases cm with⟨a,o,C,q3,j⟩|q
 . rw [List.take_length]at j
   subst b4;refine⟨_,C,by simp,rfl,?_⟩
   have c5:=j.cells;have ej:(t.del l) g=some (.cells [a]):=by simp only[aa.del,Ne.symm a2,if_false];exact q3
   have a7:=yE (am f []) x y
   have ep:σ.Le (t.del l):=λc x Q=>by
    have ax:=J c x Q;have et:c≠l:=λe=>by subst e;rw[hl]at ax;cases ax
    have c3:c≠b:=λe=>by subst e;rw[b2.1]at Q;cases Q
    have c4:c≠mb:=λe=>by subst e;rw[b2.2]at Q;cases Q
    simp only[aa.del,et,if_false];exact av c x ax c3 (.inl c4)
   refine ab.bD 10 (b:=g) a ej (by simp) c5.1 ?_
   have ay:((t.del l).del g) r=some (.raw (.deferred (some []))):=by simp only[aa.del,a1,a8,if_false];exact eg
   have P:∀X,σ.Le ((((t.del l).del g)).set r X):=λX c x Q=>by
    have c1:c≠r:=λe=>by subst e;rw[J c x Q]at hr;cases hr
    have c2:c≠g:=λe=>by subst e;rw[J c x Q]at b3;cases b3
    rw[aa.ag _ _ c1];simp only[aa.del,c2,if_false];exact ep c x Q
   simp only[qj]at h;cases V:ig (am f []) x y with
   | nil=>
     rw[V]at h j
     have cv:a=.lit (.slice none 0 0)\/∃sp,a=.sl 1 [] sp:=by
      rcases j.2 with⟨q,_⟩|q|⟨_,_,_,q,_⟩
      . exact .inl q
      . exact .inr ⟨_,q⟩
      . exact .inr ⟨_,q⟩
     rcases cv with rfl|⟨sp,rfl⟩
     . refine ab.run lay [] ?_
       simp;exact⟨ay,.less (P _) (.done h)⟩
     . refine ab.run lay [] ?_
       simp;exact⟨ay,.less (P _) (.done h)⟩
   | cons w0 rs=>
     rw[V]at h j;obtain⟨sp,rfl⟩:=Ak j (by simp)
     have eB:rs.length+1<=46656:=by rw[V]at a7;simp at a7;omega
     have q5:(((rs.length:Int)+1)==0)=false:=by rw[beq_eq_false_iff_ne];omega
     have dd:∀z∈w0::rs,z.length<=6:=λz D=>by rw[<-V]at D;unfold ig at D;obtain⟨w,hw,rfl⟩:=List.mem_map.1 D;have:=kB w (w.getD x 0);have:=b1 w (List.mem_filter.1 hw).1;omega
     refine ab.run lay [] ?_;simp[q5];refine rh lay rfl kX rfl bC (es:=ints w0::rs.map ints) (sp:=sp) (l:=1) (h:=rs.length+1) ?_ (λcap ev=>⟨rfl,⟨rfl,by simp⟩,⟨_,rfl⟩,by first|omega|(simp;omega)⟩) (by simp) ?_
     . simp
     refine aI.go lay [] ?_;simp;have eK:=dd w0 (by simp)
     rw[show List.take rs.length (List.map ints rs)=List.map ints rs from List.take_of_length_le (by simp)]
     refine ai Tryz.func103 rfl rfl (yF (first:=w0) (others:=rs) (by omega) (by omega) (λz D=>?_) ?_)
     . have:=dd z (by simp[D]);omega
     refine aI.go lay [] ?_;simp;refine ab.run lay [] ?_;simp;exact⟨ay,.less (P _) (.done h)⟩
 . exact q.elim
end Go.Proofs.YtldmpfccgajobaaGreatDoor
namespace Go.Proofs.YtldmpfccgajobaaGreatDoor
open Go.aR Go.Conc
set_option maxHeartbeats 1000000
set_option maxRecDepth 4000
variable{m:Mo}{σ:aa}{KF:dF->aa->Prop}
def lr(x y k:Int)(w:List Int):Bool:=aJ x y w && aJ x k w
theorem IQ(L:List (List Int))(x y k:Int):(((L.filter (lr x y k)).length:Int)==((L.filter (aJ x y)).length:Int))=decide (∀w∈L,aJ x y w=true->aJ x k w=true):=by
 have e:L.filter (lr x y k)=(L.filter (aJ x y)).filter (aJ x k):=by
  rw[List.filter_filter];congr 1;funext w;unfold lr;exact Bool.and_comm _ _
 rw[e,Bool.eq_iff_iff,beq_iff_eq,decide_eq_true_eq];constructor
 . intro h w a b
   exact(kC (aJ x k) (L.filter (aJ x y))).1 (by omega) w (List.mem_filter.2 ⟨a,b⟩)
 . intro h
   have:=(kC (aJ x k) (L.filter (aJ x y))).2 λw a=>h w (List.mem_filter.1 a).1 (List.mem_filter.1 a).2
   omega
def Qd(L:List (List Int))(x y k:Nat):Bool:=decide (∀w∈L,aJ (x:Int) y w=true->aJ (x:Int) k w=true)
def Bo(L:List (List Int))(x y n:Nat):List Int:=((List.range n).filter (Qd L x y)).map λk:Nat=>(k:Int)
theorem IR(L:List (List Int))(x y n:Nat):Bo L x y (n+1)=Bo L x y n++if Qd L x y n=true then[(n:Int)]else[]:=by unfold Bo;rw[List.range_succ,List.filter_append,List.map_append,List.filter_cons];split<;>simp
theorem Mc{L:List (List Int)}{n x y:Nat}(g:∀w∈L,w.length=n)(m:x<n){a:List Int}{r:List (List Int)}(h:ig L x y=a::r):dm a r=Bo L x y n:=by
 have e:∃w∈L,a=aP w (w.getD x 0):=by
  have o:a∈ig L x y:=by rw[h];simp
  unfold ig at o;obtain⟨w,i,rfl⟩:=List.mem_map.1 o;exact⟨w,(List.mem_filter.1 i).1,rfl⟩
 obtain⟨p,j,e⟩:=e;refine Am ?_ ?_ λz=>?_
 . unfold dm
   rw[e];exact List.Pairwise.filter _ (oB _ _)
 . unfold Bo
   rw[List.pairwise_map];exact(List.Pairwise.filter _ List.pairwise_lt_range).imp λh=>by omega
 . constructor
   . intro c
     have d:z∈a:=by unfold dm at c;exact(List.mem_filter.1 c).1
     rw[e]at d;obtain⟨s,q,_⟩:=kD d;rw[g p j]at q;obtain⟨k,rfl⟩:∃k:Nat,z=(k:Int):=⟨z.toNat,by omega⟩
     have f:k<n:=by omega
     have:=(uE g m f h).1 c;unfold Bo;exact List.mem_map.2 ⟨k,List.mem_filter.2 ⟨List.mem_range.2 f,by unfold Qd;rw[decide_eq_true_eq];exact this⟩,rfl⟩
   . intro c
     unfold Bo at c;obtain⟨k,f,rfl⟩:=List.mem_map.1 c;obtain⟨l,b⟩:=List.mem_filter.1 f;unfold Qd at b;rw[decide_eq_true_eq]at b;exact(uE g m (List.mem_range.1 l) h).2 b
theorem BJ{L:List (List Int)}{x y:Nat}:(ig L x y=[]↔(L.filter (aJ (x:Int) y)).length=0):=by rw[Gk,Gj]
theorem BL{f:Fr}{x y:Int}(hf:f.Fits)(h0:aA f true x y≠0->KF (.val (.bk [ints [],int (aA f true x y)])) σ)
 (O:aA f true x y=0->(am f []).filter (aJ x y)=[]->KF (.val (.bk [ints [],int 11])) σ) (I:aA f true x y=0->(am f []).filter (aJ x y)≠[]->KF (.val (.bk [ints (Bo (am f []) x.toNat y.toNat f.ao.length),int 0])) σ):ar Tryz.prog m 51 [az f,int x,int y] σ KF:=by
 refine ar.start lay [] R7 3 Tryz.func51 rfl rfl (by rfl) (by kernel_rfl) ?_
 simp[Tryz.f51];refine ai Tryz.func66 rfl rfl (gL (asks:=true) hf (λA=>?_) λA _ _=>?_)
 . have h:=h0 A
   rw[<-bne_iff_ne]at A;refine ab.run lay [] ?_;simp[A];exact .eG (nu (b:=.bJ)) (.done h)
 . have O := O A
   have I:=I A;obtain⟨hc,hx,hy,h4⟩:=kE A;have P:=Fr.eh hf hc;have h6:=P.oA;have hlen:=cH P [];have p:∀w∈am f [],w.length=f.ao.length:=λw l=>(eZ P l).1
   have a7:0<(am f []).length:=List.length_pos_iff.2 h4;generalize am f []=L at *;obtain⟨c,rfl⟩:∃c:Nat,x=(c:Int):=⟨x.toNat,by omega⟩
   obtain⟨d,rfl⟩:∃d:Nat,y=(d:Int):=⟨y.toNat,by omega⟩
   have a8:c<f.ao.length:=by omega
   have a9:d<f.ao.length:=by omega
   simp only[Int.toNat_natCast]at I;refine ab.run lay [] ?_;simp;refine ai Tryz.func94 rfl rfl (tz (by omega) ⟨by omega,λw l=>by rw[p w l];omega⟩ ⟨by omega,λw l=>by rw[p w l];omega⟩ ?_)
   refine ab.run lay [] ?_;simp;refine aE.intro (λJ=>?_) (λJ=>?_)<;>simp at J
   . have h:=O (List.filter_eq_nil_iff.2 λw l=>by rw[J w l];simp)
     simp;exact .eG (nu (b:=.bJ)) (.done h)
   . have Q:L.filter (aJ (c:Int) d)≠[]:=λe=>by
      obtain⟨w,R,S⟩:=J;have:w∈L.filter (aJ (c:Int) d):=List.mem_filter.2 ⟨R,S⟩;rw[e]at this;cases this
     have h:=I Q;obtain⟨B,G⟩:∃B,B=((L.filter (aJ (c:Int) d)).length:Int):=⟨_,rfl⟩;rw[<-G];simp;refine ab.loop f.ao.length (λi s=>∃env r a,s=⟨env,r,[],.no⟩/\env 1=int c/\env 2=int d/\env 3=.cp (az f) 0/\env 8=rows L/\env 10=int B/\env 11=a/\env 12=int i/\Tok σ r a 1 ((Bo L c d i).map int)) ⟨_,σ,.lit (.slice none 0 0),rfl,by simp,by simp,by simp,by simp,by simp,by simp,by simp,by simpa[Bo]using Tok.nil σ 1⟩ ?_
     rintro c0 i _ hi ⟨env,r,a,rfl,t,u,z,n,cP,aV,bh,k⟩ ih
     have ad:=k.cells
     rcases Nat.lt_or_ge i f.ao.length with g3|g3
     . have mE:(i:Int)<f.ao.length:=by omega
       have f1:-9223372036854775808<=(i:Int)+1/\(i:Int)+1<=9223372036854775807:=by omega
       have v:=IR L c d i
       have al:(Bo L c d i).length<=i:=by unfold Bo;rw[List.length_map];exact Nat.le_trans (List.length_filter_le _ _) (by rw[List.length_range];omega)
       refine ab.run lay [] ?_;simp[z,bh,mE];refine ab.loop L.length (λj s=>∃env,s=⟨env,r,[],.no⟩/\env 1=int c/\env 2=int d/\env 3=.cp (az f) 0/\env 8=rows L/\env 10=int B/\env 11=a/\env 12=int i/\env 13=int (((L.take j).filter (lr c d i)).length:Int)/\env 14=int j) ⟨_,rfl,by simp[t],by simp[u],by simp[z],by simp[n],by simp[cP],by simp[aV],by simp[bh],by simp,by simp⟩ ?_
       clear t u z n cP aV bh
       rintro c1 j _ hj ⟨env,rfl,t,u,z,n,cP,aV,bh,o,bU⟩ C
       rcases Nat.lt_or_ge j L.length with g4|g4
       . have D:(j:Int)<L.length:=by omega
         have E:-9223372036854775808<=(j:Int)+1/\(j:Int)+1<=9223372036854775807:=by omega
         obtain⟨w,l⟩:∃w,w=L[j]:=⟨_,rfl⟩;have av:=p w (by rw[l];exact List.getElem_mem g4)
         have K:c<w.length:=by omega
         have M:d<w.length:=by omega
         have T:i<w.length:=by omega
         have ax:((L.take j).filter (lr c d i)).length<=j:=Nat.le_trans (List.length_filter_le _ _) (by rw[List.length_take];omega)
         have f3:-9223372036854775808<=(((L.take j).filter (lr c d i)).length:Int)+1/\(((L.take j).filter (lr c d i)).length:Int)+1<=9223372036854775807:=by omega
         have U:lr c d i w=(decide (w[c]=w[d]) && decide (w[c]=w[i])):=by simp[lr,aJ,List.getD_eq_getElem?_getD,K,M,T]
         have g:(L.take (j+1)).filter (lr c d i)=(L.take j).filter (lr c d i)++if lr c d i w=true then[w]else[]:=by
          rw[List.take_succ_eq_append_getElem g4,List.filter_append,<-l]
          by_cases e:lr c d i w=true<;>simp[e]
         by_cases F:w[c]=w[d]
         . by_cases N:w[c]=w[i]
           . rw[U,if_pos (by simp[F];rw[<-F];exact N)]at g
             refine ab.run lay [] ?_;simp[t,u,n,bh,bU,g4,D,<-l,K,M,T,beq_iff_eq.2 F,beq_iff_eq.2 N];refine ab.run lay [] ?_;simp[o,bU,E.1,E.2,f3.1,f3.2];exact C _ g4 ⟨_,rfl,by simp[t],by simp[u],by simp[z],by simp[n],by simp[cP],by simp[aV],by simp[bh],by simp[g],by simp⟩
           . rw[U,if_neg (by simp[N]),List.append_nil]at g
             refine ab.run lay [] ?_;simp[t,u,n,bh,bU,g4,D,<-l,K,M,T,beq_iff_eq.2 F,beq_eq_false_iff_ne.2 N];refine ab.run lay [] ?_;simp[bU,E.1,E.2];exact C _ g4 ⟨_,rfl,by simp[t],by simp[u],by simp[z],by simp[n],by simp[cP],by simp[aV],by simp[bh],by simp[g,o],by simp⟩
         . rw[U,if_neg (by simp[F]),List.append_nil]at g
           refine ab.run lay [] ?_;simp[t,u,n,bU,g4,D,<-l,K,M,beq_eq_false_iff_ne.2 F];refine ab.run lay [] ?_;simp[bU,E.1,E.2];exact C _ g4 ⟨_,rfl,by simp[t],by simp[u],by simp[z],by simp[n],by simp[cP],by simp[aV],by simp[bh],by simp[g,o],by simp⟩
       . have V:j=L.length:=by omega
         subst V;rw[List.take_length]at o;have X:Qd L c d i=(((L.filter (lr c d i)).length:Int)==B):=by rw[G,IQ];rfl
         rw[X]at v
         by_cases q:(((L.filter (lr c d i)).length:Int)==B)=true
         . rw[if_pos q]at v
           refine ab.run lay [] ?_;simp[n,cP,aV,bh,o,bU,q];refine aF lay rfl rfl rfl bC rfl bC rfl oo (by decide) (by simp;omega) (σ0:=σ) (es:=(Bo L c d i).map int) (xs:=[int i]) (by simpa using k) (.inr ⟨_,by simp;rfl⟩) λa' Y H=>?_
           have ay:=H.cells;refine ab.run lay [] ?_;simp[bh,f1.1,f1.2];exact ih _ g3 ⟨_,Y,a',rfl,by simp[t],by simp[u],by simp[z],by simp[n],by simp[cP],by simp,by simp,by rw[v];simpa using H⟩
         . rw[if_neg q,List.append_nil]at v
           have q:(((L.filter (lr c d i)).length:Int)==B)=false:=by simpa using q
           refine ab.run lay [] ?_;simp[n,cP,bh,o,bU,q];exact⟨by omega,ih _ g3 ⟨_,r,a,rfl,by simp[t],by simp[u],by simp[z],by simp[n],by simp[cP],by simp[aV],by simp,by rw[v];exact k⟩⟩
     . have Z:i=f.ao.length:=by omega
       subst Z;refine ab.run lay [] ?_;simp[z,aV,bh];exact .eG (Al k.W) (.less k.1 (.done h))
def aW(f:Fr)(l:List Int):Int:=if aO f l≠0 then aO f l else if am f []=[]then 11 else 0
theorem fB(j:m.solo=true){f:Fr}{l:List Int}{sp:bX}(g:f.Fits)(b:l.length<1152921504606846976)(hb:aW f l≠0)(h:∀σ',σ.Le σ'->KF (.val (.bk [.lit (.pointer none),int (aW f l)])) σ'):ar Tryz.prog m 62 [az f,.sl 1 (l.map int) sp] σ KF:=by
 by_cases a:aO f l=0
 . have i:check f=0:=by
    unfold aO at a;split at a
    . next q=>exact absurd a q
    next q=>simpa using q
   have k:∀n∈l,0<=n/\n<f.ao.length:=by
    unfold aO at a;rw[if_neg (by simp[i])]at a
    split at a
    . next q=>intro n o;have:=gx.1 (List.all_eq_true.1 q n o);omega
    . cases a
   have e:aW f l=if am f []=[]then 11 else 0:=by unfold aW;rw[if_neg (by simp[a])]
   by_cases c:am f []=[]
   . rw[if_pos c]at e
     rw[e]at h;exact ib j g i k b c h
   . rw[if_neg c]at e
     exact absurd e hb
 . have e:aW f l=aO f l:=by unfold aW;rw[if_pos a]
   rw[e]at h;have d:(aO f l==0)=false:=by simpa using a
   refine ar.start lay [] [] 2 Tryz.func62 rfl rfl (by rfl) (by kernel_rfl) ?_
   simp[Tryz.f62];have p:Wl [AV.agg (bS f),.sl 1 (l.map int) sp] [az f,ints l]:=.cons (.refl _) (.cons (eE 1 _ sp) .nil);refine aT Tryz.func59 rfl rfl p (fI g b (λq=>?_) λq=>absurd q a)
   refine ab.run lay [] ?_;simp[d];exact .done (h σ (aa.le_refl _))
theorem l9(f:Fr)(x y:Int):aA f true x y=aW f [x,y]:=by
 unfold aA aW aO;simp only[List.all_cons,List.all_nil,Bool.and_true,Bool.and_eq_true];by_cases a:check f=0
 . by_cases b:bx x 0 (f.ao.length-1)=true/\bx y 0 (f.ao.length-1)=true
   . simp[a,b]
   . simp[a,b]
 . simp[a]
theorem uF(f:Fr)(x:Int):aA f true x x=aW f [x]:=by
 unfold aA aW aO;simp only[List.all_cons,List.all_nil,Bool.and_true];by_cases a:check f=0
 . by_cases b:bx x 0 (f.ao.length-1)=true
   . simp[a,b]
   . simp[a,b]
 . simp[a]
theorem Gm(d:m.solo=true){f:Fr}{x:Int}(a:f.Fits)(h:KF (.val (.bk [int (rm f x).1,int (rm f x).2])) σ):ar Tryz.prog m 48 [az f,int x] σ KF:=by
 unfold rm at h;by_cases hb:aA f true x x=0
 . rw[if_neg (by simp[hb])]at h
   obtain⟨e,j,p,g⟩:=kE hb;have k:=Fr.eh a e;have hlen:=cH k [];have i:=List.length_pos_iff.2 g;have n:=List.length_filter_le (iA x) (am f []);refine IP d a e j g (by omega) ?_;rw[lD (by omega) (by omega) (by omega)];exact h
 . rw[if_pos hb,uF]at h
   rw[uF]at hb;have b:(aW f [x]!=0)=true:=by simpa using hb
   refine ar.start lay [] [] 2 Tryz.func48 rfl rfl (by rfl) (by kernel_rfl) ?_;simp[Tryz.f48];refine ai Tryz.func62 rfl rfl (fB (l:=[x]) (sp:=.exact) d a (by simp) hb λo c=>?_);refine ab.run lay [] ?_;simp[b];exact .less c (.done h)
theorem BM(u:m.solo=true){f:Fr}{x y:Int}(j:f.Fits)(z:aA f true x y≠0->KF (.val (.bk [ints [],int (aA f true x y)])) σ)
 (k:aA f true x y=0->(am f []).filter (aJ x y)=[]->KF (.val (.bk [ints [],int 11])) σ) (n:aA f true x y=0->(am f []).filter (aJ x y)≠[]->KF (.val (.bk [ints (Bo (am f []) x.toNat y.toNat f.ao.length),int 0])) σ):ar Tryz.prog m 50 [az f,int x,int y] σ KF:=by
 by_cases hb:aA f true x y=0
 . obtain⟨v,D,E,o⟩:=kE hb
   have A:=Fr.eh j v;have k:=k hb;have n:=n hb;obtain⟨d,rfl⟩:∃d:Nat,x=(d:Int):=⟨x.toNat,by omega⟩
   obtain⟨g,rfl⟩:∃g:Nat,y=(g:Int):=⟨y.toNat,by omega⟩
   have i:∀w∈am f [],w.length=f.ao.length:=λw o=>(eZ A o).1
   refine ar.thaw (Dx u j v (by omega) (by omega) o ?_)
   cases c:ig (am f []) d g with
   | nil=>
     have B:=List.length_eq_zero_iff.1 (BJ.1 c);have e:qj (am f []) d g=[.lit (.slice none 0 0),int 11]:=by unfold qj;rw[c]
     rw[e];exact .eG (nu (b:=.bJ)) (.done (k B))
   | cons a r=>
     have p:(am f []).filter (aJ (d:Int) g)≠[]:=λq=>by have:=BJ.2 (List.length_eq_zero_iff.2 q);rw[c]at this;cases this
     have e:qj (am f []) d g=[ints (dm a r),int 0]:=by unfold qj;rw[c]
     rw[e,Mc i (by omega) c]
     exact .done (n p)
 . have h:=z hb
   rw[l9]at h;rw[l9]at hb;have s:(aW f [x,y] !=0)=true:=by simpa using hb
   refine ar.start lay [] Ol 3 Tryz.func50 rfl rfl (by rfl) (by kernel_rfl) ?_
   simp[Tryz.f50];refine ai Tryz.func62 rfl rfl (fB (l:=[x,y]) (sp:=.exact) u j (by simp) hb λC t=>?_)
   refine ab.run lay [] ?_;simp[s];exact .less t (.eG (nu (b:=.bJ)) (.done h))
end Go.Proofs.YtldmpfccgajobaaGreatDoor
namespace Go.Proofs.YtldmpfccgajobaaGreatDoor
open Go.aR Go.Conc
set_option maxHeartbeats 2000000
set_option maxRecDepth 4000
variable{m:Mo}{σ:aa}{KF:dF->aa->Prop}
def qO(f:Fr)(x y:Int):List Int × Int:=if aA f true x y≠0 then([],aA f true x y)else if(am f []).filter (aJ x y)=[]then([],11)else(Bo (am f []) x.toNat y.toNat f.ao.length,0)
theorem qm{f:Fr}{x y:Int}(h:KF (.val (.bk [ints (qO f x y).1,int (qO f x y).2])) σ):(aA f true x y≠0->KF (.val (.bk [ints [],int (aA f true x y)])) σ)/\
 (aA f true x y=0->(am f []).filter (aJ x y)=[]->KF (.val (.bk [ints [],int 11])) σ)/\(aA f true x y=0->(am f []).filter (aJ x y)≠[]->KF (.val (.bk [ints (Bo (am f []) x.toNat y.toNat f.ao.length),int 0])) σ):=by
 unfold qO at h;refine⟨λq=>?_,λq a=>?_,λq a=>?_⟩
 . rw[if_pos q]at h;exact h
 . rw[if_neg (by simp[q]),if_pos a]at h;exact h
 . rw[if_neg (by simp[q]),if_neg a]at h;exact h
theorem Gn(a:m.solo=true){f:Fr}{x y:Int}(b:f.Fits)(h:KF (.val (.bk [ints (qO f x y).1,int (qO f x y).2])) σ):ar Tryz.prog m 50 [az f,int x,int y] σ KF:=BM a b (qm h).1 (qm h).2.1 (qm h).2.2
theorem Dy{f:Fr}{x y:Int}(a:f.Fits)(h:KF (.val (.bk [ints (qO f x y).1,int (qO f x y).2])) σ):ar Tryz.prog m 51 [az f,int x,int y] σ KF:=BL a (qm h).1 (qm h).2.1 (qm h).2.2
theorem Dz{f:Fr}{x y:Int}(a:f.Fits):(qO f x y).1.length<1000000:=by
 unfold qO;split
 . simp
 . next q=>
   have q:aA f true x y=0:=Decidable.not_not.1 q;obtain⟨b,_⟩:=kE q;have c:=Fr.eh a b;split
   . simp
   . have:=c.oA
     show(Bo _ _ _ _).length<1000000;unfold Bo;rw[List.length_map];refine Nat.lt_of_le_of_lt (List.length_filter_le _ _) ?_;rw[List.length_range];omega
structure BN(σ0 σ:aa)(a b:AV)(xs ys:List AV):Prop where
 fst:Tok σ0 σ a 1 xs
 snd:Tok σ0 σ b 1 ys
 ne:∀c,bv a=some c->bv b≠some c
theorem BN.symm{σ0 σ:aa}{a b:AV}{xs d:List AV}(h:BN σ0 σ a b xs d):BN σ0 σ b a d xs:=⟨h.snd,h.fst,λc e f=>h.ne c f e⟩
theorem BN.grow{σ0 σ σ':aa}{a b a':AV}{xs j es:List AV}(h:BN σ0 σ a b xs j)(d:Tok (σ.off a) σ' a' 1 es):BN σ0 σ' a' b es j:=by
 have g:σ0.Le σ':=aa.le_trans h.fst.here.2 d.1
 have hb:∀c e,bv b=some c->σ c=some (.tail e)->(σ.off a) c=some (.tail e):=λc e i f=>by rw[aa.fQ (λq=>h.ne c q i)];exact f
 refine⟨d.base h.fst.here.2,⟨g,?_⟩,λc i f=>?_⟩
 . rcases h.snd.2 with q|q|⟨c,e,m,k,n⟩
   . exact .inl q
   . exact .inr (.inl q)
   . exact .inr (.inr ⟨c,e,m,k,d.1 _ _ (hb c e (by rw[k];rfl) n)⟩)
 . obtain⟨l,_⟩:=d.aY i
   obtain⟨_,e,o⟩:=h.snd.aY f;rw[hb c e f o]at l;cases l
end Go.Proofs.YtldmpfccgajobaaGreatDoor
