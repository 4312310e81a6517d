import Derived.Test.YtkcceaplmgdnfaaGreatDoorC31
set_option linter.all false
set_option maxHeartbeats 1000000
set_option maxRecDepth 4000
namespace Go.Proofs.YtkcceaplmgdnfaaGreatDoor
open Go.Proofs.Tryz (prog)
section
open Go.bQ Go.Conc
def bh(w:acp)(k:Int):acp:=(w.zipIdx.filter λp=>decide (p.1=k)).map λp=>(p.2:Int)
def Hg(l:acp):abG:=(List.range (bE l+1).toNat).map λk:Nat=>l++[(k:Int)]
def jS:Nat->abG
 |0=>[[]]
 |i+1=>(jS i).flatMap Hg
def yh:Nat->acp->abG
 |0,l=>[l]
 |n+1,l=>(List.range (bE l+1).toNat).flatMap λk:Nat=>yh n (l++[(k:Int)])
def rq(f:Fr)(l:acp):Bool:=decide (bE l<=f.aX) && (List.range (bE l).toNat).all λk:Nat=>decide (me f (bh l k)=0)
theorem eL(w:acp)(x k:Int):bh (w++[x]) k=bh w k++if x=k then[(w.length:Int)]else[]:=by
 unfold bh
 grind
theorem DT(w t:acp)(k:Int):(bh w k).Sublist (bh (w++t) k):=by
 unfold bh
 grind
theorem dc{w:acp}{k n:Int}(h:n∈bh w k):0<=n/\n<w.length/\w.getD n.toNat 0=k:=by
 unfold bh at h
 grind
theorem cG(w:acp)(x:Int):bE (w++[x])=max (bE w) (x+1):=by
 unfold bE
 simp_all
theorem ru(t:acp):∀n:Int,n<=t.foldl (λn k=>max n (k+1)) n:=by
 induction t with
 |nil=>simp_all
 |cons a t b=>grind
theorem jz(w t:acp):bE w<=bE (w++t):=by unfold bE;rw[aae];exact ru t _
theorem pW(w:acp):0<=bE w:=ru w 0
theorem yi:∀(n:Nat) (w l:acp),l∈yh n w->∃t,l=w++t/\t.length=n
 |0,w,l,h=>by simp[yh]at h;simp_all
 | n+1,w,l,h=>by
   unfold yh at h;obtain⟨k,_,a⟩:=List.mem_flatMap.1 h;obtain⟨t,b,c⟩:=yi n _ l a
   simp_all
theorem As:∀n m:Nat,(jS m).flatMap (yh n)=jS (m+n)
 | 0,m=>by
   have:yh 0=λl=>[l]:=by funext l;rfl
   simp_all
 | n+1,m=>by
   have e:∀l,yh (n+1) l=(Hg l).flatMap (yh n):=λl=>by unfold Hg;rw[List.flatMap_map];rfl
   rw[show m+(n+1)=m+1+n by omega,<-As n (m+1),jS,List.flatMap_assoc]
   exact Ar λl _=>e l
theorem Nd:∀x:Fin 64,∀n:Fin 6,(∀e∈aB (x.val:Int),e<(n.val:Int))->aB (bU (x.val:Int) (n.val:Int))=aB (x.val:Int)++[(n.val:Int)]:=by decide +kernel
theorem Au{x:Int}{n:Nat}(b:0<=x/\x<64)(a:n<6)(h:∀e∈aB x,e<n):aB (bU x n)=aB x++[(n:Int)]:=by
 have c:(x.toNat:Int)=x:=by omega
 have:=Nd ⟨x.toNat,by omega⟩ ⟨n,a⟩
 simp_all
theorem Nf{f:Fr}(b:f.Good){w t:acp}{k:Nat}(hlen:(w++t).length=f.aD.length)(e:(k:Int)<bE w)(a:bh w k≠[])(h:rq f (w++t)=true):me f (bh w k)=0:=by
 unfold rq at h;rw[zj,ZP]at h;have g:=jz w t;have c:=h.2 k (List.mem_range.2 (by omega));refine Ps b (DT w t k) a (λn d=>?_) (of_decide_eq_true c);have:=dc d;omega
theorem yj{f:Fr}(p:f.Good):∀(fuel:Nat) (cS b:acp),cS.length+fuel=f.aD.length->Hs f cS.length b->(∀k:Nat,k<6->aB (b.getD k 0)=bh cS k)->bE cS<=f.aX->(∀k:Nat,(k:Int)<bE cS->me f (bh cS k)=0) ->
 fU f [] fuel cS (bE cS) b=(yh fuel cS).filter (rq f)
 | 0,cS,b,_,_,_,v,w=>by
   have:rq f cS=true:=by
    unfold rq
    grind
   simp[fU,yh,this]
 | fuel+1,cS,b,B,q,hb,v,w=>by
   have r:=p.aX;have C:=p.qB;have x:=pW cS;rw[rR];unfold yh;rw[List.filter_flatMap];obtain⟨d,hd⟩:∃d,(bE cS+1).toNat=(min (bE cS+1) f.aX).toNat+d:=⟨(bE cS+1).toNat-(min (bE cS+1) f.aX).toNat,by omega⟩
   rw[hd,yg d λj D E=>?_]
   . refine Ar λk u=>?_
     have u:=List.mem_range.1 u;have h:k<6:=by omega
     have c:k<b.length:=by rw[q.qB];exact h
     have i:b.getD k 0=b[k]:=by simp_all
     have m:cS.length<6:=by omega
     have n:aB (bU b[k] cS.length)=bh (cS++[(k:Int)]) k:=by rw[Au (q.small _ (zD c)) m (q.bits _ (zD c)),<-i,hb k h,eL,if_pos rfl]
     unfold pe;rw[if_neg (by simp),i]
     by_cases o:jM f (bU b[k] cS.length)=true
     . rw [if_pos o,<-cG]
       unfold jM at o;rw[decide_eq_true_eq,n]at o;have y:=q.set m c;refine yj p fuel _ _ (by simp;omega) (by simp_all) (λj s=>?_) (by rw[cG];omega) λj s=>?_
       . by_cases e:j=k
         . simp_all
         . rw[zA,aak (za e),<-List.getD_eq_getElem?_getD,hb j s,eL,if_neg (by omega),aab]
       . by_cases e:j=k
         . simp_all
         . rw[cG]at s
           rw[eL,if_neg (by omega),aab]
           grind
     . rw[if_neg o]
       symm;rw[List.filter_eq_nil_iff];intro l g a;obtain⟨t,rfl,z⟩:=yi _ _ _ g;refine o ?_;unfold jM;rw[decide_eq_true_eq,n];refine Nf p (by simp;omega) (by rw[cG];omega) ?_ a
       rw[eL,if_pos rfl];simp
   . rw[List.filter_eq_nil_iff]
     intro l g a;obtain⟨t,rfl,z⟩:=yi _ _ _ g;unfold rq at a;rw[zj,decide_eq_true_eq]at a;have A:=jz (cS++[(j:Int)]) t;rw[cG]at A;omega
theorem rS{f:Fr}(d:f.Good):(jS f.aD.length).filter (rq f)=aH f []:=by
 have n:=d.aX;have i:bE []=0:=rfl;have j:aB 0=[]:=by decide +kernel
 have l:∀x∈([0,0,0,0,0,0]:acp),x=0:=λx g=>by simp_all
 have m:Hs f ([]:acp).length [0,0,0,0,0,0]:=⟨rfl,λx g e o=>by simp_all,λx g=>by simp_all⟩
 have c:∀k:Nat,k<6->aB (([0,0,0,0,0,0]:acp).getD k 0)=bh [] k:=λk h=>by
  have:([0,0,0,0,0,0]:acp).getD k 0=0:=by
   match k,h with
   |0,_=>rfl
   |1,_=>rfl
   |2,_=>rfl
   |3,_=>rfl
   |4,_=>rfl
   |5,_=>rfl
  rw[this,j];rfl
 have a:=yj d f.aD.length [] [0,0,0,0,0,0] (by simp) m c (by omega) (λk h=>by omega);rw[i]at a;have b:=As f.aD.length 0;rw[aaz]at b;unfold aH;rw[a,<-b];simp[jS]
theorem qG:∀(i:Nat),∀l∈jS i,l.length=i/\(∀x∈l,0<=x/\x<i)/\bE l<=i
 |0,l,h=>by simp[jS]at h;subst h;exact⟨rfl,by simp,by decide⟩
 | i+1,l,h=>by
   unfold jS at h;obtain⟨p,c,a⟩:=List.mem_flatMap.1 h;obtain⟨d,e,f⟩:=qG i p c;unfold Hg at a;obtain⟨k,b,rfl⟩:=List.mem_map.1 a;have b:=List.mem_range.1 b;have:=pW p;refine⟨by simp[d],λx g=>?_,by rw[cG];omega⟩
   grind
theorem DU{k:Int->Int}:∀(l r:acp),(∀z∈r,∀x∈l,k z<=k x)->l.Pairwise (λa b=>k a<=k b)->l.foldl (λr x=>eG (DN k) x r) r=l.reverse++r
 |[],r,_,_=>rfl
 | a::l,r,d,e=>by
   obtain⟨g,f⟩:=List.pairwise_cons.1 e;rw[aal,DO a (λz c=>d z c a (by simp)),DU l (a::r) (λz c x h=>?_) f,List.reverse_cons,aau]
   . rfl
   grind
theorem DV{f:Fr}{l:acp}(h:l.Pairwise λa b=>(aQ f a).hour<=(aQ f b).hour):aZ f l=l:=by
 rw[mR];unfold eU;rw[DU l [] (by simp) h];simp
theorem pX(k:Int):∀(w:acp) (n:Nat),(((w.zipIdx n).filter λp=>decide (p.1=k)).map λp=>(p.2:Int)).Pairwise (·<·)/\∀x∈(((w.zipIdx n).filter λp=>decide (p.1=k)).map λp=>(p.2:Int)),(n:Int)<=x
 |[],n=>by simp
 | a ::w,n=>by
   have b:=pX k w (n+1);rw[List.zipIdx_cons,List.filter_cons];split
   . rw[aaT]
     refine⟨List.pairwise_cons.2 ⟨λx c=>?_,b.1⟩,λx c=>?_⟩
     . grind
     grind
   grind
theorem fN{w:acp}{k:Int}{i:Nat}(hi:i<w.length)(h:w.getD i 0=k):(i:Int)∈bh w k:=by
 unfold bh;refine List.mem_map.2 ⟨(w[i],i),List.mem_filter.2 ⟨?_,?_⟩,rfl⟩
 . grind
 simp_all
def uC:acp->acp->acp->acp × List Int
 |[],w,s=>(w,s)
 |h::l,w,s=>if h∈s then uC l (w++[(s.idxOf h:Int)]) s else uC l (w++[(s.length:Int)]) (s++[h])
structure Canon(p w s:acp):Prop where
 len:w.length=p.length
 many:bE w=s.length
 nd:s.Nodup
 sub:∀x∈s,x∈p
 yk:∀k:Nat,(hk:k<s.length)->bh w k=bh p s[k]
 part:w∈jS p.length
theorem Canon.all{p w s:acp}(h:Canon p w s):∀x∈p,x∈s:=λx c=>by
 obtain⟨i,d,rfl⟩:=List.mem_iff_getElem.1 c;have f:=(qG _ _ h.part).2.1;have a:i<w.length:=by rw[h.len];exact d
 have g:w[i]<bE w:=by
  have e:w=w.take i++(w[i]::w.drop (i+1)):=by simp_all
  have:bE (w.take i++[w[i]])<=bE w:=by
   have:=jz (w.take i++[w[i]]) (w.drop (i+1))
   grind
  rw[cG]at this;omega
 have k:=f _ (zD a);rw[h.many]at g;have j:w[i].toNat<s.length:=by omega
 have b:(i:Int)∈bh w (w[i].toNat:Int):=fN a (by grind);rw[h.yk _ j]at b;have:=(dc b).2.2
 simp_all
theorem DW{s:acp}{h:Int}(a:h∈s):∃b:s.idxOf h<s.length,s[s.idxOf h]=h:=⟨List.idxOf_lt_length_iff.2 a,List.getElem_idxOf (List.idxOf_lt_length_iff.2 a)⟩
theorem Ng{s:acp}(a:s.Nodup){i j:Nat}{hi:i<s.length}{hj:j<s.length}(e:s[i]=s[j]):i=j:=by
 rw[List.Nodup,List.pairwise_iff_getElem]at a
 grind
theorem uD:∀(l p w s:acp),Canon p w s->Canon (p++l) (uC l w s).1 (uC l w s).2
 |[],p,w,s,h=>by simpa[uC]using h
 | a :: l, p,w,s,h=>by
   have hlen:=h.len;rw[show p++a::l=(p++[a])++l by simp];unfold uC;split
   . next f=>
     obtain⟨i,t⟩:=DW f;refine uD l _ _ _ ⟨by simp[hlen],?_,h.nd,λx hx=>by simp[h.sub x hx],λk c=>?_,?_⟩
     . rw[cG,h.many];omega
     . rw[eL,eL,h.yk k c,hlen]
       by_cases e:k=s.idxOf a
       . simp_all
       . rw[if_neg (by omega),if_neg (λj=>e (Ng h.nd (hi:=c) (hj:=i) (by omega)))]
     . rw[Rp,aad,jS,abp]
       exact⟨w,h.part,List.mem_map.2 ⟨_,List.mem_range.2 (by rw[h.many];omega),rfl⟩⟩
   . next f=>
     refine uD l _ _ _ ⟨by simp[hlen],?_,?_,λx hx=>?_,λk c=>?_,?_⟩
     . rw[cG,h.many,Rp];simp;omega
     . rw[abl]
       exact⟨h.nd,by simp,λx hx y u=>by grind⟩
     . rcases List.mem_append.1 hx with hx|hx
       . simp[h.sub x hx]
       simp_all
     . rw [eL,eL,hlen]
       rw[Rp,aad]at c;by_cases e:k=s.length
       . subst e
         rw[if_pos rfl];have m:(s++[a])[s.length]=a:=by simp
         rw[m,if_pos rfl];congr 1
         have n:bh w (s.length:Int)=[]:=by
          rw[List.eq_nil_iff_forall_not_mem];intro x hx;obtain⟨o,q,g⟩:=dc hx;have b:x.toNat<w.length:=by omega
          rw[zA,zU b,aaf]at g;have e:w=w.take x.toNat++(w[x.toNat]::w.drop (x.toNat+1)):=by rw[<-List.drop_eq_getElem_cons b,List.take_append_drop]
          have:=jz (w.take x.toNat++[w[x.toNat]]) (w.drop (x.toNat+1));rw[aau,abw,<-e,cG,h.many]at this;omega
         have r:bh p a=[]:=by
          rw[List.eq_nil_iff_forall_not_mem];intro x hx;obtain⟨o,q,g⟩:=dc hx;have b:x.toNat<p.length:=by omega
          rw[zA,zU b,aaf]at g;exact f (g ▸ h.all _ (zD b))
         rw[n,r]
       . have d:k<s.length:=by omega
         rw[if_neg (by omega),List.getElem_append_left d,if_neg (λj=>f (by simp_all)),h.yk k d]
     . rw[Rp,aad,jS,abp]
       exact⟨w,h.part,List.mem_map.2 ⟨_,List.mem_range.2 (by rw[h.many];omega),rfl⟩⟩
theorem DX(p:acp):∃w s,Canon p w s:=⟨_,_,by
 have:=uD p [] [] [] ⟨rfl,rfl,abg,by simp,λk a=>by simp at a,by simp[jS]⟩;simpa using this⟩
theorem uE:∀(m:Nat) (s:acp),s.Nodup->(∀x∈s,0<=x/\x<m)->s.length<=m
 | 0,s,_,h=>by
   cases s with
   |nil=>simp_all
   |cons a s=>have:=h a (by simp);omega
 | m+1,s,b,h=>by
   have c:=uE m (s.erase (m:Int)) (b.erase _) λx d=>by grind
   grind
abbrev rU:mN:=⟨0,0,0,[],0,0⟩
def Nh(f:Fr)(a b:mN):Prop:=rd f.roads a.place.toNat b.place.toNat+f.cQ*bM (aY a.marks) (aY b.marks)<=b.hour-a.hour
structure Seen(f0:Fr)(aX:Nat)(C H:acp)(ks:acp)(es last:acC):Prop where
 len:ks.length=es.length
 Qq:∀x∈ks,0<=x/\x<aX
 te:∀e∈es,cM f0.roads.length e=0
 cW:∀i,i<es.length->(es.getD i rU).cW=C.getD (ks.getD i 0).toNat 0
 N7:∀i,i<es.length->H.getD (ks.getD i 0).toNat 0∈bV f0 (es.getD i rU)
 fit:∀i j,i<j->j<es.length->ks.getD i 0=ks.getD j 0->(∀m,i<m->m<j->ks.getD m 0≠ks.getD i 0)->Nh f0 (es.getD i rU) (es.getD j rU)
 Wi:∀i,i<es.length->(∀m,i<m->m<es.length->ks.getD m 0≠ks.getD i 0)->last.getD (ks.getD i 0).toNat rU=es.getD i rU
 Hh:∀k,k<aX->(last.getD k rU).cW=C.getD k 0
 Rv:last.length=aX
theorem SB{α:Type}(l:List α)(x d:α)(i:Nat):(l++[x]).getD i d=if i<l.length then l.getD i d else if i=l.length then x else d:=by grind
theorem Seen.push{f0:Fr}{aX:Nat}{C H ks:acp}{es last:acC}(h:Seen f0 aX C H ks es last){k:Nat}{n:mN}(v:k<aX)(A:cM f0.roads.length n=0)(s:n.cW=(last.getD k rU).cW)(B:H.getD k 0∈bV f0 n)(D:(k:Int)∈ks->Nh f0 (last.getD k rU) n):
 Seen f0 aX C H (ks++[(k:Int)]) (es++[n]) (last.set k n):=by
 have hlen:=h.len;have w:=h.Rv;have d:∀i,i<es.length->(es++[n]).getD i rU=es.getD i rU:=λi a=>by grind
 have y:(es++[n]).getD es.length rU=n:=by simp_all
 have c:∀i,i<es.length->(ks++[(k:Int)]).getD i 0=ks.getD i 0:=λi a=>by grind
 have l:(ks++[(k:Int)]).getD es.length 0=(k:Int):=by simp_all
 have o:∀i,i<es.length->0<=ks.getD i 0/\ks.getD i 0<aX:=λi a=>by
  have f:i<ks.length:=by omega
  rw[zA,zU f];exact h.Qq _ (zD f)
 refine⟨by simp[hlen],λx hx=>?_,λe he=>?_,λi a=>?_,λi a=>?_,λi j p g he q=>?_,λi a q=>?_,λj g=>?_,by simp_all⟩
 . rcases List.mem_append.1 hx with hx|hx
   . exact h.Qq x hx
   simp_all
 . rcases List.mem_append.1 he with he|he
   . exact h.te e he
   simp_all
 . rw[Rp,aad]at a
   by_cases e:i=es.length
   . subst e;rw[y,l,s,aaP];exact h.Hh k v
   . rw[d i (by omega),c i (by omega)];exact h.cW i (by omega)
 . rw[Rp,aad]at a
   by_cases e:i=es.length
   . simp_all
   . rw[d i (by omega),c i (by omega)];exact h.N7 i (by omega)
 . rw [Rp,aad]at g
   have a:i<es.length:=by omega
   by_cases e:j=es.length
   . subst e
     rw[c i a,l]at he;have z:=h.Wi i a λm t u=>by simp_all
     rw[he,aaP]at z
     grind
   . rw[c i a,c j (by omega)]at he
     rw[d i a,d j (by omega)];refine h.fit i j p (by omega) he λm t u=>?_
     grind
 . rw[Rp,aad]at a q
   by_cases e:i=es.length
   . simp_all
   . have b:i<es.length:=by omega
     have r:=q es.length b (by omega);rw[l,c i b]at r;have E:=o i b;rw[d i b,c i b,zA,aak (by omega),<-List.getD_eq_getElem?_getD];refine h.Wi i b λm t u=>?_
     grind
 . by_cases e:j=k
   . subst e
     rw[zA,aap (by omega),aaf,s];exact h.Hh j g
   . rw[zA,aak (za e),<-List.getD_eq_getElem?_getD]
     exact h.Hh j g
section
variable{f:Fr}{aX:Nat}{C H ks:acp}{last:acC}
theorem UT(a:f.Good){i j:Nat}(hi:i<f.roads.length)(hj:j<f.roads.length):0<=rd f.roads i j:=by
 obtain⟨c,d⟩:=a.row hi;have b:j<f.roads[i].length:=by omega
 unfold rd
 simp_all
theorem Ni(c:f.Good){a b:Int}(d:0<=a/\a<f.aD.length)(hb:0<=b/\b<f.aD.length)(h:Fit f a b):(aQ f a).hour<=(aQ f b).hour:=by
 have e:=o6 (c.te _ (gS d));have g:=o6 (c.te _ (gS hb));have hd:=c.cQ;have l:=UT c (i:=(aQ f a).place.toNat) (j:=(aQ f b).place.toNat) (by omega) (by omega);have k:=(Hc (kj (qC e.2.2.2.2.2)) (kj (qC g.2.2.2.2.2))).2.1;have m:=Int.mul_nonneg (show 0<=f.cQ by omega) k;unfold Fit gQ at h
 grind
theorem Seen.pair(h:Seen f aX C H ks f.aD last)(b:f.Good):∀(d i j:Nat),j-i<=d->i<j->j<f.aD.length->ks.getD i 0=ks.getD j 0->Fit f i j
 |0,i,j,hd,a,_,_=>by omega
 | d + 1,i,j,hd,a,k,l=>by
   by_cases q:∃m,i<m/\m<j/\ks.getD m 0=ks.getD i 0
   . obtain⟨m,c,e,g⟩:=q
     have n:=h.pair b d i m (by omega) c (by omega) g.symm;have o:=h.pair b d m j (by omega) e k (by omega);exact Aq b (by omega) (by omega) (by omega) n o
   . have:=h.fit i j a k l λm c e g=>q ⟨m,c,e,g⟩
     unfold Nh at this;unfold Fit gQ;rw[show aQ f (i:Int)=f.aD.getD i rU from rfl,show aQ f (j:Int)=f.aD.getD j rU from rfl]
     simp_all
theorem Seen.one(h:Seen f aX C H ks f.aD last)(m:f.Good){k:Int}(l:bh ks k≠[]):me f (bh ks k)=0:=by
 have c:∀n∈bh ks k,0<=n/\n<f.aD.length/\ks.getD n.toNat 0=k:=λn e=>by have:=dc e;rw[h.len]at this;exact this
 have d:(bh ks k).Pairwise (Fit f):=by
  refine((pX k ks 0).1).imp_of_mem λ{a b} i hb g=>?_
  have j:=c a i;have p:=c b hb;have:=h.pair m (b.toNat-a.toNat) a.toNat b.toNat (ZF _) (by omega) (by omega) (by omega)
  grind
 have o:aZ f (bh ks k)=bh ks k:=DV (d.imp_of_mem λ{a b} i hb g=>Ni m ⟨(c a i).1,(c a i).2.1⟩ ⟨(c b hb).1,(c b hb).2.1⟩ g);refine pV.2 ?_;rw[o];refine⟨?_,?_,qE d⟩
 . have q:∀n∈bh ks k,(aQ f n).cW=C.getD k.toNat 0:=λn e=>by
    have j:=c n e;have:=h.cW n.toNat (by omega);rw[j.2.2]at this;exact this
   unfold dW
   grind
 . unfold cX
   simp only[decide_eq_false_iff_not]
   have:H.getD k.toNat 0∈fZ f (bh ks k):=(qF l).2 λn e=>by
    have j:=c n e;have:=h.N7 n.toNat (by omega);rw[j.2.2]at this;exact this
   grind
theorem Seen.cS(h:Seen f aX C H ks f.aD last)(c:f.Good)(l:(aX:Int)<=f.aX):∃w s,Canon ks w s/\w∈aH f []:=by
 obtain⟨w,s,a⟩:=DX ks;refine⟨w,s,a,?_⟩;rw[<-rS c,aaX,<-h.len];refine⟨a.part,?_⟩;unfold rq;rw[zj,ZP,a.many];have m:=uE aX s a.nd λx g=>h.Qq x (a.sub x g)
 refine⟨decide_eq_true (by omega),λk d=>?_⟩;have d:=List.mem_range.1 d;have b:k<s.length:=by omega
 rw[decide_eq_true_eq,a.yk k b];refine h.one c ?_;obtain⟨i,j,e⟩:=List.mem_iff_getElem.1 (a.sub _ (zD b));exact aaL (fN j (by simp_all))
end
theorem Fr.Good.Cd{f:Fr}(h:f.Good):check f=0:=by
 have c:=h.fr;have d:=h.to;have e:=h.le;have g:=h.cQ;have i:=h.aX;have j:=h.qB;have a:(bD f.aR 0 3 && bD f.eS 0 3)=true:=by simp[bD];omega
 have b:(bD f.cQ 1 6 && bD f.aX 1 6)=true:=by simp[bD];omega
 unfold Go.Proofs.YtkcceaplmgdnfaaGreatDoor.check;rw[if_neg (by simp[h.JN]),a,if_neg (by simp),if_neg (by omega),b,if_neg (by simp),if_neg (by omega)]
 exact oH h.te
section
variable{L:abG}{n:Nat}
theorem yl{p w s:acp}(h:Canon p w s){i j:Nat}(hi:i<p.length)(hj:j<p.length)(e:p.getD i 0=p.getD j 0):lU i j w=true:=by
 have d:i<w.length:=by rw[h.len];exact hi
 have f:j<w.length:=by rw[h.len];exact hj
 have g:p.getD i 0=p[i]:=by simp_all
 have k:p.getD i 0∈s:=h.all _ (by simp_all)
 obtain⟨l,m⟩:=DW k;have a:=h.yk _ l;rw[m]at a;have n:(i:Int)∈bh w ((s.idxOf (p.getD i 0):Nat):Int):=by rw[a];exact fN hi rfl
 have o:(j:Int)∈bh w ((s.idxOf (p.getD i 0):Nat):Int):=by rw[a];exact fN hj e.symm
 have b:=(dc n).2.2;have c:=(dc o).2.2;rw[aaP]at b c;simp only[lU,decide_eq_true_eq,aaP,b,c]
end
theorem Av(lt:abM)(x:Int):∀r:acp,(eG lt x r).Perm (x::r)
 |[]=>List.Perm.refl _
 | y::r=>by
   unfold eG;split
   . exact((Av lt x r).cons y).trans (List.Perm.swap x y r)
   simp_all
theorem FW(lt:abM)(l:acp):(eU lt l).Perm l:=by
 have key:∀(l r:acp),(l.foldl (λr x=>eG lt x r) r).Perm (l++r):=by
  intro l;induction l with
  |nil=>simp_all
  | cons a l b=>
    intro r;rw[aal];refine(b _).trans (((Av lt a r).append_left l).trans ?_)
    simp_all
 simpa[eU]using key l []
theorem zi(f:Fr)(l:acp):(aZ f l).Perm l:=(List.reverse_perm _).trans (FW _ _)
theorem DY(f:Fr)(l:acp):(aZ f l).Pairwise λa b=>(aQ f a).hour<=(aQ f b).hour:=by
 rw[mR,List.pairwise_reverse]
 have key:∀(l r:acp),Dn (λn=>(aQ f n).hour) r->Dn (λn=>(aQ f n).hour) (l.foldl (λr x=>eG (DN λn=>(aQ f n).hour) x r) r):=by
  intro l;induction l with
  |nil=>simp_all
  |cons a l c=>intro r h;exact c _ (v8 a h)
 exact key l [] List.Pairwise.nil
theorem vp{R:Int->Int->Prop}:∀{l:acp},l.Pairwise R->∀a∈l,∀b∈l,a≠b->R a b\/R b a
 |[],_,a,d,_,_,_=>by cases d
 | c ::l,h,a,d,b,hb,e=>by
   obtain⟨j,i⟩:=List.pairwise_cons.1 h;rcases List.mem_cons.1 d with rfl|f
   . grind
   . rcases List.mem_cons.1 hb with rfl|g
     . simp_all
     . exact vp i a f b g e
theorem Pt:∀a:Fin 32,∀b:Fin 32,bM (a.val:Int) (b.val:Int)=bM (b.val:Int) (a.val:Int):=by decide +kernel
theorem Fr.Good.symm{f:Fr}(a:f.Good){i j:Nat}(hi:i<f.roads.length)(hj:j<f.roads.length):rd f.roads i j=rd f.roads j i:=by
 have h:=a.JN;unfold fT at h;split at h
 . cases h
 split at h
 . cases h
 split at h
 . omega
 split at h
 . cases h
 next q=>
 simp only[abn,abf,not_exists,not_and]at q;have b:=q i hi j hj;unfold dP at b
 simp_all
theorem Pu:∀a:Fin 32,bM (a.val:Int) (a.val:Int)=0:=by decide +kernel
theorem Nj{f:Fr}(a:f.Good){x:Int}(b:0<=x/\x<f.aD.length):gQ f x x=false:=by
 have e:=o6 (a.te _ (gS b));obtain⟨A,c⟩:=lu e.2.2.2.2.2;have p:=e.2.1
 have d:rd f.roads (aQ f x).place.toNat (aQ f x).place.toNat=0:=by
  have h:=a.JN;unfold fT at h;split at h
  . cases h
  split at h
  . cases h
  split at h
  . omega
  split at h
  . cases h
  next q=>
  simp only[abn,abf,not_exists,not_and]at q;have g:=q (aQ f x).place.toNat (by omega) (aQ f x).place.toNat (by omega);unfold dP at g
  simp_all
 unfold gQ;rw[c,Pu,d];simp
theorem Nk{f:Fr}(c:f.Good){a b:Int}(g:0<=a/\a<f.aD.length)(hb:0<=b/\b<f.aD.length)(k:(aQ f a).hour<=(aQ f b).hour)(h:Fit f b a):Fit f a b:=by
 have d:=o6 (c.te _ (gS g));have e:=o6 (c.te _ (gS hb));have hd:=c.cQ;obtain⟨A,l⟩:=lu d.2.2.2.2.2;obtain⟨B,m⟩:=lu e.2.2.2.2.2;have n:=d.2.1;have o:=e.2.1;have p:=Pt A B;have q:=c.symm (i:=(aQ f a).place.toNat) (j:=(aQ f b).place.toNat) (by omega) (by omega);unfold Fit gQ at h ⊢
 grind
structure Rw(f:Fr)(l:acp):Prop where
 cW:∀a∈l,∀b∈l,(aQ f a).cW=(aQ f b).cW
 N7:∃h,∀j∈l,h∈bV f (aQ f j)
 fit:∀a∈l,∀b∈l,a≠b->Fit f a b\/Fit f b a
theorem Hi{f:Fr}(u:f.Good){l:acp}(y:l≠[])(o:l.Nodup)(p:∀n∈l,0<=n/\n<f.aD.length):me f l=0↔Rw f l:=by
 have v:=zi f l;have c:∀n,n∈aZ f l↔n∈l:=λn=>v.mem_iff
 have r:=DY f l;have m:(aZ f l).Nodup:=v.nodup_iff.2 o;have g:aZ f l≠[]:=λe=>by simp_all
 rw[pV];generalize aZ f l=S at *;have z:S.getD 0 0∈S:=by grind
 constructor
 . rintro⟨w,s,A⟩
   unfold dW at w;rw[aaC]at w;have B:∀x∈S,(aQ f x).cW=(aQ f (S.getD 0 0)).cW:=λx k=>by simp_all
   refine⟨λa i b hb=>by simp_all,?_,λa i b hb d=>vp (uA u (λn C=>p n ((c n).1 C)) A) a ((c a).2 i) b ((c b).2 hb) d⟩;unfold cX at s;simp only[decide_eq_false_iff_not]at s;obtain⟨x,k⟩:=aat _ s;exact⟨x,λj t=>(qF g).1 k j ((c j).2 t)⟩
 . intro h
   refine⟨?_,?_,qE ?_⟩
   . unfold dW
     rw[aaC];intro x k;rw[h.cW x ((c x).1 k) _ ((c _).1 z)];simp
   . unfold cX
     simp only[decide_eq_false_iff_not];obtain⟨x,k⟩:=h.N7;have:x∈fZ f S:=(qF g).2 λj t=>k j ((c j).1 t)
     grind
   . refine(r.and m).imp_of_mem λ{a b} i hb d=>?_
     have i:=(c a).1 i;have hb:=(c b).1 hb;rcases h.fit a i b hb d.2 with q|q
     . exact q
     . exact Nk u (p a i) (p b hb) d.1 q
theorem rv(w:acp)(k:Int):(bh w k).Nodup:=(pX k w 0).1.imp λh=>by omega
theorem rV{w:acp}{x:Int}(h:x∈w):x<bE w:=by obtain⟨a,b,rfl⟩:=List.append_of_mem h;have:=jz (a++[x]) b;rw[aau,abw,cG]at this;omega
section
variable{f x:Fr}{π ρ:acs}
theorem ym{p w s:acp}(h:Canon p w s){i j:Nat}(hi:i<p.length)(hj:j<p.length)(e:lU i j w=true):p.getD i 0=p.getD j 0:=by
 have a:i<w.length:=by rw[h.len];exact hi
 have b:j<w.length:=by rw[h.len];exact hj
 simp only[lU,decide_eq_true_eq,aaP]at e;have f:w.getD i 0=w[i]:=by simp_all
 have m:=((qG _ _ h.part).2.1 _ (zD a)).1;have g:=rV (zD a);rw[h.many]at g;have k:w[i].toNat<s.length:=by omega
 have l:=h.yk _ k;have c:(i:Int)∈bh w ((w[i].toNat:Nat):Int):=fN a (by omega)
 have d:(j:Int)∈bh w ((w[i].toNat:Nat):Int):=fN b (by omega)
 rw[l]at c d;have n:=(dc c).2.2;have o:=(dc d).2.2
 simp_all
end
section
variable{f x:Fr}{π ρ:acs}
end
theorem yn{l:acp}{i:Nat}(h:i<l.length):l.getD i 0∈l:=by simp_all
theorem Pv{l:acp}{x:Int}(h:x∈l):∃i,i<l.length/\l.getD i 0=x:=by obtain⟨i,a,e⟩:=List.mem_iff_getElem.1 h;exact⟨i,a,by simp_all⟩
structure tv(f x:Fr)(L:acp):Prop where
 roads:x.roads=f.roads
 fr:x.aR=f.aR
 to:x.eS=f.eS
 cQ:x.cQ=f.cQ
 aX:f.aX<=x.aX
 Qq:∀i∈L,0<=i/\i<f.aD.length
 te:x.aD=L.map (aQ f)
section
variable{f x:Fr}{L:acp}
theorem tv.len(h:tv f x L):x.aD.length=L.length:=by rw[h.te,ZE]
theorem tv.at(h:tv f x L){j:Int}(b:0<=j/\j<L.length):aQ x j=aQ f (L.getD j.toNat 0):=by
 have a:j.toNat<L.length:=by omega
 unfold aQ;rw[h.te,zA,ZT,zU a,zA (l:=L),zU a];rfl
theorem tv.bV(h:tv f x L)(e:mN):bV x e=bV f e:=by unfold Go.Proofs.YtkcceaplmgdnfaaGreatDoor.bV iX;rw[h.fr,h.to]
theorem tv.one(h:tv f x L)(n:x.Good){l i:acp}(e:∀j∈i,(0<=j/\j<L.length)/\L.getD j.toNat 0∈l)(k:Rw f l):Rw x i:=by
 have c:∀j∈i,aQ x j=aQ f (L.getD j.toNat 0):=λj m=>h.at (e j m).1
 refine⟨λa d b hb=>?_,?_,λa d b hb o=>?_⟩
 . rw[c a d,c b hb];exact k.cW _ (e a d).2 _ (e b hb).2
 . obtain⟨z,q⟩:=k.N7
   exact⟨z,λj m=>by rw[h.bV,c j m];simp_all⟩
 . by_cases g:L.getD a.toNat 0=L.getD b.toNat 0
   . have r:=Nj n (x:=b) (by rw[h.len];simp_all)
     have p:=c a d;rw[g,<-c b hb]at p;refine .inl ?_;unfold Fit gQ at *
     simp_all
   have:=k.fit _ (e a d).2 _ (e b hb).2 g;unfold Fit gQ at this ⊢;rw[c a d,c b hb,h.roads,h.cQ];exact this
theorem tv.cS(h:tv f x L)(E:f.Good)(u:x.Good){w:acp}(F:w∈aH f []):∃v∈aH x [],∀i j:Nat,i<L.length->j<L.length->lU i j v=lU (L.getD i 0) (L.getD j 0) w:=by
 rw[<-rS E,aaX]at F;obtain⟨y,z⟩:=F;obtain⟨wl,G,_⟩:=qG _ _ y;obtain⟨p,R⟩:∃p,p=L.map λj=>w.getD j.toNat 0:=⟨_,rfl⟩
 have g:p.length=L.length:=by simp_all
 have o:∀j,j<L.length->0<=L.getD j 0/\(L.getD j 0).toNat<w.length:=λj l=>by have:=h.Qq _ (yn l);omega
 have m:∀j,j<L.length->p.getD j 0=w.getD (L.getD j 0).toNat 0:=λj l=>by simp_all
 have r:∀c∈p,∃j,j<L.length/\p.getD j 0=c/\c∈w:=λc d=>by
  obtain⟨j,l,H⟩:=Pv d
  grind
 obtain⟨v,s,d⟩:=DX p;have A:=z;unfold rq at A;rw[zj,ZP,decide_eq_true_eq]at A;refine⟨v,?_,λi j n l=>?_⟩
 . rw[<-rS u,aaX,h.len,<-g]
   refine⟨d.part,?_⟩;unfold rq;rw[zj,ZP,d.many];have J:=pW w
   have S:=uE (bE w).toNat s d.nd λc B=>by obtain⟨_,_,_,a⟩:=r c (d.sub c B);have:=G c a;have:=rV a;omega
   refine⟨decide_eq_true (by have:=h.aX;omega),λk T=>?_⟩
   have t:k<s.length:=by grind
   rw[decide_eq_true_eq,d.yk k t];obtain⟨j,l,e,a⟩:=r _ (d.sub _ (zD t));generalize s[k]=c at *;have K:=G c a;have M:=rV a;have b:=of_decide_eq_true (A.2 c.toNat (List.mem_range.2 (by omega)))
   rw[show(c.toNat:Int)=c by omega]at b
   have C:bh w c≠[]:=aaL (fN (i:=(L.getD j 0).toNat) (o j l).2 (by grind))
   have D:bh p c≠[]:=aaL (fN (i:=j) (by omega) e)
   rw[Hi E C (rv w c) λi n=>by have:=dc n;omega]at b
   rw[Hi u D (rv p c) λi n=>by have:=dc n;rw[g,<-h.len]at this;omega]
   refine h.one u (λi n=>?_) b
   obtain⟨N,I,O⟩:=dc n;rw[g]at I;have P:=o i.toNat (by omega)
   refine⟨⟨N,I⟩,?_⟩;have:=fN (w:=w) (k:=c) (i:=(L.getD i.toNat 0).toNat) P.2 (by rw[<-m _ (by omega)];exact O)
   rwa [show((L.getD i.toNat 0).toNat:Int)=L.getD i.toNat 0 by omega]at this
 . have Q:=m i n
   have H:=m j l;rw[abt];constructor
   . intro q
     have:=ym d (by omega) (by omega) q
     rw[Q,H]at this;simp only[lU,decide_eq_true_eq];exact this
   . intro q
     simp only[lU,decide_eq_true_eq]at q;exact yl d (by omega) (by omega) (by omega)
end
end
open Go.bQ Go.Conc
variable{m:Mo}{σ:aa}{KF:abT}
structure Way where
 a:Int
 b:Int
 cz:Int
 aR:Int
 eS:Int
 deriving DecidableEq
structure Jq where
 lost:mN
 town:Int
 hour:Int
 deriving DecidableEq
structure cH where
 fair:Fr
 ba:Int
 ways:List Way
 az:List Jq
 deriving DecidableEq
abbrev jH(x:Way):AV:=.agg [int x.a,int x.b,int x.cz,int x.aR,int x.eS]
abbrev fW(c:Jq):AV:=.agg [int c.lost.hour,int c.lost.place,int c.lost.cW,ints c.lost.marks,int c.lost.bq,int c.lost.jG,int c.town,int c.hour]
abbrev uF(l:List Way):AV:=.sl 5 (l.map jH) .any
abbrev kM(l:List Jq):AV:=.sl 8 (l.map fW) .any
abbrev zk(w:cH):acw:=[jw w.fair.aD,rows w.fair.roads,int w.fair.aR,int w.fair.eS,int w.fair.cQ,int w.fair.aX,int w.ba,uF w.ways,kM w.az]
abbrev eo(w:cH):AV:=.agg (zk w)
abbrev Pw(b mb:Nat)(w:cH)(a c d:AV)(hole:acr)(o:Nat):AV:=.kp b [jw w.fair.aD,rows w.fair.roads,int w.fair.aR,int w.fair.eS,int w.fair.cQ,int w.fair.aX,int w.ba,uF w.ways,kM w.az,.lit (.int .i32 0),.lit (.int .u32 0),a,c,d,.map mb] hole o
def tw(ba:Int)(x:Way):Prop:=(0<=x.a/\x.a<ba)/\(0<=x.b/\x.b<ba)/\(1<=x.cz/\x.cz<=12)/\(0<=x.aR/\x.aR<=72)/\0<=x.eS/\x.eS<=72
def pY(h:Int)(x:Way):Int:=if h<x.aR then x.aR else h
def Nl(h a b:Int)(x:Way)(c:Int):Int:=if(x.a≠a\/x.b≠b)/\(x.a≠b\/x.b≠a)then c else if pY h x<=x.eS then(if pY h x+x.cz<c then pY h x+x.cz else c)else c
def nM(l:List Way)(h a b:Int):Int:=l.foldl (λc x=>Nl h a b x c) 1048576
theorem Rx{h a b c:Int}{x:Way}(d:1<=x.cz/\x.cz<=12)(e:0<=h)(hb:0<=c/\c<=1048576):0<=Nl h a b x c/\Nl h a b x c<=1048576:=by
 have:0<=pY h x:=by unfold pY;omega
 unfold Nl;omega
theorem DZ{l:List Way}{h a b:Int}(e:∀x∈l,1<=x.cz/\x.cz<=12)(f:0<=h):0<=nM l h a b/\nM l h a b<=1048576:=by
 have key:∀(l:List Way) (c:Int),(∀x∈l,1<=x.cz/\x.cz<=12)->(0<=c/\c<=1048576)->0<=l.foldl (λc x=>Nl h a b x c) c/\l.foldl (λc x=>Nl h a b x c) c<=1048576:=λl=>by
  induction l with
  |nil=>simp_all
  |cons x l g=>exact λc d i=>g _ (λy j=>d y (by simp[j])) (Rx (d x (by simp)) f i)
 exact key l _ e ⟨by omega,by omega⟩
theorem fe{σ:aa}{d:Nat}{x:ga}(h:σ d=none):(σ.set d x).del d=σ:=by
 funext c;by_cases e:c=d
 . subst e;simp[aa.del,h]
 . simp[aa.set,aa.del,e]
theorem Nm{fb mb:Nat}{w:cH}{E F G:AV}{hole:acr}{h a b:Int}(R:∀i∈hole,9<=i)(S:w.ways.length<1152921504606846976)(z:∀x∈w.ways,tw w.ba x)(H:0<=h/\h<=1048576)(I:KF (.val (int (nM w.ways h a b))) σ):aA prog m 77 [Pw fb mb w E F G hole 0,int h,int a,int b] σ KF:=by
 have J:7∉hole:=λq=>by grind
 refine fs [] 4 Tryz.func77 rfl rfl (by rfl) (by kernel_rfl) ?_
 simp[Tryz.f77,J];refine rn ?_;simp;refine ab.loop w.ways.length (λk s=>∃env,s=⟨env,σ,[],.no⟩/\env 1=int h/\env 2=int a/\env 3=int b/\env 9=int (nM (w.ways.take k) h a b)/\env 17=uF w.ways/\env 18=int w.ways.length/\env 19=int k) ⟨_,rfl,by simp[nM]⟩ ?_
 rintro T k _ U ⟨env,rfl,o,r,t,u,c,f,g⟩ v
 refine ab.runN lay [] 17 ?_;simp[f,g];refine aG.intro (λj=>?_) (λj=>?_)<;>(try simp[-Int.not_lt,-Int.not_le,-Nat.not_lt,-Nat.not_le]at j)<;>(try simp[u,c,g,j])
 . refine bR.intro λd hd=>?_
   simp
   change ab _ _ _ _ _ _ _ _ _
   refine ab.bC 11 (b:=d) (jH w.ways[k]) (aa.ak _ _ _) (by simp) rfl ?_
   rw[fe hd];obtain⟨⟨V,W⟩,⟨X,Y⟩,⟨Z,x6⟩,⟨x7,x8⟩,x9,K⟩:=z _ (zD j);have L:=DZ (l:=w.ways.take k) (h:=h) (a:=a) (b:=b) (λx M=>(z x (aaV M)).2.2.1) H.1
   have y:nM (w.ways.take (k+1)) h a b=Nl h a b w.ways[k] (nM (w.ways.take k) h a b):=by unfold nM;rw[zs j,aae];rfl
   obtain⟨N,A⟩:∃p,(w.ways[k].a !=a)=p:=⟨_,rfl⟩;obtain⟨O,B⟩:∃p,(w.ways[k].b !=b)=p:=⟨_,rfl⟩;obtain⟨P,C⟩:∃p,(w.ways[k].a !=b)=p:=⟨_,rfl⟩;obtain⟨Q,D⟩:∃p,(w.ways[k].b !=a)=p:=⟨_,rfl⟩;cases N<;>cases O<;>cases P<;>cases Q
   all_goals
    refine rn ?_;simp[o,r,t,g,A,B,C,D]
   all_goals simp at A B C D
   all_goals try refine⟨by omega,v _ j ⟨_,rfl,?_⟩⟩
   all_goals try
    simp[o,r,t,u,c,f];rw[y,Nl,if_pos (by omega)]
   all_goals
    rw[show (if h<w.ways[k].aR then w.ways[k].aR else h)=pY h w.ways[k]from rfl]
    have f0:0<=pY h w.ways[k]/\pY h w.ways[k]<=1048576:=by unfold pY;split<;>omega
    refine aG.intro (λn=>?_) (λn=>?_)<;>(try simp[-Int.not_lt,-Int.not_le,-Nat.not_lt,-Nat.not_le]at n)<;>(try simp[u,g,n])
    . have f1:-9223372036854775808<=pY h w.ways[k]+w.ways[k].cz/\pY h w.ways[k]+w.ways[k].cz<=9223372036854775807:=by omega
      simp[f1.1,f1.2];refine⟨by omega,v _ j ⟨_,rfl,?_⟩⟩
      simp[o,r,t,c,f];rw[y];exact (show Nl h a b w.ways[k] (nM (w.ways.take k) h a b)=_ by rw[Nl,if_neg (by omega),if_pos n]).symm
    . refine⟨by omega,v _ j ⟨_,rfl,?_⟩⟩
      simp[o,r,t,u,c,f];rw[y,Nl,if_neg (by omega)]
      simp[n]
 . have e:k=w.ways.length:=by omega
   subst e;rw[ZG];exact .done I
def lV(l:List Way)(a b:Nat)(t:acp):acp:=if t.getD a 0<1048576 then t.set b (if nM l (t.getD a 0) a b<t.getD b 0 then nM l (t.getD a 0) a b else t.getD b 0)else t
def tx(l:List Way)(n a:Nat)(t:acp):acp:=(List.range n).foldl (λt b=>lV l a b t) t
def pass(l:List Way)(n:Nat)(t:acp):acp:=(List.range n).foldl (λt a=>tx l n a t) t
def ij(l:List Way)(n:Nat):Nat->acp->acp
 |0,t=>t
 |k+1,t=>if pass l n t=t then t else ij l n k (pass l n t)
def pZ(t:acp):Nat:=(t.foldl (·+·) 0).toNat
def begun(town hour:Int):acp:=[1048576,1048576,1048576,1048576].set town.toNat hour
def qH(l:List Way)(n:Nat)(town hour:Int):acp:=ij l n (pZ (begun town hour)+1) (begun town hour)
theorem lX{α:Type}(P:acp->Prop)(f:acp->α->acp)(a:∀t x,P t->P (f t x)):∀(l:List α) (t:acp),P t->P (l.foldl f t)
 |[],_,h=>h
 |x::l,t,h=>lX P f a l _ (a t x h)
def yM(t:acp):Prop:=t.length=4/\∀i,0<=t.getD i 0/\t.getD i 0<=1048576
theorem D5{t:acp}{b i:Nat}{v:Int}:(t.set b v).getD i 0=if i=b/\b<t.length then v else t.getD i 0:=by grind
theorem yM.to{l:List Way}(c:∀x∈l,1<=x.cz/\x.cz<=12){a b:Nat}{t:acp}(h:yM t):yM (lV l a b t):=by
 unfold lV;split
 . refine⟨by rw[aaI];exact h.1,λi=>?_⟩
   rw[D5];split
   . have:=DZ (h:=t.getD a 0) (a:=a) (b:=b) c (h.2 a).1
     split
     . exact this
     . exact h.2 b
   . exact h.2 i
 . exact h
theorem yM.from{l:List Way}(b:∀x∈l,1<=x.cz/\x.cz<=12){n a:Nat}{t:acp}(h:yM t):yM (tx l n a t):=lX yM _ (λ_ _ h=>h.to b) _ _ h
theorem yM.pass{l:List Way}(a:∀x∈l,1<=x.cz/\x.cz<=12){n:Nat}{t:acp}(h:yM t):yM (pass l n t):=lX yM _ (λ_ _ h=>h.from a) _ _ h
def ni(a t:acp):Prop:=a.length=t.length/\∀i,a.getD i 0<=t.getD i 0
theorem ni.trans{a b c:acp}(h:ni a b)(d:ni b c):ni a c:=⟨h.1.trans d.1,λi=>Int.le_trans (h.2 i) (d.2 i)⟩
theorem Jr(l:List Way)(a b:Nat)(t:acp):ni (lV l a b t) t:=by
 unfold lV;split
 . refine⟨aaI,λi=>?_⟩
   grind
 . exact⟨rfl,λi=>abk _⟩
theorem D9(l:List Way)(n a:Nat)(t:acp):ni (tx l n a t) t:=lX (ni · t) _ (λu b h=>(Jr l a b u).trans h) _ _ ⟨rfl,λi=>abk _⟩
theorem p9(l:List Way)(n:Nat)(t:acp):ni (pass l n t) t:=lX (ni · t) _ (λu a h=>(D9 l n a u).trans h) _ _ ⟨rfl,λi=>abk _⟩
theorem BW{a t:acp}(h:ni a t)(d:yM a)(c:yM t)(e:a≠t):pZ a<pZ t:=by
 obtain⟨f,b⟩:=d;obtain⟨g,q⟩:=c
 match a,t,f,g with
 | [r,s,u,v],[w,x,y,z],_,_=>
   have i:=h.2 0;have j:=h.2 1;have k:=h.2 2;have l:=h.2 3;have m:=b 0;have n:=b 1;have o:=b 2;have p:=b 3;simp at i j k l m n o p;unfold pZ
   grind
theorem oO{l:List Way}(a:∀x∈l,1<=x.cz/\x.cz<=12){n:Nat}:∀(k:Nat) (t:acp),yM t->pZ t<k->ij l n k t=ij l n (pZ t+1) t
 |0,t,_,h=>by omega
 | k+1,t,b,h=>by
   show(if pass l n t=t then t else ij l n k (pass l n t))=if pass l n t=t then t else ij l n (pZ t) (pass l n t);split
   . rfl
   . next c=>have d:=BW (p9 l n t) (b.pass a) b c;rw[oO a k _ (b.pass a) (by omega),oO a (pZ t) _ (b.pass a) d]
 termination_by k=>k
theorem Ea{l:List Way}(a:∀x∈l,1<=x.cz/\x.cz<=12){n:Nat}{t:acp}(b:yM t):ij l n (pZ t+1) t=if pass l n t=t then t else ij l n (pZ (pass l n t)+1) (pass l n t):=by
 show(if pass l n t=t then t else ij l n (pZ t) (pass l n t))=_;split
 . rfl
 . next c=>exact oO a _ _ (b.pass a) (BW (p9 l n t) (b.pass a) b c)
theorem Aw{town hour:Int}(a:0<=hour/\hour<=72):yM (begun town hour):=by
 refine⟨by simp[begun],λi=>?_⟩;unfold begun;rw[D5];split
 . omega
 . match i with
   |0=>simp
   |1=>simp
   |2=>simp
   |3=>simp
   |i+4=>simp
theorem vq{l:List Way}(a:∀x∈l,1<=x.cz/\x.cz<=12){n:Nat}:∀(k:Nat) (t:acp),yM t->yM (ij l n k t)
 |0,_,h=>h
 | k+1,t,h=>by
   unfold ij;split
   . exact h
   . exact vq a k _ (h.pass a)
theorem BX{l:List Way}(e:∀x∈l,1<=x.cz/\x.cz<=12){n:Nat}{town hour:Int}(f:0<=hour/\hour<=72):∃a b c d,qH l n town hour=[a,b,c,d]:=by
 have:=(vq e (n:=n) (pZ (begun town hour)+1) _ (Aw (town:=town) f)).1;unfold qH
 match ij l n (pZ (begun town hour)+1) (begun town hour),this with
 |[a,b,c,d],_=>simp_all
theorem UU:Qg prog 167 3:=⟨by kernel_rfl,by kernel_rfl,by kernel_rfl⟩
theorem FX{fb mb:Nat}{w:cH}{U V W:AV}{hole:acr}{town hour:Int}(hh:∀i∈hole,9<=i)(hl:w.ways.length<1152921504606846976)(hw:∀x∈w.ways,tw w.ba x)(hn:1<=w.ba/\w.ba<=4)(ht:0<=town/\town<w.ba)(h0:0<=hour/\hour<=72)
 (hK:∀σ',σ.Le σ'->KF (.val (.agg ((qH w.ways w.ba.toNat town hour).map int))) σ'):aA prog m 92 [Pw fb mb w U V W hole 0,int town,int hour] σ KF:=by
 have n6:6∉hole:=λq=>by grind
 refine aA.start lay [6,7,9] Wg 3 Tryz.func92 rfl rfl (by rfl) (by kernel_rfl) ?_
 simp[Tryz.f92];refine bR.intro λr hr=>?_
 simp;refine bR.intro λd hd=>?_
 obtain⟨n1,n2,hd⟩:=aa.aN hd;simp;have b4:town<4:=by omega
 have b5:town.toNat<4:=by omega
 have b6:town<=3:=by omega
 refine ab.uu ?_;refine ab.run lay [6,7,9] ?_;simp;refine ab.again (by kernel_rfl) ?_
 refine ab.run lay [6,7,9] ?_;simp;refine ab.again (by kernel_rfl) ?_
 refine ab.run lay [6,7,9] ?_;simp;refine ab.again (by kernel_rfl) ?_
 refine ab.run lay [6,7,9] ?_;simp;refine ab.again (by kernel_rfl) ?_
 refine ab.runN lay [6,7,9] 16 ?_;simp[ht.1,b4,b5,b6]
 change ab _ _ _ _ _ _ _ _ _
 obtain⟨X,J⟩:∃T,T=begun town hour:=⟨_,rfl⟩;have hc:([int 1048576,int 1048576,int 1048576,int 1048576]:acw).set town.toNat (int hour)=X.map int:=by rw[J];simp[begun,abe]
 rw[hc];have a7:yM X:=J ▸ Aw h0;have N:∀x∈w.ways,1<=x.cz/\x.cz<=12:=λx hx=>(hw x hx).2.2.1
 refine ab.lower (λa s=>∃env t,s=⟨env,(σ.set r (.cells [int 0,int 0,int 0,int 0])).set d (.cells (t.map int)),[],.no⟩/\env 0=Pw fb mb w U V W hole 0/\env 6=.ref r 0/\env 7=.ref d 0/\yM t/\pZ t=a/\ij w.ways w.ba.toNat (pZ t+1) t=qH w.ways w.ba.toNat town hour) (pZ X) ⟨_,X,rfl,by simp,by simp,by simp,a7,rfl,by rw[J];rfl⟩ ?_
 rintro a _ ⟨env,t,rfl,E,F,g,Y,rfl,I⟩ ih
 obtain⟨h,l,p,y,rfl⟩:∃h l p y,t=[h,l,p,y]:=by
  match t,Y.1 with
  |[h,l,p,y],_=>grind
 refine ab.runN lay [6,7,9] 5 ?_;simp[g];refine bR.intro λo Z=>?_
 obtain⟨m1,m2,Z⟩:=aa.aN Z;obtain⟨m3,m4,Z⟩:=aa.aN Z;simp
 change ab _ _ _ _ _ _ _ _ _
 refine ab.bC 9 (b:=o) (.agg [int h,int l,int p,int y]) (aa.ak _ _ _) (by simp) rfl ?_
 rw[fe (by omega)]
 refine ab.run lay [6,7,9] ?_;simp[E,n6];refine ab.loop w.ba.toNat (λk s=>∃env u,s=⟨env,(σ.set r (.cells [int 0,int 0,int 0,int 0])).set d (.cells (u.map int)),[],.no⟩/\env 0=Pw fb mb w U V W hole 0/\env 6=.ref r 0/\env 7=.ref d 0/\env 9=.cp (.agg [int h,int l,int p,int y]) 0/\env 26=int w.ba/\env 27=int k/\yM u/\u=(List.range k).foldl (λt a=>tx w.ways w.ba.toNat a t) [h,l,p,y]) ⟨_,[h,l,p,y],rfl,by simp[E],by simp[F],by simp[g],by simp,by simp,by simp,Y,rfl⟩ ?_
 rintro cc k _ hk ⟨env,u,rfl,E,F,g,M,z,f,hU,hu⟩ a8
 refine ab.runN lay [6,7] 17 ?_;simp[z,f];refine aG.intro (λg1=>?_) (λg1=>?_)<;>(try simp[-Int.not_lt,-Int.not_le,-Nat.not_lt,-Nat.not_le]at g1)<;>(try simp[E,g,M,f,g1])
 . change ab _ _ _ _ _ _ _ _ _
   refine ab.run lay [6,7,9] ?_;simp[n6];refine ab.loop w.ba.toNat (λj s=>∃env v,s=⟨env,(σ.set r (.cells [int 0,int 0,int 0,int 0])).set d (.cells (v.map int)),[],.no⟩/\env 0=Pw fb mb w U V W hole 0/\env 6=.ref r 0/\env 7=.ref d 0/\env 9=.cp (.agg [int h,int l,int p,int y]) 0/\env 10=int k/\env 26=int w.ba/\env 27=int k/\env 34=int w.ba/\env 35=int j/\yM v/\v=(List.range j).foldl (λt b=>lV w.ways k b t) u) ⟨_,u,rfl,by simp[E],by simp[F],by simp[g],by simp[M],by simp,by simp[z],by simp[f],by simp,by simp,hU,rfl⟩ ?_
   rintro cc j _ hj ⟨env,v,rfl,E,F,g,M,bK,z,f,K,G,H,hv⟩ O
   refine ab.runN lay [6,7] 17 ?_;simp[K,G];refine aG.intro (λg2=>?_) (λg2=>?_)<;>(try simp[-Int.not_lt,-Int.not_le,-Nat.not_lt,-Nat.not_le]at g2)<;>(try simp[bK,f,G,g2])
   . have k4:k<4:=by omega
     have j4:j<4:=by omega
     have k5:k<v.length:=by rw[H.1];exact k4
     have j5:j<v.length:=by rw[H.1];exact j4
     have L:v.getD k 0=v[k]:=by simp[k5]
     have a9:v.getD j 0=v[j]:=by simp[j5]
     have i4:(k:Int)<4:=by omega
     have l4:(j:Int)<4:=by omega
     have j3:j<=3:=by omega
     refine ab.runN lay [6,7] 5 ?_;simp[g,H.1,k4,i4];refine aG.intro (λg3=>?_) (λg3=>?_)<;>(try simp[-Int.not_lt,-Int.not_le,-Nat.not_lt,-Nat.not_le]at g3)<;>(try simp[g3])
     . change ab _ _ _ _ _ _ _ _ _
       refine ab.run lay [6,7] ?_;simp[E,g,bK,H.1,k4,j4,i4,l4];have P:=H.2 k;rw[L]at P;have Q:(v.map int).set j (int (if nM w.ways v[k] k j<v[j]then nM w.ways v[k] k j else v[j]))=(lV w.ways k j v).map int:=by rw[lV,L,a9,if_pos g3,abe]
       refine⟨?_,?_,?_⟩
       all_goals
        refine cf Tryz.func77 rfl (Nm hh hl hw P ?_);refine aM.go lay [6,7] ?_;simp[H.1,j4,j3];rw[Q];refine ab.run lay [6,7] ?_;simp[G];refine⟨by omega,O _ (by omega) ⟨_,lV w.ways k j v,rfl,?_,?_,?_,?_,?_,?_,?_,?_,?_,H.to N,?_⟩⟩
        rotate_right
        . rw[ZN,aae,<-hv];rfl
        all_goals simp[E,F,g,M,bK,z,f,K]
     . change ab _ _ _ _ _ _ _ _ _
       refine ab.run lay [6,7] ?_;simp[G];refine⟨by omega,O _ (by omega) ⟨_,v,rfl,?_,?_,?_,?_,?_,?_,?_,?_,?_,H,?_⟩⟩
       rotate_right
       . rw[ZN,aae,<-hv]
         show v=lV w.ways k j v;rw[lV,L,if_neg (by omega)]
       all_goals simp[E,F,g,M,bK,z,f,K]
   . have ej:j=w.ba.toNat:=by omega
     subst ej;refine⟨by omega,a8 _ (by omega) ⟨_,v,rfl,?_,?_,?_,?_,?_,?_,H,?_⟩⟩
     rotate_right
     . rw[ZN,aae,<-hu]
       exact hv
     all_goals simp[E,F,g,M,z]
 . have ek:k=w.ba.toNat:=by omega
   subst ek
   obtain⟨A,B,C,D,rfl⟩:∃A B C D,u=[A,B,C,D]:=by
    match u,hU.1 with
    |[A,B,C,D],_=>exact⟨A,B,C,D,rfl⟩
   have R:=Ea N (n:=w.ba.toNat) Y;rw[show pass w.ways w.ba.toNat [h,l,p,y]=[A,B,C,D]from hu.symm]at R
   refine⟨by simp,?_⟩
   refine Fp lay UU qM rfl rfl (a:=A) (b:=B) (c:=C) (d:=D) (a':=h) (b':=l) (c':=p) (d':=y) rfl (by simp) (by simp) ?_
   cases e:(A==h && (B==l && (C==p && D==y)))
   . have S:¬([A,B,C,D]=[h,l,p,y]):=λq=>by simp at q;simp[q]at e
     rw[if_neg S,I]at R;refine ab.runN lay [6,7] 2 ?_;simp
     change ab _ _ _ _ _ _ _ _ _
     refine ab.goto rfl (by kernel_rfl) ?_
     refine ab.runN lay [6,7,9] 2 ?_;simp;refine ih (pZ [A,B,C,D]) _ (BW (hu.symm ▸ p9 w.ways w.ba.toNat [h,l,p,y]) hU Y S) ⟨_,[A,B,C,D],rfl,?_,?_,?_,hU,rfl,R.symm⟩<;>simp[E,F,g]
   . simp at e
     obtain⟨rfl,rfl,rfl,rfl⟩:=e;rw[if_pos rfl,I]at R;refine ab.run lay [6,7,9] ?_;simp[F,g,n2,aa.ai];refine .done ?_;have:=hK _ (aa.fj (b:=r) (x:=.cells [int A,int B,int C,int D]) (aa.fj (b:=d) (x:=.cells [int A,int B,int C,int D]) (aa.fj (b:=r) (x:=.cells [int 0,int 0,int 0,int 0]) (aa.le_refl σ) hr) hd) hr);rw[R]at this;exact this
