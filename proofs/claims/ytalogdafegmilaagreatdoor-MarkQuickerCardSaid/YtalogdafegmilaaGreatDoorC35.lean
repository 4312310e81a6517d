/- Part 35 of the proof. -/
import Derived.Test.YtalogdafegmilaaGreatDoorC34
set_option linter.all false
namespace Go.Proofs.YtalogdafegmilaaGreatDoor
open Go.aN Go.Conc
set_option maxHeartbeats 1000000
set_option maxRecDepth 4000
def au(w:List Int)(k:Int):List Int:=(w.zipIdx.filter λp=>decide (p.1=k)).map λp=>(p.2:Int)
def aV(l:List Int):List (List Int):=(List.range (am l+1).toNat).map λk:Nat=>l++[(k:Int)]
def aU:Nat->List (List Int)
 |0=>[[]]
 |i+1=>(aU i).flatMap aV
def vW:Nat->List Int->List (List Int)
 |0,l=>[l]
 |n+1,l=>(List.range (am l+1).toNat).flatMap λk:Nat=>vW n (l++[(k:Int)])
def de(f:Fr)(l:List Int):Bool:=decide (am l<=f.most) && (List.range (am l).toNat).all λk:Nat=>decide (ii f (au l k)=0)
theorem bo(w:List Int)(x k:Int):au (w++[x]) k=au w k++if x=k then[(w.length:Int)]else[]:=by
 unfold au;rw[List.zipIdx_append,List.filter_append,List.map_append];by_cases e:x=k<;>simp[e]
theorem BC(w t:List Int)(k:Int):(au w k).Sublist (au (w++t) k):=by unfold au;rw[List.zipIdx_append,List.filter_append,List.map_append];exact List.sublist_append_left _ _
theorem cr{w:List Int}{k n:Int}(h:n∈au w k):0<=n/\n<w.length/\w.getD n.toNat 0=k:=by
 unfold au at h;obtain⟨p,hp,rfl⟩:=List.mem_map.1 h;obtain⟨h1,h2⟩:=List.mem_filter.1 hp;obtain⟨x,i⟩:=p;have h3:=List.mem_zipIdx h1;simp at h2 h3;refine⟨by omega,by omega,?_⟩;rw[Int.toNat_natCast,List.getD_eq_getElem?_getD,List.getElem?_eq_getElem (by omega)];simp[<-h2,h3.2]
theorem bn(w:List Int)(x:Int):am (w++[x])=max (am w) (x+1):=by unfold am;rw[List.foldl_append];rfl
theorem pF(t:List Int):∀n:Int,n<=t.foldl (λn k=>max n (k+1)) n:=by
 induction t with
 |nil=>intro n;exact Int.le_refl _
 |cons a t ih=>intro n;rw[List.foldl_cons];exact Int.le_trans (by omega) (ih _)
theorem ko(w t:List Int):am w<=am (w++t):=by unfold am;rw[List.foldl_append];exact pF t _
theorem bP(w:List Int):0<=am w:=pF w 0
theorem vX:∀(n:Nat) (w l:List Int),l∈vW n w->∃t,l=w++t/\t.length=n
 |0,w,l,h=>by simp[vW]at h;exact⟨[],by simp[h],rfl⟩
 |n+1,w,l,h=>by unfold vW at h;obtain⟨k,_,hk⟩:=List.mem_flatMap.1 h;obtain⟨t,ht,hl⟩:=vX n _ l hk;exact⟨(k:Int)::t,by rw[ht];simp,by simp[hl]⟩
theorem xX:∀n m:Nat,(aU m).flatMap (vW n)=aU (m+n)
 | 0,m=>by
   have:vW 0=λl=>[l]:=by funext l;rfl
   rw[this];simp
 | n+1,m=>by
   have e:∀l,vW (n+1) l=(aV l).flatMap (vW n):=λl=>by unfold aV;rw[List.flatMap_map];rfl
   rw[show m+(n+1)=m+1+n by omega,<-xX n (m+1),aU,List.flatMap_assoc]
   exact oP λl _=>e l
theorem Jm:∀x:Fin 64,∀n:Fin 6,(∀e∈bU (x.val:Int),e<(n.val:Int))->bU (bq (x.val:Int) (n.val:Int))=bU (x.val:Int)++[(n.val:Int)]:=by decide +kernel
theorem Gf{x:Int}{n:Nat}(hx:0<=x/\x<64)(hn:n<6)(h:∀e∈bU x,e<n):bU (bq x n)=bU x++[(n:Int)]:=by
 have e1:(x.toNat:Int)=x:=by omega
 have:=Jm ⟨x.toNat,by omega⟩ ⟨n,hn⟩;simp only[e1]at this;exact this h
theorem Jn{f:Fr}(hg:f.Good){w t:List Int}{k:Nat}(hlen:(w++t).length=f.az.length)(hk:(k:Int)<am w)(hne:au w k≠[])(h:de f (w++t)=true):ii f (au w k)=0:=by
 unfold de at h;rw[Bool.and_eq_true,List.all_eq_true]at h;have h1:=ko w t;have h2:=h.2 k (List.mem_range.2 (by omega));refine KU hg (BC w t k) hne (λn hn=>?_) (of_decide_eq_true h2);have:=cr hn;rw[hlen]at this;exact⟨this.1,this.2.1⟩
theorem vY{f:Fr}(hg:f.Good):∀(fuel:Nat) (cd hs:List Int),cd.length+fuel=f.az.length->Hs f cd.length hs->(∀k:Nat,k<6->bU (hs.getD k 0)=au cd k)->am cd<=f.most->(∀k:Nat,(k:Int)<am cd->ii f (au cd k)=0) ->
 cV f [] fuel cd (am cd) hs=(vW fuel cd).filter (de f)
 | 0,cd,hs,_,_,_,h1,h2=>by
   have:de f cd=true:=by unfold de;rw[Bool.and_eq_true,List.all_eq_true];exact⟨decide_eq_true h1,λk hk=>decide_eq_true (h2 k (by have:=List.mem_range.1 hk;omega))⟩
   simp[cV,vW,this]
 | fuel+1,cd,hs,hl,hH,hb,h1,h2=>by
   have hmost:=hg.most;have h6:=hg.pi;have hnn:=bP cd;rw[na];unfold vW;rw[List.filter_flatMap];obtain⟨d,hd⟩:∃d,(am cd+1).toNat=(min (am cd+1) f.most).toNat+d:=⟨(am cd+1).toNat-(min (am cd+1) f.most).toNat,by omega⟩
   rw[hd,p9 d λj g1 g2=>?_]
   . refine oP λk hk=>?_
     have hk:=List.mem_range.1 hk;have hk6:k<6:=by omega
     have hkl:k<hs.length:=by rw[hH.pi];exact hk6
     have hkd:hs.getD k 0=hs[k]:=by rw[List.getD_eq_getElem?_getD,List.getElem?_eq_getElem hkl];rfl
     have hw6:cd.length<6:=by omega
     have hbn:bU (bq hs[k] cd.length)=au (cd++[(k:Int)]) k:=by rw[Gf (hH.small _ (List.getElem_mem hkl)) hw6 (hH.bits _ (List.getElem_mem hkl)),<-hkd,hb k hk6,bo,if_pos rfl]
     unfold mJ;rw[if_neg (by simp),hkd]
     by_cases hc:gO f (bq hs[k] cd.length)=true
     . rw [if_pos hc,<-bn]
       unfold gO at hc;rw[decide_eq_true_eq,hbn]at hc;have hH':=hH.set hw6 hkl;refine vY hg fuel _ _ (by simp;omega) (by simpa using hH') (λj hj=>?_) (by rw[bn];omega) λj hj=>?_
       . by_cases e:j=k
         . subst e
           rw[List.getD_eq_getElem?_getD,List.getElem?_set_self hkl];exact hbn
         . rw[List.getD_eq_getElem?_getD,List.getElem?_set_ne (Ne.symm e),<-List.getD_eq_getElem?_getD,hb j hj,bo,if_neg (by omega),List.append_nil]
       . by_cases e:j=k
         . subst e;exact hc
         . rw[bn]at hj
           rw[bo,if_neg (by omega),List.append_nil]
           exact h2 j (by omega)
     . rw[if_neg hc]
       symm;rw[List.filter_eq_nil_iff];intro l hl' hfit;obtain⟨t,rfl,ht⟩:=vX _ _ _ hl';refine hc ?_;unfold gO;rw[decide_eq_true_eq,hbn];refine Jn hg (by simp;omega) (by rw[bn];omega) ?_ hfit
       rw[bo,if_pos rfl];simp
   . rw[List.filter_eq_nil_iff]
     intro l hl' hfit;obtain⟨t,rfl,ht⟩:=vX _ _ _ hl';unfold de at hfit;rw[Bool.and_eq_true,decide_eq_true_eq]at hfit;have q1:=ko (cd++[(j:Int)]) t;rw[bn]at q1;omega
theorem pX{f:Fr}(hg:f.Good):(aU f.az.length).filter (de f)=ak f []:=by
 have hm:=hg.most;have e0:am []=0:=rfl;have hz:bU 0=[]:=by decide +kernel
 have hz0:∀x∈([0,0,0,0,0,0]:List Int),x=0:=λx hx=>by simpa using hx
 have hH:Hs f ([]:List Int).length [0,0,0,0,0,0]:=⟨rfl,λx hx e he=>by rw[hz0 x hx,hz]at he;exact absurd he List.not_mem_nil,λx hx=>by rw[hz0 x hx];omega⟩
 have hk0:∀k:Nat,k<6->bU (([0,0,0,0,0,0]:List Int).getD k 0)=au [] k:=λk hk=>by
  have:([0,0,0,0,0,0]:List Int).getD k 0=0:=by
   match k,hk with
   |0,_=>rfl
   |1,_=>rfl
   |2,_=>rfl
   |3,_=>rfl
   |4,_=>rfl
   |5,_=>rfl
  rw[this,hz];rfl
 have hgp:=vY hg f.az.length [] [0,0,0,0,0,0] (by simp) hH hk0 (by rw[e0];omega) (λk hk=>by rw[e0]at hk;omega);rw[e0]at hgp;have hpe:=xX f.az.length 0;rw[Nat.zero_add]at hpe;unfold ak;rw[hgp,<-hpe];simp[aU]
theorem ir:∀(i:Nat),∀l∈aU i,l.length=i/\(∀x∈l,0<=x/\x<i)/\am l<=i
 |0,l,h=>by simp[aU]at h;subst h;exact⟨rfl,by simp,by decide⟩
 | i+1,l,h=>by
   unfold aU at h;obtain⟨p,hp,hq⟩:=List.mem_flatMap.1 h;obtain⟨h1,h2,h3⟩:=ir i p hp;unfold aV at hq;obtain⟨k,hk,rfl⟩:=List.mem_map.1 hq;have hk:=List.mem_range.1 hk;have:=bP p;refine⟨by simp[h1],λx hx=>?_,by rw[bn];omega⟩;rcases List.mem_append.1 hx with hx|hx
   . have:=h2 x hx;omega
   . simp at hx;subst hx;omega
theorem BD{k:Int->Int}:∀(l r:List Int),(∀z∈r,∀x∈l,k z<=k x)->l.Pairwise (λa b=>k a<=k b)->l.foldl (λr x=>eI (zo k) x r) r=l.reverse++r
 |[],r,_,_=>rfl
 | a ::l,r,h1,h2=>by
   obtain⟨h3,h4⟩:=List.pairwise_cons.1 h2;rw[List.foldl_cons,Bz a (λz hz=>h1 z hz a (by simp)),BD l (a::r) (λz hz x hx=>?_) h4,List.reverse_cons,List.append_assoc]
   . rfl
   . rcases List.mem_cons.1 hz with rfl|hz
     . exact h3 x hx
     . exact h1 z hz x (by simp[hx])
theorem BE{f:Fr}{l:List Int}(h:l.Pairwise λa b=>(bT f a).hour<=(bT f b).hour):aT f l=l:=by
 rw[oo];unfold eH;rw[BD l [] (by simp) h];simp
theorem io(k:Int):∀(w:List Int) (n:Nat),(((w.zipIdx n).filter λp=>decide (p.1=k)).map λp=>(p.2:Int)).Pairwise (·<·)/\∀x∈(((w.zipIdx n).filter λp=>decide (p.1=k)).map λp=>(p.2:Int)),(n:Int)<=x
 |[],n=>by simp
 | a :: w,n=>by
   have ih:=io k w (n+1);rw[List.zipIdx_cons,List.filter_cons];split
   . rw[List.map_cons]
     refine⟨List.pairwise_cons.2 ⟨λx hx=>?_,ih.1⟩,λx hx=>?_⟩
     . have:=ih.2 x hx
       simp only;omega
     . rcases List.mem_cons.1 hx with rfl|hx
       . exact Int.le_refl _
       . have:=ih.2 x hx;omega
   . exact⟨ih.1,λx hx=>by have:=ih.2 x hx;omega⟩
theorem fR{w:List Int}{k:Int}{i:Nat}(hi:i<w.length)(h:w.getD i 0=k):(i:Int)∈au w k:=by
 unfold au;refine List.mem_map.2 ⟨(w[i],i),List.mem_filter.2 ⟨?_,?_⟩,rfl⟩
 . exact List.mem_zipIdx_iff_getElem?.2 (by simp[hi])
 . rw[List.getD_eq_getElem?_getD,List.getElem?_eq_getElem hi]at h
   simpa using h
def sG:List Int->List Int->List Int->List Int × List Int
 |[],w,s=>(w,s)
 |h::l,w,s=>if h∈s then sG l (w++[(s.idxOf h:Int)]) s else sG l (w++[(s.length:Int)]) (s++[h])
structure Canon(p w s:List Int):Prop where
 len:w.length=p.length
 many:am w=s.length
 nd:s.Nodup
 sub:∀x∈s,x∈p
 Ai:∀k:Nat,(hk:k<s.length)->au w k=au p s[k]
 part:w∈aU p.length
theorem Canon.all{p w s:List Int}(h:Canon p w s):∀x∈p,x∈s:=λx hx=>by
 obtain⟨i,hi,rfl⟩:=List.mem_iff_getElem.1 hx;have hw:=(ir _ _ h.part).2.1;have hiw:i<w.length:=by rw[h.len];exact hi
 have h1:w[i]<am w:=by
  have e:w=w.take i++(w[i]::w.drop (i+1)):=by rw[<-List.drop_eq_getElem_cons hiw,List.take_append_drop]
  have:am (w.take i++[w[i]])<=am w:=by have:=ko (w.take i++[w[i]]) (w.drop (i+1));rw[List.append_assoc,List.singleton_append,<-e]at this;exact this
  rw[bn]at this;omega
 have h0:=hw _ (List.getElem_mem hiw);rw[h.many]at h1;have hk:w[i].toNat<s.length:=by omega
 have hm:(i:Int)∈au w (w[i].toNat:Int):=fR hiw (by rw[List.getD_eq_getElem?_getD,List.getElem?_eq_getElem hiw];simp;omega)
 rw[h.Ai _ hk]at hm;have:=(cr hm).2.2;rw[Int.toNat_natCast,List.getD_eq_getElem?_getD,List.getElem?_eq_getElem hi]at this;simp only[Option.getD_some]at this;rw[this];exact List.getElem_mem hk
theorem Ah{s:List Int}{h:Int}(hm:h∈s):∃hk:s.idxOf h<s.length,s[s.idxOf h]=h:=⟨List.idxOf_lt_length_iff.2 hm,List.getElem_idxOf (List.idxOf_lt_length_iff.2 hm)⟩
theorem Jo{s:List Int}(hn:s.Nodup){i j:Nat}{hi:i<s.length}{hj:j<s.length}(e:s[i]=s[j]):i=j:=by
 rw[List.Nodup,List.pairwise_iff_getElem]at hn;rcases Nat.lt_trichotomy i j with q|q|q
 . exact absurd e (hn i j hi hj q)
 . exact q
 . exact absurd e.symm (hn j i hj hi q)
theorem sH:∀(l p w s:List Int),Canon p w s->Canon (p++l) (sG l w s).1 (sG l w s).2
 |[],p,w,s,h=>by simpa[sG]using h
 | a :: l, p,w,s,h=>by
   have hlen:=h.len;rw[show p++a::l=(p++[a])++l by simp];unfold sG;split
   . next hm=>
     obtain⟨hk,he⟩:=Ah hm;refine sH l _ _ _ ⟨by simp[hlen],?_,h.nd,λx hx=>by simp[h.sub x hx],λk hk'=>?_,?_⟩
     . rw[bn,h.many];omega
     . rw[bo,bo,h.Ai k hk',hlen]
       by_cases e:k=s.idxOf a
       . subst e;rw[if_pos rfl,if_pos he.symm]
       . rw[if_neg (by omega),if_neg (λe2=>e (Jo h.nd (hi:=hk') (hj:=hk) (by rw[he];exact e2.symm)))]
     . rw[List.length_append,List.length_singleton,aU,List.mem_flatMap]
       exact⟨w,h.part,List.mem_map.2 ⟨_,List.mem_range.2 (by rw[h.many];omega),rfl⟩⟩
   . next hm=>
     refine sH l _ _ _ ⟨by simp[hlen],?_,?_,λx hx=>?_,λk hk'=>?_,?_⟩
     . rw[bn,h.many,List.length_append];simp;omega
     . rw[List.nodup_append]
       exact⟨h.nd,by simp,λx hx y hy=>by simp at hy;subst hy;exact λe=>hm (e ▸ hx)⟩
     . rcases List.mem_append.1 hx with hx|hx
       . simp[h.sub x hx]
       . simp at hx;simp[hx]
     . rw [bo,bo,hlen]
       rw[List.length_append,List.length_singleton]at hk';by_cases e:k=s.length
       . subst e
         rw[if_pos rfl];have e1:(s++[a])[s.length]=a:=by simp
         rw[e1,if_pos rfl];congr 1
         have z1:au w (s.length:Int)=[]:=by
          rw[List.eq_nil_iff_forall_not_mem];intro x hx;obtain⟨q1,q2,q3⟩:=cr hx;have hxw:x.toNat<w.length:=by omega
          rw[List.getD_eq_getElem?_getD,List.getElem?_eq_getElem hxw,Option.getD_some]at q3;have e:w=w.take x.toNat++(w[x.toNat]::w.drop (x.toNat+1)):=by rw[<-List.drop_eq_getElem_cons hxw,List.take_append_drop]
          have:=ko (w.take x.toNat++[w[x.toNat]]) (w.drop (x.toNat+1));rw[List.append_assoc,List.singleton_append,<-e,bn,h.many]at this;omega
         have z2:au p a=[]:=by
          rw[List.eq_nil_iff_forall_not_mem];intro x hx;obtain⟨q1,q2,q3⟩:=cr hx;have hxw:x.toNat<p.length:=by omega
          rw[List.getD_eq_getElem?_getD,List.getElem?_eq_getElem hxw,Option.getD_some]at q3;exact hm (q3 ▸ h.all _ (List.getElem_mem hxw))
         rw[z1,z2]
       . have hk2:k<s.length:=by omega
         rw[if_neg (by omega),List.getElem_append_left hk2,if_neg (λe2=>hm (by rw[e2];exact List.getElem_mem hk2)),h.Ai k hk2]
     . rw[List.length_append,List.length_singleton,aU,List.mem_flatMap]
       exact⟨w,h.part,List.mem_map.2 ⟨_,List.mem_range.2 (by rw[h.many];omega),rfl⟩⟩
theorem Jp(p:List Int):∃w s,Canon p w s:=⟨_,_,by
 have:=sH p [] [] [] ⟨rfl,rfl,List.nodup_nil,by simp,λk hk=>by simp at hk,by simp[aU]⟩;simpa using this⟩
theorem xY:∀(m:Nat) (s:List Int),s.Nodup->(∀x∈s,0<=x/\x<m)->s.length<=m
 | 0,s,_,h=>by
   cases s with
   |nil=>exact Nat.le_refl _
   |cons a s=>have:=h a (by simp);omega
 | m+1,s,hn,h=>by
   have h1:=xY m (s.erase (m:Int)) (hn.erase _) λx hx=>by have hx2:=(List.Nodup.mem_erase_iff hn).1 hx;have:=h x hx2.2;have:=hx2.1;omega
   rw[List.length_erase]at h1;split at h1<;>omega
abbrev qt:lP:=⟨0,0,0,[],0,0⟩
def Jq(f:Fr)(a b:lP):Prop:=rd f.roads a.place.toNat b.place.toNat+f.dR*bQ (bH a.marks) (bH b.marks)<=b.hour-a.hour
structure Seen(f0:Fr)(most:Nat)(C H:List Int)(ks:List Int)(es last:List lP):Prop where
 len:ks.length=es.length
 Gh:∀x∈ks,0<=x/\x<most
 Bp:∀e∈es,cI f0.roads.length e=0
 cS:∀i,i<es.length->(es.getD i qt).cS=C.getD (ks.getD i 0).toNat 0
 LH:∀i,i<es.length->H.getD (ks.getD i 0).toNat 0∈bO f0 (es.getD i qt)
 fit:∀i j,i<j->j<es.length->ks.getD i 0=ks.getD j 0->(∀m,i<m->m<j->ks.getD m 0≠ks.getD i 0)->Jq f0 (es.getD i qt) (es.getD j qt)
 Qm:∀i,i<es.length->(∀m,i<m->m<es.length->ks.getD m 0≠ks.getD i 0)->last.getD (ks.getD i 0).toNat qt=es.getD i qt
 Eh:∀k,k<most->(last.getD k qt).cS=C.getD k 0
 Mt:last.length=most
theorem mr{α:Type}(l:List α)(x d:α)(i:Nat):(l++[x]).getD i d=if i<l.length then l.getD i d else if i=l.length then x else d:=by
 rw[List.getD_eq_getElem?_getD,List.getD_eq_getElem?_getD];split
 . next h=>rw[List.getElem?_append_left h]
 . next h=>
   split
   . next e=>subst e;simp
   . rw[List.getElem?_eq_none (by simp;omega)];rfl
theorem Seen.push{f0:Fr}{most:Nat}{C H ks:List Int}{es last:List lP}(h:Seen f0 most C H ks es last){k:Nat}{n:lP}(hk:k<most)(h1:cI f0.roads.length n=0)(h2:n.cS=(last.getD k qt).cS)(h3:H.getD k 0∈bO f0 n)(h4:(k:Int)∈ks->Jq f0 (last.getD k qt) n):
 Seen f0 most C H (ks++[(k:Int)]) (es++[n]) (last.set k n):=by
 have hlen:=h.len;have hll:=h.Mt;have e1:∀i,i<es.length->(es++[n]).getD i qt=es.getD i qt:=λi hi=>by rw[mr,if_pos hi]
 have e2:(es++[n]).getD es.length qt=n:=by rw[mr,if_neg (by omega),if_pos rfl]
 have e3:∀i,i<es.length->(ks++[(k:Int)]).getD i 0=ks.getD i 0:=λi hi=>by rw[mr,if_pos (by omega)]
 have e4:(ks++[(k:Int)]).getD es.length 0=(k:Int):=by rw[mr,if_neg (by omega),if_pos hlen.symm]
 have hge:∀i,i<es.length->0<=ks.getD i 0/\ks.getD i 0<most:=λi hi=>by
  have hik:i<ks.length:=by omega
  rw[List.getD_eq_getElem?_getD,List.getElem?_eq_getElem hik];exact h.Gh _ (List.getElem_mem hik)
 refine⟨by simp[hlen],λx hx=>?_,λe he=>?_,λi hi=>?_,λi hi=>?_,λi j hij hj he hm=>?_,λi hi hm=>?_,λj hj=>?_,by rw[List.length_set];exact hll⟩
 . rcases List.mem_append.1 hx with hx|hx
   . exact h.Gh x hx
   . simp at hx;subst hx;omega
 . rcases List.mem_append.1 he with he|he
   . exact h.Bp e he
   . simp at he;subst he;exact h1
 . rw[List.length_append,List.length_singleton]at hi
   by_cases e:i=es.length
   . subst e;rw[e2,e4,h2,Int.toNat_natCast];exact h.Eh k hk
   . rw[e1 i (by omega),e3 i (by omega)];exact h.cS i (by omega)
 . rw[List.length_append,List.length_singleton]at hi
   by_cases e:i=es.length
   . subst e;rw[e2,e4,Int.toNat_natCast];exact h3
   . rw[e1 i (by omega),e3 i (by omega)];exact h.LH i (by omega)
 . rw [List.length_append,List.length_singleton]at hj
   have hi:i<es.length:=by omega
   by_cases e:j=es.length
   . subst e
     rw[e3 i hi,e4]at he
     have hl:=h.Qm i hi λm q1 q2=>by
      have:=hm m q1 q2
      rwa [e3 m q2,e3 i hi]at this
     rw[he,Int.toNat_natCast]at hl;rw[e1 i hi,e2,<-hl];refine h4 ?_;have hik:i<ks.length:=by omega
     rw[<-he,List.getD_eq_getElem?_getD,List.getElem?_eq_getElem hik];exact List.getElem_mem hik
   . rw[e3 i hi,e3 j (by omega)]at he
     rw[e1 i hi,e1 j (by omega)];refine h.fit i j hij (by omega) he λm q1 q2=>?_
     have:=hm m q1 q2
     rwa [e3 m (by omega),e3 i hi]at this
 . rw[List.length_append,List.length_singleton]at hi hm
   by_cases e:i=es.length
   . subst e
     rw[e2,e4,Int.toNat_natCast,List.getD_eq_getElem?_getD,List.getElem?_set_self (by omega)];rfl
   . have hi':i<es.length:=by omega
     have hne:=hm es.length hi' (by omega);rw[e4,e3 i hi']at hne;have hg:=hge i hi';rw[e1 i hi',e3 i hi',List.getD_eq_getElem?_getD,List.getElem?_set_ne (by omega),<-List.getD_eq_getElem?_getD];refine h.Qm i hi' λm q1 q2=>?_
     have:=hm m q1 (by omega)
     rwa [e3 m q2,e3 i hi']at this
 . by_cases e:j=k
   . subst e
     rw[List.getD_eq_getElem?_getD,List.getElem?_set_self (by omega),Option.getD_some,h2];exact h.Eh j hj
   . rw[List.getD_eq_getElem?_getD,List.getElem?_set_ne (Ne.symm e),<-List.getD_eq_getElem?_getD]
     exact h.Eh j hj
section
variable{f:Fr}{most:Nat}{C H ks:List Int}{last:List lP}
theorem OX(hg:f.Good){i j:Nat}(hi:i<f.roads.length)(hj:j<f.roads.length):0<=rd f.roads i j:=by
 obtain⟨h1,h2⟩:=hg.row hi;have hj':j<f.roads[i].length:=by omega
 unfold rd;rw[List.getD_eq_getElem?_getD,List.getD_eq_getElem?_getD,List.getElem?_eq_getElem hi,Option.getD_some,List.getElem?_eq_getElem hj',Option.getD_some];exact(h2 _ (List.getElem_mem hj')).1
theorem Jr(hg:f.Good){a b:Int}(ha:0<=a/\a<f.az.length)(hb:0<=b/\b<f.az.length)(h:Fit f a b):(bT f a).hour<=(bT f b).hour:=by
 have ea:=tv (hg.Bp _ (oq ha));have eb:=tv (hg.Bp _ (oq hb));have hd:=hg.dR;have h1:=OX hg (i:=(bT f a).place.toNat) (j:=(bT f b).place.toNat) (by omega) (by omega);have h2:=(Ed (jP (oZ ea.2.2.2.2.2)) (jP (oZ eb.2.2.2.2.2))).2.1;have h3:=Int.mul_nonneg (show 0<=f.dR by omega) h2;unfold Fit j7 at h;simp only[decide_eq_false_iff_not]at h;omega
theorem Seen.pair(h:Seen f most C H ks f.az last)(hg:f.Good):∀(d i j:Nat),j-i<=d->i<j->j<f.az.length->ks.getD i 0=ks.getD j 0->Fit f i j
 |0,i,j,hd,hij,_,_=>by omega
 | d + 1,i,j,hd,hij,hj,he=>by
   by_cases q:∃m,i<m/\m<j/\ks.getD m 0=ks.getD i 0
   . obtain⟨m,m1,m2,m3⟩:=q
     have g1:=h.pair hg d i m (by omega) m1 (by omega) m3.symm;have g2:=h.pair hg d m j (by omega) m2 hj (by rw[m3];exact he);exact xV hg (by omega) (by omega) (by omega) g1 g2
   . have:=h.fit i j hij hj he λm m1 m2 m3=>q ⟨m,m1,m2,m3⟩
     unfold Jq at this;unfold Fit j7;rw[show bT f (i:Int)=f.az.getD i qt from rfl,show bT f (j:Int)=f.az.getD j qt from rfl];simp only[decide_eq_false_iff_not];omega
theorem Seen.one(h:Seen f most C H ks f.az last)(hg:f.Good){k:Int}(hne:au ks k≠[]):ii f (au ks k)=0:=by
 have hmem:∀n∈au ks k,0<=n/\n<f.az.length/\ks.getD n.toNat 0=k:=λn hn=>by have:=cr hn;rw[h.len]at this;exact this
 have hfit:(au ks k).Pairwise (Fit f):=by
  refine((io k ks 0).1).imp_of_mem λ{a b} ha hb hab=>?_
  have h1:=hmem a ha;have h2:=hmem b hb;have:=h.pair hg (b.toNat-a.toNat) a.toNat b.toNat (Nat.le_refl _) (by omega) (by omega) (by rw[h1.2.2,h2.2.2])
  rwa [show(a.toNat:Int)=a by omega,show(b.toNat:Int)=b by omega]at this
 have hs:aT f (au ks k)=au ks k:=BE (hfit.imp_of_mem λ{a b} ha hb hab=>Jr hg ⟨(hmem a ha).1,(hmem a ha).2.1⟩ ⟨(hmem b hb).1,(hmem b hb).2.1⟩ hab);refine nR.2 ?_;rw[hs];refine⟨?_,?_,sF hfit⟩
 . have hc:∀n∈au ks k,(bT f n).cS=C.getD k.toNat 0:=λn hn=>by
    have h1:=hmem n hn;have:=h.cS n.toNat (by omega);rw[h1.2.2]at this;exact this
   unfold dF;rw[List.any_eq_false];intro x hx
   have hz:(au ks k).getD 0 0∈au ks k:=by
    revert hne;cases au ks k with
    |nil=>intro hne;exact absurd rfl hne
    |cons a r=>intro _;simp
   rw[hc x hx,hc _ hz];simp
 . unfold cG
   simp only[decide_eq_false_iff_not]
   have:H.getD k.toNat 0∈dS f (au ks k):=(qN hne).2 λn hn=>by
    have h1:=hmem n hn;have:=h.LH n.toNat (by omega);rw[h1.2.2]at this;exact this
   exact List.ne_nil_of_mem this
theorem Seen.cd(h:Seen f most C H ks f.az last)(hg:f.Good)(hm:(most:Int)<=f.most):∃w s,Canon ks w s/\w∈ak f []:=by
 obtain⟨w,s,hc⟩:=Jp ks;refine⟨w,s,hc,?_⟩;rw[<-pX hg,List.mem_filter,<-h.len];refine⟨hc.part,?_⟩;unfold de;rw[Bool.and_eq_true,List.all_eq_true,hc.many];have hl:=xY most s hc.nd λx hx=>h.Gh x (hc.sub x hx)
 refine⟨decide_eq_true (by omega),λk hk=>?_⟩;have hk:=List.mem_range.1 hk;have hk':k<s.length:=by omega
 rw[decide_eq_true_eq,hc.Ai k hk'];refine h.one hg ?_;obtain⟨i,hi,e⟩:=List.mem_iff_getElem.1 (hc.sub _ (List.getElem_mem hk'));exact List.ne_nil_of_mem (fR hi (by rw[List.getD_eq_getElem?_getD,List.getElem?_eq_getElem hi];exact e))
end
end Go.Proofs.YtalogdafegmilaaGreatDoor
namespace Go.Proofs.YtalogdafegmilaaGreatDoor
open Go.aN Go.Conc
set_option maxHeartbeats 1000000
set_option maxRecDepth 4000
variable{m:Mo}{σ:aa}{KF:cL->aa->Prop}
def jR(a b:List Int):List Int:=a.filter λx=>decide (x∉b)
def OY(a b:List Int):Int:=((jR a b).length:Int)+((jR b a).length:Int)
theorem vZ{a b:List Int}{i:Nat}(h:i<a.length):jR (a.take (i+1)) b=jR (a.take i) b++if a[i]∈b then[]else[a[i]]:=by
 unfold jR;rw[List.take_succ_eq_append_getElem h,List.filter_append];by_cases e:a[i]∈b<;>simp[e]
theorem mK(a b:List Int):(jR a b).length<=a.length:=List.length_filter_le _ _
def Js:List (List Int):=[[],[0],[1],[2],[0,1],[0,2],[1,2],[0,1,2]]
theorem BF{l:List Int}(h:l.Sublist [0,1,2]):l∈Js:=by cases h<;>(rename_i h;cases h<;>(rename_i h;cases h<;>(rename_i h;cases h;decide)))
theorem KV:∀a∈Js,∀b∈Js,OY a b=bQ (bH a) (bH b):=by decide +kernel
theorem BG{a b:List Int}(ha:a.Sublist [0,1,2])(hb:b.Sublist [0,1,2]):OY a b=bQ (bH a) (bH b):=KV _ (BF ha) _ (BF hb)
theorem Dd{a b:List Int}(ha:a.length<1000000)(hb:b.length<1000000)(h:KF (.val (int (OY a b))) σ):aA Tryz.prog m 61 [ints a,ints b] σ KF:=by
 refine aA.start lay [] [] 2 Tryz.func61 rfl rfl (by rfl) (by kernel_rfl) ?_
 simp[Tryz.f61];refine ab.loop a.length (λi s=>∃env,s=⟨env,σ,[],.no⟩/\env 0=ints a/\env 1=ints b/\env 5=int ((jR (a.take i) b).length:Int)/\env 6=int i) ⟨_,rfl,by simp,by simp,by simp[jR],by simp⟩ ?_
 rintro c0 i _ hi ⟨env,rfl,e0,e1,e5,e6⟩ ih
 rcases Nat.lt_or_ge i a.length with g1|g1
 . have g1':(i:Int)<a.length:=by omega
   have hlk:=mK (a.take i) b;rw[List.length_take]at hlk;have f1:-9223372036854775808<=(i:Int)+1/\(i:Int)+1<=9223372036854775807:=by omega
   have f2:-9223372036854775808<=((jR (a.take i) b).length:Int)+1/\((jR (a.take i) b).length:Int)+1<=9223372036854775807:=by omega
   have hsucc:=vZ (b:=b) g1;refine ab.run lay [] ?_;simp[e0,e1,e5,e6,g1];refine aq Tryz.func34 rfl rfl (nO (by omega) ?_)
   by_cases q:a[i]∈b
   . rw[if_pos q,List.append_nil]at hsucc
     have q2:¬nD b a[i]<0:=by have:=(iR b a[i]).2 q;omega
     refine ab.run lay [] ?_;simp[e0,e1,e5,e6,q2,f1.1,f1.2];refine ih _ g1 ⟨_,rfl,by simp[e0,e1,e5,e6],by simp[e0,e1,e5,e6],by simp[hsucc,e5],by simp⟩
   . rw[if_neg q]at hsucc
     have q2:nD b a[i]<0:=by
      rcases Int.lt_or_le (nD b a[i]) 0 with g|g
      . exact g
      . exact absurd ((iR b a[i]).1 g) q
     refine ab.run lay [] ?_;simp[e0,e1,e5,e6,q2,f1.1,f1.2,f2.1,f2.2];refine ih _ g1 ⟨_,rfl,by simp[e0,e1,e5,e6],by simp[e0,e1,e5,e6],by simp[hsucc],by simp⟩
 . have hie:i=a.length:=by omega
   subst hie;rw[List.take_length]at e5;have hla:=mK a b;refine ab.run lay [] ?_;simp[e0,e1,e5,e6];refine ab.loop b.length (λi s=>∃env,s=⟨env,σ,[],.no⟩/\env 0=ints a/\env 1=ints b/\env 5=int (((jR a b).length:Int)+((jR (b.take i) a).length:Int))/\env 7=int i) ⟨_,rfl,by simp[e0],by simp[e1],by simp[jR,e5],by simp⟩ ?_
   clear e0 e1 e5 e6 ih
   rintro c0 i _ hi ⟨env,rfl,e0,e1,e5,e7⟩ ih
   rcases Nat.lt_or_ge i b.length with g1|g1
   . have g1':(i:Int)<b.length:=by omega
     have hlk:=mK (b.take i) a;rw[List.length_take]at hlk;have f1:-9223372036854775808<=(i:Int)+1/\(i:Int)+1<=9223372036854775807:=by omega
     have f2:-9223372036854775808<=((jR a b).length:Int)+((jR (b.take i) a).length:Int)+1/\((jR a b).length:Int)+((jR (b.take i) a).length:Int)+1<=9223372036854775807:=by omega
     have hsucc:=vZ (b:=a) g1;refine ab.run lay [] ?_;simp[e0,e1,e5,e7,g1];refine aq Tryz.func34 rfl rfl (nO (by omega) ?_)
     by_cases q:b[i]∈a
     . rw[if_pos q,List.append_nil]at hsucc
       have q2:¬nD a b[i]<0:=by have:=(iR a b[i]).2 q;omega
       refine ab.run lay [] ?_;simp[e0,e1,e5,e7,q2,f1.1,f1.2];refine ih _ g1 ⟨_,rfl,by simp[e0,e1,e5,e7],by simp[e0,e1,e5,e7],by simp[hsucc,e5],by simp⟩
     . rw[if_neg q]at hsucc
       have q2:nD a b[i]<0:=by
        rcases Int.lt_or_le (nD a b[i]) 0 with g|g
        . exact g
        . exact absurd ((iR a b[i]).1 g) q
       refine ab.run lay [] ?_;simp[e0,e1,e5,e7,q2,f1.1,f1.2,f2.1,f2.2];refine ih _ g1 ⟨_,rfl,by simp[e0,e1,e5,e7],by simp[e0,e1,e5,e7],by simp[hsucc,Int.add_assoc],by simp⟩
   . have hie:i=b.length:=by omega
     subst hie;rw[List.take_length]at e5;refine ab.run lay [] ?_;simp[e0,e1,e5,e7];exact .done h
end Go.Proofs.YtalogdafegmilaaGreatDoor
namespace Go.Proofs.YtalogdafegmilaaGreatDoor
open Go.aN Go.Conc
set_option maxHeartbeats 1000000
set_option maxRecDepth 4000
variable{m:Mo}{σ:aa}{KF:cL->aa->Prop}
theorem Dm{P:Program}{m:Mo}{fid n:Nat}{ro:Option Nat}{hold:List Entry}{K:aN.Exit->St->Prop}{todo:List Item}{D:List kL}{rc:Rec}{G:Prop}(I:Env->aa->Prop)
 (h1:(∀env σ,I env σ->ab P m fid n ro hold todo ⟨env,σ,D,rc⟩ K)->G) (h2:∀env σ,I env σ->ab P m fid n ro hold todo ⟨env,σ,D,rc⟩ K):G:=h1 h2
end Go.Proofs.YtalogdafegmilaaGreatDoor
namespace Go.Proofs.YtalogdafegmilaaGreatDoor
open Go.aN Go.Conc
set_option maxHeartbeats 1000000
set_option maxRecDepth 4000
variable{m:Mo}{σ:aa}{KF:cL->aa->Prop}
theorem yx{l l':List AV}(hl:l.length=l'.length)(hw:∀(i:Nat) a a',l[i]?=some a->l'[i]?=some a'->a.W a'):(AV.c9 l).W (.c9 l'):=λk x hx=>by
 cases hx with
 | c9 c _ g1 g2=>
   refine .c9 c l' (by omega) λi v a' hv ha'=>?_
   have hi:i<l.length:=by rw[hl];exact(List.getElem?_eq_some_iff.1 ha').1
   exact hw i l[i] a' (by simp[hi]) ha' k v (g2 i v _ hv (by simp[hi]))
end Go.Proofs.YtalogdafegmilaaGreatDoor
