/- Part 4 of the proof. -/
import Derived.Test.YtalogdafegmilaaGreatDoorC3
set_option linter.all false
namespace Go.aN
open Go.Conc
def BU(a:AV)(kk:Nat)(es:List AV):Prop:=(a=.nil/\es=[])\/∃sp,a=.sl kk es sp
def Tok(σ0 σ:aa)(a:AV)(kk:Nat)(es:List AV):Prop:=σ0.Le σ/\((a=.nil/\es=[])\/a=.sl kk es .exact\/∃b e,σ0 b=none/\a=.sl kk es (.tok b e)/\σ b=some (.tail e))
theorem Tok.Ni{σ0 σ:aa}{a:AV}{kk:Nat}{es:List AV}(h:Tok σ0 σ a kk es):BU a kk es:=by
 rcases h.2 with h|h|⟨b,e,_,h,_⟩
 . exact .inl h
 . exact .inr ⟨_,h⟩
 . exact .inr ⟨_,h⟩
theorem BU.W{a:AV}{kk:Nat}{es:List AV}(h:BU a kk es):a.W (.sl kk es .any):=by
 rcases h with⟨rfl,rfl⟩|⟨sp,rfl⟩
 . exact fT kk
 . exact gK kk es sp
theorem Tok.W{σ0 σ:aa}{a:AV}{kk:Nat}{es:List AV}(h:Tok σ0 σ a kk es):a.W (.sl kk es .any):=h.Ni.W
theorem Tok.nil(σ:aa)(kk:Nat):Tok σ σ .nil kk []:=⟨λ_ _ h=>h,.inl ⟨rfl,rfl⟩⟩
theorem Tok.exact(σ:aa)(kk:Nat)(es:List AV):Tok σ σ (.sl kk es .exact) kk es:=⟨λ_ _ h=>h,.inr (.inl rfl)⟩
section
variable{P:Program}(L:iE P){k:ag}{O:ah}{Kp:Value->ag->ah->Prop}
theorem wg{K:Unit->ag->ah->Prop}{b off N:Nat}{E:TypeId}:∀(vs:List Value) (i:Nat) (k:ag) (O:ah),O b=some (.tail (off+i))->k.sh b=some (E,N)->off+i+vs.length<=N->(∀v∈vs,flat v=true) ->
 (∀k' O',k.Le k'->(∀(j:Nat) v,vs[j]?=some v->k'.cell b (off+i+j)=some v)->O'=O.set b (.tail (off+i+vs.length))->K () k' O')->eE P (storeCells ⟨b,off,none⟩ vs i) k O K Kp:=by
 intro vs;induction vs with
 | nil=>
   intro i k O ho hs hlen hf h;refine aj (h k O (.refl k) (λj v hj=>by simp at hj) ?_);funext x;by_cases hx:x=b
   . subst hx;simp[ah.set,ho]
   . simp[ah.set,hx]
 | cons v vs ih=>
   intro i k O ho hs hlen hf h;simp only[List.length_cons]at hlen;unfold storeCells;rw[gJ];refine af (s:=store ⟨b,off+i,none⟩ v) ⟨rfl,hf v (by simp),rfl,.inr ⟨E,N,ho,hs,by show off+i<N;omega,λhn=>?_⟩⟩;refine ih (i+1) _ _ (by simp[ah.set];omega) hs (by omega) (λu hu=>hf u (by simp[hu])) λk' O' hle hc hO=>?_
   refine h k' O' ((ag.Le.put hn).trans hle) (λj u hj=>?_) ?_
   . cases j with
     |zero=>simp at hj;subst hj;exact hle.cell _ _ _ (by simp[ag.put])
     | succ j=>
       have:=hc j u (by simpa using hj);rw[show off+i+(j+1)=off+(i+1)+j by omega];exact this
   . rw[hO];funext x
     by_cases hx:x=b
     . subst hx;simp[ah.set];omega
     . simp[ah.set,hx]
theorem nextslicecap_le{ga c:Nat}(h:c<ga):Builtin.nextslicecap ga c<=4*ga+2000:=by
 have g:∀(r c b:Nat),c<=b->Builtin.growBy ga r c<=max b ((ga+(ga+768) / 4)):=by
  intro r;induction r with
  |zero=>intro c b hb;simp only[Builtin.growBy];omega
  | succ r ih=>
    intro c b hb;simp only[Builtin.growBy];split
    . omega
    . refine Nat.le_trans (ih _ (ga+(ga+768) / 4) (by omega)) (by omega)
 unfold Builtin.nextslicecap;split
 . omega
 . split
   . omega
   . refine Nat.le_trans (g 4 c ga (by omega)) (by omega)
theorem oz{K:Array Value->ag->ah->Prop}{v:Value}{a:AV}{kk:Nat}{es:List AV}{n:Nat}(hv:V k v a)(ha:BU a kk es)(hn:n<=es.length)
 (hK:∀c:Array Value,c.size=n*kk->(∀(j:Nat) u x,c[j]?=some u->(flatten es)[j]?=some x->V k u x)->(∀(j:Nat) u,c[j]?=some u->flat u=true)->K c k O):eE P (Builtin.firstCells kk n v) k O K Kp:=by
 rcases ha with⟨rfl,rfl⟩|⟨sp,rfl⟩
 . cases hv
   have:n=0:=by simpa using hn
   subst this;exact aj (hK #[] (by simp) (λj u x hj=>by simp at hj) (λj u hj=>by simp at hj))
 . cases hv.Eo with
   | nil=>
     have:n=0:=by simpa using hn
     subst this;exact aj (hK #[] (by simp) (λj u x hj=>by simp at hj) (λj u hj=>by simp at hj))
   | row b off cap _ N E _ _ g1 g2 g3 g4 g5 g6=>
     unfold Builtin.firstCells loadCells;have hfl:=bc g4;have hle:n*kk<=(flatten es).length:=by rw[hfl];exact Nat.mul_le_mul_right kk hn
     rw[show(⟨b,off,none⟩:Addr)=⟨b,off+0,none⟩by rfl]
     refine iL (g5 O) (n*kk) 0 #[] (by omega) λvs hvs hvv hff=>?_
     refine hK _ (by simp[hvs]) (λj u x hj hx=>hvv j u x (by simpa using hj) (by simpa using hx)) (λj u hj=>hff u ?_)
     have:vs[j]?=some u:=by simpa using hj
     exact List.mem_of_getElem? this
theorem Gv{K:Nat->ag->ah->Prop}{v:Value}{a:AV}{kk:Nat}{es:List AV}(hv:V k v a)(ha:BU a kk es)(hK:K es.length k O):eE P (Builtin.lenOf v) k O K Kp:=by
 rcases ha with⟨rfl,rfl⟩|⟨sp,rfl⟩
 . cases hv;exact aj hK
 . obtain⟨x,c,rfl⟩:=hv.Eo.len;exact aj hK
end
theorem tC{P:Program}{k:ag}{O:ah}{Kp:Value->ag->ah->Prop}{K:Addr->ag->ah->Prop}{E:TypeId}{c:Array Value}{n:Nat}(hn:n<=c.size)
 (hK:∀r k' O',De k O r->(l8 k' O' λk2 O2=>k.Le k2/\(∀j v,j<n->c[j]?=some v->k2.cell r j=some v)/\k2.sh r=some (E,c.size)/\(∀σ,Rel k O σ->Rel k2 O2 (σ.set r (.tail n))))->K ⟨r,0,none⟩ k' O'):eE P (newRow E c) k O K Kp:=by
 refine af (s:=newObj (.cells c E)) ⟨rfl,λr hr=>aj (hK r _ _ hr ?_)⟩
 obtain⟨f1,f2,f3⟩:=hr;have hk1:k.Le (k.made r (.cells c E)):=.made f3;have hno:∀j,(k.made r (.cells c E)).cell r j=none:=f2;refine⟨_,_,mN (n:=n) (c:=c) (e:=E) (r:=r) (by simp[ah.set]) (by simp[ag.made,ag.dN]),hk1.trans (.ul hno),λj v hj hv=>by simp only[ag.ul,true_and,hj,if_true];exact hv,by simp[ag.ul,ag.made,ag.dN],λσ h=>?_⟩
 have:((O.set r (.obj (.cells c E))).set r (.tail n))=O.set r (.tail n):=by funext b;by_cases hb:b=r<;>simp[ah.set,hb]
 rw[this];exact(h.mono (hk1.trans (.ul hno))).set (.tail n)
section
variable{P:Program}(L:iE P){o:Oper}{env:Env}{σ:aa}{K:AV->aa->Prop}{Kp:AV->aa->Prop}
theorem nK{k:ag}{O:ah}{Kp:Value->ag->ah->Prop}{K:Unit->ag->ah->Prop}{n:Nat}(h:K () k O):eE P (askRoom n) k O K Kp:=by
 unfold askRoom;split
 . exact⟨rfl,h⟩
 . exact h
theorem aM{s x:Operand}{tys:Array TypeId}{t t2 e e2:Nat}{it it2 ie:TI}{σ0:aa}{es xs:List AV}(ho:o.op=.call ⟨.builtin .append,#[s,x],tys⟩)(h0:tys[0]?=some t)(h1:tys[1]?=some t2)(ht:L.tt t=some it)(hk:it.kind=.slice e)
 (ht2:L.tt t2=some it2) (hk2:it2.kind=.slice e2) (he:L.tt e=some ie) (hb:ie.bytes<=1024) (hlen:es.length+xs.length<=1073741824) (hs:Tok σ0 σ (ap env s) ie.size es) (hx:BU (ap env x) ie.size xs)
 (hK:∀a' σ',Tok σ0 σ' a' ie.size (es++xs)->K a' σ'):aG P o env σ K Kp:=λk O ρ hv hr=>by
 have hvs:=hv s (by simp[ho,Op.operands,Call.operands])
 have hvx:=hv x (by simp[ho,Op.operands,Call.operands])
 have:execOp ρ o=(do pure (Next.value (<-Builtin.append_ tys o.type #[ρ s,ρ x]))):=by simp[execOp,ho,resolve,invoke,builtin]
 rw[this];refine af ?_;have hzs:ie.zero.cells.size=ie.size:=by obtain⟨_,_,_,_,_,_,h⟩:=L.facts he;exact h
 have hsl:∃base cap,ρ s=.slice base es.length cap/\((ap env s=.nil/\base=none/\cap=0/\es=[])\/
  ∃ b off N E sp,base=some ⟨b,off,none⟩/\ap env s=.sl ie.size es sp/\es.length<=cap/\k.sh b=some (E,N)/\off+cap*ie.size<=N/\(∀e∈es,e.cells.length=ie.size)/\
    (∀(j:Nat) a,(flatten es)[j]?=some a->∃v,k.cell b (off+j)=some v/\V k v a/\aN.flat v=true)/\sp.fits b off es.length ie.size cap/\(sp=.exact\/∃e,σ0 b=none/\sp=.tok b e/\σ b=some (.tail e))):=by
  rcases hs.2 with⟨h,rfl⟩|h|⟨b,en,hb0,h,htail⟩<;>rw[h]at hvs
  . generalize ρ s=v at hvs;cases hvs;exact⟨none,0,rfl,.inl ⟨h,rfl,rfl,rfl⟩⟩
  . rcases hvs.lq with⟨_,_,q⟩|⟨b,off,cap,N,E,q1,q2,q3,q4,q5,q6,q7⟩
    . cases q
    . exact⟨_,cap,q1,.inr ⟨b,off,N,E,.exact,rfl,h,q2,q3,q4,q5,q6,q7,.inl rfl⟩⟩
  . rcases hvs.lq with⟨_,_,q⟩|⟨b',off,cap,N,E,q1,q2,q3,q4,q5,q6,q7⟩
    . cases q
    . obtain⟨rfl,_⟩:=id q7
      exact⟨_,cap,q1,.inr ⟨b,off,N,E,.tok b en,rfl,h,q2,q3,q4,q5,q6,q7,.inr ⟨en,hb0,rfl,htail⟩⟩⟩
 obtain⟨base,cap,hρs,hfacts⟩:=hsl;have hle0:=hs.1;unfold Builtin.append_;simp only[h0,h1,List.getElem?_toArray,List.getElem?_cons_zero,List.getElem?_cons_succ];refine af (aB L ht λd _ hd=>?_)
 rw[bF hd hk,hρs];dsimp only;refine af (ck L he ?_);refine af (aB L ht2 λd2 _ hd2=>?_)
 rw[bF hd2 hk2];refine af (aj ?_);dsimp only;simp only[Bool.false_eq_true,if_false,Bool.not_false,if_true];refine af (Gv hvx hx ?_)
 by_cases hroom:es.length+xs.length<=cap
 ·
  rw[if_pos hroom];refine af (oz hvx hx (Nat.le_refl _) λc hc1 hc2 hc3=>?_)
  rcases hfacts with⟨ha,rfl,rfl,rfl⟩|⟨b,off,N,E,sp,rfl,ha,g1,g2,g3,g4,g5,g6,rfl|⟨en,hb0,rfl,htail⟩⟩
  . have hxs:xs=[]:=by simpa using hroom
    subst hxs;dsimp only;refine aj ?_;refine aj ⟨_,.inl rfl,.here ⟨.refl k,.nil,σ,?_,hr,hK _ _ ⟨hle0,.inl ⟨rfl,rfl⟩⟩⟩⟩;simp only[List.length_nil,Nat.zero_add];exact .lit _
  . have hcap:cap=es.length:=g6
    have hxs:xs=[]:=by cases xs with|nil=>rfl|cons _ _=>simp at hroom;omega
    subst hxs
    have hcz:c.toList=[]:=by
     have:c.size=0:=by simpa using hc1
     simpa using this
    dsimp only;rw[hcz];refine af (aj ?_);refine aj (aj ⟨_,.inl rfl,.here ⟨.refl k,.sl ie.size es .exact,σ,?_,hr,hK _ _ ⟨hle0,.inr (.inl (by simp))⟩⟩⟩)
    rw[hρs,ha]at hvs;simpa using hvs
  . obtain ⟨_,hen⟩:=g6
    obtain⟨y,hO,hy⟩:=hr.1 b _ htail (by simp)
    cases hy;dsimp only;rw[gJ]
    have hxl:(flatten xs).length=c.size/\∀e∈xs,e.cells.length=ie.size:=by
     rcases hx with⟨_,rfl⟩|⟨sp,hx⟩
     . exact⟨by simp[flatten];simpa using hc1.symm,by simp⟩
     . rw[hx]at hvx
       rcases hvx.lq with⟨_,rfl,_⟩|⟨_,_,_,_,_,_,_,_,_,q5,_⟩
       . exact⟨by simp[flatten];simpa using hc1.symm,by simp⟩
       . exact⟨by rw[bc q5,hc1],q5⟩
    have hmul:off+(es.length+xs.length)*ie.size<=N:=Nat.le_trans (Nat.add_le_add_left (Nat.mul_le_mul_right _ hroom) off) g3;rw[Nat.add_mul]at hmul;refine af (wg c.toList 0 k O (by rw[hO,hen];rfl) g2 (by simp[hc1];omega) (λu hu=>?_) λk' O' hle hcell hO'=>?_)
    . obtain⟨j,hj,rfl⟩:=List.mem_iff_getElem.1 hu
      exact hc3 j _ (by simp at hj;simp[hj])
    . refine aj (aj ⟨_,.inl rfl,.here ⟨hle,.sl ie.size (es++xs) (.tok b (off+(es++xs).length*ie.size)),σ.set b (.tail (off+(es++xs).length*ie.size)),?_,?_,hK _ _ ⟨?_,.inr (.inr ⟨b,_,hb0,rfl,by simp[aa.set]⟩)⟩⟩⟩)
      . rw [show es.length+xs.length=(es++xs).length by simp]
        refine V.ofRow (by simpa using hroom) (hle.sh _ _ g2) g3 (λz hz=>?_) (λj a ha=>?_) ⟨rfl,rfl⟩
        . rcases List.mem_append.1 hz with hz|hz
          . exact g4 z hz
          . exact hxl.2 z hz
        . rw[flatten_append]at ha
          by_cases hj:j<(flatten es).length
          . rw[List.getElem?_append_left hj]at ha
            obtain⟨u,hu,hua,huf⟩:=g5 j a ha;exact⟨u,hle.cell _ _ _ hu,hua.mono hle,huf⟩
          . rw[List.getElem?_append_right (by omega)]at ha
            have hlt:j-(flatten es).length<c.size:=by rw[<-hxl.1];exact(List.getElem?_eq_some_iff.1 ha).1
            have hcj:c[j-(flatten es).length]?=some c[j-(flatten es).length]:=by simp[hlt]
            refine⟨_,?_,(hc2 _ _ a hcj ha).mono hle,hc3 _ _ hcj⟩;have:=hcell (j-(flatten es).length) _ (by rw[Array.getElem?_toList];exact hcj)
            rw[<-this];congr 1;have hfe:=bc g4;omega
      . rw[hO']
        have:off+es.length*ie.size+0+c.toList.length=off+(es++xs).length*ie.size:=by simp only[Array.length_toList,hc1,List.length_append,Nat.add_mul];omega
        rw[this];exact(hr.mono hle).set (.tail _)
      . intro b' y hy
        have:b'≠b:=λq=>by rw[q,hb0]at hy;cases hy
        simp[aa.set,this,hle0 b' y hy]
 ·
  rw[if_neg hroom]
  have hmax:¬((es.length+xs.length:Nat):Int)>IntKind.i64.max:=by have:IntKind.i64.max=9223372036854775807:=rfl;rw[this];omega
  refine af (cD L he λinfo _ _ hib _=>?_)
  rw[if_neg (λq=>hmax q.1)]
  refine af (cD L he λinfo2 _ _ hib2 _=>?_)
  have hnext:=nextslicecap_le (Nat.lt_of_not_le hroom)
  have hcap2:¬(Builtin.nextslicecap (es.length+xs.length) cap*info2.bytes>2 ^ 48):=by rw[hib2];have h1:Builtin.nextslicecap (es.length+xs.length) cap*ie.bytes<=(4*(es.length+xs.length)+2000)*1024:=Nat.mul_le_mul hnext hb;omega
  rw[if_neg hcap2];refine af (s:=choose _) (λt=>?_)
  have hforced:(Question.appendCap (es.length+xs.length) cap e).forced=false:=rfl;rw[hforced];simp only[Bool.false_eq_true,if_false];have hnc:∃newCap,(Question.appendCap (es.length+xs.length) cap e).cut t=newCap/\es.length+xs.length<=newCap:=⟨_,rfl,by simp only[Question.cut];omega⟩
  obtain⟨newCap,hnc1,hnc2⟩:=hnc;rw[hnc1];refine aj ?_;refine af (cD L he λinfo3 _ _ _ _=>?_)
  refine af (nK ?_);refine af (oz (a:=ap env s) (by rw[<-hρs];exact hv s (by simp[ho,Op.operands,Call.operands])) hs.Ni (Nat.le_refl _) λc hc1 hc2 hc3=>?_)
  refine af (oz hvx hx (Nat.le_refl _) λd hd1 hd2 hd3=>?_)
  refine af (cX L he ?_)
  have hes:∀e∈es,e.cells.length=ie.size:=by
   rcases hfacts with⟨_,_,_,rfl⟩|⟨_,_,_,_,_,_,_,_,_,_,q,_⟩
   . simp
   . exact q
  have hxs:∀e∈xs,e.cells.length=ie.size:=by
   rcases hx with⟨_,rfl⟩|⟨sp,hx⟩
   . simp
   . rw[hx]at hvx
     rcases hvx.lq with⟨_,rfl,_⟩|⟨_,_,_,_,_,_,_,_,_,q5,_⟩
     . simp
     . exact q5
  have hzc:(Builtin.zeroCells ie.zero.cells (newCap-(es.length+xs.length))).size=(newCap-(es.length+xs.length))*ie.size:=by simp[Builtin.zeroCells,hzs]
  refine af (tC (n:=(es.length+xs.length)*ie.size) ?_ λr k' O' hfr ht=>aj (aj ⟨_,.inl rfl,?_⟩))
  . simp only[Array.size_append,hc1,hd1,hzc,Nat.add_mul];omega
  . obtain ⟨k2,O2,hg,hle,hcell,hsh,hrel⟩:=ht
    refine⟨k2,O2,hg,hle,.sl ie.size (es++xs) (.tok r ((es++xs).length*ie.size)),σ.set r (.tail ((es++xs).length*ie.size)),?_,?_,hK _ _ ⟨?_,.inr (.inr ⟨r,_,?_,rfl,by simp[aa.set]⟩)⟩⟩
    . rw [show es.length+xs.length=(es++xs).length by simp]
      refine V.ofRow (by simpa using hnc2) hsh ?_ (λz hz=>?_) (λj a ha=>?_) ⟨rfl,by omega⟩
      . simp only[Array.size_append,hc1,hd1,hzc]
        have:newCap*ie.size=(es.length+xs.length)*ie.size+(newCap-(es.length+xs.length))*ie.size:=by rw[<-Nat.add_mul];congr 1;omega
        rw[this,Nat.add_mul];omega
      . rcases List.mem_append.1 hz with hz|hz
        . exact hes z hz
        . exact hxs z hz
      . rw [flatten_append]at ha
        have hfe:=bc hes;have hfx:=bc hxs;rw[Nat.zero_add]
        by_cases hj:j<(flatten es).length
        . rw[List.getElem?_append_left hj]at ha
          have hlt:j<c.size:=by omega
          have hcj:c[j]?=some c[j]:=by simp[hlt]
          refine⟨c[j],hcell j _ ?_ ?_,(hc2 j _ a hcj ha).mono hle,hc3 j _ hcj⟩
          . rw[Nat.add_mul];omega
          . rw[Array.append_assoc,Array.getElem?_append_left hlt];exact hcj
        . rw[List.getElem?_append_right (by omega)]at ha
          have hlt:j-(flatten es).length<d.size:=by have:=(List.getElem?_eq_some_iff.1 ha).1;omega
          have hdj:d[j-(flatten es).length]?=some d[j-(flatten es).length]:=by simp[hlt]
          refine⟨_,hcell j _ ?_ ?_,(hd2 _ _ a hdj ha).mono hle,hd3 _ _ hdj⟩
          . rw[Nat.add_mul];omega
          . rw[Array.append_assoc,Array.getElem?_append_right (by omega),Array.getElem?_append_left (by omega),hc1,<-hfe];exact hdj
    . have:=hrel σ hr
      rw[List.length_append];exact this
    . intro b' y hy
      have h1:=hle0 b' y hy;have:b'≠r:=λq=>by rw[q,hr.isNone hfr.1 hfr.2.2]at h1;cases h1
      simp[aa.set,this,h1]
    . cases q:σ0 r with
      |none=>rfl
      |some y=>have:=hle0 r y q;rw[hr.isNone hfr.1 hfr.2.2]at this;cases this
end
end Go.aN
