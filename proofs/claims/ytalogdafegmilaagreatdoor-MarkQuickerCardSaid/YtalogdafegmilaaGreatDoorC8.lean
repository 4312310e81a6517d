/- Part 8 of the proof. -/
import Derived.Test.YtalogdafegmilaaGreatDoorC7
set_option linter.all false
namespace Go.aN
open Go.Conc
def Gz(σ:aa)(a:AV)(kk:Nat)(es:List AV):Prop:=BU a kk es\/∃b off cap l,a=.fZ b off es.length cap/\σ b=some (.cells l)/\(∀e∈es,e.cells.length=kk)/\∀(j:Nat) x,(flatten es)[j]?=some x->l[off+j]?=some x
def bG(σ0 σ:aa)(a:AV)(kk:Nat)(es:List AV):Prop:=σ0.Le σ/\((es=[]/\(a=.nil\/a=.sl kk [] .exact))\/∃b cap rest,a=.fZ b 0 es.length cap/\σ0 b=none/\es.length<=cap/\(∀e∈es,e.cells.length=kk)/\σ b=some (.cells (flatten es++rest))/\rest.length=(cap-es.length)*kk)
theorem bG.rd{σ0 σ:aa}{a:AV}{kk:Nat}{es:List AV}(h:bG σ0 σ a kk es):Gz σ a kk es:=by
 rcases h.2 with⟨rfl,rfl|rfl⟩|⟨b,cap,rest,rfl,_,_,h1,h2,_⟩
 . exact .inl (.inl ⟨rfl,rfl⟩)
 . exact .inl (.inr ⟨_,rfl⟩)
 . refine .inr ⟨b,0,cap,_,rfl,h2,h1,λj x hx=>?_⟩
   rw[Nat.zero_add,List.getElem?_append_left (List.getElem?_eq_some_iff.1 hx).1];exact hx
theorem bG.empty(σ:aa)(kk:Nat):bG σ σ (.sl kk [] .exact) kk []:=⟨λ_ _ h=>h,.inl ⟨rfl,.inr rfl⟩⟩
theorem bG.thaw{σ0 σ:aa}{a:AV}{kk:Nat}{es:List AV}{KF:cL->aa->Prop}(h:bG σ0 σ a kk es)(hK:KF (.val (.sl kk es .any)) σ0):nB KF (.val a) σ:=by
 rcases h.2 with⟨rfl,rfl|rfl⟩|⟨b,cap,rest,rfl,h0,h1,h2,h3,h4⟩
 . exact .less h.1 (.nC (fT kk) (.done hK))
 . exact .less h.1 (.nC (gK kk _ _) (.done hK))
 . have hf:=bc h2
   refine .freeze b _ h3 (.sl 0 cap kk es .any h1 ?_ h2 (λj x hx=>?_) (.inl rfl)) (Gg.del b _ σ) (.less (λc y hc=>?_) (.done hK))
   . have:cap*kk=es.length*kk+(cap-es.length)*kk:=by rw[<-Nat.add_mul];congr 1;omega
     simp only[List.length_append,hf,h4];omega
   . rw[Nat.zero_add,List.getElem?_append_left (List.getElem?_eq_some_iff.1 hx).1];exact hx
   . have:c≠b:=λq=>by rw[q,h0]at hc;cases hc
     simp only[aa.del,this,if_false];exact h.1 c y hc
section
variable{P:Program}(L:iE P){k:ag}{O:ah}{Kp:Value->ag->ah->Prop}
theorem V.LB{v:Value}{b off len cap:Nat}(h:V k v (.fZ b off len cap)):v=.slice (some ⟨b,off,none⟩) len cap:=by cases h;rfl
theorem V.LC{v:Value}(h:V k v .nil):v=.slice none 0 0:=by cases h;rfl
theorem Gz.facts{σ:aa}{v:Value}{a:AV}{kk:Nat}{es:List AV}(h:Gz σ a kk es)(hv:V k v a):∃base cap,v=.slice base es.length cap/\∀e∈es,e.cells.length=kk:=by
 rcases h with(⟨rfl,rfl⟩|⟨sp,rfl⟩)|⟨b,off,cap,l,rfl,h1,h2,h3⟩
 . cases hv;exact⟨none,0,rfl,by simp⟩
 . rcases hv.lq with⟨rfl,rfl,_⟩|⟨b,off,cap,N,E,rfl,q2,q3,q4,q5,_⟩
   . exact⟨none,0,rfl,by simp⟩
   . exact⟨_,cap,rfl,q5⟩
 . cases hv;exact⟨_,cap,rfl,h2⟩
theorem pM{K:Array Value->ag->ah->Prop}{σ:aa}{v:Value}{a:AV}{kk:Nat}{es:List AV}(hv:V k v a)(hr:Rel k O σ)(ha:Gz σ a kk es)
 (hK:∀c:Array Value,c.size=es.length*kk->(∀(j:Nat) u x,c[j]?=some u->(flatten es)[j]?=some x->V k u x)->(∀(j:Nat) u,c[j]?=some u->flat u=true)->K c k O):eE P (Builtin.firstCells kk es.length v) k O K Kp:=by
 rcases ha with ha|⟨b,off,cap,l,rfl,h1,h2,h3⟩
 . exact oz hv ha (Nat.le_refl _) hK
 . cases hv
   obtain⟨y,hO,hy⟩:=hr.1 b _ h1 (by simp)
   cases hy with
   | cells cc e _ g1 g2 g3=>
     unfold Builtin.firstCells loadCells;have hfl:=bc h2;refine iL (l:=flatten es) (base:=off) (off:=0) (λj x hx=>?_) (es.length*kk) 0 #[] (by omega) λvs hvs hvv hff=>?_
     . have hx':=h3 j x hx
       have hj:off+j<cc.size:=by rw[g1];exact(List.getElem?_eq_some_iff.1 hx').1
       exact qx.own (k:=k) hO g1 g2 g3 (off+j) x hx'|>.imp λv h=>by simpa using h
     . refine hK _ (by simp[hvs]) (λj u x hj hx=>hvv j u x (by simpa using hj) (by simpa using hx)) (λj u hj=>hff u ?_)
       have:vs[j]?=some u:=by simpa using hj
       exact List.mem_of_getElem? this
end
section
variable{P:Program}(L:iE P){o:Oper}{env:Env}{σ:aa}{K:AV->aa->Prop}{Kp:AV->aa->Prop}
theorem gf{s x:Operand}{tys:Array TypeId}{t t2 e e2:Nat}{it it2 ie:TI}{σ0:aa}{es xs:List AV}(ho:o.op=.call ⟨.builtin .append,#[s,x],tys⟩)(h0:tys[0]?=some t)(h1:tys[1]?=some t2)(ht:L.tt t=some it)(hk:it.kind=.slice e)
 (ht2:L.tt t2=some it2) (hk2:it2.kind=.slice e2) (he:L.tt e=some ie) (hb:ie.bytes<=1024) (hlen:es.length+xs.length<=1073741824) (hs:bG σ0 σ (ap env s) ie.size es) (hx:Gz σ (ap env x) ie.size xs)
 (hz:(lO ie.zero).cells.all AV.flat=true) (hK:∀a' σ',bG σ0 σ' a' ie.size (es++xs)->K a' σ'):aG P o env σ K Kp:=λk O ρ hv hr=>by
 have hvs:=hv s (by simp[ho,Op.operands,Call.operands])
 have hvx:=hv x (by simp[ho,Op.operands,Call.operands])
 have:execOp ρ o=(do pure (Next.value (<-Builtin.append_ tys o.type #[ρ s,ρ x]))):=by simp[execOp,ho,resolve,invoke,builtin]
 rw[this];refine af ?_;have hzs:ie.zero.cells.size=ie.size:=by obtain⟨_,_,_,_,_,_,h⟩:=L.facts he;exact h
 obtain⟨base,cap,hρs,hes⟩:=hs.rd.facts hvs;obtain⟨basex,capx,hρx,hxs⟩:=hx.facts hvx;have hle0:=hs.1;unfold Builtin.append_;simp only[h0,h1,List.getElem?_toArray,List.getElem?_cons_zero,List.getElem?_cons_succ];refine af (aB L ht λd _ hd=>?_)
 rw[bF hd hk,hρs];dsimp only;refine af (ck L he ?_);refine af (aB L ht2 λd2 _ hd2=>?_)
 rw[bF hd2 hk2];refine af (aj ?_);dsimp only;simp only[Bool.false_eq_true,if_false,Bool.not_false,if_true];refine af (s:=Builtin.lenOf (ρ x)) ?_;rw[hρx];refine aj ?_;rw[<-hρx];have hfe:=bc hes;have hfx:=bc hxs
 by_cases hroom:es.length+xs.length<=cap
 ·
  rw[if_pos hroom];refine af (pM hvx hr hx λc hc1 hc2 hc3=>?_)
  rcases hs.2 with⟨rfl,ha⟩|⟨b,cap',rest,ha,hb0,hc,_,hcells,hrest⟩
  . have hcap:cap=0:=by
     rcases ha with ha|ha
     . rw[ha,hρs]at hvs;have:=hvs.LC;simp only[Value.slice.injEq]at this;exact this.2.2
     . rw[ha,hρs]at hvs
       rcases hvs.lq with⟨_,_,q⟩|⟨_,_,cap',_,_,q1,_,_,_,_,_,q7⟩
       . cases q
       . cases q1;exact q7
    have hxs0:xs=[]:=by cases xs with|nil=>rfl|cons _ _=>simp at hroom;omega
    subst hxs0
    have hcz:c.toList=[]:=by
     have:c.size=0:=by simpa using hc1
     simpa using this
    have hv':V k (.slice base 0 cap) (ap env s):=by rw[hρs]at hvs;simpa using hvs
    cases base with
    |none=>dsimp only;refine aj (aj ⟨_,.inl rfl,.here ⟨.refl k,ap env s,σ,?_,hr,hK _ _ ⟨hle0,.inl ⟨rfl,ha⟩⟩⟩⟩);simpa using hv'
    |some ad=>dsimp only;rw[hcz];refine af (aj ?_);refine aj (aj ⟨_,.inl rfl,.here ⟨.refl k,ap env s,σ,?_,hr,hK _ _ ⟨hle0,.inl ⟨rfl,ha⟩⟩⟩⟩);simpa using hv'
  . rw [ha, hρs] at hvs
    have hinv:=hvs.LB;simp only[Value.slice.injEq,true_and]at hinv;obtain⟨rfl,rfl⟩:=hinv;obtain⟨y,hO,hy⟩:=hr.1 b _ hcells (by simp)
    cases hy with
    | cells cc et _ g1 g2 g3=>
      dsimp only;rw[gJ]
      have hsize:cc.size=cap*ie.size:=by rw[g1,List.length_append,hfe,hrest,<-Nat.add_mul];congr 1;omega
      have hmul:(es.length+xs.length)*ie.size<=cc.size:=by rw[hsize];exact Nat.mul_le_mul_right _ hroom
      rw[Nat.add_mul]at hmul;refine af (nJ c.toList 0 cc O hO (by simp[hc1];omega) (λu hu=>?_) λO' c' hO' hsz hcc=>?_)
      . obtain⟨j,hj,rfl⟩:=List.mem_iff_getElem.1 hu
        exact hc3 j _ (by simp at hj;simp[hj])
      . have hrl:xs.length*ie.size<=rest.length:=by rw[hrest];exact Nat.mul_le_mul_right _ (by omega)
        refine aj (aj ⟨_,.inl rfl,.here ⟨.refl k,.fZ b 0 (es++xs).length cap,σ.set b (.cells (flatten (es++xs)++rest.drop (xs.length*ie.size))),?_,?_,hK _ _ ⟨?_,.inr ⟨b,cap,rest.drop (xs.length*ie.size),rfl,hb0,by simpa using hroom,λz hz=>?_,by simp[aa.set],?_⟩⟩⟩⟩)
        . rw[show es.length+xs.length=(es++xs).length by simp]
          exact .fZ ..
        . rw [hO']
          refine hr.set (.cells c' et _ ?_ (λi v a hv ha=>?_) (λi v hv=>?_))
          . rw[hsz,g1,flatten_append];simp only[List.length_append,List.length_drop,hfx];omega
          . rw [hcc]at hv
            simp only[Nat.zero_add,Array.length_toList,hc1,Nat.add_zero]at hv;rw[flatten_append,List.append_assoc]at ha
            by_cases h1:i<es.length*ie.size
            . rw[if_neg (by omega)]at hv
              rw[List.getElem?_append_left (by omega)]at ha
              exact g2 i v a hv (by rw[List.getElem?_append_left (by omega)];exact ha)
            . rw[List.getElem?_append_right (by omega),hfe]at ha
              by_cases h2:i<es.length*ie.size+xs.length*ie.size
              . rw[if_pos (by omega)]at hv
                rw[List.getElem?_append_left (by omega)]at ha
                exact hc2 _ v a (by simpa using hv) ha
              . rw[if_neg (by omega)]at hv
                rw[List.getElem?_append_right (by omega),List.getElem?_drop]at ha
                refine g2 i v a hv ?_;rw[List.getElem?_append_right (by omega),hfe,<-ha]
                congr 1;omega
          . rw[hcc]at hv
            split at hv
            . exact hc3 _ v (by simpa using hv)
            . exact g3 i v hv
        . intro b' y hy
          have:b'≠b:=λq=>by rw[q,hb0]at hy;cases hy
          simp[aa.set,this,hle0 b' y hy]
        . rcases List.mem_append.1 hz with hz|hz
          . exact hes z hz
          . exact hxs z hz
        . rw[List.length_drop,hrest,List.length_append,<-Nat.sub_mul];congr 1;omega
 ·
  rw[if_neg hroom]
  have hmax:¬((es.length+xs.length:Nat):Int)>IntKind.i64.max:=by have:IntKind.i64.max=9223372036854775807:=rfl;rw[this];omega
  refine af (cD L he λinfo _ _ hib _=>?_)
  rw[if_neg (λq=>hmax q.1)]
  refine af (cD L he λinfo2 _ _ hib2 _=>?_)
  have hnext:=nextslicecap_le (Nat.lt_of_not_le hroom)
  have hcap2:¬(Builtin.nextslicecap (es.length+xs.length) cap*info2.bytes>2 ^ 48):=by rw[hib2];have h1:Builtin.nextslicecap (es.length+xs.length) cap*ie.bytes<=(4*(es.length+xs.length)+2000)*1024:=Nat.mul_le_mul hnext hb;omega
  rw[if_neg hcap2];refine af (s:=choose _) (λt=>?_)
  have hforced:(Question.appendCap (es.length+xs.length) cap e).forced=false:=rfl;rw[hforced];simp only[Bool.false_eq_true,if_false];have hnc:∃newCap,(Question.appendCap (es.length+xs.length) cap e).cut t=newCap/\es.length+xs.length<=newCap:=⟨_,rfl,by simp only[Question.cut];omega⟩
  obtain⟨newCap,hnc1,hnc2⟩:=hnc;rw[hnc1];refine aj ?_;refine af (cD L he λinfo3 _ _ _ _=>?_)
  refine af (nK ?_);refine af (pM (a:=ap env s) (by rw[<-hρs];exact hvs) hr hs.rd λc hc1 hc2 hc3=>?_)
  refine af (pM hvx hr hx λd hd1 hd2 hd3=>?_)
  refine af (cX L he ?_);have hzr:=yh (k:=k) hz
  have hzc:(Builtin.zeroCells ie.zero.cells (newCap-(es.length+xs.length))).size=(newCap-(es.length+xs.length))*ie.size:=by simp[Builtin.zeroCells,hzs]
  have hzf:∀(i:Nat) v,(Builtin.zeroCells ie.zero.cells (newCap-(es.length+xs.length)))[i]?=some v->flat v=true:=by
   intro i v hv;have hi:=(Array.getElem?_eq_some_iff.1 hv).1;simp only[Builtin.zeroCells]at hv;obtain⟨hlt,he⟩:=Array.getElem?_eq_some_iff.1 hv;simp at he;subst he
   have hpos:0<ie.zero.cells.size:=by
    rcases Nat.eq_zero_or_pos ie.zero.cells.size with h|h
    . rw[hzc,<-hzs,h]at hi;simp at hi
    . exact h
   have hm:i % ie.zero.cells.size<ie.zero.cells.size:=Nat.mod_lt _ hpos;rw[getElem!_pos ie.zero.cells _ hm];exact hzr.2.2 (i % ie.zero.cells.size) _ (by simp[hm])
  refine af (iM (l:=flatten (es++xs)++List.replicate ((newCap-(es.length+xs.length))*ie.size) .bL) hr ?_ (λi v a hv ha=>?_) (λi v hv=>?_) λr k' O' hn hle hrel=>aj (aj ⟨_,.inl rfl,.here ⟨hle,.fZ r 0 (es++xs).length newCap,_,?_,hrel,hK _ _ ⟨λb' y hy=>?_,.inr ⟨r,newCap,List.replicate ((newCap-(es.length+xs.length))*ie.size) .bL,rfl,?_,by simpa using hnc2,λz hz=>?_,by simp[aa.set],?_⟩⟩⟩⟩))
  . simp only[Array.size_append,hc1,hd1,hzc,flatten_append,List.length_append,hfe,hfx,List.length_replicate]
  . rw [flatten_append,List.append_assoc]at ha
    rw[Array.append_assoc]at hv
    by_cases h1:i<es.length*ie.size
    . rw[List.getElem?_append_left (by omega)]at ha
      rw[Array.getElem?_append_left (by omega)]at hv
      exact hc2 i v a hv ha
    . rw[List.getElem?_append_right (by omega),hfe]at ha
      rw[Array.getElem?_append_right (by omega),hc1]at hv
      by_cases h2:i-es.length*ie.size<xs.length*ie.size
      . rw[List.getElem?_append_left (by omega)]at ha
        rw[Array.getElem?_append_left (by omega)]at hv
        exact hd2 _ v a hv ha
      . rw[List.getElem?_append_right (by omega)]at ha
        have:=List.mem_of_getElem? ha;rw[List.mem_replicate]at this;rw[this.2];exact .bL _
  . rw[Array.append_assoc]at hv
    by_cases h1:i<es.length*ie.size
    . rw[Array.getElem?_append_left (by omega)]at hv;exact hc3 i v hv
    . rw[Array.getElem?_append_right (by omega),hc1]at hv
      by_cases h2:i-es.length*ie.size<xs.length*ie.size
      . rw[Array.getElem?_append_left (by omega)]at hv;exact hd3 _ v hv
      . rw[Array.getElem?_append_right (by omega)]at hv;exact hzf _ v hv
  . rw[show es.length+xs.length=(es++xs).length by simp];exact .fZ ..
  . have h1:=hle0 b' y hy
    have:b'≠r:=λq=>by rw[q,hn]at h1;cases h1
    simp[aa.set,this,h1]
  . cases q:σ0 r with
    |none=>rfl
    |some y=>have:=hle0 r y q;rw[hn]at this;cases this
  . rcases List.mem_append.1 hz with hz|hz
    . exact hes z hz
    . exact hxs z hz
  . simp
end
def zS(env:Env)(len cap:Nat)(lo hi mx:Option Operand)(l h m:Nat):Prop:=
 (match mx with|none=>m=cap|some o=>(∃kd,ap env o=.lit (.int kd (m:Int)))/\m<=cap)/\
 (match hi with|none=>mx=none/\h=len|some o=>(∃kd,ap env o=.lit (.int kd (h:Int)))/\h<=m)/\
 (match lo with|none=>l=0|some o=>(∃kd,ap env o=.lit (.int kd (l:Int)))/\l<=h)
theorem zS.le{env:Env}{len cap:Nat}{lo hi mx:Option Operand}{l h m:Nat}(hb:zS env len cap lo hi mx l h m)(hlc:len<=cap):l<=h/\h<=m/\m<=cap:=by
 obtain⟨h1,h2,h3⟩:=hb
 have hm:m<=cap:=by
  cases mx with
  |none=>simp only at h1;omega
  |some o=>exact h1.2
 have hh:h<=m:=by
  cases hi with
  |none=>obtain⟨rfl,rfl⟩:=h2;simp only at h1;omega
  |some o=>exact h2.2
 refine⟨?_,hh,hm⟩;cases lo with
 |none=>simp only at h3;omega
 |some o=>exact h3.2
section
variable{P:Program}(L:iE P){k:ag}{O:ah}{Kp:Value->ag->ah->Prop}
theorem oC{K:Nat->ag->ah->Prop}{v:Value}{kd:IntKind}{z y:Nat}{c:BoundsCode}(hv:V k v (.lit (.int kd (z:Int))))(hz:z<=y)(hK:K z k O):eE P (Instr.sliceBound v y c) k O K Kp:=by
 rw[cJ hv];unfold Instr.sliceBound;refine af (aj ?_);dsimp only;rw[if_pos ⟨by omega,by omega⟩];exact aj (by simpa using hK)
theorem mO{K:Nat × Nat × Nat->ag->ah->Prop}{env:Env}{ρ:Operand->Value}{isSlice:Bool}{len cap:Nat}{lo hi mx:Option Operand}{l h m:Nat}(hb:zS env len cap lo hi mx l h m)
 (hv:∀o,(lo=some o\/hi=some o\/mx=some o)->V k (ρ o) (ap env o)) (hK:K (l,h,m) k O):eE P (Instr.sliceBounds isSlice len cap (lo.map ρ) (hi.map ρ) (mx.map ρ)) k O K Kp:=by
 obtain⟨h1,h2,h3⟩:=hb;unfold Instr.sliceBounds
 have hlow:∀c,eE P (do
  let l <-match lo.map ρ with
   |some v=>Instr.sliceBound v h c
   |none=>pure 0
  pure (l,h,m):Sem (Nat × Nat × Nat)) k O K Kp:=by
  intro c;cases lo with
  |none=>simp only at h3;subst h3;exact af (aj (aj hK))
  |some o=>obtain⟨⟨kd,h4⟩,h5⟩:=h3;have:=hv o (.inl rfl);rw[h4]at this;exact af (oC this h5 (aj hK))
 cases mx with
 | none=>
   simp only at h1;subst h1;refine af (aj ?_);cases hi with
   |none=>obtain⟨_,rfl⟩:=h2;exact af (aj (hlow _))
   |some o=>obtain⟨⟨kd,h4⟩,h5⟩:=h2;have:=hv o (.inr (.inl rfl));rw[h4]at this;exact af (oC this h5 (hlow _))
 | some ox=>
   obtain⟨⟨kx,g4⟩,g5⟩:=h1;have hx:=hv ox (.inr (.inr rfl));rw[g4]at hx;refine af (oC hx g5 ?_);cases hi with
   |none=>exact absurd h2.1 (by simp)
   |some o=>obtain⟨⟨kd,h4⟩,h5⟩:=h2;have:=hv o (.inr (.inl rfl));rw[h4]at this;exact af (oC this h5 (hlow _))
end
theorem qH{kk:Nat}:∀{es:List AV}(_:∀e∈es,e.cells.length=kk) (l:Nat),flatten (es.drop l)=(flatten es).drop (l*kk)
 |[],_,l=>by simp[flatten]
 |a::es,h,0=>by simp
 |a::es,h,l+1=>by rw[List.drop_succ_cons,qH (λe he=>h e (by simp[he])) l,flatten_cons,Nat.add_mul,Nat.one_mul,Nat.add_comm,<-List.drop_drop,<-h a (by simp),List.drop_left]
theorem qI{kk:Nat}:∀{es:List AV}(_:∀e∈es,e.cells.length=kk) (l:Nat),flatten (es.take l)=(flatten es).take (l*kk)
 |[],_,l=>by simp[flatten]
 |a::es,h,0=>by simp[flatten]
 | a::es,h,l+1=>by
   have e1:=h a (by simp);have e2:(l+1)*kk=l*kk+kk:=by rw[Nat.add_mul,Nat.one_mul]
   rw[List.take_succ_cons,flatten_cons,qI (λe he=>h e (by simp[he])) l,flatten_cons,List.take_append,List.take_of_length_le (l:=a.cells) (by omega)];congr 2;omega
section
variable{P:Program}(L:iE P){o:Oper}{env:Env}{σ:aa}{K:AV->aa->Prop}{Kp:AV->aa->Prop}
theorem mf{t:TypeId}{x:Operand}{lo hi mx:Option Operand}(ho:o.op=.slice t x lo hi mx):x∈o.op.operands/\∀y,(lo=some y\/hi=some y\/mx=some y)->y∈o.op.operands:=by
 rw[ho];refine⟨by simp[Op.operands],λy hy=>?_⟩;rcases hy with rfl|rfl|rfl<;>simp[Op.operands]
theorem V.GA{k:ag}{b off cap kk N E l h m:Nat}{es:List AV}{sp:cM}(h2:k.sh b=some (E,N))(h3:off+cap*kk<=N)(h4:∀e∈es,e.cells.length=kk)
 (h5:∀(j:Nat) a,(flatten es)[j]?=some a->∃v,k.cell b (off+j)=some v/\V k v a/\aN.flat v=true) (hl:l<=h) (hh:h<=m) (hm:m<=cap) (hes:h<=es.length) (hsp:sp=.any\/(sp=.exact/\m=h)):
 V k (.slice (if m=l then some ⟨b,off,none⟩else(some (⟨b,off,none⟩:Addr)).map (·.add (l*kk))) (h-l) (m-l)) (.sl kk ((es.drop l).take (h-l)) sp):=by
 have hlen:((es.drop l).take (h-l)).length=h-l:=by simp;omega
 have hmem:∀e∈(es.drop l).take (h-l),e.cells.length=kk:=λe he=>h4 e (List.mem_of_mem_drop (List.mem_of_mem_take he))
 by_cases hml:m=l
 . rw[if_pos hml]
   have h0:h-l=0:=by omega
   have hm0:m-l=0:=by omega
   rw[h0,hm0];have:(es.drop l).take 0=[]:=by simp
   rw[this];refine V.ofRow (kk:=kk) (es:=[]) (cap:=0) (by simp) h2 (by omega) (by simp) (λj a ha=>by simp[flatten]at ha) (by rcases hsp with rfl|⟨rfl,_⟩<;>simp[cM.fits])
 . rw [if_neg hml,Option.map_some,gJ]
   conv=>lhs;rw[<-hlen]
   refine V.ofRow (by rw[hlen];omega) h2 ?_ hmem (λj a ha=>?_) ?_
   . have:=Nat.mul_le_mul_right kk (show l+(m-l)<=cap by omega)
     rw[Nat.add_mul]at this;omega
   . rw[qI (λe he=>h4 e (List.mem_of_mem_drop he)),qH h4]at ha
     rw[List.getElem?_take]at ha;split at ha
     . rw[List.getElem?_drop]at ha
       rw[Nat.add_assoc];exact h5 _ a ha
     . cases ha
   . rcases hsp with rfl|⟨rfl,rfl⟩
     . trivial
     . show m-l=_;rw[hlen]
theorem pN{t e:Nat}{x:Operand}{lo hi:Option Operand}{it ie:TI}{es:List AV}{sp:cM}{l h:Nat}(ho:o.op=.slice t x lo hi none)(ht:L.tt t=some it)(hk:it.kind=.slice e)(he:L.tt e=some ie)
 (hx:ap env x=.sl ie.size es sp) (hb:∀cap,es.length<=cap->zS env es.length cap lo hi none l h cap) (hhl:h<=es.length) (hK:K (.sl ie.size ((es.drop l).take (h-l)) .any) σ):aG P o env σ K Kp:=
 aG.val (s:=λρ=>Instr.sliceAt t (ρ x) (lo.map ρ) (hi.map ρ) none) (λρ=>by simp[execOp,ho]) λk O ρ hv hr=>by
  obtain⟨o1,o2⟩:=mf ho;have h1:=hv x o1;rw[hx]at h1;unfold Instr.sliceAt;refine af (aB L ht λd0 _ hd0=>?_);rw[bF hd0 hk];dsimp only;unfold Instr.slice;refine af (aB L ht λd _ hd=>?_);rw[bF hd hk];rcases h1.lq with⟨e1,rfl,_⟩|⟨b,off,cap,N,E,e1,q2,q3,q4,q5,q6,q7⟩
  . rw[e1]
    dsimp only;have hb0:=hb 0 (by simp);have:=hb0.le (by simp);refine af (mO (mx:=none) hb0 (λo hoo=>hv o (o2 o (by simpa using hoo))) ?_);dsimp only;refine af (ck L he (aj (.here ⟨.refl k,_,σ,?_,hr,hK⟩)));have hl0:l=0:=by omega
    have hh0:h=0:=by omega
    subst hl0;subst hh0;simp only[if_true,Nat.sub_zero,List.drop_zero,List.take_nil];exact .slnil _
  . rw[e1]
    dsimp only;have hb0:=hb cap q2;obtain⟨r1,r2,r3⟩:=hb0.le q2;refine af (mO (mx:=none) hb0 (λo hoo=>hv o (o2 o (by simpa using hoo))) ?_);dsimp only;refine af (ck L he (aj (.here ⟨.refl k,_,σ,?_,hr,hK⟩)));exact V.GA q3 q4 q5 q6 r1 r2 r3 hhl (.inl rfl)
theorem sS{t e:Nat}{x:Operand}{lo hi:Option Operand}{mx:Operand}{it ie:TI}{es:List AV}{sp:cM}{l h:Nat}(ho:o.op=.slice t x lo hi (some mx))(ht:L.tt t=some it)(hk:it.kind=.slice e)(he:L.tt e=some ie)
 (hx:ap env x=.sl ie.size es sp) (hb:∀cap,es.length<=cap->zS env es.length cap lo hi (some mx) l h h) (hhl:h<=es.length) (hK:∀a,(a=.sl ie.size ((es.drop l).take (h-l)) .exact\/(es=[]/\a=.nil))->K a σ):aG P o env σ K Kp:=
 aG.val (s:=λρ=>Instr.sliceAt t (ρ x) (lo.map ρ) (hi.map ρ) (some (ρ mx))) (λρ=>by simp[execOp,ho]) λk O ρ hv hr=>by
  obtain⟨o1,o2⟩:=mf ho;have h1:=hv x o1;rw[hx]at h1;unfold Instr.sliceAt;refine af (aB L ht λd0 _ hd0=>?_);rw[bF hd0 hk];dsimp only;unfold Instr.slice;refine af (aB L ht λd _ hd=>?_);rw[bF hd hk];rcases h1.lq with⟨e1,rfl,_⟩|⟨b,off,cap,N,E,e1,q2,q3,q4,q5,q6,q7⟩
  . rw[e1]
    dsimp only;have hb0:=hb 0 (by simp);have:=hb0.le (by simp);refine af (mO (mx:=some mx) hb0 (λo hoo=>hv o (o2 o hoo)) ?_);dsimp only;refine af (ck L he (aj (.here ⟨.refl k,.nil,σ,?_,hr,hK _ (.inr ⟨rfl,rfl⟩)⟩)));have hl0:l=0:=by omega
    have hh0:h=0:=by omega
    subst hl0;subst hh0;simp only[if_true,Nat.sub_zero];exact .lit _
  . rw[e1]
    dsimp only;have hb0:=hb cap q2;obtain⟨r1,r2,r3⟩:=hb0.le q2;refine af (mO (mx:=some mx) hb0 (λo hoo=>hv o (o2 o hoo)) ?_);dsimp only;refine af (ck L he (aj (.here ⟨.refl k,_,σ,?_,hr,hK _ (.inl rfl)⟩)));exact V.GA q3 q4 q5 q6 r1 r2 r3 hhl (.inr ⟨rfl,rfl⟩)
end
section
variable{P:Program}(L:iE P){k:ag}{O:ah}{Kp:Value->ag->ah->Prop}
end
section
variable{P:Program}(L:iE P){o:Oper}{env:Env}{σ:aa}{K:AV->aa->Prop}{Kp:AV->aa->Prop}
theorem Eq{i:TI}{d:TypeDesc}(h:di P i d=true)(hk:i.kind=.bool):d=.bool:=by cases d<;>simp_all [di]
theorem wR{op:BinOp}{t t2:Nat}{x y:Operand}{i:TI}{p q:Bool}(ho:o.op=.binOp op t x y t2)(ht:L.tt t=some i)(hk:i.kind=.bool)(hx:ap env x=.lit (.bool p))(hy:ap env y=.lit (.bool q)){b:Bool}(hop:(op=.eql/\b=(p==q))\/(op=.neq/\b=!(p==q)))(hK:K (.lit (.bool b)) σ):aG P o env σ K Kp:=
 aG.val (s:=λρ=>do eqGuard op t x y (ρ x) (ρ y);binOp op t (ρ x) (ρ y)) (λρ=>by simp[execOp,ho]) λk O ρ hρ hr=>by
  have h1:=hρ x (by simp[ho,Op.operands])
  have h2:=hρ y (by simp[ho,Op.operands])
  rw[hx]at h1;rw[hy]at h2;rw[pJ h1,pJ h2];have hg:eqGuard op t x y (.bool p) (.bool q)=pure ():=by rcases hop with⟨rfl,_⟩|⟨rfl,_⟩<;>simp[eqGuard]
  rw[hg];refine af (aj ?_)
  have heq:∀(R:Bool->ag->ah->Prop) (Rp:Value->ag->ah->Prop),R (p==q) k O->eE P (Op.equal t (.bool p) (.bool q)) k O R Rp:=λR Rp hR=>by
   show eE P (Op.equalIn (9999+1) t (.bool p) (.bool q)) k O R Rp;rw[Op.equalIn];refine af (aB L ht λd _ hd=>?_)
   rw[Eq hd hk];exact aj hR
  rcases hop with⟨rfl,rfl⟩|⟨rfl,rfl⟩
  . exact af (s:=Op.equal t (.bool p) (.bool q)) (heq _ _ (aj (.here ⟨.refl k,_,σ,.lit _,hr,hK⟩)))
  . exact af (s:=Op.equal t (.bool p) (.bool q)) (heq _ _ (aj (.here ⟨.refl k,_,σ,.lit _,hr,hK⟩)))
end
inductive jB{α:Sort _}(a:α):Type
 |mk
def wj{α:Type}(x:Option α)(K:α->Prop)(u:jB K:=.mk):Prop:=∃a,x=some a/\K a
@[simp] theorem Er{α:Type}{a:α}{K:α->Prop}{u:jB K}:wj (some a) K u=K a:=by simp[wj]
@[simp] theorem Es{α:Type}{K:α->Prop}{u:jB K}:wj (none:Option α) K u=False:=by simp[wj]
@[simp] theorem qJ{α β:Type}{f:α->β}{x:Option α}{K:β->Prop}{u:jB K}:wj (x.map f) K u=wj x (λa=>K (f a)):=by cases x<;>simp
def sT(x:Bool)(A B:Prop)(u:jB A:=.mk)(v:jB B:=.mk):Prop:=(x=true->A)/\(x=false->B)
@[simp] theorem mP{A B:Prop}{u:jB A}{v:jB B}:sT true A B u v=A:=by simp[sT]
@[simp] theorem lu{A B:Prop}{u:jB A}{v:jB B}:sT false A B u v=B:=by simp[sT]
def Ph(σ:aa)(F:Nat->Prop)(u:jB F:=.mk):Prop:=∀b,σ b=none->F b
section
variable{P:Program}(L:iE P){o:Oper}{env:Env}{σ:aa}{K:AV->aa->Prop}{Kp:AV->aa->Prop}
theorem rO{x:Operand}{xt t:Nat}{i:TI}(ho:o.op=.typeAssert x xt t true)(ht:L.tt t=some i)(hk:i.kind≠.iface)(hx:ap env x=.lit .nilIface)
 (hK:K (.c9 [lO i.zero,.lit (.bool false)]) σ):aG P o env σ K Kp:=
 aG.val (s:=λρ=>Instr.typeAssert (ρ x) xt t true) (λρ=>by simp[execOp,ho]) λk O ρ hρ hr=>by
  have h1:=hρ x (by simp[ho,Op.operands]);rw[hx]at h1;generalize ρ x=v at h1;cases h1;unfold Instr.typeAssert;refine af (aB L ht λdd _ hd=>?_);have hni:∀ms,dd≠.interface ms:=λms e=>by subst e;simp[di]at hd;exact hk hd
  have pair:∀{u:Value}{b:Bool}{a:AV},V k u a->V k (.tuple #[u,.bool b]) (.c9 [a,.lit (.bool b)]):=λ{u b a} h=>.c9 _ _ rfl λj w c h1 h2=>by
   match j with
   |0=>simp at h1 h2;subst h1;subst h2;exact h
   |1=>simp at h1 h2;subst h1;subst h2;exact .lit _
   |j+2=>simp at h1
  have fin:eE P ((do pure (.tuple #[<-zeroValue t,.bool false]):Sem Value)) k O (λv k' O'=>l8 k' O' λk2 O2=>k.Le k2/\∃a σ',V k2 v a/\Rel k2 O2 σ'/\K a σ') (λv k' O'=>k.Le k'/\∃a σ',V k' v a/\Rel k' O' σ'/\Kp a σ'):=af (cX L ht (aj (.here ⟨.refl k,_,σ,pair (.lO k _),hr,hK⟩)));cases dd<;>first|exact fin|exact absurd rfl (hni _)
end
def JH(ie:TI)(len:Nat)(parts:List (Nat × AV)):Bool:=decide (len*ie.size<=16777216) && (lO ie.zero).cells.all AV.flat && (decide (len*ie.size=0)||decide ((lO ie.zero).cells.length=ie.size)) && (parts.map (·.1)==List.range len) && parts.all λp=>decide (p.2.cells.length=ie.size) && p.2.cells.all AV.flat
theorem sU{size:Nat}:∀(parts:List (Nat × AV)) (l:List AV) (s:Nat),(parts.map (·.1)=List.range' s parts.length)->(∀p∈parts,p.2.cells.length=size/\p.2.cells.all AV.flat=true)->(s+parts.length)*size=l.length ->
 me (λj=>some (j*size,size)) l parts=some (l.take (s*size)++flatten (parts.map (·.2)))
 |[],l,s,_,_,hl=>by simp[me,flatten]at hl ⊢;rw[List.take_of_length_le (by omega)]
 | (i,a)::parts,l,s,hi,hp,hl=>by
   simp only[List.map_cons,List.length_cons,List.range'_succ,List.cons.injEq]at hi;obtain⟨rfl,hi⟩:=hi;obtain⟨h1,h2⟩:=hp (i,a) (by simp)
   simp only[List.length_cons]at hl
   have hle:i*size+size<=l.length:=by
    rw[<-hl];have:(i+(parts.length+1))*size=i*size+size+parts.length*size:=by rw[Nat.add_mul,Nat.add_mul,Nat.one_mul];omega
    omega
   have hle':i*size+a.cells.length<=l.length:=by rw[h1];exact hle
   simp only[me];rw[if_pos ⟨h1,hle,h2⟩];rw[sU parts (aS l (i*size) a.cells) (i+1) hi (λp hp'=>hp p (by simp[hp'])) (by rw[lN hle',<-hl];congr 1;omega)]
   congr 1;rw[List.map_cons,flatten_cons,<-List.append_assoc];congr 1;have:(i+1)*size=i*size+a.cells.length:=by rw[Nat.add_mul,Nat.one_mul,h1]
   rw[this];unfold aS;rw[List.append_assoc,List.take_append,List.take_append];have e1:(List.take (i*size) l).length=i*size:=by rw[List.length_take];omega
   rw[e1,List.take_of_length_le (by omega)]
   congr 1;have e2:i*size+a.cells.length-i*size=a.cells.length:=by omega
   rw[e2,List.take_of_length_le (Nat.le_refl _),Nat.sub_self,List.take_zero,List.append_nil]
section
variable{P:Program}(L:iE P)
theorem BW{o:Oper}{env:Env}{σ:aa}{K Kp:AV->aa->Prop}{t len e:Nat}{parts:Array (Nat × Operand)}{it ie:TI}(ho:o.op=.buildSlice t len parts)(ht:L.tt t=some it)(hk:it.kind=.slice e)(he:L.tt e=some ie)
 (h:JH ie len (parts.toList.map λp=>(p.1,ap env p.2))=true) (hK:K (.sl ie.size (parts.toList.map λp=>ap env p.2) .exact) σ):aG P o env σ K Kp:=by
 simp only[JH,Bool.and_eq_true,Bool.or_eq_true,List.all_eq_true,List.map_map,beq_iff_eq,decide_eq_true_eq]at h;obtain⟨⟨⟨⟨h1,h2⟩,h3⟩,h4⟩,h5⟩:=h;have hlen:parts.toList.length=len:=by have:=congrArg List.length h4;rwa [List.length_map,List.length_range]at this
 have h5':∀p∈(parts.toList.map λp=>(p.1,ap env p.2)),p.2.cells.length=ie.size/\p.2.cells.all AV.flat=true:=λp hp=>⟨(h5 p hp).1,by rw[List.all_eq_true];exact(h5 p hp).2⟩
 refine wh L ho ht hk he h1 (by rw[List.all_eq_true];exact h2) h3 (es:=parts.toList.map λp=>ap env p.2) ⟨by simpa using hlen,λx hx=>?_⟩ ?_ hK
 . obtain⟨p,hp,rfl⟩:=List.mem_map.1 hx
   exact(h5' (p.1,ap env p.2) (List.mem_map.2 ⟨p,hp,rfl⟩)).1
 . rw[sU (size:=ie.size) _ _ 0 (by rw[List.map_map,h4,List.length_map,hlen,List.range_eq_range']) h5' (by rw[List.length_map,hlen,List.length_map,List.length_range,Nat.zero_add])]
   simp[Function.comp_def]
inductive Out where
 |ok (a:AV) (σ:aa)
 |no
 |ga (p:Prop) (x:Out)
 |new (σ:aa) (c:List AV)
 |panic (v:AV) (σ:aa)
def Out.opt(x:Option AV)(σ:aa):Out:=match x with|some a=>.ok a σ|none=>.no
def pP(x:Out)(K Kp:AV->aa->Prop)(u:jB K:=.mk)(v:jB Kp:=.mk):Prop:=
 match x with
 |.ok a σ=>K a σ
 |.no=>False
 |.ga p x=>p/\pP x K Kp u v
 |.new σ c=>Ph σ λb=>K (.ref b 0) (σ.set b (.cells c))
 |.panic v σ=>Kp v σ
section
variable{K Kp:AV->aa->Prop}{u:jB K}{v:jB Kp}
@[simp] theorem O5{a:AV}{σ:aa}:pP (.ok a σ) K Kp u v=K a σ:=propext Iff.rfl
@[simp] theorem O6:pP .no K Kp u v=False:=propext Iff.rfl
@[simp] theorem mg{p:Prop}{x:Out}:pP (.ga p x) K Kp u v=(p/\pP x K Kp):=propext Iff.rfl
@[simp] theorem gL{x:Option AV}{σ:aa}:pP (.opt x σ) K Kp u v=wj x (λa=>K a σ):=by cases x<;>simp[Out.opt]
end
def BX(op:BinOp)(kd:IntKind)(a b:Int)(σ:aa):Out:=
 match op,kd with
 |.add,.i64=>.ga (fits (a+b)) (.ok (.lit (.int .i64 (a+b))) σ)
 |.sub,.i64=>.ga (fits (a-b)) (.ok (.lit (.int .i64 (a-b))) σ)
 |.mul,.i64=>.ga (fits (a*b)) (.ok (.lit (.int .i64 (a*b))) σ)
 |.eql,_=>.ok (.lit (.bool (a==b))) σ
 |.neq,_=>.ok (.lit (.bool (a !=b))) σ
 |.lss,_=>.ok (.lit (.bool (decide (a<b)))) σ
 |.leq,_=>.ok (.lit (.bool (decide (a<=b)))) σ
 |.gtr,_=>.ok (.lit (.bool (decide (a>b)))) σ
 |.geq,_=>.ok (.lit (.bool (decide (a>=b)))) σ
 |.shl,_=>.ga (0<=b) (.ok (.lit (.int kd (kd.wrap (a*2 ^ (min b.toNat kd.bits))))) σ)
 |.shr,_=>.ga (0<=b) (.ok (.lit (.int kd (a.fdiv (2 ^ (min b.toNat kd.bits))))) σ)
 |op,kd=>.opt ((pe op kd a b).map .lit) σ
theorem GB{op:BinOp}{kd:IntKind}{a b:Int}{σ:aa}{K Kp:AV->aa->Prop}(h:pP (BX op kd a b σ) K Kp):pK op kd a b λv=>K (.lit v) σ:=by
 have key:∀x:Option Value,pP (.opt (x.map .lit) σ) K Kp->∃v,x=some v/\K (.lit v) σ:=λx h=>by rw[gL,qJ]at h;exact h
 cases op<;>first|exact key _ h|exact h|(cases kd<;>first|exact h|exact key _ h)
def ys(mu:List Nat)(o:Oper)(env:Env)(σ:aa):Out:=
 match o.op with
 |.move x=>.ok (ap env x) σ
 |.assign x=>.ok (ap env x) σ
 | .pick c a b=>match ap env c with
   |.lit (.bool x)=>.ok (if x then ap env a else ap env b) σ
   |_=>.no
 | .alloc t=>match L.tt t with
   |some i=>.ga ((lO i.zero).cells.all AV.flat=true) (.new σ (lO i.zero).cells)
   |none=>.no
 |.box _ x=>.ga ((ap env x).cells.all AV.flat=true) (if(match o.dst with|some d=>mu.contains d|none=>false)=true then .new σ (ap env x).cells else .ok (.cp (ap env x) 0) σ)
 | .load t p=>match L.tt t with
   |some i=>.opt (nu i σ (ap env p)) σ
   |none=>.no
 | .store t p x=>match L.tt t with
   |some i=>(match pH i σ (ap env p) (ap env x)with|some σ'=>.ok (.lit undef) σ'|none=>.no)
   |none=>.no
 | .fieldAddr s x j=>match L.tt s with
   | some ⟨.struct,_,_,_,iK⟩=>(match iK[j]? with
     |some f=>.ga (f.2.1≠0) (.opt (qy (ap env x) f.1) σ)
     |none=>.no)
   |_=>.no
 | .field s x j=>match L.tt s,ap env x with
   | some ⟨.struct,_,_,_,iK⟩,.agg l=>(match iK[j]? with
     |some f=>(match L.tt f.2.2 with|some fi=>.opt (cE l f.1 fi.size fi.agg) σ|none=>.no)
     |none=>.no)
   |_,_=>.no
 | .indexAddr t x ix=>match L.tt t with
   | some ⟨.slice e,_,_,_,_⟩=>(match L.tt e,ap env x,ap env ix with
     |some ie,.sl kk es _,.lit (.int _ z)=>.ga (kk=ie.size/\0<=z) (.opt ((es[z.toNat]?).map λa=>.cp a 0) σ)
     |some ie,.fZ b off len _,.lit (.int _ z)=>.ga (0<=z/\z<len) (.ok (.ref b (off+z.toNat*ie.size)) σ)
     |_,_,_=>.no)
   | some ⟨.array k e,_,_,_,_⟩=>(match L.tt e,ap env ix with
     |some ie,.lit (.int _ z)=>.ga (0<=z/\z<k) (.opt (qy (ap env x) (z.toNat*ie.size)) σ)
     |_,_=>.no)
   |_=>.no
 | .index t x ix=>match L.tt t with
   | some ⟨.array k e,_,_,_,_⟩=>(match L.tt e,ap env x,ap env ix with
     |some ie,.agg l,.lit (.int _ z)=>.ga (0<=z/\z<k) (.opt (cE l (z.toNat*ie.size) ie.size ie.agg) σ)
     |_,_,_=>.no)
   |_=>.no
 | .binOp op t x y _=>match ap env x,ap env y with
   | .lit (.bool a),.lit (.bool b)=>(match L.tt t with
     | some ⟨.bool,_,_,_,_⟩=>(match op with
       |.eql=>.ok (.lit (.bool (a==b))) σ
       |.neq=>.ok (.lit (.bool (!(a==b)))) σ
       |_=>.no)
     |_=>.no)
   |.lit (.int kd a),.lit (.int kd' b)=>.ga (kd=kd'\/op=.shl\/op=.shr) (if(match o.dst with|some d=>mu.contains d|none=>false)=true then .opt ((pe op kd a b).map .lit) σ else BX op kd a b σ)
   |_,_=>.no
 | .unOp .not _ x=>match ap env x with
   |.lit (.bool b)=>.ok (.lit (.bool !b)) σ
   |_=>.no
 | .convert _ t x=>match L.tt t,ap env x with
   |some ⟨.int kd,_,_,_,_⟩,.lit (.int _ a)=>.ok (.lit (.int kd (kd.wrap a))) σ
   |_,_=>.no
 | .makeInterface t x=>match L.tt t with
   |some i=>.ga (i.kind≠.iface) (.ok (.nI t (ap env x)) σ)
   |none=>.no
 |.makeFunc f fs cs=>.ok (.fn f (fs.toList.map (ap env)) (cs.toList.map (ap env))) σ
 | .extract x j=>match ap env x with
   |.c9 l=>.opt (l[j]?) σ
   |_=>.no
 | .typeAssert x _ t true=>match L.tt t,ap env x with
   |some i,.nI d y=>.ga (i.kind≠.iface) (.ok (if d=t then .c9 [y,.lit (.bool true)]else .c9 [lO i.zero,.lit (.bool false)]) σ)
   |some i,.lit .nilIface=>.ga (i.kind≠.iface) (.ok (.c9 [lO i.zero,.lit (.bool false)]) σ)
   |_,_=>.no
 |.nilCheck x=>match ap env x with|.cp v off=>.ok (.cp v off) σ|.ref b off=>.ok (.ref b off) σ|.kp b l hole off=>.ok (.kp b l hole off) σ|.fn (.func f) l r=>.ok (.fn (.func f) l r) σ|_=>.no
 | .panic x=>match ap env x with
   |.nI t y=>.panic (.nI t y) σ
   |_=>.no
 | .build t parts=>match L.tt t with
   |some i=>.ga (i.kind=.struct/\(lO i.zero).cells.all AV.flat=true) (.opt ((me (λj=>(i.iK[j]?).map λx=>(x.1,x.2.1)) (lO i.zero).cells (parts.toList.map λp=>(p.1,ap env p.2))).map .agg) σ)
   |none=>.no
 | .buildSlice t len parts=>match L.tt t with
   | some ⟨.slice e,_,_,_,_⟩=>(match L.tt e with
     |some ie=>.ga (JH ie len (parts.toList.map λp=>(p.1,ap env p.2))=true) (.ok (.sl ie.size (parts.toList.map λp=>ap env p.2) .exact) σ)
     |none=>.no)
   |_=>.no
 | .call c=>match c.callee,c.args.toList with
   | .builtin .len,[x]=>(match ap env x with
     |.sl _ es _=>.ok (.lit (.int .i64 es.length)) σ
     |.lit (.slice none 0 0)=>.ok (.lit (.int .i64 0)) σ
     |.fZ _ _ len _=>.ok (.lit (.int .i64 len)) σ
     |_=>.no)
   | .builtin .min,[x,y]=>(match ap env x,ap env y with
     |.lit (.int kd a),.lit (.int kd' b)=>.ga (kd=kd') (.ok (.lit (.int kd (if b<a then b else a))) σ)
     |_,_=>.no)
   | .builtin .max,[x,y]=>(match ap env x,ap env y with
     |.lit (.int kd a),.lit (.int kd' b)=>.ga (kd=kd') (.ok (.lit (.int kd (if b>a then b else a))) σ)
     |_,_=>.no)
   |_,_=>.no
 |_=>.no
def nN(o:Oper):Bool:=
 match o.op with
 |.buildSlice t _ _=>match L.tt t with|some ⟨.slice _,_,_,_,_⟩=>true|_=>false
 |.binOp _ t _ _ _=>match L.tt t with|some ⟨.int _,_,_,_,_⟩=>true|some ⟨.bool,_,_,_,_⟩=>true|_=>false
 |_=>pn L o
theorem uD{mu:List Nat}{o:Oper}{env:Env}{σ:aa}{K Kp:AV->aa->Prop}(hok:nN L o=true)(h:pP (ys L mu o env σ) K Kp):aG P o env σ K Kp:=by
 unfold ys at h;unfold nN pn at hok;split at h
 . next x ho=>exact tR (.inl ho) h
 . next x ho=>exact tR (.inr ho) h
 . next c a b ho=>
   split at h
   . next x hx=>exact Dh ho hx h
   . exact h.elim
 . next t ho=>
   split at h
   . next i hi=>exact zF L ho hi h.1 h.2
   . exact h.elim
 . next t x ho=>
   obtain⟨h1,h2⟩:=h;generalize (match o.dst with|some d=>mu.contains d|none=>false)=q at h2;cases q
   . exact Gr ho h1 h2
   . exact uo ho h1 h2
 . next t p ho=>
   split at h
   . next i hi=>rw[gL]at h;obtain⟨a,h1,h2⟩:=h;exact ye L ho hi h1 h2
   . exact h.elim
 . next t p x ho=>
   split at h
   . next i hi=>
     split at h
     . next σ' h1=>exact zE L ho hi h1 h
     . exact h.elim
   . exact h.elim
 . next s x j ho=>
   split at h
   . next a1 a2 a3 iK hi=>
     split at h
     . next f hf=>rw[mg,gL]at h;obtain⟨h1,a,h2,h3⟩:=h;exact qz L ho hi rfl hf h1 h2 h3
     . exact h.elim
   . exact h.elim
 . next s x j ho=>
   split at h
   . next a1 a2 a3 iK l hi hx=>
     split at h
     . next f hf=>
       split at h
       . next fi hfi=>rw[gL]at h;obtain⟨a,h1,h2⟩:=h;exact zI L ho hi rfl hf hfi hx h1 h2
       . exact h.elim
     . exact h.elim
   . exact h.elim
 . next t x ix ho=>
   split at h
   . next e a1 a2 a3 a4 hi=>
     split at h
     . next ie kk es sp kd z he hx hix=>rw[mg,gL,qJ]at h;obtain⟨⟨rfl,h0⟩,a,h1,h2⟩:=h;exact uq L ho hi rfl he hx hix h0 h1 h2
     . next ie b off len cap kd z he hx hix=>exact sO L ho hi rfl he hx hix h.1 h.2
     . exact h.elim
   . next k e a1 a2 a3 a4 hi=>
     split at h
     . next ie kd z he hix=>rw[mg,gL]at h;obtain⟨h0,a,h1,h2⟩:=h;exact sN L ho hi rfl he hix h0 h1 h2
     . exact h.elim
   . exact h.elim
 . next t x ix ho=>
   split at h
   . next k e a1 a2 a3 a4 hi=>
     split at h
     . next ie l kd z he hx hix=>rw[mg,gL]at h;obtain⟨h0,a,h1,h2⟩:=h;exact zJ L ho hi rfl he hx hix h0 h1 h2
     . exact h.elim
   . exact h.elim
 . next op t x y t2 ho=>
   split at h
   . next a b hx hy=>
     split at h
     . next a1 a2 a3 a4 ht=>
       split at h
       . exact wR L ho ht rfl hx hy (.inl ⟨rfl,rfl⟩) h
       . exact wR L ho ht rfl hx hy (.inr ⟨rfl,rfl⟩) h
       . exact h.elim
     . exact h.elim
   . next kd a kd' b hx hy=>
     obtain⟨hkd,h⟩:=h
     have hkd':(op≠.shl/\op≠.shr)->kd'=kd:=λhh=>by
      rcases hkd with h|h|h
      . exact h.symm
      . exact absurd h hh.1
      . exact absurd h hh.2
     generalize (match o.dst with|some d=>mu.contains d|none=>false)=q at h;cases q with
     | true=>
       simp only[if_true,gL,qJ]at h;obtain⟨v,hv,hK⟩:=h;rw[hkd' ⟨(λe=>by subst e;cases hv),(λe=>by subst e;cases hv)⟩]at hy;exact cK ho hx hy hv hK
     |false=>
     simp only[Bool.false_eq_true,if_false]at h;have h:=GB h;unfold pK at h;split at h
     . rw[hkd' (by simp)]at hy;exact ma ho hx hy (.inl ⟨rfl,rfl⟩) h.1 h.2
     . rw[hkd' (by simp)]at hy;exact ma ho hx hy (.inr (.inl ⟨rfl,rfl⟩)) h.1 h.2
     . rw[hkd' (by simp)]at hy;exact ma ho hx hy (.inr (.inr ⟨rfl,rfl⟩)) h.1 h.2
     . rw[hkd' (by simp)]at hy;exact cK ho hx hy rfl h
     . rw[hkd' (by simp)]at hy;exact cK ho hx hy rfl h
     . rw[hkd' (by simp)]at hy;exact cK ho hx hy rfl h
     . rw[hkd' (by simp)]at hy;exact cK ho hx hy rfl h
     . rw[hkd' (by simp)]at hy;exact cK ho hx hy rfl h
     . rw[hkd' (by simp)]at hy;exact cK ho hx hy rfl h
     . exact qA ho hx hy h.1 (.inl ⟨rfl,rfl⟩) h.2
     . exact qA ho hx hy h.1 (.inr ⟨rfl,rfl⟩) h.2
     . next h1 h2 h3 h4 h5 h6 h7 h8 h9 h10 h11=>
       obtain⟨v,hv,hK⟩:=h;rw[hkd' ⟨λe=>by subst e;simp_all,λe=>by subst e;simp_all⟩]at hy;exact cK ho hx hy hv hK
   . exact h.elim
 . next t x ho=>
   split at h
   . next b hx=>exact Gu ho hx h
   . exact h.elim
 . next s t x ho=>
   simp only[ho]at hok;split at h
   . next kd a1 a2 a3 a4 kd' a ht hx=>
     split at hok
     . next ks b1 b2 b3 b4 kt c1 c2 c3 c4 hs ht'=>rw[ht]at ht';exact us L ho hs ht rfl rfl hx h
     . cases hok
   . exact h.elim
 . next t x ho=>
   split at h
   . next i hi=>exact mc L ho hi h.1 h.2
   . exact h.elim
 . next f fs cs ho=>exact sP ho h
 . next x j ho=>
   split at h
   . next l hx=>rw[gL]at h;obtain⟨a,h1,h2⟩:=h;exact ut ho hx h1 h2
   . exact h.elim
 . next x xt t ho=>
   split at h
   . next i d y hi hx=>exact pj L ho hi h.1 hx h.2
   . next i hi hx=>exact rO L ho hi h.1 hx h.2
   . exact h.elim
 . next x ho=>
   split at h
   . next v off hx=>exact eQ ho (.inl ⟨_,_,hx⟩) (by rw[hx];exact h)
   . next b off hx=>exact eQ ho (.inr (.inl ⟨_,_,hx⟩)) (by rw[hx];exact h)
   . next b l hole off hx=>exact eQ ho (.inr (.inr (.inr ⟨_,_,_,_,hx⟩))) (by rw[hx];exact h)
   . next f l r hx=>exact eQ ho (.inr (.inr (.inl ⟨_,_,_,hx⟩))) (by rw[hx];exact h)
   . exact h.elim
 . next x ho=>
   split at h
   . next t y hx=>exact zK ho hx h
   . exact h.elim
 . next t parts ho=>
   split at h
   . next i hi=>rw[mg,gL,qJ]at h;obtain⟨⟨h1,h2⟩,l,h3,h4⟩:=h;exact zM L ho hi h1 h2 h3 h4
   . exact h.elim
 . next t len parts ho=>
   split at h
   . next e a1 a2 a3 a4 ht=>
     split at h
     . next ie he=>exact BW L ho ht rfl he h.1 h.2
     . exact h.elim
   . exact h.elim
 . next c ho=>
   simp only[ho]at hok;split at h
   . next x hc ha=>
     simp only[hc,ha]at hok;have e:=kz hc ha;split at hok
     . next t h0=>
       split at hok
       . next e' a1 a2 a3 a4 ht=>
         rw[e]at ho;split at h
         . next kk es sp hx=>exact yf L ho h0 ht rfl (.inl hx) h
         . next hx=>exact yf L (kk:=0) (sp:=.any) (es:=[]) ho h0 ht rfl (.inr ⟨hx,rfl⟩) h
         . next b off len cap hx=>exact wM L ho h0 ht rfl hx h
         . exact h.elim
       . cases hok
     . cases hok
   . next x y hc ha=>
     rw[kz hc ha]at ho;split at h
     . next kd a kd' b hx hy=>obtain⟨rfl,h⟩:=h;exact oy ho hx hy (.inl ⟨rfl,rfl⟩) h
     . exact h.elim
   . next x y hc ha=>
     rw[kz hc ha]at ho;split at h
     . next kd a kd' b hx hy=>obtain⟨rfl,h⟩:=h;exact oy ho hx hy (.inr ⟨rfl,rfl⟩) h
     . exact h.elim
   . exact h.elim
 . exact h.elim
end
end Go.aN
