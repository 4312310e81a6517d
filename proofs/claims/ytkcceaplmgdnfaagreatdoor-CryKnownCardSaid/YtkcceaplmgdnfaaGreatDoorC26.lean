import Derived.Test.YtkcceaplmgdnfaaGreatDoorC25
set_option linter.all false
namespace Go.bu
open Go.Conc
section
variable{P:Program}{m:Mo}{fid n:Nat}{ro:Option Nat}{hold:List Entry}{s:St}{k todo:List Item}{K:Exit->St->Prop}
theorem af.goto{l:Nat}(b:gotoIn l k=some todo)(a:iW hold todo=true)(h:af P m fid n ro hold todo s K):af P m fid n ro hold (.code (.goto l)::k) s K:=λ_=>Go.cR (λ_ _ _ _ _=>by simp[G,stepG,stepG.exec,b]) (h a)
theorem af.lower(I:Nat->St->Prop)(a:Nat)(c:I a s)(d:∀a s,I a s->(∀a' s',a'<a->I a' s'->af P m fid n ro hold todo s' K)->af P m fid n ro hold todo s K):af P m fid n ro hold todo s K:=by
 have key:∀b a s,a<b->I a s->af P m fid n ro hold todo s K:=λb=>by
  induction b with
  |zero=>omega
  |succ b e=>grind
 grind
end
section
variable{P:Program}(L:hQ P){o:Oper}{env:Env}{σ:aa}{K:AV->aa->Prop}{Kp:AV->aa->Prop}
theorem GC{t b off:Nat}{p x:Operand}{i:TI}{f:Nat->Option Value}{v0 u:Value}(m:o.op=.store t p x)(ht:L.tt t=some i)(n:i.size=1)(q:iM b off (au env p))(r:au env x=.lit u)(d:flat u=true)(c:σ b=some (.part f))(w:f off=some v0)
 (y:K (.lit undef) (σ.set b (.part λj=>if j=off then some u else f j))):aJ P o env σ K Kp:=λk O g h l=>by
 have e:=q _ _ (h p (by simp_all));have a:=h x (by simp_all);rw[r]at a;generalize z:g x=v at a;cases a;have:execOp g o=(do storeVar t ⟨b,off,none⟩ u;pure .skip):=by simp[execOp,m,Instr.storeAt,e,Instr.sureAddr,z]
 rw[this];have A:u.cells=#[u]:=by cases u<;>first|rfl|cases d
 refine ag ?_;unfold storeVar;refine ag (bf L ht ?_);rw[if_neg (by simp_all)];refine ag (ah ?_);rw[A];unfold storeCells;refine ag (s:=store ⟨b,off,none⟩ u) ⟨rfl,d,rfl,.inr (.inr ⟨f,v0,l.yv c,w,?_⟩)⟩;unfold storeCells;exact ah (ah ⟨undef,.inr ⟨rfl,rfl⟩,.here ⟨.refl k,.lit undef,_,.lit _,l.set (.part _),y⟩⟩)
end
def ai.kT(k:ai)(r n:Nat)(v:Value):ai:={k with cell:=λb j=>if b=r/\j=n then some v else k.cell b j}
def zX(f:Nat->Option Value)(n:Nat):Nat->Option Value:=λi=>if i=n then none else f i
theorem yA{f:Nat->Option Value}{n i:Nat}{u:Value}(h:zX f n i=some u):f i=some u/\i≠n:=by
 unfold zX at h
 simp_all
theorem zY{f:Nat->Option Value}{n i:Nat}(h:zX f n i≠none):f i≠none/\i≠n:=by
 cases q:zX f n i with
 |none=>simp_all
 |some u=>have:=yA q;simp_all
theorem BW{k:ai}{O:aj}{r n:Nat}{v:Value}{f:Nat->Option Value}(l:O r=some (.part f))(E:f n=some v):jR k O (k.kT r n v) (O.set r (.part (zX f n))):=λw h=>by
 obtain⟨c,e,B,F,C⟩:=h.part _ _ l
 have G:k.cell r n=none:=by
  cases q:k.cell r n with
  |none=>rfl
  |some u=>exact(h.apart _ _ _ q (.inr (.inr ⟨_,l,by grind⟩))).elim
 have z:k.Le (k.kT r n v):=⟨λb i u j=>by
  have:¬(b=r/\i=n):=λx=>by simp_all
  simpa[ai.kT,this]using j,λ_ _ h=>h⟩
 have p:∀b,b≠r->(O.set r (.part (zX f n))) b=O b:=λb hb=>by simp[aj.set,hb]
 have a:(O.set r (.part (zX f n))) r=some (.part (zX f n)):=by simp[aj.set]
 refine⟨⟨λb i u j D=>?_,λb i u j=>?_,h.sh,λb o hb=>?_,λb m hb=>?_,λb g hb=>?_⟩,⟨z,Nat.le_refl _,λ_ _ _=>rfl,λ_ _ _ _ c _ h=>⟨c,h,rfl,λ_ _=>rfl⟩,λ_ _ _ _ c _ h=>⟨c,h,rfl,λ_ _=>rfl⟩,λ_ _=>rfl,λb x t=>?_,λb i u j=>?_,λ_ _ h=>.inl h,by simp,rfl,rfl,rfl,by simp,λb g hb=>?_⟩⟩
 . have s:aO O b i/\¬(b=r/\i=n):=by
    by_cases hb:b=r
    . subst hb
      rcases D with⟨o,y⟩|⟨m,y,A⟩|⟨g,y,A⟩
      . simp_all
      . simp_all
      . rw[a]at y;cases y
        exact⟨.inr (.inr ⟨f,l,(zY A).1⟩),λx=>(zY A).2 x.2⟩
    . exact⟨by simpa[aO,aj.set,hb]using D,λx=>hb x.1⟩
   exact h.apart b i u (by simpa[ai.kT,s.2]using j) s.1
 . by_cases hb:b=r/\i=n
   . obtain⟨rfl,rfl⟩:=hb
     simp only[ai.kT,and_self,if_true,Option.some.injEq]at j;subst j;simp[World.cell?,B,C _ _ E]
   . exact h.cell b i u (by simpa only[ai.kT,hb,if_false]using j)
 . by_cases d:b=r
   . simp_all
   . exact h.obj b o (by simp_all)
 . by_cases d:b=r
   . simp_all
   . exact h.tail b m (by simp_all)
 . by_cases d:b=r
   . subst d;rw[a]at hb;cases hb
     exact⟨c,e,B,F,λi u j=>C i u (yA j).1⟩
   . exact h.part b g (by simp_all)
 . by_cases d:b=r
   . subst d
     rw[a]at t;cases t;exact .inl ⟨_,l,λi H=>(zY H).1⟩
   . rw[p b d]at t;exact .inl ⟨x,t,.refl x⟩
 . by_cases hb:b=r/\i=n
   . obtain⟨rfl,rfl⟩:=hb;exact .inr (.inl (.inr (.inr ⟨f,l,by grind⟩)))
   . exact .inl (by simpa only[ai.kT,hb,if_false]using j)
 grind
section
variable{P:Program}{fid n:Nat}{ro:Option Nat}{s:St}{k:List Item}{K:Exit->St->Prop}{A:bt}{Fin:ai->aj->Goroutine->Prop}{j:Nat}
def bt.own(A:bt)(j:Nat)(v:Value):Nat->Option Value:=λi=>if i=A.cell j then some v else none
theorem DG(hd:A.dir=true){l:List AV}{h:List Nat}(s:A.cell j<l.length){σ:aa}{r:cJ->aa->Prop}(d:σ A.fb=some .fC)(t:∀x v,A.GI x->(∀y,σ A.mb=some y->y.gone=true)->r (.val (.bp [])) ((σ.set A.mb x).set A.fb (.part (A.own j v)))):aB P (gg P A j) A.nm.lock [.kp A.fb l h A.fo] σ r:=by
 intro Q k O e c rest kind w B g C L;obtain⟨v,rfl,D⟩:=B.one;cases D with
 | kp _ _ N E _ _ M F G _ _=>
   obtain⟨H,_,_⟩:=g.2 _ _ d rfl;refine .cN (λm I J=>T P (gg P A j) Q m I J) rfl (.inl ⟨kind,c,rest,_,w,rfl,H,F,λ_=>Nat.lt_of_lt_of_le s G,λm x y f b n o K p=>?_⟩) (λ_ _ _ h=>h)
   obtain⟨u,rfl⟩:∃u,f=A.own j u:=by unfold bt.Tk at p;rw[if_pos hd]at p;exact p
   refine C m _ (.tuple #[]) (.bp []) _ b (.bp _ _ rfl λi v a h=>by simp at h) (((g.mono b).set n).set (.part _)) (t y u o λz hz=>?_)
   cases q:z.gone with
   |true=>rfl
   | false=>
     obtain⟨R,S,_⟩:=g.1 _ z hz q
     simp_all
def Pp(P:Program)(A:bt)(j:Nat)(fn:Func):Exit->St->Prop:=λe s=>fn.results=#[]/\(e=.leave none\/e=.leave (some .ret))/\(∃a,s.rc=.told .deferred [cd P] a)/\∃pl f y,iM A.fb A.fo pl/\s.D=[.call (.func A.nm.unlock) [] [pl],.call (.func A.ng.done) [] [.ref A.gb 0]]/\
 s.σ A.fb=some (.part f)/\f (A.cell j)=some (A.val j)/\s.σ A.mb=some y/\A.GI y/\y.gone=false
theorem Sa{k:ai}{d:Deferred}{f:Fn}{a:AV}(h:rX k d (.call f [] [a])):∃v,V k v a/\d={target:=.fn f #[],args:=#[v]}:=by
 obtain⟨g,i,rfl,b,c⟩:=h;have j:g=#[]:=by have:=b.1;simp_all
 obtain⟨v,l,e⟩:=Vs.one c;exact⟨v,e,by rw[j,show i=#[v]by grind]⟩
theorem JL{f:FuncId}{fd:Func}{v:Value}{g:FuncId}{tmps:Array Value}{todo:List Item}{ds:List Deferred}{cs:List Frame}(d:P.funcs[f]?=some fd)(hb:fd.body.isSome=true)(a:(fd.name==  "runtime.NumGoroutine")=false){b:Bool}(w:World):
 stepG P b (G ⟨g,tmps,todo,{target:=.fn (.func f) #[],args:=#[v]}::ds,.returning,.deferred,none⟩ cs) w=.go (G (Frame.enter P f #[v] .deferred) (⟨g,tmps,todo,ds,.returning,.deferred,none⟩::cs)) w #[]:=by
 have hinv:∀w,(invoke (.fn (.func f) #[]) #[v]).runT P w #[]=(.ok (.enter f #[v]) w,#[]):=λw=>by
  show Sem.runT P (callFunc f _) w #[]=_;unfold callFunc;have c:fd.body.isNone=false:=by simp_all
  rw[eW,d];simp only[a,c,Bool.false_eq_true,if_false];simp
 simp only[G,stepG,unwind,callDeferred,hinv];simp;rfl
theorem GD(hd:A.dir=true){f:FuncId}{fn fd i:Func}(hf:P.funcs[f]?=some fn)(k:P.funcs[A.ng.done]?=some fd)(l:fd.body.isSome=true)(b:(fd.name==  "runtime.NumGoroutine")=false)(n:P.funcs[A.nm.unlock]?=some i)(o:i.body.isSome=true)(c:(i.name==  "runtime.NumGoroutine")=false){kk:ai}:
 uR P (gg P A j) fH f fn.ntmps none .deferred [cd P] (Pp P A j fn) kk where
 leave k' O' tmps defs s todo F hle hs J p:=by
  obtain⟨d,O,⟨Q,e⟩,pl,K,y,q,H,g,a,xI,r,t⟩:=p;obtain⟨env,σ,D,rc⟩:=s;simp only at e H g xI;subst e H;show T P (gg P A j) fH k' O' (G ⟨f,tmps,todo,defs,.run,.deferred,none⟩ [cd P]);have u:=hs.ds
  match defs,u with
  | [d1,d2],⟨L,M,_⟩=>
    obtain⟨v1,v,rfl⟩:=Sa L;obtain⟨v2,z,rfl⟩:=Sa M;cases z;obtain rfl:=q _ _ v;obtain⟨x,hx,B⟩:=hs.rel.1 _ _ xI t;have I:=hs.rel.yv g;refine T.cR (g':=G ⟨f,tmps,todo,[{target:=.fn (.func A.nm.unlock) #[],args:=#[.pointer (some ⟨A.fb,A.fo,none⟩)]},{target:=.fn (.func A.ng.done) #[],args:=#[.pointer (some ⟨A.gb,0,none⟩)]}],.returning,.deferred,none⟩ [cd P]) rfl (λw=>?_) ?_
    . rcases J with⟨rfl,rfl⟩|⟨kk,rfl,rfl⟩|⟨_,_,_,_,rfl⟩
      . simp[G,stepG,stepG.exec]
      . simp[G,stepG,stepG.exec]
      grind
    refine T.cR rfl (λw=>JL n o c w) (T.sat rfl λ⟨w,hw⟩=>?_);have C:=((BW I a) w hw).2.le;refine .ghost (BW I a) ?_;have E:A.mb≠A.fb:=Ne.symm A.d5;refine .cN fH rfl (.inr (.inl ⟨.deferred,_,_,zX K (A.cell j),x,y,by simp,rfl,by simp[aj.set],by simp only[aj.set,E,if_false];exact hx,B.mono C,r,λ_=>by simp[ai.kT],?_⟩)) (λ_ _ _ h=>h.elim);rw[show CR P A fH=T P (jY P A) fH by simp[CR,hd]];refine T.cR (m:=jY P A) rfl (λw=>JL k l b w) ?_;exact .cN fH rfl ⟨rfl,f,fn,tmps,todo,hf,d,rfl⟩ (λ_ _ _ h=>h.elim)
 panic k' O' tmps defs s todo R S hle hs N p:=by obtain⟨_,h|h,_⟩:=p<;>cases h
theorem af.NW(hd:A.dir=true){m:Nat}{ops:Array Oper}{i:Nat}{rest:List Nat}{o:Oper}{fo:Operand}{args:Array Operand}{d:Array TypeId}{f:FuncId}{fn fd e:Func}{body:Code}{first cap:List AV}{hold hold':List Entry}(z:ops[i]?=some o)(g:o.op=.go ⟨.value fo,args,d⟩)(B:o.guard=none)(j:Oper.ok n o=true)
 (l:au s.env fo=.fn (.func f) first cap) (y:P.funcs[f]?=some fn) (hb:fn.body=some body) (p:(fn.name==  "runtime.NumGoroutine")=false) (C:((first++args.toList.map (au s.env))++cap).length<=fn.ntmps) (q:s.σ A.fb=some .fC) (a:iW hold' [.code body]=true)
 (r:P.funcs[A.ng.done]?=some fd) (t:fd.body.isSome=true) (b:(fd.name==  "runtime.NumGoroutine")=false) (u:P.funcs[A.nm.unlock]?=some e) (v:e.body.isSome=true) (c:(e.name==  "runtime.NumGoroutine")=false)
 (D:∀w,af P (gg P A (A.n-(m+1))) f fn.ntmps none hold' [.code body] ⟨cW ((first++args.toList.map (au s.env))++cap),ij A.fb,[],.told .deferred [cd P] w⟩ (Pp P A (A.n-(m+1)) fn))
 (h:af P (nK P A Fin m) fid n ro hold (.inRegion ops rest::k) {s with env:=aX s.env o.dst .bJ} (λ_ _=>False)):af P (Dk P A Fin m) fid n ro hold (.inRegion ops (i::rest)::k) s K:=λx=>
 Go.FV z g (bs B) j l y hb p C q (λ_=>GD hd y r t b u v c) (λw=>D w a) (h (by simpa[iW,jX]using x))
theorem Nj{kk:ai}{v:Value}{b off:Nat}{l e:List AV}{hole d:List Nat}(hlen:e.length=l.length)(m:∀j,j<l.length->j∉d->(j∉hole/\e[j]?=l[j]?)\/∃u,kk.cell b j=some u/\flat u=true/\e[j]?=some (.lit u))(h:V kk v (.kp b l hole off)):V kk v (.kp b e d off):=by
 cases h with
 | kp _ _ N E _ _ c n p q r=>
   have key:∀j,∃u,j<l.length->j∉d->(kk.cell b j=some u/\flat u=true)/\∀a,e[j]?=some a->V kk u a:=λj=>by
    by_cases f:j<l.length/\j∉d
    . rcases m j f.1 f.2 with⟨i,k⟩|⟨u,i,k,o⟩
      . grind
      . exact⟨u,λ_ _=>⟨⟨i,k⟩,λa ha=>by rw[o]at ha;cases ha;exact .lit _⟩⟩
    simp_all
   refine .kp b off N E e d (λj=>(key j).choose) n (by omega) (λj f g=>((key j).choose_spec (by omega) g).1) (λj a g ha=>((key j).choose_spec (by grind) g).2 a ha)
theorem Go.JM(e:A.dir=true){m:Mo}{J:Exit->St->Prop}{kd:CallKind}{f:List Frame}{L:ai}{ops:Array Oper}{i:Nat}{rest:List Nat}{o:Oper}{args:Array Operand}{r:Array TypeId}{fn:Func}{env':Env}(M:ops[i]?=some o)(u:o.op=.call ⟨.value (.func A.ng.wait),args,r⟩)(R:bK ops n s.env o)(w:Oper.ok n o=true)
 (S:P.funcs[A.ng.wait]?=some fn) (hb:fn.body.isSome=true) (y:(fn.name==  "runtime.NumGoroutine")=false) (ha:args.toList.map (au s.env)=[.ref A.gb 0]) (z:s.σ A.fb=some .fC) (g:s.rc=.told kd f L) (l:pN P m fid n ro J kd f L Fin)
 (T:∀kk,(∀j,j<A.n->kk.cell A.fb (A.cell j)=some (A.val j))->∀t v,V kk v (aX s.env o.dst (.bp []) t)->V kk v (env' t))
 (h:∀a,A.GI a->Go P m fid n ro (.inRegion ops rest::k) {s with env:=env',σ:=(s.σ.set A.mb a).set A.fb (.part (bo A.fo)),rc:=.no} J):Go P (nK P A Fin 0) fid n ro (.inRegion ops (i::rest)::k) s K:=by
 intro Q kk O tmps defs kind cs W p X;refine Dz M u R w S hb y p λB N=>?_
 rw[ha]at N;obtain⟨v,rfl,C⟩:=Vs.one N;cases C;have b:=p.rc;rw[g]at b;obtain⟨rfl,rfl,D⟩:=b;rw[show nK P A Fin 0=_ from if_pos e];refine .cN fH rfl ⟨rfl,_,_,rfl,(p.rel.2 _ _ z rfl).2.1,λE x a c F H I=>?_⟩ (λ_ _ _ h=>h.elim);obtain⟨d,U,q⟩:=p.put (fid:=fid) (ro:=ro) (rest:=rest) (kk:=k) (σ':=(s.σ.set A.mb a).set A.fb (.part (bo A.fo))) (O':=(O.set A.mb x).set A.fb (.part (bo A.fo))) (v:=.tuple #[]) (a:=.bp []) c M (.bp _ _ rfl λi v a h=>by simp at h) (((p.rel.mono c).set H).set (.part _));show Fin E _ (G (Frame.finish ⟨fid,tmps,.inRegion ops (i::rest)::k,defs,.run,kind,ro⟩ (.tuple #[])) (eM s.rc cs));rw[U,g];exact l _ _ E _ d defs (h a I) rfl ⟨q.size,λt ht=>T E F t _ (q.env t ht),q.rel,q.ds,trivial⟩ (D.trans c)
theorem af.JM(b:A.dir=true){m:Mo}{hold:List Entry}{u:Exit->St->Prop}{kd:CallKind}{c:List Frame}{w:ai}{ops:Array Oper}{i:Nat}{rest:List Nat}{o:Oper}{args:Array Operand}{e:Array TypeId}{fn:Func}(env':Env)(x:ops[i]?=some o)(f:o.op=.call ⟨.value (.func A.ng.wait),args,e⟩)(y:o.guard=none)(g:Oper.ok n o=true)
 (z:P.funcs[A.ng.wait]?=some fn) (hb:fn.body.isSome=true) (l:(fn.name==  "runtime.NumGoroutine")=false) (ha:args.toList.map (au s.env)=[.ref A.gb 0]) (p:s.σ A.fb=some .fC) (q:s.rc=.told kd c w) (d:pN P m fid n ro u kd c w Fin)
 (B:∀kk,(∀j,j<A.n->kk.cell A.fb (A.cell j)=some (A.val j))->∀t v,V kk v (aX s.env o.dst (.bp []) t)->V kk v (env' t))
 (h:∀a,A.GI a->af P m fid n ro hold (.inRegion ops rest::k) {s with env:=env',σ:=(s.σ.set A.mb a).set A.fb (.part (bo A.fo)),rc:=.no} u):af P (nK P A Fin 0) fid n ro hold (.inRegion ops (i::rest)::k) s K:=λr=>
 Go.JM b x f (bs y) g z hb l ha p q d B λa ha=>h a ha (by simpa[iW,jX]using r)
theorem af.Sb{m:Mo}{todo:List Item}{hold:List Entry}(f:m.solo=true)(B:fI)(x:B.dir=true)(C:fG P B.ng)(X:gF P B.ng)(A:eY P B.nm)(D:eZ P B.nm)(F:lq P B.nm){a:fy}{g:Nat->Option Value}
 (E:s.σ B.gb=some (.cells [.lit (.int .u64 0),.lit (.int .u32 0)])) (G:s.σ B.fb=some (.part g)) (k:g B.fo=some (.int .i32 0)) (l:g (B.fo+1)=some (.int .u32 0)) (o:∀j,j<B.n->g (B.fo+2+j)≠none) (H:s.σ B.mb=some a) (p:a.gone=false) (r:B.GI a) (t:s.rc=.no)
 (h:∀(b:Nat) (hb:0<b) (Fin:ai->aj->Goroutine->Prop) (kd:CallKind) (c:List Frame) (i:ai),pN P m fid n ro K kd c i Fin ->
   af P (nK P (B.at b hb) Fin B.n) fid n ro hold todo {s with σ:=((s.σ.del B.gb).del B.mb).set B.fb .fC,rc:=.told kd c i} (λ_ _=>False)):af P m fid n ro hold todo s K:=λu=>
 Go.Ok f B C X A D F (λq=>by simp_all) E G k l (λ_=>o) H p r t (λd y e=>by
  by_cases v:d=B.fb
  . simp_all
  by_cases w:d=B.mb
  . subst w;simp[aa.set,aa.del,v]at e
  by_cases z:d=B.gb
  . subst z;simp[aa.set,aa.del,v,w]at e
  simp only[aa.set,aa.del,v,w,z,if_false]at e
  simp_all) λb hb Fin kd c i I=>h b hb Fin kd c i I u
end
structure BX(P:Program)(t ft:Nat):Prop where
 hk:∃f g,P.underlying t=some (.struct #[f,g])/\(f.name≠ "_"/\f.type=ft/\f.offset=0)/\(g.name≠ "_"/\g.type=ft/\g.offset=1)
 hf:P.underlying ft=some (.int .i64)
 hs:P.stoodInHeld t=false
 hg:P.eqGuardType P.depth t=false
theorem BX.of{P:Program}{t ft:Nat}(a:(match P.underlying t with|some (.struct fs)=>(match fs.toList with|[f,g]=>f.name !=  "_" && f.type==ft && f.offset==0 && (g.name !=  "_" && g.type==ft && g.offset==1)|_=>false)|_=>false)=true)(b:P.underlying ft=some (.int .i64))(c:P.stoodInHeld t=false)(d:P.eqGuardType P.depth t=false):BX P t ft:=by
 refine⟨?_,b,c,d⟩;split at a
 . next fs e=>
   split at a
   . next f g h=>
     simp only[Bool.and_eq_true,bne_iff_ne,beq_iff_eq]at a;refine⟨f,g,?_,⟨a.1.1.1,a.1.1.2,a.1.2⟩,a.2.1.1,a.2.1.2,a.2.2⟩;rw[e];congr 2
     grind
   . cases a
 . cases a
section
variable{P:Program}(L:hQ P){k:ai}{O:aj}{Kp:Value->ai->aj->Prop}{t ft:Nat}
theorem ku{K:Value->ai->aj->Prop}{i:TI}{c:Array Value}{n:Nat}{v:Value}(ht:L.tt ft=some i)(ha:i.agg=false)(a:c[n]?=some v)(h:K v k O):dk P (part ft c n) k O K Kp:=by unfold part;refine ag (oD L ht ?_);rw[ha];simp only[Bool.false_eq_true,if_false];rw[a];exact ah h
variable(M:BX P t ft){i:TI}(ht:L.tt ft=some i)(ha:i.agg=false)
include M ht ha
theorem wq{K:Bool->ai->aj->Prop}{a b c d:Int}(h:K (a==c && b==d) k O):dk P (Op.equal t (.agg #[.int .i64 a,.int .i64 b]) (.agg #[.int .i64 c,.int .i64 d])) k O K Kp:=by
 obtain⟨f,g,j,⟨l,m,n⟩,o,p,q⟩:=M.hk;show dk P (Op.equalIn (9998+1+1) t (.agg #[.int .i64 a,.int .i64 b]) (.agg #[.int .i64 c,.int .i64 d])) k O K Kp;rw[Op.equalIn];refine ag (bY j ?_);refine ag (bb ?_);rw[M.hs];simp only[Bool.false_eq_true,if_false,List.forIn_toArray,List.forIn_cons,List.forIn_nil];rw[if_pos l,m,n,if_pos o,p,q];refine ag (ag (ag (ku L ht ha rfl ?_)));refine ag (ku L ht ha rfl ?_);refine ag ?_;rw[Op.equalIn];refine ag (bY M.hf ?_);simp only;refine ah ?_;cases e:(a==c)with
 |false=>rw[e]at h;exact ah (ah (ah h))
 | true=>
   rw[e]at h;refine ah ?_;simp only[];refine ag (ag (ku L ht ha rfl ?_));refine ag (ku L ht ha rfl ?_);refine ag ?_;rw[Op.equalIn];refine ag (bY M.hf ?_);simp only;refine ah ?_;cases i:(b==d)with
   |false=>rw[i]at h;exact ah (ah (ah h))
   |true=>rw[i]at h;exact ah (ah (ah h))
theorem BY{c:Value}{a b:Int}(h:V k c (.agg [.lit (.int .i64 a),.lit (.int .i64 b)])):c=.agg #[.int .i64 a,.int .i64 b]:=by
 cases h with
 | agg c l e d=>
   obtain⟨f⟩:=c
   match f,e,d with
   |[p,q],_,d=>have g:=d 0 p _ rfl rfl;have i:=d 1 q _ rfl rfl;cases g;cases i;rfl
theorem yB{o:Oper}{env:Env}{σ:aa}{K Kp:AV->aa->Prop}{op:BinOp}{p:Nat}{x y:Operand}{a b c d:Int}{r:Bool}(q:o.op=.binOp op t x y p)(u:au env x=.agg [.lit (.int .i64 a),.lit (.int .i64 b)])(v:au env y=.agg [.lit (.int .i64 c),.lit (.int .i64 d)])
 (f:(op=.eql/\r=(a==c && b==d))\/(op=.neq/\r=!(a==c && b==d))) (i:K (.lit (.bool r)) σ):aJ P o env σ K Kp:=
 aJ.val (s:=λe=>do eqGuard op t x y (e x) (e y);binOp op t (e x) (e y)) (λe=>by simp[execOp,q]) λk O e g j=>by
  have l:=g x (by simp_all);have m:=g y (by simp_all);rw[u]at l;rw[v]at m;rw[BY L M ht ha l,BY L M ht ha m]
  have h:∀{R:Unit->ai->aj->Prop}{w:Value->ai->aj->Prop},R () k O->dk P (eqGuard op t x y (.agg #[.int .i64 a,.int .i64 b]) (.agg #[.int .i64 c,.int .i64 d])) k O R w:=λn=>by
   rcases f with⟨rfl,_⟩|⟨rfl,_⟩
   . unfold eqGuard
     simp only[Bool.not_true,Bool.false_eq_true,if_false];refine ag (bb ?_);refine ag (bb ?_);rw[M.hg];exact ah n
   . unfold eqGuard
     simp only[Bool.not_true,Bool.false_eq_true,if_false];refine ag (bb ?_);refine ag (bb ?_);rw[M.hg];exact ah n
  refine ag (h ?_);rcases f with⟨rfl,rfl⟩|⟨rfl,rfl⟩
  . exact ag (s:=Op.equal t _ _) (wq L M ht ha (ah (.here ⟨.refl k,_,σ,.lit _,j,i⟩)))
  . exact ag (s:=Op.equal t _ _) (wq L M ht ha (ah (.here ⟨.refl k,_,σ,.lit _,j,i⟩)))
end
structure Ol(P:Program)(t ft:Nat):Prop where
 hk:P.underlying t=some (.array 4 ft)
 hf:P.underlying ft=some (.int .i64)
 hg:P.eqGuardType P.depth t=false
section
variable{P:Program}(L:hQ P){k:ai}{O:aj}{Kp:Value->ai->aj->Prop}{t ft:Nat}
variable(M:Ol P t ft){i:TI}(ht:L.tt ft=some i)(ha:i.agg=false)(hz:i.size=1)
include M
theorem Nk{K:Bool->ai->aj->Prop}{a b:Int}(h:K (a==b) k O):dk P (Op.equalIn 9999 ft (.int .i64 a) (.int .i64 b)) k O K Kp:=by show dk P (Op.equalIn (9998+1) ft _ _) k O K Kp;rw[Op.equalIn];refine ag (bY M.hf ?_);exact ah h
include ht ha
theorem uI{β:Type}{K:β->ai->aj->Prop}{x y:Array Value}{n:Nat}{a b:Int}{f:Bool->Sem β}(c:x[n]?=some (.int .i64 a))(d:y[n]?=some (.int .i64 b))(h:dk P (f (a==b)) k O K Kp):dk P (do let p <-part ft x n;let q <-part ft y n;let r <-Op.equalIn 9999 ft p q;f r) k O K Kp:=ag (ku L ht ha c (ag (ku L ht ha d (ag (Nk M h)))))
include hz
theorem DH{K:Bool->ai->aj->Prop}{a b c d a' b' c' d':Int}(h:K (a==a' && (b==b' && (c==c' && d==d'))) k O):dk P (Op.equal t (.agg #[.int .i64 a,.int .i64 b,.int .i64 c,.int .i64 d]) (.agg #[.int .i64 a',.int .i64 b',.int .i64 c',.int .i64 d'])) k O K Kp:=by
 show dk P (Op.equalIn (9998+1+1) t _ _) k O K Kp;rw[Op.equalIn];refine ag (bY M.hk ?_);refine ag (bf L ht ?_);rw[hz];simp only[Std.Legacy.Range.forIn_eq_forIn_range',Std.Legacy.Range.size,List.range',Nat.reduceAdd,Nat.reduceSub,Nat.reduceDiv,List.forIn_cons,List.forIn_nil];refine ag (ag (uI L M ht ha rfl rfl ?_));cases e:(a==a')with
 |false=>rw[e]at h;exact ah (ah (ah h))
 |true=>
 rw[e]at h;refine ah (ag (uI L M ht ha rfl rfl ?_));cases f:(b==b')with
 |false=>rw[f]at h;exact ah (ah (ah h))
 |true=>
 rw[f]at h;refine ah (ag (uI L M ht ha rfl rfl ?_));cases g:(c==c')with
 |false=>rw[g]at h;exact ah (ah (ah h))
 |true=>
 rw[g]at h;refine ah (ag (uI L M ht ha rfl rfl ?_));cases i:(d==d')with
 |false=>rw[i]at h;exact ah (ah (ah h))
 |true=>rw[i]at h;exact ah (ah (ah h))
omit M ht ha hz in
theorem BZ{c:Value}{x y z w:Int}(h:V k c (.agg [.lit (.int .i64 x),.lit (.int .i64 y),.lit (.int .i64 z),.lit (.int .i64 w)])):c=.agg #[.int .i64 x,.int .i64 y,.int .i64 z,.int .i64 w]:=by
 cases h with
 | agg c l b a=>
   obtain⟨d⟩:=c
   match d,b,a with
   |[p,q,r,s],_,a=>have e:=a 0 p _ rfl rfl;have f:=a 1 q _ rfl rfl;have g:=a 2 r _ rfl rfl;have i:=a 3 s _ rfl rfl;cases e;cases f;cases g;cases i;rfl
theorem DI{o:Oper}{env:Env}{σ:aa}{K Kp:AV->aa->Prop}{i:Nat}{x y:Operand}{a b c d a' b' c' d':Int}(j:o.op=.binOp .neq t x y i)(l:au env x=.agg [.lit (.int .i64 a),.lit (.int .i64 b),.lit (.int .i64 c),.lit (.int .i64 d)])(m:au env y=.agg [.lit (.int .i64 a'),.lit (.int .i64 b'),.lit (.int .i64 c'),.lit (.int .i64 d')])
 (n:K (.lit (.bool (!(a==a' && (b==b' && (c==c' && d==d')))))) σ):aJ P o env σ K Kp:=
 aJ.val (s:=λe=>do eqGuard .neq t x y (e x) (e y);binOp .neq t (e x) (e y)) (λe=>by simp[execOp,j]) λk O e f p=>by
  have g:=f x (by simp_all);have h:=f y (by simp_all);rw[l]at g;rw[m]at h;rw[BZ g,BZ h];refine ag (?_:dk P (eqGuard .neq t x y _ _) k O _ _);unfold eqGuard;simp only[Bool.not_true,Bool.false_eq_true,if_false];refine ag (bb (ag ?_));refine bb ?_;rw[M.hg];refine ah ?_;exact ag (s:=Op.equal t _ _) (DH L M ht ha hz (ah (.here ⟨.refl k,_,σ,.lit _,p,n⟩)))
end
section
variable{P:Program}(L:hQ P){m:Mo}
theorem aB.JN{f:FuncId}{fn:Func}{args:List AV}{σ:aa}{b:cJ->aa->Prop}{body:Code}(mu:List Nat)(hold:List Entry)(N k:Nat)(c:P.funcs[f]?=some fn)(hb:fn.body=some body)(e:args.length=k)(d:mS fn k=true)(a:jX hold body=true)
 (h:bd L m f fn.ntmps none mu hold N [.code body] ⟨cW args,σ,[],.no⟩ (PR L m fn.results.toList (ml b))):aB P m f args σ b:=by
 simp only[mS,Bool.and_eq_true]at d;refine aB.thaw (aB.intro L c hb (by simp_all) ?_ (Go.bd L mu hold N (by simpa[iW]using a) h))
 simp_all
variable{fid n:Nat}{ro:Option Nat}{hold:List Entry}{K:Exit->St->Prop}{todo:List Item}
@[simp] theorem QE{mu:List Nat}{s:St}:bd L m fid n ro mu hold 0 todo s K=af P m fid n ro hold todo s K:=propext Iff.rfl
theorem af.sG{env:Env}{σ:aa}{D:List kF}{rc:Rec}(I:Env->Prop)(a:I env)(h:∀env,I env->af P m fid n ro hold todo ⟨env,σ,D,rc⟩ K):af P m fid n ro hold todo ⟨env,σ,D,rc⟩ K:=h env a
theorem af.mH{env:Env}{σ:aa}{D:List kF}{rc:Rec}(I:Env->aa->Prop)(a:I env σ)(h:∀env σ,I env σ->af P m fid n ro hold todo ⟨env,σ,D,rc⟩ K):af P m fid n ro hold todo ⟨env,σ,D,rc⟩ K:=h env σ a
end
section
variable{P:Program}(L:hQ P){o:Oper}{env:Env}{σ:aa}{K:AV->aa->Prop}{Kp:AV->aa->Prop}
end
theorem Pq{es b:List AV}{sp:cQ}(f:es.length=b.length)(l:∀e∈es,e.cells=[e])(m:∀e∈b,e.cells=[e])(n:∀(i:Nat) a a',es[i]?=some a->b[i]?=some a'->a.W a'):(AV.sl 1 es sp).W (.sl 1 b .any):=λk v o=>by
 have f1:=iE l;have p:=iE m;rcases o.AU with⟨q,rfl,rfl,r⟩|⟨s,off,cap,N,t,c,rfl,x,u,w,y,g,h,z⟩
 . have:b=[]:=List.length_eq_zero_iff.1 f.symm
   subst this;exact .slnil q 1 .any (.inl rfl)
 . rw[f1]at g h
   rw[f];refine .sl s off cap 1 N t b .any c (by omega) u w (λe A=>by simp_all) (λj d=>g j (by simp_all)) (λj a ha=>?_) trivial;rw[p]at ha;have d:j<es.length:=by grind
   exact n j es[j] a (by simp[d]) ha k _ (h j _ (by simp[d]))
section
variable{P:Program}{m:Mo}{fid n:Nat}{ro:Option Nat}{hold:List Entry}{K:Exit->St->Prop}{todo:List Item}
end
section
variable{P:Program}(L:hQ P){o:Oper}{env:Env}{σ:aa}{K:AV->aa->Prop}{Kp:AV->aa->Prop}
theorem lP{t len e:Nat}{parts:Array (Nat × Operand)}{it b:TI}{es:List AV}(E:o.op=.buildSlice t len parts)(ht:L.tt t=some it)(J:it.kind=.slice e)(F:L.tt e=some b)(q:len*b.size<=16777216)
 (hz:(iP b.zero).cells.all AV.flat=true) (G:len*b.size=0\/(iP b.zero).cells.length=b.size) (M:es.length=len/\∀e∈es,e.cells.length=b.size)
 (N:jv (λj=>some (j*b.size,b.size)) ((List.range (len*b.size)).map λj=>(iP b.zero).cells.getD (j % (iP b.zero).cells.length) .bJ) (parts.toList.map λp=>(p.1,au env p.2))=some (flatten es)) (Q:∀r,σ r=none->K (.kB r 0 len len) (σ.set r (.cells (flatten es)))):aJ P o env σ K Kp:=
 aJ.val (s:=λρ=>Instr.buildSlice t len (parts.map λ(i,x)=>(i,ρ x))) (λρ=>by simp[execOp,E]) λk O ρ R S=>by
  obtain⟨T,H⟩:=oI (k:=k) (ρ:=ρ) (env:=env) (parts:=parts) λp H=>R p.2 (by simp[E,Op.operands];grind)
  have g:=u' (k:=k) hz;unfold Instr.buildSlice;refine ag (aE L ht λd _ hd=>?_)
  rw[bg hd J];dsimp only;refine ag (bf L F ?_);rw[if_neg (by omega)]
  have fin:∀(z:Array Value),(len*b.size=0\/z=b.zero.cells)->dk P (do
   let some cells:=Instr.fill (λi=>some (i*b.size,b.size)) ((Array.range (len*b.size)).map (z[· % z.size]!)) (parts.map λ(i,x)=>(i,ρ x)).toList|stuck  "buildSlice: a part of the wrong size"
   pure (.slice (some (<-newRow e cells)) len len):Sem Value) k O (λv h u=>ly h u λw U=>k.Le w/\∃a c,V w v a/\Rel w U c/\K a c) (λv h u=>k.Le h/\∃a c,V h v a/\Rel h u c/\Kp a c):=by
   intro z l
   have y:nP k ((Array.range (len*b.size)).map (z[· % z.size]!)) ((List.range (len*b.size)).map λj=>(iP b.zero).cells.getD (j % (iP b.zero).cells.length) .bJ):=by
    refine⟨by grind,λj v a m I=>?_,λj v m=>?_⟩
    . have A:j<len*b.size:=by grind
      rcases l with n|rfl
      . omega
      . have B:(iP b.zero).cells.length≠0:=by
         grind
        have W:j % (iP b.zero).cells.length<(iP b.zero).cells.length:=Nat.mod_lt _ (by omega)
        simp only[Array.getElem?_map,Array.getElem?_range,A,if_true,Option.map_some,Option.some.injEq,List.getElem?_map,List.getElem?_range]at m I;have Z:=g.1;subst m;subst I;refine g.2.1 (j % (iP b.zero).cells.length) _ _ ?_ ?_
        . grind
        grind
    . have A:j<len*b.size:=by grind
      rcases l with n|rfl
      . omega
      . have B:(iP b.zero).cells.length≠0:=by
         grind
        have W:j % b.zero.cells.size<b.zero.cells.size:=by rw[g.1];exact Nat.mod_lt _ (by omega)
        simp only[Array.getElem?_map,Array.getElem?_range,A,if_true,Option.map_some,Option.some.injEq]at m;subst m;refine g.2.2 (j % b.zero.cells.size) _ ?_
        grind
   obtain⟨c',X,f⟩:=qx _ _ _ _ _ T H y N;rw[X];dsimp only;exact ag (iA S f.1 f.2.1 f.2.2 λr h u Y C D=>ah (.here ⟨C,.kB r 0 len len,_,.kB ..,D,Q r Y⟩))
  by_cases n:len*b.size=0
  . rw[if_pos n]
    exact ag (ah (fin #[] (.inl n)))
  . rw[if_neg n]
    exact ag (cD L F (ag (ah (fin _ (.inr rfl)))))
end
section
variable{P:Program}{m:Mo}{fid n:Nat}{ro:Option Nat}{hold:List Entry}{s:St}{K:Exit->St->Prop}{k:List Item}
theorem af.op{ops:Array Oper}{i:Nat}{rest:List Nat}{o:Oper}(f:ops[i]?=some o)(g:bK ops n s.env o)(b:Oper.ok n o=true)(d:∀c,o.op≠.defer c)
 (h:aJ P o s.env s.σ (λa σ'=>af P m fid n ro hold (.inRegion ops rest::k) {s with env:=aX s.env o.dst a,σ:=σ'} K) (λa σ'=>K (.panic a) {s with σ:=σ'})):
 af P m fid n ro hold (.inRegion ops (i::rest)::k) s K:=λe=>Go.op f g b d (h.mono λa σ' q=>q (by simpa[iW,jX]using e))
end
def dW{α:Type}(P:Program):Sem α->Option α
 |.pure a=>some a
 |.program g=>dW P (g P)
 |_=>none
theorem nt{α:Type}{P:Program}{k:ai}{O:aj}{K:α->ai->aj->Prop}{Kp:Value->ai->aj->Prop}{a:α}:∀(s:Sem α),dW P s=some a->K a k O->dk P s k O K Kp
 |.pure b,h,c=>by simp only[dW,Option.some.injEq]at h;subst h;exact c
 |.program g,h,c=>nt (g P) h c
 |.load ..,h,_=>by simp[dW]at h
 |.store ..,h,_=>by simp[dW]at h
 |.new ..,h,_=>by simp[dW]at h
 |.shape ..,h,_=>by simp[dW]at h
 |.freeze ..,h,_=>by simp[dW]at h
 |.frozen ..,h,_=>by simp[dW]at h
 |.getObj ..,h,_=>by simp[dW]at h
 |.setObj ..,h,_=>by simp[dW]at h
 |.choose ..,h,_=>by simp[dW]at h
 |.sys ..,h,_=>by simp[dW]at h
 |.mark ..,h,_=>by simp[dW]at h
 |.halt ..,h,_=>by simp[dW]at h
def tF(P:Program)(e:Array Value->Sem Value)(args:List AV)(σ:aa)(K:AV->aa->Prop):Prop:=∀k O (d:List Value),Vs k d args->Rel k O σ->dk P (e d.toArray) k O (λv c f=>k.Le c->∃a b,V c v a/\Rel c f b/\K a b) (λ_ _ _=>False)
section
variable{P:Program}(L:hQ P){m:Mo}{f:FuncId}{fn:Func}
theorem tH{e:Array Value->Sem Value}{k:ai}{O:aj}{b:Array Value}{K:Go.Next->ai->aj->Prop}{Kp:Value->ai->aj->Prop}(c:P.funcs[f]?=some fn)(hb:fn.body=none)(a:(fn.name==  "runtime.NumGoroutine")=false)(d:Extern.findNext fn=none)(g:Extern.find fn=some e)
 (h:dk P (e b) k O (λv k' O'=>K (.value v) k' O') Kp):dk P (callFunc f b) k O K Kp:=by
 unfold callFunc;refine ag (bb ?_);rw[c];simp only[a,hb,Option.isNone_none,Bool.false_eq_true,if_false,if_true];refine ag (s:=mark (.extern f)) ⟨rfl,?_⟩;simp only[d,g];exact ag (iy _ h (λ_ _ _ h=>ah h) (λ_ _ _ h=>h))
theorem bz.ext{e:Array Value->Sem Value}{args:List AV}{σ:aa}{n:cJ->aa->Prop}(o:P.funcs[f]?=some fn)(hb:fn.body=none)(d:(fn.name==  "runtime.NumGoroutine")=false)(p:Extern.findNext fn=none)(q:Extern.find fn=some e)
 (h:tF P e args σ λa σ'=>n (.val a) σ'):bz P m (.fn (.func f) [] []) args σ n:=λQ k O cf b fr cs g c r i j l w x=>by
 cases g with
 | fn _ s t y z A B C D=>
   refine dv ?_;simp only[Deferred.ofValue];refine ag (ah ?_);simp only[Go.invoke];obtain rfl:s=#[]:=by simp_all
   obtain rfl:t=#[]:=by simp_all
   refine tH o hb d p q ?_;rw[show(#[]++b.toArray++#[]:Array Value)=b.toArray by simp];refine iy _ (h k O b c r) (λv E F G u=>?_) (λ_ _ _ h=>h.elim)
   grind
variable{fid n:Nat}{ro:Option Nat}{hold:List Entry}{s:St}{K:Exit->St->Prop}{k:List Item}
theorem af.Nl{ops:Array Oper}{i:Nat}{is:List Nat}{o:Oper}{recv:Operand}{name:String}{args:Array Operand}{u:Array TypeId}{t f:Nat}{a a':AV}{fn:Func}{e:Array Value->Sem Value}(I:ops[i]?=some o)(y:o.op=.call ⟨.invoke recv name,args,u⟩)(M:bK ops n s.env o)(z:Oper.ok n o=true)
 (N:au s.env recv=.kD t a) (R:mW P t name f a a') (S:P.funcs[f]?=some fn) (hb:fn.body=none) (A:(fn.name==  "runtime.NumGoroutine")=false) (U:Extern.findNext fn=none) (W:Extern.find fn=some e)
 (h:tF P e (a'::args.toList.map (au s.env)) s.σ (λx σ'=>af P m fid n ro hold (.inRegion ops is::k) {s with env:=aX s.env o.dst x,σ:=σ'} K)):
 af P m fid n ro hold (.inRegion ops (i::is)::k) s K:=λB Q kk O tmps defs kind cs X p Y=>by
 refine T.mP (λw=>dA I (fR p.size p.env M) (.inr λc e=>by simp_all) w) (dv ?_)
 have b:∀x∈o.op.operands,V kk (Frame.eval ⟨fid,tmps,.inRegion ops (i::is)::k,defs,.run,kind,ro⟩ x) (au s.env x):=λx Z=>by
  refine V.eval p.env p.size x ?_;simp only[Oper.ok,Bool.and_eq_true,Array.all_eq_true_iff_forall_mem]at z
  grind
 have q:=b recv (by simp_all);rw[N]at q;have d:=Vs.ofArray (k:=kk) (ρ:=Frame.eval ⟨fid,tmps,.inRegion ops (i::is)::k,defs,.run,kind,ro⟩) (env:=s.env) (xs:=args) (λx Z=>b x (by simp_all));generalize hq:Frame.eval _ recv=cf at q;cases q with
 | kD _ v _ C=>
   simp only[execOp,y,resolve,hq];refine ag (ah ?_);rw[pF];unfold callMethod;simp only;refine ag (bb ?_);refine ag (R kk O v _ _ C λr D=>?_);refine tH S hb A U W ?_;have e:#[r]++args.map (Frame.eval ⟨fid,tmps,.inRegion ops (i::is)::k,defs,.run,kind,ro⟩)=(r::(args.map (Frame.eval ⟨fid,tmps,.inRegion ops (i::is)::k,defs,.run,kind,ro⟩)).toList).toArray:=by simp
   rw[e];refine iy _ (h kk O _ (.cons D ⟨by grind,λj v a q ha=>d.2 j v a (by grind) ha⟩) p.rel) (λcv J L E g=>?_) (λ_ _ _ h=>h.elim);obtain⟨av,σ',F,H,E⟩:=E g;obtain⟨l,e1,e2⟩:=p.put (fid:=fid) (ro:=ro) (rest:=is) (kk:=k) g I F H;show T P m Q J L (G (Frame.finish ⟨fid,tmps,.inRegion ops (i::is)::k,defs,.run,kind,ro⟩ cv) (eM s.rc cs));rw[e1];exact E (by simpa[iW,jX]using B) Q J L l defs kind cs X e2 (Y.mono g)
end
theorem wu{k:ai}{v u:Value}:V k v (.lit u)↔v=u:=⟨λh=>by cases h;rfl,λh=>h ▸ .lit v⟩
theorem Sc{k:ai}{v:Value}{b off:Nat}:V k v (.ref b off)↔v=.pointer (some ⟨b,off,none⟩):=⟨λh=>by cases h;rfl,λh=>h ▸ .ref b off⟩
theorem Om{k:ai}{v:Value}{t:TypeId}{a:AV}:V k v (.kD t a)↔∃u,v=.iface t u/\V k u a:=⟨λh=>by cases h with|kD _ u _ h=>simp_all,λ⟨u,e,h⟩=>e ▸ .kD t u a h⟩
theorem DJ{k:ai}{v:Value}{a:AV}:V k v (.agg [a])↔∃x,v=.agg #[x]/\V k x a:=by
 constructor
 . intro h
   cases h with
   | agg c _ b d=>
     obtain⟨c⟩:=c
     match c,b with
     |[x],_=>exact⟨x,rfl,d 0 x a rfl rfl⟩
 . rintro⟨x,rfl,h⟩
   refine .agg _ _ rfl λi v e f g=>?_
   grind
section
open Go.Extern
variable{P:Program}(L:hQ P){σ:aa}{K:AV->aa->Prop}
theorem tF.pure{e:Array Value->Sem Value}{args:List AV}{v:Value}{a:AV}(c:∀k b,Vs k b args->dW P (e b.toArray)=some v)(ha:∀k,V k v a)(d:K a σ):tF P e args σ K:=λk O b f g=>by exact nt _ (c k b f) λ_=>⟨a,σ,ha k,g,d⟩
end
section
variable{P:Program}(L:hQ P){o:Oper}{env:Env}{σ:aa}{K:AV->aa->Prop}{Kp:AV->aa->Prop}
theorem oi{t n e:Nat}{parts:Array (Nat × Operand)}{i b:TI}{l:List AV}(c:o.op=.build t parts)(ht:L.tt t=some i)(g:i.kind=.array n e)(h:L.tt e=some b)(hz:(iP i.zero).cells.all AV.flat=true)
 (m:jv (λj=>some (j*b.size,b.size)) (iP i.zero).cells (parts.toList.map λp=>(p.1,au env p.2))=some l) (q:K (.agg l) σ):aJ P o env σ K Kp:=
 aJ.val (s:=λρ=>Instr.build t (parts.map λ(i,x)=>(i,ρ x))) (λρ=>by simp[execOp,c]) λk O ρ r u=>by
  obtain⟨v,f⟩:=oI (k:=k) (ρ:=ρ) (env:=env) (parts:=parts) λp f=>r p.2 (by simp[c,Op.operands];grind)
  obtain⟨y,w,a⟩:=qx _ _ i.zero.cells _ l v f (u' hz) m;unfold Instr.build;refine ag (cD L ht (ag (aE L ht λd _ hd=>?_)));rw[mR hd g];dsimp only;refine ag (bf L h ?_);rw[w];exact ah (.here ⟨.refl k,.agg l,σ,.agg _ _ a.1 a.2.1,u,q⟩)
theorem kW{op:BinOp}{t d:Nat}{x y:Operand}{vx vy r:Value}(c:o.op=.binOp op t x y d)(e:∀k v,V k v (au env x)->v=vx)(f:∀k v,V k v (au env y)->v=vy)(g:dW P (do eqGuard op t x y vx vy;binOp op t vx vy)=some r)(h:K (.lit r) σ):aJ P o env σ K Kp:=
 aJ.val (s:=λa=>do eqGuard op t x y (a x) (a y);binOp op t (a x) (a y)) (λa=>by simp[execOp,c]) λk O a b i=>by
  have j:=e k _ (b x (by simp[c,Op.operands]));have l:=f k _ (b y (by simp[c,Op.operands]));simp only[j,l];exact nt _ g (.here ⟨.refl k,_,σ,.lit _,i,h⟩)
theorem V.Nm{k:ai}{v:Value}{t:Nat}(h:V k v (.kD t (.agg []))):v=.iface t (.agg #[]):=by
 obtain⟨u,rfl,a⟩:=Om.1 h;cases a with
 |agg c l b _=>simp_all
end
def Pr(b:Nat)(l:List AV)(hole:List Nat)(a a':AV):Prop:=a=a'\/∃off,a=.ref b off/\a'=.kp b l hole off
theorem Pr.sound{k:ai}{b:Nat}{l:List AV}{hole:List Nat}{a a':AV}{v:Value}(h:Pr b l hole a a')(d:∀off,V k (.pointer (some ⟨b,off,none⟩)) (.kp b l hole off))(c:V k v a):V k v a':=by
 rcases h with rfl|⟨off,rfl,rfl⟩
 . exact c
 . cases c;exact d off
section
variable{P:Program}{m:Mo}{fid n:Nat}{ro:Option Nat}{hold:List Entry}{todo:List Item}{K:Exit->St->Prop}{env env':Env}{σ:aa}{D:List kF}{rc:Rec}
theorem Rel.Ps{k:ai}{O:aj}{b:Nat}{l:List AV}{hole:List Nat}{bw:Nat}{l1 l2:List AV}(g:Rel k O σ)(o:∀off,V k (.pointer (some ⟨b,off,none⟩)) (.kp b l hole off))(h:σ bw=some (.cells l1))(u:l1.length=l2.length)(p:∀(i:Nat) a a',l1[i]?=some a->l2[i]?=some a'->Pr b l hole a a'):Rel k O (σ.set bw (.cells l2)):=⟨λc y d f=>by
 by_cases e:c=bw
 . subst e
   simp only[aa.set,if_true,Option.some.injEq]at d;subst d;obtain⟨z,hz,j⟩:=g.1 c _ h (by simp);cases j with
   | cells q e _ w r s=>
     refine⟨_,hz,.cells q e l2 (by omega) (λi v a' t m=>?_) s⟩;have n:i<l1.length:=by grind
     exact(p i l1[i] a' (by simp[n]) m).sound o (r i v _ t (by simp[n]))
 . exact g.1 c y (by simpa[aa.set,e]using d) f,λc y d f=>by
 by_cases e:c=bw
 . subst e
   simp only[aa.set,if_true,Option.some.injEq]at d;subst d;cases f
 . exact g.2 c y (by simpa[aa.set,e]using d) f⟩
theorem Go.part(b:Nat)(l:List AV)(hole:List Nat)(f:Nat->Option Value){bw:Nat}{l1 l2:List AV}(hb:σ b=some (.cells l))(q:∀i v,f i=some v->l[i]?=some (.lit v))(r:∀i,f i=none↔i∉hole)(d:∀t,Pr b l hole (env t) (env' t))(j:bw≠b)(o:σ bw=some (.cells l1))(s:l1.length=l2.length)(u:∀(i:Nat) a a',l1[i]?=some a->l2[i]?=some a'->Pr b l hole a a')
 (h:Go P m fid n ro todo ⟨env',(σ.set b (.part f)).set bw (.cells l2),D,rc⟩ K):Go P m fid n ro todo ⟨env,σ,D,rc⟩ K:=by
 intro Q k O tmps defs kind cs w e x;refine T.NX e.rel hb q r rfl λy z c p g=>?_
 exact h Q y z tmps defs kind cs w ⟨e.size,λt ht=>(d t).sound p ((e.env t ht).mono c),g.Ps p (by rw[aa.ak _ _ j];exact o) s u,e.ds.mono c,e.rc.mono c⟩ (x.mono c)
theorem af.part(b:Nat)(l:List AV)(hole:List Nat)(f:Nat->Option Value){bw:Nat}{l1 l2:List AV}(hb:σ b=some (.cells l))(j:∀i v,f i=some v->l[i]?=some (.lit v))(k:∀i,f i=none↔i∉hole)(c:∀t,Pr b l hole (env t) (env' t))(d:bw≠b)(e:σ bw=some (.cells l1))(o:l1.length=l2.length)(p:∀(i:Nat) a a',l1[i]?=some a->l2[i]?=some a'->Pr b l hole a a')
 (h:af P m fid n ro hold todo ⟨env',(σ.set b (.part f)).set bw (.cells l2),D,rc⟩ K):af P m fid n ro hold todo ⟨env,σ,D,rc⟩ K:=λg=>Go.part b l hole f hb j k c d e o p (h g)
end
theorem af.draw{P:Program}(L:hQ P){m:Mo}{fid n id:Nat}{ro:Option Nat}{hold:List Entry}{ops:Array Oper}{k:List Item}{env:Env}{σ:aa}{D:List kF}{rc:Rec}{K:Exit->St->Prop}(p:iD)(c:(hold.find? λe=>e.id==id)=some ⟨id,p⟩)
 (h:aI P m ops n (ON ⟨env,σ,D,rc⟩ K) p env σ (OM P m fid n ro hold k ⟨env,σ,D,rc⟩ K)):af P m fid n ro hold (.code (.region id ops true)::k) ⟨env,σ,D,rc⟩ K:=λa=>by
 have b:qE ops ⟨id,p⟩=true:=by simp only[iW,List.all_cons,jX,c,Bool.and_eq_true]at a;exact a.1
 simp only[qE,Bool.and_eq_true]at b;refine Go.draw L.mixed b.1 λl d f g=>?_
 exact cE.mono (λenv σ h=>h (by simp only[iW,List.all_cons,Bool.and_eq_true]at a ⊢;exact a.2)) _ _ _ (h _ _ _ b.2 l d f g (λ_ _ _ h=>by cases h))
theorem aI.one{P:Program}{m:Mo}{ops:Array Oper}{n:Nat}{Kp:AV->aa->Prop}{R:Env->aa->Prop}{i:Nat}{o:Oper}{p:iD}{env:Env}{σ:aa}(d:ops[i]?=some o)(b:Oper.ok n o=true)(e:o.guard=none)(f:∀c,o.op≠.defer c)(h:aJ P o env σ (λa σ'=>aI P m ops n Kp p (aX env o.dst a) σ' R) Kp):aI P m ops n Kp (.one i p) env σ R:=gy.one ⟨o,d,b,.inl ⟨bs e,.inr ⟨f,h⟩⟩⟩
theorem aI.take{P:Program}(L:hQ P){m:Mo}(mu:List Nat){ops:Array Oper}{n:Nat}{Kp:AV->aa->Prop}{R:Env->aa->Prop}{S:List Nat}{lt:Bool}{p:iD}{env:Env}{σ:aa}(h:zl L mu ops n lt σ (λa=>aI P m ops n Kp p a σ R) .mk S env):aI P m ops n Kp (.take S lt p) env σ R:=gy.take L mu (mr L h)
theorem af.Sd{P:Program}{fid n:Nat}{ro:Option Nat}{hold:List Entry}{s:St}{kk:List Item}{K:Exit->St->Prop}{A:bt}{Fin:ai->aj->Goroutine->Prop}{c:Code}(I:Nat->St->Prop)(d:I 0 s)
 (e:∀r k s,k+(r+1)=A.n->I k s->(∀s',I (k+1) s'->af P (nK P A Fin r) fid n ro hold (.inLoop c::kk) s' K)->af P (nK P A Fin (r+1)) fid n ro hold (.code c::.inLoop c::kk) s K)
 (j:∀s,I A.n s->af P (nK P A Fin 0) fid n ro hold (.code c::.inLoop c::kk) s K):af P (nK P A Fin A.n) fid n ro hold (.code (.loop c)::kk) s K:=λa=>by
 have f:jX hold c=true:=by simp only[iW,List.all_cons,jX,Bool.and_eq_true]at a;exact a.1
 have key:∀r k s,k+r=A.n->I k s->af P (nK P A Fin r) fid n ro hold (.code c::.inLoop c::kk) s K:=λr=>by
  induction r with
  |zero=>simp_all
  |succ r g=>exact λk s h i=>e r k s h i λs' b=>af.again f (g (k+1) s' (by omega) b)
 exact af.sF (key A.n 0 s (by omega) d) a
theorem V.WY{k:ai}{v:Value}{a a':AV}(e:a.cells=[a])(m:a'.cells=[a'])(h:∀u,V k u a->V k u a')(f:V k v (.cp a 0)):V k v (.cp a' 0):=by
 cases f with
 | cp b base off N E v c g i d l=>
   rw[e]at i d l;refine .cp b base 0 N E a' c g (by simp_all) (λj n=>d j (by simp_all)) (λj x ha=>?_)
   grind
theorem af.Se{P:Program}{fid g:Nat}{ro:Option Nat}{s:St}{K:Exit->St->Prop}{m:Mo}{todo:List Item}{hold:List Entry}(d:m.solo=true){n fb fo gb mb:Nat}{GI:fy->Prop}(val:Nat->Value){nm:xy}{ng:Gd}(C:fG P ng)(X:gF P ng)(r:eY P nm)(t:eZ P nm)(F:lq P nm)(u:n<=900)(v:fb≠gb)(w:fb≠mb)(x:gb≠mb){a:fy}{e:Nat->Option Value}
 (y:s.σ gb=some (.cells [.lit (.int .u64 0),.lit (.int .u32 0)])) (z:s.σ fb=some (.part e)) (i:e fo=some (.int .i32 0)) (k:e (fo+1)=some (.int .u32 0)) (l:∀j,j<n->e (fo+2+j)≠none) (B:s.σ mb=some a) (o:a.gone=false) (p:GI a) (q:s.rc=.no)
 (h:∀(A:bt),(A.n=n/\A.fb=fb/\A.fo=fo/\A.gb=gb/\A.mb=mb/\A.nm=nm/\A.ng=ng/\A.dir=true/\A.GI=GI/\A.val=val)->∀(Fin:ai->aj->Goroutine->Prop) (kd:CallKind) (c:List Frame) (f:ai),pN P m fid g ro K kd c f Fin ->
   af P (nK P A Fin A.n) fid g ro hold todo {s with σ:=((s.σ.del gb).del mb).set fb .fC,rc:=.told kd c f} (λ_ _=>False)):af P m fid g ro hold todo s K:=
 af.Sb d ⟨n,true,fb+gb+mb+1,fb,fo,gb,mb,GI,λ_=>.bJ,val,nm,ng,u,by omega,by omega,by omega,v,w,x⟩ rfl C X r t F y z i k l B o p q λb hb Fin kd c f D=>h _ ⟨rfl,rfl,rfl,rfl,rfl,rfl,rfl,fI.vU _ _ _,rfl,rfl⟩ Fin kd c f D
def wv(ft:Nat):Option TypeDesc->Bool
 |some (.struct fs)=>(match fs.toList with|[f,g]=>(f.name !=  "_" && g.name !=  "_") && (f.type==ft && g.type==ft) && (f.offset==0 && g.offset==1)|_=>false)
 |_=>false
theorem AY.of{P:Program}{mt b c ft:Nat}{kd:IntKind}(e:P.underlying mt=some (.map b c))(a:wv ft (P.underlying b)=true)(h:P.underlying ft=some (.int kd))(i:P.stoodInHeld b=false):AY P mt b c ft kd:=by
 refine⟨e,?_,h,i⟩;generalize P.underlying b=d at a;unfold wv at a;split at a
 . next fs=>
   split at a
   . next f g j=>
     simp only[Bool.and_eq_true,bne_iff_ne,beq_iff_eq]at a;refine⟨f,g,?_,a.1.1,a.1.2,a.2⟩;congr 2
     grind
   . cases a
 . cases a
end Go.bu
namespace Go.bu
open Go.Conc Go.Extern
section
variable{P:Program}{σ:aa}{K:AV->aa->Prop}{b o:Nat}{a:AV}{l:List AV}{n n':Int}
theorem DK(ha:iM b o a)(f:σ b=some (.cells l))(i:l[o]?=some (.lit (.int .u32 n)))(j:K (.lit (.int .u32 n)) σ):tF P (Atomic.loadT (.int .u32)) [a] σ K:=λk O t m h=>by
 obtain⟨v,rfl,g⟩:=m.one;obtain rfl:=ha _ _ g;obtain⟨c,e,p,w,q,x⟩:=h.uH f;have d:o<c.size:=by grind
 have r:c[o]?=some (.int .u32 n):=by rw[Array.getElem?_eq_getElem d];have:=q o c[o] _ (Array.getElem?_eq_getElem d) i;generalize c[o]=u at this;cases this;rfl
 show dk P (Atomic.loadT (.int .u32) #[.pointer (some ⟨b,o,none⟩)]) k O _ _;unfold Atomic.loadT;refine ag (ah ?_);unfold Atomic.read;refine ag (s:=load ⟨b,o,none⟩ .atomic) ⟨rfl,_,⟨rfl,.inr ⟨c,e,_,p,r⟩⟩,ah ?_⟩;simp only[if_true];exact ah λ_=>⟨_,σ,.lit _,h,j⟩
theorem B0(ha:iM b o a)(f:σ b=some (.cells l))(j:o<l.length)(m:K (.bp []) (σ.set b (.cells (l.set o (.lit (.int .u32 n)))))):tF P Atomic.storeT [a,.lit (.int .u32 n)] σ K:=λk O p d g=>by
 match p,d with
 | [v, x],d=>
   obtain rfl:=ha _ _ (d.2 0 v a rfl rfl);obtain rfl:=wu.1 (d.2 1 x _ rfl rfl);obtain⟨c,e,q,r,t,u⟩:=g.uH f;show dk P (Atomic.storeT #[.pointer (some ⟨b,o,none⟩),.int .u32 n]) k O _ _;unfold Atomic.storeT;refine ag (ah ?_);refine ag (s:=store ⟨b,o,none⟩ (.int .u32 n) .atomic) ⟨rfl,rfl,rfl,.inl ⟨c,e,q,by simp_all,ah (ah λ_=>⟨_,_,.bp _ _ rfl (λi v a h=>by simp at h),g.set (.cells _ _ _ (by simp_all) (λi v a d ha=>?_) (λi v d=>?_)),m⟩)⟩⟩
   . by_cases e:i=o
     . subst e
       rw[Array.getElem?_setIfInBounds_self_of_lt (by simp_all)]at d;rw[List.getElem?_set_self j]at ha;cases d;cases ha;exact .lit _
     grind
   . by_cases e:i=o
     . subst e
       rw[Array.getElem?_setIfInBounds_self_of_lt (by simp_all)]at d;cases d;rfl
     grind
end
end Go.bu
