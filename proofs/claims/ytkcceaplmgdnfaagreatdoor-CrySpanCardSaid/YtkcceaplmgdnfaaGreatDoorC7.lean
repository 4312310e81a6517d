import Derived.Conc.ClockLaws
import Derived.Conc.MarkLaws
import Derived.Conc.AtomicLaws2
import Derived.Conc.SmallLaws
import Derived.Laws.LoneSync
import Derived.Test.YtkcceaplmgdnfaaGreatDoorC6
set_option linter.all false
namespace Go.cz
open Go.Conc
abbrev abS:=List (Nat × SV)
def aZ(s:oX):Option (FuncId × List SV):=
 match s.mode,s.todo with
 | .run, .inRegion ops (i::_)::_=>match ops[i]? with
   | some o=>match zk ops s.env o with
     | some true=>match o.op with
       | .call c=>match c.callee with
         |.value (.func f)=>some (f,c.args.toList.map (sv s.env))
         |_=>none
       |_=>none
     |_=>none
   |none=>none
 |_,_=>none
def qG(s:oX):Option (TypeId × SV):=
 match s.mode,s.todo with
 | .run,.inRegion ops (i::_)::_=>match ops[i]? with
   | some o=>match zk ops s.env o with
     | some true=>match o.op with
       |.load t x=>some (t,sv s.env x)
       |_=>none
     |_=>none
   |none=>none
 |_,_=>none
structure Ext(P:acw)(f:FuncId)  e :Prop where
 ex:∃fn,P.funcs[f]?=some fn/\(fn.name==  "runtime.NumGoroutine")=false/\fn.body.isNone=true/\Extern.findNext fn=none/\Extern.find fn=some e
def dh {y s fr f svs} (j:FR y s fr) (h:aZ s=some (f,svs)) :
 ∃ ops i rest kk o as a,ops[i]? = some o∧Region.wanted o (yielded ops fr.tmps)=true∧o.op = .call { callee:=.value (.func f),args:=as,argTypes:=a }∧svs=as.toList.map (sv s.env) ∧
   fr=(fr.at ⟨fr.tmps,fr.defers⟩ (.inRegion ops (i :: rest) :: kk))∧∀ v,fr.at ((⟨fr.tmps,fr.defers⟩:Act).put o.dst v) (.inRegion ops rest :: kk)=fr.finish v:=by
 have d:=j;obtain⟨fn,tmps,todo,defs,mode,kind,ro⟩:=fr;obtain⟨n,e,p,b,q,k,r,t⟩:=j;simp only at n e p b q k r t;subst k;unfold aZ at h;split at h
 . rename_i ops i rest kk u w
   rw[u] at b;rw[w] at e;have b:mode = .run:=b;subst b;subst e;split at h
   . rename_i o l
     split at h
     . rename_i x
       split at h
       . rename_i c z
         split at h
         . rename_i g m
           simp only[kn,zG] at h;obtain⟨rfl,rfl⟩:=h;obtain⟨callee,args,a⟩:=c;simp only at m;subst m;refine⟨ops,i,rest,kk,o,args,a,l,pw d x,z,rfl,rfl,fun v=>?_⟩
           simp only[Frame.finish,l,Option.bind_some,Act.put,Frame.at]
           grind
         . cases h
       . cases h
     . cases h
   . cases h
 . cases h
section
variable{P:acw}{main:Bool}{y:Sy}{s:oX}{fr:Frame}{f:FuncId}{svs:List SV}{cs:acf}{w:World}
def Cm{fr:Frame}  x :(⟨fr.tmps,fr.defers⟩:Act).eval x=fr.eval x:=by cases x<;>rfl
def AW {as:Array acx} (b:FR y s fr) {svs} (h:svs=as.toList.map (sv s.env)):∀ (j:Nat)  v ,svs[j]? = some v->∃ x,(as.map (⟨fr.tmps,fr.defers⟩:Act).eval)[j]? = some x∧SR y v x:=fun j v a=>by
 subst h;rw[ZY,abJ] at a;obtain⟨x,c,rfl⟩:=ZJ.1 a;exact⟨fr.eval x,by simp[c,Cm],b.sv x⟩
def eL {m} (d:∀ g,m ≠ .extern g) (c:FR y s fr) (h:aZ s=some (f,svs)) (e:s.kind ≠ .early) (j:Ext P f (fun _=>do mark m;pure Extern.Race.none_)):stepG P main (G fr cs) w = .go (G (fr.finish (.tuple #[])) cs) w #[⟨.mark m,false,true⟩]:=by
 obtain⟨ops,i,rest,kk,o,as,k,l,n,p,x,z,A⟩:=dh c h;obtain⟨fn,q,r,t,u,v⟩:=j.ex;have:=stepG_mark0 (P:=P) (main:=main) (b:=fr) (a:=⟨fr.tmps,fr.defers⟩) (kk:=kk) (cs:=cs) (w:=w) (rest:=rest) m d l n (by rw[c.kind];exact e) p q r t u v
 grind
def fA {mk} (j:∀ ad g,mk ad ≠ .extern g) {ad} (d:FR y s fr) (h:aZ s=some (f,[.lit (.pointer (some ad))])) (k:s.kind ≠ .early) (l:Ext P f (Extern.Race.marked mk)):stepG P main (G fr cs) w = .go (G (fr.finish (.tuple #[])) cs) w #[⟨.mark (mk ad),false,true⟩]:=by
 obtain⟨ops,i,rest,kk,o,as,m,n,p,q,r,B,C⟩:=dh d h;obtain⟨fn,t,u,v,z,A⟩:=l.ex;obtain⟨x,e,c⟩:=AW d r 0 _ rfl;have c:x = .pointer (some ad):=c;rw[c] at e;have:=stepG_markAt (P:=P) (main:=main) (b:=fr) (a:=⟨fr.tmps,fr.defers⟩) (kk:=kk) (cs:=cs) (w:=w) (rest:=rest) mk j n p (by rw[d.kind];exact k) q t u v z A e
 grind
def Cn {as a b c} (h:[a,b,c]=as.toList.map (sv s.env)):∃ x z u,as=#[x,z,u]∧sv s.env x=a∧sv s.env z=b∧sv s.env u=c:=by
 obtain⟨l⟩:=as
 match l,h with
 | [x,z,u],h=>grind
def Kf {as a b} (h:[a,b]=as.toList.map (sv s.env)):∃ x z,as=#[x,z]∧sv s.env x=a∧sv s.env z=b:=by
 obtain⟨l⟩:=as
 match l,h with
 | [x,z],h=>grind
def Kg {as a} (h:[a]=as.toList.map (sv s.env)):∃ x,as=#[x]∧sv s.env x=a:=by
 obtain⟨l⟩:=as
 match l,h with
 | [x],h=>grind
def iF(b:FR y s fr){x a}(h:sv s.env x=a):SR y a ((⟨fr.tmps,fr.defers⟩:Act).eval x):=by subst h;rw[Cm];exact b.sv x
def gO {k ad a b v n} (c:FR y s fr) (h:aZ s=some (f,[.lit (.pointer (some ad)),a,b])) (e:s.kind ≠ .early) (g:Ext P f (Extern.Atomic.casT (.int k)))
 (j:∀ x,SR y a x->x = .int k v) (hb:∀ x,SR y b x->x = .int k n) (l:w.cell? ad=some (.int k v)) (m:w.frozen? ad=false) :
 stepG P main (G fr cs) w = .go (G (fr.finish (.bool true)) cs) (w.setCell ad (.int k n)) #[⟨.cell ad,false,true⟩,⟨.cell ad,true,true⟩]:=by
 obtain⟨ops,i,rest,kk,o,as,p,q,r,t,A,J,K⟩:=dh c h;obtain⟨fn,B,C,D,E,F⟩:=g.ex;obtain⟨x,z,u,rfl,H,d,I⟩:=Cn A;have:=stepG_cas_hit (P:=P) (main:=main) (b:=fr) (a:=⟨fr.tmps,fr.defers⟩) (kk:=kk) (cs:=cs) (w:=w) (rest:=rest) q r (by rw[c.kind];exact e) t B C D E k F (iF c H) (j _ (iF c d)) (hb _ (iF c I)) l m
 grind
def iv {k ad a b v old n} (c:FR y s fr) (h:aZ s=some (f,[.lit (.pointer (some ad)),a,b])) (g:s.kind ≠ .early) (j:Ext P f (Extern.Atomic.casT (.int k)))
 (l:∀ x,SR y a x->x = .int k old) (hb:∀ x,SR y b x->x = .int k n) (m:w.cell? ad=some (.int k v)) (p:w.frozen? ad=false) (d : ¬ v=old) :
 stepG P main (G fr cs) w = .go (G (fr.finish (.bool false)) cs) w #[⟨.cell ad,false,true⟩]:=by
 obtain⟨ops,i,rest,kk,o,as,q,r,t,A,B,K,L⟩:=dh c h;obtain⟨fn,C,D,E,F,H⟩:=j.ex;obtain⟨x,z,u,rfl,I,e,J⟩:=Cn B;have:=stepG_cas_miss (P:=P) (main:=main) (b:=fr) (a:=⟨fr.tmps,fr.defers⟩) (kk:=kk) (cs:=cs) (w:=w) (rest:=rest) r t (by rw[c.kind];exact g) A C D E F k H (iF c I) (l _ (iF c e)) (hb _ (iF c J)) m p d
 grind
def px {k ad a v d} (c:FR y s fr) (h:aZ s=some (f,[.lit (.pointer (some ad)),a])) (g:s.kind ≠ .early) (j:Ext P f (Extern.Atomic.update (Op.intArith .add) k true))
 (l:∀ x,SR y a x->x = .int k d) (m:w.cell? ad=some (.int k v)) (n:w.frozen? ad=false) :
 stepG P main (G fr cs) w = .go (G (fr.finish (.int k (k.wrap (v+d)))) cs) (w.setCell ad (.int k (k.wrap (v+d)))) #[⟨.cell ad,false,true⟩,⟨.cell ad,true,true⟩]:=by
 obtain⟨ops,i,rest,kk,o,as,p,q,r,t,u,H,I⟩:=dh c h;obtain⟨fn,A,B,C,D,E⟩:=j.ex;obtain⟨x,z,rfl,F,e⟩:=Kf u;have:=stepG_add_atomic (P:=P) (main:=main) (b:=fr) (a:=⟨fr.tmps,fr.defers⟩) (kk:=kk) (cs:=cs) (w:=w) (rest:=rest) q r (by rw[c.kind];exact g) t A B C D k E (iF c F) (l _ (iF c e)) m n
 grind
def sB {ad l n} (d:FR y s fr) (h:aZ s=some (f,.lit (.pointer (some ad)) :: l)) (g:s.kind ≠ .early) (j:Ext P f Extern.Sync.semacquire) (k:w.cell? ad=some (.int .u32 n)) (m:n≠0) (p:w.frozen? ad=false) :
 stepG P main (G fr cs) w = .go (G (fr.finish (.tuple #[])) cs) (w.setCell ad (.int .u32 (n-1))) (semEvents ad):=by
 obtain⟨ops,i,rest,kk,o,as,q,r,t,u,v,E,F⟩:=dh d h;obtain⟨fn,z,A,B,C,D⟩:=j.ex;obtain⟨x,e,c⟩:=AW d v 0 _ rfl;have c:x = .pointer (some ad):=c;rw[c] at e;have:=stepG_semacquire (P:=P) (main:=main) (b:=fr) (a:=⟨fr.tmps,fr.defers⟩) (kk:=kk) (cs:=cs) (w:=w) (rest:=rest) r t (by rw[d.kind];exact g) u z A B C D e k m p
 grind
def zt {ad l} (d:FR y s fr) (h:aZ s=some (f,.lit (.pointer (some ad)) :: l)) (g:Ext P f Extern.Sync.semacquire) (j:w.cell? ad=some (.int .u32 0)) :
 stepG P main (G fr cs) w = .go { G fr cs with status:=.blocked } w #[]:=by
 obtain⟨ops,i,rest,kk,o,as,k,m,n,p,q,A,B⟩:=dh d h;obtain⟨fn,r,t,u,v,z⟩:=g.ex;obtain⟨x,e,c⟩:=AW d q 0 _ rfl;have c:x = .pointer (some ad):=c;rw[c] at e;have:=stepG_semacquire_wait (P:=P) (main:=main) (b:=fr) (a:=⟨fr.tmps,fr.defers⟩) (kk:=kk) (cs:=cs) (w:=w) (rest:=rest) m n p r t u v z e j
 grind
def nZ {ad l n} (d:FR y s fr) (h:aZ s=some (f,.lit (.pointer (some ad)) :: l)) (g:s.kind ≠ .early) (j:Ext P f Extern.Sync.semrelease) (k:w.cell? ad=some (.int .u32 n)) (m:w.frozen? ad=false) :
 stepG P main (G fr cs) w = .go (G (fr.finish (.tuple #[])) cs) (w.setCell ad (.int .u32 (IntKind.u32.wrap (n+1)))) (semEvents ad):=by
 obtain⟨ops,i,rest,kk,o,as,p,q,r,t,u,D,E⟩:=dh d h;obtain⟨fn,v,z,A,B,C⟩:=j.ex;obtain⟨x,e,c⟩:=AW d u 0 _ rfl;have c:x = .pointer (some ad):=c;rw[c] at e;have:=stepG_semrelease (P:=P) (main:=main) (b:=fr) (a:=⟨fr.tmps,fr.defers⟩) (kk:=kk) (cs:=cs) (w:=w) (rest:=rest) q r (by rw[d.kind];exact g) t v z A B C e k m
 grind
def zu (d:FR y s fr) (h:aZ s=some (f,svs)) (e:s.kind ≠ .early) (g:Ext P f Extern.OsHooks.nano) (j:∃ fn,P.funcs[f]? = some fn∧fn.norace=true) :
 stepG P main (G fr cs) w = .go (G (fr.finish (.int .i64 ((w.os.mono+w.tick:Nat):Int))) cs) w.later #[]:=by
 obtain⟨ops,i,rest,kk,o,as,k,l,m,n,x,z,A⟩:=dh d h;obtain⟨fn,p,q,r,t,u⟩:=g.ex;obtain⟨c,B,v⟩:=j;obtain rfl:c=fn:=by grind
 have:=stepG_nanotime (P:=P) (main:=main) (b:=fr) (a:=⟨fr.tmps,fr.defers⟩) (kk:=kk) (cs:=cs) (w:=w) (rest:=rest) l m (by rw[d.kind];exact e) n p q r t u v
 grind
def HG {n} (d:FR y s fr) (h:aZ s=some (f,[.lit (.int .i64 n)])) (g:s.kind ≠ .early) (v:Ext P f Extern.Sync.canSpin) :
 ∃ b w',stepG P main (G fr cs) w = .go (G (fr.finish (.bool b)) cs) w' #[]∧(b=true->n<4)∧(w'=w∨w'=w.asked):=by
 obtain⟨ops,i,rest,kk,o,as,z,j,l,m,e,B,C⟩:=dh d h;obtain⟨fn,p,q,r,t,u⟩:=v.ex;obtain⟨x,rfl,A⟩:=Kg e;have c:(⟨fr.tmps,fr.defers⟩:Act).eval x = .int .i64 n:=iF d A
 by_cases e:n<4
 . have:=stepG_canSpin_ask (P:=P) (main:=main) (b:=fr) (a:=⟨fr.tmps,fr.defers⟩) (kk:=kk) (cs:=cs) (w:=w) (rest:=rest) j l (by rw[d.kind];exact g) m p q r t u (n:=n) (k:=.i64) (by simp[c]) e
   grind
 . have:=stepG_canSpin_no (P:=P) (main:=main) (b:=fr) (a:=⟨fr.tmps,fr.defers⟩) (kk:=kk) (cs:=cs) (w:=w) (rest:=rest) j l (by rw[d.kind];exact g) m p q r t u (n:=n) (k:=.i64) (by simp[c]) (by omega)
   grind
def tO {v} (c:FR y s fr) (h:aZ s=some (f,svs)) (d:s.kind ≠ .early) (e:Ext P f (fun _=>pure v)):stepG P main (G fr cs) w = .go (G (fr.finish v) cs) w #[]:=by
 obtain⟨ops,i,rest,kk,o,as,g,j,k,l,t,u,x⟩:=dh c h;obtain⟨fn,m,n,p,q,r⟩:=e.ex;have:=stepG_entry (P:=P) (main:=main) (b:=fr) (a:=⟨fr.tmps,fr.defers⟩) (kk:=kk) (cs:=cs) (w:=w) (rest:=rest) (v:=v) (w':=w) (evs:=#[]) j k (by rw[c.kind];exact d) l m n p q r (by simp) (by simp) (by simp)
 grind
def Kh{α β P}{f:α->Sem β}  s :∀{a},mT P s=some a->∀w es,(s.bind f).runT P w es=(f a).runT P w es:=by
 induction s with
 |pure b=>intro a h w es;simp only[mT,kn]at h;subst h;rfl
 |program g c=>intro a h w es;simp only[mT]at h;exact c P h w es
 |_=>intro a h;simp[mT]at h
def qo{t:Nat}{ad v}(q:FR y s fr)(h:qG s=some (t,.lit (.pointer (some ad))))(C:mT P (isAgg t)=some false)(D:∃fn,P.funcs[s.fn]?=some fn/\fn.norace=true)(E:w.cell? ad=some v):
 stepG P main (G fr cs) w=.go (G (fr.finish v) cs) w #[]:=by
 have f:=q;obtain⟨fn,tmps,todo,defs,mode,kind,ro⟩:=fr;obtain⟨r,i,F,g,H,u,I,J⟩:=q;simp only at r i F g H u I J;subst u;unfold qG at h;split at h
 . rename_i ops z rest A K j
   rw[K]at g;rw[j]at i;have g:mode=.run:=g;subst g;subst i;split at h
   . rename_i o L
     split at h
     . rename_i M
       split at h
       . rename_i a x k
         simp only[kn,zG]at h;obtain⟨rfl,N⟩:=h;have d:=f.sv x;rw[N]at d;have d:Frame.eval ⟨fn,tmps,.inRegion ops (z::rest)::A,defs,.run,kind,none⟩ x=.pointer (some ad):=d;obtain⟨O,l,p⟩:=D;subst r;rw[nB L (pw f M)];have hex:execOp (Frame.eval ⟨s.fn,tmps,.inRegion ops (z::rest)::A,defs,.run,kind,none⟩) o=Sem.bind (Instr.loadAt a (.pointer (some ad))) (λv=>pure (Next.value v)):=by simp only[execOp,k,d];rfl
         have e:(Sem.bind (Instr.loadAt a (.pointer (some ad))) (λv=>(pure (Next.value v):Sem Next))).runT P w #[]=(.ok (.value v) w,#[⟨.cell ad,false,false⟩]):=by
          have Q:Instr.loadAt a (.pointer (some ad))=Sem.bind (isAgg a) (λb=>if b=true then Sem.bind (sizeOf a) (λn=>Sem.bind (loadCells ad n) (λc=>pure (.agg c)))else load ad):=rfl
          rw[Q]
          have R:Sem.bind (Sem.bind (isAgg a) (λb=>if b=true then Sem.bind (sizeOf a) (λn=>Sem.bind (loadCells ad n) (λc=>pure (.agg c)))else load ad)) (λv=>(pure (Next.value v):Sem Next))=
           Sem.bind (isAgg a) (λb=>Sem.bind (if b=true then Sem.bind (sizeOf a) (λn=>Sem.bind (loadCells ad n) (λc=>pure (.agg c)))else load ad) (λv=>(pure (Next.value v):Sem Next))):=bind_assoc (m:=Sem) _ _ _
          rw[R,Kh _ C];show(Sem.bind (load ad) (λv=>(pure (Next.value v):Sem Next))).runT P w #[]=_
          unfold load;show Sem.runT P (Sem.load .plain ad λv=>pure (Next.value v)) w #[]=_
          simp only[Sem.runT,E];rfl
         rw[hex]
         have S:seen P s.fn #[⟨.cell ad,false,false⟩]=#[]:=by rw[seen_def];simp[l,p,seenStep]
         simp only[stepG.apply,ZD,e,GStep.after]
         by_cases B:(kind==CallKind.early)=true
         . simp[B,gu,G]
         . simp[B,S,G]
       . cases h
     . cases h
   . cases h
 . cases h
def j9(s:oX):Option (TypeId × TypeId × SV):=
 match s.mode,s.todo with
 | .run,.inRegion ops (i::_)::_=>match ops[i]? with
   | some o=>match zk ops s.env o with
     | some true=>match o.op with
       |.convert a b x=>some (a,b,sv s.env x)
       |_=>none
     |_=>none
   |none=>none
 |_,_=>none
def tP{a b t ad}(l:FR y s fr)(h:j9 s=some (a,b,.lit (.pointer (some ad))))(m:P.underlying a=some (.pointer t))(n:P.underlying b=some .unsafePointer)(p:(P.info? t).map (λi=>decide (i.size=0))=some false)(f:∃v,w.cell? ad=some v):
 stepG P main (G fr cs) w=.go (G (fr.finish (.pointer (some ad))) cs) w #[]:=by
 obtain⟨v,f⟩:=f;have d:=l;obtain⟨fn,tmps,todo,defs,mode,kind,ro⟩:=fr;obtain⟨z,g,A,e,B,q,C,D⟩:=l;simp only at z g A e B q C D;subst q;unfold j9 at h;split at h
 . rename_i ops r rest u E j
   rw[E]at e;rw[j]at g;have e:mode=.run:=e;subst e;subst g;split at h
   . rename_i o F
     split at h
     . rename_i H
       split at h
       . rename_i I J x k
         simp only[kn,zG]at h;obtain⟨rfl,rfl,K⟩:=h;have c:=d.sv x;rw[K]at c;have c:Frame.eval ⟨fn,tmps,.inRegion ops (r::rest)::u,defs,.run,kind,none⟩ x=.pointer (some ad):=c;rw[nB F (pw d H)];have hex:execOp (Frame.eval ⟨fn,tmps,.inRegion ops (r::rest)::u,defs,.run,kind,none⟩) o=(do pure (.value (<-convert I J (.pointer (some ad)))):Sem Next):=by simp only[execOp,k,c]
         have L:=run_convert_to_unsafe m n p f;have M:=events_convert_to_unsafe m n p f #[];rw[hex];simp[stepG.apply,L,M,GStep.after,gu,G,Result.andThen]
       . cases h
     . cases h
   . cases h
 . cases h
end
def dE(P:acw)(f:FuncId)(args:List SV)(kind:acr):oX:=
 match P.funcs[f]? with
 |some fn=>⟨f,[.code (fn.body.getD .skip)],args++List.replicate (fn.ntmps-args.length) .cA,[],.run,kind⟩
 |none=>⟨f,[],args,[],.run,kind⟩
abbrev cN:=oX × List oX
def next(P:acw)(a:Fl)(c:cN)(v:SV):cN:=match wR c.1 v with|some s=>sgo P a 400 s c.2|none=>c
def pt(b o:Nat):SV:=.lit (.pointer (some ⟨b,o,none⟩))
def un:SV:=.lit (.tuple #[])
def tt:SV:=.lit (.bool true)
def ff:SV:=.lit (.bool false)
def Gk(live:acn)(env:List SV):List SV:=(List.range env.length).zipWith (λi v=>if live.contains i then v else .cA) env
def keep(live:acn)(s:oX):oX:={s with env:=Gk live s.env}
def Ki(env:List SV):abS->List SV
 |[]=>env
 |(i,v)::l=>Ki (env.set i v) l
def FR.keep{y:Sy}{s:oX}{fr:Frame}(h:FR y s fr)(live:acn):FR y (keep live s) fr:=by
 refine⟨h.fn,h.todo,h.defers,h.mode,h.kind,h.ro,?_,λt=>?_⟩
 . rw[h.size]
   show s.env.length=(Gk live s.env).length;rw[Gk,List.length_zipWith,aaJ,Nat.min_self]
 . have:=h.env t
   simp only[Go.cz.keep,Gk];rw[zH,List.getElem?_zipWith];by_cases a:t<s.env.length
   . rw[abp a,Rp a]
     simp only[aat];split
     . simp_all
     . trivial
   simp_all
def plain:SV->Bool
 |.cA=>true
 |.lit _=>true
 |_=>false
def FR.gy{y y' s fr}(h:FR y s fr)(a:s.env.all plain=true):FR y' s fr:=by
 refine⟨h.fn,h.todo,h.defers,h.mode,h.kind,h.ro,h.size,λt=>?_⟩;have b:=h.env t
 have c:plain (s.env.getD t .cA)=true:=by
  rw[zH];cases q:s.env[t]? with
  |none=>rfl
  |some v=>grind
 generalize s.env.getD t .cA=v at *;cases v<;>simp_all [plain,SR]
structure Co where
 lock:Nat
 unlock:Nat
 Tc:Nat
 vC:Nat
 QJ:Nat
 PL:Nat
 je:Nat
 en:Nat
 acq:Nat
 rel:Nat
 jZ:Nat
 add:Nat
 HH:Nat
 tQ:Nat
 nano:Nat
 EG:Nat
 n8:Nat
 tM:Nat
 tU:Nat
 tI:Nat
def Vp(c:cN):acn:=[c.1.fn,c.1.todo.length,(match c.1.todo with|.inRegion ops (i::_)::_=>i|_=>999),(match aZ c.1 with|some (f,_)=>f|none=>match qG c.1 with|some (t,_)=>1000+t|none=>999)]++c.2.map (·.fn)
def kQ:Fl:=⟨false,false,false,false,false,false⟩
def Kj(P:acw)(f:Fl):Nat->oX->List oX->cN
 |0,fr,st=>(fr,st)
 | n + 1,fr,st=>match ss P f fr st with
   | some (a,b)=>match a.todo with
     |.code _::.inLoop _::_=>(a,b)
     |_=>Kj P f n a b
   |none=>(fr,st)
def Cp(live:acn)(c:cN):cN:=(keep live c.1,c.2.map (keep []))
def aN(P:acw)(a:Fl)(live:acn)(c:cN)(v:SV):Option cN:=(wR c.1 v).map λs=>Cp live (sgo P a 400 s c.2)
def py(P:acw)(a:Fl)(live:acn)(c:cN)(v:SV):Option cN:=(wR c.1 v).map λs=>Cp live (Kj P a 400 s c.2)
def Td(P:acw)(a:Fl)(live:acn)(c:cN):cN:=Cp live (sgo P a 400 c.1 c.2)
def bl(x:Bool):SV:=.lit (.bool x)
def i64(n:Int):SV:=.lit (.int .i64 n)
def i32(n:Int):SV:=.lit (.int .i32 n)
def jk(n:Nat):List SV:=List.replicate n .cA
section
variable(P:acw)(n:Co)(b o:Nat)(kind:acr)
def wf:SV:=.word false false false 0
def wl:SV:=.word true false false 0
def Vq:cN:=Cp [0] (sgo P kQ 400 (dE P n.lock [pt b o] kind) [])
def Kk:cN:=next P kQ (Vq P n b o kind) un
def Te:cN:=next P kQ (Kk P n b o kind) tt
def Tf:cN:=next P kQ (Te P n b o kind) un
def Vr:cN:=next P kQ (Tf P n b o kind) (pt b o)
def EH:cN:=next P kQ (Kk P n b o kind) ff
def YD:cN:=(py P kQ [] (EH P n b o kind) wf).getD (EH P n b o kind)
def Vt:cN:=next P kQ (EH P n b o kind) wl
def Wq:cN:=next P kQ (Vt P n b o kind) tt
def Wr:cN:=next P kQ (Wq P n b o kind) tt
def Vu:cN:=next P kQ (Wr P n b o kind) un
def QK:cN:=next P kQ (Vt P n b o kind) ff
def Vv:cN:=next P kQ (QK P n b o kind) ff
def Tg:cN:=next P kQ (next P kQ (EH P n b o kind) wf) tt
def Ti:cN:=next P kQ (Tg P n b o kind) un
def Vw:cN:=next P kQ (Ti P n b o kind) (pt b o)
def Wt:cN:=next P kQ (QK P n b o kind) tt
def Wu:cN:=next P kQ (Wt P n b o kind) .HF
def Wv:cN:=next P kQ (Wu P n b o kind) un
def Ww:cN:=next P kQ (Wv P n b o kind) .now
def YE:cN:=next P kQ (Ww P n b o kind) (.word false false true 0)
def Tj:List oX:=(Vq P n b o kind).2
def Va:List oX:=(EH P n b o kind).2.map (keep [])
def mq(a:aci)(l:abS):cN:=(⟨n.Tc,a,Ki (jk 13) l,[],.run,.normal⟩,Tj P n b o kind)
def cI(a:aci)(l:abS):cN:=(⟨n.QJ,a,Ki (jk 139) l,[],.run,.normal⟩,Va P n b o kind)
def LD:cN:=Vq P n b o kind
def tR:cN:=mq P n b o kind (Kk P n b o kind).1.todo [(0,pt b o),(5,pt b o)]
def PM:cN:=mq P n b o kind (Te P n b o kind).1.todo [(0,pt b o)]
def Sd:cN:=mq P n b o kind (Tf P n b o kind).1.todo [(8,pt b o)]
def PN:cN:=mq P n b o kind (Vr P n b o kind).1.todo [(9,pt b o)]
def BK:cN:=(⟨n.lock,[],jk 6,[],.ret,kind⟩,[])
def PO(aw sv:Bool)(it:Int):abS:=[(0,pt b o),(2,.HF),(3,bl sv),(4,bl aw),(5,i64 it)]
def Vb:cN:=cI P n b o kind (EH P n b o kind).1.todo [(0,pt b o),(2,i64 0),(3,ff),(4,ff),(5,i64 0),(12,pt b o)]
def QL(aw sv:Bool)(it:Int):cN:=cI P n b o kind (EH P n b o kind).1.todo (PO b o aw sv it++[(12,pt b o)])
def Gl(aw sv:Bool)(it:Int):cN:=cI P n b o kind (Vu P n b o kind).1.todo (PO b o aw sv it++[(47,pt b o)])
def QM(aw sv:Bool)(it:Int):cN:=cI P n b o kind (Vv P n b o kind).1.todo (PO b o aw sv it++[(133,pt b o)])
def HD(L K S aw sv:Bool)(it:Int):cN:=cI P n b o kind (YD P n b o kind).1.todo (PO b o aw sv it++[(6,.word L K S 0)])
def SQ(K aw sv:Bool)(it:Int):cN:=cI P n b o kind (Vt P n b o kind).1.todo (PO b o aw sv it++[(6,.word true K false 0),(17,tt),(18,i64 it)])
def SW(it:Int):cN:=cI P n b o kind (Wq P n b o kind).1.todo (PO b o false false it++[(33,tt),(36,pt b o),(37,.word true false false 0),(39,.word true true false 0)])
def DS(aw sv:Bool)(it:Int):cN:=cI P n b o kind (Wr P n b o kind).1.todo (PO b o aw sv it)
def Od(L K S aw sv:Bool):SV:=.word (L||!S) (if aw then false else K) (S||(sv && L)) (if L||S then 1 else 0)
def Cq(L K S aw sv:Bool)(it:Int):cN:=cI P n b o kind (QK P n b o kind).1.todo (PO b o aw sv it++[(6,.word L K S 0),(77,pt b o),(78,.word L K S 0),(79,Od L K S aw sv)])
def T1(sv:Bool):cN:=cI P n b o kind (Wt P n b o kind).1.todo [(0,pt b o),(3,bl sv)]
def PK(sv:Bool):cN:=cI P n b o kind (Wu P n b o kind).1.todo [(0,pt b o),(2,.HF),(3,bl sv),(91,pt b (o+1))]
def TQ:cN:=cI P n b o kind (Wv P n b o kind).1.todo [(0,pt b o),(2,.HF),(95,ff)]
def UP(sv:Bool):cN:=cI P n b o kind (Ww P n b o kind).1.todo [(0,pt b o),(2,.HF),(3,bl sv),(103,pt b o)]
def AD(d:Int):cN:=cI P n b o kind (YE P n b o kind).1.todo [(0,pt b o),(128,pt b o),(129,i32 d)]
def NO:cN:=cI P n b o kind (Tg P n b o kind).1.todo [(0,pt b o)]
def Se:cN:=cI P n b o kind (Ti P n b o kind).1.todo [(136,pt b o)]
def PQ:cN:=cI P n b o kind (Vw P n b o kind).1.todo [(137,pt b o)]
def Vx:cN:=Cp [0,5] (sgo P kQ 400 (dE P n.unlock [pt b o] kind) [])
def Tl:cN:=next P kQ (Vx P n b o kind) .cA
def Wx:cN:=next P kQ (Tl P n b o kind) (pt b o)
def Wy:cN:=next P kQ (Wx P n b o kind) un
def Gm:cN:=next P kQ (Wy P n b o kind) un
def YF:cN:=next P {kQ with n0:=true} (Gm P n b o kind) wf
def Vd:cN:=next P kQ (Gm P n b o kind) wf
def YG:cN:=next P kQ (Gm P n b o kind) (.word false false true 0)
def YH:cN:=next P kQ (Vd P n b o kind) tt
def Vy:cN:=next P kQ (Vd P n b o kind) ff
def Tm:List oX:=(Vx P n b o kind).2
def Vz:List oX:=(Vd P n b o kind).2.map (keep [])
def oO(a:aci)(l:abS):cN:=(⟨n.vC,a,Ki (jk 21) l,[],.run,.normal⟩,Tm P n b o kind)
def uU(a:aci)(l:abS):cN:=(⟨n.PL,a,Ki (jk 43) l,[],.run,.normal⟩,Vz P n b o kind)
def U0:cN:=Vx P n b o kind
def Sf:cN:=oO P n b o kind (Tl P n b o kind).1.todo [(0,pt b o),(7,pt b o)]
def UR:cN:=oO P n b o kind (Wx P n b o kind).1.todo [(0,pt b o),(8,pt b o)]
def UD:cN:=oO P n b o kind (Wy P n b o kind).1.todo [(0,pt b o)]
def rB:cN:=oO P n b o kind (Gm P n b o kind).1.todo [(0,pt b o),(13,pt b o),(14,.cA)]
def UE:cN:=oO P n b o kind (YF P n b o kind).1.todo []
def UC:cN:=uU P n b o kind (Vd P n b o kind).1.todo [(0,pt b o),(27,pt b o),(28,wf),(29,.word false true false (-1))]
def G7:cN:=uU P n b o kind (YH P n b o kind).1.todo [(33,pt b (o+1))]
def G9:cN:=uU P n b o kind (YG P n b o kind).1.todo [(41,pt b (o+1))]
def NP:cN:=uU P n b o kind (Vy P n b o kind).1.todo [(0,pt b o),(37,pt b o)]
def Tn:cN:=(⟨n.unlock,[],jk 6,[],.ret,kind⟩,[])
end
structure fY  P   n :Prop where
 e1:∀  fl  b o kind,aN P fl [0,5] (LD P n b o kind) un=some (tR P n b o kind)
 e2:∀  fl  b o kind,aN P fl [0] (tR P n b o kind) tt=some (PM P n b o kind)
 e3:∀  fl  b o kind,aN P fl [0,2,3,4,5,12] (tR P n b o kind) ff=some (Vb P n b o kind)
 e4:∀  fl  b o kind,aN P fl [8] (PM P n b o kind) un=some (Sd P n b o kind)
 e5:∀  fl  b o kind,aN P fl [9] (Sd P n b o kind) (pt b o)=some (PN P n b o kind)
 e6:∀  fl  b o kind,aN P fl [] (PN P n b o kind) un=some (BK n kind)
 Wz:∀  fl  b o kind L K S aw sv it,py P fl [0,2,3,4,5,6] (QL P n b o kind aw sv it) (.word L K S 0)=some (HD P n b o kind L K S aw sv it)
 QN:∀  fl  b o kind L K S aw sv it,py P fl [0,2,3,4,5,6] (Gl P n b o kind aw sv it) (.word L K S 0)=some (HD P n b o kind L K S aw sv it)
 WG:∀  fl  b o kind L K S aw sv it,py P fl [0,2,3,4,5,6] (QM P n b o kind aw sv it) (.word L K S 0)=some (HD P n b o kind L K S aw sv it)
 e8:∀  fl  b o kind K aw sv it,Td P fl [0,2,3,4,5,6,17,18] (HD P n b o kind true K false aw sv it)=SQ P n b o kind K aw sv it
 e9:∀  fl  b o kind L K S aw sv it,(L && !S)=false->(aw && !K)=false->Td P fl [0,2,3,4,5,6,77,78,79] (HD P n b o kind L K S aw sv it)=Cq P n b o kind L K S aw sv it
 bp:∀(fl:Fl) b o kind it,aN P {fl with n0:=false} [0,2,3,4,5,33,36,37,39] (SQ P n b o kind false false false it) tt=some (SW P n b o kind it)
 Tp:∀(fl:Fl) b o kind n0 K aw sv it,(!aw && !K && !n0)=false->aN P {fl with n0:=n0} [0,2,3,4,5] (SQ P n b o kind K aw sv it) tt=some (DS P n b o kind aw sv it)
 bs:∀  fl  b o kind K aw sv it,(aw && !K)=false->aN P fl [0,2,3,4,5,6,77,78,79] (SQ P n b o kind K aw sv it) ff=some (Cq P n b o kind true K false aw sv it)
 cZ:∀  fl  b o kind r it,aN P fl [0,2,3,4,5] (SW P n b o kind it) (bl r)=some (DS P n b o kind r false it)
 EI:∀  fl  b o kind aw sv,aN P fl [0,2,3,4,5,47] (DS P n b o kind aw sv 0) un=some (Gl P n b o kind aw sv 1)
 EJ:∀  fl  b o kind aw sv,aN P fl [0,2,3,4,5,47] (DS P n b o kind aw sv 1) un=some (Gl P n b o kind aw sv 2)
 Tq:∀  fl  b o kind aw sv,aN P fl [0,2,3,4,5,47] (DS P n b o kind aw sv 2) un=some (Gl P n b o kind aw sv 3)
 Tr:∀  fl  b o kind aw sv,aN P fl [0,2,3,4,5,47] (DS P n b o kind aw sv 3) un=some (Gl P n b o kind aw sv 4)
 m8:∀  fl  b o kind K aw sv it,aN P fl [0] (Cq P n b o kind false K false aw sv it) tt=some (NO P n b o kind)
 Ts:∀(fl:Fl) b o kind L K S aw sv it,(L||S)=true->aN P {fl with wz:=true} [0,3] (Cq P n b o kind L K S aw sv it) tt=some (T1 P n b o kind sv)
 Tt:∀(fl:Fl) b o kind L K S aw sv it,(L||S)=true->aN P {fl with wz:=false} [0,2,3,91] (Cq P n b o kind L K S aw sv it) tt=some (PK P n b o kind sv)
 il:∀  fl  b o kind L K S aw sv it,aN P fl [0,2,3,4,5,133] (Cq P n b o kind L K S aw sv it) ff=some (QM P n b o kind aw sv it)
 jP:∀  fl  b o kind sv,aN P fl [0,2,3,91] (T1 P n b o kind sv) .HF=some (PK P n b o kind sv)
 Tu:∀  fl  b o kind,aN P fl [0,2,3,103] (PK P n b o kind true) un=some (UP P n b o kind true)
 Tv:∀  fl  b o kind,aN P fl [0,2,95] (PK P n b o kind false) un=some (TQ P n b o kind)
 lU:∀(fl:Fl) b o kind x,aN P {fl with tb:=x} [0,2,3,103] (TQ P n b o kind) .now=some (UP P n b o kind x)
 Oe:∀(fl:Fl) b o kind sv n1,aN P {fl with n0:=false,n1:=n1} [0,128,129] (UP P n b o kind sv) (.word false false true 0)=some (AD P n b o kind (if !sv||n1 then -11 else -7))
 yG:∀(fl:Fl) b o kind L K sv,py P fl [0,2,3,4,5,6] (UP P n b o kind sv) (.word L K false 0)=some (HD P n b o kind L K false true sv 0)
 m9:∀(fl:Fl) b o kind d,aN P fl [0] (AD P n b o kind d) .cA=some (NO P n b o kind)
 vD:∀(fl:Fl) b o kind,aN P fl [136] (NO P n b o kind) un=some (Se P n b o kind)
 rR:∀(fl:Fl) b o kind,aN P fl [137] (Se P n b o kind) (pt b o)=some (PQ P n b o kind)
 HI:∀(fl:Fl) b o kind,aN P fl [] (PQ P n b o kind) un=some (BK n kind)
 u1:∀(fl:Fl) b o kind,aN P fl [0,7] (U0 P n b o kind) .cA=some (Sf P n b o kind)
 u2:∀(fl:Fl) b o kind,aN P fl [0,8] (Sf P n b o kind) (pt b o)=some (UR P n b o kind)
 u3:∀(fl:Fl) b o kind,aN P fl [0] (UR P n b o kind) un=some (UD P n b o kind)
 u4:∀(fl:Fl) b o kind,aN P fl [0,13] (UD P n b o kind) un=some (rB P n b o kind)
 u5:∀(fl:Fl) b o kind n0 K,(n0||K)=true->aN P {fl with n0:=n0} [] (rB P n b o kind) (.word false K false 0)=some (UE P n b o kind)
 WH:∀(fl:Fl) b o kind n0 K,aN P {fl with n0:=n0} [41] (rB P n b o kind) (.word false K true 0)=some (G9 P n b o kind)
 WI:∀(fl:Fl) b o kind,aN P {fl with n0:=false} [0,27,28,29] (rB P n b o kind) (.word false false false 0)=some (UC P n b o kind)
 WJ:∀(fl:Fl) b o kind,aN P fl [33] (UC P n b o kind) tt=some (G7 P n b o kind)
 WK:∀(fl:Fl) b o kind,aN P fl [0,37] (UC P n b o kind) ff=some (NP P n b o kind)
 u7:∀(fl:Fl) b o kind n0 L K S,(n0||L||K||S)=true->aN P {fl with n0:=n0} [] (NP P n b o kind) (.word L K S 0)=some (UE P n b o kind)
 WL:∀(fl:Fl) b o kind,aN P {fl with n0:=false} [0,27,28,29] (NP P n b o kind) (.word false false false 0)=some (UC P n b o kind)
 u8:∀(fl:Fl) b o kind,aN P fl [] (G7 P n b o kind) un=some (UE P n b o kind)
 u9:∀(fl:Fl) b o kind,aN P fl [] (G9 P n b o kind) un=some (UE P n b o kind)
 WM:∀(fl:Fl) b o kind,aN P fl [] (UE P n b o kind) un=some (Tn n kind)
 o1:∀b o kind,aZ (LD P n b o kind).1=some (n.je,[])/\(LD P n b o kind).1.kind=.normal
 o2:∀b o kind,aZ (tR P n b o kind).1=some (n.jZ,[pt b o,i32 0,i32 1])
 o3:∀b o kind,aZ (PM P n b o kind).1=some (n.en,[])
 o4:∀b o kind,j9 (Sd P n b o kind).1=some (n.tM,n.tU,pt b o)
 o5:∀b o kind,aZ (PN P n b o kind).1=some (n.acq,[pt b o])
 WN:∀b o kind aw sv it,qG (QL P n b o kind aw sv it).1=some (n.tI,pt b o)
 WO:∀b o kind aw sv it,qG (Gl P n b o kind aw sv it).1=some (n.tI,pt b o)
 WQ:∀b o kind aw sv it,qG (QM P n b o kind aw sv it).1=some (n.tI,pt b o)
 o7:∀b o kind K aw sv it,aZ (SQ P n b o kind K aw sv it).1=some (n.HH,[i64 it])
 o8:∀b o kind it,aZ (SW P n b o kind it).1=some (n.jZ,[pt b o,.word true false false 0,.word true true false 0])
 o9:∀b o kind aw sv it,aZ (DS P n b o kind aw sv it).1=some (n.tQ,[])
 VA:∀b o kind L K S aw sv it,aZ (Cq P n b o kind L K S aw sv it).1=some (n.jZ,[pt b o,.word L K S 0,Od L K S aw sv])
 WR:∀b o kind sv,aZ (T1 P n b o kind sv).1=some (n.nano,[])
 VB:∀b o kind sv,aZ (PK P n b o kind sv).1=some (n.EG,[pt b (o+1),.cA,i64 2])
 WT:∀b o kind,aZ (TQ P n b o kind).1=some (n.nano,[])
 WU:∀b o kind sv,qG (UP P n b o kind sv).1=some (n.tI,pt b o)
 WV:∀b o kind d,aZ (AD P n b o kind d).1=some (n.add,[pt b o,i32 d])
 WW:∀b o kind,aZ (NO P n b o kind).1=some (n.en,[])
 WX:∀b o kind,j9 (Se P n b o kind).1=some (n.tM,n.tU,pt b o)
 WZ:∀b o kind,aZ (PQ P n b o kind).1=some (n.acq,[pt b o])
 VC:∀b o kind,qG (U0 P n b o kind).1=some (n.tI,pt b o)/\(U0 P n b o kind).1.kind=.normal/\(U0 P n b o kind).1.fn=n.vC
 W2:∀b o kind,j9 (Sf P n b o kind).1=some (n.tM,n.tU,pt b o)
 W6:∀b o kind,aZ (UR P n b o kind).1=some (n.rel,[pt b o])
 W7:∀b o kind,aZ (UD P n b o kind).1=some (n.je,[])
 VD:∀b o kind,aZ (rB P n b o kind).1=some (n.add,[pt b o,i32 (-1)])
 VE:∀b o kind,aZ (UC P n b o kind).1=some (n.jZ,[pt b o,wf,.word false true false (-1)])
 VF:∀b o kind,aZ (G7 P n b o kind).1=some (n.n8,[pt b (o+1),ff,i64 2])
 VG:∀b o kind,aZ (G9 P n b o kind).1=some (n.n8,[pt b (o+1),tt,i64 2])
 W8:∀b o kind,qG (NP P n b o kind).1=some (n.tI,pt b o)
 W9:∀b o kind,aZ (UE P n b o kind).1=some (n.en,[])
 p1:∀b o kind,(Tj P n b o kind).all (·.env.all plain)=true/\(LD P n b o kind).1.env.all plain=true/\(LD P n b o kind).2=Tj P n b o kind
 p2:∀b o kind,(Va P n b o kind).all (·.env.all plain)=true
 p3:∀b o kind,(Tm P n b o kind).all (·.env.all plain)=true/\(U0 P n b o kind).1.env.all plain=true/\(U0 P n b o kind).2=Tm P n b o kind
 p4:∀b o kind,(Vz P n b o kind).all (·.env.all plain)=true
structure fZ  P  (n:Co):Prop where
 je:Ext P n.je (λ_=>do mark .disable;pure Extern.Race.none_)
 en:Ext P n.en (λ_=>do mark .enable;pure Extern.Race.none_)
 acq:Ext P n.acq (Extern.Race.marked .acquire)
 rel:Ext P n.rel (Extern.Race.marked .releaseMerge)
 jZ:Ext P n.jZ (Extern.Atomic.casT (.int .i32))
 add:Ext P n.add (Extern.Atomic.update (Op.intArith .add) .i32 true)
 HH:Ext P n.HH Extern.Sync.canSpin
 tQ:Ext P n.tQ (λ_=>pure (.tuple #[]))
 nano:Ext P n.nano Extern.OsHooks.nano
 Kl:∃fn,P.funcs[n.nano]?=some fn/\fn.norace=true
 EG:Ext P n.EG Extern.Sync.semacquire
 n8:Ext P n.n8 Extern.Sync.semrelease
 Tw:mT P (isAgg n.tI)=some false
 Xa:∃t,P.underlying n.tM=some (.pointer t)/\P.underlying n.tU=some .unsafePointer/\(P.info? t).map (λi=>decide (i.size=0))=some false
 nS:∃fn,P.funcs[n.QJ]?=some fn/\fn.norace=true
 nU:∃fn,P.funcs[n.vC]?=some fn/\fn.norace=true
 nV:∃fn,P.funcs[n.PL]?=some fn/\fn.norace=true
def Sy.ok(y:Sy):Prop:=(0<=y.N/\y.N<=1000)/\(0<=y.c/\y.c<=1000)
def Fl.of(y:Sy):Fl:=⟨decide (y.N=0),decide (y.N=1),decide (y.c=0),decide (y.c=1),decide (y.ws=0),decide (IntKind.i64.wrap (y.tn-y.ws)>1000000)⟩
def Fl.Cr{y}(h:y.ok):(Fl.of y).At y:=⟨h.1,h.2,rfl,rfl,rfl,rfl,rfl,rfl⟩
def Gn:SV->Bool|.word ..=>true|.cnt=>true|_=>false
def Km:SV->Bool|.er _=>true|.Gj=>true|.HE=>true|_=>false
def Kn:SV->Bool|.HF=>true|.S9=>true|_=>false
def Ko:SV->Bool|.now=>true|.S9=>true|_=>false
def SR.re{y y' v x}(h:SR y v x)(a:y.N=y'.N\/Gn v=false)(b:y.c=y'.c\/Km v=false)(d:y.ws=y'.ws\/Kn v=false)(e:y.tn=y'.tn\/Ko v=false):SR y' v x:=by cases v<;>simp_all [SR,Gn,Km,Kn,Ko]
def FR.re{y y' s fr}(h:FR y s fr)(a:y.N=y'.N\/s.env.all (λv=>!Gn v)=true)(b:y.c=y'.c\/s.env.all (λv=>!Km v)=true)
 (d:y.ws=y'.ws\/s.env.all (λv=>!Kn v)=true) (e:y.tn=y'.tn\/s.env.all (λv=>!Ko v)=true):FR y' s fr:=by
 have key:∀(u:SV->Bool) (t:Nat),u .cA=false->s.env.all (λv=>!u v)=true->u (s.env.getD t .cA)=false:=λu t f g=>by grind
 exact⟨h.fn,h.todo,h.defers,h.mode,h.kind,h.ro,h.size,λt=>(h.env t).re (a.imp id (key _ t rfl)) (b.imp id (key _ t rfl)) (d.imp id (key _ t rfl)) (e.imp id (key _ t rfl))⟩
def lT.gy{y y'}:∀{l fs},lT y l fs->l.all (·.env.all plain)=true->lT y' l fs
 |[],fs,h,_=>by rw[h.mn];trivial
 |s::l,fs,h,a=>by obtain⟨f,b,rfl,c,d⟩:=h.cons_inv;simp only[aaj,za]at a;exact⟨c.gy a.1,d.gy a.2⟩
def lT.keep{y}  live :∀{l fs},lT y l fs->lT y (l.map (Go.cz.keep live)) fs
 |[],fs,h=>by simp_all
 |s::l,fs,h=>by obtain⟨f,a,rfl,b,c⟩:=h.cons_inv;exact⟨b.keep live,c.keep live⟩
def Gp{P Wd f y}(i:f.At y):∀  n  {s st fr frs},FR y s fr->lT y st frs ->
 ∃m b a,FR y (Kj P f n s st).1 b/\lT y (Kj P f n s st).2 a/\∀cs,iV P Wd m (G fr (frs++cs)) (G b (a++cs))
 |0,s,st,fr,frs,g,c=>⟨0,fr,frs,g,c,λ_=>rfl⟩
 | n + 1,s,st,fr,frs,g,c=>by
   unfold Kj;cases e:ss P f s st with
   |none=>exact⟨0,fr,frs,g,c,λ_=>rfl⟩
   | some p=>
     obtain⟨u,o⟩:=p;obtain⟨b,a,j,k,l⟩:=PJ i e g c;simp only;split
     . exact⟨1,b,a,j,k,λcs=>⟨_,l cs,rfl⟩⟩
     . obtain⟨m,h,d,q,r,t⟩:=Gp i n j k
       exact⟨m+1,h,d,q,r,λcs=>⟨_,l cs,t cs⟩⟩
section
variable{P:acw}{Wd:abZ}{y:Sy}{c c':cN}{live:acn}{v:SV}{x:Value}{fr:Frame}{frs:acf}
def PR(e:aN P (Fl.of y) live c v=some c')(f:y.ok)(g:FR y c.1 fr)(d:lT y c.2 frs)(h:SR y v x):
 ∃b a,FR y c'.1 b/\lT y c'.2 a/\∀cs,sz P Wd (G (fr.finish x) (frs++cs)) (G b (a++cs)):=by
 obtain⟨s,i,rfl⟩:=ZJ.1 e;obtain⟨m,b,a,j,k,l⟩:=lC (Wd:=Wd) (Fl.Cr f) 400 (P:=P) (g.fin i h) d;exact⟨b,a,j.keep live,k.keep [],λcs=>⟨m,l cs⟩⟩
def Tx(e:py P (Fl.of y) live c v=some c')(f:y.ok)(g:FR y c.1 fr)(d:lT y c.2 frs)(h:SR y v x):
 ∃b a,FR y c'.1 b/\lT y c'.2 a/\∀cs,sz P Wd (G (fr.finish x) (frs++cs)) (G b (a++cs)):=by
 obtain⟨s,i,rfl⟩:=ZJ.1 e;obtain⟨m,b,a,j,k,l⟩:=Gp (Wd:=Wd) (Fl.Cr f) 400 (P:=P) (g.fin i h) d;exact⟨b,a,j.keep live,k.keep [],λcs=>⟨m,l cs⟩⟩
def Ty(e:Td P (Fl.of y) live c=c')(f:y.ok)(g:FR y c.1 fr)(d:lT y c.2 frs):
 ∃b a,FR y c'.1 b/\lT y c'.2 a/\∀cs,sz P Wd (G fr (frs++cs)) (G b (a++cs)):=by
 subst e;obtain⟨m,b,a,h,i,j⟩:=lC (Wd:=Wd) (Fl.Cr f) 400 (P:=P) g d;exact⟨b,a,h.keep live,i.keep [],λcs=>⟨m,j cs⟩⟩
end
open Mu in
inductive AX where
 |ld|hQ|rd (l:Lo)|sq (old:Wd) (l:Lo)|sw (old:Wd) (l:Lo)|jZ (old:Wd) (l:Lo)|t1 (sv:Bool)|gi (sv:Bool)|tq|up (sv:Bool)|add (old:Wd) (sv:Bool)|le|la|back
 |Gq|ur|ud|held|iU (old:Wd)|vp|give|ue|Ct
section
variable(P:acw)(n:Co)(b o:Nat)(kind:acr)
def EE(p:AX)(c:cN)(y:Sy):Prop:=
 match p with
 |.ld=>c=LD P n b o kind
 |.hQ=>c=tR P n b o kind
 |.rd l=>c=QL P n b o kind l.aw l.sv l.it\/c=Gl P n b o kind l.aw l.sv l.it\/c=QM P n b o kind l.aw l.sv l.it
 |.sq old l=>c=SQ P n b o kind old.K l.aw l.sv l.it/\y.N=old.N/\old.L=true/\old.S=false
 |.sw old l=>c=SW P n b o kind l.it/\y.N=old.N/\l.aw=false/\l.sv=false/\old.L=true/\old.K=false/\old.S=false
 |.jZ old l=>c=Cq P n b o kind old.L old.K old.S l.aw l.sv l.it/\y.N=old.N
 |.t1 sv=>c=T1 P n b o kind sv
 |.gi sv=>c=PK P n b o kind sv
 |.tq=>c=TQ P n b o kind
 |.up sv=>c=UP P n b o kind sv
 |.add old sv=>c=AD P n b o kind (if !sv||decide (old.N=1)then -11 else -7)
 |.le=>c=PM P n b o kind\/c=NO P n b o kind
 |.la=>c=PN P n b o kind\/c=PQ P n b o kind
 |.back=>c=BK n kind
 |.Gq=>c=U0 P n b o kind
 |.ur=>c=UR P n b o kind
 |.ud=>c=UD P n b o kind
 |.held=>c=rB P n b o kind
 |.iU old=>c=UC P n b o kind/\y.N=old.N/\old.L=false/\old.K=false/\old.S=false/\old.N≠0
 |.vp=>c=NP P n b o kind
 |.give=>c=G7 P n b o kind\/c=G9 P n b o kind
 |.ue=>c=UE P n b o kind
 |.Ct=>c=Tn n kind
def nM(p:AX)(cs:acf)(g:ack):Prop:=∃c y fr frs,EE P n b o kind p c y/\y.ok/\FR y c.1 fr/\lT y c.2 frs/\g=G fr (frs++cs)
end
def nM.running{P n b o kind p cs g}(h:nM P n b o kind p cs g):g.status=.running/\g.offers=none:=by obtain⟨c,y,fr,frs,_,_,_,_,rfl⟩:=h;exact⟨rfl,rfl⟩
structure ShM  b o  (w:World) (s:Mu.Sh):Prop where
 cw:w.cell? ⟨b,o,none⟩=some (.int .i32 (enc s.w.L s.w.K s.w.S s.w.N))
 cs:w.cell? ⟨b,o+1,none⟩=some (.int .u32 s.ms)
 fz:∀i,w.frozen? ⟨b,i,none⟩=false
def MW(b o:Nat)(w w':World):Prop:=(l8 w.os w'.os/\w'.output=w.output)/\(w'.heap=w.heap\/∃i v,(i=o\/i=o+1)/\flat v=true/\w'.heap=(w.setCell ⟨b,i,none⟩ v).heap)
def EvM(b o:Nat)(es:aca):Prop:=∀e∈es,(e.loc=.mark .disable\/e.loc=.mark .enable)\/(∃i,(i=o\/i=o+1)/\e.loc=.cell ⟨b,i,none⟩/\e.sync=true)
def qp{w w':World}(h:w'.heap=w.heap)  a :w'.cell? a=w.cell? a/\w'.frozen? a=w.frozen? a:=by simp[World.cell?,World.frozen?,h]
def ShM.heap{b o w w' s}(h:ShM b o w s)(e:w'.heap=w.heap):ShM b o w' s:=⟨by rw[(qp e _).1];exact h.cw,by rw[(qp e _).1];exact h.cs,λi=>by rw[(qp e _).2];exact h.fz i⟩
def jK{w:World}{b i u v}(h:w.cell? ⟨b,i,none⟩=some u):(w.setCell ⟨b,i,none⟩ v).cell? ⟨b,i,none⟩=some v:=by
 unfold World.cell? at h ⊢;unfold World.setCell
 grind
def oa{w:World}{a v b i}:(w.setCell a v).frozen? ⟨b,i,none⟩=w.frozen? ⟨b,i,none⟩:=by simp_all
def ShM.aT{b o w s}(h:ShM b o w s)  w' :ShM b o (w.setCell ⟨b,o,none⟩ (.int .i32 (enc w'.L w'.K w'.S w'.N))) {s with w:=w'}:=⟨jK h.cw,by rw[dB (by simp)];exact h.cs,λi=>by rw[oa];exact h.fz i⟩
def ShM.EK{b o w s}(h:ShM b o w s)(m:Nat):ShM b o (w.setCell ⟨b,o+1,none⟩ (.int .u32 m)) {s with ms:=m}:=⟨by rw[dB (by simp)];exact h.cw,jK h.cs,λi=>by rw[oa];exact h.fz i⟩
def fE{b o}:EvM b o #[]:=λe h=>by simp at h
def Gr{b o i}(hi:i=o\/i=o+1):EvM b o #[⟨.cell ⟨b,i,none⟩,false,true⟩]:=λe h=>by simp_all
def kg{b o i}(hi:i=o\/i=o+1):EvM b o #[⟨.cell ⟨b,i,none⟩,false,true⟩,⟨.cell ⟨b,i,none⟩,true,true⟩]:=λe h=>by grind
def vE{b o}:EvM b o (semEvents ⟨b,o+1,none⟩):=λe h=>by
 simp[semEvents]at h
 grind
section
variable{P:acw}{n:Co}(C:fY P n)(X:fZ P n){b o:Nat}{kind:acr}{Wd:abZ}{cs:acf}{g:ack}{w:World}{main:Bool}
variable(hWd:∀w,Wd w->∃v,w.cell? ⟨b,o,none⟩=some v)
def Next(P:acw)(n:Co)(b o:Nat)(kind:acr)(Wd:abZ)(cs:acf)(p:AX)(a:ack):Prop:=a.status=.running/\∃c,sz P Wd a c/\nM P n b o kind p cs c
def nxt{y c c' live v x fr frs p}(g:aN P (Fl.of y) live c v=some c')(f:y.ok)(h:FR y c.1 fr)(d:lT y c.2 frs)(i:SR y v x)(j:EE P n b o kind p c' y):
 Next P n b o kind Wd cs p (G (fr.finish x) (frs++cs)):=by
 obtain⟨e,a,k,l,m⟩:=PR (Wd:=Wd) g f h d i;exact⟨rfl,_,m cs,c',y,e,a,j,f,k,l,rfl⟩
def y0:Sy:=⟨2,2,1,0⟩
def sC:y0.ok:=by unfold Sy.ok y0;decide
def EL(h:∃fn body,P.funcs[n.lock]?=some fn/\fn.body=some body/\fn.ntmps=6):∃e,sz P Wd (G (Frame.enter P n.lock #[.pointer (some ⟨b,o,none⟩)] kind) cs) e/\nM P n b o kind .ld cs e:=by
 obtain⟨fn,body,a,i,g⟩:=h
 have j:FR y0 (dE P n.lock [pt b o] kind) (Frame.enter P n.lock #[.pointer (some ⟨b,o,none⟩)] kind):=by
  refine⟨by simp[dE,a,Frame.enter],by simp[dE,a,i,Frame.enter],by simp[dE,a,Frame.enter],by simp[dE,a,Frame.enter,Cj.of],by simp[dE,a,Frame.enter],rfl,by simp[dE,a,g,Frame.enter],λt=>?_⟩;simp only[dE,a,Frame.enter,g,ZZ,aat]
  match t with
  |0=>rfl
  |1|2|3|4|5=>trivial
  | t+6=>
    have:([pt b o]++List.replicate (6 - [pt b o].length) SV.cA).getD (t+6) .cA=.cA:=by simp_all
    rw[this];trivial
 obtain⟨m,d,c,k,l,p⟩:=lC (Wd:=Wd) (P:=P) (f:=kQ) (y:=y0) ⟨by decide,by decide,rfl,rfl,rfl,rfl,rfl,by decide⟩ 400 j (st:=[]) (frs:=[]) trivial;have q:=p cs;exact⟨_,⟨m,q⟩,_,y0,d,c,rfl,sC,k.keep [0],l.keep [],rfl⟩
def Kr:∀g ,Mark.disable≠.extern g:=λg h=>by cases h
def Ks:∀g ,Mark.enable≠.extern g:=λg h=>by cases h
include C X in
def AY(h:nM P n b o kind .ld cs g):∃d,stepG P main g w=.go d w #[⟨.mark .disable,false,true⟩]/\Next P n b o kind Wd cs .hQ d:=by obtain⟨c,y,fr,frs,rfl,f,e,a,rfl⟩:=h;exact⟨_,eL Kr e (C.o1 b o kind).1 (by rw[show(LD P n b o kind).1.kind=_ from(C.o1 b o kind).2];decide) X.je,nxt (C.e1 _ b o kind) f e a rfl rfl⟩
include C X in
def Gs(h:nM P n b o kind .ud cs g):∃d,stepG P main g w=.go d w #[⟨.mark .disable,false,true⟩]/\Next P n b o kind Wd cs .held d:=by obtain⟨c,y,fr,frs,rfl,f,e,a,rfl⟩:=h;exact⟨_,eL Kr e (C.W7 b o kind) (by simp[UD,oO]) X.je,nxt (C.u4 _ b o kind) f e a rfl rfl⟩
include C X in
def AZ(h:nM P n b o kind .ue cs g):∃d,stepG P main g w=.go d w #[⟨.mark .enable,false,true⟩]/\Next P n b o kind Wd cs .Ct d:=by obtain⟨c,y,fr,frs,rfl,f,e,a,rfl⟩:=h;exact⟨_,eL Ks e (C.W9 b o kind) (by simp[UE,oO]) X.en,nxt (C.WM _ b o kind) f e a rfl rfl⟩
include C X in
def Gt(h:nM P n b o kind .ur cs g):∃d,stepG P main g w=.go d w #[⟨.mark (.releaseMerge ⟨b,o,none⟩),false,true⟩]/\Next P n b o kind Wd cs .ud d:=by obtain⟨c,y,fr,frs,rfl,f,e,a,rfl⟩:=h;exact⟨_,fA (λi g h=>by cases h) e (C.W6 b o kind) (by simp[UR,oO]) X.rel,nxt (C.u3 _ b o kind) f e a rfl rfl⟩
include C X in
def Gu(h:nM P n b o kind .la cs g):∃e,stepG P main g w=.go e w #[⟨.mark (.acquire ⟨b,o,none⟩),false,true⟩]/\Next P n b o kind Wd cs .back e:=by
 obtain⟨c,y,fr,frs,i,f,d,a,rfl⟩:=h;rcases i with rfl|rfl
 . exact⟨_,fA (λj g h=>by cases h) d (C.o5 b o kind) (by simp[PN,mq]) X.acq,nxt (C.e6 _ b o kind) f d a rfl rfl⟩
 . exact⟨_,fA (λj g h=>by cases h) d (C.WZ b o kind) (by simp[PQ,cI]) X.acq,nxt (C.HI _ b o kind) f d a rfl rfl⟩
include X hWd in
def through{y c c' live fr frs p}(f:j9 c.1=some (n.tM,n.tU,pt b o))(g:aN P (Fl.of y) live c (pt b o)=some c')(h:y.ok)(e:FR y c.1 fr)(d:lT y c.2 frs)(i:EE P n b o kind p c' y):
 ∃a,sz P Wd (G fr (frs++cs)) a/\nM P n b o kind p cs a:=by
 obtain⟨t,j,k,l⟩:=X.Xa;obtain⟨_,a,m,q⟩:=nxt (P:=P) (n:=n) (b:=b) (o:=o) (kind:=kind) (Wd:=Wd) (cs:=cs) (x:=.pointer (some ⟨b,o,none⟩)) g h e d rfl i;refine⟨a,sz.trans (sx.zn ⟨rfl,λmain w r=>?_⟩) m,q⟩;exact tP e f j k l (hWd w r)
include C X hWd in
def Gv(h:nM P n b o kind .le cs g):∃s,stepG P main g w=.go s w #[⟨.mark .enable,false,true⟩]/\Next P n b o kind Wd cs .la s:=by
 obtain⟨c,y,fr,frs,t,e,f,a,rfl⟩:=h;rcases t with rfl|rfl
 . refine⟨_,eL Ks f (C.o3 b o kind) (by simp[PM,mq]) X.en,rfl,?_⟩
   obtain⟨i,d,j,k,l⟩:=PR (Wd:=Wd) (x:=.tuple #[]) (C.e4 _ b o kind) e f a rfl;obtain⟨m,q,r⟩:=through X hWd (cs:=cs) (p:=.la) (C.o4 b o kind) (C.e5 _ b o kind) e j k (.inl rfl);exact⟨m,(l cs).trans q,r⟩
 . refine⟨_,eL Ks f (C.WW b o kind) (by simp[NO,cI]) X.en,rfl,?_⟩
   obtain⟨i,d,j,k,l⟩:=PR (Wd:=Wd) (x:=.tuple #[]) (C.vD _ b o kind) e f a rfl;obtain⟨m,q,r⟩:=through X hWd (cs:=cs) (p:=.la) (C.WX b o kind) (C.rR _ b o kind) e j k (.inr rfl);exact⟨m,(l cs).trans q,r⟩
include C X hWd in
def wU{v}(j:w.cell? ⟨b,o,none⟩=some v)(h:nM P n b o kind .Gq cs g):∃d,stepG P main g w=.go d w #[]/\Next P n b o kind Wd cs .ur d:=by
 obtain⟨c,y,fr,frs,rfl,e,f,a,rfl⟩:=h;refine⟨_,qo f (C.VC b o kind).1 X.Tw (by rw[show(U0 P n b o kind).1.fn=_ from(C.VC b o kind).2.2];exact X.nU) j,rfl,?_⟩;obtain⟨k,i,l,m,q⟩:=PR (Wd:=Wd) (x:=v) (C.u1 _ b o kind) e f a trivial;obtain⟨r,s,t⟩:=through X hWd (cs:=cs) (p:=.ur) (C.W2 b o kind) (C.u2 _ b o kind) e l m rfl;exact⟨r,(q cs).trans s,t⟩
include C X in
def Of{sv}(h:nM P n b o kind (.t1 sv) cs g):∃f,stepG P main g w=.go f w.later #[]/\Next P n b o kind Wd cs (.gi sv) f:=by
 obtain⟨c,y,fr,frs,rfl,j,i,d,rfl⟩:=h;refine⟨_,zu i (C.WR b o kind sv) (by simp[T1,cI]) X.nano X.Kl,?_⟩;have e:=i.re (y':={y with ws:=((w.os.mono+w.tick:Nat):Int)}) (.inl rfl) (.inl rfl) (.inr (by cases sv<;>rfl)) (.inl rfl);have a:=d.gy (y':={y with ws:=((w.os.mono+w.tick:Nat):Int)}) (by simpa[T1,cI]using C.p2 b o kind);exact nxt (y:={y with ws:=((w.os.mono+w.tick:Nat):Int)}) (x:=.int .i64 ((w.os.mono+w.tick:Nat):Int)) (C.jP _ b o kind sv) j e a rfl rfl
end
inductive To:Mu.Pc->AX->Prop
 |out:To .out .ue
 |rd (l:Mu.Lo):To (.rd l) (.rd l)
 |sq (old:Mu.Wd) (l:Mu.Lo):To (.sq old l) (.sq old l)
 |sw (old:Mu.Wd) (l:Mu.Lo):To (.sw old l) (.sw old l)
 |jZ (old:Mu.Wd) (l:Mu.Lo):To (.jZ old l) (.jZ old l)
 |t1 (sv:Bool):To (.gi sv) (.t1 sv)
 |gi (sv:Bool):To (.gi sv) (.gi sv)
 |tq:To .tq .tq
 |up (sv:Bool):To (.up sv) (.up sv)
 |add (old:Mu.Wd) (sv:Bool):To (.add old sv) (.add old sv)
 |held:To .held .le
 |iU (old:Mu.Wd):To (.iU old) (.iU old)
 |vp:To .vp .vp
 |give:To .give .give
def lD(P:acw)(n:Co)(b o:Nat)(kind:acr)(Wd:abZ)(cs:acf)(g:ack)(w:World)(main:Bool)(pc:Mu.Pc)(s:Mu.Sh):Prop:=∃c a es q e f,stepG P main g w=.go c a es/\(q,e)∈Mu.mv pc s/\To q f/\Next P n b o kind Wd cs f c/\MW b o w a/\ShM b o a e/\EvM b o es/\∀d,deafBehind d es=d
def bf{b o w w'}(h:w'.heap=w.heap)(a:l8 w.os w'.os/\w'.output=w.output:=by exact⟨l8.refl _,rfl⟩):MW b o w w':=⟨a,.inl h⟩
def vr{b o w v}(h:flat v=true):MW b o w (w.setCell ⟨b,o,none⟩ v):=⟨⟨.refl _,rfl⟩,.inr ⟨o,v,.inl rfl,h,rfl⟩⟩
def Og{b o w v}(h:flat v=true):MW b o w (w.setCell ⟨b,o+1,none⟩ v):=⟨⟨.refl _,rfl⟩,.inr ⟨o+1,v,.inr rfl,h,rfl⟩⟩
def Gw{L K S a b c}{N d:Nat}:enc L K S N=enc a b c d↔(L=a/\K=b/\S=c/\N=d):=by
 unfold enc;constructor
 . intro h
   cases L<;>cases K<;>cases S<;>cases a<;>cases b<;>cases c<;>simp[Bool.toNat]at h ⊢<;>omega
 simp_all
section
variable{P:acw}{n:Co}(C:fY P n)(X:fZ P n){b o:Nat}{kind:acr}{Wd:abZ}{cs:acf}{g:ack}{w:World}{main:Bool}{s:Mu.Sh}
def Gx{w}:w=Mu.Wd.zero↔(enc w.L w.K w.S w.N=0):=by
 obtain⟨L,K,S,N⟩:=w;rw[wQ (by simp)];simp[Mu.Wd.zero]
include C X in
def HJ(d:ShM b o w s)(h:nM P n b o kind .hQ cs g):lD P n b o kind Wd cs g w main .hQ s:=by
 obtain⟨c,y,fr,frs,rfl,l,j,f,rfl⟩:=h;have q:(tR P n b o kind).1.kind≠.early:=by simp[tR,mq]
 by_cases k:s.w=Mu.Wd.zero
 . have m:enc s.w.L s.w.K s.w.S s.w.N=0:=Gx.1 k
   have r:=d.cw;rw[m]at r;refine⟨_,_,_,.held,{s with w:={Mu.Wd.zero with L:=true}},.le,gO j (C.o2 b o kind) q X.jZ (v:=0) (n:=1) (λx h=>h) (λx h=>h) r (d.fz o),by simp[Mu.mv,k],.held,nxt (C.e2 _ b o kind) l j f rfl (.inl rfl),vr rfl,?_,kg (.inl rfl),λ_=>rfl⟩;have:=d.aT {Mu.Wd.zero with L:=true};exact this
 . have m:¬enc s.w.L s.w.K s.w.S s.w.N=0:=λe=>k (Gx.2 e)
   refine⟨_,_,_,.rd ⟨false,false,0⟩,s,.rd ⟨false,false,0⟩,iv j (C.o2 b o kind) q X.jZ (old:=0) (n:=1) (λx h=>h) (λx h=>h) d.cw (d.fz o) m,by simp[Mu.mv,k],.rd _,⟨rfl,?_⟩,bf rfl,d,Gr (.inl rfl),λ_=>rfl⟩;obtain⟨p,i,A,B,D⟩:=PR (Wd:=Wd) (x:=.bool false) (C.e3 _ b o kind) l j f rfl;refine⟨_,D cs,QL P n b o kind false false 0,{y with ws:=0},p,i,.inl rfl,l,?_,?_,rfl⟩
   . have a:=A.re (y':={y with ws:=0}) (.inl rfl) (.inl rfl) (.inr rfl) (.inl rfl)
     refine⟨a.fn,a.todo,a.defers,a.mode,a.kind,a.ro,a.size.trans rfl,λt=>?_⟩;have u:=a.env t;by_cases z:t=2
     . subst z;exact u
     . have e:(QL P n b o kind false false 0).1.env=(Vb P n b o kind).1.env.set 2 .HF:=rfl
       rw[e,zH,aaq (zj z),<-List.getD_eq_getElem?_getD];exact u
   . exact B.gy (by simpa[Vb,cI]using C.p2 b o kind)
def qt{y:Sy}{L K S}{N:Nat}(h:y.N=N):SR y (.word L K S 0) (.int .i32 (enc L K S N)):=by
 refine⟨?_,?_,by decide⟩
 . simp_all
 omega
def Gy{y x}(h:decide (y.N=0)=x):{Fl.of y with n0:=x}=Fl.of y:=by subst h;rfl
def QO{y x z}(h:decide (y.N=0)=x)(a:decide (y.N=1)=z):{Fl.of y with n0:=x,n1:=z}=Fl.of y:=by subst h;subst a;rfl
def PS{y x}(h:decide (y.ws=0)=x):{Fl.of y with wz:=x}=Fl.of y:=by subst h;rfl
def Tz{y x}(h:decide (IntKind.i64.wrap (y.tn-y.ws)>1000000)=x):{Fl.of y with tb:=x}=Fl.of y:=by subst h;rfl
def Sg(old:Mu.Wd)(l:Mu.Lo):AX:=if old.L && !old.S then .sq old l else .jZ old l
def PT  old   l :To (Mu.nx old l) (Sg old l):=by
 unfold Mu.nx Sg;split
 . exact .sq _ _
 . exact .jZ _ _
include C in
def Gz{y old l fr frs}(e:y.ok)(m:y.N=old.N)(p:FR y (HD P n b o kind old.L old.K old.S l.aw l.sv l.it).1 fr)(d:lT y (HD P n b o kind old.L old.K old.S l.aw l.sv l.it).2 frs)(f:Mu.loc (Mu.nx old l)):
 ∃q,sz P Wd (G fr (frs++cs)) q/\nM P n b o kind (Sg old l) cs q:=by
 obtain⟨L,K,S,N⟩:=old;obtain⟨aw,sv,it⟩:=l;unfold Sg;unfold Mu.nx at f;by_cases h:(L && !S)=true
 . simp only[h,ZD]at f ⊢
   simp only[za,abd]at h;obtain⟨rfl,rfl⟩:=h;obtain⟨c,a,g,i,j⟩:=Ty (Wd:=Wd) (C.e8 (Fl.of y) b o kind K aw sv it) e p d;exact⟨_,j cs,_,y,c,a,⟨rfl,m,rfl,rfl⟩,e,g,i,rfl⟩
 . have r:(L && !S)=false:=by simpa using h
   rw[ZB h]at f ⊢
   have k:(aw && !K)=false:=by
    cases aw with
    |false=>rfl
    |true=>have:=f.1 rfl;simp at this;simp[this]
   obtain⟨c,a,g,i,j⟩:=Ty (Wd:=Wd) (C.e9 (Fl.of y) b o kind L K S aw sv it r k) e p d;exact⟨_,j cs,_,y,c,a,⟨rfl,m⟩,e,g,i,rfl⟩
include C X in
def Oh{l}(i:ShM b o w s)(hb:s.w.N<=1000)(m:Mu.loc (Mu.nx s.w l))(h:nM P n b o kind (.rd l) cs g):lD P n b o kind Wd cs g w main (.rd l) s:=by
 obtain⟨c,y,fr,frs,p,q,j,e,rfl⟩:=h;have a:({y with N:=(s.w.N:Int)}:Sy).ok:=⟨⟨by simp,by show(s.w.N:Int)<=1000;omega⟩,q.2⟩
 have key:qG c.1=some (n.tI,pt b o)->c.1.fn=n.QJ->(c.1.env.all (λv=>!Gn v)=true)->c.2=Va P n b o kind->py P (Fl.of {y with N:=(s.w.N:Int)}) [0,2,3,4,5,6] c (.word s.w.L s.w.K s.w.S 0)=some (HD P n b o kind s.w.L s.w.K s.w.S l.aw l.sv l.it) ->
  lD P n b o kind Wd cs (G fr (frs++cs)) w main (.rd l) s:=λr t u x z=>by
  have f:=j.re (y':={y with N:=(s.w.N:Int)}) (.inr u) (.inl rfl) (.inl rfl) (.inl rfl);have d:=e.gy (y':={y with N:=(s.w.N:Int)}) (by rw[x];exact C.p2 b o kind);obtain⟨A,k,B,D,E⟩:=Tx (Wd:=Wd) z a f d (qt rfl);obtain⟨F,H,I⟩:=Gz C (Wd:=Wd) (cs:=cs) (old:=s.w) (l:=l) a rfl B D m;exact⟨_,w,#[],_,s,Sg s.w l,qo j r X.Tw (by rw[t];exact X.nS) i.cw,by simp[Mu.mv],PT _ _,⟨rfl,F,(E cs).trans H,I⟩,bf rfl,i,fE,λ_=>rfl⟩
 rcases p with rfl|rfl|rfl
 . exact key (C.WN ..) rfl rfl rfl (C.Wz ..)
 . exact key (C.WO ..) rfl rfl rfl (C.QN ..)
 . exact key (C.WQ ..) rfl rfl rfl (C.WG ..)
include C X in
def A7{y aw sv}{it:Nat}{fr frs}(f:it<4)(g:y.ok)(e:FR y (DS P n b o kind aw sv it).1 fr)(d:lT y (DS P n b o kind aw sv it).2 frs):
 ∃c,sz P Wd (G fr (frs++cs)) c/\nM P n b o kind (.rd ⟨aw,sv,it+1⟩) cs c:=by
 have a:sx P Wd (G fr (frs++cs)) (G (fr.finish (.tuple #[])) (frs++cs)):=⟨rfl,λmain w _=>tO e (C.o9 b o kind aw sv it) (by simp[DS,cI]) X.tQ⟩
 have key:aN P (Fl.of y) [0,2,3,4,5,47] (DS P n b o kind aw sv it) un=some (Gl P n b o kind aw sv (it+1:Nat)):=by
  have:it=0\/it=1\/it=2\/it=3:=by omega
  rcases this with rfl|rfl|rfl|rfl
  . exact C.EI ..
  . exact C.EJ ..
  . exact C.Tq ..
  . exact C.Tr ..
 obtain⟨_,c,h,i⟩:=nxt (P:=P) (n:=n) (b:=b) (o:=o) (kind:=kind) (Wd:=Wd) (cs:=cs) (x:=.tuple #[]) (p:=.rd ⟨aw,sv,it+1⟩) key g e d rfl (.inr (.inl rfl));exact⟨c,a.zn.trans h,i⟩
include C X in
def Oi{old l}(t:ShM b o w s)(J:Mu.loc (.sq old l))(h:nM P n b o kind (.sq old l) cs g):lD P n b o kind Wd cs g w main (.sq old l) s:=by
 obtain⟨c,y,fr,frs,⟨rfl,k,B,D⟩,q,m,d,rfl⟩:=h;obtain⟨L,K,S,N⟩:=old;obtain⟨aw,sv,it⟩:=l;simp only at k B D m d;subst B;subst D;obtain⟨E,F,M,_,_⟩:=J;simp only at E F M
 have u:(aw && !K)=false:=by
  cases aw with
  |false=>rfl
  |true=>simp[E rfl]
 obtain⟨r,j,v,O,G⟩:=HG (P:=P) (main:=main) (cs:=frs++cs) (w:=w) m (C.o7 b o kind K aw sv it) (by simp[SQ,cI]) X.HH
 have a:j.heap=w.heap:=by rcases G with rfl|rfl<;>rfl
 have e:l8 w.os j.os/\j.output=w.output:=by rcases G with rfl|rfl<;>exact⟨.refl _,rfl⟩
 cases r with
 |false=>refine⟨_,j,#[],.jZ ⟨true,K,false,N⟩ ⟨aw,sv,it⟩,s,.jZ _ _,v,by simp[Mu.mv,Mu.hd],.jZ _ _,nxt (C.bs (Fl.of y) b o kind K aw sv it u) q m d rfl ⟨rfl,k⟩,bf a e,t.heap a,fE,λ_=>rfl⟩
 | true=>
   have f:it<4:=by have:=O rfl;omega
   by_cases z:(!aw && !K && decide (N≠0))=true
   . simp only[za,abd,zU]at z
     obtain⟨⟨rfl,rfl⟩,p⟩:=z;have:sv=false:=by cases sv with|false=>rfl|true=>exact absurd (F rfl) (by simp)
     subst this;have key:=C.bp (Fl.of y) b o kind it;rw[Gy (by rw[k];simpa using p)]at key
     exact⟨_,j,#[],.sw ⟨true,false,false,N⟩ ⟨false,false,it⟩,s,.sw _ _,v,by simp[Mu.mv,Mu.hd,f,p],.sw _ _,nxt key q m d rfl ⟨rfl,k,rfl,rfl,rfl,rfl,rfl⟩,bf a e,t.heap a,fE,λ_=>rfl⟩
   . have i:(!aw && !K && decide (N≠0))=false:=by simpa using z
     have A:(!aw && !K && !decide (y.N=0))=false:=by
      rw[k]
      by_cases H:N=0
      . simp[H]
      . simp[H]at i ⊢;exact i
     have key:=C.Tp (Fl.of y) b o kind (decide (y.N=0)) K aw sv it A;rw[Gy rfl]at key;obtain⟨Q,I,R,T,U⟩:=PR (Wd:=Wd) (x:=.bool true) key q m d rfl;obtain⟨V,W,Y⟩:=A7 C X (Wd:=Wd) (cs:=cs) f q R T;refine⟨_,j,#[],.rd ⟨aw,sv,it+1⟩,s,.rd _,v,?_,.rd _,⟨rfl,V,(U cs).trans W,Y⟩,bf a e,t.heap a,fE,λ_=>rfl⟩
     simp only[Mu.mv,Mu.hd,f,i];simp
include C X in
def Oj{old l}(f:ShM b o w s)(V:Mu.loc (.sw old l))(h:nM P n b o kind (.sw old l) cs g):lD P n b o kind Wd cs g w main (.sw old l) s:=by
 obtain⟨c,y,fr,frs,⟨rfl,E,F,G,H,I,J⟩,m,i,d,rfl⟩:=h;obtain⟨L,K,S,N⟩:=old;obtain⟨aw,sv,it⟩:=l;simp only at E F G H I J i d;subst F;subst G;subst H;subst I;subst J;have j:it<4:=V.2.2.2.2.2;have M:(SW P n b o kind it).1.kind≠.early:=by simp[SW,cI]
 have a:∀q:Bool,∀x,SR y (.word true q false 0) x->x=.int .i32 (enc true q false N):=λq x W=>by have:=W.1;rw[E,abF]at this;exact this
 by_cases p:s.w=⟨true,false,false,N⟩
 . have O:=f.cw
   rw[p]at O;obtain⟨r,k,t,u,v⟩:=PR (Wd:=Wd) (x:=.bool true) (C.cZ (Fl.of y) b o kind true it) m i d rfl;obtain⟨z,A,B⟩:=A7 C X (Wd:=Wd) (cs:=cs) j m t u;refine⟨_,_,_,.rd ⟨true,false,it+1⟩,{s with w:=⟨true,true,false,N⟩},.rd _,gO i (C.o8 b o kind it) M X.jZ (a false) (a true) O (f.fz o),by simp[Mu.mv,p],.rd _,⟨rfl,z,(v cs).trans A,B⟩,vr rfl,f.aT ⟨true,true,false,N⟩,kg (.inl rfl),λ_=>rfl⟩
 . have D:¬enc s.w.L s.w.K s.w.S s.w.N=enc true false false N:=λe=>p (by
    obtain⟨Q,R,T,U⟩:=Gw.1 e;obtain⟨⟨L,K,S,Y⟩,ms⟩:=s;simp only at Q R T U;subst Q;subst R;subst T;subst U;rfl)
   obtain⟨r,k,t,u,v⟩:=PR (Wd:=Wd) (x:=.bool false) (C.cZ (Fl.of y) b o kind false it) m i d rfl;obtain⟨z,A,B⟩:=A7 C X (Wd:=Wd) (cs:=cs) j m t u;exact⟨_,_,_,.rd ⟨false,false,it+1⟩,s,.rd _,iv i (C.o8 b o kind it) M X.jZ (a false) (a true) f.cw (f.fz o) D,by simp[Mu.mv,p],.rd _,⟨rfl,z,(v cs).trans A,B⟩,bf rfl,f,Gr (.inl rfl),λ_=>rfl⟩
end
section
variable{P:acw}{n:Co}(C:fY P n)(X:fZ P n){b o:Nat}{kind:acr}{Wd:abZ}{cs:acf}{g:ack}{w:World}{main:Bool}{s:Mu.Sh}
def PU{a c:Mu.Wd}:a=c↔enc a.L a.K a.S a.N=enc c.L c.K c.S c.N:=by obtain⟨L,K,S,N⟩:=a;obtain⟨b,d,e,f⟩:=c;rw[Gw];simp
include C X in
def Kt{old l}(f:ShM b o w s)(E:Mu.loc (.jZ old l))(h:nM P n b o kind (.jZ old l) cs g):lD P n b o kind Wd cs g w main (.jZ old l) s:=by
 obtain⟨c,y,fr,frs,⟨rfl,u⟩,t,j,a,rfl⟩:=h;obtain⟨L,K,S,N⟩:=old;obtain⟨aw,sv,it⟩:=l;simp only at u j a
 have k:(aw && !K)=false:=by
  cases aw with
  |false=>rfl
  |true=>have:=E.1 rfl;simp at this;simp[this]
 have A:(Cq P n b o kind L K S aw sv it).1.kind≠.early:=by simp[Cq,cI]
 have hold:∀x,SR y (.word L K S 0) x->x=.int .i32 (enc L K S N):=λx v=>by have:=v.1;rw[u,abF]at this;exact this
 have i:∀x,SR y (Od L K S aw sv) x->x=.int .i32 (enc (Mu.pv ⟨L,K,S,N⟩ ⟨aw,sv,it⟩).L (Mu.pv ⟨L,K,S,N⟩ ⟨aw,sv,it⟩).K (Mu.pv ⟨L,K,S,N⟩ ⟨aw,sv,it⟩).S (Mu.pv ⟨L,K,S,N⟩ ⟨aw,sv,it⟩).N):=λx v=>by have:=v.1;rw[u]at this;rw[this];simp only[Mu.pv];congr 2;split<;>simp
 by_cases p:s.w=⟨L,K,S,N⟩
 . have B:=f.cw
   rw[p]at B;have m:=gO (main:=main) (cs:=frs++cs) j (C.VA b o kind L K S aw sv it) A X.jZ hold i B (f.fz o)
   by_cases d:(L||S)=true
   . have q:((.gi sv:Mu.Pc),({s with w:=Mu.pv ⟨L,K,S,N⟩ ⟨aw,sv,it⟩}:Mu.Sh))∈Mu.mv (.jZ ⟨L,K,S,N⟩ ⟨aw,sv,it⟩) s:=by
      simp only[Mu.mv,k,KD,LK,p,ZD,d,lb]
     by_cases r:y.ws=0
     . have key:=C.Ts (Fl.of y) b o kind L K S aw sv it d
       rw[PS (by simpa using r)]at key
       exact⟨_,_,_,_,_,.t1 sv,m,q,.t1 _,nxt key t j a rfl rfl,vr rfl,f.aT _,kg (.inl rfl),λ_=>rfl⟩
     . have key:=C.Tt (Fl.of y) b o kind L K S aw sv it d
       rw[PS (by simpa using r)]at key
       exact⟨_,_,_,_,_,.gi sv,m,q,.gi _,nxt key t j a rfl rfl,vr rfl,f.aT _,kg (.inl rfl),λ_=>rfl⟩
   . have D:(L||S)=false:=by simpa using d
     have F:L=false:=by cases L<;>simp_all
     have G:S=false:=by cases S<;>simp_all
     subst F;subst G;refine⟨_,_,_,.held,{s with w:=Mu.pv ⟨false,K,false,N⟩ ⟨aw,sv,it⟩},.le,m,?_,.held,nxt (C.m8 (Fl.of y) b o kind K aw sv it) t j a rfl (.inr rfl),vr rfl,f.aT _,kg (.inl rfl),λ_=>rfl⟩
     simp only[Mu.mv,k,KD,LK,p,ZD,Bool.or_self,lb]
 . have z:¬enc s.w.L s.w.K s.w.S s.w.N=enc L K S N:=λe=>p (PU.2 e)
   refine⟨_,_,_,.rd ⟨aw,sv,it⟩,s,.rd _,iv j (C.VA b o kind L K S aw sv it) A X.jZ hold i f.cw (f.fz o) z,?_,.rd _,nxt (C.il (Fl.of y) b o kind L K S aw sv it) t j a rfl (.inr (.inr rfl)),bf rfl,f,Gr (.inl rfl),λ_=>rfl⟩
   simp only[Mu.mv,k,KD,LK,p,lb]
include C X in
def HK{sv}(f:ShM b o w s)(j:s.ms≠0)(h:nM P n b o kind (.gi sv) cs g):lD P n b o kind Wd cs g w main (.gi sv) s:=by
 obtain⟨c,y,fr,frs,rfl,k,i,d,rfl⟩:=h;have a:=sB (main:=main) (cs:=frs++cs) (w:=w) (n:=(s.ms:Int)) i (C.VB b o kind sv) (by simp[PK,cI]) X.EG f.cs (by omega) (f.fz _);have e:((s.ms:Int)-1)=((s.ms-1:Nat):Int):=by omega
 rw[e]at a;cases sv with
 |true=>exact⟨_,_,_,.up true,{s with ms:=s.ms-1},.up true,a,by simp[Mu.mv,j],.up _,nxt (C.Tu (Fl.of y) b o kind) k i d rfl rfl,Og rfl,f.EK _,vE,λ_=>rfl⟩
 |false=>exact⟨_,_,_,.tq,{s with ms:=s.ms-1},.tq,a,by simp[Mu.mv,j],.tq,nxt (C.Tv (Fl.of y) b o kind) k i d rfl rfl,Og rfl,f.EK _,vE,λ_=>rfl⟩
include C X in
def Cu{sv}(d:ShM b o w s)(e:s.ms=0)(h:nM P n b o kind (.gi sv) cs g):stepG P main g w=.go {g with status:=.blocked} w #[]:=by obtain⟨c,y,fr,frs,rfl,j,f,i,rfl⟩:=h;have a:=d.cs;rw[e]at a;exact zt f (C.VB b o kind sv) X.EG a
include C X in
def Ok(j:ShM b o w s)(h:nM P n b o kind .tq cs g):lD P n b o kind Wd cs g w main .tq s:=by
 obtain⟨c,y,fr,frs,rfl,k,i,d,rfl⟩:=h;have e:=zu (P:=P) (main:=main) (cs:=frs++cs) (w:=w) i (C.WT b o kind) (by simp[TQ,cI]) X.nano X.Kl;have f:=i.re (y':={y with tn:=((w.os.mono+w.tick:Nat):Int)}) (.inl rfl) (.inl rfl) (.inl rfl) (.inr rfl);have a:=d.gy (y':={y with tn:=((w.os.mono+w.tick:Nat):Int)}) (by simpa[TQ,cI]using C.p2 b o kind);have key:=C.lU (Fl.of {y with tn:=((w.os.mono+w.tick:Nat):Int)}) b o kind (decide (IntKind.i64.wrap (((w.os.mono+w.tick:Nat):Int)-y.ws)>1000000));rw[Tz rfl]at key;refine⟨_,_,_,.up (decide (IntKind.i64.wrap (((w.os.mono+w.tick:Nat):Int)-y.ws)>1000000)),s,.up _,e,?_,.up _,nxt (y:={y with tn:=((w.os.mono+w.tick:Nat):Int)}) key k f a rfl rfl,bf rfl ⟨⟨w.tick,rfl⟩,rfl⟩,j.heap rfl,fE,λ_=>rfl⟩;cases decide (IntKind.i64.wrap (((w.os.mono+w.tick:Nat):Int)-y.ws)>1000000)<;>simp[Mu.mv]
include C X in
def Ol{sv}(m:ShM b o w s)(hb:s.w.N<=1000)(v:∀q s',(q,s')∈Mu.mv (.up sv) s->Mu.loc q)(h:nM P n b o kind (.up sv) cs g):lD P n b o kind Wd cs g w main (.up sv) s:=by
 obtain⟨c,y,fr,frs,rfl,A,x,p,rfl⟩:=h;have f:({y with N:=(s.w.N:Int)}:Sy).ok:=⟨⟨by simp,by show(s.w.N:Int)<=1000;omega⟩,A.2⟩
 have i:=x.re (y':={y with N:=(s.w.N:Int)}) (.inr rfl) (.inl rfl) (.inl rfl) (.inl rfl)
 have e:=p.gy (y':={y with N:=(s.w.N:Int)}) (by simpa[UP,cI]using C.p2 b o kind)
 have j:=qo (main:=main) (cs:=frs++cs) x (C.WU b o kind sv) X.Tw X.nS m.cw
 by_cases k:s.w.S=true
 . have r:(s.w.L||s.w.K||decide (s.w.N=0))=false:=by
    cases B:(s.w.L||s.w.K||decide (s.w.N=0))with
    |false=>rfl
    |true=>exact(v .bad s (by simp[Mu.mv,k,B])).elim
   have a:((.add s.w sv:Mu.Pc),s)∈Mu.mv (.up sv) s:=by simp[Mu.mv,k,r]
   simp only[abk,aad]at r;obtain⟨⟨D,E⟩,t⟩:=r;have key:=C.Oe (Fl.of {y with N:=(s.w.N:Int)}) b o kind sv (decide (s.w.N=1))
   rw[QO (by show decide ((s.w.N:Int)=0)=false;simpa using t) (by show decide ((s.w.N:Int)=1)=decide (s.w.N=1);rw[aaL,aaZ,aaZ];omega)]at key
   have u:SR {y with N:=(s.w.N:Int)} (.word false false true 0) (.int .i32 (enc s.w.L s.w.K s.w.S s.w.N)):=by rw[D,E,k];exact qt rfl
   exact⟨_,w,#[],_,s,.add s.w sv,j,a,.add _ _,nxt (y:={y with N:=(s.w.N:Int)}) key f i e u rfl,bf rfl,m,fE,λ_=>rfl⟩
 . have d:s.w.S=false:=by simpa using k
   have a:(Mu.nx s.w ⟨true,sv,0⟩,s)∈Mu.mv (.up sv) s:=by simp[Mu.mv,d]
   have u:SR {y with N:=(s.w.N:Int)} (.word s.w.L s.w.K false 0) (.int .i32 (enc s.w.L s.w.K s.w.S s.w.N)):=by rw[d];exact qt rfl
   obtain⟨F,z,G,H,I⟩:=Tx (Wd:=Wd) (C.yG (Fl.of {y with N:=(s.w.N:Int)}) b o kind s.w.L s.w.K sv) f i e u
   obtain⟨J,M,O⟩:=Gz C (Wd:=Wd) (cs:=cs) (old:=s.w) (l:=⟨true,sv,0⟩) f rfl (by rw[d];exact G) (by rw[d];exact H) (v _ _ a)
   exact⟨_,w,#[],_,s,Sg s.w ⟨true,sv,0⟩,j,a,PT _ _,⟨rfl,J,(I cs).trans M,O⟩,bf rfl,m,fE,λ_=>rfl⟩
include C X in
def Ku{old sv}(d:ShM b o w s)(hb:s.w.N<=1000)(j:s.w.L=false)(k:s.w.S=true)(q:s.w.N≠0)(h:nM P n b o kind (.add old sv) cs g):lD P n b o kind Wd cs g w main (.add old sv) s:=by
 obtain⟨c,y,fr,frs,rfl,l,i,f,rfl⟩:=h;have a:=px (main:=main) (cs:=frs++cs) (w:=w) i (C.WV b o kind _) (by simp[AD,cI]) X.add (λx h=>h) d.cw (d.fz _)
 have e:IntKind.i32.wrap (enc s.w.L s.w.K s.w.S s.w.N+(if !sv||decide (old.N=1)then -11 else -7))=enc true s.w.K (s.w.S && !(!sv||decide (old.N=1))) (s.w.N-1:Nat):=by
  rw[j,k];have m:((s.w.N-1:Nat):Int)=(s.w.N:Int)-1:=by omega
  rw[m];generalize (!sv||decide (old.N=1))=x;have p:=lz (L:=false) (K:=s.w.K) (S:=true) (N:=(s.w.N:Int));rw[iO (by split<;>omega) (by split<;>omega)];unfold enc;cases x<;>cases s.w.K<;>simp[Bool.toNat]<;>omega
 rw[e]at a;exact⟨_,_,_,.held,{s with w:={s.w with L:=true,S:=s.w.S && !(!sv||decide (old.N=1)),N:=s.w.N-1}},.le,a,by simp[Mu.mv],.held,nxt (C.m9 (Fl.of y) b o kind _) l i f trivial (.inr rfl),vr rfl,d.aT {s.w with L:=true,S:=s.w.S && !(!sv||decide (old.N=1)),N:=s.w.N-1},kg (.inl rfl),λ_=>rfl⟩
include C X in
def HL(t:ShM b o w s)(hb:s.w.N<=1000)(q:s.w.L=true)(h:nM P n b o kind .held cs g):lD P n b o kind Wd cs g w main .held s:=by
 obtain⟨c,y,fr,frs,rfl,A,z,u,rfl⟩:=h;have k:({y with N:=(s.w.N:Int)}:Sy).ok:=⟨⟨by simp,by show(s.w.N:Int)<=1000;omega⟩,A.2⟩
 have l:=z.re (y':={y with N:=(s.w.N:Int)}) (.inr rfl) (.inl rfl) (.inl rfl) (.inl rfl)
 have d:=u.gy (y':={y with N:=(s.w.N:Int)}) (by simpa[rB,oO]using(C.p3 b o kind).1)
 have i:=px (main:=main) (cs:=frs++cs) (w:=w) z (C.VD b o kind) (by simp[rB,oO]) X.add (λx h=>h) t.cw (t.fz _)
 have e:IntKind.i32.wrap (enc s.w.L s.w.K s.w.S s.w.N+-1)=enc false s.w.K s.w.S s.w.N:=by
  rw[q];have B:=lz (L:=true) (K:=s.w.K) (S:=s.w.S) (N:=(s.w.N:Int));rw[iO (by omega) (by omega)]
  unfold enc;simp[Bool.toNat];omega
 rw[e]at i;have m:=t.aT {s.w with L:=false}
 have p:SR {y with N:=(s.w.N:Int)} (.word false s.w.K s.w.S 0) (.int .i32 (enc false s.w.K s.w.S s.w.N)):=qt rfl
 by_cases r:s.w.S=true
 . have key:=C.WH (Fl.of {y with N:=(s.w.N:Int)}) b o kind (decide ((s.w.N:Int)=0)) s.w.K
   rw[r]at p;exact⟨_,_,_,.give,{s with w:={s.w with L:=false}},.give,i,by simp[Mu.mv,q,r,Mu.Wd.zero],.give,nxt (y:={y with N:=(s.w.N:Int)}) key k l d (by rw[r];exact p) (.inr rfl),vr rfl,m,kg (.inl rfl),λ_=>rfl⟩
 . have f:s.w.S=false:=by simpa using r
   by_cases v:(decide ((s.w.N:Int)=0)||s.w.K)=true
   . have key:=C.u5 (Fl.of {y with N:=(s.w.N:Int)}) b o kind (decide ((s.w.N:Int)=0)) s.w.K v
     refine⟨_,_,_,.out,{s with w:={s.w with L:=false}},.ue,i,?_,.out,nxt (y:={y with N:=(s.w.N:Int)}) key k l d (by rw[f]at p ⊢;exact p) rfl,vr rfl,m,kg (.inl rfl),λ_=>rfl⟩
     have a:(decide (s.w.N=0)||s.w.K)=true:=by simpa using v
     simp only[Mu.mv,q,aaW,LK,lb,zG,and_true];split
     . rfl
     . simp only
   . have a:(decide ((s.w.N:Int)=0)||s.w.K)=false:=by simpa using v
     simp only[abk,aad]at a;have j:s.w.N≠0:=by have:=a.1;omega
     have key:=C.WI (Fl.of {y with N:=(s.w.N:Int)}) b o kind
     rw[Gy (by show decide ((s.w.N:Int)=0)=false;simpa using j)]at key
     rw[a.2,f]at p;refine⟨_,_,_,.iU {s.w with L:=false},{s with w:={s.w with L:=false}},.iU _,i,?_,.iU _,nxt (y:={y with N:=(s.w.N:Int)}) key k l d (by rw[a.2,f];exact p) ⟨rfl,rfl,rfl,a.2,f,j⟩,vr rfl,m,kg (.inl rfl),λ_=>rfl⟩
     have D:({s.w with L:=false}:Mu.Wd)≠Mu.Wd.zero:=λe=>j (by have:=congrArg Mu.Wd.N e;exact this)
     simp[Mu.mv,q,f,j,a.2,Mu.Wd.zero]
include C X in
def HM{old}(d:ShM b o w s)(h:nM P n b o kind (.iU old) cs g):lD P n b o kind Wd cs g w main (.iU old) s:=by
 obtain⟨c,y,fr,frs,⟨rfl,k,q,r,t,l⟩,u,i,f,rfl⟩:=h;obtain⟨L,K,S,N⟩:=old;simp only at k q r t l;subst q;subst r;subst t;have v:(UC P n b o kind).1.kind≠.early:=by simp[UC,uU]
 have hold:∀x,SR y wf x->x=.int .i32 (enc false false false N):=λx m=>by have:=m.1;rw[k,abF]at this;exact this
 have a:∀x,SR y (.word false true false (-1)) x->x=.int .i32 (enc false true false (N-1:Nat)):=λx m=>by have:=m.1;rw[k]at this;rw[this];congr 2;omega
 by_cases j:s.w=⟨false,false,false,N⟩
 . have z:=d.cw
   rw[j]at z;exact⟨_,_,_,.give,{s with w:=⟨false,true,false,N-1⟩},.give,gO i (C.VE b o kind) v X.jZ hold a z (d.fz o),by simp[Mu.mv,j],.give,nxt (C.WJ (Fl.of y) b o kind) u i f rfl (.inl rfl),vr rfl,d.aT ⟨false,true,false,N-1⟩,kg (.inl rfl),λ_=>rfl⟩
 . have p:¬enc s.w.L s.w.K s.w.S s.w.N=enc false false false N:=λe=>j (PU.2 e)
   exact⟨_,_,_,.vp,s,.vp,iv i (C.VE b o kind) v X.jZ hold a d.cw (d.fz o) p,by simp[Mu.mv,j],.vp,nxt (C.WK (Fl.of y) b o kind) u i f rfl rfl,bf rfl,d,Gr (.inl rfl),λ_=>rfl⟩
include C X in
def Kv(k:ShM b o w s)(hb:s.w.N<=1000)(h:nM P n b o kind .vp cs g):lD P n b o kind Wd cs g w main .vp s:=by
 obtain⟨c,y,fr,frs,rfl,x,v,l,rfl⟩:=h;have e:({y with N:=(s.w.N:Int)}:Sy).ok:=⟨⟨by simp,by show(s.w.N:Int)<=1000;omega⟩,x.2⟩
 have f:=v.re (y':={y with N:=(s.w.N:Int)}) (.inr rfl) (.inl rfl) (.inl rfl) (.inl rfl)
 have d:=l.gy (y':={y with N:=(s.w.N:Int)}) (by simpa[NP,uU]using C.p4 b o kind)
 have i:=qo (main:=main) (cs:=frs++cs) v (C.W8 b o kind) X.Tw X.nV k.cw;have m:SR {y with N:=(s.w.N:Int)} (.word s.w.L s.w.K s.w.S 0) (.int .i32 (enc s.w.L s.w.K s.w.S s.w.N)):=qt rfl
 by_cases p:(decide ((s.w.N:Int)=0)||s.w.L||s.w.K||s.w.S)=true
 . have key:=C.u7 (Fl.of {y with N:=(s.w.N:Int)}) b o kind (decide ((s.w.N:Int)=0)) s.w.L s.w.K s.w.S p
   have a:(decide (s.w.N=0)||s.w.L||s.w.K||s.w.S)=true:=by simpa using p
   exact⟨_,w,#[],.out,s,.ue,i,by simp only[Mu.mv,a,ZD,lb],.out,nxt (y:={y with N:=(s.w.N:Int)}) key e f d m rfl,bf rfl,k,fE,λ_=>rfl⟩
 . have a:(decide ((s.w.N:Int)=0)||s.w.L||s.w.K||s.w.S)=false:=by simpa using p
   have q:(decide (s.w.N=0)||s.w.L||s.w.K||s.w.S)=false:=by rw[<-a];simp
   simp only[abk,aad]at a;obtain⟨⟨⟨z,r⟩,t⟩,u⟩:=a;have j:s.w.N≠0:=by omega
   have key:=C.WL (Fl.of {y with N:=(s.w.N:Int)}) b o kind
   rw[Gy (by show decide ((s.w.N:Int)=0)=false;simpa using j)]at key
   rw[r,t,u]at m;exact⟨_,w,#[],.iU s.w,s,.iU _,i,by simp only[Mu.mv,q,KD,LK,lb],.iU _,nxt (y:={y with N:=(s.w.N:Int)}) key e f d (by rw[r,t,u];exact m) ⟨rfl,rfl,r,t,u,j⟩,bf rfl,k,fE,λ_=>rfl⟩
include C X in
def HN(d:ShM b o w s)(l:s.ms<=1000)(h:nM P n b o kind .give cs g):lD P n b o kind Wd cs g w main .give s:=by
 obtain⟨c,y,fr,frs,k,j,i,f,rfl⟩:=h;have e:IntKind.u32.wrap ((s.ms:Int)+1)=((s.ms+1:Nat):Int):=by rw[IntKind.wrap_u32];omega
 rcases k with rfl|rfl
 . have a:=nZ (main:=main) (cs:=frs++cs) (w:=w) i (C.VF b o kind) (by simp[G7,uU]) X.n8 d.cs (d.fz _)
   rw[e]at a;exact⟨_,_,_,.out,{s with ms:=s.ms+1},.ue,a,by simp[Mu.mv],.out,nxt (C.u8 (Fl.of y) b o kind) j i f rfl rfl,Og rfl,d.EK _,vE,λ_=>rfl⟩
 . have a:=nZ (main:=main) (cs:=frs++cs) (w:=w) i (C.VG b o kind) (by simp[G9,uU]) X.n8 d.cs (d.fz _)
   rw[e]at a;exact⟨_,_,_,.out,{s with ms:=s.ms+1},.ue,a,by simp[Mu.mv],.out,nxt (C.u9 (Fl.of y) b o kind) j i f rfl rfl,Og rfl,d.EK _,vE,λ_=>rfl⟩
end
