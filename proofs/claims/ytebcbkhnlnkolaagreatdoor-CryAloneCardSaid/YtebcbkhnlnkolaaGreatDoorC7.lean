import Derived.Conc.ClockLaws
import Derived.Conc.MarkLaws
import Derived.Conc.AtomicLaws2
import Derived.Conc.SmallLaws
import Derived.Laws.LoneSync
import Derived.Test.YtebcbkhnlnkolaaGreatDoorC6
set_option linter.all false
namespace Go.bN
open Go.Conc
abbrev aeM:=List (Nat × SV)
def bn(s:sa):Option (FuncId × List SV):=
 match s.mode,s.todo with
 | .run, .inRegion ops (i::_)::_=>match ops[i]? with
   | some o=>match Cr ops s.env o with
     | some true=>match o.op with
       | .call c=>match c.callee with
         |.value (.func f)=>some (f,c.args.toList.map (sv s.env))
         |_=>none
       |_=>none
     |_=>none
   |none=>none
 |_,_=>none
def tJ(s:sa):Option (TypeId × SV):=
 match s.mode,s.todo with
 | .run,.inRegion ops (i::_)::_=>match ops[i]? with
   | some o=>match Cr ops s.env o with
     | some true=>match o.op with
       |.load t x=>some (t,sv s.env x)
       |_=>none
     |_=>none
   |none=>none
 |_,_=>none
structure Ext(P:afn)(f:FuncId)  e :Prop where
 ex:∃fn,P.funcs[f]?=some fn/\(fn.name==  "runtime.NumGoroutine")=false/\fn.body.isNone=true/\Extern.findNext fn=none/\Extern.find fn=some e
def dQ {y s fr f svs} (j:FR y s fr) (h:bn s=some (f,svs)) :
 ∃ ops i rest kk o as a,ops[i]? = some o∧Region.wanted o (yielded ops fr.tmps)=true∧o.op = .call { callee:=.value (.func f),args:=as,argTypes:=a }∧svs=as.toList.map (sv s.env) ∧
   fr=(fr.at ⟨fr.tmps,fr.defers⟩ (.inRegion ops (i :: rest) :: kk))∧∀ v,fr.at ((⟨fr.tmps,fr.defers⟩:Act).put o.dst v) (.inRegion ops rest :: kk)=fr.finish v:=by
 have d:=j;obtain⟨fn,tmps,todo,defs,mode,kind,ro⟩:=fr;obtain⟨n,e,p,b,q,k,r,t⟩:=j;simp only at n e p b q k r t;subst k;unfold bn at h;split at h
 . rename_i ops i rest kk u w
   rw[u] at b;rw[w] at e;have b:mode = .run:=b;subst b;subst e;split at h
   . rename_i o l
     split at h
     . rename_i x
       split at h
       . rename_i c z
         split at h
         . rename_i g m
           simp only[kn,zU] at h;obtain⟨rfl,rfl⟩:=h;obtain⟨callee,args,a⟩:=c;simp only at m;subst m;refine⟨ops,i,rest,kk,o,args,a,l,sF d x,z,rfl,rfl,fun v=>?_⟩
           simp only[Frame.finish,l,Option.bind_some,Act.put,Frame.at]
           grind
         cases h
       cases h
     cases h
   cases h
 cases h
section
variable{P:afn}{main:Bool}{y:Sy}{s:sa}{fr:Frame}{f:FuncId}{svs:List SV}{cs:aeY}{w:World}
def FW{fr:Frame}  x :(⟨fr.tmps,fr.defers⟩:Act).eval x=fr.eval x:=by cases x<;>rfl
def Ea {as:Array afo} (b:FR y s fr) {svs} (h:svs=as.toList.map (sv s.env)):∀ (j:Nat)  v ,svs[j]? = some v->∃ x,(as.map (⟨fr.tmps,fr.defers⟩:Act).eval)[j]? = some x∧SR y v x:=fun j v a=>by
 subst h;rw[aaM,aeB] at a;obtain⟨x,c,rfl⟩:=aaD.1 a;exact⟨fr.eval x,by simp[c,FW],b.sv x⟩
def ga {m} (d:∀ g,m ≠ .extern g) (c:FR y s fr) (h:bn s=some (f,svs)) (e:s.kind ≠ .early) (j:Ext P f (fun _=>do mark m;pure Extern.Race.none_)):stepG P main (G fr cs) w = .go (G (fr.finish (.tuple #[])) cs) w #[⟨.mark m,false,true⟩]:=by
 obtain⟨ops,i,rest,kk,o,as,k,l,n,p,x,z,A⟩:=dQ c h;obtain⟨fn,q,r,t,u,v⟩:=j.ex;have:=stepG_mark0 (P:=P) (main:=main) (b:=fr) (a:=⟨fr.tmps,fr.defers⟩) (kk:=kk) (cs:=cs) (w:=w) (rest:=rest) m d l n (by rw[c.kind];exact e) p q r t u v
 grind
def gQ {mk} (j:∀ ad g,mk ad ≠ .extern g) {ad} (d:FR y s fr) (h:bn s=some (f,[.lit (.pointer (some ad))])) (k:s.kind ≠ .early) (l:Ext P f (Extern.Race.marked mk)):stepG P main (G fr cs) w = .go (G (fr.finish (.tuple #[])) cs) w #[⟨.mark (mk ad),false,true⟩]:=by
 obtain⟨ops,i,rest,kk,o,as,m,n,p,q,r,B,C⟩:=dQ d h;obtain⟨fn,t,u,v,z,A⟩:=l.ex;obtain⟨x,e,c⟩:=Ea d r 0 _ rfl;have c:x = .pointer (some ad):=c;rw[c] at e;have:=stepG_markAt (P:=P) (main:=main) (b:=fr) (a:=⟨fr.tmps,fr.defers⟩) (kk:=kk) (cs:=cs) (w:=w) (rest:=rest) mk j n p (by rw[d.kind];exact k) q t u v z A e
 grind
def FX {as a b c} (h:[a,b,c]=as.toList.map (sv s.env)):∃ x z u,as=#[x,z,u]∧sv s.env x=a∧sv s.env z=b∧sv s.env u=c:=by
 obtain⟨l⟩:=as
 match l,h with
 | [x,z,u],h=>grind
def N7 {as a b} (h:[a,b]=as.toList.map (sv s.env)):∃ x z,as=#[x,z]∧sv s.env x=a∧sv s.env z=b:=by
 obtain⟨l⟩:=as
 match l,h with
 | [x,z],h=>grind
def N8 {as a} (h:[a]=as.toList.map (sv s.env)):∃ x,as=#[x]∧sv s.env x=a:=by
 obtain⟨l⟩:=as
 match l,h with
 | [x],h=>grind
def jQ(b:FR y s fr){x a}(h:sv s.env x=a):SR y a ((⟨fr.tmps,fr.defers⟩:Act).eval x):=by subst h;rw[FW];exact b.sv x
def ji {k ad a b v n} (c:FR y s fr) (h:bn s=some (f,[.lit (.pointer (some ad)),a,b])) (e:s.kind ≠ .early) (g:Ext P f (Extern.Atomic.casT (.int k)))
 (j:∀ x,SR y a x->x = .int k v) (hb:∀ x,SR y b x->x = .int k n) (l:w.cell? ad=some (.int k v)) (m:w.frozen? ad=false) :
 stepG P main (G fr cs) w = .go (G (fr.finish (.bool true)) cs) (w.setCell ad (.int k n)) #[⟨.cell ad,false,true⟩,⟨.cell ad,true,true⟩]:=by
 obtain⟨ops,i,rest,kk,o,as,p,q,r,t,A,J,K⟩:=dQ c h;obtain⟨fn,B,C,D,E,F⟩:=g.ex;obtain⟨x,z,u,rfl,H,d,I⟩:=FX A;have:=stepG_cas_hit (P:=P) (main:=main) (b:=fr) (a:=⟨fr.tmps,fr.defers⟩) (kk:=kk) (cs:=cs) (w:=w) (rest:=rest) q r (by rw[c.kind];exact e) t B C D E k F (jQ c H) (j _ (jQ c d)) (hb _ (jQ c I)) l m
 grind
def jG {k ad a b v old n} (c:FR y s fr) (h:bn s=some (f,[.lit (.pointer (some ad)),a,b])) (g:s.kind ≠ .early) (j:Ext P f (Extern.Atomic.casT (.int k)))
 (l:∀ x,SR y a x->x = .int k old) (hb:∀ x,SR y b x->x = .int k n) (m:w.cell? ad=some (.int k v)) (p:w.frozen? ad=false) (d : ¬ v=old) :
 stepG P main (G fr cs) w = .go (G (fr.finish (.bool false)) cs) w #[⟨.cell ad,false,true⟩]:=by
 obtain⟨ops,i,rest,kk,o,as,q,r,t,A,B,K,L⟩:=dQ c h;obtain⟨fn,C,D,E,F,H⟩:=j.ex;obtain⟨x,z,u,rfl,I,e,J⟩:=FX B;have:=stepG_cas_miss (P:=P) (main:=main) (b:=fr) (a:=⟨fr.tmps,fr.defers⟩) (kk:=kk) (cs:=cs) (w:=w) (rest:=rest) r t (by rw[c.kind];exact g) A C D E F k H (jQ c I) (l _ (jQ c e)) (hb _ (jQ c J)) m p d
 grind
def sG {k ad a v d} (c:FR y s fr) (h:bn s=some (f,[.lit (.pointer (some ad)),a])) (g:s.kind ≠ .early) (j:Ext P f (Extern.Atomic.update (Op.intArith .add) k true))
 (l:∀ x,SR y a x->x = .int k d) (m:w.cell? ad=some (.int k v)) (n:w.frozen? ad=false) :
 stepG P main (G fr cs) w = .go (G (fr.finish (.int k (k.wrap (v+d)))) cs) (w.setCell ad (.int k (k.wrap (v+d)))) #[⟨.cell ad,false,true⟩,⟨.cell ad,true,true⟩]:=by
 obtain⟨ops,i,rest,kk,o,as,p,q,r,t,u,H,I⟩:=dQ c h;obtain⟨fn,A,B,C,D,E⟩:=j.ex;obtain⟨x,z,rfl,F,e⟩:=N7 u;have:=stepG_add_atomic (P:=P) (main:=main) (b:=fr) (a:=⟨fr.tmps,fr.defers⟩) (kk:=kk) (cs:=cs) (w:=w) (rest:=rest) q r (by rw[c.kind];exact g) t A B C D k E (jQ c F) (l _ (jQ c e)) m n
 grind
def vr {ad l n} (d:FR y s fr) (h:bn s=some (f,.lit (.pointer (some ad)) :: l)) (g:s.kind ≠ .early) (j:Ext P f Extern.Sync.semacquire) (k:w.cell? ad=some (.int .u32 n)) (m:n≠0) (p:w.frozen? ad=false) :
 stepG P main (G fr cs) w = .go (G (fr.finish (.tuple #[])) cs) (w.setCell ad (.int .u32 (n-1))) (semEvents ad):=by
 obtain⟨ops,i,rest,kk,o,as,q,r,t,u,v,E,F⟩:=dQ d h;obtain⟨fn,z,A,B,C,D⟩:=j.ex;obtain⟨x,e,c⟩:=Ea d v 0 _ rfl;have c:x = .pointer (some ad):=c;rw[c] at e;have:=stepG_semacquire (P:=P) (main:=main) (b:=fr) (a:=⟨fr.tmps,fr.defers⟩) (kk:=kk) (cs:=cs) (w:=w) (rest:=rest) r t (by rw[d.kind];exact g) u z A B C D e k m p
 grind
def Cy {ad l} (d:FR y s fr) (h:bn s=some (f,.lit (.pointer (some ad)) :: l)) (g:Ext P f Extern.Sync.semacquire) (j:w.cell? ad=some (.int .u32 0)) :
 stepG P main (G fr cs) w = .go { G fr cs with status:=.blocked } w #[]:=by
 obtain⟨ops,i,rest,kk,o,as,k,m,n,p,q,A,B⟩:=dQ d h;obtain⟨fn,r,t,u,v,z⟩:=g.ex;obtain⟨x,e,c⟩:=Ea d q 0 _ rfl;have c:x = .pointer (some ad):=c;rw[c] at e;have:=stepG_semacquire_wait (P:=P) (main:=main) (b:=fr) (a:=⟨fr.tmps,fr.defers⟩) (kk:=kk) (cs:=cs) (w:=w) (rest:=rest) m n p r t u v z e j
 grind
def qT {ad l n} (d:FR y s fr) (h:bn s=some (f,.lit (.pointer (some ad)) :: l)) (g:s.kind ≠ .early) (j:Ext P f Extern.Sync.semrelease) (k:w.cell? ad=some (.int .u32 n)) (m:w.frozen? ad=false) :
 stepG P main (G fr cs) w = .go (G (fr.finish (.tuple #[])) cs) (w.setCell ad (.int .u32 (IntKind.u32.wrap (n+1)))) (semEvents ad):=by
 obtain⟨ops,i,rest,kk,o,as,p,q,r,t,u,D,E⟩:=dQ d h;obtain⟨fn,v,z,A,B,C⟩:=j.ex;obtain⟨x,e,c⟩:=Ea d u 0 _ rfl;have c:x = .pointer (some ad):=c;rw[c] at e;have:=stepG_semrelease (P:=P) (main:=main) (b:=fr) (a:=⟨fr.tmps,fr.defers⟩) (kk:=kk) (cs:=cs) (w:=w) (rest:=rest) q r (by rw[d.kind];exact g) t v z A B C e k m
 grind
def Cz (d:FR y s fr) (h:bn s=some (f,svs)) (e:s.kind ≠ .early) (g:Ext P f Extern.OsHooks.nano) (j:∃ fn,P.funcs[f]? = some fn∧fn.norace=true) :
 stepG P main (G fr cs) w = .go (G (fr.finish (.int .i64 ((w.os.mono+w.tick:Nat):Int))) cs) w.later #[]:=by
 obtain⟨ops,i,rest,kk,o,as,k,l,m,n,x,z,A⟩:=dQ d h;obtain⟨fn,p,q,r,t,u⟩:=g.ex;obtain⟨c,B,v⟩:=j;obtain rfl:c=fn:=by grind
 have:=stepG_nanotime (P:=P) (main:=main) (b:=fr) (a:=⟨fr.tmps,fr.defers⟩) (kk:=kk) (cs:=cs) (w:=w) (rest:=rest) l m (by rw[d.kind];exact e) n p q r t u v
 grind
def K8 {n} (d:FR y s fr) (h:bn s=some (f,[.lit (.int .i64 n)])) (g:s.kind ≠ .early) (v:Ext P f Extern.Sync.canSpin) :
 ∃ b w',stepG P main (G fr cs) w = .go (G (fr.finish (.bool b)) cs) w' #[]∧(b=true->n<4)∧(w'=w∨w'=w.asked):=by
 obtain⟨ops,i,rest,kk,o,as,z,j,l,m,e,B,C⟩:=dQ d h;obtain⟨fn,p,q,r,t,u⟩:=v.ex;obtain⟨x,rfl,A⟩:=N8 e;have c:(⟨fr.tmps,fr.defers⟩:Act).eval x = .int .i64 n:=jQ d A
 by_cases e:n<4
 . have:=stepG_canSpin_ask (P:=P) (main:=main) (b:=fr) (a:=⟨fr.tmps,fr.defers⟩) (kk:=kk) (cs:=cs) (w:=w) (rest:=rest) j l (by rw[d.kind];exact g) m p q r t u (n:=n) (k:=.i64) (by simp[c]) e
   grind
 have:=stepG_canSpin_no (P:=P) (main:=main) (b:=fr) (a:=⟨fr.tmps,fr.defers⟩) (kk:=kk) (cs:=cs) (w:=w) (rest:=rest) j l (by rw[d.kind];exact g) m p q r t u (n:=n) (k:=.i64) (by simp[c]) (by omega)
 grind
def wJ {v} (c:FR y s fr) (h:bn s=some (f,svs)) (d:s.kind ≠ .early) (e:Ext P f (fun _=>pure v)):stepG P main (G fr cs) w = .go (G (fr.finish v) cs) w #[]:=by
 obtain⟨ops,i,rest,kk,o,as,g,j,k,l,t,u,x⟩:=dQ c h;obtain⟨fn,m,n,p,q,r⟩:=e.ex;have:=stepG_entry (P:=P) (main:=main) (b:=fr) (a:=⟨fr.tmps,fr.defers⟩) (kk:=kk) (cs:=cs) (w:=w) (rest:=rest) (v:=v) (w':=w) (evs:=#[]) j k (by rw[c.kind];exact d) l m n p q r (by simp) (by simp) (by simp)
 grind
def N9{α β P}{f:α->Sem β}  s :∀{a},pJ P s=some a->∀w es,(s.bind f).runT P w es=(f a).runT P w es:=by
 induction s with
 |pure b=>intro a h w es;simp only[pJ,kn]at h;subst h;rfl
 |program g c=>intro a h w es;simp only[pJ]at h;exact c P h w es
 |_=>intro a h;simp[pJ]at h
def tv{t:Nat}{ad v}(q:FR y s fr)(h:tJ s=some (t,.lit (.pointer (some ad))))(C:pJ P (isAgg t)=some false)(D:∃fn,P.funcs[s.fn]?=some fn/\fn.norace=true)(E:w.cell? ad=some v):
 stepG P main (G fr cs) w=.go (G (fr.finish v) cs) w #[]:=by
 have f:=q;obtain⟨fn,tmps,todo,defs,mode,kind,ro⟩:=fr;obtain⟨r,i,F,g,H,u,I,J⟩:=q;simp only at r i F g H u I J;subst u;unfold tJ at h;split at h
 . rename_i ops z rest A K j
   rw[K]at g;rw[j]at i;have g:mode=.run:=g;subst g;subst i;split at h
   . rename_i o L
     split at h
     . rename_i M
       split at h
       . rename_i a x k
         simp only[kn,zU]at h;obtain⟨rfl,N⟩:=h;have d:=f.sv x;rw[N]at d;have d:Frame.eval ⟨fn,tmps,.inRegion ops (z::rest)::A,defs,.run,kind,none⟩ x=.pointer (some ad):=d;obtain⟨O,l,p⟩:=D;subst r;rw[qm L (sF f M)];have hex:execOp (Frame.eval ⟨s.fn,tmps,.inRegion ops (z::rest)::A,defs,.run,kind,none⟩) o=Sem.bind (Instr.loadAt a (.pointer (some ad))) (λv=>pure (Next.value v)):=by simp only[execOp,k,d];rfl
         have e:(Sem.bind (Instr.loadAt a (.pointer (some ad))) (λv=>(pure (Next.value v):Sem Next))).runT P w #[]=(.ok (.value v) w,#[⟨.cell ad,false,false⟩]):=by
          have Q:Instr.loadAt a (.pointer (some ad))=Sem.bind (isAgg a) (λb=>if b=true then Sem.bind (sizeOf a) (λn=>Sem.bind (loadCells ad n) (λc=>pure (.agg c)))else load ad):=rfl
          rw[Q]
          have R:Sem.bind (Sem.bind (isAgg a) (λb=>if b=true then Sem.bind (sizeOf a) (λn=>Sem.bind (loadCells ad n) (λc=>pure (.agg c)))else load ad)) (λv=>(pure (Next.value v):Sem Next))=
           Sem.bind (isAgg a) (λb=>Sem.bind (if b=true then Sem.bind (sizeOf a) (λn=>Sem.bind (loadCells ad n) (λc=>pure (.agg c)))else load ad) (λv=>(pure (Next.value v):Sem Next))):=bind_assoc (m:=Sem) _ _ _
          rw[R,N9 _ C];show(Sem.bind (load ad) (λv=>(pure (Next.value v):Sem Next))).runT P w #[]=_
          unfold load;show Sem.runT P (Sem.load .plain ad λv=>pure (Next.value v)) w #[]=_
          simp only[Sem.runT,E];rfl
         rw[hex]
         have S:seen P s.fn #[⟨.cell ad,false,false⟩]=#[]:=by rw[seen_def];simp[l,p,seenStep]
         simp only[stepG.apply,aay,e,GStep.after]
         by_cases B:(kind==CallKind.early)=true
         . simp[B,iT,G]
         simp[B,S,G]
       cases h
     cases h
   cases h
 cases h
def mE(s:sa):Option (TypeId × TypeId × SV):=
 match s.mode,s.todo with
 | .run,.inRegion ops (i::_)::_=>match ops[i]? with
   | some o=>match Cr ops s.env o with
     | some true=>match o.op with
       |.convert a b x=>some (a,b,sv s.env x)
       |_=>none
     |_=>none
   |none=>none
 |_,_=>none
def wM{a b t ad}(l:FR y s fr)(h:mE s=some (a,b,.lit (.pointer (some ad))))(m:P.underlying a=some (.pointer t))(n:P.underlying b=some .unsafePointer)(p:(P.info? t).map (λi=>decide (i.size=0))=some false)(f:∃v,w.cell? ad=some v):
 stepG P main (G fr cs) w=.go (G (fr.finish (.pointer (some ad))) cs) w #[]:=by
 obtain⟨v,f⟩:=f;have d:=l;obtain⟨fn,tmps,todo,defs,mode,kind,ro⟩:=fr;obtain⟨z,g,A,e,B,q,C,D⟩:=l;simp only at z g A e B q C D;subst q;unfold mE at h;split at h
 . rename_i ops r rest u E j
   rw[E]at e;rw[j]at g;have e:mode=.run:=e;subst e;subst g;split at h
   . rename_i o F
     split at h
     . rename_i H
       split at h
       . rename_i I J x k
         simp only[kn,zU]at h;obtain⟨rfl,rfl,K⟩:=h;have c:=d.sv x;rw[K]at c;have c:Frame.eval ⟨fn,tmps,.inRegion ops (r::rest)::u,defs,.run,kind,none⟩ x=.pointer (some ad):=c;rw[qm F (sF d H)];have hex:execOp (Frame.eval ⟨fn,tmps,.inRegion ops (r::rest)::u,defs,.run,kind,none⟩) o=(do pure (.value (<-convert I J (.pointer (some ad)))):Sem Next):=by simp only[execOp,k,c]
         have L:=run_convert_to_unsafe m n p f;have M:=events_convert_to_unsafe m n p f #[];rw[hex];simp[stepG.apply,L,M,GStep.after,iT,G,Result.andThen]
       cases h
     cases h
   cases h
 cases h
end
def eL(P:afn)(f:FuncId)(args:List SV)(kind:afj):sa:=
 match P.funcs[f]? with
 |some fn=>⟨f,[.code (fn.body.getD .skip)],args++List.replicate (fn.ntmps-args.length) .cX,[],.run,kind⟩
 |none=>⟨f,[],args,[],.run,kind⟩
abbrev dt:=sa × List sa
def next(P:afn)(a:Fl)(c:dt)(v:SV):dt:=match Ab c.1 v with|some s=>sgo P a 400 s c.2|none=>c
def pt(b o:Nat):SV:=.lit (.pointer (some ⟨b,o,none⟩))
def un:SV:=.lit (.tuple #[])
def tt:SV:=.lit (.bool true)
def ff:SV:=.lit (.bool false)
def JK(live:aff)(env:List SV):List SV:=(List.range env.length).zipWith (λi v=>if live.contains i then v else .cX) env
def keep(live:aff)(s:sa):sa:={s with env:=JK live s.env}
def Oa(env:List SV):aeM->List SV
 |[]=>env
 |(i,v)::l=>Oa (env.set i v) l
def FR.keep{y:Sy}{s:sa}{fr:Frame}(h:FR y s fr)(live:aff):FR y (keep live s) fr:=by
 refine⟨h.fn,h.todo,h.defers,h.mode,h.kind,h.ro,?_,λt=>?_⟩
 . rw[h.size]
   show s.env.length=(JK live s.env).length;rw[JK,List.length_zipWith,adf,Nat.min_self]
 have:=h.env t;simp only[Go.bN.keep,JK];rw[zD,List.getElem?_zipWith];by_cases a:t<s.env.length
 . rw[aef a,zA a]
   simp only[acm];split
   . simp_all
   trivial
 simp_all
def plain:SV->Bool
 |.cX=>true
 |.lit _=>true
 |_=>false
def FR.iU{y y' s fr}(h:FR y s fr)(a:s.env.all plain=true):FR y' s fr:=by
 refine⟨h.fn,h.todo,h.defers,h.mode,h.kind,h.ro,h.size,λt=>?_⟩;have b:=h.env t
 have c:plain (s.env.getD t .cX)=true:=by
  rw[zD];cases q:s.env[t]? with
  |none=>rfl
  |some v=>grind
 generalize s.env.getD t .cX=v at *;cases v<;>simp_all [plain,SR]
structure FY where
 lock:Nat
 unlock:Nat
 Xg:Nat
 yF:Nat
 UG:Nat
 TE:Nat
 kO:Nat
 en:Nat
 acq:Nat
 rel:Nat
 my:Nat
 add:Nat
 K9:Nat
 wO:Nat
 nano:Nat
 H7:Nat
 qU:Nat
 tM:Nat
 tU:Nat
 tI:Nat
def Zj(c:dt):aff:=[c.1.fn,c.1.todo.length,(match c.1.todo with|.inRegion ops (i::_)::_=>i|_=>999),(match bn c.1 with|some (f,_)=>f|none=>match tJ c.1 with|some (t,_)=>1000+t|none=>999)]++c.2.map (·.fn)
def np:Fl:=⟨false,false,false,false,false,false⟩
def Ob(P:afn)(f:Fl):Nat->sa->List sa->dt
 |0,fr,st=>(fr,st)
 | n + 1,fr,st=>match ss P f fr st with
   | some (a,b)=>match a.todo with
     |.code _::.inLoop _::_=>(a,b)
     |_=>Ob P f n a b
   |none=>(fr,st)
def FZ(live:aff)(c:dt):dt:=(keep live c.1,c.2.map (keep []))
def aW(P:afn)(a:Fl)(live:aff)(c:dt)(v:SV):Option dt:=(Ab c.1 v).map λs=>FZ live (sgo P a 400 s c.2)
def sH(P:afn)(a:Fl)(live:aff)(c:dt)(v:SV):Option dt:=(Ab c.1 v).map λs=>FZ live (Ob P a 400 s c.2)
def Xh(P:afn)(a:Fl)(live:aff)(c:dt):dt:=FZ live (sgo P a 400 c.1 c.2)
def bl(x:Bool):SV:=.lit (.bool x)
def i64(n:Int):SV:=.lit (.int .i64 n)
def i32(n:Int):SV:=.lit (.int .i32 n)
def jk(n:Nat):List SV:=List.replicate n .cX
section
variable(P:afn)(n:FY)(b o:Nat)(kind:afj)
def wf:SV:=.word false false false 0
def wl:SV:=.word true false false 0
def Zk:dt:=FZ [0] (sgo P np 400 (eL P n.lock [pt b o] kind) [])
def Oc:dt:=next P np (Zk P n b o kind) un
def Xi:dt:=next P np (Oc P n b o kind) tt
def Xj:dt:=next P np (Xi P n b o kind) un
def Zl:dt:=next P np (Xj P n b o kind) (pt b o)
def H8:dt:=next P np (Oc P n b o kind) ff
def rHd:dt:=(sH P np [] (H8 P n b o kind) wf).getD (H8 P n b o kind)
def Zm:dt:=next P np (H8 P n b o kind) wl
def rSw:dt:=next P np (Zm P n b o kind) tt
def rDs:dt:=next P np (rSw P n b o kind) tt
def Zn:dt:=next P np (rDs P n b o kind) un
def UH:dt:=next P np (Zm P n b o kind) ff
def Zo:dt:=next P np (UH P n b o kind) ff
def Xk:dt:=next P np (next P np (H8 P n b o kind) wf) tt
def Xl:dt:=next P np (Xk P n b o kind) un
def Zp:dt:=next P np (Xl P n b o kind) (pt b o)
def rT1:dt:=next P np (UH P n b o kind) tt
def rPk:dt:=next P np (rT1 P n b o kind) .K7
def rTq:dt:=next P np (rPk P n b o kind) un
def rUp:dt:=next P np (rTq P n b o kind) .now
def rAd:dt:=next P np (rUp P n b o kind) (.word false false true 0)
def Xm:List sa:=(Zk P n b o kind).2
def Y0:List sa:=(H8 P n b o kind).2.map (keep [])
def oT(a:afb)(l:aeM):dt:=(⟨n.Xg,a,Oa (jk 13) l,[],.run,.normal⟩,Xm P n b o kind)
def di(a:afb)(l:aeM):dt:=(⟨n.UG,a,Oa (jk 139) l,[],.run,.normal⟩,Y0 P n b o kind)
def LD:dt:=Zk P n b o kind
def wP:dt:=oT P n b o kind (Oc P n b o kind).1.todo [(0,pt b o),(5,pt b o)]
def TF:dt:=oT P n b o kind (Xi P n b o kind).1.todo [(0,pt b o)]
def V7:dt:=oT P n b o kind (Xj P n b o kind).1.todo [(8,pt b o)]
def TG:dt:=oT P n b o kind (Zl P n b o kind).1.todo [(9,pt b o)]
def BK:dt:=(⟨n.lock,[],jk 6,[],.ret,kind⟩,[])
def TH(aw sv:Bool)(it:Int):aeM:=[(0,pt b o),(2,.K7),(3,bl sv),(4,bl aw),(5,i64 it)]
def Y1:dt:=di P n b o kind (H8 P n b o kind).1.todo [(0,pt b o),(2,i64 0),(3,ff),(4,ff),(5,i64 0),(12,pt b o)]
def UI(aw sv:Bool)(it:Int):dt:=di P n b o kind (H8 P n b o kind).1.todo (TH b o aw sv it++[(12,pt b o)])
def JL(aw sv:Bool)(it:Int):dt:=di P n b o kind (Zn P n b o kind).1.todo (TH b o aw sv it++[(47,pt b o)])
def UJ(aw sv:Bool)(it:Int):dt:=di P n b o kind (Zo P n b o kind).1.todo (TH b o aw sv it++[(133,pt b o)])
def HD(L K S aw sv:Bool)(it:Int):dt:=di P n b o kind (rHd P n b o kind).1.todo (TH b o aw sv it++[(6,.word L K S 0)])
def SQ(K aw sv:Bool)(it:Int):dt:=di P n b o kind (Zm P n b o kind).1.todo (TH b o aw sv it++[(6,.word true K false 0),(17,tt),(18,i64 it)])
def SW(it:Int):dt:=di P n b o kind (rSw P n b o kind).1.todo (TH b o false false it++[(33,tt),(36,pt b o),(37,.word true false false 0),(39,.word true true false 0)])
def DS(aw sv:Bool)(it:Int):dt:=di P n b o kind (rDs P n b o kind).1.todo (TH b o aw sv it)
def R2(L K S aw sv:Bool):SV:=.word (L||!S) (if aw then false else K) (S||(sv && L)) (if L||S then 1 else 0)
def F0(L K S aw sv:Bool)(it:Int):dt:=di P n b o kind (UH P n b o kind).1.todo (TH b o aw sv it++[(6,.word L K S 0),(77,pt b o),(78,.word L K S 0),(79,R2 L K S aw sv)])
def T1(sv:Bool):dt:=di P n b o kind (rT1 P n b o kind).1.todo [(0,pt b o),(3,bl sv)]
def PK(sv:Bool):dt:=di P n b o kind (rPk P n b o kind).1.todo [(0,pt b o),(2,.K7),(3,bl sv),(91,pt b (o+1))]
def TQ:dt:=di P n b o kind (rTq P n b o kind).1.todo [(0,pt b o),(2,.K7),(95,ff)]
def UP(sv:Bool):dt:=di P n b o kind (rUp P n b o kind).1.todo [(0,pt b o),(2,.K7),(3,bl sv),(103,pt b o)]
def AD(d:Int):dt:=di P n b o kind (rAd P n b o kind).1.todo [(0,pt b o),(128,pt b o),(129,i32 d)]
def Ro:dt:=di P n b o kind (Xk P n b o kind).1.todo [(0,pt b o)]
def V8:dt:=di P n b o kind (Xl P n b o kind).1.todo [(136,pt b o)]
def TJ:dt:=di P n b o kind (Zp P n b o kind).1.todo [(137,pt b o)]
def Zq:dt:=FZ [0,5] (sgo P np 400 (eL P n.unlock [pt b o] kind) [])
def Xn:dt:=next P np (Zq P n b o kind) .cX
def rUr:dt:=next P np (Xn P n b o kind) (pt b o)
def rUd:dt:=next P np (rUr P n b o kind) un
def JM:dt:=next P np (rUd P n b o kind) un
def rUe:dt:=next P {np with n0:=true} (JM P n b o kind) wf
def Y2:dt:=next P np (JM P n b o kind) wf
def rG9:dt:=next P np (JM P n b o kind) (.word false false true 0)
def rG7:dt:=next P np (Y2 P n b o kind) tt
def Zr:dt:=next P np (Y2 P n b o kind) ff
def Xo:List sa:=(Zq P n b o kind).2
def Zs:List sa:=(Y2 P n b o kind).2.map (keep [])
def rU(a:afb)(l:aeM):dt:=(⟨n.yF,a,Oa (jk 21) l,[],.run,.normal⟩,Xo P n b o kind)
def xT(a:afb)(l:aeM):dt:=(⟨n.TE,a,Oa (jk 43) l,[],.run,.normal⟩,Zs P n b o kind)
def U0:dt:=Zq P n b o kind
def V9:dt:=rU P n b o kind (Xn P n b o kind).1.todo [(0,pt b o),(7,pt b o)]
def UR:dt:=rU P n b o kind (rUr P n b o kind).1.todo [(0,pt b o),(8,pt b o)]
def UD:dt:=rU P n b o kind (rUd P n b o kind).1.todo [(0,pt b o)]
def uC:dt:=rU P n b o kind (JM P n b o kind).1.todo [(0,pt b o),(13,pt b o),(14,.cX)]
def UE:dt:=rU P n b o kind (rUe P n b o kind).1.todo []
def UC:dt:=xT P n b o kind (Y2 P n b o kind).1.todo [(0,pt b o),(27,pt b o),(28,wf),(29,.word false true false (-1))]
def G7:dt:=xT P n b o kind (rG7 P n b o kind).1.todo [(33,pt b (o+1))]
def G9:dt:=xT P n b o kind (rG9 P n b o kind).1.todo [(41,pt b (o+1))]
def Rq:dt:=xT P n b o kind (Zr P n b o kind).1.todo [(0,pt b o),(37,pt b o)]
def Xp:dt:=(⟨n.unlock,[],jk 6,[],.ret,kind⟩,[])
end
structure iH  P   n :Prop where
 e1:∀  fl  b o kind,aW P fl [0,5] (LD P n b o kind) un=some (wP P n b o kind)
 e2:∀  fl  b o kind,aW P fl [0] (wP P n b o kind) tt=some (TF P n b o kind)
 e3:∀  fl  b o kind,aW P fl [0,2,3,4,5,12] (wP P n b o kind) ff=some (Y1 P n b o kind)
 e4:∀  fl  b o kind,aW P fl [8] (TF P n b o kind) un=some (V7 P n b o kind)
 e5:∀  fl  b o kind,aW P fl [9] (V7 P n b o kind) (pt b o)=some (TG P n b o kind)
 e6:∀  fl  b o kind,aW P fl [] (TG P n b o kind) un=some (BK n kind)
 e70:∀  fl  b o kind L K S aw sv it,sH P fl [0,2,3,4,5,6] (UI P n b o kind aw sv it) (.word L K S 0)=some (HD P n b o kind L K S aw sv it)
 UK:∀  fl  b o kind L K S aw sv it,sH P fl [0,2,3,4,5,6] (JL P n b o kind aw sv it) (.word L K S 0)=some (HD P n b o kind L K S aw sv it)
 e72:∀  fl  b o kind L K S aw sv it,sH P fl [0,2,3,4,5,6] (UJ P n b o kind aw sv it) (.word L K S 0)=some (HD P n b o kind L K S aw sv it)
 e8:∀  fl  b o kind K aw sv it,Xh P fl [0,2,3,4,5,6,17,18] (HD P n b o kind true K false aw sv it)=SQ P n b o kind K aw sv it
 e9:∀  fl  b o kind L K S aw sv it,(L && !S)=false->(aw && !K)=false->Xh P fl [0,2,3,4,5,6,77,78,79] (HD P n b o kind L K S aw sv it)=F0 P n b o kind L K S aw sv it
 cu:∀(fl:Fl) b o kind it,aW P {fl with n0:=false} [0,2,3,4,5,33,36,37,39] (SQ P n b o kind false false false it) tt=some (SW P n b o kind it)
 Xq:∀(fl:Fl) b o kind n0 K aw sv it,(!aw && !K && !n0)=false->aW P {fl with n0:=n0} [0,2,3,4,5] (SQ P n b o kind K aw sv it) tt=some (DS P n b o kind aw sv it)
 bH:∀  fl  b o kind K aw sv it,(aw && !K)=false->aW P fl [0,2,3,4,5,6,77,78,79] (SQ P n b o kind K aw sv it) ff=some (F0 P n b o kind true K false aw sv it)
 fa:∀  fl  b o kind r it,aW P fl [0,2,3,4,5] (SW P n b o kind it) (bl r)=some (DS P n b o kind r false it)
 H9:∀  fl  b o kind aw sv,aW P fl [0,2,3,4,5,47] (DS P n b o kind aw sv 0) un=some (JL P n b o kind aw sv 1)
 Ia:∀  fl  b o kind aw sv,aW P fl [0,2,3,4,5,47] (DS P n b o kind aw sv 1) un=some (JL P n b o kind aw sv 2)
 Xr:∀  fl  b o kind aw sv,aW P fl [0,2,3,4,5,47] (DS P n b o kind aw sv 2) un=some (JL P n b o kind aw sv 3)
 Xs:∀  fl  b o kind aw sv,aW P fl [0,2,3,4,5,47] (DS P n b o kind aw sv 3) un=some (JL P n b o kind aw sv 4)
 BB:∀  fl  b o kind K aw sv it,aW P fl [0] (F0 P n b o kind false K false aw sv it) tt=some (Ro P n b o kind)
 Xt:∀(fl:Fl) b o kind L K S aw sv it,(L||S)=true->aW P {fl with wz:=true} [0,3] (F0 P n b o kind L K S aw sv it) tt=some (T1 P n b o kind sv)
 Xu:∀(fl:Fl) b o kind L K S aw sv it,(L||S)=true->aW P {fl with wz:=false} [0,2,3,91] (F0 P n b o kind L K S aw sv it) tt=some (PK P n b o kind sv)
 Eb:∀  fl  b o kind L K S aw sv it,aW P fl [0,2,3,4,5,133] (F0 P n b o kind L K S aw sv it) ff=some (UJ P n b o kind aw sv it)
 Ad:∀  fl  b o kind sv,aW P fl [0,2,3,91] (T1 P n b o kind sv) .K7=some (PK P n b o kind sv)
 Xv:∀  fl  b o kind,aW P fl [0,2,3,103] (PK P n b o kind true) un=some (UP P n b o kind true)
 Xw:∀  fl  b o kind,aW P fl [0,2,95] (PK P n b o kind false) un=some (TQ P n b o kind)
 wo:∀(fl:Fl) b o kind x,aW P {fl with tb:=x} [0,2,3,103] (TQ P n b o kind) .now=some (UP P n b o kind x)
 R3:∀(fl:Fl) b o kind sv n1,aW P {fl with n0:=false,n1:=n1} [0,128,129] (UP P n b o kind sv) (.word false false true 0)=some (AD P n b o kind (if !sv||n1 then -11 else -7))
 BR:∀(fl:Fl) b o kind L K sv,sH P fl [0,2,3,4,5,6] (UP P n b o kind sv) (.word L K false 0)=some (HD P n b o kind L K false true sv 0)
 yG:∀(fl:Fl) b o kind d,aW P fl [0] (AD P n b o kind d) .cX=some (Ro P n b o kind)
 yH:∀(fl:Fl) b o kind,aW P fl [136] (Ro P n b o kind) un=some (V8 P n b o kind)
 Nd:∀(fl:Fl) b o kind,aW P fl [137] (V8 P n b o kind) (pt b o)=some (TJ P n b o kind)
 yI:∀(fl:Fl) b o kind,aW P fl [] (TJ P n b o kind) un=some (BK n kind)
 u1:∀(fl:Fl) b o kind,aW P fl [0,7] (U0 P n b o kind) .cX=some (V9 P n b o kind)
 u2:∀(fl:Fl) b o kind,aW P fl [0,8] (V9 P n b o kind) (pt b o)=some (UR P n b o kind)
 u3:∀(fl:Fl) b o kind,aW P fl [0] (UR P n b o kind) un=some (UD P n b o kind)
 u4:∀(fl:Fl) b o kind,aW P fl [0,13] (UD P n b o kind) un=some (uC P n b o kind)
 u5:∀(fl:Fl) b o kind n0 K,(n0||K)=true->aW P {fl with n0:=n0} [] (uC P n b o kind) (.word false K false 0)=some (UE P n b o kind)
 u5g:∀(fl:Fl) b o kind n0 K,aW P {fl with n0:=n0} [41] (uC P n b o kind) (.word false K true 0)=some (G9 P n b o kind)
 u5c:∀(fl:Fl) b o kind,aW P {fl with n0:=false} [0,27,28,29] (uC P n b o kind) (.word false false false 0)=some (UC P n b o kind)
 u6t:∀(fl:Fl) b o kind,aW P fl [33] (UC P n b o kind) tt=some (G7 P n b o kind)
 u6f:∀(fl:Fl) b o kind,aW P fl [0,37] (UC P n b o kind) ff=some (Rq P n b o kind)
 u7:∀(fl:Fl) b o kind n0 L K S,(n0||L||K||S)=true->aW P {fl with n0:=n0} [] (Rq P n b o kind) (.word L K S 0)=some (UE P n b o kind)
 u7c:∀(fl:Fl) b o kind,aW P {fl with n0:=false} [0,27,28,29] (Rq P n b o kind) (.word false false false 0)=some (UC P n b o kind)
 u8:∀(fl:Fl) b o kind,aW P fl [] (G7 P n b o kind) un=some (UE P n b o kind)
 u9:∀(fl:Fl) b o kind,aW P fl [] (G9 P n b o kind) un=some (UE P n b o kind)
 u10:∀(fl:Fl) b o kind,aW P fl [] (UE P n b o kind) un=some (Xp n kind)
 o1:∀b o kind,bn (LD P n b o kind).1=some (n.kO,[])/\(LD P n b o kind).1.kind=.normal
 o2:∀b o kind,bn (wP P n b o kind).1=some (n.my,[pt b o,i32 0,i32 1])
 o3:∀b o kind,bn (TF P n b o kind).1=some (n.en,[])
 o4:∀b o kind,mE (V7 P n b o kind).1=some (n.tM,n.tU,pt b o)
 o5:∀b o kind,bn (TG P n b o kind).1=some (n.acq,[pt b o])
 o60:∀b o kind aw sv it,tJ (UI P n b o kind aw sv it).1=some (n.tI,pt b o)
 o61:∀b o kind aw sv it,tJ (JL P n b o kind aw sv it).1=some (n.tI,pt b o)
 o62:∀b o kind aw sv it,tJ (UJ P n b o kind aw sv it).1=some (n.tI,pt b o)
 o7:∀b o kind K aw sv it,bn (SQ P n b o kind K aw sv it).1=some (n.K9,[i64 it])
 o8:∀b o kind it,bn (SW P n b o kind it).1=some (n.my,[pt b o,.word true false false 0,.word true true false 0])
 o9:∀b o kind aw sv it,bn (DS P n b o kind aw sv it).1=some (n.wO,[])
 Zt:∀b o kind L K S aw sv it,bn (F0 P n b o kind L K S aw sv it).1=some (n.my,[pt b o,.word L K S 0,R2 L K S aw sv])
 o11:∀b o kind sv,bn (T1 P n b o kind sv).1=some (n.nano,[])
 Zu:∀b o kind sv,bn (PK P n b o kind sv).1=some (n.H7,[pt b (o+1),.cX,i64 2])
 o13:∀b o kind,bn (TQ P n b o kind).1=some (n.nano,[])
 o14:∀b o kind sv,tJ (UP P n b o kind sv).1=some (n.tI,pt b o)
 o15:∀b o kind d,bn (AD P n b o kind d).1=some (n.add,[pt b o,i32 d])
 o16:∀b o kind,bn (Ro P n b o kind).1=some (n.en,[])
 o17:∀b o kind,mE (V8 P n b o kind).1=some (n.tM,n.tU,pt b o)
 o18:∀b o kind,bn (TJ P n b o kind).1=some (n.acq,[pt b o])
 Zv:∀b o kind,tJ (U0 P n b o kind).1=some (n.tI,pt b o)/\(U0 P n b o kind).1.kind=.normal/\(U0 P n b o kind).1.fn=n.yF
 o21:∀b o kind,mE (V9 P n b o kind).1=some (n.tM,n.tU,pt b o)
 o22:∀b o kind,bn (UR P n b o kind).1=some (n.rel,[pt b o])
 o23:∀b o kind,bn (UD P n b o kind).1=some (n.kO,[])
 Zw:∀b o kind,bn (uC P n b o kind).1=some (n.add,[pt b o,i32 (-1)])
 Zx:∀b o kind,bn (UC P n b o kind).1=some (n.my,[pt b o,wf,.word false true false (-1)])
 Zy:∀b o kind,bn (G7 P n b o kind).1=some (n.qU,[pt b (o+1),ff,i64 2])
 Zz:∀b o kind,bn (G9 P n b o kind).1=some (n.qU,[pt b (o+1),tt,i64 2])
 o28:∀b o kind,tJ (Rq P n b o kind).1=some (n.tI,pt b o)
 o29:∀b o kind,bn (UE P n b o kind).1=some (n.en,[])
 p1:∀b o kind,(Xm P n b o kind).all (·.env.all plain)=true/\(LD P n b o kind).1.env.all plain=true/\(LD P n b o kind).2=Xm P n b o kind
 p2:∀b o kind,(Y0 P n b o kind).all (·.env.all plain)=true
 p3:∀b o kind,(Xo P n b o kind).all (·.env.all plain)=true/\(U0 P n b o kind).1.env.all plain=true/\(U0 P n b o kind).2=Xo P n b o kind
 p4:∀b o kind,(Zs P n b o kind).all (·.env.all plain)=true
structure iI  P  (n:FY):Prop where
 kO:Ext P n.kO (λ_=>do mark .disable;pure Extern.Race.none_)
 en:Ext P n.en (λ_=>do mark .enable;pure Extern.Race.none_)
 acq:Ext P n.acq (Extern.Race.marked .acquire)
 rel:Ext P n.rel (Extern.Race.marked .releaseMerge)
 my:Ext P n.my (Extern.Atomic.casT (.int .i32))
 add:Ext P n.add (Extern.Atomic.update (Op.intArith .add) .i32 true)
 K9:Ext P n.K9 Extern.Sync.canSpin
 wO:Ext P n.wO (λ_=>pure (.tuple #[]))
 nano:Ext P n.nano Extern.OsHooks.nano
 Od:∃fn,P.funcs[n.nano]?=some fn/\fn.norace=true
 H7:Ext P n.H7 Extern.Sync.semacquire
 qU:Ext P n.qU Extern.Sync.semrelease
 Xx:pJ P (isAgg n.tI)=some false
 tyM:∃t,P.underlying n.tM=some (.pointer t)/\P.underlying n.tU=some .unsafePointer/\(P.info? t).map (λi=>decide (i.size=0))=some false
 nS:∃fn,P.funcs[n.UG]?=some fn/\fn.norace=true
 nU:∃fn,P.funcs[n.yF]?=some fn/\fn.norace=true
 nV:∃fn,P.funcs[n.TE]?=some fn/\fn.norace=true
def Sy.ok(y:Sy):Prop:=(0<=y.N/\y.N<=1000)/\(0<=y.c/\y.c<=1000)
def Fl.of(y:Sy):Fl:=⟨decide (y.N=0),decide (y.N=1),decide (y.c=0),decide (y.c=1),decide (y.ws=0),decide (IntKind.i64.wrap (y.tn-y.ws)>1000000)⟩
def Fl.F1{y}(h:y.ok):(Fl.of y).At y:=⟨h.1,h.2,rfl,rfl,rfl,rfl,rfl,rfl⟩
def JN:SV->Bool|.word ..=>true|.cnt=>true|_=>false
def Oe:SV->Bool|.fL _=>true|.JJ=>true|.K6=>true|_=>false
def Of:SV->Bool|.K7=>true|.Xd=>true|_=>false
def Og:SV->Bool|.now=>true|.Xd=>true|_=>false
def SR.re{y y' v x}(h:SR y v x)(a:y.N=y'.N\/JN v=false)(b:y.c=y'.c\/Oe v=false)(d:y.ws=y'.ws\/Of v=false)(e:y.tn=y'.tn\/Og v=false):SR y' v x:=by cases v<;>simp_all [SR,JN,Oe,Of,Og]
def FR.re{y y' s fr}(h:FR y s fr)(a:y.N=y'.N\/s.env.all (λv=>!JN v)=true)(b:y.c=y'.c\/s.env.all (λv=>!Oe v)=true)
 (d:y.ws=y'.ws\/s.env.all (λv=>!Of v)=true) (e:y.tn=y'.tn\/s.env.all (λv=>!Og v)=true):FR y' s fr:=by
 have key:∀(u:SV->Bool) (t:Nat),u .cX=false->s.env.all (λv=>!u v)=true->u (s.env.getD t .cX)=false:=λu t f g=>by grind
 exact⟨h.fn,h.todo,h.defers,h.mode,h.kind,h.ro,h.size,λt=>(h.env t).re (a.imp id (key _ t rfl)) (b.imp id (key _ t rfl)) (d.imp id (key _ t rfl)) (e.imp id (key _ t rfl))⟩
def oz.iU{y y'}:∀{l fs},oz y l fs->l.all (·.env.all plain)=true->oz y' l fs
 |[],fs,h,_=>by rw[h.oR];trivial
 |s::l,fs,h,a=>by obtain⟨f,b,rfl,c,d⟩:=h.cons_inv;simp only[acd,zj]at a;exact⟨c.iU a.1,d.iU a.2⟩
def oz.keep{y}  live :∀{l fs},oz y l fs->oz y (l.map (Go.bN.keep live)) fs
 |[],fs,h=>by simp_all
 |s::l,fs,h=>by obtain⟨f,a,rfl,b,c⟩:=h.cons_inv;exact⟨b.keep live,c.keep live⟩
def JO{P Wd f y}(i:f.At y):∀  n  {s st fr frs},FR y s fr->oz y st frs ->
 ∃m b a,FR y (Ob P f n s st).1 b/\oz y (Ob P f n s st).2 a/\∀cs,kB P Wd m (G fr (frs++cs)) (G b (a++cs))
 |0,s,st,fr,frs,g,c=>⟨0,fr,frs,g,c,λ_=>rfl⟩
 | n + 1,s,st,fr,frs,g,c=>by
   unfold Ob;cases e:ss P f s st with
   |none=>exact⟨0,fr,frs,g,c,λ_=>rfl⟩
   | some p=>
     obtain⟨u,o⟩:=p;obtain⟨b,a,j,k,l⟩:=TD i e g c;simp only;split
     . exact⟨1,b,a,j,k,λcs=>⟨_,l cs,rfl⟩⟩
     . obtain⟨m,h,d,q,r,t⟩:=JO i n j k
       exact⟨m+1,h,d,q,r,λcs=>⟨_,l cs,t cs⟩⟩
section
variable{P:afn}{Wd:aeT}{y:Sy}{c c':dt}{live:aff}{v:SV}{x:Value}{fr:Frame}{frs:aeY}
def TK(e:aW P (Fl.of y) live c v=some c')(f:y.ok)(g:FR y c.1 fr)(d:oz y c.2 frs)(h:SR y v x):
 ∃b a,FR y c'.1 b/\oz y c'.2 a/\∀cs,vp P Wd (G (fr.finish x) (frs++cs)) (G b (a++cs)):=by
 obtain⟨s,i,rfl⟩:=aaD.1 e;obtain⟨m,b,a,j,k,l⟩:=nR (Wd:=Wd) (Fl.F1 f) 400 (P:=P) (g.fin i h) d;exact⟨b,a,j.keep live,k.keep [],λcs=>⟨m,l cs⟩⟩
def Xy(e:sH P (Fl.of y) live c v=some c')(f:y.ok)(g:FR y c.1 fr)(d:oz y c.2 frs)(h:SR y v x):
 ∃b a,FR y c'.1 b/\oz y c'.2 a/\∀cs,vp P Wd (G (fr.finish x) (frs++cs)) (G b (a++cs)):=by
 obtain⟨s,i,rfl⟩:=aaD.1 e;obtain⟨m,b,a,j,k,l⟩:=JO (Wd:=Wd) (Fl.F1 f) 400 (P:=P) (g.fin i h) d;exact⟨b,a,j.keep live,k.keep [],λcs=>⟨m,l cs⟩⟩
def Xz(e:Xh P (Fl.of y) live c=c')(f:y.ok)(g:FR y c.1 fr)(d:oz y c.2 frs):
 ∃b a,FR y c'.1 b/\oz y c'.2 a/\∀cs,vp P Wd (G fr (frs++cs)) (G b (a++cs)):=by
 subst e;obtain⟨m,b,a,h,i,j⟩:=nR (Wd:=Wd) (Fl.F1 f) 400 (P:=P) g d;exact⟨b,a,h.keep live,i.keep [],λcs=>⟨m,j cs⟩⟩
end
open Mu in
inductive Ec where
 |ld|js|rd (l:Lo)|sq (old:Wd) (l:Lo)|sw (old:Wd) (l:Lo)|my (old:Wd) (l:Lo)|t1 (sv:Bool)|iM (sv:Bool)|tq|up (sv:Bool)|add (old:Wd) (sv:Bool)|le|la|back
 |JP|ur|ud|held|kA (old:Wd)|yp|give|ue|F3
section
variable(P:afn)(n:FY)(b o:Nat)(kind:afj)
def H5(p:Ec)(c:dt)(y:Sy):Prop:=
 match p with
 |.ld=>c=LD P n b o kind
 |.js=>c=wP P n b o kind
 |.rd l=>c=UI P n b o kind l.aw l.sv l.it\/c=JL P n b o kind l.aw l.sv l.it\/c=UJ P n b o kind l.aw l.sv l.it
 |.sq old l=>c=SQ P n b o kind old.K l.aw l.sv l.it/\y.N=old.N/\old.L=true/\old.S=false
 |.sw old l=>c=SW P n b o kind l.it/\y.N=old.N/\l.aw=false/\l.sv=false/\old.L=true/\old.K=false/\old.S=false
 |.my old l=>c=F0 P n b o kind old.L old.K old.S l.aw l.sv l.it/\y.N=old.N
 |.t1 sv=>c=T1 P n b o kind sv
 |.iM sv=>c=PK P n b o kind sv
 |.tq=>c=TQ P n b o kind
 |.up sv=>c=UP P n b o kind sv
 |.add old sv=>c=AD P n b o kind (if !sv||decide (old.N=1)then -11 else -7)
 |.le=>c=TF P n b o kind\/c=Ro P n b o kind
 |.la=>c=TG P n b o kind\/c=TJ P n b o kind
 |.back=>c=BK n kind
 |.JP=>c=U0 P n b o kind
 |.ur=>c=UR P n b o kind
 |.ud=>c=UD P n b o kind
 |.held=>c=uC P n b o kind
 |.kA old=>c=UC P n b o kind/\y.N=old.N/\old.L=false/\old.K=false/\old.S=false/\old.N≠0
 |.yp=>c=Rq P n b o kind
 |.give=>c=G7 P n b o kind\/c=G9 P n b o kind
 |.ue=>c=UE P n b o kind
 |.F3=>c=Xp n kind
def qC(p:Ec)(cs:aeY)(g:afd):Prop:=∃c y fr frs,H5 P n b o kind p c y/\y.ok/\FR y c.1 fr/\oz y c.2 frs/\g=G fr (frs++cs)
end
def qC.running{P n b o kind p cs g}(h:qC P n b o kind p cs g):g.status=.running/\g.offers=none:=by obtain⟨c,y,fr,frs,_,_,_,_,rfl⟩:=h;exact⟨rfl,rfl⟩
structure ShM  b o  (w:World) (s:Mu.Sh):Prop where
 cw:w.cell? ⟨b,o,none⟩=some (.int .i32 (enc s.w.L s.w.K s.w.S s.w.N))
 cs:w.cell? ⟨b,o+1,none⟩=some (.int .u32 s.ms)
 fz:∀i,w.frozen? ⟨b,i,none⟩=false
def MW(b o:Nat)(w w':World):Prop:=(oE w.os w'.os/\w'.output=w.output)/\(w'.heap=w.heap\/∃i v,(i=o\/i=o+1)/\flat v=true/\w'.heap=(w.setCell ⟨b,i,none⟩ v).heap)
def EvM(b o:Nat)(es:aeU):Prop:=∀e∈es,(e.loc=.mark .disable\/e.loc=.mark .enable)\/(∃i,(i=o\/i=o+1)/\e.loc=.cell ⟨b,i,none⟩/\e.sync=true)
def tw{w w':World}(h:w'.heap=w.heap)  a :w'.cell? a=w.cell? a/\w'.frozen? a=w.frozen? a:=by simp[World.cell?,World.frozen?,h]
def ShM.heap{b o w w' s}(h:ShM b o w s)(e:w'.heap=w.heap):ShM b o w' s:=⟨by rw[(tw e _).1];exact h.cw,by rw[(tw e _).1];exact h.cs,λi=>by rw[(tw e _).2];exact h.fz i⟩
def lM{w:World}{b i u v}(h:w.cell? ⟨b,i,none⟩=some u):(w.setCell ⟨b,i,none⟩ v).cell? ⟨b,i,none⟩=some v:=by
 unfold World.cell? at h ⊢;unfold World.setCell
 grind
def qV{w:World}{a v b i}:(w.setCell a v).frozen? ⟨b,i,none⟩=w.frozen? ⟨b,i,none⟩:=by simp_all
def ShM.bb{b o w s}(h:ShM b o w s)  w' :ShM b o (w.setCell ⟨b,o,none⟩ (.int .i32 (enc w'.L w'.K w'.S w'.N))) {s with w:=w'}:=⟨lM h.cw,by rw[eG (by simp)];exact h.cs,λi=>by rw[qV];exact h.fz i⟩
def ShM.Ib{b o w s}(h:ShM b o w s)(m:Nat):ShM b o (w.setCell ⟨b,o+1,none⟩ (.int .u32 m)) {s with ms:=m}:=⟨by rw[eG (by simp)];exact h.cw,lM h.cs,λi=>by rw[qV];exact h.fz i⟩
def hQ{b o}:EvM b o #[]:=λe h=>by simp at h
def JQ{b o i}(hi:i=o\/i=o+1):EvM b o #[⟨.cell ⟨b,i,none⟩,false,true⟩]:=λe h=>by simp_all
def mF{b o i}(hi:i=o\/i=o+1):EvM b o #[⟨.cell ⟨b,i,none⟩,false,true⟩,⟨.cell ⟨b,i,none⟩,true,true⟩]:=λe h=>by grind
def yJ{b o}:EvM b o (semEvents ⟨b,o+1,none⟩):=λe h=>by
 simp[semEvents]at h
 grind
section
variable{P:afn}{n:FY}(C:iH P n)(X:iI P n){b o:Nat}{kind:afj}{Wd:aeT}{cs:aeY}{g:afd}{w:World}{main:Bool}
variable(hWd:∀w,Wd w->∃v,w.cell? ⟨b,o,none⟩=some v)
def Next(P:afn)(n:FY)(b o:Nat)(kind:afj)(Wd:aeT)(cs:aeY)(p:Ec)(a:afd):Prop:=a.status=.running/\∃c,vp P Wd a c/\qC P n b o kind p cs c
def nxt{y c c' live v x fr frs p}(g:aW P (Fl.of y) live c v=some c')(f:y.ok)(h:FR y c.1 fr)(d:oz y c.2 frs)(i:SR y v x)(j:H5 P n b o kind p c' y):
 Next P n b o kind Wd cs p (G (fr.finish x) (frs++cs)):=by
 obtain⟨e,a,k,l,m⟩:=TK (Wd:=Wd) g f h d i;exact⟨rfl,_,m cs,c',y,e,a,j,f,k,l,rfl⟩
def y0:Sy:=⟨2,2,1,0⟩
def vt:y0.ok:=by unfold Sy.ok y0;decide
def Ic(h:∃fn body,P.funcs[n.lock]?=some fn/\fn.body=some body/\fn.ntmps=6):∃e,vp P Wd (G (Frame.enter P n.lock #[.pointer (some ⟨b,o,none⟩)] kind) cs) e/\qC P n b o kind .ld cs e:=by
 obtain⟨fn,body,a,i,g⟩:=h
 have j:FR y0 (eL P n.lock [pt b o] kind) (Frame.enter P n.lock #[.pointer (some ⟨b,o,none⟩)] kind):=by
  refine⟨by simp[eL,a,Frame.enter],by simp[eL,a,i,Frame.enter],by simp[eL,a,Frame.enter],by simp[eL,a,Frame.enter,FT.of],by simp[eL,a,Frame.enter],rfl,by simp[eL,a,g,Frame.enter],λt=>?_⟩;simp only[eL,a,Frame.enter,g,aaT,acm]
  match t with
  |0=>rfl
  |1|2|3|4|5=>trivial
  | t+6=>
    have:([pt b o]++List.replicate (6 - [pt b o].length) SV.cX).getD (t+6) .cX=.cX:=by simp_all
    rw[this];trivial
 obtain⟨m,d,c,k,l,p⟩:=nR (Wd:=Wd) (P:=P) (f:=np) (y:=y0) ⟨by decide,by decide,rfl,rfl,rfl,rfl,rfl,by decide⟩ 400 j (st:=[]) (frs:=[]) trivial;have q:=p cs;exact⟨_,⟨m,q⟩,_,y0,d,c,rfl,vt,k.keep [0],l.keep [],rfl⟩
def Oh:∀g ,Mark.disable≠.extern g:=λg h=>by cases h
def Oi:∀g ,Mark.enable≠.extern g:=λg h=>by cases h
include C X in
def Ed(h:qC P n b o kind .ld cs g):∃d,stepG P main g w=.go d w #[⟨.mark .disable,false,true⟩]/\Next P n b o kind Wd cs .js d:=by obtain⟨c,y,fr,frs,rfl,f,e,a,rfl⟩:=h;exact⟨_,ga Oh e (C.o1 b o kind).1 (by rw[show(LD P n b o kind).1.kind=_ from(C.o1 b o kind).2];decide) X.kO,nxt (C.e1 _ b o kind) f e a rfl rfl⟩
include C X in
def JR(h:qC P n b o kind .ud cs g):∃d,stepG P main g w=.go d w #[⟨.mark .disable,false,true⟩]/\Next P n b o kind Wd cs .held d:=by obtain⟨c,y,fr,frs,rfl,f,e,a,rfl⟩:=h;exact⟨_,ga Oh e (C.o23 b o kind) (by simp[UD,rU]) X.kO,nxt (C.u4 _ b o kind) f e a rfl rfl⟩
include C X in
def Ee(h:qC P n b o kind .ue cs g):∃d,stepG P main g w=.go d w #[⟨.mark .enable,false,true⟩]/\Next P n b o kind Wd cs .F3 d:=by obtain⟨c,y,fr,frs,rfl,f,e,a,rfl⟩:=h;exact⟨_,ga Oi e (C.o29 b o kind) (by simp[UE,rU]) X.en,nxt (C.u10 _ b o kind) f e a rfl rfl⟩
include C X in
def JS(h:qC P n b o kind .ur cs g):∃d,stepG P main g w=.go d w #[⟨.mark (.releaseMerge ⟨b,o,none⟩),false,true⟩]/\Next P n b o kind Wd cs .ud d:=by obtain⟨c,y,fr,frs,rfl,f,e,a,rfl⟩:=h;exact⟨_,gQ (λi g h=>by cases h) e (C.o22 b o kind) (by simp[UR,rU]) X.rel,nxt (C.u3 _ b o kind) f e a rfl rfl⟩
include C X in
def JU(h:qC P n b o kind .la cs g):∃e,stepG P main g w=.go e w #[⟨.mark (.acquire ⟨b,o,none⟩),false,true⟩]/\Next P n b o kind Wd cs .back e:=by
 obtain⟨c,y,fr,frs,i,f,d,a,rfl⟩:=h;rcases i with rfl|rfl
 . exact⟨_,gQ (λj g h=>by cases h) d (C.o5 b o kind) (by simp[TG,oT]) X.acq,nxt (C.e6 _ b o kind) f d a rfl rfl⟩
 . exact⟨_,gQ (λj g h=>by cases h) d (C.o18 b o kind) (by simp[TJ,di]) X.acq,nxt (C.yI _ b o kind) f d a rfl rfl⟩
include X hWd in
def through{y c c' live fr frs p}(f:mE c.1=some (n.tM,n.tU,pt b o))(g:aW P (Fl.of y) live c (pt b o)=some c')(h:y.ok)(e:FR y c.1 fr)(d:oz y c.2 frs)(i:H5 P n b o kind p c' y):
 ∃a,vp P Wd (G fr (frs++cs)) a/\qC P n b o kind p cs a:=by
 obtain⟨t,j,k,l⟩:=X.tyM;obtain⟨_,a,m,q⟩:=nxt (P:=P) (n:=n) (b:=b) (o:=o) (kind:=kind) (Wd:=Wd) (cs:=cs) (x:=.pointer (some ⟨b,o,none⟩)) g h e d rfl i;refine⟨a,vp.trans (vo.Ct ⟨rfl,λmain w r=>?_⟩) m,q⟩;exact wM e f j k l (hWd w r)
include C X hWd in
def JV(h:qC P n b o kind .le cs g):∃s,stepG P main g w=.go s w #[⟨.mark .enable,false,true⟩]/\Next P n b o kind Wd cs .la s:=by
 obtain⟨c,y,fr,frs,t,e,f,a,rfl⟩:=h;rcases t with rfl|rfl
 . refine⟨_,ga Oi f (C.o3 b o kind) (by simp[TF,oT]) X.en,rfl,?_⟩
   obtain⟨i,d,j,k,l⟩:=TK (Wd:=Wd) (x:=.tuple #[]) (C.e4 _ b o kind) e f a rfl;obtain⟨m,q,r⟩:=through X hWd (cs:=cs) (p:=.la) (C.o4 b o kind) (C.e5 _ b o kind) e j k (.inl rfl);exact⟨m,(l cs).trans q,r⟩
 . refine⟨_,ga Oi f (C.o16 b o kind) (by simp[Ro,di]) X.en,rfl,?_⟩
   obtain⟨i,d,j,k,l⟩:=TK (Wd:=Wd) (x:=.tuple #[]) (C.yH _ b o kind) e f a rfl;obtain⟨m,q,r⟩:=through X hWd (cs:=cs) (p:=.la) (C.o17 b o kind) (C.Nd _ b o kind) e j k (.inr rfl);exact⟨m,(l cs).trans q,r⟩
include C X hWd in
def Ae{v}(j:w.cell? ⟨b,o,none⟩=some v)(h:qC P n b o kind .JP cs g):∃d,stepG P main g w=.go d w #[]/\Next P n b o kind Wd cs .ur d:=by
 obtain⟨c,y,fr,frs,rfl,e,f,a,rfl⟩:=h;refine⟨_,tv f (C.Zv b o kind).1 X.Xx (by rw[show(U0 P n b o kind).1.fn=_ from(C.Zv b o kind).2.2];exact X.nU) j,rfl,?_⟩;obtain⟨k,i,l,m,q⟩:=TK (Wd:=Wd) (x:=v) (C.u1 _ b o kind) e f a trivial;obtain⟨r,s,t⟩:=through X hWd (cs:=cs) (p:=.ur) (C.o21 b o kind) (C.u2 _ b o kind) e l m rfl;exact⟨r,(q cs).trans s,t⟩
include C X in
def R4{sv}(h:qC P n b o kind (.t1 sv) cs g):∃f,stepG P main g w=.go f w.later #[]/\Next P n b o kind Wd cs (.iM sv) f:=by
 obtain⟨c,y,fr,frs,rfl,j,i,d,rfl⟩:=h;refine⟨_,Cz i (C.o11 b o kind sv) (by simp[T1,di]) X.nano X.Od,?_⟩;have e:=i.re (y':={y with ws:=((w.os.mono+w.tick:Nat):Int)}) (.inl rfl) (.inl rfl) (.inr (by cases sv<;>rfl)) (.inl rfl);have a:=d.iU (y':={y with ws:=((w.os.mono+w.tick:Nat):Int)}) (by simpa[T1,di]using C.p2 b o kind);exact nxt (y:={y with ws:=((w.os.mono+w.tick:Nat):Int)}) (x:=.int .i64 ((w.os.mono+w.tick:Nat):Int)) (C.Ad _ b o kind sv) j e a rfl rfl
end
inductive To:Mu.Pc->Ec->Prop
 |out:To .out .ue
 |rd (l:Mu.Lo):To (.rd l) (.rd l)
 |sq (old:Mu.Wd) (l:Mu.Lo):To (.sq old l) (.sq old l)
 |sw (old:Mu.Wd) (l:Mu.Lo):To (.sw old l) (.sw old l)
 |my (old:Mu.Wd) (l:Mu.Lo):To (.my old l) (.my old l)
 |t1 (sv:Bool):To (.iM sv) (.t1 sv)
 |iM (sv:Bool):To (.iM sv) (.iM sv)
 |tq:To .tq .tq
 |up (sv:Bool):To (.up sv) (.up sv)
 |add (old:Mu.Wd) (sv:Bool):To (.add old sv) (.add old sv)
 |held:To .held .le
 |kA (old:Mu.Wd):To (.kA old) (.kA old)
 |yp:To .yp .yp
 |give:To .give .give
def nT(P:afn)(n:FY)(b o:Nat)(kind:afj)(Wd:aeT)(cs:aeY)(g:afd)(w:World)(main:Bool)(pc:Mu.Pc)(s:Mu.Sh):Prop:=∃c a es q e f,stepG P main g w=.go c a es/\(q,e)∈Mu.mv pc s/\To q f/\Next P n b o kind Wd cs f c/\MW b o w a/\ShM b o a e/\EvM b o es/\∀d,deafBehind d es=d
def bC{b o w w'}(h:w'.heap=w.heap)(a:oE w.os w'.os/\w'.output=w.output:=by exact⟨oE.refl _,rfl⟩):MW b o w w':=⟨a,.inl h⟩
def yr{b o w v}(h:flat v=true):MW b o w (w.setCell ⟨b,o,none⟩ v):=⟨⟨.refl _,rfl⟩,.inr ⟨o,v,.inl rfl,h,rfl⟩⟩
def R5{b o w v}(h:flat v=true):MW b o w (w.setCell ⟨b,o+1,none⟩ v):=⟨⟨.refl _,rfl⟩,.inr ⟨o+1,v,.inr rfl,h,rfl⟩⟩
def JW{L K S a b c}{N d:Nat}:enc L K S N=enc a b c d↔(L=a/\K=b/\S=c/\N=d):=by
 unfold enc;constructor
 . intro h
   cases L<;>cases K<;>cases S<;>cases a<;>cases b<;>cases c<;>simp[Bool.toNat]at h ⊢<;>omega
 simp_all
section
variable{P:afn}{n:FY}(C:iH P n)(X:iI P n){b o:Nat}{kind:afj}{Wd:aeT}{cs:aeY}{g:afd}{w:World}{main:Bool}{s:Mu.Sh}
def JX{w}:w=Mu.Wd.zero↔(enc w.L w.K w.S w.N=0):=by
 obtain⟨L,K,S,N⟩:=w;rw[Aa (by simp)];simp[Mu.Wd.zero]
include C X in
def La(d:ShM b o w s)(h:qC P n b o kind .js cs g):nT P n b o kind Wd cs g w main .js s:=by
 obtain⟨c,y,fr,frs,rfl,l,j,f,rfl⟩:=h;have q:(wP P n b o kind).1.kind≠.early:=by simp[wP,oT]
 by_cases k:s.w=Mu.Wd.zero
 . have m:enc s.w.L s.w.K s.w.S s.w.N=0:=JX.1 k
   have r:=d.cw;rw[m]at r;refine⟨_,_,_,.held,{s with w:={Mu.Wd.zero with L:=true}},.le,ji j (C.o2 b o kind) q X.my (v:=0) (n:=1) (λx h=>h) (λx h=>h) r (d.fz o),by simp[Mu.mv,k],.held,nxt (C.e2 _ b o kind) l j f rfl (.inl rfl),yr rfl,?_,mF (.inl rfl),λ_=>rfl⟩;have:=d.bb {Mu.Wd.zero with L:=true};exact this
 have m:¬enc s.w.L s.w.K s.w.S s.w.N=0:=λe=>k (JX.2 e)
 refine⟨_,_,_,.rd ⟨false,false,0⟩,s,.rd ⟨false,false,0⟩,jG j (C.o2 b o kind) q X.my (old:=0) (n:=1) (λx h=>h) (λx h=>h) d.cw (d.fz o) m,by simp[Mu.mv,k],.rd _,⟨rfl,?_⟩,bC rfl,d,JQ (.inl rfl),λ_=>rfl⟩;obtain⟨p,i,A,B,D⟩:=TK (Wd:=Wd) (x:=.bool false) (C.e3 _ b o kind) l j f rfl;refine⟨_,D cs,UI P n b o kind false false 0,{y with ws:=0},p,i,.inl rfl,l,?_,?_,rfl⟩
 . have a:=A.re (y':={y with ws:=0}) (.inl rfl) (.inl rfl) (.inr rfl) (.inl rfl)
   refine⟨a.fn,a.todo,a.defers,a.mode,a.kind,a.ro,a.size.trans rfl,λt=>?_⟩;have u:=a.env t;by_cases z:t=2
   . subst z;exact u
   have e:(UI P n b o kind false false 0).1.env=(Y1 P n b o kind).1.env.set 2 .K7:=rfl;rw[e,zD,ach (zs z),<-List.getD_eq_getElem?_getD];exact u
 exact B.iU (by simpa[Y1,di]using C.p2 b o kind)
def tx{y:Sy}{L K S}{N:Nat}(h:y.N=N):SR y (.word L K S 0) (.int .i32 (enc L K S N)):=by
 refine⟨?_,?_,by decide⟩
 . simp_all
 omega
def JY{y x}(h:decide (y.N=0)=x):{Fl.of y with n0:=x}=Fl.of y:=by subst h;rfl
def UL{y x z}(h:decide (y.N=0)=x)(a:decide (y.N=1)=z):{Fl.of y with n0:=x,n1:=z}=Fl.of y:=by subst h;subst a;rfl
def TL{y x}(h:decide (y.ws=0)=x):{Fl.of y with wz:=x}=Fl.of y:=by subst h;rfl
def XA{y x}(h:decide (IntKind.i64.wrap (y.tn-y.ws)>1000000)=x):{Fl.of y with tb:=x}=Fl.of y:=by subst h;rfl
def V'(old:Mu.Wd)(l:Mu.Lo):Ec:=if old.L && !old.S then .sq old l else .my old l
def TM  old   l :To (Mu.nx old l) (V' old l):=by
 unfold Mu.nx V';split
 . exact .sq _ _
 exact .my _ _
include C in
def JZ{y old l fr frs}(e:y.ok)(m:y.N=old.N)(p:FR y (HD P n b o kind old.L old.K old.S l.aw l.sv l.it).1 fr)(d:oz y (HD P n b o kind old.L old.K old.S l.aw l.sv l.it).2 frs)(f:Mu.loc (Mu.nx old l)):
 ∃q,vp P Wd (G fr (frs++cs)) q/\qC P n b o kind (V' old l) cs q:=by
 obtain⟨L,K,S,N⟩:=old;obtain⟨aw,sv,it⟩:=l;unfold V';unfold Mu.nx at f;by_cases h:(L && !S)=true
 . simp only[h,aay]at f ⊢
   simp only[zj,adw]at h;obtain⟨rfl,rfl⟩:=h;obtain⟨c,a,g,i,j⟩:=Xz (Wd:=Wd) (C.e8 (Fl.of y) b o kind K aw sv it) e p d;exact⟨_,j cs,_,y,c,a,⟨rfl,m,rfl,rfl⟩,e,g,i,rfl⟩
 have r:(L && !S)=false:=by simpa using h
 rw[KD h]at f ⊢
 have k:(aw && !K)=false:=by
  cases aw with
  |false=>rfl
  |true=>have:=f.1 rfl;simp at this;simp[this]
 obtain⟨c,a,g,i,j⟩:=Xz (Wd:=Wd) (C.e9 (Fl.of y) b o kind L K S aw sv it r k) e p d;exact⟨_,j cs,_,y,c,a,⟨rfl,m⟩,e,g,i,rfl⟩
include C X in
def R6{l}(i:ShM b o w s)(hb:s.w.N<=1000)(m:Mu.loc (Mu.nx s.w l))(h:qC P n b o kind (.rd l) cs g):nT P n b o kind Wd cs g w main (.rd l) s:=by
 obtain⟨c,y,fr,frs,p,q,j,e,rfl⟩:=h;have a:({y with N:=(s.w.N:Int)}:Sy).ok:=⟨⟨by simp,by show(s.w.N:Int)<=1000;omega⟩,q.2⟩
 have key:tJ c.1=some (n.tI,pt b o)->c.1.fn=n.UG->(c.1.env.all (λv=>!JN v)=true)->c.2=Y0 P n b o kind->sH P (Fl.of {y with N:=(s.w.N:Int)}) [0,2,3,4,5,6] c (.word s.w.L s.w.K s.w.S 0)=some (HD P n b o kind s.w.L s.w.K s.w.S l.aw l.sv l.it) ->
  nT P n b o kind Wd cs (G fr (frs++cs)) w main (.rd l) s:=λr t u x z=>by
  have f:=j.re (y':={y with N:=(s.w.N:Int)}) (.inr u) (.inl rfl) (.inl rfl) (.inl rfl);have d:=e.iU (y':={y with N:=(s.w.N:Int)}) (by rw[x];exact C.p2 b o kind);obtain⟨A,k,B,D,E⟩:=Xy (Wd:=Wd) z a f d (tx rfl);obtain⟨F,H,I⟩:=JZ C (Wd:=Wd) (cs:=cs) (old:=s.w) (l:=l) a rfl B D m;exact⟨_,w,#[],_,s,V' s.w l,tv j r X.Xx (by rw[t];exact X.nS) i.cw,by simp[Mu.mv],TM _ _,⟨rfl,F,(E cs).trans H,I⟩,bC rfl,i,hQ,λ_=>rfl⟩
 rcases p with rfl|rfl|rfl
 . exact key (C.o60 ..) rfl rfl rfl (C.e70 ..)
 . exact key (C.o61 ..) rfl rfl rfl (C.UK ..)
 exact key (C.o62 ..) rfl rfl rfl (C.e72 ..)
include C X in
def Ef{y aw sv}{it:Nat}{fr frs}(f:it<4)(g:y.ok)(e:FR y (DS P n b o kind aw sv it).1 fr)(d:oz y (DS P n b o kind aw sv it).2 frs):
 ∃c,vp P Wd (G fr (frs++cs)) c/\qC P n b o kind (.rd ⟨aw,sv,it+1⟩) cs c:=by
 have a:vo P Wd (G fr (frs++cs)) (G (fr.finish (.tuple #[])) (frs++cs)):=⟨rfl,λmain w _=>wJ e (C.o9 b o kind aw sv it) (by simp[DS,di]) X.wO⟩
 have key:aW P (Fl.of y) [0,2,3,4,5,47] (DS P n b o kind aw sv it) un=some (JL P n b o kind aw sv (it+1:Nat)):=by
  have:it=0\/it=1\/it=2\/it=3:=by omega
  rcases this with rfl|rfl|rfl|rfl
  . exact C.H9 ..
  . exact C.Ia ..
  . exact C.Xr ..
  exact C.Xs ..
 obtain⟨_,c,h,i⟩:=nxt (P:=P) (n:=n) (b:=b) (o:=o) (kind:=kind) (Wd:=Wd) (cs:=cs) (x:=.tuple #[]) (p:=.rd ⟨aw,sv,it+1⟩) key g e d rfl (.inr (.inl rfl));exact⟨c,a.Ct.trans h,i⟩
include C X in
def R7{old l}(t:ShM b o w s)(J:Mu.loc (.sq old l))(h:qC P n b o kind (.sq old l) cs g):nT P n b o kind Wd cs g w main (.sq old l) s:=by
 obtain⟨c,y,fr,frs,⟨rfl,k,B,D⟩,q,m,d,rfl⟩:=h;obtain⟨L,K,S,N⟩:=old;obtain⟨aw,sv,it⟩:=l;simp only at k B D m d;subst B;subst D;obtain⟨E,F,M,_,_⟩:=J;simp only at E F M
 have u:(aw && !K)=false:=by
  cases aw with
  |false=>rfl
  |true=>simp[E rfl]
 obtain⟨r,j,v,O,G⟩:=K8 (P:=P) (main:=main) (cs:=frs++cs) (w:=w) m (C.o7 b o kind K aw sv it) (by simp[SQ,di]) X.K9
 have a:j.heap=w.heap:=by rcases G with rfl|rfl<;>rfl
 have e:oE w.os j.os/\j.output=w.output:=by rcases G with rfl|rfl<;>exact⟨.refl _,rfl⟩
 cases r with
 |false=>refine⟨_,j,#[],.my ⟨true,K,false,N⟩ ⟨aw,sv,it⟩,s,.my _ _,v,by simp[Mu.mv,Mu.hd],.my _ _,nxt (C.bH (Fl.of y) b o kind K aw sv it u) q m d rfl ⟨rfl,k⟩,bC a e,t.heap a,hQ,λ_=>rfl⟩
 | true=>
   have f:it<4:=by have:=O rfl;omega
   by_cases z:(!aw && !K && decide (N≠0))=true
   . simp only[zj,adw,zR]at z
     obtain⟨⟨rfl,rfl⟩,p⟩:=z;have:sv=false:=by cases sv with|false=>rfl|true=>exact absurd (F rfl) (by simp)
     subst this;have key:=C.cu (Fl.of y) b o kind it;rw[JY (by rw[k];simpa using p)]at key
     exact⟨_,j,#[],.sw ⟨true,false,false,N⟩ ⟨false,false,it⟩,s,.sw _ _,v,by simp[Mu.mv,Mu.hd,f,p],.sw _ _,nxt key q m d rfl ⟨rfl,k,rfl,rfl,rfl,rfl,rfl⟩,bC a e,t.heap a,hQ,λ_=>rfl⟩
   have i:(!aw && !K && decide (N≠0))=false:=by simpa using z
   have A:(!aw && !K && !decide (y.N=0))=false:=by
    rw[k]
    by_cases H:N=0
    . simp[H]
    simp[H]at i ⊢;exact i
   have key:=C.Xq (Fl.of y) b o kind (decide (y.N=0)) K aw sv it A;rw[JY rfl]at key;obtain⟨Q,I,R,T,U⟩:=TK (Wd:=Wd) (x:=.bool true) key q m d rfl;obtain⟨V,W,Y⟩:=Ef C X (Wd:=Wd) (cs:=cs) f q R T;refine⟨_,j,#[],.rd ⟨aw,sv,it+1⟩,s,.rd _,v,?_,.rd _,⟨rfl,V,(U cs).trans W,Y⟩,bC a e,t.heap a,hQ,λ_=>rfl⟩
   simp only[Mu.mv,Mu.hd,f,i];simp
include C X in
def R8{old l}(f:ShM b o w s)(V:Mu.loc (.sw old l))(h:qC P n b o kind (.sw old l) cs g):nT P n b o kind Wd cs g w main (.sw old l) s:=by
 obtain⟨c,y,fr,frs,⟨rfl,E,F,G,H,I,J⟩,m,i,d,rfl⟩:=h;obtain⟨L,K,S,N⟩:=old;obtain⟨aw,sv,it⟩:=l;simp only at E F G H I J i d;subst F;subst G;subst H;subst I;subst J;have j:it<4:=V.2.2.2.2.2;have M:(SW P n b o kind it).1.kind≠.early:=by simp[SW,di]
 have a:∀q:Bool,∀x,SR y (.word true q false 0) x->x=.int .i32 (enc true q false N):=λq x W=>by have:=W.1;rw[E,aev]at this;exact this
 by_cases p:s.w=⟨true,false,false,N⟩
 . have O:=f.cw
   rw[p]at O;obtain⟨r,k,t,u,v⟩:=TK (Wd:=Wd) (x:=.bool true) (C.fa (Fl.of y) b o kind true it) m i d rfl;obtain⟨z,A,B⟩:=Ef C X (Wd:=Wd) (cs:=cs) j m t u;refine⟨_,_,_,.rd ⟨true,false,it+1⟩,{s with w:=⟨true,true,false,N⟩},.rd _,ji i (C.o8 b o kind it) M X.my (a false) (a true) O (f.fz o),by simp[Mu.mv,p],.rd _,⟨rfl,z,(v cs).trans A,B⟩,yr rfl,f.bb ⟨true,true,false,N⟩,mF (.inl rfl),λ_=>rfl⟩
 have D:¬enc s.w.L s.w.K s.w.S s.w.N=enc true false false N:=λe=>p (by obtain⟨Q,R,T,U⟩:=JW.1 e;obtain⟨⟨L,K,S,Y⟩,ms⟩:=s;simp only at Q R T U;subst Q;subst R;subst T;subst U;rfl)
 obtain⟨r,k,t,u,v⟩:=TK (Wd:=Wd) (x:=.bool false) (C.fa (Fl.of y) b o kind false it) m i d rfl;obtain⟨z,A,B⟩:=Ef C X (Wd:=Wd) (cs:=cs) j m t u;exact⟨_,_,_,.rd ⟨false,false,it+1⟩,s,.rd _,jG i (C.o8 b o kind it) M X.my (a false) (a true) f.cw (f.fz o) D,by simp[Mu.mv,p],.rd _,⟨rfl,z,(v cs).trans A,B⟩,bC rfl,f,JQ (.inl rfl),λ_=>rfl⟩
end
section
variable{P:afn}{n:FY}(C:iH P n)(X:iI P n){b o:Nat}{kind:afj}{Wd:aeT}{cs:aeY}{g:afd}{w:World}{main:Bool}{s:Mu.Sh}
def TN{a c:Mu.Wd}:a=c↔enc a.L a.K a.S a.N=enc c.L c.K c.S c.N:=by obtain⟨L,K,S,N⟩:=a;obtain⟨b,d,e,f⟩:=c;rw[JW];simp
include C X in
def Oj{old l}(f:ShM b o w s)(E:Mu.loc (.my old l))(h:qC P n b o kind (.my old l) cs g):nT P n b o kind Wd cs g w main (.my old l) s:=by
 obtain⟨c,y,fr,frs,⟨rfl,u⟩,t,j,a,rfl⟩:=h;obtain⟨L,K,S,N⟩:=old;obtain⟨aw,sv,it⟩:=l;simp only at u j a
 have k:(aw && !K)=false:=by
  cases aw with
  |false=>rfl
  |true=>have:=E.1 rfl;simp at this;simp[this]
 have A:(F0 P n b o kind L K S aw sv it).1.kind≠.early:=by simp[F0,di]
 have hold:∀x,SR y (.word L K S 0) x->x=.int .i32 (enc L K S N):=λx v=>by have:=v.1;rw[u,aev]at this;exact this
 have i:∀x,SR y (R2 L K S aw sv) x->x=.int .i32 (enc (Mu.sE ⟨L,K,S,N⟩ ⟨aw,sv,it⟩).L (Mu.sE ⟨L,K,S,N⟩ ⟨aw,sv,it⟩).K (Mu.sE ⟨L,K,S,N⟩ ⟨aw,sv,it⟩).S (Mu.sE ⟨L,K,S,N⟩ ⟨aw,sv,it⟩).N):=λx v=>by have:=v.1;rw[u]at this;rw[this];simp only[Mu.sE];congr 2;split<;>simp
 by_cases p:s.w=⟨L,K,S,N⟩
 . have B:=f.cw
   rw[p]at B;have m:=ji (main:=main) (cs:=frs++cs) j (C.Zt b o kind L K S aw sv it) A X.my hold i B (f.fz o)
   by_cases d:(L||S)=true
   . have q:((.iM sv:Mu.Pc),({s with w:=Mu.sE ⟨L,K,S,N⟩ ⟨aw,sv,it⟩}:Mu.Sh))∈Mu.mv (.my ⟨L,K,S,N⟩ ⟨aw,sv,it⟩) s:=by
      simp only[Mu.mv,k,aal,aao,p,aay,d,lb]
     by_cases r:y.ws=0
     . have key:=C.Xt (Fl.of y) b o kind L K S aw sv it d
       rw[TL (by simpa using r)]at key
       exact⟨_,_,_,_,_,.t1 sv,m,q,.t1 _,nxt key t j a rfl rfl,yr rfl,f.bb _,mF (.inl rfl),λ_=>rfl⟩
     have key:=C.Xu (Fl.of y) b o kind L K S aw sv it d;rw[TL (by simpa using r)]at key
     exact⟨_,_,_,_,_,.iM sv,m,q,.iM _,nxt key t j a rfl rfl,yr rfl,f.bb _,mF (.inl rfl),λ_=>rfl⟩
   have D:(L||S)=false:=by simpa using d
   have F:L=false:=by cases L<;>simp_all
   have G:S=false:=by cases S<;>simp_all
   subst F;subst G;refine⟨_,_,_,.held,{s with w:=Mu.sE ⟨false,K,false,N⟩ ⟨aw,sv,it⟩},.le,m,?_,.held,nxt (C.BB (Fl.of y) b o kind K aw sv it) t j a rfl (.inr rfl),yr rfl,f.bb _,mF (.inl rfl),λ_=>rfl⟩
   simp only[Mu.mv,k,aal,aao,p,aay,Bool.or_self,lb]
 have z:¬enc s.w.L s.w.K s.w.S s.w.N=enc L K S N:=λe=>p (TN.2 e)
 refine⟨_,_,_,.rd ⟨aw,sv,it⟩,s,.rd _,jG j (C.Zt b o kind L K S aw sv it) A X.my hold i f.cw (f.fz o) z,?_,.rd _,nxt (C.Eb (Fl.of y) b o kind L K S aw sv it) t j a rfl (.inr (.inr rfl)),bC rfl,f,JQ (.inl rfl),λ_=>rfl⟩
 simp only[Mu.mv,k,aal,aao,p,lb]
include C X in
def Lb{sv}(f:ShM b o w s)(j:s.ms≠0)(h:qC P n b o kind (.iM sv) cs g):nT P n b o kind Wd cs g w main (.iM sv) s:=by
 obtain⟨c,y,fr,frs,rfl,k,i,d,rfl⟩:=h;have a:=vr (main:=main) (cs:=frs++cs) (w:=w) (n:=(s.ms:Int)) i (C.Zu b o kind sv) (by simp[PK,di]) X.H7 f.cs (by omega) (f.fz _);have e:((s.ms:Int)-1)=((s.ms-1:Nat):Int):=by omega
 rw[e]at a;cases sv with
 |true=>exact⟨_,_,_,.up true,{s with ms:=s.ms-1},.up true,a,by simp[Mu.mv,j],.up _,nxt (C.Xv (Fl.of y) b o kind) k i d rfl rfl,R5 rfl,f.Ib _,yJ,λ_=>rfl⟩
 |false=>exact⟨_,_,_,.tq,{s with ms:=s.ms-1},.tq,a,by simp[Mu.mv,j],.tq,nxt (C.Xw (Fl.of y) b o kind) k i d rfl rfl,R5 rfl,f.Ib _,yJ,λ_=>rfl⟩
include C X in
def F4{sv}(d:ShM b o w s)(e:s.ms=0)(h:qC P n b o kind (.iM sv) cs g):stepG P main g w=.go {g with status:=.blocked} w #[]:=by obtain⟨c,y,fr,frs,rfl,j,f,i,rfl⟩:=h;have a:=d.cs;rw[e]at a;exact Cy f (C.Zu b o kind sv) X.H7 a
include C X in
def R9(j:ShM b o w s)(h:qC P n b o kind .tq cs g):nT P n b o kind Wd cs g w main .tq s:=by
 obtain⟨c,y,fr,frs,rfl,k,i,d,rfl⟩:=h;have e:=Cz (P:=P) (main:=main) (cs:=frs++cs) (w:=w) i (C.o13 b o kind) (by simp[TQ,di]) X.nano X.Od;have f:=i.re (y':={y with tn:=((w.os.mono+w.tick:Nat):Int)}) (.inl rfl) (.inl rfl) (.inl rfl) (.inr rfl);have a:=d.iU (y':={y with tn:=((w.os.mono+w.tick:Nat):Int)}) (by simpa[TQ,di]using C.p2 b o kind);have key:=C.wo (Fl.of {y with tn:=((w.os.mono+w.tick:Nat):Int)}) b o kind (decide (IntKind.i64.wrap (((w.os.mono+w.tick:Nat):Int)-y.ws)>1000000));rw[XA rfl]at key;refine⟨_,_,_,.up (decide (IntKind.i64.wrap (((w.os.mono+w.tick:Nat):Int)-y.ws)>1000000)),s,.up _,e,?_,.up _,nxt (y:={y with tn:=((w.os.mono+w.tick:Nat):Int)}) key k f a rfl rfl,bC rfl ⟨⟨w.tick,rfl⟩,rfl⟩,j.heap rfl,hQ,λ_=>rfl⟩;cases decide (IntKind.i64.wrap (((w.os.mono+w.tick:Nat):Int)-y.ws)>1000000)<;>simp[Mu.mv]
include C X in
def Sa{sv}(m:ShM b o w s)(hb:s.w.N<=1000)(v:∀q s',(q,s')∈Mu.mv (.up sv) s->Mu.loc q)(h:qC P n b o kind (.up sv) cs g):nT P n b o kind Wd cs g w main (.up sv) s:=by
 obtain⟨c,y,fr,frs,rfl,A,x,p,rfl⟩:=h;have f:({y with N:=(s.w.N:Int)}:Sy).ok:=⟨⟨by simp,by show(s.w.N:Int)<=1000;omega⟩,A.2⟩
 have i:=x.re (y':={y with N:=(s.w.N:Int)}) (.inr rfl) (.inl rfl) (.inl rfl) (.inl rfl)
 have e:=p.iU (y':={y with N:=(s.w.N:Int)}) (by simpa[UP,di]using C.p2 b o kind)
 have j:=tv (main:=main) (cs:=frs++cs) x (C.o14 b o kind sv) X.Xx X.nS m.cw
 by_cases k:s.w.S=true
 . have r:(s.w.L||s.w.K||decide (s.w.N=0))=false:=by
    cases B:(s.w.L||s.w.K||decide (s.w.N=0))with
    |false=>rfl
    |true=>exact(v .bad s (by simp[Mu.mv,k,B])).elim
   have a:((.add s.w sv:Mu.Pc),s)∈Mu.mv (.up sv) s:=by simp[Mu.mv,k,r]
   simp only[aea,aaU]at r;obtain⟨⟨D,E⟩,t⟩:=r;have key:=C.R3 (Fl.of {y with N:=(s.w.N:Int)}) b o kind sv (decide (s.w.N=1))
   rw[UL (by show decide ((s.w.N:Int)=0)=false;simpa using t) (by show decide ((s.w.N:Int)=1)=decide (s.w.N=1);rw[adB,adQ,adQ];omega)]at key
   have u:SR {y with N:=(s.w.N:Int)} (.word false false true 0) (.int .i32 (enc s.w.L s.w.K s.w.S s.w.N)):=by rw[D,E,k];exact tx rfl
   exact⟨_,w,#[],_,s,.add s.w sv,j,a,.add _ _,nxt (y:={y with N:=(s.w.N:Int)}) key f i e u rfl,bC rfl,m,hQ,λ_=>rfl⟩
 have d:s.w.S=false:=by simpa using k
 have a:(Mu.nx s.w ⟨true,sv,0⟩,s)∈Mu.mv (.up sv) s:=by simp[Mu.mv,d]
 have u:SR {y with N:=(s.w.N:Int)} (.word s.w.L s.w.K false 0) (.int .i32 (enc s.w.L s.w.K s.w.S s.w.N)):=by rw[d];exact tx rfl
 obtain⟨F,z,G,H,I⟩:=Xy (Wd:=Wd) (C.BR (Fl.of {y with N:=(s.w.N:Int)}) b o kind s.w.L s.w.K sv) f i e u
 obtain⟨J,M,O⟩:=JZ C (Wd:=Wd) (cs:=cs) (old:=s.w) (l:=⟨true,sv,0⟩) f rfl (by rw[d];exact G) (by rw[d];exact H) (v _ _ a)
 exact⟨_,w,#[],_,s,V' s.w ⟨true,sv,0⟩,j,a,TM _ _,⟨rfl,J,(I cs).trans M,O⟩,bC rfl,m,hQ,λ_=>rfl⟩
include C X in
def Ok{old sv}(d:ShM b o w s)(hb:s.w.N<=1000)(j:s.w.L=false)(k:s.w.S=true)(q:s.w.N≠0)(h:qC P n b o kind (.add old sv) cs g):nT P n b o kind Wd cs g w main (.add old sv) s:=by
 obtain⟨c,y,fr,frs,rfl,l,i,f,rfl⟩:=h;have a:=sG (main:=main) (cs:=frs++cs) (w:=w) i (C.o15 b o kind _) (by simp[AD,di]) X.add (λx h=>h) d.cw (d.fz _)
 have e:IntKind.i32.wrap (enc s.w.L s.w.K s.w.S s.w.N+(if !sv||decide (old.N=1)then -11 else -7))=enc true s.w.K (s.w.S && !(!sv||decide (old.N=1))) (s.w.N-1:Nat):=by
  rw[j,k];have m:((s.w.N-1:Nat):Int)=(s.w.N:Int)-1:=by omega
  rw[m];generalize (!sv||decide (old.N=1))=x;have p:=nQ (L:=false) (K:=s.w.K) (S:=true) (N:=(s.w.N:Int));rw[kj (by split<;>omega) (by split<;>omega)];unfold enc;cases x<;>cases s.w.K<;>simp[Bool.toNat]<;>omega
 rw[e]at a;exact⟨_,_,_,.held,{s with w:={s.w with L:=true,S:=s.w.S && !(!sv||decide (old.N=1)),N:=s.w.N-1}},.le,a,by simp[Mu.mv],.held,nxt (C.yG (Fl.of y) b o kind _) l i f trivial (.inr rfl),yr rfl,d.bb {s.w with L:=true,S:=s.w.S && !(!sv||decide (old.N=1)),N:=s.w.N-1},mF (.inl rfl),λ_=>rfl⟩
include C X in
def Lc(t:ShM b o w s)(hb:s.w.N<=1000)(q:s.w.L=true)(h:qC P n b o kind .held cs g):nT P n b o kind Wd cs g w main .held s:=by
 obtain⟨c,y,fr,frs,rfl,A,z,u,rfl⟩:=h;have k:({y with N:=(s.w.N:Int)}:Sy).ok:=⟨⟨by simp,by show(s.w.N:Int)<=1000;omega⟩,A.2⟩
 have l:=z.re (y':={y with N:=(s.w.N:Int)}) (.inr rfl) (.inl rfl) (.inl rfl) (.inl rfl)
 have d:=u.iU (y':={y with N:=(s.w.N:Int)}) (by simpa[uC,rU]using(C.p3 b o kind).1)
 have i:=sG (main:=main) (cs:=frs++cs) (w:=w) z (C.Zw b o kind) (by simp[uC,rU]) X.add (λx h=>h) t.cw (t.fz _)
 have e:IntKind.i32.wrap (enc s.w.L s.w.K s.w.S s.w.N+-1)=enc false s.w.K s.w.S s.w.N:=by
  rw[q];have B:=nQ (L:=true) (K:=s.w.K) (S:=s.w.S) (N:=(s.w.N:Int));rw[kj (by omega) (by omega)]
  unfold enc;simp[Bool.toNat];omega
 rw[e]at i;have m:=t.bb {s.w with L:=false}
 have p:SR {y with N:=(s.w.N:Int)} (.word false s.w.K s.w.S 0) (.int .i32 (enc false s.w.K s.w.S s.w.N)):=tx rfl
 by_cases r:s.w.S=true
 . have key:=C.u5g (Fl.of {y with N:=(s.w.N:Int)}) b o kind (decide ((s.w.N:Int)=0)) s.w.K
   rw[r]at p;exact⟨_,_,_,.give,{s with w:={s.w with L:=false}},.give,i,by simp[Mu.mv,q,r,Mu.Wd.zero],.give,nxt (y:={y with N:=(s.w.N:Int)}) key k l d (by rw[r];exact p) (.inr rfl),yr rfl,m,mF (.inl rfl),λ_=>rfl⟩
 have f:s.w.S=false:=by simpa using r
 by_cases v:(decide ((s.w.N:Int)=0)||s.w.K)=true
 . have key:=C.u5 (Fl.of {y with N:=(s.w.N:Int)}) b o kind (decide ((s.w.N:Int)=0)) s.w.K v
   refine⟨_,_,_,.out,{s with w:={s.w with L:=false}},.ue,i,?_,.out,nxt (y:={y with N:=(s.w.N:Int)}) key k l d (by rw[f]at p ⊢;exact p) rfl,yr rfl,m,mF (.inl rfl),λ_=>rfl⟩
   have a:(decide (s.w.N=0)||s.w.K)=true:=by simpa using v
   simp only[Mu.mv,q,adO,aao,lb,zU,and_true];split
   . rfl
   simp only
 have a:(decide ((s.w.N:Int)=0)||s.w.K)=false:=by simpa using v
 simp only[aea,aaU]at a;have j:s.w.N≠0:=by have:=a.1;omega
 have key:=C.u5c (Fl.of {y with N:=(s.w.N:Int)}) b o kind
 rw[JY (by show decide ((s.w.N:Int)=0)=false;simpa using j)]at key
 rw[a.2,f]at p;refine⟨_,_,_,.kA {s.w with L:=false},{s with w:={s.w with L:=false}},.kA _,i,?_,.kA _,nxt (y:={y with N:=(s.w.N:Int)}) key k l d (by rw[a.2,f];exact p) ⟨rfl,rfl,rfl,a.2,f,j⟩,yr rfl,m,mF (.inl rfl),λ_=>rfl⟩
 have D:({s.w with L:=false}:Mu.Wd)≠Mu.Wd.zero:=λe=>j (by have:=congrArg Mu.Wd.N e;exact this)
 simp[Mu.mv,q,f,j,a.2,Mu.Wd.zero]
include C X in
def Lf{old}(d:ShM b o w s)(h:qC P n b o kind (.kA old) cs g):nT P n b o kind Wd cs g w main (.kA old) s:=by
 obtain⟨c,y,fr,frs,⟨rfl,k,q,r,t,l⟩,u,i,f,rfl⟩:=h;obtain⟨L,K,S,N⟩:=old;simp only at k q r t l;subst q;subst r;subst t;have v:(UC P n b o kind).1.kind≠.early:=by simp[UC,xT]
 have hold:∀x,SR y wf x->x=.int .i32 (enc false false false N):=λx m=>by have:=m.1;rw[k,aev]at this;exact this
 have a:∀x,SR y (.word false true false (-1)) x->x=.int .i32 (enc false true false (N-1:Nat)):=λx m=>by have:=m.1;rw[k]at this;rw[this];congr 2;omega
 by_cases j:s.w=⟨false,false,false,N⟩
 . have z:=d.cw
   rw[j]at z;exact⟨_,_,_,.give,{s with w:=⟨false,true,false,N-1⟩},.give,ji i (C.Zx b o kind) v X.my hold a z (d.fz o),by simp[Mu.mv,j],.give,nxt (C.u6t (Fl.of y) b o kind) u i f rfl (.inl rfl),yr rfl,d.bb ⟨false,true,false,N-1⟩,mF (.inl rfl),λ_=>rfl⟩
 have p:¬enc s.w.L s.w.K s.w.S s.w.N=enc false false false N:=λe=>j (TN.2 e)
 exact⟨_,_,_,.yp,s,.yp,jG i (C.Zx b o kind) v X.my hold a d.cw (d.fz o) p,by simp[Mu.mv,j],.yp,nxt (C.u6f (Fl.of y) b o kind) u i f rfl rfl,bC rfl,d,JQ (.inl rfl),λ_=>rfl⟩
include C X in
def Ol(k:ShM b o w s)(hb:s.w.N<=1000)(h:qC P n b o kind .yp cs g):nT P n b o kind Wd cs g w main .yp s:=by
 obtain⟨c,y,fr,frs,rfl,x,v,l,rfl⟩:=h;have e:({y with N:=(s.w.N:Int)}:Sy).ok:=⟨⟨by simp,by show(s.w.N:Int)<=1000;omega⟩,x.2⟩
 have f:=v.re (y':={y with N:=(s.w.N:Int)}) (.inr rfl) (.inl rfl) (.inl rfl) (.inl rfl)
 have d:=l.iU (y':={y with N:=(s.w.N:Int)}) (by simpa[Rq,xT]using C.p4 b o kind)
 have i:=tv (main:=main) (cs:=frs++cs) v (C.o28 b o kind) X.Xx X.nV k.cw;have m:SR {y with N:=(s.w.N:Int)} (.word s.w.L s.w.K s.w.S 0) (.int .i32 (enc s.w.L s.w.K s.w.S s.w.N)):=tx rfl
 by_cases p:(decide ((s.w.N:Int)=0)||s.w.L||s.w.K||s.w.S)=true
 . have key:=C.u7 (Fl.of {y with N:=(s.w.N:Int)}) b o kind (decide ((s.w.N:Int)=0)) s.w.L s.w.K s.w.S p
   have a:(decide (s.w.N=0)||s.w.L||s.w.K||s.w.S)=true:=by simpa using p
   exact⟨_,w,#[],.out,s,.ue,i,by simp only[Mu.mv,a,aay,lb],.out,nxt (y:={y with N:=(s.w.N:Int)}) key e f d m rfl,bC rfl,k,hQ,λ_=>rfl⟩
 have a:(decide ((s.w.N:Int)=0)||s.w.L||s.w.K||s.w.S)=false:=by simpa using p
 have q:(decide (s.w.N=0)||s.w.L||s.w.K||s.w.S)=false:=by rw[<-a];simp
 simp only[aea,aaU]at a;obtain⟨⟨⟨z,r⟩,t⟩,u⟩:=a;have j:s.w.N≠0:=by omega
 have key:=C.u7c (Fl.of {y with N:=(s.w.N:Int)}) b o kind
 rw[JY (by show decide ((s.w.N:Int)=0)=false;simpa using j)]at key
 rw[r,t,u]at m;exact⟨_,w,#[],.kA s.w,s,.kA _,i,by simp only[Mu.mv,q,aal,aao,lb],.kA _,nxt (y:={y with N:=(s.w.N:Int)}) key e f d (by rw[r,t,u];exact m) ⟨rfl,rfl,r,t,u,j⟩,bC rfl,k,hQ,λ_=>rfl⟩
include C X in
def Lg(d:ShM b o w s)(l:s.ms<=1000)(h:qC P n b o kind .give cs g):nT P n b o kind Wd cs g w main .give s:=by
 obtain⟨c,y,fr,frs,k,j,i,f,rfl⟩:=h;have e:IntKind.u32.wrap ((s.ms:Int)+1)=((s.ms+1:Nat):Int):=by rw[IntKind.wrap_u32];omega
 rcases k with rfl|rfl
 . have a:=qT (main:=main) (cs:=frs++cs) (w:=w) i (C.Zy b o kind) (by simp[G7,xT]) X.qU d.cs (d.fz _)
   rw[e]at a;exact⟨_,_,_,.out,{s with ms:=s.ms+1},.ue,a,by simp[Mu.mv],.out,nxt (C.u8 (Fl.of y) b o kind) j i f rfl rfl,R5 rfl,d.Ib _,yJ,λ_=>rfl⟩
 have a:=qT (main:=main) (cs:=frs++cs) (w:=w) i (C.Zz b o kind) (by simp[G9,xT]) X.qU d.cs (d.fz _)
 rw[e]at a;exact⟨_,_,_,.out,{s with ms:=s.ms+1},.ue,a,by simp[Mu.mv],.out,nxt (C.u9 (Fl.of y) b o kind) j i f rfl rfl,R5 rfl,d.Ib _,yJ,λ_=>rfl⟩
end
