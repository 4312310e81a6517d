import Derived.Conc.ClockLaws
import Derived.Conc.MarkLaws
import Derived.Conc.AtomicLaws2
import Derived.Conc.SmallLaws
import Derived.Laws.LoneSync
import Derived.Test.YtabmephejpgigaaGreatDoorC6
set_option linter.all false
namespace Go.cr
open Go.Conc
abbrev aaM:=List (Nat × SV)
def aZ(s:oB):Option (FuncId × List SV):=
 match s.mode,s.todo with
 | .run, .inRegion ops (i::_)::_=>match ops[i]? with
   | some o=>match yL ops s.env o with
     | some true=>match o.op with
       | .call c=>match c.callee with
         |.value (.func f)=>some (f,c.args.toList.map (sv s.env))
         |_=>none
       |_=>none
     |_=>none
   |none=>none
 |_,_=>none
def qm(s:oB):Option (TypeId × SV):=
 match s.mode,s.todo with
 | .run,.inRegion ops (i::_)::_=>match ops[i]? with
   | some o=>match yL ops s.env o with
     | some true=>match o.op with
       |.load t x=>some (t,sv s.env x)
       |_=>none
     |_=>none
   |none=>none
 |_,_=>none
structure Ext(P:abm)(f:FuncId)  e :Prop where
 ex:∃fn,P.funcs[f]?=some fn/\(fn.name==  "runtime.NumGoroutine")=false/\fn.body.isNone=true/\Extern.findNext fn=none/\Extern.find fn=some e
def dg {y s fr f svs} (j:FR y s fr) (h:aZ s=some (f,svs)) :
 ∃ ops i rest kk o as a,ops[i]? = some o∧Region.wanted o (yielded ops fr.tmps)=true∧o.op = .call { callee:=.value (.func f),args:=as,argTypes:=a }∧svs=as.toList.map (sv s.env) ∧
   fr=(fr.at ⟨fr.tmps,fr.defers⟩ (.inRegion ops (i :: rest) :: kk))∧∀ v,fr.at ((⟨fr.tmps,fr.defers⟩:Act).put o.dst v) (.inRegion ops rest :: kk)=fr.finish v:=by
 have d:=j;obtain⟨fn,tmps,todo,defs,mode,kind,ro⟩:=fr;obtain⟨n,e,p,b,q,k,r,t⟩:=j;simp only at n e p b q k r t;subst k;unfold aZ at h;split at h
 . rename_i ops i rest kk u w
   rw[u] at b;rw[w] at e;have b:mode = .run:=b;subst b;subst e;split at h
   . rename_i o l
     split at h
     . rename_i x
       split at h
       . rename_i c z
         split at h
         . rename_i g m
           simp only[kn,zG] at h;obtain⟨rfl,rfl⟩:=h;obtain⟨callee,args,a⟩:=c;simp only at m;subst m;refine⟨ops,i,rest,kk,o,args,a,l,oX d x,z,rfl,rfl,fun v=>?_⟩
           simp only[Frame.finish,l,Option.bind_some,Act.put,Frame.at]
           grind
         cases h
       cases h
     cases h
   cases h
 cases h
section
variable{P:abm}{main:Bool}{y:Sy}{s:oB}{fr:Frame}{f:FuncId}{svs:List SV}{cs:aaY}{w:World}
def BT{fr:Frame}  x :(⟨fr.tmps,fr.defers⟩:Act).eval x=fr.eval x:=by cases x<;>rfl
def Ar {as:Array abn} (b:FR y s fr) {svs} (h:svs=as.toList.map (sv s.env)):∀ (j:Nat)  v ,svs[j]? = some v->∃ x,(as.map (⟨fr.tmps,fr.defers⟩:Act).eval)[j]? = some x∧SR y v x:=fun j v a=>by
 subst h;rw[YY,aaE] at a;obtain⟨x,c,rfl⟩:=YI.1 a;exact⟨fr.eval x,by simp[c,BT],b.sv x⟩
def er {m} (d:∀ g,m ≠ .extern g) (c:FR y s fr) (h:aZ s=some (f,svs)) (e:s.kind ≠ .early) (j:Ext P f (fun _=>do mark m;pure Extern.Race.none_)):stepG P main (G fr cs) w = .go (G (fr.finish (.tuple #[])) cs) w #[⟨.mark m,false,true⟩]:=by
 obtain⟨ops,i,rest,kk,o,as,k,l,n,p,x,z,A⟩:=dg c h;obtain⟨fn,q,r,t,u,v⟩:=j.ex;have:=stepG_mark0 (P:=P) (main:=main) (b:=fr) (a:=⟨fr.tmps,fr.defers⟩) (kk:=kk) (cs:=cs) (w:=w) (rest:=rest) m d l n (by rw[c.kind];exact e) p q r t u v
 grind
def eT {mk} (j:∀ ad g,mk ad ≠ .extern g) {ad} (d:FR y s fr) (h:aZ s=some (f,[.lit (.pointer (some ad))])) (k:s.kind ≠ .early) (l:Ext P f (Extern.Race.marked mk)):stepG P main (G fr cs) w = .go (G (fr.finish (.tuple #[])) cs) w #[⟨.mark (mk ad),false,true⟩]:=by
 obtain⟨ops,i,rest,kk,o,as,m,n,p,q,r,B,C⟩:=dg d h;obtain⟨fn,t,u,v,z,A⟩:=l.ex;obtain⟨x,e,c⟩:=Ar d r 0 _ rfl;have c:x = .pointer (some ad):=c;rw[c] at e;have:=stepG_markAt (P:=P) (main:=main) (b:=fr) (a:=⟨fr.tmps,fr.defers⟩) (kk:=kk) (cs:=cs) (w:=w) (rest:=rest) mk j n p (by rw[d.kind];exact k) q t u v z A e
 grind
def BU {as a b c} (h:[a,b,c]=as.toList.map (sv s.env)):∃ x z u,as=#[x,z,u]∧sv s.env x=a∧sv s.env z=b∧sv s.env u=c:=by
 obtain⟨l⟩:=as
 match l,h with
 | [x,z,u],h=>grind
def Jp {as a b} (h:[a,b]=as.toList.map (sv s.env)):∃ x z,as=#[x,z]∧sv s.env x=a∧sv s.env z=b:=by
 obtain⟨l⟩:=as
 match l,h with
 | [x,z],h=>grind
def Jq {as a} (h:[a]=as.toList.map (sv s.env)):∃ x,as=#[x]∧sv s.env x=a:=by
 obtain⟨l⟩:=as
 match l,h with
 | [x],h=>grind
def iA(b:FR y s fr){x a}(h:sv s.env x=a):SR y a ((⟨fr.tmps,fr.defers⟩:Act).eval x):=by subst h;rw[BT];exact b.sv x
def gE {k ad a b v n} (c:FR y s fr) (h:aZ s=some (f,[.lit (.pointer (some ad)),a,b])) (e:s.kind ≠ .early) (g:Ext P f (Extern.Atomic.casT (.int k)))
 (j:∀ x,SR y a x->x = .int k v) (hb:∀ x,SR y b x->x = .int k n) (l:w.cell? ad=some (.int k v)) (m:w.frozen? ad=false) :
 stepG P main (G fr cs) w = .go (G (fr.finish (.bool true)) cs) (w.setCell ad (.int k n)) #[⟨.cell ad,false,true⟩,⟨.cell ad,true,true⟩]:=by
 obtain⟨ops,i,rest,kk,o,as,p,q,r,t,A,J,K⟩:=dg c h;obtain⟨fn,B,C,D,E,F⟩:=g.ex;obtain⟨x,z,u,rfl,H,d,I⟩:=BU A;have:=stepG_cas_hit (P:=P) (main:=main) (b:=fr) (a:=⟨fr.tmps,fr.defers⟩) (kk:=kk) (cs:=cs) (w:=w) (rest:=rest) q r (by rw[c.kind];exact e) t B C D E k F (iA c H) (j _ (iA c d)) (hb _ (iA c I)) l m
 grind
def ik {k ad a b v old n} (c:FR y s fr) (h:aZ s=some (f,[.lit (.pointer (some ad)),a,b])) (g:s.kind ≠ .early) (j:Ext P f (Extern.Atomic.casT (.int k)))
 (l:∀ x,SR y a x->x = .int k old) (hb:∀ x,SR y b x->x = .int k n) (m:w.cell? ad=some (.int k v)) (p:w.frozen? ad=false) (d : ¬ v=old) :
 stepG P main (G fr cs) w = .go (G (fr.finish (.bool false)) cs) w #[⟨.cell ad,false,true⟩]:=by
 obtain⟨ops,i,rest,kk,o,as,q,r,t,A,B,K,L⟩:=dg c h;obtain⟨fn,C,D,E,F,H⟩:=j.ex;obtain⟨x,z,u,rfl,I,e,J⟩:=BU B;have:=stepG_cas_miss (P:=P) (main:=main) (b:=fr) (a:=⟨fr.tmps,fr.defers⟩) (kk:=kk) (cs:=cs) (w:=w) (rest:=rest) r t (by rw[c.kind];exact g) A C D E F k H (iA c I) (l _ (iA c e)) (hb _ (iA c J)) m p d
 grind
def oY {k ad a v d} (c:FR y s fr) (h:aZ s=some (f,[.lit (.pointer (some ad)),a])) (g:s.kind ≠ .early) (j:Ext P f (Extern.Atomic.update (Op.intArith .add) k true))
 (l:∀ x,SR y a x->x = .int k d) (m:w.cell? ad=some (.int k v)) (n:w.frozen? ad=false) :
 stepG P main (G fr cs) w = .go (G (fr.finish (.int k (k.wrap (v+d)))) cs) (w.setCell ad (.int k (k.wrap (v+d)))) #[⟨.cell ad,false,true⟩,⟨.cell ad,true,true⟩]:=by
 obtain⟨ops,i,rest,kk,o,as,p,q,r,t,u,H,I⟩:=dg c h;obtain⟨fn,A,B,C,D,E⟩:=j.ex;obtain⟨x,z,rfl,F,e⟩:=Jp u;have:=stepG_add_atomic (P:=P) (main:=main) (b:=fr) (a:=⟨fr.tmps,fr.defers⟩) (kk:=kk) (cs:=cs) (w:=w) (rest:=rest) q r (by rw[c.kind];exact g) t A B C D k E (iA c F) (l _ (iA c e)) m n
 grind
def rX {ad l n} (d:FR y s fr) (h:aZ s=some (f,.lit (.pointer (some ad)) :: l)) (g:s.kind ≠ .early) (j:Ext P f Extern.Sync.semacquire) (k:w.cell? ad=some (.int .u32 n)) (m:n≠0) (p:w.frozen? ad=false) :
 stepG P main (G fr cs) w = .go (G (fr.finish (.tuple #[])) cs) (w.setCell ad (.int .u32 (n-1))) (semEvents ad):=by
 obtain⟨ops,i,rest,kk,o,as,q,r,t,u,v,E,F⟩:=dg d h;obtain⟨fn,z,A,B,C,D⟩:=j.ex;obtain⟨x,e,c⟩:=Ar d v 0 _ rfl;have c:x = .pointer (some ad):=c;rw[c] at e;have:=stepG_semacquire (P:=P) (main:=main) (b:=fr) (a:=⟨fr.tmps,fr.defers⟩) (kk:=kk) (cs:=cs) (w:=w) (rest:=rest) r t (by rw[d.kind];exact g) u z A B C D e k m p
 grind
def yR {ad l} (d:FR y s fr) (h:aZ s=some (f,.lit (.pointer (some ad)) :: l)) (g:Ext P f Extern.Sync.semacquire) (j:w.cell? ad=some (.int .u32 0)) :
 stepG P main (G fr cs) w = .go { G fr cs with status:=.blocked } w #[]:=by
 obtain⟨ops,i,rest,kk,o,as,k,m,n,p,q,A,B⟩:=dg d h;obtain⟨fn,r,t,u,v,z⟩:=g.ex;obtain⟨x,e,c⟩:=Ar d q 0 _ rfl;have c:x = .pointer (some ad):=c;rw[c] at e;have:=stepG_semacquire_wait (P:=P) (main:=main) (b:=fr) (a:=⟨fr.tmps,fr.defers⟩) (kk:=kk) (cs:=cs) (w:=w) (rest:=rest) m n p r t u v z e j
 grind
def nF {ad l n} (d:FR y s fr) (h:aZ s=some (f,.lit (.pointer (some ad)) :: l)) (g:s.kind ≠ .early) (j:Ext P f Extern.Sync.semrelease) (k:w.cell? ad=some (.int .u32 n)) (m:w.frozen? ad=false) :
 stepG P main (G fr cs) w = .go (G (fr.finish (.tuple #[])) cs) (w.setCell ad (.int .u32 (IntKind.u32.wrap (n+1)))) (semEvents ad):=by
 obtain⟨ops,i,rest,kk,o,as,p,q,r,t,u,D,E⟩:=dg d h;obtain⟨fn,v,z,A,B,C⟩:=j.ex;obtain⟨x,e,c⟩:=Ar d u 0 _ rfl;have c:x = .pointer (some ad):=c;rw[c] at e;have:=stepG_semrelease (P:=P) (main:=main) (b:=fr) (a:=⟨fr.tmps,fr.defers⟩) (kk:=kk) (cs:=cs) (w:=w) (rest:=rest) q r (by rw[d.kind];exact g) t v z A B C e k m
 grind
def yS (d:FR y s fr) (h:aZ s=some (f,svs)) (e:s.kind ≠ .early) (g:Ext P f Extern.OsHooks.nano) (j:∃ fn,P.funcs[f]? = some fn∧fn.norace=true) :
 stepG P main (G fr cs) w = .go (G (fr.finish (.int .i64 ((w.os.mono+w.tick:Nat):Int))) cs) w.later #[]:=by
 obtain⟨ops,i,rest,kk,o,as,k,l,m,n,x,z,A⟩:=dg d h;obtain⟨fn,p,q,r,t,u⟩:=g.ex;obtain⟨c,B,v⟩:=j;obtain rfl:c=fn:=by grind
 have:=stepG_nanotime (P:=P) (main:=main) (b:=fr) (a:=⟨fr.tmps,fr.defers⟩) (kk:=kk) (cs:=cs) (w:=w) (rest:=rest) l m (by rw[d.kind];exact e) n p q r t u v
 grind
def GK {n} (d:FR y s fr) (h:aZ s=some (f,[.lit (.int .i64 n)])) (g:s.kind ≠ .early) (v:Ext P f Extern.Sync.canSpin) :
 ∃ b w',stepG P main (G fr cs) w = .go (G (fr.finish (.bool b)) cs) w' #[]∧(b=true->n<4)∧(w'=w∨w'=w.asked):=by
 obtain⟨ops,i,rest,kk,o,as,z,j,l,m,e,B,C⟩:=dg d h;obtain⟨fn,p,q,r,t,u⟩:=v.ex;obtain⟨x,rfl,A⟩:=Jq e;have c:(⟨fr.tmps,fr.defers⟩:Act).eval x = .int .i64 n:=iA d A
 by_cases e:n<4
 . have:=stepG_canSpin_ask (P:=P) (main:=main) (b:=fr) (a:=⟨fr.tmps,fr.defers⟩) (kk:=kk) (cs:=cs) (w:=w) (rest:=rest) j l (by rw[d.kind];exact g) m p q r t u (n:=n) (k:=.i64) (by simp[c]) e
   grind
 have:=stepG_canSpin_no (P:=P) (main:=main) (b:=fr) (a:=⟨fr.tmps,fr.defers⟩) (kk:=kk) (cs:=cs) (w:=w) (rest:=rest) j l (by rw[d.kind];exact g) m p q r t u (n:=n) (k:=.i64) (by simp[c]) (by omega)
 grind
def te {v} (c:FR y s fr) (h:aZ s=some (f,svs)) (d:s.kind ≠ .early) (e:Ext P f (fun _=>pure v)):stepG P main (G fr cs) w = .go (G (fr.finish v) cs) w #[]:=by
 obtain⟨ops,i,rest,kk,o,as,g,j,k,l,t,u,x⟩:=dg c h;obtain⟨fn,m,n,p,q,r⟩:=e.ex;have:=stepG_entry (P:=P) (main:=main) (b:=fr) (a:=⟨fr.tmps,fr.defers⟩) (kk:=kk) (cs:=cs) (w:=w) (rest:=rest) (v:=v) (w':=w) (evs:=#[]) j k (by rw[c.kind];exact d) l m n p q r (by simp) (by simp) (by simp)
 grind
def Jr{α β P}{f:α->Sem β}  s :∀{a},mG P s=some a->∀w es,(s.bind f).runT P w es=(f a).runT P w es:=by
 induction s with
 |pure b=>intro a h w es;simp only[mG,kn]at h;subst h;rfl
 |program g c=>intro a h w es;simp only[mG]at h;exact c P h w es
 |_=>intro a h;simp[mG]at h
def pT{t:Nat}{ad v}(q:FR y s fr)(h:qm s=some (t,.lit (.pointer (some ad))))(C:mG P (isAgg t)=some false)(D:∃fn,P.funcs[s.fn]?=some fn/\fn.norace=true)(E:w.cell? ad=some v):
 stepG P main (G fr cs) w=.go (G (fr.finish v) cs) w #[]:=by
 have f:=q;obtain⟨fn,tmps,todo,defs,mode,kind,ro⟩:=fr;obtain⟨r,i,F,g,H,u,I,J⟩:=q;simp only at r i F g H u I J;subst u;unfold qm at h;split at h
 . rename_i ops z rest A K j
   rw[K]at g;rw[j]at i;have g:mode=.run:=g;subst g;subst i;split at h
   . rename_i o L
     split at h
     . rename_i M
       split at h
       . rename_i a x k
         simp only[kn,zG]at h;obtain⟨rfl,N⟩:=h;have d:=f.sv x;rw[N]at d;have d:Frame.eval ⟨fn,tmps,.inRegion ops (z::rest)::A,defs,.run,kind,none⟩ x=.pointer (some ad):=d;obtain⟨O,l,p⟩:=D;subst r;rw[mW L (oX f M)];have hex:execOp (Frame.eval ⟨s.fn,tmps,.inRegion ops (z::rest)::A,defs,.run,kind,none⟩) o=Sem.bind (Instr.loadAt a (.pointer (some ad))) (λv=>pure (Next.value v)):=by simp only[execOp,k,d];rfl
         have e:(Sem.bind (Instr.loadAt a (.pointer (some ad))) (λv=>(pure (Next.value v):Sem Next))).runT P w #[]=(.ok (.value v) w,#[⟨.cell ad,false,false⟩]):=by
          have Q:Instr.loadAt a (.pointer (some ad))=Sem.bind (isAgg a) (λb=>if b=true then Sem.bind (sizeOf a) (λn=>Sem.bind (loadCells ad n) (λc=>pure (.agg c)))else load ad):=rfl
          rw[Q]
          have R:Sem.bind (Sem.bind (isAgg a) (λb=>if b=true then Sem.bind (sizeOf a) (λn=>Sem.bind (loadCells ad n) (λc=>pure (.agg c)))else load ad)) (λv=>(pure (Next.value v):Sem Next))=
           Sem.bind (isAgg a) (λb=>Sem.bind (if b=true then Sem.bind (sizeOf a) (λn=>Sem.bind (loadCells ad n) (λc=>pure (.agg c)))else load ad) (λv=>(pure (Next.value v):Sem Next))):=bind_assoc (m:=Sem) _ _ _
          rw[R,Jr _ C];show(Sem.bind (load ad) (λv=>(pure (Next.value v):Sem Next))).runT P w #[]=_
          unfold load;show Sem.runT P (Sem.load .plain ad λv=>pure (Next.value v)) w #[]=_
          simp only[Sem.runT,E];rfl
         rw[hex]
         have S:seen P s.fn #[⟨.cell ad,false,false⟩]=#[]:=by rw[seen_def];simp[l,p,seenStep]
         simp only[stepG.apply,YD,e,GStep.after]
         by_cases B:(kind==CallKind.early)=true
         . simp[B,fY,G]
         simp[B,S,G]
       cases h
     cases h
   cases h
 cases h
def j7(s:oB):Option (TypeId × TypeId × SV):=
 match s.mode,s.todo with
 | .run,.inRegion ops (i::_)::_=>match ops[i]? with
   | some o=>match yL ops s.env o with
     | some true=>match o.op with
       |.convert a b x=>some (a,b,sv s.env x)
       |_=>none
     |_=>none
   |none=>none
 |_,_=>none
def tg{a b t ad}(l:FR y s fr)(h:j7 s=some (a,b,.lit (.pointer (some ad))))(m:P.underlying a=some (.pointer t))(n:P.underlying b=some .unsafePointer)(p:(P.info? t).map (λi=>decide (i.size=0))=some false)(f:∃v,w.cell? ad=some v):
 stepG P main (G fr cs) w=.go (G (fr.finish (.pointer (some ad))) cs) w #[]:=by
 obtain⟨v,f⟩:=f;have d:=l;obtain⟨fn,tmps,todo,defs,mode,kind,ro⟩:=fr;obtain⟨z,g,A,e,B,q,C,D⟩:=l;simp only at z g A e B q C D;subst q;unfold j7 at h;split at h
 . rename_i ops r rest u E j
   rw[E]at e;rw[j]at g;have e:mode=.run:=e;subst e;subst g;split at h
   . rename_i o F
     split at h
     . rename_i H
       split at h
       . rename_i I J x k
         simp only[kn,zG]at h;obtain⟨rfl,rfl,K⟩:=h;have c:=d.sv x;rw[K]at c;have c:Frame.eval ⟨fn,tmps,.inRegion ops (r::rest)::u,defs,.run,kind,none⟩ x=.pointer (some ad):=c;rw[mW F (oX d H)];have hex:execOp (Frame.eval ⟨fn,tmps,.inRegion ops (r::rest)::u,defs,.run,kind,none⟩) o=(do pure (.value (<-convert I J (.pointer (some ad)))):Sem Next):=by simp only[execOp,k,c]
         have L:=run_convert_to_unsafe m n p f;have M:=events_convert_to_unsafe m n p f #[];rw[hex];simp[stepG.apply,L,M,GStep.after,fY,G,Result.andThen]
       cases h
     cases h
   cases h
 cases h
end
def dz(P:abm)(f:FuncId)(args:List SV)(kind:abi):oB:=
 match P.funcs[f]? with
 |some fn=>⟨f,[.code (fn.body.getD .skip)],args++List.replicate (fn.ntmps-args.length) .cu,[],.run,kind⟩
 |none=>⟨f,[],args,[],.run,kind⟩
abbrev cL:=oB × List oB
def next(P:abm)(a:Fl)(c:cL)(v:SV):cL:=match wi c.1 v with|some s=>sgo P a 400 s c.2|none=>c
def pt(b o:Nat):SV:=.lit (.pointer (some ⟨b,o,none⟩))
def un:SV:=.lit (.tuple #[])
def tt:SV:=.lit (.bool true)
def ff:SV:=.lit (.bool false)
def FB(live:abf)(env:List SV):List SV:=(List.range env.length).zipWith (λi v=>if live.contains i then v else .cu) env
def keep(live:abf)(s:oB):oB:={s with env:=FB live s.env}
def Js(env:List SV):aaM->List SV
 |[]=>env
 |(i,v)::l=>Js (env.set i v) l
def FR.keep{y:Sy}{s:oB}{fr:Frame}(h:FR y s fr)(live:abf):FR y (keep live s) fr:=by
 refine⟨h.fn,h.todo,h.defers,h.mode,h.kind,h.ro,?_,λt=>?_⟩
 . rw[h.size]
   show s.env.length=(FB live s.env).length;rw[FB,List.length_zipWith,ZI,Nat.min_self]
 have:=h.env t;simp only[Go.cr.keep,FB];rw[zA,List.getElem?_zipWith];by_cases a:t<s.env.length
 . rw[List.getElem?_range a,zR a]
   simp only[Zt];split
   . simp_all
   trivial
 simp_all
def plain:SV->Bool
 |.cu=>true
 |.lit _=>true
 |_=>false
def FR.fZ{y y' s fr}(h:FR y s fr)(a:s.env.all plain=true):FR y' s fr:=by
 refine⟨h.fn,h.todo,h.defers,h.mode,h.kind,h.ro,h.size,λt=>?_⟩;have b:=h.env t
 have c:plain (s.env.getD t .cu)=true:=by
  rw[zA];cases q:s.env[t]? with
  |none=>rfl
  |some v=>grind
 generalize s.env.getD t .cu=v at *;cases v<;>simp_all [plain,SR]
structure BV where
 lock:Nat
 unlock:Nat
 R9:Nat
 ve:Nat
 PO:Nat
 OU:Nat
 jb:Nat
 en:Nat
 acq:Nat
 rel:Nat
 jX:Nat
 add:Nat
 GL:Nat
 th:Nat
 nano:Nat
 DX:Nat
 nG:Nat
 tM:Nat
 tU:Nat
 tI:Nat
def Up(c:cL):abf:=[c.1.fn,c.1.todo.length,(match c.1.todo with|.inRegion ops (i::_)::_=>i|_=>999),(match aZ c.1 with|some (f,_)=>f|none=>match qm c.1 with|some (t,_)=>1000+t|none=>999)]++c.2.map (·.fn)
def kN:Fl:=⟨false,false,false,false,false,false⟩
def Jt(P:abm)(f:Fl):Nat->oB->List oB->cL
 |0,fr,st=>(fr,st)
 | n + 1,fr,st=>match ss P f fr st with
   | some (a,b)=>match a.todo with
     |.code _::.inLoop _::_=>(a,b)
     |_=>Jt P f n a b
   |none=>(fr,st)
def BW(live:abf)(c:cL):cL:=(keep live c.1,c.2.map (keep []))
def aM(P:abm)(a:Fl)(live:abf)(c:cL)(v:SV):Option cL:=(wi c.1 v).map λs=>BW live (sgo P a 400 s c.2)
def oZ(P:abm)(a:Fl)(live:abf)(c:cL)(v:SV):Option cL:=(wi c.1 v).map λs=>BW live (Jt P a 400 s c.2)
def Sa(P:abm)(a:Fl)(live:abf)(c:cL):cL:=BW live (sgo P a 400 c.1 c.2)
def bl(x:Bool):SV:=.lit (.bool x)
def i64(n:Int):SV:=.lit (.int .i64 n)
def i32(n:Int):SV:=.lit (.int .i32 n)
def jk(n:Nat):List SV:=List.replicate n .cu
section
variable(P:abm)(n:BV)(b o:Nat)(kind:abi)
def wf:SV:=.word false false false 0
def wl:SV:=.word true false false 0
def Uq:cL:=BW [0] (sgo P kN 400 (dz P n.lock [pt b o] kind) [])
def Ju:cL:=next P kN (Uq P n b o kind) un
def Sb:cL:=next P kN (Ju P n b o kind) tt
def Sc:cL:=next P kN (Sb P n b o kind) un
def Ur:cL:=next P kN (Sc P n b o kind) (pt b o)
def DY:cL:=next P kN (Ju P n b o kind) ff
def Xs:cL:=(oZ P kN [] (DY P n b o kind) wf).getD (DY P n b o kind)
def Us:cL:=next P kN (DY P n b o kind) wl
def VA:cL:=next P kN (Us P n b o kind) tt
def VB:cL:=next P kN (VA P n b o kind) tt
def Ut:cL:=next P kN (VB P n b o kind) un
def PQ:cL:=next P kN (Us P n b o kind) ff
def Uu:cL:=next P kN (PQ P n b o kind) ff
def Sd:cL:=next P kN (next P kN (DY P n b o kind) wf) tt
def Se:cL:=next P kN (Sd P n b o kind) un
def Uv:cL:=next P kN (Se P n b o kind) (pt b o)
def VC:cL:=next P kN (PQ P n b o kind) tt
def VD:cL:=next P kN (VC P n b o kind) .GJ
def VE:cL:=next P kN (VD P n b o kind) un
def VF:cL:=next P kN (VE P n b o kind) .now
def Xt:cL:=next P kN (VF P n b o kind) (.word false false true 0)
def Sf:List oB:=(Uq P n b o kind).2
def Ua:List oB:=(DY P n b o kind).2.map (keep [])
def lW(a:abb)(l:aaM):cL:=(⟨n.R9,a,Js (jk 13) l,[],.run,.normal⟩,Sf P n b o kind)
def cE(a:abb)(l:aaM):cL:=(⟨n.PO,a,Js (jk 139) l,[],.run,.normal⟩,Ua P n b o kind)
def LD:cL:=Uq P n b o kind
def ti:cL:=lW P n b o kind (Ju P n b o kind).1.todo [(0,pt b o),(5,pt b o)]
def OV:cL:=lW P n b o kind (Sb P n b o kind).1.todo [(0,pt b o)]
def Rc:cL:=lW P n b o kind (Sc P n b o kind).1.todo [(8,pt b o)]
def OW:cL:=lW P n b o kind (Ur P n b o kind).1.todo [(9,pt b o)]
def BK:cL:=(⟨n.lock,[],jk 6,[],.ret,kind⟩,[])
def OX(aw sv:Bool)(it:Int):aaM:=[(0,pt b o),(2,.GJ),(3,bl sv),(4,bl aw),(5,i64 it)]
def Ub:cL:=cE P n b o kind (DY P n b o kind).1.todo [(0,pt b o),(2,i64 0),(3,ff),(4,ff),(5,i64 0),(12,pt b o)]
def PR(aw sv:Bool)(it:Int):cL:=cE P n b o kind (DY P n b o kind).1.todo (OX b o aw sv it++[(12,pt b o)])
def FC(aw sv:Bool)(it:Int):cL:=cE P n b o kind (Ut P n b o kind).1.todo (OX b o aw sv it++[(47,pt b o)])
def PS(aw sv:Bool)(it:Int):cL:=cE P n b o kind (Uu P n b o kind).1.todo (OX b o aw sv it++[(133,pt b o)])
def HD(L K S aw sv:Bool)(it:Int):cL:=cE P n b o kind (Xs P n b o kind).1.todo (OX b o aw sv it++[(6,.word L K S 0)])
def SQ(K aw sv:Bool)(it:Int):cL:=cE P n b o kind (Us P n b o kind).1.todo (OX b o aw sv it++[(6,.word true K false 0),(17,tt),(18,i64 it)])
def SW(it:Int):cL:=cE P n b o kind (VA P n b o kind).1.todo (OX b o false false it++[(33,tt),(36,pt b o),(37,.word true false false 0),(39,.word true true false 0)])
def DS(aw sv:Bool)(it:Int):cL:=cE P n b o kind (VB P n b o kind).1.todo (OX b o aw sv it)
def Nl(L K S aw sv:Bool):SV:=.word (L||!S) (if aw then false else K) (S||(sv && L)) (if L||S then 1 else 0)
def BX(L K S aw sv:Bool)(it:Int):cL:=cE P n b o kind (PQ P n b o kind).1.todo (OX b o aw sv it++[(6,.word L K S 0),(77,pt b o),(78,.word L K S 0),(79,Nl L K S aw sv)])
def T1(sv:Bool):cL:=cE P n b o kind (VC P n b o kind).1.todo [(0,pt b o),(3,bl sv)]
def PK(sv:Bool):cL:=cE P n b o kind (VD P n b o kind).1.todo [(0,pt b o),(2,.GJ),(3,bl sv),(91,pt b (o+1))]
def TQ:cL:=cE P n b o kind (VE P n b o kind).1.todo [(0,pt b o),(2,.GJ),(95,ff)]
def UP(sv:Bool):cL:=cE P n b o kind (VF P n b o kind).1.todo [(0,pt b o),(2,.GJ),(3,bl sv),(103,pt b o)]
def AD(d:Int):cL:=cE P n b o kind (Xt P n b o kind).1.todo [(0,pt b o),(128,pt b o),(129,i32 d)]
def MR:cL:=cE P n b o kind (Sd P n b o kind).1.todo [(0,pt b o)]
def Rd:cL:=cE P n b o kind (Se P n b o kind).1.todo [(136,pt b o)]
def OY:cL:=cE P n b o kind (Uv P n b o kind).1.todo [(137,pt b o)]
def Uw:cL:=BW [0,5] (sgo P kN 400 (dz P n.unlock [pt b o] kind) [])
def Sg:cL:=next P kN (Uw P n b o kind) .cu
def VG:cL:=next P kN (Sg P n b o kind) (pt b o)
def VH:cL:=next P kN (VG P n b o kind) un
def FD:cL:=next P kN (VH P n b o kind) un
def Xu:cL:=next P {kN with n0:=true} (FD P n b o kind) wf
def Uc:cL:=next P kN (FD P n b o kind) wf
def Xv:cL:=next P kN (FD P n b o kind) (.word false false true 0)
def Xw:cL:=next P kN (Uc P n b o kind) tt
def Ux:cL:=next P kN (Uc P n b o kind) ff
def Si:List oB:=(Uw P n b o kind).2
def Uy:List oB:=(Uc P n b o kind).2.map (keep [])
def oo(a:abb)(l:aaM):cL:=(⟨n.ve,a,Js (jk 21) l,[],.run,.normal⟩,Si P n b o kind)
def uy(a:abb)(l:aaM):cL:=(⟨n.OU,a,Js (jk 43) l,[],.run,.normal⟩,Uy P n b o kind)
def U0:cL:=Uw P n b o kind
def Re:cL:=oo P n b o kind (Sg P n b o kind).1.todo [(0,pt b o),(7,pt b o)]
def UR:cL:=oo P n b o kind (VG P n b o kind).1.todo [(0,pt b o),(8,pt b o)]
def UD:cL:=oo P n b o kind (VH P n b o kind).1.todo [(0,pt b o)]
def qT:cL:=oo P n b o kind (FD P n b o kind).1.todo [(0,pt b o),(13,pt b o),(14,.cu)]
def UE:cL:=oo P n b o kind (Xu P n b o kind).1.todo []
def UC:cL:=uy P n b o kind (Uc P n b o kind).1.todo [(0,pt b o),(27,pt b o),(28,wf),(29,.word false true false (-1))]
def G7:cL:=uy P n b o kind (Xw P n b o kind).1.todo [(33,pt b (o+1))]
def G9:cL:=uy P n b o kind (Xv P n b o kind).1.todo [(41,pt b (o+1))]
def MT:cL:=uy P n b o kind (Ux P n b o kind).1.todo [(0,pt b o),(37,pt b o)]
def Sj:cL:=(⟨n.unlock,[],jk 6,[],.ret,kind⟩,[])
end
structure fQ  P   n :Prop where
 e1:∀  fl  b o kind,aM P fl [0,5] (LD P n b o kind) un=some (ti P n b o kind)
 e2:∀  fl  b o kind,aM P fl [0] (ti P n b o kind) tt=some (OV P n b o kind)
 e3:∀  fl  b o kind,aM P fl [0,2,3,4,5,12] (ti P n b o kind) ff=some (Ub P n b o kind)
 e4:∀  fl  b o kind,aM P fl [8] (OV P n b o kind) un=some (Rc P n b o kind)
 e5:∀  fl  b o kind,aM P fl [9] (Rc P n b o kind) (pt b o)=some (OW P n b o kind)
 e6:∀  fl  b o kind,aM P fl [] (OW P n b o kind) un=some (BK n kind)
 VI:∀  fl  b o kind L K S aw sv it,oZ P fl [0,2,3,4,5,6] (PR P n b o kind aw sv it) (.word L K S 0)=some (HD P n b o kind L K S aw sv it)
 PT:∀  fl  b o kind L K S aw sv it,oZ P fl [0,2,3,4,5,6] (FC P n b o kind aw sv it) (.word L K S 0)=some (HD P n b o kind L K S aw sv it)
 VJ:∀  fl  b o kind L K S aw sv it,oZ P fl [0,2,3,4,5,6] (PS P n b o kind aw sv it) (.word L K S 0)=some (HD P n b o kind L K S aw sv it)
 e8:∀  fl  b o kind K aw sv it,Sa P fl [0,2,3,4,5,6,17,18] (HD P n b o kind true K false aw sv it)=SQ P n b o kind K aw sv it
 e9:∀  fl  b o kind L K S aw sv it,(L && !S)=false->(aw && !K)=false->Sa P fl [0,2,3,4,5,6,77,78,79] (HD P n b o kind L K S aw sv it)=BX P n b o kind L K S aw sv it
 bc:∀(fl:Fl) b o kind it,aM P {fl with n0:=false} [0,2,3,4,5,33,36,37,39] (SQ P n b o kind false false false it) tt=some (SW P n b o kind it)
 Sk:∀(fl:Fl) b o kind n0 K aw sv it,(!aw && !K && !n0)=false->aM P {fl with n0:=n0} [0,2,3,4,5] (SQ P n b o kind K aw sv it) tt=some (DS P n b o kind aw sv it)
 aX:∀  fl  b o kind K aw sv it,(aw && !K)=false->aM P fl [0,2,3,4,5,6,77,78,79] (SQ P n b o kind K aw sv it) ff=some (BX P n b o kind true K false aw sv it)
 bO:∀  fl  b o kind r it,aM P fl [0,2,3,4,5] (SW P n b o kind it) (bl r)=some (DS P n b o kind r false it)
 DZ:∀  fl  b o kind aw sv,aM P fl [0,2,3,4,5,47] (DS P n b o kind aw sv 0) un=some (FC P n b o kind aw sv 1)
 D5:∀  fl  b o kind aw sv,aM P fl [0,2,3,4,5,47] (DS P n b o kind aw sv 1) un=some (FC P n b o kind aw sv 2)
 Sl:∀  fl  b o kind aw sv,aM P fl [0,2,3,4,5,47] (DS P n b o kind aw sv 2) un=some (FC P n b o kind aw sv 3)
 Sm:∀  fl  b o kind aw sv,aM P fl [0,2,3,4,5,47] (DS P n b o kind aw sv 3) un=some (FC P n b o kind aw sv 4)
 wo:∀  fl  b o kind K aw sv it,aM P fl [0] (BX P n b o kind false K false aw sv it) tt=some (MR P n b o kind)
 Sn:∀(fl:Fl) b o kind L K S aw sv it,(L||S)=true->aM P {fl with wz:=true} [0,3] (BX P n b o kind L K S aw sv it) tt=some (T1 P n b o kind sv)
 So:∀(fl:Fl) b o kind L K S aw sv it,(L||S)=true->aM P {fl with wz:=false} [0,2,3,91] (BX P n b o kind L K S aw sv it) tt=some (PK P n b o kind sv)
 ju:∀  fl  b o kind L K S aw sv it,aM P fl [0,2,3,4,5,133] (BX P n b o kind L K S aw sv it) ff=some (PS P n b o kind aw sv it)
 iR:∀  fl  b o kind sv,aM P fl [0,2,3,91] (T1 P n b o kind sv) .GJ=some (PK P n b o kind sv)
 Sp:∀  fl  b o kind,aM P fl [0,2,3,103] (PK P n b o kind true) un=some (UP P n b o kind true)
 Sq:∀  fl  b o kind,aM P fl [0,2,95] (PK P n b o kind false) un=some (TQ P n b o kind)
 MU:∀(fl:Fl) b o kind x,aM P {fl with tb:=x} [0,2,3,103] (TQ P n b o kind) .now=some (UP P n b o kind x)
 Sr:∀(fl:Fl) b o kind sv n1,aM P {fl with n0:=false,n1:=n1} [0,128,129] (UP P n b o kind sv) (.word false false true 0)=some (AD P n b o kind (if !sv||n1 then -11 else -7))
 Rf:∀(fl:Fl) b o kind L K sv,oZ P fl [0,2,3,4,5,6] (UP P n b o kind sv) (.word L K false 0)=some (HD P n b o kind L K false true sv 0)
 OZ:∀(fl:Fl) b o kind d,aM P fl [0] (AD P n b o kind d) .cu=some (MR P n b o kind)
 Jv:∀(fl:Fl) b o kind,aM P fl [136] (MR P n b o kind) un=some (Rd P n b o kind)
 IJ:∀(fl:Fl) b o kind,aM P fl [137] (Rd P n b o kind) (pt b o)=some (OY P n b o kind)
 vf:∀(fl:Fl) b o kind,aM P fl [] (OY P n b o kind) un=some (BK n kind)
 u1:∀(fl:Fl) b o kind,aM P fl [0,7] (U0 P n b o kind) .cu=some (Re P n b o kind)
 u2:∀(fl:Fl) b o kind,aM P fl [0,8] (Re P n b o kind) (pt b o)=some (UR P n b o kind)
 u3:∀(fl:Fl) b o kind,aM P fl [0] (UR P n b o kind) un=some (UD P n b o kind)
 u4:∀(fl:Fl) b o kind,aM P fl [0,13] (UD P n b o kind) un=some (qT P n b o kind)
 u5:∀(fl:Fl) b o kind n0 K,(n0||K)=true->aM P {fl with n0:=n0} [] (qT P n b o kind) (.word false K false 0)=some (UE P n b o kind)
 VK:∀(fl:Fl) b o kind n0 K,aM P {fl with n0:=n0} [41] (qT P n b o kind) (.word false K true 0)=some (G9 P n b o kind)
 VL:∀(fl:Fl) b o kind,aM P {fl with n0:=false} [0,27,28,29] (qT P n b o kind) (.word false false false 0)=some (UC P n b o kind)
 VM:∀(fl:Fl) b o kind,aM P fl [33] (UC P n b o kind) tt=some (G7 P n b o kind)
 VN:∀(fl:Fl) b o kind,aM P fl [0,37] (UC P n b o kind) ff=some (MT P n b o kind)
 u7:∀(fl:Fl) b o kind n0 L K S,(n0||L||K||S)=true->aM P {fl with n0:=n0} [] (MT P n b o kind) (.word L K S 0)=some (UE P n b o kind)
 VO:∀(fl:Fl) b o kind,aM P {fl with n0:=false} [0,27,28,29] (MT P n b o kind) (.word false false false 0)=some (UC P n b o kind)
 u8:∀(fl:Fl) b o kind,aM P fl [] (G7 P n b o kind) un=some (UE P n b o kind)
 u9:∀(fl:Fl) b o kind,aM P fl [] (G9 P n b o kind) un=some (UE P n b o kind)
 VP:∀(fl:Fl) b o kind,aM P fl [] (UE P n b o kind) un=some (Sj n kind)
 o1:∀b o kind,aZ (LD P n b o kind).1=some (n.jb,[])/\(LD P n b o kind).1.kind=.normal
 o2:∀b o kind,aZ (ti P n b o kind).1=some (n.jX,[pt b o,i32 0,i32 1])
 o3:∀b o kind,aZ (OV P n b o kind).1=some (n.en,[])
 o4:∀b o kind,j7 (Rc P n b o kind).1=some (n.tM,n.tU,pt b o)
 o5:∀b o kind,aZ (OW P n b o kind).1=some (n.acq,[pt b o])
 VQ:∀b o kind aw sv it,qm (PR P n b o kind aw sv it).1=some (n.tI,pt b o)
 VR:∀b o kind aw sv it,qm (FC P n b o kind aw sv it).1=some (n.tI,pt b o)
 VS:∀b o kind aw sv it,qm (PS P n b o kind aw sv it).1=some (n.tI,pt b o)
 o7:∀b o kind K aw sv it,aZ (SQ P n b o kind K aw sv it).1=some (n.GL,[i64 it])
 o8:∀b o kind it,aZ (SW P n b o kind it).1=some (n.jX,[pt b o,.word true false false 0,.word true true false 0])
 o9:∀b o kind aw sv it,aZ (DS P n b o kind aw sv it).1=some (n.th,[])
 Uz:∀b o kind L K S aw sv it,aZ (BX P n b o kind L K S aw sv it).1=some (n.jX,[pt b o,.word L K S 0,Nl L K S aw sv])
 VT:∀b o kind sv,aZ (T1 P n b o kind sv).1=some (n.nano,[])
 UA:∀b o kind sv,aZ (PK P n b o kind sv).1=some (n.DX,[pt b (o+1),.cu,i64 2])
 VU:∀b o kind,aZ (TQ P n b o kind).1=some (n.nano,[])
 VV:∀b o kind sv,qm (UP P n b o kind sv).1=some (n.tI,pt b o)
 VW:∀b o kind d,aZ (AD P n b o kind d).1=some (n.add,[pt b o,i32 d])
 VX:∀b o kind,aZ (MR P n b o kind).1=some (n.en,[])
 VY:∀b o kind,j7 (Rd P n b o kind).1=some (n.tM,n.tU,pt b o)
 VZ:∀b o kind,aZ (OY P n b o kind).1=some (n.acq,[pt b o])
 UB:∀b o kind,qm (U0 P n b o kind).1=some (n.tI,pt b o)/\(U0 P n b o kind).1.kind=.normal/\(U0 P n b o kind).1.fn=n.ve
 V0:∀b o kind,j7 (Re P n b o kind).1=some (n.tM,n.tU,pt b o)
 V1:∀b o kind,aZ (UR P n b o kind).1=some (n.rel,[pt b o])
 V2:∀b o kind,aZ (UD P n b o kind).1=some (n.jb,[])
 UF:∀b o kind,aZ (qT P n b o kind).1=some (n.add,[pt b o,i32 (-1)])
 UG:∀b o kind,aZ (UC P n b o kind).1=some (n.jX,[pt b o,wf,.word false true false (-1)])
 UH:∀b o kind,aZ (G7 P n b o kind).1=some (n.nG,[pt b (o+1),ff,i64 2])
 UI:∀b o kind,aZ (G9 P n b o kind).1=some (n.nG,[pt b (o+1),tt,i64 2])
 V3:∀b o kind,qm (MT P n b o kind).1=some (n.tI,pt b o)
 V4:∀b o kind,aZ (UE P n b o kind).1=some (n.en,[])
 p1:∀b o kind,(Sf P n b o kind).all (·.env.all plain)=true/\(LD P n b o kind).1.env.all plain=true/\(LD P n b o kind).2=Sf P n b o kind
 p2:∀b o kind,(Ua P n b o kind).all (·.env.all plain)=true
 p3:∀b o kind,(Si P n b o kind).all (·.env.all plain)=true/\(U0 P n b o kind).1.env.all plain=true/\(U0 P n b o kind).2=Si P n b o kind
 p4:∀b o kind,(Uy P n b o kind).all (·.env.all plain)=true
structure fR  P  (n:BV):Prop where
 jb:Ext P n.jb (λ_=>do mark .disable;pure Extern.Race.none_)
 en:Ext P n.en (λ_=>do mark .enable;pure Extern.Race.none_)
 acq:Ext P n.acq (Extern.Race.marked .acquire)
 rel:Ext P n.rel (Extern.Race.marked .releaseMerge)
 jX:Ext P n.jX (Extern.Atomic.casT (.int .i32))
 add:Ext P n.add (Extern.Atomic.update (Op.intArith .add) .i32 true)
 GL:Ext P n.GL Extern.Sync.canSpin
 th:Ext P n.th (λ_=>pure (.tuple #[]))
 nano:Ext P n.nano Extern.OsHooks.nano
 Jw:∃fn,P.funcs[n.nano]?=some fn/\fn.norace=true
 DX:Ext P n.DX Extern.Sync.semacquire
 nG:Ext P n.nG Extern.Sync.semrelease
 Ss:mG P (isAgg n.tI)=some false
 V5:∃t,P.underlying n.tM=some (.pointer t)/\P.underlying n.tU=some .unsafePointer/\(P.info? t).map (λi=>decide (i.size=0))=some false
 nS:∃fn,P.funcs[n.PO]?=some fn/\fn.norace=true
 nU:∃fn,P.funcs[n.ve]?=some fn/\fn.norace=true
 nV:∃fn,P.funcs[n.OU]?=some fn/\fn.norace=true
def Sy.ok(y:Sy):Prop:=(0<=y.N/\y.N<=1000)/\(0<=y.c/\y.c<=1000)
def Fl.of(y:Sy):Fl:=⟨decide (y.N=0),decide (y.N=1),decide (y.c=0),decide (y.c=1),decide (y.ws=0),decide (IntKind.i64.wrap (y.tn-y.ws)>1000000)⟩
def Fl.BY{y}(h:y.ok):(Fl.of y).At y:=⟨h.1,h.2,rfl,rfl,rfl,rfl,rfl,rfl⟩
def FE:SV->Bool|.word ..=>true|.cnt=>true|_=>false
def Jx:SV->Bool|.dU _=>true|.FA=>true|.GH=>true|_=>false
def Jy:SV->Bool|.GJ=>true|.R6=>true|_=>false
def Jz:SV->Bool|.now=>true|.R6=>true|_=>false
def SR.re{y y' v x}(h:SR y v x)(a:y.N=y'.N\/FE v=false)(b:y.c=y'.c\/Jx v=false)(d:y.ws=y'.ws\/Jy v=false)(e:y.tn=y'.tn\/Jz v=false):SR y' v x:=by cases v<;>simp_all [SR,FE,Jx,Jy,Jz]
def FR.re{y y' s fr}(h:FR y s fr)(a:y.N=y'.N\/s.env.all (λv=>!FE v)=true)(b:y.c=y'.c\/s.env.all (λv=>!Jx v)=true)
 (d:y.ws=y'.ws\/s.env.all (λv=>!Jy v)=true) (e:y.tn=y'.tn\/s.env.all (λv=>!Jz v)=true):FR y' s fr:=by
 have key:∀(u:SV->Bool) (t:Nat),u .cu=false->s.env.all (λv=>!u v)=true->u (s.env.getD t .cu)=false:=λu t f g=>by grind
 exact⟨h.fn,h.todo,h.defers,h.mode,h.kind,h.ro,h.size,λt=>(h.env t).re (a.imp id (key _ t rfl)) (b.imp id (key _ t rfl)) (d.imp id (key _ t rfl)) (e.imp id (key _ t rfl))⟩
def lL.fZ{y y'}:∀{l fs},lL y l fs->l.all (·.env.all plain)=true->lL y' l fs
 |[],fs,h,_=>by rw[h.lV];trivial
 |s::l,fs,h,a=>by obtain⟨f,b,rfl,c,d⟩:=h.cons_inv;simp only[Zl,za]at a;exact⟨c.fZ a.1,d.fZ a.2⟩
def lL.keep{y}  live :∀{l fs},lL y l fs->lL y (l.map (Go.cr.keep live)) fs
 |[],fs,h=>by simp_all
 |s::l,fs,h=>by obtain⟨f,a,rfl,b,c⟩:=h.cons_inv;exact⟨b.keep live,c.keep live⟩
def FF{P Wd f y}(i:f.At y):∀  n  {s st fr frs},FR y s fr->lL y st frs ->
 ∃m b a,FR y (Jt P f n s st).1 b/\lL y (Jt P f n s st).2 a/\∀cs,iQ P Wd m (G fr (frs++cs)) (G b (a++cs))
 |0,s,st,fr,frs,g,c=>⟨0,fr,frs,g,c,λ_=>rfl⟩
 | n + 1,s,st,fr,frs,g,c=>by
   unfold Jt;cases e:ss P f s st with
   |none=>exact⟨0,fr,frs,g,c,λ_=>rfl⟩
   | some p=>
     obtain⟨u,o⟩:=p;obtain⟨b,a,j,k,l⟩:=OT i e g c;simp only;split
     . exact⟨1,b,a,j,k,λcs=>⟨_,l cs,rfl⟩⟩
     . obtain⟨m,h,d,q,r,t⟩:=FF i n j k
       exact⟨m+1,h,d,q,r,λcs=>⟨_,l cs,t cs⟩⟩
section
variable{P:abm}{Wd:aaT}{y:Sy}{c c':cL}{live:abf}{v:SV}{x:Value}{fr:Frame}{frs:aaY}
def O0(e:aM P (Fl.of y) live c v=some c')(f:y.ok)(g:FR y c.1 fr)(d:lL y c.2 frs)(h:SR y v x):
 ∃b a,FR y c'.1 b/\lL y c'.2 a/\∀cs,rV P Wd (G (fr.finish x) (frs++cs)) (G b (a++cs)):=by
 obtain⟨s,i,rfl⟩:=YI.1 e;obtain⟨m,b,a,j,k,l⟩:=lr (Wd:=Wd) (Fl.BY f) 400 (P:=P) (g.fin i h) d;exact⟨b,a,j.keep live,k.keep [],λcs=>⟨m,l cs⟩⟩
def Su(e:oZ P (Fl.of y) live c v=some c')(f:y.ok)(g:FR y c.1 fr)(d:lL y c.2 frs)(h:SR y v x):
 ∃b a,FR y c'.1 b/\lL y c'.2 a/\∀cs,rV P Wd (G (fr.finish x) (frs++cs)) (G b (a++cs)):=by
 obtain⟨s,i,rfl⟩:=YI.1 e;obtain⟨m,b,a,j,k,l⟩:=FF (Wd:=Wd) (Fl.BY f) 400 (P:=P) (g.fin i h) d;exact⟨b,a,j.keep live,k.keep [],λcs=>⟨m,l cs⟩⟩
def Sv(e:Sa P (Fl.of y) live c=c')(f:y.ok)(g:FR y c.1 fr)(d:lL y c.2 frs):
 ∃b a,FR y c'.1 b/\lL y c'.2 a/\∀cs,rV P Wd (G fr (frs++cs)) (G b (a++cs)):=by
 subst e;obtain⟨m,b,a,h,i,j⟩:=lr (Wd:=Wd) (Fl.BY f) 400 (P:=P) g d;exact⟨b,a,h.keep live,i.keep [],λcs=>⟨m,j cs⟩⟩
end
open Mu in
inductive As where
 |ld|gT|rd (l:Lo)|sq (old:Wd) (l:Lo)|sw (old:Wd) (l:Lo)|jX (old:Wd) (l:Lo)|t1 (sv:Bool)|fU (sv:Bool)|tq|up (sv:Bool)|add (old:Wd) (sv:Bool)|le|la|back
 |FG|ur|ud|held|iP (old:Wd)|uS|give|ue|BZ
section
variable(P:abm)(n:BV)(b o:Nat)(kind:abi)
def DV(p:As)(c:cL)(y:Sy):Prop:=
 match p with
 |.ld=>c=LD P n b o kind
 |.gT=>c=ti P n b o kind
 |.rd l=>c=PR P n b o kind l.aw l.sv l.it\/c=FC P n b o kind l.aw l.sv l.it\/c=PS P n b o kind l.aw l.sv l.it
 |.sq old l=>c=SQ P n b o kind old.K l.aw l.sv l.it/\y.N=old.N/\old.L=true/\old.S=false
 |.sw old l=>c=SW P n b o kind l.it/\y.N=old.N/\l.aw=false/\l.sv=false/\old.L=true/\old.K=false/\old.S=false
 |.jX old l=>c=BX P n b o kind old.L old.K old.S l.aw l.sv l.it/\y.N=old.N
 |.t1 sv=>c=T1 P n b o kind sv
 |.fU sv=>c=PK P n b o kind sv
 |.tq=>c=TQ P n b o kind
 |.up sv=>c=UP P n b o kind sv
 |.add old sv=>c=AD P n b o kind (if !sv||decide (old.N=1)then -11 else -7)
 |.le=>c=OV P n b o kind\/c=MR P n b o kind
 |.la=>c=OW P n b o kind\/c=OY P n b o kind
 |.back=>c=BK n kind
 |.FG=>c=U0 P n b o kind
 |.ur=>c=UR P n b o kind
 |.ud=>c=UD P n b o kind
 |.held=>c=qT P n b o kind
 |.iP old=>c=UC P n b o kind/\y.N=old.N/\old.L=false/\old.K=false/\old.S=false/\old.N≠0
 |.uS=>c=MT P n b o kind
 |.give=>c=G7 P n b o kind\/c=G9 P n b o kind
 |.ue=>c=UE P n b o kind
 |.BZ=>c=Sj n kind
def np(p:As)(cs:aaY)(g:abd):Prop:=∃c y fr frs,DV P n b o kind p c y/\y.ok/\FR y c.1 fr/\lL y c.2 frs/\g=G fr (frs++cs)
end
def np.running{P n b o kind p cs g}(h:np P n b o kind p cs g):g.status=.running/\g.offers=none:=by obtain⟨c,y,fr,frs,_,_,_,_,rfl⟩:=h;exact⟨rfl,rfl⟩
structure ShM  b o  (w:World) (s:Mu.Sh):Prop where
 cw:w.cell? ⟨b,o,none⟩=some (.int .i32 (enc s.w.L s.w.K s.w.S s.w.N))
 cs:w.cell? ⟨b,o+1,none⟩=some (.int .u32 s.ms)
 fz:∀i,w.frozen? ⟨b,i,none⟩=false
def MW(b o:Nat)(w w':World):Prop:=(lP w.os w'.os/\w'.output=w.output)/\(w'.heap=w.heap\/∃i v,(i=o\/i=o+1)/\flat v=true/\w'.heap=(w.setCell ⟨b,i,none⟩ v).heap)
def EvM(b o:Nat)(es:aaU):Prop:=∀e∈es,(e.loc=.mark .disable\/e.loc=.mark .enable)\/(∃i,(i=o\/i=o+1)/\e.loc=.cell ⟨b,i,none⟩/\e.sync=true)
def pU{w w':World}(h:w'.heap=w.heap)  a :w'.cell? a=w.cell? a/\w'.frozen? a=w.frozen? a:=by simp[World.cell?,World.frozen?,h]
def ShM.heap{b o w w' s}(h:ShM b o w s)(e:w'.heap=w.heap):ShM b o w' s:=⟨by rw[(pU e _).1];exact h.cw,by rw[(pU e _).1];exact h.cs,λi=>by rw[(pU e _).2];exact h.fz i⟩
def jF{w:World}{b i u v}(h:w.cell? ⟨b,i,none⟩=some u):(w.setCell ⟨b,i,none⟩ v).cell? ⟨b,i,none⟩=some v:=by
 unfold World.cell? at h ⊢;unfold World.setCell
 grind
def nH{w:World}{a v b i}:(w.setCell a v).frozen? ⟨b,i,none⟩=w.frozen? ⟨b,i,none⟩:=by simp_all
def ShM.aT{b o w s}(h:ShM b o w s)  w' :ShM b o (w.setCell ⟨b,o,none⟩ (.int .i32 (enc w'.L w'.K w'.S w'.N))) {s with w:=w'}:=⟨jF h.cw,by rw[du (by simp)];exact h.cs,λi=>by rw[nH];exact h.fz i⟩
def ShM.D9{b o w s}(h:ShM b o w s)(m:Nat):ShM b o (w.setCell ⟨b,o+1,none⟩ (.int .u32 m)) {s with ms:=m}:=⟨by rw[du (by simp)];exact h.cw,jF h.cs,λi=>by rw[nH];exact h.fz i⟩
def eZ{b o}:EvM b o #[]:=λe h=>by simp at h
def FH{b o i}(hi:i=o\/i=o+1):EvM b o #[⟨.cell ⟨b,i,none⟩,false,true⟩]:=λe h=>by simp_all
def j8{b o i}(hi:i=o\/i=o+1):EvM b o #[⟨.cell ⟨b,i,none⟩,false,true⟩,⟨.cell ⟨b,i,none⟩,true,true⟩]:=λe h=>by grind
def vg{b o}:EvM b o (semEvents ⟨b,o+1,none⟩):=λe h=>by
 simp[semEvents]at h
 grind
section
variable{P:abm}{n:BV}(C:fQ P n)(X:fR P n){b o:Nat}{kind:abi}{Wd:aaT}{cs:aaY}{g:abd}{w:World}{main:Bool}
variable(hWd:∀w,Wd w->∃v,w.cell? ⟨b,o,none⟩=some v)
def Next(P:abm)(n:BV)(b o:Nat)(kind:abi)(Wd:aaT)(cs:aaY)(p:As)(a:abd):Prop:=a.status=.running/\∃c,rV P Wd a c/\np P n b o kind p cs c
def nxt{y c c' live v x fr frs p}(g:aM P (Fl.of y) live c v=some c')(f:y.ok)(h:FR y c.1 fr)(d:lL y c.2 frs)(i:SR y v x)(j:DV P n b o kind p c' y):
 Next P n b o kind Wd cs p (G (fr.finish x) (frs++cs)):=by
 obtain⟨e,a,k,l,m⟩:=O0 (Wd:=Wd) g f h d i;exact⟨rfl,_,m cs,c',y,e,a,j,f,k,l,rfl⟩
def y0:Sy:=⟨2,2,1,0⟩
def rY:y0.ok:=by unfold Sy.ok y0;decide
def Ea(h:∃fn body,P.funcs[n.lock]?=some fn/\fn.body=some body/\fn.ntmps=6):∃e,rV P Wd (G (Frame.enter P n.lock #[.pointer (some ⟨b,o,none⟩)] kind) cs) e/\np P n b o kind .ld cs e:=by
 obtain⟨fn,body,a,i,g⟩:=h
 have j:FR y0 (dz P n.lock [pt b o] kind) (Frame.enter P n.lock #[.pointer (some ⟨b,o,none⟩)] kind):=by
  refine⟨by simp[dz,a,Frame.enter],by simp[dz,a,i,Frame.enter],by simp[dz,a,Frame.enter],by simp[dz,a,Frame.enter,BQ.of],by simp[dz,a,Frame.enter],rfl,by simp[dz,a,g,Frame.enter],λt=>?_⟩;simp only[dz,a,Frame.enter,g,YW,Zt]
  match t with
  |0=>rfl
  |1|2|3|4|5=>trivial
  | t+6=>
    have:([pt b o]++List.replicate (6 - [pt b o].length) SV.cu).getD (t+6) .cu=.cu:=by simp_all
    rw[this];trivial
 obtain⟨m,d,c,k,l,p⟩:=lr (Wd:=Wd) (P:=P) (f:=kN) (y:=y0) ⟨by decide,by decide,rfl,rfl,rfl,rfl,rfl,by decide⟩ 400 j (st:=[]) (frs:=[]) trivial;have q:=p cs;exact⟨_,⟨m,q⟩,_,y0,d,c,rfl,rY,k.keep [0],l.keep [],rfl⟩
def JA:∀g ,Mark.disable≠.extern g:=λg h=>by cases h
def JB:∀g ,Mark.enable≠.extern g:=λg h=>by cases h
include C X in
def Au(h:np P n b o kind .ld cs g):∃d,stepG P main g w=.go d w #[⟨.mark .disable,false,true⟩]/\Next P n b o kind Wd cs .gT d:=by obtain⟨c,y,fr,frs,rfl,f,e,a,rfl⟩:=h;exact⟨_,er JA e (C.o1 b o kind).1 (by rw[show(LD P n b o kind).1.kind=_ from(C.o1 b o kind).2];decide) X.jb,nxt (C.e1 _ b o kind) f e a rfl rfl⟩
include C X in
def FI(h:np P n b o kind .ud cs g):∃d,stepG P main g w=.go d w #[⟨.mark .disable,false,true⟩]/\Next P n b o kind Wd cs .held d:=by obtain⟨c,y,fr,frs,rfl,f,e,a,rfl⟩:=h;exact⟨_,er JA e (C.V2 b o kind) (by simp[UD,oo]) X.jb,nxt (C.u4 _ b o kind) f e a rfl rfl⟩
include C X in
def Av(h:np P n b o kind .ue cs g):∃d,stepG P main g w=.go d w #[⟨.mark .enable,false,true⟩]/\Next P n b o kind Wd cs .BZ d:=by obtain⟨c,y,fr,frs,rfl,f,e,a,rfl⟩:=h;exact⟨_,er JB e (C.V4 b o kind) (by simp[UE,oo]) X.en,nxt (C.VP _ b o kind) f e a rfl rfl⟩
include C X in
def FJ(h:np P n b o kind .ur cs g):∃d,stepG P main g w=.go d w #[⟨.mark (.releaseMerge ⟨b,o,none⟩),false,true⟩]/\Next P n b o kind Wd cs .ud d:=by obtain⟨c,y,fr,frs,rfl,f,e,a,rfl⟩:=h;exact⟨_,eT (λi g h=>by cases h) e (C.V1 b o kind) (by simp[UR,oo]) X.rel,nxt (C.u3 _ b o kind) f e a rfl rfl⟩
include C X in
def FK(h:np P n b o kind .la cs g):∃e,stepG P main g w=.go e w #[⟨.mark (.acquire ⟨b,o,none⟩),false,true⟩]/\Next P n b o kind Wd cs .back e:=by
 obtain⟨c,y,fr,frs,i,f,d,a,rfl⟩:=h;rcases i with rfl|rfl
 . exact⟨_,eT (λj g h=>by cases h) d (C.o5 b o kind) (by simp[OW,lW]) X.acq,nxt (C.e6 _ b o kind) f d a rfl rfl⟩
 . exact⟨_,eT (λj g h=>by cases h) d (C.VZ b o kind) (by simp[OY,cE]) X.acq,nxt (C.vf _ b o kind) f d a rfl rfl⟩
include X hWd in
def through{y c c' live fr frs p}(f:j7 c.1=some (n.tM,n.tU,pt b o))(g:aM P (Fl.of y) live c (pt b o)=some c')(h:y.ok)(e:FR y c.1 fr)(d:lL y c.2 frs)(i:DV P n b o kind p c' y):
 ∃a,rV P Wd (G fr (frs++cs)) a/\np P n b o kind p cs a:=by
 obtain⟨t,j,k,l⟩:=X.V5;obtain⟨_,a,m,q⟩:=nxt (P:=P) (n:=n) (b:=b) (o:=o) (kind:=kind) (Wd:=Wd) (cs:=cs) (x:=.pointer (some ⟨b,o,none⟩)) g h e d rfl i;refine⟨a,rV.trans (rU.yM ⟨rfl,λmain w r=>?_⟩) m,q⟩;exact tg e f j k l (hWd w r)
include C X hWd in
def FL(h:np P n b o kind .le cs g):∃s,stepG P main g w=.go s w #[⟨.mark .enable,false,true⟩]/\Next P n b o kind Wd cs .la s:=by
 obtain⟨c,y,fr,frs,t,e,f,a,rfl⟩:=h;rcases t with rfl|rfl
 . refine⟨_,er JB f (C.o3 b o kind) (by simp[OV,lW]) X.en,rfl,?_⟩
   obtain⟨i,d,j,k,l⟩:=O0 (Wd:=Wd) (x:=.tuple #[]) (C.e4 _ b o kind) e f a rfl;obtain⟨m,q,r⟩:=through X hWd (cs:=cs) (p:=.la) (C.o4 b o kind) (C.e5 _ b o kind) e j k (.inl rfl);exact⟨m,(l cs).trans q,r⟩
 . refine⟨_,er JB f (C.VX b o kind) (by simp[MR,cE]) X.en,rfl,?_⟩
   obtain⟨i,d,j,k,l⟩:=O0 (Wd:=Wd) (x:=.tuple #[]) (C.Jv _ b o kind) e f a rfl;obtain⟨m,q,r⟩:=through X hWd (cs:=cs) (p:=.la) (C.VY b o kind) (C.IJ _ b o kind) e j k (.inr rfl);exact⟨m,(l cs).trans q,r⟩
include C X hWd in
def wq{v}(j:w.cell? ⟨b,o,none⟩=some v)(h:np P n b o kind .FG cs g):∃d,stepG P main g w=.go d w #[]/\Next P n b o kind Wd cs .ur d:=by
 obtain⟨c,y,fr,frs,rfl,e,f,a,rfl⟩:=h;refine⟨_,pT f (C.UB b o kind).1 X.Ss (by rw[show(U0 P n b o kind).1.fn=_ from(C.UB b o kind).2.2];exact X.nU) j,rfl,?_⟩;obtain⟨k,i,l,m,q⟩:=O0 (Wd:=Wd) (x:=v) (C.u1 _ b o kind) e f a trivial;obtain⟨r,s,t⟩:=through X hWd (cs:=cs) (p:=.ur) (C.V0 b o kind) (C.u2 _ b o kind) e l m rfl;exact⟨r,(q cs).trans s,t⟩
include C X in
def Nm{sv}(h:np P n b o kind (.t1 sv) cs g):∃f,stepG P main g w=.go f w.later #[]/\Next P n b o kind Wd cs (.fU sv) f:=by
 obtain⟨c,y,fr,frs,rfl,j,i,d,rfl⟩:=h;refine⟨_,yS i (C.VT b o kind sv) (by simp[T1,cE]) X.nano X.Jw,?_⟩;have e:=i.re (y':={y with ws:=((w.os.mono+w.tick:Nat):Int)}) (.inl rfl) (.inl rfl) (.inr (by cases sv<;>rfl)) (.inl rfl);have a:=d.fZ (y':={y with ws:=((w.os.mono+w.tick:Nat):Int)}) (by simpa[T1,cE]using C.p2 b o kind);exact nxt (y:={y with ws:=((w.os.mono+w.tick:Nat):Int)}) (x:=.int .i64 ((w.os.mono+w.tick:Nat):Int)) (C.iR _ b o kind sv) j e a rfl rfl
end
inductive To:Mu.Pc->As->Prop
 |out:To .out .ue
 |rd (l:Mu.Lo):To (.rd l) (.rd l)
 |sq (old:Mu.Wd) (l:Mu.Lo):To (.sq old l) (.sq old l)
 |sw (old:Mu.Wd) (l:Mu.Lo):To (.sw old l) (.sw old l)
 |jX (old:Mu.Wd) (l:Mu.Lo):To (.jX old l) (.jX old l)
 |t1 (sv:Bool):To (.fU sv) (.t1 sv)
 |fU (sv:Bool):To (.fU sv) (.fU sv)
 |tq:To .tq .tq
 |up (sv:Bool):To (.up sv) (.up sv)
 |add (old:Mu.Wd) (sv:Bool):To (.add old sv) (.add old sv)
 |held:To .held .le
 |iP (old:Mu.Wd):To (.iP old) (.iP old)
 |uS:To .uS .uS
 |give:To .give .give
def lu(P:abm)(n:BV)(b o:Nat)(kind:abi)(Wd:aaT)(cs:aaY)(g:abd)(w:World)(main:Bool)(pc:Mu.Pc)(s:Mu.Sh):Prop:=∃c a es q e f,stepG P main g w=.go c a es/\(q,e)∈Mu.mv pc s/\To q f/\Next P n b o kind Wd cs f c/\MW b o w a/\ShM b o a e/\EvM b o es/\∀d,deafBehind d es=d
def bg{b o w w'}(h:w'.heap=w.heap)(a:lP w.os w'.os/\w'.output=w.output:=by exact⟨lP.refl _,rfl⟩):MW b o w w':=⟨a,.inl h⟩
def uU{b o w v}(h:flat v=true):MW b o w (w.setCell ⟨b,o,none⟩ v):=⟨⟨.refl _,rfl⟩,.inr ⟨o,v,.inl rfl,h,rfl⟩⟩
def Nn{b o w v}(h:flat v=true):MW b o w (w.setCell ⟨b,o+1,none⟩ v):=⟨⟨.refl _,rfl⟩,.inr ⟨o+1,v,.inr rfl,h,rfl⟩⟩
def FM{L K S a b c}{N d:Nat}:enc L K S N=enc a b c d↔(L=a/\K=b/\S=c/\N=d):=by
 unfold enc;constructor
 . intro h
   cases L<;>cases K<;>cases S<;>cases a<;>cases b<;>cases c<;>simp[Bool.toNat]at h ⊢<;>omega
 simp_all
section
variable{P:abm}{n:BV}(C:fQ P n)(X:fR P n){b o:Nat}{kind:abi}{Wd:aaT}{cs:aaY}{g:abd}{w:World}{main:Bool}{s:Mu.Sh}
def FN{w}:w=Mu.Wd.zero↔(enc w.L w.K w.S w.N=0):=by
 obtain⟨L,K,S,N⟩:=w;rw[wh (by simp)];simp[Mu.Wd.zero]
include C X in
def GM(d:ShM b o w s)(h:np P n b o kind .gT cs g):lu P n b o kind Wd cs g w main .gT s:=by
 obtain⟨c,y,fr,frs,rfl,l,j,f,rfl⟩:=h;have q:(ti P n b o kind).1.kind≠.early:=by simp[ti,lW]
 by_cases k:s.w=Mu.Wd.zero
 . have m:enc s.w.L s.w.K s.w.S s.w.N=0:=FN.1 k
   have r:=d.cw;rw[m]at r;refine⟨_,_,_,.held,{s with w:={Mu.Wd.zero with L:=true}},.le,gE j (C.o2 b o kind) q X.jX (v:=0) (n:=1) (λx h=>h) (λx h=>h) r (d.fz o),by simp[Mu.mv,k],.held,nxt (C.e2 _ b o kind) l j f rfl (.inl rfl),uU rfl,?_,j8 (.inl rfl),λ_=>rfl⟩;have:=d.aT {Mu.Wd.zero with L:=true};exact this
 have m:¬enc s.w.L s.w.K s.w.S s.w.N=0:=λe=>k (FN.2 e)
 refine⟨_,_,_,.rd ⟨false,false,0⟩,s,.rd ⟨false,false,0⟩,ik j (C.o2 b o kind) q X.jX (old:=0) (n:=1) (λx h=>h) (λx h=>h) d.cw (d.fz o) m,by simp[Mu.mv,k],.rd _,⟨rfl,?_⟩,bg rfl,d,FH (.inl rfl),λ_=>rfl⟩;obtain⟨p,i,A,B,D⟩:=O0 (Wd:=Wd) (x:=.bool false) (C.e3 _ b o kind) l j f rfl;refine⟨_,D cs,PR P n b o kind false false 0,{y with ws:=0},p,i,.inl rfl,l,?_,?_,rfl⟩
 . have a:=A.re (y':={y with ws:=0}) (.inl rfl) (.inl rfl) (.inr rfl) (.inl rfl)
   refine⟨a.fn,a.todo,a.defers,a.mode,a.kind,a.ro,a.size.trans rfl,λt=>?_⟩;have u:=a.env t;by_cases z:t=2
   . subst z;exact u
   have e:(PR P n b o kind false false 0).1.env=(Ub P n b o kind).1.env.set 2 .GJ:=rfl;rw[e,zA,Zv (zj z),<-List.getD_eq_getElem?_getD];exact u
 exact B.fZ (by simpa[Ub,cE]using C.p2 b o kind)
def pV{y:Sy}{L K S}{N:Nat}(h:y.N=N):SR y (.word L K S 0) (.int .i32 (enc L K S N)):=by
 refine⟨?_,?_,by decide⟩
 . simp_all
 omega
def FO{y x}(h:decide (y.N=0)=x):{Fl.of y with n0:=x}=Fl.of y:=by subst h;rfl
def PU{y x z}(h:decide (y.N=0)=x)(a:decide (y.N=1)=z):{Fl.of y with n0:=x,n1:=z}=Fl.of y:=by subst h;subst a;rfl
def O3{y x}(h:decide (y.ws=0)=x):{Fl.of y with wz:=x}=Fl.of y:=by subst h;rfl
def Sw{y x}(h:decide (IntKind.i64.wrap (y.tn-y.ws)>1000000)=x):{Fl.of y with tb:=x}=Fl.of y:=by subst h;rfl
def Rg(old:Mu.Wd)(l:Mu.Lo):As:=if old.L && !old.S then .sq old l else .jX old l
def O4  old   l :To (Mu.nx old l) (Rg old l):=by
 unfold Mu.nx Rg;split
 . exact .sq _ _
 exact .jX _ _
include C in
def FP{y old l fr frs}(e:y.ok)(m:y.N=old.N)(p:FR y (HD P n b o kind old.L old.K old.S l.aw l.sv l.it).1 fr)(d:lL y (HD P n b o kind old.L old.K old.S l.aw l.sv l.it).2 frs)(f:Mu.loc (Mu.nx old l)):
 ∃q,rV P Wd (G fr (frs++cs)) q/\np P n b o kind (Rg old l) cs q:=by
 obtain⟨L,K,S,N⟩:=old;obtain⟨aw,sv,it⟩:=l;unfold Rg;unfold Mu.nx at f;by_cases h:(L && !S)=true
 . simp only[h,YD]at f ⊢
   simp only[za,ZZ]at h;obtain⟨rfl,rfl⟩:=h;obtain⟨c,a,g,i,j⟩:=Sv (Wd:=Wd) (C.e8 (Fl.of y) b o kind K aw sv it) e p d;exact⟨_,j cs,_,y,c,a,⟨rfl,m,rfl,rfl⟩,e,g,i,rfl⟩
 have r:(L && !S)=false:=by simpa using h
 rw[YA h]at f ⊢
 have k:(aw && !K)=false:=by
  cases aw with
  |false=>rfl
  |true=>have:=f.1 rfl;simp at this;simp[this]
 obtain⟨c,a,g,i,j⟩:=Sv (Wd:=Wd) (C.e9 (Fl.of y) b o kind L K S aw sv it r k) e p d;exact⟨_,j cs,_,y,c,a,⟨rfl,m⟩,e,g,i,rfl⟩
include C X in
def No{l}(i:ShM b o w s)(hb:s.w.N<=1000)(m:Mu.loc (Mu.nx s.w l))(h:np P n b o kind (.rd l) cs g):lu P n b o kind Wd cs g w main (.rd l) s:=by
 obtain⟨c,y,fr,frs,p,q,j,e,rfl⟩:=h;have a:({y with N:=(s.w.N:Int)}:Sy).ok:=⟨⟨by simp,by show(s.w.N:Int)<=1000;omega⟩,q.2⟩
 have key:qm c.1=some (n.tI,pt b o)->c.1.fn=n.PO->(c.1.env.all (λv=>!FE v)=true)->c.2=Ua P n b o kind->oZ P (Fl.of {y with N:=(s.w.N:Int)}) [0,2,3,4,5,6] c (.word s.w.L s.w.K s.w.S 0)=some (HD P n b o kind s.w.L s.w.K s.w.S l.aw l.sv l.it) ->
  lu P n b o kind Wd cs (G fr (frs++cs)) w main (.rd l) s:=λr t u x z=>by
  have f:=j.re (y':={y with N:=(s.w.N:Int)}) (.inr u) (.inl rfl) (.inl rfl) (.inl rfl);have d:=e.fZ (y':={y with N:=(s.w.N:Int)}) (by rw[x];exact C.p2 b o kind);obtain⟨A,k,B,D,E⟩:=Su (Wd:=Wd) z a f d (pV rfl);obtain⟨F,H,I⟩:=FP C (Wd:=Wd) (cs:=cs) (old:=s.w) (l:=l) a rfl B D m;exact⟨_,w,#[],_,s,Rg s.w l,pT j r X.Ss (by rw[t];exact X.nS) i.cw,by simp[Mu.mv],O4 _ _,⟨rfl,F,(E cs).trans H,I⟩,bg rfl,i,eZ,λ_=>rfl⟩
 rcases p with rfl|rfl|rfl
 . exact key (C.VQ ..) rfl rfl rfl (C.VI ..)
 . exact key (C.VR ..) rfl rfl rfl (C.PT ..)
 exact key (C.VS ..) rfl rfl rfl (C.VJ ..)
include C X in
def Aw{y aw sv}{it:Nat}{fr frs}(f:it<4)(g:y.ok)(e:FR y (DS P n b o kind aw sv it).1 fr)(d:lL y (DS P n b o kind aw sv it).2 frs):
 ∃c,rV P Wd (G fr (frs++cs)) c/\np P n b o kind (.rd ⟨aw,sv,it+1⟩) cs c:=by
 have a:rU P Wd (G fr (frs++cs)) (G (fr.finish (.tuple #[])) (frs++cs)):=⟨rfl,λmain w _=>te e (C.o9 b o kind aw sv it) (by simp[DS,cE]) X.th⟩
 have key:aM P (Fl.of y) [0,2,3,4,5,47] (DS P n b o kind aw sv it) un=some (FC P n b o kind aw sv (it+1:Nat)):=by
  have:it=0\/it=1\/it=2\/it=3:=by omega
  rcases this with rfl|rfl|rfl|rfl
  . exact C.DZ ..
  . exact C.D5 ..
  . exact C.Sl ..
  exact C.Sm ..
 obtain⟨_,c,h,i⟩:=nxt (P:=P) (n:=n) (b:=b) (o:=o) (kind:=kind) (Wd:=Wd) (cs:=cs) (x:=.tuple #[]) (p:=.rd ⟨aw,sv,it+1⟩) key g e d rfl (.inr (.inl rfl));exact⟨c,a.yM.trans h,i⟩
include C X in
def Np{old l}(t:ShM b o w s)(J:Mu.loc (.sq old l))(h:np P n b o kind (.sq old l) cs g):lu P n b o kind Wd cs g w main (.sq old l) s:=by
 obtain⟨c,y,fr,frs,⟨rfl,k,B,D⟩,q,m,d,rfl⟩:=h;obtain⟨L,K,S,N⟩:=old;obtain⟨aw,sv,it⟩:=l;simp only at k B D m d;subst B;subst D;obtain⟨E,F,M,_,_⟩:=J;simp only at E F M
 have u:(aw && !K)=false:=by
  cases aw with
  |false=>rfl
  |true=>simp[E rfl]
 obtain⟨r,j,v,O,G⟩:=GK (P:=P) (main:=main) (cs:=frs++cs) (w:=w) m (C.o7 b o kind K aw sv it) (by simp[SQ,cE]) X.GL
 have a:j.heap=w.heap:=by rcases G with rfl|rfl<;>rfl
 have e:lP w.os j.os/\j.output=w.output:=by rcases G with rfl|rfl<;>exact⟨.refl _,rfl⟩
 cases r with
 |false=>refine⟨_,j,#[],.jX ⟨true,K,false,N⟩ ⟨aw,sv,it⟩,s,.jX _ _,v,by simp[Mu.mv,Mu.hd],.jX _ _,nxt (C.aX (Fl.of y) b o kind K aw sv it u) q m d rfl ⟨rfl,k⟩,bg a e,t.heap a,eZ,λ_=>rfl⟩
 | true=>
   have f:it<4:=by have:=O rfl;omega
   by_cases z:(!aw && !K && decide (N≠0))=true
   . simp only[za,ZZ,KD]at z
     obtain⟨⟨rfl,rfl⟩,p⟩:=z;have:sv=false:=by cases sv with|false=>rfl|true=>exact absurd (F rfl) (by simp)
     subst this;have key:=C.bc (Fl.of y) b o kind it;rw[FO (by rw[k];simpa using p)]at key
     exact⟨_,j,#[],.sw ⟨true,false,false,N⟩ ⟨false,false,it⟩,s,.sw _ _,v,by simp[Mu.mv,Mu.hd,f,p],.sw _ _,nxt key q m d rfl ⟨rfl,k,rfl,rfl,rfl,rfl,rfl⟩,bg a e,t.heap a,eZ,λ_=>rfl⟩
   have i:(!aw && !K && decide (N≠0))=false:=by simpa using z
   have A:(!aw && !K && !decide (y.N=0))=false:=by
    rw[k]
    by_cases H:N=0
    . simp[H]
    simp[H]at i ⊢;exact i
   have key:=C.Sk (Fl.of y) b o kind (decide (y.N=0)) K aw sv it A;rw[FO rfl]at key;obtain⟨Q,I,R,T,U⟩:=O0 (Wd:=Wd) (x:=.bool true) key q m d rfl;obtain⟨V,W,Y⟩:=Aw C X (Wd:=Wd) (cs:=cs) f q R T;refine⟨_,j,#[],.rd ⟨aw,sv,it+1⟩,s,.rd _,v,?_,.rd _,⟨rfl,V,(U cs).trans W,Y⟩,bg a e,t.heap a,eZ,λ_=>rfl⟩
   simp only[Mu.mv,Mu.hd,f,i];simp
include C X in
def Nq{old l}(f:ShM b o w s)(V:Mu.loc (.sw old l))(h:np P n b o kind (.sw old l) cs g):lu P n b o kind Wd cs g w main (.sw old l) s:=by
 obtain⟨c,y,fr,frs,⟨rfl,E,F,G,H,I,J⟩,m,i,d,rfl⟩:=h;obtain⟨L,K,S,N⟩:=old;obtain⟨aw,sv,it⟩:=l;simp only at E F G H I J i d;subst F;subst G;subst H;subst I;subst J;have j:it<4:=V.2.2.2.2.2;have M:(SW P n b o kind it).1.kind≠.early:=by simp[SW,cE]
 have a:∀q:Bool,∀x,SR y (.word true q false 0) x->x=.int .i32 (enc true q false N):=λq x W=>by have:=W.1;rw[E,aaA]at this;exact this
 by_cases p:s.w=⟨true,false,false,N⟩
 . have O:=f.cw
   rw[p]at O;obtain⟨r,k,t,u,v⟩:=O0 (Wd:=Wd) (x:=.bool true) (C.bO (Fl.of y) b o kind true it) m i d rfl;obtain⟨z,A,B⟩:=Aw C X (Wd:=Wd) (cs:=cs) j m t u;refine⟨_,_,_,.rd ⟨true,false,it+1⟩,{s with w:=⟨true,true,false,N⟩},.rd _,gE i (C.o8 b o kind it) M X.jX (a false) (a true) O (f.fz o),by simp[Mu.mv,p],.rd _,⟨rfl,z,(v cs).trans A,B⟩,uU rfl,f.aT ⟨true,true,false,N⟩,j8 (.inl rfl),λ_=>rfl⟩
 have D:¬enc s.w.L s.w.K s.w.S s.w.N=enc true false false N:=λe=>p (by obtain⟨Q,R,T,U⟩:=FM.1 e;obtain⟨⟨L,K,S,Y⟩,ms⟩:=s;simp only at Q R T U;subst Q;subst R;subst T;subst U;rfl)
 obtain⟨r,k,t,u,v⟩:=O0 (Wd:=Wd) (x:=.bool false) (C.bO (Fl.of y) b o kind false it) m i d rfl;obtain⟨z,A,B⟩:=Aw C X (Wd:=Wd) (cs:=cs) j m t u;exact⟨_,_,_,.rd ⟨false,false,it+1⟩,s,.rd _,ik i (C.o8 b o kind it) M X.jX (a false) (a true) f.cw (f.fz o) D,by simp[Mu.mv,p],.rd _,⟨rfl,z,(v cs).trans A,B⟩,bg rfl,f,FH (.inl rfl),λ_=>rfl⟩
end
section
variable{P:abm}{n:BV}(C:fQ P n)(X:fR P n){b o:Nat}{kind:abi}{Wd:aaT}{cs:aaY}{g:abd}{w:World}{main:Bool}{s:Mu.Sh}
def O5{a c:Mu.Wd}:a=c↔enc a.L a.K a.S a.N=enc c.L c.K c.S c.N:=by obtain⟨L,K,S,N⟩:=a;obtain⟨b,d,e,f⟩:=c;rw[FM];simp
include C X in
def JC{old l}(f:ShM b o w s)(E:Mu.loc (.jX old l))(h:np P n b o kind (.jX old l) cs g):lu P n b o kind Wd cs g w main (.jX old l) s:=by
 obtain⟨c,y,fr,frs,⟨rfl,u⟩,t,j,a,rfl⟩:=h;obtain⟨L,K,S,N⟩:=old;obtain⟨aw,sv,it⟩:=l;simp only at u j a
 have k:(aw && !K)=false:=by
  cases aw with
  |false=>rfl
  |true=>have:=E.1 rfl;simp at this;simp[this]
 have A:(BX P n b o kind L K S aw sv it).1.kind≠.early:=by simp[BX,cE]
 have hold:∀x,SR y (.word L K S 0) x->x=.int .i32 (enc L K S N):=λx v=>by have:=v.1;rw[u,aaA]at this;exact this
 have i:∀x,SR y (Nl L K S aw sv) x->x=.int .i32 (enc (Mu.oW ⟨L,K,S,N⟩ ⟨aw,sv,it⟩).L (Mu.oW ⟨L,K,S,N⟩ ⟨aw,sv,it⟩).K (Mu.oW ⟨L,K,S,N⟩ ⟨aw,sv,it⟩).S (Mu.oW ⟨L,K,S,N⟩ ⟨aw,sv,it⟩).N):=λx v=>by have:=v.1;rw[u]at this;rw[this];simp only[Mu.oW];congr 2;split<;>simp
 by_cases p:s.w=⟨L,K,S,N⟩
 . have B:=f.cw
   rw[p]at B;have m:=gE (main:=main) (cs:=frs++cs) j (C.Uz b o kind L K S aw sv it) A X.jX hold i B (f.fz o)
   by_cases d:(L||S)=true
   . have q:((.fU sv:Mu.Pc),({s with w:=Mu.oW ⟨L,K,S,N⟩ ⟨aw,sv,it⟩}:Mu.Sh))∈Mu.mv (.jX ⟨L,K,S,N⟩ ⟨aw,sv,it⟩) s:=by
      simp only[Mu.mv,k,LK,Rp,p,YD,d,lb]
     by_cases r:y.ws=0
     . have key:=C.Sn (Fl.of y) b o kind L K S aw sv it d
       rw[O3 (by simpa using r)]at key
       exact⟨_,_,_,_,_,.t1 sv,m,q,.t1 _,nxt key t j a rfl rfl,uU rfl,f.aT _,j8 (.inl rfl),λ_=>rfl⟩
     have key:=C.So (Fl.of y) b o kind L K S aw sv it d;rw[O3 (by simpa using r)]at key
     exact⟨_,_,_,_,_,.fU sv,m,q,.fU _,nxt key t j a rfl rfl,uU rfl,f.aT _,j8 (.inl rfl),λ_=>rfl⟩
   have D:(L||S)=false:=by simpa using d
   have F:L=false:=by cases L<;>simp_all
   have G:S=false:=by cases S<;>simp_all
   subst F;subst G;refine⟨_,_,_,.held,{s with w:=Mu.oW ⟨false,K,false,N⟩ ⟨aw,sv,it⟩},.le,m,?_,.held,nxt (C.wo (Fl.of y) b o kind K aw sv it) t j a rfl (.inr rfl),uU rfl,f.aT _,j8 (.inl rfl),λ_=>rfl⟩
   simp only[Mu.mv,k,LK,Rp,p,YD,Bool.or_self,lb]
 have z:¬enc s.w.L s.w.K s.w.S s.w.N=enc L K S N:=λe=>p (O5.2 e)
 refine⟨_,_,_,.rd ⟨aw,sv,it⟩,s,.rd _,ik j (C.Uz b o kind L K S aw sv it) A X.jX hold i f.cw (f.fz o) z,?_,.rd _,nxt (C.ju (Fl.of y) b o kind L K S aw sv it) t j a rfl (.inr (.inr rfl)),bg rfl,f,FH (.inl rfl),λ_=>rfl⟩
 simp only[Mu.mv,k,LK,Rp,p,lb]
include C X in
def GN{sv}(f:ShM b o w s)(j:s.ms≠0)(h:np P n b o kind (.fU sv) cs g):lu P n b o kind Wd cs g w main (.fU sv) s:=by
 obtain⟨c,y,fr,frs,rfl,k,i,d,rfl⟩:=h;have a:=rX (main:=main) (cs:=frs++cs) (w:=w) (n:=(s.ms:Int)) i (C.UA b o kind sv) (by simp[PK,cE]) X.DX f.cs (by omega) (f.fz _);have e:((s.ms:Int)-1)=((s.ms-1:Nat):Int):=by omega
 rw[e]at a;cases sv with
 |true=>exact⟨_,_,_,.up true,{s with ms:=s.ms-1},.up true,a,by simp[Mu.mv,j],.up _,nxt (C.Sp (Fl.of y) b o kind) k i d rfl rfl,Nn rfl,f.D9 _,vg,λ_=>rfl⟩
 |false=>exact⟨_,_,_,.tq,{s with ms:=s.ms-1},.tq,a,by simp[Mu.mv,j],.tq,nxt (C.Sq (Fl.of y) b o kind) k i d rfl rfl,Nn rfl,f.D9 _,vg,λ_=>rfl⟩
include C X in
def B0{sv}(d:ShM b o w s)(e:s.ms=0)(h:np P n b o kind (.fU sv) cs g):stepG P main g w=.go {g with status:=.blocked} w #[]:=by obtain⟨c,y,fr,frs,rfl,j,f,i,rfl⟩:=h;have a:=d.cs;rw[e]at a;exact yR f (C.UA b o kind sv) X.DX a
include C X in
def Nr(j:ShM b o w s)(h:np P n b o kind .tq cs g):lu P n b o kind Wd cs g w main .tq s:=by
 obtain⟨c,y,fr,frs,rfl,k,i,d,rfl⟩:=h;have e:=yS (P:=P) (main:=main) (cs:=frs++cs) (w:=w) i (C.VU b o kind) (by simp[TQ,cE]) X.nano X.Jw;have f:=i.re (y':={y with tn:=((w.os.mono+w.tick:Nat):Int)}) (.inl rfl) (.inl rfl) (.inl rfl) (.inr rfl);have a:=d.fZ (y':={y with tn:=((w.os.mono+w.tick:Nat):Int)}) (by simpa[TQ,cE]using C.p2 b o kind);have key:=C.MU (Fl.of {y with tn:=((w.os.mono+w.tick:Nat):Int)}) b o kind (decide (IntKind.i64.wrap (((w.os.mono+w.tick:Nat):Int)-y.ws)>1000000));rw[Sw rfl]at key;refine⟨_,_,_,.up (decide (IntKind.i64.wrap (((w.os.mono+w.tick:Nat):Int)-y.ws)>1000000)),s,.up _,e,?_,.up _,nxt (y:={y with tn:=((w.os.mono+w.tick:Nat):Int)}) key k f a rfl rfl,bg rfl ⟨⟨w.tick,rfl⟩,rfl⟩,j.heap rfl,eZ,λ_=>rfl⟩;cases decide (IntKind.i64.wrap (((w.os.mono+w.tick:Nat):Int)-y.ws)>1000000)<;>simp[Mu.mv]
include C X in
def Ns{sv}(m:ShM b o w s)(hb:s.w.N<=1000)(v:∀q s',(q,s')∈Mu.mv (.up sv) s->Mu.loc q)(h:np P n b o kind (.up sv) cs g):lu P n b o kind Wd cs g w main (.up sv) s:=by
 obtain⟨c,y,fr,frs,rfl,A,x,p,rfl⟩:=h;have f:({y with N:=(s.w.N:Int)}:Sy).ok:=⟨⟨by simp,by show(s.w.N:Int)<=1000;omega⟩,A.2⟩
 have i:=x.re (y':={y with N:=(s.w.N:Int)}) (.inr rfl) (.inl rfl) (.inl rfl) (.inl rfl)
 have e:=p.fZ (y':={y with N:=(s.w.N:Int)}) (by simpa[UP,cE]using C.p2 b o kind)
 have j:=pT (main:=main) (cs:=frs++cs) x (C.VV b o kind sv) X.Ss X.nS m.cw
 by_cases k:s.w.S=true
 . have r:(s.w.L||s.w.K||decide (s.w.N=0))=false:=by
    cases B:(s.w.L||s.w.K||decide (s.w.N=0))with
    |false=>rfl
    |true=>exact(v .bad s (by simp[Mu.mv,k,B])).elim
   have a:((.add s.w sv:Mu.Pc),s)∈Mu.mv (.up sv) s:=by simp[Mu.mv,k,r]
   simp only[aaf,Zk]at r;obtain⟨⟨D,E⟩,t⟩:=r;have key:=C.Sr (Fl.of {y with N:=(s.w.N:Int)}) b o kind sv (decide (s.w.N=1))
   rw[PU (by show decide ((s.w.N:Int)=0)=false;simpa using t) (by show decide ((s.w.N:Int)=1)=decide (s.w.N=1);rw[aaC,ZW,ZW];omega)]at key
   have u:SR {y with N:=(s.w.N:Int)} (.word false false true 0) (.int .i32 (enc s.w.L s.w.K s.w.S s.w.N)):=by rw[D,E,k];exact pV rfl
   exact⟨_,w,#[],_,s,.add s.w sv,j,a,.add _ _,nxt (y:={y with N:=(s.w.N:Int)}) key f i e u rfl,bg rfl,m,eZ,λ_=>rfl⟩
 have d:s.w.S=false:=by simpa using k
 have a:(Mu.nx s.w ⟨true,sv,0⟩,s)∈Mu.mv (.up sv) s:=by simp[Mu.mv,d]
 have u:SR {y with N:=(s.w.N:Int)} (.word s.w.L s.w.K false 0) (.int .i32 (enc s.w.L s.w.K s.w.S s.w.N)):=by rw[d];exact pV rfl
 obtain⟨F,z,G,H,I⟩:=Su (Wd:=Wd) (C.Rf (Fl.of {y with N:=(s.w.N:Int)}) b o kind s.w.L s.w.K sv) f i e u
 obtain⟨J,M,O⟩:=FP C (Wd:=Wd) (cs:=cs) (old:=s.w) (l:=⟨true,sv,0⟩) f rfl (by rw[d];exact G) (by rw[d];exact H) (v _ _ a)
 exact⟨_,w,#[],_,s,Rg s.w ⟨true,sv,0⟩,j,a,O4 _ _,⟨rfl,J,(I cs).trans M,O⟩,bg rfl,m,eZ,λ_=>rfl⟩
include C X in
def JD{old sv}(d:ShM b o w s)(hb:s.w.N<=1000)(j:s.w.L=false)(k:s.w.S=true)(q:s.w.N≠0)(h:np P n b o kind (.add old sv) cs g):lu P n b o kind Wd cs g w main (.add old sv) s:=by
 obtain⟨c,y,fr,frs,rfl,l,i,f,rfl⟩:=h;have a:=oY (main:=main) (cs:=frs++cs) (w:=w) i (C.VW b o kind _) (by simp[AD,cE]) X.add (λx h=>h) d.cw (d.fz _)
 have e:IntKind.i32.wrap (enc s.w.L s.w.K s.w.S s.w.N+(if !sv||decide (old.N=1)then -11 else -7))=enc true s.w.K (s.w.S && !(!sv||decide (old.N=1))) (s.w.N-1:Nat):=by
  rw[j,k];have m:((s.w.N-1:Nat):Int)=(s.w.N:Int)-1:=by omega
  rw[m];generalize (!sv||decide (old.N=1))=x;have p:=lq (L:=false) (K:=s.w.K) (S:=true) (N:=(s.w.N:Int));rw[iJ (by split<;>omega) (by split<;>omega)];unfold enc;cases x<;>cases s.w.K<;>simp[Bool.toNat]<;>omega
 rw[e]at a;exact⟨_,_,_,.held,{s with w:={s.w with L:=true,S:=s.w.S && !(!sv||decide (old.N=1)),N:=s.w.N-1}},.le,a,by simp[Mu.mv],.held,nxt (C.OZ (Fl.of y) b o kind _) l i f trivial (.inr rfl),uU rfl,d.aT {s.w with L:=true,S:=s.w.S && !(!sv||decide (old.N=1)),N:=s.w.N-1},j8 (.inl rfl),λ_=>rfl⟩
include C X in
def GO(t:ShM b o w s)(hb:s.w.N<=1000)(q:s.w.L=true)(h:np P n b o kind .held cs g):lu P n b o kind Wd cs g w main .held s:=by
 obtain⟨c,y,fr,frs,rfl,A,z,u,rfl⟩:=h;have k:({y with N:=(s.w.N:Int)}:Sy).ok:=⟨⟨by simp,by show(s.w.N:Int)<=1000;omega⟩,A.2⟩
 have l:=z.re (y':={y with N:=(s.w.N:Int)}) (.inr rfl) (.inl rfl) (.inl rfl) (.inl rfl)
 have d:=u.fZ (y':={y with N:=(s.w.N:Int)}) (by simpa[qT,oo]using(C.p3 b o kind).1)
 have i:=oY (main:=main) (cs:=frs++cs) (w:=w) z (C.UF b o kind) (by simp[qT,oo]) X.add (λx h=>h) t.cw (t.fz _)
 have e:IntKind.i32.wrap (enc s.w.L s.w.K s.w.S s.w.N+-1)=enc false s.w.K s.w.S s.w.N:=by
  rw[q];have B:=lq (L:=true) (K:=s.w.K) (S:=s.w.S) (N:=(s.w.N:Int));rw[iJ (by omega) (by omega)]
  unfold enc;simp[Bool.toNat];omega
 rw[e]at i;have m:=t.aT {s.w with L:=false}
 have p:SR {y with N:=(s.w.N:Int)} (.word false s.w.K s.w.S 0) (.int .i32 (enc false s.w.K s.w.S s.w.N)):=pV rfl
 by_cases r:s.w.S=true
 . have key:=C.VK (Fl.of {y with N:=(s.w.N:Int)}) b o kind (decide ((s.w.N:Int)=0)) s.w.K
   rw[r]at p;exact⟨_,_,_,.give,{s with w:={s.w with L:=false}},.give,i,by simp[Mu.mv,q,r,Mu.Wd.zero],.give,nxt (y:={y with N:=(s.w.N:Int)}) key k l d (by rw[r];exact p) (.inr rfl),uU rfl,m,j8 (.inl rfl),λ_=>rfl⟩
 have f:s.w.S=false:=by simpa using r
 by_cases v:(decide ((s.w.N:Int)=0)||s.w.K)=true
 . have key:=C.u5 (Fl.of {y with N:=(s.w.N:Int)}) b o kind (decide ((s.w.N:Int)=0)) s.w.K v
   refine⟨_,_,_,.out,{s with w:={s.w with L:=false}},.ue,i,?_,.out,nxt (y:={y with N:=(s.w.N:Int)}) key k l d (by rw[f]at p ⊢;exact p) rfl,uU rfl,m,j8 (.inl rfl),λ_=>rfl⟩
   have a:(decide (s.w.N=0)||s.w.K)=true:=by simpa using v
   simp only[Mu.mv,q,ZU,Rp,lb,zG,and_true];split
   . rfl
   simp only
 have a:(decide ((s.w.N:Int)=0)||s.w.K)=false:=by simpa using v
 simp only[aaf,Zk]at a;have j:s.w.N≠0:=by have:=a.1;omega
 have key:=C.VL (Fl.of {y with N:=(s.w.N:Int)}) b o kind
 rw[FO (by show decide ((s.w.N:Int)=0)=false;simpa using j)]at key
 rw[a.2,f]at p;refine⟨_,_,_,.iP {s.w with L:=false},{s with w:={s.w with L:=false}},.iP _,i,?_,.iP _,nxt (y:={y with N:=(s.w.N:Int)}) key k l d (by rw[a.2,f];exact p) ⟨rfl,rfl,rfl,a.2,f,j⟩,uU rfl,m,j8 (.inl rfl),λ_=>rfl⟩
 have D:({s.w with L:=false}:Mu.Wd)≠Mu.Wd.zero:=λe=>j (by have:=congrArg Mu.Wd.N e;exact this)
 simp[Mu.mv,q,f,j,a.2,Mu.Wd.zero]
include C X in
def GP{old}(d:ShM b o w s)(h:np P n b o kind (.iP old) cs g):lu P n b o kind Wd cs g w main (.iP old) s:=by
 obtain⟨c,y,fr,frs,⟨rfl,k,q,r,t,l⟩,u,i,f,rfl⟩:=h;obtain⟨L,K,S,N⟩:=old;simp only at k q r t l;subst q;subst r;subst t;have v:(UC P n b o kind).1.kind≠.early:=by simp[UC,uy]
 have hold:∀x,SR y wf x->x=.int .i32 (enc false false false N):=λx m=>by have:=m.1;rw[k,aaA]at this;exact this
 have a:∀x,SR y (.word false true false (-1)) x->x=.int .i32 (enc false true false (N-1:Nat)):=λx m=>by have:=m.1;rw[k]at this;rw[this];congr 2;omega
 by_cases j:s.w=⟨false,false,false,N⟩
 . have z:=d.cw
   rw[j]at z;exact⟨_,_,_,.give,{s with w:=⟨false,true,false,N-1⟩},.give,gE i (C.UG b o kind) v X.jX hold a z (d.fz o),by simp[Mu.mv,j],.give,nxt (C.VM (Fl.of y) b o kind) u i f rfl (.inl rfl),uU rfl,d.aT ⟨false,true,false,N-1⟩,j8 (.inl rfl),λ_=>rfl⟩
 have p:¬enc s.w.L s.w.K s.w.S s.w.N=enc false false false N:=λe=>j (O5.2 e)
 exact⟨_,_,_,.uS,s,.uS,ik i (C.UG b o kind) v X.jX hold a d.cw (d.fz o) p,by simp[Mu.mv,j],.uS,nxt (C.VN (Fl.of y) b o kind) u i f rfl rfl,bg rfl,d,FH (.inl rfl),λ_=>rfl⟩
include C X in
def JE(k:ShM b o w s)(hb:s.w.N<=1000)(h:np P n b o kind .uS cs g):lu P n b o kind Wd cs g w main .uS s:=by
 obtain⟨c,y,fr,frs,rfl,x,v,l,rfl⟩:=h;have e:({y with N:=(s.w.N:Int)}:Sy).ok:=⟨⟨by simp,by show(s.w.N:Int)<=1000;omega⟩,x.2⟩
 have f:=v.re (y':={y with N:=(s.w.N:Int)}) (.inr rfl) (.inl rfl) (.inl rfl) (.inl rfl)
 have d:=l.fZ (y':={y with N:=(s.w.N:Int)}) (by simpa[MT,uy]using C.p4 b o kind)
 have i:=pT (main:=main) (cs:=frs++cs) v (C.V3 b o kind) X.Ss X.nV k.cw;have m:SR {y with N:=(s.w.N:Int)} (.word s.w.L s.w.K s.w.S 0) (.int .i32 (enc s.w.L s.w.K s.w.S s.w.N)):=pV rfl
 by_cases p:(decide ((s.w.N:Int)=0)||s.w.L||s.w.K||s.w.S)=true
 . have key:=C.u7 (Fl.of {y with N:=(s.w.N:Int)}) b o kind (decide ((s.w.N:Int)=0)) s.w.L s.w.K s.w.S p
   have a:(decide (s.w.N=0)||s.w.L||s.w.K||s.w.S)=true:=by simpa using p
   exact⟨_,w,#[],.out,s,.ue,i,by simp only[Mu.mv,a,YD,lb],.out,nxt (y:={y with N:=(s.w.N:Int)}) key e f d m rfl,bg rfl,k,eZ,λ_=>rfl⟩
 have a:(decide ((s.w.N:Int)=0)||s.w.L||s.w.K||s.w.S)=false:=by simpa using p
 have q:(decide (s.w.N=0)||s.w.L||s.w.K||s.w.S)=false:=by rw[<-a];simp
 simp only[aaf,Zk]at a;obtain⟨⟨⟨z,r⟩,t⟩,u⟩:=a;have j:s.w.N≠0:=by omega
 have key:=C.VO (Fl.of {y with N:=(s.w.N:Int)}) b o kind
 rw[FO (by show decide ((s.w.N:Int)=0)=false;simpa using j)]at key
 rw[r,t,u]at m;exact⟨_,w,#[],.iP s.w,s,.iP _,i,by simp only[Mu.mv,q,LK,Rp,lb],.iP _,nxt (y:={y with N:=(s.w.N:Int)}) key e f d (by rw[r,t,u];exact m) ⟨rfl,rfl,r,t,u,j⟩,bg rfl,k,eZ,λ_=>rfl⟩
include C X in
def GQ(d:ShM b o w s)(l:s.ms<=1000)(h:np P n b o kind .give cs g):lu P n b o kind Wd cs g w main .give s:=by
 obtain⟨c,y,fr,frs,k,j,i,f,rfl⟩:=h;have e:IntKind.u32.wrap ((s.ms:Int)+1)=((s.ms+1:Nat):Int):=by rw[IntKind.wrap_u32];omega
 rcases k with rfl|rfl
 . have a:=nF (main:=main) (cs:=frs++cs) (w:=w) i (C.UH b o kind) (by simp[G7,uy]) X.nG d.cs (d.fz _)
   rw[e]at a;exact⟨_,_,_,.out,{s with ms:=s.ms+1},.ue,a,by simp[Mu.mv],.out,nxt (C.u8 (Fl.of y) b o kind) j i f rfl rfl,Nn rfl,d.D9 _,vg,λ_=>rfl⟩
 have a:=nF (main:=main) (cs:=frs++cs) (w:=w) i (C.UI b o kind) (by simp[G9,uy]) X.nG d.cs (d.fz _)
 rw[e]at a;exact⟨_,_,_,.out,{s with ms:=s.ms+1},.ue,a,by simp[Mu.mv],.out,nxt (C.u9 (Fl.of y) b o kind) j i f rfl rfl,Nn rfl,d.D9 _,vg,λ_=>rfl⟩
end
