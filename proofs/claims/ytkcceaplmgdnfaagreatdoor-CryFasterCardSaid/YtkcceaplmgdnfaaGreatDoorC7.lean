import Derived.Conc.ClockLaws
import Derived.Conc.MarkLaws
import Derived.Conc.AtomicLaws2
import Derived.Conc.SmallLaws
import Derived.Laws.LoneSync
import Derived.Test.YtkcceaplmgdnfaaGreatDoorC6
set_option linter.all false
namespace Go.cC
open Go.Conc
abbrev acd:=List (Nat × SV)
def aZ(s:oV):Option (FuncId × List SV):=
 match s.mode,s.todo with
 | .run, .inRegion ops (i::_)::_=>match ops[i]? with
   | some o=>match zw ops s.env o with
     | some true=>match o.op with
       | .call c=>match c.callee with
         |.value (.func f)=>some (f,c.args.toList.map (sv s.env))
         |_=>none
       |_=>none
     |_=>none
   |none=>none
 |_,_=>none
def qB(s:oV):Option (TypeId × SV):=
 match s.mode,s.todo with
 | .run,.inRegion ops (i::_)::_=>match ops[i]? with
   | some o=>match zw ops s.env o with
     | some true=>match o.op with
       |.load t x=>some (t,sv s.env x)
       |_=>none
     |_=>none
   |none=>none
 |_,_=>none
structure Ext(P:acH)(f:FuncId)  e :Prop where
 ex:∃fn,P.funcs[f]?=some fn/\(fn.name==  "runtime.NumGoroutine")=false/\fn.body.isNone=true/\Extern.findNext fn=none/\Extern.find fn=some e
def dk {y s fr f svs} (j:FR y s fr) (h:aZ s=some (f,svs)) :
 ∃ ops i rest kk o as a,ops[i]? = some o∧Region.wanted o (yielded ops fr.tmps)=true∧o.op = .call { callee:=.value (.func f),args:=as,argTypes:=a }∧svs=as.toList.map (sv s.env) ∧
   fr=(fr.at ⟨fr.tmps,fr.defers⟩ (.inRegion ops (i :: rest) :: kk))∧∀ v,fr.at ((⟨fr.tmps,fr.defers⟩:Act).put o.dst v) (.inRegion ops rest :: kk)=fr.finish v:=by
 have d:=j;obtain⟨fn,tmps,todo,defs,mode,kind,ro⟩:=fr;obtain⟨n,e,p,b,q,k,r,t⟩:=j;simp only at n e p b q k r t;subst k;unfold aZ at h;split at h
 . rename_i ops i rest kk u w
   rw[u] at b;rw[w] at e;have b:mode = .run:=b;subst b;subst e;split at h
   . rename_i o l
     split at h
     . rename_i x
       split at h
       . rename_i c z
         split at h
         . rename_i g m
           simp only[kn,zH] at h;obtain⟨rfl,rfl⟩:=h;obtain⟨callee,args,a⟩:=c;simp only at m;subst m;refine⟨ops,i,rest,kk,o,args,a,l,pv d x,z,rfl,rfl,fun v=>?_⟩
           simp only[Frame.finish,l,Option.bind_some,Act.put,Frame.at]
           grind
         . cases h
       . cases h
     . cases h
   . cases h
 . cases h
section
variable{P:acH}{main:Bool}{y:Sy}{s:oV}{fr:Frame}{f:FuncId}{svs:List SV}{cs:acr}{w:World}
def Cz{fr:Frame}  x :(⟨fr.tmps,fr.defers⟩:Act).eval x=fr.eval x:=by cases x<;>rfl
def A9 {as:Array acI} (b:FR y s fr) {svs} (h:svs=as.toList.map (sv s.env)):∀ (j:Nat)  v ,svs[j]? = some v->∃ x,(as.map (⟨fr.tmps,fr.defers⟩:Act).eval)[j]? = some x∧SR y v x:=fun j v a=>by
 subst h;rw[aan,abT] at a;obtain⟨x,c,rfl⟩:=ZW.1 a;exact⟨fr.eval x,by simp[c,Cz],b.sv x⟩
def eS {m} (d:∀ g,m ≠ .extern g) (c:FR y s fr) (h:aZ s=some (f,svs)) (e:s.kind ≠ .early) (j:Ext P f (fun _=>do mark m;pure Extern.Race.none_)):stepG P main (G fr cs) w = .go (G (fr.finish (.tuple #[])) cs) w #[⟨.mark m,false,true⟩]:=by
 obtain⟨ops,i,rest,kk,o,as,k,l,n,p,x,z,A⟩:=dk c h;obtain⟨fn,q,r,t,u,v⟩:=j.ex;have:=stepG_mark0 (P:=P) (main:=main) (b:=fr) (a:=⟨fr.tmps,fr.defers⟩) (kk:=kk) (cs:=cs) (w:=w) (rest:=rest) m d l n (by rw[c.kind];exact e) p q r t u v
 grind
def fC {mk} (j:∀ ad g,mk ad ≠ .extern g) {ad} (d:FR y s fr) (h:aZ s=some (f,[.lit (.pointer (some ad))])) (k:s.kind ≠ .early) (l:Ext P f (Extern.Race.marked mk)):stepG P main (G fr cs) w = .go (G (fr.finish (.tuple #[])) cs) w #[⟨.mark (mk ad),false,true⟩]:=by
 obtain⟨ops,i,rest,kk,o,as,m,n,p,q,r,B,C⟩:=dk d h;obtain⟨fn,t,u,v,z,A⟩:=l.ex;obtain⟨x,e,c⟩:=A9 d r 0 _ rfl;have c:x = .pointer (some ad):=c;rw[c] at e;have:=stepG_markAt (P:=P) (main:=main) (b:=fr) (a:=⟨fr.tmps,fr.defers⟩) (kk:=kk) (cs:=cs) (w:=w) (rest:=rest) mk j n p (by rw[d.kind];exact k) q t u v z A e
 grind
def CA {as a b c} (h:[a,b,c]=as.toList.map (sv s.env)):∃ x z u,as=#[x,z,u]∧sv s.env x=a∧sv s.env z=b∧sv s.env u=c:=by
 obtain⟨l⟩:=as
 match l,h with
 | [x,z,u],h=>grind
def Ks {as a b} (h:[a,b]=as.toList.map (sv s.env)):∃ x z,as=#[x,z]∧sv s.env x=a∧sv s.env z=b:=by
 obtain⟨l⟩:=as
 match l,h with
 | [x,z],h=>grind
def Kt {as a} (h:[a]=as.toList.map (sv s.env)):∃ x,as=#[x]∧sv s.env x=a:=by
 obtain⟨l⟩:=as
 match l,h with
 | [x],h=>grind
def iK(b:FR y s fr){x a}(h:sv s.env x=a):SR y a ((⟨fr.tmps,fr.defers⟩:Act).eval x):=by subst h;rw[Cz];exact b.sv x
def ia {k ad a b v n} (c:FR y s fr) (h:aZ s=some (f,[.lit (.pointer (some ad)),a,b])) (e:s.kind ≠ .early) (g:Ext P f (Extern.Atomic.casT (.int k)))
 (j:∀ x,SR y a x->x = .int k v) (hb:∀ x,SR y b x->x = .int k n) (l:w.cell? ad=some (.int k v)) (m:w.frozen? ad=false) :
 stepG P main (G fr cs) w = .go (G (fr.finish (.bool true)) cs) (w.setCell ad (.int k n)) #[⟨.cell ad,false,true⟩,⟨.cell ad,true,true⟩]:=by
 obtain⟨ops,i,rest,kk,o,as,p,q,r,t,A,J,K⟩:=dk c h;obtain⟨fn,B,C,D,E,F⟩:=g.ex;obtain⟨x,z,u,rfl,H,d,I⟩:=CA A;have:=stepG_cas_hit (P:=P) (main:=main) (b:=fr) (a:=⟨fr.tmps,fr.defers⟩) (kk:=kk) (cs:=cs) (w:=w) (rest:=rest) q r (by rw[c.kind];exact e) t B C D E k F (iK c H) (j _ (iK c d)) (hb _ (iK c I)) l m
 grind
def iB {k ad a b v old n} (c:FR y s fr) (h:aZ s=some (f,[.lit (.pointer (some ad)),a,b])) (g:s.kind ≠ .early) (j:Ext P f (Extern.Atomic.casT (.int k)))
 (l:∀ x,SR y a x->x = .int k old) (hb:∀ x,SR y b x->x = .int k n) (m:w.cell? ad=some (.int k v)) (p:w.frozen? ad=false) (d : ¬ v=old) :
 stepG P main (G fr cs) w = .go (G (fr.finish (.bool false)) cs) w #[⟨.cell ad,false,true⟩]:=by
 obtain⟨ops,i,rest,kk,o,as,q,r,t,A,B,K,L⟩:=dk c h;obtain⟨fn,C,D,E,F,H⟩:=j.ex;obtain⟨x,z,u,rfl,I,e,J⟩:=CA B;have:=stepG_cas_miss (P:=P) (main:=main) (b:=fr) (a:=⟨fr.tmps,fr.defers⟩) (kk:=kk) (cs:=cs) (w:=w) (rest:=rest) r t (by rw[c.kind];exact g) A C D E F k H (iK c I) (l _ (iK c e)) (hb _ (iK c J)) m p d
 grind
def pw {k ad a v d} (c:FR y s fr) (h:aZ s=some (f,[.lit (.pointer (some ad)),a])) (g:s.kind ≠ .early) (j:Ext P f (Extern.Atomic.update (Op.intArith .add) k true))
 (l:∀ x,SR y a x->x = .int k d) (m:w.cell? ad=some (.int k v)) (n:w.frozen? ad=false) :
 stepG P main (G fr cs) w = .go (G (fr.finish (.int k (k.wrap (v+d)))) cs) (w.setCell ad (.int k (k.wrap (v+d)))) #[⟨.cell ad,false,true⟩,⟨.cell ad,true,true⟩]:=by
 obtain⟨ops,i,rest,kk,o,as,p,q,r,t,u,H,I⟩:=dk c h;obtain⟨fn,A,B,C,D,E⟩:=j.ex;obtain⟨x,z,rfl,F,e⟩:=Ks u;have:=stepG_add_atomic (P:=P) (main:=main) (b:=fr) (a:=⟨fr.tmps,fr.defers⟩) (kk:=kk) (cs:=cs) (w:=w) (rest:=rest) q r (by rw[c.kind];exact g) t A B C D k E (iK c F) (l _ (iK c e)) m n
 grind
def sf {ad l n} (d:FR y s fr) (h:aZ s=some (f,.lit (.pointer (some ad)) :: l)) (g:s.kind ≠ .early) (j:Ext P f Extern.Sync.semacquire) (k:w.cell? ad=some (.int .u32 n)) (m:n≠0) (p:w.frozen? ad=false) :
 stepG P main (G fr cs) w = .go (G (fr.finish (.tuple #[])) cs) (w.setCell ad (.int .u32 (n-1))) (semEvents ad):=by
 obtain⟨ops,i,rest,kk,o,as,q,r,t,u,v,E,F⟩:=dk d h;obtain⟨fn,z,A,B,C,D⟩:=j.ex;obtain⟨x,e,c⟩:=A9 d v 0 _ rfl;have c:x = .pointer (some ad):=c;rw[c] at e;have:=stepG_semacquire (P:=P) (main:=main) (b:=fr) (a:=⟨fr.tmps,fr.defers⟩) (kk:=kk) (cs:=cs) (w:=w) (rest:=rest) r t (by rw[d.kind];exact g) u z A B C D e k m p
 grind
def zE {ad l} (d:FR y s fr) (h:aZ s=some (f,.lit (.pointer (some ad)) :: l)) (g:Ext P f Extern.Sync.semacquire) (j:w.cell? ad=some (.int .u32 0)) :
 stepG P main (G fr cs) w = .go { G fr cs with status:=.blocked } w #[]:=by
 obtain⟨ops,i,rest,kk,o,as,k,m,n,p,q,A,B⟩:=dk d h;obtain⟨fn,r,t,u,v,z⟩:=g.ex;obtain⟨x,e,c⟩:=A9 d q 0 _ rfl;have c:x = .pointer (some ad):=c;rw[c] at e;have:=stepG_semacquire_wait (P:=P) (main:=main) (b:=fr) (a:=⟨fr.tmps,fr.defers⟩) (kk:=kk) (cs:=cs) (w:=w) (rest:=rest) m n p r t u v z e j
 grind
def nW {ad l n} (d:FR y s fr) (h:aZ s=some (f,.lit (.pointer (some ad)) :: l)) (g:s.kind ≠ .early) (j:Ext P f Extern.Sync.semrelease) (k:w.cell? ad=some (.int .u32 n)) (m:w.frozen? ad=false) :
 stepG P main (G fr cs) w = .go (G (fr.finish (.tuple #[])) cs) (w.setCell ad (.int .u32 (IntKind.u32.wrap (n+1)))) (semEvents ad):=by
 obtain⟨ops,i,rest,kk,o,as,p,q,r,t,u,D,E⟩:=dk d h;obtain⟨fn,v,z,A,B,C⟩:=j.ex;obtain⟨x,e,c⟩:=A9 d u 0 _ rfl;have c:x = .pointer (some ad):=c;rw[c] at e;have:=stepG_semrelease (P:=P) (main:=main) (b:=fr) (a:=⟨fr.tmps,fr.defers⟩) (kk:=kk) (cs:=cs) (w:=w) (rest:=rest) q r (by rw[d.kind];exact g) t v z A B C e k m
 grind
def zF (d:FR y s fr) (h:aZ s=some (f,svs)) (e:s.kind ≠ .early) (g:Ext P f Extern.OsHooks.nano) (j:∃ fn,P.funcs[f]? = some fn∧fn.norace=true) :
 stepG P main (G fr cs) w = .go (G (fr.finish (.int .i64 ((w.os.mono+w.tick:Nat):Int))) cs) w.later #[]:=by
 obtain⟨ops,i,rest,kk,o,as,k,l,m,n,x,z,A⟩:=dk d h;obtain⟨fn,p,q,r,t,u⟩:=g.ex;obtain⟨c,B,v⟩:=j;obtain rfl:c=fn:=by grind
 have:=stepG_nanotime (P:=P) (main:=main) (b:=fr) (a:=⟨fr.tmps,fr.defers⟩) (kk:=kk) (cs:=cs) (w:=w) (rest:=rest) l m (by rw[d.kind];exact e) n p q r t u v
 grind
def HN {n} (d:FR y s fr) (h:aZ s=some (f,[.lit (.int .i64 n)])) (g:s.kind ≠ .early) (v:Ext P f Extern.Sync.canSpin) :
 ∃ b w',stepG P main (G fr cs) w = .go (G (fr.finish (.bool b)) cs) w' #[]∧(b=true->n<4)∧(w'=w∨w'=w.asked):=by
 obtain⟨ops,i,rest,kk,o,as,z,j,l,m,e,B,C⟩:=dk d h;obtain⟨fn,p,q,r,t,u⟩:=v.ex;obtain⟨x,rfl,A⟩:=Kt e;have c:(⟨fr.tmps,fr.defers⟩:Act).eval x = .int .i64 n:=iK d A
 by_cases e:n<4
 . have:=stepG_canSpin_ask (P:=P) (main:=main) (b:=fr) (a:=⟨fr.tmps,fr.defers⟩) (kk:=kk) (cs:=cs) (w:=w) (rest:=rest) j l (by rw[d.kind];exact g) m p q r t u (n:=n) (k:=.i64) (by simp[c]) e
   grind
 . have:=stepG_canSpin_no (P:=P) (main:=main) (b:=fr) (a:=⟨fr.tmps,fr.defers⟩) (kk:=kk) (cs:=cs) (w:=w) (rest:=rest) j l (by rw[d.kind];exact g) m p q r t u (n:=n) (k:=.i64) (by simp[c]) (by omega)
   grind
def tC {v} (c:FR y s fr) (h:aZ s=some (f,svs)) (d:s.kind ≠ .early) (e:Ext P f (fun _=>pure v)):stepG P main (G fr cs) w = .go (G (fr.finish v) cs) w #[]:=by
 obtain⟨ops,i,rest,kk,o,as,g,j,k,l,t,u,x⟩:=dk c h;obtain⟨fn,m,n,p,q,r⟩:=e.ex;have:=stepG_entry (P:=P) (main:=main) (b:=fr) (a:=⟨fr.tmps,fr.defers⟩) (kk:=kk) (cs:=cs) (w:=w) (rest:=rest) (v:=v) (w':=w) (evs:=#[]) j k (by rw[c.kind];exact d) l m n p q r (by simp) (by simp) (by simp)
 grind
def Ku{α β P}{f:α->Sem β}  s :∀{a},mW P s=some a->∀w es,(s.bind f).runT P w es=(f a).runT P w es:=by
 induction s with
 |pure b=>intro a h w es;simp only[mW,kn]at h;subst h;rfl
 |program g c=>intro a h w es;simp only[mW]at h;exact c P h w es
 |_=>intro a h;simp[mW]at h
def qf{t:Nat}{ad v}(q:FR y s fr)(h:qB s=some (t,.lit (.pointer (some ad))))(C:mW P (isAgg t)=some false)(D:∃fn,P.funcs[s.fn]?=some fn/\fn.norace=true)(E:w.cell? ad=some v):
 stepG P main (G fr cs) w=.go (G (fr.finish v) cs) w #[]:=by
 have f:=q;obtain⟨fn,tmps,todo,defs,mode,kind,ro⟩:=fr;obtain⟨r,i,F,g,H,u,I,J⟩:=q;simp only at r i F g H u I J;subst u;unfold qB at h;split at h
 . rename_i ops z rest A K j
   rw[K]at g;rw[j]at i;have g:mode=.run:=g;subst g;subst i;split at h
   . rename_i o L
     split at h
     . rename_i M
       split at h
       . rename_i a x k
         simp only[kn,zH]at h;obtain⟨rfl,N⟩:=h;have d:=f.sv x;rw[N]at d;have d:Frame.eval ⟨fn,tmps,.inRegion ops (z::rest)::A,defs,.run,kind,none⟩ x=.pointer (some ad):=d;obtain⟨O,l,p⟩:=D;subst r;rw[nv L (pv f M)];have hex:execOp (Frame.eval ⟨s.fn,tmps,.inRegion ops (z::rest)::A,defs,.run,kind,none⟩) o=Sem.bind (Instr.loadAt a (.pointer (some ad))) (λv=>pure (Next.value v)):=by simp only[execOp,k,d];rfl
         have e:(Sem.bind (Instr.loadAt a (.pointer (some ad))) (λv=>(pure (Next.value v):Sem Next))).runT P w #[]=(.ok (.value v) w,#[⟨.cell ad,false,false⟩]):=by
          have Q:Instr.loadAt a (.pointer (some ad))=Sem.bind (isAgg a) (λb=>if b=true then Sem.bind (sizeOf a) (λn=>Sem.bind (loadCells ad n) (λc=>pure (.agg c)))else load ad):=rfl
          rw[Q]
          have R:Sem.bind (Sem.bind (isAgg a) (λb=>if b=true then Sem.bind (sizeOf a) (λn=>Sem.bind (loadCells ad n) (λc=>pure (.agg c)))else load ad)) (λv=>(pure (Next.value v):Sem Next))=
           Sem.bind (isAgg a) (λb=>Sem.bind (if b=true then Sem.bind (sizeOf a) (λn=>Sem.bind (loadCells ad n) (λc=>pure (.agg c)))else load ad) (λv=>(pure (Next.value v):Sem Next))):=bind_assoc (m:=Sem) _ _ _
          rw[R,Ku _ C];show(Sem.bind (load ad) (λv=>(pure (Next.value v):Sem Next))).runT P w #[]=_
          unfold load;show Sem.runT P (Sem.load .plain ad λv=>pure (Next.value v)) w #[]=_
          simp only[Sem.runT,E];rfl
         rw[hex]
         have S:seen P s.fn #[⟨.cell ad,false,false⟩]=#[]:=by rw[seen_def];simp[l,p,seenStep]
         simp only[stepG.apply,ZR,e,GStep.after]
         by_cases B:(kind==CallKind.early)=true
         . simp[B,gO,G]
         . simp[B,S,G]
       . cases h
     . cases h
   . cases h
 . cases h
def kr(s:oV):Option (TypeId × TypeId × SV):=
 match s.mode,s.todo with
 | .run,.inRegion ops (i::_)::_=>match ops[i]? with
   | some o=>match zw ops s.env o with
     | some true=>match o.op with
       |.convert a b x=>some (a,b,sv s.env x)
       |_=>none
     |_=>none
   |none=>none
 |_,_=>none
def tD{a b t ad}(l:FR y s fr)(h:kr s=some (a,b,.lit (.pointer (some ad))))(m:P.underlying a=some (.pointer t))(n:P.underlying b=some .unsafePointer)(p:(P.info? t).map (λi=>decide (i.size=0))=some false)(f:∃v,w.cell? ad=some v):
 stepG P main (G fr cs) w=.go (G (fr.finish (.pointer (some ad))) cs) w #[]:=by
 obtain⟨v,f⟩:=f;have d:=l;obtain⟨fn,tmps,todo,defs,mode,kind,ro⟩:=fr;obtain⟨z,g,A,e,B,q,C,D⟩:=l;simp only at z g A e B q C D;subst q;unfold kr at h;split at h
 . rename_i ops r rest u E j
   rw[E]at e;rw[j]at g;have e:mode=.run:=e;subst e;subst g;split at h
   . rename_i o F
     split at h
     . rename_i H
       split at h
       . rename_i I J x k
         simp only[kn,zH]at h;obtain⟨rfl,rfl,K⟩:=h;have c:=d.sv x;rw[K]at c;have c:Frame.eval ⟨fn,tmps,.inRegion ops (r::rest)::u,defs,.run,kind,none⟩ x=.pointer (some ad):=c;rw[nv F (pv d H)];have hex:execOp (Frame.eval ⟨fn,tmps,.inRegion ops (r::rest)::u,defs,.run,kind,none⟩) o=(do pure (.value (<-convert I J (.pointer (some ad)))):Sem Next):=by simp only[execOp,k,c]
         have L:=run_convert_to_unsafe m n p f;have M:=events_convert_to_unsafe m n p f #[];rw[hex];simp[stepG.apply,L,M,GStep.after,gO,G,Result.andThen]
       . cases h
     . cases h
   . cases h
 . cases h
end
def dF(P:acH)(f:FuncId)(args:List SV)(kind:acD):oV:=
 match P.funcs[f]? with
 |some fn=>⟨f,[.code (fn.body.getD .skip)],args++List.replicate (fn.ntmps-args.length) .cy,[],.run,kind⟩
 |none=>⟨f,[],args,[],.run,kind⟩
abbrev cN:=oV × List oV
def next(P:acH)(a:Fl)(c:cN)(v:SV):cN:=match wW c.1 v with|some s=>sgo P a 400 s c.2|none=>c
def pt(b o:Nat):SV:=.lit (.pointer (some ⟨b,o,none⟩))
def un:SV:=.lit (.tuple #[])
def tt:SV:=.lit (.bool true)
def ff:SV:=.lit (.bool false)
def Gr(live:acz)(env:List SV):List SV:=(List.range env.length).zipWith (λi v=>if live.contains i then v else .cy) env
def keep(live:acz)(s:oV):oV:={s with env:=Gr live s.env}
def Kv(env:List SV):acd->List SV
 |[]=>env
 |(i,v)::l=>Kv (env.set i v) l
def FR.keep{y:Sy}{s:oV}{fr:Frame}(h:FR y s fr)(live:acz):FR y (keep live s) fr:=by
 refine⟨h.fn,h.todo,h.defers,h.mode,h.kind,h.ro,?_,λt=>?_⟩
 . rw[h.size]
   show s.env.length=(Gr live s.env).length;rw[Gr,List.length_zipWith,abr,Nat.min_self]
 . have:=h.env t
   simp only[Go.cC.keep,Gr];rw[zG,List.getElem?_zipWith];by_cases a:t<s.env.length
   . rw[List.getElem?_range a,KD a]
     simp only[aaD];split
     . simp_all
     . trivial
   simp_all
def plain:SV->Bool
 |.cy=>true
 |.lit _=>true
 |_=>false
def FR.gQ{y y' s fr}(h:FR y s fr)(a:s.env.all plain=true):FR y' s fr:=by
 refine⟨h.fn,h.todo,h.defers,h.mode,h.kind,h.ro,h.size,λt=>?_⟩;have b:=h.env t
 have c:plain (s.env.getD t .cy)=true:=by
  rw[zG];cases q:s.env[t]? with
  |none=>rfl
  |some v=>grind
 generalize s.env.getD t .cy=v at *;cases v<;>simp_all [plain,SR]
structure CB where
 lock:Nat
 unlock:Nat
 Tq:Nat
 vD:Nat
 QT:Nat
 PY:Nat
 jq:Nat
 en:Nat
 acq:Nat
 rel:Nat
 km:Nat
 add:Nat
 HO:Nat
 tE:Nat
 nano:Nat
 EP:Nat
 nX:Nat
 tM:Nat
 tU:Nat
 tI:Nat
def VC(c:cN):acz:=[c.1.fn,c.1.todo.length,(match c.1.todo with|.inRegion ops (i::_)::_=>i|_=>999),(match aZ c.1 with|some (f,_)=>f|none=>match qB c.1 with|some (t,_)=>1000+t|none=>999)]++c.2.map (·.fn)
def kU:Fl:=⟨false,false,false,false,false,false⟩
def Kw(P:acH)(f:Fl):Nat->oV->List oV->cN
 |0,fr,st=>(fr,st)
 | n + 1,fr,st=>match ss P f fr st with
   | some (a,b)=>match a.todo with
     |.code _::.inLoop _::_=>(a,b)
     |_=>Kw P f n a b
   |none=>(fr,st)
def CC(live:acz)(c:cN):cN:=(keep live c.1,c.2.map (keep []))
def aQ(P:acH)(a:Fl)(live:acz)(c:cN)(v:SV):Option cN:=(wW c.1 v).map λs=>CC live (sgo P a 400 s c.2)
def px(P:acH)(a:Fl)(live:acz)(c:cN)(v:SV):Option cN:=(wW c.1 v).map λs=>CC live (Kw P a 400 s c.2)
def Tr(P:acH)(a:Fl)(live:acz)(c:cN):cN:=CC live (sgo P a 400 c.1 c.2)
def bl(x:Bool):SV:=.lit (.bool x)
def i64(n:Int):SV:=.lit (.int .i64 n)
def i32(n:Int):SV:=.lit (.int .i32 n)
def jk(n:Nat):List SV:=List.replicate n .cy
section
variable(P:acH)(n:CB)(b o:Nat)(kind:acD)
def wf:SV:=.word false false false 0
def wl:SV:=.word true false false 0
def VD:cN:=CC [0] (sgo P kU 400 (dF P n.lock [pt b o] kind) [])
def Kx:cN:=next P kU (VD P n b o kind) un
def Ts:cN:=next P kU (Kx P n b o kind) tt
def Tt:cN:=next P kU (Ts P n b o kind) un
def VE:cN:=next P kU (Tt P n b o kind) (pt b o)
def ER:cN:=next P kU (Kx P n b o kind) ff
def YO:cN:=(px P kU [] (ER P n b o kind) wf).getD (ER P n b o kind)
def VF:cN:=next P kU (ER P n b o kind) wl
def WN:cN:=next P kU (VF P n b o kind) tt
def WO:cN:=next P kU (WN P n b o kind) tt
def VG:cN:=next P kU (WO P n b o kind) un
def QU:cN:=next P kU (VF P n b o kind) ff
def VH:cN:=next P kU (QU P n b o kind) ff
def Tu:cN:=next P kU (next P kU (ER P n b o kind) wf) tt
def Tv:cN:=next P kU (Tu P n b o kind) un
def VI:cN:=next P kU (Tv P n b o kind) (pt b o)
def WQ:cN:=next P kU (QU P n b o kind) tt
def WR:cN:=next P kU (WQ P n b o kind) .HM
def WT:cN:=next P kU (WR P n b o kind) un
def WU:cN:=next P kU (WT P n b o kind) .now
def YP:cN:=next P kU (WU P n b o kind) (.word false false true 0)
def Tw:List oV:=(VD P n b o kind).2
def Vm:List oV:=(ER P n b o kind).2.map (keep [])
def mq(a:acv)(l:acd):cN:=(⟨n.Tq,a,Kv (jk 13) l,[],.run,.normal⟩,Tw P n b o kind)
def cG(a:acv)(l:acd):cN:=(⟨n.QT,a,Kv (jk 139) l,[],.run,.normal⟩,Vm P n b o kind)
def LD:cN:=VD P n b o kind
def tF:cN:=mq P n b o kind (Kx P n b o kind).1.todo [(0,pt b o),(5,pt b o)]
def PZ:cN:=mq P n b o kind (Ts P n b o kind).1.todo [(0,pt b o)]
def Sn:cN:=mq P n b o kind (Tt P n b o kind).1.todo [(8,pt b o)]
def P1:cN:=mq P n b o kind (VE P n b o kind).1.todo [(9,pt b o)]
def BK:cN:=(⟨n.lock,[],jk 6,[],.ret,kind⟩,[])
def P5(aw sv:Bool)(it:Int):acd:=[(0,pt b o),(2,.HM),(3,bl sv),(4,bl aw),(5,i64 it)]
def Vn:cN:=cG P n b o kind (ER P n b o kind).1.todo [(0,pt b o),(2,i64 0),(3,ff),(4,ff),(5,i64 0),(12,pt b o)]
def QV(aw sv:Bool)(it:Int):cN:=cG P n b o kind (ER P n b o kind).1.todo (P5 b o aw sv it++[(12,pt b o)])
def Gs(aw sv:Bool)(it:Int):cN:=cG P n b o kind (VG P n b o kind).1.todo (P5 b o aw sv it++[(47,pt b o)])
def QW(aw sv:Bool)(it:Int):cN:=cG P n b o kind (VH P n b o kind).1.todo (P5 b o aw sv it++[(133,pt b o)])
def HD(L K S aw sv:Bool)(it:Int):cN:=cG P n b o kind (YO P n b o kind).1.todo (P5 b o aw sv it++[(6,.word L K S 0)])
def SQ(K aw sv:Bool)(it:Int):cN:=cG P n b o kind (VF P n b o kind).1.todo (P5 b o aw sv it++[(6,.word true K false 0),(17,tt),(18,i64 it)])
def SW(it:Int):cN:=cG P n b o kind (WN P n b o kind).1.todo (P5 b o false false it++[(33,tt),(36,pt b o),(37,.word true false false 0),(39,.word true true false 0)])
def DS(aw sv:Bool)(it:Int):cN:=cG P n b o kind (WO P n b o kind).1.todo (P5 b o aw sv it)
def Oo(L K S aw sv:Bool):SV:=.word (L||!S) (if aw then false else K) (S||(sv && L)) (if L||S then 1 else 0)
def CD(L K S aw sv:Bool)(it:Int):cN:=cG P n b o kind (QU P n b o kind).1.todo (P5 b o aw sv it++[(6,.word L K S 0),(77,pt b o),(78,.word L K S 0),(79,Oo L K S aw sv)])
def T1(sv:Bool):cN:=cG P n b o kind (WQ P n b o kind).1.todo [(0,pt b o),(3,bl sv)]
def PK(sv:Bool):cN:=cG P n b o kind (WR P n b o kind).1.todo [(0,pt b o),(2,.HM),(3,bl sv),(91,pt b (o+1))]
def TQ:cN:=cG P n b o kind (WT P n b o kind).1.todo [(0,pt b o),(2,.HM),(95,ff)]
def UP(sv:Bool):cN:=cG P n b o kind (WU P n b o kind).1.todo [(0,pt b o),(2,.HM),(3,bl sv),(103,pt b o)]
def AD(d:Int):cN:=cG P n b o kind (YP P n b o kind).1.todo [(0,pt b o),(128,pt b o),(129,i32 d)]
def NY:cN:=cG P n b o kind (Tu P n b o kind).1.todo [(0,pt b o)]
def So:cN:=cG P n b o kind (Tv P n b o kind).1.todo [(136,pt b o)]
def P6:cN:=cG P n b o kind (VI P n b o kind).1.todo [(137,pt b o)]
def VJ:cN:=CC [0,5] (sgo P kU 400 (dF P n.unlock [pt b o] kind) [])
def Tx:cN:=next P kU (VJ P n b o kind) .cy
def WV:cN:=next P kU (Tx P n b o kind) (pt b o)
def WW:cN:=next P kU (WV P n b o kind) un
def Gt:cN:=next P kU (WW P n b o kind) un
def YQ:cN:=next P {kU with n0:=true} (Gt P n b o kind) wf
def Vo:cN:=next P kU (Gt P n b o kind) wf
def YR:cN:=next P kU (Gt P n b o kind) (.word false false true 0)
def YS:cN:=next P kU (Vo P n b o kind) tt
def VK:cN:=next P kU (Vo P n b o kind) ff
def Ty:List oV:=(VJ P n b o kind).2
def VL:List oV:=(Vo P n b o kind).2.map (keep [])
def oJ(a:acv)(l:acd):cN:=(⟨n.vD,a,Kv (jk 21) l,[],.run,.normal⟩,Ty P n b o kind)
def uP(a:acv)(l:acd):cN:=(⟨n.PY,a,Kv (jk 43) l,[],.run,.normal⟩,VL P n b o kind)
def U0:cN:=VJ P n b o kind
def Sp:cN:=oJ P n b o kind (Tx P n b o kind).1.todo [(0,pt b o),(7,pt b o)]
def UR:cN:=oJ P n b o kind (WV P n b o kind).1.todo [(0,pt b o),(8,pt b o)]
def UD:cN:=oJ P n b o kind (WW P n b o kind).1.todo [(0,pt b o)]
def rp:cN:=oJ P n b o kind (Gt P n b o kind).1.todo [(0,pt b o),(13,pt b o),(14,.cy)]
def UE:cN:=oJ P n b o kind (YQ P n b o kind).1.todo []
def UC:cN:=uP P n b o kind (Vo P n b o kind).1.todo [(0,pt b o),(27,pt b o),(28,wf),(29,.word false true false (-1))]
def G7:cN:=uP P n b o kind (YS P n b o kind).1.todo [(33,pt b (o+1))]
def G9:cN:=uP P n b o kind (YR P n b o kind).1.todo [(41,pt b (o+1))]
def NZ:cN:=uP P n b o kind (VK P n b o kind).1.todo [(0,pt b o),(37,pt b o)]
def Tz:cN:=(⟨n.unlock,[],jk 6,[],.ret,kind⟩,[])
end
structure gy  P   n :Prop where
 e1:∀  fl  b o kind,aQ P fl [0,5] (LD P n b o kind) un=some (tF P n b o kind)
 e2:∀  fl  b o kind,aQ P fl [0] (tF P n b o kind) tt=some (PZ P n b o kind)
 e3:∀  fl  b o kind,aQ P fl [0,2,3,4,5,12] (tF P n b o kind) ff=some (Vn P n b o kind)
 e4:∀  fl  b o kind,aQ P fl [8] (PZ P n b o kind) un=some (Sn P n b o kind)
 e5:∀  fl  b o kind,aQ P fl [9] (Sn P n b o kind) (pt b o)=some (P1 P n b o kind)
 e6:∀  fl  b o kind,aQ P fl [] (P1 P n b o kind) un=some (BK n kind)
 WX:∀  fl  b o kind L K S aw sv it,px P fl [0,2,3,4,5,6] (QV P n b o kind aw sv it) (.word L K S 0)=some (HD P n b o kind L K S aw sv it)
 QX:∀  fl  b o kind L K S aw sv it,px P fl [0,2,3,4,5,6] (Gs P n b o kind aw sv it) (.word L K S 0)=some (HD P n b o kind L K S aw sv it)
 WZ:∀  fl  b o kind L K S aw sv it,px P fl [0,2,3,4,5,6] (QW P n b o kind aw sv it) (.word L K S 0)=some (HD P n b o kind L K S aw sv it)
 e8:∀  fl  b o kind K aw sv it,Tr P fl [0,2,3,4,5,6,17,18] (HD P n b o kind true K false aw sv it)=SQ P n b o kind K aw sv it
 e9:∀  fl  b o kind L K S aw sv it,(L && !S)=false->(aw && !K)=false->Tr P fl [0,2,3,4,5,6,77,78,79] (HD P n b o kind L K S aw sv it)=CD P n b o kind L K S aw sv it
 cd:∀(fl:Fl) b o kind it,aQ P {fl with n0:=false} [0,2,3,4,5,33,36,37,39] (SQ P n b o kind false false false it) tt=some (SW P n b o kind it)
 TA:∀(fl:Fl) b o kind n0 K aw sv it,(!aw && !K && !n0)=false->aQ P {fl with n0:=n0} [0,2,3,4,5] (SQ P n b o kind K aw sv it) tt=some (DS P n b o kind aw sv it)
 cY:∀  fl  b o kind K aw sv it,(aw && !K)=false->aQ P fl [0,2,3,4,5,6,77,78,79] (SQ P n b o kind K aw sv it) ff=some (CD P n b o kind true K false aw sv it)
 eZ:∀  fl  b o kind r it,aQ P fl [0,2,3,4,5] (SW P n b o kind it) (bl r)=some (DS P n b o kind r false it)
 ES:∀  fl  b o kind aw sv,aQ P fl [0,2,3,4,5,47] (DS P n b o kind aw sv 0) un=some (Gs P n b o kind aw sv 1)
 ET:∀  fl  b o kind aw sv,aQ P fl [0,2,3,4,5,47] (DS P n b o kind aw sv 1) un=some (Gs P n b o kind aw sv 2)
 TB:∀  fl  b o kind aw sv,aQ P fl [0,2,3,4,5,47] (DS P n b o kind aw sv 2) un=some (Gs P n b o kind aw sv 3)
 TC:∀  fl  b o kind aw sv,aQ P fl [0,2,3,4,5,47] (DS P n b o kind aw sv 3) un=some (Gs P n b o kind aw sv 4)
 JK:∀  fl  b o kind K aw sv it,aQ P fl [0] (CD P n b o kind false K false aw sv it) tt=some (NY P n b o kind)
 TD:∀(fl:Fl) b o kind L K S aw sv it,(L||S)=true->aQ P {fl with wz:=true} [0,3] (CD P n b o kind L K S aw sv it) tt=some (T1 P n b o kind sv)
 TE:∀(fl:Fl) b o kind L K S aw sv it,(L||S)=true->aQ P {fl with wz:=false} [0,2,3,91] (CD P n b o kind L K S aw sv it) tt=some (PK P n b o kind sv)
 Ba:∀  fl  b o kind L K S aw sv it,aQ P fl [0,2,3,4,5,133] (CD P n b o kind L K S aw sv it) ff=some (QW P n b o kind aw sv it)
 wY:∀  fl  b o kind sv,aQ P fl [0,2,3,91] (T1 P n b o kind sv) .HM=some (PK P n b o kind sv)
 TF:∀  fl  b o kind,aQ P fl [0,2,3,103] (PK P n b o kind true) un=some (UP P n b o kind true)
 TG:∀  fl  b o kind,aQ P fl [0,2,95] (PK P n b o kind false) un=some (TQ P n b o kind)
 th:∀(fl:Fl) b o kind x,aQ P {fl with tb:=x} [0,2,3,103] (TQ P n b o kind) .now=some (UP P n b o kind x)
 Oq:∀(fl:Fl) b o kind sv n1,aQ P {fl with n0:=false,n1:=n1} [0,128,129] (UP P n b o kind sv) (.word false false true 0)=some (AD P n b o kind (if !sv||n1 then -11 else -7))
 yO:∀(fl:Fl) b o kind L K sv,px P fl [0,2,3,4,5,6] (UP P n b o kind sv) (.word L K false 0)=some (HD P n b o kind L K false true sv 0)
 vE:∀(fl:Fl) b o kind d,aQ P fl [0] (AD P n b o kind d) .cy=some (NY P n b o kind)
 vF:∀(fl:Fl) b o kind,aQ P fl [136] (NY P n b o kind) un=some (So P n b o kind)
 JL:∀(fl:Fl) b o kind,aQ P fl [137] (So P n b o kind) (pt b o)=some (P6 P n b o kind)
 HP:∀(fl:Fl) b o kind,aQ P fl [] (P6 P n b o kind) un=some (BK n kind)
 u1:∀(fl:Fl) b o kind,aQ P fl [0,7] (U0 P n b o kind) .cy=some (Sp P n b o kind)
 u2:∀(fl:Fl) b o kind,aQ P fl [0,8] (Sp P n b o kind) (pt b o)=some (UR P n b o kind)
 u3:∀(fl:Fl) b o kind,aQ P fl [0] (UR P n b o kind) un=some (UD P n b o kind)
 u4:∀(fl:Fl) b o kind,aQ P fl [0,13] (UD P n b o kind) un=some (rp P n b o kind)
 u5:∀(fl:Fl) b o kind n0 K,(n0||K)=true->aQ P {fl with n0:=n0} [] (rp P n b o kind) (.word false K false 0)=some (UE P n b o kind)
 W2:∀(fl:Fl) b o kind n0 K,aQ P {fl with n0:=n0} [41] (rp P n b o kind) (.word false K true 0)=some (G9 P n b o kind)
 W6:∀(fl:Fl) b o kind,aQ P {fl with n0:=false} [0,27,28,29] (rp P n b o kind) (.word false false false 0)=some (UC P n b o kind)
 W7:∀(fl:Fl) b o kind,aQ P fl [33] (UC P n b o kind) tt=some (G7 P n b o kind)
 W8:∀(fl:Fl) b o kind,aQ P fl [0,37] (UC P n b o kind) ff=some (NZ P n b o kind)
 u7:∀(fl:Fl) b o kind n0 L K S,(n0||L||K||S)=true->aQ P {fl with n0:=n0} [] (NZ P n b o kind) (.word L K S 0)=some (UE P n b o kind)
 W9:∀(fl:Fl) b o kind,aQ P {fl with n0:=false} [0,27,28,29] (NZ P n b o kind) (.word false false false 0)=some (UC P n b o kind)
 u8:∀(fl:Fl) b o kind,aQ P fl [] (G7 P n b o kind) un=some (UE P n b o kind)
 u9:∀(fl:Fl) b o kind,aQ P fl [] (G9 P n b o kind) un=some (UE P n b o kind)
 Xa:∀(fl:Fl) b o kind,aQ P fl [] (UE P n b o kind) un=some (Tz n kind)
 o1:∀b o kind,aZ (LD P n b o kind).1=some (n.jq,[])/\(LD P n b o kind).1.kind=.normal
 o2:∀b o kind,aZ (tF P n b o kind).1=some (n.km,[pt b o,i32 0,i32 1])
 o3:∀b o kind,aZ (PZ P n b o kind).1=some (n.en,[])
 o4:∀b o kind,kr (Sn P n b o kind).1=some (n.tM,n.tU,pt b o)
 o5:∀b o kind,aZ (P1 P n b o kind).1=some (n.acq,[pt b o])
 Xb:∀b o kind aw sv it,qB (QV P n b o kind aw sv it).1=some (n.tI,pt b o)
 Xc:∀b o kind aw sv it,qB (Gs P n b o kind aw sv it).1=some (n.tI,pt b o)
 Xd:∀b o kind aw sv it,qB (QW P n b o kind aw sv it).1=some (n.tI,pt b o)
 o7:∀b o kind K aw sv it,aZ (SQ P n b o kind K aw sv it).1=some (n.HO,[i64 it])
 o8:∀b o kind it,aZ (SW P n b o kind it).1=some (n.km,[pt b o,.word true false false 0,.word true true false 0])
 o9:∀b o kind aw sv it,aZ (DS P n b o kind aw sv it).1=some (n.tE,[])
 VM:∀b o kind L K S aw sv it,aZ (CD P n b o kind L K S aw sv it).1=some (n.km,[pt b o,.word L K S 0,Oo L K S aw sv])
 Xe:∀b o kind sv,aZ (T1 P n b o kind sv).1=some (n.nano,[])
 VN:∀b o kind sv,aZ (PK P n b o kind sv).1=some (n.EP,[pt b (o+1),.cy,i64 2])
 Xf:∀b o kind,aZ (TQ P n b o kind).1=some (n.nano,[])
 Xg:∀b o kind sv,qB (UP P n b o kind sv).1=some (n.tI,pt b o)
 Xh:∀b o kind d,aZ (AD P n b o kind d).1=some (n.add,[pt b o,i32 d])
 Xi:∀b o kind,aZ (NY P n b o kind).1=some (n.en,[])
 Xj:∀b o kind,kr (So P n b o kind).1=some (n.tM,n.tU,pt b o)
 Xk:∀b o kind,aZ (P6 P n b o kind).1=some (n.acq,[pt b o])
 VO:∀b o kind,qB (U0 P n b o kind).1=some (n.tI,pt b o)/\(U0 P n b o kind).1.kind=.normal/\(U0 P n b o kind).1.fn=n.vD
 Xl:∀b o kind,kr (Sp P n b o kind).1=some (n.tM,n.tU,pt b o)
 Xm:∀b o kind,aZ (UR P n b o kind).1=some (n.rel,[pt b o])
 Xn:∀b o kind,aZ (UD P n b o kind).1=some (n.jq,[])
 VP:∀b o kind,aZ (rp P n b o kind).1=some (n.add,[pt b o,i32 (-1)])
 VQ:∀b o kind,aZ (UC P n b o kind).1=some (n.km,[pt b o,wf,.word false true false (-1)])
 VR:∀b o kind,aZ (G7 P n b o kind).1=some (n.nX,[pt b (o+1),ff,i64 2])
 VS:∀b o kind,aZ (G9 P n b o kind).1=some (n.nX,[pt b (o+1),tt,i64 2])
 Xo:∀b o kind,qB (NZ P n b o kind).1=some (n.tI,pt b o)
 Xp:∀b o kind,aZ (UE P n b o kind).1=some (n.en,[])
 p1:∀b o kind,(Tw P n b o kind).all (·.env.all plain)=true/\(LD P n b o kind).1.env.all plain=true/\(LD P n b o kind).2=Tw P n b o kind
 p2:∀b o kind,(Vm P n b o kind).all (·.env.all plain)=true
 p3:∀b o kind,(Ty P n b o kind).all (·.env.all plain)=true/\(U0 P n b o kind).1.env.all plain=true/\(U0 P n b o kind).2=Ty P n b o kind
 p4:∀b o kind,(VL P n b o kind).all (·.env.all plain)=true
structure gz  P  (n:CB):Prop where
 jq:Ext P n.jq (λ_=>do mark .disable;pure Extern.Race.none_)
 en:Ext P n.en (λ_=>do mark .enable;pure Extern.Race.none_)
 acq:Ext P n.acq (Extern.Race.marked .acquire)
 rel:Ext P n.rel (Extern.Race.marked .releaseMerge)
 km:Ext P n.km (Extern.Atomic.casT (.int .i32))
 add:Ext P n.add (Extern.Atomic.update (Op.intArith .add) .i32 true)
 HO:Ext P n.HO Extern.Sync.canSpin
 tE:Ext P n.tE (λ_=>pure (.tuple #[]))
 nano:Ext P n.nano Extern.OsHooks.nano
 Ky:∃fn,P.funcs[n.nano]?=some fn/\fn.norace=true
 EP:Ext P n.EP Extern.Sync.semacquire
 nX:Ext P n.nX Extern.Sync.semrelease
 TH:mW P (isAgg n.tI)=some false
 Xq:∃t,P.underlying n.tM=some (.pointer t)/\P.underlying n.tU=some .unsafePointer/\(P.info? t).map (λi=>decide (i.size=0))=some false
 nS:∃fn,P.funcs[n.QT]?=some fn/\fn.norace=true
 nU:∃fn,P.funcs[n.vD]?=some fn/\fn.norace=true
 nV:∃fn,P.funcs[n.PY]?=some fn/\fn.norace=true
def Sy.ok(y:Sy):Prop:=(0<=y.N/\y.N<=1000)/\(0<=y.c/\y.c<=1000)
def Fl.of(y:Sy):Fl:=⟨decide (y.N=0),decide (y.N=1),decide (y.c=0),decide (y.c=1),decide (y.ws=0),decide (IntKind.i64.wrap (y.tn-y.ws)>1000000)⟩
def Fl.CE{y}(h:y.ok):(Fl.of y).At y:=⟨h.1,h.2,rfl,rfl,rfl,rfl,rfl,rfl⟩
def Gu:SV->Bool|.word ..=>true|.cnt=>true|_=>false
def Kz:SV->Bool|.eC _=>true|.Gq=>true|.HL=>true|_=>false
def KA:SV->Bool|.HM=>true|.Tm=>true|_=>false
def KB:SV->Bool|.now=>true|.Tm=>true|_=>false
def SR.re{y y' v x}(h:SR y v x)(a:y.N=y'.N\/Gu v=false)(b:y.c=y'.c\/Kz v=false)(d:y.ws=y'.ws\/KA v=false)(e:y.tn=y'.tn\/KB v=false):SR y' v x:=by cases v<;>simp_all [SR,Gu,Kz,KA,KB]
def FR.re{y y' s fr}(h:FR y s fr)(a:y.N=y'.N\/s.env.all (λv=>!Gu v)=true)(b:y.c=y'.c\/s.env.all (λv=>!Kz v)=true)
 (d:y.ws=y'.ws\/s.env.all (λv=>!KA v)=true) (e:y.tn=y'.tn\/s.env.all (λv=>!KB v)=true):FR y' s fr:=by
 have key:∀(u:SV->Bool) (t:Nat),u .cy=false->s.env.all (λv=>!u v)=true->u (s.env.getD t .cy)=false:=λu t f g=>by grind
 exact⟨h.fn,h.todo,h.defers,h.mode,h.kind,h.ro,h.size,λt=>(h.env t).re (a.imp id (key _ t rfl)) (b.imp id (key _ t rfl)) (d.imp id (key _ t rfl)) (e.imp id (key _ t rfl))⟩
def lU.gQ{y y'}:∀{l fs},lU y l fs->l.all (·.env.all plain)=true->lU y' l fs
 |[],fs,h,_=>by rw[h.mn];trivial
 |s::l,fs,h,a=>by obtain⟨f,b,rfl,c,d⟩:=h.cons_inv;simp only[aaz,zj]at a;exact⟨c.gQ a.1,d.gQ a.2⟩
def lU.keep{y}  live :∀{l fs},lU y l fs->lU y (l.map (Go.cC.keep live)) fs
 |[],fs,h=>by simp_all
 |s::l,fs,h=>by obtain⟨f,a,rfl,b,c⟩:=h.cons_inv;exact⟨b.keep live,c.keep live⟩
def Gv{P Wd f y}(i:f.At y):∀  n  {s st fr frs},FR y s fr->lU y st frs ->
 ∃m b a,FR y (Kw P f n s st).1 b/\lU y (Kw P f n s st).2 a/\∀cs,jd P Wd m (G fr (frs++cs)) (G b (a++cs))
 |0,s,st,fr,frs,g,c=>⟨0,fr,frs,g,c,λ_=>rfl⟩
 | n + 1,s,st,fr,frs,g,c=>by
   unfold Kw;cases e:ss P f s st with
   |none=>exact⟨0,fr,frs,g,c,λ_=>rfl⟩
   | some p=>
     obtain⟨u,o⟩:=p;obtain⟨b,a,j,k,l⟩:=PX i e g c;simp only;split
     . exact⟨1,b,a,j,k,λcs=>⟨_,l cs,rfl⟩⟩
     . obtain⟨m,h,d,q,r,t⟩:=Gv i n j k
       exact⟨m+1,h,d,q,r,λcs=>⟨_,l cs,t cs⟩⟩
section
variable{P:acH}{Wd:ack}{y:Sy}{c c':cN}{live:acz}{v:SV}{x:Value}{fr:Frame}{frs:acr}
def P7(e:aQ P (Fl.of y) live c v=some c')(f:y.ok)(g:FR y c.1 fr)(d:lU y c.2 frs)(h:SR y v x):
 ∃b a,FR y c'.1 b/\lU y c'.2 a/\∀cs,sd P Wd (G (fr.finish x) (frs++cs)) (G b (a++cs)):=by
 obtain⟨s,i,rfl⟩:=ZW.1 e;obtain⟨m,b,a,j,k,l⟩:=lE (Wd:=Wd) (Fl.CE f) 400 (P:=P) (g.fin i h) d;exact⟨b,a,j.keep live,k.keep [],λcs=>⟨m,l cs⟩⟩
def TJ(e:px P (Fl.of y) live c v=some c')(f:y.ok)(g:FR y c.1 fr)(d:lU y c.2 frs)(h:SR y v x):
 ∃b a,FR y c'.1 b/\lU y c'.2 a/\∀cs,sd P Wd (G (fr.finish x) (frs++cs)) (G b (a++cs)):=by
 obtain⟨s,i,rfl⟩:=ZW.1 e;obtain⟨m,b,a,j,k,l⟩:=Gv (Wd:=Wd) (Fl.CE f) 400 (P:=P) (g.fin i h) d;exact⟨b,a,j.keep live,k.keep [],λcs=>⟨m,l cs⟩⟩
def TK(e:Tr P (Fl.of y) live c=c')(f:y.ok)(g:FR y c.1 fr)(d:lU y c.2 frs):
 ∃b a,FR y c'.1 b/\lU y c'.2 a/\∀cs,sd P Wd (G fr (frs++cs)) (G b (a++cs)):=by
 subst e;obtain⟨m,b,a,h,i,j⟩:=lE (Wd:=Wd) (Fl.CE f) 400 (P:=P) g d;exact⟨b,a,h.keep live,i.keep [],λcs=>⟨m,j cs⟩⟩
end
open Mu in
inductive Bb where
 |ld|fY|rd (l:Lo)|sq (old:Wd) (l:Lo)|sw (old:Wd) (l:Lo)|km (old:Wd) (l:Lo)|t1 (sv:Bool)|gL (sv:Bool)|tq|up (sv:Bool)|add (old:Wd) (sv:Bool)|le|la|back
 |Gw|ur|ud|held|jc (old:Wd)|vp|give|ue|CG
section
variable(P:acH)(n:CB)(b o:Nat)(kind:acD)
def EN(p:Bb)(c:cN)(y:Sy):Prop:=
 match p with
 |.ld=>c=LD P n b o kind
 |.fY=>c=tF P n b o kind
 |.rd l=>c=QV P n b o kind l.aw l.sv l.it\/c=Gs P n b o kind l.aw l.sv l.it\/c=QW P n b o kind l.aw l.sv l.it
 |.sq old l=>c=SQ P n b o kind old.K l.aw l.sv l.it/\y.N=old.N/\old.L=true/\old.S=false
 |.sw old l=>c=SW P n b o kind l.it/\y.N=old.N/\l.aw=false/\l.sv=false/\old.L=true/\old.K=false/\old.S=false
 |.km old l=>c=CD P n b o kind old.L old.K old.S l.aw l.sv l.it/\y.N=old.N
 |.t1 sv=>c=T1 P n b o kind sv
 |.gL sv=>c=PK P n b o kind sv
 |.tq=>c=TQ P n b o kind
 |.up sv=>c=UP P n b o kind sv
 |.add old sv=>c=AD P n b o kind (if !sv||decide (old.N=1)then -11 else -7)
 |.le=>c=PZ P n b o kind\/c=NY P n b o kind
 |.la=>c=P1 P n b o kind\/c=P6 P n b o kind
 |.back=>c=BK n kind
 |.Gw=>c=U0 P n b o kind
 |.ur=>c=UR P n b o kind
 |.ud=>c=UD P n b o kind
 |.held=>c=rp P n b o kind
 |.jc old=>c=UC P n b o kind/\y.N=old.N/\old.L=false/\old.K=false/\old.S=false/\old.N≠0
 |.vp=>c=NZ P n b o kind
 |.give=>c=G7 P n b o kind\/c=G9 P n b o kind
 |.ue=>c=UE P n b o kind
 |.CG=>c=Tz n kind
def nJ(p:Bb)(cs:acr)(g:acx):Prop:=∃c y fr frs,EN P n b o kind p c y/\y.ok/\FR y c.1 fr/\lU y c.2 frs/\g=G fr (frs++cs)
end
def nJ.running{P n b o kind p cs g}(h:nJ P n b o kind p cs g):g.status=.running/\g.offers=none:=by obtain⟨c,y,fr,frs,_,_,_,_,rfl⟩:=h;exact⟨rfl,rfl⟩
structure ShM  b o  (w:World) (s:Mu.Sh):Prop where
 cw:w.cell? ⟨b,o,none⟩=some (.int .i32 (enc s.w.L s.w.K s.w.S s.w.N))
 cs:w.cell? ⟨b,o+1,none⟩=some (.int .u32 s.ms)
 fz:∀i,w.frozen? ⟨b,i,none⟩=false
def MW(b o:Nat)(w w':World):Prop:=(l8 w.os w'.os/\w'.output=w.output)/\(w'.heap=w.heap\/∃i v,(i=o\/i=o+1)/\flat v=true/\w'.heap=(w.setCell ⟨b,i,none⟩ v).heap)
def EvM(b o:Nat)(es:acm):Prop:=∀e∈es,(e.loc=.mark .disable\/e.loc=.mark .enable)\/(∃i,(i=o\/i=o+1)/\e.loc=.cell ⟨b,i,none⟩/\e.sync=true)
def qg{w w':World}(h:w'.heap=w.heap)  a :w'.cell? a=w.cell? a/\w'.frozen? a=w.frozen? a:=by simp[World.cell?,World.frozen?,h]
def ShM.heap{b o w w' s}(h:ShM b o w s)(e:w'.heap=w.heap):ShM b o w' s:=⟨by rw[(qg e _).1];exact h.cw,by rw[(qg e _).1];exact h.cs,λi=>by rw[(qg e _).2];exact h.fz i⟩
def jS{w:World}{b i u v}(h:w.cell? ⟨b,i,none⟩=some u):(w.setCell ⟨b,i,none⟩ v).cell? ⟨b,i,none⟩=some v:=by
 unfold World.cell? at h ⊢;unfold World.setCell
 grind
def nY{w:World}{a v b i}:(w.setCell a v).frozen? ⟨b,i,none⟩=w.frozen? ⟨b,i,none⟩:=by simp_all
def ShM.aU{b o w s}(h:ShM b o w s)  w' :ShM b o (w.setCell ⟨b,o,none⟩ (.int .i32 (enc w'.L w'.K w'.S w'.N))) {s with w:=w'}:=⟨jS h.cw,by rw[dC (by simp)];exact h.cs,λi=>by rw[nY];exact h.fz i⟩
def ShM.EU{b o w s}(h:ShM b o w s)(m:Nat):ShM b o (w.setCell ⟨b,o+1,none⟩ (.int .u32 m)) {s with ms:=m}:=⟨by rw[dC (by simp)];exact h.cw,jS h.cs,λi=>by rw[nY];exact h.fz i⟩
def fI{b o}:EvM b o #[]:=λe h=>by simp at h
def Gx{b o i}(hi:i=o\/i=o+1):EvM b o #[⟨.cell ⟨b,i,none⟩,false,true⟩]:=λe h=>by simp_all
def ku{b o i}(hi:i=o\/i=o+1):EvM b o #[⟨.cell ⟨b,i,none⟩,false,true⟩,⟨.cell ⟨b,i,none⟩,true,true⟩]:=λe h=>by grind
def vG{b o}:EvM b o (semEvents ⟨b,o+1,none⟩):=λe h=>by
 simp[semEvents]at h
 grind
section
variable{P:acH}{n:CB}(C:gy P n)(X:gz P n){b o:Nat}{kind:acD}{Wd:ack}{cs:acr}{g:acx}{w:World}{main:Bool}
variable(hWd:∀w,Wd w->∃v,w.cell? ⟨b,o,none⟩=some v)
def Next(P:acH)(n:CB)(b o:Nat)(kind:acD)(Wd:ack)(cs:acr)(p:Bb)(a:acx):Prop:=a.status=.running/\∃c,sd P Wd a c/\nJ P n b o kind p cs c
def nxt{y c c' live v x fr frs p}(g:aQ P (Fl.of y) live c v=some c')(f:y.ok)(h:FR y c.1 fr)(d:lU y c.2 frs)(i:SR y v x)(j:EN P n b o kind p c' y):
 Next P n b o kind Wd cs p (G (fr.finish x) (frs++cs)):=by
 obtain⟨e,a,k,l,m⟩:=P7 (Wd:=Wd) g f h d i;exact⟨rfl,_,m cs,c',y,e,a,j,f,k,l,rfl⟩
def y0:Sy:=⟨2,2,1,0⟩
def sk:y0.ok:=by unfold Sy.ok y0;decide
def EV(h:∃fn body,P.funcs[n.lock]?=some fn/\fn.body=some body/\fn.ntmps=6):∃e,sd P Wd (G (Frame.enter P n.lock #[.pointer (some ⟨b,o,none⟩)] kind) cs) e/\nJ P n b o kind .ld cs e:=by
 obtain⟨fn,body,a,i,g⟩:=h
 have j:FR y0 (dF P n.lock [pt b o] kind) (Frame.enter P n.lock #[.pointer (some ⟨b,o,none⟩)] kind):=by
  refine⟨by simp[dF,a,Frame.enter],by simp[dF,a,i,Frame.enter],by simp[dF,a,Frame.enter],by simp[dF,a,Frame.enter,Cw.of],by simp[dF,a,Frame.enter],rfl,by simp[dF,a,g,Frame.enter],λt=>?_⟩;simp only[dF,a,Frame.enter,g,aal,aaD]
  match t with
  |0=>rfl
  |1|2|3|4|5=>trivial
  | t+6=>
    have:([pt b o]++List.replicate (6 - [pt b o].length) SV.cy).getD (t+6) .cy=.cy:=by simp_all
    rw[this];trivial
 obtain⟨m,d,c,k,l,p⟩:=lE (Wd:=Wd) (P:=P) (f:=kU) (y:=y0) ⟨by decide,by decide,rfl,rfl,rfl,rfl,rfl,by decide⟩ 400 j (st:=[]) (frs:=[]) trivial;have q:=p cs;exact⟨_,⟨m,q⟩,_,y0,d,c,rfl,sk,k.keep [0],l.keep [],rfl⟩
def KC:∀g ,Mark.disable≠.extern g:=λg h=>by cases h
def KG:∀g ,Mark.enable≠.extern g:=λg h=>by cases h
include C X in
def Bc(h:nJ P n b o kind .ld cs g):∃d,stepG P main g w=.go d w #[⟨.mark .disable,false,true⟩]/\Next P n b o kind Wd cs .fY d:=by obtain⟨c,y,fr,frs,rfl,f,e,a,rfl⟩:=h;exact⟨_,eS KC e (C.o1 b o kind).1 (by rw[show(LD P n b o kind).1.kind=_ from(C.o1 b o kind).2];decide) X.jq,nxt (C.e1 _ b o kind) f e a rfl rfl⟩
include C X in
def Gy(h:nJ P n b o kind .ud cs g):∃d,stepG P main g w=.go d w #[⟨.mark .disable,false,true⟩]/\Next P n b o kind Wd cs .held d:=by obtain⟨c,y,fr,frs,rfl,f,e,a,rfl⟩:=h;exact⟨_,eS KC e (C.Xn b o kind) (by simp[UD,oJ]) X.jq,nxt (C.u4 _ b o kind) f e a rfl rfl⟩
include C X in
def Bd(h:nJ P n b o kind .ue cs g):∃d,stepG P main g w=.go d w #[⟨.mark .enable,false,true⟩]/\Next P n b o kind Wd cs .CG d:=by obtain⟨c,y,fr,frs,rfl,f,e,a,rfl⟩:=h;exact⟨_,eS KG e (C.Xp b o kind) (by simp[UE,oJ]) X.en,nxt (C.Xa _ b o kind) f e a rfl rfl⟩
include C X in
def Gz(h:nJ P n b o kind .ur cs g):∃d,stepG P main g w=.go d w #[⟨.mark (.releaseMerge ⟨b,o,none⟩),false,true⟩]/\Next P n b o kind Wd cs .ud d:=by obtain⟨c,y,fr,frs,rfl,f,e,a,rfl⟩:=h;exact⟨_,fC (λi g h=>by cases h) e (C.Xm b o kind) (by simp[UR,oJ]) X.rel,nxt (C.u3 _ b o kind) f e a rfl rfl⟩
include C X in
def GA(h:nJ P n b o kind .la cs g):∃e,stepG P main g w=.go e w #[⟨.mark (.acquire ⟨b,o,none⟩),false,true⟩]/\Next P n b o kind Wd cs .back e:=by
 obtain⟨c,y,fr,frs,i,f,d,a,rfl⟩:=h;rcases i with rfl|rfl
 . exact⟨_,fC (λj g h=>by cases h) d (C.o5 b o kind) (by simp[P1,mq]) X.acq,nxt (C.e6 _ b o kind) f d a rfl rfl⟩
 . exact⟨_,fC (λj g h=>by cases h) d (C.Xk b o kind) (by simp[P6,cG]) X.acq,nxt (C.HP _ b o kind) f d a rfl rfl⟩
include X hWd in
def through{y c c' live fr frs p}(f:kr c.1=some (n.tM,n.tU,pt b o))(g:aQ P (Fl.of y) live c (pt b o)=some c')(h:y.ok)(e:FR y c.1 fr)(d:lU y c.2 frs)(i:EN P n b o kind p c' y):
 ∃a,sd P Wd (G fr (frs++cs)) a/\nJ P n b o kind p cs a:=by
 obtain⟨t,j,k,l⟩:=X.Xq;obtain⟨_,a,m,q⟩:=nxt (P:=P) (n:=n) (b:=b) (o:=o) (kind:=kind) (Wd:=Wd) (cs:=cs) (x:=.pointer (some ⟨b,o,none⟩)) g h e d rfl i;refine⟨a,sd.trans (sc.zx ⟨rfl,λmain w r=>?_⟩) m,q⟩;exact tD e f j k l (hWd w r)
include C X hWd in
def GB(h:nJ P n b o kind .le cs g):∃s,stepG P main g w=.go s w #[⟨.mark .enable,false,true⟩]/\Next P n b o kind Wd cs .la s:=by
 obtain⟨c,y,fr,frs,t,e,f,a,rfl⟩:=h;rcases t with rfl|rfl
 . refine⟨_,eS KG f (C.o3 b o kind) (by simp[PZ,mq]) X.en,rfl,?_⟩
   obtain⟨i,d,j,k,l⟩:=P7 (Wd:=Wd) (x:=.tuple #[]) (C.e4 _ b o kind) e f a rfl;obtain⟨m,q,r⟩:=through X hWd (cs:=cs) (p:=.la) (C.o4 b o kind) (C.e5 _ b o kind) e j k (.inl rfl);exact⟨m,(l cs).trans q,r⟩
 . refine⟨_,eS KG f (C.Xi b o kind) (by simp[NY,cG]) X.en,rfl,?_⟩
   obtain⟨i,d,j,k,l⟩:=P7 (Wd:=Wd) (x:=.tuple #[]) (C.vF _ b o kind) e f a rfl;obtain⟨m,q,r⟩:=through X hWd (cs:=cs) (p:=.la) (C.Xj b o kind) (C.JL _ b o kind) e j k (.inr rfl);exact⟨m,(l cs).trans q,r⟩
include C X hWd in
def wZ{v}(j:w.cell? ⟨b,o,none⟩=some v)(h:nJ P n b o kind .Gw cs g):∃d,stepG P main g w=.go d w #[]/\Next P n b o kind Wd cs .ur d:=by
 obtain⟨c,y,fr,frs,rfl,e,f,a,rfl⟩:=h;refine⟨_,qf f (C.VO b o kind).1 X.TH (by rw[show(U0 P n b o kind).1.fn=_ from(C.VO b o kind).2.2];exact X.nU) j,rfl,?_⟩;obtain⟨k,i,l,m,q⟩:=P7 (Wd:=Wd) (x:=v) (C.u1 _ b o kind) e f a trivial;obtain⟨r,s,t⟩:=through X hWd (cs:=cs) (p:=.ur) (C.Xl b o kind) (C.u2 _ b o kind) e l m rfl;exact⟨r,(q cs).trans s,t⟩
include C X in
def Ot{sv}(h:nJ P n b o kind (.t1 sv) cs g):∃f,stepG P main g w=.go f w.later #[]/\Next P n b o kind Wd cs (.gL sv) f:=by
 obtain⟨c,y,fr,frs,rfl,j,i,d,rfl⟩:=h;refine⟨_,zF i (C.Xe b o kind sv) (by simp[T1,cG]) X.nano X.Ky,?_⟩;have e:=i.re (y':={y with ws:=((w.os.mono+w.tick:Nat):Int)}) (.inl rfl) (.inl rfl) (.inr (by cases sv<;>rfl)) (.inl rfl);have a:=d.gQ (y':={y with ws:=((w.os.mono+w.tick:Nat):Int)}) (by simpa[T1,cG]using C.p2 b o kind);exact nxt (y:={y with ws:=((w.os.mono+w.tick:Nat):Int)}) (x:=.int .i64 ((w.os.mono+w.tick:Nat):Int)) (C.wY _ b o kind sv) j e a rfl rfl
end
inductive To:Mu.Pc->Bb->Prop
 |out:To .out .ue
 |rd (l:Mu.Lo):To (.rd l) (.rd l)
 |sq (old:Mu.Wd) (l:Mu.Lo):To (.sq old l) (.sq old l)
 |sw (old:Mu.Wd) (l:Mu.Lo):To (.sw old l) (.sw old l)
 |km (old:Mu.Wd) (l:Mu.Lo):To (.km old l) (.km old l)
 |t1 (sv:Bool):To (.gL sv) (.t1 sv)
 |gL (sv:Bool):To (.gL sv) (.gL sv)
 |tq:To .tq .tq
 |up (sv:Bool):To (.up sv) (.up sv)
 |add (old:Mu.Wd) (sv:Bool):To (.add old sv) (.add old sv)
 |held:To .held .le
 |jc (old:Mu.Wd):To (.jc old) (.jc old)
 |vp:To .vp .vp
 |give:To .give .give
def lF(P:acH)(n:CB)(b o:Nat)(kind:acD)(Wd:ack)(cs:acr)(g:acx)(w:World)(main:Bool)(pc:Mu.Pc)(s:Mu.Sh):Prop:=∃c a es q e f,stepG P main g w=.go c a es/\(q,e)∈Mu.mv pc s/\To q f/\Next P n b o kind Wd cs f c/\MW b o w a/\ShM b o a e/\EvM b o es/\∀d,deafBehind d es=d
def bh{b o w w'}(h:w'.heap=w.heap)(a:l8 w.os w'.os/\w'.output=w.output:=by exact⟨l8.refl _,rfl⟩):MW b o w w':=⟨a,.inl h⟩
def vr{b o w v}(h:flat v=true):MW b o w (w.setCell ⟨b,o,none⟩ v):=⟨⟨.refl _,rfl⟩,.inr ⟨o,v,.inl rfl,h,rfl⟩⟩
def Ou{b o w v}(h:flat v=true):MW b o w (w.setCell ⟨b,o+1,none⟩ v):=⟨⟨.refl _,rfl⟩,.inr ⟨o+1,v,.inr rfl,h,rfl⟩⟩
def GC{L K S a b c}{N d:Nat}:enc L K S N=enc a b c d↔(L=a/\K=b/\S=c/\N=d):=by
 unfold enc;constructor
 . intro h
   cases L<;>cases K<;>cases S<;>cases a<;>cases b<;>cases c<;>simp[Bool.toNat]at h ⊢<;>omega
 simp_all
section
variable{P:acH}{n:CB}(C:gy P n)(X:gz P n){b o:Nat}{kind:acD}{Wd:ack}{cs:acr}{g:acx}{w:World}{main:Bool}{s:Mu.Sh}
def GD{w}:w=Mu.Wd.zero↔(enc w.L w.K w.S w.N=0):=by
 obtain⟨L,K,S,N⟩:=w;rw[wV (by simp)];simp[Mu.Wd.zero]
include C X in
def HQ(d:ShM b o w s)(h:nJ P n b o kind .fY cs g):lF P n b o kind Wd cs g w main .fY s:=by
 obtain⟨c,y,fr,frs,rfl,l,j,f,rfl⟩:=h;have q:(tF P n b o kind).1.kind≠.early:=by simp[tF,mq]
 by_cases k:s.w=Mu.Wd.zero
 . have m:enc s.w.L s.w.K s.w.S s.w.N=0:=GD.1 k
   have r:=d.cw;rw[m]at r;refine⟨_,_,_,.held,{s with w:={Mu.Wd.zero with L:=true}},.le,ia j (C.o2 b o kind) q X.km (v:=0) (n:=1) (λx h=>h) (λx h=>h) r (d.fz o),by simp[Mu.mv,k],.held,nxt (C.e2 _ b o kind) l j f rfl (.inl rfl),vr rfl,?_,ku (.inl rfl),λ_=>rfl⟩;have:=d.aU {Mu.Wd.zero with L:=true};exact this
 . have m:¬enc s.w.L s.w.K s.w.S s.w.N=0:=λe=>k (GD.2 e)
   refine⟨_,_,_,.rd ⟨false,false,0⟩,s,.rd ⟨false,false,0⟩,iB j (C.o2 b o kind) q X.km (old:=0) (n:=1) (λx h=>h) (λx h=>h) d.cw (d.fz o) m,by simp[Mu.mv,k],.rd _,⟨rfl,?_⟩,bh rfl,d,Gx (.inl rfl),λ_=>rfl⟩;obtain⟨p,i,A,B,D⟩:=P7 (Wd:=Wd) (x:=.bool false) (C.e3 _ b o kind) l j f rfl;refine⟨_,D cs,QV P n b o kind false false 0,{y with ws:=0},p,i,.inl rfl,l,?_,?_,rfl⟩
   . have a:=A.re (y':={y with ws:=0}) (.inl rfl) (.inl rfl) (.inr rfl) (.inl rfl)
     refine⟨a.fn,a.todo,a.defers,a.mode,a.kind,a.ro,a.size.trans rfl,λt=>?_⟩;have u:=a.env t;by_cases z:t=2
     . subst z;exact u
     . have e:(QV P n b o kind false false 0).1.env=(Vn P n b o kind).1.env.set 2 .HM:=rfl
       rw[e,zG,aaF (za z),<-List.getD_eq_getElem?_getD];exact u
   . exact B.gQ (by simpa[Vn,cG]using C.p2 b o kind)
def qh{y:Sy}{L K S}{N:Nat}(h:y.N=N):SR y (.word L K S 0) (.int .i32 (enc L K S N)):=by
 refine⟨?_,?_,by decide⟩
 . simp_all
 omega
def GF{y x}(h:decide (y.N=0)=x):{Fl.of y with n0:=x}=Fl.of y:=by subst h;rfl
def QY{y x z}(h:decide (y.N=0)=x)(a:decide (y.N=1)=z):{Fl.of y with n0:=x,n1:=z}=Fl.of y:=by subst h;subst a;rfl
def P8{y x}(h:decide (y.ws=0)=x):{Fl.of y with wz:=x}=Fl.of y:=by subst h;rfl
def TL{y x}(h:decide (IntKind.i64.wrap (y.tn-y.ws)>1000000)=x):{Fl.of y with tb:=x}=Fl.of y:=by subst h;rfl
def Sq(old:Mu.Wd)(l:Mu.Lo):Bb:=if old.L && !old.S then .sq old l else .km old l
def P9  old   l :To (Mu.nx old l) (Sq old l):=by
 unfold Mu.nx Sq;split
 . exact .sq _ _
 . exact .km _ _
include C in
def GG{y old l fr frs}(e:y.ok)(m:y.N=old.N)(p:FR y (HD P n b o kind old.L old.K old.S l.aw l.sv l.it).1 fr)(d:lU y (HD P n b o kind old.L old.K old.S l.aw l.sv l.it).2 frs)(f:Mu.loc (Mu.nx old l)):
 ∃q,sd P Wd (G fr (frs++cs)) q/\nJ P n b o kind (Sq old l) cs q:=by
 obtain⟨L,K,S,N⟩:=old;obtain⟨aw,sv,it⟩:=l;unfold Sq;unfold Mu.nx at f;by_cases h:(L && !S)=true
 . simp only[h,ZR]at f ⊢
   simp only[zj,abn]at h;obtain⟨rfl,rfl⟩:=h;obtain⟨c,a,g,i,j⟩:=TK (Wd:=Wd) (C.e8 (Fl.of y) b o kind K aw sv it) e p d;exact⟨_,j cs,_,y,c,a,⟨rfl,m,rfl,rfl⟩,e,g,i,rfl⟩
 . have r:(L && !S)=false:=by simpa using h
   rw[ZM h]at f ⊢
   have k:(aw && !K)=false:=by
    cases aw with
    |false=>rfl
    |true=>have:=f.1 rfl;simp at this;simp[this]
   obtain⟨c,a,g,i,j⟩:=TK (Wd:=Wd) (C.e9 (Fl.of y) b o kind L K S aw sv it r k) e p d;exact⟨_,j cs,_,y,c,a,⟨rfl,m⟩,e,g,i,rfl⟩
include C X in
def Ov{l}(i:ShM b o w s)(hb:s.w.N<=1000)(m:Mu.loc (Mu.nx s.w l))(h:nJ P n b o kind (.rd l) cs g):lF P n b o kind Wd cs g w main (.rd l) s:=by
 obtain⟨c,y,fr,frs,p,q,j,e,rfl⟩:=h;have a:({y with N:=(s.w.N:Int)}:Sy).ok:=⟨⟨by simp,by show(s.w.N:Int)<=1000;omega⟩,q.2⟩
 have key:qB c.1=some (n.tI,pt b o)->c.1.fn=n.QT->(c.1.env.all (λv=>!Gu v)=true)->c.2=Vm P n b o kind->px P (Fl.of {y with N:=(s.w.N:Int)}) [0,2,3,4,5,6] c (.word s.w.L s.w.K s.w.S 0)=some (HD P n b o kind s.w.L s.w.K s.w.S l.aw l.sv l.it) ->
  lF P n b o kind Wd cs (G fr (frs++cs)) w main (.rd l) s:=λr t u x z=>by
  have f:=j.re (y':={y with N:=(s.w.N:Int)}) (.inr u) (.inl rfl) (.inl rfl) (.inl rfl);have d:=e.gQ (y':={y with N:=(s.w.N:Int)}) (by rw[x];exact C.p2 b o kind);obtain⟨A,k,B,D,E⟩:=TJ (Wd:=Wd) z a f d (qh rfl);obtain⟨F,H,I⟩:=GG C (Wd:=Wd) (cs:=cs) (old:=s.w) (l:=l) a rfl B D m;exact⟨_,w,#[],_,s,Sq s.w l,qf j r X.TH (by rw[t];exact X.nS) i.cw,by simp[Mu.mv],P9 _ _,⟨rfl,F,(E cs).trans H,I⟩,bh rfl,i,fI,λ_=>rfl⟩
 rcases p with rfl|rfl|rfl
 . exact key (C.Xb ..) rfl rfl rfl (C.WX ..)
 . exact key (C.Xc ..) rfl rfl rfl (C.QX ..)
 . exact key (C.Xd ..) rfl rfl rfl (C.WZ ..)
include C X in
def Be{y aw sv}{it:Nat}{fr frs}(f:it<4)(g:y.ok)(e:FR y (DS P n b o kind aw sv it).1 fr)(d:lU y (DS P n b o kind aw sv it).2 frs):
 ∃c,sd P Wd (G fr (frs++cs)) c/\nJ P n b o kind (.rd ⟨aw,sv,it+1⟩) cs c:=by
 have a:sc P Wd (G fr (frs++cs)) (G (fr.finish (.tuple #[])) (frs++cs)):=⟨rfl,λmain w _=>tC e (C.o9 b o kind aw sv it) (by simp[DS,cG]) X.tE⟩
 have key:aQ P (Fl.of y) [0,2,3,4,5,47] (DS P n b o kind aw sv it) un=some (Gs P n b o kind aw sv (it+1:Nat)):=by
  have:it=0\/it=1\/it=2\/it=3:=by omega
  rcases this with rfl|rfl|rfl|rfl
  . exact C.ES ..
  . exact C.ET ..
  . exact C.TB ..
  . exact C.TC ..
 obtain⟨_,c,h,i⟩:=nxt (P:=P) (n:=n) (b:=b) (o:=o) (kind:=kind) (Wd:=Wd) (cs:=cs) (x:=.tuple #[]) (p:=.rd ⟨aw,sv,it+1⟩) key g e d rfl (.inr (.inl rfl));exact⟨c,a.zx.trans h,i⟩
include C X in
def Ow{old l}(t:ShM b o w s)(J:Mu.loc (.sq old l))(h:nJ P n b o kind (.sq old l) cs g):lF P n b o kind Wd cs g w main (.sq old l) s:=by
 obtain⟨c,y,fr,frs,⟨rfl,k,B,D⟩,q,m,d,rfl⟩:=h;obtain⟨L,K,S,N⟩:=old;obtain⟨aw,sv,it⟩:=l;simp only at k B D m d;subst B;subst D;obtain⟨E,F,M,_,_⟩:=J;simp only at E F M
 have u:(aw && !K)=false:=by
  cases aw with
  |false=>rfl
  |true=>simp[E rfl]
 obtain⟨r,j,v,O,G⟩:=HN (P:=P) (main:=main) (cs:=frs++cs) (w:=w) m (C.o7 b o kind K aw sv it) (by simp[SQ,cG]) X.HO
 have a:j.heap=w.heap:=by rcases G with rfl|rfl<;>rfl
 have e:l8 w.os j.os/\j.output=w.output:=by rcases G with rfl|rfl<;>exact⟨.refl _,rfl⟩
 cases r with
 |false=>refine⟨_,j,#[],.km ⟨true,K,false,N⟩ ⟨aw,sv,it⟩,s,.km _ _,v,by simp[Mu.mv,Mu.hd],.km _ _,nxt (C.cY (Fl.of y) b o kind K aw sv it u) q m d rfl ⟨rfl,k⟩,bh a e,t.heap a,fI,λ_=>rfl⟩
 | true=>
   have f:it<4:=by have:=O rfl;omega
   by_cases z:(!aw && !K && decide (N≠0))=true
   . simp only[zj,abn,ZL]at z
     obtain⟨⟨rfl,rfl⟩,p⟩:=z;have:sv=false:=by cases sv with|false=>rfl|true=>exact absurd (F rfl) (by simp)
     subst this;have key:=C.cd (Fl.of y) b o kind it;rw[GF (by rw[k];simpa using p)]at key
     exact⟨_,j,#[],.sw ⟨true,false,false,N⟩ ⟨false,false,it⟩,s,.sw _ _,v,by simp[Mu.mv,Mu.hd,f,p],.sw _ _,nxt key q m d rfl ⟨rfl,k,rfl,rfl,rfl,rfl,rfl⟩,bh a e,t.heap a,fI,λ_=>rfl⟩
   . have i:(!aw && !K && decide (N≠0))=false:=by simpa using z
     have A:(!aw && !K && !decide (y.N=0))=false:=by
      rw[k]
      by_cases H:N=0
      . simp[H]
      . simp[H]at i ⊢;exact i
     have key:=C.TA (Fl.of y) b o kind (decide (y.N=0)) K aw sv it A;rw[GF rfl]at key;obtain⟨Q,I,R,T,U⟩:=P7 (Wd:=Wd) (x:=.bool true) key q m d rfl;obtain⟨V,W,Y⟩:=Be C X (Wd:=Wd) (cs:=cs) f q R T;refine⟨_,j,#[],.rd ⟨aw,sv,it+1⟩,s,.rd _,v,?_,.rd _,⟨rfl,V,(U cs).trans W,Y⟩,bh a e,t.heap a,fI,λ_=>rfl⟩
     simp only[Mu.mv,Mu.hd,f,i];simp
include C X in
def Ox{old l}(f:ShM b o w s)(V:Mu.loc (.sw old l))(h:nJ P n b o kind (.sw old l) cs g):lF P n b o kind Wd cs g w main (.sw old l) s:=by
 obtain⟨c,y,fr,frs,⟨rfl,E,F,G,H,I,J⟩,m,i,d,rfl⟩:=h;obtain⟨L,K,S,N⟩:=old;obtain⟨aw,sv,it⟩:=l;simp only at E F G H I J i d;subst F;subst G;subst H;subst I;subst J;have j:it<4:=V.2.2.2.2.2;have M:(SW P n b o kind it).1.kind≠.early:=by simp[SW,cG]
 have a:∀q:Bool,∀x,SR y (.word true q false 0) x->x=.int .i32 (enc true q false N):=λq x W=>by have:=W.1;rw[E,abP]at this;exact this
 by_cases p:s.w=⟨true,false,false,N⟩
 . have O:=f.cw
   rw[p]at O;obtain⟨r,k,t,u,v⟩:=P7 (Wd:=Wd) (x:=.bool true) (C.eZ (Fl.of y) b o kind true it) m i d rfl;obtain⟨z,A,B⟩:=Be C X (Wd:=Wd) (cs:=cs) j m t u;refine⟨_,_,_,.rd ⟨true,false,it+1⟩,{s with w:=⟨true,true,false,N⟩},.rd _,ia i (C.o8 b o kind it) M X.km (a false) (a true) O (f.fz o),by simp[Mu.mv,p],.rd _,⟨rfl,z,(v cs).trans A,B⟩,vr rfl,f.aU ⟨true,true,false,N⟩,ku (.inl rfl),λ_=>rfl⟩
 . have D:¬enc s.w.L s.w.K s.w.S s.w.N=enc true false false N:=λe=>p (by
    obtain⟨Q,R,T,U⟩:=GC.1 e;obtain⟨⟨L,K,S,Y⟩,ms⟩:=s;simp only at Q R T U;subst Q;subst R;subst T;subst U;rfl)
   obtain⟨r,k,t,u,v⟩:=P7 (Wd:=Wd) (x:=.bool false) (C.eZ (Fl.of y) b o kind false it) m i d rfl;obtain⟨z,A,B⟩:=Be C X (Wd:=Wd) (cs:=cs) j m t u;exact⟨_,_,_,.rd ⟨false,false,it+1⟩,s,.rd _,iB i (C.o8 b o kind it) M X.km (a false) (a true) f.cw (f.fz o) D,by simp[Mu.mv,p],.rd _,⟨rfl,z,(v cs).trans A,B⟩,bh rfl,f,Gx (.inl rfl),λ_=>rfl⟩
end
section
variable{P:acH}{n:CB}(C:gy P n)(X:gz P n){b o:Nat}{kind:acD}{Wd:ack}{cs:acr}{g:acx}{w:World}{main:Bool}{s:Mu.Sh}
def Qa{a c:Mu.Wd}:a=c↔enc a.L a.K a.S a.N=enc c.L c.K c.S c.N:=by obtain⟨L,K,S,N⟩:=a;obtain⟨b,d,e,f⟩:=c;rw[GC];simp
include C X in
def KH{old l}(f:ShM b o w s)(E:Mu.loc (.km old l))(h:nJ P n b o kind (.km old l) cs g):lF P n b o kind Wd cs g w main (.km old l) s:=by
 obtain⟨c,y,fr,frs,⟨rfl,u⟩,t,j,a,rfl⟩:=h;obtain⟨L,K,S,N⟩:=old;obtain⟨aw,sv,it⟩:=l;simp only at u j a
 have k:(aw && !K)=false:=by
  cases aw with
  |false=>rfl
  |true=>have:=E.1 rfl;simp at this;simp[this]
 have A:(CD P n b o kind L K S aw sv it).1.kind≠.early:=by simp[CD,cG]
 have hold:∀x,SR y (.word L K S 0) x->x=.int .i32 (enc L K S N):=λx v=>by have:=v.1;rw[u,abP]at this;exact this
 have i:∀x,SR y (Oo L K S aw sv) x->x=.int .i32 (enc (Mu.pr ⟨L,K,S,N⟩ ⟨aw,sv,it⟩).L (Mu.pr ⟨L,K,S,N⟩ ⟨aw,sv,it⟩).K (Mu.pr ⟨L,K,S,N⟩ ⟨aw,sv,it⟩).S (Mu.pr ⟨L,K,S,N⟩ ⟨aw,sv,it⟩).N):=λx v=>by have:=v.1;rw[u]at this;rw[this];simp only[Mu.pr];congr 2;split<;>simp
 by_cases p:s.w=⟨L,K,S,N⟩
 . have B:=f.cw
   rw[p]at B;have m:=ia (main:=main) (cs:=frs++cs) j (C.VM b o kind L K S aw sv it) A X.km hold i B (f.fz o)
   by_cases d:(L||S)=true
   . have q:((.gL sv:Mu.Pc),({s with w:=Mu.pr ⟨L,K,S,N⟩ ⟨aw,sv,it⟩}:Mu.Sh))∈Mu.mv (.km ⟨L,K,S,N⟩ ⟨aw,sv,it⟩) s:=by
      simp only[Mu.mv,k,LK,Rp,p,ZR,d,lb]
     by_cases r:y.ws=0
     . have key:=C.TD (Fl.of y) b o kind L K S aw sv it d
       rw[P8 (by simpa using r)]at key
       exact⟨_,_,_,_,_,.t1 sv,m,q,.t1 _,nxt key t j a rfl rfl,vr rfl,f.aU _,ku (.inl rfl),λ_=>rfl⟩
     . have key:=C.TE (Fl.of y) b o kind L K S aw sv it d
       rw[P8 (by simpa using r)]at key
       exact⟨_,_,_,_,_,.gL sv,m,q,.gL _,nxt key t j a rfl rfl,vr rfl,f.aU _,ku (.inl rfl),λ_=>rfl⟩
   . have D:(L||S)=false:=by simpa using d
     have F:L=false:=by cases L<;>simp_all
     have G:S=false:=by cases S<;>simp_all
     subst F;subst G;refine⟨_,_,_,.held,{s with w:=Mu.pr ⟨false,K,false,N⟩ ⟨aw,sv,it⟩},.le,m,?_,.held,nxt (C.JK (Fl.of y) b o kind K aw sv it) t j a rfl (.inr rfl),vr rfl,f.aU _,ku (.inl rfl),λ_=>rfl⟩
     simp only[Mu.mv,k,LK,Rp,p,ZR,Bool.or_self,lb]
 . have z:¬enc s.w.L s.w.K s.w.S s.w.N=enc L K S N:=λe=>p (Qa.2 e)
   refine⟨_,_,_,.rd ⟨aw,sv,it⟩,s,.rd _,iB j (C.VM b o kind L K S aw sv it) A X.km hold i f.cw (f.fz o) z,?_,.rd _,nxt (C.Ba (Fl.of y) b o kind L K S aw sv it) t j a rfl (.inr (.inr rfl)),bh rfl,f,Gx (.inl rfl),λ_=>rfl⟩
   simp only[Mu.mv,k,LK,Rp,p,lb]
include C X in
def HR{sv}(f:ShM b o w s)(j:s.ms≠0)(h:nJ P n b o kind (.gL sv) cs g):lF P n b o kind Wd cs g w main (.gL sv) s:=by
 obtain⟨c,y,fr,frs,rfl,k,i,d,rfl⟩:=h;have a:=sf (main:=main) (cs:=frs++cs) (w:=w) (n:=(s.ms:Int)) i (C.VN b o kind sv) (by simp[PK,cG]) X.EP f.cs (by omega) (f.fz _);have e:((s.ms:Int)-1)=((s.ms-1:Nat):Int):=by omega
 rw[e]at a;cases sv with
 |true=>exact⟨_,_,_,.up true,{s with ms:=s.ms-1},.up true,a,by simp[Mu.mv,j],.up _,nxt (C.TF (Fl.of y) b o kind) k i d rfl rfl,Ou rfl,f.EU _,vG,λ_=>rfl⟩
 |false=>exact⟨_,_,_,.tq,{s with ms:=s.ms-1},.tq,a,by simp[Mu.mv,j],.tq,nxt (C.TG (Fl.of y) b o kind) k i d rfl rfl,Ou rfl,f.EU _,vG,λ_=>rfl⟩
include C X in
def CH{sv}(d:ShM b o w s)(e:s.ms=0)(h:nJ P n b o kind (.gL sv) cs g):stepG P main g w=.go {g with status:=.blocked} w #[]:=by obtain⟨c,y,fr,frs,rfl,j,f,i,rfl⟩:=h;have a:=d.cs;rw[e]at a;exact zE f (C.VN b o kind sv) X.EP a
include C X in
def Oy(j:ShM b o w s)(h:nJ P n b o kind .tq cs g):lF P n b o kind Wd cs g w main .tq s:=by
 obtain⟨c,y,fr,frs,rfl,k,i,d,rfl⟩:=h;have e:=zF (P:=P) (main:=main) (cs:=frs++cs) (w:=w) i (C.Xf b o kind) (by simp[TQ,cG]) X.nano X.Ky;have f:=i.re (y':={y with tn:=((w.os.mono+w.tick:Nat):Int)}) (.inl rfl) (.inl rfl) (.inl rfl) (.inr rfl);have a:=d.gQ (y':={y with tn:=((w.os.mono+w.tick:Nat):Int)}) (by simpa[TQ,cG]using C.p2 b o kind);have key:=C.th (Fl.of {y with tn:=((w.os.mono+w.tick:Nat):Int)}) b o kind (decide (IntKind.i64.wrap (((w.os.mono+w.tick:Nat):Int)-y.ws)>1000000));rw[TL rfl]at key;refine⟨_,_,_,.up (decide (IntKind.i64.wrap (((w.os.mono+w.tick:Nat):Int)-y.ws)>1000000)),s,.up _,e,?_,.up _,nxt (y:={y with tn:=((w.os.mono+w.tick:Nat):Int)}) key k f a rfl rfl,bh rfl ⟨⟨w.tick,rfl⟩,rfl⟩,j.heap rfl,fI,λ_=>rfl⟩;cases decide (IntKind.i64.wrap (((w.os.mono+w.tick:Nat):Int)-y.ws)>1000000)<;>simp[Mu.mv]
include C X in
def Oz{sv}(m:ShM b o w s)(hb:s.w.N<=1000)(v:∀q s',(q,s')∈Mu.mv (.up sv) s->Mu.loc q)(h:nJ P n b o kind (.up sv) cs g):lF P n b o kind Wd cs g w main (.up sv) s:=by
 obtain⟨c,y,fr,frs,rfl,A,x,p,rfl⟩:=h;have f:({y with N:=(s.w.N:Int)}:Sy).ok:=⟨⟨by simp,by show(s.w.N:Int)<=1000;omega⟩,A.2⟩
 have i:=x.re (y':={y with N:=(s.w.N:Int)}) (.inr rfl) (.inl rfl) (.inl rfl) (.inl rfl)
 have e:=p.gQ (y':={y with N:=(s.w.N:Int)}) (by simpa[UP,cG]using C.p2 b o kind)
 have j:=qf (main:=main) (cs:=frs++cs) x (C.Xg b o kind sv) X.TH X.nS m.cw
 by_cases k:s.w.S=true
 . have r:(s.w.L||s.w.K||decide (s.w.N=0))=false:=by
    cases B:(s.w.L||s.w.K||decide (s.w.N=0))with
    |false=>rfl
    |true=>exact(v .bad s (by simp[Mu.mv,k,B])).elim
   have a:((.add s.w sv:Mu.Pc),s)∈Mu.mv (.up sv) s:=by simp[Mu.mv,k,r]
   simp only[aby,aam]at r;obtain⟨⟨D,E⟩,t⟩:=r;have key:=C.Oq (Fl.of {y with N:=(s.w.N:Int)}) b o kind sv (decide (s.w.N=1))
   rw[QY (by show decide ((s.w.N:Int)=0)=false;simpa using t) (by show decide ((s.w.N:Int)=1)=decide (s.w.N=1);rw[abR,abj,abj];omega)]at key
   have u:SR {y with N:=(s.w.N:Int)} (.word false false true 0) (.int .i32 (enc s.w.L s.w.K s.w.S s.w.N)):=by rw[D,E,k];exact qh rfl
   exact⟨_,w,#[],_,s,.add s.w sv,j,a,.add _ _,nxt (y:={y with N:=(s.w.N:Int)}) key f i e u rfl,bh rfl,m,fI,λ_=>rfl⟩
 . have d:s.w.S=false:=by simpa using k
   have a:(Mu.nx s.w ⟨true,sv,0⟩,s)∈Mu.mv (.up sv) s:=by simp[Mu.mv,d]
   have u:SR {y with N:=(s.w.N:Int)} (.word s.w.L s.w.K false 0) (.int .i32 (enc s.w.L s.w.K s.w.S s.w.N)):=by rw[d];exact qh rfl
   obtain⟨F,z,G,H,I⟩:=TJ (Wd:=Wd) (C.yO (Fl.of {y with N:=(s.w.N:Int)}) b o kind s.w.L s.w.K sv) f i e u
   obtain⟨J,M,O⟩:=GG C (Wd:=Wd) (cs:=cs) (old:=s.w) (l:=⟨true,sv,0⟩) f rfl (by rw[d];exact G) (by rw[d];exact H) (v _ _ a)
   exact⟨_,w,#[],_,s,Sq s.w ⟨true,sv,0⟩,j,a,P9 _ _,⟨rfl,J,(I cs).trans M,O⟩,bh rfl,m,fI,λ_=>rfl⟩
include C X in
def KI{old sv}(d:ShM b o w s)(hb:s.w.N<=1000)(j:s.w.L=false)(k:s.w.S=true)(q:s.w.N≠0)(h:nJ P n b o kind (.add old sv) cs g):lF P n b o kind Wd cs g w main (.add old sv) s:=by
 obtain⟨c,y,fr,frs,rfl,l,i,f,rfl⟩:=h;have a:=pw (main:=main) (cs:=frs++cs) (w:=w) i (C.Xh b o kind _) (by simp[AD,cG]) X.add (λx h=>h) d.cw (d.fz _)
 have e:IntKind.i32.wrap (enc s.w.L s.w.K s.w.S s.w.N+(if !sv||decide (old.N=1)then -11 else -7))=enc true s.w.K (s.w.S && !(!sv||decide (old.N=1))) (s.w.N-1:Nat):=by
  rw[j,k];have m:((s.w.N-1:Nat):Int)=(s.w.N:Int)-1:=by omega
  rw[m];generalize (!sv||decide (old.N=1))=x;have p:=lD (L:=false) (K:=s.w.K) (S:=true) (N:=(s.w.N:Int));rw[iW (by split<;>omega) (by split<;>omega)];unfold enc;cases x<;>cases s.w.K<;>simp[Bool.toNat]<;>omega
 rw[e]at a;exact⟨_,_,_,.held,{s with w:={s.w with L:=true,S:=s.w.S && !(!sv||decide (old.N=1)),N:=s.w.N-1}},.le,a,by simp[Mu.mv],.held,nxt (C.vE (Fl.of y) b o kind _) l i f trivial (.inr rfl),vr rfl,d.aU {s.w with L:=true,S:=s.w.S && !(!sv||decide (old.N=1)),N:=s.w.N-1},ku (.inl rfl),λ_=>rfl⟩
include C X in
def HS(t:ShM b o w s)(hb:s.w.N<=1000)(q:s.w.L=true)(h:nJ P n b o kind .held cs g):lF P n b o kind Wd cs g w main .held s:=by
 obtain⟨c,y,fr,frs,rfl,A,z,u,rfl⟩:=h;have k:({y with N:=(s.w.N:Int)}:Sy).ok:=⟨⟨by simp,by show(s.w.N:Int)<=1000;omega⟩,A.2⟩
 have l:=z.re (y':={y with N:=(s.w.N:Int)}) (.inr rfl) (.inl rfl) (.inl rfl) (.inl rfl)
 have d:=u.gQ (y':={y with N:=(s.w.N:Int)}) (by simpa[rp,oJ]using(C.p3 b o kind).1)
 have i:=pw (main:=main) (cs:=frs++cs) (w:=w) z (C.VP b o kind) (by simp[rp,oJ]) X.add (λx h=>h) t.cw (t.fz _)
 have e:IntKind.i32.wrap (enc s.w.L s.w.K s.w.S s.w.N+-1)=enc false s.w.K s.w.S s.w.N:=by
  rw[q];have B:=lD (L:=true) (K:=s.w.K) (S:=s.w.S) (N:=(s.w.N:Int));rw[iW (by omega) (by omega)]
  unfold enc;simp[Bool.toNat];omega
 rw[e]at i;have m:=t.aU {s.w with L:=false}
 have p:SR {y with N:=(s.w.N:Int)} (.word false s.w.K s.w.S 0) (.int .i32 (enc false s.w.K s.w.S s.w.N)):=qh rfl
 by_cases r:s.w.S=true
 . have key:=C.W2 (Fl.of {y with N:=(s.w.N:Int)}) b o kind (decide ((s.w.N:Int)=0)) s.w.K
   rw[r]at p;exact⟨_,_,_,.give,{s with w:={s.w with L:=false}},.give,i,by simp[Mu.mv,q,r,Mu.Wd.zero],.give,nxt (y:={y with N:=(s.w.N:Int)}) key k l d (by rw[r];exact p) (.inr rfl),vr rfl,m,ku (.inl rfl),λ_=>rfl⟩
 . have f:s.w.S=false:=by simpa using r
   by_cases v:(decide ((s.w.N:Int)=0)||s.w.K)=true
   . have key:=C.u5 (Fl.of {y with N:=(s.w.N:Int)}) b o kind (decide ((s.w.N:Int)=0)) s.w.K v
     refine⟨_,_,_,.out,{s with w:={s.w with L:=false}},.ue,i,?_,.out,nxt (y:={y with N:=(s.w.N:Int)}) key k l d (by rw[f]at p ⊢;exact p) rfl,vr rfl,m,ku (.inl rfl),λ_=>rfl⟩
     have a:(decide (s.w.N=0)||s.w.K)=true:=by simpa using v
     simp only[Mu.mv,q,abg,Rp,lb,zH,and_true];split
     . rfl
     . simp only
   . have a:(decide ((s.w.N:Int)=0)||s.w.K)=false:=by simpa using v
     simp only[aby,aam]at a;have j:s.w.N≠0:=by have:=a.1;omega
     have key:=C.W6 (Fl.of {y with N:=(s.w.N:Int)}) b o kind
     rw[GF (by show decide ((s.w.N:Int)=0)=false;simpa using j)]at key
     rw[a.2,f]at p;refine⟨_,_,_,.jc {s.w with L:=false},{s with w:={s.w with L:=false}},.jc _,i,?_,.jc _,nxt (y:={y with N:=(s.w.N:Int)}) key k l d (by rw[a.2,f];exact p) ⟨rfl,rfl,rfl,a.2,f,j⟩,vr rfl,m,ku (.inl rfl),λ_=>rfl⟩
     have D:({s.w with L:=false}:Mu.Wd)≠Mu.Wd.zero:=λe=>j (by have:=congrArg Mu.Wd.N e;exact this)
     simp[Mu.mv,q,f,j,a.2,Mu.Wd.zero]
include C X in
def HT{old}(d:ShM b o w s)(h:nJ P n b o kind (.jc old) cs g):lF P n b o kind Wd cs g w main (.jc old) s:=by
 obtain⟨c,y,fr,frs,⟨rfl,k,q,r,t,l⟩,u,i,f,rfl⟩:=h;obtain⟨L,K,S,N⟩:=old;simp only at k q r t l;subst q;subst r;subst t;have v:(UC P n b o kind).1.kind≠.early:=by simp[UC,uP]
 have hold:∀x,SR y wf x->x=.int .i32 (enc false false false N):=λx m=>by have:=m.1;rw[k,abP]at this;exact this
 have a:∀x,SR y (.word false true false (-1)) x->x=.int .i32 (enc false true false (N-1:Nat)):=λx m=>by have:=m.1;rw[k]at this;rw[this];congr 2;omega
 by_cases j:s.w=⟨false,false,false,N⟩
 . have z:=d.cw
   rw[j]at z;exact⟨_,_,_,.give,{s with w:=⟨false,true,false,N-1⟩},.give,ia i (C.VQ b o kind) v X.km hold a z (d.fz o),by simp[Mu.mv,j],.give,nxt (C.W7 (Fl.of y) b o kind) u i f rfl (.inl rfl),vr rfl,d.aU ⟨false,true,false,N-1⟩,ku (.inl rfl),λ_=>rfl⟩
 . have p:¬enc s.w.L s.w.K s.w.S s.w.N=enc false false false N:=λe=>j (Qa.2 e)
   exact⟨_,_,_,.vp,s,.vp,iB i (C.VQ b o kind) v X.km hold a d.cw (d.fz o) p,by simp[Mu.mv,j],.vp,nxt (C.W8 (Fl.of y) b o kind) u i f rfl rfl,bh rfl,d,Gx (.inl rfl),λ_=>rfl⟩
include C X in
def KJ(k:ShM b o w s)(hb:s.w.N<=1000)(h:nJ P n b o kind .vp cs g):lF P n b o kind Wd cs g w main .vp s:=by
 obtain⟨c,y,fr,frs,rfl,x,v,l,rfl⟩:=h;have e:({y with N:=(s.w.N:Int)}:Sy).ok:=⟨⟨by simp,by show(s.w.N:Int)<=1000;omega⟩,x.2⟩
 have f:=v.re (y':={y with N:=(s.w.N:Int)}) (.inr rfl) (.inl rfl) (.inl rfl) (.inl rfl)
 have d:=l.gQ (y':={y with N:=(s.w.N:Int)}) (by simpa[NZ,uP]using C.p4 b o kind)
 have i:=qf (main:=main) (cs:=frs++cs) v (C.Xo b o kind) X.TH X.nV k.cw;have m:SR {y with N:=(s.w.N:Int)} (.word s.w.L s.w.K s.w.S 0) (.int .i32 (enc s.w.L s.w.K s.w.S s.w.N)):=qh rfl
 by_cases p:(decide ((s.w.N:Int)=0)||s.w.L||s.w.K||s.w.S)=true
 . have key:=C.u7 (Fl.of {y with N:=(s.w.N:Int)}) b o kind (decide ((s.w.N:Int)=0)) s.w.L s.w.K s.w.S p
   have a:(decide (s.w.N=0)||s.w.L||s.w.K||s.w.S)=true:=by simpa using p
   exact⟨_,w,#[],.out,s,.ue,i,by simp only[Mu.mv,a,ZR,lb],.out,nxt (y:={y with N:=(s.w.N:Int)}) key e f d m rfl,bh rfl,k,fI,λ_=>rfl⟩
 . have a:(decide ((s.w.N:Int)=0)||s.w.L||s.w.K||s.w.S)=false:=by simpa using p
   have q:(decide (s.w.N=0)||s.w.L||s.w.K||s.w.S)=false:=by rw[<-a];simp
   simp only[aby,aam]at a;obtain⟨⟨⟨z,r⟩,t⟩,u⟩:=a;have j:s.w.N≠0:=by omega
   have key:=C.W9 (Fl.of {y with N:=(s.w.N:Int)}) b o kind
   rw[GF (by show decide ((s.w.N:Int)=0)=false;simpa using j)]at key
   rw[r,t,u]at m;exact⟨_,w,#[],.jc s.w,s,.jc _,i,by simp only[Mu.mv,q,LK,Rp,lb],.jc _,nxt (y:={y with N:=(s.w.N:Int)}) key e f d (by rw[r,t,u];exact m) ⟨rfl,rfl,r,t,u,j⟩,bh rfl,k,fI,λ_=>rfl⟩
include C X in
def HU(d:ShM b o w s)(l:s.ms<=1000)(h:nJ P n b o kind .give cs g):lF P n b o kind Wd cs g w main .give s:=by
 obtain⟨c,y,fr,frs,k,j,i,f,rfl⟩:=h;have e:IntKind.u32.wrap ((s.ms:Int)+1)=((s.ms+1:Nat):Int):=by rw[IntKind.wrap_u32];omega
 rcases k with rfl|rfl
 . have a:=nW (main:=main) (cs:=frs++cs) (w:=w) i (C.VR b o kind) (by simp[G7,uP]) X.nX d.cs (d.fz _)
   rw[e]at a;exact⟨_,_,_,.out,{s with ms:=s.ms+1},.ue,a,by simp[Mu.mv],.out,nxt (C.u8 (Fl.of y) b o kind) j i f rfl rfl,Ou rfl,d.EU _,vG,λ_=>rfl⟩
 . have a:=nW (main:=main) (cs:=frs++cs) (w:=w) i (C.VS b o kind) (by simp[G9,uP]) X.nX d.cs (d.fz _)
   rw[e]at a;exact⟨_,_,_,.out,{s with ms:=s.ms+1},.ue,a,by simp[Mu.mv],.out,nxt (C.u9 (Fl.of y) b o kind) j i f rfl rfl,Ou rfl,d.EU _,vG,λ_=>rfl⟩
end
