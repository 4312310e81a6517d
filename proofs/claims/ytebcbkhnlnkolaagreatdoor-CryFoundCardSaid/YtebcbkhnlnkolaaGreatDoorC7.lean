import Derived.Conc.ClockLaws
import Derived.Conc.MarkLaws
import Derived.Conc.AtomicLaws2
import Derived.Conc.SmallLaws
import Derived.Laws.LoneSync
import Derived.Test.YtebcbkhnlnkolaaGreatDoorC6
set_option linter.all false
namespace Go.bU
open Go.Conc
abbrev ady:=List (Nat × SV)
def bj(s:qx):Option (FuncId × List SV):=
 match s.mode,s.todo with
 | .run, .inRegion ops (i::_)::_=>match ops[i]? with
   | some o=>match Bc ops s.env o with
     | some true=>match o.op with
       | .call c=>match c.callee with
         |.value (.func f)=>some (f,c.args.toList.map (sv s.env))
         |_=>none
       |_=>none
     |_=>none
   |none=>none
 |_,_=>none
def sc(s:qx):Option (TypeId × SV):=
 match s.mode,s.todo with
 | .run,.inRegion ops (i::_)::_=>match ops[i]? with
   | some o=>match Bc ops s.env o with
     | some true=>match o.op with
       |.load t x=>some (t,sv s.env x)
       |_=>none
     |_=>none
   |none=>none
 |_,_=>none
structure Ext(P:adY)(f:FuncId)  e :Prop where
 ex:∃fn,P.funcs[f]?=some fn/\(fn.name==  "runtime.NumGoroutine")=false/\fn.body.isNone=true/\Extern.findNext fn=none/\Extern.find fn=some e
def dF {y s fr f svs} (j:FR y s fr) (h:bj s=some (f,svs)) :
 ∃ ops i rest kk o as a,ops[i]? = some o∧Region.wanted o (yielded ops fr.tmps)=true∧o.op = .call { callee:=.value (.func f),args:=as,argTypes:=a }∧svs=as.toList.map (sv s.env) ∧
   fr=(fr.at ⟨fr.tmps,fr.defers⟩ (.inRegion ops (i :: rest) :: kk))∧∀ v,fr.at ((⟨fr.tmps,fr.defers⟩:Act).put o.dst v) (.inRegion ops rest :: kk)=fr.finish v:=by
 have d:=j;obtain⟨fn,tmps,todo,defs,mode,kind,ro⟩:=fr;obtain⟨n,e,p,b,q,k,r,t⟩:=j;simp only at n e p b q k r t;subst k;unfold bj at h;split at h
 . rename_i ops i rest kk u w
   rw[u] at b;rw[w] at e;have b:mode = .run:=b;subst b;subst e;split at h
   . rename_i o l
     split at h
     . rename_i x
       split at h
       . rename_i c z
         split at h
         . rename_i g m
           simp only[kn,zU] at h;obtain⟨rfl,rfl⟩:=h;obtain⟨callee,args,a⟩:=c;simp only at m;subst m;refine⟨ops,i,rest,kk,o,args,a,l,qP d x,z,rfl,rfl,fun v=>?_⟩
           simp only[Frame.finish,l,Option.bind_some,Act.put,Frame.at]
           grind
         . cases h
       . cases h
     . cases h
   . cases h
 . cases h
section
variable{P:adY}{main:Bool}{y:Sy}{s:qx}{fr:Frame}{f:FuncId}{svs:List SV}{cs:adK}{w:World}
def Et{fr:Frame}  x :(⟨fr.tmps,fr.defers⟩:Act).eval x=fr.eval x:=by cases x<;>rfl
def CO {as:Array adZ} (b:FR y s fr) {svs} (h:svs=as.toList.map (sv s.env)):∀ (j:Nat)  v ,svs[j]? = some v->∃ x,(as.map (⟨fr.tmps,fr.defers⟩:Act).eval)[j]? = some x∧SR y v x:=fun j v a=>by
 subst h;rw[abx,adp] at a;obtain⟨x,c,rfl⟩:=abi.1 a;exact⟨fr.eval x,by simp[c,Et],b.sv x⟩
def fJ {m} (d:∀ g,m ≠ .extern g) (c:FR y s fr) (h:bj s=some (f,svs)) (e:s.kind ≠ .early) (j:Ext P f (fun _=>do mark m;pure Extern.Race.none_)):stepG P main (G fr cs) w = .go (G (fr.finish (.tuple #[])) cs) w #[⟨.mark m,false,true⟩]:=by
 obtain⟨ops,i,rest,kk,o,as,k,l,n,p,x,z,A⟩:=dF c h;obtain⟨fn,q,r,t,u,v⟩:=j.ex;have:=stepG_mark0 (P:=P) (main:=main) (b:=fr) (a:=⟨fr.tmps,fr.defers⟩) (kk:=kk) (cs:=cs) (w:=w) (rest:=rest) m d l n (by rw[c.kind];exact e) p q r t u v
 grind
def gi {mk} (j:∀ ad g,mk ad ≠ .extern g) {ad} (d:FR y s fr) (h:bj s=some (f,[.lit (.pointer (some ad))])) (k:s.kind ≠ .early) (l:Ext P f (Extern.Race.marked mk)):stepG P main (G fr cs) w = .go (G (fr.finish (.tuple #[])) cs) w #[⟨.mark (mk ad),false,true⟩]:=by
 obtain⟨ops,i,rest,kk,o,as,m,n,p,q,r,B,C⟩:=dF d h;obtain⟨fn,t,u,v,z,A⟩:=l.ex;obtain⟨x,e,c⟩:=CO d r 0 _ rfl;have c:x = .pointer (some ad):=c;rw[c] at e;have:=stepG_markAt (P:=P) (main:=main) (b:=fr) (a:=⟨fr.tmps,fr.defers⟩) (kk:=kk) (cs:=cs) (w:=w) (rest:=rest) mk j n p (by rw[d.kind];exact k) q t u v z A e
 grind
def Eu {as a b c} (h:[a,b,c]=as.toList.map (sv s.env)):∃ x z u,as=#[x,z,u]∧sv s.env x=a∧sv s.env z=b∧sv s.env u=c:=by
 obtain⟨l⟩:=as
 match l,h with
 | [x,z,u],h=>grind
def Mn {as a b} (h:[a,b]=as.toList.map (sv s.env)):∃ x z,as=#[x,z]∧sv s.env x=a∧sv s.env z=b:=by
 obtain⟨l⟩:=as
 match l,h with
 | [x,z],h=>grind
def Mp {as a} (h:[a]=as.toList.map (sv s.env)):∃ x,as=#[x]∧sv s.env x=a:=by
 obtain⟨l⟩:=as
 match l,h with
 | [x],h=>grind
def js(b:FR y s fr){x a}(h:sv s.env x=a):SR y a ((⟨fr.tmps,fr.defers⟩:Act).eval x):=by subst h;rw[Et];exact b.sv x
def iN {k ad a b v n} (c:FR y s fr) (h:bj s=some (f,[.lit (.pointer (some ad)),a,b])) (e:s.kind ≠ .early) (g:Ext P f (Extern.Atomic.casT (.int k)))
 (j:∀ x,SR y a x->x = .int k v) (hb:∀ x,SR y b x->x = .int k n) (l:w.cell? ad=some (.int k v)) (m:w.frozen? ad=false) :
 stepG P main (G fr cs) w = .go (G (fr.finish (.bool true)) cs) (w.setCell ad (.int k n)) #[⟨.cell ad,false,true⟩,⟨.cell ad,true,true⟩]:=by
 obtain⟨ops,i,rest,kk,o,as,p,q,r,t,A,J,K⟩:=dF c h;obtain⟨fn,B,C,D,E,F⟩:=g.ex;obtain⟨x,z,u,rfl,H,d,I⟩:=Eu A;have:=stepG_cas_hit (P:=P) (main:=main) (b:=fr) (a:=⟨fr.tmps,fr.defers⟩) (kk:=kk) (cs:=cs) (w:=w) (rest:=rest) q r (by rw[c.kind];exact e) t B C D E k F (js c H) (j _ (js c d)) (hb _ (js c I)) l m
 grind
def jf {k ad a b v old n} (c:FR y s fr) (h:bj s=some (f,[.lit (.pointer (some ad)),a,b])) (g:s.kind ≠ .early) (j:Ext P f (Extern.Atomic.casT (.int k)))
 (l:∀ x,SR y a x->x = .int k old) (hb:∀ x,SR y b x->x = .int k n) (m:w.cell? ad=some (.int k v)) (p:w.frozen? ad=false) (d : ¬ v=old) :
 stepG P main (G fr cs) w = .go (G (fr.finish (.bool false)) cs) w #[⟨.cell ad,false,true⟩]:=by
 obtain⟨ops,i,rest,kk,o,as,q,r,t,A,B,K,L⟩:=dF c h;obtain⟨fn,C,D,E,F,H⟩:=j.ex;obtain⟨x,z,u,rfl,I,e,J⟩:=Eu B;have:=stepG_cas_miss (P:=P) (main:=main) (b:=fr) (a:=⟨fr.tmps,fr.defers⟩) (kk:=kk) (cs:=cs) (w:=w) (rest:=rest) r t (by rw[c.kind];exact g) A C D E F k H (js c I) (l _ (js c e)) (hb _ (js c J)) m p d
 grind
def qQ {k ad a v d} (c:FR y s fr) (h:bj s=some (f,[.lit (.pointer (some ad)),a])) (g:s.kind ≠ .early) (j:Ext P f (Extern.Atomic.update (Op.intArith .add) k true))
 (l:∀ x,SR y a x->x = .int k d) (m:w.cell? ad=some (.int k v)) (n:w.frozen? ad=false) :
 stepG P main (G fr cs) w = .go (G (fr.finish (.int k (k.wrap (v+d)))) cs) (w.setCell ad (.int k (k.wrap (v+d)))) #[⟨.cell ad,false,true⟩,⟨.cell ad,true,true⟩]:=by
 obtain⟨ops,i,rest,kk,o,as,p,q,r,t,u,H,I⟩:=dF c h;obtain⟨fn,A,B,C,D,E⟩:=j.ex;obtain⟨x,z,rfl,F,e⟩:=Mn u;have:=stepG_add_atomic (P:=P) (main:=main) (b:=fr) (a:=⟨fr.tmps,fr.defers⟩) (kk:=kk) (cs:=cs) (w:=w) (rest:=rest) q r (by rw[c.kind];exact g) t A B C D k E (js c F) (l _ (js c e)) m n
 grind
def ua {ad l n} (d:FR y s fr) (h:bj s=some (f,.lit (.pointer (some ad)) :: l)) (g:s.kind ≠ .early) (j:Ext P f Extern.Sync.semacquire) (k:w.cell? ad=some (.int .u32 n)) (m:n≠0) (p:w.frozen? ad=false) :
 stepG P main (G fr cs) w = .go (G (fr.finish (.tuple #[])) cs) (w.setCell ad (.int .u32 (n-1))) (semEvents ad):=by
 obtain⟨ops,i,rest,kk,o,as,q,r,t,u,v,E,F⟩:=dF d h;obtain⟨fn,z,A,B,C,D⟩:=j.ex;obtain⟨x,e,c⟩:=CO d v 0 _ rfl;have c:x = .pointer (some ad):=c;rw[c] at e;have:=stepG_semacquire (P:=P) (main:=main) (b:=fr) (a:=⟨fr.tmps,fr.defers⟩) (kk:=kk) (cs:=cs) (w:=w) (rest:=rest) r t (by rw[d.kind];exact g) u z A B C D e k m p
 grind
def Bi {ad l} (d:FR y s fr) (h:bj s=some (f,.lit (.pointer (some ad)) :: l)) (g:Ext P f Extern.Sync.semacquire) (j:w.cell? ad=some (.int .u32 0)) :
 stepG P main (G fr cs) w = .go { G fr cs with status:=.blocked } w #[]:=by
 obtain⟨ops,i,rest,kk,o,as,k,m,n,p,q,A,B⟩:=dF d h;obtain⟨fn,r,t,u,v,z⟩:=g.ex;obtain⟨x,e,c⟩:=CO d q 0 _ rfl;have c:x = .pointer (some ad):=c;rw[c] at e;have:=stepG_semacquire_wait (P:=P) (main:=main) (b:=fr) (a:=⟨fr.tmps,fr.defers⟩) (kk:=kk) (cs:=cs) (w:=w) (rest:=rest) m n p r t u v z e j
 grind
def pI {ad l n} (d:FR y s fr) (h:bj s=some (f,.lit (.pointer (some ad)) :: l)) (g:s.kind ≠ .early) (j:Ext P f Extern.Sync.semrelease) (k:w.cell? ad=some (.int .u32 n)) (m:w.frozen? ad=false) :
 stepG P main (G fr cs) w = .go (G (fr.finish (.tuple #[])) cs) (w.setCell ad (.int .u32 (IntKind.u32.wrap (n+1)))) (semEvents ad):=by
 obtain⟨ops,i,rest,kk,o,as,p,q,r,t,u,D,E⟩:=dF d h;obtain⟨fn,v,z,A,B,C⟩:=j.ex;obtain⟨x,e,c⟩:=CO d u 0 _ rfl;have c:x = .pointer (some ad):=c;rw[c] at e;have:=stepG_semrelease (P:=P) (main:=main) (b:=fr) (a:=⟨fr.tmps,fr.defers⟩) (kk:=kk) (cs:=cs) (w:=w) (rest:=rest) q r (by rw[d.kind];exact g) t v z A B C e k m
 grind
def Bj (d:FR y s fr) (h:bj s=some (f,svs)) (e:s.kind ≠ .early) (g:Ext P f Extern.OsHooks.nano) (j:∃ fn,P.funcs[f]? = some fn∧fn.norace=true) :
 stepG P main (G fr cs) w = .go (G (fr.finish (.int .i64 ((w.os.mono+w.tick:Nat):Int))) cs) w.later #[]:=by
 obtain⟨ops,i,rest,kk,o,as,k,l,m,n,x,z,A⟩:=dF d h;obtain⟨fn,p,q,r,t,u⟩:=g.ex;obtain⟨c,B,v⟩:=j;obtain rfl:c=fn:=by grind
 have:=stepG_nanotime (P:=P) (main:=main) (b:=fr) (a:=⟨fr.tmps,fr.defers⟩) (kk:=kk) (cs:=cs) (w:=w) (rest:=rest) l m (by rw[d.kind];exact e) n p q r t u v
 grind
def Jx {n} (d:FR y s fr) (h:bj s=some (f,[.lit (.int .i64 n)])) (g:s.kind ≠ .early) (v:Ext P f Extern.Sync.canSpin) :
 ∃ b w',stepG P main (G fr cs) w = .go (G (fr.finish (.bool b)) cs) w' #[]∧(b=true->n<4)∧(w'=w∨w'=w.asked):=by
 obtain⟨ops,i,rest,kk,o,as,z,j,l,m,e,B,C⟩:=dF d h;obtain⟨fn,p,q,r,t,u⟩:=v.ex;obtain⟨x,rfl,A⟩:=Mp e;have c:(⟨fr.tmps,fr.defers⟩:Act).eval x = .int .i64 n:=js d A
 by_cases e:n<4
 . have:=stepG_canSpin_ask (P:=P) (main:=main) (b:=fr) (a:=⟨fr.tmps,fr.defers⟩) (kk:=kk) (cs:=cs) (w:=w) (rest:=rest) j l (by rw[d.kind];exact g) m p q r t u (n:=n) (k:=.i64) (by simp[c]) e
   grind
 . have:=stepG_canSpin_no (P:=P) (main:=main) (b:=fr) (a:=⟨fr.tmps,fr.defers⟩) (kk:=kk) (cs:=cs) (w:=w) (rest:=rest) j l (by rw[d.kind];exact g) m p q r t u (n:=n) (k:=.i64) (by simp[c]) (by omega)
   grind
def vm {v} (c:FR y s fr) (h:bj s=some (f,svs)) (d:s.kind ≠ .early) (e:Ext P f (fun _=>pure v)):stepG P main (G fr cs) w = .go (G (fr.finish v) cs) w #[]:=by
 obtain⟨ops,i,rest,kk,o,as,g,j,k,l,t,u,x⟩:=dF c h;obtain⟨fn,m,n,p,q,r⟩:=e.ex;have:=stepG_entry (P:=P) (main:=main) (b:=fr) (a:=⟨fr.tmps,fr.defers⟩) (kk:=kk) (cs:=cs) (w:=w) (rest:=rest) (v:=v) (w':=w) (evs:=#[]) j k (by rw[c.kind];exact d) l m n p q r (by simp) (by simp) (by simp)
 grind
def Mq{α β P}{f:α->Sem β}  s :∀{a},nZ P s=some a->∀w es,(s.bind f).runT P w es=(f a).runT P w es:=by
 induction s with
 |pure b=>intro a h w es;simp only[nZ,kn]at h;subst h;rfl
 |program g c=>intro a h w es;simp only[nZ]at h;exact c P h w es
 |_=>intro a h;simp[nZ]at h
def rQ{t:Nat}{ad v}(q:FR y s fr)(h:sc s=some (t,.lit (.pointer (some ad))))(C:nZ P (isAgg t)=some false)(D:∃fn,P.funcs[s.fn]?=some fn/\fn.norace=true)(E:w.cell? ad=some v):
 stepG P main (G fr cs) w=.go (G (fr.finish v) cs) w #[]:=by
 have f:=q;obtain⟨fn,tmps,todo,defs,mode,kind,ro⟩:=fr;obtain⟨r,i,F,g,H,u,I,J⟩:=q;simp only at r i F g H u I J;subst u;unfold sc at h;split at h
 . rename_i ops z rest A K j
   rw[K]at g;rw[j]at i;have g:mode=.run:=g;subst g;subst i;split at h
   . rename_i o L
     split at h
     . rename_i M
       split at h
       . rename_i a x k
         simp only[kn,zU]at h;obtain⟨rfl,N⟩:=h;have d:=f.sv x;rw[N]at d;have d:Frame.eval ⟨fn,tmps,.inRegion ops (z::rest)::A,defs,.run,kind,none⟩ x=.pointer (some ad):=d;obtain⟨O,l,p⟩:=D;subst r;rw[oQ L (qP f M)];have hex:execOp (Frame.eval ⟨s.fn,tmps,.inRegion ops (z::rest)::A,defs,.run,kind,none⟩) o=Sem.bind (Instr.loadAt a (.pointer (some ad))) (λv=>pure (Next.value v)):=by simp only[execOp,k,d];rfl
         have e:(Sem.bind (Instr.loadAt a (.pointer (some ad))) (λv=>(pure (Next.value v):Sem Next))).runT P w #[]=(.ok (.value v) w,#[⟨.cell ad,false,false⟩]):=by
          have Q:Instr.loadAt a (.pointer (some ad))=Sem.bind (isAgg a) (λb=>if b=true then Sem.bind (sizeOf a) (λn=>Sem.bind (loadCells ad n) (λc=>pure (.agg c)))else load ad):=rfl
          rw[Q]
          have R:Sem.bind (Sem.bind (isAgg a) (λb=>if b=true then Sem.bind (sizeOf a) (λn=>Sem.bind (loadCells ad n) (λc=>pure (.agg c)))else load ad)) (λv=>(pure (Next.value v):Sem Next))=
           Sem.bind (isAgg a) (λb=>Sem.bind (if b=true then Sem.bind (sizeOf a) (λn=>Sem.bind (loadCells ad n) (λc=>pure (.agg c)))else load ad) (λv=>(pure (Next.value v):Sem Next))):=bind_assoc (m:=Sem) _ _ _
          rw[R,Mq _ C];show(Sem.bind (load ad) (λv=>(pure (Next.value v):Sem Next))).runT P w #[]=_
          unfold load;show Sem.runT P (Sem.load .plain ad λv=>pure (Next.value v)) w #[]=_
          simp only[Sem.runT,E];rfl
         rw[hex]
         have S:seen P s.fn #[⟨.cell ad,false,false⟩]=#[]:=by rw[seen_def];simp[l,p,seenStep]
         simp only[stepG.apply,aay,e,GStep.after]
         by_cases B:(kind==CallKind.early)=true
         . simp[B,iA,G]
         . simp[B,S,G]
       . cases h
     . cases h
   . cases h
 . cases h
def lD(s:qx):Option (TypeId × TypeId × SV):=
 match s.mode,s.todo with
 | .run,.inRegion ops (i::_)::_=>match ops[i]? with
   | some o=>match Bc ops s.env o with
     | some true=>match o.op with
       |.convert a b x=>some (a,b,sv s.env x)
       |_=>none
     |_=>none
   |none=>none
 |_,_=>none
def vn{a b t ad}(l:FR y s fr)(h:lD s=some (a,b,.lit (.pointer (some ad))))(m:P.underlying a=some (.pointer t))(n:P.underlying b=some .unsafePointer)(p:(P.info? t).map (λi=>decide (i.size=0))=some false)(f:∃v,w.cell? ad=some v):
 stepG P main (G fr cs) w=.go (G (fr.finish (.pointer (some ad))) cs) w #[]:=by
 obtain⟨v,f⟩:=f;have d:=l;obtain⟨fn,tmps,todo,defs,mode,kind,ro⟩:=fr;obtain⟨z,g,A,e,B,q,C,D⟩:=l;simp only at z g A e B q C D;subst q;unfold lD at h;split at h
 . rename_i ops r rest u E j
   rw[E]at e;rw[j]at g;have e:mode=.run:=e;subst e;subst g;split at h
   . rename_i o F
     split at h
     . rename_i H
       split at h
       . rename_i I J x k
         simp only[kn,zU]at h;obtain⟨rfl,rfl,K⟩:=h;have c:=d.sv x;rw[K]at c;have c:Frame.eval ⟨fn,tmps,.inRegion ops (r::rest)::u,defs,.run,kind,none⟩ x=.pointer (some ad):=c;rw[oQ F (qP d H)];have hex:execOp (Frame.eval ⟨fn,tmps,.inRegion ops (r::rest)::u,defs,.run,kind,none⟩) o=(do pure (.value (<-convert I J (.pointer (some ad)))):Sem Next):=by simp only[execOp,k,c]
         have L:=run_convert_to_unsafe m n p f;have M:=events_convert_to_unsafe m n p f #[];rw[hex];simp[stepG.apply,L,M,GStep.after,iA,G,Result.andThen]
       . cases h
     . cases h
   . cases h
 . cases h
end
def dX(P:adY)(f:FuncId)(args:List SV)(kind:adU):qx:=
 match P.funcs[f]? with
 |some fn=>⟨f,[.code (fn.body.getD .skip)],args++List.replicate (fn.ntmps-args.length) .cR,[],.run,kind⟩
 |none=>⟨f,[],args,[],.run,kind⟩
abbrev dc:=qx × List qx
def next(P:adY)(a:Fl)(c:dc)(v:SV):dc:=match yN c.1 v with|some s=>sgo P a 400 s c.2|none=>c
def pt(b o:Nat):SV:=.lit (.pointer (some ⟨b,o,none⟩))
def un:SV:=.lit (.tuple #[])
def tt:SV:=.lit (.bool true)
def ff:SV:=.lit (.bool false)
def Ih(live:adR)(env:List SV):List SV:=(List.range env.length).zipWith (λi v=>if live.contains i then v else .cR) env
def keep(live:adR)(s:qx):qx:={s with env:=Ih live s.env}
def Mr(env:List SV):ady->List SV
 |[]=>env
 |(i,v)::l=>Mr (env.set i v) l
def FR.keep{y:Sy}{s:qx}{fr:Frame}(h:FR y s fr)(live:adR):FR y (keep live s) fr:=by
 refine⟨h.fn,h.todo,h.defers,h.mode,h.kind,h.ro,?_,λt=>?_⟩
 . rw[h.size]
   show s.env.length=(Ih live s.env).length;rw[Ih,List.length_zipWith,acv,Nat.min_self]
 . have:=h.env t
   simp only[Go.bU.keep,Ih];rw[zD,List.getElem?_zipWith];by_cases a:t<s.env.length
   . rw[acV a,zR a]
     simp only[abV];split
     . simp_all
     . trivial
   simp_all
def plain:SV->Bool
 |.cR=>true
 |.lit _=>true
 |_=>false
def FR.iB{y y' s fr}(h:FR y s fr)(a:s.env.all plain=true):FR y' s fr:=by
 refine⟨h.fn,h.todo,h.defers,h.mode,h.kind,h.ro,h.size,λt=>?_⟩;have b:=h.env t
 have c:plain (s.env.getD t .cR)=true:=by
  rw[zD];cases q:s.env[t]? with
  |none=>rfl
  |some v=>grind
 generalize s.env.getD t .cR=v at *;cases v<;>simp_all [plain,SR]
structure Ev where
 lock:Nat
 unlock:Nat
 Vg:Nat
 xy:Nat
 SH:Nat
 RG:Nat
 j7:Nat
 en:Nat
 acq:Nat
 rel:Nat
 lx:Nat
 add:Nat
 Jy:Nat
 vo:Nat
 nano:Nat
 GG:Nat
 pJ:Nat
 tM:Nat
 tU:Nat
 tI:Nat
def Xy(c:dc):adR:=[c.1.fn,c.1.todo.length,(match c.1.todo with|.inRegion ops (i::_)::_=>i|_=>999),(match bj c.1 with|some (f,_)=>f|none=>match sc c.1 with|some (t,_)=>1000+t|none=>999)]++c.2.map (·.fn)
def ma:Fl:=⟨false,false,false,false,false,false⟩
def Ms(P:adY)(f:Fl):Nat->qx->List qx->dc
 |0,fr,st=>(fr,st)
 | n + 1,fr,st=>match ss P f fr st with
   | some (a,b)=>match a.todo with
     |.code _::.inLoop _::_=>(a,b)
     |_=>Ms P f n a b
   |none=>(fr,st)
def Ew(live:adR)(c:dc):dc:=(keep live c.1,c.2.map (keep []))
def aV(P:adY)(a:Fl)(live:adR)(c:dc)(v:SV):Option dc:=(yN c.1 v).map λs=>Ew live (sgo P a 400 s c.2)
def qR(P:adY)(a:Fl)(live:adR)(c:dc)(v:SV):Option dc:=(yN c.1 v).map λs=>Ew live (Ms P a 400 s c.2)
def Vh(P:adY)(a:Fl)(live:adR)(c:dc):dc:=Ew live (sgo P a 400 c.1 c.2)
def bl(x:Bool):SV:=.lit (.bool x)
def i64(n:Int):SV:=.lit (.int .i64 n)
def i32(n:Int):SV:=.lit (.int .i32 n)
def jk(n:Nat):List SV:=List.replicate n .cR
section
variable(P:adY)(n:Ev)(b o:Nat)(kind:adU)
def wf:SV:=.word false false false 0
def wl:SV:=.word true false false 0
def Xz:dc:=Ew [0] (sgo P ma 400 (dX P n.lock [pt b o] kind) [])
def Mt:dc:=next P ma (Xz P n b o kind) un
def Vi:dc:=next P ma (Mt P n b o kind) tt
def Vj:dc:=next P ma (Vi P n b o kind) un
def XA:dc:=next P ma (Vj P n b o kind) (pt b o)
def GH:dc:=next P ma (Mt P n b o kind) ff
def rHd:dc:=(qR P ma [] (GH P n b o kind) wf).getD (GH P n b o kind)
def XB:dc:=next P ma (GH P n b o kind) wl
def YB:dc:=next P ma (XB P n b o kind) tt
def YC:dc:=next P ma (YB P n b o kind) tt
def XC:dc:=next P ma (YC P n b o kind) un
def SI:dc:=next P ma (XB P n b o kind) ff
def XD:dc:=next P ma (SI P n b o kind) ff
def Vk:dc:=next P ma (next P ma (GH P n b o kind) wf) tt
def Vl:dc:=next P ma (Vk P n b o kind) un
def XE:dc:=next P ma (Vl P n b o kind) (pt b o)
def YD:dc:=next P ma (SI P n b o kind) tt
def YE:dc:=next P ma (YD P n b o kind) .Jw
def YF:dc:=next P ma (YE P n b o kind) un
def YG:dc:=next P ma (YF P n b o kind) .now
def rAd:dc:=next P ma (YG P n b o kind) (.word false false true 0)
def Vm:List qx:=(Xz P n b o kind).2
def Xf:List qx:=(GH P n b o kind).2.map (keep [])
def nA(a:adN)(l:ady):dc:=(⟨n.Vg,a,Mr (jk 13) l,[],.run,.normal⟩,Vm P n b o kind)
def cX(a:adN)(l:ady):dc:=(⟨n.SH,a,Mr (jk 139) l,[],.run,.normal⟩,Xf P n b o kind)
def LD:dc:=Xz P n b o kind
def vp:dc:=nA P n b o kind (Mt P n b o kind).1.todo [(0,pt b o),(5,pt b o)]
def RH:dc:=nA P n b o kind (Vi P n b o kind).1.todo [(0,pt b o)]
def Uf:dc:=nA P n b o kind (Vj P n b o kind).1.todo [(8,pt b o)]
def RI:dc:=nA P n b o kind (XA P n b o kind).1.todo [(9,pt b o)]
def BK:dc:=(⟨n.lock,[],jk 6,[],.ret,kind⟩,[])
def RJ(aw sv:Bool)(it:Int):ady:=[(0,pt b o),(2,.Jw),(3,bl sv),(4,bl aw),(5,i64 it)]
def Xg:dc:=cX P n b o kind (GH P n b o kind).1.todo [(0,pt b o),(2,i64 0),(3,ff),(4,ff),(5,i64 0),(12,pt b o)]
def SJ(aw sv:Bool)(it:Int):dc:=cX P n b o kind (GH P n b o kind).1.todo (RJ b o aw sv it++[(12,pt b o)])
def Ii(aw sv:Bool)(it:Int):dc:=cX P n b o kind (XC P n b o kind).1.todo (RJ b o aw sv it++[(47,pt b o)])
def SK(aw sv:Bool)(it:Int):dc:=cX P n b o kind (XD P n b o kind).1.todo (RJ b o aw sv it++[(133,pt b o)])
def HD(L K S aw sv:Bool)(it:Int):dc:=cX P n b o kind (rHd P n b o kind).1.todo (RJ b o aw sv it++[(6,.word L K S 0)])
def SQ(K aw sv:Bool)(it:Int):dc:=cX P n b o kind (XB P n b o kind).1.todo (RJ b o aw sv it++[(6,.word true K false 0),(17,tt),(18,i64 it)])
def SW(it:Int):dc:=cX P n b o kind (YB P n b o kind).1.todo (RJ b o false false it++[(33,tt),(36,pt b o),(37,.word true false false 0),(39,.word true true false 0)])
def DS(aw sv:Bool)(it:Int):dc:=cX P n b o kind (YC P n b o kind).1.todo (RJ b o aw sv it)
def Qg(L K S aw sv:Bool):SV:=.word (L||!S) (if aw then false else K) (S||(sv && L)) (if L||S then 1 else 0)
def Ey(L K S aw sv:Bool)(it:Int):dc:=cX P n b o kind (SI P n b o kind).1.todo (RJ b o aw sv it++[(6,.word L K S 0),(77,pt b o),(78,.word L K S 0),(79,Qg L K S aw sv)])
def T1(sv:Bool):dc:=cX P n b o kind (YD P n b o kind).1.todo [(0,pt b o),(3,bl sv)]
def PK(sv:Bool):dc:=cX P n b o kind (YE P n b o kind).1.todo [(0,pt b o),(2,.Jw),(3,bl sv),(91,pt b (o+1))]
def TQ:dc:=cX P n b o kind (YF P n b o kind).1.todo [(0,pt b o),(2,.Jw),(95,ff)]
def UP(sv:Bool):dc:=cX P n b o kind (YG P n b o kind).1.todo [(0,pt b o),(2,.Jw),(3,bl sv),(103,pt b o)]
def AD(d:Int):dc:=cX P n b o kind (rAd P n b o kind).1.todo [(0,pt b o),(128,pt b o),(129,i32 d)]
def PG:dc:=cX P n b o kind (Vk P n b o kind).1.todo [(0,pt b o)]
def Ug:dc:=cX P n b o kind (Vl P n b o kind).1.todo [(136,pt b o)]
def RK:dc:=cX P n b o kind (XE P n b o kind).1.todo [(137,pt b o)]
def XF:dc:=Ew [0,5] (sgo P ma 400 (dX P n.unlock [pt b o] kind) [])
def Vn:dc:=next P ma (XF P n b o kind) .cR
def YH:dc:=next P ma (Vn P n b o kind) (pt b o)
def YI:dc:=next P ma (YH P n b o kind) un
def Ij:dc:=next P ma (YI P n b o kind) un
def rUe:dc:=next P {ma with n0:=true} (Ij P n b o kind) wf
def Xh:dc:=next P ma (Ij P n b o kind) wf
def rG9:dc:=next P ma (Ij P n b o kind) (.word false false true 0)
def rG7:dc:=next P ma (Xh P n b o kind) tt
def XG:dc:=next P ma (Xh P n b o kind) ff
def Vo:List qx:=(XF P n b o kind).2
def XH:List qx:=(Xh P n b o kind).2.map (keep [])
def qm(a:adN)(l:ady):dc:=(⟨n.xy,a,Mr (jk 21) l,[],.run,.normal⟩,Vo P n b o kind)
def wA(a:adN)(l:ady):dc:=(⟨n.RG,a,Mr (jk 43) l,[],.run,.normal⟩,XH P n b o kind)
def U0:dc:=XF P n b o kind
def Uh:dc:=qm P n b o kind (Vn P n b o kind).1.todo [(0,pt b o),(7,pt b o)]
def UR:dc:=qm P n b o kind (YH P n b o kind).1.todo [(0,pt b o),(8,pt b o)]
def UD:dc:=qm P n b o kind (YI P n b o kind).1.todo [(0,pt b o)]
def sV:dc:=qm P n b o kind (Ij P n b o kind).1.todo [(0,pt b o),(13,pt b o),(14,.cR)]
def UE:dc:=qm P n b o kind (rUe P n b o kind).1.todo []
def UC:dc:=wA P n b o kind (Xh P n b o kind).1.todo [(0,pt b o),(27,pt b o),(28,wf),(29,.word false true false (-1))]
def G7:dc:=wA P n b o kind (rG7 P n b o kind).1.todo [(33,pt b (o+1))]
def G9:dc:=wA P n b o kind (rG9 P n b o kind).1.todo [(41,pt b (o+1))]
def PH:dc:=wA P n b o kind (XG P n b o kind).1.todo [(0,pt b o),(37,pt b o)]
def Vp:dc:=(⟨n.unlock,[],jk 6,[],.ret,kind⟩,[])
end
structure ij  P   n :Prop where
 e1:∀  fl  b o kind,aV P fl [0,5] (LD P n b o kind) un=some (vp P n b o kind)
 e2:∀  fl  b o kind,aV P fl [0] (vp P n b o kind) tt=some (RH P n b o kind)
 e3:∀  fl  b o kind,aV P fl [0,2,3,4,5,12] (vp P n b o kind) ff=some (Xg P n b o kind)
 e4:∀  fl  b o kind,aV P fl [8] (RH P n b o kind) un=some (Uf P n b o kind)
 e5:∀  fl  b o kind,aV P fl [9] (Uf P n b o kind) (pt b o)=some (RI P n b o kind)
 e6:∀  fl  b o kind,aV P fl [] (RI P n b o kind) un=some (BK n kind)
 YJ:∀  fl  b o kind L K S aw sv it,qR P fl [0,2,3,4,5,6] (SJ P n b o kind aw sv it) (.word L K S 0)=some (HD P n b o kind L K S aw sv it)
 SL:∀  fl  b o kind L K S aw sv it,qR P fl [0,2,3,4,5,6] (Ii P n b o kind aw sv it) (.word L K S 0)=some (HD P n b o kind L K S aw sv it)
 YK:∀  fl  b o kind L K S aw sv it,qR P fl [0,2,3,4,5,6] (SK P n b o kind aw sv it) (.word L K S 0)=some (HD P n b o kind L K S aw sv it)
 e8:∀  fl  b o kind K aw sv it,Vh P fl [0,2,3,4,5,6,17,18] (HD P n b o kind true K false aw sv it)=SQ P n b o kind K aw sv it
 e9:∀  fl  b o kind L K S aw sv it,(L && !S)=false->(aw && !K)=false->Vh P fl [0,2,3,4,5,6,77,78,79] (HD P n b o kind L K S aw sv it)=Ey P n b o kind L K S aw sv it
 aJ:∀(fl:Fl) b o kind it,aV P {fl with n0:=false} [0,2,3,4,5,33,36,37,39] (SQ P n b o kind false false false it) tt=some (SW P n b o kind it)
 Vq:∀(fl:Fl) b o kind n0 K aw sv it,(!aw && !K && !n0)=false->aV P {fl with n0:=n0} [0,2,3,4,5] (SQ P n b o kind K aw sv it) tt=some (DS P n b o kind aw sv it)
 aF:∀  fl  b o kind K aw sv it,(aw && !K)=false->aV P fl [0,2,3,4,5,6,77,78,79] (SQ P n b o kind K aw sv it) ff=some (Ey P n b o kind true K false aw sv it)
 aT:∀  fl  b o kind r it,aV P fl [0,2,3,4,5] (SW P n b o kind it) (bl r)=some (DS P n b o kind r false it)
 GJ:∀  fl  b o kind aw sv,aV P fl [0,2,3,4,5,47] (DS P n b o kind aw sv 0) un=some (Ii P n b o kind aw sv 1)
 GK:∀  fl  b o kind aw sv,aV P fl [0,2,3,4,5,47] (DS P n b o kind aw sv 1) un=some (Ii P n b o kind aw sv 2)
 Vr:∀  fl  b o kind aw sv,aV P fl [0,2,3,4,5,47] (DS P n b o kind aw sv 2) un=some (Ii P n b o kind aw sv 3)
 Vt:∀  fl  b o kind aw sv,aV P fl [0,2,3,4,5,47] (DS P n b o kind aw sv 3) un=some (Ii P n b o kind aw sv 4)
 bX:∀  fl  b o kind K aw sv it,aV P fl [0] (Ey P n b o kind false K false aw sv it) tt=some (PG P n b o kind)
 Vu:∀(fl:Fl) b o kind L K S aw sv it,(L||S)=true->aV P {fl with wz:=true} [0,3] (Ey P n b o kind L K S aw sv it) tt=some (T1 P n b o kind sv)
 Vv:∀(fl:Fl) b o kind L K S aw sv it,(L||S)=true->aV P {fl with wz:=false} [0,2,3,91] (Ey P n b o kind L K S aw sv it) tt=some (PK P n b o kind sv)
 dw:∀  fl  b o kind L K S aw sv it,aV P fl [0,2,3,4,5,133] (Ey P n b o kind L K S aw sv it) ff=some (SK P n b o kind aw sv it)
 bJ:∀  fl  b o kind sv,aV P fl [0,2,3,91] (T1 P n b o kind sv) .Jw=some (PK P n b o kind sv)
 Vw:∀  fl  b o kind,aV P fl [0,2,3,103] (PK P n b o kind true) un=some (UP P n b o kind true)
 Vx:∀  fl  b o kind,aV P fl [0,2,95] (PK P n b o kind false) un=some (TQ P n b o kind)
 gT:∀(fl:Fl) b o kind x,aV P {fl with tb:=x} [0,2,3,103] (TQ P n b o kind) .now=some (UP P n b o kind x)
 Qh:∀(fl:Fl) b o kind sv n1,aV P {fl with n0:=false,n1:=n1} [0,128,129] (UP P n b o kind sv) (.word false false true 0)=some (AD P n b o kind (if !sv||n1 then -11 else -7))
 Ax:∀(fl:Fl) b o kind L K sv,qR P fl [0,2,3,4,5,6] (UP P n b o kind sv) (.word L K false 0)=some (HD P n b o kind L K false true sv 0)
 xz:∀(fl:Fl) b o kind d,aV P fl [0] (AD P n b o kind d) .cR=some (PG P n b o kind)
 xA:∀(fl:Fl) b o kind,aV P fl [136] (PG P n b o kind) un=some (Ug P n b o kind)
 Lx:∀(fl:Fl) b o kind,aV P fl [137] (Ug P n b o kind) (pt b o)=some (RK P n b o kind)
 xB:∀(fl:Fl) b o kind,aV P fl [] (RK P n b o kind) un=some (BK n kind)
 u1:∀(fl:Fl) b o kind,aV P fl [0,7] (U0 P n b o kind) .cR=some (Uh P n b o kind)
 u2:∀(fl:Fl) b o kind,aV P fl [0,8] (Uh P n b o kind) (pt b o)=some (UR P n b o kind)
 u3:∀(fl:Fl) b o kind,aV P fl [0] (UR P n b o kind) un=some (UD P n b o kind)
 u4:∀(fl:Fl) b o kind,aV P fl [0,13] (UD P n b o kind) un=some (sV P n b o kind)
 u5:∀(fl:Fl) b o kind n0 K,(n0||K)=true->aV P {fl with n0:=n0} [] (sV P n b o kind) (.word false K false 0)=some (UE P n b o kind)
 YL:∀(fl:Fl) b o kind n0 K,aV P {fl with n0:=n0} [41] (sV P n b o kind) (.word false K true 0)=some (G9 P n b o kind)
 YM:∀(fl:Fl) b o kind,aV P {fl with n0:=false} [0,27,28,29] (sV P n b o kind) (.word false false false 0)=some (UC P n b o kind)
 YN:∀(fl:Fl) b o kind,aV P fl [33] (UC P n b o kind) tt=some (G7 P n b o kind)
 YO:∀(fl:Fl) b o kind,aV P fl [0,37] (UC P n b o kind) ff=some (PH P n b o kind)
 u7:∀(fl:Fl) b o kind n0 L K S,(n0||L||K||S)=true->aV P {fl with n0:=n0} [] (PH P n b o kind) (.word L K S 0)=some (UE P n b o kind)
 YP:∀(fl:Fl) b o kind,aV P {fl with n0:=false} [0,27,28,29] (PH P n b o kind) (.word false false false 0)=some (UC P n b o kind)
 u8:∀(fl:Fl) b o kind,aV P fl [] (G7 P n b o kind) un=some (UE P n b o kind)
 u9:∀(fl:Fl) b o kind,aV P fl [] (G9 P n b o kind) un=some (UE P n b o kind)
 YQ:∀(fl:Fl) b o kind,aV P fl [] (UE P n b o kind) un=some (Vp n kind)
 o1:∀b o kind,bj (LD P n b o kind).1=some (n.j7,[])/\(LD P n b o kind).1.kind=.normal
 o2:∀b o kind,bj (vp P n b o kind).1=some (n.lx,[pt b o,i32 0,i32 1])
 o3:∀b o kind,bj (RH P n b o kind).1=some (n.en,[])
 o4:∀b o kind,lD (Uf P n b o kind).1=some (n.tM,n.tU,pt b o)
 o5:∀b o kind,bj (RI P n b o kind).1=some (n.acq,[pt b o])
 YR:∀b o kind aw sv it,sc (SJ P n b o kind aw sv it).1=some (n.tI,pt b o)
 YS:∀b o kind aw sv it,sc (Ii P n b o kind aw sv it).1=some (n.tI,pt b o)
 YT:∀b o kind aw sv it,sc (SK P n b o kind aw sv it).1=some (n.tI,pt b o)
 o7:∀b o kind K aw sv it,bj (SQ P n b o kind K aw sv it).1=some (n.Jy,[i64 it])
 o8:∀b o kind it,bj (SW P n b o kind it).1=some (n.lx,[pt b o,.word true false false 0,.word true true false 0])
 o9:∀b o kind aw sv it,bj (DS P n b o kind aw sv it).1=some (n.vo,[])
 XI:∀b o kind L K S aw sv it,bj (Ey P n b o kind L K S aw sv it).1=some (n.lx,[pt b o,.word L K S 0,Qg L K S aw sv])
 YU:∀b o kind sv,bj (T1 P n b o kind sv).1=some (n.nano,[])
 XJ:∀b o kind sv,bj (PK P n b o kind sv).1=some (n.GG,[pt b (o+1),.cR,i64 2])
 YV:∀b o kind,bj (TQ P n b o kind).1=some (n.nano,[])
 YW:∀b o kind sv,sc (UP P n b o kind sv).1=some (n.tI,pt b o)
 YX:∀b o kind d,bj (AD P n b o kind d).1=some (n.add,[pt b o,i32 d])
 YY:∀b o kind,bj (PG P n b o kind).1=some (n.en,[])
 YZ:∀b o kind,lD (Ug P n b o kind).1=some (n.tM,n.tU,pt b o)
 Y0:∀b o kind,bj (RK P n b o kind).1=some (n.acq,[pt b o])
 XK:∀b o kind,sc (U0 P n b o kind).1=some (n.tI,pt b o)/\(U0 P n b o kind).1.kind=.normal/\(U0 P n b o kind).1.fn=n.xy
 Y1:∀b o kind,lD (Uh P n b o kind).1=some (n.tM,n.tU,pt b o)
 Y2:∀b o kind,bj (UR P n b o kind).1=some (n.rel,[pt b o])
 Y3:∀b o kind,bj (UD P n b o kind).1=some (n.j7,[])
 XL:∀b o kind,bj (sV P n b o kind).1=some (n.add,[pt b o,i32 (-1)])
 XN:∀b o kind,bj (UC P n b o kind).1=some (n.lx,[pt b o,wf,.word false true false (-1)])
 XO:∀b o kind,bj (G7 P n b o kind).1=some (n.pJ,[pt b (o+1),ff,i64 2])
 XP:∀b o kind,bj (G9 P n b o kind).1=some (n.pJ,[pt b (o+1),tt,i64 2])
 Y4:∀b o kind,sc (PH P n b o kind).1=some (n.tI,pt b o)
 Y5:∀b o kind,bj (UE P n b o kind).1=some (n.en,[])
 p1:∀b o kind,(Vm P n b o kind).all (·.env.all plain)=true/\(LD P n b o kind).1.env.all plain=true/\(LD P n b o kind).2=Vm P n b o kind
 p2:∀b o kind,(Xf P n b o kind).all (·.env.all plain)=true
 p3:∀b o kind,(Vo P n b o kind).all (·.env.all plain)=true/\(U0 P n b o kind).1.env.all plain=true/\(U0 P n b o kind).2=Vo P n b o kind
 p4:∀b o kind,(XH P n b o kind).all (·.env.all plain)=true
structure ik  P  (n:Ev):Prop where
 j7:Ext P n.j7 (λ_=>do mark .disable;pure Extern.Race.none_)
 en:Ext P n.en (λ_=>do mark .enable;pure Extern.Race.none_)
 acq:Ext P n.acq (Extern.Race.marked .acquire)
 rel:Ext P n.rel (Extern.Race.marked .releaseMerge)
 lx:Ext P n.lx (Extern.Atomic.casT (.int .i32))
 add:Ext P n.add (Extern.Atomic.update (Op.intArith .add) .i32 true)
 Jy:Ext P n.Jy Extern.Sync.canSpin
 vo:Ext P n.vo (λ_=>pure (.tuple #[]))
 nano:Ext P n.nano Extern.OsHooks.nano
 Mw:∃fn,P.funcs[n.nano]?=some fn/\fn.norace=true
 GG:Ext P n.GG Extern.Sync.semacquire
 pJ:Ext P n.pJ Extern.Sync.semrelease
 Vy:nZ P (isAgg n.tI)=some false
 Y6:∃t,P.underlying n.tM=some (.pointer t)/\P.underlying n.tU=some .unsafePointer/\(P.info? t).map (λi=>decide (i.size=0))=some false
 nS:∃fn,P.funcs[n.SH]?=some fn/\fn.norace=true
 nU:∃fn,P.funcs[n.xy]?=some fn/\fn.norace=true
 nV:∃fn,P.funcs[n.RG]?=some fn/\fn.norace=true
def Sy.ok(y:Sy):Prop:=(0<=y.N/\y.N<=1000)/\(0<=y.c/\y.c<=1000)
def Fl.of(y:Sy):Fl:=⟨decide (y.N=0),decide (y.N=1),decide (y.c=0),decide (y.c=1),decide (y.ws=0),decide (IntKind.i64.wrap (y.tn-y.ws)>1000000)⟩
def Fl.Ez{y}(h:y.ok):(Fl.of y).At y:=⟨h.1,h.2,rfl,rfl,rfl,rfl,rfl,rfl⟩
def Ik:SV->Bool|.word ..=>true|.cnt=>true|_=>false
def Mx:SV->Bool|.fh _=>true|.Ig=>true|.Jv=>true|_=>false
def My:SV->Bool|.Jw=>true|.Vd=>true|_=>false
def Mz:SV->Bool|.now=>true|.Vd=>true|_=>false
def SR.re{y y' v x}(h:SR y v x)(a:y.N=y'.N\/Ik v=false)(b:y.c=y'.c\/Mx v=false)(d:y.ws=y'.ws\/My v=false)(e:y.tn=y'.tn\/Mz v=false):SR y' v x:=by cases v<;>simp_all [SR,Ik,Mx,My,Mz]
def FR.re{y y' s fr}(h:FR y s fr)(a:y.N=y'.N\/s.env.all (λv=>!Ik v)=true)(b:y.c=y'.c\/s.env.all (λv=>!Mx v)=true)
 (d:y.ws=y'.ws\/s.env.all (λv=>!My v)=true) (e:y.tn=y'.tn\/s.env.all (λv=>!Mz v)=true):FR y' s fr:=by
 have key:∀(u:SV->Bool) (t:Nat),u .cR=false->s.env.all (λv=>!u v)=true->u (s.env.getD t .cR)=false:=λu t f g=>by grind
 exact⟨h.fn,h.todo,h.defers,h.mode,h.kind,h.ro,h.size,λt=>(h.env t).re (a.imp id (key _ t rfl)) (b.imp id (key _ t rfl)) (d.imp id (key _ t rfl)) (e.imp id (key _ t rfl))⟩
def na.iB{y y'}:∀{l fs},na y l fs->l.all (·.env.all plain)=true->na y' l fs
 |[],fs,h,_=>by rw[h.nz];trivial
 |s::l,fs,h,a=>by obtain⟨f,b,rfl,c,d⟩:=h.cons_inv;simp only[abF,za]at a;exact⟨c.iB a.1,d.iB a.2⟩
def na.keep{y}  live :∀{l fs},na y l fs->na y (l.map (Go.bU.keep live)) fs
 |[],fs,h=>by simp_all
 |s::l,fs,h=>by obtain⟨f,a,rfl,b,c⟩:=h.cons_inv;exact⟨b.keep live,c.keep live⟩
def Il{P Wd f y}(i:f.At y):∀  n  {s st fr frs},FR y s fr->na y st frs ->
 ∃m b a,FR y (Ms P f n s st).1 b/\na y (Ms P f n s st).2 a/\∀cs,jN P Wd m (G fr (frs++cs)) (G b (a++cs))
 |0,s,st,fr,frs,g,c=>⟨0,fr,frs,g,c,λ_=>rfl⟩
 | n + 1,s,st,fr,frs,g,c=>by
   unfold Ms;cases e:ss P f s st with
   |none=>exact⟨0,fr,frs,g,c,λ_=>rfl⟩
   | some p=>
     obtain⟨u,o⟩:=p;obtain⟨b,a,j,k,l⟩:=RF i e g c;simp only;split
     . exact⟨1,b,a,j,k,λcs=>⟨_,l cs,rfl⟩⟩
     . obtain⟨m,h,d,q,r,t⟩:=Il i n j k
       exact⟨m+1,h,d,q,r,λcs=>⟨_,l cs,t cs⟩⟩
section
variable{P:adY}{Wd:adF}{y:Sy}{c c':dc}{live:adR}{v:SV}{x:Value}{fr:Frame}{frs:adK}
def RL(e:aV P (Fl.of y) live c v=some c')(f:y.ok)(g:FR y c.1 fr)(d:na y c.2 frs)(h:SR y v x):
 ∃b a,FR y c'.1 b/\na y c'.2 a/\∀cs,tY P Wd (G (fr.finish x) (frs++cs)) (G b (a++cs)):=by
 obtain⟨s,i,rfl⟩:=abi.1 e;obtain⟨m,b,a,j,k,l⟩:=mM (Wd:=Wd) (Fl.Ez f) 400 (P:=P) (g.fin i h) d;exact⟨b,a,j.keep live,k.keep [],λcs=>⟨m,l cs⟩⟩
def Vz(e:qR P (Fl.of y) live c v=some c')(f:y.ok)(g:FR y c.1 fr)(d:na y c.2 frs)(h:SR y v x):
 ∃b a,FR y c'.1 b/\na y c'.2 a/\∀cs,tY P Wd (G (fr.finish x) (frs++cs)) (G b (a++cs)):=by
 obtain⟨s,i,rfl⟩:=abi.1 e;obtain⟨m,b,a,j,k,l⟩:=Il (Wd:=Wd) (Fl.Ez f) 400 (P:=P) (g.fin i h) d;exact⟨b,a,j.keep live,k.keep [],λcs=>⟨m,l cs⟩⟩
def VA(e:Vh P (Fl.of y) live c=c')(f:y.ok)(g:FR y c.1 fr)(d:na y c.2 frs):
 ∃b a,FR y c'.1 b/\na y c'.2 a/\∀cs,tY P Wd (G fr (frs++cs)) (G b (a++cs)):=by
 subst e;obtain⟨m,b,a,h,i,j⟩:=mM (Wd:=Wd) (Fl.Ez f) 400 (P:=P) g d;exact⟨b,a,h.keep live,i.keep [],λcs=>⟨m,j cs⟩⟩
end
open Mu in
inductive CP where
 |ld|iU|rd (l:Lo)|sq (old:Wd) (l:Lo)|sw (old:Wd) (l:Lo)|lx (old:Wd) (l:Lo)|t1 (sv:Bool)|iq (sv:Bool)|tq|up (sv:Bool)|add (old:Wd) (sv:Bool)|le|la|back
 |Im|ur|ud|held|jM (old:Wd)|wY|give|ue|EA
section
variable(P:adY)(n:Ev)(b o:Nat)(kind:adU)
def GD(p:CP)(c:dc)(y:Sy):Prop:=
 match p with
 |.ld=>c=LD P n b o kind
 |.iU=>c=vp P n b o kind
 |.rd l=>c=SJ P n b o kind l.aw l.sv l.it\/c=Ii P n b o kind l.aw l.sv l.it\/c=SK P n b o kind l.aw l.sv l.it
 |.sq old l=>c=SQ P n b o kind old.K l.aw l.sv l.it/\y.N=old.N/\old.L=true/\old.S=false
 |.sw old l=>c=SW P n b o kind l.it/\y.N=old.N/\l.aw=false/\l.sv=false/\old.L=true/\old.K=false/\old.S=false
 |.lx old l=>c=Ey P n b o kind old.L old.K old.S l.aw l.sv l.it/\y.N=old.N
 |.t1 sv=>c=T1 P n b o kind sv
 |.iq sv=>c=PK P n b o kind sv
 |.tq=>c=TQ P n b o kind
 |.up sv=>c=UP P n b o kind sv
 |.add old sv=>c=AD P n b o kind (if !sv||decide (old.N=1)then -11 else -7)
 |.le=>c=RH P n b o kind\/c=PG P n b o kind
 |.la=>c=RI P n b o kind\/c=RK P n b o kind
 |.back=>c=BK n kind
 |.Im=>c=U0 P n b o kind
 |.ur=>c=UR P n b o kind
 |.ud=>c=UD P n b o kind
 |.held=>c=sV P n b o kind
 |.jM old=>c=UC P n b o kind/\y.N=old.N/\old.L=false/\old.K=false/\old.S=false/\old.N≠0
 |.wY=>c=PH P n b o kind
 |.give=>c=G7 P n b o kind\/c=G9 P n b o kind
 |.ue=>c=UE P n b o kind
 |.EA=>c=Vp n kind
def pe(p:CP)(cs:adK)(g:adP):Prop:=∃c y fr frs,GD P n b o kind p c y/\y.ok/\FR y c.1 fr/\na y c.2 frs/\g=G fr (frs++cs)
end
def pe.running{P n b o kind p cs g}(h:pe P n b o kind p cs g):g.status=.running/\g.offers=none:=by obtain⟨c,y,fr,frs,_,_,_,_,rfl⟩:=h;exact⟨rfl,rfl⟩
structure ShM  b o  (w:World) (s:Mu.Sh):Prop where
 cw:w.cell? ⟨b,o,none⟩=some (.int .i32 (enc s.w.L s.w.K s.w.S s.w.N))
 cs:w.cell? ⟨b,o+1,none⟩=some (.int .u32 s.ms)
 fz:∀i,w.frozen? ⟨b,i,none⟩=false
def MW(b o:Nat)(w w':World):Prop:=(np w.os w'.os/\w'.output=w.output)/\(w'.heap=w.heap\/∃i v,(i=o\/i=o+1)/\flat v=true/\w'.heap=(w.setCell ⟨b,i,none⟩ v).heap)
def EvM(b o:Nat)(es:adG):Prop:=∀e∈es,(e.loc=.mark .disable\/e.loc=.mark .enable)\/(∃i,(i=o\/i=o+1)/\e.loc=.cell ⟨b,i,none⟩/\e.sync=true)
def rR{w w':World}(h:w'.heap=w.heap)  a :w'.cell? a=w.cell? a/\w'.frozen? a=w.frozen? a:=by simp[World.cell?,World.frozen?,h]
def ShM.heap{b o w w' s}(h:ShM b o w s)(e:w'.heap=w.heap):ShM b o w' s:=⟨by rw[(rR e _).1];exact h.cw,by rw[(rR e _).1];exact h.cs,λi=>by rw[(rR e _).2];exact h.fz i⟩
def kQ{w:World}{b i u v}(h:w.cell? ⟨b,i,none⟩=some u):(w.setCell ⟨b,i,none⟩ v).cell? ⟨b,i,none⟩=some v:=by
 unfold World.cell? at h ⊢;unfold World.setCell
 grind
def pK{w:World}{a v b i}:(w.setCell a v).frozen? ⟨b,i,none⟩=w.frozen? ⟨b,i,none⟩:=by simp_all
def ShM.bc{b o w s}(h:ShM b o w s)  w' :ShM b o (w.setCell ⟨b,o,none⟩ (.int .i32 (enc w'.L w'.K w'.S w'.N))) {s with w:=w'}:=⟨kQ h.cw,by rw[dU (by simp)];exact h.cs,λi=>by rw[pK];exact h.fz i⟩
def ShM.GL{b o w s}(h:ShM b o w s)(m:Nat):ShM b o (w.setCell ⟨b,o+1,none⟩ (.int .u32 m)) {s with ms:=m}:=⟨by rw[dU (by simp)];exact h.cw,kQ h.cs,λi=>by rw[pK];exact h.fz i⟩
def gy{b o}:EvM b o #[]:=λe h=>by simp at h
def Io{b o i}(hi:i=o\/i=o+1):EvM b o #[⟨.cell ⟨b,i,none⟩,false,true⟩]:=λe h=>by simp_all
def lE{b o i}(hi:i=o\/i=o+1):EvM b o #[⟨.cell ⟨b,i,none⟩,false,true⟩,⟨.cell ⟨b,i,none⟩,true,true⟩]:=λe h=>by grind
def xC{b o}:EvM b o (semEvents ⟨b,o+1,none⟩):=λe h=>by
 simp[semEvents]at h
 grind
section
variable{P:adY}{n:Ev}(C:ij P n)(X:ik P n){b o:Nat}{kind:adU}{Wd:adF}{cs:adK}{g:adP}{w:World}{main:Bool}
variable(hWd:∀w,Wd w->∃v,w.cell? ⟨b,o,none⟩=some v)
def Next(P:adY)(n:Ev)(b o:Nat)(kind:adU)(Wd:adF)(cs:adK)(p:CP)(a:adP):Prop:=a.status=.running/\∃c,tY P Wd a c/\pe P n b o kind p cs c
def nxt{y c c' live v x fr frs p}(g:aV P (Fl.of y) live c v=some c')(f:y.ok)(h:FR y c.1 fr)(d:na y c.2 frs)(i:SR y v x)(j:GD P n b o kind p c' y):
 Next P n b o kind Wd cs p (G (fr.finish x) (frs++cs)):=by
 obtain⟨e,a,k,l,m⟩:=RL (Wd:=Wd) g f h d i;exact⟨rfl,_,m cs,c',y,e,a,j,f,k,l,rfl⟩
def y0:Sy:=⟨2,2,1,0⟩
def ub:y0.ok:=by unfold Sy.ok y0;decide
def GM(h:∃fn body,P.funcs[n.lock]?=some fn/\fn.body=some body/\fn.ntmps=6):∃e,tY P Wd (G (Frame.enter P n.lock #[.pointer (some ⟨b,o,none⟩)] kind) cs) e/\pe P n b o kind .ld cs e:=by
 obtain⟨fn,body,a,i,g⟩:=h
 have j:FR y0 (dX P n.lock [pt b o] kind) (Frame.enter P n.lock #[.pointer (some ⟨b,o,none⟩)] kind):=by
  refine⟨by simp[dX,a,Frame.enter],by simp[dX,a,i,Frame.enter],by simp[dX,a,Frame.enter],by simp[dX,a,Frame.enter,Ep.of],by simp[dX,a,Frame.enter],rfl,by simp[dX,a,g,Frame.enter],λt=>?_⟩;simp only[dX,a,Frame.enter,g,abz,abV]
  match t with
  |0=>rfl
  |1|2|3|4|5=>trivial
  | t+6=>
    have:([pt b o]++List.replicate (6 - [pt b o].length) SV.cR).getD (t+6) .cR=.cR:=by simp_all
    rw[this];trivial
 obtain⟨m,d,c,k,l,p⟩:=mM (Wd:=Wd) (P:=P) (f:=ma) (y:=y0) ⟨by decide,by decide,rfl,rfl,rfl,rfl,rfl,by decide⟩ 400 j (st:=[]) (frs:=[]) trivial;have q:=p cs;exact⟨_,⟨m,q⟩,_,y0,d,c,rfl,ub,k.keep [0],l.keep [],rfl⟩
def MA:∀g ,Mark.disable≠.extern g:=λg h=>by cases h
def MB:∀g ,Mark.enable≠.extern g:=λg h=>by cases h
include C X in
def CQ(h:pe P n b o kind .ld cs g):∃d,stepG P main g w=.go d w #[⟨.mark .disable,false,true⟩]/\Next P n b o kind Wd cs .iU d:=by obtain⟨c,y,fr,frs,rfl,f,e,a,rfl⟩:=h;exact⟨_,fJ MA e (C.o1 b o kind).1 (by rw[show(LD P n b o kind).1.kind=_ from(C.o1 b o kind).2];decide) X.j7,nxt (C.e1 _ b o kind) f e a rfl rfl⟩
include C X in
def Ip(h:pe P n b o kind .ud cs g):∃d,stepG P main g w=.go d w #[⟨.mark .disable,false,true⟩]/\Next P n b o kind Wd cs .held d:=by obtain⟨c,y,fr,frs,rfl,f,e,a,rfl⟩:=h;exact⟨_,fJ MA e (C.Y3 b o kind) (by simp[UD,qm]) X.j7,nxt (C.u4 _ b o kind) f e a rfl rfl⟩
include C X in
def CR(h:pe P n b o kind .ue cs g):∃d,stepG P main g w=.go d w #[⟨.mark .enable,false,true⟩]/\Next P n b o kind Wd cs .EA d:=by obtain⟨c,y,fr,frs,rfl,f,e,a,rfl⟩:=h;exact⟨_,fJ MB e (C.Y5 b o kind) (by simp[UE,qm]) X.en,nxt (C.YQ _ b o kind) f e a rfl rfl⟩
include C X in
def Iq(h:pe P n b o kind .ur cs g):∃d,stepG P main g w=.go d w #[⟨.mark (.releaseMerge ⟨b,o,none⟩),false,true⟩]/\Next P n b o kind Wd cs .ud d:=by obtain⟨c,y,fr,frs,rfl,f,e,a,rfl⟩:=h;exact⟨_,gi (λi g h=>by cases h) e (C.Y2 b o kind) (by simp[UR,qm]) X.rel,nxt (C.u3 _ b o kind) f e a rfl rfl⟩
include C X in
def Ir(h:pe P n b o kind .la cs g):∃e,stepG P main g w=.go e w #[⟨.mark (.acquire ⟨b,o,none⟩),false,true⟩]/\Next P n b o kind Wd cs .back e:=by
 obtain⟨c,y,fr,frs,i,f,d,a,rfl⟩:=h;rcases i with rfl|rfl
 . exact⟨_,gi (λj g h=>by cases h) d (C.o5 b o kind) (by simp[RI,nA]) X.acq,nxt (C.e6 _ b o kind) f d a rfl rfl⟩
 . exact⟨_,gi (λj g h=>by cases h) d (C.Y0 b o kind) (by simp[RK,cX]) X.acq,nxt (C.xB _ b o kind) f d a rfl rfl⟩
include X hWd in
def through{y c c' live fr frs p}(f:lD c.1=some (n.tM,n.tU,pt b o))(g:aV P (Fl.of y) live c (pt b o)=some c')(h:y.ok)(e:FR y c.1 fr)(d:na y c.2 frs)(i:GD P n b o kind p c' y):
 ∃a,tY P Wd (G fr (frs++cs)) a/\pe P n b o kind p cs a:=by
 obtain⟨t,j,k,l⟩:=X.Y6;obtain⟨_,a,m,q⟩:=nxt (P:=P) (n:=n) (b:=b) (o:=o) (kind:=kind) (Wd:=Wd) (cs:=cs) (x:=.pointer (some ⟨b,o,none⟩)) g h e d rfl i;refine⟨a,tY.trans (tX.Bd ⟨rfl,λmain w r=>?_⟩) m,q⟩;exact vn e f j k l (hWd w r)
include C X hWd in
def Is(h:pe P n b o kind .le cs g):∃s,stepG P main g w=.go s w #[⟨.mark .enable,false,true⟩]/\Next P n b o kind Wd cs .la s:=by
 obtain⟨c,y,fr,frs,t,e,f,a,rfl⟩:=h;rcases t with rfl|rfl
 . refine⟨_,fJ MB f (C.o3 b o kind) (by simp[RH,nA]) X.en,rfl,?_⟩
   obtain⟨i,d,j,k,l⟩:=RL (Wd:=Wd) (x:=.tuple #[]) (C.e4 _ b o kind) e f a rfl;obtain⟨m,q,r⟩:=through X hWd (cs:=cs) (p:=.la) (C.o4 b o kind) (C.e5 _ b o kind) e j k (.inl rfl);exact⟨m,(l cs).trans q,r⟩
 . refine⟨_,fJ MB f (C.YY b o kind) (by simp[PG,cX]) X.en,rfl,?_⟩
   obtain⟨i,d,j,k,l⟩:=RL (Wd:=Wd) (x:=.tuple #[]) (C.xA _ b o kind) e f a rfl;obtain⟨m,q,r⟩:=through X hWd (cs:=cs) (p:=.la) (C.YZ b o kind) (C.Lx _ b o kind) e j k (.inr rfl);exact⟨m,(l cs).trans q,r⟩
include C X hWd in
def yP{v}(j:w.cell? ⟨b,o,none⟩=some v)(h:pe P n b o kind .Im cs g):∃d,stepG P main g w=.go d w #[]/\Next P n b o kind Wd cs .ur d:=by
 obtain⟨c,y,fr,frs,rfl,e,f,a,rfl⟩:=h;refine⟨_,rQ f (C.XK b o kind).1 X.Vy (by rw[show(U0 P n b o kind).1.fn=_ from(C.XK b o kind).2.2];exact X.nU) j,rfl,?_⟩;obtain⟨k,i,l,m,q⟩:=RL (Wd:=Wd) (x:=v) (C.u1 _ b o kind) e f a trivial;obtain⟨r,s,t⟩:=through X hWd (cs:=cs) (p:=.ur) (C.Y1 b o kind) (C.u2 _ b o kind) e l m rfl;exact⟨r,(q cs).trans s,t⟩
include C X in
def Qi{sv}(h:pe P n b o kind (.t1 sv) cs g):∃f,stepG P main g w=.go f w.later #[]/\Next P n b o kind Wd cs (.iq sv) f:=by
 obtain⟨c,y,fr,frs,rfl,j,i,d,rfl⟩:=h;refine⟨_,Bj i (C.YU b o kind sv) (by simp[T1,cX]) X.nano X.Mw,?_⟩;have e:=i.re (y':={y with ws:=((w.os.mono+w.tick:Nat):Int)}) (.inl rfl) (.inl rfl) (.inr (by cases sv<;>rfl)) (.inl rfl);have a:=d.iB (y':={y with ws:=((w.os.mono+w.tick:Nat):Int)}) (by simpa[T1,cX]using C.p2 b o kind);exact nxt (y:={y with ws:=((w.os.mono+w.tick:Nat):Int)}) (x:=.int .i64 ((w.os.mono+w.tick:Nat):Int)) (C.bJ _ b o kind sv) j e a rfl rfl
end
inductive To:Mu.Pc->CP->Prop
 |out:To .out .ue
 |rd (l:Mu.Lo):To (.rd l) (.rd l)
 |sq (old:Mu.Wd) (l:Mu.Lo):To (.sq old l) (.sq old l)
 |sw (old:Mu.Wd) (l:Mu.Lo):To (.sw old l) (.sw old l)
 |lx (old:Mu.Wd) (l:Mu.Lo):To (.lx old l) (.lx old l)
 |t1 (sv:Bool):To (.iq sv) (.t1 sv)
 |iq (sv:Bool):To (.iq sv) (.iq sv)
 |tq:To .tq .tq
 |up (sv:Bool):To (.up sv) (.up sv)
 |add (old:Mu.Wd) (sv:Bool):To (.add old sv) (.add old sv)
 |held:To .held .le
 |jM (old:Mu.Wd):To (.jM old) (.jM old)
 |wY:To .wY .wY
 |give:To .give .give
def mN(P:adY)(n:Ev)(b o:Nat)(kind:adU)(Wd:adF)(cs:adK)(g:adP)(w:World)(main:Bool)(pc:Mu.Pc)(s:Mu.Sh):Prop:=∃c a es q e f,stepG P main g w=.go c a es/\(q,e)∈Mu.mv pc s/\To q f/\Next P n b o kind Wd cs f c/\MW b o w a/\ShM b o a e/\EvM b o es/\∀d,deafBehind d es=d
def bt{b o w w'}(h:w'.heap=w.heap)(a:np w.os w'.os/\w'.output=w.output:=by exact⟨np.refl _,rfl⟩):MW b o w w':=⟨a,.inl h⟩
def xa{b o w v}(h:flat v=true):MW b o w (w.setCell ⟨b,o,none⟩ v):=⟨⟨.refl _,rfl⟩,.inr ⟨o,v,.inl rfl,h,rfl⟩⟩
def Qj{b o w v}(h:flat v=true):MW b o w (w.setCell ⟨b,o+1,none⟩ v):=⟨⟨.refl _,rfl⟩,.inr ⟨o+1,v,.inr rfl,h,rfl⟩⟩
def It{L K S a b c}{N d:Nat}:enc L K S N=enc a b c d↔(L=a/\K=b/\S=c/\N=d):=by
 unfold enc;constructor
 . intro h
   cases L<;>cases K<;>cases S<;>cases a<;>cases b<;>cases c<;>simp[Bool.toNat]at h ⊢<;>omega
 simp_all
section
variable{P:adY}{n:Ev}(C:ij P n)(X:ik P n){b o:Nat}{kind:adU}{Wd:adF}{cs:adK}{g:adP}{w:World}{main:Bool}{s:Mu.Sh}
def Iu{w}:w=Mu.Wd.zero↔(enc w.L w.K w.S w.N=0):=by
 obtain⟨L,K,S,N⟩:=w;rw[yM (by simp)];simp[Mu.Wd.zero]
include C X in
def Jz(d:ShM b o w s)(h:pe P n b o kind .iU cs g):mN P n b o kind Wd cs g w main .iU s:=by
 obtain⟨c,y,fr,frs,rfl,l,j,f,rfl⟩:=h;have q:(vp P n b o kind).1.kind≠.early:=by simp[vp,nA]
 by_cases k:s.w=Mu.Wd.zero
 . have m:enc s.w.L s.w.K s.w.S s.w.N=0:=Iu.1 k
   have r:=d.cw;rw[m]at r;refine⟨_,_,_,.held,{s with w:={Mu.Wd.zero with L:=true}},.le,iN j (C.o2 b o kind) q X.lx (v:=0) (n:=1) (λx h=>h) (λx h=>h) r (d.fz o),by simp[Mu.mv,k],.held,nxt (C.e2 _ b o kind) l j f rfl (.inl rfl),xa rfl,?_,lE (.inl rfl),λ_=>rfl⟩;have:=d.bc {Mu.Wd.zero with L:=true};exact this
 . have m:¬enc s.w.L s.w.K s.w.S s.w.N=0:=λe=>k (Iu.2 e)
   refine⟨_,_,_,.rd ⟨false,false,0⟩,s,.rd ⟨false,false,0⟩,jf j (C.o2 b o kind) q X.lx (old:=0) (n:=1) (λx h=>h) (λx h=>h) d.cw (d.fz o) m,by simp[Mu.mv,k],.rd _,⟨rfl,?_⟩,bt rfl,d,Io (.inl rfl),λ_=>rfl⟩;obtain⟨p,i,A,B,D⟩:=RL (Wd:=Wd) (x:=.bool false) (C.e3 _ b o kind) l j f rfl;refine⟨_,D cs,SJ P n b o kind false false 0,{y with ws:=0},p,i,.inl rfl,l,?_,?_,rfl⟩
   . have a:=A.re (y':={y with ws:=0}) (.inl rfl) (.inl rfl) (.inr rfl) (.inl rfl)
     refine⟨a.fn,a.todo,a.defers,a.mode,a.kind,a.ro,a.size.trans rfl,λt=>?_⟩;have u:=a.env t;by_cases z:t=2
     . subst z;exact u
     . have e:(SJ P n b o kind false false 0).1.env=(Xg P n b o kind).1.env.set 2 .Jw:=rfl
       rw[e,zD,abL (zs z),<-List.getD_eq_getElem?_getD];exact u
   . exact B.iB (by simpa[Xg,cX]using C.p2 b o kind)
def rS{y:Sy}{L K S}{N:Nat}(h:y.N=N):SR y (.word L K S 0) (.int .i32 (enc L K S N)):=by
 refine⟨?_,?_,by decide⟩
 . simp_all
 omega
def Iv{y x}(h:decide (y.N=0)=x):{Fl.of y with n0:=x}=Fl.of y:=by subst h;rfl
def SM{y x z}(h:decide (y.N=0)=x)(a:decide (y.N=1)=z):{Fl.of y with n0:=x,n1:=z}=Fl.of y:=by subst h;subst a;rfl
def RN{y x}(h:decide (y.ws=0)=x):{Fl.of y with wz:=x}=Fl.of y:=by subst h;rfl
def VB{y x}(h:decide (IntKind.i64.wrap (y.tn-y.ws)>1000000)=x):{Fl.of y with tb:=x}=Fl.of y:=by subst h;rfl
def Ui(old:Mu.Wd)(l:Mu.Lo):CP:=if old.L && !old.S then .sq old l else .lx old l
def RO  old   l :To (Mu.nx old l) (Ui old l):=by
 unfold Mu.nx Ui;split
 . exact .sq _ _
 . exact .lx _ _
include C in
def Iw{y old l fr frs}(e:y.ok)(m:y.N=old.N)(p:FR y (HD P n b o kind old.L old.K old.S l.aw l.sv l.it).1 fr)(d:na y (HD P n b o kind old.L old.K old.S l.aw l.sv l.it).2 frs)(f:Mu.loc (Mu.nx old l)):
 ∃q,tY P Wd (G fr (frs++cs)) q/\pe P n b o kind (Ui old l) cs q:=by
 obtain⟨L,K,S,N⟩:=old;obtain⟨aw,sv,it⟩:=l;unfold Ui;unfold Mu.nx at f;by_cases h:(L && !S)=true
 . simp only[h,aay]at f ⊢
   simp only[za,acu]at h;obtain⟨rfl,rfl⟩:=h;obtain⟨c,a,g,i,j⟩:=VA (Wd:=Wd) (C.e8 (Fl.of y) b o kind K aw sv it) e p d;exact⟨_,j cs,_,y,c,a,⟨rfl,m,rfl,rfl⟩,e,g,i,rfl⟩
 . have r:(L && !S)=false:=by simpa using h
   rw[aau h]at f ⊢
   have k:(aw && !K)=false:=by
    cases aw with
    |false=>rfl
    |true=>have:=f.1 rfl;simp at this;simp[this]
   obtain⟨c,a,g,i,j⟩:=VA (Wd:=Wd) (C.e9 (Fl.of y) b o kind L K S aw sv it r k) e p d;exact⟨_,j cs,_,y,c,a,⟨rfl,m⟩,e,g,i,rfl⟩
include C X in
def Qk{l}(i:ShM b o w s)(hb:s.w.N<=1000)(m:Mu.loc (Mu.nx s.w l))(h:pe P n b o kind (.rd l) cs g):mN P n b o kind Wd cs g w main (.rd l) s:=by
 obtain⟨c,y,fr,frs,p,q,j,e,rfl⟩:=h;have a:({y with N:=(s.w.N:Int)}:Sy).ok:=⟨⟨by simp,by show(s.w.N:Int)<=1000;omega⟩,q.2⟩
 have key:sc c.1=some (n.tI,pt b o)->c.1.fn=n.SH->(c.1.env.all (λv=>!Ik v)=true)->c.2=Xf P n b o kind->qR P (Fl.of {y with N:=(s.w.N:Int)}) [0,2,3,4,5,6] c (.word s.w.L s.w.K s.w.S 0)=some (HD P n b o kind s.w.L s.w.K s.w.S l.aw l.sv l.it) ->
  mN P n b o kind Wd cs (G fr (frs++cs)) w main (.rd l) s:=λr t u x z=>by
  have f:=j.re (y':={y with N:=(s.w.N:Int)}) (.inr u) (.inl rfl) (.inl rfl) (.inl rfl);have d:=e.iB (y':={y with N:=(s.w.N:Int)}) (by rw[x];exact C.p2 b o kind);obtain⟨A,k,B,D,E⟩:=Vz (Wd:=Wd) z a f d (rS rfl);obtain⟨F,H,I⟩:=Iw C (Wd:=Wd) (cs:=cs) (old:=s.w) (l:=l) a rfl B D m;exact⟨_,w,#[],_,s,Ui s.w l,rQ j r X.Vy (by rw[t];exact X.nS) i.cw,by simp[Mu.mv],RO _ _,⟨rfl,F,(E cs).trans H,I⟩,bt rfl,i,gy,λ_=>rfl⟩
 rcases p with rfl|rfl|rfl
 . exact key (C.YR ..) rfl rfl rfl (C.YJ ..)
 . exact key (C.YS ..) rfl rfl rfl (C.SL ..)
 . exact key (C.YT ..) rfl rfl rfl (C.YK ..)
include C X in
def CS{y aw sv}{it:Nat}{fr frs}(f:it<4)(g:y.ok)(e:FR y (DS P n b o kind aw sv it).1 fr)(d:na y (DS P n b o kind aw sv it).2 frs):
 ∃c,tY P Wd (G fr (frs++cs)) c/\pe P n b o kind (.rd ⟨aw,sv,it+1⟩) cs c:=by
 have a:tX P Wd (G fr (frs++cs)) (G (fr.finish (.tuple #[])) (frs++cs)):=⟨rfl,λmain w _=>vm e (C.o9 b o kind aw sv it) (by simp[DS,cX]) X.vo⟩
 have key:aV P (Fl.of y) [0,2,3,4,5,47] (DS P n b o kind aw sv it) un=some (Ii P n b o kind aw sv (it+1:Nat)):=by
  have:it=0\/it=1\/it=2\/it=3:=by omega
  rcases this with rfl|rfl|rfl|rfl
  . exact C.GJ ..
  . exact C.GK ..
  . exact C.Vr ..
  . exact C.Vt ..
 obtain⟨_,c,h,i⟩:=nxt (P:=P) (n:=n) (b:=b) (o:=o) (kind:=kind) (Wd:=Wd) (cs:=cs) (x:=.tuple #[]) (p:=.rd ⟨aw,sv,it+1⟩) key g e d rfl (.inr (.inl rfl));exact⟨c,a.Bd.trans h,i⟩
include C X in
def Ql{old l}(t:ShM b o w s)(J:Mu.loc (.sq old l))(h:pe P n b o kind (.sq old l) cs g):mN P n b o kind Wd cs g w main (.sq old l) s:=by
 obtain⟨c,y,fr,frs,⟨rfl,k,B,D⟩,q,m,d,rfl⟩:=h;obtain⟨L,K,S,N⟩:=old;obtain⟨aw,sv,it⟩:=l;simp only at k B D m d;subst B;subst D;obtain⟨E,F,M,_,_⟩:=J;simp only at E F M
 have u:(aw && !K)=false:=by
  cases aw with
  |false=>rfl
  |true=>simp[E rfl]
 obtain⟨r,j,v,O,G⟩:=Jx (P:=P) (main:=main) (cs:=frs++cs) (w:=w) m (C.o7 b o kind K aw sv it) (by simp[SQ,cX]) X.Jy
 have a:j.heap=w.heap:=by rcases G with rfl|rfl<;>rfl
 have e:np w.os j.os/\j.output=w.output:=by rcases G with rfl|rfl<;>exact⟨.refl _,rfl⟩
 cases r with
 |false=>refine⟨_,j,#[],.lx ⟨true,K,false,N⟩ ⟨aw,sv,it⟩,s,.lx _ _,v,by simp[Mu.mv,Mu.hd],.lx _ _,nxt (C.aF (Fl.of y) b o kind K aw sv it u) q m d rfl ⟨rfl,k⟩,bt a e,t.heap a,gy,λ_=>rfl⟩
 | true=>
   have f:it<4:=by have:=O rfl;omega
   by_cases z:(!aw && !K && decide (N≠0))=true
   . simp only[za,acu,KD]at z
     obtain⟨⟨rfl,rfl⟩,p⟩:=z;have:sv=false:=by cases sv with|false=>rfl|true=>exact absurd (F rfl) (by simp)
     subst this;have key:=C.aJ (Fl.of y) b o kind it;rw[Iv (by rw[k];simpa using p)]at key
     exact⟨_,j,#[],.sw ⟨true,false,false,N⟩ ⟨false,false,it⟩,s,.sw _ _,v,by simp[Mu.mv,Mu.hd,f,p],.sw _ _,nxt key q m d rfl ⟨rfl,k,rfl,rfl,rfl,rfl,rfl⟩,bt a e,t.heap a,gy,λ_=>rfl⟩
   . have i:(!aw && !K && decide (N≠0))=false:=by simpa using z
     have A:(!aw && !K && !decide (y.N=0))=false:=by
      rw[k]
      by_cases H:N=0
      . simp[H]
      . simp[H]at i ⊢;exact i
     have key:=C.Vq (Fl.of y) b o kind (decide (y.N=0)) K aw sv it A;rw[Iv rfl]at key;obtain⟨Q,I,R,T,U⟩:=RL (Wd:=Wd) (x:=.bool true) key q m d rfl;obtain⟨V,W,Y⟩:=CS C X (Wd:=Wd) (cs:=cs) f q R T;refine⟨_,j,#[],.rd ⟨aw,sv,it+1⟩,s,.rd _,v,?_,.rd _,⟨rfl,V,(U cs).trans W,Y⟩,bt a e,t.heap a,gy,λ_=>rfl⟩
     simp only[Mu.mv,Mu.hd,f,i];simp
include C X in
def Qm{old l}(f:ShM b o w s)(V:Mu.loc (.sw old l))(h:pe P n b o kind (.sw old l) cs g):mN P n b o kind Wd cs g w main (.sw old l) s:=by
 obtain⟨c,y,fr,frs,⟨rfl,E,F,G,H,I,J⟩,m,i,d,rfl⟩:=h;obtain⟨L,K,S,N⟩:=old;obtain⟨aw,sv,it⟩:=l;simp only at E F G H I J i d;subst F;subst G;subst H;subst I;subst J;have j:it<4:=V.2.2.2.2.2;have M:(SW P n b o kind it).1.kind≠.early:=by simp[SW,cX]
 have a:∀q:Bool,∀x,SR y (.word true q false 0) x->x=.int .i32 (enc true q false N):=λq x W=>by have:=W.1;rw[E,adl]at this;exact this
 by_cases p:s.w=⟨true,false,false,N⟩
 . have O:=f.cw
   rw[p]at O;obtain⟨r,k,t,u,v⟩:=RL (Wd:=Wd) (x:=.bool true) (C.aT (Fl.of y) b o kind true it) m i d rfl;obtain⟨z,A,B⟩:=CS C X (Wd:=Wd) (cs:=cs) j m t u;refine⟨_,_,_,.rd ⟨true,false,it+1⟩,{s with w:=⟨true,true,false,N⟩},.rd _,iN i (C.o8 b o kind it) M X.lx (a false) (a true) O (f.fz o),by simp[Mu.mv,p],.rd _,⟨rfl,z,(v cs).trans A,B⟩,xa rfl,f.bc ⟨true,true,false,N⟩,lE (.inl rfl),λ_=>rfl⟩
 . have D:¬enc s.w.L s.w.K s.w.S s.w.N=enc true false false N:=λe=>p (by
    obtain⟨Q,R,T,U⟩:=It.1 e;obtain⟨⟨L,K,S,Y⟩,ms⟩:=s;simp only at Q R T U;subst Q;subst R;subst T;subst U;rfl)
   obtain⟨r,k,t,u,v⟩:=RL (Wd:=Wd) (x:=.bool false) (C.aT (Fl.of y) b o kind false it) m i d rfl;obtain⟨z,A,B⟩:=CS C X (Wd:=Wd) (cs:=cs) j m t u;exact⟨_,_,_,.rd ⟨false,false,it+1⟩,s,.rd _,jf i (C.o8 b o kind it) M X.lx (a false) (a true) f.cw (f.fz o) D,by simp[Mu.mv,p],.rd _,⟨rfl,z,(v cs).trans A,B⟩,bt rfl,f,Io (.inl rfl),λ_=>rfl⟩
end
section
variable{P:adY}{n:Ev}(C:ij P n)(X:ik P n){b o:Nat}{kind:adU}{Wd:adF}{cs:adK}{g:adP}{w:World}{main:Bool}{s:Mu.Sh}
def RP{a c:Mu.Wd}:a=c↔enc a.L a.K a.S a.N=enc c.L c.K c.S c.N:=by obtain⟨L,K,S,N⟩:=a;obtain⟨b,d,e,f⟩:=c;rw[It];simp
include C X in
def MC{old l}(f:ShM b o w s)(E:Mu.loc (.lx old l))(h:pe P n b o kind (.lx old l) cs g):mN P n b o kind Wd cs g w main (.lx old l) s:=by
 obtain⟨c,y,fr,frs,⟨rfl,u⟩,t,j,a,rfl⟩:=h;obtain⟨L,K,S,N⟩:=old;obtain⟨aw,sv,it⟩:=l;simp only at u j a
 have k:(aw && !K)=false:=by
  cases aw with
  |false=>rfl
  |true=>have:=E.1 rfl;simp at this;simp[this]
 have A:(Ey P n b o kind L K S aw sv it).1.kind≠.early:=by simp[Ey,cX]
 have hold:∀x,SR y (.word L K S 0) x->x=.int .i32 (enc L K S N):=λx v=>by have:=v.1;rw[u,adl]at this;exact this
 have i:∀x,SR y (Qg L K S aw sv) x->x=.int .i32 (enc (Mu.qO ⟨L,K,S,N⟩ ⟨aw,sv,it⟩).L (Mu.qO ⟨L,K,S,N⟩ ⟨aw,sv,it⟩).K (Mu.qO ⟨L,K,S,N⟩ ⟨aw,sv,it⟩).S (Mu.qO ⟨L,K,S,N⟩ ⟨aw,sv,it⟩).N):=λx v=>by have:=v.1;rw[u]at this;rw[this];simp only[Mu.qO];congr 2;split<;>simp
 by_cases p:s.w=⟨L,K,S,N⟩
 . have B:=f.cw
   rw[p]at B;have m:=iN (main:=main) (cs:=frs++cs) j (C.XI b o kind L K S aw sv it) A X.lx hold i B (f.fz o)
   by_cases d:(L||S)=true
   . have q:((.iq sv:Mu.Pc),({s with w:=Mu.qO ⟨L,K,S,N⟩ ⟨aw,sv,it⟩}:Mu.Sh))∈Mu.mv (.lx ⟨L,K,S,N⟩ ⟨aw,sv,it⟩) s:=by
      simp only[Mu.mv,k,aap,aat,p,aay,d,lb]
     by_cases r:y.ws=0
     . have key:=C.Vu (Fl.of y) b o kind L K S aw sv it d
       rw[RN (by simpa using r)]at key
       exact⟨_,_,_,_,_,.t1 sv,m,q,.t1 _,nxt key t j a rfl rfl,xa rfl,f.bc _,lE (.inl rfl),λ_=>rfl⟩
     . have key:=C.Vv (Fl.of y) b o kind L K S aw sv it d
       rw[RN (by simpa using r)]at key
       exact⟨_,_,_,_,_,.iq sv,m,q,.iq _,nxt key t j a rfl rfl,xa rfl,f.bc _,lE (.inl rfl),λ_=>rfl⟩
   . have D:(L||S)=false:=by simpa using d
     have F:L=false:=by cases L<;>simp_all
     have G:S=false:=by cases S<;>simp_all
     subst F;subst G;refine⟨_,_,_,.held,{s with w:=Mu.qO ⟨false,K,false,N⟩ ⟨aw,sv,it⟩},.le,m,?_,.held,nxt (C.bX (Fl.of y) b o kind K aw sv it) t j a rfl (.inr rfl),xa rfl,f.bc _,lE (.inl rfl),λ_=>rfl⟩
     simp only[Mu.mv,k,aap,aat,p,aay,Bool.or_self,lb]
 . have z:¬enc s.w.L s.w.K s.w.S s.w.N=enc L K S N:=λe=>p (RP.2 e)
   refine⟨_,_,_,.rd ⟨aw,sv,it⟩,s,.rd _,jf j (C.XI b o kind L K S aw sv it) A X.lx hold i f.cw (f.fz o) z,?_,.rd _,nxt (C.dw (Fl.of y) b o kind L K S aw sv it) t j a rfl (.inr (.inr rfl)),bt rfl,f,Io (.inl rfl),λ_=>rfl⟩
   simp only[Mu.mv,k,aap,aat,p,lb]
include C X in
def JA{sv}(f:ShM b o w s)(j:s.ms≠0)(h:pe P n b o kind (.iq sv) cs g):mN P n b o kind Wd cs g w main (.iq sv) s:=by
 obtain⟨c,y,fr,frs,rfl,k,i,d,rfl⟩:=h;have a:=ua (main:=main) (cs:=frs++cs) (w:=w) (n:=(s.ms:Int)) i (C.XJ b o kind sv) (by simp[PK,cX]) X.GG f.cs (by omega) (f.fz _);have e:((s.ms:Int)-1)=((s.ms-1:Nat):Int):=by omega
 rw[e]at a;cases sv with
 |true=>exact⟨_,_,_,.up true,{s with ms:=s.ms-1},.up true,a,by simp[Mu.mv,j],.up _,nxt (C.Vw (Fl.of y) b o kind) k i d rfl rfl,Qj rfl,f.GL _,xC,λ_=>rfl⟩
 |false=>exact⟨_,_,_,.tq,{s with ms:=s.ms-1},.tq,a,by simp[Mu.mv,j],.tq,nxt (C.Vx (Fl.of y) b o kind) k i d rfl rfl,Qj rfl,f.GL _,xC,λ_=>rfl⟩
include C X in
def EB{sv}(d:ShM b o w s)(e:s.ms=0)(h:pe P n b o kind (.iq sv) cs g):stepG P main g w=.go {g with status:=.blocked} w #[]:=by obtain⟨c,y,fr,frs,rfl,j,f,i,rfl⟩:=h;have a:=d.cs;rw[e]at a;exact Bi f (C.XJ b o kind sv) X.GG a
include C X in
def Qn(j:ShM b o w s)(h:pe P n b o kind .tq cs g):mN P n b o kind Wd cs g w main .tq s:=by
 obtain⟨c,y,fr,frs,rfl,k,i,d,rfl⟩:=h;have e:=Bj (P:=P) (main:=main) (cs:=frs++cs) (w:=w) i (C.YV b o kind) (by simp[TQ,cX]) X.nano X.Mw;have f:=i.re (y':={y with tn:=((w.os.mono+w.tick:Nat):Int)}) (.inl rfl) (.inl rfl) (.inl rfl) (.inr rfl);have a:=d.iB (y':={y with tn:=((w.os.mono+w.tick:Nat):Int)}) (by simpa[TQ,cX]using C.p2 b o kind);have key:=C.gT (Fl.of {y with tn:=((w.os.mono+w.tick:Nat):Int)}) b o kind (decide (IntKind.i64.wrap (((w.os.mono+w.tick:Nat):Int)-y.ws)>1000000));rw[VB rfl]at key;refine⟨_,_,_,.up (decide (IntKind.i64.wrap (((w.os.mono+w.tick:Nat):Int)-y.ws)>1000000)),s,.up _,e,?_,.up _,nxt (y:={y with tn:=((w.os.mono+w.tick:Nat):Int)}) key k f a rfl rfl,bt rfl ⟨⟨w.tick,rfl⟩,rfl⟩,j.heap rfl,gy,λ_=>rfl⟩;cases decide (IntKind.i64.wrap (((w.os.mono+w.tick:Nat):Int)-y.ws)>1000000)<;>simp[Mu.mv]
include C X in
def Qo{sv}(m:ShM b o w s)(hb:s.w.N<=1000)(v:∀q s',(q,s')∈Mu.mv (.up sv) s->Mu.loc q)(h:pe P n b o kind (.up sv) cs g):mN P n b o kind Wd cs g w main (.up sv) s:=by
 obtain⟨c,y,fr,frs,rfl,A,x,p,rfl⟩:=h;have f:({y with N:=(s.w.N:Int)}:Sy).ok:=⟨⟨by simp,by show(s.w.N:Int)<=1000;omega⟩,A.2⟩
 have i:=x.re (y':={y with N:=(s.w.N:Int)}) (.inr rfl) (.inl rfl) (.inl rfl) (.inl rfl)
 have e:=p.iB (y':={y with N:=(s.w.N:Int)}) (by simpa[UP,cX]using C.p2 b o kind)
 have j:=rQ (main:=main) (cs:=frs++cs) x (C.YW b o kind sv) X.Vy X.nS m.cw
 by_cases k:s.w.S=true
 . have r:(s.w.L||s.w.K||decide (s.w.N=0))=false:=by
    cases B:(s.w.L||s.w.K||decide (s.w.N=0))with
    |false=>rfl
    |true=>exact(v .bad s (by simp[Mu.mv,k,B])).elim
   have a:((.add s.w sv:Mu.Pc),s)∈Mu.mv (.up sv) s:=by simp[Mu.mv,k,r]
   simp only[acP,abE]at r;obtain⟨⟨D,E⟩,t⟩:=r;have key:=C.Qh (Fl.of {y with N:=(s.w.N:Int)}) b o kind sv (decide (s.w.N=1))
   rw[SM (by show decide ((s.w.N:Int)=0)=false;simpa using t) (by show decide ((s.w.N:Int)=1)=decide (s.w.N=1);rw[aco,acE,acE];omega)]at key
   have u:SR {y with N:=(s.w.N:Int)} (.word false false true 0) (.int .i32 (enc s.w.L s.w.K s.w.S s.w.N)):=by rw[D,E,k];exact rS rfl
   exact⟨_,w,#[],_,s,.add s.w sv,j,a,.add _ _,nxt (y:={y with N:=(s.w.N:Int)}) key f i e u rfl,bt rfl,m,gy,λ_=>rfl⟩
 . have d:s.w.S=false:=by simpa using k
   have a:(Mu.nx s.w ⟨true,sv,0⟩,s)∈Mu.mv (.up sv) s:=by simp[Mu.mv,d]
   have u:SR {y with N:=(s.w.N:Int)} (.word s.w.L s.w.K false 0) (.int .i32 (enc s.w.L s.w.K s.w.S s.w.N)):=by rw[d];exact rS rfl
   obtain⟨F,z,G,H,I⟩:=Vz (Wd:=Wd) (C.Ax (Fl.of {y with N:=(s.w.N:Int)}) b o kind s.w.L s.w.K sv) f i e u
   obtain⟨J,M,O⟩:=Iw C (Wd:=Wd) (cs:=cs) (old:=s.w) (l:=⟨true,sv,0⟩) f rfl (by rw[d];exact G) (by rw[d];exact H) (v _ _ a)
   exact⟨_,w,#[],_,s,Ui s.w ⟨true,sv,0⟩,j,a,RO _ _,⟨rfl,J,(I cs).trans M,O⟩,bt rfl,m,gy,λ_=>rfl⟩
include C X in
def MD{old sv}(d:ShM b o w s)(hb:s.w.N<=1000)(j:s.w.L=false)(k:s.w.S=true)(q:s.w.N≠0)(h:pe P n b o kind (.add old sv) cs g):mN P n b o kind Wd cs g w main (.add old sv) s:=by
 obtain⟨c,y,fr,frs,rfl,l,i,f,rfl⟩:=h;have a:=qQ (main:=main) (cs:=frs++cs) (w:=w) i (C.YX b o kind _) (by simp[AD,cX]) X.add (λx h=>h) d.cw (d.fz _)
 have e:IntKind.i32.wrap (enc s.w.L s.w.K s.w.S s.w.N+(if !sv||decide (old.N=1)then -11 else -7))=enc true s.w.K (s.w.S && !(!sv||decide (old.N=1))) (s.w.N-1:Nat):=by
  rw[j,k];have m:((s.w.N-1:Nat):Int)=(s.w.N:Int)-1:=by omega
  rw[m];generalize (!sv||decide (old.N=1))=x;have p:=mL (L:=false) (K:=s.w.K) (S:=true) (N:=(s.w.N:Int));rw[jG (by split<;>omega) (by split<;>omega)];unfold enc;cases x<;>cases s.w.K<;>simp[Bool.toNat]<;>omega
 rw[e]at a;exact⟨_,_,_,.held,{s with w:={s.w with L:=true,S:=s.w.S && !(!sv||decide (old.N=1)),N:=s.w.N-1}},.le,a,by simp[Mu.mv],.held,nxt (C.xz (Fl.of y) b o kind _) l i f trivial (.inr rfl),xa rfl,d.bc {s.w with L:=true,S:=s.w.S && !(!sv||decide (old.N=1)),N:=s.w.N-1},lE (.inl rfl),λ_=>rfl⟩
include C X in
def JB(t:ShM b o w s)(hb:s.w.N<=1000)(q:s.w.L=true)(h:pe P n b o kind .held cs g):mN P n b o kind Wd cs g w main .held s:=by
 obtain⟨c,y,fr,frs,rfl,A,z,u,rfl⟩:=h;have k:({y with N:=(s.w.N:Int)}:Sy).ok:=⟨⟨by simp,by show(s.w.N:Int)<=1000;omega⟩,A.2⟩
 have l:=z.re (y':={y with N:=(s.w.N:Int)}) (.inr rfl) (.inl rfl) (.inl rfl) (.inl rfl)
 have d:=u.iB (y':={y with N:=(s.w.N:Int)}) (by simpa[sV,qm]using(C.p3 b o kind).1)
 have i:=qQ (main:=main) (cs:=frs++cs) (w:=w) z (C.XL b o kind) (by simp[sV,qm]) X.add (λx h=>h) t.cw (t.fz _)
 have e:IntKind.i32.wrap (enc s.w.L s.w.K s.w.S s.w.N+-1)=enc false s.w.K s.w.S s.w.N:=by
  rw[q];have B:=mL (L:=true) (K:=s.w.K) (S:=s.w.S) (N:=(s.w.N:Int));rw[jG (by omega) (by omega)]
  unfold enc;simp[Bool.toNat];omega
 rw[e]at i;have m:=t.bc {s.w with L:=false}
 have p:SR {y with N:=(s.w.N:Int)} (.word false s.w.K s.w.S 0) (.int .i32 (enc false s.w.K s.w.S s.w.N)):=rS rfl
 by_cases r:s.w.S=true
 . have key:=C.YL (Fl.of {y with N:=(s.w.N:Int)}) b o kind (decide ((s.w.N:Int)=0)) s.w.K
   rw[r]at p;exact⟨_,_,_,.give,{s with w:={s.w with L:=false}},.give,i,by simp[Mu.mv,q,r,Mu.Wd.zero],.give,nxt (y:={y with N:=(s.w.N:Int)}) key k l d (by rw[r];exact p) (.inr rfl),xa rfl,m,lE (.inl rfl),λ_=>rfl⟩
 . have f:s.w.S=false:=by simpa using r
   by_cases v:(decide ((s.w.N:Int)=0)||s.w.K)=true
   . have key:=C.u5 (Fl.of {y with N:=(s.w.N:Int)}) b o kind (decide ((s.w.N:Int)=0)) s.w.K v
     refine⟨_,_,_,.out,{s with w:={s.w with L:=false}},.ue,i,?_,.out,nxt (y:={y with N:=(s.w.N:Int)}) key k l d (by rw[f]at p ⊢;exact p) rfl,xa rfl,m,lE (.inl rfl),λ_=>rfl⟩
     have a:(decide (s.w.N=0)||s.w.K)=true:=by simpa using v
     simp only[Mu.mv,q,acC,aat,lb,zU,and_true];split
     . rfl
     . simp only
   . have a:(decide ((s.w.N:Int)=0)||s.w.K)=false:=by simpa using v
     simp only[acP,abE]at a;have j:s.w.N≠0:=by have:=a.1;omega
     have key:=C.YM (Fl.of {y with N:=(s.w.N:Int)}) b o kind
     rw[Iv (by show decide ((s.w.N:Int)=0)=false;simpa using j)]at key
     rw[a.2,f]at p;refine⟨_,_,_,.jM {s.w with L:=false},{s with w:={s.w with L:=false}},.jM _,i,?_,.jM _,nxt (y:={y with N:=(s.w.N:Int)}) key k l d (by rw[a.2,f];exact p) ⟨rfl,rfl,rfl,a.2,f,j⟩,xa rfl,m,lE (.inl rfl),λ_=>rfl⟩
     have D:({s.w with L:=false}:Mu.Wd)≠Mu.Wd.zero:=λe=>j (by have:=congrArg Mu.Wd.N e;exact this)
     simp[Mu.mv,q,f,j,a.2,Mu.Wd.zero]
include C X in
def JC{old}(d:ShM b o w s)(h:pe P n b o kind (.jM old) cs g):mN P n b o kind Wd cs g w main (.jM old) s:=by
 obtain⟨c,y,fr,frs,⟨rfl,k,q,r,t,l⟩,u,i,f,rfl⟩:=h;obtain⟨L,K,S,N⟩:=old;simp only at k q r t l;subst q;subst r;subst t;have v:(UC P n b o kind).1.kind≠.early:=by simp[UC,wA]
 have hold:∀x,SR y wf x->x=.int .i32 (enc false false false N):=λx m=>by have:=m.1;rw[k,adl]at this;exact this
 have a:∀x,SR y (.word false true false (-1)) x->x=.int .i32 (enc false true false (N-1:Nat)):=λx m=>by have:=m.1;rw[k]at this;rw[this];congr 2;omega
 by_cases j:s.w=⟨false,false,false,N⟩
 . have z:=d.cw
   rw[j]at z;exact⟨_,_,_,.give,{s with w:=⟨false,true,false,N-1⟩},.give,iN i (C.XN b o kind) v X.lx hold a z (d.fz o),by simp[Mu.mv,j],.give,nxt (C.YN (Fl.of y) b o kind) u i f rfl (.inl rfl),xa rfl,d.bc ⟨false,true,false,N-1⟩,lE (.inl rfl),λ_=>rfl⟩
 . have p:¬enc s.w.L s.w.K s.w.S s.w.N=enc false false false N:=λe=>j (RP.2 e)
   exact⟨_,_,_,.wY,s,.wY,jf i (C.XN b o kind) v X.lx hold a d.cw (d.fz o) p,by simp[Mu.mv,j],.wY,nxt (C.YO (Fl.of y) b o kind) u i f rfl rfl,bt rfl,d,Io (.inl rfl),λ_=>rfl⟩
include C X in
def ME(k:ShM b o w s)(hb:s.w.N<=1000)(h:pe P n b o kind .wY cs g):mN P n b o kind Wd cs g w main .wY s:=by
 obtain⟨c,y,fr,frs,rfl,x,v,l,rfl⟩:=h;have e:({y with N:=(s.w.N:Int)}:Sy).ok:=⟨⟨by simp,by show(s.w.N:Int)<=1000;omega⟩,x.2⟩
 have f:=v.re (y':={y with N:=(s.w.N:Int)}) (.inr rfl) (.inl rfl) (.inl rfl) (.inl rfl)
 have d:=l.iB (y':={y with N:=(s.w.N:Int)}) (by simpa[PH,wA]using C.p4 b o kind)
 have i:=rQ (main:=main) (cs:=frs++cs) v (C.Y4 b o kind) X.Vy X.nV k.cw;have m:SR {y with N:=(s.w.N:Int)} (.word s.w.L s.w.K s.w.S 0) (.int .i32 (enc s.w.L s.w.K s.w.S s.w.N)):=rS rfl
 by_cases p:(decide ((s.w.N:Int)=0)||s.w.L||s.w.K||s.w.S)=true
 . have key:=C.u7 (Fl.of {y with N:=(s.w.N:Int)}) b o kind (decide ((s.w.N:Int)=0)) s.w.L s.w.K s.w.S p
   have a:(decide (s.w.N=0)||s.w.L||s.w.K||s.w.S)=true:=by simpa using p
   exact⟨_,w,#[],.out,s,.ue,i,by simp only[Mu.mv,a,aay,lb],.out,nxt (y:={y with N:=(s.w.N:Int)}) key e f d m rfl,bt rfl,k,gy,λ_=>rfl⟩
 . have a:(decide ((s.w.N:Int)=0)||s.w.L||s.w.K||s.w.S)=false:=by simpa using p
   have q:(decide (s.w.N=0)||s.w.L||s.w.K||s.w.S)=false:=by rw[<-a];simp
   simp only[acP,abE]at a;obtain⟨⟨⟨z,r⟩,t⟩,u⟩:=a;have j:s.w.N≠0:=by omega
   have key:=C.YP (Fl.of {y with N:=(s.w.N:Int)}) b o kind
   rw[Iv (by show decide ((s.w.N:Int)=0)=false;simpa using j)]at key
   rw[r,t,u]at m;exact⟨_,w,#[],.jM s.w,s,.jM _,i,by simp only[Mu.mv,q,aap,aat,lb],.jM _,nxt (y:={y with N:=(s.w.N:Int)}) key e f d (by rw[r,t,u];exact m) ⟨rfl,rfl,r,t,u,j⟩,bt rfl,k,gy,λ_=>rfl⟩
include C X in
def JD(d:ShM b o w s)(l:s.ms<=1000)(h:pe P n b o kind .give cs g):mN P n b o kind Wd cs g w main .give s:=by
 obtain⟨c,y,fr,frs,k,j,i,f,rfl⟩:=h;have e:IntKind.u32.wrap ((s.ms:Int)+1)=((s.ms+1:Nat):Int):=by rw[IntKind.wrap_u32];omega
 rcases k with rfl|rfl
 . have a:=pI (main:=main) (cs:=frs++cs) (w:=w) i (C.XO b o kind) (by simp[G7,wA]) X.pJ d.cs (d.fz _)
   rw[e]at a;exact⟨_,_,_,.out,{s with ms:=s.ms+1},.ue,a,by simp[Mu.mv],.out,nxt (C.u8 (Fl.of y) b o kind) j i f rfl rfl,Qj rfl,d.GL _,xC,λ_=>rfl⟩
 . have a:=pI (main:=main) (cs:=frs++cs) (w:=w) i (C.XP b o kind) (by simp[G9,wA]) X.pJ d.cs (d.fz _)
   rw[e]at a;exact⟨_,_,_,.out,{s with ms:=s.ms+1},.ue,a,by simp[Mu.mv],.out,nxt (C.u9 (Fl.of y) b o kind) j i f rfl rfl,Qj rfl,d.GL _,xC,λ_=>rfl⟩
end
