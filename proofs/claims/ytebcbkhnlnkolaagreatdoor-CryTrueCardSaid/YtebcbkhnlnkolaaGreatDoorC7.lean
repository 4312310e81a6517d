import Derived.Conc.ClockLaws
import Derived.Conc.MarkLaws
import Derived.Conc.AtomicLaws2
import Derived.Conc.SmallLaws
import Derived.Laws.LoneSync
import Derived.Test.YtebcbkhnlnkolaaGreatDoorC6
set_option linter.all false
namespace Go.cE
open Go.Conc
abbrev acF:=List (Nat × SV)
def bc(s:pF):Option (FuncId × List SV):=
 match s.mode,s.todo with
 | .run, .inRegion ops (i::_)::_=>match ops[i]? with
   | some o=>match zW ops s.env o with
     | some true=>match o.op with
       | .call c=>match c.callee with
         |.value (.func f)=>some (f,c.args.toList.map (sv s.env))
         |_=>none
       |_=>none
     |_=>none
   |none=>none
 |_,_=>none
def rl(s:pF):Option (TypeId × SV):=
 match s.mode,s.todo with
 | .run,.inRegion ops (i::_)::_=>match ops[i]? with
   | some o=>match zW ops s.env o with
     | some true=>match o.op with
       |.load t x=>some (t,sv s.env x)
       |_=>none
     |_=>none
   |none=>none
 |_,_=>none
structure Ext(P:adh)(f:FuncId)  e :Prop where
 ex:∃fn,P.funcs[f]?=some fn/\(fn.name==  "runtime.NumGoroutine")=false/\fn.body.isNone=true/\Extern.findNext fn=none/\Extern.find fn=some e
def dt {y s fr f svs} (j:FR y s fr) (h:bc s=some (f,svs)) :
 ∃ ops i rest kk o as a,ops[i]? = some o∧Region.wanted o (yielded ops fr.tmps)=true∧o.op = .call { callee:=.value (.func f),args:=as,argTypes:=a }∧svs=as.toList.map (sv s.env) ∧
   fr=(fr.at ⟨fr.tmps,fr.defers⟩ (.inRegion ops (i :: rest) :: kk))∧∀ v,fr.at ((⟨fr.tmps,fr.defers⟩:Act).put o.dst v) (.inRegion ops rest :: kk)=fr.finish v:=by
 have d:=j;obtain⟨fn,tmps,todo,defs,mode,kind,ro⟩:=fr;obtain⟨n,e,p,b,q,k,r,t⟩:=j;simp only at n e p b q k r t;subst k;unfold bc at h;split at h
 . rename_i ops i rest kk u w
   rw[u] at b;rw[w] at e;have b:mode = .run:=b;subst b;subst e;split at h
   . rename_i o l
     split at h
     . rename_i x
       split at h
       . rename_i c z
         split at h
         . rename_i g m
           simp only[kn,zH] at h;obtain⟨rfl,rfl⟩:=h;obtain⟨callee,args,a⟩:=c;simp only at m;subst m;refine⟨ops,i,rest,kk,o,args,a,l,pW d x,z,rfl,rfl,fun v=>?_⟩
           simp only[Frame.finish,l,Option.bind_some,Act.put,Frame.at]
           grind
         . cases h
       . cases h
     . cases h
   . cases h
 . cases h
section
variable{P:adh}{main:Bool}{y:Sy}{s:pF}{fr:Frame}{f:FuncId}{svs:List SV}{cs:acR}{w:World}
def C5{fr:Frame}  x :(⟨fr.tmps,fr.defers⟩:Act).eval x=fr.eval x:=by cases x<;>rfl
def By {as:Array adi} (b:FR y s fr) {svs} (h:svs=as.toList.map (sv s.env)):∀ (j:Nat)  v ,svs[j]? = some v->∃ x,(as.map (⟨fr.tmps,fr.defers⟩:Act).eval)[j]? = some x∧SR y v x:=fun j v a=>by
 subst h;rw[aaK,acw] at a;obtain⟨x,c,rfl⟩:=aat.1 a;exact⟨fr.eval x,by simp[c,C5],b.sv x⟩
def eQ {m} (d:∀ g,m ≠ .extern g) (c:FR y s fr) (h:bc s=some (f,svs)) (e:s.kind ≠ .early) (j:Ext P f (fun _=>do mark m;pure Extern.Race.none_)):stepG P main (G fr cs) w = .go (G (fr.finish (.tuple #[])) cs) w #[⟨.mark m,false,true⟩]:=by
 obtain⟨ops,i,rest,kk,o,as,k,l,n,p,x,z,A⟩:=dt c h;obtain⟨fn,q,r,t,u,v⟩:=j.ex;have:=stepG_mark0 (P:=P) (main:=main) (b:=fr) (a:=⟨fr.tmps,fr.defers⟩) (kk:=kk) (cs:=cs) (w:=w) (rest:=rest) m d l n (by rw[c.kind];exact e) p q r t u v
 grind
def fD {mk} (j:∀ ad g,mk ad ≠ .extern g) {ad} (d:FR y s fr) (h:bc s=some (f,[.lit (.pointer (some ad))])) (k:s.kind ≠ .early) (l:Ext P f (Extern.Race.marked mk)):stepG P main (G fr cs) w = .go (G (fr.finish (.tuple #[])) cs) w #[⟨.mark (mk ad),false,true⟩]:=by
 obtain⟨ops,i,rest,kk,o,as,m,n,p,q,r,B,C⟩:=dt d h;obtain⟨fn,t,u,v,z,A⟩:=l.ex;obtain⟨x,e,c⟩:=By d r 0 _ rfl;have c:x = .pointer (some ad):=c;rw[c] at e;have:=stepG_markAt (P:=P) (main:=main) (b:=fr) (a:=⟨fr.tmps,fr.defers⟩) (kk:=kk) (cs:=cs) (w:=w) (rest:=rest) mk j n p (by rw[d.kind];exact k) q t u v z A e
 grind
def C6 {as a b c} (h:[a,b,c]=as.toList.map (sv s.env)):∃ x z u,as=#[x,z,u]∧sv s.env x=a∧sv s.env z=b∧sv s.env u=c:=by
 obtain⟨l⟩:=as
 match l,h with
 | [x,z,u],h=>grind
def Lb {as a b} (h:[a,b]=as.toList.map (sv s.env)):∃ x z,as=#[x,z]∧sv s.env x=a∧sv s.env z=b:=by
 obtain⟨l⟩:=as
 match l,h with
 | [x,z],h=>grind
def Lc {as a} (h:[a]=as.toList.map (sv s.env)):∃ x,as=#[x]∧sv s.env x=a:=by
 obtain⟨l⟩:=as
 match l,h with
 | [x],h=>grind
def iN(b:FR y s fr){x a}(h:sv s.env x=a):SR y a ((⟨fr.tmps,fr.defers⟩:Act).eval x):=by subst h;rw[C5];exact b.sv x
def gX {k ad a b v n} (c:FR y s fr) (h:bc s=some (f,[.lit (.pointer (some ad)),a,b])) (e:s.kind ≠ .early) (g:Ext P f (Extern.Atomic.casT (.int k)))
 (j:∀ x,SR y a x->x = .int k v) (hb:∀ x,SR y b x->x = .int k n) (l:w.cell? ad=some (.int k v)) (m:w.frozen? ad=false) :
 stepG P main (G fr cs) w = .go (G (fr.finish (.bool true)) cs) (w.setCell ad (.int k n)) #[⟨.cell ad,false,true⟩,⟨.cell ad,true,true⟩]:=by
 obtain⟨ops,i,rest,kk,o,as,p,q,r,t,A,J,K⟩:=dt c h;obtain⟨fn,B,C,D,E,F⟩:=g.ex;obtain⟨x,z,u,rfl,H,d,I⟩:=C6 A;have:=stepG_cas_hit (P:=P) (main:=main) (b:=fr) (a:=⟨fr.tmps,fr.defers⟩) (kk:=kk) (cs:=cs) (w:=w) (rest:=rest) q r (by rw[c.kind];exact e) t B C D E k F (iN c H) (j _ (iN c d)) (hb _ (iN c I)) l m
 grind
def iE {k ad a b v old n} (c:FR y s fr) (h:bc s=some (f,[.lit (.pointer (some ad)),a,b])) (g:s.kind ≠ .early) (j:Ext P f (Extern.Atomic.casT (.int k)))
 (l:∀ x,SR y a x->x = .int k old) (hb:∀ x,SR y b x->x = .int k n) (m:w.cell? ad=some (.int k v)) (p:w.frozen? ad=false) (d : ¬ v=old) :
 stepG P main (G fr cs) w = .go (G (fr.finish (.bool false)) cs) w #[⟨.cell ad,false,true⟩]:=by
 obtain⟨ops,i,rest,kk,o,as,q,r,t,A,B,K,L⟩:=dt c h;obtain⟨fn,C,D,E,F,H⟩:=j.ex;obtain⟨x,z,u,rfl,I,e,J⟩:=C6 B;have:=stepG_cas_miss (P:=P) (main:=main) (b:=fr) (a:=⟨fr.tmps,fr.defers⟩) (kk:=kk) (cs:=cs) (w:=w) (rest:=rest) r t (by rw[c.kind];exact g) A C D E F k H (iN c I) (l _ (iN c e)) (hb _ (iN c J)) m p d
 grind
def pX {k ad a v d} (c:FR y s fr) (h:bc s=some (f,[.lit (.pointer (some ad)),a])) (g:s.kind ≠ .early) (j:Ext P f (Extern.Atomic.update (Op.intArith .add) k true))
 (l:∀ x,SR y a x->x = .int k d) (m:w.cell? ad=some (.int k v)) (n:w.frozen? ad=false) :
 stepG P main (G fr cs) w = .go (G (fr.finish (.int k (k.wrap (v+d)))) cs) (w.setCell ad (.int k (k.wrap (v+d)))) #[⟨.cell ad,false,true⟩,⟨.cell ad,true,true⟩]:=by
 obtain⟨ops,i,rest,kk,o,as,p,q,r,t,u,H,I⟩:=dt c h;obtain⟨fn,A,B,C,D,E⟩:=j.ex;obtain⟨x,z,rfl,F,e⟩:=Lb u;have:=stepG_add_atomic (P:=P) (main:=main) (b:=fr) (a:=⟨fr.tmps,fr.defers⟩) (kk:=kk) (cs:=cs) (w:=w) (rest:=rest) q r (by rw[c.kind];exact g) t A B C D k E (iN c F) (l _ (iN c e)) m n
 grind
def sW {ad l n} (d:FR y s fr) (h:bc s=some (f,.lit (.pointer (some ad)) :: l)) (g:s.kind ≠ .early) (j:Ext P f Extern.Sync.semacquire) (k:w.cell? ad=some (.int .u32 n)) (m:n≠0) (p:w.frozen? ad=false) :
 stepG P main (G fr cs) w = .go (G (fr.finish (.tuple #[])) cs) (w.setCell ad (.int .u32 (n-1))) (semEvents ad):=by
 obtain⟨ops,i,rest,kk,o,as,q,r,t,u,v,E,F⟩:=dt d h;obtain⟨fn,z,A,B,C,D⟩:=j.ex;obtain⟨x,e,c⟩:=By d v 0 _ rfl;have c:x = .pointer (some ad):=c;rw[c] at e;have:=stepG_semacquire (P:=P) (main:=main) (b:=fr) (a:=⟨fr.tmps,fr.defers⟩) (kk:=kk) (cs:=cs) (w:=w) (rest:=rest) r t (by rw[d.kind];exact g) u z A B C D e k m p
 grind
def z8 {ad l} (d:FR y s fr) (h:bc s=some (f,.lit (.pointer (some ad)) :: l)) (g:Ext P f Extern.Sync.semacquire) (j:w.cell? ad=some (.int .u32 0)) :
 stepG P main (G fr cs) w = .go { G fr cs with status:=.blocked } w #[]:=by
 obtain⟨ops,i,rest,kk,o,as,k,m,n,p,q,A,B⟩:=dt d h;obtain⟨fn,r,t,u,v,z⟩:=g.ex;obtain⟨x,e,c⟩:=By d q 0 _ rfl;have c:x = .pointer (some ad):=c;rw[c] at e;have:=stepG_semacquire_wait (P:=P) (main:=main) (b:=fr) (a:=⟨fr.tmps,fr.defers⟩) (kk:=kk) (cs:=cs) (w:=w) (rest:=rest) m n p r t u v z e j
 grind
def oB {ad l n} (d:FR y s fr) (h:bc s=some (f,.lit (.pointer (some ad)) :: l)) (g:s.kind ≠ .early) (j:Ext P f Extern.Sync.semrelease) (k:w.cell? ad=some (.int .u32 n)) (m:w.frozen? ad=false) :
 stepG P main (G fr cs) w = .go (G (fr.finish (.tuple #[])) cs) (w.setCell ad (.int .u32 (IntKind.u32.wrap (n+1)))) (semEvents ad):=by
 obtain⟨ops,i,rest,kk,o,as,p,q,r,t,u,D,E⟩:=dt d h;obtain⟨fn,v,z,A,B,C⟩:=j.ex;obtain⟨x,e,c⟩:=By d u 0 _ rfl;have c:x = .pointer (some ad):=c;rw[c] at e;have:=stepG_semrelease (P:=P) (main:=main) (b:=fr) (a:=⟨fr.tmps,fr.defers⟩) (kk:=kk) (cs:=cs) (w:=w) (rest:=rest) q r (by rw[d.kind];exact g) t v z A B C e k m
 grind
def z9 (d:FR y s fr) (h:bc s=some (f,svs)) (e:s.kind ≠ .early) (g:Ext P f Extern.OsHooks.nano) (j:∃ fn,P.funcs[f]? = some fn∧fn.norace=true) :
 stepG P main (G fr cs) w = .go (G (fr.finish (.int .i64 ((w.os.mono+w.tick:Nat):Int))) cs) w.later #[]:=by
 obtain⟨ops,i,rest,kk,o,as,k,l,m,n,x,z,A⟩:=dt d h;obtain⟨fn,p,q,r,t,u⟩:=g.ex;obtain⟨c,B,v⟩:=j;obtain rfl:c=fn:=by grind
 have:=stepG_nanotime (P:=P) (main:=main) (b:=fr) (a:=⟨fr.tmps,fr.defers⟩) (kk:=kk) (cs:=cs) (w:=w) (rest:=rest) l m (by rw[d.kind];exact e) n p q r t u v
 grind
def It {n} (d:FR y s fr) (h:bc s=some (f,[.lit (.int .i64 n)])) (g:s.kind ≠ .early) (v:Ext P f Extern.Sync.canSpin) :
 ∃ b w',stepG P main (G fr cs) w = .go (G (fr.finish (.bool b)) cs) w' #[]∧(b=true->n<4)∧(w'=w∨w'=w.asked):=by
 obtain⟨ops,i,rest,kk,o,as,z,j,l,m,e,B,C⟩:=dt d h;obtain⟨fn,p,q,r,t,u⟩:=v.ex;obtain⟨x,rfl,A⟩:=Lc e;have c:(⟨fr.tmps,fr.defers⟩:Act).eval x = .int .i64 n:=iN d A
 by_cases e:n<4
 . have:=stepG_canSpin_ask (P:=P) (main:=main) (b:=fr) (a:=⟨fr.tmps,fr.defers⟩) (kk:=kk) (cs:=cs) (w:=w) (rest:=rest) j l (by rw[d.kind];exact g) m p q r t u (n:=n) (k:=.i64) (by simp[c]) e
   grind
 . have:=stepG_canSpin_no (P:=P) (main:=main) (b:=fr) (a:=⟨fr.tmps,fr.defers⟩) (kk:=kk) (cs:=cs) (w:=w) (rest:=rest) j l (by rw[d.kind];exact g) m p q r t u (n:=n) (k:=.i64) (by simp[c]) (by omega)
   grind
def uD {v} (c:FR y s fr) (h:bc s=some (f,svs)) (d:s.kind ≠ .early) (e:Ext P f (fun _=>pure v)):stepG P main (G fr cs) w = .go (G (fr.finish v) cs) w #[]:=by
 obtain⟨ops,i,rest,kk,o,as,g,j,k,l,t,u,x⟩:=dt c h;obtain⟨fn,m,n,p,q,r⟩:=e.ex;have:=stepG_entry (P:=P) (main:=main) (b:=fr) (a:=⟨fr.tmps,fr.defers⟩) (kk:=kk) (cs:=cs) (w:=w) (rest:=rest) (v:=v) (w':=w) (evs:=#[]) j k (by rw[c.kind];exact d) l m n p q r (by simp) (by simp) (by simp)
 grind
def Lf{α β P}{f:α->Sem β}  s :∀{a},nf P s=some a->∀w es,(s.bind f).runT P w es=(f a).runT P w es:=by
 induction s with
 |pure b=>intro a h w es;simp only[nf,kn]at h;subst h;rfl
 |program g c=>intro a h w es;simp only[nf]at h;exact c P h w es
 |_=>intro a h;simp[nf]at h
def qM{t:Nat}{ad v}(q:FR y s fr)(h:rl s=some (t,.lit (.pointer (some ad))))(C:nf P (isAgg t)=some false)(D:∃fn,P.funcs[s.fn]?=some fn/\fn.norace=true)(E:w.cell? ad=some v):
 stepG P main (G fr cs) w=.go (G (fr.finish v) cs) w #[]:=by
 have f:=q;obtain⟨fn,tmps,todo,defs,mode,kind,ro⟩:=fr;obtain⟨r,i,F,g,H,u,I,J⟩:=q;simp only at r i F g H u I J;subst u;unfold rl at h;split at h
 . rename_i ops z rest A K j
   rw[K]at g;rw[j]at i;have g:mode=.run:=g;subst g;subst i;split at h
   . rename_i o L
     split at h
     . rename_i M
       split at h
       . rename_i a x k
         simp only[kn,zH]at h;obtain⟨rfl,N⟩:=h;have d:=f.sv x;rw[N]at d;have d:Frame.eval ⟨fn,tmps,.inRegion ops (z::rest)::A,defs,.run,kind,none⟩ x=.pointer (some ad):=d;obtain⟨O,l,p⟩:=D;subst r;rw[nL L (pW f M)];have hex:execOp (Frame.eval ⟨s.fn,tmps,.inRegion ops (z::rest)::A,defs,.run,kind,none⟩) o=Sem.bind (Instr.loadAt a (.pointer (some ad))) (λv=>pure (Next.value v)):=by simp only[execOp,k,d];rfl
         have e:(Sem.bind (Instr.loadAt a (.pointer (some ad))) (λv=>(pure (Next.value v):Sem Next))).runT P w #[]=(.ok (.value v) w,#[⟨.cell ad,false,false⟩]):=by
          have Q:Instr.loadAt a (.pointer (some ad))=Sem.bind (isAgg a) (λb=>if b=true then Sem.bind (sizeOf a) (λn=>Sem.bind (loadCells ad n) (λc=>pure (.agg c)))else load ad):=rfl
          rw[Q]
          have R:Sem.bind (Sem.bind (isAgg a) (λb=>if b=true then Sem.bind (sizeOf a) (λn=>Sem.bind (loadCells ad n) (λc=>pure (.agg c)))else load ad)) (λv=>(pure (Next.value v):Sem Next))=
           Sem.bind (isAgg a) (λb=>Sem.bind (if b=true then Sem.bind (sizeOf a) (λn=>Sem.bind (loadCells ad n) (λc=>pure (.agg c)))else load ad) (λv=>(pure (Next.value v):Sem Next))):=bind_assoc (m:=Sem) _ _ _
          rw[R,Lf _ C];show(Sem.bind (load ad) (λv=>(pure (Next.value v):Sem Next))).runT P w #[]=_
          unfold load;show Sem.runT P (Sem.load .plain ad λv=>pure (Next.value v)) w #[]=_
          simp only[Sem.runT,E];rfl
         rw[hex]
         have S:seen P s.fn #[⟨.cell ad,false,false⟩]=#[]:=by rw[seen_def];simp[l,p,seenStep]
         simp only[stepG.apply,aan,e,GStep.after]
         by_cases B:(kind==CallKind.early)=true
         . simp[B,gJ,G]
         . simp[B,S,G]
       . cases h
     . cases h
   . cases h
 . cases h
def kG(s:pF):Option (TypeId × TypeId × SV):=
 match s.mode,s.todo with
 | .run,.inRegion ops (i::_)::_=>match ops[i]? with
   | some o=>match zW ops s.env o with
     | some true=>match o.op with
       |.convert a b x=>some (a,b,sv s.env x)
       |_=>none
     |_=>none
   |none=>none
 |_,_=>none
def uE{a b t ad}(l:FR y s fr)(h:kG s=some (a,b,.lit (.pointer (some ad))))(m:P.underlying a=some (.pointer t))(n:P.underlying b=some .unsafePointer)(p:(P.info? t).map (λi=>decide (i.size=0))=some false)(f:∃v,w.cell? ad=some v):
 stepG P main (G fr cs) w=.go (G (fr.finish (.pointer (some ad))) cs) w #[]:=by
 obtain⟨v,f⟩:=f;have d:=l;obtain⟨fn,tmps,todo,defs,mode,kind,ro⟩:=fr;obtain⟨z,g,A,e,B,q,C,D⟩:=l;simp only at z g A e B q C D;subst q;unfold kG at h;split at h
 . rename_i ops r rest u E j
   rw[E]at e;rw[j]at g;have e:mode=.run:=e;subst e;subst g;split at h
   . rename_i o F
     split at h
     . rename_i H
       split at h
       . rename_i I J x k
         simp only[kn,zH]at h;obtain⟨rfl,rfl,K⟩:=h;have c:=d.sv x;rw[K]at c;have c:Frame.eval ⟨fn,tmps,.inRegion ops (r::rest)::u,defs,.run,kind,none⟩ x=.pointer (some ad):=c;rw[nL F (pW d H)];have hex:execOp (Frame.eval ⟨fn,tmps,.inRegion ops (r::rest)::u,defs,.run,kind,none⟩) o=(do pure (.value (<-convert I J (.pointer (some ad)))):Sem Next):=by simp only[execOp,k,c]
         have L:=run_convert_to_unsafe m n p f;have M:=events_convert_to_unsafe m n p f #[];rw[hex];simp[stepG.apply,L,M,GStep.after,gJ,G,Result.andThen]
       . cases h
     . cases h
   . cases h
 . cases h
end
def dI(P:adh)(f:FuncId)(args:List SV)(kind:adb):pF:=
 match P.funcs[f]? with
 |some fn=>⟨f,[.code (fn.body.getD .skip)],args++List.replicate (fn.ntmps-args.length) .cC,[],.run,kind⟩
 |none=>⟨f,[],args,[],.run,kind⟩
abbrev cQ:=pF × List pF
def next(P:adh)(a:Fl)(c:cQ)(v:SV):cQ:=match xA c.1 v with|some s=>sgo P a 400 s c.2|none=>c
def pt(b o:Nat):SV:=.lit (.pointer (some ⟨b,o,none⟩))
def un:SV:=.lit (.tuple #[])
def tt:SV:=.lit (.bool true)
def ff:SV:=.lit (.bool false)
def He(live:acY)(env:List SV):List SV:=(List.range env.length).zipWith (λi v=>if live.contains i then v else .cC) env
def keep(live:acY)(s:pF):pF:={s with env:=He live s.env}
def Lg(env:List SV):acF->List SV
 |[]=>env
 |(i,v)::l=>Lg (env.set i v) l
def FR.keep{y:Sy}{s:pF}{fr:Frame}(h:FR y s fr)(live:acY):FR y (keep live s) fr:=by
 refine⟨h.fn,h.todo,h.defers,h.mode,h.kind,h.ro,?_,λt=>?_⟩
 . rw[h.size]
   show s.env.length=(He live s.env).length;rw[He,List.length_zipWith,abT,Nat.min_self]
 . have:=h.env t
   simp only[Go.cE.keep,He];rw[zs,List.getElem?_zipWith];by_cases a:t<s.env.length
   . rw[List.getElem?_range a,zR a]
     simp only[aba];split
     . simp_all
     . trivial
   simp_all
def plain:SV->Bool
 |.cC=>true
 |.lit _=>true
 |_=>false
def FR.gK{y y' s fr}(h:FR y s fr)(a:s.env.all plain=true):FR y' s fr:=by
 refine⟨h.fn,h.todo,h.defers,h.mode,h.kind,h.ro,h.size,λt=>?_⟩;have b:=h.env t
 have c:plain (s.env.getD t .cC)=true:=by
  rw[zs];cases q:s.env[t]? with
  |none=>rfl
  |some v=>grind
 generalize s.env.getD t .cC=v at *;cases v<;>simp_all [plain,SR]
structure C7 where
 lock:Nat
 unlock:Nat
 Ub:Nat
 wv:Nat
 RG:Nat
 QK:Nat
 jv:Nat
 en:Nat
 acq:Nat
 rel:Nat
 kB:Nat
 add:Nat
 Iu:Nat
 uF:Nat
 nano:Nat
 Fu:Nat
 oC:Nat
 tM:Nat
 tU:Nat
 tI:Nat
def Wk(c:cQ):acY:=[c.1.fn,c.1.todo.length,(match c.1.todo with|.inRegion ops (i::_)::_=>i|_=>999),(match bc c.1 with|some (f,_)=>f|none=>match rl c.1 with|some (t,_)=>1000+t|none=>999)]++c.2.map (·.fn)
def ln:Fl:=⟨false,false,false,false,false,false⟩
def Lh(P:adh)(f:Fl):Nat->pF->List pF->cQ
 |0,fr,st=>(fr,st)
 | n + 1,fr,st=>match ss P f fr st with
   | some (a,b)=>match a.todo with
     |.code _::.inLoop _::_=>(a,b)
     |_=>Lh P f n a b
   |none=>(fr,st)
def C8(live:acY)(c:cQ):cQ:=(keep live c.1,c.2.map (keep []))
def aQ(P:adh)(a:Fl)(live:acY)(c:cQ)(v:SV):Option cQ:=(xA c.1 v).map λs=>C8 live (sgo P a 400 s c.2)
def pY(P:adh)(a:Fl)(live:acY)(c:cQ)(v:SV):Option cQ:=(xA c.1 v).map λs=>C8 live (Lh P a 400 s c.2)
def Uc(P:adh)(a:Fl)(live:acY)(c:cQ):cQ:=C8 live (sgo P a 400 c.1 c.2)
def bl(x:Bool):SV:=.lit (.bool x)
def i64(n:Int):SV:=.lit (.int .i64 n)
def i32(n:Int):SV:=.lit (.int .i32 n)
def jk(n:Nat):List SV:=List.replicate n .cC
section
variable(P:adh)(n:C7)(b o:Nat)(kind:adb)
def wf:SV:=.word false false false 0
def wl:SV:=.word true false false 0
def Wm:cQ:=C8 [0] (sgo P ln 400 (dI P n.lock [pt b o] kind) [])
def Li:cQ:=next P ln (Wm P n b o kind) un
def Ud:cQ:=next P ln (Li P n b o kind) tt
def Ue:cQ:=next P ln (Ud P n b o kind) un
def Wo:cQ:=next P ln (Ue P n b o kind) (pt b o)
def Fv:cQ:=next P ln (Li P n b o kind) ff
def Zx:cQ:=(pY P ln [] (Fv P n b o kind) wf).getD (Fv P n b o kind)
def Wp:cQ:=next P ln (Fv P n b o kind) wl
def XC:cQ:=next P ln (Wp P n b o kind) tt
def XD:cQ:=next P ln (XC P n b o kind) tt
def Wq:cQ:=next P ln (XD P n b o kind) un
def RH:cQ:=next P ln (Wp P n b o kind) ff
def Wr:cQ:=next P ln (RH P n b o kind) ff
def Uf:cQ:=next P ln (next P ln (Fv P n b o kind) wf) tt
def Ug:cQ:=next P ln (Uf P n b o kind) un
def Wt:cQ:=next P ln (Ug P n b o kind) (pt b o)
def XE:cQ:=next P ln (RH P n b o kind) tt
def XF:cQ:=next P ln (XE P n b o kind) .Is
def XG:cQ:=next P ln (XF P n b o kind) un
def XH:cQ:=next P ln (XG P n b o kind) .now
def Zy:cQ:=next P ln (XH P n b o kind) (.word false false true 0)
def Uh:List pF:=(Wm P n b o kind).2
def V6:List pF:=(Fv P n b o kind).2.map (keep [])
def mJ(a:acU)(l:acF):cQ:=(⟨n.Ub,a,Lg (jk 13) l,[],.run,.normal⟩,Uh P n b o kind)
def cK(a:acU)(l:acF):cQ:=(⟨n.RG,a,Lg (jk 139) l,[],.run,.normal⟩,V6 P n b o kind)
def LD:cQ:=Wm P n b o kind
def uG:cQ:=mJ P n b o kind (Li P n b o kind).1.todo [(0,pt b o),(5,pt b o)]
def QL:cQ:=mJ P n b o kind (Ud P n b o kind).1.todo [(0,pt b o)]
def Tg:cQ:=mJ P n b o kind (Ue P n b o kind).1.todo [(8,pt b o)]
def QM:cQ:=mJ P n b o kind (Wo P n b o kind).1.todo [(9,pt b o)]
def BK:cQ:=(⟨n.lock,[],jk 6,[],.ret,kind⟩,[])
def QN(aw sv:Bool)(it:Int):acF:=[(0,pt b o),(2,.Is),(3,bl sv),(4,bl aw),(5,i64 it)]
def V7:cQ:=cK P n b o kind (Fv P n b o kind).1.todo [(0,pt b o),(2,i64 0),(3,ff),(4,ff),(5,i64 0),(12,pt b o)]
def RI(aw sv:Bool)(it:Int):cQ:=cK P n b o kind (Fv P n b o kind).1.todo (QN b o aw sv it++[(12,pt b o)])
def Hf(aw sv:Bool)(it:Int):cQ:=cK P n b o kind (Wq P n b o kind).1.todo (QN b o aw sv it++[(47,pt b o)])
def RJ(aw sv:Bool)(it:Int):cQ:=cK P n b o kind (Wr P n b o kind).1.todo (QN b o aw sv it++[(133,pt b o)])
def HD(L K S aw sv:Bool)(it:Int):cQ:=cK P n b o kind (Zx P n b o kind).1.todo (QN b o aw sv it++[(6,.word L K S 0)])
def SQ(K aw sv:Bool)(it:Int):cQ:=cK P n b o kind (Wp P n b o kind).1.todo (QN b o aw sv it++[(6,.word true K false 0),(17,tt),(18,i64 it)])
def SW(it:Int):cQ:=cK P n b o kind (XC P n b o kind).1.todo (QN b o false false it++[(33,tt),(36,pt b o),(37,.word true false false 0),(39,.word true true false 0)])
def DS(aw sv:Bool)(it:Int):cQ:=cK P n b o kind (XD P n b o kind).1.todo (QN b o aw sv it)
def Pb(L K S aw sv:Bool):SV:=.word (L||!S) (if aw then false else K) (S||(sv && L)) (if L||S then 1 else 0)
def C9(L K S aw sv:Bool)(it:Int):cQ:=cK P n b o kind (RH P n b o kind).1.todo (QN b o aw sv it++[(6,.word L K S 0),(77,pt b o),(78,.word L K S 0),(79,Pb L K S aw sv)])
def T1(sv:Bool):cQ:=cK P n b o kind (XE P n b o kind).1.todo [(0,pt b o),(3,bl sv)]
def PK(sv:Bool):cQ:=cK P n b o kind (XF P n b o kind).1.todo [(0,pt b o),(2,.Is),(3,bl sv),(91,pt b (o+1))]
def TQ:cQ:=cK P n b o kind (XG P n b o kind).1.todo [(0,pt b o),(2,.Is),(95,ff)]
def UP(sv:Bool):cQ:=cK P n b o kind (XH P n b o kind).1.todo [(0,pt b o),(2,.Is),(3,bl sv),(103,pt b o)]
def AD(d:Int):cQ:=cK P n b o kind (Zy P n b o kind).1.todo [(0,pt b o),(128,pt b o),(129,i32 d)]
def OK:cQ:=cK P n b o kind (Uf P n b o kind).1.todo [(0,pt b o)]
def Ti:cQ:=cK P n b o kind (Ug P n b o kind).1.todo [(136,pt b o)]
def QO:cQ:=cK P n b o kind (Wt P n b o kind).1.todo [(137,pt b o)]
def Wu:cQ:=C8 [0,5] (sgo P ln 400 (dI P n.unlock [pt b o] kind) [])
def Ui:cQ:=next P ln (Wu P n b o kind) .cC
def XI:cQ:=next P ln (Ui P n b o kind) (pt b o)
def XJ:cQ:=next P ln (XI P n b o kind) un
def Hg:cQ:=next P ln (XJ P n b o kind) un
def Zz:cQ:=next P {ln with n0:=true} (Hg P n b o kind) wf
def V8:cQ:=next P ln (Hg P n b o kind) wf
def ZA:cQ:=next P ln (Hg P n b o kind) (.word false false true 0)
def ZB:cQ:=next P ln (V8 P n b o kind) tt
def Wv:cQ:=next P ln (V8 P n b o kind) ff
def Uj:List pF:=(Wu P n b o kind).2
def Ww:List pF:=(V8 P n b o kind).2.map (keep [])
def pq(a:acU)(l:acF):cQ:=(⟨n.wv,a,Lg (jk 21) l,[],.run,.normal⟩,Uj P n b o kind)
def vB(a:acU)(l:acF):cQ:=(⟨n.QK,a,Lg (jk 43) l,[],.run,.normal⟩,Ww P n b o kind)
def U0:cQ:=Wu P n b o kind
def Tj:cQ:=pq P n b o kind (Ui P n b o kind).1.todo [(0,pt b o),(7,pt b o)]
def UR:cQ:=pq P n b o kind (XI P n b o kind).1.todo [(0,pt b o),(8,pt b o)]
def UD:cQ:=pq P n b o kind (XJ P n b o kind).1.todo [(0,pt b o)]
def r6:cQ:=pq P n b o kind (Hg P n b o kind).1.todo [(0,pt b o),(13,pt b o),(14,.cC)]
def UE:cQ:=pq P n b o kind (Zz P n b o kind).1.todo []
def UC:cQ:=vB P n b o kind (V8 P n b o kind).1.todo [(0,pt b o),(27,pt b o),(28,wf),(29,.word false true false (-1))]
def G7:cQ:=vB P n b o kind (ZB P n b o kind).1.todo [(33,pt b (o+1))]
def G9:cQ:=vB P n b o kind (ZA P n b o kind).1.todo [(41,pt b (o+1))]
def OL:cQ:=vB P n b o kind (Wv P n b o kind).1.todo [(0,pt b o),(37,pt b o)]
def Uk:cQ:=(⟨n.unlock,[],jk 6,[],.ret,kind⟩,[])
end
structure gq  P   n :Prop where
 e1:∀  fl  b o kind,aQ P fl [0,5] (LD P n b o kind) un=some (uG P n b o kind)
 e2:∀  fl  b o kind,aQ P fl [0] (uG P n b o kind) tt=some (QL P n b o kind)
 e3:∀  fl  b o kind,aQ P fl [0,2,3,4,5,12] (uG P n b o kind) ff=some (V7 P n b o kind)
 e4:∀  fl  b o kind,aQ P fl [8] (QL P n b o kind) un=some (Tg P n b o kind)
 e5:∀  fl  b o kind,aQ P fl [9] (Tg P n b o kind) (pt b o)=some (QM P n b o kind)
 e6:∀  fl  b o kind,aQ P fl [] (QM P n b o kind) un=some (BK n kind)
 XK:∀  fl  b o kind L K S aw sv it,pY P fl [0,2,3,4,5,6] (RI P n b o kind aw sv it) (.word L K S 0)=some (HD P n b o kind L K S aw sv it)
 RK:∀  fl  b o kind L K S aw sv it,pY P fl [0,2,3,4,5,6] (Hf P n b o kind aw sv it) (.word L K S 0)=some (HD P n b o kind L K S aw sv it)
 XL:∀  fl  b o kind L K S aw sv it,pY P fl [0,2,3,4,5,6] (RJ P n b o kind aw sv it) (.word L K S 0)=some (HD P n b o kind L K S aw sv it)
 e8:∀  fl  b o kind K aw sv it,Uc P fl [0,2,3,4,5,6,17,18] (HD P n b o kind true K false aw sv it)=SQ P n b o kind K aw sv it
 e9:∀  fl  b o kind L K S aw sv it,(L && !S)=false->(aw && !K)=false->Uc P fl [0,2,3,4,5,6,77,78,79] (HD P n b o kind L K S aw sv it)=C9 P n b o kind L K S aw sv it
 aZ:∀(fl:Fl) b o kind it,aQ P {fl with n0:=false} [0,2,3,4,5,33,36,37,39] (SQ P n b o kind false false false it) tt=some (SW P n b o kind it)
 Ul:∀(fl:Fl) b o kind n0 K aw sv it,(!aw && !K && !n0)=false->aQ P {fl with n0:=n0} [0,2,3,4,5] (SQ P n b o kind K aw sv it) tt=some (DS P n b o kind aw sv it)
 bd:∀  fl  b o kind K aw sv it,(aw && !K)=false->aQ P fl [0,2,3,4,5,6,77,78,79] (SQ P n b o kind K aw sv it) ff=some (C9 P n b o kind true K false aw sv it)
 bs:∀  fl  b o kind r it,aQ P fl [0,2,3,4,5] (SW P n b o kind it) (bl r)=some (DS P n b o kind r false it)
 Fw:∀  fl  b o kind aw sv,aQ P fl [0,2,3,4,5,47] (DS P n b o kind aw sv 0) un=some (Hf P n b o kind aw sv 1)
 Fx:∀  fl  b o kind aw sv,aQ P fl [0,2,3,4,5,47] (DS P n b o kind aw sv 1) un=some (Hf P n b o kind aw sv 2)
 Um:∀  fl  b o kind aw sv,aQ P fl [0,2,3,4,5,47] (DS P n b o kind aw sv 2) un=some (Hf P n b o kind aw sv 3)
 Uo:∀  fl  b o kind aw sv,aQ P fl [0,2,3,4,5,47] (DS P n b o kind aw sv 3) un=some (Hf P n b o kind aw sv 4)
 iO:∀  fl  b o kind K aw sv it,aQ P fl [0] (C9 P n b o kind false K false aw sv it) tt=some (OK P n b o kind)
 Up:∀(fl:Fl) b o kind L K S aw sv it,(L||S)=true->aQ P {fl with wz:=true} [0,3] (C9 P n b o kind L K S aw sv it) tt=some (T1 P n b o kind sv)
 Uq:∀(fl:Fl) b o kind L K S aw sv it,(L||S)=true->aQ P {fl with wz:=false} [0,2,3,91] (C9 P n b o kind L K S aw sv it) tt=some (PK P n b o kind sv)
 Bz:∀  fl  b o kind L K S aw sv it,aQ P fl [0,2,3,4,5,133] (C9 P n b o kind L K S aw sv it) ff=some (RJ P n b o kind aw sv it)
 xC:∀  fl  b o kind sv,aQ P fl [0,2,3,91] (T1 P n b o kind sv) .Is=some (PK P n b o kind sv)
 Ur:∀  fl  b o kind,aQ P fl [0,2,3,103] (PK P n b o kind true) un=some (UP P n b o kind true)
 Us:∀  fl  b o kind,aQ P fl [0,2,95] (PK P n b o kind false) un=some (TQ P n b o kind)
 ui:∀(fl:Fl) b o kind x,aQ P {fl with tb:=x} [0,2,3,103] (TQ P n b o kind) .now=some (UP P n b o kind x)
 Pd:∀(fl:Fl) b o kind sv n1,aQ P {fl with n0:=false,n1:=n1} [0,128,129] (UP P n b o kind sv) (.word false false true 0)=some (AD P n b o kind (if !sv||n1 then -11 else -7))
 zk:∀(fl:Fl) b o kind L K sv,pY P fl [0,2,3,4,5,6] (UP P n b o kind sv) (.word L K false 0)=some (HD P n b o kind L K false true sv 0)
 wx:∀(fl:Fl) b o kind d,aQ P fl [0] (AD P n b o kind d) .cC=some (OK P n b o kind)
 wy:∀(fl:Fl) b o kind,aQ P fl [136] (OK P n b o kind) un=some (Ti P n b o kind)
 Ku:∀(fl:Fl) b o kind,aQ P fl [137] (Ti P n b o kind) (pt b o)=some (QO P n b o kind)
 wA:∀(fl:Fl) b o kind,aQ P fl [] (QO P n b o kind) un=some (BK n kind)
 u1:∀(fl:Fl) b o kind,aQ P fl [0,7] (U0 P n b o kind) .cC=some (Tj P n b o kind)
 u2:∀(fl:Fl) b o kind,aQ P fl [0,8] (Tj P n b o kind) (pt b o)=some (UR P n b o kind)
 u3:∀(fl:Fl) b o kind,aQ P fl [0] (UR P n b o kind) un=some (UD P n b o kind)
 u4:∀(fl:Fl) b o kind,aQ P fl [0,13] (UD P n b o kind) un=some (r6 P n b o kind)
 u5:∀(fl:Fl) b o kind n0 K,(n0||K)=true->aQ P {fl with n0:=n0} [] (r6 P n b o kind) (.word false K false 0)=some (UE P n b o kind)
 XN:∀(fl:Fl) b o kind n0 K,aQ P {fl with n0:=n0} [41] (r6 P n b o kind) (.word false K true 0)=some (G9 P n b o kind)
 XO:∀(fl:Fl) b o kind,aQ P {fl with n0:=false} [0,27,28,29] (r6 P n b o kind) (.word false false false 0)=some (UC P n b o kind)
 XP:∀(fl:Fl) b o kind,aQ P fl [33] (UC P n b o kind) tt=some (G7 P n b o kind)
 XQ:∀(fl:Fl) b o kind,aQ P fl [0,37] (UC P n b o kind) ff=some (OL P n b o kind)
 u7:∀(fl:Fl) b o kind n0 L K S,(n0||L||K||S)=true->aQ P {fl with n0:=n0} [] (OL P n b o kind) (.word L K S 0)=some (UE P n b o kind)
 XR:∀(fl:Fl) b o kind,aQ P {fl with n0:=false} [0,27,28,29] (OL P n b o kind) (.word false false false 0)=some (UC P n b o kind)
 u8:∀(fl:Fl) b o kind,aQ P fl [] (G7 P n b o kind) un=some (UE P n b o kind)
 u9:∀(fl:Fl) b o kind,aQ P fl [] (G9 P n b o kind) un=some (UE P n b o kind)
 XS:∀(fl:Fl) b o kind,aQ P fl [] (UE P n b o kind) un=some (Uk n kind)
 o1:∀b o kind,bc (LD P n b o kind).1=some (n.jv,[])/\(LD P n b o kind).1.kind=.normal
 o2:∀b o kind,bc (uG P n b o kind).1=some (n.kB,[pt b o,i32 0,i32 1])
 o3:∀b o kind,bc (QL P n b o kind).1=some (n.en,[])
 o4:∀b o kind,kG (Tg P n b o kind).1=some (n.tM,n.tU,pt b o)
 o5:∀b o kind,bc (QM P n b o kind).1=some (n.acq,[pt b o])
 XT:∀b o kind aw sv it,rl (RI P n b o kind aw sv it).1=some (n.tI,pt b o)
 XU:∀b o kind aw sv it,rl (Hf P n b o kind aw sv it).1=some (n.tI,pt b o)
 XV:∀b o kind aw sv it,rl (RJ P n b o kind aw sv it).1=some (n.tI,pt b o)
 o7:∀b o kind K aw sv it,bc (SQ P n b o kind K aw sv it).1=some (n.Iu,[i64 it])
 o8:∀b o kind it,bc (SW P n b o kind it).1=some (n.kB,[pt b o,.word true false false 0,.word true true false 0])
 o9:∀b o kind aw sv it,bc (DS P n b o kind aw sv it).1=some (n.uF,[])
 Wx:∀b o kind L K S aw sv it,bc (C9 P n b o kind L K S aw sv it).1=some (n.kB,[pt b o,.word L K S 0,Pb L K S aw sv])
 XW:∀b o kind sv,bc (T1 P n b o kind sv).1=some (n.nano,[])
 Wy:∀b o kind sv,bc (PK P n b o kind sv).1=some (n.Fu,[pt b (o+1),.cC,i64 2])
 XX:∀b o kind,bc (TQ P n b o kind).1=some (n.nano,[])
 XY:∀b o kind sv,rl (UP P n b o kind sv).1=some (n.tI,pt b o)
 XZ:∀b o kind d,bc (AD P n b o kind d).1=some (n.add,[pt b o,i32 d])
 X1:∀b o kind,bc (OK P n b o kind).1=some (n.en,[])
 X2:∀b o kind,kG (Ti P n b o kind).1=some (n.tM,n.tU,pt b o)
 X3:∀b o kind,bc (QO P n b o kind).1=some (n.acq,[pt b o])
 Wz:∀b o kind,rl (U0 P n b o kind).1=some (n.tI,pt b o)/\(U0 P n b o kind).1.kind=.normal/\(U0 P n b o kind).1.fn=n.wv
 X4:∀b o kind,kG (Tj P n b o kind).1=some (n.tM,n.tU,pt b o)
 X5:∀b o kind,bc (UR P n b o kind).1=some (n.rel,[pt b o])
 X6:∀b o kind,bc (UD P n b o kind).1=some (n.jv,[])
 WG:∀b o kind,bc (r6 P n b o kind).1=some (n.add,[pt b o,i32 (-1)])
 WH:∀b o kind,bc (UC P n b o kind).1=some (n.kB,[pt b o,wf,.word false true false (-1)])
 WI:∀b o kind,bc (G7 P n b o kind).1=some (n.oC,[pt b (o+1),ff,i64 2])
 WJ:∀b o kind,bc (G9 P n b o kind).1=some (n.oC,[pt b (o+1),tt,i64 2])
 X7:∀b o kind,rl (OL P n b o kind).1=some (n.tI,pt b o)
 X8:∀b o kind,bc (UE P n b o kind).1=some (n.en,[])
 p1:∀b o kind,(Uh P n b o kind).all (·.env.all plain)=true/\(LD P n b o kind).1.env.all plain=true/\(LD P n b o kind).2=Uh P n b o kind
 p2:∀b o kind,(V6 P n b o kind).all (·.env.all plain)=true
 p3:∀b o kind,(Uj P n b o kind).all (·.env.all plain)=true/\(U0 P n b o kind).1.env.all plain=true/\(U0 P n b o kind).2=Uj P n b o kind
 p4:∀b o kind,(Ww P n b o kind).all (·.env.all plain)=true
structure gu  P  (n:C7):Prop where
 jv:Ext P n.jv (λ_=>do mark .disable;pure Extern.Race.none_)
 en:Ext P n.en (λ_=>do mark .enable;pure Extern.Race.none_)
 acq:Ext P n.acq (Extern.Race.marked .acquire)
 rel:Ext P n.rel (Extern.Race.marked .releaseMerge)
 kB:Ext P n.kB (Extern.Atomic.casT (.int .i32))
 add:Ext P n.add (Extern.Atomic.update (Op.intArith .add) .i32 true)
 Iu:Ext P n.Iu Extern.Sync.canSpin
 uF:Ext P n.uF (λ_=>pure (.tuple #[]))
 nano:Ext P n.nano Extern.OsHooks.nano
 Lj:∃fn,P.funcs[n.nano]?=some fn/\fn.norace=true
 Fu:Ext P n.Fu Extern.Sync.semacquire
 oC:Ext P n.oC Extern.Sync.semrelease
 Ut:nf P (isAgg n.tI)=some false
 X9:∃t,P.underlying n.tM=some (.pointer t)/\P.underlying n.tU=some .unsafePointer/\(P.info? t).map (λi=>decide (i.size=0))=some false
 nS:∃fn,P.funcs[n.RG]?=some fn/\fn.norace=true
 nU:∃fn,P.funcs[n.wv]?=some fn/\fn.norace=true
 nV:∃fn,P.funcs[n.QK]?=some fn/\fn.norace=true
def Sy.ok(y:Sy):Prop:=(0<=y.N/\y.N<=1000)/\(0<=y.c/\y.c<=1000)
def Fl.of(y:Sy):Fl:=⟨decide (y.N=0),decide (y.N=1),decide (y.c=0),decide (y.c=1),decide (y.ws=0),decide (IntKind.i64.wrap (y.tn-y.ws)>1000000)⟩
def Fl.C'{y}(h:y.ok):(Fl.of y).At y:=⟨h.1,h.2,rfl,rfl,rfl,rfl,rfl,rfl⟩
def Hh:SV->Bool|.word ..=>true|.cnt=>true|_=>false
def Ll:SV->Bool|.eE _=>true|.Hd=>true|.Ir=>true|_=>false
def Lm:SV->Bool|.Is=>true|.T8=>true|_=>false
def Ln:SV->Bool|.now=>true|.T8=>true|_=>false
def SR.re{y y' v x}(h:SR y v x)(a:y.N=y'.N\/Hh v=false)(b:y.c=y'.c\/Ll v=false)(d:y.ws=y'.ws\/Lm v=false)(e:y.tn=y'.tn\/Ln v=false):SR y' v x:=by cases v<;>simp_all [SR,Hh,Ll,Lm,Ln]
def FR.re{y y' s fr}(h:FR y s fr)(a:y.N=y'.N\/s.env.all (λv=>!Hh v)=true)(b:y.c=y'.c\/s.env.all (λv=>!Ll v)=true)
 (d:y.ws=y'.ws\/s.env.all (λv=>!Lm v)=true) (e:y.tn=y'.tn\/s.env.all (λv=>!Ln v)=true):FR y' s fr:=by
 have key:∀(u:SV->Bool) (t:Nat),u .cC=false->s.env.all (λv=>!u v)=true->u (s.env.getD t .cC)=false:=λu t f g=>by grind
 exact⟨h.fn,h.todo,h.defers,h.mode,h.kind,h.ro,h.size,λt=>(h.env t).re (a.imp id (key _ t rfl)) (b.imp id (key _ t rfl)) (d.imp id (key _ t rfl)) (e.imp id (key _ t rfl))⟩
def mr.gK{y y'}:∀{l fs},mr y l fs->l.all (·.env.all plain)=true->mr y' l fs
 |[],fs,h,_=>by rw[h.mI];trivial
 |s::l,fs,h,a=>by obtain⟨f,b,rfl,c,d⟩:=h.cons_inv;simp only[aaX,zj]at a;exact⟨c.gK a.1,d.gK a.2⟩
def mr.keep{y}  live :∀{l fs},mr y l fs->mr y (l.map (Go.cE.keep live)) fs
 |[],fs,h=>by simp_all
 |s::l,fs,h=>by obtain⟨f,a,rfl,b,c⟩:=h.cons_inv;exact⟨b.keep live,c.keep live⟩
def Hi{P Wd f y}(i:f.At y):∀  n  {s st fr frs},FR y s fr->mr y st frs ->
 ∃m b a,FR y (Lh P f n s st).1 b/\mr y (Lh P f n s st).2 a/\∀cs,ji P Wd m (G fr (frs++cs)) (G b (a++cs))
 |0,s,st,fr,frs,g,c=>⟨0,fr,frs,g,c,λ_=>rfl⟩
 | n + 1,s,st,fr,frs,g,c=>by
   unfold Lh;cases e:ss P f s st with
   |none=>exact⟨0,fr,frs,g,c,λ_=>rfl⟩
   | some p=>
     obtain⟨u,o⟩:=p;obtain⟨b,a,j,k,l⟩:=QJ i e g c;simp only;split
     . exact⟨1,b,a,j,k,λcs=>⟨_,l cs,rfl⟩⟩
     . obtain⟨m,h,d,q,r,t⟩:=Hi i n j k
       exact⟨m+1,h,d,q,r,λcs=>⟨_,l cs,t cs⟩⟩
section
variable{P:adh}{Wd:acM}{y:Sy}{c c':cQ}{live:acY}{v:SV}{x:Value}{fr:Frame}{frs:acR}
def QP(e:aQ P (Fl.of y) live c v=some c')(f:y.ok)(g:FR y c.1 fr)(d:mr y c.2 frs)(h:SR y v x):
 ∃b a,FR y c'.1 b/\mr y c'.2 a/\∀cs,sU P Wd (G (fr.finish x) (frs++cs)) (G b (a++cs)):=by
 obtain⟨s,i,rfl⟩:=aat.1 e;obtain⟨m,b,a,j,k,l⟩:=lP (Wd:=Wd) (Fl.C' f) 400 (P:=P) (g.fin i h) d;exact⟨b,a,j.keep live,k.keep [],λcs=>⟨m,l cs⟩⟩
def Uu(e:pY P (Fl.of y) live c v=some c')(f:y.ok)(g:FR y c.1 fr)(d:mr y c.2 frs)(h:SR y v x):
 ∃b a,FR y c'.1 b/\mr y c'.2 a/\∀cs,sU P Wd (G (fr.finish x) (frs++cs)) (G b (a++cs)):=by
 obtain⟨s,i,rfl⟩:=aat.1 e;obtain⟨m,b,a,j,k,l⟩:=Hi (Wd:=Wd) (Fl.C' f) 400 (P:=P) (g.fin i h) d;exact⟨b,a,j.keep live,k.keep [],λcs=>⟨m,l cs⟩⟩
def Uv(e:Uc P (Fl.of y) live c=c')(f:y.ok)(g:FR y c.1 fr)(d:mr y c.2 frs):
 ∃b a,FR y c'.1 b/\mr y c'.2 a/\∀cs,sU P Wd (G fr (frs++cs)) (G b (a++cs)):=by
 subst e;obtain⟨m,b,a,h,i,j⟩:=lP (Wd:=Wd) (Fl.C' f) 400 (P:=P) g d;exact⟨b,a,h.keep live,i.keep [],λcs=>⟨m,j cs⟩⟩
end
open Mu in
inductive BA where
 |ld|ir|rd (l:Lo)|sq (old:Wd) (l:Lo)|sw (old:Wd) (l:Lo)|kB (old:Wd) (l:Lo)|t1 (sv:Bool)|gE (sv:Bool)|tq|up (sv:Bool)|add (old:Wd) (sv:Bool)|le|la|back
 |Hj|ur|ud|held|jh (old:Wd)|vX|give|ue|Da
section
variable(P:adh)(n:C7)(b o:Nat)(kind:adb)
def Fs(p:BA)(c:cQ)(y:Sy):Prop:=
 match p with
 |.ld=>c=LD P n b o kind
 |.ir=>c=uG P n b o kind
 |.rd l=>c=RI P n b o kind l.aw l.sv l.it\/c=Hf P n b o kind l.aw l.sv l.it\/c=RJ P n b o kind l.aw l.sv l.it
 |.sq old l=>c=SQ P n b o kind old.K l.aw l.sv l.it/\y.N=old.N/\old.L=true/\old.S=false
 |.sw old l=>c=SW P n b o kind l.it/\y.N=old.N/\l.aw=false/\l.sv=false/\old.L=true/\old.K=false/\old.S=false
 |.kB old l=>c=C9 P n b o kind old.L old.K old.S l.aw l.sv l.it/\y.N=old.N
 |.t1 sv=>c=T1 P n b o kind sv
 |.gE sv=>c=PK P n b o kind sv
 |.tq=>c=TQ P n b o kind
 |.up sv=>c=UP P n b o kind sv
 |.add old sv=>c=AD P n b o kind (if !sv||decide (old.N=1)then -11 else -7)
 |.le=>c=QL P n b o kind\/c=OK P n b o kind
 |.la=>c=QM P n b o kind\/c=QO P n b o kind
 |.back=>c=BK n kind
 |.Hj=>c=U0 P n b o kind
 |.ur=>c=UR P n b o kind
 |.ud=>c=UD P n b o kind
 |.held=>c=r6 P n b o kind
 |.jh old=>c=UC P n b o kind/\y.N=old.N/\old.L=false/\old.K=false/\old.S=false/\old.N≠0
 |.vX=>c=OL P n b o kind
 |.give=>c=G7 P n b o kind\/c=G9 P n b o kind
 |.ue=>c=UE P n b o kind
 |.Da=>c=Uk n kind
def oi(p:BA)(cs:acR)(g:acW):Prop:=∃c y fr frs,Fs P n b o kind p c y/\y.ok/\FR y c.1 fr/\mr y c.2 frs/\g=G fr (frs++cs)
end
def oi.running{P n b o kind p cs g}(h:oi P n b o kind p cs g):g.status=.running/\g.offers=none:=by obtain⟨c,y,fr,frs,_,_,_,_,rfl⟩:=h;exact⟨rfl,rfl⟩
structure ShM  b o  (w:World) (s:Mu.Sh):Prop where
 cw:w.cell? ⟨b,o,none⟩=some (.int .i32 (enc s.w.L s.w.K s.w.S s.w.N))
 cs:w.cell? ⟨b,o+1,none⟩=some (.int .u32 s.ms)
 fz:∀i,w.frozen? ⟨b,i,none⟩=false
def MW(b o:Nat)(w w':World):Prop:=(mD w.os w'.os/\w'.output=w.output)/\(w'.heap=w.heap\/∃i v,(i=o\/i=o+1)/\flat v=true/\w'.heap=(w.setCell ⟨b,i,none⟩ v).heap)
def EvM(b o:Nat)(es:acN):Prop:=∀e∈es,(e.loc=.mark .disable\/e.loc=.mark .enable)\/(∃i,(i=o\/i=o+1)/\e.loc=.cell ⟨b,i,none⟩/\e.sync=true)
def qN{w w':World}(h:w'.heap=w.heap)  a :w'.cell? a=w.cell? a/\w'.frozen? a=w.frozen? a:=by simp[World.cell?,World.frozen?,h]
def ShM.heap{b o w w' s}(h:ShM b o w s)(e:w'.heap=w.heap):ShM b o w' s:=⟨by rw[(qN e _).1];exact h.cw,by rw[(qN e _).1];exact h.cs,λi=>by rw[(qN e _).2];exact h.fz i⟩
def jY{w:World}{b i u v}(h:w.cell? ⟨b,i,none⟩=some u):(w.setCell ⟨b,i,none⟩ v).cell? ⟨b,i,none⟩=some v:=by
 unfold World.cell? at h ⊢;unfold World.setCell
 grind
def oD{w:World}{a v b i}:(w.setCell a v).frozen? ⟨b,i,none⟩=w.frozen? ⟨b,i,none⟩:=by simp_all
def ShM.aW{b o w s}(h:ShM b o w s)  w' :ShM b o (w.setCell ⟨b,o,none⟩ (.int .i32 (enc w'.L w'.K w'.S w'.N))) {s with w:=w'}:=⟨jY h.cw,by rw[dF (by simp)];exact h.cs,λi=>by rw[oD];exact h.fz i⟩
def ShM.Fy{b o w s}(h:ShM b o w s)(m:Nat):ShM b o (w.setCell ⟨b,o+1,none⟩ (.int .u32 m)) {s with ms:=m}:=⟨by rw[dF (by simp)];exact h.cw,jY h.cs,λi=>by rw[oD];exact h.fz i⟩
def fJ{b o}:EvM b o #[]:=λe h=>by simp at h
def Hk{b o i}(hi:i=o\/i=o+1):EvM b o #[⟨.cell ⟨b,i,none⟩,false,true⟩]:=λe h=>by simp_all
def kH{b o i}(hi:i=o\/i=o+1):EvM b o #[⟨.cell ⟨b,i,none⟩,false,true⟩,⟨.cell ⟨b,i,none⟩,true,true⟩]:=λe h=>by grind
def wB{b o}:EvM b o (semEvents ⟨b,o+1,none⟩):=λe h=>by
 simp[semEvents]at h
 grind
section
variable{P:adh}{n:C7}(C:gq P n)(X:gu P n){b o:Nat}{kind:adb}{Wd:acM}{cs:acR}{g:acW}{w:World}{main:Bool}
variable(hWd:∀w,Wd w->∃v,w.cell? ⟨b,o,none⟩=some v)
def Next(P:adh)(n:C7)(b o:Nat)(kind:adb)(Wd:acM)(cs:acR)(p:BA)(a:acW):Prop:=a.status=.running/\∃c,sU P Wd a c/\oi P n b o kind p cs c
def nxt{y c c' live v x fr frs p}(g:aQ P (Fl.of y) live c v=some c')(f:y.ok)(h:FR y c.1 fr)(d:mr y c.2 frs)(i:SR y v x)(j:Fs P n b o kind p c' y):
 Next P n b o kind Wd cs p (G (fr.finish x) (frs++cs)):=by
 obtain⟨e,a,k,l,m⟩:=QP (Wd:=Wd) g f h d i;exact⟨rfl,_,m cs,c',y,e,a,j,f,k,l,rfl⟩
def y0:Sy:=⟨2,2,1,0⟩
def sX:y0.ok:=by unfold Sy.ok y0;decide
def FA(h:∃fn body,P.funcs[n.lock]?=some fn/\fn.body=some body/\fn.ntmps=6):∃e,sU P Wd (G (Frame.enter P n.lock #[.pointer (some ⟨b,o,none⟩)] kind) cs) e/\oi P n b o kind .ld cs e:=by
 obtain⟨fn,body,a,i,g⟩:=h
 have j:FR y0 (dI P n.lock [pt b o] kind) (Frame.enter P n.lock #[.pointer (some ⟨b,o,none⟩)] kind):=by
  refine⟨by simp[dI,a,Frame.enter],by simp[dI,a,i,Frame.enter],by simp[dI,a,Frame.enter],by simp[dI,a,Frame.enter,C2.of],by simp[dI,a,Frame.enter],rfl,by simp[dI,a,g,Frame.enter],λt=>?_⟩;simp only[dI,a,Frame.enter,g,aaJ,aba]
  match t with
  |0=>rfl
  |1|2|3|4|5=>trivial
  | t+6=>
    have:([pt b o]++List.replicate (6 - [pt b o].length) SV.cC).getD (t+6) .cC=.cC:=by simp_all
    rw[this];trivial
 obtain⟨m,d,c,k,l,p⟩:=lP (Wd:=Wd) (P:=P) (f:=ln) (y:=y0) ⟨by decide,by decide,rfl,rfl,rfl,rfl,rfl,by decide⟩ 400 j (st:=[]) (frs:=[]) trivial;have q:=p cs;exact⟨_,⟨m,q⟩,_,y0,d,c,rfl,sX,k.keep [0],l.keep [],rfl⟩
def Lp:∀g ,Mark.disable≠.extern g:=λg h=>by cases h
def Lq:∀g ,Mark.enable≠.extern g:=λg h=>by cases h
include C X in
def BB(h:oi P n b o kind .ld cs g):∃d,stepG P main g w=.go d w #[⟨.mark .disable,false,true⟩]/\Next P n b o kind Wd cs .ir d:=by obtain⟨c,y,fr,frs,rfl,f,e,a,rfl⟩:=h;exact⟨_,eQ Lp e (C.o1 b o kind).1 (by rw[show(LD P n b o kind).1.kind=_ from(C.o1 b o kind).2];decide) X.jv,nxt (C.e1 _ b o kind) f e a rfl rfl⟩
include C X in
def Hl(h:oi P n b o kind .ud cs g):∃d,stepG P main g w=.go d w #[⟨.mark .disable,false,true⟩]/\Next P n b o kind Wd cs .held d:=by obtain⟨c,y,fr,frs,rfl,f,e,a,rfl⟩:=h;exact⟨_,eQ Lp e (C.X6 b o kind) (by simp[UD,pq]) X.jv,nxt (C.u4 _ b o kind) f e a rfl rfl⟩
include C X in
def BC(h:oi P n b o kind .ue cs g):∃d,stepG P main g w=.go d w #[⟨.mark .enable,false,true⟩]/\Next P n b o kind Wd cs .Da d:=by obtain⟨c,y,fr,frs,rfl,f,e,a,rfl⟩:=h;exact⟨_,eQ Lq e (C.X8 b o kind) (by simp[UE,pq]) X.en,nxt (C.XS _ b o kind) f e a rfl rfl⟩
include C X in
def Hm(h:oi P n b o kind .ur cs g):∃d,stepG P main g w=.go d w #[⟨.mark (.releaseMerge ⟨b,o,none⟩),false,true⟩]/\Next P n b o kind Wd cs .ud d:=by obtain⟨c,y,fr,frs,rfl,f,e,a,rfl⟩:=h;exact⟨_,fD (λi g h=>by cases h) e (C.X5 b o kind) (by simp[UR,pq]) X.rel,nxt (C.u3 _ b o kind) f e a rfl rfl⟩
include C X in
def Hn(h:oi P n b o kind .la cs g):∃e,stepG P main g w=.go e w #[⟨.mark (.acquire ⟨b,o,none⟩),false,true⟩]/\Next P n b o kind Wd cs .back e:=by
 obtain⟨c,y,fr,frs,i,f,d,a,rfl⟩:=h;rcases i with rfl|rfl
 . exact⟨_,fD (λj g h=>by cases h) d (C.o5 b o kind) (by simp[QM,mJ]) X.acq,nxt (C.e6 _ b o kind) f d a rfl rfl⟩
 . exact⟨_,fD (λj g h=>by cases h) d (C.X3 b o kind) (by simp[QO,cK]) X.acq,nxt (C.wA _ b o kind) f d a rfl rfl⟩
include X hWd in
def through{y c c' live fr frs p}(f:kG c.1=some (n.tM,n.tU,pt b o))(g:aQ P (Fl.of y) live c (pt b o)=some c')(h:y.ok)(e:FR y c.1 fr)(d:mr y c.2 frs)(i:Fs P n b o kind p c' y):
 ∃a,sU P Wd (G fr (frs++cs)) a/\oi P n b o kind p cs a:=by
 obtain⟨t,j,k,l⟩:=X.X9;obtain⟨_,a,m,q⟩:=nxt (P:=P) (n:=n) (b:=b) (o:=o) (kind:=kind) (Wd:=Wd) (cs:=cs) (x:=.pointer (some ⟨b,o,none⟩)) g h e d rfl i;refine⟨a,sU.trans (sT.zX ⟨rfl,λmain w r=>?_⟩) m,q⟩;exact uE e f j k l (hWd w r)
include C X hWd in
def Ho(h:oi P n b o kind .le cs g):∃s,stepG P main g w=.go s w #[⟨.mark .enable,false,true⟩]/\Next P n b o kind Wd cs .la s:=by
 obtain⟨c,y,fr,frs,t,e,f,a,rfl⟩:=h;rcases t with rfl|rfl
 . refine⟨_,eQ Lq f (C.o3 b o kind) (by simp[QL,mJ]) X.en,rfl,?_⟩
   obtain⟨i,d,j,k,l⟩:=QP (Wd:=Wd) (x:=.tuple #[]) (C.e4 _ b o kind) e f a rfl;obtain⟨m,q,r⟩:=through X hWd (cs:=cs) (p:=.la) (C.o4 b o kind) (C.e5 _ b o kind) e j k (.inl rfl);exact⟨m,(l cs).trans q,r⟩
 . refine⟨_,eQ Lq f (C.X1 b o kind) (by simp[OK,cK]) X.en,rfl,?_⟩
   obtain⟨i,d,j,k,l⟩:=QP (Wd:=Wd) (x:=.tuple #[]) (C.wy _ b o kind) e f a rfl;obtain⟨m,q,r⟩:=through X hWd (cs:=cs) (p:=.la) (C.X2 b o kind) (C.Ku _ b o kind) e j k (.inr rfl);exact⟨m,(l cs).trans q,r⟩
include C X hWd in
def xD{v}(j:w.cell? ⟨b,o,none⟩=some v)(h:oi P n b o kind .Hj cs g):∃d,stepG P main g w=.go d w #[]/\Next P n b o kind Wd cs .ur d:=by
 obtain⟨c,y,fr,frs,rfl,e,f,a,rfl⟩:=h;refine⟨_,qM f (C.Wz b o kind).1 X.Ut (by rw[show(U0 P n b o kind).1.fn=_ from(C.Wz b o kind).2.2];exact X.nU) j,rfl,?_⟩;obtain⟨k,i,l,m,q⟩:=QP (Wd:=Wd) (x:=v) (C.u1 _ b o kind) e f a trivial;obtain⟨r,s,t⟩:=through X hWd (cs:=cs) (p:=.ur) (C.X4 b o kind) (C.u2 _ b o kind) e l m rfl;exact⟨r,(q cs).trans s,t⟩
include C X in
def Pe{sv}(h:oi P n b o kind (.t1 sv) cs g):∃f,stepG P main g w=.go f w.later #[]/\Next P n b o kind Wd cs (.gE sv) f:=by
 obtain⟨c,y,fr,frs,rfl,j,i,d,rfl⟩:=h;refine⟨_,z9 i (C.XW b o kind sv) (by simp[T1,cK]) X.nano X.Lj,?_⟩;have e:=i.re (y':={y with ws:=((w.os.mono+w.tick:Nat):Int)}) (.inl rfl) (.inl rfl) (.inr (by cases sv<;>rfl)) (.inl rfl);have a:=d.gK (y':={y with ws:=((w.os.mono+w.tick:Nat):Int)}) (by simpa[T1,cK]using C.p2 b o kind);exact nxt (y:={y with ws:=((w.os.mono+w.tick:Nat):Int)}) (x:=.int .i64 ((w.os.mono+w.tick:Nat):Int)) (C.xC _ b o kind sv) j e a rfl rfl
end
inductive To:Mu.Pc->BA->Prop
 |out:To .out .ue
 |rd (l:Mu.Lo):To (.rd l) (.rd l)
 |sq (old:Mu.Wd) (l:Mu.Lo):To (.sq old l) (.sq old l)
 |sw (old:Mu.Wd) (l:Mu.Lo):To (.sw old l) (.sw old l)
 |kB (old:Mu.Wd) (l:Mu.Lo):To (.kB old l) (.kB old l)
 |t1 (sv:Bool):To (.gE sv) (.t1 sv)
 |gE (sv:Bool):To (.gE sv) (.gE sv)
 |tq:To .tq .tq
 |up (sv:Bool):To (.up sv) (.up sv)
 |add (old:Mu.Wd) (sv:Bool):To (.add old sv) (.add old sv)
 |held:To .held .le
 |jh (old:Mu.Wd):To (.jh old) (.jh old)
 |vX:To .vX .vX
 |give:To .give .give
def lQ(P:adh)(n:C7)(b o:Nat)(kind:adb)(Wd:acM)(cs:acR)(g:acW)(w:World)(main:Bool)(pc:Mu.Pc)(s:Mu.Sh):Prop:=∃c a es q e f,stepG P main g w=.go c a es/\(q,e)∈Mu.mv pc s/\To q f/\Next P n b o kind Wd cs f c/\MW b o w a/\ShM b o a e/\EvM b o es/\∀d,deafBehind d es=d
def bj{b o w w'}(h:w'.heap=w.heap)(a:mD w.os w'.os/\w'.output=w.output:=by exact⟨mD.refl _,rfl⟩):MW b o w w':=⟨a,.inl h⟩
def vZ{b o w v}(h:flat v=true):MW b o w (w.setCell ⟨b,o,none⟩ v):=⟨⟨.refl _,rfl⟩,.inr ⟨o,v,.inl rfl,h,rfl⟩⟩
def Pf{b o w v}(h:flat v=true):MW b o w (w.setCell ⟨b,o+1,none⟩ v):=⟨⟨.refl _,rfl⟩,.inr ⟨o+1,v,.inr rfl,h,rfl⟩⟩
def Hp{L K S a b c}{N d:Nat}:enc L K S N=enc a b c d↔(L=a/\K=b/\S=c/\N=d):=by
 unfold enc;constructor
 . intro h
   cases L<;>cases K<;>cases S<;>cases a<;>cases b<;>cases c<;>simp[Bool.toNat]at h ⊢<;>omega
 simp_all
section
variable{P:adh}{n:C7}(C:gq P n)(X:gu P n){b o:Nat}{kind:adb}{Wd:acM}{cs:acR}{g:acW}{w:World}{main:Bool}{s:Mu.Sh}
def Hq{w}:w=Mu.Wd.zero↔(enc w.L w.K w.S w.N=0):=by
 obtain⟨L,K,S,N⟩:=w;rw[xz (by simp)];simp[Mu.Wd.zero]
include C X in
def Iv(d:ShM b o w s)(h:oi P n b o kind .ir cs g):lQ P n b o kind Wd cs g w main .ir s:=by
 obtain⟨c,y,fr,frs,rfl,l,j,f,rfl⟩:=h;have q:(uG P n b o kind).1.kind≠.early:=by simp[uG,mJ]
 by_cases k:s.w=Mu.Wd.zero
 . have m:enc s.w.L s.w.K s.w.S s.w.N=0:=Hq.1 k
   have r:=d.cw;rw[m]at r;refine⟨_,_,_,.held,{s with w:={Mu.Wd.zero with L:=true}},.le,gX j (C.o2 b o kind) q X.kB (v:=0) (n:=1) (λx h=>h) (λx h=>h) r (d.fz o),by simp[Mu.mv,k],.held,nxt (C.e2 _ b o kind) l j f rfl (.inl rfl),vZ rfl,?_,kH (.inl rfl),λ_=>rfl⟩;have:=d.aW {Mu.Wd.zero with L:=true};exact this
 . have m:¬enc s.w.L s.w.K s.w.S s.w.N=0:=λe=>k (Hq.2 e)
   refine⟨_,_,_,.rd ⟨false,false,0⟩,s,.rd ⟨false,false,0⟩,iE j (C.o2 b o kind) q X.kB (old:=0) (n:=1) (λx h=>h) (λx h=>h) d.cw (d.fz o) m,by simp[Mu.mv,k],.rd _,⟨rfl,?_⟩,bj rfl,d,Hk (.inl rfl),λ_=>rfl⟩;obtain⟨p,i,A,B,D⟩:=QP (Wd:=Wd) (x:=.bool false) (C.e3 _ b o kind) l j f rfl;refine⟨_,D cs,RI P n b o kind false false 0,{y with ws:=0},p,i,.inl rfl,l,?_,?_,rfl⟩
   . have a:=A.re (y':={y with ws:=0}) (.inl rfl) (.inl rfl) (.inr rfl) (.inl rfl)
     refine⟨a.fn,a.todo,a.defers,a.mode,a.kind,a.ro,a.size.trans rfl,λt=>?_⟩;have u:=a.env t;by_cases z:t=2
     . subst z;exact u
     . have e:(RI P n b o kind false false 0).1.env=(V7 P n b o kind).1.env.set 2 .Is:=rfl
       rw[e,zs,abb (za z),<-List.getD_eq_getElem?_getD];exact u
   . exact B.gK (by simpa[V7,cK]using C.p2 b o kind)
def qO{y:Sy}{L K S}{N:Nat}(h:y.N=N):SR y (.word L K S 0) (.int .i32 (enc L K S N)):=by
 refine⟨?_,?_,by decide⟩
 . simp_all
 omega
def Hr{y x}(h:decide (y.N=0)=x):{Fl.of y with n0:=x}=Fl.of y:=by subst h;rfl
def RL{y x z}(h:decide (y.N=0)=x)(a:decide (y.N=1)=z):{Fl.of y with n0:=x,n1:=z}=Fl.of y:=by subst h;subst a;rfl
def QQ{y x}(h:decide (y.ws=0)=x):{Fl.of y with wz:=x}=Fl.of y:=by subst h;rfl
def Uw{y x}(h:decide (IntKind.i64.wrap (y.tn-y.ws)>1000000)=x):{Fl.of y with tb:=x}=Fl.of y:=by subst h;rfl
def Tl(old:Mu.Wd)(l:Mu.Lo):BA:=if old.L && !old.S then .sq old l else .kB old l
def QR  old   l :To (Mu.nx old l) (Tl old l):=by
 unfold Mu.nx Tl;split
 . exact .sq _ _
 . exact .kB _ _
include C in
def Ht{y old l fr frs}(e:y.ok)(m:y.N=old.N)(p:FR y (HD P n b o kind old.L old.K old.S l.aw l.sv l.it).1 fr)(d:mr y (HD P n b o kind old.L old.K old.S l.aw l.sv l.it).2 frs)(f:Mu.loc (Mu.nx old l)):
 ∃q,sU P Wd (G fr (frs++cs)) q/\oi P n b o kind (Tl old l) cs q:=by
 obtain⟨L,K,S,N⟩:=old;obtain⟨aw,sv,it⟩:=l;unfold Tl;unfold Mu.nx at f;by_cases h:(L && !S)=true
 . simp only[h,aan]at f ⊢
   simp only[zj,abP]at h;obtain⟨rfl,rfl⟩:=h;obtain⟨c,a,g,i,j⟩:=Uv (Wd:=Wd) (C.e8 (Fl.of y) b o kind K aw sv it) e p d;exact⟨_,j cs,_,y,c,a,⟨rfl,m,rfl,rfl⟩,e,g,i,rfl⟩
 . have r:(L && !S)=false:=by simpa using h
   rw[aaj h]at f ⊢
   have k:(aw && !K)=false:=by
    cases aw with
    |false=>rfl
    |true=>have:=f.1 rfl;simp at this;simp[this]
   obtain⟨c,a,g,i,j⟩:=Uv (Wd:=Wd) (C.e9 (Fl.of y) b o kind L K S aw sv it r k) e p d;exact⟨_,j cs,_,y,c,a,⟨rfl,m⟩,e,g,i,rfl⟩
include C X in
def Pg{l}(i:ShM b o w s)(hb:s.w.N<=1000)(m:Mu.loc (Mu.nx s.w l))(h:oi P n b o kind (.rd l) cs g):lQ P n b o kind Wd cs g w main (.rd l) s:=by
 obtain⟨c,y,fr,frs,p,q,j,e,rfl⟩:=h;have a:({y with N:=(s.w.N:Int)}:Sy).ok:=⟨⟨by simp,by show(s.w.N:Int)<=1000;omega⟩,q.2⟩
 have key:rl c.1=some (n.tI,pt b o)->c.1.fn=n.RG->(c.1.env.all (λv=>!Hh v)=true)->c.2=V6 P n b o kind->pY P (Fl.of {y with N:=(s.w.N:Int)}) [0,2,3,4,5,6] c (.word s.w.L s.w.K s.w.S 0)=some (HD P n b o kind s.w.L s.w.K s.w.S l.aw l.sv l.it) ->
  lQ P n b o kind Wd cs (G fr (frs++cs)) w main (.rd l) s:=λr t u x z=>by
  have f:=j.re (y':={y with N:=(s.w.N:Int)}) (.inr u) (.inl rfl) (.inl rfl) (.inl rfl);have d:=e.gK (y':={y with N:=(s.w.N:Int)}) (by rw[x];exact C.p2 b o kind);obtain⟨A,k,B,D,E⟩:=Uu (Wd:=Wd) z a f d (qO rfl);obtain⟨F,H,I⟩:=Ht C (Wd:=Wd) (cs:=cs) (old:=s.w) (l:=l) a rfl B D m;exact⟨_,w,#[],_,s,Tl s.w l,qM j r X.Ut (by rw[t];exact X.nS) i.cw,by simp[Mu.mv],QR _ _,⟨rfl,F,(E cs).trans H,I⟩,bj rfl,i,fJ,λ_=>rfl⟩
 rcases p with rfl|rfl|rfl
 . exact key (C.XT ..) rfl rfl rfl (C.XK ..)
 . exact key (C.XU ..) rfl rfl rfl (C.RK ..)
 . exact key (C.XV ..) rfl rfl rfl (C.XL ..)
include C X in
def BD{y aw sv}{it:Nat}{fr frs}(f:it<4)(g:y.ok)(e:FR y (DS P n b o kind aw sv it).1 fr)(d:mr y (DS P n b o kind aw sv it).2 frs):
 ∃c,sU P Wd (G fr (frs++cs)) c/\oi P n b o kind (.rd ⟨aw,sv,it+1⟩) cs c:=by
 have a:sT P Wd (G fr (frs++cs)) (G (fr.finish (.tuple #[])) (frs++cs)):=⟨rfl,λmain w _=>uD e (C.o9 b o kind aw sv it) (by simp[DS,cK]) X.uF⟩
 have key:aQ P (Fl.of y) [0,2,3,4,5,47] (DS P n b o kind aw sv it) un=some (Hf P n b o kind aw sv (it+1:Nat)):=by
  have:it=0\/it=1\/it=2\/it=3:=by omega
  rcases this with rfl|rfl|rfl|rfl
  . exact C.Fw ..
  . exact C.Fx ..
  . exact C.Um ..
  . exact C.Uo ..
 obtain⟨_,c,h,i⟩:=nxt (P:=P) (n:=n) (b:=b) (o:=o) (kind:=kind) (Wd:=Wd) (cs:=cs) (x:=.tuple #[]) (p:=.rd ⟨aw,sv,it+1⟩) key g e d rfl (.inr (.inl rfl));exact⟨c,a.zX.trans h,i⟩
include C X in
def Ph{old l}(t:ShM b o w s)(J:Mu.loc (.sq old l))(h:oi P n b o kind (.sq old l) cs g):lQ P n b o kind Wd cs g w main (.sq old l) s:=by
 obtain⟨c,y,fr,frs,⟨rfl,k,B,D⟩,q,m,d,rfl⟩:=h;obtain⟨L,K,S,N⟩:=old;obtain⟨aw,sv,it⟩:=l;simp only at k B D m d;subst B;subst D;obtain⟨E,F,M,_,_⟩:=J;simp only at E F M
 have u:(aw && !K)=false:=by
  cases aw with
  |false=>rfl
  |true=>simp[E rfl]
 obtain⟨r,j,v,O,G⟩:=It (P:=P) (main:=main) (cs:=frs++cs) (w:=w) m (C.o7 b o kind K aw sv it) (by simp[SQ,cK]) X.Iu
 have a:j.heap=w.heap:=by rcases G with rfl|rfl<;>rfl
 have e:mD w.os j.os/\j.output=w.output:=by rcases G with rfl|rfl<;>exact⟨.refl _,rfl⟩
 cases r with
 |false=>refine⟨_,j,#[],.kB ⟨true,K,false,N⟩ ⟨aw,sv,it⟩,s,.kB _ _,v,by simp[Mu.mv,Mu.hd],.kB _ _,nxt (C.bd (Fl.of y) b o kind K aw sv it u) q m d rfl ⟨rfl,k⟩,bj a e,t.heap a,fJ,λ_=>rfl⟩
 | true=>
   have f:it<4:=by have:=O rfl;omega
   by_cases z:(!aw && !K && decide (N≠0))=true
   . simp only[zj,abP,KD]at z
     obtain⟨⟨rfl,rfl⟩,p⟩:=z;have:sv=false:=by cases sv with|false=>rfl|true=>exact absurd (F rfl) (by simp)
     subst this;have key:=C.aZ (Fl.of y) b o kind it;rw[Hr (by rw[k];simpa using p)]at key
     exact⟨_,j,#[],.sw ⟨true,false,false,N⟩ ⟨false,false,it⟩,s,.sw _ _,v,by simp[Mu.mv,Mu.hd,f,p],.sw _ _,nxt key q m d rfl ⟨rfl,k,rfl,rfl,rfl,rfl,rfl⟩,bj a e,t.heap a,fJ,λ_=>rfl⟩
   . have i:(!aw && !K && decide (N≠0))=false:=by simpa using z
     have A:(!aw && !K && !decide (y.N=0))=false:=by
      rw[k]
      by_cases H:N=0
      . simp[H]
      . simp[H]at i ⊢;exact i
     have key:=C.Ul (Fl.of y) b o kind (decide (y.N=0)) K aw sv it A;rw[Hr rfl]at key;obtain⟨Q,I,R,T,U⟩:=QP (Wd:=Wd) (x:=.bool true) key q m d rfl;obtain⟨V,W,Y⟩:=BD C X (Wd:=Wd) (cs:=cs) f q R T;refine⟨_,j,#[],.rd ⟨aw,sv,it+1⟩,s,.rd _,v,?_,.rd _,⟨rfl,V,(U cs).trans W,Y⟩,bj a e,t.heap a,fJ,λ_=>rfl⟩
     simp only[Mu.mv,Mu.hd,f,i];simp
include C X in
def Pj{old l}(f:ShM b o w s)(V:Mu.loc (.sw old l))(h:oi P n b o kind (.sw old l) cs g):lQ P n b o kind Wd cs g w main (.sw old l) s:=by
 obtain⟨c,y,fr,frs,⟨rfl,E,F,G,H,I,J⟩,m,i,d,rfl⟩:=h;obtain⟨L,K,S,N⟩:=old;obtain⟨aw,sv,it⟩:=l;simp only at E F G H I J i d;subst F;subst G;subst H;subst I;subst J;have j:it<4:=V.2.2.2.2.2;have M:(SW P n b o kind it).1.kind≠.early:=by simp[SW,cK]
 have a:∀q:Bool,∀x,SR y (.word true q false 0) x->x=.int .i32 (enc true q false N):=λq x W=>by have:=W.1;rw[E,acp]at this;exact this
 by_cases p:s.w=⟨true,false,false,N⟩
 . have O:=f.cw
   rw[p]at O;obtain⟨r,k,t,u,v⟩:=QP (Wd:=Wd) (x:=.bool true) (C.bs (Fl.of y) b o kind true it) m i d rfl;obtain⟨z,A,B⟩:=BD C X (Wd:=Wd) (cs:=cs) j m t u;refine⟨_,_,_,.rd ⟨true,false,it+1⟩,{s with w:=⟨true,true,false,N⟩},.rd _,gX i (C.o8 b o kind it) M X.kB (a false) (a true) O (f.fz o),by simp[Mu.mv,p],.rd _,⟨rfl,z,(v cs).trans A,B⟩,vZ rfl,f.aW ⟨true,true,false,N⟩,kH (.inl rfl),λ_=>rfl⟩
 . have D:¬enc s.w.L s.w.K s.w.S s.w.N=enc true false false N:=λe=>p (by
    obtain⟨Q,R,T,U⟩:=Hp.1 e;obtain⟨⟨L,K,S,Y⟩,ms⟩:=s;simp only at Q R T U;subst Q;subst R;subst T;subst U;rfl)
   obtain⟨r,k,t,u,v⟩:=QP (Wd:=Wd) (x:=.bool false) (C.bs (Fl.of y) b o kind false it) m i d rfl;obtain⟨z,A,B⟩:=BD C X (Wd:=Wd) (cs:=cs) j m t u;exact⟨_,_,_,.rd ⟨false,false,it+1⟩,s,.rd _,iE i (C.o8 b o kind it) M X.kB (a false) (a true) f.cw (f.fz o) D,by simp[Mu.mv,p],.rd _,⟨rfl,z,(v cs).trans A,B⟩,bj rfl,f,Hk (.inl rfl),λ_=>rfl⟩
end
section
variable{P:adh}{n:C7}(C:gq P n)(X:gu P n){b o:Nat}{kind:adb}{Wd:acM}{cs:acR}{g:acW}{w:World}{main:Bool}{s:Mu.Sh}
def QS{a c:Mu.Wd}:a=c↔enc a.L a.K a.S a.N=enc c.L c.K c.S c.N:=by obtain⟨L,K,S,N⟩:=a;obtain⟨b,d,e,f⟩:=c;rw[Hp];simp
include C X in
def Lr{old l}(f:ShM b o w s)(E:Mu.loc (.kB old l))(h:oi P n b o kind (.kB old l) cs g):lQ P n b o kind Wd cs g w main (.kB old l) s:=by
 obtain⟨c,y,fr,frs,⟨rfl,u⟩,t,j,a,rfl⟩:=h;obtain⟨L,K,S,N⟩:=old;obtain⟨aw,sv,it⟩:=l;simp only at u j a
 have k:(aw && !K)=false:=by
  cases aw with
  |false=>rfl
  |true=>have:=E.1 rfl;simp at this;simp[this]
 have A:(C9 P n b o kind L K S aw sv it).1.kind≠.early:=by simp[C9,cK]
 have hold:∀x,SR y (.word L K S 0) x->x=.int .i32 (enc L K S N):=λx v=>by have:=v.1;rw[u,acp]at this;exact this
 have i:∀x,SR y (Pb L K S aw sv) x->x=.int .i32 (enc (Mu.pV ⟨L,K,S,N⟩ ⟨aw,sv,it⟩).L (Mu.pV ⟨L,K,S,N⟩ ⟨aw,sv,it⟩).K (Mu.pV ⟨L,K,S,N⟩ ⟨aw,sv,it⟩).S (Mu.pV ⟨L,K,S,N⟩ ⟨aw,sv,it⟩).N):=λx v=>by have:=v.1;rw[u]at this;rw[this];simp only[Mu.pV];congr 2;split<;>simp
 by_cases p:s.w=⟨L,K,S,N⟩
 . have B:=f.cw
   rw[p]at B;have m:=gX (main:=main) (cs:=frs++cs) j (C.Wx b o kind L K S aw sv it) A X.kB hold i B (f.fz o)
   by_cases d:(L||S)=true
   . have q:((.gE sv:Mu.Pc),({s with w:=Mu.pV ⟨L,K,S,N⟩ ⟨aw,sv,it⟩}:Mu.Sh))∈Mu.mv (.kB ⟨L,K,S,N⟩ ⟨aw,sv,it⟩) s:=by
      simp only[Mu.mv,k,LK,Rp,p,aan,d,lb]
     by_cases r:y.ws=0
     . have key:=C.Up (Fl.of y) b o kind L K S aw sv it d
       rw[QQ (by simpa using r)]at key
       exact⟨_,_,_,_,_,.t1 sv,m,q,.t1 _,nxt key t j a rfl rfl,vZ rfl,f.aW _,kH (.inl rfl),λ_=>rfl⟩
     . have key:=C.Uq (Fl.of y) b o kind L K S aw sv it d
       rw[QQ (by simpa using r)]at key
       exact⟨_,_,_,_,_,.gE sv,m,q,.gE _,nxt key t j a rfl rfl,vZ rfl,f.aW _,kH (.inl rfl),λ_=>rfl⟩
   . have D:(L||S)=false:=by simpa using d
     have F:L=false:=by cases L<;>simp_all
     have G:S=false:=by cases S<;>simp_all
     subst F;subst G;refine⟨_,_,_,.held,{s with w:=Mu.pV ⟨false,K,false,N⟩ ⟨aw,sv,it⟩},.le,m,?_,.held,nxt (C.iO (Fl.of y) b o kind K aw sv it) t j a rfl (.inr rfl),vZ rfl,f.aW _,kH (.inl rfl),λ_=>rfl⟩
     simp only[Mu.mv,k,LK,Rp,p,aan,Bool.or_self,lb]
 . have z:¬enc s.w.L s.w.K s.w.S s.w.N=enc L K S N:=λe=>p (QS.2 e)
   refine⟨_,_,_,.rd ⟨aw,sv,it⟩,s,.rd _,iE j (C.Wx b o kind L K S aw sv it) A X.kB hold i f.cw (f.fz o) z,?_,.rd _,nxt (C.Bz (Fl.of y) b o kind L K S aw sv it) t j a rfl (.inr (.inr rfl)),bj rfl,f,Hk (.inl rfl),λ_=>rfl⟩
   simp only[Mu.mv,k,LK,Rp,p,lb]
include C X in
def Iw{sv}(f:ShM b o w s)(j:s.ms≠0)(h:oi P n b o kind (.gE sv) cs g):lQ P n b o kind Wd cs g w main (.gE sv) s:=by
 obtain⟨c,y,fr,frs,rfl,k,i,d,rfl⟩:=h;have a:=sW (main:=main) (cs:=frs++cs) (w:=w) (n:=(s.ms:Int)) i (C.Wy b o kind sv) (by simp[PK,cK]) X.Fu f.cs (by omega) (f.fz _);have e:((s.ms:Int)-1)=((s.ms-1:Nat):Int):=by omega
 rw[e]at a;cases sv with
 |true=>exact⟨_,_,_,.up true,{s with ms:=s.ms-1},.up true,a,by simp[Mu.mv,j],.up _,nxt (C.Ur (Fl.of y) b o kind) k i d rfl rfl,Pf rfl,f.Fy _,wB,λ_=>rfl⟩
 |false=>exact⟨_,_,_,.tq,{s with ms:=s.ms-1},.tq,a,by simp[Mu.mv,j],.tq,nxt (C.Us (Fl.of y) b o kind) k i d rfl rfl,Pf rfl,f.Fy _,wB,λ_=>rfl⟩
include C X in
def Db{sv}(d:ShM b o w s)(e:s.ms=0)(h:oi P n b o kind (.gE sv) cs g):stepG P main g w=.go {g with status:=.blocked} w #[]:=by obtain⟨c,y,fr,frs,rfl,j,f,i,rfl⟩:=h;have a:=d.cs;rw[e]at a;exact z8 f (C.Wy b o kind sv) X.Fu a
include C X in
def Pk(j:ShM b o w s)(h:oi P n b o kind .tq cs g):lQ P n b o kind Wd cs g w main .tq s:=by
 obtain⟨c,y,fr,frs,rfl,k,i,d,rfl⟩:=h;have e:=z9 (P:=P) (main:=main) (cs:=frs++cs) (w:=w) i (C.XX b o kind) (by simp[TQ,cK]) X.nano X.Lj;have f:=i.re (y':={y with tn:=((w.os.mono+w.tick:Nat):Int)}) (.inl rfl) (.inl rfl) (.inl rfl) (.inr rfl);have a:=d.gK (y':={y with tn:=((w.os.mono+w.tick:Nat):Int)}) (by simpa[TQ,cK]using C.p2 b o kind);have key:=C.ui (Fl.of {y with tn:=((w.os.mono+w.tick:Nat):Int)}) b o kind (decide (IntKind.i64.wrap (((w.os.mono+w.tick:Nat):Int)-y.ws)>1000000));rw[Uw rfl]at key;refine⟨_,_,_,.up (decide (IntKind.i64.wrap (((w.os.mono+w.tick:Nat):Int)-y.ws)>1000000)),s,.up _,e,?_,.up _,nxt (y:={y with tn:=((w.os.mono+w.tick:Nat):Int)}) key k f a rfl rfl,bj rfl ⟨⟨w.tick,rfl⟩,rfl⟩,j.heap rfl,fJ,λ_=>rfl⟩;cases decide (IntKind.i64.wrap (((w.os.mono+w.tick:Nat):Int)-y.ws)>1000000)<;>simp[Mu.mv]
include C X in
def Pl{sv}(m:ShM b o w s)(hb:s.w.N<=1000)(v:∀q s',(q,s')∈Mu.mv (.up sv) s->Mu.loc q)(h:oi P n b o kind (.up sv) cs g):lQ P n b o kind Wd cs g w main (.up sv) s:=by
 obtain⟨c,y,fr,frs,rfl,A,x,p,rfl⟩:=h;have f:({y with N:=(s.w.N:Int)}:Sy).ok:=⟨⟨by simp,by show(s.w.N:Int)<=1000;omega⟩,A.2⟩
 have i:=x.re (y':={y with N:=(s.w.N:Int)}) (.inr rfl) (.inl rfl) (.inl rfl) (.inl rfl)
 have e:=p.gK (y':={y with N:=(s.w.N:Int)}) (by simpa[UP,cK]using C.p2 b o kind)
 have j:=qM (main:=main) (cs:=frs++cs) x (C.XY b o kind sv) X.Ut X.nS m.cw
 by_cases k:s.w.S=true
 . have r:(s.w.L||s.w.K||decide (s.w.N=0))=false:=by
    cases B:(s.w.L||s.w.K||decide (s.w.N=0))with
    |false=>rfl
    |true=>exact(v .bad s (by simp[Mu.mv,k,B])).elim
   have a:((.add s.w sv:Mu.Pc),s)∈Mu.mv (.up sv) s:=by simp[Mu.mv,k,r]
   simp only[abW,aaW]at r;obtain⟨⟨D,E⟩,t⟩:=r;have key:=C.Pd (Fl.of {y with N:=(s.w.N:Int)}) b o kind sv (decide (s.w.N=1))
   rw[RL (by show decide ((s.w.N:Int)=0)=false;simpa using t) (by show decide ((s.w.N:Int)=1)=decide (s.w.N=1);rw[acu,abL,abL];omega)]at key
   have u:SR {y with N:=(s.w.N:Int)} (.word false false true 0) (.int .i32 (enc s.w.L s.w.K s.w.S s.w.N)):=by rw[D,E,k];exact qO rfl
   exact⟨_,w,#[],_,s,.add s.w sv,j,a,.add _ _,nxt (y:={y with N:=(s.w.N:Int)}) key f i e u rfl,bj rfl,m,fJ,λ_=>rfl⟩
 . have d:s.w.S=false:=by simpa using k
   have a:(Mu.nx s.w ⟨true,sv,0⟩,s)∈Mu.mv (.up sv) s:=by simp[Mu.mv,d]
   have u:SR {y with N:=(s.w.N:Int)} (.word s.w.L s.w.K false 0) (.int .i32 (enc s.w.L s.w.K s.w.S s.w.N)):=by rw[d];exact qO rfl
   obtain⟨F,z,G,H,I⟩:=Uu (Wd:=Wd) (C.zk (Fl.of {y with N:=(s.w.N:Int)}) b o kind s.w.L s.w.K sv) f i e u
   obtain⟨J,M,O⟩:=Ht C (Wd:=Wd) (cs:=cs) (old:=s.w) (l:=⟨true,sv,0⟩) f rfl (by rw[d];exact G) (by rw[d];exact H) (v _ _ a)
   exact⟨_,w,#[],_,s,Tl s.w ⟨true,sv,0⟩,j,a,QR _ _,⟨rfl,J,(I cs).trans M,O⟩,bj rfl,m,fJ,λ_=>rfl⟩
include C X in
def Ls{old sv}(d:ShM b o w s)(hb:s.w.N<=1000)(j:s.w.L=false)(k:s.w.S=true)(q:s.w.N≠0)(h:oi P n b o kind (.add old sv) cs g):lQ P n b o kind Wd cs g w main (.add old sv) s:=by
 obtain⟨c,y,fr,frs,rfl,l,i,f,rfl⟩:=h;have a:=pX (main:=main) (cs:=frs++cs) (w:=w) i (C.XZ b o kind _) (by simp[AD,cK]) X.add (λx h=>h) d.cw (d.fz _)
 have e:IntKind.i32.wrap (enc s.w.L s.w.K s.w.S s.w.N+(if !sv||decide (old.N=1)then -11 else -7))=enc true s.w.K (s.w.S && !(!sv||decide (old.N=1))) (s.w.N-1:Nat):=by
  rw[j,k];have m:((s.w.N-1:Nat):Int)=(s.w.N:Int)-1:=by omega
  rw[m];generalize (!sv||decide (old.N=1))=x;have p:=lO (L:=false) (K:=s.w.K) (S:=true) (N:=(s.w.N:Int));rw[ja (by split<;>omega) (by split<;>omega)];unfold enc;cases x<;>cases s.w.K<;>simp[Bool.toNat]<;>omega
 rw[e]at a;exact⟨_,_,_,.held,{s with w:={s.w with L:=true,S:=s.w.S && !(!sv||decide (old.N=1)),N:=s.w.N-1}},.le,a,by simp[Mu.mv],.held,nxt (C.wx (Fl.of y) b o kind _) l i f trivial (.inr rfl),vZ rfl,d.aW {s.w with L:=true,S:=s.w.S && !(!sv||decide (old.N=1)),N:=s.w.N-1},kH (.inl rfl),λ_=>rfl⟩
include C X in
def Ix(t:ShM b o w s)(hb:s.w.N<=1000)(q:s.w.L=true)(h:oi P n b o kind .held cs g):lQ P n b o kind Wd cs g w main .held s:=by
 obtain⟨c,y,fr,frs,rfl,A,z,u,rfl⟩:=h;have k:({y with N:=(s.w.N:Int)}:Sy).ok:=⟨⟨by simp,by show(s.w.N:Int)<=1000;omega⟩,A.2⟩
 have l:=z.re (y':={y with N:=(s.w.N:Int)}) (.inr rfl) (.inl rfl) (.inl rfl) (.inl rfl)
 have d:=u.gK (y':={y with N:=(s.w.N:Int)}) (by simpa[r6,pq]using(C.p3 b o kind).1)
 have i:=pX (main:=main) (cs:=frs++cs) (w:=w) z (C.WG b o kind) (by simp[r6,pq]) X.add (λx h=>h) t.cw (t.fz _)
 have e:IntKind.i32.wrap (enc s.w.L s.w.K s.w.S s.w.N+-1)=enc false s.w.K s.w.S s.w.N:=by
  rw[q];have B:=lO (L:=true) (K:=s.w.K) (S:=s.w.S) (N:=(s.w.N:Int));rw[ja (by omega) (by omega)]
  unfold enc;simp[Bool.toNat];omega
 rw[e]at i;have m:=t.aW {s.w with L:=false}
 have p:SR {y with N:=(s.w.N:Int)} (.word false s.w.K s.w.S 0) (.int .i32 (enc false s.w.K s.w.S s.w.N)):=qO rfl
 by_cases r:s.w.S=true
 . have key:=C.XN (Fl.of {y with N:=(s.w.N:Int)}) b o kind (decide ((s.w.N:Int)=0)) s.w.K
   rw[r]at p;exact⟨_,_,_,.give,{s with w:={s.w with L:=false}},.give,i,by simp[Mu.mv,q,r,Mu.Wd.zero],.give,nxt (y:={y with N:=(s.w.N:Int)}) key k l d (by rw[r];exact p) (.inr rfl),vZ rfl,m,kH (.inl rfl),λ_=>rfl⟩
 . have f:s.w.S=false:=by simpa using r
   by_cases v:(decide ((s.w.N:Int)=0)||s.w.K)=true
   . have key:=C.u5 (Fl.of {y with N:=(s.w.N:Int)}) b o kind (decide ((s.w.N:Int)=0)) s.w.K v
     refine⟨_,_,_,.out,{s with w:={s.w with L:=false}},.ue,i,?_,.out,nxt (y:={y with N:=(s.w.N:Int)}) key k l d (by rw[f]at p ⊢;exact p) rfl,vZ rfl,m,kH (.inl rfl),λ_=>rfl⟩
     have a:(decide (s.w.N=0)||s.w.K)=true:=by simpa using v
     simp only[Mu.mv,q,abI,Rp,lb,zH,and_true];split
     . rfl
     . simp only
   . have a:(decide ((s.w.N:Int)=0)||s.w.K)=false:=by simpa using v
     simp only[abW,aaW]at a;have j:s.w.N≠0:=by have:=a.1;omega
     have key:=C.XO (Fl.of {y with N:=(s.w.N:Int)}) b o kind
     rw[Hr (by show decide ((s.w.N:Int)=0)=false;simpa using j)]at key
     rw[a.2,f]at p;refine⟨_,_,_,.jh {s.w with L:=false},{s with w:={s.w with L:=false}},.jh _,i,?_,.jh _,nxt (y:={y with N:=(s.w.N:Int)}) key k l d (by rw[a.2,f];exact p) ⟨rfl,rfl,rfl,a.2,f,j⟩,vZ rfl,m,kH (.inl rfl),λ_=>rfl⟩
     have D:({s.w with L:=false}:Mu.Wd)≠Mu.Wd.zero:=λe=>j (by have:=congrArg Mu.Wd.N e;exact this)
     simp[Mu.mv,q,f,j,a.2,Mu.Wd.zero]
include C X in
def Iy{old}(d:ShM b o w s)(h:oi P n b o kind (.jh old) cs g):lQ P n b o kind Wd cs g w main (.jh old) s:=by
 obtain⟨c,y,fr,frs,⟨rfl,k,q,r,t,l⟩,u,i,f,rfl⟩:=h;obtain⟨L,K,S,N⟩:=old;simp only at k q r t l;subst q;subst r;subst t;have v:(UC P n b o kind).1.kind≠.early:=by simp[UC,vB]
 have hold:∀x,SR y wf x->x=.int .i32 (enc false false false N):=λx m=>by have:=m.1;rw[k,acp]at this;exact this
 have a:∀x,SR y (.word false true false (-1)) x->x=.int .i32 (enc false true false (N-1:Nat)):=λx m=>by have:=m.1;rw[k]at this;rw[this];congr 2;omega
 by_cases j:s.w=⟨false,false,false,N⟩
 . have z:=d.cw
   rw[j]at z;exact⟨_,_,_,.give,{s with w:=⟨false,true,false,N-1⟩},.give,gX i (C.WH b o kind) v X.kB hold a z (d.fz o),by simp[Mu.mv,j],.give,nxt (C.XP (Fl.of y) b o kind) u i f rfl (.inl rfl),vZ rfl,d.aW ⟨false,true,false,N-1⟩,kH (.inl rfl),λ_=>rfl⟩
 . have p:¬enc s.w.L s.w.K s.w.S s.w.N=enc false false false N:=λe=>j (QS.2 e)
   exact⟨_,_,_,.vX,s,.vX,iE i (C.WH b o kind) v X.kB hold a d.cw (d.fz o) p,by simp[Mu.mv,j],.vX,nxt (C.XQ (Fl.of y) b o kind) u i f rfl rfl,bj rfl,d,Hk (.inl rfl),λ_=>rfl⟩
include C X in
def Lt(k:ShM b o w s)(hb:s.w.N<=1000)(h:oi P n b o kind .vX cs g):lQ P n b o kind Wd cs g w main .vX s:=by
 obtain⟨c,y,fr,frs,rfl,x,v,l,rfl⟩:=h;have e:({y with N:=(s.w.N:Int)}:Sy).ok:=⟨⟨by simp,by show(s.w.N:Int)<=1000;omega⟩,x.2⟩
 have f:=v.re (y':={y with N:=(s.w.N:Int)}) (.inr rfl) (.inl rfl) (.inl rfl) (.inl rfl)
 have d:=l.gK (y':={y with N:=(s.w.N:Int)}) (by simpa[OL,vB]using C.p4 b o kind)
 have i:=qM (main:=main) (cs:=frs++cs) v (C.X7 b o kind) X.Ut X.nV k.cw;have m:SR {y with N:=(s.w.N:Int)} (.word s.w.L s.w.K s.w.S 0) (.int .i32 (enc s.w.L s.w.K s.w.S s.w.N)):=qO rfl
 by_cases p:(decide ((s.w.N:Int)=0)||s.w.L||s.w.K||s.w.S)=true
 . have key:=C.u7 (Fl.of {y with N:=(s.w.N:Int)}) b o kind (decide ((s.w.N:Int)=0)) s.w.L s.w.K s.w.S p
   have a:(decide (s.w.N=0)||s.w.L||s.w.K||s.w.S)=true:=by simpa using p
   exact⟨_,w,#[],.out,s,.ue,i,by simp only[Mu.mv,a,aan,lb],.out,nxt (y:={y with N:=(s.w.N:Int)}) key e f d m rfl,bj rfl,k,fJ,λ_=>rfl⟩
 . have a:(decide ((s.w.N:Int)=0)||s.w.L||s.w.K||s.w.S)=false:=by simpa using p
   have q:(decide (s.w.N=0)||s.w.L||s.w.K||s.w.S)=false:=by rw[<-a];simp
   simp only[abW,aaW]at a;obtain⟨⟨⟨z,r⟩,t⟩,u⟩:=a;have j:s.w.N≠0:=by omega
   have key:=C.XR (Fl.of {y with N:=(s.w.N:Int)}) b o kind
   rw[Hr (by show decide ((s.w.N:Int)=0)=false;simpa using j)]at key
   rw[r,t,u]at m;exact⟨_,w,#[],.jh s.w,s,.jh _,i,by simp only[Mu.mv,q,LK,Rp,lb],.jh _,nxt (y:={y with N:=(s.w.N:Int)}) key e f d (by rw[r,t,u];exact m) ⟨rfl,rfl,r,t,u,j⟩,bj rfl,k,fJ,λ_=>rfl⟩
include C X in
def Iz(d:ShM b o w s)(l:s.ms<=1000)(h:oi P n b o kind .give cs g):lQ P n b o kind Wd cs g w main .give s:=by
 obtain⟨c,y,fr,frs,k,j,i,f,rfl⟩:=h;have e:IntKind.u32.wrap ((s.ms:Int)+1)=((s.ms+1:Nat):Int):=by rw[IntKind.wrap_u32];omega
 rcases k with rfl|rfl
 . have a:=oB (main:=main) (cs:=frs++cs) (w:=w) i (C.WI b o kind) (by simp[G7,vB]) X.oC d.cs (d.fz _)
   rw[e]at a;exact⟨_,_,_,.out,{s with ms:=s.ms+1},.ue,a,by simp[Mu.mv],.out,nxt (C.u8 (Fl.of y) b o kind) j i f rfl rfl,Pf rfl,d.Fy _,wB,λ_=>rfl⟩
 . have a:=oB (main:=main) (cs:=frs++cs) (w:=w) i (C.WJ b o kind) (by simp[G9,vB]) X.oC d.cs (d.fz _)
   rw[e]at a;exact⟨_,_,_,.out,{s with ms:=s.ms+1},.ue,a,by simp[Mu.mv],.out,nxt (C.u9 (Fl.of y) b o kind) j i f rfl rfl,Pf rfl,d.Fy _,wB,λ_=>rfl⟩
end
