import Derived.Conc.ClockLaws
import Derived.Conc.MarkLaws
import Derived.Conc.AtomicLaws2
import Derived.Conc.SmallLaws
import Derived.Laws.LoneSync
import Derived.Test.YtebcbkhnlnkolaaGreatDoorC6
set_option linter.all false
namespace Go.ck
open Go.Conc
abbrev ads:=List (Nat × SV)
def bh(s:pP):Option (FuncId × List SV):=
 match s.mode,s.todo with
 | .run, .inRegion ζ (i::_)::_=>match ζ[i]? with
   | some o=>match AO ζ s.env o with
     | some true=>match o.op with
       | .call c=>match c.callee with
         |.value (.func f)=>some (f,c.args.toList.map (sv s.env))
         |_=>none
       |_=>none
     |_=>none
   |none=>none
 |_,_=>none
def rB(s:pP):Option (TypeId × SV):=
 match s.mode,s.todo with
 | .run,.inRegion ζ (i::_)::_=>match ζ[i]? with
   | some o=>match AO ζ s.env o with
     | some true=>match o.op with
       |.load t x=>some (t,sv s.env x)
       |_=>none
     |_=>none
   |none=>none
 |_,_=>none
structure Ext(P:adT)(f:FuncId)  e :Prop where
 ex:∃fn,P.funcs[f]?=some fn/\(fn.name==  "runtime.NumGoroutine")=false/\fn.body.isNone=true/\Extern.findNext fn=none/\Extern.find fn=some e
def dD {y s fr f svs} (j:FR y s fr) (h:bh s=some (f,svs)) :
 ∃ ζ i μ kk o as a,ζ[i]? = some o∧Region.wanted o (yielded ζ fr.tmps)=true∧o.op = .call { callee:=.value (.func f),args:=as,argTypes:=a }∧svs=as.toList.map (sv s.env) ∧
   fr=(fr.at ⟨fr.tmps,fr.defers⟩ (.inRegion ζ (i :: μ) :: kk))∧∀ v,fr.at ((⟨fr.tmps,fr.defers⟩:Act).put o.dst v) (.inRegion ζ μ :: kk)=fr.finish v:=by
 have d:=j;obtain⟨fn,η,todo,θ,mode,τ,ro⟩:=fr;obtain⟨n,e,p,b,q,k,r,t⟩:=j;simp only at n e p b q k r t;subst k;unfold bh at h;split at h
 . rename_i ζ i μ kk u w
   rw[u] at b;rw[w] at e;have b:mode = .run:=b;subst b;subst e;split at h
   . rename_i o l
     split at h
     . rename_i x
       split at h
       . rename_i c z
         split at h
         . rename_i g m
           simp only[kn,yb] at h;obtain⟨rfl,rfl⟩:=h;obtain⟨callee,args,a⟩:=c;simp only at m;subst m;refine⟨ζ,i,μ,kk,o,args,a,l,qk d x,z,rfl,rfl,fun v=>?_⟩
           simp only[Frame.finish,l,Option.bind_some,Act.put,Frame.at]
           grind
         cases h
       cases h
     cases h
   cases h
 cases h
section
variable{P:adT}{main:Bool}{y:Sy}{s:pP}{fr:Frame}{f:FuncId}{svs:List SV}{cs:adE}{w:World}
def DU{fr:Frame}  x :(⟨fr.tmps,fr.defers⟩:Act).eval x=fr.eval x:=by cases x<;>rfl
def Ce {as:Array adU} (b:FR y s fr) {svs} (h:svs=as.toList.map (sv s.env)):∀ (j:Nat)  v ,svs[j]? = some v->∃ x,(as.map (⟨fr.tmps,fr.defers⟩:Act).eval)[j]? = some x∧SR y v x:=fun j v a=>by
 subst h;rw[abw,adj] at a;obtain⟨x,c,rfl⟩:=aaK.1 a;exact⟨fr.eval x,by simp[c,DU],b.sv x⟩
def fF {m} (d:∀ g,m ≠ .extern g) (c:FR y s fr) (h:bh s=some (f,svs)) (e:s.kind ≠ .early) (j:Ext P f (fun _=>do mark m;pure Extern.Race.none_)):stepG P main (G fr cs) w = .go (G (fr.finish (.tuple #[])) cs) w #[⟨.mark m,false,true⟩]:=by
 obtain⟨ζ,i,μ,kk,o,as,k,l,n,p,x,z,A⟩:=dD c h;obtain⟨fn,q,r,t,u,v⟩:=j.ex;have:=stepG_mark0 (P:=P) (main:=main) (b:=fr) (a:=⟨fr.tmps,fr.defers⟩) (kk:=kk) (cs:=cs) (w:=w) (rest:=μ) m d l n (by rw[c.kind];exact e) p q r t u v
 grind
def fZ {mk} (j:∀ ad g,mk ad ≠ .extern g) {ad} (d:FR y s fr) (h:bh s=some (f,[.lit (.pointer (some ad))])) (k:s.kind ≠ .early) (l:Ext P f (Extern.Race.marked mk)):stepG P main (G fr cs) w = .go (G (fr.finish (.tuple #[])) cs) w #[⟨.mark (mk ad),false,true⟩]:=by
 obtain⟨ζ,i,μ,kk,o,as,m,n,p,q,r,B,C⟩:=dD d h;obtain⟨fn,t,u,v,z,A⟩:=l.ex;obtain⟨x,e,c⟩:=Ce d r 0 _ rfl;have c:x = .pointer (some ad):=c;rw[c] at e;have:=stepG_markAt (P:=P) (main:=main) (b:=fr) (a:=⟨fr.tmps,fr.defers⟩) (kk:=kk) (cs:=cs) (w:=w) (rest:=μ) mk j n p (by rw[d.kind];exact k) q t u v z A e
 grind
def DV {as a b c} (h:[a,b,c]=as.toList.map (sv s.env)):∃ x z u,as=#[x,z,u]∧sv s.env x=a∧sv s.env z=b∧sv s.env u=c:=by
 obtain⟨l⟩:=as
 match l,h with
 | [x,z,u],h=>grind
def Mi {as a b} (h:[a,b]=as.toList.map (sv s.env)):∃ x z,as=#[x,z]∧sv s.env x=a∧sv s.env z=b:=by
 obtain⟨l⟩:=as
 match l,h with
 | [x,z],h=>grind
def Mj {as a} (h:[a]=as.toList.map (sv s.env)):∃ x,as=#[x]∧sv s.env x=a:=by
 obtain⟨l⟩:=as
 match l,h with
 | [x],h=>grind
def jj(b:FR y s fr){x a}(h:sv s.env x=a):SR y a ((⟨fr.tmps,fr.defers⟩:Act).eval x):=by subst h;rw[DU];exact b.sv x
def iE {k ad a b v n} (c:FR y s fr) (h:bh s=some (f,[.lit (.pointer (some ad)),a,b])) (e:s.kind ≠ .early) (g:Ext P f (Extern.Atomic.casT (.int k)))
 (j:∀ x,SR y a x->x = .int k v) (hb:∀ x,SR y b x->x = .int k n) (l:w.cell? ad=some (.int k v)) (m:w.frozen? ad=false) :
 stepG P main (G fr cs) w = .go (G (fr.finish (.bool true)) cs) (w.setCell ad (.int k n)) #[⟨.cell ad,false,true⟩,⟨.cell ad,true,true⟩]:=by
 obtain⟨ζ,i,μ,kk,o,as,p,q,r,t,A,J,K⟩:=dD c h;obtain⟨fn,B,C,D,E,F⟩:=g.ex;obtain⟨x,z,u,rfl,H,d,I⟩:=DV A;have:=stepG_cas_hit (P:=P) (main:=main) (b:=fr) (a:=⟨fr.tmps,fr.defers⟩) (kk:=kk) (cs:=cs) (w:=w) (rest:=μ) q r (by rw[c.kind];exact e) t B C D E k F (jj c H) (j _ (jj c d)) (hb _ (jj c I)) l m
 grind
def iV {k ad a b v old n} (c:FR y s fr) (h:bh s=some (f,[.lit (.pointer (some ad)),a,b])) (g:s.kind ≠ .early) (j:Ext P f (Extern.Atomic.casT (.int k)))
 (l:∀ x,SR y a x->x = .int k old) (hb:∀ x,SR y b x->x = .int k n) (m:w.cell? ad=some (.int k v)) (p:w.frozen? ad=false) (d : ¬ v=old) :
 stepG P main (G fr cs) w = .go (G (fr.finish (.bool false)) cs) w #[⟨.cell ad,false,true⟩]:=by
 obtain⟨ζ,i,μ,kk,o,as,q,r,t,A,B,K,L⟩:=dD c h;obtain⟨fn,C,D,E,F,H⟩:=j.ex;obtain⟨x,z,u,rfl,I,e,J⟩:=DV B;have:=stepG_cas_miss (P:=P) (main:=main) (b:=fr) (a:=⟨fr.tmps,fr.defers⟩) (kk:=kk) (cs:=cs) (w:=w) (rest:=μ) r t (by rw[c.kind];exact g) A C D E F k H (jj c I) (l _ (jj c e)) (hb _ (jj c J)) m p d
 grind
def qm {k ad a v d} (c:FR y s fr) (h:bh s=some (f,[.lit (.pointer (some ad)),a])) (g:s.kind ≠ .early) (j:Ext P f (Extern.Atomic.update (Op.intArith .add) k true))
 (l:∀ x,SR y a x->x = .int k d) (m:w.cell? ad=some (.int k v)) (n:w.frozen? ad=false) :
 stepG P main (G fr cs) w = .go (G (fr.finish (.int k (k.wrap (v+d)))) cs) (w.setCell ad (.int k (k.wrap (v+d)))) #[⟨.cell ad,false,true⟩,⟨.cell ad,true,true⟩]:=by
 obtain⟨ζ,i,μ,kk,o,as,p,q,r,t,u,H,I⟩:=dD c h;obtain⟨fn,A,B,C,D,E⟩:=j.ex;obtain⟨x,z,rfl,F,e⟩:=Mi u;have:=stepG_add_atomic (P:=P) (main:=main) (b:=fr) (a:=⟨fr.tmps,fr.defers⟩) (kk:=kk) (cs:=cs) (w:=w) (rest:=μ) q r (by rw[c.kind];exact g) t A B C D k E (jj c F) (l _ (jj c e)) m n
 grind
def tw {ad l n} (d:FR y s fr) (h:bh s=some (f,.lit (.pointer (some ad)) :: l)) (g:s.kind ≠ .early) (j:Ext P f Extern.Sync.semacquire) (k:w.cell? ad=some (.int .u32 n)) (m:n≠0) (p:w.frozen? ad=false) :
 stepG P main (G fr cs) w = .go (G (fr.finish (.tuple #[])) cs) (w.setCell ad (.int .u32 (n-1))) (semEvents ad):=by
 obtain⟨ζ,i,μ,kk,o,as,q,r,t,u,v,E,F⟩:=dD d h;obtain⟨fn,z,A,B,C,D⟩:=j.ex;obtain⟨x,e,c⟩:=Ce d v 0 _ rfl;have c:x = .pointer (some ad):=c;rw[c] at e;have:=stepG_semacquire (P:=P) (main:=main) (b:=fr) (a:=⟨fr.tmps,fr.defers⟩) (kk:=kk) (cs:=cs) (w:=w) (rest:=μ) r t (by rw[d.kind];exact g) u z A B C D e k m p
 grind
def AU {ad l} (d:FR y s fr) (h:bh s=some (f,.lit (.pointer (some ad)) :: l)) (g:Ext P f Extern.Sync.semacquire) (j:w.cell? ad=some (.int .u32 0)) :
 stepG P main (G fr cs) w = .go { G fr cs with status:=.blocked } w #[]:=by
 obtain⟨ζ,i,μ,kk,o,as,k,m,n,p,q,A,B⟩:=dD d h;obtain⟨fn,r,t,u,v,z⟩:=g.ex;obtain⟨x,e,c⟩:=Ce d q 0 _ rfl;have c:x = .pointer (some ad):=c;rw[c] at e;have:=stepG_semacquire_wait (P:=P) (main:=main) (b:=fr) (a:=⟨fr.tmps,fr.defers⟩) (kk:=kk) (cs:=cs) (w:=w) (rest:=μ) m n p r t u v z e j
 grind
def oJ {ad l n} (d:FR y s fr) (h:bh s=some (f,.lit (.pointer (some ad)) :: l)) (g:s.kind ≠ .early) (j:Ext P f Extern.Sync.semrelease) (k:w.cell? ad=some (.int .u32 n)) (m:w.frozen? ad=false) :
 stepG P main (G fr cs) w = .go (G (fr.finish (.tuple #[])) cs) (w.setCell ad (.int .u32 (IntKind.u32.wrap (n+1)))) (semEvents ad):=by
 obtain⟨ζ,i,μ,kk,o,as,p,q,r,t,u,D,E⟩:=dD d h;obtain⟨fn,v,z,A,B,C⟩:=j.ex;obtain⟨x,e,c⟩:=Ce d u 0 _ rfl;have c:x = .pointer (some ad):=c;rw[c] at e;have:=stepG_semrelease (P:=P) (main:=main) (b:=fr) (a:=⟨fr.tmps,fr.defers⟩) (kk:=kk) (cs:=cs) (w:=w) (rest:=μ) q r (by rw[d.kind];exact g) t v z A B C e k m
 grind
def AW (d:FR y s fr) (h:bh s=some (f,svs)) (e:s.kind ≠ .early) (g:Ext P f Extern.OsHooks.nano) (j:∃ fn,P.funcs[f]? = some fn∧fn.norace=true) :
 stepG P main (G fr cs) w = .go (G (fr.finish (.int .i64 ((w.os.mono+w.tick:Nat):Int))) cs) w.later #[]:=by
 obtain⟨ζ,i,μ,kk,o,as,k,l,m,n,x,z,A⟩:=dD d h;obtain⟨fn,p,q,r,t,u⟩:=g.ex;obtain⟨c,B,v⟩:=j;obtain rfl:c=fn:=by grind
 have:=stepG_nanotime (P:=P) (main:=main) (b:=fr) (a:=⟨fr.tmps,fr.defers⟩) (kk:=kk) (cs:=cs) (w:=w) (rest:=μ) l m (by rw[d.kind];exact e) n p q r t u v
 grind
def Jn {n} (d:FR y s fr) (h:bh s=some (f,[.lit (.int .i64 n)])) (g:s.kind ≠ .early) (v:Ext P f Extern.Sync.canSpin) :
 ∃ b w',stepG P main (G fr cs) w = .go (G (fr.finish (.bool b)) cs) w' #[]∧(b=true->n<4)∧(w'=w∨w'=w.asked):=by
 obtain⟨ζ,i,μ,kk,o,as,z,j,l,m,e,B,C⟩:=dD d h;obtain⟨fn,p,q,r,t,u⟩:=v.ex;obtain⟨x,rfl,A⟩:=Mj e;have c:(⟨fr.tmps,fr.defers⟩:Act).eval x = .int .i64 n:=jj d A
 by_cases e:n<4
 . have:=stepG_canSpin_ask (P:=P) (main:=main) (b:=fr) (a:=⟨fr.tmps,fr.defers⟩) (kk:=kk) (cs:=cs) (w:=w) (rest:=μ) j l (by rw[d.kind];exact g) m p q r t u (n:=n) (k:=.i64) (by simp[c]) e
   grind
 have:=stepG_canSpin_no (P:=P) (main:=main) (b:=fr) (a:=⟨fr.tmps,fr.defers⟩) (kk:=kk) (cs:=cs) (w:=w) (rest:=μ) j l (by rw[d.kind];exact g) m p q r t u (n:=n) (k:=.i64) (by simp[c]) (by omega)
 grind
def uN {v} (c:FR y s fr) (h:bh s=some (f,svs)) (d:s.kind ≠ .early) (e:Ext P f (fun _=>pure v)):stepG P main (G fr cs) w = .go (G (fr.finish v) cs) w #[]:=by
 obtain⟨ζ,i,μ,kk,o,as,g,j,k,l,t,u,x⟩:=dD c h;obtain⟨fn,m,n,p,q,r⟩:=e.ex;have:=stepG_entry (P:=P) (main:=main) (b:=fr) (a:=⟨fr.tmps,fr.defers⟩) (kk:=kk) (cs:=cs) (w:=w) (rest:=μ) (v:=v) (w':=w) (evs:=#[]) j k (by rw[c.kind];exact d) l m n p q r (by simp) (by simp) (by simp)
 grind
def Mk{α β P}{f:α->Sem β}  s :∀{a},nF P s=some a->∀w es,(s.bind f).runT P w es=(f a).runT P w es:=by
 induction s with
 |pure b=>intro a h w es;simp only[nF,kn]at h;subst h;rfl
 |program g c=>intro a h w es;simp only[nF]at h;exact c P h w es
 |_=>intro a h;simp[nF]at h
def qU{t:Nat}{ad v}(q:FR y s fr)(h:rB s=some (t,.lit (.pointer (some ad))))(C:nF P (isAgg t)=some false)(D:∃fn,P.funcs[s.fn]?=some fn/\fn.norace=true)(E:w.cell? ad=some v):
 stepG P main (G fr cs) w=.go (G (fr.finish v) cs) w #[]:=by
 have f:=q;obtain⟨fn,η,todo,θ,mode,τ,ro⟩:=fr;obtain⟨r,i,F,g,H,u,I,J⟩:=q;simp only at r i F g H u I J;subst u;unfold rB at h;split at h
 . rename_i ζ z μ A K j
   rw[K]at g;rw[j]at i;have g:mode=.run:=g;subst g;subst i;split at h
   . rename_i o L
     split at h
     . rename_i M
       split at h
       . rename_i a x k
         simp only[kn,yb]at h;obtain⟨rfl,N⟩:=h;have d:=f.sv x;rw[N]at d;have d:Frame.eval ⟨fn,η,.inRegion ζ (z::μ)::A,θ,.run,τ,none⟩ x=.pointer (some ad):=d;obtain⟨O,l,p⟩:=D;subst r;rw[n8 L (qk f M)];have hex:execOp (Frame.eval ⟨s.fn,η,.inRegion ζ (z::μ)::A,θ,.run,τ,none⟩) o=Sem.bind (Instr.loadAt a (.pointer (some ad))) (λv=>pure (Next.value v)):=by simp only[execOp,k,d];rfl
         have e:(Sem.bind (Instr.loadAt a (.pointer (some ad))) (λv=>(pure (Next.value v):Sem Next))).runT P w #[]=(.ok (.value v) w,#[⟨.cell ad,false,false⟩]):=by
          have Q:Instr.loadAt a (.pointer (some ad))=Sem.bind (isAgg a) (λb=>if b=true then Sem.bind (sizeOf a) (λn=>Sem.bind (loadCells ad n) (λc=>pure (.agg c)))else load ad):=rfl
          rw[Q]
          have R:Sem.bind (Sem.bind (isAgg a) (λb=>if b=true then Sem.bind (sizeOf a) (λn=>Sem.bind (loadCells ad n) (λc=>pure (.agg c)))else load ad)) (λv=>(pure (Next.value v):Sem Next))=
           Sem.bind (isAgg a) (λb=>Sem.bind (if b=true then Sem.bind (sizeOf a) (λn=>Sem.bind (loadCells ad n) (λc=>pure (.agg c)))else load ad) (λv=>(pure (Next.value v):Sem Next))):=bind_assoc (m:=Sem) _ _ _
          rw[R,Mk _ C];show(Sem.bind (load ad) (λv=>(pure (Next.value v):Sem Next))).runT P w #[]=_
          unfold load;show Sem.runT P (Sem.load .plain ad λv=>pure (Next.value v)) w #[]=_
          simp only[Sem.runT,E];rfl
         rw[hex]
         have S:seen P s.fn #[⟨.cell ad,false,false⟩]=#[]:=by rw[seen_def];simp[l,p,seenStep]
         simp only[stepG.apply,Rp,e,GStep.after]
         by_cases B:(τ==CallKind.early)=true
         . simp[B,iq,G]
         simp[B,S,G]
       cases h
     cases h
   cases h
 cases h
def kY(s:pP):Option (TypeId × TypeId × SV):=
 match s.mode,s.todo with
 | .run,.inRegion ζ (i::_)::_=>match ζ[i]? with
   | some o=>match AO ζ s.env o with
     | some true=>match o.op with
       |.convert a b x=>some (a,b,sv s.env x)
       |_=>none
     |_=>none
   |none=>none
 |_,_=>none
def uO{a b t ad}(l:FR y s fr)(h:kY s=some (a,b,.lit (.pointer (some ad))))(m:P.underlying a=some (.pointer t))(n:P.underlying b=some .unsafePointer)(p:(P.info? t).map (λi=>decide (i.size=0))=some false)(f:∃v,w.cell? ad=some v):
 stepG P main (G fr cs) w=.go (G (fr.finish (.pointer (some ad))) cs) w #[]:=by
 obtain⟨v,f⟩:=f;have d:=l;obtain⟨fn,η,todo,θ,mode,τ,ro⟩:=fr;obtain⟨z,g,A,e,B,q,C,D⟩:=l;simp only at z g A e B q C D;subst q;unfold kY at h;split at h
 . rename_i ζ r μ u E j
   rw[E]at e;rw[j]at g;have e:mode=.run:=e;subst e;subst g;split at h
   . rename_i o F
     split at h
     . rename_i H
       split at h
       . rename_i I J x k
         simp only[kn,yb]at h;obtain⟨rfl,rfl,K⟩:=h;have c:=d.sv x;rw[K]at c;have c:Frame.eval ⟨fn,η,.inRegion ζ (r::μ)::u,θ,.run,τ,none⟩ x=.pointer (some ad):=c;rw[n8 F (qk d H)];have hex:execOp (Frame.eval ⟨fn,η,.inRegion ζ (r::μ)::u,θ,.run,τ,none⟩) o=(do pure (.value (<-convert I J (.pointer (some ad)))):Sem Next):=by simp only[execOp,k,c]
         have L:=run_convert_to_unsafe m n p f;have M:=events_convert_to_unsafe m n p f #[];rw[hex];simp[stepG.apply,L,M,GStep.after,iq,G,Result.andThen]
       cases h
     cases h
   cases h
 cases h
end
def dR(P:adT)(f:FuncId)(args:List SV)(τ:adP):pP:=
 match P.funcs[f]? with
 |some fn=>⟨f,[.code (fn.body.getD .skip)],args++List.replicate (fn.ntmps-args.length) .cJ,[],.run,τ⟩
 |none=>⟨f,[],args,[],.run,τ⟩
abbrev dc:=pP × List pP
def next(P:adT)(a:Fl)(c:dc)(v:SV):dc:=match yi c.1 v with|some s=>sgo P a 400 s c.2|none=>c
def pt(b o:Nat):SV:=.lit (.pointer (some ⟨b,o,none⟩))
def un:SV:=.lit (.tuple #[])
def tt:SV:=.lit (.bool true)
def ff:SV:=.lit (.bool false)
def HZ(live:adL)(env:List SV):List SV:=(List.range env.length).zipWith (λi v=>if live.contains i then v else .cJ) env
def keep(live:adL)(s:pP):pP:={s with env:=HZ live s.env}
def Ml(env:List SV):ads->List SV
 |[]=>env
 |(i,v)::l=>Ml (env.set i v) l
def FR.keep{y:Sy}{s:pP}{fr:Frame}(h:FR y s fr)(live:adL):FR y (keep live s) fr:=by
 refine⟨h.fn,h.todo,h.defers,h.mode,h.kind,h.ro,?_,λt=>?_⟩
 . rw[h.size]
   show s.env.length=(HZ live s.env).length;rw[HZ,List.length_zipWith,acJ,Nat.min_self]
 have:=h.env t;simp only[Go.ck.keep,HZ];rw[wN,List.getElem?_zipWith];by_cases a:t<s.env.length
 . rw[List.getElem?_range a,xW a]
   simp only[abT];split
   . simp_all
   trivial
 simp_all
def plain:SV->Bool
 |.cJ=>true
 |.lit _=>true
 |_=>false
def FR.ir{y y' s fr}(h:FR y s fr)(a:s.env.all plain=true):FR y' s fr:=by
 refine⟨h.fn,h.todo,h.defers,h.mode,h.kind,h.ro,h.size,λt=>?_⟩;have b:=h.env t
 have c:plain (s.env.getD t .cJ)=true:=by
  rw[wN];cases q:s.env[t]? with
  |none=>rfl
  |some v=>grind
 generalize s.env.getD t .cJ=v at *;cases v<;>simp_all [plain,SR]
structure DW where
 lock:Nat
 unlock:Nat
 Vo:Nat
 wX:Nat
 SL:Nat
 RJ:Nat
 jR:Nat
 en:Nat
 acq:Nat
 rel:Nat
 kU:Nat
 add:Nat
 Jo:Nat
 uP:Nat
 nano:Nat
 Gb:Nat
 oO:Nat
 tM:Nat
 tU:Nat
 tI:Nat
def XF(c:dc):adL:=[c.1.fn,c.1.todo.length,(match c.1.todo with|.inRegion ζ (i::_)::_=>i|_=>999),(match bh c.1 with|some (f,_)=>f|none=>match rB c.1 with|some (t,_)=>1000+t|none=>999)]++c.2.map (·.fn)
def lN:Fl:=⟨false,false,false,false,false,false⟩
def Mm(P:adT)(f:Fl):Nat->pP->List pP->dc
 |0,fr,st=>(fr,st)
 | n + 1,fr,st=>match ss P f fr st with
   | some (a,b)=>match a.todo with
     |.code _::.inLoop _::_=>(a,b)
     |_=>Mm P f n a b
   |none=>(fr,st)
def DX(live:adL)(c:dc):dc:=(keep live c.1,c.2.map (keep []))
def aQ(P:adT)(a:Fl)(live:adL)(c:dc)(v:SV):Option dc:=(yi c.1 v).map λs=>DX live (sgo P a 400 s c.2)
def qo(P:adT)(a:Fl)(live:adL)(c:dc)(v:SV):Option dc:=(yi c.1 v).map λs=>DX live (Mm P a 400 s c.2)
def Vp(P:adT)(a:Fl)(live:adL)(c:dc):dc:=DX live (sgo P a 400 c.1 c.2)
def bl(x:Bool):SV:=.lit (.bool x)
def i64(n:Int):SV:=.lit (.int .i64 n)
def i32(n:Int):SV:=.lit (.int .i32 n)
def jk(n:Nat):List SV:=List.replicate n .cJ
section
variable(P:adT)(n:DW)(b o:Nat)(τ:adP)
def wf:SV:=.word false false false 0
def wl:SV:=.word true false false 0
def XG:dc:=DX [0] (sgo P lN 400 (dR P n.lock [pt b o] τ) [])
def Mn:dc:=next P lN (XG P n b o τ) un
def Vq:dc:=next P lN (Mn P n b o τ) tt
def Vr:dc:=next P lN (Vq P n b o τ) un
def XH:dc:=next P lN (Vr P n b o τ) (pt b o)
def Gc:dc:=next P lN (Mn P n b o τ) ff
def rHd:dc:=(qo P lN [] (Gc P n b o τ) wf).getD (Gc P n b o τ)
def XI:dc:=next P lN (Gc P n b o τ) wl
def YO:dc:=next P lN (XI P n b o τ) tt
def YP:dc:=next P lN (YO P n b o τ) tt
def XJ:dc:=next P lN (YP P n b o τ) un
def SM:dc:=next P lN (XI P n b o τ) ff
def XK:dc:=next P lN (SM P n b o τ) ff
def Vt:dc:=next P lN (next P lN (Gc P n b o τ) wf) tt
def Vu:dc:=next P lN (Vt P n b o τ) un
def XL:dc:=next P lN (Vu P n b o τ) (pt b o)
def YQ:dc:=next P lN (SM P n b o τ) tt
def YR:dc:=next P lN (YQ P n b o τ) .Jm
def YS:dc:=next P lN (YR P n b o τ) un
def YT:dc:=next P lN (YS P n b o τ) .now
def rAd:dc:=next P lN (YT P n b o τ) (.word false false true 0)
def Vv:List pP:=(XG P n b o τ).2
def Xr:List pP:=(Gc P n b o τ).2.map (keep [])
def mX(a:adH)(l:ads):dc:=(⟨n.Vo,a,Ml (jk 13) l,[],.run,.normal⟩,Vv P n b o τ)
def cS(a:adH)(l:ads):dc:=(⟨n.SL,a,Ml (jk 139) l,[],.run,.normal⟩,Xr P n b o τ)
def LD:dc:=XG P n b o τ
def uQ:dc:=mX P n b o τ (Mn P n b o τ).1.todo [(0,pt b o),(5,pt b o)]
def RK:dc:=mX P n b o τ (Vq P n b o τ).1.todo [(0,pt b o)]
def Us:dc:=mX P n b o τ (Vr P n b o τ).1.todo [(8,pt b o)]
def RL:dc:=mX P n b o τ (XH P n b o τ).1.todo [(9,pt b o)]
def BK:dc:=(⟨n.lock,[],jk 6,[],.ret,τ⟩,[])
def RN(aw sv:Bool)(it:Int):ads:=[(0,pt b o),(2,.Jm),(3,bl sv),(4,bl aw),(5,i64 it)]
def Xs:dc:=cS P n b o τ (Gc P n b o τ).1.todo [(0,pt b o),(2,i64 0),(3,ff),(4,ff),(5,i64 0),(12,pt b o)]
def SN(aw sv:Bool)(it:Int):dc:=cS P n b o τ (Gc P n b o τ).1.todo (RN b o aw sv it++[(12,pt b o)])
def H2(aw sv:Bool)(it:Int):dc:=cS P n b o τ (XJ P n b o τ).1.todo (RN b o aw sv it++[(47,pt b o)])
def SO(aw sv:Bool)(it:Int):dc:=cS P n b o τ (XK P n b o τ).1.todo (RN b o aw sv it++[(133,pt b o)])
def HD(L K S aw sv:Bool)(it:Int):dc:=cS P n b o τ (rHd P n b o τ).1.todo (RN b o aw sv it++[(6,.word L K S 0)])
def SQ(K aw sv:Bool)(it:Int):dc:=cS P n b o τ (XI P n b o τ).1.todo (RN b o aw sv it++[(6,.word true K false 0),(17,tt),(18,i64 it)])
def SW(it:Int):dc:=cS P n b o τ (YO P n b o τ).1.todo (RN b o false false it++[(33,tt),(36,pt b o),(37,.word true false false 0),(39,.word true true false 0)])
def DS(aw sv:Bool)(it:Int):dc:=cS P n b o τ (YP P n b o τ).1.todo (RN b o aw sv it)
def Qi(L K S aw sv:Bool):SV:=.word (L||!S) (if aw then false else K) (S||(sv && L)) (if L||S then 1 else 0)
def DY(L K S aw sv:Bool)(it:Int):dc:=cS P n b o τ (SM P n b o τ).1.todo (RN b o aw sv it++[(6,.word L K S 0),(77,pt b o),(78,.word L K S 0),(79,Qi L K S aw sv)])
def T1(sv:Bool):dc:=cS P n b o τ (YQ P n b o τ).1.todo [(0,pt b o),(3,bl sv)]
def PK(sv:Bool):dc:=cS P n b o τ (YR P n b o τ).1.todo [(0,pt b o),(2,.Jm),(3,bl sv),(91,pt b (o+1))]
def TQ:dc:=cS P n b o τ (YS P n b o τ).1.todo [(0,pt b o),(2,.Jm),(95,ff)]
def UP(sv:Bool):dc:=cS P n b o τ (YT P n b o τ).1.todo [(0,pt b o),(2,.Jm),(3,bl sv),(103,pt b o)]
def AD(d:Int):dc:=cS P n b o τ (rAd P n b o τ).1.todo [(0,pt b o),(128,pt b o),(129,i32 d)]
def PN:dc:=cS P n b o τ (Vt P n b o τ).1.todo [(0,pt b o)]
def Ut:dc:=cS P n b o τ (Vu P n b o τ).1.todo [(136,pt b o)]
def RO:dc:=cS P n b o τ (XL P n b o τ).1.todo [(137,pt b o)]
def XN:dc:=DX [0,5] (sgo P lN 400 (dR P n.unlock [pt b o] τ) [])
def Vw:dc:=next P lN (XN P n b o τ) .cJ
def YU:dc:=next P lN (Vw P n b o τ) (pt b o)
def YV:dc:=next P lN (YU P n b o τ) un
def H3:dc:=next P lN (YV P n b o τ) un
def rUe:dc:=next P {lN with n0:=true} (H3 P n b o τ) wf
def Xt:dc:=next P lN (H3 P n b o τ) wf
def rG9:dc:=next P lN (H3 P n b o τ) (.word false false true 0)
def rG7:dc:=next P lN (Xt P n b o τ) tt
def XO:dc:=next P lN (Xt P n b o τ) ff
def Vx:List pP:=(XN P n b o τ).2
def XP:List pP:=(Xt P n b o τ).2.map (keep [])
def pG(a:adH)(l:ads):dc:=(⟨n.wX,a,Ml (jk 21) l,[],.run,.normal⟩,Vx P n b o τ)
def vR(a:adH)(l:ads):dc:=(⟨n.RJ,a,Ml (jk 43) l,[],.run,.normal⟩,XP P n b o τ)
def U0:dc:=XN P n b o τ
def Uu:dc:=pG P n b o τ (Vw P n b o τ).1.todo [(0,pt b o),(7,pt b o)]
def UR:dc:=pG P n b o τ (YU P n b o τ).1.todo [(0,pt b o),(8,pt b o)]
def UD:dc:=pG P n b o τ (YV P n b o τ).1.todo [(0,pt b o)]
def sx:dc:=pG P n b o τ (H3 P n b o τ).1.todo [(0,pt b o),(13,pt b o),(14,.cJ)]
def UE:dc:=pG P n b o τ (rUe P n b o τ).1.todo []
def UC:dc:=vR P n b o τ (Xt P n b o τ).1.todo [(0,pt b o),(27,pt b o),(28,wf),(29,.word false true false (-1))]
def G7:dc:=vR P n b o τ (rG7 P n b o τ).1.todo [(33,pt b (o+1))]
def G9:dc:=vR P n b o τ (rG9 P n b o τ).1.todo [(41,pt b (o+1))]
def PO:dc:=vR P n b o τ (XO P n b o τ).1.todo [(0,pt b o),(37,pt b o)]
def Vy:dc:=(⟨n.unlock,[],jk 6,[],.ret,τ⟩,[])
end
structure ib  P   n :Prop where
 e1:∀  fl  b o τ,aQ P fl [0,5] (LD P n b o τ) un=some (uQ P n b o τ)
 e2:∀  fl  b o τ,aQ P fl [0] (uQ P n b o τ) tt=some (RK P n b o τ)
 e3:∀  fl  b o τ,aQ P fl [0,2,3,4,5,12] (uQ P n b o τ) ff=some (Xs P n b o τ)
 e4:∀  fl  b o τ,aQ P fl [8] (RK P n b o τ) un=some (Us P n b o τ)
 e5:∀  fl  b o τ,aQ P fl [9] (Us P n b o τ) (pt b o)=some (RL P n b o τ)
 e6:∀  fl  b o τ,aQ P fl [] (RL P n b o τ) un=some (BK n τ)
 YW:∀  fl  b o τ L K S aw sv it,qo P fl [0,2,3,4,5,6] (SN P n b o τ aw sv it) (.word L K S 0)=some (HD P n b o τ L K S aw sv it)
 SP:∀  fl  b o τ L K S aw sv it,qo P fl [0,2,3,4,5,6] (H2 P n b o τ aw sv it) (.word L K S 0)=some (HD P n b o τ L K S aw sv it)
 YX:∀  fl  b o τ L K S aw sv it,qo P fl [0,2,3,4,5,6] (SO P n b o τ aw sv it) (.word L K S 0)=some (HD P n b o τ L K S aw sv it)
 e8:∀  fl  b o τ K aw sv it,Vp P fl [0,2,3,4,5,6,17,18] (HD P n b o τ true K false aw sv it)=SQ P n b o τ K aw sv it
 e9:∀  fl  b o τ L K S aw sv it,(L && !S)=false->(aw && !K)=false->Vp P fl [0,2,3,4,5,6,77,78,79] (HD P n b o τ L K S aw sv it)=DY P n b o τ L K S aw sv it
 cN:∀(fl:Fl) b o τ it,aQ P {fl with n0:=false} [0,2,3,4,5,33,36,37,39] (SQ P n b o τ false false false it) tt=some (SW P n b o τ it)
 Vz:∀(fl:Fl) b o τ n0 K aw sv it,(!aw && !K && !n0)=false->aQ P {fl with n0:=n0} [0,2,3,4,5] (SQ P n b o τ K aw sv it) tt=some (DS P n b o τ aw sv it)
 dw:∀  fl  b o τ K aw sv it,(aw && !K)=false->aQ P fl [0,2,3,4,5,6,77,78,79] (SQ P n b o τ K aw sv it) ff=some (DY P n b o τ true K false aw sv it)
 fI:∀  fl  b o τ r it,aQ P fl [0,2,3,4,5] (SW P n b o τ it) (bl r)=some (DS P n b o τ r false it)
 Gd:∀  fl  b o τ aw sv,aQ P fl [0,2,3,4,5,47] (DS P n b o τ aw sv 0) un=some (H2 P n b o τ aw sv 1)
 Ge:∀  fl  b o τ aw sv,aQ P fl [0,2,3,4,5,47] (DS P n b o τ aw sv 1) un=some (H2 P n b o τ aw sv 2)
 VA:∀  fl  b o τ aw sv,aQ P fl [0,2,3,4,5,47] (DS P n b o τ aw sv 2) un=some (H2 P n b o τ aw sv 3)
 VB:∀  fl  b o τ aw sv,aQ P fl [0,2,3,4,5,47] (DS P n b o τ aw sv 3) un=some (H2 P n b o τ aw sv 4)
 LA:∀  fl  b o τ K aw sv it,aQ P fl [0] (DY P n b o τ false K false aw sv it) tt=some (PN P n b o τ)
 VC:∀(fl:Fl) b o τ L K S aw sv it,(L||S)=true->aQ P {fl with wz:=true} [0,3] (DY P n b o τ L K S aw sv it) tt=some (T1 P n b o τ sv)
 VD:∀(fl:Fl) b o τ L K S aw sv it,(L||S)=true->aQ P {fl with wz:=false} [0,2,3,91] (DY P n b o τ L K S aw sv it) tt=some (PK P n b o τ sv)
 Cf:∀  fl  b o τ L K S aw sv it,aQ P fl [0,2,3,4,5,133] (DY P n b o τ L K S aw sv it) ff=some (SO P n b o τ aw sv it)
 yk:∀  fl  b o τ sv,aQ P fl [0,2,3,91] (T1 P n b o τ sv) .Jm=some (PK P n b o τ sv)
 VE:∀  fl  b o τ,aQ P fl [0,2,3,103] (PK P n b o τ true) un=some (UP P n b o τ true)
 VF:∀  fl  b o τ,aQ P fl [0,2,95] (PK P n b o τ false) un=some (TQ P n b o τ)
 sz:∀(fl:Fl) b o τ x,aQ P {fl with tb:=x} [0,2,3,103] (TQ P n b o τ) .now=some (UP P n b o τ x)
 Qj:∀(fl:Fl) b o τ sv n1,aQ P {fl with n0:=false,n1:=n1} [0,128,129] (UP P n b o τ sv) (.word false false true 0)=some (AD P n b o τ (if !sv||n1 then -11 else -7))
 Ae:∀(fl:Fl) b o τ L K sv,qo P fl [0,2,3,4,5,6] (UP P n b o τ sv) (.word L K false 0)=some (HD P n b o τ L K false true sv 0)
 wY:∀(fl:Fl) b o τ d,aQ P fl [0] (AD P n b o τ d) .cJ=some (PN P n b o τ)
 wZ:∀(fl:Fl) b o τ,aQ P fl [136] (PN P n b o τ) un=some (Ut P n b o τ)
 LB:∀(fl:Fl) b o τ,aQ P fl [137] (Ut P n b o τ) (pt b o)=some (RO P n b o τ)
 xa:∀(fl:Fl) b o τ,aQ P fl [] (RO P n b o τ) un=some (BK n τ)
 u1:∀(fl:Fl) b o τ,aQ P fl [0,7] (U0 P n b o τ) .cJ=some (Uu P n b o τ)
 u2:∀(fl:Fl) b o τ,aQ P fl [0,8] (Uu P n b o τ) (pt b o)=some (UR P n b o τ)
 u3:∀(fl:Fl) b o τ,aQ P fl [0] (UR P n b o τ) un=some (UD P n b o τ)
 u4:∀(fl:Fl) b o τ,aQ P fl [0,13] (UD P n b o τ) un=some (sx P n b o τ)
 u5:∀(fl:Fl) b o τ n0 K,(n0||K)=true->aQ P {fl with n0:=n0} [] (sx P n b o τ) (.word false K false 0)=some (UE P n b o τ)
 YY:∀(fl:Fl) b o τ n0 K,aQ P {fl with n0:=n0} [41] (sx P n b o τ) (.word false K true 0)=some (G9 P n b o τ)
 YZ:∀(fl:Fl) b o τ,aQ P {fl with n0:=false} [0,27,28,29] (sx P n b o τ) (.word false false false 0)=some (UC P n b o τ)
 Y0:∀(fl:Fl) b o τ,aQ P fl [33] (UC P n b o τ) tt=some (G7 P n b o τ)
 Y1:∀(fl:Fl) b o τ,aQ P fl [0,37] (UC P n b o τ) ff=some (PO P n b o τ)
 u7:∀(fl:Fl) b o τ n0 L K S,(n0||L||K||S)=true->aQ P {fl with n0:=n0} [] (PO P n b o τ) (.word L K S 0)=some (UE P n b o τ)
 Y2:∀(fl:Fl) b o τ,aQ P {fl with n0:=false} [0,27,28,29] (PO P n b o τ) (.word false false false 0)=some (UC P n b o τ)
 u8:∀(fl:Fl) b o τ,aQ P fl [] (G7 P n b o τ) un=some (UE P n b o τ)
 u9:∀(fl:Fl) b o τ,aQ P fl [] (G9 P n b o τ) un=some (UE P n b o τ)
 Y3:∀(fl:Fl) b o τ,aQ P fl [] (UE P n b o τ) un=some (Vy n τ)
 o1:∀b o τ,bh (LD P n b o τ).1=some (n.jR,[])/\(LD P n b o τ).1.kind=.normal
 o2:∀b o τ,bh (uQ P n b o τ).1=some (n.kU,[pt b o,i32 0,i32 1])
 o3:∀b o τ,bh (RK P n b o τ).1=some (n.en,[])
 o4:∀b o τ,kY (Us P n b o τ).1=some (n.tM,n.tU,pt b o)
 o5:∀b o τ,bh (RL P n b o τ).1=some (n.acq,[pt b o])
 Y4:∀b o τ aw sv it,rB (SN P n b o τ aw sv it).1=some (n.tI,pt b o)
 Y5:∀b o τ aw sv it,rB (H2 P n b o τ aw sv it).1=some (n.tI,pt b o)
 Y6:∀b o τ aw sv it,rB (SO P n b o τ aw sv it).1=some (n.tI,pt b o)
 o7:∀b o τ K aw sv it,bh (SQ P n b o τ K aw sv it).1=some (n.Jo,[i64 it])
 o8:∀b o τ it,bh (SW P n b o τ it).1=some (n.kU,[pt b o,.word true false false 0,.word true true false 0])
 o9:∀b o τ aw sv it,bh (DS P n b o τ aw sv it).1=some (n.uP,[])
 XQ:∀b o τ L K S aw sv it,bh (DY P n b o τ L K S aw sv it).1=some (n.kU,[pt b o,.word L K S 0,Qi L K S aw sv])
 Y7:∀b o τ sv,bh (T1 P n b o τ sv).1=some (n.nano,[])
 XR:∀b o τ sv,bh (PK P n b o τ sv).1=some (n.Gb,[pt b (o+1),.cJ,i64 2])
 Y8:∀b o τ,bh (TQ P n b o τ).1=some (n.nano,[])
 Y9:∀b o τ sv,rB (UP P n b o τ sv).1=some (n.tI,pt b o)
 Y':∀b o τ d,bh (AD P n b o τ d).1=some (n.add,[pt b o,i32 d])
 Za:∀b o τ,bh (PN P n b o τ).1=some (n.en,[])
 Zb:∀b o τ,kY (Ut P n b o τ).1=some (n.tM,n.tU,pt b o)
 Zc:∀b o τ,bh (RO P n b o τ).1=some (n.acq,[pt b o])
 XS:∀b o τ,rB (U0 P n b o τ).1=some (n.tI,pt b o)/\(U0 P n b o τ).1.kind=.normal/\(U0 P n b o τ).1.fn=n.wX
 Zd:∀b o τ,kY (Uu P n b o τ).1=some (n.tM,n.tU,pt b o)
 Ze:∀b o τ,bh (UR P n b o τ).1=some (n.rel,[pt b o])
 Zf:∀b o τ,bh (UD P n b o τ).1=some (n.jR,[])
 XT:∀b o τ,bh (sx P n b o τ).1=some (n.add,[pt b o,i32 (-1)])
 XU:∀b o τ,bh (UC P n b o τ).1=some (n.kU,[pt b o,wf,.word false true false (-1)])
 XV:∀b o τ,bh (G7 P n b o τ).1=some (n.oO,[pt b (o+1),ff,i64 2])
 XW:∀b o τ,bh (G9 P n b o τ).1=some (n.oO,[pt b (o+1),tt,i64 2])
 Zg:∀b o τ,rB (PO P n b o τ).1=some (n.tI,pt b o)
 Zh:∀b o τ,bh (UE P n b o τ).1=some (n.en,[])
 p1:∀b o τ,(Vv P n b o τ).all (·.env.all plain)=true/\(LD P n b o τ).1.env.all plain=true/\(LD P n b o τ).2=Vv P n b o τ
 p2:∀b o τ,(Xr P n b o τ).all (·.env.all plain)=true
 p3:∀b o τ,(Vx P n b o τ).all (·.env.all plain)=true/\(U0 P n b o τ).1.env.all plain=true/\(U0 P n b o τ).2=Vx P n b o τ
 p4:∀b o τ,(XP P n b o τ).all (·.env.all plain)=true
structure ig  P  (n:DW):Prop where
 jR:Ext P n.jR (λ_=>do mark .disable;pure Extern.Race.none_)
 en:Ext P n.en (λ_=>do mark .enable;pure Extern.Race.none_)
 acq:Ext P n.acq (Extern.Race.marked .acquire)
 rel:Ext P n.rel (Extern.Race.marked .releaseMerge)
 kU:Ext P n.kU (Extern.Atomic.casT (.int .i32))
 add:Ext P n.add (Extern.Atomic.update (Op.intArith .add) .i32 true)
 Jo:Ext P n.Jo Extern.Sync.canSpin
 uP:Ext P n.uP (λ_=>pure (.tuple #[]))
 nano:Ext P n.nano Extern.OsHooks.nano
 Mp:∃fn,P.funcs[n.nano]?=some fn/\fn.norace=true
 Gb:Ext P n.Gb Extern.Sync.semacquire
 oO:Ext P n.oO Extern.Sync.semrelease
 VG:nF P (isAgg n.tI)=some false
 Zi:∃t,P.underlying n.tM=some (.pointer t)/\P.underlying n.tU=some .unsafePointer/\(P.info? t).map (λi=>decide (i.size=0))=some false
 nS:∃fn,P.funcs[n.SL]?=some fn/\fn.norace=true
 nU:∃fn,P.funcs[n.wX]?=some fn/\fn.norace=true
 nV:∃fn,P.funcs[n.RJ]?=some fn/\fn.norace=true
def Sy.ok(y:Sy):Prop:=(0<=y.N/\y.N<=1000)/\(0<=y.c/\y.c<=1000)
def Fl.of(y:Sy):Fl:=⟨decide (y.N=0),decide (y.N=1),decide (y.c=0),decide (y.c=1),decide (y.ws=0),decide (IntKind.i64.wrap (y.tn-y.ws)>1000000)⟩
def Fl.DZ{y}(h:y.ok):(Fl.of y).At y:=⟨h.1,h.2,rfl,rfl,rfl,rfl,rfl,rfl⟩
def H4:SV->Bool|.word ..=>true|.cnt=>true|_=>false
def Mq:SV->Bool|.eZ _=>true|.HY=>true|.Jl=>true|_=>false
def Mr:SV->Bool|.Jm=>true|.Vl=>true|_=>false
def Ms:SV->Bool|.now=>true|.Vl=>true|_=>false
def SR.re{y y' v x}(h:SR y v x)(a:y.N=y'.N\/H4 v=false)(b:y.c=y'.c\/Mq v=false)(d:y.ws=y'.ws\/Mr v=false)(e:y.tn=y'.tn\/Ms v=false):SR y' v x:=by cases v<;>simp_all [SR,H4,Mq,Mr,Ms]
def FR.re{y y' s fr}(h:FR y s fr)(a:y.N=y'.N\/s.env.all (λv=>!H4 v)=true)(b:y.c=y'.c\/s.env.all (λv=>!Mq v)=true)
 (d:y.ws=y'.ws\/s.env.all (λv=>!Mr v)=true) (e:y.tn=y'.tn\/s.env.all (λv=>!Ms v)=true):FR y' s fr:=by
 have key:∀(u:SV->Bool) (t:Nat),u .cJ=false->s.env.all (λv=>!u v)=true->u (s.env.getD t .cJ)=false:=λu t f g=>by grind
 exact⟨h.fn,h.todo,h.defers,h.mode,h.kind,h.ro,h.size,λt=>(h.env t).re (a.imp id (key _ t rfl)) (b.imp id (key _ t rfl)) (d.imp id (key _ t rfl)) (e.imp id (key _ t rfl))⟩
def mM.ir{y y'}:∀{l fs},mM y l fs->l.all (·.env.all plain)=true->mM y' l fs
 |[],fs,h,_=>by rw[h.mW];trivial
 |s::l,fs,h,a=>by obtain⟨f,b,rfl,c,d⟩:=h.cons_inv;simp only[abL,wL]at a;exact⟨c.ir a.1,d.ir a.2⟩
def mM.keep{y}  live :∀{l fs},mM y l fs->mM y (l.map (Go.ck.keep live)) fs
 |[],fs,h=>by simp_all
 |s::l,fs,h=>by obtain⟨f,a,rfl,b,c⟩:=h.cons_inv;exact⟨b.keep live,c.keep live⟩
def H5{P Wd f y}(i:f.At y):∀  n  {s st fr φ},FR y s fr->mM y st φ ->
 ∃m b a,FR y (Mm P f n s st).1 b/\mM y (Mm P f n s st).2 a/\∀cs,jI P Wd m (G fr (φ++cs)) (G b (a++cs))
 |0,s,st,fr,φ,g,c=>⟨0,fr,φ,g,c,λ_=>rfl⟩
 | n + 1,s,st,fr,φ,g,c=>by
   unfold Mm;cases e:ss P f s st with
   |none=>exact⟨0,fr,φ,g,c,λ_=>rfl⟩
   | some p=>
     obtain⟨u,o⟩:=p;obtain⟨b,a,j,k,l⟩:=RI i e g c;simp only;split
     . exact⟨1,b,a,j,k,λcs=>⟨_,l cs,rfl⟩⟩
     . obtain⟨m,h,d,q,r,t⟩:=H5 i n j k
       exact⟨m+1,h,d,q,r,λcs=>⟨_,l cs,t cs⟩⟩
section
variable{P:adT}{Wd:adz}{y:Sy}{c c':dc}{live:adL}{v:SV}{x:Value}{fr:Frame}{φ:adE}
def RP(e:aQ P (Fl.of y) live c v=some c')(f:y.ok)(g:FR y c.1 fr)(d:mM y c.2 φ)(h:SR y v x):
 ∃b a,FR y c'.1 b/\mM y c'.2 a/\∀cs,tu P Wd (G (fr.finish x) (φ++cs)) (G b (a++cs)):=by
 obtain⟨s,i,rfl⟩:=aaK.1 e;obtain⟨m,b,a,j,k,l⟩:=mq (Wd:=Wd) (Fl.DZ f) 400 (P:=P) (g.fin i h) d;exact⟨b,a,j.keep live,k.keep [],λcs=>⟨m,l cs⟩⟩
def VH(e:qo P (Fl.of y) live c v=some c')(f:y.ok)(g:FR y c.1 fr)(d:mM y c.2 φ)(h:SR y v x):
 ∃b a,FR y c'.1 b/\mM y c'.2 a/\∀cs,tu P Wd (G (fr.finish x) (φ++cs)) (G b (a++cs)):=by
 obtain⟨s,i,rfl⟩:=aaK.1 e;obtain⟨m,b,a,j,k,l⟩:=H5 (Wd:=Wd) (Fl.DZ f) 400 (P:=P) (g.fin i h) d;exact⟨b,a,j.keep live,k.keep [],λcs=>⟨m,l cs⟩⟩
def VI(e:Vp P (Fl.of y) live c=c')(f:y.ok)(g:FR y c.1 fr)(d:mM y c.2 φ):
 ∃b a,FR y c'.1 b/\mM y c'.2 a/\∀cs,tu P Wd (G fr (φ++cs)) (G b (a++cs)):=by
 subst e;obtain⟨m,b,a,h,i,j⟩:=mq (Wd:=Wd) (Fl.DZ f) 400 (P:=P) g d;exact⟨b,a,h.keep live,i.keep [],λcs=>⟨m,j cs⟩⟩
end
open Mu in
inductive Cg where
 |ld|iM|rd (l:Lo)|sq (old:Wd) (l:Lo)|sw (old:Wd) (l:Lo)|kU (old:Wd) (l:Lo)|t1 (sv:Bool)|il (sv:Bool)|tq|up (sv:Bool)|add (old:Wd) (sv:Bool)|le|la|back
 |H6|ur|ud|held|jH (old:Wd)|wG|give|ue|D5
section
variable(P:adT)(n:DW)(b o:Nat)(τ:adP)
def F9(p:Cg)(c:dc)(y:Sy):Prop:=
 match p with
 |.ld=>c=LD P n b o τ
 |.iM=>c=uQ P n b o τ
 |.rd l=>c=SN P n b o τ l.aw l.sv l.it\/c=H2 P n b o τ l.aw l.sv l.it\/c=SO P n b o τ l.aw l.sv l.it
 |.sq old l=>c=SQ P n b o τ old.K l.aw l.sv l.it/\y.N=old.N/\old.L=true/\old.S=false
 |.sw old l=>c=SW P n b o τ l.it/\y.N=old.N/\l.aw=false/\l.sv=false/\old.L=true/\old.K=false/\old.S=false
 |.kU old l=>c=DY P n b o τ old.L old.K old.S l.aw l.sv l.it/\y.N=old.N
 |.t1 sv=>c=T1 P n b o τ sv
 |.il sv=>c=PK P n b o τ sv
 |.tq=>c=TQ P n b o τ
 |.up sv=>c=UP P n b o τ sv
 |.add old sv=>c=AD P n b o τ (if !sv||decide (old.N=1)then -11 else -7)
 |.le=>c=RK P n b o τ\/c=PN P n b o τ
 |.la=>c=RL P n b o τ\/c=RO P n b o τ
 |.back=>c=BK n τ
 |.H6=>c=U0 P n b o τ
 |.ur=>c=UR P n b o τ
 |.ud=>c=UD P n b o τ
 |.held=>c=sx P n b o τ
 |.jH old=>c=UC P n b o τ/\y.N=old.N/\old.L=false/\old.K=false/\old.S=false/\old.N≠0
 |.wG=>c=PO P n b o τ
 |.give=>c=G7 P n b o τ\/c=G9 P n b o τ
 |.ue=>c=UE P n b o τ
 |.D5=>c=Vy n τ
def ow(p:Cg)(cs:adE)(g:adJ):Prop:=∃c y fr φ,F9 P n b o τ p c y/\y.ok/\FR y c.1 fr/\mM y c.2 φ/\g=G fr (φ++cs)
end
def ow.running{P n b o τ p cs g}(h:ow P n b o τ p cs g):g.status=.running/\g.offers=none:=by obtain⟨c,y,fr,φ,_,_,_,_,rfl⟩:=h;exact⟨rfl,rfl⟩
structure ShM  b o  (w:World) (s:Mu.Sh):Prop where
 cw:w.cell? ⟨b,o,none⟩=some (.int .i32 (enc s.w.L s.w.K s.w.S s.w.N))
 cs:w.cell? ⟨b,o+1,none⟩=some (.int .u32 s.ms)
 fz:∀i,w.frozen? ⟨b,i,none⟩=false
def MW(b o:Nat)(w w':World):Prop:=(mR w.os w'.os/\w'.output=w.output)/\(w'.heap=w.heap\/∃i v,(i=o\/i=o+1)/\flat v=true/\w'.heap=(w.setCell ⟨b,i,none⟩ v).heap)
def EvM(b o:Nat)(es:adA):Prop:=∀e∈es,(e.loc=.mark .disable\/e.loc=.mark .enable)\/(∃i,(i=o\/i=o+1)/\e.loc=.cell ⟨b,i,none⟩/\e.sync=true)
def qV{w w':World}(h:w'.heap=w.heap)  a :w'.cell? a=w.cell? a/\w'.frozen? a=w.frozen? a:=by simp[World.cell?,World.frozen?,h]
def ShM.heap{b o w w' s}(h:ShM b o w s)(e:w'.heap=w.heap):ShM b o w' s:=⟨by rw[(qV e _).1];exact h.cw,by rw[(qV e _).1];exact h.cs,λi=>by rw[(qV e _).2];exact h.fz i⟩
def kG{w:World}{b i u v}(h:w.cell? ⟨b,i,none⟩=some u):(w.setCell ⟨b,i,none⟩ v).cell? ⟨b,i,none⟩=some v:=by
 unfold World.cell? at h ⊢;unfold World.setCell
 grind
def oP{w:World}{a v b i}:(w.setCell a v).frozen? ⟨b,i,none⟩=w.frozen? ⟨b,i,none⟩:=by simp_all
def ShM.aZ{b o w s}(h:ShM b o w s)  w' :ShM b o (w.setCell ⟨b,o,none⟩ (.int .i32 (enc w'.L w'.K w'.S w'.N))) {s with w:=w'}:=⟨kG h.cw,by rw[dN (by simp)];exact h.cs,λi=>by rw[oP];exact h.fz i⟩
def ShM.Gf{b o w s}(h:ShM b o w s)(m:Nat):ShM b o (w.setCell ⟨b,o+1,none⟩ (.int .u32 m)) {s with ms:=m}:=⟨by rw[dN (by simp)];exact h.cw,kG h.cs,λi=>by rw[oP];exact h.fz i⟩
def gq{b o}:EvM b o #[]:=λe h=>by simp at h
def H7{b o i}(hi:i=o\/i=o+1):EvM b o #[⟨.cell ⟨b,i,none⟩,false,true⟩]:=λe h=>by simp_all
def kZ{b o i}(hi:i=o\/i=o+1):EvM b o #[⟨.cell ⟨b,i,none⟩,false,true⟩,⟨.cell ⟨b,i,none⟩,true,true⟩]:=λe h=>by grind
def xc{b o}:EvM b o (semEvents ⟨b,o+1,none⟩):=λe h=>by
 simp[semEvents]at h
 grind
section
variable{P:adT}{n:DW}(C:ib P n)(X:ig P n){b o:Nat}{τ:adP}{Wd:adz}{cs:adE}{g:adJ}{w:World}{main:Bool}
variable(hWd:∀w,Wd w->∃v,w.cell? ⟨b,o,none⟩=some v)
def Next(P:adT)(n:DW)(b o:Nat)(τ:adP)(Wd:adz)(cs:adE)(p:Cg)(a:adJ):Prop:=a.status=.running/\∃c,tu P Wd a c/\ow P n b o τ p cs c
def nxt{y c c' live v x fr φ p}(g:aQ P (Fl.of y) live c v=some c')(f:y.ok)(h:FR y c.1 fr)(d:mM y c.2 φ)(i:SR y v x)(j:F9 P n b o τ p c' y):
 Next P n b o τ Wd cs p (G (fr.finish x) (φ++cs)):=by
 obtain⟨e,a,k,l,m⟩:=RP (Wd:=Wd) g f h d i;exact⟨rfl,_,m cs,c',y,e,a,j,f,k,l,rfl⟩
def y0:Sy:=⟨2,2,1,0⟩
def tx:y0.ok:=by unfold Sy.ok y0;decide
def Gg(h:∃fn body,P.funcs[n.lock]?=some fn/\fn.body=some body/\fn.ntmps=6):∃e,tu P Wd (G (Frame.enter P n.lock #[.pointer (some ⟨b,o,none⟩)] τ) cs) e/\ow P n b o τ .ld cs e:=by
 obtain⟨fn,body,a,i,g⟩:=h
 have j:FR y0 (dR P n.lock [pt b o] τ) (Frame.enter P n.lock #[.pointer (some ⟨b,o,none⟩)] τ):=by
  refine⟨by simp[dR,a,Frame.enter],by simp[dR,a,i,Frame.enter],by simp[dR,a,Frame.enter],by simp[dR,a,Frame.enter,DQ.of],by simp[dR,a,Frame.enter],rfl,by simp[dR,a,g,Frame.enter],λt=>?_⟩;simp only[dR,a,Frame.enter,g,abx,abT]
  match t with
  |0=>rfl
  |1|2|3|4|5=>trivial
  | t+6=>
    have:([pt b o]++List.replicate (6 - [pt b o].length) SV.cJ).getD (t+6) .cJ=.cJ:=by simp_all
    rw[this];trivial
 obtain⟨m,d,c,k,l,p⟩:=mq (Wd:=Wd) (P:=P) (f:=lN) (y:=y0) ⟨by decide,by decide,rfl,rfl,rfl,rfl,rfl,by decide⟩ 400 j (st:=[]) (φ:=[]) trivial;have q:=p cs;exact⟨_,⟨m,q⟩,_,y0,d,c,rfl,tx,k.keep [0],l.keep [],rfl⟩
def Mt:∀g ,Mark.disable≠.extern g:=λg h=>by cases h
def Mw:∀g ,Mark.enable≠.extern g:=λg h=>by cases h
include C X in
def Ch(h:ow P n b o τ .ld cs g):∃d,stepG P main g w=.go d w #[⟨.mark .disable,false,true⟩]/\Next P n b o τ Wd cs .iM d:=by obtain⟨c,y,fr,φ,rfl,f,e,a,rfl⟩:=h;exact⟨_,fF Mt e (C.o1 b o τ).1 (by rw[show(LD P n b o τ).1.kind=_ from(C.o1 b o τ).2];decide) X.jR,nxt (C.e1 _ b o τ) f e a rfl rfl⟩
include C X in
def H8(h:ow P n b o τ .ud cs g):∃d,stepG P main g w=.go d w #[⟨.mark .disable,false,true⟩]/\Next P n b o τ Wd cs .held d:=by obtain⟨c,y,fr,φ,rfl,f,e,a,rfl⟩:=h;exact⟨_,fF Mt e (C.Zf b o τ) (by simp[UD,pG]) X.jR,nxt (C.u4 _ b o τ) f e a rfl rfl⟩
include C X in
def Ci(h:ow P n b o τ .ue cs g):∃d,stepG P main g w=.go d w #[⟨.mark .enable,false,true⟩]/\Next P n b o τ Wd cs .D5 d:=by obtain⟨c,y,fr,φ,rfl,f,e,a,rfl⟩:=h;exact⟨_,fF Mw e (C.Zh b o τ) (by simp[UE,pG]) X.en,nxt (C.Y3 _ b o τ) f e a rfl rfl⟩
include C X in
def H9(h:ow P n b o τ .ur cs g):∃d,stepG P main g w=.go d w #[⟨.mark (.releaseMerge ⟨b,o,none⟩),false,true⟩]/\Next P n b o τ Wd cs .ud d:=by obtain⟨c,y,fr,φ,rfl,f,e,a,rfl⟩:=h;exact⟨_,fZ (λi g h=>by cases h) e (C.Ze b o τ) (by simp[UR,pG]) X.rel,nxt (C.u3 _ b o τ) f e a rfl rfl⟩
include C X in
def Ia(h:ow P n b o τ .la cs g):∃e,stepG P main g w=.go e w #[⟨.mark (.acquire ⟨b,o,none⟩),false,true⟩]/\Next P n b o τ Wd cs .back e:=by
 obtain⟨c,y,fr,φ,i,f,d,a,rfl⟩:=h;rcases i with rfl|rfl
 . exact⟨_,fZ (λj g h=>by cases h) d (C.o5 b o τ) (by simp[RL,mX]) X.acq,nxt (C.e6 _ b o τ) f d a rfl rfl⟩
 . exact⟨_,fZ (λj g h=>by cases h) d (C.Zc b o τ) (by simp[RO,cS]) X.acq,nxt (C.xa _ b o τ) f d a rfl rfl⟩
include X hWd in
def through{y c c' live fr φ p}(f:kY c.1=some (n.tM,n.tU,pt b o))(g:aQ P (Fl.of y) live c (pt b o)=some c')(h:y.ok)(e:FR y c.1 fr)(d:mM y c.2 φ)(i:F9 P n b o τ p c' y):
 ∃a,tu P Wd (G fr (φ++cs)) a/\ow P n b o τ p cs a:=by
 obtain⟨t,j,k,l⟩:=X.Zi;obtain⟨_,a,m,q⟩:=nxt (P:=P) (n:=n) (b:=b) (o:=o) (τ:=τ) (Wd:=Wd) (cs:=cs) (x:=.pointer (some ⟨b,o,none⟩)) g h e d rfl i;refine⟨a,tu.trans (tp.AP ⟨rfl,λmain w r=>?_⟩) m,q⟩;exact uO e f j k l (hWd w r)
include C X hWd in
def Ib(h:ow P n b o τ .le cs g):∃s,stepG P main g w=.go s w #[⟨.mark .enable,false,true⟩]/\Next P n b o τ Wd cs .la s:=by
 obtain⟨c,y,fr,φ,t,e,f,a,rfl⟩:=h;rcases t with rfl|rfl
 . refine⟨_,fF Mw f (C.o3 b o τ) (by simp[RK,mX]) X.en,rfl,?_⟩
   obtain⟨i,d,j,k,l⟩:=RP (Wd:=Wd) (x:=.tuple #[]) (C.e4 _ b o τ) e f a rfl;obtain⟨m,q,r⟩:=through X hWd (cs:=cs) (p:=.la) (C.o4 b o τ) (C.e5 _ b o τ) e j k (.inl rfl);exact⟨m,(l cs).trans q,r⟩
 . refine⟨_,fF Mw f (C.Za b o τ) (by simp[PN,cS]) X.en,rfl,?_⟩
   obtain⟨i,d,j,k,l⟩:=RP (Wd:=Wd) (x:=.tuple #[]) (C.wZ _ b o τ) e f a rfl;obtain⟨m,q,r⟩:=through X hWd (cs:=cs) (p:=.la) (C.Zb b o τ) (C.LB _ b o τ) e j k (.inr rfl);exact⟨m,(l cs).trans q,r⟩
include C X hWd in
def yl{v}(j:w.cell? ⟨b,o,none⟩=some v)(h:ow P n b o τ .H6 cs g):∃d,stepG P main g w=.go d w #[]/\Next P n b o τ Wd cs .ur d:=by
 obtain⟨c,y,fr,φ,rfl,e,f,a,rfl⟩:=h;refine⟨_,qU f (C.XS b o τ).1 X.VG (by rw[show(U0 P n b o τ).1.fn=_ from(C.XS b o τ).2.2];exact X.nU) j,rfl,?_⟩;obtain⟨k,i,l,m,q⟩:=RP (Wd:=Wd) (x:=v) (C.u1 _ b o τ) e f a trivial;obtain⟨r,s,t⟩:=through X hWd (cs:=cs) (p:=.ur) (C.Zd b o τ) (C.u2 _ b o τ) e l m rfl;exact⟨r,(q cs).trans s,t⟩
include C X in
def Qk{sv}(h:ow P n b o τ (.t1 sv) cs g):∃f,stepG P main g w=.go f w.later #[]/\Next P n b o τ Wd cs (.il sv) f:=by
 obtain⟨c,y,fr,φ,rfl,j,i,d,rfl⟩:=h;refine⟨_,AW i (C.Y7 b o τ sv) (by simp[T1,cS]) X.nano X.Mp,?_⟩;have e:=i.re (y':={y with ws:=((w.os.mono+w.tick:Nat):Int)}) (.inl rfl) (.inl rfl) (.inr (by cases sv<;>rfl)) (.inl rfl);have a:=d.ir (y':={y with ws:=((w.os.mono+w.tick:Nat):Int)}) (by simpa[T1,cS]using C.p2 b o τ);exact nxt (y:={y with ws:=((w.os.mono+w.tick:Nat):Int)}) (x:=.int .i64 ((w.os.mono+w.tick:Nat):Int)) (C.yk _ b o τ sv) j e a rfl rfl
end
inductive To:Mu.Pc->Cg->Prop
 |out:To .out .ue
 |rd (l:Mu.Lo):To (.rd l) (.rd l)
 |sq (old:Mu.Wd) (l:Mu.Lo):To (.sq old l) (.sq old l)
 |sw (old:Mu.Wd) (l:Mu.Lo):To (.sw old l) (.sw old l)
 |kU (old:Mu.Wd) (l:Mu.Lo):To (.kU old l) (.kU old l)
 |t1 (sv:Bool):To (.il sv) (.t1 sv)
 |il (sv:Bool):To (.il sv) (.il sv)
 |tq:To .tq .tq
 |up (sv:Bool):To (.up sv) (.up sv)
 |add (old:Mu.Wd) (sv:Bool):To (.add old sv) (.add old sv)
 |held:To .held .le
 |jH (old:Mu.Wd):To (.jH old) (.jH old)
 |wG:To .wG .wG
 |give:To .give .give
def mr(P:adT)(n:DW)(b o:Nat)(τ:adP)(Wd:adz)(cs:adE)(g:adJ)(w:World)(main:Bool)(pc:Mu.Pc)(s:Mu.Sh):Prop:=∃c a es q e f,stepG P main g w=.go c a es/\(q,e)∈Mu.mv pc s/\To q f/\Next P n b o τ Wd cs f c/\MW b o w a/\ShM b o a e/\EvM b o es/\∀d,deafBehind d es=d
def br{b o w w'}(h:w'.heap=w.heap)(a:mR w.os w'.os/\w'.output=w.output:=by exact⟨mR.refl _,rfl⟩):MW b o w w':=⟨a,.inl h⟩
def wI{b o w v}(h:flat v=true):MW b o w (w.setCell ⟨b,o,none⟩ v):=⟨⟨.refl _,rfl⟩,.inr ⟨o,v,.inl rfl,h,rfl⟩⟩
def Ql{b o w v}(h:flat v=true):MW b o w (w.setCell ⟨b,o+1,none⟩ v):=⟨⟨.refl _,rfl⟩,.inr ⟨o+1,v,.inr rfl,h,rfl⟩⟩
def Ic{L K S a b c}{N d:Nat}:enc L K S N=enc a b c d↔(L=a/\K=b/\S=c/\N=d):=by
 unfold enc;constructor
 . intro h
   cases L<;>cases K<;>cases S<;>cases a<;>cases b<;>cases c<;>simp[Bool.toNat]at h ⊢<;>omega
 simp_all
section
variable{P:adT}{n:DW}(C:ib P n)(X:ig P n){b o:Nat}{τ:adP}{Wd:adz}{cs:adE}{g:adJ}{w:World}{main:Bool}{s:Mu.Sh}
def Ie{w}:w=Mu.Wd.zero↔(enc w.L w.K w.S w.N=0):=by
 obtain⟨L,K,S,N⟩:=w;rw[yh (by simp)];simp[Mu.Wd.zero]
include C X in
def Jp(d:ShM b o w s)(h:ow P n b o τ .iM cs g):mr P n b o τ Wd cs g w main .iM s:=by
 obtain⟨c,y,fr,φ,rfl,l,j,f,rfl⟩:=h;have q:(uQ P n b o τ).1.kind≠.early:=by simp[uQ,mX]
 by_cases k:s.w=Mu.Wd.zero
 . have m:enc s.w.L s.w.K s.w.S s.w.N=0:=Ie.1 k
   have r:=d.cw;rw[m]at r;refine⟨_,_,_,.held,{s with w:={Mu.Wd.zero with L:=true}},.le,iE j (C.o2 b o τ) q X.kU (v:=0) (n:=1) (λx h=>h) (λx h=>h) r (d.fz o),by simp[Mu.mv,k],.held,nxt (C.e2 _ b o τ) l j f rfl (.inl rfl),wI rfl,?_,kZ (.inl rfl),λ_=>rfl⟩;have:=d.aZ {Mu.Wd.zero with L:=true};exact this
 have m:¬enc s.w.L s.w.K s.w.S s.w.N=0:=λe=>k (Ie.2 e)
 refine⟨_,_,_,.rd ⟨false,false,0⟩,s,.rd ⟨false,false,0⟩,iV j (C.o2 b o τ) q X.kU (old:=0) (n:=1) (λx h=>h) (λx h=>h) d.cw (d.fz o) m,by simp[Mu.mv,k],.rd _,⟨rfl,?_⟩,br rfl,d,H7 (.inl rfl),λ_=>rfl⟩;obtain⟨p,i,A,B,D⟩:=RP (Wd:=Wd) (x:=.bool false) (C.e3 _ b o τ) l j f rfl;refine⟨_,D cs,SN P n b o τ false false 0,{y with ws:=0},p,i,.inl rfl,l,?_,?_,rfl⟩
 . have a:=A.re (y':={y with ws:=0}) (.inl rfl) (.inl rfl) (.inr rfl) (.inl rfl)
   refine⟨a.fn,a.todo,a.defers,a.mode,a.kind,a.ro,a.size.trans rfl,λt=>?_⟩;have u:=a.env t;by_cases z:t=2
   . subst z;exact u
   have e:(SN P n b o τ false false 0).1.env=(Xs P n b o τ).1.env.set 2 .Jm:=rfl;rw[e,wN,abM (wK z),<-List.getD_eq_getElem?_getD];exact u
 exact B.ir (by simpa[Xs,cS]using C.p2 b o τ)
def qW{y:Sy}{L K S}{N:Nat}(h:y.N=N):SR y (.word L K S 0) (.int .i32 (enc L K S N)):=by
 refine⟨?_,?_,by decide⟩
 . simp_all
 omega
def Ig{y x}(h:decide (y.N=0)=x):{Fl.of y with n0:=x}=Fl.of y:=by subst h;rfl
def SS{y x z}(h:decide (y.N=0)=x)(a:decide (y.N=1)=z):{Fl.of y with n0:=x,n1:=z}=Fl.of y:=by subst h;subst a;rfl
def RQ{y x}(h:decide (y.ws=0)=x):{Fl.of y with wz:=x}=Fl.of y:=by subst h;rfl
def VJ{y x}(h:decide (IntKind.i64.wrap (y.tn-y.ws)>1000000)=x):{Fl.of y with tb:=x}=Fl.of y:=by subst h;rfl
def Uv(old:Mu.Wd)(l:Mu.Lo):Cg:=if old.L && !old.S then .sq old l else .kU old l
def RR  old   l :To (Mu.nx old l) (Uv old l):=by
 unfold Mu.nx Uv;split
 . exact .sq _ _
 exact .kU _ _
include C in
def Ih{y old l fr φ}(e:y.ok)(m:y.N=old.N)(p:FR y (HD P n b o τ old.L old.K old.S l.aw l.sv l.it).1 fr)(d:mM y (HD P n b o τ old.L old.K old.S l.aw l.sv l.it).2 φ)(f:Mu.loc (Mu.nx old l)):
 ∃q,tu P Wd (G fr (φ++cs)) q/\ow P n b o τ (Uv old l) cs q:=by
 obtain⟨L,K,S,N⟩:=old;obtain⟨aw,sv,it⟩:=l;unfold Uv;unfold Mu.nx at f;by_cases h:(L && !S)=true
 . simp only[h,Rp]at f ⊢
   simp only[wL,acF]at h;obtain⟨rfl,rfl⟩:=h;obtain⟨c,a,g,i,j⟩:=VI (Wd:=Wd) (C.e8 (Fl.of y) b o τ K aw sv it) e p d;exact⟨_,j cs,_,y,c,a,⟨rfl,m,rfl,rfl⟩,e,g,i,rfl⟩
 have r:(L && !S)=false:=by simpa using h
 rw[zA h]at f ⊢
 have k:(aw && !K)=false:=by
  cases aw with
  |false=>rfl
  |true=>have:=f.1 rfl;simp at this;simp[this]
 obtain⟨c,a,g,i,j⟩:=VI (Wd:=Wd) (C.e9 (Fl.of y) b o τ L K S aw sv it r k) e p d;exact⟨_,j cs,_,y,c,a,⟨rfl,m⟩,e,g,i,rfl⟩
include C X in
def Qm{l}(i:ShM b o w s)(hb:s.w.N<=1000)(m:Mu.loc (Mu.nx s.w l))(h:ow P n b o τ (.rd l) cs g):mr P n b o τ Wd cs g w main (.rd l) s:=by
 obtain⟨c,y,fr,φ,p,q,j,e,rfl⟩:=h;have a:({y with N:=(s.w.N:Int)}:Sy).ok:=⟨⟨by simp,by show(s.w.N:Int)<=1000;omega⟩,q.2⟩
 have key:rB c.1=some (n.tI,pt b o)->c.1.fn=n.SL->(c.1.env.all (λv=>!H4 v)=true)->c.2=Xr P n b o τ->qo P (Fl.of {y with N:=(s.w.N:Int)}) [0,2,3,4,5,6] c (.word s.w.L s.w.K s.w.S 0)=some (HD P n b o τ s.w.L s.w.K s.w.S l.aw l.sv l.it) ->
  mr P n b o τ Wd cs (G fr (φ++cs)) w main (.rd l) s:=λr t u x z=>by
  have f:=j.re (y':={y with N:=(s.w.N:Int)}) (.inr u) (.inl rfl) (.inl rfl) (.inl rfl);have d:=e.ir (y':={y with N:=(s.w.N:Int)}) (by rw[x];exact C.p2 b o τ);obtain⟨A,k,B,D,E⟩:=VH (Wd:=Wd) z a f d (qW rfl);obtain⟨F,H,I⟩:=Ih C (Wd:=Wd) (cs:=cs) (old:=s.w) (l:=l) a rfl B D m;exact⟨_,w,#[],_,s,Uv s.w l,qU j r X.VG (by rw[t];exact X.nS) i.cw,by simp[Mu.mv],RR _ _,⟨rfl,F,(E cs).trans H,I⟩,br rfl,i,gq,λ_=>rfl⟩
 rcases p with rfl|rfl|rfl
 . exact key (C.Y4 ..) rfl rfl rfl (C.YW ..)
 . exact key (C.Y5 ..) rfl rfl rfl (C.SP ..)
 exact key (C.Y6 ..) rfl rfl rfl (C.YX ..)
include C X in
def Cj{y aw sv}{it:Nat}{fr φ}(f:it<4)(g:y.ok)(e:FR y (DS P n b o τ aw sv it).1 fr)(d:mM y (DS P n b o τ aw sv it).2 φ):
 ∃c,tu P Wd (G fr (φ++cs)) c/\ow P n b o τ (.rd ⟨aw,sv,it+1⟩) cs c:=by
 have a:tp P Wd (G fr (φ++cs)) (G (fr.finish (.tuple #[])) (φ++cs)):=⟨rfl,λmain w _=>uN e (C.o9 b o τ aw sv it) (by simp[DS,cS]) X.uP⟩
 have key:aQ P (Fl.of y) [0,2,3,4,5,47] (DS P n b o τ aw sv it) un=some (H2 P n b o τ aw sv (it+1:Nat)):=by
  have:it=0\/it=1\/it=2\/it=3:=by omega
  rcases this with rfl|rfl|rfl|rfl
  . exact C.Gd ..
  . exact C.Ge ..
  . exact C.VA ..
  exact C.VB ..
 obtain⟨_,c,h,i⟩:=nxt (P:=P) (n:=n) (b:=b) (o:=o) (τ:=τ) (Wd:=Wd) (cs:=cs) (x:=.tuple #[]) (p:=.rd ⟨aw,sv,it+1⟩) key g e d rfl (.inr (.inl rfl));exact⟨c,a.AP.trans h,i⟩
include C X in
def Qn{old l}(t:ShM b o w s)(J:Mu.loc (.sq old l))(h:ow P n b o τ (.sq old l) cs g):mr P n b o τ Wd cs g w main (.sq old l) s:=by
 obtain⟨c,y,fr,φ,⟨rfl,k,B,D⟩,q,m,d,rfl⟩:=h;obtain⟨L,K,S,N⟩:=old;obtain⟨aw,sv,it⟩:=l;simp only at k B D m d;subst B;subst D;obtain⟨E,F,M,_,_⟩:=J;simp only at E F M
 have u:(aw && !K)=false:=by
  cases aw with
  |false=>rfl
  |true=>simp[E rfl]
 obtain⟨r,j,v,O,G⟩:=Jn (P:=P) (main:=main) (cs:=φ++cs) (w:=w) m (C.o7 b o τ K aw sv it) (by simp[SQ,cS]) X.Jo
 have a:j.heap=w.heap:=by rcases G with rfl|rfl<;>rfl
 have e:mR w.os j.os/\j.output=w.output:=by rcases G with rfl|rfl<;>exact⟨.refl _,rfl⟩
 cases r with
 |false=>refine⟨_,j,#[],.kU ⟨true,K,false,N⟩ ⟨aw,sv,it⟩,s,.kU _ _,v,by simp[Mu.mv,Mu.hd],.kU _ _,nxt (C.dw (Fl.of y) b o τ K aw sv it u) q m d rfl ⟨rfl,k⟩,br a e,t.heap a,gq,λ_=>rfl⟩
 | true=>
   have f:it<4:=by have:=O rfl;omega
   by_cases z:(!aw && !K && decide (N≠0))=true
   . simp only[wL,acF,zG]at z
     obtain⟨⟨rfl,rfl⟩,p⟩:=z;have:sv=false:=by cases sv with|false=>rfl|true=>exact absurd (F rfl) (by simp)
     subst this;have key:=C.cN (Fl.of y) b o τ it;rw[Ig (by rw[k];simpa using p)]at key
     exact⟨_,j,#[],.sw ⟨true,false,false,N⟩ ⟨false,false,it⟩,s,.sw _ _,v,by simp[Mu.mv,Mu.hd,f,p],.sw _ _,nxt key q m d rfl ⟨rfl,k,rfl,rfl,rfl,rfl,rfl⟩,br a e,t.heap a,gq,λ_=>rfl⟩
   have i:(!aw && !K && decide (N≠0))=false:=by simpa using z
   have A:(!aw && !K && !decide (y.N=0))=false:=by
    rw[k]
    by_cases H:N=0
    . simp[H]
    simp[H]at i ⊢;exact i
   have key:=C.Vz (Fl.of y) b o τ (decide (y.N=0)) K aw sv it A;rw[Ig rfl]at key;obtain⟨Q,I,R,T,U⟩:=RP (Wd:=Wd) (x:=.bool true) key q m d rfl;obtain⟨V,W,Y⟩:=Cj C X (Wd:=Wd) (cs:=cs) f q R T;refine⟨_,j,#[],.rd ⟨aw,sv,it+1⟩,s,.rd _,v,?_,.rd _,⟨rfl,V,(U cs).trans W,Y⟩,br a e,t.heap a,gq,λ_=>rfl⟩
   simp only[Mu.mv,Mu.hd,f,i];simp
include C X in
def Qo{old l}(f:ShM b o w s)(V:Mu.loc (.sw old l))(h:ow P n b o τ (.sw old l) cs g):mr P n b o τ Wd cs g w main (.sw old l) s:=by
 obtain⟨c,y,fr,φ,⟨rfl,E,F,G,H,I,J⟩,m,i,d,rfl⟩:=h;obtain⟨L,K,S,N⟩:=old;obtain⟨aw,sv,it⟩:=l;simp only at E F G H I J i d;subst F;subst G;subst H;subst I;subst J;have j:it<4:=V.2.2.2.2.2;have M:(SW P n b o τ it).1.kind≠.early:=by simp[SW,cS]
 have a:∀q:Bool,∀x,SR y (.word true q false 0) x->x=.int .i32 (enc true q false N):=λq x W=>by have:=W.1;rw[E,adg]at this;exact this
 by_cases p:s.w=⟨true,false,false,N⟩
 . have O:=f.cw
   rw[p]at O;obtain⟨r,k,t,u,v⟩:=RP (Wd:=Wd) (x:=.bool true) (C.fI (Fl.of y) b o τ true it) m i d rfl;obtain⟨z,A,B⟩:=Cj C X (Wd:=Wd) (cs:=cs) j m t u;refine⟨_,_,_,.rd ⟨true,false,it+1⟩,{s with w:=⟨true,true,false,N⟩},.rd _,iE i (C.o8 b o τ it) M X.kU (a false) (a true) O (f.fz o),by simp[Mu.mv,p],.rd _,⟨rfl,z,(v cs).trans A,B⟩,wI rfl,f.aZ ⟨true,true,false,N⟩,kZ (.inl rfl),λ_=>rfl⟩
 have D:¬enc s.w.L s.w.K s.w.S s.w.N=enc true false false N:=λe=>p (by obtain⟨Q,R,T,U⟩:=Ic.1 e;obtain⟨⟨L,K,S,Y⟩,ms⟩:=s;simp only at Q R T U;subst Q;subst R;subst T;subst U;rfl)
 obtain⟨r,k,t,u,v⟩:=RP (Wd:=Wd) (x:=.bool false) (C.fI (Fl.of y) b o τ false it) m i d rfl;obtain⟨z,A,B⟩:=Cj C X (Wd:=Wd) (cs:=cs) j m t u;exact⟨_,_,_,.rd ⟨false,false,it+1⟩,s,.rd _,iV i (C.o8 b o τ it) M X.kU (a false) (a true) f.cw (f.fz o) D,by simp[Mu.mv,p],.rd _,⟨rfl,z,(v cs).trans A,B⟩,br rfl,f,H7 (.inl rfl),λ_=>rfl⟩
end
section
variable{P:adT}{n:DW}(C:ib P n)(X:ig P n){b o:Nat}{τ:adP}{Wd:adz}{cs:adE}{g:adJ}{w:World}{main:Bool}{s:Mu.Sh}
def RS{a c:Mu.Wd}:a=c↔enc a.L a.K a.S a.N=enc c.L c.K c.S c.N:=by obtain⟨L,K,S,N⟩:=a;obtain⟨b,d,e,f⟩:=c;rw[Ic];simp
include C X in
def Mx{old l}(f:ShM b o w s)(E:Mu.loc (.kU old l))(h:ow P n b o τ (.kU old l) cs g):mr P n b o τ Wd cs g w main (.kU old l) s:=by
 obtain⟨c,y,fr,φ,⟨rfl,u⟩,t,j,a,rfl⟩:=h;obtain⟨L,K,S,N⟩:=old;obtain⟨aw,sv,it⟩:=l;simp only at u j a
 have k:(aw && !K)=false:=by
  cases aw with
  |false=>rfl
  |true=>have:=E.1 rfl;simp at this;simp[this]
 have A:(DY P n b o τ L K S aw sv it).1.kind≠.early:=by simp[DY,cS]
 have ω:∀x,SR y (.word L K S 0) x->x=.int .i32 (enc L K S N):=λx v=>by have:=v.1;rw[u,adg]at this;exact this
 have i:∀x,SR y (Qi L K S aw sv) x->x=.int .i32 (enc (Mu.qh ⟨L,K,S,N⟩ ⟨aw,sv,it⟩).L (Mu.qh ⟨L,K,S,N⟩ ⟨aw,sv,it⟩).K (Mu.qh ⟨L,K,S,N⟩ ⟨aw,sv,it⟩).S (Mu.qh ⟨L,K,S,N⟩ ⟨aw,sv,it⟩).N):=λx v=>by have:=v.1;rw[u]at this;rw[this];simp only[Mu.qh];congr 2;split<;>simp
 by_cases p:s.w=⟨L,K,S,N⟩
 . have B:=f.cw
   rw[p]at B;have m:=iE (main:=main) (cs:=φ++cs) j (C.XQ b o τ L K S aw sv it) A X.kU ω i B (f.fz o)
   by_cases d:(L||S)=true
   . have q:((.il sv:Mu.Pc),({s with w:=Mu.qh ⟨L,K,S,N⟩ ⟨aw,sv,it⟩}:Mu.Sh))∈Mu.mv (.kU ⟨L,K,S,N⟩ ⟨aw,sv,it⟩) s:=by
      simp only[Mu.mv,k,zs,zD,p,Rp,d,lb]
     by_cases r:y.ws=0
     . have key:=C.VC (Fl.of y) b o τ L K S aw sv it d
       rw[RQ (by simpa using r)]at key
       exact⟨_,_,_,_,_,.t1 sv,m,q,.t1 _,nxt key t j a rfl rfl,wI rfl,f.aZ _,kZ (.inl rfl),λ_=>rfl⟩
     have key:=C.VD (Fl.of y) b o τ L K S aw sv it d;rw[RQ (by simpa using r)]at key
     exact⟨_,_,_,_,_,.il sv,m,q,.il _,nxt key t j a rfl rfl,wI rfl,f.aZ _,kZ (.inl rfl),λ_=>rfl⟩
   have D:(L||S)=false:=by simpa using d
   have F:L=false:=by cases L<;>simp_all
   have G:S=false:=by cases S<;>simp_all
   subst F;subst G;refine⟨_,_,_,.held,{s with w:=Mu.qh ⟨false,K,false,N⟩ ⟨aw,sv,it⟩},.le,m,?_,.held,nxt (C.LA (Fl.of y) b o τ K aw sv it) t j a rfl (.inr rfl),wI rfl,f.aZ _,kZ (.inl rfl),λ_=>rfl⟩
   simp only[Mu.mv,k,zs,zD,p,Rp,Bool.or_self,lb]
 have z:¬enc s.w.L s.w.K s.w.S s.w.N=enc L K S N:=λe=>p (RS.2 e)
 refine⟨_,_,_,.rd ⟨aw,sv,it⟩,s,.rd _,iV j (C.XQ b o τ L K S aw sv it) A X.kU ω i f.cw (f.fz o) z,?_,.rd _,nxt (C.Cf (Fl.of y) b o τ L K S aw sv it) t j a rfl (.inr (.inr rfl)),br rfl,f,H7 (.inl rfl),λ_=>rfl⟩
 simp only[Mu.mv,k,zs,zD,p,lb]
include C X in
def Jq{sv}(f:ShM b o w s)(j:s.ms≠0)(h:ow P n b o τ (.il sv) cs g):mr P n b o τ Wd cs g w main (.il sv) s:=by
 obtain⟨c,y,fr,φ,rfl,k,i,d,rfl⟩:=h;have a:=tw (main:=main) (cs:=φ++cs) (w:=w) (n:=(s.ms:Int)) i (C.XR b o τ sv) (by simp[PK,cS]) X.Gb f.cs (by omega) (f.fz _);have e:((s.ms:Int)-1)=((s.ms-1:Nat):Int):=by omega
 rw[e]at a;cases sv with
 |true=>exact⟨_,_,_,.up true,{s with ms:=s.ms-1},.up true,a,by simp[Mu.mv,j],.up _,nxt (C.VE (Fl.of y) b o τ) k i d rfl rfl,Ql rfl,f.Gf _,xc,λ_=>rfl⟩
 |false=>exact⟨_,_,_,.tq,{s with ms:=s.ms-1},.tq,a,by simp[Mu.mv,j],.tq,nxt (C.VF (Fl.of y) b o τ) k i d rfl rfl,Ql rfl,f.Gf _,xc,λ_=>rfl⟩
include C X in
def D9{sv}(d:ShM b o w s)(e:s.ms=0)(h:ow P n b o τ (.il sv) cs g):stepG P main g w=.go {g with status:=.blocked} w #[]:=by obtain⟨c,y,fr,φ,rfl,j,f,i,rfl⟩:=h;have a:=d.cs;rw[e]at a;exact AU f (C.XR b o τ sv) X.Gb a
include C X in
def Qp(j:ShM b o w s)(h:ow P n b o τ .tq cs g):mr P n b o τ Wd cs g w main .tq s:=by
 obtain⟨c,y,fr,φ,rfl,k,i,d,rfl⟩:=h;have e:=AW (P:=P) (main:=main) (cs:=φ++cs) (w:=w) i (C.Y8 b o τ) (by simp[TQ,cS]) X.nano X.Mp;have f:=i.re (y':={y with tn:=((w.os.mono+w.tick:Nat):Int)}) (.inl rfl) (.inl rfl) (.inl rfl) (.inr rfl);have a:=d.ir (y':={y with tn:=((w.os.mono+w.tick:Nat):Int)}) (by simpa[TQ,cS]using C.p2 b o τ);have key:=C.sz (Fl.of {y with tn:=((w.os.mono+w.tick:Nat):Int)}) b o τ (decide (IntKind.i64.wrap (((w.os.mono+w.tick:Nat):Int)-y.ws)>1000000));rw[VJ rfl]at key;refine⟨_,_,_,.up (decide (IntKind.i64.wrap (((w.os.mono+w.tick:Nat):Int)-y.ws)>1000000)),s,.up _,e,?_,.up _,nxt (y:={y with tn:=((w.os.mono+w.tick:Nat):Int)}) key k f a rfl rfl,br rfl ⟨⟨w.tick,rfl⟩,rfl⟩,j.heap rfl,gq,λ_=>rfl⟩;cases decide (IntKind.i64.wrap (((w.os.mono+w.tick:Nat):Int)-y.ws)>1000000)<;>simp[Mu.mv]
include C X in
def Qq{sv}(m:ShM b o w s)(hb:s.w.N<=1000)(v:∀q s',(q,s')∈Mu.mv (.up sv) s->Mu.loc q)(h:ow P n b o τ (.up sv) cs g):mr P n b o τ Wd cs g w main (.up sv) s:=by
 obtain⟨c,y,fr,φ,rfl,A,x,p,rfl⟩:=h;have f:({y with N:=(s.w.N:Int)}:Sy).ok:=⟨⟨by simp,by show(s.w.N:Int)<=1000;omega⟩,A.2⟩
 have i:=x.re (y':={y with N:=(s.w.N:Int)}) (.inr rfl) (.inl rfl) (.inl rfl) (.inl rfl)
 have e:=p.ir (y':={y with N:=(s.w.N:Int)}) (by simpa[UP,cS]using C.p2 b o τ)
 have j:=qU (main:=main) (cs:=φ++cs) x (C.Y9 b o τ sv) X.VG X.nS m.cw
 by_cases k:s.w.S=true
 . have r:(s.w.L||s.w.K||decide (s.w.N=0))=false:=by
    cases B:(s.w.L||s.w.K||decide (s.w.N=0))with
    |false=>rfl
    |true=>exact(v .bad s (by simp[Mu.mv,k,B])).elim
   have a:((.add s.w sv:Mu.Pc),s)∈Mu.mv (.up sv) s:=by simp[Mu.mv,k,r]
   simp only[acQ,abu]at r;obtain⟨⟨D,E⟩,t⟩:=r;have key:=C.Qj (Fl.of {y with N:=(s.w.N:Int)}) b o τ sv (decide (s.w.N=1))
   rw[SS (by show decide ((s.w.N:Int)=0)=false;simpa using t) (by show decide ((s.w.N:Int)=1)=decide (s.w.N=1);rw[acx,acC,acC];omega)]at key
   have u:SR {y with N:=(s.w.N:Int)} (.word false false true 0) (.int .i32 (enc s.w.L s.w.K s.w.S s.w.N)):=by rw[D,E,k];exact qW rfl
   exact⟨_,w,#[],_,s,.add s.w sv,j,a,.add _ _,nxt (y:={y with N:=(s.w.N:Int)}) key f i e u rfl,br rfl,m,gq,λ_=>rfl⟩
 have d:s.w.S=false:=by simpa using k
 have a:(Mu.nx s.w ⟨true,sv,0⟩,s)∈Mu.mv (.up sv) s:=by simp[Mu.mv,d]
 have u:SR {y with N:=(s.w.N:Int)} (.word s.w.L s.w.K false 0) (.int .i32 (enc s.w.L s.w.K s.w.S s.w.N)):=by rw[d];exact qW rfl
 obtain⟨F,z,G,H,I⟩:=VH (Wd:=Wd) (C.Ae (Fl.of {y with N:=(s.w.N:Int)}) b o τ s.w.L s.w.K sv) f i e u
 obtain⟨J,M,O⟩:=Ih C (Wd:=Wd) (cs:=cs) (old:=s.w) (l:=⟨true,sv,0⟩) f rfl (by rw[d];exact G) (by rw[d];exact H) (v _ _ a)
 exact⟨_,w,#[],_,s,Uv s.w ⟨true,sv,0⟩,j,a,RR _ _,⟨rfl,J,(I cs).trans M,O⟩,br rfl,m,gq,λ_=>rfl⟩
include C X in
def My{old sv}(d:ShM b o w s)(hb:s.w.N<=1000)(j:s.w.L=false)(k:s.w.S=true)(q:s.w.N≠0)(h:ow P n b o τ (.add old sv) cs g):mr P n b o τ Wd cs g w main (.add old sv) s:=by
 obtain⟨c,y,fr,φ,rfl,l,i,f,rfl⟩:=h;have a:=qm (main:=main) (cs:=φ++cs) (w:=w) i (C.Y' b o τ _) (by simp[AD,cS]) X.add (λx h=>h) d.cw (d.fz _)
 have e:IntKind.i32.wrap (enc s.w.L s.w.K s.w.S s.w.N+(if !sv||decide (old.N=1)then -11 else -7))=enc true s.w.K (s.w.S && !(!sv||decide (old.N=1))) (s.w.N-1:Nat):=by
  rw[j,k];have m:((s.w.N-1:Nat):Int)=(s.w.N:Int)-1:=by omega
  rw[m];generalize (!sv||decide (old.N=1))=x;have p:=mn (L:=false) (K:=s.w.K) (S:=true) (N:=(s.w.N:Int));rw[jz (by split<;>omega) (by split<;>omega)];unfold enc;cases x<;>cases s.w.K<;>simp[Bool.toNat]<;>omega
 rw[e]at a;exact⟨_,_,_,.held,{s with w:={s.w with L:=true,S:=s.w.S && !(!sv||decide (old.N=1)),N:=s.w.N-1}},.le,a,by simp[Mu.mv],.held,nxt (C.wY (Fl.of y) b o τ _) l i f trivial (.inr rfl),wI rfl,d.aZ {s.w with L:=true,S:=s.w.S && !(!sv||decide (old.N=1)),N:=s.w.N-1},kZ (.inl rfl),λ_=>rfl⟩
include C X in
def Jr(t:ShM b o w s)(hb:s.w.N<=1000)(q:s.w.L=true)(h:ow P n b o τ .held cs g):mr P n b o τ Wd cs g w main .held s:=by
 obtain⟨c,y,fr,φ,rfl,A,z,u,rfl⟩:=h;have k:({y with N:=(s.w.N:Int)}:Sy).ok:=⟨⟨by simp,by show(s.w.N:Int)<=1000;omega⟩,A.2⟩
 have l:=z.re (y':={y with N:=(s.w.N:Int)}) (.inr rfl) (.inl rfl) (.inl rfl) (.inl rfl)
 have d:=u.ir (y':={y with N:=(s.w.N:Int)}) (by simpa[sx,pG]using(C.p3 b o τ).1)
 have i:=qm (main:=main) (cs:=φ++cs) (w:=w) z (C.XT b o τ) (by simp[sx,pG]) X.add (λx h=>h) t.cw (t.fz _)
 have e:IntKind.i32.wrap (enc s.w.L s.w.K s.w.S s.w.N+-1)=enc false s.w.K s.w.S s.w.N:=by
  rw[q];have B:=mn (L:=true) (K:=s.w.K) (S:=s.w.S) (N:=(s.w.N:Int));rw[jz (by omega) (by omega)]
  unfold enc;simp[Bool.toNat];omega
 rw[e]at i;have m:=t.aZ {s.w with L:=false}
 have p:SR {y with N:=(s.w.N:Int)} (.word false s.w.K s.w.S 0) (.int .i32 (enc false s.w.K s.w.S s.w.N)):=qW rfl
 by_cases r:s.w.S=true
 . have key:=C.YY (Fl.of {y with N:=(s.w.N:Int)}) b o τ (decide ((s.w.N:Int)=0)) s.w.K
   rw[r]at p;exact⟨_,_,_,.give,{s with w:={s.w with L:=false}},.give,i,by simp[Mu.mv,q,r,Mu.Wd.zero],.give,nxt (y:={y with N:=(s.w.N:Int)}) key k l d (by rw[r];exact p) (.inr rfl),wI rfl,m,kZ (.inl rfl),λ_=>rfl⟩
 have f:s.w.S=false:=by simpa using r
 by_cases v:(decide ((s.w.N:Int)=0)||s.w.K)=true
 . have key:=C.u5 (Fl.of {y with N:=(s.w.N:Int)}) b o τ (decide ((s.w.N:Int)=0)) s.w.K v
   refine⟨_,_,_,.out,{s with w:={s.w with L:=false}},.ue,i,?_,.out,nxt (y:={y with N:=(s.w.N:Int)}) key k l d (by rw[f]at p ⊢;exact p) rfl,wI rfl,m,kZ (.inl rfl),λ_=>rfl⟩
   have a:(decide (s.w.N=0)||s.w.K)=true:=by simpa using v
   simp only[Mu.mv,q,acz,zD,lb,yb,and_true];split
   . rfl
   simp only
 have a:(decide ((s.w.N:Int)=0)||s.w.K)=false:=by simpa using v
 simp only[acQ,abu]at a;have j:s.w.N≠0:=by have:=a.1;omega
 have key:=C.YZ (Fl.of {y with N:=(s.w.N:Int)}) b o τ
 rw[Ig (by show decide ((s.w.N:Int)=0)=false;simpa using j)]at key
 rw[a.2,f]at p;refine⟨_,_,_,.jH {s.w with L:=false},{s with w:={s.w with L:=false}},.jH _,i,?_,.jH _,nxt (y:={y with N:=(s.w.N:Int)}) key k l d (by rw[a.2,f];exact p) ⟨rfl,rfl,rfl,a.2,f,j⟩,wI rfl,m,kZ (.inl rfl),λ_=>rfl⟩
 have D:({s.w with L:=false}:Mu.Wd)≠Mu.Wd.zero:=λe=>j (by have:=congrArg Mu.Wd.N e;exact this)
 simp[Mu.mv,q,f,j,a.2,Mu.Wd.zero]
include C X in
def Js{old}(d:ShM b o w s)(h:ow P n b o τ (.jH old) cs g):mr P n b o τ Wd cs g w main (.jH old) s:=by
 obtain⟨c,y,fr,φ,⟨rfl,k,q,r,t,l⟩,u,i,f,rfl⟩:=h;obtain⟨L,K,S,N⟩:=old;simp only at k q r t l;subst q;subst r;subst t;have v:(UC P n b o τ).1.kind≠.early:=by simp[UC,vR]
 have ω:∀x,SR y wf x->x=.int .i32 (enc false false false N):=λx m=>by have:=m.1;rw[k,adg]at this;exact this
 have a:∀x,SR y (.word false true false (-1)) x->x=.int .i32 (enc false true false (N-1:Nat)):=λx m=>by have:=m.1;rw[k]at this;rw[this];congr 2;omega
 by_cases j:s.w=⟨false,false,false,N⟩
 . have z:=d.cw
   rw[j]at z;exact⟨_,_,_,.give,{s with w:=⟨false,true,false,N-1⟩},.give,iE i (C.XU b o τ) v X.kU ω a z (d.fz o),by simp[Mu.mv,j],.give,nxt (C.Y0 (Fl.of y) b o τ) u i f rfl (.inl rfl),wI rfl,d.aZ ⟨false,true,false,N-1⟩,kZ (.inl rfl),λ_=>rfl⟩
 have p:¬enc s.w.L s.w.K s.w.S s.w.N=enc false false false N:=λe=>j (RS.2 e)
 exact⟨_,_,_,.wG,s,.wG,iV i (C.XU b o τ) v X.kU ω a d.cw (d.fz o) p,by simp[Mu.mv,j],.wG,nxt (C.Y1 (Fl.of y) b o τ) u i f rfl rfl,br rfl,d,H7 (.inl rfl),λ_=>rfl⟩
include C X in
def Mz(k:ShM b o w s)(hb:s.w.N<=1000)(h:ow P n b o τ .wG cs g):mr P n b o τ Wd cs g w main .wG s:=by
 obtain⟨c,y,fr,φ,rfl,x,v,l,rfl⟩:=h;have e:({y with N:=(s.w.N:Int)}:Sy).ok:=⟨⟨by simp,by show(s.w.N:Int)<=1000;omega⟩,x.2⟩
 have f:=v.re (y':={y with N:=(s.w.N:Int)}) (.inr rfl) (.inl rfl) (.inl rfl) (.inl rfl)
 have d:=l.ir (y':={y with N:=(s.w.N:Int)}) (by simpa[PO,vR]using C.p4 b o τ)
 have i:=qU (main:=main) (cs:=φ++cs) v (C.Zg b o τ) X.VG X.nV k.cw;have m:SR {y with N:=(s.w.N:Int)} (.word s.w.L s.w.K s.w.S 0) (.int .i32 (enc s.w.L s.w.K s.w.S s.w.N)):=qW rfl
 by_cases p:(decide ((s.w.N:Int)=0)||s.w.L||s.w.K||s.w.S)=true
 . have key:=C.u7 (Fl.of {y with N:=(s.w.N:Int)}) b o τ (decide ((s.w.N:Int)=0)) s.w.L s.w.K s.w.S p
   have a:(decide (s.w.N=0)||s.w.L||s.w.K||s.w.S)=true:=by simpa using p
   exact⟨_,w,#[],.out,s,.ue,i,by simp only[Mu.mv,a,Rp,lb],.out,nxt (y:={y with N:=(s.w.N:Int)}) key e f d m rfl,br rfl,k,gq,λ_=>rfl⟩
 have a:(decide ((s.w.N:Int)=0)||s.w.L||s.w.K||s.w.S)=false:=by simpa using p
 have q:(decide (s.w.N=0)||s.w.L||s.w.K||s.w.S)=false:=by rw[<-a];simp
 simp only[acQ,abu]at a;obtain⟨⟨⟨z,r⟩,t⟩,u⟩:=a;have j:s.w.N≠0:=by omega
 have key:=C.Y2 (Fl.of {y with N:=(s.w.N:Int)}) b o τ
 rw[Ig (by show decide ((s.w.N:Int)=0)=false;simpa using j)]at key
 rw[r,t,u]at m;exact⟨_,w,#[],.jH s.w,s,.jH _,i,by simp only[Mu.mv,q,zs,zD,lb],.jH _,nxt (y:={y with N:=(s.w.N:Int)}) key e f d (by rw[r,t,u];exact m) ⟨rfl,rfl,r,t,u,j⟩,br rfl,k,gq,λ_=>rfl⟩
include C X in
def Jt(d:ShM b o w s)(l:s.ms<=1000)(h:ow P n b o τ .give cs g):mr P n b o τ Wd cs g w main .give s:=by
 obtain⟨c,y,fr,φ,k,j,i,f,rfl⟩:=h;have e:IntKind.u32.wrap ((s.ms:Int)+1)=((s.ms+1:Nat):Int):=by rw[IntKind.wrap_u32];omega
 rcases k with rfl|rfl
 . have a:=oJ (main:=main) (cs:=φ++cs) (w:=w) i (C.XV b o τ) (by simp[G7,vR]) X.oO d.cs (d.fz _)
   rw[e]at a;exact⟨_,_,_,.out,{s with ms:=s.ms+1},.ue,a,by simp[Mu.mv],.out,nxt (C.u8 (Fl.of y) b o τ) j i f rfl rfl,Ql rfl,d.Gf _,xc,λ_=>rfl⟩
 have a:=oJ (main:=main) (cs:=φ++cs) (w:=w) i (C.XW b o τ) (by simp[G9,vR]) X.oO d.cs (d.fz _)
 rw[e]at a;exact⟨_,_,_,.out,{s with ms:=s.ms+1},.ue,a,by simp[Mu.mv],.out,nxt (C.u9 (Fl.of y) b o τ) j i f rfl rfl,Ql rfl,d.Gf _,xc,λ_=>rfl⟩
end
