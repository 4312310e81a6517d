import Derived.Conc.ClockLaws
import Derived.Conc.MarkLaws
import Derived.Conc.AtomicLaws2
import Derived.Conc.SmallLaws
import Derived.Laws.LoneSync
import Derived.Test.YtldmpfccgajobaaGreatDoorC14
set_option linter.all false
namespace Go.aR
open Go.Conc
def bb(s:jR):Option (FuncId × List SV):=
 match s.mode,s.todo with
 | .run, .inRegion ops (i::_)::_=>match ops[i]? with
   | some o=>match yW ops s.env o with
     | some true=>match o.op with
       | .call c=>match c.callee with
         |.value (.func f)=>some (f,c.args.toList.map (sv s.env))
         |_=>none
       |_=>none
     |_=>none
   |none=>none
 |_,_=>none
def qI(s:jR):Option (TypeId × SV):=
 match s.mode,s.todo with
 | .run,.inRegion ops (i::_)::_=>match ops[i]? with
   | some o=>match yW ops s.env o with
     | some true=>match o.op with
       |.load t x=>some (t,sv s.env x)
       |_=>none
     |_=>none
   |none=>none
 |_,_=>none
structure Ext(P:Program)(f:FuncId)(e:Array Value->Sem Value):Prop where
 ex:∃fn,P.funcs[f]?=some fn/\(fn.name==  "runtime.NumGoroutine")=false/\fn.body.isNone=true/\Extern.findNext fn=none/\Extern.find fn=some e
theorem du {y:Sy} {s:jR} {fr:Frame} {f:FuncId} {svs:List SV} (j:FR y s fr) (h:bb s=some (f,svs)) :
 ∃ ops i rest kk o as a,ops[i]? = some o∧Region.wanted o (yielded ops fr.tmps)=true∧o.op = .call { callee:=.value (.func f),args:=as,argTypes:=a }∧svs=as.toList.map (sv s.env) ∧
   fr=(fr.at ⟨fr.tmps,fr.defers⟩ (.inRegion ops (i :: rest) :: kk))∧∀ v,fr.at ((⟨fr.tmps,fr.defers⟩:Act).put o.dst v) (.inRegion ops rest :: kk)=fr.finish v:=by
 have d:=j;obtain⟨fn,tmps,todo,defs,mode,kind,ro⟩:=fr;obtain⟨n,e,p,b,q,k,r,t⟩:=j;simp only at n e p b q k r t;subst k;unfold bb at h;split at h
 . rename_i ops i rest kk u w
   rw[u] at b;rw[w] at e;have b:mode = .run:=b;subst b;subst e;split at h
   . rename_i o l
     split at h
     . rename_i x
       split at h
       . rename_i c z
         split at h
         . rename_i g m
           simp only[Option.some.injEq,Prod.mk.injEq] at h;obtain⟨rfl,rfl⟩:=h;obtain⟨callee,args,a⟩:=c;simp only at m;subst m;refine⟨ops,i,rest,kk,o,args,a,l,pQ d x,z,rfl,rfl,fun v=>?_⟩
           simp only[Frame.finish,l,Option.bind_some,Act.put,Frame.at];cases o.dst <;> rfl
         . cases h
       . cases h
     . cases h
   . cases h
 . cases h
section
variable{P:Program}{main:Bool}{y:Sy}{s:jR}{fr:Frame}{f:FuncId}{svs:List SV}{cs:List Frame}{w:World}
theorem Cb{fr:Frame}(x:Operand):(⟨fr.tmps,fr.defers⟩:Act).eval x=fr.eval x:=by cases x<;>rfl
theorem AB {as:Array Operand} (b:FR y s fr) {svs:List SV} (h:svs=as.toList.map (sv s.env)):∀ (j:Nat) (v:SV),svs[j]? = some v->∃ x,(as.map (⟨fr.tmps,fr.defers⟩:Act).eval)[j]? = some x∧SR y v x:=fun j v a=>by
 subst h;rw[List.getElem?_map,Array.getElem?_toList] at a;obtain⟨x,c,rfl⟩:=Option.map_eq_some_iff.1 a;exact⟨fr.eval x,by simp[c,Cb],b.sv x⟩
theorem fD {m:Mark} (d:∀ g,m ≠ .extern g) (c:FR y s fr) (h:bb s=some (f,svs)) (e:s.kind ≠ .early) (j:Ext P f (fun _=>do mark m;pure Extern.Race.none_)):stepG P main (G fr cs) w = .go (G (fr.finish (.tuple #[])) cs) w #[⟨.mark m,false,true⟩]:=by
 obtain⟨ops,i,rest,kk,o,as,k,l,n,p,A,q,r⟩:=du c h;obtain⟨fn,t,u,v,x,z⟩:=j.ex;have:=stepG_mark0 (P:=P) (main:=main) (b:=fr) (a:=⟨fr.tmps,fr.defers⟩) (kk:=kk) (cs:=cs) (w:=w) (rest:=rest) m d l n (by rw[c.kind];exact e) p t u v x z
 rw[r,← q] at this;exact this
theorem fW {mk:Addr->Mark} (j:∀ ad g,mk ad ≠ .extern g) {ad:Addr} (d:FR y s fr) (h:bb s=some (f,[.lit (.pointer (some ad))])) (k:s.kind ≠ .early) (l:Ext P f (Extern.Race.marked mk)):stepG P main (G fr cs) w = .go (G (fr.finish (.tuple #[])) cs) w #[⟨.mark (mk ad),false,true⟩]:=by
 obtain⟨ops,i,rest,kk,o,as,m,n,p,q,r,t,u⟩:=du d h;obtain⟨fn,v,z,A,B,C⟩:=l.ex;obtain⟨x,e,c⟩:=AB d r 0 _ rfl;have c:x = .pointer (some ad):=c;rw[c] at e;have:=stepG_markAt (P:=P) (main:=main) (b:=fr) (a:=⟨fr.tmps,fr.defers⟩) (kk:=kk) (cs:=cs) (w:=w) (rest:=rest) mk j n p (by rw[d.kind];exact k) q v z A B C e
 rw[u,← t] at this;exact this
theorem Cc {as:Array Operand} {a b c:SV} (h:[a,b,c]=as.toList.map (sv s.env)):∃ x z u,as=#[x,z,u]∧sv s.env x=a∧sv s.env z=b∧sv s.env u=c:=by
 obtain⟨l⟩:=as
 match l,h with
 | [x,z,u],h=>simp at h;exact⟨x,z,u,rfl,h.1.symm,h.2.1.symm,h.2.2.symm⟩
theorem Jp {as:Array Operand} {a b:SV} (h:[a,b]=as.toList.map (sv s.env)):∃ x z,as=#[x,z]∧sv s.env x=a∧sv s.env z=b:=by
 obtain⟨l⟩:=as
 match l,h with
 | [x,z],h=>simp at h;exact⟨x,z,rfl,h.1.symm,h.2.symm⟩
theorem Jq {as:Array Operand} {a:SV} (h:[a]=as.toList.map (sv s.env)):∃ x,as=#[x]∧sv s.env x=a:=by
 obtain⟨l⟩:=as
 match l,h with
 | [x],h=>simp at h;exact⟨x,rfl,h.symm⟩
theorem iS(b:FR y s fr){x:Operand}{a:SV}(h:sv s.env x=a):SR y a ((⟨fr.tmps,fr.defers⟩:Act).eval x):=by subst h;rw[Cb];exact b.sv x
theorem iq {k:IntKind} {ad:Addr} {a b:SV} {v n:Int} (c:FR y s fr) (h:bb s=some (f,[.lit (.pointer (some ad)),a,b])) (e:s.kind ≠ .early) (g:Ext P f (Extern.Atomic.casT (.int k)))
 (j:∀ x,SR y a x->x = .int k v) (hb:∀ x,SR y b x->x = .int k n) (l:w.cell? ad=some (.int k v)) (m:w.frozen? ad=false) :
 stepG P main (G fr cs) w = .go (G (fr.finish (.bool true)) cs) (w.setCell ad (.int k n)) #[⟨.cell ad,false,true⟩,⟨.cell ad,true,true⟩]:=by
 obtain⟨ops,i,rest,kk,o,as,p,q,r,t,A,B,C⟩:=du c h;obtain⟨fn,D,E,F,H,I⟩:=g.ex;obtain⟨x,z,u,rfl,J,d,K⟩:=Cc A;have:=stepG_cas_hit (P:=P) (main:=main) (b:=fr) (a:=⟨fr.tmps,fr.defers⟩) (kk:=kk) (cs:=cs) (w:=w) (rest:=rest) q r (by rw[c.kind];exact e) t D E F H k I (iS c J) (j _ (iS c d)) (hb _ (iS c K)) l m
 rw[C,← B] at this;exact this
theorem iK {k:IntKind} {ad:Addr} {a b:SV} {v old n:Int} (c:FR y s fr) (h:bb s=some (f,[.lit (.pointer (some ad)),a,b])) (g:s.kind ≠ .early) (j:Ext P f (Extern.Atomic.casT (.int k)))
 (l:∀ x,SR y a x->x = .int k old) (hb:∀ x,SR y b x->x = .int k n) (m:w.cell? ad=some (.int k v)) (p:w.frozen? ad=false) (d : ¬ v=old) :
 stepG P main (G fr cs) w = .go (G (fr.finish (.bool false)) cs) w #[⟨.cell ad,false,true⟩]:=by
 obtain⟨ops,i,rest,kk,o,as,q,r,t,A,B,C,D⟩:=du c h;obtain⟨fn,E,F,H,I,J⟩:=j.ex;obtain⟨x,z,u,rfl,K,e,L⟩:=Cc B;have:=stepG_cas_miss (P:=P) (main:=main) (b:=fr) (a:=⟨fr.tmps,fr.defers⟩) (kk:=kk) (cs:=cs) (w:=w) (rest:=rest) r t (by rw[c.kind];exact g) A E F H I k J (iS c K) (l _ (iS c e)) (hb _ (iS c L)) m p d
 rw[D,← C] at this;exact this
theorem pR {k:IntKind} {ad:Addr} {a:SV} {v d:Int} (c:FR y s fr) (h:bb s=some (f,[.lit (.pointer (some ad)),a])) (g:s.kind ≠ .early) (j:Ext P f (Extern.Atomic.update (Op.intArith .add) k true))
 (l:∀ x,SR y a x->x = .int k d) (m:w.cell? ad=some (.int k v)) (n:w.frozen? ad=false) :
 stepG P main (G fr cs) w = .go (G (fr.finish (.int k (k.wrap (v+d)))) cs) (w.setCell ad (.int k (k.wrap (v+d)))) #[⟨.cell ad,false,true⟩,⟨.cell ad,true,true⟩]:=by
 obtain⟨ops,i,rest,kk,o,as,p,q,r,t,u,A,B⟩:=du c h;obtain⟨fn,C,D,E,F,H⟩:=j.ex;obtain⟨x,z,rfl,I,e⟩:=Jp u;have:=stepG_add_atomic (P:=P) (main:=main) (b:=fr) (a:=⟨fr.tmps,fr.defers⟩) (kk:=kk) (cs:=cs) (w:=w) (rest:=rest) q r (by rw[c.kind];exact g) t C D E F k H (iS c I) (l _ (iS c e)) m n
 rw[B,← A] at this;exact this
theorem sC {ad:Addr} {l:List SV} {n:Int} (d:FR y s fr) (h:bb s=some (f,.lit (.pointer (some ad)) :: l)) (g:s.kind ≠ .early) (j:Ext P f Extern.Sync.semacquire) (k:w.cell? ad=some (.int .u32 n)) (m:n≠0) (p:w.frozen? ad=false) :
 stepG P main (G fr cs) w = .go (G (fr.finish (.tuple #[])) cs) (w.setCell ad (.int .u32 (n-1))) (semEvents ad):=by
 obtain⟨ops,i,rest,kk,o,as,q,r,t,u,v,z,A⟩:=du d h;obtain⟨fn,B,C,D,E,F⟩:=j.ex;obtain⟨x,e,c⟩:=AB d v 0 _ rfl;have c:x = .pointer (some ad):=c;rw[c] at e;have:=stepG_semacquire (P:=P) (main:=main) (b:=fr) (a:=⟨fr.tmps,fr.defers⟩) (kk:=kk) (cs:=cs) (w:=w) (rest:=rest) r t (by rw[d.kind];exact g) u B C D E F e k m p
 rw[A,← z] at this;exact this
theorem y9 {ad:Addr} {l:List SV} (d:FR y s fr) (h:bb s=some (f,.lit (.pointer (some ad)) :: l)) (g:Ext P f Extern.Sync.semacquire) (j:w.cell? ad=some (.int .u32 0)) :
 stepG P main (G fr cs) w = .go { G fr cs with status:=.blocked } w #[]:=by
 obtain⟨ops,i,rest,kk,o,as,k,m,n,p,q,r,B⟩:=du d h;obtain⟨fn,t,u,v,z,A⟩:=g.ex;obtain⟨x,e,c⟩:=AB d q 0 _ rfl;have c:x = .pointer (some ad):=c;rw[c] at e;have:=stepG_semacquire_wait (P:=P) (main:=main) (b:=fr) (a:=⟨fr.tmps,fr.defers⟩) (kk:=kk) (cs:=cs) (w:=w) (rest:=rest) m n p t u v z A e j;rw[← r] at this;exact this
theorem oH {ad:Addr} {l:List SV} {n:Int} (d:FR y s fr) (h:bb s=some (f,.lit (.pointer (some ad)) :: l)) (g:s.kind ≠ .early) (j:Ext P f Extern.Sync.semrelease) (k:w.cell? ad=some (.int .u32 n)) (m:w.frozen? ad=false) :
 stepG P main (G fr cs) w = .go (G (fr.finish (.tuple #[])) cs) (w.setCell ad (.int .u32 (IntKind.u32.wrap (n+1)))) (semEvents ad):=by
 obtain⟨ops,i,rest,kk,o,as,p,q,r,t,u,v,z⟩:=du d h;obtain⟨fn,A,B,C,D,E⟩:=j.ex;obtain⟨x,e,c⟩:=AB d u 0 _ rfl;have c:x = .pointer (some ad):=c;rw[c] at e;have:=stepG_semrelease (P:=P) (main:=main) (b:=fr) (a:=⟨fr.tmps,fr.defers⟩) (kk:=kk) (cs:=cs) (w:=w) (rest:=rest) q r (by rw[d.kind];exact g) t A B C D E e k m
 rw[z,← v] at this;exact this
theorem zc (e:FR y s fr) (h:bb s=some (f,svs)) (g:s.kind ≠ .early) (j:Ext P f Extern.OsHooks.nano) (k:∃ fn,P.funcs[f]? = some fn∧fn.norace=true) :
 stepG P main (G fr cs) w = .go (G (fr.finish (.int .i64 ((w.os.mono+w.tick:Nat):Int))) cs) w.later #[]:=by
 obtain⟨ops,i,rest,kk,o,as,l,m,n,p,B,q,r⟩:=du e h;obtain⟨fn,c,t,u,v,x⟩:=j.ex;obtain⟨d,z,A⟩:=k;obtain rfl:d=fn:=by rw[z] at c;exact Option.some.inj c
 have:=stepG_nanotime (P:=P) (main:=main) (b:=fr) (a:=⟨fr.tmps,fr.defers⟩) (kk:=kk) (cs:=cs) (w:=w) (rest:=rest) m n (by rw[e.kind];exact g) p c t u v x A
 rw[r,← q] at this;exact this
theorem GM {n:Int} (d:FR y s fr) (h:bb s=some (f,[.lit (.int .i64 n)])) (j:s.kind ≠ .early) (B:Ext P f Extern.Sync.canSpin) :
 ∃ b w',stepG P main (G fr cs) w = .go (G (fr.finish (.bool b)) cs) w' #[]∧(b=true->n<4)∧(w'=w∨w'=w.asked):=by
 obtain⟨ops,i,rest,kk,o,as,C,l,m,p,g,q,r⟩:=du d h;obtain⟨fn,t,u,v,z,A⟩:=B.ex;obtain⟨x,rfl,D⟩:=Jq g;have c:(⟨fr.tmps,fr.defers⟩:Act).eval x = .int .i64 n:=iS d D
 by_cases g:n<4
 . have:=stepG_canSpin_ask (P:=P) (main:=main) (b:=fr) (a:=⟨fr.tmps,fr.defers⟩) (kk:=kk) (cs:=cs) (w:=w) (rest:=rest) l m (by rw[d.kind];exact j) p t u v z A (n:=n) (k:=.i64) (by simp[c]) g
   rw[r,← q] at this;exact⟨_,_,this,fun _=>g,.inr rfl⟩
 . have:=stepG_canSpin_no (P:=P) (main:=main) (b:=fr) (a:=⟨fr.tmps,fr.defers⟩) (kk:=kk) (cs:=cs) (w:=w) (rest:=rest) l m (by rw[d.kind];exact j) p t u v z A (n:=n) (k:=.i64) (by simp[c]) (by omega)
   rw[r,← q] at this;exact⟨_,_,this,(fun e=>by cases e),.inl rfl⟩
theorem tQ {v:Value} (c:FR y s fr) (h:bb s=some (f,svs)) (d:s.kind ≠ .early) (e:Ext P f (fun _=>pure v)):stepG P main (G fr cs) w = .go (G (fr.finish v) cs) w #[]:=by
 obtain⟨ops,i,rest,kk,o,as,g,j,k,l,x,m,n⟩:=du c h;obtain⟨fn,p,q,r,t,u⟩:=e.ex;have:=stepG_entry (P:=P) (main:=main) (b:=fr) (a:=⟨fr.tmps,fr.defers⟩) (kk:=kk) (cs:=cs) (w:=w) (rest:=rest) (v:=v) (w':=w) (evs:=#[]) j k (by rw[c.kind];exact d) l p q r t u (by simp) (by simp) (by simp)
 rw[n,← m] at this;exact this
theorem Jr{α β:Type}{P:Program}{f:α->Sem β}(s:Sem α):∀{a:α},nC P s=some a->∀w es,(s.bind f).runT P w es=(f a).runT P w es:=by
 induction s with
 |pure b=>intro a h w es;simp only[nC,Option.some.injEq]at h;subst h;rfl
 |program g c=>intro a h w es;simp only[nC]at h;exact c P h w es
 |_=>intro a h;simp[nC]at h
theorem qx{t:Nat}{ad:Addr}{v:Value}(q:FR y s fr)(h:qI s=some (t,.lit (.pointer (some ad))))(C:nC P (isAgg t)=some false)(D:∃fn,P.funcs[s.fn]?=some fn/\fn.norace=true)(E:w.cell? ad=some v):
 stepG P main (G fr cs) w=.go (G (fr.finish v) cs) w #[]:=by
 have f:=q;obtain⟨fn,tmps,todo,defs,mode,kind,ro⟩:=fr;obtain⟨r,i,F,g,H,u,I,J⟩:=q;simp only at r i F g H u I J;subst u;unfold qI at h;split at h
 . rename_i ops z rest A K j
   rw[K]at g;rw[j]at i;have g:mode=.run:=g;subst g;subst i;split at h
   . rename_i o L
     split at h
     . rename_i M
       split at h
       . rename_i a x k
         simp only[Option.some.injEq,Prod.mk.injEq]at h;obtain⟨rfl,N⟩:=h;have d:=f.sv x;rw[N]at d;have d:Frame.eval ⟨fn,tmps,.inRegion ops (z::rest)::A,defs,.run,kind,none⟩ x=.pointer (some ad):=d;obtain⟨O,l,p⟩:=D;subst r;rw[od L (pQ f M)];have hex:execOp (Frame.eval ⟨s.fn,tmps,.inRegion ops (z::rest)::A,defs,.run,kind,none⟩) o=Sem.bind (Instr.loadAt a (.pointer (some ad))) (λv=>pure (Next.value v)):=by simp only[execOp,k,d];rfl
         have e:(Sem.bind (Instr.loadAt a (.pointer (some ad))) (λv=>(pure (Next.value v):Sem Next))).runT P w #[]=(.ok (.value v) w,#[⟨.cell ad,false,false⟩]):=by
          have Q:Instr.loadAt a (.pointer (some ad))=Sem.bind (isAgg a) (λb=>if b=true then Sem.bind (sizeOf a) (λn=>Sem.bind (loadCells ad n) (λc=>pure (.agg c)))else load ad):=rfl
          rw[Q]
          have R:Sem.bind (Sem.bind (isAgg a) (λb=>if b=true then Sem.bind (sizeOf a) (λn=>Sem.bind (loadCells ad n) (λc=>pure (.agg c)))else load ad)) (λv=>(pure (Next.value v):Sem Next))=
           Sem.bind (isAgg a) (λb=>Sem.bind (if b=true then Sem.bind (sizeOf a) (λn=>Sem.bind (loadCells ad n) (λc=>pure (.agg c)))else load ad) (λv=>(pure (Next.value v):Sem Next))):=bind_assoc (m:=Sem) _ _ _
          rw[R,Jr _ C];show(Sem.bind (load ad) (λv=>(pure (Next.value v):Sem Next))).runT P w #[]=_
          unfold load;show Sem.runT P (Sem.load .plain ad λv=>pure (Next.value v)) w #[]=_
          simp only[Sem.runT,E];rfl
         rw[hex]
         have S:seen P s.fn #[⟨.cell ad,false,false⟩]=#[]:=by rw[seen_def];simp[l,p,seenStep]
         simp only[stepG.apply,if_true,e,GStep.after]
         by_cases B:(kind==CallKind.early)=true
         . simp[B,ii,G]
         . simp[B,S,G]
       . cases h
     . cases h
   . cases h
 . cases h
def kY(s:jR):Option (TypeId × TypeId × SV):=
 match s.mode,s.todo with
 | .run,.inRegion ops (i::_)::_=>match ops[i]? with
   | some o=>match yW ops s.env o with
     | some true=>match o.op with
       |.convert a b x=>some (a,b,sv s.env x)
       |_=>none
     |_=>none
   |none=>none
 |_,_=>none
theorem tR{a b t:TypeId}{ad:Addr}(l:FR y s fr)(h:kY s=some (a,b,.lit (.pointer (some ad))))(m:P.underlying a=some (.pointer t))(n:P.underlying b=some .unsafePointer)(p:(P.info? t).map (λi=>decide (i.size=0))=some false)(f:∃v,w.cell? ad=some v):
 stepG P main (G fr cs) w=.go (G (fr.finish (.pointer (some ad))) cs) w #[]:=by
 obtain⟨v,f⟩:=f;have d:=l;obtain⟨fn,tmps,todo,defs,mode,kind,ro⟩:=fr;obtain⟨z,g,A,e,B,q,C,D⟩:=l;simp only at z g A e B q C D;subst q;unfold kY at h;split at h
 . rename_i ops r rest u E j
   rw[E]at e;rw[j]at g;have e:mode=.run:=e;subst e;subst g;split at h
   . rename_i o F
     split at h
     . rename_i H
       split at h
       . rename_i I J x k
         simp only[Option.some.injEq,Prod.mk.injEq]at h;obtain⟨rfl,rfl,K⟩:=h;have c:=d.sv x;rw[K]at c;have c:Frame.eval ⟨fn,tmps,.inRegion ops (r::rest)::u,defs,.run,kind,none⟩ x=.pointer (some ad):=c;rw[od F (pQ d H)];have hex:execOp (Frame.eval ⟨fn,tmps,.inRegion ops (r::rest)::u,defs,.run,kind,none⟩) o=(do pure (.value (<-convert I J (.pointer (some ad)))):Sem Next):=by simp only[execOp,k,c]
         have L:=run_convert_to_unsafe m n p f;have M:=events_convert_to_unsafe m n p f #[];rw[hex];simp[stepG.apply,L,M,GStep.after,ii,G,Result.andThen]
       . cases h
     . cases h
   . cases h
 . cases h
end
def dP(P:Program)(f:FuncId)(args:List SV)(kind:CallKind):jR:=
 match P.funcs[f]? with
 |some fn=>⟨f,[.code (fn.body.getD .skip)],args++List.replicate (fn.ntmps-args.length) .bJ,[],.run,kind⟩
 |none=>⟨f,[],args,[],.run,kind⟩
abbrev cQ:=jR × List jR
def next(P:Program)(a:Fl)(c:cQ)(v:SV):cQ:=match ww c.1 v with|some s=>sgo P a 400 s c.2|none=>c
def pt(b o:Nat):SV:=.lit (.pointer (some ⟨b,o,none⟩))
def un:SV:=.lit (.tuple #[])
def tt:SV:=.lit (.bool true)
def ff:SV:=.lit (.bool false)
def Fj(live:List Nat)(env:List SV):List SV:=(List.range env.length).zipWith (λi v=>if live.contains i then v else .bJ) env
def keep(live:List Nat)(s:jR):jR:={s with env:=Fj live s.env}
def Js(env:List SV):List (Nat × SV)->List SV
 |[]=>env
 |(i,v)::l=>Js (env.set i v) l
theorem FR.keep{y:Sy}{s:jR}{fr:Frame}(h:FR y s fr)(live:List Nat):FR y (keep live s) fr:=by
 refine⟨h.fn,h.todo,h.defers,h.mode,h.kind,h.ro,?_,λt=>?_⟩
 . rw[h.size]
   show s.env.length=(Fj live s.env).length;rw[Fj,List.length_zipWith,List.length_range,Nat.min_self]
 . have:=h.env t
   simp only[Go.aR.keep,Fj];rw[List.getD_eq_getElem?_getD,List.getElem?_zipWith];by_cases a:t<s.env.length
   . rw[List.getElem?_range a,List.getElem?_eq_getElem a]
     simp only[Option.getD_some];split
     . rw[List.getD_eq_getElem?_getD,List.getElem?_eq_getElem a]at this
       exact this
     . trivial
   . rw[List.getElem?_eq_none (by rw[List.length_range];exact Nat.le_of_not_lt a)]
     trivial
def plain:SV->Bool
 |.bJ=>true
 |.lit _=>true
 |_=>false
theorem FR.ij{y y':Sy}{s:jR}{fr:Frame}(h:FR y s fr)(a:s.env.all plain=true):FR y' s fr:=by
 refine⟨h.fn,h.todo,h.defers,h.mode,h.kind,h.ro,h.size,λt=>?_⟩;have b:=h.env t
 have c:plain (s.env.getD t .bJ)=true:=by
  rw[List.getD_eq_getElem?_getD];cases q:s.env[t]? with
  |none=>rfl
  |some v=>exact List.all_eq_true.1 a v (List.mem_of_getElem? q)
 generalize s.env.getD t .bJ=v at *;cases v<;>simp_all [plain,SR]
structure zd where
 lock:Nat
 unlock:Nat
 Qy:Nat
 vq:Nat
 OF:Nat
 NU:Nat
 jF:Nat
 en:Nat
 acq:Nat
 rel:Nat
 kU:Nat
 add:Nat
 GN:Nat
 tT:Nat
 nano:Nat
 D5:Nat
 oI:Nat
 tM:Nat
 tU:Nat
 tI:Nat
def Sl(c:cQ):List Nat:=[c.1.fn,c.1.todo.length,(match c.1.todo with|.inRegion ops (i::_)::_=>i|_=>999),(match bb c.1 with|some (f,_)=>f|none=>match qI c.1 with|some (t,_)=>1000+t|none=>999)]++c.2.map (·.fn)
def lO:Fl:=⟨false,false,false,false,false,false⟩
def Jt(P:Program)(f:Fl):Nat->jR->List jR->cQ
 |0,fr,st=>(fr,st)
 | n + 1,fr,st=>match ss P f fr st with
   | some (a,b)=>match a.todo with
     |.code _::.inLoop _::_=>(a,b)
     |_=>Jt P f n a b
   |none=>(fr,st)
def Cd(live:List Nat)(c:cQ):cQ:=(keep live c.1,c.2.map (keep []))
def aN(P:Program)(a:Fl)(live:List Nat)(c:cQ)(v:SV):Option cQ:=(ww c.1 v).map λs=>Cd live (sgo P a 400 s c.2)
def pS(P:Program)(a:Fl)(live:List Nat)(c:cQ)(v:SV):Option cQ:=(ww c.1 v).map λs=>Cd live (Jt P a 400 s c.2)
def Qz(P:Program)(a:Fl)(live:List Nat)(c:cQ):cQ:=Cd live (sgo P a 400 c.1 c.2)
def bl(x:Bool):SV:=.lit (.bool x)
def i64(n:Int):SV:=.lit (.int .i64 n)
def i32(n:Int):SV:=.lit (.int .i32 n)
def jk(n:Nat):List SV:=List.replicate n .bJ
section
variable(P:Program)(n:zd)(b o:Nat)(kind:CallKind)
def wf:SV:=.word false false false 0
def wl:SV:=.word true false false 0
def Sm:cQ:=Cd [0] (sgo P lO 400 (dP P n.lock [pt b o] kind) [])
def Ju:cQ:=next P lO (Sm P n b o kind) un
def QA:cQ:=next P lO (Ju P n b o kind) tt
def QB:cQ:=next P lO (QA P n b o kind) un
def Sn:cQ:=next P lO (QB P n b o kind) (pt b o)
def D9:cQ:=next P lO (Ju P n b o kind) ff
def Vp:cQ:=(pS P lO [] (D9 P n b o kind) wf).getD (D9 P n b o kind)
def So:cQ:=next P lO (D9 P n b o kind) wl
def Tw:cQ:=next P lO (So P n b o kind) tt
def Tx:cQ:=next P lO (Tw P n b o kind) tt
def Sp:cQ:=next P lO (Tx P n b o kind) un
def OG:cQ:=next P lO (So P n b o kind) ff
def Sq:cQ:=next P lO (OG P n b o kind) ff
def QC:cQ:=next P lO (next P lO (D9 P n b o kind) wf) tt
def QD:cQ:=next P lO (QC P n b o kind) un
def Sr:cQ:=next P lO (QD P n b o kind) (pt b o)
def Ty:cQ:=next P lO (OG P n b o kind) tt
def Tz:cQ:=next P lO (Ty P n b o kind) .GL
def TA:cQ:=next P lO (Tz P n b o kind) un
def TB:cQ:=next P lO (TA P n b o kind) .now
def Vq:cQ:=next P lO (TB P n b o kind) (.word false false true 0)
def QE:List jR:=(Sm P n b o kind).2
def RX:List jR:=(D9 P n b o kind).2.map (keep [])
def mY(a:List Item)(l:List (Nat × SV)):cQ:=(⟨n.Qy,a,Js (jk 13) l,[],.run,.normal⟩,QE P n b o kind)
def cN(a:List Item)(l:List (Nat × SV)):cQ:=(⟨n.OF,a,Js (jk 139) l,[],.run,.normal⟩,RX P n b o kind)
def LD:cQ:=Sm P n b o kind
def tV:cQ:=mY P n b o kind (Ju P n b o kind).1.todo [(0,pt b o),(5,pt b o)]
def NV:cQ:=mY P n b o kind (QA P n b o kind).1.todo [(0,pt b o)]
def PR:cQ:=mY P n b o kind (QB P n b o kind).1.todo [(8,pt b o)]
def NW:cQ:=mY P n b o kind (Sn P n b o kind).1.todo [(9,pt b o)]
def BK:cQ:=(⟨n.lock,[],jk 6,[],.ret,kind⟩,[])
def NX(aw sv:Bool)(it:Int):List (Nat × SV):=[(0,pt b o),(2,.GL),(3,bl sv),(4,bl aw),(5,i64 it)]
def RY:cQ:=cN P n b o kind (D9 P n b o kind).1.todo [(0,pt b o),(2,i64 0),(3,ff),(4,ff),(5,i64 0),(12,pt b o)]
def OH(aw sv:Bool)(it:Int):cQ:=cN P n b o kind (D9 P n b o kind).1.todo (NX b o aw sv it++[(12,pt b o)])
def Fk(aw sv:Bool)(it:Int):cQ:=cN P n b o kind (Sp P n b o kind).1.todo (NX b o aw sv it++[(47,pt b o)])
def OI(aw sv:Bool)(it:Int):cQ:=cN P n b o kind (Sq P n b o kind).1.todo (NX b o aw sv it++[(133,pt b o)])
def HD(L K S aw sv:Bool)(it:Int):cQ:=cN P n b o kind (Vp P n b o kind).1.todo (NX b o aw sv it++[(6,.word L K S 0)])
def SQ(K aw sv:Bool)(it:Int):cQ:=cN P n b o kind (So P n b o kind).1.todo (NX b o aw sv it++[(6,.word true K false 0),(17,tt),(18,i64 it)])
def SW(it:Int):cQ:=cN P n b o kind (Tw P n b o kind).1.todo (NX b o false false it++[(33,tt),(36,pt b o),(37,.word true false false 0),(39,.word true true false 0)])
def DS(aw sv:Bool)(it:Int):cQ:=cN P n b o kind (Tx P n b o kind).1.todo (NX b o aw sv it)
def ME(L K S aw sv:Bool):SV:=.word (L||!S) (if aw then false else K) (S||(sv && L)) (if L||S then 1 else 0)
def Ce(L K S aw sv:Bool)(it:Int):cQ:=cN P n b o kind (OG P n b o kind).1.todo (NX b o aw sv it++[(6,.word L K S 0),(77,pt b o),(78,.word L K S 0),(79,ME L K S aw sv)])
def T1(sv:Bool):cQ:=cN P n b o kind (Ty P n b o kind).1.todo [(0,pt b o),(3,bl sv)]
def PK(sv:Bool):cQ:=cN P n b o kind (Tz P n b o kind).1.todo [(0,pt b o),(2,.GL),(3,bl sv),(91,pt b (o+1))]
def TQ:cQ:=cN P n b o kind (TA P n b o kind).1.todo [(0,pt b o),(2,.GL),(95,ff)]
def UP(sv:Bool):cQ:=cN P n b o kind (TB P n b o kind).1.todo [(0,pt b o),(2,.GL),(3,bl sv),(103,pt b o)]
def AD(d:Int):cQ:=cN P n b o kind (Vq P n b o kind).1.todo [(0,pt b o),(128,pt b o),(129,i32 d)]
def LU:cQ:=cN P n b o kind (QC P n b o kind).1.todo [(0,pt b o)]
def PS:cQ:=cN P n b o kind (QD P n b o kind).1.todo [(136,pt b o)]
def NY:cQ:=cN P n b o kind (Sr P n b o kind).1.todo [(137,pt b o)]
def Ss:cQ:=Cd [0,5] (sgo P lO 400 (dP P n.unlock [pt b o] kind) [])
def QF:cQ:=next P lO (Ss P n b o kind) .bJ
def TC:cQ:=next P lO (QF P n b o kind) (pt b o)
def TD:cQ:=next P lO (TC P n b o kind) un
def Fm:cQ:=next P lO (TD P n b o kind) un
def Vr:cQ:=next P {lO with n0:=true} (Fm P n b o kind) wf
def RZ:cQ:=next P lO (Fm P n b o kind) wf
def Vt:cQ:=next P lO (Fm P n b o kind) (.word false false true 0)
def Vu:cQ:=next P lO (RZ P n b o kind) tt
def Su:cQ:=next P lO (RZ P n b o kind) ff
def QG:List jR:=(Ss P n b o kind).2
def Sv:List jR:=(RZ P n b o kind).2.map (keep [])
def pn(a:List Item)(l:List (Nat × SV)):cQ:=(⟨n.vq,a,Js (jk 21) l,[],.run,.normal⟩,QG P n b o kind)
def uO(a:List Item)(l:List (Nat × SV)):cQ:=(⟨n.NU,a,Js (jk 43) l,[],.run,.normal⟩,Sv P n b o kind)
def U0:cQ:=Ss P n b o kind
def PT:cQ:=pn P n b o kind (QF P n b o kind).1.todo [(0,pt b o),(7,pt b o)]
def UR:cQ:=pn P n b o kind (TC P n b o kind).1.todo [(0,pt b o),(8,pt b o)]
def UD:cQ:=pn P n b o kind (TD P n b o kind).1.todo [(0,pt b o)]
def rD:cQ:=pn P n b o kind (Fm P n b o kind).1.todo [(0,pt b o),(13,pt b o),(14,.bJ)]
def UE:cQ:=pn P n b o kind (Vr P n b o kind).1.todo []
def UC:cQ:=uO P n b o kind (RZ P n b o kind).1.todo [(0,pt b o),(27,pt b o),(28,wf),(29,.word false true false (-1))]
def G7:cQ:=uO P n b o kind (Vu P n b o kind).1.todo [(33,pt b (o+1))]
def G9:cQ:=uO P n b o kind (Vt P n b o kind).1.todo [(41,pt b (o+1))]
def LV:cQ:=uO P n b o kind (Su P n b o kind).1.todo [(0,pt b o),(37,pt b o)]
def QH:cQ:=(⟨n.unlock,[],jk 6,[],.ret,kind⟩,[])
end
structure jf(P:Program)(n:zd):Prop where
 e1:∀(fl:Fl) b o kind,aN P fl [0,5] (LD P n b o kind) un=some (tV P n b o kind)
 e2:∀(fl:Fl) b o kind,aN P fl [0] (tV P n b o kind) tt=some (NV P n b o kind)
 e3:∀(fl:Fl) b o kind,aN P fl [0,2,3,4,5,12] (tV P n b o kind) ff=some (RY P n b o kind)
 e4:∀(fl:Fl) b o kind,aN P fl [8] (NV P n b o kind) un=some (PR P n b o kind)
 e5:∀(fl:Fl) b o kind,aN P fl [9] (PR P n b o kind) (pt b o)=some (NW P n b o kind)
 e6:∀(fl:Fl) b o kind,aN P fl [] (NW P n b o kind) un=some (BK n kind)
 TE:∀(fl:Fl) b o kind L K S aw sv it,pS P fl [0,2,3,4,5,6] (OH P n b o kind aw sv it) (.word L K S 0)=some (HD P n b o kind L K S aw sv it)
 TF:∀(fl:Fl) b o kind L K S aw sv it,pS P fl [0,2,3,4,5,6] (Fk P n b o kind aw sv it) (.word L K S 0)=some (HD P n b o kind L K S aw sv it)
 TG:∀(fl:Fl) b o kind L K S aw sv it,pS P fl [0,2,3,4,5,6] (OI P n b o kind aw sv it) (.word L K S 0)=some (HD P n b o kind L K S aw sv it)
 e8:∀(fl:Fl) b o kind K aw sv it,Qz P fl [0,2,3,4,5,6,17,18] (HD P n b o kind true K false aw sv it)=SQ P n b o kind K aw sv it
 e9:∀(fl:Fl) b o kind L K S aw sv it,(L && !S)=false->(aw && !K)=false->Qz P fl [0,2,3,4,5,6,77,78,79] (HD P n b o kind L K S aw sv it)=Ce P n b o kind L K S aw sv it
 cP:∀(fl:Fl) b o kind it,aN P {fl with n0:=false} [0,2,3,4,5,33,36,37,39] (SQ P n b o kind false false false it) tt=some (SW P n b o kind it)
 QI:∀(fl:Fl) b o kind n0 K aw sv it,(!aw && !K && !n0)=false->aN P {fl with n0:=n0} [0,2,3,4,5] (SQ P n b o kind K aw sv it) tt=some (DS P n b o kind aw sv it)
 aV:∀(fl:Fl) b o kind K aw sv it,(aw && !K)=false->aN P fl [0,2,3,4,5,6,77,78,79] (SQ P n b o kind K aw sv it) ff=some (Ce P n b o kind true K false aw sv it)
 bh:∀(fl:Fl) b o kind r it,aN P fl [0,2,3,4,5] (SW P n b o kind it) (bl r)=some (DS P n b o kind r false it)
 Ea:∀(fl:Fl) b o kind aw sv,aN P fl [0,2,3,4,5,47] (DS P n b o kind aw sv 0) un=some (Fk P n b o kind aw sv 1)
 Eb:∀(fl:Fl) b o kind aw sv,aN P fl [0,2,3,4,5,47] (DS P n b o kind aw sv 1) un=some (Fk P n b o kind aw sv 2)
 QJ:∀(fl:Fl) b o kind aw sv,aN P fl [0,2,3,4,5,47] (DS P n b o kind aw sv 2) un=some (Fk P n b o kind aw sv 3)
 QK:∀(fl:Fl) b o kind aw sv,aN P fl [0,2,3,4,5,47] (DS P n b o kind aw sv 3) un=some (Fk P n b o kind aw sv 4)
 bU:∀(fl:Fl) b o kind K aw sv it,aN P fl [0] (Ce P n b o kind false K false aw sv it) tt=some (LU P n b o kind)
 QL:∀(fl:Fl) b o kind L K S aw sv it,(L||S)=true->aN P {fl with wz:=true} [0,3] (Ce P n b o kind L K S aw sv it) tt=some (T1 P n b o kind sv)
 QM:∀(fl:Fl) b o kind L K S aw sv it,(L||S)=true->aN P {fl with wz:=false} [0,2,3,91] (Ce P n b o kind L K S aw sv it) tt=some (PK P n b o kind sv)
 ck:∀(fl:Fl) b o kind L K S aw sv it,aN P fl [0,2,3,4,5,133] (Ce P n b o kind L K S aw sv it) ff=some (OI P n b o kind aw sv it)
 hQ:∀(fl:Fl) b o kind sv,aN P fl [0,2,3,91] (T1 P n b o kind sv) .GL=some (PK P n b o kind sv)
 QN:∀(fl:Fl) b o kind,aN P fl [0,2,3,103] (PK P n b o kind true) un=some (UP P n b o kind true)
 QO:∀(fl:Fl) b o kind,aN P fl [0,2,95] (PK P n b o kind false) un=some (TQ P n b o kind)
 jM:∀(fl:Fl) b o kind x,aN P {fl with tb:=x} [0,2,3,103] (TQ P n b o kind) .now=some (UP P n b o kind x)
 TH:∀(fl:Fl) b o kind sv n1,aN P {fl with n0:=false,n1:=n1} [0,128,129] (UP P n b o kind sv) (.word false false true 0)=some (AD P n b o kind (if !sv||n1 then -11 else -7))
 IU:∀(fl:Fl) b o kind L K sv,pS P fl [0,2,3,4,5,6] (UP P n b o kind sv) (.word L K false 0)=some (HD P n b o kind L K false true sv 0)
 IV:∀(fl:Fl) b o kind d,aN P fl [0] (AD P n b o kind d) .bJ=some (LU P n b o kind)
 TJ:∀(fl:Fl) b o kind,aN P fl [136] (LU P n b o kind) un=some (PS P n b o kind)
 TK:∀(fl:Fl) b o kind,aN P fl [137] (PS P n b o kind) (pt b o)=some (NY P n b o kind)
 Ps:∀(fl:Fl) b o kind,aN P fl [] (NY P n b o kind) un=some (BK n kind)
 u1:∀(fl:Fl) b o kind,aN P fl [0,7] (U0 P n b o kind) .bJ=some (PT P n b o kind)
 u2:∀(fl:Fl) b o kind,aN P fl [0,8] (PT P n b o kind) (pt b o)=some (UR P n b o kind)
 u3:∀(fl:Fl) b o kind,aN P fl [0] (UR P n b o kind) un=some (UD P n b o kind)
 u4:∀(fl:Fl) b o kind,aN P fl [0,13] (UD P n b o kind) un=some (rD P n b o kind)
 u5:∀(fl:Fl) b o kind n0 K,(n0||K)=true->aN P {fl with n0:=n0} [] (rD P n b o kind) (.word false K false 0)=some (UE P n b o kind)
 TL:∀(fl:Fl) b o kind n0 K,aN P {fl with n0:=n0} [41] (rD P n b o kind) (.word false K true 0)=some (G9 P n b o kind)
 TM:∀(fl:Fl) b o kind,aN P {fl with n0:=false} [0,27,28,29] (rD P n b o kind) (.word false false false 0)=some (UC P n b o kind)
 TN:∀(fl:Fl) b o kind,aN P fl [33] (UC P n b o kind) tt=some (G7 P n b o kind)
 TO:∀(fl:Fl) b o kind,aN P fl [0,37] (UC P n b o kind) ff=some (LV P n b o kind)
 u7:∀(fl:Fl) b o kind n0 L K S,(n0||L||K||S)=true->aN P {fl with n0:=n0} [] (LV P n b o kind) (.word L K S 0)=some (UE P n b o kind)
 TP:∀(fl:Fl) b o kind,aN P {fl with n0:=false} [0,27,28,29] (LV P n b o kind) (.word false false false 0)=some (UC P n b o kind)
 u8:∀(fl:Fl) b o kind,aN P fl [] (G7 P n b o kind) un=some (UE P n b o kind)
 u9:∀(fl:Fl) b o kind,aN P fl [] (G9 P n b o kind) un=some (UE P n b o kind)
 TR:∀(fl:Fl) b o kind,aN P fl [] (UE P n b o kind) un=some (QH n kind)
 o1:∀b o kind,bb (LD P n b o kind).1=some (n.jF,[])/\(LD P n b o kind).1.kind=.normal
 o2:∀b o kind,bb (tV P n b o kind).1=some (n.kU,[pt b o,i32 0,i32 1])
 o3:∀b o kind,bb (NV P n b o kind).1=some (n.en,[])
 o4:∀b o kind,kY (PR P n b o kind).1=some (n.tM,n.tU,pt b o)
 o5:∀b o kind,bb (NW P n b o kind).1=some (n.acq,[pt b o])
 TS:∀b o kind aw sv it,qI (OH P n b o kind aw sv it).1=some (n.tI,pt b o)
 TU:∀b o kind aw sv it,qI (Fk P n b o kind aw sv it).1=some (n.tI,pt b o)
 TV:∀b o kind aw sv it,qI (OI P n b o kind aw sv it).1=some (n.tI,pt b o)
 o7:∀b o kind K aw sv it,bb (SQ P n b o kind K aw sv it).1=some (n.GN,[i64 it])
 o8:∀b o kind it,bb (SW P n b o kind it).1=some (n.kU,[pt b o,.word true false false 0,.word true true false 0])
 o9:∀b o kind aw sv it,bb (DS P n b o kind aw sv it).1=some (n.tT,[])
 Sw:∀b o kind L K S aw sv it,bb (Ce P n b o kind L K S aw sv it).1=some (n.kU,[pt b o,.word L K S 0,ME L K S aw sv])
 TW:∀b o kind sv,bb (T1 P n b o kind sv).1=some (n.nano,[])
 Sx:∀b o kind sv,bb (PK P n b o kind sv).1=some (n.D5,[pt b (o+1),.bJ,i64 2])
 TX:∀b o kind,bb (TQ P n b o kind).1=some (n.nano,[])
 TY:∀b o kind sv,qI (UP P n b o kind sv).1=some (n.tI,pt b o)
 TZ:∀b o kind d,bb (AD P n b o kind d).1=some (n.add,[pt b o,i32 d])
 T0:∀b o kind,bb (LU P n b o kind).1=some (n.en,[])
 T2:∀b o kind,kY (PS P n b o kind).1=some (n.tM,n.tU,pt b o)
 T3:∀b o kind,bb (NY P n b o kind).1=some (n.acq,[pt b o])
 Sz:∀b o kind,qI (U0 P n b o kind).1=some (n.tI,pt b o)/\(U0 P n b o kind).1.kind=.normal/\(U0 P n b o kind).1.fn=n.vq
 T4:∀b o kind,kY (PT P n b o kind).1=some (n.tM,n.tU,pt b o)
 T5:∀b o kind,bb (UR P n b o kind).1=some (n.rel,[pt b o])
 T6:∀b o kind,bb (UD P n b o kind).1=some (n.jF,[])
 SA:∀b o kind,bb (rD P n b o kind).1=some (n.add,[pt b o,i32 (-1)])
 SB:∀b o kind,bb (UC P n b o kind).1=some (n.kU,[pt b o,wf,.word false true false (-1)])
 SC:∀b o kind,bb (G7 P n b o kind).1=some (n.oI,[pt b (o+1),ff,i64 2])
 SD:∀b o kind,bb (G9 P n b o kind).1=some (n.oI,[pt b (o+1),tt,i64 2])
 T7:∀b o kind,qI (LV P n b o kind).1=some (n.tI,pt b o)
 T8:∀b o kind,bb (UE P n b o kind).1=some (n.en,[])
 p1:∀b o kind,(QE P n b o kind).all (·.env.all plain)=true/\(LD P n b o kind).1.env.all plain=true/\(LD P n b o kind).2=QE P n b o kind
 p2:∀b o kind,(RX P n b o kind).all (·.env.all plain)=true
 p3:∀b o kind,(QG P n b o kind).all (·.env.all plain)=true/\(U0 P n b o kind).1.env.all plain=true/\(U0 P n b o kind).2=QG P n b o kind
 p4:∀b o kind,(Sv P n b o kind).all (·.env.all plain)=true
structure jg(P:Program)(n:zd):Prop where
 jF:Ext P n.jF (λ_=>do mark .disable;pure Extern.Race.none_)
 en:Ext P n.en (λ_=>do mark .enable;pure Extern.Race.none_)
 acq:Ext P n.acq (Extern.Race.marked .acquire)
 rel:Ext P n.rel (Extern.Race.marked .releaseMerge)
 kU:Ext P n.kU (Extern.Atomic.casT (.int .i32))
 add:Ext P n.add (Extern.Atomic.update (Op.intArith .add) .i32 true)
 GN:Ext P n.GN Extern.Sync.canSpin
 tT:Ext P n.tT (λ_=>pure (.tuple #[]))
 nano:Ext P n.nano Extern.OsHooks.nano
 Jv:∃fn,P.funcs[n.nano]?=some fn/\fn.norace=true
 D5:Ext P n.D5 Extern.Sync.semacquire
 oI:Ext P n.oI Extern.Sync.semrelease
 QP:nC P (isAgg n.tI)=some false
 T9:∃t,P.underlying n.tM=some (.pointer t)/\P.underlying n.tU=some .unsafePointer/\(P.info? t).map (λi=>decide (i.size=0))=some false
 nS:∃fn,P.funcs[n.OF]?=some fn/\fn.norace=true
 nU:∃fn,P.funcs[n.vq]?=some fn/\fn.norace=true
 nV:∃fn,P.funcs[n.NU]?=some fn/\fn.norace=true
def Sy.ok(y:Sy):Prop:=(0<=y.N/\y.N<=1000)/\(0<=y.c/\y.c<=1000)
def Fl.of(y:Sy):Fl:=⟨decide (y.N=0),decide (y.N=1),decide (y.c=0),decide (y.c=1),decide (y.ws=0),decide (IntKind.i64.wrap (y.tn-y.ws)>1000000)⟩
theorem Fl.Cf{y:Sy}(h:y.ok):(Fl.of y).At y:=⟨h.1,h.2,rfl,rfl,rfl,rfl,rfl,rfl⟩
def Fo:SV->Bool|.word ..=>true|.cnt=>true|_=>false
def Jw:SV->Bool|.eI _=>true|.Fi=>true|.GK=>true|_=>false
def Jx:SV->Bool|.GL=>true|.Qv=>true|_=>false
def Jy:SV->Bool|.now=>true|.Qv=>true|_=>false
theorem SR.re{y y':Sy}{v:SV}{x:Value}(h:SR y v x)(a:y.N=y'.N\/Fo v=false)(b:y.c=y'.c\/Jw v=false)(d:y.ws=y'.ws\/Jx v=false)(e:y.tn=y'.tn\/Jy v=false):SR y' v x:=by cases v<;>simp_all [SR,Fo,Jw,Jx,Jy]
theorem FR.re{y y':Sy}{s:jR}{fr:Frame}(h:FR y s fr)(a:y.N=y'.N\/s.env.all (λv=>!Fo v)=true)(b:y.c=y'.c\/s.env.all (λv=>!Jw v)=true)
 (d:y.ws=y'.ws\/s.env.all (λv=>!Jx v)=true) (e:y.tn=y'.tn\/s.env.all (λv=>!Jy v)=true):FR y' s fr:=by
 have key:∀(u:SV->Bool) (t:Nat),u .bJ=false->s.env.all (λv=>!u v)=true->u (s.env.getD t .bJ)=false:=λu t f g=>by
  rw[List.getD_eq_getElem?_getD];cases q:s.env[t]? with
  |none=>exact f
  |some v=>have:=List.all_eq_true.1 g v (List.mem_of_getElem? q);simpa using this
 exact⟨h.fn,h.todo,h.defers,h.mode,h.kind,h.ro,h.size,λt=>(h.env t).re (a.imp id (key _ t rfl)) (b.imp id (key _ t rfl)) (d.imp id (key _ t rfl)) (e.imp id (key _ t rfl))⟩
theorem mI.ij{y y':Sy}:∀{l:List jR}{fs:List Frame},mI y l fs->l.all (·.env.all plain)=true->mI y' l fs
 |[],fs,h,_=>by rw[h.lF];trivial
 |s::l,fs,h,a=>by obtain⟨f,b,rfl,c,d⟩:=h.cons_inv;simp only[List.all_cons,Bool.and_eq_true]at a;exact⟨c.ij a.1,d.ij a.2⟩
theorem mI.keep{y:Sy}(live:List Nat):∀{l:List jR}{fs:List Frame},mI y l fs->mI y (l.map (Go.aR.keep live)) fs
 |[],fs,h=>by rw[h.lF];trivial
 |s::l,fs,h=>by obtain⟨f,a,rfl,b,c⟩:=h.cons_inv;exact⟨b.keep live,c.keep live⟩
theorem Fp{P:Program}{Wd:World->Prop}{f:Fl}{y:Sy}(i:f.At y):∀(n:Nat){s:jR}{st:List jR}{fr:Frame}{frs:List Frame},FR y s fr->mI y st frs ->
 ∃m b a,FR y (Jt P f n s st).1 b/\mI y (Jt P f n s st).2 a/\∀cs,kI P Wd m (G fr (frs++cs)) (G b (a++cs))
 |0,s,st,fr,frs,g,c=>⟨0,fr,frs,g,c,λ_=>rfl⟩
 | n + 1,s,st,fr,frs,g,c=>by
   unfold Jt;cases e:ss P f s st with
   |none=>exact⟨0,fr,frs,g,c,λ_=>rfl⟩
   | some p=>
     obtain⟨u,o⟩:=p;obtain⟨b,a,j,k,l⟩:=NT i e g c;simp only;split
     . exact⟨1,b,a,j,k,λcs=>⟨_,l cs,rfl⟩⟩
     . obtain⟨m,h,d,q,r,t⟩:=Fp i n j k
       exact⟨m+1,h,d,q,r,λcs=>⟨_,l cs,t cs⟩⟩
section
variable{P:Program}{Wd:World->Prop}{y:Sy}{c c':cQ}{live:List Nat}{v:SV}{x:Value}{fr:Frame}{frs:List Frame}
theorem NZ(e:aN P (Fl.of y) live c v=some c')(f:y.ok)(g:FR y c.1 fr)(d:mI y c.2 frs)(h:SR y v x):
 ∃b a,FR y c'.1 b/\mI y c'.2 a/\∀cs,sB P Wd (G (fr.finish x) (frs++cs)) (G b (a++cs)):=by
 obtain⟨s,i,rfl⟩:=Option.map_eq_some_iff.1 e;obtain⟨m,b,a,j,k,l⟩:=mp (Wd:=Wd) (Fl.Cf f) 400 (P:=P) (g.fin i h) d;exact⟨b,a,j.keep live,k.keep [],λcs=>⟨m,l cs⟩⟩
theorem QQ(e:pS P (Fl.of y) live c v=some c')(f:y.ok)(g:FR y c.1 fr)(d:mI y c.2 frs)(h:SR y v x):
 ∃b a,FR y c'.1 b/\mI y c'.2 a/\∀cs,sB P Wd (G (fr.finish x) (frs++cs)) (G b (a++cs)):=by
 obtain⟨s,i,rfl⟩:=Option.map_eq_some_iff.1 e;obtain⟨m,b,a,j,k,l⟩:=Fp (Wd:=Wd) (Fl.Cf f) 400 (P:=P) (g.fin i h) d;exact⟨b,a,j.keep live,k.keep [],λcs=>⟨m,l cs⟩⟩
theorem QR(e:Qz P (Fl.of y) live c=c')(f:y.ok)(g:FR y c.1 fr)(d:mI y c.2 frs):
 ∃b a,FR y c'.1 b/\mI y c'.2 a/\∀cs,sB P Wd (G fr (frs++cs)) (G b (a++cs)):=by
 subst e;obtain⟨m,b,a,h,i,j⟩:=mp (Wd:=Wd) (Fl.Cf f) 400 (P:=P) g d;exact⟨b,a,h.keep live,i.keep [],λcs=>⟨m,j cs⟩⟩
end
open Mu in
inductive sD where
 |ld|iB|rd (l:Lo)|sq (old:Wd) (l:Lo)|sw (old:Wd) (l:Lo)|kU (old:Wd) (l:Lo)|t1 (sv:Bool)|gY (sv:Bool)|tq|up (sv:Bool)|add (old:Wd) (sv:Bool)|le|la|back
 |Fq|ur|ud|held|jl (old:Wd)|vd|give|ue|Cg
section
variable(P:Program)(n:zd)(b o:Nat)(kind:CallKind)
def DY(p:sD)(c:cQ)(y:Sy):Prop:=
 match p with
 |.ld=>c=LD P n b o kind
 |.iB=>c=tV P n b o kind
 |.rd l=>c=OH P n b o kind l.aw l.sv l.it\/c=Fk P n b o kind l.aw l.sv l.it\/c=OI P n b o kind l.aw l.sv l.it
 |.sq old l=>c=SQ P n b o kind old.K l.aw l.sv l.it/\y.N=old.N/\old.L=true/\old.S=false
 |.sw old l=>c=SW P n b o kind l.it/\y.N=old.N/\l.aw=false/\l.sv=false/\old.L=true/\old.K=false/\old.S=false
 |.kU old l=>c=Ce P n b o kind old.L old.K old.S l.aw l.sv l.it/\y.N=old.N
 |.t1 sv=>c=T1 P n b o kind sv
 |.gY sv=>c=PK P n b o kind sv
 |.tq=>c=TQ P n b o kind
 |.up sv=>c=UP P n b o kind sv
 |.add old sv=>c=AD P n b o kind (if !sv||decide (old.N=1)then -11 else -7)
 |.le=>c=NV P n b o kind\/c=LU P n b o kind
 |.la=>c=NW P n b o kind\/c=NY P n b o kind
 |.back=>c=BK n kind
 |.Fq=>c=U0 P n b o kind
 |.ur=>c=UR P n b o kind
 |.ud=>c=UD P n b o kind
 |.held=>c=rD P n b o kind
 |.jl old=>c=UC P n b o kind/\y.N=old.N/\old.L=false/\old.K=false/\old.S=false/\old.N≠0
 |.vd=>c=LV P n b o kind
 |.give=>c=G7 P n b o kind\/c=G9 P n b o kind
 |.ue=>c=UE P n b o kind
 |.Cg=>c=QH n kind
def oq(p:sD)(cs:List Frame)(g:Goroutine):Prop:=∃c y fr frs,DY P n b o kind p c y/\y.ok/\FR y c.1 fr/\mI y c.2 frs/\g=G fr (frs++cs)
end
theorem oq.running{P:Program}{n:zd}{b o:Nat}{kind:CallKind}{p:sD}{cs:List Frame}{g:Goroutine}(h:oq P n b o kind p cs g):g.status=.running/\g.offers=none:=by obtain⟨c,y,fr,frs,_,_,_,_,rfl⟩:=h;exact⟨rfl,rfl⟩
structure ShM(b o:Nat)(w:World)(s:Mu.Sh):Prop where
 cw:w.cell? ⟨b,o,none⟩=some (.int .i32 (enc s.w.L s.w.K s.w.S s.w.N))
 cs:w.cell? ⟨b,o+1,none⟩=some (.int .u32 s.ms)
 fz:∀i,w.frozen? ⟨b,i,none⟩=false
def MW(b o:Nat)(w w':World):Prop:=(mL w.os w'.os/\w'.output=w.output)/\(w'.heap=w.heap\/∃i v,(i=o\/i=o+1)/\flat v=true/\w'.heap=(w.setCell ⟨b,i,none⟩ v).heap)
def EvM(b o:Nat)(es:Array Event):Prop:=∀e∈es,(e.loc=.mark .disable\/e.loc=.mark .enable)\/(∃i,(i=o\/i=o+1)/\e.loc=.cell ⟨b,i,none⟩/\e.sync=true)
theorem qy{w w':World}(h:w'.heap=w.heap)(a:Addr):w'.cell? a=w.cell? a/\w'.frozen? a=w.frozen? a:=by simp[World.cell?,World.frozen?,h]
theorem ShM.heap{b o:Nat}{w w':World}{s:Mu.Sh}(h:ShM b o w s)(e:w'.heap=w.heap):ShM b o w' s:=⟨by rw[(qy e _).1];exact h.cw,by rw[(qy e _).1];exact h.cs,λi=>by rw[(qy e _).2];exact h.fz i⟩
theorem ko{w:World}{b i:Nat}{u v:Value}(h:w.cell? ⟨b,i,none⟩=some u):(w.setCell ⟨b,i,none⟩ v).cell? ⟨b,i,none⟩=some v:=by
 unfold World.cell? at h ⊢;unfold World.setCell;simp only[Array.getElem?_modify,if_true];cases e:w.heap[b]? with
 |none=>simp[e]at h
 | some d=>
   rw[e]at h;cases d<;>simp at h ⊢;rename_i c _ _;by_cases a:i<c.size
   . simp[a]
   . simp[a]at h
theorem oJ{w:World}{a:Addr}{v:Value}{b i:Nat}:(w.setCell a v).frozen? ⟨b,i,none⟩=w.frozen? ⟨b,i,none⟩:=by
 unfold World.frozen? World.setCell;simp only[Array.getElem?_modify];by_cases h:a.block=b
 . simp only[h,if_true]
   cases e:w.heap[b]? with
   |none=>rfl
   |some c=>cases c<;>simp
 . simp only[h,if_false]
theorem ShM.aL{b o:Nat}{w:World}{s:Mu.Sh}(h:ShM b o w s)(w':Mu.Wd):ShM b o (w.setCell ⟨b,o,none⟩ (.int .i32 (enc w'.L w'.K w'.S w'.N))) {s with w:=w'}:=⟨ko h.cw,by rw[eM (by simp)];exact h.cs,λi=>by rw[oJ];exact h.fz i⟩
theorem ShM.Ec{b o:Nat}{w:World}{s:Mu.Sh}(h:ShM b o w s)(m:Nat):ShM b o (w.setCell ⟨b,o+1,none⟩ (.int .u32 m)) {s with ms:=m}:=⟨by rw[eM (by simp)];exact h.cw,ko h.cs,λi=>by rw[oJ];exact h.fz i⟩
theorem gk{b o:Nat}:EvM b o #[]:=λe h=>by simp at h
theorem Fs{b o i:Nat}(a:i=o\/i=o+1):EvM b o #[⟨.cell ⟨b,i,none⟩,false,true⟩]:=λe h=>by simp at h;subst h;exact .inr ⟨i,a,rfl,rfl⟩
theorem kZ{b o i:Nat}(a:i=o\/i=o+1):EvM b o #[⟨.cell ⟨b,i,none⟩,false,true⟩,⟨.cell ⟨b,i,none⟩,true,true⟩]:=λe h=>by simp at h;rcases h with rfl|rfl<;>exact .inr ⟨i,a,rfl,rfl⟩
theorem vr{b o:Nat}:EvM b o (semEvents ⟨b,o+1,none⟩):=λe h=>by
 simp[semEvents]at h;rcases h with rfl|rfl|rfl|rfl
 . exact .inl (.inl rfl)
 . exact .inr ⟨o+1,.inr rfl,rfl,rfl⟩
 . exact .inr ⟨o+1,.inr rfl,rfl,rfl⟩
 . exact .inl (.inr rfl)
section
variable{P:Program}{n:zd}(C:jf P n)(X:jg P n){b o:Nat}{kind:CallKind}{Wd:World->Prop}{cs:List Frame}{g:Goroutine}{w:World}{main:Bool}
variable(hWd:∀w,Wd w->∃v,w.cell? ⟨b,o,none⟩=some v)
def Next(P:Program)(n:zd)(b o:Nat)(kind:CallKind)(Wd:World->Prop)(cs:List Frame)(p:sD)(a:Goroutine):Prop:=a.status=.running/\∃c,sB P Wd a c/\oq P n b o kind p cs c
theorem nxt{y:Sy}{c c':cQ}{live:List Nat}{v:SV}{x:Value}{fr:Frame}{frs:List Frame}{p:sD}(g:aN P (Fl.of y) live c v=some c')(f:y.ok)(h:FR y c.1 fr)(d:mI y c.2 frs)(i:SR y v x)(j:DY P n b o kind p c' y):
 Next P n b o kind Wd cs p (G (fr.finish x) (frs++cs)):=by
 obtain⟨e,a,k,l,m⟩:=NZ (Wd:=Wd) g f h d i;exact⟨rfl,_,m cs,c',y,e,a,j,f,k,l,rfl⟩
def y0:Sy:=⟨2,2,1,0⟩
theorem sE:y0.ok:=by unfold Sy.ok y0;decide
theorem Ed(h:∃fn body,P.funcs[n.lock]?=some fn/\fn.body=some body/\fn.ntmps=6):∃e,sB P Wd (G (Frame.enter P n.lock #[.pointer (some ⟨b,o,none⟩)] kind) cs) e/\oq P n b o kind .ld cs e:=by
 obtain⟨fn,body,a,i,g⟩:=h
 have j:FR y0 (dP P n.lock [pt b o] kind) (Frame.enter P n.lock #[.pointer (some ⟨b,o,none⟩)] kind):=by
  refine⟨by simp[dP,a,Frame.enter],by simp[dP,a,i,Frame.enter],by simp[dP,a,Frame.enter],by simp[dP,a,Frame.enter,B8.of],by simp[dP,a,Frame.enter],rfl,by simp[dP,a,g,Frame.enter],λt=>?_⟩
  simp only[dP,a,Frame.enter,g,Option.map_some,Option.getD_some]
  match t with
  |0=>rfl
  |1|2|3|4|5=>trivial
  | t+6=>
    have:([pt b o]++List.replicate (6 - [pt b o].length) SV.bJ).getD (t+6) .bJ=.bJ:=by rw[List.getD_eq_getElem?_getD,List.getElem?_eq_none (by simp[pt])];rfl
    rw[this];trivial
 obtain⟨m,d,c,k,l,p⟩:=mp (Wd:=Wd) (P:=P) (f:=lO) (y:=y0) ⟨by decide,by decide,rfl,rfl,rfl,rfl,rfl,by decide⟩ 400 j (st:=[]) (frs:=[]) trivial
 have q:=p cs;exact⟨_,⟨m,q⟩,_,y0,d,c,rfl,sE,k.keep [0],l.keep [],rfl⟩
theorem Jz:∀g:FuncId,Mark.disable≠.extern g:=λg h=>by cases h
theorem JA:∀g:FuncId,Mark.enable≠.extern g:=λg h=>by cases h
include C X in
theorem AC(h:oq P n b o kind .ld cs g):∃d,stepG P main g w=.go d w #[⟨.mark .disable,false,true⟩]/\Next P n b o kind Wd cs .iB d:=by obtain⟨c,y,fr,frs,rfl,f,e,a,rfl⟩:=h;exact⟨_,fD Jz e (C.o1 b o kind).1 (by rw[show(LD P n b o kind).1.kind=_ from(C.o1 b o kind).2];decide) X.jF,nxt (C.e1 _ b o kind) f e a rfl rfl⟩
include C X in
theorem Ft(h:oq P n b o kind .ud cs g):∃d,stepG P main g w=.go d w #[⟨.mark .disable,false,true⟩]/\Next P n b o kind Wd cs .held d:=by obtain⟨c,y,fr,frs,rfl,f,e,a,rfl⟩:=h;exact⟨_,fD Jz e (C.T6 b o kind) (by simp[UD,pn]) X.jF,nxt (C.u4 _ b o kind) f e a rfl rfl⟩
include C X in
theorem Fu(h:oq P n b o kind .ue cs g):∃d,stepG P main g w=.go d w #[⟨.mark .enable,false,true⟩]/\Next P n b o kind Wd cs .Cg d:=by obtain⟨c,y,fr,frs,rfl,f,e,a,rfl⟩:=h;exact⟨_,fD JA e (C.T8 b o kind) (by simp[UE,pn]) X.en,nxt (C.TR _ b o kind) f e a rfl rfl⟩
include C X in
theorem Fv(h:oq P n b o kind .ur cs g):∃d,stepG P main g w=.go d w #[⟨.mark (.releaseMerge ⟨b,o,none⟩),false,true⟩]/\Next P n b o kind Wd cs .ud d:=by obtain⟨c,y,fr,frs,rfl,f,e,a,rfl⟩:=h;exact⟨_,fW (λi g h=>by cases h) e (C.T5 b o kind) (by simp[UR,pn]) X.rel,nxt (C.u3 _ b o kind) f e a rfl rfl⟩
include C X in
theorem Fw(h:oq P n b o kind .la cs g):∃e,stepG P main g w=.go e w #[⟨.mark (.acquire ⟨b,o,none⟩),false,true⟩]/\Next P n b o kind Wd cs .back e:=by
 obtain⟨c,y,fr,frs,i,f,d,a,rfl⟩:=h;rcases i with rfl|rfl
 . exact⟨_,fW (λj g h=>by cases h) d (C.o5 b o kind) (by simp[NW,mY]) X.acq,nxt (C.e6 _ b o kind) f d a rfl rfl⟩
 . exact⟨_,fW (λj g h=>by cases h) d (C.T3 b o kind) (by simp[NY,cN]) X.acq,nxt (C.Ps _ b o kind) f d a rfl rfl⟩
include X hWd in
theorem through{y:Sy}{c c':cQ}{live:List Nat}{fr:Frame}{frs:List Frame}{p:sD}(f:kY c.1=some (n.tM,n.tU,pt b o))(g:aN P (Fl.of y) live c (pt b o)=some c')(h:y.ok)(e:FR y c.1 fr)(d:mI y c.2 frs)(i:DY P n b o kind p c' y):
 ∃a,sB P Wd (G fr (frs++cs)) a/\oq P n b o kind p cs a:=by
 obtain⟨t,j,k,l⟩:=X.T9;obtain⟨_,a,m,q⟩:=nxt (P:=P) (n:=n) (b:=b) (o:=o) (kind:=kind) (Wd:=Wd) (cs:=cs) (x:=.pointer (some ⟨b,o,none⟩)) g h e d rfl i;refine⟨a,sB.trans (rC.yX ⟨rfl,λmain w r=>?_⟩) m,q⟩;exact tR e f j k l (hWd w r)
include C X hWd in
theorem Fx(h:oq P n b o kind .le cs g):∃s,stepG P main g w=.go s w #[⟨.mark .enable,false,true⟩]/\Next P n b o kind Wd cs .la s:=by
 obtain⟨c,y,fr,frs,t,e,f,a,rfl⟩:=h;rcases t with rfl|rfl
 . refine⟨_,fD JA f (C.o3 b o kind) (by simp[NV,mY]) X.en,rfl,?_⟩
   obtain⟨i,d,j,k,l⟩:=NZ (Wd:=Wd) (x:=.tuple #[]) (C.e4 _ b o kind) e f a rfl;obtain⟨m,q,r⟩:=through X hWd (cs:=cs) (p:=.la) (C.o4 b o kind) (C.e5 _ b o kind) e j k (.inl rfl);exact⟨m,(l cs).trans q,r⟩
 . refine⟨_,fD JA f (C.T0 b o kind) (by simp[LU,cN]) X.en,rfl,?_⟩
   obtain⟨i,d,j,k,l⟩:=NZ (Wd:=Wd) (x:=.tuple #[]) (C.TJ _ b o kind) e f a rfl;obtain⟨m,q,r⟩:=through X hWd (cs:=cs) (p:=.la) (C.T2 b o kind) (C.TK _ b o kind) e j k (.inr rfl);exact⟨m,(l cs).trans q,r⟩
include C X hWd in
theorem wB{v:Value}(j:w.cell? ⟨b,o,none⟩=some v)(h:oq P n b o kind .Fq cs g):∃d,stepG P main g w=.go d w #[]/\Next P n b o kind Wd cs .ur d:=by
 obtain⟨c,y,fr,frs,rfl,e,f,a,rfl⟩:=h;refine⟨_,qx f (C.Sz b o kind).1 X.QP (by rw[show(U0 P n b o kind).1.fn=_ from(C.Sz b o kind).2.2];exact X.nU) j,rfl,?_⟩;obtain⟨k,i,l,m,q⟩:=NZ (Wd:=Wd) (x:=v) (C.u1 _ b o kind) e f a trivial;obtain⟨r,s,t⟩:=through X hWd (cs:=cs) (p:=.ur) (C.T4 b o kind) (C.u2 _ b o kind) e l m rfl;exact⟨r,(q cs).trans s,t⟩
include C X in
theorem MF{sv:Bool}(h:oq P n b o kind (.t1 sv) cs g):∃f,stepG P main g w=.go f w.later #[]/\Next P n b o kind Wd cs (.gY sv) f:=by
 obtain⟨c,y,fr,frs,rfl,j,i,d,rfl⟩:=h;refine⟨_,zc i (C.TW b o kind sv) (by simp[T1,cN]) X.nano X.Jv,?_⟩;have e:=i.re (y':={y with ws:=((w.os.mono+w.tick:Nat):Int)}) (.inl rfl) (.inl rfl) (.inr (by cases sv<;>rfl)) (.inl rfl);have a:=d.ij (y':={y with ws:=((w.os.mono+w.tick:Nat):Int)}) (by simpa[T1,cN]using C.p2 b o kind);exact nxt (y:={y with ws:=((w.os.mono+w.tick:Nat):Int)}) (x:=.int .i64 ((w.os.mono+w.tick:Nat):Int)) (C.hQ _ b o kind sv) j e a rfl rfl
end
end Go.aR
