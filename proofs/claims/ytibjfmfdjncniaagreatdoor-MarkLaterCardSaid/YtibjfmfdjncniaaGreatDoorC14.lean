/- Part 14 of the proof. -/
import Derived.Conc.ClockLaws
import Derived.Conc.MarkLaws
import Derived.Conc.AtomicLaws2
import Derived.Conc.SmallLaws
import Derived.Laws.LoneSync
import Derived.Test.YtibjfmfdjncniaaGreatDoorC13
set_option linter.all false
namespace Go.Pal
open Go.Conc
def opAt (s:SFr):Option (FuncId × List SV):=
  match s.mode,s.todo with
  | .run, .inRegion ops (i :: _) :: _=>match ops[i]? with
    | some o=>match swant ops s.env o with
      | some true=>match o.op with
        | .call c=>match c.callee with
          | .value (.func f)=>some (f,c.args.toList.map (sv s.env))
          | _=>none
        | _=>none
      | _=>none
    | none=>none
  | _,_=>none
def ldAt (s:SFr):Option (TypeId × SV):=
  match s.mode,s.todo with
  | .run,.inRegion ops (i :: _) :: _=>match ops[i]? with
    | some o=>match swant ops s.env o with
      | some true=>match o.op with
        | .load t x=>some (t,sv s.env x)
        | _=>none
      | _=>none
    | none=>none
  | _,_=>none
structure Ext (P:Program) (f:FuncId) (e:Array Value->Sem Value):Prop where
  ex:∃ fn,P.funcs[f]? = some fn∧(fn.name ==  "runtime.NumGoroutine")=false∧fn.body.isNone=true∧Extern.findNext fn=none∧Extern.find fn=some e
theorem opAt_form {y:Sy} {s:SFr} {fr:Frame} {f:FuncId} {svs:List SV} (hr:FR y s fr) (h:opAt s=some (f,svs)) :
    ∃ ops i rest kk o as ats,ops[i]? = some o∧Region.wanted o (yielded ops fr.tmps)=true∧o.op = .call { callee:=.value (.func f),args:=as,argTypes:=ats }∧svs=as.toList.map (sv s.env) ∧
      fr=(fr.at ⟨fr.tmps,fr.defers⟩ (.inRegion ops (i :: rest) :: kk))∧∀ v,fr.at ((⟨fr.tmps,fr.defers⟩:Act).put o.dst v) (.inRegion ops rest :: kk)=fr.finish v:=by
  have hr0:=hr;obtain⟨fn,tmps,todo,defs,mode,kind,ro⟩:=fr;obtain⟨h1,h2,h3,h4,h5,h6,h7,h8⟩:=hr;simp only at h1 h2 h3 h4 h5 h6 h7 h8;subst h6;unfold opAt at h;split at h
  . rename_i ops i rest kk hm ht
    rw[hm] at h4;rw[ht] at h2;have h4:mode = .run:=h4;subst h4;subst h2;split at h
    . rename_i o ho
      split at h
      . rename_i hw
        split at h
        . rename_i c hc
          split at h
          . rename_i g hg
            simp only[Option.some.injEq,Prod.mk.injEq] at h;obtain⟨rfl,rfl⟩:=h;obtain⟨callee,args,ats⟩:=c;simp only at hg;subst hg;refine⟨ops,i,rest,kk,o,args,ats,ho,wanted_s hr0 hw,hc,rfl,rfl,fun v=>?_⟩
            simp only[Frame.finish,ho,Option.bind_some,Act.put,Frame.at];cases o.dst <;> rfl
          . cases h
        . cases h
      . cases h
    . cases h
  . cases h
section
variable {P:Program} {main:Bool} {y:Sy} {s:SFr} {fr:Frame} {f:FuncId} {svs:List SV} {cs:List Frame} {w:World}
theorem act_eval {fr:Frame} (x:Operand):(⟨fr.tmps,fr.defers⟩:Act).eval x=fr.eval x:=by cases x <;> rfl
theorem map_of {as:Array Operand} (hr:FR y s fr) {svs:List SV} (h:svs=as.toList.map (sv s.env)):∀ (j:Nat) (v:SV),svs[j]? = some v->∃ x,(as.map (⟨fr.tmps,fr.defers⟩:Act).eval)[j]? = some x∧SR y v x:=fun j v hj=>by
  subst h;rw[List.getElem?_map,Array.getElem?_toList] at hj;obtain⟨x,hx,rfl⟩:=Option.map_eq_some_iff.1 hj;exact⟨fr.eval x,by simp[hx,act_eval],hr.sv x⟩
theorem stop_mark0 {m:Mark} (hm:∀ g,m ≠ .extern g) (hr:FR y s fr) (h:opAt s=some (f,svs)) (hk:s.kind ≠ .early) (he:Ext P f (fun _=>do mark m;pure Extern.Race.none_)):stepG P main (G fr cs) w = .go (G (fr.finish (.tuple #[])) cs) w #[⟨.mark m,false,true⟩]:=by
  obtain⟨ops,i,rest,kk,o,as,ats,h1,h2,h3,h4,h5,h6⟩:=opAt_form hr h;obtain⟨fn,e1,e2,e3,e4,e5⟩:=he.ex;have:=stepG_mark0 (P:=P) (main:=main) (b:=fr) (a:=⟨fr.tmps,fr.defers⟩) (kk:=kk) (cs:=cs) (w:=w) (rest:=rest) m hm h1 h2 (by rw[hr.kind];exact hk) h3 e1 e2 e3 e4 e5
  rw[h6,← h5] at this;exact this
theorem stop_markAt {mk:Addr->Mark} (hm:∀ ad g,mk ad ≠ .extern g) {ad:Addr} (hr:FR y s fr) (h:opAt s=some (f,[.lit (.pointer (some ad))])) (hk:s.kind ≠ .early) (he:Ext P f (Extern.Race.marked mk)):stepG P main (G fr cs) w = .go (G (fr.finish (.tuple #[])) cs) w #[⟨.mark (mk ad),false,true⟩]:=by
  obtain⟨ops,i,rest,kk,o,as,ats,h1,h2,h3,h4,h5,h6⟩:=opAt_form hr h;obtain⟨fn,e1,e2,e3,e4,e5⟩:=he.ex;obtain⟨x,hx,hx'⟩:=map_of hr h4 0 _ rfl;have hx':x = .pointer (some ad):=hx';rw[hx'] at hx;have:=stepG_markAt (P:=P) (main:=main) (b:=fr) (a:=⟨fr.tmps,fr.defers⟩) (kk:=kk) (cs:=cs) (w:=w) (rest:=rest) mk hm h1 h2 (by rw[hr.kind];exact hk) h3 e1 e2 e3 e4 e5 hx
  rw[h6,← h5] at this;exact this
theorem three_of {as:Array Operand} {a b c:SV} (h:[a,b,c]=as.toList.map (sv s.env)):∃ x z u,as=#[x,z,u]∧sv s.env x=a∧sv s.env z=b∧sv s.env u=c:=by
  obtain⟨l⟩:=as
  match l,h with
  | [x,z,u],h=>simp at h;exact⟨x,z,u,rfl,h.1.symm,h.2.1.symm,h.2.2.symm⟩
theorem two_of {as:Array Operand} {a b:SV} (h:[a,b]=as.toList.map (sv s.env)):∃ x z,as=#[x,z]∧sv s.env x=a∧sv s.env z=b:=by
  obtain⟨l⟩:=as
  match l,h with
  | [x,z],h=>simp at h;exact⟨x,z,rfl,h.1.symm,h.2.symm⟩
theorem one_of {as:Array Operand} {a:SV} (h:[a]=as.toList.map (sv s.env)):∃ x,as=#[x]∧sv s.env x=a:=by
  obtain⟨l⟩:=as
  match l,h with
  | [x],h=>simp at h;exact⟨x,rfl,h.symm⟩
theorem eval_of (hr:FR y s fr) {x:Operand} {a:SV} (h:sv s.env x=a):SR y a ((⟨fr.tmps,fr.defers⟩:Act).eval x):=by
  subst h;rw[act_eval];exact hr.sv x
theorem stop_cas_hit {k:IntKind} {ad:Addr} {a b:SV} {v n:Int} (hr:FR y s fr) (h:opAt s=some (f,[.lit (.pointer (some ad)),a,b])) (hk:s.kind ≠ .early) (he:Ext P f (Extern.Atomic.casT (.int k)))
    (ha:∀ x,SR y a x->x = .int k v) (hb:∀ x,SR y b x->x = .int k n) (hc:w.cell? ad=some (.int k v)) (hz:w.frozen? ad=false) :
    stepG P main (G fr cs) w = .go (G (fr.finish (.bool true)) cs) (w.setCell ad (.int k n)) #[⟨.cell ad,false,true⟩,⟨.cell ad,true,true⟩]:=by
  obtain⟨ops,i,rest,kk,o,as,ats,h1,h2,h3,h4,h5,h6⟩:=opAt_form hr h;obtain⟨fn,e1,e2,e3,e4,e5⟩:=he.ex;obtain⟨x,z,u,rfl,hx,hz',hu⟩:=three_of h4;have:=stepG_cas_hit (P:=P) (main:=main) (b:=fr) (a:=⟨fr.tmps,fr.defers⟩) (kk:=kk) (cs:=cs) (w:=w) (rest:=rest) h1 h2 (by rw[hr.kind];exact hk) h3 e1 e2 e3 e4 k e5 (eval_of hr hx) (ha _ (eval_of hr hz')) (hb _ (eval_of hr hu)) hc hz
  rw[h6,← h5] at this;exact this
theorem stop_cas_miss {k:IntKind} {ad:Addr} {a b:SV} {v old n:Int} (hr:FR y s fr) (h:opAt s=some (f,[.lit (.pointer (some ad)),a,b])) (hk:s.kind ≠ .early) (he:Ext P f (Extern.Atomic.casT (.int k)))
    (ha:∀ x,SR y a x->x = .int k old) (hb:∀ x,SR y b x->x = .int k n) (hc:w.cell? ad=some (.int k v)) (hz:w.frozen? ad=false) (hne : ¬ v=old) :
    stepG P main (G fr cs) w = .go (G (fr.finish (.bool false)) cs) w #[⟨.cell ad,false,true⟩]:=by
  obtain⟨ops,i,rest,kk,o,as,ats,h1,h2,h3,h4,h5,h6⟩:=opAt_form hr h;obtain⟨fn,e1,e2,e3,e4,e5⟩:=he.ex;obtain⟨x,z,u,rfl,hx,hz',hu⟩:=three_of h4;have:=stepG_cas_miss (P:=P) (main:=main) (b:=fr) (a:=⟨fr.tmps,fr.defers⟩) (kk:=kk) (cs:=cs) (w:=w) (rest:=rest) h1 h2 (by rw[hr.kind];exact hk) h3 e1 e2 e3 e4 k e5 (eval_of hr hx) (ha _ (eval_of hr hz')) (hb _ (eval_of hr hu)) hc hz hne
  rw[h6,← h5] at this;exact this
theorem stop_add {k:IntKind} {ad:Addr} {a:SV} {v d:Int} (hr:FR y s fr) (h:opAt s=some (f,[.lit (.pointer (some ad)),a])) (hk:s.kind ≠ .early) (he:Ext P f (Extern.Atomic.update (Op.intArith .add) k true))
    (ha:∀ x,SR y a x->x = .int k d) (hc:w.cell? ad=some (.int k v)) (hz:w.frozen? ad=false) :
    stepG P main (G fr cs) w = .go (G (fr.finish (.int k (k.wrap (v+d)))) cs) (w.setCell ad (.int k (k.wrap (v+d)))) #[⟨.cell ad,false,true⟩,⟨.cell ad,true,true⟩]:=by
  obtain⟨ops,i,rest,kk,o,as,ats,h1,h2,h3,h4,h5,h6⟩:=opAt_form hr h;obtain⟨fn,e1,e2,e3,e4,e5⟩:=he.ex;obtain⟨x,z,rfl,hx,hz'⟩:=two_of h4;have:=stepG_add_atomic (P:=P) (main:=main) (b:=fr) (a:=⟨fr.tmps,fr.defers⟩) (kk:=kk) (cs:=cs) (w:=w) (rest:=rest) h1 h2 (by rw[hr.kind];exact hk) h3 e1 e2 e3 e4 k e5 (eval_of hr hx) (ha _ (eval_of hr hz')) hc hz
  rw[h6,← h5] at this;exact this
theorem stop_acquire {ad:Addr} {l:List SV} {n:Int} (hr:FR y s fr) (h:opAt s=some (f,.lit (.pointer (some ad)) :: l)) (hk:s.kind ≠ .early) (he:Ext P f Extern.Sync.semacquire) (hc:w.cell? ad=some (.int .u32 n)) (hn:n≠0) (hz:w.frozen? ad=false) :
    stepG P main (G fr cs) w = .go (G (fr.finish (.tuple #[])) cs) (w.setCell ad (.int .u32 (n-1))) (semEvents ad):=by
  obtain⟨ops,i,rest,kk,o,as,ats,h1,h2,h3,h4,h5,h6⟩:=opAt_form hr h;obtain⟨fn,e1,e2,e3,e4,e5⟩:=he.ex;obtain⟨x,hx,hx'⟩:=map_of hr h4 0 _ rfl;have hx':x = .pointer (some ad):=hx';rw[hx'] at hx;have:=stepG_semacquire (P:=P) (main:=main) (b:=fr) (a:=⟨fr.tmps,fr.defers⟩) (kk:=kk) (cs:=cs) (w:=w) (rest:=rest) h1 h2 (by rw[hr.kind];exact hk) h3 e1 e2 e3 e4 e5 hx hc hn hz
  rw[h6,← h5] at this;exact this
theorem stop_wait {ad:Addr} {l:List SV} (hr:FR y s fr) (h:opAt s=some (f,.lit (.pointer (some ad)) :: l)) (he:Ext P f Extern.Sync.semacquire) (hc:w.cell? ad=some (.int .u32 0)) :
    stepG P main (G fr cs) w = .go { G fr cs with status:=.blocked } w #[]:=by
  obtain⟨ops,i,rest,kk,o,as,ats,h1,h2,h3,h4,h5,h6⟩:=opAt_form hr h;obtain⟨fn,e1,e2,e3,e4,e5⟩:=he.ex;obtain⟨x,hx,hx'⟩:=map_of hr h4 0 _ rfl;have hx':x = .pointer (some ad):=hx';rw[hx'] at hx;have:=stepG_semacquire_wait (P:=P) (main:=main) (b:=fr) (a:=⟨fr.tmps,fr.defers⟩) (kk:=kk) (cs:=cs) (w:=w) (rest:=rest) h1 h2 h3 e1 e2 e3 e4 e5 hx hc;rw[← h5] at this;exact this
theorem stop_release {ad:Addr} {l:List SV} {n:Int} (hr:FR y s fr) (h:opAt s=some (f,.lit (.pointer (some ad)) :: l)) (hk:s.kind ≠ .early) (he:Ext P f Extern.Sync.semrelease) (hc:w.cell? ad=some (.int .u32 n)) (hz:w.frozen? ad=false) :
    stepG P main (G fr cs) w = .go (G (fr.finish (.tuple #[])) cs) (w.setCell ad (.int .u32 (IntKind.u32.wrap (n+1)))) (semEvents ad):=by
  obtain⟨ops,i,rest,kk,o,as,ats,h1,h2,h3,h4,h5,h6⟩:=opAt_form hr h;obtain⟨fn,e1,e2,e3,e4,e5⟩:=he.ex;obtain⟨x,hx,hx'⟩:=map_of hr h4 0 _ rfl;have hx':x = .pointer (some ad):=hx';rw[hx'] at hx;have:=stepG_semrelease (P:=P) (main:=main) (b:=fr) (a:=⟨fr.tmps,fr.defers⟩) (kk:=kk) (cs:=cs) (w:=w) (rest:=rest) h1 h2 (by rw[hr.kind];exact hk) h3 e1 e2 e3 e4 e5 hx hc hz
  rw[h6,← h5] at this;exact this
theorem stop_nano (hr:FR y s fr) (h:opAt s=some (f,svs)) (hk:s.kind ≠ .early) (he:Ext P f Extern.OsHooks.nano) (hq:∃ fn,P.funcs[f]? = some fn∧fn.norace=true) :
    stepG P main (G fr cs) w = .go (G (fr.finish (.int .i64 ((w.os.mono+w.tick:Nat):Int))) cs) w.later #[]:=by
  obtain⟨ops,i,rest,kk,o,as,ats,h1,h2,h3,h4,h5,h6⟩:=opAt_form hr h;obtain⟨fn,e1,e2,e3,e4,e5⟩:=he.ex;obtain⟨fn',q1,e6⟩:=hq;obtain rfl:fn'=fn:=by rw[q1] at e1;exact Option.some.inj e1
  have:=stepG_nanotime (P:=P) (main:=main) (b:=fr) (a:=⟨fr.tmps,fr.defers⟩) (kk:=kk) (cs:=cs) (w:=w) (rest:=rest) h1 h2 (by rw[hr.kind];exact hk) h3 e1 e2 e3 e4 e5 e6
  rw[h6,← h5] at this;exact this
theorem stop_spin {n:Int} (hr:FR y s fr) (h:opAt s=some (f,[.lit (.int .i64 n)])) (hk:s.kind ≠ .early) (he:Ext P f Extern.Sync.canSpin) :
    ∃ b w',stepG P main (G fr cs) w = .go (G (fr.finish (.bool b)) cs) w' #[]∧(b=true->n<4)∧(w'=w∨w'=w.asked):=by
  obtain⟨ops,i,rest,kk,o,as,ats,h1,h2,h3,h4,h5,h6⟩:=opAt_form hr h;obtain⟨fn,e1,e2,e3,e4,e5⟩:=he.ex;obtain⟨x,rfl,hx⟩:=one_of h4;have hx':(⟨fr.tmps,fr.defers⟩:Act).eval x = .int .i64 n:=eval_of hr hx
  by_cases h4:n<4
  . have:=stepG_canSpin_ask (P:=P) (main:=main) (b:=fr) (a:=⟨fr.tmps,fr.defers⟩) (kk:=kk) (cs:=cs) (w:=w) (rest:=rest) h1 h2 (by rw[hr.kind];exact hk) h3 e1 e2 e3 e4 e5 (n:=n) (k:=.i64) (by simp[hx']) h4
    rw[h6,← h5] at this;exact⟨_,_,this,fun _=>h4,.inr rfl⟩
  . have:=stepG_canSpin_no (P:=P) (main:=main) (b:=fr) (a:=⟨fr.tmps,fr.defers⟩) (kk:=kk) (cs:=cs) (w:=w) (rest:=rest) h1 h2 (by rw[hr.kind];exact hk) h3 e1 e2 e3 e4 e5 (n:=n) (k:=.i64) (by simp[hx']) (by omega)
    rw[h6,← h5] at this;exact⟨_,_,this,(fun e=>by cases e),.inl rfl⟩
theorem stop_pure {v:Value} (hr:FR y s fr) (h:opAt s=some (f,svs)) (hk:s.kind ≠ .early) (he:Ext P f (fun _=>pure v)):stepG P main (G fr cs) w = .go (G (fr.finish v) cs) w #[]:=by
  obtain⟨ops,i,rest,kk,o,as,ats,h1,h2,h3,h4,h5,h6⟩:=opAt_form hr h;obtain⟨fn,e1,e2,e3,e4,e5⟩:=he.ex;have:=stepG_entry (P:=P) (main:=main) (b:=fr) (a:=⟨fr.tmps,fr.defers⟩) (kk:=kk) (cs:=cs) (w:=w) (rest:=rest) (v:=v) (w':=w) (evs:=#[]) h1 h2 (by rw[hr.kind];exact hk) h3 e1 e2 e3 e4 e5 (by simp) (by simp) (by simp)
  rw[h6,← h5] at this;exact this
theorem runT_pur {α β:Type} {P:Program} {f:α->Sem β} (s:Sem α):∀ {a:α},pur P s=some a->∀ w es,(s.bind f).runT P w es=(f a).runT P w es:=by
  induction s with
  | pure b=>intro a h w es;simp only[pur,Option.some.injEq] at h;subst h;rfl
  | program g ih=>intro a h w es;simp only[pur] at h;exact ih P h w es
  | _=>intro a h;simp[pur] at h
theorem stop_load {t:Nat} {ad:Addr} {v:Value} (hr:FR y s fr) (h:ldAt s=some (t,.lit (.pointer (some ad)))) (ha:pur P (isAgg t)=some false) (hn:∃ fn,P.funcs[s.fn]? = some fn∧fn.norace=true) (hc:w.cell? ad=some v) :
    stepG P main (G fr cs) w = .go (G (fr.finish v) cs) w #[]:=by
  have hr0:=hr;obtain⟨fn,tmps,todo,defs,mode,kind,ro⟩:=fr;obtain⟨h1,h2,h3,h4,h5,h6,h7,h8⟩:=hr;simp only at h1 h2 h3 h4 h5 h6 h7 h8;subst h6;unfold ldAt at h;split at h
  . rename_i ops i' rest kk hm ht'
    rw[hm] at h4;rw[ht'] at h2;have h4:mode = .run:=h4;subst h4;subst h2;split at h
    . rename_i o ho
      split at h
      . rename_i hw
        split at h
        . rename_i t' x hop
          simp only[Option.some.injEq,Prod.mk.injEq] at h;obtain⟨rfl,hx⟩:=h;have hx':=hr0.sv x;rw[hx] at hx';have hx':Frame.eval ⟨fn,tmps,.inRegion ops (i' :: rest) :: kk,defs,.run,kind,none⟩ x = .pointer (some ad):=hx';obtain⟨fn',hf1,hf2⟩:=hn;subst h1;rw[stepG_op0 ho (wanted_s hr0 hw)];have hex:execOp (Frame.eval ⟨s.fn,tmps,.inRegion ops (i' :: rest) :: kk,defs,.run,kind,none⟩) o=Sem.bind (Instr.loadAt t' (.pointer (some ad))) (fun v=>pure (Next.value v)):=by simp only[execOp,hop,hx'];rfl
          have hload:(Sem.bind (Instr.loadAt t' (.pointer (some ad))) (fun v=>(pure (Next.value v):Sem Next))).runT P w #[]=(.ok (.value v) w,#[⟨.cell ad,false,false⟩]):=by
            have e0:Instr.loadAt t' (.pointer (some ad))=Sem.bind (isAgg t') (fun b=>if b=true then Sem.bind (sizeOf t') (fun n=>Sem.bind (loadCells ad n) (fun c=>pure (.agg c))) else load ad):=rfl
            rw[e0]
            have e1:Sem.bind (Sem.bind (isAgg t') (fun b=>if b=true then Sem.bind (sizeOf t') (fun n=>Sem.bind (loadCells ad n) (fun c=>pure (.agg c))) else load ad)) (fun v=>(pure (Next.value v):Sem Next)) =
                Sem.bind (isAgg t') (fun b=>Sem.bind (if b=true then Sem.bind (sizeOf t') (fun n=>Sem.bind (loadCells ad n) (fun c=>pure (.agg c))) else load ad) (fun v=>(pure (Next.value v):Sem Next))):=bind_assoc (m:=Sem) _ _ _
            rw[e1,runT_pur _ ha];show (Sem.bind (load ad) (fun v=>(pure (Next.value v):Sem Next))).runT P w #[]=_
            unfold load;show Sem.runT P (Sem.load .plain ad fun v=>pure (Next.value v)) w #[]=_
            simp only[Sem.runT,hc];rfl
          rw[hex]
          have hq:seen P s.fn #[⟨.cell ad,false,false⟩]=#[]:=by
            rw[seen_def];simp[hf1,hf2,seenStep]
          simp only[stepG.apply,if_true,hload,GStep.after]
          by_cases hk:(kind == CallKind.early)=true
          . simp[hk,seen_none',G]
          . simp[hk,hq,G]
        . cases h
      . cases h
    . cases h
  . cases h
def cvAt (s:SFr):Option (TypeId × TypeId × SV):=
  match s.mode,s.todo with
  | .run,.inRegion ops (i :: _) :: _=>match ops[i]? with
    | some o=>match swant ops s.env o with
      | some true=>match o.op with
        | .convert a b x=>some (a,b,sv s.env x)
        | _=>none
      | _=>none
    | none=>none
  | _,_=>none
theorem stop_conv {a b t:TypeId} {ad:Addr} (hr:FR y s fr) (h:cvAt s=some (a,b,.lit (.pointer (some ad)))) (h1:P.underlying a=some (.pointer t)) (h2:P.underlying b=some .unsafePointer) (h3:(P.info? t).map (fun i=>decide (i.size=0))=some false) (hc:∃ v,w.cell? ad=some v) :
    stepG P main (G fr cs) w = .go (G (fr.finish (.pointer (some ad))) cs) w #[]:=by
  obtain⟨v,hc⟩:=hc;have hr0:=hr;obtain⟨fn,tmps,todo,defs,mode,kind,ro⟩:=fr;obtain⟨g1,g2,g3,g4,g5,g6,g7,g8⟩:=hr;simp only at g1 g2 g3 g4 g5 g6 g7 g8;subst g6;unfold cvAt at h;split at h
  . rename_i ops i' rest kk hm ht'
    rw[hm] at g4;rw[ht'] at g2;have g4:mode = .run:=g4;subst g4;subst g2;split at h
    . rename_i o ho
      split at h
      . rename_i hw
        split at h
        . rename_i a' b' x hop
          simp only[Option.some.injEq,Prod.mk.injEq] at h;obtain⟨rfl,rfl,hx⟩:=h;have hx':=hr0.sv x;rw[hx] at hx';have hx':Frame.eval ⟨fn,tmps,.inRegion ops (i' :: rest) :: kk,defs,.run,kind,none⟩ x = .pointer (some ad):=hx';rw[stepG_op0 ho (wanted_s hr0 hw)];have hex:execOp (Frame.eval ⟨fn,tmps,.inRegion ops (i' :: rest) :: kk,defs,.run,kind,none⟩) o=(do pure (.value (← convert a' b' (.pointer (some ad)))):Sem Next):=by simp only[execOp,hop,hx']
          have e1:=run_convert_to_unsafe h1 h2 h3 hc;have e2:=events_convert_to_unsafe h1 h2 h3 hc #[];rw[hex];simp[stepG.apply,e1,e2,GStep.after,seen_none',G,Result.andThen,Result.evThen]
        . cases h
      . cases h
    . cases h
  . cases h
end
def sEnter (P:Program) (f:FuncId) (args:List SV) (kind:CallKind):SFr:=
  match P.funcs[f]? with
  | some fn=>⟨f,[.code (fn.body.getD .skip)],args ++ List.replicate (fn.ntmps-args.length) .junk,[],.run,kind⟩
  | none=>⟨f,[],args,[],.run,kind⟩
abbrev Cfg:=SFr × List SFr
def next (P:Program) (fl:Fl) (c:Cfg) (v:SV):Cfg:=match sfin c.1 v with|some s=>sgo P fl 400 s c.2|none=>c
def pt (b o:Nat):SV:=.lit (.pointer (some ⟨b,o,none⟩))
def un:SV:=.lit (.tuple #[])
def tt:SV:=.lit (.bool true)
def ff:SV:=.lit (.bool false)
def keepE (live:List Nat) (env:List SV):List SV:=(List.range env.length).zipWith (fun i v=>if live.contains i then v else .junk) env
def keep (live:List Nat) (s:SFr):SFr:={ s with env:=keepE live s.env }
def sets (env:List SV):List (Nat × SV)->List SV
  | []=>env
  | (i,v) :: l=>sets (env.set i v) l
theorem FR.keep {y:Sy} {s:SFr} {fr:Frame} (h:FR y s fr) (live:List Nat):FR y (keep live s) fr:=by
  refine⟨h.fn,h.todo,h.defers,h.mode,h.kind,h.ro,?_,fun t=>?_⟩
  . rw[h.size]
    show s.env.length=(keepE live s.env).length;rw[keepE,List.length_zipWith,List.length_range,Nat.min_self]
  . have:=h.env t
    simp only[Go.Pal.keep,keepE];rw[List.getD_eq_getElem?_getD,List.getElem?_zipWith]
    by_cases ht:t<s.env.length
    . rw[List.getElem?_range ht,List.getElem?_eq_getElem ht]
      simp only[Option.getD_some];split
      . rw[List.getD_eq_getElem?_getD,List.getElem?_eq_getElem ht] at this
        exact this
      . trivial
    . rw[List.getElem?_eq_none (by rw[List.length_range];exact Nat.le_of_not_lt ht)]
      trivial
def plain:SV->Bool
  | .junk=>true
  | .lit _=>true
  | _=>false
theorem FR.resym {y y':Sy} {s:SFr} {fr:Frame} (h:FR y s fr) (hp:s.env.all plain=true):FR y' s fr:=by
  refine⟨h.fn,h.todo,h.defers,h.mode,h.kind,h.ro,h.size,fun t=>?_⟩
  have h1:=h.env t
  have h2:plain (s.env.getD t .junk)=true:=by
    rw[List.getD_eq_getElem?_getD];cases q:s.env[t]? with
    | none=>rfl
    | some v=>exact List.all_eq_true.1 hp v (List.mem_of_getElem? q)
  generalize s.env.getD t .junk=v at *;cases v <;> simp_all [plain,SR]
structure MuN where
  lock:Nat
  unlock:Nat
  ilock:Nat
  iunlock:Nat
  slow:Nat
  uslow:Nat
  dis:Nat
  en:Nat
  acq:Nat
  rel:Nat
  cas:Nat
  add:Nat
  spin:Nat
  dospin:Nat
  nano:Nat
  sem:Nat
  semr:Nat
  tM:Nat
  tU:Nat
  tI:Nat
def cshape (c:Cfg):List Nat:=[c.1.fn,c.1.todo.length,(match c.1.todo with | .inRegion ops (i :: _) :: _=>i|_=>999),(match opAt c.1 with|some (f,_)=>f|none=>match ldAt c.1 with|some (t,_)=>1000+t|none=>999)] ++ c.2.map (·.fn)
def fl0:Fl:=⟨false,false,false,false,false,false⟩
def sgoH (P:Program) (f:Fl):Nat->SFr->List SFr->Cfg
  | 0,fr,st=>(fr,st)
  | n + 1,fr,st=>match ss P f fr st with
    | some (fr',st')=>match fr'.todo with
      | .code _ :: .inLoop _ :: _=>(fr',st')
      | _=>sgoH P f n fr' st'
    | none=>(fr,st)
def maskC (live:List Nat) (c:Cfg):Cfg:=(keep live c.1,c.2.map (keep []))
def nextM (P:Program) (fl:Fl) (live:List Nat) (c:Cfg) (v:SV):Option Cfg:=(sfin c.1 v).map fun s=>maskC live (sgo P fl 400 s c.2)
def nextH (P:Program) (fl:Fl) (live:List Nat) (c:Cfg) (v:SV):Option Cfg:=(sfin c.1 v).map fun s=>maskC live (sgoH P fl 400 s c.2)
def goM (P:Program) (fl:Fl) (live:List Nat) (c:Cfg):Cfg:=maskC live (sgo P fl 400 c.1 c.2)
def bl (x:Bool):SV:=.lit (.bool x)
def i64 (n:Int):SV:=.lit (.int .i64 n)
def i32 (n:Int):SV:=.lit (.int .i32 n)
def jk (n:Nat):List SV:=List.replicate n .junk
section
variable (P:Program) (n:MuN) (b o:Nat) (kind:CallKind)
def wf:SV:=.word false false false 0
def wl:SV:=.word true false false 0
def rLd:Cfg:=maskC [0] (sgo P fl0 400 (sEnter P n.lock [pt b o] kind) [])
def rFast:Cfg:=next P fl0 (rLd P n b o kind) un
def rLe1:Cfg:=next P fl0 (rFast P n b o kind) tt
def rCv1:Cfg:=next P fl0 (rLe1 P n b o kind) un
def rLa1:Cfg:=next P fl0 (rCv1 P n b o kind) (pt b o)
def rRd0:Cfg:=next P fl0 (rFast P n b o kind) ff
def rHd:Cfg:=(nextH P fl0 [] (rRd0 P n b o kind) wf).getD (rRd0 P n b o kind)
def rSq:Cfg:=next P fl0 (rRd0 P n b o kind) wl
def rSw:Cfg:=next P fl0 (rSq P n b o kind) tt
def rDs:Cfg:=next P fl0 (rSw P n b o kind) tt
def rRd1:Cfg:=next P fl0 (rDs P n b o kind) un
def rCas:Cfg:=next P fl0 (rSq P n b o kind) ff
def rRd2:Cfg:=next P fl0 (rCas P n b o kind) ff
def rLe2:Cfg:=next P fl0 (next P fl0 (rRd0 P n b o kind) wf) tt
def rCv2:Cfg:=next P fl0 (rLe2 P n b o kind) un
def rLa2:Cfg:=next P fl0 (rCv2 P n b o kind) (pt b o)
def rT1:Cfg:=next P fl0 (rCas P n b o kind) tt
def rPk:Cfg:=next P fl0 (rT1 P n b o kind) .wst
def rTq:Cfg:=next P fl0 (rPk P n b o kind) un
def rUp:Cfg:=next P fl0 (rTq P n b o kind) .now
def rAd:Cfg:=next P fl0 (rUp P n b o kind) (.word false false true 0)
def stL:List SFr:=(rLd P n b o kind).2
def stS:List SFr:=(rRd0 P n b o kind).2.map (keep [])
def ilockAt (td:List Item) (l:List (Nat × SV)):Cfg:=(⟨n.ilock,td,sets (jk 13) l,[],.run,.normal⟩,stL P n b o kind)
def slowAt (td:List Item) (l:List (Nat × SV)):Cfg:=(⟨n.slow,td,sets (jk 139) l,[],.run,.normal⟩,stS P n b o kind)
def LD:Cfg:=rLd P n b o kind
def FAST:Cfg:=ilockAt P n b o kind (rFast P n b o kind).1.todo [(0,pt b o),(5,pt b o)]
def LE1:Cfg:=ilockAt P n b o kind (rLe1 P n b o kind).1.todo [(0,pt b o)]
def CV1:Cfg:=ilockAt P n b o kind (rCv1 P n b o kind).1.todo [(8,pt b o)]
def LA1:Cfg:=ilockAt P n b o kind (rLa1 P n b o kind).1.todo [(9,pt b o)]
def BK:Cfg:=(⟨n.lock,[],jk 6,[],.ret,kind⟩,[])
def los (aw sv:Bool) (it:Int):List (Nat × SV):=[(0,pt b o),(2,.wst),(3,bl sv),(4,bl aw),(5,i64 it)]
def RDI:Cfg:=slowAt P n b o kind (rRd0 P n b o kind).1.todo [(0,pt b o),(2,i64 0),(3,ff),(4,ff),(5,i64 0),(12,pt b o)]
def RD0 (aw sv:Bool) (it:Int):Cfg:=slowAt P n b o kind (rRd0 P n b o kind).1.todo (los b o aw sv it ++ [(12,pt b o)])
def RD1 (aw sv:Bool) (it:Int):Cfg:=slowAt P n b o kind (rRd1 P n b o kind).1.todo (los b o aw sv it ++ [(47,pt b o)])
def RD2 (aw sv:Bool) (it:Int):Cfg:=slowAt P n b o kind (rRd2 P n b o kind).1.todo (los b o aw sv it ++ [(133,pt b o)])
def HD (L K S aw sv:Bool) (it:Int):Cfg:=slowAt P n b o kind (rHd P n b o kind).1.todo (los b o aw sv it ++ [(6,.word L K S 0)])
def SQ (K aw sv:Bool) (it:Int):Cfg:=slowAt P n b o kind (rSq P n b o kind).1.todo (los b o aw sv it ++ [(6,.word true K false 0),(17,tt),(18,i64 it)])
def SW (it:Int):Cfg:=slowAt P n b o kind (rSw P n b o kind).1.todo (los b o false false it ++ [(33,tt),(36,pt b o),(37,.word true false false 0),(39,.word true true false 0)])
def DS (aw sv:Bool) (it:Int):Cfg:=slowAt P n b o kind (rDs P n b o kind).1.todo (los b o aw sv it)
def wNew (L K S aw sv:Bool):SV:=.word (L || !S) (if aw then false else K) (S || (sv && L)) (if L || S then 1 else 0)
def CAS (L K S aw sv:Bool) (it:Int):Cfg:=slowAt P n b o kind (rCas P n b o kind).1.todo (los b o aw sv it ++ [(6,.word L K S 0),(77,pt b o),(78,.word L K S 0),(79,wNew L K S aw sv)])
def T1 (sv:Bool):Cfg:=slowAt P n b o kind (rT1 P n b o kind).1.todo [(0,pt b o),(3,bl sv)]
def PK (sv:Bool):Cfg:=slowAt P n b o kind (rPk P n b o kind).1.todo [(0,pt b o),(2,.wst),(3,bl sv),(91,pt b (o+1))]
def TQ:Cfg:=slowAt P n b o kind (rTq P n b o kind).1.todo [(0,pt b o),(2,.wst),(95,ff)]
def UP (sv:Bool):Cfg:=slowAt P n b o kind (rUp P n b o kind).1.todo [(0,pt b o),(2,.wst),(3,bl sv),(103,pt b o)]
def AD (d:Int):Cfg:=slowAt P n b o kind (rAd P n b o kind).1.todo [(0,pt b o),(128,pt b o),(129,i32 d)]
def LE2:Cfg:=slowAt P n b o kind (rLe2 P n b o kind).1.todo [(0,pt b o)]
def CV2:Cfg:=slowAt P n b o kind (rCv2 P n b o kind).1.todo [(136,pt b o)]
def LA2:Cfg:=slowAt P n b o kind (rLa2 P n b o kind).1.todo [(137,pt b o)]
def rU0:Cfg:=maskC [0,5] (sgo P fl0 400 (sEnter P n.unlock [pt b o] kind) [])
def rCvU:Cfg:=next P fl0 (rU0 P n b o kind) .junk
def rUr:Cfg:=next P fl0 (rCvU P n b o kind) (pt b o)
def rUd:Cfg:=next P fl0 (rUr P n b o kind) un
def rHeld:Cfg:=next P fl0 (rUd P n b o kind) un
def rUe:Cfg:=next P { fl0 with n0:=true } (rHeld P n b o kind) wf
def rUc:Cfg:=next P fl0 (rHeld P n b o kind) wf
def rG9:Cfg:=next P fl0 (rHeld P n b o kind) (.word false false true 0)
def rG7:Cfg:=next P fl0 (rUc P n b o kind) tt
def rUrd:Cfg:=next P fl0 (rUc P n b o kind) ff
def stU:List SFr:=(rU0 P n b o kind).2
def stV:List SFr:=(rUc P n b o kind).2.map (keep [])
def iulAt (td:List Item) (l:List (Nat × SV)):Cfg:=(⟨n.iunlock,td,sets (jk 21) l,[],.run,.normal⟩,stU P n b o kind)
def uslAt (td:List Item) (l:List (Nat × SV)):Cfg:=(⟨n.uslow,td,sets (jk 43) l,[],.run,.normal⟩,stV P n b o kind)
def U0:Cfg:=rU0 P n b o kind
def CVU:Cfg:=iulAt P n b o kind (rCvU P n b o kind).1.todo [(0,pt b o),(7,pt b o)]
def UR:Cfg:=iulAt P n b o kind (rUr P n b o kind).1.todo [(0,pt b o),(8,pt b o)]
def UD:Cfg:=iulAt P n b o kind (rUd P n b o kind).1.todo [(0,pt b o)]
def HELD:Cfg:=iulAt P n b o kind (rHeld P n b o kind).1.todo [(0,pt b o),(13,pt b o),(14,.junk)]
def UE:Cfg:=iulAt P n b o kind (rUe P n b o kind).1.todo []
def UC:Cfg:=uslAt P n b o kind (rUc P n b o kind).1.todo [(0,pt b o),(27,pt b o),(28,wf),(29,.word false true false (-1))]
def G7:Cfg:=uslAt P n b o kind (rG7 P n b o kind).1.todo [(33,pt b (o+1))]
def G9:Cfg:=uslAt P n b o kind (rG9 P n b o kind).1.todo [(41,pt b (o+1))]
def URD:Cfg:=uslAt P n b o kind (rUrd P n b o kind).1.todo [(0,pt b o),(37,pt b o)]
def BKU:Cfg:=(⟨n.unlock,[],jk 6,[],.ret,kind⟩,[])
end
structure MuChk (P:Program) (n:MuN):Prop where
  e1:∀ (fl:Fl) b o kind,nextM P fl [0,5] (LD P n b o kind) un=some (FAST P n b o kind)
  e2:∀ (fl:Fl) b o kind,nextM P fl [0] (FAST P n b o kind) tt=some (LE1 P n b o kind)
  e3:∀ (fl:Fl) b o kind,nextM P fl [0,2,3,4,5,12] (FAST P n b o kind) ff=some (RDI P n b o kind)
  e4:∀ (fl:Fl) b o kind,nextM P fl [8] (LE1 P n b o kind) un=some (CV1 P n b o kind)
  e5:∀ (fl:Fl) b o kind,nextM P fl [9] (CV1 P n b o kind) (pt b o)=some (LA1 P n b o kind)
  e6:∀ (fl:Fl) b o kind,nextM P fl [] (LA1 P n b o kind) un=some (BK n kind)
  e70:∀ (fl:Fl) b o kind L K S aw sv it,nextH P fl [0,2,3,4,5,6] (RD0 P n b o kind aw sv it) (.word L K S 0)=some (HD P n b o kind L K S aw sv it)
  e71:∀ (fl:Fl) b o kind L K S aw sv it,nextH P fl [0,2,3,4,5,6] (RD1 P n b o kind aw sv it) (.word L K S 0)=some (HD P n b o kind L K S aw sv it)
  e72:∀ (fl:Fl) b o kind L K S aw sv it,nextH P fl [0,2,3,4,5,6] (RD2 P n b o kind aw sv it) (.word L K S 0)=some (HD P n b o kind L K S aw sv it)
  e8:∀ (fl:Fl) b o kind K aw sv it,goM P fl [0,2,3,4,5,6,17,18] (HD P n b o kind true K false aw sv it)=SQ P n b o kind K aw sv it
  e9:∀ (fl:Fl) b o kind L K S aw sv it,(L && !S)=false->(aw && !K)=false->goM P fl [0,2,3,4,5,6,77,78,79] (HD P n b o kind L K S aw sv it)=CAS P n b o kind L K S aw sv it
  e10:∀ (fl:Fl) b o kind it,nextM P { fl with n0:=false } [0,2,3,4,5,33,36,37,39] (SQ P n b o kind false false false it) tt=some (SW P n b o kind it)
  e10':∀ (fl:Fl) b o kind n0 K aw sv it,(!aw && !K && !n0)=false->nextM P { fl with n0:=n0 } [0,2,3,4,5] (SQ P n b o kind K aw sv it) tt=some (DS P n b o kind aw sv it)
  e11:∀ (fl:Fl) b o kind K aw sv it,(aw && !K)=false->nextM P fl [0,2,3,4,5,6,77,78,79] (SQ P n b o kind K aw sv it) ff=some (CAS P n b o kind true K false aw sv it)
  e12:∀ (fl:Fl) b o kind r it,nextM P fl [0,2,3,4,5] (SW P n b o kind it) (bl r)=some (DS P n b o kind r false it)
  e130:∀ (fl:Fl) b o kind aw sv,nextM P fl [0,2,3,4,5,47] (DS P n b o kind aw sv 0) un=some (RD1 P n b o kind aw sv 1)
  e131:∀ (fl:Fl) b o kind aw sv,nextM P fl [0,2,3,4,5,47] (DS P n b o kind aw sv 1) un=some (RD1 P n b o kind aw sv 2)
  e132:∀ (fl:Fl) b o kind aw sv,nextM P fl [0,2,3,4,5,47] (DS P n b o kind aw sv 2) un=some (RD1 P n b o kind aw sv 3)
  e133:∀ (fl:Fl) b o kind aw sv,nextM P fl [0,2,3,4,5,47] (DS P n b o kind aw sv 3) un=some (RD1 P n b o kind aw sv 4)
  e14:∀ (fl:Fl) b o kind K aw sv it,nextM P fl [0] (CAS P n b o kind false K false aw sv it) tt=some (LE2 P n b o kind)
  e14t:∀ (fl:Fl) b o kind L K S aw sv it,(L || S)=true->nextM P { fl with wz:=true } [0,3] (CAS P n b o kind L K S aw sv it) tt=some (T1 P n b o kind sv)
  e14p:∀ (fl:Fl) b o kind L K S aw sv it,(L || S)=true->nextM P { fl with wz:=false } [0,2,3,91] (CAS P n b o kind L K S aw sv it) tt=some (PK P n b o kind sv)
  e15:∀ (fl:Fl) b o kind L K S aw sv it,nextM P fl [0,2,3,4,5,133] (CAS P n b o kind L K S aw sv it) ff=some (RD2 P n b o kind aw sv it)
  e16:∀ (fl:Fl) b o kind sv,nextM P fl [0,2,3,91] (T1 P n b o kind sv) .wst=some (PK P n b o kind sv)
  e17t:∀ (fl:Fl) b o kind,nextM P fl [0,2,3,103] (PK P n b o kind true) un=some (UP P n b o kind true)
  e17f:∀ (fl:Fl) b o kind,nextM P fl [0,2,95] (PK P n b o kind false) un=some (TQ P n b o kind)
  e18:∀ (fl:Fl) b o kind x,nextM P { fl with tb:=x } [0,2,3,103] (TQ P n b o kind) .now=some (UP P n b o kind x)
  e19:∀ (fl:Fl) b o kind sv n1,nextM P { fl with n0:=false,n1:=n1 } [0,128,129] (UP P n b o kind sv) (.word false false true 0)=some (AD P n b o kind (if !sv || n1 then -11 else -7))
  e20:∀ (fl:Fl) b o kind L K sv,nextH P fl [0,2,3,4,5,6] (UP P n b o kind sv) (.word L K false 0)=some (HD P n b o kind L K false true sv 0)
  e21:∀ (fl:Fl) b o kind d,nextM P fl [0] (AD P n b o kind d) .junk=some (LE2 P n b o kind)
  e22:∀ (fl:Fl) b o kind,nextM P fl [136] (LE2 P n b o kind) un=some (CV2 P n b o kind)
  e23:∀ (fl:Fl) b o kind,nextM P fl [137] (CV2 P n b o kind) (pt b o)=some (LA2 P n b o kind)
  e24:∀ (fl:Fl) b o kind,nextM P fl [] (LA2 P n b o kind) un=some (BK n kind)
  u1:∀ (fl:Fl) b o kind,nextM P fl [0,7] (U0 P n b o kind) .junk=some (CVU P n b o kind)
  u2:∀ (fl:Fl) b o kind,nextM P fl [0,8] (CVU P n b o kind) (pt b o)=some (UR P n b o kind)
  u3:∀ (fl:Fl) b o kind,nextM P fl [0] (UR P n b o kind) un=some (UD P n b o kind)
  u4:∀ (fl:Fl) b o kind,nextM P fl [0,13] (UD P n b o kind) un=some (HELD P n b o kind)
  u5:∀ (fl:Fl) b o kind n0 K,(n0 || K)=true->nextM P { fl with n0:=n0 } [] (HELD P n b o kind) (.word false K false 0)=some (UE P n b o kind)
  u5g:∀ (fl:Fl) b o kind n0 K,nextM P { fl with n0:=n0 } [41] (HELD P n b o kind) (.word false K true 0)=some (G9 P n b o kind)
  u5c:∀ (fl:Fl) b o kind,nextM P { fl with n0:=false } [0,27,28,29] (HELD P n b o kind) (.word false false false 0)=some (UC P n b o kind)
  u6t:∀ (fl:Fl) b o kind,nextM P fl [33] (UC P n b o kind) tt=some (G7 P n b o kind)
  u6f:∀ (fl:Fl) b o kind,nextM P fl [0,37] (UC P n b o kind) ff=some (URD P n b o kind)
  u7:∀ (fl:Fl) b o kind n0 L K S,(n0 || L || K || S)=true->nextM P { fl with n0:=n0 } [] (URD P n b o kind) (.word L K S 0)=some (UE P n b o kind)
  u7c:∀ (fl:Fl) b o kind,nextM P { fl with n0:=false } [0,27,28,29] (URD P n b o kind) (.word false false false 0)=some (UC P n b o kind)
  u8:∀ (fl:Fl) b o kind,nextM P fl [] (G7 P n b o kind) un=some (UE P n b o kind)
  u9:∀ (fl:Fl) b o kind,nextM P fl [] (G9 P n b o kind) un=some (UE P n b o kind)
  u10:∀ (fl:Fl) b o kind,nextM P fl [] (UE P n b o kind) un=some (BKU n kind)
  o1:∀ b o kind,opAt (LD P n b o kind).1=some (n.dis,[])∧(LD P n b o kind).1.kind = .normal
  o2:∀ b o kind,opAt (FAST P n b o kind).1=some (n.cas,[pt b o,i32 0,i32 1])
  o3:∀ b o kind,opAt (LE1 P n b o kind).1=some (n.en,[])
  o4:∀ b o kind,cvAt (CV1 P n b o kind).1=some (n.tM,n.tU,pt b o)
  o5:∀ b o kind,opAt (LA1 P n b o kind).1=some (n.acq,[pt b o])
  o60:∀ b o kind aw sv it,ldAt (RD0 P n b o kind aw sv it).1=some (n.tI,pt b o)
  o61:∀ b o kind aw sv it,ldAt (RD1 P n b o kind aw sv it).1=some (n.tI,pt b o)
  o62:∀ b o kind aw sv it,ldAt (RD2 P n b o kind aw sv it).1=some (n.tI,pt b o)
  o7:∀ b o kind K aw sv it,opAt (SQ P n b o kind K aw sv it).1=some (n.spin,[i64 it])
  o8:∀ b o kind it,opAt (SW P n b o kind it).1=some (n.cas,[pt b o,.word true false false 0,.word true true false 0])
  o9:∀ b o kind aw sv it,opAt (DS P n b o kind aw sv it).1=some (n.dospin,[])
  o10:∀ b o kind L K S aw sv it,opAt (CAS P n b o kind L K S aw sv it).1=some (n.cas,[pt b o,.word L K S 0,wNew L K S aw sv])
  o11:∀ b o kind sv,opAt (T1 P n b o kind sv).1=some (n.nano,[])
  o12:∀ b o kind sv,opAt (PK P n b o kind sv).1=some (n.sem,[pt b (o+1),.junk,i64 2])
  o13:∀ b o kind,opAt (TQ P n b o kind).1=some (n.nano,[])
  o14:∀ b o kind sv,ldAt (UP P n b o kind sv).1=some (n.tI,pt b o)
  o15:∀ b o kind d,opAt (AD P n b o kind d).1=some (n.add,[pt b o,i32 d])
  o16:∀ b o kind,opAt (LE2 P n b o kind).1=some (n.en,[])
  o17:∀ b o kind,cvAt (CV2 P n b o kind).1=some (n.tM,n.tU,pt b o)
  o18:∀ b o kind,opAt (LA2 P n b o kind).1=some (n.acq,[pt b o])
  o20:∀ b o kind,ldAt (U0 P n b o kind).1=some (n.tI,pt b o)∧(U0 P n b o kind).1.kind = .normal∧(U0 P n b o kind).1.fn=n.iunlock
  o21:∀ b o kind,cvAt (CVU P n b o kind).1=some (n.tM,n.tU,pt b o)
  o22:∀ b o kind,opAt (UR P n b o kind).1=some (n.rel,[pt b o])
  o23:∀ b o kind,opAt (UD P n b o kind).1=some (n.dis,[])
  o24:∀ b o kind,opAt (HELD P n b o kind).1=some (n.add,[pt b o,i32 (-1)])
  o25:∀ b o kind,opAt (UC P n b o kind).1=some (n.cas,[pt b o,wf,.word false true false (-1)])
  o26:∀ b o kind,opAt (G7 P n b o kind).1=some (n.semr,[pt b (o+1),ff,i64 2])
  o27:∀ b o kind,opAt (G9 P n b o kind).1=some (n.semr,[pt b (o+1),tt,i64 2])
  o28:∀ b o kind,ldAt (URD P n b o kind).1=some (n.tI,pt b o)
  o29:∀ b o kind,opAt (UE P n b o kind).1=some (n.en,[])
  p1:∀ b o kind,(stL P n b o kind).all (·.env.all plain)=true∧(LD P n b o kind).1.env.all plain=true∧(LD P n b o kind).2=stL P n b o kind
  p2:∀ b o kind,(stS P n b o kind).all (·.env.all plain)=true
  p3:∀ b o kind,(stU P n b o kind).all (·.env.all plain)=true∧(U0 P n b o kind).1.env.all plain=true∧(U0 P n b o kind).2=stU P n b o kind
  p4:∀ b o kind,(stV P n b o kind).all (·.env.all plain)=true
structure MuExt (P:Program) (n:MuN):Prop where
  dis:Ext P n.dis (fun _=>do mark .disable;pure Extern.Race.none_)
  en:Ext P n.en (fun _=>do mark .enable;pure Extern.Race.none_)
  acq:Ext P n.acq (Extern.Race.marked .acquire)
  rel:Ext P n.rel (Extern.Race.marked .releaseMerge)
  cas:Ext P n.cas (Extern.Atomic.casT (.int .i32))
  add:Ext P n.add (Extern.Atomic.update (Op.intArith .add) .i32 true)
  spin:Ext P n.spin Extern.Sync.canSpin
  dospin:Ext P n.dospin (fun _=>pure (.tuple #[]))
  nano:Ext P n.nano Extern.OsHooks.nano
  nanoN:∃ fn,P.funcs[n.nano]? = some fn∧fn.norace=true
  sem:Ext P n.sem Extern.Sync.semacquire
  semr:Ext P n.semr Extern.Sync.semrelease
  tyI:pur P (isAgg n.tI)=some false
  tyM:∃ t,P.underlying n.tM=some (.pointer t)∧P.underlying n.tU=some .unsafePointer∧(P.info? t).map (fun i=>decide (i.size=0))=some false
  nS:∃ fn,P.funcs[n.slow]? = some fn∧fn.norace=true
  nU:∃ fn,P.funcs[n.iunlock]? = some fn∧fn.norace=true
  nV:∃ fn,P.funcs[n.uslow]? = some fn∧fn.norace=true
def Sy.ok (y:Sy):Prop:=(0≤y.N∧y.N≤1000)∧(0≤y.c∧y.c≤1000)
def Fl.of (y:Sy):Fl:=⟨decide (y.N=0),decide (y.N=1),decide (y.c=0),decide (y.c=1),decide (y.ws=0),decide (IntKind.i64.wrap (y.tn-y.ws) > 1000000)⟩
theorem Fl.of_at {y:Sy} (h:y.ok):(Fl.of y).At y:=⟨h.1,h.2,rfl,rfl,rfl,rfl,rfl,rfl⟩
def usesN:SV->Bool | .word .. => true | .cnt=>true|_=>false
def usesC:SV->Bool | .grp _=>true | .grpHi=>true | .grpV=>true|_=>false
def usesW:SV->Bool | .wst=>true | .dif=>true|_=>false
def usesT:SV->Bool | .now=>true | .dif=>true|_=>false
theorem SR.re {y y':Sy} {v:SV} {x:Value} (h:SR y v x) (hN:y.N=y'.N∨usesN v=false) (hC:y.c=y'.c∨usesC v=false) (hW:y.ws=y'.ws∨usesW v=false) (hT:y.tn=y'.tn∨usesT v=false):SR y' v x:=by
  cases v <;> simp_all [SR,usesN,usesC,usesW,usesT]
theorem FR.re {y y':Sy} {s:SFr} {fr:Frame} (h:FR y s fr) (hN:y.N=y'.N∨s.env.all (fun v => !usesN v)=true) (hC:y.c=y'.c∨s.env.all (fun v => !usesC v)=true)
    (hW:y.ws=y'.ws∨s.env.all (fun v => !usesW v)=true) (hT:y.tn=y'.tn∨s.env.all (fun v => !usesT v)=true):FR y' s fr:=by
  have key:∀ (u:SV->Bool) (t:Nat),u .junk=false->s.env.all (fun v => !u v)=true->u (s.env.getD t .junk)=false:=fun u t hj ha=>by
    rw[List.getD_eq_getElem?_getD];cases q:s.env[t]? with
    | none=>exact hj
    | some v=>
      have:=List.all_eq_true.1 ha v (List.mem_of_getElem? q);simpa using this
  exact⟨h.fn,h.todo,h.defers,h.mode,h.kind,h.ro,h.size,fun t=>(h.env t).re (hN.imp id (key _ t rfl)) (hC.imp id (key _ t rfl)) (hW.imp id (key _ t rfl)) (hT.imp id (key _ t rfl))⟩
theorem FRs.resym {y y':Sy}:∀ {l:List SFr} {fs:List Frame},FRs y l fs->l.all (·.env.all plain)=true->FRs y' l fs
  | [],fs,h,_=>by rw[h.nil_inv];trivial
  | s :: l,fs,h,hp=>by
    obtain⟨f,fs',rfl,h1,h2⟩:=h.cons_inv;simp only[List.all_cons,Bool.and_eq_true] at hp;exact⟨h1.resym hp.1,h2.resym hp.2⟩
theorem FRs.keep {y:Sy} (live:List Nat):∀ {l:List SFr} {fs:List Frame},FRs y l fs->FRs y (l.map (Go.Pal.keep live)) fs
  | [],fs,h=>by rw[h.nil_inv];trivial
  | s :: l,fs,h=>by
    obtain⟨f,fs',rfl,h1,h2⟩:=h.cons_inv;exact⟨h1.keep live,h2.keep live⟩
theorem sgoH_ok {P:Program} {Wd:World->Prop} {f:Fl} {y:Sy} (hf:f.At y):∀ (n:Nat) {s:SFr} {st:List SFr} {fr:Frame} {frs:List Frame},FR y s fr->FRs y st frs ->
    ∃ m fr' frs',FR y (sgoH P f n s st).1 fr'∧FRs y (sgoH P f n s st).2 frs'∧∀ cs,SilN P Wd m (G fr (frs ++ cs)) (G fr' (frs' ++ cs))
  | 0,s,st,fr,frs,hr,hrs=>⟨0,fr,frs,hr,hrs,fun _=>rfl⟩
  | n + 1,s,st,fr,frs,hr,hrs=>by
    unfold sgoH;cases e:ss P f s st with
    | none=>exact⟨0,fr,frs,hr,hrs,fun _=>rfl⟩
    | some p=>
      obtain⟨s',st'⟩:=p;obtain⟨fr',frs',h1,h2,h3⟩:=ss_ok hf e hr hrs;simp only;split
      . exact⟨1,fr',frs',h1,h2,fun cs=>⟨_,h3 cs,rfl⟩⟩
      . obtain⟨m,fr2,frs2,h4,h5,h6⟩:=sgoH_ok hf n h1 h2
        exact⟨m+1,fr2,frs2,h4,h5,fun cs=>⟨_,h3 cs,h6 cs⟩⟩
section
variable {P:Program} {Wd:World->Prop} {y:Sy} {c c':Cfg} {live:List Nat} {v:SV} {x:Value} {fr:Frame} {frs:List Frame}
theorem adv (hn:nextM P (Fl.of y) live c v=some c') (hy:y.ok) (hr:FR y c.1 fr) (hrs:FRs y c.2 frs) (hv:SR y v x) :
    ∃ fr' frs',FR y c'.1 fr'∧FRs y c'.2 frs'∧∀ cs,Sil P Wd (G (fr.finish x) (frs ++ cs)) (G fr' (frs' ++ cs)):=by
  obtain⟨s,hs,rfl⟩:=Option.map_eq_some_iff.1 hn;obtain⟨m,fr',frs',h1,h2,h3⟩:=sgo_ok (Wd:=Wd) (Fl.of_at hy) 400 (P:=P) (hr.fin hs hv) hrs;exact⟨fr',frs',h1.keep live,h2.keep [],fun cs=>⟨m,h3 cs⟩⟩
theorem advH (hn:nextH P (Fl.of y) live c v=some c') (hy:y.ok) (hr:FR y c.1 fr) (hrs:FRs y c.2 frs) (hv:SR y v x) :
    ∃ fr' frs',FR y c'.1 fr'∧FRs y c'.2 frs'∧∀ cs,Sil P Wd (G (fr.finish x) (frs ++ cs)) (G fr' (frs' ++ cs)):=by
  obtain⟨s,hs,rfl⟩:=Option.map_eq_some_iff.1 hn;obtain⟨m,fr',frs',h1,h2,h3⟩:=sgoH_ok (Wd:=Wd) (Fl.of_at hy) 400 (P:=P) (hr.fin hs hv) hrs;exact⟨fr',frs',h1.keep live,h2.keep [],fun cs=>⟨m,h3 cs⟩⟩
theorem advG (hn:goM P (Fl.of y) live c=c') (hy:y.ok) (hr:FR y c.1 fr) (hrs:FRs y c.2 frs) :
    ∃ fr' frs',FR y c'.1 fr'∧FRs y c'.2 frs'∧∀ cs,Sil P Wd (G fr (frs ++ cs)) (G fr' (frs' ++ cs)):=by
  subst hn;obtain⟨m,fr',frs',h1,h2,h3⟩:=sgo_ok (Wd:=Wd) (Fl.of_at hy) 400 (P:=P) hr hrs;exact⟨fr',frs',h1.keep live,h2.keep [],fun cs=>⟨m,h3 cs⟩⟩
end
open Mu in
inductive MPc where
  | ld|fast|rd (l:Lo) | sq (old:Wd) (l:Lo) | sw (old:Wd) (l:Lo) | cas (old:Wd) (l:Lo) | t1 (sv:Bool) | park (sv:Bool) | tq|up (sv:Bool) | add (old:Wd) (sv:Bool) | le|la|back
  | ur0|ur|ud|held|ucas (old:Wd) | urd|give|ue|backU
section
variable (P:Program) (n:MuN) (b o:Nat) (kind:CallKind)
def AtC (p:MPc) (c:Cfg) (y:Sy):Prop:=
  match p with
  | .ld=>c=LD P n b o kind
  | .fast=>c=FAST P n b o kind
  | .rd l=>c=RD0 P n b o kind l.aw l.sv l.it∨c=RD1 P n b o kind l.aw l.sv l.it∨c=RD2 P n b o kind l.aw l.sv l.it
  | .sq old l=>c=SQ P n b o kind old.K l.aw l.sv l.it∧y.N=old.N∧old.L=true∧old.S=false
  | .sw old l=>c=SW P n b o kind l.it∧y.N=old.N∧l.aw=false∧l.sv=false∧old.L=true∧old.K=false∧old.S=false
  | .cas old l=>c=CAS P n b o kind old.L old.K old.S l.aw l.sv l.it∧y.N=old.N
  | .t1 sv=>c=T1 P n b o kind sv
  | .park sv=>c=PK P n b o kind sv
  | .tq=>c=TQ P n b o kind
  | .up sv=>c=UP P n b o kind sv
  | .add old sv=>c=AD P n b o kind (if !sv || decide (old.N=1) then -11 else -7)
  | .le=>c=LE1 P n b o kind∨c=LE2 P n b o kind
  | .la=>c=LA1 P n b o kind∨c=LA2 P n b o kind
  | .back=>c=BK n kind
  | .ur0=>c=U0 P n b o kind
  | .ur=>c=UR P n b o kind
  | .ud=>c=UD P n b o kind
  | .held=>c=HELD P n b o kind
  | .ucas old=>c=UC P n b o kind∧y.N=old.N∧old.L=false∧old.K=false∧old.S=false∧old.N≠0
  | .urd=>c=URD P n b o kind
  | .give=>c=G7 P n b o kind∨c=G9 P n b o kind
  | .ue=>c=UE P n b o kind
  | .backU=>c=BKU n kind
def MAt (p:MPc) (cs:List Frame) (g:Goroutine):Prop := ∃ c y fr frs,AtC P n b o kind p c y∧y.ok∧FR y c.1 fr∧FRs y c.2 frs∧g=G fr (frs ++ cs)
end
theorem MAt.running {P:Program} {n:MuN} {b o:Nat} {kind:CallKind} {p:MPc} {cs:List Frame} {g:Goroutine} (h:MAt P n b o kind p cs g):g.status = .running∧g.offers=none:=by
  obtain⟨c,y,fr,frs,_,_,_,_,rfl⟩:=h;exact⟨rfl,rfl⟩
structure ShM (b o:Nat) (w:World) (s:Mu.Sh):Prop where
  cw:w.cell? ⟨b,o,none⟩=some (.int .i32 (enc s.w.L s.w.K s.w.S s.w.N))
  cs:w.cell? ⟨b,o+1,none⟩=some (.int .u32 s.ms)
  fz:∀ i,w.frozen? ⟨b,i,none⟩=false
def MW (b o:Nat) (w w':World):Prop:=(Later w.os w'.os∧w'.output=w.output)∧(w'.heap=w.heap∨∃ i v,(i=o∨i=o+1)∧flat v=true∧w'.heap=(w.setCell ⟨b,i,none⟩ v).heap)
def EvM (b o:Nat) (es:Array Event):Prop := ∀ e∈es,(e.loc = .mark .disable∨e.loc = .mark .enable)∨(∃ i,(i=o∨i=o+1)∧e.loc = .cell ⟨b,i,none⟩∧e.sync=true)
theorem heap_cell {w w':World} (h:w'.heap=w.heap) (a:Addr):w'.cell? a=w.cell? a∧w'.frozen? a=w.frozen? a:=by
  simp[World.cell?,World.frozen?,h]
theorem ShM.heap {b o:Nat} {w w':World} {s:Mu.Sh} (h:ShM b o w s) (e:w'.heap=w.heap):ShM b o w' s:=
  ⟨by rw[(heap_cell e _).1];exact h.cw,by rw[(heap_cell e _).1];exact h.cs,fun i=>by rw[(heap_cell e _).2];exact h.fz i⟩
theorem cell_set_self {w:World} {b i:Nat} {u v:Value} (h:w.cell? ⟨b,i,none⟩=some u):(w.setCell ⟨b,i,none⟩ v).cell? ⟨b,i,none⟩=some v:=by
  unfold World.cell? at h ⊢;unfold World.setCell;simp only[Array.getElem?_modify,if_true];cases e:w.heap[b]? with
  | none=>simp[e] at h
  | some ob=>
    rw[e] at h;cases ob <;> simp at h ⊢
    rename_i c _ _
    by_cases hi:i<c.size
    . simp[hi]
    . simp[hi] at h
theorem frozen_set {w:World} {a:Addr} {v:Value} {b i:Nat}:(w.setCell a v).frozen? ⟨b,i,none⟩=w.frozen? ⟨b,i,none⟩:=by
  unfold World.frozen? World.setCell;simp only[Array.getElem?_modify]
  by_cases h:a.block=b
  . simp only[h,if_true]
    cases e:w.heap[b]? with
    | none=>rfl
    | some ob=>cases ob <;> simp
  . simp only[h,if_false]
theorem ShM.setW {b o:Nat} {w:World} {s:Mu.Sh} (h:ShM b o w s) (w':Mu.Wd):ShM b o (w.setCell ⟨b,o,none⟩ (.int .i32 (enc w'.L w'.K w'.S w'.N))) { s with w:=w' }:=
  ⟨cell_set_self h.cw,by rw[cell_setCell_ne (by simp)];exact h.cs,fun i=>by rw[frozen_set];exact h.fz i⟩
theorem ShM.setS {b o:Nat} {w:World} {s:Mu.Sh} (h:ShM b o w s) (m:Nat):ShM b o (w.setCell ⟨b,o+1,none⟩ (.int .u32 m)) { s with ms:=m }:=
  ⟨by rw[cell_setCell_ne (by simp)];exact h.cw,cell_set_self h.cs,fun i=>by rw[frozen_set];exact h.fz i⟩
theorem evM_nil {b o:Nat}:EvM b o #[]:=fun e h=>by simp at h
theorem evM_r {b o i:Nat} (hi:i=o∨i=o+1):EvM b o #[⟨.cell ⟨b,i,none⟩,false,true⟩]:=fun e h=>by simp at h;subst h;exact .inr ⟨i,hi,rfl,rfl⟩
theorem evM_rw {b o i:Nat} (hi:i=o∨i=o+1):EvM b o #[⟨.cell ⟨b,i,none⟩,false,true⟩,⟨.cell ⟨b,i,none⟩,true,true⟩]:=fun e h=>by
  simp at h;rcases h with rfl|rfl <;> exact .inr ⟨i,hi,rfl,rfl⟩
theorem evM_sem {b o:Nat}:EvM b o (semEvents ⟨b,o+1,none⟩):=fun e h=>by
  simp[semEvents] at h
  rcases h with rfl|rfl|rfl|rfl
  . exact .inl (.inl rfl)
  . exact .inr ⟨o+1,.inr rfl,rfl,rfl⟩
  . exact .inr ⟨o+1,.inr rfl,rfl,rfl⟩
  . exact .inl (.inr rfl)
section
variable {P:Program} {n:MuN} (C:MuChk P n) (X:MuExt P n) {b o:Nat} {kind:CallKind} {Wd:World->Prop} {cs:List Frame} {g:Goroutine} {w:World} {main:Bool}
variable (hWd:∀ w,Wd w->∃ v,w.cell? ⟨b,o,none⟩=some v)
def Next (P:Program) (n:MuN) (b o:Nat) (kind:CallKind) (Wd:World->Prop) (cs:List Frame) (p:MPc) (g1:Goroutine):Prop:=g1.status = .running∧∃ g2,Sil P Wd g1 g2∧MAt P n b o kind p cs g2
theorem nxt {y:Sy} {c c':Cfg} {live:List Nat} {v:SV} {x:Value} {fr:Frame} {frs:List Frame} {p:MPc} (hn:nextM P (Fl.of y) live c v=some c') (hy:y.ok) (hr:FR y c.1 fr) (hrs:FRs y c.2 frs) (hv:SR y v x) (hA:AtC P n b o kind p c' y) :
    Next P n b o kind Wd cs p (G (fr.finish x) (frs ++ cs)):=by
  obtain⟨fr',frs',h1,h2,h3⟩:=adv (Wd:=Wd) hn hy hr hrs hv;exact⟨rfl,_,h3 cs,c',y,fr',frs',hA,hy,h1,h2,rfl⟩
def y0:Sy:=⟨2,2,1,0⟩
theorem y0_ok:y0.ok:=by unfold Sy.ok y0;decide
theorem lock_enter (hf:∃ fn body,P.funcs[n.lock]? = some fn∧fn.body=some body∧fn.ntmps=6):∃ g2,Sil P Wd (G (Frame.enter P n.lock #[.pointer (some ⟨b,o,none⟩)] kind) cs) g2∧MAt P n b o kind .ld cs g2:=by
  obtain⟨fn,body,h1,h2,h3⟩:=hf
  have hs:FR y0 (sEnter P n.lock [pt b o] kind) (Frame.enter P n.lock #[.pointer (some ⟨b,o,none⟩)] kind):=by
    refine⟨by simp[sEnter,h1,Frame.enter],by simp[sEnter,h1,h2,Frame.enter],by simp[sEnter,h1,Frame.enter],by simp[sEnter,h1,Frame.enter,SMode.of],by simp[sEnter,h1,Frame.enter],rfl,by simp[sEnter,h1,h3,Frame.enter],fun t=>?_⟩
    simp only[sEnter,h1,Frame.enter,h3,Option.map_some,Option.getD_some]
    match t with
    | 0=>rfl
    | 1|2|3|4|5=>trivial
    | t + 6=>
      have:([pt b o] ++ List.replicate (6 - [pt b o].length) SV.junk).getD (t+6) .junk = .junk:=by
        rw[List.getD_eq_getElem?_getD,List.getElem?_eq_none (by simp[pt])];rfl
      rw[this];trivial
  obtain⟨m,fr',frs',e1,e2,e3⟩:=sgo_ok (Wd:=Wd) (P:=P) (f:=fl0) (y:=y0) ⟨by decide,by decide,rfl,rfl,rfl,rfl,rfl,by decide⟩ 400 hs (st:=[]) (frs:=[]) trivial
  have e4:=e3 cs;exact⟨_,⟨m,e4⟩,_,y0,fr',frs',rfl,y0_ok,e1.keep [0],e2.keep [],rfl⟩
theorem bad0:∀ g:FuncId,Mark.disable ≠ .extern g:=fun g h=>by cases h
theorem bad1:∀ g:FuncId,Mark.enable ≠ .extern g:=fun g h=>by cases h
include C X in
theorem step_ld (h:MAt P n b o kind .ld cs g):∃ g1,stepG P main g w = .go g1 w #[⟨.mark .disable,false,true⟩]∧Next P n b o kind Wd cs .fast g1:=by
  obtain⟨c,y,fr,frs,rfl,hy,hr,hrs,rfl⟩:=h;exact⟨_,stop_mark0 bad0 hr (C.o1 b o kind).1 (by rw[show (LD P n b o kind).1.kind=_ from (C.o1 b o kind).2];decide) X.dis,nxt (C.e1 _ b o kind) hy hr hrs rfl rfl⟩
include C X in
theorem step_ud (h:MAt P n b o kind .ud cs g):∃ g1,stepG P main g w = .go g1 w #[⟨.mark .disable,false,true⟩]∧Next P n b o kind Wd cs .held g1:=by
  obtain⟨c,y,fr,frs,rfl,hy,hr,hrs,rfl⟩:=h;exact⟨_,stop_mark0 bad0 hr (C.o23 b o kind) (by simp[UD,iulAt]) X.dis,nxt (C.u4 _ b o kind) hy hr hrs rfl rfl⟩
include C X in
theorem step_ue (h:MAt P n b o kind .ue cs g):∃ g1,stepG P main g w = .go g1 w #[⟨.mark .enable,false,true⟩]∧Next P n b o kind Wd cs .backU g1:=by
  obtain⟨c,y,fr,frs,rfl,hy,hr,hrs,rfl⟩:=h;exact⟨_,stop_mark0 bad1 hr (C.o29 b o kind) (by simp[UE,iulAt]) X.en,nxt (C.u10 _ b o kind) hy hr hrs rfl rfl⟩
include C X in
theorem step_ur (h:MAt P n b o kind .ur cs g):∃ g1,stepG P main g w = .go g1 w #[⟨.mark (.releaseMerge ⟨b,o,none⟩),false,true⟩]∧Next P n b o kind Wd cs .ud g1:=by
  obtain⟨c,y,fr,frs,rfl,hy,hr,hrs,rfl⟩:=h;exact⟨_,stop_markAt (fun ad g h=>by cases h) hr (C.o22 b o kind) (by simp[UR,iulAt]) X.rel,nxt (C.u3 _ b o kind) hy hr hrs rfl rfl⟩
include C X in
theorem step_la (h:MAt P n b o kind .la cs g):∃ g1,stepG P main g w = .go g1 w #[⟨.mark (.acquire ⟨b,o,none⟩),false,true⟩]∧Next P n b o kind Wd cs .back g1:=by
  obtain⟨c,y,fr,frs,hc,hy,hr,hrs,rfl⟩:=h
  rcases hc with rfl|rfl
  . exact⟨_,stop_markAt (fun ad g h=>by cases h) hr (C.o5 b o kind) (by simp[LA1,ilockAt]) X.acq,nxt (C.e6 _ b o kind) hy hr hrs rfl rfl⟩
  . exact⟨_,stop_markAt (fun ad g h=>by cases h) hr (C.o18 b o kind) (by simp[LA2,slowAt]) X.acq,nxt (C.e24 _ b o kind) hy hr hrs rfl rfl⟩
include X hWd in
theorem through {y:Sy} {c c':Cfg} {live:List Nat} {fr:Frame} {frs:List Frame} {p:MPc} (hc:cvAt c.1=some (n.tM,n.tU,pt b o)) (hn:nextM P (Fl.of y) live c (pt b o)=some c') (hy:y.ok) (hr:FR y c.1 fr) (hrs:FRs y c.2 frs) (hA:AtC P n b o kind p c' y) :
    ∃ g2,Sil P Wd (G fr (frs ++ cs)) g2∧MAt P n b o kind p cs g2:=by
  obtain⟨t,h1,h2,h3⟩:=X.tyM;obtain⟨_,g2,h4,h5⟩:=nxt (P:=P) (n:=n) (b:=b) (o:=o) (kind:=kind) (Wd:=Wd) (cs:=cs) (x:=.pointer (some ⟨b,o,none⟩)) hn hy hr hrs rfl hA;refine⟨g2,Sil.trans (Sil1.sil ⟨rfl,fun main w hw=>?_⟩) h4,h5⟩
  exact stop_conv hr hc h1 h2 h3 (hWd w hw)
include C X hWd in
theorem step_le (h:MAt P n b o kind .le cs g):∃ g1,stepG P main g w = .go g1 w #[⟨.mark .enable,false,true⟩]∧Next P n b o kind Wd cs .la g1:=by
  obtain⟨c,y,fr,frs,hc,hy,hr,hrs,rfl⟩:=h
  rcases hc with rfl|rfl
  . refine⟨_,stop_mark0 bad1 hr (C.o3 b o kind) (by simp[LE1,ilockAt]) X.en,rfl,?_⟩
    obtain⟨fr',frs',h1,h2,h3⟩:=adv (Wd:=Wd) (x:=.tuple #[]) (C.e4 _ b o kind) hy hr hrs rfl;obtain⟨g2,h4,h5⟩:=through X hWd (cs:=cs) (p:=.la) (C.o4 b o kind) (C.e5 _ b o kind) hy h1 h2 (.inl rfl);exact⟨g2,(h3 cs).trans h4,h5⟩
  . refine⟨_,stop_mark0 bad1 hr (C.o16 b o kind) (by simp[LE2,slowAt]) X.en,rfl,?_⟩
    obtain⟨fr',frs',h1,h2,h3⟩:=adv (Wd:=Wd) (x:=.tuple #[]) (C.e22 _ b o kind) hy hr hrs rfl;obtain⟨g2,h4,h5⟩:=through X hWd (cs:=cs) (p:=.la) (C.o17 b o kind) (C.e23 _ b o kind) hy h1 h2 (.inr rfl);exact⟨g2,(h3 cs).trans h4,h5⟩
include C X hWd in
theorem step_ur0 {v:Value} (hc:w.cell? ⟨b,o,none⟩=some v) (h:MAt P n b o kind .ur0 cs g):∃ g1,stepG P main g w = .go g1 w #[]∧Next P n b o kind Wd cs .ur g1:=by
  obtain⟨c,y,fr,frs,rfl,hy,hr,hrs,rfl⟩:=h;refine⟨_,stop_load hr (C.o20 b o kind).1 X.tyI (by rw[show (U0 P n b o kind).1.fn=_ from (C.o20 b o kind).2.2];exact X.nU) hc,rfl,?_⟩
  obtain⟨fr',frs',h1,h2,h3⟩:=adv (Wd:=Wd) (x:=v) (C.u1 _ b o kind) hy hr hrs trivial;obtain⟨g2,h4,h5⟩:=through X hWd (cs:=cs) (p:=.ur) (C.o21 b o kind) (C.u2 _ b o kind) hy h1 h2 rfl;exact⟨g2,(h3 cs).trans h4,h5⟩
include C X in
theorem step_t1 {sv:Bool} (h:MAt P n b o kind (.t1 sv) cs g):∃ g1,stepG P main g w = .go g1 w.later #[]∧Next P n b o kind Wd cs (.park sv) g1:=by
  obtain⟨c,y,fr,frs,rfl,hy,hr,hrs,rfl⟩:=h;refine⟨_,stop_nano hr (C.o11 b o kind sv) (by simp[T1,slowAt]) X.nano X.nanoN,?_⟩
  have hr':=hr.re (y':={ y with ws:=((w.os.mono+w.tick:Nat):Int) }) (.inl rfl) (.inl rfl) (.inr (by cases sv <;> rfl)) (.inl rfl)
  have hrs':=hrs.resym (y':={ y with ws:=((w.os.mono+w.tick:Nat):Int) }) (by simpa[T1,slowAt] using C.p2 b o kind)
  exact nxt (y:={ y with ws:=((w.os.mono+w.tick:Nat):Int) }) (x:=.int .i64 ((w.os.mono+w.tick:Nat):Int)) (C.e16 _ b o kind sv) hy hr' hrs' rfl rfl
end
end Go.Pal
