/- Part 35 of the proof. -/
import Derived.Test.YtgpeapadphphpaaGreatDoorC34
set_option linter.all false
namespace Go.Proofs.YtgpeapadphphpaaGreatDoor
open Go.Pal Go.Conc
set_option maxHeartbeats 2000000
set_option maxRecDepth 4000
variable {m:Mo} {σ:Store} {KF:Res->Store->Prop}
theorem tells_ne {f:Fr} (hf:f.Good) (e:Ent):tells f e≠[]:=by
  unfold tells shoes;have:=hf.le
  by_cases h0:e.shod=0
  . simp [h0]
  . have hp:(f.sto-f.sfrom+1).toNat=(f.sto-f.sfrom).toNat+1:=by omega
    rw [if_pos h0,hp,List.range_succ_eq_map];split <;> simp
def dueOf (f:Fr) (l:List Int):List Int:=(tells f (entN f (l.getD 0 0))).filter fun h=>l.all fun j=>decide (h∈tells f (entN f j))
theorem due_heights {f:Fr} {l:List Int} (hl:l≠[]):heightsOf f l=dueOf f l:=by
  match l,hl with
  | a :: r,_=>
    simp only [heightsOf,dueOf,commonOf,List.map_cons,List.getD_cons_zero];refine List.filter_congr fun x hx=>?_
    simp [hx,List.all_eq_true]
theorem listErr_zero (f:Fr):∀ (l:List Int) (p:Option Int),(∀ x∈l,0≤x∧x<f.ents.length)->l.Pairwise (· < ·)->(∀ q,p=some q->∀ x∈l,q<x)->listErr f p l=0
  | [],_,_,_,_=>rfl
  | a :: l,p,h1,h2,h3=>by
    have ha:=h1 a (by simp)
    have h2':=List.pairwise_cons.1 h2
    have e1:isIn a 0 (f.ents.length-1)=true:=by
      simp [isIn,ha.1];omega
    have e2:notUp p a=false:=by
      cases p with
      | none=>rfl
      | some q=>
        have:=h3 q rfl a (by simp)
        simp [notUp];omega
    unfold listErr;rw [e1,if_neg (by simp),e2,if_neg (by simp)]
    exact listErr_zero f l (some a) (fun x hx=>h1 x (by simp [hx])) h2'.2 (fun q hq x hx=>by cases hq;exact h2'.1 x hx)
theorem Asc.pw {n:Int} {i:Nat} {l:List Int} (h:Asc n i l):l.Pairwise (· < ·):=by
  rw [List.pairwise_iff_getElem];intro a b ha hb hab;have:=h.asc a b hab (by rw [← h.len];exact hb)
  simpa [List.getD_eq_getElem?_getD,ha,hb] using this
theorem asc_lst {f:Fr} {n:Nat} {l:List Int} (h:Asc f.ents.length n l) (hn:1≤n∧n≤6):Lst f l:=by
  have hl:=h.len;refine ⟨?_,by omega⟩
  unfold lister;rw [if_neg (by omega)]
  exact listErr_zero f l none h.mem h.pw (fun q hq=>by cases hq)
theorem Chosen_ok' {n kI:Int} {kn:Nat} (e:kI=kn) (hn:0≤n∧n≤6) (hk:(kn:Int)≤n) (h:KF (.val (rows (chosenL n kn))) σ):FnOK Tryz.prog m 8 [int n,int kI] σ KF:=by
  subst e;exact Chosen_ok hn hk h
end Go.Proofs.YtgpeapadphphpaaGreatDoor
