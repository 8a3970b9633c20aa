/-
  Joined texts, part 7: contracts and plain lemmas.
  Conditions: none beyond those of each theorem.
-/
import Derived.Test.YtckjdhaflokcgaaGreatQ4
set_option linter.unusedVariables false
set_option linter.unusedSimpArgs false
set_option linter.unnecessarySimpa false
set_option maxRecDepth 100000
universe u
namespace Go.Proofs.YtckjdhaflokcgaaGreat
open Go.RowKit
section
variable {P:Program} {ops:Array Oper} {md:Region.Mode} {C:World->Prop}
def Z3 (P:Program) (md:Region.Mode) (ops:Array Oper) (C:World->Prop) (n:Nat) (L:Array Bool->Act->Prop):Nat->Array Bool->Act->Prop
  | 0,listed,a=>L listed a
  | f+1,listed,a=>Region.ready md ops listed≠[]/\∀i∈Region.ready md ops listed,i<n/\qOp P ops C i (Z3 P md ops C n L f (listed.setIfInBounds i true)) a
theorem XA {n g:Nat} {L:Array Bool->Act->Prop} {Q:Exit->Act->World->Prop} (hL:∀l a w,C w->L l a->wpAny P md ops Q g l a w) :
   ∀(f:Nat) (l:Array Bool) (a:Act) (w:World),C w->Z3 P md ops C n L f l a->wpAny P md ops Q (f+g) l a w:=by
 intro f
 induction f with
 | zero=>intro l a w hw h;rw [Nat.zero_add];exact hL _ _ _ hw h
 | succ f ih =>
   intro l a w hw h;rw [Nat.succ_add];exact⟨fun h0=>(h.1 h0).elim,fun i hi=>wpOp_of_qOp hw (fun a' w' hw'=>ih _ a' w' hw') (h.2 i hi).2⟩
theorem Q0M {n i:Nat} {oi:Oper} {v:Value} {L:Array Bool->Act->Prop} (hi:ops[i]?=some oi) (hsel:∀(j:Nat) (o:Oper) cs b,ops[j]?=some o->o.op≠.select cs b)
   (hs:Region.sinkB md ops n=true) (hc:Region.chainB md ops n=true) (hn:n<ops.size) (hin:i<n) (hdone:∀l a,L l a->∀j∈Region.ready md ops l,n<=j) :
   ∀(f:Nat) (l:Array Bool) (a:Act),HeadInv md ops n l ->
     (∀j oj,ops[j]?=some oj->j≠i->l.getD j true=false->(∀e∈oj.after,Region.binds md e=true->e.on≠i)->oi.apart ops oj=true) ->
     i∈Region.ready md ops l->YieldsIn P ops C oi v a ->
     Z3 P md ops C n L f (l.setIfInBounds i true) (a.put oi.dst v)->Z3 P md ops C n L (f+1) l a:=by
 intro f
 induction f with
 | zero =>
   intro l a inv hfr hr hy H;have hun:=(mem_ready.1 hr).1;have lt:∀j∈Region.ready md ops l,j<n:=fun j hj=>Nat.lt_of_not_le fun h=>tail_waits hs hc hn inv _ i rfl hin hun j h hj;refine⟨List.ne_nil_of_mem hr,fun j hj=>⟨lt j hj,?_⟩⟩;by_cases hji:j=i
   . subst hji;exact hy.qOp hi H
   have h1:=hdone _ _ H j (ready_mono hj hji);have h2:=lt j hj;omega
 | succ f ih =>
   intro l a inv hfr hr hy H;have hun:=(mem_ready.1 hr).1;have lt:∀j∈Region.ready md ops l,j<n:=fun j hj=>Nat.lt_of_not_le fun h=>tail_waits hs hc hn inv _ i rfl hin hun j h hj;refine⟨List.ne_nil_of_mem hr,fun j hj=>⟨lt j hj,?_⟩⟩;by_cases hji:j=i
   . subst hji;exact hy.qOp hi H
   obtain⟨hju,oj,hoj,hall⟩:=mem_ready.1 hj
   have hno:∀e∈oj.after,Region.binds md e=true->e.on≠i:=by
     intro e he hb heq;have:=hall e he hb;rw [heq,getD_both hun]at this;cases this
   have hst:=qOp_put hoj (hfr j oj hoj hji hju hno) (fun cs b=>hsel i oi cs b hi) (fun cs b=>hsel j oj cs b hoj) hy (H.2 j (ready_mono hj hji)).2;refine qOp_mono (fun a' h3=>ih _ a' (inv.set hj (lt j hj)) ?_ (ready_mono hr (Ne.symm hji)) h3.1 ?_) hst
   . intro k ok hk hki hku hkn
     refine hfr k ok hk hki ?_ hkn;by_cases hjk:j=k
     . subst hjk;exact hju
     rwa [getD_set_ne true hjk]at hku
   rw [Array.setIfInBounds_comm _ _ hji];exact h3.2
theorem Q3c {n g:Nat} {K:Act->Prop} (hsel:Region.noSelect ops=true) (hs:Region.sinkB md ops n=true) (hc:Region.chainB md ops n=true) (hn:n<ops.size) :
   ∀(os:List Oper) (k:Nat) (l:Array Bool) (a:Act),(∀j,j<os.length->os[j]?=ops[k+j]?)->k+os.length=n->HeadInv md ops n l ->
   Region.lexHead md ops g os.length k l=true->wpQuiet P ops C K os a->Z3 P md ops C n (fun l' a'=>Region.seqB md ops g n l'=true/\K a') os.length l a:=by
 intro os
 induction os with
 | nil =>
   intro k l a _ hk _ hB h;(obtain rfl:k=n:=by simpa using hk);exact⟨by simpa [Region.lexHead]using hB,h⟩
 | cons o os ih =>
   intro k l a hl hk inv hB h;rw [List.length_cons]at hk;(have h0:ops[k]?=some o:=by simpa using(hl 0 (by simp)).symm);simp only [List.length_cons,Region.lexHead,Bool.and_eq_true]at hB;(have hr:k∈Region.ready md ops l:=by simpa using hB.1.1);obtain⟨v,hy,hK⟩:=yieldsIn_of_qOp (P:=P) (C:=C) (K:=wpQuiet P ops C K os) h0 (by unfold qOp;simp only [h0];exact h)
   exact Q0M h0 (Region.noSelect_spec hsel) hs hc hn (by omega) (fun l' a' hL=>seqB_ready hL.1) os.length l a inv (Region.free_spec h0 hB.1.2) hr hy
     (ih (k+1) _ _ (fun j hj=>by have:=hl (j+1) (by simp;omega);simpa [Nat.add_assoc,Nat.add_comm 1 j]using this) (by omega) (inv.set hr (by omega)) hB.2 hK)
theorem Qv {id:Nat} {Q:Exit->Act->World->Prop} {a:Act} {w:World} {l:List Oper} (n:Nat) (hm:P.follows .mixedOrders=true) (hB:Region.lexTailB .any l.toArray n=true)
   (h:wpQuiet P l.toArray (fun w'=>∃n,w'=w.drewN n) (fun a'=>∀w',(∃n,w'=w.drewN n)->wpList P l.toArray Q (l.drop n) a' w') (l.take n) a):(Code.region id l.toArray true).wp P Q a w:=by
 simp only [Region.lexTailB,Bool.and_eq_true,decide_eq_true_eq]at hB;obtain⟨⟨⟨⟨hsel,hn⟩,hs⟩,hc⟩,hlex⟩:=hB;(have hn':n<l.length:=by simpa using hn);(have htl:(l.take n).length=n:=by rw [List.length_take];omega);(have hdl:(l.drop n).length=l.toArray.size-n:=by simp)
 have inv0:HeadInv .any l.toArray n (Array.replicate l.toArray.size false) :=
   ⟨by simp,fun j oj _ hl=>(by rw [getD_replicate_false]at hl;cases hl),fun t _ ht=>getD_in (by simpa using ht) (getD_replicate_false _ _)⟩
 have H:=Q3c (md:=.any) (g:=l.toArray.size-n) hsel hs hc hn (l.take n) 0 _ a (fun j hj=>by
   (have:j<n:=by omega)
   simp [this]) (by omega) inv0 (by rw [htl];exact hlex) h
 refine wp_region_any hm ?_
 have hq:=XA (Q:=Q) (g:=l.toArray.size-n) (fun l' a' w' hw hL=>by
   have:=wpAny_of_seq (md:=.any) (Q':=Q) (l.drop n) n l' a' w' (fun j=>by simp [List.getElem?_drop]) (by rw [hdl];exact hL.1) (hL.2 w' hw)
   rwa [hdl]at this) _ _ _ { w with drawn:=w.drawn+1 } ⟨1,rfl⟩ H
 rw [htl,show n+(l.toArray.size-n)=l.toArray.size by omega]at hq;exact hq
end
end Go.Proofs.YtckjdhaflokcgaaGreat
