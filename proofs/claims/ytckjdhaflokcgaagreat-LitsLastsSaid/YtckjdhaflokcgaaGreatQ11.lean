/-
  Joined texts, part 11: contracts and plain lemmas.
  Conditions: none beyond those of each theorem.
-/
import Derived.Test.YtckjdhaflokcgaaGreatQ7
import Derived.Sort.QuietIn
set_option linter.unusedVariables false
set_option linter.unusedSimpArgs false
set_option linter.unnecessarySimpa false
set_option maxRecDepth 100000
universe u
namespace Go.Proofs.YtckjdhaflokcgaaGreat
open Go.RowKit
section
variable {F:Fence} {n:Nat} {P:Program} {ops:Array Oper} {md:Region.Mode} {C:World->Prop}
def Jl (F:Fence) (n:Nat) (P:Program) (md:Region.Mode) (ops:Array Oper) (C:World->Prop) (m:Nat) (L:Array Bool->Act->Prop):Nat->Array Bool->Act->Prop
  | 0,listed,a=>L listed a
  | f+1,listed,a=>Region.ready md ops listed≠[]/\∀i∈Region.ready md ops listed,i<m/\qOpIn F n P ops C i (Jl F n P md ops C m L f (listed.setIfInBounds i true)) a
theorem JX {Q':Exit->Act->World->Prop}:∀(l:List Oper) (k:Nat) (listed:Array Bool) (a:Act) (w:World),(∀j,l[j]?=ops[k+j]?) ->
   Region.seqB md ops l.length k listed=true->wpListIn F n P ops Q' l a w->wpAnyIn F n P md ops Q' l.length listed a w
 | [],_,_,_,_,_,hB,h=>⟨by simpa [Region.seqB]using hB,h⟩
 | o::l,k,listed,a,w,hl,hB,h=>by
   have h0:ops[k]?=some o:=by simpa using(hl 0).symm
   simp only [List.length_cons,Region.seqB,Bool.and_eq_true,decide_eq_true_eq]at hB
   refine⟨fun h1=>(by rw [hB.1]at h1;cases h1),fun i hi=>?_⟩
   rw [hB.1]at hi
   have hik:i=k:=by simpa using hi
   subst hik
   have hw:wpOpIn F n P ops Q' i (wpListIn F n P ops Q' l) a w:=by unfold wpOpIn;simp only [h0];exact h
   exact wpOpIn_mono (fun a' w' h'=>JX l (i+1) _ a' w' (fun j=>by have:=hl (j+1);simpa [Nat.add_assoc,Nat.add_comm 1 j]using this) hB.2 h') hw
theorem KQ (hro:F.round=none) {m g:Nat} {L:Array Bool->Act->Prop} {Q:Exit->Act->World->Prop} (hL:∀l a w,C w->L l a->wpAnyIn F n P md ops Q g l a w) :
   ∀(f:Nat) (l:Array Bool) (a:Act) (w:World),C w->Jl F n P md ops C m L f l a->wpAnyIn F n P md ops Q (f+g) l a w:=by
 intro f
 induction f with
 | zero=>intro l a w hw h;rw [Nat.zero_add];exact hL _ _ _ hw h
 | succ f ih =>
   intro l a w hw h;rw [Nat.succ_add];exact⟨fun h0=>(h.1 h0).elim,fun i hi=>wpOpIn_of_qOpIn hro hw (fun a' w' hw'=>ih _ a' w' hw') (h.2 i hi).2⟩
theorem Vy {m i:Nat} {oi:Oper} {v:Value} {L:Array Bool->Act->Prop} (hi:ops[i]?=some oi) (hsel:∀(j:Nat) (o:Oper) cs b,ops[j]?=some o->o.op≠.select cs b)
   (hs:Region.sinkB md ops m=true) (hc:Region.chainB md ops m=true) (hn:m<ops.size) (hin:i<m) (hdone:∀l a,L l a->∀j∈Region.ready md ops l,m<=j) :
   ∀(f:Nat) (l:Array Bool) (a:Act),HeadInv md ops m l ->
     (∀j oj,ops[j]?=some oj->j≠i->l.getD j true=false->(∀e∈oj.after,Region.binds md e=true->e.on≠i)->oi.apart ops oj=true) ->
     i∈Region.ready md ops l->YieldsQuiet F n P ops C oi v a ->
     Jl F n P md ops C m L f (l.setIfInBounds i true) (a.put oi.dst v)->Jl F n P md ops C m L (f+1) l a:=by
 intro f
 induction f with
 | zero =>
   intro l a inv hfr hr hy H;have hun:=(mem_ready.1 hr).1;have lt:∀j∈Region.ready md ops l,j<m:=fun j hj=>Nat.lt_of_not_le fun h=>tail_waits hs hc hn inv _ i rfl hin hun j h hj;refine⟨List.ne_nil_of_mem hr,fun j hj=>⟨lt j hj,?_⟩⟩;by_cases hji:j=i
   . subst hji;exact hy.qOpIn hi H
   have h1:=hdone _ _ H j (ready_mono hj hji);have h2:=lt j hj;omega
 | succ f ih =>
   intro l a inv hfr hr hy H;have hun:=(mem_ready.1 hr).1;have lt:∀j∈Region.ready md ops l,j<m:=fun j hj=>Nat.lt_of_not_le fun h=>tail_waits hs hc hn inv _ i rfl hin hun j h hj;refine⟨List.ne_nil_of_mem hr,fun j hj=>⟨lt j hj,?_⟩⟩;by_cases hji:j=i
   . subst hji;exact hy.qOpIn hi H
   obtain⟨hju,oj,hoj,hall⟩:=mem_ready.1 hj
   have hno:∀e∈oj.after,Region.binds md e=true->e.on≠i:=by
     intro e he hb heq;have:=hall e he hb;rw [heq,getD_both hun]at this;cases this
   have hst:=qOpIn_put hoj (hfr j oj hoj hji hju hno) (fun cs b=>hsel i oi cs b hi) (fun cs b=>hsel j oj cs b hoj) hy (H.2 j (ready_mono hj hji)).2;refine qOpIn_mono (fun a' h3=>ih _ a' (inv.set hj (lt j hj)) ?_ (ready_mono hr (Ne.symm hji)) h3.1 ?_) hst
   . intro k ok hk hki hku hkn
     refine hfr k ok hk hki ?_ hkn;by_cases hjk:j=k
     . subst hjk;exact hju
     rwa [getD_set_ne true hjk]at hku
   rw [Array.setIfInBounds_comm _ _ hji];exact h3.2
theorem Xl {m g:Nat} {K:Act->Prop} (hsel:Region.noSelect ops=true) (hs:Region.sinkB md ops m=true) (hc:Region.chainB md ops m=true) (hn:m<ops.size) :
   ∀(os:List Oper) (k:Nat) (l:Array Bool) (a:Act),(∀j,j<os.length->os[j]?=ops[k+j]?)->k+os.length=m->HeadInv md ops m l ->
   Region.lexHead md ops g os.length k l=true->wpQuietIn F n P ops C K os a->Jl F n P md ops C m (fun l' a'=>Region.seqB md ops g m l'=true/\K a') os.length l a:=by
 intro os
 induction os with
 | nil =>
   intro k l a _ hk _ hB h;(obtain rfl:k=m:=by simpa using hk);exact⟨by simpa [Region.lexHead]using hB,h⟩
 | cons o os ih =>
   intro k l a hl hk inv hB h;rw [List.length_cons]at hk;(have h0:ops[k]?=some o:=by simpa using(hl 0 (by simp)).symm);simp only [List.length_cons,Region.lexHead,Bool.and_eq_true]at hB;(have hr:k∈Region.ready md ops l:=by simpa using hB.1.1);obtain⟨v,hy,hK⟩:=yieldsQuiet_of_qOpIn (F:=F) (n:=n) (P:=P) (C:=C) (K:=wpQuietIn F n P ops C K os) h0 (by unfold qOpIn;simp only [h0];exact h)
   exact Vy h0 (Region.noSelect_spec hsel) hs hc hn (by omega) (fun l' a' hL=>seqB_ready hL.1) os.length l a inv (Region.free_spec h0 hB.1.2) hr hy
     (ih (k+1) _ _ (fun j hj=>by have:=hl (j+1) (by simp;omega);simpa [Nat.add_assoc,Nat.add_comm 1 j]using this) (by omega) (inv.set hr (by omega)) hB.2 hK)
end
end Go.Proofs.YtckjdhaflokcgaaGreat
