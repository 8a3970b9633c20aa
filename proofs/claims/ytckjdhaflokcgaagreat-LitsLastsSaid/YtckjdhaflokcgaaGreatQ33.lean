/-
  Joined texts, part 33: contracts and plain lemmas.
  Conditions: none beyond those of each theorem.
-/
import Derived.RangeFuncNested
import Derived.RangeFuncBound
import Derived.Shelf.RegionOpen
import Derived.OwnWalkIn
import Derived.LoopNIn
import Derived.Sort.CutIn
import Derived.Test.YtckjdhaflokcgaaGreatQ11
import Derived.Test.YtckjdhaflokcgaaGreatQ5
set_option linter.unusedVariables false
set_option linter.unusedSimpArgs false
set_option linter.unnecessarySimpa false
set_option maxRecDepth 100000
universe u
namespace Go.Proofs.YtckjdhaflokcgaaGreat
open Go.RowKit Go.Shelf
attribute [local go_sem] Oper.semAt_some
def Q3l (s:Nat) (h:0<s):List { x:Nat // x<s }:=(List.range s).map fun k=>⟨k*Q3m s%s,Nat.mod_lt _ h⟩
@[simp] theorem Q3U (s:Nat) (h:0<s):(Q3l s h).length=s:=by simp [Q3l]
def Q4u (b:Nat) (W W':World):Prop:=∀v,W.cell? ⟨b,0,none⟩=some v->W'.cell? ⟨b,0,none⟩=some v
end Go.Proofs.YtckjdhaflokcgaaGreat
