/-
  Joined texts, part 34: contracts and plain lemmas.
  Conditions: none beyond those of each theorem.
-/
import Derived.RangeFuncNested
import Derived.RangeFuncBound
import Derived.Shelf.RegionOpen
import Derived.OwnWalkIn
import Derived.LoopNIn
import Derived.Sort.CutIn
import Derived.Test.YtckjdhaflokcgaaGreatP11
import Derived.Test.YtckjdhaflokcgaaGreatP5
set_option linter.unusedVariables false
set_option linter.unusedSimpArgs false
set_option linter.unnecessarySimpa false
set_option maxRecDepth 100000
universe u
namespace Go.Proofs.YtckjdhaflokcgaaGreat
open Go.RowKit Go.Shelf
attribute [local go_sem] Oper.semAt_some
def Q1X (s:Nat) (h:0<s):List { x:Nat // x<s }:=(List.range s).map fun k=>⟨k*Q1Y s%s,Nat.mod_lt _ h⟩
@[simp] theorem Q2t (s:Nat) (h:0<s):(Q1X s h).length=s:=by simp [Q1X]
def Q2T (b:Nat) (W W':World):Prop:=∀v,W.cell? ⟨b,0,none⟩=some v->W'.cell? ⟨b,0,none⟩=some v
end Go.Proofs.YtckjdhaflokcgaaGreat
