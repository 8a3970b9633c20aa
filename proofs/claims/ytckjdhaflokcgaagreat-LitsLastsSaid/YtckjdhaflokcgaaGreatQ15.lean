/-
  Joined texts, part 15: contracts and plain lemmas.
  Conditions: none beyond those of each theorem.
-/
import Derived.Maps.OwnIn
import Derived.Test.YtckjdhaflokcgaaGreatQ4
set_option linter.unusedVariables false
set_option linter.unusedSimpArgs false
set_option linter.unnecessarySimpa false
set_option maxRecDepth 100000
universe u
namespace Go.Proofs.YtckjdhaflokcgaaGreat
open Go.RowKit
def Q4v (w:World) (P:Program) (k e:TypeId) (b n cnt:Nat) (f:Int->Option Int):Prop :=
  ∃D:DataW Unit,w.ownsMap P k (plainElem P e) b n D/\Maps.Tidy D/\Maps.size D=cnt /\
    ∀x:Int,(Lit.int .i64 x).wf=true->Maps.has D (.int .i64 x)=(f x).isSome/\D.atKey (.int .i64 x) (.lit (.int .i64 0)) = .lit (.int .i64 ((f x).getD 0))
def Q4N (f:Int->Option Int) (k v:Int):Int->Option Int:=fun x=>if x=k then some v else f x
def Q4O (f:Int->Option Int) (k:Int) (cnt:Nat):Nat:=if(f k).isSome then cnt else cnt+1
section
variable {w w':World} {P:Program} {k e:TypeId} {b n cnt:Nat} {f:Int->Option Int}
end
section
variable {P:Program} (w:World) {ops:Array Oper} {rest:List Oper} {o:Oper} {a:Act} {Q:Exit->Act->World->Prop}
variable {F:Fence} {nF:Nat}
end
end Go.Proofs.YtckjdhaflokcgaaGreat
