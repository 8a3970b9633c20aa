/-
  Joined texts, part 8: contracts and plain lemmas.
  Conditions: none beyond those of each theorem.
-/
import Derived.Test.YtakjpcnhhkgfoaaGreatShelf
import Derived.Test.YtakjpcnhhkgfoaaGreatM4
import Derived.Test.YtakjpcnhhkgfoaaGreatM2
set_option linter.unusedVariables false
set_option linter.unusedSimpArgs false
set_option maxRecDepth 100000
universe u
namespace Go.Proofs.YtakjpcnhhkgfoaaGreat
open Go.RowKit

def Q1 (bs:List Nat):List Value:=bs.map fun b=>.int .u8 (b:Nat)
@[simp] theorem Q7 (bs:List Nat):(Q1 bs).length=bs.length:=by simp [Q1]
def Qa (w w':World) (v:Value) (bs:List Nat):Prop:=Own w' 5 v (Q1 bs)/\Q0 w w'/\∀k,v.ownBlock=some k->w.heap.size<=k
end Go.Proofs.YtakjpcnhhkgfoaaGreat
