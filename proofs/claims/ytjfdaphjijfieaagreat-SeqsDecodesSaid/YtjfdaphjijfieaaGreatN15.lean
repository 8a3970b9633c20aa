/-
  Joined texts, part 15: contracts and plain lemmas.
  Conditions: none beyond those of each theorem.
-/
import Derived.Test.YtjfdaphjijfieaaGreatN4
import Derived.Test.YtjfdaphjijfieaaGreatShelf
import Derived.Lib.ItoaNum
set_option linter.unusedVariables false
set_option linter.unusedSimpArgs false
set_option maxRecDepth 100000
universe u
namespace Go.Proofs.YtjfdaphjijfieaaGreat
open Go.RowKit
def Q0p (N:List Int) (L:Int):Int :=
  if ¬(VC N/\0<ZN N)\/L<0\/(2:Int)^L.toNat<ZN N then -1
  else if ZN N=1 then 0 else min L (max (Lib.bitLen (ZN N-1):Nat) ((Lib.bitLen N.sum.toNat:Nat)-2))
end Go.Proofs.YtjfdaphjijfieaaGreat
