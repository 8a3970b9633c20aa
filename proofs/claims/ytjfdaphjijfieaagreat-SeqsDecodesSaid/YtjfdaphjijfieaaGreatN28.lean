/-
  Joined texts, part 28: contracts and plain lemmas.
  Conditions: none beyond those of each theorem.
-/
import Derived.Test.YtjfdaphjijfieaaGreatN11
import Derived.Test.YtjfdaphjijfieaaGreatN26
set_option linter.unusedVariables false
set_option linter.unusedSimpArgs false
set_option maxRecDepth 100000
universe u
namespace Go.Proofs.YtjfdaphjijfieaaGreat
open Go.RowKit
def Q5h (v:Nat):Nat:=if v<16 then v else 8+2*(Lib.bitLen v-1)+v / 2^(Lib.bitLen v-2)%2
def Q6D (v:Nat):Nat:=Lib.bitLen v-1
end Go.Proofs.YtjfdaphjijfieaaGreat
