/-
  Joined texts, part 6: contracts and plain lemmas.
  Conditions: none beyond those of each theorem.
-/
import Derived.Test.YtakjpcnhhkgfoaaGreatM3
import Derived.Lib.AppendZerosOnto
set_option linter.unusedVariables false
set_option linter.unusedSimpArgs false
set_option maxRecDepth 100000
universe u
namespace Go.Proofs.YtakjpcnhhkgfoaaGreat
open Go.RowKit

end Go.Proofs.YtakjpcnhhkgfoaaGreat
