/-
  Joined texts, part 21: contracts and plain lemmas.
  Conditions: none beyond those of each theorem.
-/
import Derived.Test.YtjfdaphjijfieaaGreatL4
import Derived.Lib.SmallJoins
set_option linter.unusedVariables false
set_option linter.unusedSimpArgs false
set_option maxRecDepth 100000
universe u
namespace Go.Proofs.YtjfdaphjijfieaaGreat
open Go.ChangeShapes Go.WideShapes Go.ChangeAt Go.RowKit Go.Joins
theorem Q68 {k:Int} (h:(Lit.int .i64 k).wf=true):-9223372036854775808<=k/\k<=9223372036854775807:=by
 unfold Lit.wf at h;simp only [Bool.and_eq_true,decide_eq_true_eq]at h;(have h1:IntKind.i64.min=-9223372036854775808:=by decide);(have h2:IntKind.i64.max=9223372036854775807:=by decide);omega
theorem Q51 {W:World} {x:Addr} {zs:List Int} {n:Nat} (hl:n<=zs.length) (h:∀i,i<zs.length->W.cell? (x.add i)=some (.int .i64 (zs.getD i 0))):Rd W (fun _=>True) (some x) n (Q2 (zs.take n)):=by
 refine⟨by simp;omega,fun hn=>?_⟩;obtain⟨b,o,rfl,hc⟩:=ints_at h (by omega);refine⟨b,o,rfl,trivial,World.block_lt_of_cell? _ _ (hc 0 (by omega)),fun j hj=>?_⟩;rw [hc j (by omega),Q10 (by simp;omega)];simp [List.getD_eq_getElem?_getD,List.getElem?_eq_getElem (show j<zs.length by omega)]
theorem Q34:Tryz.prog.cellsOf 23=3:=by kernel_rfl
end Go.Proofs.YtjfdaphjijfieaaGreat
