/-
  Joined texts, part 12: contracts and plain lemmas.
  Conditions: none beyond those of each theorem.
-/
import Derived.Test.YtakjpcnhhkgfoaaGreatK4
import Derived.Lib.SmallJoins
set_option linter.unusedVariables false
set_option linter.unusedSimpArgs false
set_option maxRecDepth 100000
universe u
namespace Go.Proofs.YtakjpcnhhkgfoaaGreat
open Go.ChangeShapes Go.WideShapes Go.ChangeAt Go.RowKit Go.Joins

theorem Yb {H:Type} {enc:TypeId × Value->H} {P:Program} {w:World} {base:Nat} {spare:Nat->Bool} {held:Bool} {r:Reach} {b0:Nat} {t:TypeId} {v:Value} {d:DataW H} {ps:List MemPlace} (ht:P.underlying t=some .bool) (hval:Value.okWide P w r b0 t v)
   (hd:DataW.Trod enc P w base spare held t v d ps):∃b,v = .bool b/\d = .lit (.bool b)/\ps=[]:=by
 obtain⟨b,rfl⟩:=okWide_bool ht hval;obtain⟨fuel,hf⟩:=hd;obtain⟨b',h,hx⟩:=DataW.trod_bool ht hf;simp [Value.cells]at h;subst h;simp only [Prod.mk.injEq]at hx;exact⟨b,rfl,hx.1,hx.2⟩
end Go.Proofs.YtakjpcnhhkgfoaaGreat
