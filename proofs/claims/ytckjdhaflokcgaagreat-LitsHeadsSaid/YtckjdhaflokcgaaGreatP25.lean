/-
  Joined texts, part 25: contracts and plain lemmas.
  Conditions: none beyond those of each theorem.
-/
import Derived.Test.YtckjdhaflokcgaaGreatShelf
import Derived.Test.YtckjdhaflokcgaaGreatP19
set_option linter.unusedVariables false
set_option linter.unusedSimpArgs false
set_option linter.unnecessarySimpa false
set_option maxRecDepth 100000
universe u
namespace Go.Proofs.YtckjdhaflokcgaaGreat
open Go.RowKit

def Q4 (bs:List Nat):List Value:=bs.map fun b=>.int .u8 (b:Nat)
@[simp] theorem Qh (bs:List Nat):(Q4 bs).length=bs.length:=by simp [Q4]
theorem Y4 (bs:List Nat):∀u∈Q4 bs,u.oneCell'=true:=by
 intro u hu;obtain⟨_,_,rfl⟩:=List.mem_map.1 hu;rfl
def Qi (w w':World) (v:Value) (bs:List Nat):Prop:=Own w' 5 v (Q4 bs)/\Q0 w w'/\∀k,v.ownBlock=some k->w.heap.size<=k
def Xp (L:List Bool):List Value:=L.map Value.bool
@[simp] theorem Q2q (L:List Bool):(Xp L).length=L.length:=by simp [Xp]
def Q35 (w w':World) (v:Value) (L:List Bool):Prop:=Own w' 4 v (Xp L)/\Q0 w w'/\∀k,v.ownBlock=some k->w.heap.size<=k

end Go.Proofs.YtckjdhaflokcgaaGreat
