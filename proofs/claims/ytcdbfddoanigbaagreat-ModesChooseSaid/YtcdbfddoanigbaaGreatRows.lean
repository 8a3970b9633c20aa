/-
  No cell of these rows narrows 'for every input' (looked for: loops, veiled, ifaces, maps, wideKeys, modest, calm, conditions, laid).
  DERIVED. THE GIVEN ROWS OF THIS SEAT. 2 by the template 'for every input the law returns true; each argument reads behind the call as it read before'; 0 by the template 'total and deterministic' (their statements: YtcdbfddoanigbaaGreatTotals.lean).
  GIVEN WITH THE SEED: the statements are not yours to turn. If you find one false, say at which input.
  Laid BY PROGRAM, IN A SANDBOX (cutbox-rows.mjs): the forced cells as the released guide's own fill.sh prints them over the translation 4b66d91eda0c8367… (all of the seat's roots in one cut). By AI agents, Wed Nov 11 2026. No macro, syntax, notation, axiom, sorry.
-/
import Derived.Test.YtcdbfddoanigbaaGreatChecked
import GoSem.Claim
import GoSem.ClaimJoined
import GoSem.ClaimMapViews
import Derived.JoinedTies
import Derived.KernelRfl
namespace Go.Proofs.YtcdbfddoanigbaaGreat
/- THE CELL 'sum', in the pinned program and in every row, IS THE sha256 OF THE DUMP (.gsa) THAT YtcdbfddoanigbaaGreatProg.lean LOADS. Nothing in Lean hashes anything: it is a label: what it is worth is what the hold of that sum in a sandbox is worth. -/
noncomputable def Tryz.pinned : Pinned := { name := "ytcdbfddoanigbaagreat", sum := "4b66d91eda0c836753373b280d6c0f8e8f6b0945ff812e4f3831f5e59d499a48", checked := Tryz.checked }
namespace Rows
def none {H : Type} : Left H := { results := [], args := [] }

/-- 'portmanteaulaw24.ModesChoose': WHATEVER THE INPUT: true; the input reads as it did. -/
def modesChooseSpec : ChangeSpec := { name := "modesChoose", fn := fun _ => fun
  | [d1, d2, d3] => { results := [.lit (.bool true)], args := [d1, d2, d3] }
  | _ => none }
def modesChooseRow : OpenClaim := { program := "ytcdbfddoanigbaagreat", sum := "4b66d91eda0c836753373b280d6c0f8e8f6b0945ff812e4f3831f5e59d499a48", func := "portmanteau/portmanteaulaw24.ModesChoose", spec := "modesChoose", unfollowed := true, recurses := true, apart := false }
def ModesChooseSaid : Prop := modesChooseRow.holds Tryz.pinned (OpenSpec.ofChange modesChooseSpec)

/-- ITS FALSE NEIGHBOUR: 'it returns false'. Refute it at one input. -/
def modesChooseWrong : ChangeSpec := { name := "modesChoose", fn := fun _ => fun
  | [d1, d2, d3] => { results := [.lit (.bool false)], args := [d1, d2, d3] }
  | _ => none }
def ModesChooseWrongFalsely : Prop := modesChooseRow.holds Tryz.pinned (OpenSpec.ofChange modesChooseWrong)

/-- 'portmanteaulaw24.ModesGet': WHATEVER THE INPUT: true; the input reads as it did. -/
def modesGetSpec : ChangeSpec := { name := "modesGet", fn := fun _ => fun
  | [d1, d2, d3, d4] => { results := [.lit (.bool true)], args := [d1, d2, d3, d4] }
  | _ => none }
def modesGetRow : OpenClaim := { program := "ytcdbfddoanigbaagreat", sum := "4b66d91eda0c836753373b280d6c0f8e8f6b0945ff812e4f3831f5e59d499a48", func := "portmanteau/portmanteaulaw24.ModesGet", spec := "modesGet", unfollowed := true, recurses := true, apart := false }
def ModesGetSaid : Prop := modesGetRow.holds Tryz.pinned (OpenSpec.ofChange modesGetSpec)

/-- ITS FALSE NEIGHBOUR: 'it returns false'. Refute it at one input. -/
def modesGetWrong : ChangeSpec := { name := "modesGet", fn := fun _ => fun
  | [d1, d2, d3, d4] => { results := [.lit (.bool false)], args := [d1, d2, d3, d4] }
  | _ => none }
def ModesGetWrongFalsely : Prop := modesGetRow.holds Tryz.pinned (OpenSpec.ofChange modesGetWrong)

/- THE SECOND FORM. 'bulk': how many values and letters a reading holds, each counted each time it is reached (what is shared counts as often as it is met; a slice's spare places count too). A statement '..UptoSaid' is the law's where the arguments, and the package variables that the reading takes, are together of bulk at most 1048576: NARROWER than '..Said'. Prove '..Said' where nothing that the law and all that it calls make is longer than what came in: it says more and counts as full. Else prove '..UptoSaid'. A law counts once. -/
mutual
def uptoBulk {H : Type} : DataW H → Nat
  | .lit (.string bytes) => bytes.length + 1
  | .lit _ => 1
  | .nil => 1
  | .ptr d => uptoBulk d + 1
  | .slice elems spare => uptoBulkAll elems + uptoBulkAll spare + 1
  | .agg parts => uptoBulkAll parts + 1
  | .iface _ d => uptoBulk d + 1
  | .map entries => uptoBulkEntries entries + 1
  | .held _ => 1
def uptoBulkAll {H : Type} : List (DataW H) → Nat
  | [] => 0
  | d :: r => uptoBulk d + uptoBulkAll r
def uptoBulkEntries {H : Type} : List (Lit × DataW H) → Nat
  | [] => 0
  | x :: r => uptoBulkEntry x + uptoBulkEntries r
def uptoBulkEntry {H : Type} : Lit × DataW H → Nat
  | (.string bytes, d) => bytes.length + uptoBulk d + 1
  | (_, d) => uptoBulk d + 1
 end
def uptoSmall : (H : Type) → List (DataW H) → Bool := fun _ ds => decide (uptoBulkAll ds ≤ 1048576)
def OpenSpec.upto (s : _root_.Go.ChangeSpec) : _root_.Go.OpenSpec := { _root_.Go.OpenSpec.ofChange s with cond := some uptoSmall }

/-- 'portmanteaulaw24.ModesChoose', WHERE WHAT IT READS IS OF BULK AT MOST 1048576: true; the input reads as it did. -/
def modesChooseUptoRow : OpenClaim := { program := "ytcdbfddoanigbaagreat", sum := "4b66d91eda0c836753373b280d6c0f8e8f6b0945ff812e4f3831f5e59d499a48", func := "portmanteau/portmanteaulaw24.ModesChoose", spec := "modesChoose", unfollowed := true, recurses := true, apart := false, narrowed := true }
def ModesChooseUptoSaid : Prop := modesChooseUptoRow.holds Tryz.pinned (OpenSpec.upto modesChooseSpec)

/-- 'portmanteaulaw24.ModesGet', WHERE WHAT IT READS IS OF BULK AT MOST 1048576: true; the input reads as it did. -/
def modesGetUptoRow : OpenClaim := { program := "ytcdbfddoanigbaagreat", sum := "4b66d91eda0c836753373b280d6c0f8e8f6b0945ff812e4f3831f5e59d499a48", func := "portmanteau/portmanteaulaw24.ModesGet", spec := "modesGet", unfollowed := true, recurses := true, apart := false, narrowed := true }
def ModesGetUptoSaid : Prop := modesGetUptoRow.holds Tryz.pinned (OpenSpec.upto modesGetSpec)

end Rows
end Go.Proofs.YtcdbfddoanigbaaGreat
