/-
  No cell of these rows narrows 'for every input' (looked for: loops, veiled, ifaces, maps, wideKeys, modest, calm, conditions, laid).
  DERIVED. THE GIVEN ROWS OF THIS SEAT. 7 by the template 'for every input the law returns true; each argument reads behind the call as it read before'; 0 by the template 'total and deterministic' (their statements: YtcdbfddoanigbaaTotals.lean).
  GIVEN WITH THE SEED: the statements are not yours to turn. If you find one false, say at which input.
  Laid BY PROGRAM, IN A SANDBOX (cutbox-rows.mjs): the forced cells as the released guide's own fill.sh prints them over the translation 5da05a601e1cb87b… (all of the seat's roots in one cut). By AI agents, Wed Nov 11 2026. No macro, syntax, notation, axiom, sorry.
-/
import Derived.Test.YtcdbfddoanigbaaChecked
import GoSem.Claim
import GoSem.ClaimJoined
import GoSem.ClaimMapViews
import Derived.JoinedTies
import Derived.KernelRfl
namespace Go.Proofs.Ytcdbfddoanigbaa
/- THE CELL 'sum', in the pinned program and in every row, IS THE sha256 OF THE DUMP (.gsa) THAT YtcdbfddoanigbaaProg.lean LOADS. Nothing in Lean hashes anything: it is a label: what it is worth is what the hold of that sum in a sandbox is worth. -/
noncomputable def Try.pinned : Pinned := { name := "ytcdbfddoanigbaa", sum := "5da05a601e1cb87b9882d73e5eae30beb0ceb0c2239e2f7e05c291b2dd60defe", checked := Try.checked }
namespace Rows
def none {H : Type} : Left H := { results := [], args := [] }

/-- 'portmanteaulaw24.ModesPut': WHATEVER THE INPUT: true; the input reads as it did. -/
def modesPutSpec : ChangeSpec := { name := "modesPut", fn := fun _ => fun
  | [d1, d2, d3] => { results := [.lit (.bool true)], args := [d1, d2, d3] }
  | _ => none }
def modesPutRow : OpenClaim := { program := "ytcdbfddoanigbaa", sum := "5da05a601e1cb87b9882d73e5eae30beb0ceb0c2239e2f7e05c291b2dd60defe", func := "portmanteau/portmanteaulaw24.ModesPut", spec := "modesPut", unfollowed := true, recurses := true, apart := false }
def ModesPutSaid : Prop := modesPutRow.holds Try.pinned (OpenSpec.ofChange modesPutSpec)

/-- ITS FALSE NEIGHBOUR: 'it returns false'. Refute it at one input. -/
def modesPutWrong : ChangeSpec := { name := "modesPut", fn := fun _ => fun
  | [d1, d2, d3] => { results := [.lit (.bool false)], args := [d1, d2, d3] }
  | _ => none }
def ModesPutWrongFalsely : Prop := modesPutRow.holds Try.pinned (OpenSpec.ofChange modesPutWrong)

/-- 'portmanteaulaw24.ModesPrice': WHATEVER THE INPUT: true; the input reads as it did. -/
def modesPriceSpec : ChangeSpec := { name := "modesPrice", fn := fun _ => fun
  | [d1, d2] => { results := [.lit (.bool true)], args := [d1, d2] }
  | _ => none }
def modesPriceRow : OpenClaim := { program := "ytcdbfddoanigbaa", sum := "5da05a601e1cb87b9882d73e5eae30beb0ceb0c2239e2f7e05c291b2dd60defe", func := "portmanteau/portmanteaulaw24.ModesPrice", spec := "modesPrice", unfollowed := true, recurses := true, apart := false }
def ModesPriceSaid : Prop := modesPriceRow.holds Try.pinned (OpenSpec.ofChange modesPriceSpec)

/-- ITS FALSE NEIGHBOUR: 'it returns false'. Refute it at one input. -/
def modesPriceWrong : ChangeSpec := { name := "modesPrice", fn := fun _ => fun
  | [d1, d2] => { results := [.lit (.bool false)], args := [d1, d2] }
  | _ => none }
def ModesPriceWrongFalsely : Prop := modesPriceRow.holds Try.pinned (OpenSpec.ofChange modesPriceWrong)

/-- 'portmanteaulaw24.ModesFits': WHATEVER THE INPUT: true; the input reads as it did. -/
def modesFitsSpec : ChangeSpec := { name := "modesFits", fn := fun _ => fun
  | [d1, d2, d3] => { results := [.lit (.bool true)], args := [d1, d2, d3] }
  | _ => none }
def modesFitsRow : OpenClaim := { program := "ytcdbfddoanigbaa", sum := "5da05a601e1cb87b9882d73e5eae30beb0ceb0c2239e2f7e05c291b2dd60defe", func := "portmanteau/portmanteaulaw24.ModesFits", spec := "modesFits", unfollowed := true, recurses := true, apart := false }
def ModesFitsSaid : Prop := modesFitsRow.holds Try.pinned (OpenSpec.ofChange modesFitsSpec)

/-- ITS FALSE NEIGHBOUR: 'it returns false'. Refute it at one input. -/
def modesFitsWrong : ChangeSpec := { name := "modesFits", fn := fun _ => fun
  | [d1, d2, d3] => { results := [.lit (.bool false)], args := [d1, d2, d3] }
  | _ => none }
def ModesFitsWrongFalsely : Prop := modesFitsRow.holds Try.pinned (OpenSpec.ofChange modesFitsWrong)

/-- 'portmanteaulaw24.ModesCuts': WHATEVER THE INPUT: true; the input reads as it did. -/
def modesCutsSpec : ChangeSpec := { name := "modesCuts", fn := fun _ => fun
  | [d1, d2, d3, d4] => { results := [.lit (.bool true)], args := [d1, d2, d3, d4] }
  | _ => none }
def modesCutsRow : OpenClaim := { program := "ytcdbfddoanigbaa", sum := "5da05a601e1cb87b9882d73e5eae30beb0ceb0c2239e2f7e05c291b2dd60defe", func := "portmanteau/portmanteaulaw24.ModesCuts", spec := "modesCuts", unfollowed := true, recurses := true, apart := false }
def ModesCutsSaid : Prop := modesCutsRow.holds Try.pinned (OpenSpec.ofChange modesCutsSpec)

/-- ITS FALSE NEIGHBOUR: 'it returns false'. Refute it at one input. -/
def modesCutsWrong : ChangeSpec := { name := "modesCuts", fn := fun _ => fun
  | [d1, d2, d3, d4] => { results := [.lit (.bool false)], args := [d1, d2, d3, d4] }
  | _ => none }
def ModesCutsWrongFalsely : Prop := modesCutsRow.holds Try.pinned (OpenSpec.ofChange modesCutsWrong)

/-- 'portmanteaulaw24.ModesNil': WHATEVER THE INPUT: true; the input reads as it did. -/
def modesNilSpec : ChangeSpec := { name := "modesNil", fn := fun _ => fun
  | [d1, d2, d3, d4] => { results := [.lit (.bool true)], args := [d1, d2, d3, d4] }
  | _ => none }
def modesNilRow : OpenClaim := { program := "ytcdbfddoanigbaa", sum := "5da05a601e1cb87b9882d73e5eae30beb0ceb0c2239e2f7e05c291b2dd60defe", func := "portmanteau/portmanteaulaw24.ModesNil", spec := "modesNil", unfollowed := true, recurses := true, apart := false }
def ModesNilSaid : Prop := modesNilRow.holds Try.pinned (OpenSpec.ofChange modesNilSpec)

/-- ITS FALSE NEIGHBOUR: 'it returns false'. Refute it at one input. -/
def modesNilWrong : ChangeSpec := { name := "modesNil", fn := fun _ => fun
  | [d1, d2, d3, d4] => { results := [.lit (.bool false)], args := [d1, d2, d3, d4] }
  | _ => none }
def ModesNilWrongFalsely : Prop := modesNilRow.holds Try.pinned (OpenSpec.ofChange modesNilWrong)

/-- 'portmanteaulaw24.ModesBack': WHATEVER THE INPUT: true; the input reads as it did. -/
def modesBackSpec : ChangeSpec := { name := "modesBack", fn := fun _ => fun
  | [d1, d2, d3, d4] => { results := [.lit (.bool true)], args := [d1, d2, d3, d4] }
  | _ => none }
def modesBackRow : OpenClaim := { program := "ytcdbfddoanigbaa", sum := "5da05a601e1cb87b9882d73e5eae30beb0ceb0c2239e2f7e05c291b2dd60defe", func := "portmanteau/portmanteaulaw24.ModesBack", spec := "modesBack", unfollowed := true, recurses := true, apart := false }
def ModesBackSaid : Prop := modesBackRow.holds Try.pinned (OpenSpec.ofChange modesBackSpec)

/-- ITS FALSE NEIGHBOUR: 'it returns false'. Refute it at one input. -/
def modesBackWrong : ChangeSpec := { name := "modesBack", fn := fun _ => fun
  | [d1, d2, d3, d4] => { results := [.lit (.bool false)], args := [d1, d2, d3, d4] }
  | _ => none }
def ModesBackWrongFalsely : Prop := modesBackRow.holds Try.pinned (OpenSpec.ofChange modesBackWrong)

/-- 'portmanteaulaw24.ModesOnce': WHATEVER THE INPUT: true; the input reads as it did. -/
def modesOnceSpec : ChangeSpec := { name := "modesOnce", fn := fun _ => fun
  | [d1, d2, d3, d4] => { results := [.lit (.bool true)], args := [d1, d2, d3, d4] }
  | _ => none }
def modesOnceRow : OpenClaim := { program := "ytcdbfddoanigbaa", sum := "5da05a601e1cb87b9882d73e5eae30beb0ceb0c2239e2f7e05c291b2dd60defe", func := "portmanteau/portmanteaulaw24.ModesOnce", spec := "modesOnce", unfollowed := true, recurses := true, apart := false }
def ModesOnceSaid : Prop := modesOnceRow.holds Try.pinned (OpenSpec.ofChange modesOnceSpec)

/-- ITS FALSE NEIGHBOUR: 'it returns false'. Refute it at one input. -/
def modesOnceWrong : ChangeSpec := { name := "modesOnce", fn := fun _ => fun
  | [d1, d2, d3, d4] => { results := [.lit (.bool false)], args := [d1, d2, d3, d4] }
  | _ => none }
def ModesOnceWrongFalsely : Prop := modesOnceRow.holds Try.pinned (OpenSpec.ofChange modesOnceWrong)

/- THE SECOND FORM. 'bulk': how many values and letters a reading holds, each counted each time it is reached (what is shared counts as often as it is met; a slice's spare places count too). A statement '..UptoSaid' is the law's where the arguments, and the package variables that the reading takes, are together of bulk at most 1048576: NARROWER than '..Said'. Prove '..Said' where nothing that the law and all that it calls make is longer than what came in: it says more and counts as full. Else prove '..UptoSaid'. A law counts once. -/
mutual
def uptoBulk {H : Type} : DataW H → Nat
  | .lit (.string bytes) => bytes.length + 1
  | .lit _ => 1
  | .nil => 1
  | .ptr d => uptoBulk d + 1
  | .slice elems spare => uptoBulkAll elems + uptoBulkAll spare + 1
  | .agg parts => uptoBulkAll parts + 1
  | .iface _ d => uptoBulk d + 1
  | .map entries => uptoBulkEntries entries + 1
  | .held _ => 1
def uptoBulkAll {H : Type} : List (DataW H) → Nat
  | [] => 0
  | d :: r => uptoBulk d + uptoBulkAll r
def uptoBulkEntries {H : Type} : List (Lit × DataW H) → Nat
  | [] => 0
  | x :: r => uptoBulkEntry x + uptoBulkEntries r
def uptoBulkEntry {H : Type} : Lit × DataW H → Nat
  | (.string bytes, d) => bytes.length + uptoBulk d + 1
  | (_, d) => uptoBulk d + 1
 end
def uptoSmall : (H : Type) → List (DataW H) → Bool := fun _ ds => decide (uptoBulkAll ds ≤ 1048576)
def OpenSpec.upto (s : _root_.Go.ChangeSpec) : _root_.Go.OpenSpec := { _root_.Go.OpenSpec.ofChange s with cond := some uptoSmall }

/-- 'portmanteaulaw24.ModesPut', WHERE WHAT IT READS IS OF BULK AT MOST 1048576: true; the input reads as it did. -/
def modesPutUptoRow : OpenClaim := { program := "ytcdbfddoanigbaa", sum := "5da05a601e1cb87b9882d73e5eae30beb0ceb0c2239e2f7e05c291b2dd60defe", func := "portmanteau/portmanteaulaw24.ModesPut", spec := "modesPut", unfollowed := true, recurses := true, apart := false, narrowed := true }
def ModesPutUptoSaid : Prop := modesPutUptoRow.holds Try.pinned (OpenSpec.upto modesPutSpec)

/-- 'portmanteaulaw24.ModesPrice', WHERE WHAT IT READS IS OF BULK AT MOST 1048576: true; the input reads as it did. -/
def modesPriceUptoRow : OpenClaim := { program := "ytcdbfddoanigbaa", sum := "5da05a601e1cb87b9882d73e5eae30beb0ceb0c2239e2f7e05c291b2dd60defe", func := "portmanteau/portmanteaulaw24.ModesPrice", spec := "modesPrice", unfollowed := true, recurses := true, apart := false, narrowed := true }
def ModesPriceUptoSaid : Prop := modesPriceUptoRow.holds Try.pinned (OpenSpec.upto modesPriceSpec)

/-- 'portmanteaulaw24.ModesFits', WHERE WHAT IT READS IS OF BULK AT MOST 1048576: true; the input reads as it did. -/
def modesFitsUptoRow : OpenClaim := { program := "ytcdbfddoanigbaa", sum := "5da05a601e1cb87b9882d73e5eae30beb0ceb0c2239e2f7e05c291b2dd60defe", func := "portmanteau/portmanteaulaw24.ModesFits", spec := "modesFits", unfollowed := true, recurses := true, apart := false, narrowed := true }
def ModesFitsUptoSaid : Prop := modesFitsUptoRow.holds Try.pinned (OpenSpec.upto modesFitsSpec)

/-- 'portmanteaulaw24.ModesCuts', WHERE WHAT IT READS IS OF BULK AT MOST 1048576: true; the input reads as it did. -/
def modesCutsUptoRow : OpenClaim := { program := "ytcdbfddoanigbaa", sum := "5da05a601e1cb87b9882d73e5eae30beb0ceb0c2239e2f7e05c291b2dd60defe", func := "portmanteau/portmanteaulaw24.ModesCuts", spec := "modesCuts", unfollowed := true, recurses := true, apart := false, narrowed := true }
def ModesCutsUptoSaid : Prop := modesCutsUptoRow.holds Try.pinned (OpenSpec.upto modesCutsSpec)

/-- 'portmanteaulaw24.ModesNil', WHERE WHAT IT READS IS OF BULK AT MOST 1048576: true; the input reads as it did. -/
def modesNilUptoRow : OpenClaim := { program := "ytcdbfddoanigbaa", sum := "5da05a601e1cb87b9882d73e5eae30beb0ceb0c2239e2f7e05c291b2dd60defe", func := "portmanteau/portmanteaulaw24.ModesNil", spec := "modesNil", unfollowed := true, recurses := true, apart := false, narrowed := true }
def ModesNilUptoSaid : Prop := modesNilUptoRow.holds Try.pinned (OpenSpec.upto modesNilSpec)

/-- 'portmanteaulaw24.ModesBack', WHERE WHAT IT READS IS OF BULK AT MOST 1048576: true; the input reads as it did. -/
def modesBackUptoRow : OpenClaim := { program := "ytcdbfddoanigbaa", sum := "5da05a601e1cb87b9882d73e5eae30beb0ceb0c2239e2f7e05c291b2dd60defe", func := "portmanteau/portmanteaulaw24.ModesBack", spec := "modesBack", unfollowed := true, recurses := true, apart := false, narrowed := true }
def ModesBackUptoSaid : Prop := modesBackUptoRow.holds Try.pinned (OpenSpec.upto modesBackSpec)

/-- 'portmanteaulaw24.ModesOnce', WHERE WHAT IT READS IS OF BULK AT MOST 1048576: true; the input reads as it did. -/
def modesOnceUptoRow : OpenClaim := { program := "ytcdbfddoanigbaa", sum := "5da05a601e1cb87b9882d73e5eae30beb0ceb0c2239e2f7e05c291b2dd60defe", func := "portmanteau/portmanteaulaw24.ModesOnce", spec := "modesOnce", unfollowed := true, recurses := true, apart := false, narrowed := true }
def ModesOnceUptoSaid : Prop := modesOnceUptoRow.holds Try.pinned (OpenSpec.upto modesOnceSpec)

end Rows
end Go.Proofs.Ytcdbfddoanigbaa
