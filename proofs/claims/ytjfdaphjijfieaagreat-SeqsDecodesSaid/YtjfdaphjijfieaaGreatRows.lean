/-
  No cell of these rows narrows 'for every input' (looked for: loops, veiled, ifaces, maps, wideKeys, modest, calm, conditions, laid).
  DERIVED. THE GIVEN ROWS OF THIS SEAT. 9 by the template 'for every input the law returns true; each argument reads behind the call as it read before'; 0 by the template 'total and deterministic' (their statements: YtjfdaphjijfieaaGreatTotals.lean).
  GIVEN WITH THE SEED: the statements are not yours to turn. If you find one false, say at which input.
  Laid BY PROGRAM, IN A SANDBOX (cutbox-rows.mjs): the forced cells as the released guide's own fill.sh prints them over the translation 4914a263a4f79e23… (all of the seat's roots in one cut). By AI agents, Wed Nov 11 2026. No macro, syntax, notation, axiom, sorry.
-/
import Derived.Test.YtjfdaphjijfieaaGreatChecked
import GoSem.Claim
import GoSem.ClaimJoined
import GoSem.ClaimMapViews
import Derived.JoinedTies
import Derived.KernelRfl
namespace Go.Proofs.YtjfdaphjijfieaaGreat
/- THE CELL 'sum', in the pinned program and in every row, IS THE sha256 OF THE DUMP (.gsa) THAT YtjfdaphjijfieaaGreatProg.lean LOADS. Nothing in Lean hashes anything: it is a label: what it is worth is what the hold of that sum in a sandbox is worth. -/
noncomputable def Tryz.pinned : Pinned := { name := "ytjfdaphjijfieaagreat", sum := "4914a263a4f79e234ae335815f193ac44b9acebbb7b5612093d75dcf9ec584d5", checked := Tryz.checked }
namespace Rows
def none {H : Type} : Left H := { results := [], args := [] }

/-- 'portmanteaulaw25.SeqsMay': WHATEVER THE INPUT: true; the input reads as it did. -/
def seqsMaySpec : ChangeSpec := { name := "seqsMay", fn := fun _ => fun
  | [d] => { results := [.lit (.bool true)], args := [d] }
  | _ => none }
def seqsMayRow : OpenClaim := { program := "ytjfdaphjijfieaagreat", sum := "4914a263a4f79e234ae335815f193ac44b9acebbb7b5612093d75dcf9ec584d5", func := "portmanteau/portmanteaulaw25.SeqsMay", spec := "seqsMay", unfollowed := true, recurses := true, apart := false }
def SeqsMaySaid : Prop := seqsMayRow.holds Tryz.pinned (OpenSpec.ofChange seqsMaySpec)

/-- ITS FALSE NEIGHBOUR: 'it returns false'. Refute it at one input. -/
def seqsMayWrong : ChangeSpec := { name := "seqsMay", fn := fun _ => fun
  | [d] => { results := [.lit (.bool false)], args := [d] }
  | _ => none }
def SeqsMayWrongFalsely : Prop := seqsMayRow.holds Tryz.pinned (OpenSpec.ofChange seqsMayWrong)

/-- 'portmanteaulaw25.SeqsDecodes': WHATEVER THE INPUT: true; the input reads as it did. -/
def seqsDecodesSpec : ChangeSpec := { name := "seqsDecodes", fn := fun _ => fun
  | [d1, d2] => { results := [.lit (.bool true)], args := [d1, d2] }
  | _ => none }
def seqsDecodesRow : OpenClaim := { program := "ytjfdaphjijfieaagreat", sum := "4914a263a4f79e234ae335815f193ac44b9acebbb7b5612093d75dcf9ec584d5", func := "portmanteau/portmanteaulaw25.SeqsDecodes", spec := "seqsDecodes", unfollowed := true, recurses := true, apart := false }
def SeqsDecodesSaid : Prop := seqsDecodesRow.holds Tryz.pinned (OpenSpec.ofChange seqsDecodesSpec)

/-- ITS FALSE NEIGHBOUR: 'it returns false'. Refute it at one input. -/
def seqsDecodesWrong : ChangeSpec := { name := "seqsDecodes", fn := fun _ => fun
  | [d1, d2] => { results := [.lit (.bool false)], args := [d1, d2] }
  | _ => none }
def SeqsDecodesWrongFalsely : Prop := seqsDecodesRow.holds Tryz.pinned (OpenSpec.ofChange seqsDecodesWrong)

/-- 'portmanteaulaw25.SeqsEncodes': WHATEVER THE INPUT: true; the input reads as it did. -/
def seqsEncodesSpec : ChangeSpec := { name := "seqsEncodes", fn := fun _ => fun
  | [d1, d2] => { results := [.lit (.bool true)], args := [d1, d2] }
  | _ => none }
def seqsEncodesRow : OpenClaim := { program := "ytjfdaphjijfieaagreat", sum := "4914a263a4f79e234ae335815f193ac44b9acebbb7b5612093d75dcf9ec584d5", func := "portmanteau/portmanteaulaw25.SeqsEncodes", spec := "seqsEncodes", unfollowed := true, recurses := true, apart := false }
def SeqsEncodesSaid : Prop := seqsEncodesRow.holds Tryz.pinned (OpenSpec.ofChange seqsEncodesSpec)

/-- ITS FALSE NEIGHBOUR: 'it returns false'. Refute it at one input. -/
def seqsEncodesWrong : ChangeSpec := { name := "seqsEncodes", fn := fun _ => fun
  | [d1, d2] => { results := [.lit (.bool false)], args := [d1, d2] }
  | _ => none }
def SeqsEncodesWrongFalsely : Prop := seqsEncodesRow.holds Tryz.pinned (OpenSpec.ofChange seqsEncodesWrong)

/-- 'portmanteaulaw25.SeqsBack': WHATEVER THE INPUT: true; the input reads as it did. -/
def seqsBackSpec : ChangeSpec := { name := "seqsBack", fn := fun _ => fun
  | [d1, d2] => { results := [.lit (.bool true)], args := [d1, d2] }
  | _ => none }
def seqsBackRow : OpenClaim := { program := "ytjfdaphjijfieaagreat", sum := "4914a263a4f79e234ae335815f193ac44b9acebbb7b5612093d75dcf9ec584d5", func := "portmanteau/portmanteaulaw25.SeqsBack", spec := "seqsBack", unfollowed := true, recurses := true, apart := false }
def SeqsBackSaid : Prop := seqsBackRow.holds Tryz.pinned (OpenSpec.ofChange seqsBackSpec)

/-- ITS FALSE NEIGHBOUR: 'it returns false'. Refute it at one input. -/
def seqsBackWrong : ChangeSpec := { name := "seqsBack", fn := fun _ => fun
  | [d1, d2] => { results := [.lit (.bool false)], args := [d1, d2] }
  | _ => none }
def SeqsBackWrongFalsely : Prop := seqsBackRow.holds Tryz.pinned (OpenSpec.ofChange seqsBackWrong)

/-- 'portmanteaulaw25.SeqsRow': WHATEVER THE INPUT: true; the input reads as it did. -/
def seqsRowSpec : ChangeSpec := { name := "seqsRow", fn := fun _ => fun
  | [d1, d2, d3] => { results := [.lit (.bool true)], args := [d1, d2, d3] }
  | _ => none }
def seqsRowRow : OpenClaim := { program := "ytjfdaphjijfieaagreat", sum := "4914a263a4f79e234ae335815f193ac44b9acebbb7b5612093d75dcf9ec584d5", func := "portmanteau/portmanteaulaw25.SeqsRow", spec := "seqsRow", unfollowed := true, recurses := true, apart := false }
def SeqsRowSaid : Prop := seqsRowRow.holds Tryz.pinned (OpenSpec.ofChange seqsRowSpec)

/-- ITS FALSE NEIGHBOUR: 'it returns false'. Refute it at one input. -/
def seqsRowWrong : ChangeSpec := { name := "seqsRow", fn := fun _ => fun
  | [d1, d2, d3] => { results := [.lit (.bool false)], args := [d1, d2, d3] }
  | _ => none }
def SeqsRowWrongFalsely : Prop := seqsRowRow.holds Tryz.pinned (OpenSpec.ofChange seqsRowWrong)

/-- 'portmanteaulaw25.SeqsAgain': WHATEVER THE INPUT: true; the input reads as it did. -/
def seqsAgainSpec : ChangeSpec := { name := "seqsAgain", fn := fun _ => fun
  | [d1, d2] => { results := [.lit (.bool true)], args := [d1, d2] }
  | _ => none }
def seqsAgainRow : OpenClaim := { program := "ytjfdaphjijfieaagreat", sum := "4914a263a4f79e234ae335815f193ac44b9acebbb7b5612093d75dcf9ec584d5", func := "portmanteau/portmanteaulaw25.SeqsAgain", spec := "seqsAgain", unfollowed := true, recurses := true, apart := false }
def SeqsAgainSaid : Prop := seqsAgainRow.holds Tryz.pinned (OpenSpec.ofChange seqsAgainSpec)

/-- ITS FALSE NEIGHBOUR: 'it returns false'. Refute it at one input. -/
def seqsAgainWrong : ChangeSpec := { name := "seqsAgain", fn := fun _ => fun
  | [d1, d2] => { results := [.lit (.bool false)], args := [d1, d2] }
  | _ => none }
def SeqsAgainWrongFalsely : Prop := seqsAgainRow.holds Tryz.pinned (OpenSpec.ofChange seqsAgainWrong)

/-- 'portmanteaulaw25.SeqsCuts': WHATEVER THE INPUT: true; the input reads as it did. -/
def seqsCutsSpec : ChangeSpec := { name := "seqsCuts", fn := fun _ => fun
  | [d1, d2, d3] => { results := [.lit (.bool true)], args := [d1, d2, d3] }
  | _ => none }
def seqsCutsRow : OpenClaim := { program := "ytjfdaphjijfieaagreat", sum := "4914a263a4f79e234ae335815f193ac44b9acebbb7b5612093d75dcf9ec584d5", func := "portmanteau/portmanteaulaw25.SeqsCuts", spec := "seqsCuts", unfollowed := true, recurses := true, apart := false }
def SeqsCutsSaid : Prop := seqsCutsRow.holds Tryz.pinned (OpenSpec.ofChange seqsCutsSpec)

/-- ITS FALSE NEIGHBOUR: 'it returns false'. Refute it at one input. -/
def seqsCutsWrong : ChangeSpec := { name := "seqsCuts", fn := fun _ => fun
  | [d1, d2, d3] => { results := [.lit (.bool false)], args := [d1, d2, d3] }
  | _ => none }
def SeqsCutsWrongFalsely : Prop := seqsCutsRow.holds Tryz.pinned (OpenSpec.ofChange seqsCutsWrong)

/-- 'portmanteaulaw25.SeqsMost': WHATEVER THE INPUT: true; the input reads as it did. -/
def seqsMostSpec : ChangeSpec := { name := "seqsMost", fn := fun _ => fun
  | [d] => { results := [.lit (.bool true)], args := [d] }
  | _ => none }
def seqsMostRow : OpenClaim := { program := "ytjfdaphjijfieaagreat", sum := "4914a263a4f79e234ae335815f193ac44b9acebbb7b5612093d75dcf9ec584d5", func := "portmanteau/portmanteaulaw25.SeqsMost", spec := "seqsMost", unfollowed := true, recurses := true, apart := false }
def SeqsMostSaid : Prop := seqsMostRow.holds Tryz.pinned (OpenSpec.ofChange seqsMostSpec)

/-- ITS FALSE NEIGHBOUR: 'it returns false'. Refute it at one input. -/
def seqsMostWrong : ChangeSpec := { name := "seqsMost", fn := fun _ => fun
  | [d] => { results := [.lit (.bool false)], args := [d] }
  | _ => none }
def SeqsMostWrongFalsely : Prop := seqsMostRow.holds Tryz.pinned (OpenSpec.ofChange seqsMostWrong)

/-- 'portmanteaulaw25.SeqsNil': WHATEVER THE INPUT: true; the input reads as it did. -/
def seqsNilSpec : ChangeSpec := { name := "seqsNil", fn := fun _ => fun
  | [d1, d2] => { results := [.lit (.bool true)], args := [d1, d2] }
  | _ => none }
def seqsNilRow : OpenClaim := { program := "ytjfdaphjijfieaagreat", sum := "4914a263a4f79e234ae335815f193ac44b9acebbb7b5612093d75dcf9ec584d5", func := "portmanteau/portmanteaulaw25.SeqsNil", spec := "seqsNil", unfollowed := true, recurses := true, apart := false }
def SeqsNilSaid : Prop := seqsNilRow.holds Tryz.pinned (OpenSpec.ofChange seqsNilSpec)

/-- ITS FALSE NEIGHBOUR: 'it returns false'. Refute it at one input. -/
def seqsNilWrong : ChangeSpec := { name := "seqsNil", fn := fun _ => fun
  | [d1, d2] => { results := [.lit (.bool false)], args := [d1, d2] }
  | _ => none }
def SeqsNilWrongFalsely : Prop := seqsNilRow.holds Tryz.pinned (OpenSpec.ofChange seqsNilWrong)

/- THE SECOND FORM. 'bulk': how many values and letters a reading holds, each counted each time it is reached (what is shared counts as often as it is met; a slice's spare places count too). A statement '..UptoSaid' is the law's where the arguments, and the package variables that the reading takes, are together of bulk at most 1048576: NARROWER than '..Said'. Prove '..Said' where nothing that the law and all that it calls make is longer than what came in: it says more and counts as full. Else prove '..UptoSaid'. A law counts once. -/
mutual
def uptoBulk {H : Type} : DataW H → Nat
  | .lit (.string bytes) => bytes.length + 1
  | .lit _ => 1
  | .nil => 1
  | .ptr d => uptoBulk d + 1
  | .slice elems spare => uptoBulkAll elems + uptoBulkAll spare + 1
  | .agg parts => uptoBulkAll parts + 1
  | .iface _ d => uptoBulk d + 1
  | .map entries => uptoBulkEntries entries + 1
  | .held _ => 1
def uptoBulkAll {H : Type} : List (DataW H) → Nat
  | [] => 0
  | d :: r => uptoBulk d + uptoBulkAll r
def uptoBulkEntries {H : Type} : List (Lit × DataW H) → Nat
  | [] => 0
  | x :: r => uptoBulkEntry x + uptoBulkEntries r
def uptoBulkEntry {H : Type} : Lit × DataW H → Nat
  | (.string bytes, d) => bytes.length + uptoBulk d + 1
  | (_, d) => uptoBulk d + 1
 end
def uptoSmall : (H : Type) → List (DataW H) → Bool := fun _ ds => decide (uptoBulkAll ds ≤ 1048576)
def OpenSpec.upto (s : _root_.Go.ChangeSpec) : _root_.Go.OpenSpec := { _root_.Go.OpenSpec.ofChange s with cond := some uptoSmall }

/-- 'portmanteaulaw25.SeqsMay', WHERE WHAT IT READS IS OF BULK AT MOST 1048576: true; the input reads as it did. -/
def seqsMayUptoRow : OpenClaim := { program := "ytjfdaphjijfieaagreat", sum := "4914a263a4f79e234ae335815f193ac44b9acebbb7b5612093d75dcf9ec584d5", func := "portmanteau/portmanteaulaw25.SeqsMay", spec := "seqsMay", unfollowed := true, recurses := true, apart := false, narrowed := true }
def SeqsMayUptoSaid : Prop := seqsMayUptoRow.holds Tryz.pinned (OpenSpec.upto seqsMaySpec)

/-- 'portmanteaulaw25.SeqsDecodes', WHERE WHAT IT READS IS OF BULK AT MOST 1048576: true; the input reads as it did. -/
def seqsDecodesUptoRow : OpenClaim := { program := "ytjfdaphjijfieaagreat", sum := "4914a263a4f79e234ae335815f193ac44b9acebbb7b5612093d75dcf9ec584d5", func := "portmanteau/portmanteaulaw25.SeqsDecodes", spec := "seqsDecodes", unfollowed := true, recurses := true, apart := false, narrowed := true }
def SeqsDecodesUptoSaid : Prop := seqsDecodesUptoRow.holds Tryz.pinned (OpenSpec.upto seqsDecodesSpec)

/-- 'portmanteaulaw25.SeqsEncodes', WHERE WHAT IT READS IS OF BULK AT MOST 1048576: true; the input reads as it did. -/
def seqsEncodesUptoRow : OpenClaim := { program := "ytjfdaphjijfieaagreat", sum := "4914a263a4f79e234ae335815f193ac44b9acebbb7b5612093d75dcf9ec584d5", func := "portmanteau/portmanteaulaw25.SeqsEncodes", spec := "seqsEncodes", unfollowed := true, recurses := true, apart := false, narrowed := true }
def SeqsEncodesUptoSaid : Prop := seqsEncodesUptoRow.holds Tryz.pinned (OpenSpec.upto seqsEncodesSpec)

/-- 'portmanteaulaw25.SeqsBack', WHERE WHAT IT READS IS OF BULK AT MOST 1048576: true; the input reads as it did. -/
def seqsBackUptoRow : OpenClaim := { program := "ytjfdaphjijfieaagreat", sum := "4914a263a4f79e234ae335815f193ac44b9acebbb7b5612093d75dcf9ec584d5", func := "portmanteau/portmanteaulaw25.SeqsBack", spec := "seqsBack", unfollowed := true, recurses := true, apart := false, narrowed := true }
def SeqsBackUptoSaid : Prop := seqsBackUptoRow.holds Tryz.pinned (OpenSpec.upto seqsBackSpec)

/-- 'portmanteaulaw25.SeqsRow', WHERE WHAT IT READS IS OF BULK AT MOST 1048576: true; the input reads as it did. -/
def seqsRowUptoRow : OpenClaim := { program := "ytjfdaphjijfieaagreat", sum := "4914a263a4f79e234ae335815f193ac44b9acebbb7b5612093d75dcf9ec584d5", func := "portmanteau/portmanteaulaw25.SeqsRow", spec := "seqsRow", unfollowed := true, recurses := true, apart := false, narrowed := true }
def SeqsRowUptoSaid : Prop := seqsRowUptoRow.holds Tryz.pinned (OpenSpec.upto seqsRowSpec)

/-- 'portmanteaulaw25.SeqsAgain', WHERE WHAT IT READS IS OF BULK AT MOST 1048576: true; the input reads as it did. -/
def seqsAgainUptoRow : OpenClaim := { program := "ytjfdaphjijfieaagreat", sum := "4914a263a4f79e234ae335815f193ac44b9acebbb7b5612093d75dcf9ec584d5", func := "portmanteau/portmanteaulaw25.SeqsAgain", spec := "seqsAgain", unfollowed := true, recurses := true, apart := false, narrowed := true }
def SeqsAgainUptoSaid : Prop := seqsAgainUptoRow.holds Tryz.pinned (OpenSpec.upto seqsAgainSpec)

/-- 'portmanteaulaw25.SeqsCuts', WHERE WHAT IT READS IS OF BULK AT MOST 1048576: true; the input reads as it did. -/
def seqsCutsUptoRow : OpenClaim := { program := "ytjfdaphjijfieaagreat", sum := "4914a263a4f79e234ae335815f193ac44b9acebbb7b5612093d75dcf9ec584d5", func := "portmanteau/portmanteaulaw25.SeqsCuts", spec := "seqsCuts", unfollowed := true, recurses := true, apart := false, narrowed := true }
def SeqsCutsUptoSaid : Prop := seqsCutsUptoRow.holds Tryz.pinned (OpenSpec.upto seqsCutsSpec)

/-- 'portmanteaulaw25.SeqsMost', WHERE WHAT IT READS IS OF BULK AT MOST 1048576: true; the input reads as it did. -/
def seqsMostUptoRow : OpenClaim := { program := "ytjfdaphjijfieaagreat", sum := "4914a263a4f79e234ae335815f193ac44b9acebbb7b5612093d75dcf9ec584d5", func := "portmanteau/portmanteaulaw25.SeqsMost", spec := "seqsMost", unfollowed := true, recurses := true, apart := false, narrowed := true }
def SeqsMostUptoSaid : Prop := seqsMostUptoRow.holds Tryz.pinned (OpenSpec.upto seqsMostSpec)

/-- 'portmanteaulaw25.SeqsNil', WHERE WHAT IT READS IS OF BULK AT MOST 1048576: true; the input reads as it did. -/
def seqsNilUptoRow : OpenClaim := { program := "ytjfdaphjijfieaagreat", sum := "4914a263a4f79e234ae335815f193ac44b9acebbb7b5612093d75dcf9ec584d5", func := "portmanteau/portmanteaulaw25.SeqsNil", spec := "seqsNil", unfollowed := true, recurses := true, apart := false, narrowed := true }
def SeqsNilUptoSaid : Prop := seqsNilUptoRow.holds Tryz.pinned (OpenSpec.upto seqsNilSpec)

end Rows
end Go.Proofs.YtjfdaphjijfieaaGreat
