/-
  No cell of these rows narrows 'for every input' (looked for: loops, veiled, ifaces, maps, wideKeys, modest, calm, conditions, laid).
  DERIVED. THE GIVEN ROWS OF THIS SEAT. 9 by the template 'for every input the law returns true; each argument reads behind the call as it read before'; 0 by the template 'total and deterministic' (their statements: YtckjdhaflokcgaaGreatTotals.lean).
  GIVEN WITH THE SEED: the statements are not yours to turn. If you find one false, say at which input.
  Laid BY PROGRAM, IN A SANDBOX (cutbox-rows.mjs): the forced cells as the released guide's own fill.sh prints them over the translation eb27fefc645d8f65… (all of the seat's roots in one cut). By AI agents, Wed Nov 11 2026. No macro, syntax, notation, axiom, sorry.
-/
import Derived.Test.YtckjdhaflokcgaaGreatChecked
import GoSem.Claim
import GoSem.ClaimJoined
import GoSem.ClaimMapViews
import Derived.JoinedTies
import Derived.KernelRfl
namespace Go.Proofs.YtckjdhaflokcgaaGreat
/- THE CELL 'sum', in the pinned program and in every row, IS THE sha256 OF THE DUMP (.gsa) THAT YtckjdhaflokcgaaGreatProg.lean LOADS. Nothing in Lean hashes anything: it is a label: what it is worth is what the hold of that sum in a sandbox is worth. -/
noncomputable def Tryz.pinned : Pinned := { name := "ytckjdhaflokcgaagreat", sum := "eb27fefc645d8f658ce70ec3ea16f107b78891c6513e547a899e715f668b8a6f", checked := Tryz.checked }
namespace Rows
def none {H : Type} : Left H := { results := [], args := [] }

/-- 'portmanteaulaw19.LitsPlains': WHATEVER THE INPUT: true; the input reads as it did. -/
def litsPlainsSpec : ChangeSpec := { name := "litsPlains", fn := fun _ => fun
  | [d1, d2, d3, d4] => { results := [.lit (.bool true)], args := [d1, d2, d3, d4] }
  | _ => none }
def litsPlainsRow : OpenClaim := { program := "ytckjdhaflokcgaagreat", sum := "eb27fefc645d8f658ce70ec3ea16f107b78891c6513e547a899e715f668b8a6f", func := "portmanteau/portmanteaulaw19.LitsPlains", spec := "litsPlains", inPlace := ["internal/bytealg.MakeNoZero"], unfollowed := true, recurses := true, plainKeys := false, apart := false }
def LitsPlainsSaid : Prop := litsPlainsRow.holds Tryz.pinned (OpenSpec.ofChange litsPlainsSpec)

/-- ITS FALSE NEIGHBOUR: 'it returns false'. Refute it at one input. -/
def litsPlainsWrong : ChangeSpec := { name := "litsPlains", fn := fun _ => fun
  | [d1, d2, d3, d4] => { results := [.lit (.bool false)], args := [d1, d2, d3, d4] }
  | _ => none }
def LitsPlainsWrongFalsely : Prop := litsPlainsRow.holds Tryz.pinned (OpenSpec.ofChange litsPlainsWrong)

/-- 'portmanteaulaw19.LitsLasts': WHATEVER THE INPUT: true; the input reads as it did. -/
def litsLastsSpec : ChangeSpec := { name := "litsLasts", fn := fun _ => fun
  | [d1, d2, d3] => { results := [.lit (.bool true)], args := [d1, d2, d3] }
  | _ => none }
def litsLastsRow : OpenClaim := { program := "ytckjdhaflokcgaagreat", sum := "eb27fefc645d8f658ce70ec3ea16f107b78891c6513e547a899e715f668b8a6f", func := "portmanteau/portmanteaulaw19.LitsLasts", spec := "litsLasts", inPlace := ["internal/bytealg.MakeNoZero"], unfollowed := true, recurses := true, plainKeys := false, apart := false }
def LitsLastsSaid : Prop := litsLastsRow.holds Tryz.pinned (OpenSpec.ofChange litsLastsSpec)

/-- ITS FALSE NEIGHBOUR: 'it returns false'. Refute it at one input. -/
def litsLastsWrong : ChangeSpec := { name := "litsLasts", fn := fun _ => fun
  | [d1, d2, d3] => { results := [.lit (.bool false)], args := [d1, d2, d3] }
  | _ => none }
def LitsLastsWrongFalsely : Prop := litsLastsRow.holds Tryz.pinned (OpenSpec.ofChange litsLastsWrong)

/-- 'portmanteaulaw19.LitsTreed': WHATEVER THE INPUT: true; the input reads as it did. -/
def litsTreedSpec : ChangeSpec := { name := "litsTreed", fn := fun _ => fun
  | [d1, d2, d3] => { results := [.lit (.bool true)], args := [d1, d2, d3] }
  | _ => none }
def litsTreedRow : OpenClaim := { program := "ytckjdhaflokcgaagreat", sum := "eb27fefc645d8f658ce70ec3ea16f107b78891c6513e547a899e715f668b8a6f", func := "portmanteau/portmanteaulaw19.LitsTreed", spec := "litsTreed", inPlace := ["internal/bytealg.MakeNoZero"], unfollowed := true, recurses := true, plainKeys := false, apart := false }
def LitsTreedSaid : Prop := litsTreedRow.holds Tryz.pinned (OpenSpec.ofChange litsTreedSpec)

/-- ITS FALSE NEIGHBOUR: 'it returns false'. Refute it at one input. -/
def litsTreedWrong : ChangeSpec := { name := "litsTreed", fn := fun _ => fun
  | [d1, d2, d3] => { results := [.lit (.bool false)], args := [d1, d2, d3] }
  | _ => none }
def LitsTreedWrongFalsely : Prop := litsTreedRow.holds Tryz.pinned (OpenSpec.ofChange litsTreedWrong)

/-- 'portmanteaulaw19.LitsHeads': WHATEVER THE INPUT: true; the input reads as it did. -/
def litsHeadsSpec : ChangeSpec := { name := "litsHeads", fn := fun _ => fun
  | [d1, d2] => { results := [.lit (.bool true)], args := [d1, d2] }
  | _ => none }
def litsHeadsRow : OpenClaim := { program := "ytckjdhaflokcgaagreat", sum := "eb27fefc645d8f658ce70ec3ea16f107b78891c6513e547a899e715f668b8a6f", func := "portmanteau/portmanteaulaw19.LitsHeads", spec := "litsHeads", inPlace := ["internal/bytealg.MakeNoZero"], unfollowed := true, recurses := true, plainKeys := false, apart := false }
def LitsHeadsSaid : Prop := litsHeadsRow.holds Tryz.pinned (OpenSpec.ofChange litsHeadsSpec)

/-- ITS FALSE NEIGHBOUR: 'it returns false'. Refute it at one input. -/
def litsHeadsWrong : ChangeSpec := { name := "litsHeads", fn := fun _ => fun
  | [d1, d2] => { results := [.lit (.bool false)], args := [d1, d2] }
  | _ => none }
def LitsHeadsWrongFalsely : Prop := litsHeadsRow.holds Tryz.pinned (OpenSpec.ofChange litsHeadsWrong)

/-- 'portmanteaulaw19.LitsDecodes': WHATEVER THE INPUT: true; the input reads as it did. -/
def litsDecodesSpec : ChangeSpec := { name := "litsDecodes", fn := fun _ => fun
  | [d1, d2, d3] => { results := [.lit (.bool true)], args := [d1, d2, d3] }
  | _ => none }
def litsDecodesRow : OpenClaim := { program := "ytckjdhaflokcgaagreat", sum := "eb27fefc645d8f658ce70ec3ea16f107b78891c6513e547a899e715f668b8a6f", func := "portmanteau/portmanteaulaw19.LitsDecodes", spec := "litsDecodes", inPlace := ["internal/bytealg.MakeNoZero"], unfollowed := true, recurses := true, plainKeys := false, apart := false }
def LitsDecodesSaid : Prop := litsDecodesRow.holds Tryz.pinned (OpenSpec.ofChange litsDecodesSpec)

/-- ITS FALSE NEIGHBOUR: 'it returns false'. Refute it at one input. -/
def litsDecodesWrong : ChangeSpec := { name := "litsDecodes", fn := fun _ => fun
  | [d1, d2, d3] => { results := [.lit (.bool false)], args := [d1, d2, d3] }
  | _ => none }
def LitsDecodesWrongFalsely : Prop := litsDecodesRow.holds Tryz.pinned (OpenSpec.ofChange litsDecodesWrong)

/-- 'portmanteaulaw19.LitsTrees': WHATEVER THE INPUT: true; the input reads as it did. -/
def litsTreesSpec : ChangeSpec := { name := "litsTrees", fn := fun _ => fun
  | [d] => { results := [.lit (.bool true)], args := [d] }
  | _ => none }
def litsTreesRow : OpenClaim := { program := "ytckjdhaflokcgaagreat", sum := "eb27fefc645d8f658ce70ec3ea16f107b78891c6513e547a899e715f668b8a6f", func := "portmanteau/portmanteaulaw19.LitsTrees", spec := "litsTrees", inPlace := ["internal/bytealg.MakeNoZero"], unfollowed := true, recurses := true, plainKeys := false, apart := false }
def LitsTreesSaid : Prop := litsTreesRow.holds Tryz.pinned (OpenSpec.ofChange litsTreesSpec)

/-- ITS FALSE NEIGHBOUR: 'it returns false'. Refute it at one input. -/
def litsTreesWrong : ChangeSpec := { name := "litsTrees", fn := fun _ => fun
  | [d] => { results := [.lit (.bool false)], args := [d] }
  | _ => none }
def LitsTreesWrongFalsely : Prop := litsTreesRow.holds Tryz.pinned (OpenSpec.ofChange litsTreesWrong)

/-- 'portmanteaulaw19.LitsWays': WHATEVER THE INPUT: true; the input reads as it did. -/
def litsWaysSpec : ChangeSpec := { name := "litsWays", fn := fun _ => fun
  | [d1, d2, d3] => { results := [.lit (.bool true)], args := [d1, d2, d3] }
  | _ => none }
def litsWaysRow : OpenClaim := { program := "ytckjdhaflokcgaagreat", sum := "eb27fefc645d8f658ce70ec3ea16f107b78891c6513e547a899e715f668b8a6f", func := "portmanteau/portmanteaulaw19.LitsWays", spec := "litsWays", inPlace := ["internal/bytealg.MakeNoZero"], unfollowed := true, recurses := true, plainKeys := false, apart := false }
def LitsWaysSaid : Prop := litsWaysRow.holds Tryz.pinned (OpenSpec.ofChange litsWaysSpec)

/-- ITS FALSE NEIGHBOUR: 'it returns false'. Refute it at one input. -/
def litsWaysWrong : ChangeSpec := { name := "litsWays", fn := fun _ => fun
  | [d1, d2, d3] => { results := [.lit (.bool false)], args := [d1, d2, d3] }
  | _ => none }
def LitsWaysWrongFalsely : Prop := litsWaysRow.holds Tryz.pinned (OpenSpec.ofChange litsWaysWrong)

/-- 'portmanteaulaw19.LitsEncodes': WHATEVER THE INPUT: true; the input reads as it did. -/
def litsEncodesSpec : ChangeSpec := { name := "litsEncodes", fn := fun _ => fun
  | [d1, d2] => { results := [.lit (.bool true)], args := [d1, d2] }
  | _ => none }
def litsEncodesRow : OpenClaim := { program := "ytckjdhaflokcgaagreat", sum := "eb27fefc645d8f658ce70ec3ea16f107b78891c6513e547a899e715f668b8a6f", func := "portmanteau/portmanteaulaw19.LitsEncodes", spec := "litsEncodes", inPlace := ["internal/bytealg.MakeNoZero"], unfollowed := true, recurses := true, plainKeys := false, apart := false }
def LitsEncodesSaid : Prop := litsEncodesRow.holds Tryz.pinned (OpenSpec.ofChange litsEncodesSpec)

/-- ITS FALSE NEIGHBOUR: 'it returns false'. Refute it at one input. -/
def litsEncodesWrong : ChangeSpec := { name := "litsEncodes", fn := fun _ => fun
  | [d1, d2] => { results := [.lit (.bool false)], args := [d1, d2] }
  | _ => none }
def LitsEncodesWrongFalsely : Prop := litsEncodesRow.holds Tryz.pinned (OpenSpec.ofChange litsEncodesWrong)

/-- 'portmanteaulaw19.LitsHold': WHATEVER THE INPUT: true; the input reads as it did. -/
def litsHoldSpec : ChangeSpec := { name := "litsHold", fn := fun _ => fun
  | [d1, d2, d3, d4] => { results := [.lit (.bool true)], args := [d1, d2, d3, d4] }
  | _ => none }
def litsHoldRow : OpenClaim := { program := "ytckjdhaflokcgaagreat", sum := "eb27fefc645d8f658ce70ec3ea16f107b78891c6513e547a899e715f668b8a6f", func := "portmanteau/portmanteaulaw19.LitsHold", spec := "litsHold", inPlace := ["internal/bytealg.MakeNoZero"], unfollowed := true, recurses := true, plainKeys := false, apart := false }
def LitsHoldSaid : Prop := litsHoldRow.holds Tryz.pinned (OpenSpec.ofChange litsHoldSpec)

/-- ITS FALSE NEIGHBOUR: 'it returns false'. Refute it at one input. -/
def litsHoldWrong : ChangeSpec := { name := "litsHold", fn := fun _ => fun
  | [d1, d2, d3, d4] => { results := [.lit (.bool false)], args := [d1, d2, d3, d4] }
  | _ => none }
def LitsHoldWrongFalsely : Prop := litsHoldRow.holds Tryz.pinned (OpenSpec.ofChange litsHoldWrong)

/- THE SECOND FORM. 'bulk': how many values and letters a reading holds, each counted each time it is reached (what is shared counts as often as it is met; a slice's spare places count too). A statement '..UptoSaid' is the law's where the arguments, and the package variables that the reading takes, are together of bulk at most 1048576: NARROWER than '..Said'. Prove '..Said' where nothing that the law and all that it calls make is longer than what came in: it says more and counts as full. Else prove '..UptoSaid'. A law counts once. -/
mutual
def uptoBulk {H : Type} : DataW H → Nat
  | .lit (.string bytes) => bytes.length + 1
  | .lit _ => 1
  | .nil => 1
  | .ptr d => uptoBulk d + 1
  | .slice elems spare => uptoBulkAll elems + uptoBulkAll spare + 1
  | .agg parts => uptoBulkAll parts + 1
  | .iface _ d => uptoBulk d + 1
  | .map entries => uptoBulkEntries entries + 1
  | .held _ => 1
def uptoBulkAll {H : Type} : List (DataW H) → Nat
  | [] => 0
  | d :: r => uptoBulk d + uptoBulkAll r
def uptoBulkEntries {H : Type} : List (Lit × DataW H) → Nat
  | [] => 0
  | x :: r => uptoBulkEntry x + uptoBulkEntries r
def uptoBulkEntry {H : Type} : Lit × DataW H → Nat
  | (.string bytes, d) => bytes.length + uptoBulk d + 1
  | (_, d) => uptoBulk d + 1
 end
def uptoSmall : (H : Type) → List (DataW H) → Bool := fun _ ds => decide (uptoBulkAll ds ≤ 1048576)
def OpenSpec.upto (s : _root_.Go.ChangeSpec) : _root_.Go.OpenSpec := { _root_.Go.OpenSpec.ofChange s with cond := some uptoSmall }

/-- 'portmanteaulaw19.LitsPlains', WHERE WHAT IT READS IS OF BULK AT MOST 1048576: true; the input reads as it did. -/
def litsPlainsUptoRow : OpenClaim := { program := "ytckjdhaflokcgaagreat", sum := "eb27fefc645d8f658ce70ec3ea16f107b78891c6513e547a899e715f668b8a6f", func := "portmanteau/portmanteaulaw19.LitsPlains", spec := "litsPlains", inPlace := ["internal/bytealg.MakeNoZero"], unfollowed := true, recurses := true, plainKeys := false, apart := false, narrowed := true }
def LitsPlainsUptoSaid : Prop := litsPlainsUptoRow.holds Tryz.pinned (OpenSpec.upto litsPlainsSpec)

/-- 'portmanteaulaw19.LitsLasts', WHERE WHAT IT READS IS OF BULK AT MOST 1048576: true; the input reads as it did. -/
def litsLastsUptoRow : OpenClaim := { program := "ytckjdhaflokcgaagreat", sum := "eb27fefc645d8f658ce70ec3ea16f107b78891c6513e547a899e715f668b8a6f", func := "portmanteau/portmanteaulaw19.LitsLasts", spec := "litsLasts", inPlace := ["internal/bytealg.MakeNoZero"], unfollowed := true, recurses := true, plainKeys := false, apart := false, narrowed := true }
def LitsLastsUptoSaid : Prop := litsLastsUptoRow.holds Tryz.pinned (OpenSpec.upto litsLastsSpec)

/-- 'portmanteaulaw19.LitsTreed', WHERE WHAT IT READS IS OF BULK AT MOST 1048576: true; the input reads as it did. -/
def litsTreedUptoRow : OpenClaim := { program := "ytckjdhaflokcgaagreat", sum := "eb27fefc645d8f658ce70ec3ea16f107b78891c6513e547a899e715f668b8a6f", func := "portmanteau/portmanteaulaw19.LitsTreed", spec := "litsTreed", inPlace := ["internal/bytealg.MakeNoZero"], unfollowed := true, recurses := true, plainKeys := false, apart := false, narrowed := true }
def LitsTreedUptoSaid : Prop := litsTreedUptoRow.holds Tryz.pinned (OpenSpec.upto litsTreedSpec)

/-- 'portmanteaulaw19.LitsHeads', WHERE WHAT IT READS IS OF BULK AT MOST 1048576: true; the input reads as it did. -/
def litsHeadsUptoRow : OpenClaim := { program := "ytckjdhaflokcgaagreat", sum := "eb27fefc645d8f658ce70ec3ea16f107b78891c6513e547a899e715f668b8a6f", func := "portmanteau/portmanteaulaw19.LitsHeads", spec := "litsHeads", inPlace := ["internal/bytealg.MakeNoZero"], unfollowed := true, recurses := true, plainKeys := false, apart := false, narrowed := true }
def LitsHeadsUptoSaid : Prop := litsHeadsUptoRow.holds Tryz.pinned (OpenSpec.upto litsHeadsSpec)

/-- 'portmanteaulaw19.LitsDecodes', WHERE WHAT IT READS IS OF BULK AT MOST 1048576: true; the input reads as it did. -/
def litsDecodesUptoRow : OpenClaim := { program := "ytckjdhaflokcgaagreat", sum := "eb27fefc645d8f658ce70ec3ea16f107b78891c6513e547a899e715f668b8a6f", func := "portmanteau/portmanteaulaw19.LitsDecodes", spec := "litsDecodes", inPlace := ["internal/bytealg.MakeNoZero"], unfollowed := true, recurses := true, plainKeys := false, apart := false, narrowed := true }
def LitsDecodesUptoSaid : Prop := litsDecodesUptoRow.holds Tryz.pinned (OpenSpec.upto litsDecodesSpec)

/-- 'portmanteaulaw19.LitsTrees', WHERE WHAT IT READS IS OF BULK AT MOST 1048576: true; the input reads as it did. -/
def litsTreesUptoRow : OpenClaim := { program := "ytckjdhaflokcgaagreat", sum := "eb27fefc645d8f658ce70ec3ea16f107b78891c6513e547a899e715f668b8a6f", func := "portmanteau/portmanteaulaw19.LitsTrees", spec := "litsTrees", inPlace := ["internal/bytealg.MakeNoZero"], unfollowed := true, recurses := true, plainKeys := false, apart := false, narrowed := true }
def LitsTreesUptoSaid : Prop := litsTreesUptoRow.holds Tryz.pinned (OpenSpec.upto litsTreesSpec)

/-- 'portmanteaulaw19.LitsWays', WHERE WHAT IT READS IS OF BULK AT MOST 1048576: true; the input reads as it did. -/
def litsWaysUptoRow : OpenClaim := { program := "ytckjdhaflokcgaagreat", sum := "eb27fefc645d8f658ce70ec3ea16f107b78891c6513e547a899e715f668b8a6f", func := "portmanteau/portmanteaulaw19.LitsWays", spec := "litsWays", inPlace := ["internal/bytealg.MakeNoZero"], unfollowed := true, recurses := true, plainKeys := false, apart := false, narrowed := true }
def LitsWaysUptoSaid : Prop := litsWaysUptoRow.holds Tryz.pinned (OpenSpec.upto litsWaysSpec)

/-- 'portmanteaulaw19.LitsEncodes', WHERE WHAT IT READS IS OF BULK AT MOST 1048576: true; the input reads as it did. -/
def litsEncodesUptoRow : OpenClaim := { program := "ytckjdhaflokcgaagreat", sum := "eb27fefc645d8f658ce70ec3ea16f107b78891c6513e547a899e715f668b8a6f", func := "portmanteau/portmanteaulaw19.LitsEncodes", spec := "litsEncodes", inPlace := ["internal/bytealg.MakeNoZero"], unfollowed := true, recurses := true, plainKeys := false, apart := false, narrowed := true }
def LitsEncodesUptoSaid : Prop := litsEncodesUptoRow.holds Tryz.pinned (OpenSpec.upto litsEncodesSpec)

/-- 'portmanteaulaw19.LitsHold', WHERE WHAT IT READS IS OF BULK AT MOST 1048576: true; the input reads as it did. -/
def litsHoldUptoRow : OpenClaim := { program := "ytckjdhaflokcgaagreat", sum := "eb27fefc645d8f658ce70ec3ea16f107b78891c6513e547a899e715f668b8a6f", func := "portmanteau/portmanteaulaw19.LitsHold", spec := "litsHold", inPlace := ["internal/bytealg.MakeNoZero"], unfollowed := true, recurses := true, plainKeys := false, apart := false, narrowed := true }
def LitsHoldUptoSaid : Prop := litsHoldUptoRow.holds Tryz.pinned (OpenSpec.upto litsHoldSpec)

end Rows
end Go.Proofs.YtckjdhaflokcgaaGreat
