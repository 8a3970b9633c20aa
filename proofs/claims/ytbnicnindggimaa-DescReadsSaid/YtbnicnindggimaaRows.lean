/-
  No cell of these rows narrows 'for every input' (looked for: loops, veiled, ifaces, maps, wideKeys, modest, calm, conditions, laid).
  DERIVED. THE GIVEN ROWS OF THIS SEAT. 9 by the template 'for every input the law returns true; each argument reads behind the call as it read before'; 0 by the template 'total and deterministic' (their statements: YtbnicnindggimaaTotals.lean).
  GIVEN WITH THE SEED: the statements are not yours to turn. If you find one false, say at which input.
  Laid BY PROGRAM, IN A SANDBOX (cutbox-rows.mjs): the forced cells as the released guide's own fill.sh prints them over the translation c065f2a5c7a93ebe… (all of the seat's roots in one cut). By AI agents, Wed Nov 11 2026. No macro, syntax, notation, axiom, sorry.
-/
import Derived.Test.YtbnicnindggimaaChecked
import GoSem.Claim
import GoSem.ClaimJoined
import GoSem.ClaimMapViews
import Derived.JoinedTies
import Derived.KernelRfl
namespace Go.Proofs.Ytbnicnindggimaa
/- THE CELL 'sum', in the pinned program and in every row, IS THE sha256 OF THE DUMP (.gsa) THAT YtbnicnindggimaaProg.lean LOADS. Nothing in Lean hashes anything: it is a label: what it is worth is what the hold of that sum in a sandbox is worth. -/
noncomputable def Try.pinned : Pinned := { name := "ytbnicnindggimaa", sum := "c065f2a5c7a93ebe9e5e4358f52e5be98123bee089043847230bd2832d78ad65", checked := Try.checked }
namespace Rows
def none {H : Type} : Left H := { results := [], args := [] }

/-- 'portmanteaulaw11.DescCuts': WHATEVER THE INPUT: true; the input reads as it did. -/
def descCutsSpec : ChangeSpec := { name := "descCuts", fn := fun _ => fun
  | [d1, d2] => { results := [.lit (.bool true)], args := [d1, d2] }
  | _ => none }
def descCutsRow : OpenClaim := { program := "ytbnicnindggimaa", sum := "c065f2a5c7a93ebe9e5e4358f52e5be98123bee089043847230bd2832d78ad65", func := "portmanteau/portmanteaulaw11.DescCuts", spec := "descCuts", unfollowed := true, recurses := true, apart := false }
def DescCutsSaid : Prop := descCutsRow.holds Try.pinned (OpenSpec.ofChange descCutsSpec)

/-- ITS FALSE NEIGHBOUR: 'it returns false'. Refute it at one input. -/
def descCutsWrong : ChangeSpec := { name := "descCuts", fn := fun _ => fun
  | [d1, d2] => { results := [.lit (.bool false)], args := [d1, d2] }
  | _ => none }
def DescCutsWrongFalsely : Prop := descCutsRow.holds Try.pinned (OpenSpec.ofChange descCutsWrong)

/-- 'portmanteaulaw11.DescUnlike': WHATEVER THE INPUT: true; the input reads as it did. -/
def descUnlikeSpec : ChangeSpec := { name := "descUnlike", fn := fun _ => fun
  | [d1, d2] => { results := [.lit (.bool true)], args := [d1, d2] }
  | _ => none }
def descUnlikeRow : OpenClaim := { program := "ytbnicnindggimaa", sum := "c065f2a5c7a93ebe9e5e4358f52e5be98123bee089043847230bd2832d78ad65", func := "portmanteau/portmanteaulaw11.DescUnlike", spec := "descUnlike", unfollowed := true, recurses := true, apart := false }
def DescUnlikeSaid : Prop := descUnlikeRow.holds Try.pinned (OpenSpec.ofChange descUnlikeSpec)

/-- ITS FALSE NEIGHBOUR: 'it returns false'. Refute it at one input. -/
def descUnlikeWrong : ChangeSpec := { name := "descUnlike", fn := fun _ => fun
  | [d1, d2] => { results := [.lit (.bool false)], args := [d1, d2] }
  | _ => none }
def DescUnlikeWrongFalsely : Prop := descUnlikeRow.holds Try.pinned (OpenSpec.ofChange descUnlikeWrong)

/-- 'portmanteaulaw11.DescNil': WHATEVER THE INPUT: true; the input reads as it did. -/
def descNilSpec : ChangeSpec := { name := "descNil", fn := fun _ => fun
  | [d1, d2, d3] => { results := [.lit (.bool true)], args := [d1, d2, d3] }
  | _ => none }
def descNilRow : OpenClaim := { program := "ytbnicnindggimaa", sum := "c065f2a5c7a93ebe9e5e4358f52e5be98123bee089043847230bd2832d78ad65", func := "portmanteau/portmanteaulaw11.DescNil", spec := "descNil", unfollowed := true, recurses := true, apart := false }
def DescNilSaid : Prop := descNilRow.holds Try.pinned (OpenSpec.ofChange descNilSpec)

/-- ITS FALSE NEIGHBOUR: 'it returns false'. Refute it at one input. -/
def descNilWrong : ChangeSpec := { name := "descNil", fn := fun _ => fun
  | [d1, d2, d3] => { results := [.lit (.bool false)], args := [d1, d2, d3] }
  | _ => none }
def DescNilWrongFalsely : Prop := descNilRow.holds Try.pinned (OpenSpec.ofChange descNilWrong)

/-- 'portmanteaulaw11.DescReads': WHATEVER THE INPUT: true; the input reads as it did. -/
def descReadsSpec : ChangeSpec := { name := "descReads", fn := fun _ => fun
  | [d1, d2, d3] => { results := [.lit (.bool true)], args := [d1, d2, d3] }
  | _ => none }
def descReadsRow : OpenClaim := { program := "ytbnicnindggimaa", sum := "c065f2a5c7a93ebe9e5e4358f52e5be98123bee089043847230bd2832d78ad65", func := "portmanteau/portmanteaulaw11.DescReads", spec := "descReads", unfollowed := true, recurses := true, apart := false }
def DescReadsSaid : Prop := descReadsRow.holds Try.pinned (OpenSpec.ofChange descReadsSpec)

/-- ITS FALSE NEIGHBOUR: 'it returns false'. Refute it at one input. -/
def descReadsWrong : ChangeSpec := { name := "descReads", fn := fun _ => fun
  | [d1, d2, d3] => { results := [.lit (.bool false)], args := [d1, d2, d3] }
  | _ => none }
def DescReadsWrongFalsely : Prop := descReadsRow.holds Try.pinned (OpenSpec.ofChange descReadsWrong)

/-- 'portmanteaulaw11.DescBack': WHATEVER THE INPUT: true; the input reads as it did. -/
def descBackSpec : ChangeSpec := { name := "descBack", fn := fun _ => fun
  | [d1, d2, d3, d4] => { results := [.lit (.bool true)], args := [d1, d2, d3, d4] }
  | _ => none }
def descBackRow : OpenClaim := { program := "ytbnicnindggimaa", sum := "c065f2a5c7a93ebe9e5e4358f52e5be98123bee089043847230bd2832d78ad65", func := "portmanteau/portmanteaulaw11.DescBack", spec := "descBack", unfollowed := true, recurses := true, apart := false }
def DescBackSaid : Prop := descBackRow.holds Try.pinned (OpenSpec.ofChange descBackSpec)

/-- ITS FALSE NEIGHBOUR: 'it returns false'. Refute it at one input. -/
def descBackWrong : ChangeSpec := { name := "descBack", fn := fun _ => fun
  | [d1, d2, d3, d4] => { results := [.lit (.bool false)], args := [d1, d2, d3, d4] }
  | _ => none }
def DescBackWrongFalsely : Prop := descBackRow.holds Try.pinned (OpenSpec.ofChange descBackWrong)

/-- 'portmanteaulaw11.DescOnce': WHATEVER THE INPUT: true; the input reads as it did. -/
def descOnceSpec : ChangeSpec := { name := "descOnce", fn := fun _ => fun
  | [d1, d2, d3] => { results := [.lit (.bool true)], args := [d1, d2, d3] }
  | _ => none }
def descOnceRow : OpenClaim := { program := "ytbnicnindggimaa", sum := "c065f2a5c7a93ebe9e5e4358f52e5be98123bee089043847230bd2832d78ad65", func := "portmanteau/portmanteaulaw11.DescOnce", spec := "descOnce", unfollowed := true, recurses := true, apart := false }
def DescOnceSaid : Prop := descOnceRow.holds Try.pinned (OpenSpec.ofChange descOnceSpec)

/-- ITS FALSE NEIGHBOUR: 'it returns false'. Refute it at one input. -/
def descOnceWrong : ChangeSpec := { name := "descOnce", fn := fun _ => fun
  | [d1, d2, d3] => { results := [.lit (.bool false)], args := [d1, d2, d3] }
  | _ => none }
def DescOnceWrongFalsely : Prop := descOnceRow.holds Try.pinned (OpenSpec.ofChange descOnceWrong)

/-- 'portmanteaulaw11.DescForms': WHATEVER THE INPUT: true; the input reads as it did. -/
def descFormsSpec : ChangeSpec := { name := "descForms", fn := fun _ => fun
  | [d] => { results := [.lit (.bool true)], args := [d] }
  | _ => none }
def descFormsRow : OpenClaim := { program := "ytbnicnindggimaa", sum := "c065f2a5c7a93ebe9e5e4358f52e5be98123bee089043847230bd2832d78ad65", func := "portmanteau/portmanteaulaw11.DescForms", spec := "descForms", unfollowed := true, recurses := true, apart := false }
def DescFormsSaid : Prop := descFormsRow.holds Try.pinned (OpenSpec.ofChange descFormsSpec)

/-- ITS FALSE NEIGHBOUR: 'it returns false'. Refute it at one input. -/
def descFormsWrong : ChangeSpec := { name := "descForms", fn := fun _ => fun
  | [d] => { results := [.lit (.bool false)], args := [d] }
  | _ => none }
def DescFormsWrongFalsely : Prop := descFormsRow.holds Try.pinned (OpenSpec.ofChange descFormsWrong)

/-- 'portmanteaulaw11.DescPads': WHATEVER THE INPUT: true; the input reads as it did. -/
def descPadsSpec : ChangeSpec := { name := "descPads", fn := fun _ => fun
  | [d1, d2] => { results := [.lit (.bool true)], args := [d1, d2] }
  | _ => none }
def descPadsRow : OpenClaim := { program := "ytbnicnindggimaa", sum := "c065f2a5c7a93ebe9e5e4358f52e5be98123bee089043847230bd2832d78ad65", func := "portmanteau/portmanteaulaw11.DescPads", spec := "descPads", unfollowed := true, recurses := true, apart := false }
def DescPadsSaid : Prop := descPadsRow.holds Try.pinned (OpenSpec.ofChange descPadsSpec)

/-- ITS FALSE NEIGHBOUR: 'it returns false'. Refute it at one input. -/
def descPadsWrong : ChangeSpec := { name := "descPads", fn := fun _ => fun
  | [d1, d2] => { results := [.lit (.bool false)], args := [d1, d2] }
  | _ => none }
def DescPadsWrongFalsely : Prop := descPadsRow.holds Try.pinned (OpenSpec.ofChange descPadsWrong)

/-- 'portmanteaulaw11.DescRow': WHATEVER THE INPUT: true; the input reads as it did. -/
def descRowSpec : ChangeSpec := { name := "descRow", fn := fun _ => fun
  | [d] => { results := [.lit (.bool true)], args := [d] }
  | _ => none }
def descRowRow : OpenClaim := { program := "ytbnicnindggimaa", sum := "c065f2a5c7a93ebe9e5e4358f52e5be98123bee089043847230bd2832d78ad65", func := "portmanteau/portmanteaulaw11.DescRow", spec := "descRow", unfollowed := true, recurses := true, apart := false }
def DescRowSaid : Prop := descRowRow.holds Try.pinned (OpenSpec.ofChange descRowSpec)

/-- ITS FALSE NEIGHBOUR: 'it returns false'. Refute it at one input. -/
def descRowWrong : ChangeSpec := { name := "descRow", fn := fun _ => fun
  | [d] => { results := [.lit (.bool false)], args := [d] }
  | _ => none }
def DescRowWrongFalsely : Prop := descRowRow.holds Try.pinned (OpenSpec.ofChange descRowWrong)

/- THE SECOND FORM. 'bulk': how many values and letters a reading holds, each counted each time it is reached (what is shared counts as often as it is met; a slice's spare places count too). A statement '..UptoSaid' is the law's where the arguments, and the package variables that the reading takes, are together of bulk at most 1048576: NARROWER than '..Said'. Prove '..Said' where nothing that the law and all that it calls make is longer than what came in: it says more and counts as full. Else prove '..UptoSaid'. A law counts once. -/
mutual
def uptoBulk {H : Type} : DataW H → Nat
  | .lit (.string bytes) => bytes.length + 1
  | .lit _ => 1
  | .nil => 1
  | .ptr d => uptoBulk d + 1
  | .slice elems spare => uptoBulkAll elems + uptoBulkAll spare + 1
  | .agg parts => uptoBulkAll parts + 1
  | .iface _ d => uptoBulk d + 1
  | .map entries => uptoBulkEntries entries + 1
  | .held _ => 1
def uptoBulkAll {H : Type} : List (DataW H) → Nat
  | [] => 0
  | d :: r => uptoBulk d + uptoBulkAll r
def uptoBulkEntries {H : Type} : List (Lit × DataW H) → Nat
  | [] => 0
  | x :: r => uptoBulkEntry x + uptoBulkEntries r
def uptoBulkEntry {H : Type} : Lit × DataW H → Nat
  | (.string bytes, d) => bytes.length + uptoBulk d + 1
  | (_, d) => uptoBulk d + 1
 end
def uptoSmall : (H : Type) → List (DataW H) → Bool := fun _ ds => decide (uptoBulkAll ds ≤ 1048576)
def OpenSpec.upto (s : _root_.Go.ChangeSpec) : _root_.Go.OpenSpec := { _root_.Go.OpenSpec.ofChange s with cond := some uptoSmall }

/-- 'portmanteaulaw11.DescCuts', WHERE WHAT IT READS IS OF BULK AT MOST 1048576: true; the input reads as it did. -/
def descCutsUptoRow : OpenClaim := { program := "ytbnicnindggimaa", sum := "c065f2a5c7a93ebe9e5e4358f52e5be98123bee089043847230bd2832d78ad65", func := "portmanteau/portmanteaulaw11.DescCuts", spec := "descCuts", unfollowed := true, recurses := true, apart := false, narrowed := true }
def DescCutsUptoSaid : Prop := descCutsUptoRow.holds Try.pinned (OpenSpec.upto descCutsSpec)

/-- 'portmanteaulaw11.DescUnlike', WHERE WHAT IT READS IS OF BULK AT MOST 1048576: true; the input reads as it did. -/
def descUnlikeUptoRow : OpenClaim := { program := "ytbnicnindggimaa", sum := "c065f2a5c7a93ebe9e5e4358f52e5be98123bee089043847230bd2832d78ad65", func := "portmanteau/portmanteaulaw11.DescUnlike", spec := "descUnlike", unfollowed := true, recurses := true, apart := false, narrowed := true }
def DescUnlikeUptoSaid : Prop := descUnlikeUptoRow.holds Try.pinned (OpenSpec.upto descUnlikeSpec)

/-- 'portmanteaulaw11.DescNil', WHERE WHAT IT READS IS OF BULK AT MOST 1048576: true; the input reads as it did. -/
def descNilUptoRow : OpenClaim := { program := "ytbnicnindggimaa", sum := "c065f2a5c7a93ebe9e5e4358f52e5be98123bee089043847230bd2832d78ad65", func := "portmanteau/portmanteaulaw11.DescNil", spec := "descNil", unfollowed := true, recurses := true, apart := false, narrowed := true }
def DescNilUptoSaid : Prop := descNilUptoRow.holds Try.pinned (OpenSpec.upto descNilSpec)

/-- 'portmanteaulaw11.DescReads', WHERE WHAT IT READS IS OF BULK AT MOST 1048576: true; the input reads as it did. -/
def descReadsUptoRow : OpenClaim := { program := "ytbnicnindggimaa", sum := "c065f2a5c7a93ebe9e5e4358f52e5be98123bee089043847230bd2832d78ad65", func := "portmanteau/portmanteaulaw11.DescReads", spec := "descReads", unfollowed := true, recurses := true, apart := false, narrowed := true }
def DescReadsUptoSaid : Prop := descReadsUptoRow.holds Try.pinned (OpenSpec.upto descReadsSpec)

/-- 'portmanteaulaw11.DescBack', WHERE WHAT IT READS IS OF BULK AT MOST 1048576: true; the input reads as it did. -/
def descBackUptoRow : OpenClaim := { program := "ytbnicnindggimaa", sum := "c065f2a5c7a93ebe9e5e4358f52e5be98123bee089043847230bd2832d78ad65", func := "portmanteau/portmanteaulaw11.DescBack", spec := "descBack", unfollowed := true, recurses := true, apart := false, narrowed := true }
def DescBackUptoSaid : Prop := descBackUptoRow.holds Try.pinned (OpenSpec.upto descBackSpec)

/-- 'portmanteaulaw11.DescOnce', WHERE WHAT IT READS IS OF BULK AT MOST 1048576: true; the input reads as it did. -/
def descOnceUptoRow : OpenClaim := { program := "ytbnicnindggimaa", sum := "c065f2a5c7a93ebe9e5e4358f52e5be98123bee089043847230bd2832d78ad65", func := "portmanteau/portmanteaulaw11.DescOnce", spec := "descOnce", unfollowed := true, recurses := true, apart := false, narrowed := true }
def DescOnceUptoSaid : Prop := descOnceUptoRow.holds Try.pinned (OpenSpec.upto descOnceSpec)

/-- 'portmanteaulaw11.DescForms', WHERE WHAT IT READS IS OF BULK AT MOST 1048576: true; the input reads as it did. -/
def descFormsUptoRow : OpenClaim := { program := "ytbnicnindggimaa", sum := "c065f2a5c7a93ebe9e5e4358f52e5be98123bee089043847230bd2832d78ad65", func := "portmanteau/portmanteaulaw11.DescForms", spec := "descForms", unfollowed := true, recurses := true, apart := false, narrowed := true }
def DescFormsUptoSaid : Prop := descFormsUptoRow.holds Try.pinned (OpenSpec.upto descFormsSpec)

/-- 'portmanteaulaw11.DescPads', WHERE WHAT IT READS IS OF BULK AT MOST 1048576: true; the input reads as it did. -/
def descPadsUptoRow : OpenClaim := { program := "ytbnicnindggimaa", sum := "c065f2a5c7a93ebe9e5e4358f52e5be98123bee089043847230bd2832d78ad65", func := "portmanteau/portmanteaulaw11.DescPads", spec := "descPads", unfollowed := true, recurses := true, apart := false, narrowed := true }
def DescPadsUptoSaid : Prop := descPadsUptoRow.holds Try.pinned (OpenSpec.upto descPadsSpec)

/-- 'portmanteaulaw11.DescRow', WHERE WHAT IT READS IS OF BULK AT MOST 1048576: true; the input reads as it did. -/
def descRowUptoRow : OpenClaim := { program := "ytbnicnindggimaa", sum := "c065f2a5c7a93ebe9e5e4358f52e5be98123bee089043847230bd2832d78ad65", func := "portmanteau/portmanteaulaw11.DescRow", spec := "descRow", unfollowed := true, recurses := true, apart := false, narrowed := true }
def DescRowUptoSaid : Prop := descRowUptoRow.holds Try.pinned (OpenSpec.upto descRowSpec)

end Rows
end Go.Proofs.Ytbnicnindggimaa
