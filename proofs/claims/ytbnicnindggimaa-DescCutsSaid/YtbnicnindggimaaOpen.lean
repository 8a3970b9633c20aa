/-
  The arguments of the statements, opened: tables, bytes.
  Conditions: none beyond those of each theorem.
-/
import Derived.Test.YtbnicnindggimaaNormCheck
import Derived.WalkKit
import Derived.ProofKit
import Derived.OpenShut
import Derived.ShutString
import Derived.ChangeOld
import Derived.Below
import Derived.Lib.SmallJoins
namespace Go.Proofs.Ytbnicnindggimaa
open Go.ChangeShapes Go.WideShapes Go.ChangeAt Go.RowKit Go.Joins
set_option linter.unusedVariables false

theorem cellsTable : Try.prog.cellsOf 24 = 2 := by kernel_rfl

theorem wf_fit {k : Int} (h : (Lit.int .i64 k).wf = true) : -9223372036854775808 ≤ k ∧ k ≤ 9223372036854775807 := by
  unfold Lit.wf at h
  simp only [Bool.and_eq_true, decide_eq_true_eq] at h
  have h1 : IntKind.i64.min = -9223372036854775808 := by decide
  have h2 : IntKind.i64.max = 9223372036854775807 := by decide
  omega

theorem rd_of_ints {W : World} {x : Addr} {zs : List Int} {n : Nat} (hl : n ≤ zs.length) (h : ∀ i, i < zs.length → W.cell? (x.add i) = some (.int .i64 (zs.getD i 0))) : Rd W (fun _ => True) (some x) n (ints (zs.take n)) := by
  refine ⟨by simp; omega, fun hn => ?_⟩
  obtain ⟨b, o, rfl, hc⟩ := ints_at h (by omega)
  refine ⟨b, o, rfl, trivial, World.block_lt_of_cell? _ _ (hc 0 (by omega)), fun j hj => ?_⟩
  rw [hc j (by omega), ints_get (by simp; omega)]
  simp [List.getD_eq_getElem?_getD, List.getElem?_eq_getElem (show j < zs.length by omega)]

set_option maxRecDepth 100000 in
theorem open_table {H : Type} {enc : TypeId × Value → H} {W : World} {r : Reach} {b0 : Nat} {v : Value} {d : DataW H} {p : List MemPlace}
    (hv : Value.okWide Try.prog W r b0 24 v) (h : DataW.Trod enc Try.prog W 0 (fun _ => true) true 24 v d p) :
    ∃ (lg : Int) (A : Option Addr) (n c : Nat) (N : List Int), v = .agg #[.int .i64 lg, .slice A n c] ∧ Rd W (fun _ => True) A n (ints N) ∧ Fit N := by
  obtain ⟨c0, c1, y0, y1, m, rfl, _, _, hy0, hy1⟩ := open_agg2 Try.underlying24 (by kernel_rfl) cellsTable hv h
  obtain ⟨a, e0, _, wa⟩ := DataW.trod_int Try.underlying3 hy0
  simp at e0
  subst e0
  rcases open_ints Try.underlying22 Try.underlying3 (by kernel_rfl) hy1 with ⟨hcs, _⟩ | ⟨x, l, c, zs, hcs, _, hl, hm, hz, _, hcell, hwz⟩
  · simp at hcs
    subst hcs
    exact ⟨a, none, 0, 0, [], rfl, Rd.nil _ _ _, fun x hx => by simp at hx⟩
  · simp at hcs
    subst hcs
    simp at hz
    exact ⟨a, some x, l, c, zs.take l, rfl, rd_of_ints (by omega) hcell, fun x hx => wf_fit (hwz x (List.mem_of_mem_take hx))⟩

end Go.Proofs.Ytbnicnindggimaa
