/-
  Joined texts, part 17: contracts and plain lemmas, each under its own heading below.
  Conditions: none beyond those of each theorem.
-/
import Derived.Test.YtjfdaphjijfieaaGreatJ4
import Derived.WalkKit
import Derived.ProofKit
import Derived.OpenShut
import Derived.ShutString
import Derived.ChangeOld
import Derived.Below
import Derived.Lib.SmallJoins
/-
  The arguments of the statements, opened: tables, bytes.
  Conditions: none beyond those of each theorem.
-/
namespace Go.Proofs.YtjfdaphjijfieaaGreat
open Go.ChangeShapes Go.WideShapes Go.ChangeAt Go.RowKit Go.Joins
set_option linter.unusedSimpArgs false
set_option linter.unusedVariables false

theorem cellsTable : Tryz.prog.cellsOf 29 = 2 := by kernel_rfl

theorem wf_fit {k : Int} (h : (Lit.int .i64 k).wf = true) : -9223372036854775808 ≤ k ∧ k ≤ 9223372036854775807 := by
  unfold Lit.wf at h
  simp only [Bool.and_eq_true, decide_eq_true_eq] at h
  have h1 : IntKind.i64.min = -9223372036854775808 := by decide
  have h2 : IntKind.i64.max = 9223372036854775807 := by decide
  omega

theorem rd_of_ints {W : World} {x : Addr} {zs : List Int} {n : Nat} (hl : n ≤ zs.length) (h : ∀ i, i < zs.length → W.cell? (x.add i) = some (.int .i64 (zs.getD i 0))) : Rd W (fun _ => True) (some x) n (ints (zs.take n)) := by
  refine ⟨by simp; omega, fun hn => ?_⟩
  obtain ⟨b, o, rfl, hc⟩ := ints_at h (by omega)
  refine ⟨b, o, rfl, trivial, World.block_lt_of_cell? _ _ (hc 0 (by omega)), fun j hj => ?_⟩
  rw [hc j (by omega), ints_get (by simp; omega)]
  simp [List.getD_eq_getElem?_getD, List.getElem?_eq_getElem (show j < zs.length by omega)]

set_option maxRecDepth 100000 in
theorem open_table {H : Type} {enc : TypeId × Value → H} {W : World} {r : Reach} {b0 : Nat} {v : Value} {d : DataW H} {p : List MemPlace}
    (hv : Value.okWide Tryz.prog W r b0 29 v) (h : DataW.Trod enc Tryz.prog W 0 (fun _ => true) true 29 v d p) :
    ∃ (lg : Int) (A : Option Addr) (n c : Nat) (N : List Int), v = .agg #[.int .i64 lg, .slice A n c] ∧ Rd W (fun _ => True) A n (ints N) ∧ Fit N := by
  obtain ⟨c0, c1, y0, y1, m, rfl, _, _, hy0, hy1⟩ := open_agg2 Tryz.underlying29 (by kernel_rfl) cellsTable hv h
  obtain ⟨a, e0, _, wa⟩ := DataW.trod_int Tryz.underlying3 hy0
  simp at e0
  subst e0
  rcases open_ints Tryz.underlying27 Tryz.underlying3 (by kernel_rfl) hy1 with ⟨hcs, _⟩ | ⟨x, l, c, zs, hcs, _, hl, hm, hz, _, hcell, hwz⟩
  · simp at hcs
    subst hcs
    exact ⟨a, none, 0, 0, [], rfl, Rd.nil _ _ _, fun x hx => by simp at hx⟩
  · simp at hcs
    subst hcs
    simp at hz
    exact ⟨a, some x, l, c, zs.take l, rfl, rd_of_ints (by omega) hcell, fun x hx => wf_fit (hwz x (List.mem_of_mem_take hx))⟩

theorem wf_u8 {k : Int} (h : (Lit.int .u8 k).wf = true) : 0 ≤ k ∧ k ≤ 255 := by
  unfold Lit.wf at h
  simp only [Bool.and_eq_true, decide_eq_true_eq] at h
  have h1 : IntKind.u8.min = 0 := by decide
  have h2 : IntKind.u8.max = 255 := by decide
  omega

theorem rd_of_bytes {W : World} {x : Addr} {zs : List Int} {n : Nat} (hl : n ≤ zs.length) (hw : ∀ z ∈ zs, (Lit.int .u8 z).wf = true) (h : ∀ i, i < zs.length → W.cell? (x.add i) = some (.int .u8 (zs.getD i 0))) :
    Rd W (fun _ => True) (some x) n (((zs.take n).map Int.toNat).map fun b => .int .u8 (b : Nat)) := by
  refine ⟨by simp; omega, fun hn => ?_⟩
  have hx : ∃ b o, x = ⟨b, o, none⟩ ∧ ∀ j, j < zs.length → W.cell? ⟨b, o + j, none⟩ = some (.int .u8 (zs.getD j 0)) := by
    obtain ⟨b, o, spot⟩ := x
    have hspot : spot = none := by simpa [Addr.add] using World.cell?_spot (h 0 (by omega))
    subst hspot
    exact ⟨b, o, rfl, fun j hj => by have := h j hj; rw [Addr.add_lit] at this; exact this⟩
  obtain ⟨b, o, rfl, hc⟩ := hx
  refine ⟨b, o, rfl, trivial, World.block_lt_of_cell? _ _ (hc 0 (by omega)), fun j hj => ?_⟩
  rw [hc j (by omega)]
  have e : zs.getD j 0 = zs[j]'(by omega) := by simp [List.getD, List.getElem?_eq_getElem (show j < zs.length by omega)]
  have hb := wf_u8 (hw _ (List.getElem_mem (show j < zs.length by omega)))
  rw [e]
  simp [List.getElem?_take, hj, List.getElem?_eq_getElem (show j < zs.length by omega)]
  omega

set_option maxRecDepth 100000 in
theorem open_bytes {H : Type} {enc : TypeId × Value → H} {W : World} {r : Reach} {b0 : Nat} {v : Value} {d : DataW H} {p : List MemPlace}
    (hv : Value.okWide Tryz.prog W r b0 26 v) (h : DataW.Trod enc Tryz.prog W 0 (fun _ => true) true 26 v d p) :
    ∃ (A : Option Addr) (n c : Nat) (bs : List Nat), v = .slice A n c ∧ Rd W (fun _ => True) A n (bs.map fun b => .int .u8 (b : Nat)) ∧ (∀ b ∈ bs, b < 256) ∧ n ≤ c := by
  obtain ⟨a1, len, cap, rfl⟩ := okWide_slice Tryz.underlying26 hv
  obtain ⟨fuel, hf⟩ := h
  rcases open_ints Tryz.underlying26 Tryz.underlying5 (by kernel_rfl) hf with ⟨hcs, _⟩ | ⟨x, l, c, zs, hcs, _, hl, hm, hz, _, hcell, hwz⟩
  · simp [Value.cells] at hcs
    obtain ⟨rfl, rfl, rfl⟩ := hcs
    exact ⟨none, 0, 0, [], rfl, Rd.nil _ _ _, fun x hx => by simp at hx, Nat.le_refl _⟩
  · simp [Value.cells] at hcs
    obtain ⟨rfl, rfl, rfl⟩ := hcs
    simp at hz
    refine ⟨some x, len, cap, (zs.take len).map Int.toNat, rfl, rd_of_bytes (by omega) hwz hcell, fun b hb => ?_, hl⟩
    obtain ⟨z, hz1, rfl⟩ := List.mem_map.1 hb
    have := wf_u8 (hwz z (List.mem_of_mem_take hz1))
    omega

set_option maxRecDepth 100000 in
theorem open_intsA {H : Type} {enc : TypeId × Value → H} {W : World} {r : Reach} {b0 : Nat} {v : Value} {d : DataW H} {p : List MemPlace}
    (hv : Value.okWide Tryz.prog W r b0 27 v) (h : DataW.Trod enc Tryz.prog W 0 (fun _ => true) true 27 v d p) :
    ∃ (A : Option Addr) (n c : Nat) (N : List Int), v = .slice A n c ∧ Rd W (fun _ => True) A n (ints N) ∧ Fit N ∧ n ≤ c := by
  obtain ⟨a1, len, cap, rfl⟩ := okWide_slice Tryz.underlying27 hv
  obtain ⟨fuel, hf⟩ := h
  rcases open_ints Tryz.underlying27 Tryz.underlying3 (by kernel_rfl) hf with ⟨hcs, _⟩ | ⟨x, l, c, zs, hcs, _, hl, hm, hz, _, hcell, hwz⟩
  · simp [Value.cells] at hcs
    obtain ⟨rfl, rfl, rfl⟩ := hcs
    exact ⟨none, 0, 0, [], rfl, Rd.nil _ _ _, fun x hx => by simp at hx, Nat.le_refl _⟩
  · simp [Value.cells] at hcs
    obtain ⟨rfl, rfl, rfl⟩ := hcs
    simp at hz
    exact ⟨some x, len, cap, zs.take len, rfl, rd_of_ints (by omega) hcell, fun x hx => wf_fit (hwz x (List.mem_of_mem_take hx)), hl⟩

end Go.Proofs.YtjfdaphjijfieaaGreat

/-
  The arguments of the statements, opened: a sequence.
  Conditions: none beyond those of each theorem.
-/
namespace Go.Proofs.YtjfdaphjijfieaaGreat
open Go.ChangeShapes Go.WideShapes Go.ChangeAt Go.RowKit Go.Joins
set_option linter.unusedSimpArgs false
set_option linter.unusedVariables false

theorem cellsSeq : Tryz.prog.cellsOf 23 = 3 := by kernel_rfl

set_option maxRecDepth 100000 in
theorem open_seq {H : Type} {enc : TypeId × Value → H} {W : World} {r : Reach} {b0 : Nat} {v : Value} {d : DataW H} {p : List MemPlace}
    (hv : Value.okWide Tryz.prog W r b0 23 v) (h : DataW.Trod enc Tryz.prog W 0 (fun _ => true) true 23 v d p) :
    ∃ (a b c : Int), v = .agg #[.int .i64 a, .int .i64 b, .int .i64 c] ∧ (-(2 ^ 63) ≤ b ∧ b < 2 ^ 63) := by
  obtain ⟨c0, c1, c2, y0, y1, y2, m, rfl, _, _, hy0, hy1, hy2⟩ := open_agg3 Tryz.underlying23 (by kernel_rfl) cellsSeq hv h
  obtain ⟨a, e0, _, wa⟩ := DataW.trod_int Tryz.underlying3 hy0
  obtain ⟨b, e1, _, wb⟩ := DataW.trod_int Tryz.underlying3 hy1
  obtain ⟨c, e2, _, wc⟩ := DataW.trod_int Tryz.underlying3 hy2
  simp at e0 e1 e2
  subst e0 e1 e2
  have := wf_fit wb
  exact ⟨a, b, c, rfl, by omega⟩

end Go.Proofs.YtjfdaphjijfieaaGreat
