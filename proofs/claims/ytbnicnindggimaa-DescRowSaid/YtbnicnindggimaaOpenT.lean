/-
  An argument that is a slice of tables, opened.
  Conditions: none beyond those of each theorem.
-/
import Derived.Test.YtbnicnindggimaaOpen
import Derived.Test.YtbnicnindggimaaTabs
import Derived.Deep.Slices
namespace Go.Proofs.Ytbnicnindggimaa
open Go.ChangeShapes Go.WideShapes Go.ChangeAt Go.RowKit Go.Joins Go.Deep
set_option linter.unusedVariables false

set_option maxRecDepth 100000 in
theorem open_tables {H : Type} {enc : TypeId × Value → H} {W : World} {r : Reach} {b0 : Nat} {v : Value} {d : DataW H} {p : List MemPlace}
    (hv : Value.okWide Try.prog W r b0 52 v) (h : DataW.Trod enc Try.prog W 0 (fun _ => true) true 52 v d p) :
    ∃ (A : Option Addr) (n c : Nat) (ts : List (Int × List Int)), v = .slice A n c ∧ Tabs W A n ts ∧ n ≤ c := by
  obtain ⟨a1, len, cap, rfl⟩ := okWide_slice Try.underlying52 hv
  obtain ⟨fuel, hf⟩ := h
  rcases open_slice Try.underlying52 hf with ⟨hcs, _⟩ | ⟨a, l, c, m, k, D, Pl, hcs, _, hl, hm, hmm, hx, hi⟩
  · simp [Value.cells] at hcs
    obtain ⟨rfl, rfl, rfl⟩ := hcs
    exact ⟨none, 0, 0, [], rfl, Tabs.nil _ _, Nat.le_refl _⟩
  · simp [Value.cells] at hcs
    obtain ⟨rfl, rfl, rfl⟩ := hcs
    simp at hmm
    subst hmm
    have hsp : 0 < len → a.spot = none := by
      intro h0
      obtain ⟨cs', hc, _⟩ := hi 0 (by omega)
      rw [cellsTable] at hc
      obtain ⟨_, hcl, hat⟩ := World.cells?_some hc
      have hg0 := hat 0 (by omega)
      obtain ⟨u, hu⟩ : ∃ u, cs'[0]? = some u := ⟨_, List.getElem?_eq_getElem (by omega)⟩
      rw [hu] at hg0
      simpa [Addr.add] using World.cell?_spot hg0
    have each : ∀ i, i < len → ∃ t, TabAt W (some a) i t := by
      intro i hil
      obtain ⟨cs', hc, ht'⟩ := hi i (by omega)
      rw [cellsTable] at hc
      obtain ⟨y0, y1, n', hx', hl', h0, h1⟩ := trod_struct2 Try.underlying24 ht'
      obtain ⟨_, hcl, hat⟩ := World.cells?_some hc
      obtain ⟨c0, c1, rfl⟩ : ∃ c0 c1, cs' = [c0, c1] := by
        match cs', hcl with
        | [c0, c1], _ => exact ⟨c0, c1, rfl⟩
      have hg0 := hat 0 (by omega)
      have hg1 := hat 1 (by omega)
      simp only [List.getElem?_cons_zero, List.getElem?_cons_succ] at hg0 hg1
      obtain ⟨ab, ao, spot⟩ := a
      have hspot : spot = none := hsp (by omega)
      subst hspot
      rw [Addr.add_lit, Addr.add_lit] at hg0 hg1
      have e0 : (([c0, c1] : List Value).drop 0).take (Try.prog.cellsOf 3) = [c0] := by rw [show Try.prog.cellsOf 3 = 1 by kernel_rfl]; rfl
      have e1 : (([c0, c1] : List Value).drop 1).take (Try.prog.cellsOf 22) = [c1] := by rw [show Try.prog.cellsOf 22 = 1 by kernel_rfl]; rfl
      have h0' : DataW.trod enc Try.prog W 0 (fun _ => true) true n' 3 [c0] = some y0 := by rw [← e0]; exact h0
      have h1' : DataW.trod enc Try.prog W 0 (fun _ => true) true n' 22 [c1] = some y1 := by rw [← e1]; exact h1
      obtain ⟨q, q0, _, wq⟩ := DataW.trod_int Try.underlying3 h0'
      simp at q0
      subst q0
      rcases open_ints Try.underlying22 Try.underlying3 (by kernel_rfl) h1' with ⟨hcs, _⟩ | ⟨x, l, c, zs, hcs, _, hl, hm, hz, _, hcell, hwz⟩
      · simp at hcs
        subst hcs
        exact ⟨(q, []), ab, ao, none, 0, 0, rfl, World.block_lt_of_cell? _ _ hg0, by simpa using hg0, by simpa [Nat.add_assoc] using hg1, Rd.nil _ _ _, fun x hx => by simp at hx⟩
      · simp at hcs
        subst hcs
        simp at hz
        exact ⟨(q, zs.take l), ab, ao, some x, l, c, rfl, World.block_lt_of_cell? _ _ hg0, by simpa using hg0, by simpa [Nat.add_assoc] using hg1, rd_of_ints (by omega) hcell, fun x hx => wf_fit (hwz x (List.mem_of_mem_take hx))⟩
    obtain ⟨f, hfn⟩ := choose_lt (α := Int × List Int) each
    refine ⟨some a, len, _, (List.range len).map f, rfl, ⟨by simp, fun i t hit => ?_⟩, hl⟩
    have hil : i < len := by
      have := (List.getElem?_eq_some_iff.1 hit).1
      simpa using this
    simp [hil] at hit
    rw [← hit]
    exact hfn i hil

end Go.Proofs.Ytbnicnindggimaa
