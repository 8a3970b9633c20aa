/-
  A slice of tables in memory.
  Conditions: none beyond those of each theorem.
-/
import Derived.Test.YtbnicnindggimaaNormCheck
namespace Go.Proofs.Ytbnicnindggimaa
open Go.RowKit

/-- element i of the slice at A is the table t -/
def TabAt (w : World) (A : Option Addr) (i : Nat) (t : Int × List Int) : Prop :=
  ∃ (b o : Nat) (B : Option Addr) (n c : Nat), A = some ⟨b, o, none⟩ ∧ b < w.heap.size ∧ w.cell? ⟨b, o + i * 2, none⟩ = some (.int .i64 t.1) ∧ w.cell? ⟨b, o + i * 2 + 1, none⟩ = some (.slice B n c) ∧
    Rd w (fun _ => True) B n (ints t.2) ∧ Fit t.2

/-- the slice value '.slice A n _' reads as the tables ts -/
def Tabs (w : World) (A : Option Addr) (n : Nat) (ts : List (Int × List Int)) : Prop := ts.length = n ∧ ∀ i t, ts[i]? = some t → TabAt w A i t

theorem TabAt.fresh {w w' : World} {A : Option Addr} {i : Nat} {t : Int × List Int} (h : TabAt w A i t) (f : Fresh w w') : TabAt w' A i t := by
  obtain ⟨b, o, B, n, c, rfl, hb, h1, h2, h3, h4⟩ := h
  exact ⟨b, o, B, n, c, rfl, Nat.lt_of_lt_of_le hb f.size, by rw [f.cells _ _ hb]; exact h1, by rw [f.cells _ _ hb]; exact h2, h3.fresh f, h4⟩
theorem Tabs.fresh {w w' : World} {A : Option Addr} {n : Nat} {ts : List (Int × List Int)} (h : Tabs w A n ts) (f : Fresh w w') : Tabs w' A n ts := ⟨h.1, fun i t hi => (h.2 i t hi).fresh f⟩
theorem Tabs.nil (w : World) (A : Option Addr) : Tabs w A 0 [] := ⟨rfl, fun i t h => by simp at h⟩

end Go.Proofs.Ytbnicnindggimaa
