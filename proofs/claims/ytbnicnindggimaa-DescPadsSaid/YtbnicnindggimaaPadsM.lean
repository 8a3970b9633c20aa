/-
  A description whose last byte has a bit set behind its end: plain mathematics.
  Conditions: none beyond those of each theorem.
-/
import Derived.Test.YtbnicnindggimaaDescNo
namespace Go.Proofs.Ytbnicnindggimaa

theorem pads_bytes (D : List Bool) (hr : D.length % 8 ≠ 0) : ∃ (fr : List Nat) (y : Nat), packB D = fr ++ [y] ∧ y < 2 ^ (D.length % 8) ∧
    ∀ j, rowB (fr ++ [y + 2 ^ (D.length % 8 + j)]) = D ++ bitsB (8 - D.length % 8) (2 ^ j) := by
  have hl : (D.take (8 * (D.length / 8))).length = 8 * (D.length / 8) := by rw [List.length_take]; omega
  have hl2 : (D.drop (8 * (D.length / 8))).length = D.length % 8 := by rw [List.length_drop]; omega
  have hsplit : D = D.take (8 * (D.length / 8)) ++ D.drop (8 * (D.length / 8)) := (List.take_append_drop _ D).symm
  generalize hP : D.take (8 * (D.length / 8)) = P at *
  generalize hT : D.drop (8 * (D.length / 8)) = T at *
  have hP8 : rowB (packB P) = P := by
    rw [rowB_packB _ _ (Nat.le_refl _)]
    unfold padB
    rw [hl, show (8 - 8 * (D.length / 8) % 8) % 8 = 0 by omega]
    simp
  have h1 : packB D = packB P ++ [valB T] := by
    have := packB_rowB (packB P) T (packB_lt P)
    rw [hP8, ← hsplit, packB_short T (by omega) (by omega)] at this
    exact this
  have hv : valB T < 2 ^ (D.length % 8) := by rw [← hl2]; exact valB_lt T
  refine ⟨packB P, valB T, h1, hv, fun j => ?_⟩
  rw [rowB_append, hP8, rowB_cons, rowB_nil, List.append_nil, Nat.pow_add]
  have h2 := bitsB_append (m := D.length % 8) (n := 8 - D.length % 8) (a := valB T) (b := 2 ^ j) hv
  rw [show D.length % 8 + (8 - D.length % 8) = 8 by omega] at h2
  rw [← h2, ← List.append_assoc]
  congr 1
  have h3 := bitsB_valB T
  rw [hl2] at h3
  rw [h3]
  exact hsplit.symm

theorem pads_val (r j : Nat) (h : j < r) : valB ((bitsB r (2 ^ j)).take r) ≠ 0 := by
  rw [List.take_of_length_le (by simp), valB_bitsB, Nat.mod_eq_of_lt (Nat.pow_lt_pow_right (by omega) h)]
  exact Nat.ne_of_gt (Nat.two_pow_pos j)

end Go.Proofs.Ytbnicnindggimaa
