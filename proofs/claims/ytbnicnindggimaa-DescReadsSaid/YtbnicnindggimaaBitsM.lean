/-
  Bits packed one by one: plain mathematics.
  Conditions: none beyond those of each theorem.
-/
import Derived.Test.YtbnicnindggimaaDescLaw
namespace Go.Proofs.Ytbnicnindggimaa

theorem bitsB_snoc (k v : Nat) : bitsB (k + 1) v = bitsB k v ++ [v / 2 ^ k % 2 == 1] := by rw [bitsB_add]; rfl

theorem valB_cons_drop {L : List Bool} {k : Nat} (h : k < L.length) : valB (L.drop k) = L[k].toNat + 2 * valB (L.drop (k + 1)) := by
  rw [List.drop_eq_getElem_cons h]; rfl

theorem pack_step (L : List Bool) (i : Nat) (h : i < L.length) : ∃ (fr : List Nat) (y : Nat), fr.length = i / 8 ∧ y < 2 ^ (i % 8) ∧ (i % 8 = 0 → packB (L.take i) = fr ∧ y = 0) ∧ (i % 8 ≠ 0 → packB (L.take i) = fr ++ [y]) ∧
    packB (L.take (i + 1)) = fr ++ [y + if L[i] then 2 ^ (i % 8) else 0] := by
  have hP : (L.take (8 * (i / 8))).length = 8 * (i / 8) := by rw [List.length_take]; omega
  have hP8 : rowB (packB (L.take (8 * (i / 8)))) = L.take (8 * (i / 8)) := by
    rw [rowB_packB _ _ (Nat.le_refl _)]
    unfold padB
    rw [hP, show (8 - 8 * (i / 8) % 8) % 8 = 0 by omega]
    simp
  have hsplit : ∀ j, 8 * (i / 8) ≤ j → L.take j = L.take (8 * (i / 8)) ++ (L.drop (8 * (i / 8))).take (j - 8 * (i / 8)) := by
    intro j hj
    have := @List.take_add _ L (8 * (i / 8)) (j - 8 * (i / 8))
    rw [show 8 * (i / 8) + (j - 8 * (i / 8)) = j by omega] at this
    exact this
  have hpack : ∀ j, 8 * (i / 8) ≤ j → packB (L.take j) = packB (L.take (8 * (i / 8))) ++ packB ((L.drop (8 * (i / 8))).take (j - 8 * (i / 8))) := by
    intro j hj
    have := packB_rowB (packB (L.take (8 * (i / 8)))) ((L.drop (8 * (i / 8))).take (j - 8 * (i / 8))) (packB_lt _)
    rw [hP8, ← hsplit j hj] at this
    exact this
  have hT : ∀ j, j ≤ L.length - 8 * (i / 8) → ((L.drop (8 * (i / 8))).take j).length = j := fun j hj => by rw [List.length_take, List.length_drop]; omega
  have hi := hT (i % 8) (by omega)
  have hi1 := hT (i % 8 + 1) (by omega)
  have hv := valB_lt ((L.drop (8 * (i / 8))).take (i % 8))
  rw [hi] at hv
  refine ⟨packB (L.take (8 * (i / 8))), valB ((L.drop (8 * (i / 8))).take (i % 8)), by rw [packB_length, hP]; omega, hv, fun h0 => ?_, fun h0 => ?_, ?_⟩
  · rw [h0]
    refine ⟨?_, rfl⟩
    rw [show 8 * (i / 8) = i by omega]
  · rw [hpack i (by omega), show i - 8 * (i / 8) = i % 8 by omega, packB_short ((L.drop (8 * (i / 8))).take (i % 8)) (by omega) (by omega)]
  · rw [hpack (i + 1) (by omega), show i + 1 - 8 * (i / 8) = i % 8 + 1 by omega, packB_short ((L.drop (8 * (i / 8))).take (i % 8 + 1)) (by omega) (by omega)]
    congr 2
    have hget : (L.drop (8 * (i / 8)))[i % 8]? = some L[i] := by
      rw [List.getElem?_drop, show 8 * (i / 8) + i % 8 = i by omega, List.getElem?_eq_getElem h]
    rw [List.take_add_one, hget, valB_append, hi]
    cases L[i] <;> simp [valB]

end Go.Proofs.Ytbnicnindggimaa
