/-
  Descriptions as bytes: plain mathematics.
  Conditions: none beyond those of each theorem.
-/
import Derived.Test.YtbnicnindggimaaDescExt
namespace Go.Proofs.Ytbnicnindggimaa

theorem bitsB_zero : ∀ n, bitsB n 0 = List.replicate n false
  | 0 => rfl
  | n + 1 => by rw [List.replicate_succ, ← bitsB_zero n]; rfl

theorem rowB_packB : ∀ (k : Nat) (l : List Bool), l.length ≤ k → rowB (packB l) = padB l
  | _, [], _ => by rfl
  | 0, _ :: _, h => by simp at h
  | k + 1, b :: l, h => by
    by_cases hs : (b :: l).length ≤ 8
    · rw [packB_short _ (by simp) hs, rowB_cons, rowB_nil, List.append_nil]
      have h1 := bitsB_add (b :: l).length (8 - (b :: l).length) (valB (b :: l))
      rw [show (b :: l).length + (8 - (b :: l).length) = 8 by omega, bitsB_valB, Nat.div_eq_of_lt (valB_lt _), bitsB_zero] at h1
      rw [h1]
      unfold padB
      congr 2
      simp only [List.length_cons] at hs ⊢
      omega
    · have h2 : (b :: l) = (b :: l).take 8 ++ (b :: l).drop 8 := (List.take_append_drop 8 _).symm
      have h3 : ((b :: l).take 8).length = 8 := by rw [List.length_take]; omega
      have ih := rowB_packB k ((b :: l).drop 8) (by rw [List.length_drop]; simp only [List.length_cons] at h ⊢; omega)
      have h4 : rowB (packB (b :: l)) = (b :: l).take 8 ++ padB ((b :: l).drop 8) := by
        have h5 := packB_cons ((b :: l).take 8) ((b :: l).drop 8) h3
        rw [← h2] at h5
        rw [h5, rowB_cons, ih]
        have := bitsB_valB ((b :: l).take 8)
        rw [h3] at this
        rw [this]
      rw [h4]
      unfold padB
      rw [← List.append_assoc, ← h2, List.length_drop]
      congr 2
      omega

theorem rowB_take (bs : List Nat) (k : Nat) : rowB (bs.take k) = (rowB bs).take (8 * k) := by
  have h1 : rowB bs = rowB (bs.take k) ++ rowB (bs.drop k) := by rw [← rowB_append, List.take_append_drop]
  by_cases h : k ≤ bs.length
  · have hl : (rowB (bs.take k)).length = 8 * k := by rw [rowB_length, List.length_take]; omega
    rw [h1, List.take_append_of_le_length (by omega)]
    exact (List.take_of_length_le (by omega)).symm
  · rw [List.take_of_length_le (by omega), List.take_of_length_le (by rw [rowB_length]; omega)]

theorem descBits_pos (p : Nat) (N : List Int) : 0 < (descBits p N).length := by unfold descBits; simp; omega

theorem desc_bytes_le {p : Nat} {N : List Int} (hv : Valid p N 256 9) : (packB (descBits p N)).length ≤ 400 := by
  have := descBits_length p N (by have := hv.2.2.1; omega)
  have := hv.2.2.2.2.1
  rw [packB_length]
  omega

/-- where the bytes of a description are cut short, the reader runs out of bits -/
theorem desc_cut {sy lb : Int} {p : Nat} {N : List Int} (hv : Valid p N 256 9) (hp : p ≠ 0) (hsy : (N.length : Int) ≤ sy) (hlb : (p : Int) ≤ lb) (k : Nat) (hk : k < (packB (descBits p N)).length) :
    decodeS sy lb (rowB ((packB (descBits p N)).take k)) = .error 3 := by
  have hl := packB_length (descBits p N)
  have h8 : 8 * k < (descBits p N).length := by omega
  have e1 : rowB ((packB (descBits p N)).take k) = (descBits p N).take (8 * k) := by
    rw [rowB_take, rowB_packB _ _ (Nat.le_refl _)]
    unfold padB
    rw [List.take_append_of_le_length (by omega)]
  have h256 := hv.2.2.2.2.1
  have h2 := readS_cut (sy := min sy 256) (lb := lb) hv hp (by omega) hlb (8 * k) h8
  rw [e1]
  unfold decodeS
  simp only [h2]
  rfl

end Go.Proofs.Ytbnicnindggimaa
