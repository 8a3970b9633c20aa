/-
  Reading looks only at the bits it counts: plain mathematics.
  Conditions: none beyond those of each theorem.
-/
import Derived.Test.YtbnicnindggimaaDescBack
namespace Go.Proofs.Ytbnicnindggimaa

theorem takeS_ne3 {L : List Bool} {n : Nat} {σ : St} (h : (takeS L n σ).2.e ≠ 3) : σ.e ≠ 3 := by
  intro h3
  unfold takeS at h
  rw [if_pos (by omega)] at h
  exact h h3
theorem takeS_stick {L : List Bool} {n : Nat} {σ : St} (h : σ.e ≠ 0) : (takeS L n σ).2 = σ := by unfold takeS; rw [if_pos h]
theorem takeS_ext {L : List Bool} (X : List Bool) {n : Nat} {σ : St} (h : (takeS L n σ).2.e ≠ 3) : takeS (L ++ X) n σ = takeS L n σ := by
  unfold takeS at h ⊢
  by_cases h1 : σ.e ≠ 0
  · rw [if_pos h1, if_pos h1]
  · rw [if_neg h1] at h
    rw [if_neg h1, if_neg h1]
    by_cases h2 : σ.fr + n ≤ L.length
    · rw [if_pos h2, if_pos (by simp; omega), List.drop_append_of_le_length (by omega), List.take_append_of_le_length (by simp; omega)]
    · rw [if_neg h2] at h
      exact absurd rfl h
theorem takeS_fr {L : List Bool} {n : Nat} {σ : St} (h : σ.fr ≤ L.length) : (takeS L n σ).2.fr ≤ L.length := by
  unfold takeS
  split
  · exact h
  · split
    · assumption
    · exact h
theorem mustS_ne3 {b : Bool} {σ : St} (h : (mustS b 13 σ).2.e ≠ 3) : σ.e ≠ 3 := by
  intro h3
  unfold mustS at h
  rw [if_neg (by omega)] at h
  exact h h3
theorem mustS_fr {b : Bool} {e : Int} {σ : St} : (mustS b e σ).2.fr = σ.fr := by
  unfold mustS
  split
  · split <;> rfl
  · rfl

theorem numberS_ne3 {L : List Bool} {m : Nat} {σ : St} (h : (numberS L m σ).2.e ≠ 3) : σ.e ≠ 3 := by
  unfold numberS at h
  split at h
  · exact takeS_ne3 h
  · exact takeS_ne3 (takeS_ne3 h)
theorem numberS_ext {L : List Bool} (X : List Bool) {m : Nat} {σ : St} (h : (numberS L m σ).2.e ≠ 3) : numberS (L ++ X) m σ = numberS L m σ := by
  unfold numberS at h ⊢
  by_cases h1 : (takeS L (cutB m) σ).1 < cutU m
  · rw [if_pos h1] at h
    rw [if_pos h1, takeS_ext X h, if_pos h1]
  · rw [if_neg h1] at h
    have h2 := takeS_ne3 h
    rw [if_neg h1, takeS_ext X h2, if_neg h1, takeS_ext X h]
theorem numberS_fr {L : List Bool} {m : Nat} {σ : St} (h : σ.fr ≤ L.length) : (numberS L m σ).2.fr ≤ L.length := by
  unfold numberS
  split
  · exact takeS_fr h
  · exact takeS_fr (takeS_fr h)

theorem noughtsS_ne3 {room : Int} {L : List Bool} : ∀ {f k len : Nat} {σ : St}, (noughtsS room L f k len σ).2.e ≠ 3 → σ.e ≠ 3
  | 0, _, _, _, h => h
  | f + 1, k, len, σ, h => by
    unfold noughtsS at h
    split at h
    · split at h
      · exact mustS_ne3 (takeS_ne3 (noughtsS_ne3 h))
      · exact mustS_ne3 h
    · exact h
theorem noughtsS_ext {room : Int} {L : List Bool} (X : List Bool) : ∀ {f k len : Nat} {σ : St}, (noughtsS room L f k len σ).2.e ≠ 3 → noughtsS room (L ++ X) f k len σ = noughtsS room L f k len σ
  | 0, _, _, _, h => rfl
  | f + 1, k, len, σ, h => by
    unfold noughtsS at h ⊢
    by_cases h1 : k = 3
    · rw [if_pos h1] at h
      rw [if_pos h1, if_pos h1]
      by_cases h2 : (mustS (decide ((len : Int) < room)) 13 σ).1 = true
      · rw [if_pos h2] at h
        rw [if_pos h2, if_pos h2, takeS_ext X (noughtsS_ne3 h), noughtsS_ext X h]
      · rw [if_neg h2, if_neg h2]
    · rw [if_neg h1, if_neg h1]
theorem noughtsS_fr {room : Int} {L : List Bool} : ∀ {f k len : Nat} {σ : St}, σ.fr ≤ L.length → (noughtsS room L f k len σ).2.fr ≤ L.length
  | 0, _, _, _, h => h
  | f + 1, k, len, σ, h => by
    unfold noughtsS
    split
    · split
      · exact noughtsS_fr (takeS_fr (by rw [mustS_fr]; exact h))
      · rw [mustS_fr]; exact h
    · exact h

theorem roundS_ne3 {sy : Int} {L : List Bool} {left : Nat} {N : List Int} {ran : Bool} {σ : St} (h : (roundS sy L left N ran σ).2.2.e ≠ 3) : σ.e ≠ 3 := by
  unfold roundS at h
  simp only at h
  split at h
  · split at h
    · exact numberS_ne3 (mustS_ne3 (noughtsS_ne3 h))
    · exact numberS_ne3 (mustS_ne3 h)
  · exact numberS_ne3 (mustS_ne3 h)
theorem roundS_num3 {sy : Int} {L : List Bool} {left : Nat} {N : List Int} {ran : Bool} {σ : St} (h : (roundS sy L left N ran σ).2.2.e ≠ 3) : (numberS L (left + 2) σ).2.e ≠ 3 := by
  unfold roundS at h
  simp only at h
  split at h
  · split at h
    · exact mustS_ne3 (noughtsS_ne3 h)
    · exact mustS_ne3 h
  · exact mustS_ne3 h
theorem roundS_ext {sy : Int} {L : List Bool} (X : List Bool) {left : Nat} {N : List Int} {ran : Bool} {σ : St} (h : (roundS sy L left N ran σ).2.2.e ≠ 3) : roundS sy (L ++ X) left N ran σ = roundS sy L left N ran σ := by
  have h0 := roundS_num3 h
  unfold roundS at h ⊢
  rw [numberS_ext X h0]
  simp only at h ⊢
  by_cases h1 : (mustS (((numberS L (left + 2) σ).1 : Int) - 1 != 0 || !ran) 13 (numberS L (left + 2) σ).2).1 = true
  · rw [if_pos h1] at h
    rw [if_pos h1, if_pos h1]
    by_cases h2 : ((numberS L (left + 2) σ).1 : Int) - 1 = 0
    · rw [if_pos h2] at h
      rw [if_pos h2, if_pos h2, noughtsS_ext X h]
    · rw [if_neg h2, if_neg h2]
  · rw [if_neg h1, if_neg h1]
theorem roundS_fr {sy : Int} {L : List Bool} {left : Nat} {N : List Int} {ran : Bool} {σ : St} (h : σ.fr ≤ L.length) : (roundS sy L left N ran σ).2.2.fr ≤ L.length := by
  have h0 := numberS_fr (m := left + 2) h
  unfold roundS
  simp only
  split
  · split
    · exact noughtsS_fr (by rw [mustS_fr]; exact h0)
    · simp only [mustS_fr]; exact h0
  · simp only [mustS_fr]; exact h0

theorem tableS_ne3 {sy : Int} {L : List Bool} : ∀ {f left : Nat} {N : List Int} {ran : Bool} {σ : St}, (tableS sy L f left N ran σ).2.e ≠ 3 → σ.e ≠ 3
  | 0, _, _, _, _, h => h
  | f + 1, left, N, ran, σ, h => by
    unfold tableS at h
    split at h
    · split at h
      · simp only at h
        split at h
        · exact mustS_ne3 (roundS_ne3 (tableS_ne3 h))
        · exact mustS_ne3 (roundS_ne3 h)
      · exact mustS_ne3 h
    · exact h
theorem tableS_ext {sy : Int} {L : List Bool} (X : List Bool) : ∀ {f left : Nat} {N : List Int} {ran : Bool} {σ : St}, (tableS sy L f left N ran σ).2.e ≠ 3 → tableS sy (L ++ X) f left N ran σ = tableS sy L f left N ran σ
  | 0, _, _, _, _, h => rfl
  | f + 1, left, N, ran, σ, h => by
    unfold tableS at h ⊢
    by_cases h1 : 0 < left
    · rw [if_pos h1] at h
      rw [if_pos h1, if_pos h1]
      by_cases h2 : (mustS (decide ((N.length : Int) < sy)) 13 σ).1 = true
      · rw [if_pos h2] at h
        rw [if_pos h2, if_pos h2]
        simp only at h ⊢
        by_cases h3 : (roundS sy L left N ran (mustS (decide ((N.length : Int) < sy)) 13 σ).2).1.1 = true
        · rw [if_pos h3] at h
          have h4 := roundS_ext X (tableS_ne3 h)
          rw [if_pos h3, h4, if_pos h3, tableS_ext X h]
        · rw [if_neg h3] at h
          have h4 := roundS_ext X h
          rw [if_neg h3, h4, if_neg h3]
      · rw [if_neg h2, if_neg h2]
    · rw [if_neg h1, if_neg h1]
theorem tableS_fr {sy : Int} {L : List Bool} : ∀ {f left : Nat} {N : List Int} {ran : Bool} {σ : St}, σ.fr ≤ L.length → (tableS sy L f left N ran σ).2.fr ≤ L.length
  | 0, _, _, _, _, h => h
  | f + 1, left, N, ran, σ, h => by
    unfold tableS
    split
    · split
      · simp only
        split
        · exact tableS_fr (roundS_fr (by rw [mustS_fr]; exact h))
        · exact roundS_fr (by rw [mustS_fr]; exact h)
      · simp only [mustS_fr]; exact h
    · exact h

theorem readS_ext {sy lb : Int} {L : List Bool} (X : List Bool) (h : (readS sy lb L).2.2.e ≠ 3) : readS sy lb (L ++ X) = readS sy lb L := by
  unfold readS at h ⊢
  simp only at h ⊢
  by_cases h1 : (mustS (decide (((takeS L 4 ⟨0, 0⟩).1 : Int) + 1 ≤ min lb 9)) 13 (takeS L 4 ⟨0, 0⟩).2).1 = true
  · rw [if_pos h1] at h
    have h2 := takeS_ext X (mustS_ne3 (tableS_ne3 h))
    rw [if_pos h1, h2, if_pos h1, tableS_ext X h]
  · rw [if_neg h1] at h
    have h2 := takeS_ext X (mustS_ne3 h)
    rw [if_neg h1, h2, if_neg h1]
theorem readS_fr {sy lb : Int} {L : List Bool} : (readS sy lb L).2.2.fr ≤ L.length := by
  have h0 : (takeS L 4 ⟨0, 0⟩).2.fr ≤ L.length := takeS_fr (by simp)
  unfold readS
  simp only
  split
  · exact tableS_fr (by rw [mustS_fr]; exact h0)
  · simp only [mustS_fr]; exact h0

/-- a description that is cut short is too short -/
theorem readS_cut {sy lb : Int} {p : Nat} {N : List Int} (hv : Valid p N 256 9) (hp : p ≠ 0) (hsy : (N.length : Int) ≤ sy) (hlb : (p : Int) ≤ lb) (k : Nat) (hk : k < (descBits p N).length) :
    (readS sy lb ((descBits p N).take k)).2.2.e = 3 := by
  rcases Decidable.em ((readS sy lb ((descBits p N).take k)).2.2.e = 3) with h | h
  · exact h
  · have h1 := readS_ext ((descBits p N).drop k) h
    have h2 := readS_bits sy lb [] p N hv hp hsy hlb
    rw [List.take_append_drop] at h1
    rw [List.append_nil] at h2
    have h3 := readS_fr (sy := sy) (lb := lb) (L := (descBits p N).take k)
    rw [← h1, h2] at h3
    simp at h3
    omega

end Go.Proofs.Ytbnicnindggimaa
