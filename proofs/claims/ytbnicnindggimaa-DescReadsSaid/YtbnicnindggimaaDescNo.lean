/-
  Where the bounds do not admit a table its description is refused: plain mathematics.
  Conditions: none beyond those of each theorem.
-/
import Derived.Test.YtbnicnindggimaaDescOnce
namespace Go.Proofs.Ytbnicnindggimaa

theorem mustS_mono {a b : Bool} (h : a = true → b = true) (σ : St) : mustS a 13 σ = mustS b 13 σ ∨ ((mustS a 13 σ).1 = false ∧ (mustS a 13 σ).2.e = 13) := by
  unfold mustS
  by_cases h0 : σ.e = 0
  · rw [if_pos h0, if_pos h0]
    cases a with
    | false => exact .inr ⟨rfl, rfl⟩
    | true => rw [h rfl]; exact .inl rfl
  · rw [if_neg h0, if_neg h0]; exact .inl rfl

theorem noughtsS_stick {room : Int} {L : List Bool} {f k len : Nat} {σ : St} (h : σ.e ≠ 0) : (noughtsS room L f k len σ).2 = σ := by
  cases f with
  | zero => rfl
  | succ f =>
    unfold noughtsS
    have : mustS (decide ((len : Int) < room)) 13 σ = (false, σ) := by unfold mustS; rw [if_neg h]
    rw [this]
    split <;> rfl

theorem tableS_stick {sy : Int} {L : List Bool} {f left : Nat} {N : List Int} {ran : Bool} {σ : St} (h : σ.e ≠ 0) : (tableS sy L f left N ran σ).2 = σ := by
  cases f with
  | zero => rfl
  | succ f =>
    unfold tableS
    have : mustS (decide ((N.length : Int) < sy)) 13 σ = (false, σ) := by unfold mustS; rw [if_neg h]
    rw [this]
    split <;> rfl

theorem noughtsS_mono {room room2 : Int} (hr : room ≤ room2) (L : List Bool) : ∀ (f k len : Nat) (σ : St), noughtsS room L f k len σ = noughtsS room2 L f k len σ ∨ (noughtsS room L f k len σ).2.e = 13
  | 0, _, _, _ => .inl rfl
  | f + 1, k, len, σ => by
    unfold noughtsS
    by_cases hk : k = 3
    · rw [if_pos hk, if_pos hk]
      rcases mustS_mono (a := decide ((len : Int) < room)) (b := decide ((len : Int) < room2)) (by simp; omega) σ with h | ⟨h1, h2⟩
      · rw [h]
        by_cases hb : (mustS (decide ((len : Int) < room2)) 13 σ).1 = true
        · rw [if_pos hb, if_pos hb]
          exact noughtsS_mono hr L f _ _ _
        · rw [if_neg hb, if_neg hb]; exact .inl rfl
      · right
        rw [h1, if_neg (by simp)]
        exact h2
    · rw [if_neg hk, if_neg hk]; exact .inl rfl

theorem roundS_mono {sy sy2 : Int} (hs : sy ≤ sy2) (L : List Bool) (left : Nat) (N : List Int) (ran : Bool) (σ : St) : roundS sy L left N ran σ = roundS sy2 L left N ran σ ∨ (roundS sy L left N ran σ).2.2.e = 13 := by
  unfold roundS
  simp only
  by_cases h1 : (mustS (((numberS L (left + 2) σ).1 : Int) - 1 != 0 || !ran) 13 (numberS L (left + 2) σ).2).1 = true
  · rw [if_pos h1, if_pos h1]
    by_cases h2 : ((numberS L (left + 2) σ).1 : Int) - 1 = 0
    · rw [if_pos h2, if_pos h2]
      rcases noughtsS_mono (room := sy - (N.length + 1 : Nat)) (room2 := sy2 - (N.length + 1 : Nat)) (by omega) L 300 3 0 (mustS (((numberS L (left + 2) σ).1 : Int) - 1 != 0 || !ran) 13 (numberS L (left + 2) σ).2).2 with h | h
      · rw [h]; exact .inl rfl
      · exact .inr h
    · rw [if_neg h2, if_neg h2]; exact .inl rfl
  · rw [if_neg h1, if_neg h1]; exact .inl rfl

theorem tableS_mono {sy sy2 : Int} (hs : sy ≤ sy2) (L : List Bool) : ∀ (f left : Nat) (N : List Int) (ran : Bool) (σ : St), tableS sy L f left N ran σ = tableS sy2 L f left N ran σ ∨ (tableS sy L f left N ran σ).2.e = 13
  | 0, _, _, _, _ => .inl rfl
  | f + 1, left, N, ran, σ => by
    unfold tableS
    by_cases hl : 0 < left
    · rw [if_pos hl, if_pos hl]
      rcases mustS_mono (a := decide ((N.length : Int) < sy)) (b := decide ((N.length : Int) < sy2)) (by simp; omega) σ with h | ⟨h1, h2⟩
      · rw [h]
        by_cases hb : (mustS (decide ((N.length : Int) < sy2)) 13 σ).1 = true
        · rw [if_pos hb, if_pos hb]
          rcases roundS_mono hs L left N ran (mustS (decide ((N.length : Int) < sy2)) 13 σ).2 with h3 | h3
          · rw [h3]
            simp only
            split
            · exact tableS_mono hs L f _ _ _ _
            · exact .inl rfl
          · right
            simp only
            split
            · rw [tableS_stick (by rw [h3]; omega)]; exact h3
            · exact h3
        · rw [if_neg hb, if_neg hb]; exact .inl rfl
      · right
        rw [h1, if_neg (by simp)]
        exact h2
    · rw [if_neg hl, if_neg hl]; exact .inl rfl

theorem readS_mono {sy sy2 : Int} (hs : sy ≤ sy2) (lb : Int) (L : List Bool) : readS sy lb L = readS sy2 lb L ∨ (readS sy lb L).2.2.e = 13 := by
  unfold readS
  simp only
  split
  · rcases tableS_mono hs L 600 (2 ^ ((takeS L 4 ⟨0, 0⟩).1 + 1)) [] false (mustS (decide (((takeS L 4 ⟨0, 0⟩).1 : Int) + 1 ≤ min lb 9)) 13 (takeS L 4 ⟨0, 0⟩).2).2 with h | h
    · rw [h]; exact .inl rfl
    · exact .inr h
  · exact .inl rfl

theorem readS_refuse {sy lb : Int} {p : Nat} {N : List Int} (hv : Valid p N 256 9) (hp : p ≠ 0) (hsy : sy ≤ 256) (h : sy < N.length ∨ lb < p) (X : List Bool) : (readS sy lb (descBits p N ++ X)).2.2.e = 13 := by
  have hp9 := hv.2.2.1
  by_cases hlb : (p : Int) ≤ lb
  · have hs : sy < N.length := by omega
    have hb := readS_bits 256 lb X p N hv hp hv.2.2.2.2.1 hlb
    rcases readS_mono hsy lb (descBits p N ++ X) with h1 | h1
    · rw [hb] at h1
      have := (readS_once hsy h1 rfl).2.2.1
      omega
    · exact h1
  · have ht := takeS_bits [] (normBits (2 ^ p) 0 N ++ X) 4 (p - 1) (by omega)
    unfold readS descBits
    rw [List.append_assoc]
    simp only [List.nil_append, List.length_nil] at ht
    simp only [ht]
    have hm : mustS (decide (((p - 1 : Nat) : Int) + 1 ≤ min lb 9)) 13 ⟨0 + 4, 0⟩ = (false, ⟨0 + 4, 13⟩) := by
      unfold mustS
      rw [decide_eq_false (by omega)]
      rfl
    rw [hm]
    rfl

theorem desc_refuse {sy lb : Int} {p : Nat} {N : List Int} (hv : Valid p N 256 9) (hp : p ≠ 0) (h : sy < N.length ∨ lb < p) (B : List Nat) : decodeS sy lb (rowB (packB (descBits p N) ++ B)) = .error 13 := by
  have h256 := hv.2.2.2.2.1
  have h1 := readS_refuse (sy := min sy 256) (lb := lb) hv hp (by omega) (by omega)
  rw [desc_row]
  unfold decodeS
  simp only [h1]
  rfl

/-- a bit 1 behind the description, ahead of the byte's end -/
theorem decodeS_pads {sy lb : Int} {p : Nat} {N : List Int} (hv : Valid p N 256 9) (hp : p ≠ 0) (hsy : (N.length : Int) ≤ sy) (hlb : (p : Int) ≤ lb) (X : List Bool)
    (hX : valB (X.take ((8 - (descBits p N).length % 8) % 8)) ≠ 0) : decodeS sy lb (descBits p N ++ X) = .error 14 := by
  have h256 := hv.2.2.2.2.1
  have hr := readS_bits (min sy 256) lb X p N hv hp (by omega) hlb
  unfold decodeS
  simp only [hr]
  rw [if_neg (by simp), List.drop_left, if_pos hX]

end Go.Proofs.Ytbnicnindggimaa
