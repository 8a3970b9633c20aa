/-
  A description and any bytes behind it are read back as the table: plain mathematics.
  Conditions: none beyond those of each theorem.
-/
import Derived.Test.YtbnicnindggimaaDescBytes
namespace Go.Proofs.Ytbnicnindggimaa

theorem valB_falses : ∀ n, valB (List.replicate n false) = 0
  | 0 => rfl
  | n + 1 => by
    have h := valB_bitsB (n + 1) 0
    rw [bitsB_zero] at h
    simpa using h

theorem desc_row (D : List Bool) (B : List Nat) : rowB (packB D ++ B) = D ++ (List.replicate ((8 - D.length % 8) % 8) false ++ rowB B) := by
  rw [rowB_append, rowB_packB _ _ (Nat.le_refl _)]
  unfold padB
  rw [List.append_assoc]

theorem desc_back {sy lb : Int} {p : Nat} {N : List Int} (hv : Valid p N 256 9) (hp : p ≠ 0) (hsy : (N.length : Int) ≤ sy) (hlb : (p : Int) ≤ lb) (B : List Nat) :
    decodeS sy lb (rowB (packB (descBits p N) ++ B)) = .ok (p, N, (packB (descBits p N)).length) := by
  have h256 := hv.2.2.2.2.1
  have hr := fun X => readS_bits (min sy 256) lb X p N hv hp (by omega) hlb
  rw [desc_row, packB_length]
  generalize descBits p N = D at *
  unfold decodeS
  simp only [hr]
  rw [if_neg (by simp)]
  have h1 : (D ++ (List.replicate ((8 - D.length % 8) % 8) false ++ rowB B)).drop D.length = List.replicate ((8 - D.length % 8) % 8) false ++ rowB B := List.drop_left
  rw [h1, List.take_append_of_le_length (by simp), List.take_of_length_le (by simp), valB_falses]
  rw [if_neg (by simp)]
  congr 3
  omega

theorem desc_inj {p q : Nat} {N M : List Int} (hv : Valid p N 256 9) (hp : p ≠ 0) (hw : Valid q M 256 9) (hq : q ≠ 0) (h : packB (descBits p N) = packB (descBits q M)) : p = q ∧ N = M := by
  have h1 := desc_back (sy := 256) (lb := 9) hv hp hv.2.2.2.2.1 hv.2.1 []
  have h2 := desc_back (sy := 256) (lb := 9) hw hq hw.2.2.2.2.1 hw.2.1 []
  rw [h, h2] at h1
  injection h1 with h1
  injection h1 with h3 h4
  injection h4 with h5 h6
  exact ⟨h3.symm, h5.symm⟩

theorem seen_back (B0 D B : List Nat) (h : D.length ≤ 1024) : ((B0 ++ (D ++ B)).drop B0.length).take 1024 = D ++ B.take (1024 - D.length) := by
  rw [List.drop_left, List.take_append, List.take_of_length_le h]

end Go.Proofs.Ytbnicnindggimaa
