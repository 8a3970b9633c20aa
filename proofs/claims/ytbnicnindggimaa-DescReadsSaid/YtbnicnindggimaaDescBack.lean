/-
  A description is read back as its table: plain mathematics.
  Conditions: none beyond those of each theorem.
-/
import Derived.Test.YtbnicnindggimaaDescRead
import Derived.Test.YtbnicnindggimaaNormCheck
namespace Go.Proofs.Ytbnicnindggimaa

theorem takeS_bits (P X : List Bool) (n v : Nat) (hv : v < 2 ^ n) : takeS (P ++ (bitsB n v ++ X)) n ⟨P.length, 0⟩ = (v, ⟨P.length + n, 0⟩) := by
  unfold takeS
  rw [if_neg (by simp), if_pos (by simp)]
  simp only [List.drop_left]
  rw [List.take_append_of_le_length (by simp), List.take_of_length_le (by simp), valB_bitsB, Nat.mod_eq_of_lt hv]

theorem mustS_ok {h : Bool} (e : Int) (fr : Nat) (hh : h = true) : mustS h e ⟨fr, 0⟩ = (true, ⟨fr, 0⟩) := by
  subst hh; rfl

theorem numberS_bits (P X : List Bool) (n m : Nat) (hm0 : m ≠ 0) (hm : m < 2 ^ 64) (hn : n < m) :
    numberS (P ++ (numBits n m ++ X)) m ⟨P.length, 0⟩ = (n, ⟨P.length + (numBits n m).length, 0⟩) := by
  obtain ⟨h1, h2⟩ := cut_bounds m hm0 hm
  have hu : cutU m = 2 ^ (cutB m + 1) - m := rfl
  rw [Nat.pow_succ] at h2 hu
  unfold numBits
  by_cases h : n < cutU m
  · rw [if_pos h]
    have ht := takeS_bits P X (cutB m) n (by omega)
    unfold numberS
    simp only [ht, if_pos h, bitsB_length]
  · rw [if_neg h]
    have ht := takeS_bits P (bitsB 1 (n + cutU m) ++ X) (cutB m) ((n + cutU m) / 2) (by omega)
    have ht2 := takeS_bits (P ++ bitsB (cutB m) ((n + cutU m) / 2)) X 1 ((n + cutU m) % 2) (by omega)
    rw [show bitsB 1 ((n + cutU m) % 2) = bitsB 1 (n + cutU m) from by simpa using bitsB_mod 1 (n + cutU m)] at ht2
    simp only [List.length_append, bitsB_length, List.append_assoc] at ht2
    unfold numberS
    simp only [List.append_assoc, ht, if_neg (show ¬ (n + cutU m) / 2 < cutU m by omega), ht2, List.length_append, bitsB_length]
    congr 1
    omega

theorem noughtsS_bits (room : Int) (X : List Bool) : ∀ (z f : Nat) (P : List Bool) (len : Nat), z / 3 + 2 ≤ f → ((len + z : Nat) : Int) < room →
    noughtsS room (P ++ (runBits z ++ X)) f 3 len ⟨P.length, 0⟩ = (len + z, ⟨P.length + (runBits z).length, 0⟩) := by
  intro z
  induction z using Nat.strongRecOn with
  | _ z ih =>
    intro f P len hf hr
    match f, hf with
    | f + 1, hf =>
      have hm := mustS_ok (h := decide ((len : Int) < room)) 13 P.length (by simp; omega)
      unfold noughtsS
      simp only [if_true, hm]
      by_cases hz : z < 3
      · have hb : runBits z = bitsB 2 z := by
          have := runPart_end z 0 (by omega) (by omega)
          simpa [runPart] using this
        have ht := takeS_bits P X 2 z (by omega)
        rw [hb, ht]
        match f, hf with
        | f + 1, hf =>
          unfold noughtsS
          simp only [bitsB_length]
          rw [if_neg (by omega)]
      · have hb : runBits z = bitsB 2 3 ++ runBits (z - 3) := by
          unfold runBits
          rw [show z / 3 = (z - 3) / 3 + 1 by omega, show z % 3 = (z - 3) % 3 by omega, List.replicate_succ]
          simp
        have ht := takeS_bits P (runBits (z - 3) ++ X) 2 3 (by omega)
        have hi := ih (z - 3) (by omega) f (P ++ bitsB 2 3) (len + 3) (by omega) (by omega)
        rw [hb]
        simp only [List.append_assoc] at hi ⊢
        simp only [ht]
        simp only [List.length_append, bitsB_length] at hi ⊢
        rw [hi]
        congr 1
        · omega
        · congr 1; omega

theorem sumZ_zeros (l : List Int) : sumZ l = sumZ (l.drop (zerosOf l)) := by
  induction l with
  | nil => rfl
  | cons n l ih =>
    by_cases hn : n = 0
    · subst hn
      rw [zerosOf_cons_zero, List.drop_succ_cons, ← ih, sumZ_cons]
      simp [absZ]
    · rw [zerosOf_cons_ne n l hn]; rfl

theorem zeros_split (l : List Int) : l = List.replicate (zerosOf l) 0 ++ l.drop (zerosOf l) := by
  induction l with
  | nil => rfl
  | cons n l ih =>
    by_cases hn : n = 0
    · subst hn
      rw [zerosOf_cons_zero, List.drop_succ_cons, List.replicate_succ, List.cons_append, ← ih]
    · rw [zerosOf_cons_ne n l hn]; simp

theorem sumZ_pos (l : List Int) (h0 : 0 < l.length) (hl : l[l.length - 1]? ≠ some 0) : 0 < sumZ l := by
  have h1 := sumZ_take_succ l (l.length - 1) (by omega)
  rw [show l.length - 1 + 1 = l.length by omega, List.take_length] at h1
  have h2 := sumZ_nonneg (l.take (l.length - 1))
  have h3 : l[l.length - 1] ≠ 0 := fun h => hl (by rw [List.getElem?_eq_getElem (by omega), h])
  have h4 : 0 < absZ l[l.length - 1] := by unfold absZ; split <;> omega
  omega

theorem tableS_bits (sy : Int) (X : List Bool) : ∀ (k : Nat) (rest : List Int) (f left : Nat) (pre : List Int) (ran : Bool) (P : List Bool), rest.length ≤ k → rest.length + 1 ≤ f → left ≤ 512 →
    sumZ rest = left → (∀ n ∈ rest, -1 ≤ n) → (0 < rest.length → rest[rest.length - 1]? ≠ some 0) → ((pre.length + rest.length : Nat) : Int) ≤ sy → rest.length ≤ 256 → (ran = true → rest.head? ≠ some 0) →
    tableS sy (P ++ (normBits left 0 rest ++ X)) f left pre ran ⟨P.length, 0⟩ = (pre ++ rest, ⟨P.length + (normBits left 0 rest).length, 0⟩)
  | _, [], f + 1, left, pre, ran, P, _, _, _, hs, _, _, _, _, _ => by
    have : left = 0 := by simp [sumZ] at hs; omega
    subst this
    simp [tableS, normBits]
  | 0, _ :: _, _, _, _, _, _, h, _, _, _, _, _, _, _, _ => by simp at h
  | k + 1, n :: rest, f + 1, left, pre, ran, P, hk, hf, hl, hs, hall, hlast, hsy, h256, hran => by
    have hn1 : -1 ≤ n := hall n (by simp)
    have hs2 := sumZ_cons n rest
    have hs3 := sumZ_nonneg rest
    have hab : absZ n = (n.natAbs : Int) := by unfold absZ; split <;> omega
    simp only [List.length_cons] at hk hf hsy h256
    have hlast2 : 0 < rest.length → rest[rest.length - 1]? ≠ some 0 := by
      intro h0
      have := hlast (by simp)
      simp only [List.length_cons] at this
      rw [show rest.length + 1 - 1 = (rest.length - 1) + 1 by omega, List.getElem?_cons_succ] at this
      exact this
    have hleft : 0 < left := by
      have := sumZ_pos (n :: rest) (by simp) (hlast (by simp))
      omega
    have hm := mustS_ok (h := decide ((pre.length : Int) < sy)) 13 P.length (by simp; omega)
    have hm1 : (mustS (decide ((pre.length : Int) < sy)) 13 ⟨P.length, 0⟩).1 = true := by rw [hm]
    have hx : (n + 1).toNat < left + 2 := by omega
    have hy1 : (((n + 1).toNat : Nat) : Int) - 1 = n := by omega
    by_cases hn : n = 0
    · subst hn
      have hrf : ran = false := by
        cases ran with
        | false => rfl
        | true => exact absurd rfl (hran rfl)
      subst hrf
      have hr0 : 0 < rest.length := by
        rcases Nat.eq_zero_or_pos rest.length with h | h
        · have := List.eq_nil_of_length_eq_zero h
          subst this
          exact absurd rfl (hlast (by simp))
        · exact h
      have hz := zerosOf_lt rest hr0 (hlast2 hr0)
      have hnum := numberS_bits P (runBits (zerosOf rest) ++ (normBits left (zerosOf rest) rest ++ X)) 1 (left + 2) (by omega) (by omega) (by omega)
      have hm2 := mustS_ok (h := ((1 : Nat) : Int) - 1 != 0 || !false) 13 (P.length + (numBits 1 (left + 2)).length) (by rfl)
      have hng := noughtsS_bits (sy - (pre.length + 1 : Nat)) (normBits left (zerosOf rest) rest ++ X) (zerosOf rest) 300 (P ++ numBits 1 (left + 2)) 0 (by omega) (by omega)
      have ih := tableS_bits sy X k (rest.drop (zerosOf rest)) f left (pre ++ [0] ++ List.replicate (zerosOf rest) 0) true (P ++ numBits 1 (left + 2) ++ runBits (zerosOf rest))
        (by simp; omega) (by simp; omega) hl (by rw [← sumZ_zeros]; rw [sumZ_cons] at hs; simpa [absZ] using hs) (fun m hmm => hall m (List.mem_cons_of_mem _ (List.mem_of_mem_drop hmm)))
        (fun _ => by
          rw [List.length_drop, List.getElem?_drop, show zerosOf rest + (rest.length - zerosOf rest - 1) = rest.length - 1 by omega]
          exact hlast2 hr0)
        (by simp; omega) (by simp; omega) (fun _ => by rw [List.head?_drop]; exact zerosOf_stop rest)
      rw [normBits_zero]
      simp only [List.append_assoc] at hnum hng ih ⊢
      rw [tableS_zero sy _ f left pre false ⟨P.length, 0⟩ 1 _ hleft hm1 hnum (by rw [hm2]) (by rfl)]
      simp only [List.length_append] at hng ih ⊢
      rw [hng]
      simp only [Nat.zero_add]
      rw [normBits_skip left (zerosOf rest) rest (zerosOf_le rest)]
      simp only [Nat.add_assoc, List.append_assoc] at ih ⊢
      rw [ih, ← zeros_split]
      rfl
    · have hnum := numberS_bits P (normBits (left - n.natAbs) 0 rest ++ X) (n + 1).toNat (left + 2) (by omega) (by omega) hx
      have hm2 := mustS_ok (h := ((n + 1).toNat : Int) - 1 != 0 || !ran) 13 (P.length + (numBits (n + 1).toNat (left + 2)).length) (by rw [hy1]; simp [hn])
      have ih := tableS_bits sy X k rest f (left - n.natAbs) (pre ++ [n]) false (P ++ numBits (n + 1).toNat (left + 2)) (by omega) (by omega) (by omega) (by omega)
        (fun m hmm => hall m (List.mem_cons_of_mem _ hmm)) hlast2 (by simp; omega) (by omega) (by simp)
      rw [normBits_ne left n rest hn]
      simp only [List.append_assoc] at hnum ih ⊢
      rw [tableS_ne sy _ f left pre ran ⟨P.length, 0⟩ (n + 1).toNat _ hleft hm1 hnum (by rw [hm2]) (by omega), hy1]
      simp only [List.length_append] at ih ⊢
      rw [ih]
      simp [Nat.add_assoc]

theorem readS_bits (sy lb : Int) (X : List Bool) (p : Nat) (N : List Int) (hv : Valid p N 256 9) (hp : p ≠ 0) (hsy : (N.length : Int) ≤ sy) (hlb : (p : Int) ≤ lb) :
    readS sy lb (descBits p N ++ X) = (p, N, ⟨(descBits p N).length, 0⟩) := by
  obtain ⟨v1, v2, v3, v4, v5, v6, v7, v8⟩ := hv
  have hp9 : 2 ^ p ≤ 2 ^ 9 := Nat.pow_le_pow_right (by omega) (by omega)
  have ht := takeS_bits [] (normBits (2 ^ p) 0 N ++ X) 4 (p - 1) (by omega)
  have hm := mustS_ok (h := decide (((p - 1 : Nat) : Int) + 1 ≤ min lb 9)) 13 4 (by simp; omega)
  have htb := tableS_bits sy X N.length N 600 (2 ^ p) [] false (bitsB 4 (p - 1)) (Nat.le_refl _) (by omega) (by omega) (by rw [v8]; simp) v7 (fun _ => v6) (by simpa using hsy) (by omega) (by simp)
  simp only [List.nil_append, List.length_nil, Nat.zero_add] at ht
  simp only [List.nil_append, bitsB_length] at htb
  unfold readS descBits
  rw [List.append_assoc]
  simp only [ht, hm, if_true, show p - 1 + 1 = p by omega, htb, List.length_append, bitsB_length]

end Go.Proofs.Ytbnicnindggimaa
