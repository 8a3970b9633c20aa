/-
  Reading a description: the reader of package desc as a plain function of the bits.
  Conditions: none beyond those of each theorem.
-/
import Derived.Test.YtbnicnindggimaaDescMath
namespace Go.Proofs.Ytbnicnindggimaa

/-- the reader's state: bits read, the first error -/
structure St where
  fr : Nat
  e : Int

def takeS (L : List Bool) (n : Nat) (σ : St) : Nat × St :=
  if σ.e ≠ 0 then (0, σ) else if σ.fr + n ≤ L.length then (valB ((L.drop σ.fr).take n), ⟨σ.fr + n, 0⟩) else (0, ⟨σ.fr, 3⟩)

def mustS (h : Bool) (e : Int) (σ : St) : Bool × St := if σ.e = 0 then (if h then (true, σ) else (false, ⟨σ.fr, e⟩)) else (false, σ)

def numberS (L : List Bool) (m : Nat) (σ : St) : Nat × St :=
  if (takeS L (cutB m) σ).1 < cutU m then takeS L (cutB m) σ
  else (2 * (takeS L (cutB m) σ).1 + (takeS L 1 (takeS L (cutB m) σ).2).1 - cutU m, (takeS L 1 (takeS L (cutB m) σ).2).2)

def noughtsS (room : Int) (L : List Bool) : Nat → Nat → Nat → St → Nat × St
  | 0, _, len, σ => (len, σ)
  | f + 1, k, len, σ =>
    if k = 3 then
      if (mustS (decide ((len : Int) < room)) 13 σ).1 then noughtsS room L f (takeS L 2 (mustS (decide ((len : Int) < room)) 13 σ).2).1 (len + (takeS L 2 (mustS (decide ((len : Int) < room)) 13 σ).2).1) (takeS L 2 (mustS (decide ((len : Int) < room)) 13 σ).2).2
      else (len, (mustS (decide ((len : Int) < room)) 13 σ).2)
    else (len, σ)

/-- one round of the loop over norms, behind the first test -/
def roundS (sy : Int) (L : List Bool) (left : Nat) (N : List Int) (ran : Bool) (σ : St) : (Bool × Nat) × (List Int × Bool) × St :=
  let x := numberS L (left + 2) σ
  let n : Int := (x.1 : Int) - 1
  let y := mustS (n != 0 || !ran) 13 x.2
  if y.1 then
    if n = 0 then
      let z := noughtsS (sy - (N.length + 1 : Nat)) L 300 3 0 y.2
      ((true, left), (N ++ [0] ++ List.replicate z.1 0, true), z.2)
    else ((true, left - n.natAbs), (N ++ [n], false), y.2)
  else ((false, left), (N, ran), y.2)

def tableS (sy : Int) (L : List Bool) : Nat → Nat → List Int → Bool → St → List Int × St
  | 0, _, N, _, σ => (N, σ)
  | f + 1, left, N, ran, σ =>
    if 0 < left then
      if (mustS (decide ((N.length : Int) < sy)) 13 σ).1 then
        let r := roundS sy L left N ran (mustS (decide ((N.length : Int) < sy)) 13 σ).2
        if r.1.1 then tableS sy L f r.1.2 r.2.1.1 r.2.1.2 r.2.2 else (N, r.2.2)
      else (N, (mustS (decide ((N.length : Int) < sy)) 13 σ).2)
    else (N, σ)

/-- what 'table' leaves: the Log, the norms, the state -/
def readS (sy lb : Int) (L : List Bool) : Nat × List Int × St :=
  let x := takeS L 4 ⟨0, 0⟩
  let y := mustS (decide ((x.1 : Int) + 1 ≤ min lb 9)) 13 x.2
  if y.1 then (x.1 + 1, tableS sy L 600 (2 ^ (x.1 + 1)) [] false y.2) else (x.1 + 1, [], y.2)

/-- what Decode answers: an error, or the Log, the norms and the number of bytes -/
def decodeS (sy lb : Int) (L : List Bool) : Except Int (Nat × List Int × Nat) :=
  let r := readS (min sy 256) lb L
  if r.2.2.e ≠ 0 then .error r.2.2.e
  else if valB ((L.drop r.2.2.fr).take ((8 - r.2.2.fr % 8) % 8)) ≠ 0 then .error 14
  else .ok (r.1, r.2.1, (r.2.2.fr + (8 - r.2.2.fr % 8) % 8) / 8)

theorem takeS_lt (L : List Bool) (n : Nat) (σ : St) : (takeS L n σ).1 < 2 ^ n := by
  unfold takeS
  split
  · exact Nat.two_pow_pos n
  · split
    · have := valB_lt ((L.drop σ.fr).take n)
      exact Nat.lt_of_lt_of_le this (Nat.pow_le_pow_right (by omega) (by rw [List.length_take]; exact Nat.min_le_left _ _))
    · exact Nat.two_pow_pos n

theorem numberS_lt (L : List Bool) (m : Nat) (σ : St) (h0 : 1 ≤ m) (h : m < 2 ^ 64) : (numberS L m σ).1 < m := by
  obtain ⟨h1, h2⟩ := cut_bounds m (by omega) h
  have h3 := takeS_lt L (cutB m) σ
  have h4 := takeS_lt L 1 (takeS L (cutB m) σ).2
  have hu : cutU m = 2 ^ (cutB m + 1) - m := rfl
  rw [Nat.pow_succ] at h2 hu
  unfold numberS
  split <;> (try simp only) <;> omega

theorem mustS_e {h : Bool} {e : Int} {σ : St} : (mustS h e σ).1 = true → (mustS h e σ).2 = σ ∧ h = true := by
  unfold mustS
  split
  · cases h <;> simp
  · simp

theorem tableS_fail (sy : Int) (L : List Bool) (f left : Nat) (N : List Int) (ran : Bool) (σ : St) (h : 0 < left) (hm : (mustS (decide ((N.length : Int) < sy)) 13 σ).1 = false) :
    tableS sy L (f + 1) left N ran σ = (N, (mustS (decide ((N.length : Int) < sy)) 13 σ).2) := by
  simp [tableS, h, hm]

theorem tableS_stop (sy : Int) (L : List Bool) (f left : Nat) (N : List Int) (ran : Bool) (σ : St) (y : Nat) (σ6 : St) (h : 0 < left) (hm : (mustS (decide ((N.length : Int) < sy)) 13 σ).1 = true)
    (hy : numberS L (left + 2) σ = (y, σ6)) (hm2 : (mustS ((y : Int) - 1 != 0 || !ran) 13 σ6).1 = false) :
    tableS sy L (f + 1) left N ran σ = (N, (mustS ((y : Int) - 1 != 0 || !ran) 13 σ6).2) := by
  have h1 := mustS_e hm
  simp only [tableS, if_pos h, if_pos hm, h1.1, roundS, hy, hm2, Bool.false_eq_true, if_false]

theorem tableS_ne (sy : Int) (L : List Bool) (f left : Nat) (N : List Int) (ran : Bool) (σ : St) (y : Nat) (σ6 : St) (h : 0 < left) (hm : (mustS (decide ((N.length : Int) < sy)) 13 σ).1 = true)
    (hy : numberS L (left + 2) σ = (y, σ6)) (hm2 : (mustS ((y : Int) - 1 != 0 || !ran) 13 σ6).1 = true) (hn : (y : Int) - 1 ≠ 0) :
    tableS sy L (f + 1) left N ran σ = tableS sy L f (left - ((y : Int) - 1).natAbs) (N ++ [(y : Int) - 1]) false σ6 := by
  have h1 := mustS_e hm
  have h2 := mustS_e hm2
  simp only [tableS, if_pos h, if_pos hm, h1.1, roundS, hy, hm2, h2.1, if_true, if_neg hn]

theorem tableS_zero (sy : Int) (L : List Bool) (f left : Nat) (N : List Int) (ran : Bool) (σ : St) (y : Nat) (σ6 : St) (h : 0 < left) (hm : (mustS (decide ((N.length : Int) < sy)) 13 σ).1 = true)
    (hy : numberS L (left + 2) σ = (y, σ6)) (hm2 : (mustS ((y : Int) - 1 != 0 || !ran) 13 σ6).1 = true) (hn : (y : Int) - 1 = 0) :
    tableS sy L (f + 1) left N ran σ = tableS sy L f left (N ++ [0] ++ List.replicate (noughtsS (sy - (N.length + 1 : Nat)) L 300 3 0 σ6).1 0) true (noughtsS (sy - (N.length + 1 : Nat)) L 300 3 0 σ6).2 := by
  have h1 := mustS_e hm
  have h2 := mustS_e hm2
  simp only [tableS, if_pos h, if_pos hm, h1.1, roundS, hy, hm2, h2.1, if_true, if_pos hn]

end Go.Proofs.Ytbnicnindggimaa
