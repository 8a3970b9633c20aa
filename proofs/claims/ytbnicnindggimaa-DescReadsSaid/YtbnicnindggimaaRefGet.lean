/-
  The reference of descriptions: get.
  Conditions: none beyond those of each theorem.
-/
import Derived.Test.YtbnicnindggimaaRefW
import Derived.Test.YtbnicnindggimaaRef11B
import Derived.Test.YtbnicnindggimaaDescNo
namespace Go.Proofs.Ytbnicnindggimaa
open Go.RowKit
set_option linter.unusedVariables false
set_option linter.unusedSimpArgs false

theorem takeS_ok {L : List Bool} {n fr : Nat} (h : fr + n ≤ L.length) : takeS L n ⟨fr, 0⟩ = (valB ((L.drop fr).take n), ⟨fr + n, 0⟩) := by
  unfold takeS; rw [if_neg (by simp), if_pos h]
theorem takeS_no {L : List Bool} {n fr : Nat} (h : L.length < fr + n) : takeS L n ⟨fr, 0⟩ = (0, ⟨fr, 3⟩) := by
  unfold takeS; rw [if_neg (by simp), if_neg (by simp only; omega)]

set_option maxHeartbeats 400000 in
theorem rfirst_any (F : Nat → Prop) (g : Nat) (L : List Bool) (fr n : Nat) (w : World) (h : RefAt w F g L fr) (hn : n ≤ 64) (hL : L.length ≤ 2 ^ 40) (hFg : ∀ b, F b → b ≠ g) :
    Calls Try.prog 42 #[.pointer (some ⟨g, 0, none⟩), .int .i64 n] w fun e w' =>
      e = .returned (.tuple #[.int .u64 ((takeS L n ⟨fr, 0⟩).1 : Nat), .int .i64 (takeS L n ⟨fr, 0⟩).2.e]) ∧ Upd (fun b => b = g) w w' ∧ RefAt w' F g L (takeS L n ⟨fr, 0⟩).2.fr := by
  by_cases hs : fr + n ≤ L.length
  · rw [takeS_ok hs]
    exact rfirst_ok F g L fr n w h hn hs hL hFg
  · rw [takeS_no (by omega)]
    exact (rfirst_short F g L fr n w h hn (by omega) hL).mono fun e w' ⟨h1, h2⟩ => ⟨h1, h2 ▸ Upd.refl _ _, h2 ▸ h⟩

/-- the two ways of reading a number -/
theorem numberS_one {L : List Bool} {m : Nat} {σ : St} (h : (takeS L (cutB m) σ).1 < cutU m) : numberS L m σ = takeS L (cutB m) σ := by unfold numberS; rw [if_pos h]
theorem numberS_two {L : List Bool} {m : Nat} {σ : St} (h : ¬ (takeS L (cutB m) σ).1 < cutU m) :
    numberS L m σ = (2 * (takeS L (cutB m) σ).1 + (takeS L 1 (takeS L (cutB m) σ).2).1 - cutU m, (takeS L 1 (takeS L (cutB m) σ).2).2) := by unfold numberS; rw [if_neg h]

set_option maxRecDepth 100000 in
set_option maxHeartbeats 2000000 in
theorem rget_any (F : Nat → Prop) (g : Nat) (L : List Bool) (fr m : Nat) (w : World) (h : RefAt w F g L fr) (h0 : 1 ≤ m) (h600 : m ≤ 600) (hL : L.length ≤ 2 ^ 40) (hFg : ∀ b, F b → b ≠ g) :
    Calls Try.prog 59 #[.pointer (some ⟨g, 0, none⟩), .int .i64 m] w fun e w' =>
      e = .returned (.tuple #[.int .i64 ((numberS L m ⟨fr, 0⟩).1 : Nat), .int .i64 (numberS L m ⟨fr, 0⟩).2.e]) ∧ Upd (fun b => b = g) w w' ∧ RefAt w' F g L (numberS L m ⟨fr, 0⟩).2.fr := by
  have hl := least_any m w h0 h600
  have hb9 : cutB m ≤ 9 := by have := cutB_le m 10 (by omega) (by omega) (by omega); omega
  have hsz := size_any (cutB m) w hb9
  have hu : cutU m = 2 ^ (cutB m + 1) - m := rfl
  have hc := (cut_bounds m (by omega) (by omega)).2
  have hf := rfirst_any F g L fr (cutB m) w h (by omega) hL hFg
  have hlt := takeS_lt L (cutB m) ⟨fr, 0⟩
  have hone := @numberS_one L m ⟨fr, 0⟩
  have htwo := @numberS_two L m ⟨fr, 0⟩
  have hno : fr + cutB m ≤ L.length ∨ takeS L (cutB m) ⟨fr, 0⟩ = (0, ⟨fr, 3⟩) := by
    by_cases hs : fr + cutB m ≤ L.length
    · exact .inl hs
    · exact .inr (takeS_no (by omega))
  have hyes : fr + cutB m ≤ L.length → (takeS L (cutB m) ⟨fr, 0⟩).2 = ⟨fr + cutB m, 0⟩ := fun hs => by rw [takeS_ok hs]
  rw [Nat.pow_succ] at hu hc
  have hp9 : 2 ^ cutB m ≤ 512 := Nat.le_trans (Nat.pow_le_pow_right (n := 2) (by omega) hb9) (by decide)
  generalize cutU m = u at *
  generalize cutB m = b at *
  generalize 2 ^ b = q at *
  have huv : 2 * (q : Int) - m = u := by omega
  have hu0 : 0 < u := by omega
  have hqI : (q : Int) ≤ 512 := by omega
  have hbI : (b : Int) ≤ 9 := by omega
  have hmI : (m : Int) ≤ 600 := by omega
  have huI : (u : Int) ≤ 1024 := by omega
  obtain ⟨X, hX⟩ : ∃ X, X = takeS L b ⟨fr, 0⟩ := ⟨_, rfl⟩
  obtain ⟨Y, hY⟩ : ∃ Y, Y = numberS L m ⟨fr, 0⟩ := ⟨_, rfl⟩
  rw [← hX] at hf hlt hone htwo hno hyes
  rw [← hY] at hone htwo ⊢
  obtain ⟨t, fr1, e1⟩ := X
  simp only at hf hlt hone htwo hno hyes
  have HL := hide hl
  have HSZ := hide hsz
  have HF := hide hf
  have HH := hide h
  have htI : (t : Int) ≤ 512 := by omega
  have ht64 : wrap64 (t : Int) = t := by unfold wrap64; omega
  clear hl hsz hf h hX hY hu hc hp9
  refine veil fun R hR => ?_
  rcases hno with hs | hs
  · have he := hyes hs
    injection he with he1 he2
    subst he1 he2
    have HONE := hide hone
    have HTWO := hide htwo
    clear hone htwo hyes hlt
    by_cases hlt : t < u
    · have hltI : (t : Int) < u := by omega
      have hy := HONE.out hlt
      subst hy
      clear HONE HTWO
      go_enter Try.func59, Try.ntmps59
      go_wp2_with fail
      refine HL.out.mono ?_
      rintro e w1 ⟨rfl, rfl⟩
      go_wp2_with fail
      refine HSZ.out.mono ?_
      rintro e w1 ⟨rfl, rfl⟩
      go_wp2_with fail
      refine HF.out.mono ?_
      rintro e w1 ⟨rfl, u1, r1⟩
      have U1 := hide u1
      have R1 := hide r1
      clear u1 r1
      go_wp2_with fail
      try go_ret2
      exact hR.out _ _ ⟨rfl, U1.out, R1.out⟩
    · have hltI : (u : Int) ≤ t := by omega
      have hy := HTWO.out hlt
      have hf1 := fun W (hW : RefAt W F g L (fr + b)) => rfirst_any F g L (fr + b) 1 W hW (by omega) hL hFg
      have hlt2 := takeS_lt L 1 ⟨fr + b, 0⟩
      obtain ⟨Z, hZ⟩ : ∃ Z, Z = takeS L 1 ⟨fr + b, 0⟩ := ⟨_, rfl⟩
      simp only [← hZ] at hy hf1 hlt2
      obtain ⟨c, fr2, e2⟩ := Z
      simp only at hy hf1 hlt2
      have hcI : (c : Int) ≤ 1 := by omega
      have hc64 : wrap64 (c : Int) = c := by unfold wrap64; omega
      subst hy
      have hv : 2 * (t : Int) + c - u = ((2 * t + c - u : Nat) : Int) := by omega
      have HV := hide hv
      have HF1 := hide hf1
      clear hv hf1 hZ HONE HTWO hlt2
      go_enter Try.func59, Try.ntmps59
      go_wp2_with fail
      refine HL.out.mono ?_
      rintro e w1 ⟨rfl, rfl⟩
      go_wp2_with fail
      refine HSZ.out.mono ?_
      rintro e w1 ⟨rfl, rfl⟩
      go_wp2_with fail
      refine HF.out.mono ?_
      rintro e w1 ⟨rfl, u1, r1⟩
      have U1 := hide u1
      have hf2 := HF1.out w1 r1
      have HF2 := hide hf2
      clear u1 r1 hf2
      go_wp2_with fail
      refine HF2.out.mono ?_
      rintro e w2 ⟨rfl, u2, r2⟩
      have U2 := hide (U1.out.trans' u2)
      have R2 := hide r2
      clear u2 r2
      go_wp2_with fail
      try go_ret2
      refine hR.out _ _ ⟨?_, U2.out, R2.out⟩
      rw [← HV.out]
      rfl
  · injection hs with hs1 hs2
    injection hs2 with hs2 hs3
    subst hs1 hs2 hs3
    have hy := hone hu0
    subst hy
    clear hone htwo hyes hlt
    go_enter Try.func59, Try.ntmps59
    go_wp2_with fail
    refine HL.out.mono ?_
    rintro e w1 ⟨rfl, rfl⟩
    go_wp2_with fail
    refine HSZ.out.mono ?_
    rintro e w1 ⟨rfl, rfl⟩
    go_wp2_with fail
    refine HF.out.mono ?_
    rintro e w1 ⟨rfl, u1, r1⟩
    have U1 := hide u1
    have R1 := hide r1
    clear u1 r1
    go_wp2_with fail
    try go_ret2
    exact hR.out _ _ ⟨rfl, U1.out, R1.out⟩

end Go.Proofs.Ytbnicnindggimaa
