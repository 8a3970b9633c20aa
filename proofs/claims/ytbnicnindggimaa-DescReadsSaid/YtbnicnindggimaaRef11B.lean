/-
  The reference of descriptions: least, number, Bits.
  Conditions: none beyond those of each theorem.
-/
import Derived.Test.YtbnicnindggimaaRef02
import Derived.Test.YtbnicnindggimaaRef11
namespace Go.Proofs.Ytbnicnindggimaa
open Go.RowKit
set_option linter.unusedVariables false
set_option linter.unusedSimpArgs false

theorem cutB_eq {m b : Nat} (h0 : m ≠ 0) (hm : m < 2 ^ 64) (h1 : 2 ^ b ≤ m) (h2 : m < 2 ^ (b + 1)) : b = cutB m := by
  obtain ⟨c1, c2⟩ := cut_bounds m h0 hm
  have h3 : b < cutB m + 1 := (Nat.pow_lt_pow_iff_right (a := 2) (by omega)).1 (Nat.lt_of_le_of_lt h1 c2)
  have h4 : cutB m < b + 1 := (Nat.pow_lt_pow_iff_right (a := 2) (by omega)).1 (Nat.lt_of_le_of_lt c1 h2)
  omega

set_option maxHeartbeats 1000000 in
theorem least_any (m : Nat) (w : World) (h0 : 1 ≤ m) (h : m ≤ 600) :
    Calls Try.prog 56 #[.int .i64 m] w fun e w' => e = .returned (.int .i64 (cutB m)) ∧ w = w' := by
  have hsz := hide (fun b (hb : b ≤ 9) (W : World) => size_any b W hb)
  have hmI : (m : Int) ≤ 600 := by omega
  refine veil fun R hR => ?_
  go_enter Try.func56, Try.ntmps56
  go_wp2_with fail
  go_loopg [3] 10 (fun mm i wr => wr = w ∧ ∃ b : Nat, b + mm = 10 ∧ i = .int .i64 b ∧ 2 ^ b ≤ m)
  case atStart => exact ⟨rfl, 0, by omega, rfl, by simpa using h0⟩
  case round =>
    obtain ⟨rfl, b, hb, rfl, hle⟩ := hrel
    have hb9 : b ≤ 9 := by
      rcases Nat.lt_or_ge b 10 with h | h
      · omega
      · have := Nat.pow_le_pow_right (n := 2) (by omega) h
        omega
    have hs := hsz.out b hb9 wr
    have HS := hide hs
    have HB := hide hb
    have hbI : (b : Int) ≤ 9 := by omega
    have hp : 2 ^ (b + 1) = 2 * 2 ^ b := by rw [Nat.pow_succ]; omega
    have hun := fun h2 => cutB_eq (m := m) (b := b) (by omega) (by omega) hle h2
    obtain ⟨q, hq⟩ : ∃ q, q = 2 ^ b := ⟨_, rfl⟩
    rw [← hq] at HS hle
    rw [hp, ← hq] at hun
    have HUN := hide hun
    have hqI : (q : Int) ≤ 600 := by omega
    have HQ := hide hq
    have HP := hide hp
    clear hs hb hun hq hp
    go_wp2_with fail
    refine HS.out.mono ?_
    rintro e w1 ⟨rfl, rfl⟩
    by_cases hlt : 2 * q ≤ m
    · have hltI : 2 * (q : Int) ≤ m := by omega
      go_wp2_with fail
      go_roundg (gk - 1)
      case measure => have := HB.out; omega
      case rel => exact ⟨rfl, b + 1, by have := HB.out; omega, by go_num, by rw [HP.out, ← HQ.out]; exact hlt⟩
    · have hltI : (m : Int) < 2 * q := by omega
      go_wp2_with fail
      try go_ret
      exact hR.out _ _ ⟨by rw [← HUN.out (by omega)]; rfl, rfl⟩

set_option maxRecDepth 100000 in
set_option maxHeartbeats 1000000 in
theorem rnumber11_any (n m : Nat) (w : World) (h0 : 1 ≤ m) (h : m ≤ 600) (hn : n < m) :
    Calls Try.prog 38 #[.int .i64 n, .int .i64 m] w fun e w' => ∃ s, e = .returned s ∧ NewBits w w' s (numBits n m) := by
  have hl := least_any m w h0 h
  have hb9 : cutB m ≤ 9 := by have := cutB_le m 10 (by omega) (by omega) (by omega); omega
  have hsz := size_any (cutB m) w hb9
  have hdef : numBits n m = if n < cutU m then bitsB (cutB m) n else bitsB (cutB m) ((n + cutU m) / 2) ++ bitsB 1 (n + cutU m) := rfl
  have hu : cutU m = 2 ^ (cutB m + 1) - m := rfl
  have hc := (cut_bounds m (by omega) (by omega)).2
  rw [Nat.pow_succ] at hu hc
  obtain ⟨nb, hnb⟩ : ∃ nb, nb = numBits n m := ⟨_, rfl⟩
  rw [← hnb] at hdef ⊢
  clear hnb
  generalize cutU m = u at *
  generalize cutB m = b at *
  have hp9 : 2 ^ b ≤ 512 := Nat.le_trans (Nat.pow_le_pow_right (n := 2) (by omega) hb9) (by decide)
  generalize 2 ^ b = q at *
  have hqI : (q : Int) ≤ 512 := by omega
  have huv : 2 * (q : Int) - m = u := by omega
  have hbI : (b : Int) ≤ 9 := by omega
  have HL := hide hl
  have HSZ := hide hsz
  have H := hide hdef
  have hb1 := fun v W (hv : v < 2 ^ 64) => rbits_any v b W (by omega) hv
  have HB := hide hb1
  have hmI : (m : Int) ≤ 600 := by omega
  have hnI : (n : Int) ≤ 600 := by omega
  have huI : (u : Int) ≤ 1024 := by omega
  clear hl hsz hdef hu hc hb1
  refine veil fun R hR => ?_
  by_cases hlt : n < u
  · have hltI : (n : Int) < u := by omega
    have hH := H.out
    rw [if_pos hlt] at hH
    subst hH
    clear H
    go_enter Try.func38, Try.ntmps38
    go_wp2_with fail
    refine HL.out.mono ?_
    rintro e w1 ⟨rfl, rfl⟩
    go_wp2_with fail
    refine HSZ.out.mono ?_
    rintro e w1 ⟨rfl, rfl⟩
    go_wp2_with fail
    refine (HB.out n _ (by omega)).mono ?_
    rintro e w1 ⟨s, rfl, o1⟩
    have O1 := hide o1
    clear o1
    go_wp2_with fail
    try go_ret
    exact hR.out _ _ ⟨s, rfl, O1.out⟩
  · have hltI : (u : Int) ≤ n := by omega
    have hH := H.out
    rw [if_neg hlt] at hH
    subst hH
    clear H
    have e2 : ((n : Int) + u) / 2 = (((n + u) / 2 : Nat) : Int) := by omega
    have E2 := hide e2
    have e3 : (((n : Int) + u) % 2 == 1) = ((n + u) % 2 == 1) := by rw [Bool.eq_iff_iff]; simp; omega
    have E3 := hide e3
    clear e2 e3
    go_enter Try.func38, Try.ntmps38
    go_wp2_with fail
    refine HL.out.mono ?_
    rintro e w1 ⟨rfl, rfl⟩
    go_wp2_with fail
    refine HSZ.out.mono ?_
    rintro e w1 ⟨rfl, rfl⟩
    go_wp2_with fail
    rw [E2.out]
    refine (HB.out _ _ (by omega)).mono ?_
    rintro e w1 ⟨s, rfl, o1, f1, k1⟩
    have hlen : (bools (bitsB b ((n + u) / 2))).length + 1 ≤ 2 ^ 40 := by simp; omega
    have O1 := hide o1
    have F1 := hide f1
    have K1 := hide k1
    have HLEN := hide hlen
    clear o1 f1 k1 hlen
    go_wp2_with (at_builtin; go_must (refine wpList_app _ rfl (.tmp 27) (.tmp 33) _ rfl 4 _ 1 Try.underlying42 infoBool rfl _ _ rfl (O1.out.alloc _) _ 1 _ _ rfl (Rd.one w1 4 _) (by simp [Value.oneCell']) (by omega) HLEN.out ?_))
    intro v' w2 o2 g2 a2
    have f2 : Fresh w w2 := (F1.out.alloc _).grown g2 (fun kk hkk hlt => by have := K1.out kk hkk; omega)
    have b2 : ∀ kk, v'.ownBlock = some kk → w.heap.size ≤ kk := own_S (S := fun kk => w.heap.size ≤ kk) a2 K1.out (by have := F1.out.size; simp; omega)
    have O2 := hide o2
    have F2 := hide f2
    have B2 := hide b2
    clear o2 g2 a2 f2 b2
    go_wp2_with fail
    try go_ret
    refine hR.out _ _ ⟨v', rfl, ?_, F2.out, B2.out⟩
    have hx := O2.out
    rw [bools_append]
    simpa [bools, bitsB, E3.out] using hx

end Go.Proofs.Ytbnicnindggimaa
