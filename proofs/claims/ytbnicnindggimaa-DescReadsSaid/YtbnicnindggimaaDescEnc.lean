/-
  Package desc, the writing side: Encode and BitLen.
  Conditions: none beyond those of each theorem.
-/
import Derived.Test.YtbnicnindggimaaShelf
import Derived.Test.YtbnicnindggimaaBitout
import Derived.Test.YtbnicnindggimaaNormCheck
import Derived.Test.YtbnicnindggimaaDescMath
namespace Go.Proofs.Ytbnicnindggimaa
open Go.RowKit

theorem wrap64_pow (p : Nat) (h : p ≤ 9) : wrap64 (2 ^ p) = ((2 ^ p : Nat) : Int) := by
  have hpow : 2 ^ p ≤ 512 := Nat.le_trans (Nat.pow_le_pow_right (n := 2) (by omega) h) (by decide)
  obtain ⟨q, hq⟩ : ∃ q : Nat, q = 2 ^ p := ⟨_, rfl⟩
  have hq5 : q ≤ 512 := by rw [hq]; exact hpow
  rw [show (2 : Int) ^ p = (q : Int) by rw [hq]; simp, ← hq]
  unfold wrap64
  omega

set_option maxRecDepth 100000 in
set_option maxHeartbeats 1000000 in
theorem cut_any (m : Nat) (w : World) (h0 : 1 ≤ m) (h : m ≤ 100000) :
    Calls Try.prog 62 #[.int .i64 m] w fun e w' => e = .returned (.tuple #[.int .i64 (cutB m), .int .i64 (cutU m)]) ∧ ∃ k, w' = w.drewN k := by
  have hb := bitLen_pos m (by omega) (by omega)
  have hc := cut_bounds m (by omega) (by omega)
  have hlt := cutB_le m 17 (by omega) (by omega) (by omega)
  have hB : Lib.bitLen (m : Int).toNat = cutB m + 1 := by rw [Int.toNat_natCast]; unfold cutB; omega
  have hU : wrap64 (wrap64 ((2 : Int) * 2 ^ (cutB m)) - m) = (cutU m : Int) := by
    have h2 : 2 ^ cutB m ≤ 2 ^ 16 := Nat.pow_le_pow_right (by omega) (by omega)
    rw [show (2 : Int) * 2 ^ (cutB m) = ((2 ^ (cutB m + 1) : Nat) : Int) by simp [Int.pow_succ, Int.mul_comm]]
    unfold cutU wrap64
    rw [Nat.pow_succ] at *
    omega
  generalize cutU m = u at *
  generalize cutB m = b at *
  have HB := hide hB
  have HU := hide hU
  clear hB hU hc hb
  refine veil fun R hR => ?_
  go_enter Try.func62, Try.ntmps62
  go_wp2_with (go_at_call 66; refine (Try.bits_Len (m : Int) w (by omega) (by omega)).mono ?_; rintro e w' ⟨rfl, hw⟩; have hw := hw.symm; subst hw; rw [HB.out])
  go_quiet (fail)
  go_wp2
  try go_ret2
  refine hR.out _ _ ⟨?_, _, rfl⟩
  show Ending.returned (.tuple #[.int .i64 b, .int .i64 (wrap64 (wrap64 (2 * 2 ^ b) - m))]) = _
  rw [HU.out]

set_option maxRecDepth 100000 in
set_option maxHeartbeats 1000000 in
theorem number_any (S : Nat → Prop) (g : Nat) (n m : Nat) (l : List Bool) (w : World) (hw : WriterAt w S g l) (h0 : 1 ≤ m) (h : m ≤ 100000) (hn : n < m) (hl : l.length + 50 ≤ 2 ^ 30) (hS : ∀ k, w.heap.size ≤ k → S k) :
    Calls Try.prog 48 #[.pointer (some ⟨g, 0, none⟩), .int .i64 n, .int .i64 m] w fun e w' => e = .returned (.tuple #[]) ∧
      Upd S w w' ∧ WriterAt w' S g (l ++ numBits n m) := by
  have hc := cut_bounds m (by omega) (by omega)
  have hlt := cutB_le m 17 (by omega) (by omega) (by omega)
  have hdef : numBits n m = if n < cutU m then bitsB (cutB m) n else bitsB (cutB m) ((n + cutU m) / 2) ++ bitsB 1 (n + cutU m) := rfl
  have hu : cutU m = 2 ^ (cutB m + 1) - m := rfl
  have hcut := cut_any m w h0 h
  have H := hide hdef
  have HC := hide hcut
  have HU := hide hu
  clear hdef hcut hu
  obtain ⟨nb, hnb⟩ : ∃ nb, nb = numBits n m := ⟨_, rfl⟩
  rw [← hnb] at H ⊢
  clear hnb
  generalize cutU m = u at *
  generalize cutB m = b at *
  have hu2 : u ≤ 2 ^ b := by have := HU.out; rw [Nat.pow_succ] at *; omega
  have hbn : n < u → n < 2 ^ b := by omega
  have hbn2 : ¬ n < u → (n + u) / 2 < 2 ^ b := by have := HU.out; rw [Nat.pow_succ] at *; omega
  have h17 : 2 ^ b ≤ 2 ^ 16 := Nat.pow_le_pow_right (by omega) (by omega)
  have HS := hide hS
  refine veil fun R hR => ?_
  clear hc hS
  by_cases hcs : n < u
  · have hx := hbn hcs
    have hH := H.out
    rw [if_pos hcs] at hH
    subst hH
    clear H hbn hbn2 hu2 h17
    have HX := hide hx
    clear hx
    go_enter Try.func48, Try.ntmps48
    go_wp2_with (go_at_call 62; refine HC.out.mono ?_; rintro e w' ⟨rfl, kk, rfl⟩)
    refine (put_any S g n b l _ (hw.drewN kk) (by omega) HX.out (by omega) HS.out).mono ?_
    rintro e w1 ⟨rfl, u1, hw1⟩
    go_wp2
    try go_end0
    exact hR.out _ _ ⟨rfl, ((Upd.refl S w).drewN kk).trans' u1, hw1⟩
  · have hx := hbn2 hcs
    have hH := H.out
    rw [if_neg hcs] at hH
    subst hH
    have hnu : n + u ≤ 300000 := by omega
    have e1 : bits .and .u64 ((n : Int) + u) 1 = (((n + u) % 2 : Nat) : Int) := by
      rw [show (n : Int) + u = ((n + u : Nat) : Int) by omega, show (1 : Int) = ((1 : Nat) : Int) from rfl, u64_and_nat _ _ (by omega) (by omega), nat_mask1]
    have e2 : ((n : Int) + u) / 2 = (((n + u) / 2 : Nat) : Int) := by omega
    have HX := hide hx
    have E1 := hide e1
    have E2 := hide e2
    clear hx H hbn hbn2 hu2 h17 e1 e2
    have hw0 := fun k => hw.drewN k
    have HW := hide hw0
    clear hw0 hw
    go_enter Try.func48, Try.ntmps48
    go_wp2_with (go_at_call 62; refine HC.out.mono ?_; rintro e w' ⟨rfl, kk, rfl⟩)
    try rw [E2.out]
    refine (put_any S g ((n + u) / 2) b l _ (HW.out kk) (by omega) HX.out (by omega) HS.out).mono ?_
    rintro e w1 ⟨rfl, u1, hw1⟩
    go_wp2_with fail
    try rw [E1.out]
    refine (put_any S g ((n + u) % 2) 1 _ _ hw1 (by omega) (by omega) (by simp; omega) (fun k hk => HS.out k (Nat.le_trans (by simpa using u1.size) hk))).mono ?_
    rintro e w2 ⟨rfl, u2, hw2⟩
    go_wp2
    try go_end0
    refine hR.out _ _ ⟨rfl, (((Upd.refl S w).drewN kk).trans' u1).trans' u2, ?_⟩
    rw [← List.append_assoc, ← bitsB_mod 1 (n + u)]
    simpa using hw2

end Go.Proofs.Ytbnicnindggimaa
