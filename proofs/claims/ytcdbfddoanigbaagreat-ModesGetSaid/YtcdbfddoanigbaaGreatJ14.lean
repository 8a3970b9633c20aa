/-
  Joined texts, part 14: contracts and plain lemmas, each under its own heading below.
  Conditions: none beyond those of each theorem.
-/
import Derived.Test.YtcdbfddoanigbaaGreatJ4
import Derived.Test.YtcdbfddoanigbaaGreatJ13
import Derived.Test.YtcdbfddoanigbaaGreatJ10
/-
  The reference's recommended Log.
  Conditions: none beyond those of each theorem.
-/
namespace Go.Proofs.YtcdbfddoanigbaaGreat
open Go.RowKit
set_option linter.unusedVariables false
set_option linter.unusedSimpArgs false

theorem bitLen_pow {m k : Nat} (h : m < 2 ^ 64) (h0 : m ≠ 0) : m < 2 ^ k ↔ Lib.bitLen m ≤ k := by
  obtain ⟨a1, a2, a3⟩ := bitLen_spec h h0
  constructor
  · intro h1
    have : Lib.bitLen m - 1 < k := (Nat.pow_lt_pow_iff_right (a := 2) (by omega)).1 (Nat.lt_of_le_of_lt a2 h1)
    omega
  · intro h1
    exact Nat.lt_of_lt_of_le a3 (Nat.pow_le_pow_right (by omega) h1)

theorem usedC_le_sum : ∀ {N : List Int}, (∀ c ∈ N, 0 ≤ c) → (usedC N : Int) ≤ N.sum
  | [], _ => by simp [usedC]
  | c :: l, h => by
    have h1 := usedC_le_sum (N := l) (fun x hx => h x (List.mem_cons_of_mem _ hx))
    have h2 := h c (by simp)
    have h3 : usedC (c :: l) = usedC l + if 0 < c then 1 else 0 := by
      unfold usedC
      rw [List.countP_cons]
      by_cases h : 0 < c <;> simp [h]
    rw [List.sum_cons, h3]
    by_cases h4 : 0 < c
    · rw [if_pos h4]; omega
    · rw [if_neg h4]; omega

set_option maxRecDepth 100000 in
set_option maxHeartbeats 4000000 in
theorem rlog07_any (F : Nat → Prop) (A : Option Addr) (n c : Nat) (N : List Int) (w : World) (lb : Int) (hr : Rd w F A n (ints N)) (hfit : Fit N) (hn : (n : Int) ≤ 1099511627776) (hlb : lb ≤ 9) :
    Calls Tryz.prog 24 #[.slice A n c, .int .i64 lb] w fun e w' => e = .returned (.int .i64 (recL N lb)) ∧ w' = w := by
  have hN : N.length = n := by have := hr.1; simpa using this
  have hal := rcounts_any F A n c N w hr hfit hn
  have hu := usedC_le N
  by_cases hb : CtOk N ∧ 0 < usedC N
  · have HK : Hid (Calls Tryz.prog 21 #[.slice A n c] w fun e w' => e = .returned (.tuple #[.int .i64 N.sum, .int .i64 (usedC N : Nat), .bool true]) ∧ w' = w) :=
      hide (hal.mono fun e w' h => ⟨by have := h.1; unfold AllPost at this; rw [decide_eq_true hb, if_pos hb.1, if_pos hb.1] at this; exact this, h.2⟩)
    have hs0 := sum_nonneg hb.1.1
    have hs1 := hb.1.2
    have hu0 := hb.2
    have hrl : recL N lb = if lb < 0 ∨ (2 : Int) ^ lb.toNat < usedC N then -1 else if usedC N = 1 then 0 else min lb (max (Lib.bitLen (usedC N - 1) : Nat) ((Lib.bitLen N.sum.toNat : Nat) - 2)) := by
      unfold recL
      have h : ¬ ¬ (CtOk N ∧ 0 < usedC N) := fun h => h hb
      simp only [h, false_or]
    rw [hrl]
    have hus : (usedC N : Int) ≤ N.sum := usedC_le_sum hb.1.1
    have hul : usedC N ≤ n := by omega
    clear hal hr hfit hN hu hrl hb
    generalize usedC N = u at *
    generalize N.sum = S0 at *
    obtain ⟨S, rfl⟩ : ∃ S : Nat, S0 = S := ⟨S0.toNat, by omega⟩
    rw [Int.toNat_natCast]
    have h9 : ¬ 9 < lb := by omega
    refine veil fun R hR => ?_
    by_cases h0 : lb < 0
    · rw [if_pos (.inl h0)] at hR
      go_enter Tryz.func24, Tryz.ntmps24
      go_wp2_with fail
      refine HK.out.mono ?_
      rintro e w1 ⟨rfl, rfl⟩
      go_wp2_with fail
      try go_ret
      exact hR.out _ _ ⟨rfl, rfl⟩
    · obtain ⟨p, rfl⟩ : ∃ p : Nat, lb = p := ⟨lb.toNat, by omega⟩
      have hp9 : p ≤ 9 := by omega
      simp only [Int.toNat_natCast] at hR
      have hpow : 2 ^ p ≤ 512 := by
        have : 2 ^ p ≤ 2 ^ 9 := Nat.pow_le_pow_right (by omega) hp9
        omega
      have hcast : (2 : Int) ^ p = ((2 ^ p : Nat) : Int) := by simp
      simp only [hcast] at hR
      have HSZ := hide (fun (k : Nat) W (h : k ≤ 9) => size_any k W h)
      obtain ⟨s, hs⟩ : ∃ s, s = 2 ^ p := ⟨_, rfl⟩
      have HS1 := hide (fun W => hs ▸ size_any p W hp9)
      simp only [← hs] at hpow hR
      have HSP := hide hs
      clear hs hcast
      by_cases h1 : s < u
      · rw [if_pos (.inr (by omega))] at hR
        have h1I : (s : Int) < u := by omega
        go_enter Tryz.func24, Tryz.ntmps24
        go_wp2_with fail
        refine HK.out.mono ?_
        rintro e w1 ⟨rfl, rfl⟩
        go_wp2_with fail
        refine (HS1.out _).mono ?_
        rintro e w1 ⟨rfl, rfl⟩
        go_wp2_with fail
        try go_ret
        exact hR.out _ _ ⟨rfl, rfl⟩
      · rw [if_neg (by omega)] at hR
        have h1I : ¬ (s : Int) < u := by omega
        by_cases h2 : u = 1
        · rw [if_pos h2] at hR
          have h2b : ((u : Int) == 1) = true := by simp; omega
          go_enter Tryz.func24, Tryz.ntmps24
          go_wp2_with fail
          refine HK.out.mono ?_
          rintro e w1 ⟨rfl, rfl⟩
          go_wp2_with fail
          refine (HS1.out _).mono ?_
          rintro e w1 ⟨rfl, rfl⟩
          go_wp2_with fail
          try go_ret
          exact hR.out _ _ ⟨rfl, rfl⟩
        · rw [if_neg h2] at hR
          have h2b : ((u : Int) == 1) = false := by simp; omega
          have hu2 : 2 ≤ u := by omega
          have hS64 : S < 2 ^ 64 := by omega
          have hSm : S ≠ 0 := by omega
          have h512 : (2 : Nat) ^ 9 = 512 := by decide
          have hbu : Lib.bitLen (u - 1) ≤ 9 := (bitLen_pow (by omega) (by omega)).1 (by omega)
          clear h512
          have HPK := hide (fun k => bitLen_pow (m := u - 1) (k := k) (by omega) (by omega))
          have hSI : (S : Int) ≤ 1099511627776 := by omega
          have HSB := hide hS64
          have HBS := hide (bitLen_le64 S hS64)
          obtain ⟨bu, hbu'⟩ : ∃ bu, bu = Lib.bitLen (u - 1) := ⟨_, rfl⟩
          simp only [← hbu'] at hbu HPK hR
          have HS0 := hide (show 1 ≤ S by omega)
          clear hbu' h2 hus hs0 hs1 hS64 hSm
          go_enter Tryz.func24, Tryz.ntmps24
          go_wp2_with fail
          refine HK.out.mono ?_
          rintro e w1 ⟨rfl, rfl⟩
          go_wp2_with fail
          refine (HS1.out _).mono ?_
          rintro e w1 ⟨rfl, rfl⟩
          go_wp2_with fail
          obtain ⟨wo, rfl⟩ : ∃ wo : World, wo = w1 := ⟨_, rfl⟩
          go_loopg [8] 10 (fun f x wr => wr = wo ∧ ∃ k : Nat, k + f = 10 ∧ x = .int .i64 k ∧ k ≤ bu)
          case atStart => exact ⟨rfl, 0, rfl, rfl, by omega⟩
          case round =>
            obtain ⟨rfl, k, hk, rfl, hkb⟩ := hrel
            have HSK := hide (HSZ.out k wr (by omega))
            have hkey : (2 ^ k : Nat) < u ↔ k < bu := by
              have := HPK.out k
              omega
            have hp0 : 0 < 2 ^ k := Nat.two_pow_pos k
            have hp1 : 2 ^ k ≤ 512 := Nat.le_trans (Nat.pow_le_pow_right (by omega) (by omega : k ≤ 9)) (by decide)
            obtain ⟨q, hq⟩ : ∃ q, q = 2 ^ k := ⟨_, rfl⟩
            rw [← hq] at HSK hkey hp0 hp1
            have hw4 : IntKind.i64.wrap ((k : Int) + 1) = k + 1 := IntWalk.i64_in _ (by omega)
            clear hq
            by_cases hlt : q < u
            · have hltI : (q : Int) < u := by omega
              have hkb2 := hkey.1 hlt
              clear hkey
              go_wp2_with fail
              refine HSK.out.mono ?_
              rintro e w2 ⟨rfl, rfl⟩
              go_wp2_with fail
              go_roundg (gk - 1)
              case measure => omega
              case rel => exact ⟨rfl, k + 1, by omega, by go_num, by omega⟩
            · have hltI : ¬ (q : Int) < u := by omega
              have hkb2 : k = bu := by omega
              subst hkb2
              clear hkey
              go_wp2_with fail
              refine HSK.out.mono ?_
              rintro e w2 ⟨rfl, rfl⟩
              go_wp2_with fail
              obtain ⟨wo, rfl⟩ : ∃ wo : World, wo = wr := ⟨_, rfl⟩
              go_loopg [5, 9] S (fun f a x wr => wr = wo ∧ ∃ y g : Nat, y ≤ f ∧ 1 ≤ y ∧ y ≤ S ∧ a = .int .i64 y ∧ x = .int .i64 g ∧ g + Lib.bitLen y = Lib.bitLen S)
              case atStart => exact ⟨rfl, S, 0, by omega, HS0.out, by omega, rfl, rfl, by omega⟩
              case round =>
                obtain ⟨rfl, y, gg, hy1, hy2, hy3, rfl, rfl, hgg⟩ := hrel
                have hyS := HSB.out
                have hbl := HBS.out
                by_cases h3 : 1 < y
                · have hhf := bitLen_half (m := y) (by omega) (by omega)
                  have h3I : 1 < (y : Int) := by omega
                  have hw5 : IntKind.i64.wrap ((gg : Int) + 1) = gg + 1 := IntWalk.i64_in _ (by omega)
                  have HGG := hide (show gg + 1 + Lib.bitLen (y / 2) = Lib.bitLen S by omega)
                  have HY1 := hide hy1
                  clear hgg hhf hy1 hbl
                  go_wp2_with fail
                  go_roundg (gk - 1)
                  case measure => have := HY1.out; omega
                  case rel => exact ⟨rfl, y / 2, gg + 1, by have := HY1.out; omega, by omega, by omega, by rw [show ((y / 2 : Nat) : Int) = (y : Int) / 2 by omega], by go_num, HGG.out⟩
                · obtain rfl : y = 1 := by omega
                  rw [bitLen_one] at hgg
                  have hw6 : IntKind.i64.wrap ((gg : Int) - 1) = gg - 1 := IntWalk.i64_in _ (by omega)
                  have HFIN := hide (show min (p : Int) (max (k : Nat) ((Lib.bitLen S : Nat) - 2)) = min (p : Int) (max (k : Int) ((gg : Int) - 1)) by congr 2; omega)
                  rw [HFIN.out] at hR
                  clear hgg hbl
                  go_wp2_with fail
                  try go_ret
                  exact hR.out _ _ ⟨rfl, rfl⟩
  · have hrl : recL N lb = -1 := if_pos (.inl hb)
    rw [hrl]
    have HK : Hid (Calls Tryz.prog 21 #[.slice A n c] w fun e w' => (∃ x y, e = .returned (.tuple #[.int .i64 x, .int .i64 y, .bool false])) ∧ w' = w) :=
      hide (hal.mono fun e w' h => ⟨by have := h.1; unfold AllPost at this; rw [decide_eq_false hb] at this; exact ⟨_, _, this⟩, h.2⟩)
    clear hal hr hfit hn hN hu hrl hb
    refine veil fun R hR => ?_
    have h9 : ¬ 9 < lb := by omega
    go_enter Tryz.func24, Tryz.ntmps24
    go_wp2_with fail
    refine HK.out.mono ?_
    rintro e w1 ⟨⟨x, y, rfl⟩, rfl⟩
    go_wp2_with fail
    try go_ret
    exact hR.out _ _ ⟨rfl, rfl⟩

end Go.Proofs.YtcdbfddoanigbaaGreat

/-
  The reference's May and Bytes of a part's tables.
  Conditions: none beyond those of each theorem.
-/
namespace Go.Proofs.YtcdbfddoanigbaaGreat
open Go.RowKit
set_option linter.unusedVariables false
set_option linter.unusedSimpArgs false

set_option maxRecDepth 100000 in
set_option maxHeartbeats 1000000 in
theorem rmay_any (F : Nat → Prop) (A : Option Addr) (n c : Nat) (lg p : Int) (N : List Int) (w : World) (hr : Rd w F A n (ints N)) (hfit : Fit N) (hn : (n : Int) ≤ 1099511627776) (hp : 0 ≤ p ∧ p ≤ 2) :
    Calls Tryz.prog 32 #[.agg #[.int .i64 lg, .slice A n c], .int .i64 p] w fun e w' => e = .returned (.bool (decide (Valid lg N (partS p) (partX p)))) ∧ Fresh w w' := by
  obtain ⟨w0, hw0⟩ : ∃ w0, w0 = w.alloc (.cells #[.int .i64 lg, .slice A n c] 25) := ⟨_, rfl⟩
  obtain ⟨H, hH⟩ : ∃ H, H = w.heap.size := ⟨_, rfl⟩
  have f0 : Fresh w w0 := by rw [hw0]; exact (Upd.refl _ _).alloc _
  have bt : Blk w0 H 25 #[.int .i64 lg, .slice A n c] := by rw [hw0]; exact blk_new hH _ _
  have t0 := bt.cell 0
  have t1 := bt.cell 1
  simp at t0 t1
  have HSY := hide (fun W => rsym_any p W hp)
  have HLG := hide (fun W => rlog_any p W hp)
  have HMY := hide (fun W (h : Fresh w0 W) => may07_gen F A n c lg (partS p) (partX p) N W ((hr.fresh f0).fresh h) hfit hn)
  have HBT := hide (fun W (h : Fresh w0 W) => bt.fresh h)
  have HSS := hide (show ∀ W, Fresh w0 W → (Fresh w0 W ∧ W.cell? ⟨H, 0, none⟩ = some (.int .i64 lg) ∧ W.cell? ⟨H, 1, none⟩ = some (.slice A n c)) from fun W h => ⟨h, by simpa using (bt.fresh h).cell 0, by simpa using (bt.fresh h).cell 1⟩)
  have F0 := hide f0
  have HW := hide hw0
  have HH := hide hH
  have HV : ∀ P : Prop, [Decidable P] → Hid (((if P then (0 : Int) else 13) == 0) = decide P) := fun P _ => hide (by by_cases h : P <;> simp [h])
  have HV1 := HV (Valid lg N (partS p) (partX p))
  clear f0 bt hw0 hH hr hp HV
  generalize hvd : decide (Valid lg N (partS p) (partX p)) = vd at *
  generalize (if Valid lg N (partS p) (partX p) then (0 : Int) else 13) = er at *
  generalize partS p = s at *
  generalize partX p = x at *
  clear hvd
  refine veil fun R hR => ?_
  go_enter Tryz.func32, Tryz.ntmps32
  go_upto_region 1 with fail
  simp only [← HH.out, ← HW.out]
  go_region_held3 (fun W => Fresh w0 W ∧ W.cell? ⟨H, 0, none⟩ = some (.int .i64 lg) ∧ W.cell? ⟨H, 1, none⟩ = some (.slice A n c))
    (first | exact HSS.out _ (by assumption) | exact HSS.out _ (And.left (by assumption)) | exact HSS.out _ (Upd.refl _ _) | exact HSS.out _ (Upd.refl _ _).drew)
    (first
      | (go_at_call 22; refine (HSY.out _).mono ?_; rintro e w' ⟨rfl, rfl⟩)
      | (go_at_call 25; refine (HLG.out _).mono ?_; rintro e w' ⟨rfl, rfl⟩)
      | (go_at_call 62; refine (HMY.out _ (And.left (by assumption))).mono ?_; rintro e w' ⟨rfl, f2⟩; have f3x : Fresh w0 w' := Upd.trans' (And.left (by assumption)) f2))
  all_goals go_wp2_with fail
  all_goals try go_ret
  all_goals
    rw [HV1.out]
    exact hR.out _ _ ⟨rfl, F0.out.trans' (And.left (by assumption))⟩

set_option maxRecDepth 100000 in
set_option maxHeartbeats 2000000 in
theorem rbytes_no (F : Nat → Prop) (A : Option Addr) (n c : Nat) (m lg p : Int) (N : List Int) (w : World) (hr : Rd w F A n (ints N)) (hfit : Fit N) (hn : (n : Int) ≤ 1099511627776) (hp : 0 ≤ p ∧ p ≤ 2) (hv : ¬ Valid lg N (partS p) (partX p)) :
    Calls Tryz.prog 27 #[.int .i64 m, .int .i64 p, .agg #[.int .i64 lg, .slice A n c]] w fun e w' => e = .returned (.int .i64 (-1)) ∧ Fresh w w' := by
  obtain ⟨w0, hw0⟩ : ∃ w0, w0 = w.alloc (.cells #[.int .i64 lg, .slice A n c] 25) := ⟨_, rfl⟩
  obtain ⟨H, hH⟩ : ∃ H, H = w.heap.size := ⟨_, rfl⟩
  have f0 : Fresh w w0 := by rw [hw0]; exact (Upd.refl _ _).alloc _
  have bt : Blk w0 H 25 #[.int .i64 lg, .slice A n c] := by rw [hw0]; exact blk_new hH _ _
  have t0 := bt.cell 0
  have t1 := bt.cell 1
  simp at t0 t1
  have HMY := hide (rmay_any F A n c lg p N w0 (hr.fresh f0) hfit hn hp)
  have BT := hide bt
  have F0 := hide f0
  have HW := hide hw0
  have HH := hide hH
  have HR := hide (fun W (h : Fresh w W) => hr.fresh h)
  rw [decide_eq_false hv] at HMY
  clear f0 bt hw0 hH hr hp hv
  refine veil fun R hR => ?_
  go_enter Tryz.func27, Tryz.ntmps27
  go_upto_region 1 with fail
  simp only [← HH.out, ← HW.out]
  go_wp2_with fail
  refine HMY.out.mono ?_
  rintro e w1 ⟨rfl, f1⟩
  have F1 := hide (F0.out.trans' f1)
  have b1 := BT.out.fresh f1
  have t0 := b1.cell 0
  have t1 := b1.cell 1
  simp at t0 t1
  have B1 := hide b1
  clear f1 b1
  go_wp2_with fail
  try go_ret
  exact hR.out _ _ ⟨rfl, F1.out⟩

set_option maxRecDepth 100000 in
set_option maxHeartbeats 2000000 in
theorem rbytes_3 (F : Nat → Prop) (A : Option Addr) (n c : Nat) (lg p : Int) (N : List Int) (w : World) (hr : Rd w F A n (ints N)) (hfit : Fit N) (hn : (n : Int) ≤ 1099511627776) (hp : 0 ≤ p ∧ p ≤ 2) (hv : Valid lg N (partS p) (partX p)) :
    Calls Tryz.prog 27 #[.int .i64 3, .int .i64 p, .agg #[.int .i64 lg, .slice A n c]] w fun e w' => e = .returned (.int .i64 (0)) ∧ Fresh w w' := by
  obtain ⟨w0, hw0⟩ : ∃ w0, w0 = w.alloc (.cells #[.int .i64 lg, .slice A n c] 25) := ⟨_, rfl⟩
  obtain ⟨H, hH⟩ : ∃ H, H = w.heap.size := ⟨_, rfl⟩
  have f0 : Fresh w w0 := by rw [hw0]; exact (Upd.refl _ _).alloc _
  have bt : Blk w0 H 25 #[.int .i64 lg, .slice A n c] := by rw [hw0]; exact blk_new hH _ _
  have t0 := bt.cell 0
  have t1 := bt.cell 1
  simp at t0 t1
  have HMY := hide (rmay_any F A n c lg p N w0 (hr.fresh f0) hfit hn hp)
  have BT := hide bt
  have F0 := hide f0
  have HW := hide hw0
  have HH := hide hH
  have HR := hide (fun W (h : Fresh w W) => hr.fresh h)
  rw [decide_eq_true hv] at HMY
  clear f0 bt hw0 hH hr hp hv
  refine veil fun R hR => ?_
  go_enter Tryz.func27, Tryz.ntmps27
  go_upto_region 1 with fail
  simp only [← HH.out, ← HW.out]
  go_wp2_with fail
  refine HMY.out.mono ?_
  rintro e w1 ⟨rfl, f1⟩
  have F1 := hide (F0.out.trans' f1)
  have b1 := BT.out.fresh f1
  have t0 := b1.cell 0
  have t1 := b1.cell 1
  simp at t0 t1
  have B1 := hide b1
  clear f1 b1
  go_wp2_with fail
  try go_ret
  exact hR.out _ _ ⟨rfl, F1.out⟩

set_option maxRecDepth 100000 in
set_option maxHeartbeats 2000000 in
theorem rbytes_2 (F : Nat → Prop) (A : Option Addr) (n c : Nat) (lg p : Int) (N : List Int) (w : World) (hr : Rd w F A n (ints N)) (hfit : Fit N) (hn : (n : Int) ≤ 1099511627776) (hp : 0 ≤ p ∧ p ≤ 2) (hv : Valid lg N (partS p) (partX p)) :
    Calls Tryz.prog 27 #[.int .i64 2, .int .i64 p, .agg #[.int .i64 lg, .slice A n c]] w fun e w' => e = .returned (.int .i64 (if lg ≠ 0 then ((packB (descBits lg.toNat N)).length : Nat) else -1)) ∧ Fresh w w' := by
  obtain ⟨w0, hw0⟩ : ∃ w0, w0 = w.alloc (.cells #[.int .i64 lg, .slice A n c] 25) := ⟨_, rfl⟩
  obtain ⟨H, hH⟩ : ∃ H, H = w.heap.size := ⟨_, rfl⟩
  have f0 : Fresh w w0 := by rw [hw0]; exact (Upd.refl _ _).alloc _
  have bt : Blk w0 H 25 #[.int .i64 lg, .slice A n c] := by rw [hw0]; exact blk_new hH _ _
  have t0 := bt.cell 0
  have t1 := bt.cell 1
  simp at t0 t1
  have HMY := hide (rmay_any F A n c lg p N w0 (hr.fresh f0) hfit hn hp)
  have BT := hide bt
  have F0 := hide f0
  have HW := hide hw0
  have HH := hide hH
  have HR := hide (fun W (h : Fresh w W) => hr.fresh h)
  rw [decide_eq_true hv] at HMY
  have hv2 := valid_wide hv
  clear f0 bt hw0 hH hr hp
  by_cases h0 : lg ≠ 0
  · rw [if_pos h0]
    obtain ⟨q, rfl⟩ : ∃ q : Nat, lg = q := ⟨lg.toNat, by have := hv.1; omega⟩
    have hq : q ≠ 0 := by omega
    have HBI := hide (fun W (h : Fresh w W) => rbits11_any F A n c q N W (HR.out W h) hv2 hq)
    have hqI : 0 < (q : Int) := by omega
    have hdl := descBits_length q N (by have := hv.2.2.1; omega)
    have hnl : N.length ≤ 256 := by have := hv2.2.2.2.2.1; omega
    rw [packB_length, Int.toNat_natCast]
    have hdl2 : (descBits q N).length ≤ 4000 := by omega
    generalize hD : descBits q N = D at *
    clear hv hv2 hq h0 hD hdl hnl
    refine veil fun R hR => ?_
    go_enter Tryz.func27, Tryz.ntmps27
    go_upto_region 1 with fail
    simp only [← HH.out, ← HW.out]
    go_wp2_with fail
    refine HMY.out.mono ?_
    rintro e w1 ⟨rfl, f1⟩
    have F1 := hide (F0.out.trans' f1)
    have b1 := BT.out.fresh f1
    have t0 := b1.cell 0
    have t1 := b1.cell 1
    simp at t0 t1
    have B1 := hide b1
    clear f1 b1
    go_wp2_with fail
    refine (HBI.out _ F1.out).mono ?_
    rintro e w2 ⟨s, rfl, hnb⟩
    obtain ⟨As, ns, cs, rfl, hns⟩ := hnb.1.form'
    have hns2 : ns = D.length := by rw [hns.out]; simp [bools]
    have F2 := hide (F1.out.trans' hnb.2.1)
    clear hnb hns
    subst hns2
    have hd4 : ((D.length : Nat) : Int) ≤ 4000 := by omega
    go_wp2_with fail
    try go_ret
    refine hR.out _ _ ⟨?_, F2.out⟩
    congr 2
  · have h0' : lg = 0 := by omega
    subst h0'
    rw [if_neg h0]
    clear hv hv2 h0
    refine veil fun R hR => ?_
    go_enter Tryz.func27, Tryz.ntmps27
    go_upto_region 1 with fail
    simp only [← HH.out, ← HW.out]
    go_wp2_with fail
    refine HMY.out.mono ?_
    rintro e w1 ⟨rfl, f1⟩
    have F1 := hide (F0.out.trans' f1)
    have b1 := BT.out.fresh f1
    have t0 := b1.cell 0
    have t1 := b1.cell 1
    simp at t0 t1
    have B1 := hide b1
    clear f1 b1
    go_wp2_with fail
    try go_ret
    exact hR.out _ _ ⟨rfl, F1.out⟩

set_option maxRecDepth 100000 in
set_option maxHeartbeats 2000000 in
theorem rbytes_1 (F : Nat → Prop) (A : Option Addr) (n c : Nat) (lg p : Int) (N : List Int) (w : World) (hr : Rd w F A n (ints N)) (hfit : Fit N) (hn : (n : Int) ≤ 1099511627776) (hp : 0 ≤ p ∧ p ≤ 2) (hv : Valid lg N (partS p) (partX p)) :
    Calls Tryz.prog 27 #[.int .i64 1, .int .i64 p, .agg #[.int .i64 lg, .slice A n c]] w fun e w' => e = .returned (.int .i64 (if lg = 0 ∧ N[N.length - 1]? = some 1 then 1 else -1)) ∧ Fresh w w' := by
  obtain ⟨w0, hw0⟩ : ∃ w0, w0 = w.alloc (.cells #[.int .i64 lg, .slice A n c] 25) := ⟨_, rfl⟩
  obtain ⟨H, hH⟩ : ∃ H, H = w.heap.size := ⟨_, rfl⟩
  have f0 : Fresh w w0 := by rw [hw0]; exact (Upd.refl _ _).alloc _
  have bt : Blk w0 H 25 #[.int .i64 lg, .slice A n c] := by rw [hw0]; exact blk_new hH _ _
  have t0 := bt.cell 0
  have t1 := bt.cell 1
  simp at t0 t1
  have HMY := hide (rmay_any F A n c lg p N w0 (hr.fresh f0) hfit hn hp)
  have BT := hide bt
  have F0 := hide f0
  have HW := hide hw0
  have HH := hide hH
  have HR := hide (fun W (h : Fresh w W) => hr.fresh h)
  rw [decide_eq_true hv] at HMY
  have hN : N.length = n := by have := hr.1; simpa using this
  have hn0 : 0 < n := by have := hv.2.2.2.1; omega
  have hv2 := valid_wide hv
  have hn2 : n ≤ 256 := by have := hv2.2.2.2.2.1; omega
  have hn2I : (n : Int) ≤ 256 := by omega
  have hn0I : 0 < (n : Int) := by omega
  obtain ⟨b, o, hk, rfl, hb, hc⟩ := hr.int (k := n - 1) (by omega)
  have HC := hide (fun W (h : Fresh w W) => (h.cells b (o + (n - 1)) hb).trans hc)
  have hg : N[N.length - 1]? = some N[n - 1] := by rw [hN]; exact List.getElem?_eq_getElem hk
  rw [hg]
  clear f0 bt hw0 hH hr hp hv hv2 hg hc hN
  generalize N[n - 1] = z at *
  have hwn : IntKind.i64.wrap ((n : Int) - 1) = n - 1 := IntWalk.i64_in _ (by omega)
  have hwn2 : ((n : Int) - 1).toNat = n - 1 := by omega
  have hwn3 : (0 : Int) ≤ (n : Int) - 1 := by omega
  by_cases h0 : lg = 0
  · subst h0
    by_cases h1 : z = 1
    · subst h1
      rw [if_pos ⟨rfl, rfl⟩]
      refine veil fun R hR => ?_
      go_enter Tryz.func27, Tryz.ntmps27
      go_upto_region 1 with fail
      simp only [← HH.out, ← HW.out]
      go_wp2_with fail
      refine HMY.out.mono ?_
      rintro e w1 ⟨rfl, f1⟩
      have F1 := hide (F0.out.trans' f1)
      have b1 := BT.out.fresh f1
      have t0 := b1.cell 0
      have t1 := b1.cell 1
      simp at t0 t1
      have B1 := hide b1
      clear f1 b1
      have c1 := HC.out _ F1.out
      go_wp2_with fail
      try go_ret
      exact hR.out _ _ ⟨rfl, F1.out⟩
    · rw [if_neg (fun h => h1 (by simpa using h.2))]
      have h1b : (z == 1) = false := by simpa using h1
      refine veil fun R hR => ?_
      go_enter Tryz.func27, Tryz.ntmps27
      go_upto_region 1 with fail
      simp only [← HH.out, ← HW.out]
      go_wp2_with fail
      refine HMY.out.mono ?_
      rintro e w1 ⟨rfl, f1⟩
      have F1 := hide (F0.out.trans' f1)
      have b1 := BT.out.fresh f1
      have t0 := b1.cell 0
      have t1 := b1.cell 1
      simp at t0 t1
      have B1 := hide b1
      clear f1 b1
      have c1 := HC.out _ F1.out
      go_wp2_with fail
      try go_ret
      exact hR.out _ _ ⟨rfl, F1.out⟩
  · rw [if_neg (fun h => h0 h.1)]
    have h0b : (lg == 0) = false := by simpa using h0
    refine veil fun R hR => ?_
    go_enter Tryz.func27, Tryz.ntmps27
    go_upto_region 1 with fail
    simp only [← HH.out, ← HW.out]
    go_wp2_with fail
    refine HMY.out.mono ?_
    rintro e w1 ⟨rfl, f1⟩
    have F1 := hide (F0.out.trans' f1)
    have b1 := BT.out.fresh f1
    have t0 := b1.cell 0
    have t1 := b1.cell 1
    simp at t0 t1
    have B1 := hide b1
    clear f1 b1
    go_wp2_with fail
    try go_ret
    exact hR.out _ _ ⟨rfl, F1.out⟩

set_option maxRecDepth 100000 in
set_option maxHeartbeats 2000000 in
theorem rbytes_0 (F : Nat → Prop) (A : Option Addr) (n c : Nat) (lg p : Int) (N : List Int) (w : World) (hr : Rd w F A n (ints N)) (hfit : Fit N) (hn : (n : Int) ≤ 1099511627776) (hp : 0 ≤ p ∧ p ≤ 2) (hv : Valid lg N (partS p) (partX p)) :
    Calls Tryz.prog 27 #[.int .i64 0, .int .i64 p, .agg #[.int .i64 lg, .slice A n c]] w fun e w' => e = .returned (.int .i64 (if partL p = lg ∧ partN p = N then 0 else -1)) ∧ Fresh w w' := by
  obtain ⟨w0, hw0⟩ : ∃ w0, w0 = w.alloc (.cells #[.int .i64 lg, .slice A n c] 25) := ⟨_, rfl⟩
  obtain ⟨H, hH⟩ : ∃ H, H = w.heap.size := ⟨_, rfl⟩
  have f0 : Fresh w w0 := by rw [hw0]; exact (Upd.refl _ _).alloc _
  have bt : Blk w0 H 25 #[.int .i64 lg, .slice A n c] := by rw [hw0]; exact blk_new hH _ _
  have t0 := bt.cell 0
  have t1 := bt.cell 1
  simp at t0 t1
  have HMY := hide (rmay_any F A n c lg p N w0 (hr.fresh f0) hfit hn hp)
  have BT := hide bt
  have F0 := hide f0
  have HW := hide hw0
  have HH := hide hH
  have HR := hide (fun W (h : Fresh w W) => hr.fresh h)
  rw [decide_eq_true hv] at HMY
  have hN : N.length = n := by have := hr.1; simpa using this
  have hv2 := valid_wide hv
  have hn2 : n ≤ 1000 := by have := hv2.2.2.2.2.1; omega
  have hpl : (partN p).length ≤ 1000 := by have := partN_le p; omega
  have HOF := hide (fun W => rof_any p W hp)
  have HSM := hide (fun W (h : Fresh w W) (g : Nat) (hg : Rd W (fun b => b = g) (some ⟨g, 0, none⟩) (partN p).length (ints (partN p))) => same07_any F _ A _ n (partN p).length c (partN p).length lg (partL p) N (partN p) W (HR.out W h) hg hn2 hpl)
  have hdec : decide (lg = partL p ∧ N = partN p) = decide (partL p = lg ∧ partN p = N) := by
    congr 1
    exact propext ⟨fun h => ⟨h.1.symm, h.2.symm⟩, fun h => ⟨h.1.symm, h.2.symm⟩⟩
  rw [hdec] at HSM
  have hbt := hide (fun W (h : Fresh w0 W) => bt.fresh h)
  clear f0 bt hw0 hH hr hp hv hv2 hN hdec hpl
  by_cases hq : partL p = lg ∧ partN p = N
  all_goals
    first | rw [if_pos hq] | rw [if_neg hq]
    first | rw [decide_eq_true hq] at HSM | rw [decide_eq_false hq] at HSM
    clear hq
    generalize partN p = M at *
    generalize partL p = pl at *
    refine veil fun R hR => ?_
    go_enter Tryz.func27, Tryz.ntmps27
    go_upto_region 1 with fail
    simp only [← HH.out, ← HW.out]
    go_wp2_with fail
    refine HMY.out.mono ?_
    rintro e w1 ⟨rfl, f1⟩
    have F1 := hide (F0.out.trans' f1)
    have b1 := BT.out.fresh f1
    have t0 := b1.cell 0
    have t1 := b1.cell 1
    simp at t0 t1
    have B1 := hide b1
    clear f1 b1
    have HSS := hide (show ∀ W, Fresh w1 W → (Fresh w1 W ∧ W.cell? ⟨H, 0, none⟩ = some (.int .i64 lg) ∧ W.cell? ⟨H, 1, none⟩ = some (.slice A n c)) from fun W h => ⟨h, by simpa using (B1.out.fresh h).cell 0, by simpa using (B1.out.fresh h).cell 1⟩)
    go_upto_region 5 with fail
    go_region_held3 (fun W => Fresh w1 W ∧ W.cell? ⟨H, 0, none⟩ = some (.int .i64 lg) ∧ W.cell? ⟨H, 1, none⟩ = some (.slice A n c))
      (first | exact HSS.out _ (by assumption) | exact HSS.out _ (And.left (by assumption)) | exact HSS.out _ (Upd.refl _ _) | exact HSS.out _ (Upd.refl _ _).drew)
      (first
        | (go_at_call 26; refine (HOF.out _).mono ?_; rintro e w' ⟨g2, rfl, r2, hg2, f2⟩; have f3x : Fresh w1 w' := Upd.trans' (And.left (by assumption)) f2)
        | (go_at_call 7; refine (HSM.out _ (F1.out.trans' (And.left (by assumption))) _ (by assumption)).mono ?_; rintro e w' ⟨rfl, f2⟩; have f4x : Fresh w1 w' := Upd.trans' (And.left (by assumption)) f2))
    all_goals go_wp2_with fail
    all_goals try go_ret
    all_goals exact hR.out _ _ ⟨rfl, F1.out.trans' (And.left (by assumption))⟩

theorem rbytes_any (F : Nat → Prop) (A : Option Addr) (n c : Nat) (m lg p : Int) (N : List Int) (w : World) (hr : Rd w F A n (ints N)) (hfit : Fit N) (hn : (n : Int) ≤ 1099511627776) (hm : 0 ≤ m ∧ m ≤ 3) (hp : 0 ≤ p ∧ p ≤ 2) :
    Calls Tryz.prog 27 #[.int .i64 m, .int .i64 p, .agg #[.int .i64 lg, .slice A n c]] w fun e w' => e = .returned (.int .i64 (if (encN m p lg N).1 = 0 then ((encN m p lg N).2.length : Nat) else -1)) ∧ Fresh w w' := by
  have he : encN m p lg N = if Valid lg N (partS p) (partX p) then encM m p lg N else (13, []) := by unfold encN; exact if_neg (by omega)
  rw [he]
  by_cases hv : Valid lg N (partS p) (partX p)
  · rw [if_pos hv]
    unfold encM
    have : m = 0 ∨ m = 1 ∨ m = 2 ∨ m = 3 := by omega
    rcases this with rfl | rfl | rfl | rfl
    · refine (rbytes_0 F A n c lg p N w hr hfit hn hp hv).mono fun e w' h => ⟨?_, h.2⟩
      rw [h.1]
      by_cases h : partL p = lg ∧ partN p = N <;> simp [h]
    · refine (rbytes_1 F A n c lg p N w hr hfit hn hp hv).mono fun e w' h => ⟨?_, h.2⟩
      rw [h.1]
      by_cases h : lg = 0 ∧ N[N.length - 1]? = some 1 <;> simp [h]
    · refine (rbytes_2 F A n c lg p N w hr hfit hn hp hv).mono fun e w' h => ⟨?_, h.2⟩
      rw [h.1]
      by_cases h : lg = 0 <;> simp [h]
    · exact rbytes_3 F A n c lg p N w hr hfit hn hp hv
  · rw [if_neg hv]
    exact rbytes_no F A n c m lg p N w hr hfit hn hp hv

end Go.Proofs.YtcdbfddoanigbaaGreat
