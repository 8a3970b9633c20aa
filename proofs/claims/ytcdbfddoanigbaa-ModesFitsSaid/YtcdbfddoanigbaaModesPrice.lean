/-
  ModesPrice: the law's function answers true.
  Conditions: none beyond those of each theorem.
-/
import Derived.Test.YtcdbfddoanigbaaJ20
import Derived.Test.YtcdbfddoanigbaaJ16
import Derived.Test.YtcdbfddoanigbaaJ5
namespace Go.Proofs.Ytcdbfddoanigbaa
open Go.RowKit
set_option linter.unusedVariables false
set_option linter.unusedSimpArgs false

theorem recL_iff {C : List Int} (h : C.length ≤ 300) : 0 ≤ recL C 9 ↔ CtOk C ∧ 0 < usedC C := by
  have hu := usedC_le C
  unfold recL
  by_cases h1 : CtOk C ∧ 0 < usedC C
  · rw [if_neg (by
      rintro (h2 | h2 | h2)
      · exact h2 h1
      · omega
      · have : (2 : Int) ^ (9 : Int).toNat = 512 := by decide
        omega)]
    refine ⟨fun _ => h1, fun _ => ?_⟩
    split <;> omega
  · rw [if_pos (.inl h1)]
    exact ⟨fun h => by omega, fun h => absurd h h1⟩
theorem absZ_le_sum {N : List Int} {v : Int} (h : v ∈ N) : absZ v ≤ sumZ N := by
  induction N with
  | nil => cases h
  | cons x l ih =>
    rw [sumZ_cons]
    have h1 := sumZ_nonneg l
    have h2 := absZ_nonneg x
    rcases List.mem_cons.1 h with rfl | h
    · omega
    · have := ih h; omega
theorem costGo_nonneg {lg : Int} {N : List Int} (hv : Valid lg N 256 9) : ∀ (l : List Int) (i : Nat) (a r : Int), (∀ c ∈ l, 0 ≤ c) → 0 ≤ a → costGo lg N i l a = some r → 0 ≤ r
  | [], i, a, r, _, ha, h => by simp [costGo] at h; omega
  | c :: l, i, a, r, hl, ha, h => by
    have hc := hl c (by simp)
    have hl' : ∀ c ∈ l, 0 ≤ c := fun c h => hl c (List.mem_cons_of_mem _ h)
    rw [costGo] at h
    split at h
    · exact costGo_nonneg hv l (i + 1) a r hl' ha h
    · split at h
      · cases h
      · rename_i v hvm
        split at h
        · cases h
        · rename_i hv0
          have hm := List.mem_of_getElem? hvm
          have h1 := absZ_le_sum hm
          obtain ⟨q1, q2, q3, k1, k2, k3, k4, q4⟩ := hv
          rw [q4] at h1
          have h2 : max v (-v) = absZ v := by unfold absZ; split <;> omega
          obtain ⟨p, rfl⟩ : ∃ p : Nat, lg = p := ⟨lg.toNat, by omega⟩
          rw [Int.toNat_natCast] at h1
          have hpw := pow_le512 (p := p) (by omega)
          have h3 := bitLen_spec (m := (max v (-v)).toNat) (by omega) (by omega)
          have h4 : Lib.bitLen (max v (-v)).toNat - 1 < p + 1 := by
            have h6 : (max v (-v)).toNat ≤ 2 ^ p := by
              have : ((2 : Int) ^ p) = ((2 ^ p : Nat) : Int) := by simp
              omega
            refine (Nat.pow_lt_pow_iff_right (a := 2) (by omega)).1 ?_
            have h7 := Nat.two_pow_pos p
            rw [Nat.pow_succ]
            omega
          generalize Lib.bitLen (max v (-v)).toNat = b at *
          have h5 : 0 ≤ c * ((p : Int) + 1 - (b : Nat)) := Int.mul_nonneg hc (by omega)
          refine costGo_nonneg ⟨q1, q2, q3, k1, k2, k3, k4, q4⟩ l (i + 1) _ r hl' ?_ h
          omega

set_option maxRecDepth 100000 in
set_option maxHeartbeats 4000000 in
theorem price24_any (F G : Nat → Prop) (A B : Option Addr) (n c m d : Nat) (lg : Int) (N C : List Int) (w : World) (hs : Rd w G B m (ints N)) (hfit : Fit N) (hr : Rd w F A n (ints C)) (hfitC : Fit C) :
    Calls Try.prog 4 #[.agg #[.int .i64 lg, .slice B m d], .slice A n c] w fun e w' => e = .returned (.bool true) ∧ Fresh w w' := by
  have hkn := hide known24_any
  obtain ⟨w0, hw0⟩ : ∃ w0, w0 = w.alloc (.cells #[.int .i64 lg, .slice B m d] 26) := ⟨_, rfl⟩
  obtain ⟨H, hH⟩ : ∃ H, H = w.heap.size := ⟨_, rfl⟩
  have f0 : Fresh w w0 := by rw [hw0]; exact (Upd.refl _ _).alloc _
  have bt : Blk w0 H 26 #[.int .i64 lg, .slice B m d] := by rw [hw0]; exact blk_new hH _ _
  have t0 := bt.cell 0
  have t1 := bt.cell 1
  simp at t0 t1
  have hCl : C.length = n := by have := hr.1; simpa using this
  have HR := hide (fun W (h : Fresh w W) => hr.fresh h)
  have HS := hide (fun W (h : Fresh w W) => hs.fresh h)
  have HF := hide hfit
  have HFC := hide hfitC
  have BT := hide bt
  have F0 := hide f0
  have HW := hide hw0
  have HH := hide hH
  clear hr hs hfit hfitC f0 hw0 hH bt
  refine veil fun R hR => ?_
  by_cases h1 : 300 < m
  · have h1' : (300 : Int) < m := by omega
    go_enter Try.func4, Try.ntmps4
    go_upto_region 1 with fail
    simp only [← HH.out, ← HW.out]
    go_wp2_with fail
    refine (hkn.out _).mono ?_
    rintro e w1 ⟨rfl, f1⟩
    have F1 := hide (F0.out.trans' f1)
    clear f1
    go_wp2_with fail
    try go_ret
    exact hR.out _ _ ⟨rfl, F1.out⟩
  have h1' : ¬ (300 : Int) < m := by omega
  by_cases h2 : 300 < n
  · have h2' : (300 : Int) < n := by omega
    go_enter Try.func4, Try.ntmps4
    go_upto_region 1 with fail
    simp only [← HH.out, ← HW.out]
    go_wp2_with fail
    refine (hkn.out _).mono ?_
    rintro e w1 ⟨rfl, f1⟩
    have F1 := hide (F0.out.trans' f1)
    clear f1
    go_wp2_with fail
    try go_ret
    exact hR.out _ _ ⟨rfl, F1.out⟩
  have h2' : ¬ (300 : Int) < n := by omega
  have hrec := recL_iff (C := C) (by omega)
  have HCO := hide (fun W (h : Fresh w W) => cost_any F G A B n c m d lg N C W (HS.out W h) HF.out (by omega) (HR.out W h) HFC.out (by omega))
  have HCN := hide (fun W (h : Fresh w W) => rcounts_any F A n c C W (HR.out W h) HFC.out (by omega))
  have HMY := hide (fun W (h : Fresh w W) => may07_any G B m d lg N W (HS.out W h) HF.out (by omega))
  have HPR := hide (fun W (h : Fresh w W) (hv : Valid lg N 256 9) (hok : CtOk C) => rprice_any F G A B n c m d lg N C W (HS.out W h) HF.out (HR.out W h) (by omega) hv hok)
  by_cases hv : Valid lg N 256 9
  · by_cases hmay : CtOk C ∧ 0 < usedC C
    · have hcost : costN lg N C = match costGo lg N 0 C 0 with | some a => (a, 0) | none => (0, 2) := if_pos ⟨hv, hrec.2 hmay⟩
      have hnn : ∀ a, costGo lg N 0 C 0 = some a → 0 ≤ a := fun a ha => costGo_nonneg hv C 0 0 a hmay.1.1 (by omega) ha
      have HPR2 := hide (fun W h => HPR.out W h hv hmay.1)
      have HCN2 := hide (show ∀ W, Fresh w W → Calls Try.prog 14 #[.slice A n c] W fun e w' => e = .returned (.tuple #[.int .i64 C.sum, .int .i64 (usedC C : Nat), .bool true]) ∧ W = w' from fun W h => (HCN.out W h).mono fun e w' q => ⟨by have := q.1; unfold AllPost at this; rw [decide_eq_true hmay, if_pos hmay.1, if_pos hmay.1] at this; exact this, q.2.symm⟩)
      rw [if_pos hv] at HMY
      clear HCN HPR hrec hv hmay
      rcases hg : costGo lg N 0 C 0 with _ | a
      · rw [hg] at hcost HPR2
        simp only at hcost
        rw [hcost] at HCO
        clear hg hnn hcost
        go_enter Try.func4, Try.ntmps4
        go_upto_region 1 with fail
        simp only [← HH.out, ← HW.out]
        have G0 := hide (Upd.refl (fun _ => False) w0)
        go_wp2_with fail
        refine (HCO.out _ (F0.out.trans' G0.out)).mono ?_
        rintro e w1 ⟨rfl, f1⟩
        have G1 := hide (G0.out.trans' f1)
        have b1 := BT.out.fresh G1.out
        have t0 := b1.cell 0
        have t1 := b1.cell 1
        simp at t0 t1
        clear f1 b1
        go_wp2_with fail
        refine (HCN2.out _ (F0.out.trans' G1.out)).mono ?_
        rintro e wq ⟨rfl, rfl⟩
        go_wp2_with fail
        refine (HMY.out _ (F0.out.trans' G1.out)).mono ?_
        rintro e w2 ⟨rfl, f2⟩
        have G2 := hide (G1.out.trans' f2)
        have b2 := BT.out.fresh G2.out
        have t0 := b2.cell 0
        have t1 := b2.cell 1
        simp at t0 t1
        clear f2 b2
        go_wp2_with fail
        refine (HPR2.out _ (F0.out.trans' G2.out)).mono ?_
        rintro e w3 ⟨⟨a, rfl, ha⟩, f3⟩
        obtain rfl : a = -1 := by
          rcases ha with h | h
          · cases h
          · exact h.2
        clear ha
        have G3 := hide (G2.out.trans' f3)
        clear f3
        go_wp2_with fail
        refine (hkn.out _).mono ?_
        rintro e w4 ⟨rfl, f4⟩
        have G4 := hide (G3.out.trans' f4)
        clear f4
        go_wp2_with fail
        try go_ret
        exact hR.out _ _ ⟨rfl, F0.out.trans' G4.out⟩
      · have ha := hnn a hg
        rw [hg] at hcost HPR2
        simp only at hcost
        rw [hcost] at HCO
        clear hg hnn hcost
        go_enter Try.func4, Try.ntmps4
        go_upto_region 1 with fail
        simp only [← HH.out, ← HW.out]
        have G0 := hide (Upd.refl (fun _ => False) w0)
        go_wp2_with fail
        refine (HCO.out _ (F0.out.trans' G0.out)).mono ?_
        rintro e w1 ⟨rfl, f1⟩
        have G1 := hide (G0.out.trans' f1)
        have b1 := BT.out.fresh G1.out
        have t0 := b1.cell 0
        have t1 := b1.cell 1
        simp at t0 t1
        clear f1 b1
        go_wp2_with fail
        refine (HCN2.out _ (F0.out.trans' G1.out)).mono ?_
        rintro e wq ⟨rfl, rfl⟩
        go_wp2_with fail
        refine (HMY.out _ (F0.out.trans' G1.out)).mono ?_
        rintro e w2 ⟨rfl, f2⟩
        have G2 := hide (G1.out.trans' f2)
        have b2 := BT.out.fresh G2.out
        have t0 := b2.cell 0
        have t1 := b2.cell 1
        simp at t0 t1
        clear f2 b2
        go_wp2_with fail
        refine (HPR2.out _ (F0.out.trans' G2.out)).mono ?_
        rintro e w3 ⟨⟨a', rfl, ha'⟩, f3⟩
        obtain rfl : a' = a := by
          rcases ha' with h | h
          · injection h with h; exact h.symm
          · cases h.1
        clear ha'
        have G3 := hide (G2.out.trans' f3)
        have b3 := BT.out.fresh G3.out
        have t0 := b3.cell 0
        have t1 := b3.cell 1
        simp at t0 t1
        clear f3 b3
        have ha2 : ¬ a' < 0 := by omega
        go_wp2_with fail
        refine (HPR2.out _ (F0.out.trans' G3.out)).mono ?_
        rintro e w4 ⟨⟨a, rfl, ha'⟩, f4⟩
        obtain rfl : a = a' := by
          rcases ha' with h | h
          · injection h with h; exact h.symm
          · cases h.1
        clear ha'
        have G4 := hide (G3.out.trans' f4)
        clear f4
        go_wp2_with fail
        refine (hkn.out _).mono ?_
        rintro e w5 ⟨rfl, f5⟩
        have G5 := hide (G4.out.trans' f5)
        clear f5
        go_wp2_with fail
        try go_ret
        exact hR.out _ _ ⟨rfl, F0.out.trans' G5.out⟩
    · have hcost : costN lg N C = (0, 2) := if_neg (fun h => hmay (hrec.1 h.2))
      have HCN2 := hide (show ∀ W, Fresh w W → Calls Try.prog 14 #[.slice A n c] W fun e w' => (∃ x y, e = .returned (.tuple #[.int .i64 x, .int .i64 y, .bool false])) ∧ W = w' from fun W h => (HCN.out W h).mono fun e w' q => ⟨by have := q.1; unfold AllPost at this; rw [decide_eq_false hmay] at this; exact ⟨_, _, this⟩, q.2.symm⟩)
      rw [if_pos hv] at HMY
      rw [hcost] at HCO
      clear HCN HPR hrec hv hmay hcost
      go_enter Try.func4, Try.ntmps4
      go_upto_region 1 with fail
      simp only [← HH.out, ← HW.out]
      have G0 := hide (Upd.refl (fun _ => False) w0)
      go_wp2_with fail
      refine (HCO.out _ (F0.out.trans' G0.out)).mono ?_
      rintro e w1 ⟨rfl, f1⟩
      have G1 := hide (G0.out.trans' f1)
      have b1 := BT.out.fresh G1.out
      have t0 := b1.cell 0
      have t1 := b1.cell 1
      simp at t0 t1
      clear f1 b1
      go_wp2_with fail
      refine (HCN2.out _ (F0.out.trans' G1.out)).mono ?_
      rintro e wq ⟨⟨x, y, rfl⟩, rfl⟩
      go_wp2_with fail
      refine (HMY.out _ (F0.out.trans' G1.out)).mono ?_
      rintro e w2 ⟨rfl, f2⟩
      have G2 := hide (G1.out.trans' f2)
      have b2 := BT.out.fresh G2.out
      have t0 := b2.cell 0
      have t1 := b2.cell 1
      simp at t0 t1
      clear f2 b2
      go_wp2_with fail
      refine (hkn.out _).mono ?_
      rintro e w3 ⟨rfl, f3⟩
      have G3 := hide (G2.out.trans' f3)
      clear f3
      go_wp2_with fail
      try go_ret
      exact hR.out _ _ ⟨rfl, F0.out.trans' G3.out⟩
  · have hcost : costN lg N C = (0, 2) := if_neg (fun h => hv h.1)
    have HCN2 := hide (show ∀ W, Fresh w W → Calls Try.prog 14 #[.slice A n c] W fun e w' => (∃ x y z, e = .returned (.tuple #[.int .i64 x, .int .i64 y, .bool z])) ∧ W = w' from fun W h => (HCN.out W h).mono fun e w' q => ⟨⟨_, _, _, q.1⟩, q.2.symm⟩)
    rw [if_neg hv] at HMY
    rw [hcost] at HCO
    clear HCN HPR hrec hv hcost
    go_enter Try.func4, Try.ntmps4
    go_upto_region 1 with fail
    simp only [← HH.out, ← HW.out]
    have G0 := hide (Upd.refl (fun _ => False) w0)
    go_wp2_with fail
    refine (HCO.out _ (F0.out.trans' G0.out)).mono ?_
    rintro e w1 ⟨rfl, f1⟩
    have G1 := hide (G0.out.trans' f1)
    have b1 := BT.out.fresh G1.out
    have t0 := b1.cell 0
    have t1 := b1.cell 1
    simp at t0 t1
    clear f1 b1
    go_wp2_with fail
    refine (HCN2.out _ (F0.out.trans' G1.out)).mono ?_
    rintro e wq ⟨⟨x, y, z, rfl⟩, rfl⟩
    go_wp2_with fail
    refine (HMY.out _ (F0.out.trans' G1.out)).mono ?_
    rintro e w2 ⟨rfl, f2⟩
    have G2 := hide (G1.out.trans' f2)
    have b2 := BT.out.fresh G2.out
    have t0 := b2.cell 0
    have t1 := b2.cell 1
    simp at t0 t1
    clear f2 b2
    go_wp2_with fail
    refine (hkn.out _).mono ?_
    rintro e w3 ⟨rfl, f3⟩
    have G3 := hide (G2.out.trans' f3)
    clear f3
    go_wp2_with fail
    try go_ret
    exact hR.out _ _ ⟨rfl, F0.out.trans' G3.out⟩

end Go.Proofs.Ytcdbfddoanigbaa
