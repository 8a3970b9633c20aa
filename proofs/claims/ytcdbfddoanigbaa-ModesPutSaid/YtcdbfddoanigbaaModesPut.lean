/-
  ModesPut: the law's function answers true.
  Conditions: none beyond those of each theorem.
-/
import Derived.Test.YtcdbfddoanigbaaJ20
import Derived.Test.YtcdbfddoanigbaaJ16
namespace Go.Proofs.Ytcdbfddoanigbaa
open Go.RowKit
set_option linter.unusedVariables false
set_option linter.unusedSimpArgs false

theorem encN_in {m p lg : Int} {N : List Int} (hm : 0 ≤ m ∧ m ≤ 3) (hp : 0 ≤ p ∧ p ≤ 2) : (encN m p lg N).1 = 0 ∨ encN m p lg N = (13, []) := by
  unfold encN
  rw [if_neg (by omega)]
  split
  · unfold encM
    repeat' split
    all_goals first | exact .inl rfl | exact .inr rfl
  · exact .inr rfl

set_option maxRecDepth 100000 in
set_option maxHeartbeats 4000000 in
theorem put24_any (F : Nat → Prop) (A : Option Addr) (n c : Nat) (m p lg : Int) (N : List Int) (w : World) (hr : Rd w F A n (ints N)) (hfit : Fit N) :
    Calls Try.prog 3 #[.int .i64 m, .int .i64 p, .agg #[.int .i64 lg, .slice A n c]] w fun e w' => e = .returned (.bool true) ∧ Fresh w w' := by
  have hkn := hide known24_any
  obtain ⟨w0, hw0⟩ : ∃ w0, w0 = w.alloc (.cells #[.int .i64 lg, .slice A n c] 26) := ⟨_, rfl⟩
  obtain ⟨H, hH⟩ : ∃ H, H = w.heap.size := ⟨_, rfl⟩
  have f0 : Fresh w w0 := by rw [hw0]; exact (Upd.refl _ _).alloc _
  have bt : Blk w0 H 26 #[.int .i64 lg, .slice A n c] := by rw [hw0]; exact blk_new hH _ _
  have t0 := bt.cell 0
  have t1 := bt.cell 1
  simp at t0 t1
  have HR := hide (fun W (h : Fresh w W) => hr.fresh h)
  have HF := hide hfit
  have BT := hide bt
  have F0 := hide f0
  have HW := hide hw0
  have HH := hide hH
  clear hr hfit f0 hw0 hH bt
  refine veil fun R hR => ?_
  by_cases h1 : 300 < n
  · have h1' : (300 : Int) < n := by omega
    go_enter Try.func3, Try.ntmps3
    go_upto_region 1 with fail
    simp only [← HH.out, ← HW.out]
    go_wp2_with fail
    refine (hkn.out _).mono ?_
    rintro e w1 ⟨rfl, f1⟩
    have F1 := hide (F0.out.trans' f1)
    clear f1
    go_wp2_with fail
    try go_ret
    exact hR.out _ _ ⟨rfl, F1.out⟩
  have h1' : ¬ (300 : Int) < n := by omega
  have h1q : (n : Int) ≤ 1099511627776 := by omega
  have HE := hide (menc_any F A n c m p lg N w0 (HR.out _ F0.out) HF.out h1q)
  have HIN := hide (fun hm hp => encN_in (m := m) (p := p) (lg := lg) (N := N) hm hp)
  have HOUT := hide (show p < 0 ∨ 2 < p ∨ m < 0 ∨ 3 < m → encN m p lg N = (2, []) from fun h => if_pos h)
  have HBY := hide (fun W (h : Fresh w W) hm hp => rbytes_any F A n c m lg p N W (HR.out W h) HF.out h1q hm hp)
  generalize encN m p lg N = E at *
  obtain ⟨E1, EB⟩ := E
  clear h1
  go_enter Try.func3, Try.ntmps3
  go_upto_region 1 with fail
  simp only [← HH.out, ← HW.out]
  go_wp2_with fail
  refine HE.out.mono ?_
  rintro e w1 ⟨v, rfl, hnb⟩
  obtain ⟨Av, nv, cv, rfl, hnv⟩ := hnb.1.form'
  have hnv2 : nv = EB.length := by rw [hnv.out]; simp [bytes]
  have HNV := hide hnv2
  have f1 := hnb.2.1
  have F1 := hide (F0.out.trans' f1)
  have b1 := BT.out.fresh f1
  have t0 := b1.cell 0
  have t1 := b1.cell 1
  simp at t0 t1
  clear hnb hnv hnv2 f1 b1 HE BT
  by_cases hout : p < 0 ∨ 2 < p ∨ m < 0 ∨ 3 < m
  · have h2 := HOUT.out hout
    injection h2 with h2 h3
    subst h2 h3
    have h4 := HNV.out
    have h4' : nv = 0 := h4
    subst h4'
    clear h4
    have hc : m < 0 ∨ (¬ m < 0 ∧ 3 < m) ∨ (¬ m < 0 ∧ ¬ 3 < m ∧ p < 0) ∨ (¬ m < 0 ∧ ¬ 3 < m ∧ ¬ p < 0 ∧ 2 < p) := by omega
    clear hout HOUT HIN HBY HNV
    rcases hc with h | ⟨h, h'⟩ | ⟨h, h', h''⟩ | ⟨h, h', h'', h'''⟩
    all_goals
      go_wp2_with fail
      refine (hkn.out _).mono ?_
      rintro e w2 ⟨rfl, f2⟩
      have F2 := hide (F1.out.trans' f2)
      clear f2
      go_wp2_with fail
      try go_ret
      exact hR.out _ _ ⟨rfl, F2.out⟩
  · have hm : 0 ≤ m ∧ m ≤ 3 := by omega
    have hp : 0 ≤ p ∧ p ≤ 2 := by omega
    have h2 := HIN.out hm hp
    have HBZ := hide (HBY.out w1 F1.out hm hp)
    clear HIN HBY HOUT hout
    obtain ⟨hm0, hm1⟩ := hm
    obtain ⟨hp0, hp1⟩ := hp
    try simp only at HBZ h2
    rcases h2 with h2 | h2
    · subst h2
      rw [if_pos rfl, ← HNV.out] at HBZ
      clear HNV
      go_wp2_with fail
      refine HBZ.out.mono ?_
      rintro e w2 ⟨rfl, f2⟩
      have F2 := hide (F1.out.trans' f2)
      clear f2
      go_wp2_with fail
      refine (hkn.out _).mono ?_
      rintro e w3 ⟨rfl, f3⟩
      have F3 := hide (F2.out.trans' f3)
      clear f3
      go_wp2_with fail
      try go_ret
      exact hR.out _ _ ⟨rfl, F3.out⟩
    · injection h2 with h2 h3
      subst h2 h3
      have h4 := HNV.out
      have h4' : nv = 0 := h4
      subst h4'
      clear h4
      rw [if_neg (by decide)] at HBZ
      clear HNV
      go_wp2_with fail
      refine HBZ.out.mono ?_
      rintro e w2 ⟨rfl, f2⟩
      have F2 := hide (F1.out.trans' f2)
      clear f2
      go_wp2_with fail
      refine (hkn.out _).mono ?_
      rintro e w3 ⟨rfl, f3⟩
      have F3 := hide (F2.out.trans' f3)
      clear f3
      go_wp2_with fail
      try go_ret
      exact hR.out _ _ ⟨rfl, F3.out⟩

end Go.Proofs.Ytcdbfddoanigbaa
