/-
  ModesOnce: the law's function answers true.
  Conditions: none beyond those of each theorem.
-/
import Derived.Test.YtcdbfddoanigbaaJ20
import Derived.Test.YtcdbfddoanigbaaJ4
import Derived.Test.YtcdbfddoanigbaaJ8
import Derived.Test.YtcdbfddoanigbaaJ16
namespace Go.Proofs.Ytcdbfddoanigbaa
open Go.RowKit
set_option linter.unusedVariables false
set_option linter.unusedSimpArgs false

theorem fit_valid24 {lg sy lb : Int} {N : List Int} (h : Valid lg N sy lb) : Fit N := by
  intro x hx
  have h1 := absZ_le_sum24 hx
  obtain ⟨q1, q2, q3, k1, k2, k3, k4, q4⟩ := h
  rw [q4] at h1
  have h2 := pow_le512 (p := lg.toNat) (by omega)
  unfold absZ at h1
  split at h1 <;> omega

set_option maxRecDepth 100000 in
set_option maxHeartbeats 4000000 in
theorem once24_any (F G : Nat → Prop) (A B : Option Addr) (n c k d : Nat) (m p lg : Int) (N : List Int) (bs : List Nat) (w : World) (hr : Rd w F A n (ints N)) (hfit : Fit N) (hs : Rd w G B k (bytes bs)) (hlt : ∀ b ∈ bs, b < 256) (hcap : k ≤ d) :
    Calls Try.prog 9 #[.slice B k d, .int .i64 m, .int .i64 p, .agg #[.int .i64 lg, .slice A n c]] w fun e w' => e = .returned (.bool true) ∧ Fresh w w' := by
  have hkn := hide known24_any
  have hk : bs.length = k := by have := hs.1; simpa using this
  obtain ⟨w0, hw0⟩ : ∃ w0, w0 = w.alloc (.cells #[.int .i64 lg, .slice A n c] 26) := ⟨_, rfl⟩
  obtain ⟨H, hH⟩ : ∃ H, H = w.heap.size := ⟨_, rfl⟩
  have f0 : Fresh w w0 := by rw [hw0]; exact (Upd.refl _ _).alloc _
  have bt : Blk w0 H 26 #[.int .i64 lg, .slice A n c] := by rw [hw0]; exact blk_new hH _ _
  have t0 := bt.cell 0
  have t1 := bt.cell 1
  simp at t0 t1
  have HR := hide (fun W (h : Fresh w W) => hr.fresh h)
  have HS := hide (fun W (h : Fresh w W) => hs.fresh h)
  have HF := hide hfit
  have HLT := hide hlt
  have HM := hide hk
  have BT := hide bt
  have F0 := hide f0
  have HW := hide hw0
  have HH := hide hH
  clear hr hs hfit hlt f0 hw0 hH bt hk
  refine veil fun R hR => ?_
  by_cases h2 : 500 < k
  · have h2' : (500 : Int) < k := by omega
    go_enter Try.func9, Try.ntmps9
    go_upto_region 1 with fail
    simp only [← HH.out, ← HW.out]
    go_wp2_with fail
    refine (hkn.out _).mono ?_
    rintro e w1 ⟨rfl, f1⟩
    have F1 := hide (F0.out.trans' f1)
    clear f1
    go_wp2_with fail
    try go_ret
    exact hR.out _ _ ⟨rfl, F1.out⟩
  have h2' : ¬ (500 : Int) < k := by omega
  by_cases h1 : 300 < n
  · have h1' : (300 : Int) < n := by omega
    go_enter Try.func9, Try.ntmps9
    go_upto_region 1 with fail
    simp only [← HH.out, ← HW.out]
    go_wp2_with fail
    refine (hkn.out _).mono ?_
    rintro e w1 ⟨rfl, f1⟩
    have F1 := hide (F0.out.trans' f1)
    clear f1
    go_wp2_with fail
    try go_ret
    exact hR.out _ _ ⟨rfl, F1.out⟩
  have h1' : ¬ (300 : Int) < n := by omega
  have h1q : (n : Int) ≤ 1099511627776 := by omega
  have HNW := hide (new_any _ B k d bs w0 (HS.out _ F0.out) HLT.out (by rw [HM.out]; omega))
  have HDE := hide (fun (F' : Nat → Prop) g W (hc : CurAt W F' g bs 0) (hF : ∀ b, F' b → b ≠ g) (hw : Fresh w W) => mdec_any F' F g bs 0 A n c m p lg N W hc hF (HR.out W hw) HF.out h1q)
  obtain ⟨D, hD⟩ : ∃ D, D = decN m p lg N bs 0 := ⟨_, rfl⟩
  simp only [← hD] at HDE
  have HDD := hide hD
  clear hD
  obtain ⟨x, l2, N2, j⟩ := D
  simp only at HDE
  clear h1 h2
  go_enter Try.func9, Try.ntmps9
  go_upto_region 1 with fail
  simp only [← HH.out, ← HW.out]
  go_wp2_with fail
  refine HNW.out.mono ?_
  rintro e w1 ⟨g, rfl, hg, f1, cu1⟩
  have F1 := hide (F0.out.trans' f1)
  have HD1 := hide (HDE.out _ g _ cu1 (fun b hb => hb.2) F1.out)
  have hgH : H < g := by have := BT.out.lt; omega
  have hgw : w.heap.size ≤ g := by have := HH.out; omega
  have b1 := BT.out.fresh f1
  have t0 := b1.cell 0
  have t1 := b1.cell 1
  simp at t0 t1
  clear HDE HNW f1 cu1 b1 hg
  go_wp2_with fail
  refine HD1.out.mono ?_
  rintro e w2 ⟨u2, cu2, A2, n2, c2, rfl, r2⟩
  have F2 := hide (F1.out.trans u2 (fun b hb h => by omega))
  have CU2 := hide cu2.both
  have R2 := hide r2
  clear u2 cu2 r2 HD1
  by_cases hx : x = 0
  · subst hx
    obtain ⟨m0, m3, p0, p2, hv, hjk, hen⟩ := modes_once HLT.out (by rw [HM.out]; omega) HDD.out.symm
    have hn2 : N2.length = n2 := by have := R2.out.1; simpa using this
    have hn2b : (n2 : Int) ≤ 256 := by have := (valid_wide hv).2.2.2.2.1; omega
    obtain ⟨K2, hK2⟩ : ∃ K2, K2 = w2.heap.size := ⟨_, rfl⟩
    obtain ⟨w3, hw3⟩ : ∃ w3, w3 = w2.alloc (.cells #[.int .i64 l2, .slice A2 n2 c2] 26) := ⟨_, rfl⟩
    have f3 : Fresh w2 w3 := by rw [hw3]; exact (Upd.refl _ _).alloc _
    have b3 : Blk w3 K2 26 #[.int .i64 l2, .slice A2 n2 c2] := by rw [hw3]; exact blk_new hK2 _ _
    have s0 := b3.cell 0
    have s1 := b3.cell 1
    simp at s0 s1
    have F3 := hide (F2.out.trans' f3)
    have R3 := hide (R2.out.fresh f3)
    have CU3 := hide (CU2.out.fresh f3)
    have B3 := hide b3
    have HEN := hide (menc_any _ A2 n2 c2 m p l2 N2 w3 (R2.out.fresh f3) (fit_valid24 hv) (by omega))
    rw [hen] at HEN
    simp only at HEN
    have HV := hide hv
    have HW3 := hide hw3
    have HK2 := hide hK2
    have hjk2 : j ≤ k := by rw [← HM.out]; exact hjk
    have hjI : (j : Int) ≤ k := by omega
    have hjc : j ≤ d := by omega
    clear hen hv hw3 hK2 f3 b3 CU2 R2 hn2 hjk
    go_upto_region 5 with fail
    simp only [← HW3.out, ← HK2.out]
    go_wp2_with fail
    refine HEN.out.mono ?_
    rintro e w4 ⟨v, rfl, hnb⟩
    obtain ⟨Av, nv, cv, rfl, hnv⟩ := hnb.1.form'
    have hrd4 := (hnb.1.rd rfl).2.2
    rw [← hnv.out] at hrd4
    have f4 := hnb.2.1
    have R4 := hide hrd4
    have F4 := hide (F3.out.trans' f4)
    have CU4 := hide (CU3.out.fresh f4)
    have b4 := B3.out.fresh f4
    have s0 := b4.cell 0
    have s1 := b4.cell 1
    simp at s0 s1
    have hmy := rmay_any _ A2 n2 c2 l2 p N2 w4 (R3.out.fresh f4) (fit_valid24 HV.out) (by omega) ⟨p0, p2⟩
    rw [decide_eq_true HV.out] at hmy
    have HMY := hide hmy
    clear hnb hnv hrd4 f4 b4 hmy HEN
    go_wp2_with fail
    refine HMY.out.mono ?_
    rintro e w5 ⟨rfl, f5⟩
    have F5 := hide (F4.out.trans' f5)
    have R5 := hide (R4.out.fresh f5)
    have CU5 := hide (CU4.out.fresh f5)
    have hat := cat_any _ g bs (0 + j) w5 CU5.out
    rw [Nat.zero_add] at hat
    have HAT := hide hat
    have hsm := same_any _ _ Av B nv j cv d _ (bs.take j) w5 R5.out (by have := (HS.out _ F5.out).take (k := j) hjk2; simpa [bytes, List.map_take] using this) (fun b hb => HLT.out b (List.mem_of_mem_take hb)) (fun b hb => HLT.out b (List.mem_of_mem_take hb))
    rw [decide_eq_true rfl] at hsm
    have HSM := hide hsm
    clear f5 hat hsm HMY
    go_wp2_with fail
    refine HAT.out.mono ?_
    rintro e w6 ⟨rfl, rfl⟩
    go_wp2_with fail
    refine HAT.out.mono ?_
    rintro e w6 ⟨rfl, rfl⟩
    go_wp2_with fail
    refine HSM.out.mono ?_
    rintro e w6 ⟨rfl, rfl⟩
    go_wp2_with fail
    refine (hkn.out _).mono ?_
    rintro e w7 ⟨rfl, f7⟩
    have F7 := hide (F5.out.trans' f7)
    clear f7
    go_wp2_with fail
    try go_ret
    exact hR.out _ _ ⟨rfl, F7.out⟩
  · have hxb : (x != 0) = true := by simpa using hx
    go_wp2_with fail
    refine (hkn.out _).mono ?_
    rintro e w3 ⟨rfl, f3⟩
    have F3 := hide ((F2.out.alloc _).trans' f3)
    clear f3
    go_wp2_with fail
    try go_ret
    exact hR.out _ _ ⟨rfl, F3.out⟩

end Go.Proofs.Ytcdbfddoanigbaa
