/-
  ModesCuts: the law's function answers true.
  Conditions: none beyond those of each theorem.
-/
import Derived.Test.YtcdbfddoanigbaaJ20
namespace Go.Proofs.Ytcdbfddoanigbaa
open Go.RowKit
set_option linter.unusedVariables false
set_option linter.unusedSimpArgs false

theorem pick_mod24 (a : Int) (n : Nat) (h : 0 < n) (h2 : n ≤ 1000) : ∃ k : Nat, k < n ∧ wrap64 ((IntKind.u64.wrap a).tmod (n : Int)) = (k : Int) := by
  rw [IntKind.wrap_u64]
  have h3 : 0 ≤ a % 18446744073709551616 := Int.emod_nonneg _ (by omega)
  rw [Int.tmod_eq_emod_of_nonneg h3]
  generalize a % 18446744073709551616 = x
  have h4 := Int.emod_nonneg x (show (n : Int) ≠ 0 by omega)
  have h5 := Int.emod_lt_of_pos x (show (0 : Int) < n by omega)
  generalize x % (n : Int) = y at h4 h5
  refine ⟨y.toNat, by omega, ?_⟩
  unfold wrap64
  omega

set_option maxRecDepth 100000 in
set_option maxHeartbeats 4000000 in
theorem cuts24_any (F : Nat → Prop) (A : Option Addr) (n c : Nat) (m p lg : Int) (N : List Int) (at_ : Int) (w : World) (hr : Rd w F A n (ints N)) (hfit : Fit N) :
    Calls Try.prog 6 #[.int .i64 m, .int .i64 p, .agg #[.int .i64 lg, .slice A n c], .int .i64 at_] w fun e w' => e = .returned (.bool true) ∧ Fresh w w' := by
  have hkn := hide known24_any
  obtain ⟨w0, hw0⟩ : ∃ w0, w0 = w.alloc (.cells #[.int .i64 lg, .slice A n c] 26) := ⟨_, rfl⟩
  obtain ⟨H, hH⟩ : ∃ H, H = w.heap.size := ⟨_, rfl⟩
  have f0 : Fresh w w0 := by rw [hw0]; exact (Upd.refl _ _).alloc _
  have bt : Blk w0 H 26 #[.int .i64 lg, .slice A n c] := by rw [hw0]; exact blk_new hH _ _
  have t0 := bt.cell 0
  have t1 := bt.cell 1
  simp at t0 t1
  have HR := hide (fun W (h : Fresh w W) => hr.fresh h)
  have HF := hide hfit
  have BT := hide bt
  have F0 := hide f0
  have HW := hide hw0
  have HH := hide hH
  clear hr hfit f0 hw0 hH bt
  refine veil fun R hR => ?_
  by_cases h1 : 300 < n
  · have h1' : (300 : Int) < n := by omega
    go_enter Try.func6, Try.ntmps6
    go_upto_region 1 with fail
    simp only [← HH.out, ← HW.out]
    go_wp2_with fail
    refine (hkn.out _).mono ?_
    rintro e w1 ⟨rfl, f1⟩
    have F1 := hide (F0.out.trans' f1)
    clear f1
    go_wp2_with fail
    try go_ret
    exact hR.out _ _ ⟨rfl, F1.out⟩
  have h1' : ¬ (300 : Int) < n := by omega
  have h1q : (n : Int) ≤ 1099511627776 := by omega
  have HE := hide (menc_any F A n c m p lg N w0 (HR.out _ F0.out) HF.out h1q)
  have HCT := hide (fun (h : (encN m p lg N).1 = 0) => modes_cut h)
  have HEB := hide (encN_byte (m := m) (p := p) (lg := lg) (N := N))
  have HEL := hide (fun (h : (encN m p lg N).1 = 0) => encN_len m p lg N ⟨(encN_ok h).2.2.1, (encN_ok h).2.2.2.1⟩)
  have HDE := hide (fun (F' : Nat → Prop) g l W (hc : CurAt W F' g l 0) (hF : ∀ b, F' b → b ≠ g) => mdec_any F' F g l 0 none 0 0 m p 0 [] W hc hF (Rd.nil _ _ _) fit_nil (by omega))
  obtain ⟨E, hE⟩ : ∃ E, E = encN m p lg N := ⟨_, rfl⟩
  simp only [← hE] at HE HCT HEB HEL
  clear hE
  obtain ⟨E1, EB⟩ := E
  simp only at HE HCT HEB HEL
  clear h1
  go_enter Try.func6, Try.ntmps6
  go_upto_region 1 with fail
  simp only [← HH.out, ← HW.out]
  go_wp2_with fail
  refine HE.out.mono ?_
  rintro e w1 ⟨v, rfl, hnb⟩
  obtain ⟨Av, nv, cv, rfl, hnv⟩ := hnb.1.form'
  have hnv2 : nv = EB.length := by rw [hnv.out]; simp [bytes]
  obtain ⟨-, hcv, hrd2⟩ := hnb.1.rd rfl
  rw [← hnv.out] at hrd2 hcv
  have RD2 := hide hrd2
  have HNV := hide hnv2
  have f1 := hnb.2.1
  have F1 := hide (F0.out.trans' f1)
  clear hnb hnv hnv2 f1 HE BT hrd2
  by_cases hE : E1 = 0
  · subst hE
    have hel := HEL.out rfl
    rw [← HNV.out] at hel
    by_cases hz : nv = 0
    · have hzI : ((nv : Int) == 0) = true := by simp; omega
      go_wp2_with fail
      refine (hkn.out _).mono ?_
      rintro e w2 ⟨rfl, f2⟩
      have F2 := hide (F1.out.trans' f2)
      clear f2
      go_wp2_with fail
      try go_ret
      exact hR.out _ _ ⟨rfl, F2.out⟩
    · have hzI : ((nv : Int) == 0) = false := by simp; omega
      have helI : (nv : Int) ≤ 1000 := by omega
      have hnvI : 0 < (nv : Int) := by omega
      obtain ⟨k, hk, hkm⟩ := pick_mod24 at_ nv (by omega) (by omega)
      have hkc : k ≤ cv := by omega
      have hkl : (EB.take k).length = k := by rw [List.length_take, ← HNV.out]; omega
      have HNW := hide (new_any _ Av k cv (EB.take k) w1 (by have := RD2.out.take (k := k) (by omega); simpa [bytes, List.map_take] using this) (fun b hb => HEB.out b (List.mem_of_mem_take hb)) (by rw [hkl]; omega))
      have HC3 := hide (HCT.out rfl k (by rw [← HNV.out]; exact hk))
      clear HCT HEL hel hkl hcv RD2
      go_wp2_with fail
      refine HNW.out.mono ?_
      rintro e w2 ⟨g, rfl, hg, f2, cu2⟩
      have F2 := hide (F1.out.trans' f2)
      have hd := HDE.out _ g _ w2 cu2 (fun b hb => hb.2)
      rw [HC3.out] at hd
      have HDD := hide hd
      have hgw : w.heap.size ≤ g := by have := F1.out.size; have := F0.out.size; omega
      clear hd cu2 f2 HNW HDE hg
      go_wp2_with fail
      refine HDD.out.mono ?_
      rintro e w3 ⟨u3, -, A3, n3, c3, rfl, -⟩
      have F3 := hide (F2.out.trans u3 (fun b hb h => by omega))
      clear u3 HDD
      go_wp2_with fail
      refine (hkn.out _).mono ?_
      rintro e w4 ⟨rfl, f4⟩
      have F4 := hide ((F3.out.alloc _).trans' f4)
      clear f4
      go_wp2_with fail
      try go_ret
      exact hR.out _ _ ⟨rfl, F4.out⟩
  · have hEb : (E1 != 0) = true := by simpa using hE
    go_wp2_with fail
    refine (hkn.out _).mono ?_
    rintro e w2 ⟨rfl, f2⟩
    have F2 := hide (F1.out.trans' f2)
    clear f2
    go_wp2_with fail
    try go_ret
    exact hR.out _ _ ⟨rfl, F2.out⟩

end Go.Proofs.Ytcdbfddoanigbaa
