/-
  DescForms: the law's function answers true.
  Conditions: none beyond those of each theorem.
-/
import Derived.Test.YtbnicnindggimaaLaw
import Derived.Test.YtbnicnindggimaaRefBits
import Derived.Test.YtbnicnindggimaaRefBytes
import Derived.Test.YtbnicnindggimaaDescBytes
namespace Go.Proofs.Ytbnicnindggimaa
open Go.RowKit
set_option linter.unusedVariables false
set_option linter.unusedSimpArgs false

set_option maxRecDepth 100000 in
set_option maxHeartbeats 4000000 in
theorem forms_any (F : Nat → Prop) (A : Option Addr) (n c : Nat) (lg : Int) (N : List Int) (w : World) (hr : Rd w F A n (ints N)) (hfit : Fit N) :
    Calls Try.prog 9 #[.agg #[.int .i64 lg, .slice A n c]] w fun e w' => e = .returned (.bool true) ∧ Fresh w w' := by
  have hkn := hide known_any
  obtain ⟨w0, hw0⟩ : ∃ w0, w0 = w.alloc (.cells #[.int .i64 lg, .slice A n c] 24) := ⟨_, rfl⟩
  obtain ⟨H, hH⟩ : ∃ H, H = w.heap.size := ⟨_, rfl⟩
  have fr0 : Fresh w w0 := by rw [hw0]; exact (Upd.refl _ _).alloc _
  have b0 : Blk w0 H 24 #[.int .i64 lg, .slice A n c] := by rw [hw0]; exact blk_new hH _ _
  have B0 := hide b0
  have HR := hide (hr.fresh fr0)
  have HF := hide hfit
  have F0 := hide fr0
  have HW := hide hw0
  have HH := hide hH
  have c00 := b0.cell 0
  have c01 := b0.cell 1
  simp at c00 c01
  clear hr hfit fr0 hw0 hH b0
  refine veil fun R hR => ?_
  by_cases h1 : 600 < n
  · have h1' : (600 : Int) < n := by omega
    go_enter Try.func9, Try.ntmps9
    go_wp2_with fail
    rw [← HW.out]
    refine (hkn.out _).mono ?_
    rintro e w1 ⟨rfl, f1⟩
    have F1 := hide (F0.out.trans' f1)
    clear f1
    go_wp2_with fail
    try go_ret
    exact hR.out _ _ ⟨rfl, F1.out⟩
  have h1' : (n : Int) ≤ 600 := by omega
  by_cases hv : Has lg N
  · obtain ⟨p, hp⟩ : ∃ p : Nat, lg = p := ⟨lg.toNat, by have := hv.1.1; omega⟩
    subst hp
    have hpz : p ≠ 0 := by have := hv.2; omega
    have hmay := fun W (h : Fresh w0 W) => may11_any F A n c p N W (HR.out.fresh h) HF.out (by omega)
    simp only [decide_eq_true hv] at hmay
    have hen := encode_ok F A n c p N w0 HR.out HF.out (by omega) hv.1 hpz
    have hbl := fun W (h : Fresh w0 W) => bitlen_ok F A n c p N W (HR.out.fresh h) HF.out (by omega) hv.1 hpz
    have hbi := fun W (h : Fresh w0 W) => rbits11_any F A n c p N W (HR.out.fresh h) hv.1 hpz
    have hl := descBits_length p N (by have := hv.1.2.1; omega)
    have h256 := hv.1.2.2.2.2.1
    obtain ⟨D, hD⟩ : ∃ D, D = descBits p N := ⟨_, rfl⟩
    simp only [← hD] at hen hbl hbi hl
    have hDl : D.length ≤ 4000 := by omega
    have HE := hide hen
    have HM := hide hmay
    have HBL := hide hbl
    have HBI := hide hbi
    have HDL := hide hDl
    clear hmay hen hbl hbi hl h256 hD hDl hv hpz
    go_enter Try.func9, Try.ntmps9
    go_wp2_with fail
    simp only [← HH.out, ← HW.out]
    go_wp2_with fail
    refine HE.out.mono ?_
    rintro e w1 ⟨v1, rfl, o1, f1, k1⟩
    obtain ⟨A1, n1, c1, rfl, hn1⟩ := o1.form'
    have hrd1 := (o1.rd rfl).2.2
    rw [← hn1.out] at hrd1
    have RD1 := hide hrd1
    have F1 := hide f1
    have b1 := B0.out.fresh f1
    have d0 := b1.cell 0
    have d1 := b1.cell 1
    simp at d0 d1
    clear o1 f1 k1 hn1 hrd1 b1 c00 c01 HE
    go_wp2_with fail
    refine (HM.out _ F1.out).mono ?_
    rintro e w2 ⟨rfl, f2⟩
    have F12 := hide f2
    have F2 := hide (F1.out.trans' f2)
    have b2 := B0.out.fresh F2.out
    have e0 := b2.cell 0
    have e1 := b2.cell 1
    simp at e0 e1
    clear f2 d0 d1 b2
    go_wp2_with fail
    refine (HBI.out _ F2.out).mono ?_
    rintro e w3 ⟨s3, rfl, o3, f3, k3⟩
    obtain ⟨A3, n3, c3, rfl, hn3⟩ := o3.form'
    have hn3' : n3 = D.length := by have := hn3.out; simpa using this
    have hrd3 := (o3.rd rfl).2.2
    rw [← hn3.out] at hrd3
    have RD3 := hide hrd3
    have HN3 := hide hn3'
    have F13 := hide (F12.out.trans' f3)
    have F3 := hide (F2.out.trans' f3)
    have hby := rbytes_any _ A3 n3 c3 D w3 hrd3 (by have := HDL.out; omega)
    have HBY := hide hby
    clear o3 f3 k3 hn3 hrd3 e0 e1 hby hn3'
    go_wp2_with fail
    refine HBY.out.mono ?_
    rintro e w4 ⟨v4, rfl, o4, f4, k4⟩
    obtain ⟨A4, n4, c4, rfl, hn4⟩ := o4.form'
    have hrd4 := (o4.rd rfl).2.2
    rw [← hn4.out] at hrd4
    have F4 := hide (F3.out.trans' f4)
    have hsm := same_any _ _ A1 A4 n1 n4 c1 c4 (packB D) (packB D) w4 (RD1.out.fresh (F13.out.trans' f4)) hrd4 (packB_lt256 _) (packB_lt256 _)
    rw [decide_eq_true rfl] at hsm
    have HSM := hide hsm
    have b4 := B0.out.fresh F4.out
    have g0 := b4.cell 0
    have g1 := b4.cell 1
    simp at g0 g1
    clear o4 f4 k4 hn4 hrd4 hsm b4 HBY
    go_wp2_with fail
    refine HSM.out.mono ?_
    rintro e w5 ⟨rfl, rfl⟩
    go_wp2_with fail
    refine (HBL.out _ F4.out).mono ?_
    rintro e w5 ⟨rfl, f5⟩
    have F5 := hide (F4.out.trans' f5)
    have hn3' : (D.length : Int) = n3 := by have := HN3.out; omega
    clear f5 g0 g1
    go_wp2_with fail
    refine (hkn.out _).mono ?_
    rintro e w6 ⟨rfl, f6⟩
    have F6 := hide ((F0.out.trans' F5.out).trans' f6)
    clear f6
    go_wp2_with fail
    try go_ret
    exact hR.out _ _ ⟨rfl, F6.out⟩
  · have hmay := fun W (h : Fresh w0 W) => may11_any F A n c lg N W (HR.out.fresh h) HF.out (by omega)
    simp only [decide_eq_false hv] at hmay
    have hen := encode_bad F A n c lg N w0 HR.out HF.out (by omega) hv
    have hbl := fun W (h : Fresh w0 W) => bitlen_bad F A n c lg N W (HR.out.fresh h) HF.out (by omega) hv
    have HE := hide hen
    have HM := hide hmay
    have HBL := hide hbl
    clear hmay hen hbl hv
    go_enter Try.func9, Try.ntmps9
    go_wp2_with fail
    simp only [← HH.out, ← HW.out]
    go_wp2_with fail
    refine HE.out.mono ?_
    rintro e w1 ⟨rfl, f1⟩
    have F1 := hide f1
    have b1 := B0.out.fresh f1
    have d0 := b1.cell 0
    have d1 := b1.cell 1
    simp at d0 d1
    clear f1 b1 c00 c01 HE
    go_wp2_with fail
    refine (HM.out _ F1.out).mono ?_
    rintro e w2 ⟨rfl, f2⟩
    have F2 := hide (F1.out.trans' f2)
    have b2 := B0.out.fresh F2.out
    have e0 := b2.cell 0
    have e1 := b2.cell 1
    simp at e0 e1
    clear f2 d0 d1 b2
    go_wp2_with fail
    refine (HBL.out _ F2.out).mono ?_
    rintro e w3 ⟨rfl, f3⟩
    have F3 := hide (F2.out.trans' f3)
    clear f3 e0 e1
    go_wp2_with fail
    refine (hkn.out _).mono ?_
    rintro e w4 ⟨rfl, f4⟩
    have F4 := hide ((F0.out.trans' F3.out).trans' f4)
    clear f4
    go_wp2_with fail
    try go_ret
    exact hR.out _ _ ⟨rfl, F4.out⟩

end Go.Proofs.Ytbnicnindggimaa
