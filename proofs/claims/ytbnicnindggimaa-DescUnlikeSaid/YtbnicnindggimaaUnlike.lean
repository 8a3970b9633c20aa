/-
  DescUnlike: the law's function answers true.
  Conditions: none beyond those of each theorem.
-/
import Derived.Test.YtbnicnindggimaaLaw
import Derived.Test.YtbnicnindggimaaRef11
import Derived.Test.YtbnicnindggimaaSame07
import Derived.Test.YtbnicnindggimaaDescLaw
namespace Go.Proofs.Ytbnicnindggimaa
open Go.RowKit

set_option maxRecDepth 100000 in
set_option maxHeartbeats 4000000 in
theorem unlike_any (F G : Nat → Prop) (A B : Option Addr) (n m c d : Nat) (lg lh : Int) (N M : List Int) (w : World) (hr : Rd w F A n (ints N)) (hs : Rd w G B m (ints M)) (hfit : Fit N) (hfit2 : Fit M) :
    Calls Try.prog 4 #[.agg #[.int .i64 lg, .slice A n c], .agg #[.int .i64 lh, .slice B m d]] w fun e w' => e = .returned (.bool true) ∧ Fresh w w' := by
  have hkn := hide known_any
  have fr0 : Fresh w ((w.alloc (.cells #[.int .i64 lg, .slice A n c] 24)).alloc (.cells #[.int .i64 lh, .slice B m d] 24)) := ((Upd.refl _ _).alloc _).alloc _
  have FR := hide fr0
  clear fr0
  have HR := hide hr
  have HS := hide hs
  have HF := hide hfit
  have HG := hide hfit2
  clear hr hs hfit hfit2
  refine veil fun R hR => ?_
  by_cases h1 : 300 < n
  · have h1' : (300 : Int) < n := by omega
    go_enter Try.func4, Try.ntmps4
    go_wp2_with fail
    refine (hkn.out _).mono ?_
    rintro e w1 ⟨rfl, f1⟩
    have F1 := hide (FR.out.trans' f1)
    clear f1
    go_wp2_with fail
    try go_ret
    exact hR.out _ _ ⟨rfl, F1.out⟩
  have h1' : (n : Int) ≤ 300 := by omega
  by_cases h2 : 300 < m
  · have h2' : (300 : Int) < m := by omega
    go_enter Try.func4, Try.ntmps4
    go_wp2_with fail
    refine (hkn.out _).mono ?_
    rintro e w1 ⟨rfl, f1⟩
    have F1 := hide (FR.out.trans' f1)
    clear f1
    go_wp2_with fail
    try go_ret
    exact hR.out _ _ ⟨rfl, F1.out⟩
  have h2' : (m : Int) ≤ 300 := by omega
  obtain ⟨w0, hw0⟩ : ∃ w0, w0 = (w.alloc (.cells #[.int .i64 lg, .slice A n c] 24)).alloc (.cells #[.int .i64 lh, .slice B m d] 24) := ⟨_, rfl⟩
  have bA : Blk w0 w.heap.size 24 #[.int .i64 lg, .slice A n c] := by rw [hw0]; exact (Blk.new _ _ _).alloc _
  have bB : Blk w0 (w.heap.size + 1) 24 #[.int .i64 lh, .slice B m d] := by rw [hw0]; exact blk_new (by simp) _ _
  have hfr1 : Fresh w w0 := by rw [hw0]; exact FR.out
  have hm1 := may11_any F A n c lg N w0 (HR.out.fresh hfr1) HF.out (by omega)
  have BA := hide bA
  have BB := hide bB
  have F0 := hide hfr1
  have HW := hide hw0
  clear bA bB hfr1 hw0 FR
  by_cases hv : Has lg N
  · rw [decide_eq_true hv] at hm1
    have HM1 := hide hm1
    clear hm1
    have HV := hide hv
    clear hv
    go_enter Try.func4, Try.ntmps4
    go_wp2_with fail
    rw [← HW.out]
    refine HM1.out.mono ?_
    rintro e w1 ⟨rfl, f1⟩
    have F1 := hide (F0.out.trans' f1)
    have bA1 := BA.out.fresh f1
    have bB1 := BB.out.fresh f1
    have BA1 := hide bA1
    have BB1 := hide bB1
    have cA0 := bA1.cell 0
    have cA1 := bA1.cell 1
    have cB0 := bB1.cell 0
    have cB1 := bB1.cell 1
    simp at cA0 cA1 cB0 cB1
    clear bA1 bB1 f1 HM1
    have hm2 := may11_any G B m d lh M w1 (HS.out.fresh F1.out) HG.out (by omega)
    by_cases hv2 : Has lh M
    · rw [decide_eq_true hv2] at hm2
      have HM2 := hide hm2
      have HV2 := hide hv2
      clear hm2 hv2
      go_wp2_with fail
      refine HM2.out.mono ?_
      rintro e w2 ⟨rfl, f2⟩
      have F2 := hide (F1.out.trans' f2)
      have bA2 := BA1.out.fresh f2
      have bB2 := BB1.out.fresh f2
      have BA2 := hide bA2
      have BB2 := hide bB2
      have dA0 := bA2.cell 0
      have dA1 := bA2.cell 1
      have dB0 := bB2.cell 0
      have dB1 := bB2.cell 1
      simp at dA0 dA1 dB0 dB1
      clear bA2 bB2 f2 HM2 cA0 cA1 cB0 cB1
      obtain ⟨p, hp⟩ : ∃ p : Nat, lg = p := ⟨lg.toNat, by have := HV.out.1.1; omega⟩
      subst hp
      obtain ⟨q, hq⟩ : ∃ q : Nat, lh = q := ⟨lh.toNat, by have := HV2.out.1.1; omega⟩
      subst hq
      have hpz : p ≠ 0 := by have := HV.out.2; omega
      have hqz : q ≠ 0 := by have := HV2.out.2; omega
      have he1 := encode_ok F A n c p N w2 (HR.out.fresh F2.out) HF.out (by omega) HV.out.1 hpz
      have HE1 := hide he1
      have HPZ := hide hpz
      have HQZ := hide hqz
      clear he1 hpz hqz
      go_wp2_with fail
      refine HE1.out.mono ?_
      rintro e w3 ⟨v3, rfl, o3, f3, k3⟩
      obtain ⟨A3, n3, c3, rfl, hn3⟩ := o3.form'
      have F3 := hide (F2.out.trans' f3)
      have bA3 := BA2.out.fresh f3
      have bB3 := BB2.out.fresh f3
      have BA3 := hide bA3
      have BB3 := hide bB3
      have eA0 := bA3.cell 0
      have eA1 := bA3.cell 1
      have eB0 := bB3.cell 0
      have eB1 := bB3.cell 1
      simp at eA0 eA1 eB0 eB1
      have O3 := hide o3
      clear bA3 bB3 f3 HE1 dA0 dA1 dB0 dB1 o3
      have he2 := encode_ok G B m d q M w3 (HS.out.fresh F3.out) HG.out (by omega) HV2.out.1 HQZ.out
      have HE2 := hide he2
      clear he2
      go_wp2_with fail
      refine HE2.out.mono ?_
      rintro e w4 ⟨v4, rfl, o4, f4, k4⟩
      obtain ⟨A4, n4, c4, rfl, hn4⟩ := o4.form'
      have F4 := hide (F3.out.trans' f4)
      have bA4 := BA3.out.fresh f4
      have bB4 := BB3.out.fresh f4
      have BA4 := hide bA4
      have BB4 := hide bB4
      have gA0 := bA4.cell 0
      have gA1 := bA4.cell 1
      have gB0 := bB4.cell 0
      have gB1 := bB4.cell 1
      simp at gA0 gA1 gB0 gB1
      have r3 := ((O3.out.fresh f4).rd rfl).2.2
      have r4 := (o4.rd rfl).2.2
      rw [← hn3.out] at r3
      rw [← hn4.out] at r4
      clear bA4 bB4 f4 HE2 eA0 eA1 eB0 eB1
      have hsm := fun W (h : Fresh w4 W) => same_any _ _ A3 A4 n3 n4 c3 c4 _ _ W (r3.fresh h) (r4.fresh h) (packB_lt256 _) (packB_lt256 _)
      have hs7 := fun W (h : Fresh w4 W) => (same07_any F G A B n m c d p q N M W (HR.out.fresh (F4.out.trans' h)) (HS.out.fresh (F4.out.trans' h)) (by omega) (by omega)).mono fun e w' x => (⟨x.1, h.trans' x.2⟩ : e = _ ∧ Fresh w4 w')
      have heq : decide (packB (descBits p N) = packB (descBits q M)) = decide ((p : Int) = q ∧ N = M) := by
        rw [decide_eq_decide]
        constructor
        · intro h
          obtain ⟨h1, h2⟩ := desc_inj HV.out.1 HPZ.out HV2.out.1 HQZ.out h
          exact ⟨by omega, h2⟩
        · rintro ⟨h1, rfl⟩
          rw [show p = q by omega]
      simp only [heq] at hsm
      clear heq
      obtain ⟨bb, hbb⟩ : ∃ bb, bb = decide ((p : Int) = q ∧ N = M) := ⟨_, rfl⟩
      simp only [← hbb] at hsm hs7
      have HSM := hide hsm
      have HS7 := hide hs7
      have hS4 : ∀ W, Fresh w4 W → (Fresh w4 W ∧ W.cell? ⟨w.heap.size, 0, none⟩ = some (.int .i64 p) ∧ W.cell? ⟨w.heap.size, 1, none⟩ = some (.slice A n c) ∧ W.cell? ⟨w.heap.size + 1, 0, none⟩ = some (.int .i64 q) ∧ W.cell? ⟨w.heap.size + 1, 1, none⟩ = some (.slice B m d)) := by
        intro W hW
        have b1 := BA4.out.fresh hW
        have b2 := BB4.out.fresh hW
        exact ⟨hW, by simpa using b1.cell 0, by simpa using b1.cell 1, by simpa using b2.cell 0, by simpa using b2.cell 1⟩
      have HSS := hide hS4
      clear hsm hs7 hbb hn3 hn4 o4 k3 k4 hS4 r3 r4
      go_wp2_with fail
      go_region_held3 (fun W => Fresh w4 W ∧ W.cell? ⟨w.heap.size, 0, none⟩ = some (.int .i64 p) ∧ W.cell? ⟨w.heap.size, 1, none⟩ = some (.slice A n c) ∧ W.cell? ⟨w.heap.size + 1, 0, none⟩ = some (.int .i64 q) ∧ W.cell? ⟨w.heap.size + 1, 1, none⟩ = some (.slice B m d))
        (first | exact HSS.out _ (by assumption) | exact HSS.out _ (And.left (by assumption)) | exact HSS.out _ (Upd.refl _ _) | exact HSS.out _ (Upd.refl _ _).drew)
        (first
          | (go_at_call 16; refine (HSM.out _ ?_).mono ?_; exact And.left (by assumption); rintro e w' ⟨rfl, rfl⟩)
          | (go_at_call 17; refine (HS7.out _ ?_).mono ?_; exact And.left (by assumption); rintro e w' ⟨rfl, f1x⟩)
          | (go_at_call 13; refine (hkn.out _).mono ?_; rintro e w' ⟨rfl, f2x⟩; have f3x : Fresh w4 w' := Upd.trans' (And.left (by assumption)) f2x))
      all_goals go_wp2_with fail
      all_goals try go_ret
      all_goals exact hR.out _ _ ⟨rfl, F4.out.trans' (And.left (by assumption))⟩
    · rw [decide_eq_false hv2] at hm2
      have HM2 := hide hm2
      clear hm2 hv2
      go_wp2_with fail
      refine HM2.out.mono ?_
      rintro e w2 ⟨rfl, f2⟩
      have F2 := hide (F1.out.trans' f2)
      clear f2
      go_wp2_with fail
      refine (hkn.out _).mono ?_
      rintro e w3 ⟨rfl, f3⟩
      have F3 := hide (F2.out.trans' f3)
      clear f3
      go_wp2_with fail
      try go_ret
      exact hR.out _ _ ⟨rfl, F3.out⟩
  · rw [decide_eq_false hv] at hm1
    have HM1 := hide hm1
    clear hm1 hv
    go_enter Try.func4, Try.ntmps4
    go_wp2_with fail
    rw [← HW.out]
    refine HM1.out.mono ?_
    rintro e w1 ⟨rfl, f1⟩
    have F1 := hide (F0.out.trans' f1)
    clear f1
    go_wp2_with fail
    refine (hkn.out _).mono ?_
    rintro e w2 ⟨rfl, f2⟩
    have F2 := hide (F1.out.trans' f2)
    clear f2
    go_wp2_with fail
    try go_ret
    exact hR.out _ _ ⟨rfl, F2.out⟩

end Go.Proofs.Ytbnicnindggimaa
