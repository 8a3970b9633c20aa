/-
  ModesFits: the law's function answers true.
  Conditions: none beyond those of each theorem.
-/
import Derived.Test.YtcdbfddoanigbaaModesNil
import Derived.Test.YtcdbfddoanigbaaJ20
import Derived.Test.YtcdbfddoanigbaaJ15
import Derived.Test.YtcdbfddoanigbaaJ16
import Derived.Test.YtcdbfddoanigbaaModesPrice
import Derived.Test.YtcdbfddoanigbaaModesOnce
namespace Go.Proofs.Ytcdbfddoanigbaa
open Go.RowKit
set_option linter.unusedVariables false
set_option linter.unusedSimpArgs false

theorem cheapP_le : ∀ (l : List ((Int × Int × List Int) × Int)) (c s : (Int × Int × List Int) × Int), s ∈ c :: l → (cheapP c l).2 ≤ s.2
  | [], c, s, h => by simp at h; subst h; simp [cheapP]
  | t :: l, c, s, h => by
    rw [cheapP]
    have h1 : ∀ s, s ∈ (if t.2 < c.2 then t else c) :: l → _ := cheapP_le l (if t.2 < c.2 then t else c)
    have h0 := h1 (if t.2 < c.2 then t else c) (by simp)
    have hc : (if t.2 < c.2 then t else c).2 ≤ c.2 ∧ (if t.2 < c.2 then t else c).2 ≤ t.2 := by split <;> omega
    rcases List.mem_cons.1 h with rfl | h
    · omega
    · rcases List.mem_cons.1 h with rfl | h
      · omega
      · exact h1 s (List.mem_cons_of_mem _ h)

/-- what is known of what Choose answers without an error -/
theorem chooseN_fits {p lg : Int} {N C : List Int} {r1 r2 : Int} {r3 : List Int} (hp : 0 ≤ p ∧ p ≤ 2) (h : chooseN p lg N C = (r1, r2, r3, 0)) :
    (encN r1 p r2 r3).1 = 0 ∧ (costN r2 r3 C).2 = 0 ∧ (r1, r2, r3) ∈ candsN p (partX p) lg N C ∧
    ∀ c x, c ∈ candsN p (partX p) lg N C → priceN p C c = some x → (costN r2 r3 C).1 + 8 * (encN r1 p r2 r3).2.length ≤ x := by
  have h0 : chooseN p lg N C = match mayN p C (candsN p (partX p) lg N C) with | [] => (0, 0, [], 2) | c :: l => ((cheapP c l).1.1, (cheapP c l).1.2.1, (cheapP c l).1.2.2, 0) := by
    unfold chooseN
    rw [if_neg (by omega)]
    try rfl
  rw [h0] at h
  cases hm : mayN p C (candsN p (partX p) lg N C) with
  | nil => rw [hm] at h; simp at h
  | cons c l =>
    rw [hm] at h
    simp only [Prod.mk.injEq, and_true] at h
    obtain ⟨e1, e2, e3⟩ := h
    have hb := cheapP_mem l c
    have hle := cheapP_le l c
    rw [← hm] at hb hle
    obtain ⟨m1, m2⟩ := mayN_mem hb
    have hc : (cheapP c l).1 = (r1, r2, r3) := by rw [← e1, ← e2, ← e3]
    rw [hc] at m1 m2
    unfold priceN at m2
    simp only at m2
    split at m2
    · rename_i hok
      injection m2 with m2
      refine ⟨hok.1, hok.2, m1, fun c' x hc' hx => ?_⟩
      have : (c', x) ∈ mayN p C (candsN p (partX p) lg N C) := by
        unfold mayN
        exact List.mem_filterMap.2 ⟨c', hc', by rw [hx]; rfl⟩
      have := hle _ this
      simp only at this
      omega
    · cases m2

theorem cost_cover {lg : Int} {N : List Int} : ∀ (l : List Int) (i : Nat) (a r : Int), costGo lg N i l a = some r → ∀ (j : Nat) c, l[j]? = some c → c ≠ 0 → ∃ v, N[i + j]? = some v ∧ v ≠ 0
  | [], i, a, r, _, j, c, hj, _ => by simp at hj
  | x :: l, i, a, r, h, j, c, hj, hc => by
    rw [costGo] at h
    cases j with
    | zero =>
      have hx : x = c := by simpa using hj
      subst hx
      rw [if_neg hc] at h
      rcases hN : N[i]? with _ | v
      · rw [hN] at h; cases h
      · rw [hN] at h
        simp only at h
        by_cases hv : v = 0
        · rw [if_pos hv] at h; cases h
        · exact ⟨v, by first | rfl | exact hN, hv⟩
    | succ j =>
      have hj' : l[j]? = some c := by simpa using hj
      have key : ∃ a', costGo lg N (i + 1) l a' = some r := by
        split at h
        · exact ⟨_, h⟩
        · split at h
          · cases h
          · split at h
            · cases h
            · exact ⟨_, h⟩
      obtain ⟨a', ha'⟩ := key
      have := cost_cover l (i + 1) a' r ha' j c hj' hc
      rwa [show i + (j + 1) = i + 1 + j by omega]
theorem cover_cost {lg : Int} {N : List Int} : ∀ (l : List Int) (i : Nat) (a : Int), (∀ (j : Nat) c, l[j]? = some c → c ≠ 0 → ∃ v, N[i + j]? = some v ∧ v ≠ 0) → ∃ r, costGo lg N i l a = some r
  | [], i, a, _ => ⟨a, rfl⟩
  | x :: l, i, a, h => by
    rw [costGo]
    have h' : ∀ (j : Nat) c, l[j]? = some c → c ≠ 0 → ∃ v, N[i + 1 + j]? = some v ∧ v ≠ 0 := fun j c hj hc => by
      have := h (j + 1) c (by simpa using hj) hc
      rwa [show i + (j + 1) = i + 1 + j by omega] at this
    by_cases hx : x = 0
    · rw [if_pos hx]; exact cover_cost l (i + 1) a h'
    · rw [if_neg hx]
      obtain ⟨v, hv, hv0⟩ := h 0 x rfl hx
      rw [Nat.add_zero] at hv
      rw [hv]
      simp only
      rw [if_neg hv0]
      exact cover_cost l (i + 1) _ h'
theorem llN_nz : ∀ v ∈ llN, v ≠ 0 := by decide
theorem ofN_nz : ∀ v ∈ ofN, v ≠ 0 := by decide
theorem mlN_nz : ∀ v ∈ mlN, v ≠ 0 := by decide
theorem partN_nz (p : Int) : ∀ v ∈ partN p, v ≠ 0 := by
  intro v hv
  unfold partN at hv
  split at hv
  · exact llN_nz v hv
  · split at hv
    · exact ofN_nz v hv
    · exact mlN_nz v hv
theorem partN_len {p : Int} (h : 0 ≤ p ∧ p ≤ 2) : ((partN p).length : Int) = partS p := by
  rcases part_cases h with rfl | rfl | rfl <;> decide +kernel
theorem costN_own {p r2 : Int} {r3 C : List Int} (hp : 0 ≤ p ∧ p ≤ 2) (hv : Valid r2 r3 (partS p) (partX p)) (h : (costN r2 r3 C).2 = 0) : (costN (partL p) (partN p) C).2 = 0 := by
  unfold costN at h ⊢
  split at h
  · rename_i hq
    rw [if_pos ⟨valid_wide (part_valid hp), hq.2⟩]
    rcases hg : costGo r2 r3 0 C 0 with _ | a
    · rw [hg] at h; simp at h
    · have hc := cost_cover C 0 0 a hg
      obtain ⟨r, hr⟩ := cover_cost (lg := partL p) (N := partN p) C 0 0 (fun j c hj hc' => by
        obtain ⟨v, hv1, _⟩ := hc j c hj hc'
        have hl := (List.getElem?_eq_some_iff.1 hv1).1
        have h1 := hv.2.2.2.2.1
        have h2 := partN_len hp
        have hl2 : 0 + j < (partN p).length := by omega
        exact ⟨_, List.getElem?_eq_getElem hl2, partN_nz p _ (List.getElem_mem hl2)⟩)
      rw [hr]
  · simp at h
theorem encN_own {p : Int} (hp : 0 ≤ p ∧ p ≤ 2) : encN 0 p (partL p) (partN p) = (0, []) := by
  unfold encN
  rw [if_neg (by omega), if_pos (part_valid hp)]
  simp [encM]
theorem encN_last {p lg : Int} {N : List Int} (hp : 0 ≤ p ∧ p ≤ 2) (hv : Valid lg N (partS p) (partX p)) : encN 3 p lg N = (0, []) := by
  unfold encN
  rw [if_neg (by omega), if_pos hv]
  simp [encM]
theorem cands_last {p x lg : Int} {N C : List Int} {r2 : Int} {r3 : List Int} (h : ((3 : Int), r2, r3) ∈ candsN p x lg N C) : r2 = lg ∧ r3 = N := by
  unfold candsN at h
  rcases List.mem_cons.1 h with h | h
  · simp only [Prod.mk.injEq, true_and] at h; exact h
  · rcases List.mem_cons.1 h with h | h
    · simp at h
    · split at h
      · rw [List.mem_singleton] at h
        simp only [Prod.mk.injEq] at h
        have := h.1
        split at this <;> omega
      · cases h

set_option maxRecDepth 100000 in
set_option maxHeartbeats 8000000 in
theorem fits24_any (F G : Nat → Prop) (A B : Option Addr) (n c k d : Nat) (p lg : Int) (N C : List Int) (w : World) (hr : Rd w F A n (ints N)) (hfit : Fit N) (hs : Rd w G B k (ints C)) (hfitC : Fit C) :
    Calls Try.prog 5 #[.slice B k d, .int .i64 p, .agg #[.int .i64 lg, .slice A n c]] w fun e w' => e = .returned (.bool true) ∧ Fresh w w' := by
  have hkn := hide known24_any
  have hk : C.length = k := by have := hs.1; simpa using this
  have hN : N.length = n := by have := hr.1; simpa using this
  obtain ⟨w0, hw0⟩ : ∃ w0, w0 = w.alloc (.cells #[.int .i64 lg, .slice A n c] 26) := ⟨_, rfl⟩
  obtain ⟨H, hH⟩ : ∃ H, H = w.heap.size := ⟨_, rfl⟩
  have f0 : Fresh w w0 := by rw [hw0]; exact (Upd.refl _ _).alloc _
  have bt : Blk w0 H 26 #[.int .i64 lg, .slice A n c] := by rw [hw0]; exact blk_new hH _ _
  have t0 := bt.cell 0
  have t1 := bt.cell 1
  simp at t0 t1
  have HR := hide (fun W (h : Fresh w W) => hr.fresh h)
  have HS := hide (fun W (h : Fresh w W) => hs.fresh h)
  have HF := hide hfit
  have HFC := hide hfitC
  have HM := hide hk
  have HN := hide hN
  have BT := hide bt
  have F0 := hide f0
  have HW := hide hw0
  have HH := hide hH
  clear hr hs hfit hfitC f0 hw0 hH bt hk hN
  refine veil fun R hR => ?_
  by_cases h2 : 100 < k
  · have h2' : (100 : Int) < k := by omega
    go_enter Try.func5, Try.ntmps5
    go_upto_region 1 with fail
    simp only [← HH.out, ← HW.out]
    go_wp2_with fail
    refine (hkn.out _).mono ?_
    rintro e w1 ⟨rfl, f1⟩
    have F1 := hide (F0.out.trans' f1)
    clear f1
    go_wp2_with fail
    try go_ret
    exact hR.out _ _ ⟨rfl, F1.out⟩
  have h2' : ¬ (100 : Int) < k := by omega
  by_cases h1 : 100 < n
  · have h1' : (100 : Int) < n := by omega
    go_enter Try.func5, Try.ntmps5
    go_upto_region 1 with fail
    simp only [← HH.out, ← HW.out]
    go_wp2_with fail
    refine (hkn.out _).mono ?_
    rintro e w1 ⟨rfl, f1⟩
    have F1 := hide (F0.out.trans' f1)
    clear f1
    go_wp2_with fail
    try go_ret
    exact hR.out _ _ ⟨rfl, F1.out⟩
  have h1' : ¬ (100 : Int) < n := by omega
  by_cases hp0 : p < 0
  · go_enter Try.func5, Try.ntmps5
    go_upto_region 1 with fail
    simp only [← HH.out, ← HW.out]
    go_wp2_with fail
    refine (hkn.out _).mono ?_
    rintro e w1 ⟨rfl, f1⟩
    have F1 := hide (F0.out.trans' f1)
    clear f1
    go_wp2_with fail
    try go_ret
    exact hR.out _ _ ⟨rfl, F1.out⟩
  by_cases hp2 : 2 < p
  · go_enter Try.func5, Try.ntmps5
    go_upto_region 1 with fail
    simp only [← HH.out, ← HW.out]
    go_wp2_with fail
    refine (hkn.out _).mono ?_
    rintro e w1 ⟨rfl, f1⟩
    have F1 := hide (F0.out.trans' f1)
    clear f1
    go_wp2_with fail
    try go_ret
    exact hR.out _ _ ⟨rfl, F1.out⟩
  have hp : 0 ≤ p ∧ p ≤ 2 := by omega
  have HCH := hide (choose_any G F B A k d n c p lg N C w0 (HR.out _ F0.out) HF.out (by omega) (HS.out _ F0.out) HFC.out (by omega))
  have HFI := hide (fun r1 r2 r3 (h : chooseN p lg N C = (r1, r2, r3, 0)) => chooseN_fits hp h)
  have HEN := hide (fun G' W A' n' c' mo l M (h : Rd W G' A' n' (ints M)) (hf : Fit M) (hn' : (n' : Int) ≤ 1099511627776) => menc_any G' A' n' c' mo p l M W h hf hn')
  have HCO := hide (fun W (h : Fresh w W) G' A' n' c' l M (hr' : Rd W G' A' n' (ints M)) (hf : Fit M) (hn' : (n' : Int) ≤ 1099511627776) => cost_any G G' B A' k d n' c' l M C W hr' hf hn' (HS.out W h) HFC.out (by omega))
  clear h1 h2
  go_enter Try.func5, Try.ntmps5
  go_upto_region 1 with fail
  simp only [← HH.out, ← HW.out]
  go_wp2_with fail
  refine HCH.out.mono ?_
  obtain ⟨r, hr⟩ : ∃ r, r = chooseN p lg N C := ⟨_, rfl⟩
  rw [← hr]
  have HRQ := hide hr.symm
  clear hr HCH
  obtain ⟨r1, r2, r3, r4⟩ := r
  rintro e w1 ⟨A1, n1, c1, rfl, hn1, ru1, f1⟩
  simp only at hn1 ru1
  obtain ⟨K1, hK1⟩ : ∃ K1, K1 = w1.heap.size := ⟨_, rfl⟩
  obtain ⟨w2, hw2⟩ : ∃ w2, w2 = w1.alloc (.cells #[.int .i64 r2, .slice A1 n1 c1] 26) := ⟨_, rfl⟩
  have f12 : Fresh w1 w2 := by rw [hw2]; exact (Upd.refl _ _).alloc _
  have T2 := hide (show Blk w2 K1 26 #[.int .i64 r2, .slice A1 n1 c1] by rw [hw2]; exact blk_new hK1 _ _)
  have RU2 := hide (ru1.1.fresh f12)
  have F2 := hide (F0.out.trans' (f1.trans' f12))
  have B2 := hide (BT.out.fresh (f1.trans' f12))
  have s0 := T2.out.cell 0
  have s1 := T2.out.cell 1
  simp at s0 s1
  have HN1 := hide hn1
  have HW2 := hide hw2
  have HK1 := hide hK1
  clear hn1 ru1 f1 hw2 hK1 f12
  by_cases hr4 : r4 = 0
  · subst hr4
    obtain ⟨q1, q2, q3, q4⟩ := HFI.out r1 r2 r3 HRQ.out
    have hok := encN_ok q1
    have hv := hok.2.2.2.2.1
    have hfr := fit_valid24 hv
    have hn1b : (n1 : Int) ≤ 1000 := by have := (valid_wide hv).2.2.2.2.1; rw [HN1.out]; omega
    have hel := encN_len r1 p r2 r3 hp
    have hct := costN_ct q2
    have hcr := costN_range (lg := r2) (N := r3) hct hfr
    have hown := costN_own hp hv q2
    have hle1 := q4 (0, partL p, partN p) _ (by unfold candsN; simp) (by unfold priceN; rw [if_pos ⟨by rw [encN_own hp], hown⟩])
    rw [encN_own hp] at hle1
    have hle3 : (costN lg N C).2 = 0 → Valid lg N (partS p) (partX p) → (costN r2 r3 C).1 + 8 * (encN r1 p r2 r3).2.length ≤ (costN lg N C).1 := fun hc0 hv0 => by
      have := q4 (3, lg, N) _ (by unfold candsN; simp) (by unfold priceN; rw [if_pos ⟨by rw [encN_last hp hv0], hc0⟩])
      rw [encN_last hp hv0] at this
      simpa using this
    have hlast : r1 = 3 → r2 = lg ∧ r3 = N := fun h => by subst h; exact cands_last q3
    simp only [List.length_nil] at hle1
    have HE := hide (HEN.out _ w2 A1 n1 c1 r1 r2 r3 RU2.out hfr (by omega))
    have HC1 := hide (fun W (h : Fresh w2 W) => HCO.out W (F2.out.trans' h) _ A1 n1 c1 r2 r3 (RU2.out.fresh h) hfr (by omega))
    have HMY := hide (fun W (h : Fresh w2 W) => rmay_any _ A1 n1 c1 r2 p r3 W (RU2.out.fresh h) hfr (by omega) hp)
    have HEQ := hide (fun W (h : Fresh w2 W) => nequal_any _ F A1 A n1 n c1 c r2 lg r3 N W (RU2.out.fresh h) (HR.out W (F2.out.trans' h)) (by omega) (by omega))
    have HML := hide (fun W (h : Fresh w2 W) => rmay_any F A n c lg p N W (HR.out W (F2.out.trans' h)) HF.out (by omega) hp)
    have HCL := hide (fun W (h : Fresh w2 W) => HCO.out W (F2.out.trans' h) F A n c lg N (HR.out W (F2.out.trans' h)) HF.out (by omega))
    have HCW := hide (fun W (h : Fresh w2 W) G' A' n' c' (hr' : Rd W G' A' n' (ints (partN p))) (hn' : (n' : Int) ≤ 1099511627776) => HCO.out W (F2.out.trans' h) G' A' n' c' (partL p) (partN p) hr' (partN_fit p) hn')
    have hE2 : (encN r1 p r2 r3).1 = 0 := q1
    rw [decide_eq_true hv] at HMY
    obtain ⟨x1, hx1⟩ : ∃ x1, x1 = costN (partL p) (partN p) C := ⟨_, rfl⟩
    rw [← hx1] at hown hle1 HCW
    obtain ⟨y1, hy1⟩ : ∃ y1, y1 = costN lg N C := ⟨_, rfl⟩
    rw [← hy1] at hle3 HCL
    obtain ⟨z1, hz1⟩ : ∃ z1, z1 = costN r2 r3 C := ⟨_, rfl⟩
    rw [← hz1] at q2 hcr hle1 hle3 HC1
    obtain ⟨E, hE⟩ : ∃ E, E = encN r1 p r2 r3 := ⟨_, rfl⟩
    rw [← hE] at hE2 hel hle1 hle3 HE
    obtain ⟨E1, EB⟩ := E
    obtain ⟨x1, x2⟩ := x1
    obtain ⟨y1, y2⟩ := y1
    obtain ⟨z1, z2⟩ := z1
    simp only at hE2 hel hle1 hle3 HE q2 hcr HC1 HCL HCW hown
    subst hE2 q2 hown
    have HLE3 := hide hle3
    have HLAST := hide hlast
    clear hx1 hy1 hz1 hE q1 q3 q4 hok hct hle3 hlast HEN HCO HFI hfr
    go_upto_region 4 with fail
    simp only [← HW2.out, ← HK1.out]
    go_wp2_with fail
    refine HE.out.mono ?_
    rintro e w3 ⟨v, rfl, hnb⟩
    obtain ⟨Av, nv, cv, rfl, hnv⟩ := hnb.1.form'
    have hnv2 : nv = EB.length := by rw [hnv.out]; simp [bytes]
    rw [← hnv2] at hel hle1 HLE3
    have f3 := hnb.2.1
    have F3 := hide f3
    have t3 := T2.out.fresh f3
    have s0 := t3.cell 0
    have s1 := t3.cell 1
    simp at s0 s1
    have helI : (nv : Int) ≤ 1000 := by omega
    clear hnb hnv hnv2 f3 t3 HE hel
    go_wp2_with fail
    refine (HC1.out _ F3.out).mono ?_
    rintro e w4 ⟨rfl, f4⟩
    have F4 := hide (F3.out.trans' f4)
    have t4 := T2.out.fresh F4.out
    have s0 := t4.cell 0
    have s1 := t4.cell 1
    simp at s0 s1
    clear f4 t4 HC1
    go_wp2_with fail
    refine (HMY.out _ F4.out).mono ?_
    rintro e w5 ⟨rfl, f5⟩
    have F5 := hide (F4.out.trans' f5)
    have t5 := T2.out.fresh F5.out
    have u5 := B2.out.fresh F5.out
    have s0 := t5.cell 0
    have s1 := t5.cell 1
    have s2 := u5.cell 0
    have s3 := u5.cell 1
    simp at s0 s1 s2 s3
    have T5 := hide t5
    have U5 := hide u5
    clear f5 t5 u5 HMY
    have hsw1 : IntKind.i64.wrap (8 * (nv : Int)) = 8 * nv := IntWalk.i64_in _ (by omega)
    have hsw2 : IntKind.i64.wrap (z1 + 8 * (nv : Int)) = z1 + 8 * nv := IntWalk.i64_in _ (by omega)
    by_cases h3 : r1 = 3
    · have h3b : (r1 == 3) = true := by simpa using h3
      rw [decide_eq_true (HLAST.out h3)] at HEQ
      clear h3
      go_wp2_with fail
      refine (HEQ.out _ F5.out).mono ?_
      rintro e w6 ⟨rfl, f6⟩
      have F6 := hide (F5.out.trans' f6)
      have T6 := hide (T5.out.fresh f6)
      have U6 := hide (U5.out.fresh f6)
      clear f6 s0 s1 s2 s3 h3b HEQ HLAST
      go_upto_region 10 with fail
      clear T5 U5
      have s2 := U6.out.cell 0
      have s3 := U6.out.cell 1
      simp at s2 s3
      have s0 := T6.out.cell 0
      have s1 := T6.out.cell 1
      simp at s0 s1
      go_cut [14, 15] (fun q q15 wx => ∃ (gb : Nat) (A10 : Option Addr) (n10 c10 : Nat), q = .pointer (some ⟨gb, 0, none⟩) ∧ q15 = .int .i64 0 ∧ Blk wx gb 26 #[.int .i64 (partL p), .slice A10 n10 c10] ∧ Rd wx (fun _ => True) A10 n10 (ints (partN p)) ∧ Fresh w6 wx)
      case first =>
        have HNW := hide (fun W => new_any (fun _ => True) none 0 0 [] W (Rd.nil _ _ _) (by simp) (by simp))
        have hd0 : decN 0 p lg N [] 0 = (0, partL p, partN p, 0) := by
          unfold decN
          rw [if_neg (by omega)]
          rfl
        have HDE := hide (fun (F' : Nat → Prop) gc W (hc : CurAt W F' gc [] 0) (hF : ∀ b, F' b → b ≠ gc) (hw : Fresh w6 W) => mdec_any F' F gc [] 0 A n c 0 p lg N W hc hF (HR.out W (F2.out.trans' (F6.out.trans' hw))) HF.out (by omega))
        rw [hd0] at HDE
        have HSS := hide (show ∀ W, Fresh w6 W → (Fresh w6 W ∧ W.cell? ⟨H, 0, none⟩ = some (.int .i64 lg) ∧ W.cell? ⟨H, 1, none⟩ = some (.slice A n c)) from fun W h => ⟨h, by simpa using (U6.out.fresh h).cell 0, by simpa using (U6.out.fresh h).cell 1⟩)
        have HSA := hide (fun W o (h : Fresh w6 W) => HSS.out _ (h.alloc o))
        have HSC := hide (fun W gb (hgb : w6.heap.size ≤ gb) u v (h : Fresh w6 W) => HSS.out _ (Upd.trans h (setTwoT W gb u v) (fun b hb e => by omega)))
        clear hd0
        go_region_held3 (fun W => Fresh w6 W ∧ W.cell? ⟨H, 0, none⟩ = some (.int .i64 lg) ∧ W.cell? ⟨H, 1, none⟩ = some (.slice A n c))
          (first | exact HSS.out _ (by assumption) | exact HSS.out _ (And.left (by assumption)) | exact HSS.out _ (Upd.refl _ _) | exact HSS.out _ (Upd.refl _ _).drew | exact HSA.out _ _ (by assumption) | exact HSA.out _ _ (And.left (by assumption)) | exact HSA.out _ _ (Upd.refl _ _).drew | exact HSC.out _ _ (by omega) _ _ (by assumption) | exact HSC.out _ _ (by omega) _ _ (And.left (by assumption)))
          (first
            | (go_at_call 21; ((with_reducible refine (HNW.out _).mono ?_); rintro e wn ⟨gc, rfl, hgc, fn, cu⟩); have bz : Blk wn w6.heap.size 26 #[.int .i64 0, .slice none 0 0] := (Blk.new w6.drew 26 #[.int .i64 0, .slice none 0 0]).fresh fn; have fnx : Fresh w6 wn := Upd.trans' (And.left (by assumption)) fn; have hgw : w6.heap.size < gc := (by have h := hgc; simp at h; omega))
            | (go_at_call 21; ((with_reducible refine (HNW.out _).mono ?_); rintro e wn ⟨gc, rfl, hgc, fn, cu⟩); have fnx : Fresh w6 wn := Upd.trans' (And.left (by assumption)) fn; have hgw : w6.heap.size ≤ gc := (by have h := hgc; simp at h; omega); have hgx : w6.heap.size ≤ wn.heap.size := fnx.size; have hgl : gc < wn.heap.size := cu.lt)
            | (go_at_call 20; ((with_reducible refine (HDE.out _ gc _ (by first | exact cu | exact cu.fresh ((Upd.refl _ _).alloc _)) (by intro b hb; exact hb.2) (And.left (by assumption))).mono ?_); rintro e wd ⟨ud, -, A10, n10, c10, rfl, rud⟩); have bz2 := bz.upd ud (by omega); have fdx : Fresh w6 wd := Upd.trans (And.left (by assumption)) ud (fun b hb e => by omega); have y0 := bz2.cell 0; have y1 := bz2.cell 1; have z0 := bz2.frozen 0; have z1 := bz2.frozen 1)
            | (go_at_call 20; ((with_reducible refine (HDE.out _ gc _ (by first | exact cu | exact cu.fresh ((Upd.refl _ _).alloc _)) (by intro b hb; exact hb.2) (And.left (by assumption))).mono ?_); rintro e wd ⟨ud, -, A10, n10, c10, rfl, rud⟩); have bz2 : Blk wd wn.heap.size 26 #[.int .i64 0, .slice none 0 0] := (Blk.new wn 26 #[.int .i64 0, .slice none 0 0]).upd ud (by omega); have fdx : Fresh w6 wd := Upd.trans (And.left (by assumption)) ud (fun b hb e => by omega); have y0 := bz2.cell 0; have y1 := bz2.cell 1; have z0 := bz2.frozen 0; have z1 := bz2.frozen 1)
            | (go_at_call 20; ((with_reducible refine (HDE.out _ gc _ (by first | exact cu | exact cu.fresh ((Upd.refl _ _).alloc _)) (by intro b hb; exact hb.2) (And.left (by assumption))).mono ?_); rintro e wd ⟨ud, -, A10, n10, c10, rfl, rud⟩); have fdx : Fresh w6 wd := Upd.trans (And.left (by assumption)) ud (fun b hb e => by omega)))
        all_goals go_wp2_with fail
        all_goals go_meet
        all_goals
          have hsn := fnx.size
          first
            | (exact ⟨w6.heap.size, A10, n10, c10, rfl, rfl, by simpa using (bz2.set_ 0 (.int .i64 (partL p))).set_ 1 (.slice A10 n10 c10), (rud.upd (setTwoT wd w6.heap.size (.int .i64 (partL p)) (.slice A10 n10 c10)) (fun b _ h h' => by have := bz.lt; omega)).mono (fun b h => True.intro), fdx.trans (setTwoT wd w6.heap.size (.int .i64 (partL p)) (.slice A10 n10 c10)) (fun b hb h => by omega)⟩)
            | (exact ⟨wn.heap.size, A10, n10, c10, rfl, rfl, by simpa using (bz2.set_ 0 (.int .i64 (partL p))).set_ 1 (.slice A10 n10 c10), (rud.upd (setTwoT wd wn.heap.size (.int .i64 (partL p)) (.slice A10 n10 c10)) (fun b _ h h' => by have h2 := h; simp at h2; omega)).mono (fun b h => True.intro), fdx.trans (setTwoT wd wn.heap.size (.int .i64 (partL p)) (.slice A10 n10 c10)) (fun b hb h => by omega)⟩)
            | (exact ⟨wd.heap.size, A10, n10, c10, rfl, rfl, Blk.new _ _ _, (rud.alloc _).mono (fun b h => True.intro), fdx.alloc _⟩)
      case rest =>
        obtain ⟨gb, A10, n10, c10, rfl, rfl, bb, rb, fb⟩ := hcut
        have F7 := hide (F6.out.trans' fb)
        have U7 := hide (U6.out.fresh fb)
        have v0 := bb.cell 0
        have v1 := bb.cell 1
        simp at v0 v1
        have hn10 : (n10 : Int) ≤ 1099511627776 := by have h1 := rb.1; have h2 := partN_le p; simp at h1; omega
        have HC2 := hide (HCW.out _ F7.out _ A10 n10 c10 rb hn10)
        clear bb rb fb s0 s1 s2 s3
        go_wp2_with fail
        refine HC2.out.mono ?_
        rintro e w8 ⟨rfl, f8⟩
        have F8 := hide (F7.out.trans' f8)
        have u8 := U7.out.fresh f8
        have s2 := u8.cell 0
        have s3 := u8.cell 1
        simp at s2 s3
        have U8 := hide u8
        have hle1' : ¬ x1 < z1 + 8 * (nv : Int) := by omega
        clear f8 u8 v0 v1 HC2
        go_wp2_with fail
        refine (HCL.out _ F8.out).mono ?_
        rintro e w9 ⟨rfl, f9⟩
        have F9 := hide (F8.out.trans' f9)
        have u9 := U8.out.fresh f9
        have s2 := u9.cell 0
        have s3 := u9.cell 1
        simp at s2 s3
        clear f9 u9
        by_cases hy2 : y2 = 0
        · subst hy2
          by_cases hvl : Valid lg N (partS p) (partX p)
          · rw [decide_eq_true hvl] at HML
            have hfin := HLE3.out rfl hvl
            clear hvl
            go_wp2_with fail
            refine (HML.out _ F9.out).mono ?_
            rintro e w10 ⟨rfl, f10⟩
            have F10 := hide (F9.out.trans' f10)
            clear f10
            go_wp2_with fail
            refine (hkn.out _).mono ?_
            rintro e w11 ⟨rfl, f11⟩
            have F11 := hide (F10.out.trans' f11)
            clear f11
            go_wp2_with fail
            try go_ret
            exact hR.out _ _ ⟨rfl, F2.out.trans' F11.out⟩
          · rw [decide_eq_false hvl] at HML
            clear hvl
            go_wp2_with fail
            refine (HML.out _ F9.out).mono ?_
            rintro e w10 ⟨rfl, f10⟩
            have F10 := hide (F9.out.trans' f10)
            clear f10
            go_wp2_with fail
            refine (hkn.out _).mono ?_
            rintro e w11 ⟨rfl, f11⟩
            have F11 := hide (F10.out.trans' f11)
            clear f11
            go_wp2_with fail
            try go_ret
            exact hR.out _ _ ⟨rfl, F2.out.trans' F11.out⟩
        · have hy2b : (y2 != 0) = true := by simpa using hy2
          go_wp2_with fail
          refine (hkn.out _).mono ?_
          rintro e w11 ⟨rfl, f11⟩
          have F11 := hide (F9.out.trans' f11)
          clear f11
          go_wp2_with fail
          try go_ret
          exact hR.out _ _ ⟨rfl, F2.out.trans' F11.out⟩
    · have h3b : (r1 == 3) = false := by simpa using h3
      have F6 := F5
      have T6 := T5
      have U6 := U5
      obtain ⟨w6, rfl⟩ : ∃ w6 : World, w6 = w5 := ⟨_, rfl⟩
      clear s0 s1 h3 HEQ HLAST
      go_upto_region 10 with fail
      have s2 := U6.out.cell 0
      have s3 := U6.out.cell 1
      simp at s2 s3
      have s0 := T6.out.cell 0
      have s1 := T6.out.cell 1
      simp at s0 s1
      go_cut [14, 15] (fun q q15 wx => ∃ (gb : Nat) (A10 : Option Addr) (n10 c10 : Nat), q = .pointer (some ⟨gb, 0, none⟩) ∧ q15 = .int .i64 0 ∧ Blk wx gb 26 #[.int .i64 (partL p), .slice A10 n10 c10] ∧ Rd wx (fun _ => True) A10 n10 (ints (partN p)) ∧ Fresh w6 wx)
      case first =>
        have HNW := hide (fun W => new_any (fun _ => True) none 0 0 [] W (Rd.nil _ _ _) (by simp) (by simp))
        have hd0 : decN 0 p lg N [] 0 = (0, partL p, partN p, 0) := by
          unfold decN
          rw [if_neg (by omega)]
          rfl
        have HDE := hide (fun (F' : Nat → Prop) gc W (hc : CurAt W F' gc [] 0) (hF : ∀ b, F' b → b ≠ gc) (hw : Fresh w6 W) => mdec_any F' F gc [] 0 A n c 0 p lg N W hc hF (HR.out W (F2.out.trans' (F6.out.trans' hw))) HF.out (by omega))
        rw [hd0] at HDE
        have HSS := hide (show ∀ W, Fresh w6 W → (Fresh w6 W ∧ W.cell? ⟨H, 0, none⟩ = some (.int .i64 lg) ∧ W.cell? ⟨H, 1, none⟩ = some (.slice A n c)) from fun W h => ⟨h, by simpa using (U6.out.fresh h).cell 0, by simpa using (U6.out.fresh h).cell 1⟩)
        have HSA := hide (fun W o (h : Fresh w6 W) => HSS.out _ (h.alloc o))
        have HSC := hide (fun W gb (hgb : w6.heap.size ≤ gb) u v (h : Fresh w6 W) => HSS.out _ (Upd.trans h (setTwoT W gb u v) (fun b hb e => by omega)))
        clear hd0
        go_region_held3 (fun W => Fresh w6 W ∧ W.cell? ⟨H, 0, none⟩ = some (.int .i64 lg) ∧ W.cell? ⟨H, 1, none⟩ = some (.slice A n c))
          (first | exact HSS.out _ (by assumption) | exact HSS.out _ (And.left (by assumption)) | exact HSS.out _ (Upd.refl _ _) | exact HSS.out _ (Upd.refl _ _).drew | exact HSA.out _ _ (by assumption) | exact HSA.out _ _ (And.left (by assumption)) | exact HSA.out _ _ (Upd.refl _ _).drew | exact HSC.out _ _ (by omega) _ _ (by assumption) | exact HSC.out _ _ (by omega) _ _ (And.left (by assumption)))
          (first
            | (go_at_call 21; ((with_reducible refine (HNW.out _).mono ?_); rintro e wn ⟨gc, rfl, hgc, fn, cu⟩); have bz : Blk wn w6.heap.size 26 #[.int .i64 0, .slice none 0 0] := (Blk.new w6.drew 26 #[.int .i64 0, .slice none 0 0]).fresh fn; have fnx : Fresh w6 wn := Upd.trans' (And.left (by assumption)) fn; have hgw : w6.heap.size < gc := (by have h := hgc; simp at h; omega))
            | (go_at_call 21; ((with_reducible refine (HNW.out _).mono ?_); rintro e wn ⟨gc, rfl, hgc, fn, cu⟩); have fnx : Fresh w6 wn := Upd.trans' (And.left (by assumption)) fn; have hgw : w6.heap.size ≤ gc := (by have h := hgc; simp at h; omega); have hgx : w6.heap.size ≤ wn.heap.size := fnx.size; have hgl : gc < wn.heap.size := cu.lt)
            | (go_at_call 20; ((with_reducible refine (HDE.out _ gc _ (by first | exact cu | exact cu.fresh ((Upd.refl _ _).alloc _)) (by intro b hb; exact hb.2) (And.left (by assumption))).mono ?_); rintro e wd ⟨ud, -, A10, n10, c10, rfl, rud⟩); have bz2 := bz.upd ud (by omega); have fdx : Fresh w6 wd := Upd.trans (And.left (by assumption)) ud (fun b hb e => by omega); have y0 := bz2.cell 0; have y1 := bz2.cell 1; have z0 := bz2.frozen 0; have z1 := bz2.frozen 1)
            | (go_at_call 20; ((with_reducible refine (HDE.out _ gc _ (by first | exact cu | exact cu.fresh ((Upd.refl _ _).alloc _)) (by intro b hb; exact hb.2) (And.left (by assumption))).mono ?_); rintro e wd ⟨ud, -, A10, n10, c10, rfl, rud⟩); have bz2 : Blk wd wn.heap.size 26 #[.int .i64 0, .slice none 0 0] := (Blk.new wn 26 #[.int .i64 0, .slice none 0 0]).upd ud (by omega); have fdx : Fresh w6 wd := Upd.trans (And.left (by assumption)) ud (fun b hb e => by omega); have y0 := bz2.cell 0; have y1 := bz2.cell 1; have z0 := bz2.frozen 0; have z1 := bz2.frozen 1)
            | (go_at_call 20; ((with_reducible refine (HDE.out _ gc _ (by first | exact cu | exact cu.fresh ((Upd.refl _ _).alloc _)) (by intro b hb; exact hb.2) (And.left (by assumption))).mono ?_); rintro e wd ⟨ud, -, A10, n10, c10, rfl, rud⟩); have fdx : Fresh w6 wd := Upd.trans (And.left (by assumption)) ud (fun b hb e => by omega)))
        all_goals go_wp2_with fail
        all_goals go_meet
        all_goals
          have hsn := fnx.size
          first
            | (exact ⟨w6.heap.size, A10, n10, c10, rfl, rfl, by simpa using (bz2.set_ 0 (.int .i64 (partL p))).set_ 1 (.slice A10 n10 c10), (rud.upd (setTwoT wd w6.heap.size (.int .i64 (partL p)) (.slice A10 n10 c10)) (fun b _ h h' => by have := bz.lt; omega)).mono (fun b h => True.intro), fdx.trans (setTwoT wd w6.heap.size (.int .i64 (partL p)) (.slice A10 n10 c10)) (fun b hb h => by omega)⟩)
            | (exact ⟨wn.heap.size, A10, n10, c10, rfl, rfl, by simpa using (bz2.set_ 0 (.int .i64 (partL p))).set_ 1 (.slice A10 n10 c10), (rud.upd (setTwoT wd wn.heap.size (.int .i64 (partL p)) (.slice A10 n10 c10)) (fun b _ h h' => by have h2 := h; simp at h2; omega)).mono (fun b h => True.intro), fdx.trans (setTwoT wd wn.heap.size (.int .i64 (partL p)) (.slice A10 n10 c10)) (fun b hb h => by omega)⟩)
            | (exact ⟨wd.heap.size, A10, n10, c10, rfl, rfl, Blk.new _ _ _, (rud.alloc _).mono (fun b h => True.intro), fdx.alloc _⟩)
      case rest =>
        obtain ⟨gb, A10, n10, c10, rfl, rfl, bb, rb, fb⟩ := hcut
        have F7 := hide (F6.out.trans' fb)
        have U7 := hide (U6.out.fresh fb)
        have v0 := bb.cell 0
        have v1 := bb.cell 1
        simp at v0 v1
        have hn10 : (n10 : Int) ≤ 1099511627776 := by have h1 := rb.1; have h2 := partN_le p; simp at h1; omega
        have HC2 := hide (HCW.out _ F7.out _ A10 n10 c10 rb hn10)
        clear bb rb fb s0 s1 s2 s3
        go_wp2_with fail
        refine HC2.out.mono ?_
        rintro e w8 ⟨rfl, f8⟩
        have F8 := hide (F7.out.trans' f8)
        have u8 := U7.out.fresh f8
        have s2 := u8.cell 0
        have s3 := u8.cell 1
        simp at s2 s3
        have U8 := hide u8
        have hle1' : ¬ x1 < z1 + 8 * (nv : Int) := by omega
        clear f8 u8 v0 v1 HC2
        go_wp2_with fail
        refine (HCL.out _ F8.out).mono ?_
        rintro e w9 ⟨rfl, f9⟩
        have F9 := hide (F8.out.trans' f9)
        have u9 := U8.out.fresh f9
        have s2 := u9.cell 0
        have s3 := u9.cell 1
        simp at s2 s3
        clear f9 u9
        by_cases hy2 : y2 = 0
        · subst hy2
          by_cases hvl : Valid lg N (partS p) (partX p)
          · rw [decide_eq_true hvl] at HML
            have hfin := HLE3.out rfl hvl
            clear hvl
            go_wp2_with fail
            refine (HML.out _ F9.out).mono ?_
            rintro e w10 ⟨rfl, f10⟩
            have F10 := hide (F9.out.trans' f10)
            clear f10
            go_wp2_with fail
            refine (hkn.out _).mono ?_
            rintro e w11 ⟨rfl, f11⟩
            have F11 := hide (F10.out.trans' f11)
            clear f11
            go_wp2_with fail
            try go_ret
            exact hR.out _ _ ⟨rfl, F2.out.trans' F11.out⟩
          · rw [decide_eq_false hvl] at HML
            clear hvl
            go_wp2_with fail
            refine (HML.out _ F9.out).mono ?_
            rintro e w10 ⟨rfl, f10⟩
            have F10 := hide (F9.out.trans' f10)
            clear f10
            go_wp2_with fail
            refine (hkn.out _).mono ?_
            rintro e w11 ⟨rfl, f11⟩
            have F11 := hide (F10.out.trans' f11)
            clear f11
            go_wp2_with fail
            try go_ret
            exact hR.out _ _ ⟨rfl, F2.out.trans' F11.out⟩
        · have hy2b : (y2 != 0) = true := by simpa using hy2
          go_wp2_with fail
          refine (hkn.out _).mono ?_
          rintro e w11 ⟨rfl, f11⟩
          have F11 := hide (F9.out.trans' f11)
          clear f11
          go_wp2_with fail
          try go_ret
          exact hR.out _ _ ⟨rfl, F2.out.trans' F11.out⟩
  · have hrb : (r4 != 0) = true := by simpa using hr4
    go_upto_region 4 with fail
    simp only [← HW2.out, ← HK1.out]
    go_wp2_with fail
    refine (hkn.out _).mono ?_
    rintro e w3 ⟨rfl, f3⟩
    have F3 := hide (F2.out.trans' f3)
    clear f3
    go_wp2_with fail
    try go_ret
    exact hR.out _ _ ⟨rfl, F3.out⟩

end Go.Proofs.Ytcdbfddoanigbaa
