/-
  Joined texts, part 17: contracts and plain lemmas, each under its own heading below.
  Conditions: none beyond those of each theorem.
-/
import Derived.Test.YtcdbfddoanigbaaGreatJ16
import Derived.Test.YtcdbfddoanigbaaGreatJ4
import Derived.Test.YtcdbfddoanigbaaGreatJ14
import Derived.Test.YtcdbfddoanigbaaGreatJ5
/-
  The reference's Normal.
  Conditions: none beyond those of each theorem.
-/
namespace Go.Proofs.YtcdbfddoanigbaaGreat
open Go.RowKit
set_option linter.unusedVariables false
set_option linter.unusedSimpArgs false

set_option maxRecDepth 100000 in
set_option maxHeartbeats 1000000 in
theorem rnormal_no (F : Nat → Prop) (A : Option Addr) (n c : Nat) (N : List Int) (w : World) (lg : Int) (hr : Rd w F A n (ints N)) (hfit : Fit N) (hn : (n : Int) ≤ 1099511627776) (hno : ¬ NormOk N lg) :
    Calls Tryz.prog 23 #[.slice A n c, .int .i64 lg] w fun e w' => e = .returned (.tuple #[.agg #[.int .i64 0, .slice none 0 0], .int .i64 2]) ∧ Fresh w w' := by
  obtain ⟨w0, hw0⟩ : ∃ w0, w0 = w.alloc (.cells #[.int .i64 0, .slice none 0 0] 25) := ⟨_, rfl⟩
  obtain ⟨H, hH⟩ : ∃ H, H = w.heap.size := ⟨_, rfl⟩
  have f0 : Fresh w w0 := by rw [hw0]; exact (Upd.refl _ _).alloc _
  have bt : Blk w0 H 25 #[.int .i64 0, .slice none 0 0] := by rw [hw0]; exact blk_new hH _ _
  have hal := rcounts_any F A n c N w0 (hr.fresh f0) hfit hn
  have hu := usedC_le N
  have hN : N.length = n := by have := hr.1; simpa using this
  have t0 := bt.cell 0
  have t1 := bt.cell 1
  have z0 := bt.frozen 0
  have z1 := bt.frozen 1
  simp at t0 t1
  have HBT := hide bt
  have FIN := hide (show Fresh w ((w0.setCell ⟨H, 0, none⟩ (.int .i64 0)).setCell ⟨H, 1, none⟩ (.slice none 0 0)) from f0.trans (setTwoT _ H _ _) (fun b hb h => by omega))
  have HW := hide hw0
  have HH := hide hH
  clear hw0 hH f0 bt hr
  by_cases hb : CtOk N ∧ 0 < usedC N
  · have HK : Hid (Calls Tryz.prog 21 #[.slice A n c] w0 fun e w' => e = .returned (.tuple #[.int .i64 N.sum, .int .i64 (usedC N : Nat), .bool true]) ∧ w0 = w') :=
      hide (hal.mono fun e w' h => ⟨by have := h.1; unfold AllPost at this; rw [decide_eq_true hb, if_pos hb.1, if_pos hb.1] at this; exact this, h.2.symm⟩)
    have hul : usedC N ≤ n := by omega
    have hno2 : lg < 0 ∨ 9 < lg ∨ (0 ≤ lg ∧ lg ≤ 9 ∧ ¬ usedC N ≤ 2 ^ lg.toNat) := by
      unfold NormOk at hno
      by_cases h1 : lg < 0
      · exact .inl h1
      · by_cases h2 : 9 < lg
        · exact .inr (.inl h2)
        · exact .inr (.inr ⟨by omega, by omega, fun h => hno ⟨hb.1, hb.2, by omega, by omega, h⟩⟩)
    clear hal hfit hN hu hb hno
    generalize usedC N = u at *
    generalize N.sum = S at *
    refine veil fun R hR => ?_
    rcases hno2 with h | h | ⟨h1, h2, h3⟩
    · go_enter Tryz.func23, Tryz.ntmps23
      go_upto_region 1 with fail
      simp only [← HH.out, ← HW.out]
      go_wp2_with fail
      refine HK.out.mono ?_
      rintro e wx ⟨rfl, rfl⟩
      go_wp2_with fail
      refine bodyPost_ret (results_cell_tmp_row rfl _ _ H _ _ _ rfl ((HBT.out.set_ 0 (.int .i64 0)).set_ 1 (.slice none 0 0)) Tryz.underlying25 rfl (by kernel_rfl)) rfl ?_
      exact hR.out _ _ ⟨rfl, FIN.out⟩
    · have h0 : ¬ lg < 0 := by omega
      go_enter Tryz.func23, Tryz.ntmps23
      go_upto_region 1 with fail
      simp only [← HH.out, ← HW.out]
      go_wp2_with fail
      refine HK.out.mono ?_
      rintro e wx ⟨rfl, rfl⟩
      go_wp2_with fail
      refine bodyPost_ret (results_cell_tmp_row rfl _ _ H _ _ _ rfl ((HBT.out.set_ 0 (.int .i64 0)).set_ 1 (.slice none 0 0)) Tryz.underlying25 rfl (by kernel_rfl)) rfl ?_
      exact hR.out _ _ ⟨rfl, FIN.out⟩
    · obtain ⟨p, rfl⟩ : ∃ p : Nat, lg = p := ⟨lg.toNat, by omega⟩
      have hpw := pow_le_512 (p := p) (by omega)
      rw [Int.toNat_natCast] at h3
      have HSZ := hide (fun W => size_any p W (by omega))
      generalize 2 ^ p = s at *
      have hlt : (s : Int) < u := by omega
      have hsI : (s : Int) ≤ 512 := by omega
      have h2' : ¬ 9 < (p : Int) := by omega
      clear h3
      go_enter Tryz.func23, Tryz.ntmps23
      go_upto_region 1 with fail
      simp only [← HH.out, ← HW.out]
      go_wp2_with fail
      refine HK.out.mono ?_
      rintro e wx ⟨rfl, rfl⟩
      go_wp2_with fail
      refine (HSZ.out _).mono ?_
      rintro e wx ⟨rfl, rfl⟩
      go_wp2_with fail
      refine bodyPost_ret (results_cell_tmp_row rfl _ _ H _ _ _ rfl ((HBT.out.set_ 0 (.int .i64 0)).set_ 1 (.slice none 0 0)) Tryz.underlying25 rfl (by kernel_rfl)) rfl ?_
      exact hR.out _ _ ⟨rfl, FIN.out⟩
  · have HK : Hid (Calls Tryz.prog 21 #[.slice A n c] w0 fun e w' => (∃ x y, e = .returned (.tuple #[.int .i64 x, .int .i64 y, .bool false])) ∧ w0 = w') :=
      hide (hal.mono fun e w' h => ⟨by have := h.1; unfold AllPost at this; rw [decide_eq_false hb] at this; exact ⟨_, _, this⟩, h.2.symm⟩)
    clear hal hfit hN hu hb hno
    refine veil fun R hR => ?_
    go_enter Tryz.func23, Tryz.ntmps23
    go_upto_region 1 with fail
    simp only [← HH.out, ← HW.out]
    go_wp2_with fail
    refine HK.out.mono ?_
    rintro e wx ⟨⟨x, y, rfl⟩, rfl⟩
    go_wp2_with fail
    refine bodyPost_ret (results_cell_tmp_row rfl _ _ H _ _ _ rfl ((HBT.out.set_ 0 (.int .i64 0)).set_ 1 (.slice none 0 0)) Tryz.underlying25 rfl (by kernel_rfl)) rfl ?_
    exact hR.out _ _ ⟨rfl, FIN.out⟩

theorem upV_get {N M : List Int} {s tot : Int} {j : Nat} (hN : j < N.length) (hM : j < M.length) : (upV N M s tot)[j]? = some (if 0 < N[j] then some (N[j] * s - M[j] * tot) else none) := by
  unfold upV
  rw [List.getElem?_zipWith, List.getElem?_eq_getElem hN, List.getElem?_eq_getElem hM]
theorem dnV_get {N M : List Int} {s tot : Int} {j : Nat} (hN : j < N.length) (hM : j < M.length) : (dnV N M s tot)[j]? = some (if 1 < M[j] then some (-(N[j] * s - M[j] * tot)) else none) := by
  unfold dnV
  rw [List.getElem?_zipWith, List.getElem?_eq_getElem hN, List.getElem?_eq_getElem hM]

set_option maxRecDepth 100000 in
set_option maxHeartbeats 8000000 in
theorem rnormal_ok (F : Nat → Prop) (A : Option Addr) (n c : Nat) (N : List Int) (w : World) (p : Nat) (hr : Rd w F A n (ints N)) (hfit : Fit N) (hn : (n : Int) ≤ 1099511627776) (hok : NormOk N p) :
    Calls Tryz.prog 23 #[.slice A n c, .int .i64 p] w fun e w' => NewTabC w w' e p (normN N p) 0 := by
  obtain ⟨w0, hw0⟩ : ∃ w0, w0 = w.alloc (.cells #[.int .i64 0, .slice none 0 0] 25) := ⟨_, rfl⟩
  obtain ⟨H, hH⟩ : ∃ H, H = w.heap.size := ⟨_, rfl⟩
  have f0 : Fresh w w0 := by rw [hw0]; exact (Upd.refl _ _).alloc _
  have bt : Blk w0 H 25 #[.int .i64 0, .slice none 0 0] := by rw [hw0]; exact blk_new hH _ _
  have hz0 : w0.heap.size = H + 1 := by rw [hw0, hH]; simp
  have hal := rcounts_any F A n c N w0 (hr.fresh f0) hfit hn
  have hu := usedC_le N
  have hN : N.length = n := by have := hr.1; simpa using this
  obtain ⟨hct, hu0, -, hp9, hup⟩ := hok
  rw [Int.toNat_natCast] at hup
  have hp9' : p ≤ 9 := by omega
  have hpw := pow_le_512 hp9'
  have hpp : 0 < 2 ^ p := Nat.two_pow_pos p
  have hcast : (2 : Int) ^ p = ((2 ^ p : Nat) : Int) := by simp
  have HSZ := hide (fun W => size_any p W hp9')
  have HK : Hid (Calls Tryz.prog 21 #[.slice A n c] w0 fun e w' => e = .returned (.tuple #[.int .i64 N.sum, .int .i64 (usedC N : Nat), .bool true]) ∧ w0 = w') :=
    hide (hal.mono fun e w' h => ⟨by have := h.1; unfold AllPost at this; rw [decide_eq_true ⟨hct, hu0⟩, if_pos hct, if_pos hct] at this; exact this, h.2.symm⟩)
  obtain ⟨s, hs⟩ : ∃ s : Nat, s = 2 ^ p := ⟨_, rfl⟩
  obtain ⟨T, hT⟩ : ∃ T, T = N.sum := ⟨_, rfl⟩
  obtain ⟨u, hU⟩ : ∃ u, u = usedC N := ⟨_, rfl⟩
  rw [← hs] at hpw hpp hup hcast
  simp only [← hs] at HSZ
  rw [← hT, ← hU] at HK
  rw [← hU] at hup
  have hups : ¬ (s : Int) < u := by omega
  have hsI : (s : Int) ≤ 512 := by omega
  have hs0 : 0 < (s : Int) := by omega
  have hlg0 : ¬ (p : Int) < 0 := by omega
  have hlg9 : ¬ 9 < (p : Int) := by omega
  have hul : u ≤ n := by omega
  have hnM : n ≤ 1099511627776 := by omega
  have hmk : ∀ W, (Instr.makeSlice 22 (.int .i64 (n : Int)) (.int .i64 (n : Int))).run Tryz.prog W = .ok (.slice (some ⟨W.heap.size, 0, none⟩) n n) (W.alloc (.cells (madeCells #[.int .i64 0] n) 3)) := fun W => by
    have := run_make_row' (P := Tryz.prog) 22 3 (.int .i64 0) 8 Tryz.underlying22 infoInt rfl .i64 .i64 n (by omega) (by omega) W
    simpa using this
  obtain ⟨cs, hcs⟩ : ∃ cs, cs = madeCells #[Value.int .i64 0] n := ⟨_, rfl⟩
  simp only [← hcs] at hmk
  have HS := hide hs
  have HSC := hide hcast
  have HT := hide hT
  have HU := hide hU
  have HCT := hide hct
  have HU0 := hide hu0
  have HBT := hide bt
  have F0 := hide f0
  have HR := hide (fun W (h : Fresh w W) => hr.both.fresh h)
  have HN := hide hN
  have HW := hide hw0
  have HH := hide hH
  have HCS := hide hcs
  have HZ0 := hide hz0
  clear hs hT hU hct hu0 bt f0 hr hN hw0 hH hal hu hup hp9' hcs hcast hpw hpp hz0
  refine veil fun R hR => ?_
  go_enter Tryz.func23, Tryz.ntmps23
  go_upto_region 1 with fail
  simp only [← HH.out, ← HW.out]
  go_wp2_with fail
  refine HK.out.mono ?_
  rintro e wx ⟨rfl, rfl⟩
  go_wp2_with fail
  refine (HSZ.out _).mono ?_
  rintro e wx ⟨rfl, rfl⟩
  go_wp2_with fail
  refine (HSZ.out _).mono ?_
  rintro e wx ⟨rfl, rfl⟩
  go_upto_region 7 with fail
  simp only [HZ0.out]
  obtain ⟨w1, hw1⟩ : ∃ w1, w1 = w0.alloc (.cells cs 3) := ⟨_, rfl⟩
  rw [← hw1]
  have BT := hide (show Blk w1 H 25 #[.int .i64 0, .slice none 0 0] by rw [hw1]; exact HBT.out.alloc _)
  have BG0 : Blk w1 (H + 1) 3 cs := by rw [hw1]; exact blk_new HZ0.out.symm _ _
  have F1 := hide (show Fresh w w1 by rw [hw1]; exact F0.out.alloc _)
  obtain ⟨B, hB⟩ : ∃ B, B = baseN N s T := ⟨_, rfl⟩
  have hBl : B.length = n := by rw [hB]; simp [baseN, HN.out]
  have BG : Blk w1 (H + 1) 3 (ints (layN B 0)).toArray := by
    have e : (ints (layN B 0)).toArray = cs := by
      rw [HCS.out, layN_zero, hBl]
      exact Array.toList_inj.1 (by rw [toList_madeCells_one]; simp [ints])
    rw [e]; exact BG0
  have hMO : MOk N B 512 := by rw [hB, HT.out]; exact base_ok HCT.out (by omega) hsI
  have HBL := hide hBl
  have HBB := hide hB
  have HMO := hide hMO
  have HBG := hide BG
  clear hw1 hBl hB hMO BG BG0 hmk HK HW
  go_wp2_with fail
  go_loopg [10, 11, 13] n (fun f sm la i wr => ∃ (k : Nat) (l0 : Int), k + f = n ∧ i = .int .i64 k ∧ sm = .int .i64 (B.take k).sum ∧ la = .int .i64 l0 ∧ (lastC (N.take k) ≠ 0 → l0 = (lastC (N.take k) : Nat) - 1) ∧ Blk wr (H + 1) 3 (ints (layN B k)).toArray ∧ Upd (fun b => b = H + 1) w1 wr ∧ 0 ≤ (B.take k).sum ∧ (B.take k).sum ≤ 512 * k)
  case atStart => exact ⟨0, 0, by omega, rfl, by simp, rfl, by simp [lastC], HBG.out, Upd.refl _ _, by simp, by simp⟩
  case round =>
    obtain ⟨k, l0, hk, rfl, rfl, rfl, hla, bg, ur, hs1, hs2⟩ := hrel
    have HK := hide hk
    have HLA := hide hla
    have FR := hide (F1.out.trans ur (fun b hb h => by have := HH.out; omega))
    have UR := hide ur
    have HBGK := hide bg
    by_cases hlt : k < n
    · have hkB : k < B.length := by rw [HBL.out]; exact hlt
      have hkN : k < N.length := by rw [HN.out]; exact hlt
      have hgt := List.take_succ_eq_append_getElem hkB
      have HSM := hide (show (B.take (k + 1)).sum = (B.take k).sum + B[k] by rw [hgt, sum_snoc])
      have HLS := hide (layN_set hkB)
      have HLM := hide (layN_same hkB)
      have HLT := hide (lastC_take hkN)
      have HBK := hide (show B[k] = if 0 < N[k] then max (N[k] * s / T) 1 else 0 by simp only [HBB.out]; simp [baseN])
      have hg0 := layN_get hkB
      obtain ⟨hm0, hm1, -⟩ := HMO.out.2 k N[k] B[k] (List.getElem?_eq_getElem hkN) (List.getElem?_eq_getElem hkB)
      have hz := HCT.out.le (List.getElem_mem hkN)
      obtain ⟨b, o, _, rfl, _, hc⟩ := (HR.out _ FR.out).int (k := k) hlt
      generalize N[k] = z at *
      generalize B[k] = m at *
      generalize (B.take k).sum = q at *
      have hlI : (k : Int) < n := by omega
      have hw4 : IntKind.i64.wrap ((k : Int) + 1) = k + 1 := IntWalk.i64_in _ (by omega)
      clear hgt hla hk ur bg
      by_cases hz1 : z = 0
      · have hzb : (z == 0) = true := by simpa using hz1
        rw [if_neg (by omega)] at HBK HLT
        have hm00 : m = 0 := HBK.out
        have HLM2 := hide (HLM.out hm00)
        have HSM2 := hide (show (B.take (k + 1)).sum = q by rw [HSM.out, hm00]; omega)
        clear hz hm00 hz1
        go_wp2_with fail
        go_roundg (gk - 1)
        case measure => have := HK.out; omega
        case rel => exact ⟨k + 1, l0, by have := HK.out; omega, by go_num, by rw [HSM2.out], rfl, by rw [HLT.out]; exact HLA.out, by rw [← HLM2.out]; exact HBGK.out, UR.out, by rw [HSM2.out]; omega, by rw [HSM2.out]; omega⟩
      · have hzb : (z == 0) = false := by simpa using hz1
        rw [if_pos (by omega)] at HBK HLT
        have hz0 : 0 < z := by omega
        have hT1 : 0 < T := by rw [HT.out]; omega
        have e1 : 0 ≤ z * s := Int.mul_nonneg hz.1 (by omega)
        have e2 : z * s ≤ 562949953421312 := Int.le_trans (Int.mul_le_mul_of_nonneg_right (by have := HCT.out.2; omega : z ≤ 1099511627776) (by omega)) (Int.le_trans (Int.mul_le_mul_of_nonneg_left hsI (by omega)) (by decide))
        have s1 : IntKind.i64.wrap (z * s) = z * s := IntWalk.i64_in _ (by omega)
        have e3 : 0 ≤ z * s / T := Int.ediv_nonneg e1 (by omega)
        have e4 : z * s / T ≤ 562949953421312 := Int.le_trans (Int.ediv_le_self _ e1) e2
        have HZ := hide hz
        have g0 : wr.cell? ⟨H + 1, k, none⟩ = some (.int .i64 0) := by rw [HBGK.out.cell]; simp [ints, hg0]
        have g1 : wr.frozen? ⟨H + 1, k, none⟩ = false := HBGK.out.frozen k
        obtain ⟨x, hx⟩ : ∃ x, x = z * s / T := ⟨_, rfl⟩
        have HX := hide hx
        have bx := HBGK.out.set_ k (.int .i64 x)
        have cx : (wr.setCell ⟨H + 1, k, none⟩ (.int .i64 x)).cell? ⟨H + 1, k, none⟩ = some (.int .i64 x) := (bx.cell k).trans (by simp [layN_length (Nat.le_of_lt hkB), hkB])
        clear hz hz1
        go_upto_region 12 with fail
        simp only [← HX.out]
        obtain ⟨w5, hw5⟩ : ∃ w5, w5 = wr.setCell ⟨H + 1, k, none⟩ (.int .i64 x) := ⟨_, rfl⟩
        rw [← hw5]
        rw [← hw5] at bx cx
        rw [ints_set] at bx
        have u5 : Upd (fun b => b = H + 1) w1 w5 := by rw [hw5]; exact UR.out.setCell (p := ⟨H + 1, k, none⟩) (fun _ => rfl) _
        have c5 := bx.frozen k
        rw [← HX.out] at HBK
        have hx0 : 0 ≤ x := by have := HX.out; omega
        have BX := hide bx
        have U5 := hide u5
        clear hw5 bx u5 g0 g1 e1 e2 s1 e3 e4 HX hx
        by_cases hxz : x = 0
        · have hxb : (x == 0) = true := by simpa using hxz
          have hm : m = 1 := by have := HBK.out; omega
          subst hm
          have bs := BX.out.set_ k (.int .i64 1)
          rw [ints_set, List.set_set, HLS.out] at bs
          have us := U5.out.setCell (p := ⟨H + 1, k, none⟩) (fun _ => rfl) (.int .i64 1)
          have cy : (w5.setCell ⟨H + 1, k, none⟩ (.int .i64 1)).cell? ⟨H + 1, k, none⟩ = some (.int .i64 1) := (((BX.out.set_ k (.int .i64 1))).cell k).trans (by simp [layN_length (Nat.le_of_lt hkB), hkB])
          have hw6 : IntKind.i64.wrap (q + 1) = q + 1 := IntWalk.i64_in _ (by omega)
          have BS := hide bs
          have US := hide us
          clear bs us hxz
          go_wp2_with fail
          go_roundg (gk - 1)
          case measure => have := HK.out; omega
          case rel => exact ⟨k + 1, k, by have := HK.out; omega, by go_num, by rw [HSM.out], rfl, fun _ => by rw [HLT.out]; omega, BS.out, US.out, by rw [HSM.out]; omega, by rw [HSM.out]; omega⟩
        · have hxb : (x == 0) = false := by simpa using hxz
          have hm : m = x := by have := HBK.out; omega
          subst hm
          have hw6 : IntKind.i64.wrap (q + m) = q + m := IntWalk.i64_in _ (by omega)
          have bs := BX.out
          rw [HLS.out] at bs
          have BS := hide bs
          clear bs hxz
          go_wp2_with fail
          go_roundg (gk - 1)
          case measure => have := HK.out; omega
          case rel => exact ⟨k + 1, k, by have := HK.out; omega, by go_num, by rw [HSM.out], rfl, fun _ => by rw [HLT.out]; omega, BS.out, U5.out, by rw [HSM.out]; omega, by rw [HSM.out]; omega⟩
    · obtain rfl : k = n := by have := HK.out; omega
      have htk : B.take k = B := List.take_of_length_le (by have := HBL.out; omega)
      have hly : layN B k = B := by have := layN_all B; rw [HBL.out] at this; exact this
      have htn : N.take k = N := List.take_of_length_le (by have := HN.out; omega)
      rw [hly] at HBGK
      rw [htk] at hs1 hs2 ⊢
      rw [htn] at HLA
      have hl0 := HLA.out (lastC_pos HU0.out)
      have hlp := lastC_pos HU0.out
      have hll := lastC_le N
      have HLP := hide hlp
      obtain ⟨L, hL⟩ : ∃ L, lastC N = L + 1 := ⟨lastC N - 1, by omega⟩
      have hl1 : l0 = (L : Int) := by omega
      subst hl1
      have HL := hide hL
      have HLk := hide (show L < k by have := HN.out; omega)
      clear htk hly htn hla hl0 hlp hll hL bg ur hk
      go_wp2_with fail
      obtain ⟨t, ht⟩ : ∃ t, t = max (s : Int) B.sum := ⟨_, rfl⟩
      obtain ⟨f0, hf0⟩ : ∃ f0, f0 = (t - B.sum).toNat := ⟨_, rfl⟩
      have HF0 := hide (show (t = B.sum + f0 ∧ f0 ≤ 512) ∧ (f0 = 0 ∨ t = s) ∧ (s : Int) ≤ t from ⟨⟨by omega, by omega⟩, by omega, by omega⟩)
      have HT0 := hide ht
      clear ht hf0
      go_loopg [10] f0 (fun f sm wr => ∃ (M : List Int) (Bd x : Int), sm = .int .i64 x ∧ x = t - f ∧ f ≤ f0 ∧ Blk wr (H + 1) 3 (ints M).toArray ∧ Upd (fun b => b = H + 1) w1 wr ∧ MOk N M Bd ∧ Bd + f ≤ 1024 ∧ M.sum = x ∧ upN N s T f0 B = upN N s T f M)
      case atStart => exact ⟨B, 512, B.sum, rfl, by have := HF0.out; omega, Nat.le_refl _, HBGK.out, UR.out, HMO.out, by have := HF0.out; omega, rfl, rfl⟩
      case round =>
        obtain ⟨M, Bd, x, rfl, hx, hff, bg, ur, hMO, hbd, hsum, hup⟩ := hrel
        have HX := hide hx
        have HFF := hide hff
        have BGM := hide bg
        have URM := hide ur
        have HMOM := hide hMO
        have HBD := hide hbd
        have HSUM := hide hsum
        have HUP := hide hup
        clear hx hff bg ur hMO hbd hsum hup
        by_cases hg0 : gk = 0
        · have hg00 : gk = 0 := hg0
          have hxt : x = t := by have := HX.out; omega
          have hupM : upN N s T f0 B = M := by rw [HUP.out, hg00]; rfl
          obtain ⟨f1, hf1⟩ : ∃ f1, f1 = (t - s).toNat := ⟨_, rfl⟩
          have HF1 := hide (show t = s + f1 from by have := HF0.out; omega)
          have HUPM := hide hupM
          have HSUMT := hide (show M.sum = t by rw [HSUM.out, hxt])
          have HMO24 := hide (HMOM.out.mono (by have := HBD.out; omega : Bd ≤ 1024))
          have hxs : ¬ x < (s : Int) := by have := HF0.out; omega
          have HTK := hide (show t ≤ 562949953421312 by have := HT0.out; omega)
          subst hxt
          clear hf1 hupM hg00 hg0 HUP HX HFF HBD HMOM HSUM
          go_wp2_with fail
          go_loopg [10] f1 (fun f sm wr => ∃ (M' : List Int) (x : Int), sm = .int .i64 x ∧ x = s + f ∧ f ≤ f1 ∧ Blk wr (H + 1) 3 (ints M').toArray ∧ Upd (fun b => b = H + 1) w1 wr ∧ MOk N M' 1024 ∧ M'.sum = x ∧ dnN N s T f1 (upN N s T f0 B) = dnN N s T f M')
          case atStart => exact ⟨M, x, rfl, by have := HF1.out; omega, Nat.le_refl _, BGM.out, URM.out, HMO24.out, HSUMT.out, by rw [HUPM.out]⟩
          case round =>
            obtain ⟨M1, z1, rfl, hx, hff, bg, ur, hMO, hsum, hup⟩ := hrel
            have HX1 := hide hx
            have HFF1 := hide hff
            have BG1 := hide bg
            have UR1 := hide ur
            have HMO1 := hide hMO
            have HSUM1 := hide hsum
            have HUP1 := hide hup
            have HMK1 := hide (show M1.length = k by rw [hMO.1, HN.out])
            have FR1 := hide (F1.out.trans ur (fun b hb h => by have := HH.out; omega))
            clear hx hff bg ur hMO hsum hup
            by_cases hg1 : gk = 0
            · have hxs1 : ¬ (s : Int) < z1 := by have := HX1.out; omega
              have hev : evenN N s = M1 := by
                have h1 := HUP1.out
                rw [hg1] at h1
                change _ = M1 at h1
                rw [← h1]
                unfold evenN
                rw [← HT.out, ← HBB.out]
                have h2 := HF0.out
                have h3 := HF1.out
                have h4 := HT0.out
                by_cases hle : B.sum ≤ s
                · rw [if_pos hle]
                  have e1 : f1 = 0 := by omega
                  have e2 : f0 = ((s : Int) - B.sum).toNat := by omega
                  rw [e1, ← e2]; rfl
                · rw [if_neg hle]
                  have e1 : f0 = 0 := by omega
                  have e2 : f1 = (B.sum - (s : Int)).toNat := by omega
                  rw [e1, ← e2]; rfl
              obtain ⟨Q, hQ⟩ : ∃ Q, Q = rareN N s T M1 := ⟨_, rfl⟩
              have hQM : Q.length = M1.length := by rw [hQ]; exact rareN_length HMO1.out.1
              have hnorm : normN N p = Q.take (L + 1) := by
                unfold normN
                rw [HSC.out, hev, ← HT.out, hQ, HL.out]
              have HQG := hide (fun (i : Nat) (h1 : i < N.length) (h2 : i < M1.length) => hQ ▸ rareN_get (s := s) (tot := T) h1 h2)
              have HQM := hide hQM
              have HNORM := hide hnorm
              have BGQ := hide (show Blk wr (H + 1) 3 (ints (mixL Q M1 0)).toArray by rw [mixL_zero]; exact BG1.out)
              have hLk : L < k := HLk.out
              clear hg1 hev hQ hQM hnorm HX1 HFF1 HUP1 HSUM1 HUPM HSUMT HTK HF0 HF1
              go_wp2_with fail
              go_loopg [18] (L + 1) (fun f i wy => ∃ j : Nat, j + f = L + 1 ∧ i = .int .i64 j ∧ Blk wy (H + 1) 3 (ints (mixL Q M1 j)).toArray ∧ Upd (fun b => b = H + 1) w1 wy)
              case atStart => exact ⟨0, by omega, rfl, BGQ.out, UR1.out⟩
              case round =>
                obtain ⟨j, hj, rfl, bg, uy⟩ := hrel
                have HJ := hide hj
                have BGJ := hide bg
                have UY := hide uy
                have FY := hide (F1.out.trans uy (fun b hb h => by have := HH.out; omega))
                clear hj bg uy
                by_cases hjL : j < L + 1
                · have hlt : j < k := by omega
                  have hjN : j < N.length := by rw [HN.out]; exact hlt
                  have hjM : j < M1.length := by rw [HMK1.out]; exact hlt
                  have HQJ := hide (HQG.out j hjN hjM)
                  have HMG := hide (List.getElem?_eq_getElem hjM)
                  have HMS := hide (fun x (h : Q[j]? = some x) => mixL_set HQM.out hjM x h)
                  have HML := hide (fun (h : Q[j]? = M1[j]?) => mixL_same HQM.out hjM h)
                  have HMM := hide (mixL_get HQM.out hjM)
                  have hz := HCT.out.le (List.getElem_mem hjN)
                  have hT1 := HCT.out.2
                  rw [← HT.out] at hz hT1
                  obtain ⟨b, o, _, rfl, _, hc⟩ := (HR.out _ FY.out).int (k := j) hlt
                  generalize N[j] = z at *
                  generalize M1[j] = m at *
                  have hjI : (j : Int) < k := by omega
                  have hjL2 : (j : Int) ≤ L := by omega
                  have hw4 : IntKind.i64.wrap ((j : Int) + 1) = j + 1 := IntWalk.i64_in _ (by omega)
                  by_cases hz1 : 0 < z
                  · have e1 : 0 ≤ z * s := Int.mul_nonneg hz.1 (by omega)
                    have e2 : z * s ≤ 562949953421312 := Int.le_trans (Int.mul_le_mul_of_nonneg_right (by omega : z ≤ 1099511627776) (by omega)) (Int.le_trans (Int.mul_le_mul_of_nonneg_left hsI (by omega)) (by decide))
                    have s1 : IntKind.i64.wrap (z * s) = z * s := IntWalk.i64_in _ (by omega)
                    have hz1b : decide (0 < z) = true := decide_eq_true hz1
                    by_cases hrare : z * s < T
                    · rw [if_pos ⟨hz1, hrare⟩] at HQJ
                      have HMS2 := hide (HMS.out _ HQJ.out)
                      have g0 : wr.cell? ⟨H + 1, j, none⟩ = some (.int .i64 m) := by rw [BGJ.out.cell]; simp [ints, HMM.out, HMG.out]
                      have g1 : wr.frozen? ⟨H + 1, j, none⟩ = false := BGJ.out.frozen j
                      have bgs := BGJ.out.set_ j (.int .i64 (-1))
                      rw [ints_set, HMS2.out] at bgs
                      have BGS := hide bgs
                      have hrb : decide (z * s < T) = true := decide_eq_true hrare
                      clear bgs
                      go_wp2_with fail
                      go_roundg (gk - 1)
                      case measure => have := HJ.out; omega
                      case rel => exact ⟨j + 1, by have := HJ.out; omega, by go_num, BGS.out, UY.out.setCell (p := ⟨H + 1, j, none⟩) (fun _ => rfl) _⟩
                    · rw [if_neg (fun h => hrare h.2)] at HQJ
                      have HMS2 := hide (HML.out (by rw [HQJ.out, HMG.out]))
                      have hrb : decide (z * s < T) = false := decide_eq_false hrare
                      go_wp2_with fail
                      go_roundg (gk - 1)
                      case measure => have := HJ.out; omega
                      case rel => exact ⟨j + 1, by have := HJ.out; omega, by go_num, by rw [← HMS2.out]; exact BGJ.out, UY.out⟩
                  · rw [if_neg (fun h => hz1 h.1)] at HQJ
                    have HMS2 := hide (HML.out (by rw [HQJ.out, HMG.out]))
                    have hz1b : decide (0 < z) = false := decide_eq_false hz1
                    go_wp2_with fail
                    go_roundg (gk - 1)
                    case measure => have := HJ.out; omega
                    case rel => exact ⟨j + 1, by have := HJ.out; omega, by go_num, by rw [← HMS2.out]; exact BGJ.out, UY.out⟩
                · obtain rfl : j = L + 1 := by have := HJ.out; omega
                  have hjI : ¬ ((L + 1 : Nat) : Int) ≤ L := by omega
                  have bt := BT.out.upd UY.out (by omega)
                  have t0 := bt.cell 0
                  have t1 := bt.cell 1
                  have z0 := bt.frozen 0
                  have z1 := bt.frozen 1
                  simp at t0 t1
                  have HBT := hide bt
                  have hw5 : IntKind.i64.wrap ((L : Int) + 1) = L + 1 := IntWalk.i64_in _ (by omega)
                  have hl2 : (L : Int) + 1 ≤ k := by omega
                  have hl3 : (0 : Int) ≤ (L : Int) + 1 := by omega
                  clear bt
                  go_wp2_with fail
                  refine bodyPost_ret (results_cell_tmp_row rfl _ _ H _ _ _ rfl ((HBT.out.set_ 0 (.int .i64 p)).set_ 1 (.slice (some ⟨H + 1, 0, none⟩) (L + 1) k)) Tryz.underlying25 rfl (by kernel_rfl)) rfl ?_
                  have hLQ : L + 1 ≤ Q.length := by rw [HQM.out, HMK1.out]; omega
                  have hLM : L + 1 ≤ M1.length := by rw [HMK1.out]; omega
                  have hln : (normN N p).length = L + 1 := by
                    rw [HNORM.out, List.length_take, Nat.min_eq_left hLQ]
                  have u3 := setTwoT wr H (.int .i64 p) (.slice (some ⟨H + 1, 0, none⟩) (L + 1) k)
                  have b3 := BGJ.out.upd u3 (by omega)
                  refine hR.out _ _ ⟨H + 1, k, by rw [hln]; rfl, ?_, by have := HH.out; omega, FY.out.trans u3 (fun b hb h => by have := HH.out; omega)⟩
                  have r3 := (Blk.rdg b3 rfl).take (k := L + 1) (by rw [mixL_length HQM.out hLM]; exact hLM)
                  rw [hln, HNORM.out]
                  have e3 : ints (Q.take (L + 1)) = (ints (mixL Q M1 (L + 1))).take (L + 1) := by
                    simp only [ints, ← List.map_take]
                    congr 1
                    unfold mixL
                    rw [List.take_append_of_le_length (by rw [List.length_take, Nat.min_eq_left hLQ]; exact Nat.le_refl _), List.take_take, Nat.min_self]
                  rw [e3]
                  exact r3
            · have hxs1 : (s : Int) < z1 := by have := HX1.out; omega
              have hz10 : 0 ≤ z1 := by omega
              have HZT := hide (show z1 ≤ 562949953421312 by have := HTK.out; have := HX1.out; have := HF1.out; have := HFF1.out; omega)
              obtain ⟨V, hV⟩ : ∃ V, V = dnV N M1 s T := ⟨_, rfl⟩
              have HVL := hide (show V.length = k by rw [hV, dnV_length HMO1.out.1, HN.out])
              have HVG := hide (show ∀ j (h1 : j < N.length) (h2 : j < M1.length), V[j]? = some (if 1 < M1[j] then some (-(N[j] * s - M1[j] * T)) else none) from fun j h1 h2 => by rw [hV]; exact dnV_get h1 h2)
              have HV := hide hV
              have NB := hide (show NBd N M1 s T from ⟨by omega, hsI, by rw [HT.out]; exact sum_nonneg HCT.out.1, by rw [HT.out]; exact HCT.out.2, fun y hy => by have := HCT.out.le hy; have := HCT.out.2; omega, fun y hy => by have := HMO1.out.mem hy; omega⟩)
              obtain ⟨wo, rfl⟩ : ∃ wo : World, wo = wr := ⟨_, rfl⟩
              obtain ⟨ko, hko⟩ : ∃ ko, ko = gk := ⟨_, rfl⟩
              have HKO := hide hko
              clear hV hko
              go_wp2_with fail
              go_loopg [16, 17] k (fun f q i wr => ∃ j qd : Nat, j + f = k ∧ i = .int .i64 j ∧ q = .int .i64 (bestI (argmax (V.take j))) ∧ wr = wo.drewN qd)
              case atStart => exact ⟨0, 0, by omega, rfl, rfl, rfl⟩
              case round =>
                obtain ⟨j, qd, hj, rfl, rfl, rfl⟩ := hrel
                have HJ := hide hj
                clear hj
                by_cases hjk : j < k
                · have hjN : j < N.length := by rw [HN.out]; exact hjk
                  have hjM : j < M1.length := by rw [HMK1.out]; exact hjk
                  have hjV : j < V.length := by rw [HVL.out]; exact hjk
                  have HST := hide (argmax_take hjV)
                  have hvj := HVG.out j hjN hjM
                  rw [List.getElem?_eq_getElem hjV] at hvj
                  have HVJ := hide (Option.some.inj hvj)
                  obtain ⟨m1, m2, m3, m4⟩ := NB.out.mul (List.getElem_mem hjN) (List.getElem_mem hjM)
                  obtain ⟨b, o, _, rfl, _, hc1⟩ := (HR.out _ FR1.out).int (k := j) hjk
                  have hc2 : wo.cell? ⟨H + 1, j, none⟩ = some (.int .i64 M1[j]) := (BG1.out.cell j).trans (by simp [ints, hjM])
                  generalize N[j] = x1 at *
                  generalize M1[j] = y1 at *
                  generalize V[j] = vj at *
                  have hj0 : (0 : Int) ≤ (j : Int) := by omega
                  have hjI : (j : Int) < k := by omega
                  have hw4 : IntKind.i64.wrap ((j : Int) + 1) = j + 1 := IntWalk.i64_in _ (by omega)
                  clear hvj
                  by_cases hx1 : 1 < y1
                  · rw [if_pos hx1] at HVJ
                    have hvj2 := HVJ.out
                    subst hvj2
                    have s1 : IntKind.i64.wrap (x1 * s) = x1 * s := IntWalk.i64_in _ (by omega)
                    have s2 : IntKind.i64.wrap (y1 * T) = y1 * T := IntWalk.i64_in _ (by omega)
                    have s3 : IntKind.i64.wrap (x1 * s - y1 * T) = x1 * s - y1 * T := IntWalk.i64_in _ (by omega)
                    have hx1b : decide (1 < y1) = true := decide_eq_true hx1
                    rcases hb : argmax (V.take j) with _ | ⟨b0, y0⟩
                    · rw [hb] at HST
                      have HST2 := hide (show argmax (V.take (j + 1)) = some (j, -(x1 * s - y1 * T)) from HST.out)
                      clear hb HST m1 m2 m3 m4
                      simp only [bestI]
                      go_wp2_with fail
                      go_quiet (fail)
                      go_wp2_with fail
                      go_roundg (gk - 1)
                      case measure => have := HJ.out; omega
                      case rel => exact ⟨j + 1, _, by have := HJ.out; omega, by go_num, by rw [HST2.out]; rfl, rfl⟩
                    · obtain ⟨hb0, hvb⟩ := argmax_lt hb
                      have hbk : b0 < k := by omega
                      have hbN : b0 < N.length := by rw [HN.out]; exact hbk
                      have hbM : b0 < M1.length := by rw [HMK1.out]; exact hbk
                      have hvb2 := HVG.out b0 hbN hbM
                      rw [hvb] at hvb2
                      obtain ⟨n1, n2, n3, n4⟩ := NB.out.mul (List.getElem_mem hbN) (List.getElem_mem hbM)
                      obtain ⟨bb, oo, _, ee, _, hd1⟩ := (HR.out _ FR1.out).int (k := b0) hbk
                      injection ee with ee
                      injection ee with ee1 ee2
                      subst ee1 ee2
                      have hd2 : wo.cell? ⟨H + 1, b0, none⟩ = some (.int .i64 M1[b0]) := (BG1.out.cell b0).trans (by simp [ints, hbM])
                      generalize N[b0] = xb at *
                      generalize M1[b0] = yb at *
                      have hxb : 1 < yb := by
                        by_cases h : 1 < yb
                        · exact h
                        · rw [if_neg h] at hvb2; simp at hvb2
                      rw [if_pos hxb] at hvb2
                      have hy0 : y0 = -(xb * s - yb * T) := by injection hvb2 with h; injection h
                      subst hy0
                      have s4 : IntKind.i64.wrap (xb * s) = xb * s := IntWalk.i64_in _ (by omega)
                      have s5 : IntKind.i64.wrap (yb * T) = yb * T := IntWalk.i64_in _ (by omega)
                      have s6 : IntKind.i64.wrap (xb * s - yb * T) = xb * s - yb * T := IntWalk.i64_in _ (by omega)
                      have hb00 : (0 : Int) ≤ (b0 : Int) := by omega
                      have hbI : (b0 : Int) < k := by omega
                      have hbneg : decide ((b0 : Int) < 0) = false := decide_eq_false (by omega)
                      rw [hb] at HST
                      have HST2 := hide (show argmax (V.take (j + 1)) = if -(xb * s - yb * T) < -(x1 * s - y1 * T) then some (j, -(x1 * s - y1 * T)) else some (b0, -(xb * s - yb * T)) from HST.out)
                      clear hb HST hvb hvb2 m1 m2 m3 m4 n1 n2 n3 n4
                      simp only [bestI]
                      by_cases hcmp : x1 * s - y1 * T < xb * s - yb * T
                      · rw [if_pos (by omega)] at HST2
                        have hcb : decide (x1 * s - y1 * T < xb * s - yb * T) = true := decide_eq_true hcmp
                        go_wp2_with fail
                        go_quiet (fail)
                        go_wp2_with fail
                        go_roundg (gk - 1)
                        case measure => have := HJ.out; omega
                        case rel => exact ⟨j + 1, _, by have := HJ.out; omega, by go_num, by rw [HST2.out]; rfl, rfl⟩
                      · rw [if_neg (by omega)] at HST2
                        have hcb : decide (x1 * s - y1 * T < xb * s - yb * T) = false := decide_eq_false hcmp
                        go_wp2_with fail
                        go_quiet (fail)
                        go_wp2_with fail
                        go_roundg (gk - 1)
                        case measure => have := HJ.out; omega
                        case rel => exact ⟨j + 1, _, by have := HJ.out; omega, by go_num, by rw [HST2.out]; rfl, rfl⟩
                  · rw [if_neg hx1] at HVJ
                    rw [HVJ.out] at HST
                    have HB := hide (show bestI (argmax (V.take (j + 1))) = bestI (argmax (V.take j)) by rw [HST.out]; rfl)
                    have hx1b : decide (1 < y1) = false := decide_eq_false hx1
                    clear HST
                    generalize bestI (argmax (V.take j)) = bi at *
                    go_wp2_with fail
                    go_quiet (fail)
                    go_wp2_with fail
                    go_roundg (gk - 1)
                    case measure => have := HJ.out; omega
                    case rel => exact ⟨j + 1, _, by have := HJ.out; omega, by go_num, by rw [HB.out], rfl⟩
                · obtain rfl : j = k := by have := HJ.out; omega
                  have hVt : V.take j = V := List.take_of_length_le (by have := HVL.out; omega)
                  obtain ⟨⟨jb, yb⟩, ha⟩ := dn_some (s := s) (tot := T) HMO1.out (by rw [← HU.out, HSUM1.out]; omega)
                  have haV : argmax V = some (jb, yb) := by rw [HV.out]; exact ha
                  obtain ⟨cc, m, hj1, hj2, hj0, hbump, hMO2, hsum2⟩ := dn_step HMO1.out ha
                  have hjM : jb < M1.length := (List.getElem?_eq_some_iff.1 hj2).1
                  have hjK : jb < j := by have := HMK1.out; omega
                  obtain ⟨hm0, hm1, -⟩ := HMO1.out.2 jb cc m hj1 hj2
                  have hd2 : (wo.drewN qd).cell? ⟨H + 1, jb, none⟩ = some (.int .i64 m) := ((BG1.out.drewN qd).cell jb).trans (by simp [ints, hj2])
                  have hfz : (wo.drewN qd).frozen? ⟨H + 1, jb, none⟩ = false := (BG1.out.drewN qd).frozen jb
                  have hb00 : (0 : Int) ≤ (jb : Int) := by omega
                  have hbI : (jb : Int) < j := by omega
                  have s7 : IntKind.i64.wrap (m - 1) = m - 1 := IntWalk.i64_in _ (by omega)
                  have s8 : IntKind.i64.wrap (z1 - 1) = z1 - 1 := IntWalk.i64_in _ (by have := HZT.out; omega)
                  have bs := (BG1.out.drewN qd).set_ jb (.int .i64 (m - 1))
                  rw [ints_set] at bs
                  have us := (UR1.out.drewN qd).setCell (p := ⟨H + 1, jb, none⟩) (fun _ => rfl) (.int .i64 (m - 1))
                  have hmm : m + -1 = m - 1 := by omega
                  rw [hmm] at hbump hMO2 hsum2
                  have BS := hide bs
                  have US := hide us
                  have MO2 := hide hMO2
                  have SUM2 := hide hsum2
                  have UP2 := hide (show dnN N s T f1 (upN N s T f0 B) = dnN N s T (ko - 1) (M1.set jb (m - 1)) by
                    rw [HUP1.out, ← HKO.out]
                    obtain ⟨g', hg'⟩ : ∃ g', ko = g' + 1 := ⟨ko - 1, by have := HKO.out; omega⟩
                    rw [hg']
                    show dnN N s T g' (bump M1 (-1) (argmax (dnV N M1 s T))) = _
                    rw [hbump]; rfl)
                  have X2 := hide (show z1 - 1 = s + (ko - 1 : Nat) by have := HKO.out; have := HX1.out; omega)
                  have FF2 := hide (show ko - 1 ≤ f1 by have := HKO.out; have := HFF1.out; omega)
                  rw [hVt, haV]
                  clear hVt ha haV hj1 hj2 hj0 hbump hMO2 hsum2 bs us hmm
                  simp only [bestI]
                  have hneg : decide ((jb : Int) < 0) = false := decide_eq_false (by omega)
                  go_wp2_with fail
                  go_roundg (ko - 1)
                  case measure => have := HKO.out; omega
                  case rel => exact ⟨M1.set jb (m - 1), z1 - 1, rfl, X2.out, FF2.out, BS.out, US.out, MO2.out, by rw [SUM2.out, HSUM1.out]; omega, UP2.out⟩
        · have hxs : x < (s : Int) := by have h1 := HX.out; have h2 := HF0.out; have h3 := HFF.out; omega
          have hMk : M.length = k := by rw [HMOM.out.1, HN.out]
          have hx0 : 0 ≤ x := by rw [← HSUM.out]; exact sum_nonneg (fun y hy => (HMOM.out.mem hy).1)
          obtain ⟨V, hV⟩ : ∃ V, V = upV N M s T := ⟨_, rfl⟩
          have HVL := hide (show V.length = k by rw [hV, upV_length HMOM.out.1, HN.out])
          have HVG := hide (show ∀ j (h1 : j < N.length) (h2 : j < M.length), V[j]? = some (if 0 < N[j] then some (N[j] * s - M[j] * T) else none) from fun j h1 h2 => by rw [hV]; exact upV_get h1 h2)
          have HV := hide hV
          have NB := hide (show NBd N M s T from ⟨by omega, hsI, by rw [HT.out]; exact sum_nonneg HCT.out.1, by rw [HT.out]; exact HCT.out.2, fun y hy => by have := HCT.out.le hy; have := HCT.out.2; omega, fun y hy => by have := HMOM.out.mem hy; have := HBD.out; omega⟩)
          have HMK := hide hMk
          obtain ⟨wo, rfl⟩ : ∃ wo : World, wo = wr := ⟨_, rfl⟩
          obtain ⟨ko, hko⟩ : ∃ ko, ko = gk := ⟨_, rfl⟩
          have HKO := hide hko
          have FRO := hide (F1.out.trans URM.out (fun b hb h => by have := HH.out; omega))
          clear hV hMk hko
          go_wp2_with fail
          go_loopg [14, 15] k (fun f q i wr => ∃ j qd : Nat, j + f = k ∧ i = .int .i64 j ∧ q = .int .i64 (bestI (argmax (V.take j))) ∧ wr = wo.drewN qd)
          case atStart => exact ⟨0, 0, by omega, rfl, rfl, rfl⟩
          case round =>
            obtain ⟨j, qd, hj, rfl, rfl, rfl⟩ := hrel
            have HJ := hide hj
            clear hj
            by_cases hjk : j < k
            · have hjN : j < N.length := by rw [HN.out]; exact hjk
              have hjM : j < M.length := by rw [HMK.out]; exact hjk
              have hjV : j < V.length := by rw [HVL.out]; exact hjk
              have HST := hide (argmax_take hjV)
              have hvj := HVG.out j hjN hjM
              rw [List.getElem?_eq_getElem hjV] at hvj
              have HVJ := hide (Option.some.inj hvj)
              obtain ⟨m1, m2, m3, m4⟩ := NB.out.mul (List.getElem_mem hjN) (List.getElem_mem hjM)
              obtain ⟨b, o, _, rfl, _, hc1⟩ := (HR.out _ FRO.out).int (k := j) hjk
              have hc2 : wo.cell? ⟨H + 1, j, none⟩ = some (.int .i64 M[j]) := (BGM.out.cell j).trans (by simp [ints, hjM])
              generalize N[j] = x1 at *
              generalize M[j] = y1 at *
              generalize V[j] = vj at *
              have hj0 : (0 : Int) ≤ (j : Int) := by omega
              have hjI : (j : Int) < k := by omega
              have hw4 : IntKind.i64.wrap ((j : Int) + 1) = j + 1 := IntWalk.i64_in _ (by omega)
              clear hvj
              by_cases hx1 : 0 < x1
              · rw [if_pos hx1] at HVJ
                have hvj2 := HVJ.out
                subst hvj2
                have s1 : IntKind.i64.wrap (x1 * s) = x1 * s := IntWalk.i64_in _ (by omega)
                have s2 : IntKind.i64.wrap (y1 * T) = y1 * T := IntWalk.i64_in _ (by omega)
                have s3 : IntKind.i64.wrap (x1 * s - y1 * T) = x1 * s - y1 * T := IntWalk.i64_in _ (by omega)
                have hx1b : decide (0 < x1) = true := decide_eq_true hx1
                rcases hb : argmax (V.take j) with _ | ⟨b0, y0⟩
                · rw [hb] at HST
                  have HST2 := hide (show argmax (V.take (j + 1)) = some (j, x1 * s - y1 * T) from HST.out)
                  clear hb HST m1 m2 m3 m4
                  simp only [bestI]
                  go_wp2_with fail
                  go_quiet (fail)
                  go_wp2_with fail
                  go_roundg (gk - 1)
                  case measure => have := HJ.out; omega
                  case rel => exact ⟨j + 1, _, by have := HJ.out; omega, by go_num, by rw [HST2.out]; rfl, rfl⟩
                · obtain ⟨hb0, hvb⟩ := argmax_lt hb
                  have hbk : b0 < k := by omega
                  have hbN : b0 < N.length := by rw [HN.out]; exact hbk
                  have hbM : b0 < M.length := by rw [HMK.out]; exact hbk
                  have hvb2 := HVG.out b0 hbN hbM
                  rw [hvb] at hvb2
                  obtain ⟨n1, n2, n3, n4⟩ := NB.out.mul (List.getElem_mem hbN) (List.getElem_mem hbM)
                  obtain ⟨bb, oo, _, ee, _, hd1⟩ := (HR.out _ FRO.out).int (k := b0) hbk
                  injection ee with ee
                  injection ee with ee1 ee2
                  subst ee1 ee2
                  have hd2 : wo.cell? ⟨H + 1, b0, none⟩ = some (.int .i64 M[b0]) := (BGM.out.cell b0).trans (by simp [ints, hbM])
                  generalize N[b0] = xb at *
                  generalize M[b0] = yb at *
                  have hxb : 0 < xb := by
                    by_cases h : 0 < xb
                    · exact h
                    · rw [if_neg h] at hvb2; simp at hvb2
                  rw [if_pos hxb] at hvb2
                  have hy0 : y0 = xb * s - yb * T := by injection hvb2 with h; injection h
                  subst hy0
                  have s4 : IntKind.i64.wrap (xb * s) = xb * s := IntWalk.i64_in _ (by omega)
                  have s5 : IntKind.i64.wrap (yb * T) = yb * T := IntWalk.i64_in _ (by omega)
                  have s6 : IntKind.i64.wrap (xb * s - yb * T) = xb * s - yb * T := IntWalk.i64_in _ (by omega)
                  have hb00 : (0 : Int) ≤ (b0 : Int) := by omega
                  have hbI : (b0 : Int) < k := by omega
                  have hbneg : decide ((b0 : Int) < 0) = false := decide_eq_false (by omega)
                  rw [hb] at HST
                  have HST2 := hide (show argmax (V.take (j + 1)) = if xb * s - yb * T < x1 * s - y1 * T then some (j, x1 * s - y1 * T) else some (b0, xb * s - yb * T) from HST.out)
                  clear hb HST hvb hvb2 m1 m2 m3 m4 n1 n2 n3 n4
                  simp only [bestI]
                  by_cases hcmp : xb * s - yb * T < x1 * s - y1 * T
                  · rw [if_pos hcmp] at HST2
                    have hcb : decide (xb * s - yb * T < x1 * s - y1 * T) = true := decide_eq_true hcmp
                    go_wp2_with fail
                    go_quiet (fail)
                    go_wp2_with fail
                    go_roundg (gk - 1)
                    case measure => have := HJ.out; omega
                    case rel => exact ⟨j + 1, _, by have := HJ.out; omega, by go_num, by rw [HST2.out]; rfl, rfl⟩
                  · rw [if_neg hcmp] at HST2
                    have hcb : decide (xb * s - yb * T < x1 * s - y1 * T) = false := decide_eq_false hcmp
                    go_wp2_with fail
                    go_quiet (fail)
                    go_wp2_with fail
                    go_roundg (gk - 1)
                    case measure => have := HJ.out; omega
                    case rel => exact ⟨j + 1, _, by have := HJ.out; omega, by go_num, by rw [HST2.out]; rfl, rfl⟩
              · rw [if_neg hx1] at HVJ
                rw [HVJ.out] at HST
                have HB := hide (show bestI (argmax (V.take (j + 1))) = bestI (argmax (V.take j)) by rw [HST.out]; rfl)
                have hx1b : decide (0 < x1) = false := decide_eq_false hx1
                clear HST
                generalize bestI (argmax (V.take j)) = bi at *
                go_wp2_with fail
                go_quiet (fail)
                go_wp2_with fail
                go_roundg (gk - 1)
                case measure => have := HJ.out; omega
                case rel => exact ⟨j + 1, _, by have := HJ.out; omega, by go_num, by rw [HB.out], rfl⟩
            · obtain rfl : j = k := by have := HJ.out; omega
              have hVt : V.take j = V := List.take_of_length_le (by have := HVL.out; omega)
              obtain ⟨⟨jb, yb⟩, ha⟩ := up_some (s := s) (tot := T) HMOM.out.1 HU0.out
              have haV : argmax V = some (jb, yb) := by rw [HV.out]; exact ha
              obtain ⟨cc, m, hj1, hj2, hj0, hbump, hMO2, hsum2⟩ := up_step HMOM.out ha
              have hjM : jb < M.length := (List.getElem?_eq_some_iff.1 hj2).1
              have hjK : jb < j := by have := HMK.out; omega
              obtain ⟨hm0, hm1, -⟩ := HMOM.out.2 jb cc m hj1 hj2
              have hd2 : (wo.drewN qd).cell? ⟨H + 1, jb, none⟩ = some (.int .i64 m) := ((BGM.out.drewN qd).cell jb).trans (by simp [ints, hj2])
              have hfz : (wo.drewN qd).frozen? ⟨H + 1, jb, none⟩ = false := (BGM.out.drewN qd).frozen jb
              have hb00 : (0 : Int) ≤ (jb : Int) := by omega
              have hbI : (jb : Int) < j := by omega
              have s7 : IntKind.i64.wrap (m + 1) = m + 1 := IntWalk.i64_in _ (by have := HBD.out; omega)
              have s8 : IntKind.i64.wrap (x + 1) = x + 1 := IntWalk.i64_in _ (by omega)
              have bs := (BGM.out.drewN qd).set_ jb (.int .i64 (m + 1))
              rw [ints_set] at bs
              have us := (URM.out.drewN qd).setCell (p := ⟨H + 1, jb, none⟩) (fun _ => rfl) (.int .i64 (m + 1))
              have BS := hide bs
              have US := hide us
              have MO2 := hide hMO2
              have SUM2 := hide hsum2
              have UP2 := hide (show upN N s T f0 B = upN N s T (ko - 1) (M.set jb (m + 1)) by
                rw [HUP.out, ← HKO.out]
                obtain ⟨g', hg'⟩ : ∃ g', ko = g' + 1 := ⟨ko - 1, by have := HKO.out; omega⟩
                rw [hg']
                show upN N s T g' (bump M 1 (argmax (upV N M s T))) = _
                rw [hbump]; rfl)
              have X2 := hide (show x + 1 = t - (ko - 1 : Nat) by have := HKO.out; have := HX.out; omega)
              have FF2 := hide (show ko - 1 ≤ f0 by have := HKO.out; have := HFF.out; omega)
              have BD2 := hide (show Bd + 1 + (ko - 1 : Nat) ≤ 1024 by have := HKO.out; have := HBD.out; omega)
              rw [hVt, haV]
              clear hVt ha haV hj1 hj2 hj0 hbump hMO2 hsum2 bs us
              simp only [bestI]
              have hneg : decide ((jb : Int) < 0) = false := decide_eq_false (by omega)
              go_wp2_with fail
              go_roundg (ko - 1)
              case measure => have := HKO.out; omega
              case rel => exact ⟨M.set jb (m + 1), Bd + 1, x + 1, rfl, X2.out, FF2.out, BS.out, US.out, MO2.out, BD2.out, by rw [SUM2.out, HSUM.out], UP2.out⟩

theorem rnormal_any (F : Nat → Prop) (A : Option Addr) (n c : Nat) (N : List Int) (w : World) (lg : Int) (hr : Rd w F A n (ints N)) (hfit : Fit N) (hn : (n : Int) ≤ 1099511627776) :
    Calls Tryz.prog 23 #[.slice A n c, .int .i64 lg] w fun e w' => if NormOk N lg then NewTabC w w' e lg (normN N lg.toNat) 0 else e = .returned (.tuple #[.agg #[.int .i64 0, .slice none 0 0], .int .i64 2]) ∧ Fresh w w' := by
  by_cases h : NormOk N lg
  · simp only [if_pos h]
    obtain ⟨p, rfl⟩ : ∃ p : Nat, lg = p := ⟨lg.toNat, by have := h.2.2.1; omega⟩
    exact rnormal_ok F A n c N w p hr hfit hn h
  · simp only [if_neg h]
    exact rnormal_no F A n c N w lg hr hfit hn h

end Go.Proofs.YtcdbfddoanigbaaGreat

/-
  The reference's Choose.
  Conditions: none beyond those of each theorem.
-/
namespace Go.Proofs.YtcdbfddoanigbaaGreat
open Go.RowKit
set_option linter.unusedVariables false
set_option linter.unusedSimpArgs false

theorem pickGo_at : ∀ (l : List (Option Int)) (i : Nat) (st : Int × Nat), (pickGo i l st).2 = st.2 ∨ (i ≤ (pickGo i l st).2 ∧ (pickGo i l st).2 < i + l.length)
  | [], i, st => .inl rfl
  | o :: l, i, st => by
    rw [pickGo, List.length_cons]
    rcases pickGo_at l (i + 1) (pickStep st i o) with h | h
    · rw [h]
      unfold pickStep
      split
      · exact .inl rfl
      · split
        · exact .inr ⟨Nat.le_refl _, by simp⟩
        · exact .inl rfl
    · exact .inr (by omega)
theorem pickN_at {l : List (Option Int)} (h : 0 < l.length) : (pickN l).2 < l.length := by
  unfold pickN
  rcases pickGo_at l 0 (-1, 0) with q | q <;> omega

theorem ownN_fit {p : Int} {C : List Int} (hp : 0 ≤ p ∧ p ≤ 2) (hC : C.length ≤ 100) : Fit (ownN p C).2 ∧ (ownN p C).2.length ≤ 100 := by
  have hb := part_bounds p
  unfold ownN
  split
  · rename_i h
    have h9 := h.2.2.2.1
    have h0 := h.2.2.1
    constructor
    · intro y hy
      have := normN_mem h.1 (p := (max (recL C (partX p)) 0).toNat) (by omega) y hy
      omega
    · have := normN_length_le C (max (recL C (partX p)) 0).toNat
      simp only
      omega
  · exact ⟨fun y hy => by simp at hy, by simp⟩

/-- what the reference's Choose leaves -/
def RChPost (w w' : World) (e : Ending) (r : Int × Int × List Int × Int) : Prop :=
  ∃ A n c, e = .returned (.tuple #[.int .i64 r.1, .agg #[.int .i64 r.2.1, .slice A n c], .int .i64 r.2.2.2]) ∧ Rd w' (fun _ => True) A n (ints r.2.2.1) ∧ Fresh w w'

set_option maxRecDepth 100000 in
set_option maxHeartbeats 2000000 in
theorem rchoose_no (F : Nat → Prop) (A B : Option Addr) (n c m d : Nat) (p lg : Int) (N C : List Int) (w : World) (hr : Rd w F A n (ints C)) (hfC : Fit C) (hn : n ≤ 100) (hp : 0 ≤ p ∧ p ≤ 2) (hno : ¬ (CtOk C ∧ 0 < usedC C)) :
    Calls Tryz.prog 8 #[.slice A n c, .int .i64 p, .agg #[.int .i64 lg, .slice B m d]] w fun e w' => RChPost w w' e (chooseN p lg N C) := by
  rw [chooseN_bad hno]
  obtain ⟨w0, hw0⟩ : ∃ w0, w0 = (w.alloc (.cells #[.int .i64 lg, .slice B m d] 25)).alloc (.cells #[.int .i64 0, .slice none 0 0] 25) := ⟨_, rfl⟩
  obtain ⟨H, hH⟩ : ∃ H, H = w.heap.size := ⟨_, rfl⟩
  have f0 : Fresh w w0 := by rw [hw0]; exact ((Upd.refl _ _).alloc _).alloc _
  have bt : Blk w0 (H + 1) 25 #[.int .i64 0, .slice none 0 0] := by rw [hw0]; exact blk_new (by rw [hH]; simp) _ _
  have hal := rcounts_any F A n c C w0 (hr.fresh f0) hfC (by omega)
  have hb := part_bounds p
  have HS := hide (fun W => rsym_any p W hp)
  have hs0 : (partS p == 0) = false := by simp; omega
  have hs1 : ¬ partS p = 0 := by omega
  have t0 := bt.cell 0
  have t1 := bt.cell 1
  have z0 := bt.frozen 0
  have z1 := bt.frozen 1
  simp at t0 t1
  have HBT := hide bt
  have FIN := hide (show Fresh w ((w0.setCell ⟨H + 1, 0, none⟩ (.int .i64 0)).setCell ⟨H + 1, 1, none⟩ (.slice none 0 0)) from f0.trans (setTwoT _ (H + 1) _ _) (fun b hb h => by omega))
  have HW := hide hw0
  have HH := hide hH
  have HK : Hid (Calls Tryz.prog 21 #[.slice A n c] w0 fun e w' => (∃ x y, e = .returned (.tuple #[.int .i64 x, .int .i64 y, .bool false])) ∧ w0 = w') :=
    hide (hal.mono fun e w' h => ⟨by have := h.1; unfold AllPost at this; rw [decide_eq_false hno] at this; exact ⟨_, _, this⟩, h.2.symm⟩)
  clear hw0 hH f0 bt hr hal hno hb
  generalize partS p = sy at *
  refine veil fun R hR => ?_
  go_enter Tryz.func8, Tryz.ntmps8
  go_upto_region 1 with fail
  have hz1 : (w.alloc (.cells #[.int .i64 lg, .slice B m d] 25)).heap.size = H + 1 := by rw [HH.out]; simp
  simp only [hz1, ← HH.out, ← HW.out]
  go_wp2_with fail
  refine HK.out.mono ?_
  rintro e wx ⟨⟨x, y, rfl⟩, rfl⟩
  go_wp2_with fail
  refine (HS.out _).mono ?_
  rintro e wx ⟨rfl, rfl⟩
  go_wp2_with fail
  refine bodyPost_ret (results_tmp_cell_tmp_row rfl _ _ (H + 1) _ _ _ rfl ((HBT.out.set_ 0 (.int .i64 0)).set_ 1 (.slice none 0 0)) Tryz.underlying25 rfl (by kernel_rfl)) rfl ?_
  exact hR.out _ _ ⟨none, 0, 0, rfl, Rd.nil _ _ _, FIN.out⟩

set_option maxRecDepth 100000 in
set_option maxHeartbeats 4000000 in
theorem rchoose_ok (F G : Nat → Prop) (A B : Option Addr) (n c m d : Nat) (p lg : Int) (N C : List Int) (w : World) (hs : Rd w G B m (ints N)) (hfN : Fit N) (hm : (m : Int) ≤ 1099511627776) (hr : Rd w F A n (ints C)) (hfC : Fit C) (hn : n ≤ 100) (hp : 0 ≤ p ∧ p ≤ 2) (hok : CtOk C ∧ 0 < usedC C) :
    Calls Tryz.prog 8 #[.slice A n c, .int .i64 p, .agg #[.int .i64 lg, .slice B m d]] w fun e w' => RChPost w w' e (chooseN p lg N C) := by
  have hC : C.length = n := by have := hr.1; simpa using this
  rw [rch_eq hp (by omega) hok]
  obtain ⟨w0, hw0⟩ : ∃ w0, w0 = (w.alloc (.cells #[.int .i64 lg, .slice B m d] 25)).alloc (.cells #[.int .i64 0, .slice none 0 0] 25) := ⟨_, rfl⟩
  obtain ⟨H, hH⟩ : ∃ H, H = w.heap.size := ⟨_, rfl⟩
  have f0 : Fresh w w0 := by rw [hw0]; exact ((Upd.refl _ _).alloc _).alloc _
  have bl : Blk w0 H 25 #[.int .i64 lg, .slice B m d] := by rw [hw0]; exact (blk_new hH _ _).alloc _
  have bt : Blk w0 (H + 1) 25 #[.int .i64 0, .slice none 0 0] := by rw [hw0]; exact blk_new (by rw [hH]; simp) _ _
  have hz0 : w0.heap.size = H + 2 := by rw [hw0, hH]; simp
  have hal := rcounts_any F A n c C w0 (hr.fresh f0) hfC (by omega)
  have hb := part_bounds p
  have HS := hide (fun W => rsym_any p W hp)
  have HX := hide (fun W => rlog_any p W hp)
  have HOF := hide (fun W => rof_any p W hp)
  have HLG := hide (fun W (h : Fresh w W) => rlog07_any F A n c C W (partX p) (hr.fresh h) hfC (by omega) (by omega))
  have HNM : Hid (∀ W, Fresh w W → Calls Tryz.prog 23 #[.slice A n c, .int .i64 (max (recL C (partX p)) 0)] W fun e w' => ∃ Ao no co x, e = .returned (.tuple #[.agg #[.int .i64 (ownN p C).1, .slice Ao no co], .int .i64 x]) ∧ Rd w' (fun b => W.heap.size ≤ b) Ao no (ints (ownN p C).2) ∧ Fresh W w') := by
    refine hide fun W h => (rnormal_any F A n c C W (max (recL C (partX p)) 0) (hr.fresh h) hfC (by omega)).mono fun e w' h => ?_
    unfold ownN
    by_cases hq : NormOk C (max (recL C (partX p)) 0)
    · rw [if_pos hq] at h ⊢
      obtain ⟨g, cc, he, hrd, hg, hf⟩ := h
      exact ⟨_, _, cc, 0, he, hrd.mono (fun b hb => by subst hb; exact hg), hf⟩
    · rw [if_neg hq] at h ⊢
      exact ⟨none, 0, 0, 2, h.1, Rd.nil _ _ _, h.2⟩
  have hof := ownN_fit (p := p) hp (C := C) (by omega)
  have hs0 : (partS p == 0) = false := by simp; omega
  have hs1 : ¬ partS p = 0 := by omega
  have HBL := hide bl
  have HBT := hide bt
  have F0 := hide f0
  have HW := hide hw0
  have HH := hide hH
  have HZ0 := hide hz0
  have HR := hide (fun W (h : Fresh w W) => hr.fresh h)
  have HSR := hide (fun W (h : Fresh w W) => hs.both.fresh h)
  have HOK := hide hok
  have HK : Hid (Calls Tryz.prog 21 #[.slice A n c] w0 fun e w' => e = .returned (.tuple #[.int .i64 C.sum, .int .i64 (usedC C : Nat), .bool true]) ∧ w0 = w') :=
    hide (hal.mono fun e w' h => ⟨by have := h.1; unfold AllPost at this; rw [decide_eq_true hok, if_pos hok.1, if_pos hok.1] at this; exact this, h.2.symm⟩)
  obtain ⟨RC, hRC⟩ : ∃ RC, RC = rcandsN p lg N C := ⟨_, rfl⟩
  obtain ⟨O, hO⟩ : ∃ O, O = RC.map (priceN p C) := ⟨_, rfl⟩
  unfold rchN
  rw [← hRC, ← hO]
  obtain ⟨uc, huc⟩ : ∃ uc, uc = usedC C := ⟨_, rfl⟩
  rw [← huc] at HK
  obtain ⟨lo, No, hown⟩ : ∃ lo No, ownN p C = (lo, No) := ⟨_, _, rfl⟩
  rw [hown] at HNM hof
  have hrc : RC = [(3, lg, N), (0, partL p, partN p), (if uc = 1 then 1 else 2, lo, No)] := by rw [hRC, rcandsN, hown, huc]
  have HRC := hide hrc
  have HO := hide hO
  have HOFIT := hide hof
  obtain ⟨rl, hrl⟩ : ∃ rl, rl = recL C (partX p) := ⟨_, rfl⟩
  rw [← hrl] at HNM HLG
  clear hw0 hH f0 bl bt hr hs hal hok hb hz0 hRC hO hown hrc hof hrl huc
  obtain ⟨mo, hmo⟩ : ∃ mo : Int, mo = if uc = 1 then 1 else 2 := ⟨_, rfl⟩
  have HMO := hide hmo
  rw [← hmo] at HRC
  clear hmo
  generalize partX p = px at *
  generalize partS p = sy at *
  refine veil fun R hR => ?_
  go_enter Tryz.func8, Tryz.ntmps8
  go_upto_region 1 with fail
  have hz1 : (w.alloc (.cells #[.int .i64 lg, .slice B m d] 25)).heap.size = H + 1 := by rw [HH.out]; simp
  simp only [hz1, ← HH.out, ← HW.out]
  go_wp2_with fail
  refine HK.out.mono ?_
  rintro e wx ⟨rfl, rfl⟩
  go_wp2_with fail
  refine (HS.out _).mono ?_
  rintro e wx ⟨rfl, rfl⟩
  go_wp2_with fail
  refine (HX.out _).mono ?_
  rintro e wx ⟨rfl, rfl⟩
  go_wp2_with fail
  refine (HLG.out _ F0.out).mono ?_
  rintro e wx ⟨rfl, rfl⟩
  go_wp2_with fail
  refine (HNM.out _ F0.out).mono ?_
  rintro e w1 ⟨Ao, no, co, xo, rfl, ro, f1⟩
  go_upto_region 6 with fail
  obtain ⟨K2, hK2⟩ : ∃ K2, K2 = w1.heap.size := ⟨_, rfl⟩
  obtain ⟨w2, hw2⟩ : ∃ w2, w2 = w1.alloc (.cells #[.int .i64 lo, .slice Ao no co] 25) := ⟨_, rfl⟩
  rw [← hw2, ← hK2]
  have f2 : Fresh w1 w2 := by rw [hw2]; exact (Upd.refl _ _).alloc _
  have bo : Blk w2 K2 25 #[.int .i64 lo, .slice Ao no co] := by rw [hw2]; exact blk_new hK2 _ _
  have hz2 : w2.heap.size = K2 + 1 := by rw [hw2, hK2]; simp
  have HZ2 := hide hz2
  have BO := hide bo
  have RO := hide ((ro.mono (G := fun b => b ≠ H + 1) (fun b hb => by have := HZ0.out; omega)).fresh f2)
  have F2 := hide ((F0.out.trans' f1).trans' f2)
  have F02 := hide (f1.trans' f2)
  clear hK2 hw2 f2 bo ro f1 hz2 HLG HNM HK HX HS
  go_upto_if 47 with fail
  go_cut [14] (fun q wx => q = .int .i64 mo ∧ wx = w2)
  case first =>
    by_cases hu1 : uc = 1
    · have hu2 : ((uc : Int) == 1) = true := by simp; omega
      have hmo1 : mo = 1 := by rw [HMO.out, if_pos hu1]
      subst hmo1
      go_wp2_with fail
      go_meet
      exact ⟨rfl, rfl⟩
    · have hu2 : ((uc : Int) == 1) = false := by simp; omega
      have hmo1 : mo = 2 := by rw [HMO.out, if_neg hu1]
      subst hmo1
      go_wp2_with fail
      go_meet
      exact ⟨rfl, rfl⟩
  case rest =>
    obtain ⟨rfl, rfl⟩ := hcut
    go_upto_region 9 with fail
    obtain ⟨gm, hgm⟩ : ∃ gm, gm = wc.heap.size := ⟨_, rfl⟩
    obtain ⟨w3, hw3⟩ : ∃ w3, w3 = wc.alloc (.cells #[.int .i64 3, .int .i64 0, .int .i64 mo] 3) := ⟨_, rfl⟩
    rw [← hw3, ← hgm]
    have f3 : Fresh wc w3 := by rw [hw3]; exact (Upd.refl _ _).alloc _
    have bm : Blk w3 gm 3 #[.int .i64 3, .int .i64 0, .int .i64 mo] := by rw [hw3]; exact blk_new hgm _ _
    have BM := hide bm
    have RO3 := hide (RO.out.fresh f3)
    have F3 := hide (F2.out.trans' f3)
    have BO3 := hide (BO.out.fresh f3)
    have BL3 := hide ((HBL.out.fresh F02.out).fresh f3)
    have BT3 := hide ((HBT.out.fresh F02.out).fresh f3)
    clear hgm hw3 f3 bm RO F2 BO F02
    go_cut [16] (fun q wx => ∃ (g g2 : Nat), q = .slice (some ⟨g, 0, none⟩) 3 3 ∧ Blk wx g 25 #[.int .i64 lg, .slice B m d, .int .i64 (partL p), .slice (some ⟨g2, 0, none⟩) (partN p).length (partN p).length, .int .i64 lo, .slice Ao no co] ∧ Rd wx (fun b => b ≠ H + 1) (some ⟨g2, 0, none⟩) (partN p).length (ints (partN p)) ∧ Fresh w3 wx)
    case first =>
      have HSS := hide (show ∀ W, Fresh w3 W → (Fresh w3 W ∧ W.cell? ⟨H, 0, none⟩ = some (.int .i64 lg) ∧ W.cell? ⟨H, 1, none⟩ = some (.slice B m d) ∧ W.cell? ⟨K2, 0, none⟩ = some (.int .i64 lo) ∧ W.cell? ⟨K2, 1, none⟩ = some (.slice Ao no co)) from fun W h => ⟨h, by simpa using (BL3.out.fresh h).cell 0, by simpa using (BL3.out.fresh h).cell 1, by simpa using (BO3.out.fresh h).cell 0, by simpa using (BO3.out.fresh h).cell 1⟩)
      have HOF3 := hide (fun W (h : Fresh w3 W) => (HOF.out W).mono (R' := fun e w' => ∃ g2, e = .returned (.agg #[.int .i64 (partL p), .slice (some ⟨g2, 0, none⟩) (partN p).length (partN p).length]) ∧ Rd w' (fun b => b ≠ H + 1) (some ⟨g2, 0, none⟩) (partN p).length (ints (partN p)) ∧ Fresh W w') (fun e w' q => by
        obtain ⟨g2, he, r2, hg2, f2⟩ := q
        have h1 := BT3.out.lt
        have h2 := h.size
        exact ⟨g2, he, r2.mono (fun b hb => by omega), f2⟩))
      have HSA := hide (fun W o (h : Fresh w3 W) => HSS.out _ (h.alloc o))
      go_region_held3 (fun W => Fresh w3 W ∧ W.cell? ⟨H, 0, none⟩ = some (.int .i64 lg) ∧ W.cell? ⟨H, 1, none⟩ = some (.slice B m d) ∧ W.cell? ⟨K2, 0, none⟩ = some (.int .i64 lo) ∧ W.cell? ⟨K2, 1, none⟩ = some (.slice Ao no co))
        (first | exact HSS.out _ (by assumption) | exact HSS.out _ (And.left (by assumption)) | exact HSS.out _ (Upd.refl _ _) | exact HSS.out _ (Upd.refl _ _).drew | exact HSA.out _ _ (by assumption) | exact HSA.out _ _ (And.left (by assumption)))
        (first
          | (go_at_call 26; refine (HOF3.out _ (And.left (by assumption))).mono ?_; rintro e w' ⟨g2, rfl, r2, f2⟩; have f3x : Fresh w3 w' := Upd.trans' (And.left (by assumption)) f2))
      all_goals go_wp2_with fail
      all_goals go_meet
      all_goals exact ⟨_, g2, rfl, Blk.new _ _ _, r2.fresh ((Upd.refl _ _).alloc _), f3x.alloc _⟩
    case rest =>
      obtain ⟨g, g2, rfl, bq, rq, fq⟩ := hcut
      obtain ⟨w4, rfl⟩ : ∃ w4, w4 = wc := ⟨_, rfl⟩
      have F4 := hide (F3.out.trans' fq)
      have BT4 := hide (BT3.out.fresh fq)
      have HCAND : Hid (∀ j : Nat, j < 3 → ∃ (mj lj : Int) (Nj : List Int) (Aj : Option Addr) (nj cj : Nat), RC[j]? = some (mj, lj, Nj) ∧ (0 ≤ mj ∧ mj ≤ 3) ∧ (∀ W, Fresh w4 W → W.cell? ⟨gm, j, none⟩ = some (.int .i64 mj) ∧ W.cell? ⟨g, j * 2, none⟩ = some (.int .i64 lj) ∧ W.cell? ⟨g, j * 2 + 1, none⟩ = some (.slice Aj nj cj) ∧ Rd W (fun b => b ≠ H + 1) Aj nj (ints Nj)) ∧ Fit Nj ∧ (nj : Int) ≤ 1099511627776) := by
        refine hide fun j hj => ?_
        have hmo : 0 ≤ mo ∧ mo ≤ 3 := by have := HMO.out; split at this <;> omega
        have e0 := HSR.out w4 F4.out
        have bm4 := BM.out.fresh fq
        match j, hj with
        | 0, _ => exact ⟨3, lg, N, B, m, d, by rw [HRC.out]; rfl, by omega, fun W h => ⟨by simpa using (bm4.fresh h).cell 0, by simpa using (bq.fresh h).cell 0, by simpa using (bq.fresh h).cell 1, (e0.mono (fun b hb => by have := HH.out; omega)).fresh h⟩, hfN, hm⟩
        | 1, _ => exact ⟨0, partL p, partN p, _, _, _, by rw [HRC.out]; rfl, by omega, fun W h => ⟨by simpa using (bm4.fresh h).cell 1, by simpa using (bq.fresh h).cell 2, by simpa using (bq.fresh h).cell 3, rq.fresh h⟩, partN_fit p, by have := partN_le p; omega⟩
        | 2, _ => exact ⟨mo, lo, No, Ao, no, co, by rw [HRC.out]; rfl, hmo, fun W h => ⟨by simpa using (bm4.fresh h).cell 2, by simpa using (bq.fresh h).cell 4, by simpa using (bq.fresh h).cell 5, (RO3.out.fresh fq).fresh h⟩, HOFIT.out.1, by have h1 := RO3.out.1; have h2 := HOFIT.out.2; simp at h1 h2; omega⟩
      have HO3 := hide (show O.length = 3 by rw [HO.out, HRC.out]; rfl)
      have HOJ := hide (show ∀ j c, RC[j]? = some c → O[j]? = some (priceN p C c) from fun j c h => by rw [HO.out, List.getElem?_map, h]; rfl)
      clear bq rq fq BM RO3 F3 BO3 BL3 BT3 HZ2
      clear HOFIT HRC HMO HO HSR
      go_wp2_with fail
      go_loopg [17, 18, 19] 3 (fun f be at' i wr => ∃ j : Nat, j + f = 3 ∧ i = .int .i64 j ∧ be = .int .i64 (pickN (O.take j)).1 ∧ at' = .int .i64 (pickN (O.take j)).2 ∧ Fresh w4 wr)
      case atStart => exact ⟨0, by omega, rfl, rfl, rfl, Upd.refl _ _⟩
      case round =>
        obtain ⟨j, hj, rfl, rfl, rfl, fr⟩ := hrel
        have HJ := hide hj
        have FR := hide fr
        clear hj fr
        by_cases hj3 : j < 3
        · obtain ⟨mj, lj, Nj, Aj, nj, cj, hrcj, hmj, hcells, hfj, hnj⟩ := HCAND.out j hj3
          have HCJ := hide hcells
          have HRJ := hide hrcj
          have hjI : (j : Int) < 3 := by omega
          have hj0 : (0 : Int) ≤ j := by omega
          have hw4 : IntKind.i64.wrap ((j : Int) + 1) = j + 1 := IntWalk.i64_in _ (by omega)
          obtain ⟨c0, c1, c2, -⟩ := hcells wr FR.out
          have HBY := hide (fun W (h : Fresh w4 W) => rbytes_any _ Aj nj cj mj lj p Nj W (HCJ.out W h).2.2.2 hfj hnj hmj hp)
          clear hcells hrcj
          have HPS := hide (show ∀ o, O[j]? = some o → pickN (O.take (j + 1)) = pickStep (pickN (O.take j)) j o from fun o ho => by
            rw [List.take_add_one, ho]
            show pickN (O.take j ++ [o]) = _
            rw [pickN_snoc, List.length_take, HO3.out]
            congr 1
            omega)
          obtain ⟨be, at1, hpj⟩ : ∃ be at1, pickN (O.take j) = (be, at1) := ⟨_, _, rfl⟩
          rw [hpj] at HPS
          rw [hpj]
          clear hpj
          dsimp only
          go_upto_region 14 with fail
          refine wp_region_quiet_tail 9 (by kernel_rfl) (by kernel_rfl) ?_
          simp only [List.take_succ_cons, List.take_zero, List.drop_succ_cons, List.drop_zero]
          repeat (first | go_big_quiet_step (fail) | quiet_step (fail))
          refine wpQuiet_nil ?_
          intro w5 hw5
          have q5 : Qt wr w5 := hw5
          have F5 := hide (FR.out.trans' q5.fresh)
          clear q5 hw5 c0 c1 c2
          go_wp2_with fail
          refine (HBY.out _ F5.out).mono ?_
          rintro e w6 ⟨rfl, f6⟩
          have F6 := hide (F5.out.trans' f6)
          obtain ⟨-, c1, c2, r6⟩ := HCJ.out w6 F6.out
          have R6 := hide r6
          clear f6 r6 HBY
          by_cases hen : (encN mj p lj Nj).1 = 0
          · have hvp : Valid lj Nj (partS p) (partX p) := by
              unfold encN at hen
              rw [if_neg (by omega)] at hen
              split at hen
              · assumption
              · simp at hen
            have hv := valid_wide hvp
            have HPR := hide (fun W (h : Fresh w4 W) => rprice_any F _ A Aj n c nj cj lj Nj C W (HCJ.out W h).2.2.2 hfj (HR.out W (F4.out.trans' h)) (by omega) hv HOK.out.1)
            have hel := encN_len mj p lj Nj hp
            have hrl := (recL_iff (C := C) (by omega)).2 HOK.out
            have hpn : priceN p C (mj, lj, Nj) = (costGo lj Nj 0 C 0).map fun a : Int => a + 8 * ((encN mj p lj Nj).2.length : Int) := by
              unfold priceN costN
              simp only [hen, if_pos (show Valid lj Nj 256 9 ∧ 0 ≤ recL C 9 from ⟨hv, hrl⟩)]
              cases costGo lj Nj 0 C 0 <;> simp
            have HOP := hide (HOJ.out j _ HRJ.out)
            have hnn := fun a => costGo_nonneg hv C 0 0 a HOK.out.1.1 (by omega)
            have hrg := fun a => costGo_range (lg := lj) (N := Nj) ⟨hv.1, by have := hv.2.1; have := hv.2.2.1; omega⟩ (fun v hv => by have := hfj v hv; omega) C 0 0 a HOK.out.1.1
            have hsum := HOK.out.1.2
            rw [if_pos hen]
            rw [hpn] at HOP
            generalize (encN mj p lj Nj).2.length = el at *
            clear hen hvp hv hrl hpn
            have hel0 : (0 : Int) ≤ el := by omega
            have hel1 : ¬ (el : Int) < 0 := by omega
            generalize costGo lj Nj 0 C 0 = oc at *
            rcases oc with _ | a
            · have HP2 := hide (HPS.out _ HOP.out)
              clear HPS HOP hnn hrg
              simp only [Option.map_none, pickStep] at HP2
              go_wp2_with fail
              refine (HPR.out _ F6.out).mono ?_
              rintro e w7 ⟨⟨a, rfl, h⟩, f7⟩
              have ha : a = -1 := by
                rcases h with h | h
                · cases h
                · exact h.2
              subst ha
              have F7 := hide (F6.out.trans' f7)
              clear h f7 c1 c2
              go_wp2_with fail
              go_roundg (gk - 1)
              case measure => have := HJ.out; omega
              case rel => exact ⟨j + 1, by have := HJ.out; omega, by go_num, by rw [HP2.out], by rw [HP2.out], F7.out⟩
            · have ha0 := hnn a rfl
              have ha1 := hrg a rfl
              have HP2 := hide (HPS.out _ HOP.out)
              have hdc : ¬ a < 0 := by omega
              have s1 : IntKind.i64.wrap (8 * (el : Int)) = 8 * el := IntWalk.i64_in _ (by omega)
              have s2 : IntKind.i64.wrap (8 * (el : Int) + a) = 8 * el + a := IntWalk.i64_in _ (by omega)
              clear HPS HOP hnn hrg ha1
              simp only [Option.map_some, pickStep] at HP2
              rw [Int.add_comm a] at HP2
              go_wp2_with fail
              refine (HPR.out _ F6.out).mono ?_
              rintro e w7 ⟨⟨a', rfl, h⟩, f7⟩
              have ha : a = a' := by
                rcases h with h | h
                · exact Option.some.inj h
                · cases h.1
              subst ha
              have F7 := hide (F6.out.trans' f7)
              obtain ⟨-, d1, d2, -⟩ := HCJ.out w7 F7.out
              clear h f7 c1 c2
              go_wp2_with fail
              refine (HPR.out _ F7.out).mono ?_
              rintro e w8 ⟨⟨a', rfl, h⟩, f8⟩
              have ha : a = a' := by
                rcases h with h | h
                · exact Option.some.inj h
                · cases h.1
              subst ha
              have F8 := hide (F7.out.trans' f8)
              clear h f8 d1 d2
              by_cases hb1 : be < 0
              · rw [if_pos (.inl hb1)] at HP2
                have hb2 : decide (be < 0) = true := decide_eq_true hb1
                go_wp2_with fail
                go_roundg (gk - 1)
                case measure => have := HJ.out; omega
                case rel => exact ⟨j + 1, by have := HJ.out; omega, by go_num, by rw [HP2.out], by rw [HP2.out], F8.out⟩
              · have hb2 : decide (be < 0) = false := decide_eq_false hb1
                by_cases hb3 : 8 * (el : Int) + a < be
                · rw [if_pos (.inr hb3)] at HP2
                  have hb4 : decide (8 * (el : Int) + a < be) = true := decide_eq_true hb3
                  go_wp2_with fail
                  go_roundg (gk - 1)
                  case measure => have := HJ.out; omega
                  case rel => exact ⟨j + 1, by have := HJ.out; omega, by go_num, by rw [HP2.out], by rw [HP2.out], F8.out⟩
                · rw [if_neg (fun q => q.elim hb1 hb3)] at HP2
                  have hb4 : decide (8 * (el : Int) + a < be) = false := decide_eq_false hb3
                  go_wp2_with fail
                  go_roundg (gk - 1)
                  case measure => have := HJ.out; omega
                  case rel => exact ⟨j + 1, by have := HJ.out; omega, by go_num, by rw [HP2.out], by rw [HP2.out], F8.out⟩
          · have hpn : priceN p C (mj, lj, Nj) = none := if_neg (fun q => hen q.1)
            have HOP := hide (HOJ.out j _ HRJ.out)
            rw [hpn] at HOP
            have HP2 := hide (HPS.out _ HOP.out)
            simp only [pickStep] at HP2
            rw [if_neg hen]
            clear hpn HOP hen c1 c2 HPS
            go_wp2_with fail
            go_roundg (gk - 1)
            case measure => have := HJ.out; omega
            case rel => exact ⟨j + 1, by have := HJ.out; omega, by go_num, by rw [HP2.out], by rw [HP2.out], F6.out⟩
        · obtain rfl : j = 3 := by have := HJ.out; omega
          have hot : O.take 3 = O := List.take_of_length_le (by have := HO3.out; omega)
          rw [hot]
          have hat := pickN_at (l := O) (by have := HO3.out; omega)
          rw [HO3.out] at hat
          obtain ⟨be, at1, hpo⟩ : ∃ be at1, pickN O = (be, at1) := ⟨_, _, rfl⟩
          rw [hpo] at hat hR ⊢
          dsimp only at hat hR ⊢
          have bt := BT4.out.fresh FR.out
          have t0 := bt.cell 0
          have t1 := bt.cell 1
          have z0 := bt.frozen 0
          have z1 := bt.frozen 1
          simp at t0 t1
          have HBT5 := hide bt
          clear bt hot hpo
          by_cases hb1 : be < 0
          · rw [if_pos hb1] at hR
            have hb2 : decide (be < 0) = true := decide_eq_true hb1
            go_wp2_with fail
            refine bodyPost_ret (results_tmp_cell_tmp_row rfl _ _ (H + 1) _ _ _ rfl ((HBT5.out.set_ 0 (.int .i64 0)).set_ 1 (.slice none 0 0)) Tryz.underlying25 rfl (by kernel_rfl)) rfl ?_
            exact hR.out _ _ ⟨none, 0, 0, rfl, Rd.nil _ _ _, (F4.out.trans' FR.out).trans (setTwoT _ (H + 1) _ _) (fun b hb h => by have := HH.out; omega)⟩
          · rw [if_neg hb1] at hR
            have hb2 : decide (be < 0) = false := decide_eq_false hb1
            obtain ⟨mj, lj, Nj, Aj, nj, cj, hrcj, hmj, hcells, hfj, hnj⟩ := HCAND.out at1 hat
            rw [hrcj] at hR
            dsimp only at hR
            have hjI : (at1 : Int) < 3 := by omega
            have hj0 : (0 : Int) ≤ at1 := by omega
            obtain ⟨c0, c1, c2, r2⟩ := hcells wr FR.out
            have R2 := hide r2
            clear hcells hrcj r2
            go_upto_region 21 with fail
            refine wp_region_quiet_tail 9 (by kernel_rfl) (by kernel_rfl) ?_
            simp only [List.take_succ_cons, List.take_zero, List.drop_succ_cons, List.drop_zero]
            repeat (first | go_big_quiet_step (fail) | quiet_step (fail))
            refine wpQuiet_nil ?_
            intro w5 hw5
            have q5 : Qt wr w5 := hw5
            have bt5 := HBT5.out.fresh q5.fresh
            have z0 := bt5.frozen 0
            have z1 := bt5.frozen 1
            have t0 := bt5.cell 0
            have t1 := bt5.cell 1
            simp at t0 t1
            have BT5 := hide bt5
            have R5 := hide (R2.out.fresh q5.fresh)
            have F5 := hide ((F4.out.trans' FR.out).trans' q5.fresh)
            clear q5 hw5 bt5
            go_wp2_with fail
            refine bodyPost_ret (results_tmp_cell_tmp_row rfl _ _ (H + 1) _ _ _ rfl ((BT5.out.set_ 0 (.int .i64 lj)).set_ 1 (.slice Aj nj cj)) Tryz.underlying25 rfl (by kernel_rfl)) rfl ?_
            exact hR.out _ _ ⟨Aj, nj, cj, rfl, (R5.out.upd (setTwoT w5 (H + 1) (.int .i64 lj) (.slice Aj nj cj)) (fun b _ h h' => h h')).mono (fun _ _ => True.intro), F5.out.trans (setTwoT _ (H + 1) _ _) (fun b hb h => by have := HH.out; omega)⟩

theorem rchoose_any (F G : Nat → Prop) (A B : Option Addr) (n c m d : Nat) (p lg : Int) (N C : List Int) (w : World) (hs : Rd w G B m (ints N)) (hfN : Fit N) (hm : (m : Int) ≤ 1099511627776) (hr : Rd w F A n (ints C)) (hfC : Fit C) (hn : n ≤ 100) (hp : 0 ≤ p ∧ p ≤ 2) :
    Calls Tryz.prog 8 #[.slice A n c, .int .i64 p, .agg #[.int .i64 lg, .slice B m d]] w fun e w' => RChPost w w' e (chooseN p lg N C) := by
  by_cases hok : CtOk C ∧ 0 < usedC C
  · exact rchoose_ok F G A B n c m d p lg N C w hs hfN hm hr hfC hn hp hok
  · exact rchoose_no F A B n c m d p lg N C w hr hfC hn hp hok

end Go.Proofs.YtcdbfddoanigbaaGreat

/-
  ModesChoose: the law's function answers true.
  Conditions: none beyond those of each theorem.
-/
namespace Go.Proofs.YtcdbfddoanigbaaGreat
open Go.RowKit
set_option linter.unusedVariables false
set_option linter.unusedSimpArgs false

theorem chooseN_len {p lg : Int} {N C : List Int} (hN : N.length ≤ 100) (hC : C.length ≤ 100) : (chooseN p lg N C).2.2.1.length ≤ 1000 := by
  by_cases hp : p < 0 ∨ 2 < p
  · have h : chooseN p lg N C = (0, 0, [], 2) := if_pos hp
    rw [h]; simp
  · by_cases hok : CtOk C ∧ 0 < usedC C
    · rw [rch_eq (by omega) hC hok]
      unfold rchN
      split
      · simp
      · split
        · simp
        · rename_i c hc
          have hm := List.mem_of_getElem? hc
          unfold rcandsN at hm
          simp only [List.mem_cons, List.not_mem_nil, or_false] at hm
          rcases hm with rfl | rfl | rfl
          · simp only; omega
          · have := partN_le p; simp only; omega
          · have := (ownN_fit (p := p) (by omega) hC).2; simp only; omega
    · rw [chooseN_bad hok]; simp

set_option maxRecDepth 100000 in
set_option maxHeartbeats 4000000 in
theorem choose24_any (F G : Nat → Prop) (A B : Option Addr) (n c m d : Nat) (p lg : Int) (N C : List Int) (w : World) (hs : Rd w G B m (ints N)) (hfit : Fit N) (hr : Rd w F A n (ints C)) (hfitC : Fit C) :
    Calls Tryz.prog 3 #[.slice A n c, .int .i64 p, .agg #[.int .i64 lg, .slice B m d]] w fun e w' => e = .returned (.bool true) ∧ Fresh w w' := by
  have hkn := hide known24_any
  obtain ⟨w0, hw0⟩ : ∃ w0, w0 = w.alloc (.cells #[.int .i64 lg, .slice B m d] 25) := ⟨_, rfl⟩
  obtain ⟨H, hH⟩ : ∃ H, H = w.heap.size := ⟨_, rfl⟩
  have f0 : Fresh w w0 := by rw [hw0]; exact (Upd.refl _ _).alloc _
  have bt : Blk w0 H 25 #[.int .i64 lg, .slice B m d] := by rw [hw0]; exact blk_new hH _ _
  have t0 := bt.cell 0
  have t1 := bt.cell 1
  simp at t0 t1
  have hCl : C.length = n := by have := hr.1; simpa using this
  have hNl : N.length = m := by have := hs.1; simpa using this
  have HR := hide (fun W (h : Fresh w W) => hr.fresh h)
  have HS := hide (fun W (h : Fresh w W) => hs.fresh h)
  have HF := hide hfit
  have HFC := hide hfitC
  have BT := hide bt
  have F0 := hide f0
  have HW := hide hw0
  have HH := hide hH
  clear hr hs hfit hfitC f0 hw0 hH bt
  refine veil fun R hR => ?_
  by_cases h2 : 100 < n
  · have h2' : (100 : Int) < n := by omega
    go_enter Tryz.func3, Tryz.ntmps3
    go_upto_region 1 with fail
    simp only [← HH.out, ← HW.out]
    go_wp2_with fail
    refine (hkn.out _).mono ?_
    rintro e w1 ⟨rfl, f1⟩
    have F1 := hide (F0.out.trans' f1)
    clear f1
    go_wp2_with fail
    try go_ret
    exact hR.out _ _ ⟨rfl, F1.out⟩
  have h2' : ¬ (100 : Int) < n := by omega
  by_cases h1 : 100 < m
  · have h1' : (100 : Int) < m := by omega
    go_enter Tryz.func3, Tryz.ntmps3
    go_upto_region 1 with fail
    simp only [← HH.out, ← HW.out]
    go_wp2_with fail
    refine (hkn.out _).mono ?_
    rintro e w1 ⟨rfl, f1⟩
    have F1 := hide (F0.out.trans' f1)
    clear f1
    go_wp2_with fail
    try go_ret
    exact hR.out _ _ ⟨rfl, F1.out⟩
  have h1' : ¬ (100 : Int) < m := by omega
  have HCH := hide (fun W (h : Fresh w W) => choose_any F G A B n c m d p lg N C W (HS.out W h) HF.out (by omega) (HR.out W h) HFC.out (by omega))
  have HRC := hide (fun W (h : Fresh w W) (hp : 0 ≤ p ∧ p ≤ 2) => rchoose_any F G A B n c m d p lg N C W (HS.out W h) HF.out (by omega) (HR.out W h) HFC.out (by omega) hp)
  have hlen := chooseN_len (p := p) (lg := lg) (N := N) (C := C) (by omega) (by omega)
  have hbad : (p < 0 ∨ 2 < p) → chooseN p lg N C = (0, 0, [], 2) := fun h => if_pos h
  obtain ⟨r1, r2, r3, r4, hch⟩ : ∃ r1 r2 r3 r4, chooseN p lg N C = (r1, r2, r3, r4) := ⟨_, _, _, _, rfl⟩
  rw [hch] at HCH HRC hlen hbad
  dsimp only at hlen
  have HBAD := hide hbad
  have HLEN := hide hlen
  clear hch hbad hlen h1 h2 hCl hNl
  go_enter Tryz.func3, Tryz.ntmps3
  go_upto_region 1 with fail
  simp only [← HH.out, ← HW.out]
  go_wp2_with fail
  refine (HCH.out _ F0.out).mono ?_
  rintro e w1 ⟨A1, n1, c1, rfl, hn1, ru1, f1⟩
  dsimp only at hn1 ru1
  have HN1 := hide hn1
  clear hn1
  go_upto_region 4 with fail
  obtain ⟨K1, hK1⟩ : ∃ K1, K1 = w1.heap.size := ⟨_, rfl⟩
  obtain ⟨w2, hw2⟩ : ∃ w2, w2 = w1.alloc (.cells #[.int .i64 r2, .slice A1 n1 c1] 25) := ⟨_, rfl⟩
  rw [← hw2, ← hK1]
  have f2 : Fresh w1 w2 := by rw [hw2]; exact (Upd.refl _ _).alloc _
  have bq : Blk w2 K1 25 #[.int .i64 r2, .slice A1 n1 c1] := by rw [hw2]; exact blk_new hK1 _ _
  have BQ := hide bq
  have F2 := hide ((F0.out.trans' f1).trans' f2)
  have R2 := hide (ru1.1.fresh f2)
  have BT2 := hide ((BT.out.fresh f1).fresh f2)
  have hn1k : n1 ≤ 1000 := by have := HLEN.out; have := HN1.out; omega
  have s0 := bq.cell 0
  have s1 := bq.cell 1
  simp at s0 s1
  have t0 := BT2.out.cell 0
  have t1 := BT2.out.cell 1
  simp at t0 t1
  clear hK1 hw2 f1 f2 ru1 bq HCH
  by_cases hp : p < 0 ∨ 2 < p
  · have hb := HBAD.out hp
    simp only [Prod.mk.injEq] at hb
    obtain ⟨rfl, rfl, rfl, rfl⟩ := hb
    have HSM := hide (fun W (h : Fresh w2 W) => same07_any _ (fun _ => True) A1 none n1 0 c1 0 0 0 [] [] W (R2.out.fresh h) (Rd.nil _ _ _) hn1k (by omega))
    have hdec : decide ((0 : Int) = 0 ∧ ([] : List Int) = []) = true := by decide
    rw [hdec] at HSM
    rcases hp with hp | hp
    · have hpb : decide (p < 0) = true := decide_eq_true hp
      go_wp2_with fail
      refine (HSM.out _ (Upd.refl _ _)).mono ?_
      rintro e w3 ⟨rfl, f3⟩
      have F3 := hide (F2.out.trans' f3)
      clear f3
      go_wp2_with fail
      refine (hkn.out _).mono ?_
      rintro e w4 ⟨rfl, f4⟩
      have F4 := hide (F3.out.trans' f4)
      clear f4
      go_wp2_with fail
      try go_ret
      exact hR.out _ _ ⟨rfl, F4.out⟩
    · have hpa : ¬ p < 0 := by omega
      have hpb : decide (p < 0) = false := decide_eq_false hpa
      have hpc : decide (2 < p) = true := decide_eq_true hp
      go_wp2_with fail
      refine (HSM.out _ (Upd.refl _ _)).mono ?_
      rintro e w3 ⟨rfl, f3⟩
      have F3 := hide (F2.out.trans' f3)
      clear f3
      go_wp2_with fail
      refine (hkn.out _).mono ?_
      rintro e w4 ⟨rfl, f4⟩
      have F4 := hide (F3.out.trans' f4)
      clear f4
      go_wp2_with fail
      try go_ret
      exact hR.out _ _ ⟨rfl, F4.out⟩
  · have hpa : ¬ p < 0 := by omega
    have hpc : ¬ 2 < p := by omega
    have hpb : decide (p < 0) = false := decide_eq_false hpa
    have hpd : decide (2 < p) = false := decide_eq_false hpc
    have HRC2 := hide (fun W h => HRC.out W h ⟨by omega, by omega⟩)
    clear HRC hp
    go_wp2_with fail
    refine (HRC2.out _ F2.out).mono ?_
    rintro e w3 ⟨A3, n3, c3, rfl, r3x, f3⟩
    dsimp only at r3x
    go_upto_region 7 with fail
    obtain ⟨K3, hK3⟩ : ∃ K3, K3 = w3.heap.size := ⟨_, rfl⟩
    obtain ⟨w4, hw4⟩ : ∃ w4, w4 = w3.alloc (.cells #[.int .i64 r2, .slice A3 n3 c3] 25) := ⟨_, rfl⟩
    rw [← hw4, ← hK3]
    have f4 : Fresh w3 w4 := by rw [hw4]; exact (Upd.refl _ _).alloc _
    have b4 : Blk w4 K3 25 #[.int .i64 r2, .slice A3 n3 c3] := by rw [hw4]; exact blk_new hK3 _ _
    have q0 := b4.cell 0
    have q1 := b4.cell 1
    simp at q0 q1
    have bq4 := (BQ.out.fresh f3).fresh f4
    have s0 := bq4.cell 0
    have s1 := bq4.cell 1
    simp at s0 s1
    have hn3 : n3 ≤ 1000 := by have h1 := r3x.1; have h2 := HLEN.out; simp at h1; omega
    have HSM := hide (same07_any _ _ A1 A3 n1 n3 c1 c3 r2 r2 r3 r3 w4 ((R2.out.fresh f3).fresh f4) (r3x.fresh f4) hn1k hn3)
    have hdec : decide (r2 = r2 ∧ r3 = r3) = true := decide_eq_true ⟨rfl, rfl⟩
    rw [hdec] at HSM
    have F4 := hide ((F2.out.trans' f3).trans' f4)
    clear hK3 hw4 f3 f4 b4 bq4 r3x t0 t1
    go_wp2_with fail
    refine HSM.out.mono ?_
    rintro e w5 ⟨rfl, f5⟩
    have F5 := hide (F4.out.trans' f5)
    clear f5
    go_wp2_with fail
    refine (hkn.out _).mono ?_
    rintro e w6 ⟨rfl, f6⟩
    have F6 := hide (F5.out.trans' f6)
    clear f6
    go_wp2_with fail
    try go_ret
    exact hR.out _ _ ⟨rfl, F6.out⟩

end Go.Proofs.YtcdbfddoanigbaaGreat

/-
  ModesGet: the law's function answers true.
  Conditions: none beyond those of each theorem.
-/
namespace Go.Proofs.YtcdbfddoanigbaaGreat
open Go.RowKit
set_option linter.unusedVariables false
set_option linter.unusedSimpArgs false

theorem decN_err {m p lg : Int} {N : List Int} {bs : List Nat} {at_ : Nat} {x l2 : Int} {N2 : List Int} {j : Nat} (h : decN m p lg N bs at_ = (x, l2, N2, j)) (hx : x ≠ 0) : l2 = 0 ∧ N2 = [] := by
  unfold decN at h
  split at h
  · simp only [Prod.mk.injEq] at h
    exact ⟨h.2.1.symm, h.2.2.1.symm⟩
  · unfold decM at h
    split at h
    · simp only [Prod.mk.injEq] at h
      exact absurd h.1.symm hx
    · split at h
      · unfold oneS at h
        split at h
        · split at h
          · simp only [Prod.mk.injEq] at h
            exact ⟨h.2.1.symm, h.2.2.1.symm⟩
          · simp only [Prod.mk.injEq] at h
            exact absurd h.1.symm hx
        · simp only [Prod.mk.injEq] at h
          exact ⟨h.2.1.symm, h.2.2.1.symm⟩
      · split at h
        · unfold desS at h
          split at h
          · simp only [Prod.mk.injEq] at h
            exact ⟨h.2.1.symm, h.2.2.1.symm⟩
          · simp only [Prod.mk.injEq] at h
            exact absurd h.1.symm hx
        · split at h
          · simp only [Prod.mk.injEq] at h
            exact absurd h.1.symm hx
          · simp only [Prod.mk.injEq] at h
            exact ⟨h.2.1.symm, h.2.2.1.symm⟩

theorem decN_bad {m p lg : Int} {N : List Int} {bs : List Nat} {at_ : Nat} (h : p < 0 ∨ 2 < p ∨ m < 0 ∨ 3 < m) : decN m p lg N bs at_ = (2, 0, [], 0) := by
  unfold decN
  rw [if_pos h]

set_option maxRecDepth 100000 in
set_option maxHeartbeats 1000000 in
theorem get24_any (F G : Nat → Prop) (A B : Option Addr) (n c k d : Nat) (m p lg : Int) (N : List Int) (bs : List Nat) (w : World) (hr : Rd w F A n (ints N)) (hfit : Fit N) (hs : Rd w G B k (bytes bs)) (hlt : ∀ b ∈ bs, b < 256) (hcap : k ≤ d) :
    Calls Tryz.prog 4 #[.slice B k d, .int .i64 m, .int .i64 p, .agg #[.int .i64 lg, .slice A n c]] w fun e w' => e = .returned (.bool true) ∧ Fresh w w' := by
  have hkn := hide known24_any
  have hk : bs.length = k := by have := hs.1; simpa using this
  obtain ⟨w0, hw0⟩ : ∃ w0, w0 = w.alloc (.cells #[.int .i64 lg, .slice A n c] 25) := ⟨_, rfl⟩
  obtain ⟨H, hH⟩ : ∃ H, H = w.heap.size := ⟨_, rfl⟩
  have f0 : Fresh w w0 := by rw [hw0]; exact (Upd.refl _ _).alloc _
  have bt : Blk w0 H 25 #[.int .i64 lg, .slice A n c] := by rw [hw0]; exact blk_new hH _ _
  have t0 := bt.cell 0
  have t1 := bt.cell 1
  simp at t0 t1
  have HR := hide (fun W (h : Fresh w W) => hr.fresh h)
  have HS := hide (fun W (h : Fresh w W) => hs.fresh h)
  have HF := hide hfit
  have HLT := hide hlt
  have HM := hide hk
  have BT := hide bt
  have F0 := hide f0
  have HW := hide hw0
  have HH := hide hH
  clear hr hs hfit hlt f0 hw0 hH bt hk
  refine veil fun R hR => ?_
  by_cases h2 : 500 < k
  · have h2' : (500 : Int) < k := by omega
    go_enter Tryz.func4, Tryz.ntmps4
    go_upto_region 1 with fail
    simp only [← HH.out, ← HW.out]
    go_wp2_with fail
    refine (hkn.out _).mono ?_
    rintro e w1 ⟨rfl, f1⟩
    have F1 := hide (F0.out.trans' f1)
    clear f1
    go_wp2_with fail
    try go_ret
    exact hR.out _ _ ⟨rfl, F1.out⟩
  have h2' : ¬ (500 : Int) < k := by omega
  by_cases h1 : 300 < n
  · have h1' : (300 : Int) < n := by omega
    go_enter Tryz.func4, Tryz.ntmps4
    go_upto_region 1 with fail
    simp only [← HH.out, ← HW.out]
    go_wp2_with fail
    refine (hkn.out _).mono ?_
    rintro e w1 ⟨rfl, f1⟩
    have F1 := hide (F0.out.trans' f1)
    clear f1
    go_wp2_with fail
    try go_ret
    exact hR.out _ _ ⟨rfl, F1.out⟩
  have h1' : ¬ (300 : Int) < n := by omega
  have h1q : (n : Int) ≤ 1099511627776 := by omega
  have h2q : k ≤ 500 := by omega
  have HNW := hide (new_any _ B k d bs w0 (HS.out _ F0.out) HLT.out (by rw [HM.out]; omega))
  have HDE := hide (fun (F' : Nat → Prop) g W (hc : CurAt W F' g bs 0) (hF : ∀ b, F' b → b ≠ g) (hw : Fresh w W) => mdec_any F' F g bs 0 A n c m p lg N W hc hF (HR.out W hw) HF.out h1q)
  have HGE := hide (fun W (h : Fresh w W) (hp : 0 ≤ p ∧ p ≤ 2) (hmo : 0 ≤ m ∧ m ≤ 3) => rget24_any G F B A k d n c m p lg N bs W (HS.out W h) HLT.out h2q hcap (HR.out W h) HF.out h1q hp hmo)
  have hbad : (p < 0 ∨ 2 < p ∨ m < 0 ∨ 3 < m) → decN m p lg N bs 0 = (2, 0, [], 0) := decN_bad
  obtain ⟨D, hD⟩ : ∃ D, D = decN m p lg N bs 0 := ⟨_, rfl⟩
  simp only [← hD] at HDE HGE hbad
  have HDD := hide hD
  have HBAD := hide hbad
  clear hD hbad
  obtain ⟨x, l2, N2, j⟩ := D
  simp only at HDE
  have herr := fun hx => decN_err HDD.out.symm (x := x) hx
  have hlen : N2.length ≤ 1000 := by
    by_cases hx : x = 0
    · subst hx
      obtain ⟨m0, m3, p0, p2, hv, hjk, hen⟩ := modes_once HLT.out (by rw [HM.out]; omega) HDD.out.symm
      have := (valid_wide hv).2.2.2.2.1
      omega
    · rw [(herr hx).2]; simp
  have HERR := hide herr
  have HLEN := hide hlen
  clear h1 h2 herr hlen
  go_enter Tryz.func4, Tryz.ntmps4
  go_upto_region 1 with fail
  simp only [← HH.out, ← HW.out]
  go_wp2_with fail
  refine HNW.out.mono ?_
  rintro e w1 ⟨g, rfl, hg, f1, cu1⟩
  have F1 := hide (F0.out.trans' f1)
  have HD1 := hide (HDE.out _ g _ cu1 (fun b hb => hb.2) F1.out)
  have hgH : H < g := by have := BT.out.lt; omega
  have hgw : w.heap.size ≤ g := by have := HH.out; omega
  have b1 := BT.out.fresh f1
  have t0 := b1.cell 0
  have t1 := b1.cell 1
  simp at t0 t1
  have B1 := hide b1
  clear HDE HNW f1 cu1 b1 hg
  go_wp2_with fail
  refine HD1.out.mono ?_
  rintro e w2 ⟨u2, cu2, A2, n2, c2, rfl, r2⟩
  have F2 := hide (F1.out.trans u2 (fun b hb h => by omega))
  have CU2 := hide cu2.both
  have R2 := hide r2
  have B2 := hide (B1.out.upd u2 (by omega))
  clear u2 cu2 r2 HD1 t0 t1
  go_upto_region 5 with fail
  obtain ⟨K2, hK2⟩ : ∃ K2, K2 = w2.heap.size := ⟨_, rfl⟩
  obtain ⟨w3, hw3⟩ : ∃ w3, w3 = w2.alloc (.cells #[.int .i64 l2, .slice A2 n2 c2] 25) := ⟨_, rfl⟩
  rw [← hw3, ← hK2]
  have f3 : Fresh w2 w3 := by rw [hw3]; exact (Upd.refl _ _).alloc _
  have b3 : Blk w3 K2 25 #[.int .i64 l2, .slice A2 n2 c2] := by rw [hw3]; exact blk_new hK2 _ _
  have s0 := b3.cell 0
  have s1 := b3.cell 1
  simp at s0 s1
  have F3 := hide (F2.out.trans' f3)
  have R3 := hide (R2.out.fresh f3)
  have CU3 := hide (CU2.out.fresh f3)
  have bt3 := B2.out.fresh f3
  have t0 := bt3.cell 0
  have t1 := bt3.cell 1
  simp at t0 t1
  have B3 := hide b3
  have hn2k : n2 ≤ 1000 := by have h1 := R3.out.1; have h2 := HLEN.out; simp at h1; omega
  clear hw3 hK2 f3 b3 CU2 R2 F2 bt3
  by_cases hbd : p < 0 ∨ 2 < p ∨ m < 0 ∨ 3 < m
  · have hb := HBAD.out hbd
    simp only [Prod.mk.injEq] at hb
    obtain ⟨rfl, rfl, rfl, rfl⟩ := hb
    have HSM := hide (fun W (h : Fresh w3 W) => same07_any _ (fun _ => True) A2 none n2 0 c2 0 0 0 [] [] W (R3.out.fresh h) (Rd.nil _ _ _) hn2k (by omega))
    have hdec : decide ((0 : Int) = 0 ∧ ([] : List Int) = []) = true := by decide
    rw [hdec] at HSM
    go_upto_region 5 with fail
    go_cut [48] (fun q wx => q = .bool true ∧ wx = w3)
    case first =>
      by_cases c1 : m < 0
      · have c1b : decide (m < 0) = true := decide_eq_true c1
        go_wp2_with fail
        go_meet
        exact ⟨rfl, rfl⟩
      · have c1b : decide (m < 0) = false := decide_eq_false c1
        by_cases e2 : 3 < m
        · have c2b : decide (3 < m) = true := decide_eq_true e2
          go_wp2_with fail
          go_meet
          exact ⟨rfl, rfl⟩
        · have c2b : decide (3 < m) = false := decide_eq_false e2
          by_cases c3 : p < 0
          · have c3b : decide (p < 0) = true := decide_eq_true c3
            go_wp2_with fail
            go_meet
            exact ⟨rfl, rfl⟩
          · have c3b : decide (p < 0) = false := decide_eq_false c3
            have c4 : 2 < p := by omega
            have c4b : decide (2 < p) = true := decide_eq_true c4
            go_wp2_with fail
            go_meet
            exact ⟨rfl, rfl⟩
    case rest =>
      obtain ⟨rfl, hwc⟩ := hcut
      subst hwc
      go_wp2_with fail
      refine (HSM.out _ (Upd.refl _ _)).mono ?_
      rintro e w4 ⟨rfl, f4⟩
      have F4 := hide (F3.out.trans' f4)
      clear f4
      go_wp2_with fail
      refine (hkn.out _).mono ?_
      rintro e w5 ⟨rfl, f5⟩
      have F5 := hide (F4.out.trans' f5)
      clear f5
      go_wp2_with fail
      try go_ret
      exact hR.out _ _ ⟨rfl, F5.out⟩
  · have e1 : ¬ m < 0 := by omega
    have e2 : ¬ 3 < m := by omega
    have e3 : ¬ p < 0 := by omega
    have e4 : ¬ 2 < p := by omega
    have c1b : decide (m < 0) = false := decide_eq_false e1
    have c2b : decide (3 < m) = false := decide_eq_false e2
    have c3b : decide (p < 0) = false := decide_eq_false e3
    have c4b : decide (2 < p) = false := decide_eq_false e4
    have HG2 := hide (fun W h => HGE.out W h ⟨by omega, by omega⟩ ⟨by omega, by omega⟩)
    clear HGE hbd HBAD
    go_wp2_with fail
    refine (HG2.out _ F3.out).mono ?_
    rintro e w4 ⟨A4, n4, c4x, q4, rfl, r4, f4, hq4⟩
    dsimp only at r4 hq4
    have HQ4 := hide hq4
    have R4 := hide r4
    have F4 := hide (F3.out.trans' f4)
    have CU4 := hide (CU3.out.fresh f4)
    have R34 := hide (R3.out.fresh f4)
    have B34 := hide (B3.out.fresh f4)
    clear hq4 r4 f4 t0 t1
    go_upto_region 8 with fail
    obtain ⟨K4, hK4⟩ : ∃ K4, K4 = w4.heap.size := ⟨_, rfl⟩
    obtain ⟨w5, hw5⟩ : ∃ w5, w5 = w4.alloc (.cells #[.int .i64 l2, .slice A4 n4 c4x] 25) := ⟨_, rfl⟩
    rw [← hw5, ← hK4]
    have f5 : Fresh w4 w5 := by rw [hw5]; exact (Upd.refl _ _).alloc _
    have b5 : Blk w5 K4 25 #[.int .i64 l2, .slice A4 n4 c4x] := by rw [hw5]; exact blk_new hK4 _ _
    have q0 := b5.cell 0
    have q1 := b5.cell 1
    simp at q0 q1
    have b35 := B34.out.fresh f5
    have s0 := b35.cell 0
    have s1 := b35.cell 1
    simp at s0 s1
    have F5 := hide (F4.out.trans' f5)
    have CU5 := hide (CU4.out.fresh f5)
    have R35 := hide (R34.out.fresh f5)
    have R5 := hide (R4.out.fresh f5)
    clear hK4 hw5 f5 b5 b35
    by_cases hx : x = 0
    · subst hx
      have hqj := HQ4.out rfl
      subst hqj
      have hn4k : n4 ≤ 1000 := by have h1 := R5.out.1; have h2 := HLEN.out; simp at h1; omega
      have HSM := hide (same07_any _ _ A2 A4 n2 n4 c2 c4x l2 l2 N2 N2 w5 R35.out R5.out hn2k hn4k)
      have hdec : decide (l2 = l2 ∧ N2 = N2) = true := decide_eq_true ⟨rfl, rfl⟩
      rw [hdec] at HSM
      go_wp2_with fail
      refine HSM.out.mono ?_
      rintro e w6 ⟨rfl, f6⟩
      have F6 := hide (F5.out.trans' f6)
      have HAT := hide (cat_any _ g bs _ w6 (CU5.out.fresh f6))
      clear f6
      go_wp2_with fail
      refine HAT.out.mono ?_
      rintro e w7 ⟨rfl, rfl⟩
      go_wp2_with fail
      refine (hkn.out _).mono ?_
      rintro e w8 ⟨rfl, f8⟩
      have F8 := hide (F6.out.trans' f8)
      clear f8
      go_wp2_with fail
      try go_ret
      exact hR.out _ _ ⟨rfl, F8.out⟩
    · obtain ⟨rfl, rfl⟩ := HERR.out hx
      have hxb : (x != 0) = true := by simpa using hx
      have HSM := hide (fun W (h : Fresh w5 W) => same07_any _ (fun _ => True) A2 none n2 0 c2 0 0 0 [] [] W (R35.out.fresh h) (Rd.nil _ _ _) hn2k (by omega))
      have hdec : decide ((0 : Int) = 0 ∧ ([] : List Int) = []) = true := by decide
      rw [hdec] at HSM
      go_wp2_with fail
      refine (HSM.out _ (Upd.refl _ _)).mono ?_
      rintro e w6 ⟨rfl, f6⟩
      have F6 := hide (F5.out.trans' f6)
      clear f6
      go_wp2_with fail
      refine (hkn.out _).mono ?_
      rintro e w7 ⟨rfl, f7⟩
      have F7 := hide (F6.out.trans' f7)
      clear f7
      go_wp2_with fail
      try go_ret
      exact hR.out _ _ ⟨rfl, F7.out⟩

end Go.Proofs.YtcdbfddoanigbaaGreat
