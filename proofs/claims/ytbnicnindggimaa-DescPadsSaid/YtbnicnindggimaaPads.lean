/-
  DescPads: the law's function answers true.
  Conditions: none beyond those of each theorem.
-/
import Derived.Test.YtbnicnindggimaaOnce
import Derived.Test.YtbnicnindggimaaPadsM
import Derived.Test.YtbnicnindggimaaStore
import Derived.Test.YtbnicnindggimaaCuts
namespace Go.Proofs.Ytbnicnindggimaa
open Go.RowKit
set_option linter.unusedVariables false
set_option linter.unusedSimpArgs false

set_option maxRecDepth 100000 in
set_option maxHeartbeats 4000000 in
theorem pads_any (F : Nat → Prop) (A : Option Addr) (n c : Nat) (lg : Int) (N : List Int) (wh : Int) (w : World) (hr : Rd w F A n (ints N)) (hfit : Fit N) :
    Calls Try.prog 10 #[.agg #[.int .i64 lg, .slice A n c], .int .i64 wh] w fun e w' => e = .returned (.bool true) ∧ Fresh w w' := by
  have hkn := hide known_any
  obtain ⟨w0, hw0⟩ : ∃ w0, w0 = w.alloc (.cells #[.int .i64 lg, .slice A n c] 24) := ⟨_, rfl⟩
  obtain ⟨H, hH⟩ : ∃ H, H = w.heap.size := ⟨_, rfl⟩
  have fr0 : Fresh w w0 := by rw [hw0]; exact (Upd.refl _ _).alloc _
  have B0 := hide (show Blk w0 H 24 #[.int .i64 lg, .slice A n c] by rw [hw0]; exact blk_new hH _ _)
  have HR := hide (hr.fresh fr0)
  have HF := hide hfit
  have F0 := hide fr0
  have HW := hide hw0
  have HH := hide hH
  clear hr hfit fr0 hw0 hH
  refine veil fun R hR => ?_
  by_cases h1 : 300 < n
  · have h1' : (300 : Int) < n := by omega
    go_enter Try.func10, Try.ntmps10
    go_wp2_with fail
    rw [← HW.out]
    refine (hkn.out _).mono ?_
    rintro e w1 ⟨rfl, f1⟩
    have F1 := hide (F0.out.trans' f1)
    clear f1
    go_wp2_with fail
    try go_ret
    exact hR.out _ _ ⟨rfl, F1.out⟩
  have h1' : (n : Int) ≤ 300 := by omega
  have hmay := may11_any F A n c lg N w0 HR.out HF.out (by omega)
  by_cases hv : Has lg N
  · rw [decide_eq_true hv] at hmay
    have HM1 := hide hmay
    have HV := hide hv
    clear hmay hv
    go_enter Try.func10, Try.ntmps10
    go_wp2_with fail
    rw [← HW.out, ← HH.out]
    refine HM1.out.mono ?_
    rintro e w1 ⟨rfl, f1⟩
    have b1 := B0.out.fresh f1
    have c0 := b1.cell 0
    have c1 := b1.cell 1
    simp at c0 c1
    have F1 := hide f1
    have B1 := hide b1
    obtain ⟨p, hp⟩ : ∃ p : Nat, lg = p := ⟨lg.toNat, by have := HV.out.1.1; omega⟩
    subst hp
    have hpz : p ≠ 0 := by have := HV.out.2; omega
    have hen := encode_ok F A n c p N w1 (HR.out.fresh f1) HF.out (by omega) HV.out.1 hpz
    have HP := hide hpz
    have HE := hide hen
    have hle := desc_bytes_le HV.out.1
    have hdl := descBits_length p N (by have := HV.out.1.2.1; omega)
    have h256 := HV.out.1.2.2.2.2.1
    have hbl := packB_length (descBits p N)
    have hpos := descBits_pos p N
    clear hen b1 f1 HM1 hpz
    go_wp2_with fail
    refine HE.out.mono ?_
    rintro e w2 ⟨v2, rfl, o2, f2, k2⟩
    obtain ⟨D, hD⟩ : ∃ D, D = descBits p N := ⟨_, rfl⟩
    rw [← hD] at o2 hle hdl hbl hpos
    obtain ⟨A2, n2, c2, rfl, hn2⟩ := o2.form'
    have hn2' : n2 = (D.length + 7) / 8 := by have := hn2.out; simp at this; omega
    have hD4 : D.length ≤ 4000 := by omega
    obtain ⟨l, hl⟩ : ∃ l, l = D.length := ⟨_, rfl⟩
    have hlI : (l : Int) ≤ 4000 := by omega
    have hl1 : 1 ≤ (l : Int) := by omega
    have hq : ((l : Int) + 7) / 8 = (n2 : Int) := by omega
    have O2 := hide o2
    have HN2 := hide hn2'
    have HD := hide hD
    have HL := hide hl
    have F2 := hide (F1.out.trans' f2)
    have F12 := hide f2
    have b2 := B1.out.fresh f2
    have d0 := b2.cell 0
    have d1 := b2.cell 1
    simp at d0 d1
    have HK2 := hide k2
    have hbl2 := bitlen_ok F A n c p N w2 (HR.out.fresh F2.out) HF.out (by omega) HV.out.1 HP.out
    rw [← hD, ← hl] at hbl2
    have HBL := hide hbl2
    clear hn2 hn2' o2 f2 k2 hle HE b2 c0 c1 hD hl hbl2 hbl hdl h256 hD4 hpos
    go_wp2_with fail
    refine HBL.out.mono ?_
    rintro e w3 ⟨rfl, f3⟩
    have F3 := hide (F2.out.trans' f3)
    have o3 := O2.out.fresh f3
    have O3 := hide o3
    have F23 := hide f3
    clear f3 o3 d0 d1 HBL
    by_cases h8 : l % 8 = 0
    · have h8' : (l : Int) % 8 = 0 := by omega
      go_wp2_with fail
      refine (hkn.out _).mono ?_
      rintro e w4 ⟨rfl, f4⟩
      have F4 := hide ((F0.out.trans' F3.out).trans' f4)
      clear f4
      go_wp2_with fail
      try go_ret
      exact hR.out _ _ ⟨rfl, F4.out⟩
    · obtain ⟨r, hrd⟩ : ∃ r, r = l % 8 := ⟨_, rfl⟩
      have hr0 : 0 < r := by omega
      have hr8 : r < 8 := by omega
      have hrI : (l : Int) % 8 = r := by omega
      have h8' : ((r : Int) == 0) = false := by simp; omega
      obtain ⟨fr, y, hpk, hy, hrow⟩ := pads_bytes D (by have := HL.out; omega)
      have hlr : D.length % 8 = r := by have := HL.out; omega
      rw [hlr] at hy hrow
      obtain ⟨k, hk, hkm⟩ := pick_mod wh (8 - r) (by omega) (by omega)
      rw [show ((8 - r : Nat) : Int) = 8 - (r : Int) by omega] at hkm
      have HPK := hide hpk
      have HROW := hide hrow
      have HY := hide hy
      have HLR := hide hlr
      have HRD := hide hrd
      clear hpk hrow hy hlr hrd h8
      have hkI : (k : Int) < 8 - r := by omega
      have hrI8 : (r : Int) < 8 := by omega
      have hlen := congrArg List.length HPK.out
      rw [packB_length, List.length_append, List.length_singleton] at hlen
      obtain ⟨fl, hfl⟩ : ∃ fl, fl = fr.length := ⟨_, rfl⟩
      have hfn : n2 = fl + 1 := by have := HN2.out; omega
      have hst := Own.store O3.out (i := fl) (by rw [HPK.out]; simp; omega)
      obtain ⟨g2, rfl, hg2, hcell, hfz, hown⟩ := hst
      have hget : (bytes (packB D))[fl]? = some (.int .u8 (y : Nat)) := by
        rw [HPK.out, hfl]; simp [bytes]
      rw [List.getElem?_eq_getElem (by rw [HPK.out]; simp; omega)] at hget
      injection hget with hget
      rw [hget] at hcell
      have hi1 : IntKind.i64.wrap ((n2 : Int) - 1) = (fl : Int) := by rw [IntKind.wrap_i64]; omega
      have hi2 : (fl : Int) < n2 := by omega
      have HOWN := hide hown
      have HFN := hide hfn
      have HFL := hide hfl
      clear hlen hfn hown hget hfl
      go_wp2_with fail
      go_still_tail 14, (by kernel_rfl)
      change wpList _ _ _ _ _ w3.drew
      go_wp2_with fail
      have hp1 : 2 ^ r ≤ 2 ^ 7 := Nat.pow_le_pow_right (by omega) (by omega)
      have hp2 : 2 ^ (r + k) ≤ 2 ^ 7 := Nat.pow_le_pow_right (by omega) (by omega)
      have hyy := HY.out
      obtain ⟨z, hz⟩ : ∃ z, z = y + 2 ^ (r + k) := ⟨_, rfl⟩
      have hz256 : z < 256 := by omega
      have hv1 : ((y : Int) + 2 ^ (r + k)) % 256 = (z : Int) := by
        rw [show (2 : Int) ^ (r + k) = ((2 ^ (r + k) : Nat) : Int) by simp]; omega
      rw [hv1]
      have o4 := (HOWN.out (.int .u8 (z : Nat))).drew
      rw [HPK.out, HFL.out, show (bytes (fr ++ [y])).set fr.length (.int .u8 (z : Nat)) = bytes (fr ++ [z]) by simp [bytes, List.set_append]] at o4
      rw [← HFL.out] at o4
      have r4 := (o4.rd rfl).2.2
      have hl4 : (bytes (fr ++ [z])).length = n2 := by have := HFN.out; have := HFL.out; simp; omega
      rw [hl4] at r4
      have hlt4 : ∀ b ∈ fr ++ [z], b < 256 := by
        intro b hb
        rcases List.mem_append.1 hb with hb | hb
        · exact packB_lt D b (by rw [HPK.out]; simp [hb])
        · have : b = z := by simpa using hb
          omega
      have hl5 : (fr ++ [z]).length ≤ 1024 := by have : (fr ++ [z]).length = n2 := by simpa using hl4
                                                 omega
      have hrd := reads_any _ _ n2 c2 (fr ++ [z]) 256 9 _ r4 hlt4 (by omega)
      have hes : errS 256 9 (rowB (seenB (fr ++ [z]) 0)) = 14 := by
        unfold errS
        rw [seenB_short hl5, hz, HROW.out k, HD.out, decodeS_pads HV.out.1 HP.out HV.out.1.2.2.2.2.1 HV.out.1.2.1]
        rw [← HD.out, HLR.out, show (8 - r) % 8 = 8 - r by omega]
        exact pads_val (8 - r) k hk
      rw [hes] at hrd
      have HRDD := hide hrd
      have hgw := fun k hk => HK2.out k hk
      have hg0 : w1.heap.size ≤ g2 := HK2.out g2 rfl
      have U4 : Fresh w1 (w3.setCell ⟨g2, fl, none⟩ (.int .u8 (z : Nat))).drew := ((F12.out.trans' F23.out).setCell (p := ⟨g2, fl, none⟩) (fun h => by simp at h; omega) _).drew
      have F4 := hide ((F0.out.trans' F1.out).trans' U4)
      clear hrd hes hl4 hl5 hlt4 r4 o4 hv1 hp1 hp2 hyy hz U4 hgw
      refine HRDD.out.mono ?_
      rintro e w5 ⟨rfl, f5⟩
      have F5 := hide (F4.out.trans' f5)
      clear f5
      go_wp2_with fail
      refine (hkn.out _).mono ?_
      rintro e w6 ⟨rfl, f6⟩
      have F6 := hide (F5.out.trans' f6)
      clear f6
      go_wp2_with fail
      try go_ret
      exact hR.out _ _ ⟨rfl, F6.out⟩
  · rw [decide_eq_false hv] at hmay
    have HM1 := hide hmay
    clear hmay hv
    go_enter Try.func10, Try.ntmps10
    go_wp2_with fail
    rw [← HW.out]
    refine HM1.out.mono ?_
    rintro e w1 ⟨rfl, f1⟩
    have F1 := hide (F0.out.trans' f1)
    clear f1
    go_wp2_with fail
    refine (hkn.out _).mono ?_
    rintro e w2 ⟨rfl, f2⟩
    have F2 := hide (F1.out.trans' f2)
    clear f2
    go_wp2_with fail
    try go_ret
    exact hR.out _ _ ⟨rfl, F2.out⟩

end Go.Proofs.Ytbnicnindggimaa
