/-
  The reference of descriptions: Bits.
  Conditions: none beyond those of each theorem.
-/
import Derived.Test.YtbnicnindggimaaRef11B
import Derived.Test.YtbnicnindggimaaDescBack
import Derived.Test.YtbnicnindggimaaLaw
namespace Go.Proofs.Ytbnicnindggimaa
open Go.RowKit
set_option linter.unusedVariables false
set_option linter.unusedSimpArgs false

/-- k norms have been told, L states are left, the bits so far are cur -/
def BSt (N : List Int) (D : List Bool) (k L : Nat) (cur : List Bool) : Prop := D = cur ++ normBits L 0 (N.drop k) ∧ sumZ (N.drop k) = L ∧ L ≤ 512

theorem BSt.start {p : Nat} {N : List Int} (hv : Valid p N 256 9) : BSt N (descBits p N) 0 (2 ^ p) (bitsB 4 (p - 1)) := by
  refine ⟨rfl, ?_, ?_⟩
  · rw [List.drop_zero, hv.2.2.2.2.2.2.2]; simp
  · exact pow_le_512 (by have := hv.2.2.1; omega)

theorem BSt.bound {N : List Int} {D cur : List Bool} {k L : Nat} (h : BSt N D k L cur) (hall : ∀ n ∈ N, -1 ≤ n) {z : Int} (hz : N[k]? = some z) : -1 ≤ z ∧ z ≤ L ∧ (absZ z : Int) ≤ L := by
  obtain ⟨_, h2, _⟩ := h
  have hk := (List.getElem?_eq_some_iff.1 hz).1
  have e : N.drop k = z :: N.drop (k + 1) := by
    rw [List.drop_eq_getElem_cons hk]; congr 1
    rw [List.getElem?_eq_getElem hk] at hz; injection hz
  rw [e, sumZ_cons] at h2
  have h3 := sumZ_nonneg (N.drop (k + 1))
  have h4 := hall z (List.mem_of_getElem? hz)
  have h5 : absZ z = if z < 0 then -z else z := rfl
  split at h5 <;> omega

theorem BSt.ne {N : List Int} {D cur : List Bool} {k L : Nat} (h : BSt N D k L cur) (hall : ∀ n ∈ N, -1 ≤ n) {z : Int} (hz : N[k]? = some z) (hn : z ≠ 0) :
    BSt N D (k + 1) (L - z.natAbs) (cur ++ numBits (z + 1).toNat (L + 2)) := by
  have hb := h.bound hall hz
  obtain ⟨h1, h2, h3⟩ := h
  have hk := (List.getElem?_eq_some_iff.1 hz).1
  have e : N.drop k = z :: N.drop (k + 1) := by
    rw [List.drop_eq_getElem_cons hk]; congr 1
    rw [List.getElem?_eq_getElem hk] at hz; injection hz
  rw [e] at h1 h2
  rw [normBits_ne _ _ _ hn] at h1
  rw [sumZ_cons] at h2
  refine ⟨by rw [h1, List.append_assoc], ?_, by omega⟩
  have h5 : absZ z = if z < 0 then -z else z := rfl
  split at h5 <;> omega

theorem BSt.zero {N : List Int} {D cur : List Bool} {k L : Nat} (h : BSt N D k L cur) (hlast : N[N.length - 1]? ≠ some 0) (hz : N[k]? = some 0) :
    k + 1 + zerosOf (N.drop (k + 1)) < N.length ∧ BSt N D (k + 1 + zerosOf (N.drop (k + 1))) L (cur ++ numBits 1 (L + 2) ++ runBits (zerosOf (N.drop (k + 1)))) := by
  obtain ⟨h1, h2, h3⟩ := h
  have hk := (List.getElem?_eq_some_iff.1 hz).1
  have e : N.drop k = 0 :: N.drop (k + 1) := by
    rw [List.drop_eq_getElem_cons hk]; congr 1
    rw [List.getElem?_eq_getElem hk] at hz; injection hz
  rw [e] at h1 h2
  rw [normBits_zero, normBits_skip _ _ _ (zerosOf_le _), List.drop_drop] at h1
  rw [sumZ_cons, sumZ_zeros, List.drop_drop] at h2
  refine ⟨zeros_lt N k N.length rfl hk hz hlast, ?_, ?_, h3⟩
  · rw [h1]; simp only [List.append_assoc]
  · rw [← h2]; simp [absZ]

set_option maxRecDepth 100000 in
set_option maxHeartbeats 4000000 in
theorem rbits11_any (F : Nat → Prop) (A : Option Addr) (n c : Nat) (p : Nat) (N : List Int) (w : World) (hr : Rd w F A n (ints N)) (hv : Valid (p : Int) N 256 9) (hp : p ≠ 0) :
    Calls Try.prog 20 #[.agg #[.int .i64 p, .slice A n c]] w fun e w' => ∃ s, e = .returned s ∧ NewBits w w' s (descBits p N) := by
  have hN : N.length = n := by have := hr.1; simpa using this
  have hst := BSt.start hv
  have hall := hv.2.2.2.2.2.2.1
  have hlast := hv.2.2.2.2.2.1
  have h9 : p ≤ 9 := by have := hv.2.2.1; omega
  have h256 : n ≤ 256 := by have := hv.2.2.2.2.1; omega
  have hnI : (n : Int) ≤ 256 := by omega
  have hpI : (p : Int) ≤ 9 := by omega
  have hp0 : 1 ≤ (p : Int) := by omega
  obtain ⟨w0, hw0⟩ : ∃ w0, w0 = w.alloc (.cells #[.int .i64 p, .slice A n c] 24) := ⟨_, rfl⟩
  obtain ⟨H, hH⟩ : ∃ H, H = w.heap.size := ⟨_, rfl⟩
  have fr0 : Fresh w w0 := by rw [hw0]; exact (Upd.refl _ _).alloc _
  have b0 : Blk w0 H 24 #[.int .i64 p, .slice A n c] := by rw [hw0]; exact blk_new hH _ _
  have HR := hide (hr.fresh fr0)
  have hb1 := rbits_any (p - 1) 4 w0 (by omega) (by omega)
  have hs1 := fun W => size_any p W h9
  rw [show ((p - 1 : Nat) : Int) = (p : Int) - 1 by omega] at hb1
  have HB1 := hide hb1
  have HS1 := hide hs1
  have hw1 : IntKind.u64.wrap ((p : Int) - 1) = (p : Int) - 1 := by rw [IntKind.wrap_u64]; omega
  have c00 := b0.cell 0
  have c01 := b0.cell 1
  simp at c00 c01
  obtain ⟨D, hD⟩ : ∃ D, D = descBits p N := ⟨_, rfl⟩
  have hDl : D.length ≤ 4000 := by have := descBits_length p N h9; rw [hD]; omega
  rw [← hD] at hst ⊢
  have HST := hide hst
  have HALL := hide hall
  have HLAST := hide hlast
  have HN := hide hN
  have FR0 := hide fr0
  have HB0 := hide b0
  have HW := hide hw0
  have HH := hide hH
  have HDL := hide hDl
  clear hr hst hall hlast hN fr0 b0 hw0 hH hv hD hb1 hs1 hp hDl
  refine veil fun R hR => ?_
  go_enter Try.func20, Try.ntmps20
  go_wp2_with fail
  simp only [← HH.out, ← HW.out]
  go_wp2_with fail
  refine HB1.out.mono ?_
  rintro e w1 ⟨s1, rfl, o1, f1, k1⟩
  have b1 := HB0.out.fresh f1
  have c10 := b1.cell 0
  have c11 := b1.cell 1
  simp at c10 c11
  have O1 := hide o1
  have F1 := hide f1
  have K1 := hide k1
  clear o1 f1 k1 b1 c00 c01 HB1
  go_wp2_with fail
  refine (HS1.out _).mono ?_
  rintro e w2 ⟨rfl, rfl⟩
  clear c10 c11
  go_wp2_with fail
  go_loopg [3, 4, 5] n (fun m s l i wr => ∃ (k L : Nat) (cur : List Bool), k + m = n ∧ i = .int .i64 k ∧ l = .int .i64 L ∧ BSt N D k L cur ∧ NewBits w0 wr s cur)
  case atStart => exact ⟨0, 2 ^ p, _, by omega, rfl, rfl, HST.out, O1.out, F1.out, K1.out⟩
  case round =>
    obtain ⟨k, L, cur, hk, rfl, rfl, hs, ho, hf, hob⟩ := hrel
    have bt := HB0.out.fresh hf
    have c0 := bt.cell 1
    simp at c0
    have hcl : cur.length ≤ 4000 := by have := hs.1; have h2 := HDL.out; rw [this] at h2; simp at h2; omega
    have HK := hide hk
    have HS := hide hs
    have HO := hide ho
    have HF := hide hf
    have HOB := hide hob
    have hL5 := hs.2.2
    have hL5I : (L : Int) ≤ 512 := by omega
    clear hk hs ho hf hob bt
    by_cases hlt : k < n
    · have hltI : (k : Int) < n := by omega
      obtain ⟨b, o, hkl, rfl, hb, hc⟩ := (HR.out.fresh HF.out).int (k := k) hlt
      obtain ⟨z, hz⟩ : ∃ z, N[k]? = some z := ⟨_, List.getElem?_eq_getElem hkl⟩
      have hz' : N[k] = z := by rw [List.getElem?_eq_getElem hkl] at hz; injection hz
      rw [hz'] at hc
      have hbd := HS.out.bound HALL.out hz
      have hnum := rnumber11_any (z + 1).toNat (L + 2) wr (by omega) (by omega) (by omega)
      rw [show (((z + 1).toNat : Nat) : Int) = z + 1 by omega, show ((L + 2 : Nat) : Int) = (L : Int) + 2 by omega] at hnum
      have hnl := numBits_length (z + 1).toNat (L + 2)
      have hcb := cutB_le (L + 2) 10 (by omega) (by omega) (by omega)
      have HNUM := hide hnum
      have HZ := hide hz
      have hz1 : -1 ≤ z := hbd.1
      have hz2 : z ≤ L := hbd.2.1
      have hz3 : absZ z ≤ L := hbd.2.2
      have hNL : N.length = n := HN.out
      clear hnum hz hz' hbd hkl
      go_wp2_with fail
      refine HNUM.out.mono ?_
      rintro e w2 ⟨s2, rfl, o2, f2, k2⟩
      obtain ⟨A2, n2, c2, rfl, hn2⟩ := o2.form'
      have hrd2 := (o2.rd rfl).2.2
      rw [← hn2.out] at hrd2
      have O2 := hide (HO.out.fresh f2)
      have RD2 := hide hrd2
      have hlen : (bools cur).length + n2 ≤ 2 ^ 40 := by have := hn2.out; simp at this ⊢; omega
      have HLEN := hide hlen
      have F2 := hide (HF.out.trans' f2)
      clear o2 f2 k2 hn2 hrd2 hlen HNUM hnl hcb
      go_wp2_with (at_builtin; go_must (refine wpList_app _ rfl (.tmp 22) (.tmp 31) _ rfl 4 _ 1 Try.underlying42 infoBool rfl _ _ rfl O2.out _ n2 _ _ rfl RD2.out (bools_one _) (by omega) HLEN.out ?_))
      intro v3 w3 o3 g3 a3
      have f3 : Fresh w0 w3 := F2.out.grown g3 (fun kk hkk hlt => by have := HOB.out kk hkk; omega)
      have b3 : ∀ kk, v3.ownBlock = some kk → w0.heap.size ≤ kk := own_S (S := fun kk => w0.heap.size ≤ kk) a3 HOB.out (by have := F2.out.size; exact this)
      rw [← bools_append] at o3
      have bt3 := HB0.out.fresh f3
      have d0 := bt3.cell 1
      simp at d0
      obtain ⟨b', o', _, he, hb', hc3⟩ := (HR.out.fresh f3).int (k := k) hlt
      injection he with he
      injection he with he1 he2
      subst he1 he2
      have hzz : N[k] = z := by have h := HZ.out; rw [List.getElem?_eq_getElem (by omega)] at h; injection h
      rw [hzz] at hc3
      have hsta := states_any z w3
      have ha : (if z = -1 then 1 else z) = absZ z := by
        unfold absZ
        by_cases h : z = -1
        · subst h; rfl
        · rw [if_neg h, if_neg (by omega)]
      rw [ha] at hsta
      have HSTA := hide hsta
      have hab : absZ z = (z.natAbs : Int) := by unfold absZ; split <;> omega
      have hab0 := absZ_nonneg z
      have HAB := hide hab
      have hsub : (L : Int) - absZ z = ((L - z.natAbs : Nat) : Int) := by omega
      have HSUB := hide hsub
      obtain ⟨q, hq⟩ : ∃ q, q = absZ z := ⟨_, rfl⟩
      rw [← hq] at HSTA hz3 hab0 HSUB
      have hq512 : q ≤ 512 := by omega
      have O3 := hide o3
      have F3 := hide f3
      have B3 := hide b3
      clear o3 g3 a3 f3 b3 bt3 hb' hc hb hzz hsta ha hab hsub hq c0
      go_wp2_with fail
      refine (HSTA.out).mono ?_
      rintro e w4 ⟨rfl, rfl⟩
      by_cases hz0 : z = 0
      · subst hz0
        obtain ⟨hzl, hzs⟩ := HS.out.zero (by exact HLAST.out) HZ.out
        obtain ⟨zc, hzc⟩ : ∃ zc, zc = zerosOf (N.drop (k + 1)) := ⟨_, rfl⟩
        rw [← hzc] at hzl hzs
        have HZS := hide hzs
        have HZC := hide hzc
        have hzlI : (k : Int) + 1 + zc < n := by omega
        clear hzs hzc
        have O3' := hide (show Own w3 4 v3 (bools (cur ++ numBits 1 (L + 2))) from O3.out)
        have bt4 := HB0.out.fresh F3.out
        have e0 := bt4.cell 1
        simp at e0
        have hkn : k < n := hlt
        clear bt4 O3 HSTA d0 hlt
        go_wp2_with fail
        go_loopg [5, 6] zc (fun m i nn wr => wr = w3 ∧ ∃ j : Nat, j + m = zc ∧ i = .int .i64 (k + j : Nat) ∧ nn = .int .i64 j)
        case atStart => exact ⟨rfl, 0, by omega, rfl, rfl⟩
        case round =>
          obtain ⟨rfl, j, hj, rfl, rfl⟩ := hrel
          have HJ := hide hj
          have hjz : j ≤ zc := by omega
          clear hj
          obtain ⟨b5, o5, hk5, he5, hb5, hc5⟩ := (HR.out.fresh F3.out).int (k := k + j + 1) (by omega)
          injection he5 with he5
          injection he5 with h51 h52
          subst h51 h52
          have hg5 : N[k + j + 1]? = some N[k + j + 1] := List.getElem?_eq_getElem hk5
          have hkj : ((k + j : Nat) : Int) + 1 < n := by omega
          have hkj0 : ((k + j : Nat) : Int) ≤ 256 := by omega
          by_cases hjl : j < zc
          · have h0 := zerosOf_get (N.drop (k + 1)) j (by rw [← HZC.out]; exact hjl)
            rw [List.getElem?_drop, show k + 1 + j = k + j + 1 by omega, hg5] at h0
            injection h0 with h0
            rw [h0] at hc5
            clear hg5 h0 hk5
            go_wp2_with fail
            go_roundg (gk - 1)
            case measure => have := HJ.out; omega
            case rel => exact ⟨rfl, j + 1, by have := HJ.out; omega, by congr 1, by go_num⟩
          · obtain rfl : j = zc := by omega
            have h0 := zerosOf_stop (N.drop (k + 1))
            rw [← HZC.out, List.getElem?_drop, show k + 1 + j = k + j + 1 by omega, hg5] at h0
            obtain ⟨z5, hz5⟩ : ∃ z5, z5 = N[k + j + 1] := ⟨_, rfl⟩
            rw [← hz5] at hc5 h0
            have hz50 : (z5 == 0) = false := by simpa using h0
            clear hg5 h0 hk5 hz5
            go_wp2_with fail
            go_loopg [3, 6] (j / 3) (fun m s nn wr => ∃ t : Nat, t + m = j / 3 ∧ nn = .int .i64 (j - 3 * t : Nat) ∧ NewBits w0 wr s (cur ++ numBits 1 (L + 2) ++ runPart t))
            case atStart => exact ⟨0, by omega, rfl, by simpa [runPart] using O3'.out, F3.out, B3.out⟩
            case round =>
              obtain ⟨t, ht, rfl, ho, hf, hob⟩ := hrel
              have hcl2 : (cur ++ numBits 1 (L + 2) ++ runPart t).length ≤ 5000 := by
                have h1 := numBits_length 1 (L + 2)
                have h2 := cutB_le (L + 2) 10 (by omega) (by omega) (by omega)
                rw [List.length_append, List.length_append, runPart_length]
                omega
              have HT := hide ht
              have HO4 := hide ho
              have HF4 := hide hf
              have HOB4 := hide hob
              clear ht ho hf hob
              by_cases h3 : 3 ≤ j - 3 * t
              · have h3I : (3 : Int) ≤ ((j - 3 * t : Nat) : Int) := by omega
                have h3J : ((j - 3 * t : Nat) : Int) ≤ 256 := by omega
                have hnx : ((j - 3 * t : Nat) : Int) - 3 = ((j - 3 * (t + 1) : Nat) : Int) := by omega
                have HNX := hide hnx
                have hlen : (bools (cur ++ numBits 1 (L + 2) ++ runPart t)).length + 2 ≤ 2 ^ 40 := by rw [bools_length]; omega
                have HLEN := hide hlen
                have hnb := Blk.new wr 4 #[.bool true, .bool true]
                have hrd4 := hnb.rds
                have RD4 := hide hrd4
                clear hnx hlen hnb hrd4
                go_wp2_with (at_builtin; go_must (refine wpList_app _ rfl (.tmp 62) (.tmp 63) _ rfl 4 _ 1 Try.underlying42 infoBool rfl _ _ rfl (HO4.out.alloc _) _ 2 _ _ rfl RD4.out (by simp [Value.oneCell']) (by omega) HLEN.out ?_))
                intro v5 w5 o5' g5 a5
                have f5 : Fresh w0 w5 := (HF4.out.alloc _).grown g5 (fun kk hkk hlt => by have := HOB4.out kk hkk; omega)
                have b5' : ∀ kk, v5.ownBlock = some kk → w0.heap.size ≤ kk := own_S (S := fun kk => w0.heap.size ≤ kk) a5 HOB4.out (by have := HF4.out.size; simp; omega)
                have O5 := hide o5'
                have F5 := hide f5
                have B5 := hide b5'
                clear o5' g5 a5 f5 b5'
                go_wp2_with fail
                go_roundg (gk - 1)
                case measure => have := HT.out; omega
                case rel =>
                  refine ⟨t + 1, by have := HT.out; omega, by rw [HNX.out], ?_, F5.out, B5.out⟩
                  rw [runPart_succ]
                  have h := O5.out
                  simpa [bools, bitsB] using h
              · have h3I : ((j - 3 * t : Nat) : Int) < 3 := by omega
                have hre := runPart_end j t (by have := HT.out; omega) (by omega)
                have hbb := rbits_any (j - 3 * t) 2 wr (by omega) (by omega)
                have HBB := hide hbb
                have HRE := hide hre
                clear hbb hre
                go_wp2_with fail
                refine HBB.out.mono ?_
                rintro e w5 ⟨s5, rfl, o5', f5, k5⟩
                obtain ⟨A5, n5, c5, rfl, hn5⟩ := o5'.form'
                have hrd5 := (o5'.rd rfl).2.2
                rw [← hn5.out] at hrd5
                have O5 := hide (HO4.out.fresh f5)
                have RD5 := hide hrd5
                have hlen : (bools (cur ++ numBits 1 (L + 2) ++ runPart t)).length + n5 ≤ 2 ^ 40 := by have := hn5.out; rw [bools_length] at this ⊢; simp only [bitsB_length] at this; omega
                have HLEN := hide hlen
                have F5 := hide (HF4.out.trans' f5)
                clear o5' f5 k5 hn5 hrd5 hlen HBB
                go_wp2_with (at_builtin; go_must (refine wpList_app _ rfl (.tmp 65) (.tmp 68) _ rfl 4 _ 1 Try.underlying42 infoBool rfl _ _ rfl O5.out _ n5 _ _ rfl RD5.out (bools_one _) (by omega) HLEN.out ?_))
                intro v6 w6 o6 g6 a6
                have f6 : Fresh w0 w6 := F5.out.grown g6 (fun kk hkk hlt => by have := HOB4.out kk hkk; omega)
                have b6 : ∀ kk, v6.ownBlock = some kk → w0.heap.size ≤ kk := own_S (S := fun kk => w0.heap.size ≤ kk) a6 HOB4.out (by have := F5.out.size; exact this)
                have e6 : bools (cur ++ (numBits 1 (L + 2) ++ runPart t)) ++ bools (bitsB 2 (j - 3 * t)) = bools (cur ++ numBits 1 (L + 2) ++ runBits j) := by rw [HRE.out]; simp [bools]
                rw [e6] at o6
                clear e6
                have O6 := hide o6
                have F6 := hide f6
                have B6 := hide b6
                clear o6 g6 a6 f6 b6
                go_wp2_with fail
                go_roundg (n - (k + j + 1))
                case measure => have := HK.out; omega
                case rel => exact ⟨k + 1 + j, L, _, by omega, by congr 1; omega, by congr 1, HZS.out, O6.out, F6.out, B6.out⟩
      · have hz0' : (z != 0) = true := by simpa using hz0
        have hne := HS.out.ne HALL.out HZ.out hz0
        have HNE := hide hne
        clear hne
        go_wp2_with fail
        go_roundg (gk - 1)
        case measure => have := HK.out; omega
        case rel => exact ⟨k + 1, L - z.natAbs, _, by have := HK.out; omega, by go_num, by rw [← HSUB.out], HNE.out, O3.out, F3.out, B3.out⟩
    · obtain rfl : k = n := by have := HK.out; omega
      have e : D = cur := by
        have h1 := HS.out.1
        rw [List.drop_of_length_le (by have := HN.out; omega)] at h1
        simpa [normBits] using h1
      subst e
      go_wp2_with fail
      try go_ret
      exact hR.out _ _ ⟨_, rfl, HO.out, FR0.out.trans' HF.out, fun kk hkk => Nat.le_trans FR0.out.size (HOB.out kk hkk)⟩

end Go.Proofs.Ytbnicnindggimaa
