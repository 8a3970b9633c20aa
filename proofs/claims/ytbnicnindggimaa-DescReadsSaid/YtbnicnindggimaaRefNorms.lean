/-
  The reference of descriptions: norms.
  Conditions: none beyond those of each theorem.
-/
import Derived.Test.YtbnicnindggimaaRefGet
namespace Go.Proofs.Ytbnicnindggimaa
open Go.RowKit
set_option linter.unusedVariables false
set_option linter.unusedSimpArgs false

theorem noughtsS_go {room : Int} {L : List Bool} {f len fr : Nat} (h : (len : Int) < room) : noughtsS room L (f + 1) 3 len ⟨fr, 0⟩ = noughtsS room L f (takeS L 2 ⟨fr, 0⟩).1 (len + (takeS L 2 ⟨fr, 0⟩).1) (takeS L 2 ⟨fr, 0⟩).2 := by
  conv => lhs; unfold noughtsS
  have hm : mustS (decide ((len : Int) < room)) 13 ⟨fr, 0⟩ = (true, ⟨fr, 0⟩) := by unfold mustS; simp [h]
  rw [hm]; simp
theorem noughtsS_full {room : Int} {L : List Bool} {f len fr : Nat} (h : room ≤ len) : noughtsS room L (f + 1) 3 len ⟨fr, 0⟩ = (len, ⟨fr, 13⟩) := by
  conv => lhs; unfold noughtsS
  have hm : mustS (decide ((len : Int) < room)) 13 ⟨fr, 0⟩ = (false, ⟨fr, 13⟩) := by unfold mustS; simp; omega
  rw [hm]; simp

theorem eq3 (k : Nat) : ((k : Int) == 3) = decide (k = 3) := by rw [Bool.eq_iff_iff]; simp; omega
theorem wrap_small (k : Nat) (h : k < 4) : wrap64 (k : Int) = k := by unfold wrap64; omega

theorem tableS_full {sy : Int} {L : List Bool} {f left fr : Nat} {N : List Int} {ran : Bool} (h : 0 < left) (h2 : sy ≤ N.length) : tableS sy L (f + 1) left N ran ⟨fr, 0⟩ = (N, ⟨fr, 13⟩) := by
  have hm : mustS (decide ((N.length : Int) < sy)) 13 ⟨fr, 0⟩ = (false, ⟨fr, 13⟩) := by unfold mustS; simp; omega
  rw [tableS_fail sy L f left N ran _ h (by rw [hm]), hm]
theorem must_room {sy : Int} {N : List Int} {fr : Nat} (h : (N.length : Int) < sy) : (mustS (decide ((N.length : Int) < sy)) 13 ⟨fr, 0⟩).1 = true := by unfold mustS; simp [h]

set_option maxRecDepth 100000 in
set_option maxHeartbeats 8000000 in
theorem rnorms_any (F : Nat → Prop) (g : Nat) (L : List Bool) (fr left : Nat) (sy : Int) (w : World) (h : RefAt w F g L fr) (hl : left ≤ 512) (hsy : sy ≤ 256) (hL : L.length ≤ 2 ^ 40) (hFg : ∀ b, F b → b ≠ g) (hFw : ∀ b, F b → b < w.heap.size) (hgw : g < w.heap.size) :
    Calls Try.prog 43 #[.pointer (some ⟨g, 0, none⟩), .int .i64 left, .int .i64 sy] w fun e w' =>
      ∃ v : Value, e = .returned (.tuple #[v, .int .i64 (tableS sy L 600 left [] false ⟨fr, 0⟩).2.e]) ∧ Upd (fun b => b = g) w w' ∧
        ((tableS sy L 600 left [] false ⟨fr, 0⟩).2.e = 0 → Own w' 3 v (ints (tableS sy L 600 left [] false ⟨fr, 0⟩).1) ∧ (∀ b, v.ownBlock = some b → w.heap.size ≤ b) ∧ RefAt w' F g L (tableS sy L 600 left [] false ⟨fr, 0⟩).2.fr ∧
          (tableS sy L 600 left [] false ⟨fr, 0⟩).1.length ≤ 1000) := by
  obtain ⟨T, hT⟩ : ∃ T, T = tableS sy L 600 left [] false ⟨fr, 0⟩ := ⟨_, rfl⟩
  rw [← hT]
  have HT := hide hT.symm
  have HR := hide h
  have HFG := hide hFg
  have hget := fun fr' m W (hW : RefAt W F g L fr') h1 h2 => rget_any F g L fr' m W hW h1 h2 hL hFg
  have HGET := hide hget
  have hfst := fun fr' n W (hW : RefAt W F g L fr') h1 => rfirst_any F g L fr' n W hW h1 hL hFg
  have HFST := hide hfst
  have HFW := hide hFw
  have hlI : (left : Int) ≤ 512 := by omega
  have hbad : ∀ (q : Int) (W : World), Upd (fun b => b = g) w W → T.2.e = q → q ≠ 0 → ∃ v : Value, Ending.returned (.tuple #[.slice none 0 0, .int .i64 q]) = .returned (.tuple #[v, .int .i64 T.2.e]) ∧ Upd (fun b => b = g) w W ∧
        (T.2.e = 0 → Own W 3 v (ints T.1) ∧ (∀ b, v.ownBlock = some b → w.heap.size ≤ b) ∧ RefAt W F g L T.2.fr ∧ T.1.length ≤ 1000) := by
    intro q W hu hq hq0
    exact ⟨_, by rw [hq], hu, fun h0 => absurd (hq.symm.trans h0) hq0⟩
  have HBAD := hide hbad
  clear hT h hFg hget hfst hbad hFw
  refine veil fun R hR => ?_
  go_enter Try.func43, Try.ntmps43
  go_wp2_with fail
  go_loopg [1, 8, 9] 600 (fun f l s r wr => ∃ (lf fr' : Nat) (N : List Int) (ran : Bool), l = .int .i64 lf ∧ r = .bool ran ∧ Own wr 3 s (ints N) ∧ (∀ b, s.ownBlock = some b → w.heap.size ≤ b) ∧ Upd (fun b => b = g) w wr ∧
    RefAt wr F g L fr' ∧ tableS sy L f lf N ran ⟨fr', 0⟩ = T ∧ lf ≤ 512 ∧ 600 ≤ f + min N.length 257 ∧ N.length ≤ 600)
  case atStart => exact ⟨left, fr, [], false, rfl, rfl, Own.nil _ _, by simp [Value.ownBlock], Upd.refl _ _, HR.out, HT.out, hl, by simp, by simp⟩
  case round =>
    obtain ⟨lf, fr', N, ran, rfl, rfl, ho, hob, hu, hr, htot, hlf, hf, hNl⟩ := hrel
    obtain ⟨A, n, c, rfl, hn⟩ := ho.form'
    have hnN : n = N.length := by have := hn.out; simpa using this
    have HO := hide ho
    have HOB := hide hob
    have HU := hide hu
    have HRR := hide hr
    have HTOT := hide htot
    have HNN := hide hnN
    have hnI : (n : Int) ≤ 600 := by omega
    have hlfI : (lf : Int) ≤ 512 := by omega
    clear ho hob hu hr htot hn hnN
    by_cases hl0 : 0 < lf
    · obtain ⟨f, rfl⟩ : ∃ f, gk = f + 1 := ⟨gk - 1, by omega⟩
      have hl0I : 0 < (lf : Int) := by omega
      by_cases hfull : sy ≤ n
      · have ht := HTOT.out
        rw [tableS_full hl0 (by rw [← HNN.out]; exact hfull)] at ht
        have he : T.2.e = 13 := by rw [← ht]
        have HE := hide he
        clear ht he
        go_wp2_with fail
        try go_ret2
        exact hR.out _ _ (HBAD.out 13 _ HU.out HE.out (by omega))
      · have hroom : (n : Int) < sy := by omega
        have hm1 := must_room (fr := fr') (N := N) (sy := sy) (by rw [← HNN.out]; exact hroom)
        have hgg := HGET.out fr' (lf + 2) wr HRR.out (by omega) (by omega)
        have hyl := numberS_lt L (lf + 2) ⟨fr', 0⟩ (by omega) (by omega)
        obtain ⟨Y, hY⟩ : ∃ Y, Y = numberS L (lf + 2) ⟨fr', 0⟩ := ⟨_, rfl⟩
        rw [← hY] at hgg hyl
        obtain ⟨y, fr6, e6⟩ := Y
        simp only at hgg hyl
        rw [show ((lf + 2 : Nat) : Int) = (lf : Int) + 2 by omega] at hgg
        have HG := hide hgg
        have HY := hide hY.symm
        have HM1 := hide hm1
        have hyI : (y : Int) ≤ 513 := by omega
        clear hgg hY hm1 hfull
        by_cases he6 : e6 = 0
        · subst he6
          by_cases hyr : y = 1 ∧ ran = true
          · obtain ⟨rfl, rfl⟩ := hyr
            have hm2 : mustS (((1 : Nat) : Int) - 1 != 0 || !true) 13 ⟨fr6, 0⟩ = (false, ⟨fr6, 13⟩) := rfl
            have ht := tableS_stop sy L f lf N true ⟨fr', 0⟩ 1 ⟨fr6, 0⟩ hl0 HM1.out HY.out (by rw [hm2])
            rw [HTOT.out, hm2] at ht
            have he : T.2.e = 13 := by rw [ht]
            have HE := hide he
            clear ht he hm2
            go_wp2_with fail
            refine HG.out.mono ?_
            rintro e w1 ⟨rfl, u1, r1⟩
            have U1 := hide (HU.out.trans' u1)
            clear u1 r1
            go_wp2_with fail
            try go_ret2
            exact hR.out _ _ (HBAD.out 13 _ U1.out HE.out (by omega))
          · have hm2 : mustS ((y : Int) - 1 != 0 || !ran) 13 ⟨fr6, 0⟩ = (true, ⟨fr6, 0⟩) := by
              have hb : ((y : Int) - 1 != 0 || !ran) = true := by
                by_cases h1 : y = 1
                · have : ran = false := by
                    cases ran with
                    | false => rfl
                    | true => exact absurd ⟨h1, rfl⟩ hyr
                  rw [this]; simp
                · have : ((y : Int) - 1 != 0) = true := by simp; omega
                  rw [this]; rfl
              unfold mustS; simp [hb]
            have hm21 : (mustS ((y : Int) - 1 != 0 || !ran) 13 ⟨fr6, 0⟩).1 = true := by rw [hm2]
            have hlen1 : (ints N).length + 1 ≤ 2 ^ 40 := by simp; omega
            have HLEN1 := hide hlen1
            have hyw : ((y : Int) == 1) = decide (y = 1) := by rw [Bool.eq_iff_iff]; simp; omega
            by_cases hy1 : y = 1
            · have hran : ran = false := by
                cases ran with
                | false => rfl
                | true => exact absurd ⟨hy1, rfl⟩ hyr
              subst hy1 hran
              have ht := tableS_zero sy L f lf N false ⟨fr', 0⟩ 1 ⟨fr6, 0⟩ hl0 HM1.out HY.out hm21 rfl
              rw [HTOT.out] at ht
              have HTZ := hide ht.symm
              have hsta := hide (fun W => states_any 0 W)
              clear ht hm2 hm21 hyr hlen1 hyw
              go_wp2_with fail
              refine HG.out.mono ?_
              rintro e w1 ⟨rfl, u1, r1⟩
              have o1 := HO.out.upd u1 (fun b hb h => by have := HOB.out b hb; omega)
              have O1 := hide o1
              have U1 := hide (HU.out.trans' u1)
              have R1 := hide r1
              clear u1 r1 o1 HG
              go_wp2_with (at_builtin; go_must (refine wpList_app _ rfl (.tmp 37) (.tmp 40) _ rfl 3 _ 8 Try.underlying22 infoInt rfl _ _ rfl (O1.out.alloc _) _ 1 _ _ rfl (Rd.one w1 3 (.int .i64 0)) (by simp [Value.oneCell']) (by omega) HLEN1.out ?_))
              intro v2 w2 o2 g2 a2
              rw [show ints N ++ [.int .i64 0] = ints (N ++ [0]) by simp [ints]] at o2
              have b2 : ∀ kk, v2.ownBlock = some kk → w.heap.size ≤ kk := own_S (S := fun kk => w.heap.size ≤ kk) a2 HOB.out (by have := U1.out.size; simp; omega)
              have u2 : Upd (fun b => b = g) w w2 := (U1.out.alloc _).grown g2 (fun kk hkk hlt => by have := HOB.out kk hkk; omega)
              have ug : Upd (fun b => (Value.slice A n c).ownBlock = some b) w1 w2 := ((Upd.refl _ w1).alloc _).grown g2 (fun kk hkk _ => hkk)
              have r2 : RefAt w2 F g L fr6 := R1.out.upd ug (fun h => by have := HOB.out g h; omega) (fun b hb hF h => by have := HOB.out b h; have := HFW.out b hF; omega)
              obtain ⟨Z, hZ⟩ : ∃ Z, Z = noughtsS (sy - (N.length + 1 : Nat)) L 300 3 0 ⟨fr6, 0⟩ := ⟨_, rfl⟩
              rw [← hZ] at HTZ
              have HZ := hide hZ
              have O2 := hide o2
              have B2 := hide b2
              have U2 := hide u2
              have R2 := hide r2
              clear o2 g2 a2 b2 u2 ug r2 hZ O1 U1 R1 HLEN1
              go_wp2_with fail
              refine (hsta.out _).mono ?_
              rintro e w3 ⟨rfl, rfl⟩
              go_wp2_with fail
              go_loopg [8, 12] 300 (fun f2 s mo wr => ∃ (kk len fr2 : Nat), mo = .bool (decide (kk = 3)) ∧ Own wr 3 s (ints (N ++ [0] ++ List.replicate len 0)) ∧ (∀ b, s.ownBlock = some b → w.heap.size ≤ b) ∧ Upd (fun b => b = g) w wr ∧
                RefAt wr F g L fr2 ∧ noughtsS (sy - (N.length + 1 : Nat)) L f2 kk len ⟨fr2, 0⟩ = Z ∧ (kk = 3 → 900 ≤ 3 * f2 + len) ∧ len ≤ 260 ∧ kk < 4)
              case atStart => exact ⟨3, 0, fr6, rfl, by simpa using O2.out, B2.out, U2.out, R2.out, HZ.out.symm, by omega, by omega, by omega⟩
              case round =>
                obtain ⟨kk, len, fr2, rfl, ho, hob, hu, hr, hno, h900, hlen, hk4⟩ := hrel
                obtain ⟨A5, n5, c5, rfl, hn5⟩ := ho.form'
                have hn5' : (n5 : Int) = (n : Int) + 1 + len := by have h1 := hn5.out; have h2 := HNN.out; simp at h1; omega
                have HO5 := hide ho
                have HOB5 := hide hob
                have HU5 := hide hu
                have HR5 := hide hr
                have HNO := hide hno
                have H900 := hide h900
                have HLEN5 := hide hlen
                have HN5 := hide hn5'
                have hn5I : (n5 : Int) ≤ 1000 := by omega
                clear ho hob hu hr hno h900 hn5 hn5' hlen
                by_cases hk3 : kk = 3
                · subst hk3
                  obtain ⟨f2, hf2⟩ : ∃ f2, gk = f2 + 1 := ⟨gk - 1, by have := H900.out rfl; have := HLEN5.out; omega⟩
                  subst hf2
                  by_cases hfull2 : sy ≤ n5
                  · have hno := HNO.out
                    rw [noughtsS_full (by have := HN5.out; have := HNN.out; omega)] at hno
                    have he : T.2.e = 13 := by
                      have h1 := HTZ.out
                      rw [← hno, ] at h1
                      rw [← h1, tableS_stick (by simp)]
                    have HE := hide he
                    clear hno he
                    go_wp2_with fail
                    try go_ret2
                    exact hR.out _ _ (HBAD.out 13 _ HU5.out HE.out (by omega))
                  · have hroom2 : (n5 : Int) < sy := by omega
                    have hno := HNO.out
                    rw [noughtsS_go (by have := HN5.out; have := HNN.out; omega)] at hno
                    have hf5 := HFST.out fr2 2 _ HR5.out (by omega)
                    have hxl := takeS_lt L 2 ⟨fr2, 0⟩
                    have hxx : takeS L 2 ⟨fr2, 0⟩ = (0, ⟨fr2, 3⟩) ∨ ∃ k5, takeS L 2 ⟨fr2, 0⟩ = (k5, ⟨fr2 + 2, 0⟩) := by
                      by_cases hs : fr2 + 2 ≤ L.length
                      · exact .inr ⟨_, takeS_ok hs⟩
                      · exact .inl (takeS_no (by omega))
                    generalize takeS L 2 ⟨fr2, 0⟩ = X at *
                    clear hfull2
                    rcases hxx with hxx | ⟨k5, hxx⟩
                    · subst hxx
                      simp only at hno hf5
                      rw [noughtsS_last (by omega)] at hno
                      have he : T.2.e = 3 := by
                        have h1 := HTZ.out
                        rw [← hno] at h1
                        rw [← h1, tableS_stick (by simp)]
                      have HE := hide he
                      have HF5 := hide hf5
                      clear hno he hf5 hxl
                      go_wp2_with fail
                      refine HF5.out.mono ?_
                      rintro e w5 ⟨rfl, u5, r5⟩
                      have U5 := hide (HU5.out.trans' u5)
                      clear u5 r5
                      go_wp2_with fail
                      try go_ret2
                      exact hR.out _ _ (HBAD.out 3 _ U5.out HE.out (by omega))
                    · subst hxx
                      simp only at hno hf5 hxl
                      have HF5 := hide hf5
                      have HNO5 := hide hno
                      have hk5I : (k5 : Int) < 4 := by omega
                      have HK5W := hide (wrap_small k5 (by omega))
                      have hk5d := eq3 k5
                      have HK5D := hide hk5d
                      clear hno hf5 hxl hk5d
                      go_wp2_with fail
                      refine HF5.out.mono ?_
                      rintro e w5 ⟨rfl, u5, r5⟩
                      have o5 := HO5.out.upd u5 (fun b hb h => by have := HOB5.out b hb; omega)
                      have O5 := hide o5
                      have U5 := hide (HU5.out.trans' u5)
                      have R5 := hide r5
                      clear u5 r5 o5
                      go_wp2_with fail
                      go_loopg [8, 15] k5 (fun m s j wr => ∃ jj : Nat, jj + m = k5 ∧ j = .int .i64 jj ∧ Own wr 3 s (ints (N ++ [0] ++ List.replicate (len + jj) 0)) ∧ (∀ b, s.ownBlock = some b → w.heap.size ≤ b) ∧ Upd (fun b => b = g) w wr ∧
                        RefAt wr F g L (fr2 + 2))
                      case atStart => exact ⟨0, by omega, rfl, by simpa using O5.out, HOB5.out, U5.out, R5.out⟩
                      case round =>
                        obtain ⟨jj, hjj, rfl, ho, hob, hu, hr⟩ := hrel
                        have HJJ := hide hjj
                        have HO6 := hide ho
                        have HOB6 := hide hob
                        have HU6 := hide hu
                        have HR6 := hide hr
                        have hlen6 : (ints (N ++ [0] ++ List.replicate (len + jj) 0)).length + 1 ≤ 2 ^ 40 := by have := HLEN5.out; rw [ints_length]; simp; omega
                        have HLEN6 := hide hlen6
                        clear hjj ho hob hu hr hlen6
                        by_cases hjl : jj < k5
                        · have hjlI : (jj : Int) < k5 := by omega
                          go_wp2_with (at_builtin; go_must (refine wpList_app _ rfl (.tmp 69) (.tmp 70) _ rfl 3 _ 8 Try.underlying22 infoInt rfl _ _ rfl (HO6.out.alloc _) _ 1 _ _ rfl (Rd.one wr 3 (.int .i64 0)) (by simp [Value.oneCell']) (by decide) HLEN6.out ?_))
                          intro v7 w7 o7 g7 a7
                          try clear hk5w
                          have b7 : ∀ q, v7.ownBlock = some q → w.heap.size ≤ q := own_S (S := fun q => w.heap.size ≤ q) a7 HOB6.out (by have := HU6.out.size; simp; omega)
                          have u7 : Upd (fun b => b = g) w w7 := (HU6.out.alloc _).grown g7 (fun q hq hlt => by have := HOB6.out q hq; omega)
                          have ug : Upd (fun b => w.heap.size ≤ b) wr w7 := ((Upd.refl _ wr).alloc _).grown g7 (fun q hq _ => HOB6.out q hq)
                          have r7 : RefAt w7 F g L (fr2 + 2) := HR6.out.upd ug (fun h => by omega) (fun b hb hF h => by have := HFW.out b hF; omega)
                          have O7 := hide o7
                          have B7 := hide b7
                          have U7 := hide u7
                          have R7 := hide r7
                          clear o7 g7 a7 b7 u7 ug r7
                          go_wp2_with fail
                          go_roundg (gk - 1)
                          case measure => have := HJJ.out; omega
                          case rel =>
                            refine ⟨jj + 1, by have := HJJ.out; omega, by go_num, ?_, B7.out, U7.out, R7.out⟩
                            have h := O7.out
                            rw [← Nat.add_assoc, List.replicate_succ']
                            simpa [ints] using h
                        · obtain rfl : jj = k5 := by have := HJJ.out; omega
                          have hk5w := HK5W.out
                          go_wp2_with fail
                          try clear hk5w
                          go_roundg f2
                          case measure => omega
                          case rel => exact ⟨jj, len + jj, fr2 + 2, by rw [← HK5D.out], HO6.out, HOB6.out, HU6.out, HR6.out, HNO5.out, fun h => by have := H900.out (by trivial); omega, by have := HN5.out; omega, by omega⟩
                · have hk3' : decide (kk = 3) = false := by simpa using hk3
                  have hno := HNO.out
                  rw [noughtsS_last hk3] at hno
                  have htz := HTZ.out
                  rw [← hno] at htz
                  have HTZ2 := hide htz
                  clear hno htz
                  go_wp2_with fail
                  go_roundg f
                  case measure => omega
                  case rel => exact ⟨lf, fr2, _, true, rfl, rfl, HO5.out, HOB5.out, HU5.out, HR5.out, HTZ2.out, by omega, by have := HNN.out; simp; omega, by have := HNN.out; have := HLEN5.out; have := HN5.out; simp; omega⟩
            · have hz1 : -1 ≤ (y : Int) - 1 := by omega
              have hne : (y : Int) - 1 ≠ 0 := by omega
              have ht := tableS_ne sy L f lf N ran ⟨fr', 0⟩ y ⟨fr6, 0⟩ hl0 HM1.out HY.out hm21 hne
              rw [HTOT.out] at ht
              have HTZ := hide ht.symm
              have hsta := fun W => states_any ((y : Int) - 1) W
              have ha : (if (y : Int) - 1 = -1 then 1 else (y : Int) - 1) = absZ ((y : Int) - 1) := by
                unfold absZ
                by_cases h : (y : Int) - 1 = -1
                · rw [if_pos h, if_pos (by omega)]; omega
                · rw [if_neg h, if_neg (by omega)]
              simp only [ha] at hsta
              have hsub : (lf : Int) - absZ ((y : Int) - 1) = ((lf - ((y : Int) - 1).natAbs : Nat) : Int) := by unfold absZ; split <;> omega
              have hq1 : absZ ((y : Int) - 1) ≤ 512 := by unfold absZ; split <;> omega
              have hq0 := absZ_nonneg ((y : Int) - 1)
              obtain ⟨q, hq⟩ : ∃ q, q = absZ ((y : Int) - 1) := ⟨_, rfl⟩
              simp only [← hq] at hsta hsub hq1 hq0
              have HSTA := hide hsta
              have HSUB := hide hsub
              have hyf : ((y : Int) == 1) = false := by simp; omega
              have hlf2 : lf - ((y : Int) - 1).natAbs ≤ 512 := by omega
              have HLF2 := hide hlf2
              clear ht hm2 hm21 hyr hlen1 hyw hsta hsub ha hq hne hy1 hlf2
              go_wp2_with fail
              refine HG.out.mono ?_
              rintro e w1 ⟨rfl, u1, r1⟩
              have o1 := HO.out.upd u1 (fun b hb h => by have := HOB.out b hb; omega)
              have O1 := hide o1
              have U1 := hide (HU.out.trans' u1)
              have R1 := hide r1
              clear u1 r1 o1 HG
              go_wp2_with (at_builtin; go_must (refine wpList_app _ rfl (.tmp 37) (.tmp 40) _ rfl 3 _ 8 Try.underlying22 infoInt rfl _ _ rfl (O1.out.alloc _) _ 1 _ _ rfl (Rd.one w1 3 (.int .i64 ((y : Int) - 1))) (by simp [Value.oneCell']) (by omega) HLEN1.out ?_))
              intro v2 w2 o2 g2 a2
              rw [show ints N ++ [.int .i64 ((y : Int) - 1)] = ints (N ++ [(y : Int) - 1]) by simp [ints]] at o2
              have b2 : ∀ kk, v2.ownBlock = some kk → w.heap.size ≤ kk := own_S (S := fun kk => w.heap.size ≤ kk) a2 HOB.out (by have := U1.out.size; simp; omega)
              have u2 : Upd (fun b => b = g) w w2 := (U1.out.alloc _).grown g2 (fun kk hkk hlt => by have := HOB.out kk hkk; omega)
              have ug : Upd (fun b => (Value.slice A n c).ownBlock = some b) w1 w2 := ((Upd.refl _ w1).alloc _).grown g2 (fun kk hkk _ => hkk)
              have r2 : RefAt w2 F g L fr6 := R1.out.upd ug (fun h => by have := HOB.out g h; omega) (fun b hb hF h => by have := HOB.out b h; have := HFW.out b hF; omega)
              have O2 := hide o2
              have B2 := hide b2
              have U2 := hide u2
              have R2 := hide r2
              clear o2 g2 a2 b2 u2 ug r2 O1 U1 R1 HLEN1
              go_wp2_with fail
              refine (HSTA.out _).mono ?_
              rintro e w3 ⟨rfl, rfl⟩
              go_wp2_with fail
              go_loopg [8, 12] 0 (fun m s mo wr => wr = w2 ∧ s = v2 ∧ mo = .bool false)
              case atStart => exact ⟨rfl, rfl, rfl⟩
              case round =>
                obtain ⟨rfl, rfl, rfl⟩ := hrel
                go_wp2_with fail
                go_roundg f
                case measure => omega
                case rel => exact ⟨lf - ((y : Int) - 1).natAbs, fr6, _, false, by rw [← HSUB.out], rfl, O2.out, B2.out, U2.out, R2.out, HTZ.out, HLF2.out, by have := HNN.out; simp; omega, by have := HNN.out; simp; omega⟩
        · have hm2 : mustS ((y : Int) - 1 != 0 || !ran) 13 ⟨fr6, e6⟩ = (false, ⟨fr6, e6⟩) := by unfold mustS; rw [if_neg (by simpa using he6)]
          have ht := tableS_stop sy L f lf N ran ⟨fr', 0⟩ y ⟨fr6, e6⟩ hl0 HM1.out HY.out (by rw [hm2])
          rw [HTOT.out, hm2] at ht
          have he : T.2.e = e6 := by rw [ht]
          have HE := hide he
          have he6' : (e6 != 0) = true := by simpa using he6
          have HE6 := hide he6
          clear ht he hm2 he6
          go_wp2_with fail
          refine HG.out.mono ?_
          rintro e w1 ⟨rfl, u1, r1⟩
          have U1 := hide (HU.out.trans' u1)
          clear u1 r1
          go_wp2_with fail
          try go_ret2
          exact hR.out _ _ (HBAD.out e6 _ U1.out HE.out HE6.out)
    · obtain rfl : lf = 0 := by omega
      have ht : T = (N, ⟨fr', 0⟩) := by
        rw [← HTOT.out]
        cases gk with
        | zero => rfl
        | succ f => simp [tableS]
      have HTT := hide ht
      clear ht
      go_wp2_with fail
      try go_ret2
      refine hR.out _ _ ⟨.slice A n c, ?_, HU.out, fun _ => ?_⟩
      · rw [HTT.out]; rfl
      · rw [HTT.out]
        exact ⟨HO.out, HOB.out, HRR.out, by simp only; omega⟩

end Go.Proofs.Ytbnicnindggimaa
