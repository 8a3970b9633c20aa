/-
  DescNil: the law's function answers true.
  Conditions: none beyond those of each theorem.
-/
import Derived.Test.YtbnicnindggimaaOnce
import Derived.Test.YtbnicnindggimaaRefBits
import Derived.Test.YtbnicnindggimaaRefBytes
import Derived.Test.YtbnicnindggimaaStore
import Derived.Test.YtbnicnindggimaaSame07
namespace Go.Proofs.Ytbnicnindggimaa
open Go.RowKit
set_option linter.unusedVariables false
set_option linter.unusedSimpArgs false

theorem decodeS_nil (sy lb : Int) : decodeS sy lb (rowB (seenB [] 0)) = .error 3 := by
  have e : rowB (seenB [] 0) = [] := by rfl
  rw [e]
  have h1 : takeS [] 4 ⟨0, 0⟩ = (0, ⟨0, 3⟩) := by rfl
  unfold decodeS readS
  simp only [h1, mustS]
  simp

theorem ints_one (N : List Int) : ∀ u ∈ ints N, u.oneCell' = true := by
  intro u hu
  obtain ⟨_, _, rfl⟩ := List.mem_map.1 hu
  rfl

theorem zero_cur (w : World) : CurAt (w.alloc (.cells #[.slice none 0 0, .int .i64 0] 37)) (fun _ => False) w.heap.size [] 0 :=
  ⟨none, 0, by simpa using Blk.new w 37 #[.slice none 0 0, .int .i64 0], Rd.nil _ _ _, by simp, by simp, by simp, by simp⟩

set_option maxRecDepth 100000 in
set_option maxHeartbeats 4000000 in
theorem nil_any (F : Nat → Prop) (A : Option Addr) (n c : Nat) (lg : Int) (N : List Int) (sy lb : Int) (w : World) (hr : Rd w F A n (ints N)) (hfit : Fit N) :
    Calls Try.prog 5 #[.agg #[.int .i64 lg, .slice A n c], .int .i64 sy, .int .i64 lb] w fun e w' => e = .returned (.bool true) ∧ Fresh w w' := by
  have hkn := hide known_any
  obtain ⟨w0, hw0⟩ : ∃ w0, w0 = w.alloc (.cells #[.int .i64 lg, .slice A n c] 24) := ⟨_, rfl⟩
  obtain ⟨H, hH⟩ : ∃ H, H = w.heap.size := ⟨_, rfl⟩
  have fr0 : Fresh w w0 := by rw [hw0]; exact (Upd.refl _ _).alloc _
  have b0 : Blk w0 H 24 #[.int .i64 lg, .slice A n c] := by rw [hw0]; exact blk_new hH _ _
  have B0 := hide b0
  have HR := hide (hr.fresh fr0).both
  have HF := hide hfit
  have F0 := hide fr0
  have HW := hide hw0
  have HH := hide hH
  have c00 := b0.cell 0
  have c01 := b0.cell 1
  simp at c00 c01
  clear hr hfit fr0 hw0 hH b0
  refine veil fun R hR => ?_
  by_cases h1 : 300 < n
  · have h1' : (300 : Int) < n := by omega
    go_enter Try.func5, Try.ntmps5
    go_wp2_with fail
    rw [← HW.out]
    refine (hkn.out _).mono ?_
    rintro e w1 ⟨rfl, f1⟩
    have F1 := hide (F0.out.trans' f1)
    clear f1
    go_wp2_with fail
    try go_ret
    exact hR.out _ _ ⟨rfl, F1.out⟩
  have h1' : (n : Int) ≤ 300 := by omega
  obtain ⟨wz, hwz⟩ : ∃ wz, wz = w0.alloc (.cells #[.slice none 0 0, .int .i64 0] 37) := ⟨_, rfl⟩
  obtain ⟨Z, hZ⟩ : ∃ Z, Z = H + 1 := ⟨_, rfl⟩
  have hZ2 : Z = w0.heap.size := by rw [hZ, HW.out, HH.out]; simp
  have fz : Fresh w0 wz := by rw [hwz]; exact (Upd.refl _ _).alloc _
  have cz : CurAt wz (fun _ => False) Z [] 0 := by rw [hwz, hZ2]; exact zero_cur w0
  have FZ := hide fz
  have CZ := hide cz
  have HWZ := hide hwz
  have HZ := hide hZ
  have HZ2 := hide hZ2
  have hdn := decode_nil sy lb wz
  have HDN := hide hdn
  have hZH : H < Z := by have := B0.out.lt; omega
  clear fz cz hwz hZ hZ2 hdn
  go_enter Try.func5, Try.ntmps5
  go_wp2_with fail
  simp only [← HH.out, ← HW.out]
  go_wp2_with fail
  simp only [← HZ.out, ← HWZ.out]
  go_wp2_with fail
  refine HDN.out.mono ?_
  rintro e w1 ⟨rfl, f1⟩
  obtain ⟨w2, hw2⟩ : ∃ w2, w2 = w1.alloc (.cells #[.int .i64 0, .slice none 0 0] 24) := ⟨_, rfl⟩
  have fz2 : Fresh wz w2 := by rw [hw2]; exact f1.alloc _
  have FZ2 := hide fz2
  have hdz := decode_any (fun _ => False) Z [] 0 sy lb w2 (CZ.out.fresh fz2) (fun b hb => hb.elim)
  have HDZ := hide hdz
  have HW2 := hide hw2
  clear f1 fz2 hdz hw2 HDN
  go_wp2_with fail
  simp only [← HW2.out]
  go_wp2_with fail
  refine HDZ.out.mono ?_
  rintro e w3 ⟨u3, h3⟩
  rw [decodeS_nil] at h3
  obtain ⟨rfl, _⟩ := h3
  have hZw2 : Z < w2.heap.size := by have := (CZ.out.fresh FZ2.out).lt; exact this
  obtain ⟨w4, hw4⟩ : ∃ w4, w4 = w3.alloc (.cells #[.int .i64 0, .slice none 0 0] 24) := ⟨_, rfl⟩
  have f04 : Fresh w0 w4 := by
    rw [hw4]
    exact ((FZ.out.trans' FZ2.out).trans u3 (fun b hb h => by have := HZ2.out; omega)).alloc _
  have b4 := B0.out.fresh f04
  have d0 := b4.cell 0
  have d1 := b4.cell 1
  simp at d0 d1
  have hH4 := b4.lt
  have B4 := hide b4
  have F04 := hide f04
  have HW4 := hide hw4
  have r4 := HR.out.fresh f04
  have RD4 := hide r4
  clear f04 hw4 u3 b4 r4 HDZ c00 c01
  go_upto_region 6 with fail
  simp only [← HW4.out]
  go_cut [12] (fun q wx => ∃ (g : Nat) (A6 : Option Addr) (n6 c6 : Nat), q = .pointer (some ⟨g, 0, none⟩) ∧ Blk wx g 24 #[.int .i64 lg, .slice A6 n6 c6] ∧ Own wx 3 (.slice A6 n6 c6) (ints N) ∧ Fresh w0 wx ∧
    w0.heap.size ≤ g ∧ ∀ k, (Value.slice A6 n6 c6).ownBlock = some k → w0.heap.size ≤ k)
  case first =>
    have hlen6 : (0 : Nat) + n ≤ 2 ^ 40 := by omega
    have da0 : ∀ o, (w4.alloc o).cell? ⟨H, 0, none⟩ = some (.int .i64 lg) := fun o => (World.cell?_alloc_lt _ _ _ hH4).trans d0
    have da1 : ∀ o, (w4.alloc o).cell? ⟨H, 1, none⟩ = some (.slice A n c) := fun o => (World.cell?_alloc_lt _ _ _ hH4).trans d1
    go_region_law ((first
      | (refine step_app _ (by rfl) (.const (.slice none 0 0)) (.tmp 38) _ (by rfl) 3 _ 8 Try.underlying22 infoInt rfl (.slice none 0 0) [] (by rfl) (Own.nil _ _) _ n _ _ (by rfl) RD4.out.drew (ints_one N) (by omega) hlen6 ?_
         intro v6 w6 o6 g6 a6
         obtain ⟨A6, n6, c6, rfl, hn6⟩ := o6.form'
         have hc60 := g6.cell d0 (by simp [Value.ownBlock])
         have hc61 : ∀ o, (w6.alloc o).cell? ⟨H, 0, none⟩ = some (.int .i64 lg) := fun o => (World.cell?_alloc_lt _ _ _ (Nat.lt_of_lt_of_le hH4 g6.size)).trans hc60
         have f6 : Fresh w4 w6 := (Upd.refl (fun _ => False) w4).drew.grown g6 (fun k hk => by simp [Value.ownBlock] at hk)
         have fin : ∃ (g : Nat), g = w6.heap.size ∧ Fresh w4 w6 ∧ w4.heap.size ≤ g := ⟨_, rfl, f6, f6.size⟩)
      | (refine step_app _ (by rfl) (.const (.slice none 0 0)) (.tmp 38) _ (by rfl) 3 _ 8 Try.underlying22 infoInt rfl (.slice none 0 0) [] (by rfl) (Own.nil _ _) _ n _ _ (by rfl) ((RD4.out.alloc (.cells #[.int .i64 0, .slice none 0 0] 24)).drew) (ints_one N) (by omega) hlen6 ?_
         intro v6 w6 o6 g6 a6
         obtain ⟨A6, n6, c6, rfl, hn6⟩ := o6.form'
         have bq := (Blk.new w4 24 #[.int .i64 0, .slice none 0 0]).drew.grown g6 (by simp [Value.ownBlock])
         have hc60 := g6.cell ((World.cell?_alloc_lt _ _ _ hH4).trans d0) (by simp [Value.ownBlock])
         have q0 := bq.cell 0
         have q1 := bq.cell 1
         have z0 := bq.frozen 0
         have z1 := bq.frozen 1
         have f6 : Fresh w4 w6 := ((Upd.refl (fun _ => False) w4).alloc _).drew.grown g6 (fun k hk => by simp [Value.ownBlock] at hk))))
    all_goals go_wp2_with fail
    all_goals go_meet
    all_goals
      have k6 : ∀ k, (Value.slice A6 n6 c6).ownBlock = some k → w0.heap.size ≤ k := own_S (S := fun k => w0.heap.size ≤ k) a6 (fun k hk => by simp [Value.ownBlock] at hk) (by have := F04.out.size; simp; omega)
      have o6' : Own w6 3 (.slice A6 n6 c6) (ints N) := by simpa using o6
      first
        | exact ⟨w6.heap.size, A6, n6, c6, rfl, by simpa using Blk.new w6 24 #[.int .i64 lg, .slice A6 n6 c6], o6'.alloc _, (F04.out.trans' f6).alloc _, Nat.le_trans F04.out.size f6.size, k6⟩
        | exact ⟨w4.heap.size, A6, n6, c6, rfl, by simpa using (bq.set_ 0 (.int .i64 lg)).set_ 1 (.slice A6 n6 c6), o6'.upd (setTwo w6 w4.heap.size (.int .i64 lg) (.slice A6 n6 c6)) (fun b hb h => o6'.ne_blk bq (by decide) (by rw [hb, h])),
            (F04.out.trans' f6).trans (setTwo w6 w4.heap.size (.int .i64 lg) (.slice A6 n6 c6)) (fun b hb h => by have := F04.out.size; omega), F04.out.size, k6⟩
  case rest =>
    obtain ⟨g, A6, n6, c6, rfl, bq, oq, fq, hg, hk⟩ := hcut
    have hn6 : n6 = n := by have h1 := (oq.rd rfl).1; have h2 := HR.out.1; simp at h1 h2; omega
    subst hn6
    have rq := (oq.rd rfl).2.2
    have hnl : (ints N).length = n6 := by have h2 := HR.out.1; simpa using h2
    rw [hnl] at rq
    have hgw := bq.lt
    have c0 := bq.cell 0
    have c1 := bq.cell 1
    simp at c0 c1
    have BQ := hide bq
    have OQ := hide oq
    have FQ := hide fq
    have LTQ := hide (fun k hk => oq.lt (k := k) hk)
    have RQ := hide rq
    have HHH : H < wc.heap.size := (B0.out.fresh fq).lt
    clear d0 d1 oq fq rq hnl B4 F04 HW4 RD4 hH4 bq hk
    by_cases hv : Has lg N
    · obtain ⟨p, hp⟩ : ∃ p : Nat, lg = p := ⟨lg.toNat, by have := hv.1.1; omega⟩
      subst hp
      have hpz : p ≠ 0 := by have := hv.2; omega
      have hen := encode_ok _ A6 n6 c6 p N wc RQ.out HF.out (by omega) hv.1 hpz
      have hen2 := fun W (h : Rd W (fun b => (Value.slice A6 n6 c6).ownBlock = some b) A6 n6 (ints N)) => encode_ok _ A6 n6 c6 p N W h HF.out (by omega) hv.1 hpz
      have hbi := fun W (h : Rd W (fun b => F b ∧ b < w0.heap.size) A n6 (ints N)) => rbits11_any _ A n6 c p N W h hv.1 hpz
      have hl := descBits_length p N (by have := hv.1.2.1; omega)
      have h256 := hv.1.2.2.2.2.1
      obtain ⟨D, hD⟩ : ∃ D, D = descBits p N := ⟨_, rfl⟩
      simp only [← hD] at hen hen2 hbi hl
      have hDl : D.length ≤ 4000 := by omega
      have HE := hide hen
      have HE2 := hide hen2
      have HBI := hide hbi
      have HDL := hide hDl
      clear hen hen2 hbi hl h256 hD hDl hv hpz
      go_wp2_with fail
      refine HE.out.mono ?_
      rintro e w7 ⟨v7, rfl, o7, f7, k7⟩
      obtain ⟨A7, n7, c7, rfl, hn7⟩ := o7.form'
      have hn7' : n7 ≤ 1000 := by have := hn7.out; have := HDL.out; simp [packB_length] at *; omega
      have hn7I : (n7 : Int) ≤ 1000 := by omega
      have hcap7 := (o7.rd rfl).2.1
      have O7 := hide o7
      have F7 := hide f7
      have K7 := hide k7
      have HN7 := hide hn7
      clear o7 f7 k7 hn7 HE c0 c1 hcap7
      go_wp2_with fail
      go_loopg [15] n7 (fun m i wr => ∃ (k : Nat) (ys : List Value), k + m = n7 ∧ i = .int .i64 k ∧ ys.length = n7 ∧ Own wr 5 (.slice A7 n7 c7) ys ∧ Upd (fun b => (Value.slice A7 n7 c7).ownBlock = some b) w7 wr)
      case atStart => exact ⟨0, _, by omega, rfl, HN7.out.symm, O7.out, Upd.refl _ _⟩
      case round =>
        obtain ⟨k, ys, hk, rfl, hys, ho, hu⟩ := hrel
        have HK := hide hk
        have HYS := hide hys
        have HO := hide ho
        have HU := hide hu
        clear hk hys ho hu
        by_cases hlt : k < n7
        · have hltI : (k : Int) < n7 := by omega
          obtain ⟨g7, rfl, hg7, hc7, hz7, hown⟩ := HO.out.store (i := k) (by have := HYS.out; omega)
          have HOWN := hide hown
          clear hown
          have hky : k < ys.length := by have := HYS.out; omega
          obtain ⟨y7, hy7⟩ : ∃ y7, y7 = ys[k] := ⟨_, rfl⟩
          rw [← hy7] at hc7
          clear hy7 hky
          go_wp2_with fail
          go_roundg (gk - 1)
          case measure => have := HK.out; omega
          case rel => exact ⟨k + 1, _, by have := HK.out; omega, by go_num, by have := HYS.out; simpa using this, HOWN.out _, HU.out.setCell (p := ⟨g7, k, none⟩) (fun _ => rfl) _⟩
        · obtain rfl : k = n7 := by have := HK.out; omega
          have u7 : Fresh wc wr := F7.out.trans HU.out (fun b hb h => by have := K7.out b h; omega)
          have U7 := hide u7
          have bq := BQ.out.fresh u7
          have c0 := bq.cell 0
          have c1 := bq.cell 1
          simp at c0 c1
          have hen3 := HE2.out wr (RQ.out.fresh u7)
          have HE3 := hide hen3
          clear u7 bq hen3
          go_wp2_with fail
          refine HE3.out.mono ?_
          rintro e w9 ⟨v9, rfl, o9, f9, k9⟩
          obtain ⟨A9, n9, c9, rfl, hn9⟩ := o9.form'
          have hrd9 := (o9.rd rfl).2.2
          rw [← hn9.out] at hrd9
          have RD9 := hide hrd9
          have F9 := hide (U7.out.trans' f9)
          have bq := BQ.out.fresh F9.out
          have bt := B0.out.fresh (FQ.out.trans' F9.out)
          have e0 := bq.cell 0
          have e1 := bq.cell 1
          have g0 := bt.cell 0
          have g1 := bt.cell 1
          simp at e0 e1 g0 g1
          have hs7 := same07_any _ _ A6 A n6 n6 c6 c p p N N w9 (RQ.out.fresh F9.out) (HR.out.fresh (FQ.out.trans' F9.out)) (by omega) (by omega)
          rw [decide_eq_true (⟨rfl, rfl⟩ : (p : Int) = p ∧ N = N)] at hs7
          have HS7 := hide hs7
          clear o9 f9 k9 hn9 hrd9 bq bt hs7 c0 c1 HE3
          go_wp2_with fail
          refine HS7.out.mono ?_
          rintro e w10 ⟨rfl, f10⟩
          have F10 := hide (F9.out.trans' f10)
          have F910 := hide f10
          have bt := B0.out.fresh (FQ.out.trans' F10.out)
          have i0 := bt.cell 0
          have i1 := bt.cell 1
          simp at i0 i1
          have hbi := HBI.out w10 (HR.out.fresh (FQ.out.trans' F10.out))
          have HBI2 := hide hbi
          clear f10 bt hbi e0 e1 g0 g1
          go_wp2_with fail
          refine HBI2.out.mono ?_
          rintro e w11 ⟨s11, rfl, o11, f11, k11⟩
          obtain ⟨A11, n11, c11, rfl, hn11⟩ := o11.form'
          have hrd11 := (o11.rd rfl).2.2
          rw [← hn11.out] at hrd11
          have hby := rbytes_any _ A11 n11 c11 D w11 hrd11 (by have := hn11.out; have := HDL.out; simp at *; omega)
          have HBY := hide hby
          have F911 := hide (F910.out.trans' f11)
          have F11 := hide (F10.out.trans' f11)
          clear o11 f11 k11 hn11 hrd11 hby i0 i1 HBI2
          go_wp2_with fail
          refine HBY.out.mono ?_
          rintro e w12 ⟨v12, rfl, o12, f12, k12⟩
          obtain ⟨A12, n12, c12, rfl, hn12⟩ := o12.form'
          have hrd12 := (o12.rd rfl).2.2
          rw [← hn12.out] at hrd12
          have hsm := same_any _ _ A9 A12 n9 n12 c9 c12 (packB D) (packB D) w12 (RD9.out.fresh (F911.out.trans' f12)) hrd12 (packB_lt256 _) (packB_lt256 _)
          rw [decide_eq_true rfl] at hsm
          have HSM := hide hsm
          have F12 := hide (F11.out.trans' f12)
          clear o12 f12 k12 hn12 hrd12 hsm HBY
          go_wp2_with fail
          refine HSM.out.mono ?_
          rintro e w13 ⟨rfl, rfl⟩
          go_wp2_with fail
          refine (hkn.out _).mono ?_
          rintro e w14 ⟨rfl, f14⟩
          have F14 := hide (((F0.out.trans' FQ.out).trans' F12.out).trans' f14)
          clear f14
          go_wp2_with fail
          try go_ret
          exact hR.out _ _ ⟨rfl, F14.out⟩
    · have hen := fun W (h : Fresh wc W) => encode_bad _ A6 n6 c6 lg N W (RQ.out.fresh h) HF.out (by omega) hv
      have HE := hide hen
      clear hen hv
      go_wp2_with fail
      refine (HE.out _ (Upd.refl _ _)).mono ?_
      rintro e w7 ⟨rfl, f7⟩
      have F7 := hide f7
      have bq := BQ.out.fresh f7
      have e0 := bq.cell 0
      have e1 := bq.cell 1
      simp at e0 e1
      clear f7 bq c0 c1
      go_wp2_with fail
      go_loopg [15] 0 (fun m i wr => wr = w7 ∧ i = .int .i64 0)
      case atStart => exact ⟨rfl, rfl⟩
      case round =>
        obtain ⟨rfl, rfl⟩ := hrel
        go_wp2_with fail
        refine (HE.out _ F7.out).mono ?_
        rintro e w9 ⟨rfl, f9⟩
        have F9 := hide (F7.out.trans' f9)
        have bq := BQ.out.fresh F9.out
        have bt := B0.out.fresh (FQ.out.trans' F9.out)
        have i0 := bq.cell 0
        have i1 := bq.cell 1
        have g0 := bt.cell 0
        have g1 := bt.cell 1
        simp at i0 i1 g0 g1
        have hs7 := same07_any _ _ A6 A n6 n6 c6 c lg lg N N w9 (RQ.out.fresh F9.out) (HR.out.fresh (FQ.out.trans' F9.out)) (by omega) (by omega)
        rw [decide_eq_true (⟨rfl, rfl⟩ : lg = lg ∧ N = N)] at hs7
        have HS7 := hide hs7
        clear f9 bq bt hs7 e0 e1
        go_wp2_with fail
        refine HS7.out.mono ?_
        rintro e w10 ⟨rfl, f10⟩
        have F10 := hide (F9.out.trans' f10)
        clear f10 i0 i1 g0 g1
        go_wp2_with fail
        refine (hkn.out _).mono ?_
        rintro e w14 ⟨rfl, f14⟩
        have F14 := hide (((F0.out.trans' FQ.out).trans' F10.out).trans' f14)
        clear f14
        go_wp2_with fail
        try go_ret
        exact hR.out _ _ ⟨rfl, F14.out⟩

end Go.Proofs.Ytbnicnindggimaa
