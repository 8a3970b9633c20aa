/-
  Joined texts, part 22: contracts and plain lemmas, each under its own heading below.
  Conditions: none beyond those of each theorem.
-/
import Derived.Test.YtjfdaphjijfieaaGreatJ20
import Derived.WalkLawsBesides
import Derived.Defers
import Derived.Recover
/-
  Package repeat: must, right, which, told.
  Conditions: none beyond those of each theorem.
-/
namespace Go.Proofs.YtjfdaphjijfieaaGreat
open Go.RowKit
set_option linter.unusedVariables false
set_option linter.unusedSimpArgs false

set_option maxHeartbeats 1000000 in
theorem must_ok (er : Int) (w : World) : Calls Tryz.prog 156 #[.bool true, .int .i64 er] w fun e w' => e = .returned (.tuple #[]) ∧ w' = w := by
  refine veil fun R hR => ?_
  go_enter Tryz.func156, Tryz.ntmps156
  go_wp2_with fail
  try go_end0
  exact hR.out _ _ ⟨rfl, rfl⟩

/-- the panic of an error number -/
def panicE (er : Int) : Ending := .panicked [{ v := .iface 38 (.int .i64 er), recovered := false }]

set_option maxHeartbeats 1000000 in
theorem must_no (er : Int) (w : World) : Calls Tryz.prog 156 #[.bool false, .int .i64 er] w fun e w' => e = panicE er ∧ w' = w := by
  refine veil fun R hR => ?_
  go_enter Tryz.func156, Tryz.ntmps156
  go_wp2_with fail
  exact ⟨rfl, hR.out _ _ ⟨rfl, rfl⟩⟩

set_option maxRecDepth 100000 in
set_option maxHeartbeats 1000000 in
theorem right_ok (a b c : Int) (w : World) (h : repOk a b c = true) : Calls Tryz.prog 157 #[.agg #[.int .i64 a, .int .i64 b, .int .i64 c]] w fun e w' => e = .returned (.bool true) ∧ Fresh w w' := by
  have h' : (1 ≤ a ∧ a ≤ 134217728) ∧ (1 ≤ b ∧ b ≤ 134217728) ∧ 1 ≤ c ∧ c ≤ 134217728 := by
    simp [repOk, badR] at h
    omega
  obtain ⟨⟨a1, a2⟩, ⟨b1, b2⟩, c1, c2⟩ := h'
  clear h
  have hi0 : ∀ W, (Instr.index 204 (.agg #[.int .i64 a, .int .i64 b, .int .i64 c]) (.int .i64 0)).run Tryz.prog W = .ok (.int .i64 a) W := fun _ => by kernel_rfl
  have hi1 : ∀ W, (Instr.index 204 (.agg #[.int .i64 a, .int .i64 b, .int .i64 c]) (.int .i64 1)).run Tryz.prog W = .ok (.int .i64 b) W := fun _ => by kernel_rfl
  have hi2 : ∀ W, (Instr.index 204 (.agg #[.int .i64 a, .int .i64 b, .int .i64 c]) (.int .i64 2)).run Tryz.prog W = .ok (.int .i64 c) W := fun _ => by kernel_rfl
  refine veil fun R hR => ?_
  go_enter Tryz.func157, Tryz.ntmps157
  go_wp2_with fail
  go_loopg [6] 3 (fun f vi wr => Fresh w wr ∧ ∃ k : Nat, k + f = 3 ∧ vi = .int .i64 k)
  case atStart => exact ⟨(Upd.refl _ _).alloc _, 0, rfl, rfl⟩
  case round =>
    obtain ⟨hf, k, hk, rfl⟩ := hrel
    have HF := hide hf
    clear hf
    have h4 : k = 0 ∨ k = 1 ∨ k = 2 ∨ k = 3 := by omega
    rcases h4 with rfl | rfl | rfl | rfl
    · go_wp2_with fail
      go_roundg 2
      case measure => omega
      case rel => exact ⟨HF.out, 1, rfl, by go_num⟩
    · go_wp2_with fail
      go_roundg 1
      case measure => omega
      case rel => exact ⟨HF.out, 2, rfl, by go_num⟩
    · go_wp2_with fail
      go_roundg 0
      case measure => omega
      case rel => exact ⟨HF.out, 3, rfl, by go_num⟩
    · go_wp2_with fail
      try go_ret
      exact hR.out _ _ ⟨rfl, HF.out⟩

theorem which_any (w : World) : Calls Tryz.prog 189 #[] w fun e w' => e = .returned (.agg #[.int .i64 0, .int .i64 1, .int .i64 2, .int .i64 1, .int .i64 2, .int .i64 3]) ∧ Fresh w w' := by
  refine veil fun R hR => ?_
  go_enter Tryz.func189, Tryz.ntmps189
  go_wp2_with fail
  refine bodyPost_ret (v := .agg #[.int .i64 0, .int .i64 1, .int .i64 2, .int .i64 1, .int .i64 2, .int .i64 3]) (results_cell_row rfl _ _ w.heap.size 293 _ _ _ rfl (blk_new rfl _ _) Tryz.underlying293 rfl (by kernel_rfl)) rfl ?_
  exact hR.out _ _ ⟨rfl, (Upd.refl _ _).alloc _⟩

/-- the index that an offset value names -/
def idxR (lit v : Int) : Int := if 3 < v then 3 else if lit = 0 then v else v - 1
/-- the offset that an offset value names -/
def offR (a b c lit v : Int) : Int := if 3 < v then v - 3 else if idxR lit v = 0 then a else if idxR lit v = 1 then b else if idxR lit v = 2 then c else a - 1

set_option maxRecDepth 100000 in
set_option maxHeartbeats 4000000 in
theorem told_any (g : Nat) (a b c lit v : Int) (w : World) (hb : Blk w g 206 #[.int .i64 a, .int .i64 b, .int .i64 c]) (hv : 1 ≤ v ∧ v ≤ 2 ^ 60) (ha : -(2 ^ 60) ≤ a ∧ a ≤ 2 ^ 60) :
    Calls Tryz.prog 158 #[.pointer (some ⟨g, 0, none⟩), .int .i64 lit, .int .i64 v] w fun e w' => e = .returned (.tuple #[.int .i64 (offR a b c lit v), .int .i64 (idxR lit v)]) ∧ Fresh w w' := by
  have hi0 : ∀ W, (Instr.index 293 (.agg #[.int .i64 0, .int .i64 1, .int .i64 2, .int .i64 1, .int .i64 2, .int .i64 3]) (.int .i64 0)).run Tryz.prog W = .ok (.agg #[.int .i64 0, .int .i64 1, .int .i64 2]) W := fun _ => by kernel_rfl
  have hi1 : ∀ W, (Instr.index 293 (.agg #[.int .i64 0, .int .i64 1, .int .i64 2, .int .i64 1, .int .i64 2, .int .i64 3]) (.int .i64 1)).run Tryz.prog W = .ok (.agg #[.int .i64 1, .int .i64 2, .int .i64 3]) W := fun _ => by kernel_rfl
  have sa : IntKind.i64.wrap (a - 1) = a - 1 := IntWalk.i64_in _ (by omega)
  by_cases h3 : 3 < v
  · have e1 : idxR lit v = 3 := if_pos h3
    have e2 : offR a b c lit v = v - 3 := if_pos h3
    have sv : IntKind.i64.wrap (v - 3) = v - 3 := IntWalk.i64_in _ (by omega)
    rw [e1, e2]
    refine veil fun R hR => ?_
    go_enter Tryz.func158, Tryz.ntmps158
    go_wp2_with fail
    try go_ret2
    exact hR.out _ _ ⟨rfl, Upd.refl _ _⟩
  · have hg := hb.lt
    have hgn : ∀ n, w.heap.size ≤ n → g ≠ n := fun n h => by omega
    have HB := hide hb
    have HWH := hide which_any
    clear hb
    have hv4 : v = 1 ∨ v = 2 ∨ v = 3 := by omega
    by_cases hl : lit = 0
    · subst hl
      rcases hv4 with rfl | rfl | rfl
      all_goals
        simp only [idxR, offR, h3, if_false, if_true]
        refine veil fun R hR => ?_
        go_enter Tryz.func158, Tryz.ntmps158
        go_wp2_with fail
        refine (HWH.out _).mono ?_
        rintro e w1 ⟨rfl, f1⟩
        have b1 := HB.out.fresh f1
        have F1 := hide f1
        have B1 := hide b1
        clear f1 b1
        go_wp2_with fail
        refine (HWH.out _).mono ?_
        rintro e w2 ⟨rfl, f2⟩
        obtain ⟨K, hK⟩ : ∃ K, K = w1.heap.size := ⟨_, rfl⟩
        have k2 := (blk_new hK 30 #[.int .i64 0, .int .i64 1, .int .i64 2]).fresh f2
        have b2 := (B1.out.alloc (.cells #[.int .i64 0, .int .i64 1, .int .i64 2] 30)).fresh f2
        have hne : K ≠ g := by have := B1.out.lt; omega
        have hne2 : g ≠ K := Ne.symm hne
        have F2 := hide ((F1.out.alloc (.cells #[.int .i64 0, .int .i64 1, .int .i64 2] 30)).trans' f2)
        have k0 := k2.cell 0
        have k1 := k2.cell 1
        have k3 := k2.cell 2
        have z0 := k2.frozen 0
        have z1 := k2.frozen 1
        have z2 := k2.frozen 2
        have c0 := b2.cell 0
        have c1 := b2.cell 1
        have c2 := b2.cell 2
        simp at k0 k1 k3 c0 c1 c2
        have HKW := hide (show w.heap.size ≤ K by rw [hK]; exact F1.out.size)
        simp only [← hK]
        clear hK f2 k2 b2 B1
        go_wp2_with fail
        try go_ret2
        exact hR.out _ _ ⟨rfl, F2.out.trans (((((Upd.refl (fun b => b = K) w2).setCell (p := ⟨K, 0, none⟩) (fun _ => rfl) _).setCell (p := ⟨K, 1, none⟩) (fun _ => rfl) _).setCell (p := ⟨K, 2, none⟩) (fun _ => rfl) _)) (fun b hb e => by have := HKW.out; omega)⟩
    · have hl2 : (lit == 0) = false := by simpa using hl
      rcases hv4 with rfl | rfl | rfl
      all_goals
        simp only [idxR, offR, h3, hl, if_false, if_true]
        refine veil fun R hR => ?_
        go_enter Tryz.func158, Tryz.ntmps158
        go_wp2_with fail
        refine (HWH.out _).mono ?_
        rintro e w1 ⟨rfl, f1⟩
        have b1 := HB.out.fresh f1
        have F1 := hide f1
        have c0 := b1.cell 0
        have c1 := b1.cell 1
        have c2 := b1.cell 2
        simp at c0 c1 c2
        have hlt1 := b1.lt
        clear f1 b1
        go_wp2_with fail
        try go_ret2
        exact hR.out _ _ ⟨rfl, F1.out.alloc _⟩

end Go.Proofs.YtjfdaphjijfieaaGreat

/-
  Package repeat: goes.
  Conditions: none beyond those of each theorem.
-/
namespace Go.Proofs.YtjfdaphjijfieaaGreat
open Go.RowKit
set_option linter.unusedVariables false
set_option linter.unusedSimpArgs false

/-- the repeat offsets behind one -/
def nextR (a b c lit v : Int) : Int × Int × Int := (offR a b c lit v, if idxR lit v = 0 then b else a, if idxR lit v = 0 ∨ idxR lit v = 1 then c else b)

theorem repOk_iff {a b c : Int} : repOk a b c = true ↔ (1 ≤ a ∧ a ≤ 134217728) ∧ (1 ≤ b ∧ b ≤ 134217728) ∧ 1 ≤ c ∧ c ≤ 134217728 := by
  simp [repOk, badR]

theorem idxR_cases {lit v : Int} (hv : 1 ≤ v) : idxR lit v = 0 ∨ idxR lit v = 1 ∨ idxR lit v = 2 ∨ idxR lit v = 3 := by
  unfold idxR
  split
  · omega
  · split <;> omega

/-- what the loop over k of goes leaves -/
def shiftR (k0 k : Nat) (a b c : Int) : Array Value := #[.int .i64 a, .int .i64 (if 1 ≤ k0 ∧ k = 0 then a else b), .int .i64 (if k0 = 2 ∧ k ≤ 1 then b else c)]

set_option maxRecDepth 100000 in
set_option maxHeartbeats 4000000 in
theorem goes_loop (g k0 : Nat) (hk0 : k0 ≤ 2) (a b c lit len v off : Int) (i : Nat) (hi : min i 2 = k0) (hi3 : i ≤ 3) (w : World) (hb : Blk w g 206 #[.int .i64 a, .int .i64 b, .int .i64 c]) (hr : repOk a b c = true) (hl : 0 ≤ lit) (hv : 1 ≤ v)
    (ho : 1 ≤ off ∧ off ≤ 134217728) (ht : ∀ W, Fresh w W → Calls Tryz.prog 158 #[.pointer (some ⟨g, 0, none⟩), .int .i64 lit, .int .i64 v] W fun e w' => e = .returned (.tuple #[.int .i64 off, .int .i64 (i : Nat)]) ∧ Fresh W w') :
    Calls Tryz.prog 99 #[.pointer (some ⟨g, 0, none⟩), .agg #[.int .i64 lit, .int .i64 len, .int .i64 v]] w fun e w' => e = .returned (.agg #[.int .i64 lit, .int .i64 len, .int .i64 off]) ∧ Upd (fun b => b = g) w w' ∧
      Blk w' g 206 #[.int .i64 off, .int .i64 (if i = 0 then b else a), .int .i64 (if i = 0 ∨ i = 1 then c else b)] := by
  have HRT := hide (fun W => right_ok a b c W hr)
  have HMO := hide must_ok
  have HTO := hide ht
  obtain ⟨H, hH⟩ : ∃ H, H = w.heap.size := ⟨_, rfl⟩
  obtain ⟨w0, hw0⟩ : ∃ w0, w0 = (w.alloc (.cells #[.int .i64 lit, .int .i64 len, .int .i64 v] 86)).alloc (.cells #[.int .i64 0, .int .i64 0, .int .i64 0] 23) := ⟨_, rfl⟩
  have f0 : Fresh w w0 := by rw [hw0]; exact ((Upd.refl _ _).alloc _).alloc _
  have bx : Blk w0 H 86 #[.int .i64 lit, .int .i64 len, .int .i64 v] := by rw [hw0]; exact (blk_new hH _ _).alloc _
  have bo : Blk w0 (H + 1) 23 #[.int .i64 0, .int .i64 0, .int .i64 0] := by rw [hw0]; exact blk_new (by simp [hH]) _ _
  have b0 := hb.fresh f0
  have HG := hide hb.lt
  have c0 := b0.cell 0
  have c1 := b0.cell 1
  have c2 := b0.cell 2
  simp at c0 c1 c2
  have HW := hide hw0
  have HH := hide hH
  have F0 := hide f0
  have B0 := hide b0
  have BX := hide bx
  have BO := hide bo
  clear ht hb f0 bx bo b0 hw0 hH hr
  refine veil fun R hR => ?_
  go_enter Tryz.func99, Tryz.ntmps99
  go_upto_region 1 with fail
  simp only [← HH.out, ← HW.out]
  go_wp2_with fail
  refine (HRT.out _).mono ?_
  rintro e w1 ⟨rfl, f1⟩
  have B1 := hide (B0.out.fresh f1)
  have BX1 := hide (BX.out.fresh f1)
  have BO1 := hide (BO.out.fresh f1)
  have F1 := hide (F0.out.trans' f1)
  have d0 := BX1.out.cell 0
  have d1 := BX1.out.cell 1
  have d2 := BX1.out.cell 2
  simp at d0 d1 d2
  clear f1 c0 c1 c2 B0 BX BO
  go_wp2_with fail
  refine (HMO.out _ _).mono ?_
  rintro e w2 ⟨rfl, rfl⟩
  go_wp2_with fail
  refine (HMO.out _ _).mono ?_
  rintro e w2 ⟨rfl, rfl⟩
  go_wp2_with fail
  refine (HTO.out _ F1.out).mono ?_
  rintro e w2 ⟨rfl, f2⟩
  have B2 := hide (B1.out.fresh f2)
  have BX2 := hide (BX1.out.fresh f2)
  have BO2 := hide (BO1.out.fresh f2)
  have F2 := hide (F1.out.trans' f2)
  clear f2 B1 BX1 BO1 F1 d0 d1 d2
  go_wp2_with fail
  refine (HMO.out _ _).mono ?_
  rintro e w3 ⟨rfl, rfl⟩
  have e4 : i = 0 ∨ i = 1 ∨ i = 2 ∨ i = 3 := by omega
  have HGH := hide (show g ≠ H ∧ g ≠ H + 1 by have := HG.out; have := HH.out; omega)
  rcases e4 with rfl | rfl | rfl | rfl
  · simp at hi
    subst hi
    go_wp2_with fail
    go_loopg [7] 0 (fun f vk wr => vk = .int .i64 (f : Nat) ∧ f ≤ 0 ∧ Upd (fun b => b = g) w wr ∧ Blk wr g 206 (shiftR 0 f a b c) ∧ Blk wr H 86 #[.int .i64 lit, .int .i64 len, .int .i64 v] ∧ Blk wr (H + 1) 23 #[.int .i64 0, .int .i64 0, .int .i64 0])
    case atStart => exact ⟨rfl, by omega, F2.out.mono (fun _ _ h => h.elim), B2.out, BX2.out, BO2.out⟩
    case round =>
      obtain ⟨rfl, hf, hu, hb, hx, hs⟩ := hrel
      have c0 := hb.cell 0
      have c1 := hb.cell 1
      have c2 := hb.cell 2
      have z0 := hb.frozen 0
      have z1 := hb.frozen 1
      have z2 := hb.frozen 2
      have HU := hide hu
      have HB := hide hb
      have HX := hide hx
      have HS := hide hs
      clear hu
      obtain rfl : gk = 0 := by omega
      simp [shiftR] at c0 c1 c2 HB
      have d0 := hx.cell 0
      have d1 := hx.cell 1
      have d2 := hx.cell 2
      have s0 := hs.cell 0
      have s1 := hs.cell 1
      have s2 := hs.cell 2
      have y0 := hs.frozen 0
      have y1 := hs.frozen 1
      have y2 := hs.frozen 2
      simp at d0 d1 d2 s0 s1 s2
      have hn1 := HGH.out.1
      have hn2 := HGH.out.2
      have hn3 := Ne.symm hn1
      have hn4 := Ne.symm hn2
      clear hb hx hs
      go_wp2_with fail
      refine bodyPost_ret (v := .agg #[.int .i64 lit, .int .i64 len, .int .i64 off]) (results_cell_row rfl _ _ (H + 1) _ _ _ _ rfl ((((HS.out.far (p := ⟨g, 0, none⟩) hn4 (.int .i64 off)).set_ 0 (.int .i64 lit)).set_ 1 (.int .i64 len)).set_ 2 (.int .i64 off)) Tryz.underlying23 rfl (by kernel_rfl)) rfl ?_
      refine hR.out _ _ ⟨rfl, ?_, ?_⟩
      · have hH := HH.out
        exact ((((HU.out.setCell (p := ⟨g, 0, none⟩) (fun _ => rfl) _).setCell (p := ⟨H + 1, 0, none⟩) (fun h => by simp at h; omega) _).setCell (p := ⟨H + 1, 1, none⟩) (fun h => by simp at h; omega) _).setCell (p := ⟨H + 1, 2, none⟩) (fun h => by simp at h; omega) _)
      · have := (((HB.out.set_ 0 (.int .i64 off)).far (p := ⟨H + 1, 0, none⟩) hn2 (.int .i64 lit)).far (p := ⟨H + 1, 1, none⟩) hn2 (.int .i64 len)).far (p := ⟨H + 1, 2, none⟩) hn2 (.int .i64 off)
        simpa [shiftR] using this
  · simp at hi
    subst hi
    go_wp2_with fail
    go_loopg [7] 1 (fun f vk wr => vk = .int .i64 (f : Nat) ∧ f ≤ 1 ∧ Upd (fun b => b = g) w wr ∧ Blk wr g 206 (shiftR 1 f a b c) ∧ Blk wr H 86 #[.int .i64 lit, .int .i64 len, .int .i64 v] ∧ Blk wr (H + 1) 23 #[.int .i64 0, .int .i64 0, .int .i64 0])
    case atStart => exact ⟨rfl, by omega, F2.out.mono (fun _ _ h => h.elim), B2.out, BX2.out, BO2.out⟩
    case round =>
      obtain ⟨rfl, hf, hu, hb, hx, hs⟩ := hrel
      have c0 := hb.cell 0
      have c1 := hb.cell 1
      have c2 := hb.cell 2
      have z0 := hb.frozen 0
      have z1 := hb.frozen 1
      have z2 := hb.frozen 2
      have HU := hide hu
      have HB := hide hb
      have HX := hide hx
      have HS := hide hs
      clear hu
      have hgk : gk = 0 ∨ gk = 1 := by omega
      clear hf
      rcases hgk with rfl | rfl
      · simp [shiftR] at c0 c1 c2 HB
        have d0 := hx.cell 0
        have d1 := hx.cell 1
        have d2 := hx.cell 2
        have s0 := hs.cell 0
        have s1 := hs.cell 1
        have s2 := hs.cell 2
        have y0 := hs.frozen 0
        have y1 := hs.frozen 1
        have y2 := hs.frozen 2
        simp at d0 d1 d2 s0 s1 s2
        have hn1 := HGH.out.1
        have hn2 := HGH.out.2
        have hn3 := Ne.symm hn1
        have hn4 := Ne.symm hn2
        clear hb hx hs
        go_wp2_with fail
        refine bodyPost_ret (v := .agg #[.int .i64 lit, .int .i64 len, .int .i64 off]) (results_cell_row rfl _ _ (H + 1) _ _ _ _ rfl ((((HS.out.far (p := ⟨g, 0, none⟩) hn4 (.int .i64 off)).set_ 0 (.int .i64 lit)).set_ 1 (.int .i64 len)).set_ 2 (.int .i64 off)) Tryz.underlying23 rfl (by kernel_rfl)) rfl ?_
        refine hR.out _ _ ⟨rfl, ?_, ?_⟩
        · have hH := HH.out
          exact ((((HU.out.setCell (p := ⟨g, 0, none⟩) (fun _ => rfl) _).setCell (p := ⟨H + 1, 0, none⟩) (fun h => by simp at h; omega) _).setCell (p := ⟨H + 1, 1, none⟩) (fun h => by simp at h; omega) _).setCell (p := ⟨H + 1, 2, none⟩) (fun h => by simp at h; omega) _)
        · have := (((HB.out.set_ 0 (.int .i64 off)).far (p := ⟨H + 1, 0, none⟩) hn2 (.int .i64 lit)).far (p := ⟨H + 1, 1, none⟩) hn2 (.int .i64 len)).far (p := ⟨H + 1, 2, none⟩) hn2 (.int .i64 off)
          simpa [shiftR] using this
      · simp [shiftR] at c0 c1 c2
        clear hb hx hs
        go_wp2_with fail
        go_region
        all_goals go_wp2_with fail
        all_goals go_roundg 0
        case measure => omega
        case rel =>
          have hn1 := HGH.out.1
          have hn2 := HGH.out.2
          have hn3 := Ne.symm hn1
          have hn4 := Ne.symm hn2
          refine ⟨by go_num, by omega, (HU.out.setCell (p := ⟨g, 1, none⟩) (fun _ => rfl) _).drewN _, ?_, ((HX.out.far (p := ⟨g, 1, none⟩) hn3 _)).drewN _, ((HS.out.far (p := ⟨g, 1, none⟩) hn4 _)).drewN _⟩
          have := (HB.out.set_ 1 (.int .i64 a)).drew
          simpa [shiftR] using this
  · simp at hi
    subst hi
    go_wp2_with fail
    go_loopg [7] 2 (fun f vk wr => vk = .int .i64 (f : Nat) ∧ f ≤ 2 ∧ Upd (fun b => b = g) w wr ∧ Blk wr g 206 (shiftR 2 f a b c) ∧ Blk wr H 86 #[.int .i64 lit, .int .i64 len, .int .i64 v] ∧ Blk wr (H + 1) 23 #[.int .i64 0, .int .i64 0, .int .i64 0])
    case atStart => exact ⟨rfl, by omega, F2.out.mono (fun _ _ h => h.elim), B2.out, BX2.out, BO2.out⟩
    case round =>
      obtain ⟨rfl, hf, hu, hb, hx, hs⟩ := hrel
      have c0 := hb.cell 0
      have c1 := hb.cell 1
      have c2 := hb.cell 2
      have z0 := hb.frozen 0
      have z1 := hb.frozen 1
      have z2 := hb.frozen 2
      have HU := hide hu
      have HB := hide hb
      have HX := hide hx
      have HS := hide hs
      clear hu
      have hgk : gk = 0 ∨ gk = 1 ∨ gk = 2 := by omega
      clear hf
      rcases hgk with rfl | rfl | rfl
      · simp [shiftR] at c0 c1 c2 HB
        have d0 := hx.cell 0
        have d1 := hx.cell 1
        have d2 := hx.cell 2
        have s0 := hs.cell 0
        have s1 := hs.cell 1
        have s2 := hs.cell 2
        have y0 := hs.frozen 0
        have y1 := hs.frozen 1
        have y2 := hs.frozen 2
        simp at d0 d1 d2 s0 s1 s2
        have hn1 := HGH.out.1
        have hn2 := HGH.out.2
        have hn3 := Ne.symm hn1
        have hn4 := Ne.symm hn2
        clear hb hx hs
        go_wp2_with fail
        refine bodyPost_ret (v := .agg #[.int .i64 lit, .int .i64 len, .int .i64 off]) (results_cell_row rfl _ _ (H + 1) _ _ _ _ rfl ((((HS.out.far (p := ⟨g, 0, none⟩) hn4 (.int .i64 off)).set_ 0 (.int .i64 lit)).set_ 1 (.int .i64 len)).set_ 2 (.int .i64 off)) Tryz.underlying23 rfl (by kernel_rfl)) rfl ?_
        refine hR.out _ _ ⟨rfl, ?_, ?_⟩
        · have hH := HH.out
          exact ((((HU.out.setCell (p := ⟨g, 0, none⟩) (fun _ => rfl) _).setCell (p := ⟨H + 1, 0, none⟩) (fun h => by simp at h; omega) _).setCell (p := ⟨H + 1, 1, none⟩) (fun h => by simp at h; omega) _).setCell (p := ⟨H + 1, 2, none⟩) (fun h => by simp at h; omega) _)
        · have := (((HB.out.set_ 0 (.int .i64 off)).far (p := ⟨H + 1, 0, none⟩) hn2 (.int .i64 lit)).far (p := ⟨H + 1, 1, none⟩) hn2 (.int .i64 len)).far (p := ⟨H + 1, 2, none⟩) hn2 (.int .i64 off)
          simpa [shiftR] using this
      · simp [shiftR] at c0 c1 c2
        clear hb hx hs
        go_wp2_with fail
        go_region
        all_goals go_wp2_with fail
        all_goals go_roundg 0
        case measure => omega
        case rel =>
          have hn1 := HGH.out.1
          have hn2 := HGH.out.2
          have hn3 := Ne.symm hn1
          have hn4 := Ne.symm hn2
          refine ⟨by go_num, by omega, (HU.out.setCell (p := ⟨g, 1, none⟩) (fun _ => rfl) _).drewN _, ?_, ((HX.out.far (p := ⟨g, 1, none⟩) hn3 _)).drewN _, ((HS.out.far (p := ⟨g, 1, none⟩) hn4 _)).drewN _⟩
          have := (HB.out.set_ 1 (.int .i64 a)).drew
          simpa [shiftR] using this
      · simp [shiftR] at c0 c1 c2
        clear hb hx hs
        go_wp2_with fail
        go_region
        all_goals go_wp2_with fail
        all_goals go_roundg 1
        case measure => omega
        case rel =>
          have hn1 := HGH.out.1
          have hn2 := HGH.out.2
          have hn3 := Ne.symm hn1
          have hn4 := Ne.symm hn2
          refine ⟨by go_num, by omega, (HU.out.setCell (p := ⟨g, 2, none⟩) (fun _ => rfl) _).drewN _, ?_, ((HX.out.far (p := ⟨g, 2, none⟩) hn3 _)).drewN _, ((HS.out.far (p := ⟨g, 2, none⟩) hn4 _)).drewN _⟩
          have := (HB.out.set_ 2 (.int .i64 b)).drew
          simpa [shiftR] using this
  · simp at hi
    subst hi
    go_wp2_with fail
    go_loopg [7] 2 (fun f vk wr => vk = .int .i64 (f : Nat) ∧ f ≤ 2 ∧ Upd (fun b => b = g) w wr ∧ Blk wr g 206 (shiftR 2 f a b c) ∧ Blk wr H 86 #[.int .i64 lit, .int .i64 len, .int .i64 v] ∧ Blk wr (H + 1) 23 #[.int .i64 0, .int .i64 0, .int .i64 0])
    case atStart => exact ⟨rfl, by omega, F2.out.mono (fun _ _ h => h.elim), B2.out, BX2.out, BO2.out⟩
    case round =>
      obtain ⟨rfl, hf, hu, hb, hx, hs⟩ := hrel
      have c0 := hb.cell 0
      have c1 := hb.cell 1
      have c2 := hb.cell 2
      have z0 := hb.frozen 0
      have z1 := hb.frozen 1
      have z2 := hb.frozen 2
      have HU := hide hu
      have HB := hide hb
      have HX := hide hx
      have HS := hide hs
      clear hu
      have hgk : gk = 0 ∨ gk = 1 ∨ gk = 2 := by omega
      clear hf
      rcases hgk with rfl | rfl | rfl
      · simp [shiftR] at c0 c1 c2 HB
        have d0 := hx.cell 0
        have d1 := hx.cell 1
        have d2 := hx.cell 2
        have s0 := hs.cell 0
        have s1 := hs.cell 1
        have s2 := hs.cell 2
        have y0 := hs.frozen 0
        have y1 := hs.frozen 1
        have y2 := hs.frozen 2
        simp at d0 d1 d2 s0 s1 s2
        have hn1 := HGH.out.1
        have hn2 := HGH.out.2
        have hn3 := Ne.symm hn1
        have hn4 := Ne.symm hn2
        clear hb hx hs
        go_wp2_with fail
        refine bodyPost_ret (v := .agg #[.int .i64 lit, .int .i64 len, .int .i64 off]) (results_cell_row rfl _ _ (H + 1) _ _ _ _ rfl ((((HS.out.far (p := ⟨g, 0, none⟩) hn4 (.int .i64 off)).set_ 0 (.int .i64 lit)).set_ 1 (.int .i64 len)).set_ 2 (.int .i64 off)) Tryz.underlying23 rfl (by kernel_rfl)) rfl ?_
        refine hR.out _ _ ⟨rfl, ?_, ?_⟩
        · have hH := HH.out
          exact ((((HU.out.setCell (p := ⟨g, 0, none⟩) (fun _ => rfl) _).setCell (p := ⟨H + 1, 0, none⟩) (fun h => by simp at h; omega) _).setCell (p := ⟨H + 1, 1, none⟩) (fun h => by simp at h; omega) _).setCell (p := ⟨H + 1, 2, none⟩) (fun h => by simp at h; omega) _)
        · have := (((HB.out.set_ 0 (.int .i64 off)).far (p := ⟨H + 1, 0, none⟩) hn2 (.int .i64 lit)).far (p := ⟨H + 1, 1, none⟩) hn2 (.int .i64 len)).far (p := ⟨H + 1, 2, none⟩) hn2 (.int .i64 off)
          simpa [shiftR] using this
      · simp [shiftR] at c0 c1 c2
        clear hb hx hs
        go_wp2_with fail
        go_region
        all_goals go_wp2_with fail
        all_goals go_roundg 0
        case measure => omega
        case rel =>
          have hn1 := HGH.out.1
          have hn2 := HGH.out.2
          have hn3 := Ne.symm hn1
          have hn4 := Ne.symm hn2
          refine ⟨by go_num, by omega, (HU.out.setCell (p := ⟨g, 1, none⟩) (fun _ => rfl) _).drewN _, ?_, ((HX.out.far (p := ⟨g, 1, none⟩) hn3 _)).drewN _, ((HS.out.far (p := ⟨g, 1, none⟩) hn4 _)).drewN _⟩
          have := (HB.out.set_ 1 (.int .i64 a)).drew
          simpa [shiftR] using this
      · simp [shiftR] at c0 c1 c2
        clear hb hx hs
        go_wp2_with fail
        go_region
        all_goals go_wp2_with fail
        all_goals go_roundg 1
        case measure => omega
        case rel =>
          have hn1 := HGH.out.1
          have hn2 := HGH.out.2
          have hn3 := Ne.symm hn1
          have hn4 := Ne.symm hn2
          refine ⟨by go_num, by omega, (HU.out.setCell (p := ⟨g, 2, none⟩) (fun _ => rfl) _).drewN _, ?_, ((HX.out.far (p := ⟨g, 2, none⟩) hn3 _)).drewN _, ((HS.out.far (p := ⟨g, 2, none⟩) hn4 _)).drewN _⟩
          have := (HB.out.set_ 2 (.int .i64 b)).drew
          simpa [shiftR] using this

/-- whether an offset may be -/
def offOk (x : Int) : Prop := 1 ≤ x ∧ x ≤ 134217728
instance (x : Int) : Decidable (offOk x) := inferInstanceAs (Decidable (_ ∧ _))

theorem goes_ok (g : Nat) (a b c lit len v : Int) (w : World) (hb : Blk w g 206 #[.int .i64 a, .int .i64 b, .int .i64 c]) (hr : repOk a b c = true) (hl : 0 ≤ lit) (hv : 1 ≤ v ∧ v ≤ 2 ^ 60) (ho : offOk (offR a b c lit v)) :
    Calls Tryz.prog 99 #[.pointer (some ⟨g, 0, none⟩), .agg #[.int .i64 lit, .int .i64 len, .int .i64 v]] w fun e w' => e = .returned (.agg #[.int .i64 lit, .int .i64 len, .int .i64 (offR a b c lit v)]) ∧ Upd (fun b => b = g) w w' ∧
      Blk w' g 206 #[.int .i64 (nextR a b c lit v).1, .int .i64 (nextR a b c lit v).2.1, .int .i64 (nextR a b c lit v).2.2] := by
  have hra := repOk_iff.1 hr
  obtain ⟨i, hi⟩ : ∃ i : Nat, (i : Int) = idxR lit v := ⟨(idxR lit v).toNat, by have := idxR_cases (lit := lit) hv.1; omega⟩
  have hi3 : i ≤ 3 := by have := idxR_cases (lit := lit) hv.1; omega
  refine (goes_loop g (min i 2) (by omega) a b c lit len v (offR a b c lit v) i rfl hi3 w hb hr hl hv.1 ho (fun W hW => by rw [hi]; exact told_any g a b c lit v W (hb.fresh hW) hv (by omega))).mono fun e w' h => ?_
  obtain ⟨h1, h2, h3⟩ := h
  refine ⟨h1, h2, ?_⟩
  have e1 : (i = 0) = (idxR lit v = 0) := by rw [← hi]; exact propext (by omega)
  have e2 : (i = 1) = (idxR lit v = 1) := by rw [← hi]; exact propext (by omega)
  simp only [nextR, ← e1, ← e2]
  exact h3


end Go.Proofs.YtjfdaphjijfieaaGreat

/-
  Package repeat: goes, where the offset may not be.
  Conditions: none beyond those of each theorem.
-/
namespace Go.Proofs.YtjfdaphjijfieaaGreat
open Go.RowKit
set_option linter.unusedVariables false
set_option linter.unusedSimpArgs false

set_option maxRecDepth 100000 in
set_option maxHeartbeats 4000000 in
theorem goes_no (g : Nat) (a b c lit len v : Int) (w : World) (hb : Blk w g 206 #[.int .i64 a, .int .i64 b, .int .i64 c]) (hr : repOk a b c = true) (hl : 0 ≤ lit) (hv : 1 ≤ v ∧ v ≤ 2 ^ 60) (ho : ¬ offOk (offR a b c lit v)) :
    Calls Tryz.prog 99 #[.pointer (some ⟨g, 0, none⟩), .agg #[.int .i64 lit, .int .i64 len, .int .i64 v]] w fun e w' => e = panicE 15 ∧ Fresh w w' := by
  have hra := repOk_iff.1 hr
  have HRT := hide (fun W => right_ok a b c W hr)
  have HMO := hide must_ok
  have HMN := hide must_no
  have HTO := hide (fun W (hW : Fresh w W) => told_any g a b c lit v W (hb.fresh hW) hv (by omega))
  generalize offR a b c lit v = off at *
  generalize idxR lit v = ix at *
  obtain ⟨hv1, -⟩ := hv
  have hoo : off < 1 ∨ 1 ≤ off ∧ 134217728 < off := by unfold offOk at ho; omega
  obtain ⟨H, hH⟩ : ∃ H, H = w.heap.size := ⟨_, rfl⟩
  obtain ⟨w0, hw0⟩ : ∃ w0, w0 = (w.alloc (.cells #[.int .i64 lit, .int .i64 len, .int .i64 v] 86)).alloc (.cells #[.int .i64 0, .int .i64 0, .int .i64 0] 23) := ⟨_, rfl⟩
  have f0 : Fresh w w0 := by rw [hw0]; exact ((Upd.refl _ _).alloc _).alloc _
  have bx : Blk w0 H 86 #[.int .i64 lit, .int .i64 len, .int .i64 v] := by rw [hw0]; exact (blk_new hH _ _).alloc _
  have b0 := hb.fresh f0
  have c0 := b0.cell 0
  have c1 := b0.cell 1
  have c2 := b0.cell 2
  simp at c0 c1 c2
  have HW := hide hw0
  have HH := hide hH
  have F0 := hide f0
  have BX := hide bx
  clear hb f0 bx b0 hw0 hH hr hra ho
  refine veil fun R hR => ?_
  go_enter Tryz.func99, Tryz.ntmps99
  go_upto_region 1 with fail
  simp only [← HH.out, ← HW.out]
  go_wp2_with fail
  refine (HRT.out _).mono ?_
  rintro e w1 ⟨rfl, f1⟩
  have BX1 := hide (BX.out.fresh f1)
  have F1 := hide (F0.out.trans' f1)
  have d0 := BX1.out.cell 0
  have d1 := BX1.out.cell 1
  have d2 := BX1.out.cell 2
  simp at d0 d1 d2
  clear f1 c0 c1 c2 BX
  go_wp2_with fail
  refine (HMO.out _ _).mono ?_
  rintro e w2 ⟨rfl, rfl⟩
  go_wp2_with fail
  refine (HMO.out _ _).mono ?_
  rintro e w2 ⟨rfl, rfl⟩
  go_wp2_with fail
  refine (HTO.out _ F1.out).mono ?_
  rintro e w2 ⟨rfl, f2⟩
  have F2 := hide (F1.out.trans' f2)
  clear f2 BX1 F1 d0 d1 d2
  rcases hoo with h | ⟨h, h'⟩
  · go_wp2_with fail
    refine (HMN.out _ _).mono ?_
    rintro e w3 ⟨rfl, rfl⟩
    simp only [panicE]
    exact ⟨rfl, hR.out _ _ ⟨rfl, F2.out⟩⟩
  · have h2 : ¬ off ≤ 134217728 := by omega
    go_wp2_with fail
    rw [show decide (off ≤ 134217728) = false from decide_eq_false (by omega)]
    refine (HMN.out _ _).mono ?_
    rintro e w3 ⟨rfl, rfl⟩
    simp only [panicE]
    exact ⟨rfl, hR.out _ _ ⟨rfl, F2.out⟩⟩

end Go.Proofs.YtjfdaphjijfieaaGreat

/-
  Package repeat: Offset.
  Conditions: none beyond those of each theorem.
-/
namespace Go.Proofs.YtjfdaphjijfieaaGreat
open Go.RowKit
set_option linter.unusedVariables false
set_option linter.unusedSimpArgs false

set_option maxRecDepth 100000 in
set_option maxHeartbeats 1000000 in
theorem oclear_any (a b : Nat) (v x y z : Value) (w : World) (ha : Blk w a 3 #[v]) (hb : Blk w b 30 #[x, y, z]) (hne : a ≠ b) :
    Calls Tryz.prog 98 #[.pointer (some ⟨a, 0, none⟩), .pointer (some ⟨b, 0, none⟩)] w fun e w' => e = .returned (.tuple #[]) ∧
      Upd (fun k => k = a ∨ k = b) w w' ∧ Blk w' a 3 #[.int .i64 0] ∧ Blk w' b 30 #[.int .i64 0, .int .i64 0, .int .i64 0] := by
  have c0 := ha.cell 0
  have z0 := ha.frozen 0
  have d0 := hb.cell 0
  have d1 := hb.cell 1
  have d2 := hb.cell 2
  have y0 := hb.frozen 0
  have y1 := hb.frozen 1
  have y2 := hb.frozen 2
  simp at c0 d0 d1 d2
  have hne2 := Ne.symm hne
  have HA := hide ha
  have HB := hide hb
  clear ha hb
  refine veil fun R hR => ?_
  go_enter Tryz.func98, Tryz.ntmps98
  go_wp2_with fail
  try go_end0
  refine hR.out _ _ ⟨rfl, ?_, ?_, ?_⟩
  · exact ((((Upd.refl _ _).setCell (p := ⟨a, 0, none⟩) (fun _ => .inl rfl) _).setCell (p := ⟨b, 0, none⟩) (fun _ => .inr rfl) _).setCell (p := ⟨b, 1, none⟩) (fun _ => .inr rfl) _).setCell (p := ⟨b, 2, none⟩) (fun _ => .inr rfl) _
  · have := (((HA.out.set_ 0 (.int .i64 0)).far (p := ⟨b, 0, none⟩) hne (.int .i64 0)).far (p := ⟨b, 1, none⟩) hne (.int .i64 0)).far (p := ⟨b, 2, none⟩) hne (.int .i64 0)
    simpa using this
  · have := (((HB.out.far (p := ⟨a, 0, none⟩) hne2 (.int .i64 0)).set_ 0 (.int .i64 0)).set_ 1 (.int .i64 0)).set_ 2 (.int .i64 0)
    simpa using this

set_option maxRecDepth 100000 in
set_option maxHeartbeats 1000000 in
theorem ocaught_idle (pe : Addr) (fv : Value) (w : World) :
    CallsD Tryz.prog 97 #[.pointer (some pe), fv] .returning w fun e u' w' => e = .returned (.tuple #[]) ∧ u' = .returning ∧ w' = w := by
  refine callsD_of_wpS Tryz.func97 rfl fun c₀ cs hu => ?_
  apply wpS_seq
  apply wpS_region
  simp [wpOpsS, go_sem, recoverD, hu, Tryz.ntmps97, Exit.thenS]
  apply wpS_seq
  apply wpS_seq
  apply wpS_region
  simp [wpOpsS, go_sem, Exit.thenS]
  refine wpS_cond (t := true) (by simp [Act.eval, Array.replicate]) ?_
  simp only [if_true]
  refine wpS_of_wp (wp_ret ?_)
  cases c₀
  simp_all [bodyPostS, results, Tryz.results97, Exit.thenS]

set_option maxRecDepth 100000 in
set_option maxHeartbeats 1000000 in
theorem ocaught_panic (pe a b : Nat) (er : Int) (v x y z u : Value) (w : World) (he : Blk w pe 38 #[u]) (ha : Blk w a 3 #[v]) (hb : Blk w b 30 #[x, y, z]) (hne : a ≠ b) (h1 : pe ≠ a) (h2 : pe ≠ b) :
    CallsD Tryz.prog 97 #[.pointer (some ⟨pe, 0, none⟩), .func (.func 98) #[] #[.pointer (some ⟨a, 0, none⟩), .pointer (some ⟨b, 0, none⟩)]]
      (.panicking [{ v := .iface 38 (.int .i64 er), recovered := false }]) w fun e u' w' => e = .returned (.tuple #[]) ∧ u' = .panicking [{ v := .iface 38 (.int .i64 er), recovered := true }] ∧
        Upd (fun k => k = a ∨ k = b ∨ k = pe) w w' ∧ Blk w' a 3 #[.int .i64 0] ∧ Blk w' b 30 #[.int .i64 0, .int .i64 0, .int .i64 0] ∧ Blk w' pe 38 #[.int .i64 er] := by
  have hta : ∀ W, (Instr.typeAssert (.iface 38 (.int .i64 er)) 20 38 true).run Tryz.prog W = .ok (.tuple #[.int .i64 er, .bool true]) W := fun _ => by kernel_rfl
  have HCL := hide (oclear_any a b v x y z w ha hb hne)
  have HE := hide he
  have HN := hide (And.intro h1 h2)
  clear he ha hb hne h1 h2
  refine callsD_of_wpS Tryz.func97 rfl fun c₀ cs hu => ?_
  apply wpS_seq
  apply wpS_region
  simp [wpOpsS, go_sem, recoverD, hu, Tryz.ntmps97, Exit.thenS]
  apply wpS_seq
  apply wpS_seq
  apply wpS_region
  simp [wpOpsS, go_sem, Exit.thenS]
  refine wpS_cond (t := false) (by simp [Act.eval, Array.replicate]) ?_
  simp only [Bool.false_eq_true, if_false]
  refine wpS_of_wp (wp_skip ?_)
  simp only [Exit.thenS]
  apply wpS_seq
  apply wpS_region
  simp [wpOpsS, go_sem, hta, Exit.thenS]
  apply wpS_seq
  apply wpS_seq
  apply wpS_region
  simp [wpOpsS, go_sem, Exit.thenS]
  refine wpS_cond (t := false) (by simp [Act.eval, Array.replicate]) ?_
  simp only [Bool.false_eq_true, if_false]
  refine wpS_of_wp (wp_skip ?_)
  simp only [Exit.thenS]
  apply wpS_seq
  apply wpS_region
  simp [wpOpsS, go_sem, Exit.thenS]
  refine HCL.out.mono ?_
  rintro e w1 ⟨rfl, u1, a1, b1⟩
  have e1 := HE.out.upd u1 (by have := HN.out; rintro (h | h); exact this.1 h; exact this.2 h)
  have c0 := e1.cell 0
  have z0 := e1.frozen 0
  simp at c0
  have u2 : Upd (fun k => k = a ∨ k = b ∨ k = pe) w (w1.setCell ⟨pe, 0, none⟩ (.int .i64 er)) := (u1.mono fun _ _ h => by rcases h with h | h; exact .inl h; exact .inr (.inl h)).setCell (p := ⟨pe, 0, none⟩) (fun _ => .inr (.inr rfl)) _
  have a2 := a1.far (p := ⟨pe, 0, none⟩) (fun h => HN.out.1 h.symm) (.int .i64 er)
  have b2 := b1.far (p := ⟨pe, 0, none⟩) (fun h => HN.out.2 h.symm) (.int .i64 er)
  have e2 := e1.set_ 0 (.int .i64 er)
  have HU := hide u2
  have HA := hide a2
  have HB := hide b2
  have HE2 := hide e2
  clear u1 a1 b1 e1 u2 a2 b2 e2
  apply wpS_region
  simp [wpOpsS, go_sem, c0, z0, Exit.thenS, bodyPostS, results, Tryz.results97]
  exact ⟨HU.out, HA.out, HB.out, by simpa using HE2.out⟩

/-- what Offset leaves -/
def offPost (a b c lit v : Int) (w : World) (e : Ending) (w' : World) : Prop :=
  Fresh w w' ∧ e = .returned (if offOk (offR a b c lit v) then .tuple #[.int .i64 (offR a b c lit v), .agg #[.int .i64 (nextR a b c lit v).1, .int .i64 (nextR a b c lit v).2.1, .int .i64 (nextR a b c lit v).2.2], .int .i64 0]
    else .tuple #[.int .i64 0, .agg #[.int .i64 0, .int .i64 0, .int .i64 0], .int .i64 15])

set_option maxRecDepth 100000 in
set_option maxHeartbeats 4000000 in
theorem offset_any (a b c lit len v : Int) (w : World) (hr : repOk a b c = true) (hl : 0 ≤ lit) (hv : 1 ≤ v ∧ v ≤ 2 ^ 60) :
    Calls Tryz.prog 61 #[.agg #[.int .i64 a, .int .i64 b, .int .i64 c], .agg #[.int .i64 lit, .int .i64 len, .int .i64 v]] w (offPost a b c lit v w) := by
  have hmf : ∀ (fn : Fn) (first cap : Array Value) (w : World), (Instr.makeFunc fn first cap).run Tryz.prog w = .ok (.func fn first cap) w := fun _ _ _ _ => rfl
  have hGO := hide (fun g W hb => goes_ok g a b c lit len v W hb hr hl hv)
  have hGN := hide (fun g W hb => goes_no g a b c lit len v W hb hr hl hv)
  obtain ⟨H, hH⟩ : ∃ H, H = w.heap.size := ⟨_, rfl⟩
  obtain ⟨w0, hw0⟩ : ∃ w0, w0 = ((((w.alloc (.cells #[.int .i64 a, .int .i64 b, .int .i64 c] 30)).alloc (.cells #[.int .i64 lit, .int .i64 len, .int .i64 v] 86)).alloc (.cells #[.int .i64 0] 3)).alloc (.cells #[.int .i64 0, .int .i64 0, .int .i64 0] 30)).alloc (.cells #[.int .i64 0] 38) := ⟨_, rfl⟩
  have f0 : Fresh w w0 := by rw [hw0]; exact (((((Upd.refl _ _).alloc _).alloc _).alloc _).alloc _).alloc _
  have k0 : Blk w0 H 30 #[.int .i64 a, .int .i64 b, .int .i64 c] := by rw [hw0]; exact ((((blk_new hH _ _).alloc _).alloc _).alloc _).alloc _
  have k1 : Blk w0 (H + 1) 86 #[.int .i64 lit, .int .i64 len, .int .i64 v] := by rw [hw0]; exact (((blk_new (by simp [hH]) _ _).alloc _).alloc _).alloc _
  have k2 : Blk w0 (H + 1 + 1) 3 #[.int .i64 0] := by rw [hw0]; exact ((blk_new (by simp [hH]) _ _).alloc _).alloc _
  have k3 : Blk w0 (H + 1 + 1 + 1) 30 #[.int .i64 0, .int .i64 0, .int .i64 0] := by rw [hw0]; exact (blk_new (by simp [hH]) _ _).alloc _
  have k4 : Blk w0 (H + 1 + 1 + 1 + 1) 38 #[.int .i64 0] := by rw [hw0]; exact blk_new (by simp [hH]) _ _
  have hs : w0.heap.size = H + 5 := by rw [hw0, hH]; simp
  have d0 := k0.cell 0
  have d1 := k0.cell 1
  have d2 := k0.cell 2
  simp at d0 d1 d2
  have HW := hide hw0
  have HH := hide hH
  have F0 := hide f0
  have K1 := hide k1
  have K2 := hide k2
  have K3 := hide k3
  have K4 := hide k4
  have HS := hide hs
  clear hw0 hH f0 k0 k1 k2 k3 k4 hs hr hl hv
  refine veil fun R hR => ?_
  go_enter_defers Tryz.func61, Tryz.ntmps61
  go_upto_region 1 with fail
  simp only [← HH.out, ← HW.out]
  go_upto_region 3 with fail
  obtain ⟨G, hG⟩ : ∃ G, G = w0.heap.size := ⟨_, rfl⟩
  obtain ⟨w1, hw1⟩ : ∃ w1, w1 = w0.alloc (.cells #[.int .i64 a, .int .i64 b, .int .i64 c] 206) := ⟨_, rfl⟩
  simp only [← hG, ← hw1]
  have f1 : Fresh w0 w1 := by rw [hw1]; exact (Upd.refl _ _).alloc _
  have bs : Blk w1 G 206 #[.int .i64 a, .int .i64 b, .int .i64 c] := by rw [hw1]; exact blk_new hG _ _
  have r1 := K1.out.fresh f1
  have r2 := K2.out.fresh f1
  have r3 := K3.out.fresh f1
  have r4 := K4.out.fresh f1
  have x0 := r1.cell 0
  have x1 := r1.cell 1
  have x2 := r1.cell 2
  simp at x0 x1 x2
  have HG := hide (show G = H + 5 by rw [hG]; exact HS.out)
  have BS := hide bs
  have R2 := hide r2
  have R3 := hide r3
  have R4 := hide r4
  have F1 := hide (F0.out.trans' f1)
  clear d0 d1 d2 hG hw1 f1 bs r1 r2 r3 r4 K1 K2 K3 K4 HS HW
  by_cases ho : offOk (offR a b c lit v)
  · have HC := hide (hGO.out G w1 BS.out ho)
    have hP : ∀ w', offPost a b c lit v w (.returned (.tuple #[.int .i64 (offR a b c lit v), .agg #[.int .i64 (nextR a b c lit v).1, .int .i64 (nextR a b c lit v).2.1, .int .i64 (nextR a b c lit v).2.2], .int .i64 0])) w' ↔ Fresh w w' := by
      intro w'
      unfold offPost
      rw [if_pos ho]
      simp
    have HP := hide hP
    clear hGO hGN hP ho
    generalize offPost a b c lit v = OP at *
    generalize offR a b c lit v = off at *
    generalize (nextR a b c lit v).1 = n1 at *
    generalize (nextR a b c lit v).2.1 = n2 at *
    generalize (nextR a b c lit v).2.2 = n3 at *
    go_wp2_with fail
    refine HC.out.mono ?_
    rintro e w2 ⟨rfl, u2, b2⟩
    have hg := HG.out
    have r2 := R2.out.upd u2 (by omega)
    have r3 := R3.out.upd u2 (by omega)
    have r4 := R4.out.upd u2 (by omega)
    have g0 := b2.cell 0
    have g1 := b2.cell 1
    have g2 := b2.cell 2
    simp at g0 g1 g2
    have y0 := r2.cell 0
    have y1 := r3.cell 0
    have y2 := r3.cell 1
    have y3 := r3.cell 2
    have y4 := r4.cell 0
    simp at y0 y1 y2 y3 y4
    have z0 := r2.frozen 0
    have z1 := r3.frozen 0
    have z2 := r3.frozen 1
    have z3 := r3.frozen 2
    have z4 := r4.frozen 0
    have U2 := hide u2
    have hn1 : G ≠ H + 1 + 1 := by omega
    have hn2 : H + 1 + 1 ≠ G := by omega
    have hn3 : G ≠ H + 1 + 1 + 1 := by omega
    have hn4 : H + 1 + 1 + 1 ≠ G := by omega
    clear x0 x1 x2 r2 r3 r4 u2 hg b2
    have hfi : ∀ W, (Instr.field 23 (.agg #[.int .i64 lit, .int .i64 len, .int .i64 off]) 2).run Tryz.prog W = .ok (.int .i64 off) W := fun _ => by kernel_rfl
    go_wp2_with fail
    go_region
    all_goals go_wp2_with fail
    change Leaves _ _ _ _ _ _ _
    refine leaves_cons (f := 97) (args := #[.pointer (some ⟨H + 1 + 1 + 1 + 1, 0, none⟩), .func (.func 98) #[] #[.pointer (some ⟨H + 1 + 1, 0, none⟩), .pointer (some ⟨H + 1 + 1 + 1, 0, none⟩)]]) (by simp) (by simp [go_sem]) ?_
    have s2 := R2.out.upd U2.out (by have := HG.out; omega)
    have s3 := R3.out.upd U2.out (by have := HG.out; omega)
    have s4 := R4.out.upd U2.out (by have := HG.out; omega)
    have q2 := (((((s2.set_ 0 (.int .i64 off)).set_ 0 (.int .i64 off)).far (p := ⟨H + 1 + 1 + 1, 0, none⟩) (by simp) (.int .i64 n1)).far (p := ⟨H + 1 + 1 + 1, 1, none⟩) (by simp) (.int .i64 n2)).far (p := ⟨H + 1 + 1 + 1, 2, none⟩) (by simp) (.int .i64 n3)).far (p := ⟨H + 1 + 1 + 1 + 1, 0, none⟩) (by simp <;> omega) (.int .i64 0)
    have q3 := (((((s3.far (p := ⟨H + 1 + 1, 0, none⟩) (by simp) (.int .i64 off)).far (p := ⟨H + 1 + 1, 0, none⟩) (by simp) (.int .i64 off)).set_ 0 (.int .i64 n1)).set_ 1 (.int .i64 n2)).set_ 2 (.int .i64 n3)).far (p := ⟨H + 1 + 1 + 1 + 1, 0, none⟩) (by simp) (.int .i64 0)
    have q4 := (((((s4.far (p := ⟨H + 1 + 1, 0, none⟩) (by simp <;> omega) (.int .i64 off)).far (p := ⟨H + 1 + 1, 0, none⟩) (by simp <;> omega) (.int .i64 off)).far (p := ⟨H + 1 + 1 + 1, 0, none⟩) (by simp) (.int .i64 n1)).far (p := ⟨H + 1 + 1 + 1, 1, none⟩) (by simp) (.int .i64 n2)).far (p := ⟨H + 1 + 1 + 1, 2, none⟩) (by simp) (.int .i64 n3)).set_ 0 (.int .i64 0)
    have U3 : Upd (fun b => b = G ∨ b = H + 1 + 1 ∨ b = H + 1 + 1 + 1 ∨ b = H + 1 + 1 + 1 + 1) w1 ((((((w2.setCell ⟨H + 1 + 1, 0, none⟩ (.int .i64 off)).setCell ⟨H + 1 + 1, 0, none⟩ (.int .i64 off)).setCell ⟨H + 1 + 1 + 1, 0, none⟩ (.int .i64 n1)).setCell ⟨H + 1 + 1 + 1, 1, none⟩ (.int .i64 n2)).setCell ⟨H + 1 + 1 + 1, 2, none⟩ (.int .i64 n3)).setCell ⟨H + 1 + 1 + 1 + 1, 0, none⟩ (.int .i64 0)) :=
      ((((((U2.out.mono (T := fun b => b = G ∨ b = H + 1 + 1 ∨ b = H + 1 + 1 + 1 ∨ b = H + 1 + 1 + 1 + 1) fun _ _ h => .inl h).setCell (p := ⟨H + 1 + 1, 0, none⟩) (fun _ => .inr (.inl rfl)) _).setCell (p := ⟨H + 1 + 1, 0, none⟩) (fun _ => .inr (.inl rfl)) _).setCell (p := ⟨H + 1 + 1 + 1, 0, none⟩) (fun _ => .inr (.inr (.inl rfl))) _).setCell (p := ⟨H + 1 + 1 + 1, 1, none⟩) (fun _ => .inr (.inr (.inl rfl))) _).setCell (p := ⟨H + 1 + 1 + 1, 2, none⟩) (fun _ => .inr (.inr (.inl rfl))) _).setCell (p := ⟨H + 1 + 1 + 1 + 1, 0, none⟩) (fun _ => .inr (.inr (.inr rfl))) _
    clear g0 g1 g2 y0 y1 y2 y3 y4 z0 z1 z2 z3 z4
    generalize ((((((w2.setCell ⟨H + 1 + 1, 0, none⟩ (.int .i64 off)).setCell ⟨H + 1 + 1, 0, none⟩ (.int .i64 off)).setCell ⟨H + 1 + 1 + 1, 0, none⟩ (.int .i64 n1)).setCell ⟨H + 1 + 1 + 1, 1, none⟩ (.int .i64 n2)).setCell ⟨H + 1 + 1 + 1, 2, none⟩ (.int .i64 n3)).setCell ⟨H + 1 + 1 + 1 + 1, 0, none⟩ (.int .i64 0)) = w5 at *
    have d0 := q2.drew.cell 0
    have d1 := q3.drew.cell 0
    have d2 := q3.drew.cell 1
    have d3 := q3.drew.cell 2
    have d4 := q4.drew.cell 0
    simp at d0 d1 d2 d3 d4
    refine (ocaught_idle _ _ _).mono ?_
    rintro e u' w'' ⟨rfl, rfl, rfl⟩
    refine ⟨.tuple #[.int .i64 off, .agg #[.int .i64 n1, .int .i64 n2, .int .i64 n3], .int .i64 0], ?_, hR.out _ _ ((HP.out _).2 ?_)⟩
    · have hl : ∀ {W : World}, Blk W (H + 1 + 1 + 1) 30 #[.int .i64 n1, .int .i64 n2, .int .i64 n3] → (loadVar 30 ⟨H + 1 + 1 + 1, 0, none⟩).run Tryz.prog W = .ok (.agg #[.int .i64 n1, .int .i64 n2, .int .i64 n3]) W := fun h =>
        run_loadVar_agg _ (H + 1 + 1 + 1) 0 30 [.int .i64 n1, .int .i64 n2, .int .i64 n3] _ (by simpa using h.cells) Tryz.underlying30 rfl (by kernel_rfl)
      have hl3 := hl (W := w5.drew) (by simpa using q3.drew)
      simp [results, Tryz.results61, go_sem, d0, d1, d2, d3, d4]
    · exact (F1.out.trans U3 (fun b hb h => by have := HG.out; have := HH.out; omega)).drew
  · have HC := hide (hGN.out G w1 BS.out ho)
    have hP : ∀ w', offPost a b c lit v w (.returned (.tuple #[.int .i64 0, .agg #[.int .i64 0, .int .i64 0, .int .i64 0], .int .i64 15])) w' ↔ Fresh w w' := by
      intro w'
      unfold offPost
      rw [if_neg ho]
      simp
    have HP := hide hP
    clear hGO hGN hP ho
    generalize offPost a b c lit v = OP at *
    go_wp2_with fail
    refine HC.out.mono ?_
    rintro e w2 ⟨rfl, f2⟩
    change Leaves _ _ _ _ _ _ _
    refine leaves_cons (f := 97) (args := #[.pointer (some ⟨H + 1 + 1 + 1 + 1, 0, none⟩), .func (.func 98) #[] #[.pointer (some ⟨H + 1 + 1, 0, none⟩), .pointer (some ⟨H + 1 + 1 + 1, 0, none⟩)]]) (by simp) (by simp [go_sem]) ?_
    refine (ocaught_panic (H + 1 + 1 + 1 + 1) (H + 1 + 1) (H + 1 + 1 + 1) 15 _ _ _ _ _ w2 (R4.out.fresh f2) (R2.out.fresh f2) (R3.out.fresh f2) (by omega) (by omega) (by omega)).mono ?_
    rintro e u' w3 ⟨rfl, rfl, u3, q2, q3, q4⟩
    have d0 := q2.cell 0
    have d1 := q3.cell 0
    have d2 := q3.cell 1
    have d3 := q3.cell 2
    have d4 := q4.cell 0
    simp at d0 d1 d2 d3 d4
    show Leaves _ _ _ _ [] .returning _
    refine ⟨.tuple #[.int .i64 0, .agg #[.int .i64 0, .int .i64 0, .int .i64 0], .int .i64 15], ?_, hR.out _ _ ((HP.out _).2 ?_)⟩
    · simp [results, Tryz.results61, go_sem, d0, d1, d2, d3, d4]
    · exact (F1.out.trans' f2).trans u3 (fun b hb h => by have := HG.out; have := HH.out; omega)

end Go.Proofs.YtjfdaphjijfieaaGreat
