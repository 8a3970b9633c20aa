/-
  Joined texts, part 16: contracts and plain lemmas, each under its own heading below.
  Conditions: none beyond those of each theorem.
-/
import Derived.Test.YtcdbfddoanigbaaJ15
import Derived.Deep.RegionHeld3
import Derived.Test.YtcdbfddoanigbaaJ5
import Derived.Test.YtcdbfddoanigbaaJ12
import Derived.Test.YtcdbfddoanigbaaJ4
/-
  Package modes: Encode.
  Conditions: none beyond those of each theorem.
-/
namespace Go.Proofs.Ytcdbfddoanigbaa
open Go.RowKit
set_option linter.unusedVariables false
set_option linter.unusedSimpArgs false

theorem NewBytes.lift {w W w' : World} {v : Value} {bs : List Nat} (f : Fresh w W) (h : NewBytes W w' v bs) : NewBytes w w' v bs :=
  ⟨h.1, f.trans' h.2.1, fun k hk => Nat.le_trans f.size (h.2.2 k hk)⟩
theorem NewBytes.none {w w' : World} (f : Fresh w w') : NewBytes w w' (.slice none 0 0) [] := ⟨Own.nil _ _, f, by simp [Value.ownBlock]⟩

theorem wayM0 (F : Nat → Prop) (A B : Option Addr) (n m c d : Nat) (p s x lg lh : Int) (N : List Int) (W : World) (hs : Rd W F B m (ints N)) (hfit : Fit N) (hm : (m : Int) ≤ 1099511627776) (hp : 0 ≤ p ∧ p ≤ 2) (hv : Valid lh N (partS p) (partX p)) :
    Calls Try.prog 48 #[.agg #[.int .i64 p, .int .i64 s, .int .i64 x, .int .i64 lg, .slice A n c], .agg #[.int .i64 lh, .slice B m d]] W fun e w' =>
      ∃ v, e = .returned (.tuple #[v, .int .i64 (encM 0 p lh N).1]) ∧ NewBytes W w' v (encM 0 p lh N).2 := by
  refine (way2_any F A B n m c d p s x lg lh N W hs (by omega) hp).mono fun e w' h => ⟨.slice none 0 0, ?_, ?_⟩
  · rw [h.1]
    by_cases hh : partL p = lh ∧ partN p = N <;> simp [encM, hh]
  · by_cases hh : partL p = lh ∧ partN p = N <;> simpa [encM, hh] using NewBytes.none h.2

theorem wayM1 (F : Nat → Prop) (A B : Option Addr) (n m c d : Nat) (p s x lg lh : Int) (N : List Int) (W : World) (hs : Rd W F B m (ints N)) (hfit : Fit N) (hm : (m : Int) ≤ 1099511627776) (hp : 0 ≤ p ∧ p ≤ 2) (hv : Valid lh N (partS p) (partX p)) :
    Calls Try.prog 51 #[.agg #[.int .i64 p, .int .i64 s, .int .i64 x, .int .i64 lg, .slice A n c], .agg #[.int .i64 lh, .slice B m d]] W fun e w' =>
      ∃ v, e = .returned (.tuple #[v, .int .i64 (encM 1 p lh N).1]) ∧ NewBytes W w' v (encM 1 p lh N).2 := by
  refine (way3_any F A B n m c d p s x lg lh N W hs (valid_wide hv)).mono fun e w' h => ?_
  obtain ⟨v, he, hb⟩ := h
  refine ⟨v, ?_, ?_⟩
  · rw [he]
    by_cases hh : lh = 0 ∧ N[N.length - 1]? = some 1 <;> simp [encM, hh]
  · by_cases hh : lh = 0 ∧ N[N.length - 1]? = some 1 <;> simpa [encM, hh] using hb

theorem wayM2 (F : Nat → Prop) (A B : Option Addr) (n m c d : Nat) (p s x lg lh : Int) (N : List Int) (W : World) (hs : Rd W F B m (ints N)) (hfit : Fit N) (hm : (m : Int) ≤ 1099511627776) (hp : 0 ≤ p ∧ p ≤ 2) (hv : Valid lh N (partS p) (partX p)) :
    Calls Try.prog 54 #[.agg #[.int .i64 p, .int .i64 s, .int .i64 x, .int .i64 lg, .slice A n c], .agg #[.int .i64 lh, .slice B m d]] W fun e w' =>
      ∃ v, e = .returned (.tuple #[v, .int .i64 (encM 2 p lh N).1]) ∧ NewBytes W w' v (encM 2 p lh N).2 := by
  refine (way5_any F A B n m c d p s x lg lh N W hs hfit hm (valid_wide hv)).mono fun e w' h => ?_
  obtain ⟨v, he, hb⟩ := h
  refine ⟨v, ?_, ?_⟩
  · rw [he]
    by_cases hh : lh ≠ 0 <;> simp [encM, hh]
  · by_cases hh : lh ≠ 0 <;> simpa [encM, hh] using hb

theorem wayM3 (F : Nat → Prop) (A B : Option Addr) (n m c d : Nat) (p s x lg lh : Int) (N : List Int) (W : World) (hs : Rd W F B m (ints N)) (hfit : Fit N) (hm : (m : Int) ≤ 1099511627776) (hp : 0 ≤ p ∧ p ≤ 2) (hv : Valid lh N (partS p) (partX p)) :
    Calls Try.prog 57 #[.agg #[.int .i64 p, .int .i64 s, .int .i64 x, .int .i64 lg, .slice A n c], .agg #[.int .i64 lh, .slice B m d]] W fun e w' =>
      ∃ v, e = .returned (.tuple #[v, .int .i64 (encM 3 p lh N).1]) ∧ NewBytes W w' v (encM 3 p lh N).2 := by
  refine (way7_any A B n m c d p s x lg lh W).mono fun e w' h => ⟨.slice none 0 0, ?_, ?_⟩
  · rw [h.1]
    simp [encM]
  · simpa [encM] using NewBytes.none h.2

theorem ways_raw (w : World) : Calls Try.prog 27 #[] w fun e w' => e = .returned (.agg #[.func (.func 46) #[] #[], .func (.func 48) #[] #[], .func (.func 50) #[] #[], .func (.func 51) #[] #[], .func (.func 52) #[] #[], .func (.func 54) #[] #[], .func (.func 56) #[] #[], .func (.func 57) #[] #[]]) ∧ Fresh w w' := ways_any w

set_option maxRecDepth 100000 in
set_option maxHeartbeats 1000000 in
theorem menc_part (B : Option Addr) (m d : Nat) (mo p lg : Int) (w : World) (hp : p < 0 ∨ 2 < p) :
    Calls Try.prog 11 #[.int .i64 mo, .int .i64 p, .agg #[.int .i64 lg, .slice B m d]] w fun e w' => e = .returned (.tuple #[.slice none 0 0, .int .i64 2]) ∧ Fresh w w' := by
  obtain ⟨w0, hw0⟩ : ∃ w0, w0 = w.alloc (.cells #[.int .i64 lg, .slice B m d] 26) := ⟨_, rfl⟩
  obtain ⟨H, hH⟩ : ∃ H, H = w.heap.size := ⟨_, rfl⟩
  have f0 : Fresh w w0 := by rw [hw0]; exact (Upd.refl _ _).alloc _
  have bt : Blk w0 H 26 #[.int .i64 lg, .slice B m d] := by rw [hw0]; exact blk_new hH _ _
  have HM := hide (mof_no p lg B m d w0 hp)
  have BT := hide bt
  have F0 := hide f0
  have HW := hide hw0
  have HH := hide hH
  have HWY := hide (ways_raw)
  have t0 := bt.cell 0
  have t1 := bt.cell 1
  simp at t0 t1
  clear bt f0 hw0 hH hp
  refine veil fun R hR => ?_
  go_enter Try.func11, Try.ntmps11
  go_wp2_with fail
  simp only [← HH.out, ← HW.out]
  go_wp2_with fail
  refine HM.out.mono ?_
  rintro e w1 ⟨rfl, f1⟩
  have F1 := hide (F0.out.trans' f1)
  clear f1
  go_wp2_with fail
  try go_ret2
  exact hR.out _ _ ⟨rfl, F1.out.alloc _⟩

set_option maxRecDepth 100000 in
set_option maxHeartbeats 1000000 in
theorem menc_neg (B : Option Addr) (m d : Nat) (mo p lg : Int) (w : World) (hp : 0 ≤ p ∧ p ≤ 2) (hmo : mo < 0) :
    Calls Try.prog 11 #[.int .i64 mo, .int .i64 p, .agg #[.int .i64 lg, .slice B m d]] w fun e w' => e = .returned (.tuple #[.slice none 0 0, .int .i64 2]) ∧ Fresh w w' := by
  obtain ⟨w0, hw0⟩ : ∃ w0, w0 = w.alloc (.cells #[.int .i64 lg, .slice B m d] 26) := ⟨_, rfl⟩
  obtain ⟨H, hH⟩ : ∃ H, H = w.heap.size := ⟨_, rfl⟩
  have f0 : Fresh w w0 := by rw [hw0]; exact (Upd.refl _ _).alloc _
  have bt : Blk w0 H 26 #[.int .i64 lg, .slice B m d] := by rw [hw0]; exact blk_new hH _ _
  have HM := hide (mof_any p lg B m d w0 hp)
  have BT := hide bt
  have F0 := hide f0
  have HW := hide hw0
  have HH := hide hH
  have HWY := hide (ways_raw)
  have t0 := bt.cell 0
  have t1 := bt.cell 1
  simp at t0 t1
  clear bt f0 hw0 hH hp
  generalize hps : partS p = s at *
  generalize hpx : partX p = x at *
  refine veil fun R hR => ?_
  go_enter Try.func11, Try.ntmps11
  go_wp2_with fail
  simp only [← HH.out, ← HW.out]
  go_wp2_with fail
  refine HM.out.mono ?_
  rintro e w1 ⟨rfl, f1⟩
  obtain ⟨w2, hw2⟩ : ∃ w2, w2 = w1.alloc (.cells #[.int .i64 p, .int .i64 s, .int .i64 x, .int .i64 lg, .slice B m d] 59) := ⟨_, rfl⟩
  obtain ⟨H1, hH1⟩ : ∃ H1, H1 = w1.heap.size := ⟨_, rfl⟩
  have f12 : Fresh w1 w2 := by rw [hw2]; exact (Upd.refl _ _).alloc _
  have b2 := BT.out.fresh (f1.trans' f12)
  have c2 : Blk w2 H1 59 #[.int .i64 p, .int .i64 s, .int .i64 x, .int .i64 lg, .slice B m d] := by rw [hw2]; exact blk_new hH1 _ _
  have B2 := hide b2
  have C2 := hide c2
  have F2 := hide ((F0.out.trans' f1).trans' f12)
  have HW2 := hide hw2
  have HH1 := hide hH1
  clear f1 f12 b2 c2 hw2 hH1
  go_wp2_with fail
  try go_ret2
  simp only [← HW2.out]
  exact hR.out _ _ ⟨rfl, F2.out⟩

set_option maxRecDepth 100000 in
set_option maxHeartbeats 1000000 in
theorem menc_big (B : Option Addr) (m d : Nat) (mo p lg : Int) (w : World) (hp : 0 ≤ p ∧ p ≤ 2) (hmo : 3 < mo) :
    Calls Try.prog 11 #[.int .i64 mo, .int .i64 p, .agg #[.int .i64 lg, .slice B m d]] w fun e w' => e = .returned (.tuple #[.slice none 0 0, .int .i64 2]) ∧ Fresh w w' := by
  have hm1 : 0 ≤ mo := by omega
  have hm2 : 4 ≤ mo := by omega
  clear hmo
  obtain ⟨w0, hw0⟩ : ∃ w0, w0 = w.alloc (.cells #[.int .i64 lg, .slice B m d] 26) := ⟨_, rfl⟩
  obtain ⟨H, hH⟩ : ∃ H, H = w.heap.size := ⟨_, rfl⟩
  have f0 : Fresh w w0 := by rw [hw0]; exact (Upd.refl _ _).alloc _
  have bt : Blk w0 H 26 #[.int .i64 lg, .slice B m d] := by rw [hw0]; exact blk_new hH _ _
  have HM := hide (mof_any p lg B m d w0 hp)
  have BT := hide bt
  have F0 := hide f0
  have HW := hide hw0
  have HH := hide hH
  have HWY := hide (ways_raw)
  have t0 := bt.cell 0
  have t1 := bt.cell 1
  simp at t0 t1
  clear bt f0 hw0 hH hp
  generalize hps : partS p = s at *
  generalize hpx : partX p = x at *
  refine veil fun R hR => ?_
  go_enter Try.func11, Try.ntmps11
  go_wp2_with fail
  simp only [← HH.out, ← HW.out]
  go_wp2_with fail
  refine HM.out.mono ?_
  rintro e w1 ⟨rfl, f1⟩
  obtain ⟨w2, hw2⟩ : ∃ w2, w2 = w1.alloc (.cells #[.int .i64 p, .int .i64 s, .int .i64 x, .int .i64 lg, .slice B m d] 59) := ⟨_, rfl⟩
  obtain ⟨H1, hH1⟩ : ∃ H1, H1 = w1.heap.size := ⟨_, rfl⟩
  have f12 : Fresh w1 w2 := by rw [hw2]; exact (Upd.refl _ _).alloc _
  have b2 := BT.out.fresh (f1.trans' f12)
  have c2 : Blk w2 H1 59 #[.int .i64 p, .int .i64 s, .int .i64 x, .int .i64 lg, .slice B m d] := by rw [hw2]; exact blk_new hH1 _ _
  have B2 := hide b2
  have C2 := hide c2
  have F2 := hide ((F0.out.trans' f1).trans' f12)
  have HW2 := hide hw2
  have HH1 := hide hH1
  clear f1 f12 b2 c2 hw2 hH1
  go_wp2_with fail
  simp only [← HW2.out]
  refine (HWY.out _).mono ?_
  rintro e w3 ⟨rfl, f3⟩
  have F3 := hide (F2.out.trans' f3)
  clear f3
  go_wp2_with fail
  try go_ret2
  exact hR.out _ _ ⟨rfl, F3.out⟩

set_option maxRecDepth 100000 in
set_option maxHeartbeats 1000000 in
theorem menc_inv (F : Nat → Prop) (B : Option Addr) (m d : Nat) (mo p lg : Int) (N : List Int) (w : World) (hs : Rd w F B m (ints N)) (hfit : Fit N) (hm : (m : Int) ≤ 1099511627776) (hp : 0 ≤ p ∧ p ≤ 2) (hm0 : 0 ≤ mo) (hm3 : mo ≤ 3) (hv : ¬ Valid lg N (partS p) (partX p)) :
    Calls Try.prog 11 #[.int .i64 mo, .int .i64 p, .agg #[.int .i64 lg, .slice B m d]] w fun e w' => e = .returned (.tuple #[.slice none 0 0, .int .i64 13]) ∧ Fresh w w' := by
  have hm4 : mo < 4 := by omega
  obtain ⟨w0, hw0⟩ : ∃ w0, w0 = w.alloc (.cells #[.int .i64 lg, .slice B m d] 26) := ⟨_, rfl⟩
  obtain ⟨H, hH⟩ : ∃ H, H = w.heap.size := ⟨_, rfl⟩
  have f0 : Fresh w w0 := by rw [hw0]; exact (Upd.refl _ _).alloc _
  have bt : Blk w0 H 26 #[.int .i64 lg, .slice B m d] := by rw [hw0]; exact blk_new hH _ _
  have HM := hide (mof_any p lg B m d w0 hp)
  have BT := hide bt
  have F0 := hide f0
  have HW := hide hw0
  have HH := hide hH
  have HWY := hide (ways_raw)
  have HMY := hide (fun W (h : Fresh w W) => (pmay_any F B B m m d d p (partS p) (partX p) lg lg N W (hs.fresh h) hfit hm).mono fun e w' q => (⟨by rw [q.1, if_neg hv], q.2⟩ : e = .returned (.int .i64 13) ∧ Fresh W w'))
  have t0 := bt.cell 0
  have t1 := bt.cell 1
  simp at t0 t1
  clear bt f0 hw0 hH hp hs hfit hm hv hm3
  generalize hps : partS p = s at *
  generalize hpx : partX p = x at *
  refine veil fun R hR => ?_
  go_enter Try.func11, Try.ntmps11
  go_wp2_with fail
  simp only [← HH.out, ← HW.out]
  go_wp2_with fail
  refine HM.out.mono ?_
  rintro e w1 ⟨rfl, f1⟩
  obtain ⟨w2, hw2⟩ : ∃ w2, w2 = w1.alloc (.cells #[.int .i64 p, .int .i64 s, .int .i64 x, .int .i64 lg, .slice B m d] 59) := ⟨_, rfl⟩
  obtain ⟨H1, hH1⟩ : ∃ H1, H1 = w1.heap.size := ⟨_, rfl⟩
  have f12 : Fresh w1 w2 := by rw [hw2]; exact (Upd.refl _ _).alloc _
  have b2 := BT.out.fresh (f1.trans' f12)
  have c2 : Blk w2 H1 59 #[.int .i64 p, .int .i64 s, .int .i64 x, .int .i64 lg, .slice B m d] := by rw [hw2]; exact blk_new hH1 _ _
  have B2 := hide b2
  have C2 := hide c2
  have F2 := hide ((F0.out.trans' f1).trans' f12)
  have HW2 := hide hw2
  have HH1 := hide hH1
  clear f1 f12 b2 c2 hw2 hH1
  go_wp2_with fail
  simp only [← HW2.out]
  refine (HWY.out _).mono ?_
  rintro e w3 ⟨rfl, f3⟩
  have b3 := B2.out.fresh f3
  have c3 := C2.out.fresh f3
  have q0 := c3.cell 0
  have q1 := c3.cell 1
  have q2 := c3.cell 2
  have q3 := c3.cell 3
  have q4 := c3.cell 4
  have u0 := b3.cell 0
  have u1 := b3.cell 1
  simp at q0 q1 q2 q3 q4 u0 u1
  have F3 := hide (F2.out.trans' f3)
  clear f3 b3 c3
  simp only [← HH1.out]
  go_wp2_with fail
  refine (HMY.out _ F3.out).mono ?_
  rintro e w4 ⟨rfl, f4⟩
  have F4 := hide (F3.out.trans' f4)
  clear f4
  go_wp2_with fail
  try go_ret2
  exact hR.out _ _ ⟨rfl, F4.out⟩

set_option maxRecDepth 100000 in
set_option maxHeartbeats 2000000 in
theorem menc_ok0 (F : Nat → Prop) (B : Option Addr) (m d : Nat) (p lg : Int) (N : List Int) (w : World) (hs : Rd w F B m (ints N)) (hfit : Fit N) (hm : (m : Int) ≤ 1099511627776) (hp : 0 ≤ p ∧ p ≤ 2) (hv : Valid lg N (partS p) (partX p)) :
    Calls Try.prog 11 #[.int .i64 0, .int .i64 p, .agg #[.int .i64 lg, .slice B m d]] w fun e w' => ∃ v, e = .returned (.tuple #[v, .int .i64 (encM 0 p lg N).1]) ∧ NewBytes w w' v (encM 0 p lg N).2 := by
  obtain ⟨w0, hw0⟩ : ∃ w0, w0 = w.alloc (.cells #[.int .i64 lg, .slice B m d] 26) := ⟨_, rfl⟩
  obtain ⟨H, hH⟩ : ∃ H, H = w.heap.size := ⟨_, rfl⟩
  have f0 : Fresh w w0 := by rw [hw0]; exact (Upd.refl _ _).alloc _
  have bt : Blk w0 H 26 #[.int .i64 lg, .slice B m d] := by rw [hw0]; exact blk_new hH _ _
  have HM := hide (mof_any p lg B m d w0 hp)
  have BT := hide bt
  have F0 := hide f0
  have HW := hide hw0
  have HH := hide hH
  have HWY := hide (ways_raw)
  have HMY := hide (fun W (h : Fresh w W) => (pmay_any F B B m m d d p (partS p) (partX p) lg lg N W (hs.fresh h) hfit hm).mono fun e w' q => (⟨by rw [q.1, if_pos hv], q.2⟩ : e = .returned (.int .i64 0) ∧ Fresh W w'))
  have HWK := hide (fun W (h : Fresh w W) => wayM0 F B B m m d d p (partS p) (partX p) lg lg N W (hs.fresh h) hfit hm hp hv)
  generalize encM 0 p lg N = en at *
  have t0 := bt.cell 0
  have t1 := bt.cell 1
  simp at t0 t1
  clear bt f0 hw0 hH hp hs hfit hm hv
  generalize hps : partS p = s at *
  generalize hpx : partX p = x at *
  refine veil fun R hR => ?_
  go_enter Try.func11, Try.ntmps11
  go_wp2_with fail
  simp only [← HH.out, ← HW.out]
  go_wp2_with fail
  refine HM.out.mono ?_
  rintro e w1 ⟨rfl, f1⟩
  obtain ⟨w2, hw2⟩ : ∃ w2, w2 = w1.alloc (.cells #[.int .i64 p, .int .i64 s, .int .i64 x, .int .i64 lg, .slice B m d] 59) := ⟨_, rfl⟩
  obtain ⟨H1, hH1⟩ : ∃ H1, H1 = w1.heap.size := ⟨_, rfl⟩
  have f12 : Fresh w1 w2 := by rw [hw2]; exact (Upd.refl _ _).alloc _
  have b2 := BT.out.fresh (f1.trans' f12)
  have c2 : Blk w2 H1 59 #[.int .i64 p, .int .i64 s, .int .i64 x, .int .i64 lg, .slice B m d] := by rw [hw2]; exact blk_new hH1 _ _
  have B2 := hide b2
  have C2 := hide c2
  have F2 := hide ((F0.out.trans' f1).trans' f12)
  have HW2 := hide hw2
  have HH1 := hide hH1
  clear f1 f12 b2 c2 hw2 hH1
  go_wp2_with fail
  simp only [← HW2.out]
  refine (HWY.out _).mono ?_
  rintro e w3 ⟨rfl, f3⟩
  have b3 := B2.out.fresh f3
  have c3 := C2.out.fresh f3
  have q0 := c3.cell 0
  have q1 := c3.cell 1
  have q2 := c3.cell 2
  have q3 := c3.cell 3
  have q4 := c3.cell 4
  have u0 := b3.cell 0
  have u1 := b3.cell 1
  simp at q0 q1 q2 q3 q4 u0 u1
  have B3 := hide b3
  have C3 := hide c3
  have F3 := hide (F2.out.trans' f3)
  clear f3 b3 c3
  simp only [← HH1.out]
  go_wp2_with fail
  refine (HMY.out _ F3.out).mono ?_
  rintro e w4 ⟨rfl, f4⟩
  have b4 := B3.out.fresh f4
  have c4 := C3.out.fresh f4
  have F4 := hide (F3.out.trans' f4)
  have hS4 : ∀ W, Fresh w4 W → (Fresh w4 W ∧ W.cell? ⟨H1, 0, none⟩ = some (.int .i64 p) ∧ W.cell? ⟨H1, 1, none⟩ = some (.int .i64 s) ∧ W.cell? ⟨H1, 2, none⟩ = some (.int .i64 x) ∧ W.cell? ⟨H1, 3, none⟩ = some (.int .i64 lg) ∧ W.cell? ⟨H1, 4, none⟩ = some (.slice B m d) ∧ W.cell? ⟨H, 0, none⟩ = some (.int .i64 lg) ∧ W.cell? ⟨H, 1, none⟩ = some (.slice B m d)) := by
    intro W hW
    have b1 := b4.fresh hW
    have b2 := c4.fresh hW
    exact ⟨hW, by simpa using b2.cell 0, by simpa using b2.cell 1, by simpa using b2.cell 2, by simpa using b2.cell 3, by simpa using b2.cell 4, by simpa using b1.cell 0, by simpa using b1.cell 1⟩
  have HSS := hide hS4
  have hix : ∀ W, (Instr.index 66 (.agg #[.func (.func 46) #[] #[], .func (.func 48) #[] #[], .func (.func 50) #[] #[], .func (.func 51) #[] #[], .func (.func 52) #[] #[], .func (.func 54) #[] #[], .func (.func 56) #[] #[], .func (.func 57) #[] #[]]) (.int .i64 0)).run Try.prog W = .ok (.agg #[.func (.func 46) #[] #[], .func (.func 48) #[] #[]]) W := fun _ => by kernel_rfl
  have hfl : ∀ W, (Instr.field 65 (.agg #[.func (.func 46) #[] #[], .func (.func 48) #[] #[]]) 1).run Try.prog W = .ok (.func (.func 48) #[] #[]) W := fun _ => by kernel_rfl
  clear f4 b4 c4 hS4 q0 q1 q2 q3 q4 u0 u1
  go_wp2_with fail
  go_region_held3 (fun W => Fresh w4 W ∧ W.cell? ⟨H1, 0, none⟩ = some (.int .i64 p) ∧ W.cell? ⟨H1, 1, none⟩ = some (.int .i64 s) ∧ W.cell? ⟨H1, 2, none⟩ = some (.int .i64 x) ∧ W.cell? ⟨H1, 3, none⟩ = some (.int .i64 lg) ∧ W.cell? ⟨H1, 4, none⟩ = some (.slice B m d) ∧ W.cell? ⟨H, 0, none⟩ = some (.int .i64 lg) ∧ W.cell? ⟨H, 1, none⟩ = some (.slice B m d))
    (first | exact HSS.out _ (by assumption) | exact HSS.out _ (And.left (by assumption)) | exact HSS.out _ (Upd.refl _ _) | exact HSS.out _ (Upd.refl _ _).drew)
    (first
      | (go_at_call 27; refine (HWY.out _).mono ?_; rintro e w' ⟨rfl, f2x⟩; have f3x : Fresh w4 w' := Upd.trans' (And.left (by assumption)) f2x)
      | (go_at_call 48; refine (HWK.out _ (F4.out.trans' (And.left (by assumption)))).mono ?_; rintro e w' ⟨v, rfl, nb⟩; have f3x : Fresh w4 w' := Upd.trans' (And.left (by assumption)) nb.2.1; have NB := hide (NewBytes.lift (F4.out.trans' (And.left (by assumption))) nb)))
  all_goals go_wp2_with fail
  all_goals try go_ret2
  all_goals exact hR.out _ _ ⟨_, rfl, NB.out⟩

set_option maxRecDepth 100000 in
set_option maxHeartbeats 2000000 in
theorem menc_ok1 (F : Nat → Prop) (B : Option Addr) (m d : Nat) (p lg : Int) (N : List Int) (w : World) (hs : Rd w F B m (ints N)) (hfit : Fit N) (hm : (m : Int) ≤ 1099511627776) (hp : 0 ≤ p ∧ p ≤ 2) (hv : Valid lg N (partS p) (partX p)) :
    Calls Try.prog 11 #[.int .i64 1, .int .i64 p, .agg #[.int .i64 lg, .slice B m d]] w fun e w' => ∃ v, e = .returned (.tuple #[v, .int .i64 (encM 1 p lg N).1]) ∧ NewBytes w w' v (encM 1 p lg N).2 := by
  obtain ⟨w0, hw0⟩ : ∃ w0, w0 = w.alloc (.cells #[.int .i64 lg, .slice B m d] 26) := ⟨_, rfl⟩
  obtain ⟨H, hH⟩ : ∃ H, H = w.heap.size := ⟨_, rfl⟩
  have f0 : Fresh w w0 := by rw [hw0]; exact (Upd.refl _ _).alloc _
  have bt : Blk w0 H 26 #[.int .i64 lg, .slice B m d] := by rw [hw0]; exact blk_new hH _ _
  have HM := hide (mof_any p lg B m d w0 hp)
  have BT := hide bt
  have F0 := hide f0
  have HW := hide hw0
  have HH := hide hH
  have HWY := hide (ways_raw)
  have HMY := hide (fun W (h : Fresh w W) => (pmay_any F B B m m d d p (partS p) (partX p) lg lg N W (hs.fresh h) hfit hm).mono fun e w' q => (⟨by rw [q.1, if_pos hv], q.2⟩ : e = .returned (.int .i64 0) ∧ Fresh W w'))
  have HWK := hide (fun W (h : Fresh w W) => wayM1 F B B m m d d p (partS p) (partX p) lg lg N W (hs.fresh h) hfit hm hp hv)
  generalize encM 1 p lg N = en at *
  have t0 := bt.cell 0
  have t1 := bt.cell 1
  simp at t0 t1
  clear bt f0 hw0 hH hp hs hfit hm hv
  generalize hps : partS p = s at *
  generalize hpx : partX p = x at *
  refine veil fun R hR => ?_
  go_enter Try.func11, Try.ntmps11
  go_wp2_with fail
  simp only [← HH.out, ← HW.out]
  go_wp2_with fail
  refine HM.out.mono ?_
  rintro e w1 ⟨rfl, f1⟩
  obtain ⟨w2, hw2⟩ : ∃ w2, w2 = w1.alloc (.cells #[.int .i64 p, .int .i64 s, .int .i64 x, .int .i64 lg, .slice B m d] 59) := ⟨_, rfl⟩
  obtain ⟨H1, hH1⟩ : ∃ H1, H1 = w1.heap.size := ⟨_, rfl⟩
  have f12 : Fresh w1 w2 := by rw [hw2]; exact (Upd.refl _ _).alloc _
  have b2 := BT.out.fresh (f1.trans' f12)
  have c2 : Blk w2 H1 59 #[.int .i64 p, .int .i64 s, .int .i64 x, .int .i64 lg, .slice B m d] := by rw [hw2]; exact blk_new hH1 _ _
  have B2 := hide b2
  have C2 := hide c2
  have F2 := hide ((F0.out.trans' f1).trans' f12)
  have HW2 := hide hw2
  have HH1 := hide hH1
  clear f1 f12 b2 c2 hw2 hH1
  go_wp2_with fail
  simp only [← HW2.out]
  refine (HWY.out _).mono ?_
  rintro e w3 ⟨rfl, f3⟩
  have b3 := B2.out.fresh f3
  have c3 := C2.out.fresh f3
  have q0 := c3.cell 0
  have q1 := c3.cell 1
  have q2 := c3.cell 2
  have q3 := c3.cell 3
  have q4 := c3.cell 4
  have u0 := b3.cell 0
  have u1 := b3.cell 1
  simp at q0 q1 q2 q3 q4 u0 u1
  have B3 := hide b3
  have C3 := hide c3
  have F3 := hide (F2.out.trans' f3)
  clear f3 b3 c3
  simp only [← HH1.out]
  go_wp2_with fail
  refine (HMY.out _ F3.out).mono ?_
  rintro e w4 ⟨rfl, f4⟩
  have b4 := B3.out.fresh f4
  have c4 := C3.out.fresh f4
  have F4 := hide (F3.out.trans' f4)
  have hS4 : ∀ W, Fresh w4 W → (Fresh w4 W ∧ W.cell? ⟨H1, 0, none⟩ = some (.int .i64 p) ∧ W.cell? ⟨H1, 1, none⟩ = some (.int .i64 s) ∧ W.cell? ⟨H1, 2, none⟩ = some (.int .i64 x) ∧ W.cell? ⟨H1, 3, none⟩ = some (.int .i64 lg) ∧ W.cell? ⟨H1, 4, none⟩ = some (.slice B m d) ∧ W.cell? ⟨H, 0, none⟩ = some (.int .i64 lg) ∧ W.cell? ⟨H, 1, none⟩ = some (.slice B m d)) := by
    intro W hW
    have b1 := b4.fresh hW
    have b2 := c4.fresh hW
    exact ⟨hW, by simpa using b2.cell 0, by simpa using b2.cell 1, by simpa using b2.cell 2, by simpa using b2.cell 3, by simpa using b2.cell 4, by simpa using b1.cell 0, by simpa using b1.cell 1⟩
  have HSS := hide hS4
  have hix : ∀ W, (Instr.index 66 (.agg #[.func (.func 46) #[] #[], .func (.func 48) #[] #[], .func (.func 50) #[] #[], .func (.func 51) #[] #[], .func (.func 52) #[] #[], .func (.func 54) #[] #[], .func (.func 56) #[] #[], .func (.func 57) #[] #[]]) (.int .i64 1)).run Try.prog W = .ok (.agg #[.func (.func 50) #[] #[], .func (.func 51) #[] #[]]) W := fun _ => by kernel_rfl
  have hfl : ∀ W, (Instr.field 65 (.agg #[.func (.func 50) #[] #[], .func (.func 51) #[] #[]]) 1).run Try.prog W = .ok (.func (.func 51) #[] #[]) W := fun _ => by kernel_rfl
  clear f4 b4 c4 hS4 q0 q1 q2 q3 q4 u0 u1
  go_wp2_with fail
  go_region_held3 (fun W => Fresh w4 W ∧ W.cell? ⟨H1, 0, none⟩ = some (.int .i64 p) ∧ W.cell? ⟨H1, 1, none⟩ = some (.int .i64 s) ∧ W.cell? ⟨H1, 2, none⟩ = some (.int .i64 x) ∧ W.cell? ⟨H1, 3, none⟩ = some (.int .i64 lg) ∧ W.cell? ⟨H1, 4, none⟩ = some (.slice B m d) ∧ W.cell? ⟨H, 0, none⟩ = some (.int .i64 lg) ∧ W.cell? ⟨H, 1, none⟩ = some (.slice B m d))
    (first | exact HSS.out _ (by assumption) | exact HSS.out _ (And.left (by assumption)) | exact HSS.out _ (Upd.refl _ _) | exact HSS.out _ (Upd.refl _ _).drew)
    (first
      | (go_at_call 27; refine (HWY.out _).mono ?_; rintro e w' ⟨rfl, f2x⟩; have f3x : Fresh w4 w' := Upd.trans' (And.left (by assumption)) f2x)
      | (go_at_call 51; refine (HWK.out _ (F4.out.trans' (And.left (by assumption)))).mono ?_; rintro e w' ⟨v, rfl, nb⟩; have f3x : Fresh w4 w' := Upd.trans' (And.left (by assumption)) nb.2.1; have NB := hide (NewBytes.lift (F4.out.trans' (And.left (by assumption))) nb)))
  all_goals go_wp2_with fail
  all_goals try go_ret2
  all_goals exact hR.out _ _ ⟨_, rfl, NB.out⟩

set_option maxRecDepth 100000 in
set_option maxHeartbeats 2000000 in
theorem menc_ok2 (F : Nat → Prop) (B : Option Addr) (m d : Nat) (p lg : Int) (N : List Int) (w : World) (hs : Rd w F B m (ints N)) (hfit : Fit N) (hm : (m : Int) ≤ 1099511627776) (hp : 0 ≤ p ∧ p ≤ 2) (hv : Valid lg N (partS p) (partX p)) :
    Calls Try.prog 11 #[.int .i64 2, .int .i64 p, .agg #[.int .i64 lg, .slice B m d]] w fun e w' => ∃ v, e = .returned (.tuple #[v, .int .i64 (encM 2 p lg N).1]) ∧ NewBytes w w' v (encM 2 p lg N).2 := by
  obtain ⟨w0, hw0⟩ : ∃ w0, w0 = w.alloc (.cells #[.int .i64 lg, .slice B m d] 26) := ⟨_, rfl⟩
  obtain ⟨H, hH⟩ : ∃ H, H = w.heap.size := ⟨_, rfl⟩
  have f0 : Fresh w w0 := by rw [hw0]; exact (Upd.refl _ _).alloc _
  have bt : Blk w0 H 26 #[.int .i64 lg, .slice B m d] := by rw [hw0]; exact blk_new hH _ _
  have HM := hide (mof_any p lg B m d w0 hp)
  have BT := hide bt
  have F0 := hide f0
  have HW := hide hw0
  have HH := hide hH
  have HWY := hide (ways_raw)
  have HMY := hide (fun W (h : Fresh w W) => (pmay_any F B B m m d d p (partS p) (partX p) lg lg N W (hs.fresh h) hfit hm).mono fun e w' q => (⟨by rw [q.1, if_pos hv], q.2⟩ : e = .returned (.int .i64 0) ∧ Fresh W w'))
  have HWK := hide (fun W (h : Fresh w W) => wayM2 F B B m m d d p (partS p) (partX p) lg lg N W (hs.fresh h) hfit hm hp hv)
  generalize encM 2 p lg N = en at *
  have t0 := bt.cell 0
  have t1 := bt.cell 1
  simp at t0 t1
  clear bt f0 hw0 hH hp hs hfit hm hv
  generalize hps : partS p = s at *
  generalize hpx : partX p = x at *
  refine veil fun R hR => ?_
  go_enter Try.func11, Try.ntmps11
  go_wp2_with fail
  simp only [← HH.out, ← HW.out]
  go_wp2_with fail
  refine HM.out.mono ?_
  rintro e w1 ⟨rfl, f1⟩
  obtain ⟨w2, hw2⟩ : ∃ w2, w2 = w1.alloc (.cells #[.int .i64 p, .int .i64 s, .int .i64 x, .int .i64 lg, .slice B m d] 59) := ⟨_, rfl⟩
  obtain ⟨H1, hH1⟩ : ∃ H1, H1 = w1.heap.size := ⟨_, rfl⟩
  have f12 : Fresh w1 w2 := by rw [hw2]; exact (Upd.refl _ _).alloc _
  have b2 := BT.out.fresh (f1.trans' f12)
  have c2 : Blk w2 H1 59 #[.int .i64 p, .int .i64 s, .int .i64 x, .int .i64 lg, .slice B m d] := by rw [hw2]; exact blk_new hH1 _ _
  have B2 := hide b2
  have C2 := hide c2
  have F2 := hide ((F0.out.trans' f1).trans' f12)
  have HW2 := hide hw2
  have HH1 := hide hH1
  clear f1 f12 b2 c2 hw2 hH1
  go_wp2_with fail
  simp only [← HW2.out]
  refine (HWY.out _).mono ?_
  rintro e w3 ⟨rfl, f3⟩
  have b3 := B2.out.fresh f3
  have c3 := C2.out.fresh f3
  have q0 := c3.cell 0
  have q1 := c3.cell 1
  have q2 := c3.cell 2
  have q3 := c3.cell 3
  have q4 := c3.cell 4
  have u0 := b3.cell 0
  have u1 := b3.cell 1
  simp at q0 q1 q2 q3 q4 u0 u1
  have B3 := hide b3
  have C3 := hide c3
  have F3 := hide (F2.out.trans' f3)
  clear f3 b3 c3
  simp only [← HH1.out]
  go_wp2_with fail
  refine (HMY.out _ F3.out).mono ?_
  rintro e w4 ⟨rfl, f4⟩
  have b4 := B3.out.fresh f4
  have c4 := C3.out.fresh f4
  have F4 := hide (F3.out.trans' f4)
  have hS4 : ∀ W, Fresh w4 W → (Fresh w4 W ∧ W.cell? ⟨H1, 0, none⟩ = some (.int .i64 p) ∧ W.cell? ⟨H1, 1, none⟩ = some (.int .i64 s) ∧ W.cell? ⟨H1, 2, none⟩ = some (.int .i64 x) ∧ W.cell? ⟨H1, 3, none⟩ = some (.int .i64 lg) ∧ W.cell? ⟨H1, 4, none⟩ = some (.slice B m d) ∧ W.cell? ⟨H, 0, none⟩ = some (.int .i64 lg) ∧ W.cell? ⟨H, 1, none⟩ = some (.slice B m d)) := by
    intro W hW
    have b1 := b4.fresh hW
    have b2 := c4.fresh hW
    exact ⟨hW, by simpa using b2.cell 0, by simpa using b2.cell 1, by simpa using b2.cell 2, by simpa using b2.cell 3, by simpa using b2.cell 4, by simpa using b1.cell 0, by simpa using b1.cell 1⟩
  have HSS := hide hS4
  have hix : ∀ W, (Instr.index 66 (.agg #[.func (.func 46) #[] #[], .func (.func 48) #[] #[], .func (.func 50) #[] #[], .func (.func 51) #[] #[], .func (.func 52) #[] #[], .func (.func 54) #[] #[], .func (.func 56) #[] #[], .func (.func 57) #[] #[]]) (.int .i64 2)).run Try.prog W = .ok (.agg #[.func (.func 52) #[] #[], .func (.func 54) #[] #[]]) W := fun _ => by kernel_rfl
  have hfl : ∀ W, (Instr.field 65 (.agg #[.func (.func 52) #[] #[], .func (.func 54) #[] #[]]) 1).run Try.prog W = .ok (.func (.func 54) #[] #[]) W := fun _ => by kernel_rfl
  clear f4 b4 c4 hS4 q0 q1 q2 q3 q4 u0 u1
  go_wp2_with fail
  go_region_held3 (fun W => Fresh w4 W ∧ W.cell? ⟨H1, 0, none⟩ = some (.int .i64 p) ∧ W.cell? ⟨H1, 1, none⟩ = some (.int .i64 s) ∧ W.cell? ⟨H1, 2, none⟩ = some (.int .i64 x) ∧ W.cell? ⟨H1, 3, none⟩ = some (.int .i64 lg) ∧ W.cell? ⟨H1, 4, none⟩ = some (.slice B m d) ∧ W.cell? ⟨H, 0, none⟩ = some (.int .i64 lg) ∧ W.cell? ⟨H, 1, none⟩ = some (.slice B m d))
    (first | exact HSS.out _ (by assumption) | exact HSS.out _ (And.left (by assumption)) | exact HSS.out _ (Upd.refl _ _) | exact HSS.out _ (Upd.refl _ _).drew)
    (first
      | (go_at_call 27; refine (HWY.out _).mono ?_; rintro e w' ⟨rfl, f2x⟩; have f3x : Fresh w4 w' := Upd.trans' (And.left (by assumption)) f2x)
      | (go_at_call 54; refine (HWK.out _ (F4.out.trans' (And.left (by assumption)))).mono ?_; rintro e w' ⟨v, rfl, nb⟩; have f3x : Fresh w4 w' := Upd.trans' (And.left (by assumption)) nb.2.1; have NB := hide (NewBytes.lift (F4.out.trans' (And.left (by assumption))) nb)))
  all_goals go_wp2_with fail
  all_goals try go_ret2
  all_goals exact hR.out _ _ ⟨_, rfl, NB.out⟩

set_option maxRecDepth 100000 in
set_option maxHeartbeats 2000000 in
theorem menc_ok3 (F : Nat → Prop) (B : Option Addr) (m d : Nat) (p lg : Int) (N : List Int) (w : World) (hs : Rd w F B m (ints N)) (hfit : Fit N) (hm : (m : Int) ≤ 1099511627776) (hp : 0 ≤ p ∧ p ≤ 2) (hv : Valid lg N (partS p) (partX p)) :
    Calls Try.prog 11 #[.int .i64 3, .int .i64 p, .agg #[.int .i64 lg, .slice B m d]] w fun e w' => ∃ v, e = .returned (.tuple #[v, .int .i64 (encM 3 p lg N).1]) ∧ NewBytes w w' v (encM 3 p lg N).2 := by
  obtain ⟨w0, hw0⟩ : ∃ w0, w0 = w.alloc (.cells #[.int .i64 lg, .slice B m d] 26) := ⟨_, rfl⟩
  obtain ⟨H, hH⟩ : ∃ H, H = w.heap.size := ⟨_, rfl⟩
  have f0 : Fresh w w0 := by rw [hw0]; exact (Upd.refl _ _).alloc _
  have bt : Blk w0 H 26 #[.int .i64 lg, .slice B m d] := by rw [hw0]; exact blk_new hH _ _
  have HM := hide (mof_any p lg B m d w0 hp)
  have BT := hide bt
  have F0 := hide f0
  have HW := hide hw0
  have HH := hide hH
  have HWY := hide (ways_raw)
  have HMY := hide (fun W (h : Fresh w W) => (pmay_any F B B m m d d p (partS p) (partX p) lg lg N W (hs.fresh h) hfit hm).mono fun e w' q => (⟨by rw [q.1, if_pos hv], q.2⟩ : e = .returned (.int .i64 0) ∧ Fresh W w'))
  have HWK := hide (fun W (h : Fresh w W) => wayM3 F B B m m d d p (partS p) (partX p) lg lg N W (hs.fresh h) hfit hm hp hv)
  generalize encM 3 p lg N = en at *
  have t0 := bt.cell 0
  have t1 := bt.cell 1
  simp at t0 t1
  clear bt f0 hw0 hH hp hs hfit hm hv
  generalize hps : partS p = s at *
  generalize hpx : partX p = x at *
  refine veil fun R hR => ?_
  go_enter Try.func11, Try.ntmps11
  go_wp2_with fail
  simp only [← HH.out, ← HW.out]
  go_wp2_with fail
  refine HM.out.mono ?_
  rintro e w1 ⟨rfl, f1⟩
  obtain ⟨w2, hw2⟩ : ∃ w2, w2 = w1.alloc (.cells #[.int .i64 p, .int .i64 s, .int .i64 x, .int .i64 lg, .slice B m d] 59) := ⟨_, rfl⟩
  obtain ⟨H1, hH1⟩ : ∃ H1, H1 = w1.heap.size := ⟨_, rfl⟩
  have f12 : Fresh w1 w2 := by rw [hw2]; exact (Upd.refl _ _).alloc _
  have b2 := BT.out.fresh (f1.trans' f12)
  have c2 : Blk w2 H1 59 #[.int .i64 p, .int .i64 s, .int .i64 x, .int .i64 lg, .slice B m d] := by rw [hw2]; exact blk_new hH1 _ _
  have B2 := hide b2
  have C2 := hide c2
  have F2 := hide ((F0.out.trans' f1).trans' f12)
  have HW2 := hide hw2
  have HH1 := hide hH1
  clear f1 f12 b2 c2 hw2 hH1
  go_wp2_with fail
  simp only [← HW2.out]
  refine (HWY.out _).mono ?_
  rintro e w3 ⟨rfl, f3⟩
  have b3 := B2.out.fresh f3
  have c3 := C2.out.fresh f3
  have q0 := c3.cell 0
  have q1 := c3.cell 1
  have q2 := c3.cell 2
  have q3 := c3.cell 3
  have q4 := c3.cell 4
  have u0 := b3.cell 0
  have u1 := b3.cell 1
  simp at q0 q1 q2 q3 q4 u0 u1
  have B3 := hide b3
  have C3 := hide c3
  have F3 := hide (F2.out.trans' f3)
  clear f3 b3 c3
  simp only [← HH1.out]
  go_wp2_with fail
  refine (HMY.out _ F3.out).mono ?_
  rintro e w4 ⟨rfl, f4⟩
  have b4 := B3.out.fresh f4
  have c4 := C3.out.fresh f4
  have F4 := hide (F3.out.trans' f4)
  have hS4 : ∀ W, Fresh w4 W → (Fresh w4 W ∧ W.cell? ⟨H1, 0, none⟩ = some (.int .i64 p) ∧ W.cell? ⟨H1, 1, none⟩ = some (.int .i64 s) ∧ W.cell? ⟨H1, 2, none⟩ = some (.int .i64 x) ∧ W.cell? ⟨H1, 3, none⟩ = some (.int .i64 lg) ∧ W.cell? ⟨H1, 4, none⟩ = some (.slice B m d) ∧ W.cell? ⟨H, 0, none⟩ = some (.int .i64 lg) ∧ W.cell? ⟨H, 1, none⟩ = some (.slice B m d)) := by
    intro W hW
    have b1 := b4.fresh hW
    have b2 := c4.fresh hW
    exact ⟨hW, by simpa using b2.cell 0, by simpa using b2.cell 1, by simpa using b2.cell 2, by simpa using b2.cell 3, by simpa using b2.cell 4, by simpa using b1.cell 0, by simpa using b1.cell 1⟩
  have HSS := hide hS4
  have hix : ∀ W, (Instr.index 66 (.agg #[.func (.func 46) #[] #[], .func (.func 48) #[] #[], .func (.func 50) #[] #[], .func (.func 51) #[] #[], .func (.func 52) #[] #[], .func (.func 54) #[] #[], .func (.func 56) #[] #[], .func (.func 57) #[] #[]]) (.int .i64 3)).run Try.prog W = .ok (.agg #[.func (.func 56) #[] #[], .func (.func 57) #[] #[]]) W := fun _ => by kernel_rfl
  have hfl : ∀ W, (Instr.field 65 (.agg #[.func (.func 56) #[] #[], .func (.func 57) #[] #[]]) 1).run Try.prog W = .ok (.func (.func 57) #[] #[]) W := fun _ => by kernel_rfl
  clear f4 b4 c4 hS4 q0 q1 q2 q3 q4 u0 u1
  go_wp2_with fail
  go_region_held3 (fun W => Fresh w4 W ∧ W.cell? ⟨H1, 0, none⟩ = some (.int .i64 p) ∧ W.cell? ⟨H1, 1, none⟩ = some (.int .i64 s) ∧ W.cell? ⟨H1, 2, none⟩ = some (.int .i64 x) ∧ W.cell? ⟨H1, 3, none⟩ = some (.int .i64 lg) ∧ W.cell? ⟨H1, 4, none⟩ = some (.slice B m d) ∧ W.cell? ⟨H, 0, none⟩ = some (.int .i64 lg) ∧ W.cell? ⟨H, 1, none⟩ = some (.slice B m d))
    (first | exact HSS.out _ (by assumption) | exact HSS.out _ (And.left (by assumption)) | exact HSS.out _ (Upd.refl _ _) | exact HSS.out _ (Upd.refl _ _).drew)
    (first
      | (go_at_call 27; refine (HWY.out _).mono ?_; rintro e w' ⟨rfl, f2x⟩; have f3x : Fresh w4 w' := Upd.trans' (And.left (by assumption)) f2x)
      | (go_at_call 57; refine (HWK.out _ (F4.out.trans' (And.left (by assumption)))).mono ?_; rintro e w' ⟨v, rfl, nb⟩; have f3x : Fresh w4 w' := Upd.trans' (And.left (by assumption)) nb.2.1; have NB := hide (NewBytes.lift (F4.out.trans' (And.left (by assumption))) nb)))
  all_goals go_wp2_with fail
  all_goals try go_ret2
  all_goals exact hR.out _ _ ⟨_, rfl, NB.out⟩


end Go.Proofs.Ytcdbfddoanigbaa

/-
  Package modes: Encode, one contract.
  Conditions: none beyond those of each theorem.
-/
namespace Go.Proofs.Ytcdbfddoanigbaa
open Go.RowKit
set_option linter.unusedVariables false
set_option linter.unusedSimpArgs false

theorem menc_any (F : Nat → Prop) (B : Option Addr) (m d : Nat) (mo p lg : Int) (N : List Int) (w : World) (hs : Rd w F B m (ints N)) (hfit : Fit N) (hm : (m : Int) ≤ 1099511627776) :
    Calls Try.prog 11 #[.int .i64 mo, .int .i64 p, .agg #[.int .i64 lg, .slice B m d]] w fun e w' => ∃ v, e = .returned (.tuple #[v, .int .i64 (encN mo p lg N).1]) ∧ NewBytes w w' v (encN mo p lg N).2 := by
  by_cases hp : p < 0 ∨ 2 < p
  · have h : encN mo p lg N = (2, []) := if_pos (by omega)
    rw [h]
    exact (menc_part B m d mo p lg w hp).mono fun e w' h => ⟨_, h.1, NewBytes.none h.2⟩
  have hp' : 0 ≤ p ∧ p ≤ 2 := by omega
  by_cases h0 : mo < 0
  · have h : encN mo p lg N = (2, []) := if_pos (by omega)
    rw [h]
    exact (menc_neg B m d mo p lg w hp' h0).mono fun e w' h => ⟨_, h.1, NewBytes.none h.2⟩
  by_cases h3 : 3 < mo
  · have h : encN mo p lg N = (2, []) := if_pos (by omega)
    rw [h]
    exact (menc_big B m d mo p lg w hp' h3).mono fun e w' h => ⟨_, h.1, NewBytes.none h.2⟩
  have hn : ¬ (p < 0 ∨ 2 < p ∨ mo < 0 ∨ 3 < mo) := by omega
  by_cases hv : Valid lg N (partS p) (partX p)
  · have h : encN mo p lg N = encM mo p lg N := by rw [encN, if_neg hn, if_pos hv]
    rw [h]
    have : mo = 0 ∨ mo = 1 ∨ mo = 2 ∨ mo = 3 := by omega
    rcases this with rfl | rfl | rfl | rfl
    · exact menc_ok0 F B m d p lg N w hs hfit hm hp' hv
    · exact menc_ok1 F B m d p lg N w hs hfit hm hp' hv
    · exact menc_ok2 F B m d p lg N w hs hfit hm hp' hv
    · exact menc_ok3 F B m d p lg N w hs hfit hm hp' hv
  · have h : encN mo p lg N = (13, []) := by rw [encN, if_neg hn, if_neg hv]
    rw [h]
    exact (menc_inv F B m d mo p lg N w hs hfit hm hp' (by omega) (by omega) hv).mono fun e w' h => ⟨_, h.1, NewBytes.none h.2⟩

end Go.Proofs.Ytcdbfddoanigbaa

/-
  The reference's price of a table.
  Conditions: none beyond those of each theorem.
-/
namespace Go.Proofs.Ytcdbfddoanigbaa
open Go.RowKit
set_option linter.unusedVariables false
set_option linter.unusedSimpArgs false

theorem bitLen_spec {m : Nat} (h : m < 2 ^ 64) (h0 : m ≠ 0) : 1 ≤ Lib.bitLen m ∧ 2 ^ (Lib.bitLen m - 1) ≤ m ∧ m < 2 ^ Lib.bitLen m := by
  have := Lib.bitLenAux_bounds 64 m h h0
  unfold Lib.bitLen
  exact this
theorem bitLen_half {m : Nat} (h : m < 2 ^ 64) (h1 : 2 ≤ m) : Lib.bitLen (m / 2) + 1 = Lib.bitLen m := by
  obtain ⟨a1, a2, a3⟩ := bitLen_spec h (by omega)
  obtain ⟨b1, b2, b3⟩ := bitLen_spec (m := m / 2) (by omega) (by omega)
  generalize Lib.bitLen m = x at *
  generalize Lib.bitLen (m / 2) = y at *
  have e1 : 2 ^ y = 2 * 2 ^ (y - 1) := by rw [← Nat.pow_succ']; congr 1; omega
  have e2 : 2 ^ x = 2 * 2 ^ (x - 1) := by rw [← Nat.pow_succ']; congr 1; omega
  have h3 : x - 1 < y + 1 := (Nat.pow_lt_pow_iff_right (a := 2) (by omega)).1 (by rw [Nat.pow_succ]; omega)
  have h4 : y < x := by
    have : 2 ^ (y - 1) < 2 ^ (x - 1) := by omega
    have := (Nat.pow_lt_pow_iff_right (a := 2) (by omega)).1 this
    omega
  omega
theorem bitLen_one : Lib.bitLen 1 = 1 := by decide

set_option maxRecDepth 100000 in
set_option maxHeartbeats 4000000 in
theorem rprice_any (F G : Nat → Prop) (A B : Option Addr) (n c m d : Nat) (lg : Int) (N C : List Int) (w : World) (hs : Rd w G B m (ints N)) (hfit : Fit N) (hr : Rd w F A n (ints C)) (hn : (n : Int) ≤ 1099511627776)
    (hv : Valid lg N 256 9) (hok : CtOk C) :
    Calls Try.prog 16 #[.agg #[.int .i64 lg, .slice B m d], .slice A n c] w fun e w' =>
      (∃ a, e = .returned (.int .i64 a) ∧ (costGo lg N 0 C 0 = some a ∨ (costGo lg N 0 C 0 = none ∧ a = -1))) ∧ Fresh w w' := by
  obtain ⟨w0, hw0⟩ : ∃ w0, w0 = w.alloc (.cells #[.int .i64 lg, .slice B m d] 26) := ⟨_, rfl⟩
  obtain ⟨H, hH⟩ : ∃ H, H = w.heap.size := ⟨_, rfl⟩
  have f0 : Fresh w w0 := by rw [hw0]; exact (Upd.refl _ _).alloc _
  have bt : Blk w0 H 26 #[.int .i64 lg, .slice B m d] := by rw [hw0]; exact blk_new hH _ _
  have hNl : N.length = m := by have := hs.1; simpa using this
  have hCl : C.length = n := by have := hr.1; simpa using this
  obtain ⟨hl0, -, hl9, hm0, hm256, -, h1N, -⟩ := hv
  have H1N := hide h1N
  clear h1N
  have hm2 : m ≤ 256 := by omega
  have t0 := bt.cell 0
  have t1 := bt.cell 1
  simp at t0 t1
  have F0 := hide f0
  have HW := hide hw0
  have HH := hide hH
  have BT := hide bt
  have HR := hide (hr.fresh f0)
  have HS := hide (hs.fresh f0)
  have HOK := hide hok
  have HNL := hide hNl
  have HCL := hide hCl
  have HFN := hide hfit
  clear f0 hw0 hH bt hs hfit hr hok hNl hCl hm0 hm256
  refine veil fun R hR => ?_
  go_enter Try.func16, Try.ntmps16
  go_upto_region 1 with fail
  simp only [← HH.out, ← HW.out]
  go_wp2_with fail
  go_loopg [5, 6] n (fun f s i wr => wr = w0 ∧ ∃ (k : Nat) (a : Int), k + f = n ∧ i = .int .i64 k ∧ s = .int .i64 a ∧ costGo lg N 0 C 0 = costGo lg N k (C.drop k) a ∧ -(100 * (C.take k).sum) ≤ a ∧ a ≤ 100 * (C.take k).sum)
  case atStart => exact ⟨rfl, 0, 0, by omega, rfl, rfl, by simp, by simp, by simp⟩
  case round =>
    obtain ⟨rfl, k, a, hk, rfl, rfl, hgo, ha1, ha2⟩ := hrel
    have hs1 := sum_take_le HOK.out.1 k
    have hs2 := HOK.out.2
    have hs3 := sum_nonneg (HOK.out.take k).1
    have HK := hide hk
    have HGO := hide hgo
    clear hk hgo
    by_cases hlt : k < n
    · have hkc : k < C.length := by have := HCL.out; omega
      have hst := costGo_step (lg := lg) (N := N) (a := a) hkc
      have hgt := List.take_succ_eq_append_getElem hkc
      have hmem := HOK.out.le (List.getElem_mem hkc)
      obtain ⟨b, o, _, rfl, _, hc⟩ := HR.out.int (k := k) hlt
      have hts := sum_take_le HOK.out.1 (k + 1)
      obtain ⟨z, hz⟩ : ∃ z, z = C[k] := ⟨_, rfl⟩
      rw [← hz] at hst hgt hc hmem
      have hsz : (C.take (k + 1)).sum = (C.take k).sum + z := by rw [hgt, sum_snoc]
      rw [hsz] at hts
      obtain ⟨S, hS⟩ : ∃ S, S = (C.take k).sum := ⟨_, rfl⟩
      rw [← hS] at hs1 hs3 ha1 ha2 hts hsz
      have HSZ := hide hsz
      have HST := hide hst
      obtain ⟨hz0, hz1⟩ := hmem
      generalize C.sum = T at *
      have hw4 : IntKind.i64.wrap ((k : Int) + 1) = k + 1 := IntWalk.i64_in _ (by omega)
      clear hz hgt hst hsz hS
      by_cases hzz : z = 0
      · subst hzz
        go_wp2_with fail
        go_roundg (gk - 1)
        case measure => have := HK.out; omega
        case rel =>
          refine ⟨rfl, k + 1, a, by have := HK.out; omega, by go_num, rfl, ?_, ?_, ?_⟩
          · rw [HGO.out, HST.out, if_pos True.intro]
          · rw [HSZ.out]; omega
          · rw [HSZ.out]; omega
      · have hzz' : (z == 0) = false := by simpa using hzz
        have hst2 := HST.out
        rw [if_neg hzz] at hst2
        by_cases hkm : k < m
        · have hkn : k < N.length := by have := HNL.out; omega
          rw [List.getElem?_eq_getElem hkn] at hst2
          obtain ⟨b', o', _, rfl, _, hc'⟩ := HS.out.int (k := k) hkm
          have hfv := HFN.out N[k] (List.getElem_mem hkn)
          have hv1 := H1N.out N[k] (List.getElem_mem hkn)
          obtain ⟨v, hvv⟩ : ∃ v, v = N[k] := ⟨_, rfl⟩
          rw [← hvv] at hst2 hc' hfv hv1
          simp only at hst2
          have HST2 := hide hst2
          have hkmI : ¬ (m : Int) ≤ k := by omega
          clear hst2 hvv
          obtain ⟨hf1, hf2⟩ := hfv
          by_cases hv0 : v = 0
          · subst hv0
            go_wp2_with fail
            try go_ret
            exact hR.out _ _ ⟨⟨-1, rfl, .inr ⟨by rw [HGO.out, HST2.out]; rfl, rfl⟩⟩, F0.out⟩
          · have hv0' : (v == 0) = false := by simpa using hv0
            rw [if_neg hv0] at HST2
            have hmx : (if v = -1 then 1 else v) = ((max v (-v)).toNat : Int) := by
              by_cases h : v = -1
              · subst h; rfl
              · rw [if_neg h]; omega
            have hsta := states_any v
            rw [hmx] at hsta
            have hq1 : 1 ≤ (max v (-v)).toNat := by omega
            have hq2 : (max v (-v)).toNat < 2 ^ 63 := by omega
            generalize (max v (-v)).toNat = q at *
            have HSTA := hide hsta
            have hbl : Lib.bitLen q ≤ 64 := bitLen_le64 _ (by omega)
            obtain ⟨l, hl⟩ : ∃ l, l = Lib.bitLen q := ⟨_, rfl⟩
            rw [← hl] at hbl HST2
            have HL := hide hl
            clear hsta hmx hl
            go_wp2_with fail
            refine (HSTA.out _).mono ?_
            rintro e w2 ⟨rfl, rfl⟩
            go_wp2_with fail
            obtain ⟨wo, rfl⟩ : ∃ wo : World, wo = wr := ⟨_, rfl⟩
            obtain ⟨ko, hko⟩ : ∃ ko, ko = gk := ⟨_, rfl⟩
            have HKO := hide hko
            clear hko
            go_loopg [7, 8] q (fun f b x wr' => wr' = wo ∧ ∃ (y : Nat) (bb : Int), y ≤ f ∧ 1 ≤ y ∧ y ≤ q ∧ x = .int .i64 y ∧ b = .int .i64 bb ∧ bb - (Lib.bitLen y : Nat) = lg - (l : Nat) ∧ -64 ≤ bb ∧ bb ≤ 9)
            case atStart => exact ⟨rfl, q, lg, by omega, hq1, by omega, rfl, rfl, by rw [HL.out], by omega, by omega⟩
            case round =>
              obtain ⟨rfl, y, bb, hy1, hy2, hy3, rfl, rfl, hbb, hb1, hb2⟩ := hrel
              have hyl : Lib.bitLen y ≤ 64 := bitLen_le64 _ (by omega)
              by_cases h1 : 1 < y
              · have hhf := bitLen_half (m := y) (by omega) (by omega)
                have h1I : 1 < (y : Int) := by omega
                have hw5 : IntKind.i64.wrap (bb - 1) = bb - 1 := IntWalk.i64_in _ (by omega)
                have hlh : 1 ≤ Lib.bitLen (y / 2) := (bitLen_spec (m := y / 2) (by omega) (by omega)).1
                have HBB := hide hbb
                have HHF := hide hhf
                have HLH := hide hlh
                have HY1 := hide hy1
                have hy3I : (y : Int) ≤ 9223372036854775807 := by omega
                clear hbb hhf hyl hlh hy1
                go_wp2_with fail
                go_roundg (gk - 1)
                case measure => have := HY1.out; omega
                case rel =>
                  have e1 := HHF.out
                  have e2 := HBB.out
                  have e3 := HLH.out
                  have e4 := HY1.out
                  exact ⟨rfl, y / 2, bb - 1, by omega, by omega, by omega, by rw [show ((y / 2 : Nat) : Int) = (y : Int) / 2 by omega], rfl, by omega, by omega, by omega⟩
              · obtain rfl : y = 1 := by omega
                rw [bitLen_one] at hbb
                have hbe : bb = lg + 1 - (l : Nat) := by omega
                subst hbe
                have p1 : z * (lg + 1 - (l : Nat)) ≤ z * 100 := Int.mul_le_mul_of_nonneg_left (by omega) hz0
                have p2 : z * (-100) ≤ z * (lg + 1 - (l : Nat)) := Int.mul_le_mul_of_nonneg_left (by omega) hz0
                have s4 : IntKind.i64.wrap (z * (lg + 1 - (l : Nat))) = z * (lg + 1 - (l : Nat)) := IntWalk.i64_in _ (by omega)
                have s5 : IntKind.i64.wrap (a + z * (lg + 1 - (l : Nat))) = a + z * (lg + 1 - (l : Nat)) := IntWalk.i64_in _ (by omega)
                have P1 := hide p1
                have P2 := hide p2
                clear p1 p2 hbb hb1 hb2 hyl hy1 hy2 hy3
                go_wp2_with fail
                go_roundg (ko - 1)
                case measure => have := HK.out; have := HKO.out; omega
                case rel =>
                  refine ⟨rfl, k + 1, _, by have := HK.out; have := HKO.out; omega, by go_num, rfl, ?_, ?_, ?_⟩
                  · rw [HGO.out, HST2.out]
                  · rw [HSZ.out]; have := P2.out; omega
                  · rw [HSZ.out]; have := P1.out; omega
        · have hnn : N[k]? = none := List.getElem?_eq_none (by have := HNL.out; omega)
          rw [hnn] at hst2
          have HST2 := hide hst2
          have hkm2 : (m : Int) ≤ k := by omega
          clear hst2
          go_wp2_with fail
          try go_ret
          exact hR.out _ _ ⟨⟨-1, rfl, .inr ⟨by rw [HGO.out, HST2.out], rfl⟩⟩, F0.out⟩
    · obtain rfl : k = n := by have := HK.out; omega
      have hd : C.drop k = [] := List.drop_eq_nil_of_le (by have := HCL.out; omega)
      have hg := HGO.out
      rw [hd] at hg
      have HG2 := hide hg
      clear hd hg
      go_wp2_with fail
      try go_ret
      exact hR.out _ _ ⟨⟨a, rfl, .inl (by rw [HG2.out]; rfl)⟩, F0.out⟩

end Go.Proofs.Ytcdbfddoanigbaa

/-
  The reference's May and Bytes of a part's tables.
  Conditions: none beyond those of each theorem.
-/
namespace Go.Proofs.Ytcdbfddoanigbaa
open Go.RowKit
set_option linter.unusedVariables false
set_option linter.unusedSimpArgs false

set_option maxRecDepth 100000 in
set_option maxHeartbeats 1000000 in
theorem rmay_any (F : Nat → Prop) (A : Option Addr) (n c : Nat) (lg p : Int) (N : List Int) (w : World) (hr : Rd w F A n (ints N)) (hfit : Fit N) (hn : (n : Int) ≤ 1099511627776) (hp : 0 ≤ p ∧ p ≤ 2) :
    Calls Try.prog 18 #[.agg #[.int .i64 lg, .slice A n c], .int .i64 p] w fun e w' => e = .returned (.bool (decide (Valid lg N (partS p) (partX p)))) ∧ Fresh w w' := by
  obtain ⟨w0, hw0⟩ : ∃ w0, w0 = w.alloc (.cells #[.int .i64 lg, .slice A n c] 26) := ⟨_, rfl⟩
  obtain ⟨H, hH⟩ : ∃ H, H = w.heap.size := ⟨_, rfl⟩
  have f0 : Fresh w w0 := by rw [hw0]; exact (Upd.refl _ _).alloc _
  have bt : Blk w0 H 26 #[.int .i64 lg, .slice A n c] := by rw [hw0]; exact blk_new hH _ _
  have t0 := bt.cell 0
  have t1 := bt.cell 1
  simp at t0 t1
  have HSY := hide (fun W => rsym_any p W hp)
  have HLG := hide (fun W => rlog_any p W hp)
  have HMY := hide (fun W (h : Fresh w0 W) => may07_gen F A n c lg (partS p) (partX p) N W ((hr.fresh f0).fresh h) hfit hn)
  have HBT := hide (fun W (h : Fresh w0 W) => bt.fresh h)
  have HSS := hide (show ∀ W, Fresh w0 W → (Fresh w0 W ∧ W.cell? ⟨H, 0, none⟩ = some (.int .i64 lg) ∧ W.cell? ⟨H, 1, none⟩ = some (.slice A n c)) from fun W h => ⟨h, by simpa using (bt.fresh h).cell 0, by simpa using (bt.fresh h).cell 1⟩)
  have F0 := hide f0
  have HW := hide hw0
  have HH := hide hH
  have HV : ∀ P : Prop, [Decidable P] → Hid (((if P then (0 : Int) else 13) == 0) = decide P) := fun P _ => hide (by by_cases h : P <;> simp [h])
  have HV1 := HV (Valid lg N (partS p) (partX p))
  clear f0 bt hw0 hH hr hp HV
  generalize hvd : decide (Valid lg N (partS p) (partX p)) = vd at *
  generalize (if Valid lg N (partS p) (partX p) then (0 : Int) else 13) = er at *
  generalize partS p = s at *
  generalize partX p = x at *
  clear hvd
  refine veil fun R hR => ?_
  go_enter Try.func18, Try.ntmps18
  go_upto_region 1 with fail
  simp only [← HH.out, ← HW.out]
  go_region_held3 (fun W => Fresh w0 W ∧ W.cell? ⟨H, 0, none⟩ = some (.int .i64 lg) ∧ W.cell? ⟨H, 1, none⟩ = some (.slice A n c))
    (first | exact HSS.out _ (by assumption) | exact HSS.out _ (And.left (by assumption)) | exact HSS.out _ (Upd.refl _ _) | exact HSS.out _ (Upd.refl _ _).drew)
    (first
      | (go_at_call 40; refine (HSY.out _).mono ?_; rintro e w' ⟨rfl, rfl⟩)
      | (go_at_call 41; refine (HLG.out _).mono ?_; rintro e w' ⟨rfl, rfl⟩)
      | (go_at_call 15; refine (HMY.out _ (And.left (by assumption))).mono ?_; rintro e w' ⟨rfl, f2⟩; have f3x : Fresh w0 w' := Upd.trans' (And.left (by assumption)) f2))
  all_goals go_wp2_with fail
  all_goals try go_ret
  all_goals
    rw [HV1.out]
    exact hR.out _ _ ⟨rfl, F0.out.trans' (And.left (by assumption))⟩

set_option maxRecDepth 100000 in
set_option maxHeartbeats 2000000 in
theorem rbytes_no (F : Nat → Prop) (A : Option Addr) (n c : Nat) (m lg p : Int) (N : List Int) (w : World) (hr : Rd w F A n (ints N)) (hfit : Fit N) (hn : (n : Int) ≤ 1099511627776) (hp : 0 ≤ p ∧ p ≤ 2) (hv : ¬ Valid lg N (partS p) (partX p)) :
    Calls Try.prog 12 #[.int .i64 m, .int .i64 p, .agg #[.int .i64 lg, .slice A n c]] w fun e w' => e = .returned (.int .i64 (-1)) ∧ Fresh w w' := by
  obtain ⟨w0, hw0⟩ : ∃ w0, w0 = w.alloc (.cells #[.int .i64 lg, .slice A n c] 26) := ⟨_, rfl⟩
  obtain ⟨H, hH⟩ : ∃ H, H = w.heap.size := ⟨_, rfl⟩
  have f0 : Fresh w w0 := by rw [hw0]; exact (Upd.refl _ _).alloc _
  have bt : Blk w0 H 26 #[.int .i64 lg, .slice A n c] := by rw [hw0]; exact blk_new hH _ _
  have t0 := bt.cell 0
  have t1 := bt.cell 1
  simp at t0 t1
  have HMY := hide (rmay_any F A n c lg p N w0 (hr.fresh f0) hfit hn hp)
  have BT := hide bt
  have F0 := hide f0
  have HW := hide hw0
  have HH := hide hH
  have HR := hide (fun W (h : Fresh w W) => hr.fresh h)
  rw [decide_eq_false hv] at HMY
  clear f0 bt hw0 hH hr hp hv
  refine veil fun R hR => ?_
  go_enter Try.func12, Try.ntmps12
  go_upto_region 1 with fail
  simp only [← HH.out, ← HW.out]
  go_wp2_with fail
  refine HMY.out.mono ?_
  rintro e w1 ⟨rfl, f1⟩
  have F1 := hide (F0.out.trans' f1)
  have b1 := BT.out.fresh f1
  have t0 := b1.cell 0
  have t1 := b1.cell 1
  simp at t0 t1
  have B1 := hide b1
  clear f1 b1
  go_wp2_with fail
  try go_ret
  exact hR.out _ _ ⟨rfl, F1.out⟩

set_option maxRecDepth 100000 in
set_option maxHeartbeats 2000000 in
theorem rbytes_3 (F : Nat → Prop) (A : Option Addr) (n c : Nat) (lg p : Int) (N : List Int) (w : World) (hr : Rd w F A n (ints N)) (hfit : Fit N) (hn : (n : Int) ≤ 1099511627776) (hp : 0 ≤ p ∧ p ≤ 2) (hv : Valid lg N (partS p) (partX p)) :
    Calls Try.prog 12 #[.int .i64 3, .int .i64 p, .agg #[.int .i64 lg, .slice A n c]] w fun e w' => e = .returned (.int .i64 (0)) ∧ Fresh w w' := by
  obtain ⟨w0, hw0⟩ : ∃ w0, w0 = w.alloc (.cells #[.int .i64 lg, .slice A n c] 26) := ⟨_, rfl⟩
  obtain ⟨H, hH⟩ : ∃ H, H = w.heap.size := ⟨_, rfl⟩
  have f0 : Fresh w w0 := by rw [hw0]; exact (Upd.refl _ _).alloc _
  have bt : Blk w0 H 26 #[.int .i64 lg, .slice A n c] := by rw [hw0]; exact blk_new hH _ _
  have t0 := bt.cell 0
  have t1 := bt.cell 1
  simp at t0 t1
  have HMY := hide (rmay_any F A n c lg p N w0 (hr.fresh f0) hfit hn hp)
  have BT := hide bt
  have F0 := hide f0
  have HW := hide hw0
  have HH := hide hH
  have HR := hide (fun W (h : Fresh w W) => hr.fresh h)
  rw [decide_eq_true hv] at HMY
  clear f0 bt hw0 hH hr hp hv
  refine veil fun R hR => ?_
  go_enter Try.func12, Try.ntmps12
  go_upto_region 1 with fail
  simp only [← HH.out, ← HW.out]
  go_wp2_with fail
  refine HMY.out.mono ?_
  rintro e w1 ⟨rfl, f1⟩
  have F1 := hide (F0.out.trans' f1)
  have b1 := BT.out.fresh f1
  have t0 := b1.cell 0
  have t1 := b1.cell 1
  simp at t0 t1
  have B1 := hide b1
  clear f1 b1
  go_wp2_with fail
  try go_ret
  exact hR.out _ _ ⟨rfl, F1.out⟩

set_option maxRecDepth 100000 in
set_option maxHeartbeats 2000000 in
theorem rbytes_2 (F : Nat → Prop) (A : Option Addr) (n c : Nat) (lg p : Int) (N : List Int) (w : World) (hr : Rd w F A n (ints N)) (hfit : Fit N) (hn : (n : Int) ≤ 1099511627776) (hp : 0 ≤ p ∧ p ≤ 2) (hv : Valid lg N (partS p) (partX p)) :
    Calls Try.prog 12 #[.int .i64 2, .int .i64 p, .agg #[.int .i64 lg, .slice A n c]] w fun e w' => e = .returned (.int .i64 (if lg ≠ 0 then ((packB (descBits lg.toNat N)).length : Nat) else -1)) ∧ Fresh w w' := by
  obtain ⟨w0, hw0⟩ : ∃ w0, w0 = w.alloc (.cells #[.int .i64 lg, .slice A n c] 26) := ⟨_, rfl⟩
  obtain ⟨H, hH⟩ : ∃ H, H = w.heap.size := ⟨_, rfl⟩
  have f0 : Fresh w w0 := by rw [hw0]; exact (Upd.refl _ _).alloc _
  have bt : Blk w0 H 26 #[.int .i64 lg, .slice A n c] := by rw [hw0]; exact blk_new hH _ _
  have t0 := bt.cell 0
  have t1 := bt.cell 1
  simp at t0 t1
  have HMY := hide (rmay_any F A n c lg p N w0 (hr.fresh f0) hfit hn hp)
  have BT := hide bt
  have F0 := hide f0
  have HW := hide hw0
  have HH := hide hH
  have HR := hide (fun W (h : Fresh w W) => hr.fresh h)
  rw [decide_eq_true hv] at HMY
  have hv2 := valid_wide hv
  clear f0 bt hw0 hH hr hp
  by_cases h0 : lg ≠ 0
  · rw [if_pos h0]
    obtain ⟨q, rfl⟩ : ∃ q : Nat, lg = q := ⟨lg.toNat, by have := hv.1; omega⟩
    have hq : q ≠ 0 := by omega
    have HBI := hide (fun W (h : Fresh w W) => rbits11_any F A n c q N W (HR.out W h) hv2 hq)
    have hqI : 0 < (q : Int) := by omega
    have hdl := descBits_length q N (by have := hv.2.2.1; omega)
    have hnl : N.length ≤ 256 := by have := hv2.2.2.2.2.1; omega
    rw [packB_length, Int.toNat_natCast]
    have hdl2 : (descBits q N).length ≤ 4000 := by omega
    generalize hD : descBits q N = D at *
    clear hv hv2 hq h0 hD hdl hnl
    refine veil fun R hR => ?_
    go_enter Try.func12, Try.ntmps12
    go_upto_region 1 with fail
    simp only [← HH.out, ← HW.out]
    go_wp2_with fail
    refine HMY.out.mono ?_
    rintro e w1 ⟨rfl, f1⟩
    have F1 := hide (F0.out.trans' f1)
    have b1 := BT.out.fresh f1
    have t0 := b1.cell 0
    have t1 := b1.cell 1
    simp at t0 t1
    have B1 := hide b1
    clear f1 b1
    go_wp2_with fail
    refine (HBI.out _ F1.out).mono ?_
    rintro e w2 ⟨s, rfl, hnb⟩
    obtain ⟨As, ns, cs, rfl, hns⟩ := hnb.1.form'
    have hns2 : ns = D.length := by rw [hns.out]; simp [bools]
    have F2 := hide (F1.out.trans' hnb.2.1)
    clear hnb hns
    subst hns2
    have hd4 : ((D.length : Nat) : Int) ≤ 4000 := by omega
    go_wp2_with fail
    try go_ret
    refine hR.out _ _ ⟨?_, F2.out⟩
    congr 2
  · have h0' : lg = 0 := by omega
    subst h0'
    rw [if_neg h0]
    clear hv hv2 h0
    refine veil fun R hR => ?_
    go_enter Try.func12, Try.ntmps12
    go_upto_region 1 with fail
    simp only [← HH.out, ← HW.out]
    go_wp2_with fail
    refine HMY.out.mono ?_
    rintro e w1 ⟨rfl, f1⟩
    have F1 := hide (F0.out.trans' f1)
    have b1 := BT.out.fresh f1
    have t0 := b1.cell 0
    have t1 := b1.cell 1
    simp at t0 t1
    have B1 := hide b1
    clear f1 b1
    go_wp2_with fail
    try go_ret
    exact hR.out _ _ ⟨rfl, F1.out⟩

set_option maxRecDepth 100000 in
set_option maxHeartbeats 2000000 in
theorem rbytes_1 (F : Nat → Prop) (A : Option Addr) (n c : Nat) (lg p : Int) (N : List Int) (w : World) (hr : Rd w F A n (ints N)) (hfit : Fit N) (hn : (n : Int) ≤ 1099511627776) (hp : 0 ≤ p ∧ p ≤ 2) (hv : Valid lg N (partS p) (partX p)) :
    Calls Try.prog 12 #[.int .i64 1, .int .i64 p, .agg #[.int .i64 lg, .slice A n c]] w fun e w' => e = .returned (.int .i64 (if lg = 0 ∧ N[N.length - 1]? = some 1 then 1 else -1)) ∧ Fresh w w' := by
  obtain ⟨w0, hw0⟩ : ∃ w0, w0 = w.alloc (.cells #[.int .i64 lg, .slice A n c] 26) := ⟨_, rfl⟩
  obtain ⟨H, hH⟩ : ∃ H, H = w.heap.size := ⟨_, rfl⟩
  have f0 : Fresh w w0 := by rw [hw0]; exact (Upd.refl _ _).alloc _
  have bt : Blk w0 H 26 #[.int .i64 lg, .slice A n c] := by rw [hw0]; exact blk_new hH _ _
  have t0 := bt.cell 0
  have t1 := bt.cell 1
  simp at t0 t1
  have HMY := hide (rmay_any F A n c lg p N w0 (hr.fresh f0) hfit hn hp)
  have BT := hide bt
  have F0 := hide f0
  have HW := hide hw0
  have HH := hide hH
  have HR := hide (fun W (h : Fresh w W) => hr.fresh h)
  rw [decide_eq_true hv] at HMY
  have hN : N.length = n := by have := hr.1; simpa using this
  have hn0 : 0 < n := by have := hv.2.2.2.1; omega
  have hv2 := valid_wide hv
  have hn2 : n ≤ 256 := by have := hv2.2.2.2.2.1; omega
  have hn2I : (n : Int) ≤ 256 := by omega
  have hn0I : 0 < (n : Int) := by omega
  obtain ⟨b, o, hk, rfl, hb, hc⟩ := hr.int (k := n - 1) (by omega)
  have HC := hide (fun W (h : Fresh w W) => (h.cells b (o + (n - 1)) hb).trans hc)
  have hg : N[N.length - 1]? = some N[n - 1] := by rw [hN]; exact List.getElem?_eq_getElem hk
  rw [hg]
  clear f0 bt hw0 hH hr hp hv hv2 hg hc hN
  generalize N[n - 1] = z at *
  have hwn : IntKind.i64.wrap ((n : Int) - 1) = n - 1 := IntWalk.i64_in _ (by omega)
  have hwn2 : ((n : Int) - 1).toNat = n - 1 := by omega
  have hwn3 : (0 : Int) ≤ (n : Int) - 1 := by omega
  by_cases h0 : lg = 0
  · subst h0
    by_cases h1 : z = 1
    · subst h1
      rw [if_pos ⟨rfl, rfl⟩]
      refine veil fun R hR => ?_
      go_enter Try.func12, Try.ntmps12
      go_upto_region 1 with fail
      simp only [← HH.out, ← HW.out]
      go_wp2_with fail
      refine HMY.out.mono ?_
      rintro e w1 ⟨rfl, f1⟩
      have F1 := hide (F0.out.trans' f1)
      have b1 := BT.out.fresh f1
      have t0 := b1.cell 0
      have t1 := b1.cell 1
      simp at t0 t1
      have B1 := hide b1
      clear f1 b1
      have c1 := HC.out _ F1.out
      go_wp2_with fail
      try go_ret
      exact hR.out _ _ ⟨rfl, F1.out⟩
    · rw [if_neg (fun h => h1 (by simpa using h.2))]
      have h1b : (z == 1) = false := by simpa using h1
      refine veil fun R hR => ?_
      go_enter Try.func12, Try.ntmps12
      go_upto_region 1 with fail
      simp only [← HH.out, ← HW.out]
      go_wp2_with fail
      refine HMY.out.mono ?_
      rintro e w1 ⟨rfl, f1⟩
      have F1 := hide (F0.out.trans' f1)
      have b1 := BT.out.fresh f1
      have t0 := b1.cell 0
      have t1 := b1.cell 1
      simp at t0 t1
      have B1 := hide b1
      clear f1 b1
      have c1 := HC.out _ F1.out
      go_wp2_with fail
      try go_ret
      exact hR.out _ _ ⟨rfl, F1.out⟩
  · rw [if_neg (fun h => h0 h.1)]
    have h0b : (lg == 0) = false := by simpa using h0
    refine veil fun R hR => ?_
    go_enter Try.func12, Try.ntmps12
    go_upto_region 1 with fail
    simp only [← HH.out, ← HW.out]
    go_wp2_with fail
    refine HMY.out.mono ?_
    rintro e w1 ⟨rfl, f1⟩
    have F1 := hide (F0.out.trans' f1)
    have b1 := BT.out.fresh f1
    have t0 := b1.cell 0
    have t1 := b1.cell 1
    simp at t0 t1
    have B1 := hide b1
    clear f1 b1
    go_wp2_with fail
    try go_ret
    exact hR.out _ _ ⟨rfl, F1.out⟩

set_option maxRecDepth 100000 in
set_option maxHeartbeats 2000000 in
theorem rbytes_0 (F : Nat → Prop) (A : Option Addr) (n c : Nat) (lg p : Int) (N : List Int) (w : World) (hr : Rd w F A n (ints N)) (hfit : Fit N) (hn : (n : Int) ≤ 1099511627776) (hp : 0 ≤ p ∧ p ≤ 2) (hv : Valid lg N (partS p) (partX p)) :
    Calls Try.prog 12 #[.int .i64 0, .int .i64 p, .agg #[.int .i64 lg, .slice A n c]] w fun e w' => e = .returned (.int .i64 (if partL p = lg ∧ partN p = N then 0 else -1)) ∧ Fresh w w' := by
  obtain ⟨w0, hw0⟩ : ∃ w0, w0 = w.alloc (.cells #[.int .i64 lg, .slice A n c] 26) := ⟨_, rfl⟩
  obtain ⟨H, hH⟩ : ∃ H, H = w.heap.size := ⟨_, rfl⟩
  have f0 : Fresh w w0 := by rw [hw0]; exact (Upd.refl _ _).alloc _
  have bt : Blk w0 H 26 #[.int .i64 lg, .slice A n c] := by rw [hw0]; exact blk_new hH _ _
  have t0 := bt.cell 0
  have t1 := bt.cell 1
  simp at t0 t1
  have HMY := hide (rmay_any F A n c lg p N w0 (hr.fresh f0) hfit hn hp)
  have BT := hide bt
  have F0 := hide f0
  have HW := hide hw0
  have HH := hide hH
  have HR := hide (fun W (h : Fresh w W) => hr.fresh h)
  rw [decide_eq_true hv] at HMY
  have hN : N.length = n := by have := hr.1; simpa using this
  have hv2 := valid_wide hv
  have hn2 : n ≤ 1000 := by have := hv2.2.2.2.2.1; omega
  have hpl : (partN p).length ≤ 1000 := by have := partN_le p; omega
  have HOF := hide (fun W => rof_any p W hp)
  have HSM := hide (fun W (h : Fresh w W) (g : Nat) (hg : Rd W (fun b => b = g) (some ⟨g, 0, none⟩) (partN p).length (ints (partN p))) => same07_any F _ A _ n (partN p).length c (partN p).length lg (partL p) N (partN p) W (HR.out W h) hg hn2 hpl)
  have hdec : decide (lg = partL p ∧ N = partN p) = decide (partL p = lg ∧ partN p = N) := by
    congr 1
    exact propext ⟨fun h => ⟨h.1.symm, h.2.symm⟩, fun h => ⟨h.1.symm, h.2.symm⟩⟩
  rw [hdec] at HSM
  have hbt := hide (fun W (h : Fresh w0 W) => bt.fresh h)
  clear f0 bt hw0 hH hr hp hv hv2 hN hdec hpl
  by_cases hq : partL p = lg ∧ partN p = N
  all_goals
    first | rw [if_pos hq] | rw [if_neg hq]
    first | rw [decide_eq_true hq] at HSM | rw [decide_eq_false hq] at HSM
    clear hq
    generalize partN p = M at *
    generalize partL p = pl at *
    refine veil fun R hR => ?_
    go_enter Try.func12, Try.ntmps12
    go_upto_region 1 with fail
    simp only [← HH.out, ← HW.out]
    go_wp2_with fail
    refine HMY.out.mono ?_
    rintro e w1 ⟨rfl, f1⟩
    have F1 := hide (F0.out.trans' f1)
    have b1 := BT.out.fresh f1
    have t0 := b1.cell 0
    have t1 := b1.cell 1
    simp at t0 t1
    have B1 := hide b1
    clear f1 b1
    have HSS := hide (show ∀ W, Fresh w1 W → (Fresh w1 W ∧ W.cell? ⟨H, 0, none⟩ = some (.int .i64 lg) ∧ W.cell? ⟨H, 1, none⟩ = some (.slice A n c)) from fun W h => ⟨h, by simpa using (B1.out.fresh h).cell 0, by simpa using (B1.out.fresh h).cell 1⟩)
    go_upto_region 5 with fail
    go_region_held3 (fun W => Fresh w1 W ∧ W.cell? ⟨H, 0, none⟩ = some (.int .i64 lg) ∧ W.cell? ⟨H, 1, none⟩ = some (.slice A n c))
      (first | exact HSS.out _ (by assumption) | exact HSS.out _ (And.left (by assumption)) | exact HSS.out _ (Upd.refl _ _) | exact HSS.out _ (Upd.refl _ _).drew)
      (first
        | (go_at_call 29; refine (HOF.out _).mono ?_; rintro e w' ⟨g2, rfl, r2, hg2, f2⟩; have f3x : Fresh w1 w' := Upd.trans' (And.left (by assumption)) f2)
        | (go_at_call 22; refine (HSM.out _ (F1.out.trans' (And.left (by assumption))) _ (by assumption)).mono ?_; rintro e w' ⟨rfl, f2⟩; have f4x : Fresh w1 w' := Upd.trans' (And.left (by assumption)) f2))
    all_goals go_wp2_with fail
    all_goals try go_ret
    all_goals exact hR.out _ _ ⟨rfl, F1.out.trans' (And.left (by assumption))⟩

theorem rbytes_any (F : Nat → Prop) (A : Option Addr) (n c : Nat) (m lg p : Int) (N : List Int) (w : World) (hr : Rd w F A n (ints N)) (hfit : Fit N) (hn : (n : Int) ≤ 1099511627776) (hm : 0 ≤ m ∧ m ≤ 3) (hp : 0 ≤ p ∧ p ≤ 2) :
    Calls Try.prog 12 #[.int .i64 m, .int .i64 p, .agg #[.int .i64 lg, .slice A n c]] w fun e w' => e = .returned (.int .i64 (if (encN m p lg N).1 = 0 then ((encN m p lg N).2.length : Nat) else -1)) ∧ Fresh w w' := by
  have he : encN m p lg N = if Valid lg N (partS p) (partX p) then encM m p lg N else (13, []) := by unfold encN; exact if_neg (by omega)
  rw [he]
  by_cases hv : Valid lg N (partS p) (partX p)
  · rw [if_pos hv]
    unfold encM
    have : m = 0 ∨ m = 1 ∨ m = 2 ∨ m = 3 := by omega
    rcases this with rfl | rfl | rfl | rfl
    · refine (rbytes_0 F A n c lg p N w hr hfit hn hp hv).mono fun e w' h => ⟨?_, h.2⟩
      rw [h.1]
      by_cases h : partL p = lg ∧ partN p = N <;> simp [h]
    · refine (rbytes_1 F A n c lg p N w hr hfit hn hp hv).mono fun e w' h => ⟨?_, h.2⟩
      rw [h.1]
      by_cases h : lg = 0 ∧ N[N.length - 1]? = some 1 <;> simp [h]
    · refine (rbytes_2 F A n c lg p N w hr hfit hn hp hv).mono fun e w' h => ⟨?_, h.2⟩
      rw [h.1]
      by_cases h : lg = 0 <;> simp [h]
    · exact rbytes_3 F A n c lg p N w hr hfit hn hp hv
  · rw [if_neg hv]
    exact rbytes_no F A n c m lg p N w hr hfit hn hp hv

end Go.Proofs.Ytcdbfddoanigbaa
