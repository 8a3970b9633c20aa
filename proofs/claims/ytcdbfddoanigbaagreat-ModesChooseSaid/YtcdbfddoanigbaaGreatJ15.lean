/-
  Joined texts, part 15: contracts and plain lemmas, each under its own heading below.
  Conditions: none beyond those of each theorem.
-/
import Derived.Test.YtcdbfddoanigbaaGreatJ4
import Derived.Test.YtcdbfddoanigbaaGreatJ13
import Derived.Deep.OwnRows
import Derived.Deep.RegionHeld3
/-
  Package norm: Normalize.
  Conditions: none beyond those of each theorem.
-/
namespace Go.Proofs.YtcdbfddoanigbaaGreat
open Go.RowKit
set_option linter.unusedVariables false
set_option linter.unusedSimpArgs false

theorem upV_length {N M : List Int} {s tot : Int} (h : M.length = N.length) : (upV N M s tot).length = N.length := by simp [upV, h]
theorem dnV_length {N M : List Int} {s tot : Int} (h : M.length = N.length) : (dnV N M s tot).length = N.length := by simp [dnV, h]

theorem up_far (F : Nat → Prop) (A : Option Addr) (n c nc p2 p9 p10 p6 g : Nat) (N M : List Int) (s tot : Int) (w : World) (hc : NCap w F A n c nc p2 p9 p10 p6 g N M s tot) (hb : NBd N M s tot) (hn : (n : Int) ≤ 1099511627776) (hM : M.length = N.length) :
    Calls Tryz.prog 71 #[.slice (some ⟨g, 0, none⟩) n nc, .func (.func 68) #[] #[.pointer (some ⟨p2, 0, none⟩)], aboveV p2 p9 p10 p6] w fun e w' =>
      e = .returned (.int .i64 (bestI (argmax (upV N M s tot)))) ∧ Qt w w' := by
  have hN : N.length = n := by have := hc.hr.1; simpa using this
  refine fur_up n nc g p2 p9 p10 p6 (upV N M s tot) w (by rw [upV_length hM, hN]) hn (fun W hW i v hv => ?_) (fun W hW i x hx => ?_)
  · obtain ⟨x, y, hx, hy, rfl⟩ := vals_get hv
    have hi : i < n := by have := (List.getElem?_eq_some_iff.1 hx).1; omega
    have h := pos_any F A n c p2 N W (hc.b2.fresh hW.fresh) (hc.hr.fresh hW.fresh) hn i x hx hi
    have e : decide (0 < x) = (if 0 < x then some (x * s - y * tot) else none).isSome := by by_cases h : 0 < x <;> simp [h]
    rw [e] at h
    exact h
  · obtain ⟨x', y, hx', hy, he⟩ := vals_get hx
    have hi : i < n := by have := (List.getElem?_eq_some_iff.1 hx').1; omega
    have h0 : x = x' * s - y * tot := by
      by_cases h : 0 < x'
      · rw [if_pos h] at he; injection he
      · rw [if_neg h] at he; cases he
    rw [h0]
    exact above_any F A n c nc p2 p9 p10 p6 g N M s tot W (hc.fresh hW.fresh) hb hn i x' y hx' hy hi

theorem dn_far (F : Nat → Prop) (A : Option Addr) (n c nc p2 p9 p10 p6 p14 g : Nat) (N M : List Int) (s tot : Int) (w : World) (hc : NCap w F A n c nc p2 p9 p10 p6 g N M s tot) (hb : NBd N M s tot) (hn : (n : Int) ≤ 1099511627776) (hM : M.length = N.length)
    (b14 : Blk w p14 62 #[aboveV p2 p9 p10 p6]) :
    Calls Tryz.prog 71 #[.slice (some ⟨g, 0, none⟩) n nc, .func (.func 69) #[] #[.pointer (some ⟨p10, 0, none⟩)], .func (.func 70) #[] #[.pointer (some ⟨p14, 0, none⟩)]] w fun e w' =>
      e = .returned (.int .i64 (bestI (argmax (dnV N M s tot)))) ∧ Qt w w' := by
  have hN : N.length = n := by have := hc.hr.1; simpa using this
  refine fur_dn n nc g p10 p14 (dnV N M s tot) w (by rw [dnV_length hM, hN]) hn (fun W hW i v hv => ?_) (fun W hW i x hx => ?_)
  · obtain ⟨x, y, hx, hy, rfl⟩ := vals_get hv
    have hi : i < n := by have := (List.getElem?_eq_some_iff.1 hx).1; omega
    have h := more_any n nc p10 g M W (hc.b10.fresh hW.fresh) (hc.bg.fresh hW.fresh) hn i y hy hi
    have e : decide (1 < y) = (if 1 < y then some (-(x * s - y * tot)) else none).isSome := by by_cases h : 1 < y <;> simp [h]
    rw [e] at h
    exact h
  · obtain ⟨x', y, hx', hy, he⟩ := vals_get hx
    have hi : i < n := by have := (List.getElem?_eq_some_iff.1 hx').1; omega
    have h0 : x = -(x' * s - y * tot) := by
      by_cases h : 1 < y
      · rw [if_pos h] at he; injection he
      · rw [if_neg h] at he; cases he
    rw [h0]
    exact below_any F A n c nc p2 p9 p10 p6 p14 g N M s tot W (hc.fresh hW.fresh) hb hn (b14.fresh hW.fresh) i x' y hx' hy hi

theorem setTwoT (w : World) (H : Nat) (u v : Value) : Upd (fun b => b = H) w ((w.setCell ⟨H, 0, none⟩ u).setCell ⟨H, 1, none⟩ v) :=
  ((Upd.refl (fun b => b = H) w).setCell (p := ⟨H, 0, none⟩) (fun _ => rfl) u).setCell (p := ⟨H, 1, none⟩) (fun _ => rfl) v

set_option maxRecDepth 100000 in
set_option maxHeartbeats 1000000 in
theorem normal_no (F : Nat → Prop) (A : Option Addr) (n c : Nat) (N : List Int) (w : World) (lg : Int) (hr : Rd w F A n (ints N)) (hfit : Fit N) (hn : (n : Int) ≤ 1099511627776) (hno : ¬ NormOk N lg) :
    Calls Tryz.prog 39 #[.slice A n c, .int .i64 lg] w fun e w' => e = .returned (.tuple #[.agg #[.int .i64 0, .slice none 0 0], .int .i64 2]) ∧ Fresh w w' := by
  obtain ⟨w0, hw0⟩ : ∃ w0, w0 = (w.alloc (.cells #[.slice A n c] 22)).alloc (.cells #[.int .i64 0, .slice none 0 0] 25) := ⟨_, rfl⟩
  obtain ⟨H, hH⟩ : ∃ H, H = w.heap.size := ⟨_, rfl⟩
  have f0 : Fresh w w0 := by rw [hw0]; exact ((Upd.refl _ _).alloc _).alloc _
  have b2 : Blk w0 H 22 #[.slice A n c] := by rw [hw0]; exact (blk_new hH _ _).alloc _
  have bt : Blk w0 (H + 1) 25 #[.int .i64 0, .slice none 0 0] := by rw [hw0]; exact blk_new (by simp [hH]) _ _
  have hal := nall_any F A n c N w0 (hr.fresh f0) hfit hn
  have hu := usedC_le N
  have hN : N.length = n := by have := hr.1; simpa using this
  have k2 := b2.cell0
  have HBT := hide bt
  have F0 := hide f0
  have da0 : ∀ o, (w0.alloc o).cell? ⟨H + 1, 0, none⟩ = some (.int .i64 0) := fun o => by simpa using (HBT.out.alloc o).cell 0
  have da1 : ∀ o, (w0.alloc o).cell? ⟨H + 1, 1, none⟩ = some (.slice none 0 0) := fun o => by simpa using (HBT.out.alloc o).cell 1
  have dz0 : ∀ o, (w0.alloc o).frozen? ⟨H + 1, 0, none⟩ = false := fun o => (HBT.out.alloc o).frozen 0
  have dz1 : ∀ o, (w0.alloc o).frozen? ⟨H + 1, 1, none⟩ = false := fun o => (HBT.out.alloc o).frozen 1
  have fin : ∀ o, Fresh w (((w0.alloc o).setCell ⟨H + 1, 0, none⟩ (.int .i64 0)).setCell ⟨H + 1, 1, none⟩ (.slice none 0 0)) := fun o =>
    (F0.out.alloc o).trans (setTwoT _ (H + 1) _ _) (fun b hb h => by omega)
  have FIN := hide fin
  have HW := hide hw0
  have HH := hide hH
  clear hw0 hH f0 b2 bt hr fin
  by_cases hb : CtOk N ∧ 0 < usedC N
  · have HK : Hid (Calls Tryz.prog 63 #[.slice A n c] w0 fun e w' => e = .returned (.tuple #[.int .i64 N.sum, .int .i64 (usedC N : Nat), .bool true]) ∧ w0 = w') :=
      hide (hal.mono fun e w' h => ⟨by have := h.1; unfold AllPost at this; rw [decide_eq_true hb, if_pos hb.1, if_pos hb.1] at this; exact this, h.2.symm⟩)
    have hul : usedC N ≤ n := by omega
    have hno2 : lg < 0 ∨ 9 < lg ∨ (0 ≤ lg ∧ lg ≤ 9 ∧ ¬ usedC N ≤ 2 ^ lg.toNat) := by
      unfold NormOk at hno
      by_cases h1 : lg < 0
      · exact .inl h1
      · by_cases h2 : 9 < lg
        · exact .inr (.inl h2)
        · exact .inr (.inr ⟨by omega, by omega, fun h => hno ⟨hb.1, hb.2, by omega, by omega, h⟩⟩)
    clear hal hfit hN hu hb hno
    generalize usedC N = u at *
    generalize N.sum = S at *
    refine veil fun R hR => ?_
    rcases hno2 with h | h | ⟨h1, h2, h3⟩
    · go_enter Tryz.func39, Tryz.ntmps39
      go_wp2_with fail
      simp only [← HH.out, ← HW.out]
      go_wp2_with fail
      refine HK.out.mono ?_
      rintro e wx ⟨rfl, rfl⟩
      go_wp2_with fail
      refine bodyPost_ret (results_cell_tmp_row rfl _ _ (H + 1) _ _ _ rfl (((HBT.out.alloc _).set_ 0 (.int .i64 0)).set_ 1 (.slice none 0 0)) Tryz.underlying25 rfl (by kernel_rfl)) rfl ?_
      exact hR.out _ _ ⟨rfl, FIN.out _⟩
    · have h0 : ¬ lg < 0 := by omega
      go_enter Tryz.func39, Tryz.ntmps39
      go_wp2_with fail
      simp only [← HH.out, ← HW.out]
      go_wp2_with fail
      refine HK.out.mono ?_
      rintro e wx ⟨rfl, rfl⟩
      go_wp2_with fail
      refine bodyPost_ret (results_cell_tmp_row rfl _ _ (H + 1) _ _ _ rfl (((HBT.out.alloc _).set_ 0 (.int .i64 0)).set_ 1 (.slice none 0 0)) Tryz.underlying25 rfl (by kernel_rfl)) rfl ?_
      exact hR.out _ _ ⟨rfl, FIN.out _⟩
    · obtain ⟨p, rfl⟩ : ∃ p : Nat, lg = p := ⟨lg.toNat, by omega⟩
      have hpow : (2 : Int) ^ p ≤ 512 := by
        have : 2 ^ p ≤ 2 ^ 9 := Nat.pow_le_pow_right (by omega) (by omega)
        have h2 : ((2 : Int) ^ p) = ((2 ^ p : Nat) : Int) := by simp
        omega
      have hpow0 : (0 : Int) < (2 : Int) ^ p := Int.pow_pos (by omega)
      have hlt : (2 : Int) ^ p < u := by
        have h2 : ((2 : Int) ^ p) = ((2 ^ p : Nat) : Int) := by simp
        rw [Int.toNat_natCast] at h3
        omega
      clear h3
      go_enter Tryz.func39, Tryz.ntmps39
      go_wp2_with fail
      simp only [← HH.out, ← HW.out]
      go_wp2_with fail
      refine HK.out.mono ?_
      rintro e wx ⟨rfl, rfl⟩
      go_wp2_with fail
      refine bodyPost_ret (results_cell_tmp_row rfl _ _ (H + 1) _ _ _ rfl (((HBT.out.alloc _).set_ 0 (.int .i64 0)).set_ 1 (.slice none 0 0)) Tryz.underlying25 rfl (by kernel_rfl)) rfl ?_
      exact hR.out _ _ ⟨rfl, FIN.out _⟩
  · have HK : Hid (Calls Tryz.prog 63 #[.slice A n c] w0 fun e w' => (∃ x y, e = .returned (.tuple #[.int .i64 x, .int .i64 y, .bool false])) ∧ w0 = w') :=
      hide (hal.mono fun e w' h => ⟨by have := h.1; unfold AllPost at this; rw [decide_eq_false hb] at this; exact ⟨_, _, this⟩, h.2.symm⟩)
    clear hal hfit hN hu hb hno
    refine veil fun R hR => ?_
    go_enter Tryz.func39, Tryz.ntmps39
    go_wp2_with fail
    simp only [← HH.out, ← HW.out]
    go_wp2_with fail
    refine HK.out.mono ?_
    rintro e wx ⟨⟨x, y, rfl⟩, rfl⟩
    go_wp2_with fail
    refine bodyPost_ret (results_cell_tmp_row rfl _ _ (H + 1) _ _ _ rfl (((HBT.out.alloc _).set_ 0 (.int .i64 0)).set_ 1 (.slice none 0 0)) Tryz.underlying25 rfl (by kernel_rfl)) rfl ?_
    exact hR.out _ _ ⟨rfl, FIN.out _⟩

end Go.Proofs.YtcdbfddoanigbaaGreat

/-
  Package cells: SingleSymbol.
  Conditions: none beyond those of each theorem.
-/
namespace Go.Proofs.YtcdbfddoanigbaaGreat
open Go.RowKit
set_option linter.unusedVariables false
set_option linter.unusedSimpArgs false

/-- the norms of the table of one symbol -/
def oneN (s : Nat) : List Int := List.replicate s 0 ++ [1]
@[simp] theorem oneN_length (s : Nat) : (oneN s).length = s + 1 := by simp [oneN]

set_option maxRecDepth 100000 in
set_option maxHeartbeats 1000000 in
theorem single_no (s : Int) (w : World) (h : s < 0 ∨ 255 < s) : Calls Tryz.prog 76 #[.int .i64 s] w fun e w' => e = .returned (.tuple #[.agg #[.int .i64 0, .slice none 0 0], .int .i64 2]) ∧ Fresh w w' := by
  have HB := hide (Blk.new w 25 #[.int .i64 0, .slice none 0 0])
  refine veil fun R hR => ?_
  rcases h with h | h
  · go_enter Tryz.func76, Tryz.ntmps76
    go_wp2_with fail
    refine bodyPost_ret (results_cell_tmp_row rfl _ _ w.heap.size _ _ _ rfl HB.out Tryz.underlying25 rfl (by kernel_rfl)) rfl ?_
    exact hR.out _ _ ⟨rfl, (Upd.refl _ _).alloc _⟩
  · go_enter Tryz.func76, Tryz.ntmps76
    go_wp2_with fail
    refine bodyPost_ret (results_cell_tmp_row rfl _ _ w.heap.size _ _ _ rfl HB.out Tryz.underlying25 rfl (by kernel_rfl)) rfl ?_
    exact hR.out _ _ ⟨rfl, (Upd.refl _ _).alloc _⟩

set_option maxRecDepth 100000 in
set_option maxHeartbeats 1000000 in
theorem single_any (s : Nat) (w : World) (h : s ≤ 255) : Calls Tryz.prog 76 #[.int .i64 s] w fun e w' => NewTabE w w' e 0 (oneN s) 0 := by
  have h1 : (s : Int) ≤ 255 := by omega
  have hmk : ∀ W, (Instr.makeSlice 22 (.int .i64 ((s : Int) + 1)) (.int .i64 ((s : Int) + 1))).run Tryz.prog W = .ok (.slice (some ⟨W.heap.size, 0, none⟩) (s + 1) (s + 1)) (W.alloc (.cells (madeCells #[.int .i64 0] (s + 1)) 3)) := fun W => by
    have := run_make_row' (P := Tryz.prog) 22 3 (.int .i64 0) 8 Tryz.underlying22 infoInt rfl .i64 .i64 (s + 1) (by omega) (by omega) W
    simpa using this
  generalize hmc : madeCells #[Value.int .i64 0] (s + 1) = cs at *
  have HMC := hide hmc
  clear hmc
  obtain ⟨H, hH⟩ : ∃ H, H = w.heap.size := ⟨_, rfl⟩
  have HH := hide hH
  clear hH
  refine veil fun R hR => ?_
  go_enter Tryz.func76, Tryz.ntmps76
  go_upto_region 4 with fail
  simp only [← HH.out]
  obtain ⟨w1, hw1⟩ : ∃ w1, w1 = (w.alloc (.cells #[.int .i64 0, .slice none 0 0] 25)).alloc (.cells cs 3) := ⟨_, rfl⟩
  rw [← hw1]
  have hcs : cs = (List.replicate (s + 1) (Value.int .i64 0)).toArray := by
    rw [← HMC.out]
    exact Array.toList_inj.1 (by rw [toList_madeCells_one])
  have f1 : Fresh w w1 := by rw [hw1]; exact ((Upd.refl _ _).alloc _).alloc _
  have bt : Blk w1 H 25 #[.int .i64 0, .slice none 0 0] := by rw [hw1]; exact (blk_new HH.out _ _).alloc _
  have bc : Blk w1 (H + 1) 3 cs := by rw [hw1]; exact blk_new (by simp [HH.out]) _ _
  have x0 : w1.cell? ⟨H + 1, s, none⟩ = some (.int .i64 0) := by rw [bc.cell, hcs]; simp
  have x1 : w1.frozen? ⟨H + 1, s, none⟩ = false := bc.frozen s
  have bt2 := bt.far (p := ⟨H + 1, s, none⟩) (by simp) (.int .i64 1)
  have hset : cs.setIfInBounds s (.int .i64 1) = (ints (oneN s)).toArray := by
    rw [hcs]
    apply Array.toList_inj.1
    simp [oneN, ints, List.replicate_succ', List.set_append]
  have bc2 := bc.set_ s (.int .i64 1)
  rw [hset] at bc2
  have u2 : Upd (fun b => b = H + 1) w1 (w1.setCell ⟨H + 1, s, none⟩ (.int .i64 1)) := (Upd.refl (fun b => b = H + 1) _).setCell (p := ⟨H + 1, s, none⟩) (fun _ => rfl) _
  have t0 := bt2.cell 0
  have t1 := bt2.cell 1
  have z0 := bt2.frozen 0
  have z1 := bt2.frozen 1
  simp at t0 t1
  have BT2 := hide bt2
  have BC2 := hide bc2
  have F1 := hide f1
  have U2 := hide u2
  clear hw1 hcs f1 bt bc bt2 bc2 u2 hset
  go_wp2_with fail
  refine bodyPost_ret (results_cell_tmp_row rfl _ _ H _ _ _ rfl ((BT2.out.set_ 0 (.int .i64 0)).set_ 1 (.slice (some ⟨H + 1, 0, none⟩) (s + 1) (s + 1))) Tryz.underlying25 rfl (by kernel_rfl)) rfl ?_
  have u3 := setTwoP (w1.setCell ⟨H + 1, s, none⟩ (.int .i64 1)) H (.int .i64 0) (.slice (some ⟨H + 1, 0, none⟩) (s + 1) (s + 1))
  refine hR.out _ _ ⟨H + 1, by rw [oneN_length]; rfl, ?_, by have := HH.out; omega, ?_⟩
  · have b3 := BC2.out.upd u3 (by omega)
    exact Blk.rdg b3 rfl
  · exact (F1.out.trans U2.out (fun b hb h => by have := HH.out; omega)).trans u3 (fun b hb h => by have := HH.out; omega)

end Go.Proofs.YtcdbfddoanigbaaGreat

/-
  Package modes: one, what mode one reads.
  Conditions: none beyond those of each theorem.
-/
namespace Go.Proofs.YtcdbfddoanigbaaGreat
open Go.RowKit
set_option linter.unusedVariables false
set_option linter.unusedSimpArgs false

/-- what a way's get leaves: an error, a table, so many bytes read -/
def WayPost (F : Nat → Prop) (g : Nat) (bs : List Nat) (at_ : Nat) (x lg : Int) (N : List Int) (k : Nat) (w : World) (e : Ending) (w' : World) : Prop :=
  Upd (fun b => b = g) w w' ∧ CurAt w' F g bs (at_ + k) ∧ ∃ A n c, e = .returned (.tuple #[.agg #[.int .i64 lg, .slice A n c], .int .i64 x]) ∧ Rd w' (fun b => w.heap.size ≤ b) A n (ints N)

/-- what mode one reads: the error, the norms, the bytes read -/
def oneS (bs : List Nat) (at_ : Nat) (s : Int) : Int × List Int × Nat :=
  if at_ < bs.length then (if s ≤ (bs[at_]?.getD 0 : Nat) then (13, [], 1) else (0, oneN (bs[at_]?.getD 0), 1)) else (3, [], 0)

theorem getD_lt {bs : List Nat} (h : ∀ b ∈ bs, b < 256) (k : Nat) : bs[k]?.getD 0 < 256 := by
  rcases Nat.lt_or_ge k bs.length with hk | hk
  · rw [List.getElem?_eq_getElem hk]; exact h _ (List.getElem_mem hk)
  · rw [List.getElem?_eq_none hk]; decide

set_option maxRecDepth 100000 in
set_option maxHeartbeats 2000000 in
theorem one_any (F : Nat → Prop) (g : Nat) (bs : List Nat) (at_ : Nat) (B : Option Addr) (m d : Nat) (p s x lg : Int) (w : World) (hcu : CurAt w F g bs at_) (hF : ∀ b, F b → b ≠ g) :
    Calls Tryz.prog 50 #[.agg #[.int .i64 p, .int .i64 s, .int .i64 x, .int .i64 lg, .slice B m d], .pointer (some ⟨g, 0, none⟩)] w
      (WayPost F g bs at_ (oneS bs at_ s).1 0 (oneS bs at_ s).2.1 (oneS bs at_ s).2.2 w) := by
  obtain ⟨w0, hw0⟩ : ∃ w0, w0 = (w.alloc (.cells #[.int .i64 p, .int .i64 s, .int .i64 x, .int .i64 lg, .slice B m d] 48)).alloc (.cells #[.int .i64 0, .slice none 0 0] 25) := ⟨_, rfl⟩
  obtain ⟨H, hH⟩ : ∃ H, H = w.heap.size := ⟨_, rfl⟩
  have f0 : Fresh w w0 := by rw [hw0]; exact ((Upd.refl _ _).alloc _).alloc _
  have bp : Blk w0 H 48 #[.int .i64 p, .int .i64 s, .int .i64 x, .int .i64 lg, .slice B m d] := by rw [hw0]; exact (blk_new hH _ _).alloc _
  have bt : Blk w0 (H + 1) 25 #[.int .i64 0, .slice none 0 0] := by rw [hw0]; exact blk_new (by simp [hH]) _ _
  have hg := hcu.lt
  have hgH : g < H := by omega
  have hlt : ∀ b ∈ bs, b < 256 := by obtain ⟨A, c, _, _, h, _⟩ := hcu; exact h
  have hat : at_ ≤ bs.length := by obtain ⟨A, c, _, _, _, h, _⟩ := hcu; exact h
  have hx := getD_lt hlt at_
  have cu0 := hcu.both.fresh f0
  have BP := hide bp
  have BT := hide bt
  have F0 := hide f0
  have HW := hide hw0
  have HH := hide hH
  have HGH := hide hgH
  refine veil fun R hR => ?_
  by_cases hk : at_ < bs.length
  · have hby := cbyte_ok (fun b => F b ∧ b < w.heap.size) g bs at_ w0 cu0 hk (fun b hb => hF b hb.1)
    unfold oneS at hR
    simp only [if_pos hk] at hR
    generalize bs[at_]?.getD 0 = z at *
    have HB := hide hby
    by_cases hz : s ≤ (z : Nat)
    · simp only [if_pos hz] at hR
      clear hcu cu0 hby bp bt f0 hw0 hH hk hat hlt hg hgH
      go_enter Tryz.func50, Tryz.ntmps50
      go_wp2_with fail
      simp only [← HH.out, ← HW.out]
      refine HB.out.mono ?_
      rintro e w1 ⟨rfl, u1, c1⟩
      have p1 := BP.out.upd u1 (by have := HGH.out; omega)
      have t1 := BT.out.upd u1 (by have := HGH.out; omega)
      have q1 := p1.cell 1
      have c0 := t1.cell 0
      have c2 := t1.cell 1
      have z0 := t1.frozen 0
      have z1 := t1.frozen 1
      simp at q1 c0 c2
      have T1 := hide t1
      have U1 := hide u1
      have C1 := hide c1
      clear u1 c1 p1 t1
      go_wp2_with fail
      refine bodyPost_ret (results_cell_tmp_row rfl _ _ (H + 1) _ _ _ rfl ((T1.out.set_ 0 (.int .i64 0)).set_ 1 (.slice none 0 0)) Tryz.underlying25 rfl (by kernel_rfl)) rfl ?_
      have u3 := setTwoP w1 (H + 1) (.int .i64 0) (.slice none 0 0)
      refine hR.out _ _ ⟨(((F0.out.mono (T := fun b => b = g) (fun _ _ h => h.elim)).trans' U1.out).trans u3 (fun b hb h => by have := HH.out; omega)), ?_, none, 0, 0, rfl, Rd.nil _ _ _⟩
      exact (C1.out.upd u3 (by have := HGH.out; omega) (fun b _ hb h => by have := hb.2; have := HH.out; omega)).mono fun b hb => hb.1
    · have hz' : (z : Int) < s := by omega
      simp only [if_neg hz] at hR
      have hsg := fun W => single_any z W (by omega)
      have HS := hide hsg
      clear hcu cu0 hby bp bt f0 hw0 hH hk hat hlt hg hgH hsg hz
      go_enter Tryz.func50, Tryz.ntmps50
      go_wp2_with fail
      simp only [← HH.out, ← HW.out]
      refine HB.out.mono ?_
      rintro e w1 ⟨rfl, u1, c1⟩
      have p1 := BP.out.upd u1 (by have := HGH.out; omega)
      have t1 := BT.out.upd u1 (by have := HGH.out; omega)
      have q1 := p1.cell 1
      simp at q1
      have T1 := hide t1
      have U1 := hide u1
      have C1 := hide c1
      clear u1 c1 p1 t1
      go_wp2_with fail
      refine (HS.out _).mono ?_
      rintro e w2 ⟨g2, rfl, r2, hg2, f2⟩
      rw [oneN_length] at r2
      have t2 := T1.out.fresh f2
      have c0 := t2.cell 0
      have c2 := t2.cell 1
      have z0 := t2.frozen 0
      have z1 := t2.frozen 1
      simp at c0 c2
      have T2 := hide t2
      have F2 := hide f2
      have R2 := hide r2
      have HG2 := hide hg2
      have hs1 := U1.out.size
      have HS1 := hide hs1
      have C2 := hide (C1.out.fresh f2)
      have hl1 := T1.out.lt
      have HL1 := hide hl1
      clear f2 r2 hg2 t2 hs1 hl1
      go_wp2_with fail
      refine bodyPost_ret (results_cell_tmp_row rfl _ _ (H + 1) _ _ _ rfl ((T2.out.set_ 0 (.int .i64 0)).set_ 1 (.slice (some ⟨g2, 0, none⟩) (z + 1) (z + 1))) Tryz.underlying25 rfl (by kernel_rfl)) rfl ?_
      have u3 := setTwoP w2 (H + 1) (.int .i64 0) (.slice (some ⟨g2, 0, none⟩) (z + 1) (z + 1))
      refine hR.out _ _ ⟨((((F0.out.mono (T := fun b => b = g) (fun _ _ h => h.elim)).trans' U1.out).trans F2.out (fun b hb h => h.elim)).trans u3 (fun b hb h => by have := HH.out; omega)), ?_, some ⟨g2, 0, none⟩, _, _, rfl, ?_⟩
      · exact (C2.out.upd u3 (by have := HGH.out; omega) (fun b _ hb h => by have := hb.2; have := HH.out; omega)).mono fun b hb => hb.1
      · have h1 := HG2.out
        have h2 := HL1.out
        exact (R2.out.upd u3 (fun b _ hb h => by omega)).mono fun b hb => by have := HH.out; omega
  · have hk2 : at_ = bs.length := by omega
    have hby := cbyte_end (fun b => F b ∧ b < w.heap.size) g bs at_ w0 cu0 hk2 (fun b hb => hF b hb.1)
    unfold oneS at hR
    simp only [if_neg hk] at hR
    have HB := hide hby
    clear hcu cu0 hby bp bt f0 hw0 hH hk hk2 hat hlt hg hgH hx
    go_enter Tryz.func50, Tryz.ntmps50
    go_wp2_with fail
    simp only [← HH.out, ← HW.out]
    refine HB.out.mono ?_
    rintro e w1 ⟨rfl, u1, c1⟩
    have t1 := BT.out.upd u1 (by have := HGH.out; omega)
    have c0 := t1.cell 0
    have c2 := t1.cell 1
    have z0 := t1.frozen 0
    have z1 := t1.frozen 1
    simp at c0 c2
    have T1 := hide t1
    have U1 := hide u1
    have C1 := hide c1
    clear u1 c1 t1
    go_wp2_with fail
    refine bodyPost_ret (results_cell_tmp_row rfl _ _ (H + 1) _ _ _ rfl ((T1.out.set_ 0 (.int .i64 0)).set_ 1 (.slice none 0 0)) Tryz.underlying25 rfl (by kernel_rfl)) rfl ?_
    have u3 := setTwoP w1 (H + 1) (.int .i64 0) (.slice none 0 0)
    refine hR.out _ _ ⟨(((F0.out.mono (T := fun b => b = g) (fun _ _ h => h.elim)).trans' U1.out).trans u3 (fun b hb h => by have := HH.out; omega)), ?_, none, 0, 0, rfl, Rd.nil _ _ _⟩
    exact (C1.out.upd u3 (by have := HGH.out; omega) (fun b _ hb h => by have := hb.2; have := HH.out; omega)).mono fun b hb => hb.1

end Go.Proofs.YtcdbfddoanigbaaGreat

/-
  Package modes: the gets of mode nought and mode two.
  Conditions: none beyond those of each theorem.
-/
namespace Go.Proofs.YtcdbfddoanigbaaGreat
open Go.RowKit
set_option linter.unusedVariables false
set_option linter.unusedSimpArgs false

/-- what a described table reads as: the error, the Log, the norms, the bytes read -/
def desS (bs : List Nat) (at_ : Nat) (s x : Int) : Int × Int × List Int × Nat :=
  match decodeS s x (rowB (seenB bs at_)) with
  | .error e => (e, 0, [], 0)
  | .ok (lg, N, k) => (0, lg, N, k)

theorem dec_way {F : Nat → Prop} {g : Nat} {bs : List Nat} {at_ : Nat} {s x : Int} {w w' : World} {e : Ending} (h : DecPost F g bs at_ s x w e w') :
    WayPost F g bs at_ (desS bs at_ s x).1 (desS bs at_ s x).2.1 (desS bs at_ s x).2.2.1 (desS bs at_ s x).2.2.2 w e w' := by
  obtain ⟨hu, h⟩ := h
  unfold desS
  cases hd : decodeS s x (rowB (seenB bs at_)) with
  | error y =>
    rw [hd] at h
    exact ⟨hu, h.2, none, 0, 0, h.1, Rd.nil _ _ _⟩
  | ok q =>
    obtain ⟨lg, N, k⟩ := q
    rw [hd] at h
    obtain ⟨v, he, ho, hk, hc, -⟩ := h
    obtain ⟨A, c, rfl, -, hr⟩ := ho.form
    exact ⟨hu, hc, A, _, c, he, hr.mono hk⟩

theorem way_wrap {F : Nat → Prop} {g : Nat} {bs : List Nat} {at_ k n c H : Nat} {x lg : Int} {N : List Int} {A : Option Addr} {w w0 w1 : World} (f0 : Fresh w w0) (h0 : w.heap.size ≤ H) (h1 : H < w0.heap.size) (hg : g < w.heap.size)
    (u1 : Upd (fun b => b = g) w0 w1) (c1 : CurAt w1 (fun b => F b ∧ b < w.heap.size) g bs (at_ + k)) (r1 : Rd w1 (fun b => w0.heap.size ≤ b) A n (ints N)) {v : Ending} (hv : v = .returned (.tuple #[.agg #[.int .i64 lg, .slice A n c], .int .i64 x])) :
    WayPost F g bs at_ x lg N k w v ((w1.setCell ⟨H, 0, none⟩ (.int .i64 lg)).setCell ⟨H, 1, none⟩ (.slice A n c)) := by
  have u3 := setTwoP w1 H (.int .i64 lg) (.slice A n c)
  refine ⟨((f0.mono (T := fun b => b = g) (fun _ _ h => h.elim)).trans' u1).trans u3 (fun b hb h => by omega), ?_, A, n, c, hv, ?_⟩
  · exact (c1.upd u3 (by omega) (fun b _ hb h => by have := hb.2; omega)).mono fun b hb => hb.1
  · exact (r1.upd u3 (fun b _ hb h => by omega)).mono fun b hb => by have := f0.size; omega

set_option maxRecDepth 100000 in
set_option maxHeartbeats 2000000 in
theorem way1_any (F : Nat → Prop) (g : Nat) (bs : List Nat) (at_ : Nat) (B : Option Addr) (m d : Nat) (p s x lg : Int) (w : World) (hcu : CurAt w F g bs at_) (hp : 0 ≤ p ∧ p ≤ 2) :
    Calls Tryz.prog 46 #[.agg #[.int .i64 p, .int .i64 s, .int .i64 x, .int .i64 lg, .slice B m d], .pointer (some ⟨g, 0, none⟩)] w
      (WayPost F g bs at_ 0 (partL p) (partN p) 0 w) := by
  obtain ⟨w0, hw0⟩ : ∃ w0, w0 = (w.alloc (.cells #[.int .i64 p, .int .i64 s, .int .i64 x, .int .i64 lg, .slice B m d] 48)).alloc (.cells #[.int .i64 0, .slice none 0 0] 25) := ⟨_, rfl⟩
  obtain ⟨H, hH⟩ : ∃ H, H = w.heap.size := ⟨_, rfl⟩
  have f0 : Fresh w w0 := by rw [hw0]; exact ((Upd.refl _ _).alloc _).alloc _
  have bp : Blk w0 H 48 #[.int .i64 p, .int .i64 s, .int .i64 x, .int .i64 lg, .slice B m d] := by rw [hw0]; exact (blk_new hH _ _).alloc _
  have bt : Blk w0 (H + 1) 25 #[.int .i64 0, .slice none 0 0] := by rw [hw0]; exact blk_new (by simp [hH]) _ _
  have q0 := bp.cell 0
  simp at q0
  have HG := hide hcu.lt
  have CU := hide (hcu.both.fresh f0)
  have BT := hide bt
  have F0 := hide f0
  have HW := hide hw0
  have HH := hide hH
  have HK := hide (pTable_any p w0 hp)
  clear hcu bp bt f0 hw0 hH hp
  generalize partL p = pl at *
  generalize partN p = pn at *
  generalize hpl : pn.length = pln at *
  refine veil fun R hR => ?_
  go_enter Tryz.func46, Tryz.ntmps46
  go_wp2_with fail
  simp only [← HH.out, ← HW.out]
  go_wp2_with fail
  refine HK.out.mono ?_
  rintro e w1 ⟨g2, rfl, r2, hg2, f2⟩
  rw [hpl] at r2
  have t1 := BT.out.fresh f2
  have c0 := t1.cell 0
  have c2 := t1.cell 1
  have z0 := t1.frozen 0
  have z1 := t1.frozen 1
  simp at c0 c2
  have T1 := hide t1
  have F2 := hide f2
  have R2 := hide (r2.mono (G := fun b => w0.heap.size ≤ b) (fun b hb => by omega))
  have CU2 := hide (CU.out.fresh f2)
  clear f2 r2 hg2 t1
  go_wp2_with fail
  refine bodyPost_ret (results_cell_tmp_row rfl _ _ (H + 1) _ _ _ rfl ((T1.out.set_ 0 (.int .i64 pl)).set_ 1 (.slice (some ⟨g2, 0, none⟩) pln pln)) Tryz.underlying25 rfl (by kernel_rfl)) rfl ?_
  exact hR.out _ _ (way_wrap F0.out (by have := HH.out; omega) BT.out.lt HG.out (F2.out.mono (fun _ _ h => h.elim)) CU2.out R2.out rfl)

set_option maxRecDepth 100000 in
set_option maxHeartbeats 2000000 in
theorem way4_any (F : Nat → Prop) (g : Nat) (bs : List Nat) (at_ : Nat) (B : Option Addr) (m d : Nat) (p s x lg : Int) (w : World) (hcu : CurAt w F g bs at_) (hF : ∀ b, F b → b ≠ g) :
    Calls Tryz.prog 52 #[.agg #[.int .i64 p, .int .i64 s, .int .i64 x, .int .i64 lg, .slice B m d], .pointer (some ⟨g, 0, none⟩)] w
      (WayPost F g bs at_ (desS bs at_ s x).1 (desS bs at_ s x).2.1 (desS bs at_ s x).2.2.1 (desS bs at_ s x).2.2.2 w) := by
  obtain ⟨w0, hw0⟩ : ∃ w0, w0 = (w.alloc (.cells #[.int .i64 p, .int .i64 s, .int .i64 x, .int .i64 lg, .slice B m d] 48)).alloc (.cells #[.int .i64 0, .slice none 0 0] 25) := ⟨_, rfl⟩
  obtain ⟨H, hH⟩ : ∃ H, H = w.heap.size := ⟨_, rfl⟩
  have f0 : Fresh w w0 := by rw [hw0]; exact ((Upd.refl _ _).alloc _).alloc _
  have bp : Blk w0 H 48 #[.int .i64 p, .int .i64 s, .int .i64 x, .int .i64 lg, .slice B m d] := by rw [hw0]; exact (blk_new hH _ _).alloc _
  have bt : Blk w0 (H + 1) 25 #[.int .i64 0, .slice none 0 0] := by rw [hw0]; exact blk_new (by simp [hH]) _ _
  have q1 := bp.cell 1
  have q2 := bp.cell 2
  simp at q1 q2
  have HG := hide hcu.lt
  have BT := hide bt
  have F0 := hide f0
  have HW := hide hw0
  have HH := hide hH
  have HK := hide ((decode_any (fun b => F b ∧ b < w.heap.size) g bs at_ s x w0 (hcu.both.fresh f0) (fun b hb => hF b hb.1)).mono fun e w' h => dec_way h)
  clear hcu bp bt f0 hw0 hH
  generalize (desS bs at_ s x).1 = y at *
  generalize (desS bs at_ s x).2.1 = pl at *
  generalize (desS bs at_ s x).2.2.1 = pn at *
  generalize (desS bs at_ s x).2.2.2 = k at *
  refine veil fun R hR => ?_
  go_enter Tryz.func52, Tryz.ntmps52
  go_wp2_with fail
  simp only [← HH.out, ← HW.out]
  go_wp2_with fail
  refine HK.out.mono ?_
  rintro e w1 ⟨u1, c1, A, n, c, rfl, r1⟩
  have t1 := BT.out.upd u1 (by have := HH.out; have := HG.out; omega)
  have c0 := t1.cell 0
  have c2 := t1.cell 1
  have z0 := t1.frozen 0
  have z1 := t1.frozen 1
  simp at c0 c2
  have T1 := hide t1
  have U1 := hide u1
  have R1 := hide r1
  have C1 := hide c1
  clear u1 r1 c1 t1
  go_wp2_with fail
  refine bodyPost_ret (results_cell_tmp_row rfl _ _ (H + 1) _ _ _ rfl ((T1.out.set_ 0 (.int .i64 pl)).set_ 1 (.slice A n c)) Tryz.underlying25 rfl (by kernel_rfl)) rfl ?_
  exact hR.out _ _ (way_wrap F0.out (by have := HH.out; omega) BT.out.lt HG.out U1.out C1.out R1.out rfl)

end Go.Proofs.YtcdbfddoanigbaaGreat

/-
  Package modes: the get of mode three.
  Conditions: none beyond those of each theorem.
-/
namespace Go.Proofs.YtcdbfddoanigbaaGreat
open Go.RowKit
set_option linter.unusedVariables false
set_option linter.unusedSimpArgs false

theorem iclone_any (F : Nat → Prop) (B : Option Addr) (m d : Nat) (N : List Int) (w : World) (hr : Rd w F B m (ints N)) (hm : m ≤ 2 ^ 40) (h0 : 0 < m) :
    Calls Tryz.prog 18 #[.slice B m d] w fun e w' => ∃ g c, e = .returned (.slice (some ⟨g, 0, none⟩) m c) ∧ Rd w' (fun b => w.heap.size ≤ b) (some ⟨g, 0, none⟩) m (ints N) ∧ Fresh w w' := by
  have hN : N.length = m := by have := hr.1; simpa using this
  obtain ⟨b, o, rfl, hc⟩ := rd_ints_at hr h0
  refine (Tryz.slices_Clone_int b o m d N w (by omega) (by omega) hc).mono fun e w' h => ?_
  obtain ⟨v, rfl, ho, hne, hb⟩ := h
  rw [List.take_of_length_le (by omega)] at ho
  have ho2 : Own w' 3 v (ints N) := ⟨by simp, by
    rcases ho.2 with h | ⟨g, cap, cur, h1, h2, h3⟩
    · exact .inl ⟨h.1, by have := h.2; simp; omega⟩
    · exact .inr ⟨g, cap, cur, by simpa [hN] using h1, Nat.zero_le _, by simpa [hN, ints] using h3⟩⟩
  rcases ho.2 with h | ⟨g, cap, cur, rfl, h2, h3⟩
  · exact absurd h.1 hne
  · obtain ⟨hn, hcap, hrd⟩ := ho2.rd rfl
    rw [ints_length, hN] at hrd
    refine ⟨g, cap, rfl, hrd.mono (fun b hb => ?_), ?_⟩
    · have : g = b := by simpa [Value.ownBlock] using hb
      omega
    · exact Upd.of_below hb

set_option maxRecDepth 100000 in
set_option maxHeartbeats 2000000 in
theorem way6_no (F G : Nat → Prop) (g : Nat) (bs : List Nat) (at_ : Nat) (B : Option Addr) (m d : Nat) (p s x lg : Int) (N : List Int) (w : World) (hcu : CurAt w F g bs at_) (hr : Rd w G B m (ints N)) (hfit : Fit N) (hm : (m : Int) ≤ 1099511627776)
    (hv : ¬ Valid lg N s x) :
    Calls Tryz.prog 56 #[.agg #[.int .i64 p, .int .i64 s, .int .i64 x, .int .i64 lg, .slice B m d], .pointer (some ⟨g, 0, none⟩)] w
      (WayPost F g bs at_ 13 0 [] 0 w) := by
  obtain ⟨w0, hw0⟩ : ∃ w0, w0 = (w.alloc (.cells #[.int .i64 p, .int .i64 s, .int .i64 x, .int .i64 lg, .slice B m d] 48)).alloc (.cells #[.int .i64 0, .slice none 0 0] 25) := ⟨_, rfl⟩
  obtain ⟨H, hH⟩ : ∃ H, H = w.heap.size := ⟨_, rfl⟩
  have f0 : Fresh w w0 := by rw [hw0]; exact ((Upd.refl _ _).alloc _).alloc _
  have bp : Blk w0 H 48 #[.int .i64 p, .int .i64 s, .int .i64 x, .int .i64 lg, .slice B m d] := by rw [hw0]; exact (blk_new hH _ _).alloc _
  have bt : Blk w0 (H + 1) 25 #[.int .i64 0, .slice none 0 0] := by rw [hw0]; exact blk_new (by simp [hH]) _ _
  have HMY := hide ((pmay_any G B B m m d d p s x lg lg N w0 (hr.fresh f0) hfit hm).mono fun e w' q => (⟨by rw [q.1, if_neg hv], q.2⟩ : e = .returned (.int .i64 13) ∧ Fresh w0 w'))
  have q0 := bp.cell 0
  have q1 := bp.cell 1
  have q2 := bp.cell 2
  have q3 := bp.cell 3
  have q4 := bp.cell 4
  simp at q0 q1 q2 q3 q4
  have HG := hide hcu.lt
  have CU := hide (hcu.both.fresh f0)
  have BT := hide bt
  have F0 := hide f0
  have HW := hide hw0
  have HH := hide hH
  clear hcu bp bt f0 hw0 hH hv hr hm hfit
  refine veil fun R hR => ?_
  go_enter Tryz.func56, Tryz.ntmps56
  go_wp2_with fail
  simp only [← HH.out, ← HW.out]
  go_wp2_with fail
  refine HMY.out.mono ?_
  rintro e w1 ⟨rfl, f2⟩
  have t1 := BT.out.fresh f2
  have c0 := t1.cell 0
  have c2 := t1.cell 1
  have z0 := t1.frozen 0
  have z1 := t1.frozen 1
  simp at c0 c2
  have T1 := hide t1
  have F2 := hide f2
  have CU2 := hide (CU.out.fresh f2)
  clear f2 t1
  go_wp2_with fail
  refine bodyPost_ret (results_cell_tmp_row rfl _ _ (H + 1) _ _ _ rfl ((T1.out.set_ 0 (.int .i64 0)).set_ 1 (.slice none 0 0)) Tryz.underlying25 rfl (by kernel_rfl)) rfl ?_
  exact hR.out _ _ (way_wrap F0.out (by have := HH.out; omega) BT.out.lt HG.out (F2.out.mono (fun _ _ h => h.elim)) CU2.out (Rd.nil _ _ _) rfl)

set_option maxRecDepth 100000 in
set_option maxHeartbeats 4000000 in
theorem way6_ok (F G : Nat → Prop) (g : Nat) (bs : List Nat) (at_ : Nat) (B : Option Addr) (m d : Nat) (p s x lg : Int) (N : List Int) (w : World) (hcu : CurAt w F g bs at_) (hr : Rd w G B m (ints N)) (hfit : Fit N) (hm : (m : Int) ≤ 1099511627776)
    (hv : Valid lg N s x) :
    Calls Tryz.prog 56 #[.agg #[.int .i64 p, .int .i64 s, .int .i64 x, .int .i64 lg, .slice B m d], .pointer (some ⟨g, 0, none⟩)] w
      (WayPost F g bs at_ 0 lg N 0 w) := by
  obtain ⟨w0, hw0⟩ : ∃ w0, w0 = (w.alloc (.cells #[.int .i64 p, .int .i64 s, .int .i64 x, .int .i64 lg, .slice B m d] 48)).alloc (.cells #[.int .i64 0, .slice none 0 0] 25) := ⟨_, rfl⟩
  obtain ⟨H, hH⟩ : ∃ H, H = w.heap.size := ⟨_, rfl⟩
  have f0 : Fresh w w0 := by rw [hw0]; exact ((Upd.refl _ _).alloc _).alloc _
  have bp : Blk w0 H 48 #[.int .i64 p, .int .i64 s, .int .i64 x, .int .i64 lg, .slice B m d] := by rw [hw0]; exact (blk_new hH _ _).alloc _
  have bt : Blk w0 (H + 1) 25 #[.int .i64 0, .slice none 0 0] := by rw [hw0]; exact blk_new (by simp [hH]) _ _
  have HMY := hide ((pmay_any G B B m m d d p s x lg lg N w0 (hr.fresh f0) hfit hm).mono fun e w' q => (⟨by rw [q.1, if_pos hv], q.2⟩ : e = .returned (.int .i64 0) ∧ Fresh w0 w'))
  have hN : N.length = m := by have := hr.1; simpa using this
  have hm0 : 0 < m := by have := hv.2.2.2.1; omega
  have HCL := hide (fun W (h : Fresh w0 W) => iclone_any G B m d N W (hr.fresh (f0.trans' h)) (by omega) hm0)
  have q0 := bp.cell 0
  have q1 := bp.cell 1
  have q2 := bp.cell 2
  have q3 := bp.cell 3
  have q4 := bp.cell 4
  simp at q0 q1 q2 q3 q4
  have HG := hide hcu.lt
  have CU := hide (hcu.both.fresh f0)
  have BT := hide bt
  have BP := hide bp
  have F0 := hide f0
  have HW := hide hw0
  have HH := hide hH
  clear hcu bp bt f0 hw0 hH hv hr hm hfit hN hm0
  refine veil fun R hR => ?_
  go_enter Tryz.func56, Tryz.ntmps56
  go_wp2_with fail
  simp only [← HH.out, ← HW.out]
  go_wp2_with fail
  refine HMY.out.mono ?_
  rintro e w1 ⟨rfl, f2⟩
  have t1 := BT.out.fresh f2
  have p1 := BP.out.fresh f2
  have hS4 : ∀ W, Fresh w1 W → (Fresh w1 W ∧ W.cell? ⟨H, 3, none⟩ = some (.int .i64 lg) ∧ W.cell? ⟨H, 4, none⟩ = some (.slice B m d) ∧ W.cell? ⟨H + 1, 0, none⟩ = some (.int .i64 0) ∧ W.cell? ⟨H + 1, 1, none⟩ = some (.slice none 0 0) ∧ W.frozen? ⟨H + 1, 0, none⟩ = false ∧ W.frozen? ⟨H + 1, 1, none⟩ = false) := by
    intro W hW
    have b1 := p1.fresh hW
    have b2 := t1.fresh hW
    exact ⟨hW, by simpa using b1.cell 3, by simpa using b1.cell 4, by simpa using b2.cell 0, by simpa using b2.cell 1, b2.frozen 0, b2.frozen 1⟩
  have HSS := hide hS4
  have T1 := hide t1
  have F2 := hide f2
  have CU2 := hide (CU.out.fresh f2)
  clear f2 t1 p1 hS4 q0 q1 q2 q3 q4
  go_wp2_with fail
  obtain ⟨-, k3, k4, -⟩ := HSS.out w1 (Upd.refl _ _)
  go_region_with
    (first
      | (go_at_call 18; refine (HCL.out _ (by first | exact F2.out | exact F2.out.drew | exact F2.out.drewN _)).mono ?_; rintro e w' ⟨g2, c2, rfl, r2, f3⟩; have f3x : Fresh w1 w' := (by first | exact f3 | exact Upd.trans' ((Upd.refl _ _).drew) f3); obtain ⟨-, k3x, k4x, c0x, c1x, z0x, z1x⟩ := HSS.out _ f3x))
  all_goals
    have t3 := T1.out.fresh f3x
    have hsz : w0.heap.size ≤ w1.heap.size := F2.out.size
    have r3 := r2.mono (G := fun b => w0.heap.size ≤ b) (fun b hb => Nat.le_trans hsz hb)
    have T3 := hide t3
    have R3 := hide r3
    have CU3 := hide (CU2.out.fresh f3x)
    clear t3 r3 r2
    go_wp2_with fail
    refine bodyPost_ret (results_cell_tmp_row rfl _ _ (H + 1) _ _ _ rfl ((T3.out.set_ 0 (.int .i64 lg)).set_ 1 (.slice (some ⟨g2, 0, none⟩) m c2)) Tryz.underlying25 rfl (by kernel_rfl)) rfl ?_
    exact hR.out _ _ (way_wrap F0.out (by have := HH.out; omega) BT.out.lt HG.out ((F2.out.trans' f3x).mono (fun _ _ h => h.elim)) CU3.out R3.out rfl)

end Go.Proofs.YtcdbfddoanigbaaGreat

/-
  Slices of ints that read as a list and may be written.
  Conditions: none beyond those of each theorem.
-/
namespace Go.Proofs.YtcdbfddoanigbaaGreat
open Go.RowKit
set_option linter.unusedVariables false
set_option linter.unusedSimpArgs false

/-- reads as xs, and lies in a block of cells of which none is frozen -/
def RdU (w : World) (F : Nat → Prop) (A : Option Addr) (n : Nat) (xs : List Value) : Prop :=
  Rd w F A n xs ∧ (0 < n → ∃ b o t cs, A = some ⟨b, o, none⟩ ∧ F b ∧ Blk w b t cs)

section
variable {S F G : Nat → Prop} {w w' : World} {A : Option Addr} {n : Nat} {xs : List Value}
theorem RdU.nil (w : World) (F : Nat → Prop) (A : Option Addr) : RdU w F A 0 [] := ⟨Rd.nil w F A, fun h => absurd h (by omega)⟩
theorem RdU.mono (h : RdU w F A n xs) (hfg : ∀ b, F b → G b) : RdU w G A n xs :=
  ⟨h.1.mono hfg, fun hn => by obtain ⟨b, o, t, cs, e, hf, hb⟩ := h.2 hn; exact ⟨b, o, t, cs, e, hfg b hf, hb⟩⟩
theorem RdU.upd (h : RdU w F A n xs) (hu : Upd S w w') (hs : ∀ b, b < w.heap.size → F b → ¬ S b) : RdU w' F A n xs :=
  ⟨h.1.upd hu hs, fun hn => by obtain ⟨b, o, t, cs, e, hf, hb⟩ := h.2 hn; exact ⟨b, o, t, cs, e, hf, hb.upd hu (hs b hb.lt hf)⟩⟩
theorem RdU.fresh (h : RdU w F A n xs) (hu : Fresh w w') : RdU w' F A n xs := h.upd hu fun _ _ _ h => h
theorem RdU.alloc (h : RdU w F A n xs) (o : Obj) : RdU (w.alloc o) F A n xs := h.fresh ((Upd.refl _ _).alloc o)
theorem RdU.both (h : RdU w F A n xs) : RdU w (fun b => F b ∧ b < w.heap.size) A n xs :=
  ⟨h.1.both, fun hn => by obtain ⟨b, o, t, cs, e, hf, hb⟩ := h.2 hn; exact ⟨b, o, t, cs, e, ⟨hf, hb.lt⟩, hb⟩⟩
end
theorem Own.rdu {w : World} {e : TypeId} {A : Option Addr} {n c : Nat} {xs : List Value} (h : Own w e (.slice A n c) xs) : RdU w (fun b => (Value.slice A n c).ownBlock = some b) A n xs := by
  obtain ⟨h1, h2, h3⟩ := h.rd rfl
  subst h1
  refine ⟨h3, fun hn => ?_⟩
  rcases h.2 with ⟨h4, h5⟩ | ⟨g, cap, cur, h4, _, h5, _⟩
  · omega
  · injection h4 with e1 e2 e3
    subst e1
    exact ⟨g, 0, e, cur, rfl, rfl, h5⟩

theorem icloneU_any (F : Nat → Prop) (B : Option Addr) (m d : Nat) (N : List Int) (w : World) (hr : Rd w F B m (ints N)) (hm : m ≤ 2 ^ 40) (h0 : 0 < m) :
    Calls Tryz.prog 18 #[.slice B m d] w fun e w' => ∃ g c, e = .returned (.slice (some ⟨g, 0, none⟩) m c) ∧ RdU w' (fun b => w.heap.size ≤ b) (some ⟨g, 0, none⟩) m (ints N) ∧ Fresh w w' := by
  have hN : N.length = m := by have := hr.1; simpa using this
  obtain ⟨b, o, rfl, hc⟩ := rd_ints_at hr h0
  refine (Tryz.slices_Clone_int b o m d N w (by omega) (by omega) hc).mono fun e w' h => ?_
  obtain ⟨v, rfl, ho, hne, hb⟩ := h
  rw [List.take_of_length_le (by omega)] at ho
  have ho2 : Own w' 3 v (ints N) := ⟨by simp, by
    rcases ho.2 with h | ⟨g, cap, cur, h1, h2, h3⟩
    · exact .inl ⟨h.1, by have := h.2; simp; omega⟩
    · exact .inr ⟨g, cap, cur, by simpa [hN] using h1, Nat.zero_le _, by simpa [hN, ints] using h3⟩⟩
  rcases ho.2 with h | ⟨g, cap, cur, rfl, h2, h3⟩
  · exact absurd h.1 hne
  · have hrd := ho2.rdu
    refine ⟨g, cap, rfl, hrd.mono (fun b hb => ?_), ?_⟩
    · have : g = b := by simpa [Value.ownBlock] using hb
      omega
    · exact Upd.of_below hb

end Go.Proofs.YtcdbfddoanigbaaGreat

/-
  Package modes: Decode.
  Conditions: none beyond those of each theorem.
-/
namespace Go.Proofs.YtcdbfddoanigbaaGreat
open Go.RowKit
set_option linter.unusedVariables false
set_option linter.unusedSimpArgs false

/-- what a way's get reads: the error, the Log, the norms, the bytes read -/
def decM (m p lg : Int) (N : List Int) (bs : List Nat) (at_ : Nat) : Int × Int × List Int × Nat :=
  if m = 0 then (0, partL p, partN p, 0) else if m = 1 then ((oneS bs at_ (partS p)).1, 0, (oneS bs at_ (partS p)).2.1, (oneS bs at_ (partS p)).2.2)
  else if m = 2 then desS bs at_ (partS p) (partX p) else if Valid lg N (partS p) (partX p) then (0, lg, N, 0) else (13, 0, [], 0)
/-- what Decode reads -/
def decN (m p lg : Int) (N : List Int) (bs : List Nat) (at_ : Nat) : Int × Int × List Int × Nat :=
  if p < 0 ∨ 2 < p ∨ m < 0 ∨ 3 < m then (2, 0, [], 0) else decM m p lg N bs at_

theorem WayPost.no {F : Nat → Prop} {g : Nat} {bs : List Nat} {at_ : Nat} {x : Int} {w w' : World} {e : Ending} (hc : CurAt w F g bs at_) (h : e = .returned (.tuple #[.agg #[.int .i64 0, .slice none 0 0], .int .i64 x]) ∧ Fresh w w') : WayPost F g bs at_ x 0 [] 0 w e w' :=
  ⟨h.2.mono (fun _ _ h => h.elim), hc.fresh h.2, none, 0, 0, h.1, Rd.nil _ _ _⟩

theorem getM0 (F G : Nat → Prop) (g : Nat) (bs : List Nat) (at_ : Nat) (B : Option Addr) (m d : Nat) (p lg : Int) (N : List Int) (W : World) (hcu : CurAt W F g bs at_) (hF : ∀ b, F b → b ≠ g) (hr : Rd W G B m (ints N)) (hfit : Fit N) (hm : (m : Int) ≤ 1099511627776) (hp : 0 ≤ p ∧ p ≤ 2) :
    Calls Tryz.prog 46 #[.agg #[.int .i64 p, .int .i64 (partS p), .int .i64 (partX p), .int .i64 lg, .slice B m d], .pointer (some ⟨g, 0, none⟩)] W
      (WayPost F g bs at_ (decM 0 p lg N bs at_).1 (decM 0 p lg N bs at_).2.1 (decM 0 p lg N bs at_).2.2.1 (decM 0 p lg N bs at_).2.2.2 W) := by
  exact way1_any F g bs at_ B m d p (partS p) (partX p) lg W hcu hp

theorem getM1 (F G : Nat → Prop) (g : Nat) (bs : List Nat) (at_ : Nat) (B : Option Addr) (m d : Nat) (p lg : Int) (N : List Int) (W : World) (hcu : CurAt W F g bs at_) (hF : ∀ b, F b → b ≠ g) (hr : Rd W G B m (ints N)) (hfit : Fit N) (hm : (m : Int) ≤ 1099511627776) (hp : 0 ≤ p ∧ p ≤ 2) :
    Calls Tryz.prog 50 #[.agg #[.int .i64 p, .int .i64 (partS p), .int .i64 (partX p), .int .i64 lg, .slice B m d], .pointer (some ⟨g, 0, none⟩)] W
      (WayPost F g bs at_ (decM 1 p lg N bs at_).1 (decM 1 p lg N bs at_).2.1 (decM 1 p lg N bs at_).2.2.1 (decM 1 p lg N bs at_).2.2.2 W) := by
  exact one_any F g bs at_ B m d p (partS p) (partX p) lg W hcu hF

theorem getM2 (F G : Nat → Prop) (g : Nat) (bs : List Nat) (at_ : Nat) (B : Option Addr) (m d : Nat) (p lg : Int) (N : List Int) (W : World) (hcu : CurAt W F g bs at_) (hF : ∀ b, F b → b ≠ g) (hr : Rd W G B m (ints N)) (hfit : Fit N) (hm : (m : Int) ≤ 1099511627776) (hp : 0 ≤ p ∧ p ≤ 2) :
    Calls Tryz.prog 52 #[.agg #[.int .i64 p, .int .i64 (partS p), .int .i64 (partX p), .int .i64 lg, .slice B m d], .pointer (some ⟨g, 0, none⟩)] W
      (WayPost F g bs at_ (decM 2 p lg N bs at_).1 (decM 2 p lg N bs at_).2.1 (decM 2 p lg N bs at_).2.2.1 (decM 2 p lg N bs at_).2.2.2 W) := by
  exact way4_any F g bs at_ B m d p (partS p) (partX p) lg W hcu hF

theorem getM3 (F G : Nat → Prop) (g : Nat) (bs : List Nat) (at_ : Nat) (B : Option Addr) (m d : Nat) (p lg : Int) (N : List Int) (W : World) (hcu : CurAt W F g bs at_) (hF : ∀ b, F b → b ≠ g) (hr : Rd W G B m (ints N)) (hfit : Fit N) (hm : (m : Int) ≤ 1099511627776) (hp : 0 ≤ p ∧ p ≤ 2) :
    Calls Tryz.prog 56 #[.agg #[.int .i64 p, .int .i64 (partS p), .int .i64 (partX p), .int .i64 lg, .slice B m d], .pointer (some ⟨g, 0, none⟩)] W
      (WayPost F g bs at_ (decM 3 p lg N bs at_).1 (decM 3 p lg N bs at_).2.1 (decM 3 p lg N bs at_).2.2.1 (decM 3 p lg N bs at_).2.2.2 W) := by
  by_cases hv : Valid lg N (partS p) (partX p)
  · have h : decM 3 p lg N bs at_ = (0, lg, N, 0) := by simp [decM, hv]
    rw [h]
    exact way6_ok F G g bs at_ B m d p _ _ lg N W hcu hr hfit hm hv
  · have h : decM 3 p lg N bs at_ = (13, 0, [], 0) := by simp [decM, hv]
    rw [h]
    exact way6_no F G g bs at_ B m d p _ _ lg N W hcu hr hfit hm hv

set_option maxRecDepth 100000 in
set_option maxHeartbeats 2000000 in
theorem mdec_nil_ok (B : Option Addr) (m d : Nat) (mo p lg : Int) (w : World) (hp : 0 ≤ p ∧ p ≤ 2) :
    Calls Tryz.prog 10 #[.pointer (none), .int .i64 mo, .int .i64 p, .agg #[.int .i64 lg, .slice B m d]] w fun e w' => e = .returned (.tuple #[.agg #[.int .i64 0, .slice none 0 0], .int .i64 1]) ∧ Fresh w w' := by
  obtain ⟨w0, hw0⟩ : ∃ w0, w0 = (w.alloc (.cells #[.int .i64 lg, .slice B m d] 25)).alloc (.cells #[.int .i64 0, .slice none 0 0] 25) := ⟨_, rfl⟩
  obtain ⟨H, hH⟩ : ∃ H, H = w.heap.size := ⟨_, rfl⟩
  have f0 : Fresh w w0 := by rw [hw0]; exact ((Upd.refl _ _).alloc _).alloc _
  have bt : Blk w0 H 25 #[.int .i64 lg, .slice B m d] := by rw [hw0]; exact (blk_new hH _ _).alloc _
  have br : Blk w0 (H + 1) 25 #[.int .i64 0, .slice none 0 0] := by rw [hw0]; exact blk_new (by simp [hH]) _ _
  have HM := hide (mof_any p lg B m d w0 hp)
  have BR := hide br
  have F0 := hide f0
  have HW := hide hw0
  have HH := hide hH
  have HWY := hide (ways_raw)
  have t0 := bt.cell 0
  have t1 := bt.cell 1
  simp at t0 t1
  clear bt br f0 hw0 hH
  clear hp
  generalize partS p = s at *
  generalize partX p = x at *
  refine veil fun R hR => ?_
  go_enter Tryz.func10, Tryz.ntmps10
  go_wp2_with fail
  simp only [← HH.out, ← HW.out]
  go_wp2_with fail
  refine HM.out.mono ?_
  rintro e w1 ⟨rfl, f1⟩
  obtain ⟨w2, hw2⟩ : ∃ w2, w2 = w1.alloc (.cells #[.int .i64 p, .int .i64 s, .int .i64 x, .int .i64 lg, .slice B m d] 48) := ⟨_, rfl⟩
  obtain ⟨H1, hH1⟩ : ∃ H1, H1 = w1.heap.size := ⟨_, rfl⟩
  have f12 : Fresh w1 w2 := by rw [hw2]; exact (Upd.refl _ _).alloc _
  have r2 := BR.out.fresh (f1.trans' f12)
  have c2 : Blk w2 H1 48 #[.int .i64 p, .int .i64 s, .int .i64 x, .int .i64 lg, .slice B m d] := by rw [hw2]; exact blk_new hH1 _ _
  have r2r := BR.out.fresh f1
  have c0 : ∀ o, (w1.alloc o).cell? ⟨H + 1, 0, none⟩ = some (.int .i64 0) := fun o => by simpa using (r2r.alloc o).cell 0
  have c1 : ∀ o, (w1.alloc o).cell? ⟨H + 1, 1, none⟩ = some (.slice none 0 0) := fun o => by simpa using (r2r.alloc o).cell 1
  have z0 : ∀ o, (w1.alloc o).frozen? ⟨H + 1, 0, none⟩ = false := fun o => (r2r.alloc o).frozen 0
  have z1 : ∀ o, (w1.alloc o).frozen? ⟨H + 1, 1, none⟩ = false := fun o => (r2r.alloc o).frozen 1
  have d0 := r2r.cell 0
  have d1 := r2r.cell 1
  have y0 := r2r.frozen 0
  have y1 := r2r.frozen 1
  have hlt := r2r.lt
  simp at d0 d1
  have R1 := hide r2r
  have R2 := hide r2
  have C2 := hide c2
  have F2 := hide ((F0.out.trans' f1).trans' f12)
  have F1 := hide (F0.out.trans' f1)
  have HW2 := hide hw2
  have HH1 := hide hH1
  clear f1 f12 r2 c2 hw2 hH1 r2r
  go_wp2_with fail
  first
    | exact bodyPost_ret (results_cell_tmp_row rfl _ _ (H + 1) _ _ _ rfl (((R1.out.set_ 0 (.int .i64 0)).set_ 1 (.slice none 0 0)).alloc _) Tryz.underlying25 rfl (by kernel_rfl)) rfl
        (hR.out _ _ ⟨rfl, (F1.out.trans (setTwoP w1 (H + 1) _ _) (fun b hb h => by have := HH.out; omega)).alloc _⟩)
    | exact bodyPost_ret (results_cell_tmp_row rfl _ _ (H + 1) _ _ _ rfl (((R1.out.alloc _).set_ 0 (.int .i64 0)).set_ 1 (.slice none 0 0)) Tryz.underlying25 rfl (by kernel_rfl)) rfl
        (hR.out _ _ ⟨rfl, (F1.out.alloc _).trans (setTwoP _ (H + 1) _ _) (fun b hb h => by have := HH.out; omega)⟩)

set_option maxRecDepth 100000 in
set_option maxHeartbeats 2000000 in
theorem mdec_nil_no (B : Option Addr) (m d : Nat) (mo p lg : Int) (w : World) (hp : p < 0 ∨ 2 < p) :
    Calls Tryz.prog 10 #[.pointer (none), .int .i64 mo, .int .i64 p, .agg #[.int .i64 lg, .slice B m d]] w fun e w' => e = .returned (.tuple #[.agg #[.int .i64 0, .slice none 0 0], .int .i64 1]) ∧ Fresh w w' := by
  obtain ⟨w0, hw0⟩ : ∃ w0, w0 = (w.alloc (.cells #[.int .i64 lg, .slice B m d] 25)).alloc (.cells #[.int .i64 0, .slice none 0 0] 25) := ⟨_, rfl⟩
  obtain ⟨H, hH⟩ : ∃ H, H = w.heap.size := ⟨_, rfl⟩
  have f0 : Fresh w w0 := by rw [hw0]; exact ((Upd.refl _ _).alloc _).alloc _
  have bt : Blk w0 H 25 #[.int .i64 lg, .slice B m d] := by rw [hw0]; exact (blk_new hH _ _).alloc _
  have br : Blk w0 (H + 1) 25 #[.int .i64 0, .slice none 0 0] := by rw [hw0]; exact blk_new (by simp [hH]) _ _
  have HM := hide (mof_no p lg B m d w0 hp)
  have BR := hide br
  have F0 := hide f0
  have HW := hide hw0
  have HH := hide hH
  have HWY := hide (ways_raw)
  have t0 := bt.cell 0
  have t1 := bt.cell 1
  simp at t0 t1
  clear bt br f0 hw0 hH
  clear hp
  refine veil fun R hR => ?_
  go_enter Tryz.func10, Tryz.ntmps10
  go_wp2_with fail
  simp only [← HH.out, ← HW.out]
  go_wp2_with fail
  refine HM.out.mono ?_
  rintro e w1 ⟨rfl, f1⟩
  obtain ⟨w2, hw2⟩ : ∃ w2, w2 = w1.alloc (.cells #[.int .i64 0, .int .i64 0, .int .i64 0, .int .i64 0, .slice none 0 0] 48) := ⟨_, rfl⟩
  obtain ⟨H1, hH1⟩ : ∃ H1, H1 = w1.heap.size := ⟨_, rfl⟩
  have f12 : Fresh w1 w2 := by rw [hw2]; exact (Upd.refl _ _).alloc _
  have r2 := BR.out.fresh (f1.trans' f12)
  have c2 : Blk w2 H1 48 #[.int .i64 0, .int .i64 0, .int .i64 0, .int .i64 0, .slice none 0 0] := by rw [hw2]; exact blk_new hH1 _ _
  have r2r := BR.out.fresh f1
  have c0 : ∀ o, (w1.alloc o).cell? ⟨H + 1, 0, none⟩ = some (.int .i64 0) := fun o => by simpa using (r2r.alloc o).cell 0
  have c1 : ∀ o, (w1.alloc o).cell? ⟨H + 1, 1, none⟩ = some (.slice none 0 0) := fun o => by simpa using (r2r.alloc o).cell 1
  have z0 : ∀ o, (w1.alloc o).frozen? ⟨H + 1, 0, none⟩ = false := fun o => (r2r.alloc o).frozen 0
  have z1 : ∀ o, (w1.alloc o).frozen? ⟨H + 1, 1, none⟩ = false := fun o => (r2r.alloc o).frozen 1
  have d0 := r2r.cell 0
  have d1 := r2r.cell 1
  have y0 := r2r.frozen 0
  have y1 := r2r.frozen 1
  have hlt := r2r.lt
  simp at d0 d1
  have R1 := hide r2r
  have R2 := hide r2
  have C2 := hide c2
  have F2 := hide ((F0.out.trans' f1).trans' f12)
  have F1 := hide (F0.out.trans' f1)
  have HW2 := hide hw2
  have HH1 := hide hH1
  clear f1 f12 r2 c2 hw2 hH1 r2r
  go_wp2_with fail
  first
    | exact bodyPost_ret (results_cell_tmp_row rfl _ _ (H + 1) _ _ _ rfl (((R1.out.set_ 0 (.int .i64 0)).set_ 1 (.slice none 0 0)).alloc _) Tryz.underlying25 rfl (by kernel_rfl)) rfl
        (hR.out _ _ ⟨rfl, (F1.out.trans (setTwoP w1 (H + 1) _ _) (fun b hb h => by have := HH.out; omega)).alloc _⟩)
    | exact bodyPost_ret (results_cell_tmp_row rfl _ _ (H + 1) _ _ _ rfl (((R1.out.alloc _).set_ 0 (.int .i64 0)).set_ 1 (.slice none 0 0)) Tryz.underlying25 rfl (by kernel_rfl)) rfl
        (hR.out _ _ ⟨rfl, (F1.out.alloc _).trans (setTwoP _ (H + 1) _ _) (fun b hb h => by have := HH.out; omega)⟩)

set_option maxRecDepth 100000 in
set_option maxHeartbeats 2000000 in
theorem mdec_part (g : Nat) (B : Option Addr) (m d : Nat) (mo p lg : Int) (w : World) (hp : p < 0 ∨ 2 < p) :
    Calls Tryz.prog 10 #[.pointer (some ⟨g, 0, none⟩), .int .i64 mo, .int .i64 p, .agg #[.int .i64 lg, .slice B m d]] w fun e w' => e = .returned (.tuple #[.agg #[.int .i64 0, .slice none 0 0], .int .i64 2]) ∧ Fresh w w' := by
  obtain ⟨w0, hw0⟩ : ∃ w0, w0 = (w.alloc (.cells #[.int .i64 lg, .slice B m d] 25)).alloc (.cells #[.int .i64 0, .slice none 0 0] 25) := ⟨_, rfl⟩
  obtain ⟨H, hH⟩ : ∃ H, H = w.heap.size := ⟨_, rfl⟩
  have f0 : Fresh w w0 := by rw [hw0]; exact ((Upd.refl _ _).alloc _).alloc _
  have bt : Blk w0 H 25 #[.int .i64 lg, .slice B m d] := by rw [hw0]; exact (blk_new hH _ _).alloc _
  have br : Blk w0 (H + 1) 25 #[.int .i64 0, .slice none 0 0] := by rw [hw0]; exact blk_new (by simp [hH]) _ _
  have HM := hide (mof_no p lg B m d w0 hp)
  have BR := hide br
  have F0 := hide f0
  have HW := hide hw0
  have HH := hide hH
  have HWY := hide (ways_raw)
  have t0 := bt.cell 0
  have t1 := bt.cell 1
  simp at t0 t1
  clear bt br f0 hw0 hH
  clear hp
  refine veil fun R hR => ?_
  go_enter Tryz.func10, Tryz.ntmps10
  go_wp2_with fail
  simp only [← HH.out, ← HW.out]
  go_wp2_with fail
  refine HM.out.mono ?_
  rintro e w1 ⟨rfl, f1⟩
  obtain ⟨w2, hw2⟩ : ∃ w2, w2 = w1.alloc (.cells #[.int .i64 0, .int .i64 0, .int .i64 0, .int .i64 0, .slice none 0 0] 48) := ⟨_, rfl⟩
  obtain ⟨H1, hH1⟩ : ∃ H1, H1 = w1.heap.size := ⟨_, rfl⟩
  have f12 : Fresh w1 w2 := by rw [hw2]; exact (Upd.refl _ _).alloc _
  have r2 := BR.out.fresh (f1.trans' f12)
  have c2 : Blk w2 H1 48 #[.int .i64 0, .int .i64 0, .int .i64 0, .int .i64 0, .slice none 0 0] := by rw [hw2]; exact blk_new hH1 _ _
  have r2r := BR.out.fresh f1
  have c0 : ∀ o, (w1.alloc o).cell? ⟨H + 1, 0, none⟩ = some (.int .i64 0) := fun o => by simpa using (r2r.alloc o).cell 0
  have c1 : ∀ o, (w1.alloc o).cell? ⟨H + 1, 1, none⟩ = some (.slice none 0 0) := fun o => by simpa using (r2r.alloc o).cell 1
  have z0 : ∀ o, (w1.alloc o).frozen? ⟨H + 1, 0, none⟩ = false := fun o => (r2r.alloc o).frozen 0
  have z1 : ∀ o, (w1.alloc o).frozen? ⟨H + 1, 1, none⟩ = false := fun o => (r2r.alloc o).frozen 1
  have d0 := r2r.cell 0
  have d1 := r2r.cell 1
  have y0 := r2r.frozen 0
  have y1 := r2r.frozen 1
  have hlt := r2r.lt
  simp at d0 d1
  have R1 := hide r2r
  have R2 := hide r2
  have C2 := hide c2
  have F2 := hide ((F0.out.trans' f1).trans' f12)
  have F1 := hide (F0.out.trans' f1)
  have HW2 := hide hw2
  have HH1 := hide hH1
  clear f1 f12 r2 c2 hw2 hH1 r2r
  go_wp2_with fail
  first
    | exact bodyPost_ret (results_cell_tmp_row rfl _ _ (H + 1) _ _ _ rfl (((R1.out.set_ 0 (.int .i64 0)).set_ 1 (.slice none 0 0)).alloc _) Tryz.underlying25 rfl (by kernel_rfl)) rfl
        (hR.out _ _ ⟨rfl, (F1.out.trans (setTwoP w1 (H + 1) _ _) (fun b hb h => by have := HH.out; omega)).alloc _⟩)
    | exact bodyPost_ret (results_cell_tmp_row rfl _ _ (H + 1) _ _ _ rfl (((R1.out.alloc _).set_ 0 (.int .i64 0)).set_ 1 (.slice none 0 0)) Tryz.underlying25 rfl (by kernel_rfl)) rfl
        (hR.out _ _ ⟨rfl, (F1.out.alloc _).trans (setTwoP _ (H + 1) _ _) (fun b hb h => by have := HH.out; omega)⟩)

set_option maxRecDepth 100000 in
set_option maxHeartbeats 2000000 in
theorem mdec_neg (g : Nat) (B : Option Addr) (m d : Nat) (mo p lg : Int) (w : World) (hp : 0 ≤ p ∧ p ≤ 2) (hmo : mo < 0) :
    Calls Tryz.prog 10 #[.pointer (some ⟨g, 0, none⟩), .int .i64 mo, .int .i64 p, .agg #[.int .i64 lg, .slice B m d]] w fun e w' => e = .returned (.tuple #[.agg #[.int .i64 0, .slice none 0 0], .int .i64 2]) ∧ Fresh w w' := by
  obtain ⟨w0, hw0⟩ : ∃ w0, w0 = (w.alloc (.cells #[.int .i64 lg, .slice B m d] 25)).alloc (.cells #[.int .i64 0, .slice none 0 0] 25) := ⟨_, rfl⟩
  obtain ⟨H, hH⟩ : ∃ H, H = w.heap.size := ⟨_, rfl⟩
  have f0 : Fresh w w0 := by rw [hw0]; exact ((Upd.refl _ _).alloc _).alloc _
  have bt : Blk w0 H 25 #[.int .i64 lg, .slice B m d] := by rw [hw0]; exact (blk_new hH _ _).alloc _
  have br : Blk w0 (H + 1) 25 #[.int .i64 0, .slice none 0 0] := by rw [hw0]; exact blk_new (by simp [hH]) _ _
  have HM := hide (mof_any p lg B m d w0 hp)
  have BR := hide br
  have F0 := hide f0
  have HW := hide hw0
  have HH := hide hH
  have HWY := hide (ways_raw)
  have t0 := bt.cell 0
  have t1 := bt.cell 1
  simp at t0 t1
  clear bt br f0 hw0 hH
  clear hp
  generalize partS p = s at *
  generalize partX p = x at *
  refine veil fun R hR => ?_
  go_enter Tryz.func10, Tryz.ntmps10
  go_wp2_with fail
  simp only [← HH.out, ← HW.out]
  go_wp2_with fail
  refine HM.out.mono ?_
  rintro e w1 ⟨rfl, f1⟩
  obtain ⟨w2, hw2⟩ : ∃ w2, w2 = w1.alloc (.cells #[.int .i64 p, .int .i64 s, .int .i64 x, .int .i64 lg, .slice B m d] 48) := ⟨_, rfl⟩
  obtain ⟨H1, hH1⟩ : ∃ H1, H1 = w1.heap.size := ⟨_, rfl⟩
  have f12 : Fresh w1 w2 := by rw [hw2]; exact (Upd.refl _ _).alloc _
  have r2 := BR.out.fresh (f1.trans' f12)
  have c2 : Blk w2 H1 48 #[.int .i64 p, .int .i64 s, .int .i64 x, .int .i64 lg, .slice B m d] := by rw [hw2]; exact blk_new hH1 _ _
  have r2r := BR.out.fresh f1
  have c0 : ∀ o, (w1.alloc o).cell? ⟨H + 1, 0, none⟩ = some (.int .i64 0) := fun o => by simpa using (r2r.alloc o).cell 0
  have c1 : ∀ o, (w1.alloc o).cell? ⟨H + 1, 1, none⟩ = some (.slice none 0 0) := fun o => by simpa using (r2r.alloc o).cell 1
  have z0 : ∀ o, (w1.alloc o).frozen? ⟨H + 1, 0, none⟩ = false := fun o => (r2r.alloc o).frozen 0
  have z1 : ∀ o, (w1.alloc o).frozen? ⟨H + 1, 1, none⟩ = false := fun o => (r2r.alloc o).frozen 1
  have d0 := r2r.cell 0
  have d1 := r2r.cell 1
  have y0 := r2r.frozen 0
  have y1 := r2r.frozen 1
  have hlt := r2r.lt
  simp at d0 d1
  have R1 := hide r2r
  have R2 := hide r2
  have C2 := hide c2
  have F2 := hide ((F0.out.trans' f1).trans' f12)
  have F1 := hide (F0.out.trans' f1)
  have HW2 := hide hw2
  have HH1 := hide hH1
  clear f1 f12 r2 c2 hw2 hH1 r2r
  go_wp2_with fail
  first
    | exact bodyPost_ret (results_cell_tmp_row rfl _ _ (H + 1) _ _ _ rfl (((R1.out.set_ 0 (.int .i64 0)).set_ 1 (.slice none 0 0)).alloc _) Tryz.underlying25 rfl (by kernel_rfl)) rfl
        (hR.out _ _ ⟨rfl, (F1.out.trans (setTwoP w1 (H + 1) _ _) (fun b hb h => by have := HH.out; omega)).alloc _⟩)
    | exact bodyPost_ret (results_cell_tmp_row rfl _ _ (H + 1) _ _ _ rfl (((R1.out.alloc _).set_ 0 (.int .i64 0)).set_ 1 (.slice none 0 0)) Tryz.underlying25 rfl (by kernel_rfl)) rfl
        (hR.out _ _ ⟨rfl, (F1.out.alloc _).trans (setTwoP _ (H + 1) _ _) (fun b hb h => by have := HH.out; omega)⟩)


end Go.Proofs.YtcdbfddoanigbaaGreat

/-
  Package modes: Decode, the modes.
  Conditions: none beyond those of each theorem.
-/
namespace Go.Proofs.YtcdbfddoanigbaaGreat
open Go.RowKit
set_option linter.unusedVariables false
set_option linter.unusedSimpArgs false

set_option maxRecDepth 100000 in
set_option maxHeartbeats 2000000 in
theorem mdec_big (g : Nat) (B : Option Addr) (m d : Nat) (mo p lg : Int) (w : World) (hp : 0 ≤ p ∧ p ≤ 2) (hmo : 3 < mo) :
    Calls Tryz.prog 10 #[.pointer (some ⟨g, 0, none⟩), .int .i64 mo, .int .i64 p, .agg #[.int .i64 lg, .slice B m d]] w fun e w' => e = .returned (.tuple #[.agg #[.int .i64 0, .slice none 0 0], .int .i64 2]) ∧ Fresh w w' := by
  have hm1 : 0 ≤ mo := by omega
  have hm2 : 4 ≤ mo := by omega
  clear hmo
  obtain ⟨w0, hw0⟩ : ∃ w0, w0 = (w.alloc (.cells #[.int .i64 lg, .slice B m d] 25)).alloc (.cells #[.int .i64 0, .slice none 0 0] 25) := ⟨_, rfl⟩
  obtain ⟨H, hH⟩ : ∃ H, H = w.heap.size := ⟨_, rfl⟩
  have f0 : Fresh w w0 := by rw [hw0]; exact ((Upd.refl _ _).alloc _).alloc _
  have bt : Blk w0 H 25 #[.int .i64 lg, .slice B m d] := by rw [hw0]; exact (blk_new hH _ _).alloc _
  have br : Blk w0 (H + 1) 25 #[.int .i64 0, .slice none 0 0] := by rw [hw0]; exact blk_new (by simp [hH]) _ _
  have HM := hide (mof_any p lg B m d w0 hp)
  have BR := hide br
  have F0 := hide f0
  have HW := hide hw0
  have HH := hide hH
  have HWY := hide (ways_raw)
  have t0 := bt.cell 0
  have t1 := bt.cell 1
  simp at t0 t1
  clear bt br f0 hw0 hH hp
  generalize partS p = s at *
  generalize partX p = x at *
  refine veil fun R hR => ?_
  go_enter Tryz.func10, Tryz.ntmps10
  go_wp2_with fail
  simp only [← HH.out, ← HW.out]
  go_wp2_with fail
  refine HM.out.mono ?_
  rintro e w1 ⟨rfl, f1⟩
  obtain ⟨w2, hw2⟩ : ∃ w2, w2 = w1.alloc (.cells #[.int .i64 p, .int .i64 s, .int .i64 x, .int .i64 lg, .slice B m d] 48) := ⟨_, rfl⟩
  obtain ⟨H1, hH1⟩ : ∃ H1, H1 = w1.heap.size := ⟨_, rfl⟩
  have f12 : Fresh w1 w2 := by rw [hw2]; exact (Upd.refl _ _).alloc _
  have r2 := BR.out.fresh (f1.trans' f12)
  have c2 : Blk w2 H1 48 #[.int .i64 p, .int .i64 s, .int .i64 x, .int .i64 lg, .slice B m d] := by rw [hw2]; exact blk_new hH1 _ _
  have R2 := hide r2
  have C2 := hide c2
  have F2 := hide ((F0.out.trans' f1).trans' f12)
  have HW2 := hide hw2
  have HH1 := hide hH1
  clear f1 f12 r2 c2 hw2 hH1
  go_wp2_with fail
  simp only [← HW2.out]
  refine (HWY.out _).mono ?_
  rintro e w3 ⟨rfl, f3⟩
  have r3 := R2.out.fresh f3
  have p3 := C2.out.fresh f3
  have c0 := r3.cell 0
  have c1 := r3.cell 1
  have z0 := r3.frozen 0
  have z1 := r3.frozen 1
  simp at c0 c1
  have R3 := hide r3
  have F3 := hide (F2.out.trans' f3)
  clear f3 r3 p3
  go_wp2_with fail
  exact bodyPost_ret (results_cell_tmp_row rfl _ _ (H + 1) _ _ _ rfl ((R3.out.set_ 0 (.int .i64 0)).set_ 1 (.slice none 0 0)) Tryz.underlying25 rfl (by kernel_rfl)) rfl
    (hR.out _ _ ⟨rfl, F3.out.trans (setTwoP w3 (H + 1) _ _) (fun b hb h => by have := HH.out; omega)⟩)

set_option maxRecDepth 100000 in
set_option maxHeartbeats 4000000 in
theorem mdec_ok0 (F G : Nat → Prop) (g : Nat) (bs : List Nat) (at_ : Nat) (B : Option Addr) (m d : Nat) (p lg : Int) (N : List Int) (w : World) (hcu : CurAt w F g bs at_) (hF : ∀ b, F b → b ≠ g) (hr : Rd w G B m (ints N)) (hfit : Fit N) (hm : (m : Int) ≤ 1099511627776) (hp : 0 ≤ p ∧ p ≤ 2) :
    Calls Tryz.prog 10 #[.pointer (some ⟨g, 0, none⟩), .int .i64 0, .int .i64 p, .agg #[.int .i64 lg, .slice B m d]] w (WayPost F g bs at_ (decM 0 p lg N bs at_).1 (decM 0 p lg N bs at_).2.1 (decM 0 p lg N bs at_).2.2.1 (decM 0 p lg N bs at_).2.2.2 w) := by
  obtain ⟨w0, hw0⟩ : ∃ w0, w0 = (w.alloc (.cells #[.int .i64 lg, .slice B m d] 25)).alloc (.cells #[.int .i64 0, .slice none 0 0] 25) := ⟨_, rfl⟩
  obtain ⟨H, hH⟩ : ∃ H, H = w.heap.size := ⟨_, rfl⟩
  have f0 : Fresh w w0 := by rw [hw0]; exact ((Upd.refl _ _).alloc _).alloc _
  have bt : Blk w0 H 25 #[.int .i64 lg, .slice B m d] := by rw [hw0]; exact (blk_new hH _ _).alloc _
  have br : Blk w0 (H + 1) 25 #[.int .i64 0, .slice none 0 0] := by rw [hw0]; exact blk_new (by simp [hH]) _ _
  have HM := hide (mof_any p lg B m d w0 hp)
  have BR := hide br
  have F0 := hide f0
  have HW := hide hw0
  have HH := hide hH
  have HWY := hide (ways_raw)
  have t0 := bt.cell 0
  have t1 := bt.cell 1
  simp at t0 t1
  have HWK := hide (fun W (h : Fresh w W) => getM0 (fun b => F b ∧ b < w.heap.size) G g bs at_ B m d p lg N W (hcu.both.fresh h) (fun b hb => hF b hb.1) (hr.fresh h) hfit hm hp)
  have HG := hide hcu.lt
  have HGH : ¬ (H + 1 = g) := by have := hcu.lt; omega
  generalize decM 0 p lg N bs at_ = dn at *
  obtain ⟨dx, dl, dN, dk⟩ := dn
  simp only at HWK ⊢
  clear bt br f0 hw0 hH hp hcu hF hr hfit hm
  generalize partS p = s at *
  generalize partX p = x at *
  refine veil fun R hR => ?_
  go_enter Tryz.func10, Tryz.ntmps10
  go_wp2_with fail
  simp only [← HH.out, ← HW.out]
  go_wp2_with fail
  refine HM.out.mono ?_
  rintro e w1 ⟨rfl, f1⟩
  obtain ⟨w2, hw2⟩ : ∃ w2, w2 = w1.alloc (.cells #[.int .i64 p, .int .i64 s, .int .i64 x, .int .i64 lg, .slice B m d] 48) := ⟨_, rfl⟩
  obtain ⟨H1, hH1⟩ : ∃ H1, H1 = w1.heap.size := ⟨_, rfl⟩
  have f12 : Fresh w1 w2 := by rw [hw2]; exact (Upd.refl _ _).alloc _
  have r2 := BR.out.fresh (f1.trans' f12)
  have c2 : Blk w2 H1 48 #[.int .i64 p, .int .i64 s, .int .i64 x, .int .i64 lg, .slice B m d] := by rw [hw2]; exact blk_new hH1 _ _
  have R2 := hide r2
  have C2 := hide c2
  have F2 := hide ((F0.out.trans' f1).trans' f12)
  have HW2 := hide hw2
  have HH1 := hide hH1
  clear f1 f12 r2 c2 hw2 hH1
  go_wp2_with fail
  simp only [← HW2.out]
  refine (HWY.out _).mono ?_
  rintro e w3 ⟨rfl, f3⟩
  have r3 := R2.out.fresh f3
  have p3 := C2.out.fresh f3
  have F3 := hide (F2.out.trans' f3)
  have hS3 : ∀ W, Fresh w3 W → (Fresh w3 W ∧ W.cell? ⟨H1, 0, none⟩ = some (.int .i64 p) ∧ W.cell? ⟨H1, 1, none⟩ = some (.int .i64 s) ∧ W.cell? ⟨H1, 2, none⟩ = some (.int .i64 x) ∧ W.cell? ⟨H1, 3, none⟩ = some (.int .i64 lg) ∧ W.cell? ⟨H1, 4, none⟩ = some (.slice B m d)) := by
    intro W hW
    have b2 := p3.fresh hW
    exact ⟨hW, by simpa using b2.cell 0, by simpa using b2.cell 1, by simpa using b2.cell 2, by simpa using b2.cell 3, by simpa using b2.cell 4⟩
  have HSS := hide hS3
  have R3 := hide r3
  have hix : ∀ W, (Instr.index 76 (.agg #[.func (.func 46) #[] #[], .func (.func 47) #[] #[], .func (.func 50) #[] #[], .func (.func 51) #[] #[], .func (.func 52) #[] #[], .func (.func 54) #[] #[], .func (.func 56) #[] #[], .func (.func 57) #[] #[]]) (.int .i64 0)).run Tryz.prog W = .ok (.agg #[.func (.func 46) #[] #[], .func (.func 47) #[] #[]]) W := fun _ => by kernel_rfl
  have hfl : ∀ W, (Instr.field 75 (.agg #[.func (.func 46) #[] #[], .func (.func 47) #[] #[]]) 0).run Tryz.prog W = .ok (.func (.func 46) #[] #[]) W := fun _ => by kernel_rfl
  simp only [← HH1.out]
  clear f3 r3 p3 hS3
  go_wp2_with fail
  obtain ⟨-, k0, k1, k2, k3, k4⟩ := HSS.out w3 (Upd.refl _ _)
  go_region_with
    (first
      | (go_at_call 30; refine (HWY.out _).mono ?_; rintro e wa ⟨rfl, fa⟩; have fax : Fresh w3 wa := (by first | exact fa | exact Upd.trans' ((Upd.refl _ _).drew) fa); obtain ⟨-, a0, a1, a2, a3, a4⟩ := HSS.out _ fax)
      | (go_at_call 46; refine (HWK.out _ (by first | exact F3.out.trans' fax | exact (F3.out.trans' fax).drew | exact (F3.out.trans' fax).drewN _)).mono ?_; rintro e w' ⟨u1, c1, A, n, c, rfl, r1⟩; have rx : Blk w' (H + 1) 25 #[.int .i64 0, .slice none 0 0] := (by first | exact (R3.out.fresh fax).upd u1 HGH | exact (R3.out.fresh fax).drew.upd u1 HGH); have b0 : w'.cell? ⟨H + 1, 0, none⟩ = some (.int .i64 0) := rx.cell 0; have b1 : w'.cell? ⟨H + 1, 1, none⟩ = some (.slice none 0 0) := rx.cell 1; have b2 := rx.frozen 0; have b3 := rx.frozen 1; have RX := hide rx; clear rx))
  all_goals
    have U1 := hide u1
    have C1 := hide c1
    have RR := hide r1
    clear u1 c1 r1
    go_wp2_with fail
    refine bodyPost_ret (results_cell_tmp_row rfl _ _ (H + 1) _ _ _ rfl ((RX.out.set_ 0 (.int .i64 dl)).set_ 1 (.slice A n c)) Tryz.underlying25 rfl (by kernel_rfl)) rfl ?_
    first
      | exact hR.out _ _ (way_wrap (F3.out.trans' fax) (by have := HH.out; omega) (R3.out.fresh fax).lt HG.out U1.out C1.out RR.out rfl)
      | exact hR.out _ _ (way_wrap (F3.out.trans' fax).drew (by have := HH.out; omega) (R3.out.fresh fax).lt HG.out U1.out C1.out RR.out rfl)

set_option maxRecDepth 100000 in
set_option maxHeartbeats 4000000 in
theorem mdec_ok1 (F G : Nat → Prop) (g : Nat) (bs : List Nat) (at_ : Nat) (B : Option Addr) (m d : Nat) (p lg : Int) (N : List Int) (w : World) (hcu : CurAt w F g bs at_) (hF : ∀ b, F b → b ≠ g) (hr : Rd w G B m (ints N)) (hfit : Fit N) (hm : (m : Int) ≤ 1099511627776) (hp : 0 ≤ p ∧ p ≤ 2) :
    Calls Tryz.prog 10 #[.pointer (some ⟨g, 0, none⟩), .int .i64 1, .int .i64 p, .agg #[.int .i64 lg, .slice B m d]] w (WayPost F g bs at_ (decM 1 p lg N bs at_).1 (decM 1 p lg N bs at_).2.1 (decM 1 p lg N bs at_).2.2.1 (decM 1 p lg N bs at_).2.2.2 w) := by
  obtain ⟨w0, hw0⟩ : ∃ w0, w0 = (w.alloc (.cells #[.int .i64 lg, .slice B m d] 25)).alloc (.cells #[.int .i64 0, .slice none 0 0] 25) := ⟨_, rfl⟩
  obtain ⟨H, hH⟩ : ∃ H, H = w.heap.size := ⟨_, rfl⟩
  have f0 : Fresh w w0 := by rw [hw0]; exact ((Upd.refl _ _).alloc _).alloc _
  have bt : Blk w0 H 25 #[.int .i64 lg, .slice B m d] := by rw [hw0]; exact (blk_new hH _ _).alloc _
  have br : Blk w0 (H + 1) 25 #[.int .i64 0, .slice none 0 0] := by rw [hw0]; exact blk_new (by simp [hH]) _ _
  have HM := hide (mof_any p lg B m d w0 hp)
  have BR := hide br
  have F0 := hide f0
  have HW := hide hw0
  have HH := hide hH
  have HWY := hide (ways_raw)
  have t0 := bt.cell 0
  have t1 := bt.cell 1
  simp at t0 t1
  have HWK := hide (fun W (h : Fresh w W) => getM1 (fun b => F b ∧ b < w.heap.size) G g bs at_ B m d p lg N W (hcu.both.fresh h) (fun b hb => hF b hb.1) (hr.fresh h) hfit hm hp)
  have HG := hide hcu.lt
  have HGH : ¬ (H + 1 = g) := by have := hcu.lt; omega
  generalize decM 1 p lg N bs at_ = dn at *
  obtain ⟨dx, dl, dN, dk⟩ := dn
  simp only at HWK ⊢
  clear bt br f0 hw0 hH hp hcu hF hr hfit hm
  generalize partS p = s at *
  generalize partX p = x at *
  refine veil fun R hR => ?_
  go_enter Tryz.func10, Tryz.ntmps10
  go_wp2_with fail
  simp only [← HH.out, ← HW.out]
  go_wp2_with fail
  refine HM.out.mono ?_
  rintro e w1 ⟨rfl, f1⟩
  obtain ⟨w2, hw2⟩ : ∃ w2, w2 = w1.alloc (.cells #[.int .i64 p, .int .i64 s, .int .i64 x, .int .i64 lg, .slice B m d] 48) := ⟨_, rfl⟩
  obtain ⟨H1, hH1⟩ : ∃ H1, H1 = w1.heap.size := ⟨_, rfl⟩
  have f12 : Fresh w1 w2 := by rw [hw2]; exact (Upd.refl _ _).alloc _
  have r2 := BR.out.fresh (f1.trans' f12)
  have c2 : Blk w2 H1 48 #[.int .i64 p, .int .i64 s, .int .i64 x, .int .i64 lg, .slice B m d] := by rw [hw2]; exact blk_new hH1 _ _
  have R2 := hide r2
  have C2 := hide c2
  have F2 := hide ((F0.out.trans' f1).trans' f12)
  have HW2 := hide hw2
  have HH1 := hide hH1
  clear f1 f12 r2 c2 hw2 hH1
  go_wp2_with fail
  simp only [← HW2.out]
  refine (HWY.out _).mono ?_
  rintro e w3 ⟨rfl, f3⟩
  have r3 := R2.out.fresh f3
  have p3 := C2.out.fresh f3
  have F3 := hide (F2.out.trans' f3)
  have hS3 : ∀ W, Fresh w3 W → (Fresh w3 W ∧ W.cell? ⟨H1, 0, none⟩ = some (.int .i64 p) ∧ W.cell? ⟨H1, 1, none⟩ = some (.int .i64 s) ∧ W.cell? ⟨H1, 2, none⟩ = some (.int .i64 x) ∧ W.cell? ⟨H1, 3, none⟩ = some (.int .i64 lg) ∧ W.cell? ⟨H1, 4, none⟩ = some (.slice B m d)) := by
    intro W hW
    have b2 := p3.fresh hW
    exact ⟨hW, by simpa using b2.cell 0, by simpa using b2.cell 1, by simpa using b2.cell 2, by simpa using b2.cell 3, by simpa using b2.cell 4⟩
  have HSS := hide hS3
  have R3 := hide r3
  have hix : ∀ W, (Instr.index 76 (.agg #[.func (.func 46) #[] #[], .func (.func 47) #[] #[], .func (.func 50) #[] #[], .func (.func 51) #[] #[], .func (.func 52) #[] #[], .func (.func 54) #[] #[], .func (.func 56) #[] #[], .func (.func 57) #[] #[]]) (.int .i64 1)).run Tryz.prog W = .ok (.agg #[.func (.func 50) #[] #[], .func (.func 51) #[] #[]]) W := fun _ => by kernel_rfl
  have hfl : ∀ W, (Instr.field 75 (.agg #[.func (.func 50) #[] #[], .func (.func 51) #[] #[]]) 0).run Tryz.prog W = .ok (.func (.func 50) #[] #[]) W := fun _ => by kernel_rfl
  simp only [← HH1.out]
  clear f3 r3 p3 hS3
  go_wp2_with fail
  obtain ⟨-, k0, k1, k2, k3, k4⟩ := HSS.out w3 (Upd.refl _ _)
  go_region_with
    (first
      | (go_at_call 30; refine (HWY.out _).mono ?_; rintro e wa ⟨rfl, fa⟩; have fax : Fresh w3 wa := (by first | exact fa | exact Upd.trans' ((Upd.refl _ _).drew) fa); obtain ⟨-, a0, a1, a2, a3, a4⟩ := HSS.out _ fax)
      | (go_at_call 50; refine (HWK.out _ (by first | exact F3.out.trans' fax | exact (F3.out.trans' fax).drew | exact (F3.out.trans' fax).drewN _)).mono ?_; rintro e w' ⟨u1, c1, A, n, c, rfl, r1⟩; have rx : Blk w' (H + 1) 25 #[.int .i64 0, .slice none 0 0] := (by first | exact (R3.out.fresh fax).upd u1 HGH | exact (R3.out.fresh fax).drew.upd u1 HGH); have b0 : w'.cell? ⟨H + 1, 0, none⟩ = some (.int .i64 0) := rx.cell 0; have b1 : w'.cell? ⟨H + 1, 1, none⟩ = some (.slice none 0 0) := rx.cell 1; have b2 := rx.frozen 0; have b3 := rx.frozen 1; have RX := hide rx; clear rx))
  all_goals
    have U1 := hide u1
    have C1 := hide c1
    have RR := hide r1
    clear u1 c1 r1
    go_wp2_with fail
    refine bodyPost_ret (results_cell_tmp_row rfl _ _ (H + 1) _ _ _ rfl ((RX.out.set_ 0 (.int .i64 dl)).set_ 1 (.slice A n c)) Tryz.underlying25 rfl (by kernel_rfl)) rfl ?_
    first
      | exact hR.out _ _ (way_wrap (F3.out.trans' fax) (by have := HH.out; omega) (R3.out.fresh fax).lt HG.out U1.out C1.out RR.out rfl)
      | exact hR.out _ _ (way_wrap (F3.out.trans' fax).drew (by have := HH.out; omega) (R3.out.fresh fax).lt HG.out U1.out C1.out RR.out rfl)

set_option maxRecDepth 100000 in
set_option maxHeartbeats 4000000 in
theorem mdec_ok2 (F G : Nat → Prop) (g : Nat) (bs : List Nat) (at_ : Nat) (B : Option Addr) (m d : Nat) (p lg : Int) (N : List Int) (w : World) (hcu : CurAt w F g bs at_) (hF : ∀ b, F b → b ≠ g) (hr : Rd w G B m (ints N)) (hfit : Fit N) (hm : (m : Int) ≤ 1099511627776) (hp : 0 ≤ p ∧ p ≤ 2) :
    Calls Tryz.prog 10 #[.pointer (some ⟨g, 0, none⟩), .int .i64 2, .int .i64 p, .agg #[.int .i64 lg, .slice B m d]] w (WayPost F g bs at_ (decM 2 p lg N bs at_).1 (decM 2 p lg N bs at_).2.1 (decM 2 p lg N bs at_).2.2.1 (decM 2 p lg N bs at_).2.2.2 w) := by
  obtain ⟨w0, hw0⟩ : ∃ w0, w0 = (w.alloc (.cells #[.int .i64 lg, .slice B m d] 25)).alloc (.cells #[.int .i64 0, .slice none 0 0] 25) := ⟨_, rfl⟩
  obtain ⟨H, hH⟩ : ∃ H, H = w.heap.size := ⟨_, rfl⟩
  have f0 : Fresh w w0 := by rw [hw0]; exact ((Upd.refl _ _).alloc _).alloc _
  have bt : Blk w0 H 25 #[.int .i64 lg, .slice B m d] := by rw [hw0]; exact (blk_new hH _ _).alloc _
  have br : Blk w0 (H + 1) 25 #[.int .i64 0, .slice none 0 0] := by rw [hw0]; exact blk_new (by simp [hH]) _ _
  have HM := hide (mof_any p lg B m d w0 hp)
  have BR := hide br
  have F0 := hide f0
  have HW := hide hw0
  have HH := hide hH
  have HWY := hide (ways_raw)
  have t0 := bt.cell 0
  have t1 := bt.cell 1
  simp at t0 t1
  have HWK := hide (fun W (h : Fresh w W) => getM2 (fun b => F b ∧ b < w.heap.size) G g bs at_ B m d p lg N W (hcu.both.fresh h) (fun b hb => hF b hb.1) (hr.fresh h) hfit hm hp)
  have HG := hide hcu.lt
  have HGH : ¬ (H + 1 = g) := by have := hcu.lt; omega
  generalize decM 2 p lg N bs at_ = dn at *
  obtain ⟨dx, dl, dN, dk⟩ := dn
  simp only at HWK ⊢
  clear bt br f0 hw0 hH hp hcu hF hr hfit hm
  generalize partS p = s at *
  generalize partX p = x at *
  refine veil fun R hR => ?_
  go_enter Tryz.func10, Tryz.ntmps10
  go_wp2_with fail
  simp only [← HH.out, ← HW.out]
  go_wp2_with fail
  refine HM.out.mono ?_
  rintro e w1 ⟨rfl, f1⟩
  obtain ⟨w2, hw2⟩ : ∃ w2, w2 = w1.alloc (.cells #[.int .i64 p, .int .i64 s, .int .i64 x, .int .i64 lg, .slice B m d] 48) := ⟨_, rfl⟩
  obtain ⟨H1, hH1⟩ : ∃ H1, H1 = w1.heap.size := ⟨_, rfl⟩
  have f12 : Fresh w1 w2 := by rw [hw2]; exact (Upd.refl _ _).alloc _
  have r2 := BR.out.fresh (f1.trans' f12)
  have c2 : Blk w2 H1 48 #[.int .i64 p, .int .i64 s, .int .i64 x, .int .i64 lg, .slice B m d] := by rw [hw2]; exact blk_new hH1 _ _
  have R2 := hide r2
  have C2 := hide c2
  have F2 := hide ((F0.out.trans' f1).trans' f12)
  have HW2 := hide hw2
  have HH1 := hide hH1
  clear f1 f12 r2 c2 hw2 hH1
  go_wp2_with fail
  simp only [← HW2.out]
  refine (HWY.out _).mono ?_
  rintro e w3 ⟨rfl, f3⟩
  have r3 := R2.out.fresh f3
  have p3 := C2.out.fresh f3
  have F3 := hide (F2.out.trans' f3)
  have hS3 : ∀ W, Fresh w3 W → (Fresh w3 W ∧ W.cell? ⟨H1, 0, none⟩ = some (.int .i64 p) ∧ W.cell? ⟨H1, 1, none⟩ = some (.int .i64 s) ∧ W.cell? ⟨H1, 2, none⟩ = some (.int .i64 x) ∧ W.cell? ⟨H1, 3, none⟩ = some (.int .i64 lg) ∧ W.cell? ⟨H1, 4, none⟩ = some (.slice B m d)) := by
    intro W hW
    have b2 := p3.fresh hW
    exact ⟨hW, by simpa using b2.cell 0, by simpa using b2.cell 1, by simpa using b2.cell 2, by simpa using b2.cell 3, by simpa using b2.cell 4⟩
  have HSS := hide hS3
  have R3 := hide r3
  have hix : ∀ W, (Instr.index 76 (.agg #[.func (.func 46) #[] #[], .func (.func 47) #[] #[], .func (.func 50) #[] #[], .func (.func 51) #[] #[], .func (.func 52) #[] #[], .func (.func 54) #[] #[], .func (.func 56) #[] #[], .func (.func 57) #[] #[]]) (.int .i64 2)).run Tryz.prog W = .ok (.agg #[.func (.func 52) #[] #[], .func (.func 54) #[] #[]]) W := fun _ => by kernel_rfl
  have hfl : ∀ W, (Instr.field 75 (.agg #[.func (.func 52) #[] #[], .func (.func 54) #[] #[]]) 0).run Tryz.prog W = .ok (.func (.func 52) #[] #[]) W := fun _ => by kernel_rfl
  simp only [← HH1.out]
  clear f3 r3 p3 hS3
  go_wp2_with fail
  obtain ⟨-, k0, k1, k2, k3, k4⟩ := HSS.out w3 (Upd.refl _ _)
  go_region_with
    (first
      | (go_at_call 30; refine (HWY.out _).mono ?_; rintro e wa ⟨rfl, fa⟩; have fax : Fresh w3 wa := (by first | exact fa | exact Upd.trans' ((Upd.refl _ _).drew) fa); obtain ⟨-, a0, a1, a2, a3, a4⟩ := HSS.out _ fax)
      | (go_at_call 52; refine (HWK.out _ (by first | exact F3.out.trans' fax | exact (F3.out.trans' fax).drew | exact (F3.out.trans' fax).drewN _)).mono ?_; rintro e w' ⟨u1, c1, A, n, c, rfl, r1⟩; have rx : Blk w' (H + 1) 25 #[.int .i64 0, .slice none 0 0] := (by first | exact (R3.out.fresh fax).upd u1 HGH | exact (R3.out.fresh fax).drew.upd u1 HGH); have b0 : w'.cell? ⟨H + 1, 0, none⟩ = some (.int .i64 0) := rx.cell 0; have b1 : w'.cell? ⟨H + 1, 1, none⟩ = some (.slice none 0 0) := rx.cell 1; have b2 := rx.frozen 0; have b3 := rx.frozen 1; have RX := hide rx; clear rx))
  all_goals
    have U1 := hide u1
    have C1 := hide c1
    have RR := hide r1
    clear u1 c1 r1
    go_wp2_with fail
    refine bodyPost_ret (results_cell_tmp_row rfl _ _ (H + 1) _ _ _ rfl ((RX.out.set_ 0 (.int .i64 dl)).set_ 1 (.slice A n c)) Tryz.underlying25 rfl (by kernel_rfl)) rfl ?_
    first
      | exact hR.out _ _ (way_wrap (F3.out.trans' fax) (by have := HH.out; omega) (R3.out.fresh fax).lt HG.out U1.out C1.out RR.out rfl)
      | exact hR.out _ _ (way_wrap (F3.out.trans' fax).drew (by have := HH.out; omega) (R3.out.fresh fax).lt HG.out U1.out C1.out RR.out rfl)

set_option maxRecDepth 100000 in
set_option maxHeartbeats 4000000 in
theorem mdec_ok3 (F G : Nat → Prop) (g : Nat) (bs : List Nat) (at_ : Nat) (B : Option Addr) (m d : Nat) (p lg : Int) (N : List Int) (w : World) (hcu : CurAt w F g bs at_) (hF : ∀ b, F b → b ≠ g) (hr : Rd w G B m (ints N)) (hfit : Fit N) (hm : (m : Int) ≤ 1099511627776) (hp : 0 ≤ p ∧ p ≤ 2) :
    Calls Tryz.prog 10 #[.pointer (some ⟨g, 0, none⟩), .int .i64 3, .int .i64 p, .agg #[.int .i64 lg, .slice B m d]] w (WayPost F g bs at_ (decM 3 p lg N bs at_).1 (decM 3 p lg N bs at_).2.1 (decM 3 p lg N bs at_).2.2.1 (decM 3 p lg N bs at_).2.2.2 w) := by
  obtain ⟨w0, hw0⟩ : ∃ w0, w0 = (w.alloc (.cells #[.int .i64 lg, .slice B m d] 25)).alloc (.cells #[.int .i64 0, .slice none 0 0] 25) := ⟨_, rfl⟩
  obtain ⟨H, hH⟩ : ∃ H, H = w.heap.size := ⟨_, rfl⟩
  have f0 : Fresh w w0 := by rw [hw0]; exact ((Upd.refl _ _).alloc _).alloc _
  have bt : Blk w0 H 25 #[.int .i64 lg, .slice B m d] := by rw [hw0]; exact (blk_new hH _ _).alloc _
  have br : Blk w0 (H + 1) 25 #[.int .i64 0, .slice none 0 0] := by rw [hw0]; exact blk_new (by simp [hH]) _ _
  have HM := hide (mof_any p lg B m d w0 hp)
  have BR := hide br
  have F0 := hide f0
  have HW := hide hw0
  have HH := hide hH
  have HWY := hide (ways_raw)
  have t0 := bt.cell 0
  have t1 := bt.cell 1
  simp at t0 t1
  have HWK := hide (fun W (h : Fresh w W) => getM3 (fun b => F b ∧ b < w.heap.size) G g bs at_ B m d p lg N W (hcu.both.fresh h) (fun b hb => hF b hb.1) (hr.fresh h) hfit hm hp)
  have HG := hide hcu.lt
  have HGH : ¬ (H + 1 = g) := by have := hcu.lt; omega
  generalize decM 3 p lg N bs at_ = dn at *
  obtain ⟨dx, dl, dN, dk⟩ := dn
  simp only at HWK ⊢
  clear bt br f0 hw0 hH hp hcu hF hr hfit hm
  generalize partS p = s at *
  generalize partX p = x at *
  refine veil fun R hR => ?_
  go_enter Tryz.func10, Tryz.ntmps10
  go_wp2_with fail
  simp only [← HH.out, ← HW.out]
  go_wp2_with fail
  refine HM.out.mono ?_
  rintro e w1 ⟨rfl, f1⟩
  obtain ⟨w2, hw2⟩ : ∃ w2, w2 = w1.alloc (.cells #[.int .i64 p, .int .i64 s, .int .i64 x, .int .i64 lg, .slice B m d] 48) := ⟨_, rfl⟩
  obtain ⟨H1, hH1⟩ : ∃ H1, H1 = w1.heap.size := ⟨_, rfl⟩
  have f12 : Fresh w1 w2 := by rw [hw2]; exact (Upd.refl _ _).alloc _
  have r2 := BR.out.fresh (f1.trans' f12)
  have c2 : Blk w2 H1 48 #[.int .i64 p, .int .i64 s, .int .i64 x, .int .i64 lg, .slice B m d] := by rw [hw2]; exact blk_new hH1 _ _
  have R2 := hide r2
  have C2 := hide c2
  have F2 := hide ((F0.out.trans' f1).trans' f12)
  have HW2 := hide hw2
  have HH1 := hide hH1
  clear f1 f12 r2 c2 hw2 hH1
  go_wp2_with fail
  simp only [← HW2.out]
  refine (HWY.out _).mono ?_
  rintro e w3 ⟨rfl, f3⟩
  have r3 := R2.out.fresh f3
  have p3 := C2.out.fresh f3
  have F3 := hide (F2.out.trans' f3)
  have hS3 : ∀ W, Fresh w3 W → (Fresh w3 W ∧ W.cell? ⟨H1, 0, none⟩ = some (.int .i64 p) ∧ W.cell? ⟨H1, 1, none⟩ = some (.int .i64 s) ∧ W.cell? ⟨H1, 2, none⟩ = some (.int .i64 x) ∧ W.cell? ⟨H1, 3, none⟩ = some (.int .i64 lg) ∧ W.cell? ⟨H1, 4, none⟩ = some (.slice B m d)) := by
    intro W hW
    have b2 := p3.fresh hW
    exact ⟨hW, by simpa using b2.cell 0, by simpa using b2.cell 1, by simpa using b2.cell 2, by simpa using b2.cell 3, by simpa using b2.cell 4⟩
  have HSS := hide hS3
  have R3 := hide r3
  have hix : ∀ W, (Instr.index 76 (.agg #[.func (.func 46) #[] #[], .func (.func 47) #[] #[], .func (.func 50) #[] #[], .func (.func 51) #[] #[], .func (.func 52) #[] #[], .func (.func 54) #[] #[], .func (.func 56) #[] #[], .func (.func 57) #[] #[]]) (.int .i64 3)).run Tryz.prog W = .ok (.agg #[.func (.func 56) #[] #[], .func (.func 57) #[] #[]]) W := fun _ => by kernel_rfl
  have hfl : ∀ W, (Instr.field 75 (.agg #[.func (.func 56) #[] #[], .func (.func 57) #[] #[]]) 0).run Tryz.prog W = .ok (.func (.func 56) #[] #[]) W := fun _ => by kernel_rfl
  simp only [← HH1.out]
  clear f3 r3 p3 hS3
  go_wp2_with fail
  obtain ⟨-, k0, k1, k2, k3, k4⟩ := HSS.out w3 (Upd.refl _ _)
  go_region_with
    (first
      | (go_at_call 30; refine (HWY.out _).mono ?_; rintro e wa ⟨rfl, fa⟩; have fax : Fresh w3 wa := (by first | exact fa | exact Upd.trans' ((Upd.refl _ _).drew) fa); obtain ⟨-, a0, a1, a2, a3, a4⟩ := HSS.out _ fax)
      | (go_at_call 56; refine (HWK.out _ (by first | exact F3.out.trans' fax | exact (F3.out.trans' fax).drew | exact (F3.out.trans' fax).drewN _)).mono ?_; rintro e w' ⟨u1, c1, A, n, c, rfl, r1⟩; have rx : Blk w' (H + 1) 25 #[.int .i64 0, .slice none 0 0] := (by first | exact (R3.out.fresh fax).upd u1 HGH | exact (R3.out.fresh fax).drew.upd u1 HGH); have b0 : w'.cell? ⟨H + 1, 0, none⟩ = some (.int .i64 0) := rx.cell 0; have b1 : w'.cell? ⟨H + 1, 1, none⟩ = some (.slice none 0 0) := rx.cell 1; have b2 := rx.frozen 0; have b3 := rx.frozen 1; have RX := hide rx; clear rx))
  all_goals
    have U1 := hide u1
    have C1 := hide c1
    have RR := hide r1
    clear u1 c1 r1
    go_wp2_with fail
    refine bodyPost_ret (results_cell_tmp_row rfl _ _ (H + 1) _ _ _ rfl ((RX.out.set_ 0 (.int .i64 dl)).set_ 1 (.slice A n c)) Tryz.underlying25 rfl (by kernel_rfl)) rfl ?_
    first
      | exact hR.out _ _ (way_wrap (F3.out.trans' fax) (by have := HH.out; omega) (R3.out.fresh fax).lt HG.out U1.out C1.out RR.out rfl)
      | exact hR.out _ _ (way_wrap (F3.out.trans' fax).drew (by have := HH.out; omega) (R3.out.fresh fax).lt HG.out U1.out C1.out RR.out rfl)


end Go.Proofs.YtcdbfddoanigbaaGreat

/-
  Package modes: Decode, one contract.
  Conditions: none beyond those of each theorem.
-/
namespace Go.Proofs.YtcdbfddoanigbaaGreat
open Go.RowKit
set_option linter.unusedVariables false
set_option linter.unusedSimpArgs false

theorem mdec_any (F G : Nat → Prop) (g : Nat) (bs : List Nat) (at_ : Nat) (B : Option Addr) (m d : Nat) (mo p lg : Int) (N : List Int) (w : World) (hcu : CurAt w F g bs at_) (hF : ∀ b, F b → b ≠ g) (hr : Rd w G B m (ints N)) (hfit : Fit N) (hm : (m : Int) ≤ 1099511627776) :
    Calls Tryz.prog 10 #[.pointer (some ⟨g, 0, none⟩), .int .i64 mo, .int .i64 p, .agg #[.int .i64 lg, .slice B m d]] w
      (WayPost F g bs at_ (decN mo p lg N bs at_).1 (decN mo p lg N bs at_).2.1 (decN mo p lg N bs at_).2.2.1 (decN mo p lg N bs at_).2.2.2 w) := by
  by_cases hp : p < 0 ∨ 2 < p
  · have h : decN mo p lg N bs at_ = (2, 0, [], 0) := if_pos (by omega)
    rw [h]
    exact (mdec_part g B m d mo p lg w hp).mono fun e w' h => WayPost.no hcu h
  have hp' : 0 ≤ p ∧ p ≤ 2 := by omega
  by_cases h0 : mo < 0
  · have h : decN mo p lg N bs at_ = (2, 0, [], 0) := if_pos (by omega)
    rw [h]
    exact (mdec_neg g B m d mo p lg w hp' h0).mono fun e w' h => WayPost.no hcu h
  by_cases h3 : 3 < mo
  · have h : decN mo p lg N bs at_ = (2, 0, [], 0) := if_pos (by omega)
    rw [h]
    exact (mdec_big g B m d mo p lg w hp' h3).mono fun e w' h => WayPost.no hcu h
  have hn : ¬ (p < 0 ∨ 2 < p ∨ mo < 0 ∨ 3 < mo) := by omega
  have h : decN mo p lg N bs at_ = decM mo p lg N bs at_ := by rw [decN, if_neg hn]
  rw [h]
  have : mo = 0 ∨ mo = 1 ∨ mo = 2 ∨ mo = 3 := by omega
  rcases this with rfl | rfl | rfl | rfl
  · exact mdec_ok0 F G g bs at_ B m d p lg N w hcu hF hr hfit hm hp'
  · exact mdec_ok1 F G g bs at_ B m d p lg N w hcu hF hr hfit hm hp'
  · exact mdec_ok2 F G g bs at_ B m d p lg N w hcu hF hr hfit hm hp'
  · exact mdec_ok3 F G g bs at_ B m d p lg N w hcu hF hr hfit hm hp'

theorem mdec_nil (B : Option Addr) (m d : Nat) (mo p lg : Int) (w : World) :
    Calls Tryz.prog 10 #[.pointer (none), .int .i64 mo, .int .i64 p, .agg #[.int .i64 lg, .slice B m d]] w fun e w' => e = .returned (.tuple #[.agg #[.int .i64 0, .slice none 0 0], .int .i64 1]) ∧ Fresh w w' := by
  by_cases hp : p < 0 ∨ 2 < p
  · exact mdec_nil_no B m d mo p lg w hp
  · exact mdec_nil_ok B m d mo p lg w (by omega)

end Go.Proofs.YtcdbfddoanigbaaGreat

/-
  The reference's table of one symbol.
  Conditions: none beyond those of each theorem.
-/
namespace Go.Proofs.YtcdbfddoanigbaaGreat
open Go.RowKit
set_option linter.unusedVariables false
set_option linter.unusedSimpArgs false

/-- a new table, with room behind -/
def NewTabR (w w' : World) (e : Ending) (lg : Int) (N : List Int) : Prop :=
  ∃ A c, e = .returned (.agg #[.int .i64 lg, .slice A N.length c]) ∧ Rd w' (fun b => w.heap.size ≤ b) A N.length (ints N) ∧ Fresh w w'

set_option maxRecDepth 100000 in
set_option maxHeartbeats 2000000 in
theorem rone_any (s : Nat) (w : World) (hs : s ≤ 255) : Calls Tryz.prog 14 #[.int .i64 s] w fun e w' => NewTabR w w' e 0 (oneN s) := by
  obtain ⟨w0, hw0⟩ : ∃ w0, w0 = (w.alloc (.cells #[.int .i64 0, .slice none 0 0] 25)).alloc (.cells #[.int .i64 0, .slice none 0 0] 25) := ⟨_, rfl⟩
  obtain ⟨H, hH⟩ : ∃ H, H = w.heap.size := ⟨_, rfl⟩
  have f0 : Fresh w w0 := by rw [hw0]; exact ((Upd.refl _ _).alloc _).alloc _
  have br : Blk w0 H 25 #[.int .i64 0, .slice none 0 0] := by rw [hw0]; exact (blk_new hH _ _).alloc _
  have bt : Blk w0 (H + 1) 25 #[.int .i64 0, .slice none 0 0] := by rw [hw0]; exact blk_new (by simp [hH]) _ _
  have hz0 : w0.heap.size = H + 2 := by rw [hw0]; simp [hH]
  have BR := hide br
  have BT := hide bt
  have F0 := hide f0
  have HZ := hide hz0
  have HW := hide hw0
  have HH := hide hH
  clear hw0 hH f0 br bt hz0
  have hsI : (s : Int) ≤ 255 := by omega
  refine veil fun R hR => ?_
  go_enter Tryz.func14, Tryz.ntmps14
  go_upto_region 2 with fail
  simp only [← HH.out, ← HW.out]
  go_wp2_with fail
  go_loopg [4] (s + 1) (fun f i wr => ∃ (k : Nat) (A : Option Addr) (n c : Nat) (xs : List Int), k + f = s + 1 ∧ i = .int .i64 k ∧ Blk wr (H + 1) 25 #[.int .i64 0, .slice A n c] ∧ Own wr 3 (.slice A n c) (ints xs) ∧ (∀ b, (Value.slice A n c).ownBlock = some b → H + 2 ≤ b) ∧ xs = (if k = s + 1 then oneN s else List.replicate k 0) ∧ Upd (fun b => b = H + 1) w0 wr)
  case atStart => exact ⟨0, none, 0, 0, [], by omega, rfl, BT.out, Own.nil _ _, by simp [Value.ownBlock], by simp, Upd.refl _ _⟩
  case round =>
    obtain ⟨k, A, n, c, xs, hk, rfl, bt, ho, hob, hxs, ur⟩ := hrel
    have HK := hide hk
    have hn := (ho.rd rfl).1
    have hlen : (ints xs).length + 1 ≤ 2 ^ 40 := by
      rw [ints_length, hxs]
      split <;> simp <;> omega
    have hne : (Value.slice A n c).ownBlock ≠ some (H + 1) := fun h => by have := hob _ h; omega
    have BT := hide bt
    have HO := hide ho
    have HOB := hide hob
    have HXS := hide hxs
    have UR := hide ur
    have HLEN := hide hlen
    have HNE := hide hne
    have t0 := bt.cell 0
    have t1 := bt.cell 1
    simp at t0 t1
    clear hk hn hlen bt ho hob hxs ur hne
    have hw4 : IntKind.i64.wrap ((k : Int) + 1) = k + 1 := IntWalk.i64_in _ (by have := HK.out; omega)
    by_cases hlt : k ≤ s
    · by_cases he : k = s
      · have heb : ((k : Int) == s) = true := by simp; omega
        have hle : (k : Int) ≤ s := by omega
        go_wp2_with (at_builtin; refine wpList_app _ rfl (.tmp 16) (.tmp 18) _ (by rfl) 3 _ 8 Tryz.underlying22 infoInt rfl (.slice A n c) (ints xs) (by rfl) (HO.out.alloc _) _ 1 1 [Value.int .i64 1] (by rfl) (Rd.one _ _ _) (by simp [Value.oneCell']) (by omega) HLEN.out ?_; intro v6 w6 o6 g6 a6; obtain ⟨A6, c6, rfl, hc6, hr6⟩ := o6.form; have b6 := (BT.out.alloc (.cells #[Value.int .i64 1] 3)).grown g6 HNE.out; have t0 := b6.cell 0; have t1 := b6.cell 1; have z1 := b6.frozen 1; simp at t0 t1)
        have hl6 : ∀ v, (ints xs ++ [Value.int .i64 v]).length = xs.length + 1 := fun v => by simp
        rw [hl6] at o6 a6
        clear hl6
        have hA6 : ∀ b, (Value.slice A6 (xs.length + 1) c6).ownBlock = some b → H + 2 ≤ b := fun b hb => by
          rcases a6 with h | h
          · exact HOB.out b (by rw [← h]; exact hb)
          · rw [h] at hb
            have h1 := UR.out.size
            have h2 := HZ.out
            simp at hb
            omega
        have u6 : Upd (fun b => b = H + 1) w0 w6 := by
          refine (UR.out.alloc (.cells #[Value.int .i64 1] 3)).grown g6 (fun k hk hlt => ?_)
          have := HOB.out k hk
          have := HZ.out
          omega
        have bt7 := b6.set_ 1 (.slice A6 (xs.length + 1) c6)
        have o7 := o6.upd (S := fun b => b = H + 1) ((Upd.refl (fun b => b = H + 1) w6).setCell (p := ⟨H + 1, 1, none⟩) (fun _ => rfl) (.slice A6 (xs.length + 1) c6)) (fun b hb h => by have := hA6 b hb; omega)
        have u7 := u6.setCell (p := ⟨H + 1, 1, none⟩) (fun _ => rfl) (.slice A6 (xs.length + 1) c6)
        have BT7 := hide bt7
        have O7 := hide o7
        have U7 := hide u7
        have HA6 := hide hA6
        clear hr6 b6 t0 t1 z1 hA6 u6 bt7 o7 u7 o6 g6 a6 hc6
        go_roundg (gk - 1)
        case measure => have := HK.out; omega
        case rel =>
          refine ⟨k + 1, A6, _, c6, xs ++ [1], by have := HK.out; omega, by go_num, by simpa using BT7.out, ?_, HA6.out, ?_, U7.out⟩
          · rw [show ints (xs ++ [1]) = ints xs ++ [Value.int .i64 1] by simp [ints]]; exact O7.out
          · rw [HXS.out]; rw [if_neg (by omega), if_pos (by omega), he]; rfl
      · have heb : ((k : Int) == s) = false := by simp; omega
        have hle : (k : Int) ≤ s := by omega
        go_wp2_with (at_builtin; refine wpList_app _ rfl (.tmp 16) (.tmp 18) _ (by rfl) 3 _ 8 Tryz.underlying22 infoInt rfl (.slice A n c) (ints xs) (by rfl) (HO.out.alloc _) _ 1 1 [Value.int .i64 0] (by rfl) (Rd.one _ _ _) (by simp [Value.oneCell']) (by omega) HLEN.out ?_; intro v6 w6 o6 g6 a6; obtain ⟨A6, c6, rfl, hc6, hr6⟩ := o6.form; have b6 := (BT.out.alloc (.cells #[Value.int .i64 0] 3)).grown g6 HNE.out; have t0 := b6.cell 0; have t1 := b6.cell 1; have z1 := b6.frozen 1; simp at t0 t1)
        have hl6 : ∀ v, (ints xs ++ [Value.int .i64 v]).length = xs.length + 1 := fun v => by simp
        rw [hl6] at o6 a6
        clear hl6
        have hA6 : ∀ b, (Value.slice A6 (xs.length + 1) c6).ownBlock = some b → H + 2 ≤ b := fun b hb => by
          rcases a6 with h | h
          · exact HOB.out b (by rw [← h]; exact hb)
          · rw [h] at hb
            have h1 := UR.out.size
            have h2 := HZ.out
            simp at hb
            omega
        have u6 : Upd (fun b => b = H + 1) w0 w6 := by
          refine (UR.out.alloc (.cells #[Value.int .i64 0] 3)).grown g6 (fun k hk hlt => ?_)
          have := HOB.out k hk
          have := HZ.out
          omega
        have bt7 := b6.set_ 1 (.slice A6 (xs.length + 1) c6)
        have o7 := o6.upd (S := fun b => b = H + 1) ((Upd.refl (fun b => b = H + 1) w6).setCell (p := ⟨H + 1, 1, none⟩) (fun _ => rfl) (.slice A6 (xs.length + 1) c6)) (fun b hb h => by have := hA6 b hb; omega)
        have u7 := u6.setCell (p := ⟨H + 1, 1, none⟩) (fun _ => rfl) (.slice A6 (xs.length + 1) c6)
        have BT7 := hide bt7
        have O7 := hide o7
        have U7 := hide u7
        have HA6 := hide hA6
        clear hr6 b6 t0 t1 z1 hA6 u6 bt7 o7 u7 o6 g6 a6 hc6
        go_roundg (gk - 1)
        case measure => have := HK.out; omega
        case rel =>
          refine ⟨k + 1, A6, _, c6, xs ++ [0], by have := HK.out; omega, by go_num, by simpa using BT7.out, ?_, HA6.out, ?_, U7.out⟩
          · rw [show ints (xs ++ [0]) = ints xs ++ [Value.int .i64 0] by simp [ints]]; exact O7.out
          · rw [HXS.out]; rw [if_neg (by omega), if_neg (by omega), List.replicate_succ']
    · have hks : k = s + 1 := by have := HK.out; omega
      have hle : ¬ (k : Int) ≤ s := by omega
      have hx := HXS.out
      rw [if_pos hks] at hx
      subst hx
      obtain ⟨e1, e2, hrd⟩ := HO.out.rd rfl
      have b0 := BR.out.upd UR.out (by omega)
      have r0 := b0.cell 0
      have r1 := b0.cell 1
      have z0 := b0.frozen 0
      have z1 := b0.frozen 1
      simp at r0 r1
      have B0 := hide b0
      clear b0 hks
      go_wp2_with fail
      refine bodyPost_ret (results_cell_row rfl _ _ H _ _ _ _ rfl ((B0.out.set_ 0 (.int .i64 0)).set_ 1 (.slice A (s + 1) c)) Tryz.underlying25 rfl (by kernel_rfl)) rfl ?_
      have u3 := setTwoP wr H (.int .i64 0) (.slice A (s + 1) c)
      have hl : (ints (oneN s)).length = s + 1 := by simp
      rw [hl] at hrd
      have e3 : n = s + 1 := by rw [e1, hl]
      refine hR.out _ _ ⟨A, c, by rw [oneN_length]; rfl, ?_, (F0.out.trans UR.out (fun b hb h => by have := HH.out; omega)).trans u3 (fun b hb h => by have := HH.out; omega)⟩
      rw [oneN_length]
      refine (hrd.upd u3 (fun b _ h h' => by have := HOB.out b h; omega)).mono (fun b h => by have := HOB.out b h; have := HH.out; omega)

end Go.Proofs.YtcdbfddoanigbaaGreat
