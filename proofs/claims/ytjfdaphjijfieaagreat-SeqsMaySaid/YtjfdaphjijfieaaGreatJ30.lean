/-
  Joined texts, part 30: contracts and plain lemmas, each under its own heading below.
  Conditions: none beyond those of each theorem.
-/
import Derived.Test.YtjfdaphjijfieaaGreatJ29
import Derived.Test.YtjfdaphjijfieaaGreatJ3
/-
  The statements' helpers first, fails, known; reference 25: May; package seqs: Valid.
  Conditions: none beyond those of each theorem.
-/
namespace Go.Proofs.YtjfdaphjijfieaaGreat
open Go.RowKit
set_option linter.unusedVariables false
set_option linter.unusedSimpArgs false

theorem fit_nil25 : Fit [] := fun _ h => by cases h

theorem RdK.alloc' {w : World} {F : Nat → Prop} {k n : Nat} {A : Option Addr} {rows : List (List Value)} (h : RdK w F k A n rows) (o : Obj) : RdK (w.alloc o) F k A n rows := h.fresh ((Upd.refl _ _).alloc o)
theorem rdK_one {w : World} {K : Nat} {t : TypeId} {a b c : Int} (h : Blk w K t #[.int .i64 a, .int .i64 b, .int .i64 c]) : RdK w (fun _ => True) 3 (some ⟨K, 0, none⟩) 1 ([(a, b, c)].map tri) :=
  ⟨rfl, fun _ => ⟨K, 0, rfl, trivial, h.lt, fun j r hj hr => by
    have : j = 0 := by simp at hj; exact hj
    subst this
    rw [h.cell]
    simp [tri]⟩⟩
/-- whether a sequence may be -/
def mayS (s : Int × Int × Int) : Prop := 0 ≤ s.1 ∧ s.1 ≤ 262143 ∧ 3 ≤ s.2.1 ∧ s.2.1 ≤ 262146 ∧ 1 ≤ s.2.2 ∧ s.2.2 ≤ 134217728
instance (s : Int × Int × Int) : Decidable (mayS s) := by unfold mayS; infer_instance

theorem dec_first (F : Nat → Prop) (g : Nat) (bs : List Nat) (W : World) (h : CurAt W F g bs 0) (hF : ∀ b, F b → b ≠ g) :
    Calls Tryz.prog 18 #[.pointer (some ⟨g, 0, none⟩), .agg #[.slice none 0 0, .int .i64 0, .slice none 0 0, .int .i64 0, .slice none 0 0, .int .i64 0, .slice none 0 0, .int .i64 1, .int .i64 4, .int .i64 8]] W (SecPost F g bs (decE bs 0 Tabs3.none 1 4 8) [] W) :=
  sdec_any F (fun _ => False) g bs 0 none none none none 0 0 0 0 0 0 0 0 Tabs3.none [] 1 4 8 W h hF (fun _ h => h.elim) (Rd.nil _ _ _) (Rd.nil _ _ _) (Rd.nil _ _ _) (Rd.nil _ _ _) fit_nil25 fit_nil25 fit_nil25 (Nat.zero_le _) (Nat.zero_le _) (Nat.zero_le _) (Nat.zero_le _)

set_option maxRecDepth 100000 in
set_option maxHeartbeats 4000000 in
theorem first25_any (w : World) : Calls Tryz.prog 28 #[] w fun e w' => e = .returned (.agg #[.slice none 0 0, .int .i64 0, .slice none 0 0, .int .i64 0, .slice none 0 0, .int .i64 0, .slice none 0 0, .int .i64 1, .int .i64 4, .int .i64 8]) ∧ Fresh w w' := by
  refine veil fun R hR => ?_
  go_enter Tryz.func28, Tryz.ntmps28
  go_wp2_with fail
  refine bodyPost_ret (v := .agg #[.slice none 0 0, .int .i64 0, .slice none 0 0, .int .i64 0, .slice none 0 0, .int .i64 0, .slice none 0 0, .int .i64 1, .int .i64 4, .int .i64 8]) (results_cell_row rfl _ _ w.heap.size 32 _ _ _ rfl (Blk.new w _ _) Tryz.underlying32 rfl (by kernel_rfl)) rfl ?_
  exact hR.out _ _ ⟨rfl, (Upd.refl _ _).alloc _⟩

set_option maxRecDepth 100000 in
set_option maxHeartbeats 4000000 in
theorem fails25_any (F : Nat → Prop) (A : Option Addr) (n c : Nat) (bs : List Nat) (w : World) (hr : Rd w F A n (bs.map fun b => .int .u8 (b : Nat))) (hlt : ∀ b ∈ bs, b < 256) (hlen : bs.length ≤ 2 ^ 32) :
    Calls Tryz.prog 31 #[.slice A n c] w fun e w' => e = .returned (.int .i64 (decE bs 0 Tabs3.none 1 4 8).err) ∧ Fresh w w' := by
  have HN := hide (new_any F A n c bs w hr hlt hlen)
  have HFI := hide first25_any
  have HD := hide (fun F' g W h hF => dec_first F' g bs W h hF)
  generalize decE bs 0 Tabs3.none 1 4 8 = S at *
  clear hr hlt hlen
  refine veil fun R hR => ?_
  go_enter Tryz.func31, Tryz.ntmps31
  go_wp2_with fail
  refine HN.out.mono ?_
  rintro e w1 ⟨g, rfl, hg, f1, cu⟩
  have F1 := hide f1
  have CU := hide cu
  have HG := hide hg
  clear f1 cu hg
  go_wp2_with fail
  refine (HFI.out _).mono ?_
  rintro e w2 ⟨rfl, f2⟩
  have HD2 := HD.out _ g w2 (CU.out.fresh f2) (fun b hb => hb.2)
  unfold SecPost at HD2
  have F2 := hide (F1.out.trans' f2)
  clear f2 HD
  by_cases he : S.err = 0
  · simp only [if_pos he] at HD2
    have HD2 := hide HD2
    go_wp2_with fail
    refine HD2.out.mono ?_
    rintro e w3 ⟨u3, v, D, h, i, A', n', c', B, m, d, C, k, e1, rfl, -, -, -, -, -, -, -⟩
    have F3 := hide (F2.out.trans u3 (fun b hb e => by have := HG.out; omega))
    clear u3
    go_wp2_with fail
    try go_ret
    refine hR.out _ _ ⟨?_, F3.out.alloc _⟩
    rw [he]
    rfl
  · simp only [if_neg he] at HD2
    have HD2 := hide HD2
    go_wp2_with fail
    refine HD2.out.mono ?_
    rintro e w3 ⟨u3, rfl⟩
    have F3 := hide (F2.out.trans u3 (fun b hb e => by have := HG.out; omega))
    clear u3
    go_wp2_with fail
    try go_ret
    exact hR.out _ _ ⟨rfl, F3.out.alloc _⟩

set_option maxRecDepth 100000 in
set_option maxHeartbeats 4000000 in
theorem known25_any (w : World) : Calls Tryz.prog 14 #[] w fun e w' => e = .returned (.bool true) ∧ Fresh w w' := by
  have HN1 := hide (fun (A : Option Addr) (W : World) (h : Rd W (fun _ => True) A 1 ([0].map fun b : Nat => Value.int .u8 (b : Nat))) => new_any (fun _ => True) A 1 1 [0] W h (by decide) (by decide))
  have HN2 := hide (fun (A : Option Addr) (W : World) (h : Rd W (fun _ => True) A 6 ([1, 21, 2, 0, 0, 1].map fun b : Nat => Value.int .u8 (b : Nat))) => new_any (fun _ => True) A 6 6 [1, 21, 2, 0, 0, 1] W h (by decide) (by decide))
  have HE1 := hide (fun (A : Option Addr) (W : World) (h : Rd W (fun _ => True) A 1 ([1].map fun b : Nat => Value.int .u8 (b : Nat))) => fails25_any (fun _ => True) A 1 1 [1] W h (by decide) (by decide))
  have HE2 := hide (fun (A : Option Addr) (W : World) (h : Rd W (fun _ => True) A 2 ([1, 64].map fun b : Nat => Value.int .u8 (b : Nat))) => fails25_any (fun _ => True) A 2 2 [1, 64] W h (by decide) (by decide))
  rw [kn_err1] at HE1
  rw [kn_err2] at HE2
  have HD1 := fun F' g W h hF => dec_first F' g [0] W h hF
  have HD2 := fun F' g W h hF => dec_first F' g [1, 21, 2, 0, 0, 1] W h hF
  unfold SecPost at HD1 HD2
  simp only [if_pos kn_zero.1, kn_zero.2] at HD1
  simp only [if_pos kn_one.1, kn_one.2] at HD2
  generalize decE [0] 0 Tabs3.none 1 4 8 = S1 at *
  generalize decE [1, 21, 2, 0, 0, 1] 0 Tabs3.none 1 4 8 = S2 at *
  have HD1 := hide HD1
  have HD2 := hide HD2
  have HFI := hide first25_any
  refine veil fun R hR => ?_
  go_enter Tryz.func14, Tryz.ntmps14
  go_wp2_with fail
  refine (HN1.out _ _ ((Blk.new w 5 _).rds)).mono ?_
  rintro e w1 ⟨g1, rfl, hg1, f1, cu1⟩
  have F1 := hide (show Fresh w w1 from ((Upd.refl _ w).alloc _).trans' f1)
  have hw1 : w.heap.size ≤ g1 := by have := hg1; simp at this; omega
  have HW1 := hide hw1
  have CU1 := hide cu1
  clear f1 hg1 hw1 cu1
  go_wp2_with fail
  refine (HFI.out _).mono ?_
  rintro e w2 ⟨rfl, f2⟩
  have HD1' := hide (HD1.out _ g1 w2 (CU1.out.fresh f2) (fun b hb => hb.2))
  have F2 := hide (F1.out.trans' f2)
  clear f2
  go_wp2_with fail
  refine HD1'.out.mono ?_
  rintro e w3 ⟨u3, v1, D1, h1, i1, A1, n1, c1, B1, m1, d1, C1, k1, e1, rfl, o1, -, -, -, -, -, -⟩
  have F3 := hide (F2.out.trans u3 (fun b hb e => by have := HW1.out; omega))
  obtain ⟨Av, cv, rfl, -, -⟩ := o1.form
  clear u3 o1
  go_upto_region 2 with fail
  obtain ⟨w4, hw4⟩ : ∃ w4, w4 = w3.alloc (.cells #[.slice D1 h1 i1, .int .i64 S1.tabs.lL, .slice A1 n1 c1, .int .i64 S1.tabs.lO, .slice B1 m1 d1, .int .i64 S1.tabs.lM, .slice C1 k1 e1, .int .i64 S1.a, .int .i64 S1.b, .int .i64 S1.c] 32) := ⟨_, rfl⟩
  simp only [← hw4]
  have F4 := hide (show Fresh w w4 by rw [hw4]; exact F3.out.alloc _)
  clear hw4
  go_wp2_with fail
  refine (HN2.out _ _ ((Blk.new w4 5 _).rds)).mono ?_
  rintro e w5 ⟨g5, rfl, hg5, f5, cu5⟩
  have F5 := hide (F4.out.trans' (((Upd.refl _ w4).alloc _).trans' f5))
  have hw5 : w4.heap.size ≤ g5 := by have := hg5; simp at this; omega
  have HW5 := hide hw5
  have CU5 := hide cu5
  clear f5 hg5 hw5 cu5
  go_wp2_with fail
  refine (HFI.out _).mono ?_
  rintro e w6 ⟨rfl, f6⟩
  have HD2' := hide (HD2.out _ g5 w6 (CU5.out.fresh f6) (fun b hb => hb.2))
  have F6 := hide (F5.out.trans' f6)
  clear f6
  go_wp2_with fail
  refine HD2'.out.mono ?_
  rintro e w7 ⟨u7, v7, D7, h7, i7, A7, n7, c7, B7, m7, d7, C7, k7, e7, rfl, o7, -, -, -, -, -, -⟩
  have F7 := hide (F6.out.trans u7 (fun b hb e => by have h1 := HW5.out; have h2 := F4.out.size; omega))
  obtain ⟨Ax, cx, rfl, hcx, r7⟩ := o7.form
  have R7 := hide (r7.mono (G := fun _ => True) fun _ _ => trivial)
  clear u7 o7 r7
  go_upto_region 3 with fail
  obtain ⟨w8, hw8⟩ : ∃ w8, w8 = w7.alloc (.cells #[.slice D7 h7 i7, .int .i64 S2.tabs.lL, .slice A7 n7 c7, .int .i64 S2.tabs.lO, .slice B7 m7 d7, .int .i64 S2.tabs.lM, .slice C7 k7 e7, .int .i64 S2.a, .int .i64 S2.b, .int .i64 S2.c] 32) := ⟨_, rfl⟩
  simp only [← hw8]
  have f8 : Fresh w7 w8 := by rw [hw8]; exact (Upd.refl _ _).alloc _
  have F8 := hide (F7.out.trans' f8)
  have R8 := hide (R7.out.fresh f8)
  clear hw8 f8 R7
  go_wp2_with fail
  refine (HE1.out _ _ ((Blk.new w8 5 _).rds)).mono ?_
  rintro e w9 ⟨rfl, f9⟩
  have f89 : Fresh w8 w9 := ((Upd.refl _ w8).alloc _).trans' f9
  have F9 := hide (F8.out.trans' f89)
  have R9 := hide (R8.out.fresh f89)
  clear f9 f89 R8
  go_wp2_with fail
  refine (HE2.out _ _ ((Blk.new w9 5 _).rds)).mono ?_
  rintro e w10 ⟨rfl, f10⟩
  have f910 : Fresh w9 w10 := ((Upd.refl _ w9).alloc _).trans' f10
  have F10 := hide (F9.out.trans' f910)
  have R10 := hide (R9.out.fresh f910)
  clear f10 f910 R9
  go_wp2_with fail
  refine (same25_any _ (fun _ => True) Ax _ 1 1 cx 1 [(2, 3, 1)] [(2, 3, 1)] _ (R10.out.alloc' _) (rdK_one (Blk.new w10 23 _)) (by decide) (by decide)).mono ?_
  rintro e w11 ⟨rfl, f11⟩
  have F11 := hide (F10.out.trans' (((Upd.refl _ w10).alloc _).trans' f11))
  clear f11
  go_wp2_with fail
  try go_ret
  exact hR.out _ _ ⟨rfl, F11.out⟩

set_option maxRecDepth 100000 in
set_option maxHeartbeats 4000000 in
/-- whether a sequence may be -/
theorem may25_any (a b c : Int) (w : World) : Calls Tryz.prog 13 #[.agg #[.int .i64 a, .int .i64 b, .int .i64 c]] w fun e w' => e = .returned (.bool (decide (mayS (a, b, c)))) ∧ Fresh w w' := by
  have h7 : (mayS (a, b, c)) ∨ ¬ 0 ≤ a ∨ (0 ≤ a ∧ ¬ a ≤ 262143) ∨ (0 ≤ a ∧ a ≤ 262143 ∧ ¬ 3 ≤ b) ∨ (0 ≤ a ∧ a ≤ 262143 ∧ 3 ≤ b ∧ ¬ b ≤ 262146) ∨ (0 ≤ a ∧ a ≤ 262143 ∧ 3 ≤ b ∧ b ≤ 262146 ∧ ¬ 1 ≤ c) ∨ (0 ≤ a ∧ a ≤ 262143 ∧ 3 ≤ b ∧ b ≤ 262146 ∧ 1 ≤ c ∧ ¬ c ≤ 134217728) := by
    unfold mayS
    simp only
    omega
  have HD : ∀ x, decide (mayS (a, b, c)) = x → ∀ w', Fresh w w' → (Ending.returned (.bool x) = Ending.returned (.bool (decide (mayS (a, b, c)))) ∧ Fresh w w') := fun x hx w' h => ⟨by rw [hx], h⟩
  have HD := hide HD
  have hF : (¬ mayS (a, b, c)) → decide (mayS (a, b, c)) = false := fun h => decide_eq_false h
  refine veil fun R hR => ?_
  rcases h7 with h | h | ⟨h1, h⟩ | ⟨h1, h2, h⟩ | ⟨h1, h2, h3, h⟩ | ⟨h1, h2, h3, h4, h⟩ | ⟨h1, h2, h3, h4, h5, h⟩
  · have hd := HD.out true (decide_eq_true h)
    have HD2 := hide hd
    obtain ⟨h1, h2, h3, h4, h5, h6⟩ := h
    simp only at h1 h2 h3 h4 h5 h6
    clear hd HD hF
    go_enter Tryz.func13, Tryz.ntmps13
    go_wp2_with fail
    try go_ret
    exact hR.out _ _ (HD2.out _ ((Upd.refl _ _).alloc _))
  all_goals
    have hd := HD.out false (hF (by unfold mayS; simp only; omega))
    have HD2 := hide hd
    clear hd HD hF
    go_enter Tryz.func13, Tryz.ntmps13
    go_wp2_with fail
    try go_ret
    exact hR.out _ _ (HD2.out _ ((Upd.refl _ _).alloc _))

set_option maxRecDepth 100000 in
set_option maxHeartbeats 4000000 in
theorem valid25_any (a b c : Int) (w : World) (hb : -(2 ^ 63) ≤ b ∧ b < 2 ^ 63) : Calls Tryz.prog 12 #[.agg #[.int .i64 a, .int .i64 b, .int .i64 c]] w fun e w' => e = .returned (.bool (decide (mayS (a, b, c)))) ∧ Fresh w w' := by
  obtain ⟨q, hq⟩ : ∃ q, q = IntKind.i64.wrap (b - 3) := ⟨_, rfl⟩
  have hq2 : (0 ≤ q ∧ q < 262144) ↔ (3 ≤ b ∧ b ≤ 262146) := by
    rw [hq, IntKind.wrap_i64]
    omega
  have h7 : (mayS (a, b, c)) ∨ ¬ 0 ≤ a ∨ (0 ≤ a ∧ ¬ a < 262144) ∨ (0 ≤ a ∧ a < 262144 ∧ ¬ 0 ≤ q) ∨ (0 ≤ a ∧ a < 262144 ∧ 0 ≤ q ∧ ¬ q < 262144) ∨ (0 ≤ a ∧ a < 262144 ∧ 0 ≤ q ∧ q < 262144 ∧ ¬ 1 ≤ c) ∨ (0 ≤ a ∧ a < 262144 ∧ 0 ≤ q ∧ q < 262144 ∧ 1 ≤ c ∧ ¬ c ≤ 134217728) := by
    unfold mayS
    simp only
    omega
  have hq3 : ∀ p : Prop, (p → ¬ mayS (a, b, c)) → p → decide (mayS (a, b, c)) = false := fun p h hp => decide_eq_false (h hp)
  have HD : ∀ x, decide (mayS (a, b, c)) = x → ∀ w', Fresh w w' → (Ending.returned (.bool x) = Ending.returned (.bool (decide (mayS (a, b, c)))) ∧ Fresh w w') := fun x hx w' h => ⟨by rw [hx], h⟩
  have HD := hide HD
  have hF : (¬ mayS (a, b, c)) → decide (mayS (a, b, c)) = false := fun h => decide_eq_false h
  have HQ := hide hq2
  have hqr := hq.symm
  clear hq3 hq2 hq
  refine veil fun R hR => ?_
  rcases h7 with h | h | ⟨h1, h⟩ | ⟨h1, h2, h⟩ | ⟨h1, h2, h3, h⟩ | ⟨h1, h2, h3, h4, h⟩ | ⟨h1, h2, h3, h4, h5, h⟩
  · have hd := HD.out true (decide_eq_true h)
    have HD2 := hide hd
    obtain ⟨h1, h2, h3, h4, h5, h6⟩ := h
    simp only at h1 h2 h3 h4 h5 h6
    have h2' : a < 262144 := by omega
    obtain ⟨h3', h4'⟩ := HQ.out.2 ⟨h3, h4⟩
    clear hd HD hF h2 h3 h4 hb
    go_enter Tryz.func12, Tryz.ntmps12
    go_wp2_with fail
    try go_ret
    exact hR.out _ _ (HD2.out _ ((Upd.refl _ _).alloc _))
  all_goals
    have hd := HD.out false (hF (by have := HQ.out; unfold mayS; simp only; omega))
    have HD2 := hide hd
    clear hd HD hF hb
    go_enter Tryz.func12, Tryz.ntmps12
    go_wp2_with fail
    try go_ret
    exact hR.out _ _ (HD2.out _ ((Upd.refl _ _).alloc _))

end Go.Proofs.YtjfdaphjijfieaaGreat

/-
  The law SeqsMay, walked.
  Conditions: none beyond those of each theorem.
-/
namespace Go.Proofs.YtjfdaphjijfieaaGreat
open Go.RowKit
set_option linter.unusedVariables false
set_option linter.unusedSimpArgs false

set_option maxRecDepth 100000 in
set_option maxHeartbeats 4000000 in
theorem seqsMay_any (a b c : Int) (w : World) (hb : -(2 ^ 63) ≤ b ∧ b < 2 ^ 63) :
    Calls Tryz.prog 3 #[.agg #[.int .i64 a, .int .i64 b, .int .i64 c]] w fun e w' => e = .returned (.bool true) ∧ Fresh w w' := by
  obtain ⟨w0, hw0⟩ : ∃ w0, w0 = w.alloc (.cells #[.int .i64 a, .int .i64 b, .int .i64 c] 23) := ⟨_, rfl⟩
  obtain ⟨H, hH⟩ : ∃ H, H = w.heap.size := ⟨_, rfl⟩
  have f0 : Fresh w w0 := by rw [hw0]; exact (Upd.refl _ _).alloc _
  have bs : Blk w0 H 23 #[.int .i64 a, .int .i64 b, .int .i64 c] := by rw [hw0]; exact blk_new hH _ _
  have HV := hide (fun W => valid25_any a b c W hb)
  have HM := hide (fun W => may25_any a b c W)
  have HK := hide known25_any
  have HSS := hide (show ∀ W, Fresh w0 W → (Fresh w0 W ∧ W.cell? ⟨H, 0, none⟩ = some (.int .i64 a) ∧ W.cell? ⟨H, 1, none⟩ = some (.int .i64 b) ∧ W.cell? ⟨H, 2, none⟩ = some (.int .i64 c)) from fun W f => ⟨f, by simpa using (bs.fresh f).cell 0, by simpa using (bs.fresh f).cell 1, by simpa using (bs.fresh f).cell 2⟩)
  have F0 := hide f0
  have HW := hide hw0
  have HH := hide hH
  clear hw0 hH f0 bs hb
  generalize decide (mayS (a, b, c)) = d at *
  refine veil fun R hR => ?_
  go_enter Tryz.func3, Tryz.ntmps3
  go_upto_region 1 with fail
  simp only [← HH.out, ← HW.out]
  have hdd : (d == d) = true := by simp
  go_region_held3 (fun W => Fresh w0 W ∧ W.cell? ⟨H, 0, none⟩ = some (.int .i64 a) ∧ W.cell? ⟨H, 1, none⟩ = some (.int .i64 b) ∧ W.cell? ⟨H, 2, none⟩ = some (.int .i64 c))
    (first | exact HSS.out _ (Upd.refl _ _).drew | exact HSS.out _ (by assumption))
    (first
      | (go_at_call 12; ((with_reducible refine (HV.out _).mono ?_); rintro e w' ⟨rfl, f9⟩); have f9x : Fresh w0 w' := Upd.trans' (And.left (by assumption)) f9)
      | (go_at_call 13; ((with_reducible refine (HM.out _).mono ?_); rintro e w' ⟨rfl, f9⟩); have f9x : Fresh w0 w' := Upd.trans' (And.left (by assumption)) f9)
      | (go_at_call 14; ((with_reducible refine (HK.out _).mono ?_); rintro e w' ⟨rfl, f9⟩); have f9x : Fresh w0 w' := Upd.trans' (And.left (by assumption)) f9))
  all_goals go_wp2_with fail
  all_goals try go_ret
  all_goals exact hR.out _ _ ⟨rfl, F0.out.trans' (And.left (by assumption))⟩

end Go.Proofs.YtjfdaphjijfieaaGreat
