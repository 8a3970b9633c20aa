/-
  Joined texts, part 20: contracts and plain lemmas, each under its own heading below.
  Conditions: none beyond those of each theorem.
-/
import Derived.Test.YtcdbfddoanigbaaJ19
import Derived.Test.YtcdbfddoanigbaaJ17
import Derived.Test.YtcdbfddoanigbaaJ4
import Derived.Test.YtcdbfddoanigbaaJ3
import Derived.Test.YtcdbfddoanigbaaJ9
/-
  The statements' helper known.
  Conditions: none beyond those of each theorem.
-/
namespace Go.Proofs.Ytcdbfddoanigbaa
open Go.RowKit
set_option linter.unusedVariables false
set_option linter.unusedSimpArgs false

theorem known_d5 : decN 1 1 0 [] [5] 0 = (0, 0, oneN 5, 1) := by decide +kernel
theorem known_d28 : decN 1 1 0 [] [28] 0 = (13, 0, [], 1) := by decide +kernel
theorem known_ch : chooseN 0 0 [] [0, 9] = (1, 0, oneN 1, 0) := by decide +kernel
theorem known_co : costN 2 [3, 1] [2, 5] = (12, 0) := by decide +kernel
theorem fit_nil : Fit [] := fun _ h => by cases h
theorem fit_small {N : List Int} (h : ∀ x ∈ N, -1000 ≤ x ∧ x ≤ 1000) : Fit N := fun x hx => by have := h x hx; omega

set_option maxRecDepth 100000 in
set_option maxHeartbeats 4000000 in
theorem known24_any (w : World) : Calls Try.prog 10 #[] w fun e w' => e = .returned (.bool true) ∧ Fresh w w' := by
  have HN := hide (fun (b : Nat) (hb : b < 256) (A : Option Addr) (W : World) (h : Rd W (fun _ => True) A 1 ([b].map fun b : Nat => Value.int .u8 (b : Nat))) => new_any (fun _ => True) A 1 1 [b] W h (by simpa using hb) (by simp))
  have HD5 := hide (fun (F : Nat → Prop) g W (h : CurAt W F g [5] 0) (hF : ∀ b, F b → b ≠ g) => mdec_any F (fun _ => True) g [5] 0 none 0 0 1 1 0 [] W h hF (Rd.nil _ _ _) fit_nil (by omega))
  have HD28 := hide (fun (F : Nat → Prop) g W (h : CurAt W F g [28] 0) (hF : ∀ b, F b → b ≠ g) => mdec_any F (fun _ => True) g [28] 0 none 0 0 1 1 0 [] W h hF (Rd.nil _ _ _) fit_nil (by omega))
  have HCH := hide (fun (A : Option Addr) W (h : Rd W (fun _ => True) A 2 (ints [0, 9])) => choose_any (fun _ => True) (fun _ => True) A none 2 2 0 0 0 0 [] [0, 9] W (Rd.nil _ _ _) fit_nil (by omega) h (fit_small (by decide)) (by omega))
  have HCO := hide (fun (A B : Option Addr) W (h : Rd W (fun _ => True) A 2 (ints [2, 5])) (h' : Rd W (fun _ => True) B 2 (ints [3, 1])) => cost_any (fun _ => True) (fun _ => True) A B 2 2 2 2 2 [3, 1] [2, 5] W h' (fit_small (by decide)) (by omega) h (fit_small (by decide)) (by omega))
  simp only [known_d5] at HD5
  simp only [known_d28] at HD28
  simp only [known_ch] at HCH
  simp only [known_co] at HCO
  refine veil fun R hR => ?_
  go_enter Try.func10, Try.ntmps10
  go_wp2_with fail
  refine (HN.out 5 (by omega) _ _ ((Blk.new w 5 _).rds)).mono ?_
  rintro e w1 ⟨g1, rfl, hg1, f1, cu1⟩
  have F1 := hide (show Fresh w w1 from ((Upd.refl _ w).alloc _).trans' f1)
  have hw1 : w.heap.size ≤ g1 := by have := hg1; simp at this; omega
  clear f1
  go_wp2_with fail
  refine (HD5.out _ _ _ cu1 (fun b hb => hb.2)).mono ?_
  rintro e w2 ⟨u2, -, A2, n2, c2, rfl, r2⟩
  have F2 := hide (show Fresh w w2 from F1.out.trans u2 (fun b hb h => by omega))
  have hn2 : (oneN 5).length = n2 := by have := r2.1; simpa using this
  have R2 := hide r2
  have HN2 := hide hn2
  clear u2 cu1 hg1 hw1 r2 hn2
  go_upto_region 2 with fail
  obtain ⟨K1, hK1⟩ : ∃ K1, K1 = w2.heap.size := ⟨_, rfl⟩
  obtain ⟨w3, hw3⟩ : ∃ w3, w3 = w2.alloc (.cells #[.int .i64 0, .slice A2 n2 c2] 26) := ⟨_, rfl⟩
  rw [← hw3, ← hK1]
  have f3 : Fresh w2 w3 := by rw [hw3]; exact (Upd.refl _ _).alloc _
  have T1 := hide (show Blk w3 K1 26 #[.int .i64 0, .slice A2 n2 c2] by rw [hw3]; exact blk_new hK1 _ _)
  have F3 := hide (F2.out.trans' f3)
  have R3 := hide (R2.out.fresh f3)
  clear hw3 hK1 f3 R2
  go_wp2_with fail
  refine (HN.out 28 (by omega) _ _ ((Blk.new w3 5 _).rds)).mono ?_
  rintro e w4 ⟨g4, rfl, hg4, f4, cu4⟩
  have f34 : Fresh w3 w4 := ((Upd.refl _ w3).alloc _).trans' f4
  have hw4 : w3.heap.size ≤ g4 := by have := hg4; simp at this; omega
  clear f4 hg4
  go_wp2_with fail
  refine (HD28.out _ _ _ cu4 (fun b hb => hb.2)).mono ?_
  rintro e w5 ⟨u5, -, A5, n5, c5, rfl, r5⟩
  have f35 : Fresh w3 w5 := f34.trans u5 (fun b hb h => by omega)
  have T2 := hide (T1.out.fresh f35)
  have F5 := hide (F3.out.trans' f35)
  have R5 := hide (R3.out.fresh f35)
  clear f34 hw4 u5 f35 r5 cu4 T1 R3
  go_wp2_with fail
  refine (HCH.out _ _ ((blk_new (by simp) 3 _).rds)).mono ?_
  rintro e w6 ⟨A6, n6, c6, rfl, hn6, r6, f6⟩
  have f56 : Fresh w5 w6 := (((Upd.refl _ w5).alloc _).alloc _).trans' f6
  have T3 := hide (T2.out.fresh f56)
  have F6 := hide (F5.out.trans' f56)
  have R6 := hide (R5.out.fresh f56)
  have RC6 := hide r6.1
  have HN6 := hide hn6
  clear f6 f56 T2 R5 r6 hn6
  go_upto_region 4 with fail
  obtain ⟨K6, hK6⟩ : ∃ K6, K6 = w6.heap.size := ⟨_, rfl⟩
  obtain ⟨w7, hw7⟩ : ∃ w7, w7 = w6.alloc (.cells #[.int .i64 0, .slice A6 n6 c6] 26) := ⟨_, rfl⟩
  rw [← hw7, ← hK6]
  have f7 : Fresh w6 w7 := by rw [hw7]; exact (Upd.refl _ _).alloc _
  have TC7 := hide (show Blk w7 K6 26 #[.int .i64 0, .slice A6 n6 c6] by rw [hw7]; exact blk_new hK6 _ _)
  have T7 := hide (T3.out.fresh f7)
  have F7 := hide (F6.out.trans' f7)
  have R7 := hide (R6.out.fresh f7)
  have RC7 := hide (RC6.out.fresh f7)
  clear hw7 hK6 f7 T3 R6 RC6
  go_wp2_with fail
  refine (HCO.out _ _ _ ((blk_new (by simp) 3 _).rds) (((Blk.new w7 3 _).alloc _).rds)).mono ?_
  rintro e w8 ⟨rfl, f8⟩
  have f78 : Fresh w7 w8 := (((Upd.refl _ w7).alloc _).alloc _).trans' f8
  have T8 := T7.out.fresh f78
  have TC8 := TC7.out.fresh f78
  have F8 := hide (F7.out.trans' f78)
  have R8 := hide (R7.out.fresh f78)
  have RC8 := hide (RC7.out.fresh f78)
  have HSS := hide (show ∀ W, Fresh w8 W → (Fresh w8 W ∧ W.cell? ⟨K1, 0, none⟩ = some (.int .i64 0) ∧ W.cell? ⟨K1, 1, none⟩ = some (.slice A2 n2 c2) ∧ W.cell? ⟨K6, 0, none⟩ = some (.int .i64 0) ∧ W.cell? ⟨K6, 1, none⟩ = some (.slice A6 n6 c6)) from fun W h => ⟨h, by simpa using (T8.fresh h).cell 0, by simpa using (T8.fresh h).cell 1, by simpa using (TC8.fresh h).cell 0, by simpa using (TC8.fresh h).cell 1⟩)
  have HO5 := hide (show ∀ W, Calls Try.prog 25 #[.int .i64 5] W fun e w' => NewTabR W w' e 0 (oneN 5) from fun W => rone_any 5 W (by omega))
  have HO1 := hide (show ∀ W, Calls Try.prog 25 #[.int .i64 1] W fun e w' => NewTabR W w' e 0 (oneN 1) from fun W => rone_any 1 W (by omega))
  have HS5 := hide (fun W (h : Fresh w8 W) (A : Option Addr) (c : Nat) (F : Nat → Prop) (hr : Rd W F A (oneN 5).length (ints (oneN 5))) => same07_any _ F A2 A n2 (oneN 5).length c2 c 0 0 (oneN 5) (oneN 5) W (R8.out.fresh h) hr (by rw [← HN2.out]; decide) (by decide))
  have HS1 := hide (fun W (h : Fresh w8 W) (A : Option Addr) (c : Nat) (F : Nat → Prop) (hr : Rd W F A (oneN 1).length (ints (oneN 1))) => same07_any _ F A6 A n6 (oneN 1).length c6 c 0 0 (oneN 1) (oneN 1) W (RC8.out.fresh h) hr (by rw [HN6.out]; decide) (by decide))
  rw [decide_eq_true ⟨rfl, rfl⟩] at HS5 HS1
  clear f8 f78 T7 TC7 R7 RC7 T8 TC8 HN HD5 HD28 HCH HCO
  generalize oneN 5 = N5 at *
  generalize oneN 1 = N1 at *
  go_upto_region 5 with fail
  go_region_held3 (fun W => Fresh w8 W ∧ W.cell? ⟨K1, 0, none⟩ = some (.int .i64 0) ∧ W.cell? ⟨K1, 1, none⟩ = some (.slice A2 n2 c2) ∧ W.cell? ⟨K6, 0, none⟩ = some (.int .i64 0) ∧ W.cell? ⟨K6, 1, none⟩ = some (.slice A6 n6 c6))
    (first | exact HSS.out _ (by assumption) | exact HSS.out _ (And.left (by assumption)) | exact HSS.out _ (Upd.refl _ _) | exact HSS.out _ (Upd.refl _ _).drew)
    (first
      | (go_at_call 25; ((with_reducible refine (HO5.out _).mono ?_); rintro e w' ⟨A9, c9, rfl, r9, f9⟩); have f9x : Fresh w8 w' := Upd.trans' (And.left (by assumption)) f9)
      | (go_at_call 25; ((with_reducible refine (HO1.out _).mono ?_); rintro e w' ⟨A9, c9, rfl, r9, f9⟩); have f9x : Fresh w8 w' := Upd.trans' (And.left (by assumption)) f9)
      | (go_at_call 22; ((with_reducible refine (HS5.out _ (And.left (by assumption)) _ _ _ (by assumption)).mono ?_); rintro e w' ⟨rfl, f9⟩); have f9y : Fresh w8 w' := Upd.trans' (And.left (by assumption)) f9)
      | (go_at_call 22; ((with_reducible refine (HS1.out _ (And.left (by assumption)) _ _ _ (by assumption)).mono ?_); rintro e w' ⟨rfl, f9⟩); have f9y : Fresh w8 w' := Upd.trans' (And.left (by assumption)) f9))
  all_goals go_wp2_with fail
  all_goals try go_ret
  all_goals exact hR.out _ _ ⟨rfl, F8.out.trans' (And.left (by assumption))⟩

end Go.Proofs.Ytcdbfddoanigbaa

/-
  Modes, the plain laws: what Decode reads of what Encode writes, of a cut of it, and back.
  Conditions: none beyond those of each theorem.
-/
namespace Go.Proofs.Ytcdbfddoanigbaa
open Go.RowKit
set_option linter.unusedVariables false
set_option linter.unusedSimpArgs false

theorem seen_short {bs : List Nat} (h : bs.length ≤ 1024) : seenB bs 0 = bs := by
  unfold seenB
  rw [List.drop_zero, List.take_of_length_le h]

theorem decodeS_err24 {sy lb : Int} {L : List Bool} {x : Int} (h : decodeS sy lb L = .error x) : x ≠ 0 := by
  unfold decodeS at h
  simp only at h
  split at h
  · injection h with h; subst h; assumption
  · split at h
    · injection h with h; omega
    · cases h

theorem absZ_le_sum24 {N : List Int} {v : Int} (h : v ∈ N) : absZ v ≤ sumZ N := by
  induction N with
  | nil => cases h
  | cons x l ih =>
    rw [sumZ_cons]
    have h1 := sumZ_nonneg l
    have h2 := absZ_nonneg x
    rcases List.mem_cons.1 h with rfl | h
    · omega
    · have := ih h; omega
theorem absZ_zero {n : Int} (h : absZ n = 0) : n = 0 := by unfold absZ at h; split at h <;> omega
theorem zeros_of_sum {N : List Int} (h : sumZ N = 0) : N = List.replicate N.length 0 := by
  induction N with
  | nil => rfl
  | cons x l ih =>
    rw [sumZ_cons] at h
    have h1 := absZ_nonneg x
    have h2 := sumZ_nonneg l
    have h3 := absZ_zero (n := x) (by omega)
    rw [List.length_cons, List.replicate_succ, ← ih (by omega), h3]
theorem one_of_sum {N : List Int} (h0 : 0 < N.length) (hs : sumZ N = 1) (hl : N[N.length - 1]? = some 1) : N = oneN (N.length - 1) := by
  obtain ⟨M, x, rfl⟩ : ∃ M x, N = M ++ [x] := by
    have h1 : N ≠ [] := by intro h; rw [h] at h0; simp at h0
    exact ⟨N.dropLast, N.getLast h1, (List.dropLast_concat_getLast h1).symm⟩
  have hx : x = 1 := by simpa using hl
  subst hx
  rw [sumZ_append] at hs
  have h1 : sumZ [1] = 1 := by decide
  have h2 := zeros_of_sum (N := M) (by omega)
  unfold oneN
  rw [List.length_append, List.length_singleton, Nat.add_sub_cancel]
  rw [← h2]
theorem oneN_last (s : Nat) : (oneN s)[(oneN s).length - 1]? = some 1 := by unfold oneN; simp
theorem oneN_valid {s : Nat} {sy lb : Int} (h : (s : Int) + 1 ≤ sy) (hb : 0 ≤ lb) : Valid 0 (oneN s) sy lb := by
  have hz : ∀ k : Nat, sumZ (List.replicate k 0) = 0 := by
    intro k
    induction k with
    | zero => rfl
    | succ k ih => rw [List.replicate_succ, sumZ_cons, ih]; decide
  refine ⟨by omega, hb, by omega, by simp, by simpa using h, by rw [oneN_last]; simp, ?_, ?_⟩
  · intro x hx
    unfold oneN at hx
    rcases List.mem_append.1 hx with hx | hx
    · have := List.eq_of_mem_replicate hx; omega
    · simp at hx; omega
  · unfold oneN
    rw [sumZ_append, hz]
    decide
theorem part_valid {p : Int} (h : 0 ≤ p ∧ p ≤ 2) : Valid (partL p) (partN p) (partS p) (partX p) := by
  rcases part_cases h with rfl | rfl | rfl
  · decide +kernel
  · decide +kernel
  · decide +kernel

theorem encN_ok {m p lg : Int} {N : List Int} (h : (encN m p lg N).1 = 0) : 0 ≤ m ∧ m ≤ 3 ∧ 0 ≤ p ∧ p ≤ 2 ∧ Valid lg N (partS p) (partX p) ∧ encN m p lg N = encM m p lg N := by
  by_cases h1 : p < 0 ∨ 2 < p ∨ m < 0 ∨ 3 < m
  · have : encN m p lg N = (2, []) := if_pos h1
    rw [this] at h; simp at h
  · by_cases hv : Valid lg N (partS p) (partX p)
    · have : encN m p lg N = encM m p lg N := by unfold encN; rw [if_neg h1, if_pos hv]
      exact ⟨by omega, by omega, by omega, by omega, hv, this⟩
    · have : encN m p lg N = (13, []) := by unfold encN; rw [if_neg h1, if_neg hv]
      rw [this] at h; simp at h

theorem encN_byte {m p lg : Int} {N : List Int} : ∀ b ∈ (encN m p lg N).2, b < 256 := by
  intro b hb
  by_cases h1 : p < 0 ∨ 2 < p ∨ m < 0 ∨ 3 < m
  · have : encN m p lg N = (2, []) := if_pos h1
    rw [this] at hb; simp at hb
  · by_cases hv : Valid lg N (partS p) (partX p)
    · have e : encN m p lg N = encM m p lg N := by unfold encN; rw [if_neg h1, if_pos hv]
      rw [e] at hb
      unfold encM at hb
      split at hb
      · split at hb <;> simp at hb
      · split at hb
        · split at hb
          · have h2 := hv.2.2.2.2.1
            have h3 := (part_bounds p).1
            simp at hb
            omega
          · simp at hb
        · split at hb
          · split at hb
            · exact packB_lt _ b hb
            · simp at hb
          · simp at hb
    · have : encN m p lg N = (13, []) := by unfold encN; rw [if_neg h1, if_neg hv]
      rw [this] at hb; simp at hb

theorem modes_back {m p lg : Int} {N : List Int} (h : (encN m p lg N).1 = 0) (bs : List Nat) (hbs : bs.length ≤ 500) :
    decN m p lg N ((encN m p lg N).2 ++ bs) 0 = (0, lg, N, (encN m p lg N).2.length) := by
  obtain ⟨a1, a2, a3, a4, hv, he⟩ := encN_ok h
  rw [he] at h ⊢
  have hd : ∀ l, decN m p lg N l 0 = decM m p lg N l 0 := fun l => by unfold decN; exact if_neg (by omega)
  rw [hd]
  clear hd he
  have : m = 0 ∨ m = 1 ∨ m = 2 ∨ m = 3 := by omega
  rcases this with rfl | rfl | rfl | rfl
  · by_cases hq : partL p = lg ∧ partN p = N
    · have e : encM 0 p lg N = (0, []) := by simp [encM, hq]
      rw [e]
      simp [decM, hq.1, hq.2]
    · simp [encM, hq] at h
  · by_cases hq : lg = 0 ∧ N[N.length - 1]? = some 1
    · have e : encM 1 p lg N = (0, [N.length - 1]) := by simp [encM, hq]
      rw [e]
      have hs := hv.2.2.2.2.2.2.2
      rw [hq.1] at hs
      have hone := one_of_sum hv.2.2.2.1 hs hq.2
      have h2 := hv.2.2.2.2.1
      have h3 := hv.2.2.2.1
      have ho : oneS ([N.length - 1] ++ bs) 0 (partS p) = (0, oneN (N.length - 1), 1) := by
        unfold oneS
        rw [if_pos (by simp)]
        have : ([N.length - 1] ++ bs)[0]?.getD 0 = N.length - 1 := rfl
        rw [this, if_neg (by omega)]
      show ((oneS ([N.length - 1] ++ bs) 0 (partS p)).1, (0 : Int), (oneS ([N.length - 1] ++ bs) 0 (partS p)).2.1, (oneS ([N.length - 1] ++ bs) 0 (partS p)).2.2) = (0, lg, N, 1)
      rw [ho, ← hone, hq.1]
    · simp [encM, hq] at h
  · by_cases hq : lg ≠ 0
    · have e : encM 2 p lg N = (0, packB (descBits lg.toNat N)) := by simp [encM, hq]
      rw [e]
      obtain ⟨q, rfl⟩ : ∃ q : Nat, lg = q := ⟨lg.toNat, by have := hv.1; omega⟩
      have hv2 := valid_wide hv
      have hle := desc_bytes_le hv2
      have hb := desc_back (sy := partS p) (lb := partX p) hv2 (by omega) hv.2.2.2.2.1 hv.2.1 bs
      show desS (packB (descBits (q : Int).toNat N) ++ bs) 0 (partS p) (partX p) = _
      rw [Int.toNat_natCast]
      unfold desS
      rw [seen_short (by simp; omega), hb]
    · simp [encM, hq] at h
  · have e : encM 3 p lg N = (0, []) := by simp [encM]
    rw [e]
    simp [decM, hv]

theorem modes_cut {m p lg : Int} {N : List Int} (h : (encN m p lg N).1 = 0) (k : Nat) (hk : k < (encN m p lg N).2.length) :
    (decN m p 0 [] ((encN m p lg N).2.take k) 0).1 = 3 := by
  obtain ⟨a1, a2, a3, a4, hv, he⟩ := encN_ok h
  rw [he] at h hk ⊢
  have hd : ∀ l, decN m p 0 [] l 0 = decM m p 0 [] l 0 := fun l => by unfold decN; exact if_neg (by omega)
  rw [hd]
  clear hd he
  have : m = 0 ∨ m = 1 ∨ m = 2 ∨ m = 3 := by omega
  rcases this with rfl | rfl | rfl | rfl
  · by_cases hq : partL p = lg ∧ partN p = N <;> simp [encM, hq] at hk
  · by_cases hq : lg = 0 ∧ N[N.length - 1]? = some 1
    · have e : encM 1 p lg N = (0, [N.length - 1]) := by simp [encM, hq]
      rw [e] at hk ⊢
      have : k = 0 := by simpa using hk
      subst this
      rfl
    · simp [encM, hq] at hk
  · by_cases hq : lg ≠ 0
    · have e : encM 2 p lg N = (0, packB (descBits lg.toNat N)) := by simp [encM, hq]
      rw [e] at hk ⊢
      obtain ⟨q, rfl⟩ : ∃ q : Nat, lg = q := ⟨lg.toNat, by have := hv.1; omega⟩
      have hv2 := valid_wide hv
      have hle := desc_bytes_le hv2
      rw [Int.toNat_natCast] at hk ⊢
      have hc := desc_cut (sy := partS p) (lb := partX p) hv2 (by omega) hv.2.2.2.2.1 hv.2.1 k hk
      show (desS ((packB (descBits q N)).take k) 0 (partS p) (partX p)).1 = 3
      unfold desS
      rw [seen_short (by simp; omega), hc]
    · simp [encM, hq] at hk
  · simp [encM] at hk

theorem modes_once {m p lg l2 : Int} {N N2 : List Int} {bs : List Nat} {k : Nat} (hb : ∀ b ∈ bs, b < 256) (hl : bs.length ≤ 1000) (h : decN m p lg N bs 0 = (0, l2, N2, k)) :
    0 ≤ m ∧ m ≤ 3 ∧ 0 ≤ p ∧ p ≤ 2 ∧ Valid l2 N2 (partS p) (partX p) ∧ k ≤ bs.length ∧ encN m p l2 N2 = (0, bs.take k) := by
  by_cases h1 : p < 0 ∨ 2 < p ∨ m < 0 ∨ 3 < m
  · have : decN m p lg N bs 0 = (2, 0, [], 0) := if_pos h1
    rw [this] at h; simp at h
  have hd : decN m p lg N bs 0 = decM m p lg N bs 0 := if_neg h1
  rw [hd] at h
  have hp : 0 ≤ p ∧ p ≤ 2 := by omega
  have he : ∀ l M, Valid l M (partS p) (partX p) → encN m p l M = encM m p l M := fun l M hv => by unfold encN; rw [if_neg h1, if_pos hv]
  refine ⟨by omega, by omega, by omega, by omega, ?_⟩
  have : m = 0 ∨ m = 1 ∨ m = 2 ∨ m = 3 := by omega
  rcases this with rfl | rfl | rfl | rfl
  · have e : decM 0 p lg N bs 0 = (0, partL p, partN p, 0) := rfl
    rw [e] at h
    simp only [Prod.mk.injEq, true_and] at h
    obtain ⟨rfl, rfl, rfl⟩ := h
    refine ⟨part_valid hp, by omega, ?_⟩
    rw [he _ _ (part_valid hp)]
    simp [encM]
  · have e : decM 1 p lg N bs 0 = ((oneS bs 0 (partS p)).1, 0, (oneS bs 0 (partS p)).2.1, (oneS bs 0 (partS p)).2.2) := rfl
    rw [e] at h
    simp only [Prod.mk.injEq] at h
    obtain ⟨e1, rfl, rfl, rfl⟩ := h
    unfold oneS at e1 ⊢
    by_cases hb0 : 0 < bs.length
    · rw [if_pos hb0] at e1 ⊢
      obtain ⟨b, bs', rfl⟩ : ∃ b bs', bs = b :: bs' := by
        cases bs with
        | nil => simp at hb0
        | cons a l => exact ⟨a, l, rfl⟩
      have hg : (b :: bs')[0]?.getD 0 = b := rfl
      rw [hg] at e1 ⊢
      by_cases hs : partS p ≤ (b : Nat)
      · rw [if_pos hs] at e1; simp at e1
      · rw [if_neg hs]
        have hv := oneN_valid (s := b) (sy := partS p) (lb := partX p) (by omega) (by have := part_bounds p; omega)
        refine ⟨hv, by simp, ?_⟩
        rw [he _ _ hv]
        have hl1 := oneN_last b
        rw [oneN_length, Nat.add_sub_cancel] at hl1
        have hl2 := (List.getElem?_eq_some_iff.1 hl1).2
        simp [encM, hl1, hl2]
    · rw [if_neg hb0] at e1; simp at e1
  · have e : decM 2 p lg N bs 0 = desS bs 0 (partS p) (partX p) := rfl
    rw [e] at h
    unfold desS at h
    rw [seen_short (by omega)] at h
    rcases hc : decodeS (partS p) (partX p) (rowB bs) with e2 | ⟨q, M, j⟩
    · rw [hc] at h
      simp only [Prod.mk.injEq] at h
      exact absurd h.1 (decodeS_err24 hc)
    · rw [hc] at h
      simp only [Prod.mk.injEq, true_and] at h
      obtain ⟨rfl, rfl, rfl⟩ := h
      obtain ⟨d1, d2, d3, d4, d5, d6⟩ := desc_once hb hc
      have hv : Valid q M (partS p) (partX p) := ⟨d1.1, d4, d1.2.2.1, d1.2.2.2.1, d3, d1.2.2.2.2.2⟩
      refine ⟨hv, d5, ?_⟩
      rw [he _ _ hv]
      have hq : (q : Int) ≠ 0 := by omega
      simp [encM, d6, d2]
  · by_cases hv : Valid lg N (partS p) (partX p)
    · have e : decM 3 p lg N bs 0 = (0, lg, N, 0) := by simp [decM, hv]
      rw [e] at h
      simp only [Prod.mk.injEq, true_and] at h
      obtain ⟨rfl, rfl, rfl⟩ := h
      refine ⟨hv, by omega, ?_⟩
      rw [he _ _ hv]
      simp [encM]
    · have e : decM 3 p lg N bs 0 = (13, 0, [], 0) := by simp [decM, hv]
      rw [e] at h
      simp at h

end Go.Proofs.Ytcdbfddoanigbaa
