/-
  Package norm: Check answers OK exactly at the valid tables.
  Conditions: none beyond those of each theorem.
-/
import Derived.Test.YtbnicnindggimaaInfo
namespace Go.Proofs.Ytbnicnindggimaa
open Go.RowKit

/-- the number of states of a norm -/
def absZ (n : Int) : Int := if n < 0 then -n else n
def sumZ (l : List Int) : Int := l.foldr (fun n s => absZ n + s) 0

/-- a table is valid for the bounds -/
def Valid (lg : Int) (N : List Int) (sy lb : Int) : Prop :=
  0 ≤ lg ∧ lg ≤ lb ∧ lg ≤ 9 ∧ 0 < N.length ∧ (N.length : Int) ≤ sy ∧ N[N.length - 1]? ≠ some 0 ∧ (∀ n ∈ N, -1 ≤ n) ∧ sumZ N = 2 ^ lg.toNat

instance (lg : Int) (N : List Int) (sy lb : Int) : Decidable (Valid lg N sy lb) := by unfold Valid; infer_instance

theorem sumZ_cons (n : Int) (l : List Int) : sumZ (n :: l) = absZ n + sumZ l := rfl
theorem sumZ_append : ∀ a b : List Int, sumZ (a ++ b) = sumZ a + sumZ b
  | [], b => by simp [sumZ]
  | x :: a, b => by rw [List.cons_append, sumZ_cons, sumZ_cons, sumZ_append a b]; omega
theorem absZ_nonneg (n : Int) : 0 ≤ absZ n := by unfold absZ; split <;> omega
theorem sumZ_nonneg : ∀ l : List Int, 0 ≤ sumZ l
  | [] => by simp [sumZ]
  | x :: l => by have := sumZ_nonneg l; have := absZ_nonneg x; rw [sumZ_cons]; omega
theorem sumZ_take_succ (l : List Int) (k : Nat) (h : k < l.length) : sumZ (l.take (k + 1)) = sumZ (l.take k) + absZ l[k] := by
  rw [List.take_succ_eq_append_getElem h, sumZ_append]; simp [sumZ]
theorem sumZ_take_le (l : List Int) (k : Nat) : sumZ (l.take k) ≤ sumZ l := by
  have h := sumZ_append (l.take k) (l.drop k)
  rw [List.take_append_drop] at h
  have := sumZ_nonneg (l.drop k)
  omega

def ints (N : List Int) : List Value := N.map (Value.int .i64)
@[simp] theorem ints_length (N : List Int) : (ints N).length = N.length := by simp [ints]
theorem ints_get {N : List Int} {k : Nat} (h : k < N.length) : (ints N)[k]? = some (.int .i64 N[k]) := by simp [ints, h]
theorem Rd.int {w : World} {F : Nat → Prop} {A : Option Addr} {n : Nat} {N : List Int} (h : Rd w F A n (ints N)) {k : Nat} (hk : k < n) :
    ∃ (b o : Nat) (hk' : k < N.length), A = some ⟨b, o, none⟩ ∧ b < w.heap.size ∧ w.cell? ⟨b, o + k, none⟩ = some (.int .i64 N[k]) := by
  obtain ⟨b, o, e, _, hb, hc⟩ := h.at_ hk
  have hk' : k < N.length := by have := h.1; simp at this; omega
  exact ⟨b, o, hk', e, hb, by rw [hc, ints_get hk']⟩

/-- norms and logs that fit their kind -/
def Fit (N : List Int) : Prop := ∀ n ∈ N, -9223372036854775808 ≤ n ∧ n ≤ 9223372036854775807

set_option maxRecDepth 100000 in
set_option maxHeartbeats 1000000 in
theorem check_head (F : Nat → Prop) (A : Option Addr) (n c : Nat) (lg sy lb : Int) (N : List Int) (w : World) (hr : Rd w F A n (ints N)) (hn : (n : Int) ≤ 1099511627776)
    (h : lg < 0 ∨ lb < lg ∨ 9 < lg ∨ n = 0 ∨ sy < n ∨ N[n - 1]? = some 0) :
    Calls Try.prog 46 #[.agg #[.int .i64 lg, .slice A n c], .int .i64 sy, .int .i64 lb] w fun e w' => e = .returned (.int .i64 13) ∧ Fresh w w' := by
  have fr : Fresh w (w.alloc (.cells #[.int .i64 lg, .slice A n c] 24)) := (Upd.refl _ _).alloc _
  have FR := hide fr
  clear fr
  by_cases h1 : lg < 0
  · clear h
    go_enter Try.func46, Try.ntmps46
    go_wp2
    all_goals (go_ret; exact ⟨rfl, FR.out⟩)
  by_cases h2 : lb < lg ∨ 9 < lg
  · clear h
    by_cases h3 : lb ≤ 9
    · have h4 : lb < lg := by omega
      clear h2
      go_enter Try.func46, Try.ntmps46
      go_wp2
      go_ret
      exact ⟨rfl, FR.out⟩
    · have h4 : 9 < lg := by omega
      clear h2
      go_enter Try.func46, Try.ntmps46
      go_wp2
      go_ret
      exact ⟨rfl, FR.out⟩
  have a1 : 0 ≤ lg := by omega
  have a2 : lg ≤ lb := by omega
  have a3 : lg ≤ 9 := by omega
  have a4 : lg ≤ min lb 9 := by omega
  by_cases h3 : n = 0
  · clear h h1 h2
    subst h3
    go_enter Try.func46, Try.ntmps46
    go_wp2
    all_goals (go_ret; exact ⟨rfl, FR.out⟩)
  have b1 : 0 < n := by omega
  have b2 : ((n : Int) == 0) = false := by simp; omega
  by_cases h4 : sy < n
  · clear h h1 h2 h3
    go_enter Try.func46, Try.ntmps46
    go_wp2
    all_goals (go_ret; exact ⟨rfl, FR.out⟩)
  have b3 : (n : Int) ≤ sy := by omega
  have h5 : N[n - 1]? = some 0 := by
    rcases h with h | h | h | h | h | h
    all_goals first | exact h | omega
  clear h h1 h2 h3 h4
  obtain ⟨b, o, hk, rfl, hb, hc⟩ := hr.int (k := n - 1) (by omega)
  have e0 : N[n - 1] = 0 := by rw [List.getElem?_eq_getElem hk] at h5; simpa using h5
  rw [e0] at hc
  have hc' : (w.alloc (.cells #[.int .i64 lg, .slice (some ⟨b, o, none⟩) n c] 24)).cell? ⟨b, o + (n - 1), none⟩ = some (.int .i64 0) := by
    rw [World.cell?_alloc_lt _ _ _ hb]; exact hc
  clear hc h5 e0
  go_enter Try.func46, Try.ntmps46
  go_wp2
  all_goals (go_ret; exact ⟨rfl, FR.out⟩)

set_option maxRecDepth 100000 in
set_option maxHeartbeats 400000 in
theorem check_body (F : Nat → Prop) (A : Option Addr) (n c : Nat) (lg sy lb : Int) (N : List Int) (w : World) (hr : Rd w F A n (ints N)) (hfit : Fit N) (hn : (n : Int) ≤ 1099511627776)
    (a1 : 0 ≤ lg) (a2 : lg ≤ lb) (a3 : lg ≤ 9) (b1 : 0 < n) (b3 : (n : Int) ≤ sy) (hlast : N[n - 1]? ≠ some 0) :
    Calls Try.prog 46 #[.agg #[.int .i64 lg, .slice A n c], .int .i64 sy, .int .i64 lb] w fun e w' =>
      e = .returned (.int .i64 (if (∀ n ∈ N, -1 ≤ n) ∧ sumZ N = 2 ^ lg.toNat then 0 else 13)) ∧ Fresh w w' := by
  have hN : N.length = n := by have := hr.1; simpa using this
  have a4 : lg ≤ min lb 9 := by omega
  have b2 : ((n : Int) == 0) = false := by simp; omega
  obtain ⟨b, o, hk, rfl, hb, hc⟩ := hr.int (k := n - 1) (by omega)
  have e0 : (N[n - 1] == 0) = false := by
    rw [List.getElem?_eq_getElem hk] at hlast
    simpa using hlast
  obtain ⟨z, hz⟩ : ∃ z, z = N[n - 1] := ⟨_, rfl⟩
  rw [← hz] at hc e0
  clear hlast hz
  obtain ⟨w1, hw1⟩ : ∃ w1, w1 = w.alloc (.cells #[.int .i64 lg, .slice (some ⟨b, o, none⟩) n c] 24) := ⟨_, rfl⟩
  have hc' : (w.alloc (.cells #[.int .i64 lg, .slice (some ⟨b, o, none⟩) n c] 24)).cell? ⟨b, o + (n - 1), none⟩ = some (.int .i64 z) := by
    rw [World.cell?_alloc_lt _ _ _ hb]; exact hc
  have hr1 : Rd w1 F (some ⟨b, o, none⟩) n (ints N) := by rw [hw1]; exact hr.alloc _
  have fr : Fresh w w1 := by rw [hw1]; exact (Upd.refl _ _).alloc _
  have FR := hide fr
  have HW := hide hw1
  have HR := hide hr1
  have HN := hide hN
  have HF := hide hfit
  clear hc fr hr hr1 hN hw1 hk hfit
  obtain ⟨p, hp, hp9⟩ : ∃ p : Nat, lg = p ∧ p ≤ 9 := ⟨lg.toNat, by omega, by omega⟩
  subst hp
  have hpow : (2 : Int) ^ p ≤ 512 := by
    have : 2 ^ p ≤ 2 ^ 9 := Nat.pow_le_pow_right (by omega) hp9
    have h2 : ((2 : Int) ^ p) = ((2 ^ p : Nat) : Int) := by simp
    omega
  have hpow0 : (0 : Int) < (2 : Int) ^ p := Int.pow_pos (by omega)
  simp only [Int.toNat_natCast]
  refine veil fun R hR => ?_
  go_enter Try.func46, Try.ntmps46
  go_wp2
  all_goals
    rw [← HW.out]
    go_loopg [7, 50] n (fun m l i wr => wr = w1 ∧ ∃ k : Nat, k + m = n ∧ i = .int .i64 k ∧ l = .int .i64 (2 ^ p - sumZ (N.take k)) ∧ 0 ≤ 2 ^ p - sumZ (N.take k) ∧ ∀ x ∈ N.take k, -1 ≤ x)
    case atStart => exact ⟨rfl, 0, by omega, rfl, by simp [sumZ], by simp [sumZ]; omega, by simp⟩
    case round =>
      obtain ⟨rfl, k, hk, rfl, rfl, hl0, hall⟩ := hrel
      have hs0 := sumZ_nonneg (N.take k)
      obtain ⟨L, hL⟩ : ∃ L, L = 2 ^ p - sumZ (N.take k) := ⟨_, rfl⟩
      have hL0 : 0 ≤ L := by omega
      have hL1 : L ≤ 512 := by omega
      rw [← hL]
      have HA := hide hall
      have HS := hide hL
      clear hall hL hl0 hs0
      by_cases hlt : k < n
      · have hkn : k < N.length := by have := HN.out; omega
        have hst := sumZ_take_succ N k hkn
        have hfk := HF.out N[k] (List.getElem_mem hkn)
        have hgt := List.take_succ_eq_append_getElem hkn
        have hle := sumZ_take_le N (k + 1)
        have hmem := List.getElem_mem hkn
        obtain ⟨b', o', _, e, _, hc⟩ := HR.out.int (k := k) hlt
        injection e with e
        injection e with e1 e2
        subst e1 e2
        obtain ⟨z, hz⟩ : ∃ z, z = N[k] := ⟨_, rfl⟩
        rw [← hz] at hst hfk hgt hc hmem
        have hr1 := HW.out
        have Hst := hide hst
        have Hgt := hide hgt
        have Hmem := hide hmem
        have Hle := hide hle
        clear hz hst hgt hr1 hmem hle
        obtain ⟨hf1, hf2⟩ := hfk
        have HK := hide hk
        clear hk
        by_cases hz1 : z < -1
        · clear hf1 hf2
          go_wp2
          try go_ret
          refine hR.out _ _ ⟨ret_int (if_neg fun h => ?_).symm, FR.out⟩
          have := h.1 z Hmem.out
          omega
        · by_cases hz2 : z < 0
          · obtain rfl : z = -1 := by omega
            have ha : absZ (-1) = 1 := rfl
            have HA1 := hide ha
            clear ha
            by_cases hz3 : L < 1
            · go_wp2
              try go_ret
              refine hR.out _ _ ⟨ret_int (if_neg fun h => ?_).symm, FR.out⟩
              have h1 := Hle.out
              rw [Hst.out, HA1.out, h.2] at h1
              have := HS.out
              omega
            · go_wp2
              go_roundg (gk - 1)
              case measure => have := HK.out; omega
              case rel =>
                have h1 := Hst.out
                rw [HA1.out] at h1
                have h2 := HS.out
                exact ⟨rfl, k + 1, by have := HK.out; omega, by go_num, by rw [h1]; congr 1; omega, by rw [h1]; omega, by
                  rw [Hgt.out]; intro x hx
                  rcases List.mem_append.1 hx with hx | hx
                  · exact HA.out x hx
                  · simp at hx; omega⟩
          · have ha : absZ z = z := by unfold absZ; rw [if_neg (by omega)]
            have HA1 := hide ha
            clear ha
            by_cases hz3 : L < z
            · go_wp2
              try go_ret
              refine hR.out _ _ ⟨ret_int (if_neg fun h => ?_).symm, FR.out⟩
              have h1 := Hle.out
              rw [Hst.out, HA1.out, h.2] at h1
              have := HS.out
              omega
            · go_wp2
              go_roundg (gk - 1)
              case measure => have := HK.out; omega
              case rel =>
                have h1 := Hst.out
                rw [HA1.out] at h1
                have h2 := HS.out
                exact ⟨rfl, k + 1, by have := HK.out; omega, by go_num, by rw [h1]; congr 1; omega, by rw [h1]; omega, by
                  rw [Hgt.out]; intro x hx
                  rcases List.mem_append.1 hx with hx | hx
                  · exact HA.out x hx
                  · simp at hx; omega⟩
      · obtain rfl : k = n := by omega
        have hN := HN.out
        have e1 : N.take N.length = N := List.take_length
        rw [← hN] at HS HA
        have hS := HS.out
        have hA := HA.out
        rw [e1] at hS hA
        have HS1 := hide hS
        have HA1 := hide hA
        clear hS hA HS HA hN e1
        by_cases hz : L = 0
        · subst hz
          go_wp2
          try go_ret
          refine hR.out _ _ ⟨ret_int (if_pos ⟨HA1.out, ?_⟩).symm, FR.out⟩
          have := HS1.out
          omega
        · have hz' : (L != 0) = true := by simpa using hz
          go_wp2
          try go_ret
          refine hR.out _ _ ⟨ret_int (if_neg fun h => ?_).symm, FR.out⟩
          have := HS1.out
          rw [h.2] at this
          omega

theorem check_any (F : Nat → Prop) (A : Option Addr) (n c : Nat) (lg sy lb : Int) (N : List Int) (w : World) (hr : Rd w F A n (ints N)) (hfit : Fit N) (hn : (n : Int) ≤ 1099511627776) :
    Calls Try.prog 46 #[.agg #[.int .i64 lg, .slice A n c], .int .i64 sy, .int .i64 lb] w fun e w' =>
      e = .returned (.int .i64 (if Valid lg N sy lb then 0 else 13)) ∧ Fresh w w' := by
  have hN : N.length = n := by have := hr.1; simpa using this
  by_cases h : lg < 0 ∨ lb < lg ∨ 9 < lg ∨ n = 0 ∨ sy < n ∨ N[n - 1]? = some 0
  · refine (check_head F A n c lg sy lb N w hr hn h).mono ?_
    rintro e w' ⟨he, hf⟩
    refine ⟨?_, hf⟩
    rw [he, if_neg]
    rintro ⟨h1, h2, h3, h4, h5, h6, _⟩
    rw [hN] at h4 h5 h6
    rcases h with h | h | h | h | h | h
    all_goals first | omega | exact h6 h
  · refine (check_body F A n c lg sy lb N w hr hfit hn (by omega) (by omega) (by omega) (by omega) (by omega) (fun e => h (by simp [e]))).mono ?_
    rintro e w' ⟨he, hf⟩
    refine ⟨?_, hf⟩
    rw [he]
    apply ret_int
    by_cases hh : (∀ n ∈ N, -1 ≤ n) ∧ sumZ N = 2 ^ lg.toNat
    · rw [if_pos hh, if_pos]
      exact ⟨by omega, by omega, by omega, by omega, by omega, by rw [hN]; exact fun e => h (by simp [e]), hh.1, hh.2⟩
    · rw [if_neg hh, if_neg]
      exact fun h' => hh h'.2.2.2.2.2.2

end Go.Proofs.Ytbnicnindggimaa
