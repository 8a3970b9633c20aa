/-
  The reference of the tables: Size, States, May.
  Conditions: none beyond those of each theorem.
-/
import Derived.Test.YtbnicnindggimaaNormCheck
namespace Go.Proofs.Ytbnicnindggimaa
open Go.RowKit

theorem pow_le_512 {p : Nat} (h : p ≤ 9) : 2 ^ p ≤ 512 := Nat.pow_le_pow_right (n := 2) (by omega) h

set_option maxHeartbeats 1000000 in
theorem size_any (p : Nat) (w : World) (hp : p ≤ 9) :
    Calls Try.prog 37 #[.int .i64 p] w fun e w' => e = .returned (.int .i64 (2 ^ p : Nat)) ∧ w = w' := by
  have hpi : (p : Int) ≤ 20 := by omega
  refine veil fun R hR => ?_
  go_enter Try.func37, Try.ntmps37
  go_wp2
  go_loopg [3, 4] p (fun m v i wr => wr = w ∧ ∃ k : Nat, k + m = p ∧ i = .int .i64 k ∧ v = .int .i64 (2 ^ k : Nat))
  case atStart => exact ⟨rfl, 0, by omega, rfl, rfl⟩
  case round =>
    obtain ⟨rfl, k, hk, rfl, rfl⟩ := hrel
    have hk1 : k ≤ p := by omega
    have hp1 := pow_le_512 (show k ≤ 9 by omega)
    have hs : 2 ^ (k + 1) = 2 * 2 ^ k := by rw [Nat.pow_succ]; omega
    obtain ⟨L, hL⟩ : ∃ L, L = 2 ^ k := ⟨_, rfl⟩
    rw [← hL] at hs hp1 ⊢
    have HS := hide hs
    have HL := hide hL
    have HK := hide hk
    clear hs hL hk
    by_cases hlt : k < p
    · go_wp2
      go_roundg (gk - 1)
      case measure => have := HK.out; omega
      case rel => exact ⟨rfl, k + 1, by have := HK.out; omega, by go_num, by rw [HS.out]; go_num⟩
    · go_wp2
      try go_ret
      refine hR.out _ _ ⟨?_, rfl⟩
      obtain rfl : k = p := by omega
      rw [← HL.out]
      rfl

set_option maxHeartbeats 400000 in
theorem states_any (z : Int) (w : World) :
    Calls Try.prog 39 #[.int .i64 z] w fun e w' => e = .returned (.int .i64 (if z = -1 then 1 else z)) ∧ w = w' := by
  by_cases h : z = -1
  · subst h
    go_enter Try.func39, Try.ntmps39
    go_wp2
    go_ret
    exact ⟨rfl, rfl⟩
  · rw [if_neg h]
    have h1 : (z == -1) = false := by simpa using h
    clear h
    go_enter Try.func39, Try.ntmps39
    go_wp2
    go_ret
    exact ⟨rfl, rfl⟩

set_option maxRecDepth 100000 in
set_option maxHeartbeats 2000000 in
theorem may07_head (F : Nat → Prop) (A : Option Addr) (n c : Nat) (lg : Int) (N : List Int) (w : World) (hr : Rd w F A n (ints N)) (hn : (n : Int) ≤ 1099511627776)
    (h : lg < 0 ∨ 9 < lg ∨ n = 0 ∨ 256 < n ∨ N[n - 1]? = some 0) :
    Calls Try.prog 27 #[.agg #[.int .i64 lg, .slice A n c], .int .i64 256, .int .i64 9] w fun e w' => e = .returned (.int .i64 13) ∧ Fresh w w' := by
  have fr : Fresh w (w.alloc (.cells #[.int .i64 lg, .slice A n c] 24)) := (Upd.refl _ _).alloc _
  have FR := hide fr
  clear fr
  by_cases h1 : lg < 0
  · clear h
    go_enter Try.func27, Try.ntmps27
    go_wp2
    all_goals (go_ret; exact ⟨rfl, FR.out⟩)
  by_cases h2 : 9 < lg
  · clear h
    go_enter Try.func27, Try.ntmps27
    go_wp2
    all_goals (go_ret; exact ⟨rfl, FR.out⟩)
  by_cases h3 : n = 0
  · clear h
    subst h3
    go_enter Try.func27, Try.ntmps27
    go_wp2
    all_goals (go_ret; exact ⟨rfl, FR.out⟩)
  by_cases h4 : 256 < n
  · clear h
    have h5 : (256 : Int) < n := by omega
    go_enter Try.func27, Try.ntmps27
    go_wp2
    all_goals (go_ret; exact ⟨rfl, FR.out⟩)
  have h5 : N[n - 1]? = some 0 := by
    rcases h with h | h | h | h | h
    all_goals first | exact h | omega
  have h6 : 0 < n := by omega
  clear h h3
  obtain ⟨b, o, hk, rfl, hb, hc⟩ := hr.int (k := n - 1) (by omega)
  have e0 : N[n - 1] = 0 := by rw [List.getElem?_eq_getElem hk] at h5; simpa using h5
  rw [e0] at hc
  have hc' : (w.alloc (.cells #[.int .i64 lg, .slice (some ⟨b, o, none⟩) n c] 24)).cell? ⟨b, o + (n - 1), none⟩ = some (.int .i64 0) := by
    rw [World.cell?_alloc_lt _ _ _ hb]; exact hc
  clear hc h5 e0
  go_enter Try.func27, Try.ntmps27
  go_wp2
  all_goals (go_ret; exact ⟨rfl, FR.out⟩)

set_option maxRecDepth 100000 in
set_option maxHeartbeats 2000000 in
theorem may07_body (F : Nat → Prop) (A : Option Addr) (n c : Nat) (p : Nat) (N : List Int) (w : World) (hr : Rd w F A n (ints N)) (hfit : Fit N)
    (a3 : p ≤ 9) (b1 : 0 < n) (b3 : n ≤ 256) (hlast : N[n - 1]? ≠ some 0) :
    Calls Try.prog 27 #[.agg #[.int .i64 p, .slice A n c], .int .i64 256, .int .i64 9] w fun e w' =>
      e = .returned (.int .i64 (if (∀ n ∈ N, -1 ≤ n) ∧ sumZ N = 2 ^ p then 0 else 13)) ∧ Fresh w w' := by
  have hN : N.length = n := by have := hr.1; simpa using this
  have b4 : (n : Int) ≤ 256 := by omega
  have b5 : 1 ≤ (n : Int) := by omega
  have a4 : (p : Int) ≤ 9 := by omega
  have hsz := size_any p
  obtain ⟨b, o, hk, rfl, hb, hc⟩ := hr.int (k := n - 1) (by omega)
  have e0 : (N[n - 1] == 0) = false := by
    rw [List.getElem?_eq_getElem hk] at hlast
    simpa using hlast
  obtain ⟨z, hz⟩ : ∃ z, z = N[n - 1] := ⟨_, rfl⟩
  rw [← hz] at hc e0
  clear hlast hz
  obtain ⟨w1, hw1⟩ : ∃ w1, w1 = w.alloc (.cells #[.int .i64 p, .slice (some ⟨b, o, none⟩) n c] 24) := ⟨_, rfl⟩
  have hc' : (w.alloc (.cells #[.int .i64 p, .slice (some ⟨b, o, none⟩) n c] 24)).cell? ⟨b, o + (n - 1), none⟩ = some (.int .i64 z) := by
    rw [World.cell?_alloc_lt _ _ _ hb]; exact hc
  have hr1 : Rd w1 F (some ⟨b, o, none⟩) n (ints N) := by rw [hw1]; exact hr.alloc _
  have fr : Fresh w w1 := by rw [hw1]; exact (Upd.refl _ _).alloc _
  have bt : Blk w1 w.heap.size 24 #[.int .i64 p, .slice (some ⟨b, o, none⟩) n c] := by rw [hw1]; exact Blk.new _ _ _
  have HSZ := hide hsz
  have HBT := hide bt
  have FR := hide fr
  have HW := hide hw1
  have HR := hide hr1
  have HN := hide hN
  have HF := hide hfit
  have HP := hide a3
  clear hc fr hr hr1 hN hw1 hk hfit hsz bt a3
  refine veil fun R hR => ?_
  go_enter Try.func27, Try.ntmps27
  go_wp2
  rw [← HW.out]
  have bt0 := HBT.out.cell 0
  have bt1 := HBT.out.cell 1
  have hg1 := HBT.out.lt
  simp at bt0 bt1
  obtain ⟨H, hH⟩ : ∃ H, H = w.heap.size := ⟨_, rfl⟩
  rw [← hH] at bt0 bt1 hg1 ⊢
  clear hH hc' e0
  go_loopg [7, 8] n (fun m l i wr => wr = w1 ∧ ∃ k : Nat, k + m = n ∧ i = .int .i64 k ∧ l = .int .i64 (sumZ (N.take k)) ∧ sumZ (N.take k) ≤ 1024 ∧ ∀ x ∈ N.take k, -1 ≤ x)
  case atStart => exact ⟨rfl, 0, by omega, rfl, by simp [sumZ], by simp [sumZ], by simp⟩
  case round =>
    obtain ⟨rfl, k, hk, rfl, rfl, hl0, hall⟩ := hrel
    have hs0 := sumZ_nonneg (N.take k)
    have hle0 := sumZ_take_le N k
    obtain ⟨L, hL⟩ : ∃ L, L = sumZ (N.take k) := ⟨_, rfl⟩
    rw [← hL] at hs0 hl0 hle0 ⊢
    have HA := hide hall
    have HS := hide hL
    have HL0 := hide hle0
    clear hall hL hle0
    have hpw := pow_le_512 HP.out
    have HPW := hide (show (2 : Int) ^ p ≤ 512 by exact_mod_cast hpw)
    clear hpw
    by_cases hlt : k < n
    · have hkn : k < N.length := by have := HN.out; omega
      have hst := sumZ_take_succ N k hkn
      have hgt := List.take_succ_eq_append_getElem hkn
      have hle := sumZ_take_le N (k + 1)
      have hmem := List.getElem_mem hkn
      obtain ⟨b', o', _, e, _, hc⟩ := HR.out.int (k := k) hlt
      injection e with e
      injection e with e1 e2
      subst e1 e2
      obtain ⟨z, hz⟩ : ∃ z, z = N[k] := ⟨_, rfl⟩
      rw [← hz] at hst hgt hc hmem
      have Hst := hide hst
      have Hgt := hide hgt
      have Hmem := hide hmem
      have Hle := hide hle
      clear hz hst hgt hmem hle
      have HK := hide hk
      clear hk
      by_cases hz1 : z < -1
      · go_wp2
        all_goals try go_ret
        all_goals refine hR.out _ _ ⟨ret_int (if_neg fun h => ?_).symm, FR.out⟩
        all_goals have := h.1 z Hmem.out
        all_goals omega
      · by_cases hz2 : 512 < z
        · go_wp2
          all_goals try go_ret
          all_goals refine hR.out _ _ ⟨ret_int (if_neg fun h => ?_).symm, FR.out⟩
          all_goals
            have h1 := Hle.out
            have h2 := HPW.out
            have h3 := Hst.out
            have h4 := h.2
            have h5 := HS.out
            have h6 : absZ z = z := by unfold absZ; rw [if_neg (by omega)]
            omega
        · by_cases hz3 : 512 < L
          · go_wp2
            all_goals try go_ret
            all_goals refine hR.out _ _ ⟨ret_int (if_neg fun h => ?_).symm, FR.out⟩
            all_goals
              have h1 := HL0.out
              have h2 := HPW.out
              have h4 := h.2
              omega
          · have ha : (if z = -1 then 1 else z) = absZ z := by
              unfold absZ
              by_cases h : z = -1
              · subst h; rfl
              · rw [if_neg h, if_neg (by omega)]
            have hsta := states_any z
            rw [ha] at hsta
            have hq : 0 ≤ absZ z ∧ absZ z ≤ 512 := ⟨absZ_nonneg z, by unfold absZ; split <;> omega⟩
            obtain ⟨q, hqd⟩ : ∃ q, q = absZ z := ⟨_, rfl⟩
            rw [← hqd] at hsta hq
            have HQ := hide hqd
            have HST := hide hsta
            clear hsta ha hqd
            go_wp2_with fail
            refine (HST.out _).mono ?_
            rintro e w2 ⟨rfl, rfl⟩
            go_wp2_with fail
            go_roundg (gk - 1)
            case measure => have := HK.out; omega
            case rel =>
              have h1 := Hst.out
              rw [← HQ.out] at h1
              have h2 := HS.out
              exact ⟨rfl, k + 1, by have := HK.out; omega, by go_num, by rw [h1]; congr 1; omega, by rw [h1]; omega, by
                rw [Hgt.out]; intro x hx
                rcases List.mem_append.1 hx with hx | hx
                · exact HA.out x hx
                · simp at hx; omega⟩
    · obtain rfl : k = n := by omega
      have hN := HN.out
      have e1 : N.take N.length = N := List.take_length
      rw [← hN] at HS HA
      have hS := HS.out
      have hA := HA.out
      rw [e1] at hS hA
      have HS1 := hide hS
      have HA1 := hide hA
      clear hS hA HS HA hN e1 hk hlt
      have hsz := HSZ.out wr HP.out
      obtain ⟨q, hqd⟩ : ∃ q, q = 2 ^ p := ⟨_, rfl⟩
      rw [← hqd] at hsz
      have HQ := hide hqd
      have HZ := hide hsz
      have HQ2 : (2 : Int) ^ p = q := by rw [hqd]; simp
      have HQ3 := hide HQ2
      clear hsz hqd HQ2
      go_wp2_with fail
      refine HZ.out.mono ?_
      rintro e w2 ⟨rfl, rfl⟩
      by_cases hz : L = q
      · subst hz
        go_wp2_with fail
        try go_ret
        refine hR.out _ _ ⟨ret_int (if_pos ⟨HA1.out, ?_⟩).symm, FR.out⟩
        rw [← HS1.out, HQ3.out]
      · have hz' : (L != (q : Int)) = true := by simpa using hz
        go_wp2_with fail
        try go_ret
        refine hR.out _ _ ⟨ret_int (if_neg fun h => ?_).symm, FR.out⟩
        have := HS1.out
        rw [h.2, HQ3.out] at this
        omega

set_option maxHeartbeats 400000 in
/-- the reference's validity -/
theorem may07_any (F : Nat → Prop) (A : Option Addr) (n c : Nat) (lg : Int) (N : List Int) (w : World) (hr : Rd w F A n (ints N)) (hfit : Fit N) (hn : (n : Int) ≤ 1099511627776) :
    Calls Try.prog 27 #[.agg #[.int .i64 lg, .slice A n c], .int .i64 256, .int .i64 9] w fun e w' =>
      e = .returned (.int .i64 (if Valid lg N 256 9 then 0 else 13)) ∧ Fresh w w' := by
  have hN : N.length = n := by have := hr.1; simpa using this
  by_cases h : lg < 0 ∨ 9 < lg ∨ n = 0 ∨ 256 < n ∨ N[n - 1]? = some 0
  · rw [if_neg (fun hv => by
      obtain ⟨v1, v2, v3, v4, v5, v6, _⟩ := hv
      rw [hN] at v6
      rcases h with h | h | h | h | h
      · omega
      · omega
      · omega
      · omega
      · exact v6 h)]
    exact may07_head F A n c lg N w hr hn h
  · obtain ⟨p, rfl⟩ : ∃ p : Nat, lg = p := ⟨lg.toNat, by omega⟩
    have hb := may07_body F A n c p N w hr hfit (by omega) (by omega) (by omega) (fun hh => h (by simp [hh]))
    have e : (if Valid (p : Int) N 256 9 then (0 : Int) else 13) = if (∀ n ∈ N, -1 ≤ n) ∧ sumZ N = 2 ^ p then 0 else 13 := by
      by_cases h2 : (∀ n ∈ N, -1 ≤ n) ∧ sumZ N = 2 ^ p
      · rw [if_pos h2, if_pos ⟨by omega, by omega, by omega, by omega, by omega, fun hh => h (by rw [hN] at hh; simp [hh]), h2.1, h2.2⟩]
      · rw [if_neg h2, if_neg (fun hv => h2 ⟨hv.2.2.2.2.2.2.1, hv.2.2.2.2.2.2.2⟩)]
    rw [e]
    exact hb

end Go.Proofs.Ytbnicnindggimaa
