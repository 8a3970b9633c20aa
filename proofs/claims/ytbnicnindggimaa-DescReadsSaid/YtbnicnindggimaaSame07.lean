/-
  The reference's Same of tables.
  Conditions: none beyond those of each theorem.
-/
import Derived.Test.YtbnicnindggimaaNormCheck
namespace Go.Proofs.Ytbnicnindggimaa
open Go.RowKit

set_option maxRecDepth 100000 in
set_option maxHeartbeats 2000000 in
theorem same07_any (F G : Nat → Prop) (A B : Option Addr) (n m c d : Nat) (lg lh : Int) (N M : List Int) (w : World) (hr : Rd w F A n (ints N)) (hs : Rd w G B m (ints M)) (hn : n ≤ 1000) (hm : m ≤ 1000) :
    Calls Try.prog 17 #[.agg #[.int .i64 lg, .slice A n c], .agg #[.int .i64 lh, .slice B m d]] w fun e w' =>
      e = .returned (.bool (decide (lg = lh ∧ N = M))) ∧ Fresh w w' := by
  have hN : N.length = n := by have := hr.1; simpa using this
  have hM : M.length = m := by have := hs.1; simpa using this
  have hn' : (n : Int) ≤ 1000 := by omega
  have hm' : (m : Int) ≤ 1000 := by omega
  have HN := hide hN
  have HM := hide hM
  have fr : Fresh w ((w.alloc (.cells #[.int .i64 lg, .slice A n c] 24)).alloc (.cells #[.int .i64 lh, .slice B m d] 24)) := ((Upd.refl _ _).alloc _).alloc _
  have FR := hide fr
  have HR := hide (hr.both)
  have HS := hide (hs.both)
  clear hr hs fr hN hM hn hm
  refine veil fun R hR => ?_
  by_cases h1 : lg = lh
  · subst h1
    by_cases h2 : n = m
    · subst h2
      go_enter Try.func17, Try.ntmps17
      go_wp2
      obtain ⟨w1, hw1⟩ : ∃ w1, w1 = (w.alloc (.cells #[.int .i64 lg, .slice A n c] 24)).alloc (.cells #[.int .i64 lg, .slice B n d] 24) := ⟨_, rfl⟩
      rw [← hw1]
      rw [← hw1] at FR
      have bA : Blk w1 w.heap.size 24 #[.int .i64 lg, .slice A n c] := by rw [hw1]; exact (Blk.new _ _ _).alloc _
      have bB : Blk w1 (w.heap.size + 1) 24 #[.int .i64 lg, .slice B n d] := by rw [hw1]; exact blk_new (by simp) _ _
      have rA := HR.out.fresh FR.out
      have rB := HS.out.fresh FR.out
      have BA := hide bA
      have BB := hide bB
      have RA := hide rA
      have RB := hide rB
      clear hw1 bA bB rA rB
      generalize w.heap.size = H at *
      go_loopg [5] n (fun m i wr => (∃ q, wr = w1.drewN q) ∧ ∃ k : Nat, k + m = n ∧ i = .int .i64 k ∧ N.take k = M.take k)
      case atStart => exact ⟨⟨0, rfl⟩, 0, by omega, rfl, by simp⟩
      case round =>
        obtain ⟨⟨q, rfl⟩, k, hk, rfl, htk⟩ := hrel
        have HT := hide htk
        have HK := hide hk
        clear htk hk
        have cA1 := BA.out.cell 1
        have cB1 := BB.out.cell 1
        simp at cA1 cB1
        by_cases hlt : k < n
        · obtain ⟨b1, o1, hk1, rfl, hb1, hc1⟩ := RA.out.int (k := k) hlt
          obtain ⟨b2, o2, hk2, rfl, hb2, hc2⟩ := RB.out.int (k := k) hlt
          have e1 := List.take_succ_eq_append_getElem hk1
          have e2 := List.take_succ_eq_append_getElem hk2
          have i1 : N[k]? = some N[k] := List.getElem?_eq_getElem hk1
          have i2 : M[k]? = some M[k] := List.getElem?_eq_getElem hk2
          obtain ⟨x, hx⟩ : ∃ x, x = N[k] := ⟨_, rfl⟩
          obtain ⟨y, hy⟩ : ∃ y, y = M[k] := ⟨_, rfl⟩
          rw [← hx] at hc1 e1 i1
          rw [← hy] at hc2 e2 i2
          have E1 := hide e1
          have E2 := hide e2
          have I1 := hide i1
          have I2 := hide i2
          clear hx hy e1 e2 i1 i2
          by_cases hxy : x = y
          · subst hxy
            go_wp2
            go_region
            all_goals go_wp2
            all_goals go_roundg (gk - 1)
            case measure => have := HK.out; omega
            case rel => exact ⟨⟨_, rfl⟩, k + 1, by have := HK.out; omega, by go_num, by rw [E1.out, E2.out, HT.out]⟩
          · have hxy' : (x != y) = true := by simpa using hxy
            have HX := hide hxy
            clear hxy
            go_wp2
            go_region
            all_goals go_wp2
            all_goals try go_ret
            all_goals refine hR.out _ _ ⟨?_, FR.out.drewN _⟩
            all_goals rw [decide_eq_false (fun h => HX.out (by have := I1.out; rw [h.2, I2.out] at this; injection this with this; exact this.symm))]
            all_goals rfl
        · obtain rfl : k = n := by have := HK.out; omega
          have hNM : N = M := by
            have := HT.out
            rw [List.take_of_length_le (by have := HN.out; omega), List.take_of_length_le (by have := HM.out; omega)] at this
            exact this
          have HNM := hide hNM
          clear hNM
          go_wp2
          try go_ret
          refine hR.out _ _ ⟨?_, FR.out.drewN _⟩
          rw [decide_eq_true (p := True ∧ N = M) ⟨trivial, HNM.out⟩]
          rfl
    · have h2' : ((n : Int) != m) = true := by simp; omega
      have HNE := hide h2
      clear h2
      go_enter Try.func17, Try.ntmps17
      go_wp2
      all_goals try go_ret
      all_goals refine hR.out _ _ ⟨?_, FR.out⟩
      all_goals rw [decide_eq_false (fun h => HNE.out (by rw [← HN.out, ← HM.out, h.2]))]
  · have h1' : (lg != lh) = true := by simpa using h1
    have HNE := hide h1
    clear h1
    go_enter Try.func17, Try.ntmps17
    go_wp2
    all_goals try go_ret
    all_goals refine hR.out _ _ ⟨?_, FR.out⟩
    all_goals
      rw [decide_eq_false (fun h => HNE.out h.1)]
      rfl

end Go.Proofs.Ytbnicnindggimaa
