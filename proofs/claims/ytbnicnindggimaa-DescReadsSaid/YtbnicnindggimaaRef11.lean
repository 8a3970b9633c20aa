/-
  The reference's May and Same of tables; the cursor's At.
  Conditions: none beyond those of each theorem.
-/
import Derived.Test.YtbnicnindggimaaRef07
import Derived.Test.YtbnicnindggimaaNum
namespace Go.Proofs.Ytbnicnindggimaa
open Go.RowKit

/-- a table has a description -/
def Has (lg : Int) (N : List Int) : Prop := Valid lg N 256 9 ∧ lg ≠ 0
instance (lg : Int) (N : List Int) : Decidable (Has lg N) := by unfold Has; infer_instance

set_option maxHeartbeats 1000000 in
theorem may11_any (F : Nat → Prop) (A : Option Addr) (n c : Nat) (lg : Int) (N : List Int) (w : World) (hr : Rd w F A n (ints N)) (hfit : Fit N) (hn : (n : Int) ≤ 1099511627776) :
    Calls Try.prog 12 #[.agg #[.int .i64 lg, .slice A n c]] w fun e w' => e = .returned (.bool (decide (Has lg N))) ∧ Fresh w w' := by
  have h0 := may07_any F A n c lg N (w.alloc (.cells #[.int .i64 lg, .slice A n c] 24)) (hr.alloc _) hfit hn
  obtain ⟨H, hH⟩ : ∃ H, H = w.heap.size := ⟨_, rfl⟩
  have b0 := Blk.new w 24 #[.int .i64 lg, .slice A n c]
  rw [← hH] at b0
  have HB := hide b0
  have hh1 := fun W (h : Fresh (w.alloc (.cells #[.int .i64 lg, .slice A n c] 24)) W) => (HB.out.fresh h).cell 0
  have HC := hide hh1
  have HH := hide hH
  clear b0 hr hfit hh1 hH
  refine veil fun R hR => ?_
  by_cases hv : Valid lg N 256 9
  · rw [if_pos hv] at h0
    have H0 := hide h0
    have HV := hide hv
    clear h0 hv
    by_cases hz : lg = 0
    · subst hz
      go_enter Try.func12, Try.ntmps12
      go_wp2_with fail
      rw [← HH.out]
      refine H0.out.mono ?_
      rintro e w1 ⟨rfl, f1⟩
      have c1 := HC.out _ f1
      simp at c1
      have F1 := hide f1
      clear f1
      go_wp2_with fail
      try go_ret
      refine hR.out _ _ ⟨?_, ((Upd.refl _ w).alloc _).trans' F1.out⟩
      rw [decide_eq_false (fun h => h.2 rfl)]
      rfl
    · have hp : 0 < lg := by have := HV.out.1; omega
      have HZ := hide hz
      clear hz
      go_enter Try.func12, Try.ntmps12
      go_wp2_with fail
      rw [← HH.out]
      refine H0.out.mono ?_
      rintro e w1 ⟨rfl, f1⟩
      have c1 := HC.out _ f1
      simp at c1
      have F1 := hide f1
      clear f1
      go_wp2_with fail
      try go_ret
      refine hR.out _ _ ⟨?_, ((Upd.refl _ w).alloc _).trans' F1.out⟩
      rw [decide_eq_true ⟨HV.out, HZ.out⟩]
      rfl
  · rw [if_neg hv] at h0
    have H0 := hide h0
    have HV := hide hv
    clear h0 hv
    go_enter Try.func12, Try.ntmps12
    go_wp2_with fail
    rw [← HH.out]
    refine H0.out.mono ?_
    rintro e w1 ⟨rfl, f1⟩
    have c1 := HC.out _ f1
    simp at c1
    have F1 := hide f1
    clear f1
    go_wp2_with fail
    try go_ret
    refine hR.out _ _ ⟨?_, ((Upd.refl _ w).alloc _).trans' F1.out⟩
    rw [decide_eq_false (fun h => HV.out h.1)]
    rfl

set_option maxHeartbeats 400000 in
theorem cat_any (F : Nat → Prop) (g : Nat) (bs : List Nat) (at_ : Nat) (w : World) (hc : CurAt w F g bs at_) :
    Calls Try.prog 23 #[.pointer (some ⟨g, 0, none⟩)] w fun e w' => e = .returned (.int .i64 at_) ∧ w = w' := by
  obtain ⟨A, c, hb, hr, hlt, hat, hlen, hcap⟩ := hc
  have hc0 := hb.cell 0
  have hc1 := hb.cell 1
  simp at hc0 hc1
  have HB := hide hb
  clear hb hr hlt hlen
  go_enter Try.func23, Try.ntmps23
  go_wp2_with fail
  try go_ret
  exact ⟨rfl, rfl⟩

end Go.Proofs.Ytbnicnindggimaa
