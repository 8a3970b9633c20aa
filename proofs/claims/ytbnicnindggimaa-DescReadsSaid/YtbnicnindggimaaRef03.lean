/-
  The reference of bit readers: Forward, First, Whole.
  Conditions: none beyond those of each theorem.
-/
import Derived.Test.YtbnicnindggimaaRef02
import Derived.Test.YtbnicnindggimaaDescRead
namespace Go.Proofs.Ytbnicnindggimaa
open Go.RowKit
set_option linter.unusedVariables false
set_option linter.unusedSimpArgs false

/-- the reference's reader at block g over the bits L, 'fr' of them read -/
def RefAt (w : World) (F : Nat → Prop) (g : Nat) (L : List Bool) (fr : Nat) : Prop :=
  ∃ (A : Option Addr) (c : Nat), Blk w g 102 #[.slice A (L.length - fr) c, .int .i64 fr] ∧ Rd w F A (L.length - fr) (bools (L.drop fr)) ∧ fr ≤ L.length ∧ L.length - fr ≤ c

theorem RefAt.upd {w w' : World} {F S : Nat → Prop} {g : Nat} {L : List Bool} {fr : Nat} (h : RefAt w F g L fr) (hu : Upd S w w') (hg : ¬ S g) (hF : ∀ b, b < w.heap.size → F b → ¬ S b) : RefAt w' F g L fr := by
  obtain ⟨A, c, h1, h2, h3⟩ := h
  exact ⟨A, c, h1.upd hu hg, h2.upd hu hF, h3⟩
theorem RefAt.fresh {w w' : World} {F : Nat → Prop} {g : Nat} {L : List Bool} {fr : Nat} (h : RefAt w F g L fr) (hu : Fresh w w') : RefAt w' F g L fr := h.upd hu (fun h => h) (fun _ _ _ h => h)

set_option maxRecDepth 100000 in
set_option maxHeartbeats 1000000 in
theorem rforward_any (F : Nat → Prop) (A : Option Addr) (n c : Nat) (bs : List Nat) (w : World) (hr : Rd w F A n (bytes bs)) (hlt : ∀ b ∈ bs, b < 256) (hn : n ≤ 100000) :
    Calls Try.prog 41 #[.slice A n c] w fun e w' => ∃ g, e = .returned (.pointer (some ⟨g, 0, none⟩)) ∧ Fresh w w' ∧ w.heap.size ≤ g ∧
      RefAt w' (fun b => w.heap.size ≤ b ∧ b ≠ g) g (rowB bs) 0 := by
  have h := rrow_any F A n c bs w hr hlt hn
  have HH := hide h
  clear h hr hlt
  refine veil fun R hR => ?_
  go_enter Try.func41, Try.ntmps41
  go_wp2_with fail
  refine HH.out.mono ?_
  rintro e w1 ⟨s, rfl, o1, f1, k1⟩
  obtain ⟨A1, n1, c1, rfl, hn1⟩ := o1.form'
  obtain ⟨_, hcap, hrd⟩ := o1.rd rfl
  rw [← hn1.out] at hrd hcap
  have hn1' : n1 = (rowB bs).length := by have := hn1.out; simpa using this
  have HN := hide hn1'
  have HRD := hide hrd
  have F1 := hide f1
  have K1 := hide k1
  have LT := hide (fun k hk => o1.lt (k := k) hk)
  clear hn1 hn1' hrd f1 k1 o1 HH
  go_wp2_with fail
  try go_ret
  refine hR.out _ _ ⟨w1.heap.size, rfl, F1.out.alloc _, F1.out.size, A1, c1, ?_, ?_, Nat.zero_le _, by have := HN.out; omega⟩
  · have h := Blk.new w1 102 #[.slice A1 n1 c1, .int .i64 0]
    rw [HN.out] at h
    simpa using h
  · have h := (HRD.out.alloc (.cells #[.slice A1 n1 c1, .int .i64 0] 102)).mono (G := fun b => w.heap.size ≤ b ∧ b ≠ w1.heap.size) (fun b hb => ⟨K1.out b hb, by have := LT.out b hb; omega⟩)
    have e : (rowB bs).length - 0 = n1 := by have := HN.out; omega
    rw [e, List.drop_zero]
    rw [show 8 * bs.length = n1 by have := HN.out; simp at this; omega]
    exact h

set_option maxRecDepth 100000 in
set_option maxHeartbeats 1000000 in
theorem rfirst_short (F : Nat → Prop) (g : Nat) (L : List Bool) (fr n : Nat) (w : World) (h : RefAt w F g L fr) (hn : n ≤ 64) (hs : L.length < fr + n) (hL : L.length ≤ 2 ^ 40) :
    Calls Try.prog 42 #[.pointer (some ⟨g, 0, none⟩), .int .i64 n] w fun e w' => e = .returned (.tuple #[.int .u64 0, .int .i64 3]) ∧ w = w' := by
  obtain ⟨A, c, hb, hr, hf, hc⟩ := h
  have c0 := hb.cell 0
  simp at c0
  have hnI : (n : Int) ≤ 64 := by omega
  have hlt : ((L.length - fr : Nat) : Int) < n := by omega
  generalize L.length - fr = m at *
  clear hb hr hf hc hs
  refine veil fun R hR => ?_
  go_enter Try.func42, Try.ntmps42
  go_wp2_with fail
  try go_ret2
  exact hR.out _ _ ⟨rfl, rfl⟩

set_option maxRecDepth 100000 in
set_option maxHeartbeats 2000000 in
theorem rfirst_ok (F : Nat → Prop) (g : Nat) (L : List Bool) (fr n : Nat) (w : World) (h : RefAt w F g L fr) (hn : n ≤ 64) (hs : fr + n ≤ L.length) (hL : L.length ≤ 2 ^ 40) (hFg : ∀ b, F b → b ≠ g) :
    Calls Try.prog 42 #[.pointer (some ⟨g, 0, none⟩), .int .i64 n] w fun e w' => e = .returned (.tuple #[.int .u64 (valB ((L.drop fr).take n) : Nat), .int .i64 0]) ∧
      Upd (fun b => b = g) w w' ∧ RefAt w' F g L (fr + n) := by
  obtain ⟨A, c, hb, hr, hf, hc⟩ := h
  have c0 := hb.cell 0
  have c1 := hb.cell 1
  have z0 := hb.frozen 0
  have z1 := hb.frozen 1
  simp at c0 c1
  have hnI : (n : Int) ≤ 64 := by omega
  have hmn : L.length - fr - n = L.length - (fr + n) := by omega
  have hle : (n : Int) ≤ ((L.length - fr : Nat) : Int) := by omega
  have hmI : ((L.length - fr : Nat) : Int) ≤ 1099511627776 := by omega
  have hfI : (fr : Int) ≤ 1099511627776 := by omega
  have hcI : ((L.length - fr : Nat) : Int) ≤ c := by omega
  have hnc : (n : Int) ≤ c := by omega
  have hv := rvalue_any F A n c ((L.drop fr).take n) w (by have := hr.take (k := n) (by omega); simpa [bools, List.map_take] using this) hn
  have hcut := hr.cut (k := n) (cap := c) (by omega) hc
  have HCUT := hide hcut
  have HV := hide hv
  have HB := hide hb
  have HMN := hide hmn
  have HC := hide hc
  have hdr : (bools (L.drop fr)).drop n = bools (L.drop (fr + n)) := by simp [bools]
  have HDR := hide hdr
  have HS := hide hs
  obtain ⟨m, hm⟩ : ∃ m, m = L.length - fr := ⟨_, rfl⟩
  rw [← hm] at c0 hle hmI hcI HCUT HB HMN HC
  have HM := hide hm
  clear hb hr hcut hv hmn hdr hm hc hf hs
  refine veil fun R hR => ?_
  by_cases hcn : c = n
  · subst hcn
    go_enter Try.func42, Try.ntmps42
    go_wp2_with fail
    refine HV.out.mono ?_
    rintro e w1 ⟨rfl, rfl⟩
    go_wp2_with fail
    try go_ret2
    have hu : Upd (fun b => b = g) w ((w.setCell ⟨g, 0, none⟩ (.slice A (m - c) 0)).setCell ⟨g, 1, none⟩ (.int .i64 ((fr : Int) + c))) :=
      ((Upd.refl (fun b => b = g) w).setCell (p := ⟨g, 0, none⟩) (fun _ => rfl) _).setCell (p := ⟨g, 1, none⟩) (fun _ => rfl) _
    have hbb := (HB.out.set_ 0 (.slice A (m - c) 0)).set_ 1 (.int .i64 ((fr : Int) + c))
    have hcc := HCUT.out
    rw [if_pos trivial, HDR.out] at hcc
    rw [HMN.out] at hcc
    refine hR.out _ _ ⟨rfl, hu, _, 0, ?_, hcc.upd hu (fun b _ hb e => hFg b hb e), HS.out, ?_⟩
    · rw [← HMN.out]
      simpa using hbb
    · rw [← HMN.out]; have := HC.out; omega
  · have hcn' : (n : Int) < c := by omega
    go_enter Try.func42, Try.ntmps42
    go_wp2_with fail
    refine HV.out.mono ?_
    rintro e w1 ⟨rfl, rfl⟩
    go_wp2_with fail
    try go_ret2
    have hu : Upd (fun b => b = g) w ((w.setCell ⟨g, 0, none⟩ (.slice (A.map (·.add n)) (m - n) (c - n))).setCell ⟨g, 1, none⟩ (.int .i64 ((fr : Int) + n))) :=
      ((Upd.refl (fun b => b = g) w).setCell (p := ⟨g, 0, none⟩) (fun _ => rfl) _).setCell (p := ⟨g, 1, none⟩) (fun _ => rfl) _
    have hbb := (HB.out.set_ 0 (.slice (A.map (·.add n)) (m - n) (c - n))).set_ 1 (.int .i64 ((fr : Int) + n))
    have hcc := HCUT.out
    rw [if_neg hcn, HDR.out] at hcc
    rw [HMN.out] at hcc
    refine hR.out _ _ ⟨rfl, hu, _, c - n, ?_, hcc.upd hu (fun b _ hb e => hFg b hb e), HS.out, ?_⟩
    · rw [← HMN.out]
      simpa using hbb
    · rw [← HMN.out]; have := HC.out; omega

end Go.Proofs.Ytbnicnindggimaa
