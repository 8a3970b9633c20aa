/-
  DescReads: the law's function answers true.
  Conditions: none beyond those of each theorem.
-/
import Derived.Test.YtbnicnindggimaaOnce
import Derived.Test.YtbnicnindggimaaGet
namespace Go.Proofs.Ytbnicnindggimaa
open Go.RowKit
set_option linter.unusedVariables false
set_option linter.unusedSimpArgs false

set_option maxRecDepth 100000 in
set_option maxHeartbeats 4000000 in
theorem readsl_any (F : Nat → Prop) (A : Option Addr) (n c : Nat) (bs : List Nat) (sy lb : Int) (w : World) (hr : Rd w F A n (bytes bs)) (hlt : ∀ b ∈ bs, b < 256) (hcap : n ≤ c) :
    Calls Try.prog 6 #[.slice A n c, .int .i64 sy, .int .i64 lb] w fun e w' => e = .returned (.bool true) ∧ Fresh w w' := by
  have hkn := hide known_any
  have hn : bs.length = n := by have := hr.1; simpa using this
  refine veil fun R hR => ?_
  by_cases h1 : 500 < n
  · have h1' : (500 : Int) < n := by omega
    go_enter Try.func6, Try.ntmps6
    go_wp2_with fail
    refine (hkn.out _).mono ?_
    rintro e w1 ⟨rfl, f1⟩
    have F1 := hide f1
    clear f1
    go_wp2_with fail
    try go_ret
    exact hR.out _ _ ⟨rfl, F1.out⟩
  have h1' : (n : Int) ≤ 500 := by omega
  have hnw := new_any F A n c bs w hr hlt (by omega)
  have HN := hide hnw
  have HR := hide hr
  have HD := hide (fun g w1 h1 => decode_any (fun k => w.heap.size ≤ k ∧ k ≠ g) g bs 0 sy lb w1 h1 (fun b hb => hb.2))
  have HG := hide (fun W (h : Rd W F A n (bytes bs)) => rget11_any F A n c bs sy lb W h hlt (by omega) hcap)
  have HSB := hide (seenB_short (bs := bs) (by omega))
  clear hnw hr hn hlt
  go_enter Try.func6, Try.ntmps6
  go_wp2_with fail
  refine HN.out.mono ?_
  rintro e w1 ⟨g, rfl, hg, f1, cu1⟩
  have hd := HD.out g w1 cu1
  have HDD := hide hd
  have F1 := hide f1
  clear hd cu1 f1 HD HN
  go_wp2_with fail
  refine HDD.out.mono ?_
  rintro e w2 ⟨u2, h2⟩
  have F2 := hide (show Fresh w w2 from F1.out.trans u2 (fun b hb h => by omega))
  clear u2 HDD
  rw [HSB.out] at h2
  have hgp : ∀ W, GetPost bs sy lb W = GetPost bs sy lb W := fun _ => rfl
  cases hD : decodeS sy lb (rowB bs) with
  | error x =>
    rw [hD] at h2
    obtain ⟨rfl, _⟩ := h2
    have hx := decodeS_err hD
    have hx' : (x != 0) = true := by simpa using hx
    have hg3 := HG.out (w2.alloc (.cells #[.int .i64 0, .slice none 0 0] 24)) ((HR.out.fresh F2.out).alloc _)
    have hg4 := hg3.mono (R' := fun e w' => Fresh (w2.alloc (.cells #[.int .i64 0, .slice none 0 0] 24)) w' ∧ e = .returned (.tuple #[.agg #[.int .i64 0, .slice none 0 0], .int .i64 0, .int .i64 x])) (fun e w' h => ⟨h.1, by have h2 := h.2; rw [hD] at h2; exact h2⟩)
    have HG4 := hide hg4
    have bt := Blk.new w2 24 #[.int .i64 0, .slice none 0 0]
    have BT := hide bt
    clear hx hD hg3 hg4 bt hgp
    go_wp2_with fail
    refine HG4.out.mono ?_
    rintro e w4 ⟨f4, rfl⟩
    have b4 := BT.out.fresh f4
    have c0 := b4.cell 0
    have c1 := b4.cell 1
    simp at c0 c1
    have q0 : ∀ o, (w4.alloc o).cell? ⟨w2.heap.size, 0, none⟩ = some (.int .i64 0) := fun o => by simpa using (b4.alloc o).cell 0
    have q1 : ∀ o, (w4.alloc o).cell? ⟨w2.heap.size, 1, none⟩ = some (.slice none 0 0) := fun o => by simpa using (b4.alloc o).cell 1
    have F4 := hide ((F2.out.alloc _).trans' f4)
    have hs7 := fun W => same07_any (fun _ => True) (fun _ => True) none none 0 0 0 0 0 0 [] [] W (Rd.nil _ _ _) (Rd.nil _ _ _) (by omega) (by omega)
    have HS7 := hide hs7
    clear f4 b4 hs7
    go_wp2_with fail
    refine (HS7.out _).mono ?_
    rintro e w5 ⟨rfl, f5⟩
    have F5 := hide ((F4.out.alloc _).trans' f5)
    clear f5
    go_wp2_with fail
    refine (hkn.out _).mono ?_
    rintro e w6 ⟨rfl, f6⟩
    have F6 := hide (F5.out.trans' f6)
    clear f6
    go_wp2_with fail
    try go_ret
    exact hR.out _ _ ⟨rfl, F6.out⟩
  | ok D =>
    obtain ⟨p, N, k⟩ := D
    rw [hD] at h2
    obtain ⟨v, rfl, o2, b2, cu2, hl2⟩ := h2
    obtain ⟨A2, n2, c2, rfl, hn2⟩ := o2.form'
    have hrd2 := (o2.rd rfl).2.2
    rw [← hn2.out] at hrd2
    have hn2' : n2 = N.length := by have := hn2.out; simpa using this
    obtain ⟨w3, hw3⟩ : ∃ w3, w3 = w2.alloc (.cells #[.int .i64 p, .slice A2 n2 c2] 24) := ⟨_, rfl⟩
    obtain ⟨H, hH⟩ : ∃ H, H = w2.heap.size := ⟨_, rfl⟩
    have f23 : Fresh w2 w3 := by rw [hw3]; exact (Upd.refl _ _).alloc _
    have b3 : Blk w3 H 24 #[.int .i64 p, .slice A2 n2 c2] := by rw [hw3]; exact blk_new hH _ _
    have hg3 := HG.out w3 ((HR.out.fresh F2.out).fresh f23)
    have hg4 := hg3.mono (R' := fun e w' => Fresh w3 w' ∧ ∃ v, e = .returned (.tuple #[.agg #[.int .i64 p, v], .int .i64 k, .int .i64 0]) ∧ Own w' 3 v (ints N)) (fun e w' h => ⟨h.1, by have h2 := h.2; rw [hD] at h2; obtain ⟨v, h3, h4, _⟩ := h2; exact ⟨v, h3, h4⟩⟩)
    have HG4 := hide hg4
    have B3 := hide b3
    have F3 := hide (F2.out.trans' f23)
    have CU3 := hide (cu2.fresh f23)
    have RD3 := hide (hrd2.fresh f23)
    have HN2 := hide hn2'
    have HL2 := hide hl2
    have HW3 := hide hw3
    have HH := hide hH
    clear hD hg3 hg4 b3 f23 hw3 hH hrd2 o2 cu2 b2 hn2 hn2' hl2 hgp
    go_wp2_with fail
    simp only [← HH.out, ← HW3.out]
    go_wp2_with fail
    refine HG4.out.mono ?_
    rintro e w4 ⟨f4, v4, rfl, o4⟩
    obtain ⟨A4, n4, c4, rfl, hn4⟩ := o4.form'
    have hrd4 := (o4.rd rfl).2.2
    rw [← hn4.out] at hrd4
    have hn4' : n4 = N.length := by have := hn4.out; simpa using this
    obtain ⟨w5, hw5⟩ : ∃ w5, w5 = w4.alloc (.cells #[.int .i64 p, .slice A4 n4 c4] 24) := ⟨_, rfl⟩
    have f45 : Fresh w4 w5 := by rw [hw5]; exact (Upd.refl _ _).alloc _
    have f35 := f4.trans' f45
    have b4 := B3.out.fresh f4
    have q0 : ∀ o, (w4.alloc o).cell? ⟨H, 0, none⟩ = some (.int .i64 p) := fun o => by simpa using (b4.alloc o).cell 0
    have q1 : ∀ o, (w4.alloc o).cell? ⟨H, 1, none⟩ = some (.slice A2 n2 c2) := fun o => by simpa using (b4.alloc o).cell 1
    have hs7 := same07_any _ _ A2 A4 n2 n4 c2 c4 p p N N w5 (RD3.out.fresh f35) (hrd4.fresh f45) (by have := HN2.out; have := HL2.out; omega) (by have := HL2.out; omega)
    rw [decide_eq_true (⟨rfl, rfl⟩ : (p : Int) = p ∧ N = N)] at hs7
    have HS7 := hide hs7
    have hat := fun W (h : Fresh w5 W) => cat_any _ g bs (0 + k) W ((CU3.out.fresh f35).fresh h)
    rw [Nat.zero_add] at hat
    have HAT := hide hat
    have F5 := hide (F3.out.trans' f35)
    have HW5 := hide hw5
    clear o4 hn4 hrd4 hn4' f45 f35 f4 b4 hs7 hat hw5
    go_wp2_with fail
    simp only [← HW5.out]
    refine HS7.out.mono ?_
    rintro e w6 ⟨rfl, f6⟩
    have F56 := hide f6
    clear f6
    go_wp2_with fail
    refine (HAT.out _ F56.out).mono ?_
    rintro e w7 ⟨rfl, rfl⟩
    go_wp2_with fail
    refine (hkn.out _).mono ?_
    rintro e w7 ⟨rfl, f7⟩
    have F7 := hide ((F5.out.trans' F56.out).trans' f7)
    clear f7
    go_wp2_with fail
    try go_ret
    exact hR.out _ _ ⟨rfl, F7.out⟩

end Go.Proofs.Ytbnicnindggimaa
