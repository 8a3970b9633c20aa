/-
  DescCuts: the law's function answers true.
  Conditions: none beyond those of each theorem.
-/
import Derived.Test.YtbnicnindggimaaLaw
import Derived.Test.YtbnicnindggimaaRef11
import Derived.Test.YtbnicnindggimaaDescBytes
namespace Go.Proofs.Ytbnicnindggimaa
open Go.RowKit

theorem pick_mod (a : Int) (n : Nat) (h : 0 < n) (h2 : n ≤ 400) : ∃ k : Nat, k < n ∧ wrap64 ((IntKind.u64.wrap a).tmod (n : Int)) = (k : Int) := by
  rw [IntKind.wrap_u64]
  have h3 : 0 ≤ a % 18446744073709551616 := Int.emod_nonneg _ (by omega)
  rw [Int.tmod_eq_emod_of_nonneg h3]
  generalize a % 18446744073709551616 = x
  have h4 := Int.emod_nonneg x (show (n : Int) ≠ 0 by omega)
  have h5 := Int.emod_lt_of_pos x (show (0 : Int) < n by omega)
  generalize x % (n : Int) = y at h4 h5
  refine ⟨y.toNat, by omega, ?_⟩
  unfold wrap64
  omega

set_option maxRecDepth 100000 in
set_option maxHeartbeats 4000000 in
theorem cuts_any (F : Nat → Prop) (A : Option Addr) (n c : Nat) (lg : Int) (N : List Int) (at_ : Int) (w : World) (hr : Rd w F A n (ints N)) (hfit : Fit N) :
    Calls Try.prog 3 #[.agg #[.int .i64 lg, .slice A n c], .int .i64 at_] w fun e w' => e = .returned (.bool true) ∧ Fresh w w' := by
  have hkn := hide known_any
  obtain ⟨H, hH⟩ : ∃ H, H = w.heap.size := ⟨_, rfl⟩
  have B0 := hide (show Blk (w.alloc (.cells #[.int .i64 lg, .slice A n c] 24)) H 24 #[.int .i64 lg, .slice A n c] from hH ▸ Blk.new w _ _)
  have HH := hide hH
  have HR := hide hr
  have HF := hide hfit
  clear hH hr hfit
  have fr : Fresh w (w.alloc (.cells #[.int .i64 lg, .slice A n c] 24)) := (Upd.refl _ _).alloc _
  have FR := hide fr
  clear fr
  refine veil fun R hR => ?_
  by_cases h1 : 300 < n
  · have h1' : (300 : Int) < n := by omega
    go_enter Try.func3, Try.ntmps3
    go_wp2_with fail
    refine (hkn.out _).mono ?_
    rintro e w1 ⟨rfl, f1⟩
    have F1 := hide (FR.out.trans' f1)
    clear f1
    go_wp2_with fail
    try go_ret
    exact hR.out _ _ ⟨rfl, F1.out⟩
  have h1' : (n : Int) ≤ 300 := by omega
  have hmay := may11_any F A n c lg N (w.alloc (.cells #[.int .i64 lg, .slice A n c] 24)) (HR.out.alloc _) HF.out (by omega)
  by_cases hv : Has lg N
  · rw [decide_eq_true hv] at hmay
    have HM := hide hmay
    have HV := hide hv
    clear hmay hv
    go_enter Try.func3, Try.ntmps3
    go_wp2_with fail
    rw [← HH.out]
    refine HM.out.mono ?_
    rintro e w1 ⟨rfl, f1⟩
    have b1 := B0.out.fresh f1
    have c0 := b1.cell 0
    have c1 := b1.cell 1
    simp at c0 c1
    have F1 := hide (FR.out.trans' f1)
    have B1 := hide b1
    obtain ⟨p, hp⟩ : ∃ p : Nat, lg = p := ⟨lg.toNat, by have := HV.out.1.1; omega⟩
    subst hp
    have hpz : p ≠ 0 := by have := HV.out.2; omega
    have hen := encode_ok F A n c p N w1 (HR.out.fresh F1.out) HF.out (by omega) HV.out.1 hpz
    have hle := desc_bytes_le HV.out.1
    have hlt := packB_lt (descBits p N)
    have hpos : 0 < (packB (descBits p N)).length := by have := descBits_pos p N; rw [packB_length]; omega
    have hcut := fun k hk => desc_cut (sy := 256) (lb := 9) HV.out.1 hpz HV.out.1.2.2.2.2.1 HV.out.1.2.1 k hk
    have HE := hide hen
    have HC := hide hcut
    have HLT := hide hlt
    clear hen b1 f1 HM hcut hlt
    obtain ⟨D, hD⟩ : ∃ D, D = packB (descBits p N) := ⟨_, rfl⟩
    rw [← hD] at hle hpos HLT HE HC
    clear hD
    go_wp2_with fail
    refine HE.out.mono ?_
    rintro e w2 ⟨v2, rfl, o2, f2, k2⟩
    obtain ⟨A2, n2, c2, rfl, hn2⟩ := o2.form'
    have hrd2 := (o2.rd rfl).2.2
    rw [← hn2.out] at hrd2
    have hcp2 := (o2.rd rfl).2.1
    have hn2' : n2 = D.length := by have := hn2.out; simpa [bytes] using this
    have hn2p : 0 < n2 := by omega
    have hn2q : n2 ≤ 400 := by omega
    have hc2 : n2 ≤ c2 := by simp [bytes] at hcp2; omega
    have RD2 := hide hrd2
    have HN2 := hide hn2'
    have F2 := hide (F1.out.trans' f2)
    clear hn2 hrd2 hcp2 hn2' o2 f2 k2 hle hpos HE
    have hne : ((n2 : Int) == 0) = false := by simp; omega
    obtain ⟨k, hk, hkm⟩ := pick_mod at_ n2 hn2p hn2q
    have hkc : k ≤ c2 := by omega
    have hrds := reads_any (fun b => (Value.slice A2 n2 c2).ownBlock = some b) A2 k c2 (D.take k) 256 9 w2 (by
      have := RD2.out.take (k := k) (by omega)
      simpa [bytes, List.map_take] using this) (fun b hb => HLT.out b (List.mem_of_mem_take hb)) (by rw [List.length_take]; omega)
    have hse : errS 256 9 (rowB (seenB (D.take k) 0)) = 3 := by
      have h1 : seenB (D.take k) 0 = D.take k := by
        unfold seenB
        rw [List.drop_zero, List.take_of_length_le]
        rw [List.length_take]; omega
      rw [h1]
      unfold errS
      rw [HC.out k (by have := HN2.out; omega)]
    rw [hse] at hrds
    have HRD := hide hrds
    clear hrds hse
    go_wp2_with fail
    refine HRD.out.mono ?_
    rintro e w3 ⟨rfl, f3⟩
    have F3 := hide (F2.out.trans' f3)
    clear f3
    go_wp2_with fail
    refine (hkn.out _).mono ?_
    rintro e w4 ⟨rfl, f4⟩
    have F4 := hide (F3.out.trans' f4)
    clear f4
    go_wp2_with fail
    try go_ret
    exact hR.out _ _ ⟨rfl, F4.out⟩
  · rw [decide_eq_false hv] at hmay
    have HM := hide hmay
    clear hmay hv
    go_enter Try.func3, Try.ntmps3
    go_wp2_with fail
    rw [← HH.out]
    refine HM.out.mono ?_
    rintro e w1 ⟨rfl, f1⟩
    have F1 := hide (FR.out.trans' f1)
    clear f1
    go_wp2_with fail
    refine (hkn.out _).mono ?_
    rintro e w2 ⟨rfl, f2⟩
    have F2 := hide (F1.out.trans' f2)
    clear f2
    go_wp2_with fail
    try go_ret
    exact hR.out _ _ ⟨rfl, F2.out⟩

end Go.Proofs.Ytbnicnindggimaa
