/-
  DescOnce: the law's function answers true.
  Conditions: none beyond those of each theorem.
-/
import Derived.Test.YtbnicnindggimaaLaw
import Derived.Test.YtbnicnindggimaaRef11
import Derived.Test.YtbnicnindggimaaSame07
import Derived.Test.YtbnicnindggimaaDescOnce
namespace Go.Proofs.Ytbnicnindggimaa
open Go.RowKit

theorem fit_of_valid {p : Nat} {N : List Int} (h : Valid p N 256 9) : Fit N := by
  intro n hn
  obtain ⟨_, _, h9, _, _, _, h1, h2⟩ := h
  have h3 : ∀ l : List Int, n ∈ l → absZ n ≤ sumZ l := by
    intro l
    induction l with
    | nil => intro h; cases h
    | cons x l ih =>
      intro h
      rw [sumZ_cons]
      have := absZ_nonneg x
      have := sumZ_nonneg l
      rcases List.mem_cons.1 h with rfl | h
      · omega
      · have := ih h; omega
  have h4 := h3 N hn
  have h5 := h1 n hn
  have h6 := pow_le_512 (show p ≤ 9 by omega)
  have h7 : (2 : Int) ^ p = ((2 ^ p : Nat) : Int) := by simp
  rw [h2] at h4
  simp only [Int.toNat_natCast] at h4
  unfold absZ at h4
  split at h4 <;> omega

theorem decodeS_err {sy lb : Int} {L : List Bool} {x : Int} (h : decodeS sy lb L = .error x) : x ≠ 0 := by
  unfold decodeS at h
  simp only at h
  split at h
  · injection h with h; subst h; assumption
  · split at h
    · injection h with h; omega
    · cases h

theorem seenB_short {bs : List Nat} (h : bs.length ≤ 1024) : seenB bs 0 = bs := by
  unfold seenB
  rw [List.drop_zero, List.take_of_length_le h]

set_option maxRecDepth 100000 in
set_option maxHeartbeats 4000000 in
theorem once_any (F : Nat → Prop) (A : Option Addr) (n c : Nat) (bs : List Nat) (sy lb : Int) (w : World) (hr : Rd w F A n (bs.map fun b => .int .u8 (b : Nat))) (hlt : ∀ b ∈ bs, b < 256) (hcap : n ≤ c) :
    Calls Try.prog 8 #[.slice A n c, .int .i64 sy, .int .i64 lb] w fun e w' => e = .returned (.bool true) ∧ Fresh w w' := by
  have hkn := hide known_any
  have hn : bs.length = n := by have := hr.1; simpa using this
  refine veil fun R hR => ?_
  by_cases h1 : 500 < n
  · have h1' : (500 : Int) < n := by omega
    go_enter Try.func8, Try.ntmps8
    go_wp2_with fail
    refine (hkn.out _).mono ?_
    rintro e w1 ⟨rfl, f1⟩
    have F1 := hide f1
    clear f1
    go_wp2_with fail
    try go_ret
    exact hR.out _ _ ⟨rfl, F1.out⟩
  have h1' : (n : Int) ≤ 500 := by omega
  have hnw := new_any F A n c bs w hr hlt (by omega)
  have HN := hide hnw
  have HR := hide hr
  have HD := hide (fun g w1 h1 => decode_any (fun k => w.heap.size ≤ k ∧ k ≠ g) g bs 0 sy lb w1 h1 (fun b hb => hb.2))
  have HNL := hide hn
  have HLT := hide hlt
  have HSB := hide (seenB_short (bs := bs) (by omega))
  clear hnw hr hn hlt
  go_enter Try.func8, Try.ntmps8
  go_wp2_with fail
  refine HN.out.mono ?_
  rintro e w1 ⟨g, rfl, hg, f1, cu1⟩
  have hd := HD.out g w1 cu1
  have HDD := hide hd
  have F1 := hide f1
  clear hd cu1 f1 HD HN
  go_wp2_with fail
  refine HDD.out.mono ?_
  rintro e w2 ⟨u2, h2⟩
  have F2 := hide (show Fresh w w2 from F1.out.trans u2 (fun b hb h => by omega))
  clear u2 HDD
  rw [HSB.out] at h2
  obtain ⟨D, hD⟩ : ∃ D, D = decodeS sy lb (rowB bs) := ⟨_, rfl⟩
  rw [← hD] at h2
  cases D with
  | error x =>
    obtain ⟨rfl, _⟩ := h2
    have hx := decodeS_err hD.symm
    have hx' : (x != 0) = true := by simpa using hx
    clear hx hD
    go_wp2_with fail
    refine (hkn.out _).mono ?_
    rintro e w3 ⟨rfl, f3⟩
    have F3 := hide ((F2.out.alloc _).trans' f3)
    clear f3
    go_wp2_with fail
    try go_ret
    exact hR.out _ _ ⟨rfl, F3.out⟩
  | ok D =>
    obtain ⟨p, N, k⟩ := D
    obtain ⟨v, rfl, o2, b2, cu2, hl2⟩ := h2
    obtain ⟨o1', o2', o3', o4', o5', o6'⟩ := desc_once HLT.out hD.symm
    obtain ⟨A2, n2, c2, rfl, hn2⟩ := o2.form'
    have hn2' : n2 = N.length := by have := hn2.out; simpa using this
    have hsy : (n2 : Int) ≤ sy := by omega
    have hkn' : k ≤ n := by have := HNL.out; omega
    have hknI : (k : Int) ≤ n := by omega
    have hkc : k ≤ c := by omega
    have hn2b : (n2 : Int) ≤ 1000 := by omega
    have O2 := hide o2
    have CU2 := hide cu2
    have HV := hide o1'
    have HP := hide o2'
    have HPK := hide o6'
    have HN2 := hide hn2'
    clear o2 cu2 o1' o2' o3' o6' hn2 hn2' hD b2 hl2
    go_wp2_with fail
    obtain ⟨w3, hw3⟩ : ∃ w3, w3 = w2.alloc (.cells #[.int .i64 p, .slice A2 n2 c2] 24) := ⟨_, rfl⟩
    rw [← hw3]
    obtain ⟨H, hH⟩ : ∃ H, H = w2.heap.size := ⟨_, rfl⟩
    rw [← hH]
    have f23 : Fresh w2 w3 := by rw [hw3]; exact (Upd.refl _ _).alloc _
    have B3 := hide (show Blk w3 H 24 #[.int .i64 p, .slice A2 n2 c2] by rw [hw3]; exact blk_new hH _ _)
    have F3 := hide (F2.out.trans' f23)
    have r3 := ((O2.out.fresh f23).rd rfl).2.2
    have e3 : (ints N).length = n2 := by have := HN2.out; simp; omega
    rw [e3] at r3
    have r3' := r3
    have R3 := hide r3
    clear e3
    have CU3 := hide (CU2.out.fresh f23)
    have FF := hide f23
    have he := encode_ok _ A2 n2 c2 p N w3 r3' (fit_of_valid HV.out) (by omega) HV.out HP.out
    have HE := hide he
    clear hw3 hH f23 r3 r3' O2 CU2 he
    refine HE.out.mono ?_
    rintro e w4 ⟨v4, rfl, o4, f4, k4⟩
    obtain ⟨A4, n4, c4, rfl, hn4⟩ := o4.form'
    have r4 := (o4.rd rfl).2.2
    rw [← hn4.out] at r4
    have R4 := hide r4
    have F4 := hide (F3.out.trans' f4)
    have CU4 := hide (CU3.out.fresh f4)
    have b4 := B3.out.fresh f4
    have B4 := hide b4
    have c0 := b4.cell 0
    have c1 := b4.cell 1
    simp at c0 c1
    have hm := may11_any _ A2 n2 c2 p N w4 (R3.out.fresh f4) (fit_of_valid HV.out) (by omega)
    rw [decide_eq_true (show Has p N from ⟨HV.out, by have := HP.out; omega⟩)] at hm
    have HM := hide hm
    clear r4 f4 b4 hm HE o4 hn4 k4
    go_wp2_with fail
    refine HM.out.mono ?_
    rintro e w5 ⟨rfl, f5⟩
    have F5 := hide (F4.out.trans' f5)
    have cu5 := CU4.out.fresh f5
    have CU5 := hide cu5
    have R5 := hide (R4.out.fresh f5)
    have b5 := B4.out.fresh f5
    have d0 := b5.cell 0
    have d1 := b5.cell 1
    simp at d0 d1
    have hat := cat_any _ g bs (0 + k) w5 CU5.out
    rw [Nat.zero_add] at hat
    have HAT := hide hat
    clear f5 b5 hat HM cu5 c0 c1
    have hsm := same_any _ _ A4 A n4 k c4 c _ (bs.take k) w5 R5.out (by have := (HR.out.fresh F5.out).take (k := k) hkn'; simpa [List.map_take] using this) (packB_lt256 _) (fun b hb => HLT.out b (List.mem_of_mem_take hb))
    rw [decide_eq_true HPK.out] at hsm
    have HSM := hide hsm
    clear hsm
    go_wp2_with fail
    refine HAT.out.mono ?_
    rintro e w6 ⟨rfl, rfl⟩
    go_wp2_with fail
    refine HAT.out.mono ?_
    rintro e w6 ⟨rfl, rfl⟩
    go_wp2_with fail
    refine HSM.out.mono ?_
    rintro e w6 ⟨rfl, rfl⟩
    go_wp2_with fail
    refine (hkn.out _).mono ?_
    rintro e w7 ⟨rfl, f7⟩
    have F7 := hide (F5.out.trans' f7)
    clear f7
    go_wp2_with fail
    try go_ret
    exact hR.out _ _ ⟨rfl, F7.out⟩

end Go.Proofs.Ytbnicnindggimaa
