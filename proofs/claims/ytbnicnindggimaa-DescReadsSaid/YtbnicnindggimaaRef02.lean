/-
  The reference of bit streams: Bits, Bytes, Value, Row.
  Conditions: none beyond those of each theorem.
-/
import Derived.Test.YtbnicnindggimaaInfo
import Derived.Test.YtbnicnindggimaaBitsM
import Derived.Test.YtbnicnindggimaaStore
import Derived.Test.YtbnicnindggimaaDescPut
namespace Go.Proofs.Ytbnicnindggimaa
open Go.RowKit
set_option linter.unusedVariables false
set_option linter.unusedSimpArgs false

/-- bits as values -/
def bools (L : List Bool) : List Value := L.map Value.bool
@[simp] theorem bools_length (L : List Bool) : (bools L).length = L.length := by simp [bools]
theorem bools_one (L : List Bool) : ∀ u ∈ bools L, u.oneCell' = true := by
  intro u hu
  obtain ⟨_, _, rfl⟩ := List.mem_map.1 hu
  rfl
theorem bools_append (A B : List Bool) : bools (A ++ B) = bools A ++ bools B := by simp [bools]
theorem Rd.bool {w : World} {F : Nat → Prop} {A : Option Addr} {n : Nat} {L : List Bool} (h : Rd w F A n (bools L)) {k : Nat} (hk : k < n) :
    ∃ b o, ∃ hk' : k < L.length, A = some ⟨b, o, none⟩ ∧ b < w.heap.size ∧ w.cell? ⟨b, o + k, none⟩ = some (.bool L[k]) := by
  have hl : L.length = n := by have := h.1; simpa using this
  obtain ⟨b, o, e, _, hb, hc⟩ := h.at_ hk
  exact ⟨b, o, by omega, e, hb, by rw [hc]; simp [bools, List.getElem?_eq_getElem (show k < L.length by omega)]⟩

/-- a new slice of bits -/
def NewBits (w w' : World) (v : Value) (L : List Bool) : Prop := Own w' 4 v (bools L) ∧ Fresh w w' ∧ ∀ k, v.ownBlock = some k → w.heap.size ≤ k

set_option maxRecDepth 100000 in
set_option maxHeartbeats 1000000 in
theorem rbits_any (v n : Nat) (w : World) (hn : n ≤ 64) (hv : v < 2 ^ 64) :
    Calls Try.prog 36 #[.int .u64 v, .int .i64 n] w fun e w' => ∃ s, e = .returned s ∧ NewBits w w' s (bitsB n v) := by
  have hnI : (n : Int) ≤ 64 := by omega
  have HV := hide hv
  clear hv hn
  refine veil fun R hR => ?_
  go_enter Try.func36, Try.ntmps36
  go_wp2_with fail
  go_loopg [0, 5, 6] n (fun m x s i wr => ∃ (k : Nat), k + m = n ∧ x = .int .u64 (v / 2 ^ k : Nat) ∧ i = .int .i64 k ∧ NewBits w wr s (bitsB k v))
  case atStart => exact ⟨0, by omega, by simp, rfl, by simpa [bitsB, bools] using Own.nil w 4, Upd.refl _ _, by simp [Value.ownBlock]⟩
  case round =>
    obtain ⟨k, hk, rfl, rfl, ho, hf, hob⟩ := hrel
    have hsn := bitsB_snoc k v
    have hdv : v / 2 ^ (k + 1) = v / 2 ^ k / 2 := by rw [Nat.pow_succ, Nat.div_div_eq_div_mul]
    have hxl : v / 2 ^ k < 2 ^ 64 := Nat.lt_of_le_of_lt (Nat.div_le_self _ _) HV.out
    generalize v / 2 ^ k = x at *
    have hx1 : (x : Int) < 18446744073709551616 := by have : (2 : Nat) ^ 64 = 18446744073709551616 := by decide
                                                      omega
    have HS := hide hsn
    have HD := hide hdv
    have HK := hide hk
    have HO := hide ho
    have HF := hide hf
    have HOB := hide hob
    have hlen : (bools (bitsB k v)).length + 1 ≤ 2 ^ 40 := by simp; omega
    have HL := hide hlen
    clear hsn hdv hk ho hf hob hxl hlen
    by_cases hlt : k < n
    · go_wp2_with (at_builtin; go_must (refine wpList_app _ rfl (.tmp 12) (.tmp 16) _ rfl 4 _ 1 Try.underlying42 infoBool rfl _ _ rfl (HO.out.alloc _) _ 1 _ _ rfl (Rd.one wr 4 _) (by simp [Value.oneCell']) (by omega) HL.out ?_))
      intro v' w1 o1 g1 a1
      have f1 : Fresh w w1 := (HF.out.alloc _).grown g1 (fun kk hkk hlt => by have := HOB.out kk hkk; omega)
      have b1 : ∀ kk, v'.ownBlock = some kk → w.heap.size ≤ kk := own_S (S := fun kk => w.heap.size ≤ kk) a1 HOB.out (by have := HF.out.size; simp; omega)
      have O1 := hide o1
      have F1 := hide f1
      have B1 := hide b1
      clear o1 g1 a1 f1 b1
      go_wp2_with fail
      go_roundg (gk - 1)
      case measure => have := HK.out; omega
      case rel =>
        refine ⟨k + 1, by have := HK.out; omega, by rw [HD.out]; go_num, by go_num, ?_, F1.out, B1.out⟩
        rw [HS.out, bools_append]
        have h := O1.out
        have e : ((x : Int) % 2 == 1) = (x % 2 == 1) := by rw [Bool.eq_iff_iff]; simp; omega
        simpa [bools, e] using h
    · obtain rfl : k = n := by have := HK.out; omega
      go_wp2_with fail
      try go_ret
      exact hR.out _ _ ⟨_, rfl, HO.out, HF.out, HOB.out⟩

set_option maxRecDepth 100000 in
set_option maxHeartbeats 1000000 in
theorem rvalue_any (F : Nat → Prop) (A : Option Addr) (n c : Nat) (L : List Bool) (w : World) (hr : Rd w F A n (bools L)) (hn : n ≤ 64) :
    Calls Try.prog 58 #[.slice A n c] w fun e w' => e = .returned (.int .u64 (valB L : Nat)) ∧ w = w' := by
  have hL : L.length = n := by have := hr.1; simpa using this
  have hnI : (n : Int) ≤ 64 := by omega
  have HR := hide hr
  have HL := hide hL
  clear hr hL hn
  refine veil fun R hR => ?_
  go_enter Try.func58, Try.ntmps58
  go_wp2_with fail
  go_loopg [3, 4] n (fun m x i wr => wr = w ∧ m ≤ n ∧ i = .int .i64 ((m : Int) - 1) ∧ x = .int .u64 (valB (L.drop m) : Nat))
  case atStart => exact ⟨rfl, by omega, rfl, by rw [List.drop_of_length_le (by have := HL.out; omega)]; rfl⟩
  case round =>
    obtain ⟨rfl, hm, rfl, rfl⟩ := hrel
    by_cases h0 : 0 < gk
    · obtain ⟨k, rfl⟩ : ∃ k, gk = k + 1 := ⟨gk - 1, by omega⟩
      obtain ⟨b, o, hk, rfl, hb, hc⟩ := HR.out.bool (k := k) (by omega)
      have hv := valB_cons_drop hk
      have hlt := valB_lt (L.drop (k + 1))
      have hlt2 : 2 ^ (L.drop (k + 1)).length ≤ 2 ^ 63 := Nat.pow_le_pow_right (by omega) (by rw [List.length_drop]; have := HL.out; omega)
      generalize valB (L.drop (k + 1)) = y at *
      generalize L[k] = bb at *
      have hyI : (y : Int) < 9223372036854775808 := by have : (2 : Nat) ^ 63 = 9223372036854775808 := by decide
                                                       omega
      have HV := hide hv
      have e1 : (((k + 1 : Nat) : Int) - 1) = (k : Int) := by omega
      have e2 : IntKind.u64.wrap (2 * (y : Int)) = 2 * (y : Int) := by rw [IntKind.wrap_u64]; omega
      have e3 : IntKind.u64.wrap (2 * (y : Int) + 1) = 2 * (y : Int) + 1 := by rw [IntKind.wrap_u64]; omega
      clear hv hlt hlt2 hk
      rw [e1]
      have hkI : (k : Int) < n := by omega
      cases bb
      all_goals
        go_wp2_with fail
        go_roundg k
        case measure => omega
        case rel => exact ⟨rfl, by omega, by go_num, by rw [HV.out]; simp; try omega⟩
    · obtain rfl : gk = 0 := by omega
      go_wp2_with fail
      try go_ret
      exact hR.out _ _ ⟨by simp, rfl⟩

set_option maxRecDepth 100000 in
set_option maxHeartbeats 1000000 in
theorem rrow_any (F : Nat → Prop) (A : Option Addr) (n c : Nat) (bs : List Nat) (w : World) (hr : Rd w F A n (bytes bs)) (hlt : ∀ b ∈ bs, b < 256) (hn : n ≤ 100000) :
    Calls Try.prog 57 #[.slice A n c] w fun e w' => ∃ s, e = .returned s ∧ NewBits w w' s (rowB bs) := by
  have hL : bs.length = n := by have := hr.1; simpa using this
  have hnI : (n : Int) ≤ 100000 := by omega
  have HR := hide hr.both
  have HL := hide hL
  have HLT := hide hlt
  clear hr hL hn hlt
  refine veil fun R hR => ?_
  go_enter Try.func57, Try.ntmps57
  go_wp2_with fail
  go_loopg [3, 4] n (fun m s i wr => ∃ (k : Nat), k + m = n ∧ i = .int .i64 k ∧ NewBits w wr s (rowB (bs.take k)))
  case atStart => exact ⟨0, by omega, rfl, by simpa [rowB, bools] using Own.nil w 4, Upd.refl _ _, by simp [Value.ownBlock]⟩
  case round =>
    obtain ⟨k, hk, rfl, ho, hf, hob⟩ := hrel
    have HK := hide hk
    have HO := hide ho
    have HF := hide hf
    have HOB := hide hob
    clear hk ho hf hob
    by_cases hltk : k < n
    · have hkl : k < bs.length := by have := HL.out; omega
      obtain ⟨b, o, rfl, hF, hb, hc⟩ := (HR.out.fresh HF.out).at_ hltk
      have hc' : wr.cell? ⟨b, o + k, none⟩ = some (.int .u8 (bs[k] : Nat)) := by rw [hc]; simp [bytes, hkl]
      have hx := HLT.out bs[k] (List.getElem_mem hkl)
      have hts := List.take_succ_eq_append_getElem hkl
      generalize bs[k] = x at *
      have HTS := hide hts
      have hbb := rbits_any x 8 wr (by omega) (by omega)
      have HBB := hide hbb
      have hxI : (x : Int) < 256 := by omega
      clear hc hkl hbb hts
      go_wp2_with fail
      refine HBB.out.mono ?_
      rintro e w1 ⟨s1, rfl, o1, f1, b1⟩
      obtain ⟨A1, n1, c1, rfl, hn1⟩ := o1.form'
      have hrd1 := (o1.rd rfl).2.2
      rw [← hn1.out] at hrd1
      have O1 := hide (HO.out.fresh f1)
      have RD1 := hide hrd1
      have hlen : (bools (rowB (bs.take k))).length + n1 ≤ 2 ^ 40 := by
        have h5 := hn1.out
        have h6 : (bs.take k).length ≤ k := by rw [List.length_take]; omega
        simp only [bools_length, bitsB_length, rowB_length] at h5 ⊢
        omega
      have HLEN := hide hlen
      have F1 := hide (HF.out.trans' f1)
      clear o1 f1 b1 hn1 hrd1 hlen HBB
      go_wp2_with (at_builtin; go_must (refine wpList_app _ rfl (.tmp 11) (.tmp 17) _ rfl 4 _ 1 Try.underlying42 infoBool rfl _ _ rfl O1.out _ n1 _ _ rfl RD1.out (bools_one _) (by omega) HLEN.out ?_))
      intro v' w2 o2 g2 a2
      have f2 : Fresh w w2 := F1.out.grown g2 (fun kk hkk hlt => by have := HOB.out kk hkk; omega)
      have b2 : ∀ kk, v'.ownBlock = some kk → w.heap.size ≤ kk := own_S (S := fun kk => w.heap.size ≤ kk) a2 HOB.out (by have := F1.out.size; exact this)
      have O2 := hide o2
      have F2 := hide f2
      have B2 := hide b2
      clear o2 g2 a2 f2 b2
      go_wp2_with fail
      go_roundg (gk - 1)
      case measure => have := HK.out; omega
      case rel =>
        refine ⟨k + 1, by have := HK.out; omega, by go_num, ?_, F2.out, B2.out⟩
        rw [HTS.out, rowB_append, rowB_cons, rowB_nil, List.append_nil, bools_append]
        exact O2.out
    · obtain rfl : k = n := by have := HK.out; omega
      have e : bs.take k = bs := List.take_of_length_le (by have := HL.out; omega)
      rw [e] at HO
      clear e
      go_wp2_with fail
      try go_ret
      exact hR.out _ _ ⟨_, rfl, HO.out, HF.out, HOB.out⟩

end Go.Proofs.Ytbnicnindggimaa
