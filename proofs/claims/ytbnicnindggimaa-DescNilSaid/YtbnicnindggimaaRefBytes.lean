/-
  The reference of bit streams: Bytes.
  Conditions: none beyond those of each theorem.
-/
import Derived.Test.YtbnicnindggimaaRef02
namespace Go.Proofs.Ytbnicnindggimaa
open Go.RowKit
set_option linter.unusedVariables false
set_option linter.unusedSimpArgs false

/-- the bytes with one bit -/
theorem tab8_get (r : Nat) (h : r < 8) : ∀ h' : r < [Value.int .u8 1, Value.int .u8 2, Value.int .u8 4, Value.int .u8 8, Value.int .u8 16, Value.int .u8 32, Value.int .u8 64, Value.int .u8 128].length,
    [Value.int .u8 1, Value.int .u8 2, Value.int .u8 4, Value.int .u8 8, Value.int .u8 16, Value.int .u8 32, Value.int .u8 64, Value.int .u8 128][r]'h' = .int .u8 (2 ^ r : Nat) := by
  match r, h with
  | 0, _ => exact fun _ => rfl
  | 1, _ => exact fun _ => rfl
  | 2, _ => exact fun _ => rfl
  | 3, _ => exact fun _ => rfl
  | 4, _ => exact fun _ => rfl
  | 5, _ => exact fun _ => rfl
  | 6, _ => exact fun _ => rfl
  | 7, _ => exact fun _ => rfl

set_option maxRecDepth 100000 in
set_option maxHeartbeats 4000000 in
theorem rbytes_any (F : Nat → Prop) (A : Option Addr) (n c : Nat) (L : List Bool) (w : World) (hr : Rd w F A n (bools L)) (hn : n ≤ 100000) :
    Calls Try.prog 19 #[.slice A n c] w fun e w' => ∃ v, e = .returned v ∧ NewBytes w w' v (packB L) := by
  have hL : L.length = n := by have := hr.1; simpa using this
  have hnI : (n : Int) ≤ 100000 := by omega
  have HR := hide hr
  have HL := hide hL
  clear hr hL hn
  refine veil fun R hR => ?_
  go_enter Try.func19, Try.ntmps19
  go_wp2_with fail
  go_loopg [3, 4] n (fun m s i wr => ∃ k : Nat, k + m = n ∧ i = .int .i64 k ∧ NewBytes w wr s (packB (L.take k)))
  case atStart => exact ⟨0, by omega, rfl, by simpa [packB, bytes] using Own.nil w 5, Upd.refl _ _, by simp [Value.ownBlock]⟩
  case round =>
    obtain ⟨k, hk, rfl, ho, hf, hob⟩ := hrel
    have HK := hide hk
    have HF := hide hf
    have HOB := hide hob
    by_cases hlt : k < n
    · obtain ⟨b, o, hkl, rfl, hb, hc⟩ := (HR.out.fresh hf).bool (k := k) hlt
      obtain ⟨fr, y, hfl, hy, h0, h1, h2⟩ := pack_step L k hkl
      obtain ⟨bb, hbb⟩ : ∃ bb, bb = L[k] := ⟨_, rfl⟩
      rw [← hbb] at h2 hc
      obtain ⟨q, hq⟩ : ∃ q, q = fr.length := ⟨_, rfl⟩
      obtain ⟨r, hrr⟩ : ∃ r, r = k % 8 := ⟨_, rfl⟩
      rw [← hrr] at hy h0 h1 h2
      have hqI : (k : Int) / 8 = (q : Int) := by omega
      have hrI : (k : Int) % 8 = (r : Int) := by omega
      have hr8 : (r : Int) < 8 := by omega
      have hp2 : 2 ^ r ≤ 2 ^ 7 := Nat.pow_le_pow_right (by omega) (by omega)
      have hkI : (k : Int) < n := by omega
      have H2 := hide h2
      have HY := hide (show y < 128 by omega)
      have HQ := hide hq
      have HP2 := hide (show 2 ^ r ≤ 128 by omega)
      have HT := hide (tab8_get r (by omega))
      have hr7 : r < 8 := by omega
      have HBB := hide hbb
      clear hk hf hob h2 hbb hfl hy hq hp2 hrr
      by_cases h8 : r = 0
      · obtain ⟨h01, rfl⟩ := h0 h8
        rw [h01] at ho
        have HO := hide ho
        have hr0 : ((r : Int) == 0) = true := by rw [h8]; rfl
        have hlen : (bytes fr).length + 1 ≤ 2 ^ 40 := by have := HQ.out; simp; omega
        have HLEN := hide hlen
        clear h0 h1 h01 ho h8 hlen
        go_wp2_with (at_builtin; go_must (refine wpList_app _ rfl (.tmp 14) (.tmp 15) _ rfl 5 _ 1 Try.underlying27 infoU8 rfl _ _ rfl (HO.out.alloc _) _ 1 _ _ rfl (Rd.one wr 5 (.int .u8 0)) (by simp [Value.oneCell']) (by omega) HLEN.out ?_))
        intro v1 w1 o1 g1 a1
        have f1 : Fresh w w1 := (HF.out.alloc _).grown g1 (fun kk hkk hlt => by have := HOB.out kk hkk; omega)
        have b1 : ∀ kk, v1.ownBlock = some kk → w.heap.size ≤ kk := own_S (S := fun kk => w.heap.size ≤ kk) a1 HOB.out (by have := HF.out.size; simp; omega)
        have O1 := hide (show Own w1 5 v1 (bytes (fr ++ [0])) by simpa [bytes] using o1)
        obtain ⟨b', o', _, he, hb', hc1⟩ := (HR.out.fresh f1).bool (k := k) hlt
        injection he with he
        injection he with he1 he2
        subst he1 he2
        rw [← HBB.out] at hc1
        have F1 := hide f1
        have B1 := hide b1
        clear o1 g1 a1 f1 b1 hc
        cases bb
        · go_wp2_with fail
          go_roundg (gk - 1)
          case measure => have := HK.out; omega
          case rel => exact ⟨k + 1, by have := HK.out; omega, by go_num, by rw [H2.out]; simpa using O1.out, F1.out, B1.out⟩
        · obtain ⟨A1, n1, c1, rfl, hn1⟩ := O1.out.form'
          obtain ⟨g, rfl, hgs, hcell, hfz, hown⟩ := O1.out.store (i := q) (by have := HQ.out; simp; omega)
          have hget : (bytes (fr ++ [0]))[q]'(by have := HQ.out; simp; omega) = .int .u8 ((0 : Nat) : Int) := by have := HQ.out; simp [bytes, this]
          rw [hget] at hcell
          have hcap := (O1.out.rd rfl).2.1
          have hn1I : (n1 : Int) = q + 1 := by have := hn1.out; have := HQ.out; simp at *; omega
          have hlt1 : (q : Int) < n1 := by omega
          have htab := HT.out
          obtain ⟨t8, ht8⟩ : ∃ t8, t8 = 2 ^ r := ⟨_, rfl⟩
          rw [← ht8] at htab
          have hsum : IntKind.u8.wrap (((0 : Nat) : Int) + t8) = ((0 + t8 : Nat) : Int) := by rw [IntKind.wrap_u8]; have := HY.out; have := HP2.out; omega
          have HT8 := hide ht8
          clear ht8
          have HOWN := hide hown
          clear hget hn1I hown
          go_wp2_with fail
          go_region
          all_goals go_wp2_with fail
          all_goals go_roundg (gk - 1)
          case measure => have := HK.out; omega
          case rel =>
            refine ⟨k + 1, by have := HK.out; omega, by go_num, ?_⟩
            have o2 := ((HOWN.out (.int .u8 (0 + t8 : Nat))).alloc (.cells #[.int .u8 1, .int .u8 2, .int .u8 4, .int .u8 8, .int .u8 16, .int .u8 32, .int .u8 64, .int .u8 128] 5)).drew
            have e1 : (bytes (fr ++ [0])).set q (.int .u8 (0 + t8 : Nat)) = bytes (fr ++ [0 + t8]) := by have := HQ.out; subst this; simp [bytes, List.set_append]
            rw [e1] at o2
            have f2 : Fresh w (w1.setCell ⟨g, q, none⟩ (.int .u8 (0 + t8 : Nat))) := F1.out.setCell (p := ⟨g, q, none⟩) (fun h => by have := B1.out g rfl; simp at h; omega) _
            rw [H2.out, if_pos (by simp), ← HT8.out]
            have e2 : (t8 : Int) % 256 = ((0 + t8 : Nat) : Int) := by have := HP2.out; have := HT8.out; omega
            rw [e2]
            exact ⟨o2, (f2.alloc _).drew, B1.out⟩
      · have h11 := h1 h8
        rw [h11] at ho
        have hr0 : ((r : Int) == 0) = false := by simp; omega
        have O1 := hide ho
        clear h0 h1 h11 ho h8
        obtain ⟨w1, rfl⟩ : ∃ w1, w1 = wr := ⟨_, rfl⟩
        have F1 := HF
        have B1 := HOB
        cases bb
        · go_wp2_with fail
          go_roundg (gk - 1)
          case measure => have := HK.out; omega
          case rel => exact ⟨k + 1, by have := HK.out; omega, by go_num, by rw [H2.out]; simpa using O1.out, F1.out, B1.out⟩
        · obtain ⟨A1, n1, c1, rfl, hn1⟩ := O1.out.form'
          obtain ⟨g, rfl, hgs, hcell, hfz, hown⟩ := O1.out.store (i := q) (by have := HQ.out; simp; omega)
          have hget : (bytes (fr ++ [y]))[q]'(by have := HQ.out; simp; omega) = .int .u8 (y : Nat) := by have := HQ.out; simp [bytes, this]
          rw [hget] at hcell
          have hcap := (O1.out.rd rfl).2.1
          have hn1I : (n1 : Int) = q + 1 := by have := hn1.out; have := HQ.out; simp at *; omega
          have hlt1 : (q : Int) < n1 := by omega
          have htab := HT.out
          obtain ⟨t8, ht8⟩ : ∃ t8, t8 = 2 ^ r := ⟨_, rfl⟩
          rw [← ht8] at htab
          have hsum : IntKind.u8.wrap ((y : Int) + t8) = ((y + t8 : Nat) : Int) := by rw [IntKind.wrap_u8]; have := HY.out; have := HP2.out; omega
          have HT8 := hide ht8
          clear ht8
          have HOWN := hide hown
          clear hget hn1I hown
          go_wp2_with fail
          go_region
          all_goals go_wp2_with fail
          all_goals go_roundg (gk - 1)
          case measure => have := HK.out; omega
          case rel =>
            refine ⟨k + 1, by have := HK.out; omega, by go_num, ?_⟩
            have o2 := ((HOWN.out (.int .u8 (y + t8 : Nat))).alloc (.cells #[.int .u8 1, .int .u8 2, .int .u8 4, .int .u8 8, .int .u8 16, .int .u8 32, .int .u8 64, .int .u8 128] 5)).drew
            have e1 : (bytes (fr ++ [y])).set q (.int .u8 (y + t8 : Nat)) = bytes (fr ++ [y + t8]) := by have := HQ.out; subst this; simp [bytes, List.set_append]
            rw [e1] at o2
            have f2 : Fresh w (w1.setCell ⟨g, q, none⟩ (.int .u8 (y + t8 : Nat))) := F1.out.setCell (p := ⟨g, q, none⟩) (fun h => by have := B1.out g rfl; simp at h; omega) _
            rw [H2.out, if_pos (by simp), ← HT8.out]
            have e2 : (y : Int) + t8 = ((y + t8 : Nat) : Int) := by omega
            rw [e2]
            exact ⟨o2, (f2.alloc _).drew, B1.out⟩
    · obtain rfl : k = n := by have := HK.out; omega
      have e : L.take k = L := List.take_of_length_le (by have := HL.out; omega)
      rw [e] at ho
      have HO := hide ho
      clear e ho hk hf hob
      go_wp2_with fail
      try go_ret
      exact hR.out _ _ ⟨_, rfl, HO.out, HF.out, HOB.out⟩

end Go.Proofs.Ytbnicnindggimaa
