/-
  The reference of bit readers: Whole.
  Conditions: none beyond those of each theorem.
-/
import Derived.Test.YtbnicnindggimaaRef03
import Derived.Test.YtbnicnindggimaaDescOnce
namespace Go.Proofs.Ytbnicnindggimaa
open Go.RowKit
set_option linter.unusedVariables false
set_option linter.unusedSimpArgs false

theorem valB_zero_get {l : List Bool} (h : valB l = 0) {j : Nat} (hj : j < l.length) : l[j]? = some false := by
  have := replicate_of_val h
  rw [this]
  simp [hj]

theorem valB_of_falses {l : List Bool} (h : ∀ j, j < l.length → l[j]? = some false) : valB l = 0 := by
  have : l = List.replicate l.length false := by
    apply List.ext_getElem?
    intro j
    by_cases hj : j < l.length
    · rw [h j hj]; simp [hj]
    · rw [List.getElem?_eq_none (by omega), List.getElem?_eq_none (by simp; omega)]
  rw [this, valB_falses]

/-- the bits up to the next byte boundary, and whether they are all zero -/
def padV (L : List Bool) (fr : Nat) : Nat := valB ((L.drop fr).take ((8 - fr % 8) % 8))

set_option maxRecDepth 100000 in
set_option maxHeartbeats 2000000 in
theorem rwhole_any (F : Nat → Prop) (g : Nat) (L : List Bool) (fr : Nat) (w : World) (h : RefAt w F g L fr) (h8 : L.length % 8 = 0) (hL : L.length ≤ 2 ^ 40) :
    Calls Try.prog 44 #[.pointer (some ⟨g, 0, none⟩)] w fun e w' =>
      e = .returned (if padV L fr = 0 then .tuple #[.int .i64 ((fr + (8 - fr % 8) % 8) / 8 : Nat), .int .i64 0] else .tuple #[.int .i64 0, .int .i64 14]) ∧ Upd (fun b => b = g) w w' := by
  obtain ⟨A, c, hb, hr, hf, hc⟩ := h
  have c0 := hb.cell 0
  have c1 := hb.cell 1
  have z0 := hb.frozen 0
  have z1 := hb.frozen 1
  simp at c0 c1
  obtain ⟨P, hP⟩ : ∃ P, P = (8 - fr % 8) % 8 := ⟨_, rfl⟩
  have hpv : padV L fr = valB ((L.drop fr).take P) := by rw [hP]; rfl
  rw [← hP, hpv]
  have hPm : P ≤ L.length - fr := by omega
  have hP8 : P < 8 := by omega
  have hPI : (P : Int) < 8 := by omega
  have hcI : (P : Int) ≤ c := by omega
  have hmI : ((L.length - fr : Nat) : Int) ≤ 1099511627776 := by omega
  have hPmI : (P : Int) ≤ ((L.length - fr : Nat) : Int) := by omega
  have hmc : ((L.length - fr : Nat) : Int) ≤ c := by omega
  have hfI : (fr : Int) ≤ 1099511627776 := by omega
  have hend : ((fr : Int) + P) % 8 = 0 := by omega
  have hgo : ∀ k : Nat, k < P → ¬ ((fr : Int) + k) % 8 = 0 := fun k hk => by omega
  have hvE : ((fr : Int) + P) / 8 = ((fr + P) / 8 : Nat) := by omega
  have HE := hide hend
  have HGO := hide hgo
  have HR := hide hr
  have HVE := hide hvE
  have hlen : ((L.drop fr).take P).length = P := by rw [List.length_take, List.length_drop]; omega
  have HLEN := hide hlen
  obtain ⟨m, hm⟩ : ∃ m, m = L.length - fr := ⟨_, rfl⟩
  rw [← hm] at c0 hmI hPmI hmc HR
  clear hb hr hend hgo hvE hpv hP hm hPm hf hc h8 hlen
  obtain ⟨V, hV⟩ : ∃ V, V = valB ((L.drop fr).take P) := ⟨_, rfl⟩
  rw [← hV]
  have HV := hide hV
  clear hV
  refine veil fun R hR => ?_
  by_cases hcP : c = P
  all_goals
    have hcP' : (c : Int) = P ∨ (P : Int) < c := by omega
    have HCP := hide hcP
    clear hcP
  · have hcPI : (c : Int) ≤ P := by have := HCP.out; omega
    clear hcP'
    go_enter Try.func44, Try.ntmps44
    go_wp2_with fail
    go_loopg [4] P (fun mm i wr => wr = w ∧ ∃ k : Nat, k + mm = P ∧ i = .int .i64 k ∧ ∀ j, j < k → (L.drop fr)[j]? = some false)
    case atStart => exact ⟨rfl, 0, by omega, rfl, fun j hj => by omega⟩
    case round =>
      obtain ⟨rfl, k, hk, rfl, hall⟩ := hrel
      have HK := hide hk
      have HA := hide hall
      clear hk hall
      by_cases hlt : k < P
      · have hgo := HGO.out k hlt
        obtain ⟨b, o, hkl, rfl, hb, hcell⟩ := HR.out.bool (k := k) (by omega)
        have hget : (L.drop fr)[k]? = some (L.drop fr)[k] := List.getElem?_eq_getElem hkl
        have hkm : (k : Int) < m := by omega
        generalize (L.drop fr)[k] = bb at *
        have HG := hide hget
        clear hget hkl
        cases bb
        · go_wp2_with fail
          go_roundg (gk - 1)
          case measure => have := HK.out; omega
          case rel => exact ⟨rfl, k + 1, by have := HK.out; omega, by go_num, fun j hj => by
            rcases Nat.lt_or_ge j k with h | h
            · exact HA.out j h
            · obtain rfl : j = k := by omega
              exact HG.out⟩
        · go_wp2_with fail
          try go_ret2
          have hne : ¬ V = 0 := by
            intro h0
            rw [HV.out] at h0
            have h1 := valB_zero_get h0 (j := k) (by rw [HLEN.out]; exact hlt)
            rw [List.getElem?_take, if_pos hlt, HG.out] at h1
            cases h1
          exact hR.out _ _ ⟨by rw [if_neg hne]; rfl, Upd.refl _ _⟩
      · obtain rfl : k = P := by have := HK.out; omega
        have hend := HE.out
        go_wp2_with fail
        try go_ret2
        have hz : V = 0 := by
          rw [HV.out]
          refine valB_of_falses fun j hj => ?_
          have hj' : j < k := by have := HLEN.out; omega
          rw [List.getElem?_take, if_pos hj']
          exact HA.out j hj'
        refine hR.out _ _ ⟨?_, ?_⟩
        · rw [if_pos hz, ← HVE.out]; rfl
        · exact ((Upd.refl (fun b => b = g) wr).setCell (p := ⟨g, 0, none⟩) (fun _ => rfl) _).setCell (p := ⟨g, 1, none⟩) (fun _ => rfl) _
  · have hcPI : (P : Int) < c := by have := HCP.out; omega
    clear hcP'
    go_enter Try.func44, Try.ntmps44
    go_wp2_with fail
    go_loopg [4] P (fun mm i wr => wr = w ∧ ∃ k : Nat, k + mm = P ∧ i = .int .i64 k ∧ ∀ j, j < k → (L.drop fr)[j]? = some false)
    case atStart => exact ⟨rfl, 0, by omega, rfl, fun j hj => by omega⟩
    case round =>
      obtain ⟨rfl, k, hk, rfl, hall⟩ := hrel
      have HK := hide hk
      have HA := hide hall
      clear hk hall
      by_cases hlt : k < P
      · have hgo := HGO.out k hlt
        obtain ⟨b, o, hkl, rfl, hb, hcell⟩ := HR.out.bool (k := k) (by omega)
        have hget : (L.drop fr)[k]? = some (L.drop fr)[k] := List.getElem?_eq_getElem hkl
        have hkm : (k : Int) < m := by omega
        generalize (L.drop fr)[k] = bb at *
        have HG := hide hget
        clear hget hkl
        cases bb
        · go_wp2_with fail
          go_roundg (gk - 1)
          case measure => have := HK.out; omega
          case rel => exact ⟨rfl, k + 1, by have := HK.out; omega, by go_num, fun j hj => by
            rcases Nat.lt_or_ge j k with h | h
            · exact HA.out j h
            · obtain rfl : j = k := by omega
              exact HG.out⟩
        · go_wp2_with fail
          try go_ret2
          have hne : ¬ V = 0 := by
            intro h0
            rw [HV.out] at h0
            have h1 := valB_zero_get h0 (j := k) (by rw [HLEN.out]; exact hlt)
            rw [List.getElem?_take, if_pos hlt, HG.out] at h1
            cases h1
          exact hR.out _ _ ⟨by rw [if_neg hne]; rfl, Upd.refl _ _⟩
      · obtain rfl : k = P := by have := HK.out; omega
        have hend := HE.out
        go_wp2_with fail
        try go_ret2
        have hz : V = 0 := by
          rw [HV.out]
          refine valB_of_falses fun j hj => ?_
          have hj' : j < k := by have := HLEN.out; omega
          rw [List.getElem?_take, if_pos hj']
          exact HA.out j hj'
        refine hR.out _ _ ⟨?_, ?_⟩
        · rw [if_pos hz, ← HVE.out]; rfl
        · exact ((Upd.refl (fun b => b = g) wr).setCell (p := ⟨g, 0, none⟩) (fun _ => rfl) _).setCell (p := ⟨g, 1, none⟩) (fun _ => rfl) _

end Go.Proofs.Ytbnicnindggimaa
