/-
  Package desc, the reading side: the reader's methods.
  Conditions: none beyond those of each theorem.
-/
import Derived.Test.YtbnicnindggimaaNum
import Derived.Test.YtbnicnindggimaaDescEnc
import Derived.Test.YtbnicnindggimaaDescRead
import Derived.Test.YtbnicnindggimaaAppZ
namespace Go.Proofs.Ytbnicnindggimaa
open Go.RowKit

/-- a reader at block g, its bit reader at block gf -/
def RdrAt (w : World) (F : Nat → Prop) (g gf : Nat) (bs : List Nat) (σ : St) : Prop :=
  Blk w g 65 #[.pointer (some ⟨gf, 0, none⟩), .int .i64 σ.e] ∧ FwdAt w F gf bs σ.fr ∧ (∀ b, F b → b ≠ gf ∧ b ≠ g) ∧ 0 ≤ σ.e ∧ σ.e ≤ 100

/-- the reader's two blocks -/
def Two (g gf : Nat) (b : Nat) : Prop := b = g ∨ b = gf

theorem FwdAt.blk {w : World} {F : Nat → Prop} {g : Nat} {bs : List Nat} {fr : Nat} (h : FwdAt w F g bs fr) : ∃ cs, Blk w g 93 cs := by
  obtain ⟨A, c, hb, _⟩ := h
  exact ⟨_, hb⟩
theorem RdrAt.ne_ {w : World} {F : Nat → Prop} {g gf : Nat} {bs : List Nat} {σ : St} (h : RdrAt w F g gf bs σ) : g ≠ gf := by
  obtain ⟨h1, h2, _⟩ := h
  obtain ⟨cs, h3⟩ := h2.blk
  exact h1.ne_ h3 (by decide)
theorem FwdAt.bound {w : World} {F : Nat → Prop} {g : Nat} {bs : List Nat} {fr : Nat} (h : FwdAt w F g bs fr) : fr ≤ 8 * bs.length ∧ bs.length ≤ 2 ^ 32 := by
  obtain ⟨A, c, hb, hr, _, h1, h2⟩ := h
  exact ⟨h1, h2⟩
theorem RdrAt.upd {w w' : World} {F S : Nat → Prop} {g gf : Nat} {bs : List Nat} {σ : St} (h : RdrAt w F g gf bs σ) (hu : Upd S w w') (hg : ¬ S g) (hgf : ¬ S gf) (hF : ∀ b, F b → ¬ S b) : RdrAt w' F g gf bs σ :=
  ⟨h.1.upd hu hg, h.2.1.upd hu hgf hF, h.2.2⟩
theorem RdrAt.fresh {w w' : World} {F : Nat → Prop} {g gf : Nat} {bs : List Nat} {σ : St} (h : RdrAt w F g gf bs σ) (hu : Fresh w w') : RdrAt w' F g gf bs σ :=
  h.upd hu (fun h => h) (fun h => h) (fun _ _ h => h)

set_option maxRecDepth 100000 in
set_option maxHeartbeats 1000000 in
theorem must_any (F : Nat → Prop) (g gf : Nat) (bs : List Nat) (σ : St) (h : Bool) (e : Int) (w : World) (hr : RdrAt w F g gf bs σ) (he : 0 ≤ e ∧ e ≤ 100) (he0 : h = false → e ≠ 0) :
    Calls Try.prog 50 #[.pointer (some ⟨g, 0, none⟩), .bool h, .int .i64 e] w fun e' w' => e' = .returned (.bool (mustS h e σ).1) ∧ Upd (Two g gf) w w' ∧ RdrAt w' F g gf bs (mustS h e σ).2 := by
  obtain ⟨hb, hf, hF, h0, h1⟩ := hr
  have hne := RdrAt.ne_ ⟨hb, hf, hF, h0, h1⟩
  have hc := hb.cell 1
  have hz := hb.frozen 1
  simp at hc
  have HB := hide hb
  clear hb
  obtain ⟨fr, se⟩ := σ
  simp only at hc hf h0 h1
  refine veil fun R hR => ?_
  by_cases hs : se = 0
  · subst hs
    cases h
    · have ez : (e == 0) = false := by simpa using he0 rfl
      go_enter Try.func50, Try.ntmps50
      go_wp2
      try go_ret
      refine hR.out _ _ ⟨by simp [mustS], (Upd.refl _ w).setCell (p := ⟨g, 1, none⟩) (fun _ => .inl rfl) _, ?_⟩
      refine ⟨by simpa [mustS] using HB.out.set_ 1 (.int .i64 e), ?_, hF, he⟩
      exact hf.upd (S := fun b => b = g) ((Upd.refl (fun b => b = g) w).setCell (p := ⟨g, 1, none⟩) (fun _ => rfl) _) (fun h => hne h.symm) (fun b hb e => (hF b hb).2 e)
    · go_enter Try.func50, Try.ntmps50
      go_wp2
      try go_ret
      exact hR.out _ _ ⟨by simp [mustS], Upd.refl _ w, HB.out, hf, hF, by simp [mustS]⟩
  · have hs' : (se == 0) = false := by simpa using hs
    go_enter Try.func50, Try.ntmps50
    go_wp2
    try go_ret
    exact hR.out _ _ ⟨by simp [mustS, hs], Upd.refl _ w, by simpa [mustS, hs] using HB.out, by simpa [mustS, hs] using hf, hF, by simpa [mustS, hs] using ⟨h0, h1⟩⟩

set_option maxRecDepth 100000 in
set_option maxHeartbeats 1000000 in
theorem take_any (F : Nat → Prop) (g gf : Nat) (bs : List Nat) (σ : St) (n : Nat) (w : World) (hr : RdrAt w F g gf bs σ) (hn : n ≤ 62) :
    Calls Try.prog 49 #[.pointer (some ⟨g, 0, none⟩), .int .i64 n] w fun e' w' => e' = .returned (.int .i64 (takeS (rowB bs) n σ).1) ∧ Upd (Two g gf) w w' ∧ RdrAt w' F g gf bs (takeS (rowB bs) n σ).2 := by
  obtain ⟨hb, hf, hF, h0, h1⟩ := hr
  have hne := RdrAt.ne_ ⟨hb, hf, hF, h0, h1⟩
  have hc := hb.cell 1
  have hc0 := hb.cell 0
  simp at hc hc0
  have HB := hide hb
  clear hb
  obtain ⟨fr, se⟩ := σ
  simp only at hc hf h0 h1
  refine veil fun R hR => ?_
  by_cases hs : se = 0
  · subst hs
    by_cases hfit : fr + n ≤ 8 * bs.length
    · have htk := take_ok F gf bs fr n w hf (by omega) hfit (fun b hb => (hF b hb).1)
      have HT := hide htk
      clear htk
      go_enter Try.func49, Try.ntmps49
      go_wp2_with fail
      refine HT.out.mono ?_
      rintro e w1 ⟨rfl, u1, f1⟩
      have r1 : RdrAt w1 F g gf bs ⟨fr + n, 0⟩ := ⟨HB.out.upd u1 hne, f1, hF, by omega, by omega⟩
      have hmu := must_any F g gf bs ⟨fr + n, 0⟩ true 0 w1 r1 (by omega) (fun h => by cases h)
      have HM := hide hmu
      have U1 := hide u1
      have hV : valR bs / 2 ^ fr % 2 ^ n < 2 ^ 62 := Nat.lt_of_lt_of_le (Nat.mod_lt _ (Nat.two_pow_pos n)) (Nat.pow_le_pow_right (by omega) hn)
      have hts : takeS (rowB bs) n ⟨fr, 0⟩ = (valR bs / 2 ^ fr % 2 ^ n, ⟨fr + n, 0⟩) := by
        unfold takeS
        rw [if_neg (by simp), if_pos (by simpa using hfit)]
        simp only [valR_part]
      have hms : mustS true 0 ⟨fr + n, 0⟩ = (true, ⟨fr + n, 0⟩) := rfl
      rw [hms] at hmu
      rw [hts] at hR
      have HM := hide hmu
      clear hmu r1 u1 f1 hts hms HT
      generalize valR bs / 2 ^ fr % 2 ^ n = V at *
      have hV1 : (V : Int) < 4611686018427387904 := by have : (2 : Nat) ^ 62 = 4611686018427387904 := by decide
                                                       omega
      have hV0 : wrap64 (V : Int) = V := by unfold wrap64; omega
      clear hV
      go_wp2_with fail
      refine HM.out.mono ?_
      rintro e w2 ⟨rfl, u2, r2⟩
      have R2 := hide r2
      have U2 := hide u2
      clear r2 u2
      go_wp2_with fail
      try go_ret
      exact hR.out _ _ ⟨rfl, (U1.out.mono (fun b _ h => Or.inr h)).trans' U2.out, R2.out⟩
    · have htk := take_short F gf bs fr n w hf (by omega) (by omega)
      have HT := hide htk
      clear htk
      have hts : takeS (rowB bs) n ⟨fr, 0⟩ = (0, ⟨fr, 3⟩) := by
        unfold takeS
        rw [if_neg (by simp), if_neg (by simpa using hfit)]
      rw [hts] at hR
      clear hts
      go_enter Try.func49, Try.ntmps49
      go_wp2_with fail
      refine HT.out.mono ?_
      rintro e w1 ⟨rfl, f1⟩
      have r1 : RdrAt w1 F g gf bs ⟨fr, 0⟩ := ⟨HB.out.fresh f1, hf.fresh f1, hF, by omega, by omega⟩
      have hmu := must_any F g gf bs ⟨fr, 0⟩ false 3 w1 r1 (by omega) (fun _ => by omega)
      have hms : mustS false 3 ⟨fr, 0⟩ = (false, ⟨fr, 3⟩) := rfl
      rw [hms] at hmu
      have HM := hide hmu
      have U1 := hide f1
      clear hmu hms r1 f1 HT
      go_wp2_with fail
      refine HM.out.mono ?_
      rintro e w2 ⟨rfl, u2, r2⟩
      have R2 := hide r2
      have U2 := hide u2
      clear r2 u2
      go_wp2_with fail
      try go_ret
      exact hR.out _ _ ⟨rfl, (U1.out.mono (fun b _ h => h.elim)).trans' U2.out, R2.out⟩
  · have hs' : (se != 0) = true := by simpa using hs
    go_enter Try.func49, Try.ntmps49
    go_wp2
    try go_ret
    exact hR.out _ _ ⟨by simp [takeS, hs], Upd.refl _ w, by simpa [takeS, hs] using HB.out, by simpa [takeS, hs] using hf, hF, by simpa [takeS, hs] using ⟨h0, h1⟩⟩

set_option maxRecDepth 100000 in
set_option maxHeartbeats 1000000 in
theorem rnumber_any (F : Nat → Prop) (g gf : Nat) (bs : List Nat) (σ : St) (m : Nat) (w : World) (hr : RdrAt w F g gf bs σ) (h0 : 1 ≤ m) (hm : m ≤ 100000) :
    Calls Try.prog 51 #[.pointer (some ⟨g, 0, none⟩), .int .i64 m, .func (.func 49) #[.pointer (some ⟨g, 0, none⟩)] #[]] w fun e' w' =>
      e' = .returned (.int .i64 (numberS (rowB bs) m σ).1) ∧ Upd (Two g gf) w w' ∧ RdrAt w' F g gf bs (numberS (rowB bs) m σ).2 := by
  have hc := cut_bounds m (by omega) (by omega)
  have hlt := cutB_le m 17 (by omega) (by omega) (by omega)
  have hcut := cut_any m w h0 hm
  have hu : cutU m = 2 ^ (cutB m + 1) - m := rfl
  have hdef : numberS (rowB bs) m σ = if (takeS (rowB bs) (cutB m) σ).1 < cutU m then takeS (rowB bs) (cutB m) σ
      else (2 * (takeS (rowB bs) (cutB m) σ).1 + (takeS (rowB bs) 1 (takeS (rowB bs) (cutB m) σ).2).1 - cutU m, (takeS (rowB bs) 1 (takeS (rowB bs) (cutB m) σ).2).2) := rfl
  have hu2 : cutU m ≤ 2 ^ cutB m := by rw [hu, Nat.pow_succ]; omega
  have htk := fun w' (h' : RdrAt w' F g gf bs σ) => take_any F g gf bs σ (cutB m) w' h' (by omega)
  have ht1 := takeS_lt (rowB bs) (cutB m) σ
  rw [hdef]
  generalize takeS (rowB bs) (cutB m) σ = X at *
  have htk2 := fun w' (h' : RdrAt w' F g gf bs X.2) => take_any F g gf bs X.2 1 w' h' (by omega)
  have ht2 := takeS_lt (rowB bs) 1 X.2
  generalize takeS (rowB bs) 1 X.2 = Y at *
  obtain ⟨t, σ1⟩ := X
  obtain ⟨c, σ2⟩ := Y
  simp only at ht1 ht2 htk htk2 ⊢
  have h17 : 2 ^ cutB m ≤ 2 ^ 16 := Nat.pow_le_pow_right (by omega) (by omega)
  have HC := hide hcut
  have HT := hide htk
  have HT2 := hide htk2
  have hr0 := fun k => show RdrAt (w.drewN k) F g gf bs σ from hr
  have HR := hide hr0
  clear hcut htk htk2 hr hr0 hu hdef hc
  generalize cutU m = u at *
  generalize cutB m = b at *
  have tI : (t : Int) ≤ 65536 := by omega
  have cI : (c : Int) ≤ 1 := by omega
  have uI : (u : Int) ≤ 65536 := by omega
  refine veil fun R hR => ?_
  by_cases hcs : t < u
  · rw [if_pos hcs] at hR
    go_enter Try.func51, Try.ntmps51
    go_wp2_with (go_at_call 62; refine HC.out.mono ?_; rintro e w' ⟨rfl, kk, rfl⟩)
    refine (HT.out _ (HR.out kk)).mono ?_
    rintro e w1 ⟨rfl, u1, r1⟩
    have R1 := hide r1
    clear r1
    go_wp2
    try go_ret
    exact hR.out _ _ ⟨by rfl, ((Upd.refl _ w).drewN kk).trans' u1, R1.out⟩
  · rw [if_neg hcs] at hR
    have e1 : ((2 * t + c - u : Nat) : Int) = 2 * t + c - u := by omega
    have E1 := hide e1
    clear e1
    go_enter Try.func51, Try.ntmps51
    go_wp2_with (go_at_call 62; refine HC.out.mono ?_; rintro e w' ⟨rfl, kk, rfl⟩)
    refine (HT.out _ (HR.out kk)).mono ?_
    rintro e w1 ⟨rfl, u1, r1⟩
    have R1 := hide r1
    clear r1
    go_wp2_with fail
    refine (HT2.out _ R1.out).mono ?_
    rintro e w2 ⟨rfl, u2, r2⟩
    have R2 := hide r2
    clear r2
    go_wp2
    try go_ret
    exact hR.out _ _ ⟨ret_int (by rw [E1.out]), (((Upd.refl _ w).drewN kk).trans' u1).trans' u2, R2.out⟩

theorem RdrAt.lt {w : World} {F : Nat → Prop} {g gf : Nat} {bs : List Nat} {σ : St} (h : RdrAt w F g gf bs σ) : g < w.heap.size ∧ gf < w.heap.size := by
  obtain ⟨h1, h2, _⟩ := h
  obtain ⟨cs, h3⟩ := h2.blk
  exact ⟨h1.lt, h3.lt⟩

def zerosV (k : Nat) : List Value := List.replicate k (.int .i64 0)

set_option maxRecDepth 100000 in
set_option maxHeartbeats 2000000 in
theorem noughts_any (F : Nat → Prop) (g gf : Nat) (bs : List Nat) (σ : St) (room : Int) (w : World) (hr : RdrAt w F g gf bs σ) (hroom : room ≤ 256) (hroom' : -1000000 ≤ room) (hF : ∀ b, F b → b < w.heap.size) :
    Calls Try.prog 52 #[.pointer (some ⟨g, 0, none⟩), .int .i64 room, .func (.func 49) #[.pointer (some ⟨g, 0, none⟩)] #[]] w fun e' w' =>
      ∃ v, e' = .returned v ∧ Own w' 3 v (zerosV (noughtsS room (rowB bs) 300 3 0 σ).1) ∧ Upd (Two g gf) w w' ∧ RdrAt w' F g gf bs (noughtsS room (rowB bs) 300 3 0 σ).2 ∧
        (∀ b, v.ownBlock = some b → w.heap.size ≤ b) ∧ (noughtsS room (rowB bs) 300 3 0 σ).1 ≤ 300 := by
  obtain ⟨T, hT⟩ : ∃ T, T = noughtsS room (rowB bs) 300 3 0 σ := ⟨_, rfl⟩
  rw [← hT]
  have HT := hide hT
  have HR := hide hr
  clear hr hT
  refine veil fun R hR => ?_
  go_enter Try.func52, Try.ntmps52
  go_wp2_with fail
  go_loopg [6, 7] 300 (fun f vl vk wr => ∃ (k len : Nat) (σ' : St), vk = .int .i64 k ∧ Own wr 3 vl (zerosV len) ∧ Upd (Two g gf) w wr ∧ RdrAt wr F g gf bs σ' ∧ (∀ b, vl.ownBlock = some b → w.heap.size ≤ b) ∧
    noughtsS room (rowB bs) f k len σ' = T ∧ k ≤ 3 ∧ len ≤ 300 ∧ (k = 3 → len + 3 * f ≤ 900 ∧ 900 ≤ len + 3 * f))
  case atStart => exact ⟨3, 0, σ, rfl, Own.nil _ _, Upd.refl _ _, HR.out, by simp [Value.ownBlock], HT.out.symm, by omega, by omega, by omega⟩
  case round =>
    obtain ⟨k, len, σ', rfl, ho, hu, hrd, hbl, htot, hk3, hlen, hinv⟩ := hrel
    obtain ⟨A, n, c, rfl, hn⟩ := ho.form'
    have hnl : n = len := by simpa [zerosV] using hn.out
    subst hnl
    have HO := hide ho
    have HRD := hide hrd
    have HTOT := hide htot
    have HU := hide hu
    have HBL := hide hbl
    have HINV := hide hinv
    clear ho hrd htot hu hbl hn hinv
    by_cases hk : k = 3
    · subst hk
      obtain ⟨hi1, hi2⟩ := HINV.out rfl
      obtain ⟨f, rfl⟩ : ∃ f, gk = f + 1 := ⟨gk - 1, by omega⟩
      have hnI : (n : Int) ≤ 300 := by omega
      have hm := must_any F g gf bs σ' (decide ((n : Int) < room)) 13 wr HRD.out (by omega) (by omega)
      have ht := HTOT.out
      simp only [noughtsS, if_true] at ht
      by_cases hok : (mustS (decide ((n : Int) < room)) 13 σ').1 = true
      · obtain ⟨he1, he2⟩ := mustS_e hok
        rw [if_pos hok, he1] at ht
        rw [hok, he1, he2] at hm
        have hltr : (n : Int) < room := by simpa using he2
        have htk := takeS_lt (rowB bs) 2 σ'
        have hcall := fun w' (h' : RdrAt w' F g gf bs σ') => take_any F g gf bs σ' 2 w' h' (by omega)
        generalize takeS (rowB bs) 2 σ' = X at *
        obtain ⟨x, σ2⟩ := X
        simp only at ht htk hcall
        have HM := hide hm
        have HC := hide hcall
        have HT2 := hide ht
        clear hm hcall ht he1 he2 hok
        have hxI : (x : Int) ≤ 3 := by omega
        go_wp2_with fail
        refine HM.out.mono ?_
        rintro e w1 ⟨rfl, u1, r1⟩
        have R1 := hide r1
        have U1 := hide (HU.out.trans' u1)
        have hlt0 := HR.out.lt
        have hgl : ∀ b, (Value.slice A n c).ownBlock = some b → ¬ Two g gf b := fun b hb h => by have := HBL.out b hb; rcases h with h | h <;> omega
        have O1 := hide (HO.out.upd u1 hgl)
        clear r1 u1
        go_wp2_with fail
        refine (HC.out _ R1.out).mono ?_
        rintro e w2 ⟨rfl, u2, r2⟩
        have R2 := hide r2
        have U2 := hide (U1.out.trans' u2)
        have O2 := hide (O1.out.upd u2 hgl)
        clear r2 u2 R1 U1 O1
        go_wp2_with (at_builtin; go_must (refine wpList_app_zeros _ rfl (.tmp 20) (.tmp 21) _ _ rfl 3 (.int .i64 0) 8 .i64 .i64 Try.underlying22 Try.underlying3 infoInt rfl rfl _ _ rfl O2.out x rfl (by omega) (by simp [zerosV]; omega) ?_))
        intro v' w3 o3 g3 a3
        have u3 : Upd (fun b => (Value.slice A n c).ownBlock = some b) w2 w3 := (Upd.refl _ _).grown g3 (fun k hk _ => hk)
        have R3 := hide (R2.out.upd u3 (fun h => hgl _ h (.inl rfl)) (fun h => hgl _ h (.inr rfl)) (fun b hb h => by have h1 := hF b hb; have h2 := HBL.out b h; omega))
        have U3 := hide (U2.out.trans u3 (fun b hb h => by have := HBL.out b h; omega))
        have B3 := hide (own_S (S := fun k => w.heap.size ≤ k) a3 HBL.out (U2.out.size))
        have O3 := hide o3
        clear o3 g3 a3 u3 R2 U2 O2
        go_wp2
        go_roundg f
        case measure => omega
        case rel =>
          refine ⟨x, n + x, σ2, rfl, ?_, U3.out, R3.out, B3.out, HT2.out, by omega, by omega, by omega⟩
          have := O3.out
          simpa [zerosV, List.replicate_append_replicate] using this
      · rw [if_neg hok] at ht
        have hok' : (mustS (decide ((n : Int) < room)) 13 σ').1 = false := by simpa using hok
        rw [hok'] at hm
        have HM := hide hm
        have HT2 := hide ht
        clear hm ht hok hok'
        go_wp2_with fail
        refine HM.out.mono ?_
        rintro e w1 ⟨rfl, u1, r1⟩
        have R1 := hide r1
        have U1 := hide (HU.out.trans' u1)
        have hlt0 := HR.out.lt
        have hgl : ∀ b, (Value.slice A n c).ownBlock = some b → ¬ Two g gf b := fun b hb h => by have := HBL.out b hb; rcases h with h | h <;> omega
        have O1 := hide (HO.out.upd u1 hgl)
        clear r1 u1
        go_wp2
        try go_ret
        have := HT2.out
        refine hR.out _ _ ⟨_, rfl, ?_, U1.out, ?_, HBL.out, ?_⟩
        · rw [← this]; exact O1.out
        · rw [← this]; exact R1.out
        · rw [← this]; exact hlen
    · have hk' : ((k : Int) == 3) = false := by simp; omega
      have ht := HTOT.out
      have ht2 : (n, σ') = T := by
        rw [← ht]
        cases gk with
        | zero => rfl
        | succ f => simp [noughtsS, hk]
      go_wp2
      try go_ret
      refine hR.out _ _ ⟨_, rfl, ?_, HU.out, ?_, HBL.out, ?_⟩
      · rw [← ht2]; exact HO.out
      · rw [← ht2]; exact HRD.out
      · rw [← ht2]; exact hlen

end Go.Proofs.Ytbnicnindggimaa
