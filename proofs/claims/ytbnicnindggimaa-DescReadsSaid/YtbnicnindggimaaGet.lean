/-
  The reference of descriptions: Get.
  Conditions: none beyond those of each theorem.
-/
import Derived.Test.YtbnicnindggimaaRefNorms
import Derived.Test.YtbnicnindggimaaDescDecode
namespace Go.Proofs.Ytbnicnindggimaa
open Go.RowKit
set_option linter.unusedVariables false
set_option linter.unusedSimpArgs false

theorem results_cell_tmp2_row {P : Program} {fn : Func} {p u v : Tmp} {ty : TypeId} (h : fn.results = #[.cell p ty, .tmp u, .tmp v]) (tmps : Array Value) (w : World) (g : Nat) (t : TypeId) (cs : Array Value) (d : TypeDesc)
    (hp : tmps.getD p undef = .pointer (some ⟨g, 0, none⟩)) (hg : Blk w g t cs)
    (hu : P.underlying ty = some d) (hd : (match d with | .struct _ | .array _ _ => true | _ => false) = true) (hi : (P.info? ty).map (·.size) = some cs.size) :
    (results fn tmps).run P w = .ok (.tuple #[.agg cs, tmps.getD u undef, tmps.getD v undef]) w := by
  have hl := run_loadVar_row w g t ty cs (0, 0) d hg hu hd hi
  have e : (results fn tmps).run P w =
      ((asAddr (tmps.getD p undef)).run P w).andThen fun a w₁ => ((loadVar ty a).run P w₁).andThen fun x w₂ => .ok (.tuple #[x, tmps.getD u undef, tmps.getD v undef]) w₂ := by
    simp only [results, h]
    simp [Sem.run_bind, Result.andThen]
  rw [e, hp]
  simp [asAddr, hl, Result.andThen]

/-- what Get leaves -/
def GetPost (bs : List Nat) (sy lb : Int) (w : World) (e : Ending) (w' : World) : Prop :=
  Fresh w w' ∧ match decodeS sy lb (rowB bs) with
    | .error x => e = .returned (.tuple #[.agg #[.int .i64 0, .slice none 0 0], .int .i64 0, .int .i64 x])
    | .ok (p, N, k) => ∃ v, e = .returned (.tuple #[.agg #[.int .i64 p, v], .int .i64 k, .int .i64 0]) ∧ Own w' 3 v (ints N) ∧ (∀ b, v.ownBlock = some b → w.heap.size ≤ b) ∧ N.length ≤ 1000

theorem GetPost.err {bs : List Nat} {sy lb : Int} {w w' : World} {e : Ending} (f : Fresh w w') (x : Int) (hd : decodeS sy lb (rowB bs) = .error x) (he : e = .returned (.tuple #[.agg #[.int .i64 0, .slice none 0 0], .int .i64 0, .int .i64 x])) :
    GetPost bs sy lb w e w' := by
  refine ⟨f, ?_⟩
  rw [hd]
  exact he

theorem GetPost.ok {bs : List Nat} {sy lb : Int} {w w' : World} {e : Ending} (f : Fresh w w') {p k : Nat} {N : List Int} {v : Value} (hd : decodeS sy lb (rowB bs) = .ok (p, N, k)) (he : e = .returned (.tuple #[.agg #[.int .i64 p, v], .int .i64 k, .int .i64 0]))
    (ho : Own w' 3 v (ints N)) (hk : ∀ b, v.ownBlock = some b → w.heap.size ≤ b) (hl : N.length ≤ 1000) : GetPost bs sy lb w e w' := by
  refine ⟨f, ?_⟩
  rw [hd]
  exact ⟨v, he, ho, hk, hl⟩

theorem dec_short {sy lb : Int} {L : List Bool} (h : takeS L 4 ⟨0, 0⟩ = (0, ⟨0, 3⟩)) : decodeS sy lb L = .error 3 := by
  unfold decodeS readS
  simp only [h, mustS]
  simp
theorem dec_log {sy lb : Int} {L : List Bool} {x : Nat} (h : takeS L 4 ⟨0, 0⟩ = (x, ⟨4, 0⟩)) (hx : ¬ ((x : Int) + 1 ≤ min lb 9)) : decodeS sy lb L = .error 13 := by
  unfold decodeS readS
  simp only [h, mustS, decide_eq_false hx]
  simp
theorem dec_tab {sy lb : Int} {L : List Bool} {x : Nat} (h : takeS L 4 ⟨0, 0⟩ = (x, ⟨4, 0⟩)) (hx : (x : Int) + 1 ≤ min lb 9) :
    decodeS sy lb L = if (tableS (min sy 256) L 600 (2 ^ (x + 1)) [] false ⟨4, 0⟩).2.e ≠ 0 then .error (tableS (min sy 256) L 600 (2 ^ (x + 1)) [] false ⟨4, 0⟩).2.e
      else if padV L (tableS (min sy 256) L 600 (2 ^ (x + 1)) [] false ⟨4, 0⟩).2.fr ≠ 0 then .error 14
      else .ok (x + 1, (tableS (min sy 256) L 600 (2 ^ (x + 1)) [] false ⟨4, 0⟩).1, ((tableS (min sy 256) L 600 (2 ^ (x + 1)) [] false ⟨4, 0⟩).2.fr + (8 - (tableS (min sy 256) L 600 (2 ^ (x + 1)) [] false ⟨4, 0⟩).2.fr % 8) % 8) / 8) := by
  unfold decodeS readS
  simp only [h, mustS, decide_eq_true hx, if_true]
  rfl

theorem RefAt.both {w : World} {F : Nat → Prop} {g : Nat} {L : List Bool} {fr : Nat} (h : RefAt w F g L fr) : RefAt w (fun b => F b ∧ b < w.heap.size) g L fr := by
  obtain ⟨A, c, h1, h2, h3⟩ := h
  exact ⟨A, c, h1, h2.both, h3⟩
theorem RefAt.lt {w : World} {F : Nat → Prop} {g : Nat} {L : List Bool} {fr : Nat} (h : RefAt w F g L fr) : g < w.heap.size := by
  obtain ⟨A, c, h1, _⟩ := h
  exact h1.lt

theorem wrap_x (x : Nat) (h : x < 2 ^ 4) : wrap64 (x : Int) = x := by unfold wrap64; omega

theorem slice_zero (A : Option Addr) : A.map (fun x => x.add 0) = A := by cases A <;> rfl

set_option maxRecDepth 100000 in
set_option maxHeartbeats 8000000 in
theorem rget11_any (F : Nat → Prop) (A : Option Addr) (n c : Nat) (bs : List Nat) (sy lb : Int) (w : World) (hr : Rd w F A n (bytes bs)) (hlt : ∀ b ∈ bs, b < 256) (hn : n ≤ 500) (hcap : n ≤ c) :
    Calls Try.prog 22 #[.slice A n c, .int .i64 0, .int .i64 sy, .int .i64 lb] w (GetPost bs sy lb w) := by
  have hL : bs.length = n := by have := hr.1; simpa using this
  have hnI : (n : Int) ≤ 500 := by omega
  have hncI : (n : Int) ≤ c := by omega
  obtain ⟨w0, hw0⟩ : ∃ w0, w0 = w.alloc (.cells #[.int .i64 0, .slice none 0 0] 24) := ⟨_, rfl⟩
  obtain ⟨H, hH⟩ : ∃ H, H = w.heap.size := ⟨_, rfl⟩
  have fr0 : Fresh w w0 := by rw [hw0]; exact (Upd.refl _ _).alloc _
  have b0 : Blk w0 H 24 #[.int .i64 0, .slice none 0 0] := by rw [hw0]; exact blk_new hH _ _
  have hfw := rforward_any F A n c bs w0 (hr.fresh fr0) hlt (by omega)
  have HFW := hide hfw
  obtain ⟨L, hLd⟩ : ∃ L, L = rowB bs := ⟨_, rfl⟩
  have hL40 : L.length ≤ 2 ^ 40 := by rw [hLd, rowB_length]; omega
  have hL8 : L.length % 8 = 0 := by rw [hLd, rowB_length]; omega
  have HLD := hide hLd
  have B0 := hide b0
  have F0 := hide fr0
  have HW := hide hw0
  have HH := hide hH
  have HL40 := hide hL40
  have HL8 := hide hL8
  have hsz := hide (slice_zero A)
  clear hr hlt hw0 hH fr0 b0 hfw hLd hL40 hL8 hL
  refine veil fun R hR => ?_
  have hc0 : (n = 0 ∧ c = 0) ∨ 0 < (c : Int) := by omega
  rcases hc0 with ⟨rfl, rfl⟩ | hc0
  all_goals
    go_enter Try.func22, Try.ntmps22
    go_wp2_with fail
    simp only [← HH.out, ← HW.out]
    refine HFW.out.mono ?_
    rintro e w1 ⟨g, rfl, f1, hg, r1⟩
    rw [← HLD.out] at r1
    have r1b := r1.both
    have hg1 := r1.lt
    have hF1 : ∀ b, ((w0.heap.size ≤ b ∧ b ≠ g) ∧ b < w1.heap.size) → b ≠ g := fun b h => h.1.2
    have hF2 : ∀ b, ((w0.heap.size ≤ b ∧ b ≠ g) ∧ b < w1.heap.size) → b < w1.heap.size := fun b h => h.2
    have hF3 : ∀ b, ((w0.heap.size ≤ b ∧ b ≠ g) ∧ b < w1.heap.size) → w0.heap.size ≤ b := fun b h => h.1.1
    obtain ⟨FF, hFF⟩ : ∃ FF : Nat → Prop, FF = fun b => ((w0.heap.size ≤ b ∧ b ≠ g) ∧ b < w1.heap.size) := ⟨_, rfl⟩
    rw [← hFF] at r1b
    have hF1' : ∀ b, FF b → b ≠ g := by rw [hFF]; exact hF1
    have hF2' : ∀ b, FF b → b < w1.heap.size := by rw [hFF]; exact hF2
    have hHg : H < w0.heap.size := B0.out.lt
    have hfst := rfirst_any FF g L 0 4 w1 r1b (by omega) HL40.out hF1'
    have HG1 := hide hF1'
    have HG2 := hide hF2'
    have F1 := hide f1
    have B1 := hide (B0.out.fresh f1)
    have hxx : takeS L 4 ⟨0, 0⟩ = (0, ⟨0, 3⟩) ∨ ∃ x, takeS L 4 ⟨0, 0⟩ = (x, ⟨4, 0⟩) := by
      by_cases hs : 0 + 4 ≤ L.length
      · exact .inr ⟨_, takeS_ok hs⟩
      · exact .inl (takeS_no (by omega))
    have hx16 := takeS_lt L 4 ⟨0, 0⟩
    have hds := @dec_short sy lb L
    have hdl := @dec_log sy lb L
    have hdt := @dec_tab sy lb L
    obtain ⟨X, hX⟩ : ∃ X, X = takeS L 4 ⟨0, 0⟩ := ⟨_, rfl⟩
    simp only [← hX] at hfst hxx hx16 hds hdl hdt
    clear hX r1 r1b f1 hF1 hF2 hF3 hFF hF1' hF2' HFW
    rcases hxx with rfl | ⟨x, rfl⟩
    · have hd := hds rfl
      rw [HLD.out] at hd
      have HD := hide hd
      have HFS := hide hfst
      clear hd hfst hx16 hds hdl hdt
      go_wp2_with fail
      refine HFS.out.mono ?_
      rintro e w2 ⟨rfl, u2, r2⟩
      have b2 := B1.out.upd u2 (by omega)
      have c0 := b2.cell 0
      have c1 := b2.cell 1
      have z0 := b2.frozen 0
      have z1 := b2.frozen 1
      simp at c0 c1
      have B2 := hide b2
      have U2 := hide u2
      clear u2 r2 b2
      go_wp2_with fail
      exact bodyPost_ret (results_cell_tmp2_row rfl _ _ H _ _ _ rfl ((B2.out.set_ 0 (.int .i64 0)).set_ 1 (.slice none 0 0)) Try.underlying24 rfl (by kernel_rfl)) rfl
        (hR.out _ _ (GetPost.err (((F0.out.trans' F1.out).trans U2.out (fun b hb h => by have := F0.out.size; omega)).trans (setTwo w2 H _ _) (fun b hb h => by have := HH.out; omega)) 3 HD.out rfl))
    · simp only at hfst hx16
      have HFS := hide hfst
      have hxI : (x : Int) ≤ 15 := by omega
      have hx64 := wrap_x x hx16
      have HX64 := hide hx64
      clear hfst hds hx64
      by_cases hlog : (x : Int) + 1 ≤ min lb 9
      · have hd := hdt rfl hlog
        have hx9 : x + 1 ≤ 9 := by omega
        have hp2 := pow_le_512 hx9
        have hsz := fun W => size_any (x + 1) W hx9
        obtain ⟨T, hT⟩ : ∃ T, T = tableS (min sy 256) L 600 (2 ^ (x + 1)) [] false ⟨4, 0⟩ := ⟨_, rfl⟩
        have hno := fun W (h : RefAt W FF g L 4) (hW : w1.heap.size ≤ W.heap.size) => rnorms_any FF g L 4 (2 ^ (x + 1)) (min sy 256) W h hp2 (by omega) HL40.out HG1.out (fun b hb => Nat.lt_of_lt_of_le (HG2.out b hb) hW) (Nat.lt_of_lt_of_le hg1 hW)
        simp only [← hT] at hd hno
        rw [show ((x + 1 : Nat) : Int) = (x : Int) + 1 by omega] at hsz
        rw [HLD.out] at hd
        rw [← HLD.out] at hd
        obtain ⟨q, hq⟩ : ∃ q, q = 2 ^ (x + 1) := ⟨_, rfl⟩
        rw [← hq] at hsz hno
        have hl1 : (x : Int) + 1 ≤ lb := by omega
        have hl2 : (x : Int) ≤ 8 := by omega
        have HD := hide hd
        have HNO := hide hno
        have HSZ := hide hsz
        obtain ⟨sm, hsm⟩ : ∃ sm, sm = min sy 256 := ⟨_, rfl⟩
        rw [← hsm] at HNO
        have HSM := hide hsm
        clear hd hno hsz hq hT hlog hdl hdt hp2 hx9 hsm
        have hx64 := HX64.out
        go_wp2_with fail
        refine HFS.out.mono ?_
        rintro e w2 ⟨rfl, u2, r2⟩
        have hs2 := u2.size
        have hno2 := HNO.out w2 r2 hs2
        have HNO2 := hide hno2
        have U2 := hide u2
        clear u2 r2 hs2 hno2 HNO
        go_wp2_with fail
        refine (HSZ.out _).mono ?_
        rintro e w3 ⟨rfl, rfl⟩
        go_wp2_with fail
        rw [← HSM.out]
        refine HNO2.out.mono ?_
        rintro e w4 ⟨v4, rfl, u4, h4⟩
        have U4 := hide (U2.out.trans' u4)
        have b4 := B1.out.upd U4.out (by omega)
        have B4 := hide b4
        obtain ⟨N, fr9, e9⟩ := T
        simp only at h4
        by_cases he9 : e9 = 0
        · subst he9
          obtain ⟨o4, k4, r4, hl4⟩ := h4 rfl
          obtain ⟨A4, n4, c4, rfl, hn4⟩ := o4.form'
          have hwh := rwhole_any FF g L fr9 w4 r4 HL8.out HL40.out
          have hk9 : (((fr9 + (8 - fr9 % 8) % 8) / 8 : Nat) : Int) ≤ 1099511627776 := by
            obtain ⟨_, _, _, _, h, _⟩ := r4
            have := HL40.out
            omega
          have hd := HD.out
          simp only [ne_eq, not_true_eq_false, if_false] at hd
          have HWH := hide hwh
          have HO4 := hide o4
          have HK4 := hide k4
          have HL4 := hide hl4
          clear o4 k4 r4 hl4 hn4 hwh h4 HD b4 u4
          by_cases hpv : padV L fr9 = 0
          · rw [if_neg (by simpa using hpv)] at hd
            rw [if_pos hpv] at HWH
            have HD := hide hd
            clear hd hpv
            go_wp2_with fail
            refine HWH.out.mono ?_
            rintro e w5 ⟨rfl, u5⟩
            have b5 := B4.out.upd u5 (by omega)
            have c0 := b5.cell 0
            have c1 := b5.cell 1
            have z0 := b5.frozen 0
            have z1 := b5.frozen 1
            simp at c0 c1
            have B5 := hide b5
            have U5 := hide u5
            clear u5 b5
            generalize (fr9 + (8 - fr9 % 8) % 8) / 8 = k9 at *
            have hs14 : w0.heap.size ≤ w2.heap.size := Nat.le_trans F1.out.size U2.out.size
            have hs12 : w1.heap.size ≤ w2.heap.size := U2.out.size
            go_wp2_with fail
            exact bodyPost_ret (results_cell_tmp2_row rfl _ _ H _ _ _ rfl ((B5.out.set_ 0 (.int .i64 ((x : Int) + 1))).set_ 1 (.slice A4 n4 c4)) Try.underlying24 rfl (by kernel_rfl)) rfl
              (hR.out _ _ (GetPost.ok (((F0.out.trans' F1.out).trans (U4.out.trans' U5.out) (fun b hb h => by have := F0.out.size; omega)).trans (setTwo w5 H _ _) (fun b hb h => by have := HH.out; omega)) (by rw [← HLD.out]; exact HD.out) rfl
                ((HO4.out.upd U5.out (fun b hb h => by have := HK4.out b hb; omega)).upd (setTwo w5 H _ _) (fun b hb h => by have := HK4.out b hb; omega)) (fun b hb => by have := HK4.out b hb; have := F0.out.size; omega) HL4.out))
          · rw [if_pos (by simpa using hpv)] at hd
            rw [if_neg hpv] at HWH
            have HD := hide hd
            clear hd hpv
            go_wp2_with fail
            refine HWH.out.mono ?_
            rintro e w5 ⟨rfl, u5⟩
            have b5 := B4.out.upd u5 (by omega)
            have c0 := b5.cell 0
            have c1 := b5.cell 1
            have z0 := b5.frozen 0
            have z1 := b5.frozen 1
            simp at c0 c1
            have B5 := hide b5
            have U5 := hide (U4.out.trans' u5)
            clear u5 b5
            go_wp2_with fail
            exact bodyPost_ret (results_cell_tmp2_row rfl _ _ H _ _ _ rfl ((B5.out.set_ 0 (.int .i64 0)).set_ 1 (.slice none 0 0)) Try.underlying24 rfl (by kernel_rfl)) rfl
              (hR.out _ _ (GetPost.err (((F0.out.trans' F1.out).trans U5.out (fun b hb h => by have := F0.out.size; omega)).trans (setTwo w5 H _ _) (fun b hb h => by have := HH.out; omega)) 14 (by rw [← HLD.out]; exact HD.out) rfl))
        · have he9' : (e9 != 0) = true := by simpa using he9
          have hd := HD.out
          simp only [ne_eq, he9, not_false_eq_true, if_true] at hd
          have HDE := hide hd
          have c0 := b4.cell 0
          have c1 := b4.cell 1
          have z0 := b4.frozen 0
          have z1 := b4.frozen 1
          simp at c0 c1
          clear h4 hd b4 u4 HD he9
          go_wp2_with fail
          exact bodyPost_ret (results_cell_tmp2_row rfl _ _ H _ _ _ rfl ((B4.out.set_ 0 (.int .i64 0)).set_ 1 (.slice none 0 0)) Try.underlying24 rfl (by kernel_rfl)) rfl
            (hR.out _ _ (GetPost.err (((F0.out.trans' F1.out).trans U4.out (fun b hb h => by have := F0.out.size; omega)).trans (setTwo w4 H _ _) (fun b hb h => by have := HH.out; omega)) e9 (by rw [← HLD.out]; exact HDE.out) rfl))
      · have hd := hdl rfl hlog
        have HD := hide (show decodeS sy lb (rowB bs) = .error 13 by rw [← HLD.out]; exact hd)
        have hcs : (lb : Int) < x + 1 ∨ ((x : Int) + 1 ≤ lb ∧ 8 < (x : Int)) := by omega
        clear hd hlog hdl hdt
        have hx64 := HX64.out
        rcases hcs with hc1 | ⟨hc1, hc2⟩
        all_goals
          go_wp2_with fail
          refine HFS.out.mono ?_
          rintro e w2 ⟨rfl, u2, r2⟩
          have b2 := B1.out.upd u2 (by omega)
          have c0 := b2.cell 0
          have c1 := b2.cell 1
          have z0 := b2.frozen 0
          have z1 := b2.frozen 1
          simp at c0 c1
          have B2 := hide b2
          have U2 := hide u2
          clear u2 r2 b2
          go_wp2_with fail
          exact bodyPost_ret (results_cell_tmp2_row rfl _ _ H _ _ _ rfl ((B2.out.set_ 0 (.int .i64 0)).set_ 1 (.slice none 0 0)) Try.underlying24 rfl (by kernel_rfl)) rfl
            (hR.out _ _ (GetPost.err (((F0.out.trans' F1.out).trans U2.out (fun b hb h => by have := F0.out.size; omega)).trans (setTwo w2 H _ _) (fun b hb h => by have := HH.out; omega)) 13 HD.out rfl))

end Go.Proofs.Ytbnicnindggimaa
