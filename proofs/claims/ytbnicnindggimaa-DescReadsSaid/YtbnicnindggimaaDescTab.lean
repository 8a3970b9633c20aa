/-
  Package desc, the reading side: the loop over the norms.
  Conditions: none beyond those of each theorem.
-/
import Derived.Test.YtbnicnindggimaaDescDec
namespace Go.Proofs.Ytbnicnindggimaa
open Go.RowKit
set_option linter.unusedVariables false
set_option linter.unusedSimpArgs false

theorem ints_snoc (N : List Int) (z : Int) : ints N ++ [.int .i64 z] = ints (N ++ [z]) := by simp [ints]
theorem ints_zeros (N : List Int) (k : Nat) : ints N ++ zerosV k = ints (N ++ List.replicate k 0) := by simp [ints, zerosV]

/-- what is owed at the end of 'table' -/
def bodyPost_goal (P : Program) (fn : Func) (R : Ending → World → Prop) (H : Nat) (lg : Int) (v : Value) (W : World) : Prop :=
  ∀ tmps : Array Value, tmps.getD 6 undef = .pointer (some ⟨H, 0, none⟩) → bodyPost P fn R .ret { tmps := tmps, defers := [] } W

theorem setTwo (w : World) (H : Nat) (u v : Value) : Upd (fun b => b = H) w ((w.setCell ⟨H, 0, none⟩ u).setCell ⟨H, 1, none⟩ v) :=
  ((Upd.refl (fun b => b = H) w).setCell (p := ⟨H, 0, none⟩) (fun _ => rfl) u).setCell (p := ⟨H, 1, none⟩) (fun _ => rfl) v

theorem zerosV_one (k : Nat) : ∀ u ∈ zerosV k, u.oneCell' = true := by
  intro u hu
  rw [(List.mem_replicate.1 hu).2]; rfl

set_option maxRecDepth 100000 in
set_option maxHeartbeats 4000000 in
theorem table_any (F : Nat → Prop) (g gf : Nat) (bs : List Nat) (sy lb : Int) (w : World) (hr : RdrAt w F g gf bs ⟨0, 0⟩) (hsy : sy ≤ 256) (hF : ∀ b, F b → b < w.heap.size) :
    Calls Try.prog 33 #[.pointer (some ⟨g, 0, none⟩), .int .i64 sy, .int .i64 lb] w fun e' w' =>
      ∃ v, e' = .returned (.agg #[.int .i64 (readS sy lb (rowB bs)).1, v]) ∧ Own w' 3 v (ints (readS sy lb (rowB bs)).2.1) ∧ Upd (Two g gf) w w' ∧ RdrAt w' F g gf bs (readS sy lb (rowB bs)).2.2 ∧
        (∀ b, v.ownBlock = some b → w.heap.size ≤ b) ∧ (readS sy lb (rowB bs)).2.1.length ≤ 1000 := by
  have hmf : ∀ (fn : Fn) (first cap : Array Value) (w : World), (Instr.makeFunc fn first cap).run Try.prog w = .ok (.func fn first cap) w := fun _ _ _ _ => rfl
  have hlt0 := hr.lt
  have hdef : readS sy lb (rowB bs) = if (mustS (decide (((takeS (rowB bs) 4 ⟨0, 0⟩).1 : Int) + 1 ≤ min lb 9)) 13 (takeS (rowB bs) 4 ⟨0, 0⟩).2).1 then
      ((takeS (rowB bs) 4 ⟨0, 0⟩).1 + 1, tableS sy (rowB bs) 600 (2 ^ ((takeS (rowB bs) 4 ⟨0, 0⟩).1 + 1)) [] false (mustS (decide (((takeS (rowB bs) 4 ⟨0, 0⟩).1 : Int) + 1 ≤ min lb 9)) 13 (takeS (rowB bs) 4 ⟨0, 0⟩).2).2)
      else ((takeS (rowB bs) 4 ⟨0, 0⟩).1 + 1, [], (mustS (decide (((takeS (rowB bs) 4 ⟨0, 0⟩).1 : Int) + 1 ≤ min lb 9)) 13 (takeS (rowB bs) 4 ⟨0, 0⟩).2).2) := rfl
  obtain ⟨T, hT⟩ : ∃ T, T = readS sy lb (rowB bs) := ⟨_, rfl⟩
  rw [← hT] at hdef ⊢
  clear hT
  have htk := fun w' (h' : RdrAt w' F g gf bs ⟨0, 0⟩) => take_any F g gf bs ⟨0, 0⟩ 4 w' h' (by omega)
  have htl := takeS_lt (rowB bs) 4 ⟨0, 0⟩
  generalize takeS (rowB bs) 4 ⟨0, 0⟩ = X at *
  obtain ⟨x, σ1⟩ := X
  simp only at hdef htk htl
  have hmu := fun w' (h' : RdrAt w' F g gf bs σ1) => must_any F g gf bs σ1 (decide ((x : Int) + 1 ≤ min lb 9)) 13 w' h' (by omega) (by omega)
  have hxI : (x : Int) ≤ 15 := by omega
  have HT := hide htk
  have HMU := hide hmu
  have HD := hide hdef
  obtain ⟨H, hH⟩ : ∃ H, H = w.heap.size := ⟨_, rfl⟩
  have HH := hide hH
  have f0 : Fresh w (w.alloc (.cells #[.int .i64 0, .slice none 0 0] 24)) := (Upd.refl _ w).alloc _
  have b0 : Blk (w.alloc (.cells #[.int .i64 0, .slice none 0 0] 24)) H 24 #[.int .i64 0, .slice none 0 0] := blk_new hH _ _
  have R0 := hide (hr.fresh f0)
  have F0 := hide f0
  have B0 := hide b0
  rw [← hH] at hlt0
  clear htk hmu hdef hH f0 b0 hr
  refine veil fun R hR => ?_
  go_enter Try.func33, Try.ntmps33
  go_wp2_with fail
  rw [← HH.out]
  refine (HT.out _ R0.out).mono ?_
  rintro e w1 ⟨rfl, u1, r1⟩
  have hH2 : ¬ Two g gf H := by unfold Two; omega
  have b1 := B0.out.upd u1 hH2
  have hz10 := b1.frozen 0
  have hc10 := b1.cell 0
  simp only [List.getElem?_toArray, List.getElem?_cons_zero] at hc10
  have B1 := hide b1
  have R1 := hide r1
  have U1 := hide ((F0.out.mono (T := Two g gf) (fun _ _ h => h.elim)).trans' u1)
  clear b1 r1 u1
  go_wp2_with fail
  have uh : Upd (fun b => b = H) w1 (w1.setCell ⟨H, 0, none⟩ (.int .i64 ((x : Int) + 1))) := (Upd.refl (fun b => b = H) w1).setCell (p := ⟨H, 0, none⟩) (fun _ => rfl) _
  have r2 := R1.out.upd uh (by omega) (by omega) (fun b hb e => by have := hF b hb; have := HH.out; omega)
  have u2 : Upd (Two g gf) w (w1.setCell ⟨H, 0, none⟩ (.int .i64 ((x : Int) + 1))) := U1.out.setCell (p := ⟨H, 0, none⟩) (fun h => by have := HH.out; simp at h; omega) _
  have b2 := B1.out.set_ 0 (.int .i64 ((x : Int) + 1))
  refine (HMU.out _ r2).mono ?_
  rintro e w3 ⟨rfl, u3, r3⟩
  have b3 := b2.upd u3 hH2
  have U3 := hide (u2.trans' u3)
  have R3 := hide r3
  have hc3 := b3.cell 0
  have hc31 := b3.cell 1
  have hz30 := b3.frozen 0
  have hz31 := b3.frozen 1
  simp at hc3 hc31
  have B3 := hide b3
  clear b3 r3 u3 r2 u2 b2 uh R1 U1 B1 hc10 hz10
  by_cases hok : (mustS (decide ((x : Int) + 1 ≤ min lb 9)) 13 σ1).1 = true
  · obtain ⟨he1, he2⟩ := mustS_e hok
    have hd := HD.out
    rw [if_pos hok, he1] at hd
    rw [he1] at R3
    simp only [hok]
    have hx9 : x + 1 ≤ 9 := by have : (x : Int) + 1 ≤ min lb 9 := by simpa using he2
                               omega
    have hx9I : (x : Int) + 1 ≤ 9 := by omega
    have HD2 := hide hd
    clear hd HD hok he1 he2 HMU HT
    have hw64 : wrap64 (2 ^ (x + 1)) = ((2 ^ (x + 1) : Nat) : Int) := wrap64_pow _ hx9
    have hp512 : 2 ^ (x + 1) ≤ 512 := Nat.le_trans (Nat.pow_le_pow_right (n := 2) (by omega) hx9) (by decide)
    obtain ⟨P2, hP2⟩ : ∃ P2, P2 = 2 ^ (x + 1) := ⟨_, rfl⟩
    rw [← hP2] at hw64 hp512 HD2
    have HW := hide hw64
    clear hw64 hP2
    go_wp2_with fail
    have hexit : ∀ (wX : World) (A : Option Addr) (n c : Nat) (N : List Int) (σ : St), Blk wX H 24 #[.int .i64 ((x : Int) + 1), .slice A n c] → Own wX 3 (.slice A n c) (ints N) →
        (∀ b, (Value.slice A n c).ownBlock = some b → H < b) → Upd (Two g gf) w wX → RdrAt wX F g gf bs σ → (N, σ) = T.2 → N.length ≤ 1000 →
        bodyPost_goal Try.prog Try.f33 R H ((x : Int) + 1) (.slice A n c) ((wX.setCell ⟨H, 0, none⟩ (.int .i64 ((x : Int) + 1))).setCell ⟨H, 1, none⟩ (.slice A n c)) := by
      intro wX A n c N σ hb ho hob hu hrd ht hl tmps ht6
      have b4 := (hb.set_ 0 (.int .i64 ((x : Int) + 1))).set_ 1 (.slice A n c)
      have b5 : Blk ((wX.setCell ⟨H, 0, none⟩ (.int .i64 ((x : Int) + 1))).setCell ⟨H, 1, none⟩ (.slice A n c)) H 24 #[.int .i64 ((x : Int) + 1), .slice A n c] := by simpa using b4
      have hset := setTwo wX H (.int .i64 ((x : Int) + 1)) (.slice A n c)
      refine bodyPost_ret (v := .agg #[.int .i64 ((x : Int) + 1), .slice A n c]) (results_cell_row rfl _ _ H _ _ _ _ ht6 b5 Try.underlying24 rfl (by kernel_rfl)) rfl ?_
      have e1 : T.1 = x + 1 := by rw [HD2.out]
      have e2 : T.2.1 = N := by rw [← ht]
      have e3 : T.2.2 = σ := by rw [← ht]
      refine hR.out _ _ ⟨.slice A n c, ?_, ?_, ?_, ?_, ?_, ?_⟩
      · rw [e1]; simp
      · rw [e2]; exact ho.upd hset (fun b hb h => by have := hob b hb; omega)
      · exact hu.trans hset (fun b hb h => by have := HH.out; omega)
      · rw [e3]; exact hrd.upd hset (by omega) (by omega) (fun b hb e => by have := hF b hb; have := HH.out; omega)
      · intro b hb; have := hob b hb; have := HH.out; omega
      · rw [e2]; exact hl
    have HX := hide hexit
    clear hexit hR
    go_loopg [8, 9] 600 (fun f vl vr wr => ∃ (L : Nat) (N : List Int) (ran : Bool) (v : Value) (σ : St), vl = .int .i64 L ∧ vr = .bool ran ∧ Blk wr H 24 #[.int .i64 ((x : Int) + 1), v] ∧ Own wr 3 v (ints N) ∧
      (∀ b, v.ownBlock = some b → H < b) ∧ Upd (Two g gf) w wr ∧ RdrAt wr F g gf bs σ ∧ tableS sy (rowB bs) f L N ran σ = T.2 ∧ L ≤ 512 ∧ 600 ≤ f + min N.length 256 ∧ N.length ≤ 600)
    case atStart => exact ⟨P2, [], false, _, σ1, by rw [← HW.out], rfl, by simpa using B3.out, Own.nil _ _, by simp [Value.ownBlock], U3.out, R3.out, by rw [HD2.out], hp512, by simp, by simp⟩
    case round =>
      obtain ⟨L, N, ran, v, σ, rfl, rfl, hb, ho, hob, hu, hrd, htot, hL, hf, hNl⟩ := hrel
      obtain ⟨A, n, c, rfl, hn⟩ := ho.form'
      have hnN : n = N.length := by simpa using hn.out
      have B4 := hide hb
      have O4 := hide ho
      have OB := hide hob
      have U4 := hide hu
      have R4 := hide hrd
      have HTOT := hide htot
      have HNN := hide hnN
      have hc40 := hb.cell 0
      have hc41 := hb.cell 1
      have hz40 := hb.frozen 0
      have hz41 := hb.frozen 1
      simp at hc40 hc41
      have hnI : (n : Int) ≤ 600 := by omega
      clear hb ho hob hu hrd htot hn hnN B3 U3 R3 hc3 hc31 hz30 hz31 B0 R0 F0
      obtain ⟨f, rfl⟩ : ∃ f, gk = f + 1 := ⟨gk - 1, by omega⟩
      by_cases hL0 : 0 < L
      · have hL1 : 0 < (L : Int) := by omega
        have hmu := must_any F g gf bs σ (decide ((n : Int) < sy)) 13 wr R4.out (by omega) (by omega)
        by_cases hok1 : (mustS (decide ((n : Int) < sy)) 13 σ).1 = true
        · obtain ⟨he1, he2⟩ := mustS_e hok1
          have HOK1 := hide (show (mustS (decide ((N.length : Int) < sy)) 13 σ).1 = true by rw [← HNN.out]; exact hok1)
          rw [hok1, he1, he2] at hmu
          have hns : (n : Int) < sy := by simpa using he2
          have HM := hide hmu
          clear hmu hok1 he1 he2
          go_wp2_with fail
          refine HM.out.mono ?_
          rintro e w5 ⟨rfl, u5, r5⟩
          have hgl : ∀ b, (Value.slice A n c).ownBlock = some b → ¬ Two g gf b := fun b hb h => by have := OB.out b hb; rcases h with h | h <;> omega
          have b5 := B4.out.upd u5 hH2
          have o5 := O4.out.upd u5 hgl
          have B5 := hide b5
          have O5 := hide o5
          have R5 := hide r5
          have U5 := hide (U4.out.trans' u5)
          clear b5 o5 r5 u5 B4 O4 R4 U4 hc40 hc41 hz40 hz41
          have hnum := rnumber_any F g gf bs σ (L + 2) w5 R5.out (by omega) (by omega)
          have hnl := numberS_lt (rowB bs) (L + 2) σ (by omega) (by omega)
          obtain ⟨Y, hY⟩ : ∃ Y, Y = numberS (rowB bs) (L + 2) σ := ⟨_, rfl⟩
          rw [← hY] at hnum hnl
          obtain ⟨y, σ6⟩ := Y
          simp only at hnum hnl
          have HY := hide hY.symm
          clear hY
          have HNU := hide hnum
          clear hnum HM
          go_wp2_with fail
          rw [show (L : Int) + 2 = ((L + 2 : Nat) : Int) by omega]
          refine HNU.out.mono ?_
          rintro e w6 ⟨rfl, u6, r6⟩
          have b6 := B5.out.upd u6 hH2
          have o6 := O5.out.upd u6 hgl
          have B6 := hide b6
          have O6 := hide o6
          have R6 := hide r6
          have U6 := hide (U5.out.trans' u6)
          clear b6 o6 r6 u6 B5 O5 R5 U5 HNU
          have hyI : (y : Int) ≤ 513 := by omega
          by_cases hy1 : y = 1
          · subst hy1
            cases ran
            · have hbb : (((1 : Nat) : Int) - 1 != 0 || !false) = true := rfl
              have HBB := hide hbb
              clear hbb
              have hmu2 := must_any F g gf bs σ6 true 13 w6 R6.out (by omega) (by omega)
              have HM2 := hide hmu2
              clear hmu2
              go_wp2_with fail
              refine HM2.out.mono ?_
              rintro e w7 ⟨rfl, u7, r7⟩
              have b7 := B6.out.upd u7 hH2
              have O7 := hide (O6.out.upd u7 hgl)
              have R7 := hide r7
              have U7 := hide (U6.out.trans' u7)
              clear r7 u7 B6 O6 R6 U6 HM2
              by_cases hk2 : (mustS true 13 σ6).1 = true
              · have hte := (mustS_e hk2).1
                rw [hte] at R7
                simp only [hk2]
                have htn := tableS_zero sy (rowB bs) f L N false σ 1 σ6 hL0 HOK1.out HY.out (by rw [HBB.out]; exact hk2) rfl
                rw [HTOT.out] at htn
                have HTN := hide htn.symm
                clear htn hte
                have hc70 := b7.cell 0
                have hc71 := b7.cell 1
                have hz70 := b7.frozen 0
                have hz71 := b7.frozen 1
                have hbl := b7.lt
                simp at hc70 hc71
                have B7 := hide b7
                have hn1000 : (ints N).length + 1 ≤ 2 ^ 40 := by simp; omega
                clear b7 hk2
                go_wp2_with (at_builtin; go_must (refine wpList_app _ rfl (.tmp 57) (.tmp 59) _ rfl 3 _ 8 Try.underlying22 infoInt rfl _ _ rfl (O7.out.alloc _) _ 1 _ _ rfl (Rd.one w7 3 (.int .i64 0)) (by simp [Value.oneCell']) (by omega) hn1000 ?_))
                intro v' w8 o8 g8 a8
                have u8 : Upd (fun b => (Value.slice A n c).ownBlock = some b) w7 w8 := ((Upd.refl _ w7).alloc _).grown g8 (fun k hk _ => hk)
                have hHown : ¬ (Value.slice A n c).ownBlock = some H := O7.out.ne_blk B7.out (by decide)
                have b8 := B7.out.upd u8 hHown
                have R8 := hide (R7.out.upd u8 (fun h => hgl _ h (.inl rfl)) (fun h => hgl _ h (.inr rfl)) (fun b hb h => by have := hF b hb; have := OB.out b h; have := HH.out; omega))
                have U8 := hide (U7.out.trans u8 (fun b hb h => by have := OB.out b h; have := HH.out; omega))
                have OB8 := hide (own_S (S := fun k => H < k) a8 OB.out (by omega))
                rw [ints_snoc] at o8
                obtain ⟨A8, n8, c8, rfl, hn8⟩ := o8.form'
                have hn8' : n8 = N.length + 1 := by simpa using hn8.out
                have hc81 := b8.cell 1
                have hc80 := b8.cell 0
                have hz81 := b8.frozen 1
                have hz80 := b8.frozen 0
                simp at hc81 hc80
                have B8 := hide b8
                have O8 := hide o8
                have HN8 := hide hn8'
                have hn8I : (n8 : Int) ≤ 601 := by omega
                have hn8J : (n8 : Int) = n + 1 := by have := HNN.out; omega
                have HN9 := hide hn8J
                clear b8 o8 g8 a8 u8 hn8 hn8' hc70 hc71 hz70 hz71 O7 R7 U7 hn8J
                have hset : Upd (fun b => b = H) w8 (w8.setCell ⟨H, 1, none⟩ (.slice A8 n8 c8)) := (Upd.refl (fun b => b = H) w8).setCell (p := ⟨H, 1, none⟩) (fun _ => rfl) _
                have B9 := hide (show Blk (w8.setCell ⟨H, 1, none⟩ (.slice A8 n8 c8)) H 24 #[.int .i64 ((x : Int) + 1), .slice A8 n8 c8] by simpa using B8.out.set_ 1 (.slice A8 n8 c8))
                have O9 := hide (O8.out.upd hset (fun b hb h => by have := OB8.out b hb; omega))
                have R9 := hide (R8.out.upd hset (by omega) (by omega) (fun b hb e => by have := hF b hb; have := HH.out; omega))
                have U9 := hide (U8.out.trans hset (fun b hb h => by have := HH.out; omega))
                clear hset
                have hN256 : N.length < 256 := by have := HNN.out; omega
                have hset : Upd (fun b => b = H) w8 (w8.setCell ⟨H, 1, none⟩ (.slice A8 n8 c8)) := (Upd.refl (fun b => b = H) w8).setCell (p := ⟨H, 1, none⟩) (fun _ => rfl) _
                have b9 : Blk (w8.setCell ⟨H, 1, none⟩ (.slice A8 n8 c8)) H 24 #[.int .i64 ((x : Int) + 1), .slice A8 n8 c8] := by simpa using B8.out.set_ 1 (.slice A8 n8 c8)
                have o9 := O8.out.upd hset (fun b hb h => by have := OB8.out b hb; omega)
                have r9 := R8.out.upd hset (by omega) (by omega) (fun b hb e => by have := hF b hb; have := HH.out; omega)
                have u9 := U8.out.trans hset (fun b hb h => by have := HH.out; omega)
                go_wp2_with fail
                clear hset
                generalize w8.setCell ⟨H, 1, none⟩ (.slice A8 n8 c8) = w9 at *
                have hc91 := b9.cell 1
                have hz91 := b9.frozen 1
                simp at hc91
                have hF9 : ∀ b, F b → b < w9.heap.size := fun b hb => by have := hF b hb; have := u9.size; omega
                have hsub : IntKind.i64.wrap (sy - n8) = sy - n8 := IntWalk.i64_in _ (by have := HN9.out; omega)
                have hro1 : sy - (n8 : Int) ≤ 256 := by omega
                have hro2 : -1000000 ≤ sy - (n8 : Int) := by have := HN9.out; omega
                have hgl9 : ∀ b, (Value.slice A8 n8 c8).ownBlock = some b → ¬ Two g gf b := fun b hb h => by have := OB8.out b hb; rcases h with h | h <;> omega
                have hH9 := b9.lt
                have hlen9 : (ints (N ++ [0])).length + 300 ≤ 2 ^ 40 := by simp; omega
                clear B8 O8 R8 U8 hc80 hc81 hz80 hz81
                have hHo : some H ≠ (Value.slice A8 n8 c8).ownBlock := (o9.ne_blk b9 (by decide)).symm
                have hno := noughts_any F g gf bs σ6 (sy - n8) w9.drew r9 hro1 hro2 hF9
                go_region_law ((first
                    | (refine step_app _ (by rfl) (.tmp 72) (.tmp 80) _ (by rfl) 3 _ 8 Try.underlying22 infoInt rfl (.slice A8 n8 c8) _ (by rfl) (o9.drew.upd u10 hgl9) _ _ _ _ (by rfl) hrd10 hone10 (by omega) (by omega) ?_
                       intro v11 w11 o11 g11 a11
                       obtain ⟨A11, n11, c11, rfl, hn11⟩ := o11.form'
                       have hz11 : w11.frozen? ⟨H, 1, none⟩ = false := by
                         rw [World.frozen?_of_block (w := w10) (g11.block H (Nat.lt_of_lt_of_le hH9 u10.size) hHo), u10.frozen (p := ⟨H, 1, none⟩) hH9 hH2]; exact hz91
                       have hc11 := g11.cell hc10 hHo)
                    | (go_simp
                       go_at_call 52
                       refine hno.mono ?_
                       rintro e w10 ⟨v10, rfl, o10, u10, r10, b10, l10⟩
                       obtain ⟨A10, n10, c10, rfl, hn10⟩ := o10.form'
                       have hrd10 := (o10.rd rfl).2.2
                       rw [← hn10.out] at hrd10
                       have hl10 : n10 ≤ 300 := by have := hn10.out; simp [zerosV] at this; omega
                       have hone10 := zerosV_one (noughtsS (sy - n8) (rowB bs) 300 3 0 σ6).1
                       have hc10 : w10.cell? ⟨H, 1, none⟩ = some (.slice A8 n8 c8) := (u10.cell (p := ⟨H, 1, none⟩) hH9 hH2).trans hc91)))
                all_goals
                  have b10 := b9.drew.upd u10 hH2
                  have b11 := b10.grown g11 (fun e => hHo e.symm)
                  have b12 := b11.set_ 1 (.slice A11 n11 c11)
                  have ug : Upd (fun b => (Value.slice A8 n8 c8).ownBlock = some b) w10 w11 := (Upd.refl _ w10).grown g11 (fun k hk _ => hk)
                  have us : Upd (fun b => b = H) w11 (w11.setCell ⟨H, 1, none⟩ (.slice A11 n11 c11)) := (Upd.refl (fun b => b = H) w11).setCell (p := ⟨H, 1, none⟩) (fun _ => rfl) _
                  have ob11 := own_S (S := fun k => H < k) a11 OB8.out (Nat.lt_of_lt_of_le hH9 u10.size)
                  have r11 := (r10.upd ug (fun h => hgl9 _ h (.inl rfl)) (fun h => hgl9 _ h (.inr rfl)) (fun b hb h => by have := hF b hb; have := OB8.out b h; have := HH.out; omega)).upd us (by omega) (by omega) (fun b hb e => by have := hF b hb; have := HH.out; omega)
                  have u11 := ((u9.drew.trans' u10).trans ug (fun b hb h => by have := OB8.out b h; have := HH.out; omega)).trans us (fun b hb h => by have := HH.out; omega)
                  have o12 := o11.upd us (fun b hb h => by have := ob11 b hb; omega)
                  rw [ints_zeros] at o12
                  have HTN2 := HTN.out
                  rw [← HN8.out] at HTN2
                  simp only [Exit.inBlock, Exit.then]
                  first
                    | (go_roundg f
                       case measure => omega
                       case rel => exact ⟨L, _, true, _, _, rfl, rfl, by simpa using b12, o12, ob11, u11, r11, HTN2, hL, by simp; omega, by simp; omega⟩)
                    | (go_wp2
                       go_roundg f
                       case measure => omega
                       case rel => exact ⟨L, _, true, _, _, rfl, rfl, by simpa using b12, o12, ob11, u11, r11, HTN2, hL, by simp; omega, by simp; omega⟩)
              · have hk2 : (mustS true 13 σ6).1 = false := by simpa using hk2
                simp only [hk2]
                have htf := tableS_stop sy (rowB bs) f L N false σ 1 σ6 hL0 HOK1.out HY.out (by rw [HBB.out]; exact hk2)
                rw [HTOT.out, HBB.out] at htf
                have HTF := hide htf.symm
                have hc70 := b7.cell 0
                have hc71 := b7.cell 1
                have hz70 := b7.frozen 0
                have hz71 := b7.frozen 1
                simp at hc70 hc71
                have B7 := hide b7
                have HCX := hide B7.out.cells
                clear htf b7 hk2
                go_wp2_with (refine wpList_load_agg rfl 24 (.tmp 6) rfl H 0 rfl [_, _] _ HCX.out Try.underlying24 rfl (by kernel_rfl) ?_)
                exact HX.out w7 A n c N _ B7.out O7.out OB.out U7.out R7.out HTF.out (by omega) _ rfl
            · have hbb : (((1 : Nat) : Int) - 1 != 0 || !true) = false := rfl
              have HBB := hide hbb
              clear hbb
              have hmu2 := must_any F g gf bs σ6 false 13 w6 R6.out (by omega) (by omega)
              have HM2 := hide hmu2
              clear hmu2
              go_wp2_with fail
              refine HM2.out.mono ?_
              rintro e w7 ⟨rfl, u7, r7⟩
              have b7 := B6.out.upd u7 hH2
              have O7 := hide (O6.out.upd u7 hgl)
              have R7 := hide r7
              have U7 := hide (U6.out.trans' u7)
              clear r7 u7 B6 O6 R6 U6 HM2
              have hk2 : (mustS false 13 σ6).1 = false := by unfold mustS; split <;> rfl
              simp only [hk2]
              have htf := tableS_stop sy (rowB bs) f L N true σ 1 σ6 hL0 HOK1.out HY.out (by rw [HBB.out]; exact hk2)
              rw [HTOT.out, HBB.out] at htf
              have HTF := hide htf.symm
              have hc70 := b7.cell 0
              have hc71 := b7.cell 1
              have hz70 := b7.frozen 0
              have hz71 := b7.frozen 1
              simp at hc70 hc71
              have B7 := hide b7
              have HCX := hide B7.out.cells
              clear htf b7 hk2
              go_wp2_with (refine wpList_load_agg rfl 24 (.tmp 6) rfl H 0 rfl [_, _] _ HCX.out Try.underlying24 rfl (by kernel_rfl) ?_)
              exact HX.out w7 A n c N _ B7.out O7.out OB.out U7.out R7.out HTF.out (by omega) _ rfl
          · have hyn : ((y : Int) - 1 != 0) = true := by simp; omega
            have hbb : ((y : Int) - 1 != 0 || !ran) = true := by rw [hyn]; rfl
            have HBB := hide hbb
            clear hbb
            have hmu2 := must_any F g gf bs σ6 true 13 w6 R6.out (by omega) (by omega)
            have HM2 := hide hmu2
            clear hmu2
            go_wp2_with fail
            refine HM2.out.mono ?_
            rintro e w7 ⟨rfl, u7, r7⟩
            have b7 := B6.out.upd u7 hH2
            have O7 := hide (O6.out.upd u7 hgl)
            have R7 := hide r7
            have U7 := hide (U6.out.trans' u7)
            clear r7 u7 B6 O6 R6 U6 HM2
            by_cases hk2 : (mustS true 13 σ6).1 = true
            · have hte := (mustS_e hk2).1
              rw [hte] at R7
              simp only [hk2]
              have htn := tableS_ne sy (rowB bs) f L N ran σ y σ6 hL0 HOK1.out HY.out (by rw [HBB.out]; exact hk2) (by omega)
              rw [HTOT.out] at htn
              have HTN := hide htn.symm
              clear htn hte
              have hc70 := b7.cell 0
              have hc71 := b7.cell 1
              have hz70 := b7.frozen 0
              have hz71 := b7.frozen 1
              have hbl := b7.lt
              simp at hc70 hc71
              have B7 := hide b7
              have hn1000 : (ints N).length + 1 ≤ 2 ^ 40 := by simp; omega
              clear b7 hk2
              go_wp2_with (at_builtin; go_must (refine wpList_app _ rfl (.tmp 57) (.tmp 59) _ rfl 3 _ 8 Try.underlying22 infoInt rfl _ _ rfl (O7.out.alloc _) _ 1 _ _ rfl (Rd.one w7 3 (.int .i64 ((y : Int) - 1))) (by simp [Value.oneCell']) (by omega) hn1000 ?_))
              intro v' w8 o8 g8 a8
              have u8 : Upd (fun b => (Value.slice A n c).ownBlock = some b) w7 w8 := ((Upd.refl _ w7).alloc _).grown g8 (fun k hk _ => hk)
              have hHown : ¬ (Value.slice A n c).ownBlock = some H := O7.out.ne_blk B7.out (by decide)
              have b8 := B7.out.upd u8 hHown
              have R8 := hide (R7.out.upd u8 (fun h => hgl _ h (.inl rfl)) (fun h => hgl _ h (.inr rfl)) (fun b hb h => by have := hF b hb; have := OB.out b h; have := HH.out; omega))
              have U8 := hide (U7.out.trans u8 (fun b hb h => by have := OB.out b h; have := HH.out; omega))
              have OB8 := hide (own_S (S := fun k => H < k) a8 OB.out (by omega))
              rw [ints_snoc] at o8
              obtain ⟨A8, n8, c8, rfl, hn8⟩ := o8.form'
              have hn8' : n8 = N.length + 1 := by simpa using hn8.out
              have hc81 := b8.cell 1
              have hc80 := b8.cell 0
              have hz81 := b8.frozen 1
              have hz80 := b8.frozen 0
              simp at hc81 hc80
              have B8 := hide b8
              have O8 := hide o8
              have HN8 := hide hn8'
              have hn8I : (n8 : Int) ≤ 601 := by omega
              have hn8J : (n8 : Int) = n + 1 := by have := HNN.out; omega
              have HN9 := hide hn8J
              clear b8 o8 g8 a8 u8 hn8 hn8' hc70 hc71 hz70 hz71 O7 R7 U7 hn8J
              have hset : Upd (fun b => b = H) w8 (w8.setCell ⟨H, 1, none⟩ (.slice A8 n8 c8)) := (Upd.refl (fun b => b = H) w8).setCell (p := ⟨H, 1, none⟩) (fun _ => rfl) _
              have B9 := hide (show Blk (w8.setCell ⟨H, 1, none⟩ (.slice A8 n8 c8)) H 24 #[.int .i64 ((x : Int) + 1), .slice A8 n8 c8] by simpa using B8.out.set_ 1 (.slice A8 n8 c8))
              have O9 := hide (O8.out.upd hset (fun b hb h => by have := OB8.out b hb; omega))
              have R9 := hide (R8.out.upd hset (by omega) (by omega) (fun b hb e => by have := hF b hb; have := HH.out; omega))
              have U9 := hide (U8.out.trans hset (fun b hb h => by have := HH.out; omega))
              clear hset
              have hN256 : N.length < 256 := by have := HNN.out; omega
              have hyz : ((y : Int) - 1 == 0) = false := by simp; omega
              by_cases hneg : (y : Int) - 1 < 0
              · have hmx : max ((y : Int) - 1) (-((y : Int) - 1)) = 1 := by omega
                go_wp2
                go_roundg f
                case measure => omega
                case rel => exact ⟨L - ((y : Int) - 1).natAbs, N ++ [(y : Int) - 1], false, _, σ6, by congr 1; omega, rfl, B9.out, O9.out, OB8.out, U9.out, R9.out, HTN.out, by omega, by simp; omega, by simp; omega⟩
              · have hmx : max ((y : Int) - 1) (-((y : Int) - 1)) = (y : Int) - 1 := by omega
                go_wp2
                go_roundg f
                case measure => omega
                case rel => exact ⟨L - ((y : Int) - 1).natAbs, N ++ [(y : Int) - 1], false, _, σ6, by congr 1; omega, rfl, B9.out, O9.out, OB8.out, U9.out, R9.out, HTN.out, by omega, by simp; omega, by simp; omega⟩
            · have hk2 : (mustS true 13 σ6).1 = false := by simpa using hk2
              simp only [hk2]
              have htf := tableS_stop sy (rowB bs) f L N ran σ y σ6 hL0 HOK1.out HY.out (by rw [HBB.out]; exact hk2)
              rw [HTOT.out, HBB.out] at htf
              have HTF := hide htf.symm
              have hc70 := b7.cell 0
              have hc71 := b7.cell 1
              have hz70 := b7.frozen 0
              have hz71 := b7.frozen 1
              simp at hc70 hc71
              have B7 := hide b7
              have HCX := hide B7.out.cells
              clear htf b7 hk2
              go_wp2_with (refine wpList_load_agg rfl 24 (.tmp 6) rfl H 0 rfl [_, _] _ HCX.out Try.underlying24 rfl (by kernel_rfl) ?_)
              exact HX.out w7 A n c N _ B7.out O7.out OB.out U7.out R7.out HTF.out (by omega) _ rfl
        · have hok' : (mustS (decide ((n : Int) < sy)) 13 σ).1 = false := by simpa using hok1
          have htf := tableS_fail sy (rowB bs) f L N ran σ hL0 (by rw [← HNN.out]; exact hok')
          rw [HTOT.out, ← HNN.out] at htf
          have HTF := hide htf.symm
          rw [hok'] at hmu
          clear htf
          have HM := hide hmu
          clear hmu hok1 hok'
          go_wp2_with fail
          refine HM.out.mono ?_
          rintro e w5 ⟨rfl, u5, r5⟩
          have hgl : ∀ b, (Value.slice A n c).ownBlock = some b → ¬ Two g gf b := fun b hb h => by have := OB.out b hb; rcases h with h | h <;> omega
          have b5 := B4.out.upd u5 hH2
          have o5 := O4.out.upd u5 hgl
          have hc50 := b5.cell 0
          have hc51 := b5.cell 1
          have hz50 := b5.frozen 0
          have hz51 := b5.frozen 1
          simp at hc50 hc51
          have B5 := hide b5
          have O5 := hide o5
          have R5 := hide r5
          have U5 := hide (U4.out.trans' u5)
          have HCX := hide B5.out.cells
          clear b5 o5 r5 u5 B4 O4 R4 U4 hc40 hc41 hz40 hz41
          go_wp2_with (refine wpList_load_agg rfl 24 (.tmp 6) rfl H 0 rfl [_, _] _ HCX.out Try.underlying24 rfl (by kernel_rfl) ?_)
          exact HX.out w5 A n c N _ B5.out O5.out OB.out U5.out R5.out HTF.out (by omega) _ rfl
      · have hL1 : ¬ (0 < (L : Int)) := by omega
        have ht : (N, σ) = T.2 := by rw [← HTOT.out]; simp [tableS, hL0]
        have HCX := hide B4.out.cells
        have HT3 := hide ht
        clear ht
        go_wp2_with (refine wpList_load_agg rfl 24 (.tmp 6) rfl H 0 rfl [_, _] _ HCX.out Try.underlying24 rfl (by kernel_rfl) ?_)
        exact HX.out wr A n c N σ B4.out O4.out OB.out U4.out R4.out HT3.out (by omega) _ rfl
  · have hd := HD.out
    rw [if_neg hok] at hd
    have hok' : (mustS (decide ((x : Int) + 1 ≤ min lb 9)) 13 σ1).1 = false := by simpa using hok
    simp only [hok']
    clear hok
    have HD2 := hide hd
    have HC := hide B3.out.cells
    clear hd HD hok'
    go_wp2_with (refine wpList_load_agg rfl 24 (.tmp 6) rfl H 0 rfl [_, _] _ HC.out Try.underlying24 rfl (by kernel_rfl) ?_)
    have b4 := (B3.out.set_ 0 (.int .i64 ((x : Int) + 1))).set_ 1 (.slice none 0 0)
    have b5 : Blk ((w3.setCell ⟨H, 0, none⟩ (.int .i64 ((x : Int) + 1))).setCell ⟨H, 1, none⟩ (.slice none 0 0)) H 24 #[.int .i64 ((x : Int) + 1), .slice none 0 0] := by simpa using b4
    have hu := setTwo w3 H (.int .i64 ((x : Int) + 1)) (.slice none 0 0)
    refine bodyPost_ret (v := .agg #[.int .i64 ((x : Int) + 1), .slice none 0 0]) (results_cell_row rfl _ _ H _ _ _ _ rfl b5 Try.underlying24 rfl (by kernel_rfl)) rfl ?_
    refine hR.out _ _ ⟨.slice none 0 0, ?_, ?_, ?_, ?_, ?_, ?_⟩
    · rw [HD2.out]; simp
    · rw [HD2.out]; exact Own.nil _ _
    · exact U3.out.trans hu (fun b hb h => by have := HH.out; omega)
    · rw [HD2.out]; exact R3.out.upd hu (by omega) (by omega) (fun b hb e => by have := hF b hb; have := HH.out; omega)
    · simp [Value.ownBlock]
    · rw [HD2.out]; simp

end Go.Proofs.Ytbnicnindggimaa
