/-
  ModesNil: the law's function answers true.
  Conditions: none beyond those of each theorem.
-/
import Derived.Test.YtcdbfddoanigbaaJ20
import Derived.Test.YtcdbfddoanigbaaJ18
namespace Go.Proofs.Ytcdbfddoanigbaa
open Go.RowKit
set_option linter.unusedVariables false
set_option linter.unusedSimpArgs false

/-- the first n elements at A may be written -/
def Wok (w : World) (F : Nat → Prop) (A : Option Addr) (n : Nat) : Prop := ∀ j, j < n → ∃ b o t cs, A = some ⟨b, o, none⟩ ∧ F b ∧ Blk w b t cs ∧ o + j < cs.size
theorem RdU.wok {w : World} {F : Nat → Prop} {A : Option Addr} {n : Nat} {xs : List Value} (h : RdU w F A n xs) : Wok w F A n := by
  intro j hj
  obtain ⟨b, o, t, cs, e, hf, hb⟩ := h.2 (by omega)
  obtain ⟨b', o', e', _, _, hc⟩ := h.1.2 (by omega)
  rw [e] at e'
  injection e' with e'
  injection e' with e1 e2
  subst e1 e2
  have h1 := hc j hj
  rw [hb.cell, List.getElem?_eq_getElem (by rw [h.1.1]; exact hj)] at h1
  exact ⟨b, o, t, cs, e, hf, hb, (Array.getElem?_eq_some_iff.1 h1).1⟩
theorem Wok.set {w : World} {F : Nat → Prop} {A : Option Addr} {n b o : Nat} (h : Wok w F A n) (e : A = some ⟨b, o, none⟩) (i : Nat) (u : Value) : Wok (w.setCell ⟨b, i, none⟩ u) F A n := by
  intro j hj
  obtain ⟨b', o', t, cs, e', hf, hb, hl⟩ := h j hj
  rw [e] at e'
  injection e' with e'
  injection e' with e1 e2
  subst e1 e2
  exact ⟨b, o, t, _, e, hf, hb.set_ i u, by simpa using hl⟩
theorem Wok.upd {S F : Nat → Prop} {w w' : World} {A : Option Addr} {n : Nat} (h : Wok w F A n) (hu : Upd S w w') (hs : ∀ b, b < w.heap.size → F b → ¬ S b) : Wok w' F A n := by
  intro j hj
  obtain ⟨b, o, t, cs, e, hf, hb, hl⟩ := h j hj
  exact ⟨b, o, t, cs, e, hf, hb.upd hu (hs b hb.lt hf), hl⟩

theorem cheapP_mem : ∀ (l : List ((Int × Int × List Int) × Int)) (c : (Int × Int × List Int) × Int), cheapP c l ∈ c :: l
  | [], c => by simp [cheapP]
  | s :: l, c => by
    rw [cheapP]
    have h := cheapP_mem l (if s.2 < c.2 then s else c)
    rcases List.mem_cons.1 h with h | h
    · rw [h]; split <;> simp
    · exact List.mem_cons_of_mem _ (List.mem_cons_of_mem _ h)
theorem mayN_mem {p : Int} {C : List Int} {cs : List (Int × Int × List Int)} {c : (Int × Int × List Int) × Int} (h : c ∈ mayN p C cs) : c.1 ∈ cs ∧ priceN p C c.1 = some c.2 := by
  unfold mayN at h
  obtain ⟨a, ha, hb⟩ := List.mem_filterMap.1 h
  rcases hp : priceN p C a with _ | x
  · rw [hp] at hb; simp at hb
  · rw [hp] at hb; simp at hb; subst hb; exact ⟨ha, hp⟩
theorem chooseN_len (p lg : Int) (N C : List Int) (hN : N.length ≤ 2 ^ 40) (hC : C.length ≤ 2 ^ 40) : (chooseN p lg N C).2.2.1.length ≤ 2 ^ 40 := by
  unfold chooseN
  split
  · simp
  · split
    · simp
    · rename_i c l hm
      have h1 := cheapP_mem l c
      rw [← hm] at h1
      have h2 := (mayN_mem h1).1
      unfold candsN at h2
      rcases List.mem_cons.1 h2 with h | h
      · simp only [h]; exact hN
      · rcases List.mem_cons.1 h with h | h
        · simp only [h]; have := partN_le p; omega
        · split at h
          · rw [List.mem_singleton] at h
            simp only [h]
            have := normN_length_le C (max (recL C (min (partX p) 9)) 0).toNat
            omega
          · cases h

theorem mdec3U_any (F G : Nat → Prop) (g : Nat) (bs : List Nat) (at_ : Nat) (B : Option Addr) (m d : Nat) (p lg : Int) (N : List Int) (w : World) (hcu : CurAt w F g bs at_) (hF : ∀ b, F b → b ≠ g) (hr : Rd w G B m (ints N)) (hfit : Fit N) (hm : (m : Int) ≤ 1099511627776) :
    Calls Try.prog 20 #[.pointer (some ⟨g, 0, none⟩), .int .i64 3, .int .i64 p, .agg #[.int .i64 lg, .slice B m d]] w fun e w' =>
      ∃ x l A n c, e = .returned (.tuple #[.agg #[.int .i64 l, .slice A n c], .int .i64 x]) ∧ n ≤ 2 ^ 40 ∧ Upd (fun b => b = g) w w' ∧ ∃ M, RdU w' (fun b => w.heap.size ≤ b) A n (ints M) := by
  by_cases hp : p < 0 ∨ 2 < p
  · exact (mdec_part g B m d 3 p lg w hp).mono fun e w' h => ⟨2, 0, none, 0, 0, h.1, by omega, h.2.mono (fun _ _ h => h.elim), [], RdU.nil _ _ _⟩
  · refine (mdec_ok3U F G g bs at_ B m d p lg N w hcu hF hr hfit hm (by omega)).mono fun e w' h => ?_
    obtain ⟨u, -, A, n, c, he, hru⟩ := h
    have hN : N.length = m := by have := hr.1; simpa using this
    refine ⟨_, _, A, n, c, he, ?_, u, _, hru⟩
    have h1 := hru.1.1
    rw [ints_length] at h1
    unfold decM at h1
    rw [if_neg (by decide), if_neg (by decide), if_neg (by decide)] at h1
    split at h1
    · simp only at h1; omega
    · simp at h1; omega

set_option maxRecDepth 100000 in
set_option maxHeartbeats 8000000 in
theorem nil24_any (F G : Nat → Prop) (A B : Option Addr) (n c k d : Nat) (m p lg : Int) (N C : List Int) (w : World) (hr : Rd w F A n (ints N)) (hfit : Fit N) (hs : Rd w G B k (ints C)) (hfitC : Fit C) :
    Calls Try.prog 7 #[.int .i64 m, .int .i64 p, .slice B k d, .agg #[.int .i64 lg, .slice A n c]] w fun e w' => e = .returned (.bool true) ∧ Fresh w w' := by
  have hkn := hide known24_any
  have hk : C.length = k := by have := hs.1; simpa using this
  have hN : N.length = n := by have := hr.1; simpa using this
  obtain ⟨w0, hw0⟩ : ∃ w0, w0 = w.alloc (.cells #[.int .i64 lg, .slice A n c] 26) := ⟨_, rfl⟩
  obtain ⟨H, hH⟩ : ∃ H, H = w.heap.size := ⟨_, rfl⟩
  have f0 : Fresh w w0 := by rw [hw0]; exact (Upd.refl _ _).alloc _
  have bt : Blk w0 H 26 #[.int .i64 lg, .slice A n c] := by rw [hw0]; exact blk_new hH _ _
  have t0 := bt.cell 0
  have t1 := bt.cell 1
  simp at t0 t1
  have HR := hide (fun W (h : Fresh w0 W) => hr.fresh (f0.trans' h))
  have HS := hide (fun W (h : Fresh w0 W) => hs.fresh (f0.trans' h))
  have HF := hide hfit
  have HFC := hide hfitC
  have HM := hide hk
  have HN := hide hN
  have BT := hide bt
  have F0 := hide f0
  have HW := hide hw0
  have HH := hide hH
  clear hr hs hfit hfitC f0 hw0 hH bt hk hN
  refine veil fun R hR => ?_
  by_cases h2 : 100 < k
  · have h2' : (100 : Int) < k := by omega
    go_enter Try.func7, Try.ntmps7
    go_upto_region 1 with fail
    simp only [← HH.out, ← HW.out]
    go_wp2_with fail
    refine (hkn.out _).mono ?_
    rintro e w1 ⟨rfl, f1⟩
    have F1 := hide (F0.out.trans' f1)
    clear f1
    go_wp2_with fail
    try go_ret
    exact hR.out _ _ ⟨rfl, F1.out⟩
  have h2' : ¬ (100 : Int) < k := by omega
  by_cases h1 : 100 < n
  · have h1' : (100 : Int) < n := by omega
    go_enter Try.func7, Try.ntmps7
    go_upto_region 1 with fail
    simp only [← HH.out, ← HW.out]
    go_wp2_with fail
    refine (hkn.out _).mono ?_
    rintro e w1 ⟨rfl, f1⟩
    have F1 := hide (F0.out.trans' f1)
    clear f1
    go_wp2_with fail
    try go_ret
    exact hR.out _ _ ⟨rfl, F1.out⟩
  have h1' : ¬ (100 : Int) < n := by omega
  have HND := hide (mdec_nil A n c m p lg w0)
  clear h1 h2
  go_enter Try.func7, Try.ntmps7
  go_upto_region 1 with fail
  simp only [← HH.out, ← HW.out]
  go_wp2_with fail
  refine HND.out.mono ?_
  rintro e w1 ⟨rfl, f1⟩
  obtain ⟨w4, hw4⟩ : ∃ w4, w4 = w1.alloc (.cells #[.int .i64 0, .slice none 0 0] 26) := ⟨_, rfl⟩
  have f04 : Fresh w0 w4 := by rw [hw4]; exact f1.alloc _
  have b4 := BT.out.fresh f04
  have d0 := b4.cell 0
  have d1 := b4.cell 1
  simp at d0 d1
  have hH4 := b4.lt
  have B4 := hide b4
  have F04 := hide f04
  have HW4 := hide hw4
  have RD4 := hide (HR.out _ f04)
  have q0 : ∀ o, (w1.alloc o).cell? ⟨H, 0, none⟩ = some (.int .i64 lg) := fun o => by have := ((BT.out.fresh f1).alloc o).cell 0; simpa using this
  have q1 : ∀ o, (w1.alloc o).cell? ⟨H, 1, none⟩ = some (.slice A n c) := fun o => by have := ((BT.out.fresh f1).alloc o).cell 1; simpa using this
  clear f1 f04 hw4 b4 HND
  go_upto_region 4 with fail
  simp only [← HW4.out]
  clear q0 q1
  go_cut [11] (fun q wx => ∃ (g : Nat) (A6 : Option Addr) (n6 c6 : Nat), q = .pointer (some ⟨g, 0, none⟩) ∧ Blk wx g 26 #[.int .i64 lg, .slice A6 n6 c6] ∧ Own wx 3 (.slice A6 n6 c6) (ints N) ∧ Fresh w0 wx ∧
    w0.heap.size ≤ g ∧ ∀ k, (Value.slice A6 n6 c6).ownBlock = some k → w0.heap.size ≤ k)
  case first =>
    have hlen6 : (0 : Nat) + n ≤ 2 ^ 40 := by omega
    have da0 : ∀ o, (w4.alloc o).cell? ⟨H, 0, none⟩ = some (.int .i64 lg) := fun o => (World.cell?_alloc_lt _ _ _ hH4).trans d0
    have da1 : ∀ o, (w4.alloc o).cell? ⟨H, 1, none⟩ = some (.slice A n c) := fun o => (World.cell?_alloc_lt _ _ _ hH4).trans d1
    go_region_law ((first
      | (refine step_app _ (by rfl) (.const (.slice none 0 0)) (.tmp 41) _ (by rfl) 3 _ 8 Try.underlying24 infoInt rfl (.slice none 0 0) [] (by rfl) (Own.nil _ _) _ n _ _ (by rfl) RD4.out.drew (ints_one1 N) (by omega) hlen6 ?_
         intro v6 w6 o6 g6 a6
         obtain ⟨A6, n6, c6, rfl, hn6⟩ := o6.form'
         have hc60 := g6.cell d0 (by simp [Value.ownBlock])
         have hc61 : ∀ o, (w6.alloc o).cell? ⟨H, 0, none⟩ = some (.int .i64 lg) := fun o => (World.cell?_alloc_lt _ _ _ (Nat.lt_of_lt_of_le hH4 g6.size)).trans hc60
         have f6 : Fresh w4 w6 := (Upd.refl (fun _ => False) w4).drew.grown g6 (fun k hk => by simp [Value.ownBlock] at hk)
         have fin : ∃ (g : Nat), g = w6.heap.size ∧ Fresh w4 w6 ∧ w4.heap.size ≤ g := ⟨_, rfl, f6, f6.size⟩)
      | (refine step_app _ (by rfl) (.const (.slice none 0 0)) (.tmp 41) _ (by rfl) 3 _ 8 Try.underlying24 infoInt rfl (.slice none 0 0) [] (by rfl) (Own.nil _ _) _ n _ _ (by rfl) ((RD4.out.alloc (.cells #[.int .i64 0, .slice none 0 0] 26)).drew) (ints_one1 N) (by omega) hlen6 ?_
         intro v6 w6 o6 g6 a6
         obtain ⟨A6, n6, c6, rfl, hn6⟩ := o6.form'
         have bq := (Blk.new w4 26 #[.int .i64 0, .slice none 0 0]).drew.grown g6 (by simp [Value.ownBlock])
         have hc60 := g6.cell ((World.cell?_alloc_lt _ _ _ hH4).trans d0) (by simp [Value.ownBlock])
         have q0 := bq.cell 0
         have q1 := bq.cell 1
         have z0 := bq.frozen 0
         have z1 := bq.frozen 1
         have f6 : Fresh w4 w6 := ((Upd.refl (fun _ => False) w4).alloc _).drew.grown g6 (fun k hk => by simp [Value.ownBlock] at hk))))
    all_goals go_wp2_with fail
    all_goals go_meet
    all_goals
      have k6 : ∀ k, (Value.slice A6 n6 c6).ownBlock = some k → w0.heap.size ≤ k := own_S (S := fun k => w0.heap.size ≤ k) a6 (fun k hk => by simp [Value.ownBlock] at hk) (by have := F04.out.size; simp; omega)
      have o6' : Own w6 3 (.slice A6 n6 c6) (ints N) := by simpa using o6
      first
        | exact ⟨w6.heap.size, A6, n6, c6, rfl, by simpa using Blk.new w6 26 #[.int .i64 lg, .slice A6 n6 c6], o6'.alloc _, (F04.out.trans' f6).alloc _, Nat.le_trans F04.out.size f6.size, k6⟩
        | exact ⟨w4.heap.size, A6, n6, c6, rfl, by simpa using (bq.set_ 0 (.int .i64 lg)).set_ 1 (.slice A6 n6 c6), o6'.upd (setTwoT w6 w4.heap.size (.int .i64 lg) (.slice A6 n6 c6)) (fun b hb h => o6'.ne_blk bq (by decide) (by rw [hb, h])),
            (F04.out.trans' f6).trans (setTwoT w6 w4.heap.size (.int .i64 lg) (.slice A6 n6 c6)) (fun b hb h => by have := F04.out.size; omega), F04.out.size, k6⟩
  case rest =>
    obtain ⟨g, A6, n6, c6, rfl, bq, oq, fq, hg, hkq⟩ := hcut
    have hn6 : n6 = n := by have h1 := (oq.rd rfl).1; have h2 := HN.out; simp at h1; omega
    subst hn6
    have hlen1 : (0 : Nat) + k ≤ 2 ^ 40 := by omega
    have RBC := hide (HS.out _ fq)
    have hHc : H < wc.heap.size := by have := BT.out.lt; have := fq.size; omega
    have q0 := bq.cell 0
    have q1 := bq.cell 1
    simp at q0 q1
    have BQ := hide bq
    have OQ := hide oq
    have FQ := hide fq
    have HKQ := hide hkq
    have HL1 := hide hlen1
    clear bq oq fq hkq hlen1 B4 F04 HW4 RD4 d0 d1 hH4
    go_upto_region 6 with (at_builtin; go_must (refine wpList_app _ rfl (.const (.slice none 0 0)) (.tmp 44) _ (by rfl) 3 _ 8 Try.underlying24 infoInt rfl (.slice none 0 0) [] (by rfl) (Own.nil _ _) _ k _ _ (by rfl) RBC.out (ints_one1 C) (by omega) HL1.out ?_); intro v7 w7 o7 g7 a7; obtain ⟨A7, n7, c7, rfl, hn7⟩ := o7.form')
    have hn7k : n7 = k := by have h1 := hn7.out; have h2 := HM.out; simp at h1; omega
    subst hn7k
    have o7' : Own w7 3 (.slice A7 n7 c7) (ints C) := by simpa using o7
    have f67 : Fresh wc w7 := (Upd.refl (fun _ => False) wc).grown g7 (fun k hk => by simp [Value.ownBlock] at hk)
    have kl : ∀ b, (Value.slice A7 n7 c7).ownBlock = some b → wc.heap.size ≤ b := own_S (S := fun b => wc.heap.size ≤ b) a7 (fun k hk => by simp [Value.ownBlock] at hk) (Nat.le_refl _)
    have rl7 := (o7'.rd rfl).2.2
    have e7 : (ints C).length = n7 := by have := HM.out; simpa using this
    rw [e7] at rl7
    have ro7 := ((OQ.out.fresh f67).rd rfl).2.2
    have e6 : (ints N).length = n6 := by have := HN.out; simpa using this
    rw [e6] at ro7
    have b7 := BQ.out.fresh f67
    have q0 := b7.cell 0
    have q1 := b7.cell 1
    simp at q0 q1
    have F7 := hide (FQ.out.trans' f67)
    have RL7 := hide rl7.both
    have RO7 := hide ro7.both
    have BQ7 := hide b7
    have HCH := hide (choose_any _ _ A7 A6 n7 c7 n6 c6 p lg N C w7 ro7 HF.out (by omega) rl7 HFC.out (by omega))
    have HCL := hide (chooseN_len p lg N C (by have := HN.out; omega) (by have := HM.out; omega))
    generalize chooseN p lg N C = r at *
    obtain ⟨r1, r2, r3, r4⟩ := r
    simp only at HCL
    have HKL := hide kl
    clear o7 o7' f67 rl7 ro7 b7 g7 a7 hn7 e7 e6 BQ OQ FQ RBC HL1 HKQ kl hHc
    go_wp2_with fail
    refine HCH.out.mono ?_
    rintro e w8 ⟨A9, n9, c9, rfl, hn9, ru9, f9⟩
    simp only at hn9 ru9
    obtain ⟨K9, hK9⟩ : ∃ K9, K9 = w8.heap.size := ⟨_, rfl⟩
    obtain ⟨w9, hw9⟩ : ∃ w9, w9 = w8.alloc (.cells #[.int .i64 r2, .slice A9 n9 c9] 26) := ⟨_, rfl⟩
    have f89 : Fresh w8 w9 := by rw [hw9]; exact (Upd.refl _ _).alloc _
    have T9 := hide (show Blk w9 K9 26 #[.int .i64 r2, .slice A9 n9 c9] by rw [hw9]; exact blk_new hK9 _ _)
    have RU9 := hide ((ru9.both.fresh f89).mono (G := fun b => w7.heap.size ≤ b ∧ b < K9) (fun b hb => ⟨hb.1, by have := hb.2; omega⟩))
    have F79 := hide (f9.trans' f89)
    have BQ9 := hide (BQ7.out.fresh (f9.trans' f89))
    have HN9 := hide (show n9 ≤ 2 ^ 40 by rw [hn9]; exact HCL.out)
    have HW9 := hide hw9
    have HK9 := hide hK9
    have q0 := BQ9.out.cell 0
    have q1 := BQ9.out.cell 1
    simp at q0 q1
    have h79 : w7.heap.size ≤ K9 := by rw [hK9]; exact f9.size
    have hK9s : K9 < w9.heap.size := T9.out.lt
    clear hw9 hK9 f89 ru9 f9 hn9 HCH HCL
    go_upto_region 7 with fail
    simp only [← HW9.out, ← HK9.out]
    go_cut [16] (fun q wx => ∃ (gb : Nat) (A10 : Option Addr) (n10 c10 : Nat) (x10 : Int) (M : List Int), q = .pointer (some ⟨gb, 0, none⟩) ∧ Blk wx gb 26 #[.int .i64 x10, .slice A10 n10 c10] ∧ RdU wx (fun b => w9.heap.size ≤ b ∧ b ≠ gb) A10 n10 (ints M) ∧ Fresh w9 wx ∧ w9.heap.size ≤ gb ∧ n10 ≤ 2 ^ 40)
    case first =>
      have HNW := hide (fun W => new_any (fun _ => True) none 0 0 [] W (Rd.nil _ _ _) (by simp) (by simp))
      have HDE := hide (fun (F' : Nat → Prop) gc W (hc : CurAt W F' gc [] 0) (hF : ∀ b, F' b → b ≠ gc) (hw : Fresh w9 W) => mdec3U_any F' _ gc [] 0 A6 n6 c6 p lg N W hc hF (RO7.out.fresh (F79.out.trans' hw)) HF.out (by omega))
      have HSS := hide (show ∀ W, Fresh w9 W → (Fresh w9 W ∧ W.cell? ⟨g, 0, none⟩ = some (.int .i64 lg) ∧ W.cell? ⟨g, 1, none⟩ = some (.slice A6 n6 c6)) from fun W h => ⟨h, by simpa using (BQ9.out.fresh h).cell 0, by simpa using (BQ9.out.fresh h).cell 1⟩)
      have HSA := hide (fun W o (h : Fresh w9 W) => HSS.out _ (h.alloc o))
      have HSC := hide (fun W gb (hgb : w9.heap.size ≤ gb) u v (h : Fresh w9 W) => HSS.out _ (Upd.trans h (setTwoT W gb u v) (fun b hb e => by omega)))
      go_region_held3 (fun W => Fresh w9 W ∧ W.cell? ⟨g, 0, none⟩ = some (.int .i64 lg) ∧ W.cell? ⟨g, 1, none⟩ = some (.slice A6 n6 c6))
        (first | exact HSS.out _ (by assumption) | exact HSS.out _ (And.left (by assumption)) | exact HSS.out _ (Upd.refl _ _) | exact HSS.out _ (Upd.refl _ _).drew | exact HSA.out _ _ (by assumption) | exact HSA.out _ _ (And.left (by assumption)) | exact HSA.out _ _ (Upd.refl _ _).drew | exact HSC.out _ _ (by omega) _ _ (by assumption) | exact HSC.out _ _ (by omega) _ _ (And.left (by assumption)))
        (first
          | (go_at_call 21; ((with_reducible refine (HNW.out _).mono ?_); rintro e wn ⟨gc, rfl, hgc, fn, cu⟩); have bz : Blk wn w9.heap.size 26 #[.int .i64 0, .slice none 0 0] := (Blk.new w9.drew 26 #[.int .i64 0, .slice none 0 0]).fresh fn; have fnx : Fresh w9 wn := Upd.trans' (And.left (by assumption)) fn; have hgw : w9.heap.size < gc := (by have h := hgc; simp at h; omega))
          | (go_at_call 21; ((with_reducible refine (HNW.out _).mono ?_); rintro e wn ⟨gc, rfl, hgc, fn, cu⟩); have fnx : Fresh w9 wn := Upd.trans' (And.left (by assumption)) fn; have hgw : w9.heap.size ≤ gc := (by have h := hgc; simp at h; omega); have hgx : w9.heap.size ≤ wn.heap.size := fnx.size; have hgl : gc < wn.heap.size := cu.lt)
          | (go_at_call 20; ((with_reducible refine (HDE.out _ gc _ (by first | exact cu | exact cu.fresh ((Upd.refl _ _).alloc _)) (by intro b hb; exact hb.2) (And.left (by assumption))).mono ?_); rintro e wd ⟨x10, l10, A10, n10, c10, rfl, hn10, ud, M, rud⟩); have bz2 := bz.upd ud (by omega); have fdx : Fresh w9 wd := Upd.trans (And.left (by assumption)) ud (fun b hb e => by omega); have y0 := bz2.cell 0; have y1 := bz2.cell 1; have z0 := bz2.frozen 0; have z1 := bz2.frozen 1)
          | (go_at_call 20; ((with_reducible refine (HDE.out _ gc _ (by first | exact cu | exact cu.fresh ((Upd.refl _ _).alloc _)) (by intro b hb; exact hb.2) (And.left (by assumption))).mono ?_); rintro e wd ⟨x10, l10, A10, n10, c10, rfl, hn10, ud, M, rud⟩); have bz2 : Blk wd wn.heap.size 26 #[.int .i64 0, .slice none 0 0] := (Blk.new wn 26 #[.int .i64 0, .slice none 0 0]).upd ud (by omega); have fdx : Fresh w9 wd := Upd.trans (And.left (by assumption)) ud (fun b hb e => by omega); have y0 := bz2.cell 0; have y1 := bz2.cell 1; have z0 := bz2.frozen 0; have z1 := bz2.frozen 1)
          | (go_at_call 20; ((with_reducible refine (HDE.out _ gc _ (by first | exact cu | exact cu.fresh ((Upd.refl _ _).alloc _)) (by intro b hb; exact hb.2) (And.left (by assumption))).mono ?_); rintro e wd ⟨x10, l10, A10, n10, c10, rfl, hn10, ud, M, rud⟩); have fdx : Fresh w9 wd := Upd.trans (And.left (by assumption)) ud (fun b hb e => by omega)))
      all_goals go_wp2_with fail
      all_goals go_meet
      all_goals
        have hsn := fnx.size
        first
          | (exact ⟨w9.heap.size, A10, n10, c10, l10, M, rfl, by simpa using (bz2.set_ 0 (.int .i64 l10)).set_ 1 (.slice A10 n10 c10), (rud.upd (setTwoT wd w9.heap.size (.int .i64 l10) (.slice A10 n10 c10)) (fun b _ h h' => by have := bz.lt; omega)).mono (fun b h => ⟨by omega, by have := bz.lt; omega⟩), fdx.trans (setTwoT wd w9.heap.size (.int .i64 l10) (.slice A10 n10 c10)) (fun b hb h => by omega), Nat.le_refl _, hn10⟩)
          | (exact ⟨wn.heap.size, A10, n10, c10, l10, M, rfl, by simpa using (bz2.set_ 0 (.int .i64 l10)).set_ 1 (.slice A10 n10 c10), (rud.upd (setTwoT wd wn.heap.size (.int .i64 l10) (.slice A10 n10 c10)) (fun b _ h h' => by have h2 := h; simp at h2; omega)).mono (fun b h => ⟨by have h2 := h; simp at h2; omega, by have h2 := h; simp at h2; omega⟩), fdx.trans (setTwoT wd wn.heap.size (.int .i64 l10) (.slice A10 n10 c10)) (fun b hb h => by omega), hsn, hn10⟩)
          | (exact ⟨wd.heap.size, A10, n10, c10, l10, M, rfl, Blk.new _ _ _, (rud.both.alloc _).mono (fun b h => ⟨by have := h.1; omega, by have := h.2; omega⟩), fdx.alloc _, fdx.size, hn10⟩)
    case rest =>
      obtain ⟨gb, A10, n10, c10, x10, M, rfl, bb, rub, fb, hgb, hn10⟩ := hcut
      have TA := hide (T9.out.fresh fb)
      have TB := hide bb
      have RA := hide (RU9.out.fresh fb)
      have RB := hide rub
      have FB := hide (F79.out.trans' fb)
      have HGB := hide hgb
      have HN10 := hide hn10
      have hKb : K9 < gb := by omega
      clear bb rub fb hgb hn10 T9 RU9 BQ9 F79 HW9 q0 q1
      obtain ⟨FA, hFA⟩ : ∃ FA : Nat → Prop, FA = fun b => w7.heap.size ≤ b ∧ b < K9 := ⟨_, rfl⟩
      obtain ⟨FBq, hFB⟩ : ∃ FBq : Nat → Prop, FBq = fun b => w9.heap.size ≤ b ∧ b ≠ gb := ⟨_, rfl⟩
      rw [← hFA] at RA
      rw [← hFB] at RB
      have HFA := hide (show ∀ b, FA b → w7.heap.size ≤ b ∧ b < K9 from fun b h => by rw [hFA] at h; exact h)
      have HFB := hide (show ∀ b, FBq b → w9.heap.size ≤ b ∧ b ≠ gb from fun b h => by rw [hFB] at h; exact h)
      clear hFA hFB
      have hn9I : (n9 : Int) ≤ 1099511627776 := by have := HN9.out; omega
      have hn10I : (n10 : Int) ≤ 1099511627776 := by have := HN10.out; omega
      obtain ⟨wx, rfl⟩ : ∃ wx : World, wx = wc := ⟨_, rfl⟩
      go_wp2_with fail
      go_loopg [18] n9 (fun f i wr => ∃ j : Nat, j + f = n9 ∧ i = .int .i64 j ∧ Upd FA wx wr ∧ Wok wr FA A9 n9)
      case atStart => exact ⟨0, by omega, rfl, Upd.refl _ _, RA.out.wok⟩
      case round =>
        obtain ⟨j, hj, rfl, ur, hwk⟩ := hrel
        have ta := TA.out.upd ur (fun h => by have := HFA.out _ h; omega)
        have s0 := ta.cell 0
        have s1 := ta.cell 1
        simp at s0 s1
        have HJ := hide hj
        have UR := hide ur
        have HWK := hide hwk
        clear hj ur hwk ta
        by_cases hlt : j < n9
        · obtain ⟨b, o, ty, cs, hA, hf, hbk, hl⟩ := HWK.out j hlt
          have y0 : wr.cell? ⟨b, o + j, none⟩ = some cs[o + j] := by rw [hbk.cell]; exact Array.getElem?_eq_getElem hl
          have y1 := hbk.frozen (o + j)
          have HSET := hide (HWK.out.set hA (o + j) (.int .i64 77))
          have hfb := HFA.out b hf
          have USET := hide (UR.out.setCell (p := ⟨b, o + j, none⟩) (fun _ => hf) (.int .i64 77))
          have hjI : (j : Int) < n9 := by omega
          have hw4 : IntKind.i64.wrap ((j : Int) + 1) = j + 1 := IntWalk.i64_in _ (by omega)
          generalize cs[o + j] = old at *
          subst hA
          clear hl hbk hf
          go_wp2_with fail
          go_roundg (gk - 1)
          case measure => have := HJ.out; omega
          case rel => exact ⟨j + 1, by have := HJ.out; omega, by go_num, USET.out, HSET.out⟩
        · have hjI : ¬ (j : Int) < n9 := by omega
          have TB1 := hide (TB.out.upd UR.out (fun h => by have := HFA.out _ h; omega))
          have RB1 := hide (RB.out.upd UR.out (fun b _ h h' => by have := HFA.out _ h'; have := HFB.out _ h; omega))
          have hgb9 := HGB.out
          have U1 := hide UR.out
          obtain ⟨wy, rfl⟩ : ∃ wy : World, wy = wr := ⟨_, rfl⟩
          clear TB RB HWK UR s0 s1
          have ta := TA.out.upd U1.out (fun h => by have := HFA.out _ h; omega)
          have s0 := ta.cell 0
          have s1 := ta.cell 1
          simp at s0 s1
          clear ta
          go_wp2_with fail
          go_loopg [19] n10 (fun f i wr => ∃ j : Nat, j + f = n10 ∧ i = .int .i64 j ∧ Upd FBq wy wr ∧ Wok wr FBq A10 n10)
          case atStart => exact ⟨0, by omega, rfl, Upd.refl _ _, RB1.out.wok⟩
          case round =>
            obtain ⟨j, hj, rfl, ur, hwk⟩ := hrel
            have tb := TB1.out.upd ur (fun h => by have := HFB.out _ h; omega)
            have s0 := tb.cell 0
            have s1 := tb.cell 1
            simp at s0 s1
            have HJ := hide hj
            have UR := hide ur
            have HWK := hide hwk
            clear hj ur hwk tb
            by_cases hlt : j < n10
            · obtain ⟨b, o, ty, cs, hA, hf, hbk, hl⟩ := HWK.out j hlt
              have y0 : wr.cell? ⟨b, o + j, none⟩ = some cs[o + j] := by rw [hbk.cell]; exact Array.getElem?_eq_getElem hl
              have y1 := hbk.frozen (o + j)
              have HSET := hide (HWK.out.set hA (o + j) (.int .i64 78))
              have USET := hide (UR.out.setCell (p := ⟨b, o + j, none⟩) (fun _ => hf) (.int .i64 78))
              have hjI : (j : Int) < n10 := by omega
              have hw4 : IntKind.i64.wrap ((j : Int) + 1) = j + 1 := IntWalk.i64_in _ (by omega)
              generalize cs[o + j] = old at *
              subst hA
              clear hl hbk hf
              go_wp2_with fail
              go_roundg (gk - 1)
              case measure => have := HJ.out; omega
              case rel => exact ⟨j + 1, by have := HJ.out; omega, by go_num, USET.out, HSET.out⟩
            · have hjI : ¬ (j : Int) < n10 := by omega
              obtain ⟨wz, rfl⟩ : ∃ wz : World, wz = wr := ⟨_, rfl⟩
              have h07 : w0.heap.size ≤ w7.heap.size := F7.out.size
              have hww : w7.heap.size ≤ w9.heap.size := by omega
              have f7x := FB.out
              have F7Z : Fresh w7 wz := (f7x.trans U1.out (fun b hb h => by have := HFA.out _ h; omega)).trans UR.out (fun b hb h => by have := HFB.out _ h; omega)
              have FZ := hide (F7.out.trans' F7Z)
              have RLZ := hide (RL7.out.fresh F7Z)
              have BOZ := hide (BQ7.out.fresh F7Z)
              have ROZ := hide (RO7.out.fresh F7Z)
              have RCZ := hide (HS.out _ FZ.out)
              have RNZ := hide (HR.out _ FZ.out)
              have BHZ := hide (BT.out.fresh FZ.out)
              clear F7Z f7x HWK UR U1 TB1 RB1 TA RA FB
              go_wp2_with fail
              go_loopg [20] n7 (fun f i wr => ∃ j q : Nat, j + f = n7 ∧ i = .int .i64 j ∧ wr = wz.drewN q)
              case atStart => exact ⟨0, 0, by omega, rfl, rfl⟩
              case round =>
                obtain ⟨j, q, hj, rfl, rfl⟩ := hrel
                have HJ := hide hj
                clear hj
                by_cases hlt : j < n7
                · obtain ⟨b1, o1, hk1, rfl, _, hc1⟩ := RLZ.out.int (k := j) hlt
                  obtain ⟨b2, o2, hk2, rfl, _, hc2⟩ := RCZ.out.int (k := j) hlt
                  generalize C[j] = z at *
                  have hj0 : (0 : Int) ≤ (j : Int) := by omega
                  have hjI : (j : Int) < n7 := by omega
                  have hw4 : IntKind.i64.wrap ((j : Int) + 1) = j + 1 := IntWalk.i64_in _ (by omega)
                  go_wp2_with fail
                  go_quiet (fail)
                  go_wp2_with fail
                  go_roundg (gk - 1)
                  case measure => have := HJ.out; omega
                  case rel => exact ⟨j + 1, _, by have := HJ.out; omega, by go_num, rfl⟩
                · have hjI : ¬ (j : Int) < n7 := by omega
                  have FQ := hide (show Fresh w0 (wz.drewN q) from FZ.out.drewN q)
                  have s0 : (wz.drewN q).cell? ⟨g, 0, none⟩ = some (.int .i64 lg) := by simpa using (BOZ.out.drewN q).cell 0
                  have s1 : (wz.drewN q).cell? ⟨g, 1, none⟩ = some (.slice A6 n6 c6) := by simpa using (BOZ.out.drewN q).cell 1
                  have s2 : (wz.drewN q).cell? ⟨H, 0, none⟩ = some (.int .i64 lg) := by simpa using (BHZ.out.drewN q).cell 0
                  have s3 : (wz.drewN q).cell? ⟨H, 1, none⟩ = some (.slice A n6 c) := by simpa using (BHZ.out.drewN q).cell 1
                  have hsm := same07_any _ _ A6 A n6 n6 c6 c lg lg N N (wz.drewN q) (ROZ.out.drewN q) (RNZ.out.drewN q) (by omega) (by omega)
                  rw [decide_eq_true ⟨rfl, rfl⟩] at hsm
                  have HSM := hide hsm
                  clear hsm
                  generalize wz.drewN q = we at *
                  go_wp2_with fail
                  refine HSM.out.mono ?_
                  rintro e wf ⟨rfl, ff⟩
                  have FF := hide (FQ.out.trans' ff)
                  clear ff
                  go_wp2_with fail
                  refine (hkn.out _).mono ?_
                  rintro e wg ⟨rfl, fg⟩
                  have FG := hide (FF.out.trans' fg)
                  clear fg
                  go_wp2_with fail
                  try go_ret
                  exact hR.out _ _ ⟨rfl, F0.out.trans' FG.out⟩

end Go.Proofs.Ytcdbfddoanigbaa
