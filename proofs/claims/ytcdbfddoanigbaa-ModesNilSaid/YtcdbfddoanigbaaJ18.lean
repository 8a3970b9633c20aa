/-
  Joined texts, part 18: contracts and plain lemmas, each under its own heading below.
  Conditions: none beyond those of each theorem.
-/
import Derived.Test.YtcdbfddoanigbaaJ17
/-
  Package modes: Decode in mode three, its norms writable.
  Conditions: none beyond those of each theorem.
-/
namespace Go.Proofs.Ytcdbfddoanigbaa
open Go.RowKit
set_option linter.unusedVariables false
set_option linter.unusedSimpArgs false

/-- what a way's get leaves, the norms writable -/
def WayPostU (F : Nat → Prop) (g : Nat) (bs : List Nat) (at_ : Nat) (x lg : Int) (N : List Int) (k : Nat) (w : World) (e : Ending) (w' : World) : Prop :=
  Upd (fun b => b = g) w w' ∧ CurAt w' F g bs (at_ + k) ∧ ∃ A n c, e = .returned (.tuple #[.agg #[.int .i64 lg, .slice A n c], .int .i64 x]) ∧ RdU w' (fun b => w.heap.size ≤ b) A n (ints N)

theorem way_wrapU {F : Nat → Prop} {g : Nat} {bs : List Nat} {at_ k n c H : Nat} {x lg : Int} {N : List Int} {A : Option Addr} {w w0 w1 : World} (f0 : Fresh w w0) (h0 : w.heap.size ≤ H) (h1 : H < w0.heap.size) (hg : g < w.heap.size)
    (u1 : Upd (fun b => b = g) w0 w1) (c1 : CurAt w1 (fun b => F b ∧ b < w.heap.size) g bs (at_ + k)) (r1 : RdU w1 (fun b => w0.heap.size ≤ b) A n (ints N)) {v : Ending} (hv : v = .returned (.tuple #[.agg #[.int .i64 lg, .slice A n c], .int .i64 x])) :
    WayPostU F g bs at_ x lg N k w v ((w1.setCell ⟨H, 0, none⟩ (.int .i64 lg)).setCell ⟨H, 1, none⟩ (.slice A n c)) := by
  have u3 := setTwoP w1 H (.int .i64 lg) (.slice A n c)
  refine ⟨((f0.mono (T := fun b => b = g) (fun _ _ h => h.elim)).trans' u1).trans u3 (fun b hb h => by omega), ?_, A, n, c, hv, ?_⟩
  · exact (c1.upd u3 (by omega) (fun b _ hb h => by have := hb.2; omega)).mono fun b hb => hb.1
  · exact (r1.upd u3 (fun b _ hb h => by omega)).mono fun b hb => by have := f0.size; omega

set_option maxRecDepth 100000 in
set_option maxHeartbeats 2000000 in
theorem way6_noU (F G : Nat → Prop) (g : Nat) (bs : List Nat) (at_ : Nat) (B : Option Addr) (m d : Nat) (p s x lg : Int) (N : List Int) (w : World) (hcu : CurAt w F g bs at_) (hr : Rd w G B m (ints N)) (hfit : Fit N) (hm : (m : Int) ≤ 1099511627776)
    (hv : ¬ Valid lg N s x) :
    Calls Try.prog 56 #[.agg #[.int .i64 p, .int .i64 s, .int .i64 x, .int .i64 lg, .slice B m d], .pointer (some ⟨g, 0, none⟩)] w
      (WayPostU F g bs at_ 13 0 [] 0 w) := by
  obtain ⟨w0, hw0⟩ : ∃ w0, w0 = (w.alloc (.cells #[.int .i64 p, .int .i64 s, .int .i64 x, .int .i64 lg, .slice B m d] 59)).alloc (.cells #[.int .i64 0, .slice none 0 0] 26) := ⟨_, rfl⟩
  obtain ⟨H, hH⟩ : ∃ H, H = w.heap.size := ⟨_, rfl⟩
  have f0 : Fresh w w0 := by rw [hw0]; exact ((Upd.refl _ _).alloc _).alloc _
  have bp : Blk w0 H 59 #[.int .i64 p, .int .i64 s, .int .i64 x, .int .i64 lg, .slice B m d] := by rw [hw0]; exact (blk_new hH _ _).alloc _
  have bt : Blk w0 (H + 1) 26 #[.int .i64 0, .slice none 0 0] := by rw [hw0]; exact blk_new (by simp [hH]) _ _
  have HMY := hide ((pmay_any G B B m m d d p s x lg lg N w0 (hr.fresh f0) hfit hm).mono fun e w' q => (⟨by rw [q.1, if_neg hv], q.2⟩ : e = .returned (.int .i64 13) ∧ Fresh w0 w'))
  have q0 := bp.cell 0
  have q1 := bp.cell 1
  have q2 := bp.cell 2
  have q3 := bp.cell 3
  have q4 := bp.cell 4
  simp at q0 q1 q2 q3 q4
  have HG := hide hcu.lt
  have CU := hide (hcu.both.fresh f0)
  have BT := hide bt
  have F0 := hide f0
  have HW := hide hw0
  have HH := hide hH
  clear hcu bp bt f0 hw0 hH hv hr hm hfit
  refine veil fun R hR => ?_
  go_enter Try.func56, Try.ntmps56
  go_wp2_with fail
  simp only [← HH.out, ← HW.out]
  go_wp2_with fail
  refine HMY.out.mono ?_
  rintro e w1 ⟨rfl, f2⟩
  have t1 := BT.out.fresh f2
  have c0 := t1.cell 0
  have c2 := t1.cell 1
  have z0 := t1.frozen 0
  have z1 := t1.frozen 1
  simp at c0 c2
  have T1 := hide t1
  have F2 := hide f2
  have CU2 := hide (CU.out.fresh f2)
  clear f2 t1
  go_wp2_with fail
  refine bodyPost_ret (results_cell_tmp_row rfl _ _ (H + 1) _ _ _ rfl ((T1.out.set_ 0 (.int .i64 0)).set_ 1 (.slice none 0 0)) Try.underlying26 rfl (by kernel_rfl)) rfl ?_
  exact hR.out _ _ (way_wrapU F0.out (by have := HH.out; omega) BT.out.lt HG.out (F2.out.mono (fun _ _ h => h.elim)) CU2.out (RdU.nil _ _ _) rfl)

set_option maxRecDepth 100000 in
set_option maxHeartbeats 4000000 in
theorem way6_okU (F G : Nat → Prop) (g : Nat) (bs : List Nat) (at_ : Nat) (B : Option Addr) (m d : Nat) (p s x lg : Int) (N : List Int) (w : World) (hcu : CurAt w F g bs at_) (hr : Rd w G B m (ints N)) (hfit : Fit N) (hm : (m : Int) ≤ 1099511627776)
    (hv : Valid lg N s x) :
    Calls Try.prog 56 #[.agg #[.int .i64 p, .int .i64 s, .int .i64 x, .int .i64 lg, .slice B m d], .pointer (some ⟨g, 0, none⟩)] w
      (WayPostU F g bs at_ 0 lg N 0 w) := by
  obtain ⟨w0, hw0⟩ : ∃ w0, w0 = (w.alloc (.cells #[.int .i64 p, .int .i64 s, .int .i64 x, .int .i64 lg, .slice B m d] 59)).alloc (.cells #[.int .i64 0, .slice none 0 0] 26) := ⟨_, rfl⟩
  obtain ⟨H, hH⟩ : ∃ H, H = w.heap.size := ⟨_, rfl⟩
  have f0 : Fresh w w0 := by rw [hw0]; exact ((Upd.refl _ _).alloc _).alloc _
  have bp : Blk w0 H 59 #[.int .i64 p, .int .i64 s, .int .i64 x, .int .i64 lg, .slice B m d] := by rw [hw0]; exact (blk_new hH _ _).alloc _
  have bt : Blk w0 (H + 1) 26 #[.int .i64 0, .slice none 0 0] := by rw [hw0]; exact blk_new (by simp [hH]) _ _
  have HMY := hide ((pmay_any G B B m m d d p s x lg lg N w0 (hr.fresh f0) hfit hm).mono fun e w' q => (⟨by rw [q.1, if_pos hv], q.2⟩ : e = .returned (.int .i64 0) ∧ Fresh w0 w'))
  have hN : N.length = m := by have := hr.1; simpa using this
  have hm0 : 0 < m := by have := hv.2.2.2.1; omega
  have HCL := hide (fun W (h : Fresh w0 W) => icloneU_any G B m d N W (hr.fresh (f0.trans' h)) (by omega) hm0)
  have q0 := bp.cell 0
  have q1 := bp.cell 1
  have q2 := bp.cell 2
  have q3 := bp.cell 3
  have q4 := bp.cell 4
  simp at q0 q1 q2 q3 q4
  have HG := hide hcu.lt
  have CU := hide (hcu.both.fresh f0)
  have BT := hide bt
  have BP := hide bp
  have F0 := hide f0
  have HW := hide hw0
  have HH := hide hH
  clear hcu bp bt f0 hw0 hH hv hr hm hfit hN hm0
  refine veil fun R hR => ?_
  go_enter Try.func56, Try.ntmps56
  go_wp2_with fail
  simp only [← HH.out, ← HW.out]
  go_wp2_with fail
  refine HMY.out.mono ?_
  rintro e w1 ⟨rfl, f2⟩
  have t1 := BT.out.fresh f2
  have p1 := BP.out.fresh f2
  have hS4 : ∀ W, Fresh w1 W → (Fresh w1 W ∧ W.cell? ⟨H, 3, none⟩ = some (.int .i64 lg) ∧ W.cell? ⟨H, 4, none⟩ = some (.slice B m d) ∧ W.cell? ⟨H + 1, 0, none⟩ = some (.int .i64 0) ∧ W.cell? ⟨H + 1, 1, none⟩ = some (.slice none 0 0) ∧ W.frozen? ⟨H + 1, 0, none⟩ = false ∧ W.frozen? ⟨H + 1, 1, none⟩ = false) := by
    intro W hW
    have b1 := p1.fresh hW
    have b2 := t1.fresh hW
    exact ⟨hW, by simpa using b1.cell 3, by simpa using b1.cell 4, by simpa using b2.cell 0, by simpa using b2.cell 1, b2.frozen 0, b2.frozen 1⟩
  have HSS := hide hS4
  have T1 := hide t1
  have F2 := hide f2
  have CU2 := hide (CU.out.fresh f2)
  clear f2 t1 p1 hS4 q0 q1 q2 q3 q4
  go_wp2_with fail
  obtain ⟨-, k3, k4, -⟩ := HSS.out w1 (Upd.refl _ _)
  go_region_with
    (first
      | (go_at_call 37; refine (HCL.out _ (by first | exact F2.out | exact F2.out.drew | exact F2.out.drewN _)).mono ?_; rintro e w' ⟨g2, c2, rfl, r2, f3⟩; have f3x : Fresh w1 w' := (by first | exact f3 | exact Upd.trans' ((Upd.refl _ _).drew) f3); obtain ⟨-, k3x, k4x, c0x, c1x, z0x, z1x⟩ := HSS.out _ f3x))
  all_goals
    have t3 := T1.out.fresh f3x
    have hsz : w0.heap.size ≤ w1.heap.size := F2.out.size
    have r3 := r2.mono (G := fun b => w0.heap.size ≤ b) (fun b hb => Nat.le_trans hsz hb)
    have T3 := hide t3
    have R3 := hide r3
    have CU3 := hide (CU2.out.fresh f3x)
    clear t3 r3 r2
    go_wp2_with fail
    refine bodyPost_ret (results_cell_tmp_row rfl _ _ (H + 1) _ _ _ rfl ((T3.out.set_ 0 (.int .i64 lg)).set_ 1 (.slice (some ⟨g2, 0, none⟩) m c2)) Try.underlying26 rfl (by kernel_rfl)) rfl ?_
    exact hR.out _ _ (way_wrapU F0.out (by have := HH.out; omega) BT.out.lt HG.out ((F2.out.trans' f3x).mono (fun _ _ h => h.elim)) CU3.out R3.out rfl)

theorem getM3U (F G : Nat → Prop) (g : Nat) (bs : List Nat) (at_ : Nat) (B : Option Addr) (m d : Nat) (p lg : Int) (N : List Int) (W : World) (hcu : CurAt W F g bs at_) (hF : ∀ b, F b → b ≠ g) (hr : Rd W G B m (ints N)) (hfit : Fit N) (hm : (m : Int) ≤ 1099511627776) (hp : 0 ≤ p ∧ p ≤ 2) :
    Calls Try.prog 56 #[.agg #[.int .i64 p, .int .i64 (partS p), .int .i64 (partX p), .int .i64 lg, .slice B m d], .pointer (some ⟨g, 0, none⟩)] W
      (WayPostU F g bs at_ (decM 3 p lg N bs at_).1 (decM 3 p lg N bs at_).2.1 (decM 3 p lg N bs at_).2.2.1 (decM 3 p lg N bs at_).2.2.2 W) := by
  by_cases hv : Valid lg N (partS p) (partX p)
  · have h : decM 3 p lg N bs at_ = (0, lg, N, 0) := by simp [decM, hv]
    rw [h]
    exact way6_okU F G g bs at_ B m d p _ _ lg N W hcu hr hfit hm hv
  · have h : decM 3 p lg N bs at_ = (13, 0, [], 0) := by simp [decM, hv]
    rw [h]
    exact way6_noU F G g bs at_ B m d p _ _ lg N W hcu hr hfit hm hv

set_option maxRecDepth 100000 in
set_option maxHeartbeats 4000000 in
theorem mdec_ok3U (F G : Nat → Prop) (g : Nat) (bs : List Nat) (at_ : Nat) (B : Option Addr) (m d : Nat) (p lg : Int) (N : List Int) (w : World) (hcu : CurAt w F g bs at_) (hF : ∀ b, F b → b ≠ g) (hr : Rd w G B m (ints N)) (hfit : Fit N) (hm : (m : Int) ≤ 1099511627776) (hp : 0 ≤ p ∧ p ≤ 2) :
    Calls Try.prog 20 #[.pointer (some ⟨g, 0, none⟩), .int .i64 3, .int .i64 p, .agg #[.int .i64 lg, .slice B m d]] w (WayPostU F g bs at_ (decM 3 p lg N bs at_).1 (decM 3 p lg N bs at_).2.1 (decM 3 p lg N bs at_).2.2.1 (decM 3 p lg N bs at_).2.2.2 w) := by
  obtain ⟨w0, hw0⟩ : ∃ w0, w0 = (w.alloc (.cells #[.int .i64 lg, .slice B m d] 26)).alloc (.cells #[.int .i64 0, .slice none 0 0] 26) := ⟨_, rfl⟩
  obtain ⟨H, hH⟩ : ∃ H, H = w.heap.size := ⟨_, rfl⟩
  have f0 : Fresh w w0 := by rw [hw0]; exact ((Upd.refl _ _).alloc _).alloc _
  have bt : Blk w0 H 26 #[.int .i64 lg, .slice B m d] := by rw [hw0]; exact (blk_new hH _ _).alloc _
  have br : Blk w0 (H + 1) 26 #[.int .i64 0, .slice none 0 0] := by rw [hw0]; exact blk_new (by simp [hH]) _ _
  have HM := hide (mof_any p lg B m d w0 hp)
  have BR := hide br
  have F0 := hide f0
  have HW := hide hw0
  have HH := hide hH
  have HWY := hide (ways_raw)
  have t0 := bt.cell 0
  have t1 := bt.cell 1
  simp at t0 t1
  have HWK := hide (fun W (h : Fresh w W) => getM3U (fun b => F b ∧ b < w.heap.size) G g bs at_ B m d p lg N W (hcu.both.fresh h) (fun b hb => hF b hb.1) (hr.fresh h) hfit hm hp)
  have HG := hide hcu.lt
  have HGH : ¬ (H + 1 = g) := by have := hcu.lt; omega
  generalize decM 3 p lg N bs at_ = dn at *
  obtain ⟨dx, dl, dN, dk⟩ := dn
  simp only at HWK ⊢
  clear bt br f0 hw0 hH hp hcu hF hr hfit hm
  generalize partS p = s at *
  generalize partX p = x at *
  refine veil fun R hR => ?_
  go_enter Try.func20, Try.ntmps20
  go_wp2_with fail
  simp only [← HH.out, ← HW.out]
  go_wp2_with fail
  refine HM.out.mono ?_
  rintro e w1 ⟨rfl, f1⟩
  obtain ⟨w2, hw2⟩ : ∃ w2, w2 = w1.alloc (.cells #[.int .i64 p, .int .i64 s, .int .i64 x, .int .i64 lg, .slice B m d] 59) := ⟨_, rfl⟩
  obtain ⟨H1, hH1⟩ : ∃ H1, H1 = w1.heap.size := ⟨_, rfl⟩
  have f12 : Fresh w1 w2 := by rw [hw2]; exact (Upd.refl _ _).alloc _
  have r2 := BR.out.fresh (f1.trans' f12)
  have c2 : Blk w2 H1 59 #[.int .i64 p, .int .i64 s, .int .i64 x, .int .i64 lg, .slice B m d] := by rw [hw2]; exact blk_new hH1 _ _
  have R2 := hide r2
  have C2 := hide c2
  have F2 := hide ((F0.out.trans' f1).trans' f12)
  have HW2 := hide hw2
  have HH1 := hide hH1
  clear f1 f12 r2 c2 hw2 hH1
  go_wp2_with fail
  simp only [← HW2.out]
  refine (HWY.out _).mono ?_
  rintro e w3 ⟨rfl, f3⟩
  have r3 := R2.out.fresh f3
  have p3 := C2.out.fresh f3
  have F3 := hide (F2.out.trans' f3)
  have hS3 : ∀ W, Fresh w3 W → (Fresh w3 W ∧ W.cell? ⟨H1, 0, none⟩ = some (.int .i64 p) ∧ W.cell? ⟨H1, 1, none⟩ = some (.int .i64 s) ∧ W.cell? ⟨H1, 2, none⟩ = some (.int .i64 x) ∧ W.cell? ⟨H1, 3, none⟩ = some (.int .i64 lg) ∧ W.cell? ⟨H1, 4, none⟩ = some (.slice B m d)) := by
    intro W hW
    have b2 := p3.fresh hW
    exact ⟨hW, by simpa using b2.cell 0, by simpa using b2.cell 1, by simpa using b2.cell 2, by simpa using b2.cell 3, by simpa using b2.cell 4⟩
  have HSS := hide hS3
  have R3 := hide r3
  have hix : ∀ W, (Instr.index 66 (.agg #[.func (.func 46) #[] #[], .func (.func 48) #[] #[], .func (.func 50) #[] #[], .func (.func 51) #[] #[], .func (.func 52) #[] #[], .func (.func 54) #[] #[], .func (.func 56) #[] #[], .func (.func 57) #[] #[]]) (.int .i64 3)).run Try.prog W = .ok (.agg #[.func (.func 56) #[] #[], .func (.func 57) #[] #[]]) W := fun _ => by kernel_rfl
  have hfl : ∀ W, (Instr.field 65 (.agg #[.func (.func 56) #[] #[], .func (.func 57) #[] #[]]) 0).run Try.prog W = .ok (.func (.func 56) #[] #[]) W := fun _ => by kernel_rfl
  simp only [← HH1.out]
  clear f3 r3 p3 hS3
  go_wp2_with fail
  obtain ⟨-, k0, k1, k2, k3, k4⟩ := HSS.out w3 (Upd.refl _ _)
  go_region_with
    (first
      | (go_at_call 27; refine (HWY.out _).mono ?_; rintro e wa ⟨rfl, fa⟩; have fax : Fresh w3 wa := (by first | exact fa | exact Upd.trans' ((Upd.refl _ _).drew) fa); obtain ⟨-, a0, a1, a2, a3, a4⟩ := HSS.out _ fax)
      | (go_at_call 56; refine (HWK.out _ (by first | exact F3.out.trans' fax | exact (F3.out.trans' fax).drew | exact (F3.out.trans' fax).drewN _)).mono ?_; rintro e w' ⟨u1, c1, A, n, c, rfl, r1⟩; have rx : Blk w' (H + 1) 26 #[.int .i64 0, .slice none 0 0] := (by first | exact (R3.out.fresh fax).upd u1 HGH | exact (R3.out.fresh fax).drew.upd u1 HGH); have b0 : w'.cell? ⟨H + 1, 0, none⟩ = some (.int .i64 0) := rx.cell 0; have b1 : w'.cell? ⟨H + 1, 1, none⟩ = some (.slice none 0 0) := rx.cell 1; have b2 := rx.frozen 0; have b3 := rx.frozen 1; have RX := hide rx; clear rx))
  all_goals
    have U1 := hide u1
    have C1 := hide c1
    have RR := hide r1
    clear u1 c1 r1
    go_wp2_with fail
    refine bodyPost_ret (results_cell_tmp_row rfl _ _ (H + 1) _ _ _ rfl ((RX.out.set_ 0 (.int .i64 dl)).set_ 1 (.slice A n c)) Try.underlying26 rfl (by kernel_rfl)) rfl ?_
    first
      | exact hR.out _ _ (way_wrapU (F3.out.trans' fax) (by have := HH.out; omega) (R3.out.fresh fax).lt HG.out U1.out C1.out RR.out rfl)
      | exact hR.out _ _ (way_wrapU (F3.out.trans' fax).drew (by have := HH.out; omega) (R3.out.fresh fax).lt HG.out U1.out C1.out RR.out rfl)

end Go.Proofs.Ytcdbfddoanigbaa
