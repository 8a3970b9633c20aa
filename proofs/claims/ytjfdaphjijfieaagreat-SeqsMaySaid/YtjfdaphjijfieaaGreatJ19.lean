/-
  Joined texts, part 19: contracts and plain lemmas, each under its own heading below.
  Conditions: none beyond those of each theorem.
-/
import Derived.Test.YtjfdaphjijfieaaGreatJ18
/-
  slices.MinFunc of choices: the first of the cheapest.
  Conditions: none beyond those of each theorem.
-/
namespace Go.Proofs.YtjfdaphjijfieaaGreat
open Go.RowKit
set_option linter.unusedVariables false
set_option linter.unusedSimpArgs false

/-- a choice: mode, Log, norms' slice, price -/
structure Ch where
  mo : Int
  lg : Int
  A : Option Addr
  n : Nat
  c : Nat
  x : Int
def Ch.vals (t : Ch) : List Value := [.int .i64 t.mo, .int .i64 t.lg, .slice t.A t.n t.c, .int .i64 t.x]
def Ch.val (t : Ch) : Value := .agg #[.int .i64 t.mo, .int .i64 t.lg, .slice t.A t.n t.c, .int .i64 t.x]
/-- choices in memory from b, o on -/
def Chs (w : World) (b o : Nat) (ts : List Ch) : Prop := b < w.heap.size ∧ ∀ j (h : j < ts.length),
  w.cell? ⟨b, o + j * 4, none⟩ = some (.int .i64 ts[j].mo) ∧ w.cell? ⟨b, o + j * 4 + 1, none⟩ = some (.int .i64 ts[j].lg) ∧ w.cell? ⟨b, o + j * 4 + 2, none⟩ = some (.slice ts[j].A ts[j].n ts[j].c) ∧ w.cell? ⟨b, o + j * 4 + 3, none⟩ = some (.int .i64 ts[j].x)
theorem Chs.upd {S : Nat → Prop} {w w' : World} {b o : Nat} {ts : List Ch} (h : Chs w b o ts) (hu : Upd S w w') (hn : ¬ S b) : Chs w' b o ts := by
  refine ⟨Nat.lt_of_lt_of_le h.1 hu.size, fun j hj => ?_⟩
  obtain ⟨h1, h2, h3, h4⟩ := h.2 j hj
  refine ⟨?_, ?_, ?_, ?_⟩
  · rw [← h1]; exact hu.cell (p := ⟨b, _, none⟩) h.1 hn
  · rw [← h2]; exact hu.cell (p := ⟨b, _, none⟩) h.1 hn
  · rw [← h3]; exact hu.cell (p := ⟨b, _, none⟩) h.1 hn
  · rw [← h4]; exact hu.cell (p := ⟨b, _, none⟩) h.1 hn
theorem Chs.fresh {w w' : World} {b o : Nat} {ts : List Ch} (h : Chs w b o ts) (hu : Fresh w w') : Chs w' b o ts := h.upd hu fun h => h

/-- the first of the cheapest -/
def cheapest : Ch → List Ch → Ch
  | t, [] => t
  | t, s :: l => cheapest (if s.x < t.x then s else t) l

set_option maxRecDepth 100000 in
set_option maxHeartbeats 4000000 in
theorem minf_any (b o cc n pc : Nat) (ts : List Ch) (t0 : Ch) (w : World) (hc : Chs w b o ts) (hn : ts.length = n) (h0 : ts[0]? = some t0) (hx : ∀ t ∈ ts, -(2 ^ 60) ≤ t.x ∧ t.x ≤ 2 ^ 60)
    (hbig : n ≤ 2 ^ 40) (bc : Blk w pc 229 #[.func (.func 123) #[] #[]]) :
    Calls Tryz.prog 172 #[.slice (some ⟨b, o, none⟩) n cc, .func (.func 173) #[] #[.pointer (some ⟨pc, 0, none⟩)]] w fun e w' =>
      e = .returned (cheapest t0 (ts.drop 1)).val ∧ Fresh w w' := by
  have hn1 : 1 ≤ n := by
    rcases Nat.eq_zero_or_pos n with h | h
    · have : ts = [] := List.eq_nil_of_length_eq_zero (by omega)
      subst this; simp at h0
    · exact h
  have hl0 : 0 < ts.length := by omega
  have e0 : ts[0] = t0 := by rw [List.getElem?_eq_getElem hl0] at h0; simpa using h0
  obtain ⟨H, hH⟩ : ∃ H, H = w.heap.size := ⟨_, rfl⟩
  obtain ⟨w0, hw0⟩ : ∃ w0, w0 = w.alloc (.cells #[.int .i64 0, .int .i64 0, .slice none 0 0, .int .i64 0] 226) := ⟨_, rfl⟩
  have f0 : Fresh w w0 := by rw [hw0]; exact (Upd.refl _ _).alloc _
  have br : Blk w0 H 226 #[.int .i64 0, .int .i64 0, .slice none 0 0, .int .i64 0] := by rw [hw0]; exact blk_new hH _ _
  obtain ⟨i1, i2, i3, i4⟩ := (hc.fresh f0).2 0 hl0
  rw [e0] at i1 i2 i3 i4
  simp only [Nat.zero_mul, Nat.add_zero] at i1 i2 i3 i4
  have hbl := hc.1
  have hx0 := hx t0 (by rw [← e0]; exact List.getElem_mem hl0)
  have hn1I : ¬ ((n : Int) < 1) := by omega
  have HC := hide hc
  have HN := hide hn
  have HX := hide hx
  have HX0 := hide hx0
  have BC := hide bc
  have BR := hide br
  have F0 := hide f0
  have HW := hide hw0
  have HH := hide hH
  have HBL := hide hbl
  clear hc hn hx hx0 bc br f0 hw0 hH hbl e0 h0 hl0
  refine veil fun R hR => ?_
  go_enter Tryz.func172, Tryz.ntmps172
  go_upto_region 3 with fail
  simp only [← HH.out, ← HW.out]
  go_wp2_with fail
  have hsz : w0.heap.size = H + 1 := by rw [HW.out, HH.out]; simp
  obtain ⟨w1, hw1⟩ : ∃ w1, w1 = w0.alloc (.cells #[.int .i64 t0.mo, .int .i64 t0.lg, .slice t0.A t0.n t0.c, .int .i64 t0.x] 226) := ⟨_, rfl⟩
  rw [← hw1, hsz]
  have f1 : Fresh w0 w1 := by rw [hw1]; exact (Upd.refl _ _).alloc _
  have B1 := hide (show Blk w1 (H + 1) 226 #[.int .i64 t0.mo, .int .i64 t0.lg, .slice t0.A t0.n t0.c, .int .i64 t0.x] by rw [hw1]; exact blk_new hsz.symm _ _)
  have R1 := hide (BR.out.fresh f1)
  have F1 := hide (F0.out.trans' f1)
  clear i1 i2 i3 i4 f1 hw1 hsz
  go_loopg [6] (n - 1) (fun f i wr => Upd (fun b => b = H + 1) w1 wr ∧ ∃ (k : Nat) (t : Ch), k + f = n ∧ i = .int .i64 k ∧ Blk wr (H + 1) 226 #[.int .i64 t.mo, .int .i64 t.lg, .slice t.A t.n t.c, .int .i64 t.x] ∧ cheapest t0 (ts.drop 1) = cheapest t (ts.drop k) ∧ -(2 ^ 60) ≤ t.x ∧ t.x ≤ 2 ^ 60)
  case atStart => exact ⟨Upd.refl _ _, 1, t0, by omega, rfl, B1.out, rfl, HX0.out.1, HX0.out.2⟩
  case round =>
    obtain ⟨ur, k, t, hk, rfl, bt, hgo, hx0, hx1⟩ := hrel
    have HK := hide hk
    have HGO := hide hgo
    have BT := hide bt
    have UR := hide ur
    have hH1 : ¬ (b = H + 1) := by have := HBL.out; have := HH.out; omega
    have UW := hide ((F1.out.mono (T := fun b => b = H + 1) (fun _ _ h => h.elim)).trans' ur)
    clear hk hgo ur
    by_cases hlt : k < n
    · have hkt : k < ts.length := by have := HN.out; omega
      have hcr := HC.out.upd UW.out hH1
      have hxy := HX.out ts[k] (List.getElem_mem hkt)
      have hdr : ts.drop k = ts[k] :: ts.drop (k + 1) := List.drop_eq_getElem_cons hkt
      have hcc := fun W (h : Fresh wr W) => (hcr.fresh h).2 k hkt
      obtain ⟨y, hy⟩ : ∃ y, y = ts[k] := ⟨_, rfl⟩
      rw [← hy] at hxy hdr
      simp only [← hy] at hcc
      have hbl : Blk wr pc 229 #[.func (.func 123) #[] #[]] := BC.out.upd UW.out (by have := BC.out.lt; have := HH.out; omega)
      have hS : ∀ W, Fresh wr W → (Fresh wr W ∧ W.cell? ⟨b, o + k * 4, none⟩ = some (.int .i64 y.mo) ∧ W.cell? ⟨b, o + k * 4 + 1, none⟩ = some (.int .i64 y.lg) ∧ W.cell? ⟨b, o + k * 4 + 2, none⟩ = some (.slice y.A y.n y.c) ∧ W.cell? ⟨b, o + k * 4 + 3, none⟩ = some (.int .i64 y.x) ∧ W.cell? ⟨H + 1, 0, none⟩ = some (.int .i64 t.mo) ∧ W.cell? ⟨H + 1, 1, none⟩ = some (.int .i64 t.lg) ∧ W.cell? ⟨H + 1, 2, none⟩ = some (.slice t.A t.n t.c) ∧ W.cell? ⟨H + 1, 3, none⟩ = some (.int .i64 t.x)) := by
        intro W hW
        have b2 := BT.out.fresh hW
        obtain ⟨q1, q2, q3, q4⟩ := hcc W hW
        exact ⟨hW, q1, q2, q3, q4, by simpa using b2.cell 0, by simpa using b2.cell 1, by simpa using b2.cell 2, by simpa using b2.cell 3⟩
      have HSS := hide hS
      have HCA := hide (fun W (h : Fresh wr W) => cheaper_any y.A t.A y.n y.c t.n t.c pc y.mo y.lg y.x t.mo t.lg t.x W hxy ⟨hx0, hx1⟩ (hbl.fresh h))
      have HDR := hide hdr
      have HXY := hide hxy
      have hlI : (k : Int) < n := by omega
      have hw4 : IntKind.i64.wrap ((k : Int) + 1) = k + 1 := IntWalk.i64_in _ (by omega)
      clear hcr hy hdr hcc hbl hS hxy bt
      go_upto_region 7 with fail
      go_region_held3 (fun W => Fresh wr W ∧ W.cell? ⟨b, o + k * 4, none⟩ = some (.int .i64 y.mo) ∧ W.cell? ⟨b, o + k * 4 + 1, none⟩ = some (.int .i64 y.lg) ∧ W.cell? ⟨b, o + k * 4 + 2, none⟩ = some (.slice y.A y.n y.c) ∧ W.cell? ⟨b, o + k * 4 + 3, none⟩ = some (.int .i64 y.x) ∧ W.cell? ⟨H + 1, 0, none⟩ = some (.int .i64 t.mo) ∧ W.cell? ⟨H + 1, 1, none⟩ = some (.int .i64 t.lg) ∧ W.cell? ⟨H + 1, 2, none⟩ = some (.slice t.A t.n t.c) ∧ W.cell? ⟨H + 1, 3, none⟩ = some (.int .i64 t.x))
        (first | exact HSS.out _ (by assumption) | exact HSS.out _ (And.left (by assumption)) | exact HSS.out _ (Upd.refl _ _) | exact HSS.out _ (Upd.refl _ _).drew)
        (first
          | (go_at_call 173; refine (HCA.out _ (And.left (by assumption))).mono ?_; rintro e w' ⟨rfl, f2x⟩; have f3x : Fresh wr w' := Upd.trans' (And.left (by assumption)) f2x))
      all_goals
        obtain ⟨fx, j1, j2, j3, j4, j5, j6, j7, j8⟩ := HSS.out _ (And.left (by assumption))
        have bw := BT.out.fresh fx
        have z0 := bw.frozen 0
        have z1 := bw.frozen 1
        have z2 := bw.frozen 2
        have z3 := bw.frozen 3
        have BW := hide bw
        have FX := hide fx
        clear bw fx
        by_cases hlt2 : y.x - t.x < 0
        · go_wp2_with fail
          go_roundg (gk - 1)
          case measure => have := HK.out; omega
          case rel =>
            refine ⟨(((((UR.out.trans' (FX.out.mono (fun _ _ h => h.elim))).setCell (p := ⟨H + 1, 0, none⟩) (fun _ => rfl) _).setCell (p := ⟨H + 1, 1, none⟩) (fun _ => rfl) _).setCell (p := ⟨H + 1, 2, none⟩) (fun _ => rfl) _).setCell (p := ⟨H + 1, 3, none⟩) (fun _ => rfl) _), k + 1, y, by have := HK.out; omega, by go_num, ?_, ?_, HXY.out.1, HXY.out.2⟩
            · simpa using (((BW.out.set_ 0 (.int .i64 y.mo)).set_ 1 (.int .i64 y.lg)).set_ 2 (.slice y.A y.n y.c)).set_ 3 (.int .i64 y.x)
            · rw [HGO.out, HDR.out, cheapest, if_pos (by omega)]
        · go_wp2_with fail
          go_roundg (gk - 1)
          case measure => have := HK.out; omega
          case rel =>
            refine ⟨UR.out.trans' (FX.out.mono (fun _ _ h => h.elim)), k + 1, t, by have := HK.out; omega, by go_num, BW.out, ?_, hx0, hx1⟩
            rw [HGO.out, HDR.out, cheapest, if_neg (by omega)]
    · obtain rfl : k = n := by have := HK.out; omega
      have hd : ts.drop k = [] := List.drop_eq_nil_of_le (by have := HN.out; omega)
      have hg := HGO.out
      rw [hd, cheapest] at hg
      have HG2 := hide hg
      have br := R1.out.upd (S := fun b => b = H + 1) UR.out (by omega)
      have r0 := br.cell 0
      have r1 := br.cell 1
      have r2 := br.cell 2
      have r3 := br.cell 3
      have z0 := br.frozen 0
      have z1 := br.frozen 1
      have z2 := br.frozen 2
      have z3 := br.frozen 3
      have q0 := BT.out.cell 0
      have q1 := BT.out.cell 1
      have q2 := BT.out.cell 2
      have q3 := BT.out.cell 3
      simp at r0 r1 r2 r3 q0 q1 q2 q3
      have BRR := hide br
      clear hd hg br bt
      go_wp2_with fail
      refine bodyPost_ret (results_cell_row rfl _ _ H _ _ _ _ rfl ((((BRR.out.set_ 0 (.int .i64 t.mo)).set_ 1 (.int .i64 t.lg)).set_ 2 (.slice t.A t.n t.c)).set_ 3 (.int .i64 t.x)) Tryz.underlying226 rfl (by kernel_rfl)) rfl ?_
      refine hR.out _ _ ⟨by rw [HG2.out]; simp [Ch.val], ?_⟩
      have u1 : Upd (fun b => w.heap.size ≤ b) w wr := (F1.out.mono (fun _ _ h => h.elim)).trans' (UR.out.mono (T := fun b => w.heap.size ≤ b) (fun b _ h => by have := HH.out; omega))
      have u2 := ((((u1.setCell (p := ⟨H, 0, none⟩) (fun _ => by have := HH.out; simp; omega) (.int .i64 t.mo)).setCell (p := ⟨H, 1, none⟩) (fun _ => by have := HH.out; simp; omega) (.int .i64 t.lg)).setCell (p := ⟨H, 2, none⟩) (fun _ => by have := HH.out; simp; omega) (.slice t.A t.n t.c)).setCell (p := ⟨H, 3, none⟩) (fun _ => by have := HH.out; simp; omega) (.int .i64 t.x))
      exact u2.mono fun b hb h => by omega

set_option maxRecDepth 100000 in
set_option maxHeartbeats 4000000 in
theorem cleast_any (b o cc n : Nat) (ts : List Ch) (t0 : Ch) (w : World) (hc : Chs w b o ts) (hn : ts.length = n) (h0 : ts[0]? = some t0) (hx : ∀ t ∈ ts, -(2 ^ 60) ≤ t.x ∧ t.x ≤ 2 ^ 60) (hbig : n ≤ 2 ^ 40) :
    Calls Tryz.prog 122 #[.slice (some ⟨b, o, none⟩) n cc, .func (.func 123) #[] #[]] w fun e w' => e = .returned (cheapest t0 (ts.drop 1)).val ∧ Fresh w w' := by
  have hmf : ∀ (fn : Fn) (first cap : Array Value) (w : World), (Instr.makeFunc fn first cap).run Tryz.prog w = .ok (.func fn first cap) w := fun _ _ _ _ => rfl
  obtain ⟨H, hH⟩ : ∃ H, H = w.heap.size := ⟨_, rfl⟩
  obtain ⟨w0, hw0⟩ : ∃ w0, w0 = (w.alloc (.cells #[.func (.func 123) #[] #[]] 229)).alloc (.cells #[.int .i64 0, .int .i64 0, .slice none 0 0, .int .i64 0] 226) := ⟨_, rfl⟩
  have f0 : Fresh w w0 := by rw [hw0]; exact ((Upd.refl _ _).alloc _).alloc _
  have bf : Blk w0 H 229 #[.func (.func 123) #[] #[]] := by rw [hw0]; exact (blk_new hH _ _).alloc _
  have br : Blk w0 (H + 1) 226 #[.int .i64 0, .int .i64 0, .slice none 0 0, .int .i64 0] := by rw [hw0]; exact blk_new (by simp [hH]) _ _
  have HK := hide (minf_any b o cc n H ts t0 w0 (hc.fresh f0) hn h0 hx hbig bf)
  have BR := hide br
  have F0 := hide f0
  have HW := hide hw0
  have HH := hide hH
  clear hc hn h0 hx f0 bf br hw0 hH
  generalize cheapest t0 (ts.drop 1) = t at *
  unfold Ch.val at *
  refine veil fun R hR => ?_
  go_enter Tryz.func122, Tryz.ntmps122
  go_upto_region 1 with fail
  simp only [← HH.out, ← HW.out]
  go_wp2_with fail
  refine HK.out.mono ?_
  rintro e w1 ⟨rfl, f1⟩
  have br := BR.out.fresh f1
  have r0 := br.cell 0
  have r1 := br.cell 1
  have r2 := br.cell 2
  have r3 := br.cell 3
  have z0 := br.frozen 0
  have z1 := br.frozen 1
  have z2 := br.frozen 2
  have z3 := br.frozen 3
  simp at r0 r1 r2 r3
  have BRR := hide br
  have F1 := hide (F0.out.trans' f1)
  clear br f1
  go_wp2_with fail
  refine bodyPost_ret (results_cell_row rfl _ _ (H + 1) _ _ _ _ rfl ((((BRR.out.set_ 0 (.int .i64 t.mo)).set_ 1 (.int .i64 t.lg)).set_ 2 (.slice t.A t.n t.c)).set_ 3 (.int .i64 t.x)) Tryz.underlying226 rfl (by kernel_rfl)) rfl ?_
  refine hR.out _ _ ⟨by simp, ?_⟩
  have u2 := (((((F1.out.mono (T := fun b => w.heap.size ≤ b) (fun _ _ h => h.elim)).setCell (p := ⟨H + 1, 0, none⟩) (fun _ => by have := HH.out; simp; omega) (.int .i64 t.mo)).setCell (p := ⟨H + 1, 1, none⟩) (fun _ => by have := HH.out; simp; omega) (.int .i64 t.lg)).setCell (p := ⟨H + 1, 2, none⟩) (fun _ => by have := HH.out; simp; omega) (.slice t.A t.n t.c)).setCell (p := ⟨H + 1, 3, none⟩) (fun _ => by have := HH.out; simp; omega) (.int .i64 t.x))
  exact u2.mono fun b hb h => by omega

end Go.Proofs.YtjfdaphjijfieaaGreat
