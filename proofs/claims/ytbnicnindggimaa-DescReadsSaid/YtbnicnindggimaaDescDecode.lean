/-
  Package desc: Decode answers what the plain reader answers.
  Conditions: none beyond those of each theorem.
-/
import Derived.Test.YtbnicnindggimaaDescTab
namespace Go.Proofs.Ytbnicnindggimaa
open Go.RowKit

theorem results_cell_tmp_row {P : Program} {fn : Func} {p u : Tmp} {ty : TypeId} (h : fn.results = #[.cell p ty, .tmp u]) (tmps : Array Value) (w : World) (g : Nat) (t : TypeId) (cs : Array Value) (d : TypeDesc)
    (hp : tmps.getD p undef = .pointer (some ⟨g, 0, none⟩)) (hg : Blk w g t cs)
    (hu : P.underlying ty = some d) (hd : (match d with | .struct _ | .array _ _ => true | _ => false) = true) (hi : (P.info? ty).map (·.size) = some cs.size) :
    (results fn tmps).run P w = .ok (.tuple #[.agg cs, tmps.getD u undef]) w := by
  rw [results_cell_tmp h]
  rw [hp]
  simp [asAddr, run_loadVar_row w g t ty cs (0, 0) d hg hu hd hi, Result.andThen]

/-- the bits that Decode looks at -/
def seenB (bs : List Nat) (at_ : Nat) : List Nat := (bs.drop at_).take 1024

set_option maxRecDepth 100000 in
set_option maxHeartbeats 1000000 in
theorem decode_nil (sy lb : Int) (w : World) :
    Calls Try.prog 18 #[.pointer none, .int .i64 sy, .int .i64 lb] w fun e' w' => e' = .returned (.tuple #[.agg #[.int .i64 0, .slice none 0 0], .int .i64 1]) ∧ Fresh w w' := by
  refine veil fun R hR => ?_
  have HB := hide (Blk.new w 24 #[.int .i64 0, .slice none 0 0])
  go_enter Try.func18, Try.ntmps18
  go_wp2
  exact bodyPost_ret (results_cell_tmp_row rfl _ _ w.heap.size _ _ _ rfl HB.out Try.underlying24 rfl (by kernel_rfl)) rfl (hR.out _ _ ⟨rfl, (Upd.refl _ _).alloc _⟩)

/-- what Decode leaves -/
def DecPost (F : Nat → Prop) (g : Nat) (bs : List Nat) (at_ : Nat) (sy lb : Int) (w : World) (e' : Ending) (w' : World) : Prop :=
  Upd (fun b => b = g) w w' ∧
    match decodeS sy lb (rowB (seenB bs at_)) with
    | .error e => e' = .returned (.tuple #[.agg #[.int .i64 0, .slice none 0 0], .int .i64 e]) ∧ CurAt w' F g bs at_
    | .ok (lg, N, k) => ∃ v, e' = .returned (.tuple #[.agg #[.int .i64 lg, v], .int .i64 0]) ∧ Own w' 3 v (ints N) ∧ (∀ b, v.ownBlock = some b → w.heap.size ≤ b) ∧ CurAt w' F g bs (at_ + k) ∧ N.length ≤ 1000

set_option maxRecDepth 100000 in
set_option maxHeartbeats 4000000 in
theorem decode_any (F : Nat → Prop) (g : Nat) (bs : List Nat) (at_ : Nat) (sy lb : Int) (w : World) (hcu : CurAt w F g bs at_) (hF : ∀ b, F b → b ≠ g) :
    Calls Try.prog 18 #[.pointer (some ⟨g, 0, none⟩), .int .i64 sy, .int .i64 lb] w (DecPost F g bs at_ sy lb w) := by
  have hlen : bs.length ≤ 2 ^ 32 := by obtain ⟨A, c, _, _, _, _, h, _⟩ := hcu; exact h
  have hblt : ∀ b ∈ bs, b < 256 := by obtain ⟨A, c, _, _, h, _⟩ := hcu; exact h
  have hslt : ∀ b ∈ seenB bs at_, b < 256 := fun b hb => hblt b (List.mem_of_mem_drop (List.mem_of_mem_take hb))
  have hsl : (seenB bs at_).length ≤ 1024 := by unfold seenB; rw [List.length_take]; omega
  have hsl2 : at_ + (seenB bs at_).length ≤ bs.length := by
    obtain ⟨A, c, _, _, _, h, _⟩ := hcu
    unfold seenB; rw [List.length_take, List.length_drop]; omega
  have hgs := hcu.lt
  have hpk := peek_any F g bs at_ 1024 (w.alloc (.cells #[.int .i64 0, .slice none 0 0] 24)) (hcu.fresh ((Upd.refl _ w).alloc _)) (by omega)
  have HPK := hide hpk
  have HCU := hide hcu
  have HSL := hide hslt
  have B0 := hide (Blk.new w 24 #[.int .i64 0, .slice none 0 0])
  clear hpk hcu hblt hslt
  refine veil fun R hR => ?_
  obtain ⟨H, hH⟩ : ∃ H, H = w.heap.size := ⟨_, rfl⟩
  have HH := hide hH
  have hgH : g < H := by omega
  rw [← hH] at B0
  clear hH hgs
  go_enter Try.func18, Try.ntmps18
  go_wp2_with fail
  rw [← HH.out]
  refine HPK.out.mono ?_
  rintro e w1 ⟨v1, rfl, o1, f1, k1⟩
  obtain ⟨A1, n1, c1, rfl, hn1⟩ := o1.form'
  have hrd1 := (o1.rd rfl).2.2
  rw [← hn1.out] at hrd1
  have hnf := newforward_any _ A1 n1 c1 (seenB bs at_) w1 hrd1 HSL.out (by omega)
  have HNF := hide hnf
  have b1 := B0.out.fresh f1
  have F1 := hide (show Fresh w w1 from ((Upd.refl _ w).alloc _).trans' f1)
  have hs1 : H < w1.heap.size := by have := b1.lt; omega
  have B1 := hide b1
  clear hnf o1 f1 k1 hrd1 hn1 b1 HPK B0
  go_wp2_with fail
  refine HNF.out.mono ?_
  rintro e w2 ⟨gf, rfl, hgf, f2, hfw⟩
  have hgr : gf < w2.heap.size := by obtain ⟨cs, h⟩ := hfw.blk; exact h.lt
  have hfw2 : FwdAt w2 (fun b => (w1.heap.size ≤ b ∧ b ≠ gf) ∧ b < w2.heap.size) gf (seenB bs at_) 0 := by
    obtain ⟨A, c, hb, hr, r⟩ := hfw
    exact ⟨A, c, hb, hr.both, r⟩
  have hrdr : RdrAt (w2.alloc (.cells #[.pointer (some ⟨gf, 0, none⟩), .int .i64 0] 65)) (fun b => (w1.heap.size ≤ b ∧ b ≠ gf) ∧ b < w2.heap.size) w2.heap.size gf (seenB bs at_) ⟨0, 0⟩ :=
    ⟨Blk.new _ _ _, hfw2.fresh ((Upd.refl _ w2).alloc _), fun b hb => ⟨hb.1.2, by omega⟩, by simp, by simp⟩
  have htb := table_any _ w2.heap.size gf (seenB bs at_) (min sy 256) lb _ hrdr (by omega) (fun b hb => by simp; omega)
  have HTB := hide htb
  have b2 := (B1.out.fresh f2).alloc (.cells #[.pointer (some ⟨gf, 0, none⟩), .int .i64 0] 65)
  have B2 := hide b2
  have F2 := hide ((F1.out.trans' f2).alloc (.cells #[.pointer (some ⟨gf, 0, none⟩), .int .i64 0] 65))
  have hs2 : w1.heap.size ≤ w2.heap.size := f2.size
  clear htb hrdr hfw hfw2 f2 b2 B1 F1 HNF
  go_wp2_with fail
  refine HTB.out.mono ?_
  rintro e w3 ⟨v3, rfl, o3, u3, r3, k3, l3⟩
  clear HTB
  obtain ⟨A3, n3, c3, rfl, hn3⟩ := o3.form'
  obtain ⟨T, hT⟩ : ∃ T, T = readS (min sy 256) lb (rowB (seenB bs at_)) := ⟨_, rfl⟩
  rw [← hT] at o3 r3 l3 ⊢
  obtain ⟨lg, N, σ⟩ := T
  simp only at o3 r3 l3
  have HT := hide hT.symm
  obtain ⟨gr, hgrd⟩ : ∃ gr, gr = w2.heap.size := ⟨_, rfl⟩
  have b3 := B2.out.upd u3 (by unfold Two; omega)
  have U3 := hide (show Fresh w w3 from F2.out.trans u3 (fun b hb h => by have := HH.out; rcases h with h | h <;> omega))
  have hs3 : w2.heap.size < w3.heap.size := by have := u3.size; simp at this; omega
  have cu3 := HCU.out.fresh U3.out
  rw [← hgrd] at r3 hs3 hs2 hgr ⊢
  have hc0 := r3.1.cell 0
  have hc1 := r3.1.cell 1
  simp at hc0 hc1
  have hgrw : gr < w3.heap.size := hs3
  have B3 := hide b3
  have R3 := hide r3
  have O3 := hide o3
  have K3 := hide (fun b hb => Nat.le_trans (by have := HH.out; simp; omega) (k3 b hb) : ∀ b, (Value.slice A3 n3 c3).ownBlock = some b → w.heap.size ≤ b)
  have HGR := hide hgrd
  clear b3 r3 o3 u3 k3 hn3 hT hgrd B2 F2
  by_cases he : σ.e = 0
  · have he' : (σ.e != 0) = false := by simpa using he
    have HE := hide he
    have hal := align_any _ gf (seenB bs at_) σ.fr (w3.alloc (.cells #[.int .i64 lg, .slice A3 n3 c3] 24)) (FwdAt.fresh R3.out.2.1 ((Upd.refl _ w3).alloc _)) (fun b hb => hb.1.2)
    have hHw : H < w3.heap.size := B3.out.lt
    by_cases hz : valR (seenB bs at_) / 2 ^ σ.fr % 2 ^ padN σ.fr = 0
    · have HAL := hide (hal.mono fun e w' h => (⟨h.1 hz, h.2.2⟩ : e = _ ∧ Upd (fun b => b = gf) _ w'))
      have HZ := hide hz
      clear hal he hz
      go_wp2_with fail
      refine HAL.out.mono ?_
      rintro e w4 ⟨rfl, u4⟩
      have hgf4 : w.heap.size ≤ gf ∧ gf ≠ H := by have := HH.out; omega
      have hg4 : w3.heap.size < w4.heap.size := by have := u4.size; simp at this; omega
      have U4 := hide (show Fresh w w4 from (U3.out.alloc (.cells #[.int .i64 lg, .slice A3 n3 c3] 24)).trans u4 (fun b hb h => by omega))
      have b4 := (B3.out.alloc (.cells #[.int .i64 lg, .slice A3 n3 c3] 24)).upd u4 (fun h => hgf4.2 h.symm)
      have B4 := hide b4
      have V4 := hide u4
      have t4 := (Blk.new w3 24 #[.int .i64 lg, .slice A3 n3 c3]).upd u4 (by omega)
      have T4 := hide t4
      have O4 := hide ((O3.out.fresh ((Upd.refl _ w3).alloc (.cells #[.int .i64 lg, .slice A3 n3 c3] 24))))
      have d0 := b4.cell 0
      have d1 := b4.cell 1
      have z0 := b4.frozen 0
      have z1 := b4.frozen 1
      simp at d0 d1
      have hfr : σ.fr ≤ 8 * (seenB bs at_).length := by obtain ⟨_, _, _, _, _, h, _⟩ := R3.out.2.1; exact h
      have hcb := cbytes_ok _ g bs at_ ((σ.fr + padN σ.fr) / 8) w4 (HCU.out.both.fresh U4.out) (by unfold padN; omega) (fun b hb => hF b hb.1)
      have HCB := hide hcb
      clear u4 b4 t4 hcb
      go_wp2_with fail
      refine HCB.out.mono ?_
      rintro e w5 ⟨v5, rfl, o5, u5, cu5⟩
      have hg3 : g < w3.heap.size := by omega
      have b5 := B4.out.upd u5 (by omega)
      have t5 := T4.out.upd u5 (by omega)
      have B5 := hide b5
      have T5 := hide t5
      have U5 := hide u5
      have CU5 := hide cu5
      have x0 := b5.cell 0
      have x1 := b5.cell 1
      have y0 := b5.frozen 0
      have y1 := b5.frozen 1
      have p0 := t5.cell 0
      have p1 := t5.cell 1
      simp at x0 x1 p0 p1
      clear b5 t5 u5 cu5 o5 HCB
      go_wp2_with fail
      exact bodyPost_ret (results_cell_tmp_row rfl _ _ H _ _ _ rfl ((B5.out.set_ 0 (.int .i64 lg)).set_ 1 (.slice A3 n3 c3)) Try.underlying24 rfl (by kernel_rfl)) rfl (by
        refine hR.out _ _ ?_
        have hu := (((Upd.refl (fun b => b = H) w5).setCell (p := ⟨H, 0, none⟩) (fun _ => rfl) (.int .i64 lg)).setCell (p := ⟨H, 1, none⟩) (fun _ => rfl) (.slice A3 n3 c3))
        have hv : Upd (fun b => b = g ∨ b = H) w4 _ := (U5.out.mono (fun _ _ h => Or.inl h)).trans hu (fun b _ h => Or.inr h)
        have hw : Upd (fun b => b = g) w _ := (Upd.mono U4.out (T := fun b => b = g) (fun _ _ h => h.elim)).trans hv (fun b hb h => h.elim id (fun h => by have := HH.out; omega))
        refine ⟨hw, ?_⟩
        have hd : decodeS sy lb (rowB (seenB bs at_)) = .ok (lg, N, (σ.fr + padN σ.fr) / 8) := by
          unfold decodeS; simp only [HT.out]; rw [if_neg (by simp [HE.out]), if_neg (by rw [valR_part]; exact not_not_intro HZ.out)]; rfl
        rw [hd]
        obtain ⟨csf, hbf⟩ := R3.out.2.1.blk
        have n1 := O3.out.ne_blk hbf (by decide)
        have n2 := O3.out.ne_blk B3.out (by decide)
        have o4 : Own w4 3 (.slice A3 n3 c3) (ints N) := (O3.out.fresh ((Upd.refl _ w3).alloc (.cells #[.int .i64 lg, .slice A3 n3 c3] 24))).upd V4.out (fun b hb h => n1 (by rw [hb, h]))
        refine ⟨_, rfl, o4.upd hv (fun b hb h => ?_), K3.out, (CU5.out.upd hu (by omega) (fun b hb hF' h => ?_)).mono (fun b h => h.1), l3⟩
        · rcases h with h | h
          · have := K3.out b hb; have := HH.out; omega
          · exact n2 (by rw [hb, h])
        · have := hF'.2; have := HH.out; omega)
    · have HAL := hide (hal.mono fun e w' h => (⟨h.2.1 hz, h.2.2⟩ : e = _ ∧ Upd (fun b => b = gf) _ w'))
      have HZ := hide hz
      clear hal he hz
      go_wp2_with fail
      refine HAL.out.mono ?_
      rintro e w4 ⟨rfl, u4⟩
      have hgf4 : w.heap.size ≤ gf ∧ gf ≠ H := by have := HH.out; omega
      have hg4 : w3.heap.size < w4.heap.size := by have := u4.size; simp at this; omega
      have U4 := hide (show Fresh w w4 from (U3.out.alloc (.cells #[.int .i64 lg, .slice A3 n3 c3] 24)).trans u4 (fun b hb h => by omega))
      have b4 := (B3.out.alloc (.cells #[.int .i64 lg, .slice A3 n3 c3] 24)).upd u4 (fun h => hgf4.2 h.symm)
      have B4 := hide b4
      have V4 := hide u4
      have t4 := (Blk.new w3 24 #[.int .i64 lg, .slice A3 n3 c3]).upd u4 (by omega)
      have T4 := hide t4
      have O4 := hide ((O3.out.fresh ((Upd.refl _ w3).alloc (.cells #[.int .i64 lg, .slice A3 n3 c3] 24))))
      have d0 := b4.cell 0
      have d1 := b4.cell 1
      have z0 := b4.frozen 0
      have z1 := b4.frozen 1
      simp at d0 d1
      clear u4 b4 t4
      go_wp2_with fail
      exact bodyPost_ret (results_cell_tmp_row rfl _ _ H _ _ _ rfl ((B4.out.set_ 0 (.int .i64 0)).set_ 1 (.slice none 0 0)) Try.underlying24 rfl (by kernel_rfl)) rfl (by
        refine hR.out _ _ ?_
        have hu := (((Upd.refl (fun b => b = H) w4).setCell (p := ⟨H, 0, none⟩) (fun _ => rfl) (.int .i64 0)).setCell (p := ⟨H, 1, none⟩) (fun _ => rfl) (.slice none 0 0))
        have hw : Fresh w _ := U4.out.trans hu (fun b hb h => by have := HH.out; omega)
        refine ⟨Upd.mono hw (fun _ _ h => h.elim), ?_⟩
        have hd : decodeS sy lb (rowB (seenB bs at_)) = .error 14 := by
          unfold decodeS; simp only [HT.out]; rw [if_neg (by simp [HE.out]), if_pos (by rw [valR_part]; exact HZ.out)]
        rw [hd]
        exact ⟨rfl, HCU.out.fresh hw⟩)
  · have he' : (σ.e != 0) = true := by simpa using he
    go_wp2_with fail
    have hHw : H < w3.heap.size := B3.out.lt
    have d0 := B3.out.cell 0
    have d1 := B3.out.cell 1
    have z0 := B3.out.frozen 0
    have z1 := B3.out.frozen 1
    simp at d0 d1
    go_region
    all_goals go_wp2_with fail
    all_goals exact bodyPost_ret (results_cell_tmp_row rfl _ _ H _ _ _ rfl (((B3.out.set_ 0 (.int .i64 0)).set_ 1 (.slice none 0 0)).alloc _).drew Try.underlying24 rfl (by kernel_rfl)) rfl (by
      refine hR.out _ _ ?_
      have hu := ((((Upd.refl (fun b => b = H) w3).setCell (p := ⟨H, 0, none⟩) (fun _ => rfl) (.int .i64 0)).setCell (p := ⟨H, 1, none⟩) (fun _ => rfl) (.slice none 0 0)).alloc (.cells #[.int .i64 lg, .slice A3 n3 c3] 24)).drew
      have hw : Fresh w _ := U3.out.trans hu (fun b hb h => by have := HH.out; omega)
      refine ⟨Upd.mono hw (fun _ _ h => h.elim), ?_⟩
      have hd : decodeS sy lb (rowB (seenB bs at_)) = .error σ.e := by
        unfold decodeS; simp only [HT.out]; rw [if_pos he]
      rw [hd]
      exact ⟨rfl, HCU.out.fresh hw⟩)

end Go.Proofs.Ytbnicnindggimaa
