/-
  Joined texts, part 16: contracts and plain lemmas, each under its own heading below.
  Conditions: none beyond those of each theorem.
-/
import Derived.Test.YtcdbfddoanigbaaGreatJ15
import Derived.Test.YtcdbfddoanigbaaGreatJ5
import Derived.Test.YtcdbfddoanigbaaGreatJ13
import Derived.Deep.RegionHeld3
import Derived.Test.YtcdbfddoanigbaaGreatJ4
import Derived.Test.YtcdbfddoanigbaaGreatJ3
import Derived.Test.YtcdbfddoanigbaaGreatJ14
import Derived.Test.YtcdbfddoanigbaaGreatJ7
import Derived.Test.YtcdbfddoanigbaaGreatJ11
/-
  Package norm: Normalize of good counts.
  Conditions: none beyond those of each theorem.
-/
namespace Go.Proofs.YtcdbfddoanigbaaGreat
open Go.RowKit
set_option linter.unusedVariables false
set_option linter.unusedSimpArgs false

/-- a new table of these norms, with room behind -/
def NewTabC (w w' : World) (e : Ending) (lg : Int) (N : List Int) (x : Int) : Prop :=
  ∃ g c, e = .returned (.tuple #[.agg #[.int .i64 lg, .slice (some ⟨g, 0, none⟩) N.length c], .int .i64 x]) ∧ Rd w' (fun b => b = g) (some ⟨g, 0, none⟩) N.length (ints N) ∧ w.heap.size ≤ g ∧ Fresh w w'

/-- the first k of R, the rest as in M -/
def mixL (R M : List Int) (k : Nat) : List Int := R.take k ++ M.drop k
theorem mixL_length {R M : List Int} {k : Nat} (h : R.length = M.length) (hk : k ≤ M.length) : (mixL R M k).length = M.length := by simp [mixL]; omega
theorem mixL_zero (R M : List Int) : mixL R M 0 = M := by simp [mixL]
theorem mixL_all {R M : List Int} (h : R.length = M.length) : mixL R M M.length = R := by
  unfold mixL
  rw [List.drop_eq_nil_of_le (Nat.le_refl _), List.append_nil, List.take_of_length_le (by omega)]
theorem mixL_get {R M : List Int} {k : Nat} (h : R.length = M.length) (hk : k < M.length) : (mixL R M k)[k]? = M[k]? := by
  unfold mixL
  rw [List.getElem?_append_right (by simp; omega), List.length_take, List.getElem?_drop]
  congr 1
  omega
theorem mixL_set {R M : List Int} {k : Nat} (h : R.length = M.length) (hk : k < M.length) (x : Int) (hx : R[k]? = some x) : (mixL R M k).set k x = mixL R M (k + 1) := by
  apply List.ext_getElem?
  intro i
  rw [List.getElem?_set]
  unfold mixL
  by_cases hi : k = i
  · subst hi
    rw [if_pos rfl, if_pos (by simp; omega), List.getElem?_append_left (by simp; omega), List.getElem?_take, if_pos (by omega), hx]
  · rw [if_neg hi]
    by_cases h2 : i < k
    · rw [List.getElem?_append_left (by simp; omega), List.getElem?_append_left (by simp; omega), List.getElem?_take, List.getElem?_take, if_pos h2, if_pos (by omega)]
    · rw [List.getElem?_append_right (by simp; omega), List.getElem?_append_right (by simp; omega), List.length_take, List.length_take, List.getElem?_drop, List.getElem?_drop]
      congr 1
      omega
theorem mixL_same {R M : List Int} {k : Nat} (h : R.length = M.length) (hk : k < M.length) (hx : R[k]? = M[k]?) : mixL R M k = mixL R M (k + 1) := by
  rw [← mixL_set h hk M[k] (by rw [hx]; exact List.getElem?_eq_getElem hk)]
  apply List.ext_getElem?
  intro i
  rw [List.getElem?_set]
  by_cases hi : k = i
  · subst hi
    rw [if_pos rfl, if_pos (by rw [mixL_length h (by omega)]; exact hk), mixL_get h hk, List.getElem?_eq_getElem hk]
  · rw [if_neg hi]
/-- the first k norms laid, the rest 0 -/
def layN (B : List Int) (k : Nat) : List Int := mixL B (List.replicate B.length 0) k
theorem layN_length {B : List Int} {k : Nat} (h : k ≤ B.length) : (layN B k).length = B.length := by
  unfold layN; rw [mixL_length (by simp) (by simpa using h)]; simp
theorem layN_zero (B : List Int) : layN B 0 = List.replicate B.length 0 := mixL_zero _ _
theorem layN_all (B : List Int) : layN B B.length = B := by
  have h := mixL_all (R := B) (M := List.replicate B.length 0) (by simp)
  rw [List.length_replicate] at h
  exact h
theorem layN_get {B : List Int} {k : Nat} (h : k < B.length) : (layN B k)[k]? = some 0 := by
  unfold layN; rw [mixL_get (by simp) (by simpa using h)]; simp [h]
theorem layN_set {B : List Int} {k : Nat} (h : k < B.length) : (layN B k).set k B[k] = layN B (k + 1) :=
  mixL_set (by simp) (by simpa using h) _ (List.getElem?_eq_getElem h)
theorem layN_same {B : List Int} {k : Nat} (h : k < B.length) (h0 : B[k] = 0) : layN B k = layN B (k + 1) :=
  mixL_same (by simp) (by simpa using h) (by rw [List.getElem?_eq_getElem h, h0]; simp [h])
theorem lastC_take {N : List Int} {k : Nat} (h : k < N.length) : lastC (N.take (k + 1)) = if 0 < N[k] then k + 1 else lastC (N.take k) := by
  rw [List.take_succ_eq_append_getElem h, lastC_snoc, List.length_take, Nat.min_eq_left (by omega)]
theorem lastC_le (N : List Int) : lastC N ≤ N.length := by
  induction N with
  | nil => simp [lastC]
  | cons c l ih => rw [lastC, List.length_cons]; split <;> (try split) <;> omega
theorem lastC_pos {N : List Int} (h : 0 < usedC N) : lastC N ≠ 0 := by
  induction N with
  | nil => simp [usedC] at h
  | cons c l ih =>
    rw [lastC]
    unfold usedC at h ih
    rw [List.countP_cons] at h
    split
    · rename_i h0
      by_cases hc : 0 < c
      · rw [if_pos hc]; omega
      · rw [if_neg (by simpa using hc)] at h
        exact absurd h0 (ih (by omega))
    · omega
theorem rareN_length {N M : List Int} {s tot : Int} (h : M.length = N.length) : (rareN N s tot M).length = M.length := by simp [rareN, h]
theorem rareN_get {N M : List Int} {s tot : Int} {k : Nat} (hN : k < N.length) (hM : k < M.length) : (rareN N s tot M)[k]? = some (if 0 < N[k] ∧ N[k] * s < tot then -1 else M[k]) := by
  unfold rareN
  rw [List.getElem?_zipWith, List.getElem?_eq_getElem hN, List.getElem?_eq_getElem hM]
theorem MOk.mono {N M : List Int} {B C : Int} (h : MOk N M B) (hBC : B ≤ C) : MOk N M C :=
  ⟨h.1, fun i c m hc hm => by obtain ⟨h1, h2, h3⟩ := h.2 i c m hc hm; exact ⟨h1, by omega, h3⟩⟩
theorem MOk.mem {N M : List Int} {B : Int} (h : MOk N M B) {y : Int} (hy : y ∈ M) : 0 ≤ y ∧ y ≤ B := by
  obtain ⟨i, hi, rfl⟩ := List.getElem_of_mem hy
  obtain ⟨h1, h2, -⟩ := h.2 i (N[i]'(by have := h.1; omega)) M[i] (List.getElem?_eq_getElem _) (List.getElem?_eq_getElem hi)
  exact ⟨h1, h2⟩
theorem sum_le_mul {M : List Int} {B : Int} (h : ∀ y ∈ M, 0 ≤ y ∧ y ≤ B) : M.sum ≤ B * M.length := by
  induction M with
  | nil => simp
  | cons x l ih =>
    have h1 := ih fun y hy => h y (List.mem_cons_of_mem _ hy)
    have h2 := h x (by simp)
    rw [List.sum_cons, List.length_cons]
    have : B * ((l.length + 1 : Nat) : Int) = B * l.length + B := by rw [Int.natCast_add, Int.mul_add]; simp
    omega

/-- the norms while f steps are still to come -/
def stepN (N : List Int) (s tot d : Int) (f : Nat) (M : List Int) : List Int := if d = 1 then upN N s tot f M else dnN N s tot f M
theorem evenN_step {N : List Int} {s d : Int} (h : (d = 1 ∧ 0 ≤ s - (baseN N s N.sum).sum) ∨ (d = -1 ∧ s - (baseN N s N.sum).sum < 0)) :
    evenN N s = stepN N s N.sum d (s - (baseN N s N.sum).sum).natAbs (baseN N s N.sum) := by
  unfold evenN stepN
  rcases h with ⟨rfl, h⟩ | ⟨rfl, h⟩
  · rw [if_pos (by omega), if_pos rfl]; congr 1; omega
  · rw [if_neg (by omega), if_neg (by decide)]; congr 1; omega
theorem ints_set {M : List Int} {k : Nat} (x : Int) : (ints M).toArray.setIfInBounds k (.int .i64 x) = (ints (M.set k x)).toArray := by
  apply Array.toList_inj.1
  simp [ints, List.map_set]

/-- the cells of mend: upward (d = 1) or downward -/
def wayV (d : Int) (p14 p2 p9 p10 p6 : Nat) : Array Value :=
  if d = 1 then #[.func (.func 68) #[] #[.pointer (some ⟨p2, 0, none⟩)], aboveV p2 p9 p10 p6, .int .i64 1]
  else #[.func (.func 69) #[] #[.pointer (some ⟨p10, 0, none⟩)], .func (.func 70) #[] #[.pointer (some ⟨p14, 0, none⟩)], .int .i64 (-1)]

set_option maxRecDepth 100000 in
set_option maxHeartbeats 8000000 in
theorem normal_ok (F : Nat → Prop) (A : Option Addr) (n c : Nat) (N : List Int) (w : World) (p : Nat) (hr : Rd w F A n (ints N)) (hfit : Fit N) (hn : (n : Int) ≤ 1099511627776) (hok : NormOk N p) :
    Calls Tryz.prog 39 #[.slice A n c, .int .i64 p] w fun e w' => NewTabC w w' e p (normN N p) 0 := by
  obtain ⟨w0, hw0⟩ : ∃ w0, w0 = (w.alloc (.cells #[.slice A n c] 22)).alloc (.cells #[.int .i64 0, .slice none 0 0] 25) := ⟨_, rfl⟩
  obtain ⟨H, hH⟩ : ∃ H, H = w.heap.size := ⟨_, rfl⟩
  have f0 : Fresh w w0 := by rw [hw0]; exact ((Upd.refl _ _).alloc _).alloc _
  have b2 : Blk w0 H 22 #[.slice A n c] := by rw [hw0]; exact (blk_new hH _ _).alloc _
  have bt : Blk w0 (H + 1) 25 #[.int .i64 0, .slice none 0 0] := by rw [hw0]; exact blk_new (by simp [hH]) _ _
  have hal := nall_any F A n c N w0 (hr.fresh f0) hfit hn
  have hu := usedC_le N
  have hN : N.length = n := by have := hr.1; simpa using this
  obtain ⟨hct, hu0, -, hp9, hup⟩ := hok
  have hp9' : p ≤ 9 := by omega
  rw [Int.toNat_natCast] at hup
  have hpow : (2 : Int) ^ p ≤ 512 := by
    have : 2 ^ p ≤ 2 ^ 9 := Nat.pow_le_pow_right (by omega) hp9'
    have h2 : ((2 : Int) ^ p) = ((2 ^ p : Nat) : Int) := by simp
    omega
  have hpow0 : (0 : Int) < (2 : Int) ^ p := Int.pow_pos (by omega)
  have hups : (usedC N : Int) ≤ (2 : Int) ^ p := by
    have h2 : ((2 : Int) ^ p) = ((2 ^ p : Nat) : Int) := by simp
    omega
  have HK : Hid (Calls Tryz.prog 63 #[.slice A n c] w0 fun e w' => e = .returned (.tuple #[.int .i64 N.sum, .int .i64 (usedC N : Nat), .bool true]) ∧ w0 = w') :=
    hide (hal.mono fun e w' h => ⟨by have := h.1; unfold AllPost at this; rw [decide_eq_true ⟨hct, hu0⟩, if_pos hct, if_pos hct] at this; exact this, h.2.symm⟩)
  have k2 := b2.cell0
  have dk2 : ∀ o, (w0.alloc o).cell? ⟨H, 0, none⟩ = some (.slice A n c) := fun o => (b2.alloc o).cell0
  have dk3 : ∀ o o', ((w0.alloc o).alloc o').cell? ⟨H, 0, none⟩ = some (.slice A n c) := fun o o' => ((b2.alloc o).alloc o').cell0
  obtain ⟨s, hs⟩ : ∃ s, s = (2 : Int) ^ p := ⟨_, rfl⟩
  obtain ⟨T, hT⟩ : ∃ T, T = N.sum := ⟨_, rfl⟩
  obtain ⟨u, hU⟩ : ∃ u, u = usedC N := ⟨_, rfl⟩
  have hul : u ≤ n := by omega
  have hnM : n ≤ 1099511627776 := by omega
  have hmk : ∀ W, (Instr.makeSlice 22 (.int .i64 (n : Int)) (.int .i64 (n : Int))).run Tryz.prog W = .ok (.slice (some ⟨W.heap.size, 0, none⟩) n n) (W.alloc (.cells (madeCells #[.int .i64 0] n) 3)) := fun W => by
    have := run_make_row' (P := Tryz.prog) 22 3 (.int .i64 0) 8 Tryz.underlying22 infoInt rfl .i64 .i64 n (by omega) (by omega) W
    simpa using this
  obtain ⟨cs, hcs⟩ : ∃ cs, cs = madeCells #[Value.int .i64 0] n := ⟨_, rfl⟩
  simp only [← hcs] at hmk
  rw [← hT, ← hU] at HK
  rw [← hU] at hups
  have HS := hide hs
  have HT := hide hT
  have HU := hide hU
  have HCT := hide hct
  have HU0 := hide hu0
  have HB2 := hide b2
  have HBT := hide bt
  have F0 := hide f0
  have HR := hide (fun W (h : Fresh w W) => hr.both.fresh h)
  have HN := hide hN
  have HW := hide hw0
  have HH := hide hH
  have HCS := hide hcs
  have hups2 : ¬ (2 : Int) ^ p < u := by omega
  clear hs hT hU hct hu0 b2 bt f0 hr hN hw0 hH hal hu hup hp9' hcs
  refine veil fun R hR => ?_
  go_enter Tryz.func39, Tryz.ntmps39
  go_wp2_with fail
  simp only [← HH.out, ← HW.out]
  go_wp2_with fail
  refine HK.out.mono ?_
  rintro e wx ⟨rfl, rfl⟩
  have hz0 : w0.heap.size = H + 2 := by rw [HW.out, HH.out]; simp
  go_upto_region 7 with fail
  simp only [hz0, Nat.add_assoc, Nat.reduceAdd, ← HS.out]
  simp only [← HS.out] at hpow hpow0 hups hups2
  obtain ⟨w1, hw1⟩ : ∃ w1, w1 = (((w0.alloc (.cells #[.int .i64 T] 3)).alloc (.cells #[.int .i64 s] 3)).alloc (.cells cs 3)).alloc (.cells #[.slice (some ⟨H + 4, 0, none⟩) n n] 22) := ⟨_, rfl⟩
  rw [← hw1]
  have B2 := hide (show Blk w1 H 22 #[.slice A n c] by rw [hw1]; exact (((HB2.out.alloc _).alloc _).alloc _).alloc _)
  have BT := hide (show Blk w1 (H + 1) 25 #[.int .i64 0, .slice none 0 0] by rw [hw1]; exact (((HBT.out.alloc _).alloc _).alloc _).alloc _)
  have B6 := hide (show Blk w1 (H + 2) 3 #[.int .i64 T] by rw [hw1]; exact (((blk_new hz0.symm _ _).alloc _).alloc _).alloc _)
  have B9 := hide (show Blk w1 (H + 3) 3 #[.int .i64 s] by rw [hw1]; exact ((blk_new (by simp [hz0]) _ _).alloc _).alloc _)
  have BG0 : Blk w1 (H + 4) 3 cs := by rw [hw1]; exact (blk_new (by simp [hz0]) _ _).alloc _
  have B10 := hide (show Blk w1 (H + 5) 22 #[.slice (some ⟨H + 4, 0, none⟩) n n] by rw [hw1]; exact blk_new (by simp [hz0]) _ _)
  have F1 := hide (show Fresh w w1 by rw [hw1]; exact (((F0.out.alloc _).alloc _).alloc _).alloc _)
  have HW1 := hide hw1
  obtain ⟨B, hB⟩ : ∃ B, B = baseN N s T := ⟨_, rfl⟩
  have hBl : B.length = n := by rw [hB]; simp [baseN, HN.out]
  have BG : Blk w1 (H + 4) 3 (ints (layN B 0)).toArray := by
    have e : (ints (layN B 0)).toArray = cs := by
      rw [HCS.out, layN_zero, hBl]
      exact Array.toList_inj.1 (by rw [toList_madeCells_one]; simp [ints])
    rw [e]; exact BG0
  have hMO : MOk N B 512 := by rw [hB, HT.out]; exact base_ok HCT.out (by omega) hpow
  have q2 := B2.out.cell0
  have HBL := hide hBl
  have HBB := hide hB
  have HMO := hide hMO
  have HBG := hide BG
  have HZ0 := hide hz0
  clear hw1 hBl hB hMO BG BG0 hz0 HBT HB2 k2 dk2 dk3 hmk HK HW
  go_wp2_with fail
  go_loopg [11, 49] n (fun f l i wr => ∃ k : Nat, k + f = n ∧ i = .int .i64 k ∧ l = .int .i64 (s - (B.take k).sum) ∧ Blk wr (H + 4) 3 (ints (layN B k)).toArray ∧ Upd (fun b => b = H + 4) w1 wr ∧ 0 ≤ (B.take k).sum ∧ (B.take k).sum ≤ 512 * k)
  case atStart => exact ⟨0, by omega, rfl, by simp, HBG.out, Upd.refl _ _, by simp, by simp⟩
  case round =>
    obtain ⟨k, hk, rfl, rfl, bg, ur, hs0, hs1⟩ := hrel
    have HK := hide hk
    have r2 := B2.out.upd ur (by omega)
    have r6 := B6.out.upd ur (by omega)
    have r9 := B9.out.upd ur (by omega)
    have r10 := B10.out.upd ur (by omega)
    have c6 := r6.cell0
    have c9 := r9.cell0
    have c10 := r10.cell0
    have FR := hide (F1.out.trans ur (fun b hb h => by have := HH.out; omega))
    have UR := hide ur
    have HBGK := hide bg
    by_cases hlt : k < n
    · have hkB : k < B.length := by rw [HBL.out]; exact hlt
      have hkN : k < N.length := by rw [HN.out]; exact hlt
      have hgt := List.take_succ_eq_append_getElem hkB
      have HSM := hide (show (B.take (k + 1)).sum = (B.take k).sum + B[k] by rw [hgt, sum_snoc])
      have HLS := hide (layN_set hkB)
      have HLM := hide (layN_same hkB)
      have HBK := hide (show B[k] = if 0 < N[k] then max (N[k] * s / T) 1 else 0 by simp only [HBB.out]; simp [baseN])
      obtain ⟨hm0, hm1, -⟩ := HMO.out.2 k N[k] B[k] (List.getElem?_eq_getElem hkN) (List.getElem?_eq_getElem hkB)
      have hz := HCT.out.le (List.getElem_mem hkN)
      obtain ⟨b, o, _, rfl, _, hc⟩ := (HR.out _ FR.out).int (k := k) hlt
      generalize N[k] = z at *
      generalize B[k] = m at *
      generalize (B.take k).sum = q at *
      have hlI : (k : Int) < n := by omega
      have hw4 : IntKind.i64.wrap ((k : Int) + 1) = k + 1 := IntWalk.i64_in _ (by omega)
      clear hgt
      by_cases hz1 : 0 < z
      · rw [if_pos hz1] at HBK
        have hT1 : 0 < T := by rw [HT.out]; omega
        have e1 : 0 ≤ z * s := Int.mul_nonneg hz.1 (by omega)
        have e2 : z * s ≤ 562949953421312 := Int.le_trans (Int.mul_le_mul_of_nonneg_right (by have := HCT.out.2; omega : z ≤ 1099511627776) (by omega)) (Int.le_trans (Int.mul_le_mul_of_nonneg_left hpow (by omega)) (by decide))
        have s1 : IntKind.i64.wrap (z * s) = z * s := IntWalk.i64_in _ (by omega)
        have e3 : 0 ≤ z * s / T := Int.ediv_nonneg e1 (by omega)
        have e4 : z * s / T ≤ 562949953421312 := Int.le_trans (Int.ediv_le_self _ e1) e2
        have hT0 : ¬ T = 0 := by omega
        have hT00 : (T == 0) = false := by simpa using hT0
        have e5 : (z * s).tdiv T = z * s / T := Int.tdiv_eq_ediv_of_nonneg e1
        have s2 : IntKind.i64.wrap (z * s / T) = z * s / T := IntWalk.i64_in _ (by omega)
        have HZ := hide hz
        clear hz
        have g0 : wr.cell? ⟨H + 4, k, none⟩ = some (.int .i64 0) := by rw [HBGK.out.cell]; simp [ints, layN_get hkB]
        have g1 : wr.frozen? ⟨H + 4, k, none⟩ = false := HBGK.out.frozen k
        go_wp2_with fail
        go_still_tail 9, (by kernel_rfl)
        change wpList _ _ _ _ _ wr.drew
        obtain ⟨v, hv⟩ : ∃ v, v = max (z * s / T) 1 := ⟨_, rfl⟩
        have hvm : v = m := by rw [hv, HBK.out]
        have hw5 : IntKind.i64.wrap (s - q - m) = s - q - m := IntWalk.i64_in _ (by omega)
        have bgs := HBGK.out.drew.set_ k (.int .i64 m)
        rw [ints_set, HLS.out] at bgs
        have c10s := (r10.drew.far (p := ⟨H + 4, k, none⟩) (by simp) (.int .i64 m)).cell0
        have us := UR.out.drew.setCell (p := ⟨H + 4, k, none⟩) (fun _ => rfl) (.int .i64 m)
        have ggs : (wr.drew.setCell ⟨H + 4, k, none⟩ (.int .i64 m)).cell? ⟨H + 4, k, none⟩ = some (.int .i64 m) := ((HBGK.out.drew.set_ k (.int .i64 m)).cell k).trans (by simp [layN_length (Nat.le_of_lt hkB), hkB])
        rw [hvm] at hv
        simp only [← hv]
        have BGS := hide bgs
        have US := hide us
        clear bgs us hv hvm e1 e2 s1 s2 e3 e4 e5 hT0 hT00
        go_wp2_with fail
        go_roundg (gk - 1)
        case measure => have := HK.out; omega
        case rel => exact ⟨k + 1, by have := HK.out; omega, by go_num, by rw [HSM.out]; congr 1; omega, BGS.out, US.out, by rw [HSM.out]; omega, by rw [HSM.out]; omega⟩
      · rw [if_neg hz1] at HBK
        have hm00 : m = 0 := HBK.out
        have HLM2 := hide (HLM.out hm00)
        have HSM2 := hide (show (B.take (k + 1)).sum = q by rw [HSM.out, hm00]; omega)
        clear hz hm00
        go_wp2_with fail
        go_roundg (gk - 1)
        case measure => have := HK.out; omega
        case rel => exact ⟨k + 1, by have := HK.out; omega, by go_num, by rw [HSM2.out], by rw [← HLM2.out]; exact HBGK.out, UR.out, by rw [HSM2.out]; omega, by rw [HSM2.out]; omega⟩
    · obtain rfl : k = n := by have := HK.out; omega
      have htk : B.take k = B := List.take_of_length_le (by have := HBL.out; omega)
      have hly : layN B k = B := by have := layN_all B; rw [HBL.out] at this; exact this
      rw [hly] at HBGK
      rw [htk] at hs0 hs1 ⊢
      clear htk hly
      go_upto_if 77 with fail
      obtain ⟨G, hG⟩ : ∃ G, G = wr.heap.size := ⟨_, rfl⟩
      have hGH : H + 5 < G := by rw [hG]; exact r10.lt
      obtain ⟨w2, hw2⟩ : ∃ w2, w2 = (wr.alloc (.cells #[aboveV H (H + 3) (H + 5) (H + 2)] 62)).alloc (.cells #[.func (.func 68) #[] #[.pointer (some ⟨H, 0, none⟩)], aboveV H (H + 3) (H + 5) (H + 2), .int .i64 1] 114) := ⟨_, rfl⟩
      have hw2' := hw2
      unfold aboveV at hw2'
      rw [← hw2', ← hG]
      have f2 : Fresh wr w2 := by rw [hw2]; exact ((Upd.refl _ _).alloc _).alloc _
      have V14 := hide (show Blk w2 G 62 #[aboveV H (H + 3) (H + 5) (H + 2)] by rw [hw2]; exact (blk_new hG _ _).alloc _)
      have v15 : Blk w2 (G + 1) 114 (wayV 1 G H (H + 3) (H + 5) (H + 2)) := by rw [hw2]; exact blk_new (by simp [hG]) _ _
      have V2 := hide (r2.fresh f2)
      have V6 := hide (r6.fresh f2)
      have V9 := hide (r9.fresh f2)
      have V10 := hide (r10.fresh f2)
      have VG := hide (HBGK.out.fresh f2)
      have VT := hide ((BT.out.upd UR.out (by omega)).fresh f2)
      have FW2 := hide (FR.out.trans' f2)
      have V15 := hide v15
      have hv0 := v15.cell 0
      have hv1 := v15.cell 1
      have hv2 := v15.cell 2
      have hvz0 := v15.frozen 0
      have hvz1 := v15.frozen 1
      have hvz2 := v15.frozen 2
      simp [wayV] at hv0 hv1 hv2
      have hw5 : -(512 * (k : Int)) ≤ s - B.sum := by omega
      clear hw2 hw2' v15 f2 r2 r6 r9 r10 c6 c9 c10 bg ur hG HW1 B2 BT B6 B9 B10 F1 HBG HZ0 HCS
      go_cut [] from 78 to 80 (fun wx => ∃ d : Int, ((d = 1 ∧ 0 ≤ s - B.sum) ∨ (d = -1 ∧ s - B.sum < 0)) ∧ Blk wx (G + 1) 114 (wayV d G H (H + 3) (H + 5) (H + 2)) ∧ Upd (fun b => b = G + 1) w2 wx)
      case first =>
        by_cases hneg : s - B.sum < 0
        · go_wp2_with fail
          go_meet
          case rel =>
            refine ⟨-1, .inr ⟨rfl, hneg⟩, ?_, ((((Upd.refl (fun b => b = G + 1) w2).setCell (p := ⟨G + 1, 0, none⟩) (fun _ => rfl) _).setCell (p := ⟨G + 1, 1, none⟩) (fun _ => rfl) _).setCell (p := ⟨G + 1, 2, none⟩) (fun _ => rfl) _)⟩
            simpa [wayV] using ((V15.out.set_ 0 (.func (.func 69) #[] #[.pointer (some ⟨H + 5, 0, none⟩)])).set_ 1 (.func (.func 70) #[] #[.pointer (some ⟨G, 0, none⟩)])).set_ 2 (.int .i64 (-1))
        · go_wp2_with fail
          go_meet
          case rel => exact ⟨1, .inl ⟨rfl, by omega⟩, V15.out, Upd.refl _ _⟩
      case rest =>
        obtain ⟨d, hd, v15, u15⟩ := hcut
        have X2 := hide (V2.out.upd u15 (by omega))
        have X6 := hide (V6.out.upd u15 (by omega))
        have X9 := hide (V9.out.upd u15 (by omega))
        have X10 := hide (V10.out.upd u15 (by omega))
        have XG := hide (VG.out.upd u15 (by omega))
        have XT := hide (VT.out.upd u15 (by omega))
        have X14 := hide (V14.out.upd u15 (by omega))
        have X15 := hide v15
        have FX := hide (FW2.out.trans u15 (fun b hb h => by have := HH.out; omega))
        have HD := hide hd
        have HEV := hide (evenN_step (N := N) (s := s) (d := d) (by rw [← HT.out, ← HBB.out]; exact hd))
        rw [← HT.out, ← HBB.out] at HEV
        have HD1 := hide (show s - B.sum = d * ((s - B.sum).natAbs : Nat) by rcases hd with ⟨rfl, h⟩ | ⟨rfl, h⟩ <;> omega)
        obtain ⟨f0, hf0⟩ : ∃ f0, f0 = (s - B.sum).natAbs := ⟨_, rfl⟩
        rw [← hf0] at HEV HD1
        have HF0 := hide hf0
        obtain ⟨l0, hl0⟩ : ∃ l0, l0 = s - B.sum := ⟨_, rfl⟩
        rw [← hl0] at HD1 ⊢
        have HL0 := hide hl0
        clear v15 u15 hd hf0 hl0 V2 V6 V9 V10 VG VT V14 V15 FW2 hv0 hv1 hv2 hvz0 hvz1 hvz2
        go_wp2_with fail
        go_loopg [11] f0 (fun f l wr => ∃ (M : List Int) (Bd x : Int), l = .int .i64 x ∧ x = d * f ∧ Blk wr (H + 4) 3 (ints M).toArray ∧ Upd (fun b => b = H + 4) wc wr ∧ MOk N M Bd ∧ (d = 1 → Bd + f ≤ 1024) ∧ (d = -1 → Bd ≤ 512) ∧ M.sum = s - x ∧ evenN N s = stepN N s T d f M)
        case atStart =>
          refine ⟨B, 512, l0, rfl, HD1.out, XG.out, Upd.refl _ _, HMO.out, ?_, fun _ => by omega, by rw [HL0.out]; omega, HEV.out⟩
          intro h1
          have h2 := HF0.out
          rcases HD.out with h3 | h3 <;> omega
        case round =>
          obtain ⟨M, Bd, x, rfl, hx, bg, ur, hMO, hb1, hb2, hsum, hev⟩ := hrel
          have r2 := X2.out.upd ur (by omega)
          have r6 := X6.out.upd ur (by omega)
          have r9 := X9.out.upd ur (by omega)
          have r10 := X10.out.upd ur (by omega)
          have r14 := X14.out.upd ur (by omega)
          have r15 := X15.out.upd ur (by omega)
          have rT := XT.out.upd ur (by omega)
          have frw : Fresh w wr := FX.out.trans ur (fun b hb h => by have := HH.out; omega)
          have hT0 : 0 ≤ T := by rw [HT.out]; exact sum_nonneg HCT.out.1
          have hT1 : T ≤ 1099511627776 := by rw [HT.out]; exact HCT.out.2
          have hMN : M.length = N.length := hMO.1
          have hMk : M.length = k := by rw [hMN, HN.out]
          have HX := hide hx
          have HMOM := hide hMO
          have HB1 := hide hb1
          have HB2 := hide hb2
          have HSUM := hide hsum
          have HEV2 := hide hev
          have BGM := hide bg
          have URM := hide ur
          have FRW := hide frw
          have HMK := hide hMk
          have HMN := hide hMN
          clear hx hMO hb1 hb2 hsum hev bg ur frw hMk hMN
          by_cases h0 : gk = 0
          · have hx0 : x = 0 := by rw [HX.out, h0]; simp
            subst hx0
            have hev3 : evenN N s = M := by
              rw [HEV2.out, h0]
              unfold stepN
              split <;> rfl
            obtain ⟨Q, hQ⟩ : ∃ Q, Q = rareN N s T M := ⟨_, rfl⟩
            have hQM : Q.length = M.length := by rw [hQ]; exact rareN_length HMN.out
            have hnorm : normN N p = Q.take (lastC N) := by
              unfold normN
              rw [← HS.out, ← HT.out, hev3, hQ]
            have HQG := hide (fun (i : Nat) (h1 : i < N.length) (h2 : i < M.length) => hQ ▸ rareN_get (s := s) (tot := T) h1 h2)
            have HQM := hide hQM
            have HNORM := hide hnorm
            have R6 := hide r6
            have R9 := hide r9
            have R10 := hide r10
            have RT := hide rT
            have hl9 := lastC_le N
            have hl0 := lastC_pos HU0.out
            have HLC := hide (show 0 < lastC N ∧ lastC N ≤ k from ⟨by omega, by have := HN.out; omega⟩)
            have HR3 := hide (fun W (h : Fresh wr W) => HR.out W (FRW.out.trans' h))
            have BGQ := hide (show Blk wr (H + 4) 3 (ints (mixL Q M 0)).toArray by rw [mixL_zero]; exact BGM.out)
            have hk2 := (X2.out.upd URM.out (by omega)).cell0
            clear hev3 hQ hQM hnorm hl9 hl0 r2 r6 r9 r10 r14 r15 rT HEV HEV2 HB1 HB2 HSUM HMO HMOM BGM HD HD1 HX X2 X6 X9 X10 X14 X15 XG XT h0
            go_wp2_with fail
            go_loopg [7, 102] k (fun f q i wy => ∃ (j : Nat) (y : Int), j + f = k ∧ i = .int .i64 j ∧ q = .int .i64 y ∧ (lastC (N.take j) ≠ 0 → y = lastC (N.take j)) ∧ Blk wy (H + 4) 3 (ints (mixL Q M j)).toArray ∧ Upd (fun b => b = H + 4) wr wy)
            case atStart => exact ⟨0, u, by omega, rfl, rfl, by simp [lastC], BGQ.out, Upd.refl _ _⟩
            case round =>
              obtain ⟨j, y, hj, rfl, rfl, hy, bg, uy⟩ := hrel
              have HJ := hide hj
              have HY := hide hy
              have BGJ := hide bg
              have UY := hide uy
              have s6 := R6.out.upd uy (by omega)
              have s9 := R9.out.upd uy (by omega)
              have s10 := R10.out.upd uy (by omega)
              have FY := hide (FRW.out.trans uy (fun b hb h => by have := HH.out; omega))
              have SX := hide (RT.out.upd uy (by omega))
              have c6 := s6.cell0
              have c9 := s9.cell0
              have c10 := s10.cell0
              clear hj hy bg uy
              by_cases hlt : j < k
              · have hjN : j < N.length := by rw [HN.out]; exact hlt
                have hjM : j < M.length := by rw [HMK.out]; exact hlt
                have HLT := hide (lastC_take hjN)
                have HQJ := hide (HQG.out j hjN hjM)
                have HMG := hide (List.getElem?_eq_getElem hjM)
                have HMS := hide (fun x (h : Q[j]? = some x) => mixL_set HQM.out hjM x h)
                have HML := hide (fun (h : Q[j]? = M[j]?) => mixL_same HQM.out hjM h)
                have HMM := hide (mixL_get HQM.out hjM)
                have hz := HCT.out.le (List.getElem_mem hjN)
                have hT1 := HCT.out.2
                rw [← HT.out] at hz hT1
                obtain ⟨b, o, _, rfl, _, hc⟩ := (HR.out _ FY.out).int (k := j) hlt
                generalize N[j] = z at *
                generalize M[j] = m at *
                have hjI : (j : Int) < k := by omega
                have hw4 : IntKind.i64.wrap ((j : Int) + 1) = j + 1 := IntWalk.i64_in _ (by omega)
                by_cases hz1 : 0 < z
                · rw [if_pos hz1] at HLT
                  have e1 : 0 ≤ z * s := Int.mul_nonneg hz.1 (by omega)
                  have e2 : z * s ≤ 562949953421312 := Int.le_trans (Int.mul_le_mul_of_nonneg_right (by omega : z ≤ 1099511627776) (by omega)) (Int.le_trans (Int.mul_le_mul_of_nonneg_left hpow (by omega)) (by decide))
                  have s1 : IntKind.i64.wrap (z * s) = z * s := IntWalk.i64_in _ (by omega)
                  by_cases hrare : z * s < T
                  · rw [if_pos ⟨hz1, hrare⟩] at HQJ
                    have HMS2 := hide (HMS.out _ HQJ.out)
                    have g0 : wr.cell? ⟨H + 4, j, none⟩ = some (.int .i64 m) := by rw [BGJ.out.cell]; simp [ints, HMM.out, HMG.out]
                    have g1 : wr.frozen? ⟨H + 4, j, none⟩ = false := BGJ.out.frozen j
                    have bgs := BGJ.out.set_ j (.int .i64 (-1))
                    rw [ints_set, HMS2.out] at bgs
                    have BGS := hide bgs
                    clear bgs
                    go_wp2_with fail
                    go_roundg (gk - 1)
                    case measure => have := HJ.out; omega
                    case rel => exact ⟨j + 1, (j : Int) + 1, by have := HJ.out; omega, by go_num, rfl, fun _ => by rw [HLT.out]; go_num, BGS.out, UY.out.setCell (p := ⟨H + 4, j, none⟩) (fun _ => rfl) _⟩
                  · rw [if_neg (fun h => hrare h.2)] at HQJ
                    have HMS2 := hide (HML.out (by rw [HQJ.out, HMG.out]))
                    go_wp2_with fail
                    go_roundg (gk - 1)
                    case measure => have := HJ.out; omega
                    case rel => exact ⟨j + 1, (j : Int) + 1, by have := HJ.out; omega, by go_num, rfl, fun _ => by rw [HLT.out]; go_num, by rw [← HMS2.out]; exact BGJ.out, UY.out⟩
                · rw [if_neg hz1] at HLT
                  rw [if_neg (fun h => hz1 h.1)] at HQJ
                  have HMS2 := hide (HML.out (by rw [HQJ.out, HMG.out]))
                  go_wp2_with fail
                  go_roundg (gk - 1)
                  case measure => have := HJ.out; omega
                  case rel => exact ⟨j + 1, y, by have := HJ.out; omega, by go_num, rfl, by rw [HLT.out]; exact HY.out, by rw [← HMS2.out]; exact BGJ.out, UY.out⟩
              · obtain rfl : j = k := by have := HJ.out; omega
                have htk : N.take j = N := List.take_of_length_le (by have := HN.out; omega)
                have hy := HY.out
                rw [htk] at hy
                have hyl := hy (by have := HLC.out; omega)
                subst hyl
                have hmq : mixL Q M j = Q := by have := mixL_all HQM.out; rw [HMK.out] at this; exact this
                have bgq := BGJ.out
                rw [hmq] at bgq
                have BGF := hide bgq
                have hl1 : (lastC N : Int) ≤ j := by have := HLC.out; omega
                have hl2 : 0 ≤ (lastC N : Int) := by omega
                have hl3 : lastC N ≤ j := HLC.out.2
                have t0 := SX.out.cell 0
                have t1 := SX.out.cell 1
                have z0 := SX.out.frozen 0
                have z1 := SX.out.frozen 1
                simp at t0 t1
                clear htk hy hmq bgq
                go_wp2_with fail
                refine bodyPost_ret (results_cell_tmp_row rfl _ _ (H + 1) _ _ _ rfl ((SX.out.set_ 0 (.int .i64 p)).set_ 1 (.slice (some ⟨H + 4, 0, none⟩) (lastC N) j)) Tryz.underlying25 rfl (by kernel_rfl)) rfl ?_
                have hln : (normN N p).length = lastC N := by
                  rw [HNORM.out, List.length_take, Nat.min_eq_left]
                  rw [HQM.out, HMK.out]; exact hl3
                have u3 := setTwoT wr (H + 1) (.int .i64 p) (.slice (some ⟨H + 4, 0, none⟩) (lastC N) j)
                have b3 := BGF.out.upd u3 (by omega)
                refine hR.out _ _ ⟨H + 4, j, by rw [hln]; rfl, ?_, by have := HH.out; omega, FY.out.trans u3 (fun b hb h => by have := HH.out; omega)⟩
                have r3 := (Blk.rdg b3 rfl).take (k := lastC N) (by rw [HQM.out, HMK.out]; exact hl3)
                rw [hln, HNORM.out]
                have e3 : ints (Q.take (lastC N)) = (ints Q).take (lastC N) := by simp [ints, List.map_take]
                rw [e3]
                exact r3
          · have hxd : x ≠ 0 := by
              have h1 := HX.out
              rcases HD.out with ⟨rfl, h⟩ | ⟨rfl, h⟩ <;> omega
            have hxb : (x != 0) = true := by simpa using hxd
            have hxr : -562949953421312 ≤ x ∧ x ≤ 512 := by
              have h1 := HSUM.out
              have h2 := sum_nonneg (N := M) (fun y hy => (HMOM.out.mem hy).1)
              have h3 := HX.out
              have h4 := HB2.out
              have h5 := sum_le_mul (M := M) (B := Bd) (fun y hy => HMOM.out.mem hy)
              rw [HMK.out] at h5
              rcases HD.out with ⟨rfl, h⟩ | ⟨rfl, h⟩
              · omega
              · have h6 : Bd * (k : Int) ≤ 512 * k := Int.mul_le_mul_of_nonneg_right (h4 rfl) (by omega)
                omega
            obtain ⟨f, hf⟩ : ∃ f, gk = f + 1 := ⟨gk - 1, by omega⟩
            have hBd : Bd ≤ 1024 := by
              rcases HD.out with ⟨h, -⟩ | ⟨h, -⟩
              · have := HB1.out h; omega
              · have := HB2.out h; omega
            have NC := hide (show NCap wr _ A k c k H (H + 3) (H + 5) (H + 2) (H + 4) N M s T from ⟨r2, r9, r10, r6, BGM.out, HR.out wr FRW.out⟩)
            have NB := hide (show NBd N M s T from ⟨by omega, hpow, hT0, hT1, fun y hy => by have := HCT.out.le hy; have := HCT.out.2; omega, fun y hy => by have := HMOM.out.mem hy; omega⟩)
            have HF := hide hf
            have R14 := hide r14
            have R15 := hide r15
            have R10 := hide r10
            clear hf h0 hT0 hT1 r2 r6 r9 r10 r14 r15 rT hxd
            rcases HD.out with ⟨rfl, hd⟩ | ⟨rfl, hd⟩
            · obtain ⟨⟨j, y⟩, ha⟩ := up_some (N := N) (M := M) (s := s) (tot := T) HMN.out HU0.out
              obtain ⟨cc, m, hj1, hj2, hj0, hbump, hMO2, hsum2⟩ := up_step HMOM.out ha
              have hjk : j < k := by have := (List.getElem?_eq_some_iff.1 hj1).1; have := HN.out; omega
              have HFAR := hide (fun W (h : Qt wr W) => up_far _ A k c k H (H + 3) (H + 5) (H + 2) (H + 4) N M s T W (NC.out.fresh h.fresh) NB.out hn HMN.out)
              rw [ha] at HFAR
              simp only [bestI, aboveV] at HFAR
              have g10 := R10.out.cell0
              have g0 := R15.out.cell 0
              have g1 := R15.out.cell 1
              have g2 := R15.out.cell 2
              simp [wayV, aboveV] at g0 g1 g2
              have gj : wr.cell? ⟨H + 4, j, none⟩ = some (.int .i64 m) := (BGM.out.cell j).trans (by simp [ints, hj2])
              have gz : wr.frozen? ⟨H + 4, j, none⟩ = false := BGM.out.frozen j
              have HBUMP := hide hbump
              have HMO2 := hide hMO2
              have HSUM2 := hide hsum2
              obtain ⟨hm0, hm1, -⟩ := HMOM.out.2 j cc m hj1 hj2
              have hj00 : (0 : Int) ≤ (j : Int) := by omega
              have hjI : (j : Int) < (k : Int) := by omega
              have hw6 : IntKind.i64.wrap (m + 1) = m + 1 := IntWalk.i64_in _ (by omega)
              have hw7 : IntKind.i64.wrap (x - 1) = x - 1 := IntWalk.i64_in _ (by omega)
              clear hbump hMO2 hsum2 ha hj1 hj2
              go_wp2_with fail
              refine wp_region_quiet_tail 13 (by kernel_rfl) (by kernel_rfl) ?_
              simp only [List.take_succ_cons, List.take_zero, List.drop_succ_cons, List.drop_zero]
              repeat (first | go_big_quiet_step ((go_at_call 71; exact Calls.quiet_of (HFAR.out _ ⟨_, rfl⟩))) | quiet_step ((go_at_call 71; exact Calls.quiet_of (HFAR.out _ ⟨_, rfl⟩))))
              refine wpQuiet_nil ?_
              intro w' hw'
              have q3 : Qt wr w' := hw'
              have f3x := q3.fresh
              have f3y : Upd (fun b => b = H + 4) wr w' := f3x.mono (fun _ _ h => h.elim)
              have cjx : w'.cell? ⟨H + 4, j, none⟩ = some (.int .i64 m) := by rw [f3x.cells _ _ BGM.out.lt]; exact gj
              have czx : w'.frozen? ⟨H + 4, j, none⟩ = false := by rw [f3x.frozens _ _ BGM.out.lt]; exact gz
              clear q3 hw' gj gz g10 g0 g1 g2
              all_goals
                have uS := f3y.setCell (p := ⟨H + 4, j, none⟩) (fun _ => rfl) (.int .i64 (m + 1))
                have bgs := (BGM.out.fresh f3x).set_ j (.int .i64 (m + 1))
                rw [ints_set] at bgs
                have g2 := (R15.out.upd uS (by omega)).cell 2
                simp [wayV] at g2
                have US := hide uS
                have BGS := hide bgs
                clear uS bgs f3x f3y
                go_wp2_with fail
                go_roundg (gk - 1)
                case measure => have := HF.out; omega
                case rel =>
                  refine ⟨M.set j (m + 1), Bd + 1, x - 1, rfl, by have := HX.out; have := HF.out; omega, BGS.out, URM.out.trans' US.out, HMO2.out, fun h => by have := HB1.out h; have := HF.out; omega, fun h => by omega, by rw [HSUM2.out, HSUM.out]; omega, ?_⟩
                  rw [HEV2.out, HF.out, Nat.add_sub_cancel]
                  simp only [stepN, if_pos True.intro]
                  rw [upN, HBUMP.out]
            · obtain ⟨⟨j, y⟩, ha⟩ := dn_some (N := N) (M := M) (s := s) (tot := T) HMOM.out (by rw [← HU.out]; have h1 := HSUM.out; have h2 := HX.out; have h3 := HF.out; omega)
              obtain ⟨cc, m, hj1, hj2, hj0, hbump, hMO2, hsum2⟩ := dn_step HMOM.out ha
              have hjk : j < k := by have := (List.getElem?_eq_some_iff.1 hj1).1; have := HN.out; omega
              have HFAR := hide (fun W (h : Qt wr W) => dn_far _ A k c k H (H + 3) (H + 5) (H + 2) G (H + 4) N M s T W (NC.out.fresh h.fresh) NB.out hn HMN.out (R14.out.fresh h.fresh))
              rw [ha] at HFAR
              simp only [bestI, aboveV] at HFAR
              have g10 := R10.out.cell0
              have g0 := R15.out.cell 0
              have g1 := R15.out.cell 1
              have g2 := R15.out.cell 2
              simp [wayV, aboveV] at g0 g1 g2
              have gj : wr.cell? ⟨H + 4, j, none⟩ = some (.int .i64 m) := (BGM.out.cell j).trans (by simp [ints, hj2])
              have gz : wr.frozen? ⟨H + 4, j, none⟩ = false := BGM.out.frozen j
              have HBUMP := hide hbump
              have HMO2 := hide hMO2
              have HSUM2 := hide hsum2
              obtain ⟨hm0, hm1, -⟩ := HMOM.out.2 j cc m hj1 hj2
              have hj00 : (0 : Int) ≤ (j : Int) := by omega
              have hjI : (j : Int) < (k : Int) := by omega
              have hw6 : IntKind.i64.wrap (m + -1) = m + -1 := IntWalk.i64_in _ (by omega)
              have hw7 : IntKind.i64.wrap (x - -1) = x + 1 := IntWalk.i64_in _ (by omega)
              clear hbump hMO2 hsum2 ha hj1 hj2
              go_wp2_with fail
              refine wp_region_quiet_tail 13 (by kernel_rfl) (by kernel_rfl) ?_
              simp only [List.take_succ_cons, List.take_zero, List.drop_succ_cons, List.drop_zero]
              repeat (first | go_big_quiet_step ((go_at_call 71; exact Calls.quiet_of (HFAR.out _ ⟨_, rfl⟩))) | quiet_step ((go_at_call 71; exact Calls.quiet_of (HFAR.out _ ⟨_, rfl⟩))))
              refine wpQuiet_nil ?_
              intro w' hw'
              have q3 : Qt wr w' := hw'
              have f3x := q3.fresh
              have f3y : Upd (fun b => b = H + 4) wr w' := f3x.mono (fun _ _ h => h.elim)
              have cjx : w'.cell? ⟨H + 4, j, none⟩ = some (.int .i64 m) := by rw [f3x.cells _ _ BGM.out.lt]; exact gj
              have czx : w'.frozen? ⟨H + 4, j, none⟩ = false := by rw [f3x.frozens _ _ BGM.out.lt]; exact gz
              clear q3 hw' gj gz g10 g0 g1 g2
              all_goals
                have uS := f3y.setCell (p := ⟨H + 4, j, none⟩) (fun _ => rfl) (.int .i64 (m + -1))
                have bgs := (BGM.out.fresh f3x).set_ j (.int .i64 (m + -1))
                rw [ints_set] at bgs
                have g2 := (R15.out.upd uS (by omega)).cell 2
                simp [wayV] at g2
                have US := hide uS
                have BGS := hide bgs
                clear uS bgs f3x f3y
                go_wp2_with fail
                go_roundg (gk - 1)
                case measure => have := HF.out; omega
                case rel =>
                  refine ⟨M.set j (m + -1), Bd, x + 1, rfl, by have := HX.out; have := HF.out; omega, BGS.out, URM.out.trans' US.out, HMO2.out, fun h => by omega, fun h => HB2.out h, by rw [HSUM2.out, HSUM.out]; omega, ?_⟩
                  rw [HEV2.out, HF.out, Nat.add_sub_cancel]
                  simp only [stepN]
                  rw [if_neg (by decide), if_neg (by decide), dnN, HBUMP.out]

theorem normal_any (F : Nat → Prop) (A : Option Addr) (n c : Nat) (N : List Int) (w : World) (lg : Int) (hr : Rd w F A n (ints N)) (hfit : Fit N) (hn : (n : Int) ≤ 1099511627776) :
    Calls Tryz.prog 39 #[.slice A n c, .int .i64 lg] w fun e w' => if NormOk N lg then NewTabC w w' e lg (normN N lg.toNat) 0 else e = .returned (.tuple #[.agg #[.int .i64 0, .slice none 0 0], .int .i64 2]) ∧ Fresh w w' := by
  by_cases h : NormOk N lg
  · simp only [if_pos h]
    obtain ⟨p, rfl⟩ : ∃ p : Nat, lg = p := ⟨lg.toNat, by have := h.2.2.1; omega⟩
    exact normal_ok F A n c N w p hr hfit hn h
  · simp only [if_neg h]
    exact normal_no F A n c N w lg hr hfit hn h

end Go.Proofs.YtcdbfddoanigbaaGreat

/-
  Package modes: tables, the candidates.
  Conditions: none beyond those of each theorem.
-/
namespace Go.Proofs.YtcdbfddoanigbaaGreat
open Go.RowKit
set_option linter.unusedVariables false
set_option linter.unusedSimpArgs false

theorem infoCh : (Tryz.prog.info? 54).map (fun i => (i.zero, i.size, i.bytes)) = some (some (.agg #[.int .i64 0, .int .i64 0, .slice none 0 0, .int .i64 0]), 4, 48) := by kernel_rfl

/-- the slice v owns its row of choices -/
def OwnCh (w : World) (v : Value) (ts : List Ch) : Prop := w.ownsRow 0 54 4 v ts.length (ts.flatMap Ch.vals)
theorem Ch.vals_one (t : Ch) : ∀ u ∈ t.vals, u.oneCell' = true := by
  intro u hu
  simp only [Ch.vals, List.mem_cons, List.not_mem_nil, or_false] at hu
  rcases hu with rfl | rfl | rfl | rfl <;> rfl
theorem chs_get : ∀ (ts : List Ch) (j : Nat) (h : j < ts.length) (r : Nat), r < 4 → (ts.flatMap Ch.vals)[j * 4 + r]? = ts[j].vals[r]?
  | t :: ts, 0, _, r, hr => by
    rw [List.flatMap_cons, Nat.zero_mul, Nat.zero_add, List.getElem?_append_left (by simpa [Ch.vals] using hr)]; rfl
  | t :: ts, j + 1, h, r, hr => by
    rw [List.flatMap_cons, List.getElem?_append_right (by simp [Ch.vals]; omega)]
    have h4 : (Ch.vals t).length = 4 := rfl
    rw [h4, show (j + 1) * 4 + r - 4 = j * 4 + r by omega, chs_get ts j (by simpa using h) r hr]
    rfl
theorem chs_length (ts : List Ch) : (ts.flatMap Ch.vals).length = ts.length * 4 := by
  induction ts with
  | nil => rfl
  | cons t ts ih => rw [List.flatMap_cons, List.length_append, ih, List.length_cons]; simp [Ch.vals]; omega
theorem OwnCh.nil (w : World) : OwnCh w (.slice none 0 0) [] := World.ownsRow_nil w 0 _ 4
theorem OwnCh.upd {S : Nat → Prop} {w w' : World} {v : Value} {ts : List Ch} (h : OwnCh w v ts) (hu : Upd S w w') (hs : ∀ b, v.ownBlock = some b → ¬ S b) : OwnCh w' v ts := by
  refine ⟨h.1, ?_⟩
  rcases h.2 with hn | ⟨g, cap, cur, rfl, hb, hgg, rest⟩
  · exact .inl hn
  · refine .inr ⟨g, cap, cur, rfl, hb, ?_, rest⟩
    rw [hu.block g (Array.getElem?_eq_some_iff.1 hgg).1 (hs g rfl)]
    exact hgg
theorem OwnCh.fresh {w w' : World} {v : Value} {ts : List Ch} (h : OwnCh w v ts) (hu : Fresh w w') : OwnCh w' v ts := h.upd hu fun _ _ h => h
theorem OwnCh.lt {w : World} {v : Value} {ts : List Ch} (h : OwnCh w v ts) {k : Nat} (hk : v.ownBlock = some k) : k < w.heap.size := (World.ownsRow.lt h k hk).2
theorem OwnCh.chs {w : World} {g n cc : Nat} {ts : List Ch} (h : OwnCh w (.slice (some ⟨g, 0, none⟩) n cc) ts) : n = ts.length ∧ Chs w g 0 ts := by
  rcases h.2 with ⟨h1, _⟩ | ⟨g', cap, cur, h1, _, hg, hn, hm, hc, ht⟩
  · cases h1
  · injection h1 with e1 e2 e3
    injection e1 with e1
    injection e1 with e1
    subst e1 e2
    refine ⟨rfl, (Array.getElem?_eq_some_iff.1 hg).1, fun j hj => ?_⟩
    have key : ∀ r, r < 4 → w.cell? ⟨g, 0 + j * 4 + r, none⟩ = ts[j].vals[r]? := by
      intro r hr
      rw [cell_of_row w g _ cur _ (0, 0) hg, ← chs_get ts j hj r hr, ← ht, List.getElem?_take, if_pos (by omega)]
      simp
    exact ⟨key 0 (by omega), key 1 (by omega), key 2 (by omega), key 3 (by omega)⟩
theorem OwnCh.new {w : World} {k : Nat} (t : Ch) (h : k = w.heap.size) : OwnCh (w.alloc (.cells #[.int .i64 t.mo, .int .i64 t.lg, .slice t.A t.n t.c, .int .i64 t.x] 54)) (.slice (some ⟨k, 0, none⟩) 1 1) [t] := by
  have hb := blk_new h 54 #[.int .i64 t.mo, .int .i64 t.lg, .slice t.A t.n t.c, .int .i64 t.x]
  exact ⟨rfl, .inr ⟨k, 1, _, rfl, Nat.zero_le _, hb, Nat.le_refl _, by unfold maxLen; omega, rfl, rfl⟩⟩

section
variable (w : World)
theorem app_ch_facts {v : Value} {ts : List Ch} (hown : OwnCh w v ts) {k : Nat} {t : Ch} (hb : Blk w k 54 #[.int .i64 t.mo, .int .i64 t.lg, .slice t.A t.n t.c, .int .i64 t.x]) :
    (∀ (j : Nat) u, t.vals[j]? = some u → w.cell? ((⟨k, 0, none⟩ : Addr).add j) = some u) := by
  intro j u hu
  rw [Addr.add_lit, hb.cells j u hu]
theorem wpList_app_ch {ops : Array Oper} {rest : List Oper} {o : Oper} {a : Act} {Q : Exit → Act → World → Prop} (hgd : o.guard = none) (s x : Operand)
    (ho : o.op = .call { callee := .builtin .append, args := #[s, x], argTypes := #[51, 51] })
    (v : Value) (ts : List Ch) (hs : a.eval s = v) (hown : OwnCh w v ts) (k cap : Nat) (t : Ch) (hx : a.eval x = .slice (some ⟨k, 0, none⟩) 1 cap) (hb : Blk w k 54 #[.int .i64 t.mo, .int .i64 t.lg, .slice t.A t.n t.c, .int .i64 t.x]) (hlen : ts.length ≤ 2 ^ 30)
    (h : ∀ g cap w', OwnCh w' (.slice (some ⟨g, 0, none⟩) (ts.length + 1) cap) (ts ++ [t]) → w.grownBy w' v.ownBlock → (v.ownBlock = some g ∨ g = w.heap.size) → g < w'.heap.size → wpList Tryz.prog ops Q rest (a.put o.dst (.slice (some ⟨g, 0, none⟩) (ts.length + 1) cap)) w') :
    wpList Tryz.prog ops Q (o :: rest) a w := by
  obtain ⟨i, hi0, hz, hsize, hby⟩ := info_parts infoCh
  refine wpList_append_lies w hgd s x _ ho 0 54 i _ 4 48 Tryz.underlying51 hi0 hz hsize hby rfl (by omega) v ts.length _ hs hown ⟨k, 0, none⟩ 1 cap t.vals hx rfl (app_ch_facts w hown hb) t.vals_one (by omega) (by simp only [maxLen]; omega) (by omega) (Nat.zero_le _) _ rfl ?_
  intro g cap w' h1 h2 h3 h4
  refine h g cap w' ?_ h2 h3 h4
  unfold OwnCh
  rw [List.flatMap_append, List.length_append]
  simpa using h1
theorem step_app_ch {ops : Array Oper} {o : Oper} {a : Act} {K : Act → World → Prop} {Q : Exit → Act → World → Prop} {E : Prop} (hgd : o.guard = none) (s x : Operand)
    (ho : o.op = .call { callee := .builtin .append, args := #[s, x], argTypes := #[51, 51] })
    (v : Value) (ts : List Ch) (hs : a.eval s = v) (hown : OwnCh w v ts) (k cap : Nat) (t : Ch) (hx : a.eval x = .slice (some ⟨k, 0, none⟩) 1 cap) (hb : Blk w k 54 #[.int .i64 t.mo, .int .i64 t.lg, .slice t.A t.n t.c, .int .i64 t.x]) (hlen : ts.length ≤ 2 ^ 30)
    (h : ∀ g cap w', OwnCh w' (.slice (some ⟨g, 0, none⟩) (ts.length + 1) cap) (ts ++ [t]) → w.grownBy w' v.ownBlock → (v.ownBlock = some g ∨ g = w.heap.size) → g < w'.heap.size → K (a.put o.dst (.slice (some ⟨g, 0, none⟩) (ts.length + 1) cap)) w') :
    if Region.wanted o (yielded ops a.tmps) = true then Oper.wp Tryz.prog o a w K Q else E := by
  obtain ⟨i, hi0, hz, hsize, hby⟩ := info_parts infoCh
  refine step_append_lies w hgd s x _ ho 0 54 i _ 4 48 Tryz.underlying51 hi0 hz hsize hby rfl (by omega) v ts.length _ hs hown ⟨k, 0, none⟩ 1 cap t.vals hx rfl (app_ch_facts w hown hb) t.vals_one (by omega) (by simp only [maxLen]; omega) (by omega) (Nat.zero_le _) _ rfl ?_
  intro g cap w' h1 h2 h3 h4
  refine h g cap w' ?_ h2 h3 h4
  unfold OwnCh
  rw [List.flatMap_append, List.length_append]
  simpa using h1
end

theorem partN_pos (p : Int) : 0 < (partN p).length := by
  unfold partN
  split
  · rw [llN_length]; omega
  · split
    · rw [ofN_length]; omega
    · rw [mlN_length]; omega

/-- t is the choice (mode, Log, norms) -/
def Cand (w : World) (t : Ch) (c : Int × Int × List Int) : Prop := t.mo = c.1 ∧ t.lg = c.2.1 ∧ ∃ G, Rd w G t.A t.n (ints c.2.2)
theorem Cand.fresh {w w' : World} {t : Ch} {c : Int × Int × List Int} (h : Cand w t c) (hu : Fresh w w') : Cand w' t c := by
  obtain ⟨h1, h2, G, h3⟩ := h
  exact ⟨h1, h2, G, h3.fresh hu⟩

/-- the candidates: the previous table, the predefined one, the one made for the counts -/
def candsN (p x lg : Int) (N C : List Int) : List (Int × Int × List Int) :=
  (3, lg, N) :: (0, partL p, partN p) :: if NormOk C (max (recL C (min x 9)) 0) then [(if recL C (min x 9) = 0 then 1 else 2, max (recL C (min x 9)) 0, normN C (max (recL C (min x 9)) 0).toNat)] else []

/-- what tables leaves -/
def TabsPost (w w' : World) (e : Ending) (cs : List (Int × Int × List Int)) : Prop :=
  ∃ ts g cc, e = .returned (.slice (some ⟨g, 0, none⟩) ts.length cc) ∧ Chs w' g 0 ts ∧ ts.length = cs.length ∧ (∀ (j : Nat) t c, ts[j]? = some t → cs[j]? = some c → Cand w' t c) ∧ Fresh w w'

set_option maxRecDepth 100000 in
set_option maxHeartbeats 4000000 in
theorem tabs_any (F G : Nat → Prop) (A B : Option Addr) (n c m d : Nat) (p s x lg : Int) (N C : List Int) (w : World) (hs : Rd w G B m (ints N)) (hr : Rd w F A n (ints C)) (hfit : Fit C) (hn : (n : Int) ≤ 1099511627776) (hp : 0 ≤ p ∧ p ≤ 2) :
    Calls Tryz.prog 16 #[.slice A n c, .agg #[.int .i64 p, .int .i64 s, .int .i64 x, .int .i64 lg, .slice B m d]] w fun e w' => TabsPost w w' e (candsN p x lg N C) := by
  obtain ⟨w0, hw0⟩ : ∃ w0, w0 = w.alloc (.cells #[.int .i64 p, .int .i64 s, .int .i64 x, .int .i64 lg, .slice B m d] 48) := ⟨_, rfl⟩
  obtain ⟨H, hH⟩ : ∃ H, H = w.heap.size := ⟨_, rfl⟩
  have f0 : Fresh w w0 := by rw [hw0]; exact (Upd.refl _ _).alloc _
  have bp : Blk w0 H 48 #[.int .i64 p, .int .i64 s, .int .i64 x, .int .i64 lg, .slice B m d] := by rw [hw0]; exact blk_new hH _ _
  have q0 := bp.cell 0
  have q1 := bp.cell 1
  have q2 := bp.cell 2
  have q3 := bp.cell 3
  have q4 := bp.cell 4
  simp at q0 q1 q2 q3 q4
  have BP := hide bp
  have F0 := hide f0
  have HPT := hide (fun W => pTable_any p W hp)
  have HREC := hide (fun W (h : Fresh w W) => nrec_any F A n c C W x (hr.fresh h) hfit hn)
  have HNRM := hide (fun W (h : Fresh w W) lb => normal_any F A n c C W lb (hr.fresh h) hfit hn)
  have HS := hide (fun W (h : Fresh w W) => hs.fresh h)
  have HW := hide hw0
  have HH := hide hH
  clear hw0 hH f0 bp hr hfit hs hp
  generalize hcs : candsN p x lg N C = cs at *
  unfold candsN at hcs
  have HCS := hide hcs
  clear hcs
  refine veil fun R hR => ?_
  go_enter Tryz.func16, Tryz.ntmps16
  go_upto_region 1 with fail
  simp only [← HH.out, ← HW.out]
  go_upto_region 2 with fail
  have hz0 : w0.heap.size = H + 1 := by rw [HW.out, HH.out]; simp
  simp only [hz0]
  obtain ⟨w1, hw1⟩ : ∃ w1, w1 = w0.alloc (.cells #[.int .i64 3, .int .i64 lg, .slice B m d, .int .i64 0] 54) := ⟨_, rfl⟩
  rw [← hw1]
  have o1 : OwnCh w1 (.slice (some ⟨H + 1, 0, none⟩) 1 1) [⟨3, lg, B, m, d, 0⟩] := by rw [hw1]; exact OwnCh.new ⟨3, lg, B, m, d, 0⟩ hz0.symm
  have f1 : Fresh w0 w1 := by rw [hw1]; exact (Upd.refl _ _).alloc _
  have b1 := BP.out.fresh f1
  have q0 := b1.cell 0
  have q1 := b1.cell 1
  have q2 := b1.cell 2
  simp at q0 q1 q2
  have O1 := hide o1
  have F1 := hide (F0.out.trans' f1)
  have BP1 := hide b1
  have hz1 : w1.heap.size = H + 2 := by rw [hw1]; simp [hz0]
  have HZ1 := hide hz1
  clear hw1 o1 f1 b1 BP hz0 HW hz1 q3 q4
  go_wp2_with fail
  refine (HPT.out _).mono ?_
  rintro e w2 ⟨g2, rfl, r2, hg2, f2⟩
  have F2 := hide (F1.out.trans' f2)
  have O2 := hide (O1.out.fresh f2)
  have BP2 := hide (BP1.out.fresh f2)
  have R2 := hide r2
  have HPN := hide (partN_pos p)
  generalize hk2 : (partN p).length = n2 at *
  have HK2 := hide hk2
  clear r2 f2 O1 BP1 hk2 q0 q1 q2
  go_upto_region 3 with fail
  obtain ⟨k2, hk2⟩ : ∃ k2, k2 = w2.heap.size := ⟨_, rfl⟩
  obtain ⟨w3, hw3⟩ : ∃ w3, w3 = w2.alloc (.cells #[.int .i64 (partL p), .slice (some ⟨g2, 0, none⟩) n2 n2] 25) := ⟨_, rfl⟩
  rw [← hw3, ← hk2]
  have f3 : Fresh w2 w3 := by rw [hw3]; exact (Upd.refl _ _).alloc _
  have b3 : Blk w3 k2 25 #[.int .i64 (partL p), .slice (some ⟨g2, 0, none⟩) n2 n2] := by rw [hw3]; exact blk_new hk2 _ _
  have hz3 : w3.heap.size = k2 + 1 := by rw [hw3, hk2]; simp
  have t0 := b3.cell 0
  have t1 := b3.cell 1
  simp at t0 t1
  have F3 := hide (F2.out.trans' f3)
  have O3 := hide ((O2.out.fresh f3).fresh ((Upd.refl (fun _ => False) w3).alloc (.cells #[.int .i64 0, .int .i64 (partL p), .slice (some ⟨g2, 0, none⟩) n2 n2, .int .i64 0] 54)))
  have BP3 := hide (BP2.out.fresh f3)
  have R3 := hide (R2.out.fresh f3)
  have BC3 := hide (blk_new (w := w3) hz3.symm 54 #[.int .i64 0, .int .i64 (partL p), .slice (some ⟨g2, 0, none⟩) n2 n2, .int .i64 0])
  have F3A := hide ((Upd.refl (fun _ => False) w3).alloc (.cells #[.int .i64 0, .int .i64 (partL p), .slice (some ⟨g2, 0, none⟩) n2 n2, .int .i64 0] 54))
  have hg2k : g2 < k2 := by
    obtain ⟨b, o, e, h1, h2, _⟩ := R2.out.2 HPN.out
    omega
  have hz3a : ∀ o, (w3.alloc o).heap.size = k2 + 2 := fun o => by simp [hz3]
  have HZ3 := hide hz3
  have HZ3A := hide hz3a
  clear hw3 f3 b3 hk2 O2 BP2 R2 hz3a hz3
  have hz3b := HZ3.out
  go_upto_region 4 with (at_builtin; refine wpList_app_ch _ rfl (.tmp 22) (.tmp 25) (by rfl) (.slice (some ⟨H + 1, 0, none⟩) 1 1) [⟨3, lg, B, m, d, 0⟩] (by rfl) O3.out (k2 + 1) 1 ⟨0, partL p, some ⟨g2, 0, none⟩, n2, n2, 0⟩ (by rfl) BC3.out (by simp) ?_; intro g4 c4 w4 o4 u4 a4 l4)
  have hg4 : g4 ≠ H ∧ g4 ≠ g2 ∧ H + 1 ≤ g4 := by
    have e := HZ3A.out (.cells #[.int .i64 0, .int .i64 (partL p), .slice (some ⟨g2, 0, none⟩) n2 n2, .int .i64 0] 54)
    have h1 := HZ1.out
    rcases a4 with h | h
    · have h2 : H + 1 = g4 := by simpa [Value.ownBlock] using h
      omega
    · rw [e] at h
      omega
  have ua4 : Upd (fun b => b = H + 1) w3 w4 := (F3A.out.mono (fun _ _ h => h.elim)).grown u4 (fun k hk _ => by simpa [Value.ownBlock] using hk.symm)
  have b4 := BP3.out.upd ua4 (by omega)
  have r4 := R3.out.upd ua4 (fun b _ h h' => by have := HZ1.out; omega)
  have f4 : Fresh w w4 := F3.out.trans ua4 (fun b hb h => by have := HH.out; omega)
  have q2 := b4.cell 2
  simp at q2
  have O4 := hide o4
  have HG4 := hide hg4
  have HL4 := hide l4
  have R4 := hide r4
  have F4 := hide f4
  clear o4 u4 a4 l4 hg4 ua4 b4 r4 f4 O3 BP3 R3 BC3 F3A HZ3 HZ3A hz3b t0 t1
  generalize recL C (min x 9) = L at *
  go_wp2_with fail
  refine (HREC.out _ F4.out).mono ?_
  rintro e w5 ⟨rfl, rfl⟩
  go_wp2_with fail
  refine (HNRM.out _ F4.out _).mono ?_
  by_cases hok : NormOk C (max L 0)
  · rw [if_pos hok] at HCS
    simp only [if_pos hok]
    have hL0 : 0 ≤ max L 0 := by omega
    clear hok
    rintro e w6 ⟨g6, c6, rfl, r6, hg6, f6⟩
    generalize hM : normN C (max L 0).toNat = M at *
    generalize hL1 : max L 0 = L1 at *
    have hgk : g4 ≠ g6 := by have := HL4.out; omega
    generalize hk6 : M.length = n6 at *
    have O6 := hide (O4.out.fresh f6)
    have R6 := hide (R4.out.fresh f6)
    have RN6 := hide r6
    have F6 := hide (F4.out.trans' f6)
    have HK6 := hide hk6
    have HGK := hide hgk
    clear f6 r6 hg6 hM hL1 O4 R4 F4 hk6 hgk q2
    go_upto_region 6 with fail
    obtain ⟨k6, hk6⟩ : ∃ k6, k6 = w6.heap.size := ⟨_, rfl⟩
    obtain ⟨w7, hw7⟩ : ∃ w7, w7 = w6.alloc (.cells #[.int .i64 L1, .slice (some ⟨g6, 0, none⟩) n6 c6] 25) := ⟨_, rfl⟩
    rw [← hw7, ← hk6]
    have f7 : Fresh w6 w7 := by rw [hw7]; exact (Upd.refl _ _).alloc _
    have b7 : Blk w7 k6 25 #[.int .i64 L1, .slice (some ⟨g6, 0, none⟩) n6 c6] := by rw [hw7]; exact blk_new hk6 _ _
    have hz7 : w7.heap.size = k6 + 1 := by rw [hw7, hk6]; simp
    have t0 := b7.cell 0
    have t1 := b7.cell 1
    simp at t0 t1
    have F7 := hide (F6.out.trans' f7)
    have BC7 := hide (fun mo => blk_new (w := w7) hz7.symm 54 #[.int .i64 mo, .int .i64 L1, .slice (some ⟨g6, 0, none⟩) n6 c6, .int .i64 0])
    have F7A := hide (fun mo => (Upd.refl (fun _ => False) w7).alloc (.cells #[.int .i64 mo, .int .i64 L1, .slice (some ⟨g6, 0, none⟩) n6 c6, .int .i64 0] 54))
    have O7 := hide (fun mo => (O6.out.fresh f7).fresh (F7A.out mo))
    have R7 := hide (R6.out.fresh f7)
    have RN7 := hide (RN6.out.fresh f7)
    clear hw7 f7 b7 hk6 O6 R6 RN6
    by_cases hL : L = 0
    · have hLb : (L == 0) = true := by simpa using hL
      go_wp2_with (at_builtin; refine wpList_app_ch _ rfl (.tmp 42) (.tmp 46) (by rfl) (.slice (some ⟨g4, 0, none⟩) 2 c4) [⟨3, lg, B, m, d, 0⟩, ⟨0, partL p, some ⟨g2, 0, none⟩, n2, n2, 0⟩] (by rfl) (O7.out 1) (k6 + 1) 1 ⟨1, L1, some ⟨g6, 0, none⟩, n6, c6, 0⟩ (by rfl) (BC7.out 1) (by simp) ?_; intro g8 c8 w8 o8 u8 a8 l8)
      have ua8 : Upd (fun b => b = g4) w7 w8 := ((F7A.out 1).mono (fun _ _ h => h.elim)).grown u8 (fun k hk _ => by simpa [Value.ownBlock] using hk.symm)
      have r8 := R7.out.upd ua8 (fun b _ h h' => by have := HG4.out.2.1; omega)
      have rn8 := RN7.out.upd ua8 (fun b _ h h' => by have := HGK.out; omega)
      have f8 : Fresh w w8 := F7.out.trans ua8 (fun b hb h => by have := HH.out; have := HG4.out.2.2; omega)
      try go_ret
      refine hR.out _ _ ⟨_, g8, c8, rfl, o8.chs.2, by rw [← HCS.out]; rfl, ?_, f8⟩
      intro j t c hj hc
      rw [← HCS.out] at hc
      match j, hj, hc with
      | 0, hj, hc => simp at hj hc; subst hj hc; exact ⟨rfl, rfl, _, HS.out _ f8⟩
      | 1, hj, hc => simp at hj hc; subst hj hc; exact ⟨rfl, rfl, _, r8⟩
      | 2, hj, hc => simp at hj hc; subst hj hc; exact ⟨by simp [hL], rfl, _, rn8⟩
    · have hLb : (L == 0) = false := by simpa using hL
      go_wp2_with (at_builtin; refine wpList_app_ch _ rfl (.tmp 42) (.tmp 46) (by rfl) (.slice (some ⟨g4, 0, none⟩) 2 c4) [⟨3, lg, B, m, d, 0⟩, ⟨0, partL p, some ⟨g2, 0, none⟩, n2, n2, 0⟩] (by rfl) (O7.out 2) (k6 + 1) 1 ⟨2, L1, some ⟨g6, 0, none⟩, n6, c6, 0⟩ (by rfl) (BC7.out 2) (by simp) ?_; intro g8 c8 w8 o8 u8 a8 l8)
      have ua8 : Upd (fun b => b = g4) w7 w8 := ((F7A.out 2).mono (fun _ _ h => h.elim)).grown u8 (fun k hk _ => by simpa [Value.ownBlock] using hk.symm)
      have r8 := R7.out.upd ua8 (fun b _ h h' => by have := HG4.out.2.1; omega)
      have rn8 := RN7.out.upd ua8 (fun b _ h h' => by have := HGK.out; omega)
      have f8 : Fresh w w8 := F7.out.trans ua8 (fun b hb h => by have := HH.out; have := HG4.out.2.2; omega)
      try go_ret
      refine hR.out _ _ ⟨_, g8, c8, rfl, o8.chs.2, by rw [← HCS.out]; rfl, ?_, f8⟩
      intro j t c hj hc
      rw [← HCS.out] at hc
      match j, hj, hc with
      | 0, hj, hc => simp at hj hc; subst hj hc; exact ⟨rfl, rfl, _, HS.out _ f8⟩
      | 1, hj, hc => simp at hj hc; subst hj hc; exact ⟨rfl, rfl, _, r8⟩
      | 2, hj, hc => simp at hj hc; subst hj hc; exact ⟨by simp [hL], rfl, _, rn8⟩
  · rw [if_neg hok] at HCS
    simp only [if_neg hok]
    clear hok
    rintro e w6 ⟨rfl, f6⟩
    have O6 := hide (O4.out.fresh f6)
    have R6 := hide (R4.out.fresh f6)
    have F6 := hide (F4.out.trans' f6)
    clear f6 O4 R4 F4 q2
    go_wp2_with fail
    try go_ret
    refine hR.out _ _ ⟨_, g4, c4, rfl, (O6.out.fresh ((Upd.refl _ _).alloc _)).chs.2, by rw [← HCS.out]; rfl, ?_, F6.out.alloc _⟩
    intro j t c hj hc
    rw [← HCS.out] at hc
    match j, hj, hc with
    | 0, hj, hc => simp at hj hc; subst hj hc; exact ⟨rfl, rfl, _, HS.out _ (F6.out.alloc _)⟩
    | 1, hj, hc => simp at hj hc; subst hj hc; exact ⟨rfl, rfl, _, R6.out.alloc _⟩

end Go.Proofs.YtcdbfddoanigbaaGreat

/-
  Choosing a table, as plain functions.
  Conditions: none beyond those of each theorem.
-/
namespace Go.Proofs.YtcdbfddoanigbaaGreat
open Go.RowKit
set_option linter.unusedVariables false
set_option linter.unusedSimpArgs false

/-- the price of a candidate, if Encode takes it and it covers the counts -/
def priceN (p : Int) (C : List Int) (c : Int × Int × List Int) : Option Int :=
  if (encN c.1 p c.2.1 c.2.2).1 = 0 ∧ (costN c.2.1 c.2.2 C).2 = 0 then some ((costN c.2.1 c.2.2 C).1 + 8 * (encN c.1 p c.2.1 c.2.2).2.length) else none
/-- the candidates that may be chosen, with their prices -/
def mayN (p : Int) (C : List Int) (cs : List (Int × Int × List Int)) : List ((Int × Int × List Int) × Int) := cs.filterMap fun c => (priceN p C c).map fun x => (c, x)
/-- the first of the cheapest -/
def cheapP : (Int × Int × List Int) × Int → List ((Int × Int × List Int) × Int) → (Int × Int × List Int) × Int
  | t, [] => t
  | t, s :: l => cheapP (if s.2 < t.2 then s else t) l
/-- what Choose answers: mode, Log, norms, error -/
def chooseN (p lg : Int) (N C : List Int) : Int × Int × List Int × Int :=
  if p < 0 ∨ 2 < p then (0, 0, [], 2) else
  match mayN p C (candsN p (partX p) lg N C) with
  | [] => (0, 0, [], 2)
  | c :: l => ((cheapP c l).1.1, (cheapP c l).1.2.1, (cheapP c l).1.2.2, 0)

theorem mayN_snoc (p : Int) (C : List Int) (cs : List (Int × Int × List Int)) (c : Int × Int × List Int) : mayN p C (cs ++ [c]) = mayN p C cs ++ (match priceN p C c with | none => [] | some x => [(c, x)]) := by
  unfold mayN
  rw [List.filterMap_append]
  congr 1
  rcases h : priceN p C c with _ | x <;> simp [h]

theorem costGo_range {lg : Int} {N : List Int} (h0 : 0 ≤ lg ∧ lg ≤ 9) (hN : ∀ v ∈ N, max v (-v) < 2 ^ 64) : ∀ (l : List Int) (i : Nat) (a r : Int), (∀ c ∈ l, 0 ≤ c) → costGo lg N i l a = some r → a - 100 * l.sum ≤ r ∧ r ≤ a + 100 * l.sum
  | [], i, a, r, _, h => by simp [costGo] at h; subst h; simp
  | c :: l, i, a, r, hl, h => by
    have hc := hl c (by simp)
    have hl' : ∀ c ∈ l, 0 ≤ c := fun c h => hl c (List.mem_cons_of_mem _ h)
    rw [costGo] at h
    rw [List.sum_cons]
    split at h
    · have := costGo_range h0 hN l (i + 1) a r hl' h
      omega
    · split at h
      · cases h
      · rename_i v hv
        split at h
        · cases h
        · have h1 := costGo_range h0 hN l (i + 1) _ r hl' h
          have hvN := hN v (List.mem_of_getElem? hv)
          have hb : Lib.bitLen (max v (-v)).toNat ≤ 64 := bitLen_le64 _ (by omega)
          generalize Lib.bitLen (max v (-v)).toNat = b at *
          have p1 : c * (lg + 1 - (b : Nat)) ≤ c * 100 := Int.mul_le_mul_of_nonneg_left (by omega) hc
          have p2 : c * (-100) ≤ c * (lg + 1 - (b : Nat)) := Int.mul_le_mul_of_nonneg_left (by omega) hc
          generalize c * (lg + 1 - (b : Nat)) = q at *
          omega
theorem costN_range {lg : Int} {N C : List Int} (hC : CtOk C) (hN : Fit N) : -109951162777600 ≤ (costN lg N C).1 ∧ (costN lg N C).1 ≤ 109951162777600 := by
  unfold costN
  split
  · rename_i h
    rcases hg : costGo lg N 0 C 0 with _ | a
    · simp
    · have h1 := costGo_range (lg := lg) (N := N) ⟨h.1.1, by have := h.1.2.1; have := h.1.2.2.1; omega⟩ (fun v hv => by have := hN v hv; omega) C 0 0 a hC.1 hg
      have h2 := hC.2
      have h3 := sum_nonneg hC.1
      simp only
      omega
  · simp

end Go.Proofs.YtcdbfddoanigbaaGreat

/-
  Package modes: Choose.
  Conditions: none beyond those of each theorem.
-/
namespace Go.Proofs.YtcdbfddoanigbaaGreat
open Go.RowKit
set_option linter.unusedVariables false
set_option linter.unusedSimpArgs false

theorem results_tmp_cell_tmp_row {P : Program} {fn : Func} {q p u : Tmp} {ty : TypeId} (h : fn.results = #[.tmp q, .cell p ty, .tmp u]) (tmps : Array Value) (w : World) (g : Nat) (t : TypeId) (cs : Array Value) (d : TypeDesc)
    (hp : tmps.getD p undef = .pointer (some ⟨g, 0, none⟩)) (hg : Blk w g t cs)
    (hu : P.underlying ty = some d) (hd : (match d with | .struct _ | .array _ _ => true | _ => false) = true) (hi : (P.info? ty).map (·.size) = some cs.size) :
    (results fn tmps).run P w = .ok (.tuple #[tmps.getD q undef, .agg cs, tmps.getD u undef]) w := by
  have hp' : tmps[p]?.getD undef = .pointer (some ⟨g, 0, none⟩) := by simpa using hp
  simp only [results, h]
  simp [Sem.run_bind, hp', asAddr, run_loadVar_row w g t ty cs (0, 0) d hg hu hd hi, Result.andThen]

theorem llN_fit : ∀ y ∈ llN, -1 ≤ y ∧ y ≤ 512 := by decide
theorem ofN_fit : ∀ y ∈ ofN, -1 ≤ y ∧ y ≤ 512 := by decide
theorem mlN_fit : ∀ y ∈ mlN, -1 ≤ y ∧ y ≤ 512 := by decide
theorem partN_fit (p : Int) : Fit (partN p) := by
  intro y hy
  unfold partN at hy
  split at hy
  · have := llN_fit y hy; omega
  · split at hy
    · have := ofN_fit y hy; omega
    · have := mlN_fit y hy; omega
theorem encN_len (mo p lg : Int) (N : List Int) (h : 0 ≤ p ∧ p ≤ 2) : (encN mo p lg N).2.length ≤ 1000 := by
  unfold encN
  split
  · simp
  · split
    · rename_i hv
      have h1 := hv.2.2.2.2.1
      have h2 := (part_bounds p).1
      unfold encM
      split
      · split <;> simp
      · split
        · split <;> simp
        · split
          · split
            · simp only [packB_length]
              have := descBits_length lg.toNat N (by have := hv.2.2.1; omega)
              omega
            · simp
          · simp
    · simp

theorem encN_pos {mo p lg : Int} {N : List Int} (h : (encN mo p lg N).1 = 0) : 0 < N.length := by
  unfold encN at h
  split at h
  · simp at h
  · split at h
    · rename_i hv
      exact hv.2.2.2.1
    · simp at h
theorem costN_ct {lg : Int} {N C : List Int} (h : (costN lg N C).2 = 0) : CtOk C := by
  unfold costN at h
  split at h
  · rename_i hv
    exact recL_ok hv.2
  · simp at h

/-- a choice that is what a priced candidate says; its norms are nobody else's -/
def Priced (w : World) (F : Nat → Prop) (t : Ch) (c : (Int × Int × List Int) × Int) : Prop :=
  t.mo = c.1.1 ∧ t.lg = c.1.2.1 ∧ t.x = c.2 ∧ -(2 ^ 60) ≤ t.x ∧ t.x ≤ 2 ^ 60 ∧ t.n = c.1.2.2.length ∧ RdU w F t.A t.n (ints c.1.2.2)

theorem Priced.upd {S : Nat → Prop} {w w' : World} {F : Nat → Prop} {t : Ch} {c : (Int × Int × List Int) × Int} (h : Priced w F t c) (hu : Upd S w w') (hs : ∀ b, b < w.heap.size → F b → ¬ S b) : Priced w' F t c := by
  obtain ⟨h1, h2, h3, h4, h5, h6, h7⟩ := h
  exact ⟨h1, h2, h3, h4, h5, h6, h7.upd hu hs⟩
/-- choices that are what the priced candidates say -/
def Priceds (w : World) (F : Nat → Prop) (ts : List Ch) (cs : List ((Int × Int × List Int) × Int)) : Prop := ts.length = cs.length ∧ ∀ (j : Nat) t c, ts[j]? = some t → cs[j]? = some c → Priced w F t c
theorem Priceds.upd {S : Nat → Prop} {w w' : World} {F : Nat → Prop} {ts : List Ch} {cs : List ((Int × Int × List Int) × Int)} (h : Priceds w F ts cs) (hu : Upd S w w') (hs : ∀ b, b < w.heap.size → F b → ¬ S b) : Priceds w' F ts cs :=
  ⟨h.1, fun j t c ht hc => (h.2 j t c ht hc).upd hu hs⟩
theorem Priceds.mono {w : World} {F F' : Nat → Prop} {ts : List Ch} {cs : List ((Int × Int × List Int) × Int)} (h : Priceds w F ts cs) (hf : ∀ b, b < w.heap.size → F b → F' b) : Priceds w F' ts cs := by
  refine ⟨h.1, fun j t c ht hc => ?_⟩
  obtain ⟨h1, h2, h3, h4, h5, h6, h7⟩ := h.2 j t c ht hc
  exact ⟨h1, h2, h3, h4, h5, h6, h7.both.mono (fun b hb => hf b hb.2 hb.1)⟩
theorem Priceds.snoc {w : World} {F : Nat → Prop} {ts : List Ch} {cs : List ((Int × Int × List Int) × Int)} {t : Ch} {c : (Int × Int × List Int) × Int} (h : Priceds w F ts cs) (h1 : Priced w F t c) : Priceds w F (ts ++ [t]) (cs ++ [c]) := by
  refine ⟨by simp [h.1], fun j t' c' ht hc => ?_⟩
  rw [List.getElem?_append] at ht hc
  rw [← h.1] at hc
  by_cases hj : j < ts.length
  · rw [if_pos hj] at ht hc
    exact h.2 j t' c' ht hc
  · rw [if_neg hj] at ht hc
    have h0 : j - ts.length = 0 := by
      have := (List.getElem?_eq_some_iff.1 ht).1
      simp at this
      omega
    rw [h0] at ht hc
    simp at ht hc
    subst ht hc
    exact h1
theorem priced_cheap {w : World} {F : Nat → Prop} : ∀ (ts : List Ch) (cs : List ((Int × Int × List Int) × Int)) (t : Ch) (c : (Int × Int × List Int) × Int), Priceds w F ts cs → Priced w F t c → Priced w F (cheapest t ts) (cheapP c cs)
  | [], cs, t, c, h, h1 => by
    have : cs = [] := List.eq_nil_of_length_eq_zero h.1.symm
    subst this
    exact h1
  | t' :: ts, [], t, c, h, h1 => by have := h.1; simp at this
  | t' :: ts, c' :: cs, t, c, h, h1 => by
    have h2 := h.2 0 t' c' rfl rfl
    have h3 : Priceds w F ts cs := ⟨by simpa using h.1, fun j a b ha hb => h.2 (j + 1) a b (by simpa using ha) (by simpa using hb)⟩
    rw [cheapest, cheapP]
    have e1 : t.x = c.2 := h1.2.2.1
    have e2 : t'.x = c'.2 := h2.2.2.1
    by_cases hx : t'.x < t.x
    · rw [if_pos hx, if_pos (by rw [← e1, ← e2]; exact hx)]
      exact priced_cheap ts cs t' c' h3 h2
    · rw [if_neg hx, if_neg (by rw [← e1, ← e2]; exact hx)]
      exact priced_cheap ts cs t c h3 h1

/-- what Choose leaves -/
def ChoosePost (w w' : World) (e : Ending) (r : Int × Int × List Int × Int) : Prop :=
  ∃ A n c, e = .returned (.tuple #[.int .i64 r.1, .agg #[.int .i64 r.2.1, .slice A n c], .int .i64 r.2.2.2]) ∧ n = r.2.2.1.length ∧ RdU w' (fun b => w.heap.size ≤ b) A n (ints r.2.2.1) ∧ Fresh w w'

set_option maxRecDepth 100000 in
set_option maxHeartbeats 4000000 in
theorem choose_no (A B : Option Addr) (n c m d : Nat) (p lg : Int) (w : World) (hp : p < 0 ∨ 2 < p) :
    Calls Tryz.prog 6 #[.slice A n c, .int .i64 p, .agg #[.int .i64 lg, .slice B m d]] w fun e w' => e = .returned (.tuple #[.int .i64 0, .agg #[.int .i64 0, .slice none 0 0], .int .i64 2]) ∧ Fresh w w' := by
  obtain ⟨w0, hw0⟩ : ∃ w0, w0 = (w.alloc (.cells #[.int .i64 lg, .slice B m d] 25)).alloc (.cells #[.int .i64 0, .slice none 0 0] 25) := ⟨_, rfl⟩
  obtain ⟨H, hH⟩ : ∃ H, H = w.heap.size := ⟨_, rfl⟩
  have f0 : Fresh w w0 := by rw [hw0]; exact ((Upd.refl _ _).alloc _).alloc _
  have bl : Blk w0 H 25 #[.int .i64 lg, .slice B m d] := by rw [hw0]; exact (blk_new hH _ _).alloc _
  have bt : Blk w0 (H + 1) 25 #[.int .i64 0, .slice none 0 0] := by rw [hw0]; exact blk_new (by simp [hH]) _ _
  have q0 := bl.cell 0
  have q1 := bl.cell 1
  simp at q0 q1
  have HOF := hide (mof_no p lg B m d w0 hp)
  have BT := hide bt
  have F0 := hide f0
  have HW := hide hw0
  have HH := hide hH
  clear hw0 hH f0 bl bt hp
  refine veil fun R hR => ?_
  go_enter Tryz.func6, Tryz.ntmps6
  go_upto_region 1 with fail
  simp only [← HH.out, ← HW.out]
  go_wp2_with (first | go_step3)
  refine HOF.out.mono ?_
  rintro e w1 ⟨rfl, f1⟩
  have b1 := BT.out.fresh f1
  have hd0 : ∀ o, (w1.alloc o).cell? ⟨H + 1, 0, none⟩ = some (.int .i64 0) := fun o => by simpa using (b1.alloc o).cell 0
  have hd1 : ∀ o, (w1.alloc o).cell? ⟨H + 1, 1, none⟩ = some (.slice none 0 0) := fun o => by simpa using (b1.alloc o).cell 1
  have hz0 : ∀ o, (w1.alloc o).frozen? ⟨H + 1, 0, none⟩ = false := fun o => (b1.alloc o).frozen 0
  have hz1 : ∀ o, (w1.alloc o).frozen? ⟨H + 1, 1, none⟩ = false := fun o => (b1.alloc o).frozen 1
  have B1 := hide b1
  have F1 := hide (F0.out.trans' f1)
  clear b1 f1
  go_wp2_with (first | go_step3)
  refine bodyPost_ret (results_tmp_cell_tmp_row rfl _ _ (H + 1) _ _ _ rfl (((B1.out.alloc _).set_ 0 (.int .i64 0)).set_ 1 (.slice none 0 0)) Tryz.underlying25 rfl (by kernel_rfl)) rfl ?_
  exact hR.out _ _ ⟨rfl, (F1.out.alloc _).trans (setTwoT _ (H + 1) _ _) (fun b hb h => by have := HH.out; omega)⟩

theorem upN_ok {N : List Int} {s tot : Int} : ∀ (f : Nat) (M : List Int) (B : Int), MOk N M B → MOk N (upN N s tot f M) (B + f)
  | 0, M, B, h => by simpa [upN] using h
  | f + 1, M, B, h => by
    rw [upN]
    have h2 : MOk N (bump M 1 (argmax (upV N M s tot))) (B + 1) := by
      rcases ha : argmax (upV N M s tot) with _ | ⟨j, y⟩
      · exact h.mono (by omega)
      · obtain ⟨c, m, _, _, _, hb, hm, _⟩ := up_step h ha
        rw [ha] at hb
        rw [hb]; exact hm
    have h3 := upN_ok (s := s) (tot := tot) f _ _ h2
    rwa [show B + 1 + (f : Int) = B + ((f + 1 : Nat) : Int) by omega] at h3
theorem dnN_ok {N : List Int} {s tot : Int} : ∀ (f : Nat) (M : List Int) (B : Int), MOk N M B → MOk N (dnN N s tot f M) B
  | 0, M, B, h => by simpa [dnN] using h
  | f + 1, M, B, h => by
    rw [dnN]
    refine dnN_ok f _ _ ?_
    rcases ha : argmax (dnV N M s tot) with _ | ⟨j, y⟩
    · exact h
    · obtain ⟨c, m, _, _, _, hb, hm, _⟩ := dn_step h ha
      rw [ha] at hb
      rw [hb]; exact hm
theorem pow_le512 {p : Nat} (h : p ≤ 9) : (1 : Int) ≤ 2 ^ p ∧ (2 : Int) ^ p ≤ 512 := by
  have h1 : 2 ^ p ≤ 2 ^ 9 := Nat.pow_le_pow_right (by omega) h
  have h2 : ((2 : Int) ^ p) = ((2 ^ p : Nat) : Int) := by simp
  have h3 := Nat.two_pow_pos p
  omega
theorem evenN_ok {N : List Int} {p : Nat} (h : CtOk N) (hp : p ≤ 9) : MOk N (evenN N (2 ^ p)) 1024 := by
  obtain ⟨h1, h2⟩ := pow_le512 hp
  have hb := base_ok h h1 h2
  have hs := sum_nonneg (N := baseN N (2 ^ p) N.sum) (fun y hy => (hb.mem hy).1)
  unfold evenN
  split
  · exact (upN_ok _ _ _ hb).mono (by omega)
  · exact (dnN_ok _ _ _ hb).mono (by omega)
theorem normN_mem {N : List Int} {p : Nat} (h : CtOk N) (hp : p ≤ 9) : ∀ y ∈ normN N p, -1 ≤ y ∧ y ≤ 1024 := by
  intro y hy
  have h1 := List.mem_of_mem_take hy
  unfold rareN at h1
  obtain ⟨i, hi, rfl⟩ := List.getElem_of_mem h1
  rw [List.getElem_zipWith]
  have h2 := (evenN_ok h hp).mem (y := (evenN N (2 ^ p))[i]'(by simp at hi; omega)) (List.getElem_mem _)
  split <;> omega
theorem normN_length_le (N : List Int) (p : Nat) : (normN N p).length ≤ N.length := by
  unfold normN
  rw [List.length_take]
  have := lastC_le N
  omega
theorem cands_fit {p x lg : Int} {N C : List Int} (hN : Fit N) (hl : N.length ≤ 2 ^ 40) (hC : C.length ≤ 2 ^ 40) : ∀ c ∈ candsN p x lg N C, Fit c.2.2 ∧ c.2.2.length ≤ 2 ^ 40 := by
  intro c hc
  unfold candsN at hc
  rcases List.mem_cons.1 hc with rfl | hc
  · exact ⟨hN, hl⟩
  · rcases List.mem_cons.1 hc with rfl | hc
    · exact ⟨partN_fit p, by have := partN_le p; simp only; omega⟩
    · split at hc
      · rename_i hok
        rw [List.mem_singleton] at hc
        subst hc
        obtain ⟨h1, _, h3, h4, _⟩ := hok
        refine ⟨fun y hy => ?_, by have := normN_length_le C (max (recL C (min x 9)) 0).toNat; simp only; omega⟩
        have := normN_mem h1 (by omega) y hy
        omega
      · cases hc

set_option maxRecDepth 100000 in
set_option maxHeartbeats 8000000 in
theorem choose_ok (F G : Nat → Prop) (A B : Option Addr) (n c m d : Nat) (p lg : Int) (N C : List Int) (w : World) (hs : Rd w G B m (ints N)) (hfN : Fit N) (hm : (m : Int) ≤ 1099511627776) (hr : Rd w F A n (ints C)) (hfC : Fit C) (hn : (n : Int) ≤ 1099511627776) (hp : 0 ≤ p ∧ p ≤ 2) :
    Calls Tryz.prog 6 #[.slice A n c, .int .i64 p, .agg #[.int .i64 lg, .slice B m d]] w fun e w' => ChoosePost w w' e (chooseN p lg N C) := by
  obtain ⟨w0, hw0⟩ : ∃ w0, w0 = (w.alloc (.cells #[.int .i64 lg, .slice B m d] 25)).alloc (.cells #[.int .i64 0, .slice none 0 0] 25) := ⟨_, rfl⟩
  obtain ⟨H, hH⟩ : ∃ H, H = w.heap.size := ⟨_, rfl⟩
  have f0 : Fresh w w0 := by rw [hw0]; exact ((Upd.refl _ _).alloc _).alloc _
  have bl : Blk w0 H 25 #[.int .i64 lg, .slice B m d] := by rw [hw0]; exact (blk_new hH _ _).alloc _
  have bt : Blk w0 (H + 1) 25 #[.int .i64 0, .slice none 0 0] := by rw [hw0]; exact blk_new (by simp [hH]) _ _
  have q0 := bl.cell 0
  have q1 := bl.cell 1
  simp at q0 q1
  have hNl : N.length = m := by have := hs.1; simpa using this
  have hCl : C.length = n := by have := hr.1; simpa using this
  obtain ⟨cs, hcs⟩ : ∃ cs, cs = candsN p (partX p) lg N C := ⟨_, rfl⟩
  have hfit : ∀ c ∈ cs, Fit c.2.2 ∧ c.2.2.length ≤ 2 ^ 40 := by rw [hcs]; exact cands_fit hfN (by omega) (by omega)
  have hch : chooseN p lg N C = match mayN p C cs with | [] => (0, 0, [], 2) | c :: l => ((cheapP c l).1.1, (cheapP c l).1.2.1, (cheapP c l).1.2.2, 0) := by
    unfold chooseN
    rw [if_neg (by omega), hcs]
    try rfl
  have HCL := hide (show cs.length ≤ 3 by rw [hcs]; unfold candsN; split <;> simp)
  have HOF := hide (mof_any p lg B m d w0 hp)
  have HTB := hide (fun W (h : Fresh w W) => tabs_any F G A B n c m d p (partS p) (partX p) lg N C W (hs.fresh h) (hr.fresh h) hfC hn hp)
  rw [← hcs] at HTB
  have HCO := hide (fun W (h : Fresh w W) (t : Ch) (cn : Int × Int × List Int) (hc : Cand W t cn) (hf : Fit cn.2.2) (hl : (t.n : Int) ≤ 1099511627776) => by
    obtain ⟨h1, h2, G', h3⟩ := hc
    exact cost_any F G' A t.A n c t.n t.c t.lg cn.2.2 C W h3 hf hl (hr.fresh h) hfC hn)
  have HLEN := hide (fun mo lg N => encN_len mo p lg N hp)
  have HFIT := hide hfit
  have HCH := hide hch
  have BT := hide bt
  have F0 := hide f0
  have HW := hide hw0
  have HH := hide hH
  have HFC := hide hfC
  clear hw0 hH f0 bl bt hp hcs hfit hch hs hr hfN hfC hNl hCl
  refine veil fun R hR => ?_
  go_enter Tryz.func6, Tryz.ntmps6
  go_upto_region 1 with fail
  simp only [← HH.out, ← HW.out]
  go_wp2_with (first | go_step3)
  refine HOF.out.mono ?_
  rintro e w1 ⟨rfl, f1⟩
  have BT1 := hide (BT.out.fresh f1)
  have F1 := hide (F0.out.trans' f1)
  clear f1 q0 q1 HOF
  go_upto_region 2 with (first | go_step3)
  obtain ⟨K1, hK1⟩ : ∃ K1, K1 = w1.heap.size := ⟨_, rfl⟩
  obtain ⟨w2, hw2⟩ : ∃ w2, w2 = w1.alloc (.cells #[.int .i64 p, .int .i64 (partS p), .int .i64 (partX p), .int .i64 lg, .slice B m d] 48) := ⟨_, rfl⟩
  rw [← hw2, ← hK1]
  have f2 : Fresh w1 w2 := by rw [hw2]; exact (Upd.refl _ _).alloc _
  have b2 : Blk w2 K1 48 #[.int .i64 p, .int .i64 (partS p), .int .i64 (partX p), .int .i64 lg, .slice B m d] := by rw [hw2]; exact blk_new hK1 _ _
  have q0 := b2.cell 0
  have q1 := b2.cell 1
  have q2 := b2.cell 2
  have q3 := b2.cell 3
  have q4 := b2.cell 4
  simp at q0 q1 q2 q3 q4
  have BT2 := hide (BT1.out.fresh f2)
  have F2 := hide (F1.out.trans' f2)
  clear hw2 hK1 f2 b2 BT1
  go_wp2_with (first | go_step3)
  refine (HTB.out _ F2.out).mono ?_
  rintro e w3 ⟨ts, g, cc, rfl, hts, htl, htc, f3⟩
  obtain ⟨n3, hn3⟩ : ∃ n3, n3 = ts.length := ⟨_, rfl⟩
  have hn3b : (n3 : Int) ≤ 10 := by
    rw [hn3, htl]
    have := HCL.out
    omega
  rw [← hn3]
  have F3 := hide (F2.out.trans' f3)
  have BT3 := hide (BT2.out.fresh f3)
  have HTS := hide hts
  have HTC := hide htc
  have HN3 := hide hn3
  have HN3C := hide (hn3.trans htl)
  clear hts htl htc f3 hn3 BT2 q0 q1 q2 q3 q4 HTB
  go_wp2_with (first | go_step3)
  go_loopg [11, 32] n3 (fun f q i wr => ∃ (k : Nat) (A1 : Option Addr) (c1 : Nat) (vs : List Ch), k + f = n3 ∧ i = .int .i64 k ∧ q = .slice A1 vs.length c1 ∧ OwnCh wr (.slice A1 vs.length c1) vs ∧ (∀ b, (Value.slice A1 vs.length c1).ownBlock = some b → w3.heap.size ≤ b) ∧
    Priceds wr (fun b => w3.heap.size ≤ b ∧ (Value.slice A1 vs.length c1).ownBlock ≠ some b) vs (mayN p C (cs.take k)) ∧ Fresh w3 wr ∧ vs.length ≤ k)
  case atStart => exact ⟨0, none, 0, [], by omega, rfl, rfl, OwnCh.nil _, by simp [Value.ownBlock], ⟨rfl, fun j t c ht => by simp at ht⟩, Upd.refl _ _, by simp⟩
  case round =>
    obtain ⟨k, A1, c1, vs, hk, rfl, rfl, ho, hob, hpr, fr, hvl⟩ := hrel
    have HK := hide hk
    have HO := hide ho
    have HOB := hide hob
    have HPR := hide hpr
    have FR := hide fr
    have HVL := hide hvl
    have hvs : (vs.length : Int) ≤ 10 := by omega
    clear hk ho hob hpr fr hvl
    generalize hv1 : vs.length = n1 at *
    have HV1 := hide hv1
    clear hv1
    by_cases hlt : k < n3
    · have hkt : k < ts.length := by rw [← HN3.out]; exact hlt
      have hkc : k < cs.length := by rw [← HN3C.out]; exact hlt
      obtain ⟨q0, q1, q2, q3⟩ := (HTS.out.fresh FR.out).2 k hkt
      have HCA := hide ((HTC.out k ts[k] cs[k] (List.getElem?_eq_getElem hkt) (List.getElem?_eq_getElem hkc)).fresh FR.out)
      have HFK := hide (HFIT.out cs[k] (List.getElem_mem hkc))
      have HMY := hide (show mayN p C (cs.take (k + 1)) = _ by rw [List.take_succ_eq_append_getElem hkc, mayN_snoc])
      generalize cs[k] = cn at *
      generalize ts[k] = t at *
      have hlI : (k : Int) < n3 := by omega
      have hw4 : IntKind.i64.wrap ((k : Int) + 1) = k + 1 := IntWalk.i64_in _ (by omega)
      simp only [Nat.zero_add] at q0 q1 q2 q3
      go_upto_region 8 with (first | go_step3)
      obtain ⟨K3, hK3⟩ : ∃ K3, K3 = wr.heap.size := ⟨_, rfl⟩
      obtain ⟨w4, hw4'⟩ : ∃ w4, w4 = wr.alloc (.cells #[.int .i64 t.mo, .int .i64 t.lg, .slice t.A t.n t.c, .int .i64 t.x] 54) := ⟨_, rfl⟩
      rw [← hw4', ← hK3]
      have f4 : Fresh wr w4 := by rw [hw4']; exact (Upd.refl _ _).alloc _
      have b4 : Blk w4 K3 54 #[.int .i64 t.mo, .int .i64 t.lg, .slice t.A t.n t.c, .int .i64 t.x] := by rw [hw4']; exact blk_new hK3 _ _
      have B4 := hide b4
      have F4 := hide f4
      have HK3 := hide hK3
      have q0 := b4.cell 0
      have q1 := b4.cell 1
      have q2 := b4.cell 2
      have q3 := b4.cell 3
      simp at q0 q1 q2 q3
      obtain ⟨hmo, hlg, G', hrd⟩ := HCA.out
      have htn : t.n = cn.2.2.length := by have := hrd.1; simpa using this.symm
      have htn2 : (t.n : Int) ≤ 1099511627776 := by have := HFK.out.2; omega
      have FW4 := hide (F3.out.trans' (FR.out.trans' f4))
      have HME := hide (fun W (h : Fresh wr W) => menc_any G' t.A t.n t.c t.mo p t.lg cn.2.2 W (hrd.fresh h) HFK.out.1 htn2)
      have HCC := hide (fun W (h : Fresh w W) (h' : Fresh wr W) => HCO.out W h t cn (HCA.out.fresh h') HFK.out.1 htn2)
      have HLE := HLEN.out t.mo t.lg cn.2.2
      have HRD := hide hrd
      have HPN := hide (show priceN p C cn = if (encN t.mo p t.lg cn.2.2).1 = 0 ∧ (costN t.lg cn.2.2 C).2 = 0 then some ((costN t.lg cn.2.2 C).1 + 8 * (encN t.mo p t.lg cn.2.2).2.length) else none by unfold priceN; rw [hmo, hlg])
      have HVD := hide (show (encN t.mo p t.lg cn.2.2).1 = 0 → 0 < t.n from fun h => by rw [htn]; exact encN_pos h)
      have HCR := hide (show (costN t.lg cn.2.2 C).2 = 0 → -109951162777600 ≤ (costN t.lg cn.2.2 C).1 ∧ (costN t.lg cn.2.2 C).1 ≤ 109951162777600 from fun h => costN_range (costN_ct h) HFK.out.1)
      have HMO := hide hmo
      have HLG := hide hlg
      have HTN := hide htn
      generalize (encN t.mo p t.lg cn.2.2).1 = E1 at *
      generalize (encN t.mo p t.lg cn.2.2).2 = EB at *
      generalize (costN t.lg cn.2.2 C).1 = C1 at *
      generalize (costN t.lg cn.2.2 C).2 = C2 at *
      clear hw4' hK3 f4 b4 hmo hlg hrd htn htn2
      go_wp2_with (first | go_step3)
      refine (HME.out _ F4.out).mono ?_
      rintro e w5 ⟨v, rfl, hnb⟩
      obtain ⟨Av, nv, cv, rfl, hnv⟩ := hnb.1.form'
      have hnv2 : nv = EB.length := by rw [hnv.out]; simp [bytes]
      have HNV := hide hnv2
      have f5 := hnb.2.1
      have F5 := hide (F4.out.trans' f5)
      have b5 := B4.out.fresh f5
      have q0 := b5.cell 0
      have q1 := b5.cell 1
      have q2 := b5.cell 2
      have q3 := b5.cell 3
      simp at q0 q1 q2 q3
      have B5 := hide b5
      have hnvI : (nv : Int) ≤ 1000 := by rw [hnv2]; omega
      clear hnb hnv hnv2 f5 b5 HLE
      by_cases hE : E1 = 0
      · subst hE
        have hvd := HVD.out rfl
        have hvdI : 0 < (t.n : Int) := by omega
        clear HVD HME
        go_wp2_with (first | go_step3)
        refine (HCC.out _ (F3.out.trans' (FR.out.trans' F5.out)) F5.out).mono ?_
        rintro e w6 ⟨rfl, f6⟩
        have F6 := hide (F5.out.trans' f6)
        have b6 := B5.out.fresh f6
        have q0 := b6.cell 0
        have q1 := b6.cell 1
        have q2 := b6.cell 2
        have q3 := b6.cell 3
        simp at q0 q1 q2 q3
        have B6 := hide b6
        clear f6 b6
        by_cases hC : C2 = 0
        · subst hC
          have HPN2 := hide (show priceN p C cn = some (C1 + 8 * (EB.length : Nat)) by rw [HPN.out]; simp)
          rw [← HNV.out] at HPN2
          obtain ⟨hcr0, hcr1⟩ := HCR.out rfl
          obtain ⟨O, hO⟩ : ∃ O : Nat → Prop, O = fun b => (Value.slice A1 n1 c1).ownBlock = some b := ⟨_, rfl⟩
          have hOi : ∀ b, O b ↔ (Value.slice A1 n1 c1).ownBlock = some b := fun b => by rw [hO]
          have hOK : ¬ O K3 := fun h => by have := HO.out.lt ((hOi K3).1 h); have := HK3.out; omega
          have HOI := hide hOi
          have HSS := hide (show ∀ W, Upd O w6 W → (Upd O w6 W ∧ W.cell? ⟨K3, 0, none⟩ = some (.int .i64 t.mo) ∧ W.cell? ⟨K3, 1, none⟩ = some (.int .i64 t.lg) ∧ W.cell? ⟨K3, 2, none⟩ = some (.slice t.A t.n t.c)) from fun W hW => by
            have b := B6.out.upd hW hOK
            exact ⟨hW, by simpa using b.cell 0, by simpa using b.cell 1, by simpa using b.cell 2⟩)
          have HSA := hide (fun W o (h : Upd O w6 W) => HSS.out _ (h.alloc o))
          have HCL7 := hide (fun W (h : Fresh w6 W) => icloneU_any G' t.A t.n t.c cn.2.2 W (HRD.out.fresh (F6.out.trans' h)) (by have := HFK.out.2; have := HTN.out; omega) hvd)
          have HOW := hide (fun W o (h : Fresh w6 W) => HO.out.fresh ((F6.out.trans' h).alloc o))
          have sw1 : IntKind.i64.wrap (8 * (nv : Int)) = 8 * nv := IntWalk.i64_in _ (by omega)
          have sw2 : IntKind.i64.wrap (C1 + 8 * (nv : Int)) = C1 + 8 * nv := IntWalk.i64_in _ (by omega)
          have hvlen : vs.length ≤ 2 ^ 30 := by rw [HV1.out]; omega
          have HVLEN := hide hvlen
          clear hO hOi hOK hvlen q3
          go_upto_region 12 with (first | go_step3)
          go_region_held3 (fun W => Upd O w6 W ∧ W.cell? ⟨K3, 0, none⟩ = some (.int .i64 t.mo) ∧ W.cell? ⟨K3, 1, none⟩ = some (.int .i64 t.lg) ∧ W.cell? ⟨K3, 2, none⟩ = some (.slice t.A t.n t.c))
            (first | exact HSS.out _ (by assumption) | exact HSS.out _ (And.left (by assumption)) | exact HSS.out _ (Upd.refl _ _) | exact HSS.out _ (Upd.refl _ _).drew | exact HSA.out _ _ (by assumption) | exact HSA.out _ _ (And.left (by assumption)))
            (first
              | (go_at_call 18; refine (HCL7.out _ (by first | exact Upd.refl _ _ | exact (Upd.refl _ _).drew | exact (Upd.refl _ _).drewN _)).mono ?_; rintro e w7 ⟨g7, c7, rfl, r7, f7⟩; have f7x : Fresh w6 w7 := (by first | exact f7 | exact Upd.trans' ((Upd.refl _ _).drew) f7); have f7y : Upd O w6 w7 := f7x.mono (fun _ _ h => h.elim))
              | (refine step_app_ch _ (by rfl) (.tmp 56) (.tmp 73) (by rfl) (.slice A1 n1 c1) vs (by rfl) (HOW.out _ _ f7x) _ 1 ⟨t.mo, t.lg, some ⟨g7, 0, none⟩, t.n, c7, C1 + 8 * nv⟩ (by rfl) (Blk.new _ _ _) HVLEN.out ?_; intro g8 c8 w8 o8 u8 a8 l8; have f8 : Upd O w6 w8 := (f7y.alloc _).grown u8 (fun k hk _ => (HOI.out k).2 hk)))
          all_goals
            have hsz6 : wr.heap.size ≤ w6.heap.size := F6.out.size
            have hsz7 : w6.heap.size ≤ w7.heap.size := f7x.size
            have hownlt : ∀ b, (Value.slice A1 n1 c1).ownBlock = some b → b < wr.heap.size := fun b h => HO.out.lt h
            have hg8 : (Value.slice A1 n1 c1).ownBlock = some g8 ∨ w7.heap.size < g8 := by
              rcases a8 with h | h
              · exact .inl h
              · refine .inr ?_
                rw [h]
                simp
            have hw3r : w3.heap.size ≤ wr.heap.size := FR.out.size
            have hO8 : ∀ b, (Value.slice (some ⟨g8, 0, none⟩) (vs.length + 1) c8).ownBlock = some b → b = g8 := fun b h => by simpa [Value.ownBlock] using h.symm
            have hob8 : w3.heap.size ≤ g8 := by
              rcases hg8 with h | h
              · exact HOB.out _ h
              · omega
            have u68 : Upd O w6 w8 := f8
            have pr8 : Priceds w8 (fun b => w3.heap.size ≤ b ∧ (Value.slice (some ⟨g8, 0, none⟩) (vs.length + 1) c8).ownBlock ≠ some b) vs (mayN p C (cs.take k)) := by
              refine ((HPR.out.mono (F' := fun b => (w3.heap.size ≤ b ∧ (Value.slice (some ⟨g8, 0, none⟩) (vs.length + 1) c8).ownBlock ≠ some b) ∧ ¬ O b) ?_).upd F6.out (fun _ _ _ h => h)).upd u68 (fun b _ h => h.2) |>.mono (fun b _ h => h.1)
              intro b hb h
              refine ⟨⟨h.1, fun h' => ?_⟩, fun h' => h.2 ((HOI.out b).1 h')⟩
              have e := hO8 b h'
              subst e
              rcases hg8 with h3 | h3
              · exact h.2 h3
              · omega
            have rn8 : RdU w8 (fun b => w3.heap.size ≤ b ∧ (Value.slice (some ⟨g8, 0, none⟩) (vs.length + 1) c8).ownBlock ≠ some b) (some ⟨g7, 0, none⟩) t.n (ints cn.2.2) := by
              have r7b : RdU w7 (fun b => w6.heap.size ≤ b ∧ b < w7.heap.size) (some ⟨g7, 0, none⟩) t.n (ints cn.2.2) := r7.both.mono (fun b h => ⟨h.1, h.2⟩)
              have r8b := (r7b.alloc (.cells #[.int .i64 t.mo, .int .i64 t.lg, .slice (some ⟨g7, 0, none⟩) t.n c7, .int .i64 (C1 + 8 * nv)] 54)).upd (Upd.grown (S := O) (Upd.refl _ _) u8 (fun k hk _ => (HOI.out k).2 hk)) (fun b _ h h' => by have := hownlt b ((HOI.out b).1 h'); omega)
              refine r8b.mono (fun b h => ⟨by omega, fun h' => ?_⟩)
              have e := hO8 b h'
              subst e
              rcases hg8 with h3 | h3
              · have := hownlt _ h3; omega
              · omega
            have px8 : Priced w8 (fun b => w3.heap.size ≤ b ∧ (Value.slice (some ⟨g8, 0, none⟩) (vs.length + 1) c8).ownBlock ≠ some b) ⟨t.mo, t.lg, some ⟨g7, 0, none⟩, t.n, c7, C1 + 8 * nv⟩ (cn, C1 + 8 * nv) :=
              ⟨HMO.out, HLG.out, rfl, by simp only; omega, by simp only; omega, HTN.out, rn8⟩
            have f38 : Fresh w3 w8 := (FR.out.trans' F6.out).trans u68 (fun b hb h => by have := HOB.out b ((HOI.out b).1 h); omega)
            have PS8 := hide (pr8.snoc px8)
            have F38 := hide f38
            have O8 := hide o8
            have HOB8 := hide (fun b h => hO8 b h ▸ hob8)
            clear pr8 px8 rn8 f38 o8 u8 a8 u68 hg8 hO8 hob8 hownlt f7x f7y f8 r7 f7 hsz6 hsz7 hw3r sw1 sw2
            go_wp2_with (first | go_step3)
            go_roundg (gk - 1)
            case measure => have := HK.out; omega
            case rel =>
              refine ⟨k + 1, some ⟨g8, 0, none⟩, c8, vs ++ [⟨t.mo, t.lg, some ⟨g7, 0, none⟩, t.n, c7, C1 + 8 * nv⟩], by have := HK.out; omega, by go_num, by simp, ?_, ?_, ?_, F38.out, by have := HVL.out; have := HV1.out; simp; omega⟩
              · rw [List.length_append]; exact O8.out
              · rw [List.length_append]; exact HOB8.out
              · rw [HMY.out, HPN2.out, List.length_append]
                exact PS8.out
        · have hCb : (C2 != 0) = true := by simpa using hC
          have HPN2 := hide (show priceN p C cn = none by rw [HPN.out, if_neg (fun h => hC h.2)])
          go_wp2_with (first | go_step3)
          go_roundg (gk - 1)
          case measure => have := HK.out; omega
          case rel =>
            have e := HV1.out
            refine ⟨k + 1, A1, c1, vs, by have := HK.out; omega, by go_num, by rw [e], by rw [e]; exact HO.out.fresh F6.out, by rw [e]; exact HOB.out, ?_, FR.out.trans' F6.out, by rw [e]; have := HVL.out; omega⟩
            rw [HMY.out, HPN2.out, e, List.append_nil]
            exact HPR.out.upd F6.out (fun _ _ _ h => h)
      · have hEb : (E1 != 0) = true := by simpa using hE
        have HPN2 := hide (show priceN p C cn = none by rw [HPN.out, if_neg (fun h => hE h.1)])
        go_wp2_with (first | go_step3)
        go_roundg (gk - 1)
        case measure => have := HK.out; omega
        case rel =>
          have e := HV1.out
          refine ⟨k + 1, A1, c1, vs, by have := HK.out; omega, by go_num, by rw [e], by rw [e]; exact HO.out.fresh F5.out, by rw [e]; exact HOB.out, ?_, FR.out.trans' F5.out, by rw [e]; have := HVL.out; omega⟩
          rw [HMY.out, HPN2.out, e, List.append_nil]
          exact HPR.out.upd F5.out (fun _ _ _ h => h)
    · obtain rfl : k = n3 := by have := HK.out; omega
      have htk : cs.take k = cs := List.take_of_length_le (by rw [← HN3C.out]; omega)
      have hpr := HPR.out
      rw [htk] at hpr
      have HPS := hide hpr
      have BT4 := hide (BT3.out.fresh FR.out)
      have F4 := hide (F3.out.trans' FR.out)
      clear htk hpr HPR
      by_cases h0 : n1 = 0
      · have hnb : ((n1 : Int) == 0) = true := by simpa using h0
        have hmy : mayN p C cs = [] := List.eq_nil_of_length_eq_zero (by rw [← HPS.out.1, HV1.out, h0])
        have HRES := hide (show chooseN p lg N C = (0, 0, [], 2) by rw [HCH.out, hmy])
        have d0 := BT4.out.cell 0
        have d1 := BT4.out.cell 1
        have z0 := BT4.out.frozen 0
        have z1 := BT4.out.frozen 1
        simp at d0 d1
        clear hmy h0 HCO HLEN HFIT HCH
        go_wp2_with (first | go_step3)
        refine bodyPost_ret (results_tmp_cell_tmp_row rfl _ _ (H + 1) _ _ _ rfl ((BT4.out.set_ 0 (.int .i64 0)).set_ 1 (.slice none 0 0)) Tryz.underlying25 rfl (by kernel_rfl)) rfl ?_
        refine hR.out _ _ ?_
        rw [HRES.out]
        exact ⟨none, 0, 0, rfl, rfl, RdU.nil _ _ _, F4.out.trans (setTwoT _ (H + 1) _ _) (fun b hb h => by have := HH.out; omega)⟩
      · have hnb : ((n1 : Int) == 0) = false := by simpa using h0
        have hvl : 0 < vs.length := by rw [HV1.out]; omega
        obtain ⟨b1, rfl⟩ : ∃ b1, A1 = some ⟨b1, 0, none⟩ := by
          rcases HO.out.2 with h | ⟨g', cap, cur, h1, _⟩
          · exact absurd h.2 (by rw [HV1.out]; exact h0)
          · injection h1 with e1 e2 e3
            exact ⟨g', e1⟩
        obtain ⟨t0, vs', rfl⟩ : ∃ t0 vs', vs = t0 :: vs' := by
          cases vs with
          | nil => simp at hvl
          | cons a b => exact ⟨a, b, rfl⟩
        obtain ⟨c0, cl, hcl⟩ : ∃ c0 cl, mayN p C cs = c0 :: cl := by
          have := HPS.out.1
          cases hm : mayN p C cs with
          | nil => rw [hm] at this; simp at this
          | cons a b => exact ⟨a, b, rfl⟩
        have hps := HPS.out
        rw [hcl] at hps
        have hp0 := hps.2 0 t0 c0 rfl rfl
        have hpl : Priceds wr _ vs' cl := ⟨by simpa using hps.1, fun j a b ha hb => hps.2 (j + 1) a b (by simpa using ha) (by simpa using hb)⟩
        have HBEST := hide (priced_cheap vs' cl t0 c0 hpl hp0)
        have HRES := hide (show chooseN p lg N C = ((cheapP c0 cl).1.1, (cheapP c0 cl).1.2.1, (cheapP c0 cl).1.2.2, 0) by rw [HCH.out, hcl])
        have hchs := HO.out.chs.2
        have hxs : ∀ t ∈ t0 :: vs', -(2 ^ 60) ≤ t.x ∧ t.x ≤ 2 ^ 60 := by
          intro t ht
          obtain ⟨j, hj, rfl⟩ := List.getElem_of_mem ht
          have hj2 : j < (c0 :: cl).length := by rw [← hps.1]; exact hj
          have := hps.2 j _ _ (List.getElem?_eq_getElem hj) (List.getElem?_eq_getElem hj2)
          exact ⟨this.2.2.2.1, this.2.2.2.2.1⟩
        have HLS := hide (fun W (h : Fresh wr W) => cleast_any b1 0 c1 n1 (t0 :: vs') t0 W (hchs.fresh h) HV1.out rfl hxs (by omega))
        simp only [List.drop_succ_cons, List.drop_zero] at HLS
        generalize cheapest t0 vs' = tb at *
        generalize cheapP c0 cl = cb at *
        unfold Ch.val at HLS
        clear hchs hxs hps hp0 hpl hcl HO HOB HPS HCO HLEN HFIT HCH hvl h0 HV1 hvs
        go_wp2_with (first | go_step3)
        refine (HLS.out _ (by first | exact Upd.refl _ _ | exact (Upd.refl _ _).alloc _)).mono ?_
        rintro e w5 ⟨rfl, f5⟩
        go_upto_region 17 with (first | go_step3)
        obtain ⟨K5, hK5⟩ : ∃ K5, K5 = w5.heap.size := ⟨_, rfl⟩
        obtain ⟨w6, hw6⟩ : ∃ w6, w6 = w5.alloc (.cells #[.int .i64 tb.mo, .int .i64 tb.lg, .slice tb.A tb.n tb.c, .int .i64 tb.x] 54) := ⟨_, rfl⟩
        rw [← hw6, ← hK5]
        have f6 : Fresh w5 w6 := by rw [hw6]; exact (Upd.refl _ _).alloc _
        have b6 : Blk w6 K5 54 #[.int .i64 tb.mo, .int .i64 tb.lg, .slice tb.A tb.n tb.c, .int .i64 tb.x] := by rw [hw6]; exact blk_new hK5 _ _
        have q0 := b6.cell 0
        have q1 := b6.cell 1
        have q2 := b6.cell 2
        simp at q0 q1 q2
        have f56 : Fresh wr w6 := Upd.trans' (by first | exact f5 | exact ((Upd.refl _ _).alloc _).trans' f5) f6
        have bt6 := BT4.out.fresh f56
        have d0 := bt6.cell 0
        have d1 := bt6.cell 1
        have z0 := bt6.frozen 0
        have z1 := bt6.frozen 1
        simp at d0 d1
        have BT6 := hide bt6
        have F56 := hide f56
        clear hw6 hK5 f6 b6 f5 bt6 f56
        go_still_tail 5, (by kernel_rfl)
        change wpList _ _ _ _ _ w6.drew
        go_wp2_with (first | go_step3)
        refine bodyPost_ret (results_tmp_cell_tmp_row rfl _ _ (H + 1) _ _ _ rfl ((BT6.out.drew.set_ 0 (.int .i64 tb.lg)).set_ 1 (.slice tb.A tb.n tb.c)) Tryz.underlying25 rfl (by kernel_rfl)) rfl ?_
        have u6 := setTwoT w6.drew (H + 1) (.int .i64 tb.lg) (.slice tb.A tb.n tb.c)
        have hb6 := (HBEST.out.upd F56.out (fun _ _ _ h => h)).upd (Upd.trans (S := fun b => b = H + 1) ((Upd.refl _ _).drew) u6 (fun _ _ h => h)) (fun b _ h h' => by have := BT3.out.lt; have := h.1; omega)
        obtain ⟨e1, e2, e3, _, _, e4, e5⟩ := hb6
        refine hR.out _ _ ?_
        rw [HRES.out]
        refine ⟨tb.A, tb.n, tb.c, by rw [← e1, ← e2]; rfl, e4, e5.mono (fun b h => ?_), ?_⟩
        · have := F3.out.size; have := h.1; omega
        · exact (F4.out.trans' F56.out).drew.trans u6 (fun b hb h => by have := HH.out; omega)

theorem choose_any (F G : Nat → Prop) (A B : Option Addr) (n c m d : Nat) (p lg : Int) (N C : List Int) (w : World) (hs : Rd w G B m (ints N)) (hfN : Fit N) (hm : (m : Int) ≤ 1099511627776) (hr : Rd w F A n (ints C)) (hfC : Fit C) (hn : (n : Int) ≤ 1099511627776) :
    Calls Tryz.prog 6 #[.slice A n c, .int .i64 p, .agg #[.int .i64 lg, .slice B m d]] w fun e w' => ChoosePost w w' e (chooseN p lg N C) := by
  by_cases hp : p < 0 ∨ 2 < p
  · have h : chooseN p lg N C = (0, 0, [], 2) := if_pos hp
    rw [h]
    exact (choose_no A B n c m d p lg w hp).mono fun e w' h => ⟨none, 0, 0, h.1, rfl, RdU.nil _ _ _, h.2⟩
  · exact choose_ok F G A B n c m d p lg N C w hs hfN hm hr hfC hn (by omega)

end Go.Proofs.YtcdbfddoanigbaaGreat

/-
  The statements' helper known.
  Conditions: none beyond those of each theorem.
-/
namespace Go.Proofs.YtcdbfddoanigbaaGreat
open Go.RowKit
set_option linter.unusedVariables false
set_option linter.unusedSimpArgs false

theorem known_d5 : decN 1 1 0 [] [5] 0 = (0, 0, oneN 5, 1) := by decide +kernel
theorem known_d28 : decN 1 1 0 [] [28] 0 = (13, 0, [], 1) := by decide +kernel
theorem known_ch : chooseN 0 0 [] [0, 9] = (1, 0, oneN 1, 0) := by decide +kernel
theorem known_co : costN 2 [3, 1] [2, 5] = (12, 0) := by decide +kernel
theorem fit_nil : Fit [] := fun _ h => by cases h
theorem fit_small {N : List Int} (h : ∀ x ∈ N, -1000 ≤ x ∧ x ≤ 1000) : Fit N := fun x hx => by have := h x hx; omega

set_option maxRecDepth 100000 in
set_option maxHeartbeats 4000000 in
theorem known24_any (w : World) : Calls Tryz.prog 5 #[] w fun e w' => e = .returned (.bool true) ∧ Fresh w w' := by
  have HN := hide (fun (b : Nat) (hb : b < 256) (A : Option Addr) (W : World) (h : Rd W (fun _ => True) A 1 ([b].map fun b : Nat => Value.int .u8 (b : Nat))) => new_any (fun _ => True) A 1 1 [b] W h (by simpa using hb) (by simp))
  have HD5 := hide (fun (F : Nat → Prop) g W (h : CurAt W F g [5] 0) (hF : ∀ b, F b → b ≠ g) => mdec_any F (fun _ => True) g [5] 0 none 0 0 1 1 0 [] W h hF (Rd.nil _ _ _) fit_nil (by omega))
  have HD28 := hide (fun (F : Nat → Prop) g W (h : CurAt W F g [28] 0) (hF : ∀ b, F b → b ≠ g) => mdec_any F (fun _ => True) g [28] 0 none 0 0 1 1 0 [] W h hF (Rd.nil _ _ _) fit_nil (by omega))
  have HCH := hide (fun (A : Option Addr) W (h : Rd W (fun _ => True) A 2 (ints [0, 9])) => choose_any (fun _ => True) (fun _ => True) A none 2 2 0 0 0 0 [] [0, 9] W (Rd.nil _ _ _) fit_nil (by omega) h (fit_small (by decide)) (by omega))
  have HCO := hide (fun (A B : Option Addr) W (h : Rd W (fun _ => True) A 2 (ints [2, 5])) (h' : Rd W (fun _ => True) B 2 (ints [3, 1])) => cost_any (fun _ => True) (fun _ => True) A B 2 2 2 2 2 [3, 1] [2, 5] W h' (fit_small (by decide)) (by omega) h (fit_small (by decide)) (by omega))
  simp only [known_d5] at HD5
  simp only [known_d28] at HD28
  simp only [known_ch] at HCH
  simp only [known_co] at HCO
  refine veil fun R hR => ?_
  go_enter Tryz.func5, Tryz.ntmps5
  go_wp2_with fail
  refine (HN.out 5 (by omega) _ _ ((Blk.new w 5 _).rds)).mono ?_
  rintro e w1 ⟨g1, rfl, hg1, f1, cu1⟩
  have F1 := hide (show Fresh w w1 from ((Upd.refl _ w).alloc _).trans' f1)
  have hw1 : w.heap.size ≤ g1 := by have := hg1; simp at this; omega
  clear f1
  go_wp2_with fail
  refine (HD5.out _ _ _ cu1 (fun b hb => hb.2)).mono ?_
  rintro e w2 ⟨u2, -, A2, n2, c2, rfl, r2⟩
  have F2 := hide (show Fresh w w2 from F1.out.trans u2 (fun b hb h => by omega))
  have hn2 : (oneN 5).length = n2 := by have := r2.1; simpa using this
  have R2 := hide r2
  have HN2 := hide hn2
  clear u2 cu1 hg1 hw1 r2 hn2
  go_upto_region 2 with fail
  obtain ⟨K1, hK1⟩ : ∃ K1, K1 = w2.heap.size := ⟨_, rfl⟩
  obtain ⟨w3, hw3⟩ : ∃ w3, w3 = w2.alloc (.cells #[.int .i64 0, .slice A2 n2 c2] 25) := ⟨_, rfl⟩
  rw [← hw3, ← hK1]
  have f3 : Fresh w2 w3 := by rw [hw3]; exact (Upd.refl _ _).alloc _
  have T1 := hide (show Blk w3 K1 25 #[.int .i64 0, .slice A2 n2 c2] by rw [hw3]; exact blk_new hK1 _ _)
  have F3 := hide (F2.out.trans' f3)
  have R3 := hide (R2.out.fresh f3)
  clear hw3 hK1 f3 R2
  go_wp2_with fail
  refine (HN.out 28 (by omega) _ _ ((Blk.new w3 5 _).rds)).mono ?_
  rintro e w4 ⟨g4, rfl, hg4, f4, cu4⟩
  have f34 : Fresh w3 w4 := ((Upd.refl _ w3).alloc _).trans' f4
  have hw4 : w3.heap.size ≤ g4 := by have := hg4; simp at this; omega
  clear f4 hg4
  go_wp2_with fail
  refine (HD28.out _ _ _ cu4 (fun b hb => hb.2)).mono ?_
  rintro e w5 ⟨u5, -, A5, n5, c5, rfl, r5⟩
  have f35 : Fresh w3 w5 := f34.trans u5 (fun b hb h => by omega)
  have T2 := hide (T1.out.fresh f35)
  have F5 := hide (F3.out.trans' f35)
  have R5 := hide (R3.out.fresh f35)
  clear f34 hw4 u5 f35 r5 cu4 T1 R3
  go_wp2_with fail
  refine (HCH.out _ _ ((blk_new (by simp) 3 _).rds)).mono ?_
  rintro e w6 ⟨A6, n6, c6, rfl, hn6, r6, f6⟩
  have f56 : Fresh w5 w6 := (((Upd.refl _ w5).alloc _).alloc _).trans' f6
  have T3 := hide (T2.out.fresh f56)
  have F6 := hide (F5.out.trans' f56)
  have R6 := hide (R5.out.fresh f56)
  have RC6 := hide r6.1
  have HN6 := hide hn6
  clear f6 f56 T2 R5 r6 hn6
  go_upto_region 4 with fail
  obtain ⟨K6, hK6⟩ : ∃ K6, K6 = w6.heap.size := ⟨_, rfl⟩
  obtain ⟨w7, hw7⟩ : ∃ w7, w7 = w6.alloc (.cells #[.int .i64 0, .slice A6 n6 c6] 25) := ⟨_, rfl⟩
  rw [← hw7, ← hK6]
  have f7 : Fresh w6 w7 := by rw [hw7]; exact (Upd.refl _ _).alloc _
  have TC7 := hide (show Blk w7 K6 25 #[.int .i64 0, .slice A6 n6 c6] by rw [hw7]; exact blk_new hK6 _ _)
  have T7 := hide (T3.out.fresh f7)
  have F7 := hide (F6.out.trans' f7)
  have R7 := hide (R6.out.fresh f7)
  have RC7 := hide (RC6.out.fresh f7)
  clear hw7 hK6 f7 T3 R6 RC6
  go_wp2_with fail
  refine (HCO.out _ _ _ ((blk_new (by simp) 3 _).rds) (((Blk.new w7 3 _).alloc _).rds)).mono ?_
  rintro e w8 ⟨rfl, f8⟩
  have f78 : Fresh w7 w8 := (((Upd.refl _ w7).alloc _).alloc _).trans' f8
  have T8 := T7.out.fresh f78
  have TC8 := TC7.out.fresh f78
  have F8 := hide (F7.out.trans' f78)
  have R8 := hide (R7.out.fresh f78)
  have RC8 := hide (RC7.out.fresh f78)
  have HSS := hide (show ∀ W, Fresh w8 W → (Fresh w8 W ∧ W.cell? ⟨K1, 0, none⟩ = some (.int .i64 0) ∧ W.cell? ⟨K1, 1, none⟩ = some (.slice A2 n2 c2) ∧ W.cell? ⟨K6, 0, none⟩ = some (.int .i64 0) ∧ W.cell? ⟨K6, 1, none⟩ = some (.slice A6 n6 c6)) from fun W h => ⟨h, by simpa using (T8.fresh h).cell 0, by simpa using (T8.fresh h).cell 1, by simpa using (TC8.fresh h).cell 0, by simpa using (TC8.fresh h).cell 1⟩)
  have HO5 := hide (show ∀ W, Calls Tryz.prog 14 #[.int .i64 5] W fun e w' => NewTabR W w' e 0 (oneN 5) from fun W => rone_any 5 W (by omega))
  have HO1 := hide (show ∀ W, Calls Tryz.prog 14 #[.int .i64 1] W fun e w' => NewTabR W w' e 0 (oneN 1) from fun W => rone_any 1 W (by omega))
  have HS5 := hide (fun W (h : Fresh w8 W) (A : Option Addr) (c : Nat) (F : Nat → Prop) (hr : Rd W F A (oneN 5).length (ints (oneN 5))) => same07_any _ F A2 A n2 (oneN 5).length c2 c 0 0 (oneN 5) (oneN 5) W (R8.out.fresh h) hr (by rw [← HN2.out]; decide) (by decide))
  have HS1 := hide (fun W (h : Fresh w8 W) (A : Option Addr) (c : Nat) (F : Nat → Prop) (hr : Rd W F A (oneN 1).length (ints (oneN 1))) => same07_any _ F A6 A n6 (oneN 1).length c6 c 0 0 (oneN 1) (oneN 1) W (RC8.out.fresh h) hr (by rw [HN6.out]; decide) (by decide))
  rw [decide_eq_true ⟨rfl, rfl⟩] at HS5 HS1
  clear f8 f78 T7 TC7 R7 RC7 T8 TC8 HN HD5 HD28 HCH HCO
  generalize oneN 5 = N5 at *
  generalize oneN 1 = N1 at *
  go_upto_region 5 with fail
  go_region_held3 (fun W => Fresh w8 W ∧ W.cell? ⟨K1, 0, none⟩ = some (.int .i64 0) ∧ W.cell? ⟨K1, 1, none⟩ = some (.slice A2 n2 c2) ∧ W.cell? ⟨K6, 0, none⟩ = some (.int .i64 0) ∧ W.cell? ⟨K6, 1, none⟩ = some (.slice A6 n6 c6))
    (first | exact HSS.out _ (by assumption) | exact HSS.out _ (And.left (by assumption)) | exact HSS.out _ (Upd.refl _ _) | exact HSS.out _ (Upd.refl _ _).drew)
    (first
      | (go_at_call 14; ((with_reducible refine (HO5.out _).mono ?_); rintro e w' ⟨A9, c9, rfl, r9, f9⟩); have f9x : Fresh w8 w' := Upd.trans' (And.left (by assumption)) f9)
      | (go_at_call 14; ((with_reducible refine (HO1.out _).mono ?_); rintro e w' ⟨A9, c9, rfl, r9, f9⟩); have f9x : Fresh w8 w' := Upd.trans' (And.left (by assumption)) f9)
      | (go_at_call 7; ((with_reducible refine (HS5.out _ (And.left (by assumption)) _ _ _ (by assumption)).mono ?_); rintro e w' ⟨rfl, f9⟩); have f9y : Fresh w8 w' := Upd.trans' (And.left (by assumption)) f9)
      | (go_at_call 7; ((with_reducible refine (HS1.out _ (And.left (by assumption)) _ _ _ (by assumption)).mono ?_); rintro e w' ⟨rfl, f9⟩); have f9y : Fresh w8 w' := Upd.trans' (And.left (by assumption)) f9))
  all_goals go_wp2_with fail
  all_goals try go_ret
  all_goals exact hR.out _ _ ⟨rfl, F8.out.trans' (And.left (by assumption))⟩

end Go.Proofs.YtcdbfddoanigbaaGreat

/-
  Costs are never negative.
  Conditions: none beyond those of each theorem.
-/
namespace Go.Proofs.YtcdbfddoanigbaaGreat
open Go.RowKit
set_option linter.unusedVariables false
set_option linter.unusedSimpArgs false

theorem recL_iff {C : List Int} (h : C.length ≤ 300) : 0 ≤ recL C 9 ↔ CtOk C ∧ 0 < usedC C := by
  have hu := usedC_le C
  unfold recL
  by_cases h1 : CtOk C ∧ 0 < usedC C
  · rw [if_neg (by
      rintro (h2 | h2 | h2)
      · exact h2 h1
      · omega
      · have : (2 : Int) ^ (9 : Int).toNat = 512 := by decide
        omega)]
    refine ⟨fun _ => h1, fun _ => ?_⟩
    split <;> omega
  · rw [if_pos (.inl h1)]
    exact ⟨fun h => by omega, fun h => absurd h h1⟩
theorem absZ_le_sum {N : List Int} {v : Int} (h : v ∈ N) : absZ v ≤ sumZ N := by
  induction N with
  | nil => cases h
  | cons x l ih =>
    rw [sumZ_cons]
    have h1 := sumZ_nonneg l
    have h2 := absZ_nonneg x
    rcases List.mem_cons.1 h with rfl | h
    · omega
    · have := ih h; omega
theorem costGo_nonneg {lg : Int} {N : List Int} (hv : Valid lg N 256 9) : ∀ (l : List Int) (i : Nat) (a r : Int), (∀ c ∈ l, 0 ≤ c) → 0 ≤ a → costGo lg N i l a = some r → 0 ≤ r
  | [], i, a, r, _, ha, h => by simp [costGo] at h; omega
  | c :: l, i, a, r, hl, ha, h => by
    have hc := hl c (by simp)
    have hl' : ∀ c ∈ l, 0 ≤ c := fun c h => hl c (List.mem_cons_of_mem _ h)
    rw [costGo] at h
    split at h
    · exact costGo_nonneg hv l (i + 1) a r hl' ha h
    · split at h
      · cases h
      · rename_i v hvm
        split at h
        · cases h
        · rename_i hv0
          have hm := List.mem_of_getElem? hvm
          have h1 := absZ_le_sum hm
          obtain ⟨q1, q2, q3, k1, k2, k3, k4, q4⟩ := hv
          rw [q4] at h1
          have h2 : max v (-v) = absZ v := by unfold absZ; split <;> omega
          obtain ⟨p, rfl⟩ : ∃ p : Nat, lg = p := ⟨lg.toNat, by omega⟩
          rw [Int.toNat_natCast] at h1
          have hpw := pow_le512 (p := p) (by omega)
          have h3 := bitLen_spec (m := (max v (-v)).toNat) (by omega) (by omega)
          have h4 : Lib.bitLen (max v (-v)).toNat - 1 < p + 1 := by
            have h6 : (max v (-v)).toNat ≤ 2 ^ p := by
              have : ((2 : Int) ^ p) = ((2 ^ p : Nat) : Int) := by simp
              omega
            refine (Nat.pow_lt_pow_iff_right (a := 2) (by omega)).1 ?_
            have h7 := Nat.two_pow_pos p
            rw [Nat.pow_succ]
            omega
          generalize Lib.bitLen (max v (-v)).toNat = b at *
          have h5 : 0 ≤ c * ((p : Int) + 1 - (b : Nat)) := Int.mul_nonneg hc (by omega)
          refine costGo_nonneg ⟨q1, q2, q3, k1, k2, k3, k4, q4⟩ l (i + 1) _ r hl' ?_ h
          omega

end Go.Proofs.YtcdbfddoanigbaaGreat

/-
  The reference's choice, as a plain function.
  Conditions: none beyond those of each theorem.
-/
namespace Go.Proofs.YtcdbfddoanigbaaGreat
open Go.RowKit
set_option linter.unusedVariables false
set_option linter.unusedSimpArgs false

/-- one candidate looked at -/
def pickStep (st : Int × Nat) (i : Nat) (o : Option Int) : Int × Nat :=
  match o with
  | none => st
  | some x => if st.1 < 0 ∨ x < st.1 then (x, i) else st
/-- the cheapest price and its place -/
def pickGo : Nat → List (Option Int) → Int × Nat → Int × Nat
  | _, [], st => st
  | i, o :: l, st => pickGo (i + 1) l (pickStep st i o)
theorem pickGo_append : ∀ (a : List (Option Int)) (i : Nat) (v : Option Int) (b : Int × Nat), pickGo i (a ++ [v]) b = pickStep (pickGo i a b) (i + a.length) v
  | [], i, v, b => by simp [pickGo]
  | x :: a, i, v, b => by
    rw [List.cons_append, pickGo, pickGo_append a, pickGo, List.length_cons]
    congr 1
    omega
def pickN (l : List (Option Int)) : Int × Nat := pickGo 0 l (-1, 0)
theorem pickN_snoc (l : List (Option Int)) (v : Option Int) : pickN (l ++ [v]) = pickStep (pickN l) l.length v := by
  unfold pickN
  rw [pickGo_append, Nat.zero_add]

/-- the reference's own table -/
def ownN (p : Int) (C : List Int) : Int × List Int :=
  if NormOk C (max (recL C (partX p)) 0) then (max (recL C (partX p)) 0, normN C (max (recL C (partX p)) 0).toNat) else (0, [])
/-- the reference's candidates -/
def rcandsN (p lg : Int) (N C : List Int) : List (Int × Int × List Int) :=
  [(3, lg, N), (0, partL p, partN p), (if usedC C = 1 then 1 else 2, (ownN p C).1, (ownN p C).2)]
/-- what the reference's Choose answers -/
def rchN (p lg : Int) (N C : List Int) : Int × Int × List Int × Int :=
  if (pickN ((rcandsN p lg N C).map (priceN p C))).1 < 0 then (0, 0, [], 2)
  else match (rcandsN p lg N C)[(pickN ((rcandsN p lg N C).map (priceN p C))).2]? with
    | none => (0, 0, [], 2)
    | some c => (c.1, c.2.1, c.2.2, 0)

theorem recL_bad {C : List Int} {L : Int} (h : ¬ (CtOk C ∧ 0 < usedC C)) : recL C L = -1 := by
  unfold recL
  rw [if_pos (.inl h)]
theorem priceN_bad {p : Int} {C : List Int} {c : Int × Int × List Int} (h : ¬ (CtOk C ∧ 0 < usedC C)) : priceN p C c = none := by
  unfold priceN
  rw [if_neg]
  intro q
  have h1 := q.2
  unfold costN at h1
  rw [if_neg (fun r => by have := r.2; rw [recL_bad h] at this; omega)] at h1
  simp at h1
theorem chooseN_bad {p lg : Int} {N C : List Int} (h : ¬ (CtOk C ∧ 0 < usedC C)) : chooseN p lg N C = (0, 0, [], 2) := by
  unfold chooseN
  have hm : mayN p C (candsN p (partX p) lg N C) = [] := by
    unfold mayN
    apply List.filterMap_eq_nil_iff.2
    intro c _
    rw [priceN_bad h]
    rfl
  rw [hm]
  split <;> rfl

theorem priceN_nonneg {p : Int} {C : List Int} {c : Int × Int × List Int} {x : Int} (h : priceN p C c = some x) : 0 ≤ x := by
  unfold priceN at h
  split at h
  · rename_i q
    have h2 := q.2
    unfold costN at h2 h
    split at h2
    · rename_i hv
      rw [if_pos hv] at h
      have hok := recL_ok hv.2
      rcases hg : costGo c.2.1 c.2.2 0 C 0 with _ | a
      · rw [hg] at h2; simp at h2
      · rw [hg] at h
        have := costGo_nonneg hv.1 C 0 0 a hok.1 (by omega) hg
        simp at h
        omega
    · simp at h2
  · cases h

theorem priceN_nil {p m : Int} {C : List Int} : priceN p C (m, 0, []) = none := by
  unfold priceN
  rw [if_neg]
  intro q
  have := encN_pos q.1
  simp at this

theorem pick3 {p : Int} {C : List Int} {c0 c1 c2 : Int × Int × List Int} {cs : List (Int × Int × List Int)} (hcs : mayN p C cs = mayN p C [c0, c1, c2]) :
    (match mayN p C cs with
      | [] => ((0 : Int), (0 : Int), ([] : List Int), (2 : Int))
      | c :: l => ((cheapP c l).1.1, (cheapP c l).1.2.1, (cheapP c l).1.2.2, 0)) =
    (if (pickN ([c0, c1, c2].map (priceN p C))).1 < 0 then ((0 : Int), (0 : Int), ([] : List Int), (2 : Int))
    else match ([c0, c1, c2] : List (Int × Int × List Int))[(pickN ([c0, c1, c2].map (priceN p C))).2]? with
      | none => (0, 0, [], 2)
      | some c => (c.1, c.2.1, c.2.2, 0)) := by
  rw [hcs]
  have n0 := fun x => priceN_nonneg (p := p) (C := C) (c := c0) (x := x)
  have n1 := fun x => priceN_nonneg (p := p) (C := C) (c := c1) (x := x)
  have n2 := fun x => priceN_nonneg (p := p) (C := C) (c := c2) (x := x)
  unfold mayN pickN
  simp only [List.map_cons, List.map_nil, List.filterMap_cons, List.filterMap_nil, pickGo, pickStep]
  generalize priceN p C c0 = o0 at *
  generalize priceN p C c1 = o1 at *
  generalize priceN p C c2 = o2 at *
  rcases o0 with _ | x0 <;> rcases o1 with _ | x1 <;> rcases o2 with _ | x2 <;>
    simp only [Option.map_none, Option.map_some, cheapP]
  · simp
  · have h2 := n2 x2 rfl
    simp [show ¬ x2 < 0 by omega]
  · have h1 := n1 x1 rfl
    simp [show ¬ x1 < 0 by omega]
  · have h1 := n1 x1 rfl
    have h2 := n2 x2 rfl
    by_cases a : x2 < x1 <;> simp [a, show ¬ x1 < 0 by omega, show ¬ x2 < 0 by omega]
  · have h0 := n0 x0 rfl
    simp [show ¬ x0 < 0 by omega]
  · have h0 := n0 x0 rfl
    have h2 := n2 x2 rfl
    by_cases a : x2 < x0 <;> simp [a, show ¬ x0 < 0 by omega, show ¬ x2 < 0 by omega]
  · have h0 := n0 x0 rfl
    have h1 := n1 x1 rfl
    by_cases a : x1 < x0 <;> simp [a, show ¬ x0 < 0 by omega, show ¬ x1 < 0 by omega]
  · have h0 := n0 x0 rfl
    have h1 := n1 x1 rfl
    have h2 := n2 x2 rfl
    by_cases a : x1 < x0
    · by_cases b : x2 < x1 <;> simp [a, b, show ¬ x0 < 0 by omega, show ¬ x1 < 0 by omega, show ¬ x2 < 0 by omega]
    · by_cases b : x2 < x0 <;> simp [a, b, show ¬ x0 < 0 by omega, show ¬ x1 < 0 by omega, show ¬ x2 < 0 by omega]

theorem bitLen_pos1 {m : Nat} (h : m ≠ 0) (hm : m < 2 ^ 64) : 1 ≤ Lib.bitLen m := by
  by_cases h0 : 1 ≤ Lib.bitLen m
  · exact h0
  · exact absurd ((bitLen_pow hm h (k := 0)).2 (by omega)) (by omega)
theorem recL_zero {C : List Int} {L : Int} (hok : CtOk C ∧ 0 < usedC C) (hC : C.length ≤ 100) (hL : 8 ≤ L) : recL C L = 0 ↔ usedC C = 1 := by
  have hu := usedC_le C
  unfold recL
  rw [if_neg]
  · by_cases h : usedC C = 1
    · simp [h]
    · rw [if_neg h]
      have := bitLen_pos1 (m := usedC C - 1) (by omega) (by omega)
      constructor
      · intro q; omega
      · intro q; exact absurd q h
  · intro q
    rcases q with q | q | q
    · exact q hok
    · omega
    · have h1 : (2 : Int) ^ 8 ≤ 2 ^ L.toNat := by
        have := Nat.pow_le_pow_right (n := 2) (by decide) (show 8 ≤ L.toNat by omega)
        have h2 : ((2 ^ L.toNat : Nat) : Int) = (2 : Int) ^ L.toNat := by simp
        omega
      omega

theorem rch_eq {p lg : Int} {N C : List Int} (hp : 0 ≤ p ∧ p ≤ 2) (hC : C.length ≤ 100) (hok : CtOk C ∧ 0 < usedC C) : chooseN p lg N C = rchN p lg N C := by
  unfold chooseN rchN rcandsN
  rw [if_neg (by omega)]
  refine pick3 ?_
  have hb := part_bounds p
  have hmin : min (partX p) 9 = partX p := by omega
  unfold candsN ownN
  rw [hmin]
  by_cases hn : NormOk C (max (recL C (partX p)) 0)
  · rw [if_pos hn, if_pos hn]
    have hz := recL_zero (L := partX p) hok hC (by omega)
    by_cases h : usedC C = 1
    · rw [if_pos h, if_pos (hz.2 h)]
    · rw [if_neg h, if_neg (fun q => h (hz.1 q))]
  · rw [if_neg hn, if_neg hn]
    unfold mayN
    simp only [List.filterMap_cons, List.filterMap_nil, priceN_nil, Option.map_none]

end Go.Proofs.YtcdbfddoanigbaaGreat

/-
  Modes, the plain laws: what Decode reads of what Encode writes, of a cut of it, and back.
  Conditions: none beyond those of each theorem.
-/
namespace Go.Proofs.YtcdbfddoanigbaaGreat
open Go.RowKit
set_option linter.unusedVariables false
set_option linter.unusedSimpArgs false

theorem seen_short {bs : List Nat} (h : bs.length ≤ 1024) : seenB bs 0 = bs := by
  unfold seenB
  rw [List.drop_zero, List.take_of_length_le h]

theorem decodeS_err24 {sy lb : Int} {L : List Bool} {x : Int} (h : decodeS sy lb L = .error x) : x ≠ 0 := by
  unfold decodeS at h
  simp only at h
  split at h
  · injection h with h; subst h; assumption
  · split at h
    · injection h with h; omega
    · cases h

theorem absZ_le_sum24 {N : List Int} {v : Int} (h : v ∈ N) : absZ v ≤ sumZ N := by
  induction N with
  | nil => cases h
  | cons x l ih =>
    rw [sumZ_cons]
    have h1 := sumZ_nonneg l
    have h2 := absZ_nonneg x
    rcases List.mem_cons.1 h with rfl | h
    · omega
    · have := ih h; omega
theorem absZ_zero {n : Int} (h : absZ n = 0) : n = 0 := by unfold absZ at h; split at h <;> omega
theorem zeros_of_sum {N : List Int} (h : sumZ N = 0) : N = List.replicate N.length 0 := by
  induction N with
  | nil => rfl
  | cons x l ih =>
    rw [sumZ_cons] at h
    have h1 := absZ_nonneg x
    have h2 := sumZ_nonneg l
    have h3 := absZ_zero (n := x) (by omega)
    rw [List.length_cons, List.replicate_succ, ← ih (by omega), h3]
theorem one_of_sum {N : List Int} (h0 : 0 < N.length) (hs : sumZ N = 1) (hl : N[N.length - 1]? = some 1) : N = oneN (N.length - 1) := by
  obtain ⟨M, x, rfl⟩ : ∃ M x, N = M ++ [x] := by
    have h1 : N ≠ [] := by intro h; rw [h] at h0; simp at h0
    exact ⟨N.dropLast, N.getLast h1, (List.dropLast_concat_getLast h1).symm⟩
  have hx : x = 1 := by simpa using hl
  subst hx
  rw [sumZ_append] at hs
  have h1 : sumZ [1] = 1 := by decide
  have h2 := zeros_of_sum (N := M) (by omega)
  unfold oneN
  rw [List.length_append, List.length_singleton, Nat.add_sub_cancel]
  rw [← h2]
theorem oneN_last (s : Nat) : (oneN s)[(oneN s).length - 1]? = some 1 := by unfold oneN; simp
theorem oneN_valid {s : Nat} {sy lb : Int} (h : (s : Int) + 1 ≤ sy) (hb : 0 ≤ lb) : Valid 0 (oneN s) sy lb := by
  have hz : ∀ k : Nat, sumZ (List.replicate k 0) = 0 := by
    intro k
    induction k with
    | zero => rfl
    | succ k ih => rw [List.replicate_succ, sumZ_cons, ih]; decide
  refine ⟨by omega, hb, by omega, by simp, by simpa using h, by rw [oneN_last]; simp, ?_, ?_⟩
  · intro x hx
    unfold oneN at hx
    rcases List.mem_append.1 hx with hx | hx
    · have := List.eq_of_mem_replicate hx; omega
    · simp at hx; omega
  · unfold oneN
    rw [sumZ_append, hz]
    decide
theorem part_valid {p : Int} (h : 0 ≤ p ∧ p ≤ 2) : Valid (partL p) (partN p) (partS p) (partX p) := by
  rcases part_cases h with rfl | rfl | rfl
  · decide +kernel
  · decide +kernel
  · decide +kernel

theorem encN_ok {m p lg : Int} {N : List Int} (h : (encN m p lg N).1 = 0) : 0 ≤ m ∧ m ≤ 3 ∧ 0 ≤ p ∧ p ≤ 2 ∧ Valid lg N (partS p) (partX p) ∧ encN m p lg N = encM m p lg N := by
  by_cases h1 : p < 0 ∨ 2 < p ∨ m < 0 ∨ 3 < m
  · have : encN m p lg N = (2, []) := if_pos h1
    rw [this] at h; simp at h
  · by_cases hv : Valid lg N (partS p) (partX p)
    · have : encN m p lg N = encM m p lg N := by unfold encN; rw [if_neg h1, if_pos hv]
      exact ⟨by omega, by omega, by omega, by omega, hv, this⟩
    · have : encN m p lg N = (13, []) := by unfold encN; rw [if_neg h1, if_neg hv]
      rw [this] at h; simp at h

theorem encN_byte {m p lg : Int} {N : List Int} : ∀ b ∈ (encN m p lg N).2, b < 256 := by
  intro b hb
  by_cases h1 : p < 0 ∨ 2 < p ∨ m < 0 ∨ 3 < m
  · have : encN m p lg N = (2, []) := if_pos h1
    rw [this] at hb; simp at hb
  · by_cases hv : Valid lg N (partS p) (partX p)
    · have e : encN m p lg N = encM m p lg N := by unfold encN; rw [if_neg h1, if_pos hv]
      rw [e] at hb
      unfold encM at hb
      split at hb
      · split at hb <;> simp at hb
      · split at hb
        · split at hb
          · have h2 := hv.2.2.2.2.1
            have h3 := (part_bounds p).1
            simp at hb
            omega
          · simp at hb
        · split at hb
          · split at hb
            · exact packB_lt _ b hb
            · simp at hb
          · simp at hb
    · have : encN m p lg N = (13, []) := by unfold encN; rw [if_neg h1, if_neg hv]
      rw [this] at hb; simp at hb

theorem modes_back {m p lg : Int} {N : List Int} (h : (encN m p lg N).1 = 0) (bs : List Nat) (hbs : bs.length ≤ 500) :
    decN m p lg N ((encN m p lg N).2 ++ bs) 0 = (0, lg, N, (encN m p lg N).2.length) := by
  obtain ⟨a1, a2, a3, a4, hv, he⟩ := encN_ok h
  rw [he] at h ⊢
  have hd : ∀ l, decN m p lg N l 0 = decM m p lg N l 0 := fun l => by unfold decN; exact if_neg (by omega)
  rw [hd]
  clear hd he
  have : m = 0 ∨ m = 1 ∨ m = 2 ∨ m = 3 := by omega
  rcases this with rfl | rfl | rfl | rfl
  · by_cases hq : partL p = lg ∧ partN p = N
    · have e : encM 0 p lg N = (0, []) := by simp [encM, hq]
      rw [e]
      simp [decM, hq.1, hq.2]
    · simp [encM, hq] at h
  · by_cases hq : lg = 0 ∧ N[N.length - 1]? = some 1
    · have e : encM 1 p lg N = (0, [N.length - 1]) := by simp [encM, hq]
      rw [e]
      have hs := hv.2.2.2.2.2.2.2
      rw [hq.1] at hs
      have hone := one_of_sum hv.2.2.2.1 hs hq.2
      have h2 := hv.2.2.2.2.1
      have h3 := hv.2.2.2.1
      have ho : oneS ([N.length - 1] ++ bs) 0 (partS p) = (0, oneN (N.length - 1), 1) := by
        unfold oneS
        rw [if_pos (by simp)]
        have : ([N.length - 1] ++ bs)[0]?.getD 0 = N.length - 1 := rfl
        rw [this, if_neg (by omega)]
      show ((oneS ([N.length - 1] ++ bs) 0 (partS p)).1, (0 : Int), (oneS ([N.length - 1] ++ bs) 0 (partS p)).2.1, (oneS ([N.length - 1] ++ bs) 0 (partS p)).2.2) = (0, lg, N, 1)
      rw [ho, ← hone, hq.1]
    · simp [encM, hq] at h
  · by_cases hq : lg ≠ 0
    · have e : encM 2 p lg N = (0, packB (descBits lg.toNat N)) := by simp [encM, hq]
      rw [e]
      obtain ⟨q, rfl⟩ : ∃ q : Nat, lg = q := ⟨lg.toNat, by have := hv.1; omega⟩
      have hv2 := valid_wide hv
      have hle := desc_bytes_le hv2
      have hb := desc_back (sy := partS p) (lb := partX p) hv2 (by omega) hv.2.2.2.2.1 hv.2.1 bs
      show desS (packB (descBits (q : Int).toNat N) ++ bs) 0 (partS p) (partX p) = _
      rw [Int.toNat_natCast]
      unfold desS
      rw [seen_short (by simp; omega), hb]
    · simp [encM, hq] at h
  · have e : encM 3 p lg N = (0, []) := by simp [encM]
    rw [e]
    simp [decM, hv]

theorem modes_cut {m p lg : Int} {N : List Int} (h : (encN m p lg N).1 = 0) (k : Nat) (hk : k < (encN m p lg N).2.length) :
    (decN m p 0 [] ((encN m p lg N).2.take k) 0).1 = 3 := by
  obtain ⟨a1, a2, a3, a4, hv, he⟩ := encN_ok h
  rw [he] at h hk ⊢
  have hd : ∀ l, decN m p 0 [] l 0 = decM m p 0 [] l 0 := fun l => by unfold decN; exact if_neg (by omega)
  rw [hd]
  clear hd he
  have : m = 0 ∨ m = 1 ∨ m = 2 ∨ m = 3 := by omega
  rcases this with rfl | rfl | rfl | rfl
  · by_cases hq : partL p = lg ∧ partN p = N <;> simp [encM, hq] at hk
  · by_cases hq : lg = 0 ∧ N[N.length - 1]? = some 1
    · have e : encM 1 p lg N = (0, [N.length - 1]) := by simp [encM, hq]
      rw [e] at hk ⊢
      have : k = 0 := by simpa using hk
      subst this
      rfl
    · simp [encM, hq] at hk
  · by_cases hq : lg ≠ 0
    · have e : encM 2 p lg N = (0, packB (descBits lg.toNat N)) := by simp [encM, hq]
      rw [e] at hk ⊢
      obtain ⟨q, rfl⟩ : ∃ q : Nat, lg = q := ⟨lg.toNat, by have := hv.1; omega⟩
      have hv2 := valid_wide hv
      have hle := desc_bytes_le hv2
      rw [Int.toNat_natCast] at hk ⊢
      have hc := desc_cut (sy := partS p) (lb := partX p) hv2 (by omega) hv.2.2.2.2.1 hv.2.1 k hk
      show (desS ((packB (descBits q N)).take k) 0 (partS p) (partX p)).1 = 3
      unfold desS
      rw [seen_short (by simp; omega), hc]
    · simp [encM, hq] at hk
  · simp [encM] at hk

theorem modes_once {m p lg l2 : Int} {N N2 : List Int} {bs : List Nat} {k : Nat} (hb : ∀ b ∈ bs, b < 256) (hl : bs.length ≤ 1000) (h : decN m p lg N bs 0 = (0, l2, N2, k)) :
    0 ≤ m ∧ m ≤ 3 ∧ 0 ≤ p ∧ p ≤ 2 ∧ Valid l2 N2 (partS p) (partX p) ∧ k ≤ bs.length ∧ encN m p l2 N2 = (0, bs.take k) := by
  by_cases h1 : p < 0 ∨ 2 < p ∨ m < 0 ∨ 3 < m
  · have : decN m p lg N bs 0 = (2, 0, [], 0) := if_pos h1
    rw [this] at h; simp at h
  have hd : decN m p lg N bs 0 = decM m p lg N bs 0 := if_neg h1
  rw [hd] at h
  have hp : 0 ≤ p ∧ p ≤ 2 := by omega
  have he : ∀ l M, Valid l M (partS p) (partX p) → encN m p l M = encM m p l M := fun l M hv => by unfold encN; rw [if_neg h1, if_pos hv]
  refine ⟨by omega, by omega, by omega, by omega, ?_⟩
  have : m = 0 ∨ m = 1 ∨ m = 2 ∨ m = 3 := by omega
  rcases this with rfl | rfl | rfl | rfl
  · have e : decM 0 p lg N bs 0 = (0, partL p, partN p, 0) := rfl
    rw [e] at h
    simp only [Prod.mk.injEq, true_and] at h
    obtain ⟨rfl, rfl, rfl⟩ := h
    refine ⟨part_valid hp, by omega, ?_⟩
    rw [he _ _ (part_valid hp)]
    simp [encM]
  · have e : decM 1 p lg N bs 0 = ((oneS bs 0 (partS p)).1, 0, (oneS bs 0 (partS p)).2.1, (oneS bs 0 (partS p)).2.2) := rfl
    rw [e] at h
    simp only [Prod.mk.injEq] at h
    obtain ⟨e1, rfl, rfl, rfl⟩ := h
    unfold oneS at e1 ⊢
    by_cases hb0 : 0 < bs.length
    · rw [if_pos hb0] at e1 ⊢
      obtain ⟨b, bs', rfl⟩ : ∃ b bs', bs = b :: bs' := by
        cases bs with
        | nil => simp at hb0
        | cons a l => exact ⟨a, l, rfl⟩
      have hg : (b :: bs')[0]?.getD 0 = b := rfl
      rw [hg] at e1 ⊢
      by_cases hs : partS p ≤ (b : Nat)
      · rw [if_pos hs] at e1; simp at e1
      · rw [if_neg hs]
        have hv := oneN_valid (s := b) (sy := partS p) (lb := partX p) (by omega) (by have := part_bounds p; omega)
        refine ⟨hv, by simp, ?_⟩
        rw [he _ _ hv]
        have hl1 := oneN_last b
        rw [oneN_length, Nat.add_sub_cancel] at hl1
        have hl2 := (List.getElem?_eq_some_iff.1 hl1).2
        simp [encM, hl1, hl2]
    · rw [if_neg hb0] at e1; simp at e1
  · have e : decM 2 p lg N bs 0 = desS bs 0 (partS p) (partX p) := rfl
    rw [e] at h
    unfold desS at h
    rw [seen_short (by omega)] at h
    rcases hc : decodeS (partS p) (partX p) (rowB bs) with e2 | ⟨q, M, j⟩
    · rw [hc] at h
      simp only [Prod.mk.injEq] at h
      exact absurd h.1 (decodeS_err24 hc)
    · rw [hc] at h
      simp only [Prod.mk.injEq, true_and] at h
      obtain ⟨rfl, rfl, rfl⟩ := h
      obtain ⟨d1, d2, d3, d4, d5, d6⟩ := desc_once hb hc
      have hv : Valid q M (partS p) (partX p) := ⟨d1.1, d4, d1.2.2.1, d1.2.2.2.1, d3, d1.2.2.2.2.2⟩
      refine ⟨hv, d5, ?_⟩
      rw [he _ _ hv]
      have hq : (q : Int) ≠ 0 := by omega
      simp [encM, d6, d2]
  · by_cases hv : Valid lg N (partS p) (partX p)
    · have e : decM 3 p lg N bs 0 = (0, lg, N, 0) := by simp [decM, hv]
      rw [e] at h
      simp only [Prod.mk.injEq, true_and] at h
      obtain ⟨rfl, rfl, rfl⟩ := h
      refine ⟨hv, by omega, ?_⟩
      rw [he _ _ hv]
      simp [encM]
    · have e : decM 3 p lg N bs 0 = (13, 0, [], 0) := by simp [decM, hv]
      rw [e] at h
      simp at h

end Go.Proofs.YtcdbfddoanigbaaGreat

/-
  The reference's Get of modes.
  Conditions: none beyond those of each theorem.
-/
namespace Go.Proofs.YtcdbfddoanigbaaGreat
open Go.RowKit
set_option linter.unusedVariables false
set_option linter.unusedSimpArgs false

/-- what the reference's Get leaves -/
def RGetPost (w w' : World) (e : Ending) (r : Int × Int × List Int × Nat) : Prop :=
  ∃ (A : Option Addr) (n c : Nat) (q : Int), e = .returned (.tuple #[.agg #[.int .i64 r.2.1, .slice A n c], .int .i64 q, .int .i64 r.1]) ∧ Rd w' (fun _ => True) A n (ints r.2.2.1) ∧ Fresh w w' ∧ (r.1 = 0 → q = r.2.2.2)

theorem seenB_short24 {bs : List Nat} (h : bs.length ≤ 1024) : seenB bs 0 = bs := by
  unfold seenB
  rw [List.drop_zero, List.take_of_length_le h]

/-- the worlds and facts at the start -/
theorem rget_start (w : World) (lg : Int) (B : Option Addr) (m d : Nat) :
    ∃ w0 H, w0 = (w.alloc (.cells #[.int .i64 lg, .slice B m d] 25)).alloc (.cells #[.int .i64 0, .slice none 0 0] 25) ∧ H = w.heap.size ∧ Fresh w w0 ∧ Blk w0 H 25 #[.int .i64 lg, .slice B m d] ∧ Blk w0 (H + 1) 25 #[.int .i64 0, .slice none 0 0] ∧
      (w.alloc (.cells #[.int .i64 lg, .slice B m d] 25)).heap.size = H + 1 := by
  refine ⟨_, _, rfl, rfl, ((Upd.refl _ _).alloc _).alloc _, (blk_new rfl _ _).alloc _, blk_new (by simp) _ _, by simp⟩

set_option maxRecDepth 100000 in
set_option maxHeartbeats 2000000 in
theorem rget24_0 (A B : Option Addr) (n c m d : Nat) (p lg : Int) (w : World) (hp : 0 ≤ p ∧ p ≤ 2) :
    Calls Tryz.prog 11 #[.slice A n c, .int .i64 0, .int .i64 0, .int .i64 p, .agg #[.int .i64 lg, .slice B m d]] w fun e w' => RGetPost w w' e (0, partL p, partN p, 0) := by
  obtain ⟨w0, H, hw0, hH, f0, bl, bt, hz1⟩ := rget_start w lg B m d
  have hb := part_bounds p
  have HS := hide (fun W => rsym_any p W hp)
  have HOF := hide (fun W => rof_any p W hp)
  have hs0 : (partS p == 0) = false := by simp; omega
  have hs1 : ¬ partS p = 0 := by omega
  have HBT := hide bt
  have F0 := hide f0
  have HW := hide hw0
  have HH := hide hH
  have HBL := hide bl
  clear hw0 hH f0 bt bl hb hp
  generalize partS p = sy at *
  generalize partL p = pl at *
  generalize partN p = M at *
  refine veil fun R hR => ?_
  go_enter Tryz.func11, Tryz.ntmps11
  go_upto_region 1 with fail
  simp only [hz1, ← HH.out, ← HW.out]
  go_wp2_with fail
  refine (HS.out _).mono ?_
  rintro e wx ⟨rfl, rfl⟩
  go_wp2_with fail
  refine (HOF.out _).mono ?_
  rintro e w2 ⟨g2, rfl, r2, hg2, f2⟩
  have bt2 := HBT.out.fresh f2
  have t0 := bt2.cell 0
  have t1 := bt2.cell 1
  have z0 := bt2.frozen 0
  have z1 := bt2.frozen 1
  simp at t0 t1
  have HBT2 := hide bt2
  have R2 := hide (r2.mono (G := fun b => b ≠ H + 1) (fun b hb => by have := HBT.out.lt; omega))
  have F2 := hide (F0.out.trans' f2)
  clear bt2 r2 f2 hg2
  go_wp2_with fail
  refine bodyPost_ret (results_cell_tmp2_row rfl _ _ (H + 1) _ _ _ rfl ((HBT2.out.set_ 0 (.int .i64 pl)).set_ 1 (.slice (some ⟨g2, 0, none⟩) M.length M.length)) Tryz.underlying25 rfl (by kernel_rfl)) rfl ?_
  have u3 := setTwoP w2 (H + 1) (.int .i64 pl) (.slice (some ⟨g2, 0, none⟩) M.length M.length)
  exact hR.out _ _ ⟨some ⟨g2, 0, none⟩, _, _, 0, rfl, (R2.out.upd u3 (fun b _ h h' => h h')).mono (fun _ _ => True.intro), F2.out.trans u3 (fun b hb h => by have := HH.out; omega), fun _ => rfl⟩

set_option maxRecDepth 100000 in
set_option maxHeartbeats 2000000 in
theorem rget24_3 (G : Nat → Prop) (A B : Option Addr) (n c m d : Nat) (p lg : Int) (N : List Int) (w : World) (hs : Rd w G B m (ints N)) (hfit : Fit N) (hm : (m : Int) ≤ 1099511627776) (hp : 0 ≤ p ∧ p ≤ 2) :
    Calls Tryz.prog 11 #[.slice A n c, .int .i64 0, .int .i64 3, .int .i64 p, .agg #[.int .i64 lg, .slice B m d]] w fun e w' => RGetPost w w' e (if Valid lg N (partS p) (partX p) then (0, lg, N, 0) else (13, 0, [], 0)) := by
  obtain ⟨w0, H, hw0, hH, f0, bl, bt, hz1⟩ := rget_start w lg B m d
  have hb := part_bounds p
  have HS := hide (fun W => rsym_any p W hp)
  have HMY := hide (rmay_any G B m d lg p N w0 (hs.fresh f0) hfit hm hp)
  have hs0 : (partS p == 0) = false := by simp; omega
  have hs1 : ¬ partS p = 0 := by omega
  have t0 := bl.cell 0
  have t1 := bl.cell 1
  simp at t0 t1
  have R0 := hide (hs.both.fresh f0)
  have HBT := hide bt
  have F0 := hide f0
  have HW := hide hw0
  have HH := hide hH
  have HBL := hide bl
  clear hw0 hH f0 bt bl hb hp hs hfit
  by_cases hv : Valid lg N (partS p) (partX p)
  · rw [decide_eq_true hv] at HMY
    simp only [if_pos hv]
    clear hv
    generalize partS p = sy at *
    refine veil fun R hR => ?_
    go_enter Tryz.func11, Tryz.ntmps11
    go_upto_region 1 with fail
    simp only [hz1, ← HH.out, ← HW.out]
    go_wp2_with fail
    refine (HS.out _).mono ?_
    rintro e wx ⟨rfl, rfl⟩
    go_wp2_with fail
    refine HMY.out.mono ?_
    rintro e w2 ⟨rfl, f2⟩
    have bt2 := HBT.out.fresh f2
    have y0 := bt2.cell 0
    have y1 := bt2.cell 1
    have z0 := bt2.frozen 0
    have z1 := bt2.frozen 1
    simp at y0 y1
    have bl2 := HBL.out.fresh f2
    have x0 := bl2.cell 0
    have x1 := bl2.cell 1
    simp at x0 x1
    have HBT2 := hide bt2
    have R2 := hide ((R0.out.mono (G := fun b => b ≠ H + 1) (fun b hb => by have := HH.out; omega)).fresh f2)
    have F2 := hide (F0.out.trans' f2)
    clear bt2 f2 bl2 t0 t1
    go_wp2_with fail
    refine bodyPost_ret (results_cell_tmp2_row rfl _ _ (H + 1) _ _ _ rfl ((HBT2.out.set_ 0 (.int .i64 lg)).set_ 1 (.slice B m d)) Tryz.underlying25 rfl (by kernel_rfl)) rfl ?_
    have u3 := setTwoP w2 (H + 1) (.int .i64 lg) (.slice B m d)
    exact hR.out _ _ ⟨B, _, _, 0, rfl, (R2.out.upd u3 (fun b _ h h' => h h')).mono (fun _ _ => True.intro), F2.out.trans u3 (fun b hb h => by have := HH.out; omega), fun _ => rfl⟩
  · rw [decide_eq_false hv] at HMY
    simp only [if_neg hv]
    clear hv
    generalize partS p = sy at *
    refine veil fun R hR => ?_
    go_enter Tryz.func11, Tryz.ntmps11
    go_upto_region 1 with fail
    simp only [hz1, ← HH.out, ← HW.out]
    go_wp2_with fail
    refine (HS.out _).mono ?_
    rintro e wx ⟨rfl, rfl⟩
    go_wp2_with fail
    refine HMY.out.mono ?_
    rintro e w2 ⟨rfl, f2⟩
    have bt2 := HBT.out.fresh f2
    have y0 := bt2.cell 0
    have y1 := bt2.cell 1
    have z0 := bt2.frozen 0
    have z1 := bt2.frozen 1
    simp at y0 y1
    have HBT2 := hide bt2
    have F2 := hide (F0.out.trans' f2)
    clear bt2 f2 t0 t1
    go_wp2_with fail
    refine bodyPost_ret (results_cell_tmp2_row rfl _ _ (H + 1) _ _ _ rfl ((HBT2.out.set_ 0 (.int .i64 0)).set_ 1 (.slice none 0 0)) Tryz.underlying25 rfl (by kernel_rfl)) rfl ?_
    have u3 := setTwoP w2 (H + 1) (.int .i64 0) (.slice none 0 0)
    exact hR.out _ _ ⟨none, 0, 0, 0, rfl, Rd.nil _ _ _, F2.out.trans u3 (fun b hb h => by have := HH.out; omega), fun h => by cases h⟩

set_option maxRecDepth 100000 in
set_option maxHeartbeats 2000000 in
theorem rget24_1 (F : Nat → Prop) (A B : Option Addr) (n c m d : Nat) (p lg : Int) (bs : List Nat) (w : World) (hr : Rd w F A n (bytes bs)) (hlt : ∀ b ∈ bs, b < 256) (hn : n ≤ 500) (hp : 0 ≤ p ∧ p ≤ 2) :
    Calls Tryz.prog 11 #[.slice A n c, .int .i64 0, .int .i64 1, .int .i64 p, .agg #[.int .i64 lg, .slice B m d]] w fun e w' => RGetPost w w' e ((oneS bs 0 (partS p)).1, 0, (oneS bs 0 (partS p)).2.1, (oneS bs 0 (partS p)).2.2) := by
  obtain ⟨w0, H, hw0, hH, f0, bl, bt, hz1⟩ := rget_start w lg B m d
  have hL : bs.length = n := by have := hr.1; simpa using this
  have hb := part_bounds p
  have HS := hide (fun W => rsym_any p W hp)
  have hs0 : (partS p == 0) = false := by simp; omega
  have hs1 : ¬ partS p = 0 := by omega
  have t0 := bt.cell 0
  have t1 := bt.cell 1
  have z0 := bt.frozen 0
  have z1 := bt.frozen 1
  simp at t0 t1
  have HBT := hide bt
  have F0 := hide f0
  have HW := hide hw0
  have HH := hide hH
  have R0 := hide (hr.fresh f0)
  clear hw0 hH f0 bt bl hp hr
  unfold oneS
  by_cases hk : 0 < bs.length
  · simp only [if_pos hk]
    have hn0 : 0 < n := by omega
    have hx := getD_lt hlt 0
    obtain ⟨b, o, rfl, _, _, hc⟩ := R0.out.at_ (k := 0) hn0
    have hz : (bytes bs)[0]? = some (.int .u8 ((bs[0]?.getD 0 : Nat) : Int)) := by
      simp only [bytes, List.getElem?_map]
      rw [List.getElem?_eq_getElem hk]; rfl
    rw [hz] at hc
    simp at hc
    have hzz : bs[0]?.getD 0 = bs[0] := by rw [List.getElem?_eq_getElem hk]; rfl
    rw [hzz] at hx hc ⊢
    have hn0I : ¬ (n : Int) ≤ 0 := by omega
    have hn0J : (0 : Int) < n := by omega
    generalize bs[0] = z at *
    have hwz : IntKind.i64.wrap (z : Int) = z := IntWalk.i64_in _ (by omega)
    clear hz hzz hlt hk hL
    by_cases hcmp : partS p ≤ (z : Int)
    · simp only [if_pos hcmp]
      have hcb : decide (partS p ≤ (z : Int)) = true := decide_eq_true hcmp
      generalize partS p = sy at *
      refine veil fun R hR => ?_
      go_enter Tryz.func11, Tryz.ntmps11
      go_upto_region 1 with fail
      simp only [hz1, ← HH.out, ← HW.out]
      go_wp2_with fail
      refine (HS.out _).mono ?_
      rintro e wx ⟨rfl, rfl⟩
      go_upto_region 9 with fail
      go_quiet ((go_at_call 22; exact Calls.quiet_of_same ((HS.out _).mono fun e w' h => ⟨h.1, h.2.symm⟩)))
      go_wp2_with fail
      refine bodyPost_ret (results_cell_tmp2_row rfl _ _ (H + 1) _ _ _ rfl (((HBT.out.drewN nq).set_ 0 (.int .i64 0)).set_ 1 (.slice none 0 0)) Tryz.underlying25 rfl (by kernel_rfl)) rfl ?_
      have u3 := setTwoP (w0.drewN nq) (H + 1) (.int .i64 0) (.slice none 0 0)
      exact hR.out _ _ ⟨none, 0, 0, 0, rfl, Rd.nil _ _ _, (F0.out.drewN nq).trans u3 (fun b hb h => by have := HH.out; omega), fun h => by cases h⟩
    · simp only [if_neg hcmp]
      have hcb : decide (partS p ≤ (z : Int)) = false := decide_eq_false hcmp
      have HON := hide (fun W => rone_any z W (by omega))
      generalize partS p = sy at *
      refine veil fun R hR => ?_
      go_enter Tryz.func11, Tryz.ntmps11
      go_upto_region 1 with fail
      simp only [hz1, ← HH.out, ← HW.out]
      go_wp2_with fail
      refine (HS.out _).mono ?_
      rintro e wx ⟨rfl, rfl⟩
      go_upto_region 9 with fail
      go_quiet ((go_at_call 22; exact Calls.quiet_of_same ((HS.out _).mono fun e w' h => ⟨h.1, h.2.symm⟩)))
      go_wp2_with fail
      refine (HON.out _).mono ?_
      rintro e w2 ⟨A2, c2, rfl, r2, f2⟩
      rw [oneN_length] at r2
      have bt2 := (HBT.out.drewN nq).fresh f2
      have t0 := bt2.cell 0
      have t1 := bt2.cell 1
      have z0 := bt2.frozen 0
      have z1 := bt2.frozen 1
      simp at t0 t1
      have HBT2 := hide bt2
      have R2 := hide (r2.mono (G := fun b => b ≠ H + 1) (fun b hb => by have := (HBT.out.drewN nq).lt; omega))
      have F2 := hide ((F0.out.drewN nq).trans' f2)
      clear bt2 r2 f2
      go_wp2_with fail
      refine bodyPost_ret (results_cell_tmp2_row rfl _ _ (H + 1) _ _ _ rfl ((HBT2.out.set_ 0 (.int .i64 0)).set_ 1 (.slice A2 (z + 1) c2)) Tryz.underlying25 rfl (by kernel_rfl)) rfl ?_
      have u3 := setTwoP w2 (H + 1) (.int .i64 0) (.slice A2 (z + 1) c2)
      exact hR.out _ _ ⟨A2, _, _, 1, rfl, (R2.out.upd u3 (fun b _ h h' => h h')).mono (fun _ _ => True.intro), F2.out.trans u3 (fun b hb h => by have := HH.out; omega), fun _ => rfl⟩
  · simp only [if_neg hk]
    have hn0 : n = 0 := by omega
    subst hn0
    generalize partS p = sy at *
    refine veil fun R hR => ?_
    go_enter Tryz.func11, Tryz.ntmps11
    go_upto_region 1 with fail
    simp only [hz1, ← HH.out, ← HW.out]
    go_wp2_with fail
    refine (HS.out _).mono ?_
    rintro e wx ⟨rfl, rfl⟩
    go_wp2_with fail
    refine bodyPost_ret (results_cell_tmp2_row rfl _ _ (H + 1) _ _ _ rfl ((HBT.out.set_ 0 (.int .i64 0)).set_ 1 (.slice none 0 0)) Tryz.underlying25 rfl (by kernel_rfl)) rfl ?_
    have u3 := setTwoP w0 (H + 1) (.int .i64 0) (.slice none 0 0)
    exact hR.out _ _ ⟨none, 0, 0, 0, rfl, Rd.nil _ _ _, F0.out.trans u3 (fun b hb h => by have := HH.out; omega), fun h => by cases h⟩

set_option maxRecDepth 100000 in
set_option maxHeartbeats 2000000 in
theorem rget24_2 (F : Nat → Prop) (A B : Option Addr) (n c m d : Nat) (p lg : Int) (bs : List Nat) (w : World) (hr : Rd w F A n (bytes bs)) (hlt : ∀ b ∈ bs, b < 256) (hn : n ≤ 500) (hcap : n ≤ c) (hp : 0 ≤ p ∧ p ≤ 2) :
    Calls Tryz.prog 11 #[.slice A n c, .int .i64 0, .int .i64 2, .int .i64 p, .agg #[.int .i64 lg, .slice B m d]] w fun e w' => RGetPost w w' e (desS bs 0 (partS p) (partX p)) := by
  obtain ⟨w0, H, hw0, hH, f0, bl, bt, hz1⟩ := rget_start w lg B m d
  have hL : bs.length = n := by have := hr.1; simpa using this
  have hb := part_bounds p
  have HS := hide (fun W => rsym_any p W hp)
  have HX := hide (fun W => rlog_any p W hp)
  have hs0 : (partS p == 0) = false := by simp; omega
  have hs1 : ¬ partS p = 0 := by omega
  have hsb : seenB bs 0 = bs := seenB_short24 (by omega)
  have HG := hide (rget11_any F A n c bs (partS p) (partX p) w0 (hr.fresh f0) hlt hn hcap)
  have HBT := hide bt
  have F0 := hide f0
  have HW := hide hw0
  have HH := hide hH
  clear hw0 hH f0 bt bl hp hr hb hL hlt
  generalize partS p = sy at *
  generalize partX p = px at *
  unfold GetPost at HG
  have HG2 : Hid (Calls Tryz.prog 31 #[.slice A n c, .int .i64 0, .int .i64 sy, .int .i64 px] w0 fun e w' => ∃ (A3 : Option Addr) (n3 c3 : Nat) (q : Int), e = .returned (.tuple #[.agg #[.int .i64 (desS bs 0 sy px).2.1, .slice A3 n3 c3], .int .i64 q, .int .i64 (desS bs 0 sy px).1]) ∧
      Rd w' (fun b => b ≠ H + 1) A3 n3 (ints (desS bs 0 sy px).2.2.1) ∧ Fresh w0 w' ∧ ((desS bs 0 sy px).1 = 0 → q = (desS bs 0 sy px).2.2.2)) := by
    refine hide (HG.out.mono fun e w' h => ?_)
    obtain ⟨f, h⟩ := h
    unfold desS
    rw [hsb]
    cases hd : decodeS sy px (rowB bs) with
    | error x =>
      rw [hd] at h
      exact ⟨none, 0, 0, 0, h, Rd.nil _ _ _, f, fun hx => absurd hx (decodeS_err24 hd)⟩
    | ok D =>
      obtain ⟨lg', N', k'⟩ := D
      rw [hd] at h
      obtain ⟨v, he, ho, hk, hl⟩ := h
      obtain ⟨A3, n3, c3, rfl, hn3⟩ := ho.form'
      have hrd := (ho.rd rfl).2.2
      rw [← hn3.out] at hrd
      exact ⟨A3, n3, c3, k', he, hrd.mono (fun b hb => by have h1 := hk b hb; have h2 := HBT.out.lt; omega), f, fun _ => rfl⟩
  generalize desS bs 0 sy px = D at *
  obtain ⟨x1, x2, x3, x4⟩ := D
  dsimp only at HG2
  clear HG hsb
  refine veil fun R hR => ?_
  go_enter Tryz.func11, Tryz.ntmps11
  go_upto_region 1 with fail
  simp only [hz1, ← HH.out, ← HW.out]
  go_wp2_with fail
  refine (HS.out _).mono ?_
  rintro e wx ⟨rfl, rfl⟩
  go_wp2_with fail
  refine (HS.out _).mono ?_
  rintro e wx ⟨rfl, rfl⟩
  go_wp2_with fail
  refine (HX.out _).mono ?_
  rintro e wx ⟨rfl, rfl⟩
  go_wp2_with fail
  refine HG2.out.mono ?_
  rintro e w2 ⟨A3, n3, c3, q, rfl, r2, f2, hq⟩
  have bt2 := HBT.out.fresh f2
  have t0 := bt2.cell 0
  have t1 := bt2.cell 1
  have z0 := bt2.frozen 0
  have z1 := bt2.frozen 1
  simp at t0 t1
  have HBT2 := hide bt2
  have R2 := hide r2
  have F2 := hide (F0.out.trans' f2)
  have HQ := hide hq
  clear bt2 r2 f2 hq
  go_wp2_with fail
  refine bodyPost_ret (results_cell_tmp2_row rfl _ _ (H + 1) _ _ _ rfl ((HBT2.out.set_ 0 (.int .i64 x2)).set_ 1 (.slice A3 n3 c3)) Tryz.underlying25 rfl (by kernel_rfl)) rfl ?_
  have u3 := setTwoP w2 (H + 1) (.int .i64 x2) (.slice A3 n3 c3)
  exact hR.out _ _ ⟨A3, _, _, q, rfl, (R2.out.upd u3 (fun b _ h h' => h h')).mono (fun _ _ => True.intro), F2.out.trans u3 (fun b hb h => by have := HH.out; omega), HQ.out⟩

theorem rget24_any (F G : Nat → Prop) (A B : Option Addr) (n c m d : Nat) (mo p lg : Int) (N : List Int) (bs : List Nat) (w : World) (hr : Rd w F A n (bytes bs)) (hlt : ∀ b ∈ bs, b < 256) (hn : n ≤ 500) (hcap : n ≤ c) (hs : Rd w G B m (ints N)) (hfit : Fit N) (hm : (m : Int) ≤ 1099511627776)
    (hp : 0 ≤ p ∧ p ≤ 2) (hmo : 0 ≤ mo ∧ mo ≤ 3) :
    Calls Tryz.prog 11 #[.slice A n c, .int .i64 0, .int .i64 mo, .int .i64 p, .agg #[.int .i64 lg, .slice B m d]] w fun e w' => RGetPost w w' e (decN mo p lg N bs 0) := by
  have hd : decN mo p lg N bs 0 = decM mo p lg N bs 0 := by unfold decN; exact if_neg (by omega)
  rw [hd]
  have : mo = 0 ∨ mo = 1 ∨ mo = 2 ∨ mo = 3 := by omega
  rcases this with rfl | rfl | rfl | rfl
  · exact rget24_0 A B n c m d p lg w hp
  · exact rget24_1 F A B n c m d p lg bs w hr hlt hn hp
  · exact rget24_2 F A B n c m d p lg bs w hr hlt hn hcap hp
  · exact rget24_3 G A B n c m d p lg N w hs hfit hm hp

end Go.Proofs.YtcdbfddoanigbaaGreat
