/-
  Package bitin, the forward reader: what its functions read.
  Conditions: none beyond those of each theorem.
-/
import Derived.Test.YtbnicnindggimaaInfo
import Derived.Test.YtbnicnindggimaaMath
import Derived.Test.YtbnicnindggimaaBitout
namespace Go.Proofs.Ytbnicnindggimaa
open Go.RowKit
set_option linter.unusedVariables false
set_option linter.unusedSimpArgs false

theorem or_part (x y q k : Nat) (hx : x < 2 ^ q) (hy : y < 2 ^ k) (h : q + k ≤ 64) :
    bits .or .u64 (x : Int) (IntKind.u64.wrap ((y : Int) * 2 ^ q)) = ((x + y * 2 ^ q : Nat) : Int) := by
  have h1 : y * 2 ^ q < 2 ^ k * 2 ^ q := Nat.mul_lt_mul_of_pos_right hy (Nat.two_pow_pos q)
  have h2 : 2 ^ k * 2 ^ q ≤ 2 ^ 64 := by rw [← Nat.pow_add]; exact Nat.pow_le_pow_right (by omega) (by omega)
  have h3 : 2 ^ q ≤ 2 ^ 64 := Nat.pow_le_pow_right (by omega) (by omega)
  rw [IntKind.wrap_u64, show ((y : Int) * 2 ^ q) = ((y * 2 ^ q : Nat) : Int) by simp, show ((y * 2 ^ q : Nat) : Int) % 18446744073709551616 = ((y * 2 ^ q : Nat) : Int) by omega]
  rw [u64_or_nat _ _ (by omega) (by omega), Nat.or_comm, nat_join q _ _ (by simp) hx, Nat.add_comm]

theorem and_part (b s k : Nat) (hb : b < 256) (hk : k ≤ 8) :
    bits .and .u64 ((b : Int) / 2 ^ s) (IntKind.u64.wrap (IntKind.u64.wrap (2 ^ k) - 1)) = ((b / 2 ^ s % 2 ^ k : Nat) : Int) := by
  have h1 : 2 ^ k ≤ 2 ^ 8 := Nat.pow_le_pow_right (by omega) hk
  have h3 := Nat.two_pow_pos k
  have e1 : IntKind.u64.wrap (IntKind.u64.wrap (2 ^ k) - 1) = ((2 ^ k - 1 : Nat) : Int) := by
    rw [IntKind.wrap_u64, IntKind.wrap_u64, show (2 : Int) ^ k = ((2 ^ k : Nat) : Int) by simp]; omega
  have h4 : b / 2 ^ s ≤ b := Nat.div_le_self _ _
  rw [e1, show (b : Int) / 2 ^ s = ((b / 2 ^ s : Nat) : Int) by simp, u64_and_nat _ _ (by omega) (by omega), Nat.and_two_pow_sub_one_eq_mod]

set_option maxRecDepth 100000 in
set_option maxHeartbeats 1000000 in
theorem value1_any (F : Nat → Prop) (pa pq pn pv pr g : Nat) (A : Option Addr) (m c : Nat) (bs : List Nat) (a q n x : Nat) (w : World)
    (ca : w.cell? ⟨pa, 0, none⟩ = some (.int .i64 a)) (cq : w.cell? ⟨pq, 0, none⟩ = some (.int .i64 q)) (cn : w.cell? ⟨pn, 0, none⟩ = some (.int .i64 n)) (cv : w.cell? ⟨pv, 0, none⟩ = some (.int .u64 x))
    (cr : w.cell? ⟨pr, 0, none⟩ = some (.pointer (some ⟨g, 0, none⟩))) (cg : w.cell? ⟨g, 0, none⟩ = some (.slice A m c)) (hr : Rd w F A m (bs.map fun b => .int .u8 (b : Nat))) (hb : ∀ b ∈ bs, b < 256)
    (fq : w.frozen? ⟨pq, 0, none⟩ = false) (fv : w.frozen? ⟨pv, 0, none⟩ = false) (hqv : pq ≠ pv) (hnv : pn ≠ pv) (hav : pa ≠ pv) (hrv : pr ≠ pv)
    (hq : q < n) (hn : n ≤ 64) (han : a + n ≤ 8 * m) (hm : m ≤ 2 ^ 32) (hx : x < 2 ^ q) :
    Calls Try.prog 64 #[.pointer (some ⟨pa, 0, none⟩), .pointer (some ⟨pq, 0, none⟩), .pointer (some ⟨pn, 0, none⟩), .pointer (some ⟨pv, 0, none⟩), .pointer (some ⟨pr, 0, none⟩)] w
      fun e w' => e = .returned (.tuple #[]) ∧
        ((w.setCell ⟨pv, 0, none⟩ (.int .u64 (x + valR bs / 2 ^ (a + q) % 2 ^ (min (8 - (a + q) % 8) (n - q)) * 2 ^ q : Nat))).setCell ⟨pq, 0, none⟩ (.int .i64 (q + min (8 - (a + q) % 8) (n - q) : Nat))).drew = w' := by
  have hbl : bs.length = m := by have := hr.1; simpa using this
  have hj : (a + q) / 8 < m := by omega
  obtain ⟨b, o, rfl, _, hbs, hc⟩ := hr.at_ hj
  have hjb : (a + q) / 8 < bs.length := by omega
  have hbyte := valR_byte bs hb _ hjb
  have hlt := hb _ (List.getElem_mem hjb)
  have hc' : w.cell? ⟨b, o + (a + q) / 8, none⟩ = some (.int .u8 (bs[(a + q) / 8] : Nat)) := by rw [hc]; simp [hjb]
  generalize bs[(a + q) / 8] = y at *
  obtain ⟨s, hs⟩ : ∃ s, s = (a + q) % 8 := ⟨_, rfl⟩
  obtain ⟨k, hk⟩ : ∃ k, k = min (8 - (a + q) % 8) (n - q) := ⟨_, rfl⟩
  rw [← hk]
  have hk8 : s + k ≤ 8 := by omega
  have hkn : q + k ≤ n := by omega
  have hval : y / 2 ^ s % 2 ^ k = valR bs / 2 ^ (a + q) % 2 ^ k := by
    rw [← hbyte, byte_part _ _ _ _ hk8, show 8 * ((a + q) / 8) + s = a + q by omega]
  have e1 := and_part y s k hlt (by omega)
  have e2 := or_part x (y / 2 ^ s % 2 ^ k) q k hx (Nat.mod_lt _ (Nat.two_pow_pos k)) (by omega)
  have hi1 : ((a : Int) + q) % 8 = (s : Int) := by omega
  have hi2 : ((8 - (s : Int) = k) ∧ (k : Int) ≤ n - q) ∨ ((n : Int) - q = k ∧ (k : Int) < 8 - s) := by omega
  have hi3 : IntKind.i64.wrap ((a : Int) + q) = a + q := IntWalk.i64_in _ (by omega)
  have hi5 : ((a : Int) + q).tdiv 8 = (((a + q) / 8 : Nat) : Int) := by rw [Int.tdiv_eq_ediv_of_nonneg (by omega)]; omega
  have hi6 : IntKind.i64.wrap (((a + q) / 8 : Nat) : Int) = (((a + q) / 8 : Nat) : Int) := IntWalk.i64_in _ (by omega)
  have hi4 : (((a + q) / 8 : Nat) : Int) < m := by omega
  have hi7 : IntKind.u64.wrap (y : Int) = y := by rw [IntKind.wrap_u64]; omega
  obtain ⟨j, hjd⟩ : ∃ j, j = (a + q) / 8 := ⟨_, rfl⟩
  rw [← hjd] at hc' hi4 hi5 hi6
  rw [← hval]
  have hs0 : s ≤ 7 := by omega
  clear hr hbyte hval hc hjb hj hb hjd
  have E1 := hide e1
  have E2 := hide e2
  have HX := hide hx
  have hm' : (m : Int) ≤ 4294967296 := by omega
  clear e1 e2 hx hs hk hm hbl
  refine veil fun R hR => ?_
  rcases hi2 with ⟨r1, hi2⟩ | ⟨r1, hi2⟩
  all_goals
    go_enter Try.func64, Try.ntmps64
    go_wp2_with fail
    go_still_tail 21, (by kernel_rfl)
    change wpList _ _ _ _ _ w.drew
    rw [E1.out, E2.out]
    go_wp2
    try go_end0
    refine hR.out _ _ ⟨rfl, ?_⟩
    simp

/-- a forward reader at block g over the bytes bs, 'from' bits read; F: where its bytes lie -/
def FwdAt (w : World) (F : Nat → Prop) (g : Nat) (bs : List Nat) (fr : Nat) : Prop :=
  ∃ (A : Option Addr) (c : Nat), Blk w g 93 #[.slice A bs.length c, .int .i64 fr, .int .i64 (8 * bs.length : Nat)] ∧ Rd w F A bs.length (bs.map fun b => .int .u8 (b : Nat)) ∧
    (∀ b ∈ bs, b < 256) ∧ fr ≤ 8 * bs.length ∧ bs.length ≤ 2 ^ 32

set_option maxRecDepth 100000 in
set_option maxHeartbeats 1000000 in
theorem value_any (F : Nat → Prop) (g : Nat) (A : Option Addr) (m c : Nat) (bs : List Nat) (a n : Nat) (w : World)
    (cg : w.cell? ⟨g, 0, none⟩ = some (.slice A m c)) (hr : Rd w F A m (bs.map fun b => .int .u8 (b : Nat))) (hb : ∀ b ∈ bs, b < 256) (hn : n ≤ 64) (han : a + n ≤ 8 * m) (hm : m ≤ 2 ^ 32) :
    Calls Try.prog 53 #[.pointer (some ⟨g, 0, none⟩), .int .i64 a, .int .i64 n] w fun e w' => e = .returned (.int .u64 (valR bs / 2 ^ a % 2 ^ n : Nat)) ∧ Fresh w w' := by
  have hg := World.block_lt_of_cell? _ _ cg
  have hnI : (n : Int) ≤ 64 := by omega
  have haI : (a : Int) ≤ 34359738368 := by omega
  have HB := hide hb
  have HR := hide hr
  have HG := hide cg
  clear hr cg hb
  refine veil fun R hR => ?_
  go_enter Try.func53, Try.ntmps53
  go_wp2_with fail
  obtain ⟨H, hH⟩ : ∃ H, H = w.heap.size := ⟨_, rfl⟩
  have HH := hide hH
  rw [← hH] at hg
  simp only [← hH]
  go_loopg [] n (fun m' wr => ∃ q : Nat, q + m' ≤ n ∧ n ≤ q + m' ∧ Blk wr H 111 #[.pointer (some ⟨g, 0, none⟩)] ∧ Blk wr (H + 1) 3 #[.int .i64 a] ∧ Blk wr (H + 1 + 1) 3 #[.int .i64 n] ∧
    Blk wr (H + 1 + 1 + 1) 71 #[.int .u64 (valR bs / 2 ^ a % 2 ^ q : Nat)] ∧ Blk wr (H + 1 + 1 + 1 + 1) 3 #[.int .i64 q] ∧ Fresh w wr)
  case atStart =>
    refine ⟨0, by omega, by omega, ?_, ?_, ?_, ?_, ?_, (((((Upd.refl _ w).alloc _).alloc _).alloc _).alloc _).alloc _⟩
    · exact ((((blk_new hH _ _).alloc _).alloc _).alloc _).alloc _
    · exact (((blk_new (by simp [hH]) _ _).alloc _).alloc _).alloc _
    · exact ((blk_new (by simp [hH]) _ _).alloc _).alloc _
    · simp only [Nat.pow_zero, Nat.mod_one]
      exact (blk_new (by simp [hH]) _ _).alloc _
    · exact blk_new (by simp [hH]) _ _
  case round =>
    obtain ⟨q, hq1, hq2, b0, b1, b2, b3, b4, hf⟩ := hrel
    have hc2 := b2.cell0
    have hc4 := b4.cell0
    have hc3 := b3.cell0
    have hf3 := b3.frozen 0
    have HF := hide hf
    by_cases hlt : q < n
    · have hk := value1_any F (H + 1) (H + 1 + 1 + 1 + 1) (H + 1 + 1) (H + 1 + 1 + 1) H g A m c bs a q n (valR bs / 2 ^ a % 2 ^ q) wr b1.cell0 hc4 hc2 hc3 b0.cell0
        (by rw [hf.cells g 0 (by omega)]; exact HG.out) (HR.out.fresh hf) HB.out (b4.frozen 0) hf3 (by omega) (by omega) (by omega) (by omega) hlt hn han hm (Nat.mod_lt _ (Nat.two_pow_pos q))
      rw [Nat.pow_add, ← Nat.div_div_eq_div_mul] at hk
      obtain ⟨k, hkd⟩ : ∃ k, k = min (8 - (a + q) % 8) (n - q) := ⟨_, rfl⟩
      rw [← hkd, ← mod_pow_add] at hk
      have hk1 : 1 ≤ k ∧ k ≤ n - q := by omega
      have HK := hide hk
      have B0 := hide b0
      have B1 := hide b1
      have B2 := hide b2
      have B3 := hide b3
      have B4 := hide b4
      clear b0 b1 b2 b3 b4 hk hkd hf hH
      go_wp2_with fail
      refine HK.out.mono ?_
      rintro e w1 ⟨rfl, hw1⟩
      have c0 : Blk w1 H 111 #[.pointer (some ⟨g, 0, none⟩)] := by subst hw1; exact ((B0.out.far (p := ⟨_, _, _⟩) (by simp <;> omega) _).far (p := ⟨_, _, _⟩) (by simp <;> omega) _).drew
      have c1 : Blk w1 (H + 1) 3 #[.int .i64 a] := by subst hw1; exact ((B1.out.far (p := ⟨_, _, _⟩) (by simp <;> omega) _).far (p := ⟨_, _, _⟩) (by simp <;> omega) _).drew
      have c2 : Blk w1 (H + 1 + 1) 3 #[.int .i64 n] := by subst hw1; exact ((B2.out.far (p := ⟨_, _, _⟩) (by simp) _).far (p := ⟨_, _, _⟩) (by simp <;> omega) _).drew
      have c3 : Blk w1 (H + 1 + 1 + 1) 71 #[.int .u64 (valR bs / 2 ^ a % 2 ^ (q + k) : Nat)] := by subst hw1; exact ((B3.out.set_ 0 _).far (p := ⟨_, _, _⟩) (by simp) _).drew
      have c4 : Blk w1 (H + 1 + 1 + 1 + 1) 3 #[.int .i64 (q + k : Nat)] := by subst hw1; exact ((B4.out.far (p := ⟨_, _, _⟩) (by simp) _).set_ 0 _).drew
      have f1 : Fresh w w1 := by
        subst hw1
        have := HH.out
        exact ((HF.out.setCell (p := ⟨_, _, _⟩) (fun h => by simp at h; omega) _).setCell (p := ⟨_, _, _⟩) (fun h => by simp at h; omega) _).drew
      clear hw1 B0 B1 B2 B3 B4 HF hc2 hc4 hc3 hf3
      have HC := hide (show _ ∧ _ ∧ _ ∧ _ ∧ _ ∧ _ from ⟨c0, c1, c2, c3, c4, f1⟩)
      clear c0 c1 c2 c3 c4 f1
      go_wp2
      go_roundg (gk - k)
      case measure => omega
      case rel => exact ⟨q + k, by omega, by omega, HC.out⟩
    · obtain rfl : q = n := by omega
      clear b0 b1 b2 b4 hf hH
      have HC3 := hide b3
      clear b3
      go_wp2
      refine bodyPost_ret (v := .int .u64 (valR bs / 2 ^ a % 2 ^ q : Nat)) ?_ rfl (hR.out _ _ ⟨rfl, HF.out.setCell (p := ⟨_, _, _⟩) (fun h => by have := HH.out; simp at h; omega) _⟩)
      have hcc := (HC3.out.set_ 0 (.int .u64 (valR bs / 2 ^ a % 2 ^ q : Nat))).cell0
      simp at hcc
      simp [results, Try.results53, go_sem, hcc]

set_option maxRecDepth 100000 in
set_option maxHeartbeats 1000000 in
theorem left_any (g : Nat) (fr to_ : Nat) (w : World) (c1 : w.cell? ⟨g, 1, none⟩ = some (.int .i64 fr)) (c2 : w.cell? ⟨g, 2, none⟩ = some (.int .i64 to_)) (h : fr ≤ to_) (h' : to_ ≤ 2 ^ 40) :
    Calls Try.prog 70 #[.pointer (some ⟨g, 0, none⟩)] w fun e w' => e = .returned (.int .i64 (to_ - fr : Nat)) ∧ ∃ k, w' = w.drewN k := by
  have h1 : (to_ : Int) ≤ 1099511627776 := by omega
  have e1 : ((to_ - fr : Nat) : Int) = to_ - fr := by omega
  have E1 := hide e1
  clear e1 h'
  refine veil fun R hR => ?_
  go_enter Try.func70, Try.ntmps70
  go_wp2
  go_quiet (fail)
  go_wp2
  try go_ret
  exact hR.out _ _ ⟨ret_int (by rw [E1.out]), _, rfl⟩

set_option maxRecDepth 100000 in
set_option maxHeartbeats 1000000 in
theorem may_ok (g : Nat) (fr to_ n : Nat) (sh : Int) (w : World) (c1 : w.cell? ⟨g, 1, none⟩ = some (.int .i64 fr)) (c2 : w.cell? ⟨g, 2, none⟩ = some (.int .i64 to_)) (h' : to_ ≤ 2 ^ 40) (hn : n ≤ 64)
    (h : fr + n ≤ to_) :
    Calls Try.prog 67 #[.pointer (some ⟨g, 0, none⟩), .int .i64 n, .int .i64 sh] w fun e w' => e = .returned (.int .i64 0) ∧ ∃ k, w' = w.drewN k := by
  have hk := left_any g fr to_ w c1 c2 (by omega) h'
  have HK := hide hk
  have h1 : (to_ : Int) ≤ 1099511627776 := by omega
  have h2 : (n : Int) ≤ ((to_ - fr : Nat) : Int) := by omega
  clear hk h'
  generalize to_ - fr = d at *
  refine veil fun R hR => ?_
  go_enter Try.func67, Try.ntmps67
  go_wp2_with (go_at_call 70; refine HK.out.mono ?_; rintro e w' ⟨rfl, k, rfl⟩)
  try go_ret
  exact hR.out _ _ ⟨rfl, _, rfl⟩

set_option maxRecDepth 100000 in
set_option maxHeartbeats 1000000 in
theorem may_short (g : Nat) (fr to_ n : Nat) (sh : Int) (w : World) (c1 : w.cell? ⟨g, 1, none⟩ = some (.int .i64 fr)) (c2 : w.cell? ⟨g, 2, none⟩ = some (.int .i64 to_)) (h' : to_ ≤ 2 ^ 40) (hn : n ≤ 64) (hf : fr ≤ to_)
    (h : to_ < fr + n) :
    Calls Try.prog 67 #[.pointer (some ⟨g, 0, none⟩), .int .i64 n, .int .i64 sh] w fun e w' => e = .returned (.int .i64 sh) ∧ ∃ k, w' = w.drewN k := by
  have hk := left_any g fr to_ w c1 c2 (by omega) h'
  have HK := hide hk
  have h1 : (to_ : Int) ≤ 1099511627776 := by omega
  have h2 : ((to_ - fr : Nat) : Int) < (n : Int) := by omega
  clear hk h'
  generalize to_ - fr = d at *
  refine veil fun R hR => ?_
  go_enter Try.func67, Try.ntmps67
  go_wp2_with (go_at_call 70; refine HK.out.mono ?_; rintro e w' ⟨rfl, k, rfl⟩)
  try go_ret
  exact hR.out _ _ ⟨rfl, _, rfl⟩

theorem FwdAt.upd {w w' : World} {F S : Nat → Prop} {g : Nat} {bs : List Nat} {fr : Nat} (h : FwdAt w F g bs fr) (hu : Upd S w w') (hg : ¬ S g) (hF : ∀ b, F b → ¬ S b) : FwdAt w' F g bs fr := by
  obtain ⟨A, c, hb, hr, r⟩ := h
  exact ⟨A, c, hb.upd hu hg, hr.upd hu (fun b _ hb => hF b hb), r⟩
theorem FwdAt.fresh {w w' : World} {F : Nat → Prop} {g : Nat} {bs : List Nat} {fr : Nat} (h : FwdAt w F g bs fr) (hu : Fresh w w') : FwdAt w' F g bs fr := h.upd hu (fun h => h) (fun _ _ h => h)

set_option maxRecDepth 100000 in
set_option maxHeartbeats 1000000 in
theorem take_ok (F : Nat → Prop) (g : Nat) (bs : List Nat) (fr n : Nat) (w : World) (hf : FwdAt w F g bs fr) (hn : n ≤ 64) (h : fr + n ≤ 8 * bs.length) (hFg : ∀ b, F b → b ≠ g) :
    Calls Try.prog 63 #[.pointer (some ⟨g, 0, none⟩), .int .i64 n] w fun e w' => e = .returned (.tuple #[.int .u64 (valR bs / 2 ^ fr % 2 ^ n : Nat), .int .i64 0]) ∧
      Upd (fun b => b = g) w w' ∧ FwdAt w' F g bs (fr + n) := by
  obtain ⟨A, c, hb, hr, hlt, hfr, hlen⟩ := hf
  have hc0 := hb.cell 0
  have hc1 := hb.cell 1
  have hc2 := hb.cell 2
  have hfz := hb.frozen 1
  simp at hc0 hc1 hc2
  have hm := may_ok g fr (8 * bs.length) n 3 w hc1 (by simpa using hc2) (by omega) hn h
  have HM := hide hm
  have HB := hide hb
  have hv := fun W hW0 hW1 => value_any F g A bs.length c bs fr n W hW0 hW1 hlt hn h hlen
  have HV := hide hv
  clear hm hb hv hc2
  have i1 : (fr : Int) ≤ 34359738368 := by omega
  have i2 : (n : Int) ≤ 64 := by omega
  generalize valR bs / 2 ^ fr % 2 ^ n = V at *
  refine veil fun R hR => ?_
  go_enter Try.func63, Try.ntmps63
  go_wp2_with (go_at_call 67; refine HM.out.mono ?_; rintro e w' ⟨rfl, k, rfl⟩)
  have hs : IntKind.i64.wrap ((fr : Int) + n - n) = fr := by rw [show (fr : Int) + n - n = fr by omega]; exact IntWalk.i64_in _ (by omega)
  have hs2 : (fr : Int) + n - n = fr := by omega
  have b2 : Blk ((w.drewN k).setCell ⟨g, 1, none⟩ (.int .i64 ((fr : Int) + n))) g 93 #[.slice A bs.length c, .int .i64 ((fr : Int) + n), .int .i64 (8 * bs.length : Nat)] := (HB.out.drewN k).set_ 1 _
  have u2 : Upd (fun b => b = g) w ((w.drewN k).setCell ⟨g, 1, none⟩ (.int .i64 ((fr : Int) + n))) := ((Upd.refl (fun b => b = g) w).drewN k).setCell (p := ⟨g, 1, none⟩) (fun _ => rfl) _
  have hc1' := b2.cell 1
  simp only [List.getElem?_toArray, List.getElem?_cons_succ, List.getElem?_cons_zero] at hc1'
  generalize (w.drewN k).setCell ⟨g, 1, none⟩ (.int .i64 ((fr : Int) + n)) = W at *
  go_still_tail 11, (by kernel_rfl)
  change wpList _ _ _ _ _ W.drew
  have hc0 := b2.cell 0
  simp only [List.getElem?_toArray, List.getElem?_cons_zero] at hc0
  have hrW := hr.upd u2 (fun b _ hb e => hFg b hb e)
  go_wp2_with fail
  refine (HV.out W.drew hc0 hrW).mono ?_
  rintro e w1 ⟨rfl, f1⟩
  go_wp2
  try go_ret2
  refine hR.out _ _ ⟨rfl, u2.drew.trans f1 (fun _ _ h => h.elim), A, c, ?_, hrW.drew.fresh f1, hlt, h, hlen⟩
  have := b2.drew.fresh f1
  simpa using this

set_option maxRecDepth 100000 in
set_option maxHeartbeats 1000000 in
theorem take_short (F : Nat → Prop) (g : Nat) (bs : List Nat) (fr n : Nat) (w : World) (hf : FwdAt w F g bs fr) (hn : n ≤ 64) (h : 8 * bs.length < fr + n) :
    Calls Try.prog 63 #[.pointer (some ⟨g, 0, none⟩), .int .i64 n] w fun e w' => e = .returned (.tuple #[.int .u64 0, .int .i64 3]) ∧ Fresh w w' := by
  obtain ⟨A, c, hb, hr, hlt, hfr, hlen⟩ := hf
  have hc1 := hb.cell 1
  have hc2 := hb.cell 2
  simp at hc1 hc2
  have hm := may_short g fr (8 * bs.length) n 3 w hc1 (by simpa using hc2) (by omega) hn hfr h
  have HM := hide hm
  clear hm hb hc2 hc1
  refine veil fun R hR => ?_
  go_enter Try.func63, Try.ntmps63
  go_wp2_with (go_at_call 67; refine HM.out.mono ?_; rintro e w' ⟨rfl, k, rfl⟩)
  try go_ret2
  exact hR.out _ _ ⟨rfl, (Upd.refl _ _).drewN k⟩

/-- the bits up to the next byte boundary -/
def padN (fr : Nat) : Nat := (8 - fr % 8) % 8

theorem neg_and7 (fr : Nat) (h : fr ≤ 2 ^ 40) : bits .and .i64 (-(fr : Int)) 7 = ((padN fr : Nat) : Int) := by
  have e : (BitVec.ofInt 64 (-(fr : Int)) &&& BitVec.ofInt 64 7).toNat = padN fr := by
    rw [BitVec.toNat_and, BitVec.toNat_ofInt, BitVec.toNat_ofInt, show ((7 : Int) % ((2 ^ 64 : Nat) : Int)).toNat = 7 by decide, nat_mask3]
    unfold padN
    omega
  show IntKind.i64.wrap ((BitVec.ofInt 64 (-(fr : Int)) &&& BitVec.ofInt 64 7).toNat : Int) = _
  rw [e, IntKind.wrap_i64]
  unfold padN
  omega

set_option maxRecDepth 100000 in
set_option maxHeartbeats 1000000 in
theorem align_any (F : Nat → Prop) (g : Nat) (bs : List Nat) (fr : Nat) (w : World) (hf : FwdAt w F g bs fr) (hFg : ∀ b, F b → b ≠ g) :
    Calls Try.prog 34 #[.pointer (some ⟨g, 0, none⟩)] w fun e w' =>
      (valR bs / 2 ^ fr % 2 ^ padN fr = 0 → e = .returned (.tuple #[.int .i64 ((fr + padN fr) / 8 : Nat), .int .i64 0])) ∧
      (valR bs / 2 ^ fr % 2 ^ padN fr ≠ 0 → e = .returned (.tuple #[.int .i64 0, .int .i64 14])) ∧ Upd (fun b => b = g) w w' := by
  obtain ⟨A, c, hb, hr, hlt, hfr, hlen⟩ := hf
  have hc0 := hb.cell 0
  have hc1 := hb.cell 1
  have hfz := hb.frozen 1
  simp at hc0 hc1
  have hp : padN fr ≤ 7 ∧ fr + padN fr ≤ 8 * bs.length ∧ (fr + padN fr) % 8 = 0 := by unfold padN; omega
  have hv := value_any F g A bs.length c bs fr (padN fr) w.drew hc0 hr hlt (by omega) hp.2.1 hlen
  have hn7 := neg_and7 fr (by omega)
  have HB := hide hb
  have HV := hide hv
  have i1 : (fr : Int) ≤ 34359738368 := by omega
  obtain ⟨hp1, hp2, hp3⟩ := hp
  have i2 : (padN fr : Int) ≤ 7 := by omega
  clear hv hb hp1 hp2
  generalize valR bs / 2 ^ fr % 2 ^ padN fr = V at *
  generalize padN fr = p at *
  refine veil fun R hR => ?_
  go_enter Try.func34, Try.ntmps34
  go_wp2_with fail
  go_still_tail 9, (by kernel_rfl)
  change wpList _ _ _ _ _ w.drew
  go_wp2_with fail
  refine (HV.out).mono ?_
  rintro e w1 ⟨rfl, f1⟩
  have b1 := HB.out.drew.fresh f1
  have hc1' := b1.cell 1
  have hfz' := b1.frozen 1
  simp at hc1'
  have u1 : Upd (fun b => b = g) w w1 := ((Upd.refl _ w).drew).trans f1 (fun _ _ h => h.elim)
  have hd : ((fr : Int) + p) / 8 = ((fr + p) / 8 : Nat) := by omega
  have HD := hide hd
  clear hd b1
  by_cases hV : V = 0
  · subst hV
    go_wp2
    try go_ret2
    exact hR.out _ _ ⟨fun _ => by rw [← HD.out]; rfl, fun h => absurd rfl h, u1.setCell (p := ⟨g, 1, none⟩) (fun _ => rfl) _⟩
  · have hV' : ((V : Int) != 0) = true := by simpa using hV
    go_wp2
    try go_ret2
    exact hR.out _ _ ⟨fun h => absurd h hV, fun _ => rfl, u1⟩

set_option maxRecDepth 100000 in
set_option maxHeartbeats 1000000 in
theorem newforward_any (F : Nat → Prop) (A : Option Addr) (n c : Nat) (bs : List Nat) (w : World) (hr : Rd w F A n (bs.map fun b => .int .u8 (b : Nat))) (hlt : ∀ b ∈ bs, b < 256) (hlen : bs.length ≤ 2 ^ 32) :
    Calls Try.prog 31 #[.slice A n c] w fun e w' => ∃ g, e = .returned (.pointer (some ⟨g, 0, none⟩)) ∧ w.heap.size ≤ g ∧ Fresh w w' ∧
      FwdAt w' (fun k => w.heap.size ≤ k ∧ k ≠ g) g bs 0 := by
  have hn : n = bs.length := by have := hr.1; simpa using this.symm
  subst hn
  have hk := clone_bytes A bs.length c _ w hr (by simp [Value.oneCell']) (by omega)
  have HK := hide hk
  have hl : (bs.length : Int) ≤ 4294967296 := by omega
  clear hk hr
  refine veil fun R hR => ?_
  go_enter Try.func31, Try.ntmps31
  go_wp2_with fail
  refine HK.out.mono ?_
  rintro e w1 ⟨v, rfl, o1, f1, k1⟩
  obtain ⟨A', n', c', rfl, hn'⟩ := o1.form'
  have hrd := (o1.rd rfl).2.2
  have hn2 : n' = bs.length := by simpa using hn'.out
  have HN := hide hn2
  clear hn2 hn'
  go_wp2
  try go_ret
  have := HN.out
  subst this
  refine hR.out _ _ ⟨w1.heap.size, rfl, f1.size, f1.alloc _, A', c', ?_, ?_, hlt, by omega, hlen⟩
  · have := Blk.new w1 93 #[.slice A' bs.length c', .int .i64 0, .int .i64 (8 * (bs.length : Int))]
    simpa using this
  · have h2 := hrd.alloc (.cells #[.slice A' bs.length c', .int .i64 0, .int .i64 (8 * (bs.length : Int))] 93)
    refine ⟨by simp, fun h => ?_⟩
    obtain ⟨b, o, hA, hb, hbs, hc⟩ := h2.2 (by simpa using h)
    exact ⟨b, o, hA, ⟨k1 b hb, by have := o1.lt hb; omega⟩, hbs, fun j hj => hc j (by simpa using hj)⟩

end Go.Proofs.Ytbnicnindggimaa
