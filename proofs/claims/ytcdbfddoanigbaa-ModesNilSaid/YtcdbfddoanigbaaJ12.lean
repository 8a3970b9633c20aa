/-
  Joined texts, part 12: contracts and plain lemmas, each under its own heading below.
  Conditions: none beyond those of each theorem.
-/
import Derived.Test.YtcdbfddoanigbaaShelf
import Derived.Test.YtcdbfddoanigbaaJ4
import Derived.Test.YtcdbfddoanigbaaJ2
import Derived.Test.YtcdbfddoanigbaaJ9
import Derived.Test.YtcdbfddoanigbaaJ3
import Derived.Test.YtcdbfddoanigbaaJ5
/-
  Package desc, the writing side: Encode and BitLen.
  Conditions: none beyond those of each theorem.
-/
namespace Go.Proofs.Ytcdbfddoanigbaa
open Go.RowKit

theorem wrap64_pow (p : Nat) (h : p ≤ 9) : wrap64 (2 ^ p) = ((2 ^ p : Nat) : Int) := by
  have hpow : 2 ^ p ≤ 512 := Nat.le_trans (Nat.pow_le_pow_right (n := 2) (by omega) h) (by decide)
  obtain ⟨q, hq⟩ : ∃ q : Nat, q = 2 ^ p := ⟨_, rfl⟩
  have hq5 : q ≤ 512 := by rw [hq]; exact hpow
  rw [show (2 : Int) ^ p = (q : Int) by rw [hq]; simp, ← hq]
  unfold wrap64
  omega

set_option maxRecDepth 100000 in
set_option maxHeartbeats 1000000 in
theorem cut_any (m : Nat) (w : World) (h0 : 1 ≤ m) (h : m ≤ 100000) :
    Calls Try.prog 100 #[.int .i64 m] w fun e w' => e = .returned (.tuple #[.int .i64 (cutB m), .int .i64 (cutU m)]) ∧ ∃ k, w' = w.drewN k := by
  have hb := bitLen_pos m (by omega) (by omega)
  have hc := cut_bounds m (by omega) (by omega)
  have hlt := cutB_le m 17 (by omega) (by omega) (by omega)
  have hB : Lib.bitLen (m : Int).toNat = cutB m + 1 := by rw [Int.toNat_natCast]; unfold cutB; omega
  have hU : wrap64 (wrap64 ((2 : Int) * 2 ^ (cutB m)) - m) = (cutU m : Int) := by
    have h2 : 2 ^ cutB m ≤ 2 ^ 16 := Nat.pow_le_pow_right (by omega) (by omega)
    rw [show (2 : Int) * 2 ^ (cutB m) = ((2 ^ (cutB m + 1) : Nat) : Int) by simp [Int.pow_succ, Int.mul_comm]]
    unfold cutU wrap64
    rw [Nat.pow_succ] at *
    omega
  generalize cutU m = u at *
  generalize cutB m = b at *
  have HB := hide hB
  have HU := hide hU
  clear hB hU hc hb
  refine veil fun R hR => ?_
  go_enter Try.func100, Try.ntmps100
  go_wp2_with (go_at_call 33; refine (Try.bits_Len (m : Int) w (by omega) (by omega)).mono ?_; rintro e w' ⟨rfl, hw⟩; have hw := hw.symm; subst hw; rw [HB.out])
  go_quiet (fail)
  go_wp2
  try go_ret2
  refine hR.out _ _ ⟨?_, _, rfl⟩
  show Ending.returned (.tuple #[.int .i64 b, .int .i64 (wrap64 (wrap64 (2 * 2 ^ b) - m))]) = _
  rw [HU.out]

set_option maxRecDepth 100000 in
set_option maxHeartbeats 1000000 in
theorem number_any (S : Nat → Prop) (g : Nat) (n m : Nat) (l : List Bool) (w : World) (hw : WriterAt w S g l) (h0 : 1 ≤ m) (h : m ≤ 100000) (hn : n < m) (hl : l.length + 50 ≤ 2 ^ 30) (hS : ∀ k, w.heap.size ≤ k → S k) :
    Calls Try.prog 96 #[.pointer (some ⟨g, 0, none⟩), .int .i64 n, .int .i64 m] w fun e w' => e = .returned (.tuple #[]) ∧
      Upd S w w' ∧ WriterAt w' S g (l ++ numBits n m) := by
  have hc := cut_bounds m (by omega) (by omega)
  have hlt := cutB_le m 17 (by omega) (by omega) (by omega)
  have hdef : numBits n m = if n < cutU m then bitsB (cutB m) n else bitsB (cutB m) ((n + cutU m) / 2) ++ bitsB 1 (n + cutU m) := rfl
  have hu : cutU m = 2 ^ (cutB m + 1) - m := rfl
  have hcut := cut_any m w h0 h
  have H := hide hdef
  have HC := hide hcut
  have HU := hide hu
  clear hdef hcut hu
  obtain ⟨nb, hnb⟩ : ∃ nb, nb = numBits n m := ⟨_, rfl⟩
  rw [← hnb] at H ⊢
  clear hnb
  generalize cutU m = u at *
  generalize cutB m = b at *
  have hu2 : u ≤ 2 ^ b := by have := HU.out; rw [Nat.pow_succ] at *; omega
  have hbn : n < u → n < 2 ^ b := by omega
  have hbn2 : ¬ n < u → (n + u) / 2 < 2 ^ b := by have := HU.out; rw [Nat.pow_succ] at *; omega
  have h17 : 2 ^ b ≤ 2 ^ 16 := Nat.pow_le_pow_right (by omega) (by omega)
  have HS := hide hS
  refine veil fun R hR => ?_
  clear hc hS
  by_cases hcs : n < u
  · have hx := hbn hcs
    have hH := H.out
    rw [if_pos hcs] at hH
    subst hH
    clear H hbn hbn2 hu2 h17
    have HX := hide hx
    clear hx
    go_enter Try.func96, Try.ntmps96
    go_wp2_with (go_at_call 100; refine HC.out.mono ?_; rintro e w' ⟨rfl, kk, rfl⟩)
    refine (put_any S g n b l _ (hw.drewN kk) (by omega) HX.out (by omega) HS.out).mono ?_
    rintro e w1 ⟨rfl, u1, hw1⟩
    go_wp2
    try go_end0
    exact hR.out _ _ ⟨rfl, ((Upd.refl S w).drewN kk).trans' u1, hw1⟩
  · have hx := hbn2 hcs
    have hH := H.out
    rw [if_neg hcs] at hH
    subst hH
    have hnu : n + u ≤ 300000 := by omega
    have e1 : bits .and .u64 ((n : Int) + u) 1 = (((n + u) % 2 : Nat) : Int) := by
      rw [show (n : Int) + u = ((n + u : Nat) : Int) by omega, show (1 : Int) = ((1 : Nat) : Int) from rfl, u64_and_nat _ _ (by omega) (by omega), nat_mask1]
    have e2 : ((n : Int) + u) / 2 = (((n + u) / 2 : Nat) : Int) := by omega
    have HX := hide hx
    have E1 := hide e1
    have E2 := hide e2
    clear hx H hbn hbn2 hu2 h17 e1 e2
    have hw0 := fun k => hw.drewN k
    have HW := hide hw0
    clear hw0 hw
    go_enter Try.func96, Try.ntmps96
    go_wp2_with (go_at_call 100; refine HC.out.mono ?_; rintro e w' ⟨rfl, kk, rfl⟩)
    try rw [E2.out]
    refine (put_any S g ((n + u) / 2) b l _ (HW.out kk) (by omega) HX.out (by omega) HS.out).mono ?_
    rintro e w1 ⟨rfl, u1, hw1⟩
    go_wp2_with fail
    try rw [E1.out]
    refine (put_any S g ((n + u) % 2) 1 _ _ hw1 (by omega) (by omega) (by simp; omega) (fun k hk => HS.out k (Nat.le_trans (by simpa using u1.size) hk))).mono ?_
    rintro e w2 ⟨rfl, u2, hw2⟩
    go_wp2
    try go_end0
    refine hR.out _ _ ⟨rfl, (((Upd.refl S w).drewN kk).trans' u1).trans' u2, ?_⟩
    rw [← List.append_assoc, ← bitsB_mod 1 (n + u)]
    simpa using hw2

end Go.Proofs.Ytcdbfddoanigbaa

/-
  Package desc, the writing side: put, Encode and BitLen.
  Conditions: none beyond those of each theorem.
-/
namespace Go.Proofs.Ytcdbfddoanigbaa
open Go.RowKit

set_option maxRecDepth 100000 in
set_option maxHeartbeats 1000000 in
theorem put_none (F : Nat → Prop) (A : Option Addr) (n c : Nat) (lg : Int) (N : List Int) (w : World) (hr : Rd w F A n (ints N)) (hfit : Fit N) (hn : (n : Int) ≤ 1099511627776)
    (hv : ¬ (Valid lg N 256 9 ∧ lg ≠ 0)) :
    Calls Try.prog 74 #[.agg #[.int .i64 lg, .slice A n c]] w fun e w' => e = .returned (.pointer none) ∧ Fresh w w' := by
  have hck := fun W hW => check_any F A n c lg 256 9 N W hW hfit hn
  have HK := hide hck
  clear hck
  have fr : ∀ o, Fresh w (w.alloc o) := fun o => (Upd.refl _ _).alloc o
  have FR := hide fr
  have hr1 : ∀ o, Rd (w.alloc o) F A n (ints N) := fun o => hr.alloc o
  have HR := hide hr1
  clear hr hr1 fr
  have hcs := (Blk.new w 26 #[.int .i64 lg, .slice A n c]).cells
  have HC := hide hcs
  clear hcs
  refine veil fun R hR => ?_
  by_cases h0 : Valid lg N 256 9
  · obtain rfl : lg = 0 := by
      by_cases h : lg = 0
      · exact h
      · exact absurd ⟨h0, h⟩ hv
    rw [if_pos h0] at HK
    clear hv h0
    go_enter Try.func74, Try.ntmps74
    go_wp2_with (first | go_step3 | (refine wpList_load_agg rfl 26 (.tmp 1) rfl w.heap.size 0 rfl [_, _] _ HC.out Try.underlying26 rfl (by kernel_rfl) ?_))
    refine (HK.out _ (HR.out _)).mono ?_
    rintro e w1 ⟨rfl, f1⟩
    have hc0 := f1.cells w.heap.size 0 (by simp)
    simp at hc0
    go_wp2
    try simp only [Exit.noGoto]
    try go_ret
    exact hR.out _ _ ⟨rfl, (FR.out _).trans' f1⟩
  · rw [if_neg h0] at HK
    clear hv h0
    go_enter Try.func74, Try.ntmps74
    go_wp2_with (first | go_step3 | (refine wpList_load_agg rfl 26 (.tmp 1) rfl w.heap.size 0 rfl [_, _] _ HC.out Try.underlying26 rfl (by kernel_rfl) ?_))
    refine (HK.out _ (HR.out _)).mono ?_
    rintro e w1 ⟨rfl, f1⟩
    go_wp2
    try simp only [Exit.noGoto]
    try go_ret
    exact hR.out _ _ ⟨rfl, (FR.out _).trans' f1⟩

set_option maxRecDepth 100000 in
set_option maxHeartbeats 1000000 in
theorem put_some (F : Nat → Prop) (A : Option Addr) (n c : Nat) (p : Nat) (N : List Int) (w : World) (hr : Rd w F A n (ints N)) (hfit : Fit N) (hn : (n : Int) ≤ 1099511627776)
    (hv : Valid (p : Int) N 256 9) (hp : p ≠ 0) :
    Calls Try.prog 74 #[.agg #[.int .i64 p, .slice A n c]] w fun e w' => ∃ g, e = .returned (.pointer (some ⟨g, 0, none⟩)) ∧ Fresh w w' ∧
      WriterAt w' (fun k => w.heap.size < k) g (descBits p N) := by
  have hck := fun W hW => check_any F A n c p 256 9 N W hW hfit hn
  simp only [if_pos hv] at hck
  have HK := hide hck
  clear hck
  have fr : ∀ o, Fresh w (w.alloc o) := fun o => (Upd.refl _ _).alloc o
  have FR := hide fr
  have hr1 : ∀ o, Rd (w.alloc o) F A n (ints N) := fun o => hr.alloc o
  have HR := hide hr1
  clear hr1 fr
  have HV := hide hv
  have hp9 : p ≤ 9 := by have := hv.2.2.1; omega
  have hpz : ((p : Int) == 0) = false := by simp [hp]
  have hv2 := hv.2.2.2.2.1
  clear hv
  have hcs := (Blk.new w 26 #[.int .i64 (p : Int), .slice A n c]).cells
  have HC := hide hcs
  clear hcs
  refine veil fun R hR => ?_
  go_enter Try.func74, Try.ntmps74
  go_wp2_with (first | go_step3 | (refine wpList_load_agg rfl 26 (.tmp 1) rfl w.heap.size 0 rfl [_, _] _ HC.out Try.underlying26 rfl (by kernel_rfl) ?_))
  refine (HK.out _ (HR.out _)).mono ?_
  rintro e w1 ⟨rfl, f1⟩
  have hc0 := f1.cells w.heap.size 0 (by simp)
  simp at hc0
  have hc1 := f1.cells w.heap.size 1 (by simp)
  simp at hc1
  have hz : w.heap.size < w1.heap.size := by have := f1.size; simp at this; omega
  go_wp2_with fail
  have hw0 : WriterAt (w1.alloc (.cells #[.int .u64 0, .int .i64 0, .slice none 0 0] 139)) (fun k => w.heap.size < k) w1.heap.size [] :=
    ⟨0, 0, _, [], Blk.new _ _ _, Own.nil _ _, by omega, by simp, by simp, rfl, hz, by simp [Value.ownBlock]⟩
  have hp4 : (p - 1) < 2 ^ 4 := by omega
  rw [show (p : Int) - 1 = ((p - 1 : Nat) : Int) by omega]
  refine (put_any (fun k => w.heap.size < k) w1.heap.size (p - 1) 4 [] _ hw0 (by omega) hp4 (by simp) (fun k hk => by simp at hk; omega)).mono ?_
  rintro e w2 ⟨rfl, u2, hw2⟩
  have hc0 : w2.cell? ⟨w.heap.size, 0, none⟩ = some (.int .i64 p) := by
    rw [u2.cell (p := ⟨w.heap.size, 0, none⟩) (by simp; omega) (by simp), World.cell?_alloc_lt _ _ _ (by simpa using hz)]; exact hc0
  have hc1 : w2.cell? ⟨w.heap.size, 1, none⟩ = some (.slice A n c) := by
    rw [u2.cell (p := ⟨w.heap.size, 1, none⟩) (by simp; omega) (by simp), World.cell?_alloc_lt _ _ _ (by simpa using hz)]; exact hc1
  have hr2 : Rd w2 (fun b => b < w.heap.size) A n (ints N) :=
    (((hr.old.alloc _).fresh f1).alloc _).upd u2 (fun b _ hb hb' => by omega)
  have f2 : Fresh w w2 := (((FR.out _).trans' f1).alloc _).trans u2 (fun b hb hb' => by omega)
  have hz2 : w.heap.size < w2.heap.size := by have := u2.size; simp at this; omega
  clear u2 f1 hw0 hz hr
  generalize w1.heap.size = g at *
  have hw2' : WriterAt w2 (fun k => w.heap.size < k) g (bitsB 4 (p - 1)) := by simpa using hw2
  clear hw2
  have HR2 := hide hr2
  have HF2 := hide f2
  have HW2 := hide hw2'
  clear hr2 f2 hw2'
  go_wp2_with go_step3
  have hpow : 2 ^ p ≤ 512 := Nat.le_trans (Nat.pow_le_pow_right (n := 2) (by omega) hp9) (by decide)
  have hl4 : Value.int .i64 (wrap64 (2 ^ p)) = .int .i64 ((2 ^ p : Nat) : Int) := by
    obtain ⟨q, hq⟩ : ∃ q : Nat, q = 2 ^ p := ⟨_, rfl⟩
    have hq5 : q ≤ 512 := by rw [hq]; exact hpow
    rw [show (2 : Int) ^ p = (q : Int) by rw [hq]; simp, ← hq, show wrap64 (q : Int) = (q : Int) by unfold wrap64; omega]
  have hN : N.length = n := by have := HR2.out.1; simpa using this
  rw [hN] at hv2
  have hn256 : n ≤ 256 := by have := hv2; omega
  have HN := hide hN
  have HL4 := hide hl4
  clear hN hl4
  go_loopg [4, 5, 31] n (fun m vl vr vi wr => ∃ k L s : Nat, k + m = n ∧ vi = .int .i64 k ∧ vl = .int .i64 L ∧ vr = .int .i64 s ∧ (L : Int) = sumZ (N.drop k) ∧ L ≤ 512 ∧ s ≤ zerosOf (N.drop k) ∧
    Upd (fun k => w.heap.size < k) w2 wr ∧ ∃ l0, WriterAt wr (fun k => w.heap.size < k) g l0 ∧ l0 ++ normBits L s (N.drop k) = descBits p N)
  case atStart =>
    refine ⟨0, 2 ^ p, 0, by omega, rfl, HL4.out, rfl, ?_, hpow, Nat.zero_le _, Upd.refl _ _, _, HW2.out, by simp [descBits]⟩
    have := HV.out.2.2.2.2.2.2.2
    simpa using this.symm
  case round =>
    obtain ⟨k, L, s, hk, rfl, rfl, rfl, hL, hL5, hs, hu, l0, hw, htot⟩ := hrel
    have hlen : l0.length ≤ 100000 := by
      have h1 := congrArg List.length htot
      have h2 := descBits_length p N hp9
      have h3 := HN.out
      rw [List.length_append] at h1
      omega
    have hk1 := Nat.le_of_eq hk
    have hk2 := Nat.le_of_eq hk.symm
    have HT := hide htot
    have HLs := hide hL
    have HU := hide hu
    have HW := hide hw
    have HS := hide hs
    clear hk htot hL hu hw hs
    by_cases hlt : k < n
    · have hkn : k < N.length := by have := HN.out; omega
      have hd := List.drop_eq_getElem_cons hkn
      have hfk := hfit N[k] (List.getElem_mem hkn)
      have hge := HV.out.2.2.2.2.2.2.1 N[k] (List.getElem_mem hkn)
      obtain ⟨b, o, _, rfl, hb, hc⟩ := (HR2.out.upd HU.out (fun b _ hb hb' => by omega)).int (k := k) hlt
      obtain ⟨z, hz⟩ : ∃ z, z = N[k] := ⟨_, rfl⟩
      rw [← hz] at hd hfk hge hc
      have HZK := hide hz
      clear hz
      have h1 := HLs.out
      have h2 := HT.out
      have h3 := HS.out
      rw [hd] at h1 h2 h3
      rw [sumZ_cons] at h1
      have hn0 := sumZ_nonneg (N.drop (k + 1))
      have hz1 : z ≤ L := by have : z ≤ absZ z := by unfold absZ; split <;> omega
                             omega
      have hza : (z.natAbs : Int) = absZ z := by unfold absZ; split <;> omega
      have hzn : z.natAbs ≤ L := by omega
      have H1 := hide h1
      have H2 := hide h2
      have H3 := hide h3
      have HZ := hide hza
      have hsb : (s : Int) ≤ 1099511627776 := by have := zerosOf_le (z :: N.drop (k + 1)); simp at this; have := HN.out; omega
      clear h1 h2 h3 hd hza hn0 HLs HT HS
      by_cases hs0 : 0 < s
      · have hz0 : z = 0 := by
          by_cases h : z = 0
          · exact h
          · have := H3.out; rw [zerosOf_cons_ne _ _ h] at this; omega
        subst hz0
        go_wp2
        go_roundg (gk - 1)
        case measure => omega
        case rel =>
          have h3 := H3.out
          rw [zerosOf_cons_zero] at h3
          have h2 := H2.out
          rw [show s = (s - 1) + 1 by omega] at h2
          exact ⟨k + 1, L, s - 1, by omega, by go_num, rfl, by congr 1; omega, by have := H1.out; simpa [absZ] using this, hL5, by omega, HU.out, l0, HW.out, h2⟩
      · obtain rfl : s = 0 := by omega
        go_wp2_with go_step3
        rw [show (z + 1 : Int) = ((z + 1).toNat : Int) by omega, show ((L : Int) + 2) = ((L + 2 : Nat) : Int) by omega]
        refine (number_any (fun k => w.heap.size < k) g (z + 1).toNat (L + 2) l0 wr HW.out (by omega) (by omega) (by omega) (by omega) (fun k hk => by have := HU.out.size; omega)).mono ?_
        rintro e w3 ⟨rfl, u3, hw3⟩
        have hc1' : w3.cell? ⟨w.heap.size, 1, none⟩ = some (.slice (some ⟨b, o, none⟩) n c) := by
          rw [(HU.out.trans' u3).cell (p := ⟨w.heap.size, 1, none⟩) (by simpa using hz2) (by simp)]; exact hc1
        have hr3 : Rd w3 (fun b => b < w.heap.size) (some ⟨b, o, none⟩) n (ints N) := HR2.out.upd (HU.out.trans' u3) (fun b _ hb hb' => by omega)
        have HR3 := hide hr3
        have HU3 := hide (HU.out.trans' u3)
        have HW3 := hide hw3
        have hlen3 : (l0 ++ numBits (z + 1).toNat (L + 2)).length ≤ 100030 := by
          have h1 := numBits_length (z + 1).toNat (L + 2)
          have h2 := cutB_le (L + 2) 10 (by omega) (by omega) (by omega)
          simp; omega
        clear hr3 u3 hw3 HW HU hc
        by_cases hz0 : z = 0
        · subst hz0
          have hzl := zeros_lt N k n HN.out hlt (by rw [List.getElem?_eq_getElem hkn]; exact congrArg some HZK.out.symm) (by have := HV.out.2.2.2.2.2.1; rw [HN.out] at this; exact this)
          obtain ⟨zs, hzs⟩ : ∃ zs, zs = zerosOf (N.drop (k + 1)) := ⟨_, rfl⟩
          rw [← hzs] at hzl
          have HZS := hide hzs
          clear hzs
          have hzl' : (k : Int) + 1 + zs < n := by omega
          go_wp2_with go_step3
          obtain ⟨k0, rfl⟩ : ∃ k0, k0 = gk := ⟨gk, rfl⟩
          obtain ⟨w0, rfl⟩ : ∃ w0, w0 = wr := ⟨wr, rfl⟩
          go_loopg [5] zs (fun m vr wr' => wr' = w3 ∧ ∃ s : Nat, s + m ≤ zs ∧ zs ≤ s + m ∧ vr = .int .i64 s)
          case atStart => exact ⟨rfl, 0, by omega, by omega, rfl⟩
          case round =>
            obtain ⟨hwr, s, hs1, hs2, rfl⟩ := hrel
            have hwr := hwr.symm
            subst hwr
            obtain ⟨b', o', _, e, hb', hc⟩ := HR3.out.int (k := k + 1 + s) (by omega)
            injection e with e
            injection e with e1 e2
            subst e1 e2
            by_cases hsz : s < zs
            · have hv : N[k + 1 + s] = 0 := by
                have := zerosOf_get (N.drop (k + 1)) s (by rw [← HZS.out]; exact hsz)
                rw [List.getElem?_drop, List.getElem?_eq_getElem (by assumption)] at this
                exact Option.some.inj this
              rw [hv] at hc
              clear hv
              go_wp2_with go_step3
              go_roundg (gk - 1)
              case measure => omega
              case rel => exact ⟨rfl, s + 1, by omega, by omega, by go_num⟩
            · obtain rfl : s = zs := by omega
              have hv : (N[k + 1 + s] == 0) = false := by
                have h1 := zerosOf_stop (N.drop (k + 1))
                rw [← HZS.out, List.getElem?_drop, List.getElem?_eq_getElem (by assumption)] at h1
                simpa using h1
              obtain ⟨y, hy⟩ : ∃ y, y = N[k + 1 + s] := ⟨_, rfl⟩
              rw [← hy] at hc hv
              clear hy hs1 hs2
              have hwz : WriterAt w3 (fun k => w.heap.size < k) g (l0 ++ numBits 1 (L + 2)) := HW3.out
              have hlz : (l0 ++ numBits 1 (L + 2)).length ≤ 100030 := hlen3
              obtain ⟨lz, hlz0⟩ : ∃ lz, lz = l0 ++ numBits 1 (L + 2) := ⟨_, rfl⟩
              rw [← hlz0] at hwz hlz
              have HLZ := hide hlz0
              have HWZ := hide hwz
              clear hlz0 hwz hlen3 HW3
              go_wp2_with go_step3
              go_loopg [8] (s + 3) (fun m vk wq => ∃ kk : Int, vk = .int .i64 kk ∧ -3 ≤ kk ∧ kk + 3 ≤ m ∧ m ≤ kk + 3 ∧ Upd (fun k => w.heap.size < k) w2 wq ∧
                ((0 ≤ kk ∧ ∃ j : Nat, kk + 3 * j ≤ s ∧ s ≤ kk + 3 * j ∧ WriterAt wq (fun k => w.heap.size < k) g (lz ++ runPart j)) ∨
                 (kk < 0 ∧ WriterAt wq (fun k => w.heap.size < k) g (lz ++ runBits s))))
              case atStart => exact ⟨s, rfl, by omega, by omega, by omega, HU3.out, .inl ⟨by omega, 0, by omega, by omega, by simpa [runPart] using HWZ.out⟩⟩
              case round =>
                obtain ⟨kk, rfl, hkk1, hkk2, hkk3, hu, hor⟩ := hrel
                have HU4 := hide hu
                clear hu
                by_cases hk0 : 0 ≤ kk
                · obtain ⟨j, hj1, hj2, hwq⟩ : ∃ j : Nat, kk + 3 * j ≤ s ∧ s ≤ kk + 3 * j ∧ WriterAt wr (fun k => w.heap.size < k) g (lz ++ runPart j) := by
                    rcases hor with ⟨_, h⟩ | ⟨h, _⟩
                    · exact h
                    · omega
                  have hwl : (lz ++ runPart j).length ≤ 2 ^ 30 := by rw [List.length_append, runPart_length]; omega
                  have HWL := hide hwl
                  have HWQ := hide hwq
                  clear hor hwq hwl
                  by_cases hk3 : 3 ≤ kk
                  · go_wp2_with go_step3
                    rw [show min kk 3 = ((3 : Nat) : Int) by omega]
                    refine (put_any (fun k => w.heap.size < k) g 3 2 _ wr HWQ.out (by omega) (by omega) HWL.out (fun k hk => by have := HU4.out.size; omega)).mono ?_
                    rintro e w4 ⟨rfl, u4, hw4⟩
                    rw [List.append_assoc, ← runPart_succ] at hw4
                    have HU5 := hide (HU4.out.trans' u4)
                    have HW4 := hide hw4
                    clear u4 hw4
                    go_wp2_with go_step3
                    go_roundg (gk - 3)
                    case measure => omega
                    case rel => exact ⟨kk - 3, by go_num, by omega, by omega, by omega, HU5.out, .inl ⟨by omega, j + 1, by omega, by omega, HW4.out⟩⟩
                  · go_wp2_with go_step3
                    rw [show min kk 3 = ((s - 3 * j : Nat) : Int) by omega]
                    refine (put_any (fun k => w.heap.size < k) g (s - 3 * j) 2 _ wr HWQ.out (by omega) (by omega) HWL.out (fun k hk => by have := HU4.out.size; omega)).mono ?_
                    rintro e w4 ⟨rfl, u4, hw4⟩
                    rw [List.append_assoc, ← runPart_end s j (by omega) (by omega)] at hw4
                    have HU5 := hide (HU4.out.trans' u4)
                    have HW4 := hide hw4
                    clear u4 hw4
                    go_wp2_with go_step3
                    go_roundg (gk - 3)
                    case measure => omega
                    case rel => exact ⟨kk - 3, by go_num, by omega, by omega, by omega, HU5.out, .inr ⟨by omega, HW4.out⟩⟩
                · have hwq : WriterAt wr (fun k => w.heap.size < k) g (lz ++ runBits s) := by
                    rcases hor with ⟨h, _⟩ | ⟨_, h⟩
                    · omega
                    · exact h
                  have HWQ := hide hwq
                  clear hor hwq
                  go_wp2_with go_step3
                  go_roundg (k0 - 1)
                  case measure => omega
                  case rel =>
                    refine ⟨k + 1, L, s, by omega, by go_num, rfl, rfl, ?_, hL5, ?_, HU4.out, _, HWQ.out, ?_⟩
                    · have h1 := H1.out; simpa [absZ] using h1
                    · rw [HZS.out]; exact Nat.le_refl _
                    · have h2 := H2.out
                      rw [normBits_zero, ← HZS.out, ← List.append_assoc, ← List.append_assoc, ← HLZ.out] at h2
                      exact h2
        · have hz0' : (z != 0) = true := by simpa using hz0
          by_cases hneg : z < 0
          · obtain rfl : z = -1 := by omega
            go_wp2_with go_step3
            go_roundg (gk - 1)
            case measure => omega
            case rel =>
              refine ⟨k + 1, L - (-1 : Int).natAbs, 0, by omega, by go_num, by congr 1; omega, rfl, ?_, by omega, Nat.zero_le _, HU3.out, _, HW3.out, ?_⟩
              · have h1 := H1.out; have h2 := HZ.out; omega
              · have h2 := H2.out
                rw [normBits_ne _ _ _ hz0, ← List.append_assoc] at h2
                exact h2
          · have hmx : max z (-z) = z := by omega
            go_wp2_with go_step3
            go_roundg (gk - 1)
            case measure => omega
            case rel =>
              refine ⟨k + 1, L - (z : Int).natAbs, 0, by omega, by go_num, by congr 1; omega, rfl, ?_, by omega, Nat.zero_le _, HU3.out, _, HW3.out, ?_⟩
              · have h1 := H1.out; have h2 := HZ.out; omega
              · have h2 := H2.out
                rw [normBits_ne _ _ _ hz0, ← List.append_assoc] at h2
                exact h2
    · obtain rfl : k = n := by omega
      go_wp2_with go_step3
      try go_ret
      refine hR.out _ _ ⟨g, rfl, HF2.out.trans HU.out (fun b hb hb' => by omega), ?_⟩
      have h2 := HT.out
      rw [List.drop_eq_nil_of_le (by have := HN.out; omega)] at h2
      have e : normBits L s [] = [] := by cases s <;> rfl
      rw [e, List.append_nil] at h2
      rw [← h2]
      exact HW.out

/-- a slice of bytes as values -/
def bytes (bs : List Nat) : List Value := bs.map fun b => .int .u8 (b : Nat)
@[simp] theorem bytes_length (bs : List Nat) : (bytes bs).length = bs.length := by simp [bytes]
theorem bytes_one (bs : List Nat) : ∀ u ∈ bytes bs, u.oneCell' = true := by
  intro u hu
  obtain ⟨_, _, rfl⟩ := List.mem_map.1 hu
  rfl

/-- what Encode hands back: no bytes, or new bytes of one's own -/
def NewBytes (w w' : World) (v : Value) (bs : List Nat) : Prop := Own w' 5 v (bytes bs) ∧ Fresh w w' ∧ ∀ k, v.ownBlock = some k → w.heap.size ≤ k

set_option maxRecDepth 100000 in
set_option maxHeartbeats 1000000 in
theorem encode_bad (F : Nat → Prop) (A : Option Addr) (n c : Nat) (lg : Int) (N : List Int) (w : World) (hr : Rd w F A n (ints N)) (hfit : Fit N) (hn : (n : Int) ≤ 1099511627776)
    (hv : ¬ (Valid lg N 256 9 ∧ lg ≠ 0)) :
    Calls Try.prog 55 #[.agg #[.int .i64 lg, .slice A n c]] w fun e w' => e = .returned (.tuple #[.slice none 0 0, .int .i64 13]) ∧ Fresh w w' := by
  have fr : ∀ o, Fresh w (w.alloc o) := fun o => (Upd.refl _ _).alloc o
  have FR := hide fr
  have hk := fun o => put_none F A n c lg N (w.alloc o) (hr.alloc o) hfit hn hv
  have HK := hide hk
  clear hr hk fr
  refine veil fun R hR => ?_
  go_enter Try.func55, Try.ntmps55
  go_wp2_with fail
  refine (HK.out _).mono ?_
  rintro e w1 ⟨rfl, f0⟩
  have f1 : Fresh w w1 := ((Upd.refl _ _).alloc _).trans' f0
  clear f0
  go_wp2
  try go_ret2
  exact hR.out _ _ ⟨rfl, f1⟩

set_option maxRecDepth 100000 in
set_option maxHeartbeats 1000000 in
theorem encode_ok (F : Nat → Prop) (A : Option Addr) (n c : Nat) (p : Nat) (N : List Int) (w : World) (hr : Rd w F A n (ints N)) (hfit : Fit N) (hn : (n : Int) ≤ 1099511627776)
    (hv : Valid (p : Int) N 256 9) (hp : p ≠ 0) :
    Calls Try.prog 55 #[.agg #[.int .i64 p, .slice A n c]] w fun e w' => ∃ v, e = .returned (.tuple #[v, .int .i64 0]) ∧ NewBytes w w' v (packB (descBits p N)) := by
  have hk := fun o => put_some F A n c p N (w.alloc o) (hr.alloc o) hfit hn hv hp
  have hl := descBits_length p N (by have := hv.2.2.1; omega)
  have h256 := hv.2.2.2.2.1
  have hl2 : (descBits p N).length ≤ 100000 := by omega
  have HL := hide hl2
  have HK := hide hk
  clear hr hk hv hl hl2
  refine veil fun R hR => ?_
  go_enter Try.func55, Try.ntmps55
  go_wp2_with fail
  refine (HK.out _).mono ?_
  rintro e w1 ⟨g, rfl, f0, hw⟩
  have f1 : Fresh w w1 := ((Upd.refl _ _).alloc _).trans' f0
  clear f0
  go_wp2_with fail
  refine (bytes_any _ g _ w1 hw (by have := HL.out; omega)).mono ?_
  rintro e w2 ⟨v, rfl, ho, f2, hb⟩
  go_wp2
  try go_ret2
  exact hR.out _ _ ⟨v, rfl, ho, f1.trans' f2, fun k hk => Nat.le_trans f1.size (hb k hk)⟩

end Go.Proofs.Ytcdbfddoanigbaa

/-
  The reference of bit streams: Bits.
  Conditions: none beyond those of each theorem.
-/
namespace Go.Proofs.Ytcdbfddoanigbaa
open Go.RowKit
set_option linter.unusedVariables false
set_option linter.unusedSimpArgs false

/-- bits as values -/
def bools (L : List Bool) : List Value := L.map Value.bool
@[simp] theorem bools_length (L : List Bool) : (bools L).length = L.length := by simp [bools]
theorem bools_one (L : List Bool) : ∀ u ∈ bools L, u.oneCell' = true := by
  intro u hu
  obtain ⟨_, _, rfl⟩ := List.mem_map.1 hu
  rfl
theorem bools_append (A B : List Bool) : bools (A ++ B) = bools A ++ bools B := by simp [bools]
theorem Rd.bool {w : World} {F : Nat → Prop} {A : Option Addr} {n : Nat} {L : List Bool} (h : Rd w F A n (bools L)) {k : Nat} (hk : k < n) :
    ∃ b o, ∃ hk' : k < L.length, A = some ⟨b, o, none⟩ ∧ b < w.heap.size ∧ w.cell? ⟨b, o + k, none⟩ = some (.bool L[k]) := by
  have hl : L.length = n := by have := h.1; simpa using this
  obtain ⟨b, o, e, _, hb, hc⟩ := h.at_ hk
  exact ⟨b, o, by omega, e, hb, by rw [hc]; simp [bools, List.getElem?_eq_getElem (show k < L.length by omega)]⟩

/-- a new slice of bits -/
def NewBits (w w' : World) (v : Value) (L : List Bool) : Prop := Own w' 4 v (bools L) ∧ Fresh w w' ∧ ∀ k, v.ownBlock = some k → w.heap.size ≤ k

set_option maxRecDepth 100000 in
set_option maxHeartbeats 1000000 in
theorem rbits_any (v n : Nat) (w : World) (hn : n ≤ 64) (hv : v < 2 ^ 64) :
    Calls Try.prog 58 #[.int .u64 v, .int .i64 n] w fun e w' => ∃ s, e = .returned s ∧ NewBits w w' s (bitsB n v) := by
  have hnI : (n : Int) ≤ 64 := by omega
  have HV := hide hv
  clear hv hn
  refine veil fun R hR => ?_
  go_enter Try.func58, Try.ntmps58
  go_wp2_with fail
  go_loopg [0, 5, 6] n (fun m x s i wr => ∃ (k : Nat), k + m = n ∧ x = .int .u64 (v / 2 ^ k : Nat) ∧ i = .int .i64 k ∧ NewBits w wr s (bitsB k v))
  case atStart => exact ⟨0, by omega, by simp, rfl, by simpa [bitsB, bools] using Own.nil w 4, Upd.refl _ _, by simp [Value.ownBlock]⟩
  case round =>
    obtain ⟨k, hk, rfl, rfl, ho, hf, hob⟩ := hrel
    have hsn := bitsB_snoc k v
    have hdv : v / 2 ^ (k + 1) = v / 2 ^ k / 2 := by rw [Nat.pow_succ, Nat.div_div_eq_div_mul]
    have hxl : v / 2 ^ k < 2 ^ 64 := Nat.lt_of_le_of_lt (Nat.div_le_self _ _) HV.out
    generalize v / 2 ^ k = x at *
    have hx1 : (x : Int) < 18446744073709551616 := by have : (2 : Nat) ^ 64 = 18446744073709551616 := by decide
                                                      omega
    have HS := hide hsn
    have HD := hide hdv
    have HK := hide hk
    have HO := hide ho
    have HF := hide hf
    have HOB := hide hob
    have hlen : (bools (bitsB k v)).length + 1 ≤ 2 ^ 40 := by simp; omega
    have HL := hide hlen
    clear hsn hdv hk ho hf hob hxl hlen
    by_cases hlt : k < n
    · go_wp2_with (at_builtin; go_must (refine wpList_app _ rfl (.tmp 12) (.tmp 16) _ rfl 4 _ 1 Try.underlying69 infoBool rfl _ _ rfl (HO.out.alloc _) _ 1 _ _ rfl (Rd.one wr 4 _) (by simp [Value.oneCell']) (by omega) HL.out ?_))
      intro v' w1 o1 g1 a1
      have f1 : Fresh w w1 := (HF.out.alloc _).grown g1 (fun kk hkk hlt => by have := HOB.out kk hkk; omega)
      have b1 : ∀ kk, v'.ownBlock = some kk → w.heap.size ≤ kk := own_S (S := fun kk => w.heap.size ≤ kk) a1 HOB.out (by have := HF.out.size; simp; omega)
      have O1 := hide o1
      have F1 := hide f1
      have B1 := hide b1
      clear o1 g1 a1 f1 b1
      go_wp2_with fail
      go_roundg (gk - 1)
      case measure => have := HK.out; omega
      case rel =>
        refine ⟨k + 1, by have := HK.out; omega, by rw [HD.out]; go_num, by go_num, ?_, F1.out, B1.out⟩
        rw [HS.out, bools_append]
        have h := O1.out
        have e : ((x : Int) % 2 == 1) = (x % 2 == 1) := by rw [Bool.eq_iff_iff]; simp; omega
        simpa [bools, e] using h
    · obtain rfl : k = n := by have := HK.out; omega
      go_wp2_with fail
      try go_ret
      exact hR.out _ _ ⟨_, rfl, HO.out, HF.out, HOB.out⟩

end Go.Proofs.Ytcdbfddoanigbaa

/-
  The reference of descriptions: least, number, Bits.
  Conditions: none beyond those of each theorem.
-/
namespace Go.Proofs.Ytcdbfddoanigbaa
open Go.RowKit
set_option linter.unusedVariables false
set_option linter.unusedSimpArgs false

theorem cutB_eq {m b : Nat} (h0 : m ≠ 0) (hm : m < 2 ^ 64) (h1 : 2 ^ b ≤ m) (h2 : m < 2 ^ (b + 1)) : b = cutB m := by
  obtain ⟨c1, c2⟩ := cut_bounds m h0 hm
  have h3 : b < cutB m + 1 := (Nat.pow_lt_pow_iff_right (a := 2) (by omega)).1 (Nat.lt_of_le_of_lt h1 c2)
  have h4 : cutB m < b + 1 := (Nat.pow_lt_pow_iff_right (a := 2) (by omega)).1 (Nat.lt_of_le_of_lt c1 h2)
  omega

set_option maxHeartbeats 1000000 in
theorem least_any (m : Nat) (w : World) (h0 : 1 ≤ m) (h : m ≤ 600) :
    Calls Try.prog 76 #[.int .i64 m] w fun e w' => e = .returned (.int .i64 (cutB m)) ∧ w = w' := by
  have hsz := hide (fun b (hb : b ≤ 9) (W : World) => size_any b W hb)
  have hmI : (m : Int) ≤ 600 := by omega
  refine veil fun R hR => ?_
  go_enter Try.func76, Try.ntmps76
  go_wp2_with fail
  go_loopg [3] 10 (fun mm i wr => wr = w ∧ ∃ b : Nat, b + mm = 10 ∧ i = .int .i64 b ∧ 2 ^ b ≤ m)
  case atStart => exact ⟨rfl, 0, by omega, rfl, by simpa using h0⟩
  case round =>
    obtain ⟨rfl, b, hb, rfl, hle⟩ := hrel
    have hb9 : b ≤ 9 := by
      rcases Nat.lt_or_ge b 10 with h | h
      · omega
      · have := Nat.pow_le_pow_right (n := 2) (by omega) h
        omega
    have hs := hsz.out b hb9 wr
    have HS := hide hs
    have HB := hide hb
    have hbI : (b : Int) ≤ 9 := by omega
    have hp : 2 ^ (b + 1) = 2 * 2 ^ b := by rw [Nat.pow_succ]; omega
    have hun := fun h2 => cutB_eq (m := m) (b := b) (by omega) (by omega) hle h2
    obtain ⟨q, hq⟩ : ∃ q, q = 2 ^ b := ⟨_, rfl⟩
    rw [← hq] at HS hle
    rw [hp, ← hq] at hun
    have HUN := hide hun
    have hqI : (q : Int) ≤ 600 := by omega
    have HQ := hide hq
    have HP := hide hp
    clear hs hb hun hq hp
    go_wp2_with fail
    refine HS.out.mono ?_
    rintro e w1 ⟨rfl, rfl⟩
    by_cases hlt : 2 * q ≤ m
    · have hltI : 2 * (q : Int) ≤ m := by omega
      go_wp2_with fail
      go_roundg (gk - 1)
      case measure => have := HB.out; omega
      case rel => exact ⟨rfl, b + 1, by have := HB.out; omega, by go_num, by rw [HP.out, ← HQ.out]; exact hlt⟩
    · have hltI : (m : Int) < 2 * q := by omega
      go_wp2_with fail
      try go_ret
      exact hR.out _ _ ⟨by rw [← HUN.out (by omega)]; rfl, rfl⟩

set_option maxRecDepth 100000 in
set_option maxHeartbeats 1000000 in
theorem rnumber11_any (n m : Nat) (w : World) (h0 : 1 ≤ m) (h : m ≤ 600) (hn : n < m) :
    Calls Try.prog 59 #[.int .i64 n, .int .i64 m] w fun e w' => ∃ s, e = .returned s ∧ NewBits w w' s (numBits n m) := by
  have hl := least_any m w h0 h
  have hb9 : cutB m ≤ 9 := by have := cutB_le m 10 (by omega) (by omega) (by omega); omega
  have hsz := size_any (cutB m) w hb9
  have hdef : numBits n m = if n < cutU m then bitsB (cutB m) n else bitsB (cutB m) ((n + cutU m) / 2) ++ bitsB 1 (n + cutU m) := rfl
  have hu : cutU m = 2 ^ (cutB m + 1) - m := rfl
  have hc := (cut_bounds m (by omega) (by omega)).2
  rw [Nat.pow_succ] at hu hc
  obtain ⟨nb, hnb⟩ : ∃ nb, nb = numBits n m := ⟨_, rfl⟩
  rw [← hnb] at hdef ⊢
  clear hnb
  generalize cutU m = u at *
  generalize cutB m = b at *
  have hp9 : 2 ^ b ≤ 512 := Nat.le_trans (Nat.pow_le_pow_right (n := 2) (by omega) hb9) (by decide)
  generalize 2 ^ b = q at *
  have hqI : (q : Int) ≤ 512 := by omega
  have huv : 2 * (q : Int) - m = u := by omega
  have hbI : (b : Int) ≤ 9 := by omega
  have HL := hide hl
  have HSZ := hide hsz
  have H := hide hdef
  have hb1 := fun v W (hv : v < 2 ^ 64) => rbits_any v b W (by omega) hv
  have HB := hide hb1
  have hmI : (m : Int) ≤ 600 := by omega
  have hnI : (n : Int) ≤ 600 := by omega
  have huI : (u : Int) ≤ 1024 := by omega
  clear hl hsz hdef hu hc hb1
  refine veil fun R hR => ?_
  by_cases hlt : n < u
  · have hltI : (n : Int) < u := by omega
    have hH := H.out
    rw [if_pos hlt] at hH
    subst hH
    clear H
    go_enter Try.func59, Try.ntmps59
    go_wp2_with fail
    refine HL.out.mono ?_
    rintro e w1 ⟨rfl, rfl⟩
    go_wp2_with fail
    refine HSZ.out.mono ?_
    rintro e w1 ⟨rfl, rfl⟩
    go_wp2_with fail
    refine (HB.out n _ (by omega)).mono ?_
    rintro e w1 ⟨s, rfl, o1⟩
    have O1 := hide o1
    clear o1
    go_wp2_with fail
    try go_ret
    exact hR.out _ _ ⟨s, rfl, O1.out⟩
  · have hltI : (u : Int) ≤ n := by omega
    have hH := H.out
    rw [if_neg hlt] at hH
    subst hH
    clear H
    have e2 : ((n : Int) + u) / 2 = (((n + u) / 2 : Nat) : Int) := by omega
    have E2 := hide e2
    have e3 : (((n : Int) + u) % 2 == 1) = ((n + u) % 2 == 1) := by rw [Bool.eq_iff_iff]; simp; omega
    have E3 := hide e3
    clear e2 e3
    go_enter Try.func59, Try.ntmps59
    go_wp2_with fail
    refine HL.out.mono ?_
    rintro e w1 ⟨rfl, rfl⟩
    go_wp2_with fail
    refine HSZ.out.mono ?_
    rintro e w1 ⟨rfl, rfl⟩
    go_wp2_with fail
    rw [E2.out]
    refine (HB.out _ _ (by omega)).mono ?_
    rintro e w1 ⟨s, rfl, o1, f1, k1⟩
    have hlen : (bools (bitsB b ((n + u) / 2))).length + 1 ≤ 2 ^ 40 := by simp; omega
    have O1 := hide o1
    have F1 := hide f1
    have K1 := hide k1
    have HLEN := hide hlen
    clear o1 f1 k1 hlen
    go_wp2_with (at_builtin; go_must (refine wpList_app _ rfl (.tmp 27) (.tmp 33) _ rfl 4 _ 1 Try.underlying69 infoBool rfl _ _ rfl (O1.out.alloc _) _ 1 _ _ rfl (Rd.one w1 4 _) (by simp [Value.oneCell']) (by omega) HLEN.out ?_))
    intro v' w2 o2 g2 a2
    have f2 : Fresh w w2 := (F1.out.alloc _).grown g2 (fun kk hkk hlt => by have := K1.out kk hkk; omega)
    have b2 : ∀ kk, v'.ownBlock = some kk → w.heap.size ≤ kk := own_S (S := fun kk => w.heap.size ≤ kk) a2 K1.out (by have := F1.out.size; simp; omega)
    have O2 := hide o2
    have F2 := hide f2
    have B2 := hide b2
    clear o2 g2 a2 f2 b2
    go_wp2_with fail
    try go_ret
    refine hR.out _ _ ⟨v', rfl, ?_, F2.out, B2.out⟩
    have hx := O2.out
    rw [bools_append]
    simpa [bools, bitsB, E3.out] using hx

end Go.Proofs.Ytcdbfddoanigbaa

/-
  The reference of descriptions: Bits.
  Conditions: none beyond those of each theorem.
-/
namespace Go.Proofs.Ytcdbfddoanigbaa
open Go.RowKit
set_option linter.unusedVariables false
set_option linter.unusedSimpArgs false

/-- k norms have been told, L states are left, the bits so far are cur -/
def BSt (N : List Int) (D : List Bool) (k L : Nat) (cur : List Bool) : Prop := D = cur ++ normBits L 0 (N.drop k) ∧ sumZ (N.drop k) = L ∧ L ≤ 512

theorem BSt.start {p : Nat} {N : List Int} (hv : Valid p N 256 9) : BSt N (descBits p N) 0 (2 ^ p) (bitsB 4 (p - 1)) := by
  refine ⟨rfl, ?_, ?_⟩
  · rw [List.drop_zero, hv.2.2.2.2.2.2.2]; simp
  · exact pow_le_512 (by have := hv.2.2.1; omega)

theorem BSt.bound {N : List Int} {D cur : List Bool} {k L : Nat} (h : BSt N D k L cur) (hall : ∀ n ∈ N, -1 ≤ n) {z : Int} (hz : N[k]? = some z) : -1 ≤ z ∧ z ≤ L ∧ (absZ z : Int) ≤ L := by
  obtain ⟨_, h2, _⟩ := h
  have hk := (List.getElem?_eq_some_iff.1 hz).1
  have e : N.drop k = z :: N.drop (k + 1) := by
    rw [List.drop_eq_getElem_cons hk]; congr 1
    rw [List.getElem?_eq_getElem hk] at hz; injection hz
  rw [e, sumZ_cons] at h2
  have h3 := sumZ_nonneg (N.drop (k + 1))
  have h4 := hall z (List.mem_of_getElem? hz)
  have h5 : absZ z = if z < 0 then -z else z := rfl
  split at h5 <;> omega

theorem BSt.ne {N : List Int} {D cur : List Bool} {k L : Nat} (h : BSt N D k L cur) (hall : ∀ n ∈ N, -1 ≤ n) {z : Int} (hz : N[k]? = some z) (hn : z ≠ 0) :
    BSt N D (k + 1) (L - z.natAbs) (cur ++ numBits (z + 1).toNat (L + 2)) := by
  have hb := h.bound hall hz
  obtain ⟨h1, h2, h3⟩ := h
  have hk := (List.getElem?_eq_some_iff.1 hz).1
  have e : N.drop k = z :: N.drop (k + 1) := by
    rw [List.drop_eq_getElem_cons hk]; congr 1
    rw [List.getElem?_eq_getElem hk] at hz; injection hz
  rw [e] at h1 h2
  rw [normBits_ne _ _ _ hn] at h1
  rw [sumZ_cons] at h2
  refine ⟨by rw [h1, List.append_assoc], ?_, by omega⟩
  have h5 : absZ z = if z < 0 then -z else z := rfl
  split at h5 <;> omega

theorem BSt.zero {N : List Int} {D cur : List Bool} {k L : Nat} (h : BSt N D k L cur) (hlast : N[N.length - 1]? ≠ some 0) (hz : N[k]? = some 0) :
    k + 1 + zerosOf (N.drop (k + 1)) < N.length ∧ BSt N D (k + 1 + zerosOf (N.drop (k + 1))) L (cur ++ numBits 1 (L + 2) ++ runBits (zerosOf (N.drop (k + 1)))) := by
  obtain ⟨h1, h2, h3⟩ := h
  have hk := (List.getElem?_eq_some_iff.1 hz).1
  have e : N.drop k = 0 :: N.drop (k + 1) := by
    rw [List.drop_eq_getElem_cons hk]; congr 1
    rw [List.getElem?_eq_getElem hk] at hz; injection hz
  rw [e] at h1 h2
  rw [normBits_zero, normBits_skip _ _ _ (zerosOf_le _), List.drop_drop] at h1
  rw [sumZ_cons, sumZ_zeros, List.drop_drop] at h2
  refine ⟨zeros_lt N k N.length rfl hk hz hlast, ?_, ?_, h3⟩
  · rw [h1]; simp only [List.append_assoc]
  · rw [← h2]; simp [absZ]

set_option maxRecDepth 100000 in
set_option maxHeartbeats 4000000 in
theorem rbits11_any (F : Nat → Prop) (A : Option Addr) (n c : Nat) (p : Nat) (N : List Int) (w : World) (hr : Rd w F A n (ints N)) (hv : Valid (p : Int) N 256 9) (hp : p ≠ 0) :
    Calls Try.prog 30 #[.agg #[.int .i64 p, .slice A n c]] w fun e w' => ∃ s, e = .returned s ∧ NewBits w w' s (descBits p N) := by
  have hN : N.length = n := by have := hr.1; simpa using this
  have hst := BSt.start hv
  have hall := hv.2.2.2.2.2.2.1
  have hlast := hv.2.2.2.2.2.1
  have h9 : p ≤ 9 := by have := hv.2.2.1; omega
  have h256 : n ≤ 256 := by have := hv.2.2.2.2.1; omega
  have hnI : (n : Int) ≤ 256 := by omega
  have hpI : (p : Int) ≤ 9 := by omega
  have hp0 : 1 ≤ (p : Int) := by omega
  obtain ⟨w0, hw0⟩ : ∃ w0, w0 = w.alloc (.cells #[.int .i64 p, .slice A n c] 26) := ⟨_, rfl⟩
  obtain ⟨H, hH⟩ : ∃ H, H = w.heap.size := ⟨_, rfl⟩
  have fr0 : Fresh w w0 := by rw [hw0]; exact (Upd.refl _ _).alloc _
  have b0 : Blk w0 H 26 #[.int .i64 p, .slice A n c] := by rw [hw0]; exact blk_new hH _ _
  have HR := hide (hr.fresh fr0)
  have hb1 := rbits_any (p - 1) 4 w0 (by omega) (by omega)
  have hs1 := fun W => size_any p W h9
  rw [show ((p - 1 : Nat) : Int) = (p : Int) - 1 by omega] at hb1
  have HB1 := hide hb1
  have HS1 := hide hs1
  have hw1 : IntKind.u64.wrap ((p : Int) - 1) = (p : Int) - 1 := by rw [IntKind.wrap_u64]; omega
  have c00 := b0.cell 0
  have c01 := b0.cell 1
  simp at c00 c01
  obtain ⟨D, hD⟩ : ∃ D, D = descBits p N := ⟨_, rfl⟩
  have hDl : D.length ≤ 4000 := by have := descBits_length p N h9; rw [hD]; omega
  rw [← hD] at hst ⊢
  have HST := hide hst
  have HALL := hide hall
  have HLAST := hide hlast
  have HN := hide hN
  have FR0 := hide fr0
  have HB0 := hide b0
  have HW := hide hw0
  have HH := hide hH
  have HDL := hide hDl
  clear hr hst hall hlast hN fr0 b0 hw0 hH hv hD hb1 hs1 hp hDl
  refine veil fun R hR => ?_
  go_enter Try.func30, Try.ntmps30
  go_wp2_with fail
  simp only [← HH.out, ← HW.out]
  go_wp2_with fail
  refine HB1.out.mono ?_
  rintro e w1 ⟨s1, rfl, o1, f1, k1⟩
  have b1 := HB0.out.fresh f1
  have c10 := b1.cell 0
  have c11 := b1.cell 1
  simp at c10 c11
  have O1 := hide o1
  have F1 := hide f1
  have K1 := hide k1
  clear o1 f1 k1 b1 c00 c01 HB1
  go_wp2_with fail
  refine (HS1.out _).mono ?_
  rintro e w2 ⟨rfl, rfl⟩
  clear c10 c11
  go_wp2_with fail
  go_loopg [3, 4, 5] n (fun m s l i wr => ∃ (k L : Nat) (cur : List Bool), k + m = n ∧ i = .int .i64 k ∧ l = .int .i64 L ∧ BSt N D k L cur ∧ NewBits w0 wr s cur)
  case atStart => exact ⟨0, 2 ^ p, _, by omega, rfl, rfl, HST.out, O1.out, F1.out, K1.out⟩
  case round =>
    obtain ⟨k, L, cur, hk, rfl, rfl, hs, ho, hf, hob⟩ := hrel
    have bt := HB0.out.fresh hf
    have c0 := bt.cell 1
    simp at c0
    have hcl : cur.length ≤ 4000 := by have := hs.1; have h2 := HDL.out; rw [this] at h2; simp at h2; omega
    have HK := hide hk
    have HS := hide hs
    have HO := hide ho
    have HF := hide hf
    have HOB := hide hob
    have hL5 := hs.2.2
    have hL5I : (L : Int) ≤ 512 := by omega
    clear hk hs ho hf hob bt
    by_cases hlt : k < n
    · have hltI : (k : Int) < n := by omega
      obtain ⟨b, o, hkl, rfl, hb, hc⟩ := (HR.out.fresh HF.out).int (k := k) hlt
      obtain ⟨z, hz⟩ : ∃ z, N[k]? = some z := ⟨_, List.getElem?_eq_getElem hkl⟩
      have hz' : N[k] = z := by rw [List.getElem?_eq_getElem hkl] at hz; injection hz
      rw [hz'] at hc
      have hbd := HS.out.bound HALL.out hz
      have hnum := rnumber11_any (z + 1).toNat (L + 2) wr (by omega) (by omega) (by omega)
      rw [show (((z + 1).toNat : Nat) : Int) = z + 1 by omega, show ((L + 2 : Nat) : Int) = (L : Int) + 2 by omega] at hnum
      have hnl := numBits_length (z + 1).toNat (L + 2)
      have hcb := cutB_le (L + 2) 10 (by omega) (by omega) (by omega)
      have HNUM := hide hnum
      have HZ := hide hz
      have hz1 : -1 ≤ z := hbd.1
      have hz2 : z ≤ L := hbd.2.1
      have hz3 : absZ z ≤ L := hbd.2.2
      have hNL : N.length = n := HN.out
      clear hnum hz hz' hbd hkl
      go_wp2_with fail
      refine HNUM.out.mono ?_
      rintro e w2 ⟨s2, rfl, o2, f2, k2⟩
      obtain ⟨A2, n2, c2, rfl, hn2⟩ := o2.form'
      have hrd2 := (o2.rd rfl).2.2
      rw [← hn2.out] at hrd2
      have O2 := hide (HO.out.fresh f2)
      have RD2 := hide hrd2
      have hlen : (bools cur).length + n2 ≤ 2 ^ 40 := by have := hn2.out; simp at this ⊢; omega
      have HLEN := hide hlen
      have F2 := hide (HF.out.trans' f2)
      clear o2 f2 k2 hn2 hrd2 hlen HNUM hnl hcb
      go_wp2_with (at_builtin; go_must (refine wpList_app _ rfl (.tmp 22) (.tmp 31) _ rfl 4 _ 1 Try.underlying69 infoBool rfl _ _ rfl O2.out _ n2 _ _ rfl RD2.out (bools_one _) (by omega) HLEN.out ?_))
      intro v3 w3 o3 g3 a3
      have f3 : Fresh w0 w3 := F2.out.grown g3 (fun kk hkk hlt => by have := HOB.out kk hkk; omega)
      have b3 : ∀ kk, v3.ownBlock = some kk → w0.heap.size ≤ kk := own_S (S := fun kk => w0.heap.size ≤ kk) a3 HOB.out (by have := F2.out.size; exact this)
      rw [← bools_append] at o3
      have bt3 := HB0.out.fresh f3
      have d0 := bt3.cell 1
      simp at d0
      obtain ⟨b', o', _, he, hb', hc3⟩ := (HR.out.fresh f3).int (k := k) hlt
      injection he with he
      injection he with he1 he2
      subst he1 he2
      have hzz : N[k] = z := by have h := HZ.out; rw [List.getElem?_eq_getElem (by omega)] at h; injection h
      rw [hzz] at hc3
      have hsta := states_any z w3
      have ha : (if z = -1 then 1 else z) = absZ z := by
        unfold absZ
        by_cases h : z = -1
        · subst h; rfl
        · rw [if_neg h, if_neg (by omega)]
      rw [ha] at hsta
      have HSTA := hide hsta
      have hab : absZ z = (z.natAbs : Int) := by unfold absZ; split <;> omega
      have hab0 := absZ_nonneg z
      have HAB := hide hab
      have hsub : (L : Int) - absZ z = ((L - z.natAbs : Nat) : Int) := by omega
      have HSUB := hide hsub
      obtain ⟨q, hq⟩ : ∃ q, q = absZ z := ⟨_, rfl⟩
      rw [← hq] at HSTA hz3 hab0 HSUB
      have hq512 : q ≤ 512 := by omega
      have O3 := hide o3
      have F3 := hide f3
      have B3 := hide b3
      clear o3 g3 a3 f3 b3 bt3 hb' hc hb hzz hsta ha hab hsub hq c0
      go_wp2_with fail
      refine (HSTA.out).mono ?_
      rintro e w4 ⟨rfl, rfl⟩
      by_cases hz0 : z = 0
      · subst hz0
        obtain ⟨hzl, hzs⟩ := HS.out.zero (by exact HLAST.out) HZ.out
        obtain ⟨zc, hzc⟩ : ∃ zc, zc = zerosOf (N.drop (k + 1)) := ⟨_, rfl⟩
        rw [← hzc] at hzl hzs
        have HZS := hide hzs
        have HZC := hide hzc
        have hzlI : (k : Int) + 1 + zc < n := by omega
        clear hzs hzc
        have O3' := hide (show Own w3 4 v3 (bools (cur ++ numBits 1 (L + 2))) from O3.out)
        have bt4 := HB0.out.fresh F3.out
        have e0 := bt4.cell 1
        simp at e0
        have hkn : k < n := hlt
        clear bt4 O3 HSTA d0 hlt
        go_wp2_with fail
        go_loopg [5, 6] zc (fun m i nn wr => wr = w3 ∧ ∃ j : Nat, j + m = zc ∧ i = .int .i64 (k + j : Nat) ∧ nn = .int .i64 j)
        case atStart => exact ⟨rfl, 0, by omega, rfl, rfl⟩
        case round =>
          obtain ⟨rfl, j, hj, rfl, rfl⟩ := hrel
          have HJ := hide hj
          have hjz : j ≤ zc := by omega
          clear hj
          obtain ⟨b5, o5, hk5, he5, hb5, hc5⟩ := (HR.out.fresh F3.out).int (k := k + j + 1) (by omega)
          injection he5 with he5
          injection he5 with h51 h52
          subst h51 h52
          have hg5 : N[k + j + 1]? = some N[k + j + 1] := List.getElem?_eq_getElem hk5
          have hkj : ((k + j : Nat) : Int) + 1 < n := by omega
          have hkj0 : ((k + j : Nat) : Int) ≤ 256 := by omega
          by_cases hjl : j < zc
          · have h0 := zerosOf_get (N.drop (k + 1)) j (by rw [← HZC.out]; exact hjl)
            rw [List.getElem?_drop, show k + 1 + j = k + j + 1 by omega, hg5] at h0
            injection h0 with h0
            rw [h0] at hc5
            clear hg5 h0 hk5
            go_wp2_with fail
            go_roundg (gk - 1)
            case measure => have := HJ.out; omega
            case rel => exact ⟨rfl, j + 1, by have := HJ.out; omega, by congr 1, by go_num⟩
          · obtain rfl : j = zc := by omega
            have h0 := zerosOf_stop (N.drop (k + 1))
            rw [← HZC.out, List.getElem?_drop, show k + 1 + j = k + j + 1 by omega, hg5] at h0
            obtain ⟨z5, hz5⟩ : ∃ z5, z5 = N[k + j + 1] := ⟨_, rfl⟩
            rw [← hz5] at hc5 h0
            have hz50 : (z5 == 0) = false := by simpa using h0
            clear hg5 h0 hk5 hz5
            go_wp2_with fail
            go_loopg [3, 6] (j / 3) (fun m s nn wr => ∃ t : Nat, t + m = j / 3 ∧ nn = .int .i64 (j - 3 * t : Nat) ∧ NewBits w0 wr s (cur ++ numBits 1 (L + 2) ++ runPart t))
            case atStart => exact ⟨0, by omega, rfl, by simpa [runPart] using O3'.out, F3.out, B3.out⟩
            case round =>
              obtain ⟨t, ht, rfl, ho, hf, hob⟩ := hrel
              have hcl2 : (cur ++ numBits 1 (L + 2) ++ runPart t).length ≤ 5000 := by
                have h1 := numBits_length 1 (L + 2)
                have h2 := cutB_le (L + 2) 10 (by omega) (by omega) (by omega)
                rw [List.length_append, List.length_append, runPart_length]
                omega
              have HT := hide ht
              have HO4 := hide ho
              have HF4 := hide hf
              have HOB4 := hide hob
              clear ht ho hf hob
              by_cases h3 : 3 ≤ j - 3 * t
              · have h3I : (3 : Int) ≤ ((j - 3 * t : Nat) : Int) := by omega
                have h3J : ((j - 3 * t : Nat) : Int) ≤ 256 := by omega
                have hnx : ((j - 3 * t : Nat) : Int) - 3 = ((j - 3 * (t + 1) : Nat) : Int) := by omega
                have HNX := hide hnx
                have hlen : (bools (cur ++ numBits 1 (L + 2) ++ runPart t)).length + 2 ≤ 2 ^ 40 := by rw [bools_length]; omega
                have HLEN := hide hlen
                have hnb := Blk.new wr 4 #[.bool true, .bool true]
                have hrd4 := hnb.rds
                have RD4 := hide hrd4
                clear hnx hlen hnb hrd4
                go_wp2_with (at_builtin; go_must (refine wpList_app _ rfl (.tmp 62) (.tmp 63) _ rfl 4 _ 1 Try.underlying69 infoBool rfl _ _ rfl (HO4.out.alloc _) _ 2 _ _ rfl RD4.out (by simp [Value.oneCell']) (by omega) HLEN.out ?_))
                intro v5 w5 o5' g5 a5
                have f5 : Fresh w0 w5 := (HF4.out.alloc _).grown g5 (fun kk hkk hlt => by have := HOB4.out kk hkk; omega)
                have b5' : ∀ kk, v5.ownBlock = some kk → w0.heap.size ≤ kk := own_S (S := fun kk => w0.heap.size ≤ kk) a5 HOB4.out (by have := HF4.out.size; simp; omega)
                have O5 := hide o5'
                have F5 := hide f5
                have B5 := hide b5'
                clear o5' g5 a5 f5 b5'
                go_wp2_with fail
                go_roundg (gk - 1)
                case measure => have := HT.out; omega
                case rel =>
                  refine ⟨t + 1, by have := HT.out; omega, by rw [HNX.out], ?_, F5.out, B5.out⟩
                  rw [runPart_succ]
                  have h := O5.out
                  simpa [bools, bitsB] using h
              · have h3I : ((j - 3 * t : Nat) : Int) < 3 := by omega
                have hre := runPart_end j t (by have := HT.out; omega) (by omega)
                have hbb := rbits_any (j - 3 * t) 2 wr (by omega) (by omega)
                have HBB := hide hbb
                have HRE := hide hre
                clear hbb hre
                go_wp2_with fail
                refine HBB.out.mono ?_
                rintro e w5 ⟨s5, rfl, o5', f5, k5⟩
                obtain ⟨A5, n5, c5, rfl, hn5⟩ := o5'.form'
                have hrd5 := (o5'.rd rfl).2.2
                rw [← hn5.out] at hrd5
                have O5 := hide (HO4.out.fresh f5)
                have RD5 := hide hrd5
                have hlen : (bools (cur ++ numBits 1 (L + 2) ++ runPart t)).length + n5 ≤ 2 ^ 40 := by have := hn5.out; rw [bools_length] at this ⊢; simp only [bitsB_length] at this; omega
                have HLEN := hide hlen
                have F5 := hide (HF4.out.trans' f5)
                clear o5' f5 k5 hn5 hrd5 hlen HBB
                go_wp2_with (at_builtin; go_must (refine wpList_app _ rfl (.tmp 65) (.tmp 68) _ rfl 4 _ 1 Try.underlying69 infoBool rfl _ _ rfl O5.out _ n5 _ _ rfl RD5.out (bools_one _) (by omega) HLEN.out ?_))
                intro v6 w6 o6 g6 a6
                have f6 : Fresh w0 w6 := F5.out.grown g6 (fun kk hkk hlt => by have := HOB4.out kk hkk; omega)
                have b6 : ∀ kk, v6.ownBlock = some kk → w0.heap.size ≤ kk := own_S (S := fun kk => w0.heap.size ≤ kk) a6 HOB4.out (by have := F5.out.size; exact this)
                have e6 : bools (cur ++ (numBits 1 (L + 2) ++ runPart t)) ++ bools (bitsB 2 (j - 3 * t)) = bools (cur ++ numBits 1 (L + 2) ++ runBits j) := by rw [HRE.out]; simp [bools]
                rw [e6] at o6
                clear e6
                have O6 := hide o6
                have F6 := hide f6
                have B6 := hide b6
                clear o6 g6 a6 f6 b6
                go_wp2_with fail
                go_roundg (n - (k + j + 1))
                case measure => have := HK.out; omega
                case rel => exact ⟨k + 1 + j, L, _, by omega, by congr 1; omega, by congr 1, HZS.out, O6.out, F6.out, B6.out⟩
      · have hz0' : (z != 0) = true := by simpa using hz0
        have hne := HS.out.ne HALL.out HZ.out hz0
        have HNE := hide hne
        clear hne
        go_wp2_with fail
        go_roundg (gk - 1)
        case measure => have := HK.out; omega
        case rel => exact ⟨k + 1, L - z.natAbs, _, by have := HK.out; omega, by go_num, by rw [← HSUB.out], HNE.out, O3.out, F3.out, B3.out⟩
    · obtain rfl : k = n := by have := HK.out; omega
      have e : D = cur := by
        have h1 := HS.out.1
        rw [List.drop_of_length_le (by have := HN.out; omega)] at h1
        simpa [normBits] using h1
      subst e
      go_wp2_with fail
      try go_ret
      exact hR.out _ _ ⟨_, rfl, HO.out, FR0.out.trans' HF.out, fun kk hkk => Nat.le_trans FR0.out.size (HOB.out kk hkk)⟩

end Go.Proofs.Ytcdbfddoanigbaa
