/-
  Joined texts, part 10: contracts and plain lemmas, each under its own heading below.
  Conditions: none beyond those of each theorem.
-/
import Derived.Test.YtcdbfddoanigbaaGreatShelf
import Derived.Test.YtcdbfddoanigbaaGreatJ4
import Derived.Test.YtcdbfddoanigbaaGreatJ2
import Derived.Test.YtcdbfddoanigbaaGreatJ7
import Derived.Test.YtcdbfddoanigbaaGreatJ3
/-
  Package desc, the writing side: Encode and BitLen.
  Conditions: none beyond those of each theorem.
-/
namespace Go.Proofs.YtcdbfddoanigbaaGreat
open Go.RowKit

theorem wrap64_pow (p : Nat) (h : p ≤ 9) : wrap64 (2 ^ p) = ((2 ^ p : Nat) : Int) := by
  have hpow : 2 ^ p ≤ 512 := Nat.le_trans (Nat.pow_le_pow_right (n := 2) (by omega) h) (by decide)
  obtain ⟨q, hq⟩ : ∃ q : Nat, q = 2 ^ p := ⟨_, rfl⟩
  have hq5 : q ≤ 512 := by rw [hq]; exact hpow
  rw [show (2 : Int) ^ p = (q : Int) by rw [hq]; simp, ← hq]
  unfold wrap64
  omega

set_option maxRecDepth 100000 in
set_option maxHeartbeats 1000000 in
theorem cut_any (m : Nat) (w : World) (h0 : 1 ≤ m) (h : m ≤ 100000) :
    Calls Tryz.prog 106 #[.int .i64 m] w fun e w' => e = .returned (.tuple #[.int .i64 (cutB m), .int .i64 (cutU m)]) ∧ ∃ k, w' = w.drewN k := by
  have hb := bitLen_pos m (by omega) (by omega)
  have hc := cut_bounds m (by omega) (by omega)
  have hlt := cutB_le m 17 (by omega) (by omega) (by omega)
  have hB : Lib.bitLen (m : Int).toNat = cutB m + 1 := by rw [Int.toNat_natCast]; unfold cutB; omega
  have hU : wrap64 (wrap64 ((2 : Int) * 2 ^ (cutB m)) - m) = (cutU m : Int) := by
    have h2 : 2 ^ cutB m ≤ 2 ^ 16 := Nat.pow_le_pow_right (by omega) (by omega)
    rw [show (2 : Int) * 2 ^ (cutB m) = ((2 ^ (cutB m + 1) : Nat) : Int) by simp [Int.pow_succ, Int.mul_comm]]
    unfold cutU wrap64
    rw [Nat.pow_succ] at *
    omega
  generalize cutU m = u at *
  generalize cutB m = b at *
  have HB := hide hB
  have HU := hide hU
  clear hB hU hc hb
  refine veil fun R hR => ?_
  go_enter Tryz.func106, Tryz.ntmps106
  go_wp2_with (go_at_call 35; refine (Tryz.bits_Len (m : Int) w (by omega) (by omega)).mono ?_; rintro e w' ⟨rfl, hw⟩; have hw := hw.symm; subst hw; rw [HB.out])
  go_quiet (fail)
  go_wp2
  try go_ret2
  refine hR.out _ _ ⟨?_, _, rfl⟩
  show Ending.returned (.tuple #[.int .i64 b, .int .i64 (wrap64 (wrap64 (2 * 2 ^ b) - m))]) = _
  rw [HU.out]

set_option maxRecDepth 100000 in
set_option maxHeartbeats 1000000 in
theorem number_any (S : Nat → Prop) (g : Nat) (n m : Nat) (l : List Bool) (w : World) (hw : WriterAt w S g l) (h0 : 1 ≤ m) (h : m ≤ 100000) (hn : n < m) (hl : l.length + 50 ≤ 2 ^ 30) (hS : ∀ k, w.heap.size ≤ k → S k) :
    Calls Tryz.prog 102 #[.pointer (some ⟨g, 0, none⟩), .int .i64 n, .int .i64 m] w fun e w' => e = .returned (.tuple #[]) ∧
      Upd S w w' ∧ WriterAt w' S g (l ++ numBits n m) := by
  have hc := cut_bounds m (by omega) (by omega)
  have hlt := cutB_le m 17 (by omega) (by omega) (by omega)
  have hdef : numBits n m = if n < cutU m then bitsB (cutB m) n else bitsB (cutB m) ((n + cutU m) / 2) ++ bitsB 1 (n + cutU m) := rfl
  have hu : cutU m = 2 ^ (cutB m + 1) - m := rfl
  have hcut := cut_any m w h0 h
  have H := hide hdef
  have HC := hide hcut
  have HU := hide hu
  clear hdef hcut hu
  obtain ⟨nb, hnb⟩ : ∃ nb, nb = numBits n m := ⟨_, rfl⟩
  rw [← hnb] at H ⊢
  clear hnb
  generalize cutU m = u at *
  generalize cutB m = b at *
  have hu2 : u ≤ 2 ^ b := by have := HU.out; rw [Nat.pow_succ] at *; omega
  have hbn : n < u → n < 2 ^ b := by omega
  have hbn2 : ¬ n < u → (n + u) / 2 < 2 ^ b := by have := HU.out; rw [Nat.pow_succ] at *; omega
  have h17 : 2 ^ b ≤ 2 ^ 16 := Nat.pow_le_pow_right (by omega) (by omega)
  have HS := hide hS
  refine veil fun R hR => ?_
  clear hc hS
  by_cases hcs : n < u
  · have hx := hbn hcs
    have hH := H.out
    rw [if_pos hcs] at hH
    subst hH
    clear H hbn hbn2 hu2 h17
    have HX := hide hx
    clear hx
    go_enter Tryz.func102, Tryz.ntmps102
    go_wp2_with (go_at_call 106; refine HC.out.mono ?_; rintro e w' ⟨rfl, kk, rfl⟩)
    refine (put_any S g n b l _ (hw.drewN kk) (by omega) HX.out (by omega) HS.out).mono ?_
    rintro e w1 ⟨rfl, u1, hw1⟩
    go_wp2
    try go_end0
    exact hR.out _ _ ⟨rfl, ((Upd.refl S w).drewN kk).trans' u1, hw1⟩
  · have hx := hbn2 hcs
    have hH := H.out
    rw [if_neg hcs] at hH
    subst hH
    have hnu : n + u ≤ 300000 := by omega
    have e1 : bits .and .u64 ((n : Int) + u) 1 = (((n + u) % 2 : Nat) : Int) := by
      rw [show (n : Int) + u = ((n + u : Nat) : Int) by omega, show (1 : Int) = ((1 : Nat) : Int) from rfl, u64_and_nat _ _ (by omega) (by omega), nat_mask1]
    have e2 : ((n : Int) + u) / 2 = (((n + u) / 2 : Nat) : Int) := by omega
    have HX := hide hx
    have E1 := hide e1
    have E2 := hide e2
    clear hx H hbn hbn2 hu2 h17 e1 e2
    have hw0 := fun k => hw.drewN k
    have HW := hide hw0
    clear hw0 hw
    go_enter Tryz.func102, Tryz.ntmps102
    go_wp2_with (go_at_call 106; refine HC.out.mono ?_; rintro e w' ⟨rfl, kk, rfl⟩)
    try rw [E2.out]
    refine (put_any S g ((n + u) / 2) b l _ (HW.out kk) (by omega) HX.out (by omega) HS.out).mono ?_
    rintro e w1 ⟨rfl, u1, hw1⟩
    go_wp2_with fail
    try rw [E1.out]
    refine (put_any S g ((n + u) % 2) 1 _ _ hw1 (by omega) (by omega) (by simp; omega) (fun k hk => HS.out k (Nat.le_trans (by simpa using u1.size) hk))).mono ?_
    rintro e w2 ⟨rfl, u2, hw2⟩
    go_wp2
    try go_end0
    refine hR.out _ _ ⟨rfl, (((Upd.refl S w).drewN kk).trans' u1).trans' u2, ?_⟩
    rw [← List.append_assoc, ← bitsB_mod 1 (n + u)]
    simpa using hw2

end Go.Proofs.YtcdbfddoanigbaaGreat

/-
  Package desc, the writing side: put, Encode and BitLen.
  Conditions: none beyond those of each theorem.
-/
namespace Go.Proofs.YtcdbfddoanigbaaGreat
open Go.RowKit

set_option maxRecDepth 100000 in
set_option maxHeartbeats 1000000 in
theorem put_none (F : Nat → Prop) (A : Option Addr) (n c : Nat) (lg : Int) (N : List Int) (w : World) (hr : Rd w F A n (ints N)) (hfit : Fit N) (hn : (n : Int) ≤ 1099511627776)
    (hv : ¬ (Valid lg N 256 9 ∧ lg ≠ 0)) :
    Calls Tryz.prog 82 #[.agg #[.int .i64 lg, .slice A n c]] w fun e w' => e = .returned (.pointer none) ∧ Fresh w w' := by
  have hck := fun W hW => check_any F A n c lg 256 9 N W hW hfit hn
  have HK := hide hck
  clear hck
  have fr : ∀ o, Fresh w (w.alloc o) := fun o => (Upd.refl _ _).alloc o
  have FR := hide fr
  have hr1 : ∀ o, Rd (w.alloc o) F A n (ints N) := fun o => hr.alloc o
  have HR := hide hr1
  clear hr hr1 fr
  have hcs := (Blk.new w 25 #[.int .i64 lg, .slice A n c]).cells
  have HC := hide hcs
  clear hcs
  refine veil fun R hR => ?_
  by_cases h0 : Valid lg N 256 9
  · obtain rfl : lg = 0 := by
      by_cases h : lg = 0
      · exact h
      · exact absurd ⟨h0, h⟩ hv
    rw [if_pos h0] at HK
    clear hv h0
    go_enter Tryz.func82, Tryz.ntmps82
    go_wp2_with (first | go_step3 | (refine wpList_load_agg rfl 25 (.tmp 1) rfl w.heap.size 0 rfl [_, _] _ HC.out Tryz.underlying25 rfl (by kernel_rfl) ?_))
    refine (HK.out _ (HR.out _)).mono ?_
    rintro e w1 ⟨rfl, f1⟩
    have hc0 := f1.cells w.heap.size 0 (by simp)
    simp at hc0
    go_wp2
    try simp only [Exit.noGoto]
    try go_ret
    exact hR.out _ _ ⟨rfl, (FR.out _).trans' f1⟩
  · rw [if_neg h0] at HK
    clear hv h0
    go_enter Tryz.func82, Tryz.ntmps82
    go_wp2_with (first | go_step3 | (refine wpList_load_agg rfl 25 (.tmp 1) rfl w.heap.size 0 rfl [_, _] _ HC.out Tryz.underlying25 rfl (by kernel_rfl) ?_))
    refine (HK.out _ (HR.out _)).mono ?_
    rintro e w1 ⟨rfl, f1⟩
    go_wp2
    try simp only [Exit.noGoto]
    try go_ret
    exact hR.out _ _ ⟨rfl, (FR.out _).trans' f1⟩

set_option maxRecDepth 100000 in
set_option maxHeartbeats 1000000 in
theorem put_some (F : Nat → Prop) (A : Option Addr) (n c : Nat) (p : Nat) (N : List Int) (w : World) (hr : Rd w F A n (ints N)) (hfit : Fit N) (hn : (n : Int) ≤ 1099511627776)
    (hv : Valid (p : Int) N 256 9) (hp : p ≠ 0) :
    Calls Tryz.prog 82 #[.agg #[.int .i64 p, .slice A n c]] w fun e w' => ∃ g, e = .returned (.pointer (some ⟨g, 0, none⟩)) ∧ Fresh w w' ∧
      WriterAt w' (fun k => w.heap.size < k) g (descBits p N) := by
  have hck := fun W hW => check_any F A n c p 256 9 N W hW hfit hn
  simp only [if_pos hv] at hck
  have HK := hide hck
  clear hck
  have fr : ∀ o, Fresh w (w.alloc o) := fun o => (Upd.refl _ _).alloc o
  have FR := hide fr
  have hr1 : ∀ o, Rd (w.alloc o) F A n (ints N) := fun o => hr.alloc o
  have HR := hide hr1
  clear hr1 fr
  have HV := hide hv
  have hp9 : p ≤ 9 := by have := hv.2.2.1; omega
  have hpz : ((p : Int) == 0) = false := by simp [hp]
  have hv2 := hv.2.2.2.2.1
  clear hv
  have hcs := (Blk.new w 25 #[.int .i64 (p : Int), .slice A n c]).cells
  have HC := hide hcs
  clear hcs
  refine veil fun R hR => ?_
  go_enter Tryz.func82, Tryz.ntmps82
  go_wp2_with (first | go_step3 | (refine wpList_load_agg rfl 25 (.tmp 1) rfl w.heap.size 0 rfl [_, _] _ HC.out Tryz.underlying25 rfl (by kernel_rfl) ?_))
  refine (HK.out _ (HR.out _)).mono ?_
  rintro e w1 ⟨rfl, f1⟩
  have hc0 := f1.cells w.heap.size 0 (by simp)
  simp at hc0
  have hc1 := f1.cells w.heap.size 1 (by simp)
  simp at hc1
  have hz : w.heap.size < w1.heap.size := by have := f1.size; simp at this; omega
  go_wp2_with fail
  have hw0 : WriterAt (w1.alloc (.cells #[.int .u64 0, .int .i64 0, .slice none 0 0] 154)) (fun k => w.heap.size < k) w1.heap.size [] :=
    ⟨0, 0, _, [], Blk.new _ _ _, Own.nil _ _, by omega, by simp, by simp, rfl, hz, by simp [Value.ownBlock]⟩
  have hp4 : (p - 1) < 2 ^ 4 := by omega
  rw [show (p : Int) - 1 = ((p - 1 : Nat) : Int) by omega]
  refine (put_any (fun k => w.heap.size < k) w1.heap.size (p - 1) 4 [] _ hw0 (by omega) hp4 (by simp) (fun k hk => by simp at hk; omega)).mono ?_
  rintro e w2 ⟨rfl, u2, hw2⟩
  have hc0 : w2.cell? ⟨w.heap.size, 0, none⟩ = some (.int .i64 p) := by
    rw [u2.cell (p := ⟨w.heap.size, 0, none⟩) (by simp; omega) (by simp), World.cell?_alloc_lt _ _ _ (by simpa using hz)]; exact hc0
  have hc1 : w2.cell? ⟨w.heap.size, 1, none⟩ = some (.slice A n c) := by
    rw [u2.cell (p := ⟨w.heap.size, 1, none⟩) (by simp; omega) (by simp), World.cell?_alloc_lt _ _ _ (by simpa using hz)]; exact hc1
  have hr2 : Rd w2 (fun b => b < w.heap.size) A n (ints N) :=
    (((hr.old.alloc _).fresh f1).alloc _).upd u2 (fun b _ hb hb' => by omega)
  have f2 : Fresh w w2 := (((FR.out _).trans' f1).alloc _).trans u2 (fun b hb hb' => by omega)
  have hz2 : w.heap.size < w2.heap.size := by have := u2.size; simp at this; omega
  clear u2 f1 hw0 hz hr
  generalize w1.heap.size = g at *
  have hw2' : WriterAt w2 (fun k => w.heap.size < k) g (bitsB 4 (p - 1)) := by simpa using hw2
  clear hw2
  have HR2 := hide hr2
  have HF2 := hide f2
  have HW2 := hide hw2'
  clear hr2 f2 hw2'
  go_wp2_with go_step3
  have hpow : 2 ^ p ≤ 512 := Nat.le_trans (Nat.pow_le_pow_right (n := 2) (by omega) hp9) (by decide)
  have hl4 : Value.int .i64 (wrap64 (2 ^ p)) = .int .i64 ((2 ^ p : Nat) : Int) := by
    obtain ⟨q, hq⟩ : ∃ q : Nat, q = 2 ^ p := ⟨_, rfl⟩
    have hq5 : q ≤ 512 := by rw [hq]; exact hpow
    rw [show (2 : Int) ^ p = (q : Int) by rw [hq]; simp, ← hq, show wrap64 (q : Int) = (q : Int) by unfold wrap64; omega]
  have hN : N.length = n := by have := HR2.out.1; simpa using this
  rw [hN] at hv2
  have hn256 : n ≤ 256 := by have := hv2; omega
  have HN := hide hN
  have HL4 := hide hl4
  clear hN hl4
  go_loopg [4, 5, 31] n (fun m vl vr vi wr => ∃ k L s : Nat, k + m = n ∧ vi = .int .i64 k ∧ vl = .int .i64 L ∧ vr = .int .i64 s ∧ (L : Int) = sumZ (N.drop k) ∧ L ≤ 512 ∧ s ≤ zerosOf (N.drop k) ∧
    Upd (fun k => w.heap.size < k) w2 wr ∧ ∃ l0, WriterAt wr (fun k => w.heap.size < k) g l0 ∧ l0 ++ normBits L s (N.drop k) = descBits p N)
  case atStart =>
    refine ⟨0, 2 ^ p, 0, by omega, rfl, HL4.out, rfl, ?_, hpow, Nat.zero_le _, Upd.refl _ _, _, HW2.out, by simp [descBits]⟩
    have := HV.out.2.2.2.2.2.2.2
    simpa using this.symm
  case round =>
    obtain ⟨k, L, s, hk, rfl, rfl, rfl, hL, hL5, hs, hu, l0, hw, htot⟩ := hrel
    have hlen : l0.length ≤ 100000 := by
      have h1 := congrArg List.length htot
      have h2 := descBits_length p N hp9
      have h3 := HN.out
      rw [List.length_append] at h1
      omega
    have hk1 := Nat.le_of_eq hk
    have hk2 := Nat.le_of_eq hk.symm
    have HT := hide htot
    have HLs := hide hL
    have HU := hide hu
    have HW := hide hw
    have HS := hide hs
    clear hk htot hL hu hw hs
    by_cases hlt : k < n
    · have hkn : k < N.length := by have := HN.out; omega
      have hd := List.drop_eq_getElem_cons hkn
      have hfk := hfit N[k] (List.getElem_mem hkn)
      have hge := HV.out.2.2.2.2.2.2.1 N[k] (List.getElem_mem hkn)
      obtain ⟨b, o, _, rfl, hb, hc⟩ := (HR2.out.upd HU.out (fun b _ hb hb' => by omega)).int (k := k) hlt
      obtain ⟨z, hz⟩ : ∃ z, z = N[k] := ⟨_, rfl⟩
      rw [← hz] at hd hfk hge hc
      have HZK := hide hz
      clear hz
      have h1 := HLs.out
      have h2 := HT.out
      have h3 := HS.out
      rw [hd] at h1 h2 h3
      rw [sumZ_cons] at h1
      have hn0 := sumZ_nonneg (N.drop (k + 1))
      have hz1 : z ≤ L := by have : z ≤ absZ z := by unfold absZ; split <;> omega
                             omega
      have hza : (z.natAbs : Int) = absZ z := by unfold absZ; split <;> omega
      have hzn : z.natAbs ≤ L := by omega
      have H1 := hide h1
      have H2 := hide h2
      have H3 := hide h3
      have HZ := hide hza
      have hsb : (s : Int) ≤ 1099511627776 := by have := zerosOf_le (z :: N.drop (k + 1)); simp at this; have := HN.out; omega
      clear h1 h2 h3 hd hza hn0 HLs HT HS
      by_cases hs0 : 0 < s
      · have hz0 : z = 0 := by
          by_cases h : z = 0
          · exact h
          · have := H3.out; rw [zerosOf_cons_ne _ _ h] at this; omega
        subst hz0
        go_wp2
        go_roundg (gk - 1)
        case measure => omega
        case rel =>
          have h3 := H3.out
          rw [zerosOf_cons_zero] at h3
          have h2 := H2.out
          rw [show s = (s - 1) + 1 by omega] at h2
          exact ⟨k + 1, L, s - 1, by omega, by go_num, rfl, by congr 1; omega, by have := H1.out; simpa [absZ] using this, hL5, by omega, HU.out, l0, HW.out, h2⟩
      · obtain rfl : s = 0 := by omega
        go_wp2_with go_step3
        rw [show (z + 1 : Int) = ((z + 1).toNat : Int) by omega, show ((L : Int) + 2) = ((L + 2 : Nat) : Int) by omega]
        refine (number_any (fun k => w.heap.size < k) g (z + 1).toNat (L + 2) l0 wr HW.out (by omega) (by omega) (by omega) (by omega) (fun k hk => by have := HU.out.size; omega)).mono ?_
        rintro e w3 ⟨rfl, u3, hw3⟩
        have hc1' : w3.cell? ⟨w.heap.size, 1, none⟩ = some (.slice (some ⟨b, o, none⟩) n c) := by
          rw [(HU.out.trans' u3).cell (p := ⟨w.heap.size, 1, none⟩) (by simpa using hz2) (by simp)]; exact hc1
        have hr3 : Rd w3 (fun b => b < w.heap.size) (some ⟨b, o, none⟩) n (ints N) := HR2.out.upd (HU.out.trans' u3) (fun b _ hb hb' => by omega)
        have HR3 := hide hr3
        have HU3 := hide (HU.out.trans' u3)
        have HW3 := hide hw3
        have hlen3 : (l0 ++ numBits (z + 1).toNat (L + 2)).length ≤ 100030 := by
          have h1 := numBits_length (z + 1).toNat (L + 2)
          have h2 := cutB_le (L + 2) 10 (by omega) (by omega) (by omega)
          simp; omega
        clear hr3 u3 hw3 HW HU hc
        by_cases hz0 : z = 0
        · subst hz0
          have hzl := zeros_lt N k n HN.out hlt (by rw [List.getElem?_eq_getElem hkn]; exact congrArg some HZK.out.symm) (by have := HV.out.2.2.2.2.2.1; rw [HN.out] at this; exact this)
          obtain ⟨zs, hzs⟩ : ∃ zs, zs = zerosOf (N.drop (k + 1)) := ⟨_, rfl⟩
          rw [← hzs] at hzl
          have HZS := hide hzs
          clear hzs
          have hzl' : (k : Int) + 1 + zs < n := by omega
          go_wp2_with go_step3
          obtain ⟨k0, rfl⟩ : ∃ k0, k0 = gk := ⟨gk, rfl⟩
          obtain ⟨w0, rfl⟩ : ∃ w0, w0 = wr := ⟨wr, rfl⟩
          go_loopg [5] zs (fun m vr wr' => wr' = w3 ∧ ∃ s : Nat, s + m ≤ zs ∧ zs ≤ s + m ∧ vr = .int .i64 s)
          case atStart => exact ⟨rfl, 0, by omega, by omega, rfl⟩
          case round =>
            obtain ⟨hwr, s, hs1, hs2, rfl⟩ := hrel
            have hwr := hwr.symm
            subst hwr
            obtain ⟨b', o', _, e, hb', hc⟩ := HR3.out.int (k := k + 1 + s) (by omega)
            injection e with e
            injection e with e1 e2
            subst e1 e2
            by_cases hsz : s < zs
            · have hv : N[k + 1 + s] = 0 := by
                have := zerosOf_get (N.drop (k + 1)) s (by rw [← HZS.out]; exact hsz)
                rw [List.getElem?_drop, List.getElem?_eq_getElem (by assumption)] at this
                exact Option.some.inj this
              rw [hv] at hc
              clear hv
              go_wp2_with go_step3
              go_roundg (gk - 1)
              case measure => omega
              case rel => exact ⟨rfl, s + 1, by omega, by omega, by go_num⟩
            · obtain rfl : s = zs := by omega
              have hv : (N[k + 1 + s] == 0) = false := by
                have h1 := zerosOf_stop (N.drop (k + 1))
                rw [← HZS.out, List.getElem?_drop, List.getElem?_eq_getElem (by assumption)] at h1
                simpa using h1
              obtain ⟨y, hy⟩ : ∃ y, y = N[k + 1 + s] := ⟨_, rfl⟩
              rw [← hy] at hc hv
              clear hy hs1 hs2
              have hwz : WriterAt w3 (fun k => w.heap.size < k) g (l0 ++ numBits 1 (L + 2)) := HW3.out
              have hlz : (l0 ++ numBits 1 (L + 2)).length ≤ 100030 := hlen3
              obtain ⟨lz, hlz0⟩ : ∃ lz, lz = l0 ++ numBits 1 (L + 2) := ⟨_, rfl⟩
              rw [← hlz0] at hwz hlz
              have HLZ := hide hlz0
              have HWZ := hide hwz
              clear hlz0 hwz hlen3 HW3
              go_wp2_with go_step3
              go_loopg [8] (s + 3) (fun m vk wq => ∃ kk : Int, vk = .int .i64 kk ∧ -3 ≤ kk ∧ kk + 3 ≤ m ∧ m ≤ kk + 3 ∧ Upd (fun k => w.heap.size < k) w2 wq ∧
                ((0 ≤ kk ∧ ∃ j : Nat, kk + 3 * j ≤ s ∧ s ≤ kk + 3 * j ∧ WriterAt wq (fun k => w.heap.size < k) g (lz ++ runPart j)) ∨
                 (kk < 0 ∧ WriterAt wq (fun k => w.heap.size < k) g (lz ++ runBits s))))
              case atStart => exact ⟨s, rfl, by omega, by omega, by omega, HU3.out, .inl ⟨by omega, 0, by omega, by omega, by simpa [runPart] using HWZ.out⟩⟩
              case round =>
                obtain ⟨kk, rfl, hkk1, hkk2, hkk3, hu, hor⟩ := hrel
                have HU4 := hide hu
                clear hu
                by_cases hk0 : 0 ≤ kk
                · obtain ⟨j, hj1, hj2, hwq⟩ : ∃ j : Nat, kk + 3 * j ≤ s ∧ s ≤ kk + 3 * j ∧ WriterAt wr (fun k => w.heap.size < k) g (lz ++ runPart j) := by
                    rcases hor with ⟨_, h⟩ | ⟨h, _⟩
                    · exact h
                    · omega
                  have hwl : (lz ++ runPart j).length ≤ 2 ^ 30 := by rw [List.length_append, runPart_length]; omega
                  have HWL := hide hwl
                  have HWQ := hide hwq
                  clear hor hwq hwl
                  by_cases hk3 : 3 ≤ kk
                  · go_wp2_with go_step3
                    rw [show min kk 3 = ((3 : Nat) : Int) by omega]
                    refine (put_any (fun k => w.heap.size < k) g 3 2 _ wr HWQ.out (by omega) (by omega) HWL.out (fun k hk => by have := HU4.out.size; omega)).mono ?_
                    rintro e w4 ⟨rfl, u4, hw4⟩
                    rw [List.append_assoc, ← runPart_succ] at hw4
                    have HU5 := hide (HU4.out.trans' u4)
                    have HW4 := hide hw4
                    clear u4 hw4
                    go_wp2_with go_step3
                    go_roundg (gk - 3)
                    case measure => omega
                    case rel => exact ⟨kk - 3, by go_num, by omega, by omega, by omega, HU5.out, .inl ⟨by omega, j + 1, by omega, by omega, HW4.out⟩⟩
                  · go_wp2_with go_step3
                    rw [show min kk 3 = ((s - 3 * j : Nat) : Int) by omega]
                    refine (put_any (fun k => w.heap.size < k) g (s - 3 * j) 2 _ wr HWQ.out (by omega) (by omega) HWL.out (fun k hk => by have := HU4.out.size; omega)).mono ?_
                    rintro e w4 ⟨rfl, u4, hw4⟩
                    rw [List.append_assoc, ← runPart_end s j (by omega) (by omega)] at hw4
                    have HU5 := hide (HU4.out.trans' u4)
                    have HW4 := hide hw4
                    clear u4 hw4
                    go_wp2_with go_step3
                    go_roundg (gk - 3)
                    case measure => omega
                    case rel => exact ⟨kk - 3, by go_num, by omega, by omega, by omega, HU5.out, .inr ⟨by omega, HW4.out⟩⟩
                · have hwq : WriterAt wr (fun k => w.heap.size < k) g (lz ++ runBits s) := by
                    rcases hor with ⟨h, _⟩ | ⟨_, h⟩
                    · omega
                    · exact h
                  have HWQ := hide hwq
                  clear hor hwq
                  go_wp2_with go_step3
                  go_roundg (k0 - 1)
                  case measure => omega
                  case rel =>
                    refine ⟨k + 1, L, s, by omega, by go_num, rfl, rfl, ?_, hL5, ?_, HU4.out, _, HWQ.out, ?_⟩
                    · have h1 := H1.out; simpa [absZ] using h1
                    · rw [HZS.out]; exact Nat.le_refl _
                    · have h2 := H2.out
                      rw [normBits_zero, ← HZS.out, ← List.append_assoc, ← List.append_assoc, ← HLZ.out] at h2
                      exact h2
        · have hz0' : (z != 0) = true := by simpa using hz0
          by_cases hneg : z < 0
          · obtain rfl : z = -1 := by omega
            go_wp2_with go_step3
            go_roundg (gk - 1)
            case measure => omega
            case rel =>
              refine ⟨k + 1, L - (-1 : Int).natAbs, 0, by omega, by go_num, by congr 1; omega, rfl, ?_, by omega, Nat.zero_le _, HU3.out, _, HW3.out, ?_⟩
              · have h1 := H1.out; have h2 := HZ.out; omega
              · have h2 := H2.out
                rw [normBits_ne _ _ _ hz0, ← List.append_assoc] at h2
                exact h2
          · have hmx : max z (-z) = z := by omega
            go_wp2_with go_step3
            go_roundg (gk - 1)
            case measure => omega
            case rel =>
              refine ⟨k + 1, L - (z : Int).natAbs, 0, by omega, by go_num, by congr 1; omega, rfl, ?_, by omega, Nat.zero_le _, HU3.out, _, HW3.out, ?_⟩
              · have h1 := H1.out; have h2 := HZ.out; omega
              · have h2 := H2.out
                rw [normBits_ne _ _ _ hz0, ← List.append_assoc] at h2
                exact h2
    · obtain rfl : k = n := by omega
      go_wp2_with go_step3
      try go_ret
      refine hR.out _ _ ⟨g, rfl, HF2.out.trans HU.out (fun b hb hb' => by omega), ?_⟩
      have h2 := HT.out
      rw [List.drop_eq_nil_of_le (by have := HN.out; omega)] at h2
      have e : normBits L s [] = [] := by cases s <;> rfl
      rw [e, List.append_nil] at h2
      rw [← h2]
      exact HW.out

/-- a slice of bytes as values -/
def bytes (bs : List Nat) : List Value := bs.map fun b => .int .u8 (b : Nat)
@[simp] theorem bytes_length (bs : List Nat) : (bytes bs).length = bs.length := by simp [bytes]
theorem bytes_one (bs : List Nat) : ∀ u ∈ bytes bs, u.oneCell' = true := by
  intro u hu
  obtain ⟨_, _, rfl⟩ := List.mem_map.1 hu
  rfl

/-- what Encode hands back: no bytes, or new bytes of one's own -/
def NewBytes (w w' : World) (v : Value) (bs : List Nat) : Prop := Own w' 5 v (bytes bs) ∧ Fresh w w' ∧ ∀ k, v.ownBlock = some k → w.heap.size ≤ k

set_option maxRecDepth 100000 in
set_option maxHeartbeats 1000000 in
theorem encode_bad (F : Nat → Prop) (A : Option Addr) (n c : Nat) (lg : Int) (N : List Int) (w : World) (hr : Rd w F A n (ints N)) (hfit : Fit N) (hn : (n : Int) ≤ 1099511627776)
    (hv : ¬ (Valid lg N 256 9 ∧ lg ≠ 0)) :
    Calls Tryz.prog 55 #[.agg #[.int .i64 lg, .slice A n c]] w fun e w' => e = .returned (.tuple #[.slice none 0 0, .int .i64 13]) ∧ Fresh w w' := by
  have fr : ∀ o, Fresh w (w.alloc o) := fun o => (Upd.refl _ _).alloc o
  have FR := hide fr
  have hk := fun o => put_none F A n c lg N (w.alloc o) (hr.alloc o) hfit hn hv
  have HK := hide hk
  clear hr hk fr
  refine veil fun R hR => ?_
  go_enter Tryz.func55, Tryz.ntmps55
  go_wp2_with fail
  refine (HK.out _).mono ?_
  rintro e w1 ⟨rfl, f0⟩
  have f1 : Fresh w w1 := ((Upd.refl _ _).alloc _).trans' f0
  clear f0
  go_wp2
  try go_ret2
  exact hR.out _ _ ⟨rfl, f1⟩

set_option maxRecDepth 100000 in
set_option maxHeartbeats 1000000 in
theorem encode_ok (F : Nat → Prop) (A : Option Addr) (n c : Nat) (p : Nat) (N : List Int) (w : World) (hr : Rd w F A n (ints N)) (hfit : Fit N) (hn : (n : Int) ≤ 1099511627776)
    (hv : Valid (p : Int) N 256 9) (hp : p ≠ 0) :
    Calls Tryz.prog 55 #[.agg #[.int .i64 p, .slice A n c]] w fun e w' => ∃ v, e = .returned (.tuple #[v, .int .i64 0]) ∧ NewBytes w w' v (packB (descBits p N)) := by
  have hk := fun o => put_some F A n c p N (w.alloc o) (hr.alloc o) hfit hn hv hp
  have hl := descBits_length p N (by have := hv.2.2.1; omega)
  have h256 := hv.2.2.2.2.1
  have hl2 : (descBits p N).length ≤ 100000 := by omega
  have HL := hide hl2
  have HK := hide hk
  clear hr hk hv hl hl2
  refine veil fun R hR => ?_
  go_enter Tryz.func55, Tryz.ntmps55
  go_wp2_with fail
  refine (HK.out _).mono ?_
  rintro e w1 ⟨g, rfl, f0, hw⟩
  have f1 : Fresh w w1 := ((Upd.refl _ _).alloc _).trans' f0
  clear f0
  go_wp2_with fail
  refine (bytes_any _ g _ w1 hw (by have := HL.out; omega)).mono ?_
  rintro e w2 ⟨v, rfl, ho, f2, hb⟩
  go_wp2
  try go_ret2
  exact hR.out _ _ ⟨v, rfl, ho, f1.trans' f2, fun k hk => Nat.le_trans f1.size (hb k hk)⟩

end Go.Proofs.YtcdbfddoanigbaaGreat

/-
  The reference of bit streams: Bits.
  Conditions: none beyond those of each theorem.
-/
namespace Go.Proofs.YtcdbfddoanigbaaGreat
open Go.RowKit
set_option linter.unusedVariables false
set_option linter.unusedSimpArgs false

/-- bits as values -/
def bools (L : List Bool) : List Value := L.map Value.bool
@[simp] theorem bools_length (L : List Bool) : (bools L).length = L.length := by simp [bools]
theorem bools_one (L : List Bool) : ∀ u ∈ bools L, u.oneCell' = true := by
  intro u hu
  obtain ⟨_, _, rfl⟩ := List.mem_map.1 hu
  rfl
theorem bools_append (A B : List Bool) : bools (A ++ B) = bools A ++ bools B := by simp [bools]
theorem Rd.bool {w : World} {F : Nat → Prop} {A : Option Addr} {n : Nat} {L : List Bool} (h : Rd w F A n (bools L)) {k : Nat} (hk : k < n) :
    ∃ b o, ∃ hk' : k < L.length, A = some ⟨b, o, none⟩ ∧ b < w.heap.size ∧ w.cell? ⟨b, o + k, none⟩ = some (.bool L[k]) := by
  have hl : L.length = n := by have := h.1; simpa using this
  obtain ⟨b, o, e, _, hb, hc⟩ := h.at_ hk
  exact ⟨b, o, by omega, e, hb, by rw [hc]; simp [bools, List.getElem?_eq_getElem (show k < L.length by omega)]⟩

/-- a new slice of bits -/
def NewBits (w w' : World) (v : Value) (L : List Bool) : Prop := Own w' 4 v (bools L) ∧ Fresh w w' ∧ ∀ k, v.ownBlock = some k → w.heap.size ≤ k

set_option maxRecDepth 100000 in
set_option maxHeartbeats 1000000 in
theorem rbits_any (v n : Nat) (w : World) (hn : n ≤ 64) (hv : v < 2 ^ 64) :
    Calls Tryz.prog 72 #[.int .u64 v, .int .i64 n] w fun e w' => ∃ s, e = .returned s ∧ NewBits w w' s (bitsB n v) := by
  have hnI : (n : Int) ≤ 64 := by omega
  have HV := hide hv
  clear hv hn
  refine veil fun R hR => ?_
  go_enter Tryz.func72, Tryz.ntmps72
  go_wp2_with fail
  go_loopg [0, 5, 6] n (fun m x s i wr => ∃ (k : Nat), k + m = n ∧ x = .int .u64 (v / 2 ^ k : Nat) ∧ i = .int .i64 k ∧ NewBits w wr s (bitsB k v))
  case atStart => exact ⟨0, by omega, by simp, rfl, by simpa [bitsB, bools] using Own.nil w 4, Upd.refl _ _, by simp [Value.ownBlock]⟩
  case round =>
    obtain ⟨k, hk, rfl, rfl, ho, hf, hob⟩ := hrel
    have hsn := bitsB_snoc k v
    have hdv : v / 2 ^ (k + 1) = v / 2 ^ k / 2 := by rw [Nat.pow_succ, Nat.div_div_eq_div_mul]
    have hxl : v / 2 ^ k < 2 ^ 64 := Nat.lt_of_le_of_lt (Nat.div_le_self _ _) HV.out
    generalize v / 2 ^ k = x at *
    have hx1 : (x : Int) < 18446744073709551616 := by have : (2 : Nat) ^ 64 = 18446744073709551616 := by decide
                                                      omega
    have HS := hide hsn
    have HD := hide hdv
    have HK := hide hk
    have HO := hide ho
    have HF := hide hf
    have HOB := hide hob
    have hlen : (bools (bitsB k v)).length + 1 ≤ 2 ^ 40 := by simp; omega
    have HL := hide hlen
    clear hsn hdv hk ho hf hob hxl hlen
    by_cases hlt : k < n
    · go_wp2_with (at_builtin; go_must (refine wpList_app _ rfl (.tmp 12) (.tmp 16) _ rfl 4 _ 1 Tryz.underlying89 infoBool rfl _ _ rfl (HO.out.alloc _) _ 1 _ _ rfl (Rd.one wr 4 _) (by simp [Value.oneCell']) (by omega) HL.out ?_))
      intro v' w1 o1 g1 a1
      have f1 : Fresh w w1 := (HF.out.alloc _).grown g1 (fun kk hkk hlt => by have := HOB.out kk hkk; omega)
      have b1 : ∀ kk, v'.ownBlock = some kk → w.heap.size ≤ kk := own_S (S := fun kk => w.heap.size ≤ kk) a1 HOB.out (by have := HF.out.size; simp; omega)
      have O1 := hide o1
      have F1 := hide f1
      have B1 := hide b1
      clear o1 g1 a1 f1 b1
      go_wp2_with fail
      go_roundg (gk - 1)
      case measure => have := HK.out; omega
      case rel =>
        refine ⟨k + 1, by have := HK.out; omega, by rw [HD.out]; go_num, by go_num, ?_, F1.out, B1.out⟩
        rw [HS.out, bools_append]
        have h := O1.out
        have e : ((x : Int) % 2 == 1) = (x % 2 == 1) := by rw [Bool.eq_iff_iff]; simp; omega
        simpa [bools, e] using h
    · obtain rfl : k = n := by have := HK.out; omega
      go_wp2_with fail
      try go_ret
      exact hR.out _ _ ⟨_, rfl, HO.out, HF.out, HOB.out⟩

end Go.Proofs.YtcdbfddoanigbaaGreat

/-
  The reference of descriptions: least, number, Bits.
  Conditions: none beyond those of each theorem.
-/
namespace Go.Proofs.YtcdbfddoanigbaaGreat
open Go.RowKit
set_option linter.unusedVariables false
set_option linter.unusedSimpArgs false

theorem cutB_eq {m b : Nat} (h0 : m ≠ 0) (hm : m < 2 ^ 64) (h1 : 2 ^ b ≤ m) (h2 : m < 2 ^ (b + 1)) : b = cutB m := by
  obtain ⟨c1, c2⟩ := cut_bounds m h0 hm
  have h3 : b < cutB m + 1 := (Nat.pow_lt_pow_iff_right (a := 2) (by omega)).1 (Nat.lt_of_le_of_lt h1 c2)
  have h4 : cutB m < b + 1 := (Nat.pow_lt_pow_iff_right (a := 2) (by omega)).1 (Nat.lt_of_le_of_lt c1 h2)
  omega

set_option maxHeartbeats 1000000 in
theorem least_any (m : Nat) (w : World) (h0 : 1 ≤ m) (h : m ≤ 600) :
    Calls Tryz.prog 90 #[.int .i64 m] w fun e w' => e = .returned (.int .i64 (cutB m)) ∧ w = w' := by
  have hsz := hide (fun b (hb : b ≤ 9) (W : World) => size_any b W hb)
  have hmI : (m : Int) ≤ 600 := by omega
  refine veil fun R hR => ?_
  go_enter Tryz.func90, Tryz.ntmps90
  go_wp2_with fail
  go_loopg [3] 10 (fun mm i wr => wr = w ∧ ∃ b : Nat, b + mm = 10 ∧ i = .int .i64 b ∧ 2 ^ b ≤ m)
  case atStart => exact ⟨rfl, 0, by omega, rfl, by simpa using h0⟩
  case round =>
    obtain ⟨rfl, b, hb, rfl, hle⟩ := hrel
    have hb9 : b ≤ 9 := by
      rcases Nat.lt_or_ge b 10 with h | h
      · omega
      · have := Nat.pow_le_pow_right (n := 2) (by omega) h
        omega
    have hs := hsz.out b hb9 wr
    have HS := hide hs
    have HB := hide hb
    have hbI : (b : Int) ≤ 9 := by omega
    have hp : 2 ^ (b + 1) = 2 * 2 ^ b := by rw [Nat.pow_succ]; omega
    have hun := fun h2 => cutB_eq (m := m) (b := b) (by omega) (by omega) hle h2
    obtain ⟨q, hq⟩ : ∃ q, q = 2 ^ b := ⟨_, rfl⟩
    rw [← hq] at HS hle
    rw [hp, ← hq] at hun
    have HUN := hide hun
    have hqI : (q : Int) ≤ 600 := by omega
    have HQ := hide hq
    have HP := hide hp
    clear hs hb hun hq hp
    go_wp2_with fail
    refine HS.out.mono ?_
    rintro e w1 ⟨rfl, rfl⟩
    by_cases hlt : 2 * q ≤ m
    · have hltI : 2 * (q : Int) ≤ m := by omega
      go_wp2_with fail
      go_roundg (gk - 1)
      case measure => have := HB.out; omega
      case rel => exact ⟨rfl, b + 1, by have := HB.out; omega, by go_num, by rw [HP.out, ← HQ.out]; exact hlt⟩
    · have hltI : (m : Int) < 2 * q := by omega
      go_wp2_with fail
      try go_ret
      exact hR.out _ _ ⟨by rw [← HUN.out (by omega)]; rfl, rfl⟩

set_option maxRecDepth 100000 in
set_option maxHeartbeats 1000000 in
theorem rnumber11_any (n m : Nat) (w : World) (h0 : 1 ≤ m) (h : m ≤ 600) (hn : n < m) :
    Calls Tryz.prog 73 #[.int .i64 n, .int .i64 m] w fun e w' => ∃ s, e = .returned s ∧ NewBits w w' s (numBits n m) := by
  have hl := least_any m w h0 h
  have hb9 : cutB m ≤ 9 := by have := cutB_le m 10 (by omega) (by omega) (by omega); omega
  have hsz := size_any (cutB m) w hb9
  have hdef : numBits n m = if n < cutU m then bitsB (cutB m) n else bitsB (cutB m) ((n + cutU m) / 2) ++ bitsB 1 (n + cutU m) := rfl
  have hu : cutU m = 2 ^ (cutB m + 1) - m := rfl
  have hc := (cut_bounds m (by omega) (by omega)).2
  rw [Nat.pow_succ] at hu hc
  obtain ⟨nb, hnb⟩ : ∃ nb, nb = numBits n m := ⟨_, rfl⟩
  rw [← hnb] at hdef ⊢
  clear hnb
  generalize cutU m = u at *
  generalize cutB m = b at *
  have hp9 : 2 ^ b ≤ 512 := Nat.le_trans (Nat.pow_le_pow_right (n := 2) (by omega) hb9) (by decide)
  generalize 2 ^ b = q at *
  have hqI : (q : Int) ≤ 512 := by omega
  have huv : 2 * (q : Int) - m = u := by omega
  have hbI : (b : Int) ≤ 9 := by omega
  have HL := hide hl
  have HSZ := hide hsz
  have H := hide hdef
  have hb1 := fun v W (hv : v < 2 ^ 64) => rbits_any v b W (by omega) hv
  have HB := hide hb1
  have hmI : (m : Int) ≤ 600 := by omega
  have hnI : (n : Int) ≤ 600 := by omega
  have huI : (u : Int) ≤ 1024 := by omega
  clear hl hsz hdef hu hc hb1
  refine veil fun R hR => ?_
  by_cases hlt : n < u
  · have hltI : (n : Int) < u := by omega
    have hH := H.out
    rw [if_pos hlt] at hH
    subst hH
    clear H
    go_enter Tryz.func73, Tryz.ntmps73
    go_wp2_with fail
    refine HL.out.mono ?_
    rintro e w1 ⟨rfl, rfl⟩
    go_wp2_with fail
    refine HSZ.out.mono ?_
    rintro e w1 ⟨rfl, rfl⟩
    go_wp2_with fail
    refine (HB.out n _ (by omega)).mono ?_
    rintro e w1 ⟨s, rfl, o1⟩
    have O1 := hide o1
    clear o1
    go_wp2_with fail
    try go_ret
    exact hR.out _ _ ⟨s, rfl, O1.out⟩
  · have hltI : (u : Int) ≤ n := by omega
    have hH := H.out
    rw [if_neg hlt] at hH
    subst hH
    clear H
    have e2 : ((n : Int) + u) / 2 = (((n + u) / 2 : Nat) : Int) := by omega
    have E2 := hide e2
    have e3 : (((n : Int) + u) % 2 == 1) = ((n + u) % 2 == 1) := by rw [Bool.eq_iff_iff]; simp; omega
    have E3 := hide e3
    clear e2 e3
    go_enter Tryz.func73, Tryz.ntmps73
    go_wp2_with fail
    refine HL.out.mono ?_
    rintro e w1 ⟨rfl, rfl⟩
    go_wp2_with fail
    refine HSZ.out.mono ?_
    rintro e w1 ⟨rfl, rfl⟩
    go_wp2_with fail
    rw [E2.out]
    refine (HB.out _ _ (by omega)).mono ?_
    rintro e w1 ⟨s, rfl, o1, f1, k1⟩
    have hlen : (bools (bitsB b ((n + u) / 2))).length + 1 ≤ 2 ^ 40 := by simp; omega
    have O1 := hide o1
    have F1 := hide f1
    have K1 := hide k1
    have HLEN := hide hlen
    clear o1 f1 k1 hlen
    go_wp2_with (at_builtin; go_must (refine wpList_app _ rfl (.tmp 27) (.tmp 33) _ rfl 4 _ 1 Tryz.underlying89 infoBool rfl _ _ rfl (O1.out.alloc _) _ 1 _ _ rfl (Rd.one w1 4 _) (by simp [Value.oneCell']) (by omega) HLEN.out ?_))
    intro v' w2 o2 g2 a2
    have f2 : Fresh w w2 := (F1.out.alloc _).grown g2 (fun kk hkk hlt => by have := K1.out kk hkk; omega)
    have b2 : ∀ kk, v'.ownBlock = some kk → w.heap.size ≤ kk := own_S (S := fun kk => w.heap.size ≤ kk) a2 K1.out (by have := F1.out.size; simp; omega)
    have O2 := hide o2
    have F2 := hide f2
    have B2 := hide b2
    clear o2 g2 a2 f2 b2
    go_wp2_with fail
    try go_ret
    refine hR.out _ _ ⟨v', rfl, ?_, F2.out, B2.out⟩
    have hx := O2.out
    rw [bools_append]
    simpa [bools, bitsB, E3.out] using hx

end Go.Proofs.YtcdbfddoanigbaaGreat

/-
  The reference of descriptions: Bits.
  Conditions: none beyond those of each theorem.
-/
namespace Go.Proofs.YtcdbfddoanigbaaGreat
open Go.RowKit
set_option linter.unusedVariables false
set_option linter.unusedSimpArgs false

/-- k norms have been told, L states are left, the bits so far are cur -/
def BSt (N : List Int) (D : List Bool) (k L : Nat) (cur : List Bool) : Prop := D = cur ++ normBits L 0 (N.drop k) ∧ sumZ (N.drop k) = L ∧ L ≤ 512

theorem BSt.start {p : Nat} {N : List Int} (hv : Valid p N 256 9) : BSt N (descBits p N) 0 (2 ^ p) (bitsB 4 (p - 1)) := by
  refine ⟨rfl, ?_, ?_⟩
  · rw [List.drop_zero, hv.2.2.2.2.2.2.2]; simp
  · exact pow_le_512 (by have := hv.2.2.1; omega)

theorem BSt.bound {N : List Int} {D cur : List Bool} {k L : Nat} (h : BSt N D k L cur) (hall : ∀ n ∈ N, -1 ≤ n) {z : Int} (hz : N[k]? = some z) : -1 ≤ z ∧ z ≤ L ∧ (absZ z : Int) ≤ L := by
  obtain ⟨_, h2, _⟩ := h
  have hk := (List.getElem?_eq_some_iff.1 hz).1
  have e : N.drop k = z :: N.drop (k + 1) := by
    rw [List.drop_eq_getElem_cons hk]; congr 1
    rw [List.getElem?_eq_getElem hk] at hz; injection hz
  rw [e, sumZ_cons] at h2
  have h3 := sumZ_nonneg (N.drop (k + 1))
  have h4 := hall z (List.mem_of_getElem? hz)
  have h5 : absZ z = if z < 0 then -z else z := rfl
  split at h5 <;> omega

theorem BSt.ne {N : List Int} {D cur : List Bool} {k L : Nat} (h : BSt N D k L cur) (hall : ∀ n ∈ N, -1 ≤ n) {z : Int} (hz : N[k]? = some z) (hn : z ≠ 0) :
    BSt N D (k + 1) (L - z.natAbs) (cur ++ numBits (z + 1).toNat (L + 2)) := by
  have hb := h.bound hall hz
  obtain ⟨h1, h2, h3⟩ := h
  have hk := (List.getElem?_eq_some_iff.1 hz).1
  have e : N.drop k = z :: N.drop (k + 1) := by
    rw [List.drop_eq_getElem_cons hk]; congr 1
    rw [List.getElem?_eq_getElem hk] at hz; injection hz
  rw [e] at h1 h2
  rw [normBits_ne _ _ _ hn] at h1
  rw [sumZ_cons] at h2
  refine ⟨by rw [h1, List.append_assoc], ?_, by omega⟩
  have h5 : absZ z = if z < 0 then -z else z := rfl
  split at h5 <;> omega

theorem BSt.zero {N : List Int} {D cur : List Bool} {k L : Nat} (h : BSt N D k L cur) (hlast : N[N.length - 1]? ≠ some 0) (hz : N[k]? = some 0) :
    k + 1 + zerosOf (N.drop (k + 1)) < N.length ∧ BSt N D (k + 1 + zerosOf (N.drop (k + 1))) L (cur ++ numBits 1 (L + 2) ++ runBits (zerosOf (N.drop (k + 1)))) := by
  obtain ⟨h1, h2, h3⟩ := h
  have hk := (List.getElem?_eq_some_iff.1 hz).1
  have e : N.drop k = 0 :: N.drop (k + 1) := by
    rw [List.drop_eq_getElem_cons hk]; congr 1
    rw [List.getElem?_eq_getElem hk] at hz; injection hz
  rw [e] at h1 h2
  rw [normBits_zero, normBits_skip _ _ _ (zerosOf_le _), List.drop_drop] at h1
  rw [sumZ_cons, sumZ_zeros, List.drop_drop] at h2
  refine ⟨zeros_lt N k N.length rfl hk hz hlast, ?_, ?_, h3⟩
  · rw [h1]; simp only [List.append_assoc]
  · rw [← h2]; simp [absZ]

set_option maxRecDepth 100000 in
set_option maxHeartbeats 4000000 in
theorem rbits11_any (F : Nat → Prop) (A : Option Addr) (n c : Nat) (p : Nat) (N : List Int) (w : World) (hr : Rd w F A n (ints N)) (hv : Valid (p : Int) N 256 9) (hp : p ≠ 0) :
    Calls Tryz.prog 44 #[.agg #[.int .i64 p, .slice A n c]] w fun e w' => ∃ s, e = .returned s ∧ NewBits w w' s (descBits p N) := by
  have hN : N.length = n := by have := hr.1; simpa using this
  have hst := BSt.start hv
  have hall := hv.2.2.2.2.2.2.1
  have hlast := hv.2.2.2.2.2.1
  have h9 : p ≤ 9 := by have := hv.2.2.1; omega
  have h256 : n ≤ 256 := by have := hv.2.2.2.2.1; omega
  have hnI : (n : Int) ≤ 256 := by omega
  have hpI : (p : Int) ≤ 9 := by omega
  have hp0 : 1 ≤ (p : Int) := by omega
  obtain ⟨w0, hw0⟩ : ∃ w0, w0 = w.alloc (.cells #[.int .i64 p, .slice A n c] 25) := ⟨_, rfl⟩
  obtain ⟨H, hH⟩ : ∃ H, H = w.heap.size := ⟨_, rfl⟩
  have fr0 : Fresh w w0 := by rw [hw0]; exact (Upd.refl _ _).alloc _
  have b0 : Blk w0 H 25 #[.int .i64 p, .slice A n c] := by rw [hw0]; exact blk_new hH _ _
  have HR := hide (hr.fresh fr0)
  have hb1 := rbits_any (p - 1) 4 w0 (by omega) (by omega)
  have hs1 := fun W => size_any p W h9
  rw [show ((p - 1 : Nat) : Int) = (p : Int) - 1 by omega] at hb1
  have HB1 := hide hb1
  have HS1 := hide hs1
  have hw1 : IntKind.u64.wrap ((p : Int) - 1) = (p : Int) - 1 := by rw [IntKind.wrap_u64]; omega
  have c00 := b0.cell 0
  have c01 := b0.cell 1
  simp at c00 c01
  obtain ⟨D, hD⟩ : ∃ D, D = descBits p N := ⟨_, rfl⟩
  have hDl : D.length ≤ 4000 := by have := descBits_length p N h9; rw [hD]; omega
  rw [← hD] at hst ⊢
  have HST := hide hst
  have HALL := hide hall
  have HLAST := hide hlast
  have HN := hide hN
  have FR0 := hide fr0
  have HB0 := hide b0
  have HW := hide hw0
  have HH := hide hH
  have HDL := hide hDl
  clear hr hst hall hlast hN fr0 b0 hw0 hH hv hD hb1 hs1 hp hDl
  refine veil fun R hR => ?_
  go_enter Tryz.func44, Tryz.ntmps44
  go_wp2_with fail
  simp only [← HH.out, ← HW.out]
  go_wp2_with fail
  refine HB1.out.mono ?_
  rintro e w1 ⟨s1, rfl, o1, f1, k1⟩
  have b1 := HB0.out.fresh f1
  have c10 := b1.cell 0
  have c11 := b1.cell 1
  simp at c10 c11
  have O1 := hide o1
  have F1 := hide f1
  have K1 := hide k1
  clear o1 f1 k1 b1 c00 c01 HB1
  go_wp2_with fail
  refine (HS1.out _).mono ?_
  rintro e w2 ⟨rfl, rfl⟩
  clear c10 c11
  go_wp2_with fail
  go_loopg [3, 4, 5] n (fun m s l i wr => ∃ (k L : Nat) (cur : List Bool), k + m = n ∧ i = .int .i64 k ∧ l = .int .i64 L ∧ BSt N D k L cur ∧ NewBits w0 wr s cur)
  case atStart => exact ⟨0, 2 ^ p, _, by omega, rfl, rfl, HST.out, O1.out, F1.out, K1.out⟩
  case round =>
    obtain ⟨k, L, cur, hk, rfl, rfl, hs, ho, hf, hob⟩ := hrel
    have bt := HB0.out.fresh hf
    have c0 := bt.cell 1
    simp at c0
    have hcl : cur.length ≤ 4000 := by have := hs.1; have h2 := HDL.out; rw [this] at h2; simp at h2; omega
    have HK := hide hk
    have HS := hide hs
    have HO := hide ho
    have HF := hide hf
    have HOB := hide hob
    have hL5 := hs.2.2
    have hL5I : (L : Int) ≤ 512 := by omega
    clear hk hs ho hf hob bt
    by_cases hlt : k < n
    · have hltI : (k : Int) < n := by omega
      obtain ⟨b, o, hkl, rfl, hb, hc⟩ := (HR.out.fresh HF.out).int (k := k) hlt
      obtain ⟨z, hz⟩ : ∃ z, N[k]? = some z := ⟨_, List.getElem?_eq_getElem hkl⟩
      have hz' : N[k] = z := by rw [List.getElem?_eq_getElem hkl] at hz; injection hz
      rw [hz'] at hc
      have hbd := HS.out.bound HALL.out hz
      have hnum := rnumber11_any (z + 1).toNat (L + 2) wr (by omega) (by omega) (by omega)
      rw [show (((z + 1).toNat : Nat) : Int) = z + 1 by omega, show ((L + 2 : Nat) : Int) = (L : Int) + 2 by omega] at hnum
      have hnl := numBits_length (z + 1).toNat (L + 2)
      have hcb := cutB_le (L + 2) 10 (by omega) (by omega) (by omega)
      have HNUM := hide hnum
      have HZ := hide hz
      have hz1 : -1 ≤ z := hbd.1
      have hz2 : z ≤ L := hbd.2.1
      have hz3 : absZ z ≤ L := hbd.2.2
      have hNL : N.length = n := HN.out
      clear hnum hz hz' hbd hkl
      go_wp2_with fail
      refine HNUM.out.mono ?_
      rintro e w2 ⟨s2, rfl, o2, f2, k2⟩
      obtain ⟨A2, n2, c2, rfl, hn2⟩ := o2.form'
      have hrd2 := (o2.rd rfl).2.2
      rw [← hn2.out] at hrd2
      have O2 := hide (HO.out.fresh f2)
      have RD2 := hide hrd2
      have hlen : (bools cur).length + n2 ≤ 2 ^ 40 := by have := hn2.out; simp at this ⊢; omega
      have HLEN := hide hlen
      have F2 := hide (HF.out.trans' f2)
      clear o2 f2 k2 hn2 hrd2 hlen HNUM hnl hcb
      go_wp2_with (at_builtin; go_must (refine wpList_app _ rfl (.tmp 22) (.tmp 31) _ rfl 4 _ 1 Tryz.underlying89 infoBool rfl _ _ rfl O2.out _ n2 _ _ rfl RD2.out (bools_one _) (by omega) HLEN.out ?_))
      intro v3 w3 o3 g3 a3
      have f3 : Fresh w0 w3 := F2.out.grown g3 (fun kk hkk hlt => by have := HOB.out kk hkk; omega)
      have b3 : ∀ kk, v3.ownBlock = some kk → w0.heap.size ≤ kk := own_S (S := fun kk => w0.heap.size ≤ kk) a3 HOB.out (by have := F2.out.size; exact this)
      rw [← bools_append] at o3
      have bt3 := HB0.out.fresh f3
      have d0 := bt3.cell 1
      simp at d0
      obtain ⟨b', o', _, he, hb', hc3⟩ := (HR.out.fresh f3).int (k := k) hlt
      injection he with he
      injection he with he1 he2
      subst he1 he2
      have hzz : N[k] = z := by have h := HZ.out; rw [List.getElem?_eq_getElem (by omega)] at h; injection h
      rw [hzz] at hc3
      have hsta := states_any z w3
      have ha : (if z = -1 then 1 else z) = absZ z := by
        unfold absZ
        by_cases h : z = -1
        · subst h; rfl
        · rw [if_neg h, if_neg (by omega)]
      rw [ha] at hsta
      have HSTA := hide hsta
      have hab : absZ z = (z.natAbs : Int) := by unfold absZ; split <;> omega
      have hab0 := absZ_nonneg z
      have HAB := hide hab
      have hsub : (L : Int) - absZ z = ((L - z.natAbs : Nat) : Int) := by omega
      have HSUB := hide hsub
      obtain ⟨q, hq⟩ : ∃ q, q = absZ z := ⟨_, rfl⟩
      rw [← hq] at HSTA hz3 hab0 HSUB
      have hq512 : q ≤ 512 := by omega
      have O3 := hide o3
      have F3 := hide f3
      have B3 := hide b3
      clear o3 g3 a3 f3 b3 bt3 hb' hc hb hzz hsta ha hab hsub hq c0
      go_wp2_with fail
      refine (HSTA.out).mono ?_
      rintro e w4 ⟨rfl, rfl⟩
      by_cases hz0 : z = 0
      · subst hz0
        obtain ⟨hzl, hzs⟩ := HS.out.zero (by exact HLAST.out) HZ.out
        obtain ⟨zc, hzc⟩ : ∃ zc, zc = zerosOf (N.drop (k + 1)) := ⟨_, rfl⟩
        rw [← hzc] at hzl hzs
        have HZS := hide hzs
        have HZC := hide hzc
        have hzlI : (k : Int) + 1 + zc < n := by omega
        clear hzs hzc
        have O3' := hide (show Own w3 4 v3 (bools (cur ++ numBits 1 (L + 2))) from O3.out)
        have bt4 := HB0.out.fresh F3.out
        have e0 := bt4.cell 1
        simp at e0
        have hkn : k < n := hlt
        clear bt4 O3 HSTA d0 hlt
        go_wp2_with fail
        go_loopg [5, 6] zc (fun m i nn wr => wr = w3 ∧ ∃ j : Nat, j + m = zc ∧ i = .int .i64 (k + j : Nat) ∧ nn = .int .i64 j)
        case atStart => exact ⟨rfl, 0, by omega, rfl, rfl⟩
        case round =>
          obtain ⟨rfl, j, hj, rfl, rfl⟩ := hrel
          have HJ := hide hj
          have hjz : j ≤ zc := by omega
          clear hj
          obtain ⟨b5, o5, hk5, he5, hb5, hc5⟩ := (HR.out.fresh F3.out).int (k := k + j + 1) (by omega)
          injection he5 with he5
          injection he5 with h51 h52
          subst h51 h52
          have hg5 : N[k + j + 1]? = some N[k + j + 1] := List.getElem?_eq_getElem hk5
          have hkj : ((k + j : Nat) : Int) + 1 < n := by omega
          have hkj0 : ((k + j : Nat) : Int) ≤ 256 := by omega
          by_cases hjl : j < zc
          · have h0 := zerosOf_get (N.drop (k + 1)) j (by rw [← HZC.out]; exact hjl)
            rw [List.getElem?_drop, show k + 1 + j = k + j + 1 by omega, hg5] at h0
            injection h0 with h0
            rw [h0] at hc5
            clear hg5 h0 hk5
            go_wp2_with fail
            go_roundg (gk - 1)
            case measure => have := HJ.out; omega
            case rel => exact ⟨rfl, j + 1, by have := HJ.out; omega, by congr 1, by go_num⟩
          · obtain rfl : j = zc := by omega
            have h0 := zerosOf_stop (N.drop (k + 1))
            rw [← HZC.out, List.getElem?_drop, show k + 1 + j = k + j + 1 by omega, hg5] at h0
            obtain ⟨z5, hz5⟩ : ∃ z5, z5 = N[k + j + 1] := ⟨_, rfl⟩
            rw [← hz5] at hc5 h0
            have hz50 : (z5 == 0) = false := by simpa using h0
            clear hg5 h0 hk5 hz5
            go_wp2_with fail
            go_loopg [3, 6] (j / 3) (fun m s nn wr => ∃ t : Nat, t + m = j / 3 ∧ nn = .int .i64 (j - 3 * t : Nat) ∧ NewBits w0 wr s (cur ++ numBits 1 (L + 2) ++ runPart t))
            case atStart => exact ⟨0, by omega, rfl, by simpa [runPart] using O3'.out, F3.out, B3.out⟩
            case round =>
              obtain ⟨t, ht, rfl, ho, hf, hob⟩ := hrel
              have hcl2 : (cur ++ numBits 1 (L + 2) ++ runPart t).length ≤ 5000 := by
                have h1 := numBits_length 1 (L + 2)
                have h2 := cutB_le (L + 2) 10 (by omega) (by omega) (by omega)
                rw [List.length_append, List.length_append, runPart_length]
                omega
              have HT := hide ht
              have HO4 := hide ho
              have HF4 := hide hf
              have HOB4 := hide hob
              clear ht ho hf hob
              by_cases h3 : 3 ≤ j - 3 * t
              · have h3I : (3 : Int) ≤ ((j - 3 * t : Nat) : Int) := by omega
                have h3J : ((j - 3 * t : Nat) : Int) ≤ 256 := by omega
                have hnx : ((j - 3 * t : Nat) : Int) - 3 = ((j - 3 * (t + 1) : Nat) : Int) := by omega
                have HNX := hide hnx
                have hlen : (bools (cur ++ numBits 1 (L + 2) ++ runPart t)).length + 2 ≤ 2 ^ 40 := by rw [bools_length]; omega
                have HLEN := hide hlen
                have hnb := Blk.new wr 4 #[.bool true, .bool true]
                have hrd4 := hnb.rds
                have RD4 := hide hrd4
                clear hnx hlen hnb hrd4
                go_wp2_with (at_builtin; go_must (refine wpList_app _ rfl (.tmp 62) (.tmp 63) _ rfl 4 _ 1 Tryz.underlying89 infoBool rfl _ _ rfl (HO4.out.alloc _) _ 2 _ _ rfl RD4.out (by simp [Value.oneCell']) (by omega) HLEN.out ?_))
                intro v5 w5 o5' g5 a5
                have f5 : Fresh w0 w5 := (HF4.out.alloc _).grown g5 (fun kk hkk hlt => by have := HOB4.out kk hkk; omega)
                have b5' : ∀ kk, v5.ownBlock = some kk → w0.heap.size ≤ kk := own_S (S := fun kk => w0.heap.size ≤ kk) a5 HOB4.out (by have := HF4.out.size; simp; omega)
                have O5 := hide o5'
                have F5 := hide f5
                have B5 := hide b5'
                clear o5' g5 a5 f5 b5'
                go_wp2_with fail
                go_roundg (gk - 1)
                case measure => have := HT.out; omega
                case rel =>
                  refine ⟨t + 1, by have := HT.out; omega, by rw [HNX.out], ?_, F5.out, B5.out⟩
                  rw [runPart_succ]
                  have h := O5.out
                  simpa [bools, bitsB] using h
              · have h3I : ((j - 3 * t : Nat) : Int) < 3 := by omega
                have hre := runPart_end j t (by have := HT.out; omega) (by omega)
                have hbb := rbits_any (j - 3 * t) 2 wr (by omega) (by omega)
                have HBB := hide hbb
                have HRE := hide hre
                clear hbb hre
                go_wp2_with fail
                refine HBB.out.mono ?_
                rintro e w5 ⟨s5, rfl, o5', f5, k5⟩
                obtain ⟨A5, n5, c5, rfl, hn5⟩ := o5'.form'
                have hrd5 := (o5'.rd rfl).2.2
                rw [← hn5.out] at hrd5
                have O5 := hide (HO4.out.fresh f5)
                have RD5 := hide hrd5
                have hlen : (bools (cur ++ numBits 1 (L + 2) ++ runPart t)).length + n5 ≤ 2 ^ 40 := by have := hn5.out; rw [bools_length] at this ⊢; simp only [bitsB_length] at this; omega
                have HLEN := hide hlen
                have F5 := hide (HF4.out.trans' f5)
                clear o5' f5 k5 hn5 hrd5 hlen HBB
                go_wp2_with (at_builtin; go_must (refine wpList_app _ rfl (.tmp 65) (.tmp 68) _ rfl 4 _ 1 Tryz.underlying89 infoBool rfl _ _ rfl O5.out _ n5 _ _ rfl RD5.out (bools_one _) (by omega) HLEN.out ?_))
                intro v6 w6 o6 g6 a6
                have f6 : Fresh w0 w6 := F5.out.grown g6 (fun kk hkk hlt => by have := HOB4.out kk hkk; omega)
                have b6 : ∀ kk, v6.ownBlock = some kk → w0.heap.size ≤ kk := own_S (S := fun kk => w0.heap.size ≤ kk) a6 HOB4.out (by have := F5.out.size; exact this)
                have e6 : bools (cur ++ (numBits 1 (L + 2) ++ runPart t)) ++ bools (bitsB 2 (j - 3 * t)) = bools (cur ++ numBits 1 (L + 2) ++ runBits j) := by rw [HRE.out]; simp [bools]
                rw [e6] at o6
                clear e6
                have O6 := hide o6
                have F6 := hide f6
                have B6 := hide b6
                clear o6 g6 a6 f6 b6
                go_wp2_with fail
                go_roundg (n - (k + j + 1))
                case measure => have := HK.out; omega
                case rel => exact ⟨k + 1 + j, L, _, by omega, by congr 1; omega, by congr 1, HZS.out, O6.out, F6.out, B6.out⟩
      · have hz0' : (z != 0) = true := by simpa using hz0
        have hne := HS.out.ne HALL.out HZ.out hz0
        have HNE := hide hne
        clear hne
        go_wp2_with fail
        go_roundg (gk - 1)
        case measure => have := HK.out; omega
        case rel => exact ⟨k + 1, L - z.natAbs, _, by have := HK.out; omega, by go_num, by rw [← HSUB.out], HNE.out, O3.out, F3.out, B3.out⟩
    · obtain rfl : k = n := by have := HK.out; omega
      have e : D = cur := by
        have h1 := HS.out.1
        rw [List.drop_of_length_le (by have := HN.out; omega)] at h1
        simpa [normBits] using h1
      subst e
      go_wp2_with fail
      try go_ret
      exact hR.out _ _ ⟨_, rfl, HO.out, FR0.out.trans' HF.out, fun kk hkk => Nat.le_trans FR0.out.size (HOB.out kk hkk)⟩

end Go.Proofs.YtcdbfddoanigbaaGreat

/-
  The reference of bit streams: Value, Row.
  Conditions: none beyond those of each theorem.
-/
namespace Go.Proofs.YtcdbfddoanigbaaGreat
open Go.RowKit
set_option linter.unusedVariables false
set_option linter.unusedSimpArgs false

set_option maxRecDepth 100000 in
set_option maxHeartbeats 1000000 in
theorem rvalue_any (F : Nat → Prop) (A : Option Addr) (n c : Nat) (L : List Bool) (w : World) (hr : Rd w F A n (bools L)) (hn : n ≤ 64) :
    Calls Tryz.prog 85 #[.slice A n c] w fun e w' => e = .returned (.int .u64 (valB L : Nat)) ∧ w = w' := by
  have hL : L.length = n := by have := hr.1; simpa using this
  have hnI : (n : Int) ≤ 64 := by omega
  have HR := hide hr
  have HL := hide hL
  clear hr hL hn
  refine veil fun R hR => ?_
  go_enter Tryz.func85, Tryz.ntmps85
  go_wp2_with fail
  go_loopg [3, 4] n (fun m x i wr => wr = w ∧ m ≤ n ∧ i = .int .i64 ((m : Int) - 1) ∧ x = .int .u64 (valB (L.drop m) : Nat))
  case atStart => exact ⟨rfl, by omega, rfl, by rw [List.drop_of_length_le (by have := HL.out; omega)]; rfl⟩
  case round =>
    obtain ⟨rfl, hm, rfl, rfl⟩ := hrel
    by_cases h0 : 0 < gk
    · obtain ⟨k, rfl⟩ : ∃ k, gk = k + 1 := ⟨gk - 1, by omega⟩
      obtain ⟨b, o, hk, rfl, hb, hc⟩ := HR.out.bool (k := k) (by omega)
      have hv := valB_cons_drop hk
      have hlt := valB_lt (L.drop (k + 1))
      have hlt2 : 2 ^ (L.drop (k + 1)).length ≤ 2 ^ 63 := Nat.pow_le_pow_right (by omega) (by rw [List.length_drop]; have := HL.out; omega)
      generalize valB (L.drop (k + 1)) = y at *
      generalize L[k] = bb at *
      have hyI : (y : Int) < 9223372036854775808 := by have : (2 : Nat) ^ 63 = 9223372036854775808 := by decide
                                                       omega
      have HV := hide hv
      have e1 : (((k + 1 : Nat) : Int) - 1) = (k : Int) := by omega
      have e2 : IntKind.u64.wrap (2 * (y : Int)) = 2 * (y : Int) := by rw [IntKind.wrap_u64]; omega
      have e3 : IntKind.u64.wrap (2 * (y : Int) + 1) = 2 * (y : Int) + 1 := by rw [IntKind.wrap_u64]; omega
      clear hv hlt hlt2 hk
      rw [e1]
      have hkI : (k : Int) < n := by omega
      cases bb
      all_goals
        go_wp2_with fail
        go_roundg k
        case measure => omega
        case rel => exact ⟨rfl, by omega, by go_num, by rw [HV.out]; simp; try omega⟩
    · obtain rfl : gk = 0 := by omega
      go_wp2_with fail
      try go_ret
      exact hR.out _ _ ⟨by simp, rfl⟩

set_option maxRecDepth 100000 in
set_option maxHeartbeats 1000000 in
theorem rrow_any (F : Nat → Prop) (A : Option Addr) (n c : Nat) (bs : List Nat) (w : World) (hr : Rd w F A n (bytes bs)) (hlt : ∀ b ∈ bs, b < 256) (hn : n ≤ 100000) :
    Calls Tryz.prog 84 #[.slice A n c] w fun e w' => ∃ s, e = .returned s ∧ NewBits w w' s (rowB bs) := by
  have hL : bs.length = n := by have := hr.1; simpa using this
  have hnI : (n : Int) ≤ 100000 := by omega
  have HR := hide hr.both
  have HL := hide hL
  have HLT := hide hlt
  clear hr hL hn hlt
  refine veil fun R hR => ?_
  go_enter Tryz.func84, Tryz.ntmps84
  go_wp2_with fail
  go_loopg [3, 4] n (fun m s i wr => ∃ (k : Nat), k + m = n ∧ i = .int .i64 k ∧ NewBits w wr s (rowB (bs.take k)))
  case atStart => exact ⟨0, by omega, rfl, by simpa [rowB, bools] using Own.nil w 4, Upd.refl _ _, by simp [Value.ownBlock]⟩
  case round =>
    obtain ⟨k, hk, rfl, ho, hf, hob⟩ := hrel
    have HK := hide hk
    have HO := hide ho
    have HF := hide hf
    have HOB := hide hob
    clear hk ho hf hob
    by_cases hltk : k < n
    · have hkl : k < bs.length := by have := HL.out; omega
      obtain ⟨b, o, rfl, hF, hb, hc⟩ := (HR.out.fresh HF.out).at_ hltk
      have hc' : wr.cell? ⟨b, o + k, none⟩ = some (.int .u8 (bs[k] : Nat)) := by rw [hc]; simp [bytes, hkl]
      have hx := HLT.out bs[k] (List.getElem_mem hkl)
      have hts := List.take_succ_eq_append_getElem hkl
      generalize bs[k] = x at *
      have HTS := hide hts
      have hbb := rbits_any x 8 wr (by omega) (by omega)
      have HBB := hide hbb
      have hxI : (x : Int) < 256 := by omega
      clear hc hkl hbb hts
      go_wp2_with fail
      refine HBB.out.mono ?_
      rintro e w1 ⟨s1, rfl, o1, f1, b1⟩
      obtain ⟨A1, n1, c1, rfl, hn1⟩ := o1.form'
      have hrd1 := (o1.rd rfl).2.2
      rw [← hn1.out] at hrd1
      have O1 := hide (HO.out.fresh f1)
      have RD1 := hide hrd1
      have hlen : (bools (rowB (bs.take k))).length + n1 ≤ 2 ^ 40 := by
        have h5 := hn1.out
        have h6 : (bs.take k).length ≤ k := by rw [List.length_take]; omega
        simp only [bools_length, bitsB_length, rowB_length] at h5 ⊢
        omega
      have HLEN := hide hlen
      have F1 := hide (HF.out.trans' f1)
      clear o1 f1 b1 hn1 hrd1 hlen HBB
      go_wp2_with (at_builtin; go_must (refine wpList_app _ rfl (.tmp 11) (.tmp 17) _ rfl 4 _ 1 Tryz.underlying89 infoBool rfl _ _ rfl O1.out _ n1 _ _ rfl RD1.out (bools_one _) (by omega) HLEN.out ?_))
      intro v' w2 o2 g2 a2
      have f2 : Fresh w w2 := F1.out.grown g2 (fun kk hkk hlt => by have := HOB.out kk hkk; omega)
      have b2 : ∀ kk, v'.ownBlock = some kk → w.heap.size ≤ kk := own_S (S := fun kk => w.heap.size ≤ kk) a2 HOB.out (by have := F1.out.size; exact this)
      have O2 := hide o2
      have F2 := hide f2
      have B2 := hide b2
      clear o2 g2 a2 f2 b2
      go_wp2_with fail
      go_roundg (gk - 1)
      case measure => have := HK.out; omega
      case rel =>
        refine ⟨k + 1, by have := HK.out; omega, by go_num, ?_, F2.out, B2.out⟩
        rw [HTS.out, rowB_append, rowB_cons, rowB_nil, List.append_nil, bools_append]
        exact O2.out
    · obtain rfl : k = n := by have := HK.out; omega
      have e : bs.take k = bs := List.take_of_length_le (by have := HL.out; omega)
      rw [e] at HO
      clear e
      go_wp2_with fail
      try go_ret
      exact hR.out _ _ ⟨_, rfl, HO.out, HF.out, HOB.out⟩

end Go.Proofs.YtcdbfddoanigbaaGreat

/-
  The reference of bit readers: Forward, First, Whole.
  Conditions: none beyond those of each theorem.
-/
namespace Go.Proofs.YtcdbfddoanigbaaGreat
open Go.RowKit
set_option linter.unusedVariables false
set_option linter.unusedSimpArgs false

/-- the reference's reader at block g over the bits L, 'fr' of them read -/
def RefAt (w : World) (F : Nat → Prop) (g : Nat) (L : List Bool) (fr : Nat) : Prop :=
  ∃ (A : Option Addr) (c : Nat), Blk w g 136 #[.slice A (L.length - fr) c, .int .i64 fr] ∧ Rd w F A (L.length - fr) (bools (L.drop fr)) ∧ fr ≤ L.length ∧ L.length - fr ≤ c

theorem RefAt.upd {w w' : World} {F S : Nat → Prop} {g : Nat} {L : List Bool} {fr : Nat} (h : RefAt w F g L fr) (hu : Upd S w w') (hg : ¬ S g) (hF : ∀ b, b < w.heap.size → F b → ¬ S b) : RefAt w' F g L fr := by
  obtain ⟨A, c, h1, h2, h3⟩ := h
  exact ⟨A, c, h1.upd hu hg, h2.upd hu hF, h3⟩
theorem RefAt.fresh {w w' : World} {F : Nat → Prop} {g : Nat} {L : List Bool} {fr : Nat} (h : RefAt w F g L fr) (hu : Fresh w w') : RefAt w' F g L fr := h.upd hu (fun h => h) (fun _ _ _ h => h)

set_option maxRecDepth 100000 in
set_option maxHeartbeats 1000000 in
theorem rforward_any (F : Nat → Prop) (A : Option Addr) (n c : Nat) (bs : List Nat) (w : World) (hr : Rd w F A n (bytes bs)) (hlt : ∀ b ∈ bs, b < 256) (hn : n ≤ 100000) :
    Calls Tryz.prog 58 #[.slice A n c] w fun e w' => ∃ g, e = .returned (.pointer (some ⟨g, 0, none⟩)) ∧ Fresh w w' ∧ w.heap.size ≤ g ∧
      RefAt w' (fun b => w.heap.size ≤ b ∧ b ≠ g) g (rowB bs) 0 := by
  have h := rrow_any F A n c bs w hr hlt hn
  have HH := hide h
  clear h hr hlt
  refine veil fun R hR => ?_
  go_enter Tryz.func58, Tryz.ntmps58
  go_wp2_with fail
  refine HH.out.mono ?_
  rintro e w1 ⟨s, rfl, o1, f1, k1⟩
  obtain ⟨A1, n1, c1, rfl, hn1⟩ := o1.form'
  obtain ⟨_, hcap, hrd⟩ := o1.rd rfl
  rw [← hn1.out] at hrd hcap
  have hn1' : n1 = (rowB bs).length := by have := hn1.out; simpa using this
  have HN := hide hn1'
  have HRD := hide hrd
  have F1 := hide f1
  have K1 := hide k1
  have LT := hide (fun k hk => o1.lt (k := k) hk)
  clear hn1 hn1' hrd f1 k1 o1 HH
  go_wp2_with fail
  try go_ret
  refine hR.out _ _ ⟨w1.heap.size, rfl, F1.out.alloc _, F1.out.size, A1, c1, ?_, ?_, Nat.zero_le _, by have := HN.out; omega⟩
  · have h := Blk.new w1 136 #[.slice A1 n1 c1, .int .i64 0]
    rw [HN.out] at h
    simpa using h
  · have h := (HRD.out.alloc (.cells #[.slice A1 n1 c1, .int .i64 0] 136)).mono (G := fun b => w.heap.size ≤ b ∧ b ≠ w1.heap.size) (fun b hb => ⟨K1.out b hb, by have := LT.out b hb; omega⟩)
    have e : (rowB bs).length - 0 = n1 := by have := HN.out; omega
    rw [e, List.drop_zero]
    rw [show 8 * bs.length = n1 by have := HN.out; simp at this; omega]
    exact h

set_option maxRecDepth 100000 in
set_option maxHeartbeats 1000000 in
theorem rfirst_short (F : Nat → Prop) (g : Nat) (L : List Bool) (fr n : Nat) (w : World) (h : RefAt w F g L fr) (hn : n ≤ 64) (hs : L.length < fr + n) (hL : L.length ≤ 2 ^ 40) :
    Calls Tryz.prog 59 #[.pointer (some ⟨g, 0, none⟩), .int .i64 n] w fun e w' => e = .returned (.tuple #[.int .u64 0, .int .i64 3]) ∧ w = w' := by
  obtain ⟨A, c, hb, hr, hf, hc⟩ := h
  have c0 := hb.cell 0
  simp at c0
  have hnI : (n : Int) ≤ 64 := by omega
  have hlt : ((L.length - fr : Nat) : Int) < n := by omega
  generalize L.length - fr = m at *
  clear hb hr hf hc hs
  refine veil fun R hR => ?_
  go_enter Tryz.func59, Tryz.ntmps59
  go_wp2_with fail
  try go_ret2
  exact hR.out _ _ ⟨rfl, rfl⟩

set_option maxRecDepth 100000 in
set_option maxHeartbeats 2000000 in
theorem rfirst_ok (F : Nat → Prop) (g : Nat) (L : List Bool) (fr n : Nat) (w : World) (h : RefAt w F g L fr) (hn : n ≤ 64) (hs : fr + n ≤ L.length) (hL : L.length ≤ 2 ^ 40) (hFg : ∀ b, F b → b ≠ g) :
    Calls Tryz.prog 59 #[.pointer (some ⟨g, 0, none⟩), .int .i64 n] w fun e w' => e = .returned (.tuple #[.int .u64 (valB ((L.drop fr).take n) : Nat), .int .i64 0]) ∧
      Upd (fun b => b = g) w w' ∧ RefAt w' F g L (fr + n) := by
  obtain ⟨A, c, hb, hr, hf, hc⟩ := h
  have c0 := hb.cell 0
  have c1 := hb.cell 1
  have z0 := hb.frozen 0
  have z1 := hb.frozen 1
  simp at c0 c1
  have hnI : (n : Int) ≤ 64 := by omega
  have hmn : L.length - fr - n = L.length - (fr + n) := by omega
  have hle : (n : Int) ≤ ((L.length - fr : Nat) : Int) := by omega
  have hmI : ((L.length - fr : Nat) : Int) ≤ 1099511627776 := by omega
  have hfI : (fr : Int) ≤ 1099511627776 := by omega
  have hcI : ((L.length - fr : Nat) : Int) ≤ c := by omega
  have hnc : (n : Int) ≤ c := by omega
  have hv := rvalue_any F A n c ((L.drop fr).take n) w (by have := hr.take (k := n) (by omega); simpa [bools, List.map_take] using this) hn
  have hcut := hr.cut (k := n) (cap := c) (by omega) hc
  have HCUT := hide hcut
  have HV := hide hv
  have HB := hide hb
  have HMN := hide hmn
  have HC := hide hc
  have hdr : (bools (L.drop fr)).drop n = bools (L.drop (fr + n)) := by simp [bools]
  have HDR := hide hdr
  have HS := hide hs
  obtain ⟨m, hm⟩ : ∃ m, m = L.length - fr := ⟨_, rfl⟩
  rw [← hm] at c0 hle hmI hcI HCUT HB HMN HC
  have HM := hide hm
  clear hb hr hcut hv hmn hdr hm hc hf hs
  refine veil fun R hR => ?_
  by_cases hcn : c = n
  · subst hcn
    go_enter Tryz.func59, Tryz.ntmps59
    go_wp2_with fail
    refine HV.out.mono ?_
    rintro e w1 ⟨rfl, rfl⟩
    go_wp2_with fail
    try go_ret2
    have hu : Upd (fun b => b = g) w ((w.setCell ⟨g, 0, none⟩ (.slice A (m - c) 0)).setCell ⟨g, 1, none⟩ (.int .i64 ((fr : Int) + c))) :=
      ((Upd.refl (fun b => b = g) w).setCell (p := ⟨g, 0, none⟩) (fun _ => rfl) _).setCell (p := ⟨g, 1, none⟩) (fun _ => rfl) _
    have hbb := (HB.out.set_ 0 (.slice A (m - c) 0)).set_ 1 (.int .i64 ((fr : Int) + c))
    have hcc := HCUT.out
    rw [if_pos trivial, HDR.out] at hcc
    rw [HMN.out] at hcc
    refine hR.out _ _ ⟨rfl, hu, _, 0, ?_, hcc.upd hu (fun b _ hb e => hFg b hb e), HS.out, ?_⟩
    · rw [← HMN.out]
      simpa using hbb
    · rw [← HMN.out]; have := HC.out; omega
  · have hcn' : (n : Int) < c := by omega
    go_enter Tryz.func59, Tryz.ntmps59
    go_wp2_with fail
    refine HV.out.mono ?_
    rintro e w1 ⟨rfl, rfl⟩
    go_wp2_with fail
    try go_ret2
    have hu : Upd (fun b => b = g) w ((w.setCell ⟨g, 0, none⟩ (.slice (A.map (·.add n)) (m - n) (c - n))).setCell ⟨g, 1, none⟩ (.int .i64 ((fr : Int) + n))) :=
      ((Upd.refl (fun b => b = g) w).setCell (p := ⟨g, 0, none⟩) (fun _ => rfl) _).setCell (p := ⟨g, 1, none⟩) (fun _ => rfl) _
    have hbb := (HB.out.set_ 0 (.slice (A.map (·.add n)) (m - n) (c - n))).set_ 1 (.int .i64 ((fr : Int) + n))
    have hcc := HCUT.out
    rw [if_neg hcn, HDR.out] at hcc
    rw [HMN.out] at hcc
    refine hR.out _ _ ⟨rfl, hu, _, c - n, ?_, hcc.upd hu (fun b _ hb e => hFg b hb e), HS.out, ?_⟩
    · rw [← HMN.out]
      simpa using hbb
    · rw [← HMN.out]; have := HC.out; omega

end Go.Proofs.YtcdbfddoanigbaaGreat

/-
  The reference of bit readers: Whole.
  Conditions: none beyond those of each theorem.
-/
namespace Go.Proofs.YtcdbfddoanigbaaGreat
open Go.RowKit
set_option linter.unusedVariables false
set_option linter.unusedSimpArgs false

theorem valB_zero_get {l : List Bool} (h : valB l = 0) {j : Nat} (hj : j < l.length) : l[j]? = some false := by
  have := replicate_of_val h
  rw [this]
  simp [hj]

theorem valB_of_falses {l : List Bool} (h : ∀ j, j < l.length → l[j]? = some false) : valB l = 0 := by
  have : l = List.replicate l.length false := by
    apply List.ext_getElem?
    intro j
    by_cases hj : j < l.length
    · rw [h j hj]; simp [hj]
    · rw [List.getElem?_eq_none (by omega), List.getElem?_eq_none (by simp; omega)]
  rw [this, valB_falses]

/-- the bits up to the next byte boundary, and whether they are all zero -/
def padV (L : List Bool) (fr : Nat) : Nat := valB ((L.drop fr).take ((8 - fr % 8) % 8))

set_option maxRecDepth 100000 in
set_option maxHeartbeats 2000000 in
theorem rwhole_any (F : Nat → Prop) (g : Nat) (L : List Bool) (fr : Nat) (w : World) (h : RefAt w F g L fr) (h8 : L.length % 8 = 0) (hL : L.length ≤ 2 ^ 40) :
    Calls Tryz.prog 61 #[.pointer (some ⟨g, 0, none⟩)] w fun e w' =>
      e = .returned (if padV L fr = 0 then .tuple #[.int .i64 ((fr + (8 - fr % 8) % 8) / 8 : Nat), .int .i64 0] else .tuple #[.int .i64 0, .int .i64 14]) ∧ Upd (fun b => b = g) w w' := by
  obtain ⟨A, c, hb, hr, hf, hc⟩ := h
  have c0 := hb.cell 0
  have c1 := hb.cell 1
  have z0 := hb.frozen 0
  have z1 := hb.frozen 1
  simp at c0 c1
  obtain ⟨P, hP⟩ : ∃ P, P = (8 - fr % 8) % 8 := ⟨_, rfl⟩
  have hpv : padV L fr = valB ((L.drop fr).take P) := by rw [hP]; rfl
  rw [← hP, hpv]
  have hPm : P ≤ L.length - fr := by omega
  have hP8 : P < 8 := by omega
  have hPI : (P : Int) < 8 := by omega
  have hcI : (P : Int) ≤ c := by omega
  have hmI : ((L.length - fr : Nat) : Int) ≤ 1099511627776 := by omega
  have hPmI : (P : Int) ≤ ((L.length - fr : Nat) : Int) := by omega
  have hmc : ((L.length - fr : Nat) : Int) ≤ c := by omega
  have hfI : (fr : Int) ≤ 1099511627776 := by omega
  have hend : ((fr : Int) + P) % 8 = 0 := by omega
  have hgo : ∀ k : Nat, k < P → ¬ ((fr : Int) + k) % 8 = 0 := fun k hk => by omega
  have hvE : ((fr : Int) + P) / 8 = ((fr + P) / 8 : Nat) := by omega
  have HE := hide hend
  have HGO := hide hgo
  have HR := hide hr
  have HVE := hide hvE
  have hlen : ((L.drop fr).take P).length = P := by rw [List.length_take, List.length_drop]; omega
  have HLEN := hide hlen
  obtain ⟨m, hm⟩ : ∃ m, m = L.length - fr := ⟨_, rfl⟩
  rw [← hm] at c0 hmI hPmI hmc HR
  clear hb hr hend hgo hvE hpv hP hm hPm hf hc h8 hlen
  obtain ⟨V, hV⟩ : ∃ V, V = valB ((L.drop fr).take P) := ⟨_, rfl⟩
  rw [← hV]
  have HV := hide hV
  clear hV
  refine veil fun R hR => ?_
  by_cases hcP : c = P
  all_goals
    have hcP' : (c : Int) = P ∨ (P : Int) < c := by omega
    have HCP := hide hcP
    clear hcP
  · have hcPI : (c : Int) ≤ P := by have := HCP.out; omega
    clear hcP'
    go_enter Tryz.func61, Tryz.ntmps61
    go_wp2_with fail
    go_loopg [4] P (fun mm i wr => wr = w ∧ ∃ k : Nat, k + mm = P ∧ i = .int .i64 k ∧ ∀ j, j < k → (L.drop fr)[j]? = some false)
    case atStart => exact ⟨rfl, 0, by omega, rfl, fun j hj => by omega⟩
    case round =>
      obtain ⟨rfl, k, hk, rfl, hall⟩ := hrel
      have HK := hide hk
      have HA := hide hall
      clear hk hall
      by_cases hlt : k < P
      · have hgo := HGO.out k hlt
        obtain ⟨b, o, hkl, rfl, hb, hcell⟩ := HR.out.bool (k := k) (by omega)
        have hget : (L.drop fr)[k]? = some (L.drop fr)[k] := List.getElem?_eq_getElem hkl
        have hkm : (k : Int) < m := by omega
        generalize (L.drop fr)[k] = bb at *
        have HG := hide hget
        clear hget hkl
        cases bb
        · go_wp2_with fail
          go_roundg (gk - 1)
          case measure => have := HK.out; omega
          case rel => exact ⟨rfl, k + 1, by have := HK.out; omega, by go_num, fun j hj => by
            rcases Nat.lt_or_ge j k with h | h
            · exact HA.out j h
            · obtain rfl : j = k := by omega
              exact HG.out⟩
        · go_wp2_with fail
          try go_ret2
          have hne : ¬ V = 0 := by
            intro h0
            rw [HV.out] at h0
            have h1 := valB_zero_get h0 (j := k) (by rw [HLEN.out]; exact hlt)
            rw [List.getElem?_take, if_pos hlt, HG.out] at h1
            cases h1
          exact hR.out _ _ ⟨by rw [if_neg hne]; rfl, Upd.refl _ _⟩
      · obtain rfl : k = P := by have := HK.out; omega
        have hend := HE.out
        go_wp2_with fail
        try go_ret2
        have hz : V = 0 := by
          rw [HV.out]
          refine valB_of_falses fun j hj => ?_
          have hj' : j < k := by have := HLEN.out; omega
          rw [List.getElem?_take, if_pos hj']
          exact HA.out j hj'
        refine hR.out _ _ ⟨?_, ?_⟩
        · rw [if_pos hz, ← HVE.out]; rfl
        · exact ((Upd.refl (fun b => b = g) wr).setCell (p := ⟨g, 0, none⟩) (fun _ => rfl) _).setCell (p := ⟨g, 1, none⟩) (fun _ => rfl) _
  · have hcPI : (P : Int) < c := by have := HCP.out; omega
    clear hcP'
    go_enter Tryz.func61, Tryz.ntmps61
    go_wp2_with fail
    go_loopg [4] P (fun mm i wr => wr = w ∧ ∃ k : Nat, k + mm = P ∧ i = .int .i64 k ∧ ∀ j, j < k → (L.drop fr)[j]? = some false)
    case atStart => exact ⟨rfl, 0, by omega, rfl, fun j hj => by omega⟩
    case round =>
      obtain ⟨rfl, k, hk, rfl, hall⟩ := hrel
      have HK := hide hk
      have HA := hide hall
      clear hk hall
      by_cases hlt : k < P
      · have hgo := HGO.out k hlt
        obtain ⟨b, o, hkl, rfl, hb, hcell⟩ := HR.out.bool (k := k) (by omega)
        have hget : (L.drop fr)[k]? = some (L.drop fr)[k] := List.getElem?_eq_getElem hkl
        have hkm : (k : Int) < m := by omega
        generalize (L.drop fr)[k] = bb at *
        have HG := hide hget
        clear hget hkl
        cases bb
        · go_wp2_with fail
          go_roundg (gk - 1)
          case measure => have := HK.out; omega
          case rel => exact ⟨rfl, k + 1, by have := HK.out; omega, by go_num, fun j hj => by
            rcases Nat.lt_or_ge j k with h | h
            · exact HA.out j h
            · obtain rfl : j = k := by omega
              exact HG.out⟩
        · go_wp2_with fail
          try go_ret2
          have hne : ¬ V = 0 := by
            intro h0
            rw [HV.out] at h0
            have h1 := valB_zero_get h0 (j := k) (by rw [HLEN.out]; exact hlt)
            rw [List.getElem?_take, if_pos hlt, HG.out] at h1
            cases h1
          exact hR.out _ _ ⟨by rw [if_neg hne]; rfl, Upd.refl _ _⟩
      · obtain rfl : k = P := by have := HK.out; omega
        have hend := HE.out
        go_wp2_with fail
        try go_ret2
        have hz : V = 0 := by
          rw [HV.out]
          refine valB_of_falses fun j hj => ?_
          have hj' : j < k := by have := HLEN.out; omega
          rw [List.getElem?_take, if_pos hj']
          exact HA.out j hj'
        refine hR.out _ _ ⟨?_, ?_⟩
        · rw [if_pos hz, ← HVE.out]; rfl
        · exact ((Upd.refl (fun b => b = g) wr).setCell (p := ⟨g, 0, none⟩) (fun _ => rfl) _).setCell (p := ⟨g, 1, none⟩) (fun _ => rfl) _

end Go.Proofs.YtcdbfddoanigbaaGreat

/-
  The reference of descriptions: get.
  Conditions: none beyond those of each theorem.
-/
namespace Go.Proofs.YtcdbfddoanigbaaGreat
open Go.RowKit
set_option linter.unusedVariables false
set_option linter.unusedSimpArgs false

theorem takeS_ok {L : List Bool} {n fr : Nat} (h : fr + n ≤ L.length) : takeS L n ⟨fr, 0⟩ = (valB ((L.drop fr).take n), ⟨fr + n, 0⟩) := by
  unfold takeS; rw [if_neg (by simp), if_pos h]
theorem takeS_no {L : List Bool} {n fr : Nat} (h : L.length < fr + n) : takeS L n ⟨fr, 0⟩ = (0, ⟨fr, 3⟩) := by
  unfold takeS; rw [if_neg (by simp), if_neg (by simp only; omega)]

set_option maxHeartbeats 400000 in
theorem rfirst_any (F : Nat → Prop) (g : Nat) (L : List Bool) (fr n : Nat) (w : World) (h : RefAt w F g L fr) (hn : n ≤ 64) (hL : L.length ≤ 2 ^ 40) (hFg : ∀ b, F b → b ≠ g) :
    Calls Tryz.prog 59 #[.pointer (some ⟨g, 0, none⟩), .int .i64 n] w fun e w' =>
      e = .returned (.tuple #[.int .u64 ((takeS L n ⟨fr, 0⟩).1 : Nat), .int .i64 (takeS L n ⟨fr, 0⟩).2.e]) ∧ Upd (fun b => b = g) w w' ∧ RefAt w' F g L (takeS L n ⟨fr, 0⟩).2.fr := by
  by_cases hs : fr + n ≤ L.length
  · rw [takeS_ok hs]
    exact rfirst_ok F g L fr n w h hn hs hL hFg
  · rw [takeS_no (by omega)]
    exact (rfirst_short F g L fr n w h hn (by omega) hL).mono fun e w' ⟨h1, h2⟩ => ⟨h1, h2 ▸ Upd.refl _ _, h2 ▸ h⟩

/-- the two ways of reading a number -/
theorem numberS_one {L : List Bool} {m : Nat} {σ : St} (h : (takeS L (cutB m) σ).1 < cutU m) : numberS L m σ = takeS L (cutB m) σ := by unfold numberS; rw [if_pos h]
theorem numberS_two {L : List Bool} {m : Nat} {σ : St} (h : ¬ (takeS L (cutB m) σ).1 < cutU m) :
    numberS L m σ = (2 * (takeS L (cutB m) σ).1 + (takeS L 1 (takeS L (cutB m) σ).2).1 - cutU m, (takeS L 1 (takeS L (cutB m) σ).2).2) := by unfold numberS; rw [if_neg h]

set_option maxRecDepth 100000 in
set_option maxHeartbeats 2000000 in
theorem rget_any (F : Nat → Prop) (g : Nat) (L : List Bool) (fr m : Nat) (w : World) (h : RefAt w F g L fr) (h0 : 1 ≤ m) (h600 : m ≤ 600) (hL : L.length ≤ 2 ^ 40) (hFg : ∀ b, F b → b ≠ g) :
    Calls Tryz.prog 86 #[.pointer (some ⟨g, 0, none⟩), .int .i64 m] w fun e w' =>
      e = .returned (.tuple #[.int .i64 ((numberS L m ⟨fr, 0⟩).1 : Nat), .int .i64 (numberS L m ⟨fr, 0⟩).2.e]) ∧ Upd (fun b => b = g) w w' ∧ RefAt w' F g L (numberS L m ⟨fr, 0⟩).2.fr := by
  have hl := least_any m w h0 h600
  have hb9 : cutB m ≤ 9 := by have := cutB_le m 10 (by omega) (by omega) (by omega); omega
  have hsz := size_any (cutB m) w hb9
  have hu : cutU m = 2 ^ (cutB m + 1) - m := rfl
  have hc := (cut_bounds m (by omega) (by omega)).2
  have hf := rfirst_any F g L fr (cutB m) w h (by omega) hL hFg
  have hlt := takeS_lt L (cutB m) ⟨fr, 0⟩
  have hone := @numberS_one L m ⟨fr, 0⟩
  have htwo := @numberS_two L m ⟨fr, 0⟩
  have hno : fr + cutB m ≤ L.length ∨ takeS L (cutB m) ⟨fr, 0⟩ = (0, ⟨fr, 3⟩) := by
    by_cases hs : fr + cutB m ≤ L.length
    · exact .inl hs
    · exact .inr (takeS_no (by omega))
  have hyes : fr + cutB m ≤ L.length → (takeS L (cutB m) ⟨fr, 0⟩).2 = ⟨fr + cutB m, 0⟩ := fun hs => by rw [takeS_ok hs]
  rw [Nat.pow_succ] at hu hc
  have hp9 : 2 ^ cutB m ≤ 512 := Nat.le_trans (Nat.pow_le_pow_right (n := 2) (by omega) hb9) (by decide)
  generalize cutU m = u at *
  generalize cutB m = b at *
  generalize 2 ^ b = q at *
  have huv : 2 * (q : Int) - m = u := by omega
  have hu0 : 0 < u := by omega
  have hqI : (q : Int) ≤ 512 := by omega
  have hbI : (b : Int) ≤ 9 := by omega
  have hmI : (m : Int) ≤ 600 := by omega
  have huI : (u : Int) ≤ 1024 := by omega
  obtain ⟨X, hX⟩ : ∃ X, X = takeS L b ⟨fr, 0⟩ := ⟨_, rfl⟩
  obtain ⟨Y, hY⟩ : ∃ Y, Y = numberS L m ⟨fr, 0⟩ := ⟨_, rfl⟩
  rw [← hX] at hf hlt hone htwo hno hyes
  rw [← hY] at hone htwo ⊢
  obtain ⟨t, fr1, e1⟩ := X
  simp only at hf hlt hone htwo hno hyes
  have HL := hide hl
  have HSZ := hide hsz
  have HF := hide hf
  have HH := hide h
  have htI : (t : Int) ≤ 512 := by omega
  have ht64 : wrap64 (t : Int) = t := by unfold wrap64; omega
  clear hl hsz hf h hX hY hu hc hp9
  refine veil fun R hR => ?_
  rcases hno with hs | hs
  · have he := hyes hs
    injection he with he1 he2
    subst he1 he2
    have HONE := hide hone
    have HTWO := hide htwo
    clear hone htwo hyes hlt
    by_cases hlt : t < u
    · have hltI : (t : Int) < u := by omega
      have hy := HONE.out hlt
      subst hy
      clear HONE HTWO
      go_enter Tryz.func86, Tryz.ntmps86
      go_wp2_with fail
      refine HL.out.mono ?_
      rintro e w1 ⟨rfl, rfl⟩
      go_wp2_with fail
      refine HSZ.out.mono ?_
      rintro e w1 ⟨rfl, rfl⟩
      go_wp2_with fail
      refine HF.out.mono ?_
      rintro e w1 ⟨rfl, u1, r1⟩
      have U1 := hide u1
      have R1 := hide r1
      clear u1 r1
      go_wp2_with fail
      try go_ret2
      exact hR.out _ _ ⟨rfl, U1.out, R1.out⟩
    · have hltI : (u : Int) ≤ t := by omega
      have hy := HTWO.out hlt
      have hf1 := fun W (hW : RefAt W F g L (fr + b)) => rfirst_any F g L (fr + b) 1 W hW (by omega) hL hFg
      have hlt2 := takeS_lt L 1 ⟨fr + b, 0⟩
      obtain ⟨Z, hZ⟩ : ∃ Z, Z = takeS L 1 ⟨fr + b, 0⟩ := ⟨_, rfl⟩
      simp only [← hZ] at hy hf1 hlt2
      obtain ⟨c, fr2, e2⟩ := Z
      simp only at hy hf1 hlt2
      have hcI : (c : Int) ≤ 1 := by omega
      have hc64 : wrap64 (c : Int) = c := by unfold wrap64; omega
      subst hy
      have hv : 2 * (t : Int) + c - u = ((2 * t + c - u : Nat) : Int) := by omega
      have HV := hide hv
      have HF1 := hide hf1
      clear hv hf1 hZ HONE HTWO hlt2
      go_enter Tryz.func86, Tryz.ntmps86
      go_wp2_with fail
      refine HL.out.mono ?_
      rintro e w1 ⟨rfl, rfl⟩
      go_wp2_with fail
      refine HSZ.out.mono ?_
      rintro e w1 ⟨rfl, rfl⟩
      go_wp2_with fail
      refine HF.out.mono ?_
      rintro e w1 ⟨rfl, u1, r1⟩
      have U1 := hide u1
      have hf2 := HF1.out w1 r1
      have HF2 := hide hf2
      clear u1 r1 hf2
      go_wp2_with fail
      refine HF2.out.mono ?_
      rintro e w2 ⟨rfl, u2, r2⟩
      have U2 := hide (U1.out.trans' u2)
      have R2 := hide r2
      clear u2 r2
      go_wp2_with fail
      try go_ret2
      refine hR.out _ _ ⟨?_, U2.out, R2.out⟩
      rw [← HV.out]
      rfl
  · injection hs with hs1 hs2
    injection hs2 with hs2 hs3
    subst hs1 hs2 hs3
    have hy := hone hu0
    subst hy
    clear hone htwo hyes hlt
    go_enter Tryz.func86, Tryz.ntmps86
    go_wp2_with fail
    refine HL.out.mono ?_
    rintro e w1 ⟨rfl, rfl⟩
    go_wp2_with fail
    refine HSZ.out.mono ?_
    rintro e w1 ⟨rfl, rfl⟩
    go_wp2_with fail
    refine HF.out.mono ?_
    rintro e w1 ⟨rfl, u1, r1⟩
    have U1 := hide u1
    have R1 := hide r1
    clear u1 r1
    go_wp2_with fail
    try go_ret2
    exact hR.out _ _ ⟨rfl, U1.out, R1.out⟩

end Go.Proofs.YtcdbfddoanigbaaGreat

/-
  The reference of descriptions: norms.
  Conditions: none beyond those of each theorem.
-/
namespace Go.Proofs.YtcdbfddoanigbaaGreat
open Go.RowKit
set_option linter.unusedVariables false
set_option linter.unusedSimpArgs false

theorem noughtsS_go {room : Int} {L : List Bool} {f len fr : Nat} (h : (len : Int) < room) : noughtsS room L (f + 1) 3 len ⟨fr, 0⟩ = noughtsS room L f (takeS L 2 ⟨fr, 0⟩).1 (len + (takeS L 2 ⟨fr, 0⟩).1) (takeS L 2 ⟨fr, 0⟩).2 := by
  conv => lhs; unfold noughtsS
  have hm : mustS (decide ((len : Int) < room)) 13 ⟨fr, 0⟩ = (true, ⟨fr, 0⟩) := by unfold mustS; simp [h]
  rw [hm]; simp
theorem noughtsS_full {room : Int} {L : List Bool} {f len fr : Nat} (h : room ≤ len) : noughtsS room L (f + 1) 3 len ⟨fr, 0⟩ = (len, ⟨fr, 13⟩) := by
  conv => lhs; unfold noughtsS
  have hm : mustS (decide ((len : Int) < room)) 13 ⟨fr, 0⟩ = (false, ⟨fr, 13⟩) := by unfold mustS; simp; omega
  rw [hm]; simp

theorem eq3 (k : Nat) : ((k : Int) == 3) = decide (k = 3) := by rw [Bool.eq_iff_iff]; simp; omega
theorem wrap_small (k : Nat) (h : k < 4) : wrap64 (k : Int) = k := by unfold wrap64; omega

theorem tableS_full {sy : Int} {L : List Bool} {f left fr : Nat} {N : List Int} {ran : Bool} (h : 0 < left) (h2 : sy ≤ N.length) : tableS sy L (f + 1) left N ran ⟨fr, 0⟩ = (N, ⟨fr, 13⟩) := by
  have hm : mustS (decide ((N.length : Int) < sy)) 13 ⟨fr, 0⟩ = (false, ⟨fr, 13⟩) := by unfold mustS; simp; omega
  rw [tableS_fail sy L f left N ran _ h (by rw [hm]), hm]
theorem must_room {sy : Int} {N : List Int} {fr : Nat} (h : (N.length : Int) < sy) : (mustS (decide ((N.length : Int) < sy)) 13 ⟨fr, 0⟩).1 = true := by unfold mustS; simp [h]

set_option maxRecDepth 100000 in
set_option maxHeartbeats 8000000 in
theorem rnorms_any (F : Nat → Prop) (g : Nat) (L : List Bool) (fr left : Nat) (sy : Int) (w : World) (h : RefAt w F g L fr) (hl : left ≤ 512) (hsy : sy ≤ 256) (hL : L.length ≤ 2 ^ 40) (hFg : ∀ b, F b → b ≠ g) (hFw : ∀ b, F b → b < w.heap.size) (hgw : g < w.heap.size) :
    Calls Tryz.prog 60 #[.pointer (some ⟨g, 0, none⟩), .int .i64 left, .int .i64 sy] w fun e w' =>
      ∃ v : Value, e = .returned (.tuple #[v, .int .i64 (tableS sy L 600 left [] false ⟨fr, 0⟩).2.e]) ∧ Upd (fun b => b = g) w w' ∧
        ((tableS sy L 600 left [] false ⟨fr, 0⟩).2.e = 0 → Own w' 3 v (ints (tableS sy L 600 left [] false ⟨fr, 0⟩).1) ∧ (∀ b, v.ownBlock = some b → w.heap.size ≤ b) ∧ RefAt w' F g L (tableS sy L 600 left [] false ⟨fr, 0⟩).2.fr ∧
          (tableS sy L 600 left [] false ⟨fr, 0⟩).1.length ≤ 1000) := by
  obtain ⟨T, hT⟩ : ∃ T, T = tableS sy L 600 left [] false ⟨fr, 0⟩ := ⟨_, rfl⟩
  rw [← hT]
  have HT := hide hT.symm
  have HR := hide h
  have HFG := hide hFg
  have hget := fun fr' m W (hW : RefAt W F g L fr') h1 h2 => rget_any F g L fr' m W hW h1 h2 hL hFg
  have HGET := hide hget
  have hfst := fun fr' n W (hW : RefAt W F g L fr') h1 => rfirst_any F g L fr' n W hW h1 hL hFg
  have HFST := hide hfst
  have HFW := hide hFw
  have hlI : (left : Int) ≤ 512 := by omega
  have hbad : ∀ (q : Int) (W : World), Upd (fun b => b = g) w W → T.2.e = q → q ≠ 0 → ∃ v : Value, Ending.returned (.tuple #[.slice none 0 0, .int .i64 q]) = .returned (.tuple #[v, .int .i64 T.2.e]) ∧ Upd (fun b => b = g) w W ∧
        (T.2.e = 0 → Own W 3 v (ints T.1) ∧ (∀ b, v.ownBlock = some b → w.heap.size ≤ b) ∧ RefAt W F g L T.2.fr ∧ T.1.length ≤ 1000) := by
    intro q W hu hq hq0
    exact ⟨_, by rw [hq], hu, fun h0 => absurd (hq.symm.trans h0) hq0⟩
  have HBAD := hide hbad
  clear hT h hFg hget hfst hbad hFw
  refine veil fun R hR => ?_
  go_enter Tryz.func60, Tryz.ntmps60
  go_wp2_with fail
  go_loopg [1, 8, 9] 600 (fun f l s r wr => ∃ (lf fr' : Nat) (N : List Int) (ran : Bool), l = .int .i64 lf ∧ r = .bool ran ∧ Own wr 3 s (ints N) ∧ (∀ b, s.ownBlock = some b → w.heap.size ≤ b) ∧ Upd (fun b => b = g) w wr ∧
    RefAt wr F g L fr' ∧ tableS sy L f lf N ran ⟨fr', 0⟩ = T ∧ lf ≤ 512 ∧ 600 ≤ f + min N.length 257 ∧ N.length ≤ 600)
  case atStart => exact ⟨left, fr, [], false, rfl, rfl, Own.nil _ _, by simp [Value.ownBlock], Upd.refl _ _, HR.out, HT.out, hl, by simp, by simp⟩
  case round =>
    obtain ⟨lf, fr', N, ran, rfl, rfl, ho, hob, hu, hr, htot, hlf, hf, hNl⟩ := hrel
    obtain ⟨A, n, c, rfl, hn⟩ := ho.form'
    have hnN : n = N.length := by have := hn.out; simpa using this
    have HO := hide ho
    have HOB := hide hob
    have HU := hide hu
    have HRR := hide hr
    have HTOT := hide htot
    have HNN := hide hnN
    have hnI : (n : Int) ≤ 600 := by omega
    have hlfI : (lf : Int) ≤ 512 := by omega
    clear ho hob hu hr htot hn hnN
    by_cases hl0 : 0 < lf
    · obtain ⟨f, rfl⟩ : ∃ f, gk = f + 1 := ⟨gk - 1, by omega⟩
      have hl0I : 0 < (lf : Int) := by omega
      by_cases hfull : sy ≤ n
      · have ht := HTOT.out
        rw [tableS_full hl0 (by rw [← HNN.out]; exact hfull)] at ht
        have he : T.2.e = 13 := by rw [← ht]
        have HE := hide he
        clear ht he
        go_wp2_with fail
        try go_ret2
        exact hR.out _ _ (HBAD.out 13 _ HU.out HE.out (by omega))
      · have hroom : (n : Int) < sy := by omega
        have hm1 := must_room (fr := fr') (N := N) (sy := sy) (by rw [← HNN.out]; exact hroom)
        have hgg := HGET.out fr' (lf + 2) wr HRR.out (by omega) (by omega)
        have hyl := numberS_lt L (lf + 2) ⟨fr', 0⟩ (by omega) (by omega)
        obtain ⟨Y, hY⟩ : ∃ Y, Y = numberS L (lf + 2) ⟨fr', 0⟩ := ⟨_, rfl⟩
        rw [← hY] at hgg hyl
        obtain ⟨y, fr6, e6⟩ := Y
        simp only at hgg hyl
        rw [show ((lf + 2 : Nat) : Int) = (lf : Int) + 2 by omega] at hgg
        have HG := hide hgg
        have HY := hide hY.symm
        have HM1 := hide hm1
        have hyI : (y : Int) ≤ 513 := by omega
        clear hgg hY hm1 hfull
        by_cases he6 : e6 = 0
        · subst he6
          by_cases hyr : y = 1 ∧ ran = true
          · obtain ⟨rfl, rfl⟩ := hyr
            have hm2 : mustS (((1 : Nat) : Int) - 1 != 0 || !true) 13 ⟨fr6, 0⟩ = (false, ⟨fr6, 13⟩) := rfl
            have ht := tableS_stop sy L f lf N true ⟨fr', 0⟩ 1 ⟨fr6, 0⟩ hl0 HM1.out HY.out (by rw [hm2])
            rw [HTOT.out, hm2] at ht
            have he : T.2.e = 13 := by rw [ht]
            have HE := hide he
            clear ht he hm2
            go_wp2_with fail
            refine HG.out.mono ?_
            rintro e w1 ⟨rfl, u1, r1⟩
            have U1 := hide (HU.out.trans' u1)
            clear u1 r1
            go_wp2_with fail
            try go_ret2
            exact hR.out _ _ (HBAD.out 13 _ U1.out HE.out (by omega))
          · have hm2 : mustS ((y : Int) - 1 != 0 || !ran) 13 ⟨fr6, 0⟩ = (true, ⟨fr6, 0⟩) := by
              have hb : ((y : Int) - 1 != 0 || !ran) = true := by
                by_cases h1 : y = 1
                · have : ran = false := by
                    cases ran with
                    | false => rfl
                    | true => exact absurd ⟨h1, rfl⟩ hyr
                  rw [this]; simp
                · have : ((y : Int) - 1 != 0) = true := by simp; omega
                  rw [this]; rfl
              unfold mustS; simp [hb]
            have hm21 : (mustS ((y : Int) - 1 != 0 || !ran) 13 ⟨fr6, 0⟩).1 = true := by rw [hm2]
            have hlen1 : (ints N).length + 1 ≤ 2 ^ 40 := by simp; omega
            have HLEN1 := hide hlen1
            have hyw : ((y : Int) == 1) = decide (y = 1) := by rw [Bool.eq_iff_iff]; simp; omega
            by_cases hy1 : y = 1
            · have hran : ran = false := by
                cases ran with
                | false => rfl
                | true => exact absurd ⟨hy1, rfl⟩ hyr
              subst hy1 hran
              have ht := tableS_zero sy L f lf N false ⟨fr', 0⟩ 1 ⟨fr6, 0⟩ hl0 HM1.out HY.out hm21 rfl
              rw [HTOT.out] at ht
              have HTZ := hide ht.symm
              have hsta := hide (fun W => states_any 0 W)
              clear ht hm2 hm21 hyr hlen1 hyw
              go_wp2_with fail
              refine HG.out.mono ?_
              rintro e w1 ⟨rfl, u1, r1⟩
              have o1 := HO.out.upd u1 (fun b hb h => by have := HOB.out b hb; omega)
              have O1 := hide o1
              have U1 := hide (HU.out.trans' u1)
              have R1 := hide r1
              clear u1 r1 o1 HG
              go_wp2_with (at_builtin; go_must (refine wpList_app _ rfl (.tmp 37) (.tmp 40) _ rfl 3 _ 8 Tryz.underlying22 infoInt rfl _ _ rfl (O1.out.alloc _) _ 1 _ _ rfl (Rd.one w1 3 (.int .i64 0)) (by simp [Value.oneCell']) (by omega) HLEN1.out ?_))
              intro v2 w2 o2 g2 a2
              rw [show ints N ++ [.int .i64 0] = ints (N ++ [0]) by simp [ints]] at o2
              have b2 : ∀ kk, v2.ownBlock = some kk → w.heap.size ≤ kk := own_S (S := fun kk => w.heap.size ≤ kk) a2 HOB.out (by have := U1.out.size; simp; omega)
              have u2 : Upd (fun b => b = g) w w2 := (U1.out.alloc _).grown g2 (fun kk hkk hlt => by have := HOB.out kk hkk; omega)
              have ug : Upd (fun b => (Value.slice A n c).ownBlock = some b) w1 w2 := ((Upd.refl _ w1).alloc _).grown g2 (fun kk hkk _ => hkk)
              have r2 : RefAt w2 F g L fr6 := R1.out.upd ug (fun h => by have := HOB.out g h; omega) (fun b hb hF h => by have := HOB.out b h; have := HFW.out b hF; omega)
              obtain ⟨Z, hZ⟩ : ∃ Z, Z = noughtsS (sy - (N.length + 1 : Nat)) L 300 3 0 ⟨fr6, 0⟩ := ⟨_, rfl⟩
              rw [← hZ] at HTZ
              have HZ := hide hZ
              have O2 := hide o2
              have B2 := hide b2
              have U2 := hide u2
              have R2 := hide r2
              clear o2 g2 a2 b2 u2 ug r2 hZ O1 U1 R1 HLEN1
              go_wp2_with fail
              refine (hsta.out _).mono ?_
              rintro e w3 ⟨rfl, rfl⟩
              go_wp2_with fail
              go_loopg [8, 12] 300 (fun f2 s mo wr => ∃ (kk len fr2 : Nat), mo = .bool (decide (kk = 3)) ∧ Own wr 3 s (ints (N ++ [0] ++ List.replicate len 0)) ∧ (∀ b, s.ownBlock = some b → w.heap.size ≤ b) ∧ Upd (fun b => b = g) w wr ∧
                RefAt wr F g L fr2 ∧ noughtsS (sy - (N.length + 1 : Nat)) L f2 kk len ⟨fr2, 0⟩ = Z ∧ (kk = 3 → 900 ≤ 3 * f2 + len) ∧ len ≤ 260 ∧ kk < 4)
              case atStart => exact ⟨3, 0, fr6, rfl, by simpa using O2.out, B2.out, U2.out, R2.out, HZ.out.symm, by omega, by omega, by omega⟩
              case round =>
                obtain ⟨kk, len, fr2, rfl, ho, hob, hu, hr, hno, h900, hlen, hk4⟩ := hrel
                obtain ⟨A5, n5, c5, rfl, hn5⟩ := ho.form'
                have hn5' : (n5 : Int) = (n : Int) + 1 + len := by have h1 := hn5.out; have h2 := HNN.out; simp at h1; omega
                have HO5 := hide ho
                have HOB5 := hide hob
                have HU5 := hide hu
                have HR5 := hide hr
                have HNO := hide hno
                have H900 := hide h900
                have HLEN5 := hide hlen
                have HN5 := hide hn5'
                have hn5I : (n5 : Int) ≤ 1000 := by omega
                clear ho hob hu hr hno h900 hn5 hn5' hlen
                by_cases hk3 : kk = 3
                · subst hk3
                  obtain ⟨f2, hf2⟩ : ∃ f2, gk = f2 + 1 := ⟨gk - 1, by have := H900.out rfl; have := HLEN5.out; omega⟩
                  subst hf2
                  by_cases hfull2 : sy ≤ n5
                  · have hno := HNO.out
                    rw [noughtsS_full (by have := HN5.out; have := HNN.out; omega)] at hno
                    have he : T.2.e = 13 := by
                      have h1 := HTZ.out
                      rw [← hno, ] at h1
                      rw [← h1, tableS_stick (by simp)]
                    have HE := hide he
                    clear hno he
                    go_wp2_with fail
                    try go_ret2
                    exact hR.out _ _ (HBAD.out 13 _ HU5.out HE.out (by omega))
                  · have hroom2 : (n5 : Int) < sy := by omega
                    have hno := HNO.out
                    rw [noughtsS_go (by have := HN5.out; have := HNN.out; omega)] at hno
                    have hf5 := HFST.out fr2 2 _ HR5.out (by omega)
                    have hxl := takeS_lt L 2 ⟨fr2, 0⟩
                    have hxx : takeS L 2 ⟨fr2, 0⟩ = (0, ⟨fr2, 3⟩) ∨ ∃ k5, takeS L 2 ⟨fr2, 0⟩ = (k5, ⟨fr2 + 2, 0⟩) := by
                      by_cases hs : fr2 + 2 ≤ L.length
                      · exact .inr ⟨_, takeS_ok hs⟩
                      · exact .inl (takeS_no (by omega))
                    generalize takeS L 2 ⟨fr2, 0⟩ = X at *
                    clear hfull2
                    rcases hxx with hxx | ⟨k5, hxx⟩
                    · subst hxx
                      simp only at hno hf5
                      rw [noughtsS_last (by omega)] at hno
                      have he : T.2.e = 3 := by
                        have h1 := HTZ.out
                        rw [← hno] at h1
                        rw [← h1, tableS_stick (by simp)]
                      have HE := hide he
                      have HF5 := hide hf5
                      clear hno he hf5 hxl
                      go_wp2_with fail
                      refine HF5.out.mono ?_
                      rintro e w5 ⟨rfl, u5, r5⟩
                      have U5 := hide (HU5.out.trans' u5)
                      clear u5 r5
                      go_wp2_with fail
                      try go_ret2
                      exact hR.out _ _ (HBAD.out 3 _ U5.out HE.out (by omega))
                    · subst hxx
                      simp only at hno hf5 hxl
                      have HF5 := hide hf5
                      have HNO5 := hide hno
                      have hk5I : (k5 : Int) < 4 := by omega
                      have HK5W := hide (wrap_small k5 (by omega))
                      have hk5d := eq3 k5
                      have HK5D := hide hk5d
                      clear hno hf5 hxl hk5d
                      go_wp2_with fail
                      refine HF5.out.mono ?_
                      rintro e w5 ⟨rfl, u5, r5⟩
                      have o5 := HO5.out.upd u5 (fun b hb h => by have := HOB5.out b hb; omega)
                      have O5 := hide o5
                      have U5 := hide (HU5.out.trans' u5)
                      have R5 := hide r5
                      clear u5 r5 o5
                      go_wp2_with fail
                      go_loopg [8, 15] k5 (fun m s j wr => ∃ jj : Nat, jj + m = k5 ∧ j = .int .i64 jj ∧ Own wr 3 s (ints (N ++ [0] ++ List.replicate (len + jj) 0)) ∧ (∀ b, s.ownBlock = some b → w.heap.size ≤ b) ∧ Upd (fun b => b = g) w wr ∧
                        RefAt wr F g L (fr2 + 2))
                      case atStart => exact ⟨0, by omega, rfl, by simpa using O5.out, HOB5.out, U5.out, R5.out⟩
                      case round =>
                        obtain ⟨jj, hjj, rfl, ho, hob, hu, hr⟩ := hrel
                        have HJJ := hide hjj
                        have HO6 := hide ho
                        have HOB6 := hide hob
                        have HU6 := hide hu
                        have HR6 := hide hr
                        have hlen6 : (ints (N ++ [0] ++ List.replicate (len + jj) 0)).length + 1 ≤ 2 ^ 40 := by have := HLEN5.out; rw [ints_length]; simp; omega
                        have HLEN6 := hide hlen6
                        clear hjj ho hob hu hr hlen6
                        by_cases hjl : jj < k5
                        · have hjlI : (jj : Int) < k5 := by omega
                          go_wp2_with (at_builtin; go_must (refine wpList_app _ rfl (.tmp 69) (.tmp 70) _ rfl 3 _ 8 Tryz.underlying22 infoInt rfl _ _ rfl (HO6.out.alloc _) _ 1 _ _ rfl (Rd.one wr 3 (.int .i64 0)) (by simp [Value.oneCell']) (by decide) HLEN6.out ?_))
                          intro v7 w7 o7 g7 a7
                          try clear hk5w
                          have b7 : ∀ q, v7.ownBlock = some q → w.heap.size ≤ q := own_S (S := fun q => w.heap.size ≤ q) a7 HOB6.out (by have := HU6.out.size; simp; omega)
                          have u7 : Upd (fun b => b = g) w w7 := (HU6.out.alloc _).grown g7 (fun q hq hlt => by have := HOB6.out q hq; omega)
                          have ug : Upd (fun b => w.heap.size ≤ b) wr w7 := ((Upd.refl _ wr).alloc _).grown g7 (fun q hq _ => HOB6.out q hq)
                          have r7 : RefAt w7 F g L (fr2 + 2) := HR6.out.upd ug (fun h => by omega) (fun b hb hF h => by have := HFW.out b hF; omega)
                          have O7 := hide o7
                          have B7 := hide b7
                          have U7 := hide u7
                          have R7 := hide r7
                          clear o7 g7 a7 b7 u7 ug r7
                          go_wp2_with fail
                          go_roundg (gk - 1)
                          case measure => have := HJJ.out; omega
                          case rel =>
                            refine ⟨jj + 1, by have := HJJ.out; omega, by go_num, ?_, B7.out, U7.out, R7.out⟩
                            have h := O7.out
                            rw [← Nat.add_assoc, List.replicate_succ']
                            simpa [ints] using h
                        · obtain rfl : jj = k5 := by have := HJJ.out; omega
                          have hk5w := HK5W.out
                          go_wp2_with fail
                          try clear hk5w
                          go_roundg f2
                          case measure => omega
                          case rel => exact ⟨jj, len + jj, fr2 + 2, by rw [← HK5D.out], HO6.out, HOB6.out, HU6.out, HR6.out, HNO5.out, fun h => by have := H900.out (by trivial); omega, by have := HN5.out; omega, by omega⟩
                · have hk3' : decide (kk = 3) = false := by simpa using hk3
                  have hno := HNO.out
                  rw [noughtsS_last hk3] at hno
                  have htz := HTZ.out
                  rw [← hno] at htz
                  have HTZ2 := hide htz
                  clear hno htz
                  go_wp2_with fail
                  go_roundg f
                  case measure => omega
                  case rel => exact ⟨lf, fr2, _, true, rfl, rfl, HO5.out, HOB5.out, HU5.out, HR5.out, HTZ2.out, by omega, by have := HNN.out; simp; omega, by have := HNN.out; have := HLEN5.out; have := HN5.out; simp; omega⟩
            · have hz1 : -1 ≤ (y : Int) - 1 := by omega
              have hne : (y : Int) - 1 ≠ 0 := by omega
              have ht := tableS_ne sy L f lf N ran ⟨fr', 0⟩ y ⟨fr6, 0⟩ hl0 HM1.out HY.out hm21 hne
              rw [HTOT.out] at ht
              have HTZ := hide ht.symm
              have hsta := fun W => states_any ((y : Int) - 1) W
              have ha : (if (y : Int) - 1 = -1 then 1 else (y : Int) - 1) = absZ ((y : Int) - 1) := by
                unfold absZ
                by_cases h : (y : Int) - 1 = -1
                · rw [if_pos h, if_pos (by omega)]; omega
                · rw [if_neg h, if_neg (by omega)]
              simp only [ha] at hsta
              have hsub : (lf : Int) - absZ ((y : Int) - 1) = ((lf - ((y : Int) - 1).natAbs : Nat) : Int) := by unfold absZ; split <;> omega
              have hq1 : absZ ((y : Int) - 1) ≤ 512 := by unfold absZ; split <;> omega
              have hq0 := absZ_nonneg ((y : Int) - 1)
              obtain ⟨q, hq⟩ : ∃ q, q = absZ ((y : Int) - 1) := ⟨_, rfl⟩
              simp only [← hq] at hsta hsub hq1 hq0
              have HSTA := hide hsta
              have HSUB := hide hsub
              have hyf : ((y : Int) == 1) = false := by simp; omega
              have hlf2 : lf - ((y : Int) - 1).natAbs ≤ 512 := by omega
              have HLF2 := hide hlf2
              clear ht hm2 hm21 hyr hlen1 hyw hsta hsub ha hq hne hy1 hlf2
              go_wp2_with fail
              refine HG.out.mono ?_
              rintro e w1 ⟨rfl, u1, r1⟩
              have o1 := HO.out.upd u1 (fun b hb h => by have := HOB.out b hb; omega)
              have O1 := hide o1
              have U1 := hide (HU.out.trans' u1)
              have R1 := hide r1
              clear u1 r1 o1 HG
              go_wp2_with (at_builtin; go_must (refine wpList_app _ rfl (.tmp 37) (.tmp 40) _ rfl 3 _ 8 Tryz.underlying22 infoInt rfl _ _ rfl (O1.out.alloc _) _ 1 _ _ rfl (Rd.one w1 3 (.int .i64 ((y : Int) - 1))) (by simp [Value.oneCell']) (by omega) HLEN1.out ?_))
              intro v2 w2 o2 g2 a2
              rw [show ints N ++ [.int .i64 ((y : Int) - 1)] = ints (N ++ [(y : Int) - 1]) by simp [ints]] at o2
              have b2 : ∀ kk, v2.ownBlock = some kk → w.heap.size ≤ kk := own_S (S := fun kk => w.heap.size ≤ kk) a2 HOB.out (by have := U1.out.size; simp; omega)
              have u2 : Upd (fun b => b = g) w w2 := (U1.out.alloc _).grown g2 (fun kk hkk hlt => by have := HOB.out kk hkk; omega)
              have ug : Upd (fun b => (Value.slice A n c).ownBlock = some b) w1 w2 := ((Upd.refl _ w1).alloc _).grown g2 (fun kk hkk _ => hkk)
              have r2 : RefAt w2 F g L fr6 := R1.out.upd ug (fun h => by have := HOB.out g h; omega) (fun b hb hF h => by have := HOB.out b h; have := HFW.out b hF; omega)
              have O2 := hide o2
              have B2 := hide b2
              have U2 := hide u2
              have R2 := hide r2
              clear o2 g2 a2 b2 u2 ug r2 O1 U1 R1 HLEN1
              go_wp2_with fail
              refine (HSTA.out _).mono ?_
              rintro e w3 ⟨rfl, rfl⟩
              go_wp2_with fail
              go_loopg [8, 12] 0 (fun m s mo wr => wr = w2 ∧ s = v2 ∧ mo = .bool false)
              case atStart => exact ⟨rfl, rfl, rfl⟩
              case round =>
                obtain ⟨rfl, rfl, rfl⟩ := hrel
                go_wp2_with fail
                go_roundg f
                case measure => omega
                case rel => exact ⟨lf - ((y : Int) - 1).natAbs, fr6, _, false, by rw [← HSUB.out], rfl, O2.out, B2.out, U2.out, R2.out, HTZ.out, HLF2.out, by have := HNN.out; simp; omega, by have := HNN.out; simp; omega⟩
        · have hm2 : mustS ((y : Int) - 1 != 0 || !ran) 13 ⟨fr6, e6⟩ = (false, ⟨fr6, e6⟩) := by unfold mustS; rw [if_neg (by simpa using he6)]
          have ht := tableS_stop sy L f lf N ran ⟨fr', 0⟩ y ⟨fr6, e6⟩ hl0 HM1.out HY.out (by rw [hm2])
          rw [HTOT.out, hm2] at ht
          have he : T.2.e = e6 := by rw [ht]
          have HE := hide he
          have he6' : (e6 != 0) = true := by simpa using he6
          have HE6 := hide he6
          clear ht he hm2 he6
          go_wp2_with fail
          refine HG.out.mono ?_
          rintro e w1 ⟨rfl, u1, r1⟩
          have U1 := hide (HU.out.trans' u1)
          clear u1 r1
          go_wp2_with fail
          try go_ret2
          exact hR.out _ _ (HBAD.out e6 _ U1.out HE.out HE6.out)
    · obtain rfl : lf = 0 := by omega
      have ht : T = (N, ⟨fr', 0⟩) := by
        rw [← HTOT.out]
        cases gk with
        | zero => rfl
        | succ f => simp [tableS]
      have HTT := hide ht
      clear ht
      go_wp2_with fail
      try go_ret2
      refine hR.out _ _ ⟨.slice A n c, ?_, HU.out, fun _ => ?_⟩
      · rw [HTT.out]; rfl
      · rw [HTT.out]
        exact ⟨HO.out, HOB.out, HRR.out, by simp only; omega⟩

end Go.Proofs.YtcdbfddoanigbaaGreat
