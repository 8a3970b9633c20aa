/-
  Joined texts, part 5: contracts and plain lemmas, each under its own heading below.
  Conditions: none beyond those of each theorem.
-/
import Derived.Test.YtcdbfddoanigbaaJ4
/-
  Package norm: the closures of Normalize, furthest.
  Conditions: none beyond those of each theorem.
-/
namespace Go.Proofs.Ytcdbfddoanigbaa
open Go.RowKit
set_option linter.unusedVariables false
set_option linter.unusedSimpArgs false

/-- what the closures of Normalize have captured -/
structure NCap (w : World) (F : Nat → Prop) (A : Option Addr) (n c nc p2 p9 p10 p6 g : Nat) (N M : List Int) (s tot : Int) : Prop where
  b2 : Blk w p2 24 #[.slice A n c]
  b9 : Blk w p9 3 #[.int .i64 s]
  b10 : Blk w p10 24 #[.slice (some ⟨g, 0, none⟩) n nc]
  b6 : Blk w p6 3 #[.int .i64 tot]
  bg : Blk w g 3 (ints M).toArray
  hr : Rd w F A n (ints N)
theorem NCap.fresh {w w' : World} {F : Nat → Prop} {A : Option Addr} {n c nc p2 p9 p10 p6 g : Nat} {N M : List Int} {s tot : Int} (h : NCap w F A n c nc p2 p9 p10 p6 g N M s tot) (hu : Fresh w w') : NCap w' F A n c nc p2 p9 p10 p6 g N M s tot :=
  ⟨h.b2.fresh hu, h.b9.fresh hu, h.b10.fresh hu, h.b6.fresh hu, h.bg.fresh hu, h.hr.fresh hu⟩

/-- only draws -/
def Qt (w w' : World) : Prop := ∃ n, w' = w.drewN n
theorem Qt.refl (w : World) : Qt w w := ⟨0, rfl⟩
theorem Qt.trans {w w' w'' : World} (h : Qt w w') (k : Qt w' w'') : Qt w w'' := by
  obtain ⟨n, rfl⟩ := h
  obtain ⟨m, rfl⟩ := k
  exact ⟨n + m, World.drewN_drewN _ _ _⟩
theorem Qt.fresh {w w' : World} (h : Qt w w') : Fresh w w' := by
  obtain ⟨n, rfl⟩ := h
  exact (Upd.refl _ w).drewN n

/-- counts and norms that do not overflow -/
def NBd (N M : List Int) (s tot : Int) : Prop := 0 ≤ s ∧ s ≤ 512 ∧ 0 ≤ tot ∧ tot ≤ 1099511627776 ∧ (∀ x ∈ N, 0 ≤ x ∧ x ≤ 1099511627776) ∧ ∀ y ∈ M, 0 ≤ y ∧ y ≤ 2000
theorem NBd.mul {N M : List Int} {s tot : Int} (h : NBd N M s tot) {x y : Int} (hx : x ∈ N) (hy : y ∈ M) : 0 ≤ x * s ∧ x * s ≤ 562949953421312 ∧ 0 ≤ y * tot ∧ y * tot ≤ 2199023255552000 := by
  obtain ⟨h1, h2, h3, h4, h5, h6⟩ := h
  obtain ⟨hx0, hx1⟩ := h5 x hx
  obtain ⟨hy0, hy1⟩ := h6 y hy
  have e1 : x * s ≤ 1099511627776 * 512 := Int.le_trans (Int.mul_le_mul_of_nonneg_right hx1 h1) (Int.mul_le_mul_of_nonneg_left h2 (by omega))
  have e2 : y * tot ≤ 2000 * 1099511627776 := Int.le_trans (Int.mul_le_mul_of_nonneg_right hy1 h3) (Int.mul_le_mul_of_nonneg_left h4 (by omega))
  exact ⟨Int.mul_nonneg hx0 h1, by omega, Int.mul_nonneg hy0 h3, by omega⟩

set_option maxRecDepth 100000 in
set_option maxHeartbeats 1000000 in
theorem above_any (F : Nat → Prop) (A : Option Addr) (n c nc p2 p9 p10 p6 g : Nat) (N M : List Int) (s tot : Int) (w : World) (hc : NCap w F A n c nc p2 p9 p10 p6 g N M s tot) (hb : NBd N M s tot) (hn : (n : Int) ≤ 1099511627776)
    (i : Nat) (x y : Int) (hx : N[i]? = some x) (hy : M[i]? = some y) (hi : i < n) :
    Calls Try.prog 77 #[.int .i64 i, .pointer (some ⟨p2, 0, none⟩), .pointer (some ⟨p9, 0, none⟩), .pointer (some ⟨p10, 0, none⟩), .pointer (some ⟨p6, 0, none⟩)] w fun e w' =>
      e = .returned (.int .i64 (x * s - y * tot)) ∧ Qt w w' := by
  obtain ⟨m1, m2, m3, m4⟩ := hb.mul (List.mem_of_getElem? hx) (List.mem_of_getElem? hy)
  obtain ⟨b2, b9, b10, b6, bg, hr⟩ := hc
  obtain ⟨b, o, _, rfl, _, hcl⟩ := hr.int (k := i) hi
  obtain ⟨hiN, hxe⟩ := List.getElem?_eq_some_iff.1 hx
  rw [hxe] at hcl
  have hcg : w.cell? ⟨g, i, none⟩ = some (.int .i64 y) := by rw [bg.cell]; simp [ints, hy]
  have k2 := b2.cell0
  have k9 := b9.cell0
  have k10 := b10.cell0
  have k6 := b6.cell0
  have s1 : IntKind.i64.wrap (x * s) = x * s := IntWalk.i64_in _ (by omega)
  have s2 : IntKind.i64.wrap (y * tot) = y * tot := IntWalk.i64_in _ (by omega)
  have s3 : IntKind.i64.wrap (x * s - y * tot) = x * s - y * tot := IntWalk.i64_in _ (by omega)
  have hi0 : (0 : Int) ≤ (i : Int) := by omega
  have hiI : (i : Int) < (n : Int) := by omega
  clear hx hy hr bg b2 b9 b10 b6 m1 m2 m3 m4 hb hxe hiN
  refine veil fun R hR => ?_
  go_enter Try.func77, Try.ntmps77
  go_wp2_with fail
  go_quiet (fail)
  go_wp2_with fail
  try go_ret
  exact hR.out _ _ ⟨rfl, _, rfl⟩

set_option maxRecDepth 100000 in
set_option maxHeartbeats 1000000 in
theorem pos_any (F : Nat → Prop) (A : Option Addr) (n c p2 : Nat) (N : List Int) (w : World) (b2 : Blk w p2 24 #[.slice A n c]) (hr : Rd w F A n (ints N)) (hn : (n : Int) ≤ 1099511627776)
    (i : Nat) (x : Int) (hx : N[i]? = some x) (hi : i < n) :
    Calls Try.prog 78 #[.int .i64 i, .pointer (some ⟨p2, 0, none⟩)] w fun e w' => e = .returned (.bool (decide (0 < x))) ∧ Qt w w' := by
  obtain ⟨b, o, _, rfl, _, hcl⟩ := hr.int (k := i) hi
  obtain ⟨hiN, hxe⟩ := List.getElem?_eq_some_iff.1 hx
  rw [hxe] at hcl
  have k2 := b2.cell0
  have hi0 : (0 : Int) ≤ (i : Int) := by omega
  have hiI : (i : Int) < (n : Int) := by omega
  clear hx hr b2 hxe hiN
  refine veil fun R hR => ?_
  go_enter Try.func78, Try.ntmps78
  go_wp2_with fail
  try go_ret
  exact hR.out _ _ ⟨rfl, 0, rfl⟩

set_option maxRecDepth 100000 in
set_option maxHeartbeats 1000000 in
theorem more_any (n nc p10 g : Nat) (M : List Int) (w : World) (b10 : Blk w p10 24 #[.slice (some ⟨g, 0, none⟩) n nc]) (bg : Blk w g 3 (ints M).toArray) (hn : (n : Int) ≤ 1099511627776)
    (i : Nat) (y : Int) (hy : M[i]? = some y) (hi : i < n) :
    Calls Try.prog 79 #[.int .i64 i, .pointer (some ⟨p10, 0, none⟩)] w fun e w' => e = .returned (.bool (decide (1 < y))) ∧ Qt w w' := by
  have hcg : w.cell? ⟨g, i, none⟩ = some (.int .i64 y) := by rw [bg.cell]; simp [ints, hy]
  have k2 := b10.cell0
  have hi0 : (0 : Int) ≤ (i : Int) := by omega
  have hiI : (i : Int) < (n : Int) := by omega
  clear hy bg b10
  refine veil fun R hR => ?_
  go_enter Try.func79, Try.ntmps79
  go_wp2_with fail
  try go_ret
  exact hR.out _ _ ⟨rfl, 0, rfl⟩

/-- the value of the closure above -/
def aboveV (p2 p9 p10 p6 : Nat) : Value := .func (.func 77) #[] #[.pointer (some ⟨p2, 0, none⟩), .pointer (some ⟨p9, 0, none⟩), .pointer (some ⟨p10, 0, none⟩), .pointer (some ⟨p6, 0, none⟩)]

set_option maxRecDepth 100000 in
set_option maxHeartbeats 1000000 in
theorem below_any (F : Nat → Prop) (A : Option Addr) (n c nc p2 p9 p10 p6 p14 g : Nat) (N M : List Int) (s tot : Int) (w : World) (hc : NCap w F A n c nc p2 p9 p10 p6 g N M s tot) (hb : NBd N M s tot) (hn : (n : Int) ≤ 1099511627776)
    (b14 : Blk w p14 74 #[aboveV p2 p9 p10 p6])
    (i : Nat) (x y : Int) (hx : N[i]? = some x) (hy : M[i]? = some y) (hi : i < n) :
    Calls Try.prog 80 #[.int .i64 i, .pointer (some ⟨p14, 0, none⟩)] w fun e w' =>
      e = .returned (.int .i64 (-(x * s - y * tot))) ∧ Qt w w' := by
  obtain ⟨m1, m2, m3, m4⟩ := hb.mul (List.mem_of_getElem? hx) (List.mem_of_getElem? hy)
  have HK := hide (above_any F A n c nc p2 p9 p10 p6 g N M s tot w hc hb hn i x y hx hy hi)
  have k14 := b14.cell0
  unfold aboveV at k14
  have s3 : IntKind.i64.wrap (-(x * s - y * tot)) = -(x * s - y * tot) := IntWalk.i64_in _ (by omega)
  generalize x * s - y * tot = q at *
  clear hx hy hc hb b14 m1 m2 m3 m4
  refine veil fun R hR => ?_
  go_enter Try.func80, Try.ntmps80
  go_wp2_with fail
  refine HK.out.mono ?_
  rintro e w1 ⟨rfl, f1⟩
  go_wp2_with fail
  try go_ret
  exact hR.out _ _ ⟨rfl, f1⟩

end Go.Proofs.Ytcdbfddoanigbaa

/-
  Package norm: furthest, as Normalize calls it.
  Conditions: none beyond those of each theorem.
-/
namespace Go.Proofs.Ytcdbfddoanigbaa
open Go.RowKit
set_option linter.unusedVariables false
set_option linter.unusedSimpArgs false

/-- the index that furthest answers -/
def bestI : Option (Nat × Int) → Int
  | none => -1
  | some (j, _) => j

theorem argmax_take {V : List (Option Int)} {k : Nat} (h : k < V.length) : argmax (V.take (k + 1)) = argStep (argmax (V.take k)) k V[k] := by
  rw [List.take_succ_eq_append_getElem h, argmax_snoc, List.length_take, Nat.min_eq_left (by omega)]
theorem argmax_lt {V : List (Option Int)} {k j : Nat} {y : Int} (h : argmax (V.take k) = some (j, y)) : j < k ∧ V[j]? = some (some y) := by
  have h1 := argmax_mem _ _ j y rfl h
  rw [List.getElem?_take] at h1
  split at h1
  · exact ⟨by assumption, h1⟩
  · cases h1
theorem vals_get {N M : List Int} {f : Int → Int → Option Int} {i : Nat} {v : Option Int} (h : (List.zipWith f N M)[i]? = some v) : ∃ x y, N[i]? = some x ∧ M[i]? = some y ∧ v = f x y := by
  rw [List.getElem?_zipWith] at h
  rcases hx : N[i]? with _ | x
  · rw [hx] at h; cases h
  · rcases hy : M[i]? with _ | y
    · rw [hx, hy] at h; cases h
    · rw [hx, hy] at h
      simp only [Option.some.injEq] at h
      exact ⟨x, y, rfl, rfl, h.symm⟩

set_option maxRecDepth 100000 in
set_option maxHeartbeats 4000000 in
theorem fur_up (n nc g p2 p9 p10 p6 : Nat) (V : List (Option Int)) (w : World) (hV : V.length = n) (hn : (n : Int) ≤ 1099511627776)
    (ham : ∀ W, Qt w W → ∀ (i : Nat) (v : Option Int), V[i]? = some v → Calls Try.prog 78 #[.int .i64 i, .pointer (some ⟨p2, 0, none⟩)] W fun e w' => e = .returned (.bool v.isSome) ∧ Qt W w')
    (hof : ∀ W, Qt w W → ∀ (i : Nat) (x : Int), V[i]? = some (some x) → Calls Try.prog 77 #[.int .i64 i, .pointer (some ⟨p2, 0, none⟩), .pointer (some ⟨p9, 0, none⟩), .pointer (some ⟨p10, 0, none⟩), .pointer (some ⟨p6, 0, none⟩)] W fun e w' => e = .returned (.int .i64 x) ∧ Qt W w') :
    Calls Try.prog 81 #[.slice (some ⟨g, 0, none⟩) n nc, .func (.func 78) #[] #[.pointer (some ⟨p2, 0, none⟩)], .func (.func 77) #[] #[.pointer (some ⟨p2, 0, none⟩), .pointer (some ⟨p9, 0, none⟩), .pointer (some ⟨p10, 0, none⟩), .pointer (some ⟨p6, 0, none⟩)]] w fun e w' =>
      e = .returned (.int .i64 (bestI (argmax V))) ∧ Qt w w' := by
  have HV := hide hV
  have HAM := hide ham
  have HOF := hide hof
  clear hV ham hof
  refine veil fun R hR => ?_
  go_enter Try.func81, Try.ntmps81
  go_wp2_with fail
  go_loopg [7, 11] n (fun f q i wr => Qt w wr ∧ ∃ k : Nat, k + f = n ∧ i = .int .i64 k ∧ q = .int .i64 (bestI (argmax (V.take k))))
  case atStart => exact ⟨Qt.refl _, 0, by omega, rfl, rfl⟩
  case round =>
    obtain ⟨fr, k, hk, rfl, rfl⟩ := hrel
    have FR := hide fr
    have HK := hide hk
    clear fr hk
    by_cases hlt : k < n
    · have hkV : k < V.length := by have := HV.out; omega
      have HST := hide (argmax_take hkV)
      have hgk : V[k]? = some V[k] := List.getElem?_eq_getElem hkV
      have hca := HAM.out wr FR.out k V[k] hgk
      have HGK := hide hgk
      have hlI : (k : Int) < n := by omega
      have hw4 : IntKind.i64.wrap ((k : Int) + 1) = k + 1 := IntWalk.i64_in _ (by omega)
      generalize V[k] = v at *
      clear hgk
      rcases v with _ | x
      · have HCA := hide hca
        clear hca
        have HB := hide (show bestI (argmax (V.take (k + 1))) = bestI (argmax (V.take k)) by rw [HST.out]; rfl)
        clear HST
        generalize bestI (argmax (V.take k)) = bi at *
        go_wp2_with fail
        refine HCA.out.mono ?_
        rintro e w1 ⟨rfl, f1⟩
        go_wp2_with fail
        go_roundg (gk - 1)
        case measure => have := HK.out; omega
        case rel => exact ⟨FR.out.trans f1, k + 1, by have := HK.out; omega, by go_num, by rw [HB.out]⟩
      · have HCA := hide hca
        have HO1 := hide (fun W (h : Qt wr W) => HOF.out W (FR.out.trans h) k x HGK.out)
        clear hca
        rcases hb : argmax (V.take k) with _ | ⟨j, y⟩
        · rw [hb] at HST
          have HST2 := hide (show argmax (V.take (k + 1)) = some (k, x) from HST.out)
          clear hb HST
          simp only [bestI]
          go_wp2_with fail
          refine HCA.out.mono ?_
          rintro e w1 ⟨rfl, f1⟩
          go_wp2_with fail
          go_roundg (gk - 1)
          case measure => have := HK.out; omega
          case rel => exact ⟨FR.out.trans f1, k + 1, by have := HK.out; omega, by go_num, by rw [HST2.out]; rfl⟩
        · obtain ⟨hjk, hj⟩ := argmax_lt hb
          have HO2 := hide (fun W (h : Qt wr W) => HOF.out W (FR.out.trans h) j y hj)
          rw [hb] at HST
          have HST2 := hide (show argmax (V.take (k + 1)) = if y < x then some (k, x) else some (j, y) from HST.out)
          clear hb HST hj
          simp only [bestI]
          have hj0 : ¬ ((j : Int) < 0) := by omega
          go_wp2_with fail
          refine HCA.out.mono ?_
          rintro e w1 ⟨rfl, f1⟩
          go_wp2_with fail
          refine (HO1.out _ f1).mono ?_
          rintro e w2 ⟨rfl, f2⟩
          have F12 := hide (f1.trans f2)
          clear f1 f2
          go_wp2_with fail
          refine (HO2.out _ F12.out).mono ?_
          rintro e w3 ⟨rfl, f3⟩
          by_cases hyx : y < x
          · rw [if_pos hyx] at HST2
            go_wp2_with fail
            go_roundg (gk - 1)
            case measure => have := HK.out; omega
            case rel => exact ⟨FR.out.trans (F12.out.trans f3), k + 1, by have := HK.out; omega, by go_num, by rw [HST2.out]; rfl⟩
          · rw [if_neg hyx] at HST2
            go_wp2_with fail
            go_roundg (gk - 1)
            case measure => have := HK.out; omega
            case rel => exact ⟨FR.out.trans (F12.out.trans f3), k + 1, by have := HK.out; omega, by go_num, by rw [HST2.out]; rfl⟩
    · obtain rfl : k = n := by have := HK.out; omega
      have htk : V.take k = V := List.take_of_length_le (by have := HV.out; omega)
      rw [htk]
      generalize bestI (argmax V) = bi at *
      clear htk
      go_wp2_with fail
      try go_ret
      exact hR.out _ _ ⟨rfl, FR.out⟩

set_option maxRecDepth 100000 in
set_option maxHeartbeats 4000000 in
theorem fur_dn (n nc g p10 p14 : Nat) (V : List (Option Int)) (w : World) (hV : V.length = n) (hn : (n : Int) ≤ 1099511627776)
    (ham : ∀ W, Qt w W → ∀ (i : Nat) (v : Option Int), V[i]? = some v → Calls Try.prog 79 #[.int .i64 i, .pointer (some ⟨p10, 0, none⟩)] W fun e w' => e = .returned (.bool v.isSome) ∧ Qt W w')
    (hof : ∀ W, Qt w W → ∀ (i : Nat) (x : Int), V[i]? = some (some x) → Calls Try.prog 80 #[.int .i64 i, .pointer (some ⟨p14, 0, none⟩)] W fun e w' => e = .returned (.int .i64 x) ∧ Qt W w') :
    Calls Try.prog 81 #[.slice (some ⟨g, 0, none⟩) n nc, .func (.func 79) #[] #[.pointer (some ⟨p10, 0, none⟩)], .func (.func 80) #[] #[.pointer (some ⟨p14, 0, none⟩)]] w fun e w' =>
      e = .returned (.int .i64 (bestI (argmax V))) ∧ Qt w w' := by
  have HV := hide hV
  have HAM := hide ham
  have HOF := hide hof
  clear hV ham hof
  refine veil fun R hR => ?_
  go_enter Try.func81, Try.ntmps81
  go_wp2_with fail
  go_loopg [7, 11] n (fun f q i wr => Qt w wr ∧ ∃ k : Nat, k + f = n ∧ i = .int .i64 k ∧ q = .int .i64 (bestI (argmax (V.take k))))
  case atStart => exact ⟨Qt.refl _, 0, by omega, rfl, rfl⟩
  case round =>
    obtain ⟨fr, k, hk, rfl, rfl⟩ := hrel
    have FR := hide fr
    have HK := hide hk
    clear fr hk
    by_cases hlt : k < n
    · have hkV : k < V.length := by have := HV.out; omega
      have HST := hide (argmax_take hkV)
      have hgk : V[k]? = some V[k] := List.getElem?_eq_getElem hkV
      have hca := HAM.out wr FR.out k V[k] hgk
      have HGK := hide hgk
      have hlI : (k : Int) < n := by omega
      have hw4 : IntKind.i64.wrap ((k : Int) + 1) = k + 1 := IntWalk.i64_in _ (by omega)
      generalize V[k] = v at *
      clear hgk
      rcases v with _ | x
      · have HCA := hide hca
        clear hca
        have HB := hide (show bestI (argmax (V.take (k + 1))) = bestI (argmax (V.take k)) by rw [HST.out]; rfl)
        clear HST
        generalize bestI (argmax (V.take k)) = bi at *
        go_wp2_with fail
        refine HCA.out.mono ?_
        rintro e w1 ⟨rfl, f1⟩
        go_wp2_with fail
        go_roundg (gk - 1)
        case measure => have := HK.out; omega
        case rel => exact ⟨FR.out.trans f1, k + 1, by have := HK.out; omega, by go_num, by rw [HB.out]⟩
      · have HCA := hide hca
        have HO1 := hide (fun W (h : Qt wr W) => HOF.out W (FR.out.trans h) k x HGK.out)
        clear hca
        rcases hb : argmax (V.take k) with _ | ⟨j, y⟩
        · rw [hb] at HST
          have HST2 := hide (show argmax (V.take (k + 1)) = some (k, x) from HST.out)
          clear hb HST
          simp only [bestI]
          go_wp2_with fail
          refine HCA.out.mono ?_
          rintro e w1 ⟨rfl, f1⟩
          go_wp2_with fail
          go_roundg (gk - 1)
          case measure => have := HK.out; omega
          case rel => exact ⟨FR.out.trans f1, k + 1, by have := HK.out; omega, by go_num, by rw [HST2.out]; rfl⟩
        · obtain ⟨hjk, hj⟩ := argmax_lt hb
          have HO2 := hide (fun W (h : Qt wr W) => HOF.out W (FR.out.trans h) j y hj)
          rw [hb] at HST
          have HST2 := hide (show argmax (V.take (k + 1)) = if y < x then some (k, x) else some (j, y) from HST.out)
          clear hb HST hj
          simp only [bestI]
          have hj0 : ¬ ((j : Int) < 0) := by omega
          go_wp2_with fail
          refine HCA.out.mono ?_
          rintro e w1 ⟨rfl, f1⟩
          go_wp2_with fail
          refine (HO1.out _ f1).mono ?_
          rintro e w2 ⟨rfl, f2⟩
          have F12 := hide (f1.trans f2)
          clear f1 f2
          go_wp2_with fail
          refine (HO2.out _ F12.out).mono ?_
          rintro e w3 ⟨rfl, f3⟩
          by_cases hyx : y < x
          · rw [if_pos hyx] at HST2
            go_wp2_with fail
            go_roundg (gk - 1)
            case measure => have := HK.out; omega
            case rel => exact ⟨FR.out.trans (F12.out.trans f3), k + 1, by have := HK.out; omega, by go_num, by rw [HST2.out]; rfl⟩
          · rw [if_neg hyx] at HST2
            go_wp2_with fail
            go_roundg (gk - 1)
            case measure => have := HK.out; omega
            case rel => exact ⟨FR.out.trans (F12.out.trans f3), k + 1, by have := HK.out; omega, by go_num, by rw [HST2.out]; rfl⟩
    · obtain rfl : k = n := by have := HK.out; omega
      have htk : V.take k = V := List.take_of_length_le (by have := HV.out; omega)
      rw [htk]
      generalize bestI (argmax V) = bi at *
      clear htk
      go_wp2_with fail
      try go_ret
      exact hR.out _ _ ⟨rfl, FR.out⟩

end Go.Proofs.Ytcdbfddoanigbaa

/-
  The reference of the tables: Size, States, May.
  Conditions: none beyond those of each theorem.
-/
namespace Go.Proofs.Ytcdbfddoanigbaa
open Go.RowKit

/-- a table has a description -/
def Has (lg : Int) (N : List Int) : Prop := Valid lg N 256 9 ∧ lg ≠ 0
instance (lg : Int) (N : List Int) : Decidable (Has lg N) := by unfold Has; infer_instance

theorem pow_le_512 {p : Nat} (h : p ≤ 9) : 2 ^ p ≤ 512 := Nat.pow_le_pow_right (n := 2) (by omega) h

set_option maxHeartbeats 1000000 in
theorem size_any (p : Nat) (w : World) (hp : p ≤ 9) :
    Calls Try.prog 35 #[.int .i64 p] w fun e w' => e = .returned (.int .i64 (2 ^ p : Nat)) ∧ w = w' := by
  have hpi : (p : Int) ≤ 20 := by omega
  refine veil fun R hR => ?_
  go_enter Try.func35, Try.ntmps35
  go_wp2
  go_loopg [3, 4] p (fun m v i wr => wr = w ∧ ∃ k : Nat, k + m = p ∧ i = .int .i64 k ∧ v = .int .i64 (2 ^ k : Nat))
  case atStart => exact ⟨rfl, 0, by omega, rfl, rfl⟩
  case round =>
    obtain ⟨rfl, k, hk, rfl, rfl⟩ := hrel
    have hk1 : k ≤ p := by omega
    have hp1 := pow_le_512 (show k ≤ 9 by omega)
    have hs : 2 ^ (k + 1) = 2 * 2 ^ k := by rw [Nat.pow_succ]; omega
    obtain ⟨L, hL⟩ : ∃ L, L = 2 ^ k := ⟨_, rfl⟩
    rw [← hL] at hs hp1 ⊢
    have HS := hide hs
    have HL := hide hL
    have HK := hide hk
    clear hs hL hk
    by_cases hlt : k < p
    · go_wp2
      go_roundg (gk - 1)
      case measure => have := HK.out; omega
      case rel => exact ⟨rfl, k + 1, by have := HK.out; omega, by go_num, by rw [HS.out]; go_num⟩
    · go_wp2
      try go_ret
      refine hR.out _ _ ⟨?_, rfl⟩
      obtain rfl : k = p := by omega
      rw [← HL.out]
      rfl

set_option maxHeartbeats 400000 in
theorem states_any (z : Int) (w : World) :
    Calls Try.prog 34 #[.int .i64 z] w fun e w' => e = .returned (.int .i64 (if z = -1 then 1 else z)) ∧ w = w' := by
  by_cases h : z = -1
  · subst h
    go_enter Try.func34, Try.ntmps34
    go_wp2
    go_ret
    exact ⟨rfl, rfl⟩
  · rw [if_neg h]
    have h1 : (z == -1) = false := by simpa using h
    clear h
    go_enter Try.func34, Try.ntmps34
    go_wp2
    go_ret
    exact ⟨rfl, rfl⟩

set_option maxRecDepth 100000 in
set_option maxHeartbeats 2000000 in
theorem may07_head (F : Nat → Prop) (A : Option Addr) (n c : Nat) (lg sy lb : Int) (N : List Int) (w : World) (hr : Rd w F A n (ints N)) (hn : (n : Int) ≤ 1099511627776)
    (h : lg < 0 ∨ lb < lg ∨ 9 < lg ∨ n = 0 ∨ sy < n ∨ N[n - 1]? = some 0) :
    Calls Try.prog 15 #[.agg #[.int .i64 lg, .slice A n c], .int .i64 sy, .int .i64 lb] w fun e w' => e = .returned (.int .i64 13) ∧ Fresh w w' := by
  have fr : Fresh w (w.alloc (.cells #[.int .i64 lg, .slice A n c] 26)) := (Upd.refl _ _).alloc _
  have FR := hide fr
  clear fr
  by_cases h1 : lg < 0
  · clear h
    go_enter Try.func15, Try.ntmps15
    go_wp2
    all_goals (go_ret; exact ⟨rfl, FR.out⟩)
  by_cases h2' : lb < lg
  · clear h
    go_enter Try.func15, Try.ntmps15
    go_wp2
    all_goals (go_ret; exact ⟨rfl, FR.out⟩)
  by_cases h2 : 9 < lg
  · clear h
    go_enter Try.func15, Try.ntmps15
    go_wp2
    all_goals (go_ret; exact ⟨rfl, FR.out⟩)
  by_cases h3 : n = 0
  · clear h
    subst h3
    go_enter Try.func15, Try.ntmps15
    go_wp2
    all_goals (go_ret; exact ⟨rfl, FR.out⟩)
  by_cases h4 : sy < n
  · clear h
    go_enter Try.func15, Try.ntmps15
    go_wp2
    all_goals (go_ret; exact ⟨rfl, FR.out⟩)
  have h5 : N[n - 1]? = some 0 := by
    rcases h with h | h | h | h | h | h
    all_goals first | exact h | omega
  have h6 : 0 < n := by omega
  clear h h3
  obtain ⟨b, o, hk, rfl, hb, hc⟩ := hr.int (k := n - 1) (by omega)
  have e0 : N[n - 1] = 0 := by rw [List.getElem?_eq_getElem hk] at h5; simpa using h5
  rw [e0] at hc
  have hc' : (w.alloc (.cells #[.int .i64 lg, .slice (some ⟨b, o, none⟩) n c] 26)).cell? ⟨b, o + (n - 1), none⟩ = some (.int .i64 0) := by
    rw [World.cell?_alloc_lt _ _ _ hb]; exact hc
  clear hc h5 e0
  go_enter Try.func15, Try.ntmps15
  go_wp2
  all_goals (go_ret; exact ⟨rfl, FR.out⟩)

set_option maxRecDepth 100000 in
set_option maxHeartbeats 2000000 in
theorem may07_body (F : Nat → Prop) (A : Option Addr) (n c : Nat) (p : Nat) (sy lb : Int) (N : List Int) (w : World) (hr : Rd w F A n (ints N)) (hfit : Fit N)
    (a3 : p ≤ 9) (a3b : (p : Int) ≤ lb) (b1 : 0 < n) (b3 : (n : Int) ≤ sy) (b4 : (n : Int) ≤ 1099511627776) (hlast : N[n - 1]? ≠ some 0) :
    Calls Try.prog 15 #[.agg #[.int .i64 p, .slice A n c], .int .i64 sy, .int .i64 lb] w fun e w' =>
      e = .returned (.int .i64 (if (∀ n ∈ N, -1 ≤ n) ∧ sumZ N = 2 ^ p then 0 else 13)) ∧ Fresh w w' := by
  have hN : N.length = n := by have := hr.1; simpa using this
  have b5 : 1 ≤ (n : Int) := by omega
  have a4 : (p : Int) ≤ 9 := by omega
  have hsz := size_any p
  obtain ⟨b, o, hk, rfl, hb, hc⟩ := hr.int (k := n - 1) (by omega)
  have e0 : (N[n - 1] == 0) = false := by
    rw [List.getElem?_eq_getElem hk] at hlast
    simpa using hlast
  obtain ⟨z, hz⟩ : ∃ z, z = N[n - 1] := ⟨_, rfl⟩
  rw [← hz] at hc e0
  clear hlast hz
  obtain ⟨w1, hw1⟩ : ∃ w1, w1 = w.alloc (.cells #[.int .i64 p, .slice (some ⟨b, o, none⟩) n c] 26) := ⟨_, rfl⟩
  have hc' : (w.alloc (.cells #[.int .i64 p, .slice (some ⟨b, o, none⟩) n c] 26)).cell? ⟨b, o + (n - 1), none⟩ = some (.int .i64 z) := by
    rw [World.cell?_alloc_lt _ _ _ hb]; exact hc
  have hr1 : Rd w1 F (some ⟨b, o, none⟩) n (ints N) := by rw [hw1]; exact hr.alloc _
  have fr : Fresh w w1 := by rw [hw1]; exact (Upd.refl _ _).alloc _
  have bt : Blk w1 w.heap.size 26 #[.int .i64 p, .slice (some ⟨b, o, none⟩) n c] := by rw [hw1]; exact Blk.new _ _ _
  have HSZ := hide hsz
  have HBT := hide bt
  have FR := hide fr
  have HW := hide hw1
  have HR := hide hr1
  have HN := hide hN
  have HF := hide hfit
  have HP := hide a3
  clear hc fr hr hr1 hN hw1 hk hfit hsz bt a3
  refine veil fun R hR => ?_
  go_enter Try.func15, Try.ntmps15
  go_wp2
  rw [← HW.out]
  have bt0 := HBT.out.cell 0
  have bt1 := HBT.out.cell 1
  have hg1 := HBT.out.lt
  simp at bt0 bt1
  obtain ⟨H, hH⟩ : ∃ H, H = w.heap.size := ⟨_, rfl⟩
  rw [← hH] at bt0 bt1 hg1 ⊢
  clear hH hc' e0
  go_loopg [7, 8] n (fun m l i wr => wr = w1 ∧ ∃ k : Nat, k + m = n ∧ i = .int .i64 k ∧ l = .int .i64 (sumZ (N.take k)) ∧ sumZ (N.take k) ≤ 1024 ∧ ∀ x ∈ N.take k, -1 ≤ x)
  case atStart => exact ⟨rfl, 0, by omega, rfl, by simp [sumZ], by simp [sumZ], by simp⟩
  case round =>
    obtain ⟨rfl, k, hk, rfl, rfl, hl0, hall⟩ := hrel
    have hs0 := sumZ_nonneg (N.take k)
    have hle0 := sumZ_take_le N k
    obtain ⟨L, hL⟩ : ∃ L, L = sumZ (N.take k) := ⟨_, rfl⟩
    rw [← hL] at hs0 hl0 hle0 ⊢
    have HA := hide hall
    have HS := hide hL
    have HL0 := hide hle0
    clear hall hL hle0
    have hpw := pow_le_512 HP.out
    have HPW := hide (show (2 : Int) ^ p ≤ 512 by exact_mod_cast hpw)
    clear hpw
    by_cases hlt : k < n
    · have hkn : k < N.length := by have := HN.out; omega
      have hst := sumZ_take_succ N k hkn
      have hgt := List.take_succ_eq_append_getElem hkn
      have hle := sumZ_take_le N (k + 1)
      have hmem := List.getElem_mem hkn
      obtain ⟨b', o', _, e, _, hc⟩ := HR.out.int (k := k) hlt
      injection e with e
      injection e with e1 e2
      subst e1 e2
      obtain ⟨z, hz⟩ : ∃ z, z = N[k] := ⟨_, rfl⟩
      rw [← hz] at hst hgt hc hmem
      have Hst := hide hst
      have Hgt := hide hgt
      have Hmem := hide hmem
      have Hle := hide hle
      clear hz hst hgt hmem hle
      have HK := hide hk
      clear hk
      by_cases hz1 : z < -1
      · go_wp2
        all_goals try go_ret
        all_goals refine hR.out _ _ ⟨ret_int (if_neg fun h => ?_).symm, FR.out⟩
        all_goals have := h.1 z Hmem.out
        all_goals omega
      · by_cases hz2 : 512 < z
        · go_wp2
          all_goals try go_ret
          all_goals refine hR.out _ _ ⟨ret_int (if_neg fun h => ?_).symm, FR.out⟩
          all_goals
            have h1 := Hle.out
            have h2 := HPW.out
            have h3 := Hst.out
            have h4 := h.2
            have h5 := HS.out
            have h6 : absZ z = z := by unfold absZ; rw [if_neg (by omega)]
            omega
        · by_cases hz3 : 512 < L
          · go_wp2
            all_goals try go_ret
            all_goals refine hR.out _ _ ⟨ret_int (if_neg fun h => ?_).symm, FR.out⟩
            all_goals
              have h1 := HL0.out
              have h2 := HPW.out
              have h4 := h.2
              omega
          · have ha : (if z = -1 then 1 else z) = absZ z := by
              unfold absZ
              by_cases h : z = -1
              · subst h; rfl
              · rw [if_neg h, if_neg (by omega)]
            have hsta := states_any z
            rw [ha] at hsta
            have hq : 0 ≤ absZ z ∧ absZ z ≤ 512 := ⟨absZ_nonneg z, by unfold absZ; split <;> omega⟩
            obtain ⟨q, hqd⟩ : ∃ q, q = absZ z := ⟨_, rfl⟩
            rw [← hqd] at hsta hq
            have HQ := hide hqd
            have HST := hide hsta
            clear hsta ha hqd
            go_wp2_with fail
            refine (HST.out _).mono ?_
            rintro e w2 ⟨rfl, rfl⟩
            go_wp2_with fail
            go_roundg (gk - 1)
            case measure => have := HK.out; omega
            case rel =>
              have h1 := Hst.out
              rw [← HQ.out] at h1
              have h2 := HS.out
              exact ⟨rfl, k + 1, by have := HK.out; omega, by go_num, by rw [h1]; congr 1; omega, by rw [h1]; omega, by
                rw [Hgt.out]; intro x hx
                rcases List.mem_append.1 hx with hx | hx
                · exact HA.out x hx
                · simp at hx; omega⟩
    · obtain rfl : k = n := by omega
      have hN := HN.out
      have e1 : N.take N.length = N := List.take_length
      rw [← hN] at HS HA
      have hS := HS.out
      have hA := HA.out
      rw [e1] at hS hA
      have HS1 := hide hS
      have HA1 := hide hA
      clear hS hA HS HA hN e1 hk hlt
      have hsz := HSZ.out wr HP.out
      obtain ⟨q, hqd⟩ : ∃ q, q = 2 ^ p := ⟨_, rfl⟩
      rw [← hqd] at hsz
      have HQ := hide hqd
      have HZ := hide hsz
      have HQ2 : (2 : Int) ^ p = q := by rw [hqd]; simp
      have HQ3 := hide HQ2
      clear hsz hqd HQ2
      go_wp2_with fail
      refine HZ.out.mono ?_
      rintro e w2 ⟨rfl, rfl⟩
      by_cases hz : L = q
      · subst hz
        go_wp2_with fail
        try go_ret
        refine hR.out _ _ ⟨ret_int (if_pos ⟨HA1.out, ?_⟩).symm, FR.out⟩
        rw [← HS1.out, HQ3.out]
      · have hz' : (L != (q : Int)) = true := by simpa using hz
        go_wp2_with fail
        try go_ret
        refine hR.out _ _ ⟨ret_int (if_neg fun h => ?_).symm, FR.out⟩
        have := HS1.out
        rw [h.2, HQ3.out] at this
        omega

set_option maxHeartbeats 400000 in
/-- the reference's validity -/
theorem may07_gen (F : Nat → Prop) (A : Option Addr) (n c : Nat) (lg sy lb : Int) (N : List Int) (w : World) (hr : Rd w F A n (ints N)) (hfit : Fit N) (hn : (n : Int) ≤ 1099511627776) :
    Calls Try.prog 15 #[.agg #[.int .i64 lg, .slice A n c], .int .i64 sy, .int .i64 lb] w fun e w' =>
      e = .returned (.int .i64 (if Valid lg N sy lb then 0 else 13)) ∧ Fresh w w' := by
  have hN : N.length = n := by have := hr.1; simpa using this
  by_cases h : lg < 0 ∨ lb < lg ∨ 9 < lg ∨ n = 0 ∨ sy < n ∨ N[n - 1]? = some 0
  · rw [if_neg (fun hv => by
      obtain ⟨v1, v2, v3, v4, v5, v6, _⟩ := hv
      rw [hN] at v6
      rcases h with h | h | h | h | h | h
      · omega
      · omega
      · omega
      · omega
      · omega
      · exact v6 h)]
    exact may07_head F A n c lg sy lb N w hr hn h
  · obtain ⟨p, rfl⟩ : ∃ p : Nat, lg = p := ⟨lg.toNat, by omega⟩
    have hb := may07_body F A n c p sy lb N w hr hfit (by omega) (by omega) (by omega) (by omega) hn (fun hh => h (by simp [hh]))
    have e : (if Valid (p : Int) N sy lb then (0 : Int) else 13) = if (∀ n ∈ N, -1 ≤ n) ∧ sumZ N = 2 ^ p then 0 else 13 := by
      by_cases h2 : (∀ n ∈ N, -1 ≤ n) ∧ sumZ N = 2 ^ p
      · rw [if_pos h2, if_pos ⟨by omega, by omega, by omega, by omega, by omega, fun hh => h (by rw [hN] at hh; simp [hh]), h2.1, h2.2⟩]
      · rw [if_neg h2, if_neg (fun hv => h2 ⟨hv.2.2.2.2.2.2.1, hv.2.2.2.2.2.2.2⟩)]
    rw [e]
    exact hb
theorem may07_any (F : Nat → Prop) (A : Option Addr) (n c : Nat) (lg : Int) (N : List Int) (w : World) (hr : Rd w F A n (ints N)) (hfit : Fit N) (hn : (n : Int) ≤ 1099511627776) :
    Calls Try.prog 15 #[.agg #[.int .i64 lg, .slice A n c], .int .i64 256, .int .i64 9] w fun e w' =>
      e = .returned (.int .i64 (if Valid lg N 256 9 then 0 else 13)) ∧ Fresh w w' := may07_gen F A n c lg 256 9 N w hr hfit hn

end Go.Proofs.Ytcdbfddoanigbaa

/-
  The reference's Counts.
  Conditions: none beyond those of each theorem.
-/
namespace Go.Proofs.Ytcdbfddoanigbaa
open Go.RowKit
set_option linter.unusedVariables false
set_option linter.unusedSimpArgs false

set_option maxRecDepth 100000 in
set_option maxHeartbeats 2000000 in
theorem rcounts_any (F : Nat → Prop) (A : Option Addr) (n c : Nat) (N : List Int) (w : World) (hr : Rd w F A n (ints N)) (hfit : Fit N) (hn : (n : Int) ≤ 1099511627776) :
    Calls Try.prog 14 #[.slice A n c] w fun e w' => AllPost N e ∧ w' = w := by
  have hN : N.length = n := by have := hr.1; simpa using this
  have HR := hide hr
  have HN := hide hN
  have HF := hide hfit
  clear hr hN hfit
  refine veil fun R hR => ?_
  go_enter Try.func14, Try.ntmps14
  go_wp2
  go_loopg [5, 6, 7] n (fun m s u i wr => wr = w ∧ ∃ k : Nat, k + m = n ∧ i = .int .i64 k ∧ s = .int .i64 (N.take k).sum ∧ u = .int .i64 (usedC (N.take k) : Nat) ∧ CtOk (N.take k))
  case atStart => exact ⟨rfl, 0, by omega, rfl, by simp, by simp [usedC], by simp [CtOk]⟩
  case round =>
    obtain ⟨rfl, k, hk, rfl, rfl, rfl, hok⟩ := hrel
    have hs0 := sum_nonneg hok.1
    have hs1 := hok.2
    have hu := usedC_le (N.take k)
    obtain ⟨S, hS⟩ : ∃ S, S = (N.take k).sum := ⟨_, rfl⟩
    obtain ⟨u, hU⟩ : ∃ u, u = usedC (N.take k) := ⟨_, rfl⟩
    have hu2 : u ≤ n := by rw [hU]; have := HN.out; have := List.length_take_le k N; have := List.length_take_le' k N; omega
    rw [← hS] at hs0 hs1 ⊢
    rw [← hU]
    have HS := hide hS
    have HU := hide hU
    have HOK := hide hok
    have HK := hide hk
    clear hS hU hok hu
    by_cases hlt : k < n
    · have hkn : k < N.length := by have := HN.out; omega
      have hgt := List.take_succ_eq_append_getElem hkn
      have hfk := HF.out N[k] (List.getElem_mem hkn)
      have hmem := List.getElem_mem hkn
      obtain ⟨b, o, _, rfl, _, hc⟩ := HR.out.int (k := k) hlt
      obtain ⟨z, hz⟩ : ∃ z, z = N[k] := ⟨_, rfl⟩
      rw [← hz] at hfk hgt hc hmem
      have Hgt := hide hgt
      have Hmem := hide hmem
      clear hz hgt hmem hk
      obtain ⟨hf1, hf2⟩ := hfk
      by_cases hz1 : z < 0
      · clear hf1 hf2
        go_wp2
        try go_ret3
        refine hR.out _ _ ⟨AllPost.no (fun h => ?_) rfl, rfl⟩
        have := h.1 z Hmem.out
        omega
      · have hz0 : 0 ≤ z := by omega
        have hno : 1099511627776 < S + z → ¬ CtOk N := fun hgt2 h => by
          have h1 := (h.take (k + 1)).2
          rw [Hgt.out, sum_snoc, ← HS.out] at h1
          omega
        have HNO := hide hno
        clear hno
        by_cases hz9 : 1099511627776 < z
        · clear hf1 hf2
          go_wp2
          try go_ret3
          exact hR.out _ _ ⟨AllPost.no (HNO.out (by omega)) rfl, rfl⟩
        · have hw2 : IntKind.i64.wrap (S + z) = S + z := IntWalk.i64_in _ (by omega)
          by_cases hz2 : 1099511627776 < S + z
          · clear hf1 hf2
            go_wp2
            try go_ret3
            exact hR.out _ _ ⟨AllPost.no (HNO.out (by omega)) rfl, rfl⟩
          · have hw3 : IntKind.i64.wrap ((u : Int) + 1) = u + 1 := IntWalk.i64_in _ (by omega)
            have hw4 : IntKind.i64.wrap ((k : Int) + 1) = k + 1 := IntWalk.i64_in _ (by omega)
            have hok2 : CtOk (N.take (k + 1)) := by rw [Hgt.out]; exact HOK.out.snoc hz0 (by rw [← HS.out]; omega)
            have hsum2 : (N.take (k + 1)).sum = S + z := by rw [Hgt.out, sum_snoc, ← HS.out]
            have hus2 : usedC (N.take (k + 1)) = u + if 0 < z then 1 else 0 := by rw [Hgt.out, usedC_snoc, ← HU.out]
            have HOK2 := hide hok2
            have HSUM2 := hide hsum2
            have HUS2 := hide hus2
            clear hok2 hsum2 hus2
            by_cases hz3 : 0 < z
            · go_wp2
              go_roundg (gk - 1)
              case measure => have := HK.out; omega
              case rel => exact ⟨rfl, k + 1, by have := HK.out; omega, by go_num, by rw [HSUM2.out], by rw [HUS2.out, if_pos hz3]; go_num, HOK2.out⟩
            · go_wp2
              go_roundg (gk - 1)
              case measure => have := HK.out; omega
              case rel => exact ⟨rfl, k + 1, by have := HK.out; omega, by go_num, by rw [HSUM2.out], by rw [HUS2.out, if_neg (by omega)]; rfl, HOK2.out⟩
    · obtain rfl : k = n := by have := HK.out; omega
      have htk : N.take k = N := List.take_of_length_le (by have := HN.out; omega)
      have hA := HOK.out
      have hB := HS.out
      have hC := HU.out
      rw [htk] at hA hB hC
      have HP := hide (AllPost.yes hA hB hC rfl)
      clear hA hB hC htk
      go_wp2
      try go_ret3
      exact hR.out _ _ ⟨HP.out, rfl⟩

end Go.Proofs.Ytcdbfddoanigbaa
