/-
  Joined texts, part 28: contracts and plain lemmas, each under its own heading below.
  Conditions: none beyond those of each theorem.
-/
import Derived.Test.YtjfdaphjijfieaaGreatJ25
import Derived.Test.YtjfdaphjijfieaaGreatJ11
import Derived.Test.YtjfdaphjijfieaaGreatJ22
import Derived.Test.YtjfdaphjijfieaaGreatJ20
import Derived.Test.YtjfdaphjijfieaaGreatJ18
import Derived.Test.YtjfdaphjijfieaaGreatJ13
import Derived.Test.YtjfdaphjijfieaaGreatJ21
import Derived.Test.YtjfdaphjijfieaaGreatJ27
import Derived.Laws.EntriesVeiled
/-
  Package seqs: the reading of a section, as plain functions.
  Conditions: none beyond those of each theorem.
-/
namespace Go.Proofs.YtjfdaphjijfieaaGreat
open Go.RowKit
set_option linter.unusedVariables false
set_option linter.unusedSimpArgs false

/-- n bits off the end of a stream of value V: the bits, what is left, the error -/
def takeE (V : Nat) (s : Nat × Int) (n : Nat) : Nat × Nat × Int :=
  if s.2 ≠ 0 then (0, s) else if n ≤ s.1 then (V / 2 ^ (s.1 - n) % 2 ^ n, s.1 - n, 0) else (0, s.1, 14)
/-- the symbol, the bits, the base of a state's cell -/
def symN (p : Nat) (N : List Int) (st : Nat) : Nat := (symZ (spreadN p N) st).toNat
def bitN (p : Nat) (N : List Int) (st : Nat) : Nat := (bitZ p N (spreadN p N) st).toNat
def bseN (p : Nat) (N : List Int) (st : Nat) : Nat := (baseZ p N (spreadN p N) st).toNat
/-- the extra bits and the lowest value of a code -/
def exB (o : Bool) (c : Nat) : Nat := if o then c else bitsL c
def loB (o : Bool) (c : Nat) : Nat := if o then 2 ^ c else firstL c
/-- the value of a state's symbol -/
def valE (V : Nat) (o : Bool) (p : Nat) (N : List Int) (st : Nat) (s : Nat × Int) : Nat × Nat × Int :=
  (loB o (symN p N st) + (takeE V s (exB o (symN p N st))).1, (takeE V s (exB o (symN p N st))).2)
/-- the next state -/
def onE (V : Nat) (p : Nat) (N : List Int) (st : Nat) (s : Nat × Int) : Nat × Nat × Int :=
  (bseN p N st + (takeE V s (bitN p N st)).1, (takeE V s (bitN p N st)).2)

/-- three tables: lengths of literals, offsets, lengths of matches -/
structure Trks where
  pL : Nat
  NL : List Int
  pO : Nat
  NO : List Int
  pM : Nat
  NM : List Int
/-- three states -/
structure Sts where
  l : Nat
  o : Nat
  m : Nat
/-- a coded sequence -/
structure RawN where
  lit : Nat
  len : Nat
  val : Nat

def Trks.ok (T : Trks) : Prop := Valid T.pL T.NL 44 9 ∧ Valid T.pO T.NO 28 8 ∧ Valid T.pM T.NM 44 9
def Sts.ok (T : Trks) (S : Sts) : Prop := S.l < 2 ^ T.pL ∧ S.o < 2 ^ T.pO ∧ S.m < 2 ^ T.pM

/-- one coded sequence -/
def oneE (V : Nat) (T : Trks) (S : Sts) (s : Nat × Int) : RawN × Nat × Int :=
  let o := valE V true T.pO T.NO S.o s
  let m := valE V false T.pM T.NM S.m o.2
  let l := valE V false T.pL T.NL S.l m.2
  (⟨l.1, m.1 + 3, o.1⟩, l.2)
/-- the next states -/
def moveE (V : Nat) (T : Trks) (S : Sts) (s : Nat × Int) : Sts × Nat × Int :=
  let l := onE V T.pL T.NL S.l s
  let m := onE V T.pM T.NM S.m l.2
  let o := onE V T.pO T.NO S.o m.2
  (⟨l.1, o.1, m.1⟩, o.2)
/-- k coded sequences -/
def readE (V : Nat) (T : Trks) : Nat → Sts → Nat × Int → List RawN × Nat × Int
  | 0, _, s => ([], s)
  | k + 1, S, s =>
    if s.2 ≠ 0 then ([], s) else if k = 0 then ([(oneE V T S s).1], (oneE V T S s).2)
    else ((oneE V T S s).1 :: (readE V T k (moveE V T S (oneE V T S s).2).1 (moveE V T S (oneE V T S s).2).2).1,
      (readE V T k (moveE V T S (oneE V T S s).2).1 (moveE V T S (oneE V T S s).2).2).2)
/-- the first states -/
def startE (V : Nat) (T : Trks) (s : Nat × Int) : Sts × Nat × Int :=
  let l := takeE V s T.pL
  let o := takeE V l.2 T.pO
  let m := takeE V o.2 T.pM
  (⟨l.1, o.1, m.1⟩, m.2)
/-- all coded sequences of a stream, and what is left -/
def allE (V : Nat) (T : Trks) (n t : Nat) : List RawN × Nat × Int :=
  let r := readE V T n (startE V T (t, 0)).1 (startE V T (t, 0)).2
  (r.1, r.2.1, if r.2.2 = 0 ∧ r.2.1 ≠ 0 then 14 else r.2.2)

/-- the sequences of coded ones: the error, the sequences, the repeat offsets behind them -/
def offsE (a b c : Int) : List RawN → Int × List (Int × Int × Int) × Int × Int × Int
  | [] => (0, [], a, b, c)
  | x :: l =>
    if offOk (offR a b c x.lit x.val) then
      let r := offsE (nextR a b c x.lit x.val).1 (nextR a b c x.lit x.val).2.1 (nextR a b c x.lit x.val).2.2 l
      if r.1 = 0 then (0, ((x.lit : Int), (x.len : Int), offR a b c x.lit x.val) :: r.2.1, r.2.2) else (r.1, [], 0, 0, 0)
    else (15, [], 0, 0, 0)

/-- the sequences of a stream: the error, the sequences, the repeat offsets behind them -/
def rowE (bs : List Nat) (T : Trks) (n : Nat) (a b c : Int) : Int × List (Int × Int × Int) × Int × Int × Int :=
  if (bs.getLast?).getD 0 = 0 then (14, [], 0, 0, 0)
  else if (allE (valR bs) T n (closedN bs)).2.2 ≠ 0 then ((allE (valR bs) T n (closedN bs)).2.2, [], 0, 0, 0)
  else offsE a b c (allE (valR bs) T n (closedN bs)).1

/-- three tables as they stand in a context -/
structure Tabs3 where
  lL : Int
  NL : List Int
  lO : Int
  NO : List Int
  lM : Int
  NM : List Int
def Tabs3.none : Tabs3 := ⟨0, [], 0, [], 0, []⟩
def Tabs3.trks (T : Tabs3) : Trks := ⟨T.lL.toNat, T.NL, T.lO.toNat, T.NO, T.lM.toNat, T.NM⟩

/-- the mode byte and the tables: the error, the tables, where they end -/
def headE (bs : List Nat) (at_ : Nat) (T : Tabs3) : Int × Tabs3 × Nat :=
  if at_ < bs.length then
    let x := bs[at_]?.getD 0
    if 64 ≤ x then (13, Tabs3.none, 0) else
    let l := decN ((x % 4 : Nat) : Int) 0 T.lL T.NL bs (at_ + 1)
    if l.1 ≠ 0 then (l.1, Tabs3.none, 0) else
    let o := decN ((x / 4 % 4 : Nat) : Int) 1 T.lO T.NO bs (at_ + 1 + l.2.2.2)
    if o.1 ≠ 0 then (o.1, Tabs3.none, 0) else
    let m := decN ((x / 16 % 4 : Nat) : Int) 2 T.lM T.NM bs (at_ + 1 + l.2.2.2 + o.2.2.2)
    if m.1 ≠ 0 then (m.1, Tabs3.none, 0) else
    (0, ⟨l.2.1, l.2.2.1, o.2.1, o.2.2.1, m.2.1, m.2.2.1⟩, at_ + 1 + l.2.2.2 + o.2.2.2 + m.2.2.2)
  else (3, Tabs3.none, 0)

/-- a section read: the error, the sequences, the tables, the repeat offsets, where it ends -/
structure SecE where
  err : Int
  seqs : List (Int × Int × Int)
  tabs : Tabs3
  a : Int
  b : Int
  c : Int
  to_ : Nat
def SecE.no (x : Int) : SecE := ⟨x, [], Tabs3.none, 0, 0, 0, 0⟩
def decE (bs : List Nat) (at_ : Nat) (T : Tabs3) (a b c : Int) : SecE :=
  if repOk a b c = false then .no 2 else
  let v := varN (bs.drop at_)
  if v.2.2 ≠ 0 then .no v.2.2 else if 65536 < v.1 then .no 15
  else if v.1 = 0 then ⟨0, [], T, a, b, c, at_ + v.2.1⟩
  else
    let h := headE bs (at_ + v.2.1) T
    if h.1 ≠ 0 then .no h.1 else
    let r := rowE (bs.drop h.2.2) h.2.1.trks v.1 a b c
    if r.1 ≠ 0 then .no r.1 else ⟨0, r.2.1, h.2.1, r.2.2.1, r.2.2.2.1, r.2.2.2.2, bs.length⟩

theorem takeE_lt (V : Nat) (s : Nat × Int) (n : Nat) : (takeE V s n).1 < 2 ^ n := by
  have h := Nat.two_pow_pos n
  unfold takeE
  split
  · exact h
  · split
    · exact Nat.mod_lt _ h
    · exact h
theorem takeE_le (V : Nat) (s : Nat × Int) (n : Nat) : (takeE V s n).2.1 ≤ s.1 := by
  unfold takeE
  split
  · exact Nat.le_refl _
  · split
    · exact Nat.sub_le _ _
    · exact Nat.le_refl _

/-- a state's cell is well made -/
theorem cell_good {p : Nat} {N : List Int} (hv : Valid p N 256 9) {st : Nat} (hs : st < 2 ^ p) :
    symZ (spreadN p N) st = (symN p N st : Nat) ∧ symN p N st < N.length ∧ bitZ p N (spreadN p N) st = (bitN p N st : Nat) ∧ bitN p N st ≤ p ∧
      baseZ p N (spreadN p N) st = (bseN p N st : Nat) ∧ bseN p N st + 2 ^ bitN p N st ≤ 2 ^ p := by
  obtain ⟨c, h1, h2, h3, h4, h5, h6, h7, h8⟩ := cell_ok hv hs
  have e1 : symN p N st = c := by unfold symN; rw [h1]; simp
  have e2 : bitZ p N (spreadN p N) st = (bitN p N st : Nat) := by unfold bitN; omega
  have e3 : baseZ p N (spreadN p N) st = (bseN p N st : Nat) := by unfold bseN; omega
  refine ⟨by rw [h1, e1], by omega, e2, by omega, e3, ?_⟩
  have h9 : (2 : Int) ^ bitN p N st = ((2 ^ bitN p N st : Nat) : Int) := by simp
  have h10 : (2 : Int) ^ p = ((2 ^ p : Nat) : Int) := by simp
  have e4 : (bitZ p N (spreadN p N) st).toNat = bitN p N st := rfl
  rw [e4, e3, h9, h10] at h8
  omega

theorem onE_lt {p : Nat} {N : List Int} (hv : Valid p N 256 9) {st : Nat} (hs : st < 2 ^ p) (V : Nat) (s : Nat × Int) : (onE V p N st s).1 < 2 ^ p := by
  obtain ⟨_, _, _, _, _, h⟩ := cell_good hv hs
  have := takeE_lt V s (bitN p N st)
  unfold onE
  simp only
  omega

theorem Trks.ok.wide {T : Trks} (h : T.ok) : Valid T.pL T.NL 256 9 ∧ Valid T.pO T.NO 256 9 ∧ Valid T.pM T.NM 256 9 := by
  obtain ⟨⟨a1, a2, a3, a4, a5, a6⟩, ⟨b1, b2, b3, b4, b5, b6⟩, ⟨c1, c2, c3, c4, c5, c6⟩⟩ := h
  exact ⟨⟨a1, a2, a3, a4, by omega, a6⟩, ⟨b1, by omega, b3, b4, by omega, b6⟩, ⟨c1, c2, c3, c4, by omega, c6⟩⟩

theorem moveE_ok {T : Trks} (h : T.ok) {S : Sts} (hS : S.ok T) (V : Nat) (s : Nat × Int) : (moveE V T S s).1.ok T := by
  obtain ⟨h1, h2, h3⟩ := h.wide
  exact ⟨onE_lt h1 hS.1 _ _, onE_lt h2 hS.2.1 _ _, onE_lt h3 hS.2.2 _ _⟩
theorem startE_ok (V : Nat) (T : Trks) (s : Nat × Int) : (startE V T s).1.ok T := ⟨takeE_lt _ _ _, takeE_lt _ _ _, takeE_lt _ _ _⟩

/-- the states behind the first reads -/
def stF (V : Nat) (T : Trks) (t : Nat) : Nat → Sts × Nat × Int
  | 0 => (⟨0, 0, 0⟩, t, 0)
  | 1 => (⟨(takeE V (t, 0) T.pL).1, 0, 0⟩, (takeE V (t, 0) T.pL).2)
  | 2 => (⟨(takeE V (t, 0) T.pL).1, (takeE V (takeE V (t, 0) T.pL).2 T.pO).1, 0⟩, (takeE V (takeE V (t, 0) T.pL).2 T.pO).2)
  | _ => startE V T (t, 0)
/-- the states behind the first moves -/
def mvF (V : Nat) (T : Trks) (S : Sts) (s : Nat × Int) : Nat → Sts × Nat × Int
  | 0 => (S, s)
  | 1 => (⟨(onE V T.pL T.NL S.l s).1, S.o, S.m⟩, (onE V T.pL T.NL S.l s).2)
  | 2 => (⟨(onE V T.pL T.NL S.l s).1, S.o, (onE V T.pM T.NM S.m (onE V T.pL T.NL S.l s).2).1⟩, (onE V T.pM T.NM S.m (onE V T.pL T.NL S.l s).2).2)
  | _ => moveE V T S s

/-- a coded sequence as cells -/
def rawC (r : RawN) : List Value := [.int .i64 (r.lit : Nat), .int .i64 (r.len : Nat), .int .i64 (r.val : Nat)]

theorem readE_stop (V : Nat) (T : Trks) (k : Nat) (S : Sts) (s : Nat × Int) (h : k = 0 ∨ s.2 ≠ 0) : readE V T k S s = ([], s) := by
  cases k with
  | zero => rfl
  | succ k =>
    rcases h with h | h
    · omega
    · simp only [readE]; rw [if_pos h]
theorem readE_last (V : Nat) (T : Trks) (S : Sts) (s : Nat × Int) (h : s.2 = 0) : readE V T 1 S s = ([(oneE V T S s).1], (oneE V T S s).2) := by
  simp only [readE]; rw [if_neg (by rw [h]; simp)]; simp
theorem readE_more (V : Nat) (T : Trks) (k : Nat) (S : Sts) (s : Nat × Int) (h : s.2 = 0) (hk : 0 < k) : readE V T (k + 1) S s =
    ((oneE V T S s).1 :: (readE V T k (moveE V T S (oneE V T S s).2).1 (moveE V T S (oneE V T S s).2).2).1, (readE V T k (moveE V T S (oneE V T S s).2).1 (moveE V T S (oneE V T S s).2).2).2) := by
  rw [readE, if_neg (by rw [h]; simp), if_neg (by omega)]

/-- the values of a coded sequence are small -/
theorem valE_lt {p : Nat} {N : List Int} {o : Bool} (hv : Valid p N (if o then 28 else 44) 9) {st : Nat} (hs : st < 2 ^ p) (V : Nat) (s : Nat × Int) : (valE V o p N st s).1 < 2 ^ 28 ∧ (o = true → 1 ≤ (valE V o p N st s).1) := by
  have hw : Valid p N 256 9 := by
    obtain ⟨a1, a2, a3, a4, a5, a6⟩ := hv
    exact ⟨a1, a2, a3, a4, by cases o <;> simp at a5 <;> omega, a6⟩
  obtain ⟨_, h2, _⟩ := cell_good hw hs
  have hN : (N.length : Int) ≤ (if o then 28 else 44) := hv.2.2.2.2.1
  have ht := takeE_lt V s (exB o (symN p N st))
  unfold valE
  simp only
  generalize (takeE V s (exB o (symN p N st))).1 = r at *
  cases o with
  | true =>
    simp only [if_true] at hN
    simp only [exB, loB, if_true] at ht ⊢
    have hc : symN p N st ≤ 27 := by omega
    have h1 : 2 ^ symN p N st ≤ 2 ^ 27 := Nat.pow_le_pow_right (by decide) hc
    have h0 := Nat.two_pow_pos (symN p N st)
    exact ⟨by omega, fun _ => by omega⟩
  | false =>
    simp only [Bool.false_eq_true, if_false] at hN
    simp only [exB, loB, Bool.false_eq_true, if_false, false_implies, and_true] at ht ⊢
    have hc : symN p N st ≤ 43 := by omega
    unfold bitsL firstL at *
    split
    · next h => rw [if_pos h] at ht; omega
    · next h =>
      rw [if_neg h] at ht
      have h1 : 2 ^ (symN p N st / 2 - 5) ≤ 2 ^ 16 := Nat.pow_le_pow_right (by decide) (by omega)
      have h3 : (2 + symN p N st % 2) * 2 ^ (symN p N st / 2 - 5) ≤ 3 * 2 ^ 16 := Nat.mul_le_mul (by omega) h1
      omega

end Go.Proofs.YtjfdaphjijfieaaGreat

/-
  Package seqs: the tables that a section's head tells, as plain functions.
  Conditions: none beyond those of each theorem.
-/
namespace Go.Proofs.YtjfdaphjijfieaaGreat
open Go.RowKit
set_option linter.unusedVariables false
set_option linter.unusedSimpArgs false

theorem fit_valid25 {lg sy lb : Int} {N : List Int} (h : Valid lg N sy lb) : Fit N := by
  intro x hx
  have h1 := absZ_le_sum24 hx
  obtain ⟨q1, q2, q3, k1, k2, k3, k4, q4⟩ := h
  rw [q4] at h1
  have h2 : (2 : Int) ^ lg.toNat ≤ 512 := by
    have h3 : (2 : Int) ^ lg.toNat = ((2 ^ lg.toNat : Nat) : Int) := by simp
    have h4 : 2 ^ lg.toNat ≤ 2 ^ 9 := Nat.pow_le_pow_right (by decide) (by omega)
    omega
  unfold absZ at h1
  split at h1 <;> omega

/-- what Decode of modes reads is a table of the part -/
theorem decN_valid {m p lg l2 : Int} {N N2 : List Int} {bs : List Nat} {at_ k : Nat} (hb : ∀ b ∈ bs, b < 256) (h : decN m p lg N bs at_ = (0, l2, N2, k)) :
    Valid l2 N2 (partS p) (partX p) ∧ (at_ ≤ bs.length → at_ + k ≤ bs.length) := by
  by_cases h1 : p < 0 ∨ 2 < p ∨ m < 0 ∨ 3 < m
  · have : decN m p lg N bs at_ = (2, 0, [], 0) := if_pos h1
    rw [this] at h; simp at h
  have hd : decN m p lg N bs at_ = decM m p lg N bs at_ := if_neg h1
  rw [hd] at h
  have hp : 0 ≤ p ∧ p ≤ 2 := by omega
  have : m = 0 ∨ m = 1 ∨ m = 2 ∨ m = 3 := by omega
  rcases this with rfl | rfl | rfl | rfl
  · have e : decM 0 p lg N bs at_ = (0, partL p, partN p, 0) := rfl
    rw [e] at h
    simp only [Prod.mk.injEq, true_and] at h
    obtain ⟨rfl, rfl, rfl⟩ := h
    exact ⟨part_valid hp, fun h => by omega⟩
  · have e : decM 1 p lg N bs at_ = ((oneS bs at_ (partS p)).1, 0, (oneS bs at_ (partS p)).2.1, (oneS bs at_ (partS p)).2.2) := rfl
    rw [e] at h
    simp only [Prod.mk.injEq] at h
    obtain ⟨e1, rfl, rfl, rfl⟩ := h
    unfold oneS at e1 ⊢
    by_cases hb0 : at_ < bs.length
    · rw [if_pos hb0] at e1 ⊢
      by_cases hs : partS p ≤ (bs[at_]?.getD 0 : Nat)
      · rw [if_pos hs] at e1; simp at e1
      · rw [if_neg hs]
        exact ⟨oneN_valid (by omega) (by have := part_bounds p; omega), fun _ => by simp; omega⟩
    · rw [if_neg hb0] at e1; simp at e1
  · have e : decM 2 p lg N bs at_ = desS bs at_ (partS p) (partX p) := rfl
    rw [e] at h
    unfold desS at h
    rcases hc : decodeS (partS p) (partX p) (rowB (seenB bs at_)) with e2 | ⟨q, M, j⟩
    · rw [hc] at h
      simp only [Prod.mk.injEq] at h
      exact absurd h.1 (decodeS_err24 hc)
    · rw [hc] at h
      simp only [Prod.mk.injEq, true_and] at h
      obtain ⟨rfl, rfl, rfl⟩ := h
      have hb2 : ∀ b ∈ seenB bs at_, b < 256 := fun b hx => hb b (List.mem_of_mem_drop (List.mem_of_mem_take hx))
      obtain ⟨d1, d2, d3, d4, d5, d6⟩ := desc_once hb2 hc
      refine ⟨⟨d1.1, d4, d1.2.2.1, d1.2.2.2.1, d3, d1.2.2.2.2.2⟩, fun h => ?_⟩
      unfold seenB at d5
      simp at d5
      omega
  · by_cases hv : Valid lg N (partS p) (partX p)
    · have e : decM 3 p lg N bs at_ = (0, lg, N, 0) := by simp [decM, hv]
      rw [e] at h
      simp only [Prod.mk.injEq, true_and] at h
      obtain ⟨rfl, rfl, rfl⟩ := h
      exact ⟨hv, fun h => by omega⟩
    · have e : decM 3 p lg N bs at_ = (13, 0, [], 0) := by simp [decM, hv]
      rw [e] at h
      simp at h

/-- the head's tables from the p-th part on -/
def hd2 (bs : List Nat) (x at_ : Nat) (T : Tabs3) : Int × Tabs3 × Nat :=
  let m := decN ((x / 16 % 4 : Nat) : Int) 2 T.lM T.NM bs at_
  if m.1 ≠ 0 then (m.1, Tabs3.none, 0) else (0, ⟨T.lL, T.NL, T.lO, T.NO, m.2.1, m.2.2.1⟩, at_ + m.2.2.2)
def hd1 (bs : List Nat) (x at_ : Nat) (T : Tabs3) : Int × Tabs3 × Nat :=
  let o := decN ((x / 4 % 4 : Nat) : Int) 1 T.lO T.NO bs at_
  if o.1 ≠ 0 then (o.1, Tabs3.none, 0) else hd2 bs x (at_ + o.2.2.2) ⟨T.lL, T.NL, o.2.1, o.2.2.1, T.lM, T.NM⟩
def hd0 (bs : List Nat) (x at_ : Nat) (T : Tabs3) : Int × Tabs3 × Nat :=
  let l := decN ((x % 4 : Nat) : Int) 0 T.lL T.NL bs at_
  if l.1 ≠ 0 then (l.1, Tabs3.none, 0) else hd1 bs x (at_ + l.2.2.2) ⟨l.2.1, l.2.2.1, T.lO, T.NO, T.lM, T.NM⟩
/-- from part i on -/
def hdF (bs : List Nat) (x : Nat) : Nat → Nat → Tabs3 → Int × Tabs3 × Nat
  | 0, at_, T => hd0 bs x at_ T
  | 1, at_, T => hd1 bs x at_ T
  | 2, at_, T => hd2 bs x at_ T
  | _, at_, T => (0, T, at_)

theorem hdF_ok0 {bs : List Nat} {x a k1 : Nat} {T : Tabs3} {l1 : Int} {N1 : List Int} (h : decN ((x % 4 : Nat) : Int) 0 T.lL T.NL bs a = (0, l1, N1, k1)) : hdF bs x 1 (a + k1) ⟨l1, N1, T.lO, T.NO, T.lM, T.NM⟩ = hdF bs x 0 a T := by
  show _ = hd0 bs x a T
  unfold hd0
  rw [h]
  rfl
theorem hdF_no0 {bs : List Nat} {x a k1 : Nat} {T : Tabs3} {x1 l1 : Int} {N1 : List Int} (h : decN ((x % 4 : Nat) : Int) 0 T.lL T.NL bs a = (x1, l1, N1, k1)) (hx : x1 ≠ 0) : hdF bs x 0 a T = (x1, Tabs3.none, 0) := by
  show hd0 bs x a T = _
  unfold hd0
  rw [h]
  exact if_pos hx
theorem hdF_ok1 {bs : List Nat} {x a k1 : Nat} {T : Tabs3} {l1 : Int} {N1 : List Int} (h : decN ((x / 4 % 4 : Nat) : Int) 1 T.lO T.NO bs a = (0, l1, N1, k1)) : hdF bs x 2 (a + k1) ⟨T.lL, T.NL, l1, N1, T.lM, T.NM⟩ = hdF bs x 1 a T := by
  show _ = hd1 bs x a T
  unfold hd1
  rw [h]
  rfl
theorem hdF_no1 {bs : List Nat} {x a k1 : Nat} {T : Tabs3} {x1 l1 : Int} {N1 : List Int} (h : decN ((x / 4 % 4 : Nat) : Int) 1 T.lO T.NO bs a = (x1, l1, N1, k1)) (hx : x1 ≠ 0) : hdF bs x 1 a T = (x1, Tabs3.none, 0) := by
  show hd1 bs x a T = _
  unfold hd1
  rw [h]
  exact if_pos hx
theorem hdF_ok2 {bs : List Nat} {x a k1 : Nat} {T : Tabs3} {l1 : Int} {N1 : List Int} (h : decN ((x / 16 % 4 : Nat) : Int) 2 T.lM T.NM bs a = (0, l1, N1, k1)) : hdF bs x 3 (a + k1) ⟨T.lL, T.NL, T.lO, T.NO, l1, N1⟩ = hdF bs x 2 a T := by
  show _ = hd2 bs x a T
  unfold hd2
  rw [h]
  rfl
theorem hdF_no2 {bs : List Nat} {x a k1 : Nat} {T : Tabs3} {x1 l1 : Int} {N1 : List Int} (h : decN ((x / 16 % 4 : Nat) : Int) 2 T.lM T.NM bs a = (x1, l1, N1, k1)) (hx : x1 ≠ 0) : hdF bs x 2 a T = (x1, Tabs3.none, 0) := by
  show hd2 bs x a T = _
  unfold hd2
  rw [h]
  exact if_pos hx
theorem headE_short {bs : List Nat} {at_ : Nat} {T : Tabs3} (h : ¬ at_ < bs.length) : headE bs at_ T = (3, Tabs3.none, 0) := by
  unfold headE; rw [if_neg h]
theorem headE_big {bs : List Nat} {at_ : Nat} {T : Tabs3} (h : at_ < bs.length) (h2 : 64 ≤ bs[at_]?.getD 0) : headE bs at_ T = (13, Tabs3.none, 0) := by
  unfold headE; rw [if_pos h]; simp only; rw [if_pos h2]
theorem headE_go {bs : List Nat} {at_ : Nat} {T : Tabs3} (h : at_ < bs.length) (h2 : ¬ 64 ≤ bs[at_]?.getD 0) : headE bs at_ T = hdF bs (bs[at_]?.getD 0) 0 (at_ + 1) T := by
  unfold headE; rw [if_pos h]; simp only; rw [if_neg h2]
  rfl

/-- tables of the parts -/
def Tabs3.ok (T : Tabs3) : Prop := Valid T.lL T.NL 44 9 ∧ Valid T.lO T.NO 28 8 ∧ Valid T.lM T.NM 44 9
theorem Tabs3.ok.trks {T : Tabs3} (h : T.ok) : T.trks.ok ∧ T.lL = (T.trks.pL : Nat) ∧ T.lO = (T.trks.pO : Nat) ∧ T.lM = (T.trks.pM : Nat) := by
  have e1 : T.lL = (T.lL.toNat : Nat) := by have := h.1.1; omega
  have e2 : T.lO = (T.lO.toNat : Nat) := by have := h.2.1.1; omega
  have e3 : T.lM = (T.lM.toNat : Nat) := by have := h.2.2.1; omega
  exact ⟨⟨by have := h.1; rw [e1] at this; exact this, by have := h.2.1; rw [e2] at this; exact this, by have := h.2.2; rw [e3] at this; exact this⟩, e1, e2, e3⟩

theorem headE_ok {bs : List Nat} {at_ : Nat} {T : Tabs3} (hb : ∀ b ∈ bs, b < 256) (h : (headE bs at_ T).1 = 0) : (headE bs at_ T).2.1.ok ∧ (headE bs at_ T).2.2 ≤ bs.length := by
  by_cases h1 : at_ < bs.length
  · by_cases h2 : 64 ≤ bs[at_]?.getD 0
    · rw [headE_big h1 h2] at h; simp at h
    · rw [headE_go h1 h2] at h ⊢
      simp only [hdF, hd0] at h ⊢
      generalize hl : decN ((bs[at_]?.getD 0 % 4 : Nat) : Int) 0 T.lL T.NL bs (at_ + 1) = L at h ⊢
      obtain ⟨xl, ll, Nl, kl⟩ := L
      by_cases el : xl = 0
      · subst el
        obtain ⟨vl, al⟩ := decN_valid hb hl
        simp only [ne_eq, not_true_eq_false, if_false, hd1] at h ⊢
        generalize ho : decN ((bs[at_]?.getD 0 / 4 % 4 : Nat) : Int) 1 T.lO T.NO bs (at_ + 1 + kl) = L at h ⊢
        obtain ⟨xo, lo, No, ko⟩ := L
        by_cases eo : xo = 0
        · subst eo
          obtain ⟨vo, ao⟩ := decN_valid hb ho
          simp only [ne_eq, not_true_eq_false, if_false, hd2] at h ⊢
          generalize hm : decN ((bs[at_]?.getD 0 / 16 % 4 : Nat) : Int) 2 T.lM T.NM bs (at_ + 1 + kl + ko) = L at h ⊢
          obtain ⟨xm, lm, Nm, km⟩ := L
          by_cases em : xm = 0
          · subst em
            obtain ⟨vm, am⟩ := decN_valid hb hm
            simp only [ne_eq, not_true_eq_false, if_false] at h ⊢
            exact ⟨⟨vl, vo, vm⟩, am (ao (al (by omega)))⟩
          · simp [em] at h
        · simp [eo] at h
      · simp [el] at h
  · rw [headE_short h1] at h; simp at h

end Go.Proofs.YtjfdaphjijfieaaGreat

/-
  Package seqs: head.
  Conditions: none beyond those of each theorem.
-/
namespace Go.Proofs.YtjfdaphjijfieaaGreat
open Go.RowKit
set_option linter.unusedVariables false
set_option linter.unusedSimpArgs false

/-- what head leaves -/
def HeadPost (F : Nat → Prop) (g : Nat) (bs : List Nat) (at_ : Nat) (T : Tabs3) (w : World) (e : Ending) (w' : World) : Prop :=
  Upd (fun b => b = g) w w' ∧ (if (headE bs at_ T).1 = 0 then ∃ A n c B m d C k e1, e = .returned (.tuple #[.agg #[.int .i64 (headE bs at_ T).2.1.lL, .slice A n c, .int .i64 (headE bs at_ T).2.1.lO, .slice B m d, .int .i64 (headE bs at_ T).2.1.lM, .slice C k e1], .int .i64 0]) ∧
      Rd w' (fun b => w.heap.size ≤ b) A n (ints (headE bs at_ T).2.1.NL) ∧ Rd w' (fun b => w.heap.size ≤ b) B m (ints (headE bs at_ T).2.1.NO) ∧ Rd w' (fun b => w.heap.size ≤ b) C k (ints (headE bs at_ T).2.1.NM) ∧ CurAt w' F g bs (headE bs at_ T).2.2
    else e = .returned (.tuple #[.agg #[.int .i64 0, .slice none 0 0, .int .i64 0, .slice none 0 0, .int .i64 0, .slice none 0 0], .int .i64 (headE bs at_ T).1]))

theorem and3u (x : Nat) (h : x < 256) : bits .and .u8 (x : Int) 3 = ((x % 4 : Nat) : Int) := by
  have : ∀ x : Fin 256, bits .and .u8 ((x.val : Nat) : Int) 3 = ((x.val % 4 : Nat) : Int) := by decide +kernel
  exact this ⟨x, h⟩

theorem set6 (w : World) (H : Nat) (v0 v1 v2 v3 v4 v5 : Value) : Upd (fun b => b = H) w ((((((w.setCell ⟨H, 0, none⟩ v0).setCell ⟨H, 1, none⟩ v1).setCell ⟨H, 2, none⟩ v2).setCell ⟨H, 3, none⟩ v3).setCell ⟨H, 4, none⟩ v4).setCell ⟨H, 5, none⟩ v5) :=
  ((((((Upd.refl (fun b => b = H) w).setCell (p := ⟨H, 0, none⟩) (fun _ => rfl) _).setCell (p := ⟨H, 1, none⟩) (fun _ => rfl) _).setCell (p := ⟨H, 2, none⟩) (fun _ => rfl) _).setCell (p := ⟨H, 3, none⟩) (fun _ => rfl) _).setCell (p := ⟨H, 4, none⟩) (fun _ => rfl) _).setCell (p := ⟨H, 5, none⟩) (fun _ => rfl) _
theorem Blk.set6 {w : World} {H : Nat} {t : TypeId} {a0 a1 a2 a3 a4 a5 : Value} (h : Blk w H t #[a0, a1, a2, a3, a4, a5]) (v0 v1 v2 v3 v4 v5 : Value) :
    Blk ((((((w.setCell ⟨H, 0, none⟩ v0).setCell ⟨H, 1, none⟩ v1).setCell ⟨H, 2, none⟩ v2).setCell ⟨H, 3, none⟩ v3).setCell ⟨H, 4, none⟩ v4).setCell ⟨H, 5, none⟩ v5) H t #[v0, v1, v2, v3, v4, v5] := by
  have := (((((h.set_ 0 v0).set_ 1 v1).set_ 2 v2).set_ 3 v3).set_ 4 v4).set_ 5 v5
  simpa using this

theorem shr_u8 {P : Program} (x k : Nat) (y : Int) (W : World) (hk : k < 8) (hy : (x : Int) / 2 ^ k = y) : (Op.shift .shr .u8 (x : Int) .i64 (k : Nat)).run P W = .ok (.int .u8 y) W := by
  have h1 : ¬ ((k : Nat) : Int) < 0 := by omega
  have h2 : min ((k : Nat) : Int).toNat IntKind.u8.bits = k := by rw [Int.toNat_natCast]; show min k 8 = k; omega
  unfold Op.shift
  rw [if_neg h1]
  simp only [h2]
  rw [Int.fdiv_eq_ediv_of_nonneg _ (Int.pow_nonneg (by decide)), hy]
  rfl

set_option maxRecDepth 100000 in
set_option maxHeartbeats 40000000 in
theorem head_any (F G : Nat → Prop) (g : Nat) (bs : List Nat) (at_ : Nat) (D A B C : Option Addr) (h i n c m d k e : Nat) (T : Tabs3) (r0 r1 r2 : Int) (w : World) (hcu : CurAt w F g bs at_) (hF : ∀ b, F b → b ≠ g) (hG : ∀ b, G b → b ≠ g)
    (h1 : Rd w G A n (ints T.NL)) (h2 : Rd w G B m (ints T.NO)) (h3 : Rd w G C k (ints T.NM)) (f1 : Fit T.NL) (f2 : Fit T.NO) (f3 : Fit T.NM) (b1 : (n : Int) ≤ 1099511627776) (b2 : (m : Int) ≤ 1099511627776) (b3 : (k : Int) ≤ 1099511627776) :
    Calls Tryz.prog 37 #[.pointer (some ⟨g, 0, none⟩), .agg #[.slice D h i, .int .i64 T.lL, .slice A n c, .int .i64 T.lO, .slice B m d, .int .i64 T.lM, .slice C k e, .int .i64 r0, .int .i64 r1, .int .i64 r2]] w (HeadPost F g bs at_ T w) := by
  have hlt : ∀ b ∈ bs, b < 256 := by obtain ⟨_, _, _, _, h, _⟩ := hcu; exact h
  have hgl := hcu.lt
  obtain ⟨w0, hw0⟩ : ∃ w0, w0 = (w.alloc (.cells #[.slice D h i, .int .i64 T.lL, .slice A n c, .int .i64 T.lO, .slice B m d, .int .i64 T.lM, .slice C k e, .int .i64 r0, .int .i64 r1, .int .i64 r2] 32)).alloc (.cells #[.int .i64 0, .slice none 0 0, .int .i64 0, .slice none 0 0, .int .i64 0, .slice none 0 0] 69) := ⟨_, rfl⟩
  obtain ⟨H, hH⟩ : ∃ H, H = w.heap.size := ⟨_, rfl⟩
  have f0 : Fresh w w0 := by rw [hw0]; exact ((Upd.refl _ _).alloc _).alloc _
  have bc : Blk w0 H 32 #[.slice D h i, .int .i64 T.lL, .slice A n c, .int .i64 T.lO, .slice B m d, .int .i64 T.lM, .slice C k e, .int .i64 r0, .int .i64 r1, .int .i64 r2] := by rw [hw0]; exact (blk_new hH _ _).alloc _
  have bo : Blk w0 (H + 1) 69 #[.int .i64 0, .slice none 0 0, .int .i64 0, .slice none 0 0, .int .i64 0, .slice none 0 0] := by rw [hw0]; exact blk_new (by simp [hH]) _ _
  have hs0 : w0.heap.size = H + 2 := by rw [hw0, hH]; simp
  have HCU := hide (hcu.both.fresh f0)
  have HR1 := hide (h1.both.fresh f0)
  have HR2 := hide (h2.both.fresh f0)
  have HR3 := hide (h3.both.fresh f0)
  have HFT := hide (And.intro f1 (And.intro f2 f3))
  have HBD := hide (And.intro b1 (And.intro b2 b3))
  have HG := hide hG
  have HF := hide hF
  have HLT := hide hlt
  have HGL := hide (show g < H by rw [hH]; exact hgl)
  have HW := hide hw0
  have HH := hide hH
  have F0 := hide f0
  have BC := hide bc
  have BO := hide bo
  have HS0 := hide hs0
  have HTA := hide tables_any
  clear hcu h1 h2 h3 f1 f2 f3 b1 b2 b3 hG hF hlt hgl hw0 hH f0 bc bo hs0
  refine veil fun R hR => ?_
  go_enter Tryz.func37, Tryz.ntmps37
  go_upto_region 1 with fail
  simp only [← HH.out, ← HW.out]
  have y0 := BO.out.cell 0
  have y1 := BO.out.cell 1
  have y2 := BO.out.cell 2
  by_cases hat : at_ < bs.length
  · obtain ⟨x, hx⟩ : ∃ x, x = bs[at_]?.getD 0 := ⟨_, rfl⟩
    have hx2 : x < 256 := by rw [hx]; exact getD_lt HLT.out at_
    have HBY := cbyte_ok (fun b => F b ∧ b < w.heap.size) g bs at_ w0 HCU.out hat (fun b hb => HF.out b hb.1)
    rw [← hx] at HBY
    have HBY := hide HBY
    have HX := hide hx
    clear hx
    by_cases h64 : 64 ≤ x
    · have hxd : ¬ (x : Int) / 64 = 0 := by omega
      have hxb : ((x : Int) / 64 == 0) = false := by simpa using hxd
      have hxt : ((x : Int) / 64 != 0) = true := by simpa using hxd
      have HE := hide (show headE bs at_ T = (13, Tabs3.none, 0) from headE_big hat (by rw [← HX.out]; exact h64))
      clear y0 y1 y2
      go_wp2_with fail
      refine HBY.out.mono ?_
      rintro e' w1 ⟨rfl, u1, c1⟩
      have o5 := BO.out.upd u1 (by have := HGL.out; omega)
      have q0 := o5.cell 0
      have q1 := o5.cell 1
      have q2 := o5.cell 2
      have q3 := o5.cell 3
      have q4 := o5.cell 4
      have q5 := o5.cell 5
      have p0 := o5.frozen 0
      have p1 := o5.frozen 1
      have p2 := o5.frozen 2
      have p3 := o5.frozen 3
      have p4 := o5.frozen 4
      have p5 := o5.frozen 5
      simp at q0 q1 q2 q3 q4 q5
      have o6 := hide (o5.set6 (.int .i64 0) (.slice none 0 0) (.int .i64 0) (.slice none 0 0) (.int .i64 0) (.slice none 0 0))
      have u3 := set6 w1 (H + 1) (.int .i64 0) (.slice none 0 0) (.int .i64 0) (.slice none 0 0) (.int .i64 0) (.slice none 0 0)
      have HUF := hide (((F0.out.mono (T := fun b => b = g) fun _ _ h => h.elim).trans' u1).trans u3 (fun b hb e => by have := HH.out; omega))
      clear o5 u3 u1 c1
      go_wp2_with fail
      refine bodyPost_ret (results_cell_tmp_row rfl _ _ (H + 1) _ _ _ rfl o6.out Tryz.underlying69 rfl (by kernel_rfl)) rfl ?_
      refine hR.out _ _ ⟨HUF.out, ?_⟩
      rw [HE.out, if_neg (by simp)]
      rfl
    · have hxd : (x : Int) / 64 = 0 := by omega
      have hxs : headE bs at_ T = hdF bs x 0 (at_ + 1) T := by rw [HX.out]; exact headE_go hat (by rw [← HX.out]; exact h64)
      have HXS := hide hxs
      clear y0 y1 y2 hxs
      go_wp2_with fail
      refine HBY.out.mono ?_
      rintro e' w1 ⟨rfl, u1, c1⟩
      have bc1 := BC.out.upd u1 (by have := HGL.out; omega)
      have c1x0 := bc1.cell 0
      have c1x1 := bc1.cell 1
      have c1x2 := bc1.cell 2
      have c1x3 := bc1.cell 3
      have c1x4 := bc1.cell 4
      have c1x5 := bc1.cell 5
      have c1x6 := bc1.cell 6
      have c1x7 := bc1.cell 7
      have c1x8 := bc1.cell 8
      have c1x9 := bc1.cell 9
      simp at c1x0 c1x1 c1x2 c1x3 c1x4 c1x5 c1x6 c1x7 c1x8 c1x9
      have HU1 := hide u1
      have HC1 := hide c1
      clear u1 c1 bc1
      go_wp2_with fail
      refine (HTA.out _ _ _ _ _ _ _ _ _ _ _ _ _ _ _ _ _ _ _).mono ?_
      rintro e' w2 ⟨rfl, f2⟩
      have HU2 := hide (HU1.out.trans' (f2.mono (T := fun b => b = g) fun _ _ h => h.elim))
      have HC2 := hide (HC1.out.fresh f2)
      clear f2 c1x0 c1x1 c1x2 c1x3 c1x4 c1x5 c1x6 c1x7 c1x8 c1x9
      go_wp2_with fail
      obtain ⟨K, hK⟩ : ∃ K, K = w2.heap.size := ⟨_, rfl⟩
      obtain ⟨w3, hw3⟩ : ∃ w3, w3 = w2.alloc (.cells #[.int .i64 T.lL, .slice A n c, .int .i64 T.lO, .slice B m d, .int .i64 T.lM, .slice C k e] 69) := ⟨_, rfl⟩
      simp only [← hK, ← hw3]
      have f3 : Fresh w2 w3 := by rw [hw3]; exact (Upd.refl _ _).alloc _
      have HK3 := hide (show Blk w3 K 69 #[.int .i64 T.lL, .slice A n c, .int .i64 T.lO, .slice B m d, .int .i64 T.lM, .slice C k e] by rw [hw3]; exact blk_new hK _ _)
      have HU3 := hide (HU2.out.trans' (f3.mono (T := fun b => b = g) fun _ _ h => h.elim))
      have HC3 := hide (HC2.out.fresh f3)
      have HKS := hide (show H + 2 ≤ K by have h1 := HU2.out.size; have h2 := HS0.out; omega)
      have HBO := hide (BO.out.upd HU3.out (by have := HGL.out; omega))
      clear hK hw3 f3
      go_loopg [27] 3 (fun f vi wr => ∃ (i a : Nat) (T' : Tabs3) (A' B' C' : Option Addr) (n' c' m' d' k' e' : Nat), i + f = 3 ∧ vi = .int .i64 i ∧ hdF bs x i a T' = hdF bs x 0 (at_ + 1) T ∧ Upd (fun b => b = g ∨ b = K) w3 wr ∧
        Blk wr K 69 #[.int .i64 T'.lL, .slice A' n' c', .int .i64 T'.lO, .slice B' m' d', .int .i64 T'.lM, .slice C' k' e'] ∧ CurAt wr (fun b => F b ∧ b < w.heap.size) g bs a ∧
        Rd wr (fun b => if 0 < i then K + 1 ≤ b else G b ∧ b < w.heap.size) A' n' (ints T'.NL) ∧ Rd wr (fun b => if 1 < i then K + 1 ≤ b else G b ∧ b < w.heap.size) B' m' (ints T'.NO) ∧ Rd wr (fun b => if 2 < i then K + 1 ≤ b else G b ∧ b < w.heap.size) C' k' (ints T'.NM) ∧
        (Fit T'.NL ∧ Fit T'.NO ∧ Fit T'.NM) ∧ ((n' : Int) ≤ 1099511627776 ∧ (m' : Int) ≤ 1099511627776 ∧ (k' : Int) ≤ 1099511627776))
      case atStart => exact ⟨0, at_ + 1, T, A, B, C, n, c, m, d, k, e, rfl, rfl, rfl, Upd.refl _ _, HK3.out, HC3.out, by simpa using HR1.out.upd HU3.out (fun b _ hb => HG.out b hb.1), by simpa using HR2.out.upd HU3.out (fun b _ hb => HG.out b hb.1), by simpa using HR3.out.upd HU3.out (fun b _ hb => HG.out b hb.1), HFT.out, HBD.out⟩
      case round =>
        obtain ⟨i, a, T', A', B', C', n', c', m', d', k', e2, hf, rfl, hgh, hu, hb, hcu, hr1, hr2, hr3, hft, hbd⟩ := hrel
        have HGH := hide hgh
        have HU := hide hu
        have HB := hide hb
        have HCU2 := hide hcu
        have HA1 := hide hr1
        have HA2 := hide hr2
        have HA3 := hide hr3
        have HFT2 := hide hft
        have HBD2 := hide hbd
        have a0 := hb.cell 0
        have a1 := hb.cell 1
        have a2 := hb.cell 2
        have a3 := hb.cell 3
        have a4 := hb.cell 4
        have a5 := hb.cell 5
        simp at a0 a1 a2 a3 a4 a5
        have h4 : i = 0 ∨ i = 1 ∨ i = 2 ∨ i = 3 := by omega
        clear hgh hu hb hcu hr1 hr2 hr3 hft hbd
        rcases h4 with rfl | rfl | rfl | rfl
        · obtain rfl : gk = 3 := by omega
          clear hf
          obtain ⟨mo, hmo⟩ : ∃ mo, mo = x % 4 := ⟨_, rfl⟩
          have hand : bits .and .u8 ((x : Int)) 3 = (mo : Nat) := by
            rw [show (x : Int) = ((x : Nat) : Int) by omega, and3u _ (by omega), hmo]
          have sw0 : IntKind.i64.wrap 0 = 0 := by decide
          have hsh : ∀ W, (Op.shift .shr .u8 (x : Int) .i64 0).run Tryz.prog W = .ok (.int .u8 ((x : Int))) W := fun W => shr_u8 x 0 ((x : Int)) W (by decide) (by simp)
          have hmo4 : mo < 4 := by omega
          have sm1 : wrap64 ((mo : Nat) : Int) = ((mo : Nat) : Int) := wrap64_small _ (by omega)
          have sm2 : IntKind.i64.wrap ((mo : Nat) : Int) = ((mo : Nat) : Int) := IntWalk.i64_in _ (by omega)
          have hrd : Rd wr (fun b => G b ∧ b < w.heap.size) A' n' (ints T'.NL) := by simpa using HA1.out
          have hde := fun W (f : Fresh wr W) => mdec_any (fun b => F b ∧ b < w.heap.size) _ g bs a A' n' c' (mo : Nat) 0 T'.lL T'.NL W (HCU2.out.fresh f) (fun b hb => HF.out b hb.1) (hrd.fresh f) HFT2.out.1 HBD2.out.1
          obtain ⟨dd, hdd⟩ : ∃ dd, dd = decN (mo : Nat) 0 T'.lL T'.NL bs a := ⟨_, rfl⟩
          rw [← hdd] at hde
          obtain ⟨x1, l1, N1, k1⟩ := dd
          simp only at hde
          have HDE := hide hde
          have HDD := hide hdd.symm
          have HMO := hide hmo
          have HBK : Hid (∀ W, Upd (fun b => b = g) wr W → W.cell? ⟨K, 0, none⟩ = some (.int .i64 T'.lL) ∧ W.cell? ⟨K, 1, none⟩ = some (.slice A' n' c') ∧ W.frozen? ⟨K, 0, none⟩ = false ∧ W.frozen? ⟨K, 1, none⟩ = false) := fun W u => by
            have b := HB.out.upd u (by have := HKS.out; have := HGL.out; omega)
            exact ⟨by simpa using b.cell 0, by simpa using b.cell 1, b.frozen _, b.frozen _⟩
          clear hmo hrd hde hdd
          by_cases hx1 : x1 = 0
          · subst hx1
            go_wp2_with fail
            go_region_with
              (first
                | (go_at_call 57; refine (HDE.out _ (by first | exact Upd.refl _ _ | exact (Upd.refl _ _).drew | exact (Upd.refl _ _).drewN _)).mono ?_; rintro e w5 ⟨u5, c5, A5, n5, cc5, rfl, r5⟩; have ux : Upd (fun b => b = g) wr w5 := (by first | exact u5 | exact Upd.trans' ((Upd.refl _ _).drew) u5 | exact Upd.trans' ((Upd.refl _ _).drewN _) u5); obtain ⟨y0, y1, z0, z1⟩ := HBK.out w5 ux))
            have hgk := HKS.out
            have hgl := HGL.out
            have u2 : Upd (fun b => b = K) w5 ((w5.setCell ⟨K, 0, none⟩ (.int .i64 l1)).setCell ⟨K, 1, none⟩ (.slice A5 n5 cc5)) := ((Upd.refl (fun b => b = K) w5).setCell (p := ⟨K, 0, none⟩) (fun _ => rfl) _).setCell (p := ⟨K, 1, none⟩) (fun _ => rfl) _
            have uK : Upd (fun b => b = g ∨ b = K) w3 ((w5.setCell ⟨K, 0, none⟩ (.int .i64 l1)).setCell ⟨K, 1, none⟩ (.slice A5 n5 cc5)) := (HU.out.trans' (ux.mono fun _ _ h => .inl h)).trans' (u2.mono fun _ _ h => .inr h)
            have b5 := ((HB.out.upd ux (by omega)).set_ 0 (.int .i64 l1)).set_ 1 (.slice A5 n5 cc5)
            simp at b5
            have c6 := c5.upd u2 (by omega) (fun b _ hb e => by have := hb.2; have := HH.out; omega)
            have hK : K < wr.heap.size := HB.out.lt
            have r6 : Rd ((w5.setCell ⟨K, 0, none⟩ (.int .i64 l1)).setCell ⟨K, 1, none⟩ (.slice A5 n5 cc5)) (fun b => K + 1 ≤ b) A5 n5 (ints N1) := (r5.mono (G := fun b => K + 1 ≤ b) (fun b hb => by have h : wr.heap.size ≤ b := hb; omega)).upd u2 (fun b _ hb e => by omega)
            have hval := (decN_valid HLT.out HDD.out).1
            have hfit5 : Fit N1 := fit_valid25 hval
            have hn5 : (n5 : Int) ≤ 1099511627776 := by have h1 := hval.2.2.2.2.1; have h2 := (part_bounds 0).1; have h3 := r5.1; simp at h3; omega
            have hgh : hdF bs x 1 (a + k1) ⟨l1, N1, T'.lO, T'.NO, T'.lM, T'.NM⟩ = hdF bs x 0 (at_ + 1) T := by
              have e := HDD.out
              rw [HMO.out] at e
              rw [← HGH.out]
              exact hdF_ok0 e
            have s1 : Rd ((w5.setCell ⟨K, 0, none⟩ (.int .i64 l1)).setCell ⟨K, 1, none⟩ (.slice A5 n5 cc5)) (fun b => G b ∧ b < w.heap.size) B' m' (ints T'.NO) := ((show Rd wr (fun b => G b ∧ b < w.heap.size) B' m' (ints T'.NO) by simpa using HA2.out).upd ux (fun b _ hb e => by have := HG.out b hb.1; have := hb.2; have := HH.out; omega)).upd u2 (fun b _ hb e => by have := HG.out b hb.1; have := hb.2; have := HH.out; omega)
            have s2 : Rd ((w5.setCell ⟨K, 0, none⟩ (.int .i64 l1)).setCell ⟨K, 1, none⟩ (.slice A5 n5 cc5)) (fun b => G b ∧ b < w.heap.size) C' k' (ints T'.NM) := ((show Rd wr (fun b => G b ∧ b < w.heap.size) C' k' (ints T'.NM) by simpa using HA3.out).upd ux (fun b _ hb e => by have := HG.out b hb.1; have := hb.2; have := HH.out; omega)).upd u2 (fun b _ hb e => by have := HG.out b hb.1; have := hb.2; have := HH.out; omega)
            have HE := hide (show ∃ (i a : Nat) (T' : Tabs3) (A' B' C' : Option Addr) (n' c' m' d' k' e' : Nat), i + 2 = 3 ∧ (Value.int .i64 1 : Value) = .int .i64 i ∧ hdF bs x i a T' = hdF bs x 0 (at_ + 1) T ∧ Upd (fun b => b = g ∨ b = K) w3 ((w5.setCell ⟨K, 0, none⟩ (.int .i64 l1)).setCell ⟨K, 1, none⟩ (.slice A5 n5 cc5)) ∧
              Blk ((w5.setCell ⟨K, 0, none⟩ (.int .i64 l1)).setCell ⟨K, 1, none⟩ (.slice A5 n5 cc5)) K 69 #[.int .i64 T'.lL, .slice A' n' c', .int .i64 T'.lO, .slice B' m' d', .int .i64 T'.lM, .slice C' k' e'] ∧ CurAt ((w5.setCell ⟨K, 0, none⟩ (.int .i64 l1)).setCell ⟨K, 1, none⟩ (.slice A5 n5 cc5)) (fun b => F b ∧ b < w.heap.size) g bs a ∧
              Rd ((w5.setCell ⟨K, 0, none⟩ (.int .i64 l1)).setCell ⟨K, 1, none⟩ (.slice A5 n5 cc5)) (fun b => if 0 < i then K + 1 ≤ b else G b ∧ b < w.heap.size) A' n' (ints T'.NL) ∧ Rd ((w5.setCell ⟨K, 0, none⟩ (.int .i64 l1)).setCell ⟨K, 1, none⟩ (.slice A5 n5 cc5)) (fun b => if 1 < i then K + 1 ≤ b else G b ∧ b < w.heap.size) B' m' (ints T'.NO) ∧ Rd ((w5.setCell ⟨K, 0, none⟩ (.int .i64 l1)).setCell ⟨K, 1, none⟩ (.slice A5 n5 cc5)) (fun b => if 2 < i then K + 1 ≤ b else G b ∧ b < w.heap.size) C' k' (ints T'.NM) ∧
              (Fit T'.NL ∧ Fit T'.NO ∧ Fit T'.NM) ∧ ((n' : Int) ≤ 1099511627776 ∧ (m' : Int) ≤ 1099511627776 ∧ (k' : Int) ≤ 1099511627776)
              from ⟨1, a + k1, ⟨l1, N1, T'.lO, T'.NO, T'.lM, T'.NM⟩, A5, B', C', n5, cc5, m', d', k', e2, rfl, rfl, hgh, uK, b5, c6, by simpa using r6, by simpa using s1, by simpa using s2, ⟨hfit5, HFT2.out.2.1, HFT2.out.2.2⟩, ⟨hn5, HBD2.out.2.1, HBD2.out.2.2⟩⟩)
            clear u2 uK b5 c6 r6 hfit5 hn5 hgh y0 y1 z0 z1 hval ux u5 c5 r5 hgk hgl hK a0 a1 a2 a3 a4 a5 s1 s2
            go_wp2_with fail
            go_roundg 2
            case measure => omega
            case rel => exact HE.out
          · go_wp2_with fail
            go_region_with
              (first
                | (go_at_call 57; refine (HDE.out _ (by first | exact Upd.refl _ _ | exact (Upd.refl _ _).drew | exact (Upd.refl _ _).drewN _)).mono ?_; rintro e w5 ⟨u5, c5, A5, n5, cc5, rfl, r5⟩; have ux : Upd (fun b => b = g) wr w5 := (by first | exact u5 | exact Upd.trans' ((Upd.refl _ _).drew) u5 | exact Upd.trans' ((Upd.refl _ _).drewN _) u5); obtain ⟨y0, y1, z0, z1⟩ := HBK.out w5 ux))
            have hgk := HKS.out
            have hgl := HGL.out
            have u2 : Upd (fun b => b = K) w5 ((w5.setCell ⟨K, 0, none⟩ (.int .i64 l1)).setCell ⟨K, 1, none⟩ (.slice A5 n5 cc5)) := ((Upd.refl (fun b => b = K) w5).setCell (p := ⟨K, 0, none⟩) (fun _ => rfl) _).setCell (p := ⟨K, 1, none⟩) (fun _ => rfl) _
            have uK : Upd (fun b => b = g ∨ b = K) w3 ((w5.setCell ⟨K, 0, none⟩ (.int .i64 l1)).setCell ⟨K, 1, none⟩ (.slice A5 n5 cc5)) := (HU.out.trans' (ux.mono fun _ _ h => .inl h)).trans' (u2.mono fun _ _ h => .inr h)
            have b5 := ((HB.out.upd ux (by omega)).set_ 0 (.int .i64 l1)).set_ 1 (.slice A5 n5 cc5)
            simp at b5
            have u3 : Upd (fun b => b = H + 1) ((w5.setCell ⟨K, 0, none⟩ (.int .i64 l1)).setCell ⟨K, 1, none⟩ (.slice A5 n5 cc5)) _ := set6 _ (H + 1) (.int .i64 0) (.slice none 0 0) (.int .i64 0) (.slice none 0 0) (.int .i64 0) (.slice none 0 0)
            have o5 := HBO.out.upd uK (by omega)
            have q0 := o5.cell 0
            have q1 := o5.cell 1
            have q2 := o5.cell 2
            have q3 := o5.cell 3
            have q4 := o5.cell 4
            have q5 := o5.cell 5
            have p0 := o5.frozen 0
            have p1 := o5.frozen 1
            have p2 := o5.frozen 2
            have p3 := o5.frozen 3
            have p4 := o5.frozen 4
            have p5 := o5.frozen 5
            simp at q0 q1 q2 q3 q4 q5
            have o6 := hide (o5.set6 (.int .i64 0) (.slice none 0 0) (.int .i64 0) (.slice none 0 0) (.int .i64 0) (.slice none 0 0))
            have hU : Upd (fun b => b = g) w ((w5.setCell ⟨K, 0, none⟩ (.int .i64 l1)).setCell ⟨K, 1, none⟩ (.slice A5 n5 cc5)) := (F0.out.mono (T := fun b => b = g) fun _ _ h => h.elim).trans (HU3.out.trans uK (fun b hb e => by have h1 := HKS.out; have h2 := HS0.out; rcases e with e | e; exact e; omega)) (fun b hb e => e)
            have HUF := hide (hU.trans u3 (fun b hb e => by have := HH.out; omega))
            have hne : (x1 == 0) = false := by simpa using hx1
            have hnt : (x1 != 0) = true := by simpa using hx1
            have hdE : headE bs at_ T = (x1, Tabs3.none, 0) := by
              have e := HDD.out
              rw [HMO.out] at e
              rw [HXS.out, ← HGH.out]
              exact hdF_no0 e hx1
            have HDX := hide hdE
            clear hdE u2 uK b5 y0 y1 z0 z1 ux u5 c5 r5 hgk hgl a0 a1 a2 a3 a4 a5 o5 hU u3 sm1 sm2 hand hsh sw0 hmo4
            generalize ((w5.setCell ⟨K, 0, none⟩ (.int .i64 l1)).setCell ⟨K, 1, none⟩ (.slice A5 n5 cc5)) = w6 at *
            go_wp2_with fail
            refine bodyPost_ret (results_cell_tmp_row rfl _ _ (H + 1) _ _ _ rfl o6.out Tryz.underlying69 rfl (by kernel_rfl)) rfl ?_
            refine hR.out _ _ ⟨HUF.out, ?_⟩
            rw [HDX.out, if_neg hx1]
            rfl
        · obtain rfl : gk = 2 := by omega
          clear hf
          obtain ⟨mo, hmo⟩ : ∃ mo, mo = x / 4 % 4 := ⟨_, rfl⟩
          have hand : bits .and .u8 ((x : Int) / 4) 3 = (mo : Nat) := by
            rw [show (x : Int) / 4 = ((x / 4 : Nat) : Int) by omega, and3u _ (by omega), hmo]
          have sw0 : IntKind.i64.wrap 2 = 2 := by decide
          have hsh : ∀ W, (Op.shift .shr .u8 (x : Int) .i64 2).run Tryz.prog W = .ok (.int .u8 ((x : Int) / 4)) W := fun W => shr_u8 x 2 ((x : Int) / 4) W (by decide) (by simp)
          have hmo4 : mo < 4 := by omega
          have sm1 : wrap64 ((mo : Nat) : Int) = ((mo : Nat) : Int) := wrap64_small _ (by omega)
          have sm2 : IntKind.i64.wrap ((mo : Nat) : Int) = ((mo : Nat) : Int) := IntWalk.i64_in _ (by omega)
          have hrd : Rd wr (fun b => G b ∧ b < w.heap.size) B' m' (ints T'.NO) := by simpa using HA2.out
          have hde := fun W (f : Fresh wr W) => mdec_any (fun b => F b ∧ b < w.heap.size) _ g bs a B' m' d' (mo : Nat) 1 T'.lO T'.NO W (HCU2.out.fresh f) (fun b hb => HF.out b hb.1) (hrd.fresh f) HFT2.out.2.1 HBD2.out.2.1
          obtain ⟨dd, hdd⟩ : ∃ dd, dd = decN (mo : Nat) 1 T'.lO T'.NO bs a := ⟨_, rfl⟩
          rw [← hdd] at hde
          obtain ⟨x1, l1, N1, k1⟩ := dd
          simp only at hde
          have HDE := hide hde
          have HDD := hide hdd.symm
          have HMO := hide hmo
          have HBK : Hid (∀ W, Upd (fun b => b = g) wr W → W.cell? ⟨K, 2, none⟩ = some (.int .i64 T'.lO) ∧ W.cell? ⟨K, 3, none⟩ = some (.slice B' m' d') ∧ W.frozen? ⟨K, 2, none⟩ = false ∧ W.frozen? ⟨K, 3, none⟩ = false) := fun W u => by
            have b := HB.out.upd u (by have := HKS.out; have := HGL.out; omega)
            exact ⟨by simpa using b.cell 2, by simpa using b.cell 3, b.frozen _, b.frozen _⟩
          clear hmo hrd hde hdd
          by_cases hx1 : x1 = 0
          · subst hx1
            go_wp2_with fail
            go_region_with
              (first
                | (go_at_call 57; refine (HDE.out _ (by first | exact Upd.refl _ _ | exact (Upd.refl _ _).drew | exact (Upd.refl _ _).drewN _)).mono ?_; rintro e w5 ⟨u5, c5, A5, n5, cc5, rfl, r5⟩; have ux : Upd (fun b => b = g) wr w5 := (by first | exact u5 | exact Upd.trans' ((Upd.refl _ _).drew) u5 | exact Upd.trans' ((Upd.refl _ _).drewN _) u5); obtain ⟨y0, y1, z0, z1⟩ := HBK.out w5 ux))
            have hgk := HKS.out
            have hgl := HGL.out
            have u2 : Upd (fun b => b = K) w5 ((w5.setCell ⟨K, 2, none⟩ (.int .i64 l1)).setCell ⟨K, 3, none⟩ (.slice A5 n5 cc5)) := ((Upd.refl (fun b => b = K) w5).setCell (p := ⟨K, 2, none⟩) (fun _ => rfl) _).setCell (p := ⟨K, 3, none⟩) (fun _ => rfl) _
            have uK : Upd (fun b => b = g ∨ b = K) w3 ((w5.setCell ⟨K, 2, none⟩ (.int .i64 l1)).setCell ⟨K, 3, none⟩ (.slice A5 n5 cc5)) := (HU.out.trans' (ux.mono fun _ _ h => .inl h)).trans' (u2.mono fun _ _ h => .inr h)
            have b5 := ((HB.out.upd ux (by omega)).set_ 2 (.int .i64 l1)).set_ 3 (.slice A5 n5 cc5)
            simp at b5
            have c6 := c5.upd u2 (by omega) (fun b _ hb e => by have := hb.2; have := HH.out; omega)
            have hK : K < wr.heap.size := HB.out.lt
            have r6 : Rd ((w5.setCell ⟨K, 2, none⟩ (.int .i64 l1)).setCell ⟨K, 3, none⟩ (.slice A5 n5 cc5)) (fun b => K + 1 ≤ b) A5 n5 (ints N1) := (r5.mono (G := fun b => K + 1 ≤ b) (fun b hb => by have h : wr.heap.size ≤ b := hb; omega)).upd u2 (fun b _ hb e => by omega)
            have hval := (decN_valid HLT.out HDD.out).1
            have hfit5 : Fit N1 := fit_valid25 hval
            have hn5 : (n5 : Int) ≤ 1099511627776 := by have h1 := hval.2.2.2.2.1; have h2 := (part_bounds 1).1; have h3 := r5.1; simp at h3; omega
            have hgh : hdF bs x 2 (a + k1) ⟨T'.lL, T'.NL, l1, N1, T'.lM, T'.NM⟩ = hdF bs x 0 (at_ + 1) T := by
              have e := HDD.out
              rw [HMO.out] at e
              rw [← HGH.out]
              exact hdF_ok1 e
            have s0 : Rd ((w5.setCell ⟨K, 2, none⟩ (.int .i64 l1)).setCell ⟨K, 3, none⟩ (.slice A5 n5 cc5)) (fun b => K + 1 ≤ b) A' n' (ints T'.NL) := ((show Rd wr (fun b => K + 1 ≤ b) A' n' (ints T'.NL) by simpa using HA1.out).upd ux (fun b _ hb e => by omega)).upd u2 (fun b _ hb e => by omega)
            have s2 : Rd ((w5.setCell ⟨K, 2, none⟩ (.int .i64 l1)).setCell ⟨K, 3, none⟩ (.slice A5 n5 cc5)) (fun b => G b ∧ b < w.heap.size) C' k' (ints T'.NM) := ((show Rd wr (fun b => G b ∧ b < w.heap.size) C' k' (ints T'.NM) by simpa using HA3.out).upd ux (fun b _ hb e => by have := HG.out b hb.1; have := hb.2; have := HH.out; omega)).upd u2 (fun b _ hb e => by have := HG.out b hb.1; have := hb.2; have := HH.out; omega)
            have HE := hide (show ∃ (i a : Nat) (T' : Tabs3) (A' B' C' : Option Addr) (n' c' m' d' k' e' : Nat), i + 1 = 3 ∧ (Value.int .i64 2 : Value) = .int .i64 i ∧ hdF bs x i a T' = hdF bs x 0 (at_ + 1) T ∧ Upd (fun b => b = g ∨ b = K) w3 ((w5.setCell ⟨K, 2, none⟩ (.int .i64 l1)).setCell ⟨K, 3, none⟩ (.slice A5 n5 cc5)) ∧
              Blk ((w5.setCell ⟨K, 2, none⟩ (.int .i64 l1)).setCell ⟨K, 3, none⟩ (.slice A5 n5 cc5)) K 69 #[.int .i64 T'.lL, .slice A' n' c', .int .i64 T'.lO, .slice B' m' d', .int .i64 T'.lM, .slice C' k' e'] ∧ CurAt ((w5.setCell ⟨K, 2, none⟩ (.int .i64 l1)).setCell ⟨K, 3, none⟩ (.slice A5 n5 cc5)) (fun b => F b ∧ b < w.heap.size) g bs a ∧
              Rd ((w5.setCell ⟨K, 2, none⟩ (.int .i64 l1)).setCell ⟨K, 3, none⟩ (.slice A5 n5 cc5)) (fun b => if 0 < i then K + 1 ≤ b else G b ∧ b < w.heap.size) A' n' (ints T'.NL) ∧ Rd ((w5.setCell ⟨K, 2, none⟩ (.int .i64 l1)).setCell ⟨K, 3, none⟩ (.slice A5 n5 cc5)) (fun b => if 1 < i then K + 1 ≤ b else G b ∧ b < w.heap.size) B' m' (ints T'.NO) ∧ Rd ((w5.setCell ⟨K, 2, none⟩ (.int .i64 l1)).setCell ⟨K, 3, none⟩ (.slice A5 n5 cc5)) (fun b => if 2 < i then K + 1 ≤ b else G b ∧ b < w.heap.size) C' k' (ints T'.NM) ∧
              (Fit T'.NL ∧ Fit T'.NO ∧ Fit T'.NM) ∧ ((n' : Int) ≤ 1099511627776 ∧ (m' : Int) ≤ 1099511627776 ∧ (k' : Int) ≤ 1099511627776)
              from ⟨2, a + k1, ⟨T'.lL, T'.NL, l1, N1, T'.lM, T'.NM⟩, A', A5, C', n', c', n5, cc5, k', e2, rfl, rfl, hgh, uK, b5, c6, by simpa using s0, by simpa using r6, by simpa using s2, ⟨HFT2.out.1, hfit5, HFT2.out.2.2⟩, ⟨HBD2.out.1, hn5, HBD2.out.2.2⟩⟩)
            clear u2 uK b5 c6 r6 hfit5 hn5 hgh y0 y1 z0 z1 hval ux u5 c5 r5 hgk hgl hK a0 a1 a2 a3 a4 a5 s0 s2
            go_wp2_with fail
            go_roundg 1
            case measure => omega
            case rel => exact HE.out
          · go_wp2_with fail
            go_region_with
              (first
                | (go_at_call 57; refine (HDE.out _ (by first | exact Upd.refl _ _ | exact (Upd.refl _ _).drew | exact (Upd.refl _ _).drewN _)).mono ?_; rintro e w5 ⟨u5, c5, A5, n5, cc5, rfl, r5⟩; have ux : Upd (fun b => b = g) wr w5 := (by first | exact u5 | exact Upd.trans' ((Upd.refl _ _).drew) u5 | exact Upd.trans' ((Upd.refl _ _).drewN _) u5); obtain ⟨y0, y1, z0, z1⟩ := HBK.out w5 ux))
            have hgk := HKS.out
            have hgl := HGL.out
            have u2 : Upd (fun b => b = K) w5 ((w5.setCell ⟨K, 2, none⟩ (.int .i64 l1)).setCell ⟨K, 3, none⟩ (.slice A5 n5 cc5)) := ((Upd.refl (fun b => b = K) w5).setCell (p := ⟨K, 2, none⟩) (fun _ => rfl) _).setCell (p := ⟨K, 3, none⟩) (fun _ => rfl) _
            have uK : Upd (fun b => b = g ∨ b = K) w3 ((w5.setCell ⟨K, 2, none⟩ (.int .i64 l1)).setCell ⟨K, 3, none⟩ (.slice A5 n5 cc5)) := (HU.out.trans' (ux.mono fun _ _ h => .inl h)).trans' (u2.mono fun _ _ h => .inr h)
            have b5 := ((HB.out.upd ux (by omega)).set_ 2 (.int .i64 l1)).set_ 3 (.slice A5 n5 cc5)
            simp at b5
            have u3 : Upd (fun b => b = H + 1) ((w5.setCell ⟨K, 2, none⟩ (.int .i64 l1)).setCell ⟨K, 3, none⟩ (.slice A5 n5 cc5)) _ := set6 _ (H + 1) (.int .i64 0) (.slice none 0 0) (.int .i64 0) (.slice none 0 0) (.int .i64 0) (.slice none 0 0)
            have o5 := HBO.out.upd uK (by omega)
            have q0 := o5.cell 0
            have q1 := o5.cell 1
            have q2 := o5.cell 2
            have q3 := o5.cell 3
            have q4 := o5.cell 4
            have q5 := o5.cell 5
            have p0 := o5.frozen 0
            have p1 := o5.frozen 1
            have p2 := o5.frozen 2
            have p3 := o5.frozen 3
            have p4 := o5.frozen 4
            have p5 := o5.frozen 5
            simp at q0 q1 q2 q3 q4 q5
            have o6 := hide (o5.set6 (.int .i64 0) (.slice none 0 0) (.int .i64 0) (.slice none 0 0) (.int .i64 0) (.slice none 0 0))
            have hU : Upd (fun b => b = g) w ((w5.setCell ⟨K, 2, none⟩ (.int .i64 l1)).setCell ⟨K, 3, none⟩ (.slice A5 n5 cc5)) := (F0.out.mono (T := fun b => b = g) fun _ _ h => h.elim).trans (HU3.out.trans uK (fun b hb e => by have h1 := HKS.out; have h2 := HS0.out; rcases e with e | e; exact e; omega)) (fun b hb e => e)
            have HUF := hide (hU.trans u3 (fun b hb e => by have := HH.out; omega))
            have hne : (x1 == 0) = false := by simpa using hx1
            have hnt : (x1 != 0) = true := by simpa using hx1
            have hdE : headE bs at_ T = (x1, Tabs3.none, 0) := by
              have e := HDD.out
              rw [HMO.out] at e
              rw [HXS.out, ← HGH.out]
              exact hdF_no1 e hx1
            have HDX := hide hdE
            clear hdE u2 uK b5 y0 y1 z0 z1 ux u5 c5 r5 hgk hgl a0 a1 a2 a3 a4 a5 o5 hU u3 sm1 sm2 hand hsh sw0 hmo4
            generalize ((w5.setCell ⟨K, 2, none⟩ (.int .i64 l1)).setCell ⟨K, 3, none⟩ (.slice A5 n5 cc5)) = w6 at *
            go_wp2_with fail
            refine bodyPost_ret (results_cell_tmp_row rfl _ _ (H + 1) _ _ _ rfl o6.out Tryz.underlying69 rfl (by kernel_rfl)) rfl ?_
            refine hR.out _ _ ⟨HUF.out, ?_⟩
            rw [HDX.out, if_neg hx1]
            rfl
        · obtain rfl : gk = 1 := by omega
          clear hf
          obtain ⟨mo, hmo⟩ : ∃ mo, mo = x / 16 % 4 := ⟨_, rfl⟩
          have hand : bits .and .u8 ((x : Int) / 16) 3 = (mo : Nat) := by
            rw [show (x : Int) / 16 = ((x / 16 : Nat) : Int) by omega, and3u _ (by omega), hmo]
          have sw0 : IntKind.i64.wrap 4 = 4 := by decide
          have hsh : ∀ W, (Op.shift .shr .u8 (x : Int) .i64 4).run Tryz.prog W = .ok (.int .u8 ((x : Int) / 16)) W := fun W => shr_u8 x 4 ((x : Int) / 16) W (by decide) (by simp)
          have hmo4 : mo < 4 := by omega
          have sm1 : wrap64 ((mo : Nat) : Int) = ((mo : Nat) : Int) := wrap64_small _ (by omega)
          have sm2 : IntKind.i64.wrap ((mo : Nat) : Int) = ((mo : Nat) : Int) := IntWalk.i64_in _ (by omega)
          have hrd : Rd wr (fun b => G b ∧ b < w.heap.size) C' k' (ints T'.NM) := by simpa using HA3.out
          have hde := fun W (f : Fresh wr W) => mdec_any (fun b => F b ∧ b < w.heap.size) _ g bs a C' k' e2 (mo : Nat) 2 T'.lM T'.NM W (HCU2.out.fresh f) (fun b hb => HF.out b hb.1) (hrd.fresh f) HFT2.out.2.2 HBD2.out.2.2
          obtain ⟨dd, hdd⟩ : ∃ dd, dd = decN (mo : Nat) 2 T'.lM T'.NM bs a := ⟨_, rfl⟩
          rw [← hdd] at hde
          obtain ⟨x1, l1, N1, k1⟩ := dd
          simp only at hde
          have HDE := hide hde
          have HDD := hide hdd.symm
          have HMO := hide hmo
          have HBK : Hid (∀ W, Upd (fun b => b = g) wr W → W.cell? ⟨K, 4, none⟩ = some (.int .i64 T'.lM) ∧ W.cell? ⟨K, 5, none⟩ = some (.slice C' k' e2) ∧ W.frozen? ⟨K, 4, none⟩ = false ∧ W.frozen? ⟨K, 5, none⟩ = false) := fun W u => by
            have b := HB.out.upd u (by have := HKS.out; have := HGL.out; omega)
            exact ⟨by simpa using b.cell 4, by simpa using b.cell 5, b.frozen _, b.frozen _⟩
          clear hmo hrd hde hdd
          by_cases hx1 : x1 = 0
          · subst hx1
            go_wp2_with fail
            go_region_with
              (first
                | (go_at_call 57; refine (HDE.out _ (by first | exact Upd.refl _ _ | exact (Upd.refl _ _).drew | exact (Upd.refl _ _).drewN _)).mono ?_; rintro e w5 ⟨u5, c5, A5, n5, cc5, rfl, r5⟩; have ux : Upd (fun b => b = g) wr w5 := (by first | exact u5 | exact Upd.trans' ((Upd.refl _ _).drew) u5 | exact Upd.trans' ((Upd.refl _ _).drewN _) u5); obtain ⟨y0, y1, z0, z1⟩ := HBK.out w5 ux))
            have hgk := HKS.out
            have hgl := HGL.out
            have u2 : Upd (fun b => b = K) w5 ((w5.setCell ⟨K, 4, none⟩ (.int .i64 l1)).setCell ⟨K, 5, none⟩ (.slice A5 n5 cc5)) := ((Upd.refl (fun b => b = K) w5).setCell (p := ⟨K, 4, none⟩) (fun _ => rfl) _).setCell (p := ⟨K, 5, none⟩) (fun _ => rfl) _
            have uK : Upd (fun b => b = g ∨ b = K) w3 ((w5.setCell ⟨K, 4, none⟩ (.int .i64 l1)).setCell ⟨K, 5, none⟩ (.slice A5 n5 cc5)) := (HU.out.trans' (ux.mono fun _ _ h => .inl h)).trans' (u2.mono fun _ _ h => .inr h)
            have b5 := ((HB.out.upd ux (by omega)).set_ 4 (.int .i64 l1)).set_ 5 (.slice A5 n5 cc5)
            simp at b5
            have c6 := c5.upd u2 (by omega) (fun b _ hb e => by have := hb.2; have := HH.out; omega)
            have hK : K < wr.heap.size := HB.out.lt
            have r6 : Rd ((w5.setCell ⟨K, 4, none⟩ (.int .i64 l1)).setCell ⟨K, 5, none⟩ (.slice A5 n5 cc5)) (fun b => K + 1 ≤ b) A5 n5 (ints N1) := (r5.mono (G := fun b => K + 1 ≤ b) (fun b hb => by have h : wr.heap.size ≤ b := hb; omega)).upd u2 (fun b _ hb e => by omega)
            have hval := (decN_valid HLT.out HDD.out).1
            have hfit5 : Fit N1 := fit_valid25 hval
            have hn5 : (n5 : Int) ≤ 1099511627776 := by have h1 := hval.2.2.2.2.1; have h2 := (part_bounds 2).1; have h3 := r5.1; simp at h3; omega
            have hgh : hdF bs x 3 (a + k1) ⟨T'.lL, T'.NL, T'.lO, T'.NO, l1, N1⟩ = hdF bs x 0 (at_ + 1) T := by
              have e := HDD.out
              rw [HMO.out] at e
              rw [← HGH.out]
              exact hdF_ok2 e
            have s0 : Rd ((w5.setCell ⟨K, 4, none⟩ (.int .i64 l1)).setCell ⟨K, 5, none⟩ (.slice A5 n5 cc5)) (fun b => K + 1 ≤ b) A' n' (ints T'.NL) := ((show Rd wr (fun b => K + 1 ≤ b) A' n' (ints T'.NL) by simpa using HA1.out).upd ux (fun b _ hb e => by omega)).upd u2 (fun b _ hb e => by omega)
            have s1 : Rd ((w5.setCell ⟨K, 4, none⟩ (.int .i64 l1)).setCell ⟨K, 5, none⟩ (.slice A5 n5 cc5)) (fun b => K + 1 ≤ b) B' m' (ints T'.NO) := ((show Rd wr (fun b => K + 1 ≤ b) B' m' (ints T'.NO) by simpa using HA2.out).upd ux (fun b _ hb e => by omega)).upd u2 (fun b _ hb e => by omega)
            have HE := hide (show ∃ (i a : Nat) (T' : Tabs3) (A' B' C' : Option Addr) (n' c' m' d' k' e' : Nat), i + 0 = 3 ∧ (Value.int .i64 3 : Value) = .int .i64 i ∧ hdF bs x i a T' = hdF bs x 0 (at_ + 1) T ∧ Upd (fun b => b = g ∨ b = K) w3 ((w5.setCell ⟨K, 4, none⟩ (.int .i64 l1)).setCell ⟨K, 5, none⟩ (.slice A5 n5 cc5)) ∧
              Blk ((w5.setCell ⟨K, 4, none⟩ (.int .i64 l1)).setCell ⟨K, 5, none⟩ (.slice A5 n5 cc5)) K 69 #[.int .i64 T'.lL, .slice A' n' c', .int .i64 T'.lO, .slice B' m' d', .int .i64 T'.lM, .slice C' k' e'] ∧ CurAt ((w5.setCell ⟨K, 4, none⟩ (.int .i64 l1)).setCell ⟨K, 5, none⟩ (.slice A5 n5 cc5)) (fun b => F b ∧ b < w.heap.size) g bs a ∧
              Rd ((w5.setCell ⟨K, 4, none⟩ (.int .i64 l1)).setCell ⟨K, 5, none⟩ (.slice A5 n5 cc5)) (fun b => if 0 < i then K + 1 ≤ b else G b ∧ b < w.heap.size) A' n' (ints T'.NL) ∧ Rd ((w5.setCell ⟨K, 4, none⟩ (.int .i64 l1)).setCell ⟨K, 5, none⟩ (.slice A5 n5 cc5)) (fun b => if 1 < i then K + 1 ≤ b else G b ∧ b < w.heap.size) B' m' (ints T'.NO) ∧ Rd ((w5.setCell ⟨K, 4, none⟩ (.int .i64 l1)).setCell ⟨K, 5, none⟩ (.slice A5 n5 cc5)) (fun b => if 2 < i then K + 1 ≤ b else G b ∧ b < w.heap.size) C' k' (ints T'.NM) ∧
              (Fit T'.NL ∧ Fit T'.NO ∧ Fit T'.NM) ∧ ((n' : Int) ≤ 1099511627776 ∧ (m' : Int) ≤ 1099511627776 ∧ (k' : Int) ≤ 1099511627776)
              from ⟨3, a + k1, ⟨T'.lL, T'.NL, T'.lO, T'.NO, l1, N1⟩, A', B', A5, n', c', m', d', n5, cc5, rfl, rfl, hgh, uK, b5, c6, by simpa using s0, by simpa using s1, by simpa using r6, ⟨HFT2.out.1, HFT2.out.2.1, hfit5⟩, ⟨HBD2.out.1, HBD2.out.2.1, hn5⟩⟩)
            clear u2 uK b5 c6 r6 hfit5 hn5 hgh y0 y1 z0 z1 hval ux u5 c5 r5 hgk hgl hK a0 a1 a2 a3 a4 a5 s0 s1
            go_wp2_with fail
            go_roundg 0
            case measure => omega
            case rel => exact HE.out
          · go_wp2_with fail
            go_region_with
              (first
                | (go_at_call 57; refine (HDE.out _ (by first | exact Upd.refl _ _ | exact (Upd.refl _ _).drew | exact (Upd.refl _ _).drewN _)).mono ?_; rintro e w5 ⟨u5, c5, A5, n5, cc5, rfl, r5⟩; have ux : Upd (fun b => b = g) wr w5 := (by first | exact u5 | exact Upd.trans' ((Upd.refl _ _).drew) u5 | exact Upd.trans' ((Upd.refl _ _).drewN _) u5); obtain ⟨y0, y1, z0, z1⟩ := HBK.out w5 ux))
            have hgk := HKS.out
            have hgl := HGL.out
            have u2 : Upd (fun b => b = K) w5 ((w5.setCell ⟨K, 4, none⟩ (.int .i64 l1)).setCell ⟨K, 5, none⟩ (.slice A5 n5 cc5)) := ((Upd.refl (fun b => b = K) w5).setCell (p := ⟨K, 4, none⟩) (fun _ => rfl) _).setCell (p := ⟨K, 5, none⟩) (fun _ => rfl) _
            have uK : Upd (fun b => b = g ∨ b = K) w3 ((w5.setCell ⟨K, 4, none⟩ (.int .i64 l1)).setCell ⟨K, 5, none⟩ (.slice A5 n5 cc5)) := (HU.out.trans' (ux.mono fun _ _ h => .inl h)).trans' (u2.mono fun _ _ h => .inr h)
            have b5 := ((HB.out.upd ux (by omega)).set_ 4 (.int .i64 l1)).set_ 5 (.slice A5 n5 cc5)
            simp at b5
            have u3 : Upd (fun b => b = H + 1) ((w5.setCell ⟨K, 4, none⟩ (.int .i64 l1)).setCell ⟨K, 5, none⟩ (.slice A5 n5 cc5)) _ := set6 _ (H + 1) (.int .i64 0) (.slice none 0 0) (.int .i64 0) (.slice none 0 0) (.int .i64 0) (.slice none 0 0)
            have o5 := HBO.out.upd uK (by omega)
            have q0 := o5.cell 0
            have q1 := o5.cell 1
            have q2 := o5.cell 2
            have q3 := o5.cell 3
            have q4 := o5.cell 4
            have q5 := o5.cell 5
            have p0 := o5.frozen 0
            have p1 := o5.frozen 1
            have p2 := o5.frozen 2
            have p3 := o5.frozen 3
            have p4 := o5.frozen 4
            have p5 := o5.frozen 5
            simp at q0 q1 q2 q3 q4 q5
            have o6 := hide (o5.set6 (.int .i64 0) (.slice none 0 0) (.int .i64 0) (.slice none 0 0) (.int .i64 0) (.slice none 0 0))
            have hU : Upd (fun b => b = g) w ((w5.setCell ⟨K, 4, none⟩ (.int .i64 l1)).setCell ⟨K, 5, none⟩ (.slice A5 n5 cc5)) := (F0.out.mono (T := fun b => b = g) fun _ _ h => h.elim).trans (HU3.out.trans uK (fun b hb e => by have h1 := HKS.out; have h2 := HS0.out; rcases e with e | e; exact e; omega)) (fun b hb e => e)
            have HUF := hide (hU.trans u3 (fun b hb e => by have := HH.out; omega))
            have hne : (x1 == 0) = false := by simpa using hx1
            have hnt : (x1 != 0) = true := by simpa using hx1
            have hdE : headE bs at_ T = (x1, Tabs3.none, 0) := by
              have e := HDD.out
              rw [HMO.out] at e
              rw [HXS.out, ← HGH.out]
              exact hdF_no2 e hx1
            have HDX := hide hdE
            clear hdE u2 uK b5 y0 y1 z0 z1 ux u5 c5 r5 hgk hgl a0 a1 a2 a3 a4 a5 o5 hU u3 sm1 sm2 hand hsh sw0 hmo4
            generalize ((w5.setCell ⟨K, 4, none⟩ (.int .i64 l1)).setCell ⟨K, 5, none⟩ (.slice A5 n5 cc5)) = w6 at *
            go_wp2_with fail
            refine bodyPost_ret (results_cell_tmp_row rfl _ _ (H + 1) _ _ _ rfl o6.out Tryz.underlying69 rfl (by kernel_rfl)) rfl ?_
            refine hR.out _ _ ⟨HUF.out, ?_⟩
            rw [HDX.out, if_neg hx1]
            rfl
        · obtain rfl : gk = 0 := by omega
          clear hf
          have hE : headE bs at_ T = (0, T', a) := by rw [HXS.out, ← HGH.out]; rfl
          have HE := hide hE
          have hgk := HKS.out
          have hgl := HGL.out
          have o5 := HBO.out.upd HU.out (by omega)
          have q0 := o5.cell 0
          have q1 := o5.cell 1
          have q2 := o5.cell 2
          have q3 := o5.cell 3
          have q4 := o5.cell 4
          have q5 := o5.cell 5
          have p0 := o5.frozen 0
          have p1 := o5.frozen 1
          have p2 := o5.frozen 2
          have p3 := o5.frozen 3
          have p4 := o5.frozen 4
          have p5 := o5.frozen 5
          simp at q0 q1 q2 q3 q4 q5
          have o6 := hide (o5.set6 (.int .i64 T'.lL) (.slice A' n' c') (.int .i64 T'.lO) (.slice B' m' d') (.int .i64 T'.lM) (.slice C' k' e2))
          have u3 := set6 wr (H + 1) (.int .i64 T'.lL) (.slice A' n' c') (.int .i64 T'.lO) (.slice B' m' d') (.int .i64 T'.lM) (.slice C' k' e2)
          have hU : Upd (fun b => b = g) w wr := (F0.out.mono (T := fun b => b = g) fun _ _ h => h.elim).trans (HU3.out.trans HU.out (fun b hb e => by have h1 := HKS.out; have h2 := HS0.out; rcases e with e | e; exact e; omega)) (fun b hb e => e)
          have HUF := hide (hU.trans u3 (fun b hb e => by have := HH.out; omega))
          have s0 : Rd _ (fun b => w.heap.size ≤ b) A' n' (ints T'.NL) := ((show Rd wr (fun b => K + 1 ≤ b) A' n' (ints T'.NL) by simpa using HA1.out).upd u3 (fun b _ hb e => by omega)).mono (fun b hb => by have := HH.out; omega)
          have s1 : Rd _ (fun b => w.heap.size ≤ b) B' m' (ints T'.NO) := ((show Rd wr (fun b => K + 1 ≤ b) B' m' (ints T'.NO) by simpa using HA2.out).upd u3 (fun b _ hb e => by omega)).mono (fun b hb => by have := HH.out; omega)
          have s2 : Rd _ (fun b => w.heap.size ≤ b) C' k' (ints T'.NM) := ((show Rd wr (fun b => K + 1 ≤ b) C' k' (ints T'.NM) by simpa using HA3.out).upd u3 (fun b _ hb e => by omega)).mono (fun b hb => by have := HH.out; omega)
          have c6 := (HCU2.out.upd u3 (by omega) (fun b _ hb e => by have := hb.2; have := HH.out; omega)).mono (fun b hb => hb.1)
          have HS := hide (And.intro s0 (And.intro s1 (And.intro s2 c6)))
          clear hE o5 u3 hU s0 s1 s2 c6 hgk hgl
          go_wp2_with fail
          refine bodyPost_ret (results_cell_tmp_row rfl _ _ (H + 1) _ _ _ rfl o6.out Tryz.underlying69 rfl (by kernel_rfl)) rfl ?_
          refine hR.out _ _ ⟨HUF.out, ?_⟩
          rw [HE.out, if_pos rfl]
          exact ⟨A', n', c', B', m', d', C', k', e2, rfl, HS.out.1, HS.out.2.1, HS.out.2.2.1, HS.out.2.2.2⟩
  · have hcl : at_ = bs.length := by obtain ⟨_, _, _, _, _, h5, _⟩ := HCU.out; omega
    have HBY := hide (cbyte_end (fun b => F b ∧ b < w.heap.size) g bs at_ w0 HCU.out hcl (fun b hb => HF.out b hb.1))
    have HE := hide (show headE bs at_ T = (3, Tabs3.none, 0) from headE_short hat)
    clear hcl
    go_wp2_with fail
    refine HBY.out.mono ?_
    rintro e' w1 ⟨rfl, u1, c1⟩
    have o5 := BO.out.upd u1 (by have := HGL.out; omega)
    have q0 := o5.cell 0
    have q1 := o5.cell 1
    have q2 := o5.cell 2
    have q3 := o5.cell 3
    have q4 := o5.cell 4
    have q5 := o5.cell 5
    have p0 := o5.frozen 0
    have p1 := o5.frozen 1
    have p2 := o5.frozen 2
    have p3 := o5.frozen 3
    have p4 := o5.frozen 4
    have p5 := o5.frozen 5
    simp at q0 q1 q2 q3 q4 q5
    have o6 := hide (o5.set6 (.int .i64 0) (.slice none 0 0) (.int .i64 0) (.slice none 0 0) (.int .i64 0) (.slice none 0 0))
    have u3 := set6 w1 (H + 1) (.int .i64 0) (.slice none 0 0) (.int .i64 0) (.slice none 0 0) (.int .i64 0) (.slice none 0 0)
    have HUF := hide (((F0.out.mono (T := fun b => b = g) fun _ _ h => h.elim).trans' u1).trans u3 (fun b hb e => by have := HH.out; omega))
    clear y0 y1 y2 o5 u3 u1 c1
    go_wp2_with fail
    refine bodyPost_ret (results_cell_tmp_row rfl _ _ (H + 1) _ _ _ rfl o6.out Tryz.underlying69 rfl (by kernel_rfl)) rfl ?_
    refine hR.out _ _ ⟨HUF.out, ?_⟩
    rw [HE.out, if_neg (by simp)]
    rfl

end Go.Proofs.YtjfdaphjijfieaaGreat

/-
  Package seqs: the sequences of a stream, as plain functions.
  Conditions: none beyond those of each theorem.
-/
namespace Go.Proofs.YtjfdaphjijfieaaGreat
open Go.RowKit
set_option linter.unusedVariables false
set_option linter.unusedSimpArgs false

/-- a coded sequence whose numbers are small -/
def RawN.good (r : RawN) : Prop := r.lit < 268435456 ∧ r.len < 268435460 ∧ 3 ≤ r.len ∧ 1 ≤ r.val ∧ r.val < 268435456

theorem Trks.ok.nine {T : Trks} (h : T.ok) : Valid T.pO T.NO (if true then 28 else 44) 9 := by
  obtain ⟨_, ⟨b1, b2, b3, b4, b5, b6⟩, _⟩ := h
  exact ⟨b1, by omega, b3, b4, b5, b6⟩

theorem oneE_good {T : Trks} (hT : T.ok) {S : Sts} (hS : S.ok T) (V : Nat) (s : Nat × Int) : (oneE V T S s).1.good := by
  have h1 := valE_lt (o := true) hT.nine hS.2.1 V s
  have h2 := valE_lt (o := false) (by simpa using hT.2.2) hS.2.2 V (valE V true T.pO T.NO S.o s).2
  have h3 := valE_lt (o := false) (by simpa using hT.1) hS.1 V (valE V false T.pM T.NM S.m (valE V true T.pO T.NO S.o s).2).2
  have h4 := h1.2 rfl
  refine ⟨h3.1, ?_, ?_, h4, h1.1⟩
  · show (valE V false T.pM T.NM S.m (valE V true T.pO T.NO S.o s).2).1 + 3 < _
    have := h2.1
    omega
  · show 3 ≤ (valE V false T.pM T.NM S.m (valE V true T.pO T.NO S.o s).2).1 + 3
    omega

theorem readE_good {T : Trks} (hT : T.ok) (V : Nat) : ∀ (k : Nat) (S : Sts) (s : Nat × Int), S.ok T → ∀ r ∈ (readE V T k S s).1, r.good
  | 0, S, s, hS, r, hr => by simp [readE] at hr
  | k + 1, S, s, hS, r, hr => by
    by_cases h : s.2 = 0
    · rcases Nat.eq_zero_or_pos k with rfl | hk
      · rw [readE_last V T S s h] at hr
        rw [List.mem_singleton.1 hr]
        exact oneE_good hT hS V s
      · rw [readE_more V T k S s h hk] at hr
        rcases List.mem_cons.1 hr with rfl | hr
        · exact oneE_good hT hS V s
        · exact readE_good hT V k _ _ (moveE_ok hT hS V _) r hr
    · rw [readE_stop V T (k + 1) S s (.inr h)] at hr
      simp at hr
theorem readE_len {T : Trks} (V : Nat) : ∀ (k : Nat) (S : Sts) (s : Nat × Int), (readE V T k S s).1.length ≤ k
  | 0, S, s => by simp [readE]
  | k + 1, S, s => by
    by_cases h : s.2 = 0
    · rcases Nat.eq_zero_or_pos k with rfl | hk
      · rw [readE_last V T S s h]; simp
      · rw [readE_more V T k S s h hk]
        have := readE_len (T := T) V k (moveE V T S (oneE V T S s).2).1 (moveE V T S (oneE V T S s).2).2
        simp only [List.length_cons]
        omega
    · rw [readE_stop V T (k + 1) S s (.inr h)]; simp
theorem allE_good {T : Trks} (hT : T.ok) (V n t : Nat) : ∀ r ∈ (allE V T n t).1, r.good := readE_good hT V n _ _ (startE_ok V T (t, 0))
theorem allE_len (V : Nat) (T : Trks) (n t : Nat) : (allE V T n t).1.length ≤ n := readE_len V n _ _

/-- the errors of the stream's reading -/
theorem takeE_err (V : Nat) (s : Nat × Int) (n : Nat) (h : s.2 = 0 ∨ s.2 = 14) : (takeE V s n).2.2 = 0 ∨ (takeE V s n).2.2 = 14 := by
  unfold takeE
  split
  · exact h
  · split
    · exact .inl rfl
    · exact .inr rfl
theorem readE_err {T : Trks} (V : Nat) : ∀ (k : Nat) (S : Sts) (s : Nat × Int), (s.2 = 0 ∨ s.2 = 14) → ((readE V T k S s).2.2 = 0 ∨ (readE V T k S s).2.2 = 14)
  | 0, S, s, h => h
  | k + 1, S, s, h => by
    by_cases he : s.2 = 0
    · have h1 : (oneE V T S s).2.2 = 0 ∨ (oneE V T S s).2.2 = 14 := takeE_err _ _ _ (takeE_err _ _ _ (takeE_err _ _ _ h))
      rcases Nat.eq_zero_or_pos k with rfl | hk
      · rw [readE_last V T S s he]; exact h1
      · rw [readE_more V T k S s he hk]
        exact readE_err V k _ _ (takeE_err _ _ _ (takeE_err _ _ _ (takeE_err _ _ _ h1)))
    · rw [readE_stop V T (k + 1) S s (.inr he)]; exact h
theorem allE_err (V : Nat) (T : Trks) (n t : Nat) : (allE V T n t).2.2 = 0 ∨ (allE V T n t).2.2 = 14 := by
  have h := readE_err (T := T) V n (startE V T (t, 0)).1 (startE V T (t, 0)).2 (takeE_err _ _ _ (takeE_err _ _ _ (takeE_err _ _ _ (.inl rfl))))
  unfold allE
  simp only
  split
  · exact .inr rfl
  · exact h

theorem nextR_ok {a b c lit v : Int} (h : repOk a b c = true) (ho : offOk (offR a b c lit v)) : repOk (nextR a b c lit v).1 (nextR a b c lit v).2.1 (nextR a b c lit v).2.2 = true := by
  rw [repOk_iff] at h ⊢
  obtain ⟨h1, h2, h3⟩ := h
  refine ⟨ho, ?_, ?_⟩
  · show 1 ≤ (if idxR lit v = 0 then b else a) ∧ (if idxR lit v = 0 then b else a) ≤ 134217728
    split <;> assumption
  · show 1 ≤ (if idxR lit v = 0 ∨ idxR lit v = 1 then c else b) ∧ (if idxR lit v = 0 ∨ idxR lit v = 1 then c else b) ≤ 134217728
    split <;> assumption

/-- sequences in front of a result -/
def joinO (outs : List (Int × Int × Int)) (r : Int × List (Int × Int × Int) × Int × Int × Int) : Int × List (Int × Int × Int) × Int × Int × Int :=
  if r.1 = 0 then (0, outs ++ r.2.1, r.2.2) else (r.1, [], 0, 0, 0)
theorem offsE_err : ∀ (L : List RawN) (a b c : Int), (offsE a b c L).1 = 0 ∨ (offsE a b c L).1 = 15
  | [], a, b, c => .inl rfl
  | x :: L, a, b, c => by
    simp only [offsE]
    split
    · have := offsE_err L (nextR a b c x.lit x.val).1 (nextR a b c x.lit x.val).2.1 (nextR a b c x.lit x.val).2.2
      split
      · exact .inl rfl
      · exact this
    · exact .inr rfl
theorem offsE_no {a b c : Int} {L : List RawN} (h : (offsE a b c L).1 ≠ 0) : offsE a b c L = ((offsE a b c L).1, [], 0, 0, 0) := by
  cases L with
  | nil => exact absurd rfl h
  | cons x L =>
    simp only [offsE] at h ⊢
    by_cases ho : offOk (offR a b c x.lit x.val)
    · simp only [if_pos ho] at h ⊢
      by_cases h2 : (offsE (nextR a b c x.lit x.val).1 (nextR a b c x.lit x.val).2.1 (nextR a b c x.lit x.val).2.2 L).1 = 0
      · simp only [if_pos h2] at h; exact absurd rfl h
      · simp only [if_neg h2]
    · simp only [if_neg ho]
theorem joinO_nil (a b c : Int) (L : List RawN) : joinO [] (offsE a b c L) = offsE a b c L := by
  unfold joinO
  by_cases h : (offsE a b c L).1 = 0
  · rw [if_pos h, List.nil_append]
    rcases hx : offsE a b c L with ⟨x, r⟩
    rw [hx] at h
    simp only at h
    rw [h]
  · rw [if_neg h, offsE_no h]
theorem joinO_step {outs : List (Int × Int × Int)} {a b c : Int} {x : RawN} {L : List RawN} (ho : offOk (offR a b c x.lit x.val)) :
    joinO (outs ++ [((x.lit : Int), (x.len : Int), offR a b c x.lit x.val)]) (offsE (nextR a b c x.lit x.val).1 (nextR a b c x.lit x.val).2.1 (nextR a b c x.lit x.val).2.2 L) = joinO outs (offsE a b c (x :: L)) := by
  unfold joinO
  simp only [offsE, if_pos ho]
  by_cases h2 : (offsE (nextR a b c x.lit x.val).1 (nextR a b c x.lit x.val).2.1 (nextR a b c x.lit x.val).2.2 L).1 = 0
  · simp [h2]
  · simp [h2]
theorem joinO_no {outs : List (Int × Int × Int)} {a b c : Int} {x : RawN} {L : List RawN} (ho : ¬ offOk (offR a b c x.lit x.val)) : joinO outs (offsE a b c (x :: L)) = (15, [], 0, 0, 0) := by
  unfold joinO
  simp [offsE, ho]

theorem BwdAt.both {w : World} {F : Nat → Prop} {g : Nat} {bs : List Nat} {t : Nat} (h : BwdAt w F g bs t) : BwdAt w (fun b => F b ∧ b < w.heap.size) g bs t := by
  obtain ⟨A, c, h1, h2, h3⟩ := h
  exact ⟨A, c, h1, h2.both, h3⟩

end Go.Proofs.YtjfdaphjijfieaaGreat

/-
  Package seqs: the reader's take, on, value.
  Conditions: none beyond those of each theorem.
-/
namespace Go.Proofs.YtjfdaphjijfieaaGreat
open Go.RowKit
set_option linter.unusedVariables false
set_option linter.unusedSimpArgs false

/-- a reader of seqs at block g over the backward reader at k: the bits left and the error are s -/
def SrAt (w : World) (F : Nat → Prop) (g k : Nat) (bs : List Nat) (s : Nat × Int) : Prop :=
  Blk w g 119 #[.pointer (some ⟨k, 0, none⟩), .int .i64 s.2] ∧ BwdAt w F k bs s.1
theorem SrAt.upd {w w' : World} {F S : Nat → Prop} {g k : Nat} {bs : List Nat} {s : Nat × Int} (h : SrAt w F g k bs s) (hu : Upd S w w') (hg : ¬ S g) (hk : ¬ S k) (hF : ∀ b, F b → ¬ S b) : SrAt w' F g k bs s :=
  ⟨h.1.upd hu hg, h.2.upd hu hk hF⟩
theorem SrAt.fresh {w w' : World} {F : Nat → Prop} {g k : Nat} {bs : List Nat} {s : Nat × Int} (h : SrAt w F g k bs s) (hu : Fresh w w') : SrAt w' F g k bs s := h.upd hu (fun h => h) (fun h => h) (fun _ _ h => h)

theorem setThree (w : World) (H : Nat) (u v x : Value) : Upd (fun b => b = H) w (((w.setCell ⟨H, 0, none⟩ u).setCell ⟨H, 1, none⟩ v).setCell ⟨H, 2, none⟩ x) :=
  (((Upd.refl (fun b => b = H) w).setCell (p := ⟨H, 0, none⟩) (fun _ => rfl) u).setCell (p := ⟨H, 1, none⟩) (fun _ => rfl) v).setCell (p := ⟨H, 2, none⟩) (fun _ => rfl) x

set_option maxRecDepth 100000 in
set_option maxHeartbeats 1000000 in
theorem stake_any (F : Nat → Prop) (g k : Nat) (bs : List Nat) (s : Nat × Int) (n : Nat) (w : World) (h : SrAt w F g k bs s) (hn : n ≤ 64) (hgk : g ≠ k) (hFk : ∀ b, F b → b ≠ k) (hFg : ∀ b, F b → b ≠ g) :
    Calls Tryz.prog 93 #[.pointer (some ⟨g, 0, none⟩), .int .i64 (n : Nat)] w fun e w' => e = .returned (.int .u64 ((takeE (valR bs) s n).1 : Nat)) ∧ Upd (fun b => b = g ∨ b = k) w w' ∧ SrAt w' F g k bs (takeE (valR bs) s n).2 := by
  obtain ⟨t, er⟩ := s
  have hb := h.1
  have c0 := hb.cell 0
  have c1 := hb.cell 1
  have z1 := hb.frozen 1
  simp at c0 c1
  have HB := hide hb
  have HBW := hide h.2
  have HH := hide h
  clear hb
  unfold takeE
  by_cases her : er = 0
  · subst her
    simp only [ne_eq, not_true_eq_false, if_false]
    by_cases hnt : n ≤ t
    · rw [if_pos hnt]
      have HT := hide (btake_ok F k bs t n w h.2 hn hnt hFk)
      generalize valR bs / 2 ^ (t - n) % 2 ^ n = V at *
      clear h
      refine veil fun R hR => ?_
      go_enter Tryz.func93, Tryz.ntmps93
      go_wp2_with fail
      refine HT.out.mono ?_
      rintro e w1 ⟨rfl, u1, b1⟩
      have hb1 := HB.out.upd u1 (by simpa using hgk)
      have c0' := hb1.cell 0
      have c1' := hb1.cell 1
      have z1' := hb1.frozen 1
      simp at c0' c1'
      have HB1 := hide hb1
      have U1 := hide u1
      have BW1 := hide b1
      clear hb1 u1 b1 c0 c1 z1
      go_wp2_with fail
      try go_ret
      have u2 : Upd (fun b => b = g) w1 (w1.setCell ⟨g, 1, none⟩ (.int .i64 0)) := (Upd.refl (fun b => b = g) w1).setCell (p := ⟨g, 1, none⟩) (fun _ => rfl) _
      refine hR.out _ _ ⟨rfl, (U1.out.mono fun _ _ h => .inr h).trans u2 (fun b _ hb => .inl hb), ?_, BW1.out.upd u2 (Ne.symm hgk) (fun b hb => hFg b hb)⟩
      have := HB1.out.set_ 1 (.int .i64 0)
      simpa using this
    · rw [if_neg hnt]
      have HT := hide (btake_short F k bs t n w h.2 hn (by omega))
      clear h
      refine veil fun R hR => ?_
      go_enter Tryz.func93, Tryz.ntmps93
      go_wp2_with fail
      refine HT.out.mono ?_
      rintro e w1 ⟨rfl, u1⟩
      have hb1 := HB.out.fresh u1
      have c0' := hb1.cell 0
      have c1' := hb1.cell 1
      have z1' := hb1.frozen 1
      simp at c0' c1'
      have HB1 := hide hb1
      have U1 := hide u1
      clear hb1 u1 c0 c1 z1
      go_wp2_with fail
      try go_ret
      have u2 : Upd (fun b => b = g) w1 (w1.setCell ⟨g, 1, none⟩ (.int .i64 14)) := (Upd.refl (fun b => b = g) w1).setCell (p := ⟨g, 1, none⟩) (fun _ => rfl) _
      refine hR.out _ _ ⟨rfl, (U1.out.mono fun _ _ h => h.elim).trans u2 (fun b _ hb => .inl hb), ?_, (HBW.out.fresh U1.out).upd u2 (Ne.symm hgk) (fun b hb => hFg b hb)⟩
      have := HB1.out.set_ 1 (.int .i64 14)
      simpa using this
  · rw [if_pos her]
    have hne : (er == 0) = false := by simpa using her
    clear h
    refine veil fun R hR => ?_
    go_enter Tryz.func93, Tryz.ntmps93
    go_wp2_with fail
    try go_ret
    exact hR.out _ _ ⟨rfl, Upd.refl _ _, HH.out⟩

end Go.Proofs.YtjfdaphjijfieaaGreat

/-
  Package seqs: parts, tracks.
  Conditions: none beyond those of each theorem.
-/
namespace Go.Proofs.YtjfdaphjijfieaaGreat
open Go.RowKit
set_option linter.unusedVariables false
set_option linter.unusedSimpArgs false

/-- the code functions of a part -/
def lenV : List Value := [.func (.func 112) #[] #[], .func (.func 113) #[] #[], .func (.func 114) #[] #[]]
def ofsV : List Value := [.func (.func 115) #[] #[], .func (.func 116) #[] #[], .func (.func 117) #[] #[]]

set_option maxRecDepth 100000 in
set_option maxHeartbeats 2000000 in
theorem parts_any (w : World) : Calls Tryz.prog 72 #[] w fun e w' => e = .returned (.agg #[.func (.func 112) #[] #[], .func (.func 113) #[] #[], .func (.func 114) #[] #[], .func (.func 115) #[] #[], .func (.func 116) #[] #[], .func (.func 117) #[] #[], .func (.func 112) #[] #[], .func (.func 113) #[] #[], .func (.func 114) #[] #[]]) ∧ Fresh w w' := by
  refine veil fun R hR => ?_
  go_enter Tryz.func72, Tryz.ntmps72
  go_wp2_with fail
  refine bodyPost_ret (v := .agg #[.func (.func 112) #[] #[], .func (.func 113) #[] #[], .func (.func 114) #[] #[], .func (.func 115) #[] #[], .func (.func 116) #[] #[], .func (.func 117) #[] #[], .func (.func 112) #[] #[], .func (.func 113) #[] #[], .func (.func 114) #[] #[]]) (results_cell_row rfl _ _ w.heap.size 149 _ _ _ rfl ((Blk.new w _ _).alloc _) Tryz.underlying149 rfl (by kernel_rfl)) rfl ?_
  exact hR.out _ _ ⟨rfl, ((Upd.refl _ _).alloc _).alloc _⟩

/-- a coder that a pointer names -/
def CP (w : World) (G : Nat → Prop) (v : Value) (p : Nat) (N : List Int) : Prop := ∃ g, v = .pointer (some ⟨g, 0, none⟩) ∧ CoderF w G g p N
theorem CP.upd {S G : Nat → Prop} {w w' : World} {v : Value} {p : Nat} {N : List Int} (h : CP w G v p N) (hu : Upd S w w') (hs : ∀ b, G b → b < w.heap.size → ¬ S b) : CP w' G v p N := by
  obtain ⟨g, h1, h2⟩ := h
  exact ⟨g, h1, h2.upd hu hs⟩
theorem CP.fresh {G : Nat → Prop} {w w' : World} {v : Value} {p : Nat} {N : List Int} (h : CP w G v p N) (hu : Fresh w w') : CP w' G v p N := h.upd hu fun _ _ _ h => h

set_option maxRecDepth 100000 in
set_option maxHeartbeats 4000000 in
theorem tracks_any (F : Nat → Prop) (A B C : Option Addr) (n c m d k e : Nat) (T : Trks) (w : World) (hT : T.ok)
    (h1 : Rd w F A n (ints T.NL)) (h2 : Rd w F B m (ints T.NO)) (h3 : Rd w F C k (ints T.NM)) (f1 : Fit T.NL) (f2 : Fit T.NO) (f3 : Fit T.NM) (b1 : (n : Int) ≤ 1099511627776) (b2 : (m : Int) ≤ 1099511627776) (b3 : (k : Int) ≤ 1099511627776) :
    Calls Tryz.prog 47 #[.agg #[.int .i64 (T.pL : Nat), .slice A n c, .int .i64 (T.pO : Nat), .slice B m d, .int .i64 (T.pM : Nat), .slice C k e]] w fun e w' => ∃ v0 v1 v2,
      e = .returned (.tuple #[.agg #[v0, .int .i64 0, v1, .int .i64 0, v2, .int .i64 0], .int .i64 0]) ∧ CP w' (fun b => w.heap.size ≤ b) v0 T.pL T.NL ∧ CP w' (fun b => w.heap.size ≤ b) v1 T.pO T.NO ∧ CP w' (fun b => w.heap.size ≤ b) v2 T.pM T.NM ∧ Fresh w w' := by
  obtain ⟨w0, hw0⟩ : ∃ w0, w0 = (w.alloc (.cells #[.int .i64 (T.pL : Nat), .slice A n c, .int .i64 (T.pO : Nat), .slice B m d, .int .i64 (T.pM : Nat), .slice C k e] 69)).alloc (.cells #[.pointer none, .int .i64 0, .pointer none, .int .i64 0, .pointer none, .int .i64 0] 96) := ⟨_, rfl⟩
  obtain ⟨H, hH⟩ : ∃ H, H = w.heap.size := ⟨_, rfl⟩
  have f0 : Fresh w w0 := by rw [hw0]; exact ((Upd.refl _ _).alloc _).alloc _
  have bt : Blk w0 H 69 #[.int .i64 (T.pL : Nat), .slice A n c, .int .i64 (T.pO : Nat), .slice B m d, .int .i64 (T.pM : Nat), .slice C k e] := by rw [hw0]; exact (blk_new hH _ _).alloc _
  have bo : Blk w0 (H + 1) 96 #[.pointer none, .int .i64 0, .pointer none, .int .i64 0, .pointer none, .int .i64 0] := by rw [hw0]; exact blk_new (by simp [hH]) _ _
  have hs0 : w0.heap.size = H + 2 := by rw [hw0, hH]; simp
  obtain ⟨hL, hO, hM⟩ := hT.wide
  have nw : ∀ (X : Option Addr) (x cx p : Nat) (N : List Int) W, Rd w F X x (ints N) → Fit N → (x : Int) ≤ 1099511627776 → Valid p N 256 9 → Upd (fun b => b = H + 1) w0 W →
      Calls Tryz.prog 76 #[.agg #[.int .i64 (p : Nat), .slice X x cx]] W fun e w' => ∃ g, e = .returned (.tuple #[.pointer (some ⟨g, 0, none⟩), .int .i64 0]) ∧ CoderF w' (fun b => H + 2 ≤ b) g p N ∧ Fresh W w' := fun X x cx p N W hr hf hx hv hu => by
    refine (newc_ok _ X x cx p N W ((hr.both.fresh f0).upd hu (fun b _ hb e => by have := hb.2; omega)) hf hx hv).mono ?_
    rintro e w' ⟨g, h1, h2, h3⟩
    exact ⟨g, h1, h2.f.mono fun b hb _ => by have := hu.size; have := hb.1; omega, h3⟩
  have N0 := hide (fun W u => nw A n c _ _ W h1 f1 b1 hL u)
  have N1 := hide (fun W u => nw B m d _ _ W h2 f2 b2 hO u)
  have N2 := hide (fun W u => nw C k e _ _ W h3 f3 b3 hM u)
  have HBT : Hid (∀ W, Upd (fun b => b = H + 1) w0 W → W.cell? ⟨H, 0, none⟩ = some (.int .i64 (T.pL : Nat)) ∧ W.cell? ⟨H, 1, none⟩ = some (.slice A n c) ∧ W.cell? ⟨H, 2, none⟩ = some (.int .i64 (T.pO : Nat)) ∧ W.cell? ⟨H, 3, none⟩ = some (.slice B m d) ∧ W.cell? ⟨H, 4, none⟩ = some (.int .i64 (T.pM : Nat)) ∧ W.cell? ⟨H, 5, none⟩ = some (.slice C k e)) := fun W u => by
    have b := bt.upd u (by omega)
    exact ⟨by simpa using b.cell 0, by simpa using b.cell 1, by simpa using b.cell 2, by simpa using b.cell 3, by simpa using b.cell 4, by simpa using b.cell 5⟩
  have HW := hide hw0
  have HH := hide hH
  have F0 := hide f0
  have BO := hide bo
  have HS0 := hide hs0
  clear hw0 hH f0 bt bo hs0 h1 h2 h3 f1 f2 f3 b1 b2 b3 hL hO hM nw hT
  generalize T.pL = pL at *
  generalize T.pO = pO at *
  generalize T.pM = pM at *
  generalize T.NL = NL at *
  generalize T.NO = NO at *
  generalize T.NM = NM at *
  refine veil fun R hR => ?_
  go_enter Tryz.func47, Tryz.ntmps47
  go_upto_region 1 with fail
  simp only [← HH.out, ← HW.out]
  go_wp2_with fail
  go_loopg [5] 3 (fun f vi wr => ∃ (i : Nat) (v0 v1 v2 : Value), i + f = 3 ∧ vi = .int .i64 i ∧ Upd (fun b => b = H + 1) w0 wr ∧ Blk wr (H + 1) 96 #[v0, .int .i64 0, v1, .int .i64 0, v2, .int .i64 0] ∧
    (if 0 < i then CP wr (fun b => H + 2 ≤ b) v0 pL NL else v0 = .pointer none) ∧ (if 1 < i then CP wr (fun b => H + 2 ≤ b) v1 pO NO else v1 = .pointer none) ∧ (if 2 < i then CP wr (fun b => H + 2 ≤ b) v2 pM NM else v2 = .pointer none))
  case atStart => exact ⟨0, _, _, _, rfl, rfl, Upd.refl _ _, BO.out, rfl, rfl, rfl⟩
  case round =>
    obtain ⟨i, v0, v1, v2, hf, rfl, hu, hb, p0, p1, p2⟩ := hrel
    obtain ⟨t0, t1, t2, t3, t4, t5⟩ := HBT.out _ hu
    have a0 := hb.cell 0
    have a1 := hb.cell 1
    have a2 := hb.cell 2
    have a3 := hb.cell 3
    have a4 := hb.cell 4
    have a5 := hb.cell 5
    simp at a0 a1 a2 a3 a4 a5
    have HU := hide hu
    have HB := hide hb
    have P0 := hide p0
    have P1 := hide p1
    have P2 := hide p2
    have h4 : i = 0 ∨ i = 1 ∨ i = 2 ∨ i = 3 := by omega
    clear hu hb p0 p1 p2
    rcases h4 with rfl | rfl | rfl | rfl
    · obtain rfl : gk = 3 := by omega
      clear hf
      go_wp2_with fail
      refine (N0.out _ HU.out).mono ?_
      rintro e w1 ⟨g, rfl, cg, f1⟩
      have hb1 := HB.out.fresh f1
      have y0 := hb1.cell 0
      have z0 := hb1.frozen 0
      simp at y0
      have u1 : Upd (fun b => b = H + 1) w0 (w1.setCell ⟨H + 1, 0, none⟩ (.pointer (some ⟨g, 0, none⟩))) := (HU.out.trans' (f1.mono (T := fun b => b = H + 1) fun _ _ h => h.elim)).setCell (p := ⟨H + 1, 0, none⟩) (fun _ => rfl) _
      have u2 : Upd (fun b => b = H + 1) w1 (w1.setCell ⟨H + 1, 0, none⟩ (.pointer (some ⟨g, 0, none⟩))) := (Upd.refl (fun b => b = H + 1) w1).setCell (p := ⟨H + 1, 0, none⟩) (fun _ => rfl) _
      have hb2 : Blk (w1.setCell ⟨H + 1, 0, none⟩ (.pointer (some ⟨g, 0, none⟩))) (H + 1) 96 #[.pointer (some ⟨g, 0, none⟩), .int .i64 0, v1, .int .i64 0, v2, .int .i64 0] := by simpa using hb1.set_ 0 (.pointer (some ⟨g, 0, none⟩))
      have cg2 : CP (w1.setCell ⟨H + 1, 0, none⟩ (.pointer (some ⟨g, 0, none⟩))) (fun b => H + 2 ≤ b) (.pointer (some ⟨g, 0, none⟩)) pL NL := ⟨g, rfl, cg.upd u2 (fun b hb _ => by omega)⟩
      have q1 : v1 = .pointer none := by simpa using P1.out
      have q2 : v2 = .pointer none := by simpa using P2.out
      have HE := hide (show ∃ (i : Nat) (x0 x1 x2 : Value), i + 2 = 3 ∧ (Value.int .i64 1 : Value) = .int .i64 i ∧ Upd (fun b => b = H + 1) w0 (w1.setCell ⟨H + 1, 0, none⟩ (.pointer (some ⟨g, 0, none⟩))) ∧ Blk (w1.setCell ⟨H + 1, 0, none⟩ (.pointer (some ⟨g, 0, none⟩))) (H + 1) 96 #[x0, .int .i64 0, x1, .int .i64 0, x2, .int .i64 0] ∧
        (if 0 < i then CP (w1.setCell ⟨H + 1, 0, none⟩ (.pointer (some ⟨g, 0, none⟩))) (fun b => H + 2 ≤ b) x0 pL NL else x0 = .pointer none) ∧ (if 1 < i then CP (w1.setCell ⟨H + 1, 0, none⟩ (.pointer (some ⟨g, 0, none⟩))) (fun b => H + 2 ≤ b) x1 pO NO else x1 = .pointer none) ∧ (if 2 < i then CP (w1.setCell ⟨H + 1, 0, none⟩ (.pointer (some ⟨g, 0, none⟩))) (fun b => H + 2 ≤ b) x2 pM NM else x2 = .pointer none)
        from ⟨1, .pointer (some ⟨g, 0, none⟩), v1, v2, rfl, rfl, u1, hb2, by simpa using cg2, by first | simpa using cg2 | simpa using q1, by first | simpa using cg2 | simpa using q2⟩)
      clear hb1 u1 u2 hb2 cg cg2 f1 q1 q2 a0 a1 a2 a3 a4 a5 t0 t1 t2 t3 t4 t5
      go_wp2_with fail
      go_roundg 2
      case measure => omega
      case rel => exact HE.out
    · obtain rfl : gk = 2 := by omega
      clear hf
      go_wp2_with fail
      refine (N1.out _ HU.out).mono ?_
      rintro e w1 ⟨g, rfl, cg, f1⟩
      have hb1 := HB.out.fresh f1
      have y0 := hb1.cell 2
      have z0 := hb1.frozen 2
      simp at y0
      have u1 : Upd (fun b => b = H + 1) w0 (w1.setCell ⟨H + 1, 2, none⟩ (.pointer (some ⟨g, 0, none⟩))) := (HU.out.trans' (f1.mono (T := fun b => b = H + 1) fun _ _ h => h.elim)).setCell (p := ⟨H + 1, 2, none⟩) (fun _ => rfl) _
      have u2 : Upd (fun b => b = H + 1) w1 (w1.setCell ⟨H + 1, 2, none⟩ (.pointer (some ⟨g, 0, none⟩))) := (Upd.refl (fun b => b = H + 1) w1).setCell (p := ⟨H + 1, 2, none⟩) (fun _ => rfl) _
      have hb2 : Blk (w1.setCell ⟨H + 1, 2, none⟩ (.pointer (some ⟨g, 0, none⟩))) (H + 1) 96 #[v0, .int .i64 0, .pointer (some ⟨g, 0, none⟩), .int .i64 0, v2, .int .i64 0] := by simpa using hb1.set_ 2 (.pointer (some ⟨g, 0, none⟩))
      have cg2 : CP (w1.setCell ⟨H + 1, 2, none⟩ (.pointer (some ⟨g, 0, none⟩))) (fun b => H + 2 ≤ b) (.pointer (some ⟨g, 0, none⟩)) pO NO := ⟨g, rfl, cg.upd u2 (fun b hb _ => by omega)⟩
      have q0 : CP (w1.setCell ⟨H + 1, 2, none⟩ (.pointer (some ⟨g, 0, none⟩))) (fun b => H + 2 ≤ b) v0 pL NL := ((show CP wr (fun b => H + 2 ≤ b) v0 pL NL by simpa using P0.out).fresh f1).upd u2 (fun b hb _ => by omega)
      have q2 : v2 = .pointer none := by simpa using P2.out
      have HE := hide (show ∃ (i : Nat) (x0 x1 x2 : Value), i + 1 = 3 ∧ (Value.int .i64 2 : Value) = .int .i64 i ∧ Upd (fun b => b = H + 1) w0 (w1.setCell ⟨H + 1, 2, none⟩ (.pointer (some ⟨g, 0, none⟩))) ∧ Blk (w1.setCell ⟨H + 1, 2, none⟩ (.pointer (some ⟨g, 0, none⟩))) (H + 1) 96 #[x0, .int .i64 0, x1, .int .i64 0, x2, .int .i64 0] ∧
        (if 0 < i then CP (w1.setCell ⟨H + 1, 2, none⟩ (.pointer (some ⟨g, 0, none⟩))) (fun b => H + 2 ≤ b) x0 pL NL else x0 = .pointer none) ∧ (if 1 < i then CP (w1.setCell ⟨H + 1, 2, none⟩ (.pointer (some ⟨g, 0, none⟩))) (fun b => H + 2 ≤ b) x1 pO NO else x1 = .pointer none) ∧ (if 2 < i then CP (w1.setCell ⟨H + 1, 2, none⟩ (.pointer (some ⟨g, 0, none⟩))) (fun b => H + 2 ≤ b) x2 pM NM else x2 = .pointer none)
        from ⟨2, v0, .pointer (some ⟨g, 0, none⟩), v2, rfl, rfl, u1, hb2, by first | simpa using cg2 | simpa using q0, by simpa using cg2, by first | simpa using cg2 | simpa using q2⟩)
      clear hb1 u1 u2 hb2 cg cg2 f1 q0 q2 a0 a1 a2 a3 a4 a5 t0 t1 t2 t3 t4 t5
      go_wp2_with fail
      go_roundg 1
      case measure => omega
      case rel => exact HE.out
    · obtain rfl : gk = 1 := by omega
      clear hf
      go_wp2_with fail
      refine (N2.out _ HU.out).mono ?_
      rintro e w1 ⟨g, rfl, cg, f1⟩
      have hb1 := HB.out.fresh f1
      have y0 := hb1.cell 4
      have z0 := hb1.frozen 4
      simp at y0
      have u1 : Upd (fun b => b = H + 1) w0 (w1.setCell ⟨H + 1, 4, none⟩ (.pointer (some ⟨g, 0, none⟩))) := (HU.out.trans' (f1.mono (T := fun b => b = H + 1) fun _ _ h => h.elim)).setCell (p := ⟨H + 1, 4, none⟩) (fun _ => rfl) _
      have u2 : Upd (fun b => b = H + 1) w1 (w1.setCell ⟨H + 1, 4, none⟩ (.pointer (some ⟨g, 0, none⟩))) := (Upd.refl (fun b => b = H + 1) w1).setCell (p := ⟨H + 1, 4, none⟩) (fun _ => rfl) _
      have hb2 : Blk (w1.setCell ⟨H + 1, 4, none⟩ (.pointer (some ⟨g, 0, none⟩))) (H + 1) 96 #[v0, .int .i64 0, v1, .int .i64 0, .pointer (some ⟨g, 0, none⟩), .int .i64 0] := by simpa using hb1.set_ 4 (.pointer (some ⟨g, 0, none⟩))
      have cg2 : CP (w1.setCell ⟨H + 1, 4, none⟩ (.pointer (some ⟨g, 0, none⟩))) (fun b => H + 2 ≤ b) (.pointer (some ⟨g, 0, none⟩)) pM NM := ⟨g, rfl, cg.upd u2 (fun b hb _ => by omega)⟩
      have q0 : CP (w1.setCell ⟨H + 1, 4, none⟩ (.pointer (some ⟨g, 0, none⟩))) (fun b => H + 2 ≤ b) v0 pL NL := ((show CP wr (fun b => H + 2 ≤ b) v0 pL NL by simpa using P0.out).fresh f1).upd u2 (fun b hb _ => by omega)
      have q1 : CP (w1.setCell ⟨H + 1, 4, none⟩ (.pointer (some ⟨g, 0, none⟩))) (fun b => H + 2 ≤ b) v1 pO NO := ((show CP wr (fun b => H + 2 ≤ b) v1 pO NO by simpa using P1.out).fresh f1).upd u2 (fun b hb _ => by omega)
      have HE := hide (show ∃ (i : Nat) (x0 x1 x2 : Value), i + 0 = 3 ∧ (Value.int .i64 3 : Value) = .int .i64 i ∧ Upd (fun b => b = H + 1) w0 (w1.setCell ⟨H + 1, 4, none⟩ (.pointer (some ⟨g, 0, none⟩))) ∧ Blk (w1.setCell ⟨H + 1, 4, none⟩ (.pointer (some ⟨g, 0, none⟩))) (H + 1) 96 #[x0, .int .i64 0, x1, .int .i64 0, x2, .int .i64 0] ∧
        (if 0 < i then CP (w1.setCell ⟨H + 1, 4, none⟩ (.pointer (some ⟨g, 0, none⟩))) (fun b => H + 2 ≤ b) x0 pL NL else x0 = .pointer none) ∧ (if 1 < i then CP (w1.setCell ⟨H + 1, 4, none⟩ (.pointer (some ⟨g, 0, none⟩))) (fun b => H + 2 ≤ b) x1 pO NO else x1 = .pointer none) ∧ (if 2 < i then CP (w1.setCell ⟨H + 1, 4, none⟩ (.pointer (some ⟨g, 0, none⟩))) (fun b => H + 2 ≤ b) x2 pM NM else x2 = .pointer none)
        from ⟨3, v0, v1, .pointer (some ⟨g, 0, none⟩), rfl, rfl, u1, hb2, by first | simpa using cg2 | simpa using q0, by first | simpa using cg2 | simpa using q1, by simpa using cg2⟩)
      clear hb1 u1 u2 hb2 cg cg2 f1 q0 q1 a0 a1 a2 a3 a4 a5 t0 t1 t2 t3 t4 t5
      go_wp2_with fail
      go_roundg 0
      case measure => omega
      case rel => exact HE.out
    · obtain rfl : gk = 0 := by omega
      clear hf
      obtain ⟨g0, rfl, c0⟩ := (show CP wr (fun b => H + 2 ≤ b) v0 pL NL by simpa using P0.out)
      obtain ⟨g1, rfl, c1⟩ := (show CP wr (fun b => H + 2 ≤ b) v1 pO NO by simpa using P1.out)
      obtain ⟨g2, rfl, c2⟩ := (show CP wr (fun b => H + 2 ≤ b) v2 pM NM by simpa using P2.out)
      have z0 := HB.out.frozen 0
      have z1 := HB.out.frozen 1
      have z2 := HB.out.frozen 2
      have z3 := HB.out.frozen 3
      have z4 := HB.out.frozen 4
      have z5 := HB.out.frozen 5
      have C0 := hide c0
      have C1 := hide c1
      have C2 := hide c2
      clear c0 c1 c2 t0 t1 t2 t3 t4 t5
      go_wp2_with fail
      have bF := (((((HB.out.set_ 0 (.pointer (some ⟨g0, 0, none⟩))).set_ 1 (.int .i64 0)).set_ 2 (.pointer (some ⟨g1, 0, none⟩))).set_ 3 (.int .i64 0)).set_ 4 (.pointer (some ⟨g2, 0, none⟩))).set_ 5 (.int .i64 0)
      have uF : Upd (fun b => b = H + 1) wr ((((((wr.setCell ⟨H + 1, 0, none⟩ (.pointer (some ⟨g0, 0, none⟩))).setCell ⟨H + 1, 1, none⟩ (.int .i64 0)).setCell ⟨H + 1, 2, none⟩ (.pointer (some ⟨g1, 0, none⟩))).setCell ⟨H + 1, 3, none⟩ (.int .i64 0)).setCell ⟨H + 1, 4, none⟩ (.pointer (some ⟨g2, 0, none⟩))).setCell ⟨H + 1, 5, none⟩ (.int .i64 0)) :=
        ((((((Upd.refl (fun b => b = H + 1) wr).setCell (p := ⟨H + 1, 0, none⟩) (fun _ => rfl) _).setCell (p := ⟨H + 1, 1, none⟩) (fun _ => rfl) _).setCell (p := ⟨H + 1, 2, none⟩) (fun _ => rfl) _).setCell (p := ⟨H + 1, 3, none⟩) (fun _ => rfl) _).setCell (p := ⟨H + 1, 4, none⟩) (fun _ => rfl) _).setCell (p := ⟨H + 1, 5, none⟩) (fun _ => rfl) _
      refine bodyPost_ret (results_cell_tmp_row rfl _ _ (H + 1) _ _ _ rfl bF Tryz.underlying96 rfl (by kernel_rfl)) rfl ?_
      refine hR.out _ _ ⟨.pointer (some ⟨g0, 0, none⟩), .pointer (some ⟨g1, 0, none⟩), .pointer (some ⟨g2, 0, none⟩), rfl, ?_, ?_, ?_, ?_⟩
      · exact ⟨g0, rfl, (C0.out.upd uF (fun b hb _ => by omega)).mono fun b hb _ => by have := HH.out; omega⟩
      · exact ⟨g1, rfl, (C1.out.upd uF (fun b hb _ => by omega)).mono fun b hb _ => by have := HH.out; omega⟩
      · exact ⟨g2, rfl, (C2.out.upd uF (fun b hb _ => by omega)).mono fun b hb _ => by have := HH.out; omega⟩
      · exact (F0.out.trans HU.out (fun b hb h => by have := HH.out; omega)).trans uF (fun b hb h => by have := HH.out; omega)

end Go.Proofs.YtjfdaphjijfieaaGreat

/-
  Package seqs: the reader's value.
  Conditions: none beyond those of each theorem.
-/
namespace Go.Proofs.YtjfdaphjijfieaaGreat
open Go.RowKit
set_option linter.unusedVariables false
set_option linter.unusedSimpArgs false

set_option maxRecDepth 100000 in
set_option maxHeartbeats 4000000 in
theorem svalL_any (F G : Nat → Prop) (g k : Nat) (bs : List Nat) (s : Nat × Int) (cg p st : Nat) (N : List Int) (w : World) (h : SrAt w F g k bs s) (hgk : g ≠ k) (hFk : ∀ b, F b → b ≠ k) (hFg : ∀ b, F b → b ≠ g)
    (hc : CoderF w G cg p N) (hv : Valid p N 44 9) (hs : st < 2 ^ p) :
    Calls Tryz.prog 94 #[.pointer (some ⟨g, 0, none⟩), .agg #[.pointer (some ⟨cg, 0, none⟩), .int .i64 (st : Nat)],
      .agg #[.func (.func 112) #[] #[], .func (.func 113) #[] #[], .func (.func 114) #[] #[]]] w fun e w' =>
      e = .returned (.int .i64 ((valE (valR bs) false p N st s).1 : Nat)) ∧ Upd (fun b => b = g ∨ b = k) w w' ∧ SrAt w' F g k bs (valE (valR bs) false p N st s).2 := by
  have hw256 : Valid p N 256 9 := by
    obtain ⟨a1, a2, a3, a4, a5, a6⟩ := hv
    exact ⟨a1, a2, a3, a4, by omega, a6⟩
  obtain ⟨c1, c2, c3, c4, c5, c6⟩ := cell_good hw256 hs
  have hN : (N.length : Int) ≤ 44 := hv.2.2.2.2.1
  have hsy : symN p N st < 44 := by omega
  obtain ⟨w0, hw0⟩ : ∃ w0, w0 = (w.alloc (.cells #[.pointer (some ⟨cg, 0, none⟩), .int .i64 (st : Nat)] 95)).alloc (.cells #[.func (.func 112) #[] #[], .func (.func 113) #[] #[], .func (.func 114) #[] #[]] 148) := ⟨_, rfl⟩
  obtain ⟨H, hH⟩ : ∃ H, H = w.heap.size := ⟨_, rfl⟩
  have f0 : Fresh w w0 := by rw [hw0]; exact ((Upd.refl _ _).alloc _).alloc _
  have k0 : Blk w0 H 95 #[.pointer (some ⟨cg, 0, none⟩), .int .i64 (st : Nat)] := by rw [hw0]; exact (blk_new hH _ _).alloc _
  have k1 : Blk w0 (H + 1) 148 #[.func (.func 112) #[] #[], .func (.func 113) #[] #[], .func (.func 114) #[] #[]] := by rw [hw0]; exact blk_new (by simp [hH]) _ _
  have HCE := hide (cell_any G cg p st N w0 (hc.fresh f0) hs)
  have HSY := hide c1
  have hgl := h.1.lt
  have hkl := h.2.lt
  have hbt : exB false (symN p N st) ≤ 27 := by
    unfold exB bitsL
    simp only [Bool.false_eq_true, if_false]
    try split
    all_goals omega
  have HTK := hide (fun W (f : Fresh w W) => stake_any F g k bs s (exB false (symN p N st)) W (h.fresh f) (by omega) hgk hFk hFg)
  have htl : (takeE (valR bs) s (exB false (symN p N st))).1 < 2 ^ exB false (symN p N st) := takeE_lt _ _ _
  have HBI : Hid (∀ W, Calls Tryz.prog 113 #[.int .i64 (symN p N st : Nat)] W fun e w' => e = .returned (.tuple #[.int .i64 (exB false (symN p N st) : Nat), .int .i64 0]) ∧ Fresh W w') := fun W => extraBits_any (symN p N st) W hsy
  have HJO : Hid (∀ W, Calls Tryz.prog 114 #[.int .i64 (symN p N st : Nat), .int .u64 ((takeE (valR bs) s (exB false (symN p N st))).1 : Nat)] W fun e w' => e = .returned (.tuple #[.int .i64 (valE (valR bs) false p N st s).1, .int .i64 0]) ∧ Fresh W w') := fun W => join_any (symN p N st) _ W hsy htl
  have e2 : (valE (valR bs) false p N st s).2 = (takeE (valR bs) s (exB false (symN p N st))).2 := rfl
  rw [e2]
  have e3 : (cellZ p N (spreadN p N) st).1 = (symN p N st : Nat) := c1
  rw [e3] at HCE
  generalize (cellZ p N (spreadN p N) st).2.1 = y1 at *
  generalize (cellZ p N (spreadN p N) st).2.2 = y2 at *
  generalize ((valE (valR bs) false p N st s).1 : Nat) = val at *
  generalize takeE (valR bs) s (exB false (symN p N st)) = tk at *
  generalize exB false (symN p N st) = ex at *
  generalize symN p N st = sy at *
  have d0 := k0.cell 0
  have d1 := k0.cell 1
  simp at d0 d1
  have K1 := hide k1
  have F0 := hide f0
  have HW := hide hw0
  have HH := hide hH
  clear h hc hv hw256 c1 c2 c3 c4 c5 c6 hN hsy htl e2 e3 hw0 hH f0 k0 k1 hs hFk hFg
  refine veil fun R hR => ?_
  go_enter Tryz.func94, Tryz.ntmps94
  go_upto_region 1 with fail
  simp only [← HH.out, ← HW.out]
  go_wp2_with fail
  refine HCE.out.mono ?_
  rintro e w1 ⟨rfl, f1⟩
  have F1 := hide (F0.out.trans' f1)
  have k2 := K1.out.fresh f1
  clear d0 d1 f1
  go_upto_region 2 with fail
  obtain ⟨K, hK⟩ : ∃ K, K = w1.heap.size := ⟨_, rfl⟩
  obtain ⟨w2, hw2⟩ : ∃ w2, w2 = w1.alloc (.cells #[.int .i64 (sy : Nat), .int .i64 y1, .int .i64 y2] 217) := ⟨_, rfl⟩
  simp only [← hK, ← hw2]
  have f2 : Fresh w1 w2 := by rw [hw2]; exact (Upd.refl _ _).alloc _
  have k3 := k2.fresh f2
  have q3 : Blk w2 K 217 #[.int .i64 (sy : Nat), .int .i64 y1, .int .i64 y2] := by rw [hw2]; exact blk_new hK _ _
  have F2 := hide (F1.out.trans' f2)
  have d1 := k3.cell 1
  have d2 := q3.cell 0
  simp at d1 d2
  have K3 := hide k3
  have Q3 := hide q3
  have HK := hide hK
  clear hw2 f2 k2 k3 q3 hK
  go_wp2_with fail
  refine (HBI.out _).mono ?_
  rintro e w3 ⟨rfl, f3⟩
  have k4 := K3.out.fresh f3
  have q4 := Q3.out.fresh f3
  have F3 := hide (F2.out.trans' f3)
  have d1' := k4.cell 2
  have d2' := q4.cell 0
  simp at d1' d2'
  have K4 := hide k4
  have Q4 := hide q4
  have HKS := hide (show H + 1 ≠ g ∧ H + 1 ≠ k by have := HH.out; omega)
  have HQS := hide (show K ≠ g ∧ K ≠ k by have := F1.out.size; have := HK.out; omega)
  clear f3 k4 q4 d1 d2
  have HSS : Hid (∀ W, Upd (fun b => b = g ∨ b = k) w3 W → W.cell? ⟨H + 1, 2, none⟩ = some (.func (.func 114) #[] #[]) ∧ W.cell? ⟨K, 0, none⟩ = some (.int .i64 (sy : Nat))) := fun W u =>
    ⟨by simpa using (K4.out.upd u (by have := HKS.out; rintro (h | h); exact this.1 h; exact this.2 h)).cell 2, by simpa using (Q4.out.upd u (by have := HQS.out; rintro (h | h); exact this.1 h; exact this.2 h)).cell 0⟩
  go_wp2_with fail
  go_region_held3 (fun W => W.cell? ⟨H + 1, 2, none⟩ = some (.func (.func 114) #[] #[]) ∧ W.cell? ⟨K, 0, none⟩ = some (.int .i64 (sy : Nat)))
    (first | exact ⟨d1', d2'⟩ | exact HSS.out _ ux | exact HSS.out _ uy)
    (first
      | (go_at_call 93; refine (HTK.out _ F3.out.drew).mono ?_; rintro e w4 ⟨rfl, u4, s4⟩; have ux : Upd (fun b => b = g ∨ b = k) w3 w4 := Upd.trans' ((Upd.refl _ _).drew) u4)
      | (go_at_call 114; refine (HJO.out _).mono ?_; rintro e w5 ⟨rfl, f5⟩; have uy : Upd (fun b => b = g ∨ b = k) w3 w5 := ux.trans f5 (fun _ _ h => h.elim)))
  all_goals go_wp2_with fail
  all_goals try go_ret
  all_goals exact hR.out _ _ ⟨rfl, (F3.out.mono (T := fun b => b = g ∨ b = k) fun _ _ h => h.elim).trans' uy, s4.fresh f5⟩

set_option maxRecDepth 100000 in
set_option maxHeartbeats 4000000 in
theorem svalO_any (F G : Nat → Prop) (g k : Nat) (bs : List Nat) (s : Nat × Int) (cg p st : Nat) (N : List Int) (w : World) (h : SrAt w F g k bs s) (hgk : g ≠ k) (hFk : ∀ b, F b → b ≠ k) (hFg : ∀ b, F b → b ≠ g)
    (hc : CoderF w G cg p N) (hv : Valid p N 28 9) (hs : st < 2 ^ p) :
    Calls Tryz.prog 94 #[.pointer (some ⟨g, 0, none⟩), .agg #[.pointer (some ⟨cg, 0, none⟩), .int .i64 (st : Nat)],
      .agg #[.func (.func 115) #[] #[], .func (.func 116) #[] #[], .func (.func 117) #[] #[]]] w fun e w' =>
      e = .returned (.int .i64 ((valE (valR bs) true p N st s).1 : Nat)) ∧ Upd (fun b => b = g ∨ b = k) w w' ∧ SrAt w' F g k bs (valE (valR bs) true p N st s).2 := by
  have hw256 : Valid p N 256 9 := by
    obtain ⟨a1, a2, a3, a4, a5, a6⟩ := hv
    exact ⟨a1, a2, a3, a4, by omega, a6⟩
  obtain ⟨c1, c2, c3, c4, c5, c6⟩ := cell_good hw256 hs
  have hN : (N.length : Int) ≤ 28 := hv.2.2.2.2.1
  have hsy : symN p N st < 28 := by omega
  obtain ⟨w0, hw0⟩ : ∃ w0, w0 = (w.alloc (.cells #[.pointer (some ⟨cg, 0, none⟩), .int .i64 (st : Nat)] 95)).alloc (.cells #[.func (.func 115) #[] #[], .func (.func 116) #[] #[], .func (.func 117) #[] #[]] 148) := ⟨_, rfl⟩
  obtain ⟨H, hH⟩ : ∃ H, H = w.heap.size := ⟨_, rfl⟩
  have f0 : Fresh w w0 := by rw [hw0]; exact ((Upd.refl _ _).alloc _).alloc _
  have k0 : Blk w0 H 95 #[.pointer (some ⟨cg, 0, none⟩), .int .i64 (st : Nat)] := by rw [hw0]; exact (blk_new hH _ _).alloc _
  have k1 : Blk w0 (H + 1) 148 #[.func (.func 115) #[] #[], .func (.func 116) #[] #[], .func (.func 117) #[] #[]] := by rw [hw0]; exact blk_new (by simp [hH]) _ _
  have HCE := hide (cell_any G cg p st N w0 (hc.fresh f0) hs)
  have HSY := hide c1
  have hgl := h.1.lt
  have hkl := h.2.lt
  have hbt : exB true (symN p N st) ≤ 27 := by
    unfold exB bitsL
    simp only [if_true]
    try split
    all_goals omega
  have HTK := hide (fun W (f : Fresh w W) => stake_any F g k bs s (exB true (symN p N st)) W (h.fresh f) (by omega) hgk hFk hFg)
  have htl : (takeE (valR bs) s (exB true (symN p N st))).1 < 2 ^ exB true (symN p N st) := takeE_lt _ _ _
  have HBI : Hid (∀ W, Calls Tryz.prog 116 #[.int .i64 (symN p N st : Nat)] W fun e w' => e = .returned (.tuple #[.int .i64 (exB true (symN p N st) : Nat), .int .i64 0]) ∧ Fresh W w') := fun W => offsetBits_any (symN p N st) W hsy
  have HJO : Hid (∀ W, Calls Tryz.prog 117 #[.int .i64 (symN p N st : Nat), .int .u64 ((takeE (valR bs) s (exB true (symN p N st))).1 : Nat)] W fun e w' => e = .returned (.tuple #[.int .i64 (valE (valR bs) true p N st s).1, .int .i64 0]) ∧ Fresh W w') := fun W => joinOffset_any (symN p N st) _ W hsy htl
  have e2 : (valE (valR bs) true p N st s).2 = (takeE (valR bs) s (exB true (symN p N st))).2 := rfl
  rw [e2]
  have e3 : (cellZ p N (spreadN p N) st).1 = (symN p N st : Nat) := c1
  rw [e3] at HCE
  generalize (cellZ p N (spreadN p N) st).2.1 = y1 at *
  generalize (cellZ p N (spreadN p N) st).2.2 = y2 at *
  generalize ((valE (valR bs) true p N st s).1 : Nat) = val at *
  generalize takeE (valR bs) s (exB true (symN p N st)) = tk at *
  generalize exB true (symN p N st) = ex at *
  generalize symN p N st = sy at *
  have d0 := k0.cell 0
  have d1 := k0.cell 1
  simp at d0 d1
  have K1 := hide k1
  have F0 := hide f0
  have HW := hide hw0
  have HH := hide hH
  clear h hc hv hw256 c1 c2 c3 c4 c5 c6 hN hsy htl e2 e3 hw0 hH f0 k0 k1 hs hFk hFg
  refine veil fun R hR => ?_
  go_enter Tryz.func94, Tryz.ntmps94
  go_upto_region 1 with fail
  simp only [← HH.out, ← HW.out]
  go_wp2_with fail
  refine HCE.out.mono ?_
  rintro e w1 ⟨rfl, f1⟩
  have F1 := hide (F0.out.trans' f1)
  have k2 := K1.out.fresh f1
  clear d0 d1 f1
  go_upto_region 2 with fail
  obtain ⟨K, hK⟩ : ∃ K, K = w1.heap.size := ⟨_, rfl⟩
  obtain ⟨w2, hw2⟩ : ∃ w2, w2 = w1.alloc (.cells #[.int .i64 (sy : Nat), .int .i64 y1, .int .i64 y2] 217) := ⟨_, rfl⟩
  simp only [← hK, ← hw2]
  have f2 : Fresh w1 w2 := by rw [hw2]; exact (Upd.refl _ _).alloc _
  have k3 := k2.fresh f2
  have q3 : Blk w2 K 217 #[.int .i64 (sy : Nat), .int .i64 y1, .int .i64 y2] := by rw [hw2]; exact blk_new hK _ _
  have F2 := hide (F1.out.trans' f2)
  have d1 := k3.cell 1
  have d2 := q3.cell 0
  simp at d1 d2
  have K3 := hide k3
  have Q3 := hide q3
  have HK := hide hK
  clear hw2 f2 k2 k3 q3 hK
  go_wp2_with fail
  refine (HBI.out _).mono ?_
  rintro e w3 ⟨rfl, f3⟩
  have k4 := K3.out.fresh f3
  have q4 := Q3.out.fresh f3
  have F3 := hide (F2.out.trans' f3)
  have d1' := k4.cell 2
  have d2' := q4.cell 0
  simp at d1' d2'
  have K4 := hide k4
  have Q4 := hide q4
  have HKS := hide (show H + 1 ≠ g ∧ H + 1 ≠ k by have := HH.out; omega)
  have HQS := hide (show K ≠ g ∧ K ≠ k by have := F1.out.size; have := HK.out; omega)
  clear f3 k4 q4 d1 d2
  have HSS : Hid (∀ W, Upd (fun b => b = g ∨ b = k) w3 W → W.cell? ⟨H + 1, 2, none⟩ = some (.func (.func 117) #[] #[]) ∧ W.cell? ⟨K, 0, none⟩ = some (.int .i64 (sy : Nat))) := fun W u =>
    ⟨by simpa using (K4.out.upd u (by have := HKS.out; rintro (h | h); exact this.1 h; exact this.2 h)).cell 2, by simpa using (Q4.out.upd u (by have := HQS.out; rintro (h | h); exact this.1 h; exact this.2 h)).cell 0⟩
  go_wp2_with fail
  go_region_held3 (fun W => W.cell? ⟨H + 1, 2, none⟩ = some (.func (.func 117) #[] #[]) ∧ W.cell? ⟨K, 0, none⟩ = some (.int .i64 (sy : Nat)))
    (first | exact ⟨d1', d2'⟩ | exact HSS.out _ ux | exact HSS.out _ uy)
    (first
      | (go_at_call 93; refine (HTK.out _ F3.out.drew).mono ?_; rintro e w4 ⟨rfl, u4, s4⟩; have ux : Upd (fun b => b = g ∨ b = k) w3 w4 := Upd.trans' ((Upd.refl _ _).drew) u4)
      | (go_at_call 117; refine (HJO.out _).mono ?_; rintro e w5 ⟨rfl, f5⟩; have uy : Upd (fun b => b = g ∨ b = k) w3 w5 := ux.trans f5 (fun _ _ h => h.elim)))
  all_goals go_wp2_with fail
  all_goals try go_ret
  all_goals exact hR.out _ _ ⟨rfl, (F3.out.mono (T := fun b => b = g ∨ b = k) fun _ _ h => h.elim).trans' uy, s4.fresh f5⟩

end Go.Proofs.YtjfdaphjijfieaaGreat

/-
  Package seqs: the reader's on.
  Conditions: none beyond those of each theorem.
-/
namespace Go.Proofs.YtjfdaphjijfieaaGreat
open Go.RowKit
set_option linter.unusedVariables false
set_option linter.unusedSimpArgs false

set_option maxRecDepth 100000 in
set_option maxHeartbeats 40000000 in
theorem son_any (F G : Nat → Prop) (g k : Nat) (bs : List Nat) (s : Nat × Int) (cg p st tb o : Nat) (N : List Int) (cs : Array Value) (w : World) (h : SrAt w F g k bs s) (hgk : g ≠ k) (hFk : ∀ b, F b → b ≠ k) (hFg : ∀ b, F b → b ≠ g)
    (hc : CoderF w G cg p N) (hG : ∀ b, G b → b ≠ g ∧ b ≠ k) (hv : Valid p N 256 9) (hs : st < 2 ^ p) (hb : Blk w tb 96 cs) (h0 : cs[o]? = some (.pointer (some ⟨cg, 0, none⟩))) (h1 : cs[o + 1]? = some (.int .i64 (st : Nat)))
    (htg : tb ≠ g) (htk : tb ≠ k) (hFt : ∀ b, F b → b ≠ tb) :
    Calls Tryz.prog 95 #[.pointer (some ⟨g, 0, none⟩), .pointer (some ⟨tb, o, none⟩)] w fun e w' =>
      e = .returned (.tuple #[]) ∧ Upd (fun b => b = g ∨ b = k ∨ b = tb) w w' ∧ SrAt w' F g k bs (onE (valR bs) p N st s).2 ∧ Blk w' tb 96 (cs.setIfInBounds (o + 1) (.int .i64 ((onE (valR bs) p N st s).1 : Nat))) := by
  obtain ⟨c1, c2, c3, c4, c5, c6⟩ := cell_good hv hs
  have hp9 : p ≤ 9 := by have := hv.2.1; omega
  have hbt : bitN p N st ≤ 9 := by omega
  have HCE := hide (fun W (f : Fresh w W) => cell_any G cg p st N W (hc.fresh f) hs)
  have HTK := hide (fun W (f : Fresh w W) => stake_any F g k bs s (bitN p N st) W (h.fresh f) (by omega) hgk hFk hFg)
  have htl : (takeE (valR bs) s (bitN p N st)).1 < 2 ^ bitN p N st := takeE_lt _ _ _
  have hpw : 2 ^ bitN p N st ≤ 512 := Nat.le_trans (Nat.pow_le_pow_right (by decide) hbt) (by decide)
  have HNX := hide (fun W (f : Upd (fun b => b = g ∨ b = k) w W) => next_any G cg p st (takeE (valR bs) s (bitN p N st)).1 N W (hc.upd f (fun b hb _ e => by have := hG b hb; rcases e with e | e; exact this.1 e; exact this.2 e)) hs hv (by omega))
  have e1 : (cellZ p N (spreadN p N) st).2.2 = (bseN p N st : Nat) := c5
  have e2 : (takeE (valR bs) s (bitN p N st)).1 % 2 ^ (bitZ p N (spreadN p N) st).toNat = (takeE (valR bs) s (bitN p N st)).1 := Nat.mod_eq_of_lt htl
  have e3 : (cellZ p N (spreadN p N) st).2.1 = (bitN p N st : Nat) := c3
  have e4 : ((bseN p N st : Nat) : Int) + ((takeE (valR bs) s (bitN p N st)).1 : Nat) = ((onE (valR bs) p N st s).1 : Nat) := by simp [onE]
  rw [e1, e2, e4] at HNX
  rw [e1, e3] at HCE
  have e5 : (onE (valR bs) p N st s).2 = (takeE (valR bs) s (bitN p N st)).2 := rfl
  rw [e5]
  have hgl := h.1.lt
  have hkl := h.2.lt
  have htl2 := hb.lt
  generalize (cellZ p N (spreadN p N) st).1 = y1 at *
  generalize ((bseN p N st : Nat) : Int) = y2 at *
  generalize ((onE (valR bs) p N st s).1 : Nat) = val at *
  generalize takeE (valR bs) s (bitN p N st) = tk at *
  generalize bitN p N st = bt at *
  have d0 := hb.cell o
  have d1 := hb.cell (o + 1)
  rw [h0] at d0
  rw [h1] at d1
  have B0 := hide hb
  have H0 := hide h0
  have H1 := hide h1
  have HFt := hide hFt
  have HN1 := hide (And.intro htg htk)
  clear h hc hv c1 c2 c3 c4 c5 c6 htl e1 e2 e3 e4 e5 hpw hs hFk hFg hb h0 h1 hG hFt htg htk hgk
  refine veil fun R hR => ?_
  go_enter Tryz.func95, Tryz.ntmps95
  go_upto_region 0 with fail
  go_cut [4, 5] (fun q q5 wx => ∃ K, q = .pointer (some ⟨K, 0, none⟩) ∧ q5 = .int .i64 0 ∧ Blk wx K 217 #[.int .i64 y1, .int .i64 (bt : Nat), .int .i64 y2] ∧ Fresh w wx ∧ w.heap.size ≤ K)
  case first =>
    have hss : ∀ W, Fresh w W → Fresh w W ∧ W.cell? ⟨tb, o, none⟩ = some (.pointer (some ⟨cg, 0, none⟩)) ∧ W.cell? ⟨tb, o + 1, none⟩ = some (.int .i64 (st : Nat)) := fun W f => ⟨f, by rw [f.cells _ _ htl2]; exact d0, by rw [f.cells _ _ htl2]; exact d1⟩
    have HSS := hide hss
    clear hss
    go_region_held3 (fun W => Fresh w W ∧ W.cell? ⟨tb, o, none⟩ = some (.pointer (some ⟨cg, 0, none⟩)) ∧ W.cell? ⟨tb, o + 1, none⟩ = some (.int .i64 (st : Nat)))
      (first | exact HSS.out _ (Upd.refl _ _).drew | exact HSS.out _ ((Upd.refl _ _).drew.alloc _) | exact HSS.out _ fx | exact HSS.out _ (fx.alloc _) | exact HSS.out _ (fx.trans (setThree _ _ _ _ _) (fun b hb e => by omega)))
      (first
        | (go_at_call 153; refine (HCE.out _ (And.left (by assumption))).mono ?_; rintro e w4 ⟨rfl, f4⟩; have fx : Fresh w w4 := Upd.trans' (And.left (by assumption)) f4; have bz : Blk w4 w.heap.size 217 #[.int .i64 0, .int .i64 0, .int .i64 0] := (Blk.new w.drew 217 #[.int .i64 0, .int .i64 0, .int .i64 0]).fresh f4; have z0 := bz.cell 0; have z1 := bz.cell 1; have z2 := bz.cell 2; have y0 := bz.frozen 0; have y1' := bz.frozen 1; have y2' := bz.frozen 2)
        | (go_at_call 153; refine (HCE.out _ (And.left (by assumption))).mono ?_; rintro e w4 ⟨rfl, f4⟩; have fx : Fresh w w4 := Upd.trans' (And.left (by assumption)) f4))
    all_goals go_wp2_with fail
    all_goals go_meet
    all_goals
      first
        | exact ⟨w4.heap.size, rfl, rfl, Blk.new _ _ _, fx.alloc _, fx.size⟩
        | exact ⟨w.heap.size, rfl, rfl, by simpa using ((bz.set_ 0 (.int .i64 y1)).set_ 1 (.int .i64 (bt : Nat))).set_ 2 (.int .i64 y2), fx.trans (setThree _ _ _ _ _) (fun b hb e => by omega), Nat.le_refl _⟩
  case rest =>
    obtain ⟨K, rfl, rfl, bK, fx, hK⟩ := hcut
    have b1 := B0.out.fresh fx
    have d0' : wc.cell? ⟨tb, o, none⟩ = some (.pointer (some ⟨cg, 0, none⟩)) := by rw [fx.cells _ _ htl2]; exact d0
    have d1' : wc.cell? ⟨tb, o + 1, none⟩ = some (.int .i64 (st : Nat)) := by rw [fx.cells _ _ htl2]; exact d1
    have d2' := bK.cell 1
    simp at d2'
    have z1 := b1.frozen (o + 1)
    have B1 := hide b1
    have BK := hide bK
    have FX := hide fx
    have HK := hide (show K ≠ g ∧ K ≠ k ∧ K ≠ tb by omega)
    have HSS : Hid (∀ W, Upd (fun b => b = g ∨ b = k) wc W → W.cell? ⟨tb, o, none⟩ = some (.pointer (some ⟨cg, 0, none⟩)) ∧ W.cell? ⟨tb, o + 1, none⟩ = some (.int .i64 (st : Nat)) ∧ W.cell? ⟨K, 1, none⟩ = some (.int .i64 (bt : Nat)) ∧ W.frozen? ⟨tb, o + 1, none⟩ = false) := fun W u => by
      have b2 := B1.out.upd u (by have := HN1.out; rintro (h | h); exact this.1 h; exact this.2 h)
      have k2 := BK.out.upd u (by have := HK.out; rintro (h | h); exact this.1 h; exact this.2.1 h)
      exact ⟨by rw [b2.cell]; exact H0.out, by rw [b2.cell]; exact H1.out, by simpa using k2.cell 1, b2.frozen _⟩
    clear b1 bK fx hK d0 d1
    go_wp2_with fail
    go_region_with
      (first
        | (go_at_call 93; refine (HTK.out _ (by first | exact FX.out | exact FX.out.drew | exact FX.out.drewN _)).mono ?_; rintro e w4 ⟨rfl, u4, s4⟩; have ux : Upd (fun b => b = g ∨ b = k) wc w4 := (by first | exact u4 | exact Upd.trans' ((Upd.refl _ _).drew) u4 | exact Upd.trans' ((Upd.refl _ _).drewN _) u4); obtain ⟨c1x, c2x, c3x, c4x⟩ := HSS.out _ ux)
        | (go_at_call 154; refine (HNX.out _ (by exact (FX.out.mono (T := fun b => b = g ∨ b = k) fun _ _ h => h.elim).trans' ux)).mono ?_; rintro e w5 ⟨rfl, f5⟩; have uy : Upd (fun b => b = g ∨ b = k) wc w5 := ux.trans f5 (fun _ _ h => h.elim); obtain ⟨c1y, c2y, c3y, c4y⟩ := HSS.out _ uy))
    all_goals
      have u2 : Upd (fun b => b = tb) w5 (w5.setCell ⟨tb, o + 1, none⟩ (.int .i64 (val : Nat))) := (Upd.refl (fun b => b = tb) w5).setCell (p := ⟨tb, o + 1, none⟩) (fun _ => rfl) _
      have u3 : Upd (fun b => b = g ∨ b = k ∨ b = tb) w w5 := (FX.out.mono (T := fun b => b = g ∨ b = k ∨ b = tb) fun _ _ h => h.elim).trans' (uy.mono (T := fun b => b = g ∨ b = k ∨ b = tb) fun _ _ h => by rcases h with h | h; exact .inl h; exact .inr (.inl h))
      have b5 := (B1.out.upd uy (by have := HN1.out; rintro (h | h); exact this.1 h; exact this.2 h)).set_ (o + 1) (.int .i64 (val : Nat))
      have s5 := (s4.fresh f5).upd u2 (Ne.symm HN1.out.1) (Ne.symm HN1.out.2) (fun b hb => HFt.out b hb)
      try go_end0
      first
        | exact hR.out _ _ ⟨rfl, u3.trans u2 (fun b _ h => .inr (.inr h)), s5, b5⟩
        | exact hR.out _ _ ⟨rfl, (u3.trans u2 (fun b _ h => .inr (.inr h))).drew, s5, b5⟩
        | trace_state

end Go.Proofs.YtjfdaphjijfieaaGreat
