/-
  The statements' own helpers: puts, reads, known.
  Conditions: none beyond those of each theorem.
-/
import Derived.Test.YtbnicnindggimaaDescDecode
import Derived.Test.YtbnicnindggimaaDescPut
import Derived.Test.YtbnicnindggimaaSame
namespace Go.Proofs.Ytbnicnindggimaa
open Go.RowKit

theorem packB_lt256 (l : List Bool) : ∀ b ∈ packB l, b < 256 := packB_lt l

set_option maxHeartbeats 1000000 in
theorem puts_any (F G : Nat → Prop) (A B : Option Addr) (n m c d p : Nat) (N : List Int) (ys : List Nat) (w : World) (hr : Rd w F A n (ints N)) (hfit : Fit N) (hn : (n : Int) ≤ 1099511627776)
    (hv : Valid (p : Int) N 256 9) (hp : p ≠ 0) (hy : Rd w G B m (ys.map fun b => .int .u8 (b : Nat))) (hy2 : ∀ b ∈ ys, b < 256) :
    Calls Try.prog 28 #[.agg #[.int .i64 p, .slice A n c], .slice B m d] w fun e w' => e = .returned (.bool (decide (packB (descBits p N) = ys))) ∧ Fresh w w' := by
  have he := encode_ok F A n c p N (w.alloc (.cells #[.int .i64 p, .slice A n c] 24)) (hr.alloc _) hfit hn hv hp
  have HE := hide he
  have HY := hide hy
  clear he hr hv
  refine veil fun R hR => ?_
  go_enter Try.func28, Try.ntmps28
  go_wp2_with fail
  refine HE.out.mono ?_
  rintro e w1 ⟨v, rfl, o1, f1, k1⟩
  obtain ⟨A1, n1, c1, rfl, hn1⟩ := o1.form'
  have hrd1 := (o1.rd rfl).2.2
  rw [← hn1.out] at hrd1
  have F1 := hide (show Fresh w w1 from ((Upd.refl _ w).alloc _).trans' f1)
  have hs := same_any _ _ A1 B n1 m c1 d _ ys w1 hrd1 (HY.out.fresh F1.out) (packB_lt256 _) hy2
  have HS := hide hs
  clear hs o1 f1 k1 hrd1 hn1 HY hy2 HE
  go_wp2_with fail
  refine HS.out.mono ?_
  rintro e w2 ⟨rfl, rfl⟩
  go_wp2_with fail
  try go_ret
  exact hR.out _ _ ⟨rfl, F1.out⟩

theorem Blk.rds {w : World} {g : Nat} {t : TypeId} {cs : Array Value} (h : Blk w g t cs) : Rd w (fun _ => True) (some ⟨g, 0, none⟩) cs.size cs.toList :=
  ⟨by simp, fun _ => ⟨g, 0, rfl, trivial, h.lt, fun j hj => by rw [Nat.zero_add, h.cell]; simp⟩⟩

/-- the error that Decode of the bytes answers -/
def errS (sy lb : Int) (L : List Bool) : Int := match decodeS sy lb L with
  | .error e => e
  | .ok _ => 0

set_option maxHeartbeats 1000000 in
theorem reads_any (F : Nat → Prop) (A : Option Addr) (n c : Nat) (bs : List Nat) (sy lb : Int) (w : World) (hr : Rd w F A n (bs.map fun b => .int .u8 (b : Nat))) (hlt : ∀ b ∈ bs, b < 256) (hlen : bs.length ≤ 2 ^ 32) :
    Calls Try.prog 15 #[.slice A n c, .int .i64 sy, .int .i64 lb] w fun e w' => e = .returned (.int .i64 (errS sy lb (rowB (seenB bs 0)))) ∧ Fresh w w' := by
  have hnw := new_any F A n c bs w hr hlt hlen
  have HN := hide hnw
  have HD := hide (fun g w1 h1 => decode_any (fun k => w.heap.size ≤ k ∧ k ≠ g) g bs 0 sy lb w1 h1 (fun b hb => hb.2))
  clear hnw hr hlt hlen
  refine veil fun R hR => ?_
  go_enter Try.func15, Try.ntmps15
  go_wp2_with fail
  refine HN.out.mono ?_
  rintro e w1 ⟨g, rfl, hg, f1, cu1⟩
  have hd := HD.out g w1 cu1
  have HDD := hide hd
  have F1 := hide f1
  clear hd cu1 f1 HD HN
  go_wp2_with fail
  refine HDD.out.mono ?_
  rintro e w2 ⟨u2, h2⟩
  have F2 := hide (show Fresh w w2 from F1.out.trans u2 (fun b hb h => by omega))
  have h3 : ∃ (a : Int) (b : Option Addr) (c d : Nat), e = .returned (.tuple #[.agg #[.int .i64 a, .slice b c d], .int .i64 (errS sy lb (rowB (seenB bs 0)))]) := by
    unfold errS
    revert h2
    cases decodeS sy lb (rowB (seenB bs 0)) with
    | error x => exact fun h => ⟨0, none, 0, 0, h.1⟩
    | ok x =>
      obtain ⟨a, b, k⟩ := x
      rintro ⟨v, h, o, _⟩
      obtain ⟨A1, n1, c1, rfl, _⟩ := o.form'
      exact ⟨_, _, _, _, h⟩
  obtain ⟨a, b, a1, a2, rfl⟩ := h3
  clear h2 u2 HDD
  generalize errS sy lb (rowB (seenB bs 0)) = x at hR ⊢
  go_wp2_with fail
  try go_ret
  exact hR.out _ _ ⟨rfl, F2.out.alloc _⟩

theorem errS_0f : errS 256 9 (rowB (seenB [15] 0)) = 13 := by decide
theorem errS_nil : errS 256 9 (rowB (seenB [] 0)) = 3 := by decide

set_option maxHeartbeats 2000000 in
theorem known_any (w : World) :
    Calls Try.prog 13 #[] w fun e w' => e = .returned (.bool true) ∧ Fresh w w' := by
  have p1 := hide fun (A B : Option Addr) (W : World) (h : Rd W (fun _ => True) A 2 (ints [1, 1])) (k : Rd W (fun _ => True) B 1 ([224].map fun b : Nat => Value.int .u8 (b : Nat))) =>
    (puts_any (fun _ => True) (fun _ => True) A B 2 1 2 1 1 [1, 1] [224] W h (by intro x hx; simp at hx; omega) (by decide) (by decide) (by decide) k (by decide)).mono fun e w' h => (⟨h.1, h.2⟩ : e = .returned (.bool true) ∧ Fresh W w')
  have p2 := hide fun (A B : Option Addr) (W : World) (h : Rd W (fun _ => True) A 1 (ints [4])) (k : Rd W (fun _ => True) B 1 ([113].map fun b : Nat => Value.int .u8 (b : Nat))) =>
    (puts_any (fun _ => True) (fun _ => True) A B 1 1 1 1 2 [4] [113] W h (by intro x hx; simp at hx; omega) (by decide) (by decide) (by decide) k (by decide)).mono fun e w' h => (⟨h.1, h.2⟩ : e = .returned (.bool true) ∧ Fresh W w')
  have r1 := hide fun (A : Option Addr) (W : World) (k : Rd W (fun _ => True) A 1 ([15].map fun b : Nat => Value.int .u8 (b : Nat))) =>
    (reads_any (fun _ => True) A 1 1 [15] 256 9 W k (by decide) (by decide)).mono fun e w' h => (⟨errS_0f ▸ h.1, h.2⟩ : e = .returned (.int .i64 13) ∧ Fresh W w')
  have r2 := hide fun (W : World) =>
    (reads_any (fun _ => True) none 0 0 [] 256 9 W (Rd.nil _ _ _) (by decide) (by decide)).mono fun e w' h => (⟨errS_nil ▸ h.1, h.2⟩ : e = .returned (.int .i64 3) ∧ Fresh W w')
  refine veil fun R hR => ?_
  go_enter Try.func13, Try.ntmps13
  go_wp2_with fail
  refine (p1.out _ _ _ (((Blk.new w 3 _).alloc _).rds) ((blk_new (by simp) 5 _).rds)).mono ?_
  rintro e w1 ⟨rfl, f1⟩
  have F1 := hide (show Fresh w w1 from (((Upd.refl _ w).alloc _).alloc _).trans' f1)
  clear f1
  go_wp2_with fail
  refine (p2.out _ _ _ (((Blk.new w1 3 _).alloc _).rds) ((blk_new (by simp) 5 _).rds)).mono ?_
  rintro e w2 ⟨rfl, f2⟩
  have F2 := hide (show Fresh w w2 from ((F1.out.alloc _).alloc _).trans' f2)
  clear f2
  go_wp2_with fail
  refine (r1.out _ _ ((Blk.new w2 5 _).rds)).mono ?_
  rintro e w3 ⟨rfl, f3⟩
  have F3 := hide (show Fresh w w3 from (F2.out.alloc _).trans' f3)
  clear f3
  go_wp2_with fail
  refine (r2.out _).mono ?_
  rintro e w4 ⟨rfl, f4⟩
  have F4 := hide (show Fresh w w4 from F3.out.trans' f4)
  clear f4
  go_wp2_with fail
  try go_ret
  exact hR.out _ _ ⟨rfl, F4.out⟩

end Go.Proofs.Ytbnicnindggimaa
