/-
  Package bitout: what its functions do to a writer.
  Conditions: none beyond those of each theorem.
-/
import Derived.Test.YtbnicnindggimaaInfo
import Derived.Test.YtbnicnindggimaaMath
namespace Go.Proofs.Ytbnicnindggimaa
open Go.RowKit

set_option maxHeartbeats 400000 in
theorem hold_add (g : Nat) (v x n k : Nat) (w : World) (hv : w.cell? ⟨g, 0, none⟩ = some (.int .u64 v)) (hn : w.cell? ⟨g, 1, none⟩ = some (.int .i64 n))
    (h1 : n ≤ 7) (h3 : k ≤ 32) (hx : x < 2 ^ k) (hvn : v < 2 ^ n) (f0 : w.frozen? ⟨g, 0, none⟩ = false) (f1 : w.frozen? ⟨g, 1, none⟩ = false) :
    Calls Try.prog 60 #[.pointer (some ⟨g, 0, none⟩), .int .u64 x, .int .i64 k] w fun e w' => e = .returned (.tuple #[]) ∧
      ((w.setCell ⟨g, 0, none⟩ (.int .u64 (v + x * 2 ^ n : Nat))).setCell ⟨g, 1, none⟩ (.int .i64 (n + k : Nat))).drew = w' := by
  have e1 : bits .or .u64 (v : Int) (IntKind.u64.wrap ((x : Int) * 2 ^ n)) = ((v + x * 2 ^ n : Nat) : Int) := by
    have hp : 2 ^ n ≤ 2 ^ 7 := Nat.pow_le_pow_right (by omega) h1
    have hk : 2 ^ k ≤ 2 ^ 32 := Nat.pow_le_pow_right (by omega) h3
    have hxn : x * 2 ^ n < 2 ^ 32 * 2 ^ 7 := Nat.lt_of_lt_of_le (Nat.mul_lt_mul_of_pos_right hx (Nat.two_pow_pos n)) (Nat.mul_le_mul hk hp)
    rw [IntKind.wrap_u64, show ((x : Int) * 2 ^ n) = ((x * 2 ^ n : Nat) : Int) by simp, show ((x * 2 ^ n : Nat) : Int) % 18446744073709551616 = ((x * 2 ^ n : Nat) : Int) by omega]
    rw [u64_or_nat _ _ (by omega) (by omega), Nat.or_comm, nat_join n _ _ (by simp) hvn, Nat.add_comm]
  have E1 := hide e1
  clear e1
  have HX := hide hx
  clear hx hvn
  go_enter Try.func60, Try.ntmps60
  go_wp2
  go_region
  all_goals go_wp2
  all_goals go_end0
  all_goals refine ⟨rfl, ?_⟩
  all_goals rw [E1.out]; rfl

set_option maxHeartbeats 400000 in
theorem hold_whole_no (g : Nat) (n : Nat) (w : World) (hn : w.cell? ⟨g, 1, none⟩ = some (.int .i64 n)) (h : n < 8) :
    Calls Try.prog 61 #[.pointer (some ⟨g, 0, none⟩)] w fun e w' => e = .returned (.tuple #[.int .u8 0, .bool false]) ∧ w = w' := by
  go_enter Try.func61, Try.ntmps61
  go_wp2
  go_ret2
  exact ⟨rfl, rfl⟩

set_option maxHeartbeats 400000 in
theorem hold_whole_yes (g : Nat) (v n : Nat) (w : World) (hv : w.cell? ⟨g, 0, none⟩ = some (.int .u64 v)) (hn : w.cell? ⟨g, 1, none⟩ = some (.int .i64 n)) (h : 8 ≤ n) (h' : n ≤ 100)
    (f0 : w.frozen? ⟨g, 0, none⟩ = false) (f1 : w.frozen? ⟨g, 1, none⟩ = false) :
    Calls Try.prog 61 #[.pointer (some ⟨g, 0, none⟩)] w fun e w' => e = .returned (.tuple #[.int .u8 (v % 256 : Nat), .bool true]) ∧
      (w.setCell ⟨g, 0, none⟩ (.int .u64 (v / 256 : Nat))).setCell ⟨g, 1, none⟩ (.int .i64 (n - 8 : Nat)) = w' := by
  go_enter Try.func61, Try.ntmps61
  go_wp2
  go_ret2
  exact ⟨rfl, by rw [show ((n - 8 : Nat) : Int) = (n : Int) - 8 by omega]; rfl⟩

/-- a writer at block g that holds the bits l; S: the blocks that are its own -/
def WriterAt (w : World) (S : Nat → Prop) (g : Nat) (l : List Bool) : Prop :=
  ∃ (v n : Nat) (sv : Value) (bs : List Nat), Blk w g 87 #[.int .u64 v, .int .i64 n, sv] ∧ Own w 5 sv (bs.map fun b => .int .u8 (b : Nat)) ∧ n < 8 ∧ v < 2 ^ n ∧
    (∀ b ∈ bs, b < 256) ∧ l = rowB bs ++ bitsB n v ∧ S g ∧ ∀ k, sv.ownBlock = some k → S k

theorem WriterAt.drewN {w : World} {S : Nat → Prop} {g : Nat} {l : List Bool} (h : WriterAt w S g l) (k : Nat) : WriterAt (w.drewN k) S g l := h
theorem WriterAt.drew {w : World} {S : Nat → Prop} {g : Nat} {l : List Bool} (h : WriterAt w S g l) : WriterAt w.drew S g l := h

/-- the same while n bits are pending -/
def PendAt (w : World) (S : Nat → Prop) (g : Nat) (l : List Bool) (n : Nat) : Prop :=
  ∃ (v : Nat) (sv : Value) (bs : List Nat), Blk w g 87 #[.int .u64 v, .int .i64 n, sv] ∧ Own w 5 sv (bs.map fun b => .int .u8 (b : Nat)) ∧ v < 2 ^ n ∧
    (∀ b ∈ bs, b < 256) ∧ l = rowB bs ++ bitsB n v ∧ S g ∧ ∀ k, sv.ownBlock = some k → S k

theorem and_mask {x n : Nat} (j gk : Nat) (hgk : gk ≤ 32) (hx : x < 2 ^ n) (hn : n ≤ 32) (_ : j ≤ n) :
    bits .and .u64 ((x : Int) / 2 ^ j) (IntKind.u64.wrap (IntKind.u64.wrap (2 ^ gk) - 1)) = ((x / 2 ^ j % 2 ^ gk : Nat) : Int) := by
  have h1 : 2 ^ gk ≤ 2 ^ 32 := Nat.pow_le_pow_right (by omega) hgk
  have h2 : 2 ^ n ≤ 2 ^ 32 := Nat.pow_le_pow_right (by omega) hn
  have h3 := Nat.two_pow_pos gk
  have e1 : IntKind.u64.wrap (IntKind.u64.wrap (2 ^ gk) - 1) = ((2 ^ gk - 1 : Nat) : Int) := by
    rw [IntKind.wrap_u64, IntKind.wrap_u64, show (2 : Int) ^ gk = ((2 ^ gk : Nat) : Int) by simp]; omega
  have h4 : x / 2 ^ j ≤ x := Nat.div_le_self _ _
  rw [e1, show (x : Int) / 2 ^ j = ((x / 2 ^ j : Nat) : Int) by simp, u64_and_nat _ _ (by omega) (by omega), Nat.and_two_pow_sub_one_eq_mod]

set_option maxRecDepth 100000 in
set_option maxHeartbeats 1000000 in
theorem put_any (S : Nat → Prop) (g : Nat) (x n : Nat) (l : List Bool) (w : World) (hw : WriterAt w S g l) (hn : n ≤ 32) (hx : x < 2 ^ n) (hl : l.length ≤ 2 ^ 30) (hS : ∀ k, w.heap.size ≤ k → S k) :
    Calls Try.prog 47 #[.pointer (some ⟨g, 0, none⟩), .int .u64 x, .int .i64 n] w fun e w' => e = .returned (.int .i64 0) ∧
      Upd S w w' ∧ WriterAt w' S g (l ++ bitsB n x) := by
  have t1 : ((x : Int) / 2 ^ n != 0) = false := by
    have : ((x : Int) / 2 ^ n) = ((x / 2 ^ n : Nat) : Int) := by simp
    rw [this, Nat.div_eq_of_lt hx]; rfl
  have HX := hide hx
  clear hx
  go_enter Try.func47, Try.ntmps47
  go_wp2_with fail
  go_loopg [1, 2] n (fun m v1 v2 wr => ∃ j, j + m = n ∧ v1 = .int .u64 (x / 2 ^ j : Nat) ∧ v2 = .int .i64 m ∧ Upd S w wr ∧ WriterAt wr S g (l ++ bitsB j x))
  case atStart => exact ⟨0, by omega, by simp, rfl, Upd.refl _ _, by simpa [bitsB] using hw⟩
  case round =>
    obtain ⟨j, hj, rfl, rfl, hu, v, n0, sv, bs, hb, ho, hn0, hv0, hbs, hlb, hSg, hSs⟩ := hrel
    have hc0 := hb.cell 0
    have hc1 := hb.cell 1
    have hc2 := hb.cell 2
    have HB := hide hb
    simp at hc0 hc1 hc2
    clear hb
    have hgk : gk ≤ 32 := by omega
    have HJ := hide hj
    have HL := hide hlb
    clear hj hlb
    by_cases hg0 : 0 < gk
    · go_wp2_with fail
      go_still_tail 9, (by kernel_rfl)
      change wpList _ _ _ _ _ wr.drew
      go_wp2_with fail
      rw [and_mask _ _ hgk HX.out hn (by have := HJ.out; omega)]
      refine (hold_add g v (x / 2 ^ j % 2 ^ gk) n0 gk wr.drew hc0 hc1 (by omega) hgk (Nat.mod_lt _ (Nat.two_pow_pos _)) hv0 (by simpa using HB.out.frozen 0) (by simpa using HB.out.frozen 1)).mono ?_
      rintro e w2 ⟨rfl, hw2⟩
      have r0 : PendAt w2 S g (l ++ bitsB (j + gk) x) (n0 + gk) := by
        subst hw2
        refine ⟨_, sv, bs, ((HB.out.drew.set_ 0 _).set_ 1 _).drew, ((ho.drew.far (by simpa using ho.ne_blk HB.out (by decide)) _).far (by simpa using ho.ne_blk HB.out (by decide)) _).drew, ?_, hbs, ?_, hSg, hSs⟩
        · have h1 := Nat.mod_lt (x / 2 ^ j) (Nat.two_pow_pos gk)
          rw [Nat.pow_add]
          calc v + x / 2 ^ j % 2 ^ gk * 2 ^ n0 < 2 ^ n0 + x / 2 ^ j % 2 ^ gk * 2 ^ n0 := by omega
            _ = (x / 2 ^ j % 2 ^ gk + 1) * 2 ^ n0 := by rw [Nat.add_mul]; omega
            _ ≤ 2 ^ gk * 2 ^ n0 := Nat.mul_le_mul_right _ h1
            _ = 2 ^ n0 * 2 ^ gk := Nat.mul_comm _ _
        · rw [bitsB_add j gk x, ← List.append_assoc, HL.out, List.append_assoc, ← bitsB_mod gk, bitsB_append hv0, Nat.mul_comm (2 ^ n0)]
      have u0 : Upd S w w2 := by
        subst hw2
        exact ((hu.drew.setCell (fun _ => hSg) _).setCell (fun _ => hSg) _).drew
      clear hw2 ho hc0 hc1 hc2 HB hu HL hv0 hSs hbs bs sv
      obtain ⟨k0, rfl⟩ : ∃ k0, k0 = gk := ⟨gk, rfl⟩
      obtain ⟨wo, rfl⟩ : ∃ wo : World, wo = wr := ⟨_, rfl⟩
      go_wp2_with fail
      have hlen : (l ++ bitsB (j + k0) x).length ≤ 2 ^ 31 := by have := HJ.out; simp; omega
      go_loopg [] (n0 + k0) (fun m wr => Upd S w wr ∧ PendAt wr S g (l ++ bitsB (j + k0) x) m ∧ m ≤ 39)
      case atStart => exact ⟨u0, r0, by omega⟩
      case round =>
        obtain ⟨hu, ⟨v, sv, bs, hb, ho, hv0, hbs, hlb, hSg, hSs⟩, hm⟩ := hrel
        have hc0 := hb.cell 0
        have hc1 := hb.cell 1
        have hc2 := hb.cell 2
        have HB := hide hb
        simp at hc0 hc1 hc2
        clear hb
        have HL := hide hlb
        clear hlb
        by_cases hm8 : gk < 8
        · go_wp2_with (go_at_call 61; refine (hold_whole_no g gk wr hc1 hm8).mono ?_; rintro e w' ⟨rfl, rfl⟩)
          go_roundg 0
          case measure => omega
          case rel => exact ⟨j + k0, by have := HJ.out; omega, by simp [Nat.pow_add, ← Nat.div_div_eq_div_mul], by simp, hu, v, gk, sv, bs, HB.out, ho, hm8, hv0, hbs, HL.out, hSg, hSs⟩
        · go_wp2_with fail
          refine (hold_whole_yes g v gk wr hc0 hc1 (by omega) (by omega) (HB.out.frozen 0) (HB.out.frozen 1)).mono ?_
          rintro e w3 ⟨rfl, hw3⟩
          have b3 : Blk w3 g 87 #[.int .u64 (v / 256 : Nat), .int .i64 (gk - 8 : Nat), sv] := by
            subst hw3; exact (HB.out.set_ 0 _).set_ 1 _
          have o3 : Own w3 5 sv (bs.map fun b => .int .u8 (b : Nat)) := by
            subst hw3; exact (ho.far (by simpa using ho.ne_blk HB.out (by decide)) _).far (by simpa using ho.ne_blk HB.out (by decide)) _
          have u3 : Upd S w w3 := by
            subst hw3; exact (hu.setCell (fun _ => hSg) _).setCell (fun _ => hSg) _
          clear hw3 ho hu hc0 hc1 hc2 HB
          have hc2 := b3.cell 2
          have hf2 := b3.frozen 2
          have B3 := hide b3
          simp at hc2
          clear b3
          have hrd : Rd (w3.alloc (.cells #[.int .u8 ((v : Int) % 256)] 5)) (fun b => b = w3.heap.size) (some ⟨w3.heap.size, 0, none⟩) 1 [.int .u8 ((v : Int) % 256)] :=
            Rd.one _ _ _
          go_wp2_with (at_builtin; go_must (refine wpList_app _ rfl (.tmp 57) (.tmp 59) _ rfl 5 _ 1 Try.underlying27 infoU8 rfl sv _ rfl (o3.alloc _) _ 1 _ _ rfl hrd (by simp [Value.oneCell']) (by omega) ?hlen ?_))
          case hlen => have := HL.out; have h1 := congrArg List.length this; simp at h1 hlen ⊢; omega
          intro v' w4 o4 hg4 hat4
          obtain ⟨A4, n4, c4, rfl, _⟩ := o4.form'
          have b4 := (B3.out.alloc (.cells #[.int .u8 ((v : Int) % 256)] 5)).grown hg4 (o3.ne_blk B3.out (by decide))
          have u4 : Upd S w w4 := (u3.alloc _).grown hg4 fun k hk _ => hSs k hk
          have S4 : ∀ k, (Value.slice A4 n4 c4).ownBlock = some k → S k := by
            intro k hk
            rcases hat4 with e | e
            · exact hSs k (e ▸ hk)
            · rw [e] at hk
              injection hk with hk
              subst hk
              exact hS _ (by have := u3.size; simp; omega)
          have hc2 := b4.cell 2
          have hf2 := b4.frozen 2
          have B4 := hide b4
          simp at hc2
          have HS4 := hide S4
          have HO4 := hide o4
          clear b4 B3 o3 u3 hrd hg4 hat4 S4 o4
          go_wp2
          go_roundg (gk - 8)
          case measure => omega
          case rel =>
            refine ⟨u4.setCell (fun _ => hSg) _, ⟨v / 256, _, bs ++ [v % 256], (B4.out.set_ 2 _), ?_, ?_, ?_, ?_, hSg, HS4.out⟩, by omega⟩
            · have := HO4.out.far (p := ⟨g, 2, none⟩) (HO4.out.ne_blk B4.out (by decide)) (.slice A4 n4 c4)
              simpa using this
            · rw [Nat.div_lt_iff_lt_mul (by omega), show 256 = 2 ^ 8 from rfl, ← Nat.pow_add, show gk - 8 + 8 = gk by omega]; exact hv0
            · intro b hb
              rcases List.mem_append.1 hb with h | h
              · exact hbs b h
              · simp at h; omega
            · rw [HL.out, rowB_append, List.append_assoc]
              congr 1
              have := bitsB_add 8 (gk - 8) v
              rw [show 8 + (gk - 8) = gk by omega] at this
              rw [this, show bitsB 8 v = rowB [v % 256] by rw [rowB_cons, rowB_nil, List.append_nil]; exact (bitsB_mod 8 v).symm]
    · go_wp2
      go_ret
      obtain rfl : gk = 0 := by omega
      obtain rfl : j = n := by have := HJ.out; omega
      exact ⟨rfl, hu, v, n0, sv, bs, HB.out, ho, hn0, hv0, hbs, HL.out, hSg, hSs⟩


set_option maxRecDepth 100000 in
set_option maxHeartbeats 1000000 in
theorem clone_bytes {F : Nat → Prop} (A : Option Addr) (n c : Nat) (xs : List Value) (w : World) (hr : Rd w F A n xs) (h1 : ∀ u ∈ xs, u.oneCell' = true) (hn : n ≤ 2 ^ 40) :
    Calls Try.prog 40 #[.slice A n c] w fun e w' => ∃ v, e = .returned v ∧ Own w' 5 v xs ∧ Fresh w w' ∧ ∀ k, v.ownBlock = some k → w.heap.size ≤ k := by
  have q : ∀ (w : World) (a : Option Addr) (n c n' c' : Nat), (binOp .eql 27 (.slice a n c) (.slice none n' c')).run Try.prog w = .ok (.bool a.isNone) w :=
    fun w a n c n' c' => Lib.run_eql_slice_nil w _ _ a n c n' c' Try.underlying27
  rcases A with _ | ad
  · have hx : n = 0 := by
      rcases Nat.eq_zero_or_pos n with h | h
      · exact h
      · obtain ⟨_, _, h, _⟩ := hr.2 h
        cases h
    subst hx
    have hxs : xs = [] := List.eq_nil_of_length_eq_zero hr.1
    subst hxs
    go_enter Try.func40, Try.ntmps40
    go_wp2
    go_ret
    exact ⟨_, rfl, Own.nil _ _, Upd.refl _ _, by simp [Value.ownBlock]⟩
  · have o0 : Own (w.alloc (.cells #[] 5)) 5 (.slice (some ⟨w.heap.size, 0, none⟩) 0 0) [] := World.ownsRow_made w #[] 0 (Nat.zero_le _) (by simp [maxLen]) (by simp)
    have hlen : n ≤ 1099511627776 := hn
    clear hn
    go_enter Try.func40, Try.ntmps40
    go_wp2_with (at_builtin; go_must (refine wpList_app _ rfl (.tmp 5) (.tmp 6) _ rfl 5 _ 1 Try.underlying27 infoU8 rfl _ [] rfl o0 _ n _ _ rfl (hr.alloc _) h1 (by omega) (by simpa using hlen) ?_))
    intro v' w1 o1 g1 a1
    go_wp2
    go_ret
    exact ⟨v', rfl, by simpa using o1, ((Upd.refl _ _).alloc _).grown g1 (fun k hk hlt => by simp [Value.ownBlock] at hk; omega), own_S (S := fun k => w.heap.size ≤ k) a1 (fun k hk => by simp [Value.ownBlock] at hk; omega) (by simp)⟩

set_option maxRecDepth 100000 in
set_option maxHeartbeats 1000000 in
theorem len_any (S : Nat → Prop) (g : Nat) (l : List Bool) (w : World) (hw : WriterAt w S g l) (hl : l.length ≤ 2 ^ 40) :
    Calls Try.prog 45 #[.pointer (some ⟨g, 0, none⟩)] w fun e w' => e = .returned (.int .i64 l.length) ∧ Fresh w w' := by
  obtain ⟨v, n0, sv, bs, hb, ho, hn0, hv0, hbs, hlb, hSg, hSs⟩ := hw
  have hc0 := hb.cell 0
  have hc1 := hb.cell 1
  have hc2 := hb.cell 2
  simp at hc0 hc1 hc2
  obtain ⟨A, n, c, rfl, hn⟩ := ho.form'
  have e1 : (8 * n : Int) + n0 = l.length := by
    have := hn.out
    have h2 := congrArg List.length hlb
    simp at this h2
    omega
  have hn2 : n ≤ 2 ^ 40 := by omega
  simp at hn2
  have E1 := hide e1
  clear e1 hlb hn hb
  go_enter Try.func45, Try.ntmps45
  go_wp2
  go_quiet (fail)
  go_wp2
  go_ret
  exact ⟨ret_int E1.out, (Upd.refl _ _).drewN _⟩


set_option maxRecDepth 100000 in
set_option maxHeartbeats 1000000 in
theorem bytes_any (S : Nat → Prop) (g : Nat) (l : List Bool) (w : World) (hw : WriterAt w S g l) (hl : l.length ≤ 2 ^ 40) :
    Calls Try.prog 30 #[.pointer (some ⟨g, 0, none⟩)] w fun e w' => ∃ v, e = .returned v ∧ Own w' 5 v ((packB l).map fun b => .int .u8 (b : Nat)) ∧ Fresh w w' ∧
      ∀ k, v.ownBlock = some k → w.heap.size ≤ k := by
  obtain ⟨v, n0, sv, bs, hb, ho, hn0, hv0, hbs, hlb, hSg, hSs⟩ := hw
  have e1 : packB l = bs ++ packB (bitsB n0 v) := by rw [hlb, packB_rowB _ _ hbs]
  have hlen : bs.length ≤ 2 ^ 38 := by have h2 := congrArg List.length hlb; simp at h2; omega
  have E1 := hide e1
  clear e1 hlb hl
  have hc0 := hb.cell 0
  have hc1 := hb.cell 1
  have hc2 := hb.cell 2
  have HB := hide hb
  clear hb
  simp at hc0 hc1 hc2
  obtain ⟨A, c, rfl, hn, hr⟩ := ho.form
  have HL := hide hlen
  clear hlen
  simp only [List.length_map] at hc2 hr hn
  go_enter Try.func30, Try.ntmps30
  go_wp2_with fail
  refine (clone_bytes A _ c _ w hr (by simp [Value.oneCell']) (by have := HL.out; omega)).mono ?_
  rintro e w1 ⟨v1, rfl, o1, f1, k1⟩
  have hc0 := (HB.out.fresh f1).cell 0
  have hc1 := (HB.out.fresh f1).cell 1
  simp at hc0 hc1
  by_cases h0 : 0 < n0
  · have hrd : Rd (w1.alloc (.cells #[.int .u8 ((v : Int) % 256)] 5)) (fun b => b = w1.heap.size) (some ⟨w1.heap.size, 0, none⟩) 1 [.int .u8 ((v : Int) % 256)] := Rd.one _ _ _
    go_wp2_with (at_builtin; go_must (refine wpList_app _ rfl (.tmp 17) (.tmp 24) _ rfl 5 _ 1 Try.underlying27 infoU8 rfl v1 _ rfl (o1.alloc _) _ 1 _ _ rfl hrd (by simp [Value.oneCell']) (by omega) (by have := HL.out; simp; omega) ?_))
    intro v' w2 o2 g2 a2
    go_wp2
    go_ret
    refine ⟨v', rfl, ?_, (f1.alloc _).grown g2 (fun k hk hlt => by have := k1 k hk; omega), own_S (S := fun k => w.heap.size ≤ k) a2 k1 (by have := f1.size; simp; omega)⟩
    rw [E1.out, packB_short _ (by simpa using h0) (by simp; omega), valB_bitsB, Nat.mod_eq_of_lt hv0]
    have : v < 2 ^ 8 := Nat.lt_of_lt_of_le hv0 (Nat.pow_le_pow_right (by omega) (by omega))
    rw [show ((v : Int) % 256) = (v : Int) by omega] at o2
    simpa using o2
  · go_wp2
    go_ret
    obtain rfl : n0 = 0 := by omega
    exact ⟨v1, rfl, by rw [E1.out]; simpa [bitsB, packB_nil] using o1, f1, k1⟩

end Go.Proofs.Ytbnicnindggimaa
