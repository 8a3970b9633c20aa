/-
  ModesBack: the law's function answers true.
  Conditions: none beyond those of each theorem.
-/
import Derived.Test.YtcdbfddoanigbaaJ20
import Derived.Test.YtcdbfddoanigbaaJ4
namespace Go.Proofs.Ytcdbfddoanigbaa
open Go.RowKit
set_option linter.unusedVariables false
set_option linter.unusedSimpArgs false

set_option maxRecDepth 100000 in
set_option maxHeartbeats 4000000 in
theorem back24_any (F G : Nat → Prop) (A B : Option Addr) (n c k d : Nat) (m p lg : Int) (N : List Int) (bs : List Nat) (w : World) (hr : Rd w F A n (ints N)) (hfit : Fit N) (hs : Rd w G B k (bytes bs)) (hlt : ∀ b ∈ bs, b < 256) :
    Calls Try.prog 8 #[.int .i64 m, .int .i64 p, .agg #[.int .i64 lg, .slice A n c], .slice B k d] w fun e w' => e = .returned (.bool true) ∧ Fresh w w' := by
  have hkn := hide known24_any
  have hk : bs.length = k := by have := hs.1; simpa using this
  have hN : N.length = n := by have := hr.1; simpa using this
  obtain ⟨w0, hw0⟩ : ∃ w0, w0 = w.alloc (.cells #[.int .i64 lg, .slice A n c] 26) := ⟨_, rfl⟩
  obtain ⟨H, hH⟩ : ∃ H, H = w.heap.size := ⟨_, rfl⟩
  have f0 : Fresh w w0 := by rw [hw0]; exact (Upd.refl _ _).alloc _
  have bt : Blk w0 H 26 #[.int .i64 lg, .slice A n c] := by rw [hw0]; exact blk_new hH _ _
  have t0 := bt.cell 0
  have t1 := bt.cell 1
  simp at t0 t1
  have HR := hide (fun W (h : Fresh w W) => hr.fresh h)
  have HS := hide (fun W (h : Fresh w W) => hs.fresh h)
  have HF := hide hfit
  have HLT := hide hlt
  have HM := hide hk
  have HN := hide hN
  have BT := hide bt
  have F0 := hide f0
  have HW := hide hw0
  have HH := hide hH
  clear hr hs hfit hlt f0 hw0 hH bt hk hN
  refine veil fun R hR => ?_
  by_cases h1 : 300 < n
  · have h1' : (300 : Int) < n := by omega
    go_enter Try.func8, Try.ntmps8
    go_upto_region 1 with fail
    simp only [← HH.out, ← HW.out]
    go_wp2_with fail
    refine (hkn.out _).mono ?_
    rintro e w1 ⟨rfl, f1⟩
    have F1 := hide (F0.out.trans' f1)
    clear f1
    go_wp2_with fail
    try go_ret
    exact hR.out _ _ ⟨rfl, F1.out⟩
  have h1' : ¬ (300 : Int) < n := by omega
  by_cases h2 : 100 < k
  · have h2' : (100 : Int) < k := by omega
    go_enter Try.func8, Try.ntmps8
    go_upto_region 1 with fail
    simp only [← HH.out, ← HW.out]
    go_wp2_with fail
    refine (hkn.out _).mono ?_
    rintro e w1 ⟨rfl, f1⟩
    have F1 := hide (F0.out.trans' f1)
    clear f1
    go_wp2_with fail
    try go_ret
    exact hR.out _ _ ⟨rfl, F1.out⟩
  have h2' : ¬ (100 : Int) < k := by omega
  have h1q : (n : Int) ≤ 1099511627776 := by omega
  have HE := hide (menc_any F A n c m p lg N w0 (HR.out _ F0.out) HF.out h1q)
  have HBK := hide (fun (h : (encN m p lg N).1 = 0) => modes_back h bs (by rw [HM.out]; omega))
  have HEB := hide (encN_byte (m := m) (p := p) (lg := lg) (N := N))
  have HEL := hide (fun (h : (encN m p lg N).1 = 0) => encN_len m p lg N ⟨(encN_ok h).2.2.1, (encN_ok h).2.2.2.1⟩)
  have HDE := hide (fun (F' : Nat → Prop) g l W (hc : CurAt W F' g l 0) (hF : ∀ b, F' b → b ≠ g) (hw : Fresh w W) => mdec_any F' F g l 0 A n c m p lg N W hc hF (HR.out W hw) HF.out h1q)
  obtain ⟨E, hE⟩ : ∃ E, E = encN m p lg N := ⟨_, rfl⟩
  simp only [← hE] at HE HBK HEB HEL
  clear hE
  obtain ⟨E1, EB⟩ := E
  simp only at HE HBK HEB HEL
  clear h1 h2
  go_enter Try.func8, Try.ntmps8
  go_upto_region 1 with fail
  simp only [← HH.out, ← HW.out]
  go_wp2_with fail
  refine HE.out.mono ?_
  rintro e w1 ⟨v, rfl, hnb⟩
  obtain ⟨Av, nv, cv, rfl, hnv⟩ := hnb.1.form'
  have hnv2 : nv = EB.length := by rw [hnv.out]; simp [bytes]
  have hrd2 := (hnb.1.rd rfl).2.2
  rw [← hnv.out] at hrd2
  have RD2 := hide hrd2
  have HNV := hide hnv2
  have f1 := hnb.2.1
  have F1 := hide (F0.out.trans' f1)
  have b1 := BT.out.fresh f1
  have t0 := b1.cell 0
  have t1 := b1.cell 1
  simp at t0 t1
  have B1 := hide b1
  clear hnb hnv hnv2 f1 b1 HE BT hrd2
  by_cases hE : E1 = 0
  · subst hE
    have HBK2 := hide (HBK.out rfl)
    have hel := HEL.out rfl
    rw [← HNV.out] at hel
    have hlen1 : (0 : Nat) + nv ≤ 2 ^ 40 := by omega
    have HL1 := hide hlen1
    have helI : (nv : Int) ≤ 1000 := by omega
    clear hlen1 HBK HEL hel
    go_wp2_with (at_builtin; go_must (refine wpList_app _ rfl (.const (.slice none 0 0)) (.tmp 34) _ rfl 5 _ 1 Try.underlying28 infoU8 rfl (.slice none 0 0) [] rfl (Own.nil _ _) _ nv _ _ rfl RD2.out (bytes_one EB) (by omega) HL1.out ?_))
    intro v3 w3 o3 g3 a3
    have f23 : Fresh w1 w3 := (Upd.refl _ _).grown g3 (fun k hk => by simp [Value.ownBlock] at hk)
    have k3 : ∀ k, v3.ownBlock = some k → w1.heap.size ≤ k := own_S (S := fun k => w1.heap.size ≤ k) a3 (fun k hk => by simp [Value.ownBlock] at hk) (Nat.le_refl _)
    have hlen2 : (bytes EB).length + k ≤ 2 ^ 40 := by have := HNV.out; simp; omega
    have HL2 := hide hlen2
    have O3 := hide o3
    have K3 := hide k3
    have F23 := hide f23
    have RB3 := hide (HS.out _ (F1.out.trans' f23))
    clear o3 g3 a3 f23 k3 hlen2
    go_wp2_with (at_builtin; go_must (refine wpList_app _ rfl (.tmp 35) (.tmp 36) _ rfl 5 _ 1 Try.underlying28 infoU8 rfl v3 (bytes EB) rfl O3.out _ k _ _ rfl RB3.out (bytes_one bs) (by omega) HL2.out ?_))
    intro v4 w4 o4 g4 a4
    have f24 : Fresh w1 w4 := F23.out.trans (T := fun k => v3.ownBlock = some k) ((Upd.refl _ _).grown g4 (fun k hk _ => hk)) (fun b hb h => by have := K3.out b h; omega)
    rw [show bytes EB ++ bytes bs = bytes (EB ++ bs) by simp [bytes]] at o4
    obtain ⟨A4, n4, c4, rfl, hn4⟩ := o4.form'
    have hrd4 := (o4.rd rfl).2.2
    rw [← hn4.out] at hrd4
    have b4 := B1.out.fresh f24
    have t0 := b4.cell 0
    have t1 := b4.cell 1
    simp at t0 t1
    have B4 := hide b4
    have F4 := hide (F1.out.trans' f24)
    have hlt4 : ∀ b ∈ EB ++ bs, b < 256 := by
      intro b hb
      rcases List.mem_append.1 hb with hb | hb
      · exact HEB.out b hb
      · exact HLT.out b hb
    have hl4 : (EB ++ bs).length ≤ 2000 := by have := HM.out; have := HNV.out; simp; omega
    have HNW := hide (new_any _ A4 n4 c4 (EB ++ bs) w4 hrd4 hlt4 (by omega))
    clear o4 g4 a4 hn4 hrd4 b4 hlt4 hl4 f24 O3 K3 F23 RB3 HL2 HL1 RD2
    go_wp2_with fail
    refine HNW.out.mono ?_
    rintro e w5 ⟨g, rfl, hg, f5, cu5⟩
    have F5 := hide (F4.out.trans' f5)
    have hd := HDE.out _ g _ w5 cu5 (fun b hb => hb.2) F5.out
    rw [HBK2.out] at hd
    have HDD := hide hd
    have b5 := B4.out.fresh f5
    have t0 := b5.cell 0
    have t1 := b5.cell 1
    simp at t0 t1
    have B5 := hide b5
    have hgH : H < g := by have := B4.out.lt; omega
    have hgw : w.heap.size ≤ g := by have := HH.out; omega
    clear hd cu5 f5 HDE HNW b5
    go_wp2_with fail
    refine HDD.out.mono ?_
    rintro e w6 ⟨u6, cu6, A6, n6, c6, rfl, r6⟩
    have b6 := B5.out.upd u6 (by omega)
    have F6 := hide (F5.out.trans u6 (fun b hb h => by omega))
    have hn6 : n6 = n := by have h1 := r6.1; have h2 := HN.out; simp at h1; omega
    subst hn6
    obtain ⟨K6, hK6⟩ : ∃ K6, K6 = w6.heap.size := ⟨_, rfl⟩
    obtain ⟨w7, hw7⟩ : ∃ w7, w7 = w6.alloc (.cells #[.int .i64 lg, .slice A6 n6 c6] 26) := ⟨_, rfl⟩
    have f7 : Fresh w6 w7 := by rw [hw7]; exact (Upd.refl _ _).alloc _
    have b7 : Blk w7 K6 26 #[.int .i64 lg, .slice A6 n6 c6] := by rw [hw7]; exact blk_new hK6 _ _
    have c7 := b6.fresh f7
    have t0 := c7.cell 0
    have t1 := c7.cell 1
    have s0 := b7.cell 0
    have s1 := b7.cell 1
    simp at t0 t1 s0 s1
    have F7 := hide (F6.out.trans' f7)
    have hsm := same07_any F _ A A6 n6 n6 c c6 lg lg N N w7 (HR.out _ F7.out) (r6.fresh f7) (by omega) (by omega)
    rw [decide_eq_true ⟨rfl, rfl⟩] at hsm
    have HSM := hide hsm
    have CU7 := hide ((cu6.both).fresh f7)
    have HW7 := hide hw7
    have HK6 := hide hK6
    clear u6 cu6 r6 b6 hw7 hK6 f7 b7 c7 hsm HDD
    go_upto_region 8 with fail
    simp only [← HW7.out, ← HK6.out]
    go_wp2_with fail
    refine HSM.out.mono ?_
    rintro e w8 ⟨rfl, f8⟩
    have CU8 := hide (CU7.out.fresh f8)
    have F8 := hide (F7.out.trans' f8)
    have hat := cat_any _ g _ _ w8 CU8.out
    rw [Nat.zero_add, ← HNV.out] at hat
    have HAT := hide hat
    clear f8 hat
    go_wp2_with fail
    refine HAT.out.mono ?_
    rintro e w9 ⟨rfl, rfl⟩
    go_wp2_with fail
    refine (hkn.out _).mono ?_
    rintro e w10 ⟨rfl, f10⟩
    have F10 := hide (F8.out.trans' f10)
    clear f10
    go_wp2_with fail
    try go_ret
    exact hR.out _ _ ⟨rfl, F10.out⟩
  · have hEb : (E1 != 0) = true := by simpa using hE
    go_wp2_with fail
    refine (hkn.out _).mono ?_
    rintro e w2 ⟨rfl, f2⟩
    have F2 := hide (F1.out.trans' f2)
    clear f2
    go_wp2_with fail
    try go_ret
    exact hR.out _ _ ⟨rfl, F2.out⟩

end Go.Proofs.Ytcdbfddoanigbaa
