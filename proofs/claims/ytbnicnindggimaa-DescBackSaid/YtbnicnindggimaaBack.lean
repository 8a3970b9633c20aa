/-
  DescBack: the law's function answers true.
  Conditions: none beyond those of each theorem.
-/
import Derived.Test.YtbnicnindggimaaOnce
import Derived.Test.YtbnicnindggimaaDescNo
namespace Go.Proofs.Ytbnicnindggimaa
open Go.RowKit

set_option maxRecDepth 100000 in
set_option maxHeartbeats 4000000 in
theorem back_any (F G : Nat → Prop) (A B : Option Addr) (n m c d : Nat) (lg : Int) (N : List Int) (bs : List Nat) (sy lb : Int) (w : World) (hr : Rd w F A n (ints N)) (hfit : Fit N)
    (hs : Rd w G B m (bytes bs)) (hlt : ∀ b ∈ bs, b < 256) :
    Calls Try.prog 7 #[.agg #[.int .i64 lg, .slice A n c], .slice B m d, .int .i64 sy, .int .i64 lb] w fun e w' => e = .returned (.bool true) ∧ Fresh w w' := by
  have hkn := hide known_any
  have hm : bs.length = m := by have := hs.1; simpa using this
  obtain ⟨w0, hw0⟩ : ∃ w0, w0 = w.alloc (.cells #[.int .i64 lg, .slice A n c] 24) := ⟨_, rfl⟩
  obtain ⟨H, hH⟩ : ∃ H, H = w.heap.size := ⟨_, rfl⟩
  have fr0 : Fresh w w0 := by rw [hw0]; exact (Upd.refl _ _).alloc _
  have B0 := hide (show Blk w0 H 24 #[.int .i64 lg, .slice A n c] by rw [hw0]; exact blk_new hH _ _)
  have HR := hide (hr.fresh fr0)
  have HS := hide (hs.fresh fr0)
  have HF := hide hfit
  have HLT := hide hlt
  have HM := hide hm
  have F0 := hide fr0
  have HW := hide hw0
  have HH := hide hH
  clear hr hs hfit hlt hm fr0 hw0 hH
  refine veil fun R hR => ?_
  by_cases h1 : 300 < n
  · have h1' : (300 : Int) < n := by omega
    go_enter Try.func7, Try.ntmps7
    go_wp2_with fail
    rw [← HW.out]
    refine (hkn.out _).mono ?_
    rintro e w1 ⟨rfl, f1⟩
    have F1 := hide (F0.out.trans' f1)
    clear f1
    go_wp2_with fail
    try go_ret
    exact hR.out _ _ ⟨rfl, F1.out⟩
  have h1' : (n : Int) ≤ 300 := by omega
  by_cases h2 : 300 < m
  · have h2' : (300 : Int) < m := by omega
    go_enter Try.func7, Try.ntmps7
    go_wp2_with fail
    rw [← HW.out]
    refine (hkn.out _).mono ?_
    rintro e w1 ⟨rfl, f1⟩
    have F1 := hide (F0.out.trans' f1)
    clear f1
    go_wp2_with fail
    try go_ret
    exact hR.out _ _ ⟨rfl, F1.out⟩
  have h2' : (m : Int) ≤ 300 := by omega
  have hmay := may11_any F A n c lg N w0 HR.out HF.out (by omega)
  by_cases hv : Has lg N
  · rw [decide_eq_true hv] at hmay
    have HM1 := hide hmay
    have HV := hide hv
    clear hmay hv
    go_enter Try.func7, Try.ntmps7
    go_wp2_with fail
    rw [← HW.out, ← HH.out]
    refine HM1.out.mono ?_
    rintro e w1 ⟨rfl, f1⟩
    have b1 := B0.out.fresh f1
    have c0 := b1.cell 0
    have c1 := b1.cell 1
    simp at c0 c1
    have F1 := hide f1
    have B1 := hide b1
    obtain ⟨p, hp⟩ : ∃ p : Nat, lg = p := ⟨lg.toNat, by have := HV.out.1.1; omega⟩
    subst hp
    have hpz : p ≠ 0 := by have := HV.out.2; omega
    have hen := encode_ok F A n c p N w1 (HR.out.fresh f1) HF.out (by omega) HV.out.1 hpz
    have HP := hide hpz
    have HE := hide hen
    have hle := desc_bytes_le HV.out.1
    clear hen b1 f1 HM1 hpz
    go_wp2_with fail
    refine HE.out.mono ?_
    rintro e w2 ⟨v2, rfl, o2, f2, k2⟩
    obtain ⟨D, hD⟩ : ∃ D, D = packB (descBits p N) := ⟨_, rfl⟩
    rw [← hD] at o2 hle
    obtain ⟨A2, n2, c2, rfl, hn2⟩ := o2.form'
    have hrd2 := (o2.rd rfl).2.2
    rw [← hn2.out] at hrd2
    have hn2' : n2 = D.length := by have := hn2.out; simpa using this
    have hn2q : n2 ≤ 400 := by omega
    have hn2I : (n2 : Int) ≤ 400 := by omega
    have RD2 := hide hrd2
    have HN2 := hide hn2'
    have HD := hide hD
    have F2 := hide (F1.out.trans' f2)
    have b2 := B1.out.fresh f2
    have B2 := hide b2
    clear hn2 hrd2 hn2' o2 f2 k2 hle HE b2 c0 c1 hD
    have hlen1 : (0 : Nat) + n2 ≤ 2 ^ 40 := by omega
    have HL1 := hide hlen1
    clear hlen1
    go_wp2_with (at_builtin; go_must (refine wpList_app _ rfl (.const (.slice none 0 0)) (.tmp 36) _ rfl 5 _ 1 Try.underlying27 infoU8 rfl (.slice none 0 0) [] rfl (Own.nil _ _) _ n2 _ _ rfl RD2.out (bytes_one D) (by omega) HL1.out ?_))
    intro v3 w3 o3 g3 a3
    have f23 : Fresh w2 w3 := (Upd.refl _ _).grown g3 (fun k hk => by simp [Value.ownBlock] at hk)
    have k3 : ∀ k, v3.ownBlock = some k → w2.heap.size ≤ k := own_S (S := fun k => w2.heap.size ≤ k) a3 (fun k hk => by simp [Value.ownBlock] at hk) (Nat.le_refl _)
    have hlen2 : (bytes D).length + m ≤ 2 ^ 40 := by have := HN2.out; simp; omega
    have HL2 := hide hlen2
    have O3 := hide o3
    have K3 := hide k3
    have F23 := hide f23
    have RB3 := hide (HS.out.fresh (F2.out.trans' f23))
    clear o3 g3 a3 f23 k3 hlen2
    go_wp2_with (at_builtin; go_must (refine wpList_app _ rfl (.tmp 37) (.tmp 38) _ rfl 5 _ 1 Try.underlying27 infoU8 rfl v3 (bytes D) rfl O3.out _ m _ _ rfl RB3.out (bytes_one bs) (by omega) HL2.out ?_))
    intro v4 w4 o4 g4 a4
    have f24 : Fresh w2 w4 := F23.out.trans (T := fun k => v3.ownBlock = some k) ((Upd.refl _ _).grown g4 (fun k hk _ => hk)) (fun b hb h => by have := K3.out b h; omega)
    rw [show bytes D ++ bytes bs = bytes (D ++ bs) by simp [bytes]] at o4
    obtain ⟨A4, n4, c4, rfl, hn4⟩ := o4.form'
    have hrd4 := (o4.rd rfl).2.2
    rw [← hn4.out] at hrd4
    have hn4' : n4 = D.length + m := by have := hn4.out; have := HM.out; simp at *; omega
    have b4 := B2.out.fresh f24
    have B4 := hide b4
    have F4 := hide (F2.out.trans' f24)
    have RD2' := hide (RD2.out.fresh f24)
    have hlt4 : ∀ b ∈ D ++ bs, b < 256 := by
      intro b hb
      rcases List.mem_append.1 hb with hb | hb
      · rw [HD.out] at hb; exact packB_lt _ b hb
      · exact HLT.out b hb
    have hl4 : (D ++ bs).length ≤ 700 := by have := HM.out; have := HN2.out; simp; omega
    have hnw := new_any _ A4 n4 c4 (D ++ bs) w4 hrd4 hlt4 (by omega)
    have HNW := hide hnw
    have HSB := hide (seenB_short (bs := D ++ bs) (by omega))
    have HDE := hide (fun g w1 h1 => decode_any (fun k => w4.heap.size ≤ k ∧ k ≠ g) g (D ++ bs) 0 sy lb w1 h1 (fun b hb => hb.2))
    clear o4 g4 a4 hn4 hrd4 hn4' b4 hnw hlt4 hl4 f24 O3 K3 F23 RB3 HL2 HL1
    go_wp2_with fail
    refine HNW.out.mono ?_
    rintro e w5 ⟨g, rfl, hg, f5, cu5⟩
    have hd := HDE.out g w5 cu5
    have HDD := hide hd
    have F5 := hide (F4.out.trans' f5)
    have B5 := hide (B4.out.fresh f5)
    have RD5 := hide (RD2'.out.fresh f5)
    have f45 := hide f5
    have hgH : H < w4.heap.size := B4.out.lt
    clear hd cu5 f5 HDE HNW
    go_wp2_with fail
    refine HDD.out.mono ?_
    rintro e w6 ⟨u6, h6⟩
    have F46 := hide (show Fresh w4 w6 from f45.out.trans u6 (fun b hb h => by omega))
    have F6 := hide (F4.out.trans' F46.out)
    have b6 := B4.out.fresh F46.out
    have B6 := hide b6
    have RD6 := hide (RD2'.out.fresh F46.out)
    have c60 := b6.cell 0
    have c61 := b6.cell 1
    simp at c60 c61
    rw [HSB.out] at h6
    have hnN : N.length = n := by have := HR.out.1; simpa using this
    have HNN := hide hnN
    clear u6 HDD b6 hnN
    by_cases hadm : sy < n ∨ lb < p
    · have hre := desc_refuse HV.out.1 HP.out (by rw [HNN.out]; exact hadm) bs
      rw [← HD.out] at hre
      rw [hre] at h6
      obtain ⟨rfl, _⟩ := h6
      obtain ⟨w7, hw7⟩ : ∃ w7, w7 = w6.alloc (.cells #[.int .i64 0, .slice none 0 0] 24) := ⟨_, rfl⟩
      obtain ⟨H7, hH7⟩ : ∃ H7, H7 = w6.heap.size := ⟨_, rfl⟩
      have f67 : Fresh w6 w7 := by rw [hw7]; exact (Upd.refl _ _).alloc _
      have b7 : Blk w7 H7 24 #[.int .i64 0, .slice none 0 0] := by rw [hw7]; exact blk_new hH7 _ _
      have b67 := B6.out.fresh f67
      have c70 := b7.cell 0
      have c71 := b7.cell 1
      have d70 := b67.cell 0
      have d71 := b67.cell 1
      simp at c70 c71 d70 d71
      have q70 : ∀ o, (w6.alloc o).cell? ⟨H, 0, none⟩ = some (.int .i64 p) := fun o => by simpa using (B6.out.alloc o).cell 0
      have q71 : ∀ o, (w6.alloc o).cell? ⟨H, 1, none⟩ = some (.slice A n c) := fun o => by simpa using (B6.out.alloc o).cell 1
      have F7 := hide (F6.out.trans' f67)
      have hs7 := same07_any (fun _ => True) (fun _ => True) none none 0 0 0 0 0 0 [] [] w7 (Rd.nil _ _ _) (Rd.nil _ _ _) (by omega) (by omega)
      have HS7 := hide (hs7.mono fun e w' x => (⟨x.1, F7.out.trans' x.2⟩ : e = .returned (.bool true) ∧ Fresh w0 w'))
      have HW7 := hide hw7
      have HH7 := hide hH7
      clear b7 hre hs7 b67 f67 hw7 hH7 c60 c61
      by_cases ha1 : sy < n
      · clear hadm
        go_wp2_with fail
        simp only [← HH7.out, ← HW7.out]
        go_wp2_with fail
        refine HS7.out.mono ?_
        rintro e w8 ⟨rfl, f8⟩
        have F8 := hide f8
        clear f8
        go_wp2_with fail
        refine (hkn.out _).mono ?_
        rintro e w9 ⟨rfl, f9⟩
        have F9 := hide ((F0.out.trans' F8.out).trans' f9)
        clear f9
        go_wp2_with fail
        try go_ret
        exact hR.out _ _ ⟨rfl, F9.out⟩
      · have ha2 : lb < p := by omega
        have ha1' : (n : Int) ≤ sy := by omega
        clear hadm ha1
        go_wp2_with fail
        simp only [← HH7.out, ← HW7.out]
        go_wp2_with fail
        refine HS7.out.mono ?_
        rintro e w8 ⟨rfl, f8⟩
        have F8 := hide f8
        clear f8
        go_wp2_with fail
        refine (hkn.out _).mono ?_
        rintro e w9 ⟨rfl, f9⟩
        have F9 := hide ((F0.out.trans' F8.out).trans' f9)
        clear f9
        go_wp2_with fail
        try go_ret
        exact hR.out _ _ ⟨rfl, F9.out⟩
    · have ha1 : (n : Int) ≤ sy := by omega
      have ha2 : (p : Int) ≤ lb := by omega
      clear hadm
      have hre := desc_back HV.out.1 HP.out (by rw [HNN.out]; exact ha1) ha2 bs
      rw [← HD.out] at hre
      rw [hre] at h6
      obtain ⟨v6, rfl, o6, _, cu6, hl6⟩ := h6
      obtain ⟨A6, n6, c6, rfl, hn6⟩ := o6.form'
      have hrd6 := (o6.rd rfl).2.2
      rw [← hn6.out] at hrd6
      have hn6' : n6 = n := by have := hn6.out; have := HNN.out; simp at *; omega
      subst hn6'
      obtain ⟨w7, hw7⟩ : ∃ w7, w7 = w6.alloc (.cells #[.int .i64 p, .slice A6 n6 c6] 24) := ⟨_, rfl⟩
      have f67 : Fresh w6 w7 := by rw [hw7]; exact (Upd.refl _ _).alloc _
      obtain ⟨H7, hH7⟩ : ∃ H7, H7 = w6.heap.size := ⟨_, rfl⟩
      have b7 : Blk w7 H7 24 #[.int .i64 p, .slice A6 n6 c6] := by rw [hw7]; exact blk_new hH7 _ _
      have b67 := B6.out.fresh f67
      have c70 := b7.cell 0
      have c71 := b7.cell 1
      have d70 := b67.cell 0
      have d71 := b67.cell 1
      simp at c70 c71 d70 d71
      have q70 : ∀ o, (w6.alloc o).cell? ⟨H, 0, none⟩ = some (.int .i64 p) := fun o => by simpa using (B6.out.alloc o).cell 0
      have q71 : ∀ o, (w6.alloc o).cell? ⟨H, 1, none⟩ = some (.slice A n6 c) := fun o => by simpa using (B6.out.alloc o).cell 1
      have HH7 := hide hH7
      have F7 := hide (F6.out.trans' f67)
      have hs7 := same07_any F _ A A6 n6 n6 c c6 p p N N w7 (HR.out.fresh F7.out) (hrd6.fresh f67) (by omega) (by omega)
      rw [decide_eq_true (⟨rfl, rfl⟩ : (p : Int) = p ∧ N = N)] at hs7
      have hat := fun W (h : Fresh w7 W) => cat_any _ g (D ++ bs) (0 + D.length) W ((cu6.fresh f67).fresh h)
      have hlf := fun W (h : Fresh w7 W) => cleft_any _ g (D ++ bs) (0 + D.length) W ((cu6.fresh f67).fresh h)
      have hlft : (D ++ bs).length - (0 + D.length) = m := by have := HM.out; simp; omega
      rw [hlft] at hlf
      rw [Nat.zero_add, ← HN2.out] at hat
      have HAT := hide hat
      have HLF := hide hlf
      have HS7 := hide hs7
      have HW7 := hide hw7
      clear hat hlf hs7 hw7 hlft o6 cu6 hrd6 hn6 hre hl6 b7 f67 b67 hH7 c60 c61
      go_wp2_with fail
      simp only [← HH7.out, ← HW7.out]
      go_wp2_with fail
      refine HS7.out.mono ?_
      rintro e w8 ⟨rfl, f8⟩
      have F78 := hide f8
      clear f8
      go_wp2_with fail
      refine (HAT.out _ F78.out).mono ?_
      rintro e w9 ⟨rfl, rfl⟩
      go_wp2_with fail
      refine (HLF.out _ F78.out).mono ?_
      rintro e w9 ⟨rfl, kk, rfl⟩
      go_wp2_with fail
      refine (hkn.out _).mono ?_
      rintro e w9 ⟨rfl, f9⟩
      have F9 := hide ((((F0.out.trans' F7.out).trans' F78.out).drewN kk).trans' f9)
      clear f9
      go_wp2_with fail
      try go_ret
      exact hR.out _ _ ⟨rfl, F9.out⟩
  · rw [decide_eq_false hv] at hmay
    have HM1 := hide hmay
    clear hmay hv
    go_enter Try.func7, Try.ntmps7
    go_wp2_with fail
    rw [← HW.out]
    refine HM1.out.mono ?_
    rintro e w1 ⟨rfl, f1⟩
    have F1 := hide (F0.out.trans' f1)
    clear f1
    go_wp2_with fail
    refine (hkn.out _).mono ?_
    rintro e w2 ⟨rfl, f2⟩
    have F2 := hide (F1.out.trans' f2)
    clear f2
    go_wp2_with fail
    try go_ret
    exact hR.out _ _ ⟨rfl, F2.out⟩

end Go.Proofs.Ytbnicnindggimaa
