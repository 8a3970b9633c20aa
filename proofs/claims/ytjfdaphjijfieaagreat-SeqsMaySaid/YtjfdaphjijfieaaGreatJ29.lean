/-
  Joined texts, part 29: contracts and plain lemmas, each under its own heading below.
  Conditions: none beyond those of each theorem.
-/
import Derived.Test.YtjfdaphjijfieaaGreatJ28
import Derived.Test.YtjfdaphjijfieaaGreatJ22
import Derived.Test.YtjfdaphjijfieaaGreatJ20
import Derived.BigQuiet
/-
  Package seqs: the reader's read.
  Conditions: none beyond those of each theorem.
-/
namespace Go.Proofs.YtjfdaphjijfieaaGreat
open Go.RowKit
set_option linter.unusedVariables false
set_option linter.unusedSimpArgs false

theorem infoRaw : (Tryz.prog.info? 86).map (fun i => (i.zero, i.size, i.bytes)) = some (some (.agg #[.int .i64 0, .int .i64 0, .int .i64 0]), 3, 24) := by kernel_rfl

theorem valid_9 {p : Nat} {N : List Int} {s : Int} (h : Valid p N s 8) : Valid p N s 9 := by
  obtain ⟨a1, a2, a3, a4, a5, a6⟩ := h
  exact ⟨a1, by omega, a3, a4, a5, a6⟩

set_option maxRecDepth 100000 in
set_option maxHeartbeats 40000000 in
theorem read_any (F G : Nat → Prop) (g k : Nat) (bs : List Nat) (t n g0 g1 g2 : Nat) (T : Trks) (w : World) (h : SrAt w F g k bs (t, 0)) (hgk : g ≠ k) (hFk : ∀ b, F b → b ≠ k) (hFg : ∀ b, F b → b ≠ g) (hFl : ∀ b, F b → b < w.heap.size)
    (hc0 : CoderF w G g0 T.pL T.NL) (hc1 : CoderF w G g1 T.pO T.NO) (hc2 : CoderF w G g2 T.pM T.NM) (hG : ∀ b, G b → b ≠ g ∧ b ≠ k ∧ b < w.heap.size) (hT : T.ok) (hn : n ≤ 65536) :
    Calls Tryz.prog 60 #[.pointer (some ⟨g, 0, none⟩), .agg #[.pointer (some ⟨g0, 0, none⟩), .int .i64 0, .pointer (some ⟨g1, 0, none⟩), .int .i64 0, .pointer (some ⟨g2, 0, none⟩), .int .i64 0], .int .i64 (n : Nat)] w fun e w' => ∃ v,
      e = .returned v ∧ OwnK w' 86 3 v ((allE (valR bs) T n t).1.map rawC) ∧ (∀ b, v.ownBlock = some b → w.heap.size ≤ b) ∧ Upd (fun b => b = g ∨ b = k) w w' ∧ SrAt w' F g k bs (allE (valR bs) T n t).2 := by
  obtain ⟨hwL, hwO, hwM⟩ := hT.wide
  have hgl := h.1.lt
  have hkl := h.2.lt
  obtain ⟨w0, hw0⟩ : ∃ w0, w0 = w.alloc (.cells #[.pointer (some ⟨g0, 0, none⟩), .int .i64 0, .pointer (some ⟨g1, 0, none⟩), .int .i64 0, .pointer (some ⟨g2, 0, none⟩), .int .i64 0] 96) := ⟨_, rfl⟩
  obtain ⟨H, hH⟩ : ∃ H, H = w.heap.size := ⟨_, rfl⟩
  have f0 : Fresh w w0 := by rw [hw0]; exact (Upd.refl _ _).alloc _
  have ba : Blk w0 H 96 #[.pointer (some ⟨g0, 0, none⟩), .int .i64 0, .pointer (some ⟨g1, 0, none⟩), .int .i64 0, .pointer (some ⟨g2, 0, none⟩), .int .i64 0] := by rw [hw0]; exact blk_new hH _ _
  have hs0 : w0.heap.size = H + 1 := by rw [hw0, hH]; simp
  have hgH : g ≠ H := by omega
  have hkH : k ≠ H := by omega
  have hFH : ∀ b, F b → b ≠ H := fun b hb => by have := hFl b hb; omega
  have cs : ∀ (c p : Nat) (N : List Int), CoderF w G c p N → ∀ W, Upd (fun b => b = g ∨ b = k ∨ b = H) w0 W → CoderF W G c p N := fun c p N hc W u => (hc.fresh f0).upd u (fun b hb _ e => by have := hG b hb; omega)
  have C0 := hide (cs _ _ _ hc0)
  have C1 := hide (cs _ _ _ hc1)
  have C2 := hide (cs _ _ _ hc2)
  have SR0 := hide (h.fresh f0)
  have HTK := hide (fun W s n (hW : SrAt W F g k bs s) (hn : n ≤ 64) => stake_any F g k bs s n W hW hn hgk hFk hFg)
  have HVO := hide (fun W s st (hW : SrAt W F g k bs s) (hu : Upd (fun b => b = g ∨ b = k ∨ b = H) w0 W) (hst : st < 2 ^ T.pO) => svalO_any F G g k bs s g1 T.pO st T.NO W hW hgk hFk hFg (cs _ _ _ hc1 W hu) (valid_9 hT.2.1) hst)
  have HVM := hide (fun W s st (hW : SrAt W F g k bs s) (hu : Upd (fun b => b = g ∨ b = k ∨ b = H) w0 W) (hst : st < 2 ^ T.pM) => svalL_any F G g k bs s g2 T.pM st T.NM W hW hgk hFk hFg (cs _ _ _ hc2 W hu) hT.2.2 hst)
  have HVL := hide (fun W s st (hW : SrAt W F g k bs s) (hu : Upd (fun b => b = g ∨ b = k ∨ b = H) w0 W) (hst : st < 2 ^ T.pL) => svalL_any F G g k bs s g0 T.pL st T.NL W hW hgk hFk hFg (cs _ _ _ hc0 W hu) hT.1 hst)
  have hGn : ∀ b, G b → b ≠ g ∧ b ≠ k := fun b hb => ⟨(hG b hb).1, (hG b hb).2.1⟩
  have HOL := hide (fun W s st A (hW : SrAt W F g k bs s) (hu : Upd (fun b => b = g ∨ b = k ∨ b = H) w0 W) (hst : st < 2 ^ T.pL) hb h0 h1 => son_any F G g k bs s g0 T.pL st H 0 T.NL A W hW hgk hFk hFg (cs _ _ _ hc0 W hu) hGn hwL hst hb h0 h1 (Ne.symm hgH) (Ne.symm hkH) hFH)
  have HOO := hide (fun W s st A (hW : SrAt W F g k bs s) (hu : Upd (fun b => b = g ∨ b = k ∨ b = H) w0 W) (hst : st < 2 ^ T.pO) hb h0 h1 => son_any F G g k bs s g1 T.pO st H 2 T.NO A W hW hgk hFk hFg (cs _ _ _ hc1 W hu) hGn hwO hst hb h0 h1 (Ne.symm hgH) (Ne.symm hkH) hFH)
  have HOM := hide (fun W s st A (hW : SrAt W F g k bs s) (hu : Upd (fun b => b = g ∨ b = k ∨ b = H) w0 W) (hst : st < 2 ^ T.pM) hb h0 h1 => son_any F G g k bs s g2 T.pM st H 4 T.NM A W hW hgk hFk hFg (cs _ _ _ hc2 W hu) hGn hwM hst hb h0 h1 (Ne.symm hgH) (Ne.symm hkH) hFH)
  have hp9 : T.pL ≤ 9 ∧ T.pO ≤ 9 ∧ T.pM ≤ 9 := ⟨by have := hwL.2.1; omega, by have := hwO.2.1; omega, by have := hwM.2.1; omega⟩
  have HP9 := hide hp9
  have HT := hide hT
  have HF := hide (And.intro hFg (And.intro hFk hFH))
  have HFL := hide hFl
  have HNE := hide (And.intro hgk (And.intro hgH hkH))
  have HW := hide hw0
  have HH := hide hH
  have F0 := hide f0
  have BA := hide ba
  have HS0 := hide hs0
  have HGL := hide (And.intro hgl hkl)
  have HPA := hide parts_any
  have HLG := hide log_any
  have HBL := hide bleft_any
  obtain ⟨V, hV⟩ : ∃ V, V = valR bs := ⟨_, rfl⟩
  rw [← hV]
  rw [← hV] at HTK HVO HVM HVL HOL HOO HOM
  clear h hw0 hH f0 ba hs0 cs hc0 hc1 hc2 hT hwL hwO hwM hp9 hFk hFg hFH hFl hG hGn hgk hgH hkH hgl hkl hV
  refine veil fun R hR => ?_
  go_enter Tryz.func60, Tryz.ntmps60
  go_upto_region 1 with fail
  simp only [← HH.out, ← HW.out]
  go_wp2_with fail
  go_loopg [12] 3 (fun f vi wr => ∃ (i : Nat) (S : Sts) (s : Nat × Int), i + f = 3 ∧ vi = .int .i64 i ∧ stF V T t i = (S, s) ∧ Upd (fun b => b = g ∨ b = k ∨ b = H) w0 wr ∧
    Blk wr H 96 #[.pointer (some ⟨g0, 0, none⟩), .int .i64 (S.l : Nat), .pointer (some ⟨g1, 0, none⟩), .int .i64 (S.o : Nat), .pointer (some ⟨g2, 0, none⟩), .int .i64 (S.m : Nat)] ∧ SrAt wr F g k bs s)
  case atStart => exact ⟨0, _, _, rfl, rfl, rfl, Upd.refl _ _, BA.out, SR0.out⟩
  case round =>
    obtain ⟨i, S, s, hf, rfl, hst, hu, hb, hsr⟩ := hrel
    have a0 := hb.cell 0
    have a1 := hb.cell 1
    have a2 := hb.cell 2
    have a3 := hb.cell 3
    have a4 := hb.cell 4
    have a5 := hb.cell 5
    simp at a0 a1 a2 a3 a4 a5
    have HU := hide hu
    have HB := hide hb
    have HST := hide hst
    have HSR := hide hsr
    have h4 : i = 0 ∨ i = 1 ∨ i = 2 ∨ i = 3 := by omega
    clear hu hb hst hsr
    rcases h4 with rfl | rfl | rfl | rfl
    · obtain rfl : gk = 3 := by omega
      clear hf
      have HLOG := hide (HLG.out G g0 T.pL _ wr (C0.out _ HU.out) (by have := HP9.out; omega))
      have HTA := hide (HTK.out wr s T.pL HSR.out (by have := HP9.out; omega))
      have hq : (takeE V s T.pL).1 < 512 := Nat.lt_of_lt_of_le (takeE_lt V s T.pL) (Nat.le_trans (Nat.pow_le_pow_right (by decide) (show T.pL ≤ 9 by have := HP9.out; omega)) (by decide))
      have HSN := hide (show stF V T t 1 = (⟨(takeE V s T.pL).1, S.o, S.m⟩, (takeE V s T.pL).2) by
        have e := HST.out
        have e1 : S = (stF V T t 0).1 := by rw [e]
        have e2 : s = (stF V T t 0).2 := by rw [e]
        rw [e1, e2]; rfl)
      generalize takeE V s T.pL = tk at *
      have s1 : wrap64 ((tk.1 : Nat) : Int) = ((tk.1 : Nat) : Int) := wrap64_small _ (by omega)
      have s2 : IntKind.i64.wrap ((tk.1 : Nat) : Int) = ((tk.1 : Nat) : Int) := IntWalk.i64_in _ (by omega)
      go_wp2_with fail
      refine HLOG.out.mono ?_
      rintro e w1 ⟨rfl, rfl⟩
      go_wp2_with fail
      refine HTA.out.mono ?_
      rintro e w2 ⟨rfl, u2, r2⟩
      have hb2 := HB.out.upd u2 (by have := HNE.out; omega)
      have y0 := hb2.cell 1
      have z0 := hb2.frozen 1
      simp at y0
      have hb3 := hb2.set_ 1 (.int .i64 (tk.1 : Nat))
      have u3 : Upd (fun b => b = H) w2 (w2.setCell ⟨H, 1, none⟩ (.int .i64 (tk.1 : Nat))) := (Upd.refl (fun b => b = H) w2).setCell (p := ⟨H, 1, none⟩) (fun _ => rfl) _
      have HR3 := hide (r2.upd u3 (by have := HNE.out; omega) (by have := HNE.out; omega) (fun b hb => HF.out.2.2 b hb))
      have HU3 := hide ((HU.out.trans' (u2.mono (T := fun b => b = g ∨ b = k ∨ b = H) fun b _ hb => by rcases hb with h | h; exact .inl h; exact .inr (.inl h))).trans' (u3.mono (T := fun b => b = g ∨ b = k ∨ b = H) fun b _ hb => .inr (.inr hb)))
      have HB3 := hide hb3
      clear hb2 hb3 u2 u3 r2 a0 a1 a2 a3 a4 a5
      go_wp2_with fail
      go_roundg 2
      case measure => omega
      case rel => exact ⟨1, _, _, rfl, by go_num, HSN.out, HU3.out, by simpa using HB3.out, HR3.out⟩
    · obtain rfl : gk = 2 := by omega
      clear hf
      have HLOG := hide (HLG.out G g1 T.pO _ wr (C1.out _ HU.out) (by have := HP9.out; omega))
      have HTA := hide (HTK.out wr s T.pO HSR.out (by have := HP9.out; omega))
      have hq : (takeE V s T.pO).1 < 512 := Nat.lt_of_lt_of_le (takeE_lt V s T.pO) (Nat.le_trans (Nat.pow_le_pow_right (by decide) (show T.pO ≤ 9 by have := HP9.out; omega)) (by decide))
      have HSN := hide (show stF V T t 2 = (⟨S.l, (takeE V s T.pO).1, S.m⟩, (takeE V s T.pO).2) by
        have e := HST.out
        have e1 : S = (stF V T t 1).1 := by rw [e]
        have e2 : s = (stF V T t 1).2 := by rw [e]
        rw [e1, e2]; rfl)
      generalize takeE V s T.pO = tk at *
      have s1 : wrap64 ((tk.1 : Nat) : Int) = ((tk.1 : Nat) : Int) := wrap64_small _ (by omega)
      have s2 : IntKind.i64.wrap ((tk.1 : Nat) : Int) = ((tk.1 : Nat) : Int) := IntWalk.i64_in _ (by omega)
      go_wp2_with fail
      refine HLOG.out.mono ?_
      rintro e w1 ⟨rfl, rfl⟩
      go_wp2_with fail
      refine HTA.out.mono ?_
      rintro e w2 ⟨rfl, u2, r2⟩
      have hb2 := HB.out.upd u2 (by have := HNE.out; omega)
      have y0 := hb2.cell 3
      have z0 := hb2.frozen 3
      simp at y0
      have hb3 := hb2.set_ 3 (.int .i64 (tk.1 : Nat))
      have u3 : Upd (fun b => b = H) w2 (w2.setCell ⟨H, 3, none⟩ (.int .i64 (tk.1 : Nat))) := (Upd.refl (fun b => b = H) w2).setCell (p := ⟨H, 3, none⟩) (fun _ => rfl) _
      have HR3 := hide (r2.upd u3 (by have := HNE.out; omega) (by have := HNE.out; omega) (fun b hb => HF.out.2.2 b hb))
      have HU3 := hide ((HU.out.trans' (u2.mono (T := fun b => b = g ∨ b = k ∨ b = H) fun b _ hb => by rcases hb with h | h; exact .inl h; exact .inr (.inl h))).trans' (u3.mono (T := fun b => b = g ∨ b = k ∨ b = H) fun b _ hb => .inr (.inr hb)))
      have HB3 := hide hb3
      clear hb2 hb3 u2 u3 r2 a0 a1 a2 a3 a4 a5
      go_wp2_with fail
      go_roundg 1
      case measure => omega
      case rel => exact ⟨2, _, _, rfl, by go_num, HSN.out, HU3.out, by simpa using HB3.out, HR3.out⟩
    · obtain rfl : gk = 1 := by omega
      clear hf
      have HLOG := hide (HLG.out G g2 T.pM _ wr (C2.out _ HU.out) (by have := HP9.out; omega))
      have HTA := hide (HTK.out wr s T.pM HSR.out (by have := HP9.out; omega))
      have hq : (takeE V s T.pM).1 < 512 := Nat.lt_of_lt_of_le (takeE_lt V s T.pM) (Nat.le_trans (Nat.pow_le_pow_right (by decide) (show T.pM ≤ 9 by have := HP9.out; omega)) (by decide))
      have HSN := hide (show stF V T t 3 = (⟨S.l, S.o, (takeE V s T.pM).1⟩, (takeE V s T.pM).2) by
        have e := HST.out
        have e1 : S = (stF V T t 2).1 := by rw [e]
        have e2 : s = (stF V T t 2).2 := by rw [e]
        rw [e1, e2]; rfl)
      generalize takeE V s T.pM = tk at *
      have s1 : wrap64 ((tk.1 : Nat) : Int) = ((tk.1 : Nat) : Int) := wrap64_small _ (by omega)
      have s2 : IntKind.i64.wrap ((tk.1 : Nat) : Int) = ((tk.1 : Nat) : Int) := IntWalk.i64_in _ (by omega)
      go_wp2_with fail
      refine HLOG.out.mono ?_
      rintro e w1 ⟨rfl, rfl⟩
      go_wp2_with fail
      refine HTA.out.mono ?_
      rintro e w2 ⟨rfl, u2, r2⟩
      have hb2 := HB.out.upd u2 (by have := HNE.out; omega)
      have y0 := hb2.cell 5
      have z0 := hb2.frozen 5
      simp at y0
      have hb3 := hb2.set_ 5 (.int .i64 (tk.1 : Nat))
      have u3 : Upd (fun b => b = H) w2 (w2.setCell ⟨H, 5, none⟩ (.int .i64 (tk.1 : Nat))) := (Upd.refl (fun b => b = H) w2).setCell (p := ⟨H, 5, none⟩) (fun _ => rfl) _
      have HR3 := hide (r2.upd u3 (by have := HNE.out; omega) (by have := HNE.out; omega) (fun b hb => HF.out.2.2 b hb))
      have HU3 := hide ((HU.out.trans' (u2.mono (T := fun b => b = g ∨ b = k ∨ b = H) fun b _ hb => by rcases hb with h | h; exact .inl h; exact .inr (.inl h))).trans' (u3.mono (T := fun b => b = g ∨ b = k ∨ b = H) fun b _ hb => .inr (.inr hb)))
      have HB3 := hide hb3
      clear hb2 hb3 u2 u3 r2 a0 a1 a2 a3 a4 a5
      go_wp2_with fail
      go_roundg 0
      case measure => omega
      case rel => exact ⟨3, _, _, rfl, by go_num, HSN.out, HU3.out, by simpa using HB3.out, HR3.out⟩
    · obtain rfl : gk = 0 := by omega
      clear hf
      have hse : startE V T (t, 0) = (S, s) := HST.out
      have HSE := hide hse
      have HSO := hide (show S.ok T by have := startE_ok V T (t, 0); rw [hse] at this; exact this)
      have HAL := hide (show allE V T n t = ((readE V T n S s).1, (readE V T n S s).2.1, if (readE V T n S s).2.2 = 0 ∧ (readE V T n S s).2.1 ≠ 0 then 14 else (readE V T n S s).2.2) by unfold allE; rw [hse])
      clear hse HST
      generalize allE V T n t = AL at *
      go_wp2_with fail
      refine (HPA.out _).mono ?_
      rintro e w1 ⟨rfl, f1⟩
      have HR1 := hide (HSR.out.fresh f1)
      have HB1 := hide (HB.out.fresh f1)
      have HU1 := hide (HU.out.trans' (f1.mono (T := fun b => b = g ∨ b = k ∨ b = H) fun _ _ h => h.elim))
      clear f1 a0 a1 a2 a3 a4 a5
      go_wp2_with fail
      obtain ⟨K, hK⟩ : ∃ K, K = w1.heap.size := ⟨_, rfl⟩
      obtain ⟨w2, hw2⟩ : ∃ w2, w2 = w1.alloc (.cells #[.func (.func 112) #[] #[], .func (.func 113) #[] #[], .func (.func 114) #[] #[], .func (.func 115) #[] #[], .func (.func 116) #[] #[], .func (.func 117) #[] #[], .func (.func 112) #[] #[], .func (.func 113) #[] #[], .func (.func 114) #[] #[]] 149) := ⟨_, rfl⟩
      simp only [← hK, ← hw2]
      have f2 : Fresh w1 w2 := by rw [hw2]; exact (Upd.refl _ _).alloc _
      have HQ2 := hide (show Blk w2 K 149 #[.func (.func 112) #[] #[], .func (.func 113) #[] #[], .func (.func 114) #[] #[], .func (.func 115) #[] #[], .func (.func 116) #[] #[], .func (.func 117) #[] #[], .func (.func 112) #[] #[], .func (.func 113) #[] #[], .func (.func 114) #[] #[]] by rw [hw2]; exact blk_new hK _ _)
      have HR2 := hide (HR1.out.fresh f2)
      have HB2 := hide (HB1.out.fresh f2)
      have HU2 := hide (HU1.out.trans' (f2.mono (T := fun b => b = g ∨ b = k ∨ b = H) fun _ _ h => h.elim))
      have HK2 := hide (show w2.heap.size = K + 1 by rw [hw2, hK]; simp)
      have HKN := hide (show K ≠ g ∧ K ≠ k ∧ K ≠ H by have h1 := HU1.out.size; have h2 := HS0.out; have h3 := HGL.out; have h4 := HH.out; omega)
      clear f2 hK hw2 HU1 HB1 HR1
      obtain ⟨X, hX⟩ : ∃ X, X = readE V T n S s := ⟨_, rfl⟩
      rw [← hX] at HAL
      have HX := hide hX
      clear hX
      go_loopg [6] n (fun f v wr => ∃ (outs : List RawN) (S' : Sts) (s' : Nat × Int), outs.length + f = n ∧ S'.ok T ∧ OwnK wr 86 3 v (outs.map rawC) ∧ (∀ b, v.ownBlock = some b → K + 1 ≤ b) ∧ Upd (fun b => b = g ∨ b = k ∨ b = H) w2 wr ∧
        Blk wr H 96 #[.pointer (some ⟨g0, 0, none⟩), .int .i64 (S'.l : Nat), .pointer (some ⟨g1, 0, none⟩), .int .i64 (S'.o : Nat), .pointer (some ⟨g2, 0, none⟩), .int .i64 (S'.m : Nat)] ∧ SrAt wr F g k bs s' ∧
        outs ++ (readE V T f S' s').1 = X.1 ∧ (readE V T f S' s').2 = X.2)
      case atStart => exact ⟨[], S, s, by simp, HSO.out, OwnK.nil _ _ _, fun b h => by simp [Value.ownBlock] at h, Upd.refl _ _, HB2.out, HR2.out, by rw [HX.out]; rfl, by rw [HX.out]⟩
      case round =>
        obtain ⟨outs, S', s', hf, hS, ho, hob, hu, hb, hsr, hx1, hx2⟩ := hrel
        have c0 := hsr.1.cell 0
        have c1 := hsr.1.cell 1
        have z1 := hsr.1.frozen 1
        simp at c0 c1
        have q2 := HQ2.out.upd hu (by have := HKN.out; omega)
        have HU := hide hu
        have HB := hide hb
        have HSR := hide hsr
        have HOW := hide ho
        have HOB := hide hob
        have HS' := hide hS
        have HX1 := hide hx1
        have HX2 := hide hx2
        have HF0 := hide hf
        have HQ := hide q2
        obtain ⟨Ao, no, co, rfl, hno⟩ := ho.form'
        rw [List.length_map] at hno
        clear hu hb hsr ho hob hS hx1 hx2 q2
        by_cases hz : gk = 0
        · subst hz
          clear hf
          have hnn : ((no : Nat) : Int) = (n : Nat) := by have := hno.out; have := HF0.out; omega
          have HEND := hide (show outs = X.1 ∧ s' = X.2 by
            have h1 := HX1.out
            have h2 := HX2.out
            rw [readE_stop V T 0 S' s' (.inl rfl)] at h1 h2
            exact ⟨by simpa using h1, h2⟩)
          have hlt : ¬ (((no : Nat) : Int) < (n : Nat)) := by omega
          clear hnn
          have hal : AL = (outs, s'.1, if s'.2 = 0 ∧ s'.1 ≠ 0 then 14 else s'.2) := by
            have h := HAL.out
            rw [← HEND.out.1, ← HEND.out.2] at h
            exact h
          have hU : Upd (fun b => b = g ∨ b = k) w wr := (F0.out.mono (T := fun b => b = g ∨ b = k) fun _ _ h => h.elim).trans (HU2.out.trans' HU.out) (fun b hb e => by have := HH.out; rcases e with e | e | e; exact .inl e; exact .inr e; omega)
          have hO : ∀ b, (Value.slice Ao no co).ownBlock = some b → w.heap.size ≤ b := fun b hb => by have h1 := HOB.out b hb; have h2 := HK2.out; have h3 := HU2.out.size; have h4 := F0.out.size; omega
          by_cases he : s'.2 = 0
          · rw [he] at c1
            by_cases h1 : s'.1 = 0
            · have HL := hide (HBL.out F k bs s'.1 wr HSR.out.2)
              rw [h1] at HL
              go_wp2_with fail
              refine HL.out.mono ?_
              rintro e w5 ⟨rfl, f5⟩
              go_wp2_with fail
              try go_ret
              refine hR.out _ _ ⟨_, rfl, ?_, hO, hU.trans f5 (fun _ _ h => h.elim), ?_⟩
              · rw [hal]; exact HOW.out.fresh f5
              · rw [hal, if_neg (by simp [h1])]; exact HSR.out.fresh f5
            · have HL := hide (HBL.out F k bs s'.1 wr HSR.out.2)
              have hne : (((s'.1 : Nat) : Int) == 0) = false := by simp; omega
              have hne2 : ¬ ((s'.1 : Nat) : Int) = 0 := by omega
              go_wp2_with fail
              refine HL.out.mono ?_
              rintro e w5 ⟨rfl, f5⟩
              have r5 := HSR.out.fresh f5
              have y1 := r5.1.cell 1
              have y2 := r5.1.frozen 1
              simp at y1
              rw [he] at y1
              have R5 := hide r5
              clear r5
              go_wp2_with fail
              try go_ret
              have u6 : Upd (fun b => b = g) w5 (w5.setCell ⟨g, 1, none⟩ (.int .i64 14)) := (Upd.refl (fun b => b = g) w5).setCell (p := ⟨g, 1, none⟩) (fun _ => rfl) _
              refine hR.out _ _ ⟨_, rfl, ?_, hO, (hU.trans f5 (fun _ _ h => h.elim)).trans u6 (fun _ _ h => .inl h), ?_⟩
              · rw [hal]; exact (HOW.out.fresh f5).upd u6 (fun b hb e => by have h1 := HOB.out b hb; have h2 := HK2.out; have h3 := HU2.out.size; have h4 := HGL.out; have h5 := F0.out.size; omega)
              · rw [hal, if_pos ⟨he, h1⟩]
                exact ⟨by simpa using R5.out.1.set_ 1 (.int .i64 14), R5.out.2.upd u6 (fun h => HNE.out.1 h.symm) (fun b hb => HF.out.1 b hb)⟩
          · have hne : ((s'.2 : Int) == 0) = false := by simpa using he
            go_wp2_with fail
            try go_ret
            refine hR.out _ _ ⟨_, rfl, ?_, hO, hU, ?_⟩
            · rw [hal]; exact HOW.out
            · rw [hal, if_neg (by simp [he])]; exact HSR.out
        · have hgp : 0 < gk := by omega
          have hlt : ((no : Nat) : Int) < (n : Nat) := by have := hno.out; have := HF0.out; omega
          clear hf
          by_cases he : s'.2 = 0
          · rw [he] at c1
            obtain ⟨gq, rfl⟩ : ∃ q, q = gk := ⟨gk, rfl⟩
            have hol : ∀ b, (Value.slice Ao no co).ownBlock = some b → K + 1 ≤ b ∧ b < wr.heap.size := fun b hb => ⟨HOB.out b hb, HOW.out.lt hb⟩
            have HOL2 := hide hol
            have hkw : w2.heap.size ≤ wr.heap.size := HU.out.size
            have HKW := hide (show K + 1 ≤ wr.heap.size by have := HK2.out; omega)
            have hUw : Upd (fun b => b = g ∨ b = k ∨ b = H) w0 wr := HU2.out.trans' HU.out
            have HUW := hide hUw
            obtain ⟨v1, hv1⟩ : ∃ v1, v1 = valE V true T.pO T.NO S'.o s' := ⟨_, rfl⟩
            obtain ⟨v2, hv2⟩ : ∃ v2, v2 = valE V false T.pM T.NM S'.m v1.2 := ⟨_, rfl⟩
            obtain ⟨v3, hv3⟩ : ∃ v3, v3 = valE V false T.pL T.NL S'.l v2.2 := ⟨_, rfl⟩
            have V1 := HVO.out wr s' S'.o HSR.out HUW.out HS'.out.2.1
            rw [← hv1] at V1
            have V1 := hide V1
            have V2 := hide (fun W hW hu => HVM.out W v1.2 S'.m hW hu HS'.out.2.2)
            rw [← hv2] at V2
            have V3 := hide (fun W hW hu => HVL.out W v2.2 S'.l hW hu HS'.out.1)
            rw [← hv3] at V3
            have hb1 : v1.1 < 268435456 := by rw [hv1]; exact (valE_lt (o := true) (by simpa using valid_9 HT.out.2.1) HS'.out.2.1 V s').1
            have hb2 : v2.1 < 268435456 := by rw [hv2]; exact (valE_lt (o := false) (by simpa using HT.out.2.2) HS'.out.2.2 V v1.2).1
            have hb3 : v3.1 < 268435456 := by rw [hv3]; exact (valE_lt (o := false) (by simpa using HT.out.1) HS'.out.1 V v2.2).1
            obtain ⟨ln, hln⟩ : ∃ ln, ln = v2.1 + 3 := ⟨_, rfl⟩
            have HONE := hide (show oneE V T S' s' = (⟨v3.1, ln, v1.1⟩, v3.2) by rw [hln, hv3, hv2, hv1]; rfl)
            have sw : IntKind.i64.wrap (((v2.1 : Nat) : Int) + 3) = ((ln : Nat) : Int) := by rw [IntWalk.i64_in _ (by omega)]; omega
            clear hol hkw hUw hv1 hv2 hv3 hln
            have b2 := HB.out.cell 2
            have b3 := HB.out.cell 3
            have q3 := HQ.out.cell 3
            have q4 := HQ.out.cell 4
            have q5 := HQ.out.cell 5
            simp at b2 b3 q3 q4 q5
            go_wp2_with fail
            refine V1.out.mono ?_
            rintro e w3 ⟨rfl, u3, r3⟩
            have hnH := HNE.out.2
            have hnK := HKN.out
            have hb3' := HB.out.upd u3 (by omega)
            have hq3' := HQ.out.upd u3 (by omega)
            have HU3 := hide (HU.out.trans' (u3.mono (T := fun b => b = g ∨ b = k ∨ b = H) fun b _ hb => by rcases hb with h | h; exact .inl h; exact .inr (.inl h)))
            have HO3 := hide (HOW.out.upd u3 (fun b hb e => by have h1 := HOL2.out b hb; have h2 := HGL.out; have h3 := HU2.out.size; have h4 := HK2.out; have h5 := F0.out.size; omega))
            have HSZ3 := hide u3.size
            have HB3 := hide hb3'
            have HQ3 := hide hq3'
            have HR3 := hide r3
            clear hb3' hq3' u3 r3 b2 b3 q3 q4 q5 hnH hnK c0 c1 z1
            go_upto_region 9 with fail
            obtain ⟨M, hM⟩ : ∃ M, M = w3.heap.size := ⟨_, rfl⟩
            obtain ⟨w4, hw4⟩ : ∃ w4, w4 = w3.alloc (.cells #[.int .i64 0, .int .i64 0, .int .i64 (v1.1 : Nat)] 86) := ⟨_, rfl⟩
            simp only [← hM, ← hw4]
            have f4 : Fresh w3 w4 := by rw [hw4]; exact (Upd.refl _ _).alloc _
            have HM4 := hide (show Blk w4 M 86 #[.int .i64 0, .int .i64 0, .int .i64 (v1.1 : Nat)] by rw [hw4]; exact blk_new hM _ _)
            have hU3s := HU3.out.size
            have HMN := hide (show M ≠ g ∧ M ≠ k ∧ M ≠ H ∧ K < M ∧ wr.heap.size ≤ M by have h1 := HSZ3.out; have h2 := HKW.out; have h3 := HGL.out; have h4 := HH.out; have h5 := HU2.out.size; have h6 := HS0.out; have h7 := HK2.out; omega)
            have HR4 := hide (HR3.out.fresh f4)
            have HO4 := hide (HO3.out.fresh f4)
            have HU4 := hide (HU3.out.trans' (f4.mono (T := fun b => b = g ∨ b = k ∨ b = H) fun _ _ h => h.elim))
            have hb4 := HB3.out.fresh f4
            have hq4 := HQ3.out.fresh f4
            have V2' := hide (V2.out w4 HR4.out (HU2.out.trans' HU4.out))
            have b4 := hb4.cell 4
            have b5 := hb4.cell 5
            have q6 := hq4.cell 6
            have q7 := hq4.cell 7
            have q8 := hq4.cell 8
            simp at b4 b5 q6 q7 q8
            have HB4 := hide hb4
            have HQ4 := hide hq4
            clear hM hw4 f4 hU3s hb4 hq4
            go_wp2_with fail
            refine V2'.out.mono ?_
            rintro e w5 ⟨rfl, u5, r5⟩
            have hnM := HMN.out
            have hnH := HNE.out.2
            have hnK := HKN.out
            have hb5 := HB4.out.upd u5 (by omega)
            have hq5 := HQ4.out.upd u5 (by omega)
            have hm5 := HM4.out.upd u5 (by omega)
            have y1 := hm5.cell 1
            have y2 := hm5.frozen 1
            simp at y1
            have HO5 := hide (HO4.out.upd u5 (fun b hb e => by have h1 := HOL2.out b hb; have h2 := HGL.out; have h3 := HU2.out.size; have h4 := HK2.out; have h5 := F0.out.size; omega))
            have HU5 := hide (HU4.out.trans' (u5.mono (T := fun b => b = g ∨ b = k ∨ b = H) fun b _ hb => by rcases hb with h | h; exact .inl h; exact .inr (.inl h)))
            have HB5 := hide hb5
            have HQ5 := hide hq5
            have HM5 := hide hm5
            have HR5 := hide r5
            clear hb5 hq5 hm5 u5 r5 b4 b5 q6 q7 q8 hnM hnH hnK
            go_upto_region 10 with fail
            obtain ⟨w6, hw6⟩ : ∃ w6, w6 = w5.setCell ⟨M, 1, none⟩ (.int .i64 (ln : Nat)) := ⟨_, rfl⟩
            simp only [← hw6]
            have u6 : Upd (fun b => b = M) w5 w6 := by rw [hw6]; exact (Upd.refl (fun b => b = M) w5).setCell (p := ⟨M, 1, none⟩) (fun _ => rfl) _
            have hm6 : Blk w6 M 86 #[.int .i64 0, .int .i64 (ln : Nat), .int .i64 (v1.1 : Nat)] := by rw [hw6]; simpa using HM5.out.set_ 1 (.int .i64 (ln : Nat))
            have hnM := HMN.out
            have hb6 := HB5.out.upd u6 (by omega)
            have hq6 := HQ5.out.upd u6 (by omega)
            have HR6 := hide (HR5.out.upd u6 (by omega) (by omega) (fun b hb e => by have := HFL.out b hb; have h1 := HGL.out; have h3 := HSZ3.out; have h5 := HU.out.size; have h6 := HU2.out.size; have h7 := F0.out.size; omega))
            have HO6 := hide (HO5.out.upd u6 (fun b hb e => by have h1 := HOL2.out b hb; omega))
            have HU6 := hide (HU5.out.trans u6 (fun b hb e => by have h1 := HKW.out; have h2 := HU.out.size; omega))
            have V3' := hide (V3.out w6 HR6.out (HU2.out.trans' HU6.out))
            have b0 := hb6.cell 0
            have b1 := hb6.cell 1
            have q0 := hq6.cell 0
            have q1 := hq6.cell 1
            have q2 := hq6.cell 2
            simp at b0 b1 q0 q1 q2
            have HB6 := hide hb6
            have HQ6 := hide hq6
            have HM6 := hide hm6
            clear hw6 u6 hb6 hq6 hm6 y1 y2 hnM
            go_wp2_with fail
            refine V3'.out.mono ?_
            rintro e w7 ⟨rfl, u7, r7⟩
            have hnM := HMN.out
            have hnH := HNE.out.2
            have hnK := HKN.out
            have hb7 := HB6.out.upd u7 (by omega)
            have hm7 := HM6.out.upd u7 (by omega)
            have HO7 := hide (HO6.out.upd u7 (fun b hb e => by have h1 := HOL2.out b hb; have h2 := HGL.out; have h3 := HU2.out.size; have h4 := HK2.out; have h5 := F0.out.size; omega))
            have HU7 := hide (HU6.out.trans' (u7.mono (T := fun b => b = g ∨ b = k ∨ b = H) fun b _ hb => by rcases hb with h | h; exact .inl h; exact .inr (.inl h)))
            have y0 := hm7.cell 0
            have yz := hm7.frozen 0
            simp at y0
            have HB7 := hide hb7
            have HM7 := hide hm7
            have HR7 := hide r7
            clear hb7 hm7 u7 r7 b0 b1 q0 q1 q2 hnM hnH hnK
            go_upto_region 11 with fail
            obtain ⟨w8, hw8⟩ : ∃ w8, w8 = w7.setCell ⟨M, 0, none⟩ (.int .i64 (v3.1 : Nat)) := ⟨_, rfl⟩
            simp only [← hw8]
            have u8' : Upd (fun b => b = M) w7 w8 := by rw [hw8]; exact (Upd.refl (fun b => b = M) w7).setCell (p := ⟨M, 0, none⟩) (fun _ => rfl) _
            have hm8 : Blk w8 M 86 #[.int .i64 (v3.1 : Nat), .int .i64 (ln : Nat), .int .i64 (v1.1 : Nat)] := by rw [hw8]; simpa using HM7.out.set_ 0 (.int .i64 (v3.1 : Nat))
            have hnM := HMN.out
            have HB8 := hide (HB7.out.upd u8' (by omega))
            have HR8 := hide (HR7.out.upd u8' (by omega) (by omega) (fun b hb e => by have := HFL.out b hb; have h1 := HGL.out; have h3 := HSZ3.out; have h5 := HU.out.size; have h6 := HU2.out.size; have h7 := F0.out.size; omega))
            have o8 := HO7.out.upd u8' (fun b hb e => by have h1 := HOL2.out b hb; omega)
            have HU8 := hide (HU7.out.trans u8' (fun b hb e => by have h1 := HKW.out; have h2 := HU.out.size; omega))
            have m0 := hm8.cell 0
            have m1 := hm8.cell 1
            have m2 := hm8.cell 2
            simp at m0 m1 m2
            have HM8 := hide hm8
            have hrl : (outs.map rawC).length ≤ 2 ^ 30 := by have := HF0.out; simp; omega
            clear hw8 u8' hm8 y0 yz hnM
            by_cases hg1 : gq = 1
            · have hl2 : ¬ (((outs.length : Nat) : Int) + 1 < (n : Nat)) := by have := HF0.out; omega
              have hl3 : ¬ (outs.length + 1 < n) := by have := HF0.out; omega
              go_wp2_with (at_builtin; go_must (refine wpList_app_row _ rfl (.tmp 61) (.tmp 63) _ rfl 86 _ 3 24 Tryz.underlying80 infoRaw rfl (by omega) (by omega) (.slice Ao no co) _ rfl (o8.alloc _) w8.heap.size 1 [.int .i64 (v3.1 : Nat), .int .i64 (ln : Nat), .int .i64 (v1.1 : Nat)] rfl (by simp [Value.oneCell']) rfl (Blk.new _ _ _) hrl ?_); intro g9 c9 w9 o9 g9u a9 l9)
              have er : outs.map rawC ++ [[Value.int .i64 (v3.1 : Nat), .int .i64 (ln : Nat), .int .i64 (v1.1 : Nat)]] = (outs ++ [(⟨v3.1, ln, v1.1⟩ : RawN)]).map rawC := by simp [rawC]
              have el : (outs.map rawC).length + 1 = outs.length + 1 := by simp
              rw [er] at o9
              try rw [el] at o9
              have u9 : Upd (fun b => (Value.slice Ao no co).ownBlock = some b) w8 w9 := ((Upd.refl _ w8).alloc _).grown g9u (fun k hk _ => hk)
              have hog : ∀ b, (Value.slice (some ⟨g9, 0, none⟩) (outs.length + 1) c9).ownBlock = some b → K + 1 ≤ b := by
                intro b hb
                injection hb with hb
                have hb' : g9 = b := hb
                rcases a9 with h | h
                · have := HOL2.out g9 h; omega
                · simp at h; have h1 := HU8.out.size; have h2 := HKW.out; have h3 := HK2.out; omega
              have hno9 : ∀ b, (Value.slice Ao no co).ownBlock = some b → b ≠ g ∧ b ≠ k ∧ b ≠ H := fun b hb => by have h1 := HOL2.out b hb; have h2 := HGL.out; have h3 := HU2.out.size; have h4 := HK2.out; have h5 := F0.out.size; have h6 := HKN.out; have h7 := HS0.out; omega
              have HB9 := hide (HB8.out.upd u9 (fun h => (hno9 _ h).2.2 rfl))
              have HR9 := hide (HR8.out.upd u9 (fun h => (hno9 _ h).1 rfl) (fun h => (hno9 _ h).2.1 rfl) (fun b hb h => by have h1 := HFL.out b hb; have h2 := HOL2.out b h; have h3 := HU2.out.size; have h4 := HK2.out; have h5 := F0.out.size; omega))
              have HU9 := hide (HU8.out.trans u9 (fun b hb h => by have h1 := HOL2.out b h; have h4 := HK2.out; omega))
              have HO9 := hide o9
              have HOG := hide hog
              clear er el u9 hog hno9 g9u a9 l9 o9 hrl m0 m1 m2 o8
              go_roundg 0
              case measure => omega
              case rel =>
                have h1 := HX1.out
                have h2 := HX2.out
                rw [hg1, readE_last V T S' s' he, HONE.out] at h1 h2
                exact ⟨outs ++ [⟨v3.1, ln, v1.1⟩], S', v3.2, by have := HF0.out; simp; omega, HS'.out, HO9.out, HOG.out, HU9.out, HB9.out, HR9.out, by rw [readE_stop V T 0 S' v3.2 (.inl rfl)]; simpa using h1, by rw [readE_stop V T 0 S' v3.2 (.inl rfl)]; exact h2⟩
            · have hl2 : ((outs.length : Nat) : Int) + 1 < (n : Nat) := by have := HF0.out; omega
              have hl3 : outs.length + 1 < n := by have := HF0.out; omega
              go_wp2_with (at_builtin; go_must (refine wpList_app_row _ rfl (.tmp 61) (.tmp 63) _ rfl 86 _ 3 24 Tryz.underlying80 infoRaw rfl (by omega) (by omega) (.slice Ao no co) _ rfl (o8.alloc _) w8.heap.size 1 [.int .i64 (v3.1 : Nat), .int .i64 (ln : Nat), .int .i64 (v1.1 : Nat)] rfl (by simp [Value.oneCell']) rfl (Blk.new _ _ _) hrl ?_); intro g9 c9 w9 o9 g9u a9 l9)
              have er : outs.map rawC ++ [[Value.int .i64 (v3.1 : Nat), .int .i64 (ln : Nat), .int .i64 (v1.1 : Nat)]] = (outs ++ [(⟨v3.1, ln, v1.1⟩ : RawN)]).map rawC := by simp [rawC]
              have el : (outs.map rawC).length + 1 = outs.length + 1 := by simp
              rw [er] at o9
              try rw [el] at o9
              have u9 : Upd (fun b => (Value.slice Ao no co).ownBlock = some b) w8 w9 := ((Upd.refl _ w8).alloc _).grown g9u (fun k hk _ => hk)
              have hog : ∀ b, (Value.slice (some ⟨g9, 0, none⟩) (outs.length + 1) c9).ownBlock = some b → K + 1 ≤ b := by
                intro b hb
                injection hb with hb
                have hb' : g9 = b := hb
                rcases a9 with h | h
                · have := HOL2.out g9 h; omega
                · simp at h; have h1 := HU8.out.size; have h2 := HKW.out; have h3 := HK2.out; omega
              have hno9 : ∀ b, (Value.slice Ao no co).ownBlock = some b → b ≠ g ∧ b ≠ k ∧ b ≠ H := fun b hb => by have h1 := HOL2.out b hb; have h2 := HGL.out; have h3 := HU2.out.size; have h4 := HK2.out; have h5 := F0.out.size; have h6 := HKN.out; have h7 := HS0.out; omega
              have HB9 := hide (HB8.out.upd u9 (fun h => (hno9 _ h).2.2 rfl))
              have HR9 := hide (HR8.out.upd u9 (fun h => (hno9 _ h).1 rfl) (fun h => (hno9 _ h).2.1 rfl) (fun b hb h => by have h1 := HFL.out b hb; have h2 := HOL2.out b h; have h3 := HU2.out.size; have h4 := HK2.out; have h5 := F0.out.size; omega))
              have HU9 := hide (HU8.out.trans u9 (fun b hb h => by have h1 := HOL2.out b h; have h4 := HK2.out; omega))
              have HO9 := hide o9
              have HOG := hide hog
              clear er el u9 hog hno9 g9u a9 l9 o9 hrl m0 m1 m2 o8
              obtain ⟨P9, hP9⟩ : ∃ P9, P9 = w9.heap.size := ⟨_, rfl⟩
              obtain ⟨w10, hw10⟩ : ∃ w10, w10 = w9.alloc (.cells #[.int .i64 0, .int .i64 2, .int .i64 1] 112) := ⟨_, rfl⟩
              simp only [← hP9, ← hw10]
              have f10 : Fresh w9 w10 := by rw [hw10]; exact (Upd.refl _ _).alloc _
              have HP10 := hide (show Blk w10 P9 112 #[.int .i64 0, .int .i64 2, .int .i64 1] by rw [hw10]; exact blk_new hP9 _ _)
              have HB10 := hide (HB9.out.fresh f10)
              have HR10 := hide (HR9.out.fresh f10)
              have HO10 := hide (HO9.out.fresh f10)
              have HU10 := hide (HU9.out.trans' (f10.mono (T := fun b => b = g ∨ b = k ∨ b = H) fun _ _ h => h.elim))
              have HPN := hide (show P9 ≠ g ∧ P9 ≠ k ∧ P9 ≠ H by have h1 := HU9.out.size; have h2 := HGL.out; have h3 := HH.out; have h5 := HU2.out.size; have h6 := HS0.out; omega)
              have HGN9 := hide (show ∀ b, (Value.slice (some ⟨g9, 0, none⟩) (outs.length + 1) c9).ownBlock = some b → b ≠ g ∧ b ≠ k ∧ b ≠ H from fun b hb => by have h1 := HOG.out b hb; have h2 := HGL.out; have h3 := HU2.out.size; have h4 := HK2.out; have h5 := F0.out.size; have h6 := HKN.out; have h7 := HS0.out; omega)
              clear hP9 hw10 f10
              go_loopg [71] 3 (fun f vi wq => ∃ (i : Nat) (S2 : Sts) (s2 : Nat × Int), i + f = 3 ∧ vi = .int .i64 i ∧ mvF V T S' v3.2 i = (S2, s2) ∧ S2.ok T ∧ Upd (fun b => b = g ∨ b = k ∨ b = H) w10 wq ∧
                Blk wq H 96 #[.pointer (some ⟨g0, 0, none⟩), .int .i64 (S2.l : Nat), .pointer (some ⟨g1, 0, none⟩), .int .i64 (S2.o : Nat), .pointer (some ⟨g2, 0, none⟩), .int .i64 (S2.m : Nat)] ∧ SrAt wq F g k bs s2)
              case atStart => exact ⟨0, S', v3.2, rfl, rfl, rfl, HS'.out, Upd.refl _ _, HB10.out, HR10.out⟩
              case round =>
                obtain ⟨i, S2, s2, hf2, rfl, hmv, hok2, hu2, hbq, hrq⟩ := hrel
                have hp10 := HP10.out.upd hu2 (by have := HPN.out; omega)
                have p0 := hp10.cell 0
                have p1 := hp10.cell 1
                have p2 := hp10.cell 2
                simp at p0 p1 p2
                have HUQ := hide hu2
                have HBQ := hide hbq
                have HRQ := hide hrq
                have HMV := hide hmv
                have HK2' := hide hok2
                have HUW2 := hide (HU2.out.trans' (HU10.out.trans' hu2))
                have h4 : i = 0 ∨ i = 1 ∨ i = 2 ∨ i = 3 := by omega
                clear hu2 hbq hrq hmv hok2 hp10
                rcases h4 with rfl | rfl | rfl | rfl
                · obtain rfl : gk = 3 := by omega
                  clear hf2
                  have HON := HOL.out _ s2 S2.l _ HRQ.out HUW2.out HK2'.out.1 HBQ.out (by simp) (by simp)
                  have hq0 : (onE V T.pL T.NL S2.l s2).1 < 2 ^ T.pL := onE_lt HT.out.wide.1 HK2'.out.1 V s2
                  obtain ⟨tk, htk⟩ : ∃ tk, tk = onE V T.pL T.NL S2.l s2 := ⟨_, rfl⟩
                  rw [← htk] at HON hq0
                  have hq := hq0
                  have HSN := hide (show mvF V T S' v3.2 1 = (⟨tk.1, S2.o, S2.m⟩, tk.2) by
                    have e := HMV.out
                    have e1 : S2 = (mvF V T S' v3.2 0).1 := by rw [e]
                    have e2 : s2 = (mvF V T S' v3.2 0).2 := by rw [e]
                    rw [htk, e1, e2]; rfl)
                  have HQ5 := hide (show Sts.ok T ⟨tk.1, S2.o, S2.m⟩ from ⟨hq, HK2'.out.2.1, HK2'.out.2.2⟩)
                  have HON := hide HON
                  clear hq hq0 htk
                  go_wp2_with fail
                  refine HON.out.mono ?_
                  rintro e w11 ⟨rfl, u11, r11, b11⟩
                  have HR11 := hide r11
                  have HB11 := hide b11
                  have HU11 := hide (HUQ.out.trans' u11)
                  clear u11 r11 b11 p0 p1 p2
                  go_wp2_with fail
                  go_roundg 2
                  case measure => omega
                  case rel => exact ⟨1, _, _, rfl, by go_num, HSN.out, HQ5.out, HU11.out, by simpa using HB11.out, HR11.out⟩
                · obtain rfl : gk = 2 := by omega
                  clear hf2
                  have HON := HOM.out _ s2 S2.m _ HRQ.out HUW2.out HK2'.out.2.2 HBQ.out (by simp) (by simp)
                  have hq0 : (onE V T.pM T.NM S2.m s2).1 < 2 ^ T.pM := onE_lt HT.out.wide.2.2 HK2'.out.2.2 V s2
                  obtain ⟨tk, htk⟩ : ∃ tk, tk = onE V T.pM T.NM S2.m s2 := ⟨_, rfl⟩
                  rw [← htk] at HON hq0
                  have hq := hq0
                  have HSN := hide (show mvF V T S' v3.2 2 = (⟨S2.l, S2.o, tk.1⟩, tk.2) by
                    have e := HMV.out
                    have e1 : S2 = (mvF V T S' v3.2 1).1 := by rw [e]
                    have e2 : s2 = (mvF V T S' v3.2 1).2 := by rw [e]
                    rw [htk, e1, e2]; rfl)
                  have HQ5 := hide (show Sts.ok T ⟨S2.l, S2.o, tk.1⟩ from ⟨HK2'.out.1, HK2'.out.2.1, hq⟩)
                  have HON := hide HON
                  clear hq hq0 htk
                  go_wp2_with fail
                  refine HON.out.mono ?_
                  rintro e w11 ⟨rfl, u11, r11, b11⟩
                  have HR11 := hide r11
                  have HB11 := hide b11
                  have HU11 := hide (HUQ.out.trans' u11)
                  clear u11 r11 b11 p0 p1 p2
                  go_wp2_with fail
                  go_roundg 1
                  case measure => omega
                  case rel => exact ⟨2, _, _, rfl, by go_num, HSN.out, HQ5.out, HU11.out, by simpa using HB11.out, HR11.out⟩
                · obtain rfl : gk = 1 := by omega
                  clear hf2
                  have HON := HOO.out _ s2 S2.o _ HRQ.out HUW2.out HK2'.out.2.1 HBQ.out (by simp) (by simp)
                  have hq0 : (onE V T.pO T.NO S2.o s2).1 < 2 ^ T.pO := onE_lt HT.out.wide.2.1 HK2'.out.2.1 V s2
                  obtain ⟨tk, htk⟩ : ∃ tk, tk = onE V T.pO T.NO S2.o s2 := ⟨_, rfl⟩
                  rw [← htk] at HON hq0
                  have hq := hq0
                  have HSN := hide (show mvF V T S' v3.2 3 = (⟨S2.l, tk.1, S2.m⟩, tk.2) by
                    have e := HMV.out
                    have e1 : S2 = (mvF V T S' v3.2 2).1 := by rw [e]
                    have e2 : s2 = (mvF V T S' v3.2 2).2 := by rw [e]
                    rw [htk, e1, e2]; rfl)
                  have HQ5 := hide (show Sts.ok T ⟨S2.l, tk.1, S2.m⟩ from ⟨HK2'.out.1, hq, HK2'.out.2.2⟩)
                  have HON := hide HON
                  clear hq hq0 htk
                  go_wp2_with fail
                  refine HON.out.mono ?_
                  rintro e w11 ⟨rfl, u11, r11, b11⟩
                  have HR11 := hide r11
                  have HB11 := hide b11
                  have HU11 := hide (HUQ.out.trans' u11)
                  clear u11 r11 b11 p0 p1 p2
                  go_wp2_with fail
                  go_roundg 0
                  case measure => omega
                  case rel => exact ⟨3, _, _, rfl, by go_num, HSN.out, HQ5.out, HU11.out, by simpa using HB11.out, HR11.out⟩
                · have hmm : moveE V T S' v3.2 = (S2, s2) := HMV.out
                  have HMM := hide hmm
                  obtain rfl : gk = 0 := by omega
                  clear hf2 hmm
                  go_wp2_with fail
                  go_roundg (gq - 1)
                  case measure => omega
                  case rel =>
                    have h1 := HX1.out
                    have h2 := HX2.out
                    obtain ⟨q, rfl⟩ : ∃ q, gq = q + 1 := ⟨gq - 1, by omega⟩
                    rw [readE_more V T q S' s' he (by omega), HONE.out] at h1 h2
                    simp only [HMM.out] at h1 h2
                    refine ⟨outs ++ [⟨v3.1, ln, v1.1⟩], S2, s2, by have := HF0.out; simp; omega, HK2'.out, HO10.out.upd HUQ.out (fun b hb e => by have := HGN9.out b hb; omega), HOG.out, HU10.out.trans' HUQ.out, HBQ.out, HRQ.out, ?_, ?_⟩
                    · simpa using h1
                    · simpa using h2
          · have hne : ((s'.2 : Int) == 0) = false := by simpa using he
            have HEND := hide (show outs = X.1 ∧ s' = X.2 by
              have h1 := HX1.out
              have h2 := HX2.out
              rw [readE_stop V T gk S' s' (.inr he)] at h1 h2
              exact ⟨by simpa using h1, h2⟩)
            have hal : AL = (outs, s'.1, if s'.2 = 0 ∧ s'.1 ≠ 0 then 14 else s'.2) := by
              have h := HAL.out
              rw [← HEND.out.1, ← HEND.out.2] at h
              exact h
            have hU : Upd (fun b => b = g ∨ b = k) w wr := (F0.out.mono (T := fun b => b = g ∨ b = k) fun _ _ h => h.elim).trans (HU2.out.trans' HU.out) (fun b hb e => by have := HH.out; rcases e with e | e | e; exact .inl e; exact .inr e; omega)
            have hO : ∀ b, (Value.slice Ao no co).ownBlock = some b → w.heap.size ≤ b := fun b hb => by have h1 := HOB.out b hb; have h2 := HK2.out; have h3 := HU2.out.size; have h4 := F0.out.size; omega
            go_wp2_with fail
            try go_ret
            refine hR.out _ _ ⟨_, rfl, ?_, hO, hU, ?_⟩
            · rw [hal]; exact HOW.out
            · rw [hal, if_neg (by simp [he])]; exact HSR.out

end Go.Proofs.YtjfdaphjijfieaaGreat

/-
  Package seqs: row.
  Conditions: none beyond those of each theorem.
-/
namespace Go.Proofs.YtjfdaphjijfieaaGreat
open Go.RowKit
set_option linter.unusedVariables false
set_option linter.unusedSimpArgs false

theorem infoSeq : (Tryz.prog.info? 23).map (fun i => (i.zero, i.size, i.bytes)) = some (some (.agg #[.int .i64 0, .int .i64 0, .int .i64 0]), 3, 24) := by kernel_rfl

section
variable {P : Program} (w : World)
theorem step_app_row {ops : Array Oper} {o : Oper} {a : Act} {K : Act → World → Prop} {Q : Exit → Act → World → Prop} {E : Prop} (hgd : o.guard = none) (s x : Operand) (t : TypeId)
    (ho : o.op = .call { callee := .builtin .append, args := #[s, x], argTypes := #[t, t] }) (e : TypeId) (z : Value) (k bytes : Nat) (ht : P.underlying t = some (.slice e)) (hi : (P.info? e).map (fun i => (i.zero, i.size, i.bytes)) = some (some z, k, bytes)) (hzs : z.cells.size = k) (hk : 0 < k) (hby : bytes ≤ 1024)
    (v : Value) (rows : List (List Value)) (hs : a.eval s = v) (hown : OwnK w e k v rows) (kb cap : Nat) (row : List Value) (hrow : row.length = k) (h1 : ∀ u ∈ row, u.oneCell' = true) (hx : a.eval x = .slice (some ⟨kb, 0, none⟩) 1 cap) (hb : Blk w kb e row.toArray) (hlen : rows.length ≤ 2 ^ 30)
    (h : ∀ g cap w', OwnK w' e k (.slice (some ⟨g, 0, none⟩) (rows.length + 1) cap) (rows ++ [row]) → w.grownBy w' v.ownBlock → (v.ownBlock = some g ∨ g = w.heap.size) → g < w'.heap.size → K (a.put o.dst (.slice (some ⟨g, 0, none⟩) (rows.length + 1) cap)) w') :
    if Region.wanted o (yielded ops a.tmps) = true then Oper.wp P o a w K Q else E := by
  obtain ⟨i, hi0, hz, hsize, hbyt⟩ := info_parts hi
  have hcells : ∀ (j : Nat) u, row[j]? = some u → w.cell? ((⟨kb, 0, none⟩ : Addr).add j) = some u := by
    intro j u hu
    rw [Addr.add_lit, hb.cells j u (by simpa using hu)]
  have hmul : (rows.length + 1) * bytes ≤ 140737488355328 := Nat.le_trans (Nat.mul_le_mul (show rows.length + 1 ≤ 2 ^ 30 + 1 by omega) hby) (by decide)
  refine step_append_lies w hgd s x _ ho 0 e i z k bytes ht hi0 hz hsize hbyt hzs hk v rows.length _ hs hown.1 ⟨kb, 0, none⟩ 1 cap row hx (by omega) hcells h1 (by omega) (by simp only [maxLen]; omega) hmul (Nat.zero_le _) _ rfl ?_
  intro g cap w' h2 h3 h4 h5
  refine h g cap w' ⟨?_, ?_⟩ h3 h4 h5
  · rw [List.flatten_append, List.length_append]
    simpa using h2
  · intro r hr
    rcases List.mem_append.1 hr with hr | hr
    · exact hown.2 r hr
    · rw [List.mem_singleton.1 hr]; exact hrow
end

/-- what row leaves -/
def RowPost (F : Nat → Prop) (g : Nat) (bs : List Nat) (r : Int × List (Int × Int × Int) × Int × Int × Int) (w : World) (e : Ending) (w' : World) : Prop :=
  Upd (fun b => b = g) w w' ∧ (if r.1 = 0 then ∃ v, e = .returned (.tuple #[v, .agg #[.int .i64 r.2.2.1, .int .i64 r.2.2.2.1, .int .i64 r.2.2.2.2], .int .i64 0]) ∧ OwnK w' 23 3 v (r.2.1.map tri) ∧ (∀ b, v.ownBlock = some b → w.heap.size ≤ b) ∧ CurAt w' F g bs bs.length
    else ∃ x y z, e = .returned (.tuple #[.slice none 0 0, .agg #[.int .i64 x, .int .i64 y, .int .i64 z], .int .i64 r.1]))

theorem set3 (w : World) (H : Nat) (v0 v1 v2 : Value) : Upd (fun b => b = H) w (((w.setCell ⟨H, 0, none⟩ v0).setCell ⟨H, 1, none⟩ v1).setCell ⟨H, 2, none⟩ v2) :=
  (((Upd.refl (fun b => b = H) w).setCell (p := ⟨H, 0, none⟩) (fun _ => rfl) _).setCell (p := ⟨H, 1, none⟩) (fun _ => rfl) _).setCell (p := ⟨H, 2, none⟩) (fun _ => rfl) _
theorem Blk.set3 {w : World} {H : Nat} {t : TypeId} {a0 a1 a2 : Value} (h : Blk w H t #[a0, a1, a2]) (v0 v1 v2 : Value) :
    Blk (((w.setCell ⟨H, 0, none⟩ v0).setCell ⟨H, 1, none⟩ v1).setCell ⟨H, 2, none⟩ v2) H t #[v0, v1, v2] := by
  have := ((h.set_ 0 v0).set_ 1 v1).set_ 2 v2
  simpa using this

set_option maxRecDepth 100000 in
set_option maxHeartbeats 40000000 in
theorem row_any (F G : Nat → Prop) (g : Nat) (bs : List Nat) (at_ num : Nat) (A B C : Option Addr) (n' c m d k' e : Nat) (T : Trks) (r0 r1 r2 : Int) (w : World) (hcu : CurAt w F g bs at_) (hF : ∀ b, F b → b ≠ g) (hT : T.ok)
    (h1 : Rd w G A n' (ints T.NL)) (h2 : Rd w G B m (ints T.NO)) (h3 : Rd w G C k' (ints T.NM)) (f1 : Fit T.NL) (f2 : Fit T.NO) (f3 : Fit T.NM) (b1 : (n' : Int) ≤ 1099511627776) (b2 : (m : Int) ≤ 1099511627776) (b3 : (k' : Int) ≤ 1099511627776)
    (hnum : num ≤ 65536) (hrep : repOk r0 r1 r2 = true) :
    Calls Tryz.prog 38 #[.pointer (some ⟨g, 0, none⟩), .agg #[.int .i64 (T.pL : Nat), .slice A n' c, .int .i64 (T.pO : Nat), .slice B m d, .int .i64 (T.pM : Nat), .slice C k' e], .int .i64 (num : Nat), .agg #[.int .i64 r0, .int .i64 r1, .int .i64 r2]] w (RowPost F g bs (rowE (bs.drop at_) T num r0 r1 r2) w) := by
  have hlt : ∀ b ∈ bs, b < 256 := by obtain ⟨_, _, _, _, h, _⟩ := hcu; exact h
  have hle : at_ ≤ bs.length ∧ bs.length ≤ 2 ^ 32 := by obtain ⟨_, _, _, _, _, h5, h6, _⟩ := hcu; exact ⟨h5, h6⟩
  have hgl := hcu.lt
  obtain ⟨w0, hw0⟩ : ∃ w0, w0 = ((w.alloc (.cells #[.int .i64 (T.pL : Nat), .slice A n' c, .int .i64 (T.pO : Nat), .slice B m d, .int .i64 (T.pM : Nat), .slice C k' e] 69)).alloc (.cells #[.int .i64 r0, .int .i64 r1, .int .i64 r2] 30)).alloc (.cells #[.int .i64 0, .int .i64 0, .int .i64 0] 30) := ⟨_, rfl⟩
  obtain ⟨H, hH⟩ : ∃ H, H = w.heap.size := ⟨_, rfl⟩
  have f0 : Fresh w w0 := by rw [hw0]; exact (((Upd.refl _ _).alloc _).alloc _).alloc _
  have bt : Blk w0 H 69 #[.int .i64 (T.pL : Nat), .slice A n' c, .int .i64 (T.pO : Nat), .slice B m d, .int .i64 (T.pM : Nat), .slice C k' e] := by rw [hw0]; exact ((blk_new hH _ _).alloc _).alloc _
  have ba : Blk w0 (H + 1) 30 #[.int .i64 r0, .int .i64 r1, .int .i64 r2] := by rw [hw0]; exact (blk_new (by simp [hH]) _ _).alloc _
  have bo : Blk w0 (H + 1 + 1) 30 #[.int .i64 0, .int .i64 0, .int .i64 0] := by rw [hw0]; exact blk_new (by simp [hH]) _ _
  have hs0 : w0.heap.size = H + 3 := by rw [hw0, hH]; simp
  have HCU := hide (hcu.both.fresh f0)
  have HTR := hide (tracks_any G A B C n' c m d k' e T w0 hT (h1.fresh f0) (h2.fresh f0) (h3.fresh f0) f1 f2 f3 b1 b2 b3)
  have HF := hide hF
  have HLT := hide (show ∀ b ∈ bs.drop at_, b < 256 from fun b hb => hlt b (List.mem_of_mem_drop hb))
  have HLE := hide hle
  have HGL := hide (show g < H by rw [hH]; exact hgl)
  have HT := hide hT
  have HREP := hide hrep
  have HW := hide hw0
  have HH := hide hH
  have F0 := hide f0
  have BT := hide bt
  have BA := hide ba
  have BO := hide bo
  have HS0 := hide hs0
  have HCL := hide (cleft_any (fun b => F b ∧ b < w.heap.size) g bs at_)
  have HCB := hide (fun W hW => cbytes_ok (fun b => F b ∧ b < w.heap.size) g bs at_ (bs.length - at_) W hW (by omega) (fun b hb => hF b hb.1))
  have x0 := bt.cell 0
  have x1 := bt.cell 1
  have x2 := bt.cell 2
  have x3 := bt.cell 3
  have x4 := bt.cell 4
  have x5 := bt.cell 5
  simp at x0 x1 x2 x3 x4 x5
  clear hcu h1 h2 h3 f1 f2 f3 b1 b2 b3 hF hlt hle hgl hT hrep hw0 hH f0 bt ba bo hs0
  refine veil fun R hR => ?_
  go_enter Tryz.func38, Tryz.ntmps38
  go_upto_region 1 with fail
  simp only [← HH.out, ← HW.out]
  go_wp2_with fail
  refine HTR.out.mono ?_
  rintro e1 w1 ⟨v0, v1, v2, rfl, p0, p1, p2, f1⟩
  obtain ⟨g0, rfl, c0⟩ := p0
  obtain ⟨g1, rfl, c1⟩ := p1
  obtain ⟨g2, rfl, c2⟩ := p2
  have C0 := hide (c0.mono (G := fun b => H + 3 ≤ b ∧ b < w1.heap.size) (fun b hb hl => ⟨by rw [← HS0.out]; exact hb, hl⟩))
  have C1 := hide (c1.mono (G := fun b => H + 3 ≤ b ∧ b < w1.heap.size) (fun b hb hl => ⟨by rw [← HS0.out]; exact hb, hl⟩))
  have C2 := hide (c2.mono (G := fun b => H + 3 ≤ b ∧ b < w1.heap.size) (fun b hb hl => ⟨by rw [← HS0.out]; exact hb, hl⟩))
  have F1 := hide f1
  clear c0 c1 c2 f1 x0 x1 x2 x3 x4 x5 HTR
  go_upto_region 2 with fail
  obtain ⟨K, hK⟩ : ∃ K, K = w1.heap.size := ⟨_, rfl⟩
  obtain ⟨w2, hw2⟩ : ∃ w2, w2 = w1.alloc (.cells #[.pointer (some ⟨g0, 0, none⟩), .int .i64 0, .pointer (some ⟨g1, 0, none⟩), .int .i64 0, .pointer (some ⟨g2, 0, none⟩), .int .i64 0] 96) := ⟨_, rfl⟩
  simp only [← hK, ← hw2]
  have f2 : Fresh w1 w2 := by rw [hw2]; exact (Upd.refl _ _).alloc _
  have HK2 := hide (show Blk w2 K 96 #[.pointer (some ⟨g0, 0, none⟩), .int .i64 0, .pointer (some ⟨g1, 0, none⟩), .int .i64 0, .pointer (some ⟨g2, 0, none⟩), .int .i64 0] by rw [hw2]; exact blk_new hK _ _)
  have HK1 := hide hK
  have F2 := hide (F1.out.trans' f2)
  have FC := hide f2
  clear hK hw2 f2
  go_wp2_with fail
  refine (HCL.out w2 (HCU.out.fresh F2.out)).mono ?_
  rintro e1 w3 ⟨rfl, q3, rfl⟩
  have F3 := hide (F2.out.drewN q3)
  have FC3 := hide (FC.out.drewN q3)
  have HK3 := hide (HK2.out.drewN q3)
  generalize w2.drewN q3 = w3 at *
  go_wp2_with fail
  refine (HCB.out w3 (HCU.out.fresh F3.out)).mono ?_
  rintro e1 w4 ⟨vb, rfl, ob, u4, c4⟩
  rw [List.take_of_length_le (by simp)] at ob
  obtain ⟨Ab, nb, cb, rfl, hnb⟩ := ob.form'
  obtain ⟨hnb1, hcb, rb⟩ := ob.rd rfl
  have rb2 := rb.mono (G := fun _ => True) (fun _ _ => trivial)
  rw [← hnb1] at rb2
  have HNB := hide (fun W (f : Fresh w4 W) => newback_any (fun _ => True) Ab nb cb (bs.drop at_) W (rb2.fresh f) HLT.out (by have := HLE.out; simp; omega))
  have HU4 := hide ((F3.out.mono (T := fun b => b = g) fun _ _ h => h.elim).trans' u4)
  have e4 : at_ + (bs.length - at_) = bs.length := by have := HLE.out; omega
  rw [e4] at c4
  have HC4 := hide c4
  have HU34 := hide u4
  clear ob u4 c4 rb rb2 hnb1 hcb hnb e4
  obtain ⟨BS, hBS⟩ : ∃ BS, BS = bs.drop at_ := ⟨_, rfl⟩
  rw [← hBS] at HNB HLT hR
  have HBS := hide hBS
  clear hBS
  by_cases hz : (BS.getLast?).getD 0 = 0
  · have HNB2 := hide (HNB.out w4 (Upd.refl _ _))
    simp only [if_pos hz] at HNB2
    have HE := hide (show rowE BS T num r0 r1 r2 = (14, [], 0, 0, 0) by unfold rowE; rw [if_pos hz])
    clear HNB
    go_wp2_with fail
    refine HNB2.out.mono ?_
    rintro e1 w5 ⟨rfl, f5⟩
    have HU5 := hide (HU4.out.trans' (f5.mono (T := fun b => b = g) fun _ _ h => h.elim))
    have a5 := BA.out.upd HU5.out (by have := HGL.out; omega)
    have o5 := BO.out.upd HU5.out (by have := HGL.out; omega)
    clear f5
    have HUV := hide ((F0.out.mono (T := fun b => b = g) fun _ _ h => h.elim).trans' HU5.out)
    have y0 := a5.cell 0
    have y1 := a5.cell 1
    have y2 := a5.cell 2
    have x0 := o5.cell 0
    have x1 := o5.cell 1
    have x2 := o5.cell 2
    have z0 := o5.frozen 0
    have z1 := o5.frozen 1
    have z2 := o5.frozen 2
    simp at y0 y1 y2 x0 x1 x2
    have hO := o5.set3 (.int .i64 r0) (.int .i64 r1) (.int .i64 r2)
    have d0 := hO.drew.cell 0
    have d1 := hO.drew.cell 1
    have d2 := hO.drew.cell 2
    simp at d0 d1 d2
    have HD := hide (And.intro d0 (And.intro d1 d2))
    have HUF := hide (HUV.out.trans (set3 w5 (H + 1 + 1) (.int .i64 r0) (.int .i64 r1) (.int .i64 r2)) (fun b hb e => by have := HH.out; omega)).drew
    clear a5 o5 hO d0 d1 d2
    go_wp2_with fail
    go_region
    all_goals go_wp2_with fail
    obtain ⟨d0, d1, d2⟩ := HD.out
    refine bodyPost_ret (v := .tuple #[.slice none 0 0, .agg #[.int .i64 r0, .int .i64 r1, .int .i64 r2], .int .i64 14]) (by simp [results, Tryz.results38, go_sem, d0, d1, d2]) rfl ?_
    refine hR.out _ _ ⟨HUF.out, ?_⟩
    rw [HE.out, if_neg (by simp)]
    exact ⟨r0, r1, r2, rfl⟩
  · have HNB2 := hide (HNB.out w4 (Upd.refl _ _))
    simp only [if_neg hz] at HNB2
    have hrow : rowE BS T num r0 r1 r2 = if (allE (valR BS) T num (closedN BS)).2.2 ≠ 0 then ((allE (valR BS) T num (closedN BS)).2.2, [], 0, 0, 0) else offsE r0 r1 r2 (allE (valR BS) T num (closedN BS)).1 := by
      unfold rowE
      rw [if_neg hz]
    have HGD := hide (allE_good HT.out (valR BS) num (closedN BS))
    have HLN := hide (allE_len (valR BS) T num (closedN BS))
    have hrd := fun F' G' g' k' w' h1 h2 h3 h4 h5 c0 c1 c2 h6 => read_any F' G' g' k' BS (closedN BS) num g0 g1 g2 T w' h1 h2 h3 h4 h5 c0 c1 c2 h6 HT.out hnum
    obtain ⟨AL, hAL⟩ : ∃ AL, AL = allE (valR BS) T num (closedN BS) := ⟨_, rfl⟩
    rw [← hAL] at hrow HGD HLN
    simp only [← hAL] at hrd
    have HRD := hide hrd
    have HROW := hide hrow
    have HNUM := hide hnum
    clear HNB hrow hrd hAL hnum
    generalize closedN BS = tc at *
    go_wp2_with fail
    refine HNB2.out.mono ?_
    rintro e1 w5 ⟨kb, rfl, hkb, f5, bw5⟩
    have HU5 := hide (HU4.out.trans' (f5.mono (T := fun b => b = g) fun _ _ h => h.elim))
    have F5 := hide f5
    have HC5 := hide (HC4.out.fresh f5)
    have HBW := hide bw5.both
    have HKL := hide bw5.lt
    have HKB := hide hkb
    clear f5 bw5 hkb
    go_upto_region 11 with fail
    obtain ⟨M, hM⟩ : ∃ M, M = w5.heap.size := ⟨_, rfl⟩
    obtain ⟨w6, hw6⟩ : ∃ w6, w6 = w5.alloc (.cells #[.pointer (some ⟨kb, 0, none⟩), .int .i64 0] 119) := ⟨_, rfl⟩
    simp only [← hM, ← hw6]
    have f6 : Fresh w5 w6 := by rw [hw6]; exact (Upd.refl _ _).alloc _
    have bm6 : Blk w6 M 119 #[.pointer (some ⟨kb, 0, none⟩), .int .i64 0] := by rw [hw6]; exact blk_new hM _ _
    have HM := hide hM
    have hs6 : w6.heap.size = M + 1 := by rw [hw6, hM]; simp
    have cup : ∀ (c p : Nat) (N : List Int), CoderF w1 (fun b => H + 3 ≤ b ∧ b < w1.heap.size) c p N → CoderF w6 (fun b => H + 3 ≤ b ∧ b < w1.heap.size) c p N := fun c p N h =>
      (((h.fresh FC3.out).upd HU34.out (fun b hb _ e => by have := HGL.out; omega)).fresh F5.out).fresh f6
    have hkk : w1.heap.size ≤ kb := by have h1 := HKB.out; have h2 := FC3.out.size; have h3 := HU34.out.size; omega
    have HRD2 := hide (HRD.out _ (fun b => H + 3 ≤ b ∧ b < w1.heap.size) M kb w6 ⟨by simpa using bm6, HBW.out.fresh f6⟩ (by have := HKL.out; omega) (fun b hb => hb.1.2) (fun b hb => by have := hb.2; omega) (fun b hb => by have := hb.2; have := f6.size; omega)
      (cup _ _ _ C0.out) (cup _ _ _ C1.out) (cup _ _ _ C2.out) (fun b hb => by have h1 := HKL.out; have h2 := hb.2; omega))
    have HU6 := hide (HU5.out.trans' (f6.mono (T := fun b => b = g) fun _ _ h => h.elim))
    have HC6 := hide (HC5.out.fresh f6)
    have HS6 := hide hs6
    have HMN := hide (show H + 3 ≤ kb ∧ kb < M ∧ H + 3 ≤ w1.heap.size by have h1 := F1.out.size; have h2 := HS0.out; have h3 := HKL.out; omega)
    have k6 := (HK3.out.upd HU34.out (by have h1 := HGL.out; have h2 := HK1.out; have h3 := F1.out.size; have h4 := HS0.out; omega)).fresh (F5.out.trans' f6)
    have t0 := k6.cell 0
    have t1 := k6.cell 1
    have t2 := k6.cell 2
    have t3 := k6.cell 3
    have t4 := k6.cell 4
    have t5 := k6.cell 5
    simp at t0 t1 t2 t3 t4 t5
    clear hM hw6 f6 bm6 hs6 cup hkk HRD C0 C1 C2
    clear k6
    go_wp2_with fail
    refine HRD2.out.mono ?_
    rintro e1 w7 ⟨v7, rfl, ov, hvb, u7, s7⟩
    have HU7 := hide (HU6.out.trans u7 (fun b hb e => by have h1 := HMN.out; have h2 := HS0.out; omega))
    have HC7 := hide (HC6.out.upd u7 (by have h1 := HMN.out; have h2 := HGL.out; omega) (fun b _ hb e => by have h1 := HMN.out; have h2 := hb.2; have h3 := HH.out; omega))
    have a5 := BA.out.upd HU7.out (by have := HGL.out; omega)
    have o5 := BO.out.upd HU7.out (by have := HGL.out; omega)
    have e1 := s7.1.cell 1
    simp at e1
    have HS7 := hide s7
    obtain ⟨Ar, nr, cr, rfl, hnr⟩ := ov.form'
    obtain ⟨hnr1, hcr, rr⟩ := ov.rd rfl
    have HOV := hide ov
    have HVB := hide hvb
    clear u7 s7 t0 t1 t2 t3 t4 t5 HRD2 hnr
    by_cases he : AL.2.2 = 0
    · have hL : ∃ L, L = AL.1 := ⟨_, rfl⟩
      obtain ⟨L, hL⟩ := hL
      have HROW2 := hide (show rowE BS T num r0 r1 r2 = offsE r0 r1 r2 L by rw [HROW.out, if_neg (by simp [he]), hL])
      rw [← hL] at HOV HGD HLN rr hnr1
      rw [List.length_map] at hnr1
      rw [List.length_map, ← hnr1] at rr
      have HRR := hide rr
      have HNR := hide hnr1
      have HVB2 := hide (fun b hb => (⟨hvb b hb, by have h := ov.lt hb; exact h⟩ : w6.heap.size ≤ b ∧ b < w7.heap.size))
      rw [he] at e1
      obtain ⟨tot, htot⟩ : ∃ tot, tot = offsE r0 r1 r2 L := ⟨_, rfl⟩
      rw [← htot] at HROW2
      have HTOT := hide htot
      have HN65 := hide (show nr ≤ 65536 by have h1 := HLN.out; have h2 := HNUM.out; have h3 := HNR.out; omega)
      clear ov hvb rr hnr1 hL HROW htot
      go_wp2_with fail
      go_loopg [71, 17] nr (fun f vi v wr => ∃ (j : Nat) (a b c : Int) (outs : List (Int × Int × Int)), j + f = nr ∧ vi = .int .i64 j ∧ repOk a b c = true ∧ outs.length = j ∧ joinO outs (offsE a b c (L.drop j)) = tot ∧
        Upd (fun b => b = H + 1) w7 wr ∧ Blk wr (H + 1) 30 #[.int .i64 a, .int .i64 b, .int .i64 c] ∧ OwnK wr 23 3 v (outs.map tri) ∧ (∀ b, v.ownBlock = some b → w7.heap.size ≤ b))
      case atStart => exact ⟨0, r0, r1, r2, [], by omega, rfl, HREP.out, rfl, by rw [HTOT.out, List.drop_zero]; exact joinO_nil _ _ _ _, Upd.refl _ _, a5, OwnK.nil _ _ _, fun b h => by simp [Value.ownBlock] at h⟩
      case round =>
        obtain ⟨j, a, b, c, outs, hj, rfl, hrep, hol, hjo, hu, hb, ho, hob⟩ := hrel
        have HUV := hide (((F0.out.mono (T := fun b => b = g) fun _ _ h => h.elim).trans' HU7.out).trans hu (fun b hb e => by have := HH.out; omega))
        have hsz := hu.size
        by_cases hjn : j < nr
        · have hjI : (j : Int) < nr := by omega
          have hjL : j < L.length := by have := HNR.out; omega
          have hr1 := HRR.out.upd hu (fun b _ hb e => by have h1 := (HVB2.out b hb).1; have h2 := HMN.out; have h3 := HS6.out; omega)
          obtain ⟨xb, xo, rfl, hxF, hxl, hxc⟩ := hr1.at_ (r := 0) hjn
          obtain ⟨x, hx⟩ : ∃ x, x = L[j] := ⟨_, rfl⟩
          have hget : (L.map rawC)[j]'(by simpa using hjL) = rawC x := by rw [hx, List.getElem_map]
          rw [hget] at hxc
          have c0 := hxc 0 (by omega)
          have c1 := hxc 1 (by omega)
          have c2 := hxc 2 (by omega)
          simp [rawC] at c0 c1 c2
          have hgd : x.good := HGD.out x (by rw [hx]; exact List.getElem_mem hjL)
          have hdr : L.drop j = x :: L.drop (j + 1) := by rw [hx]; exact List.drop_eq_getElem_cons hjL
          rw [hdr] at hjo
          have HOF := hide (fun W => offset_any a b c (x.lit : Nat) (x.len : Nat) (x.val : Nat) W hrep (by omega) (by have := hgd; unfold RawN.good at this; omega))
          have hw4 : IntKind.i64.wrap ((j : Int) + 1) = j + 1 := IntWalk.i64_in _ (by have := HN65.out; omega)
          have HJ := hide hj
          have HREP2 := hide hrep
          have HOL := hide hol
          have HJO := hide hjo
          have HU := hide hu
          have HB := hide hb
          have HO := hide ho
          have HOB := hide hob
          clear hr1 hxF hxl hxc hget hx hgd hdr hj hrep hol hjo hu hb ho hob
          go_upto_region 18 with fail
          obtain ⟨X, hX⟩ : ∃ X, X = wr.heap.size := ⟨_, rfl⟩
          obtain ⟨wx, hwx⟩ : ∃ wx, wx = wr.alloc (.cells #[.int .i64 (x.lit : Nat), .int .i64 (x.len : Nat), .int .i64 (x.val : Nat)] 86) := ⟨_, rfl⟩
          simp only [← hX, ← hwx]
          have fx : Fresh wr wx := by rw [hwx]; exact (Upd.refl _ _).alloc _
          have bx : Blk wx X 86 #[.int .i64 (x.lit : Nat), .int .i64 (x.len : Nat), .int .i64 (x.val : Nat)] := by rw [hwx]; exact blk_new hX _ _
          have ab := HB.out.fresh fx
          have y0 := bx.cell 0
          have y1 := bx.cell 1
          have y2 := bx.cell 2
          have q0 := ab.cell 0
          have q1 := ab.cell 1
          have q2 := ab.cell 2
          simp at y0 y1 y2 q0 q1 q2
          have HX := hide hX
          have FX := hide fx
          have BX := hide bx
          have AB := hide ab
          clear hX hwx fx bx ab c0 c1 c2
          by_cases ho : offOk (offR a b c (x.lit : Nat) (x.val : Nat))
          · have HOF2 := hide (HOF.out wx)
            unfold offPost at HOF2
            simp only [if_pos ho] at HOF2
            have HJS := hide (joinO_step (outs := outs) (L := L.drop (j + 1)) ho)
            have HRN := hide (nextR_ok HREP2.out ho)
            obtain ⟨off, hoff⟩ : ∃ off, off = offR a b c (x.lit : Nat) (x.val : Nat) := ⟨_, rfl⟩
            obtain ⟨nx, hnx⟩ : ∃ nx, nx = nextR a b c (x.lit : Nat) (x.val : Nat) := ⟨_, rfl⟩
            rw [← hoff, ← hnx] at HOF2
            rw [← hnx] at HRN
            rw [← hoff, ← hnx] at HJS
            obtain ⟨n1, n2, n3⟩ := nx
            simp only at HOF2 HRN HJS
            clear HOF ho hoff hnx
            go_wp2_with fail
            refine HOF2.out.mono ?_
            rintro e1 w8 ⟨f8, rfl⟩
            go_upto_region 19 with fail
            obtain ⟨Y, hY⟩ : ∃ Y, Y = w8.heap.size := ⟨_, rfl⟩
            obtain ⟨w9, hw9⟩ : ∃ w9, w9 = w8.alloc (.cells #[.int .i64 n1, .int .i64 n2, .int .i64 n3] 30) := ⟨_, rfl⟩
            simp only [← hY, ← hw9]
            have f9 : Fresh w8 w9 := by rw [hw9]; exact (Upd.refl _ _).alloc _
            have by9 : Blk w9 Y 30 #[.int .i64 n1, .int .i64 n2, .int .i64 n3] := by rw [hw9]; exact blk_new hY _ _
            have bx9 := (BX.out.fresh f8).fresh f9
            have ab9 := (AB.out.fresh f8).fresh f9
            have FW := FX.out.trans' (f8.trans' f9)
            have ov9 := HO.out.fresh FW
            have hwrl := fun b hb => HO.out.lt (b := b) hb
            have HN := hide (show X ≠ H + 1 ∧ Y ≠ H + 1 ∧ X < w9.heap.size ∧ Y < w9.heap.size ∧ (∀ b, u17.ownBlock = some b → b ≠ X ∧ b ≠ Y ∧ b ≠ H + 1 ∧ b < w9.heap.size) ∧ H + 1 < w9.heap.size by
              have h1 := HX.out
              have h2 := f8.size
              have h3 := FX.out.size
              have h4 := HU7.out.size
              have h5 := HS0.out
              have h6 := by9.lt
              have h7 := f9.size
              refine ⟨by omega, by omega, by omega, by omega, fun b hb => ?_, by omega⟩
              have h8 := hwrl b hb
              have h9 := HOB.out b hb
              omega)
            have HSX : Hid (∀ W, Upd (fun b => u17.ownBlock = some b ∨ b = H + 1) w9 W → W.cell? ⟨X, 0, none⟩ = some (.int .i64 (x.lit : Nat)) ∧ W.cell? ⟨X, 1, none⟩ = some (.int .i64 (x.len : Nat)) ∧ W.cell? ⟨Y, 0, none⟩ = some (.int .i64 n1) ∧ W.cell? ⟨Y, 1, none⟩ = some (.int .i64 n2) ∧ W.cell? ⟨Y, 2, none⟩ = some (.int .i64 n3)) := fun W u => by
              have hx := bx9.upd u (by rintro (h | h); exact (HN.out.2.2.2.2.1 _ h).1 rfl; exact HN.out.1 h)
              have hy := by9.upd u (by rintro (h | h); exact (HN.out.2.2.2.2.1 _ h).2.1 rfl; exact HN.out.2.1 h)
              exact ⟨by simpa using hx.cell 0, by simpa using hx.cell 1, by simpa using hy.cell 0, by simpa using hy.cell 1, by simpa using hy.cell 2⟩
            have HFW := hide FW
            have HOV9 := hide ov9
            have AB9 := hide ab9
            have hrl : (outs.map tri).length ≤ 2 ^ 30 := by have h1 := HOL.out; have h2 := HN65.out; simp; omega
            clear hY hw9 f9 by9 bx9 ab9 FW ov9 hwrl f8 y0 y1 y2 q0 q1 q2
            go_wp2_with fail
            go_region_held3 (fun W => W.cell? ⟨X, 0, none⟩ = some (.int .i64 (x.lit : Nat)) ∧ W.cell? ⟨X, 1, none⟩ = some (.int .i64 (x.len : Nat)) ∧ W.cell? ⟨Y, 0, none⟩ = some (.int .i64 n1) ∧ W.cell? ⟨Y, 1, none⟩ = some (.int .i64 n2) ∧ W.cell? ⟨Y, 2, none⟩ = some (.int .i64 n3))
              (first | exact HSX.out _ (Upd.refl _ _).drew | exact HSX.out _ ((Upd.refl _ _).drew.alloc _) | exact HSX.out _ ug | exact HSX.out _ (ug.trans (set3 _ _ _ _ _) (fun b _ e => .inr e)))
              (first
                | (refine step_app_row _ rfl (.tmp 86) (.tmp 93) _ rfl 23 _ 3 24 Tryz.underlying37 infoSeq rfl (by omega) (by omega) u17 _ rfl (HOV9.out.drewN 1 |>.alloc _) w9.heap.size 1 [.int .i64 (x.lit : Nat), .int .i64 (x.len : Nat), .int .i64 off] rfl (by simp [Value.oneCell']) rfl (Blk.new _ _ _) hrl ?_; intro g10 c10 w10 o10 g10u a10 l10; have ug : Upd (fun b => u17.ownBlock = some b ∨ b = H + 1) w9 w10 := ((Upd.refl _ w9).drew.alloc _).grown g10u (fun k hk _ => .inl hk); have b10 := AB9.out.upd (S := fun b => u17.ownBlock = some b) (((Upd.refl _ w9).drew.alloc _).grown g10u (fun k hk _ => hk)) (fun h => (HN.out.2.2.2.2.1 _ h).2.2.1 rfl); have t0 := b10.cell 0; have t1 := b10.cell 1; have t2 := b10.cell 2; have z0 := b10.frozen 0; have z1 := b10.frozen 1; have z2 := b10.frozen 2; simp at t0 t1 t2))
            have er : outs.map tri ++ [[Value.int .i64 (x.lit : Nat), .int .i64 (x.len : Nat), .int .i64 off]] = (outs ++ [((x.lit : Int), (x.len : Int), off)]).map tri := by simp [tri]
            have el : (outs.map tri).length + 1 = outs.length + 1 := by simp
            rw [er] at o10
            try rw [el] at o10
            have u11 := set3 w10 (H + 1) (.int .i64 n1) (.int .i64 n2) (.int .i64 n3)
            have hog : ∀ b, (Value.slice (some ⟨g10, 0, none⟩) (outs.length + 1) c10).ownBlock = some b → w7.heap.size ≤ b ∧ b ≠ H + 1 := by
              intro b hb
              injection hb with hb
              have hb' : g10 = b := hb
              rcases a10 with h | h
              · have h1 := HOB.out g10 h; have h2 := (HN.out.2.2.2.2.1 _ h).2.2.1; omega
              · simp at h; have h1 := HN.out.2.2.1; have h2 := HX.out; have h3 := HN.out.2.2.2.2.2; omega
            have o12 := o10.upd u11 (fun b hb e => (hog b hb).2 e)
            have b12 := b10.set3 (.int .i64 n1) (.int .i64 n2) (.int .i64 n3)
            have u12 : Upd (fun b => b = H + 1) w7 (((w10.setCell ⟨H + 1, 0, none⟩ (.int .i64 n1)).setCell ⟨H + 1, 1, none⟩ (.int .i64 n2)).setCell ⟨H + 1, 2, none⟩ (.int .i64 n3)) :=
              ((HU.out.trans' (HFW.out.mono fun _ _ h => h.elim)).trans ug (fun b hb e => by rcases e with e | e; have h1 := HOB.out b e; omega; exact e)).trans' u11
            have HO12 := hide o12
            have HB12 := hide b12
            have HU12 := hide u12
            have HOG := hide (fun b hb => (hog b hb).1)
            clear er el o10 u11 hog o12 b12 u12 a10 l10 g10u ug b10 t0 t1 t2 z0 z1 z2
            go_wp2_with fail
            go_roundg (gk - 1)
            case measure => have := HJ.out; omega
            case rel => exact ⟨j + 1, n1, n2, n3, outs ++ [((x.lit : Int), (x.len : Int), off)], by have := HJ.out; omega, by go_num, HRN.out, by have := HOL.out; simp; omega, by rw [HJS.out, HJO.out], HU12.out, HB12.out, HO12.out, HOG.out⟩
          · have HOF2 := hide (HOF.out wx)
            unfold offPost at HOF2
            simp only [if_neg ho] at HOF2
            have HJN := hide (joinO_no (outs := outs) (L := L.drop (j + 1)) ho)
            clear HOF ho
            go_wp2_with fail
            refine HOF2.out.mono ?_
            rintro e1 w8 ⟨f8, rfl⟩
            go_upto_region 19 with fail
            obtain ⟨w9, hw9⟩ : ∃ w9, w9 = w8.alloc (.cells #[.int .i64 0, .int .i64 0, .int .i64 0] 30) := ⟨_, rfl⟩
            simp only [← hw9]
            have f9 : Fresh w8 w9 := by rw [hw9]; exact (Upd.refl _ _).alloc _
            have FW := FX.out.trans' (f8.trans' f9)
            have HE := hide (show rowE BS T num r0 r1 r2 = (15, [], 0, 0, 0) by rw [HROW2.out, ← HJO.out, HJN.out])
            have a5 := HB.out.fresh FW
            have o5 := (BO.out.upd HU7.out (by have := HGL.out; omega)).upd (HU.out.trans' (FW.mono (T := fun b => b = H + 1) fun _ _ h => h.elim)) (by omega)
            have HUV2 := hide (HUV.out.trans' (FW.mono (T := fun b => b = g) fun _ _ h => h.elim))
            have hn1 : H + 1 ≠ H + 1 + 1 := by omega
            clear hw9 f9 FW f8 y0 y1 y2 q0 q1 q2
            have y0 := a5.cell 0
            have y1 := a5.cell 1
            have y2 := a5.cell 2
            have x0 := o5.cell 0
            have x1 := o5.cell 1
            have x2 := o5.cell 2
            have z0 := o5.frozen 0
            have z1 := o5.frozen 1
            have z2 := o5.frozen 2
            simp at y0 y1 y2 x0 x1 x2
            have hO := o5.set3 (.int .i64 a) (.int .i64 b) (.int .i64 c)
            have d0 := hO.drew.cell 0
            have d1 := hO.drew.cell 1
            have d2 := hO.drew.cell 2
            simp at d0 d1 d2
            have HD := hide (And.intro d0 (And.intro d1 d2))
            have HUF := hide (HUV2.out.trans (set3 w9 (H + 1 + 1) (.int .i64 a) (.int .i64 b) (.int .i64 c)) (fun b hb e => by have := HH.out; omega)).drew
            clear a5 o5 hO d0 d1 d2
            go_wp2_with fail
            go_region
            all_goals go_wp2_with fail
            obtain ⟨d0, d1, d2⟩ := HD.out
            refine bodyPost_ret (v := .tuple #[.slice none 0 0, .agg #[.int .i64 a, .int .i64 b, .int .i64 c], .int .i64 15]) (by simp [results, Tryz.results38, go_sem, d0, d1, d2]) rfl ?_
            refine hR.out _ _ ⟨HUF.out, ?_⟩
            rw [HE.out, if_neg (by simp)]
            exact ⟨a, b, c, rfl⟩
        · obtain rfl : j = nr := by omega
          obtain rfl : gk = 0 := by omega
          have hrow : rowE BS T num r0 r1 r2 = (0, outs, a, b, c) := by
            rw [HROW2.out, ← hjo, List.drop_of_length_le (by have := HNR.out; omega)]
            simp [joinO, offsE]
          have HE := hide hrow
          have HO := hide (fun W S (u : Upd S wr W) hs => ho.upd u hs)
          have HOB := hide hob
          have o5' := (BO.out.upd HU7.out (by have := HGL.out; omega)).upd hu (by omega)
          have HUV := hide HUV.out
          have y0 := hb.cell 0
          have y1 := hb.cell 1
          have y2 := hb.cell 2
          have x0 := o5'.cell 0
          have x1 := o5'.cell 1
          have x2 := o5'.cell 2
          have z0 := o5'.frozen 0
          have z1 := o5'.frozen 1
          have z2 := o5'.frozen 2
          simp at y0 y1 y2 x0 x1 x2
          have hO := o5'.set3 (.int .i64 a) (.int .i64 b) (.int .i64 c)
          have d0 := hO.drew.cell 0
          have d1 := hO.drew.cell 1
          have d2 := hO.drew.cell 2
          simp at d0 d1 d2
          have HD := hide (And.intro d0 (And.intro d1 d2))
          have hs3 := set3 wr (H + 1 + 1) (.int .i64 a) (.int .i64 b) (.int .i64 c)
          have HS3 := hide hs3
          have HUF := hide (HUV.out.trans hs3 (fun b hb e => by have := HH.out; omega)).drew
          have HC := hide ((HC7.out.upd hu (by have := HGL.out; omega) (fun b _ hb e => by have h2 := hb.2; have h3 := HH.out; omega)).upd hs3 (by have := HGL.out; omega) (fun b _ hb e => by have h2 := hb.2; have h3 := HH.out; omega))
          clear hO d0 d1 d2 o5' hs3 hjo hol hrep hrow hb hu hj ho hob hjn
          go_wp2_with fail
          go_region
          all_goals go_wp2_with fail
          obtain ⟨d0, d1, d2⟩ := HD.out
          refine bodyPost_ret (v := .tuple #[u17, .agg #[.int .i64 a, .int .i64 b, .int .i64 c], .int .i64 0]) (by simp [results, Tryz.results38, go_sem, d0, d1, d2]) rfl ?_
          refine hR.out _ _ ⟨HUF.out, ?_⟩
          rw [HE.out, if_pos rfl]
          refine ⟨u17, rfl, (HO.out _ _ HS3.out (fun b hb e => ?_)).drewN 1, fun b hb => ?_, (HC.out.mono fun b hb => hb.1).fresh (Upd.refl _ _).drew⟩
          · have h1 := HOB.out b hb; have h2 := HU7.out.size; have h3 := HS0.out; omega
          · have h1 := HOB.out b hb; have h2 := HU7.out.size; have h3 := HS0.out; have h4 := HH.out; omega
    · have hne : (AL.2.2 == 0) = false := by simpa using he
      have hnt : (AL.2.2 != 0) = true := by simpa using he
      have HE := hide (show rowE BS T num r0 r1 r2 = (AL.2.2, [], 0, 0, 0) by rw [HROW.out, if_pos he])
      have hmn1 : M ≠ H + 1 + 1 := by have := HMN.out; omega
      have hmn2 : H + 1 + 1 ≠ M := by have := HMN.out; omega
      clear ov hvb rr hnr1 hcr
      have HUV := hide ((F0.out.mono (T := fun b => b = g) fun _ _ h => h.elim).trans' HU7.out)
      have y0 := a5.cell 0
      have y1 := a5.cell 1
      have y2 := a5.cell 2
      have x0 := o5.cell 0
      have x1 := o5.cell 1
      have x2 := o5.cell 2
      have z0 := o5.frozen 0
      have z1 := o5.frozen 1
      have z2 := o5.frozen 2
      simp at y0 y1 y2 x0 x1 x2
      have hO := o5.set3 (.int .i64 r0) (.int .i64 r1) (.int .i64 r2)
      have d0 := hO.drew.cell 0
      have d1 := hO.drew.cell 1
      have d2 := hO.drew.cell 2
      simp at d0 d1 d2
      have HD := hide (And.intro d0 (And.intro d1 d2))
      have HUF := hide (HUV.out.trans (set3 w7 (H + 1 + 1) (.int .i64 r0) (.int .i64 r1) (.int .i64 r2)) (fun b hb e => by have := HH.out; omega)).drew
      clear a5 o5 hO d0 d1 d2
      go_wp2_with fail
      go_region
      all_goals go_wp2_with fail
      obtain ⟨d0, d1, d2⟩ := HD.out
      refine bodyPost_ret (v := .tuple #[.slice none 0 0, .agg #[.int .i64 r0, .int .i64 r1, .int .i64 r2], .int .i64 AL.2.2]) (by simp [results, Tryz.results38, go_sem, d0, d1, d2]) rfl ?_
      refine hR.out _ _ ⟨HUF.out, ?_⟩
      rw [HE.out, if_neg he]
      exact ⟨r0, r1, r2, rfl⟩

end Go.Proofs.YtjfdaphjijfieaaGreat

/-
  Package seqs: Decode.
  Conditions: none beyond those of each theorem.
-/
namespace Go.Proofs.YtjfdaphjijfieaaGreat
open Go.RowKit
set_option linter.unusedVariables false
set_option linter.unusedSimpArgs false

theorem set10 (w : World) (H : Nat) (v0 v1 v2 v3 v4 v5 v6 v7 v8 v9 : Value) : Upd (fun b => b = H) w ((((((((((w.setCell ⟨H, 0, none⟩ v0).setCell ⟨H, 1, none⟩ v1).setCell ⟨H, 2, none⟩ v2).setCell ⟨H, 3, none⟩ v3).setCell ⟨H, 4, none⟩ v4).setCell ⟨H, 5, none⟩ v5).setCell ⟨H, 6, none⟩ v6).setCell ⟨H, 7, none⟩ v7).setCell ⟨H, 8, none⟩ v8).setCell ⟨H, 9, none⟩ v9) :=
  (((((((((((Upd.refl (fun b => b = H) w).setCell (p := ⟨H, 0, none⟩) (fun _ => rfl) _).setCell (p := ⟨H, 1, none⟩) (fun _ => rfl) _).setCell (p := ⟨H, 2, none⟩) (fun _ => rfl) _).setCell (p := ⟨H, 3, none⟩) (fun _ => rfl) _).setCell (p := ⟨H, 4, none⟩) (fun _ => rfl) _).setCell (p := ⟨H, 5, none⟩) (fun _ => rfl) _).setCell (p := ⟨H, 6, none⟩) (fun _ => rfl) _).setCell (p := ⟨H, 7, none⟩) (fun _ => rfl) _).setCell (p := ⟨H, 8, none⟩) (fun _ => rfl) _).setCell (p := ⟨H, 9, none⟩) (fun _ => rfl) _)
theorem Blk.set10 {w : World} {H : Nat} {t : TypeId} {a0 a1 a2 a3 a4 a5 a6 a7 a8 a9 : Value} (h : Blk w H t #[a0, a1, a2, a3, a4, a5, a6, a7, a8, a9]) (v0 v1 v2 v3 v4 v5 v6 v7 v8 v9 : Value) :
    Blk ((((((((((w.setCell ⟨H, 0, none⟩ v0).setCell ⟨H, 1, none⟩ v1).setCell ⟨H, 2, none⟩ v2).setCell ⟨H, 3, none⟩ v3).setCell ⟨H, 4, none⟩ v4).setCell ⟨H, 5, none⟩ v5).setCell ⟨H, 6, none⟩ v6).setCell ⟨H, 7, none⟩ v7).setCell ⟨H, 8, none⟩ v8).setCell ⟨H, 9, none⟩ v9) H t #[v0, v1, v2, v3, v4, v5, v6, v7, v8, v9] := by
  have := ((((((((((h.set_ 0 v0).set_ 1 v1).set_ 2 v2).set_ 3 v3).set_ 4 v4).set_ 5 v5).set_ 6 v6).set_ 7 v7).set_ 8 v8).set_ 9 v9)
  simpa using this

/-- what Decode leaves -/
def SecPost (F : Nat → Prop) (g : Nat) (bs : List Nat) (S : SecE) (Tr : List Int) (w : World) (e : Ending) (w' : World) : Prop :=
  Upd (fun b => b = g) w w' ∧ (if S.err = 0 then ∃ v D h i A n c B m d C k e1, e = .returned (.tuple #[v, .agg #[.slice D h i, .int .i64 S.tabs.lL, .slice A n c, .int .i64 S.tabs.lO, .slice B m d, .int .i64 S.tabs.lM, .slice C k e1, .int .i64 S.a, .int .i64 S.b, .int .i64 S.c], .int .i64 0]) ∧
      OwnK w' 23 3 v (S.seqs.map tri) ∧ (∀ b, v.ownBlock = some b → w.heap.size ≤ b) ∧ RdU w' (fun b => w.heap.size ≤ b) D h (ints Tr) ∧ RdU w' (fun b => w.heap.size ≤ b) A n (ints S.tabs.NL) ∧ RdU w' (fun b => w.heap.size ≤ b) B m (ints S.tabs.NO) ∧ RdU w' (fun b => w.heap.size ≤ b) C k (ints S.tabs.NM) ∧ CurAt w' F g bs S.to_
    else e = .returned (.tuple #[.slice none 0 0, .agg #[.slice none 0 0, .int .i64 0, .slice none 0 0, .int .i64 0, .slice none 0 0, .int .i64 0, .slice none 0 0, .int .i64 0, .int .i64 0, .int .i64 0], .int .i64 S.err]))

theorem wrap_seq (n : Nat) (h : n ≤ 65536) : wrap64 ((n : Nat) : Int) = ((n : Nat) : Int) ∧ IntKind.i64.wrap ((n : Nat) : Int) = ((n : Nat) : Int) :=
  ⟨by unfold wrap64; omega, IntWalk.i64_in _ (by omega)⟩

theorem decE_rep {bs : List Nat} {at_ : Nat} {T : Tabs3} {a b c : Int} (h : repOk a b c = false) : decE bs at_ T a b c = .no 2 := by
  unfold decE; rw [if_pos h]
theorem decE_var {bs : List Nat} {at_ : Nat} {T : Tabs3} {a b c : Int} (h : repOk a b c = true) (h1 : (varN (bs.drop at_)).2.2 ≠ 0) : decE bs at_ T a b c = .no (varN (bs.drop at_)).2.2 := by
  unfold decE; rw [if_neg (by rw [h]; simp)]; simp only; rw [if_pos h1]
theorem decE_many {bs : List Nat} {at_ : Nat} {T : Tabs3} {a b c : Int} (h : repOk a b c = true) (h1 : (varN (bs.drop at_)).2.2 = 0) (h2 : 65536 < (varN (bs.drop at_)).1) : decE bs at_ T a b c = .no 15 := by
  unfold decE; rw [if_neg (by rw [h]; simp)]; simp only; rw [if_neg (by simp [h1]), if_pos h2]
theorem decE_zero {bs : List Nat} {at_ : Nat} {T : Tabs3} {a b c : Int} (h : repOk a b c = true) (h1 : (varN (bs.drop at_)).2.2 = 0) (h2 : (varN (bs.drop at_)).1 = 0) : decE bs at_ T a b c = ⟨0, [], T, a, b, c, at_ + (varN (bs.drop at_)).2.1⟩ := by
  unfold decE; rw [if_neg (by rw [h]; simp)]; simp only; rw [if_neg (by simp [h1]), if_neg (by omega), if_pos h2]
theorem decE_head {bs : List Nat} {at_ : Nat} {T : Tabs3} {a b c : Int} (h : repOk a b c = true) (h1 : (varN (bs.drop at_)).2.2 = 0) (h2 : ¬ 65536 < (varN (bs.drop at_)).1) (h3 : (varN (bs.drop at_)).1 ≠ 0) (h4 : (headE bs (at_ + (varN (bs.drop at_)).2.1) T).1 ≠ 0) :
    decE bs at_ T a b c = .no (headE bs (at_ + (varN (bs.drop at_)).2.1) T).1 := by
  unfold decE; rw [if_neg (by rw [h]; simp)]; simp only; rw [if_neg (by simp [h1]), if_neg h2, if_neg h3, if_pos h4]
theorem decE_row {bs : List Nat} {at_ : Nat} {T : Tabs3} {a b c : Int} (h : repOk a b c = true) (h1 : (varN (bs.drop at_)).2.2 = 0) (h2 : ¬ 65536 < (varN (bs.drop at_)).1) (h3 : (varN (bs.drop at_)).1 ≠ 0) (h4 : (headE bs (at_ + (varN (bs.drop at_)).2.1) T).1 = 0)
    (h5 : (rowE (bs.drop (headE bs (at_ + (varN (bs.drop at_)).2.1) T).2.2) (headE bs (at_ + (varN (bs.drop at_)).2.1) T).2.1.trks (varN (bs.drop at_)).1 a b c).1 ≠ 0) :
    decE bs at_ T a b c = .no (rowE (bs.drop (headE bs (at_ + (varN (bs.drop at_)).2.1) T).2.2) (headE bs (at_ + (varN (bs.drop at_)).2.1) T).2.1.trks (varN (bs.drop at_)).1 a b c).1 := by
  unfold decE; rw [if_neg (by rw [h]; simp)]; simp only; rw [if_neg (by simp [h1]), if_neg h2, if_neg h3, if_neg (by simp [h4]), if_pos h5]
theorem decE_ok {bs : List Nat} {at_ : Nat} {T : Tabs3} {a b c : Int} (h : repOk a b c = true) (h1 : (varN (bs.drop at_)).2.2 = 0) (h2 : ¬ 65536 < (varN (bs.drop at_)).1) (h3 : (varN (bs.drop at_)).1 ≠ 0) {T2 : Tabs3} {to_ : Nat} (h4 : headE bs (at_ + (varN (bs.drop at_)).2.1) T = (0, T2, to_))
    {l : List (Int × Int × Int)} {x y z : Int} (h5 : rowE (bs.drop to_) T2.trks (varN (bs.drop at_)).1 a b c = (0, l, x, y, z)) :
    decE bs at_ T a b c = ⟨0, l, T2, x, y, z, bs.length⟩ := by
  unfold decE; rw [if_neg (by rw [h]; simp)]; simp only; rw [if_neg (by simp [h1]), if_neg h2, if_neg h3, h4]; simp only; rw [if_neg (by simp), h5]; simp

set_option maxRecDepth 100000 in
set_option maxHeartbeats 40000000 in
theorem sdec_nil (D A B C : Option Addr) (h i n c m d k e : Nat) (T : Tabs3) (r0 r1 r2 : Int) (w : World) :
    Calls Tryz.prog 18 #[.pointer none, .agg #[.slice D h i, .int .i64 T.lL, .slice A n c, .int .i64 T.lO, .slice B m d, .int .i64 T.lM, .slice C k e, .int .i64 r0, .int .i64 r1, .int .i64 r2]] w fun e' w' => e' = .returned (.tuple #[.slice none 0 0, .agg #[.slice none 0 0, .int .i64 0, .slice none 0 0, .int .i64 0, .slice none 0 0, .int .i64 0, .slice none 0 0, .int .i64 0, .int .i64 0, .int .i64 0], .int .i64 1]) ∧ Fresh w w' := by
  obtain ⟨w0, hw0⟩ : ∃ w0, w0 = (w.alloc (.cells #[.slice D h i, .int .i64 T.lL, .slice A n c, .int .i64 T.lO, .slice B m d, .int .i64 T.lM, .slice C k e, .int .i64 r0, .int .i64 r1, .int .i64 r2] 32)).alloc (.cells #[.slice none 0 0, .int .i64 0, .slice none 0 0, .int .i64 0, .slice none 0 0, .int .i64 0, .slice none 0 0, .int .i64 0, .int .i64 0, .int .i64 0] 32) := ⟨_, rfl⟩
  obtain ⟨H, hH⟩ : ∃ H, H = w.heap.size := ⟨_, rfl⟩
  have f0 : Fresh w w0 := by rw [hw0]; exact ((Upd.refl _ _).alloc _).alloc _
  have bo : Blk w0 (H + 1) 32 #[.slice none 0 0, .int .i64 0, .slice none 0 0, .int .i64 0, .slice none 0 0, .int .i64 0, .slice none 0 0, .int .i64 0, .int .i64 0, .int .i64 0] := by rw [hw0]; exact blk_new (by simp [hH]) _ _
  have HW := hide hw0
  have HH := hide hH
  have HUV := hide f0
  have o5 := bo
  clear hw0 hH f0 bo
  refine veil fun R hR => ?_
  go_enter Tryz.func18, Tryz.ntmps18
  go_upto_region 1 with fail
  simp only [← HH.out, ← HW.out]
  have x0 := o5.cell 0
  have x1 := o5.cell 1
  have x2 := o5.cell 2
  have x3 := o5.cell 3
  have x4 := o5.cell 4
  have x5 := o5.cell 5
  have x6 := o5.cell 6
  have x7 := o5.cell 7
  have x8 := o5.cell 8
  have x9 := o5.cell 9
  have z0 := o5.frozen 0
  have z1 := o5.frozen 1
  have z2 := o5.frozen 2
  have z3 := o5.frozen 3
  have z4 := o5.frozen 4
  have z5 := o5.frozen 5
  have z6 := o5.frozen 6
  have z7 := o5.frozen 7
  have z8 := o5.frozen 8
  have z9 := o5.frozen 9
  simp at x0 x1 x2 x3 x4 x5 x6 x7 x8 x9
  have hO := o5.set10 (.slice none 0 0) (.int .i64 0) (.slice none 0 0) (.int .i64 0) (.slice none 0 0) (.int .i64 0) (.slice none 0 0) (.int .i64 0) (.int .i64 0) (.int .i64 0)
  have d0 := hO.cell 0
  have d1 := hO.cell 1
  have d2 := hO.cell 2
  have d3 := hO.cell 3
  have d4 := hO.cell 4
  have d5 := hO.cell 5
  have d6 := hO.cell 6
  have d7 := hO.cell 7
  have d8 := hO.cell 8
  have d9 := hO.cell 9
  simp at d0 d1 d2 d3 d4 d5 d6 d7 d8 d9
  have HD := hide (And.intro d0 (And.intro d1 (And.intro d2 (And.intro d3 (And.intro d4 (And.intro d5 (And.intro d6 (And.intro d7 (And.intro d8 (d9))))))))))
  have HUF := hide (HUV.out.trans (set10 w0 (H + 1) (.slice none 0 0) (.int .i64 0) (.slice none 0 0) (.int .i64 0) (.slice none 0 0) (.int .i64 0) (.slice none 0 0) (.int .i64 0) (.int .i64 0) (.int .i64 0)) (fun b hb e => by have := HH.out; omega))
  clear o5 hO d0 d1 d2 d3 d4 d5 d6 d7 d8 d9
  go_wp2_with fail
  obtain ⟨d0, d1, d2, d3, d4, d5, d6, d7, d8, d9⟩ := HD.out
  refine bodyPost_ret (v := .tuple #[.slice none 0 0, .agg #[.slice none 0 0, .int .i64 0, .slice none 0 0, .int .i64 0, .slice none 0 0, .int .i64 0, .slice none 0 0, .int .i64 0, .int .i64 0, .int .i64 0], .int .i64 1]) (by simp [results, Tryz.results18, go_sem, d0, d1, d2, d3, d4, d5, d6, d7, d8, d9]) rfl ?_
  exact hR.out _ _ ⟨rfl, HUF.out⟩

set_option maxRecDepth 100000 in
set_option maxHeartbeats 40000000 in
theorem sdec_any (F G : Nat → Prop) (g : Nat) (bs : List Nat) (at_ : Nat) (D A B C : Option Addr) (h i n c m d k e : Nat) (T : Tabs3) (Tr : List Int) (r0 r1 r2 : Int) (w : World) (hcu : CurAt w F g bs at_) (hF : ∀ b, F b → b ≠ g) (hG : ∀ b, G b → b ≠ g)
    (h0 : Rd w G D h (ints Tr)) (h1 : Rd w G A n (ints T.NL)) (h2 : Rd w G B m (ints T.NO)) (h3 : Rd w G C k (ints T.NM)) (f1 : Fit T.NL) (f2 : Fit T.NO) (f3 : Fit T.NM) (b0 : h ≤ 2 ^ 40) (b1 : n ≤ 2 ^ 40) (b2 : m ≤ 2 ^ 40) (b3 : k ≤ 2 ^ 40) :
    Calls Tryz.prog 18 #[.pointer (some ⟨g, 0, none⟩), .agg #[.slice D h i, .int .i64 T.lL, .slice A n c, .int .i64 T.lO, .slice B m d, .int .i64 T.lM, .slice C k e, .int .i64 r0, .int .i64 r1, .int .i64 r2]] w (SecPost F g bs (decE bs at_ T r0 r1 r2) Tr w) := by
  have hlt : ∀ b ∈ bs, b < 256 := by obtain ⟨_, _, _, _, h, _⟩ := hcu; exact h
  have hgl := hcu.lt
  obtain ⟨w0, hw0⟩ : ∃ w0, w0 = (w.alloc (.cells #[.slice D h i, .int .i64 T.lL, .slice A n c, .int .i64 T.lO, .slice B m d, .int .i64 T.lM, .slice C k e, .int .i64 r0, .int .i64 r1, .int .i64 r2] 32)).alloc (.cells #[.slice none 0 0, .int .i64 0, .slice none 0 0, .int .i64 0, .slice none 0 0, .int .i64 0, .slice none 0 0, .int .i64 0, .int .i64 0, .int .i64 0] 32) := ⟨_, rfl⟩
  obtain ⟨H, hH⟩ : ∃ H, H = w.heap.size := ⟨_, rfl⟩
  have f0 : Fresh w w0 := by rw [hw0]; exact ((Upd.refl _ _).alloc _).alloc _
  have bc : Blk w0 H 32 #[.slice D h i, .int .i64 T.lL, .slice A n c, .int .i64 T.lO, .slice B m d, .int .i64 T.lM, .slice C k e, .int .i64 r0, .int .i64 r1, .int .i64 r2] := by rw [hw0]; exact (blk_new hH _ _).alloc _
  have bo : Blk w0 (H + 1) 32 #[.slice none 0 0, .int .i64 0, .slice none 0 0, .int .i64 0, .slice none 0 0, .int .i64 0, .slice none 0 0, .int .i64 0, .int .i64 0, .int .i64 0] := by rw [hw0]; exact blk_new (by simp [hH]) _ _
  have hs0 : w0.heap.size = H + 2 := by rw [hw0, hH]; simp
  have HCU := hide (hcu.both.fresh f0)
  have HR0 := hide (h0.both.fresh f0)
  have HR1 := hide (h1.both.fresh f0)
  have HR2 := hide (h2.both.fresh f0)
  have HR3 := hide (h3.both.fresh f0)
  have HFT := hide (And.intro f1 (And.intro f2 f3))
  have HBD := hide (And.intro b0 (And.intro b1 (And.intro b2 b3)))
  have HG := hide hG
  have HF := hide hF
  have HLT := hide hlt
  have HGL := hide (show g < H by rw [hH]; exact hgl)
  have HW := hide hw0
  have HH := hide hH
  have F0 := hide f0
  have BC := hide bc
  have BO := hide bo
  have HS0 := hide hs0
  have HRP := hide (repeats_any r0 r1 r2)
  have q0 := bc.cell 7
  have q1 := bc.cell 8
  have q2 := bc.cell 9
  simp at q0 q1 q2
  clear hcu h0 h1 h2 h3 f1 f2 f3 b0 b1 b2 b3 hG hF hlt hgl hw0 hH f0 bc hs0
  refine veil fun R hR => ?_
  go_enter Tryz.func18, Tryz.ntmps18
  go_upto_region 1 with fail
  simp only [← HH.out, ← HW.out]
  by_cases hrep : repOk r0 r1 r2 = true
  · have HRP2 := hide (HRP.out w0)
    rw [hrep] at HRP2
    have HREP := hide hrep
    clear HRP hrep bo
    go_wp2_with fail
    refine HRP2.out.mono ?_
    rintro e1 w1 ⟨rfl, f1⟩
    have F1 := hide f1
    have HV := hide (cvar_any (fun b => F b ∧ b < w.heap.size) g bs at_ w1 (HCU.out.fresh f1) (fun b hb => HF.out b hb.1))
    clear f1 q0 q1 q2
    obtain ⟨vr, hvr⟩ : ∃ vr, vr = varN (bs.drop at_) := ⟨_, rfl⟩
    rw [← hvr] at HV
    have HVR := hide hvr
    clear hvr
    obtain ⟨vn, vk, ve⟩ := vr
    simp only at HV
    go_wp2_with fail
    refine HV.out.mono ?_
    rintro e1 w2 ⟨rfl, u2, c2⟩
    have HU2 := hide (u2)
    have HU := hide ((F1.out.mono (T := fun b => b = g) fun _ _ h => h.elim).trans' u2)
    by_cases hve : ve = 0
    · subst hve
      rw [if_pos rfl] at c2
      have HC2 := hide c2
      have hve1 : (varN (bs.drop at_)).2.2 = 0 := by rw [← HVR.out]
      have HVE := hide hve1
      clear u2 c2 hve1
      by_cases hmany : 65536 < vn
      · have HE := hide (show decE bs at_ T r0 r1 r2 = .no 15 from decE_many HREP.out HVE.out (by rw [← HVR.out]; exact hmany))
        have hmI : (65536 : Int) < (vn : Nat) := by omega
        have o5 := BO.out.upd HU.out (by have := HGL.out; omega)
        have HUV := hide ((F0.out.mono (T := fun b => b = g) fun _ _ h => h.elim).trans' HU.out)
        have x0 := o5.cell 0
        have x1 := o5.cell 1
        have x2 := o5.cell 2
        have x3 := o5.cell 3
        have x4 := o5.cell 4
        have x5 := o5.cell 5
        have x6 := o5.cell 6
        have x7 := o5.cell 7
        have x8 := o5.cell 8
        have x9 := o5.cell 9
        have z0 := o5.frozen 0
        have z1 := o5.frozen 1
        have z2 := o5.frozen 2
        have z3 := o5.frozen 3
        have z4 := o5.frozen 4
        have z5 := o5.frozen 5
        have z6 := o5.frozen 6
        have z7 := o5.frozen 7
        have z8 := o5.frozen 8
        have z9 := o5.frozen 9
        simp at x0 x1 x2 x3 x4 x5 x6 x7 x8 x9
        have hO := o5.set10 (.slice none 0 0) (.int .i64 0) (.slice none 0 0) (.int .i64 0) (.slice none 0 0) (.int .i64 0) (.slice none 0 0) (.int .i64 0) (.int .i64 0) (.int .i64 0)
        have d0 := hO.cell 0
        have d1 := hO.cell 1
        have d2 := hO.cell 2
        have d3 := hO.cell 3
        have d4 := hO.cell 4
        have d5 := hO.cell 5
        have d6 := hO.cell 6
        have d7 := hO.cell 7
        have d8 := hO.cell 8
        have d9 := hO.cell 9
        simp at d0 d1 d2 d3 d4 d5 d6 d7 d8 d9
        have HD := hide (And.intro d0 (And.intro d1 (And.intro d2 (And.intro d3 (And.intro d4 (And.intro d5 (And.intro d6 (And.intro d7 (And.intro d8 (d9))))))))))
        have HUF := hide (HUV.out.trans (set10 w2 (H + 1) (.slice none 0 0) (.int .i64 0) (.slice none 0 0) (.int .i64 0) (.slice none 0 0) (.int .i64 0) (.slice none 0 0) (.int .i64 0) (.int .i64 0) (.int .i64 0)) (fun b hb e => by have := HH.out; omega))
        clear o5 hO d0 d1 d2 d3 d4 d5 d6 d7 d8 d9
        go_wp2_with fail
        obtain ⟨d0, d1, d2, d3, d4, d5, d6, d7, d8, d9⟩ := HD.out
        refine bodyPost_ret (v := .tuple #[.slice none 0 0, .agg #[.slice none 0 0, .int .i64 0, .slice none 0 0, .int .i64 0, .slice none 0 0, .int .i64 0, .slice none 0 0, .int .i64 0, .int .i64 0, .int .i64 0], .int .i64 15]) (by simp [results, Tryz.results18, go_sem, d0, d1, d2, d3, d4, d5, d6, d7, d8, d9]) rfl ?_
        refine hR.out _ _ ⟨HUF.out, ?_⟩
        rw [HE.out]
        exact (if_neg (by simp [SecE.no])).mpr rfl
      · have hmI : ¬ (65536 : Int) < (vn : Nat) := by omega
        by_cases hz : vn = 0
        · subst hz
          have HE := hide (show decE bs at_ T r0 r1 r2 = ⟨0, [], T, r0, r1, r2, at_ + vk⟩ by have h := decE_zero (T := T) HREP.out HVE.out (show (varN (bs.drop at_)).1 = 0 by rw [← HVR.out]); rw [← HVR.out] at h; exact h)
          have HBX := hide (BC.out.upd HU.out (by have := HGL.out; omega))
          have HBO := hide (BO.out.upd HU.out (by have := HGL.out; omega))
          have HSX : Hid (∀ W, Upd (fun b => b = H + 1) w2 W → W.cell? ⟨H, 0, none⟩ = some (.slice D h i) ∧ W.cell? ⟨H, 1, none⟩ = some (.int .i64 T.lL) ∧ W.cell? ⟨H, 2, none⟩ = some (.slice A n c) ∧ W.cell? ⟨H, 3, none⟩ = some (.int .i64 T.lO) ∧ W.cell? ⟨H, 4, none⟩ = some (.slice B m d) ∧ W.cell? ⟨H, 5, none⟩ = some (.int .i64 T.lM) ∧ W.cell? ⟨H, 6, none⟩ = some (.slice C k e) ∧ W.cell? ⟨H, 7, none⟩ = some (.int .i64 r0) ∧ W.cell? ⟨H, 8, none⟩ = some (.int .i64 r1) ∧ W.cell? ⟨H, 9, none⟩ = some (.int .i64 r2)) := fun W u => by
            have b := HBX.out.upd u (by omega)
            exact ⟨by simpa using b.cell 0, by simpa using b.cell 1, by simpa using b.cell 2, by simpa using b.cell 3, by simpa using b.cell 4, by simpa using b.cell 5, by simpa using b.cell 6, by simpa using b.cell 7, by simpa using b.cell 8, by simpa using b.cell 9⟩
          have HSW := hide (fun W v0 v1 v2 v3 v4 v5 v6 v7 v8 v9 (u : Upd (fun b => b = H + 1) w2 W) => HSX.out _ (u.trans' (set10 W (H + 1) v0 v1 v2 v3 v4 v5 v6 v7 v8 v9)))
          have hup : ∀ W, Upd (fun b => b = H + 1) w2 W → Upd (fun b => b = g ∨ b = H + 1) w0 W := fun W u => (HU.out.mono fun _ _ h => .inl h).trans' (u.mono fun _ _ h => .inr h)
          have HUP := hide hup
          have hnn : ∀ b, (G b ∧ b < w.heap.size) → ¬ (b = g ∨ b = H + 1) := fun b hb e => by have h1 := HG.out b hb.1; have h2 := hb.2; have h3 := HH.out; omega
          have HBE := hide (fun W (u : Upd (fun b => b = H + 1) w2 W) => behind_any _ _ D A B C A B C h i n c m d k e n c m d k e T.lL T.lO T.lM r0 r1 r2 T.lL T.lO T.lM r0 r1 r2 Tr T.NL T.NO T.NM W (HR0.out.upd (HUP.out W u) (fun b _ hb => hnn b hb)) (HR1.out.upd (HUP.out W u) (fun b _ hb => hnn b hb)) (HR2.out.upd (HUP.out W u) (fun b _ hb => hnn b hb)) (HR3.out.upd (HUP.out W u) (fun b _ hb => hnn b hb)) HBD.out.1 HBD.out.2.1 HBD.out.2.2.1 HBD.out.2.2.2)
          have HTA := hide tables_any
          have HXX : Hid (∀ W, Fresh w2 W → W.cell? ⟨H + 1, 0, none⟩ = some (.slice none 0 0) ∧ W.cell? ⟨H + 1, 1, none⟩ = some (.int .i64 0) ∧ W.cell? ⟨H + 1, 2, none⟩ = some (.slice none 0 0) ∧ W.cell? ⟨H + 1, 3, none⟩ = some (.int .i64 0) ∧ W.cell? ⟨H + 1, 4, none⟩ = some (.slice none 0 0) ∧ W.cell? ⟨H + 1, 5, none⟩ = some (.int .i64 0) ∧ W.cell? ⟨H + 1, 6, none⟩ = some (.slice none 0 0) ∧ W.cell? ⟨H + 1, 7, none⟩ = some (.int .i64 0) ∧ W.cell? ⟨H + 1, 8, none⟩ = some (.int .i64 0) ∧ W.cell? ⟨H + 1, 9, none⟩ = some (.int .i64 0) ∧ W.frozen? ⟨H + 1, 0, none⟩ = false ∧ W.frozen? ⟨H + 1, 1, none⟩ = false ∧ W.frozen? ⟨H + 1, 2, none⟩ = false ∧ W.frozen? ⟨H + 1, 3, none⟩ = false ∧ W.frozen? ⟨H + 1, 4, none⟩ = false ∧ W.frozen? ⟨H + 1, 5, none⟩ = false ∧ W.frozen? ⟨H + 1, 6, none⟩ = false ∧ W.frozen? ⟨H + 1, 7, none⟩ = false ∧ W.frozen? ⟨H + 1, 8, none⟩ = false ∧ W.frozen? ⟨H + 1, 9, none⟩ = false) := fun W f => by
            have b := HBO.out.fresh f
            exact ⟨by simpa using b.cell 0, by simpa using b.cell 1, by simpa using b.cell 2, by simpa using b.cell 3, by simpa using b.cell 4, by simpa using b.cell 5, by simpa using b.cell 6, by simpa using b.cell 7, by simpa using b.cell 8, by simpa using b.cell 9, b.frozen _, b.frozen _, b.frozen _, b.frozen _, b.frozen _, b.frozen _, b.frozen _, b.frozen _, b.frozen _, b.frozen _⟩
          clear hup hnn
          go_wp2_with fail
          have HSX2 := hide (fun W (f : Fresh w2 W) => HSX.out W (f.mono fun _ _ h => h.elim))
          obtain ⟨c0w, c1w, c2w, c3w, c4w, c5w, c6w, c7w, c8w, c9w⟩ := HSX2.out w2 (Upd.refl _ _)
          go_region_with
            (first
              | (go_at_call 36; refine (HTA.out _ _ _ _ _ _ _ _ _ _ _ _ _ _ _ _ _ _ _).mono ?_; rintro e1 wa ⟨rfl, fa⟩; have fax : Fresh w2 wa := (by first | exact fa | exact Upd.trans' ((Upd.refl _ _).drew) fa); obtain ⟨c0a, c1a, c2a, c3a, c4a, c5a, c6a, c7a, c8a, c9a⟩ := HSX2.out wa fax)
              | (go_at_call 35; refine (HBE.out _ (fax.mono fun _ _ h => h.elim)).mono ?_; rintro e1 wb ⟨D', i', A', c', B', d', C', e2, rfl, rD, rA, rB, rC, fb⟩; have fbx : Fresh w2 wb := fax.trans' fb; obtain ⟨x0, x1, x2, x3, x4, x5, x6, x7, x8, x9, z0, z1, z2, z3, z4, z5, z6, z7, z8, z9⟩ := HXX.out _ fbx))
          all_goals
            have hb5 := HBO.out.fresh fbx
            have hO := hb5.set10 (.slice D' h i') (.int .i64 T.lL) (.slice A' n c') (.int .i64 T.lO) (.slice B' m d') (.int .i64 T.lM) (.slice C' k e2) (.int .i64 r0) (.int .i64 r1) (.int .i64 r2)
            have d0 := hO.cell 0
            have d1 := hO.cell 1
            have d2 := hO.cell 2
            have d3 := hO.cell 3
            have d4 := hO.cell 4
            have d5 := hO.cell 5
            have d6 := hO.cell 6
            have d7 := hO.cell 7
            have d8 := hO.cell 8
            have d9 := hO.cell 9
            simp at d0 d1 d2 d3 d4 d5 d6 d7 d8 d9
            have HD := hide (And.intro d0 (And.intro d1 (And.intro d2 (And.intro d3 (And.intro d4 (And.intro d5 (And.intro d6 (And.intro d7 (And.intro d8 (d9))))))))))
            have hs10 := set10 wb (H + 1) (.slice D' h i') (.int .i64 T.lL) (.slice A' n c') (.int .i64 T.lO) (.slice B' m d') (.int .i64 T.lM) (.slice C' k e2) (.int .i64 r0) (.int .i64 r1) (.int .i64 r2)
            have HS10 := hide hs10
            have hwa : w2.heap.size ≤ wa.heap.size := fax.size
            have hl1 : ∀ b, wa.heap.size ≤ b → b ≠ H + 1 := fun b hb => by have h1 := HU.out.size; have h2 := HS0.out; omega
            have hRD := hide (And.intro (rD.upd hs10 (fun b _ hb e => hl1 b hb e)) (And.intro (rA.upd hs10 (fun b _ hb e => hl1 b hb e)) (And.intro (rB.upd hs10 (fun b _ hb e => hl1 b hb e)) (rC.upd hs10 (fun b _ hb e => hl1 b hb e)))))
            clear hO hb5 hs10 d0 d1 d2 d3 d4 d5 d6 d7 d8 d9
            go_wp2_with fail
            obtain ⟨d0, d1, d2, d3, d4, d5, d6, d7, d8, d9⟩ := HD.out
            refine bodyPost_ret (v := .tuple #[.slice none 0 0, .agg #[.slice D' h i', .int .i64 T.lL, .slice A' n c', .int .i64 T.lO, .slice B' m d', .int .i64 T.lM, .slice C' k e2, .int .i64 r0, .int .i64 r1, .int .i64 r2], .int .i64 0]) (by simp [results, Tryz.results18, go_sem, d0, d1, d2, d3, d4, d5, d6, d7, d8, d9]) rfl ?_
            have HUF := (((F0.out.mono (T := fun b => b = g) fun _ _ h => h.elim).trans' HU.out).trans' (fbx.mono (T := fun b => b = g) fun _ _ h => h.elim)).trans HS10.out (fun b hb e => by have := HH.out; omega)
            have hsz : w.heap.size ≤ wa.heap.size := by have h1 := F0.out.size; have h2 := HU.out.size; omega
            have hcu := ((HC2.out.fresh fbx).upd HS10.out (by have := HGL.out; omega) (fun b _ hb e => by have h2 := hb.2; have h3 := HH.out; omega)).mono fun b hb => hb.1
            refine hR.out _ _ ⟨by first | exact HUF | exact HUF.drew, ?_⟩
            rw [HE.out]
            refine (if_pos rfl).mpr ⟨.slice none 0 0, D', h, i', A', n, c', B', m, d', C', k, e2, rfl, OwnK.nil _ _ _, fun b hb => by simp [Value.ownBlock] at hb, ?_, ?_, ?_, ?_, ?_⟩
            · exact (hRD.out.1.mono fun b hb => Nat.le_trans hsz hb).fresh (by first | exact Upd.refl _ _ | exact (Upd.refl _ _).drew)
            · exact (hRD.out.2.1.mono fun b hb => Nat.le_trans hsz hb).fresh (by first | exact Upd.refl _ _ | exact (Upd.refl _ _).drew)
            · exact (hRD.out.2.2.1.mono fun b hb => Nat.le_trans hsz hb).fresh (by first | exact Upd.refl _ _ | exact (Upd.refl _ _).drew)
            · exact (hRD.out.2.2.2.mono fun b hb => Nat.le_trans hsz hb).fresh (by first | exact Upd.refl _ _ | exact (Upd.refl _ _).drew)
            · exact hcu.fresh (by first | exact Upd.refl _ _ | exact (Upd.refl _ _).drew)
        · have hzb : (((vn : Nat) : Int) == 0) = false := by simpa using hz
          have hzI : ¬ ((vn : Nat) : Int) = 0 := by omega
          have hnn : ∀ b, (G b ∧ b < w.heap.size) → ¬ (b = g) := fun b hb e => HG.out b hb.1 e
          have hp40 : (2 : Nat) ^ 40 = 1099511627776 := by decide
          have HHD := head_any (fun b => F b ∧ b < w.heap.size) (fun b => G b ∧ b < w.heap.size) g bs (at_ + vk) D A B C h i n c m d k e T r0 r1 r2 w2 HC2.out (fun b hb => HF.out b hb.1) (fun b hb => HG.out b hb.1) (HR1.out.upd HU.out (fun b _ hb => hnn b hb)) (HR2.out.upd HU.out (fun b _ hb => hnn b hb)) (HR3.out.upd HU.out (fun b _ hb => hnn b hb)) HFT.out.1 HFT.out.2.1 HFT.out.2.2 (by have := HBD.out.2.1; omega) (by have := HBD.out.2.2.1; omega) (by have := HBD.out.2.2.2; omega)
          unfold HeadPost at HHD
          obtain ⟨hr, hhr⟩ : ∃ hr, hr = headE bs (at_ + vk) T := ⟨_, rfl⟩
          rw [← hhr] at HHD
          obtain ⟨er1, T2, to_⟩ := hr
          simp only at HHD
          have HDE := hide hhr.symm
          have hbx := BC.out.upd HU.out (by have := HGL.out; omega)
          have c0w := hbx.cell 0
          have c1w := hbx.cell 1
          have c2w := hbx.cell 2
          have c3w := hbx.cell 3
          have c4w := hbx.cell 4
          have c5w := hbx.cell 5
          have c6w := hbx.cell 6
          have c7w := hbx.cell 7
          have c8w := hbx.cell 8
          have c9w := hbx.cell 9
          simp at c0w c1w c2w c3w c4w c5w c6w c7w c8w c9w
          have HBX := hide hbx
          clear hhr hbx hnn hp40
          by_cases hx1 : er1 = 0
          · subst hx1
            simp only [if_pos] at HHD
            have HHD2 := hide HHD
            have hh1 : (headE bs (at_ + vk) T).1 = 0 := by rw [HDE.out]
            have hok := headE_ok HLT.out hh1
            rw [HDE.out] at hok
            obtain ⟨hok1, hto⟩ := hok
            obtain ⟨hok2, e1, e2, e3⟩ := hok1.trks
            have HOK := hide hok1
            have HOT := hide hok2
            have HEQ := hide (And.intro e1 (And.intro e2 e3))
            have hvnle : vn ≤ 65536 := by omega
            have hrw := fun A' B' C' n' c' m' d' k' e' w4 hc h1 h2 h3 f1 f2 f3 b1 b2 b3 => row_any (fun b => F b ∧ b < w.heap.size) (fun b => w2.heap.size ≤ b) g bs to_ vn A' B' C' n' c' m' d' k' e' T2.trks r0 r1 r2 w4 hc (fun b hb => HF.out b hb.1) HOT.out h1 h2 h3 f1 f2 f3 b1 b2 b3 hvnle HREP.out
            simp only [← e1, ← e2, ← e3] at hrw
            unfold RowPost at hrw
            obtain ⟨rr, hrr⟩ : ∃ rr, rr = rowE (bs.drop to_) T2.trks vn r0 r1 r2 := ⟨_, rfl⟩
            simp only [← hrr] at hrw
            have HRR := hide hrr.symm
            have HRW := hide hrw
            obtain ⟨sv1, sv2⟩ := wrap_seq vn hvnle
            clear HHD hh1 hok1 hok2 e1 e2 e3 hrw hrr hto
            go_wp2_with fail
            refine HHD2.out.mono ?_
            rintro e1 w3 ⟨u3, A', n', c', B', m', d', C', k', e', rfl, rA, rB, rC, c3⟩
            go_upto_region 13 with fail
            obtain ⟨K, hK⟩ : ∃ K, K = w3.heap.size := ⟨_, rfl⟩
            obtain ⟨w4, hw4⟩ : ∃ w4, w4 = w3.alloc (.cells #[.int .i64 T2.lL, .slice A' n' c', .int .i64 T2.lO, .slice B' m' d', .int .i64 T2.lM, .slice C' k' e'] 69) := ⟨_, rfl⟩
            simp only [← hK, ← hw4]
            have f4 : Fresh w3 w4 := by rw [hw4]; exact (Upd.refl _ _).alloc _
            have bk4 : Blk w4 K 69 #[.int .i64 T2.lL, .slice A' n' c', .int .i64 T2.lO, .slice B' m' d', .int .i64 T2.lM, .slice C' k' e'] := by rw [hw4]; exact blk_new hK _ _
            have u24 : Upd (fun b => b = g) w2 w4 := u3.trans' (f4.mono (T := fun b => b = g) fun _ _ h => h.elim)
            have hl44 : n' ≤ 44 ∧ m' ≤ 44 ∧ k' ≤ 44 := by
              have h1 := rA.1
              have h2 := rB.1
              have h3 := rC.1
              have h4 := HOK.out.1.2.2.2.2.1
              have h5 := HOK.out.2.1.2.2.2.2.1
              have h6 := HOK.out.2.2.2.2.2.2.1
              simp at h1 h2 h3
              omega
            have HRW2 := hide (HRW.out A' B' C' n' c' m' d' k' e' w4 (c3.fresh f4) (rA.fresh f4) (rB.fresh f4) (rC.fresh f4) (fit_valid25 HOK.out.1) (fit_valid25 HOK.out.2.1) (fit_valid25 HOK.out.2.2) (by omega) (by omega) (by omega))
            have hb4 := HBX.out.upd u24 (by have := HGL.out; omega)
            have k0 := bk4.cell 0
            have k1 := bk4.cell 1
            have k2 := bk4.cell 2
            have k3 := bk4.cell 3
            have k4 := bk4.cell 4
            have k5 := bk4.cell 5
            have q0 := hb4.cell 7
            have q1 := hb4.cell 8
            have q2 := hb4.cell 9
            simp at k0 k1 k2 k3 k4 k5 q0 q1 q2
            have RA := hide (rA.fresh f4)
            have RB := hide (rB.fresh f4)
            have RC := hide (rC.fresh f4)
            have BK4 := hide bk4
            have HU4 := hide (HU.out.trans' u24)
            have HL44 := hide hl44
            have HKS := hide (show K ≠ g ∧ K ≠ H + 1 ∧ K ≠ H ∧ w2.heap.size ≤ K by have h1 := HU.out.size; have h2 := u3.size; have h3 := HS0.out; have h4 := HGL.out; omega)
            clear u3 rA rB rC c3 hK hw4 f4 bk4 u24 hl44 hb4 HRW c0w c1w c2w c3w c4w c5w c6w c7w c8w c9w
            obtain ⟨er2, lq, rx, ry, rz⟩ := rr
            simp only at HRW2
            by_cases hx2 : er2 = 0
            · subst hx2
              simp only [if_pos] at HRW2
              have HE := hide (show decE bs at_ T r0 r1 r2 = ⟨0, lq, T2, rx, ry, rz, bs.length⟩ from by
                have h := decE_ok (T := T) HREP.out HVE.out (show ¬ 65536 < (varN (bs.drop at_)).1 by rw [← HVR.out]; exact hmany) (show (varN (bs.drop at_)).1 ≠ 0 by rw [← HVR.out]; exact hz) (T2 := T2) (to_ := to_) (by rw [← HVR.out]; exact HDE.out) (l := lq) (x := rx) (y := ry) (z := rz) (by rw [← HVR.out]; exact HRR.out)
                exact h)
              go_wp2_with fail
              refine HRW2.out.mono ?_
              rintro e1 w5 ⟨u5, v5, rfl, ov, hvb, c5⟩
              go_upto_region 16 with fail
              obtain ⟨Lb, hLb⟩ : ∃ Lb, Lb = w5.heap.size := ⟨_, rfl⟩
              obtain ⟨w6, hw6⟩ : ∃ w6, w6 = w5.alloc (.cells #[.int .i64 rx, .int .i64 ry, .int .i64 rz] 30) := ⟨_, rfl⟩
              simp only [← hLb, ← hw6]
              have f6 : Fresh w5 w6 := by rw [hw6]; exact (Upd.refl _ _).alloc _
              have bl6 : Blk w6 Lb 30 #[.int .i64 rx, .int .i64 ry, .int .i64 rz] := by rw [hw6]; exact blk_new hLb _ _
              have u46 : Upd (fun b => b = g) w4 w6 := u5.trans' (f6.mono (T := fun b => b = g) fun _ _ h => h.elim)
              have HU6 := hide (HU4.out.trans' u46)
              have hbk := BK4.out.upd u46 (by have := HKS.out; omega)
              have hbc := BC.out.upd HU6.out (by have := HGL.out; omega)
              have hbo := BO.out.upd HU6.out (by have := HGL.out; omega)
              have hg2 : ∀ b, w2.heap.size ≤ b → ¬ b = g := fun b hb => by have h1 := HU.out.size; have h2 := HS0.out; have h3 := HGL.out; omega
              have HBE := hide (behind_any (fun b => G b ∧ b < w.heap.size) (fun b => w2.heap.size ≤ b) D A' B' C' A B C h i n' c' m' d' k' e' n c m d k e T2.lL T2.lO T2.lM rx ry rz T.lL T.lO T.lM r0 r1 r2 Tr T2.NL T2.NO T2.NM w6 (HR0.out.upd HU6.out (fun b _ hb => HG.out b hb.1)) (RA.out.upd u46 (fun b _ hb => hg2 b hb)) (RB.out.upd u46 (fun b _ hb => hg2 b hb)) (RC.out.upd u46 (fun b _ hb => hg2 b hb)) HBD.out.1 (Nat.le_trans HL44.out.1 (by decide)) (Nat.le_trans HL44.out.2.1 (by decide)) (Nat.le_trans HL44.out.2.2 (by decide)))
              have c0v := hbc.cell 0
              have c1v := hbc.cell 1
              have c2v := hbc.cell 2
              have c3v := hbc.cell 3
              have c4v := hbc.cell 4
              have c5v := hbc.cell 5
              have c6v := hbc.cell 6
              have c7v := hbc.cell 7
              have c8v := hbc.cell 8
              have c9v := hbc.cell 9
              simp at c0v c1v c2v c3v c4v c5v c6v c7v c8v c9v
              have l0 := bl6.cell 0
              have l1 := bl6.cell 1
              have l2 := bl6.cell 2
              have k0' := hbk.cell 0
              have k1' := hbk.cell 1
              have k2' := hbk.cell 2
              have k3' := hbk.cell 3
              have k4' := hbk.cell 4
              have k5' := hbk.cell 5
              simp at l0 l1 l2 k0' k1' k2' k3' k4' k5'
              have HBO := hide hbo
              have OV := hide (ov.fresh f6)
              have HVB := hide hvb
              have HC6 := hide (c5.fresh f6)
              have HSZ := hide (show w.heap.size ≤ w4.heap.size ∧ w4.heap.size ≤ w6.heap.size by have h1 := F0.out.size; have h2 := HU4.out.size; have h3 := u46.size; omega)
              have HOVL := hide (fun b hb => ov.lt (b := b) hb)
              clear u5 ov hvb c5 hLb hw6 f6 bl6 u46 hbk hbc hbo hg2 k0 k1 k2 k3 k4 k5 q0 q1 q2
              go_wp2_with fail
              refine HBE.out.mono ?_
              rintro e1 wb ⟨D', i', A'', c'', B'', d'', C'', e2, rfl, rD, rA, rB, rC, fb⟩
              obtain ⟨x0, x1, x2, x3, x4, x5, x6, x7, x8, x9, z0, z1, z2, z3, z4, z5, z6, z7, z8, z9⟩ := (show wb.cell? ⟨H + 1, 0, none⟩ = some (.slice none 0 0) ∧ wb.cell? ⟨H + 1, 1, none⟩ = some (.int .i64 0) ∧ wb.cell? ⟨H + 1, 2, none⟩ = some (.slice none 0 0) ∧ wb.cell? ⟨H + 1, 3, none⟩ = some (.int .i64 0) ∧ wb.cell? ⟨H + 1, 4, none⟩ = some (.slice none 0 0) ∧ wb.cell? ⟨H + 1, 5, none⟩ = some (.int .i64 0) ∧ wb.cell? ⟨H + 1, 6, none⟩ = some (.slice none 0 0) ∧ wb.cell? ⟨H + 1, 7, none⟩ = some (.int .i64 0) ∧ wb.cell? ⟨H + 1, 8, none⟩ = some (.int .i64 0) ∧ wb.cell? ⟨H + 1, 9, none⟩ = some (.int .i64 0) ∧ wb.frozen? ⟨H + 1, 0, none⟩ = false ∧ wb.frozen? ⟨H + 1, 1, none⟩ = false ∧ wb.frozen? ⟨H + 1, 2, none⟩ = false ∧ wb.frozen? ⟨H + 1, 3, none⟩ = false ∧ wb.frozen? ⟨H + 1, 4, none⟩ = false ∧ wb.frozen? ⟨H + 1, 5, none⟩ = false ∧ wb.frozen? ⟨H + 1, 6, none⟩ = false ∧ wb.frozen? ⟨H + 1, 7, none⟩ = false ∧ wb.frozen? ⟨H + 1, 8, none⟩ = false ∧ wb.frozen? ⟨H + 1, 9, none⟩ = false from by
                have b := HBO.out.fresh fb
                exact ⟨by simpa using b.cell 0, by simpa using b.cell 1, by simpa using b.cell 2, by simpa using b.cell 3, by simpa using b.cell 4, by simpa using b.cell 5, by simpa using b.cell 6, by simpa using b.cell 7, by simpa using b.cell 8, by simpa using b.cell 9, b.frozen _, b.frozen _, b.frozen _, b.frozen _, b.frozen _, b.frozen _, b.frozen _, b.frozen _, b.frozen _, b.frozen _⟩)
              have HFB := hide fb
              clear fb
              have hb5 := HBO.out.fresh HFB.out
              have hO := hb5.set10 (.slice D' h i') (.int .i64 T2.lL) (.slice A'' n' c'') (.int .i64 T2.lO) (.slice B'' m' d'') (.int .i64 T2.lM) (.slice C'' k' e2) (.int .i64 rx) (.int .i64 ry) (.int .i64 rz)
              have d0 := hO.cell 0
              have d1 := hO.cell 1
              have d2 := hO.cell 2
              have d3 := hO.cell 3
              have d4 := hO.cell 4
              have d5 := hO.cell 5
              have d6 := hO.cell 6
              have d7 := hO.cell 7
              have d8 := hO.cell 8
              have d9 := hO.cell 9
              simp at d0 d1 d2 d3 d4 d5 d6 d7 d8 d9
              have HD := hide (And.intro d0 (And.intro d1 (And.intro d2 (And.intro d3 (And.intro d4 (And.intro d5 (And.intro d6 (And.intro d7 (And.intro d8 (d9))))))))))
              have hs10 := set10 wb (H + 1) (.slice D' h i') (.int .i64 T2.lL) (.slice A'' n' c'') (.int .i64 T2.lO) (.slice B'' m' d'') (.int .i64 T2.lM) (.slice C'' k' e2) (.int .i64 rx) (.int .i64 ry) (.int .i64 rz)
              have HS10 := hide hs10
              have hl1 : ∀ b, w6.heap.size ≤ b → b ≠ H + 1 := fun b hb => by have h1 := HSZ.out; have h2 := HU4.out.size; have h3 := HS0.out; omega
              have hRD := hide (And.intro (rD.upd hs10 (fun b _ hb e => hl1 b hb e)) (And.intro (rA.upd hs10 (fun b _ hb e => hl1 b hb e)) (And.intro (rB.upd hs10 (fun b _ hb e => hl1 b hb e)) (rC.upd hs10 (fun b _ hb e => hl1 b hb e)))))
              clear hO hb5 hs10 rD rA rB rC d0 d1 d2 d3 d4 d5 d6 d7 d8 d9
              go_wp2_with fail
              obtain ⟨d0, d1, d2, d3, d4, d5, d6, d7, d8, d9⟩ := HD.out
              refine bodyPost_ret (v := .tuple #[v5, .agg #[.slice D' h i', .int .i64 T2.lL, .slice A'' n' c'', .int .i64 T2.lO, .slice B'' m' d'', .int .i64 T2.lM, .slice C'' k' e2, .int .i64 rx, .int .i64 ry, .int .i64 rz], .int .i64 0]) (by simp [results, Tryz.results18, go_sem, d0, d1, d2, d3, d4, d5, d6, d7, d8, d9]) rfl ?_
              have HUF := hide ((((F0.out.mono (T := fun b => b = g) fun _ _ h => h.elim).trans' HU6.out).trans' (HFB.out.mono (T := fun b => b = g) fun _ _ h => h.elim)).trans HS10.out (fun b hb e => by have := HH.out; omega))
              refine hR.out _ _ ⟨HUF.out, ?_⟩
              rw [HE.out]
              have hsz : w.heap.size ≤ w6.heap.size := by have h1 := HSZ.out; omega
              refine (if_pos rfl).mpr ⟨v5, D', h, i', A'', n', c'', B'', m', d'', C'', k', e2, rfl, (OV.out.fresh HFB.out).upd HS10.out (fun b hb e => ?_), fun b hb => Nat.le_trans HSZ.out.1 (HVB.out b hb), hRD.out.1.mono fun b hb => Nat.le_trans hsz hb, hRD.out.2.1.mono fun b hb => Nat.le_trans hsz hb, hRD.out.2.2.1.mono fun b hb => Nat.le_trans hsz hb, hRD.out.2.2.2.mono fun b hb => Nat.le_trans hsz hb, ((HC6.out.fresh HFB.out).upd HS10.out (by have := HGL.out; omega) (fun b _ hb e => by have h2 := hb.2; have h3 := HH.out; omega)).mono fun b hb => hb.1⟩
              have h1 := HVB.out b hb
              have h2 := HU4.out.size
              have h3 := HS0.out
              omega
            · have HE := hide (show decE bs at_ T r0 r1 r2 = .no er2 from by
                have h := decE_row (T := T) HREP.out HVE.out (show ¬ 65536 < (varN (bs.drop at_)).1 by rw [← HVR.out]; exact hmany) (show (varN (bs.drop at_)).1 ≠ 0 by rw [← HVR.out]; exact hz) (by rw [← HVR.out]; show (headE bs (at_ + vk) T).1 = 0; rw [HDE.out]) (by rw [← HVR.out]; show (rowE (bs.drop (headE bs (at_ + vk) T).2.2) (headE bs (at_ + vk) T).2.1.trks vn r0 r1 r2).1 ≠ 0; rw [HDE.out, HRR.out]; exact hx2)
                rw [← HVR.out] at h
                rw [h]
                show SecE.no (rowE (bs.drop (headE bs (at_ + vk) T).2.2) (headE bs (at_ + vk) T).2.1.trks vn r0 r1 r2).1 = _
                rw [HDE.out, HRR.out])
              simp only [if_neg hx2] at HRW2
              have HRW3 := hide HRW2
              have hne : (er2 == 0) = false := by simpa using hx2
              have hnt : (er2 != 0) = true := by simpa using hx2
              clear HRW2
              go_wp2_with fail
              refine HRW3.out.mono ?_
              rintro e1 w5 ⟨u5, sx, sy, sz, rfl⟩
              go_upto_region 16 with fail
              obtain ⟨w6, hw6⟩ : ∃ w6, w6 = w5.alloc (.cells #[.int .i64 sx, .int .i64 sy, .int .i64 sz] 30) := ⟨_, rfl⟩
              simp only [← hw6]
              have f6 : Fresh w5 w6 := by rw [hw6]; exact (Upd.refl _ _).alloc _
              have HU6 := hide ((HU4.out.trans' u5).trans' (f6.mono (T := fun b => b = g) fun _ _ h => h.elim))
              have o5 := BO.out.upd HU6.out (by have := HGL.out; omega)
              have HUV := hide ((F0.out.mono (T := fun b => b = g) fun _ _ h => h.elim).trans' HU6.out)
              clear u5 hw6 f6 k0 k1 k2 k3 k4 k5 q0 q1 q2
              have x0 := o5.cell 0
              have x1 := o5.cell 1
              have x2 := o5.cell 2
              have x3 := o5.cell 3
              have x4 := o5.cell 4
              have x5 := o5.cell 5
              have x6 := o5.cell 6
              have x7 := o5.cell 7
              have x8 := o5.cell 8
              have x9 := o5.cell 9
              have z0 := o5.frozen 0
              have z1 := o5.frozen 1
              have z2 := o5.frozen 2
              have z3 := o5.frozen 3
              have z4 := o5.frozen 4
              have z5 := o5.frozen 5
              have z6 := o5.frozen 6
              have z7 := o5.frozen 7
              have z8 := o5.frozen 8
              have z9 := o5.frozen 9
              simp at x0 x1 x2 x3 x4 x5 x6 x7 x8 x9
              have hO := o5.set10 (.slice none 0 0) (.int .i64 0) (.slice none 0 0) (.int .i64 0) (.slice none 0 0) (.int .i64 0) (.slice none 0 0) (.int .i64 0) (.int .i64 0) (.int .i64 0)
              have d0 := hO.cell 0
              have d1 := hO.cell 1
              have d2 := hO.cell 2
              have d3 := hO.cell 3
              have d4 := hO.cell 4
              have d5 := hO.cell 5
              have d6 := hO.cell 6
              have d7 := hO.cell 7
              have d8 := hO.cell 8
              have d9 := hO.cell 9
              simp at d0 d1 d2 d3 d4 d5 d6 d7 d8 d9
              have HD := hide (And.intro d0 (And.intro d1 (And.intro d2 (And.intro d3 (And.intro d4 (And.intro d5 (And.intro d6 (And.intro d7 (And.intro d8 (d9))))))))))
              have HUF := hide (HUV.out.trans (set10 w6 (H + 1) (.slice none 0 0) (.int .i64 0) (.slice none 0 0) (.int .i64 0) (.slice none 0 0) (.int .i64 0) (.slice none 0 0) (.int .i64 0) (.int .i64 0) (.int .i64 0)) (fun b hb e => by have := HH.out; omega))
              clear o5 hO d0 d1 d2 d3 d4 d5 d6 d7 d8 d9
              go_wp2_with fail
              obtain ⟨d0, d1, d2, d3, d4, d5, d6, d7, d8, d9⟩ := HD.out
              refine bodyPost_ret (v := .tuple #[.slice none 0 0, .agg #[.slice none 0 0, .int .i64 0, .slice none 0 0, .int .i64 0, .slice none 0 0, .int .i64 0, .slice none 0 0, .int .i64 0, .int .i64 0, .int .i64 0], .int .i64 er2]) (by simp [results, Tryz.results18, go_sem, d0, d1, d2, d3, d4, d5, d6, d7, d8, d9]) rfl ?_
              refine hR.out _ _ ⟨HUF.out, ?_⟩
              rw [HE.out]
              exact (if_neg (by simpa [SecE.no] using hx2)).mpr rfl
          · have HE := hide (show decE bs at_ T r0 r1 r2 = .no er1 from by
              have h := decE_head (T := T) HREP.out HVE.out (show ¬ 65536 < (varN (bs.drop at_)).1 by rw [← HVR.out]; exact hmany) (show (varN (bs.drop at_)).1 ≠ 0 by rw [← HVR.out]; exact hz) (by rw [← HVR.out]; show (headE bs (at_ + vk) T).1 ≠ 0; rw [HDE.out]; exact hx1)
              rw [← HVR.out] at h
              rw [h]
              show SecE.no (headE bs (at_ + vk) T).1 = _
              rw [HDE.out])
            simp only [if_neg hx1] at HHD
            have HHD2 := hide HHD
            have hne : (er1 == 0) = false := by simpa using hx1
            have hnt : (er1 != 0) = true := by simpa using hx1
            clear HHD
            go_wp2_with fail
            refine HHD2.out.mono ?_
            rintro e1 w3 ⟨u3, rfl⟩
            go_upto_region 13 with fail
            obtain ⟨w4, hw4⟩ : ∃ w4, w4 = w3.alloc (.cells #[.int .i64 0, .slice none 0 0, .int .i64 0, .slice none 0 0, .int .i64 0, .slice none 0 0] 69) := ⟨_, rfl⟩
            simp only [← hw4]
            have f4 : Fresh w3 w4 := by rw [hw4]; exact (Upd.refl _ _).alloc _
            have HU4 := hide ((HU.out.trans' u3).trans' (f4.mono (T := fun b => b = g) fun _ _ h => h.elim))
            have o5 := BO.out.upd HU4.out (by have := HGL.out; omega)
            have HUV := hide ((F0.out.mono (T := fun b => b = g) fun _ _ h => h.elim).trans' HU4.out)
            clear u3 hw4 f4 c0w c1w c2w c3w c4w c5w c6w c7w c8w c9w
            have x0 := o5.cell 0
            have x1 := o5.cell 1
            have x2 := o5.cell 2
            have x3 := o5.cell 3
            have x4 := o5.cell 4
            have x5 := o5.cell 5
            have x6 := o5.cell 6
            have x7 := o5.cell 7
            have x8 := o5.cell 8
            have x9 := o5.cell 9
            have z0 := o5.frozen 0
            have z1 := o5.frozen 1
            have z2 := o5.frozen 2
            have z3 := o5.frozen 3
            have z4 := o5.frozen 4
            have z5 := o5.frozen 5
            have z6 := o5.frozen 6
            have z7 := o5.frozen 7
            have z8 := o5.frozen 8
            have z9 := o5.frozen 9
            simp at x0 x1 x2 x3 x4 x5 x6 x7 x8 x9
            have hO := o5.set10 (.slice none 0 0) (.int .i64 0) (.slice none 0 0) (.int .i64 0) (.slice none 0 0) (.int .i64 0) (.slice none 0 0) (.int .i64 0) (.int .i64 0) (.int .i64 0)
            have d0 := hO.cell 0
            have d1 := hO.cell 1
            have d2 := hO.cell 2
            have d3 := hO.cell 3
            have d4 := hO.cell 4
            have d5 := hO.cell 5
            have d6 := hO.cell 6
            have d7 := hO.cell 7
            have d8 := hO.cell 8
            have d9 := hO.cell 9
            simp at d0 d1 d2 d3 d4 d5 d6 d7 d8 d9
            have HD := hide (And.intro d0 (And.intro d1 (And.intro d2 (And.intro d3 (And.intro d4 (And.intro d5 (And.intro d6 (And.intro d7 (And.intro d8 (d9))))))))))
            have HUF := hide (HUV.out.trans (set10 w4 (H + 1) (.slice none 0 0) (.int .i64 0) (.slice none 0 0) (.int .i64 0) (.slice none 0 0) (.int .i64 0) (.slice none 0 0) (.int .i64 0) (.int .i64 0) (.int .i64 0)) (fun b hb e => by have := HH.out; omega))
            clear o5 hO d0 d1 d2 d3 d4 d5 d6 d7 d8 d9
            go_wp2_with fail
            obtain ⟨d0, d1, d2, d3, d4, d5, d6, d7, d8, d9⟩ := HD.out
            refine bodyPost_ret (v := .tuple #[.slice none 0 0, .agg #[.slice none 0 0, .int .i64 0, .slice none 0 0, .int .i64 0, .slice none 0 0, .int .i64 0, .slice none 0 0, .int .i64 0, .int .i64 0, .int .i64 0], .int .i64 er1]) (by simp [results, Tryz.results18, go_sem, d0, d1, d2, d3, d4, d5, d6, d7, d8, d9]) rfl ?_
            refine hR.out _ _ ⟨HUF.out, ?_⟩
            rw [HE.out]
            exact (if_neg (by simpa [SecE.no] using hx1)).mpr rfl
    · have HE := hide (show decE bs at_ T r0 r1 r2 = .no ve by have h := decE_var (T := T) HREP.out (show (varN (bs.drop at_)).2.2 ≠ 0 by rw [← HVR.out]; exact hve); rw [← HVR.out] at h; exact h)
      have hne : (ve == 0) = false := by simpa using hve
      have hnt : (ve != 0) = true := by simpa using hve
      have o5 := BO.out.upd HU.out (by have := HGL.out; omega)
      have HUV := hide ((F0.out.mono (T := fun b => b = g) fun _ _ h => h.elim).trans' HU.out)
      clear u2 c2
      have x0 := o5.cell 0
      have x1 := o5.cell 1
      have x2 := o5.cell 2
      have x3 := o5.cell 3
      have x4 := o5.cell 4
      have x5 := o5.cell 5
      have x6 := o5.cell 6
      have x7 := o5.cell 7
      have x8 := o5.cell 8
      have x9 := o5.cell 9
      have z0 := o5.frozen 0
      have z1 := o5.frozen 1
      have z2 := o5.frozen 2
      have z3 := o5.frozen 3
      have z4 := o5.frozen 4
      have z5 := o5.frozen 5
      have z6 := o5.frozen 6
      have z7 := o5.frozen 7
      have z8 := o5.frozen 8
      have z9 := o5.frozen 9
      simp at x0 x1 x2 x3 x4 x5 x6 x7 x8 x9
      have hO := o5.set10 (.slice none 0 0) (.int .i64 0) (.slice none 0 0) (.int .i64 0) (.slice none 0 0) (.int .i64 0) (.slice none 0 0) (.int .i64 0) (.int .i64 0) (.int .i64 0)
      have d0 := hO.cell 0
      have d1 := hO.cell 1
      have d2 := hO.cell 2
      have d3 := hO.cell 3
      have d4 := hO.cell 4
      have d5 := hO.cell 5
      have d6 := hO.cell 6
      have d7 := hO.cell 7
      have d8 := hO.cell 8
      have d9 := hO.cell 9
      simp at d0 d1 d2 d3 d4 d5 d6 d7 d8 d9
      have HD := hide (And.intro d0 (And.intro d1 (And.intro d2 (And.intro d3 (And.intro d4 (And.intro d5 (And.intro d6 (And.intro d7 (And.intro d8 (d9))))))))))
      have HUF := hide (HUV.out.trans (set10 w2 (H + 1) (.slice none 0 0) (.int .i64 0) (.slice none 0 0) (.int .i64 0) (.slice none 0 0) (.int .i64 0) (.slice none 0 0) (.int .i64 0) (.int .i64 0) (.int .i64 0)) (fun b hb e => by have := HH.out; omega))
      clear o5 hO d0 d1 d2 d3 d4 d5 d6 d7 d8 d9
      go_wp2_with fail
      obtain ⟨d0, d1, d2, d3, d4, d5, d6, d7, d8, d9⟩ := HD.out
      refine bodyPost_ret (v := .tuple #[.slice none 0 0, .agg #[.slice none 0 0, .int .i64 0, .slice none 0 0, .int .i64 0, .slice none 0 0, .int .i64 0, .slice none 0 0, .int .i64 0, .int .i64 0, .int .i64 0], .int .i64 ve]) (by simp [results, Tryz.results18, go_sem, d0, d1, d2, d3, d4, d5, d6, d7, d8, d9]) rfl ?_
      refine hR.out _ _ ⟨HUF.out, ?_⟩
      rw [HE.out]
      exact (if_neg (by simpa [SecE.no] using hve)).mpr rfl
  · have hrep2 : repOk r0 r1 r2 = false := by simpa using hrep
    have HRP2 := hide (HRP.out w0)
    rw [hrep2] at HRP2
    have HE := hide (show decE bs at_ T r0 r1 r2 = .no 2 from decE_rep hrep2)
    clear HRP hrep hrep2
    go_wp2_with fail
    refine HRP2.out.mono ?_
    rintro e1 w1 ⟨rfl, f1⟩
    have o5 := bo.fresh f1
    have HUV := hide ((F0.out.trans' f1).mono (T := fun b => b = g) fun _ _ h => h.elim)
    clear f1 bo q0 q1 q2
    have x0 := o5.cell 0
    have x1 := o5.cell 1
    have x2 := o5.cell 2
    have x3 := o5.cell 3
    have x4 := o5.cell 4
    have x5 := o5.cell 5
    have x6 := o5.cell 6
    have x7 := o5.cell 7
    have x8 := o5.cell 8
    have x9 := o5.cell 9
    have z0 := o5.frozen 0
    have z1 := o5.frozen 1
    have z2 := o5.frozen 2
    have z3 := o5.frozen 3
    have z4 := o5.frozen 4
    have z5 := o5.frozen 5
    have z6 := o5.frozen 6
    have z7 := o5.frozen 7
    have z8 := o5.frozen 8
    have z9 := o5.frozen 9
    simp at x0 x1 x2 x3 x4 x5 x6 x7 x8 x9
    have hO := o5.set10 (.slice none 0 0) (.int .i64 0) (.slice none 0 0) (.int .i64 0) (.slice none 0 0) (.int .i64 0) (.slice none 0 0) (.int .i64 0) (.int .i64 0) (.int .i64 0)
    have d0 := hO.cell 0
    have d1 := hO.cell 1
    have d2 := hO.cell 2
    have d3 := hO.cell 3
    have d4 := hO.cell 4
    have d5 := hO.cell 5
    have d6 := hO.cell 6
    have d7 := hO.cell 7
    have d8 := hO.cell 8
    have d9 := hO.cell 9
    simp at d0 d1 d2 d3 d4 d5 d6 d7 d8 d9
    have HD := hide (And.intro d0 (And.intro d1 (And.intro d2 (And.intro d3 (And.intro d4 (And.intro d5 (And.intro d6 (And.intro d7 (And.intro d8 (d9))))))))))
    have HUF := hide (HUV.out.trans (set10 w1 (H + 1) (.slice none 0 0) (.int .i64 0) (.slice none 0 0) (.int .i64 0) (.slice none 0 0) (.int .i64 0) (.slice none 0 0) (.int .i64 0) (.int .i64 0) (.int .i64 0)) (fun b hb e => by have := HH.out; omega))
    clear o5 hO d0 d1 d2 d3 d4 d5 d6 d7 d8 d9
    go_wp2_with fail
    obtain ⟨d0, d1, d2, d3, d4, d5, d6, d7, d8, d9⟩ := HD.out
    refine bodyPost_ret (v := .tuple #[.slice none 0 0, .agg #[.slice none 0 0, .int .i64 0, .slice none 0 0, .int .i64 0, .slice none 0 0, .int .i64 0, .slice none 0 0, .int .i64 0, .int .i64 0, .int .i64 0], .int .i64 2]) (by simp [results, Tryz.results18, go_sem, d0, d1, d2, d3, d4, d5, d6, d7, d8, d9]) rfl ?_
    refine hR.out _ _ ⟨HUF.out, ?_⟩
    rw [HE.out]
    exact (if_neg (by simp [SecE.no])).mpr rfl

end Go.Proofs.YtjfdaphjijfieaaGreat

/-
  The chapter's examples, reckoned.
  Conditions: none beyond those of each theorem.
-/
namespace Go.Proofs.YtjfdaphjijfieaaGreat
open Go.RowKit
set_option linter.unusedVariables false
set_option linter.unusedSimpArgs false

set_option maxRecDepth 100000 in
theorem kn_err1 : (decE [1] 0 Tabs3.none 1 4 8).err = 3 := by decide +kernel
set_option maxRecDepth 100000 in
theorem kn_err2 : (decE [1, 64] 0 Tabs3.none 1 4 8).err = 13 := by decide +kernel
set_option maxRecDepth 100000 in
theorem kn_zero : (decE [0] 0 Tabs3.none 1 4 8).err = 0 ∧ (decE [0] 0 Tabs3.none 1 4 8).seqs = [] := by decide +kernel
set_option maxRecDepth 100000 in
theorem kn_one : (decE [1, 21, 2, 0, 0, 1] 0 Tabs3.none 1 4 8).err = 0 ∧ (decE [1, 21, 2, 0, 0, 1] 0 Tabs3.none 1 4 8).seqs = [(2, 3, 1)] := by decide +kernel

end Go.Proofs.YtjfdaphjijfieaaGreat

/-
  Reference 25: Same, May; package seqs: Valid.
  Conditions: none beyond those of each theorem.
-/
namespace Go.Proofs.YtjfdaphjijfieaaGreat
open Go.RowKit
set_option linter.unusedVariables false
set_option linter.unusedSimpArgs false

set_option maxRecDepth 100000 in
set_option maxHeartbeats 4000000 in
theorem same25_any (F G : Nat → Prop) (A B : Option Addr) (n m c d : Nat) (l1 l2 : List (Int × Int × Int)) (w : World) (h1 : RdK w F 3 A n (l1.map tri)) (h2 : RdK w G 3 B m (l2.map tri)) (hn : n ≤ 2 ^ 40) (hm : m ≤ 2 ^ 40) :
    Calls Tryz.prog 22 #[.slice A n c, .slice B m d] w fun e w' => e = .returned (.bool (decide (l1 = l2))) ∧ Fresh w w' := by
  have e1 : l1.length = n := by have := h1.1; simpa using this
  have e2 : l2.length = m := by have := h2.1; simpa using this
  by_cases hnm : n = m
  · subst hnm
    have hne : ((n : Int) != n) = false := by simp
    have H1 := hide h1
    have H2 := hide h2
    have E1 := hide e1
    have E2 := hide e2
    clear h1 h2 e1 e2
    refine veil fun R hR => ?_
    go_enter Tryz.func22, Tryz.ntmps22
    go_wp2_with fail
    go_loopg [5] n (fun f vi wr => ∃ j : Nat, j + f = n ∧ vi = .int .i64 j ∧ l1.take j = l2.take j ∧ Fresh w wr)
    case atStart => exact ⟨0, by omega, rfl, by simp, Upd.refl _ _⟩
    case round =>
      obtain ⟨j, hj, rfl, htk, hu⟩ := hrel
      by_cases hjn : j < n
      · have hjI : (j : Int) < n := by omega
        have j1 : j < l1.length := by rw [E1.out]; exact hjn
        have j2 : j < l2.length := by rw [E2.out]; exact hjn
        obtain ⟨b, o, rfl, _, _, hc⟩ := (H1.out.fresh hu).at_ (r := 0) hjn
        obtain ⟨b', o', rfl, _, _, hc'⟩ := (H2.out.fresh hu).at_ (r := 0) hjn
        rw [List.getElem_map] at hc hc'
        have c0 := hc 0 (by omega)
        have c1 := hc 1 (by omega)
        have c2 := hc 2 (by omega)
        have d0 := hc' 0 (by omega)
        have d1 := hc' 1 (by omega)
        have d2 := hc' 2 (by omega)
        simp [tri] at c0 c1 c2 d0 d1 d2
        have hw4 : IntKind.i64.wrap ((j : Int) + 1) = j + 1 := IntWalk.i64_in _ (by omega)
        have HJ := hide hj
        have HTK := hide htk
        have HU := hide hu
        have HS := hide (show l1.take (j + 1) = l1.take j ++ [l1[j]] from List.take_succ_eq_append_getElem j1)
        have HS2 := hide (show l2.take (j + 1) = l2.take j ++ [l2[j]] from List.take_succ_eq_append_getElem j2)
        have HX := hide (fun h : l1 = l2 => (by subst h; rfl : l1[j] = l2[j]))
        clear hc hc' hj htk
        generalize l1[j] = x at *
        generalize l2[j] = y at *
        obtain ⟨xa, xb, xc⟩ := x
        obtain ⟨ya, yb, yc⟩ := y
        simp only at c0 c1 c2 d0 d1 d2
        by_cases hxy : ((xa, xb, xc) : Int × Int × Int) = (ya, yb, yc)
        · injection hxy with e1 e2
          injection e2 with e2 e3
          subst e1 e2 e3
          go_wp2_with fail
          go_quiet (fail)
          go_wp2_with fail
          go_roundg (gk - 1)
          case measure => have := HJ.out; omega
          case rel => exact ⟨j + 1, by have := HJ.out; omega, by go_num, by rw [HS.out, HS2.out, HTK.out], HU.out.drewN _⟩
        · have hd : decide (l1 = l2) = false := by
            simp only [decide_eq_false_iff_not]
            intro h
            exact hxy (HX.out h)
          have HD := hide hd
          clear hd HX HS HS2
          have h3 : xa ≠ ya ∨ (xa = ya ∧ xb ≠ yb) ∨ (xa = ya ∧ xb = yb ∧ xc ≠ yc) := by
            by_cases h1 : xa = ya
            · by_cases h2 : xb = yb
              · exact .inr (.inr ⟨h1, h2, fun h => hxy (by rw [h1, h2, h])⟩)
              · exact .inr (.inl ⟨h1, h2⟩)
            · exact .inl h1
          clear hxy
          rcases h3 with h | ⟨rfl, h⟩ | ⟨rfl, rfl, h⟩
          · have hb : (xa == ya) = false := by simpa using h
            go_wp2_with fail
            go_quiet (fail)
            go_wp2_with fail
            refine hR.out _ _ ⟨?_, HU.out.drewN _⟩
            rw [HD.out]
            rfl
          · have hb : (xb == yb) = false := by simpa using h
            go_wp2_with fail
            go_quiet (fail)
            go_wp2_with fail
            refine hR.out _ _ ⟨?_, HU.out.drewN _⟩
            rw [HD.out]
            rfl
          · have hb : (xc == yc) = false := by simpa using h
            go_wp2_with fail
            go_quiet (fail)
            go_wp2_with fail
            refine hR.out _ _ ⟨?_, HU.out.drewN _⟩
            rw [HD.out]
            rfl
      · obtain rfl : j = n := by omega
        have hd : decide (l1 = l2) = true := by
          rw [decide_eq_true_iff, ← List.take_of_length_le (Nat.le_of_eq E1.out), htk, List.take_of_length_le (Nat.le_of_eq E2.out)]
        have HD := hide hd
        have HU := hide hu
        clear hd htk hj hu hjn
        go_wp2_with fail
        try go_ret
        refine hR.out _ _ ⟨?_, HU.out⟩
        rw [HD.out]
        rfl
  · have hne : ((n : Int) != m) = true := by simp; omega
    have hne2 : ¬ ((n : Nat) : Int) = m := by omega
    have hd : decide (l1 = l2) = false := by
      simp only [decide_eq_false_iff_not]
      rintro rfl
      omega
    rw [hd]
    clear h1 h2 e1 e2 hd
    refine veil fun R hR => ?_
    go_enter Tryz.func22, Tryz.ntmps22
    go_wp2_with fail
    try go_ret
    exact hR.out _ _ ⟨rfl, Upd.refl _ _⟩

end Go.Proofs.YtjfdaphjijfieaaGreat
