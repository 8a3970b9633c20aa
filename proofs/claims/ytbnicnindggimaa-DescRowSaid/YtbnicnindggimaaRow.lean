/-
  DescRow: the law's function answers true.
  Conditions: none beyond those of each theorem.
-/
import Derived.Test.YtbnicnindggimaaOnce
import Derived.Test.YtbnicnindggimaaDescNo
import Derived.Test.YtbnicnindggimaaTabs
namespace Go.Proofs.Ytbnicnindggimaa
open Go.RowKit

/-- the descriptions of tables, one behind the other -/
def rowD (ts : List (Int × List Int)) : List Nat := ts.flatMap fun t => packB (descBits t.1.toNat t.2)

theorem rowD_append (a b : List (Int × List Int)) : rowD (a ++ b) = rowD a ++ rowD b := by unfold rowD; rw [List.flatMap_append]
theorem rowD_cons (t : Int × List Int) (b : List (Int × List Int)) : rowD (t :: b) = packB (descBits t.1.toNat t.2) ++ rowD b := by unfold rowD; rw [List.flatMap_cons]
theorem take_some {α : Type} {l : List α} {k : Nat} {t : α} (h : l[k]? = some t) : l.take (k + 1) = l.take k ++ [t] := by rw [List.take_add_one, h]; rfl
theorem rowD_succ {ts : List (Int × List Int)} {k : Nat} {t : Int × List Int} (h : ts[k]? = some t) : rowD (ts.take (k + 1)) = rowD (ts.take k) ++ packB (descBits t.1.toNat t.2) := by
  rw [take_some h, rowD_append, rowD_cons]
  unfold rowD
  simp

theorem rowD_split {ts : List (Int × List Int)} {k : Nat} {t : Int × List Int} (h : ts[k]? = some t) : rowD ts = rowD (ts.take k) ++ (packB (descBits t.1.toNat t.2) ++ rowD (ts.drop (k + 1))) := by
  have h1 := congrArg rowD (List.take_append_drop (k + 1) ts)
  rw [rowD_append, rowD_succ h, List.append_assoc] at h1
  exact h1.symm

theorem rowD_lt (ts : List (Int × List Int)) : ∀ b ∈ rowD ts, b < 256 := by
  intro b hb
  obtain ⟨t, _, h⟩ := List.mem_flatMap.1 hb
  exact packB_lt _ b h

/-- a table that the row admits -/
def Adm (t : Int × List Int) : Prop := Has t.1 t.2 ∧ t.2.length ≤ 100

theorem rowD_len : ∀ (ts : List (Int × List Int)), (∀ t ∈ ts, Adm t) → (rowD ts).length ≤ 400 * ts.length
  | [], _ => by simp [rowD]
  | t :: ts, h => by
    have ih := rowD_len ts (fun x hx => h x (by simp [hx]))
    obtain ⟨⟨hv, hz⟩, _⟩ := h t (by simp)
    obtain ⟨p, hp⟩ : ∃ p : Nat, t.1 = p := ⟨t.1.toNat, by have := hv.1; omega⟩
    rw [hp] at hv
    have h1 := desc_bytes_le hv
    rw [rowD_cons, List.length_append, hp, Int.toNat_natCast]
    simp only [List.length_cons]
    omega

theorem row_decode {ts : List (Int × List Int)} {k p : Nat} {N : List Int} (h : ts[k]? = some ((p : Int), N)) (ha : ∀ t ∈ ts, Adm t) :
    decodeS 100 9 (rowB (seenB (rowD ts) (rowD (ts.take k)).length)) = .ok (p, N, (packB (descBits p N)).length) := by
  obtain ⟨⟨hv, hz⟩, h100⟩ := ha _ (List.mem_of_getElem? h)
  simp only at hv hz h100
  have h1 := desc_bytes_le hv
  unfold seenB
  rw [rowD_split h, Int.toNat_natCast, seen_back _ _ _ (by show (packB (descBits p N)).length ≤ 1024; omega)]
  exact desc_back hv (by omega) (by omega) hv.2.1 _

set_option maxHeartbeats 400000 in
theorem cend_any (F : Nat → Prop) (g : Nat) (bs : List Nat) (w : World) (hc : CurAt w F g bs bs.length) :
    Calls Try.prog 26 #[.pointer (some ⟨g, 0, none⟩)] w fun e w' => e = .returned (.int .i64 0) ∧ ∃ k, w' = w.drewN k := by
  have hl := cleft_any F g bs bs.length w hc
  rw [Nat.sub_self] at hl
  have HL := hide hl
  clear hl
  refine veil fun R hR => ?_
  go_enter Try.func26, Try.ntmps26
  go_wp2_with fail
  refine HL.out.mono ?_
  rintro e w1 ⟨rfl, k, rfl⟩
  go_wp2_with fail
  try go_ret
  exact hR.out _ _ ⟨rfl, k, rfl⟩

set_option maxRecDepth 100000 in
set_option maxHeartbeats 8000000 in
theorem row_any (A : Option Addr) (n c : Nat) (ts : List (Int × List Int)) (w : World) (hr : Tabs w A n ts) :
    Calls Try.prog 11 #[.slice A n c] w fun e w' => e = .returned (.bool true) ∧ Fresh w w' := by
  have hkn := hide known_any
  have HR := hide hr
  have hn := hr.1
  have HN := hide hn
  clear hr hn
  refine veil fun R hR => ?_
  by_cases h1 : 20 < n
  · have h1' : (20 : Int) < n := by omega
    go_enter Try.func11, Try.ntmps11
    go_wp2_with fail
    refine (hkn.out _).mono ?_
    rintro e w1 ⟨rfl, f1⟩
    have F1 := hide f1
    clear f1
    go_wp2_with fail
    try go_ret
    exact hR.out _ _ ⟨rfl, F1.out⟩
  have h1' : (n : Int) ≤ 20 := by omega
  go_enter Try.func11, Try.ntmps11
  go_wp2_with fail
  go_loopg [3, 4] n (fun m s i wr => ∃ (k : Nat) (v : Value), k + m = n ∧ i = .int .i64 k ∧ s = v ∧ Own wr 5 v (bytes (rowD (ts.take k))) ∧ Fresh w wr ∧ (∀ b, v.ownBlock = some b → w.heap.size ≤ b) ∧ ∀ t ∈ ts.take k, Adm t)
  case atStart => exact ⟨0, _, by omega, rfl, rfl, by simpa [rowD, bytes] using Own.nil w 5, Upd.refl _ _, by simp [Value.ownBlock], by simp⟩
  case round =>
    obtain ⟨k, v, hk, rfl, rfl, ho, hf, hob, hall⟩ := hrel
    have HK := hide hk
    have HO := hide ho
    have HFR := hide hf
    have HOB := hide hob
    have HALL := hide hall
    clear hk ho hf hob hall
    by_cases hlt : k < n
    · have hkl : k < ts.length := by have := HN.out; omega
      obtain ⟨⟨lg, N⟩, hT⟩ : ∃ T, ts[k]? = some T := ⟨_, List.getElem?_eq_getElem hkl⟩
      have hta := (HR.out.2 k _ hT).fresh HFR.out
      have HRS := hide (rowD_succ hT)
      have HTS := hide (take_some hT)
      clear hT hkl
      obtain ⟨b, o, B, nb, cb, rfl, hb, hc0, hc1, hrd, hfit⟩ := hta
      simp only at hc0 hc1 hrd hfit
      have RDB := hide hrd
      have HFB := hide hfit
      clear hrd hfit
      by_cases h100 : 100 < nb
      · have h100' : (100 : Int) < nb := by omega
        go_wp2_with fail
        refine (hkn.out _).mono ?_
        rintro e w1 ⟨rfl, f1⟩
        have F1 := hide (HFR.out.trans' f1)
        clear f1
        go_wp2_with fail
        try go_ret
        exact hR.out _ _ ⟨rfl, F1.out⟩
      · have h100' : (nb : Int) ≤ 100 := by omega
        have hmay := may11_any _ B nb cb lg N wr RDB.out HFB.out (by omega)
        by_cases hv : Has lg N
        · rw [decide_eq_true hv] at hmay
          have HM := hide hmay
          have HV := hide hv
          clear hmay hv
          go_wp2_with fail
          refine HM.out.mono ?_
          rintro e w1 ⟨rfl, f1⟩
          have d0 := (f1.cells b (o + k * 2) hb).trans hc0
          have d1 := (f1.cells b (o + k * 2 + 1) hb).trans hc1
          have FR1 := hide f1
          obtain ⟨p, hp⟩ : ∃ p : Nat, lg = p := ⟨lg.toNat, by have := HV.out.1.1; omega⟩
          subst hp
          have hpz : p ≠ 0 := by have := HV.out.2; omega
          have hen := encode_ok _ B nb cb p N w1 (RDB.out.fresh f1) HFB.out (by omega) HV.out.1 hpz
          have HE := hide hen
          clear f1 hen hpz HM hc0 hc1
          go_wp2_with fail
          refine HE.out.mono ?_
          rintro e w2 ⟨v2, rfl, o2, f2, k2⟩
          obtain ⟨A2, n2, c2, rfl, hn2⟩ := o2.form'
          have hrd2 := (o2.rd rfl).2.2
          rw [← hn2.out] at hrd2
          have hle := desc_bytes_le HV.out.1
          have hlr := rowD_len _ HALL.out
          have hlen : (bytes (rowD (ts.take k))).length + n2 ≤ 2 ^ 40 := by
            have h5 := hn2.out
            have h6 : (ts.take k).length ≤ k := by rw [List.length_take]; omega
            simp only [bytes_length] at h5 ⊢
            omega
          have F12 := hide (FR1.out.trans' f2)
          have O1 := hide (HO.out.fresh F12.out)
          have RD2 := hide hrd2
          have HLEN := hide hlen
          clear o2 f2 k2 hn2 hrd2 hle hlr hlen HE d0 d1 hb
          go_wp2_with (at_builtin; go_must (refine wpList_app _ rfl (.tmp 47) (.tmp 48) _ rfl 5 _ 1 Try.underlying27 infoU8 rfl _ _ rfl O1.out _ n2 _ _ rfl RD2.out (bytes_one _) (by omega) HLEN.out ?_))
          intro v3 w3 o3 g3 a3
          have hfr3 : Fresh w w3 := (HFR.out.trans' F12.out).grown g3 (fun kk hkk hlt => by have := HOB.out kk hkk; omega)
          have hob3 : ∀ kk, v3.ownBlock = some kk → w.heap.size ≤ kk := own_S (S := fun kk => w.heap.size ≤ kk) a3 HOB.out (by have h7 := (HFR.out.trans' F12.out).size; exact h7)
          have HO3 := hide o3
          have HF3 := hide hfr3
          have HOB3 := hide hob3
          clear o3 g3 a3 hfr3 hob3
          go_wp2_with fail
          go_roundg (gk - 1)
          case measure => have := HK.out; omega
          case rel =>
            refine ⟨k + 1, _, by have := HK.out; omega, by go_num, rfl, ?_, HF3.out, HOB3.out, ?_⟩
            · rw [HRS.out]
              have := HO3.out
              simpa [bytes] using this
            · rw [HTS.out]
              intro t ht
              rcases List.mem_append.1 ht with ht | ht
              · exact HALL.out t ht
              · have ht' : t = ((p : Int), N) := by simpa using ht
                subst ht'
                have := RDB.out.1
                exact ⟨HV.out, by simp at this; simp; omega⟩
        · rw [decide_eq_false hv] at hmay
          have HM := hide hmay
          clear hmay hv
          go_wp2_with fail
          refine HM.out.mono ?_
          rintro e w1 ⟨rfl, f1⟩
          have F1 := hide (HFR.out.trans' f1)
          clear f1
          go_wp2_with fail
          refine (hkn.out _).mono ?_
          rintro e w2 ⟨rfl, f2⟩
          have F2 := hide (F1.out.trans' f2)
          clear f2
          go_wp2_with fail
          try go_ret
          exact hR.out _ _ ⟨rfl, F2.out⟩
    · obtain rfl : k = n := by have := HK.out; omega
      have htk : ts.take k = ts := by rw [List.take_of_length_le (by have := HN.out; omega)]
      rw [htk] at HO HALL
      obtain ⟨A1, n1, c1, rfl, hn1⟩ := HO.out.form'
      have hrd1 := (HO.out.rd rfl).2.2
      rw [← hn1.out] at hrd1
      have hlr := rowD_len _ HALL.out
      have hlr2 : (rowD ts).length ≤ 8000 := by have := HN.out; omega
      have hnw := new_any _ A1 n1 c1 (rowD ts) wr hrd1 (rowD_lt ts) (by omega)
      have HNW := hide hnw
      clear hnw hrd1 hn1 htk hlr
      go_wp2_with fail
      refine HNW.out.mono ?_
      rintro e w1 ⟨g, rfl, hg, f1, cu1⟩
      have hF : ∀ b, (wr.heap.size ≤ b ∧ b ≠ g) → b ≠ g := fun b h => h.2
      obtain ⟨F, hFd⟩ : ∃ F : Nat → Prop, F = fun b => wr.heap.size ≤ b ∧ b ≠ g := ⟨_, rfl⟩
      rw [← hFd] at cu1
      have hF' : ∀ b, F b → b ≠ g := by rw [hFd]; exact hF
      have HFF := hide hF'
      have hgw : w.heap.size ≤ g := Nat.le_trans HFR.out.size hg
      have HGW := hide hgw
      have CU1 := hide cu1
      have F1 := hide (HFR.out.trans' f1)
      clear hF hF' hgw cu1 f1 hFd hg HO HOB HFR HNW
      go_wp2_with fail
      go_loopg [8] k (fun m i wr => ∃ j : Nat, j + m = k ∧ i = .int .i64 j ∧ CurAt wr F g (rowD ts) (rowD (ts.take j)).length ∧ Fresh w wr)
      case atStart => exact ⟨0, by omega, rfl, by simpa [rowD] using CU1.out, F1.out⟩
      case round =>
        obtain ⟨j, hj, rfl, hcu, hfr⟩ := hrel
        have HJ := hide hj
        have HCU := hide hcu
        have HFR := hide hfr
        clear hj hcu hfr CU1 F1
        by_cases hlt2 : j < k
        · have hjl : j < ts.length := by have := HN.out; omega
          obtain ⟨⟨lg, N⟩, hT⟩ : ∃ T, ts[j]? = some T := ⟨_, List.getElem?_eq_getElem hjl⟩
          have hadm := HALL.out _ (List.mem_of_getElem? hT)
          obtain ⟨p, hp⟩ : ∃ p : Nat, lg = p := ⟨lg.toNat, by have := hadm.1.1.1; omega⟩
          subst hp
          have hdec := row_decode hT HALL.out
          have hrs := rowD_succ hT
          have hta := (HR.out.2 j _ hT).fresh HFR.out
          rw [Int.toNat_natCast] at hrs
          have hpc := hide (show (rowD (ts.take (j + 1))).length = (rowD (ts.take j)).length + (packB (descBits p N)).length by rw [hrs, List.length_append])
          have hd := decode_any F g (rowD ts) (rowD (ts.take j)).length 100 9 wr HCU.out HFF.out
          have HD := hide hd
          have HDEC := hide hdec
          have hNl : N.length ≤ 100 := hadm.2
          have HTJ := hide hT
          clear hd hdec hadm hT hjl hrs
          obtain ⟨b, o, B, nb, cb, rfl, hb, hc0, hc1, hrd, hfit⟩ := hta
          simp only at hc0 hc1 hrd hfit
          have hbg : b ≠ g := by
            obtain ⟨A', c', hbk, _⟩ := HCU.out
            intro hbg
            subst hbg
            have hx0 := hbk.cell (o + j * 2)
            have hx1 := hbk.cell (o + j * 2 + 1)
            rw [hc0] at hx0
            rw [hc1] at hx1
            rcases Nat.eq_zero_or_pos (o + j * 2) with h | h
            · rw [h] at hx0; simp at hx0
            · rcases Nat.lt_or_ge (o + j * 2) 2 with h2 | h2
              · have : o + j * 2 = 1 := by omega
                rw [this] at hx1; simp at hx1
              · have : (#[Value.slice A' (rowD ts).length c', Value.int IntKind.i64 ((rowD (ts.take j)).length : Nat)] : Array Value)[o + j * 2]? = none := by
                  rw [Array.getElem?_eq_none]; simp; omega
                rw [this] at hx0; cases hx0
          have RDB := hide hrd
          have HBG := hide hbg
          clear hrd hfit hbg
          go_wp2_with fail
          refine HD.out.mono ?_
          rintro e w2 ⟨u2, h2⟩
          rw [HDEC.out] at h2
          obtain ⟨v2, rfl, o2, b2, cu2, hl2⟩ := h2
          obtain ⟨A2, n2, c2, rfl, hn2⟩ := o2.form'
          have hrd2 := (o2.rd rfl).2.2
          rw [← hn2.out] at hrd2
          have hnb : nb = N.length := by have := RDB.out.1; simpa using this.symm
          have hn2b : n2 = nb := by have := hn2.out; simp at this; omega
          obtain ⟨w3, hw3⟩ : ∃ w3, w3 = w2.alloc (.cells #[.int .i64 p, .slice A2 n2 c2] 24) := ⟨_, rfl⟩
          obtain ⟨H3, hH3⟩ : ∃ H3, H3 = w2.heap.size := ⟨_, rfl⟩
          have f23 : Fresh w2 w3 := by rw [hw3]; exact (Upd.refl _ _).alloc _
          have bk3 : Blk w3 H3 24 #[.int .i64 p, .slice A2 n2 c2] := by rw [hw3]; exact blk_new hH3 _ _
          have F3 := hide (show Fresh w w3 from (HFR.out.trans u2 (fun b hb h => by have := HGW.out; omega)).trans' f23)
          have hbw : b < w2.heap.size := Nat.lt_of_lt_of_le hb u2.size
          have e0 := (f23.cells b (o + j * 2) hbw).trans ((u2.cell (p := ⟨b, o + j * 2, none⟩) hb HBG.out).trans hc0)
          have e1 := (f23.cells b (o + j * 2 + 1) hbw).trans ((u2.cell (p := ⟨b, o + j * 2 + 1, none⟩) hb HBG.out).trans hc1)
          have hrB : ∀ W, Fresh w3 W → Rd W (fun _ => True) B nb (ints N) := by
            intro W hW
            have h5 := (HR.out.2 j _ HTJ.out).fresh (F3.out.trans' hW)
            obtain ⟨b', o', B', nb', cb', he, hb', _, h6, h7, _⟩ := h5
            injection he with he
            injection he with he1 he2
            subst he1 he2
            have h8 := (hW.cells b (o + j * 2 + 1) (Nat.lt_of_lt_of_le hbw f23.size)).trans e1
            rw [h8] at h6
            injection h6 with h6
            injection h6 with i1 i2 i3
            subst i1 i2
            exact h7
          have hs7 := fun W (h : Fresh w3 W) => (same07_any _ _ A2 B n2 nb c2 cb p p N N W ((hrd2.fresh f23).fresh h) (hrB W h) (by omega) (by omega)).mono fun e w' x => (⟨by have y := x.1; rw [decide_eq_true (⟨rfl, rfl⟩ : (p : Int) = p ∧ N = N)] at y; exact y, h.trans' x.2⟩ : e = .returned (.bool true) ∧ Fresh w3 w')
          have HS7 := hide hs7
          have hS : ∀ W, Fresh w3 W → (Fresh w3 W ∧ W.cell? ⟨H3, 0, none⟩ = some (.int .i64 p) ∧ W.cell? ⟨H3, 1, none⟩ = some (.slice A2 n2 c2) ∧ W.cell? ⟨b, o + j * 2, none⟩ = some (.int .i64 p) ∧ W.cell? ⟨b, o + j * 2 + 1, none⟩ = some (.slice B nb cb)) := by
            intro W hW
            have b1 := bk3.fresh hW
            exact ⟨hW, by simpa using b1.cell 0, by simpa using b1.cell 1, (hW.cells _ _ (Nat.lt_of_lt_of_le hbw f23.size)).trans e0, (hW.cells _ _ (Nat.lt_of_lt_of_le hbw f23.size)).trans e1⟩
          have HSS := hide hS
          have CU3 := hide (cu2.fresh f23)
          have HW3 := hide hw3
          have HH3 := hide hH3
          clear hnb hn2b hS hs7 hrB e0 e1 bk3 f23 hw3 hH3 hrd2 o2 cu2 b2 hl2 hn2 HD HDEC
          have hlt2I : (j : Int) < k := by omega
          go_wp2_with fail
          simp only [← HH3.out, ← HW3.out]
          go_region_held3 (fun W => Fresh w3 W ∧ W.cell? ⟨H3, 0, none⟩ = some (.int .i64 p) ∧ W.cell? ⟨H3, 1, none⟩ = some (.slice A2 n2 c2) ∧ W.cell? ⟨b, o + j * 2, none⟩ = some (.int .i64 p) ∧ W.cell? ⟨b, o + j * 2 + 1, none⟩ = some (.slice B nb cb))
            (first | exact HSS.out _ (by assumption) | exact HSS.out _ (And.left (by assumption)) | exact HSS.out _ (Upd.refl _ _) | exact HSS.out _ (Upd.refl _ _).drew)
            (first
              | (go_at_call 17; refine (HS7.out _ ?_).mono ?_; exact And.left (by assumption); rintro e w' ⟨rfl, f1x⟩))
          all_goals go_wp2_with fail
          go_roundg (gk - 1)
          case measure => have := HJ.out; omega
          case rel =>
            have hfx : Fresh w3 _ := And.left (by assumption)
            exact ⟨j + 1, by have := HJ.out; omega, by go_num, by rw [hpc.out]; exact CU3.out.fresh hfx, F3.out.trans' hfx⟩
        · obtain rfl : j = k := by have := HJ.out; omega
          have htk : ts.take j = ts := by rw [List.take_of_length_le (by have := HN.out; omega)]
          rw [htk] at HCU
          have HCE := hide (cend_any F g (rowD ts) wr HCU.out)
          clear htk
          go_wp2_with fail
          refine HCE.out.mono ?_
          rintro e w2 ⟨rfl, kk, rfl⟩
          go_wp2_with fail
          refine (hkn.out _).mono ?_
          rintro e w3 ⟨rfl, f3⟩
          have F3 := hide ((HFR.out.drewN kk).trans' f3)
          clear f3
          go_wp2_with fail
          try go_ret
          exact hR.out _ _ ⟨rfl, F3.out⟩

end Go.Proofs.Ytbnicnindggimaa
