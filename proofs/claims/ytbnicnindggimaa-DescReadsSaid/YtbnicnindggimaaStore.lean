/-
  A store into a slice that owns its row.
  Conditions: none beyond those of each theorem.
-/
import Derived.Test.YtbnicnindggimaaBase
namespace Go.Proofs.Ytbnicnindggimaa
open Go.RowKit

theorem Own.store {w : World} {e : TypeId} {A : Option Addr} {n c : Nat} {xs : List Value} (h : Own w e (.slice A n c) xs) {i : Nat} (hi : i < xs.length) :
    ∃ g, A = some ⟨g, 0, none⟩ ∧ g < w.heap.size ∧ w.cell? ⟨g, i, none⟩ = some xs[i] ∧ w.frozen? ⟨g, i, none⟩ = false ∧ ∀ u, Own (w.setCell ⟨g, i, none⟩ u) e (.slice A n c) (xs.set i u) := by
  rcases h.2 with ⟨h0, hn⟩ | ⟨g, cap, cur, hv, hb, hg, hn, hm, hc, ht⟩
  · omega
  · injection hv with h1 h2 h3
    subst h1 h2 h3
    have hcur : cur[i]? = some xs[i] := by
      have h1 : (cur.toList.take (xs.length * 1))[i]? = some xs[i] := by
        rw [ht]; exact List.getElem?_eq_getElem hi
      rw [List.getElem?_take, if_pos (by omega)] at h1
      simpa using h1
    have hgs : g < w.heap.size := (Array.getElem?_eq_some_iff.1 hg).1
    refine ⟨g, rfl, hgs, ?_, ?_, fun u => ?_⟩
    · rw [cell_of_row w g i cur e (0, 0) hg]; exact hcur
    · simp [World.frozen?, hg]
    · have hb2 := Blk.set_ (show Blk w g e cur from hg) i u
      refine ⟨by simp, .inr ⟨g, c, cur.setIfInBounds i u, by simp, hb, hb2, by simp; omega, hm, by simp; omega, ?_⟩⟩
      rw [List.length_set, Array.toList_setIfInBounds, List.take_set, ht]

end Go.Proofs.Ytbnicnindggimaa
