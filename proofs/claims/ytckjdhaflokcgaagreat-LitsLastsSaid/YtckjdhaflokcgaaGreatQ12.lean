/-
  Joined texts, part 12: contracts and plain lemmas.
  Conditions: none beyond those of each theorem.
-/
import Derived.Test.YtckjdhaflokcgaaGreatQ5
set_option linter.unusedVariables false
set_option linter.unusedSimpArgs false
set_option linter.unnecessarySimpa false
set_option maxRecDepth 100000
universe u
namespace Go.Proofs.YtckjdhaflokcgaaGreat
open Go.RowKit
def cd2 (x:Nat × Nat):List Value:=[.int .i64 (x.1:Nat),.int .u32 (x.2:Nat)]
def QJ (L:List (Nat × Nat)):List Value:=(L.map cd2).flatten
theorem KR (L:List (Nat × Nat)):∀r∈L.map cd2,r.length=2:=by
 intro r hr;obtain⟨x,_,rfl⟩:=List.mem_map.1 hr;rfl
theorem JE (L:List (Nat × Nat)):(QJ L).length=2*L.length:=by
 unfold QJ;rw [Jf (KR L),List.length_map];omega
theorem JF (A B:List (Nat × Nat)):QJ (A++B)=QJ A++QJ B:=by simp [QJ]
theorem Z5 (x:Nat × Nat) (B:List (Nat × Nat)):QJ (x::B) = .int .i64 (x.1:Nat) :: .int .u32 (x.2:Nat)::QJ B:=rfl
theorem Kl {A B:List (Nat × Nat)} {x:Nat × Nat} {k:Nat} (h:A.length=k):(QJ (A++x::B))[k*2]?=some (.int .i64 (x.1:Nat))/\(QJ (A++x::B))[k*2+1]?=some (.int .u32 (x.2:Nat)):=by
 have hl:=JE A;rw [JF,Z5];refine⟨?_,?_⟩
 . rw [List.getElem?_append_right (by omega),show k*2-(QJ A).length=0 by omega];rfl
 rw [List.getElem?_append_right (by omega),show k*2+1-(QJ A).length=1 by omega];rfl
theorem Va {A B:List (Nat × Nat)} {x:Nat × Nat} (y:Nat × Nat) {k:Nat} (h:A.length=k) :
   ((QJ (A++x::B)).toArray.setIfInBounds (k*2) (.int .i64 (y.1:Nat))).setIfInBounds (k*2+1) (.int .u32 (y.2:Nat))=(QJ (A++y::B)).toArray:=by
 have hl:=JE A;apply Array.toList_inj.1;simp only [Array.toList_setIfInBounds];rw [JF,JF,Z5,Z5];rw [List.set_append_right _ _ (by omega),show k*2-(QJ A).length=0 by omega,List.set_cons_zero];rw [List.set_append_right _ _ (by omega),show k*2+1-(QJ A).length=1 by omega];rfl
theorem Blk.rdk2 {w:World} {g:Nat} {t:TypeId} {L:List (Nat × Nat)} {n:Nat} (h:Blk w g t (QJ L).toArray) (hn:L.length=n):RdK w (fun b=>b=g) 2 (some ⟨g,0,none⟩) n (L.map cd2) :=
 ⟨by simpa using hn,fun _=>⟨g,0,rfl,rfl,h.lt,fun j r hj hr=>by
   rw [Nat.zero_add,h.cell]
   have:=JG (rows:=L.map cd2) j r (KR L) hr hj
   simpa [QJ]using this⟩⟩
theorem Q4f (n:Nat):(madeCells #[Value.int .i64 0,.int .u32 0] (n*2))=(QJ (List.replicate n (0,0))).toArray:=by
 apply Array.toList_inj.1;apply List.ext_getElem?;intro i
 have hr:(QJ (List.replicate n (0,0)))[i / 2*2+i%2]?=if i<n*2 then(cd2 (0,0))[i%2]? else none:=by
   by_cases h:i<n*2
   . rw [if_pos h]
     have:=JG (rows:=(List.replicate n ((0,0):Nat × Nat)).map cd2) (i / 2) (i%2) (KR _) (Nat.mod_lt _ (by decide)) (by simp;omega);unfold QJ;rw [this];simp
   rw [if_neg h,List.getElem?_eq_none];rw [JE,List.length_replicate];omega
 rw [show i / 2*2+i%2=i by omega]at hr;show(madeCells _ _).toList[i]?=(QJ (List.replicate n (0,0)))[i]?;rw [hr];by_cases h:i<n*2
 . rw [if_pos h]
   rcases(show i%2=0\/i%2=1 by omega)with h2|h2
   . simp [madeCells,h,h2,cd2]
   simp [madeCells,h,h2,cd2]
 rw [if_neg h,List.getElem?_eq_none];simp [madeCells];omega
end Go.Proofs.YtckjdhaflokcgaaGreat
