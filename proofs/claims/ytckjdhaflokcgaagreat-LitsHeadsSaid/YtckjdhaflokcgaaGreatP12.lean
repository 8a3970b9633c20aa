/-
  Joined texts, part 12: contracts and plain lemmas.
  Conditions: none beyond those of each theorem.
-/
import Derived.Test.YtckjdhaflokcgaaGreatP5
set_option linter.unusedVariables false
set_option linter.unusedSimpArgs false
set_option linter.unnecessarySimpa false
set_option maxRecDepth 100000
universe u
namespace Go.Proofs.YtckjdhaflokcgaaGreat
open Go.RowKit
def cd2 (x:Nat × Nat):List Value:=[.int .i64 (x.1:Nat),.int .u32 (x.2:Nat)]
def QG (L:List (Nat × Nat)):List Value:=(L.map cd2).flatten
theorem ZT (L:List (Nat × Nat)):∀r∈L.map cd2,r.length=2:=by
 intro r hr;obtain⟨x,_,rfl⟩:=List.mem_map.1 hr;rfl
theorem J7 (L:List (Nat × Nat)):(QG L).length=2*L.length:=by
 unfold QG;rw [YM (ZT L),List.length_map];omega
theorem J8 (A B:List (Nat × Nat)):QG (A++B)=QG A++QG B:=by simp [QG]
theorem Jw (x:Nat × Nat) (B:List (Nat × Nat)):QG (x::B) = .int .i64 (x.1:Nat) :: .int .u32 (x.2:Nat)::QG B:=rfl
theorem Xc {A B:List (Nat × Nat)} {x:Nat × Nat} {k:Nat} (h:A.length=k):(QG (A++x::B))[k*2]?=some (.int .i64 (x.1:Nat))/\(QG (A++x::B))[k*2+1]?=some (.int .u32 (x.2:Nat)):=by
 have hl:=J7 A;rw [J8,Jw];refine⟨?_,?_⟩
 . rw [List.getElem?_append_right (by omega),show k*2-(QG A).length=0 by omega];rfl
 rw [List.getElem?_append_right (by omega),show k*2+1-(QG A).length=1 by omega];rfl
theorem Q08 {A B:List (Nat × Nat)} {x:Nat × Nat} (y:Nat × Nat) {k:Nat} (h:A.length=k) :
   ((QG (A++x::B)).toArray.setIfInBounds (k*2) (.int .i64 (y.1:Nat))).setIfInBounds (k*2+1) (.int .u32 (y.2:Nat))=(QG (A++y::B)).toArray:=by
 have hl:=J7 A;apply Array.toList_inj.1;simp only [Array.toList_setIfInBounds];rw [J8,J8,Jw,Jw];rw [List.set_append_right _ _ (by omega),show k*2-(QG A).length=0 by omega,List.set_cons_zero];rw [List.set_append_right _ _ (by omega),show k*2+1-(QG A).length=1 by omega];rfl
theorem Blk.rdk2 {w:World} {g:Nat} {t:TypeId} {L:List (Nat × Nat)} {n:Nat} (h:Blk w g t (QG L).toArray) (hn:L.length=n):RdK w (fun b=>b=g) 2 (some ⟨g,0,none⟩) n (L.map cd2) :=
 ⟨by simpa using hn,fun _=>⟨g,0,rfl,rfl,h.lt,fun j r hj hr=>by
   rw [Nat.zero_add,h.cell]
   have:=J9 (rows:=L.map cd2) j r (ZT L) hr hj
   simpa [QG]using this⟩⟩
theorem Q2E (n:Nat):(madeCells #[Value.int .i64 0,.int .u32 0] (n*2))=(QG (List.replicate n (0,0))).toArray:=by
 apply Array.toList_inj.1;apply List.ext_getElem?;intro i
 have hr:(QG (List.replicate n (0,0)))[i / 2*2+i%2]?=if i<n*2 then(cd2 (0,0))[i%2]? else none:=by
   by_cases h:i<n*2
   . rw [if_pos h]
     have:=J9 (rows:=(List.replicate n ((0,0):Nat × Nat)).map cd2) (i / 2) (i%2) (ZT _) (Nat.mod_lt _ (by decide)) (by simp;omega);unfold QG;rw [this];simp
   rw [if_neg h,List.getElem?_eq_none];rw [J7,List.length_replicate];omega
 rw [show i / 2*2+i%2=i by omega]at hr;show(madeCells _ _).toList[i]?=(QG (List.replicate n (0,0)))[i]?;rw [hr];by_cases h:i<n*2
 . rw [if_pos h]
   rcases(show i%2=0\/i%2=1 by omega)with h2|h2
   . simp [madeCells,h,h2,cd2]
   simp [madeCells,h,h2,cd2]
 rw [if_neg h,List.getElem?_eq_none];simp [madeCells];omega
end Go.Proofs.YtckjdhaflokcgaaGreat
