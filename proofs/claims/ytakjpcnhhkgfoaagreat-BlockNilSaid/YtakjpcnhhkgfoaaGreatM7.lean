/-
  Joined texts, part 7: contracts and plain lemmas.
  Conditions: none beyond those of each theorem.
-/
import Derived.Test.YtakjpcnhhkgfoaaGreatM4
import Derived.Laws.CopyOwn
set_option linter.unusedVariables false
set_option linter.unusedSimpArgs false
set_option maxRecDepth 100000
universe u
namespace Go.Proofs.YtakjpcnhhkgfoaaGreat
open Go.RowKit
def Yv (n:Nat) (first:List Int):List Int:=(List.range n).map fun i=>if n<=i+6 then -1 else if(first.getD i 0)=0 then 1 else first.getD i 0
def Jx (n:Nat) (first:List Int):List Int:=first++List.replicate (n-first.length) 0
def JO (n:Nat) (first:List Int) (k:Nat):List Int:=(Yv n first).take k++(Jx n first).drop k
where
  List.set_getElem?_self {l:List Int} {i:Nat} {x:Int} (h:l[i]?=some x):l.set i x=l:=by
    apply List.ext_getElem?
    intro j
    by_cases hj:j=i
    . subst hj
      rw [List.getElem?_set_self (List.getElem?_eq_some_iff.1 h).1,h]
    . rw [List.getElem?_set_ne (Ne.symm hj)]
def JD (w w':World) (e:Ending) (lg:Int) (N:List Int):Prop :=
  ∃g,e = .returned (.agg #[.int .i64 lg,.slice (some ⟨g,0,none⟩) N.length N.length])/\Rd w' (fun b=>b=g) (some ⟨g,0,none⟩) N.length (QV N)/\w.heap.size<=g/\Q0 w w'
def llN:List Int:=Yv 44 [5,3,3,3,2,2,2,2,2,2,1,1,1,1,1,1,2,2,2,2]
def ofN:List Int:=Yv 28 [1,1,1,1,1,2,2,2,2]
def mlN:List Int:=Yv 44 [5,5,4,3,3,2,2,2,1,1,1,1,1,1,1,1,2,2]
end Go.Proofs.YtakjpcnhhkgfoaaGreat
