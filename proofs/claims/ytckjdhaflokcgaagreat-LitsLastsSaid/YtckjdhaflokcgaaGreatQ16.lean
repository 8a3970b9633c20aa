/-
  Joined texts, part 16: contracts and plain lemmas.
  Conditions: none beyond those of each theorem.
-/
import Derived.Test.YtckjdhaflokcgaaGreatQ5
import Derived.Lib.BitFns
set_option linter.unusedVariables false
set_option linter.unusedSimpArgs false
set_option linter.unnecessarySimpa false
set_option maxRecDepth 100000
universe u
namespace Go.Proofs.YtckjdhaflokcgaaGreat
open Go.RowKit
def Q4w (P:List Int) (i:Nat) (c:Int):Nat:=(P.take i).count c
def XW (P:List Int) (i:Nat):Int:=(P[i]?).getD 0
def Q3L (N P:List Int) (i:Nat):Int:=max ((N[(XW P i).toNat]?).getD 0) (-((N[(XW P i).toNat]?).getD 0))+Q4w P i (XW P i)
def Q3M (lg:Nat) (N P:List Int) (i:Nat):Int:=(lg:Int)+1-(Lib.bitLen (Q3L N P i).toNat:Nat)
def Q4g (lg:Nat) (N P:List Int) (i:Nat):Int:=Q3L N P i*2^(Q3M lg N P i).toNat-2^lg
def Q4h (lg:Nat) (N P:List Int) (i:Nat):Int × Int × Int:=(XW P i,Q3M lg N P i,Q4g lg N P i)
def Q0W (lg:Nat) (N:List Int):List (Int × Int × Int):=(List.range (2^lg)).map (Q4h lg N (ZJ lg N))
@[simp] theorem Q3K (lg:Nat) (N:List Int):(Q0W lg N).length=2^lg:=by simp [Q0W]
end Go.Proofs.YtckjdhaflokcgaaGreat
