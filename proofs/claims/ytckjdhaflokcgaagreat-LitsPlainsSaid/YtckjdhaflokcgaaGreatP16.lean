/-
  Joined texts, part 16: contracts and plain lemmas.
  Conditions: none beyond those of each theorem.
-/
import Derived.Test.YtckjdhaflokcgaaGreatP5
import Derived.Lib.BitFns
set_option linter.unusedVariables false
set_option linter.unusedSimpArgs false
set_option linter.unnecessarySimpa false
set_option maxRecDepth 100000
universe u
namespace Go.Proofs.YtckjdhaflokcgaaGreat
open Go.RowKit
def Q2V (P:List Int) (i:Nat) (c:Int):Nat:=(P.take i).count c
def Xe (P:List Int) (i:Nat):Int:=(P[i]?).getD 0
def Q2l (N P:List Int) (i:Nat):Int:=max ((N[(Xe P i).toNat]?).getD 0) (-((N[(Xe P i).toNat]?).getD 0))+Q2V P i (Xe P i)
def Q2m (lg:Nat) (N P:List Int) (i:Nat):Int:=(lg:Int)+1-(Lib.bitLen (Q2l N P i).toNat:Nat)
def Q2F (lg:Nat) (N P:List Int) (i:Nat):Int:=Q2l N P i*2^(Q2m lg N P i).toNat-2^lg
def Q2G (lg:Nat) (N P:List Int) (i:Nat):Int × Int × Int:=(Xe P i,Q2m lg N P i,Q2F lg N P i)
def Q09 (lg:Nat) (N:List Int):List (Int × Int × Int):=(List.range (2^lg)).map (Q2G lg N (Z9 lg N))
@[simp] theorem Q2k (lg:Nat) (N:List Int):(Q09 lg N).length=2^lg:=by simp [Q09]
end Go.Proofs.YtckjdhaflokcgaaGreat
