/-
  Joined texts, part 1: contracts and plain lemmas.
  Conditions: none beyond those of each theorem.
-/

set_option linter.unusedVariables false
set_option linter.unusedSimpArgs false
set_option maxRecDepth 100000
universe u
namespace Go.Proofs.YtakjpcnhhkgfoaaGreat
def QT:List Bool->Nat
  | []=>0
  | b::l=>b.toNat+2*QT l
def Q9:Nat->Nat->List Bool
  | 0,_=>[]
  | n+1,v=>(v%2 == 1)::Q9 n (v / 2)
def Qs (l:List Nat):List Bool:=l.flatMap (Q9 8)
def JE (l:List Bool):List Nat:=(List.range ((l.length+7) / 8)).map fun i=>QT l / 256^i%256
@[simp] theorem QU:∀n v,(Q9 n v).length=n
  | 0,_=>rfl
  | n+1,v=>by simp [Q9,QU n]
theorem Yw (b:Nat) (l:List Nat):Qs (b::l)=Q9 8 b++Qs l:=by simp [Qs]
@[simp] theorem Yb:∀l:List Nat,(Qs l).length=8*l.length
  | []=>rfl
  | b::l=>by simp [Yw,Yb l];omega
def JJ (l:List Bool):List Bool:=l++List.replicate ((8-l.length%8)%8) false
def JK (bs:List Nat):Nat:=QT (Qs bs)
end Go.Proofs.YtakjpcnhhkgfoaaGreat
