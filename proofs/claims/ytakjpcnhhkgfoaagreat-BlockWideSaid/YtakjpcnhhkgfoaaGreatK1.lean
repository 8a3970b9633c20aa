/-
  Joined texts, part 1: contracts and plain lemmas.
  Conditions: none beyond those of each theorem.
-/

set_option linter.unusedVariables false
set_option linter.unusedSimpArgs false
set_option maxRecDepth 100000
universe u
namespace Go.Proofs.YtakjpcnhhkgfoaaGreat
def QI:List Bool->Nat
  | []=>0
  | b::l=>b.toNat+2*QI l
def Qa:Nat->Nat->List Bool
  | 0,_=>[]
  | n+1,v=>(v%2 == 1)::Qa n (v / 2)
def Qp (l:List Nat):List Bool:=l.flatMap (Qa 8)
def Jh (l:List Bool):List Nat:=(List.range ((l.length+7) / 8)).map fun i=>QI l / 256^i%256
@[simp] theorem QJ:∀n v,(Qa n v).length=n
  | 0,_=>rfl
  | n+1,v=>by simp [Qa,QJ n]
theorem Ya (b:Nat) (l:List Nat):Qp (b::l)=Qa 8 b++Qp l:=by simp [Qp]
@[simp] theorem QV:∀l:List Nat,(Qp l).length=8*l.length
  | []=>rfl
  | b::l=>by simp [Ya,QV l];omega
def Jm (l:List Bool):List Bool:=l++List.replicate ((8-l.length%8)%8) false
def Jn (bs:List Nat):Nat:=QI (Qp bs)
end Go.Proofs.YtakjpcnhhkgfoaaGreat
