/-
  Joined texts, part 3: contracts and plain lemmas.
  Conditions: none beyond those of each theorem.
-/
import Derived.Test.YtckjdhaflokcgaaGreatP1
import Derived.Lib.ItoaNum
set_option linter.unusedVariables false
set_option linter.unusedSimpArgs false
set_option linter.unnecessarySimpa false
set_option maxRecDepth 100000
universe u
namespace Go.Proofs.YtckjdhaflokcgaaGreat
def Z1 (m:Nat):Nat:=Lib.bitLen m-1
def V0 (m:Nat):Nat:=2^(Z1 m+1)-m
def Q24 (n m:Nat):List Bool :=
  if n<V0 m then Qm (Z1 m) n else Qm (Z1 m) ((n+V0 m) / 2)++Qm 1 (n+V0 m)
def Q25 (z:Nat):List Bool:=(List.replicate (z / 3) (Qm 2 3)).flatten++Qm 2 (z%3)
def VV (l:List Int):Nat:=(l.takeWhile (· == 0)).length
def JC (left:Nat) (skip:Nat):List Int->List Bool
  | []=>[]
  | n::rest=>match skip with
    | s+1=>JC left s rest
    | 0=>Q24 (n+1).toNat (left+2)++(if n=0 then Q25 (VV rest)++JC left (VV rest) rest else JC (left-n.natAbs) 0 rest)
def Q2W (lg:Nat) (N:List Int):List Bool:=Qm 4 (lg-1)++JC (2^lg) 0 N
def Q36 (j:Nat):List Bool:=(List.replicate j (Qm 2 3)).flatten
structure St where
  fr:Nat
  e:Int
def YF (L:List Bool) (n:Nat) (σ:St):Nat × St :=
  if σ.e≠0 then(0,σ)else if σ.fr+n<=L.length then(QI ((L.drop σ.fr).take n),⟨σ.fr+n,0⟩)else(0,⟨σ.fr,3⟩)
def YN (h:Bool) (e:Int) (σ:St):Bool × St:=if σ.e=0 then(if h then(true,σ)else(false,⟨σ.fr,e⟩))else(false,σ)
def Q26 (L:List Bool) (m:Nat) (σ:St):Nat × St :=
  if(YF L (Z1 m) σ).1<V0 m then YF L (Z1 m) σ
  else(2*(YF L (Z1 m) σ).1+(YF L 1 (YF L (Z1 m) σ).2).1-V0 m,(YF L 1 (YF L (Z1 m) σ).2).2)
def V6 (room:Int) (L:List Bool):Nat->Nat->Nat->St->Nat × St
  | 0,_,len,σ=>(len,σ)
  | f+1,k,len,σ =>
    if k=3 then
      if(YN (decide ((len:Int)<room)) 13 σ).1 then V6 room L f (YF L 2 (YN (decide ((len:Int)<room)) 13 σ).2).1 (len+(YF L 2 (YN (decide ((len:Int)<room)) 13 σ).2).1) (YF L 2 (YN (decide ((len:Int)<room)) 13 σ).2).2
      else(len,(YN (decide ((len:Int)<room)) 13 σ).2)
    else(len,σ)
def Q2s (sy:Int) (L:List Bool) (left:Nat) (N:List Int) (ran:Bool) (σ:St):(Bool × Nat) × (List Int × Bool) × St :=
  let x:=Q26 L (left+2) σ
  let n:Int:=(x.1:Int)-1
  let y:=YN (n != 0 || !ran) 13 x.2
  if y.1 then
    if n=0 then
      let z:=V6 (sy-(N.length+1:Nat)) L 300 3 0 y.2
      ((true,left),(N++[0]++List.replicate z.1 0,true),z.2)
    else((true,left-n.natAbs),(N++[n],false),y.2)
  else((false,left),(N,ran),y.2)
def Q0q (sy:Int) (L:List Bool):Nat->Nat->List Int->Bool->St->List Int × St
  | 0,_,N,_,σ=>(N,σ)
  | f+1,left,N,ran,σ =>
    if 0<left then
      if(YN (decide ((N.length:Int)<sy)) 13 σ).1 then
        let r:=Q2s sy L left N ran (YN (decide ((N.length:Int)<sy)) 13 σ).2
        if r.1.1 then Q0q sy L f r.1.2 r.2.1.1 r.2.1.2 r.2.2 else(N,r.2.2)
      else(N,(YN (decide ((N.length:Int)<sy)) 13 σ).2)
    else(N,σ)
def Q2J (sy lb:Int) (L:List Bool):Nat × List Int × St :=
  let x:=YF L 4 ⟨0,0⟩
  let y:=YN (decide ((x.1:Int)+1<=min lb 9)) 13 x.2
  if y.1 then(x.1+1,Q0q sy L 600 (2^(x.1+1)) [] false y.2)else(x.1+1,[],y.2)
def Q37 (sy lb:Int) (L:List Bool):Except Int (Nat × List Int × Nat) :=
  let r:=Q2J (min sy 256) lb L
  if r.2.2.e≠0 then .error r.2.2.e
  else if QI ((L.drop r.2.2.fr).take ((8-r.2.2.fr%8)%8))≠0 then .error 14
  else .ok (r.1,r.2.1,(r.2.2.fr+(8-r.2.2.fr%8)%8) / 8)
end Go.Proofs.YtckjdhaflokcgaaGreat
