/-
  Joined texts, part 3: contracts and plain lemmas.
  Conditions: none beyond those of each theorem.
-/
import Derived.Test.YtckjdhaflokcgaaGreatQ1
import Derived.Lib.ItoaNum
set_option linter.unusedVariables false
set_option linter.unusedSimpArgs false
set_option linter.unnecessarySimpa false
set_option maxRecDepth 100000
universe u
namespace Go.Proofs.YtckjdhaflokcgaaGreat
def ZA (m:Nat):Nat:=Lib.bitLen m-1
def VO (m:Nat):Nat:=2^(ZA m+1)-m
def Q3u (n m:Nat):List Bool :=
  if n<VO m then Qs (ZA m) n else Qs (ZA m) ((n+VO m) / 2)++Qs 1 (n+VO m)
def Q3v (z:Nat):List Bool:=(List.replicate (z / 3) (Qs 2 3)).flatten++Qs 2 (z%3)
def XI (l:List Int):Nat:=(l.takeWhile (· == 0)).length
def Zb (left:Nat) (skip:Nat):List Int->List Bool
  | []=>[]
  | n::rest=>match skip with
    | s+1=>Zb left s rest
    | 0=>Q3u (n+1).toNat (left+2)++(if n=0 then Q3v (XI rest)++Zb left (XI rest) rest else Zb (left-n.natAbs) 0 rest)
def Q4x (lg:Nat) (N:List Int):List Bool:=Qs 4 (lg-1)++Zb (2^lg) 0 N
def Q4G (j:Nat):List Bool:=(List.replicate j (Qs 2 3)).flatten
structure St where
  fr:Nat
  e:Int
def J4 (L:List Bool) (n:Nat) (σ:St):Nat × St :=
  if σ.e≠0 then(0,σ)else if σ.fr+n<=L.length then(QT ((L.drop σ.fr).take n),⟨σ.fr+n,0⟩)else(0,⟨σ.fr,3⟩)
def Jh (h:Bool) (e:Int) (σ:St):Bool × St:=if σ.e=0 then(if h then(true,σ)else(false,⟨σ.fr,e⟩))else(false,σ)
def Q3w (L:List Bool) (m:Nat) (σ:St):Nat × St :=
  if(J4 L (ZA m) σ).1<VO m then J4 L (ZA m) σ
  else(2*(J4 L (ZA m) σ).1+(J4 L 1 (J4 L (ZA m) σ).2).1-VO m,(J4 L 1 (J4 L (ZA m) σ).2).2)
def VP (room:Int) (L:List Bool):Nat->Nat->Nat->St->Nat × St
  | 0,_,len,σ=>(len,σ)
  | f+1,k,len,σ =>
    if k=3 then
      if(Jh (decide ((len:Int)<room)) 13 σ).1 then VP room L f (J4 L 2 (Jh (decide ((len:Int)<room)) 13 σ).2).1 (len+(J4 L 2 (Jh (decide ((len:Int)<room)) 13 σ).2).1) (J4 L 2 (Jh (decide ((len:Int)<room)) 13 σ).2).2
      else(len,(Jh (decide ((len:Int)<room)) 13 σ).2)
    else(len,σ)
def Q3S (sy:Int) (L:List Bool) (left:Nat) (N:List Int) (ran:Bool) (σ:St):(Bool × Nat) × (List Int × Bool) × St :=
  let x:=Q3w L (left+2) σ
  let n:Int:=(x.1:Int)-1
  let y:=Jh (n != 0 || !ran) 13 x.2
  if y.1 then
    if n=0 then
      let z:=VP (sy-(N.length+1:Nat)) L 300 3 0 y.2
      ((true,left),(N++[0]++List.replicate z.1 0,true),z.2)
    else((true,left-n.natAbs),(N++[n],false),y.2)
  else((false,left),(N,ran),y.2)
def Q1o (sy:Int) (L:List Bool):Nat->Nat->List Int->Bool->St->List Int × St
  | 0,_,N,_,σ=>(N,σ)
  | f+1,left,N,ran,σ =>
    if 0<left then
      if(Jh (decide ((N.length:Int)<sy)) 13 σ).1 then
        let r:=Q3S sy L left N ran (Jh (decide ((N.length:Int)<sy)) 13 σ).2
        if r.1.1 then Q1o sy L f r.1.2 r.2.1.1 r.2.1.2 r.2.2 else(N,r.2.2)
      else(N,(Jh (decide ((N.length:Int)<sy)) 13 σ).2)
    else(N,σ)
def Q4k (sy lb:Int) (L:List Bool):Nat × List Int × St :=
  let x:=J4 L 4 ⟨0,0⟩
  let y:=Jh (decide ((x.1:Int)+1<=min lb 9)) 13 x.2
  if y.1 then(x.1+1,Q1o sy L 600 (2^(x.1+1)) [] false y.2)else(x.1+1,[],y.2)
def Q4H (sy lb:Int) (L:List Bool):Except Int (Nat × List Int × Nat) :=
  let r:=Q4k (min sy 256) lb L
  if r.2.2.e≠0 then .error r.2.2.e
  else if QT ((L.drop r.2.2.fr).take ((8-r.2.2.fr%8)%8))≠0 then .error 14
  else .ok (r.1,r.2.1,(r.2.2.fr+(8-r.2.2.fr%8)%8) / 8)
end Go.Proofs.YtckjdhaflokcgaaGreat
