/-
  Joined texts, part 2: contracts and plain lemmas.
  Conditions: none beyond those of each theorem.
-/
import Derived.Test.YtakjpcnhhkgfoaaGreatM1
import Derived.Lib.ItoaNum
set_option linter.unusedVariables false
set_option linter.unusedSimpArgs false
set_option maxRecDepth 100000
universe u
namespace Go.Proofs.YtakjpcnhhkgfoaaGreat
def Qu (m:Nat):Nat:=Lib.bitLen m-1
def Y4 (m:Nat):Nat:=2^(Qu m+1)-m
def Jc (n m:Nat):List Bool :=
  if n<Y4 m then Q9 (Qu m) n else Q9 (Qu m) ((n+Y4 m) / 2)++Q9 1 (n+Y4 m)
def Jd (z:Nat):List Bool:=(List.replicate (z / 3) (Q9 2 3)).flatten++Q9 2 (z%3)
def Yi (l:List Int):Nat:=(l.takeWhile (· == 0)).length
def Qr (left:Nat) (skip:Nat):List Int->List Bool
  | []=>[]
  | n::rest=>match skip with
    | s+1=>Qr left s rest
    | 0=>Jc (n+1).toNat (left+2)++(if n=0 then Jd (Yi rest)++Qr left (Yi rest) rest else Qr (left-n.natAbs) 0 rest)
def Js (lg:Nat) (N:List Int):List Bool:=Q9 4 (lg-1)++Qr (2^lg) 0 N
def JA (j:Nat):List Bool:=(List.replicate j (Q9 2 3)).flatten
structure St where
  fr:Nat
  e:Int
def Qc (L:List Bool) (n:Nat) (σ:St):Nat × St :=
  if σ.e≠0 then(0,σ)else if σ.fr+n<=L.length then(QT ((L.drop σ.fr).take n),⟨σ.fr+n,0⟩)else(0,⟨σ.fr,3⟩)
def Qe (h:Bool) (e:Int) (σ:St):Bool × St:=if σ.e=0 then(if h then(true,σ)else(false,⟨σ.fr,e⟩))else(false,σ)
def Je (L:List Bool) (m:Nat) (σ:St):Nat × St :=
  if(Qc L (Qu m) σ).1<Y4 m then Qc L (Qu m) σ
  else(2*(Qc L (Qu m) σ).1+(Qc L 1 (Qc L (Qu m) σ).2).1-Y4 m,(Qc L 1 (Qc L (Qu m) σ).2).2)
def Y5 (room:Int) (L:List Bool):Nat->Nat->Nat->St->Nat × St
  | 0,_,len,σ=>(len,σ)
  | f+1,k,len,σ =>
    if k=3 then
      if(Qe (decide ((len:Int)<room)) 13 σ).1 then Y5 room L f (Qc L 2 (Qe (decide ((len:Int)<room)) 13 σ).2).1 (len+(Qc L 2 (Qe (decide ((len:Int)<room)) 13 σ).2).1) (Qc L 2 (Qe (decide ((len:Int)<room)) 13 σ).2).2
      else(len,(Qe (decide ((len:Int)<room)) 13 σ).2)
    else(len,σ)
def Jm (sy:Int) (L:List Bool) (left:Nat) (N:List Int) (ran:Bool) (σ:St):(Bool × Nat) × (List Int × Bool) × St :=
  let x:=Je L (left+2) σ
  let n:Int:=(x.1:Int)-1
  let y:=Qe (n != 0 || !ran) 13 x.2
  if y.1 then
    if n=0 then
      let z:=Y5 (sy-(N.length+1:Nat)) L 300 3 0 y.2
      ((true,left),(N++[0]++List.replicate z.1 0,true),z.2)
    else((true,left-n.natAbs),(N++[n],false),y.2)
  else((false,left),(N,ran),y.2)
def YF (sy:Int) (L:List Bool):Nat->Nat->List Int->Bool->St->List Int × St
  | 0,_,N,_,σ=>(N,σ)
  | f+1,left,N,ran,σ =>
    if 0<left then
      if(Qe (decide ((N.length:Int)<sy)) 13 σ).1 then
        let r:=Jm sy L left N ran (Qe (decide ((N.length:Int)<sy)) 13 σ).2
        if r.1.1 then YF sy L f r.1.2 r.2.1.1 r.2.1.2 r.2.2 else(N,r.2.2)
      else(N,(Qe (decide ((N.length:Int)<sy)) 13 σ).2)
    else(N,σ)
def Jr (sy lb:Int) (L:List Bool):Nat × List Int × St :=
  let x:=Qc L 4 ⟨0,0⟩
  let y:=Qe (decide ((x.1:Int)+1<=min lb 9)) 13 x.2
  if y.1 then(x.1+1,YF sy L 600 (2^(x.1+1)) [] false y.2)else(x.1+1,[],y.2)
def Ja (sy lb:Int) (L:List Bool):Except Int (Nat × List Int × Nat) :=
  let r:=Jr (min sy 256) lb L
  if r.2.2.e≠0 then .error r.2.2.e
  else if QT ((L.drop r.2.2.fr).take ((8-r.2.2.fr%8)%8))≠0 then .error 14
  else .ok (r.1,r.2.1,(r.2.2.fr+(8-r.2.2.fr%8)%8) / 8)
end Go.Proofs.YtakjpcnhhkgfoaaGreat
