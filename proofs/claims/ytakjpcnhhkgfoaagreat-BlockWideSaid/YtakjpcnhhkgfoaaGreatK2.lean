/-
  Joined texts, part 2: contracts and plain lemmas.
  Conditions: none beyond those of each theorem.
-/
import Derived.Test.YtakjpcnhhkgfoaaGreatK1
import Derived.Lib.ItoaNum
set_option linter.unusedVariables false
set_option linter.unusedSimpArgs false
set_option maxRecDepth 100000
universe u
namespace Go.Proofs.YtakjpcnhhkgfoaaGreat
def Qt (m:Nat):Nat:=Lib.bitLen m-1
def QR (m:Nat):Nat:=2^(Qt m+1)-m
def YL (n m:Nat):List Bool :=
  if n<QR m then Qa (Qt m) n else Qa (Qt m) ((n+QR m) / 2)++Qa 1 (n+QR m)
def YM (z:Nat):List Bool:=(List.replicate (z / 3) (Qa 2 3)).flatten++Qa 2 (z%3)
def Y0 (l:List Int):Nat:=(l.takeWhile (· == 0)).length
def Qo (left:Nat) (skip:Nat):List Int->List Bool
  | []=>[]
  | n::rest=>match skip with
    | s+1=>Qo left s rest
    | 0=>YL (n+1).toNat (left+2)++(if n=0 then YM (Y0 rest)++Qo left (Y0 rest) rest else Qo (left-n.natAbs) 0 rest)
def J5 (lg:Nat) (N:List Int):List Bool:=Qa 4 (lg-1)++Qo (2^lg) 0 N
def Jd (j:Nat):List Bool:=(List.replicate j (Qa 2 3)).flatten
structure St where
  fr:Nat
  e:Int
def Qb (L:List Bool) (n:Nat) (σ:St):Nat × St :=
  if σ.e≠0 then(0,σ)else if σ.fr+n<=L.length then(QI ((L.drop σ.fr).take n),⟨σ.fr+n,0⟩)else(0,⟨σ.fr,3⟩)
def Qd (h:Bool) (e:Int) (σ:St):Bool × St:=if σ.e=0 then(if h then(true,σ)else(false,⟨σ.fr,e⟩))else(false,σ)
def YN (L:List Bool) (m:Nat) (σ:St):Nat × St :=
  if(Qb L (Qt m) σ).1<QR m then Qb L (Qt m) σ
  else(2*(Qb L (Qt m) σ).1+(Qb L 1 (Qb L (Qt m) σ).2).1-QR m,(Qb L 1 (Qb L (Qt m) σ).2).2)
def QS (room:Int) (L:List Bool):Nat->Nat->Nat->St->Nat × St
  | 0,_,len,σ=>(len,σ)
  | f+1,k,len,σ =>
    if k=3 then
      if(Qd (decide ((len:Int)<room)) 13 σ).1 then QS room L f (Qb L 2 (Qd (decide ((len:Int)<room)) 13 σ).2).1 (len+(Qb L 2 (Qd (decide ((len:Int)<room)) 13 σ).2).1) (Qb L 2 (Qd (decide ((len:Int)<room)) 13 σ).2).2
      else(len,(Qd (decide ((len:Int)<room)) 13 σ).2)
    else(len,σ)
def YW (sy:Int) (L:List Bool) (left:Nat) (N:List Int) (ran:Bool) (σ:St):(Bool × Nat) × (List Int × Bool) × St :=
  let x:=YN L (left+2) σ
  let n:Int:=(x.1:Int)-1
  let y:=Qd (n != 0 || !ran) 13 x.2
  if y.1 then
    if n=0 then
      let z:=QS (sy-(N.length+1:Nat)) L 300 3 0 y.2
      ((true,left),(N++[0]++List.replicate z.1 0,true),z.2)
    else((true,left-n.natAbs),(N++[n],false),y.2)
  else((false,left),(N,ran),y.2)
def Yf (sy:Int) (L:List Bool):Nat->Nat->List Int->Bool->St->List Int × St
  | 0,_,N,_,σ=>(N,σ)
  | f+1,left,N,ran,σ =>
    if 0<left then
      if(Qd (decide ((N.length:Int)<sy)) 13 σ).1 then
        let r:=YW sy L left N ran (Qd (decide ((N.length:Int)<sy)) 13 σ).2
        if r.1.1 then Yf sy L f r.1.2 r.2.1.1 r.2.1.2 r.2.2 else(N,r.2.2)
      else(N,(Qd (decide ((N.length:Int)<sy)) 13 σ).2)
    else(N,σ)
def J4 (sy lb:Int) (L:List Bool):Nat × List Int × St :=
  let x:=Qb L 4 ⟨0,0⟩
  let y:=Qd (decide ((x.1:Int)+1<=min lb 9)) 13 x.2
  if y.1 then(x.1+1,Yf sy L 600 (2^(x.1+1)) [] false y.2)else(x.1+1,[],y.2)
def YJ (sy lb:Int) (L:List Bool):Except Int (Nat × List Int × Nat) :=
  let r:=J4 (min sy 256) lb L
  if r.2.2.e≠0 then .error r.2.2.e
  else if QI ((L.drop r.2.2.fr).take ((8-r.2.2.fr%8)%8))≠0 then .error 14
  else .ok (r.1,r.2.1,(r.2.2.fr+(8-r.2.2.fr%8)%8) / 8)
end Go.Proofs.YtakjpcnhhkgfoaaGreat
