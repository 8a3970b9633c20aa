/-
  Joined texts, part 2: contracts and plain lemmas.
  Conditions: none beyond those of each theorem.
-/
import Derived.Test.YtjfdaphjijfieaaGreatN1
import Derived.Lib.ItoaNum
set_option linter.unusedVariables false
set_option linter.unusedSimpArgs false
set_option maxRecDepth 100000
universe u
namespace Go.Proofs.YtjfdaphjijfieaaGreat
def Qx (m:Nat):Nat:=Lib.bitLen m-1
def YT (m:Nat):Nat:=2^(Qx m+1)-m
theorem Ju (m:Nat) (h0:m≠0) (h:m<2^64):2^Qx m<=m/\m<2^(Qx m+1):=by
 obtain⟨h1,h2,h3⟩:=Lib.bitLenAux_bounds 64 m h h0;unfold Qx Lib.bitLen;exact⟨h2,by rw [show Lib.bitLenAux 64 m-1+1=Lib.bitLenAux 64 m by omega];exact h3⟩
theorem Xh (m k:Nat) (h0:m≠0) (h:m<2^k) (hk:k<=64):Qx m<k:=by
 have hm:m<2^64:=Nat.lt_of_lt_of_le h (Nat.pow_le_pow_right (by omega) hk);have:=(Ju m h0 hm).1;exact(Nat.pow_lt_pow_iff_right (by omega)).1 (Nat.lt_of_le_of_lt this h)
theorem Q23 (m:Nat) (h0:m≠0) (h:m<2^64):1<=Lib.bitLen m:=(Lib.bitLenAux_bounds 64 m h h0).1
def ZA (n m:Nat):List Bool :=
  if n<YT m then QD (Qx m) n else QD (Qx m) ((n+YT m) / 2)++QD 1 (n+YT m)
def JO (z:Nat):List Bool:=(List.replicate (z / 3) (QD 2 3)).flatten++QD 2 (z%3)
def YZ (l:List Int):Nat:=(l.takeWhile (· == 0)).length
def YD (left:Nat) (skip:Nat):List Int->List Bool
  | []=>[]
  | n::rest=>match skip with
    | s+1=>YD left s rest
    | 0=>ZA (n+1).toNat (left+2)++(if n=0 then JO (YZ rest)++YD left (YZ rest) rest else YD (left-n.natAbs) 0 rest)
def ZF (lg:Nat) (N:List Int):List Bool:=QD 4 (lg-1)++YD (2^lg) 0 N
theorem Zp (l:List Int):YZ (0::l)=YZ l+1:=by simp [YZ]
theorem ZM (n:Int) (l:List Int) (h:n≠0):YZ (n::l)=0:=by simp [YZ,h]
theorem KG:∀(left s:Nat) (l:List Int),s<=l.length->YD left s l=YD left 0 (l.drop s)
 | left,0,l,_=>by simp
 | left,s+1,[],h=>by simp at h
 | left,s+1,n::l,h=>by
   rw [List.drop_succ_cons,<-KG left s l (by simpa using h)]
   rfl
theorem Q1d (left:Nat) (n:Int) (rest:List Int) (h:n≠0):YD left 0 (n::rest)=ZA (n+1).toNat (left+2)++YD (left-n.natAbs) 0 rest:=by
 simp [YD,h]
theorem Q06 (left:Nat) (rest:List Int):YD left 0 (0::rest)=ZA 1 (left+2)++(JO (YZ rest)++YD left (YZ rest) rest):=by
 simp [YD]
def Q6U (j:Nat):List Bool:=(List.replicate j (QD 2 3)).flatten
structure St where
  fr:Nat
  e:Int
def Qa (L:List Bool) (n:Nat) (σ:St):Nat × St :=
  if σ.e≠0 then(0,σ)else if σ.fr+n<=L.length then(QE ((L.drop σ.fr).take n),⟨σ.fr+n,0⟩)else(0,⟨σ.fr,3⟩)
def Qd (h:Bool) (e:Int) (σ:St):Bool × St:=if σ.e=0 then(if h then(true,σ)else(false,⟨σ.fr,e⟩))else(false,σ)
def QS (L:List Bool) (m:Nat) (σ:St):Nat × St :=
  if(Qa L (Qx m) σ).1<YT m then Qa L (Qx m) σ
  else(2*(Qa L (Qx m) σ).1+(Qa L 1 (Qa L (Qx m) σ).2).1-YT m,(Qa L 1 (Qa L (Qx m) σ).2).2)
def Qw (room:Int) (L:List Bool):Nat->Nat->Nat->St->Nat × St
  | 0,_,len,σ=>(len,σ)
  | f+1,k,len,σ =>
    if k=3 then
      if(Qd (decide ((len:Int)<room)) 13 σ).1 then Qw room L f (Qa L 2 (Qd (decide ((len:Int)<room)) 13 σ).2).1 (len+(Qa L 2 (Qd (decide ((len:Int)<room)) 13 σ).2).1) (Qa L 2 (Qd (decide ((len:Int)<room)) 13 σ).2).2
      else(len,(Qd (decide ((len:Int)<room)) 13 σ).2)
    else(len,σ)
def VR (sy:Int) (L:List Bool) (left:Nat) (N:List Int) (ran:Bool) (σ:St):(Bool × Nat) × (List Int × Bool) × St :=
  let x:=QS L (left+2) σ
  let n:Int:=(x.1:Int)-1
  let y:=Qd (n != 0 || !ran) 13 x.2
  if y.1 then
    if n=0 then
      let z:=Qw (sy-(N.length+1:Nat)) L 300 3 0 y.2
      ((true,left),(N++[0]++List.replicate z.1 0,true),z.2)
    else((true,left-n.natAbs),(N++[n],false),y.2)
  else((false,left),(N,ran),y.2)
def Qr (sy:Int) (L:List Bool):Nat->Nat->List Int->Bool->St->List Int × St
  | 0,_,N,_,σ=>(N,σ)
  | f+1,left,N,ran,σ =>
    if 0<left then
      if(Qd (decide ((N.length:Int)<sy)) 13 σ).1 then
        let r:=VR sy L left N ran (Qd (decide ((N.length:Int)<sy)) 13 σ).2
        if r.1.1 then Qr sy L f r.1.2 r.2.1.1 r.2.1.2 r.2.2 else(N,r.2.2)
      else(N,(Qd (decide ((N.length:Int)<sy)) 13 σ).2)
    else(N,σ)
def Jj (sy lb:Int) (L:List Bool):Nat × List Int × St :=
  let x:=Qa L 4 ⟨0,0⟩
  let y:=Qd (decide ((x.1:Int)+1<=min lb 9)) 13 x.2
  if y.1 then(x.1+1,Qr sy L 600 (2^(x.1+1)) [] false y.2)else(x.1+1,[],y.2)
def QT (sy lb:Int) (L:List Bool):Except Int (Nat × List Int × Nat) :=
  let r:=Jj (min sy 256) lb L
  if r.2.2.e≠0 then .error r.2.2.e
  else if QE ((L.drop r.2.2.fr).take ((8-r.2.2.fr%8)%8))≠0 then .error 14
  else .ok (r.1,r.2.1,(r.2.2.fr+(8-r.2.2.fr%8)%8) / 8)
theorem YL (L:List Bool) (n:Nat) (σ:St):(Qa L n σ).1<2^n:=by
 unfold Qa;split
 . exact Nat.two_pow_pos n
 split
 . have:=JN ((L.drop σ.fr).take n)
   exact Nat.lt_of_lt_of_le this (Nat.pow_le_pow_right (by omega) (by rw [List.length_take];exact Nat.min_le_left _ _))
 exact Nat.two_pow_pos n
theorem Kj (L:List Bool) (m:Nat) (σ:St) (h0:1<=m) (h:m<2^64):(QS L m σ).1<m:=by
 obtain⟨h1,h2⟩:=Ju m (by omega) h;have h3:=YL L (Qx m) σ;have h4:=YL L 1 (Qa L (Qx m) σ).2;have hu:YT m=2^(Qx m+1)-m:=rfl;rw [Nat.pow_succ]at h2 hu;unfold QS;(split<;>(try simp only)<;>omega)
theorem YC {h:Bool} {e:Int} {σ:St}:(Qd h e σ).1=true->(Qd h e σ).2=σ/\h=true:=by
 unfold Qd;split
 . cases h<;>simp
 simp
theorem Za (sy:Int) (L:List Bool) (f left:Nat) (N:List Int) (ran:Bool) (σ:St) (h:0<left) (hm:(Qd (decide ((N.length:Int)<sy)) 13 σ).1=false) :
   Qr sy L (f+1) left N ran σ=(N,(Qd (decide ((N.length:Int)<sy)) 13 σ).2):=by
 simp [Qr,h,hm]
theorem Jh (sy:Int) (L:List Bool) (f left:Nat) (N:List Int) (ran:Bool) (σ:St) (y:Nat) (σ6:St) (h:0<left) (hm:(Qd (decide ((N.length:Int)<sy)) 13 σ).1=true)
   (hy:QS L (left+2) σ=(y,σ6)) (hm2:(Qd ((y:Int)-1 != 0 || !ran) 13 σ6).1=false) :
   Qr sy L (f+1) left N ran σ=(N,(Qd ((y:Int)-1 != 0 || !ran) 13 σ6).2):=by
 have h1:=YC hm;simp only [Qr,if_pos h,if_pos hm,h1.1,VR,hy,hm2,Bool.false_eq_true,if_false]
theorem KP (sy:Int) (L:List Bool) (f left:Nat) (N:List Int) (ran:Bool) (σ:St) (y:Nat) (σ6:St) (h:0<left) (hm:(Qd (decide ((N.length:Int)<sy)) 13 σ).1=true)
   (hy:QS L (left+2) σ=(y,σ6)) (hm2:(Qd ((y:Int)-1 != 0 || !ran) 13 σ6).1=true) (hn:(y:Int)-1≠0) :
   Qr sy L (f+1) left N ran σ=Qr sy L f (left-((y:Int)-1).natAbs) (N++[(y:Int)-1]) false σ6:=by
 have h1:=YC hm;have h2:=YC hm2;simp only [Qr,if_pos h,if_pos hm,h1.1,VR,hy,hm2,h2.1,if_true,if_neg hn]
theorem ZV (sy:Int) (L:List Bool) (f left:Nat) (N:List Int) (ran:Bool) (σ:St) (y:Nat) (σ6:St) (h:0<left) (hm:(Qd (decide ((N.length:Int)<sy)) 13 σ).1=true)
   (hy:QS L (left+2) σ=(y,σ6)) (hm2:(Qd ((y:Int)-1 != 0 || !ran) 13 σ6).1=true) (hn:(y:Int)-1=0) :
   Qr sy L (f+1) left N ran σ=Qr sy L f left (N++[0]++List.replicate (Qw (sy-(N.length+1:Nat)) L 300 3 0 σ6).1 0) true (Qw (sy-(N.length+1:Nat)) L 300 3 0 σ6).2:=by
 have h1:=YC hm;have h2:=YC hm2;simp only [Qr,if_pos h,if_pos hm,h1.1,VR,hy,hm2,h2.1,if_true,if_pos hn]
end Go.Proofs.YtjfdaphjijfieaaGreat
