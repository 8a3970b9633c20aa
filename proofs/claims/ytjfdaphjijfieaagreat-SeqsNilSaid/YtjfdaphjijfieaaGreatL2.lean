/-
  Joined texts, part 2: contracts and plain lemmas.
  Conditions: none beyond those of each theorem.
-/
import Derived.Test.YtjfdaphjijfieaaGreatL1
import Derived.Lib.ItoaNum
set_option linter.unusedVariables false
set_option linter.unusedSimpArgs false
set_option maxRecDepth 100000
universe u
namespace Go.Proofs.YtjfdaphjijfieaaGreat
def Y5 (m:Nat):Nat:=Lib.bitLen m-1
def YB (m:Nat):Nat:=2^(Y5 m+1)-m
theorem ZD (m:Nat) (h0:m≠0) (h:m<2^64):2^Y5 m<=m/\m<2^(Y5 m+1):=by
 obtain⟨h1,h2,h3⟩:=Lib.bitLenAux_bounds 64 m h h0;unfold Y5 Lib.bitLen;exact⟨h2,by rw [show Lib.bitLenAux 64 m-1+1=Lib.bitLenAux 64 m by omega];exact h3⟩
theorem VW (m k:Nat) (h0:m≠0) (h:m<2^k) (hk:k<=64):Y5 m<k:=by
 have hm:m<2^64:=Nat.lt_of_lt_of_le h (Nat.pow_le_pow_right (by omega) hk);have:=(ZD m h0 hm).1;exact(Nat.pow_lt_pow_iff_right (by omega)).1 (Nat.lt_of_le_of_lt this h)
theorem Q4U (m:Nat) (h0:m≠0) (h:m<2^64):1<=Lib.bitLen m:=(Lib.bitLenAux_bounds 64 m h h0).1
def Yk (n m:Nat):List Bool :=
  if n<YB m then Qf (Y5 m) n else Qf (Y5 m) ((n+YB m) / 2)++Qf 1 (n+YB m)
def Yl (z:Nat):List Bool:=(List.replicate (z / 3) (Qf 2 3)).flatten++Qf 2 (z%3)
def Qw (l:List Int):Nat:=(l.takeWhile (· == 0)).length
def QQ (left:Nat) (skip:Nat):List Int->List Bool
  | []=>[]
  | n::rest=>match skip with
    | s+1=>QQ left s rest
    | 0=>Yk (n+1).toNat (left+2)++(if n=0 then Yl (Qw rest)++QQ left (Qw rest) rest else QQ (left-n.natAbs) 0 rest)
def QX (lg:Nat) (N:List Int):List Bool:=Qf 4 (lg-1)++QQ (2^lg) 0 N
theorem Q1m (l:List Int):Qw l<=l.length:=by unfold Qw;exact(List.takeWhile_sublist _).length_le
theorem YG (l:List Int):Qw (0::l)=Qw l+1:=by simp [Qw]
theorem YV (n:Int) (l:List Int) (h:n≠0):Qw (n::l)=0:=by simp [Qw,h]
theorem VL:∀(l:List Int) (j:Nat),j<Qw l->l[j]?=some 0
 | [],j,h=>by simp [Qw]at h
 | n::l,j,h=>by
   by_cases hn:n=0
   . subst hn
     rw [YG]at h
     match j with
     | 0=>rfl
     | j+1=>simpa using VL l j (by omega)
   rw [YV n l hn]at h;omega
theorem Vj:∀(l:List Int),l[Qw l]?≠some 0
 | []=>by simp [Qw]
 | n::l=>by
   by_cases hn:n=0
   . subst hn
     rw [YG]
     simpa using Vj l
   rw [YV n l hn];simpa using hn
theorem Q1l (l:List Int) (h0:0<l.length) (hl:l[l.length-1]?≠some 0):Qw l<l.length:=by
 rcases Nat.lt_or_ge (Qw l) l.length with h|h
 . exact h
 exact absurd (VL l (l.length-1) (by omega)) hl
theorem KT:∀(left s:Nat) (l:List Int),s<=l.length->QQ left s l=QQ left 0 (l.drop s)
 | left,0,l,_=>by simp
 | left,s+1,[],h=>by simp at h
 | left,s+1,n::l,h=>by
   rw [List.drop_succ_cons,<-KT left s l (by simpa using h)]
   rfl
theorem VX (n m:Nat):(Yk n m).length<=Y5 m+1:=by unfold Yk;split<;>simp
theorem Q1J (z:Nat):(Yl z).length=2*(z / 3)+2:=by simp [Yl];omega
theorem Zl:∀(l:List Int) (left s:Nat),left<=512->s<=Qw l->(QQ left s l).length+12*s<=12*l.length
 | [],left,s,_,h=>by simp [QQ,Qw]at *;omega
 | n::rest,left,s+1,hL,h=>by
   have hn:n=0:=by
     by_cases hn:n=0
     . exact hn
     rw [YV n rest hn]at h;omega
   subst hn;rw [YG]at h;have:=Zl rest left s hL (by omega);simp only [QQ,List.length_cons];omega
 | n::rest,left,0,hL,_=>by
   have h1:=VX (n+1).toNat (left+2);have h2:=VW (left+2) 10 (by omega) (by omega) (by omega);simp only [QQ,List.length_append,List.length_cons];split
   . have:=Zl rest left (Qw rest) hL (Nat.le_refl _)
     have h3:=Q1J (Qw rest);rw [List.length_append];omega
   have:=Zl rest (left-n.natAbs) 0 (by omega) (Nat.zero_le _);omega
theorem Zk (lg:Nat) (N:List Int) (h:lg<=9):(QX lg N).length<=12*N.length+4:=by
 have hp:2^lg<=2^9:=Nat.pow_le_pow_right (by omega) h;have:=Zl N (2^lg) 0 (by omega) (Nat.zero_le _);unfold QX;simp;omega
theorem KF (left:Nat) (n:Int) (rest:List Int) (h:n≠0):QQ left 0 (n::rest)=Yk (n+1).toNat (left+2)++QQ (left-n.natAbs) 0 rest:=by
 simp [QQ,h]
theorem KS (left:Nat) (rest:List Int):QQ left 0 (0::rest)=Yk 1 (left+2)++(Yl (Qw rest)++QQ left (Qw rest) rest):=by
 simp [QQ]
def JG (j:Nat):List Bool:=(List.replicate j (Qf 2 3)).flatten
theorem Q1I (j:Nat):(JG j).length=2*j:=by simp [JG];omega
theorem Q33 (j:Nat):JG (j+1)=JG j++Qf 2 3:=by
 unfold JG;rw [List.replicate_succ',List.flatten_append];simp
theorem Q0v (z j:Nat) (h1:3*j<=z) (h2:z<3*j+3):Yl z=JG j++Qf 2 (z-3*j):=by
 unfold Yl JG;rw [show z / 3=j by omega,show z%3=z-3*j by omega]
theorem Q7o (N:List Int) (k n:Nat) (hn:N.length=n) (hk:k<n) (hz:N[k]?=some 0) (hl:N[n-1]?≠some 0):k+1+Qw (N.drop (k+1))<n:=by
 have hk1:k+1<n:=by
   rcases Nat.lt_or_ge (k+1) n with h|h
   . exact h
   exact absurd (show N[n-1]?=some 0 by rw [show n-1=k by omega];exact hz) hl
 have:=Q1l (N.drop (k+1)) (by simp;omega) (by
   rw [List.length_drop,List.getElem?_drop,hn,show k+1+(n-(k+1)-1)=n-1 by omega];exact hl)
 rw [List.length_drop,hn]at this;omega
structure St where
  fr:Nat
  e:Int
def Qo (L:List Bool) (n:Nat) (σ:St):Nat × St :=
  if σ.e≠0 then(0,σ)else if σ.fr+n<=L.length then(QU ((L.drop σ.fr).take n),⟨σ.fr+n,0⟩)else(0,⟨σ.fr,3⟩)
def Qp (h:Bool) (e:Int) (σ:St):Bool × St:=if σ.e=0 then(if h then(true,σ)else(false,⟨σ.fr,e⟩))else(false,σ)
def Yx (L:List Bool) (m:Nat) (σ:St):Nat × St :=
  if(Qo L (Y5 m) σ).1<YB m then Qo L (Y5 m) σ
  else(2*(Qo L (Y5 m) σ).1+(Qo L 1 (Qo L (Y5 m) σ).2).1-YB m,(Qo L 1 (Qo L (Y5 m) σ).2).2)
def QP (room:Int) (L:List Bool):Nat->Nat->Nat->St->Nat × St
  | 0,_,len,σ=>(len,σ)
  | f+1,k,len,σ =>
    if k=3 then
      if(Qp (decide ((len:Int)<room)) 13 σ).1 then QP room L f (Qo L 2 (Qp (decide ((len:Int)<room)) 13 σ).2).1 (len+(Qo L 2 (Qp (decide ((len:Int)<room)) 13 σ).2).1) (Qo L 2 (Qp (decide ((len:Int)<room)) 13 σ).2).2
      else(len,(Qp (decide ((len:Int)<room)) 13 σ).2)
    else(len,σ)
def Q1p (sy:Int) (L:List Bool) (left:Nat) (N:List Int) (ran:Bool) (σ:St):(Bool × Nat) × (List Int × Bool) × St :=
  let x:=Yx L (left+2) σ
  let n:Int:=(x.1:Int)-1
  let y:=Qp (n != 0 || !ran) 13 x.2
  if y.1 then
    if n=0 then
      let z:=QP (sy-(N.length+1:Nat)) L 300 3 0 y.2
      ((true,left),(N++[0]++List.replicate z.1 0,true),z.2)
    else((true,left-n.natAbs),(N++[n],false),y.2)
  else((false,left),(N,ran),y.2)
def Yh (sy:Int) (L:List Bool):Nat->Nat->List Int->Bool->St->List Int × St
  | 0,_,N,_,σ=>(N,σ)
  | f+1,left,N,ran,σ =>
    if 0<left then
      if(Qp (decide ((N.length:Int)<sy)) 13 σ).1 then
        let r:=Q1p sy L left N ran (Qp (decide ((N.length:Int)<sy)) 13 σ).2
        if r.1.1 then Yh sy L f r.1.2 r.2.1.1 r.2.1.2 r.2.2 else(N,r.2.2)
      else(N,(Qp (decide ((N.length:Int)<sy)) 13 σ).2)
    else(N,σ)
def ZE (sy lb:Int) (L:List Bool):Nat × List Int × St :=
  let x:=Qo L 4 ⟨0,0⟩
  let y:=Qp (decide ((x.1:Int)+1<=min lb 9)) 13 x.2
  if y.1 then(x.1+1,Yh sy L 600 (2^(x.1+1)) [] false y.2)else(x.1+1,[],y.2)
def J7 (sy lb:Int) (L:List Bool):Except Int (Nat × List Int × Nat) :=
  let r:=ZE (min sy 256) lb L
  if r.2.2.e≠0 then .error r.2.2.e
  else if QU ((L.drop r.2.2.fr).take ((8-r.2.2.fr%8)%8))≠0 then .error 14
  else .ok (r.1,r.2.1,(r.2.2.fr+(8-r.2.2.fr%8)%8) / 8)
theorem Zo (L:List Bool) (n:Nat) (σ:St):(Qo L n σ).1<2^n:=by
 unfold Qo;split
 . exact Nat.two_pow_pos n
 split
 . have:=JQ ((L.drop σ.fr).take n)
   exact Nat.lt_of_lt_of_le this (Nat.pow_le_pow_right (by omega) (by rw [List.length_take];exact Nat.min_le_left _ _))
 exact Nat.two_pow_pos n
theorem Q1n (L:List Bool) (m:Nat) (σ:St) (h0:1<=m) (h:m<2^64):(Yx L m σ).1<m:=by
 obtain⟨h1,h2⟩:=ZD m (by omega) h;have h3:=Zo L (Y5 m) σ;have h4:=Zo L 1 (Qo L (Y5 m) σ).2;have hu:YB m=2^(Y5 m+1)-m:=rfl;rw [Nat.pow_succ]at h2 hu;unfold Yx;(split<;>(try simp only)<;>omega)
theorem Ja {h:Bool} {e:Int} {σ:St}:(Qp h e σ).1=true->(Qp h e σ).2=σ/\h=true:=by
 unfold Qp;split
 . cases h<;>simp
 simp
theorem VH (sy:Int) (L:List Bool) (f left:Nat) (N:List Int) (ran:Bool) (σ:St) (h:0<left) (hm:(Qp (decide ((N.length:Int)<sy)) 13 σ).1=false) :
   Yh sy L (f+1) left N ran σ=(N,(Qp (decide ((N.length:Int)<sy)) 13 σ).2):=by
 simp [Yh,h,hm]
theorem KG (sy:Int) (L:List Bool) (f left:Nat) (N:List Int) (ran:Bool) (σ:St) (y:Nat) (σ6:St) (h:0<left) (hm:(Qp (decide ((N.length:Int)<sy)) 13 σ).1=true)
   (hy:Yx L (left+2) σ=(y,σ6)) (hm2:(Qp ((y:Int)-1 != 0 || !ran) 13 σ6).1=false) :
   Yh sy L (f+1) left N ran σ=(N,(Qp ((y:Int)-1 != 0 || !ran) 13 σ6).2):=by
 have h1:=Ja hm;simp only [Yh,if_pos h,if_pos hm,h1.1,Q1p,hy,hm2,Bool.false_eq_true,if_false]
theorem XM (sy:Int) (L:List Bool) (f left:Nat) (N:List Int) (ran:Bool) (σ:St) (y:Nat) (σ6:St) (h:0<left) (hm:(Qp (decide ((N.length:Int)<sy)) 13 σ).1=true)
   (hy:Yx L (left+2) σ=(y,σ6)) (hm2:(Qp ((y:Int)-1 != 0 || !ran) 13 σ6).1=true) (hn:(y:Int)-1≠0) :
   Yh sy L (f+1) left N ran σ=Yh sy L f (left-((y:Int)-1).natAbs) (N++[(y:Int)-1]) false σ6:=by
 have h1:=Ja hm;have h2:=Ja hm2;simp only [Yh,if_pos h,if_pos hm,h1.1,Q1p,hy,hm2,h2.1,if_true,if_neg hn]
theorem VF (sy:Int) (L:List Bool) (f left:Nat) (N:List Int) (ran:Bool) (σ:St) (y:Nat) (σ6:St) (h:0<left) (hm:(Qp (decide ((N.length:Int)<sy)) 13 σ).1=true)
   (hy:Yx L (left+2) σ=(y,σ6)) (hm2:(Qp ((y:Int)-1 != 0 || !ran) 13 σ6).1=true) (hn:(y:Int)-1=0) :
   Yh sy L (f+1) left N ran σ=Yh sy L f left (N++[0]++List.replicate (QP (sy-(N.length+1:Nat)) L 300 3 0 σ6).1 0) true (QP (sy-(N.length+1:Nat)) L 300 3 0 σ6).2:=by
 have h1:=Ja hm;have h2:=Ja hm2;simp only [Yh,if_pos h,if_pos hm,h1.1,Q1p,hy,hm2,h2.1,if_true,if_pos hn]
end Go.Proofs.YtjfdaphjijfieaaGreat
