/-
  Joined texts, part 2: contracts and plain lemmas.
  Conditions: none beyond those of each theorem.
-/
import Derived.Test.YtjfdaphjijfieaaGreatK1
import Derived.Lib.ItoaNum
set_option linter.unusedVariables false
set_option linter.unusedSimpArgs false
set_option maxRecDepth 100000
universe u
namespace Go.Proofs.YtjfdaphjijfieaaGreat
def Ye (m:Nat):Nat:=Lib.bitLen m-1
def YJ (m:Nat):Nat:=2^(Ye m+1)-m
theorem ZT (m:Nat) (h0:m≠0) (h:m<2^64):2^Ye m<=m/\m<2^(Ye m+1):=by
 obtain⟨h1,h2,h3⟩:=Lib.bitLenAux_bounds 64 m h h0;unfold Ye Lib.bitLen;exact⟨h2,by rw [show Lib.bitLenAux 64 m-1+1=Lib.bitLenAux 64 m by omega];exact h3⟩
theorem Xr (m k:Nat) (h0:m≠0) (h:m<2^k) (hk:k<=64):Ye m<k:=by
 have hm:m<2^64:=Nat.lt_of_lt_of_le h (Nat.pow_le_pow_right (by omega) hk);have:=(ZT m h0 hm).1;exact(Nat.pow_lt_pow_iff_right (by omega)).1 (Nat.lt_of_le_of_lt this h)
theorem Q5H (m:Nat) (h0:m≠0) (h:m<2^64):1<=Lib.bitLen m:=(Lib.bitLenAux_bounds 64 m h h0).1
def Yp (n m:Nat):List Bool :=
  if n<YJ m then Qj (Ye m) n else Qj (Ye m) ((n+YJ m) / 2)++Qj 1 (n+YJ m)
def Yq (z:Nat):List Bool:=(List.replicate (z / 3) (Qj 2 3)).flatten++Qj 2 (z%3)
def QH (l:List Int):Nat:=(l.takeWhile (· == 0)).length
def Y5 (left:Nat) (skip:Nat):List Int->List Bool
  | []=>[]
  | n::rest=>match skip with
    | s+1=>Y5 left s rest
    | 0=>Yp (n+1).toNat (left+2)++(if n=0 then Yq (QH rest)++Y5 left (QH rest) rest else Y5 (left-n.natAbs) 0 rest)
def Qy (lg:Nat) (N:List Int):List Bool:=Qj 4 (lg-1)++Y5 (2^lg) 0 N
theorem Q1N (l:List Int):QH l<=l.length:=by unfold QH;exact(List.takeWhile_sublist _).length_le
theorem YO (l:List Int):QH (0::l)=QH l+1:=by simp [QH]
theorem J8 (n:Int) (l:List Int) (h:n≠0):QH (n::l)=0:=by simp [QH,h]
theorem Xi:∀(l:List Int) (j:Nat),j<QH l->l[j]?=some 0
 | [],j,h=>by simp [QH]at h
 | n::l,j,h=>by
   by_cases hn:n=0
   . subst hn
     rw [YO]at h
     match j with
     | 0=>rfl
     | j+1=>simpa using Xi l j (by omega)
   rw [J8 n l hn]at h;omega
theorem VE:∀(l:List Int),l[QH l]?≠some 0
 | []=>by simp [QH]
 | n::l=>by
   by_cases hn:n=0
   . subst hn
     rw [YO]
     simpa using VE l
   rw [J8 n l hn];simpa using hn
theorem Q1M (l:List Int) (h0:0<l.length) (hl:l[l.length-1]?≠some 0):QH l<l.length:=by
 rcases Nat.lt_or_ge (QH l) l.length with h|h
 . exact h
 exact absurd (Xi l (l.length-1) (by omega)) hl
theorem Vm:∀(left s:Nat) (l:List Int),s<=l.length->Y5 left s l=Y5 left 0 (l.drop s)
 | left,0,l,_=>by simp
 | left,s+1,[],h=>by simp at h
 | left,s+1,n::l,h=>by
   rw [List.drop_succ_cons,<-Vm left s l (by simpa using h)]
   rfl
theorem Xs (n m:Nat):(Yp n m).length<=Ye m+1:=by unfold Yp;split<;>simp
theorem Q2g (z:Nat):(Yq z).length=2*(z / 3)+2:=by simp [Yq];omega
theorem ZF:∀(l:List Int) (left s:Nat),left<=512->s<=QH l->(Y5 left s l).length+12*s<=12*l.length
 | [],left,s,_,h=>by simp [Y5,QH]at *;omega
 | n::rest,left,s+1,hL,h=>by
   have hn:n=0:=by
     by_cases hn:n=0
     . exact hn
     rw [J8 n rest hn]at h;omega
   subst hn;rw [YO]at h;have:=ZF rest left s hL (by omega);simp only [Y5,List.length_cons];omega
 | n::rest,left,0,hL,_=>by
   have h1:=Xs (n+1).toNat (left+2);have h2:=Xr (left+2) 10 (by omega) (by omega) (by omega);simp only [Y5,List.length_append,List.length_cons];split
   . have:=ZF rest left (QH rest) hL (Nat.le_refl _)
     have h3:=Q2g (QH rest);rw [List.length_append];omega
   have:=ZF rest (left-n.natAbs) 0 (by omega) (Nat.zero_le _);omega
theorem ZE (lg:Nat) (N:List Int) (h:lg<=9):(Qy lg N).length<=12*N.length+4:=by
 have hp:2^lg<=2^9:=Nat.pow_le_pow_right (by omega) h;have:=ZF N (2^lg) 0 (by omega) (Nat.zero_le _);unfold Qy;simp;omega
theorem V7 (left:Nat) (n:Int) (rest:List Int) (h:n≠0):Y5 left 0 (n::rest)=Yp (n+1).toNat (left+2)++Y5 (left-n.natAbs) 0 rest:=by
 simp [Y5,h]
theorem Vl (left:Nat) (rest:List Int):Y5 left 0 (0::rest)=Yp 1 (left+2)++(Yq (QH rest)++Y5 left (QH rest) rest):=by
 simp [Y5]
def JW (j:Nat):List Bool:=(List.replicate j (Qj 2 3)).flatten
theorem Q2e (j:Nat):(JW j).length=2*j:=by simp [JW];omega
theorem Q3F (j:Nat):JW (j+1)=JW j++Qj 2 3:=by
 unfold JW;rw [List.replicate_succ',List.flatten_append];simp
theorem Q0Y (z j:Nat) (h1:3*j<=z) (h2:z<3*j+3):Yq z=JW j++Qj 2 (z-3*j):=by
 unfold Yq JW;rw [show z / 3=j by omega,show z%3=z-3*j by omega]
theorem Q8o (N:List Int) (k n:Nat) (hn:N.length=n) (hk:k<n) (hz:N[k]?=some 0) (hl:N[n-1]?≠some 0):k+1+QH (N.drop (k+1))<n:=by
 have hk1:k+1<n:=by
   rcases Nat.lt_or_ge (k+1) n with h|h
   . exact h
   exact absurd (show N[n-1]?=some 0 by rw [show n-1=k by omega];exact hz) hl
 have:=Q1M (N.drop (k+1)) (by simp;omega) (by
   rw [List.length_drop,List.getElem?_drop,hn,show k+1+(n-(k+1)-1)=n-1 by omega];exact hl)
 rw [List.length_drop,hn]at this;omega
structure St where
  fr:Nat
  e:Int
def Qp (L:List Bool) (n:Nat) (σ:St):Nat × St :=
  if σ.e≠0 then(0,σ)else if σ.fr+n<=L.length then(Y7 ((L.drop σ.fr).take n),⟨σ.fr+n,0⟩)else(0,⟨σ.fr,3⟩)
def Qs (h:Bool) (e:Int) (σ:St):Bool × St:=if σ.e=0 then(if h then(true,σ)else(false,⟨σ.fr,e⟩))else(false,σ)
def Y4 (L:List Bool) (m:Nat) (σ:St):Nat × St :=
  if(Qp L (Ye m) σ).1<YJ m then Qp L (Ye m) σ
  else(2*(Qp L (Ye m) σ).1+(Qp L 1 (Qp L (Ye m) σ).2).1-YJ m,(Qp L 1 (Qp L (Ye m) σ).2).2)
def QO (room:Int) (L:List Bool):Nat->Nat->Nat->St->Nat × St
  | 0,_,len,σ=>(len,σ)
  | f+1,k,len,σ =>
    if k=3 then
      if(Qs (decide ((len:Int)<room)) 13 σ).1 then QO room L f (Qp L 2 (Qs (decide ((len:Int)<room)) 13 σ).2).1 (len+(Qp L 2 (Qs (decide ((len:Int)<room)) 13 σ).2).1) (Qp L 2 (Qs (decide ((len:Int)<room)) 13 σ).2).2
      else(len,(Qs (decide ((len:Int)<room)) 13 σ).2)
    else(len,σ)
def JO (sy:Int) (L:List Bool) (left:Nat) (N:List Int) (ran:Bool) (σ:St):(Bool × Nat) × (List Int × Bool) × St :=
  let x:=Y4 L (left+2) σ
  let n:Int:=(x.1:Int)-1
  let y:=Qs (n != 0 || !ran) 13 x.2
  if y.1 then
    if n=0 then
      let z:=QO (sy-(N.length+1:Nat)) L 300 3 0 y.2
      ((true,left),(N++[0]++List.replicate z.1 0,true),z.2)
    else((true,left-n.natAbs),(N++[n],false),y.2)
  else((false,left),(N,ran),y.2)
def QZ (sy:Int) (L:List Bool):Nat->Nat->List Int->Bool->St->List Int × St
  | 0,_,N,_,σ=>(N,σ)
  | f+1,left,N,ran,σ =>
    if 0<left then
      if(Qs (decide ((N.length:Int)<sy)) 13 σ).1 then
        let r:=JO sy L left N ran (Qs (decide ((N.length:Int)<sy)) 13 σ).2
        if r.1.1 then QZ sy L f r.1.2 r.2.1.1 r.2.1.2 r.2.2 else(N,r.2.2)
      else(N,(Qs (decide ((N.length:Int)<sy)) 13 σ).2)
    else(N,σ)
def Jp (sy lb:Int) (L:List Bool):Nat × List Int × St :=
  let x:=Qp L 4 ⟨0,0⟩
  let y:=Qs (decide ((x.1:Int)+1<=min lb 9)) 13 x.2
  if y.1 then(x.1+1,QZ sy L 600 (2^(x.1+1)) [] false y.2)else(x.1+1,[],y.2)
def YR (sy lb:Int) (L:List Bool):Except Int (Nat × List Int × Nat) :=
  let r:=Jp (min sy 256) lb L
  if r.2.2.e≠0 then .error r.2.2.e
  else if Y7 ((L.drop r.2.2.fr).take ((8-r.2.2.fr%8)%8))≠0 then .error 14
  else .ok (r.1,r.2.1,(r.2.2.fr+(8-r.2.2.fr%8)%8) / 8)
theorem ZH (L:List Bool) (n:Nat) (σ:St):(Qp L n σ).1<2^n:=by
 unfold Qp;split
 . exact Nat.two_pow_pos n
 split
 . have:=Z9 ((L.drop σ.fr).take n)
   exact Nat.lt_of_lt_of_le this (Nat.pow_le_pow_right (by omega) (by rw [List.length_take];exact Nat.min_le_left _ _))
 exact Nat.two_pow_pos n
theorem Q1T (L:List Bool) (m:Nat) (σ:St) (h0:1<=m) (h:m<2^64):(Y4 L m σ).1<m:=by
 obtain⟨h1,h2⟩:=ZT m (by omega) h;have h3:=ZH L (Ye m) σ;have h4:=ZH L 1 (Qp L (Ye m) σ).2;have hu:YJ m=2^(Ye m+1)-m:=rfl;rw [Nat.pow_succ]at h2 hu;unfold Y4;(split<;>(try simp only)<;>omega)
theorem Jj {h:Bool} {e:Int} {σ:St}:(Qs h e σ).1=true->(Qs h e σ).2=σ/\h=true:=by
 unfold Qs;split
 . cases h<;>simp
 simp
theorem Xe (sy:Int) (L:List Bool) (f left:Nat) (N:List Int) (ran:Bool) (σ:St) (h:0<left) (hm:(Qs (decide ((N.length:Int)<sy)) 13 σ).1=false) :
   QZ sy L (f+1) left N ran σ=(N,(Qs (decide ((N.length:Int)<sy)) 13 σ).2):=by
 simp [QZ,h,hm]
theorem V8 (sy:Int) (L:List Bool) (f left:Nat) (N:List Int) (ran:Bool) (σ:St) (y:Nat) (σ6:St) (h:0<left) (hm:(Qs (decide ((N.length:Int)<sy)) 13 σ).1=true)
   (hy:Y4 L (left+2) σ=(y,σ6)) (hm2:(Qs ((y:Int)-1 != 0 || !ran) 13 σ6).1=false) :
   QZ sy L (f+1) left N ran σ=(N,(Qs ((y:Int)-1 != 0 || !ran) 13 σ6).2):=by
 have h1:=Jj hm;simp only [QZ,if_pos h,if_pos hm,h1.1,JO,hy,hm2,Bool.false_eq_true,if_false]
theorem Q0i (sy:Int) (L:List Bool) (f left:Nat) (N:List Int) (ran:Bool) (σ:St) (y:Nat) (σ6:St) (h:0<left) (hm:(Qs (decide ((N.length:Int)<sy)) 13 σ).1=true)
   (hy:Y4 L (left+2) σ=(y,σ6)) (hm2:(Qs ((y:Int)-1 != 0 || !ran) 13 σ6).1=true) (hn:(y:Int)-1≠0) :
   QZ sy L (f+1) left N ran σ=QZ sy L f (left-((y:Int)-1).natAbs) (N++[(y:Int)-1]) false σ6:=by
 have h1:=Jj hm;have h2:=Jj hm2;simp only [QZ,if_pos h,if_pos hm,h1.1,JO,hy,hm2,h2.1,if_true,if_neg hn]
theorem Xb (sy:Int) (L:List Bool) (f left:Nat) (N:List Int) (ran:Bool) (σ:St) (y:Nat) (σ6:St) (h:0<left) (hm:(Qs (decide ((N.length:Int)<sy)) 13 σ).1=true)
   (hy:Y4 L (left+2) σ=(y,σ6)) (hm2:(Qs ((y:Int)-1 != 0 || !ran) 13 σ6).1=true) (hn:(y:Int)-1=0) :
   QZ sy L (f+1) left N ran σ=QZ sy L f left (N++[0]++List.replicate (QO (sy-(N.length+1:Nat)) L 300 3 0 σ6).1 0) true (QO (sy-(N.length+1:Nat)) L 300 3 0 σ6).2:=by
 have h1:=Jj hm;have h2:=Jj hm2;simp only [QZ,if_pos h,if_pos hm,h1.1,JO,hy,hm2,h2.1,if_true,if_pos hn]
end Go.Proofs.YtjfdaphjijfieaaGreat
