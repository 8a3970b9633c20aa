/-
  Joined texts, part 2: contracts and plain lemmas.
  Conditions: none beyond those of each theorem.
-/
import Derived.Test.YtjfdaphjijfieaaGreatJ1
import Derived.Lib.ItoaNum
set_option linter.unusedVariables false
set_option linter.unusedSimpArgs false
set_option maxRecDepth 100000
universe u
namespace Go.Proofs.YtjfdaphjijfieaaGreat
def cutB (m : Nat) : Nat:=Lib.bitLen m - 1
def cutU (m : Nat) : Nat:=2 ^ (cutB m + 1) - m
theorem cut_bounds (m : Nat) (h0 : m ≠ 0) (h : m < 2 ^ 64) : 2 ^ cutB m<=m/\m < 2 ^ (cutB m + 1):=by
 obtain ⟨h1,h2,h3⟩:=Lib.bitLenAux_bounds 64 m h h0;unfold cutB Lib.bitLen;exact ⟨h2,by rw [show Lib.bitLenAux 64 m - 1 + 1 = Lib.bitLenAux 64 m by omega];exact h3⟩
theorem cutB_le (m k : Nat) (h0 : m ≠ 0) (h : m < 2 ^ k) (hk : k<=64) : cutB m < k:=by
 have hm : m < 2 ^ 64:=Nat.lt_of_lt_of_le h (Nat.pow_le_pow_right (by omega) hk);have:=(cut_bounds m h0 hm).1;exact (Nat.pow_lt_pow_iff_right (by omega)).1 (Nat.lt_of_le_of_lt this h)
theorem bitLen_pos (m : Nat) (h0 : m ≠ 0) (h : m < 2 ^ 64) : 1<=Lib.bitLen m:=(Lib.bitLenAux_bounds 64 m h h0).1
def numBits (n m : Nat) : List Bool :=
  if n < cutU m then bitsB (cutB m) n else bitsB (cutB m) ((n + cutU m) / 2) ++ bitsB 1 (n + cutU m)
def runBits (z : Nat) : List Bool:=(List.replicate (z / 3) (bitsB 2 3)).flatten ++ bitsB 2 (z % 3)
def zerosOf (l : List Int) : Nat:=(l.takeWhile (· == 0)).length
def normBits (left : Nat) (skip : Nat) : List Int->List Bool
  | []=>[]
  | n :: rest=>match skip with
    | s + 1=>normBits left s rest
    | 0=>numBits (n + 1).toNat (left + 2) ++ (if n = 0 then runBits (zerosOf rest) ++ normBits left (zerosOf rest) rest else normBits (left - n.natAbs) 0 rest)
def descBits (lg : Nat) (N : List Int) : List Bool:=bitsB 4 (lg - 1) ++ normBits (2 ^ lg) 0 N
theorem zerosOf_le (l : List Int) : zerosOf l<=l.length:=by unfold zerosOf;exact (List.takeWhile_sublist _).length_le
theorem zerosOf_cons_zero (l : List Int) : zerosOf (0 :: l) = zerosOf l + 1:=by simp [zerosOf]
theorem zerosOf_cons_ne (n : Int) (l : List Int) (h : n ≠ 0) : zerosOf (n :: l) = 0:=by simp [zerosOf,h]
theorem zerosOf_get : ∀ (l : List Int) (j : Nat),j < zerosOf l->l[j]? = some 0
 | [],j,h=>by simp [zerosOf] at h
 | n :: l,j,h=>by
   by_cases hn : n = 0
   . subst hn
     rw [zerosOf_cons_zero] at h
     match j with
     | 0=>rfl
     | j + 1=>simpa using zerosOf_get l j (by omega)
   rw [zerosOf_cons_ne n l hn] at h;omega
theorem zerosOf_stop : ∀ (l : List Int),l[zerosOf l]? ≠ some 0
 | []=>by simp [zerosOf]
 | n :: l=>by
   by_cases hn : n = 0
   . subst hn
     rw [zerosOf_cons_zero]
     simpa using zerosOf_stop l
   rw [zerosOf_cons_ne n l hn];simpa using hn
theorem zerosOf_lt (l : List Int) (h0 : 0 < l.length) (hl : l[l.length - 1]? ≠ some 0) : zerosOf l < l.length:=by
 rcases Nat.lt_or_ge (zerosOf l) l.length with h | h
 . exact h
 exact absurd (zerosOf_get l (l.length - 1) (by omega)) hl
theorem normBits_skip : ∀ (left s : Nat) (l : List Int),s<=l.length->normBits left s l = normBits left 0 (l.drop s)
 | left,0,l,_=>by simp
 | left,s + 1,[],h=>by simp at h
 | left,s + 1,n :: l,h=>by
   rw [List.drop_succ_cons,<- normBits_skip left s l (by simpa using h)]
   rfl
theorem numBits_length (n m : Nat) : (numBits n m).length<=cutB m + 1:=by unfold numBits;split <;> simp
theorem runBits_length (z : Nat) : (runBits z).length = 2 * (z / 3) + 2:=by simp [runBits];omega
theorem normBits_length : ∀ (l : List Int) (left s : Nat),left<=512->s<=zerosOf l->(normBits left s l).length + 12 * s<=12 * l.length
 | [],left,s,_,h=>by simp [normBits,zerosOf] at *;omega
 | n :: rest,left,s + 1,hL,h=>by
   have hn : n = 0:=by
     by_cases hn : n = 0
     . exact hn
     rw [zerosOf_cons_ne n rest hn] at h;omega
   subst hn;rw [zerosOf_cons_zero] at h;have:=normBits_length rest left s hL (by omega);simp only [normBits,List.length_cons];omega
 | n :: rest,left,0,hL,_=>by
   have h1:=numBits_length (n + 1).toNat (left + 2);have h2:=cutB_le (left + 2) 10 (by omega) (by omega) (by omega);simp only [normBits,List.length_append,List.length_cons];split
   . have:=normBits_length rest left (zerosOf rest) hL (Nat.le_refl _)
     have h3:=runBits_length (zerosOf rest);rw [List.length_append];omega
   have:=normBits_length rest (left - n.natAbs) 0 (by omega) (Nat.zero_le _);omega
theorem descBits_length (lg : Nat) (N : List Int) (h : lg<=9) : (descBits lg N).length<=12 * N.length + 4:=by
 have hp : 2 ^ lg<=2 ^ 9:=Nat.pow_le_pow_right (by omega) h;have:=normBits_length N (2 ^ lg) 0 (by omega) (Nat.zero_le _);unfold descBits;simp;omega
theorem normBits_ne (left : Nat) (n : Int) (rest : List Int) (h : n ≠ 0) : normBits left 0 (n :: rest) = numBits (n + 1).toNat (left + 2) ++ normBits (left - n.natAbs) 0 rest:=by
 simp [normBits,h]
theorem normBits_zero (left : Nat) (rest : List Int) : normBits left 0 (0 :: rest) = numBits 1 (left + 2) ++ (runBits (zerosOf rest) ++ normBits left (zerosOf rest) rest):=by
 simp [normBits]
def runPart (j : Nat) : List Bool:=(List.replicate j (bitsB 2 3)).flatten
theorem runPart_length (j : Nat) : (runPart j).length = 2 * j:=by simp [runPart];omega
theorem runPart_succ (j : Nat) : runPart (j + 1) = runPart j ++ bitsB 2 3:=by
 unfold runPart;rw [List.replicate_succ',List.flatten_append];simp
theorem runPart_end (z j : Nat) (h1 : 3 * j<=z) (h2 : z < 3 * j + 3) : runBits z = runPart j ++ bitsB 2 (z - 3 * j):=by
 unfold runBits runPart;rw [show z / 3 = j by omega,show z % 3 = z - 3 * j by omega]
theorem zeros_lt (N : List Int) (k n : Nat) (hn : N.length = n) (hk : k < n) (hz : N[k]? = some 0) (hl : N[n - 1]? ≠ some 0) : k + 1 + zerosOf (N.drop (k + 1)) < n:=by
 have hk1 : k + 1 < n:=by
   rcases Nat.lt_or_ge (k + 1) n with h | h
   . exact h
   exact absurd (show N[n - 1]? = some 0 by rw [show n - 1 = k by omega];exact hz) hl
 have:=zerosOf_lt (N.drop (k + 1)) (by simp;omega) (by
   rw [List.length_drop,List.getElem?_drop,hn,show k + 1 + (n - (k + 1) - 1) = n - 1 by omega];exact hl)
 rw [List.length_drop,hn] at this;omega
structure St where
  fr : Nat
  e : Int
def takeS (L : List Bool) (n : Nat) (σ : St) : Nat × St :=
  if σ.e ≠ 0 then (0,σ) else if σ.fr + n<=L.length then (valB ((L.drop σ.fr).take n),⟨σ.fr + n,0⟩) else (0,⟨σ.fr,3⟩)
def mustS (h : Bool) (e : Int) (σ : St) : Bool × St:=if σ.e = 0 then (if h then (true,σ) else (false,⟨σ.fr,e⟩)) else (false,σ)
def numberS (L : List Bool) (m : Nat) (σ : St) : Nat × St :=
  if (takeS L (cutB m) σ).1 < cutU m then takeS L (cutB m) σ
  else (2 * (takeS L (cutB m) σ).1 + (takeS L 1 (takeS L (cutB m) σ).2).1 - cutU m,(takeS L 1 (takeS L (cutB m) σ).2).2)
def noughtsS (room : Int) (L : List Bool) : Nat->Nat->Nat->St->Nat × St
  | 0,_,len,σ=>(len,σ)
  | f + 1,k,len,σ =>
    if k = 3 then
      if (mustS (decide ((len : Int) < room)) 13 σ).1 then noughtsS room L f (takeS L 2 (mustS (decide ((len : Int) < room)) 13 σ).2).1 (len + (takeS L 2 (mustS (decide ((len : Int) < room)) 13 σ).2).1) (takeS L 2 (mustS (decide ((len : Int) < room)) 13 σ).2).2
      else (len,(mustS (decide ((len : Int) < room)) 13 σ).2)
    else (len,σ)
def roundS (sy : Int) (L : List Bool) (left : Nat) (N : List Int) (ran : Bool) (σ : St) : (Bool × Nat) × (List Int × Bool) × St :=
  let x:=numberS L (left + 2) σ
  let n : Int:=(x.1 : Int) - 1
  let y:=mustS (n != 0 || !ran) 13 x.2
  if y.1 then
    if n = 0 then
      let z:=noughtsS (sy - (N.length + 1 : Nat)) L 300 3 0 y.2
      ((true,left),(N ++ [0] ++ List.replicate z.1 0,true),z.2)
    else ((true,left - n.natAbs),(N ++ [n],false),y.2)
  else ((false,left),(N,ran),y.2)
def tableS (sy : Int) (L : List Bool) : Nat->Nat->List Int->Bool->St->List Int × St
  | 0,_,N,_,σ=>(N,σ)
  | f + 1,left,N,ran,σ =>
    if 0 < left then
      if (mustS (decide ((N.length : Int) < sy)) 13 σ).1 then
        let r:=roundS sy L left N ran (mustS (decide ((N.length : Int) < sy)) 13 σ).2
        if r.1.1 then tableS sy L f r.1.2 r.2.1.1 r.2.1.2 r.2.2 else (N,r.2.2)
      else (N,(mustS (decide ((N.length : Int) < sy)) 13 σ).2)
    else (N,σ)
def readS (sy lb : Int) (L : List Bool) : Nat × List Int × St :=
  let x:=takeS L 4 ⟨0,0⟩
  let y:=mustS (decide ((x.1 : Int) + 1<=min lb 9)) 13 x.2
  if y.1 then (x.1 + 1,tableS sy L 600 (2 ^ (x.1 + 1)) [] false y.2) else (x.1 + 1,[],y.2)
def decodeS (sy lb : Int) (L : List Bool) : Except Int (Nat × List Int × Nat) :=
  let r:=readS (min sy 256) lb L
  if r.2.2.e ≠ 0 then .error r.2.2.e
  else if valB ((L.drop r.2.2.fr).take ((8 - r.2.2.fr % 8) % 8)) ≠ 0 then .error 14
  else .ok (r.1,r.2.1,(r.2.2.fr + (8 - r.2.2.fr % 8) % 8) / 8)
theorem takeS_lt (L : List Bool) (n : Nat) (σ : St) : (takeS L n σ).1 < 2 ^ n:=by
 unfold takeS;split
 . exact Nat.two_pow_pos n
 split
 . have:=valB_lt ((L.drop σ.fr).take n)
   exact Nat.lt_of_lt_of_le this (Nat.pow_le_pow_right (by omega) (by rw [List.length_take];exact Nat.min_le_left _ _))
 exact Nat.two_pow_pos n
theorem numberS_lt (L : List Bool) (m : Nat) (σ : St) (h0 : 1<=m) (h : m < 2 ^ 64) : (numberS L m σ).1 < m:=by
 obtain ⟨h1,h2⟩:=cut_bounds m (by omega) h;have h3:=takeS_lt L (cutB m) σ;have h4:=takeS_lt L 1 (takeS L (cutB m) σ).2;have hu : cutU m = 2 ^ (cutB m + 1) - m:=rfl;rw [Nat.pow_succ] at h2 hu;unfold numberS;(split <;> (try simp only) <;> omega)
theorem mustS_e {h : Bool} {e : Int} {σ : St} : (mustS h e σ).1 = true->(mustS h e σ).2 = σ/\h = true:=by
 unfold mustS;split
 . cases h <;> simp
 simp
theorem tableS_fail (sy : Int) (L : List Bool) (f left : Nat) (N : List Int) (ran : Bool) (σ : St) (h : 0 < left) (hm : (mustS (decide ((N.length : Int) < sy)) 13 σ).1 = false) :
   tableS sy L (f + 1) left N ran σ = (N,(mustS (decide ((N.length : Int) < sy)) 13 σ).2):=by
 simp [tableS,h,hm]
theorem tableS_stop (sy : Int) (L : List Bool) (f left : Nat) (N : List Int) (ran : Bool) (σ : St) (y : Nat) (σ6 : St) (h : 0 < left) (hm : (mustS (decide ((N.length : Int) < sy)) 13 σ).1 = true)
   (hy : numberS L (left + 2) σ = (y,σ6)) (hm2 : (mustS ((y : Int) - 1 != 0 || !ran) 13 σ6).1 = false) :
   tableS sy L (f + 1) left N ran σ = (N,(mustS ((y : Int) - 1 != 0 || !ran) 13 σ6).2):=by
 have h1:=mustS_e hm;simp only [tableS,if_pos h,if_pos hm,h1.1,roundS,hy,hm2,Bool.false_eq_true,if_false]
theorem tableS_ne (sy : Int) (L : List Bool) (f left : Nat) (N : List Int) (ran : Bool) (σ : St) (y : Nat) (σ6 : St) (h : 0 < left) (hm : (mustS (decide ((N.length : Int) < sy)) 13 σ).1 = true)
   (hy : numberS L (left + 2) σ = (y,σ6)) (hm2 : (mustS ((y : Int) - 1 != 0 || !ran) 13 σ6).1 = true) (hn : (y : Int) - 1 ≠ 0) :
   tableS sy L (f + 1) left N ran σ = tableS sy L f (left - ((y : Int) - 1).natAbs) (N ++ [(y : Int) - 1]) false σ6:=by
 have h1:=mustS_e hm;have h2:=mustS_e hm2;simp only [tableS,if_pos h,if_pos hm,h1.1,roundS,hy,hm2,h2.1,if_true,if_neg hn]
theorem tableS_zero (sy : Int) (L : List Bool) (f left : Nat) (N : List Int) (ran : Bool) (σ : St) (y : Nat) (σ6 : St) (h : 0 < left) (hm : (mustS (decide ((N.length : Int) < sy)) 13 σ).1 = true)
   (hy : numberS L (left + 2) σ = (y,σ6)) (hm2 : (mustS ((y : Int) - 1 != 0 || !ran) 13 σ6).1 = true) (hn : (y : Int) - 1 = 0) :
   tableS sy L (f + 1) left N ran σ = tableS sy L f left (N ++ [0] ++ List.replicate (noughtsS (sy - (N.length + 1 : Nat)) L 300 3 0 σ6).1 0) true (noughtsS (sy - (N.length + 1 : Nat)) L 300 3 0 σ6).2:=by
 have h1:=mustS_e hm;have h2:=mustS_e hm2;simp only [tableS,if_pos h,if_pos hm,h1.1,roundS,hy,hm2,h2.1,if_true,if_pos hn]
end Go.Proofs.YtjfdaphjijfieaaGreat
