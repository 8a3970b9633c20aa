/-
  Joined texts, part 11: contracts and plain lemmas.
  Conditions: none beyond those of each theorem.
-/
import Derived.Test.YtjfdaphjijfieaaGreatJ2
import Derived.Test.YtjfdaphjijfieaaGreatJ4
set_option linter.unusedVariables false
set_option linter.unusedSimpArgs false
set_option maxRecDepth 100000
universe u
namespace Go.Proofs.YtjfdaphjijfieaaGreat
theorem takeS_bits (P X : List Bool) (n v : Nat) (hv : v < 2 ^ n) : takeS (P ++ (bitsB n v ++ X)) n ⟨P.length,0⟩ = (v,⟨P.length + n,0⟩):=by
 unfold takeS;rw [if_neg (by simp),if_pos (by simp)];simp only [List.drop_left];rw [List.take_append_of_le_length (by simp),List.take_of_length_le (by simp),valB_bitsB,Nat.mod_eq_of_lt hv]
theorem mustS_ok {h : Bool} (e : Int) (fr : Nat) (hh : h = true) : mustS h e ⟨fr,0⟩ = (true,⟨fr,0⟩):=by
 subst hh;rfl
theorem numberS_bits (P X : List Bool) (n m : Nat) (hm0 : m ≠ 0) (hm : m < 2 ^ 64) (hn : n < m) :
   numberS (P ++ (numBits n m ++ X)) m ⟨P.length,0⟩ = (n,⟨P.length + (numBits n m).length,0⟩):=by
 obtain ⟨h1,h2⟩:=cut_bounds m hm0 hm;have hu : cutU m = 2 ^ (cutB m + 1) - m:=rfl;rw [Nat.pow_succ] at h2 hu;unfold numBits;by_cases h : n < cutU m
 . rw [if_pos h]
   have ht:=takeS_bits P X (cutB m) n (by omega);unfold numberS;simp only [ht,if_pos h,bitsB_length]
 rw [if_neg h];have ht:=takeS_bits P (bitsB 1 (n + cutU m) ++ X) (cutB m) ((n + cutU m) / 2) (by omega);have ht2:=takeS_bits (P ++ bitsB (cutB m) ((n + cutU m) / 2)) X 1 ((n + cutU m) % 2) (by omega);rw [show bitsB 1 ((n + cutU m) % 2) = bitsB 1 (n + cutU m) from by simpa using bitsB_mod 1 (n + cutU m)] at ht2;simp only [List.length_append,bitsB_length,List.append_assoc] at ht2;unfold numberS;simp only [List.append_assoc,ht,if_neg (show ¬ (n + cutU m) / 2 < cutU m by omega),ht2,List.length_append,bitsB_length]
 congr 1
 omega
theorem noughtsS_bits (room : Int) (X : List Bool) : ∀ (z f : Nat) (P : List Bool) (len : Nat),z / 3 + 2<=f->((len + z : Nat) : Int) < room ->
   noughtsS room (P ++ (runBits z ++ X)) f 3 len ⟨P.length,0⟩ = (len + z,⟨P.length + (runBits z).length,0⟩):=by
 intro z
 induction z using Nat.strongRecOn with
 | _ z ih =>
   intro f P len hf hr
   match f,hf with
   | f + 1,hf =>
     have hm:=mustS_ok (h:=decide ((len : Int) < room)) 13 P.length (by simp;omega);unfold noughtsS;simp only [if_true,hm];by_cases hz : z < 3
     . have hb : runBits z = bitsB 2 z:=by
         have:=runPart_end z 0 (by omega) (by omega);simpa [runPart] using this
       have ht:=takeS_bits P X 2 z (by omega);rw [hb,ht]
       match f,hf with
       | f + 1,hf =>
         unfold noughtsS;simp only [bitsB_length];rw [if_neg (by omega)]
     have hb : runBits z = bitsB 2 3 ++ runBits (z - 3):=by
       unfold runBits;rw [show z / 3 = (z - 3) / 3 + 1 by omega,show z % 3 = (z - 3) % 3 by omega,List.replicate_succ];simp
     have ht:=takeS_bits P (runBits (z - 3) ++ X) 2 3 (by omega);have hi:=ih (z - 3) (by omega) f (P ++ bitsB 2 3) (len + 3) (by omega) (by omega);rw [hb];simp only [List.append_assoc] at hi ⊢;simp only [ht];simp only [List.length_append,bitsB_length] at hi ⊢;rw [hi]
     congr 1
     . omega
     congr 1;omega
theorem sumZ_zeros (l : List Int) : sumZ l = sumZ (l.drop (zerosOf l)):=by
 induction l with
 | nil=>rfl
 | cons n l ih =>
   by_cases hn : n = 0
   . subst hn
     rw [zerosOf_cons_zero,List.drop_succ_cons,<- ih,sumZ_cons];simp [absZ]
   rw [zerosOf_cons_ne n l hn];rfl
theorem zeros_split (l : List Int) : l = List.replicate (zerosOf l) 0 ++ l.drop (zerosOf l):=by
 induction l with
 | nil=>rfl
 | cons n l ih =>
   by_cases hn : n = 0
   . subst hn
     rw [zerosOf_cons_zero,List.drop_succ_cons,List.replicate_succ,List.cons_append,<- ih]
   rw [zerosOf_cons_ne n l hn];simp
theorem sumZ_pos (l : List Int) (h0 : 0 < l.length) (hl : l[l.length - 1]? ≠ some 0) : 0 < sumZ l:=by
 have h1:=sumZ_take_succ l (l.length - 1) (by omega);rw [show l.length - 1 + 1 = l.length by omega,List.take_length] at h1;have h2:=sumZ_nonneg (l.take (l.length - 1));have h3 : l[l.length - 1] ≠ 0:=fun h=>hl (by rw [List.getElem?_eq_getElem (by omega),h]);(have h4 : 0 < absZ l[l.length - 1]:=by unfold absZ;split <;> omega);omega
theorem tableS_bits (sy : Int) (X : List Bool) : ∀ (k : Nat) (rest : List Int) (f left : Nat) (pre : List Int) (ran : Bool) (P : List Bool),rest.length<=k->rest.length + 1<=f->left<=512 ->
   sumZ rest = left->(∀ n ∈ rest,-1<=n)->(0 < rest.length->rest[rest.length - 1]? ≠ some 0)->((pre.length + rest.length : Nat) : Int)<=sy->rest.length<=256->(ran = true->rest.head? ≠ some 0) ->
   tableS sy (P ++ (normBits left 0 rest ++ X)) f left pre ran ⟨P.length,0⟩ = (pre ++ rest,⟨P.length + (normBits left 0 rest).length,0⟩)
 | _,[],f + 1,left,pre,ran,P,_,_,_,hs,_,_,_,_,_=>by
   have : left = 0:=by simp [sumZ] at hs;omega
   subst this
   simp [tableS,normBits]
 | 0,_ :: _,_,_,_,_,_,h,_,_,_,_,_,_,_,_=>by simp at h
 | k + 1,n :: rest,f + 1,left,pre,ran,P,hk,hf,hl,hs,hall,hlast,hsy,h256,hran=>by
   have hn1 : -1<=n:=hall n (by simp)
   have hs2:=sumZ_cons n rest
   have hs3:=sumZ_nonneg rest
   have hab : absZ n = (n.natAbs : Int):=by unfold absZ;split <;> omega
   simp only [List.length_cons] at hk hf hsy h256
   have hlast2 : 0 < rest.length->rest[rest.length - 1]? ≠ some 0:=by
     intro h0;have:=hlast (by simp);simp only [List.length_cons] at this;rw [show rest.length + 1 - 1 = (rest.length - 1) + 1 by omega,List.getElem?_cons_succ] at this;exact this
   have hleft : 0 < left:=by
     have:=sumZ_pos (n :: rest) (by simp) (hlast (by simp));omega
   have hm:=mustS_ok (h:=decide ((pre.length : Int) < sy)) 13 P.length (by simp;omega);(have hm1 : (mustS (decide ((pre.length : Int) < sy)) 13 ⟨P.length,0⟩).1 = true:=by rw [hm]);(have hx : (n + 1).toNat < left + 2:=by omega);(have hy1 : (((n + 1).toNat : Nat) : Int) - 1 = n:=by omega);by_cases hn : n = 0
   . subst hn
     have hrf : ran = false:=by
       cases ran with
       | false=>rfl
       | true=>exact absurd rfl (hran rfl)
     subst hrf
     have hr0 : 0 < rest.length:=by
       rcases Nat.eq_zero_or_pos rest.length with h | h
       . have:=List.eq_nil_of_length_eq_zero h
         subst this;exact absurd rfl (hlast (by simp))
       exact h
     have hz:=zerosOf_lt rest hr0 (hlast2 hr0);have hnum:=numberS_bits P (runBits (zerosOf rest) ++ (normBits left (zerosOf rest) rest ++ X)) 1 (left + 2) (by omega) (by omega) (by omega);have hm2:=mustS_ok (h:=((1 : Nat) : Int) - 1 != 0 || !false) 13 (P.length + (numBits 1 (left + 2)).length) (by rfl);have hng:=noughtsS_bits (sy - (pre.length + 1 : Nat)) (normBits left (zerosOf rest) rest ++ X) (zerosOf rest) 300 (P ++ numBits 1 (left + 2)) 0 (by omega) (by omega)
     have ih:=tableS_bits sy X k (rest.drop (zerosOf rest)) f left (pre ++ [0] ++ List.replicate (zerosOf rest) 0) true (P ++ numBits 1 (left + 2) ++ runBits (zerosOf rest))
       (by simp;omega) (by simp;omega) hl (by rw [<- sumZ_zeros];rw [sumZ_cons] at hs;simpa [absZ] using hs) (fun m hmm=>hall m (List.mem_cons_of_mem _ (List.mem_of_mem_drop hmm)))
       (fun _=>by
         rw [List.length_drop,List.getElem?_drop,show zerosOf rest + (rest.length - zerosOf rest - 1) = rest.length - 1 by omega]
         exact hlast2 hr0)
       (by simp;omega) (by simp;omega) (fun _=>by rw [List.head?_drop];exact zerosOf_stop rest)
     rw [normBits_zero];simp only [List.append_assoc] at hnum hng ih ⊢;rw [tableS_zero sy _ f left pre false ⟨P.length,0⟩ 1 _ hleft hm1 hnum (by rw [hm2]) (by rfl)];simp only [List.length_append] at hng ih ⊢;rw [hng];simp only [Nat.zero_add];rw [normBits_skip left (zerosOf rest) rest (zerosOf_le rest)];simp only [Nat.add_assoc,List.append_assoc] at ih ⊢;rw [ih,<- zeros_split];rfl
   have hnum:=numberS_bits P (normBits (left - n.natAbs) 0 rest ++ X) (n + 1).toNat (left + 2) (by omega) (by omega) hx;have hm2:=mustS_ok (h:=((n + 1).toNat : Int) - 1 != 0 || !ran) 13 (P.length + (numBits (n + 1).toNat (left + 2)).length) (by rw [hy1];simp [hn])
   have ih:=tableS_bits sy X k rest f (left - n.natAbs) (pre ++ [n]) false (P ++ numBits (n + 1).toNat (left + 2)) (by omega) (by omega) (by omega) (by omega)
     (fun m hmm=>hall m (List.mem_cons_of_mem _ hmm)) hlast2 (by simp;omega) (by omega) (by simp)
   rw [normBits_ne left n rest hn];simp only [List.append_assoc] at hnum ih ⊢;rw [tableS_ne sy _ f left pre ran ⟨P.length,0⟩ (n + 1).toNat _ hleft hm1 hnum (by rw [hm2]) (by omega),hy1];simp only [List.length_append] at ih ⊢;rw [ih];simp [Nat.add_assoc]
theorem readS_bits (sy lb : Int) (X : List Bool) (p : Nat) (N : List Int) (hv : Valid p N 256 9) (hp : p ≠ 0) (hsy : (N.length : Int)<=sy) (hlb : (p : Int)<=lb) :
   readS sy lb (descBits p N ++ X) = (p,N,⟨(descBits p N).length,0⟩):=by
 obtain ⟨v1,v2,v3,v4,v5,v6,v7,v8⟩:=hv;have hp9 : 2 ^ p<=2 ^ 9:=Nat.pow_le_pow_right (by omega) (by omega);have ht:=takeS_bits [] (normBits (2 ^ p) 0 N ++ X) 4 (p - 1) (by omega);have hm:=mustS_ok (h:=decide (((p - 1 : Nat) : Int) + 1<=min lb 9)) 13 4 (by simp;omega);have htb:=tableS_bits sy X N.length N 600 (2 ^ p) [] false (bitsB 4 (p - 1)) (Nat.le_refl _) (by omega) (by omega) (by rw [v8];simp) v7 (fun _=>v6) (by simpa using hsy) (by omega) (by simp);simp only [List.nil_append,List.length_nil,Nat.zero_add] at ht;simp only [List.nil_append,bitsB_length] at htb;unfold readS descBits;rw [List.append_assoc];simp only [ht,hm,if_true,show p - 1 + 1 = p by omega,htb,List.length_append,bitsB_length]
theorem takeS_stick {L : List Bool} {n : Nat} {σ : St} (h : σ.e ≠ 0) : (takeS L n σ).2 = σ:=by unfold takeS;rw [if_pos h]
theorem takeS_fr {L : List Bool} {n : Nat} {σ : St} (h : σ.fr<=L.length) : (takeS L n σ).2.fr<=L.length:=by
 unfold takeS;split
 . exact h
 split
 . assumption
 exact h
theorem mustS_fr {b : Bool} {e : Int} {σ : St} : (mustS b e σ).2.fr = σ.fr:=by
 unfold mustS;split
 . split <;> rfl
 rfl
theorem numberS_fr {L : List Bool} {m : Nat} {σ : St} (h : σ.fr<=L.length) : (numberS L m σ).2.fr<=L.length:=by
 unfold numberS;split
 . exact takeS_fr h
 exact takeS_fr (takeS_fr h)
theorem noughtsS_fr {room : Int} {L : List Bool} : ∀ {f k len : Nat} {σ : St},σ.fr<=L.length->(noughtsS room L f k len σ).2.fr<=L.length
 | 0,_,_,_,h=>h
 | f + 1,k,len,σ,h=>by
   unfold noughtsS
   split
   . split
     . exact noughtsS_fr (takeS_fr (by rw [mustS_fr];exact h))
     rw [mustS_fr];exact h
   exact h
theorem bitsB_zero : ∀ n,bitsB n 0 = List.replicate n false
 | 0=>rfl
 | n + 1=>by rw [List.replicate_succ,<- bitsB_zero n];rfl
theorem rowB_packB : ∀ (k : Nat) (l : List Bool),l.length<=k->rowB (packB l) = padB l
 | _,[],_=>by rfl
 | 0,_ :: _,h=>by simp at h
 | k + 1,b :: l,h=>by
   by_cases hs : (b :: l).length<=8
   . rw [packB_short _ (by simp) hs,rowB_cons,rowB_nil,List.append_nil]
     have h1:=bitsB_add (b :: l).length (8 - (b :: l).length) (valB (b :: l))
     rw [show (b :: l).length + (8 - (b :: l).length) = 8 by omega,bitsB_valB,Nat.div_eq_of_lt (valB_lt _),bitsB_zero] at h1
     rw [h1]
     unfold padB
     congr 2
     simp only [List.length_cons] at hs ⊢
     omega
   have h2 : (b :: l) = (b :: l).take 8 ++ (b :: l).drop 8:=(List.take_append_drop 8 _).symm
   have h3 : ((b :: l).take 8).length = 8:=by rw [List.length_take];omega
   have ih:=rowB_packB k ((b :: l).drop 8) (by rw [List.length_drop];simp only [List.length_cons] at h ⊢;omega)
   have h4 : rowB (packB (b :: l)) = (b :: l).take 8 ++ padB ((b :: l).drop 8):=by
     have h5:=packB_cons ((b :: l).take 8) ((b :: l).drop 8) h3;rw [<- h2] at h5;rw [h5,rowB_cons,ih];have:=bitsB_valB ((b :: l).take 8);rw [h3] at this;rw [this]
   rw [h4];unfold padB;rw [<- List.append_assoc,<- h2,List.length_drop]
   congr 2
   omega
theorem rowB_take (bs : List Nat) (k : Nat) : rowB (bs.take k) = (rowB bs).take (8 * k):=by
 (have h1 : rowB bs = rowB (bs.take k) ++ rowB (bs.drop k):=by rw [<- rowB_append,List.take_append_drop]);by_cases h : k<=bs.length
 . have hl : (rowB (bs.take k)).length = 8 * k:=by rw [rowB_length,List.length_take];omega
   rw [h1,List.take_append_of_le_length (by omega)];exact (List.take_of_length_le (by omega)).symm
 rw [List.take_of_length_le (by omega),List.take_of_length_le (by rw [rowB_length];omega)]
theorem desc_bytes_le {p : Nat} {N : List Int} (hv : Valid p N 256 9) : (packB (descBits p N)).length<=400:=by
 have:=descBits_length p N (by have:=hv.2.2.1;omega);have:=hv.2.2.2.2.1;rw [packB_length];omega
theorem valB_falses : ∀ n,valB (List.replicate n false) = 0
 | 0=>rfl
 | n + 1=>by
   have h:=valB_bitsB (n + 1) 0
   rw [bitsB_zero] at h
   simpa using h
theorem desc_row (D : List Bool) (B : List Nat) : rowB (packB D ++ B) = D ++ (List.replicate ((8 - D.length % 8) % 8) false ++ rowB B):=by
 rw [rowB_append,rowB_packB _ _ (Nat.le_refl _)];unfold padB;rw [List.append_assoc]
theorem desc_back {sy lb : Int} {p : Nat} {N : List Int} (hv : Valid p N 256 9) (hp : p ≠ 0) (hsy : (N.length : Int)<=sy) (hlb : (p : Int)<=lb) (B : List Nat) :
   decodeS sy lb (rowB (packB (descBits p N) ++ B)) = .ok (p,N,(packB (descBits p N)).length):=by
 have h256:=hv.2.2.2.2.1;have hr:=fun X=>readS_bits (min sy 256) lb X p N hv hp (by omega) hlb;rw [desc_row,packB_length];generalize descBits p N = D at *;unfold decodeS;simp only [hr];rw [if_neg (by simp)];have h1 : (D ++ (List.replicate ((8 - D.length % 8) % 8) false ++ rowB B)).drop D.length = List.replicate ((8 - D.length % 8) % 8) false ++ rowB B:=List.drop_left;rw [h1,List.take_append_of_le_length (by simp),List.take_of_length_le (by simp),valB_falses];rw [if_neg (by simp)]
 congr 3
 omega
def Seg (L : List Bool) (i j : Nat) (X : List Bool) : Prop:=i<=j/\j<=L.length/\L.take j = L.take i ++ X
theorem Seg.refl {L : List Bool} {i : Nat} (h : i<=L.length) : Seg L i i []:=⟨Nat.le_refl _,h,by simp⟩
theorem Seg.trans {L : List Bool} {i j k : Nat} {X Y : List Bool} (h : Seg L i j X) (g : Seg L j k Y) : Seg L i k (X ++ Y) :=
 ⟨Nat.le_trans h.1 g.1,g.2.1,by rw [g.2.2,h.2.2,List.append_assoc]⟩
theorem Seg.len {L : List Bool} {i j : Nat} {X : List Bool} (h : Seg L i j X) : j = i + X.length:=by
 obtain ⟨h1,h2,h3⟩:=h;have:=congrArg List.length h3;rw [List.length_take,List.length_append,List.length_take] at this;omega
theorem takeS_e {L : List Bool} {n : Nat} {σ : St} (h : (takeS L n σ).2.e = 0) : σ.e = 0:=by
 by_cases h1 : σ.e = 0
 . exact h1
 rw [takeS_stick h1] at h;exact h
theorem takeS_seg {L : List Bool} {n : Nat} {σ : St} (h : (takeS L n σ).2.e = 0) : Seg L σ.fr (takeS L n σ).2.fr (bitsB n (takeS L n σ).1):=by
 have h0:=takeS_e h;unfold takeS at h ⊢;rw [if_neg (by omega)] at h;rw [if_neg (by omega)];by_cases h2 : σ.fr + n<=L.length
 . rw [if_pos h2]
   (have hl : ((L.drop σ.fr).take n).length = n:=by rw [List.length_take,List.length_drop];omega);have:=bitsB_valB ((L.drop σ.fr).take n);rw [hl] at this;exact ⟨by simp,h2,by simp only;rw [this,List.take_add]⟩
 rw [if_neg h2] at h;simp at h
theorem numberS_seg {L : List Bool} {m : Nat} {σ : St} (h : (numberS L m σ).2.e = 0) : Seg L σ.fr (numberS L m σ).2.fr (numBits (numberS L m σ).1 m):=by
 unfold numberS at h ⊢;by_cases h1 : (takeS L (cutB m) σ).1 < cutU m
 . rw [if_pos h1] at h
   rw [if_pos h1];unfold numBits;rw [if_pos h1];exact takeS_seg h
 rw [if_neg h1] at h;rw [if_neg h1];have s1:=takeS_seg (takeS_e h);have s2:=takeS_seg h;have hc:=takeS_lt L 1 (takeS L (cutB m) σ).2;generalize takeS L (cutB m) σ = X at *;generalize takeS L 1 X.2 = Y at *;simp only;unfold numBits;rw [if_neg (by omega),show 2 * X.1 + Y.1 - cutU m + cutU m = 2 * X.1 + Y.1 by omega,show (2 * X.1 + Y.1) / 2 = X.1 by omega,<- bitsB_mod 1 (2 * X.1 + Y.1),show (2 * X.1 + Y.1) % 2 ^ 1 = Y.1 by omega];exact s1.trans s2
theorem runBits_three (z : Nat) : runBits (3 + z) = bitsB 2 3 ++ runBits z:=by
 unfold runBits;rw [show (3 + z) / 3 = z / 3 + 1 by omega,show (3 + z) % 3 = z % 3 by omega,List.replicate_succ,List.flatten_cons,List.append_assoc]
theorem runBits_small (z : Nat) (h : z < 3) : runBits z = bitsB 2 z:=by
 unfold runBits;rw [show z / 3 = 0 by omega,show z % 3 = z by omega];rfl
theorem mustS_false {h : Bool} {e : Int} {σ : St} (he : e ≠ 0) (h1 : (mustS h e σ).1 = false) : (mustS h e σ).2.e ≠ 0:=by
 unfold mustS at h1 ⊢;split at h1
 . split at h1
   . simp at h1
   rename_i h2 h3
   rw [if_pos h2,if_neg h3];exact he
 rename_i h2
 rw [if_neg h2];exact h2
theorem mustS_true_e {h : Bool} {e : Int} {σ : St} (h1 : (mustS h e σ).1 = true) : σ.e = 0:=by
 unfold mustS at h1;split at h1
 . assumption
 simp at h1
theorem noughtsS_last {room : Int} {L : List Bool} {f k len : Nat} {σ : St} (h : k ≠ 3) : noughtsS room L f k len σ = (len,σ):=by
 cases f with
 | zero=>rfl
 | succ f=>unfold noughtsS;rw [if_neg h]
theorem noughtsS_seg {room : Int} {L : List Bool} : ∀ (f len : Nat) (σ : St),0 < f->room<=(len : Int) + 3 * ((f : Int) - 1)->(noughtsS room L f 3 len σ).2.e = 0 ->
   ∃ z,(noughtsS room L f 3 len σ).1 = len + z/\Seg L σ.fr (noughtsS room L f 3 len σ).2.fr (runBits z)
 | 0,_,_,h,_,_=>absurd h (by omega)
 | f + 1,len,σ,_,hb,h=>by
   unfold noughtsS at h ⊢
   rw [if_pos rfl] at h
   rw [if_pos rfl]
   by_cases h2 : (mustS (decide ((len : Int) < room)) 13 σ).1 = true
   . rw [if_pos h2] at h
     rw [if_pos h2]
     obtain ⟨e1,e2⟩:=mustS_e h2
     rw [e1] at h ⊢
     have hlt : (len : Int) < room:=by simpa using e2
     have h4:=takeS_lt L 2 σ
     have hs:=takeS_seg (L:=L) (n:=2) (σ:=σ)
     generalize takeS L 2 σ = X at *
     obtain ⟨k,σ1⟩:=X
     simp only at h hs h4 ⊢
     by_cases hk : k = 3
     . subst hk
       obtain ⟨z,hz1,hz2⟩:=noughtsS_seg f (len + 3) σ1 (by omega) (by omega) h
       have he : σ1.e = 0:=by
         by_cases he : σ1.e = 0
         . exact he
         exact absurd (noughtsS_e h) he
       exact ⟨3 + z,by rw [hz1];omega,by rw [runBits_three];exact (hs he).trans hz2⟩
     rw [noughtsS_last hk] at h ⊢;exact ⟨k,rfl,by rw [runBits_small k (by omega)];exact hs h⟩
   rw [if_neg h2] at h;exact absurd h (mustS_false (by omega) (by simpa using h2))
where
  noughtsS_e {room : Int} {L : List Bool} : ∀ {f k len : Nat} {σ : St},(noughtsS room L f k len σ).2.e = 0->σ.e = 0
  | 0,_,_,_,h=>h
  | f + 1,k,len,σ,h=>by
    unfold noughtsS at h
    split at h
    . split at h
      . rename_i h2
        exact mustS_true_e h2
      . rename_i h2
        exact absurd h (mustS_false (by omega) (by simpa using h2))
    . exact h
theorem zerosOf_run (z : Nat) (l : List Int) (h : l.head? ≠ some 0) : zerosOf (List.replicate z 0 ++ l) = z:=by
 induction z with
 | zero =>
   cases l with
   | nil=>rfl
   | cons a l=>exact zerosOf_cons_ne a l (by simpa using h)
 | succ z ih=>rw [List.replicate_succ,List.cons_append,zerosOf_cons_zero,ih]
theorem last_append {l r : List Int} (h0 : r ≠ []) (h : r[r.length - 1]? ≠ some 0) : (l ++ r)[(l ++ r).length - 1]? ≠ some 0:=by
 have : 0 < r.length:=List.length_pos_iff.2 h0;rw [List.length_append,List.getElem?_append_right (by omega),show l.length + r.length - 1 - l.length = r.length - 1 by omega];exact h
theorem tableS_seg {sy : Int} {L : List Bool} (hsy : sy<=256) : ∀ (f left : Nat) (N : List Int) (ran : Bool) (σ : St),σ.fr<=L.length->left<=512->258<=f + min N.length 257->(left = 0->(N.length : Int)<=sy) ->
   σ.e = 0->(tableS sy L f left N ran σ).2.e = 0 ->
   ∃ rest,(tableS sy L f left N ran σ).1 = N ++ rest/\Seg L σ.fr (tableS sy L f left N ran σ).2.fr (normBits left 0 rest)/\sumZ rest = left/\(∀ n ∈ rest,-1<=n)/\((N ++ rest).length : Int)<=sy /\
     (0 < left->rest ≠ []/\rest[rest.length - 1]? ≠ some 0)/\(ran = true->rest.head? ≠ some 0)
 | 0,_,N,_,_,_,_,hf,_,_,_=>absurd hf (by omega)
 | f + 1,left,N,ran,σ,hfr,hL,hf,hz,h0,h=>by
   by_cases hleft : 0 < left
   . by_cases hm : (mustS (decide ((N.length : Int) < sy)) 13 σ).1 = true
     . have hlt : (N.length : Int) < sy:=by simpa using (mustS_e hm).2
       have hfN : ∀ z,258<=f + min (List.length (α:=Int) (N ++ [0] ++ List.replicate z 0)) 257:=fun z=>by
         have e : List.length (α:=Int) (N ++ [0] ++ List.replicate z 0) = N.length + (z + 1):=by simp
         rw [e];omega
       obtain ⟨Y,hY⟩:=nm_ (numberS L (left + 2) σ)
       have hyl:=numberS_lt L (left + 2) σ (by omega) (by omega)
       have hys:=numberS_seg (L:=L) (m:=left + 2) (σ:=σ)
       have hyf:=numberS_fr (L:=L) (m:=left + 2) (σ:=σ) hfr
       rw [<- hY] at hyl hys hyf
       obtain ⟨y,σ6⟩:=Y
       simp only at hyl hys hyf
       by_cases hm2 : (mustS ((y : Int) - 1 != 0 || !ran) 13 σ6).1 = true
       . have h6:=mustS_true_e hm2
         have hc:=(mustS_e hm2).2
         have hsg:=hys h6
         by_cases hn : (y : Int) - 1 = 0
         . have hy1 : y = 1:=by omega
           subst hy1
           rw [tableS_zero sy L f left N ran σ 1 σ6 hleft hm hY.symm hm2 hn] at h ⊢
           have hra : ran = false:=by simpa using hc
           have hno:=noughtsS_seg (room:=sy - (N.length + 1 : Nat)) (L:=L) 300 0 σ6 (by omega) (by omega)
           have hnf:=noughtsS_fr (room:=sy - (N.length + 1 : Nat)) (L:=L) (f:=300) (k:=3) (len:=0) (σ:=σ6) hyf
           generalize noughtsS (sy - (N.length + 1 : Nat)) L 300 3 0 σ6 = Z at *
           obtain ⟨z,σ7⟩:=Z
           simp only at h hno hnf ⊢
           have h7 : σ7.e = 0:=tableS_e h
           obtain ⟨z',hz1,hz2⟩:=hno h7
           rw [Nat.zero_add] at hz1
           subst hz1
           obtain ⟨rest,r1,r2,r3,r4,r5,r6,r7⟩:=tableS_seg hsy f left (N ++ [0] ++ List.replicate z 0) true σ7 hnf hL (hfN z) (by omega) h7 h
           have hzr:=zerosOf_run z rest (r7 rfl)
           refine ⟨0 :: (List.replicate z 0 ++ rest),?_,?_,?_,?_,?_,?_,?_⟩
           . rw [r1];simp
           . rw [normBits_zero,hzr,normBits_skip left z _ (by simp),List.drop_left' (by simp)]
             exact hsg.trans (hz2.trans r2)
           . rw [sumZ_cons,sumZ_zeros,hzr,List.drop_left' (by simp),r3]
             simp [absZ]
           . intro n hn
             rcases List.mem_cons.1 hn with hn | hn
             . omega
             rcases List.mem_append.1 hn with hn | hn
             . have:=(List.mem_replicate.1 hn).2;omega
             exact r4 n hn
           . simpa using r5
           . intro _
             obtain ⟨r61,r62⟩:=r6 hleft
             refine ⟨by simp,?_⟩
             have:=last_append (l:=0 :: List.replicate z 0) r61 r62
             simpa using this
           intro hr
           rw [hra] at hr
           cases hr
         rw [tableS_ne sy L f left N ran σ y σ6 hleft hm hY.symm hm2 hn] at h ⊢
         obtain ⟨rest,r1,r2,r3,r4,r5,r6,r7⟩:=tableS_seg hsy f (left - ((y : Int) - 1).natAbs) (N ++ [(y : Int) - 1]) false σ6 hyf (by omega) (by simp;omega) (by simp;omega) h6 h
         refine ⟨((y : Int) - 1) :: rest,?_,?_,?_,?_,?_,?_,?_⟩
         . rw [r1];simp
         . rw [normBits_ne _ _ _ hn,show ((y : Int) - 1 + 1).toNat = y by omega]
           exact hsg.trans r2
         . rw [sumZ_cons,r3]
           unfold absZ
           split <;> omega
         . intro n hn
           rcases List.mem_cons.1 hn with hn | hn
           . omega
           exact r4 n hn
         . simpa using r5
         . intro _
           refine ⟨by simp,?_⟩
           by_cases hl0 : 0 < left - ((y : Int) - 1).natAbs
           . obtain ⟨r61,r62⟩:=r6 hl0
             have:=last_append (l:=[(y : Int) - 1]) r61 r62
             simpa using this
           have hs0 : sumZ rest = 0:=by rw [r3];omega
           by_cases hre0 : rest = []
           . subst hre0
             simpa using hn
           exact absurd hs0 (by have:=tableS_rest0 (sy:=sy) (L:=L) f (N ++ [(y : Int) - 1]) false σ6 (left - ((y : Int) - 1).natAbs) (by omega) ;rw [this] at r1;simp at r1;exact absurd r1 hre0)
         intro _
         simpa using hn
       rw [tableS_stop sy L f left N ran σ y σ6 hleft hm hY.symm (by simpa using hm2)] at h
       exact absurd h (mustS_false (by omega) (by simpa using hm2))
     rw [tableS_fail sy L f left N ran σ hleft (by simpa using hm)] at h
     exact absurd h (mustS_false (by omega) (by simpa using hm))
   obtain rfl : left = 0:=by omega
   have e : tableS sy L (f + 1) 0 N ran σ = (N,σ):=by simp [tableS]
   rw [e]
   exact ⟨[],by simp,Seg.refl hfr,by simp [sumZ],by simp,by simpa using hz rfl,by omega,by simp⟩
where
  tableS_rest0 {sy : Int} {L : List Bool} (f : Nat) (N : List Int) (ran : Bool) (σ : St) (left : Nat) (h : left = 0) : (tableS sy L f left N ran σ).1 = N:=by
    subst h
    cases f with
    | zero=>rfl
    | succ f=>simp [tableS]
  tableS_e {sy : Int} {L : List Bool} : ∀ {f left : Nat} {N : List Int} {ran : Bool} {σ : St},(tableS sy L f left N ran σ).2.e = 0->σ.e = 0
  | 0,_,_,_,_,h=>h
  | f + 1,left,N,ran,σ,h=>by
    by_cases hleft : 0 < left
    . by_cases hm : (mustS (decide ((N.length : Int) < sy)) 13 σ).1 = true
      . exact mustS_true_e hm
      . rw [tableS_fail sy L f left N ran σ hleft (by simpa using hm)] at h
        exact absurd h (mustS_false (by omega) (by simpa using hm))
    . obtain rfl : left = 0:=by omega
      have e : tableS sy L (f + 1) 0 N ran σ = (N,σ):=by simp [tableS]
      rw [e] at h
      exact h
theorem readS_once {sy lb : Int} {L : List Bool} (hsy : sy<=256) {p : Nat} {N : List Int} {σ : St} (h : readS sy lb L = (p,N,σ)) (h0 : σ.e = 0) :
   Valid p N 256 9/\p ≠ 0/\(N.length : Int)<=sy/\(p : Int)<=lb/\Seg L 0 σ.fr (descBits p N):=by
 unfold readS at h;simp only at h;by_cases hm : (mustS (decide (((takeS L 4 ⟨0,0⟩).1 : Int) + 1<=min lb 9)) 13 (takeS L 4 ⟨0,0⟩).2).1 = true
 . rw [if_pos hm,(mustS_e hm).1] at h
   (have hlb : ((takeS L 4 ⟨0,0⟩).1 : Int) + 1<=min lb 9:=by simpa using (mustS_e hm).2);have h4:=mustS_true_e hm;have hs:=takeS_seg h4;have hfr : (takeS L 4 ⟨0,0⟩).2.fr<=L.length:=takeS_fr (by simp);generalize takeS L 4 ⟨0,0⟩ = X at *;obtain ⟨x,σ1⟩:=X;simp only at h hlb h4 hs hfr;injection h with hp h;have hx : 2 ^ (x + 1)<=512:=Nat.le_trans (Nat.pow_le_pow_right (n:=2) (by omega) (show x + 1<=9 by omega)) (by decide);have hx0:=Nat.two_pow_pos (x + 1);(have hT : (tableS sy L 600 (2 ^ (x + 1)) [] false σ1).2.e = 0:=by rw [h];exact h0);obtain ⟨rest,r1,r2,r3,r4,r5,r6,_⟩:=tableS_seg hsy 600 (2 ^ (x + 1)) [] false σ1 hfr hx (by simp) (by omega) h4 hT;rw [h] at r1 r2;simp only [List.nil_append] at r1 r2 r5;subst r1 hp;obtain ⟨r61,r62⟩:=r6 hx0;refine ⟨⟨by omega,by omega,by omega,List.length_pos_iff.2 r61,by omega,r62,r4,?_⟩,by omega,r5,by omega,?_⟩
   . rw [r3];simp
   unfold descBits;rw [show x + 1 - 1 = x by omega];exact hs.trans r2
 rw [if_neg hm] at h;injection h with hp h;injection h with hn h;rw [<- h] at h0;exact absurd h0 (mustS_false (by omega) (by simpa using hm))
theorem replicate_of_val {l : List Bool} (h : valB l = 0) : l = List.replicate l.length false:=by
 have:=bitsB_valB l;rw [h,bitsB_zero] at this;exact this.symm
theorem rowB_inj {a b : List Nat} (ha : ∀ x ∈ a,x < 256) (hb : ∀ x ∈ b,x < 256) (h : rowB a = rowB b) : a = b:=by
 have h1:=packB_rowB a [] ha;have h2:=packB_rowB b [] hb;rw [List.append_nil,packB_nil,List.append_nil] at h1 h2;rw [<- h1,<- h2,h]
theorem desc_once {sy lb : Int} {bs : List Nat} (hb : ∀ b ∈ bs,b < 256) {p k : Nat} {N : List Int} (h : decodeS sy lb (rowB bs) = .ok (p,N,k)) :
   Valid p N 256 9/\p ≠ 0/\(N.length : Int)<=sy/\(p : Int)<=lb/\k<=bs.length/\packB (descBits p N) = bs.take k:=by
 unfold decodeS at h;simp only at h;obtain ⟨q,M,σ,hr⟩ : ∃ q M σ,readS (min sy 256) lb (rowB bs) = (q,M,σ):=⟨_,_,_,rfl⟩;rw [hr] at h;simp only at h;by_cases he : σ.e ≠ 0
 . rw [if_pos he] at h;cases h
 rw [if_neg he] at h;by_cases hv : valB (((rowB bs).drop σ.fr).take ((8 - σ.fr % 8) % 8)) ≠ 0
 . rw [if_pos hv] at h;cases h
 rw [if_neg hv] at h;injection h with h;injection h with h1 h;injection h with h2 h3;subst h1 h2;(have he0 : σ.e = 0:=by omega);(have hv0 : valB (((rowB bs).drop σ.fr).take ((8 - σ.fr % 8) % 8)) = 0:=by omega);obtain ⟨o1,o2,o3,o4,o5⟩:=readS_once (by omega) hr he0;have hl:=o5.len;have hle:=o5.2.1;rw [rowB_length] at hle;refine ⟨o1,o2,by omega,o4,by omega,?_⟩;apply rowB_inj (packB_lt _) (fun x hx=>hb x (List.mem_of_mem_take hx));rw [rowB_packB _ _ (Nat.le_refl _),rowB_take];(have h8 : 8 * k = σ.fr + (8 - σ.fr % 8) % 8:=by omega);have hpad:=replicate_of_val hv0;rw [List.length_take,List.length_drop,rowB_length,Nat.min_eq_left (by omega)] at hpad;have h5:=o5.2.2;simp only [List.take_zero,List.nil_append] at h5;rw [h8,List.take_add,h5,hpad];unfold padB;rw [show σ.fr = (descBits q M).length by omega]
end Go.Proofs.YtjfdaphjijfieaaGreat
