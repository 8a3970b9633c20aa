/-
  Joined texts, part 1: contracts and plain lemmas.
  Conditions: none beyond those of each theorem.
-/

set_option linter.unusedVariables false
set_option linter.unusedSimpArgs false
set_option maxRecDepth 100000
universe u
namespace Go.Proofs.YtjfdaphjijfieaaGreat
def valB : List Bool->Nat
  | []=>0
  | b :: l=>b.toNat + 2 * valB l
def bitsB : Nat->Nat->List Bool
  | 0,_=>[]
  | n + 1,v=>(v % 2 == 1) :: bitsB n (v / 2)
def rowB (l : List Nat) : List Bool:=l.flatMap (bitsB 8)
def packB (l : List Bool) : List Nat:=(List.range ((l.length + 7) / 8)).map fun i=>valB l / 256 ^ i % 256
@[simp] theorem bitsB_length : ∀ n v,(bitsB n v).length = n
  | 0,_=>rfl
  | n + 1,v=>by simp [bitsB,bitsB_length n]
theorem toNat_mod_two (v : Nat) : (v % 2 == 1).toNat = v % 2:=by
 (rcases Nat.mod_two_eq_zero_or_one v with h | h <;> simp [h])
theorem valB_bitsB : ∀ n v,valB (bitsB n v) = v % 2 ^ n
 | 0,v=>by simp [bitsB,valB,Nat.mod_one]
 | n + 1,v=>by
   simp only [bitsB,valB,toNat_mod_two,valB_bitsB n]
   rw [Nat.pow_succ,Nat.mul_comm (2 ^ n) 2,Nat.mod_mul]
theorem valB_lt : ∀ l : List Bool,valB l < 2 ^ l.length
 | []=>by simp [valB]
 | b :: l=>by
   have:=valB_lt l
   simp only [valB,List.length_cons,Nat.pow_succ]
   have : b.toNat<=1:=by cases b <;> simp
   omega
theorem bitsB_valB : ∀ l : List Bool,bitsB l.length (valB l) = l
 | []=>rfl
 | b :: l=>by
   simp only [List.length_cons,bitsB,valB]
   have h1 : (b.toNat + 2 * valB l) % 2 = b.toNat:=by cases b <;> simp <;> omega
   have h2 : (b.toNat + 2 * valB l) / 2 = valB l:=by cases b <;> simp <;> omega
   rw [h1,h2,bitsB_valB l]
   cases b <;> rfl
theorem valB_append : ∀ a b : List Bool,valB (a ++ b) = valB a + 2 ^ a.length * valB b
 | [],b=>by simp [valB]
 | x :: a,b=>by
   simp only [List.cons_append,valB,valB_append a b,List.length_cons,Nat.pow_succ]
   rw [Nat.mul_add,<- Nat.mul_assoc,Nat.mul_comm 2 (2 ^ a.length)]
   omega
theorem valB_inj {a b : List Bool} (hl : a.length = b.length) (hv : valB a = valB b) : a = b:=by
 rw [<- bitsB_valB a,<- bitsB_valB b,hl,hv]
theorem bitsB_mod (n v : Nat) : bitsB n (v % 2 ^ n) = bitsB n v:=by
 apply valB_inj (by simp);simp [valB_bitsB]
theorem bitsB_add (m n v : Nat) : bitsB (m + n) v = bitsB m v ++ bitsB n (v / 2 ^ m):=by
 apply valB_inj (by simp);simp only [valB_append,valB_bitsB,bitsB_length];rw [Nat.pow_add,Nat.mod_mul]
theorem bitsB_append {m n a b : Nat} (ha : a < 2 ^ m) : bitsB m a ++ bitsB n b = bitsB (m + n) (a + 2 ^ m * b):=by
 rw [bitsB_add,Nat.add_mul_div_left _ _ (Nat.two_pow_pos m),Nat.div_eq_of_lt ha,Nat.zero_add]
 congr 1
 apply valB_inj (by simp);simp [valB_bitsB]
theorem rowB_nil : rowB [] = []:=rfl
theorem rowB_cons (b : Nat) (l : List Nat) : rowB (b :: l) = bitsB 8 b ++ rowB l:=by simp [rowB]
theorem rowB_append (a b : List Nat) : rowB (a ++ b) = rowB a ++ rowB b:=by simp [rowB]
@[simp] theorem rowB_length : ∀ l : List Nat,(rowB l).length = 8 * l.length
  | []=>rfl
  | b :: l=>by simp [rowB_cons,rowB_length l];omega
theorem valB_drop : ∀ (n : Nat) (l : List Bool),valB (l.drop n) = valB l / 2 ^ n
 | 0,l=>by simp
 | n + 1,[]=>by simp [valB]
 | n + 1,b :: l=>by
   simp only [List.drop_succ_cons,valB_drop n l,valB]
   have h2 : (b.toNat + 2 * valB l) / 2 = valB l:=by cases b <;> simp <;> omega
   rw [Nat.pow_succ,Nat.mul_comm (2 ^ n) 2,<- Nat.div_div_eq_div_mul,h2]
theorem valB_take (n : Nat) (l : List Bool) : valB (l.take n) = valB l % 2 ^ n:=by
 by_cases h : n<=l.length
 . have:=valB_append (l.take n) (l.drop n)
   rw [List.take_append_drop,List.length_take,Nat.min_eq_left h] at this;have hlt:=valB_lt (l.take n);rw [List.length_take,Nat.min_eq_left h] at hlt;rw [this,Nat.add_mul_mod_self_left,Nat.mod_eq_of_lt hlt]
 rw [List.take_of_length_le (by omega),Nat.mod_eq_of_lt];exact Nat.lt_of_lt_of_le (valB_lt l) (Nat.pow_le_pow_right (by omega) (by omega))
theorem packB_cons (a l : List Bool) (ha : a.length = 8) : packB (a ++ l) = valB a :: packB l:=by
 unfold packB;(have h : ((a ++ l).length + 7) / 8 = (l.length + 7) / 8 + 1:=by rw [List.length_append];omega);have hlt:=valB_lt a;rw [ha] at hlt;rw [h,List.range_succ_eq_map,List.map_cons,List.map_map,valB_append,ha]
 congr 1
 . simp;omega
 apply List.map_congr_left;intro i _;simp only [Function.comp];rw [show 256 ^ i.succ = 256 * 256 ^ i by rw [Nat.pow_succ,Nat.mul_comm],<- Nat.div_div_eq_div_mul]
 congr 2
 omega
theorem packB_nil : packB [] = []:=rfl
theorem packB_short (l : List Bool) (h0 : 0 < l.length) (h : l.length<=8) : packB l = [valB l]:=by
 unfold packB;rw [show (l.length + 7) / 8 = 1 by omega];have:=valB_lt l;have h2 : 2 ^ l.length<=2 ^ 8:=Nat.pow_le_pow_right (by omega) h;simp;omega
theorem packB_rowB : ∀ (bs : List Nat) (l : List Bool),(∀ b ∈ bs,b < 256)->packB (rowB bs ++ l) = bs ++ packB l
 | [],l,_=>rfl
 | b :: bs,l,h=>by
   rw [rowB_cons,List.append_assoc,packB_cons _ _ (by simp),packB_rowB bs l (fun x hx=>h x (List.mem_cons_of_mem _ hx)),valB_bitsB,Nat.mod_eq_of_lt (h b (by simp))]
   rfl
theorem packB_length (l : List Bool) : (packB l).length = (l.length + 7) / 8:=by simp [packB]
theorem packB_lt (l : List Bool) : ∀ b ∈ packB l,b < 256:=by
 intro b hb;obtain ⟨i,_,rfl⟩:=List.mem_map.1 hb;omega
def padB (l : List Bool) : List Bool:=l ++ List.replicate ((8 - l.length % 8) % 8) false
theorem rowB_drop : ∀ (bs : List Nat) (j : Nat),(rowB bs).drop (8 * j) = rowB (bs.drop j)
 | bs,0=>by simp
 | [],j + 1=>by simp [rowB]
 | b :: bs,j + 1=>by
   rw [rowB_cons,List.drop_succ_cons,<- rowB_drop bs j,List.drop_append,show 8 * (j + 1) - (bitsB 8 b).length = 8 * j by simp;omega,List.drop_of_length_le (by simp;omega)]
   rfl
def valR (bs : List Nat) : Nat:=valB (rowB bs)
theorem valR_byte (bs : List Nat) (hb : ∀ b ∈ bs,b < 256) (j : Nat) (hj : j < bs.length) : valR bs / 2 ^ (8 * j) % 2 ^ 8 = bs[j]:=by
 unfold valR;rw [<- valB_drop,<- valB_take,rowB_drop,List.drop_eq_getElem_cons hj,rowB_cons,List.take_append_of_le_length (by simp),List.take_of_length_le (by simp),valB_bitsB,Nat.mod_eq_of_lt (hb _ (List.getElem_mem hj))]
theorem byte_part (N j s k : Nat) (h : s + k<=8) : N / 2 ^ (8 * j) % 2 ^ 8 / 2 ^ s % 2 ^ k = N / 2 ^ (8 * j + s) % 2 ^ k:=by
 rw [Nat.pow_add,<- Nat.div_div_eq_div_mul];generalize N / 2 ^ (8 * j) = M;rw [show 8 = s + (8 - s) by omega,Nat.pow_add,Nat.mod_mul_right_div_self,Nat.mod_mod_of_dvd _ (Nat.pow_dvd_pow 2 (by omega))]
theorem mod_pow_add (N q k : Nat) : N % 2 ^ (q + k) = N % 2 ^ q + N / 2 ^ q % 2 ^ k * 2 ^ q:=by
 rw [Nat.pow_add,Nat.mod_mul,Nat.mul_comm]
theorem valR_part (bs : List Nat) (a n : Nat) : valB (((rowB bs).drop a).take n) = valR bs / 2 ^ a % 2 ^ n:=by
 rw [valB_take,valB_drop];rfl
end Go.Proofs.YtjfdaphjijfieaaGreat
