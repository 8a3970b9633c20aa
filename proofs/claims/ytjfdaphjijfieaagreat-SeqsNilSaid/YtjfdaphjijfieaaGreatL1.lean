/-
  Joined texts, part 1: contracts and plain lemmas.
  Conditions: none beyond those of each theorem.
-/

set_option linter.unusedVariables false
set_option linter.unusedSimpArgs false
set_option maxRecDepth 100000
universe u
namespace Go.Proofs.YtjfdaphjijfieaaGreat
def QU:List Bool->Nat
  | []=>0
  | b::l=>b.toNat+2*QU l
def Qf:Nat->Nat->List Bool
  | 0,_=>[]
  | n+1,v=>(v%2 == 1)::Qf n (v / 2)
def Qi (l:List Nat):List Bool:=l.flatMap (Qf 8)
def QN (l:List Bool):List Nat:=(List.range ((l.length+7) / 8)).map fun i=>QU l / 256^i%256
@[simp] theorem YK:∀n v,(Qf n v).length=n
  | 0,_=>rfl
  | n+1,v=>by simp [Qf,YK n]
theorem Q2v (v:Nat):(v%2 == 1).toNat=v%2:=by
 (rcases Nat.mod_two_eq_zero_or_one v with h|h<;>simp [h])
theorem YU:∀n v,QU (Qf n v)=v%2^n
 | 0,v=>by simp [Qf,QU,Nat.mod_one]
 | n+1,v=>by
   simp only [Qf,QU,Q2v,YU n]
   rw [Nat.pow_succ,Nat.mul_comm (2^n) 2,Nat.mod_mul]
theorem JQ:∀l:List Bool,QU l<2^l.length
 | []=>by simp [QU]
 | b::l=>by
   have:=JQ l
   simp only [QU,List.length_cons,Nat.pow_succ]
   have:b.toNat<=1:=by cases b<;>simp
   omega
theorem JI:∀l:List Bool,Qf l.length (QU l)=l
 | []=>rfl
 | b::l=>by
   simp only [List.length_cons,Qf,QU]
   have h1:(b.toNat+2*QU l)%2=b.toNat:=by cases b<;>simp<;>omega
   have h2:(b.toNat+2*QU l) / 2=QU l:=by cases b<;>simp<;>omega
   rw [h1,h2,JI l]
   cases b<;>rfl
theorem Jg:∀a b:List Bool,QU (a++b)=QU a+2^a.length*QU b
 | [],b=>by simp [QU]
 | x::a,b=>by
   simp only [List.cons_append,QU,Jg a b,List.length_cons,Nat.pow_succ]
   rw [Nat.mul_add,<-Nat.mul_assoc,Nat.mul_comm 2 (2^a.length)]
   omega
theorem Q0R {a b:List Bool} (hl:a.length=b.length) (hv:QU a=QU b):a=b:=by
 rw [<-JI a,<-JI b,hl,hv]
theorem KM (n v:Nat):Qf n (v%2^n)=Qf n v:=by
 apply Q0R (by simp);simp [YU]
theorem Vt (m n v:Nat):Qf (m+n) v=Qf m v++Qf n (v / 2^m):=by
 apply Q0R (by simp);simp only [Jg,YU,YK];rw [Nat.pow_add,Nat.mod_mul]
theorem Q2L {m n a b:Nat} (ha:a<2^m):Qf m a++Qf n b=Qf (m+n) (a+2^m*b):=by
 rw [Vt,Nat.add_mul_div_left _ _ (Nat.two_pow_pos m),Nat.div_eq_of_lt ha,Nat.zero_add]
 congr 1
 apply Q0R (by simp);simp [YU]
theorem Q0S:Qi []=[]:=rfl
theorem JJ (b:Nat) (l:List Nat):Qi (b::l)=Qf 8 b++Qi l:=by simp [Qi]
theorem KD (a b:List Nat):Qi (a++b)=Qi a++Qi b:=by simp [Qi]
@[simp] theorem ZU:∀l:List Nat,(Qi l).length=8*l.length
  | []=>rfl
  | b::l=>by simp [JJ,ZU l];omega
theorem XE:∀(n:Nat) (l:List Bool),QU (l.drop n)=QU l / 2^n
 | 0,l=>by simp
 | n+1,[]=>by simp [QU]
 | n+1,b::l=>by
   simp only [List.drop_succ_cons,XE n l,QU]
   have h2:(b.toNat+2*QU l) / 2=QU l:=by cases b<;>simp<;>omega
   rw [Nat.pow_succ,Nat.mul_comm (2^n) 2,<-Nat.div_div_eq_div_mul,h2]
theorem Q1Y (n:Nat) (l:List Bool):QU (l.take n)=QU l%2^n:=by
 by_cases h:n<=l.length
 . have:=Jg (l.take n) (l.drop n)
   rw [List.take_append_drop,List.length_take,Nat.min_eq_left h]at this;have hlt:=JQ (l.take n);rw [List.length_take,Nat.min_eq_left h]at hlt;rw [this,Nat.add_mul_mod_self_left,Nat.mod_eq_of_lt hlt]
 rw [List.take_of_length_le (by omega),Nat.mod_eq_of_lt];exact Nat.lt_of_lt_of_le (JQ l) (Nat.pow_le_pow_right (by omega) (by omega))
theorem Q1h (a l:List Bool) (ha:a.length=8):QN (a++l)=QU a::QN l:=by
 unfold QN;(have h:((a++l).length+7) / 8=(l.length+7) / 8+1:=by rw [List.length_append];omega);have hlt:=JQ a;rw [ha]at hlt;rw [h,List.range_succ_eq_map,List.map_cons,List.map_map,Jg,ha]
 congr 1
 . simp;omega
 apply List.map_congr_left;intro i _;simp only [Function.comp];rw [show 256^i.succ=256*256^i by rw [Nat.pow_succ,Nat.mul_comm],<-Nat.div_div_eq_div_mul]
 congr 2
 omega
theorem Q1Z:QN []=[]:=rfl
theorem VC (l:List Bool) (h0:0<l.length) (h:l.length<=8):QN l=[QU l]:=by
 unfold QN;rw [show(l.length+7) / 8=1 by omega];have:=JQ l;have h2:2^l.length<=2^8:=Nat.pow_le_pow_right (by omega) h;simp;omega
theorem Kh:∀(bs:List Nat) (l:List Bool),(∀b∈bs,b<256)->QN (Qi bs++l)=bs++QN l
 | [],l,_=>rfl
 | b::bs,l,h=>by
   rw [JJ,List.append_assoc,Q1h _ _ (by simp),Kh bs l (fun x hx=>h x (List.mem_cons_of_mem _ hx)),YU,Nat.mod_eq_of_lt (h b (by simp))]
   rfl
theorem Zm (l:List Bool):(QN l).length=(l.length+7) / 8:=by simp [QN]
theorem Q0T (l:List Bool):∀b∈QN l,b<256:=by
 intro b hb;obtain⟨i,_,rfl⟩:=List.mem_map.1 hb;omega
def Q1D (l:List Bool):List Bool:=l++List.replicate ((8-l.length%8)%8) false
theorem Q20:∀(bs:List Nat) (j:Nat),(Qi bs).drop (8*j)=Qi (bs.drop j)
 | bs,0=>by simp
 | [],j+1=>by simp [Qi]
 | b::bs,j+1=>by
   rw [JJ,List.drop_succ_cons,<-Q20 bs j,List.drop_append,show 8*(j+1)-(Qf 8 b).length=8*j by simp;omega,List.drop_of_length_le (by simp;omega)]
   rfl
def Qu (bs:List Nat):Nat:=QU (Qi bs)
theorem Q5T (bs:List Nat) (hb:∀b∈bs,b<256) (j:Nat) (hj:j<bs.length):Qu bs / 2^(8*j)%2^8=bs[j]:=by
 unfold Qu;rw [<-XE,<-Q1Y,Q20,List.drop_eq_getElem_cons hj,JJ,List.take_append_of_le_length (by simp),List.take_of_length_le (by simp),YU,Nat.mod_eq_of_lt (hb _ (List.getElem_mem hj))]
theorem Q5U (N j s k:Nat) (h:s+k<=8):N / 2^(8*j)%2^8 / 2^s%2^k=N / 2^(8*j+s)%2^k:=by
 rw [Nat.pow_add,<-Nat.div_div_eq_div_mul];generalize N / 2^(8*j)=M;rw [show 8=s+(8-s) by omega,Nat.pow_add,Nat.mod_mul_right_div_self,Nat.mod_mod_of_dvd _ (Nat.pow_dvd_pow 2 (by omega))]
theorem Q3F (N q k:Nat):N%2^(q+k)=N%2^q+N / 2^q%2^k*2^q:=by
 rw [Nat.pow_add,Nat.mod_mul,Nat.mul_comm]
theorem XF (bs:List Nat) (a n:Nat):QU (((Qi bs).drop a).take n)=Qu bs / 2^a%2^n:=by
 rw [Q1Y,XE];rfl
end Go.Proofs.YtjfdaphjijfieaaGreat
