/-
  Joined texts, part 1: contracts and plain lemmas.
  Conditions: none beyond those of each theorem.
-/

set_option linter.unusedVariables false
set_option linter.unusedSimpArgs false
set_option maxRecDepth 100000
universe u
namespace Go.Proofs.YtjfdaphjijfieaaGreat
def QE:List Bool->Nat
  | []=>0
  | b::l=>b.toNat+2*QE l
def QD:Nat->Nat->List Bool
  | 0,_=>[]
  | n+1,v=>(v%2 == 1)::QD n (v / 2)
def Q9 (l:List Nat):List Bool:=l.flatMap (QD 8)
def Js (l:List Bool):List Nat:=(List.range ((l.length+7) / 8)).map fun i=>QE l / 256^i%256
@[simp] theorem ZC:∀n v,(QD n v).length=n
  | 0,_=>rfl
  | n+1,v=>by simp [QD,ZC n]
theorem Q02 (v:Nat):(v%2 == 1).toNat=v%2:=by
 (rcases Nat.mod_two_eq_zero_or_one v with h|h<;>simp [h])
theorem Jt:∀n v,QE (QD n v)=v%2^n
 | 0,v=>by simp [QD,QE,Nat.mod_one]
 | n+1,v=>by
   simp only [QD,QE,Q02,Jt n]
   rw [Nat.pow_succ,Nat.mul_comm (2^n) 2,Nat.mod_mul]
theorem JN:∀l:List Bool,QE l<2^l.length
 | []=>by simp [QE]
 | b::l=>by
   have:=JN l
   simp only [QE,List.length_cons,Nat.pow_succ]
   have:b.toNat<=1:=by cases b<;>simp
   omega
theorem J9:∀l:List Bool,QD l.length (QE l)=l
 | []=>rfl
 | b::l=>by
   simp only [List.length_cons,QD,QE]
   have h1:(b.toNat+2*QE l)%2=b.toNat:=by cases b<;>simp<;>omega
   have h2:(b.toNat+2*QE l) / 2=QE l:=by cases b<;>simp<;>omega
   rw [h1,h2,J9 l]
   cases b<;>rfl
theorem Z9:∀a b:List Bool,QE (a++b)=QE a+2^a.length*QE b
 | [],b=>by simp [QE]
 | x::a,b=>by
   simp only [List.cons_append,QE,Z9 a b,List.length_cons,Nat.pow_succ]
   rw [Nat.mul_add,<-Nat.mul_assoc,Nat.mul_comm 2 (2^a.length)]
   omega
theorem Q0h {a b:List Bool} (hl:a.length=b.length) (hv:QE a=QE b):a=b:=by
 rw [<-J9 a,<-J9 b,hl,hv]
theorem Q2X (n v:Nat):QD n (v%2^n)=QD n v:=by
 apply Q0h (by simp);simp [Jt]
theorem Xv (m n v:Nat):QD (m+n) v=QD m v++QD n (v / 2^m):=by
 apply Q0h (by simp);simp only [Z9,Jt,ZC];rw [Nat.pow_add,Nat.mod_mul]
theorem Q0i:Q9 []=[]:=rfl
theorem Jl (b:Nat) (l:List Nat):Q9 (b::l)=QD 8 b++Q9 l:=by simp [Q9]
theorem ZU (a b:List Nat):Q9 (a++b)=Q9 a++Q9 b:=by simp [Q9]
@[simp] theorem Yj:∀l:List Nat,(Q9 l).length=8*l.length
  | []=>rfl
  | b::l=>by simp [Jl,Yj l];omega
theorem KK:∀(n:Nat) (l:List Bool),QE (l.drop n)=QE l / 2^n
 | 0,l=>by simp
 | n+1,[]=>by simp [QE]
 | n+1,b::l=>by
   simp only [List.drop_succ_cons,KK n l,QE]
   have h2:(b.toNat+2*QE l) / 2=QE l:=by cases b<;>simp<;>omega
   rw [Nat.pow_succ,Nat.mul_comm (2^n) 2,<-Nat.div_div_eq_div_mul,h2]
theorem Xw (n:Nat) (l:List Bool):QE (l.take n)=QE l%2^n:=by
 by_cases h:n<=l.length
 . have:=Z9 (l.take n) (l.drop n)
   rw [List.take_append_drop,List.length_take,Nat.min_eq_left h]at this;have hlt:=JN (l.take n);rw [List.length_take,Nat.min_eq_left h]at hlt;rw [this,Nat.add_mul_mod_self_left,Nat.mod_eq_of_lt hlt]
 rw [List.take_of_length_le (by omega),Nat.mod_eq_of_lt];exact Nat.lt_of_lt_of_le (JN l) (Nat.pow_le_pow_right (by omega) (by omega))
theorem VN (a l:List Bool) (ha:a.length=8):Js (a++l)=QE a::Js l:=by
 unfold Js;(have h:((a++l).length+7) / 8=(l.length+7) / 8+1:=by rw [List.length_append];omega);have hlt:=JN a;rw [ha]at hlt;rw [h,List.range_succ_eq_map,List.map_cons,List.map_map,Z9,ha]
 congr 1
 . simp;omega
 apply List.map_congr_left;intro i _;simp only [Function.comp];rw [show 256^i.succ=256*256^i by rw [Nat.pow_succ,Nat.mul_comm],<-Nat.div_div_eq_div_mul]
 congr 2
 omega
theorem Q2Y:Js []=[]:=rfl
theorem Q16 (l:List Bool) (h0:0<l.length) (h:l.length<=8):Js l=[QE l]:=by
 unfold Js;rw [show(l.length+7) / 8=1 by omega];have:=JN l;have h2:2^l.length<=2^8:=Nat.pow_le_pow_right (by omega) h;simp;omega
theorem Kg:∀(bs:List Nat) (l:List Bool),(∀b∈bs,b<256)->Js (Q9 bs++l)=bs++Js l
 | [],l,_=>rfl
 | b::bs,l,h=>by
   rw [Jl,List.append_assoc,VN _ _ (by simp),Kg bs l (fun x hx=>h x (List.mem_cons_of_mem _ hx)),Jt,Nat.mod_eq_of_lt (h b (by simp))]
   rfl
theorem Q3Y (l:List Bool):∀b∈Js l,b<256:=by
 intro b hb;obtain⟨i,_,rfl⟩:=List.mem_map.1 hb;omega
def Q0j (l:List Bool):List Bool:=l++List.replicate ((8-l.length%8)%8) false
theorem Xx:∀(bs:List Nat) (j:Nat),(Q9 bs).drop (8*j)=Q9 (bs.drop j)
 | bs,0=>by simp
 | [],j+1=>by simp [Q9]
 | b::bs,j+1=>by
   rw [Jl,List.drop_succ_cons,<-Xx bs j,List.drop_append,show 8*(j+1)-(QD 8 b).length=8*j by simp;omega,List.drop_of_length_le (by simp;omega)]
   rfl
def Q8 (bs:List Nat):Nat:=QE (Q9 bs)
theorem Q2Z (bs:List Nat) (hb:∀b∈bs,b<256) (j:Nat) (hj:j<bs.length):Q8 bs / 2^(8*j)%2^8=bs[j]:=by
 unfold Q8;rw [<-KK,<-Xw,Xx,List.drop_eq_getElem_cons hj,Jl,List.take_append_of_le_length (by simp),List.take_of_length_le (by simp),Jt,Nat.mod_eq_of_lt (hb _ (List.getElem_mem hj))]
theorem Q30 (N j s k:Nat) (h:s+k<=8):N / 2^(8*j)%2^8 / 2^s%2^k=N / 2^(8*j+s)%2^k:=by
 rw [Nat.pow_add,<-Nat.div_div_eq_div_mul];generalize N / 2^(8*j)=M;rw [show 8=s+(8-s) by omega,Nat.pow_add,Nat.mod_mul_right_div_self,Nat.mod_mod_of_dvd _ (Nat.pow_dvd_pow 2 (by omega))]
theorem Q17 (N q k:Nat):N%2^(q+k)=N%2^q+N / 2^q%2^k*2^q:=by
 rw [Nat.pow_add,Nat.mod_mul,Nat.mul_comm]
theorem ZK (bs:List Nat) (a n:Nat):QE (((Q9 bs).drop a).take n)=Q8 bs / 2^a%2^n:=by
 rw [Xw,KK];rfl
end Go.Proofs.YtjfdaphjijfieaaGreat
