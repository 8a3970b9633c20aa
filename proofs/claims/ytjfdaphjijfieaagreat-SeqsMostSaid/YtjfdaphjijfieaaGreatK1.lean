/-
  Joined texts, part 1: contracts and plain lemmas.
  Conditions: none beyond those of each theorem.
-/

set_option linter.unusedVariables false
set_option linter.unusedSimpArgs false
set_option maxRecDepth 100000
universe u
namespace Go.Proofs.YtjfdaphjijfieaaGreat
def Y7:List Bool->Nat
  | []=>0
  | b::l=>b.toNat+2*Y7 l
def Qj:Nat->Nat->List Bool
  | 0,_=>[]
  | n+1,v=>(v%2 == 1)::Qj n (v / 2)
def Qm (l:List Nat):List Bool:=l.flatMap (Qj 8)
def QL (l:List Bool):List Nat:=(List.range ((l.length+7) / 8)).map fun i=>Y7 l / 256^i%256
@[simp] theorem YS:∀n v,(Qj n v).length=n
  | 0,_=>rfl
  | n+1,v=>by simp [Qj,YS n]
theorem Q3b (v:Nat):(v%2 == 1).toNat=v%2:=by
 (rcases Nat.mod_two_eq_zero_or_one v with h|h<;>simp [h])
theorem J7:∀n v,Y7 (Qj n v)=v%2^n
 | 0,v=>by simp [Qj,Y7,Nat.mod_one]
 | n+1,v=>by
   simp only [Qj,Y7,Q3b,J7 n]
   rw [Nat.pow_succ,Nat.mul_comm (2^n) 2,Nat.mod_mul]
theorem Z9:∀l:List Bool,Y7 l<2^l.length
 | []=>by simp [Y7]
 | b::l=>by
   have:=Z9 l
   simp only [Y7,List.length_cons,Nat.pow_succ]
   have:b.toNat<=1:=by cases b<;>simp
   omega
theorem JY:∀l:List Bool,Qj l.length (Y7 l)=l
 | []=>rfl
 | b::l=>by
   simp only [List.length_cons,Qj,Y7]
   have h1:(b.toNat+2*Y7 l)%2=b.toNat:=by cases b<;>simp<;>omega
   have h2:(b.toNat+2*Y7 l) / 2=Y7 l:=by cases b<;>simp<;>omega
   rw [h1,h2,JY l]
   cases b<;>rfl
theorem Jo:∀a b:List Bool,Y7 (a++b)=Y7 a+2^a.length*Y7 b
 | [],b=>by simp [Y7]
 | x::a,b=>by
   simp only [List.cons_append,Y7,Jo a b,List.length_cons,Nat.pow_succ]
   rw [Nat.mul_add,<-Nat.mul_assoc,Nat.mul_comm 2 (2^a.length)]
   omega
theorem Q1i {a b:List Bool} (hl:a.length=b.length) (hv:Y7 a=Y7 b):a=b:=by
 rw [<-JY a,<-JY b,hl,hv]
theorem Vf (n v:Nat):Qj n (v%2^n)=Qj n v:=by
 apply Q1i (by simp);simp [J7]
theorem VS (m n v:Nat):Qj (m+n) v=Qj m v++Qj n (v / 2^m):=by
 apply Q1i (by simp);simp only [Jo,J7,YS];rw [Nat.pow_add,Nat.mod_mul]
theorem Q3p {m n a b:Nat} (ha:a<2^m):Qj m a++Qj n b=Qj (m+n) (a+2^m*b):=by
 rw [VS,Nat.add_mul_div_left _ _ (Nat.two_pow_pos m),Nat.div_eq_of_lt ha,Nat.zero_add]
 congr 1
 apply Q1i (by simp);simp [J7]
theorem Q1j:Qm []=[]:=rfl
theorem JZ (b:Nat) (l:List Nat):Qm (b::l)=Qj 8 b++Qm l:=by simp [Qm]
theorem V0 (a b:List Nat):Qm (a++b)=Qm a++Qm b:=by simp [Qm]
@[simp] theorem Kk:∀l:List Nat,(Qm l).length=8*l.length
  | []=>rfl
  | b::l=>by simp [JZ,Kk l];omega
theorem Q0b:∀(n:Nat) (l:List Bool),Y7 (l.drop n)=Y7 l / 2^n
 | 0,l=>by simp
 | n+1,[]=>by simp [Y7]
 | n+1,b::l=>by
   simp only [List.drop_succ_cons,Q0b n l,Y7]
   have h2:(b.toNat+2*Y7 l) / 2=Y7 l:=by cases b<;>simp<;>omega
   rw [Nat.pow_succ,Nat.mul_comm (2^n) 2,<-Nat.div_div_eq_div_mul,h2]
theorem Q2w (n:Nat) (l:List Bool):Y7 (l.take n)=Y7 l%2^n:=by
 by_cases h:n<=l.length
 . have:=Jo (l.take n) (l.drop n)
   rw [List.take_append_drop,List.length_take,Nat.min_eq_left h]at this;have hlt:=Z9 (l.take n);rw [List.length_take,Nat.min_eq_left h]at hlt;rw [this,Nat.add_mul_mod_self_left,Nat.mod_eq_of_lt hlt]
 rw [List.take_of_length_le (by omega),Nat.mod_eq_of_lt];exact Nat.lt_of_lt_of_le (Z9 l) (Nat.pow_le_pow_right (by omega) (by omega))
theorem Q1I (a l:List Bool) (ha:a.length=8):QL (a++l)=Y7 a::QL l:=by
 unfold QL;(have h:((a++l).length+7) / 8=(l.length+7) / 8+1:=by rw [List.length_append];omega);have hlt:=Z9 a;rw [ha]at hlt;rw [h,List.range_succ_eq_map,List.map_cons,List.map_map,Jo,ha]
 congr 1
 . simp;omega
 apply List.map_congr_left;intro i _;simp only [Function.comp];rw [show 256^i.succ=256*256^i by rw [Nat.pow_succ,Nat.mul_comm],<-Nat.div_div_eq_div_mul]
 congr 2
 omega
theorem Q2x:QL []=[]:=rfl
theorem X8 (l:List Bool) (h0:0<l.length) (h:l.length<=8):QL l=[Y7 l]:=by
 unfold QL;rw [show(l.length+7) / 8=1 by omega];have:=Z9 l;have h2:2^l.length<=2^8:=Nat.pow_le_pow_right (by omega) h;simp;omega
theorem Kz:∀(bs:List Nat) (l:List Bool),(∀b∈bs,b<256)->QL (Qm bs++l)=bs++QL l
 | [],l,_=>rfl
 | b::bs,l,h=>by
   rw [JZ,List.append_assoc,Q1I _ _ (by simp),Kz bs l (fun x hx=>h x (List.mem_cons_of_mem _ hx)),J7,Nat.mod_eq_of_lt (h b (by simp))]
   rfl
theorem Za (l:List Bool):(QL l).length=(l.length+7) / 8:=by simp [QL]
theorem Q1k (l:List Bool):∀b∈QL l,b<256:=by
 intro b hb;obtain⟨i,_,rfl⟩:=List.mem_map.1 hb;omega
def Q1l (l:List Bool):List Bool:=l++List.replicate ((8-l.length%8)%8) false
theorem Q2y:∀(bs:List Nat) (j:Nat),(Qm bs).drop (8*j)=Qm (bs.drop j)
 | bs,0=>by simp
 | [],j+1=>by simp [Qm]
 | b::bs,j+1=>by
   rw [JZ,List.drop_succ_cons,<-Q2y bs j,List.drop_append,show 8*(j+1)-(Qj 8 b).length=8*j by simp;omega,List.drop_of_length_le (by simp;omega)]
   rfl
def QA (bs:List Nat):Nat:=Y7 (Qm bs)
theorem Q6J (bs:List Nat) (hb:∀b∈bs,b<256) (j:Nat) (hj:j<bs.length):QA bs / 2^(8*j)%2^8=bs[j]:=by
 unfold QA;rw [<-Q0b,<-Q2w,Q2y,List.drop_eq_getElem_cons hj,JZ,List.take_append_of_le_length (by simp),List.take_of_length_le (by simp),J7,Nat.mod_eq_of_lt (hb _ (List.getElem_mem hj))]
theorem Q6K (N j s k:Nat) (h:s+k<=8):N / 2^(8*j)%2^8 / 2^s%2^k=N / 2^(8*j+s)%2^k:=by
 rw [Nat.pow_add,<-Nat.div_div_eq_div_mul];generalize N / 2^(8*j)=M;rw [show 8=s+(8-s) by omega,Nat.pow_add,Nat.mod_mul_right_div_self,Nat.mod_mod_of_dvd _ (Nat.pow_dvd_pow 2 (by omega))]
theorem Q4q (N q k:Nat):N%2^(q+k)=N%2^q+N / 2^q%2^k*2^q:=by
 rw [Nat.pow_add,Nat.mod_mul,Nat.mul_comm]
theorem Q0c (bs:List Nat) (a n:Nat):Y7 (((Qm bs).drop a).take n)=QA bs / 2^a%2^n:=by
 rw [Q2w,Q0b];rfl
end Go.Proofs.YtjfdaphjijfieaaGreat
