/-
  Joined texts, part 1: contracts and plain lemmas.
  Conditions: none beyond those of each theorem.
-/

set_option linter.unusedVariables false
set_option linter.unusedSimpArgs false
set_option linter.unnecessarySimpa false
set_option maxRecDepth 100000
universe u
namespace Go.Proofs.YtckjdhaflokcgaaGreat
def QI:List Bool->Nat
  | []=>0
  | b::l=>b.toNat+2*QI l
def Qm:Nat->Nat->List Bool
  | 0,_=>[]
  | n+1,v=>(v%2 == 1)::Qm n (v / 2)
def Yr (l:List Nat):List Bool:=l.flatMap (Qm 8)
def QT (l:List Bool):List Nat:=(List.range ((l.length+7) / 8)).map fun i=>QI l / 256^i%256
@[simp] theorem JS:∀n v,(Qm n v).length=n
  | 0,_=>rfl
  | n+1,v=>by simp [Qm,JS n]
theorem KL (v:Nat):(v%2 == 1).toNat=v%2:=by
 (rcases Nat.mod_two_eq_zero_or_one v with h|h<;>simp [h])
theorem Yk:∀n v,QI (Qm n v)=v%2^n
 | 0,v=>by simp [Qm,QI,Nat.mod_one]
 | n+1,v=>by
   simp only [Qm,QI,KL,Yk n]
   rw [Nat.pow_succ,Nat.mul_comm (2^n) 2,Nat.mod_mul]
theorem Jo:∀l:List Bool,QI l<2^l.length
 | []=>by simp [QI]
 | b::l=>by
   have:=Jo l
   simp only [QI,List.length_cons,Nat.pow_succ]
   have:b.toNat<=1:=by cases b<;>simp
   omega
theorem Jv:∀l:List Bool,Qm l.length (QI l)=l
 | []=>rfl
 | b::l=>by
   simp only [List.length_cons,Qm,QI]
   have h1:(b.toNat+2*QI l)%2=b.toNat:=by cases b<;>simp<;>omega
   have h2:(b.toNat+2*QI l) / 2=QI l:=by cases b<;>simp<;>omega
   rw [h1,h2,Jv l]
   cases b<;>rfl
theorem YL:∀a b:List Bool,QI (a++b)=QI a+2^a.length*QI b
 | [],b=>by simp [QI]
 | x::a,b=>by
   simp only [List.cons_append,QI,YL a b,List.length_cons,Nat.pow_succ]
   rw [Nat.mul_add,<-Nat.mul_assoc,Nat.mul_comm 2 (2^a.length)]
   omega
theorem Zl {a b:List Bool} (hl:a.length=b.length) (hv:QI a=QI b):a=b:=by
 rw [<-Jv a,<-Jv b,hl,hv]
theorem Ki (n v:Nat):Qm n (v%2^n)=Qm n v:=by
 apply Zl (by simp);simp [Yk]
theorem JT (m n v:Nat):Qm (m+n) v=Qm m v++Qm n (v / 2^m):=by
 apply Zl (by simp);simp only [YL,Yk,JS];rw [Nat.pow_add,Nat.mod_mul]
theorem KT {m n a b:Nat} (ha:a<2^m):Qm m a++Qm n b=Qm (m+n) (a+2^m*b):=by
 rw [JT,Nat.add_mul_div_left _ _ (Nat.two_pow_pos m),Nat.div_eq_of_lt ha,Nat.zero_add]
 congr 1
 apply Zl (by simp);simp [Yk]
theorem Q15:Yr []=[]:=rfl
theorem YP (b:Nat) (l:List Nat):Yr (b::l)=Qm 8 b++Yr l:=by simp [Yr]
theorem Vx (a b:List Nat):Yr (a++b)=Yr a++Yr b:=by simp [Yr]
@[simp] theorem Vy:∀l:List Nat,(Yr l).length=8*l.length
  | []=>rfl
  | b::l=>by simp [YP,Vy l];omega
theorem Kj:∀(n:Nat) (l:List Bool),QI (l.drop n)=QI l / 2^n
 | 0,l=>by simp
 | n+1,[]=>by simp [QI]
 | n+1,b::l=>by
   simp only [List.drop_succ_cons,Kj n l,QI]
   have h2:(b.toNat+2*QI l) / 2=QI l:=by cases b<;>simp<;>omega
   rw [Nat.pow_succ,Nat.mul_comm (2^n) 2,<-Nat.div_div_eq_div_mul,h2]
theorem Q04 (n:Nat) (l:List Bool):QI (l.take n)=QI l%2^n:=by
 by_cases h:n<=l.length
 . have:=YL (l.take n) (l.drop n)
   rw [List.take_append_drop,List.length_take,Nat.min_eq_left h]at this;have hlt:=Jo (l.take n);rw [List.length_take,Nat.min_eq_left h]at hlt;rw [this,Nat.add_mul_mod_self_left,Nat.mod_eq_of_lt hlt]
 rw [List.take_of_length_le (by omega),Nat.mod_eq_of_lt];exact Nat.lt_of_lt_of_le (Jo l) (Nat.pow_le_pow_right (by omega) (by omega))
theorem Xb (a l:List Bool) (ha:a.length=8):QT (a++l)=QI a::QT l:=by
 unfold QT;(have h:((a++l).length+7) / 8=(l.length+7) / 8+1:=by rw [List.length_append];omega);have hlt:=Jo a;rw [ha]at hlt;rw [h,List.range_succ_eq_map,List.map_cons,List.map_map,YL,ha]
 congr 1
 . simp;omega
 apply List.map_congr_left;intro i _;simp only [Function.comp];rw [show 256^i.succ=256*256^i by rw [Nat.pow_succ,Nat.mul_comm],<-Nat.div_div_eq_div_mul]
 congr 2
 omega
theorem Q05:QT []=[]:=rfl
theorem Vz (l:List Bool) (h0:0<l.length) (h:l.length<=8):QT l=[QI l]:=by
 unfold QT;rw [show(l.length+7) / 8=1 by omega];have:=Jo l;have h2:2^l.length<=2^8:=Nat.pow_le_pow_right (by omega) h;simp;omega
theorem Zz:∀(bs:List Nat) (l:List Bool),(∀b∈bs,b<256)->QT (Yr bs++l)=bs++QT l
 | [],l,_=>rfl
 | b::bs,l,h=>by
   rw [YP,List.append_assoc,Xb _ _ (by simp),Zz bs l (fun x hx=>h x (List.mem_cons_of_mem _ hx)),Yk,Nat.mod_eq_of_lt (h b (by simp))]
   rfl
theorem KU (l:List Bool):(QT l).length=(l.length+7) / 8:=by simp [QT]
def Q3d (l:List Bool):List Bool:=l++List.replicate ((8-l.length%8)%8) false
theorem Kk:∀(bs:List Nat) (j:Nat),(Yr bs).drop (8*j)=Yr (bs.drop j)
 | bs,0=>by simp
 | [],j+1=>by simp [Yr]
 | b::bs,j+1=>by
   rw [YP,List.drop_succ_cons,<-Kk bs j,List.drop_append,show 8*(j+1)-(Qm 8 b).length=8*j by simp;omega,List.drop_of_length_le (by simp;omega)]
   rfl
def Yd (bs:List Nat):Nat:=QI (Yr bs)
theorem Q06 (bs:List Nat) (hb:∀b∈bs,b<256) (j:Nat) (hj:j<bs.length):Yd bs / 2^(8*j)%2^8=bs[j]:=by
 unfold Yd;rw [<-Kj,<-Q04,Kk,List.drop_eq_getElem_cons hj,YP,List.take_append_of_le_length (by simp),List.take_of_length_le (by simp),Yk,Nat.mod_eq_of_lt (hb _ (List.getElem_mem hj))]
theorem Q07 (N j s k:Nat) (h:s+k<=8):N / 2^(8*j)%2^8 / 2^s%2^k=N / 2^(8*j+s)%2^k:=by
 rw [Nat.pow_add,<-Nat.div_div_eq_div_mul];generalize N / 2^(8*j)=M;rw [show 8=s+(8-s) by omega,Nat.pow_add,Nat.mod_mul_right_div_self,Nat.mod_mod_of_dvd _ (Nat.pow_dvd_pow 2 (by omega))]
theorem VA (N q k:Nat):N%2^(q+k)=N%2^q+N / 2^q%2^k*2^q:=by
 rw [Nat.pow_add,Nat.mod_mul,Nat.mul_comm]
end Go.Proofs.YtckjdhaflokcgaaGreat
