/-
  Joined texts, part 1: contracts and plain lemmas.
  Conditions: none beyond those of each theorem.
-/

set_option linter.unusedVariables false
set_option linter.unusedSimpArgs false
set_option linter.unnecessarySimpa false
set_option maxRecDepth 100000
universe u
namespace Go.Proofs.YtckjdhaflokcgaaGreat
def QT:List Bool->Nat
  | []=>0
  | b::l=>b.toNat+2*QT l
def Qs:Nat->Nat->List Bool
  | 0,_=>[]
  | n+1,v=>(v%2 == 1)::Qs n (v / 2)
def Yq (l:List Nat):List Bool:=l.flatMap (Qs 8)
def QE (l:List Bool):List Nat:=(List.range ((l.length+7) / 8)).map fun i=>QT l / 256^i%256
@[simp] theorem Zs:∀n v,(Qs n v).length=n
  | 0,_=>rfl
  | n+1,v=>by simp [Qs,Zs n]
theorem Vw (v:Nat):(v%2 == 1).toNat=v%2:=by
 (rcases Nat.mod_two_eq_zero_or_one v with h|h<;>simp [h])
theorem Yt:∀n v,QT (Qs n v)=v%2^n
 | 0,v=>by simp [Qs,QT,Nat.mod_one]
 | n+1,v=>by
   simp only [Qs,QT,Vw,Yt n]
   rw [Nat.pow_succ,Nat.mul_comm (2^n) 2,Nat.mod_mul]
theorem J9:∀l:List Bool,QT l<2^l.length
 | []=>by simp [QT]
 | b::l=>by
   have:=J9 l
   simp only [QT,List.length_cons,Nat.pow_succ]
   have:b.toNat<=1:=by cases b<;>simp
   omega
theorem YY:∀l:List Bool,Qs l.length (QT l)=l
 | []=>rfl
 | b::l=>by
   simp only [List.length_cons,Qs,QT]
   have h1:(b.toNat+2*QT l)%2=b.toNat:=by cases b<;>simp<;>omega
   have h2:(b.toNat+2*QT l) / 2=QT l:=by cases b<;>simp<;>omega
   rw [h1,h2,YY l]
   cases b<;>rfl
theorem YL:∀a b:List Bool,QT (a++b)=QT a+2^a.length*QT b
 | [],b=>by simp [QT]
 | x::a,b=>by
   simp only [List.cons_append,QT,YL a b,List.length_cons,Nat.pow_succ]
   rw [Nat.mul_add,<-Nat.mul_assoc,Nat.mul_comm 2 (2^a.length)]
   omega
theorem K4 {a b:List Bool} (hl:a.length=b.length) (hv:QT a=QT b):a=b:=by
 rw [<-YY a,<-YY b,hl,hv]
theorem V7 (n v:Nat):Qs n (v%2^n)=Qs n v:=by
 apply K4 (by simp);simp [Yt]
theorem Jk (m n v:Nat):Qs (m+n) v=Qs m v++Qs n (v / 2^m):=by
 apply K4 (by simp);simp only [YL,Yt,Zs];rw [Nat.pow_add,Nat.mod_mul]
theorem VE {m n a b:Nat} (ha:a<2^m):Qs m a++Qs n b=Qs (m+n) (a+2^m*b):=by
 rw [Jk,Nat.add_mul_div_left _ _ (Nat.two_pow_pos m),Nat.div_eq_of_lt ha,Nat.zero_add]
 congr 1
 apply K4 (by simp);simp [Yt]
theorem VF:Yq []=[]:=rfl
theorem YF (b:Nat) (l:List Nat):Yq (b::l)=Qs 8 b++Yq l:=by simp [Yq]
theorem Xi (a b:List Nat):Yq (a++b)=Yq a++Yq b:=by simp [Yq]
@[simp] theorem Xj:∀l:List Nat,(Yq l).length=8*l.length
  | []=>rfl
  | b::l=>by simp [YF,Xj l];omega
theorem V8:∀(n:Nat) (l:List Bool),QT (l.drop n)=QT l / 2^n
 | 0,l=>by simp
 | n+1,[]=>by simp [QT]
 | n+1,b::l=>by
   simp only [List.drop_succ_cons,V8 n l,QT]
   have h2:(b.toNat+2*QT l) / 2=QT l:=by cases b<;>simp<;>omega
   rw [Nat.pow_succ,Nat.mul_comm (2^n) 2,<-Nat.div_div_eq_div_mul,h2]
theorem Q0S (n:Nat) (l:List Bool):QT (l.take n)=QT l%2^n:=by
 by_cases h:n<=l.length
 . have:=YL (l.take n) (l.drop n)
   rw [List.take_append_drop,List.length_take,Nat.min_eq_left h]at this;have hlt:=J9 (l.take n);rw [List.length_take,Nat.min_eq_left h]at hlt;rw [this,Nat.add_mul_mod_self_left,Nat.mod_eq_of_lt hlt]
 rw [List.take_of_length_le (by omega),Nat.mod_eq_of_lt];exact Nat.lt_of_lt_of_le (J9 l) (Nat.pow_le_pow_right (by omega) (by omega))
theorem Kk (a l:List Bool) (ha:a.length=8):QE (a++l)=QT a::QE l:=by
 unfold QE;(have h:((a++l).length+7) / 8=(l.length+7) / 8+1:=by rw [List.length_append];omega);have hlt:=J9 a;rw [ha]at hlt;rw [h,List.range_succ_eq_map,List.map_cons,List.map_map,YL,ha]
 congr 1
 . simp;omega
 apply List.map_congr_left;intro i _;simp only [Function.comp];rw [show 256^i.succ=256*256^i by rw [Nat.pow_succ,Nat.mul_comm],<-Nat.div_div_eq_div_mul]
 congr 2
 omega
theorem Q0T:QE []=[]:=rfl
theorem Je (l:List Bool) (h0:0<l.length) (h:l.length<=8):QE l=[QT l]:=by
 unfold QE;rw [show(l.length+7) / 8=1 by omega];have:=J9 l;have h2:2^l.length<=2^8:=Nat.pow_le_pow_right (by omega) h;simp;omega
theorem Z4:∀(bs:List Nat) (l:List Bool),(∀b∈bs,b<256)->QE (Yq bs++l)=bs++QE l
 | [],l,_=>rfl
 | b::bs,l,h=>by
   rw [YF,List.append_assoc,Kk _ _ (by simp),Z4 bs l (fun x hx=>h x (List.mem_cons_of_mem _ hx)),Yt,Nat.mod_eq_of_lt (h b (by simp))]
   rfl
theorem JD (l:List Bool):(QE l).length=(l.length+7) / 8:=by simp [QE]
theorem VG (l:List Bool):∀b∈QE l,b<256:=by
 intro b hb;obtain⟨i,_,rfl⟩:=List.mem_map.1 hb;omega
def VH (l:List Bool):List Bool:=l++List.replicate ((8-l.length%8)%8) false
theorem V9:∀(bs:List Nat) (j:Nat),(Yq bs).drop (8*j)=Yq (bs.drop j)
 | bs,0=>by simp
 | [],j+1=>by simp [Yq]
 | b::bs,j+1=>by
   rw [YF,List.drop_succ_cons,<-V9 bs j,List.drop_append,show 8*(j+1)-(Qs 8 b).length=8*j by simp;omega,List.drop_of_length_le (by simp;omega)]
   rfl
def Yn (bs:List Nat):Nat:=QT (Yq bs)
theorem Q0U (bs:List Nat) (hb:∀b∈bs,b<256) (j:Nat) (hj:j<bs.length):Yn bs / 2^(8*j)%2^8=bs[j]:=by
 unfold Yn;rw [<-V8,<-Q0S,V9,List.drop_eq_getElem_cons hj,YF,List.take_append_of_le_length (by simp),List.take_of_length_le (by simp),Yt,Nat.mod_eq_of_lt (hb _ (List.getElem_mem hj))]
theorem Q0V (N j s k:Nat) (h:s+k<=8):N / 2^(8*j)%2^8 / 2^s%2^k=N / 2^(8*j+s)%2^k:=by
 rw [Nat.pow_add,<-Nat.div_div_eq_div_mul];generalize N / 2^(8*j)=M;rw [show 8=s+(8-s) by omega,Nat.pow_add,Nat.mod_mul_right_div_self,Nat.mod_mod_of_dvd _ (Nat.pow_dvd_pow 2 (by omega))]
theorem Xk (N q k:Nat):N%2^(q+k)=N%2^q+N / 2^q%2^k*2^q:=by
 rw [Nat.pow_add,Nat.mod_mul,Nat.mul_comm]
end Go.Proofs.YtckjdhaflokcgaaGreat
