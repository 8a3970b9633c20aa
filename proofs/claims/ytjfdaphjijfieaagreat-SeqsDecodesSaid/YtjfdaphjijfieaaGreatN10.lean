/-
  Joined texts, part 10: contracts and plain lemmas.
  Conditions: none beyond those of each theorem.
-/
import Derived.Test.YtjfdaphjijfieaaGreatN4
import Derived.Lib.BitFns
set_option linter.unusedVariables false
set_option linter.unusedSimpArgs false
set_option maxRecDepth 100000
universe u
namespace Go.Proofs.YtjfdaphjijfieaaGreat
open Go.RowKit
def YU (P:List Int) (i:Nat) (c:Int):Nat:=(P.take i).count c
def JC (P:List Int) (i:Nat):Int:=(P[i]?).getD 0
def Ja (N P:List Int) (i:Nat):Int:=max ((N[(JC P i).toNat]?).getD 0) (-((N[(JC P i).toNat]?).getD 0))+YU P i (JC P i)
def YB (lg:Nat) (N P:List Int) (i:Nat):Int:=(lg:Int)+1-(Lib.bitLen (Ja N P i).toNat:Nat)
def Jb (lg:Nat) (N P:List Int) (i:Nat):Int:=Ja N P i*2^(YB lg N P i).toNat-2^lg
def QQ (lg:Nat) (N P:List Int) (i:Nat):Int × Int × Int:=(JC P i,YB lg N P i,Jb lg N P i)
def QM (lg:Nat) (N:List Int):List (Int × Int × Int):=(List.range (2^lg)).map (QQ lg N (Q7 lg N))
@[simp] theorem Q68 (lg:Nat) (N:List Int):(QM lg N).length=2^lg:=by simp [QM]
theorem KL {P:List Int} {i:Nat} (h:i<P.length) (c:Int):YU P (i+1) c=YU P i c+if P[i]=c then 1 else 0:=by
 unfold YU;rw [List.take_succ_eq_append_getElem h,List.count_append,List.count_singleton];(by_cases hc:P[i]=c<;>simp [hc])
theorem Kh {f:Int->Option Int} {y:Nat} {v c:Int} (hf:f y=none):∀(s:Nat),y<s ->
   (List.range s).countP (fun(x:Nat)=>decide ((if(x:Int)=(y:Int)then some v else f x)=some c))=(List.range s).countP (fun(x:Nat)=>decide (f x=some c))+if v=c then 1 else 0
 | 0,h=>by omega
 | s+1,h=>by
   rw [List.range_succ,List.countP_append,List.countP_append]
   by_cases hys:y=s
   . subst hys
     have e:(List.range y).countP (fun(x:Nat)=>decide ((if(x:Int)=(y:Int)then some v else f x)=some c))=(List.range y).countP (fun(x:Nat)=>decide (f x=some c)):=by
       apply List.countP_congr;intro x hx;have:=List.mem_range.1 hx;rw [if_neg (by omega)]
     rw [e];(by_cases hv:v=c<;>simp [hf,hv])
   have ih:=Kh (v:=v) (c:=c) hf s (by omega);rw [ih];have e:(if(s:Int)=(y:Int)then some v else f s)=f s:=if_neg (by omega);simp only [List.countP_singleton,e];omega
theorem Q18 (s:Nat) (c:Nat):∀(rs:List Nat),rs.length<=s->(List.range s).countP (fun(x:Nat)=>decide (Qe s rs x=some (c:Int)))=rs.count c:=by
 intro rs
 induction hn:rs.length generalizing rs with
 | zero =>
   intro _;have:rs=[]:=List.eq_nil_of_length_eq_zero hn;subst this;simp [Qe]
 | succ n ih =>
   intro hl;obtain⟨q,y,rfl⟩:∃q y,rs=q++[y]:=⟨rs.dropLast,rs.getLast (by intro h;subst h;simp at hn),(List.dropLast_concat_getLast _).symm⟩;(have hq:q.length=n:=by simpa using hn);have h1:=ih q hq (by omega)
   have h2:(Qe s q ((s-1-q.length:Nat):Int))=none:=by
     unfold Qe;rw [if_pos (by omega),List.getElem?_eq_none (by omega)];rfl
   have h3:=Kh (f:=Qe s q) (y:=s-1-q.length) (v:=(y:Int)) (c:=(c:Int)) h2 s (by omega);(have e:((s-1-q.length:Nat):Int)=(s:Int)-1-q.length:=by omega);rw [e]at h3;have h4:=ZL (s:=s) (rs:=q) (i:=y)
   have h5:(List.range s).countP (fun(x:Nat)=>decide (Qe s (q++[y]) x=some (c:Int)))=(List.range s).countP (fun(x:Nat)=>decide ((if(x:Int)=(s:Int)-1-q.length then some (y:Int)else Qe s q x)=some (c:Int))):=by
     rw [<-h4]
   rw [h5,h3,h1,List.count_append,List.count_singleton]
   congr 1
   by_cases hyc:y=c
   . simp [hyc]
   rw [if_neg (by omega)];simp [hyc]
theorem Q0k {s:Nat} {rest rs:List Nat} (c:Nat) (hR:rs.length+rest.length=s):∀(pre:List Nat),pre.Nodup->(∀y∈pre,y<s) ->
   (List.range s).countP (fun(x:Nat)=>decide ((Qy rest (Qe s rs) pre).1 x=some (c:Int)))=rs.count c+(rest.take (Qy rest (Qe s rs) pre).2).count c:=by
 intro pre
 induction hn:pre.length generalizing pre with
 | zero =>
   intro _ _;have:pre=[]:=List.eq_nil_of_length_eq_zero hn;subst this;have:=Q18 s c rs (by omega);simp only [Qy,List.foldl_nil,List.take_zero,List.count_nil,Nat.add_zero];exact this
 | succ n ih =>
   intro hd hlt;obtain⟨q,y,rfl⟩:∃q y,pre=q++[y]:=⟨pre.dropLast,pre.getLast (by intro h;subst h;simp at hn),(List.dropLast_concat_getLast _).symm⟩;(have hq:q.length=n:=by simpa using hn);have hy:=hlt y (by simp);have h1:=ih q hq (List.nodup_append.1 hd).1 fun z hz=>hlt z (by simp [hz]);rw [YQ];unfold YG;cases hs:((Qy rest (Qe s rs) q).1 y).isSome
   . have hroom:=Q1U hd hlt hR hs
     (have hnone:(Qy rest (Qe s rs) q).1 y=none:=by simpa using hs);simp only [Bool.false_eq_true,if_false];rw [Kh hnone s hy,h1,List.take_add_one,List.getElem?_eq_getElem hroom];simp only [Option.getD_some,Option.toList,List.count_append,List.count_singleton];by_cases hc:rest[(Qy rest (Qe s rs) q).2]=c
     . simp [hc];omega
     rw [if_neg (by omega)];simp [hc]
   simp only [if_true];exact h1
theorem KM:∀(l:List Int) (i c:Nat),(QP i l).count c=if i<=c/\l[c-i]?=some (-1)then 1 else 0
 | [],i,c=>by simp [QP]
 | v::l,i,c=>by
   have ih:=KM l (i+1) c
   rw [QP]
   by_cases hic:i=c
   . subst hic
     have h0:(QP (i+1) l).count i=0:=by rw [ih,if_neg (by omega)]
     by_cases hv:v=-1
     . rw [if_pos hv,List.count_cons,h0];simp [hv]
     rw [if_neg hv,h0,if_neg (by rintro⟨_,h⟩;simp at h;exact hv h)]
   have e:(if v=-1 then i::QP (i+1) l else QP (i+1) l).count c=(QP (i+1) l).count c:=by
     split
     . rw [List.count_cons];simp [hic]
     rfl
   rw [e,ih];by_cases h:i<c
   . have:c-i=(c-(i+1))+1:=by omega
     rw [this,List.getElem?_cons_succ];by_cases hq:l[c-(i+1)]?=some (-1)
     . rw [if_pos ⟨by omega,hq⟩,if_pos ⟨by omega,hq⟩]
     rw [if_neg (fun q=>hq q.2),if_neg (fun q=>hq q.2)]
   rw [if_neg (by omega),if_neg (by omega)]
theorem KN:∀(l:List Int) (i c:Nat),(Yg i l).count c=if i<=c then((l[c-i]?).getD 0).toNat else 0
 | [],i,c=>by simp [Yg]
 | v::l,i,c=>by
   have ih:=KN l (i+1) c
   rw [Yg,List.count_append,List.count_replicate,ih]
   by_cases hic:i=c
   . subst hic
     rw [if_neg (show ¬i+1<=i by omega)]
     simp
   have e:(i == c)=false:=by simpa using hic
   rw [e]
   simp only [Bool.false_eq_true,if_false,Nat.zero_add]
   by_cases h:i<c
   . have:c-i=(c-(i+1))+1:=by omega
     rw [this,List.getElem?_cons_succ,if_pos (by omega),if_pos (by omega)]
   rw [if_neg (by omega),if_neg (by omega)]
end Go.Proofs.YtjfdaphjijfieaaGreat
