/-
  Joined texts, part 34: contracts and plain lemmas.
  Conditions: none beyond those of each theorem.
-/
import Derived.Test.YtjfdaphjijfieaaGreatK30
import Derived.Test.YtjfdaphjijfieaaGreatK21
set_option linter.unusedVariables false
set_option linter.unusedSimpArgs false
set_option maxRecDepth 100000
universe u
namespace Go.Proofs.YtjfdaphjijfieaaGreat
open Go.RowKit
theorem Q44:∀(g q:Nat),q<128^(g+1)->Yv (g+1) q=Yv g q
 | 0,q,h=>by
   have h2:q<128:=by simpa using h
   unfold Yv
   rw [if_pos h2]
 | g+1,q,h=>by
   by_cases h2:q<128
   . unfold Yv;rw [if_pos h2,if_pos h2]
   have h3:q / 128<128^(g+1):=by rw [Nat.div_lt_iff_lt_mul (by omega)];rw [Nat.pow_succ]at h;exact h
   have h4:=Q44 g (q / 128) h3
   conv=>lhs;unfold Yv
   conv=>rhs;unfold Yv
   rw [if_neg h2,if_neg h2,h4]
theorem Q2S (r:List Nat):∀(g i acc q:Nat),q<128^(g+1)->(i=0\/0<q)->acc+q*2^(7*i)<=4611686018427387903 ->
   Kj (g+1) i acc (Yv g q++r)=(acc+q*2^(7*i),i+(Yv g q).length,0)
 | g,i,acc,q,h,h0,hl=>by
   by_cases h2:q<128
   . have h3:Yv g q=[q]:=by cases g<;>unfold Yv<;>simp [h2]
     rw [h3]
     simp only [List.cons_append,List.nil_append,List.length_singleton]
     unfold Kj
     rw [if_neg (by omega),if_neg (by omega),Nat.mod_eq_of_lt h2,if_neg (by omega)]
   cases g with
   | zero=>simp at h;omega
   | succ g =>
     have h3:Yv (g+1) q=(q%128+128)::Yv g (q / 128):=by conv=>lhs;unfold Yv;rw [if_neg h2]
     have h4:q / 128<128^(g+1):=by rw [Nat.div_lt_iff_lt_mul (by omega)];rw [Nat.pow_succ]at h;exact h
     have hp:2^(7*(i+1))=128*2^(7*i):=by rw [show 7*(i+1)=7*i+7 by omega,Nat.pow_add];omega
     have hq:(q%128)*2^(7*i)+(q / 128)*(128*2^(7*i))=q*2^(7*i):=by
       rw [<-Nat.mul_assoc,<-Nat.add_mul]
       congr 1
       omega
     (have hx:(q%128+128)%128=q%128:=by omega);rw [h3];simp only [List.cons_append,List.length_cons]
     conv=>lhs;unfold Kj
     rw [if_pos (by omega),hx,Q2S r g (i+1) _ (q / 128) h4 (.inr (by omega)) (by rw [hp];omega),hp];refine Prod.ext (by simp only;omega) (Prod.ext (by simp only;omega) rfl)
theorem Q7I (r:List Nat) {n:Nat} (h:n<2^62):Qn (ZP n++r)=(n,(ZP n).length,0):=by
 have h1:ZP n=Yv 8 n:=Q44 8 n (by omega);unfold Qn;rw [h1,Q2S r 8 0 0 n (by omega) (.inl rfl) (by omega)];simp
end Go.Proofs.YtjfdaphjijfieaaGreat
