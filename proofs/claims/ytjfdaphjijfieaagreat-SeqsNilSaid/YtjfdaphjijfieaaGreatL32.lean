/-
  Joined texts, part 32: contracts and plain lemmas.
  Conditions: none beyond those of each theorem.
-/
import Derived.Test.YtjfdaphjijfieaaGreatL14
import Derived.Test.YtjfdaphjijfieaaGreatL29
set_option linter.unusedVariables false
set_option linter.unusedSimpArgs false
set_option maxRecDepth 100000
universe u
namespace Go.Proofs.YtjfdaphjijfieaaGreat
open Go.RowKit
def JC (v:Nat):Nat:=if v<16 then v else 8+2*(Lib.bitLen v-1)+v / 2^(Lib.bitLen v-2)%2
def Z6 (v:Nat):Nat:=Lib.bitLen v-1
theorem Q1d {v:Nat} (h:v<2^18):JC v<44/\YD (JC v)<=v/\v-YD (JC v)<2^Y4 (JC v):=by
 unfold JC;by_cases h16:v<16
 . rw [if_pos h16]
   unfold YD Y4;rw [if_pos h16,if_pos h16];simp;omega
 rw [if_neg h16];obtain⟨b1,b2,b3⟩:=JX (m:=v) (by omega) (by omega);generalize Lib.bitLen v=L at *
 have hL5:5<=L:=by
   rcases Nat.lt_or_ge L 5 with hl|hl
   . have:2^L<=2^4:=Nat.pow_le_pow_right (by decide) (by omega)
     omega
   exact hl
 have hL18:L<=18:=by
   rcases Nat.lt_or_ge 18 L with hl|hl
   . have:2^18<=2^(L-1):=Nat.pow_le_pow_right (by decide) (by omega)
     omega
   exact hl
 obtain⟨m,rfl⟩:∃m,L=m+2:=⟨L-2,by omega⟩;(have e1:m+2-1=m+1:=by omega);(have e2:m+2-2=m:=by omega);rw [e1]at b2 ⊢;rw [e2];have hp:=Nat.two_pow_pos m;(have p1:2^(m+1)=2*2^m:=by rw [Nat.pow_succ];omega);(have p2:2^(m+2)=4*2^m:=by rw [Nat.pow_succ,Nat.pow_succ];omega);rw [p1]at b2;rw [p2]at b3;(have q2:v / 2^m<4:=by rw [Nat.div_lt_iff_lt_mul hp];omega);(have q1:2<=v / 2^m:=by rw [Nat.le_div_iff_mul_le hp];omega);have hdm:=Nat.div_add_mod v (2^m);have hml:=Nat.mod_lt v hp;generalize v / 2^m=q at *;(have c1:(8+2*(m+1)+q%2) / 2-5=m:=by omega);(have c2:(8+2*(m+1)+q%2)%2=q%2:=by omega);(have c3:¬(8+2*(m+1)+q%2)<16:=by omega);unfold YD Y4;rw [if_neg c3,if_neg c3,c1,c2];(have e3:2+q%2=q:=by omega);rw [e3,Nat.mul_comm q];omega
theorem Q3m {v:Nat} (h0:1<=v) (h:v<2^28):Z6 v<28/\2^Z6 v<=v/\v-2^Z6 v<2^Z6 v:=by
 unfold Z6;obtain⟨b1,b2,b3⟩:=JX (m:=v) (by omega) (by omega);generalize Lib.bitLen v=L at *;obtain⟨m,rfl⟩:∃m,L=m+1:=⟨L-1,by omega⟩;simp only [Nat.add_sub_cancel]at *;(have p1:2^(m+1)=2*2^m:=by rw [Nat.pow_succ];omega)
 have hL:m<28:=by
   rcases Nat.lt_or_ge m 28 with hl|hl
   . exact hl
   have:2^28<=2^m:=Nat.pow_le_pow_right (by decide) hl;omega
 omega
end Go.Proofs.YtjfdaphjijfieaaGreat
