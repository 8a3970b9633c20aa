/-
  Joined texts, part 17: contracts and plain lemmas.
  Conditions: none beyond those of each theorem.
-/
import Derived.Test.YtjfdaphjijfieaaGreatL4
import Derived.Test.YtjfdaphjijfieaaGreatShelf
import Derived.Lib.ItoaNum
set_option maxHeartbeats 2000000
set_option linter.unusedVariables false
set_option linter.unusedSimpArgs false
set_option maxRecDepth 100000
universe u
namespace Go.Proofs.YtjfdaphjijfieaaGreat
open Go.RowKit
def JD (N:List Int) (L:Int):Int :=
  if ¬(YH N/\0<QC N)\/L<0\/(2:Int)^L.toNat<QC N then -1
  else if QC N=1 then 0 else min L (max (Lib.bitLen (QC N-1):Nat) ((Lib.bitLen N.sum.toNat:Nat)-2))
theorem KI (m:Nat) (h:m<2^64):Lib.bitLen m<=64:=by
 by_cases h0:m=0
 . subst h0;decide
 obtain⟨h1,h2,h3⟩:=Lib.bitLenAux_bounds 64 m h h0;have:=(Nat.pow_lt_pow_iff_right (a:=2) (by omega)).1 (Nat.lt_of_le_of_lt h2 h);unfold Lib.bitLen;omega
theorem Q0W (F:Nat->Prop) (A:Option Addr) (n c:Nat) (N:List Int) (w:World) (lb:Int) (hr:Rd w F A n (Q2 N)) (hfit:Fit N) (hn:(n:Int)<=1099511627776) :
   Calls Tryz.prog 169 #[.slice A n c,.int .i64 lb] w fun e w'=>e = .returned (.int .i64 (JD N (min lb 9)))/\w'=w:=by
 (have hN:N.length=n:=by have:=hr.1;simpa using this);have hal:=Q0X F A n c N w hr hfit hn;have hu:=Xc N;have h9:min lb 9<=9:=Int.min_le_right _ _;by_cases hb:YH N/\0<QC N
 . have HK:Hid (Calls Tryz.prog 201 #[.slice A n c] w fun e w'=>e = .returned (.tuple #[.int .i64 N.sum,.int .i64 (QC N:Nat),.bool true])/\w'=w) :=
     hd_ (hal.mono fun e w' h=>⟨by have:=h.1;unfold Jb at this;rw [decide_eq_true hb,if_pos hb.1,if_pos hb.1]at this;exact this,h.2⟩)
   have hs0:=Jt hb.1.1;have hs1:=hb.1.2;have hu0:=hb.2
   have hrl:∀L,JD N L=if L<0\/(2:Int)^L.toNat<QC N then -1 else if QC N=1 then 0 else min L (max (Lib.bitLen (QC N-1):Nat) ((Lib.bitLen N.sum.toNat:Nat)-2)):=by
     intro L;unfold JD;have h:¬ ¬(YH N/\0<QC N):=fun h=>h hb;simp only [h,false_or]
   rw [hrl];(have hul:QC N<=n:=by omega);clear hal hr hfit hN hu hrl hb;generalize QC N=u at *;generalize N.sum=S at *;refine Q6 fun R hR=>?_;go_enter Tryz.func169,Tryz.ntmps169;go_wp2_with fail;generalize min lb 9=L at *;refine HK.out.mono ?_;rintro e w1 ⟨rfl,rfl⟩;by_cases h0:L<0
   . rw [if_pos (.inl h0)]at hR
     go_wp2_with fail;(try go_ret);exact hR.out _ _ ⟨rfl,rfl⟩
   obtain⟨p,rfl⟩:∃p:Nat,L=p:=⟨L.toNat,by omega⟩;(have hp9:p<=9:=by omega);simp only [Int.toNat_natCast]at hR
   have hpow:(2:Int)^p<=512:=by
     have:2^p<=2^9:=Nat.pow_le_pow_right (by omega) hp9;(have h2:((2:Int)^p)=((2^p:Nat):Int):=by simp);omega
   have hpow0:(0:Int)<(2:Int)^p:=Int.pow_pos (by omega);by_cases h1:(2:Int)^p<u
   . rw [if_pos (.inr h1)]at hR
     go_wp2_with fail;(try go_ret);exact hR.out _ _ ⟨rfl,rfl⟩
   rw [if_neg (by omega)]at hR;by_cases h2:u=1
   . subst h2
     rw [if_pos rfl]at hR;go_wp2_with fail;(try go_ret);exact hR.out _ _ ⟨rfl,rfl⟩
   rw [if_neg h2]at hR;(have h3:((u:Int) == 1)=false:=by simp;omega);(have h4:((u:Int)-1).toNat=u-1:=by omega);have l1:=Tryz.bits_Len ((u:Int)-1) w1 (by omega) (by omega);have l2:=Tryz.bits_Len S w1 (by omega) (by omega);rw [h4]at l1;have L1:=hd_ l1;have L2:=hd_ l2;have hb2:Lib.bitLen S.toNat<=64:=KI _ (by omega);have hb3:Lib.bitLen (u-1)<=64:=KI _ (by omega);clear l1 l2 h2;generalize Lib.bitLen (u-1)=x at *;generalize Lib.bitLen S.toNat=y at *;go_wp2_with fail;refine L1.out.mono ?_;rintro e w2 ⟨rfl,rfl⟩;go_wp2_with fail;refine L2.out.mono ?_;rintro e w3 ⟨rfl,rfl⟩;go_wp2_with fail;(try go_ret);exact hR.out _ _ ⟨rfl,rfl⟩
 have hrl:∀L,JD N L=-1:=fun L=>if_pos (.inl hb);rw [hrl]
 have HK:Hid (Calls Tryz.prog 201 #[.slice A n c] w fun e w'=>(∃x y,e = .returned (.tuple #[.int .i64 x,.int .i64 y,.bool false]))/\w'=w) :=
   hd_ (hal.mono fun e w' h=>⟨by have:=h.1;unfold Jb at this;rw [decide_eq_false hb]at this;exact⟨_,_,this⟩,h.2⟩)
 clear hal hr hfit hn hN hu hrl hb;refine Q6 fun R hR=>?_;go_enter Tryz.func169,Tryz.ntmps169;go_wp2_with fail;refine HK.out.mono ?_;rintro e w1 ⟨⟨x,y,rfl⟩,rfl⟩;go_wp2_with fail;(try go_ret);exact hR.out _ _ ⟨rfl,rfl⟩
end Go.Proofs.YtjfdaphjijfieaaGreat
