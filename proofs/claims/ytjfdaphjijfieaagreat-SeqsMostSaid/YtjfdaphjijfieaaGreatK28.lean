/-
  Joined texts, part 28: contracts and plain lemmas.
  Conditions: none beyond those of each theorem.
-/
import Derived.Test.YtjfdaphjijfieaaGreatK27
import Derived.Lib.ItoaNum
set_option linter.unusedVariables false
set_option linter.unusedSimpArgs false
set_option maxRecDepth 100000
universe u
namespace Go.Proofs.YtjfdaphjijfieaaGreat
open Go.RowKit
theorem Zh {m:Nat} (h:m<2^64) (h0:m≠0):1<=Lib.bitLen m/\2^(Lib.bitLen m-1)<=m/\m<2^Lib.bitLen m:=by
 obtain⟨h1,h2,h3⟩:=Lib.bitLenAux_bounds 64 m h h0;unfold Lib.bitLen;(first|exact⟨h1,h2,h3⟩|exact⟨by omega,h2,h3⟩)
theorem Q7y {p x:Nat} (hp:p<=9) (h:x<2^p):x∈Js (2^p):=by
 by_cases hx:x∈Js (2^p)
 . exact hx
 have h1:=Q1C (2^p) (x::Js (2^p)) (List.nodup_cons.2 ⟨hx,Xm p hp⟩) fun y hy=>by
   rcases List.mem_cons.1 hy with rfl|hy
   . exact h
   exact Q3V (Nat.two_pow_pos p) hy
 simp at h1;omega
theorem Q4O {p:Nat} {N:List Int} (hv:Qg p N 256 9):(Yk N).length+(QT N).length=2^p:=by
 have h1:=ZO N 0 hv.2.2.2.2.2.2.1;rw [hv.2.2.2.2.2.2.2]at h1;(have h3:((2:Int)^(p:Int).toNat)=((2^p:Nat):Int):=by simp);unfold Yk QT;omega
theorem Q4P {p:Nat} {N:List Int} (hp:p<=9) {x:Nat} (h:x<2^p):((Y8 (QT N) (Qv (2^p) (Yk N)) (Js (2^p))).1 x).isSome=true:=by
 rw [(Q15 (QT N) (Qv (2^p) (Yk N)) (Js (2^p)) (Xm p hp)).1 x,decide_eq_true (Q7y hp h),Bool.or_true]
theorem XU {rest:List Nat} {n:Nat} (hr:∀y∈rest,y<n) (hn:0<n):∀(pre:List Nat) (f:Int->Option Int) (k:Nat),(∀x v,f x=some v->∃c:Nat,v=c/\c<n) ->
   ∀x v,(pre.foldl (Zc rest) (f,k)).1 x=some v->∃c:Nat,v=c/\c<n
 | [],f,k,h=>h
 | y::pre,f,k,h=>by
   rw [List.foldl_cons]
   unfold Zc
   simp only
   split
   . exact XU hr hn pre f k h
   refine XU hr hn pre _ _ ?_
   intro x v hx
   split at hx
   . refine⟨(rest[k]?).getD 0,by injection hx with hx;exact hx.symm,?_⟩
     rcases Nat.lt_or_ge k rest.length with hk|hk
     . rw [List.getElem?_eq_getElem hk]
       exact hr _ (List.getElem_mem hk)
     rw [List.getElem?_eq_none hk];exact hn
   exact h x v hx
theorem XV {p:Nat} {N:List Int} (hv:Qg p N 256 9) {x:Nat} (h:x<2^p):∃c:Nat,(Q8 p N)[x]?=some (c:Int)/\c<N.length/\(Y8 (QT N) (Qv (2^p) (Yk N)) (Js (2^p))).1 x=some (c:Int):=by
 (have hp:p<=9:=by have:=hv.2.1;omega);have h1:=Q4P (N:=N) hp h;obtain⟨v,hv1⟩:=Option.isSome_iff_exists.1 h1
 have hg:∀x v,Qv (2^p) (Yk N) x=some v->∃c:Nat,v=c/\c<N.length:=by
   intro x v hx;unfold Qv at hx;split at hx
   . rcases hi:(Yk N)[(((2^p:Nat):Int)-1-x).toNat]? with _|c
     . rw [hi]at hx;cases hx
     rw [hi]at hx;refine⟨c,by injection hx with hx;exact hx.symm,?_⟩;have:=(XW N 0 c (List.mem_of_getElem? hi)).2;omega
   cases hx
 obtain⟨c,hc,hcn⟩:=XU (n:=N.length) (fun y hy=>by have:=(XQ N 0 y hy).2;omega) hv.2.2.2.1 (Js (2^p)) _ 0 hg _ _ hv1;subst hc;refine⟨c,?_,hcn,hv1⟩;unfold Q8;rw [List.getElem?_map,List.getElem?_range h];simp only [Option.map_some,hv1,Option.getD_some]
theorem Q0v {p:Nat} {N:List Int} (hv:Qg p N 256 9) {c:Nat} (hc:c<N.length):(((Q8 p N).count (c:Int):Nat):Int)<=Y0 N[c]:=by
 (have hp:p<=9:=by have:=hv.2.1;omega)
 have e1:(Q8 p N).count (c:Int)=(List.range (2^p)).countP (fun(x:Nat)=>decide ((Y8 (QT N) (Qv (2^p) (Yk N)) (Js (2^p))).1 x=some (c:Int))):=by
   unfold Q8;rw [List.count_eq_countP,List.countP_map];apply List.countP_congr;intro x hx;have hx:=List.mem_range.1 hx;obtain⟨c',_,_,h3⟩:=XV hv hx;simp only [Function.comp,h3,Option.getD_some];(by_cases h:(c':Int)=c<;>simp [h])
 have h1:=Q3r c (Q4O hv) (Js (2^p)) (Xm p hp) fun y hy=>Q3V (Nat.two_pow_pos p) hy;rw [e1,h1];have h2:(List.take (Y8 (QT N) (Qv (2^p) (Yk N)) (Js (2^p))).2 (QT N)).count c<=(QT N).count c:=(List.take_sublist _ _).count_le c;have h3:=Q0f N 0 c;have h4:=Q0g N 0 c;simp only [Nat.zero_le,true_and,if_true,Nat.sub_zero,List.getElem?_eq_getElem hc,Option.getD_some]at h3 h4;unfold Yk QT at *;have h5:=hv.2.2.2.2.2.2.1 _ (List.getElem_mem hc);by_cases h6:N[c]=-1
 . rw [if_pos (by rw [h6])]at h3
   rw [h6]at h4 ⊢;(have:Y0 (-1)=1:=by decide);simp at h4;omega
 rw [if_neg (fun q=>h6 (Option.some.inj q))]at h3;(have:Y0 N[c]=N[c]:=by unfold Y0;split<;>omega);omega
theorem Q2l {p:Nat} {N:List Int} (hv:Qg p N 256 9) {i:Nat} (hi:i<2^p):∃c:Nat,ZG (Q8 p N) i=c/\c<N.length/\1<=Km N (Q8 p N) i/\Km N (Q8 p N) i<2^(p+1) /\
   0<=JC p N (Q8 p N) i/\JC p N (Q8 p N) i<=p/\0<=ZD p N (Q8 p N) i/\ZD p N (Q8 p N) i+2^(JC p N (Q8 p N) i).toNat<=2^p:=by
 (have hp:p<=9:=by have:=hv.2.1;omega);obtain⟨c,h1,h2,h3⟩:=XV hv hi;(have hs:ZG (Q8 p N) i=c:=by unfold ZG;rw [h1];rfl);(have hlen:i<(Q8 p N).length:=by simpa using hi);have hget:(Q8 p N)[i]=(c:Int):=Option.some.inj ((List.getElem?_eq_getElem hlen).symm.trans h1);have hcnt:=Q0v hv h2
 have hlt:Zb (Q8 p N) i (c:Int)+1<=(Q8 p N).count (c:Int):=by
   have h4:=Q0d hlen (c:Int);rw [hget,if_pos rfl]at h4;have h5:Zb (Q8 p N) (i+1) (c:Int)<=(Q8 p N).count (c:Int):=(List.take_sublist _ _).count_le _;omega
 have h5:=hv.2.2.2.2.2.2.1 _ (List.getElem_mem h2);(have ha:max N[c] (-N[c])=Y0 N[c]:=by unfold Y0;split<;>omega);have hsum:=KK (List.getElem_mem h2);rw [hv.2.2.2.2.2.2.2]at hsum;(have hpc:((2:Int)^(p:Int).toNat)=((2^p:Nat):Int):=by simp)
 have hnum:Km N (Q8 p N) i=Y0 N[c]+Zb (Q8 p N) i (c:Int):=by
   unfold Km;rw [hs,Int.toNat_natCast,List.getElem?_eq_getElem h2];simp only [Option.getD_some,ha]
 (have hn1:1<=Km N (Q8 p N) i:=by rw [hnum];omega);(have hp1:((2:Int)^(p+1))=((2^p:Nat):Int)*2:=by simp [Int.pow_succ]);(have hn2:Km N (Q8 p N) i<2^(p+1):=by rw [hnum,hp1];omega);refine⟨c,hs,h2,hn1,hn2,?_⟩;unfold ZD JC;generalize Km N (Q8 p N) i=x at *;obtain⟨m,rfl⟩:∃m:Nat,x=m:=⟨x.toNat,by omega⟩;rw [Int.toNat_natCast]
 have hm2:m<2^(p+1):=by
   (have:((2:Int)^(p+1))=((2^(p+1):Nat):Int):=by simp);omega
 have hm64:m<2^64:=Nat.lt_of_lt_of_le hm2 (Nat.pow_le_pow_right (by decide) (by omega));obtain⟨b1,b2,b3⟩:=Zh hm64 (by omega);generalize Lib.bitLen m=L at *
 have hL:L<=p+1:=by
   have:2^(L-1)<2^(p+1):=Nat.lt_of_le_of_lt b2 hm2;have:=(Nat.pow_lt_pow_iff_right (a:=2) (by omega)).1 this;omega
 obtain⟨b,hb⟩:=nm_ (p+1-L);(have e1:((p:Int)+1-(L:Nat)).toNat=b:=by omega);rw [e1];(have e2:2^(L-1)*2^b=2^p:=by rw [<-Nat.pow_add];congr 1;omega);(have e3:2^L*2^b=2^(p+1):=by rw [<-Nat.pow_add];congr 1;omega);have l1:2^(L-1)*2^b<=m*2^b:=Nat.mul_le_mul_right _ b2;have l2:(m+1)*2^b<=2^L*2^b:=Nat.mul_le_mul_right _ b3;rw [Nat.add_mul,Nat.one_mul]at l2;(have c1:((m:Int)*2^b)=((m*2^b:Nat):Int):=by simp);(have c2:((2:Int)^b)=((2^b:Nat):Int):=by simp);(have c3:((2:Int)^p)=((2^p:Nat):Int):=by simp);have e4:2^(p+1)=2^p*2:=Nat.pow_succ 2 p;rw [c1,c2,c3];refine⟨by omega,by omega,by omega,by omega⟩
end Go.Proofs.YtjfdaphjijfieaaGreat
