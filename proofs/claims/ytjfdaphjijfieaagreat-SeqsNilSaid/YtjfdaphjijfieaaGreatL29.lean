/-
  Joined texts, part 29: contracts and plain lemmas.
  Conditions: none beyond those of each theorem.
-/
import Derived.Test.YtjfdaphjijfieaaGreatL28
import Derived.Lib.ItoaNum
set_option linter.unusedVariables false
set_option linter.unusedSimpArgs false
set_option maxRecDepth 100000
universe u
namespace Go.Proofs.YtjfdaphjijfieaaGreat
open Go.RowKit
theorem JX {m:Nat} (h:m<2^64) (h0:m≠0):1<=Lib.bitLen m/\2^(Lib.bitLen m-1)<=m/\m<2^Lib.bitLen m:=by
 obtain⟨h1,h2,h3⟩:=Lib.bitLenAux_bounds 64 m h h0;unfold Lib.bitLen;(first|exact⟨h1,h2,h3⟩|exact⟨by omega,h2,h3⟩)
theorem Q6G {p x:Nat} (hp:p<=9) (h:x<2^p):x∈Ji (2^p):=by
 by_cases hx:x∈Ji (2^p)
 . exact hx
 have h1:=Q1a (2^p) (x::Ji (2^p)) (List.nodup_cons.2 ⟨hx,VQ p hp⟩) fun y hy=>by
   rcases List.mem_cons.1 hy with rfl|hy
   . exact h
   exact Q3i (Nat.two_pow_pos p) hy
 simp at h1;omega
theorem Q40 {p:Nat} {N:List Int} (hv:Qc p N 256 9):(Yc N).length+(QE N).length=2^p:=by
 have h1:=Zy N 0 hv.2.2.2.2.2.2.1;rw [hv.2.2.2.2.2.2.2]at h1;(have h3:((2:Int)^(p:Int).toNat)=((2^p:Nat):Int):=by simp);unfold Yc QE;omega
theorem Q41 {p:Nat} {N:List Int} (hp:p<=9) {x:Nat} (h:x<2^p):((QW (QE N) (Qn (2^p) (Yc N)) (Ji (2^p))).1 x).isSome=true:=by
 rw [(Q0D (QE N) (Qn (2^p) (Yc N)) (Ji (2^p)) (VQ p hp)).1 x,decide_eq_true (Q6G hp h),Bool.or_true]
theorem Xp {rest:List Nat} {n:Nat} (hr:∀y∈rest,y<n) (hn:0<n):∀(pre:List Nat) (f:Int->Option Int) (k:Nat),(∀x v,f x=some v->∃c:Nat,v=c/\c<n) ->
   ∀x v,(pre.foldl (JS rest) (f,k)).1 x=some v->∃c:Nat,v=c/\c<n
 | [],f,k,h=>h
 | y::pre,f,k,h=>by
   rw [List.foldl_cons]
   unfold JS
   simp only
   split
   . exact Xp hr hn pre f k h
   refine Xp hr hn pre _ _ ?_
   intro x v hx
   split at hx
   . refine⟨(rest[k]?).getD 0,by injection hx with hx;exact hx.symm,?_⟩
     rcases Nat.lt_or_ge k rest.length with hk|hk
     . rw [List.getElem?_eq_getElem hk]
       exact hr _ (List.getElem_mem hk)
     rw [List.getElem?_eq_none hk];exact hn
   exact h x v hx
theorem Xq {p:Nat} {N:List Int} (hv:Qc p N 256 9) {x:Nat} (h:x<2^p):∃c:Nat,(Q7 p N)[x]?=some (c:Int)/\c<N.length/\(QW (QE N) (Qn (2^p) (Yc N)) (Ji (2^p))).1 x=some (c:Int):=by
 (have hp:p<=9:=by have:=hv.2.1;omega);have h1:=Q41 (N:=N) hp h;obtain⟨v,hv1⟩:=Option.isSome_iff_exists.1 h1
 have hg:∀x v,Qn (2^p) (Yc N) x=some v->∃c:Nat,v=c/\c<N.length:=by
   intro x v hx;unfold Qn at hx;split at hx
   . rcases hi:(Yc N)[(((2^p:Nat):Int)-1-x).toNat]? with _|c
     . rw [hi]at hx;cases hx
     rw [hi]at hx;refine⟨c,by injection hx with hx;exact hx.symm,?_⟩;have:=(Xr N 0 c (List.mem_of_getElem? hi)).2;omega
   cases hx
 obtain⟨c,hc,hcn⟩:=Xp (n:=N.length) (fun y hy=>by have:=(Xn N 0 y hy).2;omega) hv.2.2.2.1 (Ji (2^p)) _ 0 hg _ _ hv1;subst hc;refine⟨c,?_,hcn,hv1⟩;unfold Q7;rw [List.getElem?_map,List.getElem?_range h];simp only [Option.map_some,hv1,Option.getD_some]
theorem Q01 {p:Nat} {N:List Int} (hv:Qc p N 256 9) {c:Nat} (hc:c<N.length):(((Q7 p N).count (c:Int):Nat):Int)<=QO N[c]:=by
 (have hp:p<=9:=by have:=hv.2.1;omega)
 have e1:(Q7 p N).count (c:Int)=(List.range (2^p)).countP (fun(x:Nat)=>decide ((QW (QE N) (Qn (2^p) (Yc N)) (Ji (2^p))).1 x=some (c:Int))):=by
   unfold Q7;rw [List.count_eq_countP,List.countP_map];apply List.countP_congr;intro x hx;have hx:=List.mem_range.1 hx;obtain⟨c',_,_,h3⟩:=Xq hv hx;simp only [Function.comp,h3,Option.getD_some];(by_cases h:(c':Int)=c<;>simp [h])
 have h1:=Q2N c (Q40 hv) (Ji (2^p)) (VQ p hp) fun y hy=>Q3i (Nat.two_pow_pos p) hy;rw [e1,h1];have h2:(List.take (QW (QE N) (Qn (2^p) (Yc N)) (Ji (2^p))).2 (QE N)).count c<=(QE N).count c:=(List.take_sublist _ _).count_le c;have h3:=XJ N 0 c;have h4:=XK N 0 c;simp only [Nat.zero_le,true_and,if_true,Nat.sub_zero,List.getElem?_eq_getElem hc,Option.getD_some]at h3 h4;unfold Yc QE at *;have h5:=hv.2.2.2.2.2.2.1 _ (List.getElem_mem hc);by_cases h6:N[c]=-1
 . rw [if_pos (by rw [h6])]at h3
   rw [h6]at h4 ⊢;(have:QO (-1)=1:=by decide);simp at h4;omega
 rw [if_neg (fun q=>h6 (Option.some.inj q))]at h3;(have:QO N[c]=N[c]:=by unfold QO;split<;>omega);omega
theorem Q1O {p:Nat} {N:List Int} (hv:Qc p N 256 9) {i:Nat} (hi:i<2^p):∃c:Nat,Zn (Q7 p N) i=c/\c<N.length/\1<=ZX N (Q7 p N) i/\ZX N (Q7 p N) i<2^(p+1) /\
   0<=Jp p N (Q7 p N) i/\Jp p N (Q7 p N) i<=p/\0<=Zj p N (Q7 p N) i/\Zj p N (Q7 p N) i+2^(Jp p N (Q7 p N) i).toNat<=2^p:=by
 (have hp:p<=9:=by have:=hv.2.1;omega);obtain⟨c,h1,h2,h3⟩:=Xq hv hi;(have hs:Zn (Q7 p N) i=c:=by unfold Zn;rw [h1];rfl);(have hlen:i<(Q7 p N).length:=by simpa using hi);have hget:(Q7 p N)[i]=(c:Int):=Option.some.inj ((List.getElem?_eq_getElem hlen).symm.trans h1);have hcnt:=Q01 hv h2
 have hlt:JR (Q7 p N) i (c:Int)+1<=(Q7 p N).count (c:Int):=by
   have h4:=XH hlen (c:Int);rw [hget,if_pos rfl]at h4;have h5:JR (Q7 p N) (i+1) (c:Int)<=(Q7 p N).count (c:Int):=(List.take_sublist _ _).count_le _;omega
 have h5:=hv.2.2.2.2.2.2.1 _ (List.getElem_mem h2);(have ha:max N[c] (-N[c])=QO N[c]:=by unfold QO;split<;>omega);have hsum:=Kt (List.getElem_mem h2);rw [hv.2.2.2.2.2.2.2]at hsum;(have hpc:((2:Int)^(p:Int).toNat)=((2^p:Nat):Int):=by simp)
 have hnum:ZX N (Q7 p N) i=QO N[c]+JR (Q7 p N) i (c:Int):=by
   unfold ZX;rw [hs,Int.toNat_natCast,List.getElem?_eq_getElem h2];simp only [Option.getD_some,ha]
 (have hn1:1<=ZX N (Q7 p N) i:=by rw [hnum];omega);(have hp1:((2:Int)^(p+1))=((2^p:Nat):Int)*2:=by simp [Int.pow_succ]);(have hn2:ZX N (Q7 p N) i<2^(p+1):=by rw [hnum,hp1];omega);refine⟨c,hs,h2,hn1,hn2,?_⟩;unfold Zj Jp;generalize ZX N (Q7 p N) i=x at *;obtain⟨m,rfl⟩:∃m:Nat,x=m:=⟨x.toNat,by omega⟩;rw [Int.toNat_natCast]
 have hm2:m<2^(p+1):=by
   (have:((2:Int)^(p+1))=((2^(p+1):Nat):Int):=by simp);omega
 have hm64:m<2^64:=Nat.lt_of_lt_of_le hm2 (Nat.pow_le_pow_right (by decide) (by omega));obtain⟨b1,b2,b3⟩:=JX hm64 (by omega);generalize Lib.bitLen m=L at *
 have hL:L<=p+1:=by
   have:2^(L-1)<2^(p+1):=Nat.lt_of_le_of_lt b2 hm2;have:=(Nat.pow_lt_pow_iff_right (a:=2) (by omega)).1 this;omega
 obtain⟨b,hb⟩:=nm_ (p+1-L);(have e1:((p:Int)+1-(L:Nat)).toNat=b:=by omega);rw [e1];(have e2:2^(L-1)*2^b=2^p:=by rw [<-Nat.pow_add];congr 1;omega);(have e3:2^L*2^b=2^(p+1):=by rw [<-Nat.pow_add];congr 1;omega);have l1:2^(L-1)*2^b<=m*2^b:=Nat.mul_le_mul_right _ b2;have l2:(m+1)*2^b<=2^L*2^b:=Nat.mul_le_mul_right _ b3;rw [Nat.add_mul,Nat.one_mul]at l2;(have c1:((m:Int)*2^b)=((m*2^b:Nat):Int):=by simp);(have c2:((2:Int)^b)=((2^b:Nat):Int):=by simp);(have c3:((2:Int)^p)=((2^p:Nat):Int):=by simp);have e4:2^(p+1)=2^p*2:=Nat.pow_succ 2 p;rw [c1,c2,c3];refine⟨by omega,by omega,by omega,by omega⟩
end Go.Proofs.YtjfdaphjijfieaaGreat
