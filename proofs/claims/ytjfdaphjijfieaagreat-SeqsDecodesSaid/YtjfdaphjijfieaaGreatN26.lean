/-
  Joined texts, part 26: contracts and plain lemmas.
  Conditions: none beyond those of each theorem.
-/
import Derived.Test.YtjfdaphjijfieaaGreatN25
import Derived.Lib.ItoaNum
set_option maxHeartbeats 4000000
set_option linter.unusedVariables false
set_option linter.unusedSimpArgs false
set_option maxRecDepth 100000
universe u
namespace Go.Proofs.YtjfdaphjijfieaaGreat
open Go.RowKit
theorem JX {m:Nat} (h:m<2^64) (h0:m≠0):1<=Lib.bitLen m/\2^(Lib.bitLen m-1)<=m/\m<2^Lib.bitLen m:=by
 obtain⟨h1,h2,h3⟩:=Lib.bitLenAux_bounds 64 m h h0;unfold Lib.bitLen;(first|exact⟨h1,h2,h3⟩|exact⟨by omega,h2,h3⟩)
theorem XJ {p x:Nat} (hp:p<=9) (h:x<2^p):x∈Y3 (2^p):=by
 by_cases hx:x∈Y3 (2^p)
 . exact hx
 have h1:=VH (2^p) (x::Y3 (2^p)) (List.nodup_cons.2 ⟨hx,Ze p hp⟩) fun y hy=>by
   rcases List.mem_cons.1 hy with rfl|hy
   . exact h
   exact Kw (Nat.two_pow_pos p) hy
 simp at h1;omega
theorem Vt {p:Nat} {N:List Int} (hv:Qg p N 256 9):(Qv N).length+(Ql N).length=2^p:=by
 have h1:=Jp N 0 hv.2.2.2.2.2.2.1;rw [hv.2.2.2.2.2.2.2]at h1;(have h3:((2:Int)^(p:Int).toNat)=((2^p:Nat):Int):=by simp);unfold Qv Ql;omega
theorem Q1t {p:Nat} {N:List Int} (hp:p<=9) {x:Nat} (h:x<2^p):((Qy (Ql N) (Qe (2^p) (Qv N)) (Y3 (2^p))).1 x).isSome=true:=by
 rw [(K0 (Ql N) (Qe (2^p) (Qv N)) (Y3 (2^p)) (Ze p hp)).1 x,decide_eq_true (XJ hp h),Bool.or_true]
theorem Kx {rest:List Nat} {n:Nat} (hr:∀y∈rest,y<n) (hn:0<n):∀(pre:List Nat) (f:Int->Option Int) (k:Nat),(∀x v,f x=some v->∃c:Nat,v=c/\c<n) ->
   ∀x v,(pre.foldl (YG rest) (f,k)).1 x=some v->∃c:Nat,v=c/\c<n
 | [],f,k,h=>h
 | y::pre,f,k,h=>by
   rw [List.foldl_cons]
   unfold YG
   simp only
   split
   . exact Kx hr hn pre f k h
   refine Kx hr hn pre _ _ ?_
   intro x v hx
   split at hx
   . refine⟨(rest[k]?).getD 0,by injection hx with hx;exact hx.symm,?_⟩
     rcases Nat.lt_or_ge k rest.length with hk|hk
     . rw [List.getElem?_eq_getElem hk]
       exact hr _ (List.getElem_mem hk)
     rw [List.getElem?_eq_none hk];exact hn
   exact h x v hx
theorem Ky {p:Nat} {N:List Int} (hv:Qg p N 256 9) {x:Nat} (h:x<2^p):∃c:Nat,(Q7 p N)[x]?=some (c:Int)/\c<N.length/\(Qy (Ql N) (Qe (2^p) (Qv N)) (Y3 (2^p))).1 x=some (c:Int):=by
 (have hp:p<=9:=by have:=hv.2.1;omega);have h1:=Q1t (N:=N) hp h;obtain⟨v,hv1⟩:=Option.isSome_iff_exists.1 h1
 have hg:∀x v,Qe (2^p) (Qv N) x=some v->∃c:Nat,v=c/\c<N.length:=by
   intro x v hx;unfold Qe at hx;split at hx
   . rcases hi:(Qv N)[(((2^p:Nat):Int)-1-x).toNat]? with _|c
     . rw [hi]at hx;cases hx
     rw [hi]at hx;refine⟨c,by injection hx with hx;exact hx.symm,?_⟩;have:=(Kz N 0 c (List.mem_of_getElem? hi)).2;omega
   cases hx
 obtain⟨c,hc,hcn⟩:=Kx (n:=N.length) (fun y hy=>by have:=(Kt N 0 y hy).2;omega) hv.2.2.2.1 (Y3 (2^p)) _ 0 hg _ _ hv1;subst hc;refine⟨c,?_,hcn,hv1⟩;unfold Q7;rw [List.getElem?_map,List.getElem?_range h];simp only [Option.map_some,hv1,Option.getD_some]
theorem Q0J {p:Nat} {N:List Int} (hv:Qg p N 256 9) {c:Nat} (hc:c<N.length):(((Q7 p N).count (c:Int):Nat):Int)<=QZ N[c]:=by
 (have hp:p<=9:=by have:=hv.2.1;omega)
 have e1:(Q7 p N).count (c:Int)=(List.range (2^p)).countP (fun(x:Nat)=>decide ((Qy (Ql N) (Qe (2^p) (Qv N)) (Y3 (2^p))).1 x=some (c:Int))):=by
   unfold Q7;rw [List.count_eq_countP,List.countP_map];apply List.countP_congr;intro x hx;have hx:=List.mem_range.1 hx;obtain⟨c',_,_,h3⟩:=Ky hv hx;simp only [Function.comp,h3,Option.getD_some];(by_cases h:(c':Int)=c<;>simp [h])
 have h1:=Q0k c (Vt hv) (Y3 (2^p)) (Ze p hp) fun y hy=>Kw (Nat.two_pow_pos p) hy;rw [e1,h1];have h2:(List.take (Qy (Ql N) (Qe (2^p) (Qv N)) (Y3 (2^p))).2 (Ql N)).count c<=(Ql N).count c:=(List.take_sublist _ _).count_le c;have h3:=KM N 0 c;have h4:=KN N 0 c;simp only [Nat.zero_le,true_and,if_true,Nat.sub_zero,List.getElem?_eq_getElem hc,Option.getD_some]at h3 h4;unfold Qv Ql at *;have h5:=hv.2.2.2.2.2.2.1 _ (List.getElem_mem hc);by_cases h6:N[c]=-1
 . rw [if_pos (by rw [h6])]at h3
   rw [h6]at h4 ⊢;(have:QZ (-1)=1:=by decide);simp at h4;omega
 rw [if_neg (fun q=>h6 (Option.some.inj q))]at h3;(have:QZ N[c]=N[c]:=by unfold QZ;split<;>omega);omega
theorem Vd {p:Nat} {N:List Int} (hv:Qg p N 256 9) {i:Nat} (hi:i<2^p):∃c:Nat,JC (Q7 p N) i=c/\c<N.length/\1<=Ja N (Q7 p N) i/\Ja N (Q7 p N) i<2^(p+1) /\
   0<=YB p N (Q7 p N) i/\YB p N (Q7 p N) i<=p/\0<=Jb p N (Q7 p N) i/\Jb p N (Q7 p N) i+2^(YB p N (Q7 p N) i).toNat<=2^p:=by
 (have hp:p<=9:=by have:=hv.2.1;omega);obtain⟨c,h1,h2,h3⟩:=Ky hv hi;(have hs:JC (Q7 p N) i=c:=by unfold JC;rw [h1];rfl);(have hlen:i<(Q7 p N).length:=by simpa using hi);have hget:(Q7 p N)[i]=(c:Int):=Option.some.inj ((List.getElem?_eq_getElem hlen).symm.trans h1);have hcnt:=Q0J hv h2
 have hlt:YU (Q7 p N) i (c:Int)+1<=(Q7 p N).count (c:Int):=by
   have h4:=KL hlen (c:Int);rw [hget,if_pos rfl]at h4;have h5:YU (Q7 p N) (i+1) (c:Int)<=(Q7 p N).count (c:Int):=(List.take_sublist _ _).count_le _;omega
 have h5:=hv.2.2.2.2.2.2.1 _ (List.getElem_mem h2);(have ha:max N[c] (-N[c])=QZ N[c]:=by unfold QZ;split<;>omega);have hsum:=Jo (List.getElem_mem h2);rw [hv.2.2.2.2.2.2.2]at hsum;(have hpc:((2:Int)^(p:Int).toNat)=((2^p:Nat):Int):=by simp)
 have hnum:Ja N (Q7 p N) i=QZ N[c]+YU (Q7 p N) i (c:Int):=by
   unfold Ja;rw [hs,Int.toNat_natCast,List.getElem?_eq_getElem h2];simp only [Option.getD_some,ha]
 (have hn1:1<=Ja N (Q7 p N) i:=by rw [hnum];omega);(have hp1:((2:Int)^(p+1))=((2^p:Nat):Int)*2:=by simp [Int.pow_succ]);(have hn2:Ja N (Q7 p N) i<2^(p+1):=by rw [hnum,hp1];omega);refine⟨c,hs,h2,hn1,hn2,?_⟩;unfold Jb YB;generalize Ja N (Q7 p N) i=x at *;obtain⟨m,rfl⟩:∃m:Nat,x=m:=⟨x.toNat,by omega⟩;rw [Int.toNat_natCast]
 have hm2:m<2^(p+1):=by
   (have:((2:Int)^(p+1))=((2^(p+1):Nat):Int):=by simp);omega
 have hm64:m<2^64:=Nat.lt_of_lt_of_le hm2 (Nat.pow_le_pow_right (by decide) (by omega));obtain⟨b1,b2,b3⟩:=JX hm64 (by omega);generalize Lib.bitLen m=L at *
 have hL:L<=p+1:=by
   have:2^(L-1)<2^(p+1):=Nat.lt_of_le_of_lt b2 hm2;have:=(Nat.pow_lt_pow_iff_right (a:=2) (by omega)).1 this;omega
 obtain⟨b,hb⟩:=nm_ (p+1-L);(have e1:((p:Int)+1-(L:Nat)).toNat=b:=by omega);rw [e1];(have e2:2^(L-1)*2^b=2^p:=by rw [<-Nat.pow_add];congr 1;omega);(have e3:2^L*2^b=2^(p+1):=by rw [<-Nat.pow_add];congr 1;omega);have l1:2^(L-1)*2^b<=m*2^b:=Nat.mul_le_mul_right _ b2;have l2:(m+1)*2^b<=2^L*2^b:=Nat.mul_le_mul_right _ b3;rw [Nat.add_mul,Nat.one_mul]at l2;(have c1:((m:Int)*2^b)=((m*2^b:Nat):Int):=by simp);(have c2:((2:Int)^b)=((2^b:Nat):Int):=by simp);(have c3:((2:Int)^p)=((2^p:Nat):Int):=by simp);have e4:2^(p+1)=2^p*2:=Nat.pow_succ 2 p;rw [c1,c2,c3];refine⟨by omega,by omega,by omega,by omega⟩
def Ye (s j:Nat):Nat:=j*Yd s%s
theorem Q3z {s j:Nat} (h:j<s):(Y3 s)[j]?=some (Ye s j):=by
 unfold Y3 Ye;rw [List.getElem?_map,List.getElem?_range h];rfl
theorem KA {s j:Nat} (h:0<s):Ye s j<s:=Nat.mod_lt _ h
theorem Q2u (s j:Nat):Ye s (j+1)=(Ye s j+Yd s)%s:=by
 unfold Ye;rw [Nat.add_mul,Nat.one_mul,Nat.mod_add_mod]
theorem ZQ {s j:Nat} (h:j<s):(Y3 s).take (j+1)=(Y3 s).take j++[Ye s j]:=by
 rw [List.take_add_one,Q3z h];rfl
def JY (s:Nat) (rest rs:List Nat) (m j:Nat) (f:Int->Option Int):Prop :=
  j<s/\∃J,(J=j\/J=j+1)/\Qy rest (Qe s rs) ((Y3 s).take J)=(f,m)
theorem Q1u {s:Nat} (rest rs:List Nat) (hs:0<s):JY s rest rs 0 0 (Qe s rs):=⟨hs,0,.inl rfl,by simp [Qy]⟩
theorem Q3A {p:Nat} {rest rs:List Nat} {m j:Nat} {f:Int->Option Int} (hp:p<=9) (hR:rs.length+rest.length=2^p) (h:JY (2^p) rest rs m j f)
   (ho:(f (Ye (2^p) j:Nat)).isSome=true) (hm:m<rest.length):JY (2^p) rest rs m (j+1) f:=by
 obtain⟨hj,J,hJ,hv⟩:=h
 have h1:Qy rest (Qe (2^p) rs) ((Y3 (2^p)).take (j+1))=(f,m):=by
   rcases hJ with rfl|rfl
   . rw [ZQ hj,YQ,hv]
     unfold YG;rw [if_pos ho]
   exact hv
 refine⟨?_,j+1,.inl rfl,h1⟩;rcases Nat.lt_or_ge (j+1) (2^p)with h|h
 . exact h
 exfalso;rw [List.take_of_length_le (by rw [KX];exact h)]at h1;have h2:=VY hR (Y3 (2^p)) fun y hy=>Kw (Nat.two_pow_pos p) hy;rw [h1]at h2;simp only at h2;(have h3:0<(List.range (2^p)).countP (fun(x:Nat)=>(f x).isNone):=by omega);rw [List.countP_pos_iff]at h3;obtain⟨x,hx,hn⟩:=h3;have h4:=(K0 rest (Qe (2^p) rs) (Y3 (2^p)) (Ze p hp)).1 x;rw [h1,decide_eq_true (XJ hp (List.mem_range.1 hx)),Bool.or_true]at h4;simp only at h4;rw [Option.isNone_iff_eq_none]at hn;rw [hn]at h4;cases h4
theorem Q2v {s:Nat} {rest rs:List Nat} {m j:Nat} {f:Int->Option Int} (h:JY s rest rs m j f) (ho:(f (Ye s j:Nat)).isSome=false) {i:Nat} (hi:rest[m]?=some i) :
   JY s rest rs (m+1) j (fun x=>if x=(Ye s j:Int)then some (i:Int)else f x):=by
 obtain⟨hj,J,hJ,hv⟩:=h;refine⟨hj,j+1,.inr rfl,?_⟩
 have hJj:J=j:=by
   rcases hJ with rfl|rfl
   . rfl
   exfalso;rw [ZQ hj,YQ]at hv;unfold YG at hv;split at hv
   . next h=>rw [hv]at h;rw [ho]at h;cases h
   injection hv with h1 h2;have h3:=congrFun h1 (Ye s j:Nat);simp only [if_true]at h3;rw [<-h3]at ho;cases ho
 subst hJj;rw [ZQ hj,YQ,hv];unfold YG;rw [if_neg (by rw [ho];simp),hi];rfl
theorem Q2w {s:Nat} {rest rs:List Nat} {j:Nat} {f:Int->Option Int} (hR:rs.length+rest.length=s) (h:JY s rest rs rest.length j f):(Qy rest (Qe s rs) (Y3 s)).1=f:=by
 obtain⟨hj,J,hJ,hv⟩:=h
 have key:∀k,J+k<=s->Qy rest (Qe s rs) ((Y3 s).take (J+k))=(f,rest.length):=by
   intro k
   induction k with
   | zero=>intro _;exact hv
   | succ k ih =>
     intro hk;have h1:=ih (by omega);rw [show J+(k+1)=J+k+1 by omega,ZQ (by omega),YQ,h1];unfold YG;cases ho:((f,rest.length).1 (Ye s (J+k):Nat)).isSome
     . exfalso
       have h2:=Vr (rest:=rest) (rs:=rs) (pre:=(Y3 s).take (J+k)) (x:=Ye s (J+k)) (fun y hy=>Kw (by omega) (List.mem_of_mem_take hy)) (KA (by omega)) hR (by rw [h1];exact ho);rw [h1]at h2;exact absurd h2 (Nat.lt_irrefl _)
     rw [if_pos rfl]
 have h2:=key (s-J) (by omega);rw [show J+(s-J)=s by omega,List.take_of_length_le (by rw [KX];exact Nat.le_refl _)]at h2;rw [h2]
def JA (s:Nat) (f:Int->Option Int):List Int:=(List.range s).map fun(x:Nat)=>(f x).getD (-1)
@[simp] theorem Q0K (s:Nat) (f:Int->Option Int):(JA s f).length=s:=by simp [JA]
theorem Zk {s:Nat} {f:Int->Option Int} {x:Nat} (h:x<s):(JA s f)[x]?=some ((f x).getD (-1)):=by
 unfold JA;rw [List.getElem?_map,List.getElem?_range h];rfl
theorem XK {s:Nat} {f:Int->Option Int} {y:Nat} (i:Int) (h:y<s):(JA s f).set y i=JA s (fun x=>if x=(y:Int)then some i else f x):=by
 apply List.ext_getElem?;intro k;rw [List.getElem?_set,Q0K];by_cases hk:k<s
 . rw [Zk hk,Zk hk]
   by_cases hy:y=k
   . subst hy
     rw [if_pos rfl,if_pos hk,if_pos rfl];rfl
   rw [if_neg hy,if_neg (by omega)]
 rw [List.getElem?_eq_none (by simp;omega),List.getElem?_eq_none (by simp;omega),if_neg (by omega)]
theorem Q2x (s:Nat):JA s (Qe s [])=List.replicate s (-1):=by
 apply List.ext_getElem?;intro k;by_cases hk:k<s
 . rw [Zk hk,List.getElem?_replicate,if_pos hk]
   unfold Qe;(split<;>simp)
 rw [List.getElem?_eq_none (by simp;omega),List.getElem?_eq_none (by simp;omega)]
theorem Q3B {p:Nat} {N:List Int} (hv:Qg p N 256 9):JA (2^p) (Qy (Ql N) (Qe (2^p) (Qv N)) (Y3 (2^p))).1=Q7 p N:=by
 unfold JA Q7;apply List.map_congr_left;intro x hx;obtain⟨c,_,_,h⟩:=Ky hv (List.mem_range.1 hx);rw [h];rfl
def JI (f:Int->Option Int):Prop:=∀x v,f x=some v->0<=v
theorem JI.rare (s:Nat) (rs:List Nat):JI (Qe s rs):=by
 intro x v hx;unfold Qe at hx;split at hx
 . rcases hi:rs[((s:Int)-1-x).toNat]? with _|c
   . rw [hi]at hx;cases hx
   rw [hi]at hx;injection hx with hx;have:((c:Nat):Int)=v:=hx;omega
 cases hx
theorem JI.put {f:Int->Option Int} (h:JI f) (y:Int) (i:Nat):JI (fun x=>if x=y then some (i:Int)else f x):=by
 intro x v hx;simp only at hx;split at hx
 . injection hx with hx;omega
 exact h x v hx
theorem JI.some {f:Int->Option Int} (h:JI f) (x:Int):(f x).isSome=decide (0<=(f x).getD (-1)):=by
 rcases hx:f x with _|v
 . simp
 have:=h x v hx;simp [this]
theorem Q4I {N:List Int} {k m:Nat} (h:k<N.length) (h1:(Ql (N.take k)).length<=m) (h2:m<(Ql (N.take (k+1))).length):(Ql N)[m]?=some k:=by
 have e:Ql N=Ql (N.take (k+1))++Yg (k+1) (N.drop (k+1)):=by
   have key:∀(l:List Int) (i q:Nat),Yg i l=Yg i (l.take q)++Yg (i+q) (l.drop q):=by
     intro l
     induction l with
     | nil=>intro i q;simp [Yg]
     | cons v l ih =>
       intro i q
       cases q with
       | zero=>simp [Yg]
       | succ q =>
         simp only [List.take_succ_cons,List.drop_succ_cons,Yg,List.append_assoc];rw [ih (i+1) q,show i+1+q=i+(q+1) by omega]
   have:=key N 0 (k+1);rw [Nat.zero_add]at this;exact this
 rw [e,List.getElem?_append_left h2,Zw h,List.getElem?_append_right h1,List.getElem?_replicate,if_pos];rw [Zw h,List.length_append,List.length_replicate]at h2;omega
theorem Q3C (s:Nat) (w:World) (hs:s<=512) :
   Calls Tryz.prog 161 #[.int .i64 s] w fun e w'=>e = .returned (.int .i64 (Yd s:Nat))/\w=w':=by
 (have hsI:(s:Int)<=512:=by omega);refine Q6 fun R hR=>?_;by_cases h:s<16
 . have h1:(s:Int)<16:=by omega
   (have e:Yd s=1:=by unfold Yd;rw [if_pos h]);rw [e]at hR;clear h e hs;go_enter Tryz.func161,Tryz.ntmps161;go_wp2;(try go_ret);exact hR.out _ _ ⟨rfl,rfl⟩
 (have h1:¬(s:Int)<16:=by omega);(have e:((Yd s:Nat):Int)=(s:Int) / 2+(s:Int) / 8+3:=by unfold Yd;rw [if_neg h];omega);rw [e]at hR;clear h e hs;go_enter Tryz.func161,Tryz.ntmps161;go_wp2;(try go_ret);exact hR.out _ _ ⟨rfl,rfl⟩
theorem Q2y (F:Nat->Prop) (A:Option Addr) (n c p:Nat) (N:List Int) (w:World) (hr:Rd w F A n (Q1 N)) (hfit:Fit N) (hn:(n:Int)<=1099511627776) (hv:Qg p N 256 9) :
   Calls Tryz.prog 107 #[.agg #[.int .i64 p,.slice A n c]] w fun e w'=>∃g,e = .returned (.tuple #[.slice (some ⟨g,0,none⟩) (2^p) (2^p),.int .i64 0])/\Rd w' (fun b=>b=g) (some ⟨g,0,none⟩) (2^p) (Q1 (Q7 p N))/\w.heap.size<=g/\Q0 w w':=by
 (have hN:N.length=n:=by have:=hr.1;simpa using this);obtain⟨w0,hw0⟩:=nm_ (w.alloc (.cells #[.int .i64 p,.slice A n c] 29));obtain⟨H,hH⟩:=nm_ (w.heap.size);(have f0:Q0 w w0:=by rw [hw0];exact(Upd.refl _ _).alloc _);(have bt:Blk w0 H 29 #[.int .i64 p,.slice A n c]:=by rw [hw0];exact Q2 hH _ _);have hck:=Q3D F A n c p N w0 (hr.fresh f0) hfit hn;rw [if_pos hv]at hck;(have hp9:p<=9:=by have:=hv.2.1;omega);(have hn256:(n:Int)<=256:=by have:=hv.2.2.2.2.1;omega)
 have hge:∀(k:Nat) (h:k<N.length),-1<=N[k]/\N[k]<=512:=fun k h=>by
   have h1:=hv.2.2.2.2.2.2.1 _ (List.getElem_mem h);have h2:=Jo (List.getElem_mem h);rw [hv.2.2.2.2.2.2.2]at h2;have h3:=YF hp9;(have h4:((2:Int)^(p:Int).toNat)=((2^p:Nat):Int):=by simp);(have h5:N[k]<=QZ N[k]:=by unfold QZ;split<;>omega);omega
 have hspl:=Vt hv;have hall:=Q3B hv;have hocc:=fun(m j:Nat) (f:Int->Option Int)=>Q3A (p:=p) (rest:=Ql N) (rs:=Qv N) (m:=m) (j:=j) (f:=f) hp9 hspl;have HSZ:=hd_ (fun W=>Z5 p W hp9);have hpp:0<2^p:=Nat.two_pow_pos p;have hpw:=YF hp9;have HST:=hd_ (fun W=>Q3C (2^p) W hpw);obtain⟨s,hs⟩:=nm_ (2^p);obtain⟨L,hL⟩:=nm_ (Q7 p N);rw [<-hL]at hall;simp only [<-hL];simp only [<-hs]at hpw hpp HSZ HST hspl hall hocc ⊢;(have hstl:Yd s<=512:=by unfold Yd;split<;>omega);(have hsI:(s:Int)<=512:=by omega);(have hs0:0<(s:Int):=by omega)
 have hmk:∀W,(Instr.makeSlice 27 (.int .i64 (s:Int)) (.int .i64 (s:Int))).run Tryz.prog W = .ok (.slice (some ⟨W.heap.size,0,none⟩) s s) (W.alloc (.cells (madeCells #[.int .i64 0] s) 3)):=fun W=>by
   have:=run_make_row' (P:=Tryz.prog) 27 3 (.int .i64 0) 8 Tryz.underlying27 Yx rfl .i64 .i64 s (by omega) (by omega) W;simpa using this
 obtain⟨cs,hcs⟩:=nm_ (madeCells #[Value.int .i64 0] s);simp only [<-hcs]at hmk;have HCK:=hd_ hck;have HGE:=hd_ hge;have HSP:=hd_ hspl;have HALL:=hd_ hall;have HOCC:=hd_ hocc;have HBT:=hd_ bt;have F0:=hd_ f0;have HR:=hd_ (fun W (h:Q0 w W)=>hr.both.fresh h);have HN:=hd_ hN;have HW:=hd_ hw0;have HH:=hd_ hH;have HCS:=hd_ hcs;have HSTL:=hd_ hstl;clear hs hL bt f0 hr hN hw0 hH hcs hpw hpp hv hfit hck hge hspl hall hocc hstl hp9;refine Q6 fun R hR=>?_;go_enter Tryz.func107,Tryz.ntmps107;go_upto_region 1 with fail;simp only [<-HH.out,<-HW.out];obtain⟨t0,t1⟩:=(HBT.out).cells2;go_wp2_with fail;refine HCK.out.mono ?_;rintro e wa ⟨rfl,fa⟩;have HBA:=hd_ (HBT.out.fresh fa);have FA:=hd_ (F0.out.trans' fa);have s0:=HBA.out.cell 0;simp at s0;clear t0 t1 fa;go_wp2_with fail;refine(HSZ.out _).mono ?_;rintro e wx ⟨rfl,rfl⟩;go_upto_region 6 with fail;obtain⟨g,hg⟩:=nm_ (wa.heap.size);obtain⟨w1,hw1⟩:=nm_ (wa.alloc (.cells cs 3));simp only [<-hg,<-hw1];have HHG:=hd_ (show H<g by have:=HBA.out.lt;omega);(have BT1:Blk w1 H 29 #[.int .i64 p,.slice A n c]:=by rw [hw1];exact HBA.out.alloc _);(have BG0:Blk w1 g 3 cs:=by rw [hw1];exact Q2 hg _ _);have F1:=hd_ (show Q0 w w1 by rw [hw1];exact FA.out.alloc _);have HGW:=hd_ (show w.heap.size<=g by have:=FA.out.size;omega)
 have BG:Blk w1 g 3 (Q1 (Z6 (List.replicate s (-1)) (List.replicate s 0) 0)).toArray:=by
   have e:(Q1 (Z6 (List.replicate s (-1)) (List.replicate s 0) 0)).toArray=cs:=by
     rw [HCS.out,XL];exact Array.toList_inj.1 (by rw [toList_madeCells_one];simp [Q1])
   rw [e];exact BG0
 have HTB:=hd_ (show ∀W,Upd (fun b=>b=g) w1 W->W.cell? ⟨H,0,none⟩=some (.int .i64 p)/\W.cell? ⟨H,1,none⟩=some (.slice A n c)from fun W hu=>by
   have bb:=BT1.upd hu (by have:=HHG.out;omega)
   exact bb.cells2)
 have HRN:=hd_ (show ∀W,Upd (fun b=>b=g) w1 W->∀k,k<n->∃(b o:Nat) (hk':k<N.length),A=some ⟨b,o,none⟩/\b<W.heap.size/\W.cell? ⟨b,o+k,none⟩=some (.int .i64 N[k])from fun W hu k hk =>
   ((HR.out w1 F1.out).upd hu (fun b _ hb e=>by have h1:=hb.2;have h2:=HGW.out;omega)).int hk)
 have BGH:=hd_ BG;clear hg hw1 BT1 BG0 BG s0 hmk HBA HBT F0 FA HCK HR;go_wp2_with fail;go_loopg [7] s (fun f vi wr=>∃k,k+f=s/\vi = .int .i64 k/\Blk wr g 3 (Q1 (Z6 (List.replicate s (-1)) (List.replicate s 0) k)).toArray/\Upd (fun b=>b=g) w1 wr)
 case atStart=>exact⟨0,by omega,rfl,BGH.out,Upd.refl _ _⟩
 case round =>
   obtain⟨k,hk,rfl,bg,ur⟩:=hrel;have HK:=hd_ hk;have BK:=hd_ bg;have UR:=hd_ ur;have hfz:=bg.frozen k;clear bg ur;by_cases hlt:k<s
   . have hlI:(k:Int)<s:=by omega
     have hcl:wr.cell? ⟨g,k,none⟩=some (.int .i64 0):=by
       rw [BK.out.cell];have:=Q0L (R:=List.replicate s (-1)) (M:=List.replicate s 0) (k:=k) (by simp) (by simpa using hlt);simp only [Q1,List.getElem?_toArray,List.getElem?_map,this];simp [hlt]
     have bs:=BK.out.set_ k (.int .i64 (-1));rw [Ku,Q0M (by simp) (by simpa using hlt) (-1) (by simp [hlt])]at bs;have BS:=hd_ bs;have US:=hd_ (UR.out.setCell (p:=⟨g,k,none⟩) (fun _=>rfl) (.int .i64 (-1)));clear bs hk;go_wp2_with fail;go_roundg (gk-1)
     case measure=>have:=HK.out;omega
     case rel=>exact⟨k+1,by have:=HK.out;omega,by go_num,BS.out,US.out⟩
   (obtain rfl:k=s:=by have:=HK.out;omega);have hm:=Q0N (R:=List.replicate k (-1)) (M:=List.replicate k (0:Int)) (by simp);rw [List.length_replicate]at hm
   have bl:Blk wr g 3 (Q1 (JA k (Qe k []))).toArray:=by
     have:=BK.out;rw [hm]at this;rw [Q2x];exact this
   have BL:=hd_ bl;have hw32:IntKind.i64.wrap ((k:Int)-1)=k-1:=IntWalk.i64_in _ (by omega);clear bl hm BK hfz hk HK hlt BGH;go_wp2_with fail;go_loopg [8,9] n (fun f vt vi wr=>∃i,i+f=n/\vi = .int .i64 i/\vt = .int .i64 ((k:Int)-1-(Qv (N.take i)).length)/\Blk wr g 3 (Q1 (JA k (Qe k (Qv (N.take i))))).toArray/\Upd (fun b=>b=g) w1 wr)
   case atStart=>exact⟨0,by omega,rfl,by simp [Qv,QP],BL.out,UR.out⟩
   case round =>
     obtain⟨i,hi,rfl,rfl,bg,ur⟩:=hrel;have HI:=hd_ hi;have BI:=hd_ bg;have UI:=hd_ ur;obtain⟨q0,q1⟩:=HTB.out _ ur;(have hiI:(i:Int)<=256:=by omega);clear bg ur;by_cases hlt:i<n
     . have hltI:(i:Int)<n:=by omega
       obtain⟨b,o,hiN,rfl,_,hc⟩:=HRN.out _ UI.out i hlt;have HTK:=hd_ (VZ hiN)
       have hRL:(Qv (N.take (i+1))).length<=k:=by
         have h1:(Qv N).length=(Qv (N.take (i+1))).length+(QP (i+1) (N.drop (i+1))).length:=by
           have key:∀(l:List Int) (j q:Nat),QP j l=QP j (l.take q)++QP (j+q) (l.drop q):=by
             intro l
             induction l with
             | nil=>intro j q;simp [QP]
             | cons v l ih =>
               intro j q
               cases q with
               | zero=>simp [QP]
               | succ q =>
                 simp only [List.take_succ_cons,List.drop_succ_cons,QP];rw [ih (j+1) q,show j+1+q=j+(q+1) by omega];(split<;>simp)
           have:=key N 0 (i+1);rw [Nat.zero_add]at this;unfold Qv;rw [this,List.length_append]
         have:=HSP.out;omega
       obtain⟨rs,hrs⟩:=nm_ (Qv (N.take i));simp only [<-hrs]at BI HTK ⊢;rw [HTK.out]at hRL;generalize N[i]=z at *;by_cases hz:z=-1
       . have hzb:(z == -1)=true:=by simpa using hz
         rw [if_pos hz]at HTK hRL;rw [List.length_append]at hRL;(have hR1:rs.length+1<=k:=by simpa using hRL);obtain⟨t,ht⟩:∃t:Nat,t+1+rs.length=k:=⟨k-1-rs.length,by omega⟩;(have htI:(k:Int)-1-rs.length=t:=by omega);(have htlt:(t:Int)<k:=by omega);(have htk:t<k:=by omega);have hfz:=BI.out.frozen t;have hcl:∃v,wr.cell? ⟨g,t,none⟩=some v:=⟨_,by rw [BI.out.cell];simp only [Q1,List.getElem?_toArray,List.getElem?_map,Zk htk];rfl⟩;obtain⟨v0,hcl⟩:=hcl;have bs:=BI.out.set_ t (.int .i64 (i:Int));rw [Ku,XK _ htk,<-htI,ZL,<-HTK.out]at bs;have BS:=hd_ bs;have US:=hd_ (UI.out.setCell (p:=⟨g,t,none⟩) (fun _=>rfl) (.int .i64 (i:Int)));have HLN:=hd_ (show(Qv (N.take (i+1))).length=rs.length+1 by rw [HTK.out];simp);have hw33:IntKind.i64.wrap ((t:Int)-1)=t-1:=IntWalk.i64_in _ (by omega);have HTI:=hd_ htI;rw [htI];clear bs hi hz hRL hR1 ht htk hrs htI;go_wp2_with fail;go_roundg (gk-1)
         case measure=>have:=HI.out;omega
         case rel=>exact⟨i+1,by have:=HI.out;omega,by go_num,by rw [HLN.out];congr 1;have:=HTI.out;omega,BS.out,US.out⟩
       (have hzb:(z == -1)=false:=by simpa using hz);rw [if_neg hz,List.append_nil]at HTK;clear hi hz hRL hrs;go_wp2_with fail;go_roundg (gk-1)
       case measure=>have:=HI.out;omega
       case rel=>exact⟨i+1,by have:=HI.out;omega,by go_num,by rw [HTK.out],by rw [HTK.out];exact BI.out,UI.out⟩
     (obtain rfl:i=n:=by have:=HI.out;omega);have htn:N.take i=N:=List.take_of_length_le (by have:=HN.out;omega);rw [htn]at BI ⊢;have hps:=Q1u (Ql N) (Qv N) (show 0<k by omega);have hwn:=JI.rare k (Qv N);(have hm0:(Ql (N.take 0)).length=0:=by simp [Ql,Yg]);(have hti0:Ye k 0=0:=by simp [Ye]);have HPS:=hd_ hps;have HWN:=hd_ hwn;have HM0:=hd_ hm0;have HT0:=hd_ hti0;clear hps hwn hm0 hti0 hi HI hlt htn;go_wp2_with fail;go_loopg [10,11] i (fun f va vi wr=>∃(x j:Nat) (fn:Int->Option Int),x+f=i/\vi = .int .i64 x/\va = .int .i64 (Ye k j:Nat)/\JY k (Ql N) (Qv N) (Ql (N.take x)).length j fn/\JI fn/\Blk wr g 3 (Q1 (JA k fn)).toArray/\Upd (fun b=>b=g) w1 wr)
     case atStart=>exact⟨0,0,_,by omega,rfl,by rw [HT0.out];rfl,by rw [HM0.out];exact HPS.out,HWN.out,BI.out,UI.out⟩
     case round =>
       obtain⟨x,j,fn,hx,rfl,rfl,pj,nn,bg,ur⟩:=hrel;have HX:=hd_ hx;have PJ:=hd_ pj;have NN:=hd_ nn;have BX:=hd_ bg;have UX:=hd_ ur;obtain⟨q0,q1⟩:=HTB.out _ ur;(have hxI:(x:Int)<=256:=by omega);(have htI:(Ye k j:Int)<k:=by have:=KA (s:=k) (j:=j) (by omega);omega);clear pj nn bg ur;by_cases hlt:x<i
       . have hltI:(x:Int)<i:=by omega
         obtain⟨b,o,hxN,rfl,_,hc⟩:=HRN.out _ UX.out x hlt;have HGX:=hd_ (HGE.out x hxN);have HRX:=hd_ (Zw hxN);have HRA:=hd_ (fun m=>Q4I (m:=m) hxN)
         have HCX:=hd_ (show ∀W,Upd (fun b=>b=g) w1 W->W.cell? ⟨b,o+x,none⟩=some (.int .i64 N[x])from fun W hu=>by
           obtain⟨b',o',hx',he,_,hc'⟩:=HRN.out W hu x hlt;injection he with he;injection he with h1 h2;subst h1 h2
           exact hc')
         obtain⟨z,hz⟩:=nm_ (N[x]);simp only [<-hz]at HGX HRX HCX;obtain⟨m0,hm0⟩:=nm_ ((Ql (N.take x)).length);have HRL:=hd_ (show(Ql (N.take (x+1))).length=m0+z.toNat by rw [HRX.out,List.length_append,List.length_replicate,hm0]);simp only [<-hm0,HRL.out]at PJ HRA ⊢;clear hx hz hm0 HRX hc;go_wp2_with fail;go_loopg [10,12] z.toNat (fun f va vq wr=>∃(q j:Nat) (fn:Int->Option Int),q+f=z.toNat/\vq = .int .i64 q/\va = .int .i64 (Ye k j:Nat)/\JY k (Ql N) (Qv N) (m0+q) j fn/\JI fn/\Blk wr g 3 (Q1 (JA k fn)).toArray/\Upd (fun b=>b=g) w1 wr)
         case atStart=>exact⟨0,j,fn,by omega,rfl,rfl,PJ.out,NN.out,BX.out,UX.out⟩
         case round =>
           clear BX UX PJ NN q0 q1 htI;obtain⟨q,j,fn,hq,rfl,rfl,pj,nn,bg,ur⟩:=hrel;have HQ:=hd_ hq;have PJ:=hd_ pj;have NN:=hd_ nn;have BQ:=hd_ bg;have UQ:=hd_ ur;obtain⟨q0,q1⟩:=HTB.out _ ur;have hcx:=HCX.out _ ur;(have htI:(Ye k j:Int)<k:=by have:=KA (s:=k) (j:=j) (by omega);omega);clear pj nn bg ur;by_cases hqz:(q:Int)<z
           . have hz512:=HGX.out.2
             (have hqz':q<z.toNat:=by omega);have HRE:=hd_ (HRA.out (m0+q) (by omega) (by omega))
             have hrl:m0+q<(Ql N).length:=by
               have h:=HRE.out;rcases Nat.lt_or_ge (m0+q) (Ql N).length with h1|h1
               . exact h1
               rw [List.getElem?_eq_none h1]at h;cases h
             have HRR:=hd_ hrl;clear hrl hq;go_wp2_with fail;go_loopg [10] (k-j) (fun f va wx=>∃(j:Nat),wx=wr/\j+f=k/\va = .int .i64 (Ye k j:Nat)/\JY k (Ql N) (Qv N) (m0+q) j fn)
             case atStart=>exact⟨j,rfl,by have:=PJ.out.1;omega,rfl,PJ.out⟩
             case round =>
               obtain⟨j,rfl,hj,rfl,pj⟩:=hrel;have PJ:=hd_ pj;have hlt':=KA (s:=k) (j:=j) (by omega);have hcl:=BQ.out.cell (Ye k j);have hg:=Zk (f:=fn) hlt';simp only [Q1,List.getElem?_toArray,List.getElem?_map,hg,Option.map_some]at hcl;have hsm:=NN.out.some (Ye k j:Nat);(have htI:(Ye k j:Int)<k:=by omega);have HSC:=hd_ (Q2u k j);obtain⟨v,hv⟩:=nm_ ((fn (Ye k j:Nat)).getD (-1));rw [<-hv]at hcl hsm;have HOC:=hd_ (fun h=>HOCC.out (m0+q) j fn PJ.out h HRR.out);have HFR:=hd_ (fun h=>Q2v PJ.out h HRE.out);have HJ:=hd_ hj;have bs:=BQ.out.set_ (Ye k j) (.int .i64 (x:Int));have hfz:=BQ.out.frozen (Ye k j);rw [Ku,XK _ hlt']at bs;have HNP:=hd_ (NN.out.put (Ye k j:Nat) x);obtain⟨tj,htj⟩:=nm_ (Ye k j);have HTJ:=hd_ htj;have US:=hd_ (UQ.out.setCell (p:=⟨g,tj,none⟩) (fun _=>rfl) (.int .i64 (x:Int)));simp only [<-htj]at hcl hfz bs htI HSC HNP HOC HFR hsm ⊢;have BS:=hd_ bs;clear pj hg hv bs hj htj;by_cases h0:0<=v
               . rw [decide_eq_true h0]at hsm
                 have PJ2:=hd_ (HOC.out hsm);(have hst:(Yd k:Int)<=512:=by have:=HSTL.out;omega);clear hsm HFR HOC BS hfz;go_wp2_with fail;refine(HST.out _).mono ?_;rintro e wx ⟨rfl,rfl⟩;go_wp2_with fail;go_roundg (gk-1)
                 case measure=>have:=HJ.out;have:=PJ2.out.1;omega
                 case rel=>exact⟨j+1,rfl,by have:=HJ.out;have:=PJ2.out.1;omega,by rw [HSC.out];simp,PJ2.out⟩
               rw [decide_eq_false h0]at hsm;have PJ2:=hd_ (HFR.out hsm);clear hsm HFR HOC;go_wp2_with fail;go_roundg (z.toNat-(q+1))
               case measure=>have:=HQ.out;omega
               case rel =>
                 refine⟨q+1,j,_,by have:=HQ.out;omega,by go_num,by rw [HTJ.out],?_,HNP.out,BS.out,US.out⟩;exact PJ2.out
           (obtain rfl:q=z.toNat:=by omega);clear hq;go_wp2_with fail;go_roundg (i-(x+1))
           case measure=>have:=HX.out;omega
           case rel=>exact⟨x+1,j,fn,by have:=HX.out;omega,by go_num,rfl,by rw [HRL.out];exact PJ.out,NN.out,BQ.out,UQ.out⟩
       (obtain rfl:x=i:=by have:=HX.out;omega);have htn:N.take x=N:=List.take_of_length_le (by have:=HN.out;omega);have hpj:=PJ.out;rw [htn]at hpj;have hdn:=Q2w HSP.out hpj;have hfin:=HALL.out;rw [hdn]at hfin;have bf:=BX.out;rw [hfin]at bf;have rd:=bf.rdg (n:=k) (by rw [<-hfin];simp);clear hx HX hlt PJ NN hpj hdn hfin;go_wp2_with fail;(try go_ret2);exact hR.out _ _ ⟨g,rfl,rd,HGW.out,F1.out.trans UX.out (fun b hb e=>by have:=HGW.out;omega)⟩
end Go.Proofs.YtjfdaphjijfieaaGreat
