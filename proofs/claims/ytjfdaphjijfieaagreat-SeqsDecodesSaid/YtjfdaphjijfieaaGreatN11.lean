/-
  Joined texts, part 11: contracts and plain lemmas.
  Conditions: none beyond those of each theorem.
-/
import Derived.Test.YtjfdaphjijfieaaGreatShelf
import Derived.Test.YtjfdaphjijfieaaGreatN4
import Derived.Laws.EntriesVeiled
set_option maxHeartbeats 400000
set_option linter.unusedVariables false
set_option linter.unusedSimpArgs false
set_option maxRecDepth 100000
universe u
namespace Go.Proofs.YtjfdaphjijfieaaGreat
open Go.RowKit
def Yp (c:Nat):Nat:=if c<16 then 0 else c / 2-5
def YS (c:Nat):Nat:=if c<16 then c else(2+c%2)*2^(c / 2-5)
theorem Q0l (c:Nat) (w:World) (hc:c<64) (h16:16<=c):Calls Tryz.prog 192 #[.int .i64 (c:Nat)] w fun e w'=>e = .returned (.int .i64 ((c / 2-5:Nat):Int))/\w'=w:=by
 (have h1:max (((c:Int) / 2)-5) 0=((c / 2-5:Nat):Int):=by omega);go_enter Tryz.func192,Tryz.ntmps192;go_wp2_with fail;(all_goals try go_ret);(all_goals exact⟨by first|rfl|(rw [<-h1];rfl)|(congr 2;omega),rfl⟩)
theorem Q3Z (c g:Nat) (w:World) (hc:c<64) (hg:w.cell? ⟨g,0,none⟩=some (.func (.func 192) #[] #[])):Calls Tryz.prog 194 #[.int .i64 (c:Nat),.pointer (some ⟨g,0,none⟩)] w fun e w'=>e = .returned (.int .i64 (Yp c:Nat))/\w'=w:=by
 unfold Yp;refine Q6 fun R hR=>?_;by_cases h16:c<16
 . rw [if_pos h16]at hR
   (have h16I:(c:Int)<16:=by omega);go_enter Tryz.func194,Tryz.ntmps194;go_wp2_with fail;(try go_ret);exact hR.out _ _ ⟨rfl,rfl⟩
 rw [if_neg h16]at hR;(have h16I:¬(c:Int)<16:=by omega);have H1:=hd_ (Q0l c w hc (by omega));go_enter Tryz.func194,Tryz.ntmps194;go_wp2_with fail;refine H1.out.mono ?_;rintro e w1 ⟨rfl,rfl⟩;go_wp2_with fail;(try go_ret);exact hR.out _ _ ⟨rfl,rfl⟩
theorem Q40 (c g:Nat) (w:World) (hc:c<64) (hg:w.cell? ⟨g,0,none⟩=some (.func (.func 192) #[] #[])):Calls Tryz.prog 195 #[.int .i64 (c:Nat),.pointer (some ⟨g,0,none⟩)] w fun e w'=>e = .returned (.int .i64 (YS c:Nat))/\w'=w:=by
 unfold YS;refine Q6 fun R hR=>?_;by_cases h16:c<16
 . rw [if_pos h16]at hR
   (have h16I:(c:Int)<16:=by omega);go_enter Tryz.func195,Tryz.ntmps195;go_wp2_with fail;(try go_ret);exact hR.out _ _ ⟨rfl,rfl⟩
 rw [if_neg h16]at hR;(have h16I:¬(c:Int)<16:=by omega);have H1:=hd_ (Q0l c w hc (by omega));(have hk:c / 2-5<=26:=by omega)
 have hand:bits .and .i64 (c:Int) 1=((c%2:Nat):Int):=by
   (have:∀x:Fin 64,bits .and .i64 ((x.val:Nat):Int) 1=((x.val%2:Nat):Int):=by decide);exact this ⟨c,hc⟩
 have hm:c%2<2:=Nat.mod_lt _ (by decide);generalize c / 2-5=k at *;generalize c%2=b at *;(have e2:((2:Int)^k)=((2^k:Nat):Int):=by simp);have hpk:2^k<=67108864:=Nat.le_trans (Nat.pow_le_pow_right (by decide) hk) (by decide);have s1:IntKind.i64.wrap (2+(b:Int))=2+b:=IntWalk.i64_in _ (by omega);have hmul:(2+b)*2^k<=3*67108864:=Nat.mul_le_mul (by omega) hpk;(have e3:(2+(b:Int))*2^k=(((2+b)*2^k:Nat):Int):=by rw [e2];simp);(have s2:wrap64 ((2+(b:Int))*2^k)=(((2+b)*2^k:Nat):Int):=by rw [e3];unfold wrap64;omega);have S2:=hd_ s2;clear s2 e2 e3 hpk hmul;go_enter Tryz.func195,Tryz.ntmps195;go_wp2_with fail;refine H1.out.mono ?_;rintro e w1 ⟨rfl,rfl⟩;go_wp2_with fail;(try go_ret);exact hR.out _ _ ⟨by rw [S2.out];rfl,rfl⟩
theorem Vk (x a b:Int) (w:World):Calls Tryz.prog 196 #[.int .i64 x,.int .i64 a,.int .i64 b] w fun e w'=>e = .returned (.int .i64 (if x<a\/b<=x then 2 else 0))/\w'=w:=by
 refine Q6 fun R hR=>?_;by_cases h1:x<a
 . rw [if_pos (.inl h1)]at hR
   have h1b:decide (x<a)=true:=decide_eq_true h1;go_enter Tryz.func196,Tryz.ntmps196;go_wp2_with fail;(try go_ret);exact hR.out _ _ ⟨rfl,rfl⟩
 have h1b:decide (x<a)=false:=decide_eq_false h1;by_cases h2:b<=x
 . rw [if_pos (.inr h2)]at hR
   have h2b:decide (b<=x)=true:=decide_eq_true h2;go_enter Tryz.func196,Tryz.ntmps196;go_wp2_with fail;(try go_ret);exact hR.out _ _ ⟨rfl,rfl⟩
 rw [if_neg (fun q=>q.elim h1 h2)]at hR;have h2b:decide (b<=x)=false:=decide_eq_false h2;go_enter Tryz.func196,Tryz.ntmps196;go_wp2_with fail;(try go_ret);exact hR.out _ _ ⟨rfl,rfl⟩
theorem Vl (x a b:Int) (w:World):Calls Tryz.prog 197 #[.int .u64 x,.int .u64 a,.int .u64 b] w fun e w'=>e = .returned (.int .i64 (if x<a\/b<=x then 2 else 0))/\w'=w:=by
 refine Q6 fun R hR=>?_;by_cases h1:x<a
 . rw [if_pos (.inl h1)]at hR
   have h1b:decide (x<a)=true:=decide_eq_true h1;go_enter Tryz.func197,Tryz.ntmps197;go_wp2_with fail;(try go_ret);exact hR.out _ _ ⟨rfl,rfl⟩
 have h1b:decide (x<a)=false:=decide_eq_false h1;by_cases h2:b<=x
 . rw [if_pos (.inr h2)]at hR
   have h2b:decide (b<=x)=true:=decide_eq_true h2;go_enter Tryz.func197,Tryz.ntmps197;go_wp2_with fail;(try go_ret);exact hR.out _ _ ⟨rfl,rfl⟩
 rw [if_neg (fun q=>q.elim h1 h2)]at hR;have h2b:decide (b<=x)=false:=decide_eq_false h2;go_enter Tryz.func197,Tryz.ntmps197;go_wp2_with fail;(try go_ret);exact hR.out _ _ ⟨rfl,rfl⟩
def Zm (g:Nat):Array Value:=#[.int .i64 0,.int .i64 262144,.int .i64 44,.func (.func 193) #[] #[],.func (.func 194) #[] #[.pointer (some ⟨g,0,none⟩)],.func (.func 195) #[] #[.pointer (some ⟨g,0,none⟩)]]
def ZD:Array Value:=#[.int .i64 1,.int .i64 268435456,.int .i64 28,.func (.func 198) #[] #[],.func (.func 199) #[] #[],.func (.func 200) #[] #[]]
theorem Vm (w:World):Calls Tryz.prog 164 #[] w fun e w'=>∃g,e = .returned (.agg (Zm g))/\w'.cell? ⟨g,0,none⟩=some (.func (.func 192) #[] #[])/\g<w'.heap.size/\Q0 w w':=by
 refine Q6 fun R hR=>?_;go_enter Tryz.func164,Tryz.ntmps164;go_wp2_with fail;refine bodyPost_ret (results_cell_row rfl _ _ w.heap.size _ (Zm (w.heap.size+1)) _ _ rfl ((Q2 rfl _ _).alloc _) Tryz.underlying260 rfl (by kernel_rfl)) rfl ?_;refine hR.out _ _ ⟨w.heap.size+1,rfl,?_,by simp,((Upd.refl _ _).alloc _).alloc _⟩;have b:=Q2 (w:=w.alloc (.cells (Zm (w.heap.size+1)) 260)) (k:=w.heap.size+1) (by simp) 123 #[.func (.func 192) #[] #[]];simp
theorem Vn (w:World):Calls Tryz.prog 168 #[] w fun e w'=>e = .returned (.agg ZD)/\Q0 w w':=by
 refine Q6 fun R hR=>?_;go_enter Tryz.func168,Tryz.ntmps168;go_wp2_with fail;refine bodyPost_ret (results_cell_row rfl _ _ w.heap.size _ ZD _ _ rfl (Q2 rfl _ _) Tryz.underlying260 rfl (by kernel_rfl)) rfl ?_;exact hR.out _ _ ⟨rfl,(Upd.refl _ _).alloc _⟩
theorem Q41 (c:Nat) (w:World):Calls Tryz.prog 199 #[.int .i64 (c:Nat)] w fun e w'=>e = .returned (.int .i64 (c:Nat))/\w'=w:=by
 go_enter Tryz.func199,Tryz.ntmps199;go_wp2_with fail;(try go_ret);exact⟨rfl,rfl⟩
theorem Q42 (c:Nat) (w:World) (hc:c<60):Calls Tryz.prog 200 #[.int .i64 (c:Nat)] w fun e w'=>e = .returned (.int .i64 (2^c:Nat))/\w'=w:=by
 (have e2:((2:Int)^c)=((2^c:Nat):Int):=by simp);have hp:2^c<=1152921504606846976:=Nat.le_trans (Nat.pow_le_pow_right (by decide) (show c<=60 by omega)) (by decide)
 have s1:wrap64 ((2:Int)^c)=((2^c:Nat):Int):=by
   rw [e2];generalize 2^c=q at *;unfold wrap64;omega
 have S1:=hd_ s1;clear s1 e2 hp;go_enter Tryz.func200,Tryz.ntmps200;go_wp2_with fail;(try go_ret);exact⟨by rw [S1.out];rfl,rfl⟩
theorem Xy (c g:Nat) (w:World) (hc:c<44) (hg:w.cell? ⟨g,0,none⟩=some (.func (.func 192) #[] #[])) (hgl:g<w.heap.size) :
   Calls Tryz.prog 166 #[.agg (Zm g),.int .i64 (c:Nat)] w fun e w'=>e = .returned (.tuple #[.int .i64 (Yp c:Nat),.int .i64 0])/\Q0 w w':=by
 obtain⟨w0,hw0⟩:=nm_ (w.alloc (.cells (Zm g) 260));obtain⟨H,hH⟩:=nm_ (w.heap.size);(have f0:Q0 w w0:=by rw [hw0];exact(Upd.refl _ _).alloc _);(have bk:Blk w0 H 260 (Zm g):=by rw [hw0];exact Q2 hH _ _);have k2:=bk.cell 2;have k4:=bk.cell 4;simp [Zm]at k2 k4;(have hg0:w0.cell? ⟨g,0,none⟩=some (.func (.func 192) #[] #[]):=by rw [f0.cells _ _ hgl];exact hg);have H3:=hd_ (Q3Z c g w0 (by omega) hg0);have HI:=hd_ (Vk (c:Nat) 0 44 w0);rw [if_neg (by omega)]at HI;have F0:=hd_ f0;have HW:=hd_ hw0;have HH:=hd_ hH;clear hw0 hH f0 bk hg hg0;refine Q6 fun R hR=>?_;go_enter Tryz.func166,Tryz.ntmps166;go_upto_region 1 with fail;simp only [<-HH.out,<-HW.out];go_wp2_with fail;refine HI.out.mono ?_;rintro e w1 ⟨rfl,rfl⟩;go_wp2_with fail;refine H3.out.mono ?_;rintro e w1 ⟨rfl,rfl⟩;go_wp2_with fail;(try go_ret);exact hR.out _ _ ⟨rfl,F0.out⟩
theorem Xz (c:Nat) (w:World) (hc:c<28) :
   Calls Tryz.prog 166 #[.agg ZD,.int .i64 (c:Nat)] w fun e w'=>e = .returned (.tuple #[.int .i64 (c:Nat),.int .i64 0])/\Q0 w w':=by
 obtain⟨w0,hw0⟩:=nm_ (w.alloc (.cells ZD 260));obtain⟨H,hH⟩:=nm_ (w.heap.size);(have f0:Q0 w w0:=by rw [hw0];exact(Upd.refl _ _).alloc _);(have bk:Blk w0 H 260 ZD:=by rw [hw0];exact Q2 hH _ _);have k2:=bk.cell 2;have k4:=bk.cell 4;simp [ZD]at k2 k4;have H3:=hd_ (Q41 c w0);have HI:=hd_ (Vk (c:Nat) 0 28 w0);rw [if_neg (by omega)]at HI;have F0:=hd_ f0;have HW:=hd_ hw0;have HH:=hd_ hH;clear hw0 hH f0 bk;refine Q6 fun R hR=>?_;go_enter Tryz.func166,Tryz.ntmps166;go_upto_region 1 with fail;simp only [<-HH.out,<-HW.out];go_wp2_with fail;refine HI.out.mono ?_;rintro e w1 ⟨rfl,rfl⟩;go_wp2_with fail;refine H3.out.mono ?_;rintro e w1 ⟨rfl,rfl⟩;go_wp2_with fail;(try go_ret);exact hR.out _ _ ⟨rfl,F0.out⟩
theorem Q1V (c r g:Nat) (w:World) (hc:c<44) (hr:r<2^(Yp c)) (hg:w.cell? ⟨g,0,none⟩=some (.func (.func 192) #[] #[])) (hgl:g<w.heap.size) :
   Calls Tryz.prog 167 #[.agg (Zm g),.int .i64 (c:Nat),.int .u64 (r:Nat)] w fun e w'=>e = .returned (.tuple #[.int .i64 (YS c+r:Nat),.int .i64 0])/\Q0 w w':=by
 obtain⟨w0,hw0⟩:=nm_ (w.alloc (.cells (Zm g) 260));obtain⟨H,hH⟩:=nm_ (w.heap.size);(have f0:Q0 w w0:=by rw [hw0];exact(Upd.refl _ _).alloc _);(have bk:Blk w0 H 260 (Zm g):=by rw [hw0];exact Q2 hH _ _);have q0:=bk.cell 0;have q1:=bk.cell 1;have q2:=bk.cell 2;have q3:=bk.cell 3;have q4:=bk.cell 4;have q5:=bk.cell 5;simp [Zm]at q0 q1 q2 q3 q4 q5;(have hg0:w0.cell? ⟨g,0,none⟩=some (.func (.func 192) #[] #[]):=by rw [f0.cells _ _ hgl];exact hg);have HM:=hd_ (Xy c g w0 hc hg0 (Nat.lt_of_lt_of_le hgl f0.size));(have hbb:Yp c<=27:=by unfold Yp;split<;>omega);have hpb:2^(Yp c)<=134217728:=Nat.le_trans (Nat.pow_le_pow_right (by decide) hbb) (by decide)
 have hfb:YS c<=268435456:=by
   (have hx:c / 2-5<=16:=by omega);have hy:2^(c / 2-5)<=65536:=Nat.le_trans (Nat.pow_le_pow_right (by decide) hx) (by decide);have hz:(2+c%2)*2^(c / 2-5)<=3*65536:=Nat.mul_le_mul (by omega) hy;unfold YS;(split<;>omega)
 have HI:=hd_ (fun W=>Vl (r:Nat) 0 ((2^(Yp c):Nat):Int) W);rw [if_neg (by omega)]at HI;have H4:=hd_ (fun W (h:Q0 w0 W)=>Q40 c g W (by omega) (by rw [h.cells _ _ (Nat.lt_of_lt_of_le hgl f0.size)];exact hg0));have F0:=hd_ f0;have HW:=hd_ hw0;have HH:=hd_ hH;have BK:=hd_ bk;clear hw0 hH f0 bk hg hg0 hgl;obtain⟨pw,hpw⟩:=nm_ (2^(Yp c));rw [<-hpw]at hr hpb;simp only [<-hpw]at HI;(have e2:((2:Int)^(Yp c))=(pw:Nat):=by rw [hpw];simp);clear hpw;generalize YS c=fi at *;generalize Yp c=bi at *;(have s1:IntKind.u64.wrap ((2:Int)^bi)=((pw:Nat):Int):=by rw [IntKind.wrap_u64,e2];omega);(have s2:wrap64 (r:Int)=r:=by unfold wrap64;omega);(have s3:IntKind.i64.wrap ((fi:Int)+r)=((fi+r:Nat):Int):=by rw [IntWalk.i64_in _ (by omega)];omega);have s4:IntKind.i64.wrap (r:Int)=r:=IntWalk.i64_in _ (by omega);(have s5:(fi:Int)+r=((fi+r:Nat):Int):=by omega);have HS5:=hd_ s5;clear e2 s5;refine Q6 fun R hR=>?_;go_enter Tryz.func167,Tryz.ntmps167;go_upto_region 1 with fail;simp only [<-HH.out,<-HW.out];go_wp2_with fail;refine HM.out.mono ?_;rintro e w1 ⟨rfl,f1⟩;have q5':=(BK.out.fresh f1).cell 5;simp [Zm]at q5';have F1:=hd_ f1;clear f1;go_wp2_with fail;refine(HI.out _).mono ?_;rintro e w2 ⟨rfl,rfl⟩;go_wp2_with fail;refine(H4.out _ F1.out).mono ?_;rintro e w2 ⟨rfl,rfl⟩;go_wp2_with fail;(try go_ret);refine hR.out _ _ ⟨?_,F0.out.trans' F1.out⟩;(first|rfl|(rw [HS5.out];rfl)|(simp;omega))
theorem Q1W (c r:Nat) (w:World) (hc:c<28) (hr:r<2^(c)) :
   Calls Tryz.prog 167 #[.agg ZD,.int .i64 (c:Nat),.int .u64 (r:Nat)] w fun e w'=>e = .returned (.tuple #[.int .i64 (2^c+r:Nat),.int .i64 0])/\Q0 w w':=by
 obtain⟨w0,hw0⟩:=nm_ (w.alloc (.cells ZD 260));obtain⟨H,hH⟩:=nm_ (w.heap.size);(have f0:Q0 w w0:=by rw [hw0];exact(Upd.refl _ _).alloc _);(have bk:Blk w0 H 260 ZD:=by rw [hw0];exact Q2 hH _ _);have q0:=bk.cell 0;have q1:=bk.cell 1;have q2:=bk.cell 2;have q3:=bk.cell 3;have q4:=bk.cell 4;have q5:=bk.cell 5;simp [ZD]at q0 q1 q2 q3 q4 q5;have HM:=hd_ (Xz c w0 hc);(have hbb:c<=27:=by omega);have hpb:2^(c)<=134217728:=Nat.le_trans (Nat.pow_le_pow_right (by decide) hbb) (by decide);(have hfb:2^c<=268435456:=by exact Nat.le_trans (Nat.pow_le_pow_right (by decide) (show c<=28 by omega)) (by decide));have HI:=hd_ (fun W=>Vl (r:Nat) 0 ((2^(c):Nat):Int) W);rw [if_neg (by omega)]at HI;have H4:=hd_ (fun W (h:Q0 w0 W)=>Q42 c W (by omega));have F0:=hd_ f0;have HW:=hd_ hw0;have HH:=hd_ hH;have BK:=hd_ bk;clear hw0 hH f0 bk;obtain⟨pw,hpw⟩:=nm_ (2^(c));rw [<-hpw]at hr hpb hfb;simp only [<-hpw]at HI H4;rw [<-hpw];(have e2:((2:Int)^(c))=(pw:Nat):=by rw [hpw];simp);clear hpw;(have s1:IntKind.u64.wrap ((2:Int)^c)=((pw:Nat):Int):=by rw [IntKind.wrap_u64,e2];omega);(have s2:wrap64 (r:Int)=r:=by unfold wrap64;omega);(have s3:IntKind.i64.wrap ((pw:Int)+r)=((pw+r:Nat):Int):=by rw [IntWalk.i64_in _ (by omega)];omega);have s4:IntKind.i64.wrap (r:Int)=r:=IntWalk.i64_in _ (by omega);(have s5:(pw:Int)+r=((pw+r:Nat):Int):=by omega);have HS5:=hd_ s5;clear e2 s5;refine Q6 fun R hR=>?_;go_enter Tryz.func167,Tryz.ntmps167;go_upto_region 1 with fail;simp only [<-HH.out,<-HW.out];go_wp2_with fail;refine HM.out.mono ?_;rintro e w1 ⟨rfl,f1⟩;have q5':=(BK.out.fresh f1).cell 5;simp [ZD]at q5';have F1:=hd_ f1;clear f1;go_wp2_with fail;refine(HI.out _).mono ?_;rintro e w2 ⟨rfl,rfl⟩;go_wp2_with fail;refine(H4.out _ F1.out).mono ?_;rintro e w2 ⟨rfl,rfl⟩;go_wp2_with fail;(try go_ret);refine hR.out _ _ ⟨?_,F0.out.trans' F1.out⟩;(first|rfl|(rw [HS5.out];rfl)|(simp;omega))
theorem Q03 (c:Nat) (w:World) (hc:c<44) :
   Calls Tryz.prog 113 #[.int .i64 (c:Nat)] w fun e w'=>e = .returned (.tuple #[.int .i64 (Yp c:Nat),.int .i64 0])/\Q0 w w':=by
 have HK:=hd_ (Vm w);refine Q6 fun R hR=>?_;go_enter Tryz.func113,Tryz.ntmps113;go_wp2_with fail;refine HK.out.mono ?_;rintro e w1 ⟨g,rfl,hg,hgl,f1⟩;have F1:=hd_ f1;have HM:=hd_ (Xy c g w1 hc hg hgl);clear f1;go_wp2_with fail;refine HM.out.mono ?_;rintro e w2 ⟨rfl,f2⟩;have F2:=hd_ (F1.out.trans' f2);clear f2;go_wp2_with fail;(try go_ret);exact hR.out _ _ ⟨rfl,F2.out⟩
theorem Xd (c:Nat) (w:World) (hc:c<28) :
   Calls Tryz.prog 116 #[.int .i64 (c:Nat)] w fun e w'=>e = .returned (.tuple #[.int .i64 (c:Nat),.int .i64 0])/\Q0 w w':=by
 have HK:=hd_ (Vn w);refine Q6 fun R hR=>?_;go_enter Tryz.func116,Tryz.ntmps116;go_wp2_with fail;refine HK.out.mono ?_;rintro e w1 ⟨rfl,f1⟩;have F1:=hd_ f1;have HM:=hd_ (Xz c w1 hc);clear f1;go_wp2_with fail;refine HM.out.mono ?_;rintro e w2 ⟨rfl,f2⟩;have F2:=hd_ (F1.out.trans' f2);clear f2;go_wp2_with fail;(try go_ret);exact hR.out _ _ ⟨rfl,F2.out⟩
theorem Q43 (c r:Nat) (w:World) (hc:c<44) (hr:r<2^(Yp c)) :
   Calls Tryz.prog 114 #[.int .i64 (c:Nat),.int .u64 (r:Nat)] w fun e w'=>e = .returned (.tuple #[.int .i64 (YS c+r:Nat),.int .i64 0])/\Q0 w w':=by
 have HK:=hd_ (Vm w);refine Q6 fun R hR=>?_;go_enter Tryz.func114,Tryz.ntmps114;go_wp2_with fail;refine HK.out.mono ?_;rintro e w1 ⟨g,rfl,hg,hgl,f1⟩;have F1:=hd_ f1;have HM:=hd_ (Q1V c r g w1 hc hr hg hgl);clear f1;go_wp2_with fail;refine HM.out.mono ?_;rintro e w2 ⟨rfl,f2⟩;have F2:=hd_ (F1.out.trans' f2);clear f2;go_wp2_with fail;(try go_ret);exact hR.out _ _ ⟨rfl,F2.out⟩
theorem Xe (c r:Nat) (w:World) (hc:c<28) (hr:r<2^(c)) :
   Calls Tryz.prog 117 #[.int .i64 (c:Nat),.int .u64 (r:Nat)] w fun e w'=>e = .returned (.tuple #[.int .i64 (2^c+r:Nat),.int .i64 0])/\Q0 w w':=by
 have HK:=hd_ (Vn w);refine Q6 fun R hR=>?_;go_enter Tryz.func117,Tryz.ntmps117;go_wp2_with fail;refine HK.out.mono ?_;rintro e w1 ⟨rfl,f1⟩;have F1:=hd_ f1;have HM:=hd_ (Q1W c r w1 hc hr);clear f1;go_wp2_with fail;refine HM.out.mono ?_;rintro e w2 ⟨rfl,f2⟩;have F2:=hd_ (F1.out.trans' f2);clear f2;go_wp2_with fail;(try go_ret);exact hR.out _ _ ⟨rfl,F2.out⟩
end Go.Proofs.YtjfdaphjijfieaaGreat
