/-
  Joined texts, part 34: contracts and plain lemmas.
  Conditions: none beyond those of each theorem.
-/
import Derived.Test.YtjfdaphjijfieaaGreatL32
import Derived.Test.YtjfdaphjijfieaaGreatL33
set_option maxHeartbeats 1000000
set_option linter.unusedVariables false
set_option linter.unusedSimpArgs false
set_option maxRecDepth 100000
universe u
namespace Go.Proofs.YtjfdaphjijfieaaGreat
open Go.RowKit
theorem Q4q {P:Program} (x k:Nat) (y:Int) (W:World) (hk:k<64) (hy:(x:Int) / 2^k=y):(Op.shift .shr .i64 (x:Int) .i64 (k:Nat)).run P W = .ok (.int .i64 y) W:=by
 (have h0:¬((k:Nat):Int)<0:=by omega);simp [Op.shift,h0,hy,Sem.run_pure];(try omega)
theorem Q43 (x:Nat) (h:x<4):bits .and .i64 (x:Int) 1=((x%2:Nat):Int):=by
 (have:∀x:Fin 4,bits .and .i64 ((x.val:Nat):Int) 1=((x.val%2:Nat):Int):=by decide);exact this ⟨x,h⟩
theorem Q8i (v:Nat) (w:World) (hv:v<2^18):Calls Tryz.prog 193 #[.int .i64 (v:Nat)] w fun e w'=>e = .returned (.int .i64 (JC v:Nat))/\w'=w:=by
 unfold JC;refine Q6 fun R hR=>?_;by_cases h16:v<16
 . rw [if_pos h16]at hR
   (have h16I:(v:Int)<16:=by omega);go_enter Tryz.func193,Tryz.ntmps193;go_wp2_with fail;(try(first|go_ret3|go_ret2|go_ret));exact hR.out _ _ ⟨rfl,rfl⟩
 rw [if_neg h16]at hR;(have h16I:¬(v:Int)<16:=by omega);obtain⟨b1,b2,b3⟩:=JX (m:=v) (by omega) (by omega);have hbc:=fun W=>Tryz.bits_Len (v:Int) W (by omega) (by omega);rw [Int.toNat_natCast]at hbc;generalize Lib.bitLen v=L at *
 have hL5:5<=L:=by
   rcases Nat.lt_or_ge L 5 with hl|hl
   . have:2^L<=2^4:=Nat.pow_le_pow_right (by decide) (by omega)
     omega
   exact hl
 have hL18:L<=18:=by
   rcases Nat.lt_or_ge 18 L with hl|hl
   . have:2^18<=2^(L-1):=Nat.pow_le_pow_right (by decide) (by omega)
     omega
   exact hl
 obtain⟨m,rfl⟩:∃m,L=m+2:=⟨L-2,by omega⟩;(have e1:m+2-1=m+1:=by omega);(have e2:m+2-2=m:=by omega);rw [e1,e2]at hR;have hp:=Nat.two_pow_pos m;(have p2:2^(m+2)=4*2^m:=by rw [Nat.pow_succ,Nat.pow_succ];omega);rw [p2]at b3;(have q2:v / 2^m<4:=by rw [Nat.div_lt_iff_lt_mul hp];omega);have hsh:=fun W=>Q4q (P:=Tryz.prog) v m ((v / 2^m:Nat):Int) W (by omega) (by simp);obtain⟨q,hq⟩:=nm_ (v / 2^m);have HQ:=hd_ hq;rw [<-hq]at q2 hsh hR;clear hq;have hand:=Q43 q q2;(have s0:IntKind.u64.wrap (v:Int)=v:=by unfold IntKind.wrap;simp [IntKind.bits];omega);(have s1:IntKind.i64.wrap (((m+2:Nat):Int)-1)=((m+1:Nat):Int):=by rw [IntWalk.i64_in _ (by omega)];omega);have s2:IntKind.i64.wrap (2*((m+1:Nat):Int))=2*((m+1:Nat):Int):=IntWalk.i64_in _ (by omega);have s3:IntKind.i64.wrap (8+2*((m+1:Nat):Int))=8+2*((m+1:Nat):Int):=IntWalk.i64_in _ (by omega);(have s4:IntKind.i64.wrap (((m+1:Nat):Int)-1)=((m:Nat):Int):=by rw [IntWalk.i64_in _ (by omega)];omega);have s5:IntKind.i64.wrap (8+2*((m+1:Nat):Int)+((q%2:Nat):Int))=8+2*((m+1:Nat):Int)+((q%2:Nat):Int):=IntWalk.i64_in _ (by omega);have hm:q%2<2:=Nat.mod_lt _ (by decide)
 have hfin:wrap64 (8+2*((m:Int)+2-1)+bits .and .i64 (q:Int) 1)=((8+2*(m+1)+q%2:Nat):Int):=by
   rw [hand];unfold wrap64;omega
 rw [show((q:Nat):Int)=(v:Int) / 2^m by rw [HQ.out];simp]at hfin;have HF:=hd_ hfin;have HBC:=hd_ hbc;clear hbc b2 b3 p2 hp h16 e1 e2 hfin hand;go_enter Tryz.func193,Tryz.ntmps193;go_wp2_with fail;refine(HBC.out _).mono ?_;rintro e w1 ⟨rfl,rfl⟩;go_wp2_with fail;(try(first|go_ret3|go_ret2|go_ret));refine hR.out _ _ ⟨?_,rfl⟩;rw [<-HF.out];rfl
theorem Q8j (v:Nat) (w:World) (h0:1<=v) (hv:v<2^28):Calls Tryz.prog 198 #[.int .i64 (v:Nat)] w fun e w'=>e = .returned (.int .i64 (Z6 v:Nat))/\w'=w:=by
 unfold Z6;obtain⟨b1,b2,b3⟩:=JX (m:=v) (by omega) (by omega);have hbc:=fun W=>Tryz.bits_Len (v:Int) W (by omega) (by omega);rw [Int.toNat_natCast]at hbc;generalize Lib.bitLen v=L at *
 have hL28:L<=28:=by
   rcases Nat.lt_or_ge 28 L with hl|hl
   . have:2^28<=2^(L-1):=Nat.pow_le_pow_right (by decide) (by omega)
     omega
   exact hl
 obtain⟨m,rfl⟩:∃m,L=m+1:=⟨L-1,by omega⟩;simp only [Nat.add_sub_cancel];(have s0:IntKind.u64.wrap (v:Int)=v:=by unfold IntKind.wrap;simp [IntKind.bits];omega);(have s1:IntKind.i64.wrap (((m+1:Nat):Int)-1)=((m:Nat):Int):=by rw [IntWalk.i64_in _ (by omega)];omega);have HBC:=hd_ hbc;clear hbc b2 b3;refine Q6 fun R hR=>?_;go_enter Tryz.func198,Tryz.ntmps198;go_wp2_with fail;refine(HBC.out _).mono ?_;rintro e w1 ⟨rfl,rfl⟩;go_wp2_with fail;(try(first|go_ret3|go_ret2|go_ret));exact hR.out _ _ ⟨rfl,rfl⟩
theorem Q9p (v g:Nat) (w:World) (hv:v<2^18) (hg:w.cell? ⟨g,0,none⟩=some (.func (.func 192) #[] #[])) (hgl:g<w.heap.size) :
   Calls Tryz.prog 165 #[.agg (ZS g),.int .i64 (v:Nat)] w fun e w'=>e = .returned (.tuple #[.int .i64 (JC v:Nat),.int .u64 (v-YD (JC v):Nat),.int .i64 0])/\Q0 w w':=by
 obtain⟨w0,hw0⟩:=nm_ (w.alloc (.cells (ZS g) 260));obtain⟨H,hH⟩:=nm_ (w.heap.size);(have f0:Q0 w w0:=by rw [hw0];exact(Upd.refl _ _).alloc _);(have bk:Blk w0 H 260 (ZS g):=by rw [hw0];exact Q1 hH _ _);have q0:=bk.cell 0;have q1:=bk.cell 1;have q3:=bk.cell 3;have q5:=bk.cell 5;simp [ZS]at q0 q1 q3 q5;(have hg0:w0.cell? ⟨g,0,none⟩=some (.func (.func 192) #[] #[]):=by rw [f0.cells _ _ hgl];exact hg);obtain⟨k1,k2,k3⟩:=Q1d hv;have HI:=hd_ (fun W=>KH (v:Nat) 0 262144 W);rw [if_neg (by omega)]at HI;have H2:=hd_ (fun W=>Q8i v W hv);have H4:=hd_ (Q2R (JC v) g w0 (by omega) hg0);have F0:=hd_ f0;have HW:=hd_ hw0;have HH:=hd_ hH;clear hw0 hH f0 bk hg hg0 hgl;generalize YD (JC v)=fi at *;generalize JC v=c at *;(have s3:IntKind.i64.wrap ((v:Int)-fi)=((v-fi:Nat):Int):=by rw [IntWalk.i64_in _ (by omega)];omega);(have s4:IntKind.u64.wrap ((v-fi:Nat):Int)=((v-fi:Nat):Int):=by rw [IntKind.wrap_u64];omega);generalize v-fi=r at *;clear k1 k2 k3;refine Q6 fun R hR=>?_;go_enter Tryz.func165,Tryz.ntmps165;go_upto_region 1 with fail;simp only [<-HH.out,<-HW.out];go_wp2_with fail;refine(HI.out _).mono ?_;rintro e w1 ⟨rfl,rfl⟩;go_wp2_with fail;refine(H2.out _).mono ?_;rintro e w1 ⟨rfl,rfl⟩;go_wp2_with fail;refine H4.out.mono ?_;rintro e w2 ⟨rfl,rfl⟩;go_wp2_with fail;(try(first|go_ret3|go_ret2|go_ret));exact hR.out _ _ ⟨rfl,F0.out⟩
theorem Q9q (v:Nat) (w:World) (h1:1<=v) (hv:v<2^28) :
   Calls Tryz.prog 165 #[.agg ZY,.int .i64 (v:Nat)] w fun e w'=>e = .returned (.tuple #[.int .i64 (Z6 v:Nat),.int .u64 (v-2^Z6 v:Nat),.int .i64 0])/\Q0 w w':=by
 obtain⟨w0,hw0⟩:=nm_ (w.alloc (.cells ZY 260));obtain⟨H,hH⟩:=nm_ (w.heap.size);(have f0:Q0 w w0:=by rw [hw0];exact(Upd.refl _ _).alloc _);(have bk:Blk w0 H 260 ZY:=by rw [hw0];exact Q1 hH _ _);have q0:=bk.cell 0;have q1:=bk.cell 1;have q3:=bk.cell 3;have q5:=bk.cell 5;simp [ZY]at q0 q1 q3 q5;obtain⟨k1,k2,k3⟩:=Q3m h1 hv;have HI:=hd_ (fun W=>KH (v:Nat) 1 268435456 W);rw [if_neg (by omega)]at HI;have H2:=hd_ (fun W=>Q8j v W h1 hv);have H4:=hd_ (Q2S (Z6 v) w0 (by omega));have F0:=hd_ f0;have HW:=hd_ hw0;have HH:=hd_ hH;clear hw0 hH f0 bk;generalize Z6 v=c at *;obtain⟨fi,hfi⟩:=nm_ (2^c);rw [<-hfi]at k2 k3 H4 ⊢;clear hfi;(have s3:IntKind.i64.wrap ((v:Int)-fi)=((v-fi:Nat):Int):=by rw [IntWalk.i64_in _ (by omega)];omega);(have s4:IntKind.u64.wrap ((v-fi:Nat):Int)=((v-fi:Nat):Int):=by rw [IntKind.wrap_u64];omega);generalize v-fi=r at *;clear k1 k2 k3;refine Q6 fun R hR=>?_;go_enter Tryz.func165,Tryz.ntmps165;go_upto_region 1 with fail;simp only [<-HH.out,<-HW.out];go_wp2_with fail;refine(HI.out _).mono ?_;rintro e w1 ⟨rfl,rfl⟩;go_wp2_with fail;refine(H2.out _).mono ?_;rintro e w1 ⟨rfl,rfl⟩;go_wp2_with fail;refine H4.out.mono ?_;rintro e w2 ⟨rfl,rfl⟩;go_wp2_with fail;(try(first|go_ret3|go_ret2|go_ret));exact hR.out _ _ ⟨rfl,F0.out⟩
theorem Q6N (v:Nat) (w:World) (hv:v<2^18) :
   Calls Tryz.prog 112 #[.int .i64 (v:Nat)] w fun e w'=>e = .returned (.tuple #[.int .i64 (JC v:Nat),.int .u64 (v-YD (JC v):Nat),.int .i64 0])/\Q0 w w':=by
 have HK:=hd_ (VI w);refine Q6 fun R hR=>?_;go_enter Tryz.func112,Tryz.ntmps112;go_wp2_with fail;refine HK.out.mono ?_;rintro e w1 ⟨g,rfl,hg,hgl,f1⟩;have F1:=hd_ f1;have HM:=hd_ (Q9p v g w1 hv hg hgl);clear f1;go_wp2_with fail;refine HM.out.mono ?_;rintro e w2 ⟨rfl,f2⟩;have F2:=hd_ (F1.out.trans' f2);clear f2;go_wp2_with fail;(try(first|go_ret3|go_ret2|go_ret));exact hR.out _ _ ⟨rfl,F2.out⟩
theorem Q1u (v:Nat) (w:World) (h1:1<=v) (hv:v<2^28) :
   Calls Tryz.prog 115 #[.int .i64 (v:Nat)] w fun e w'=>e = .returned (.tuple #[.int .i64 (Z6 v:Nat),.int .u64 (v-2^Z6 v:Nat),.int .i64 0])/\Q0 w w':=by
 have HK:=hd_ (VJ w);refine Q6 fun R hR=>?_;go_enter Tryz.func115,Tryz.ntmps115;go_wp2_with fail;refine HK.out.mono ?_;rintro e w1 ⟨rfl,f1⟩;have F1:=hd_ f1;have HM:=hd_ (Q9q v w1 h1 hv);clear f1;go_wp2_with fail;refine HM.out.mono ?_;rintro e w2 ⟨rfl,f2⟩;have F2:=hd_ (F1.out.trans' f2);clear f2;go_wp2_with fail;(try(first|go_ret3|go_ret2|go_ret));exact hR.out _ _ ⟨rfl,F2.out⟩
end Go.Proofs.YtjfdaphjijfieaaGreat
