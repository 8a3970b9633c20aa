/-
  Joined texts, part 44: contracts and plain lemmas.
  Conditions: none beyond those of each theorem.
-/
import Derived.Test.YtckjdhaflokcgaaGreatQ40
import Derived.Test.YtckjdhaflokcgaaGreatQ6
set_option maxHeartbeats 400000
set_option linter.unusedVariables false
set_option linter.unusedSimpArgs false
set_option linter.unnecessarySimpa false
set_option maxRecDepth 100000
universe u
namespace Go.Proofs.YtckjdhaflokcgaaGreat
open Go.RowKit
theorem Q3o (w:World) (x:Nat):Own (w.alloc (.cells #[.int .u8 (x:Nat)] 5)) 5 (.slice (some ⟨w.heap.size,0,none⟩) 1 1) (Qa [x]) :=
 ⟨rfl,.inr ⟨w.heap.size,1,#[.int .u8 (x:Nat)],rfl,Nat.zero_le _,heap_alloc_new w _,Nat.le_refl _,by simp [maxLen],rfl,rfl⟩⟩
theorem Qk.one (w:World) (x:Nat):Qk w (w.alloc (.cells #[.int .u8 (x:Nat)] 5)) (.slice (some ⟨w.heap.size,0,none⟩) 1 1) [x] :=
 ⟨Q3o w x,(Upd.refl _ _).alloc _,fun k hk=>by simp [Value.ownBlock]at hk;omega⟩
theorem Vl (a b:List Nat):Qa a++Qa b=Qa (a++b):=by unfold Qa;rw [List.map_append]
theorem Q3W (n:Nat) (h:n<18446744073709551616):IntKind.u64.wrap ((n:Int) / 128)=((n / 128:Nat):Int):=by
 rw [IntKind.wrap_u64];omega
theorem Q4n (y:Nat) (h:y<256):IntKind.u8.wrap (y:Int)=(y:Nat):=by
 (have h8:IntKind.u8.wrap (y:Int)=(y:Int)%256:=by simp [IntKind.wrap,IntKind.bits,IntKind.signed]);rw [h8];omega
theorem Q1K:∀(f n:Nat) (w:World),f<=100->n<128^(f+1)->n<18446744073709551616 ->
   Calls Tryz.prog 45 #[.int .u64 (n:Nat)] w fun e w'=>∃v,e = .returned v/\Qk w w' v (Y3 f n):=by
 intro f
 induction f with
 | zero =>
   intro n w hf h1 h2;(have hn:(n:Int)<128:=by omega);(have hw8:IntKind.u8.wrap (n:Int)=(n:Nat):=by unfold IntKind.wrap;simp [IntKind.bits];omega);have HE:=hd_ (show Y3 0 n=[n]from rfl);clear h1 h2 hf;refine Qg fun R hR=>?_;go_enter Tryz.func45,Tryz.ntmps45;go_wp2_with fail;(try go_ret);rw [HE.out]at hR;exact hR.out _ _ ⟨_,rfl,Qk.one w n⟩
 | succ f ih =>
   intro n w hf h1 h2;by_cases hn:n<128
   . have hnI:(n:Int)<128:=by omega
     (have hw8:IntKind.u8.wrap (n:Int)=(n:Nat):=by unfold IntKind.wrap;simp [IntKind.bits];omega);have HE:=hd_ (show Y3 (f+1) n=[n] by unfold Y3;exact if_pos hn);clear h1 h2 ih hn hf;refine Qg fun R hR=>?_;go_enter Tryz.func45,Tryz.ntmps45;go_wp2_with fail;(try go_ret);rw [HE.out]at hR;exact hR.out _ _ ⟨_,rfl,Qk.one w n⟩
   (have hnI:¬(n:Int)<128:=by omega);have hd:=Q3W n h2;have HE:=hd_ (show Y3 (f+1) n=(n%128+128)::Y3 f (n / 128) by rw [Y3];exact if_neg hn);have HC:=hd_ (fun W=>ih (n / 128) W (by omega) (by rw [Nat.div_lt_iff_lt_mul (by omega)];rw [Nat.pow_succ]at h1;exact h1) (by omega));have HL:=hd_ (ZC f (n / 128));obtain⟨x,hx⟩:=nm_ (n%128);obtain⟨y,hy⟩:=nm_ (x+128);obtain⟨z,hz⟩:=nm_ (n / 128);(have hm0:(n:Int)%128=(x:Nat):=by omega);(have hm1:(x:Int)+128=(y:Nat):=by omega);have hm2:IntKind.u8.wrap (y:Int)=(y:Nat):=Q4n y (by omega);simp only [<-hx]at HE;simp only [<-hy]at HE;simp only [<-hz]at HE;rw [<-hz]at hd HC HL;obtain⟨L,hL⟩:=nm_ (Y3 f z);rw [<-hL]at HC HL HE;have HLN:=hd_ (show [y].length+L.length<=2^40 by have:=HL.out;simp;omega);clear h1 h2 ih hx hy hz hL HL hf;refine Qg fun R hR=>?_;go_enter Tryz.func45,Tryz.ntmps45;go_upto_region 3 with fail;go_wp2_with fail;refine(HC.out _).mono ?_;rintro e w1 ⟨v,rfl,nb⟩;obtain⟨A1,c1,rfl,-,r1⟩:=nb.1.form;rw [Qp]at r1;rw [Qp];have O0:=hd_ ((Q3o w y).fresh nb.2.1);have R1:=hd_ r1;have F1:=hd_ (((Upd.refl (fun _=>False) w).alloc (.cells #[.int .u8 (y:Nat)] 5)).trans' nb.2.1);clear nb r1;go_wp2_with (at_builtin;go_must (refine Qt _ rfl (.tmp 12) (.tmp 15) _ rfl 5 _ 1 Tryz.underlying22 Y5 rfl (.slice (some ⟨w.heap.size,0,none⟩) 1 1) (Qa [y]) rfl O0.out A1 L.length c1 (Qa L) rfl R1.out (QS L) (by omega) (by rw [Qp];exact HLN.out) ?_));intro v' w' ho hg ha;rw [Vl]at ho;have F2:=hd_ (F1.out.grown hg (fun k hk hlt=>by simp [Value.ownBlock]at hk;omega));have O2:=hd_ ho;have K2:=hd_ (YD (S:=fun k=>w.heap.size<=k) ha (fun k hk=>by simp [Value.ownBlock]at hk;omega) F1.out.size);obtain⟨A2,n2,c2,rfl,-⟩:=ho.form';clear ho hg ha;go_wp2_with fail;(try go_ret);rw [HE.out]at hR;exact hR.out _ _ ⟨_,rfl,O2.out,F2.out,K2.out⟩
theorem Kh (n:Nat) (w:World) (h:n<2^62):Calls Tryz.prog 45 #[.int .u64 (n:Nat)] w fun e w'=>∃v,e = .returned v/\Qk w w' v (QB n) :=
 Q1K 9 n w (by decide) (by omega) (by omega)
theorem Qk.app {w w1 w':World} {v v':Value} {a b:List Nat} (h:Qk w w1 v a) (ho:Own w' 5 v' (Qa a++Qa b)) (hg:w1.grownBy w' v.ownBlock) (ha:v'.ownBlock=v.ownBlock\/v'.ownBlock=some w1.heap.size):Qk w w' v' (a++b) :=
 ⟨by rw [<-Vl];exact ho,h.2.1.grown hg (fun k hk hlt=>by have:=h.2.2 k hk;omega),YD (S:=fun k=>w.heap.size<=k) ha (fun k hk=>h.2.2 k hk) h.2.1.size⟩
theorem Qk.frs {w w1 w':World} {v:Value} {a:List Nat} (h:Qk w w1 v a) (f:Q0 w1 w'):Qk w w' v a:=⟨h.1.fresh f,h.2.1.trans' f,h.2.2⟩
end Go.Proofs.YtckjdhaflokcgaaGreat
