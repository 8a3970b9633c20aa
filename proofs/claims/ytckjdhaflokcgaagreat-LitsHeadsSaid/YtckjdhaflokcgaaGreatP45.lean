/-
  Joined texts, part 45: contracts and plain lemmas.
  Conditions: none beyond those of each theorem.
-/
import Derived.Test.YtckjdhaflokcgaaGreatP41
import Derived.Test.YtckjdhaflokcgaaGreatP6
set_option maxHeartbeats 1000000
set_option linter.unusedVariables false
set_option linter.unusedSimpArgs false
set_option linter.unnecessarySimpa false
set_option maxRecDepth 100000
universe u
namespace Go.Proofs.YtckjdhaflokcgaaGreat
open Go.RowKit
theorem Q20 (w:World) (x:Nat):Own (w.alloc (.cells #[.int .u8 (x:Nat)] 5)) 5 (.slice (some ⟨w.heap.size,0,none⟩) 1 1) (Q4 [x]) :=
 ⟨rfl,.inr ⟨w.heap.size,1,#[.int .u8 (x:Nat)],rfl,Nat.zero_le _,heap_alloc_new w _,Nat.le_refl _,by simp [maxLen],rfl,rfl⟩⟩
theorem Qi.one (w:World) (x:Nat):Qi w (w.alloc (.cells #[.int .u8 (x:Nat)] 5)) (.slice (some ⟨w.heap.size,0,none⟩) 1 1) [x] :=
 ⟨Q20 w x,(Upd.refl _ _).alloc _,fun k hk=>by simp [Value.ownBlock]at hk;omega⟩
theorem KC (a b:List Nat):Q4 a++Q4 b=Q4 (a++b):=by unfold Q4;rw [List.map_append]
theorem Q2v (n:Nat) (h:n<18446744073709551616):IntKind.u64.wrap ((n:Int) / 128)=((n / 128:Nat):Int):=by
 rw [IntKind.wrap_u64];omega
theorem Q2M (y:Nat) (h:y<256):IntKind.u8.wrap (y:Int)=(y:Nat):=by
 (have h8:IntKind.u8.wrap (y:Int)=(y:Int)%256:=by simp [IntKind.wrap,IntKind.bits,IntKind.signed]);rw [h8];omega
theorem Q0P:∀(f n:Nat) (w:World),f<=100->n<128^(f+1)->n<18446744073709551616 ->
   Calls Tryz.prog 45 #[.int .u64 (n:Nat)] w fun e w'=>∃v,e = .returned v/\Qi w w' v (QN f n):=by
 intro f
 induction f with
 | zero =>
   intro n w hf h1 h2;(have hn:(n:Int)<128:=by omega);(have hw8:IntKind.u8.wrap (n:Int)=(n:Nat):=by unfold IntKind.wrap;simp [IntKind.bits];omega);have HE:=hd_ (show QN 0 n=[n]from rfl);clear h1 h2 hf;refine Q9 fun R hR=>?_;go_enter Tryz.func45,Tryz.ntmps45;go_wp2_with fail;(try go_ret);rw [HE.out]at hR;exact hR.out _ _ ⟨_,rfl,Qi.one w n⟩
 | succ f ih =>
   intro n w hf h1 h2;by_cases hn:n<128
   . have hnI:(n:Int)<128:=by omega
     (have hw8:IntKind.u8.wrap (n:Int)=(n:Nat):=by unfold IntKind.wrap;simp [IntKind.bits];omega);have HE:=hd_ (show QN (f+1) n=[n] by unfold QN;exact if_pos hn);clear h1 h2 ih hn hf;refine Q9 fun R hR=>?_;go_enter Tryz.func45,Tryz.ntmps45;go_wp2_with fail;(try go_ret);rw [HE.out]at hR;exact hR.out _ _ ⟨_,rfl,Qi.one w n⟩
   (have hnI:¬(n:Int)<128:=by omega);have hd:=Q2v n h2;have HE:=hd_ (show QN (f+1) n=(n%128+128)::QN f (n / 128) by rw [QN];exact if_neg hn);have HC:=hd_ (fun W=>ih (n / 128) W (by omega) (by rw [Nat.div_lt_iff_lt_mul (by omega)];rw [Nat.pow_succ]at h1;exact h1) (by omega));have HL:=hd_ (Z2 f (n / 128));obtain⟨x,hx⟩:=nm_ (n%128);obtain⟨y,hy⟩:=nm_ (x+128);obtain⟨z,hz⟩:=nm_ (n / 128);(have hm0:(n:Int)%128=(x:Nat):=by omega);(have hm1:(x:Int)+128=(y:Nat):=by omega);have hm2:IntKind.u8.wrap (y:Int)=(y:Nat):=Q2M y (by omega);simp only [<-hx]at HE;simp only [<-hy]at HE;simp only [<-hz]at HE;rw [<-hz]at hd HC HL;obtain⟨L,hL⟩:=nm_ (QN f z);rw [<-hL]at HC HL HE;have HLN:=hd_ (show [y].length+L.length<=2^40 by have:=HL.out;simp;omega);clear h1 h2 ih hx hy hz hL HL hf;refine Q9 fun R hR=>?_;go_enter Tryz.func45,Tryz.ntmps45;go_upto_region 3 with fail;go_wp2_with fail;refine(HC.out _).mono ?_;rintro e w1 ⟨v,rfl,nb⟩;obtain⟨A1,c1,rfl,-,r1⟩:=nb.1.form;rw [Qh]at r1;rw [Qh];have O0:=hd_ ((Q20 w y).fresh nb.2.1);have R1:=hd_ r1;have F1:=hd_ (((Upd.refl (fun _=>False) w).alloc (.cells #[.int .u8 (y:Nat)] 5)).trans' nb.2.1);clear nb r1;go_wp2_with (at_builtin;go_must (refine QH _ rfl (.tmp 12) (.tmp 15) _ rfl 5 _ 1 Tryz.underlying22 Y9 rfl (.slice (some ⟨w.heap.size,0,none⟩) 1 1) (Q4 [y]) rfl O0.out A1 L.length c1 (Q4 L) rfl R1.out (Y4 L) (by omega) (by rw [Qh];exact HLN.out) ?_));intro v' w' ho hg ha;rw [KC]at ho;have F2:=hd_ (F1.out.grown hg (fun k hk hlt=>by simp [Value.ownBlock]at hk;omega));have O2:=hd_ ho;have K2:=hd_ (YO (S:=fun k=>w.heap.size<=k) ha (fun k hk=>by simp [Value.ownBlock]at hk;omega) F1.out.size);obtain⟨A2,n2,c2,rfl,-⟩:=ho.form';clear ho hg ha;go_wp2_with fail;(try go_ret);rw [HE.out]at hR;exact hR.out _ _ ⟨_,rfl,O2.out,F2.out,K2.out⟩
theorem Vp (n:Nat) (w:World) (h:n<2^62):Calls Tryz.prog 45 #[.int .u64 (n:Nat)] w fun e w'=>∃v,e = .returned v/\Qi w w' v (QA n) :=
 Q0P 9 n w (by decide) (by omega) (by omega)
theorem Qi.app {w w1 w':World} {v v':Value} {a b:List Nat} (h:Qi w w1 v a) (ho:Own w' 5 v' (Q4 a++Q4 b)) (hg:w1.grownBy w' v.ownBlock) (ha:v'.ownBlock=v.ownBlock\/v'.ownBlock=some w1.heap.size):Qi w w' v' (a++b) :=
 ⟨by rw [<-KC];exact ho,h.2.1.grown hg (fun k hk hlt=>by have:=h.2.2 k hk;omega),YO (S:=fun k=>w.heap.size<=k) ha (fun k hk=>h.2.2 k hk) h.2.1.size⟩
theorem Qi.frs {w w1 w':World} {v:Value} {a:List Nat} (h:Qi w w1 v a) (f:Q0 w1 w'):Qi w w' v a:=⟨h.1.fresh f,h.2.1.trans' f,h.2.2⟩
theorem XH (F:Nat->Prop) (B:Option Addr) (m d:Nat) (bs:List Nat) (w:World) (hb:Rd w F B m (Q4 bs)) (hm:m<=131072) :
   Calls Tryz.prog 14 #[.slice B m d] w fun e w'=>∃v,e = .returned (.tuple #[v,.int .i64 0])/\Qi w w' v (0::QA bs.length++bs):=by
 (have hL:bs.length=m:=by have:=hb.1;rw [Qh]at this;exact this);rw [hL];have HB:=hd_ hb;have HC:=hd_ (fun W=>Vp m W (by omega));(have hmI:(m:Int)<=131072:=by omega);(have hwm:IntKind.u64.wrap (m:Int)=m:=by rw [IntKind.wrap_u64];omega);have HL:=hd_ (Jc m);have HM:=hd_ hm;obtain⟨T,hT⟩:=nm_ (QA m);rw [<-hT]at HC HL ⊢;clear hb hL hT hm;refine Q9 fun R hR=>?_;go_enter Tryz.func14,Tryz.ntmps14;go_wp2_with fail;refine(HC.out _).mono ?_;rintro e w1 ⟨v,rfl,nb⟩;obtain⟨A1,c1,rfl,-,r1⟩:=nb.1.form;rw [Qh]at r1;rw [Qh];have N0:=hd_ (Qi.frs (Qi.one w 0) nb.2.1);have R1:=hd_ r1;clear nb r1 HC;go_wp2_with (at_builtin;go_must (refine QH _ rfl (.tmp 7) (.tmp 11) _ rfl 5 _ 1 Tryz.underlying22 Y9 rfl (.slice (some ⟨w.heap.size,0,none⟩) 1 1) (Q4 [0]) rfl N0.out.1 A1 T.length c1 (Q4 T) rfl R1.out (Y4 T) (by omega) (by rw [Qh];have:=HL.out;simp;omega) ?_));intro v2 w2 ho hg ha;have N2:=hd_ (N0.out.app ho hg ha);clear ho hg ha N0 R1;obtain⟨A2,n2,c2,rfl,hn2⟩:=N2.out.1.form';have RB:=hd_ (HB.out.fresh N2.out.2.1);go_wp2_with (at_builtin;go_must (refine QH _ rfl (.tmp 12) (.tmp 13) _ rfl 5 _ 1 Tryz.underlying22 Y9 rfl (.slice A2 n2 c2) (Q4 (0::T)) rfl N2.out.1 B m d (Q4 bs) rfl RB.out (Y4 bs) (by omega) (by rw [Qh];have:=HL.out;have:=HM.out;simp;omega) ?_));intro v3 w3 ho hg ha;have N3:=hd_ (N2.out.app ho hg ha);clear ho hg ha;go_wp2_with fail;(try go_ret);exact hR.out _ _ ⟨_,rfl,N3.out⟩
theorem Vq (x n:Nat) (w:World) (h0:1<=n) (hn:n<=131072) :
   Calls Tryz.prog 17 #[.int .u8 (x:Nat),.int .i64 (n:Nat)] w fun e w'=>∃v,e = .returned (.tuple #[v,.int .i64 0])/\Qi w w' v (1::QA n++[x]):=by
 have HC:=hd_ (fun W=>Vp n W (by omega));(have hnI:(n:Int)<=131072:=by omega);(have h1I:¬(n:Int)<1:=by omega);(have h1N:¬n<1:=by omega);(have h1Z:¬n=0:=by omega);(have hnJ:¬131072<n:=by omega);(have hwm:IntKind.u64.wrap (n:Int)=n:=by rw [IntKind.wrap_u64];omega);have HL:=hd_ (Jc n);obtain⟨T,hT⟩:=nm_ (QA n);rw [<-hT]at HC HL ⊢;clear hT hn h0;refine Q9 fun R hR=>?_;go_enter Tryz.func17,Tryz.ntmps17;go_wp2_with fail;refine(HC.out _).mono ?_;rintro e w1 ⟨v,rfl,nb⟩;obtain⟨A1,c1,rfl,-,r1⟩:=nb.1.form;rw [Qh]at r1;rw [Qh];have N0:=hd_ (Qi.frs (Qi.one w 1) nb.2.1);have R1:=hd_ r1;clear nb r1 HC;go_wp2_with (at_builtin;go_must (refine QH _ rfl (.tmp 12) (.tmp 15) _ rfl 5 _ 1 Tryz.underlying22 Y9 rfl (.slice (some ⟨w.heap.size,0,none⟩) 1 1) (Q4 [1]) rfl N0.out.1 A1 T.length c1 (Q4 T) rfl R1.out (Y4 T) (by omega) (by rw [Qh];have:=HL.out;simp;omega) ?_));intro v2 w2 ho hg ha;have N2:=hd_ (N0.out.app ho hg ha);clear ho hg ha N0 R1;obtain⟨A2,n2,c2,rfl,hn2⟩:=N2.out.1.form';have hb1:∀b∈[x],True:=fun _ _=>trivial;have RX:=hd_ (show Rd (w2.alloc (.cells #[.int .u8 (x:Nat)] 5)) (fun _=>True) (some ⟨w2.heap.size,0,none⟩) 1 (Q4 [x])from(Qi.one w2 x).1.rd rfl |>.2.2.mono fun _ _=>trivial);have N2a:=hd_ (N2.out.frs (w':=w2.alloc (.cells #[.int .u8 (x:Nat)] 5)) ((Upd.refl _ _).alloc _));go_wp2_with (at_builtin;go_must (refine QH _ rfl (.tmp 16) (.tmp 18) _ rfl 5 _ 1 Tryz.underlying22 Y9 rfl (.slice A2 n2 c2) (Q4 (1::T)) rfl N2a.out.1 (some ⟨w2.heap.size,0,none⟩) 1 1 (Q4 [x]) rfl RX.out (Y4 [x]) (by omega) (by rw [Qh];have:=HL.out;simp;omega) ?_));intro v3 w3 ho hg ha;have N3:=hd_ (N2a.out.app ho hg (by simpa using ha));clear ho hg ha;go_wp2_with fail;(try go_ret);exact hR.out _ _ ⟨_,rfl,N3.out⟩
theorem X6 (x n:Int) (w:World) (hn:¬(0<n/\n<=131072)) :
   Calls Tryz.prog 17 #[.int .u8 x,.int .i64 n] w fun e w'=>e = .returned (.tuple #[.slice none 0 0,.int .i64 2])/\w=w':=by
 refine Q9 fun R hR=>?_;go_enter Tryz.func17,Tryz.ntmps17;by_cases h0:n<1
 . go_wp2_with fail
   (try go_ret);exact hR.out _ _ ⟨rfl,rfl⟩
 (have h1:131072<n:=by omega);go_wp2_with fail;(try go_ret);exact hR.out _ _ ⟨rfl,rfl⟩
end Go.Proofs.YtckjdhaflokcgaaGreat
