/-
  Joined texts, part 39: contracts and plain lemmas.
  Conditions: none beyond those of each theorem.
-/
import Derived.Test.YtckjdhaflokcgaaGreatQ36
import Derived.Test.YtckjdhaflokcgaaGreatQ17
set_option maxHeartbeats 4000000
set_option linter.unusedVariables false
set_option linter.unusedSimpArgs false
set_option linter.unnecessarySimpa false
set_option maxRecDepth 100000
universe u
namespace Go.Proofs.YtckjdhaflokcgaaGreat
open Go.RowKit
def J5 (k:Nat) (four:Bool):Nat:=k+if four then 4 else 0
theorem or4:∀k:Fin 4,bits .or .u8 ((k.val:Nat):Int) 4=((k.val+4:Nat):Int):=by decide +kernel
theorem XK (W:World) (x:Nat):Rd (W.alloc (.cells #[.int .u8 (x:Nat)] 5)) (fun _=>True) (some ⟨W.heap.size,0,none⟩) 1 (Qa [x]):=by
 refine⟨by simp [Qa],fun _=>⟨W.heap.size,0,rfl,trivial,(Blk.new W 5 #[.int .u8 (x:Nat)]).lt,fun j hj=>?_⟩⟩;(obtain rfl:j=0:=by omega);have h:=(Blk.new W 5 #[.int .u8 (x:Nat)]).cell 0;simpa [Qa]using h
theorem Q0l (k s:Nat) (four:Bool) (w:World) (hk:k<4) (hs:s<=2^40) :
   Calls Tryz.prog 82 #[.agg #[.int .i64 k,.bool four,.int .i64 s]] w fun e w'=>∃v,e = .returned v/\Qk w w' v (J5 k four::QB s):=by
 obtain⟨w0,hw0⟩:=nm_ (w.alloc (.cells #[.int .i64 k,.bool four,.int .i64 s] 41));obtain⟨H,hH⟩:=nm_ (w.heap.size);(have f0:Q0 w w0:=by rw [hw0];exact(Upd.refl _ _).alloc _);(have bt:Blk w0 H 41 #[.int .i64 k,.bool four,.int .i64 s]:=by rw [hw0];exact Qc hH _ _);obtain⟨q0,q1,q2⟩:=(bt).cells3;(have q3:∀c:Int,(w0.alloc (.cells #[.int .u8 c] 5)).cell? ⟨H,2,none⟩=some (.int .i64 s):=fun c=>by simpa using(bt.alloc (.cells #[.int .u8 c] 5)).cell 2);(have hsI:(s:Int)<=1099511627776:=by(have:(2:Nat)^40=1099511627776:=by decide);omega);(have hkI:(k:Int)<4:=by omega);(have hwk:IntKind.u8.wrap (k:Int)=k:=by unfold IntKind.wrap;simp [IntKind.bits];omega);(have hws:IntKind.u64.wrap (s:Int)=s:=by unfold IntKind.wrap;simp [IntKind.bits];omega);have HPV:=hd_ (fun x W (hx:x<256)=>Jr (fun _=>True) (some ⟨W.heap.size,0,none⟩) 1 1 [x] s (W.alloc (.cells #[.int .u8 (x:Nat)] 5)) (XK W x) (by omega) (by omega));have HOR:=hd_ (show bits .or .u8 (k:Int) 4=((k+4:Nat):Int)from or4 ⟨k,hk⟩);have F0:=hd_ f0;have HW:=hd_ hw0;have HH:=hd_ hH;have HK:=hd_ hk;clear hw0 hH f0 bt hs hk;refine Qg fun R hR=>?_;go_enter Tryz.func82,Tryz.ntmps82;go_upto_region 1 with fail;simp only [<-HH.out,<-HW.out]
 cases four with
 | true =>
   have hor:bits .or .u8 (k:Int) 4=((k+4:Nat):Int):=HOR.out;go_wp2_with fail;have hpv:=HPV.out (k+4) w0 (by omega);refine hpv.mono ?_;rintro e w1 ⟨v,rfl,hv,fv,ov⟩;have FV:=hd_ ((F0.out.alloc _).trans' fv);have HV:=hd_ hv;have OV:=hd_ ov;clear hv fv ov hpv q3;go_wp2_with fail;refine(QQ _ _ _ (by simpa using(Blk.new w1 24 #[.int .i64 0]).cell 0)).mono ?_;rintro e w2 ⟨rfl,rfl⟩;go_wp2_with fail;(try go_ret);exact hR.out _ _ ⟨v,rfl,HV.out.alloc _,FV.out.alloc _,fun b hb=>by have h1:=OV.out b hb;have h2:=F0.out.size;simp at h1;omega⟩
 | false =>
   go_wp2_with fail;have hpv:=HPV.out k w0 (by omega);refine hpv.mono ?_;rintro e w1 ⟨v,rfl,hv,fv,ov⟩;have FV:=hd_ ((F0.out.alloc _).trans' fv);have HV:=hd_ hv;have OV:=hd_ ov;clear hv fv ov hpv q3;go_wp2_with fail;refine(QQ _ _ _ (by simpa using(Blk.new w1 24 #[.int .i64 0]).cell 0)).mono ?_;rintro e w2 ⟨rfl,rfl⟩;go_wp2_with fail;(try go_ret);exact hR.out _ _ ⟨v,rfl,HV.out.alloc _,FV.out.alloc _,fun b hb=>by have h1:=OV.out b hb;have h2:=F0.out.size;simp at h1;omega⟩
end Go.Proofs.YtckjdhaflokcgaaGreat
