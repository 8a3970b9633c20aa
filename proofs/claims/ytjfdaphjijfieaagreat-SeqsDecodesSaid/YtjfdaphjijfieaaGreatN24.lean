/-
  Joined texts, part 24: contracts and plain lemmas.
  Conditions: none beyond those of each theorem.
-/
import Derived.RangeFuncNested
import Derived.RangeFuncBound
import Derived.Shelf.RegionOpen
import Derived.OwnWalkIn
import Derived.LoopNIn
import Derived.Sort.CutIn
import Derived.Test.YtjfdaphjijfieaaGreatN8
import Derived.Test.YtjfdaphjijfieaaGreatN4
set_option maxHeartbeats 1000000
set_option linter.unusedVariables false
set_option linter.unusedSimpArgs false
set_option maxRecDepth 100000
universe u
namespace Go.Proofs.YtjfdaphjijfieaaGreat
open Go.RowKit Go.Shelf
attribute [local go_sem] Oper.semAt_some
theorem Q4z (s:Nat) (w:World) (hs:1<=s/\s<=512) :
   Calls Tryz.prog 219 #[.int .i64 s] w fun e w'=>e = .returned (.int .i64 (Yd s))/\w'=w:=by
 (have h1:max (s:Int) 1=s:=by omega);(have h2:min (s:Int) 512=s:=by omega);unfold Yd;refine Q6 fun R hR=>?_;by_cases h16:s<16
 . rw [if_pos h16]at hR
   have h16b:decide ((s:Int)<16)=true:=decide_eq_true (by omega);(have h16I:(s:Int)<16:=by omega);go_enter Tryz.func219,Tryz.ntmps219;go_wp2_with fail;(try go_ret);exact hR.out _ _ ⟨rfl,rfl⟩
 rw [if_neg h16]at hR;(have h16I:¬(s:Int)<16:=by omega);go_enter Tryz.func219,Tryz.ntmps219;go_wp2_with fail;exact hR.out _ _ ⟨by congr 2,rfl⟩
theorem Q4A (s:Int) (w:World) :
   Calls Tryz.prog 207 #[.int .i64 s] w fun e w'=>e = .returned (.func (.func 218) #[] #[.pointer (some ⟨w.heap.size,0,none⟩)])/\w'=w.alloc (.cells #[.int .i64 s] 3):=by
 go_enter Tryz.func207,Tryz.ntmps207;go_wp2_with fail;(try go_ret);exact⟨rfl,rfl⟩
def Jw (s:Nat) (h:0<s):List { x:Nat // x<s }:=(List.range s).map fun k=>⟨k*Yd s%s,Nat.mod_lt _ h⟩
@[simp] theorem Q0H (s:Nat) (h:0<s):(Jw s h).length=s:=by simp [Jw]
theorem Q3t (s:Nat) (h:0<s):(Jw s h).map Subtype.val=Y3 s:=by
 unfold Jw Y3;rw [List.map_map];rfl
theorem Q2r {s k:Nat} (h0:0<s) (h:k<s):(Jw s h0).take (k+1)=(Jw s h0).take k++[⟨k*Yd s%s,Nat.mod_lt _ h0⟩]:=by
 have e:(Jw s h0)[k]?=some ⟨k*Yd s%s,Nat.mod_lt _ h0⟩:=by
   unfold Jw;rw [List.getElem?_map,List.getElem?_range h];rfl
 rw [List.take_add_one,e];rfl
theorem Q4B {s:Nat} (h:s<=512):Yd s<=512:=by unfold Yd;split<;>omega
def Y5 (b:Nat) (W W':World):Prop:=∀v,W.cell? ⟨b,0,none⟩=some v->W'.cell? ⟨b,0,none⟩=some v
theorem Y5.trans {b:Nat} {A B C:World} (h:Y5 b A B) (k:Y5 b B C):Y5 b A C:=fun v hv=>k v (h v hv)
theorem Y5.upd {S:Nat->Prop} {b:Nat} {W W':World} (h:Upd S W W') (hb:¬S b):Y5 b W W':=fun v hv=>by
 have hl:=World.block_lt_of_cell? W _ hv
 rw [World.cell?_of_block (a:=⟨b,0,none⟩) (h.block b hl hb)];exact hv
theorem Y5.putObj {b l:Nat} (W:World) (o':Obj) (h:b≠l):Y5 b W (W.putObj l o') :=
 Y5.upd (S:=fun k=>k=l) ((Upd.refl _ W).grown (grownBy_putObj' W l o') (fun k e _=>by injection e with e;exact e.symm)) h
theorem Q4C (F:Fence) (m l Bn s:Nat) (hfs:F.fn 219) (hft:F.fn 218) (hro:F.round=none) (hd:F.depth=none)
   (HST:Hid (∀W,CallsIn F (m-1) Tryz.prog 219 #[.int .i64 (s:Nat)] W fun e w'=>e = .returned (.int .i64 (Yd s:Nat))/\w'=W)) (hs:1<=s/\s<=512) (hs1:0<s) (J Jx:List { x:Nat // x<s }->World->Prop)
   (hY:∀pre x W,J pre W->pre.length<s->YieldAt F (m-1) Tryz.prog l #[.int .i64 (x.1:Nat)] W fun e W' =>
     (e = .returned (.bool true)/\J (pre++[x]) W'/\Y5 Bn W W')\/(e = .returned (.bool false)/\Jx (pre++[x]) W'))
   (W:World) (hJ:∀pre W n,J pre W->J pre (W.drewN n)) (hBn:W.cell? ⟨Bn,0,none⟩=some (.int .i64 (s:Nat))) (h0:J [] W) :
   CallsIn F m Tryz.prog 218 #[.func (.yield l) #[] #[],.pointer (some ⟨Bn,0,none⟩)] W fun e W'=>(∃v,e = .returned v) /\
     ((∃ys,ys=Jw s hs1/\J ys W')\/(∃pre,pre <+: Jw s hs1/\Jx pre W')):=by
 have hst:=Q4B hs.2;have HS:=hd_ hs;refine callsIn_of_wp Tryz.func218 rfl hft ?_ hro;simp only [Tryz.ntmps218,List.size_toArray,List.length_cons,List.length_nil,Nat.reduceAdd,Nat.reduceSub,Array.replicate_succ,Array.replicate_zero,List.push_toArray,List.append_toArray,List.nil_append,List.cons_append];gi_wp2;gi_loopg [5] s (fun f i wr=>∃k:Nat,k+f=s/\i = .int .i64 k/\J ((Jw s hs1).take k) wr/\wr.cell? ⟨Bn,0,none⟩=some (.int .i64 (s:Nat)))
 case atStart=>exact⟨0,by omega,rfl,h0,hBn⟩
 case round =>
   obtain⟨k,hk,rfl,hJk,hc⟩:=hrel;by_cases hlt:k<s
   . have hkI:(k:Int)<s:=by omega
     have HTK:=hd_ (Q2r hs1 hlt);have HJK:=hd_ hJk;have HC:=hd_ hc;have HK:=hd_ hk;(have p1:(k:Int)*(Yd s:Nat)=((k*Yd s:Nat):Int):=by simp);have p2:k*Yd s<=512*512:=Nat.mul_le_mul (by omega) hst;have s1:IntKind.i64.wrap ((k:Int)*(Yd s:Nat))=k*(Yd s:Nat):=IntWalk.i64_in _ (by omega);have s2:IntKind.i64.wrap ((k:Int)+1)=k+1:=IntWalk.i64_in _ (by omega);(have hs0:¬(s:Int)=0:=by omega);(have p3:0<=(k:Int)*(Yd s:Nat):=by omega);clear hJk hk p1 p2;gi_upto_region 3 with fail;refine ZX 7 hro (by kernel_rfl) (by kernel_rfl) ?_;simp only [List.take_succ_cons,List.take_zero,List.drop_succ_cons,List.drop_zero];(repeat(gi_big_quiet_step ((gi_at_call 219;refine CallsIn.quiet_of_same (HST.out _)))));refine wpQuietIn_nil ?_;rintro w5 ⟨nq,rfl⟩;(have hyv:((k*Yd s%s:Nat):Int)=(k:Int)*(Yd s:Nat)%s:=by simp);have hY':=hY _ ⟨k*Yd s%s,Nat.mod_lt _ hs1⟩ (wr.drewN nq) (hJ _ _ nq HJK.out) (by rw [List.length_take,Q0H];omega);rw [hyv]at hY';obtain⟨fn,tmps,assign,body,hy,hR⟩:=hY';clear hyv;gi_wp2;refine hR.mono ?_;rintro e W3 (⟨rfl,hJ3,hk3⟩|⟨rfl,hJx3⟩)
     . have hc3:W3.cell? ⟨Bn,0,none⟩=some (.int .i64 (s:Nat)):=hk3 _ hc
       have HJ3:=hd_ hJ3;clear hJ3 hR hy;gi_wp2;gi_roundg (gk-1)
       case measure=>have:=HK.out;omega
       case rel=>exact⟨k+1,by have:=HK.out;omega,by go_num,by rw [HTK.out];exact HJ3.out,hc3⟩
     gi_wp2;refine bodyPost_ret (results_none rfl _ _ _) rfl ?_;exact⟨⟨_,rfl⟩,.inr ⟨_,by rw [<-HTK.out];exact List.take_prefix _ _,hJx3⟩⟩
   (obtain rfl:k=s:=by omega);rw [List.take_of_length_le (by simp)]at hJk;gi_wp2;go_end0;exact⟨⟨_,rfl⟩,.inl ⟨_,rfl,hJk⟩⟩
theorem Q0d (w:World) (n:Nat):w.grownBy (w.drewN n) none:=⟨rfl,rfl,rfl,Nat.le_refl _,fun _ _ _=>rfl⟩
theorem Q2s (m Bn s:Nat) (hs:1<=s/\s<=512) (hs1:0<s) (w:World) (hBn:Bn<w.heap.size) (hc:w.cell? ⟨Bn,0,none⟩=some (.int .i64 (s:Nat))) :
   SeqStopsK Fence.wide m Tryz.prog 218 #[.pointer (some ⟨Bn,0,none⟩)] (fun x:{ x:Nat // x<s }=>#[Value.int .i64 (x.1:Nat)]) (Y5 Bn) (fun ys=>ys=Jw s hs1) (fun pre=>pre <+: Jw s hs1) s w :=
 fun l J Jx W hW hJa _ hY h0=>Q4C Fence.wide m l Bn s trivial trivial rfl rfl (hd_ fun W=>callsIn_wide.2 (Q4z s W hs)) hs hs1 J Jx hY W
   (fun pre W n h=>hJa pre W _ none h (Q0d W n) (fun r e=>by cases e)) ((hW.cell (p:=⟨Bn,0,none⟩) hBn).trans hc) h0
end Go.Proofs.YtjfdaphjijfieaaGreat
