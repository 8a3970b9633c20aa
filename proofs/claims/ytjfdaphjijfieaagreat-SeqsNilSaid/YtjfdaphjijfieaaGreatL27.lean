/-
  Joined texts, part 27: contracts and plain lemmas.
  Conditions: none beyond those of each theorem.
-/
import Derived.RangeFuncNested
import Derived.RangeFuncBound
import Derived.Shelf.RegionOpen
import Derived.OwnWalkIn
import Derived.LoopNIn
import Derived.Sort.CutIn
import Derived.Test.YtjfdaphjijfieaaGreatL9
import Derived.Test.YtjfdaphjijfieaaGreatL4
set_option maxHeartbeats 1000000
set_option linter.unusedVariables false
set_option linter.unusedSimpArgs false
set_option maxRecDepth 100000
universe u
namespace Go.Proofs.YtjfdaphjijfieaaGreat
open Go.RowKit Go.Shelf
attribute [local go_sem] Oper.semAt_some
theorem Q85 (s:Nat) (w:World) (hs:1<=s/\s<=512) :
   Calls Tryz.prog 219 #[.int .i64 s] w fun e w'=>e = .returned (.int .i64 (JB s))/\w'=w:=by
 (have h1:max (s:Int) 1=s:=by omega);(have h2:min (s:Int) 512=s:=by omega);unfold JB;refine Q6 fun R hR=>?_;by_cases h16:s<16
 . rw [if_pos h16]at hR
   have h16b:decide ((s:Int)<16)=true:=decide_eq_true (by omega);(have h16I:(s:Int)<16:=by omega);go_enter Tryz.func219,Tryz.ntmps219;go_wp2_with fail;(try go_ret);exact hR.out _ _ ⟨rfl,rfl⟩
 rw [if_neg h16]at hR;(have h16I:¬(s:Int)<16:=by omega);go_enter Tryz.func219,Tryz.ntmps219;go_wp2_with fail;exact hR.out _ _ ⟨by congr 2,rfl⟩
theorem Q86 (s:Int) (w:World) :
   Calls Tryz.prog 207 #[.int .i64 s] w fun e w'=>e = .returned (.func (.func 218) #[] #[.pointer (some ⟨w.heap.size,0,none⟩)])/\w'=w.alloc (.cells #[.int .i64 s] 3):=by
 go_enter Tryz.func207,Tryz.ntmps207;go_wp2_with fail;(try go_ret);exact⟨rfl,rfl⟩
def ZK (s:Nat) (h:0<s):List { x:Nat // x<s }:=(List.range s).map fun k=>⟨k*JB s%s,Nat.mod_lt _ h⟩
@[simp] theorem Q3h (s:Nat) (h:0<s):(ZK s h).length=s:=by simp [ZK]
theorem Q6C (s:Nat) (h:0<s):(ZK s h).map Subtype.val=Ji s:=by
 unfold ZK Ji;rw [List.map_map];rfl
theorem Q5o {s k:Nat} (h0:0<s) (h:k<s):(ZK s h0).take (k+1)=(ZK s h0).take k++[⟨k*JB s%s,Nat.mod_lt _ h0⟩]:=by
 have e:(ZK s h0)[k]?=some ⟨k*JB s%s,Nat.mod_lt _ h0⟩:=by
   unfold ZK;rw [List.getElem?_map,List.getElem?_range h];rfl
 rw [List.take_add_one,e];rfl
theorem Q87 {s:Nat} (h:s<=512):JB s<=512:=by unfold JB;split<;>omega
def QS (b:Nat) (W W':World):Prop:=∀v,W.cell? ⟨b,0,none⟩=some v->W'.cell? ⟨b,0,none⟩=some v
theorem QS.trans {b:Nat} {A B C:World} (h:QS b A B) (k:QS b B C):QS b A C:=fun v hv=>k v (h v hv)
theorem QS.upd {S:Nat->Prop} {b:Nat} {W W':World} (h:Upd S W W') (hb:¬S b):QS b W W':=fun v hv=>by
 have hl:=World.block_lt_of_cell? W _ hv
 rw [World.cell?_of_block (a:=⟨b,0,none⟩) (h.block b hl hb)];exact hv
theorem QS.putObj {b l:Nat} (W:World) (o':Obj) (h:b≠l):QS b W (W.putObj l o') :=
 QS.upd (S:=fun k=>k=l) ((Upd.refl _ W).grown (grownBy_putObj' W l o') (fun k e _=>by injection e with e;exact e.symm)) h
theorem Q88 (F:Fence) (m l Bn s:Nat) (hfs:F.fn 219) (hft:F.fn 218) (hro:F.round=none) (hd:F.depth=none)
   (HST:Hid (∀W,CallsIn F (m-1) Tryz.prog 219 #[.int .i64 (s:Nat)] W fun e w'=>e = .returned (.int .i64 (JB s:Nat))/\w'=W)) (hs:1<=s/\s<=512) (hs1:0<s) (J Jx:List { x:Nat // x<s }->World->Prop)
   (hY:∀pre x W,J pre W->pre.length<s->YieldAt F (m-1) Tryz.prog l #[.int .i64 (x.1:Nat)] W fun e W' =>
     (e = .returned (.bool true)/\J (pre++[x]) W'/\QS Bn W W')\/(e = .returned (.bool false)/\Jx (pre++[x]) W'))
   (W:World) (hJ:∀pre W n,J pre W->J pre (W.drewN n)) (hBn:W.cell? ⟨Bn,0,none⟩=some (.int .i64 (s:Nat))) (h0:J [] W) :
   CallsIn F m Tryz.prog 218 #[.func (.yield l) #[] #[],.pointer (some ⟨Bn,0,none⟩)] W fun e W'=>(∃v,e = .returned v) /\
     ((∃ys,ys=ZK s hs1/\J ys W')\/(∃pre,pre <+: ZK s hs1/\Jx pre W')):=by
 have hst:=Q87 hs.2;have HS:=hd_ hs;refine callsIn_of_wp Tryz.func218 rfl hft ?_ hro;simp only [Tryz.ntmps218,List.size_toArray,List.length_cons,List.length_nil,Nat.reduceAdd,Nat.reduceSub,Array.replicate_succ,Array.replicate_zero,List.push_toArray,List.append_toArray,List.nil_append,List.cons_append];gi_wp2;gi_loopg [5] s (fun f i wr=>∃k:Nat,k+f=s/\i = .int .i64 k/\J ((ZK s hs1).take k) wr/\wr.cell? ⟨Bn,0,none⟩=some (.int .i64 (s:Nat)))
 case atStart=>exact⟨0,by omega,rfl,h0,hBn⟩
 case round =>
   obtain⟨k,hk,rfl,hJk,hc⟩:=hrel;by_cases hlt:k<s
   . have hkI:(k:Int)<s:=by omega
     have HTK:=hd_ (Q5o hs1 hlt);have HJK:=hd_ hJk;have HC:=hd_ hc;have HK:=hd_ hk;(have p1:(k:Int)*(JB s:Nat)=((k*JB s:Nat):Int):=by simp);have p2:k*JB s<=512*512:=Nat.mul_le_mul (by omega) hst;have s1:IntKind.i64.wrap ((k:Int)*(JB s:Nat))=k*(JB s:Nat):=IntWalk.i64_in _ (by omega);have s2:IntKind.i64.wrap ((k:Int)+1)=k+1:=IntWalk.i64_in _ (by omega);(have hs0:¬(s:Int)=0:=by omega);(have p3:0<=(k:Int)*(JB s:Nat):=by omega);clear hJk hk p1 p2;gi_upto_region 3 with fail;refine VO 7 hro (by kernel_rfl) (by kernel_rfl) ?_;simp only [List.take_succ_cons,List.take_zero,List.drop_succ_cons,List.drop_zero];(repeat(gi_big_quiet_step ((gi_at_call 219;refine CallsIn.quiet_of_same (HST.out _)))));refine wpQuietIn_nil ?_;rintro w5 ⟨nq,rfl⟩;(have hyv:((k*JB s%s:Nat):Int)=(k:Int)*(JB s:Nat)%s:=by simp);have hY':=hY _ ⟨k*JB s%s,Nat.mod_lt _ hs1⟩ (wr.drewN nq) (hJ _ _ nq HJK.out) (by rw [List.length_take,Q3h];omega);rw [hyv]at hY';obtain⟨fn,tmps,assign,body,hy,hR⟩:=hY';clear hyv;gi_wp2;refine hR.mono ?_;rintro e W3 (⟨rfl,hJ3,hk3⟩|⟨rfl,hJx3⟩)
     . have hc3:W3.cell? ⟨Bn,0,none⟩=some (.int .i64 (s:Nat)):=hk3 _ hc
       have HJ3:=hd_ hJ3;clear hJ3 hR hy;gi_wp2;gi_roundg (gk-1)
       case measure=>have:=HK.out;omega
       case rel=>exact⟨k+1,by have:=HK.out;omega,by go_num,by rw [HTK.out];exact HJ3.out,hc3⟩
     gi_wp2;refine bodyPost_ret (results_none rfl _ _ _) rfl ?_;exact⟨⟨_,rfl⟩,.inr ⟨_,by rw [<-HTK.out];exact List.take_prefix _ _,hJx3⟩⟩
   (obtain rfl:k=s:=by omega);rw [List.take_of_length_le (by simp)]at hJk;gi_wp2;go_end0;exact⟨⟨_,rfl⟩,.inl ⟨_,rfl,hJk⟩⟩
theorem Q2G (w:World) (n:Nat):w.grownBy (w.drewN n) none:=⟨rfl,rfl,rfl,Nat.le_refl _,fun _ _ _=>rfl⟩
theorem Q5p (m Bn s:Nat) (hs:1<=s/\s<=512) (hs1:0<s) (w:World) (hBn:Bn<w.heap.size) (hc:w.cell? ⟨Bn,0,none⟩=some (.int .i64 (s:Nat))) :
   SeqStopsK Fence.wide m Tryz.prog 218 #[.pointer (some ⟨Bn,0,none⟩)] (fun x:{ x:Nat // x<s }=>#[Value.int .i64 (x.1:Nat)]) (QS Bn) (fun ys=>ys=ZK s hs1) (fun pre=>pre <+: ZK s hs1) s w :=
 fun l J Jx W hW hJa _ hY h0=>Q88 Fence.wide m l Bn s trivial trivial rfl rfl (hd_ fun W=>callsIn_wide.2 (Q85 s W hs)) hs hs1 J Jx hY W
   (fun pre W n h=>hJa pre W _ none h (Q2G W n) (fun r e=>by cases e)) ((hW.cell (p:=⟨Bn,0,none⟩) hBn).trans hc) h0
end Go.Proofs.YtjfdaphjijfieaaGreat
