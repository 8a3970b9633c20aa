/-
  Joined texts, part 11: contracts and plain lemmas.
  Conditions: none beyond those of each theorem.
-/
import Derived.Test.YtakjpcnhhkgfoaaGreatM9
import Derived.Lib.MakeNoZero
import Derived.Laws.CopyOwn
set_option maxHeartbeats 1000000
set_option linter.unusedVariables false
set_option linter.unusedSimpArgs false
set_option maxRecDepth 100000
universe u
namespace Go.Proofs.YtakjpcnhhkgfoaaGreat
open Go.RowKit
theorem YM:(Tryz.prog.info? 5).map (·.size)=some 1:=by kernel_rfl
theorem YN (F:Nat->Prop) (A:Option Addr) (c x:Nat) (w:World) (hr:Rd w F A 1 (Q1 [x])) :
   Calls Tryz.prog 44 #[.slice A 1 c,.int .i64 1] w fun e w'=>∃A' c',e = .returned (.slice A' 1 c')/\Rd w' (fun b=>w.heap.size<=b) A' 1 (Q1 [x])/\Q0 w w':=by
 obtain⟨b,o,rfl,-,hb,hcell⟩:=hr.2 (by omega);have hc:=hcell 0 (by omega);simp [Q1]at hc;have HC:=hd_ hc;have HB:=hd_ hb;clear hr hb hcell hc;have HMU:=hd_ (show ∀W,Calls Tryz.prog 52 #[.int .u64 1,.int .u64 1] W fun e w'=>e = .returned (.tuple #[.int .u64 0,.int .u64 1])/\W=w' from fun W=>(Tryz.bits_Mul 1 1 (by decide) (by decide) W).mono fun e w' h=>⟨h.1,h.2.symm⟩);refine Q6 fun R hR=>?_;go_enter Tryz.func44,Tryz.ntmps44;go_wp2_with fail;refine(HMU.out _).mono ?_;rintro e w1 ⟨rfl,rfl⟩;obtain⟨cs,hrun,hle,hmax⟩:=Lib.run_makeNoZero (P:=Tryz.prog) w #[3] 22 5 Tryz.underlying22 1 (by decide)
 have hcall:(callFunc 53 #[.int .i64 1]).run Tryz.prog w = .ok (.value (.slice (some ⟨w.heap.size,0,none⟩) 1 cs.size)) (w.drew.drew.alloc (.cells cs 5)):=by
   rw [run_callFunc_extern Tryz.func53 (by kernel_rfl) (by kernel_rfl) (by kernel_rfl) (e:=Extern.BytealgMakeNoZero.makeNoZero #[3] #[22]) (by kernel_rfl)];have h2:=hrun;rw [show((1:Nat):Int)=1 from rfl]at h2;rw [h2];rfl
 (have hle2:(1:Int)<=cs.size:=by omega);(have hcl:cs.size<=9223372036854775807:=by have:=hmax (by simp [maxLen]);simpa [maxLen]using this);clear hrun hle hmax;have hgg:((w.alloc (.cells cs 5)).drew.drew).heap[w.heap.size]?=some (.cells cs 5 (0,0)):=heap_alloc_new w _
 have hsrc:∀j v,[Value.int .u8 (x:Nat)][j]?=some v->((w.alloc (.cells cs 5)).drew.drew).cell? ((⟨b,o,none⟩:Addr).add j)=some v:=fun j v hv=>by
   (have hj:j=0:=by have:=(List.getElem?_eq_some_iff.1 hv).1;simpa using this);subst hj;simp at hv;subst hv;have h3:((w.alloc (.cells cs 5)).drew.drew).cell? ⟨b,o,none⟩=w.cell? ⟨b,o,none⟩:=Q0.cells (((Upd.refl _ w).alloc _).drew.drew) b o HB.out;rw [Addr.add_lit];rw [Nat.add_zero,h3];exact HC.out
 have HG:=hd_ hgg;have HS:=hd_ hsrc;have HZ:=hd_ hle2;clear hgg hsrc;go_wp2_with (with_reducible refine wpList_copy_own (o:=⟨some 60,_,_,_,_,_⟩) rfl (.tmp 58) (.tmp 59) 22 22 rfl 5 Tryz.underlying22 YM w.heap.size 0 1 1 ⟨b,o,none⟩ 1 c rfl rfl cs 5 HG.out [.int .u8 (x:Nat)] rfl HS.out (by have:=HZ.out;simp;omega) (by simp [Value.oneCell']) ?_);have hbk:Blk (((w.alloc (.cells cs 5)).drew.drew).setRow w.heap.size (cs.toList.take 0++([Value.int .u8 (x:Nat)]++cs.toList.drop (0+[Value.int .u8 (x:Nat)].length))).toArray) w.heap.size 5 (cs.toList.take 0++([Value.int .u8 (x:Nat)]++cs.toList.drop (0+[Value.int .u8 (x:Nat)].length))).toArray:=setRow_heap _ _ _ _ 5 (0,0) HG.out
 have hfr:Q0 w (((w.alloc (.cells cs 5)).drew.drew).setRow w.heap.size (cs.toList.take 0++([Value.int .u8 (x:Nat)]++cs.toList.drop (0+[Value.int .u8 (x:Nat)].length))).toArray) :=
   (((Upd.refl (fun _=>False) w).alloc (.cells cs 5)).drew.drew).trans (T:=fun b=>b=w.heap.size) ⟨rfl,rfl,rfl,by simp [World.setRow],fun k hk hn=>setRow_other _ _ k _ hn⟩ (fun b hb h=>by omega)
 have hc0:=hbk.cell 0;simp only [List.take_zero,List.nil_append,List.cons_append,List.getElem?_toArray,List.getElem?_cons_zero]at hc0;have HC0:=hd_ hc0;have HF:=hd_ hfr;have HLT:=hd_ hbk.lt;obtain⟨w5,hw5⟩:=nm_ (((w.alloc (.cells cs 5)).drew.drew).setRow w.heap.size (cs.toList.take 0++([Value.int .u8 (x:Nat)]++cs.toList.drop (0+[Value.int .u8 (x:Nat)].length))).toArray);simp only [List.take_zero,List.nil_append,List.cons_append]at HC0 HF HLT hw5;rw [<-hw5]at HC0 HF HLT;have HW5:=hd_ hw5;clear hbk hfr hc0 HG HS HZ hle2 hcl hcall hw5;go_loopg [10] 0 (fun f vb wr=>vb = .int .i64 1/\wr=w5)
 case atStart=>exact⟨rfl,by rw [HW5.out];simp⟩
 case round =>
   obtain⟨rfl,rfl⟩:=hrel;go_wp2_with fail;(try go_ret);exact hR.out _ _ ⟨_,_,rfl,⟨rfl,fun _=>⟨w.heap.size,0,rfl,Nat.le_refl _,HLT.out,fun j hj=>by(obtain rfl:j=0:=by omega);simpa [Q1]using HC0.out⟩⟩,HF.out⟩
end Go.Proofs.YtakjpcnhhkgfoaaGreat
