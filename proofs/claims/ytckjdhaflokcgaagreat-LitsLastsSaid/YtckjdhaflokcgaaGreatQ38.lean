/-
  Joined texts, part 38: contracts and plain lemmas.
  Conditions: none beyond those of each theorem.
-/
import Derived.Test.YtckjdhaflokcgaaGreatQ35
import Derived.Test.YtckjdhaflokcgaaGreatQ17
set_option maxHeartbeats 2000000
set_option linter.unusedVariables false
set_option linter.unusedSimpArgs false
set_option linter.unnecessarySimpa false
set_option maxRecDepth 100000
universe u
namespace Go.Proofs.YtckjdhaflokcgaaGreat
open Go.RowKit
theorem Q2A (base g x n:Nat) (B:List Bool) (w:World) (h:QD w (fun k=>base<=k) g B) (hb:base<=w.heap.size) (hn:n<=32) (hx:x<2^n) (hl:B.length<=2^30) :
   Calls Tryz.prog 87 #[.agg #[.int .u64 (x:Nat),.int .u64 (n:Nat)],.pointer (some ⟨g,0,none⟩)] w fun e w'=>e = .returned (.tuple #[]) /\
     Upd (fun k=>k=g\/(base<=k/\∃cs,Blk w k 5 cs)) w w'/\QD w' (fun k=>base<=k) g (B++Qs n x):=by
 obtain⟨w0,hw0⟩:=nm_ (w.alloc (.cells #[.int .u64 (x:Nat),.int .u64 (n:Nat)] 125));obtain⟨H,hH⟩:=nm_ (w.heap.size);(have f0:Q0 w w0:=by rw [hw0];exact(Upd.refl _ _).alloc _);(have bt:Blk w0 H 125 #[.int .u64 (x:Nat),.int .u64 (n:Nat)]:=by rw [hw0];exact Qc hH _ _);obtain⟨q0,q1⟩:=(bt).cells2;have hwn:IntKind.i64.wrap (n:Int)=n:=IntWalk.i64_in _ (by omega);have HP:=hd_ (Q3n base g x n B w0 (h.upd f0 (fun _ _ h=>h.elim)) (by have:=f0.size;omega) hn hx hl);have F0:=hd_ f0;have HW:=hd_ hw0;have HH:=hd_ hH;have BT:=hd_ bt;have HWA:=hd_ h;clear hw0 hH f0 bt h hn hx hl;refine Qg fun R hR=>?_;go_enter Tryz.func87,Tryz.ntmps87;go_upto_region 1 with fail;simp only [<-HH.out,<-HW.out];go_wp2_with fail;refine HP.out.mono ?_;rintro e w1 ⟨rfl,u1,h1⟩;have U1:=hd_ u1;have H1:=hd_ h1;clear u1 h1 HP;go_wp2_with fail;refine(Jp _ _ _ (by simpa using(Blk.new w1 24 #[.int .i64 0]).cell 0)).mono ?_;rintro e w2 ⟨rfl,rfl⟩;go_wp2_with fail;(try go_end0);refine hR.out _ _ ⟨rfl,?_,H1.out.upd ((Upd.refl (fun _=>False) w1).alloc _) (fun _ _ h=>h.elim)⟩;refine Upd.alloc (Upd.trans (F0.out.mono (fun _ _ h=>h.elim)) U1.out ?_) _;rintro k hk (rfl|⟨hb2,cs,hcs⟩)
 . exact .inl rfl
 exact .inr ⟨hb2,cs,(F0.out.block k hk (fun h=>h)).symm.trans hcs⟩
end Go.Proofs.YtckjdhaflokcgaaGreat
