/-
  Joined texts, part 24: contracts and plain lemmas.
  Conditions: none beyond those of each theorem.
-/
import Derived.Test.YtckjdhaflokcgaaGreatQ8
import Derived.Test.YtckjdhaflokcgaaGreatQ17
set_option maxHeartbeats 2000000
set_option linter.unusedVariables false
set_option linter.unusedSimpArgs false
set_option linter.unnecessarySimpa false
set_option maxRecDepth 100000
universe u
namespace Go.Proofs.YtckjdhaflokcgaaGreat
open Go.RowKit
theorem Yg (F:Nat->Prop) (g:Nat) (bs:List Nat) (at_:Nat) (w:World) (hcu:Qe w F g bs at_) (hF:∀b,F b->b≠g) :
   Calls Tryz.prog 119 #[.func (.func 120) #[.pointer (some ⟨g,0,none⟩)] #[]] w fun e w' =>
     Upd (fun b=>b=g) w w'/\if at_<bs.length then e = .returned (.int .u8 ((bs[at_]?.getD 0:Nat):Int))/\Qe w' F g bs (at_+1)else e=Qi 3/\Qe w' F g bs at_:=by
 (have hle:at_<=bs.length:=by obtain⟨_,_,_,_,_,h,_⟩:=hcu;exact h);refine Qg fun R hR=>?_;by_cases h:at_<bs.length
 . have HC:=hd_ (VM F g bs at_ w hcu h hF)
   simp only [if_pos h]at hR;clear hcu hF h hle;go_enter Tryz.func119,Tryz.ntmps119;go_wp2_with fail;refine HC.out.mono ?_;rintro e w1 ⟨rfl,u1,c1⟩;have U1:=hd_ u1;have C1:=hd_ c1;clear u1 c1 HC;go_wp2_with fail;refine(QQ _ _ _ (by simpa using(Blk.new w1 24 #[.int .i64 0]).cell 0)).mono ?_;rintro e w2 ⟨rfl,rfl⟩;go_wp2_with fail;(try go_ret);exact hR.out _ _ ⟨U1.out.alloc _,rfl,C1.out.fresh ((Upd.refl _ _).alloc _)⟩
 have HC:=hd_ (Vg F g bs at_ w hcu (by omega) hF);simp only [if_neg h]at hR;clear hcu hF h hle;go_enter Tryz.func119,Tryz.ntmps119;go_wp2_with fail;refine HC.out.mono ?_;rintro e w1 ⟨rfl,u1,c1⟩;have U1:=hd_ u1;have C1:=hd_ c1;clear u1 c1 HC;go_wp2_with fail;refine(Yw 3 _ _ _ (by simpa using(Blk.new w1 24 #[.int .i64 3]).cell 0) (by decide)).mono ?_;rintro e w2 ⟨rfl,rfl⟩;simp only [Qi];exact⟨rfl,hR.out _ _ ⟨U1.out.alloc _,rfl,C1.out.fresh ((Upd.refl _ _).alloc _)⟩⟩
theorem Jm (F:Nat->Prop) (g:Nat) (bs:List Nat) (at_:Nat) (w:World) (hcu:Qe w F g bs at_) (hF:∀b,F b->b≠g) :
   Calls Tryz.prog 121 #[.func (.func 122) #[.pointer (some ⟨g,0,none⟩)] #[]] w fun e w' =>
     Upd (fun b=>b=g) w w'/\if(QH (bs.drop at_)).2.2=0 then e = .returned (.int .u64 ((QH (bs.drop at_)).1:Nat))/\Qe w' F g bs (at_+(QH (bs.drop at_)).2.1)else e=Qi (QH (bs.drop at_)).2.2/\Qe w' F g bs at_:=by
 have HC:=hd_ (Q2r F g bs at_ w hcu hF);obtain⟨V,hV⟩:=nm_ (QH (bs.drop at_));rw [<-hV]at HC ⊢;clear hcu hF hV;refine Qg fun R hR=>?_;go_enter Tryz.func121,Tryz.ntmps121;by_cases h:V.2.2=0
 . simp only [if_pos h]at hR HC
   go_wp2_with fail;refine HC.out.mono ?_;rintro e w1 ⟨rfl,u1,c1⟩;have U1:=hd_ u1;have C1:=hd_ c1;clear u1 c1 HC;rw [h];clear h;go_wp2_with fail;refine(QQ _ _ _ (by simpa using(Blk.new w1 24 #[.int .i64 0]).cell 0)).mono ?_;rintro e w2 ⟨rfl,rfl⟩;go_wp2_with fail;(try go_ret);exact hR.out _ _ ⟨U1.out.alloc _,rfl,C1.out.fresh ((Upd.refl _ _).alloc _)⟩
 simp only [if_neg h]at hR HC;go_wp2_with fail;refine HC.out.mono ?_;rintro e w1 ⟨rfl,u1,c1⟩;have U1:=hd_ u1;have C1:=hd_ c1;have HN:=hd_ h;clear u1 c1 HC h;go_wp2_with fail;refine(Yw V.2.2 _ _ _ (by simpa using(Blk.new w1 24 #[.int .i64 V.2.2]).cell 0) HN.out).mono ?_;rintro e w2 ⟨rfl,rfl⟩;simp only [Qi];exact⟨rfl,hR.out _ _ ⟨U1.out.alloc _,rfl,C1.out.fresh ((Upd.refl _ _).alloc _)⟩⟩
end Go.Proofs.YtckjdhaflokcgaaGreat
