/-
  Joined texts, part 9: contracts and plain lemmas.
  Conditions: none beyond those of each theorem.
-/
import Derived.Test.YtckjdhaflokcgaaGreatQ5
set_option maxHeartbeats 1000000
set_option linter.unusedVariables false
set_option linter.unusedSimpArgs false
set_option linter.unnecessarySimpa false
set_option maxRecDepth 100000
universe u
namespace Go.Proofs.YtckjdhaflokcgaaGreat
open Go.RowKit
theorem YQ (pe:Addr) (fv:Value) (w:World) :
   CallsD Tryz.prog 193 #[.pointer (some pe),fv] .returning w fun e u' w'=>e = .returned (.tuple #[])/\u' = .returning/\w'=w:=by
 refine callsD_of_wpS Tryz.func193 rfl fun c₀ cs hu=>?_;apply wpS_seq;apply wpS_region;simp [wpOpsS,go_sem,recoverD,hu,Tryz.ntmps193,Exit.thenS];apply wpS_seq;apply wpS_region;simp [wpOpsS,go_sem,Exit.thenS];refine wpS_cond (t:=false) (by simp [Act.eval,Array.replicate]) ?_;simp only [Bool.false_eq_true,if_false];refine wpS_of_wp (wp_skip ?_);cases c₀
 simp_all [bodyPostS,results,Tryz.results193,Exit.thenS]
theorem YK (cf:Nat) (caps:Array Value) (S:Nat->Prop) (Q:World->Prop) (pe:Nat) (er:Int) (u:Value) (w:World) (he:Blk w pe 24 #[u]) (hpe:¬S pe) (hcf:∀args W,(callFunc cf args).run Tryz.prog W = .ok (.enter cf args) W)
   (HC:Calls Tryz.prog cf caps w fun e w'=>e = .returned (.tuple #[])/\Upd S w w'/\Q w') :
   CallsD Tryz.prog 193 #[.pointer (some ⟨pe,0,none⟩),.func (.func cf) #[] caps]
     (.panicking [{ v:=.iface 24 (.int .i64 er),recovered:=false }]) w fun e u' w'=>e = .returned (.tuple #[])/\u' = .panicking [{ v:=.iface 24 (.int .i64 er),recovered:=true }] /\
       ∃w1,Upd S w w1/\Q w1/\w'=w1.setCell ⟨pe,0,none⟩ (.int .i64 er):=by
 (have hta:∀W,(Instr.typeAssert (.iface 24 (.int .i64 er)) 20 24 true).run Tryz.prog W = .ok (.tuple #[.int .i64 er,.bool true]) W:=fun _=>by kernel_rfl);have HCL:=hd_ HC;have HE:=hd_ he;have HN:=hd_ hpe;clear he HC hpe;refine callsD_of_wpS Tryz.func193 rfl fun c₀ cs hu=>?_;apply wpS_seq;apply wpS_region;simp [wpOpsS,go_sem,recoverD,hu,Tryz.ntmps193,Exit.thenS];apply wpS_seq;apply wpS_region;simp [wpOpsS,go_sem,Exit.thenS];refine wpS_cond (t:=true) (by simp [Act.eval,Array.replicate]) ?_;simp only [if_true];apply wpS_seq;apply wpS_region;simp [wpOpsS,go_sem,hta,Exit.thenS];apply wpS_seq;apply wpS_seq;apply wpS_region;simp [wpOpsS,go_sem,Exit.thenS];refine wpS_cond (t:=false) (by simp [Act.eval,Array.replicate]) ?_;simp only [Bool.false_eq_true,if_false];refine wpS_of_wp (wp_skip ?_);simp only [Exit.thenS];apply wpS_seq;apply wpS_region;simp [wpOpsS,go_sem,hcf,Exit.thenS];refine HCL.out.mono ?_;rintro e w1 ⟨rfl,u1,q1⟩;have e1:=HE.out.upd u1 HN.out;have c0:=e1.cell 0;have z0:=e1.frozen 0;simp at c0;have HU:=hd_ u1;have HQ:=hd_ q1;clear u1 q1 e1;apply wpS_region;simp [wpOpsS,go_sem,c0,z0,Exit.thenS,bodyPostS,results,Tryz.results193];exact⟨w1,HU.out,HQ.out,rfl⟩
theorem JZ (pe:Addr) (fv:Value) (w:World) :
   CallsD Tryz.prog 84 #[.pointer (some pe),fv] .returning w fun e u' w'=>e = .returned (.tuple #[])/\u' = .returning/\w'=w:=by
 refine callsD_of_wpS Tryz.func84 rfl fun c₀ cs hu=>?_;apply wpS_seq;apply wpS_region;simp [wpOpsS,go_sem,recoverD,hu,Tryz.ntmps84,Exit.thenS];apply wpS_seq;apply wpS_region;simp [wpOpsS,go_sem,Exit.thenS];refine wpS_cond (t:=false) (by simp [Act.eval,Array.replicate]) ?_;simp only [Bool.false_eq_true,if_false];refine wpS_of_wp (wp_skip ?_);cases c₀
 simp_all [bodyPostS,results,Tryz.results84,Exit.thenS]
theorem YE (cf:Nat) (caps:Array Value) (S:Nat->Prop) (Q:World->Prop) (pe:Nat) (er:Int) (u:Value) (w:World) (he:Blk w pe 24 #[u]) (hpe:¬S pe) (hcf:∀args W,(callFunc cf args).run Tryz.prog W = .ok (.enter cf args) W)
   (HC:Calls Tryz.prog cf caps w fun e w'=>e = .returned (.tuple #[])/\Upd S w w'/\Q w') :
   CallsD Tryz.prog 84 #[.pointer (some ⟨pe,0,none⟩),.func (.func cf) #[] caps]
     (.panicking [{ v:=.iface 24 (.int .i64 er),recovered:=false }]) w fun e u' w'=>e = .returned (.tuple #[])/\u' = .panicking [{ v:=.iface 24 (.int .i64 er),recovered:=true }] /\
       ∃w1,Upd S w w1/\Q w1/\w'=w1.setCell ⟨pe,0,none⟩ (.int .i64 er):=by
 (have hta:∀W,(Instr.typeAssert (.iface 24 (.int .i64 er)) 20 24 true).run Tryz.prog W = .ok (.tuple #[.int .i64 er,.bool true]) W:=fun _=>by kernel_rfl);have HCL:=hd_ HC;have HE:=hd_ he;have HN:=hd_ hpe;clear he HC hpe;refine callsD_of_wpS Tryz.func84 rfl fun c₀ cs hu=>?_;apply wpS_seq;apply wpS_region;simp [wpOpsS,go_sem,recoverD,hu,Tryz.ntmps84,Exit.thenS];apply wpS_seq;apply wpS_region;simp [wpOpsS,go_sem,Exit.thenS];refine wpS_cond (t:=true) (by simp [Act.eval,Array.replicate]) ?_;simp only [if_true];apply wpS_seq;apply wpS_region;simp [wpOpsS,go_sem,hta,Exit.thenS];apply wpS_seq;apply wpS_seq;apply wpS_region;simp [wpOpsS,go_sem,Exit.thenS];refine wpS_cond (t:=false) (by simp [Act.eval,Array.replicate]) ?_;simp only [Bool.false_eq_true,if_false];refine wpS_of_wp (wp_skip ?_);simp only [Exit.thenS];apply wpS_seq;apply wpS_region;simp [wpOpsS,go_sem,hcf,Exit.thenS];refine HCL.out.mono ?_;rintro e w1 ⟨rfl,u1,q1⟩;have e1:=HE.out.upd u1 HN.out;have c0:=e1.cell 0;have z0:=e1.frozen 0;simp at c0;have HU:=hd_ u1;have HQ:=hd_ q1;clear u1 q1 e1;apply wpS_region;simp [wpOpsS,go_sem,c0,z0,Exit.thenS,bodyPostS,results,Tryz.results84];exact⟨w1,HU.out,HQ.out,rfl⟩
theorem KN (pe:Addr) (fv:Value) (w:World) :
   CallsD Tryz.prog 92 #[.pointer (some pe),fv] .returning w fun e u' w'=>e = .returned (.tuple #[])/\u' = .returning/\w'=w:=by
 refine callsD_of_wpS Tryz.func92 rfl fun c₀ cs hu=>?_;apply wpS_seq;apply wpS_region;simp [wpOpsS,go_sem,recoverD,hu,Tryz.ntmps92,Exit.thenS];apply wpS_seq;apply wpS_region;simp [wpOpsS,go_sem,Exit.thenS];refine wpS_cond (t:=false) (by simp [Act.eval,Array.replicate]) ?_;simp only [Bool.false_eq_true,if_false];refine wpS_of_wp (wp_skip ?_);cases c₀
 simp_all [bodyPostS,results,Tryz.results92,Exit.thenS]
theorem Kg (cf:Nat) (caps:Array Value) (S:Nat->Prop) (Q:World->Prop) (pe:Nat) (er:Int) (u:Value) (w:World) (he:Blk w pe 24 #[u]) (hpe:¬S pe) (hcf:∀args W,(callFunc cf args).run Tryz.prog W = .ok (.enter cf args) W)
   (HC:Calls Tryz.prog cf caps w fun e w'=>e = .returned (.tuple #[])/\Upd S w w'/\Q w') :
   CallsD Tryz.prog 92 #[.pointer (some ⟨pe,0,none⟩),.func (.func cf) #[] caps]
     (.panicking [{ v:=.iface 24 (.int .i64 er),recovered:=false }]) w fun e u' w'=>e = .returned (.tuple #[])/\u' = .panicking [{ v:=.iface 24 (.int .i64 er),recovered:=true }] /\
       ∃w1,Upd S w w1/\Q w1/\w'=w1.setCell ⟨pe,0,none⟩ (.int .i64 er):=by
 (have hta:∀W,(Instr.typeAssert (.iface 24 (.int .i64 er)) 20 24 true).run Tryz.prog W = .ok (.tuple #[.int .i64 er,.bool true]) W:=fun _=>by kernel_rfl);have HCL:=hd_ HC;have HE:=hd_ he;have HN:=hd_ hpe;clear he HC hpe;refine callsD_of_wpS Tryz.func92 rfl fun c₀ cs hu=>?_;apply wpS_seq;apply wpS_region;simp [wpOpsS,go_sem,recoverD,hu,Tryz.ntmps92,Exit.thenS];apply wpS_seq;apply wpS_region;simp [wpOpsS,go_sem,Exit.thenS];refine wpS_cond (t:=true) (by simp [Act.eval,Array.replicate]) ?_;simp only [if_true];apply wpS_seq;apply wpS_region;simp [wpOpsS,go_sem,hta,Exit.thenS];apply wpS_seq;apply wpS_seq;apply wpS_region;simp [wpOpsS,go_sem,Exit.thenS];refine wpS_cond (t:=false) (by simp [Act.eval,Array.replicate]) ?_;simp only [Bool.false_eq_true,if_false];refine wpS_of_wp (wp_skip ?_);simp only [Exit.thenS];apply wpS_seq;apply wpS_region;simp [wpOpsS,go_sem,hcf,Exit.thenS];refine HCL.out.mono ?_;rintro e w1 ⟨rfl,u1,q1⟩;have e1:=HE.out.upd u1 HN.out;have c0:=e1.cell 0;have z0:=e1.frozen 0;simp at c0;have HU:=hd_ u1;have HQ:=hd_ q1;clear u1 q1 e1;apply wpS_region;simp [wpOpsS,go_sem,c0,z0,Exit.thenS,bodyPostS,results,Tryz.results92];exact⟨w1,HU.out,HQ.out,rfl⟩
theorem Y2 (pe:Addr) (fv:Value) (w:World) :
   CallsD Tryz.prog 41 #[.pointer (some pe),fv] .returning w fun e u' w'=>e = .returned (.tuple #[])/\u' = .returning/\w'=w:=by
 refine callsD_of_wpS Tryz.func41 rfl fun c₀ cs hu=>?_;apply wpS_seq;apply wpS_region;simp [wpOpsS,go_sem,recoverD,hu,Tryz.ntmps41,Exit.thenS];apply wpS_seq;apply wpS_region;simp [wpOpsS,go_sem,Exit.thenS];refine wpS_cond (t:=false) (by simp [Act.eval,Array.replicate]) ?_;simp only [Bool.false_eq_true,if_false];refine wpS_of_wp (wp_skip ?_);cases c₀
 simp_all [bodyPostS,results,Tryz.results41,Exit.thenS]
theorem QO (cf:Nat) (caps:Array Value) (S:Nat->Prop) (Q:World->Prop) (pe:Nat) (er:Int) (u:Value) (w:World) (he:Blk w pe 24 #[u]) (hpe:¬S pe) (hcf:∀args W,(callFunc cf args).run Tryz.prog W = .ok (.enter cf args) W)
   (HC:Calls Tryz.prog cf caps w fun e w'=>e = .returned (.tuple #[])/\Upd S w w'/\Q w') :
   CallsD Tryz.prog 41 #[.pointer (some ⟨pe,0,none⟩),.func (.func cf) #[] caps]
     (.panicking [{ v:=.iface 24 (.int .i64 er),recovered:=false }]) w fun e u' w'=>e = .returned (.tuple #[])/\u' = .panicking [{ v:=.iface 24 (.int .i64 er),recovered:=true }] /\
       ∃w1,Upd S w w1/\Q w1/\w'=w1.setCell ⟨pe,0,none⟩ (.int .i64 er):=by
 (have hta:∀W,(Instr.typeAssert (.iface 24 (.int .i64 er)) 20 24 true).run Tryz.prog W = .ok (.tuple #[.int .i64 er,.bool true]) W:=fun _=>by kernel_rfl);have HCL:=hd_ HC;have HE:=hd_ he;have HN:=hd_ hpe;clear he HC hpe;refine callsD_of_wpS Tryz.func41 rfl fun c₀ cs hu=>?_;apply wpS_seq;apply wpS_region;simp [wpOpsS,go_sem,recoverD,hu,Tryz.ntmps41,Exit.thenS];apply wpS_seq;apply wpS_region;simp [wpOpsS,go_sem,Exit.thenS];refine wpS_cond (t:=true) (by simp [Act.eval,Array.replicate]) ?_;simp only [if_true];apply wpS_seq;apply wpS_region;simp [wpOpsS,go_sem,hta,Exit.thenS];apply wpS_seq;apply wpS_seq;apply wpS_region;simp [wpOpsS,go_sem,Exit.thenS];refine wpS_cond (t:=false) (by simp [Act.eval,Array.replicate]) ?_;simp only [Bool.false_eq_true,if_false];refine wpS_of_wp (wp_skip ?_);simp only [Exit.thenS];apply wpS_seq;apply wpS_region;simp [wpOpsS,go_sem,hcf,Exit.thenS];refine HCL.out.mono ?_;rintro e w1 ⟨rfl,u1,q1⟩;have e1:=HE.out.upd u1 HN.out;have c0:=e1.cell 0;have z0:=e1.frozen 0;simp at c0;have HU:=hd_ u1;have HQ:=hd_ q1;clear u1 q1 e1;apply wpS_region;simp [wpOpsS,go_sem,c0,z0,Exit.thenS,bodyPostS,results,Tryz.results41];exact⟨w1,HU.out,HQ.out,rfl⟩
end Go.Proofs.YtckjdhaflokcgaaGreat
