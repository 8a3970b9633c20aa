/-
  Joined texts, part 25: contracts and plain lemmas.
  Conditions: none beyond those of each theorem.
-/
import Derived.Test.YtckjdhaflokcgaaGreatQ9
import Derived.RecoverIn
import Derived.RangeFuncLeaves
set_option maxHeartbeats 1000000
set_option linter.unusedVariables false
set_option linter.unusedSimpArgs false
set_option linter.unnecessarySimpa false
set_option maxRecDepth 100000
universe u
namespace Go.Proofs.YtckjdhaflokcgaaGreat
open Go.RowKit
theorem Kv (n:Nat) (pe:Addr) (fv:Value) (w:World) :
   CallsDIn Fence.wide n Tryz.prog 84 #[.pointer (some pe),fv] .returning w fun e u' w'=>e = .returned (.tuple #[])/\u' = .returning/\w'=w:=by
 refine callsDIn_of_wpSIn Tryz.func84 rfl trivial fun c₀ cs hu=>?_;apply wpSIn_seq;apply wpSIn_region;simp [wpOpsSIn,go_sem,recoverD,hu,Tryz.ntmps84,Exit.thenS];apply wpSIn_seq;apply wpSIn_region;simp [wpOpsSIn,go_sem,Exit.thenS];refine wpSIn_cond (t:=false) (by simp [Act.eval,Array.replicate]) ?_;simp only [Bool.false_eq_true,if_false];refine wpSIn_of_wpIn rfl (wpIn_skip ?_);cases c₀
 simp_all [bodyPostS,results,Tryz.results84,Exit.thenS]
section
variable {P:Program} {n:Nat} {fn:Func} {tmps:Array Value} {R:Ending->World->Prop} {ds:List Deferred} {u:FrameMode} {w w':World}
theorem Zy {r:Nat} {args:Array Value} (hu:u≠.run) (hk:(Instr.takeDeferred r).run P w = .ok [] w') (h:LeavesInM Fence.wide n P fn tmps R ds u w') :
   LeavesInM Fence.wide n P fn tmps R ({ target:=.collected r,args:=args } :: ds) u w:=⟨hu,.inl ⟨r,w',rfl,hk,h⟩⟩
theorem Q0b {fv:Fn} {cap dargs:Array Value} {f:FuncId} {args:Array Value} (hu:u≠.run) (hi:(invoke (.fn fv cap) dargs).run P w = .ok (.enter f args) w)
   (h:CallsDIn Fence.wide (n-1) P f args u w fun
     | .returned _,u',w'=>LeavesInM Fence.wide n P fn tmps R ds (settle u') w'
     | .panicked chain,u',w'=>LeavesInM Fence.wide n P fn tmps R ds (raised u' chain) w'
     | .outgrown,_,w'=>R .outgrown w') :
   LeavesInM Fence.wide n P fn tmps R ({ target:=.fn fv cap,args:=dargs } :: ds) u w :=
 ⟨hu,.inr ⟨fun h=>by simp [Fence.wide]at h,fv,cap,f,args,rfl,hi,fun _ _=>trivial,h⟩⟩
end
end Go.Proofs.YtckjdhaflokcgaaGreat
