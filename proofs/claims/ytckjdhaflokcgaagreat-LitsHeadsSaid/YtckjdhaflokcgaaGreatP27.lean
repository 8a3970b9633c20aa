/-
  Joined texts, part 27: contracts and plain lemmas.
  Conditions: none beyond those of each theorem.
-/
import Derived.Test.YtckjdhaflokcgaaGreatP12
import Derived.Test.YtckjdhaflokcgaaGreatP2
import Derived.Test.YtckjdhaflokcgaaGreatShelf
import Derived.Test.YtckjdhaflokcgaaGreatP7
set_option linter.unusedVariables false
set_option linter.unusedSimpArgs false
set_option linter.unnecessarySimpa false
set_option maxRecDepth 100000
universe u
namespace Go.Proofs.YtckjdhaflokcgaaGreat
open Go.RowKit
def en2 (x:Nat × Nat):List Value:=[.int .i64 (x.1:Nat),.int .i64 (x.2:Nat)]
def Ql (L:List (Nat × Nat)):List Value:=(L.map en2).flatten
theorem ZX (L:List (Nat × Nat)):∀r∈L.map en2,r.length=2:=by
 intro r hr;obtain⟨x,_,rfl⟩:=List.mem_map.1 hr;rfl
theorem QQ (L:List (Nat × Nat)):(Ql L).length=2*L.length:=by
 unfold Ql;rw [YM (ZX L),List.length_map];omega
theorem Yh (A B:List (Nat × Nat)):Ql (A++B)=Ql A++Ql B:=by simp [Ql]
theorem Q2I (n:Nat):(madeCells #[Value.int .i64 0,.int .i64 0] (n*2))=(Ql (List.replicate n (0,0))).toArray:=by
 apply Array.toList_inj.1;apply List.ext_getElem?;intro i
 have hr:(Ql (List.replicate n (0,0)))[i / 2*2+i%2]?=if i<n*2 then(en2 (0,0))[i%2]? else none:=by
   by_cases h:i<n*2
   . rw [if_pos h]
     have:=J9 (rows:=(List.replicate n ((0,0):Nat × Nat)).map en2) (i / 2) (i%2) (ZX _) (Nat.mod_lt _ (by decide)) (by simp;omega);unfold Ql;rw [this];simp
   rw [if_neg h,List.getElem?_eq_none];rw [QQ,List.length_replicate];omega
 rw [show i / 2*2+i%2=i by omega]at hr;show(madeCells _ _).toList[i]?=(Ql (List.replicate n (0,0)))[i]?;rw [hr];by_cases h:i<n*2
 . rw [if_pos h]
   rcases(show i%2=0\/i%2=1 by omega)with h2|h2
   . simp [madeCells,h,h2,en2]
   simp [madeCells,h,h2,en2]
 rw [if_neg h,List.getElem?_eq_none];simp [madeCells];omega
def QE (x:Nat × Nat) (k n:Nat):List Value:=Ql (List.replicate k x++List.replicate (n-k) (0,0))
theorem KZ (x:Nat × Nat) {k n:Nat} (h:k<=n):(QE x k n).length=2*n:=by
 unfold QE;rw [QQ];simp;omega
theorem Ku (x:Nat × Nat) {k m n:Nat} (h:k+m<=n):(QE x k n).take (k*2)++(Ql (List.replicate m x)++(QE x k n).drop (k*2+(Ql (List.replicate m x)).length))=QE x (k+m) n:=by
 (have h1:(Ql (List.replicate k x)).length=k*2:=by rw [QQ];simp;omega);(have h2:(Ql (List.replicate m x)).length=m*2:=by rw [QQ];simp;omega);(have h3:(Ql (List.replicate m ((0,0):Nat × Nat))).length=m*2:=by rw [QQ];simp;omega)
 have e1:QE x k n=Ql (List.replicate k x)++(Ql (List.replicate m (0,0))++Ql (List.replicate (n-(k+m)) (0,0))):=by
   unfold QE;rw [Yh,show n-k=m+(n-(k+m)) by omega,<-List.replicate_append_replicate,Yh]
 have e2:QE x (k+m) n=Ql (List.replicate k x)++(Ql (List.replicate m x)++Ql (List.replicate (n-(k+m)) (0,0))):=by
   unfold QE;rw [Yh,<-List.replicate_append_replicate,Yh,List.append_assoc]
 rw [e1,e2,<-h1,List.take_left,h2,<-h3,<-List.drop_drop,List.drop_left,List.drop_left]
theorem Q1d (x:Nat × Nat) {k n i:Nat} {v:Value} {m:Nat} (hm:m<=k) (h:(Ql (List.replicate m x))[i]?=some v):(QE x k n)[i]?=some v:=by
 unfold QE;(have e:List.replicate k x=List.replicate m x++List.replicate (k-m) x:=by rw [List.replicate_append_replicate];congr 1;omega);rw [Yh,e,Yh,List.append_assoc,List.getElem?_append_left (List.getElem?_eq_some_iff.1 h).1];exact h
theorem ZY (m:Nat) (x:Nat × Nat):∀v∈Ql (List.replicate m x),v.oneCell'=true:=by
 intro v hv;unfold Ql at hv;simp only [List.mem_flatten,List.mem_map]at hv;obtain⟨r,⟨y,_,rfl⟩,hv⟩:=hv;simp [en2]at hv;(rcases hv with rfl|rfl<;>rfl)
theorem JZ:(Tryz.prog.info? 379).map (fun i=>(i.zero,i.size,i.bytes))=some (some (.agg #[.int .i64 0,.int .i64 0]),2,16):=by kernel_rfl
theorem Xq (n:Nat) (hn:n<=2048) (W:World):(Instr.makeSlice 371 (.int .i64 (n:Int)) (.int .i64 (n:Int))).run Tryz.prog W = .ok (.slice (some ⟨W.heap.size,0,none⟩) n n) (W.alloc (.cells (Ql (List.replicate n (0,0))).toArray 379)):=by
 obtain⟨i,hi,hz,hs,hb⟩:=info_parts JZ;have h:=run_make (P:=Tryz.prog) W 371 379 i _ Tryz.underlying371 hi hz .i64 .i64 n n (by omega) (by omega) (by rw [hb];omega) (by omega);rw [Int.toNat_natCast,hs,show madeCells (Value.agg #[.int .i64 0,.int .i64 0]).cells (n*2)=(Ql (List.replicate n (0,0))).toArray from Q2I n]at h;exact h
end Go.Proofs.YtckjdhaflokcgaaGreat
