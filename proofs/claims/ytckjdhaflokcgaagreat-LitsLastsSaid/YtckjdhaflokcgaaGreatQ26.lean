/-
  Joined texts, part 26: contracts and plain lemmas.
  Conditions: none beyond those of each theorem.
-/
import Derived.Test.YtckjdhaflokcgaaGreatQ12
import Derived.Test.YtckjdhaflokcgaaGreatQ2
import Derived.Test.YtckjdhaflokcgaaGreatShelf
import Derived.Test.YtckjdhaflokcgaaGreatQ7
set_option linter.unusedVariables false
set_option linter.unusedSimpArgs false
set_option linter.unnecessarySimpa false
set_option maxRecDepth 100000
universe u
namespace Go.Proofs.YtckjdhaflokcgaaGreat
open Go.RowKit
def en2 (x:Nat × Nat):List Value:=[.int .i64 (x.1:Nat),.int .i64 (x.2:Nat)]
def Qx (L:List (Nat × Nat)):List Value:=(L.map en2).flatten
theorem KW (L:List (Nat × Nat)):∀r∈L.map en2,r.length=2:=by
 intro r hr;obtain⟨x,_,rfl⟩:=List.mem_map.1 hr;rfl
theorem Y8 (L:List (Nat × Nat)):(Qx L).length=2*L.length:=by
 unfold Qx;rw [Jf (KW L),List.length_map];omega
theorem Yr (A B:List (Nat × Nat)):Qx (A++B)=Qx A++Qx B:=by simp [Qx]
theorem Q4j (n:Nat):(madeCells #[Value.int .i64 0,.int .i64 0] (n*2))=(Qx (List.replicate n (0,0))).toArray:=by
 apply Array.toList_inj.1;apply List.ext_getElem?;intro i
 have hr:(Qx (List.replicate n (0,0)))[i / 2*2+i%2]?=if i<n*2 then(en2 (0,0))[i%2]? else none:=by
   by_cases h:i<n*2
   . rw [if_pos h]
     have:=JG (rows:=(List.replicate n ((0,0):Nat × Nat)).map en2) (i / 2) (i%2) (KW _) (Nat.mod_lt _ (by decide)) (by simp;omega);unfold Qx;rw [this];simp
   rw [if_neg h,List.getElem?_eq_none];rw [Y8,List.length_replicate];omega
 rw [show i / 2*2+i%2=i by omega]at hr;show(madeCells _ _).toList[i]?=(Qx (List.replicate n (0,0)))[i]?;rw [hr];by_cases h:i<n*2
 . rw [if_pos h]
   rcases(show i%2=0\/i%2=1 by omega)with h2|h2
   . simp [madeCells,h,h2,en2]
   simp [madeCells,h,h2,en2]
 rw [if_neg h,List.getElem?_eq_none];simp [madeCells];omega
def QV (x:Nat × Nat) (k n:Nat):List Value:=Qx (List.replicate k x++List.replicate (n-k) (0,0))
theorem VN (x:Nat × Nat) {k n:Nat} (h:k<=n):(QV x k n).length=2*n:=by
 unfold QV;rw [Y8];simp;omega
theorem Vh (x:Nat × Nat) {k m n:Nat} (h:k+m<=n):(QV x k n).take (k*2)++(Qx (List.replicate m x)++(QV x k n).drop (k*2+(Qx (List.replicate m x)).length))=QV x (k+m) n:=by
 (have h1:(Qx (List.replicate k x)).length=k*2:=by rw [Y8];simp;omega);(have h2:(Qx (List.replicate m x)).length=m*2:=by rw [Y8];simp;omega);(have h3:(Qx (List.replicate m ((0,0):Nat × Nat))).length=m*2:=by rw [Y8];simp;omega)
 have e1:QV x k n=Qx (List.replicate k x)++(Qx (List.replicate m (0,0))++Qx (List.replicate (n-(k+m)) (0,0))):=by
   unfold QV;rw [Yr,show n-k=m+(n-(k+m)) by omega,<-List.replicate_append_replicate,Yr]
 have e2:QV x (k+m) n=Qx (List.replicate k x)++(Qx (List.replicate m x)++Qx (List.replicate (n-(k+m)) (0,0))):=by
   unfold QV;rw [Yr,<-List.replicate_append_replicate,Yr,List.append_assoc]
 rw [e1,e2,<-h1,List.take_left,h2,<-h3,<-List.drop_drop,List.drop_left,List.drop_left]
theorem Q2s (x:Nat × Nat) {k n i:Nat} {v:Value} {m:Nat} (hm:m<=k) (h:(Qx (List.replicate m x))[i]?=some v):(QV x k n)[i]?=some v:=by
 unfold QV;(have e:List.replicate k x=List.replicate m x++List.replicate (k-m) x:=by rw [List.replicate_append_replicate];congr 1;omega);rw [Yr,e,Yr,List.append_assoc,List.getElem?_append_left (List.getElem?_eq_some_iff.1 h).1];exact h
theorem KX (m:Nat) (x:Nat × Nat):∀v∈Qx (List.replicate m x),v.oneCell'=true:=by
 intro v hv;unfold Qx at hv;simp only [List.mem_flatten,List.mem_map]at hv;obtain⟨r,⟨y,_,rfl⟩,hv⟩:=hv;simp [en2]at hv;(rcases hv with rfl|rfl<;>rfl)
theorem Zz:(Tryz.prog.info? 379).map (fun i=>(i.zero,i.size,i.bytes))=some (some (.agg #[.int .i64 0,.int .i64 0]),2,16):=by kernel_rfl
theorem Q0c (n:Nat) (hn:n<=2048) (W:World):(Instr.makeSlice 371 (.int .i64 (n:Int)) (.int .i64 (n:Int))).run Tryz.prog W = .ok (.slice (some ⟨W.heap.size,0,none⟩) n n) (W.alloc (.cells (Qx (List.replicate n (0,0))).toArray 379)):=by
 obtain⟨i,hi,hz,hs,hb⟩:=info_parts Zz;have h:=run_make (P:=Tryz.prog) W 371 379 i _ Tryz.underlying371 hi hz .i64 .i64 n n (by omega) (by omega) (by rw [hb];omega) (by omega);rw [Int.toNat_natCast,hs,show madeCells (Value.agg #[.int .i64 0,.int .i64 0]).cells (n*2)=(Qx (List.replicate n (0,0))).toArray from Q4j n]at h;exact h
end Go.Proofs.YtckjdhaflokcgaaGreat
