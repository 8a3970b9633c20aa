/-
  Joined texts, part 13: contracts and plain lemmas.
  Conditions: none beyond those of each theorem.
-/
import Derived.Test.YtakjpcnhhkgfoaaGreatM12
set_option linter.unusedVariables false
set_option linter.unusedSimpArgs false
set_option maxRecDepth 100000
universe u
namespace Go.Proofs.YtakjpcnhhkgfoaaGreat
open Go.ChangeShapes Go.WideShapes Go.ChangeAt Go.RowKit Go.Joins
theorem Qx {H:Type} {enc:TypeId × Value->H} {W:World} {r:Reach} {b0:Nat} {v:Value} {d:DataW H} {p:List MemPlace}
   (hv:Value.okWide Tryz.prog W r b0 22 v) (h:DataW.Trod enc Tryz.prog W 0 (fun _=>true) true 22 v d p) :
   ∃(A:Option Addr) (n c:Nat) (bs:List Nat),v = .slice A n c/\Rd W (fun _=>True) A n (bs.map fun b=>.int .u8 (b:Nat))/\(∀b∈bs,b<256)/\n<=c/\(n=0\/∃el sp,d = .slice el sp/\el.length=n):=by
 obtain⟨a1,len,cap,rfl⟩:=okWide_slice Tryz.underlying22 hv;obtain⟨fuel,hf⟩:=h;rcases open_ints Tryz.underlying22 Tryz.underlying5 (by kernel_rfl) hf with ⟨hcs,_⟩|⟨x,l,c,zs,hcs,_,hl,hm,hz,hx,hcell,hwz⟩
 . simp [Value.cells]at hcs
   obtain⟨rfl,rfl,rfl⟩:=hcs;exact⟨none,0,0,[],rfl,Rd.nil _ _ _,fun x hx=>by simp at hx,Nat.le_refl _,.inl rfl⟩
 simp [Value.cells]at hcs;obtain⟨rfl,rfl,rfl⟩:=hcs;simp at hz;simp only [Prod.mk.injEq]at hx;refine⟨some x,len,cap,(zs.take len).map Int.toNat,rfl,Yc (by omega) hwz hcell,fun b hb=>?_,hl,.inr ⟨_,_,hx.1,by simp [lits];omega⟩⟩;obtain⟨z,hz1,rfl⟩:=List.mem_map.1 hb;have:=J6 (hwz z (List.mem_of_mem_take hz1));omega
theorem Qy {H:Type} {d:DataW H} {n:Nat} (hz:∀el sp,d = .slice el sp->(el.length+sp.length) * Tryz.prog.bytesOf 5<=reachBytes) (h:n=0\/∃el sp,d = .slice el sp/\el.length=n):n<=2^47:=by
 rcases h with rfl|⟨el,sp,e,rfl⟩
 . omega
 have h1:=hz el sp e;(have h2:Tryz.prog.bytesOf 5=1:=by kernel_rfl);rw [h2]at h1;have h3:=reachBytes_lt;omega
end Go.Proofs.YtakjpcnhhkgfoaaGreat
