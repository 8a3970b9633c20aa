/-
  Joined texts, part 19: contracts and plain lemmas.
  Conditions: none beyond those of each theorem.
-/
import Derived.Test.YtjfdaphjijfieaaGreatN4
import Derived.Lib.SmallJoins
set_option linter.unusedVariables false
set_option linter.unusedSimpArgs false
set_option maxRecDepth 100000
universe u
namespace Go.Proofs.YtjfdaphjijfieaaGreat
open Go.ChangeShapes Go.WideShapes Go.ChangeAt Go.RowKit Go.Joins
theorem Q6b {k:Int} (h:(Lit.int .i64 k).wf=true):-9223372036854775808<=k/\k<=9223372036854775807:=by
 unfold Lit.wf at h;simp only [Bool.and_eq_true,decide_eq_true_eq]at h;(have h1:IntKind.i64.min=-9223372036854775808:=by decide);(have h2:IntKind.i64.max=9223372036854775807:=by decide);omega
theorem Q2c {W:World} {x:Addr} {zs:List Int} {n:Nat} (hl:n<=zs.length) (h:∀i,i<zs.length->W.cell? (x.add i)=some (.int .i64 (zs.getD i 0))):Rd W (fun _=>True) (some x) n (Q1 (zs.take n)):=by
 refine⟨by simp;omega,fun hn=>?_⟩;obtain⟨b,o,rfl,hc⟩:=ints_at h (by omega);refine⟨b,o,rfl,trivial,World.block_lt_of_cell? _ _ (hc 0 (by omega)),fun j hj=>?_⟩;rw [hc j (by omega),VE (by simp;omega)];simp [List.getD_eq_getElem?_getD,List.getElem?_eq_getElem (show j<zs.length by omega)]
theorem Q5b {k:Int} (h:(Lit.int .u8 k).wf=true):0<=k/\k<=255:=by
 unfold Lit.wf at h;simp only [Bool.and_eq_true,decide_eq_true_eq]at h;(have h1:IntKind.u8.min=0:=by decide);(have h2:IntKind.u8.max=255:=by decide);omega
theorem Q1o {W:World} {x:Addr} {zs:List Int} {n:Nat} (hl:n<=zs.length) (hw:∀z∈zs,(Lit.int .u8 z).wf=true) (h:∀i,i<zs.length->W.cell? (x.add i)=some (.int .u8 (zs.getD i 0))) :
   Rd W (fun _=>True) (some x) n (((zs.take n).map Int.toNat).map fun b=>.int .u8 (b:Nat)):=by
 refine⟨by simp;omega,fun hn=>?_⟩
 have hx:∃b o,x=⟨b,o,none⟩/\∀j,j<zs.length->W.cell? ⟨b,o+j,none⟩=some (.int .u8 (zs.getD j 0)):=by
   obtain⟨b,o,spot⟩:=x;(have hspot:spot=none:=by simpa [Addr.add]using World.cell?_spot (h 0 (by omega)));subst hspot;exact⟨b,o,rfl,fun j hj=>by have:=h j hj;rw [Addr.add_lit]at this;exact this⟩
 obtain⟨b,o,rfl,hc⟩:=hx;refine⟨b,o,rfl,trivial,World.block_lt_of_cell? _ _ (hc 0 (by omega)),fun j hj=>?_⟩;rw [hc j (by omega)];(have e:zs.getD j 0=zs[j]'(by omega):=by simp [List.getD,List.getElem?_eq_getElem (show j<zs.length by omega)]);have hb:=Q5b (hw _ (List.getElem_mem (show j<zs.length by omega)));rw [e];simp [List.getElem?_take,hj,List.getElem?_eq_getElem (show j<zs.length by omega)];omega
theorem Q2d {H:Type} {enc:TypeId × Value->H} {W:World} {r:Reach} {b0:Nat} {v:Value} {d:DataW H} {p:List MemPlace}
   (hv:Value.okWide Tryz.prog W r b0 26 v) (h:DataW.Trod enc Tryz.prog W 0 (fun _=>true) true 26 v d p) :
   ∃(A:Option Addr) (n c:Nat) (bs:List Nat),v = .slice A n c/\Rd W (fun _=>True) A n (bs.map fun b=>.int .u8 (b:Nat))/\(∀b∈bs,b<256)/\n<=c:=by
 obtain⟨a1,len,cap,rfl⟩:=okWide_slice Tryz.underlying26 hv;obtain⟨fuel,hf⟩:=h;rcases open_ints Tryz.underlying26 Tryz.underlying5 (by kernel_rfl) hf with ⟨hcs,_⟩|⟨x,l,c,zs,hcs,_,hl,hm,hz,_,hcell,hwz⟩
 . simp [Value.cells]at hcs
   obtain⟨rfl,rfl,rfl⟩:=hcs;exact⟨none,0,0,[],rfl,Rd.nil _ _ _,fun x hx=>by simp at hx,Nat.le_refl _⟩
 simp [Value.cells]at hcs;obtain⟨rfl,rfl,rfl⟩:=hcs;simp at hz;refine⟨some x,len,cap,(zs.take len).map Int.toNat,rfl,Q1o (by omega) hwz hcell,fun b hb=>?_,hl⟩;obtain⟨z,hz1,rfl⟩:=List.mem_map.1 hb;have:=Q5b (hwz z (List.mem_of_mem_take hz1));omega

end Go.Proofs.YtjfdaphjijfieaaGreat
