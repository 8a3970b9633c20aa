/-
  Joined texts, part 32: contracts and plain lemmas.
  Conditions: none beyond those of each theorem.
-/
import Derived.Test.YtckjdhaflokcgaaGreatQ5
import Derived.Lib.SmallJoins
set_option linter.unusedVariables false
set_option linter.unusedSimpArgs false
set_option linter.unnecessarySimpa false
set_option maxRecDepth 100000
universe u
namespace Go.Proofs.YtckjdhaflokcgaaGreat
open Go.ChangeShapes Go.WideShapes Go.ChangeAt Go.RowKit Go.Joins
theorem Q3T {k:Int} (h:(Lit.int .i64 k).wf=true):-9223372036854775808<=k/\k<=9223372036854775807:=by
 unfold Lit.wf at h;simp only [Bool.and_eq_true,decide_eq_true_eq]at h;(have h1:IntKind.i64.min=-9223372036854775808:=by decide);(have h2:IntKind.i64.max=9223372036854775807:=by decide);omega
theorem Q0g {W:World} {x:Addr} {zs:List Int} {n:Nat} (hl:n<=zs.length) (h:∀i,i<zs.length->W.cell? (x.add i)=some (.int .i64 (zs.getD i 0))):Rd W (fun _=>True) (some x) n (Qm (zs.take n)):=by
 refine⟨by simp;omega,fun hn=>?_⟩;obtain⟨b,o,rfl,hc⟩:=ints_at h (by omega);refine⟨b,o,rfl,trivial,World.block_lt_of_cell? _ _ (hc 0 (by omega)),fun j hj=>?_⟩;rw [hc j (by omega),VR (by simp;omega)];simp [List.getD_eq_getElem?_getD,List.getElem?_eq_getElem (show j<zs.length by omega)]
theorem Q3k {k:Int} (h:(Lit.int .u8 k).wf=true):0<=k/\k<=255:=by
 unfold Lit.wf at h;simp only [Bool.and_eq_true,decide_eq_true_eq]at h;(have h1:IntKind.u8.min=0:=by decide);(have h2:IntKind.u8.max=255:=by decide);omega
theorem Xt {W:World} {x:Addr} {zs:List Int} {n:Nat} (hl:n<=zs.length) (hw:∀z∈zs,(Lit.int .u8 z).wf=true) (h:∀i,i<zs.length->W.cell? (x.add i)=some (.int .u8 (zs.getD i 0))) :
   Rd W (fun _=>True) (some x) n (((zs.take n).map Int.toNat).map fun b=>.int .u8 (b:Nat)):=by
 refine⟨by simp;omega,fun hn=>?_⟩
 have hx:∃b o,x=⟨b,o,none⟩/\∀j,j<zs.length->W.cell? ⟨b,o+j,none⟩=some (.int .u8 (zs.getD j 0)):=by
   obtain⟨b,o,spot⟩:=x;(have hspot:spot=none:=by simpa [Addr.add]using World.cell?_spot (h 0 (by omega)));subst hspot;exact⟨b,o,rfl,fun j hj=>by have:=h j hj;rw [Addr.add_lit]at this;exact this⟩
 obtain⟨b,o,rfl,hc⟩:=hx;refine⟨b,o,rfl,trivial,World.block_lt_of_cell? _ _ (hc 0 (by omega)),fun j hj=>?_⟩;rw [hc j (by omega)];(have e:zs.getD j 0=zs[j]'(by omega):=by simp [List.getD,List.getElem?_eq_getElem (show j<zs.length by omega)]);have hb:=Q3k (hw _ (List.getElem_mem (show j<zs.length by omega)));rw [e];simp [List.getElem?_take,hj,List.getElem?_eq_getElem (show j<zs.length by omega)];omega
theorem XU {H:Type} {enc:TypeId × Value->H} {W:World} {r:Reach} {b0:Nat} {v:Value} {d:DataW H} {p:List MemPlace}
   (hv:Value.okWide Tryz.prog W r b0 22 v) (h:DataW.Trod enc Tryz.prog W 0 (fun _=>true) true 22 v d p) :
   ∃(A:Option Addr) (n c:Nat) (bs:List Nat),v = .slice A n c/\Rd W (fun _=>True) A n (bs.map fun b=>.int .u8 (b:Nat))/\(∀b∈bs,b<256)/\n<=c:=by
 obtain⟨a1,len,cap,rfl⟩:=okWide_slice Tryz.underlying22 hv;obtain⟨fuel,hf⟩:=h;rcases open_ints Tryz.underlying22 Tryz.underlying5 (by kernel_rfl) hf with ⟨hcs,_⟩|⟨x,l,c,zs,hcs,_,hl,hm,hz,_,hcell,hwz⟩
 . simp [Value.cells]at hcs
   obtain⟨rfl,rfl,rfl⟩:=hcs;exact⟨none,0,0,[],rfl,Rd.nil _ _ _,fun x hx=>by simp at hx,Nat.le_refl _⟩
 simp [Value.cells]at hcs;obtain⟨rfl,rfl,rfl⟩:=hcs;simp at hz;refine⟨some x,len,cap,(zs.take len).map Int.toNat,rfl,Xt (by omega) hwz hcell,fun b hb=>?_,hl⟩;obtain⟨z,hz1,rfl⟩:=List.mem_map.1 hb;have:=Q3k (hwz z (List.mem_of_mem_take hz1));omega
theorem XT {H:Type} {enc:TypeId × Value->H} {W:World} {r:Reach} {b0:Nat} {v:Value} {d:DataW H} {p:List MemPlace}
   (hv:Value.okWide Tryz.prog W r b0 33 v) (h:DataW.Trod enc Tryz.prog W 0 (fun _=>true) true 33 v d p) :
   ∃(A:Option Addr) (n c:Nat) (N:List Int),v = .slice A n c/\Rd W (fun _=>True) A n (Qm N)/\Fit N/\n<=c:=by
 obtain⟨a1,len,cap,rfl⟩:=okWide_slice Tryz.underlying33 hv;obtain⟨fuel,hf⟩:=h;rcases open_ints Tryz.underlying33 Tryz.underlying3 (by kernel_rfl) hf with ⟨hcs,_⟩|⟨x,l,c,zs,hcs,_,hl,hm,hz,_,hcell,hwz⟩
 . simp [Value.cells]at hcs
   obtain⟨rfl,rfl,rfl⟩:=hcs;exact⟨none,0,0,[],rfl,Rd.nil _ _ _,fun x hx=>by simp at hx,Nat.le_refl _⟩
 simp [Value.cells]at hcs;obtain⟨rfl,rfl,rfl⟩:=hcs;simp at hz;exact⟨some x,len,cap,zs.take len,rfl,Q0g (by omega) hcell,fun x hx=>Q3T (hwz x (List.mem_of_mem_take hx)),hl⟩
theorem Q0R {H:Type} {enc:TypeId × Value->H} {P:Program} {w:World} {base:Nat} {spare:Nat->Bool} {held:Bool} {r:Reach} {b0:Nat} {t:TypeId} {v:Value} {d:DataW H} {ps:List MemPlace} (ht:P.underlying t=some .bool) (hval:Value.okWide P w r b0 t v)
   (hd:DataW.Trod enc P w base spare held t v d ps):∃b,v = .bool b/\d = .lit (.bool b)/\ps=[]:=by
 obtain⟨b,rfl⟩:=okWide_bool ht hval;obtain⟨fuel,hf⟩:=hd;obtain⟨b',h,hx⟩:=DataW.trod_bool ht hf;simp [Value.cells]at h;subst h;simp only [Prod.mk.injEq]at hx;exact⟨b,rfl,hx.1,hx.2⟩
end Go.Proofs.YtckjdhaflokcgaaGreat
