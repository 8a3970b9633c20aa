/-
  Joined texts, part 18: contracts and plain lemmas.
  Conditions: none beyond those of each theorem.
-/
import Derived.Test.YtckjdhaflokcgaaGreatQ5
import Derived.Test.YtckjdhaflokcgaaGreatShelf
import Derived.Test.YtckjdhaflokcgaaGreatQ7
set_option maxHeartbeats 1000000
set_option linter.unusedVariables false
set_option linter.unusedSimpArgs false
set_option linter.unnecessarySimpa false
set_option maxRecDepth 100000
universe u
namespace Go.Proofs.YtckjdhaflokcgaaGreat
open Go.RowKit
def Y1 (w:World) (F:Nat->Prop) (g:Nat) (bs:List Nat) (to_:Nat):Prop :=
  ∃(A:Option Addr) (c:Nat),Blk w g 336 #[.slice A bs.length c,.int .i64 0,.int .i64 (to_:Nat)]/\Rd w F A bs.length (bs.map fun b=>.int .u8 (b:Nat)) /\
    (∀b∈bs,b<256)/\to_<=8*bs.length/\bs.length<=2^32
theorem Y1.upd {w w':World} {F S:Nat->Prop} {g:Nat} {bs:List Nat} {t:Nat} (h:Y1 w F g bs t) (hu:Upd S w w') (hg:¬S g) (hF:∀b,F b->¬S b):Y1 w' F g bs t:=by
 obtain⟨A,c,hb,hr,r⟩:=h;exact⟨A,c,hb.upd hu hg,hr.upd hu (fun b _ hb=>hF b hb),r⟩
theorem Y1.fresh {w w':World} {F:Nat->Prop} {g:Nat} {bs:List Nat} {t:Nat} (h:Y1 w F g bs t) (hu:Q0 w w'):Y1 w' F g bs t:=h.upd hu (fun h=>h) (fun _ _ h=>h)
theorem Y1.lt {w:World} {F:Nat->Prop} {g:Nat} {bs:List Nat} {t:Nat} (h:Y1 w F g bs t):g<w.heap.size:=by
 obtain⟨A,c,hb,_⟩:=h;exact hb.lt
theorem Vd (F:Nat->Prop) (g:Nat) (bs:List Nat) (t:Nat) (w:World) (hf:Y1 w F g bs t) :
   Calls Tryz.prog 236 #[.pointer (some ⟨g,0,none⟩)] w fun e w'=>e = .returned (.int .i64 (t:Nat))/\Q0 w w':=by
 obtain⟨A,c,hb,hr,hlt,hfr,hlen⟩:=hf;have hc1:=hb.cell 1;have hc2:=hb.cell 2;simp at hc1 hc2;have HL:=hd_ (Ka g 0 t w hc1 hc2 (by omega) (by omega));refine Qg fun R hR=>?_;go_enter Tryz.func236,Tryz.ntmps236;go_wp2_with fail;refine HL.out.mono ?_;rintro e w1 ⟨rfl,k,rfl⟩;go_wp2_with fail;(try go_ret);exact hR.out _ _ ⟨by first|rfl|simp,(Upd.refl _ _).drewN k⟩
theorem Q3r (F:Nat->Prop) (g:Nat) (bs:List Nat) (t n:Nat) (w:World) (hf:Y1 w F g bs t) (hn:n<=64) (h:n<=t) (hFg:∀b,F b->b≠g) :
   Calls Tryz.prog 306 #[.pointer (some ⟨g,0,none⟩),.int .i64 (n:Nat)] w fun e w'=>e = .returned (.int .i64 0)/\Upd (fun b=>b=g) w w'/\Y1 w' F g bs (t-n):=by
 obtain⟨A,c,hb,hr,hlt,hfr,hlen⟩:=hf;have hc1:=hb.cell 1;have hc2:=hb.cell 2;have hfz:=hb.frozen 2;simp at hc1 hc2;have HM:=hd_ (Q3N g 0 t n 14 w hc1 hc2 (by omega) hn (by omega));(have hs:IntKind.i64.wrap ((t:Int)-n)=((t-n:Nat):Int):=by rw [IntWalk.i64_in _ (by omega)];omega);have HB:=hd_ hb;clear hb;refine Qg fun R hR=>?_;go_enter Tryz.func306,Tryz.ntmps306;go_wp2_with fail;refine HM.out.mono ?_;rintro e w1 ⟨rfl,k,rfl⟩;go_wp2_with fail;(try go_ret);have u2:Upd (fun b=>b=g) w ((w.drewN k).setCell ⟨g,2,none⟩ (.int .i64 ((t-n:Nat):Int))):=((Upd.refl (fun b=>b=g) w).drewN k).setCell (p:=⟨g,2,none⟩) (fun _=>rfl) _;have b2:=(HB.out.drewN k).set_ 2 (.int .i64 ((t-n:Nat):Int));simp at b2;exact hR.out _ _ ⟨rfl,u2,A,c,by simpa using b2,hr.upd u2 (fun b _ hb e=>hFg b hb e),hlt,by omega,hlen⟩
theorem Xn (z:Nat) (h:z<256) (h0:Lib.bitLen z=0):z=0:=by
 (have h2:∀n:Fin 256,Lib.bitLen n.val=0->n.val=0:=by decide +kernel);exact h2 ⟨z,h⟩ h0
def Yx (bs:List Nat):Nat:=8*bs.length+Lib.bitLen ((bs.getLast?).getD 0)-9
theorem Xo (F:Nat->Prop) (A:Option Addr) (n c:Nat) (bs:List Nat) (w:World) (hr:Rd w F A n (bs.map fun b=>.int .u8 (b:Nat))) (hlt:∀b∈bs,b<256) (hlen:bs.length<=2^32) :
   Calls Tryz.prog 271 #[.slice A n c] w fun e w'=>if(bs.getLast?).getD 0=0 then e = .returned (.tuple #[.pointer none,.int .i64 14])/\Q0 w w' else
     ∃g,e = .returned (.tuple #[.pointer (some ⟨g,0,none⟩),.int .i64 0])/\w.heap.size<=g/\Q0 w w'/\Y1 w' (fun k=>w.heap.size<=k/\k≠g) g bs (Yx bs):=by
 (have hn:n=bs.length:=by have:=hr.1;simpa using this.symm);subst hn;(have hnI:(bs.length:Int)<=4294967296:=by omega);rcases hl:bs.getLast? with _|z
 . have hb:bs=[]:=by simpa using hl
   subst hb;refine Qg fun R hR=>?_;go_enter Tryz.func271,Tryz.ntmps271;go_wp2_with fail;(try go_ret);exact hR.out _ _ (by simp;exact Upd.refl _ _)
 (have hb0:bs≠[]:=by intro h;subst h;simp at hl);have hlp:0<bs.length:=List.length_pos_iff.2 hb0;(have hz:bs[bs.length-1]?=some z:=by rw [List.getLast?_eq_getElem?]at hl;exact hl);have hz2:z<256:=hlt z (List.mem_of_getElem? hz);obtain⟨b,o,rfl,_,hbw,hc⟩:=hr.at_ (k:=bs.length-1) (by omega);(have hc2:w.cell? ⟨b,o+(bs.length-1),none⟩=some (.int .u8 (z:Nat)):=by rw [hc,List.getElem?_map,hz];rfl);(have hlI:¬(bs.length:Int)=0:=by omega);(have hlB:((bs.length:Int) == 0)=false:=by simpa using hlI);(have s1:IntKind.i64.wrap ((bs.length:Int)-1)=((bs.length-1:Nat):Int):=by rw [IntWalk.i64_in _ (by omega)];omega);(have i1:(0:Int)<=((bs.length-1:Nat):Int):=by omega);(have i2:((bs.length-1:Nat):Int)<bs.length:=by omega);simp only [Option.getD_some];by_cases hz0:z=0
 . subst hz0
   simp only [if_pos (rfl:(0:Nat)=0)];refine Qg fun R hR=>?_;go_enter Tryz.func271,Tryz.ntmps271;go_wp2_with fail;(try go_ret);exact hR.out _ _ ⟨rfl,Upd.refl _ _⟩
 simp only [if_neg hz0];(have hzb:((z:Int) == 0)=false:=by simp;omega)
 have hzv:1<=Lib.bitLen z/\Lib.bitLen z<=8:=by
   have h:=Lib.bitLen_le8 ⟨z,hz2⟩;refine⟨?_,h⟩;rcases Nat.eq_zero_or_pos (Lib.bitLen z)with h0|h0
   . exact absurd (Xn z hz2 h0) hz0
   exact h0
 have HCL:=hd_ (fun W (hw:Q0 w W)=>(Yo (some ⟨b,o,none⟩) bs.length c (bs.map fun b=>.int .u8 (b:Nat)) W (hr.fresh hw) (by simp [Value.oneCell']) (by omega)).mono (R':=fun e w'=>∃A1 c1,e = .returned (.slice A1 bs.length c1)/\Rd w' (fun k=>w.heap.size<=k/\k<w'.heap.size) A1 bs.length (bs.map fun b=>.int .u8 (b:Nat))/\Q0 W w') (fun e w' q=>by
   obtain⟨v,he,ov,f1,kv⟩:=q;obtain⟨A1,c1,hv,_,rv⟩:=ov.form;(have hx:(bs.map fun b=>Value.int .u8 (b:Nat)).length=bs.length:=by simp);rw [hx]at hv rv
   exact⟨A1,c1,by rw [he,hv],rv.mono (fun k hk=>⟨Nat.le_trans hw.size (kv k hk),ov.lt hk⟩),f1⟩))
 have HLE:=hd_ (fun W=>Tryz.bits_Len8 (z:Int) W (by omega) (by omega));rw [show((z:Int)).toNat=z from rfl]at HLE;have s2:IntKind.i64.wrap (8*(bs.length:Int))=8*(bs.length:Int):=IntWalk.i64_in _ (by omega);have s3:IntKind.i64.wrap (8*(bs.length:Int)-9)=8*(bs.length:Int)-9:=IntWalk.i64_in _ (by omega)
 have s4:IntKind.i64.wrap (8*(bs.length:Int)-9+(Lib.bitLen z:Int))=((Yx bs:Nat):Int):=by
   rw [IntWalk.i64_in _ (by omega)];unfold Yx;rw [hl];simp only [Option.getD_some];omega
 (have hcl:Yx bs<=8*bs.length:=by unfold Yx;rw [hl];simp only [Option.getD_some];omega);have HSS:=hd_ (show ∀W,Q0 w W->(Q0 w W/\W.cell? ⟨b,o+(bs.length-1),none⟩=some (.int .u8 (z:Nat)))from fun W h=>⟨h,by rw [h.cells _ _ hbw];exact hc2⟩);have HSA:=hd_ (fun W o (h:Q0 w W)=>HSS.out _ (h.alloc o));refine Qg fun R hR=>?_;go_enter Tryz.func271,Tryz.ntmps271;go_upto_region 3 with fail;go_cut [2,3] (fun q q3 wx=>∃g,q = .pointer (some ⟨g,0,none⟩)/\q3 = .int .i64 0/\w.heap.size<=g/\Q0 w wx/\Y1 wx (fun k=>w.heap.size<=k/\k≠g) g bs (Yx bs))
 case first =>
   go_region_held3 (fun W=>Q0 w W/\W.cell? ⟨b,o+(bs.length-1),none⟩=some (.int .u8 (z:Nat)))
     (first|exact HSS.out _ (by assumption)|exact HSS.out _ (And.left (by assumption))|exact HSS.out _ (Upd.refl _ _)|exact HSS.out _ (Upd.refl _ _).drew|exact HSA.out _ _ (by assumption)|exact HSA.out _ _ (And.left (by assumption)))
     (first
       | (go_at_call 61;((with_reducible refine(HCL.out _ (And.left (by assumption))).mono ?_);rintro e wn ⟨A1,c1,rfl,rv,fn⟩);have fnx:Q0 w wn:=Upd.trans' (And.left (by assumption)) fn)
       | (go_at_call 305;((with_reducible refine(HLE.out _).mono ?_);rintro e wn ⟨rfl,rfl⟩)))
   (all_goals go_wp2_with fail);(all_goals go_meet);(all_goals exact⟨_,rfl,rfl,by have:=fnx.size;omega,fnx.alloc _,A1,c1,Blk.new _ _ _,(rv.alloc _).mono (fun k hk=>by have:=hk.2;exact⟨hk.1,by omega⟩),hlt,hcl,hlen⟩)
 case rest =>
   obtain⟨g,rfl,rfl,hg,fx,bx⟩:=hcut;go_wp2_with fail;(try go_ret);exact hR.out _ _ ⟨g,rfl,hg,fx,bx⟩
end Go.Proofs.YtckjdhaflokcgaaGreat
