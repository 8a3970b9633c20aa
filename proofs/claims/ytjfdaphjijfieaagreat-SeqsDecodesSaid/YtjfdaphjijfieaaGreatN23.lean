/-
  Joined texts, part 23: contracts and plain lemmas.
  Conditions: none beyond those of each theorem.
-/
import Derived.Test.YtjfdaphjijfieaaGreatN21
set_option maxHeartbeats 4000000
set_option linter.unusedVariables false
set_option linter.unusedSimpArgs false
set_option maxRecDepth 100000
universe u
namespace Go.Proofs.YtjfdaphjijfieaaGreat
open Go.RowKit
theorem Q1G (er:Int) (w:World):Calls Tryz.prog 156 #[.bool true,.int .i64 er] w fun e w'=>e = .returned (.tuple #[])/\w'=w:=by
 refine Q6 fun R hR=>?_;go_enter Tryz.func156,Tryz.ntmps156;go_wp2_with fail;(try go_end0);exact hR.out _ _ ⟨rfl,rfl⟩
def VW (er:Int):Ending:=.panicked [{ v:=.iface 38 (.int .i64 er),recovered:=false }]
theorem Q5I (er:Int) (w:World):Calls Tryz.prog 156 #[.bool false,.int .i64 er] w fun e w'=>e=VW er/\w'=w:=by
 refine Q6 fun R hR=>?_;go_enter Tryz.func156,Tryz.ntmps156;go_wp2_with fail;exact⟨rfl,hR.out _ _ ⟨rfl,rfl⟩⟩
theorem Q0E (a b c:Int) (w:World) (h:QO a b c=true):Calls Tryz.prog 157 #[.agg #[.int .i64 a,.int .i64 b,.int .i64 c]] w fun e w'=>e = .returned (.bool true)/\Q0 w w':=by
 have h':(1<=a/\a<=134217728)/\(1<=b/\b<=134217728)/\1<=c/\c<=134217728:=by
   simp [QO,JW]at h;omega
 obtain⟨⟨a1,a2⟩,⟨b1,b2⟩,c1,c2⟩:=h';clear h;(have hi0:∀W,(Instr.index 204 (.agg #[.int .i64 a,.int .i64 b,.int .i64 c]) (.int .i64 0)).run Tryz.prog W = .ok (.int .i64 a) W:=fun _=>by kernel_rfl);(have hi1:∀W,(Instr.index 204 (.agg #[.int .i64 a,.int .i64 b,.int .i64 c]) (.int .i64 1)).run Tryz.prog W = .ok (.int .i64 b) W:=fun _=>by kernel_rfl);(have hi2:∀W,(Instr.index 204 (.agg #[.int .i64 a,.int .i64 b,.int .i64 c]) (.int .i64 2)).run Tryz.prog W = .ok (.int .i64 c) W:=fun _=>by kernel_rfl);refine Q6 fun R hR=>?_;go_enter Tryz.func157,Tryz.ntmps157;go_wp2_with fail;go_loopg [6] 3 (fun f vi wr=>Q0 w wr/\∃k:Nat,k+f=3/\vi = .int .i64 k)
 case atStart=>exact⟨(Upd.refl _ _).alloc _,0,rfl,rfl⟩
 case round =>
   obtain⟨hf,k,hk,rfl⟩:=hrel;have HF:=hd_ hf;clear hf;(have h4:k=0\/k=1\/k=2\/k=3:=by omega);rcases h4 with rfl|rfl|rfl|rfl
   . go_wp2_with fail
     go_roundg 2
     case measure=>omega
     case rel=>exact⟨HF.out,1,rfl,by go_num⟩
   . go_wp2_with fail
     go_roundg 1
     case measure=>omega
     case rel=>exact⟨HF.out,2,rfl,by go_num⟩
   . go_wp2_with fail
     go_roundg 0
     case measure=>omega
     case rel=>exact⟨HF.out,3,rfl,by go_num⟩
   go_wp2_with fail;(try go_ret);exact hR.out _ _ ⟨rfl,HF.out⟩
theorem Q3r (w:World):Calls Tryz.prog 189 #[] w fun e w'=>e = .returned (.agg #[.int .i64 0,.int .i64 1,.int .i64 2,.int .i64 1,.int .i64 2,.int .i64 3])/\Q0 w w':=by
 refine Q6 fun R hR=>?_;go_enter Tryz.func189,Tryz.ntmps189;go_wp2_with fail;refine bodyPost_ret (v:=.agg #[.int .i64 0,.int .i64 1,.int .i64 2,.int .i64 1,.int .i64 2,.int .i64 3]) (results_cell_row rfl _ _ w.heap.size 293 _ _ _ rfl (Q2 rfl _ _) Tryz.underlying293 rfl (by kernel_rfl)) rfl ?_;exact hR.out _ _ ⟨rfl,(Upd.refl _ _).alloc _⟩
def Ym (lit v:Int):Int:=if 3<v then 3 else if lit=0 then v else v-1
def QG (a b c lit v:Int):Int:=if 3<v then v-3 else if Ym lit v=0 then a else if Ym lit v=1 then b else if Ym lit v=2 then c else a-1
theorem Q0F (g:Nat) (a b c lit v:Int) (w:World) (hb:Blk w g 206 #[.int .i64 a,.int .i64 b,.int .i64 c]) (hv:1<=v/\v<=2^60) (ha:-(2^60)<=a/\a<=2^60) :
   Calls Tryz.prog 158 #[.pointer (some ⟨g,0,none⟩),.int .i64 lit,.int .i64 v] w fun e w'=>e = .returned (.tuple #[.int .i64 (QG a b c lit v),.int .i64 (Ym lit v)])/\Q0 w w':=by
 (have hi0:∀W,(Instr.index 293 (.agg #[.int .i64 0,.int .i64 1,.int .i64 2,.int .i64 1,.int .i64 2,.int .i64 3]) (.int .i64 0)).run Tryz.prog W = .ok (.agg #[.int .i64 0,.int .i64 1,.int .i64 2]) W:=fun _=>by kernel_rfl);(have hi1:∀W,(Instr.index 293 (.agg #[.int .i64 0,.int .i64 1,.int .i64 2,.int .i64 1,.int .i64 2,.int .i64 3]) (.int .i64 1)).run Tryz.prog W = .ok (.agg #[.int .i64 1,.int .i64 2,.int .i64 3]) W:=fun _=>by kernel_rfl);have sa:IntKind.i64.wrap (a-1)=a-1:=IntWalk.i64_in _ (by omega);by_cases h3:3<v
 . have e1:Ym lit v=3:=if_pos h3
   have e2:QG a b c lit v=v-3:=if_pos h3;have sv:IntKind.i64.wrap (v-3)=v-3:=IntWalk.i64_in _ (by omega);rw [e1,e2];refine Q6 fun R hR=>?_;go_enter Tryz.func158,Tryz.ntmps158;go_wp2_with fail;(try go_ret2);exact hR.out _ _ ⟨rfl,Upd.refl _ _⟩
 have hg:=hb.lt;(have hgn:∀n,w.heap.size<=n->g≠n:=fun n h=>by omega);have HB:=hd_ hb;have HWH:=hd_ Q3r;clear hb;(have hv4:v=1\/v=2\/v=3:=by omega);by_cases hl:lit=0
 . subst hl
   rcases hv4 with rfl|rfl|rfl
   all_goals
     simp only [Ym,QG,h3,if_false,if_true];refine Q6 fun R hR=>?_;go_enter Tryz.func158,Tryz.ntmps158;go_wp2_with fail;refine(HWH.out _).mono ?_;rintro e w1 ⟨rfl,f1⟩;have b1:=HB.out.fresh f1;have F1:=hd_ f1;have B1:=hd_ b1;clear f1 b1;go_wp2_with fail;refine(HWH.out _).mono ?_;rintro e w2 ⟨rfl,f2⟩;obtain⟨K,hK⟩:=nm_ (w1.heap.size);have k2:=(Q2 hK 30 #[.int .i64 0,.int .i64 1,.int .i64 2]).fresh f2;have b2:=(B1.out.alloc (.cells #[.int .i64 0,.int .i64 1,.int .i64 2] 30)).fresh f2;(have hne:K≠g:=by have:=B1.out.lt;omega);have hne2:g≠K:=Ne.symm hne;have F2:=hd_ ((F1.out.alloc (.cells #[.int .i64 0,.int .i64 1,.int .i64 2] 30)).trans' f2);have k0:=k2.cell 0;have k1:=k2.cell 1;have k3:=k2.cell 2;have z0:=k2.frozen 0;have z1:=k2.frozen 1;have z2:=k2.frozen 2;have c0:=b2.cell 0;have c1:=b2.cell 1;have c2:=b2.cell 2;simp at k0 k1 k3 c0 c1 c2;have HKW:=hd_ (show w.heap.size<=K by rw [hK];exact F1.out.size);simp only [<-hK];clear hK f2 k2 b2 B1;go_wp2_with fail;(try go_ret2);exact hR.out _ _ ⟨rfl,F2.out.trans (((((Upd.refl (fun b=>b=K) w2).setCell (p:=⟨K,0,none⟩) (fun _=>rfl) _).setCell (p:=⟨K,1,none⟩) (fun _=>rfl) _).setCell (p:=⟨K,2,none⟩) (fun _=>rfl) _)) (fun b hb e=>by have:=HKW.out;omega)⟩
 (have hl2:(lit == 0)=false:=by simpa using hl);rcases hv4 with rfl|rfl|rfl
 all_goals
   simp only [Ym,QG,h3,hl,if_false,if_true];refine Q6 fun R hR=>?_;go_enter Tryz.func158,Tryz.ntmps158;go_wp2_with fail;refine(HWH.out _).mono ?_;rintro e w1 ⟨rfl,f1⟩;have b1:=HB.out.fresh f1;have F1:=hd_ f1;obtain⟨c0,c1,c2⟩:=(b1).cells3;have hlt1:=b1.lt;clear f1 b1;go_wp2_with fail;(try go_ret2);exact hR.out _ _ ⟨rfl,F1.out.alloc _⟩
def Qk (a b c lit v:Int):Int × Int × Int:=(QG a b c lit v,if Ym lit v=0 then b else a,if Ym lit v=0\/Ym lit v=1 then c else b)
theorem J8 {a b c:Int}:QO a b c=true ↔ (1<=a/\a<=134217728)/\(1<=b/\b<=134217728)/\1<=c/\c<=134217728:=by
 simp [QO,JW]
theorem VX {lit v:Int} (hv:1<=v):Ym lit v=0\/Ym lit v=1\/Ym lit v=2\/Ym lit v=3:=by
 unfold Ym;split
 . omega
 (split<;>omega)
def Yo (k0 k:Nat) (a b c:Int):Array Value:=#[.int .i64 a,.int .i64 (if 1<=k0/\k=0 then a else b),.int .i64 (if k0=2/\k<=1 then b else c)]
theorem Q3s (g k0:Nat) (hk0:k0<=2) (a b c lit len v off:Int) (i:Nat) (hi:min i 2=k0) (hi3:i<=3) (w:World) (hb:Blk w g 206 #[.int .i64 a,.int .i64 b,.int .i64 c]) (hr:QO a b c=true) (hl:0<=lit) (hv:1<=v)
   (ho:1<=off/\off<=134217728) (ht:∀W,Q0 w W->Calls Tryz.prog 158 #[.pointer (some ⟨g,0,none⟩),.int .i64 lit,.int .i64 v] W fun e w'=>e = .returned (.tuple #[.int .i64 off,.int .i64 (i:Nat)])/\Q0 W w') :
   Calls Tryz.prog 99 #[.pointer (some ⟨g,0,none⟩),.agg #[.int .i64 lit,.int .i64 len,.int .i64 v]] w fun e w'=>e = .returned (.agg #[.int .i64 lit,.int .i64 len,.int .i64 off])/\Upd (fun b=>b=g) w w' /\
     Blk w' g 206 #[.int .i64 off,.int .i64 (if i=0 then b else a),.int .i64 (if i=0\/i=1 then c else b)]:=by
 have HRT:=hd_ (fun W=>Q0E a b c W hr);have HMO:=hd_ Q1G;have HTO:=hd_ ht;obtain⟨H,hH⟩:=nm_ (w.heap.size);obtain⟨w0,hw0⟩:=nm_ ((w.alloc (.cells #[.int .i64 lit,.int .i64 len,.int .i64 v] 86)).alloc (.cells #[.int .i64 0,.int .i64 0,.int .i64 0] 23));(have f0:Q0 w w0:=by rw [hw0];exact((Upd.refl _ _).alloc _).alloc _);(have bx:Blk w0 H 86 #[.int .i64 lit,.int .i64 len,.int .i64 v]:=by rw [hw0];exact(Q2 hH _ _).alloc _);(have bo:Blk w0 (H+1) 23 #[.int .i64 0,.int .i64 0,.int .i64 0]:=by rw [hw0];exact Q2 (by simp [hH]) _ _);have b0:=hb.fresh f0;have HG:=hd_ hb.lt;obtain⟨c0,c1,c2⟩:=(b0).cells3;have HW:=hd_ hw0;have HH:=hd_ hH;have F0:=hd_ f0;have B0:=hd_ b0;have BX:=hd_ bx;have BO:=hd_ bo;clear ht hb f0 bx bo b0 hw0 hH hr;refine Q6 fun R hR=>?_;go_enter Tryz.func99,Tryz.ntmps99;go_upto_region 1 with fail;simp only [<-HH.out,<-HW.out];go_wp2_with fail;refine(HRT.out _).mono ?_;rintro e w1 ⟨rfl,f1⟩;have B1:=hd_ (B0.out.fresh f1);have BX1:=hd_ (BX.out.fresh f1);have BO1:=hd_ (BO.out.fresh f1);have F1:=hd_ (F0.out.trans' f1);obtain⟨d0,d1,d2⟩:=(BX1.out).cells3;clear f1 c0 c1 c2 B0 BX BO;go_wp2_with fail;refine(HMO.out _ _).mono ?_;rintro e w2 ⟨rfl,rfl⟩;go_wp2_with fail;refine(HMO.out _ _).mono ?_;rintro e w2 ⟨rfl,rfl⟩;go_wp2_with fail;refine(HTO.out _ F1.out).mono ?_;rintro e w2 ⟨rfl,f2⟩;have B2:=hd_ (B1.out.fresh f2);have BX2:=hd_ (BX1.out.fresh f2);have BO2:=hd_ (BO1.out.fresh f2);have F2:=hd_ (F1.out.trans' f2);clear f2 B1 BX1 BO1 F1 d0 d1 d2;go_wp2_with fail;refine(HMO.out _ _).mono ?_;rintro e w3 ⟨rfl,rfl⟩;(have e4:i=0\/i=1\/i=2\/i=3:=by omega);have HGH:=hd_ (show g≠H/\g≠H+1 by have:=HG.out;have:=HH.out;omega);rcases e4 with rfl|rfl|rfl|rfl
 . simp at hi
   subst hi;go_wp2_with fail;go_loopg [7] 0 (fun f vk wr=>vk = .int .i64 (f:Nat)/\f<=0/\Upd (fun b=>b=g) w wr/\Blk wr g 206 (Yo 0 f a b c)/\Blk wr H 86 #[.int .i64 lit,.int .i64 len,.int .i64 v]/\Blk wr (H+1) 23 #[.int .i64 0,.int .i64 0,.int .i64 0])
   case atStart=>exact⟨rfl,by omega,F2.out.mono (fun _ _ h=>h.elim),B2.out,BX2.out,BO2.out⟩
   case round =>
     obtain⟨rfl,hf,hu,hb,hx,hs⟩:=hrel;have c0:=hb.cell 0;have c1:=hb.cell 1;have c2:=hb.cell 2;have z0:=hb.frozen 0;have z1:=hb.frozen 1;have z2:=hb.frozen 2;have HU:=hd_ hu;have HB:=hd_ hb;have HX:=hd_ hx;have HS:=hd_ hs;clear hu;(obtain rfl:gk=0:=by omega);simp [Yo]at c0 c1 c2 HB;have d0:=hx.cell 0;have d1:=hx.cell 1;have d2:=hx.cell 2;have s0:=hs.cell 0;have s1:=hs.cell 1;have s2:=hs.cell 2;have y0:=hs.frozen 0;have y1:=hs.frozen 1;have y2:=hs.frozen 2;simp at d0 d1 d2 s0 s1 s2;have hn1:=HGH.out.1;have hn2:=HGH.out.2;have hn3:=Ne.symm hn1;have hn4:=Ne.symm hn2;clear hb hx hs;go_wp2_with fail;refine bodyPost_ret (v:=.agg #[.int .i64 lit,.int .i64 len,.int .i64 off]) (results_cell_row rfl _ _ (H+1) _ _ _ _ rfl ((((HS.out.far (p:=⟨g,0,none⟩) hn4 (.int .i64 off)).set_ 0 (.int .i64 lit)).set_ 1 (.int .i64 len)).set_ 2 (.int .i64 off)) Tryz.underlying23 rfl (by kernel_rfl)) rfl ?_;refine hR.out _ _ ⟨rfl,?_,?_⟩
     . have hH:=HH.out
       exact((((HU.out.setCell (p:=⟨g,0,none⟩) (fun _=>rfl) _).setCell (p:=⟨H+1,0,none⟩) (fun h=>by simp at h;omega) _).setCell (p:=⟨H+1,1,none⟩) (fun h=>by simp at h;omega) _).setCell (p:=⟨H+1,2,none⟩) (fun h=>by simp at h;omega) _)
     have:=(((HB.out.set_ 0 (.int .i64 off)).far (p:=⟨H+1,0,none⟩) hn2 (.int .i64 lit)).far (p:=⟨H+1,1,none⟩) hn2 (.int .i64 len)).far (p:=⟨H+1,2,none⟩) hn2 (.int .i64 off);simpa [Yo]using this
 . simp at hi
   subst hi;go_wp2_with fail;go_loopg [7] 1 (fun f vk wr=>vk = .int .i64 (f:Nat)/\f<=1/\Upd (fun b=>b=g) w wr/\Blk wr g 206 (Yo 1 f a b c)/\Blk wr H 86 #[.int .i64 lit,.int .i64 len,.int .i64 v]/\Blk wr (H+1) 23 #[.int .i64 0,.int .i64 0,.int .i64 0])
   case atStart=>exact⟨rfl,by omega,F2.out.mono (fun _ _ h=>h.elim),B2.out,BX2.out,BO2.out⟩
   case round =>
     obtain⟨rfl,hf,hu,hb,hx,hs⟩:=hrel;have c0:=hb.cell 0;have c1:=hb.cell 1;have c2:=hb.cell 2;have z0:=hb.frozen 0;have z1:=hb.frozen 1;have z2:=hb.frozen 2;have HU:=hd_ hu;have HB:=hd_ hb;have HX:=hd_ hx;have HS:=hd_ hs;clear hu;(have hgk:gk=0\/gk=1:=by omega);clear hf;rcases hgk with rfl|rfl
     . simp [Yo]at c0 c1 c2 HB
       have d0:=hx.cell 0;have d1:=hx.cell 1;have d2:=hx.cell 2;have s0:=hs.cell 0;have s1:=hs.cell 1;have s2:=hs.cell 2;have y0:=hs.frozen 0;have y1:=hs.frozen 1;have y2:=hs.frozen 2;simp at d0 d1 d2 s0 s1 s2;have hn1:=HGH.out.1;have hn2:=HGH.out.2;have hn3:=Ne.symm hn1;have hn4:=Ne.symm hn2;clear hb hx hs;go_wp2_with fail;refine bodyPost_ret (v:=.agg #[.int .i64 lit,.int .i64 len,.int .i64 off]) (results_cell_row rfl _ _ (H+1) _ _ _ _ rfl ((((HS.out.far (p:=⟨g,0,none⟩) hn4 (.int .i64 off)).set_ 0 (.int .i64 lit)).set_ 1 (.int .i64 len)).set_ 2 (.int .i64 off)) Tryz.underlying23 rfl (by kernel_rfl)) rfl ?_;refine hR.out _ _ ⟨rfl,?_,?_⟩
       . have hH:=HH.out
         exact((((HU.out.setCell (p:=⟨g,0,none⟩) (fun _=>rfl) _).setCell (p:=⟨H+1,0,none⟩) (fun h=>by simp at h;omega) _).setCell (p:=⟨H+1,1,none⟩) (fun h=>by simp at h;omega) _).setCell (p:=⟨H+1,2,none⟩) (fun h=>by simp at h;omega) _)
       have:=(((HB.out.set_ 0 (.int .i64 off)).far (p:=⟨H+1,0,none⟩) hn2 (.int .i64 lit)).far (p:=⟨H+1,1,none⟩) hn2 (.int .i64 len)).far (p:=⟨H+1,2,none⟩) hn2 (.int .i64 off);simpa [Yo]using this
     simp [Yo]at c0 c1 c2;clear hb hx hs;go_wp2_with fail;go_region;(all_goals go_wp2_with fail);(all_goals go_roundg 0)
     case measure=>omega
     case rel =>
       have hn1:=HGH.out.1;have hn2:=HGH.out.2;have hn3:=Ne.symm hn1;have hn4:=Ne.symm hn2;refine⟨by go_num,by omega,(HU.out.setCell (p:=⟨g,1,none⟩) (fun _=>rfl) _).drewN _,?_,((HX.out.far (p:=⟨g,1,none⟩) hn3 _)).drewN _,((HS.out.far (p:=⟨g,1,none⟩) hn4 _)).drewN _⟩;have:=(HB.out.set_ 1 (.int .i64 a)).drew;simpa [Yo]using this
 . simp at hi
   subst hi;go_wp2_with fail;go_loopg [7] 2 (fun f vk wr=>vk = .int .i64 (f:Nat)/\f<=2/\Upd (fun b=>b=g) w wr/\Blk wr g 206 (Yo 2 f a b c)/\Blk wr H 86 #[.int .i64 lit,.int .i64 len,.int .i64 v]/\Blk wr (H+1) 23 #[.int .i64 0,.int .i64 0,.int .i64 0])
   case atStart=>exact⟨rfl,by omega,F2.out.mono (fun _ _ h=>h.elim),B2.out,BX2.out,BO2.out⟩
   case round =>
     obtain⟨rfl,hf,hu,hb,hx,hs⟩:=hrel;have c0:=hb.cell 0;have c1:=hb.cell 1;have c2:=hb.cell 2;have z0:=hb.frozen 0;have z1:=hb.frozen 1;have z2:=hb.frozen 2;have HU:=hd_ hu;have HB:=hd_ hb;have HX:=hd_ hx;have HS:=hd_ hs;clear hu;(have hgk:gk=0\/gk=1\/gk=2:=by omega);clear hf;rcases hgk with rfl|rfl|rfl
     . simp [Yo]at c0 c1 c2 HB
       have d0:=hx.cell 0;have d1:=hx.cell 1;have d2:=hx.cell 2;have s0:=hs.cell 0;have s1:=hs.cell 1;have s2:=hs.cell 2;have y0:=hs.frozen 0;have y1:=hs.frozen 1;have y2:=hs.frozen 2;simp at d0 d1 d2 s0 s1 s2;have hn1:=HGH.out.1;have hn2:=HGH.out.2;have hn3:=Ne.symm hn1;have hn4:=Ne.symm hn2;clear hb hx hs;go_wp2_with fail;refine bodyPost_ret (v:=.agg #[.int .i64 lit,.int .i64 len,.int .i64 off]) (results_cell_row rfl _ _ (H+1) _ _ _ _ rfl ((((HS.out.far (p:=⟨g,0,none⟩) hn4 (.int .i64 off)).set_ 0 (.int .i64 lit)).set_ 1 (.int .i64 len)).set_ 2 (.int .i64 off)) Tryz.underlying23 rfl (by kernel_rfl)) rfl ?_;refine hR.out _ _ ⟨rfl,?_,?_⟩
       . have hH:=HH.out
         exact((((HU.out.setCell (p:=⟨g,0,none⟩) (fun _=>rfl) _).setCell (p:=⟨H+1,0,none⟩) (fun h=>by simp at h;omega) _).setCell (p:=⟨H+1,1,none⟩) (fun h=>by simp at h;omega) _).setCell (p:=⟨H+1,2,none⟩) (fun h=>by simp at h;omega) _)
       have:=(((HB.out.set_ 0 (.int .i64 off)).far (p:=⟨H+1,0,none⟩) hn2 (.int .i64 lit)).far (p:=⟨H+1,1,none⟩) hn2 (.int .i64 len)).far (p:=⟨H+1,2,none⟩) hn2 (.int .i64 off);simpa [Yo]using this
     . simp [Yo]at c0 c1 c2
       clear hb hx hs;go_wp2_with fail;go_region;(all_goals go_wp2_with fail);(all_goals go_roundg 0)
       case measure=>omega
       case rel =>
         have hn1:=HGH.out.1;have hn2:=HGH.out.2;have hn3:=Ne.symm hn1;have hn4:=Ne.symm hn2;refine⟨by go_num,by omega,(HU.out.setCell (p:=⟨g,1,none⟩) (fun _=>rfl) _).drewN _,?_,((HX.out.far (p:=⟨g,1,none⟩) hn3 _)).drewN _,((HS.out.far (p:=⟨g,1,none⟩) hn4 _)).drewN _⟩;have:=(HB.out.set_ 1 (.int .i64 a)).drew;simpa [Yo]using this
     simp [Yo]at c0 c1 c2;clear hb hx hs;go_wp2_with fail;go_region;(all_goals go_wp2_with fail);(all_goals go_roundg 1)
     case measure=>omega
     case rel =>
       have hn1:=HGH.out.1;have hn2:=HGH.out.2;have hn3:=Ne.symm hn1;have hn4:=Ne.symm hn2;refine⟨by go_num,by omega,(HU.out.setCell (p:=⟨g,2,none⟩) (fun _=>rfl) _).drewN _,?_,((HX.out.far (p:=⟨g,2,none⟩) hn3 _)).drewN _,((HS.out.far (p:=⟨g,2,none⟩) hn4 _)).drewN _⟩;have:=(HB.out.set_ 2 (.int .i64 b)).drew;simpa [Yo]using this
 simp at hi;subst hi;go_wp2_with fail;go_loopg [7] 2 (fun f vk wr=>vk = .int .i64 (f:Nat)/\f<=2/\Upd (fun b=>b=g) w wr/\Blk wr g 206 (Yo 2 f a b c)/\Blk wr H 86 #[.int .i64 lit,.int .i64 len,.int .i64 v]/\Blk wr (H+1) 23 #[.int .i64 0,.int .i64 0,.int .i64 0])
 case atStart=>exact⟨rfl,by omega,F2.out.mono (fun _ _ h=>h.elim),B2.out,BX2.out,BO2.out⟩
 case round =>
   obtain⟨rfl,hf,hu,hb,hx,hs⟩:=hrel;have c0:=hb.cell 0;have c1:=hb.cell 1;have c2:=hb.cell 2;have z0:=hb.frozen 0;have z1:=hb.frozen 1;have z2:=hb.frozen 2;have HU:=hd_ hu;have HB:=hd_ hb;have HX:=hd_ hx;have HS:=hd_ hs;clear hu;(have hgk:gk=0\/gk=1\/gk=2:=by omega);clear hf;rcases hgk with rfl|rfl|rfl
   . simp [Yo]at c0 c1 c2 HB
     have d0:=hx.cell 0;have d1:=hx.cell 1;have d2:=hx.cell 2;have s0:=hs.cell 0;have s1:=hs.cell 1;have s2:=hs.cell 2;have y0:=hs.frozen 0;have y1:=hs.frozen 1;have y2:=hs.frozen 2;simp at d0 d1 d2 s0 s1 s2;have hn1:=HGH.out.1;have hn2:=HGH.out.2;have hn3:=Ne.symm hn1;have hn4:=Ne.symm hn2;clear hb hx hs;go_wp2_with fail;refine bodyPost_ret (v:=.agg #[.int .i64 lit,.int .i64 len,.int .i64 off]) (results_cell_row rfl _ _ (H+1) _ _ _ _ rfl ((((HS.out.far (p:=⟨g,0,none⟩) hn4 (.int .i64 off)).set_ 0 (.int .i64 lit)).set_ 1 (.int .i64 len)).set_ 2 (.int .i64 off)) Tryz.underlying23 rfl (by kernel_rfl)) rfl ?_;refine hR.out _ _ ⟨rfl,?_,?_⟩
     . have hH:=HH.out
       exact((((HU.out.setCell (p:=⟨g,0,none⟩) (fun _=>rfl) _).setCell (p:=⟨H+1,0,none⟩) (fun h=>by simp at h;omega) _).setCell (p:=⟨H+1,1,none⟩) (fun h=>by simp at h;omega) _).setCell (p:=⟨H+1,2,none⟩) (fun h=>by simp at h;omega) _)
     have:=(((HB.out.set_ 0 (.int .i64 off)).far (p:=⟨H+1,0,none⟩) hn2 (.int .i64 lit)).far (p:=⟨H+1,1,none⟩) hn2 (.int .i64 len)).far (p:=⟨H+1,2,none⟩) hn2 (.int .i64 off);simpa [Yo]using this
   . simp [Yo]at c0 c1 c2
     clear hb hx hs;go_wp2_with fail;go_region;(all_goals go_wp2_with fail);(all_goals go_roundg 0)
     case measure=>omega
     case rel =>
       have hn1:=HGH.out.1;have hn2:=HGH.out.2;have hn3:=Ne.symm hn1;have hn4:=Ne.symm hn2;refine⟨by go_num,by omega,(HU.out.setCell (p:=⟨g,1,none⟩) (fun _=>rfl) _).drewN _,?_,((HX.out.far (p:=⟨g,1,none⟩) hn3 _)).drewN _,((HS.out.far (p:=⟨g,1,none⟩) hn4 _)).drewN _⟩;have:=(HB.out.set_ 1 (.int .i64 a)).drew;simpa [Yo]using this
   simp [Yo]at c0 c1 c2;clear hb hx hs;go_wp2_with fail;go_region;(all_goals go_wp2_with fail);(all_goals go_roundg 1)
   case measure=>omega
   case rel =>
     have hn1:=HGH.out.1;have hn2:=HGH.out.2;have hn3:=Ne.symm hn1;have hn4:=Ne.symm hn2;refine⟨by go_num,by omega,(HU.out.setCell (p:=⟨g,2,none⟩) (fun _=>rfl) _).drewN _,?_,((HX.out.far (p:=⟨g,2,none⟩) hn3 _)).drewN _,((HS.out.far (p:=⟨g,2,none⟩) hn4 _)).drewN _⟩;have:=(HB.out.set_ 2 (.int .i64 b)).drew;simpa [Yo]using this
def QI (x:Int):Prop:=1<=x/\x<=134217728
instance (x:Int):Decidable (QI x):=inferInstanceAs (Decidable (_/\_))
theorem Q5J (g:Nat) (a b c lit len v:Int) (w:World) (hb:Blk w g 206 #[.int .i64 a,.int .i64 b,.int .i64 c]) (hr:QO a b c=true) (hl:0<=lit) (hv:1<=v/\v<=2^60) (ho:QI (QG a b c lit v)) :
   Calls Tryz.prog 99 #[.pointer (some ⟨g,0,none⟩),.agg #[.int .i64 lit,.int .i64 len,.int .i64 v]] w fun e w'=>e = .returned (.agg #[.int .i64 lit,.int .i64 len,.int .i64 (QG a b c lit v)])/\Upd (fun b=>b=g) w w' /\
     Blk w' g 206 #[.int .i64 (Qk a b c lit v).1,.int .i64 (Qk a b c lit v).2.1,.int .i64 (Qk a b c lit v).2.2]:=by
 have hra:=J8.1 hr;obtain⟨i,hi⟩:∃i:Nat,(i:Int)=Ym lit v:=⟨(Ym lit v).toNat,by have:=VX (lit:=lit) hv.1;omega⟩;(have hi3:i<=3:=by have:=VX (lit:=lit) hv.1;omega);refine(Q3s g (min i 2) (by omega) a b c lit len v (QG a b c lit v) i rfl hi3 w hb hr hl hv.1 ho (fun W hW=>by rw [hi];exact Q0F g a b c lit v W (hb.fresh hW) hv (by omega))).mono fun e w' h=>?_;obtain⟨h1,h2,h3⟩:=h;refine⟨h1,h2,?_⟩;(have e1:(i=0)=(Ym lit v=0):=by rw [<-hi];exact propext (by omega));(have e2:(i=1)=(Ym lit v=1):=by rw [<-hi];exact propext (by omega));simp only [Qk,<-e1,<-e2];exact h3
theorem Q5K (g:Nat) (a b c lit len v:Int) (w:World) (hb:Blk w g 206 #[.int .i64 a,.int .i64 b,.int .i64 c]) (hr:QO a b c=true) (hl:0<=lit) (hv:1<=v/\v<=2^60) (ho:¬QI (QG a b c lit v)) :
   Calls Tryz.prog 99 #[.pointer (some ⟨g,0,none⟩),.agg #[.int .i64 lit,.int .i64 len,.int .i64 v]] w fun e w'=>e=VW 15/\Q0 w w':=by
 have hra:=J8.1 hr;have HRT:=hd_ (fun W=>Q0E a b c W hr);have HMO:=hd_ Q1G;have HMN:=hd_ Q5I;have HTO:=hd_ (fun W (hW:Q0 w W)=>Q0F g a b c lit v W (hb.fresh hW) hv (by omega));generalize QG a b c lit v=off at *;generalize Ym lit v=ix at *;obtain⟨hv1,-⟩:=hv;(have hoo:off<1\/1<=off/\134217728<off:=by unfold QI at ho;omega);obtain⟨H,hH⟩:=nm_ (w.heap.size);obtain⟨w0,hw0⟩:=nm_ ((w.alloc (.cells #[.int .i64 lit,.int .i64 len,.int .i64 v] 86)).alloc (.cells #[.int .i64 0,.int .i64 0,.int .i64 0] 23));(have f0:Q0 w w0:=by rw [hw0];exact((Upd.refl _ _).alloc _).alloc _);(have bx:Blk w0 H 86 #[.int .i64 lit,.int .i64 len,.int .i64 v]:=by rw [hw0];exact(Q2 hH _ _).alloc _);have b0:=hb.fresh f0;obtain⟨c0,c1,c2⟩:=(b0).cells3;have HW:=hd_ hw0;have HH:=hd_ hH;have F0:=hd_ f0;have BX:=hd_ bx;clear hb f0 bx b0 hw0 hH hr hra ho;refine Q6 fun R hR=>?_;go_enter Tryz.func99,Tryz.ntmps99;go_upto_region 1 with fail;simp only [<-HH.out,<-HW.out];go_wp2_with fail;refine(HRT.out _).mono ?_;rintro e w1 ⟨rfl,f1⟩;have BX1:=hd_ (BX.out.fresh f1);have F1:=hd_ (F0.out.trans' f1);obtain⟨d0,d1,d2⟩:=(BX1.out).cells3;clear f1 c0 c1 c2 BX;go_wp2_with fail;refine(HMO.out _ _).mono ?_;rintro e w2 ⟨rfl,rfl⟩;go_wp2_with fail;refine(HMO.out _ _).mono ?_;rintro e w2 ⟨rfl,rfl⟩;go_wp2_with fail;refine(HTO.out _ F1.out).mono ?_;rintro e w2 ⟨rfl,f2⟩;have F2:=hd_ (F1.out.trans' f2);clear f2 BX1 F1 d0 d1 d2;rcases hoo with h|⟨h,h'⟩
 . go_wp2_with fail
   refine(HMN.out _ _).mono ?_;rintro e w3 ⟨rfl,rfl⟩;simp only [VW];exact⟨rfl,hR.out _ _ ⟨rfl,F2.out⟩⟩
 (have h2:¬off<=134217728:=by omega);go_wp2_with fail;rw [show decide (off<=134217728)=false from decide_eq_false (by omega)];refine(HMN.out _ _).mono ?_;rintro e w3 ⟨rfl,rfl⟩;simp only [VW];exact⟨rfl,hR.out _ _ ⟨rfl,F2.out⟩⟩
theorem Q2p (a b:Nat) (v x y z:Value) (w:World) (ha:Blk w a 3 #[v]) (hb:Blk w b 30 #[x,y,z]) (hne:a≠b) :
   Calls Tryz.prog 98 #[.pointer (some ⟨a,0,none⟩),.pointer (some ⟨b,0,none⟩)] w fun e w'=>e = .returned (.tuple #[]) /\
     Upd (fun k=>k=a\/k=b) w w'/\Blk w' a 3 #[.int .i64 0]/\Blk w' b 30 #[.int .i64 0,.int .i64 0,.int .i64 0]:=by
 have c0:=ha.cell 0;have z0:=ha.frozen 0;have d0:=hb.cell 0;have d1:=hb.cell 1;have d2:=hb.cell 2;have y0:=hb.frozen 0;have y1:=hb.frozen 1;have y2:=hb.frozen 2;simp at c0 d0 d1 d2;have hne2:=Ne.symm hne;have HA:=hd_ ha;have HB:=hd_ hb;clear ha hb;refine Q6 fun R hR=>?_;go_enter Tryz.func98,Tryz.ntmps98;go_wp2_with fail;(try go_end0);refine hR.out _ _ ⟨rfl,?_,?_,?_⟩
 . exact((((Upd.refl _ _).setCell (p:=⟨a,0,none⟩) (fun _=>.inl rfl) _).setCell (p:=⟨b,0,none⟩) (fun _=>.inr rfl) _).setCell (p:=⟨b,1,none⟩) (fun _=>.inr rfl) _).setCell (p:=⟨b,2,none⟩) (fun _=>.inr rfl) _
 . have:=(((HA.out.set_ 0 (.int .i64 0)).far (p:=⟨b,0,none⟩) hne (.int .i64 0)).far (p:=⟨b,1,none⟩) hne (.int .i64 0)).far (p:=⟨b,2,none⟩) hne (.int .i64 0)
   simpa using this
 have:=(((HB.out.far (p:=⟨a,0,none⟩) hne2 (.int .i64 0)).set_ 0 (.int .i64 0)).set_ 1 (.int .i64 0)).set_ 2 (.int .i64 0);simpa using this
theorem Q0G (pe:Addr) (fv:Value) (w:World) :
   CallsD Tryz.prog 97 #[.pointer (some pe),fv] .returning w fun e u' w'=>e = .returned (.tuple #[])/\u' = .returning/\w'=w:=by
 refine callsD_of_wpS Tryz.func97 rfl fun c₀ cs hu=>?_;apply wpS_seq;apply wpS_region;simp [wpOpsS,go_sem,recoverD,hu,Tryz.ntmps97,Exit.thenS];apply wpS_seq;apply wpS_seq;apply wpS_region;simp [wpOpsS,go_sem,Exit.thenS];refine wpS_cond (t:=true) (by simp [Act.eval,Array.replicate]) ?_;simp only [if_true];refine wpS_of_wp (wp_ret ?_);cases c₀
 simp_all [bodyPostS,results,Tryz.results97,Exit.thenS]
theorem Q0c (pe a b:Nat) (er:Int) (v x y z u:Value) (w:World) (he:Blk w pe 38 #[u]) (ha:Blk w a 3 #[v]) (hb:Blk w b 30 #[x,y,z]) (hne:a≠b) (h1:pe≠a) (h2:pe≠b) :
   CallsD Tryz.prog 97 #[.pointer (some ⟨pe,0,none⟩),.func (.func 98) #[] #[.pointer (some ⟨a,0,none⟩),.pointer (some ⟨b,0,none⟩)]]
     (.panicking [{ v:=.iface 38 (.int .i64 er),recovered:=false }]) w fun e u' w'=>e = .returned (.tuple #[])/\u' = .panicking [{ v:=.iface 38 (.int .i64 er),recovered:=true }] /\
       Upd (fun k=>k=a\/k=b\/k=pe) w w'/\Blk w' a 3 #[.int .i64 0]/\Blk w' b 30 #[.int .i64 0,.int .i64 0,.int .i64 0]/\Blk w' pe 38 #[.int .i64 er]:=by
 (have hta:∀W,(Instr.typeAssert (.iface 38 (.int .i64 er)) 20 38 true).run Tryz.prog W = .ok (.tuple #[.int .i64 er,.bool true]) W:=fun _=>by kernel_rfl);have HCL:=hd_ (Q2p a b v x y z w ha hb hne);have HE:=hd_ he;have HN:=hd_ (And.intro h1 h2);clear he ha hb hne h1 h2;refine callsD_of_wpS Tryz.func97 rfl fun c₀ cs hu=>?_;apply wpS_seq;apply wpS_region;simp [wpOpsS,go_sem,recoverD,hu,Tryz.ntmps97,Exit.thenS];apply wpS_seq;apply wpS_seq;apply wpS_region;simp [wpOpsS,go_sem,Exit.thenS];refine wpS_cond (t:=false) (by simp [Act.eval,Array.replicate]) ?_;simp only [Bool.false_eq_true,if_false];refine wpS_of_wp (wp_skip ?_);simp only [Exit.thenS];apply wpS_seq;apply wpS_region;simp [wpOpsS,go_sem,hta,Exit.thenS];apply wpS_seq;apply wpS_seq;apply wpS_region;simp [wpOpsS,go_sem,Exit.thenS];refine wpS_cond (t:=false) (by simp [Act.eval,Array.replicate]) ?_;simp only [Bool.false_eq_true,if_false];refine wpS_of_wp (wp_skip ?_);simp only [Exit.thenS];apply wpS_seq;apply wpS_region;simp [wpOpsS,go_sem,Exit.thenS];refine HCL.out.mono ?_;rintro e w1 ⟨rfl,u1,a1,b1⟩;have e1:=HE.out.upd u1 (by have:=HN.out;rintro(h|h);exact this.1 h;exact this.2 h);have c0:=e1.cell 0;have z0:=e1.frozen 0;simp at c0;have u2:Upd (fun k=>k=a\/k=b\/k=pe) w (w1.setCell ⟨pe,0,none⟩ (.int .i64 er)):=(u1.mono fun _ _ h=>by rcases h with h|h;exact .inl h;exact .inr (.inl h)).setCell (p:=⟨pe,0,none⟩) (fun _=>.inr (.inr rfl)) _;have a2:=a1.far (p:=⟨pe,0,none⟩) (fun h=>HN.out.1 h.symm) (.int .i64 er);have b2:=b1.far (p:=⟨pe,0,none⟩) (fun h=>HN.out.2 h.symm) (.int .i64 er);have e2:=e1.set_ 0 (.int .i64 er);have HU:=hd_ u2;have HA:=hd_ a2;have HB:=hd_ b2;have HE2:=hd_ e2;clear u1 a1 b1 e1 u2 a2 b2 e2;apply wpS_region;simp [wpOpsS,go_sem,c0,z0,Exit.thenS,bodyPostS,results,Tryz.results97];exact⟨HU.out,HA.out,HB.out,by simpa using HE2.out⟩
def Jv (a b c lit v:Int) (w:World) (e:Ending) (w':World):Prop :=
  Q0 w w'/\e = .returned (if QI (QG a b c lit v)then .tuple #[.int .i64 (QG a b c lit v),.agg #[.int .i64 (Qk a b c lit v).1,.int .i64 (Qk a b c lit v).2.1,.int .i64 (Qk a b c lit v).2.2],.int .i64 0]
    else .tuple #[.int .i64 0,.agg #[.int .i64 0,.int .i64 0,.int .i64 0],.int .i64 15])
theorem Q2q (a b c lit len v:Int) (w:World) (hr:QO a b c=true) (hl:0<=lit) (hv:1<=v/\v<=2^60) :
   Calls Tryz.prog 61 #[.agg #[.int .i64 a,.int .i64 b,.int .i64 c],.agg #[.int .i64 lit,.int .i64 len,.int .i64 v]] w (Jv a b c lit v w):=by
 have hmf:∀(fn:Fn) (first cap:Array Value) (w:World),(Instr.makeFunc fn first cap).run Tryz.prog w = .ok (.func fn first cap) w:=fun _ _ _ _=>rfl;have hGO:=hd_ (fun g W hb=>Q5J g a b c lit len v W hb hr hl hv);have hGN:=hd_ (fun g W hb=>Q5K g a b c lit len v W hb hr hl hv);obtain⟨H,hH⟩:=nm_ (w.heap.size);obtain⟨w0,hw0⟩:=nm_ (((((w.alloc (.cells #[.int .i64 a,.int .i64 b,.int .i64 c] 30)).alloc (.cells #[.int .i64 lit,.int .i64 len,.int .i64 v] 86)).alloc (.cells #[.int .i64 0] 3)).alloc (.cells #[.int .i64 0,.int .i64 0,.int .i64 0] 30)).alloc (.cells #[.int .i64 0] 38));(have f0:Q0 w w0:=by rw [hw0];exact(((((Upd.refl _ _).alloc _).alloc _).alloc _).alloc _).alloc _);(have k0:Blk w0 H 30 #[.int .i64 a,.int .i64 b,.int .i64 c]:=by rw [hw0];exact((((Q2 hH _ _).alloc _).alloc _).alloc _).alloc _);(have k1:Blk w0 (H+1) 86 #[.int .i64 lit,.int .i64 len,.int .i64 v]:=by rw [hw0];exact(((Q2 (by simp [hH]) _ _).alloc _).alloc _).alloc _);(have k2:Blk w0 (H+1+1) 3 #[.int .i64 0]:=by rw [hw0];exact((Q2 (by simp [hH]) _ _).alloc _).alloc _);(have k3:Blk w0 (H+1+1+1) 30 #[.int .i64 0,.int .i64 0,.int .i64 0]:=by rw [hw0];exact(Q2 (by simp [hH]) _ _).alloc _);(have k4:Blk w0 (H+1+1+1+1) 38 #[.int .i64 0]:=by rw [hw0];exact Q2 (by simp [hH]) _ _);(have hs:w0.heap.size=H+5:=by rw [hw0,hH];simp);obtain⟨d0,d1,d2⟩:=(k0).cells3;have HW:=hd_ hw0;have HH:=hd_ hH;have F0:=hd_ f0;have K1:=hd_ k1;have K2:=hd_ k2;have K3:=hd_ k3;have K4:=hd_ k4;have HS:=hd_ hs;clear hw0 hH f0 k0 k1 k2 k3 k4 hs hr hl hv;refine Q6 fun R hR=>?_;go_enter_defers Tryz.func61,Tryz.ntmps61;go_upto_region 1 with fail;simp only [<-HH.out,<-HW.out];go_upto_region 3 with fail;obtain⟨G,hG⟩:=nm_ (w0.heap.size);obtain⟨w1,hw1⟩:=nm_ (w0.alloc (.cells #[.int .i64 a,.int .i64 b,.int .i64 c] 206));simp only [<-hG,<-hw1];(have f1:Q0 w0 w1:=by rw [hw1];exact(Upd.refl _ _).alloc _);(have bs:Blk w1 G 206 #[.int .i64 a,.int .i64 b,.int .i64 c]:=by rw [hw1];exact Q2 hG _ _);have r1:=K1.out.fresh f1;have r2:=K2.out.fresh f1;have r3:=K3.out.fresh f1;have r4:=K4.out.fresh f1;obtain⟨x0,x1,x2⟩:=(r1).cells3;have HG:=hd_ (show G=H+5 by rw [hG];exact HS.out);have BS:=hd_ bs;have R2:=hd_ r2;have R3:=hd_ r3;have R4:=hd_ r4;have F1:=hd_ (F0.out.trans' f1);clear d0 d1 d2 hG hw1 f1 bs r1 r2 r3 r4 K1 K2 K3 K4 HS HW;by_cases ho:QI (QG a b c lit v)
 . have HC:=hd_ (hGO.out G w1 BS.out ho)
   have hP:∀w',Jv a b c lit v w (.returned (.tuple #[.int .i64 (QG a b c lit v),.agg #[.int .i64 (Qk a b c lit v).1,.int .i64 (Qk a b c lit v).2.1,.int .i64 (Qk a b c lit v).2.2],.int .i64 0])) w' ↔ Q0 w w':=by
     intro w';unfold Jv;rw [if_pos ho];simp
   have HP:=hd_ hP;clear hGO hGN hP ho;generalize Jv a b c lit v=OP at *;generalize QG a b c lit v=off at *;generalize (Qk a b c lit v).1=n1 at *;generalize (Qk a b c lit v).2.1=n2 at *;generalize (Qk a b c lit v).2.2=n3 at *;go_wp2_with fail;refine HC.out.mono ?_;rintro e w2 ⟨rfl,u2,b2⟩;have hg:=HG.out;have r2:=R2.out.upd u2 (by omega);have r3:=R3.out.upd u2 (by omega);have r4:=R4.out.upd u2 (by omega);obtain⟨g0,g1,g2⟩:=(b2).cells3;have y0:=r2.cell 0;have y1:=r3.cell 0;have y2:=r3.cell 1;have y3:=r3.cell 2;have y4:=r4.cell 0;simp at y0 y1 y2 y3 y4;have z0:=r2.frozen 0;have z1:=r3.frozen 0;have z2:=r3.frozen 1;have z3:=r3.frozen 2;have z4:=r4.frozen 0;have U2:=hd_ u2;(have hn1:G≠H+1+1:=by omega);(have hn2:H+1+1≠G:=by omega);(have hn3:G≠H+1+1+1:=by omega);(have hn4:H+1+1+1≠G:=by omega);clear x0 x1 x2 r2 r3 r4 u2 hg b2;(have hfi:∀W,(Instr.field 23 (.agg #[.int .i64 lit,.int .i64 len,.int .i64 off]) 2).run Tryz.prog W = .ok (.int .i64 off) W:=fun _=>by kernel_rfl);go_wp2_with fail;go_region;(all_goals go_wp2_with fail);change Leaves _ _ _ _ _ _ _;refine leaves_cons (f:=97) (args:=#[.pointer (some ⟨H+1+1+1+1,0,none⟩),.func (.func 98) #[] #[.pointer (some ⟨H+1+1,0,none⟩),.pointer (some ⟨H+1+1+1,0,none⟩)]]) (by simp) (by simp [go_sem]) ?_;have s2:=R2.out.upd U2.out (by have:=HG.out;omega);have s3:=R3.out.upd U2.out (by have:=HG.out;omega);have s4:=R4.out.upd U2.out (by have:=HG.out;omega);have q2:=(((((s2.set_ 0 (.int .i64 off)).set_ 0 (.int .i64 off)).far (p:=⟨H+1+1+1,0,none⟩) (by simp) (.int .i64 n1)).far (p:=⟨H+1+1+1,1,none⟩) (by simp) (.int .i64 n2)).far (p:=⟨H+1+1+1,2,none⟩) (by simp) (.int .i64 n3)).far (p:=⟨H+1+1+1+1,0,none⟩) (by simp<;>omega) (.int .i64 0);have q3:=(((((s3.far (p:=⟨H+1+1,0,none⟩) (by simp) (.int .i64 off)).far (p:=⟨H+1+1,0,none⟩) (by simp) (.int .i64 off)).set_ 0 (.int .i64 n1)).set_ 1 (.int .i64 n2)).set_ 2 (.int .i64 n3)).far (p:=⟨H+1+1+1+1,0,none⟩) (by simp) (.int .i64 0);have q4:=(((((s4.far (p:=⟨H+1+1,0,none⟩) (by simp<;>omega) (.int .i64 off)).far (p:=⟨H+1+1,0,none⟩) (by simp<;>omega) (.int .i64 off)).far (p:=⟨H+1+1+1,0,none⟩) (by simp) (.int .i64 n1)).far (p:=⟨H+1+1+1,1,none⟩) (by simp) (.int .i64 n2)).far (p:=⟨H+1+1+1,2,none⟩) (by simp) (.int .i64 n3)).set_ 0 (.int .i64 0)
   have U3:Upd (fun b=>b=G\/b=H+1+1\/b=H+1+1+1\/b=H+1+1+1+1) w1 ((((((w2.setCell ⟨H+1+1,0,none⟩ (.int .i64 off)).setCell ⟨H+1+1,0,none⟩ (.int .i64 off)).setCell ⟨H+1+1+1,0,none⟩ (.int .i64 n1)).setCell ⟨H+1+1+1,1,none⟩ (.int .i64 n2)).setCell ⟨H+1+1+1,2,none⟩ (.int .i64 n3)).setCell ⟨H+1+1+1+1,0,none⟩ (.int .i64 0)) :=
     ((((((U2.out.mono (T:=fun b=>b=G\/b=H+1+1\/b=H+1+1+1\/b=H+1+1+1+1) fun _ _ h=>.inl h).setCell (p:=⟨H+1+1,0,none⟩) (fun _=>.inr (.inl rfl)) _).setCell (p:=⟨H+1+1,0,none⟩) (fun _=>.inr (.inl rfl)) _).setCell (p:=⟨H+1+1+1,0,none⟩) (fun _=>.inr (.inr (.inl rfl))) _).setCell (p:=⟨H+1+1+1,1,none⟩) (fun _=>.inr (.inr (.inl rfl))) _).setCell (p:=⟨H+1+1+1,2,none⟩) (fun _=>.inr (.inr (.inl rfl))) _).setCell (p:=⟨H+1+1+1+1,0,none⟩) (fun _=>.inr (.inr (.inr rfl))) _
   clear g0 g1 g2 y0 y1 y2 y3 y4 z0 z1 z2 z3 z4;generalize ((((((w2.setCell ⟨H+1+1,0,none⟩ (.int .i64 off)).setCell ⟨H+1+1,0,none⟩ (.int .i64 off)).setCell ⟨H+1+1+1,0,none⟩ (.int .i64 n1)).setCell ⟨H+1+1+1,1,none⟩ (.int .i64 n2)).setCell ⟨H+1+1+1,2,none⟩ (.int .i64 n3)).setCell ⟨H+1+1+1+1,0,none⟩ (.int .i64 0))=w5 at *;have d0:=q2.drew.cell 0;have d1:=q3.drew.cell 0;have d2:=q3.drew.cell 1;have d3:=q3.drew.cell 2;have d4:=q4.drew.cell 0;simp at d0 d1 d2 d3 d4;refine(Q0G _ _ _).mono ?_;rintro e u' w'' ⟨rfl,rfl,rfl⟩;refine⟨.tuple #[.int .i64 off,.agg #[.int .i64 n1,.int .i64 n2,.int .i64 n3],.int .i64 0],?_,hR.out _ _ ((HP.out _).2 ?_)⟩
   . have hl:∀ {W:World},Blk W (H+1+1+1) 30 #[.int .i64 n1,.int .i64 n2,.int .i64 n3]->(loadVar 30 ⟨H+1+1+1,0,none⟩).run Tryz.prog W = .ok (.agg #[.int .i64 n1,.int .i64 n2,.int .i64 n3]) W:=fun h =>
       ZP _ (H+1+1+1) 0 30 [.int .i64 n1,.int .i64 n2,.int .i64 n3] _ (by simpa using h.cells) Tryz.underlying30 rfl (by kernel_rfl)
     have hl3:=hl (W:=w5.drew) (by simpa using q3.drew);simp [results,Tryz.results61,go_sem,d0,d1,d2,d3,d4]
   exact(F1.out.trans U3 (fun b hb h=>by have:=HG.out;have:=HH.out;omega)).drew
 have HC:=hd_ (hGN.out G w1 BS.out ho)
 have hP:∀w',Jv a b c lit v w (.returned (.tuple #[.int .i64 0,.agg #[.int .i64 0,.int .i64 0,.int .i64 0],.int .i64 15])) w' ↔ Q0 w w':=by
   intro w';unfold Jv;rw [if_neg ho];simp
 have HP:=hd_ hP;clear hGO hGN hP ho;generalize Jv a b c lit v=OP at *;go_wp2_with fail;refine HC.out.mono ?_;rintro e w2 ⟨rfl,f2⟩;change Leaves _ _ _ _ _ _ _;refine leaves_cons (f:=97) (args:=#[.pointer (some ⟨H+1+1+1+1,0,none⟩),.func (.func 98) #[] #[.pointer (some ⟨H+1+1,0,none⟩),.pointer (some ⟨H+1+1+1,0,none⟩)]]) (by simp) (by simp [go_sem]) ?_;refine(Q0c (H+1+1+1+1) (H+1+1) (H+1+1+1) 15 _ _ _ _ _ w2 (R4.out.fresh f2) (R2.out.fresh f2) (R3.out.fresh f2) (by omega) (by omega) (by omega)).mono ?_;rintro e u' w3 ⟨rfl,rfl,u3,q2,q3,q4⟩;have d0:=q2.cell 0;have d1:=q3.cell 0;have d2:=q3.cell 1;have d3:=q3.cell 2;have d4:=q4.cell 0;simp at d0 d1 d2 d3 d4;show Leaves _ _ _ _ [] .returning _;refine⟨.tuple #[.int .i64 0,.agg #[.int .i64 0,.int .i64 0,.int .i64 0],.int .i64 15],?_,hR.out _ _ ((HP.out _).2 ?_)⟩
 . simp [results,Tryz.results61,go_sem,d0,d1,d2,d3,d4]
 exact(F1.out.trans' f2).trans u3 (fun b hb h=>by have:=HG.out;have:=HH.out;omega)
def Q4y (a b c lit off:Int):Int:=if QG a b c lit 1=off then 1 else if QG a b c lit 2=off then 2 else if QG a b c lit 3=off then 3 else off+3
def Q77 (a b c lit off:Int):Nat->Int
  | 0=>Q4y a b c lit off
  | 1=>if QG a b c lit 2=off then 2 else if QG a b c lit 3=off then 3 else off+3
  | 2=>if QG a b c lit 3=off then 3 else off+3
  | _=>off+3
end Go.Proofs.YtjfdaphjijfieaaGreat
