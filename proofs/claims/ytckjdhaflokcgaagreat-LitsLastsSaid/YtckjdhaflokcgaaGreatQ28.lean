/-
  Joined texts, part 28: contracts and plain lemmas.
  Conditions: none beyond those of each theorem.
-/
import Derived.Test.YtckjdhaflokcgaaGreatQ8
import Derived.Test.YtckjdhaflokcgaaGreatQ7
import Derived.Test.YtckjdhaflokcgaaGreatQ22
set_option maxHeartbeats 2000000
set_option linter.unusedVariables false
set_option linter.unusedSimpArgs false
set_option linter.unnecessarySimpa false
set_option maxRecDepth 100000
universe u
namespace Go.Proofs.YtckjdhaflokcgaaGreat
open Go.RowKit
theorem Q1j (F:Nat->Prop) (g pn pc:Nat) (bs:List Nat) (at_ k:Nat) (w:World) (hcu:Qe w F g bs at_) (hk:bs.length<at_+k) (hk2:k<=2^40)
   (bn:Blk w pn 3 #[.int .i64 k]) (bc:Blk w pc 46 #[.pointer (some ⟨g,0,none⟩)]) :
   Calls Tryz.prog 63 #[.pointer (some ⟨pn,0,none⟩),.pointer (some ⟨pc,0,none⟩)] w fun e w'=>e = .returned (.tuple #[.slice none 0 0,.int .i64 3])/\Q0 w w':=by
 have hl:=fun j=>YV F g bs at_ (w.drewN j) hcu;obtain⟨A,c,hb,hr,hlt,hat,hlen,hcap⟩:=hcu;have hn:=bn.cell0;have hc:=bc.cell0;(have i1:((bs.length-at_:Nat):Int)<(k:Int):=by omega);(have i2:(k:Int)<=1099511627776:=by omega);(have i3:¬(k:Int)<0:=by omega);have HL:=hd_ hl;clear hl hb hr bn bc hlt hat hlen hcap hk hk2;generalize bs.length-at_=D at *;refine Qg fun R hR=>?_;go_enter Tryz.func63,Tryz.ntmps63;go_wp2_with fail;go_quiet ((go_at_call 39;exact Calls.quiet_of (HL.out _)));go_wp2_with fail;(try go_ret2);exact hR.out _ _ ⟨rfl,(Upd.refl _ _).drewN _⟩
theorem Vi (F:Nat->Prop) (g:Nat) (bs:List Nat) (at_ k:Nat) (w:World) (hcu:Qe w F g bs at_) (hk:bs.length<at_+k) (hk2:k<=2^40) (hF:∀b,F b->b≠g) :
   Calls Tryz.prog 26 #[.pointer (some ⟨g,0,none⟩),.int .i64 k] w fun e w'=>e = .returned (.tuple #[.slice none 0 0,.int .i64 3])/\Upd (fun b=>b=g) w w'/\Qe w' F g bs at_:=by
 have hmf:∀(fn:Fn) (first cap:Array Value) (w:World),(Instr.makeFunc fn first cap).run Tryz.prog w = .ok (.func fn first cap) w:=fun _ _ _ _=>rfl;obtain⟨H,hH⟩:=nm_ (w.heap.size);obtain⟨w0,hw0⟩:=nm_ ((w.alloc (.cells #[.pointer (some ⟨g,0,none⟩)] 46)).alloc (.cells #[.int .i64 k] 3));(have f0:Q0 w w0:=by rw [hw0];exact((Upd.refl _ w).alloc _).alloc _);(have bc:Blk w0 H 46 #[.pointer (some ⟨g,0,none⟩)]:=by rw [hw0];exact(Qc hH _ _).alloc _);(have bn:Blk w0 (H+1) 3 #[.int .i64 k]:=by rw [hw0];exact Qc (by simp [hH]) _ _)
 have hr:=Q1k F g bs at_ 63 #[.pointer (some ⟨H+1,0,none⟩),.pointer (some ⟨H,0,none⟩)] 3 w0 (hcu.fresh f0) (fun _ _=>rfl) hF (by decide) (fun W hW hc =>
   (Q1j _ g (H+1) H bs at_ k W hc hk hk2 (bn.fresh hW) (bc.fresh hW)).mono fun e w' h=>⟨none,0,0,at_,h.1,h.2.mono (fun _ _ h=>h.elim),hc.fresh h.2⟩)
 have HR:=hd_ hr;have F0:=hd_ f0;have HH:=hd_ hH;have HW:=hd_ hw0;clear hr hcu hH hw0 f0 bc bn;refine Qg fun R hR=>?_;go_enter Tryz.func26,Tryz.ntmps26;go_wp2_with fail;simp only [<-HH.out,<-HW.out];refine HR.out.mono ?_;rintro e w1 ⟨rfl,u1,c1⟩;go_wp2;(try go_ret2);exact hR.out _ _ ⟨rfl,(F0.out.mono (fun _ _ h=>h.elim)).trans' u1,c1⟩
def Q3R (F:Nat->Prop) (g:Nat) (bs:List Nat) (at_ k:Nat) (v:Value) (W w':World):Prop :=
  ∃K,v = .pointer (some ⟨K,0,none⟩)/\W.heap.size<=K/\Qe w' (fun b=>W.heap.size<=b/\b≠K) K ((bs.drop at_).take k) 0/\Qe w' F g bs (at_+k)
theorem Q2u (F:Nat->Prop) (g pn pc:Nat) (bs:List Nat) (at_ k:Nat) (w:World) (hcu:Qe w F g bs at_) (hk:at_+k<=bs.length) (hF:∀b,F b->b≠g) (hFW:∀b,F b->b<w.heap.size)
   (bn:Blk w pn 3 #[.int .i64 k]) (bc:Blk w pc 46 #[.pointer (some ⟨g,0,none⟩)]) :
   Calls Tryz.prog 220 #[.pointer (some ⟨pc,0,none⟩),.pointer (some ⟨pn,0,none⟩)] w fun e w'=>∃p1,e = .returned (.tuple #[.pointer p1,.int .i64 0])/\Upd (fun b=>b=g) w w'/\Q3R F g bs at_ k (.pointer p1) w w':=by
 (have hlt:∀b∈bs,b<256:=by obtain⟨_,_,_,_,h,_⟩:=hcu;exact h);(have hlen:bs.length<=2^32:=by obtain⟨_,_,_,_,_,_,h,_⟩:=hcu;exact h);have HB:=hd_ (Kx F g bs at_ k w hcu hk hF);have hn:=bn.cell0;have hc:=bc.cell0;have HK:=hd_ (show((bs.drop at_).take k).length=k by simp;omega);have HLT:=hd_ (show(∀b∈(bs.drop at_).take k,b<256)/\k<=2^32 from⟨fun b hb=>hlt b (List.mem_of_mem_drop (List.mem_of_mem_take hb)),by omega⟩);have HG:=hd_ hcu.lt;clear hcu bn bc hlt hlen hk hF hFW;refine Qg fun R hR=>?_;go_enter Tryz.func220,Tryz.ntmps220;go_wp2_with fail;refine HB.out.mono ?_;rintro e w1 ⟨v,rfl,ov,u1,c1,hv⟩;obtain⟨A3,n3,c3,rfl,hn3⟩:=ov.form';obtain⟨hn4,hc4,hrd⟩:=ov.rd rfl;have OV:=hd_ ov;have HV:=hd_ hv;have U1:=hd_ u1;have C1:=hd_ c1;have HN:=hd_ (And.intro hn4 (And.intro hc4 hrd));clear ov hv u1 c1 hn3 hn4 hc4 hrd HB;go_wp2_with fail;(try go_ret2);have fa:Q0 w1 (w1.alloc (.cells #[.slice A3 n3 c3,.int .i64 0] 96)):=(Upd.refl _ _).alloc _;obtain⟨hn4,hc4,hrd⟩:=HN.out;(have hll:(((bs.drop at_).take k).map fun b:Nat=>Value.int .u8 (b:Nat)).length=((bs.drop at_).take k).length:=by simp);rw [hll]at hn4 hc4 hrd;have hsz:=U1.out.size;refine hR.out _ _ ⟨some ⟨w1.heap.size,0,none⟩,rfl,U1.out.alloc _,w1.heap.size,rfl,hsz,⟨A3,c3,?_,?_,HLT.out.1,by omega,by have:=HLT.out.2;have:=HK.out;omega,hc4⟩,C1.out.fresh fa⟩
 . rw [<-hn4];exact Blk.new _ _ _
 refine(hrd.mono (G:=fun b=>w.heap.size<=b/\b≠w1.heap.size) fun b hb=>⟨HV.out b hb,?_⟩).fresh fa;have:=OV.out.lt hb;omega
def JY (F:Nat->Prop) (g:Nat) (bs:List Nat) (at_ k:Nat) (w:World) (e:Ending) (w':World):Prop :=
  Upd (fun b=>b=g) w w'/\if at_+k<=bs.length then ∃K,e = .returned (.tuple #[.pointer (some ⟨K,0,none⟩),.int .i64 0])/\w.heap.size<=K/\Qe w' (fun b=>w.heap.size<=b/\b≠K) K ((bs.drop at_).take k) 0/\Qe w' F g bs (at_+k)
    else e = .returned (.tuple #[.pointer none,.int .i64 3])/\Qe w' F g bs at_
theorem Q2v (F:Nat->Prop) (g pn pc:Nat) (bs:List Nat) (at_ k:Nat) (w:World) (hcu:Qe w F g bs at_) (hk:bs.length<at_+k) (hk2:k<=2^40) (hF:∀b,F b->b≠g)
   (bn:Blk w pn 3 #[.int .i64 k]) (bc:Blk w pc 46 #[.pointer (some ⟨g,0,none⟩)]) :
   Calls Tryz.prog 220 #[.pointer (some ⟨pc,0,none⟩),.pointer (some ⟨pn,0,none⟩)] w fun e w'=>∃p1,e = .returned (.tuple #[.pointer p1,.int .i64 3])/\Upd (fun b=>b=g) w w'/\Qe w' F g bs at_:=by
 have HB:=hd_ (Vi F g bs at_ k w hcu hk hk2 hF);have hn:=bn.cell0;have hc:=bc.cell0;clear hcu bn bc hk hF hk2;refine Qg fun R hR=>?_;go_enter Tryz.func220,Tryz.ntmps220;go_wp2_with fail;refine HB.out.mono ?_;rintro e w1 ⟨rfl,u1,c1⟩;have U1:=hd_ u1;have C1:=hd_ c1;clear u1 c1 HB;go_wp2_with fail;(try go_ret2);exact hR.out _ _ ⟨some ⟨w1.heap.size,0,none⟩,rfl,U1.out.alloc _,C1.out.fresh ((Upd.refl _ _).alloc _)⟩
theorem Q2w (F:Nat->Prop) (g:Nat) (bs:List Nat) (at_ k:Nat) (w:World) (hcu:Qe w F g bs at_) (hk2:k<=2^40) (hF:∀b,F b->b≠g) :
   Calls Tryz.prog 173 #[.pointer (some ⟨g,0,none⟩),.int .i64 k] w (JY F g bs at_ k w):=by
 have hmf:∀(fn:Fn) (first cap:Array Value) (w:World),(Instr.makeFunc fn first cap).run Tryz.prog w = .ok (.func fn first cap) w:=fun _ _ _ _=>rfl;obtain⟨H,hH⟩:=nm_ (w.heap.size);obtain⟨w0,hw0⟩:=nm_ ((w.alloc (.cells #[.pointer (some ⟨g,0,none⟩)] 46)).alloc (.cells #[.int .i64 k] 3));(have f0:Q0 w w0:=by rw [hw0];exact((Upd.refl _ w).alloc _).alloc _);(have bc:Blk w0 H 46 #[.pointer (some ⟨g,0,none⟩)]:=by rw [hw0];exact(Qc hH _ _).alloc _);(have bn:Blk w0 (H+1) 3 #[.int .i64 k]:=by rw [hw0];exact Qc (by simp [hH]) _ _);have hcu0:=hcu.both.fresh f0;have hgl:=hcu.lt;have hs0:=f0.size
 have HR:=hd_ (show Calls Tryz.prog 219 #[.pointer (some ⟨g,0,none⟩),.func (.func 220) #[] #[.pointer (some ⟨H,0,none⟩),.pointer (some ⟨H+1,0,none⟩)]] w0 fun e w'=>∃p1 er,e = .returned (.tuple #[.pointer p1,.int .i64 er])/\JY F g bs at_ k w e w' from by
   by_cases hk:at_+k<=bs.length
   . refine(Q1l (fun b=>F b/\b<w.heap.size) g bs at_ 220 #[.pointer (some ⟨H,0,none⟩),.pointer (some ⟨H+1,0,none⟩)] w0 hcu0 (fun _ _=>rfl) (Q3R (fun b=>F b/\b<w.heap.size) g bs at_ k) (fun W hW _ =>
       Q2u _ g (H+1) H bs at_ k W (hcu0.fresh hW) hk (fun b hb=>hF b hb.1) (fun b hb=>by have:=hW.size;have:=hb.2;omega) (bn.fresh hW) (bc.fresh hW))).mono ?_
     rintro e w' ⟨p1,W,w1,rfl,⟨K,hp,hK,cK,cG⟩,fW,hsz,us,ug⟩;injection hp with hp;subst hp;refine⟨_,_,rfl,?_⟩;unfold JY;rw [if_pos hk];refine⟨(f0.mono (fun _ _ h=>h.elim)).trans' ug,K,rfl,by have:=fW.size;omega,(cK.upd us (by omega) (fun b _ hb h=>by have:=hb.1;omega)).mono fun b hb=>⟨by have:=hb.1;have:=fW.size;omega,hb.2⟩,(cG.upd us (by omega) (fun b _ hb h=>by have:=hb.2;omega)).mono fun b hb=>hb.1⟩
   refine(Q1m (fun b=>F b/\b<w.heap.size) g bs at_ 220 #[.pointer (some ⟨H,0,none⟩),.pointer (some ⟨H+1,0,none⟩)] 3 w0 hcu0 (fun _ _=>rfl) (fun b hb=>hF b hb.1) (by decide) (fun W hW hc =>
     (Q2v _ g (H+1) H bs at_ k W hc (by omega) hk2 (fun b hb=>hF b hb.1.1) (bn.fresh hW) (bc.fresh hW)).mono fun e w' h=>by obtain⟨p1,he,h1,h2⟩:=h;exact⟨p1,at_,he,h1,h2⟩)).mono ?_
   rintro e w' ⟨rfl,ug,cG⟩;refine⟨_,_,rfl,?_⟩;unfold JY;rw [if_neg hk]
   exact⟨(f0.mono (fun _ _ h=>h.elim)).trans' ug,rfl,cG.mono fun b hb=>hb.1⟩)
 have HH:=hd_ hH;have HW:=hd_ hw0;clear hcu hH hw0 f0 bc bn hcu0 hgl hs0 hF hk2;refine Qg fun R hR=>?_;go_enter Tryz.func173,Tryz.ntmps173;go_wp2_with fail;simp only [<-HH.out,<-HW.out];refine HR.out.mono ?_;rintro e w1 ⟨p1,er,rfl,hP⟩;have HP:=hd_ hP;clear hP HR;go_wp2_with fail;(try go_ret2);exact hR.out _ _ HP.out
theorem Q1n (F:Nat->Prop) (g:Nat) (bs:List Nat) (at_:Nat) (w:World) (hcu:Qe w F g bs at_) :
   Calls Tryz.prog 184 #[.pointer (some ⟨g,0,none⟩)] w fun e w'=>∃v,e = .returned v/\Qk w w' v (bs.drop at_):=by
 obtain⟨A,c,hb,hr,hlt,hat,hlen,hcap⟩:=hcu;obtain⟨c0,c1⟩:=(hb).cells2;have hcut:=hr.cut (k:=at_) hat hcap;have HCL:=hd_ (fun q=>Yo _ (bs.length-at_) (c-at_) _ (w.drewN q) (hcut.drewN q) (by intro u hu;have:=List.mem_of_mem_drop hu;exact Ky bs u this) (by omega));(have hI:(at_:Int)<=bs.length:=by omega);(have hI0:(0:Int)<=at_:=by omega);have hatN:at_<=bs.length:=hat;have hcN:bs.length<=c:=hcap;(have hcI:(bs.length:Int)<=c:=by omega);(have hmap:(bs.map fun b:Nat=>Value.int .u8 (b:Nat)).drop at_=Qa (bs.drop at_):=by simp [Qa]);rw [hmap]at HCL;clear hb hr hlt hat hlen hcap hcut hmap;refine Qg fun R hR=>?_;go_enter Tryz.func184,Tryz.ntmps184;go_wp2_with fail;by_cases hcat:c=at_
 . simp only [if_pos hcat]at HCL
   (have hc0:c-at_=0:=by omega);rw [hc0]at HCL;clear hc0;refine Qv 9 (by kernel_rfl) (by kernel_rfl) ?_;simp only [List.take_succ_cons,List.take_zero,List.drop_succ_cons,List.drop_zero];(repeat(first|go_big_quiet_step (fail)|quiet_step (fail)));refine wpQuiet_nil ?_;rintro w5 ⟨q5,rfl⟩;go_wp2_with fail;refine(HCL.out q5).mono ?_;rintro e w1 ⟨v,rfl,ov,f1,hv⟩;have OV:=hd_ ov;have F1:=hd_ f1;have HV:=hd_ hv;clear ov f1 hv HCL;go_wp2_with fail;(try go_ret);exact hR.out _ _ ⟨v,rfl,OV.out,((Upd.refl _ _).drewN _).trans' F1.out,HV.out⟩
 simp only [if_neg hcat]at HCL;refine Qv 9 (by kernel_rfl) (by kernel_rfl) ?_;simp only [List.take_succ_cons,List.take_zero,List.drop_succ_cons,List.drop_zero];(repeat(first|go_big_quiet_step (fail)|quiet_step (fail)));refine wpQuiet_nil ?_;rintro w5 ⟨q5,rfl⟩;go_wp2_with fail;refine(HCL.out q5).mono ?_;rintro e w1 ⟨v,rfl,ov,f1,hv⟩;have OV:=hd_ ov;have F1:=hd_ f1;have HV:=hd_ hv;clear ov f1 hv HCL;go_wp2_with fail;(try go_ret);exact hR.out _ _ ⟨v,rfl,OV.out,((Upd.refl _ _).drewN _).trans' F1.out,HV.out⟩
end Go.Proofs.YtckjdhaflokcgaaGreat
