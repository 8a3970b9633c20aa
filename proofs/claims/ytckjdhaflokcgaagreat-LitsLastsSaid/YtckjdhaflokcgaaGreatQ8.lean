/-
  Joined texts, part 8: contracts and plain lemmas.
  Conditions: none beyond those of each theorem.
-/
import Derived.Test.YtckjdhaflokcgaaGreatQ5
import Derived.Laws.EntriesVeiled
set_option maxHeartbeats 4000000
set_option linter.unusedVariables false
set_option linter.unusedSimpArgs false
set_option linter.unnecessarySimpa false
set_option maxRecDepth 100000
universe u
namespace Go.Proofs.YtckjdhaflokcgaaGreat
open Go.RowKit
theorem Q3d (F:Nat->Prop) (g pc:Nat) (bs:List Nat) (at_:Nat) (w:World) (hcu:Qe w F g bs at_) (hk:at_<bs.length)
   (bc:Blk w pc 46 #[.pointer (some ⟨g,0,none⟩)]) (hF:∀b,F b->b≠g) :
   Calls Tryz.prog 166 #[.pointer (some ⟨pc,0,none⟩)] w fun e w'=>e = .returned (.tuple #[.int .u8 ((bs[at_]?.getD 0:Nat):Int),.int .i64 0]) /\
     Upd (fun b=>b=g) w w'/\Qe w' F g bs (at_+1):=by
 have hl:=YV F g bs at_ w hcu;obtain⟨A,c,hb,hr,hlt,hat,hlen,hcap⟩:=hcu;have hc:=bc.cell0;(have i1:((bs.length-at_:Nat):Int)≠0:=by omega);(have i2:(((bs.length-at_:Nat):Int) == 0)=false:=by simpa using i1);(have i4:(bs.length:Int)<=4294967296:=by omega);(have i3:(at_:Int)<bs.length:=by omega);obtain⟨b,o,hA,hb1,hb2,hb3⟩:=hr.at_ hk;obtain⟨x,hx⟩:=nm_ (bs[at_]);(have hx2:bs[at_]?.getD 0=x:=by rw [List.getElem?_eq_getElem hk,hx];rfl);rw [hx2];(have hb4:w.cell? ⟨b,o+at_,none⟩=some (.int .u8 (x:Nat)):=by rw [hb3];simp [hk,hx]);have HL:=hd_ hl;have HB:=hd_ hb;have HR:=hd_ hr;have HBC:=hd_ bc;have HB4:=hd_ hb4;have HF1:=hd_ (hF b hb1);clear hl hb hr bc hb3 hb4 hx hx2;generalize bs.length-at_=D at *;subst hA;refine Qg fun R hR=>?_;go_enter Tryz.func166,Tryz.ntmps166;go_wp2_with fail;refine HL.out.mono ?_;rintro e w1 ⟨rfl,k,rfl⟩;have f1:Q0 w (w.drewN k):=(Upd.refl _ w).drewN k;generalize w.drewN k=W at *;have b1:=HB.out.fresh f1;have bc1:=HBC.out.fresh f1;have hcc1:=bc1.cell0;have hc1':=b1.cell 1;have hc0':=b1.cell 0;have hf1':=b1.frozen 1;simp only [List.getElem?_toArray,List.getElem?_cons_succ,List.getElem?_cons_zero]at hc1' hc0';have B1:=hd_ b1;have BC1:=hd_ bc1;clear b1 bc1;have s0:IntKind.i64.wrap ((at_:Int)+1)=at_+1:=IntWalk.i64_in _ (by omega);go_wp2_with fail;have b2:=B1.out.set_ 1 (.int .i64 ((at_:Int)+1));have u2:Upd (fun b=>b=g) w (W.setCell ⟨g,1,none⟩ (.int .i64 ((at_:Int)+1))):=((f1.mono (T:=fun b=>b=g) (fun _ _ h=>h.elim)).setCell (p:=⟨g,1,none⟩) (fun _=>rfl) _);have bc2:=BC1.out.far (p:=⟨g,1,none⟩) (BC1.out.ne_ B1.out (by decide)) (.int .i64 ((at_:Int)+1))
 have x2:(W.setCell ⟨g,1,none⟩ (.int .i64 ((at_:Int)+1))).cell? ⟨b,o+at_,none⟩=some (.int .u8 (x:Nat)):=by
   rw [<-HB4.out];exact u2.cell (p:=⟨b,o+at_,none⟩) hb2 HF1.out
 generalize (W.setCell ⟨g,1,none⟩ (.int .i64 ((at_:Int)+1)))=W2 at *;have hcc2:=bc2.cell0;have hc2:=b2.cell 1;have hc20:=b2.cell 0;simp at hc2 hc20;have B2:=hd_ b2;clear b2 bc2 hcc1 hc1' hc0' hf1' hc;(have s5:(at_:Int)+1-1=at_:=by omega);have s6:IntKind.i64.wrap (at_:Int)=at_:=IntWalk.i64_in _ (by omega);(have s7:IntKind.i64.wrap ((at_:Int)+1-1)=at_:=by rw [s5];exact s6);have hm2:=x2;go_quiet (fail);go_wp2_with fail;(try go_ret2);refine hR.out _ _ ⟨rfl,u2.drewN _,some ⟨b,o,none⟩,c,?_,?_,hlt,hk,hlen,hcap⟩
 . have:=B2.out.drewN nq
   simpa using this
 exact(HR.out.upd u2 (fun b _ hb e=>hF b hb e)).drewN _
theorem Q2f (F:Nat->Prop) (g pc:Nat) (bs:List Nat) (w:World) (hcu:Qe w F g bs bs.length)
   (bc:Blk w pc 46 #[.pointer (some ⟨g,0,none⟩)]) :
   Calls Tryz.prog 166 #[.pointer (some ⟨pc,0,none⟩)] w fun e w'=>e = .returned (.tuple #[.int .u8 0,.int .i64 3])/\∃k,w'=w.drewN k:=by
 have hl:=YV F g bs bs.length w hcu;rw [Nat.sub_self]at hl;have hc:=bc.cell0;have HL:=hd_ hl;clear hl hcu bc;refine Qg fun R hR=>?_;go_enter Tryz.func166,Tryz.ntmps166;go_wp2_with fail;refine HL.out.mono ?_;rintro e w1 ⟨rfl,k,rfl⟩;go_wp2_with fail;(try go_ret2);exact hR.out _ _ ⟨rfl,k,rfl⟩
theorem Q0N (pe pf px pc:Addr) (u:FrameMode) (w:World) (he:w.cell? pe=some (.int .i64 0)) :
   CallsD Tryz.prog 215 #[.pointer (some pe),.pointer (some pf),.pointer (some px),.pointer (some pc)] u w fun e u' w'=>u'=u/\(e = .returned (.tuple #[])/\w'=w):=by
 go_enter_d Tryz.func215,Tryz.ntmps215;go_wp2;go_end0;exact⟨rfl,rfl⟩
theorem Q0O (g H:Nat) (at_:Nat) (x:Int) (A:Option Addr) (n c:Nat) (u:FrameMode) (w:World)
   (b0:Blk w H 46 #[.pointer (some ⟨g,0,none⟩)]) (b1:Blk w (H+1) 5 #[.int .u8 x]) (b2:Blk w (H+1+1) 24 #[.int .i64 3]) (b3:Blk w (H+1+1+1) 3 #[.int .i64 at_])
   (bg:Blk w g 96 #[.slice A n c,.int .i64 at_]) (hg:g<H) :
   CallsD Tryz.prog 215 #[.pointer (some ⟨H+1+1,0,none⟩),.pointer (some ⟨H+1+1+1,0,none⟩),.pointer (some ⟨H+1,0,none⟩),.pointer (some ⟨H,0,none⟩)] u w fun e u' w'=>u'=u/\(e = .returned (.tuple #[]) /\
     w'=(w.setCell ⟨H+1,0,none⟩ (.int .u8 0)).setCell ⟨g,1,none⟩ (.int .i64 at_)):=by
 have c0:=b0.cell0;have c1:=b1.cell0;have c2:=b2.cell0;have c3:=b3.cell0;have z1:=b1.frozen 0;have zg:=bg.frozen 1;have g1:=bg.cell 1;simp at g1;go_enter_d Tryz.func215,Tryz.ntmps215;go_wp2;go_end0;exact⟨rfl,rfl⟩
theorem Q3e (F:Nat->Prop) (g pc:Nat) (bs:List Nat) (at_:Nat) (w:World) (hcu:Qe w F g bs at_) (hk:at_<bs.length)
   (bc:Blk w pc 46 #[.pointer (some ⟨g,0,none⟩)]) (hF:∀b,F b->b≠g) :
   Calls Tryz.prog 165 #[.pointer (some ⟨g,0,none⟩),.func (.func 166) #[] #[.pointer (some ⟨pc,0,none⟩)]] w fun e w' =>
     e = .returned (.tuple #[.int .u8 ((bs[at_]?.getD 0:Nat):Int),.int .i64 0])/\Upd (fun b=>b=g) w w'/\Qe w' F g bs (at_+1):=by
 have hmf:∀(fn:Fn) (first cap:Array Value) (w:World),(Instr.makeFunc fn first cap).run Tryz.prog w = .ok (.func fn first cap) w:=fun _ _ _ _=>rfl;have hg:=hcu.lt
 have hat:w.cell? ⟨g,1,none⟩=some (.int .i64 at_):=by
   obtain⟨A,c,hb,_⟩:=hcu;simpa using hb.cell 1
 have HCU:=hd_ hcu;have HBC:=hd_ bc;clear hcu bc;(have hg1:g<w.heap.size+1:=by omega);(have hg2:g<w.heap.size+1+1:=by omega);(have hg3:g<w.heap.size+1+1+1:=by omega);refine Qg fun R hR=>?_;go_enter_defers Tryz.func165,Tryz.ntmps165;go_wp2_with fail;obtain⟨H,hH⟩:=nm_ (w.heap.size);rw [<-hH]at hg hg1 hg2 hg3;simp only [<-hH];obtain⟨W0,hW0⟩:=nm_ ((((w.alloc (.cells #[.pointer (some ⟨g,0,none⟩)] 46)).alloc (.cells #[.int .u8 0] 5)).alloc (.cells #[.int .i64 0] 24)).alloc (.cells #[.int .i64 at_] 3));rw [<-hW0];(have f0:Q0 w W0:=by rw [hW0];exact((((Upd.refl _ w).alloc _).alloc _).alloc _).alloc _);(have k0:Blk W0 H 46 #[.pointer (some ⟨g,0,none⟩)]:=by rw [hW0];exact(((Qc (by simp [hH]) _ _).alloc _).alloc _).alloc _);(have k1:Blk W0 (H+1) 5 #[.int .u8 0]:=by rw [hW0];exact((Qc (by simp [hH]) _ _).alloc _).alloc _);(have k2:Blk W0 (H+1+1) 24 #[.int .i64 0]:=by rw [hW0];exact(Qc (by simp [hH]) _ _).alloc _);(have k3:Blk W0 (H+1+1+1) 3 #[.int .i64 at_]:=by rw [hW0];exact Qc (by simp [hH]) _ _);clear hW0;have HH:=hd_ hH;clear hH;generalize hx:((bs[at_]?.getD 0:Nat):Int)=x at *;have hb1:=Q3d (fun b=>F b/\b<w.heap.size) g pc bs at_ W0 (HCU.out.both.fresh f0) hk (HBC.out.fresh f0) (fun b hb=>hF b hb.1);rw [hx]at hb1;clear hx;refine hb1.mono ?_;rintro e w1 ⟨rfl,u1,c1⟩;have j1:=k1.upd u1 (by omega);have j2:=k2.upd u1 (by omega);have uu:Upd (fun b=>b=g) w w1:=(f0.mono (fun _ _ h=>h.elim)).trans' u1;have d1:=j1.cell0;have d2:=j2.cell0;have z1:=j1.frozen 0;have z2:=j2.frozen 0;have J1:=hd_ j1;have J2:=hd_ j2;have HC1:=hd_ c1;clear j1 j2 k0 k1 k2 k3 c1 hb1;go_wp2;have L1:=(J1.out.set_ 0 (.int .u8 x)).far (p:=⟨H+1+1,0,none⟩) (by simp) (.int .i64 0);have L2:=(J2.out.far (p:=⟨H+1,0,none⟩) (by simp) (.int .u8 x)).set_ 0 (.int .i64 0);have hd2:=L2.cell0;have hd1:=L1.cell0;change Leaves _ _ _ _ _ _ _;refine leaves_cons (f:=215) (args:=#[.pointer (some ⟨H+1+1,0,none⟩),.pointer (some ⟨H+1+1+1,0,none⟩),.pointer (some ⟨H+1,0,none⟩),.pointer (some ⟨H,0,none⟩)]) (by simp) (by simp [go_sem]) ?_;refine(Q0N _ _ _ _ .returning _ hd2).mono ?_;rintro e u' w'' ⟨rfl,rfl,rfl⟩;refine⟨.tuple #[.int .u8 x,.int .i64 0],?_,hR.out _ _ ⟨rfl,?_,?_⟩⟩
 . simp [results,Tryz.results165,go_sem,hd1,hd2]
 . exact(uu.setCell (p:=⟨H+1,0,none⟩) (fun h=>by have:=HH.out;simp at h;omega) _).setCell (p:=⟨H+1+1,0,none⟩) (fun h=>by have:=HH.out;simp at h;omega) _
 have m1:=HC1.out.upd (S:=fun b=>b=H+1) ((Upd.refl (fun b=>b=H+1) _).setCell (p:=⟨H+1,0,none⟩) (fun _=>rfl) (.int .u8 x)) (by omega) (fun b _ hb e=>by have:=hb.2;have:=HH.out;omega);have m2:=m1.upd (S:=fun b=>b=H+1+1) ((Upd.refl (fun b=>b=H+1+1) _).setCell (p:=⟨H+1+1,0,none⟩) (fun _=>rfl) (.int .i64 0)) (by omega) (fun b _ hb e=>by have:=hb.2;have:=HH.out;omega);exact m2.mono fun b hb=>hb.1
theorem Q2g (F:Nat->Prop) (g pc:Nat) (bs:List Nat) (at_:Nat) (w:World) (hcu:Qe w F g bs at_) (hk:at_=bs.length)
   (bc:Blk w pc 46 #[.pointer (some ⟨g,0,none⟩)]) (hF:∀b,F b->b≠g) :
   Calls Tryz.prog 165 #[.pointer (some ⟨g,0,none⟩),.func (.func 166) #[] #[.pointer (some ⟨pc,0,none⟩)]] w fun e w' =>
     e = .returned (.tuple #[.int .u8 0,.int .i64 3])/\Upd (fun b=>b=g) w w'/\Qe w' F g bs at_:=by
 have hmf:∀(fn:Fn) (first cap:Array Value) (w:World),(Instr.makeFunc fn first cap).run Tryz.prog w = .ok (.func fn first cap) w:=fun _ _ _ _=>rfl;have hg:=hcu.lt
 have hat:w.cell? ⟨g,1,none⟩=some (.int .i64 at_):=by
   obtain⟨A,c,hb,_⟩:=hcu;simpa using hb.cell 1
 have HK:=hd_ hk;clear hk;have HCU:=hd_ hcu;have HBC:=hd_ bc;clear hcu bc;(have hg1:g<w.heap.size+1:=by omega);(have hg2:g<w.heap.size+1+1:=by omega);(have hg3:g<w.heap.size+1+1+1:=by omega);refine Qg fun R hR=>?_;go_enter_defers Tryz.func165,Tryz.ntmps165;go_wp2_with fail;obtain⟨H,hH⟩:=nm_ (w.heap.size);rw [<-hH]at hg hg1 hg2 hg3;simp only [<-hH];obtain⟨W0,hW0⟩:=nm_ ((((w.alloc (.cells #[.pointer (some ⟨g,0,none⟩)] 46)).alloc (.cells #[.int .u8 0] 5)).alloc (.cells #[.int .i64 0] 24)).alloc (.cells #[.int .i64 at_] 3));rw [<-hW0];(have f0:Q0 w W0:=by rw [hW0];exact((((Upd.refl _ w).alloc _).alloc _).alloc _).alloc _);(have k0:Blk W0 H 46 #[.pointer (some ⟨g,0,none⟩)]:=by rw [hW0];exact(((Qc (by simp [hH]) _ _).alloc _).alloc _).alloc _);(have k1:Blk W0 (H+1) 5 #[.int .u8 0]:=by rw [hW0];exact((Qc (by simp [hH]) _ _).alloc _).alloc _);(have k2:Blk W0 (H+1+1) 24 #[.int .i64 0]:=by rw [hW0];exact(Qc (by simp [hH]) _ _).alloc _);(have k3:Blk W0 (H+1+1+1) 3 #[.int .i64 at_]:=by rw [hW0];exact Qc (by simp [hH]) _ _);clear hW0;have HH:=hd_ hH;clear hH;have hb1:=Q2f (fun b=>F b/\b<w.heap.size) g pc bs W0 (by rw [<-HK.out];exact HCU.out.both.fresh f0) (HBC.out.fresh f0);refine hb1.mono ?_;rintro e w1 ⟨rfl,k,rfl⟩;have f1:Q0 w (W0.drewN k):=f0.drewN k;have j0:=k0.drewN k;have j1:=k1.drewN k;have j2:=k2.drewN k;have j3:=k3.drewN k;generalize W0.drewN k=w1 at *;have d1:=j1.cell0;have d2:=j2.cell0;have z1:=j1.frozen 0;have z2:=j2.frozen 0;have J0:=hd_ j0;have J1:=hd_ j1;have J2:=hd_ j2;have J3:=hd_ j3;have F1:=hd_ f1;clear j0 j1 j2 j3 k0 k1 k2 k3 hb1 f1;go_wp2;have L0:=(J0.out.far (p:=⟨H+1,0,none⟩) (by simp) (.int .u8 0)).far (p:=⟨H+1+1,0,none⟩) (by simp;omega) (.int .i64 3);have L1:=(J1.out.set_ 0 (.int .u8 0)).far (p:=⟨H+1+1,0,none⟩) (by simp) (.int .i64 3);have L2:=(J2.out.far (p:=⟨H+1,0,none⟩) (by simp) (.int .u8 0)).set_ 0 (.int .i64 3);have L3:=(J3.out.far (p:=⟨H+1,0,none⟩) (by simp;omega) (.int .u8 0)).far (p:=⟨H+1+1,0,none⟩) (by simp) (.int .i64 3)
 have u3:Upd (fun b=>w.heap.size<=b) w ((w1.setCell ⟨H+1,0,none⟩ (.int .u8 0)).setCell ⟨H+1+1,0,none⟩ (.int .i64 3)) :=
   ((F1.out.mono (T:=fun b=>w.heap.size<=b) (fun _ _ h=>h.elim)).setCell (p:=⟨H+1,0,none⟩) (fun _=>by have:=HH.out;simp;omega) _).setCell (p:=⟨H+1+1,0,none⟩) (fun _=>by have:=HH.out;simp;omega) _
 change Leaves _ _ _ _ _ _ _;refine leaves_cons (f:=215) (args:=#[.pointer (some ⟨H+1+1,0,none⟩),.pointer (some ⟨H+1+1+1,0,none⟩),.pointer (some ⟨H+1,0,none⟩),.pointer (some ⟨H,0,none⟩)]) (by simp) (by simp [go_sem]) ?_;have c3:=HCU.out.both.upd u3 (by have:=HH.out;omega) (fun b hb hb2 hb3=>by have:=hb2.2;omega);obtain⟨A,c,hb,hr,hq⟩:=c3;refine(Q0O g H at_ 0 A bs.length c .returning _ (by simpa using L0) (by simpa using L1) (by simpa using L2) (by simpa using L3) hb hg).mono ?_;rintro e u' w'' ⟨rfl,rfl,rfl⟩;refine⟨.tuple #[.int .u8 0,.int .i64 3],?_,hR.out _ _ ⟨rfl,?_,?_⟩⟩
 . have M1:=((L1.set_ 0 (.int .u8 0)).far (p:=⟨g,1,none⟩) (by simp;omega) (.int .i64 at_))
   have M2:=((L2.far (p:=⟨H+1,0,none⟩) (by simp) (.int .u8 0)).far (p:=⟨g,1,none⟩) (by simp;omega) (.int .i64 at_));have q1:=M1.cell0;have q2:=M2.cell0;simp [results,Tryz.results165,go_sem,q1,q2]
 . have u4:Upd (fun b=>b=g\/w.heap.size<=b) w _:=((u3.mono (T:=fun b=>b=g\/w.heap.size<=b) (fun _ _ h=>.inr h)).setCell (p:=⟨H+1,0,none⟩) (fun _=>.inr (by have:=HH.out;simp;omega)) (.int .u8 0)).setCell (p:=⟨g,1,none⟩) (fun _=>.inl rfl) (.int .i64 at_)
   (exact u4.mono fun b hb h=>by rcases h with h|h;exact h;omega)
 have c4:Qe _ (fun b=>F b/\b<w.heap.size) g bs at_:=⟨A,c,hb,hr,hq⟩;have c5:=c4.upd (S:=fun b=>b=H+1) ((Upd.refl (fun b=>b=H+1) _).setCell (p:=⟨H+1,0,none⟩) (fun _=>rfl) (.int .u8 0)) (by omega) (fun b _ hb e=>by have:=hb.2;have:=HH.out;omega);obtain⟨A,c,hb,hr,hq⟩:=c5;refine⟨A,c,?_,?_,hq⟩
 . have:=hb.set_ 1 (.int .i64 at_)
   simpa using this
 exact(hr.upd (S:=fun b=>b=g) ((Upd.refl (fun b=>b=g) _).setCell (p:=⟨g,1,none⟩) (fun _=>rfl) (.int .i64 at_)) (fun b _ hb e=>hF b hb.1 e)).mono fun b hb=>hb.1
theorem VM (F:Nat->Prop) (g:Nat) (bs:List Nat) (at_:Nat) (w:World) (hcu:Qe w F g bs at_) (hk:at_<bs.length) (hF:∀b,F b->b≠g) :
   Calls Tryz.prog 120 #[.pointer (some ⟨g,0,none⟩)] w fun e w'=>e = .returned (.tuple #[.int .u8 ((bs[at_]?.getD 0:Nat):Int),.int .i64 0])/\Upd (fun b=>b=g) w w'/\Qe w' F g bs (at_+1):=by
 have hmf:∀(fn:Fn) (first cap:Array Value) (w:World),(Instr.makeFunc fn first cap).run Tryz.prog w = .ok (.func fn first cap) w:=fun _ _ _ _=>rfl;obtain⟨H,hH⟩:=nm_ (w.heap.size);have hr:=Q3e F g H bs at_ (w.alloc (.cells #[.pointer (some ⟨g,0,none⟩)] 46)) (hcu.fresh ((Upd.refl _ w).alloc _)) hk (Qc hH _ _) hF;rw [hH]at hr;have HR:=hd_ hr;clear hr hcu hH H hk;generalize ((bs[at_]?.getD 0:Nat):Int)=x at *;refine Qg fun R hR=>?_;go_enter Tryz.func120,Tryz.ntmps120;go_wp2_with fail;refine HR.out.mono ?_;rintro e w1 ⟨rfl,u1,c1⟩;go_wp2;(try go_ret2);exact hR.out _ _ ⟨rfl,((Upd.refl (fun b=>b=g) w).alloc _).trans' u1,c1⟩
theorem Vg (F:Nat->Prop) (g:Nat) (bs:List Nat) (at_:Nat) (w:World) (hcu:Qe w F g bs at_) (hk:at_=bs.length) (hF:∀b,F b->b≠g) :
   Calls Tryz.prog 120 #[.pointer (some ⟨g,0,none⟩)] w fun e w'=>e = .returned (.tuple #[.int .u8 0,.int .i64 3])/\Upd (fun b=>b=g) w w'/\Qe w' F g bs at_:=by
 have hmf:∀(fn:Fn) (first cap:Array Value) (w:World),(Instr.makeFunc fn first cap).run Tryz.prog w = .ok (.func fn first cap) w:=fun _ _ _ _=>rfl;obtain⟨H,hH⟩:=nm_ (w.heap.size);have hr:=Q2g F g H bs at_ (w.alloc (.cells #[.pointer (some ⟨g,0,none⟩)] 46)) (hcu.fresh ((Upd.refl _ w).alloc _)) hk (Qc hH _ _) hF;rw [hH]at hr;have HR:=hd_ hr;clear hr hcu hH H hk;refine Qg fun R hR=>?_;go_enter Tryz.func120,Tryz.ntmps120;go_wp2_with fail;refine HR.out.mono ?_;rintro e w1 ⟨rfl,u1,c1⟩;go_wp2;(try go_ret2);exact hR.out _ _ ⟨rfl,((Upd.refl (fun b=>b=g) w).alloc _).trans' u1,c1⟩
def Zm:Nat->Nat->Nat->List Nat->Nat × Nat × Int
  | 0,i,_,_=>(0,i,18)
  | _+1,i,_,[]=>(0,i,3)
  | f+1,i,n,x::xs =>
    if 128<=x then Zm f (i+1) (n+x%128*2^(7*i)) xs
    else if x=0/\0<i then(0,i+1,5)
    else if 4611686018427387903<n+x%128*2^(7*i)then(0,i+1,18)
    else(n+x%128*2^(7*i),i+1,0)
def QH (bs:List Nat):Nat × Nat × Int:=Zm 9 0 0 bs
theorem Q3I (x:Nat) (h:x<256):bits .and .u8 (x:Int) 127=((x%128:Nat):Int):=by
 (have:∀x:Fin 256,bits .and .u8 ((x.val:Nat):Int) 127=((x.val%128:Nat):Int):=by decide +kernel);exact this ⟨x,h⟩
theorem Q3f (n y i:Nat) (hn:n<2^(7*i)) (hy:y<128) (hi:i<9) :
   bits .or .u64 (n:Int) (IntKind.u64.wrap ((y:Int)*2^(7*i)))=((n+y*2^(7*i):Nat):Int):=XR n y (7*i) 7 hn (by omega) (by omega)
theorem Q3J (n y i:Nat) (hn:n<2^(7*i)) (hy:y<128):n+y*2^(7*i)<2^(7*(i+1)):=by
 (have h:2^(7*(i+1))=128*2^(7*i):=by rw [show 7*(i+1)=7*i+7 by omega,Nat.pow_add];omega);have h2:y*2^(7*i)<=127*2^(7*i):=Nat.mul_le_mul_right _ (by omega);omega
theorem Q3g (F:Nat->Prop) (g pc:Nat) (bs:List Nat) (at_:Nat) (w:World) (hcu:Qe w F g bs at_)
   (bc:Blk w pc 46 #[.pointer (some ⟨g,0,none⟩)]) (hF:∀b,F b->b≠g) :
   Calls Tryz.prog 168 #[.pointer (some ⟨pc,0,none⟩)] w fun e w'=>e = .returned (.tuple #[.int .u64 ((QH (bs.drop at_)).1:Nat),.int .i64 (QH (bs.drop at_)).2.2]) /\
     Upd (fun b=>b=g) w w'/\∃a',Qe w' F g bs a'/\((QH (bs.drop at_)).2.2=0->a'=at_+(QH (bs.drop at_)).2.1):=by
 obtain⟨T,hT⟩:=nm_ (QH (bs.drop at_));rw [<-hT]
 have hpg:pc≠g:=by
   obtain⟨A,c,hb,_⟩:=hcu;exact bc.ne_ hb (by decide)
 (have hlt:∀b∈bs,b<256:=by obtain⟨A,c,_,_,h,_⟩:=hcu;exact h);have HLT:=hd_ hlt;have HT:=hd_ hT;have HCU:=hd_ hcu;have HBC:=hd_ bc;clear hT hcu bc hlt;refine Qg fun R hR=>?_;go_enter Tryz.func168,Tryz.ntmps168;go_wp2_with fail;go_loopg [3,7] 9 (fun f vn vi wr=>∃(i n:Nat),i+f=9/\vi = .int .i64 i/\vn = .int .u64 n/\n<2^(7*i)/\Upd (fun b=>b=g) w wr/\Qe wr F g bs (at_+i)/\Zm f i n (bs.drop (at_+i))=T)
 case atStart=>exact⟨0,0,rfl,rfl,rfl,by omega,Upd.refl _ _,HCU.out,HT.out.symm⟩
 case round =>
   obtain⟨i,n,hif,rfl,rfl,hn,hu,hcu,ht⟩:=hrel;have HU:=hd_ hu;have HC:=hd_ hcu;have hbc:=HBC.out.upd hu hpg;have hc:=hbc.cell0;have HB:=hd_ hbc;clear hu hcu hbc;have hw7:IntKind.i64.wrap (7*(i:Int))=7*i:=IntWalk.i64_in _ (by omega);(have hw8:((7:Int)*(i:Int)).toNat=7*i:=by omega);(have hw9:(0:Int)<=7*(i:Int):=by omega);have hw10:IntKind.i64.wrap ((i:Int)+1)=i+1:=IntWalk.i64_in _ (by omega);by_cases hi:i<9
   . obtain⟨f,rfl⟩:∃f,gk=f+1:=⟨gk-1,by omega⟩
     (have hiI:(i:Int)<9:=by omega);by_cases hk:at_+i<bs.length
     . obtain⟨x,hx⟩:∃x,x=bs[at_+i]:=⟨_,rfl⟩
       (have hx2:bs[at_+i]?.getD 0=x:=by rw [List.getElem?_eq_getElem hk,hx];rfl);(have hx3:x<256:=by rw [hx];exact HLT.out _ (List.getElem_mem hk));rw [List.drop_eq_getElem_cons hk,<-hx]at ht;have hcall:=VM F g bs (at_+i) wr HC.out hk hF;rw [hx2]at hcall;have HCALL:=hd_ hcall;have hand:=Q3I x hx3;have hor:=Q3f n (x%128) i hn (by omega) hi;have hpl:=Q3J n (x%128) i hn (by omega);simp only [Zm]at ht;(have hy:x%128<128:=by omega);generalize x%128=y at *;(have hcy:IntKind.u64.wrap (y:Int)=y:=by rw [IntKind.wrap_u64];omega);generalize n+y*2^(7*i)=m at *;have HPL:=hd_ hpl;clear hcall hx hx2 hpl hn;(have hxI:(x:Int)<256:=by omega);by_cases h1:128<=x
       . rw [if_pos h1]at ht
         have HTT:=hd_ ht;clear ht;(have h1I:(128:Int)<=x:=by omega);go_wp2_with fail;refine HCALL.out.mono ?_;rintro e w1 ⟨rfl,u1,c1⟩;have U1:=hd_ u1;have C1:=hd_ c1;clear u1 c1;go_wp2_with fail;go_roundg f
         case measure=>omega
         case rel =>
           refine⟨i+1,m,by omega,by go_num,rfl,HPL.out,HU.out.trans' U1.out,?_,?_⟩
           . have:=C1.out
             rwa [Nat.add_assoc]at this
           have:=HTT.out
           rwa [Nat.add_assoc]at this
       rw [if_neg h1]at ht;(have h1I:(x:Int)<128:=by omega);by_cases h2:x=0/\0<i
       . rw [if_pos h2]at ht
         (have h2a:((x:Int) == 0)=true:=by simpa using h2.1);(have h2b:(0:Int)<i:=by omega);subst ht;clear h2;go_wp2_with fail;refine HCALL.out.mono ?_;rintro e w1 ⟨rfl,u1,c1⟩;have U1:=hd_ u1;have C1:=hd_ c1;clear u1 c1;go_wp2_with fail;(try go_ret2);exact hR.out _ _ ⟨rfl,HU.out.trans' U1.out,_,C1.out,fun h=>absurd h (by decide)⟩
       rw [if_neg h2]at ht;by_cases h3:4611686018427387903<m
       . rw [if_pos h3]at ht
         (have h3I:(4611686018427387903:Int)<m:=by omega);subst ht;by_cases hx0:x=0
         . have h2a:((x:Int) == 0)=true:=by simpa using hx0
           (have h2b:(i:Int)<=0:=by omega);clear hx0 h2;go_wp2_with fail;refine HCALL.out.mono ?_;rintro e w1 ⟨rfl,u1,c1⟩;have U1:=hd_ u1;have C1:=hd_ c1;clear u1 c1;go_wp2_with fail;(try go_ret2);exact hR.out _ _ ⟨rfl,HU.out.trans' U1.out,_,C1.out,fun h=>absurd h (by decide)⟩
         (have h2a:((x:Int) == 0)=false:=by simp;omega);go_wp2_with fail;refine HCALL.out.mono ?_;rintro e w1 ⟨rfl,u1,c1⟩;have U1:=hd_ u1;have C1:=hd_ c1;clear u1 c1;go_wp2_with fail;(try go_ret2);exact hR.out _ _ ⟨rfl,HU.out.trans' U1.out,_,C1.out,fun h=>absurd h (by decide)⟩
       rw [if_neg h3]at ht;(have h3I:(m:Int)<=4611686018427387903:=by omega);subst ht;by_cases hx0:x=0
       . have h2a:((x:Int) == 0)=true:=by simpa using hx0
         (have h2b:(i:Int)<=0:=by omega);clear hx0 h2;go_wp2_with fail;refine HCALL.out.mono ?_;rintro e w1 ⟨rfl,u1,c1⟩;have U1:=hd_ u1;have C1:=hd_ c1;clear u1 c1;go_wp2_with fail;(try go_ret2);exact hR.out _ _ ⟨rfl,HU.out.trans' U1.out,_,C1.out,fun _=>by omega⟩
       (have h2a:((x:Int) == 0)=false:=by simp;omega);go_wp2_with fail;refine HCALL.out.mono ?_;rintro e w1 ⟨rfl,u1,c1⟩;have U1:=hd_ u1;have C1:=hd_ c1;clear u1 c1;go_wp2_with fail;(try go_ret2);exact hR.out _ _ ⟨rfl,HU.out.trans' U1.out,_,C1.out,fun _=>by omega⟩
     have hcall:=Vg F g bs (at_+i) wr HC.out (by obtain⟨A,c,_,_,_,h,_⟩:=HC.out;omega) hF;rw [List.drop_of_length_le (by omega)]at ht;simp only [Zm]at ht;subst ht;have HCALL:=hd_ hcall;clear hcall;go_wp2_with fail;refine HCALL.out.mono ?_;rintro e w1 ⟨rfl,u1,c1⟩;have U1:=hd_ u1;have C1:=hd_ c1;clear u1 c1;go_wp2_with fail;(try go_ret2);exact hR.out _ _ ⟨rfl,HU.out.trans' U1.out,_,C1.out,fun h=>absurd h (by decide)⟩
   (have hi9:i=9:=by omega);(have hg0:gk=0:=by omega);subst hi9 hg0;simp only [Zm]at ht;subst ht;go_wp2_with fail;(try go_ret2);exact hR.out _ _ ⟨rfl,HU.out,_,HC.out,fun h=>absurd h (by decide)⟩
theorem Q3h (f:Nat):∀(i n:Nat) (l:List Nat),(Zm f i n l).2.2≠0->(Zm f i n l).1=0:=by
 induction f with
 | zero=>intro i n l _;rfl
 | succ f ih =>
   intro i n l h;rcases l with _|⟨x,xs⟩
   . rfl
   simp only [Zm]at h ⊢;split
   . next h1=>rw [if_pos h1]at h;exact ih _ _ _ h
   next h1 =>
   rw [if_neg h1]at h;split
   . rfl
   next h2 =>
   rw [if_neg h2]at h;split
   . rfl
   next h3=>rw [if_neg h3]at h;exact absurd rfl h
theorem Q3i {l:List Nat} (h:(QH l).2.2≠0):(QH l).1=0:=Q3h _ _ _ _ h
theorem Q0P (pe pf px pc:Addr) (u:FrameMode) (w:World) (he:w.cell? pe=some (.int .i64 0)) :
   CallsD Tryz.prog 216 #[.pointer (some pe),.pointer (some pf),.pointer (some px),.pointer (some pc)] u w fun e u' w'=>u'=u/\(e = .returned (.tuple #[])/\w'=w):=by
 go_enter_d Tryz.func216,Tryz.ntmps216;go_wp2;go_end0;exact⟨rfl,rfl⟩
theorem Q0Q (g H:Nat) (at_ a':Nat) (x er:Int) (her:(er == 0)=false) (A:Option Addr) (n c:Nat) (u:FrameMode) (w:World)
   (b0:Blk w H 46 #[.pointer (some ⟨g,0,none⟩)]) (b1:Blk w (H+1) 80 #[.int .u64 x]) (b2:Blk w (H+1+1) 24 #[.int .i64 er]) (b3:Blk w (H+1+1+1) 3 #[.int .i64 at_])
   (bg:Blk w g 96 #[.slice A n c,.int .i64 a']) (hg:g<H) :
   CallsD Tryz.prog 216 #[.pointer (some ⟨H+1+1,0,none⟩),.pointer (some ⟨H+1+1+1,0,none⟩),.pointer (some ⟨H+1,0,none⟩),.pointer (some ⟨H,0,none⟩)] u w fun e u' w'=>u'=u/\(e = .returned (.tuple #[]) /\
     w'=(w.setCell ⟨H+1,0,none⟩ (.int .u64 0)).setCell ⟨g,1,none⟩ (.int .i64 at_)):=by
 have c0:=b0.cell0;have c1:=b1.cell0;have c2:=b2.cell0;have c3:=b3.cell0;have z1:=b1.frozen 0;have zg:=bg.frozen 1;have g1:=bg.cell 1;simp at g1;(have her2:¬er=0:=by simpa using her);go_enter_d Tryz.func216,Tryz.ntmps216;go_wp2;go_end0;exact⟨rfl,rfl⟩
theorem Q2h (F:Nat->Prop) (g pc:Nat) (bs:List Nat) (at_:Nat) (w:World) (hcu:Qe w F g bs at_)
   (bc:Blk w pc 46 #[.pointer (some ⟨g,0,none⟩)]) (hF:∀b,F b->b≠g) :
   Calls Tryz.prog 167 #[.pointer (some ⟨g,0,none⟩),.func (.func 168) #[] #[.pointer (some ⟨pc,0,none⟩)]] w fun e w' =>
     e = .returned (.tuple #[.int .u64 ((QH (bs.drop at_)).1:Nat),.int .i64 (QH (bs.drop at_)).2.2])/\Upd (fun b=>b=g) w w' /\
       Qe w' F g bs (if(QH (bs.drop at_)).2.2=0 then at_+(QH (bs.drop at_)).2.1 else at_):=by
 have hmf:∀(fn:Fn) (first cap:Array Value) (w:World),(Instr.makeFunc fn first cap).run Tryz.prog w = .ok (.func fn first cap) w:=fun _ _ _ _=>rfl;have hg:=hcu.lt
 have hat:w.cell? ⟨g,1,none⟩=some (.int .i64 at_):=by
   obtain⟨A,c,hb,_⟩:=hcu;simpa using hb.cell 1
 (have hat9:at_<=bs.length:=by obtain⟨A,c,_,_,_,h,_⟩:=hcu;exact h);have HAT9:=hd_ hat9;have HV0:=hd_ (fun h:(QH (bs.drop at_)).2.2≠0=>Q3i h);have hb1':=fun W (hW:Q0 w W)=>Q3g (fun b=>F b/\b<w.heap.size) g pc bs at_ W (hcu.both.fresh hW) (bc.fresh hW) (fun b hb=>hF b hb.1);have HB1:=hd_ hb1';have HCU:=hd_ hcu;have HBC:=hd_ bc;clear hcu bc hb1' hat9;generalize QH (bs.drop at_)=V at *;obtain⟨v,k,er⟩:=V;simp only at HB1 HV0 ⊢;have HV1:=hd_ (fun h:er≠0=>(by rw [HV0.out h];rfl:((v:Nat):Int)=0));clear HV0;generalize ((v:Nat):Int)=v at *;(have hg1:g<w.heap.size+1:=by omega);(have hg2:g<w.heap.size+1+1:=by omega);(have hg3:g<w.heap.size+1+1+1:=by omega);refine Qg fun R hR=>?_;go_enter_defers Tryz.func167,Tryz.ntmps167;go_wp2_with fail;obtain⟨H,hH⟩:=nm_ (w.heap.size);rw [<-hH]at hg hg1 hg2 hg3;simp only [<-hH];obtain⟨W0,hW0⟩:=nm_ ((((w.alloc (.cells #[.pointer (some ⟨g,0,none⟩)] 46)).alloc (.cells #[.int .u64 0] 80)).alloc (.cells #[.int .i64 0] 24)).alloc (.cells #[.int .i64 at_] 3));rw [<-hW0];(have f0:Q0 w W0:=by rw [hW0];exact((((Upd.refl _ w).alloc _).alloc _).alloc _).alloc _);(have k0:Blk W0 H 46 #[.pointer (some ⟨g,0,none⟩)]:=by rw [hW0];exact(((Qc (by simp [hH]) _ _).alloc _).alloc _).alloc _);(have k1:Blk W0 (H+1) 80 #[.int .u64 0]:=by rw [hW0];exact((Qc (by simp [hH]) _ _).alloc _).alloc _);(have k2:Blk W0 (H+1+1) 24 #[.int .i64 0]:=by rw [hW0];exact(Qc (by simp [hH]) _ _).alloc _);(have k3:Blk W0 (H+1+1+1) 3 #[.int .i64 at_]:=by rw [hW0];exact Qc (by simp [hH]) _ _);clear hW0;have HH:=hd_ hH;clear hH;refine(HB1.out W0 f0).mono ?_;rintro e w1 ⟨rfl,u1,a',c1,ha'⟩;have j0:=k0.upd u1 (by omega);have j1:=k1.upd u1 (by omega);have j2:=k2.upd u1 (by omega);have j3:=k3.upd u1 (by omega);have uu:Upd (fun b=>b=g) w w1:=(f0.mono (fun _ _ h=>h.elim)).trans' u1;have d1:=j1.cell0;have d2:=j2.cell0;have z1:=j1.frozen 0;have z2:=j2.frozen 0;have J0:=hd_ j0;have J1:=hd_ j1;have J2:=hd_ j2;have J3:=hd_ j3;have HC1:=hd_ c1;have HA':=hd_ ha';have UU:=hd_ uu;clear j0 j1 j2 j3 k0 k1 k2 k3 c1 ha' u1 uu;go_wp2;have L0:=(J0.out.far (p:=⟨H+1,0,none⟩) (by simp) (.int .u64 v)).far (p:=⟨H+1+1,0,none⟩) (by simp;omega) (.int .i64 er);have L1:=(J1.out.set_ 0 (.int .u64 v)).far (p:=⟨H+1+1,0,none⟩) (by simp) (.int .i64 er);have L2:=(J2.out.far (p:=⟨H+1,0,none⟩) (by simp) (.int .u64 v)).set_ 0 (.int .i64 er);have L3:=(J3.out.far (p:=⟨H+1,0,none⟩) (by simp;omega) (.int .u64 v)).far (p:=⟨H+1+1,0,none⟩) (by simp) (.int .i64 er);have hd2:=L2.cell0;have hd1:=L1.cell0;have u3:Upd (fun b=>b=g) w ((w1.setCell ⟨H+1,0,none⟩ (.int .u64 v)).setCell ⟨H+1+1,0,none⟩ (.int .i64 er)):=(UU.out.setCell (p:=⟨H+1,0,none⟩) (fun h=>by have:=HH.out;simp at h;omega) _).setCell (p:=⟨H+1+1,0,none⟩) (fun h=>by have:=HH.out;simp at h;omega) _
 have m1:=HC1.out.upd (S:=fun b=>b=H+1) ((Upd.refl (fun b=>b=H+1) _).setCell (p:=⟨H+1,0,none⟩) (fun _=>rfl) (.int .u64 v)) (by omega) (fun b _ hb e=>by have:=hb.2;have:=HH.out;omega);have m2:=m1.upd (S:=fun b=>b=H+1+1) ((Upd.refl (fun b=>b=H+1+1) _).setCell (p:=⟨H+1+1,0,none⟩) (fun _=>rfl) (.int .i64 er)) (by omega) (fun b _ hb e=>by have:=hb.2;have:=HH.out;omega);change Leaves _ _ _ _ _ _ _;refine leaves_cons (f:=216) (args:=#[.pointer (some ⟨H+1+1,0,none⟩),.pointer (some ⟨H+1+1+1,0,none⟩),.pointer (some ⟨H+1,0,none⟩),.pointer (some ⟨H,0,none⟩)]) (by simp) (by simp [go_sem]) ?_;by_cases her:er=0
 . subst her
   refine(Q0P _ _ _ _ .returning _ hd2).mono ?_;rintro e u' w'' ⟨rfl,rfl,rfl⟩;refine⟨.tuple #[.int .u64 v,.int .i64 0],?_,hR.out _ _ ⟨rfl,u3,?_⟩⟩
   . simp [results,Tryz.results167,go_sem,hd1,hd2]
   rw [if_pos rfl,<-HA'.out rfl];exact m2.mono fun b hb=>hb.1
 obtain⟨A,c,hb,hr,hq1,hq2,hq3,hq4⟩:=m2;have hv:=HV1.out her;subst hv;refine(Q0Q g H at_ a' 0 er (by simpa using her) A bs.length c .returning _ (by simpa using L0) (by simpa using L1) (by simpa using L2) (by simpa using L3) hb hg).mono ?_;rintro e u' w'' ⟨rfl,rfl,rfl⟩;refine⟨.tuple #[.int .u64 0,.int .i64 er],?_,hR.out _ _ ⟨rfl,?_,?_⟩⟩
 . have M1:=((L1.set_ 0 (.int .u64 0)).far (p:=⟨g,1,none⟩) (by simp;omega) (.int .i64 at_))
   have M2:=((L2.far (p:=⟨H+1,0,none⟩) (by simp) (.int .u64 0)).far (p:=⟨g,1,none⟩) (by simp;omega) (.int .i64 at_));have e1:=M1.cell0;have e2:=M2.cell0;simp [results,Tryz.results167,go_sem,e1,e2]
 . exact(u3.setCell (p:=⟨H+1,0,none⟩) (fun h=>by have:=HH.out;simp at h;omega) _).setCell (p:=⟨g,1,none⟩) (fun _=>rfl) _
 rw [if_neg her];have hb2:=(hb.far (p:=⟨H+1,0,none⟩) (by simp;omega) (.int .u64 0)).set_ 1 (.int .i64 (at_:Nat))
 have u5:Upd (fun b=>b=g\/b=H+1) ((w1.setCell ⟨H+1,0,none⟩ (.int .u64 0)).setCell ⟨H+1+1,0,none⟩ (.int .i64 er)) ((((w1.setCell ⟨H+1,0,none⟩ (.int .u64 0)).setCell ⟨H+1+1,0,none⟩ (.int .i64 er)).setCell ⟨H+1,0,none⟩ (.int .u64 0)).setCell ⟨g,1,none⟩ (.int .i64 at_)) :=
   ((Upd.refl (fun b=>b=g\/b=H+1) _).setCell (p:=⟨H+1,0,none⟩) (fun _=>.inr rfl) _).setCell (p:=⟨g,1,none⟩) (fun _=>.inl rfl) _
 refine⟨A,c,by simpa using hb2,(hr.upd u5 (fun b _ hb e=>?_)).mono fun b hb=>hb.1,hq1,HAT9.out,hq3,hq4⟩;rcases e with e|e
 . exact hF b hb.1 e
 have:=hb.2;have:=HH.out;omega
theorem Q2r (F:Nat->Prop) (g:Nat) (bs:List Nat) (at_:Nat) (w:World) (hcu:Qe w F g bs at_) (hF:∀b,F b->b≠g) :
   Calls Tryz.prog 122 #[.pointer (some ⟨g,0,none⟩)] w fun e w' =>
     e = .returned (.tuple #[.int .u64 ((QH (bs.drop at_)).1:Nat),.int .i64 (QH (bs.drop at_)).2.2])/\Upd (fun b=>b=g) w w' /\
       Qe w' F g bs (if(QH (bs.drop at_)).2.2=0 then at_+(QH (bs.drop at_)).2.1 else at_):=by
 have hmf:∀(fn:Fn) (first cap:Array Value) (w:World),(Instr.makeFunc fn first cap).run Tryz.prog w = .ok (.func fn first cap) w:=fun _ _ _ _=>rfl;obtain⟨H,hH⟩:=nm_ (w.heap.size);have hr:=Q2h F g H bs at_ (w.alloc (.cells #[.pointer (some ⟨g,0,none⟩)] 46)) (hcu.fresh ((Upd.refl _ w).alloc _)) (Qc hH _ _) hF;rw [hH]at hr;have HR:=hd_ hr;clear hr hcu hH H;generalize (if(QH (bs.drop at_)).2.2=0 then at_+(QH (bs.drop at_)).2.1 else at_)=P at *;generalize QH (bs.drop at_)=V at *;refine Qg fun R hR=>?_;go_enter Tryz.func122,Tryz.ntmps122;go_wp2_with fail;refine HR.out.mono ?_;rintro e w1 ⟨rfl,u1,c1⟩;go_wp2;(try go_ret2);exact hR.out _ _ ⟨rfl,((Upd.refl (fun b=>b=g) w).alloc _).trans' u1,c1⟩
theorem XB (g H:Nat) (at_ a':Nat) (x:Value) (er:Int) (her:(er == 0)=false) (A:Option Addr) (n c:Nat) (u:FrameMode) (w:World)
   (b0:Blk w H 46 #[.pointer (some ⟨g,0,none⟩)]) (b1:Blk w (H+1) 22 #[x]) (b2:Blk w (H+1+1) 24 #[.int .i64 er]) (b3:Blk w (H+1+1+1) 3 #[.int .i64 at_])
   (bg:Blk w g 96 #[.slice A n c,.int .i64 a']) (hg:g<H) :
   CallsD Tryz.prog 118 #[.pointer (some ⟨H+1+1,0,none⟩),.pointer (some ⟨H+1+1+1,0,none⟩),.pointer (some ⟨H+1,0,none⟩),.pointer (some ⟨H,0,none⟩)] u w fun e u' w'=>u'=u/\(e = .returned (.tuple #[]) /\
     w'=(w.setCell ⟨H+1,0,none⟩ (.slice none 0 0)).setCell ⟨g,1,none⟩ (.int .i64 at_)):=by
 have c0:=b0.cell0;have c1:=b1.cell0;have c2:=b2.cell0;have c3:=b3.cell0;have z1:=b1.frozen 0;have zg:=bg.frozen 1;have g1:=bg.cell 1;simp at g1;go_enter_d Tryz.func118,Tryz.ntmps118;go_wp2;go_end0;exact⟨rfl,rfl⟩
theorem Q1k (F:Nat->Prop) (g:Nat) (bs:List Nat) (at_ cf:Nat) (caps:Array Value) (er:Int) (w:World) (hcu:Qe w F g bs at_) (hcf:∀args W,(callFunc cf args).run Tryz.prog W = .ok (.enter cf args) W) (hF:∀b,F b->b≠g) (her:er≠0)
   (HC:∀W,Q0 w W->Qe W (fun b=>F b/\b<w.heap.size) g bs at_->Calls Tryz.prog cf caps W fun e w'=>∃A1 n1 c1,∃a':Nat,e = .returned (.tuple #[.slice A1 n1 c1,.int .i64 er])/\Upd (fun b=>b=g) W w'/\Qe w' (fun b=>F b/\b<w.heap.size) g bs a') :
   Calls Tryz.prog 62 #[.pointer (some ⟨g,0,none⟩),.func (.func cf) #[] caps] w fun e w'=>e = .returned (.tuple #[.slice none 0 0,.int .i64 er])/\Upd (fun b=>b=g) w w'/\Qe w' F g bs at_:=by
 (have herb:(er == 0)=false:=by simpa using her);have hmf:∀(fn:Fn) (first cap:Array Value) (w:World),(Instr.makeFunc fn first cap).run Tryz.prog w = .ok (.func fn first cap) w:=fun _ _ _ _=>rfl;have hg:=hcu.lt
 have hat:w.cell? ⟨g,1,none⟩=some (.int .i64 at_):=by
   obtain⟨A,c,hb,_⟩:=hcu;simpa using hb.cell 1
 have HCU:=hd_ hcu;have HCL:=hd_ HC;clear hcu HC;(have hg1:g<w.heap.size+1:=by omega);(have hg2:g<w.heap.size+1+1:=by omega);(have hg3:g<w.heap.size+1+1+1:=by omega);refine Qg fun R hR=>?_;go_enter_defers Tryz.func62,Tryz.ntmps62;go_wp2_with fail;obtain⟨H,hH⟩:=nm_ (w.heap.size);rw [<-hH]at hg hg1 hg2 hg3;simp only [<-hH];obtain⟨W0,hW0⟩:=nm_ ((((w.alloc (.cells #[.pointer (some ⟨g,0,none⟩)] 46)).alloc (.cells #[.slice none 0 0] 22)).alloc (.cells #[.int .i64 0] 24)).alloc (.cells #[.int .i64 at_] 3));rw [<-hW0];(have f0:Q0 w W0:=by rw [hW0];exact((((Upd.refl _ w).alloc _).alloc _).alloc _).alloc _);(have k0:Blk W0 H 46 #[.pointer (some ⟨g,0,none⟩)]:=by rw [hW0];exact(((Qc (by simp [hH]) _ _).alloc _).alloc _).alloc _);(have k1:Blk W0 (H+1) 22 #[.slice none 0 0]:=by rw [hW0];exact((Qc (by simp [hH]) _ _).alloc _).alloc _);(have k2:Blk W0 (H+1+1) 24 #[.int .i64 0]:=by rw [hW0];exact(Qc (by simp [hH]) _ _).alloc _);(have k3:Blk W0 (H+1+1+1) 3 #[.int .i64 at_]:=by rw [hW0];exact Qc (by simp [hH]) _ _);(have hsz:H+4<=W0.heap.size:=by rw [hW0];simp [hH]);clear hW0;have HH:=hd_ hH;clear hH;refine(HCL.out W0 f0 (HCU.out.both.fresh f0)).mono ?_;rintro e w1 ⟨A1,n1,c1,a',rfl,u1,cu1⟩;have UU:=hd_ ((f0.mono (T:=fun b=>b=g) (fun _ _ h=>h.elim)).trans' u1);have CU1:=hd_ cu1;have j0:=k0.upd u1 (by omega);have j1:=k1.upd u1 (by omega);have j2:=k2.upd u1 (by omega);have j3:=k3.upd u1 (by omega);have d1:=j1.cell0;have d2:=j2.cell0;have z1:=j1.frozen 0;have z2:=j2.frozen 0;have J0:=hd_ j0;have J1:=hd_ j1;have J2:=hd_ j2;have J3:=hd_ j3;have HER:=hd_ herb;clear j0 j1 j2 j3 k0 k1 k2 k3 HCL u1 f0 herb cu1;go_wp2;have L0:=(J0.out.far (p:=⟨H+1,0,none⟩) (by simp) (.slice A1 n1 c1)).far (p:=⟨H+1+1,0,none⟩) (by simp;omega) (.int .i64 er);have L1:=(J1.out.set_ 0 (.slice A1 n1 c1)).far (p:=⟨H+1+1,0,none⟩) (by simp) (.int .i64 er);have L2:=(J2.out.far (p:=⟨H+1,0,none⟩) (by simp) (.slice A1 n1 c1)).set_ 0 (.int .i64 er);have L3:=(J3.out.far (p:=⟨H+1,0,none⟩) (by simp;omega) (.slice A1 n1 c1)).far (p:=⟨H+1+1,0,none⟩) (by simp) (.int .i64 er)
 have us:Upd (fun b=>b=H+1\/b=H+1+1) w1 ((w1.setCell ⟨H+1,0,none⟩ (.slice A1 n1 c1)).setCell ⟨H+1+1,0,none⟩ (.int .i64 er)) :=
   ((Upd.refl (fun b=>b=H+1\/b=H+1+1) w1).setCell (p:=⟨H+1,0,none⟩) (fun _=>.inl rfl) _).setCell (p:=⟨H+1+1,0,none⟩) (fun _=>.inr rfl) _
 have u3:=UU.out.trans us (fun b hb h=>by have:=HH.out;omega);change Leaves _ _ _ _ _ _ _;refine leaves_cons (f:=118) (args:=#[.pointer (some ⟨H+1+1,0,none⟩),.pointer (some ⟨H+1+1+1,0,none⟩),.pointer (some ⟨H+1,0,none⟩),.pointer (some ⟨H,0,none⟩)]) (by simp) (by simp [go_sem]) ?_;have c3:=CU1.out.upd us (by have:=HH.out;omega) (fun b hb hb2 hb3=>by have:=hb2.2;have:=HH.out;omega);obtain⟨A,c,hb,hr,hq⟩:=c3;refine(XB g H at_ a' (.slice A1 n1 c1) er HER.out A bs.length c .returning _ (by simpa using L0) (by simpa using L1) (by simpa using L2) (by simpa using L3) hb hg).mono ?_;rintro e u' w'' ⟨rfl,rfl,rfl⟩;refine⟨.tuple #[.slice none 0 0,.int .i64 er],?_,hR.out _ _ ⟨rfl,?_,?_⟩⟩
 . have M1:=((L1.set_ 0 (.slice none 0 0)).far (p:=⟨g,1,none⟩) (by simp;omega) (.int .i64 at_))
   have M2:=((L2.far (p:=⟨H+1,0,none⟩) (by simp) (.slice none 0 0)).far (p:=⟨g,1,none⟩) (by simp;omega) (.int .i64 at_));have q1:=M1.cell0;have q2:=M2.cell0;simp [results,Tryz.results62,go_sem,q1,q2]
 . exact(u3.setCell (p:=⟨H+1,0,none⟩) (fun h=>by have:=HH.out;simp at h;omega) (.slice none 0 0)).setCell (p:=⟨g,1,none⟩) (fun _=>rfl) (.int .i64 at_)
 have c4:Qe _ (fun b=>F b/\b<w.heap.size) g bs a':=⟨A,c,hb,hr,hq⟩;have c5:=c4.upd (S:=fun b=>b=H+1) ((Upd.refl (fun b=>b=H+1) _).setCell (p:=⟨H+1,0,none⟩) (fun _=>rfl) (.slice none 0 0)) (by omega) (fun b _ hb e=>by have:=hb.2;have:=HH.out;omega);obtain⟨A,c,hb,hr,hq⟩:=c5;(have hle:at_<=bs.length:=by obtain⟨_,_,_,_,_,h,_⟩:=HCU.out;exact h);refine⟨A,c,?_,?_,hq.1,hle,hq.2.2⟩
 . have:=hb.set_ 1 (.int .i64 at_)
   simpa using this
 exact(hr.upd (S:=fun b=>b=g) ((Upd.refl (fun b=>b=g) _).setCell (p:=⟨g,1,none⟩) (fun _=>rfl) (.int .i64 at_)) (fun b _ hb e=>hF b hb.1 e)).mono fun b hb=>hb.1
theorem XC (pe pf px pc:Addr) (u:FrameMode) (w:World) (he:w.cell? pe=some (.int .i64 0)) :
   CallsD Tryz.prog 261 #[.pointer (some pe),.pointer (some pf),.pointer (some px),.pointer (some pc)] u w fun e u' w'=>u'=u/\(e = .returned (.tuple #[])/\w'=w):=by
 go_enter_d Tryz.func261,Tryz.ntmps261;go_wp2;go_end0;exact⟨rfl,rfl⟩
theorem XD (g H:Nat) (at_ a':Nat) (x:Value) (er:Int) (her:(er == 0)=false) (A:Option Addr) (n c:Nat) (u:FrameMode) (w:World)
   (b0:Blk w H 46 #[.pointer (some ⟨g,0,none⟩)]) (b1:Blk w (H+1) 46 #[x]) (b2:Blk w (H+1+1) 24 #[.int .i64 er]) (b3:Blk w (H+1+1+1) 3 #[.int .i64 at_])
   (bg:Blk w g 96 #[.slice A n c,.int .i64 a']) (hg:g<H) :
   CallsD Tryz.prog 261 #[.pointer (some ⟨H+1+1,0,none⟩),.pointer (some ⟨H+1+1+1,0,none⟩),.pointer (some ⟨H+1,0,none⟩),.pointer (some ⟨H,0,none⟩)] u w fun e u' w'=>u'=u/\(e = .returned (.tuple #[]) /\
     w'=(w.setCell ⟨H+1,0,none⟩ (.pointer none)).setCell ⟨g,1,none⟩ (.int .i64 at_)):=by
 have c0:=b0.cell0;have c1:=b1.cell0;have c2:=b2.cell0;have c3:=b3.cell0;have z1:=b1.frozen 0;have zg:=bg.frozen 1;have g1:=bg.cell 1;simp at g1;go_enter_d Tryz.func261,Tryz.ntmps261;go_wp2;go_end0;exact⟨rfl,rfl⟩
theorem Q1l (F:Nat->Prop) (g:Nat) (bs:List Nat) (at_ cf:Nat) (caps:Array Value) (w:World) (hcu:Qe w F g bs at_) (hcf:∀args W,(callFunc cf args).run Tryz.prog W = .ok (.enter cf args) W) (Q:Value->World->World->Prop)
   (HC:∀W,Q0 w W->w.heap.size+4<=W.heap.size->Calls Tryz.prog cf caps W fun e w'=>∃p1,e = .returned (.tuple #[.pointer p1,.int .i64 0])/\Upd (fun b=>b=g) W w'/\Q (.pointer p1) W w') :
   Calls Tryz.prog 219 #[.pointer (some ⟨g,0,none⟩),.func (.func cf) #[] caps] w fun e w'=>∃p1,∃W w1,e = .returned (.tuple #[.pointer p1,.int .i64 0])/\Q (.pointer p1) W w1/\Q0 w W/\w.heap.size+4<=W.heap.size/\Upd (fun b=>b=w.heap.size+1\/b=w.heap.size+2) w1 w'/\Upd (fun b=>b=g) w w':=by
 have hmf:∀(fn:Fn) (first cap:Array Value) (w:World),(Instr.makeFunc fn first cap).run Tryz.prog w = .ok (.func fn first cap) w:=fun _ _ _ _=>rfl;have hg:=hcu.lt
 have hat:w.cell? ⟨g,1,none⟩=some (.int .i64 at_):=by
   obtain⟨A,c,hb,_⟩:=hcu;simpa using hb.cell 1
 have HCU:=hd_ hcu;have HCL:=hd_ HC;clear hcu HC;(have hg1:g<w.heap.size+1:=by omega);(have hg2:g<w.heap.size+1+1:=by omega);(have hg3:g<w.heap.size+1+1+1:=by omega);refine Qg fun R hR=>?_;go_enter_defers Tryz.func219,Tryz.ntmps219;go_wp2_with fail;obtain⟨H,hH⟩:=nm_ (w.heap.size);rw [<-hH]at hg hg1 hg2 hg3;simp only [<-hH];obtain⟨W0,hW0⟩:=nm_ ((((w.alloc (.cells #[.pointer (some ⟨g,0,none⟩)] 46)).alloc (.cells #[.pointer none] 46)).alloc (.cells #[.int .i64 0] 24)).alloc (.cells #[.int .i64 at_] 3));rw [<-hW0];(have f0:Q0 w W0:=by rw [hW0];exact((((Upd.refl _ w).alloc _).alloc _).alloc _).alloc _);(have k0:Blk W0 H 46 #[.pointer (some ⟨g,0,none⟩)]:=by rw [hW0];exact(((Qc (by simp [hH]) _ _).alloc _).alloc _).alloc _);(have k1:Blk W0 (H+1) 46 #[.pointer none]:=by rw [hW0];exact((Qc (by simp [hH]) _ _).alloc _).alloc _);(have k2:Blk W0 (H+1+1) 24 #[.int .i64 0]:=by rw [hW0];exact(Qc (by simp [hH]) _ _).alloc _);(have k3:Blk W0 (H+1+1+1) 3 #[.int .i64 at_]:=by rw [hW0];exact Qc (by simp [hH]) _ _);(have hsz:H+4<=W0.heap.size:=by rw [hW0];simp [hH]);clear hW0;have HH:=hd_ hH;clear hH;refine(HCL.out W0 f0 (by have:=HH.out;omega)).mono ?_;rintro e w1 ⟨p1,rfl,u1,q1⟩;have j1:=k1.upd u1 (by omega);have j2:=k2.upd u1 (by omega);have uu:Upd (fun b=>b=g) w w1:=(f0.mono (fun _ _ h=>h.elim)).trans' u1;have d1:=j1.cell0;have d2:=j2.cell0;have z1:=j1.frozen 0;have z2:=j2.frozen 0;have J1:=hd_ j1;have J2:=hd_ j2;have HQ:=hd_ q1;have F0:=hd_ f0;have HSZ:=hd_ hsz;clear j1 j2 k0 k1 k2 k3 q1 HCL f0 hsz;go_wp2;have L1:=(J1.out.set_ 0 (.pointer p1)).far (p:=⟨H+1+1,0,none⟩) (by simp) (.int .i64 0);have L2:=(J2.out.far (p:=⟨H+1,0,none⟩) (by simp) (.pointer p1)).set_ 0 (.int .i64 0);have hd2:=L2.cell0;have hd1:=L1.cell0;change Leaves _ _ _ _ _ _ _;refine leaves_cons (f:=261) (args:=#[.pointer (some ⟨H+1+1,0,none⟩),.pointer (some ⟨H+1+1+1,0,none⟩),.pointer (some ⟨H+1,0,none⟩),.pointer (some ⟨H,0,none⟩)]) (by simp) (by simp [go_sem]) ?_;refine(XC _ _ _ _ .returning _ hd2).mono ?_;rintro e u' w'' ⟨rfl,rfl,rfl⟩
 have us:Upd (fun b=>b=w.heap.size+1\/b=w.heap.size+2) w1 ((w1.setCell ⟨H+1,0,none⟩ (.pointer p1)).setCell ⟨H+1+1,0,none⟩ (.int .i64 0)) :=
   ((Upd.refl (fun b=>b=w.heap.size+1\/b=w.heap.size+2) w1).setCell (p:=⟨H+1,0,none⟩) (fun _=>.inl (by have:=HH.out;simp;omega)) _).setCell (p:=⟨H+1+1,0,none⟩) (fun _=>.inr (by have:=HH.out;simp;omega)) _
 refine⟨.tuple #[.pointer p1,.int .i64 0],?_,hR.out _ _ ⟨_,W0,w1,rfl,HQ.out,F0.out,by have:=HH.out;have:=HSZ.out;omega,us,uu.trans us (fun b hb h=>by omega)⟩⟩;simp [results,Tryz.results219,go_sem,hd1,hd2]
theorem Q1m (F:Nat->Prop) (g:Nat) (bs:List Nat) (at_ cf:Nat) (caps:Array Value) (er:Int) (w:World) (hcu:Qe w F g bs at_) (hcf:∀args W,(callFunc cf args).run Tryz.prog W = .ok (.enter cf args) W) (hF:∀b,F b->b≠g) (her:er≠0)
   (HC:∀W,Q0 w W->Qe W (fun b=>F b/\b<w.heap.size) g bs at_->Calls Tryz.prog cf caps W fun e w'=>∃p1,∃a':Nat,e = .returned (.tuple #[.pointer p1,.int .i64 er])/\Upd (fun b=>b=g) W w'/\Qe w' (fun b=>F b/\b<w.heap.size) g bs a') :
   Calls Tryz.prog 219 #[.pointer (some ⟨g,0,none⟩),.func (.func cf) #[] caps] w fun e w'=>e = .returned (.tuple #[.pointer none,.int .i64 er])/\Upd (fun b=>b=g) w w'/\Qe w' F g bs at_:=by
 (have herb:(er == 0)=false:=by simpa using her);have hmf:∀(fn:Fn) (first cap:Array Value) (w:World),(Instr.makeFunc fn first cap).run Tryz.prog w = .ok (.func fn first cap) w:=fun _ _ _ _=>rfl;have hg:=hcu.lt
 have hat:w.cell? ⟨g,1,none⟩=some (.int .i64 at_):=by
   obtain⟨A,c,hb,_⟩:=hcu;simpa using hb.cell 1
 have HCU:=hd_ hcu;have HCL:=hd_ HC;clear hcu HC;(have hg1:g<w.heap.size+1:=by omega);(have hg2:g<w.heap.size+1+1:=by omega);(have hg3:g<w.heap.size+1+1+1:=by omega);refine Qg fun R hR=>?_;go_enter_defers Tryz.func219,Tryz.ntmps219;go_wp2_with fail;obtain⟨H,hH⟩:=nm_ (w.heap.size);rw [<-hH]at hg hg1 hg2 hg3;simp only [<-hH];obtain⟨W0,hW0⟩:=nm_ ((((w.alloc (.cells #[.pointer (some ⟨g,0,none⟩)] 46)).alloc (.cells #[.pointer none] 46)).alloc (.cells #[.int .i64 0] 24)).alloc (.cells #[.int .i64 at_] 3));rw [<-hW0];(have f0:Q0 w W0:=by rw [hW0];exact((((Upd.refl _ w).alloc _).alloc _).alloc _).alloc _);(have k0:Blk W0 H 46 #[.pointer (some ⟨g,0,none⟩)]:=by rw [hW0];exact(((Qc (by simp [hH]) _ _).alloc _).alloc _).alloc _);(have k1:Blk W0 (H+1) 46 #[.pointer none]:=by rw [hW0];exact((Qc (by simp [hH]) _ _).alloc _).alloc _);(have k2:Blk W0 (H+1+1) 24 #[.int .i64 0]:=by rw [hW0];exact(Qc (by simp [hH]) _ _).alloc _);(have k3:Blk W0 (H+1+1+1) 3 #[.int .i64 at_]:=by rw [hW0];exact Qc (by simp [hH]) _ _);(have hsz:H+4<=W0.heap.size:=by rw [hW0];simp [hH]);clear hW0;have HH:=hd_ hH;clear hH;refine(HCL.out W0 f0 (HCU.out.both.fresh f0)).mono ?_;rintro e w1 ⟨p1,a',rfl,u1,cu1⟩;have UU:=hd_ ((f0.mono (T:=fun b=>b=g) (fun _ _ h=>h.elim)).trans' u1);have CU1:=hd_ cu1;have j0:=k0.upd u1 (by omega);have j1:=k1.upd u1 (by omega);have j2:=k2.upd u1 (by omega);have j3:=k3.upd u1 (by omega);have d1:=j1.cell0;have d2:=j2.cell0;have z1:=j1.frozen 0;have z2:=j2.frozen 0;have J0:=hd_ j0;have J1:=hd_ j1;have J2:=hd_ j2;have J3:=hd_ j3;have HER:=hd_ herb;clear j0 j1 j2 j3 k0 k1 k2 k3 HCL u1 f0 herb cu1;go_wp2;have L0:=(J0.out.far (p:=⟨H+1,0,none⟩) (by simp) (.pointer p1)).far (p:=⟨H+1+1,0,none⟩) (by simp;omega) (.int .i64 er);have L1:=(J1.out.set_ 0 (.pointer p1)).far (p:=⟨H+1+1,0,none⟩) (by simp) (.int .i64 er);have L2:=(J2.out.far (p:=⟨H+1,0,none⟩) (by simp) (.pointer p1)).set_ 0 (.int .i64 er);have L3:=(J3.out.far (p:=⟨H+1,0,none⟩) (by simp;omega) (.pointer p1)).far (p:=⟨H+1+1,0,none⟩) (by simp) (.int .i64 er)
 have us:Upd (fun b=>b=H+1\/b=H+1+1) w1 ((w1.setCell ⟨H+1,0,none⟩ (.pointer p1)).setCell ⟨H+1+1,0,none⟩ (.int .i64 er)) :=
   ((Upd.refl (fun b=>b=H+1\/b=H+1+1) w1).setCell (p:=⟨H+1,0,none⟩) (fun _=>.inl rfl) _).setCell (p:=⟨H+1+1,0,none⟩) (fun _=>.inr rfl) _
 have u3:=UU.out.trans us (fun b hb h=>by have:=HH.out;omega);change Leaves _ _ _ _ _ _ _;refine leaves_cons (f:=261) (args:=#[.pointer (some ⟨H+1+1,0,none⟩),.pointer (some ⟨H+1+1+1,0,none⟩),.pointer (some ⟨H+1,0,none⟩),.pointer (some ⟨H,0,none⟩)]) (by simp) (by simp [go_sem]) ?_;have c3:=CU1.out.upd us (by have:=HH.out;omega) (fun b hb hb2 hb3=>by have:=hb2.2;have:=HH.out;omega);obtain⟨A,c,hb,hr,hq⟩:=c3;refine(XD g H at_ a' (.pointer p1) er HER.out A bs.length c .returning _ (by simpa using L0) (by simpa using L1) (by simpa using L2) (by simpa using L3) hb hg).mono ?_;rintro e u' w'' ⟨rfl,rfl,rfl⟩;refine⟨.tuple #[.pointer none,.int .i64 er],?_,hR.out _ _ ⟨rfl,?_,?_⟩⟩
 . have M1:=((L1.set_ 0 (.pointer none)).far (p:=⟨g,1,none⟩) (by simp;omega) (.int .i64 at_))
   have M2:=((L2.far (p:=⟨H+1,0,none⟩) (by simp) (.pointer none)).far (p:=⟨g,1,none⟩) (by simp;omega) (.int .i64 at_));have q1:=M1.cell0;have q2:=M2.cell0;simp [results,Tryz.results219,go_sem,q1,q2]
 . exact(u3.setCell (p:=⟨H+1,0,none⟩) (fun h=>by have:=HH.out;simp at h;omega) (.pointer none)).setCell (p:=⟨g,1,none⟩) (fun _=>rfl) (.int .i64 at_)
 have c4:Qe _ (fun b=>F b/\b<w.heap.size) g bs a':=⟨A,c,hb,hr,hq⟩;have c5:=c4.upd (S:=fun b=>b=H+1) ((Upd.refl (fun b=>b=H+1) _).setCell (p:=⟨H+1,0,none⟩) (fun _=>rfl) (.pointer none)) (by omega) (fun b _ hb e=>by have:=hb.2;have:=HH.out;omega);obtain⟨A,c,hb,hr,hq⟩:=c5;(have hle:at_<=bs.length:=by obtain⟨_,_,_,_,_,h,_⟩:=HCU.out;exact h);refine⟨A,c,?_,?_,hq.1,hle,hq.2.2⟩
 . have:=hb.set_ 1 (.int .i64 at_)
   simpa using this
 exact(hr.upd (S:=fun b=>b=g) ((Upd.refl (fun b=>b=g) _).setCell (p:=⟨g,1,none⟩) (fun _=>rfl) (.int .i64 at_)) (fun b _ hb e=>hF b hb.1 e)).mono fun b hb=>hb.1
end Go.Proofs.YtckjdhaflokcgaaGreat
