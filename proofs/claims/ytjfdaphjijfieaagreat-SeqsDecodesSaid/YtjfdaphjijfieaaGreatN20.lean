/-
  Joined texts, part 20: contracts and plain lemmas.
  Conditions: none beyond those of each theorem.
-/
import Derived.Test.YtjfdaphjijfieaaGreatN13
import Derived.Test.YtjfdaphjijfieaaGreatN18
import Derived.Laws.EntriesVeiled
import Derived.Test.YtjfdaphjijfieaaGreatN15
set_option maxHeartbeats 4000000
set_option linter.unusedVariables false
set_option linter.unusedSimpArgs false
set_option maxRecDepth 100000
universe u
namespace Go.Proofs.YtjfdaphjijfieaaGreat
open Go.RowKit
def JV (p:Int):List Int:=if p=0 then llN else if p=1 then ofN else mlN
def Jk (p:Int):Int:=if p=1 then 5 else 6
def QH (p:Int):Int:=if p=1 then 8 else 9
def JP (w w':World) (e:Ending) (lg:Int) (N:List Int) (x:Int):Prop :=
  ∃g,e = .returned (.tuple #[.agg #[.int .i64 lg,.slice (some ⟨g,0,none⟩) N.length N.length],.int .i64 x])/\Rd w' (fun b=>b=g) (some ⟨g,0,none⟩) N.length (Q1 N)/\w.heap.size<=g/\Q0 w w'
theorem Q6c (p:Int) (w:World) (h:p<0\/2<p):Calls Tryz.prog 178 #[.int .i64 p] w fun e w'=>e = .returned (.tuple #[.agg #[.nilFunc,.int .i64 0],.int .i64 2])/\Q0 w w':=by
 refine Q6 fun R hR=>?_;rcases h with h|h
 all_goals
   go_enter Tryz.func178,Tryz.ntmps178;go_wp2_with fail;exact bodyPost_ret (Q5 rfl _ _ w.heap.size _ _ _ rfl ((Blk.new w 276 #[.nilFunc,.int .i64 0]).alloc _) Tryz.underlying276 rfl (by kernel_rfl)) rfl (hR.out _ _ ⟨rfl,((Upd.refl _ _).alloc _).alloc _⟩)
theorem Q3g (p:Int) (w:World) (h:p<0\/2<p):Calls Tryz.prog 139 #[.int .i64 p] w fun e w'=>e = .returned (.tuple #[.agg #[.int .i64 0,.slice none 0 0],.int .i64 2])/\Q0 w w':=by
 obtain⟨w0,hw0⟩:=nm_ (w.alloc (.cells #[.int .i64 0,.slice none 0 0] 29));obtain⟨H,hH⟩:=nm_ (w.heap.size);(have f0:Q0 w w0:=by rw [hw0];exact(Upd.refl _ _).alloc _);have B0:=hd_ (show Blk w0 H 29 #[.int .i64 0,.slice none 0 0] by rw [hw0];exact Q2 hH _ _);have HK:=hd_ (Q6c p w0 h);have HW:=hd_ hw0;have HH:=hd_ hH;have F0:=hd_ f0;clear hw0 hH f0;refine Q6 fun R hR=>?_;go_enter Tryz.func139,Tryz.ntmps139;go_wp2_with fail;simp only [<-HH.out,<-HW.out];refine HK.out.mono ?_;rintro e w1 ⟨rfl,f1⟩;have b1:=B0.out.fresh f1;(have c0:∀o,(w1.alloc o).cell? ⟨H,0,none⟩=some (.int .i64 0):=fun o=>by simpa using(b1.alloc o).cell 0);(have c1:∀o,(w1.alloc o).cell? ⟨H,1,none⟩=some (.slice none 0 0):=fun o=>by simpa using(b1.alloc o).cell 1);have z0:∀o,(w1.alloc o).frozen? ⟨H,0,none⟩=false:=fun o=>(b1.alloc o).frozen 0;have z1:∀o,(w1.alloc o).frozen? ⟨H,1,none⟩=false:=fun o=>(b1.alloc o).frozen 1;have a0:=b1.cell 0;have a1:=b1.cell 1;have y0:=b1.frozen 0;have y1:=b1.frozen 1;have hlt:=b1.lt;simp at a0 a1;have B1:=hd_ b1;have F1:=hd_ (F0.out.trans' f1);clear b1 f1;go_wp2_with fail
 first
   | exact bodyPost_ret (Q5 rfl _ _ H _ _ _ rfl (((B1.out.set_ 0 (.int .i64 0)).set_ 1 (.slice none 0 0)).alloc _) Tryz.underlying29 rfl (by kernel_rfl)) rfl
       (hR.out _ _ ⟨rfl,(F1.out.trans (Qz w1 H _ _) (fun b hb h=>by have:=HH.out;omega)).alloc _⟩)
   | exact bodyPost_ret (Q5 rfl _ _ H _ _ _ rfl (((B1.out.alloc _).set_ 0 (.int .i64 0)).set_ 1 (.slice none 0 0)) Tryz.underlying29 rfl (by kernel_rfl)) rfl
       (hR.out _ _ ⟨rfl,(F1.out.alloc _).trans (Qz _ H _ _) (fun b hb h=>by have:=HH.out;omega)⟩)
theorem Q5c (w:World):Calls Tryz.prog 178 #[.int .i64 0] w fun e w'=>e = .returned (.tuple #[.agg #[.func (.func 208) #[] #[],.int .i64 9],.int .i64 0])/\Q0 w w':=by
 refine Q6 fun R hR=>?_;go_enter Tryz.func178,Tryz.ntmps178;go_wp2_with fail;exact bodyPost_ret (Q5 rfl _ _ w.heap.size _ _ _ rfl ((Blk.new w 276 #[.func (.func 208) #[] #[],.int .i64 9]).alloc _) Tryz.underlying276 rfl (by kernel_rfl)) rfl (hR.out _ _ ⟨rfl,((Upd.refl _ _).alloc _).alloc _⟩)
theorem Q0v (w:World):Calls Tryz.prog 139 #[.int .i64 0] w fun e w'=>JP w w' e 6 llN 0:=by
 obtain⟨w0,hw0⟩:=nm_ (w.alloc (.cells #[.int .i64 0,.slice none 0 0] 29));obtain⟨H,hH⟩:=nm_ (w.heap.size);(have f0:Q0 w w0:=by rw [hw0];exact(Upd.refl _ _).alloc _);have B0:=hd_ (show Blk w0 H 29 #[.int .i64 0,.slice none 0 0] by rw [hw0];exact Q2 hH _ _);have HK:=hd_ (Q5c w0);have HW:=hd_ hw0;have HH:=hd_ hH;have F0:=hd_ f0;clear hw0 hH f0;refine Q6 fun R hR=>?_;go_enter Tryz.func139,Tryz.ntmps139;go_wp2_with fail;simp only [<-HH.out,<-HW.out];refine HK.out.mono ?_;rintro e w1 ⟨rfl,f1⟩;have F1:=hd_ (F0.out.trans' f1);have B1:=hd_ (B0.out.fresh f1);clear f1;go_wp2_with fail;refine(Q5n _).mono ?_;rintro e w2 ⟨g,rfl,r2,hg2,f2⟩;have f12:Q0 w1 w2:=((Upd.refl _ w1).alloc _).trans' f2;have b2:=B1.out.fresh f12;have c0:=b2.cell 0;have c1:=b2.cell 1;have z0:=b2.frozen 0;have z1:=b2.frozen 1;simp at c0 c1;have B2:=hd_ b2;have F2:=hd_ (F1.out.trans' f12);(have hs:w1.heap.size<w2.heap.size:=by have:=f2.size;simp at this;omega);(have hg3:w1.heap.size<g:=by simp at hg2;omega);have hH1:H<w1.heap.size:=B1.out.lt;have R2:=hd_ r2;clear b2 f2 f12 r2;go_wp2_with fail;refine bodyPost_ret (Q5 rfl _ _ H _ _ _ rfl ((B2.out.set_ 0 (.int .i64 6)).set_ 1 (.slice (some ⟨g,0,none⟩) llN.length llN.length)) Tryz.underlying29 rfl (by kernel_rfl)) rfl ?_;refine hR.out _ _ ⟨g,by simp,R2.out.upd (Qz w2 H _ _) (fun b _ hb h=>by omega),by have:=HH.out;have:=F1.out.size;omega,F2.out.trans (Qz w2 H _ _) (fun b hb h=>by have:=HH.out;omega)⟩
theorem Q5d (w:World):Calls Tryz.prog 178 #[.int .i64 1] w fun e w'=>e = .returned (.tuple #[.agg #[.func (.func 209) #[] #[],.int .i64 8],.int .i64 0])/\Q0 w w':=by
 refine Q6 fun R hR=>?_;go_enter Tryz.func178,Tryz.ntmps178;go_wp2_with fail;exact bodyPost_ret (Q5 rfl _ _ w.heap.size _ _ _ rfl ((Blk.new w 276 #[.func (.func 209) #[] #[],.int .i64 8]).alloc _) Tryz.underlying276 rfl (by kernel_rfl)) rfl (hR.out _ _ ⟨rfl,((Upd.refl _ _).alloc _).alloc _⟩)
theorem Q0w (w:World):Calls Tryz.prog 139 #[.int .i64 1] w fun e w'=>JP w w' e 5 ofN 0:=by
 obtain⟨w0,hw0⟩:=nm_ (w.alloc (.cells #[.int .i64 0,.slice none 0 0] 29));obtain⟨H,hH⟩:=nm_ (w.heap.size);(have f0:Q0 w w0:=by rw [hw0];exact(Upd.refl _ _).alloc _);have B0:=hd_ (show Blk w0 H 29 #[.int .i64 0,.slice none 0 0] by rw [hw0];exact Q2 hH _ _);have HK:=hd_ (Q5d w0);have HW:=hd_ hw0;have HH:=hd_ hH;have F0:=hd_ f0;clear hw0 hH f0;refine Q6 fun R hR=>?_;go_enter Tryz.func139,Tryz.ntmps139;go_wp2_with fail;simp only [<-HH.out,<-HW.out];refine HK.out.mono ?_;rintro e w1 ⟨rfl,f1⟩;have F1:=hd_ (F0.out.trans' f1);have B1:=hd_ (B0.out.fresh f1);clear f1;go_wp2_with fail;refine(Q5o _).mono ?_;rintro e w2 ⟨g,rfl,r2,hg2,f2⟩;have f12:Q0 w1 w2:=((Upd.refl _ w1).alloc _).trans' f2;have b2:=B1.out.fresh f12;have c0:=b2.cell 0;have c1:=b2.cell 1;have z0:=b2.frozen 0;have z1:=b2.frozen 1;simp at c0 c1;have B2:=hd_ b2;have F2:=hd_ (F1.out.trans' f12);(have hs:w1.heap.size<w2.heap.size:=by have:=f2.size;simp at this;omega);(have hg3:w1.heap.size<g:=by simp at hg2;omega);have hH1:H<w1.heap.size:=B1.out.lt;have R2:=hd_ r2;clear b2 f2 f12 r2;go_wp2_with fail;refine bodyPost_ret (Q5 rfl _ _ H _ _ _ rfl ((B2.out.set_ 0 (.int .i64 5)).set_ 1 (.slice (some ⟨g,0,none⟩) ofN.length ofN.length)) Tryz.underlying29 rfl (by kernel_rfl)) rfl ?_;refine hR.out _ _ ⟨g,by simp,R2.out.upd (Qz w2 H _ _) (fun b _ hb h=>by omega),by have:=HH.out;have:=F1.out.size;omega,F2.out.trans (Qz w2 H _ _) (fun b hb h=>by have:=HH.out;omega)⟩
theorem Q5e (w:World):Calls Tryz.prog 178 #[.int .i64 2] w fun e w'=>e = .returned (.tuple #[.agg #[.func (.func 210) #[] #[],.int .i64 9],.int .i64 0])/\Q0 w w':=by
 refine Q6 fun R hR=>?_;go_enter Tryz.func178,Tryz.ntmps178;go_wp2_with fail;exact bodyPost_ret (Q5 rfl _ _ w.heap.size _ _ _ rfl ((Blk.new w 276 #[.func (.func 210) #[] #[],.int .i64 9]).alloc _) Tryz.underlying276 rfl (by kernel_rfl)) rfl (hR.out _ _ ⟨rfl,((Upd.refl _ _).alloc _).alloc _⟩)
theorem Q0x (w:World):Calls Tryz.prog 139 #[.int .i64 2] w fun e w'=>JP w w' e 6 mlN 0:=by
 obtain⟨w0,hw0⟩:=nm_ (w.alloc (.cells #[.int .i64 0,.slice none 0 0] 29));obtain⟨H,hH⟩:=nm_ (w.heap.size);(have f0:Q0 w w0:=by rw [hw0];exact(Upd.refl _ _).alloc _);have B0:=hd_ (show Blk w0 H 29 #[.int .i64 0,.slice none 0 0] by rw [hw0];exact Q2 hH _ _);have HK:=hd_ (Q5e w0);have HW:=hd_ hw0;have HH:=hd_ hH;have F0:=hd_ f0;clear hw0 hH f0;refine Q6 fun R hR=>?_;go_enter Tryz.func139,Tryz.ntmps139;go_wp2_with fail;simp only [<-HH.out,<-HW.out];refine HK.out.mono ?_;rintro e w1 ⟨rfl,f1⟩;have F1:=hd_ (F0.out.trans' f1);have B1:=hd_ (B0.out.fresh f1);clear f1;go_wp2_with fail;refine(Q5p _).mono ?_;rintro e w2 ⟨g,rfl,r2,hg2,f2⟩;have f12:Q0 w1 w2:=((Upd.refl _ w1).alloc _).trans' f2;have b2:=B1.out.fresh f12;have c0:=b2.cell 0;have c1:=b2.cell 1;have z0:=b2.frozen 0;have z1:=b2.frozen 1;simp at c0 c1;have B2:=hd_ b2;have F2:=hd_ (F1.out.trans' f12);(have hs:w1.heap.size<w2.heap.size:=by have:=f2.size;simp at this;omega);(have hg3:w1.heap.size<g:=by simp at hg2;omega);have hH1:H<w1.heap.size:=B1.out.lt;have R2:=hd_ r2;clear b2 f2 f12 r2;go_wp2_with fail;refine bodyPost_ret (Q5 rfl _ _ H _ _ _ rfl ((B2.out.set_ 0 (.int .i64 6)).set_ 1 (.slice (some ⟨g,0,none⟩) mlN.length mlN.length)) Tryz.underlying29 rfl (by kernel_rfl)) rfl ?_;refine hR.out _ _ ⟨g,by simp,R2.out.upd (Qz w2 H _ _) (fun b _ hb h=>by omega),by have:=HH.out;have:=F1.out.size;omega,F2.out.trans (Qz w2 H _ _) (fun b hb h=>by have:=HH.out;omega)⟩
theorem Q4d (F:Nat->Prop) (g pc:Nat) (bs:List Nat) (at_:Nat) (w:World) (hcu:Qf w F g bs at_) (hk:at_<bs.length)
   (bc:Blk w pc 35 #[.pointer (some ⟨g,0,none⟩)]) (hF:∀b,F b->b≠g) :
   Calls Tryz.prog 86 #[.pointer (some ⟨pc,0,none⟩)] w fun e w'=>e = .returned (.tuple #[.int .u8 ((bs[at_]?.getD 0:Nat):Int),.int .i64 0]) /\
     Upd (fun b=>b=g) w w'/\Qf w' F g bs (at_+1):=by
 have hl:=Zh F g bs at_ w hcu;obtain⟨A,c,hb,hr,hlt,hat,hlen,hcap⟩:=hcu;have hc:=bc.cell0;(have i1:((bs.length-at_:Nat):Int)≠0:=by omega);(have i2:(((bs.length-at_:Nat):Int) == 0)=false:=by simpa using i1);(have i4:(bs.length:Int)<=4294967296:=by omega);(have i3:(at_:Int)<bs.length:=by omega);obtain⟨b,o,hA,hb1,hb2,hb3⟩:=hr.at_ hk;obtain⟨x,hx⟩:=nm_ (bs[at_]);(have hx2:bs[at_]?.getD 0=x:=by rw [List.getElem?_eq_getElem hk,hx];rfl);rw [hx2];(have hb4:w.cell? ⟨b,o+at_,none⟩=some (.int .u8 (x:Nat)):=by rw [hb3];simp [hk,hx]);have HL:=hd_ hl;have HB:=hd_ hb;have HR:=hd_ hr;have HBC:=hd_ bc;have HB4:=hd_ hb4;have HF1:=hd_ (hF b hb1);clear hl hb hr bc hb3 hb4 hx hx2;generalize bs.length-at_=D at *;subst hA;refine Q6 fun R hR=>?_;go_enter Tryz.func86,Tryz.ntmps86;go_wp2_with fail;refine HL.out.mono ?_;rintro e w1 ⟨rfl,k,rfl⟩;have f1:Q0 w (w.drewN k):=(Upd.refl _ w).drewN k;generalize w.drewN k=W at *;have b1:=HB.out.fresh f1;have bc1:=HBC.out.fresh f1;have hcc1:=bc1.cell0;have hc1':=b1.cell 1;have hc0':=b1.cell 0;have hf1':=b1.frozen 1;simp only [List.getElem?_toArray,List.getElem?_cons_succ,List.getElem?_cons_zero]at hc1' hc0';have B1:=hd_ b1;have BC1:=hd_ bc1;clear b1 bc1;have s0:IntKind.i64.wrap ((at_:Int)+1)=at_+1:=IntWalk.i64_in _ (by omega);go_wp2_with fail;have b2:=B1.out.set_ 1 (.int .i64 ((at_:Int)+1));have u2:Upd (fun b=>b=g) w (W.setCell ⟨g,1,none⟩ (.int .i64 ((at_:Int)+1))):=((f1.mono (T:=fun b=>b=g) (fun _ _ h=>h.elim)).setCell (p:=⟨g,1,none⟩) (fun _=>rfl) _);have bc2:=BC1.out.far (p:=⟨g,1,none⟩) (BC1.out.ne_ B1.out (by decide)) (.int .i64 ((at_:Int)+1))
 have x2:(W.setCell ⟨g,1,none⟩ (.int .i64 ((at_:Int)+1))).cell? ⟨b,o+at_,none⟩=some (.int .u8 (x:Nat)):=by
   rw [<-HB4.out];exact u2.cell (p:=⟨b,o+at_,none⟩) hb2 HF1.out
 generalize (W.setCell ⟨g,1,none⟩ (.int .i64 ((at_:Int)+1)))=W2 at *;have hcc2:=bc2.cell0;have hc2:=b2.cell 1;have hc20:=b2.cell 0;simp at hc2 hc20;have B2:=hd_ b2;clear b2 bc2 hcc1 hc1' hc0' hf1' hc;(have s5:(at_:Int)+1-1=at_:=by omega);have s6:IntKind.i64.wrap (at_:Int)=at_:=IntWalk.i64_in _ (by omega);(have s7:IntKind.i64.wrap ((at_:Int)+1-1)=at_:=by rw [s5];exact s6);have hm2:=x2;go_quiet (fail);go_wp2_with fail;(try go_ret2);refine hR.out _ _ ⟨rfl,u2.drewN _,some ⟨b,o,none⟩,c,?_,?_,hlt,hk,hlen,hcap⟩
 . have:=B2.out.drewN nq
   simpa using this
 exact(HR.out.upd u2 (fun b _ hb e=>hF b hb e)).drewN _
theorem Q3h (F:Nat->Prop) (g pc:Nat) (bs:List Nat) (w:World) (hcu:Qf w F g bs bs.length)
   (bc:Blk w pc 35 #[.pointer (some ⟨g,0,none⟩)]) :
   Calls Tryz.prog 86 #[.pointer (some ⟨pc,0,none⟩)] w fun e w'=>e = .returned (.tuple #[.int .u8 0,.int .i64 3])/\∃k,w'=w.drewN k:=by
 have hl:=Zh F g bs bs.length w hcu;rw [Nat.sub_self]at hl;have hc:=bc.cell0;have HL:=hd_ hl;clear hl hcu bc;refine Q6 fun R hR=>?_;go_enter Tryz.func86,Tryz.ntmps86;go_wp2_with fail;refine HL.out.mono ?_;rintro e w1 ⟨rfl,k,rfl⟩;go_wp2_with fail;(try go_ret2);exact hR.out _ _ ⟨rfl,k,rfl⟩
theorem Q2e (pe pf px pc:Addr) (u:FrameMode) (w:World) (he:w.cell? pe=some (.int .i64 0)) :
   CallsD Tryz.prog 135 #[.pointer (some pe),.pointer (some pf),.pointer (some px),.pointer (some pc)] u w fun e u' w'=>u'=u/\(e = .returned (.tuple #[])/\w'=w):=by
 go_enter_d Tryz.func135,Tryz.ntmps135;go_wp2;go_end0;exact⟨rfl,rfl⟩
theorem Q2f (g H:Nat) (at_:Nat) (x:Int) (A:Option Addr) (n c:Nat) (u:FrameMode) (w:World)
   (b0:Blk w H 35 #[.pointer (some ⟨g,0,none⟩)]) (b1:Blk w (H+1) 5 #[.int .u8 x]) (b2:Blk w (H+1+1) 38 #[.int .i64 3]) (b3:Blk w (H+1+1+1) 3 #[.int .i64 at_])
   (bg:Blk w g 67 #[.slice A n c,.int .i64 at_]) (hg:g<H) :
   CallsD Tryz.prog 135 #[.pointer (some ⟨H+1+1,0,none⟩),.pointer (some ⟨H+1+1+1,0,none⟩),.pointer (some ⟨H+1,0,none⟩),.pointer (some ⟨H,0,none⟩)] u w fun e u' w'=>u'=u/\(e = .returned (.tuple #[]) /\
     w'=(w.setCell ⟨H+1,0,none⟩ (.int .u8 0)).setCell ⟨g,1,none⟩ (.int .i64 at_)):=by
 have c0:=b0.cell0;have c1:=b1.cell0;have c2:=b2.cell0;have c3:=b3.cell0;have z1:=b1.frozen 0;have zg:=bg.frozen 1;have g1:=bg.cell 1;simp at g1;go_enter_d Tryz.func135,Tryz.ntmps135;go_wp2;go_end0;exact⟨rfl,rfl⟩
theorem Q4e (F:Nat->Prop) (g pc:Nat) (bs:List Nat) (at_:Nat) (w:World) (hcu:Qf w F g bs at_) (hk:at_<bs.length)
   (bc:Blk w pc 35 #[.pointer (some ⟨g,0,none⟩)]) (hF:∀b,F b->b≠g) :
   Calls Tryz.prog 85 #[.pointer (some ⟨g,0,none⟩),.func (.func 86) #[] #[.pointer (some ⟨pc,0,none⟩)]] w fun e w' =>
     e = .returned (.tuple #[.int .u8 ((bs[at_]?.getD 0:Nat):Int),.int .i64 0])/\Upd (fun b=>b=g) w w'/\Qf w' F g bs (at_+1):=by
 have hmf:∀(fn:Fn) (first cap:Array Value) (w:World),(Instr.makeFunc fn first cap).run Tryz.prog w = .ok (.func fn first cap) w:=fun _ _ _ _=>rfl;have hg:=hcu.lt
 have hat:w.cell? ⟨g,1,none⟩=some (.int .i64 at_):=by
   obtain⟨A,c,hb,_⟩:=hcu;simpa using hb.cell 1
 have HCU:=hd_ hcu;have HBC:=hd_ bc;clear hcu bc;(have hg1:g<w.heap.size+1:=by omega);(have hg2:g<w.heap.size+1+1:=by omega);(have hg3:g<w.heap.size+1+1+1:=by omega);refine Q6 fun R hR=>?_;go_enter_defers Tryz.func85,Tryz.ntmps85;go_wp2_with fail;obtain⟨H,hH⟩:=nm_ (w.heap.size);rw [<-hH]at hg hg1 hg2 hg3;simp only [<-hH];obtain⟨W0,hW0⟩:=nm_ ((((w.alloc (.cells #[.pointer (some ⟨g,0,none⟩)] 35)).alloc (.cells #[.int .u8 0] 5)).alloc (.cells #[.int .i64 0] 38)).alloc (.cells #[.int .i64 at_] 3));rw [<-hW0];(have f0:Q0 w W0:=by rw [hW0];exact((((Upd.refl _ w).alloc _).alloc _).alloc _).alloc _);(have k0:Blk W0 H 35 #[.pointer (some ⟨g,0,none⟩)]:=by rw [hW0];exact(((Q2 (by simp [hH]) _ _).alloc _).alloc _).alloc _);(have k1:Blk W0 (H+1) 5 #[.int .u8 0]:=by rw [hW0];exact((Q2 (by simp [hH]) _ _).alloc _).alloc _);(have k2:Blk W0 (H+1+1) 38 #[.int .i64 0]:=by rw [hW0];exact(Q2 (by simp [hH]) _ _).alloc _);(have k3:Blk W0 (H+1+1+1) 3 #[.int .i64 at_]:=by rw [hW0];exact Q2 (by simp [hH]) _ _);clear hW0;have HH:=hd_ hH;clear hH;generalize hx:((bs[at_]?.getD 0:Nat):Int)=x at *;have hb1:=Q4d (fun b=>F b/\b<w.heap.size) g pc bs at_ W0 (HCU.out.both.fresh f0) hk (HBC.out.fresh f0) (fun b hb=>hF b hb.1);rw [hx]at hb1;clear hx;refine hb1.mono ?_;rintro e w1 ⟨rfl,u1,c1⟩;have j1:=k1.upd u1 (by omega);have j2:=k2.upd u1 (by omega);have uu:Upd (fun b=>b=g) w w1:=(f0.mono (fun _ _ h=>h.elim)).trans' u1;have d1:=j1.cell0;have d2:=j2.cell0;have z1:=j1.frozen 0;have z2:=j2.frozen 0;have J1:=hd_ j1;have J2:=hd_ j2;have HC1:=hd_ c1;clear j1 j2 k0 k1 k2 k3 c1 hb1;go_wp2;have L1:=(J1.out.set_ 0 (.int .u8 x)).far (p:=⟨H+1+1,0,none⟩) (by simp) (.int .i64 0);have L2:=(J2.out.far (p:=⟨H+1,0,none⟩) (by simp) (.int .u8 x)).set_ 0 (.int .i64 0);have hd2:=L2.cell0;have hd1:=L1.cell0;change Leaves _ _ _ _ _ _ _;refine leaves_cons (f:=135) (args:=#[.pointer (some ⟨H+1+1,0,none⟩),.pointer (some ⟨H+1+1+1,0,none⟩),.pointer (some ⟨H+1,0,none⟩),.pointer (some ⟨H,0,none⟩)]) (by simp) (by simp [go_sem]) ?_;refine(Q2e _ _ _ _ .returning _ hd2).mono ?_;rintro e u' w'' ⟨rfl,rfl,rfl⟩;refine⟨.tuple #[.int .u8 x,.int .i64 0],?_,hR.out _ _ ⟨rfl,?_,?_⟩⟩
 . simp [results,Tryz.results85,go_sem,hd1,hd2]
 . exact(uu.setCell (p:=⟨H+1,0,none⟩) (fun h=>by have:=HH.out;simp at h;omega) _).setCell (p:=⟨H+1+1,0,none⟩) (fun h=>by have:=HH.out;simp at h;omega) _
 have m1:=HC1.out.upd (S:=fun b=>b=H+1) ((Upd.refl (fun b=>b=H+1) _).setCell (p:=⟨H+1,0,none⟩) (fun _=>rfl) (.int .u8 x)) (by omega) (fun b _ hb e=>by have:=hb.2;have:=HH.out;omega);have m2:=m1.upd (S:=fun b=>b=H+1+1) ((Upd.refl (fun b=>b=H+1+1) _).setCell (p:=⟨H+1+1,0,none⟩) (fun _=>rfl) (.int .i64 0)) (by omega) (fun b _ hb e=>by have:=hb.2;have:=HH.out;omega);exact m2.mono fun b hb=>hb.1
theorem Q3i (F:Nat->Prop) (g pc:Nat) (bs:List Nat) (at_:Nat) (w:World) (hcu:Qf w F g bs at_) (hk:at_=bs.length)
   (bc:Blk w pc 35 #[.pointer (some ⟨g,0,none⟩)]) (hF:∀b,F b->b≠g) :
   Calls Tryz.prog 85 #[.pointer (some ⟨g,0,none⟩),.func (.func 86) #[] #[.pointer (some ⟨pc,0,none⟩)]] w fun e w' =>
     e = .returned (.tuple #[.int .u8 0,.int .i64 3])/\Upd (fun b=>b=g) w w'/\Qf w' F g bs at_:=by
 have hmf:∀(fn:Fn) (first cap:Array Value) (w:World),(Instr.makeFunc fn first cap).run Tryz.prog w = .ok (.func fn first cap) w:=fun _ _ _ _=>rfl;have hg:=hcu.lt
 have hat:w.cell? ⟨g,1,none⟩=some (.int .i64 at_):=by
   obtain⟨A,c,hb,_⟩:=hcu;simpa using hb.cell 1
 have HK:=hd_ hk;clear hk;have HCU:=hd_ hcu;have HBC:=hd_ bc;clear hcu bc;(have hg1:g<w.heap.size+1:=by omega);(have hg2:g<w.heap.size+1+1:=by omega);(have hg3:g<w.heap.size+1+1+1:=by omega);refine Q6 fun R hR=>?_;go_enter_defers Tryz.func85,Tryz.ntmps85;go_wp2_with fail;obtain⟨H,hH⟩:=nm_ (w.heap.size);rw [<-hH]at hg hg1 hg2 hg3;simp only [<-hH];obtain⟨W0,hW0⟩:=nm_ ((((w.alloc (.cells #[.pointer (some ⟨g,0,none⟩)] 35)).alloc (.cells #[.int .u8 0] 5)).alloc (.cells #[.int .i64 0] 38)).alloc (.cells #[.int .i64 at_] 3));rw [<-hW0];(have f0:Q0 w W0:=by rw [hW0];exact((((Upd.refl _ w).alloc _).alloc _).alloc _).alloc _);(have k0:Blk W0 H 35 #[.pointer (some ⟨g,0,none⟩)]:=by rw [hW0];exact(((Q2 (by simp [hH]) _ _).alloc _).alloc _).alloc _);(have k1:Blk W0 (H+1) 5 #[.int .u8 0]:=by rw [hW0];exact((Q2 (by simp [hH]) _ _).alloc _).alloc _);(have k2:Blk W0 (H+1+1) 38 #[.int .i64 0]:=by rw [hW0];exact(Q2 (by simp [hH]) _ _).alloc _);(have k3:Blk W0 (H+1+1+1) 3 #[.int .i64 at_]:=by rw [hW0];exact Q2 (by simp [hH]) _ _);clear hW0;have HH:=hd_ hH;clear hH;have hb1:=Q3h (fun b=>F b/\b<w.heap.size) g pc bs W0 (by rw [<-HK.out];exact HCU.out.both.fresh f0) (HBC.out.fresh f0);refine hb1.mono ?_;rintro e w1 ⟨rfl,k,rfl⟩;have f1:Q0 w (W0.drewN k):=f0.drewN k;have j0:=k0.drewN k;have j1:=k1.drewN k;have j2:=k2.drewN k;have j3:=k3.drewN k;generalize W0.drewN k=w1 at *;have d1:=j1.cell0;have d2:=j2.cell0;have z1:=j1.frozen 0;have z2:=j2.frozen 0;have J0:=hd_ j0;have J1:=hd_ j1;have J2:=hd_ j2;have J3:=hd_ j3;have F1:=hd_ f1;clear j0 j1 j2 j3 k0 k1 k2 k3 hb1 f1;go_wp2;have L0:=(J0.out.far (p:=⟨H+1,0,none⟩) (by simp) (.int .u8 0)).far (p:=⟨H+1+1,0,none⟩) (by simp;omega) (.int .i64 3);have L1:=(J1.out.set_ 0 (.int .u8 0)).far (p:=⟨H+1+1,0,none⟩) (by simp) (.int .i64 3);have L2:=(J2.out.far (p:=⟨H+1,0,none⟩) (by simp) (.int .u8 0)).set_ 0 (.int .i64 3);have L3:=(J3.out.far (p:=⟨H+1,0,none⟩) (by simp;omega) (.int .u8 0)).far (p:=⟨H+1+1,0,none⟩) (by simp) (.int .i64 3)
 have u3:Upd (fun b=>w.heap.size<=b) w ((w1.setCell ⟨H+1,0,none⟩ (.int .u8 0)).setCell ⟨H+1+1,0,none⟩ (.int .i64 3)) :=
   ((F1.out.mono (T:=fun b=>w.heap.size<=b) (fun _ _ h=>h.elim)).setCell (p:=⟨H+1,0,none⟩) (fun _=>by have:=HH.out;simp;omega) _).setCell (p:=⟨H+1+1,0,none⟩) (fun _=>by have:=HH.out;simp;omega) _
 change Leaves _ _ _ _ _ _ _;refine leaves_cons (f:=135) (args:=#[.pointer (some ⟨H+1+1,0,none⟩),.pointer (some ⟨H+1+1+1,0,none⟩),.pointer (some ⟨H+1,0,none⟩),.pointer (some ⟨H,0,none⟩)]) (by simp) (by simp [go_sem]) ?_;have c3:=HCU.out.both.upd u3 (by have:=HH.out;omega) (fun b hb hb2 hb3=>by have:=hb2.2;omega);obtain⟨A,c,hb,hr,hq⟩:=c3;refine(Q2f g H at_ 0 A bs.length c .returning _ (by simpa using L0) (by simpa using L1) (by simpa using L2) (by simpa using L3) hb hg).mono ?_;rintro e u' w'' ⟨rfl,rfl,rfl⟩;refine⟨.tuple #[.int .u8 0,.int .i64 3],?_,hR.out _ _ ⟨rfl,?_,?_⟩⟩
 . have M1:=((L1.set_ 0 (.int .u8 0)).far (p:=⟨g,1,none⟩) (by simp;omega) (.int .i64 at_))
   have M2:=((L2.far (p:=⟨H+1,0,none⟩) (by simp) (.int .u8 0)).far (p:=⟨g,1,none⟩) (by simp;omega) (.int .i64 at_));have q1:=M1.cell0;have q2:=M2.cell0;simp [results,Tryz.results85,go_sem,q1,q2]
 . have u4:Upd (fun b=>b=g\/w.heap.size<=b) w _:=((u3.mono (T:=fun b=>b=g\/w.heap.size<=b) (fun _ _ h=>.inr h)).setCell (p:=⟨H+1,0,none⟩) (fun _=>.inr (by have:=HH.out;simp;omega)) (.int .u8 0)).setCell (p:=⟨g,1,none⟩) (fun _=>.inl rfl) (.int .i64 at_)
   (exact u4.mono fun b hb h=>by rcases h with h|h;exact h;omega)
 have c4:Qf _ (fun b=>F b/\b<w.heap.size) g bs at_:=⟨A,c,hb,hr,hq⟩;have c5:=c4.upd (S:=fun b=>b=H+1) ((Upd.refl (fun b=>b=H+1) _).setCell (p:=⟨H+1,0,none⟩) (fun _=>rfl) (.int .u8 0)) (by omega) (fun b _ hb e=>by have:=hb.2;have:=HH.out;omega);obtain⟨A,c,hb,hr,hq⟩:=c5;refine⟨A,c,?_,?_,hq⟩
 . have:=hb.set_ 1 (.int .i64 at_)
   simpa using this
 exact(hr.upd (S:=fun b=>b=g) ((Upd.refl (fun b=>b=g) _).setCell (p:=⟨g,1,none⟩) (fun _=>rfl) (.int .i64 at_)) (fun b _ hb e=>hF b hb.1 e)).mono fun b hb=>hb.1
theorem VF (F:Nat->Prop) (g:Nat) (bs:List Nat) (at_:Nat) (w:World) (hcu:Qf w F g bs at_) (hk:at_<bs.length) (hF:∀b,F b->b≠g) :
   Calls Tryz.prog 52 #[.pointer (some ⟨g,0,none⟩)] w fun e w'=>e = .returned (.tuple #[.int .u8 ((bs[at_]?.getD 0:Nat):Int),.int .i64 0])/\Upd (fun b=>b=g) w w'/\Qf w' F g bs (at_+1):=by
 have hmf:∀(fn:Fn) (first cap:Array Value) (w:World),(Instr.makeFunc fn first cap).run Tryz.prog w = .ok (.func fn first cap) w:=fun _ _ _ _=>rfl;obtain⟨H,hH⟩:=nm_ (w.heap.size);have hr:=Q4e F g H bs at_ (w.alloc (.cells #[.pointer (some ⟨g,0,none⟩)] 35)) (hcu.fresh ((Upd.refl _ w).alloc _)) hk (Q2 hH _ _) hF;rw [hH]at hr;have HR:=hd_ hr;clear hr hcu hH H hk;generalize ((bs[at_]?.getD 0:Nat):Int)=x at *;refine Q6 fun R hR=>?_;go_enter Tryz.func52,Tryz.ntmps52;go_wp2_with fail;refine HR.out.mono ?_;rintro e w1 ⟨rfl,u1,c1⟩;go_wp2;(try go_ret2);exact hR.out _ _ ⟨rfl,((Upd.refl (fun b=>b=g) w).alloc _).trans' u1,c1⟩
theorem KU (F:Nat->Prop) (g:Nat) (bs:List Nat) (at_:Nat) (w:World) (hcu:Qf w F g bs at_) (hk:at_=bs.length) (hF:∀b,F b->b≠g) :
   Calls Tryz.prog 52 #[.pointer (some ⟨g,0,none⟩)] w fun e w'=>e = .returned (.tuple #[.int .u8 0,.int .i64 3])/\Upd (fun b=>b=g) w w'/\Qf w' F g bs at_:=by
 have hmf:∀(fn:Fn) (first cap:Array Value) (w:World),(Instr.makeFunc fn first cap).run Tryz.prog w = .ok (.func fn first cap) w:=fun _ _ _ _=>rfl;obtain⟨H,hH⟩:=nm_ (w.heap.size);have hr:=Q3i F g H bs at_ (w.alloc (.cells #[.pointer (some ⟨g,0,none⟩)] 35)) (hcu.fresh ((Upd.refl _ w).alloc _)) hk (Q2 hH _ _) hF;rw [hH]at hr;have HR:=hd_ hr;clear hr hcu hH H hk;refine Q6 fun R hR=>?_;go_enter Tryz.func52,Tryz.ntmps52;go_wp2_with fail;refine HR.out.mono ?_;rintro e w1 ⟨rfl,u1,c1⟩;go_wp2;(try go_ret2);exact hR.out _ _ ⟨rfl,((Upd.refl (fun b=>b=g) w).alloc _).trans' u1,c1⟩
def Qj (p:Int):Int:=if p=1 then 28 else 44
theorem Q6d (w:World):Calls Tryz.prog 136 #[.int .i64 0] w fun e w'=>e = .returned (.tuple #[.int .i64 44,.int .i64 0])/\Q0 w w':=by
 have hk:=Q0v w;unfold JP at hk;rw [Zr]at hk;have HK:=hd_ hk;clear hk;refine Q6 fun R hR=>?_;go_enter Tryz.func136,Tryz.ntmps136;go_wp2_with fail;refine HK.out.mono ?_;rintro e w1 ⟨g,rfl,_,_,f1⟩;have F1:=hd_ f1;clear f1;go_wp2_with fail;(try go_ret2);exact hR.out _ _ ⟨rfl,F1.out.alloc _⟩
theorem Q6e (w:World):Calls Tryz.prog 137 #[.int .i64 0] w fun e w'=>e = .returned (.tuple #[.int .i64 9,.int .i64 0])/\Q0 w w':=by
 have HK:=hd_ (Q5c w);refine Q6 fun R hR=>?_;go_enter Tryz.func137,Tryz.ntmps137;go_wp2_with fail;refine HK.out.mono ?_;rintro e w1 ⟨rfl,f1⟩;have F1:=hd_ f1;clear f1;go_wp2_with fail;(try go_ret2);exact hR.out _ _ ⟨rfl,F1.out.alloc _⟩
theorem Q6f (w:World):Calls Tryz.prog 136 #[.int .i64 1] w fun e w'=>e = .returned (.tuple #[.int .i64 28,.int .i64 0])/\Q0 w w':=by
 have hk:=Q0w w;unfold JP at hk;rw [Zs]at hk;have HK:=hd_ hk;clear hk;refine Q6 fun R hR=>?_;go_enter Tryz.func136,Tryz.ntmps136;go_wp2_with fail;refine HK.out.mono ?_;rintro e w1 ⟨g,rfl,_,_,f1⟩;have F1:=hd_ f1;clear f1;go_wp2_with fail;(try go_ret2);exact hR.out _ _ ⟨rfl,F1.out.alloc _⟩
theorem Q6g (w:World):Calls Tryz.prog 137 #[.int .i64 1] w fun e w'=>e = .returned (.tuple #[.int .i64 8,.int .i64 0])/\Q0 w w':=by
 have HK:=hd_ (Q5d w);refine Q6 fun R hR=>?_;go_enter Tryz.func137,Tryz.ntmps137;go_wp2_with fail;refine HK.out.mono ?_;rintro e w1 ⟨rfl,f1⟩;have F1:=hd_ f1;clear f1;go_wp2_with fail;(try go_ret2);exact hR.out _ _ ⟨rfl,F1.out.alloc _⟩
theorem Q6h (w:World):Calls Tryz.prog 136 #[.int .i64 2] w fun e w'=>e = .returned (.tuple #[.int .i64 44,.int .i64 0])/\Q0 w w':=by
 have hk:=Q0x w;unfold JP at hk;rw [Zt]at hk;have HK:=hd_ hk;clear hk;refine Q6 fun R hR=>?_;go_enter Tryz.func136,Tryz.ntmps136;go_wp2_with fail;refine HK.out.mono ?_;rintro e w1 ⟨g,rfl,_,_,f1⟩;have F1:=hd_ f1;clear f1;go_wp2_with fail;(try go_ret2);exact hR.out _ _ ⟨rfl,F1.out.alloc _⟩
theorem Q6i (w:World):Calls Tryz.prog 137 #[.int .i64 2] w fun e w'=>e = .returned (.tuple #[.int .i64 9,.int .i64 0])/\Q0 w w':=by
 have HK:=hd_ (Q5e w);refine Q6 fun R hR=>?_;go_enter Tryz.func137,Tryz.ntmps137;go_wp2_with fail;refine HK.out.mono ?_;rintro e w1 ⟨rfl,f1⟩;have F1:=hd_ f1;clear f1;go_wp2_with fail;(try go_ret2);exact hR.out _ _ ⟨rfl,F1.out.alloc _⟩
theorem Q5y (p:Int) (w:World) (h:p<0\/2<p):Calls Tryz.prog 136 #[.int .i64 p] w fun e w'=>e = .returned (.tuple #[.int .i64 0,.int .i64 2])/\Q0 w w':=by
 have HK:=hd_ (Q3g p w h);clear h;refine Q6 fun R hR=>?_;go_enter Tryz.func136,Tryz.ntmps136;go_wp2_with fail;refine HK.out.mono ?_;rintro e w1 ⟨rfl,f1⟩;have F1:=hd_ f1;clear f1;go_wp2_with fail;(try go_ret2);exact hR.out _ _ ⟨rfl,F1.out.alloc _⟩
theorem Jd {p:Int} (h:0<=p/\p<=2):p=0\/p=1\/p=2:=by omega
theorem Q4f (p:Int) (w:World) (h:0<=p/\p<=2):Calls Tryz.prog 136 #[.int .i64 p] w fun e w'=>e = .returned (.tuple #[.int .i64 (Qj p),.int .i64 0])/\Q0 w w':=by
 rcases Jd h with rfl|rfl|rfl
 . exact Q6d w
 . exact Q6f w
 exact Q6h w
theorem Q4g (p:Int) (w:World) (h:0<=p/\p<=2):Calls Tryz.prog 137 #[.int .i64 p] w fun e w'=>e = .returned (.tuple #[.int .i64 (QH p),.int .i64 0])/\Q0 w w':=by
 rcases Jd h with rfl|rfl|rfl
 . exact Q6e w
 . exact Q6g w
 exact Q6i w
theorem Q2g (p:Int) (w:World) (h:0<=p/\p<=2):Calls Tryz.prog 139 #[.int .i64 p] w fun e w'=>JP w w' e (Jk p) (JV p) 0:=by
 rcases Jd h with rfl|rfl|rfl
 . exact Q0v w
 . exact Q0w w
 exact Q0x w
theorem ZB (p lg:Int) (A:Option Addr) (n c:Nat) (w:World) (h:0<=p/\p<=2):Calls Tryz.prog 88 #[.int .i64 p,.agg #[.int .i64 lg,.slice A n c]] w fun e w' =>
   e = .returned (.tuple #[.agg #[.int .i64 p,.int .i64 (Qj p),.int .i64 (QH p),.int .i64 lg,.slice A n c],.int .i64 0])/\Q0 w w':=by
 have HS:=hd_ (fun W=>Q4f p W h);have HL:=hd_ (fun W=>Q4g p W h);clear h;generalize Qj p=s at *;generalize QH p=x at *;refine Q6 fun R hR=>?_;obtain⟨w0,hw0⟩:=nm_ ((w.alloc (.cells #[.int .i64 lg,.slice A n c] 29)).alloc (.cells #[.int .i64 0,.int .i64 0,.int .i64 0,.int .i64 0,.slice none 0 0] 181));obtain⟨H,hH⟩:=nm_ (w.heap.size);(have f0:Q0 w w0:=by rw [hw0];exact((Upd.refl _ _).alloc _).alloc _);(have bt:Blk w0 H 29 #[.int .i64 lg,.slice A n c]:=by rw [hw0];exact(Q2 hH _ _).alloc _);(have bp:Blk w0 (H+1) 181 #[.int .i64 0,.int .i64 0,.int .i64 0,.int .i64 0,.slice none 0 0]:=by rw [hw0];exact Q2 (by simp [hH]) _ _);have BT:=hd_ bt;have BP:=hd_ bp;have F0:=hd_ f0;have HW:=hd_ hw0;have HH:=hd_ hH;clear bt bp f0 hw0 hH;go_enter Tryz.func88,Tryz.ntmps88;go_wp2_with fail;simp only [<-HH.out,<-HW.out];refine(HS.out _).mono ?_;rintro e w1 ⟨rfl,f1⟩;have F1:=hd_ f1;clear f1;go_wp2_with fail;refine(HL.out _).mono ?_;rintro e w2 ⟨rfl,f2⟩;have F2:=hd_ (F1.out.trans' f2);have bt:=BT.out.fresh F2.out;have bp:=BP.out.fresh F2.out;have t0:=bt.cell 0;have t1:=bt.cell 1;have p0:=bp.cell 0;have p1:=bp.cell 1;have p2:=bp.cell 2;have p3:=bp.cell 3;have p4:=bp.cell 4;have z0:=bp.frozen 0;have z1:=bp.frozen 1;have z2:=bp.frozen 2;have z3:=bp.frozen 3;have z4:=bp.frozen 4;simp at t0 t1 p0 p1 p2 p3 p4;have BP2:=hd_ bp;clear f2 bt bp;go_wp2_with fail
 have hu:Upd (fun b=>b=H+1) w2 (((((w2.setCell ⟨H+1,0,none⟩ (.int .i64 p)).setCell ⟨H+1,1,none⟩ (.int .i64 s)).setCell ⟨H+1,2,none⟩ (.int .i64 x)).setCell ⟨H+1,3,none⟩ (.int .i64 lg)).setCell ⟨H+1,4,none⟩ (.slice A n c)) :=
   (((((Upd.refl (fun b=>b=H+1) w2).setCell (p:=⟨H+1,0,none⟩) (fun _=>rfl) _).setCell (p:=⟨H+1,1,none⟩) (fun _=>rfl) _).setCell (p:=⟨H+1,2,none⟩) (fun _=>rfl) _).setCell (p:=⟨H+1,3,none⟩) (fun _=>rfl) _).setCell (p:=⟨H+1,4,none⟩) (fun _=>rfl) _
 refine bodyPost_ret (Q5 rfl _ _ (H+1) _ _ _ rfl (((((BP2.out.set_ 0 (.int .i64 p)).set_ 1 (.int .i64 s)).set_ 2 (.int .i64 x)).set_ 3 (.int .i64 lg)).set_ 4 (.slice A n c)) Tryz.underlying181 rfl (by kernel_rfl)) rfl ?_;exact hR.out _ _ ⟨by simp,(F0.out.trans' F2.out).trans hu (fun b hb h=>by have:=HH.out;omega)⟩
theorem Q6j (p lg:Int) (A:Option Addr) (n c:Nat) (w:World) (h:p<0\/2<p):Calls Tryz.prog 88 #[.int .i64 p,.agg #[.int .i64 lg,.slice A n c]] w fun e w' =>
   e = .returned (.tuple #[.agg #[.int .i64 0,.int .i64 0,.int .i64 0,.int .i64 0,.slice none 0 0],.int .i64 2])/\Q0 w w':=by
 have HS:=hd_ (fun W=>Q5y p W h);clear h;refine Q6 fun R hR=>?_;obtain⟨w0,hw0⟩:=nm_ ((w.alloc (.cells #[.int .i64 lg,.slice A n c] 29)).alloc (.cells #[.int .i64 0,.int .i64 0,.int .i64 0,.int .i64 0,.slice none 0 0] 181));obtain⟨H,hH⟩:=nm_ (w.heap.size);(have f0:Q0 w w0:=by rw [hw0];exact((Upd.refl _ _).alloc _).alloc _);(have bp:Blk w0 (H+1) 181 #[.int .i64 0,.int .i64 0,.int .i64 0,.int .i64 0,.slice none 0 0]:=by rw [hw0];exact Q2 (by simp [hH]) _ _);have BP:=hd_ bp;have F0:=hd_ f0;have HW:=hd_ hw0;have HH:=hd_ hH;clear bp f0 hw0 hH;go_enter Tryz.func88,Tryz.ntmps88;go_wp2_with fail;simp only [<-HH.out,<-HW.out];refine(HS.out _).mono ?_;rintro e w1 ⟨rfl,f1⟩;have F2:=hd_ f1;have bp:=BP.out.fresh F2.out;have p0:=bp.cell 0;have p1:=bp.cell 1;have p2:=bp.cell 2;have p3:=bp.cell 3;have p4:=bp.cell 4;have z0:=bp.frozen 0;have z1:=bp.frozen 1;have z2:=bp.frozen 2;have z3:=bp.frozen 3;have z4:=bp.frozen 4;simp at p0 p1 p2 p3 p4;have BP2:=hd_ bp;clear f1 bp;go_wp2_with fail
 have hu:Upd (fun b=>b=H+1) w1 (((((w1.setCell ⟨H+1,0,none⟩ (.int .i64 0)).setCell ⟨H+1,1,none⟩ (.int .i64 0)).setCell ⟨H+1,2,none⟩ (.int .i64 0)).setCell ⟨H+1,3,none⟩ (.int .i64 0)).setCell ⟨H+1,4,none⟩ (.slice none 0 0)) :=
   (((((Upd.refl (fun b=>b=H+1) w1).setCell (p:=⟨H+1,0,none⟩) (fun _=>rfl) _).setCell (p:=⟨H+1,1,none⟩) (fun _=>rfl) _).setCell (p:=⟨H+1,2,none⟩) (fun _=>rfl) _).setCell (p:=⟨H+1,3,none⟩) (fun _=>rfl) _).setCell (p:=⟨H+1,4,none⟩) (fun _=>rfl) _
 refine bodyPost_ret (Q5 rfl _ _ (H+1) _ _ _ rfl (((((BP2.out.set_ 0 (.int .i64 0)).set_ 1 (.int .i64 0)).set_ 2 (.int .i64 0)).set_ 3 (.int .i64 0)).set_ 4 (.slice none 0 0)) Tryz.underlying181 rfl (by kernel_rfl)) rfl ?_;exact hR.out _ _ ⟨by simp,(F0.out.trans' F2.out).trans hu (fun b hb h=>by have:=HH.out;omega)⟩
theorem VS {w:World} {F:Nat->Prop} {A:Option Addr} {n:Nat} {N:List Int} (h:Rd w F A n (Q1 N)) (h0:0<n) :
   ∃b o,A=some ⟨b,o,none⟩/\∀j,j<N.length->w.cell? ⟨b,o+j,none⟩=some (.int .i64 (N.getD j 0)):=by
 (have hl:N.length=n:=by have:=h.1;simpa using this);obtain⟨b,o,hA,_,_,hc⟩:=h.2 h0;refine⟨b,o,hA,fun j hj=>?_⟩;rw [hc j (by omega),VE hj];simp [List.getD_eq_getElem?_getD,hj]
theorem Q0y (F:Nat->Prop) (A B:Option Addr) (n m c d:Nat) (p s x lg lh:Int) (N:List Int) (w:World) (hs:Rd w F B m (Q1 N)) (hfit:Fit N) (hm:(m:Int)<=1099511627776) :
   Calls Tryz.prog 124 #[.agg #[.int .i64 p,.int .i64 s,.int .i64 x,.int .i64 lg,.slice A n c],.agg #[.int .i64 lh,.slice B m d]] w fun e w' =>
     e = .returned (.int .i64 (if Qg lh N s x then 0 else 13))/\Q0 w w':=by
 have hk:=KV F B m d lh s x N _ ((hs.alloc (.cells #[.int .i64 p,.int .i64 s,.int .i64 x,.int .i64 lg,.slice A n c] 181)).alloc (.cells #[.int .i64 lh,.slice B m d] 29)) hfit hm;have HK:=hd_ hk;clear hk hs hfit hm;generalize (if Qg lh N s x then(0:Int)else 13)=q at *;refine Q6 fun R hR=>?_;go_enter Tryz.func124,Tryz.ntmps124;go_wp2_with fail;refine HK.out.mono ?_;rintro e w1 ⟨rfl,f1⟩;have F1:=hd_ f1;clear f1;go_wp2_with fail;(try go_ret);exact hR.out _ _ ⟨rfl,(((Upd.refl _ w).alloc _).alloc _).trans' F1.out⟩
def Q6K (m p lg:Int) (N:List Int):Int × List Nat :=
  if m=0 then(if Jk p=lg/\JV p=N then(0,[])else(13,[]))
  else if m=1 then(if lg=0/\N[N.length-1]?=some 1 then(0,[N.length-1])else(13,[]))
  else if m=2 then(if lg≠0 then(0,Js (ZF lg.toNat N))else(13,[]))
  else(0,[])
def Q6k (m p lg:Int) (N:List Int):Int × List Nat :=
  if p<0\/2<p\/m<0\/3<m then(2,[])else if Qg lg N (Qj p) (QH p)then Q6K m p lg N else(13,[])
theorem YR (p:Int):Qj p<=44/\28<=Qj p/\QH p<=9/\8<=QH p/\0<=Jk p/\Jk p<=6:=by
 unfold Qj QH Jk;(by_cases h:p=1<;>simp [h])
def Q70 (p s x lg:Int) (A:Option Addr) (n c:Nat):Value:=.agg #[.int .i64 p,.int .i64 s,.int .i64 x,.int .i64 lg,.slice A n c]
def Q5f:Array Value:=#[.func (.func 138) #[] #[],.func (.func 140) #[] #[],.func (.func 143) #[] #[],.func (.func 144) #[] #[],.func (.func 145) #[] #[],.func (.func 147) #[] #[],.func (.func 149) #[] #[],.func (.func 150) #[] #[]]
theorem Q4h (w:World):Calls Tryz.prog 89 #[] w fun e w'=>e = .returned (.agg Q5f)/\Q0 w w':=by
 refine Q6 fun R hR=>?_;go_enter Tryz.func89,Tryz.ntmps89;go_wp2_with fail;exact bodyPost_ret (results_cell_row rfl _ _ w.heap.size _ _ _ _ rfl (Blk.new w 188 Q5f) Tryz.underlying188 rfl (by kernel_rfl)) rfl (hR.out _ _ ⟨rfl,(Upd.refl _ _).alloc _⟩)
theorem JK (w:World):Calls Tryz.prog 89 #[] w fun e w'=>e = .returned (.agg #[.func (.func 138) #[] #[],.func (.func 140) #[] #[],.func (.func 143) #[] #[],.func (.func 144) #[] #[],.func (.func 145) #[] #[],.func (.func 147) #[] #[],.func (.func 149) #[] #[],.func (.func 150) #[] #[]])/\Q0 w w':=Q4h w
def Je:Nat->Nat->Nat->List Nat->Nat × Nat × Int
  | 0,i,_,_=>(0,i,18)
  | _+1,i,_,[]=>(0,i,3)
  | f+1,i,n,x::xs =>
    if 128<=x then Je f (i+1) (n+x%128*2^(7*i)) xs
    else if x=0/\0<i then(0,i+1,5)
    else if 4611686018427387903<n+x%128*2^(7*i)then(0,i+1,18)
    else(n+x%128*2^(7*i),i+1,0)
def Qh (bs:List Nat):Nat × Nat × Int:=Je 9 0 0 bs
theorem Q5z (x:Nat) (h:x<256):bits .and .u8 (x:Int) 127=((x%128:Nat):Int):=by
 (have:∀x:Fin 256,bits .and .u8 ((x.val:Nat):Int) 127=((x.val%128:Nat):Int):=by decide +kernel);exact this ⟨x,h⟩
theorem Q4i (n y i:Nat) (hn:n<2^(7*i)) (hy:y<128) (hi:i<9) :
   bits .or .u64 (n:Int) (IntKind.u64.wrap ((y:Int)*2^(7*i)))=((n+y*2^(7*i):Nat):Int):=Q1E n y (7*i) 7 hn (by omega) (by omega)
theorem Q5A (n y i:Nat) (hn:n<2^(7*i)) (hy:y<128):n+y*2^(7*i)<2^(7*(i+1)):=by
 (have h:2^(7*(i+1))=128*2^(7*i):=by rw [show 7*(i+1)=7*i+7 by omega,Nat.pow_add];omega);have h2:y*2^(7*i)<=127*2^(7*i):=Nat.mul_le_mul_right _ (by omega);omega
theorem Q4j (F:Nat->Prop) (g pc:Nat) (bs:List Nat) (at_:Nat) (w:World) (hcu:Qf w F g bs at_)
   (bc:Blk w pc 35 #[.pointer (some ⟨g,0,none⟩)]) (hF:∀b,F b->b≠g) :
   Calls Tryz.prog 51 #[.pointer (some ⟨pc,0,none⟩)] w fun e w'=>e = .returned (.tuple #[.int .u64 ((Qh (bs.drop at_)).1:Nat),.int .i64 (Qh (bs.drop at_)).2.2]) /\
     Upd (fun b=>b=g) w w'/\∃a',Qf w' F g bs a'/\((Qh (bs.drop at_)).2.2=0->a'=at_+(Qh (bs.drop at_)).2.1):=by
 obtain⟨T,hT⟩:=nm_ (Qh (bs.drop at_));rw [<-hT]
 have hpg:pc≠g:=by
   obtain⟨A,c,hb,_⟩:=hcu;exact bc.ne_ hb (by decide)
 (have hlt:∀b∈bs,b<256:=by obtain⟨A,c,_,_,h,_⟩:=hcu;exact h);have HLT:=hd_ hlt;have HT:=hd_ hT;have HCU:=hd_ hcu;have HBC:=hd_ bc;clear hT hcu bc hlt;refine Q6 fun R hR=>?_;go_enter Tryz.func51,Tryz.ntmps51;go_wp2_with fail;go_loopg [3,7] 9 (fun f vn vi wr=>∃(i n:Nat),i+f=9/\vi = .int .i64 i/\vn = .int .u64 n/\n<2^(7*i)/\Upd (fun b=>b=g) w wr/\Qf wr F g bs (at_+i)/\Je f i n (bs.drop (at_+i))=T)
 case atStart=>exact⟨0,0,rfl,rfl,rfl,by omega,Upd.refl _ _,HCU.out,HT.out.symm⟩
 case round =>
   obtain⟨i,n,hif,rfl,rfl,hn,hu,hcu,ht⟩:=hrel;have HU:=hd_ hu;have HC:=hd_ hcu;have hbc:=HBC.out.upd hu hpg;have hc:=hbc.cell0;have HB:=hd_ hbc;clear hu hcu hbc;have hw7:IntKind.i64.wrap (7*(i:Int))=7*i:=IntWalk.i64_in _ (by omega);(have hw8:((7:Int)*(i:Int)).toNat=7*i:=by omega);(have hw9:(0:Int)<=7*(i:Int):=by omega);have hw10:IntKind.i64.wrap ((i:Int)+1)=i+1:=IntWalk.i64_in _ (by omega);by_cases hi:i<9
   . obtain⟨f,rfl⟩:∃f,gk=f+1:=⟨gk-1,by omega⟩
     (have hiI:(i:Int)<9:=by omega);by_cases hk:at_+i<bs.length
     . obtain⟨x,hx⟩:∃x,x=bs[at_+i]:=⟨_,rfl⟩
       (have hx2:bs[at_+i]?.getD 0=x:=by rw [List.getElem?_eq_getElem hk,hx];rfl);(have hx3:x<256:=by rw [hx];exact HLT.out _ (List.getElem_mem hk));rw [List.drop_eq_getElem_cons hk,<-hx]at ht;have hcall:=VF F g bs (at_+i) wr HC.out hk hF;rw [hx2]at hcall;have HCALL:=hd_ hcall;have hand:=Q5z x hx3;have hor:=Q4i n (x%128) i hn (by omega) hi;have hpl:=Q5A n (x%128) i hn (by omega);simp only [Je]at ht;(have hy:x%128<128:=by omega);generalize x%128=y at *;(have hcy:IntKind.u64.wrap (y:Int)=y:=by rw [IntKind.wrap_u64];omega);generalize n+y*2^(7*i)=m at *;have HPL:=hd_ hpl;clear hcall hx hx2 hpl hn;(have hxI:(x:Int)<256:=by omega);by_cases h1:128<=x
       . rw [if_pos h1]at ht
         have HTT:=hd_ ht;clear ht;(have h1I:(128:Int)<=x:=by omega);go_wp2_with fail;refine HCALL.out.mono ?_;rintro e w1 ⟨rfl,u1,c1⟩;have U1:=hd_ u1;have C1:=hd_ c1;clear u1 c1;go_wp2_with fail;go_roundg f
         case measure=>omega
         case rel =>
           refine⟨i+1,m,by omega,by go_num,rfl,HPL.out,HU.out.trans' U1.out,?_,?_⟩
           . have:=C1.out
             rwa [Nat.add_assoc]at this
           have:=HTT.out
           rwa [Nat.add_assoc]at this
       rw [if_neg h1]at ht;(have h1I:(x:Int)<128:=by omega);by_cases h2:x=0/\0<i
       . rw [if_pos h2]at ht
         (have h2a:((x:Int) == 0)=true:=by simpa using h2.1);(have h2b:(0:Int)<i:=by omega);subst ht;clear h2;go_wp2_with fail;refine HCALL.out.mono ?_;rintro e w1 ⟨rfl,u1,c1⟩;have U1:=hd_ u1;have C1:=hd_ c1;clear u1 c1;go_wp2_with fail;(try go_ret2);exact hR.out _ _ ⟨rfl,HU.out.trans' U1.out,_,C1.out,fun h=>absurd h (by decide)⟩
       rw [if_neg h2]at ht;by_cases h3:4611686018427387903<m
       . rw [if_pos h3]at ht
         (have h3I:(4611686018427387903:Int)<m:=by omega);subst ht;by_cases hx0:x=0
         . have h2a:((x:Int) == 0)=true:=by simpa using hx0
           (have h2b:(i:Int)<=0:=by omega);clear hx0 h2;go_wp2_with fail;refine HCALL.out.mono ?_;rintro e w1 ⟨rfl,u1,c1⟩;have U1:=hd_ u1;have C1:=hd_ c1;clear u1 c1;go_wp2_with fail;(try go_ret2);exact hR.out _ _ ⟨rfl,HU.out.trans' U1.out,_,C1.out,fun h=>absurd h (by decide)⟩
         (have h2a:((x:Int) == 0)=false:=by simp;omega);go_wp2_with fail;refine HCALL.out.mono ?_;rintro e w1 ⟨rfl,u1,c1⟩;have U1:=hd_ u1;have C1:=hd_ c1;clear u1 c1;go_wp2_with fail;(try go_ret2);exact hR.out _ _ ⟨rfl,HU.out.trans' U1.out,_,C1.out,fun h=>absurd h (by decide)⟩
       rw [if_neg h3]at ht;(have h3I:(m:Int)<=4611686018427387903:=by omega);subst ht;by_cases hx0:x=0
       . have h2a:((x:Int) == 0)=true:=by simpa using hx0
         (have h2b:(i:Int)<=0:=by omega);clear hx0 h2;go_wp2_with fail;refine HCALL.out.mono ?_;rintro e w1 ⟨rfl,u1,c1⟩;have U1:=hd_ u1;have C1:=hd_ c1;clear u1 c1;go_wp2_with fail;(try go_ret2);exact hR.out _ _ ⟨rfl,HU.out.trans' U1.out,_,C1.out,fun _=>by omega⟩
       (have h2a:((x:Int) == 0)=false:=by simp;omega);go_wp2_with fail;refine HCALL.out.mono ?_;rintro e w1 ⟨rfl,u1,c1⟩;have U1:=hd_ u1;have C1:=hd_ c1;clear u1 c1;go_wp2_with fail;(try go_ret2);exact hR.out _ _ ⟨rfl,HU.out.trans' U1.out,_,C1.out,fun _=>by omega⟩
     have hcall:=KU F g bs (at_+i) wr HC.out (by obtain⟨A,c,_,_,_,h,_⟩:=HC.out;omega) hF;rw [List.drop_of_length_le (by omega)]at ht;simp only [Je]at ht;subst ht;have HCALL:=hd_ hcall;clear hcall;go_wp2_with fail;refine HCALL.out.mono ?_;rintro e w1 ⟨rfl,u1,c1⟩;have U1:=hd_ u1;have C1:=hd_ c1;clear u1 c1;go_wp2_with fail;(try go_ret2);exact hR.out _ _ ⟨rfl,HU.out.trans' U1.out,_,C1.out,fun h=>absurd h (by decide)⟩
   (have hi9:i=9:=by omega);(have hg0:gk=0:=by omega);subst hi9 hg0;simp only [Je]at ht;subst ht;go_wp2_with fail;(try go_ret2);exact hR.out _ _ ⟨rfl,HU.out,_,HC.out,fun h=>absurd h (by decide)⟩
theorem Q4k (f:Nat):∀(i n:Nat) (l:List Nat),(Je f i n l).2.2≠0->(Je f i n l).1=0:=by
 induction f with
 | zero=>intro i n l _;rfl
 | succ f ih =>
   intro i n l h;rcases l with _|⟨x,xs⟩
   . rfl
   simp only [Je]at h ⊢;split
   . next h1=>rw [if_pos h1]at h;exact ih _ _ _ h
   next h1 =>
   rw [if_neg h1]at h;split
   . rfl
   next h2 =>
   rw [if_neg h2]at h;split
   . rfl
   next h3=>rw [if_neg h3]at h;exact absurd rfl h
theorem Q4l {l:List Nat} (h:(Qh l).2.2≠0):(Qh l).1=0:=Q4k _ _ _ _ h
theorem Q2h (pe pf px pc:Addr) (u:FrameMode) (w:World) (he:w.cell? pe=some (.int .i64 0)) :
   CallsD Tryz.prog 84 #[.pointer (some pe),.pointer (some pf),.pointer (some px),.pointer (some pc)] u w fun e u' w'=>u'=u/\(e = .returned (.tuple #[])/\w'=w):=by
 go_enter_d Tryz.func84,Tryz.ntmps84;go_wp2;go_end0;exact⟨rfl,rfl⟩
theorem Q2i (g H:Nat) (at_ a':Nat) (x er:Int) (her:(er == 0)=false) (A:Option Addr) (n c:Nat) (u:FrameMode) (w:World)
   (b0:Blk w H 35 #[.pointer (some ⟨g,0,none⟩)]) (b1:Blk w (H+1) 57 #[.int .u64 x]) (b2:Blk w (H+1+1) 38 #[.int .i64 er]) (b3:Blk w (H+1+1+1) 3 #[.int .i64 at_])
   (bg:Blk w g 67 #[.slice A n c,.int .i64 a']) (hg:g<H) :
   CallsD Tryz.prog 84 #[.pointer (some ⟨H+1+1,0,none⟩),.pointer (some ⟨H+1+1+1,0,none⟩),.pointer (some ⟨H+1,0,none⟩),.pointer (some ⟨H,0,none⟩)] u w fun e u' w'=>u'=u/\(e = .returned (.tuple #[]) /\
     w'=(w.setCell ⟨H+1,0,none⟩ (.int .u64 0)).setCell ⟨g,1,none⟩ (.int .i64 at_)):=by
 have c0:=b0.cell0;have c1:=b1.cell0;have c2:=b2.cell0;have c3:=b3.cell0;have z1:=b1.frozen 0;have zg:=bg.frozen 1;have g1:=bg.cell 1;simp at g1;(have her2:¬er=0:=by simpa using her);go_enter_d Tryz.func84,Tryz.ntmps84;go_wp2;go_end0;exact⟨rfl,rfl⟩
theorem Q3j (F:Nat->Prop) (g pc:Nat) (bs:List Nat) (at_:Nat) (w:World) (hcu:Qf w F g bs at_)
   (bc:Blk w pc 35 #[.pointer (some ⟨g,0,none⟩)]) (hF:∀b,F b->b≠g) :
   Calls Tryz.prog 50 #[.pointer (some ⟨g,0,none⟩),.func (.func 51) #[] #[.pointer (some ⟨pc,0,none⟩)]] w fun e w' =>
     e = .returned (.tuple #[.int .u64 ((Qh (bs.drop at_)).1:Nat),.int .i64 (Qh (bs.drop at_)).2.2])/\Upd (fun b=>b=g) w w' /\
       Qf w' F g bs (if(Qh (bs.drop at_)).2.2=0 then at_+(Qh (bs.drop at_)).2.1 else at_):=by
 have hmf:∀(fn:Fn) (first cap:Array Value) (w:World),(Instr.makeFunc fn first cap).run Tryz.prog w = .ok (.func fn first cap) w:=fun _ _ _ _=>rfl;have hg:=hcu.lt
 have hat:w.cell? ⟨g,1,none⟩=some (.int .i64 at_):=by
   obtain⟨A,c,hb,_⟩:=hcu;simpa using hb.cell 1
 (have hat9:at_<=bs.length:=by obtain⟨A,c,_,_,_,h,_⟩:=hcu;exact h);have HAT9:=hd_ hat9;have HV0:=hd_ (fun h:(Qh (bs.drop at_)).2.2≠0=>Q4l h);have hb1':=fun W (hW:Q0 w W)=>Q4j (fun b=>F b/\b<w.heap.size) g pc bs at_ W (hcu.both.fresh hW) (bc.fresh hW) (fun b hb=>hF b hb.1);have HB1:=hd_ hb1';have HCU:=hd_ hcu;have HBC:=hd_ bc;clear hcu bc hb1' hat9;generalize Qh (bs.drop at_)=V at *;obtain⟨v,k,er⟩:=V;simp only at HB1 HV0 ⊢;have HV1:=hd_ (fun h:er≠0=>(by rw [HV0.out h];rfl:((v:Nat):Int)=0));clear HV0;generalize ((v:Nat):Int)=v at *;(have hg1:g<w.heap.size+1:=by omega);(have hg2:g<w.heap.size+1+1:=by omega);(have hg3:g<w.heap.size+1+1+1:=by omega);refine Q6 fun R hR=>?_;go_enter_defers Tryz.func50,Tryz.ntmps50;go_wp2_with fail;obtain⟨H,hH⟩:=nm_ (w.heap.size);rw [<-hH]at hg hg1 hg2 hg3;simp only [<-hH];obtain⟨W0,hW0⟩:=nm_ ((((w.alloc (.cells #[.pointer (some ⟨g,0,none⟩)] 35)).alloc (.cells #[.int .u64 0] 57)).alloc (.cells #[.int .i64 0] 38)).alloc (.cells #[.int .i64 at_] 3));rw [<-hW0];(have f0:Q0 w W0:=by rw [hW0];exact((((Upd.refl _ w).alloc _).alloc _).alloc _).alloc _);(have k0:Blk W0 H 35 #[.pointer (some ⟨g,0,none⟩)]:=by rw [hW0];exact(((Q2 (by simp [hH]) _ _).alloc _).alloc _).alloc _);(have k1:Blk W0 (H+1) 57 #[.int .u64 0]:=by rw [hW0];exact((Q2 (by simp [hH]) _ _).alloc _).alloc _);(have k2:Blk W0 (H+1+1) 38 #[.int .i64 0]:=by rw [hW0];exact(Q2 (by simp [hH]) _ _).alloc _);(have k3:Blk W0 (H+1+1+1) 3 #[.int .i64 at_]:=by rw [hW0];exact Q2 (by simp [hH]) _ _);clear hW0;have HH:=hd_ hH;clear hH;refine(HB1.out W0 f0).mono ?_;rintro e w1 ⟨rfl,u1,a',c1,ha'⟩;have j0:=k0.upd u1 (by omega);have j1:=k1.upd u1 (by omega);have j2:=k2.upd u1 (by omega);have j3:=k3.upd u1 (by omega);have uu:Upd (fun b=>b=g) w w1:=(f0.mono (fun _ _ h=>h.elim)).trans' u1;have d1:=j1.cell0;have d2:=j2.cell0;have z1:=j1.frozen 0;have z2:=j2.frozen 0;have J0:=hd_ j0;have J1:=hd_ j1;have J2:=hd_ j2;have J3:=hd_ j3;have HC1:=hd_ c1;have HA':=hd_ ha';have UU:=hd_ uu;clear j0 j1 j2 j3 k0 k1 k2 k3 c1 ha' u1 uu;go_wp2;have L0:=(J0.out.far (p:=⟨H+1,0,none⟩) (by simp) (.int .u64 v)).far (p:=⟨H+1+1,0,none⟩) (by simp;omega) (.int .i64 er);have L1:=(J1.out.set_ 0 (.int .u64 v)).far (p:=⟨H+1+1,0,none⟩) (by simp) (.int .i64 er);have L2:=(J2.out.far (p:=⟨H+1,0,none⟩) (by simp) (.int .u64 v)).set_ 0 (.int .i64 er);have L3:=(J3.out.far (p:=⟨H+1,0,none⟩) (by simp;omega) (.int .u64 v)).far (p:=⟨H+1+1,0,none⟩) (by simp) (.int .i64 er);have hd2:=L2.cell0;have hd1:=L1.cell0;have u3:Upd (fun b=>b=g) w ((w1.setCell ⟨H+1,0,none⟩ (.int .u64 v)).setCell ⟨H+1+1,0,none⟩ (.int .i64 er)):=(UU.out.setCell (p:=⟨H+1,0,none⟩) (fun h=>by have:=HH.out;simp at h;omega) _).setCell (p:=⟨H+1+1,0,none⟩) (fun h=>by have:=HH.out;simp at h;omega) _
 have m1:=HC1.out.upd (S:=fun b=>b=H+1) ((Upd.refl (fun b=>b=H+1) _).setCell (p:=⟨H+1,0,none⟩) (fun _=>rfl) (.int .u64 v)) (by omega) (fun b _ hb e=>by have:=hb.2;have:=HH.out;omega);have m2:=m1.upd (S:=fun b=>b=H+1+1) ((Upd.refl (fun b=>b=H+1+1) _).setCell (p:=⟨H+1+1,0,none⟩) (fun _=>rfl) (.int .i64 er)) (by omega) (fun b _ hb e=>by have:=hb.2;have:=HH.out;omega);change Leaves _ _ _ _ _ _ _;refine leaves_cons (f:=84) (args:=#[.pointer (some ⟨H+1+1,0,none⟩),.pointer (some ⟨H+1+1+1,0,none⟩),.pointer (some ⟨H+1,0,none⟩),.pointer (some ⟨H,0,none⟩)]) (by simp) (by simp [go_sem]) ?_;by_cases her:er=0
 . subst her
   refine(Q2h _ _ _ _ .returning _ hd2).mono ?_;rintro e u' w'' ⟨rfl,rfl,rfl⟩;refine⟨.tuple #[.int .u64 v,.int .i64 0],?_,hR.out _ _ ⟨rfl,u3,?_⟩⟩
   . simp [results,Tryz.results50,go_sem,hd1,hd2]
   rw [if_pos rfl,<-HA'.out rfl];exact m2.mono fun b hb=>hb.1
 obtain⟨A,c,hb,hr,hq1,hq2,hq3,hq4⟩:=m2;have hv:=HV1.out her;subst hv;refine(Q2i g H at_ a' 0 er (by simpa using her) A bs.length c .returning _ (by simpa using L0) (by simpa using L1) (by simpa using L2) (by simpa using L3) hb hg).mono ?_;rintro e u' w'' ⟨rfl,rfl,rfl⟩;refine⟨.tuple #[.int .u64 0,.int .i64 er],?_,hR.out _ _ ⟨rfl,?_,?_⟩⟩
 . have M1:=((L1.set_ 0 (.int .u64 0)).far (p:=⟨g,1,none⟩) (by simp;omega) (.int .i64 at_))
   have M2:=((L2.far (p:=⟨H+1,0,none⟩) (by simp) (.int .u64 0)).far (p:=⟨g,1,none⟩) (by simp;omega) (.int .i64 at_));have e1:=M1.cell0;have e2:=M2.cell0;simp [results,Tryz.results50,go_sem,e1,e2]
 . exact(u3.setCell (p:=⟨H+1,0,none⟩) (fun h=>by have:=HH.out;simp at h;omega) _).setCell (p:=⟨g,1,none⟩) (fun _=>rfl) _
 rw [if_neg her];have hb2:=(hb.far (p:=⟨H+1,0,none⟩) (by simp;omega) (.int .u64 0)).set_ 1 (.int .i64 (at_:Nat))
 have u5:Upd (fun b=>b=g\/b=H+1) ((w1.setCell ⟨H+1,0,none⟩ (.int .u64 0)).setCell ⟨H+1+1,0,none⟩ (.int .i64 er)) ((((w1.setCell ⟨H+1,0,none⟩ (.int .u64 0)).setCell ⟨H+1+1,0,none⟩ (.int .i64 er)).setCell ⟨H+1,0,none⟩ (.int .u64 0)).setCell ⟨g,1,none⟩ (.int .i64 at_)) :=
   ((Upd.refl (fun b=>b=g\/b=H+1) _).setCell (p:=⟨H+1,0,none⟩) (fun _=>.inr rfl) _).setCell (p:=⟨g,1,none⟩) (fun _=>.inl rfl) _
 refine⟨A,c,by simpa using hb2,(hr.upd u5 (fun b _ hb e=>?_)).mono fun b hb=>hb.1,hq1,HAT9.out,hq3,hq4⟩;rcases e with e|e
 . exact hF b hb.1 e
 have:=hb.2;have:=HH.out;omega
theorem Q0z (F:Nat->Prop) (g:Nat) (bs:List Nat) (at_:Nat) (w:World) (hcu:Qf w F g bs at_) (hF:∀b,F b->b≠g) :
   Calls Tryz.prog 32 #[.pointer (some ⟨g,0,none⟩)] w fun e w' =>
     e = .returned (.tuple #[.int .u64 ((Qh (bs.drop at_)).1:Nat),.int .i64 (Qh (bs.drop at_)).2.2])/\Upd (fun b=>b=g) w w' /\
       Qf w' F g bs (if(Qh (bs.drop at_)).2.2=0 then at_+(Qh (bs.drop at_)).2.1 else at_):=by
 have hmf:∀(fn:Fn) (first cap:Array Value) (w:World),(Instr.makeFunc fn first cap).run Tryz.prog w = .ok (.func fn first cap) w:=fun _ _ _ _=>rfl;obtain⟨H,hH⟩:=nm_ (w.heap.size);have hr:=Q3j F g H bs at_ (w.alloc (.cells #[.pointer (some ⟨g,0,none⟩)] 35)) (hcu.fresh ((Upd.refl _ w).alloc _)) (Q2 hH _ _) hF;rw [hH]at hr;have HR:=hd_ hr;clear hr hcu hH H;generalize (if(Qh (bs.drop at_)).2.2=0 then at_+(Qh (bs.drop at_)).2.1 else at_)=P at *;generalize Qh (bs.drop at_)=V at *;refine Q6 fun R hR=>?_;go_enter Tryz.func32,Tryz.ntmps32;go_wp2_with fail;refine HR.out.mono ?_;rintro e w1 ⟨rfl,u1,c1⟩;go_wp2;(try go_ret2);exact hR.out _ _ ⟨rfl,((Upd.refl (fun b=>b=g) w).alloc _).trans' u1,c1⟩
def QF:Nat->List Nat->Nat
  | 0,_=>0
  | _+1,[]=>0
  | f+1,x::xs=>if 128<=x then QF f xs+1 else 0
def Jf:List Nat->Nat
  | []=>0
  | x::xs=>x%128+128*Jf xs
theorem Q0A:∀(f:Nat) (bs:List Nat),QF f bs<=f
 | 0,_=>Nat.le_refl _
 | _+1,[]=>Nat.zero_le _
 | f+1,x::xs=>by
   unfold QF
   split
   . exact Nat.succ_le_succ (Q0A f xs)
   exact Nat.zero_le _
theorem XD:∀(f:Nat) (bs:List Nat),QF f bs<=bs.length
 | 0,_=>Nat.zero_le _
 | _+1,[]=>Nat.zero_le _
 | f+1,x::xs=>by
   unfold QF
   split
   . exact Nat.succ_le_succ (XD f xs)
   exact Nat.zero_le _
theorem XE:∀(f:Nat) (bs:List Nat) (j:Nat),j<QF f bs->128<=bs[j]?.getD 0
 | 0,_,_,h=>absurd h (Nat.not_lt_zero _)
 | _+1,[],_,h=>absurd h (Nat.not_lt_zero _)
 | f+1,x::xs,j,h=>by
   unfold QF at h
   split at h
   . rename_i hx
     cases j with
     | zero=>simpa using hx
     | succ j=>simpa using XE f xs j (by omega)
   exact absurd h (Nat.not_lt_zero _)
theorem XF:∀(f:Nat) (bs:List Nat),QF f bs<f->bs[QF f bs]?.getD 0<128
 | 0,_,h=>absurd h (Nat.not_lt_zero _)
 | _+1,[],_=>by simp
 | f+1,x::xs,h=>by
   unfold QF at h ⊢
   split
   . rename_i hx
     rw [if_pos hx]at h
     simpa using XF f xs (by omega)
   rename_i hx
   simp
   omega
theorem XG:∀(f i n:Nat) (bs:List Nat),
   (QF f bs=f->(Je f i n bs).2.2=18) /\
   (QF f bs<f->bs.length<=QF f bs->(Je f i n bs).2.2=3) /\
   (QF f bs<f->QF f bs<bs.length->bs[QF f bs]?.getD 0=0/\0<i+QF f bs->(Je f i n bs).2.2=5) /\
   (QF f bs<f->QF f bs<bs.length->¬(bs[QF f bs]?.getD 0=0/\0<i+QF f bs)->4611686018427387903<n+2^(7*i)*Jf (bs.take (QF f bs+1))->(Je f i n bs).2.2=18) /\
   (QF f bs<f->QF f bs<bs.length->¬(bs[QF f bs]?.getD 0=0/\0<i+QF f bs)->n+2^(7*i)*Jf (bs.take (QF f bs+1))<=4611686018427387903->Je f i n bs=(n+2^(7*i)*Jf (bs.take (QF f bs+1)),i+QF f bs+1,0))
 | 0,i,n,bs=>⟨fun _=>rfl,fun h=>absurd h (Nat.not_lt_zero _),fun h=>absurd h (Nat.not_lt_zero _),fun h=>absurd h (Nat.not_lt_zero _),fun h=>absurd h (Nat.not_lt_zero _)⟩
 | f+1,i,n,[]=>⟨fun h=>absurd h (by simp [QF]),fun _ _=>rfl,fun _ h=>absurd h (by simp),fun _ h=>absurd h (by simp),fun _ h=>absurd h (by simp)⟩
 | f+1,i,n,x::xs=>by
   by_cases hx:128<=x
   . have hl:QF (f+1) (x::xs)=QF f xs+1:=by simp [QF,hx]
     have hv:Je (f+1) i n (x::xs)=Je f (i+1) (n+x%128*2^(7*i)) xs:=by simp [Je,hx]
     have hp:2^(7*(i+1))=2^(7*i)*128:=by rw [show 7*(i+1)=7*i+7 by omega,Nat.pow_add]
     have hs:n+2^(7*i)*Jf ((x::xs).take (QF f xs+1+1))=n+x%128*2^(7*i)+2^(7*(i+1))*Jf (xs.take (QF f xs+1)):=by
       rw [List.take_succ_cons,Jf,hp,Nat.mul_add,Nat.mul_comm (2^(7*i)) (x%128),Nat.mul_assoc];omega
     (have hg:(x::xs)[QF f xs+1]?.getD 0=xs[QF f xs]?.getD 0:=by simp);(have he:i+(QF f xs+1)=i+1+QF f xs:=by omega);obtain⟨a,b,c,d,e⟩:=XG f (i+1) (n+x%128*2^(7*i)) xs;rw [hl,hv,hs,hg,he];simp only [List.length_cons];exact⟨fun h=>a (by omega),fun h h2=>b (by omega) (by omega),fun h h2 h3=>c (by omega) (by omega) h3,fun h h2 h3 h4=>d (by omega) (by omega) h3 h4,fun h h2 h3 h4=>e (by omega) (by omega) h3 h4⟩
   (have hl:QF (f+1) (x::xs)=0:=by simp [QF,hx])
   have hs:n+2^(7*i)*Jf ((x::xs).take (0+1))=n+x%128*2^(7*i):=by
     simp [Jf,Nat.mul_comm]
   (have hg:(x::xs)[0]?.getD 0=x:=by simp);rw [hl,hs,hg];simp only [List.length_cons,Nat.add_zero];unfold Je;rw [if_neg hx];refine⟨fun h=>absurd h (by omega),fun h h2=>absurd h2 (by omega),fun h h2 h3=>by rw [if_pos h3],fun h h2 h3 h4=>by rw [if_neg h3,if_pos h4],fun h h2 h3 h4=>by rw [if_neg h3,if_neg (by omega)]⟩
theorem Xj:∀l:List Nat,Jf l<2^(7*l.length)
 | []=>by simp [Jf]
 | x::xs=>by
   have h:=Xj xs
   have hp:2^(7*(xs.length+1))=2^(7*xs.length)*128:=by rw [show 7*(xs.length+1)=7*xs.length+7 by omega,Nat.pow_add]
   have:=Nat.mod_lt x (show 0<128 by omega)
   simp only [Jf,List.length_cons,hp]
   omega
theorem Q3k {l:List Nat} {i:Nat} (h:i<l.length):Jf (l.drop i)=l[i]?.getD 0%128+128*Jf (l.drop (i+1)):=by
 rw [List.drop_eq_getElem_cons h,Jf,List.getElem?_eq_getElem h];rfl
def Kq (bs:List Nat) (e:Ending):Prop :=
  ∃(x:Nat) (q:Int),e = .returned (.tuple #[.int .u64 (x:Nat),.int .i64 q,.int .i64 (Qh bs).2.2])/\((Qh bs).2.2=0->x=(Qh bs).1/\q=(Qh bs).2.1)
theorem Kq.err {bs:List Nat} {e:Ending} {x:Int} (hv:(Qh bs).2.2=x) (hx:x≠0) (h:e = .returned (.tuple #[.int .u64 0,.int .i64 0,.int .i64 x])):Kq bs e :=
 ⟨0,0,by rw [hv];exact h,fun h0=>absurd (hv ▸ h0) hx⟩
theorem Q2j (F:Nat->Prop) (A:Option Addr) (n c:Nat) (bs:List Nat) (w:World) (hr:Rd w F A n (Qi bs)) (hlt:∀b∈bs,b<256) (hn:n<=100000) :
   Calls Tryz.prog 40 #[.slice A n c,.int .i64 0] w fun e w'=>Kq bs e/\w=w':=by
 (have hL:bs.length=n:=by have:=hr.1;simpa using this);(have hnI:(n:Int)<=100000:=by omega);obtain⟨v1,v2,v3,v4,v5⟩:=XG 9 0 0 bs;have hv:Je 9 0 0 bs=Qh bs:=rfl;rw [hv]at v1 v2 v3 v4 v5;have hK9:=Q0A 9 bs;have hKn:=XD 9 bs;have hbig:=XE 9 bs;have hlow:=XF 9 bs;generalize QF 9 bs=K at *;rw [hL]at v2 v3 v4 v5 hKn;simp only [Nat.zero_add,Nat.mul_zero,Nat.pow_zero,Nat.one_mul]at v3 v4 v5
 have HCELL:=hd_ (fun k (hk:k<n)=>show ∃b o z,A=some ⟨b,o,none⟩/\w.cell? ⟨b,o+k,none⟩=some (.int .u8 (z:Nat))/\z=bs[k]?.getD 0/\z<256 from by
   obtain⟨b,o,rfl,_,_,hc⟩:=hr.at_ (k:=k) hk;(have hkb:k<bs.length:=by omega)
   have hz:(Qi bs)[k]?=some (.int .u8 ((bs[k]:Nat):Int)):=by
     simp only [Qi,List.getElem?_map];rw [List.getElem?_eq_getElem hkb];rfl
   rw [hz]at hc
   exact⟨b,o,bs[k],rfl,hc,by rw [List.getElem?_eq_getElem hkb];rfl,hlt _ (List.getElem_mem hkb)⟩)
 have V1:=hd_ v1;have V2:=hd_ v2;have V3:=hd_ v3;have V4:=hd_ v4;have V5:=hd_ v5;have HBIG:=hd_ hbig;have HLOW:=hd_ hlow;have HL:=hd_ hL;have HKN:=hd_ hKn;have HK9:=hd_ hK9;(have hKI:(K:Int)<=9:=by omega);(have hKnI:(K:Int)<=n:=by omega);clear v1 v2 v3 v4 v5 hv hbig hlow hlt hr hL hKn hn hK9;refine Q6 fun R hR=>?_;go_enter Tryz.func40,Tryz.ntmps40;go_wp2_with fail;go_loopg [7] K (fun mm i wr=>wr=w/\∃k:Nat,k+mm=K/\i = .int .i64 (k:Int))
 case atStart=>exact⟨rfl,0,by omega,rfl⟩
 case round =>
   obtain⟨rfl,k,hk,rfl⟩:=hrel;by_cases hkK:k<K
   . have h9:(k:Int)<9:=by omega
     (have hnn:(k:Int)<n:=by omega);obtain⟨b,o,z,rfl,hc,hz,hz8⟩:=HCELL.out k (by omega);have hb:=HBIG.out k hkK;rw [<-hz]at hb;(have hzI:(128:Int)<=z:=by omega);have HK:=hd_ hk;have HKK:=hd_ hkK;clear hk hkK hz hb;go_wp2_with fail;go_roundg (gk-1)
     case measure=>have:=HK.out;have:=HKK.out;omega
     case rel=>exact⟨rfl,k+1,by have:=HK.out;have:=HKK.out;omega,by go_num⟩
   (have hkk:k=K:=by omega);subst hkk;clear hkK hk;by_cases h9:k=9
   . subst h9
     clear HCELL;go_wp2_with fail;(try go_ret3);exact hR.out _ _ ⟨Kq.err (V1.out (by first|trivial|rfl)) (by decide) rfl,rfl⟩
   (have h9I:(k:Int)<9:=by have:=HK9.out;omega);have H9:=hd_ h9;clear h9 hKI;by_cases hkn:n<=k
   . have hknI:(n:Int)<=k:=by omega
     have HKN2:=hd_ hkn;clear hkn HCELL hKnI;go_wp2_with fail;(try go_ret3);exact hR.out _ _ ⟨Kq.err (V2.out (by have:=HK9.out;have:=H9.out;omega) HKN2.out) (by decide) rfl,rfl⟩
   (have hknI:(k:Int)<n:=by omega);obtain⟨b,o,z,rfl,hc,hz,hz8⟩:=HCELL.out k (by omega);have hl:=HLOW.out (by have:=HK9.out;have:=H9.out;omega);rw [<-hz]at hl V3 V4 V5;(have hzI:(z:Int)<128:=by omega);have HKN2:=hd_ hkn;clear hkn hl hz8 hz;by_cases h5:z=0/\0<k
   . obtain⟨rfl,hk0⟩:=h5
     (have hk0I:(0:Int)<k:=by omega);go_wp2_with fail;(try go_ret3);exact hR.out _ _ ⟨Kq.err (V3.out (by have:=HK9.out;have:=H9.out;omega) (by have:=HKN2.out;omega) (by first|exact⟨rfl,hk0⟩|exact hk0|simpa using hk0)) (by decide) rfl,rfl⟩
   (have h5':(0:Int)<k->¬(z:Int)=0:=by omega);(have hk8:(k:Int)<=8:=by omega);have hwin:=hd_ (V5.out (by have:=HK9.out;have:=H9.out;omega) (by have:=HKN2.out;omega) h5);have hlim:=hd_ (V4.out (by have:=HK9.out;have:=H9.out;omega) (by have:=HKN2.out;omega) h5);obtain⟨T,hT⟩:=nm_ (bs.take (k+1));(have hTl:T.length=k+1:=by rw [hT,List.length_take];have:=HKN2.out;have:=HL.out;omega);(have hTg:∀j,j<=k->T[j]?.getD 0=bs[j]?.getD 0:=fun j hj=>by rw [hT,List.getElem?_take_of_lt (by omega)]);have HTG:=hd_ hTg;have HTL:=hd_ hTl;rw [<-hT]at hwin hlim;clear hT hTg hTl;by_cases hk0:(0:Int)<k
   all_goals
     (try have h50:=h5' hk0);go_wp2_with fail;go_loopg [8,9] (k+1) (fun mm x i wz=>wz=wr/\mm<=k+1/\i = .int .i64 ((mm:Int)-1)/\x = .int .u64 (Jf (T.drop mm):Nat))
     case atStart =>
       refine⟨rfl,Nat.le_refl _,?_,?_⟩
       . congr 1;omega
       rw [List.drop_of_length_le (by have:=HTL.out;omega)];rfl
     case round =>
       obtain⟨rfl,hmk,rfl,rfl⟩:=hrel
       cases gk with
       | zero =>
         rw [List.drop_zero];have hvl:=Xj T;obtain⟨V,hV⟩:=nm_ (Jf T);rw [<-hV]at hvl hwin hlim ⊢;have hV64:V<2^63:=Nat.lt_of_lt_of_le hvl (Nat.pow_le_pow_right (by omega) (by have:=HTL.out;omega));(have hV64I:(V:Int)<9223372036854775808:=by omega);have h01:((0:Nat):Int)-1=-1:=rfl;clear hV hvl hV64 hc hzI hmk;simp only [h01];by_cases hm:4611686018427387903<V
         . have hmI:(4611686018427387903:Int)<V:=by omega
           have HM:=hd_ hm;clear hm;go_wp2_with fail;(try go_ret3);exact hR.out _ _ ⟨Kq.err (hlim.out HM.out) (by decide) rfl,rfl⟩
         (have hmI:(V:Int)<=4611686018427387903:=by omega);have HM:=hd_ hm;have hmd:((4611686018427387903:Int)<V)=False:=eq_false (by omega);have hmd2:decide ((4611686018427387903:Int)<V)=false:=decide_eq_false (by omega);clear hm hV64I hmI;go_wp2_with fail;(try go_ret3);have hw:=hwin.out (by have:=HM.out;omega);refine hR.out _ _ ⟨⟨V,(k:Int)+1,?_,fun _=>?_⟩,rfl⟩
         . rw [hw];rfl
         rw [hw];exact⟨rfl,by simp⟩
       | succ j =>
         obtain⟨b',o',z',he,hcz,hz',hz8⟩:=HCELL.out j (by omega);cases he;have hvl:=Xj (T.drop (j+1));have hvd:=Q3k (l:=T) (i:=j) (by have:=HTL.out;omega);rw [HTG.out j (by omega),<-hz']at hvd;obtain⟨V,hV⟩:=nm_ (Jf (T.drop (j+1)));obtain⟨V2,hV2⟩:=nm_ (Jf (T.drop j));rw [<-hV]at hvl hvd ⊢;have hV56:V<2^56:=Nat.lt_of_lt_of_le hvl (Nat.pow_le_pow_right (by omega) (by have:=HTL.out;simp;omega));(have hV56I:(V:Int)<72057594037927936:=by omega);(have hjI:((j+1:Nat):Int)-1=j:=by omega);(have hjk:(j:Int)<=8:=by omega);(have hjn:(j:Int)<n:=by omega);(have hz8I:(z':Int)<=255:=by omega);have HVD:=hd_ hvd;have HMK:=hd_ hmk;clear hV hV2 hvl hvd hV56 hc hzI hmk hz' hz8;simp only [hjI];go_wp2_with fail;go_roundg j
         case measure=>omega
         case rel =>
           refine⟨rfl,by have:=HMK.out;omega,rfl,?_⟩;rw [HVD.out]
           congr 1
           omega
def Q0B (lg:Int) (N:List Int):Nat->List Int->Int->Option Int
  | _,[],a=>some a
  | i,c::l,a=>if c=0 then Q0B lg N (i+1) l a else
      match N[i]? with
      | none=>none
      | some v=>if v=0 then none else Q0B lg N (i+1) l (a+c*(lg+1-(Lib.bitLen (max v (-v)).toNat:Nat)))
def Q5g (lg:Int) (N C:List Int):Int × Int :=
  if Qg lg N 256 9/\0<=Q0p C 9 then(match Q0B lg N 0 C 0 with|some a=>(a,0)|none=>(0,2))else(0,2)

structure Ch where
  mo:Int
  lg:Int
  A:Option Addr
  n:Nat
  c:Nat
  x:Int
def Ch.vals (t:Ch):List Value:=[.int .i64 t.mo,.int .i64 t.lg,.slice t.A t.n t.c,.int .i64 t.x]
def Ch.val (t:Ch):Value:=.agg #[.int .i64 t.mo,.int .i64 t.lg,.slice t.A t.n t.c,.int .i64 t.x]
def Chs (w:World) (b o:Nat) (ts:List Ch):Prop:=b<w.heap.size/\∀j (h:j<ts.length),
  w.cell? ⟨b,o+j*4,none⟩=some (.int .i64 ts[j].mo)/\w.cell? ⟨b,o+j*4+1,none⟩=some (.int .i64 ts[j].lg)/\w.cell? ⟨b,o+j*4+2,none⟩=some (.slice ts[j].A ts[j].n ts[j].c)/\w.cell? ⟨b,o+j*4+3,none⟩=some (.int .i64 ts[j].x)
def Q4m:Ch->List Ch->Ch
  | t,[]=>t
  | t,s::l=>Q4m (if s.x<t.x then s else t) l
theorem ZH (p:Int) (w:World) (h:0<=p/\p<=2):Calls Tryz.prog 62 #[.int .i64 p] w fun e w'=>e = .returned (.int .i64 (Qj p))/\w=w':=by
 rcases Jd h with rfl|rfl|rfl
 all_goals
   go_enter Tryz.func62,Tryz.ntmps62;go_wp2;go_ret;exact⟨rfl,rfl⟩
theorem Q0C (p:Int) (w:World) (h:0<=p/\p<=2):Calls Tryz.prog 66 #[.int .i64 p] w fun e w'=>e = .returned (.int .i64 (QH p))/\w=w':=by
 rcases Jd h with rfl|rfl|rfl
 all_goals
   go_enter Tryz.func66,Tryz.ntmps66;go_wp2;go_ret;exact⟨rfl,rfl⟩
theorem Q5B (p:Int) (w:World) (h:0<=p/\p<=2):Calls Tryz.prog 63 #[.int .i64 p] w fun e w'=>VP w w' e (Jk p) (JV p):=by
 rcases Jd h with rfl|rfl|rfl
 all_goals
   refine Q6 fun R hR=>?_;go_enter Tryz.func63,Tryz.ntmps63;go_wp2;refine bodyPost_ret (results_cell_row rfl _ _ w.heap.size _ _ _ _ rfl ((Blk.new w _ _).alloc _) Tryz.underlying29 rfl (by kernel_rfl)) rfl ?_;refine hR.out _ _ ⟨w.heap.size+1,rfl,?_,by omega,((Upd.refl _ _).alloc _).alloc _⟩;refine Blk.rdg (t:=3) ?_ rfl;exact Q2 (by simp) _ _
theorem Q4n (F:Nat->Prop) (A:Option Addr) (n c:Nat) (lg p:Int) (N:List Int) (w:World) (hr:Rd w F A n (Q1 N)) (hfit:Fit N) (hn:(n:Int)<=1099511627776) (hp:0<=p/\p<=2) :
   Calls Tryz.prog 67 #[.agg #[.int .i64 lg,.slice A n c],.int .i64 p] w fun e w'=>e = .returned (.bool (decide (Qg lg N (Qj p) (QH p))))/\Q0 w w':=by
 obtain⟨w0,hw0⟩:=nm_ (w.alloc (.cells #[.int .i64 lg,.slice A n c] 29));obtain⟨H,hH⟩:=nm_ (w.heap.size);(have f0:Q0 w w0:=by rw [hw0];exact(Upd.refl _ _).alloc _);(have bt:Blk w0 H 29 #[.int .i64 lg,.slice A n c]:=by rw [hw0];exact Q2 hH _ _);obtain⟨t0,t1⟩:=(bt).cells2;have HSY:=hd_ (fun W=>ZH p W hp);have HLG:=hd_ (fun W=>Q0C p W hp);have HMY:=hd_ (fun W (h:Q0 w0 W)=>XH F A n c lg (Qj p) (QH p) N W ((hr.fresh f0).fresh h) hfit hn);have HBT:=hd_ (fun W (h:Q0 w0 W)=>bt.fresh h);have HSS:=hd_ (show ∀W,Q0 w0 W->(Q0 w0 W/\W.cell? ⟨H,0,none⟩=some (.int .i64 lg)/\W.cell? ⟨H,1,none⟩=some (.slice A n c))from fun W h=>⟨h,by simpa using(bt.fresh h).cell 0,by simpa using(bt.fresh h).cell 1⟩);have F0:=hd_ f0;have HW:=hd_ hw0;have HH:=hd_ hH;have HV:∀P:Prop,[Decidable P]->Hid (((if P then(0:Int)else 13) == 0)=decide P):=fun P _=>hd_ (by by_cases h:P<;>simp [h]);have HV1:=HV (Qg lg N (Qj p) (QH p));clear f0 bt hw0 hH hr hp HV;generalize hvd:decide (Qg lg N (Qj p) (QH p))=vd at *;generalize (if Qg lg N (Qj p) (QH p)then(0:Int)else 13)=er at *;generalize Qj p=s at *;generalize QH p=x at *;clear hvd;refine Q6 fun R hR=>?_;go_enter Tryz.func67,Tryz.ntmps67;go_upto_region 1 with fail;simp only [<-HH.out,<-HW.out]
 go_region_held3 (fun W=>Q0 w0 W/\W.cell? ⟨H,0,none⟩=some (.int .i64 lg)/\W.cell? ⟨H,1,none⟩=some (.slice A n c))
   (first|exact HSS.out _ (by assumption)|exact HSS.out _ (And.left (by assumption))|exact HSS.out _ (Upd.refl _ _)|exact HSS.out _ (Upd.refl _ _).drew)
   (first
     | (go_at_call 62;refine(HSY.out _).mono ?_;rintro e w' ⟨rfl,rfl⟩)
     | (go_at_call 66;refine(HLG.out _).mono ?_;rintro e w' ⟨rfl,rfl⟩)
     | (go_at_call 105;refine(HMY.out _ (And.left (by assumption))).mono ?_;rintro e w' ⟨rfl,f2⟩;have f3x:Q0 w0 w':=Upd.trans' (And.left (by assumption)) f2))
 (all_goals go_wp2_with fail);(all_goals try go_ret)
 all_goals
   rw [HV1.out];exact hR.out _ _ ⟨rfl,F0.out.trans' (And.left (by assumption))⟩
end Go.Proofs.YtjfdaphjijfieaaGreat
