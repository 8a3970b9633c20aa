/-
  Joined texts, part 22: contracts and plain lemmas.
  Conditions: none beyond those of each theorem.
-/
import Derived.Test.YtjfdaphjijfieaaGreatL15
import Derived.Test.YtjfdaphjijfieaaGreatL20
import Derived.Laws.EntriesVeiled
import Derived.Test.YtjfdaphjijfieaaGreatL13
set_option maxHeartbeats 4000000
set_option linter.unusedVariables false
set_option linter.unusedSimpArgs false
set_option maxRecDepth 100000
universe u
namespace Go.Proofs.YtjfdaphjijfieaaGreat
open Go.RowKit
def Ya (p:Int):List Int:=if p=0 then llN else if p=1 then ofN else mlN
def Yi (p:Int):Int:=if p=1 then 5 else 6
def Ql (p:Int):Int:=if p=1 then 8 else 9
def Ke (w w':World) (e:Ending) (lg:Int) (N:List Int) (x:Int):Prop :=
  ∃g,e = .returned (.tuple #[.agg #[.int .i64 lg,.slice (some ⟨g,0,none⟩) N.length N.length],.int .i64 x])/\Rd w' (fun b=>b=g) (some ⟨g,0,none⟩) N.length (Q2 N)/\w.heap.size<=g/\Q0 w w'
theorem Q9N (p:Int) (w:World) (h:p<0\/2<p):Calls Tryz.prog 178 #[.int .i64 p] w fun e w'=>e = .returned (.tuple #[.agg #[.nilFunc,.int .i64 0],.int .i64 2])/\Q0 w w':=by
 refine Q6 fun R hR=>?_;rcases h with h|h
 all_goals
   go_enter Tryz.func178,Tryz.ntmps178;go_wp2_with fail;exact bodyPost_ret (Q5 rfl _ _ w.heap.size _ _ _ rfl ((Blk.new w 276 #[.nilFunc,.int .i64 0]).alloc _) Tryz.underlying276 rfl (by kernel_rfl)) rfl (hR.out _ _ ⟨rfl,((Upd.refl _ _).alloc _).alloc _⟩)
theorem Q69 (p:Int) (w:World) (h:p<0\/2<p):Calls Tryz.prog 139 #[.int .i64 p] w fun e w'=>e = .returned (.tuple #[.agg #[.int .i64 0,.slice none 0 0],.int .i64 2])/\Q0 w w':=by
 obtain⟨w0,hw0⟩:=nm_ (w.alloc (.cells #[.int .i64 0,.slice none 0 0] 29));obtain⟨H,hH⟩:=nm_ (w.heap.size);(have f0:Q0 w w0:=by rw [hw0];exact(Upd.refl _ _).alloc _);have B0:=hd_ (show Blk w0 H 29 #[.int .i64 0,.slice none 0 0] by rw [hw0];exact Q1 hH _ _);have HK:=hd_ (Q9N p w0 h);have HW:=hd_ hw0;have HH:=hd_ hH;have F0:=hd_ f0;clear hw0 hH f0;refine Q6 fun R hR=>?_;go_enter Tryz.func139,Tryz.ntmps139;go_wp2_with fail;simp only [<-HH.out,<-HW.out];refine HK.out.mono ?_;rintro e w1 ⟨rfl,f1⟩;have b1:=B0.out.fresh f1;(have c0:∀o,(w1.alloc o).cell? ⟨H,0,none⟩=some (.int .i64 0):=fun o=>by simpa using(b1.alloc o).cell 0);(have c1:∀o,(w1.alloc o).cell? ⟨H,1,none⟩=some (.slice none 0 0):=fun o=>by simpa using(b1.alloc o).cell 1);have z0:∀o,(w1.alloc o).frozen? ⟨H,0,none⟩=false:=fun o=>(b1.alloc o).frozen 0;have z1:∀o,(w1.alloc o).frozen? ⟨H,1,none⟩=false:=fun o=>(b1.alloc o).frozen 1;have a0:=b1.cell 0;have a1:=b1.cell 1;have y0:=b1.frozen 0;have y1:=b1.frozen 1;have hlt:=b1.lt;simp at a0 a1;have B1:=hd_ b1;have F1:=hd_ (F0.out.trans' f1);clear b1 f1;go_wp2_with fail
 first
   | exact bodyPost_ret (Q5 rfl _ _ H _ _ _ rfl (((B1.out.set_ 0 (.int .i64 0)).set_ 1 (.slice none 0 0)).alloc _) Tryz.underlying29 rfl (by kernel_rfl)) rfl
       (hR.out _ _ ⟨rfl,(F1.out.trans (Y9 w1 H _ _) (fun b hb h=>by have:=HH.out;omega)).alloc _⟩)
   | exact bodyPost_ret (Q5 rfl _ _ H _ _ _ rfl (((B1.out.alloc _).set_ 0 (.int .i64 0)).set_ 1 (.slice none 0 0)) Tryz.underlying29 rfl (by kernel_rfl)) rfl
       (hR.out _ _ ⟨rfl,(F1.out.alloc _).trans (Y9 _ H _ _) (fun b hb h=>by have:=HH.out;omega)⟩)
theorem Q8V (w:World):Calls Tryz.prog 178 #[.int .i64 0] w fun e w'=>e = .returned (.tuple #[.agg #[.func (.func 208) #[] #[],.int .i64 9],.int .i64 0])/\Q0 w w':=by
 refine Q6 fun R hR=>?_;go_enter Tryz.func178,Tryz.ntmps178;go_wp2_with fail;exact bodyPost_ret (Q5 rfl _ _ w.heap.size _ _ _ rfl ((Blk.new w 276 #[.func (.func 208) #[] #[],.int .i64 9]).alloc _) Tryz.underlying276 rfl (by kernel_rfl)) rfl (hR.out _ _ ⟨rfl,((Upd.refl _ _).alloc _).alloc _⟩)
theorem Q35 (w:World):Calls Tryz.prog 139 #[.int .i64 0] w fun e w'=>Ke w w' e 6 llN 0:=by
 obtain⟨w0,hw0⟩:=nm_ (w.alloc (.cells #[.int .i64 0,.slice none 0 0] 29));obtain⟨H,hH⟩:=nm_ (w.heap.size);(have f0:Q0 w w0:=by rw [hw0];exact(Upd.refl _ _).alloc _);have B0:=hd_ (show Blk w0 H 29 #[.int .i64 0,.slice none 0 0] by rw [hw0];exact Q1 hH _ _);have HK:=hd_ (Q8V w0);have HW:=hd_ hw0;have HH:=hd_ hH;have F0:=hd_ f0;clear hw0 hH f0;refine Q6 fun R hR=>?_;go_enter Tryz.func139,Tryz.ntmps139;go_wp2_with fail;simp only [<-HH.out,<-HW.out];refine HK.out.mono ?_;rintro e w1 ⟨rfl,f1⟩;have F1:=hd_ (F0.out.trans' f1);have B1:=hd_ (B0.out.fresh f1);clear f1;go_wp2_with fail;refine(Q91 _).mono ?_;rintro e w2 ⟨g,rfl,r2,hg2,f2⟩;have f12:Q0 w1 w2:=((Upd.refl _ w1).alloc _).trans' f2;have b2:=B1.out.fresh f12;have c0:=b2.cell 0;have c1:=b2.cell 1;have z0:=b2.frozen 0;have z1:=b2.frozen 1;simp at c0 c1;have B2:=hd_ b2;have F2:=hd_ (F1.out.trans' f12);(have hs:w1.heap.size<w2.heap.size:=by have:=f2.size;simp at this;omega);(have hg3:w1.heap.size<g:=by simp at hg2;omega);have hH1:H<w1.heap.size:=B1.out.lt;have R2:=hd_ r2;clear b2 f2 f12 r2;go_wp2_with fail;refine bodyPost_ret (Q5 rfl _ _ H _ _ _ rfl ((B2.out.set_ 0 (.int .i64 6)).set_ 1 (.slice (some ⟨g,0,none⟩) llN.length llN.length)) Tryz.underlying29 rfl (by kernel_rfl)) rfl ?_;refine hR.out _ _ ⟨g,by simp,R2.out.upd (Y9 w2 H _ _) (fun b _ hb h=>by omega),by have:=HH.out;have:=F1.out.size;omega,F2.out.trans (Y9 w2 H _ _) (fun b hb h=>by have:=HH.out;omega)⟩
theorem Q8W (w:World):Calls Tryz.prog 178 #[.int .i64 1] w fun e w'=>e = .returned (.tuple #[.agg #[.func (.func 209) #[] #[],.int .i64 8],.int .i64 0])/\Q0 w w':=by
 refine Q6 fun R hR=>?_;go_enter Tryz.func178,Tryz.ntmps178;go_wp2_with fail;exact bodyPost_ret (Q5 rfl _ _ w.heap.size _ _ _ rfl ((Blk.new w 276 #[.func (.func 209) #[] #[],.int .i64 8]).alloc _) Tryz.underlying276 rfl (by kernel_rfl)) rfl (hR.out _ _ ⟨rfl,((Upd.refl _ _).alloc _).alloc _⟩)
theorem Q36 (w:World):Calls Tryz.prog 139 #[.int .i64 1] w fun e w'=>Ke w w' e 5 ofN 0:=by
 obtain⟨w0,hw0⟩:=nm_ (w.alloc (.cells #[.int .i64 0,.slice none 0 0] 29));obtain⟨H,hH⟩:=nm_ (w.heap.size);(have f0:Q0 w w0:=by rw [hw0];exact(Upd.refl _ _).alloc _);have B0:=hd_ (show Blk w0 H 29 #[.int .i64 0,.slice none 0 0] by rw [hw0];exact Q1 hH _ _);have HK:=hd_ (Q8W w0);have HW:=hd_ hw0;have HH:=hd_ hH;have F0:=hd_ f0;clear hw0 hH f0;refine Q6 fun R hR=>?_;go_enter Tryz.func139,Tryz.ntmps139;go_wp2_with fail;simp only [<-HH.out,<-HW.out];refine HK.out.mono ?_;rintro e w1 ⟨rfl,f1⟩;have F1:=hd_ (F0.out.trans' f1);have B1:=hd_ (B0.out.fresh f1);clear f1;go_wp2_with fail;refine(Q92 _).mono ?_;rintro e w2 ⟨g,rfl,r2,hg2,f2⟩;have f12:Q0 w1 w2:=((Upd.refl _ w1).alloc _).trans' f2;have b2:=B1.out.fresh f12;have c0:=b2.cell 0;have c1:=b2.cell 1;have z0:=b2.frozen 0;have z1:=b2.frozen 1;simp at c0 c1;have B2:=hd_ b2;have F2:=hd_ (F1.out.trans' f12);(have hs:w1.heap.size<w2.heap.size:=by have:=f2.size;simp at this;omega);(have hg3:w1.heap.size<g:=by simp at hg2;omega);have hH1:H<w1.heap.size:=B1.out.lt;have R2:=hd_ r2;clear b2 f2 f12 r2;go_wp2_with fail;refine bodyPost_ret (Q5 rfl _ _ H _ _ _ rfl ((B2.out.set_ 0 (.int .i64 5)).set_ 1 (.slice (some ⟨g,0,none⟩) ofN.length ofN.length)) Tryz.underlying29 rfl (by kernel_rfl)) rfl ?_;refine hR.out _ _ ⟨g,by simp,R2.out.upd (Y9 w2 H _ _) (fun b _ hb h=>by omega),by have:=HH.out;have:=F1.out.size;omega,F2.out.trans (Y9 w2 H _ _) (fun b hb h=>by have:=HH.out;omega)⟩
theorem Q8X (w:World):Calls Tryz.prog 178 #[.int .i64 2] w fun e w'=>e = .returned (.tuple #[.agg #[.func (.func 210) #[] #[],.int .i64 9],.int .i64 0])/\Q0 w w':=by
 refine Q6 fun R hR=>?_;go_enter Tryz.func178,Tryz.ntmps178;go_wp2_with fail;exact bodyPost_ret (Q5 rfl _ _ w.heap.size _ _ _ rfl ((Blk.new w 276 #[.func (.func 210) #[] #[],.int .i64 9]).alloc _) Tryz.underlying276 rfl (by kernel_rfl)) rfl (hR.out _ _ ⟨rfl,((Upd.refl _ _).alloc _).alloc _⟩)
theorem Q37 (w:World):Calls Tryz.prog 139 #[.int .i64 2] w fun e w'=>Ke w w' e 6 mlN 0:=by
 obtain⟨w0,hw0⟩:=nm_ (w.alloc (.cells #[.int .i64 0,.slice none 0 0] 29));obtain⟨H,hH⟩:=nm_ (w.heap.size);(have f0:Q0 w w0:=by rw [hw0];exact(Upd.refl _ _).alloc _);have B0:=hd_ (show Blk w0 H 29 #[.int .i64 0,.slice none 0 0] by rw [hw0];exact Q1 hH _ _);have HK:=hd_ (Q8X w0);have HW:=hd_ hw0;have HH:=hd_ hH;have F0:=hd_ f0;clear hw0 hH f0;refine Q6 fun R hR=>?_;go_enter Tryz.func139,Tryz.ntmps139;go_wp2_with fail;simp only [<-HH.out,<-HW.out];refine HK.out.mono ?_;rintro e w1 ⟨rfl,f1⟩;have F1:=hd_ (F0.out.trans' f1);have B1:=hd_ (B0.out.fresh f1);clear f1;go_wp2_with fail;refine(Q93 _).mono ?_;rintro e w2 ⟨g,rfl,r2,hg2,f2⟩;have f12:Q0 w1 w2:=((Upd.refl _ w1).alloc _).trans' f2;have b2:=B1.out.fresh f12;have c0:=b2.cell 0;have c1:=b2.cell 1;have z0:=b2.frozen 0;have z1:=b2.frozen 1;simp at c0 c1;have B2:=hd_ b2;have F2:=hd_ (F1.out.trans' f12);(have hs:w1.heap.size<w2.heap.size:=by have:=f2.size;simp at this;omega);(have hg3:w1.heap.size<g:=by simp at hg2;omega);have hH1:H<w1.heap.size:=B1.out.lt;have R2:=hd_ r2;clear b2 f2 f12 r2;go_wp2_with fail;refine bodyPost_ret (Q5 rfl _ _ H _ _ _ rfl ((B2.out.set_ 0 (.int .i64 6)).set_ 1 (.slice (some ⟨g,0,none⟩) mlN.length mlN.length)) Tryz.underlying29 rfl (by kernel_rfl)) rfl ?_;refine hR.out _ _ ⟨g,by simp,R2.out.upd (Y9 w2 H _ _) (fun b _ hb h=>by omega),by have:=HH.out;have:=F1.out.size;omega,F2.out.trans (Y9 w2 H _ _) (fun b hb h=>by have:=HH.out;omega)⟩
theorem Q7r (F:Nat->Prop) (g pc:Nat) (bs:List Nat) (at_:Nat) (w:World) (hcu:Qk w F g bs at_) (hk:at_<bs.length)
   (bc:Blk w pc 35 #[.pointer (some ⟨g,0,none⟩)]) (hF:∀b,F b->b≠g) :
   Calls Tryz.prog 86 #[.pointer (some ⟨pc,0,none⟩)] w fun e w'=>e = .returned (.tuple #[.int .u8 ((bs[at_]?.getD 0:Nat):Int),.int .i64 0]) /\
     Upd (fun b=>b=g) w w'/\Qk w' F g bs (at_+1):=by
 have hl:=KP F g bs at_ w hcu;obtain⟨A,c,hb,hr,hlt,hat,hlen,hcap⟩:=hcu;have hc:=bc.cell0;(have i1:((bs.length-at_:Nat):Int)≠0:=by omega);(have i2:(((bs.length-at_:Nat):Int) == 0)=false:=by simpa using i1);(have i4:(bs.length:Int)<=4294967296:=by omega);(have i3:(at_:Int)<bs.length:=by omega);obtain⟨b,o,hA,hb1,hb2,hb3⟩:=hr.at_ hk;obtain⟨x,hx⟩:=nm_ (bs[at_]);(have hx2:bs[at_]?.getD 0=x:=by rw [List.getElem?_eq_getElem hk,hx];rfl);rw [hx2];(have hb4:w.cell? ⟨b,o+at_,none⟩=some (.int .u8 (x:Nat)):=by rw [hb3];simp [hk,hx]);have HL:=hd_ hl;have HB:=hd_ hb;have HR:=hd_ hr;have HBC:=hd_ bc;have HB4:=hd_ hb4;have HF1:=hd_ (hF b hb1);clear hl hb hr bc hb3 hb4 hx hx2;generalize bs.length-at_=D at *;subst hA;refine Q6 fun R hR=>?_;go_enter Tryz.func86,Tryz.ntmps86;go_wp2_with fail;refine HL.out.mono ?_;rintro e w1 ⟨rfl,k,rfl⟩;have f1:Q0 w (w.drewN k):=(Upd.refl _ w).drewN k;generalize w.drewN k=W at *;have b1:=HB.out.fresh f1;have bc1:=HBC.out.fresh f1;have hcc1:=bc1.cell0;have hc1':=b1.cell 1;have hc0':=b1.cell 0;have hf1':=b1.frozen 1;simp only [List.getElem?_toArray,List.getElem?_cons_succ,List.getElem?_cons_zero]at hc1' hc0';have B1:=hd_ b1;have BC1:=hd_ bc1;clear b1 bc1;have s0:IntKind.i64.wrap ((at_:Int)+1)=at_+1:=IntWalk.i64_in _ (by omega);go_wp2_with fail;have b2:=B1.out.set_ 1 (.int .i64 ((at_:Int)+1));have u2:Upd (fun b=>b=g) w (W.setCell ⟨g,1,none⟩ (.int .i64 ((at_:Int)+1))):=((f1.mono (T:=fun b=>b=g) (fun _ _ h=>h.elim)).setCell (p:=⟨g,1,none⟩) (fun _=>rfl) _);have bc2:=BC1.out.far (p:=⟨g,1,none⟩) (BC1.out.ne_ B1.out (by decide)) (.int .i64 ((at_:Int)+1))
 have x2:(W.setCell ⟨g,1,none⟩ (.int .i64 ((at_:Int)+1))).cell? ⟨b,o+at_,none⟩=some (.int .u8 (x:Nat)):=by
   rw [<-HB4.out];exact u2.cell (p:=⟨b,o+at_,none⟩) hb2 HF1.out
 generalize (W.setCell ⟨g,1,none⟩ (.int .i64 ((at_:Int)+1)))=W2 at *;have hcc2:=bc2.cell0;have hc2:=b2.cell 1;have hc20:=b2.cell 0;simp at hc2 hc20;have B2:=hd_ b2;clear b2 bc2 hcc1 hc1' hc0' hf1' hc;(have s5:(at_:Int)+1-1=at_:=by omega);have s6:IntKind.i64.wrap (at_:Int)=at_:=IntWalk.i64_in _ (by omega);(have s7:IntKind.i64.wrap ((at_:Int)+1-1)=at_:=by rw [s5];exact s6);have hm2:=x2;go_quiet (fail);go_wp2_with fail;(try go_ret2);refine hR.out _ _ ⟨rfl,u2.drewN _,some ⟨b,o,none⟩,c,?_,?_,hlt,hk,hlen,hcap⟩
 . have:=B2.out.drewN nq
   simpa using this
 exact(HR.out.upd u2 (fun b _ hb e=>hF b hb e)).drewN _
theorem Q6a (F:Nat->Prop) (g pc:Nat) (bs:List Nat) (w:World) (hcu:Qk w F g bs bs.length)
   (bc:Blk w pc 35 #[.pointer (some ⟨g,0,none⟩)]) :
   Calls Tryz.prog 86 #[.pointer (some ⟨pc,0,none⟩)] w fun e w'=>e = .returned (.tuple #[.int .u8 0,.int .i64 3])/\∃k,w'=w.drewN k:=by
 have hl:=KP F g bs bs.length w hcu;rw [Nat.sub_self]at hl;have hc:=bc.cell0;have HL:=hd_ hl;clear hl hcu bc;refine Q6 fun R hR=>?_;go_enter Tryz.func86,Tryz.ntmps86;go_wp2_with fail;refine HL.out.mono ?_;rintro e w1 ⟨rfl,k,rfl⟩;go_wp2_with fail;(try go_ret2);exact hR.out _ _ ⟨rfl,k,rfl⟩
theorem Q52 (pe pf px pc:Addr) (u:FrameMode) (w:World) (he:w.cell? pe=some (.int .i64 0)) :
   CallsD Tryz.prog 135 #[.pointer (some pe),.pointer (some pf),.pointer (some px),.pointer (some pc)] u w fun e u' w'=>u'=u/\(e = .returned (.tuple #[])/\w'=w):=by
 go_enter_d Tryz.func135,Tryz.ntmps135;go_wp2;go_end0;exact⟨rfl,rfl⟩
theorem Q53 (g H:Nat) (at_:Nat) (x:Int) (A:Option Addr) (n c:Nat) (u:FrameMode) (w:World)
   (b0:Blk w H 35 #[.pointer (some ⟨g,0,none⟩)]) (b1:Blk w (H+1) 5 #[.int .u8 x]) (b2:Blk w (H+1+1) 38 #[.int .i64 3]) (b3:Blk w (H+1+1+1) 3 #[.int .i64 at_])
   (bg:Blk w g 67 #[.slice A n c,.int .i64 at_]) (hg:g<H) :
   CallsD Tryz.prog 135 #[.pointer (some ⟨H+1+1,0,none⟩),.pointer (some ⟨H+1+1+1,0,none⟩),.pointer (some ⟨H+1,0,none⟩),.pointer (some ⟨H,0,none⟩)] u w fun e u' w'=>u'=u/\(e = .returned (.tuple #[]) /\
     w'=(w.setCell ⟨H+1,0,none⟩ (.int .u8 0)).setCell ⟨g,1,none⟩ (.int .i64 at_)):=by
 have c0:=b0.cell0;have c1:=b1.cell0;have c2:=b2.cell0;have c3:=b3.cell0;have z1:=b1.frozen 0;have zg:=bg.frozen 1;have g1:=bg.cell 1;simp at g1;go_enter_d Tryz.func135,Tryz.ntmps135;go_wp2;go_end0;exact⟨rfl,rfl⟩
theorem Q7s (F:Nat->Prop) (g pc:Nat) (bs:List Nat) (at_:Nat) (w:World) (hcu:Qk w F g bs at_) (hk:at_<bs.length)
   (bc:Blk w pc 35 #[.pointer (some ⟨g,0,none⟩)]) (hF:∀b,F b->b≠g) :
   Calls Tryz.prog 85 #[.pointer (some ⟨g,0,none⟩),.func (.func 86) #[] #[.pointer (some ⟨pc,0,none⟩)]] w fun e w' =>
     e = .returned (.tuple #[.int .u8 ((bs[at_]?.getD 0:Nat):Int),.int .i64 0])/\Upd (fun b=>b=g) w w'/\Qk w' F g bs (at_+1):=by
 have hmf:∀(fn:Fn) (first cap:Array Value) (w:World),(Instr.makeFunc fn first cap).run Tryz.prog w = .ok (.func fn first cap) w:=fun _ _ _ _=>rfl;have hg:=hcu.lt
 have hat:w.cell? ⟨g,1,none⟩=some (.int .i64 at_):=by
   obtain⟨A,c,hb,_⟩:=hcu;simpa using hb.cell 1
 have HCU:=hd_ hcu;have HBC:=hd_ bc;clear hcu bc;(have hg1:g<w.heap.size+1:=by omega);(have hg2:g<w.heap.size+1+1:=by omega);(have hg3:g<w.heap.size+1+1+1:=by omega);refine Q6 fun R hR=>?_;go_enter_defers Tryz.func85,Tryz.ntmps85;go_wp2_with fail;obtain⟨H,hH⟩:=nm_ (w.heap.size);rw [<-hH]at hg hg1 hg2 hg3;simp only [<-hH];obtain⟨W0,hW0⟩:=nm_ ((((w.alloc (.cells #[.pointer (some ⟨g,0,none⟩)] 35)).alloc (.cells #[.int .u8 0] 5)).alloc (.cells #[.int .i64 0] 38)).alloc (.cells #[.int .i64 at_] 3));rw [<-hW0];(have f0:Q0 w W0:=by rw [hW0];exact((((Upd.refl _ w).alloc _).alloc _).alloc _).alloc _);(have k0:Blk W0 H 35 #[.pointer (some ⟨g,0,none⟩)]:=by rw [hW0];exact(((Q1 (by simp [hH]) _ _).alloc _).alloc _).alloc _);(have k1:Blk W0 (H+1) 5 #[.int .u8 0]:=by rw [hW0];exact((Q1 (by simp [hH]) _ _).alloc _).alloc _);(have k2:Blk W0 (H+1+1) 38 #[.int .i64 0]:=by rw [hW0];exact(Q1 (by simp [hH]) _ _).alloc _);(have k3:Blk W0 (H+1+1+1) 3 #[.int .i64 at_]:=by rw [hW0];exact Q1 (by simp [hH]) _ _);clear hW0;have HH:=hd_ hH;clear hH;generalize hx:((bs[at_]?.getD 0:Nat):Int)=x at *;have hb1:=Q7r (fun b=>F b/\b<w.heap.size) g pc bs at_ W0 (HCU.out.both.fresh f0) hk (HBC.out.fresh f0) (fun b hb=>hF b hb.1);rw [hx]at hb1;clear hx;refine hb1.mono ?_;rintro e w1 ⟨rfl,u1,c1⟩;have j1:=k1.upd u1 (by omega);have j2:=k2.upd u1 (by omega);have uu:Upd (fun b=>b=g) w w1:=(f0.mono (fun _ _ h=>h.elim)).trans' u1;have d1:=j1.cell0;have d2:=j2.cell0;have z1:=j1.frozen 0;have z2:=j2.frozen 0;have J1:=hd_ j1;have J2:=hd_ j2;have HC1:=hd_ c1;clear j1 j2 k0 k1 k2 k3 c1 hb1;go_wp2;have L1:=(J1.out.set_ 0 (.int .u8 x)).far (p:=⟨H+1+1,0,none⟩) (by simp) (.int .i64 0);have L2:=(J2.out.far (p:=⟨H+1,0,none⟩) (by simp) (.int .u8 x)).set_ 0 (.int .i64 0);have hd2:=L2.cell0;have hd1:=L1.cell0;change Leaves _ _ _ _ _ _ _;refine leaves_cons (f:=135) (args:=#[.pointer (some ⟨H+1+1,0,none⟩),.pointer (some ⟨H+1+1+1,0,none⟩),.pointer (some ⟨H+1,0,none⟩),.pointer (some ⟨H,0,none⟩)]) (by simp) (by simp [go_sem]) ?_;refine(Q52 _ _ _ _ .returning _ hd2).mono ?_;rintro e u' w'' ⟨rfl,rfl,rfl⟩;refine⟨.tuple #[.int .u8 x,.int .i64 0],?_,hR.out _ _ ⟨rfl,?_,?_⟩⟩
 . simp [results,Tryz.results85,go_sem,hd1,hd2]
 . exact(uu.setCell (p:=⟨H+1,0,none⟩) (fun h=>by have:=HH.out;simp at h;omega) _).setCell (p:=⟨H+1+1,0,none⟩) (fun h=>by have:=HH.out;simp at h;omega) _
 have m1:=HC1.out.upd (S:=fun b=>b=H+1) ((Upd.refl (fun b=>b=H+1) _).setCell (p:=⟨H+1,0,none⟩) (fun _=>rfl) (.int .u8 x)) (by omega) (fun b _ hb e=>by have:=hb.2;have:=HH.out;omega);have m2:=m1.upd (S:=fun b=>b=H+1+1) ((Upd.refl (fun b=>b=H+1+1) _).setCell (p:=⟨H+1+1,0,none⟩) (fun _=>rfl) (.int .i64 0)) (by omega) (fun b _ hb e=>by have:=hb.2;have:=HH.out;omega);exact m2.mono fun b hb=>hb.1
theorem Q6b (F:Nat->Prop) (g pc:Nat) (bs:List Nat) (at_:Nat) (w:World) (hcu:Qk w F g bs at_) (hk:at_=bs.length)
   (bc:Blk w pc 35 #[.pointer (some ⟨g,0,none⟩)]) (hF:∀b,F b->b≠g) :
   Calls Tryz.prog 85 #[.pointer (some ⟨g,0,none⟩),.func (.func 86) #[] #[.pointer (some ⟨pc,0,none⟩)]] w fun e w' =>
     e = .returned (.tuple #[.int .u8 0,.int .i64 3])/\Upd (fun b=>b=g) w w'/\Qk w' F g bs at_:=by
 have hmf:∀(fn:Fn) (first cap:Array Value) (w:World),(Instr.makeFunc fn first cap).run Tryz.prog w = .ok (.func fn first cap) w:=fun _ _ _ _=>rfl;have hg:=hcu.lt
 have hat:w.cell? ⟨g,1,none⟩=some (.int .i64 at_):=by
   obtain⟨A,c,hb,_⟩:=hcu;simpa using hb.cell 1
 have HK:=hd_ hk;clear hk;have HCU:=hd_ hcu;have HBC:=hd_ bc;clear hcu bc;(have hg1:g<w.heap.size+1:=by omega);(have hg2:g<w.heap.size+1+1:=by omega);(have hg3:g<w.heap.size+1+1+1:=by omega);refine Q6 fun R hR=>?_;go_enter_defers Tryz.func85,Tryz.ntmps85;go_wp2_with fail;obtain⟨H,hH⟩:=nm_ (w.heap.size);rw [<-hH]at hg hg1 hg2 hg3;simp only [<-hH];obtain⟨W0,hW0⟩:=nm_ ((((w.alloc (.cells #[.pointer (some ⟨g,0,none⟩)] 35)).alloc (.cells #[.int .u8 0] 5)).alloc (.cells #[.int .i64 0] 38)).alloc (.cells #[.int .i64 at_] 3));rw [<-hW0];(have f0:Q0 w W0:=by rw [hW0];exact((((Upd.refl _ w).alloc _).alloc _).alloc _).alloc _);(have k0:Blk W0 H 35 #[.pointer (some ⟨g,0,none⟩)]:=by rw [hW0];exact(((Q1 (by simp [hH]) _ _).alloc _).alloc _).alloc _);(have k1:Blk W0 (H+1) 5 #[.int .u8 0]:=by rw [hW0];exact((Q1 (by simp [hH]) _ _).alloc _).alloc _);(have k2:Blk W0 (H+1+1) 38 #[.int .i64 0]:=by rw [hW0];exact(Q1 (by simp [hH]) _ _).alloc _);(have k3:Blk W0 (H+1+1+1) 3 #[.int .i64 at_]:=by rw [hW0];exact Q1 (by simp [hH]) _ _);clear hW0;have HH:=hd_ hH;clear hH;have hb1:=Q6a (fun b=>F b/\b<w.heap.size) g pc bs W0 (by rw [<-HK.out];exact HCU.out.both.fresh f0) (HBC.out.fresh f0);refine hb1.mono ?_;rintro e w1 ⟨rfl,k,rfl⟩;have f1:Q0 w (W0.drewN k):=f0.drewN k;have j0:=k0.drewN k;have j1:=k1.drewN k;have j2:=k2.drewN k;have j3:=k3.drewN k;generalize W0.drewN k=w1 at *;have d1:=j1.cell0;have d2:=j2.cell0;have z1:=j1.frozen 0;have z2:=j2.frozen 0;have J0:=hd_ j0;have J1:=hd_ j1;have J2:=hd_ j2;have J3:=hd_ j3;have F1:=hd_ f1;clear j0 j1 j2 j3 k0 k1 k2 k3 hb1 f1;go_wp2;have L0:=(J0.out.far (p:=⟨H+1,0,none⟩) (by simp) (.int .u8 0)).far (p:=⟨H+1+1,0,none⟩) (by simp;omega) (.int .i64 3);have L1:=(J1.out.set_ 0 (.int .u8 0)).far (p:=⟨H+1+1,0,none⟩) (by simp) (.int .i64 3);have L2:=(J2.out.far (p:=⟨H+1,0,none⟩) (by simp) (.int .u8 0)).set_ 0 (.int .i64 3);have L3:=(J3.out.far (p:=⟨H+1,0,none⟩) (by simp;omega) (.int .u8 0)).far (p:=⟨H+1+1,0,none⟩) (by simp) (.int .i64 3)
 have u3:Upd (fun b=>w.heap.size<=b) w ((w1.setCell ⟨H+1,0,none⟩ (.int .u8 0)).setCell ⟨H+1+1,0,none⟩ (.int .i64 3)) :=
   ((F1.out.mono (T:=fun b=>w.heap.size<=b) (fun _ _ h=>h.elim)).setCell (p:=⟨H+1,0,none⟩) (fun _=>by have:=HH.out;simp;omega) _).setCell (p:=⟨H+1+1,0,none⟩) (fun _=>by have:=HH.out;simp;omega) _
 change Leaves _ _ _ _ _ _ _;refine leaves_cons (f:=135) (args:=#[.pointer (some ⟨H+1+1,0,none⟩),.pointer (some ⟨H+1+1+1,0,none⟩),.pointer (some ⟨H+1,0,none⟩),.pointer (some ⟨H,0,none⟩)]) (by simp) (by simp [go_sem]) ?_;have c3:=HCU.out.both.upd u3 (by have:=HH.out;omega) (fun b hb hb2 hb3=>by have:=hb2.2;omega);obtain⟨A,c,hb,hr,hq⟩:=c3;refine(Q53 g H at_ 0 A bs.length c .returning _ (by simpa using L0) (by simpa using L1) (by simpa using L2) (by simpa using L3) hb hg).mono ?_;rintro e u' w'' ⟨rfl,rfl,rfl⟩;refine⟨.tuple #[.int .u8 0,.int .i64 3],?_,hR.out _ _ ⟨rfl,?_,?_⟩⟩
 . have M1:=((L1.set_ 0 (.int .u8 0)).far (p:=⟨g,1,none⟩) (by simp;omega) (.int .i64 at_))
   have M2:=((L2.far (p:=⟨H+1,0,none⟩) (by simp) (.int .u8 0)).far (p:=⟨g,1,none⟩) (by simp;omega) (.int .i64 at_));have q1:=M1.cell0;have q2:=M2.cell0;simp [results,Tryz.results85,go_sem,q1,q2]
 . have u4:Upd (fun b=>b=g\/w.heap.size<=b) w _:=((u3.mono (T:=fun b=>b=g\/w.heap.size<=b) (fun _ _ h=>.inr h)).setCell (p:=⟨H+1,0,none⟩) (fun _=>.inr (by have:=HH.out;simp;omega)) (.int .u8 0)).setCell (p:=⟨g,1,none⟩) (fun _=>.inl rfl) (.int .i64 at_)
   (exact u4.mono fun b hb h=>by rcases h with h|h;exact h;omega)
 have c4:Qk _ (fun b=>F b/\b<w.heap.size) g bs at_:=⟨A,c,hb,hr,hq⟩;have c5:=c4.upd (S:=fun b=>b=H+1) ((Upd.refl (fun b=>b=H+1) _).setCell (p:=⟨H+1,0,none⟩) (fun _=>rfl) (.int .u8 0)) (by omega) (fun b _ hb e=>by have:=hb.2;have:=HH.out;omega);obtain⟨A,c,hb,hr,hq⟩:=c5;refine⟨A,c,?_,?_,hq⟩
 . have:=hb.set_ 1 (.int .i64 at_)
   simpa using this
 exact(hr.upd (S:=fun b=>b=g) ((Upd.refl (fun b=>b=g) _).setCell (p:=⟨g,1,none⟩) (fun _=>rfl) (.int .i64 at_)) (fun b _ hb e=>hF b hb.1 e)).mono fun b hb=>hb.1
theorem Q11 (F:Nat->Prop) (g:Nat) (bs:List Nat) (at_:Nat) (w:World) (hcu:Qk w F g bs at_) (hk:at_<bs.length) (hF:∀b,F b->b≠g) :
   Calls Tryz.prog 52 #[.pointer (some ⟨g,0,none⟩)] w fun e w'=>e = .returned (.tuple #[.int .u8 ((bs[at_]?.getD 0:Nat):Int),.int .i64 0])/\Upd (fun b=>b=g) w w'/\Qk w' F g bs (at_+1):=by
 have hmf:∀(fn:Fn) (first cap:Array Value) (w:World),(Instr.makeFunc fn first cap).run Tryz.prog w = .ok (.func fn first cap) w:=fun _ _ _ _=>rfl;obtain⟨H,hH⟩:=nm_ (w.heap.size);have hr:=Q7s F g H bs at_ (w.alloc (.cells #[.pointer (some ⟨g,0,none⟩)] 35)) (hcu.fresh ((Upd.refl _ w).alloc _)) hk (Q1 hH _ _) hF;rw [hH]at hr;have HR:=hd_ hr;clear hr hcu hH H hk;generalize ((bs[at_]?.getD 0:Nat):Int)=x at *;refine Q6 fun R hR=>?_;go_enter Tryz.func52,Tryz.ntmps52;go_wp2_with fail;refine HR.out.mono ?_;rintro e w1 ⟨rfl,u1,c1⟩;go_wp2;(try go_ret2);exact hR.out _ _ ⟨rfl,((Upd.refl (fun b=>b=g) w).alloc _).trans' u1,c1⟩
theorem XQ (F:Nat->Prop) (g:Nat) (bs:List Nat) (at_:Nat) (w:World) (hcu:Qk w F g bs at_) (hk:at_=bs.length) (hF:∀b,F b->b≠g) :
   Calls Tryz.prog 52 #[.pointer (some ⟨g,0,none⟩)] w fun e w'=>e = .returned (.tuple #[.int .u8 0,.int .i64 3])/\Upd (fun b=>b=g) w w'/\Qk w' F g bs at_:=by
 have hmf:∀(fn:Fn) (first cap:Array Value) (w:World),(Instr.makeFunc fn first cap).run Tryz.prog w = .ok (.func fn first cap) w:=fun _ _ _ _=>rfl;obtain⟨H,hH⟩:=nm_ (w.heap.size);have hr:=Q6b F g H bs at_ (w.alloc (.cells #[.pointer (some ⟨g,0,none⟩)] 35)) (hcu.fresh ((Upd.refl _ w).alloc _)) hk (Q1 hH _ _) hF;rw [hH]at hr;have HR:=hd_ hr;clear hr hcu hH H hk;refine Q6 fun R hR=>?_;go_enter Tryz.func52,Tryz.ntmps52;go_wp2_with fail;refine HR.out.mono ?_;rintro e w1 ⟨rfl,u1,c1⟩;go_wp2;(try go_ret2);exact hR.out _ _ ⟨rfl,((Upd.refl (fun b=>b=g) w).alloc _).trans' u1,c1⟩
def Qj (p:Int):Int:=if p=1 then 28 else 44
theorem Q9O (w:World):Calls Tryz.prog 136 #[.int .i64 0] w fun e w'=>e = .returned (.tuple #[.int .i64 44,.int .i64 0])/\Q0 w w':=by
 have hk:=Q35 w;unfold Ke at hk;rw [Z1]at hk;have HK:=hd_ hk;clear hk;refine Q6 fun R hR=>?_;go_enter Tryz.func136,Tryz.ntmps136;go_wp2_with fail;refine HK.out.mono ?_;rintro e w1 ⟨g,rfl,_,_,f1⟩;have F1:=hd_ f1;clear f1;go_wp2_with fail;(try go_ret2);exact hR.out _ _ ⟨rfl,F1.out.alloc _⟩
theorem Q9P (w:World):Calls Tryz.prog 137 #[.int .i64 0] w fun e w'=>e = .returned (.tuple #[.int .i64 9,.int .i64 0])/\Q0 w w':=by
 have HK:=hd_ (Q8V w);refine Q6 fun R hR=>?_;go_enter Tryz.func137,Tryz.ntmps137;go_wp2_with fail;refine HK.out.mono ?_;rintro e w1 ⟨rfl,f1⟩;have F1:=hd_ f1;clear f1;go_wp2_with fail;(try go_ret2);exact hR.out _ _ ⟨rfl,F1.out.alloc _⟩
theorem Q9Q (w:World):Calls Tryz.prog 136 #[.int .i64 1] w fun e w'=>e = .returned (.tuple #[.int .i64 28,.int .i64 0])/\Q0 w w':=by
 have hk:=Q36 w;unfold Ke at hk;rw [Z2]at hk;have HK:=hd_ hk;clear hk;refine Q6 fun R hR=>?_;go_enter Tryz.func136,Tryz.ntmps136;go_wp2_with fail;refine HK.out.mono ?_;rintro e w1 ⟨g,rfl,_,_,f1⟩;have F1:=hd_ f1;clear f1;go_wp2_with fail;(try go_ret2);exact hR.out _ _ ⟨rfl,F1.out.alloc _⟩
theorem Q9R (w:World):Calls Tryz.prog 137 #[.int .i64 1] w fun e w'=>e = .returned (.tuple #[.int .i64 8,.int .i64 0])/\Q0 w w':=by
 have HK:=hd_ (Q8W w);refine Q6 fun R hR=>?_;go_enter Tryz.func137,Tryz.ntmps137;go_wp2_with fail;refine HK.out.mono ?_;rintro e w1 ⟨rfl,f1⟩;have F1:=hd_ f1;clear f1;go_wp2_with fail;(try go_ret2);exact hR.out _ _ ⟨rfl,F1.out.alloc _⟩
theorem Q9S (w:World):Calls Tryz.prog 136 #[.int .i64 2] w fun e w'=>e = .returned (.tuple #[.int .i64 44,.int .i64 0])/\Q0 w w':=by
 have hk:=Q37 w;unfold Ke at hk;rw [Z3]at hk;have HK:=hd_ hk;clear hk;refine Q6 fun R hR=>?_;go_enter Tryz.func136,Tryz.ntmps136;go_wp2_with fail;refine HK.out.mono ?_;rintro e w1 ⟨g,rfl,_,_,f1⟩;have F1:=hd_ f1;clear f1;go_wp2_with fail;(try go_ret2);exact hR.out _ _ ⟨rfl,F1.out.alloc _⟩
theorem Q9T (w:World):Calls Tryz.prog 137 #[.int .i64 2] w fun e w'=>e = .returned (.tuple #[.int .i64 9,.int .i64 0])/\Q0 w w':=by
 have HK:=hd_ (Q8X w);refine Q6 fun R hR=>?_;go_enter Tryz.func137,Tryz.ntmps137;go_wp2_with fail;refine HK.out.mono ?_;rintro e w1 ⟨rfl,f1⟩;have F1:=hd_ f1;clear f1;go_wp2_with fail;(try go_ret2);exact hR.out _ _ ⟨rfl,F1.out.alloc _⟩
theorem Q96 (p:Int) (w:World) (h:p<0\/2<p):Calls Tryz.prog 136 #[.int .i64 p] w fun e w'=>e = .returned (.tuple #[.int .i64 0,.int .i64 2])/\Q0 w w':=by
 have HK:=hd_ (Q69 p w h);clear h;refine Q6 fun R hR=>?_;go_enter Tryz.func136,Tryz.ntmps136;go_wp2_with fail;refine HK.out.mono ?_;rintro e w1 ⟨rfl,f1⟩;have F1:=hd_ f1;clear f1;go_wp2_with fail;(try go_ret2);exact hR.out _ _ ⟨rfl,F1.out.alloc _⟩
theorem ZH {p:Int} (h:0<=p/\p<=2):p=0\/p=1\/p=2:=by omega
theorem Q7t (p:Int) (w:World) (h:0<=p/\p<=2):Calls Tryz.prog 136 #[.int .i64 p] w fun e w'=>e = .returned (.tuple #[.int .i64 (Qj p),.int .i64 0])/\Q0 w w':=by
 rcases ZH h with rfl|rfl|rfl
 . exact Q9O w
 . exact Q9Q w
 exact Q9S w
theorem Q7u (p:Int) (w:World) (h:0<=p/\p<=2):Calls Tryz.prog 137 #[.int .i64 p] w fun e w'=>e = .returned (.tuple #[.int .i64 (Ql p),.int .i64 0])/\Q0 w w':=by
 rcases ZH h with rfl|rfl|rfl
 . exact Q9P w
 . exact Q9R w
 exact Q9T w
theorem Xg (p:Int) (w:World) (h:0<=p/\p<=2):Calls Tryz.prog 139 #[.int .i64 p] w fun e w'=>Ke w w' e (Yi p) (Ya p) 0:=by
 rcases ZH h with rfl|rfl|rfl
 . exact Q35 w
 . exact Q36 w
 exact Q37 w
theorem Q7v (p:Int):(Ya p).length<=44:=by
 unfold Ya;split
 . rw [Z1];omega
 split
 . rw [Z2];omega
 rw [Z3];omega
theorem Jm (p lg:Int) (A:Option Addr) (n c:Nat) (w:World) (h:0<=p/\p<=2):Calls Tryz.prog 88 #[.int .i64 p,.agg #[.int .i64 lg,.slice A n c]] w fun e w' =>
   e = .returned (.tuple #[.agg #[.int .i64 p,.int .i64 (Qj p),.int .i64 (Ql p),.int .i64 lg,.slice A n c],.int .i64 0])/\Q0 w w':=by
 have HS:=hd_ (fun W=>Q7t p W h);have HL:=hd_ (fun W=>Q7u p W h);clear h;generalize Qj p=s at *;generalize Ql p=x at *;refine Q6 fun R hR=>?_;obtain⟨w0,hw0⟩:=nm_ ((w.alloc (.cells #[.int .i64 lg,.slice A n c] 29)).alloc (.cells #[.int .i64 0,.int .i64 0,.int .i64 0,.int .i64 0,.slice none 0 0] 181));obtain⟨H,hH⟩:=nm_ (w.heap.size);(have f0:Q0 w w0:=by rw [hw0];exact((Upd.refl _ _).alloc _).alloc _);(have bt:Blk w0 H 29 #[.int .i64 lg,.slice A n c]:=by rw [hw0];exact(Q1 hH _ _).alloc _);(have bp:Blk w0 (H+1) 181 #[.int .i64 0,.int .i64 0,.int .i64 0,.int .i64 0,.slice none 0 0]:=by rw [hw0];exact Q1 (by simp [hH]) _ _);have BT:=hd_ bt;have BP:=hd_ bp;have F0:=hd_ f0;have HW:=hd_ hw0;have HH:=hd_ hH;clear bt bp f0 hw0 hH;go_enter Tryz.func88,Tryz.ntmps88;go_wp2_with fail;simp only [<-HH.out,<-HW.out];refine(HS.out _).mono ?_;rintro e w1 ⟨rfl,f1⟩;have F1:=hd_ f1;clear f1;go_wp2_with fail;refine(HL.out _).mono ?_;rintro e w2 ⟨rfl,f2⟩;have F2:=hd_ (F1.out.trans' f2);have bt:=BT.out.fresh F2.out;have bp:=BP.out.fresh F2.out;have t0:=bt.cell 0;have t1:=bt.cell 1;have p0:=bp.cell 0;have p1:=bp.cell 1;have p2:=bp.cell 2;have p3:=bp.cell 3;have p4:=bp.cell 4;have z0:=bp.frozen 0;have z1:=bp.frozen 1;have z2:=bp.frozen 2;have z3:=bp.frozen 3;have z4:=bp.frozen 4;simp at t0 t1 p0 p1 p2 p3 p4;have BP2:=hd_ bp;clear f2 bt bp;go_wp2_with fail
 have hu:Upd (fun b=>b=H+1) w2 (((((w2.setCell ⟨H+1,0,none⟩ (.int .i64 p)).setCell ⟨H+1,1,none⟩ (.int .i64 s)).setCell ⟨H+1,2,none⟩ (.int .i64 x)).setCell ⟨H+1,3,none⟩ (.int .i64 lg)).setCell ⟨H+1,4,none⟩ (.slice A n c)) :=
   (((((Upd.refl (fun b=>b=H+1) w2).setCell (p:=⟨H+1,0,none⟩) (fun _=>rfl) _).setCell (p:=⟨H+1,1,none⟩) (fun _=>rfl) _).setCell (p:=⟨H+1,2,none⟩) (fun _=>rfl) _).setCell (p:=⟨H+1,3,none⟩) (fun _=>rfl) _).setCell (p:=⟨H+1,4,none⟩) (fun _=>rfl) _
 refine bodyPost_ret (Q5 rfl _ _ (H+1) _ _ _ rfl (((((BP2.out.set_ 0 (.int .i64 p)).set_ 1 (.int .i64 s)).set_ 2 (.int .i64 x)).set_ 3 (.int .i64 lg)).set_ 4 (.slice A n c)) Tryz.underlying181 rfl (by kernel_rfl)) rfl ?_;exact hR.out _ _ ⟨by simp,(F0.out.trans' F2.out).trans hu (fun b hb h=>by have:=HH.out;omega)⟩
theorem Q38 (p lg:Int) (A:Option Addr) (n c:Nat) (w:World) (h:p<0\/2<p):Calls Tryz.prog 88 #[.int .i64 p,.agg #[.int .i64 lg,.slice A n c]] w fun e w' =>
   e = .returned (.tuple #[.agg #[.int .i64 0,.int .i64 0,.int .i64 0,.int .i64 0,.slice none 0 0],.int .i64 2])/\Q0 w w':=by
 have HS:=hd_ (fun W=>Q96 p W h);clear h;refine Q6 fun R hR=>?_;obtain⟨w0,hw0⟩:=nm_ ((w.alloc (.cells #[.int .i64 lg,.slice A n c] 29)).alloc (.cells #[.int .i64 0,.int .i64 0,.int .i64 0,.int .i64 0,.slice none 0 0] 181));obtain⟨H,hH⟩:=nm_ (w.heap.size);(have f0:Q0 w w0:=by rw [hw0];exact((Upd.refl _ _).alloc _).alloc _);(have bp:Blk w0 (H+1) 181 #[.int .i64 0,.int .i64 0,.int .i64 0,.int .i64 0,.slice none 0 0]:=by rw [hw0];exact Q1 (by simp [hH]) _ _);have BP:=hd_ bp;have F0:=hd_ f0;have HW:=hd_ hw0;have HH:=hd_ hH;clear bp f0 hw0 hH;go_enter Tryz.func88,Tryz.ntmps88;go_wp2_with fail;simp only [<-HH.out,<-HW.out];refine(HS.out _).mono ?_;rintro e w1 ⟨rfl,f1⟩;have F2:=hd_ f1;have bp:=BP.out.fresh F2.out;have p0:=bp.cell 0;have p1:=bp.cell 1;have p2:=bp.cell 2;have p3:=bp.cell 3;have p4:=bp.cell 4;have z0:=bp.frozen 0;have z1:=bp.frozen 1;have z2:=bp.frozen 2;have z3:=bp.frozen 3;have z4:=bp.frozen 4;simp at p0 p1 p2 p3 p4;have BP2:=hd_ bp;clear f1 bp;go_wp2_with fail
 have hu:Upd (fun b=>b=H+1) w1 (((((w1.setCell ⟨H+1,0,none⟩ (.int .i64 0)).setCell ⟨H+1,1,none⟩ (.int .i64 0)).setCell ⟨H+1,2,none⟩ (.int .i64 0)).setCell ⟨H+1,3,none⟩ (.int .i64 0)).setCell ⟨H+1,4,none⟩ (.slice none 0 0)) :=
   (((((Upd.refl (fun b=>b=H+1) w1).setCell (p:=⟨H+1,0,none⟩) (fun _=>rfl) _).setCell (p:=⟨H+1,1,none⟩) (fun _=>rfl) _).setCell (p:=⟨H+1,2,none⟩) (fun _=>rfl) _).setCell (p:=⟨H+1,3,none⟩) (fun _=>rfl) _).setCell (p:=⟨H+1,4,none⟩) (fun _=>rfl) _
 refine bodyPost_ret (Q5 rfl _ _ (H+1) _ _ _ rfl (((((BP2.out.set_ 0 (.int .i64 0)).set_ 1 (.int .i64 0)).set_ 2 (.int .i64 0)).set_ 3 (.int .i64 0)).set_ 4 (.slice none 0 0)) Tryz.underlying181 rfl (by kernel_rfl)) rfl ?_;exact hR.out _ _ ⟨by simp,(F0.out.trans' F2.out).trans hu (fun b hb h=>by have:=HH.out;omega)⟩
theorem KX {w:World} {F:Nat->Prop} {A:Option Addr} {n:Nat} {N:List Int} (h:Rd w F A n (Q2 N)) (h0:0<n) :
   ∃b o,A=some ⟨b,o,none⟩/\∀j,j<N.length->w.cell? ⟨b,o+j,none⟩=some (.int .i64 (N.getD j 0)):=by
 (have hl:N.length=n:=by have:=h.1;simpa using this);obtain⟨b,o,hA,_,_,hc⟩:=h.2 h0;refine⟨b,o,hA,fun j hj=>?_⟩;rw [hc j (by omega),Q10 hj];simp [List.getD_eq_getElem?_getD,hj]
theorem Q54 (F G:Nat->Prop) (A B:Option Addr) (n m c d:Nat) (N M:List Int) (w:World) (hr:Rd w F A n (Q2 N)) (hs:Rd w G B m (Q2 M)) (hn:n<=2^40) (hm:m<=2^40) :
   Calls Tryz.prog 179 #[.slice A n c,.slice B m d] w fun e w'=>e = .returned (.bool (decide (N=M)))/\∃q,w'=w.drewN q:=by
 (have hN:N.length=n:=by have:=hr.1;simpa using this);(have hM:M.length=m:=by have:=hs.1;simpa using this);rcases Nat.eq_zero_or_pos n with h0|h0
 . subst h0
   have hN0:N=[]:=List.eq_nil_of_length_eq_zero hN;subst hN0;refine(Tryz.slices_Equal_int_empty A B c m d w (by omega)).mono fun e w' h=>⟨?_,0,h.2⟩;rw [h.1]
   congr 2
   rw [decide_eq_decide];constructor
   . intro h;rw [h]at hM;exact(List.eq_nil_of_length_eq_zero hM).symm
   intro h;rw [<-hM,<-h];rfl
 rcases Nat.eq_zero_or_pos m with h1|h1
 . subst h1
   refine(Tryz.slices_Equal_int_lens A B n c 0 d w (by omega)).mono fun e w' h=>⟨?_,0,h.2⟩;rw [h.1,decide_eq_false (fun h=>by rw [h]at hN;omega)]
 obtain⟨b1,o1,rfl,hc1⟩:=KX hr h0;obtain⟨b2,o2,rfl,hc2⟩:=KX hs h1;refine(Tryz.slices_Equal_int b1 o1 n c b2 o2 m d N M w (by omega) (by omega) (by omega) (by omega) hc1 hc2).mono fun e w' h=>⟨?_,h.2⟩;rw [h.1,List.take_of_length_le (by omega),List.take_of_length_le (by omega)]
 congr 2
 by_cases h:N=M
 . subst h;simp
 rw [decide_eq_false h];simpa using h
theorem Q55 (F G:Nat->Prop) (A B:Option Addr) (n m c d:Nat) (lg lh:Int) (N M:List Int) (w:World) (hr:Rd w F A n (Q2 N)) (hs:Rd w G B m (Q2 M)) (hn:n<=2^40) (hm:m<=2^40) :
   Calls Tryz.prog 142 #[.agg #[.int .i64 lg,.slice A n c],.agg #[.int .i64 lh,.slice B m d]] w fun e w'=>e = .returned (.bool (decide (lg=lh/\N=M)))/\Q0 w w':=by
 have hk:=Q54 F G A B n m c d N M _ ((hr.alloc (.cells #[.int .i64 lg,.slice A n c] 29)).alloc (.cells #[.int .i64 lh,.slice B m d] 29)) ((hs.alloc _).alloc _) hn hm;have HK:=hd_ hk;clear hk hr hs;refine Q6 fun R hR=>?_;by_cases h:lg=lh
 . subst h
   go_enter Tryz.func142,Tryz.ntmps142;go_wp2_with fail;refine HK.out.mono ?_;rintro e w1 ⟨rfl,q,rfl⟩;go_wp2_with fail;(try go_ret);refine hR.out _ _ ⟨?_,(((Upd.refl _ w).alloc _).alloc _).drewN q⟩;simp
 (have h':(lg == lh)=false:=by simpa using h);have H:=hd_ h;clear h;go_enter Tryz.func142,Tryz.ntmps142;go_wp2_with fail;(try go_ret);refine hR.out _ _ ⟨?_,((Upd.refl _ w).alloc _).alloc _⟩;rw [decide_eq_false (fun h=>H.out h.1)];rfl
theorem Q12 (b:Bool) (w:World):Calls Tryz.prog 141 #[.bool b] w fun e w'=>e = .returned (.tuple #[.slice none 0 0,.int .i64 (if b then 0 else 13)])/\w=w':=by
 cases b
 all_goals
   go_enter Tryz.func141,Tryz.ntmps141;go_wp2;go_ret2;exact⟨rfl,rfl⟩
theorem K6 (F:Nat->Prop) (A B:Option Addr) (n m c d:Nat) (p s x lg lh:Int) (N:List Int) (w:World) (hs:Rd w F B m (Q2 N)) (hfit:Fit N) (hm:(m:Int)<=1099511627776) :
   Calls Tryz.prog 124 #[.agg #[.int .i64 p,.int .i64 s,.int .i64 x,.int .i64 lg,.slice A n c],.agg #[.int .i64 lh,.slice B m d]] w fun e w' =>
     e = .returned (.int .i64 (if Qc lh N s x then 0 else 13))/\Q0 w w':=by
 have hk:=Zr F B m d lh s x N _ ((hs.alloc (.cells #[.int .i64 p,.int .i64 s,.int .i64 x,.int .i64 lg,.slice A n c] 181)).alloc (.cells #[.int .i64 lh,.slice B m d] 29)) hfit hm;have HK:=hd_ hk;clear hk hs hfit hm;generalize (if Qc lh N s x then(0:Int)else 13)=q at *;refine Q6 fun R hR=>?_;go_enter Tryz.func124,Tryz.ntmps124;go_wp2_with fail;refine HK.out.mono ?_;rintro e w1 ⟨rfl,f1⟩;have F1:=hd_ f1;clear f1;go_wp2_with fail;(try go_ret);exact hR.out _ _ ⟨rfl,(((Upd.refl _ w).alloc _).alloc _).trans' F1.out⟩
def Y7 (m p lg:Int) (N:List Int):Int × List Nat :=
  if m=0 then(if Yi p=lg/\Ya p=N then(0,[])else(13,[]))
  else if m=1 then(if lg=0/\N[N.length-1]?=some 1 then(0,[N.length-1])else(13,[]))
  else if m=2 then(if lg≠0 then(0,QN (QX lg.toNat N))else(13,[]))
  else(0,[])
def Qy (m p lg:Int) (N:List Int):Int × List Nat :=
  if p<0\/2<p\/m<0\/3<m then(2,[])else if Qc lg N (Qj p) (Ql p)then Y7 m p lg N else(13,[])
theorem Jw (p:Int):Qj p<=44/\28<=Qj p/\Ql p<=9/\8<=Ql p/\0<=Yi p/\Yi p<=6:=by
 unfold Qj Ql Yi;(by_cases h:p=1<;>simp [h])
theorem Ko {lg:Int} {N:List Int} {p:Int} (h:Qc lg N (Qj p) (Ql p)):Qc lg N 256 9:=by
 have:=Jw p;exact⟨h.1,by have:=h.2.1;omega,h.2.2.1,h.2.2.2.1,by have:=h.2.2.2.2.1;omega,h.2.2.2.2.2⟩
def Qak (p s x lg:Int) (A:Option Addr) (n c:Nat):Value:=.agg #[.int .i64 p,.int .i64 s,.int .i64 x,.int .i64 lg,.slice A n c]
theorem Q7w (A B:Option Addr) (n m c d:Nat) (p s x lg lh:Int) (w:World) :
   Calls Tryz.prog 150 #[.agg #[.int .i64 p,.int .i64 s,.int .i64 x,.int .i64 lg,.slice A n c],.agg #[.int .i64 lh,.slice B m d]] w fun e w' =>
     e = .returned (.tuple #[.slice none 0 0,.int .i64 0])/\Q0 w w':=by
 have HK:=hd_ (fun W=>Q12 true W);refine Q6 fun R hR=>?_;go_enter Tryz.func150,Tryz.ntmps150;go_wp2_with fail;refine(HK.out _).mono ?_;rintro e w1 ⟨rfl,rfl⟩;go_wp2_with fail;(try go_ret2);exact hR.out _ _ ⟨rfl,((Upd.refl _ w).alloc _).alloc _⟩
theorem Q7x (F:Nat->Prop) (A B:Option Addr) (n m c d:Nat) (p s x lg lh:Int) (N:List Int) (w:World) (hs:Rd w F B m (Q2 N)) (hfit:Fit N) (hm:(m:Int)<=1099511627776) (hv:Qc lh N 256 9) :
   Calls Tryz.prog 147 #[.agg #[.int .i64 p,.int .i64 s,.int .i64 x,.int .i64 lg,.slice A n c],.agg #[.int .i64 lh,.slice B m d]] w fun e w' =>
     ∃v,e = .returned (.tuple #[v,.int .i64 (if lh≠0 then 0 else 13)])/\QB w w' v (if lh≠0 then QN (QX lh.toNat N)else []):=by
 have hr2:=(hs.alloc (.cells #[.int .i64 p,.int .i64 s,.int .i64 x,.int .i64 lg,.slice A n c] 181)).alloc (.cells #[.int .i64 lh,.slice B m d] 29)
 have hk:Calls Tryz.prog 148 #[.agg #[.int .i64 lh,.slice B m d]] ((w.alloc (.cells #[.int .i64 p,.int .i64 s,.int .i64 x,.int .i64 lg,.slice A n c] 181)).alloc (.cells #[.int .i64 lh,.slice B m d] 29)) fun e w' =>
     ∃v,e = .returned (.tuple #[v,.int .i64 (if lh≠0 then 0 else 13)])/\QB w w' v (if lh≠0 then QN (QX lh.toNat N)else []):=by
   have f0:Q0 w ((w.alloc (.cells #[.int .i64 p,.int .i64 s,.int .i64 x,.int .i64 lg,.slice A n c] 181)).alloc (.cells #[.int .i64 lh,.slice B m d] 29)):=((Upd.refl _ w).alloc _).alloc _;by_cases h0:lh=0
   . subst h0
     refine(Q4W F B m d 0 N _ hr2 hfit hm (fun h=>h.2 rfl)).mono fun e w' h=>⟨.slice none 0 0,by simpa using h.1,by simpa [Q9]using Own.nil w' 5,f0.trans' h.2,by simp [Value.ownBlock]⟩
   obtain⟨q,rfl⟩:∃q:Nat,lh=q:=⟨lh.toNat,by have:=hv.1;omega⟩;refine(Q64 F B m d q N _ hr2 hfit hm hv (by omega)).mono fun e w' h=>?_;obtain⟨v,he,ho,hf,hk⟩:=h;refine⟨v,by rw [if_pos h0];exact he,by rw [if_pos h0];simpa using ho,f0.trans' hf,fun k hkk=>by have:=hk k hkk;simp at this;omega⟩
 generalize (if lh≠0 then(0:Int)else 13)=q at *;generalize (if lh≠0 then QN (QX lh.toNat N)else [])=L at *;have HK:=hd_ hk;clear hk hs hfit hm hr2 hv;refine Q6 fun R hR=>?_;go_enter Tryz.func147,Tryz.ntmps147;go_wp2_with fail;refine HK.out.mono ?_;rintro e w1 ⟨v,rfl,o1⟩;have O1:=hd_ o1;clear o1;go_wp2_with fail;(try go_ret2);exact hR.out _ _ ⟨v,rfl,O1.out⟩
theorem Q7y (F:Nat->Prop) (A B:Option Addr) (n m c d:Nat) (p s x lg lh:Int) (N:List Int) (w:World) (hs:Rd w F B m (Q2 N)) (hm:m<=2^40) (hp:0<=p/\p<=2) :
   Calls Tryz.prog 140 #[.agg #[.int .i64 p,.int .i64 s,.int .i64 x,.int .i64 lg,.slice A n c],.agg #[.int .i64 lh,.slice B m d]] w fun e w' =>
     e = .returned (.tuple #[.slice none 0 0,.int .i64 (if Yi p=lh/\Ya p=N then 0 else 13)])/\Q0 w w':=by
 obtain⟨w0,hw0⟩:=nm_ ((w.alloc (.cells #[.int .i64 p,.int .i64 s,.int .i64 x,.int .i64 lg,.slice A n c] 181)).alloc (.cells #[.int .i64 lh,.slice B m d] 29));obtain⟨H,hH⟩:=nm_ (w.heap.size);(have f0:Q0 w w0:=by rw [hw0];exact((Upd.refl _ _).alloc _).alloc _);(have bp:Blk w0 H 181 #[.int .i64 p,.int .i64 s,.int .i64 x,.int .i64 lg,.slice A n c]:=by rw [hw0];exact(Q1 hH _ _).alloc _);(have bt:Blk w0 (H+1) 29 #[.int .i64 lh,.slice B m d]:=by rw [hw0];exact Q1 (by simp [hH]) _ _);have q0:=bp.cell 0;simp at q0;have hk:=Xg p w0 hp
 have hpl:(Ya p).length<=44:=by
   rcases ZH hp with rfl|rfl|rfl
   . simp [Ya,Z1]
   . simp [Ya,Z2]
   simp [Ya,Z3]
 have HK:=hd_ hk;have BT:=hd_ bt;have F0:=hd_ f0;have HW:=hd_ hw0;have HH:=hd_ hH;have HS:=hd_ (hs.fresh f0);have HPL:=hd_ hpl;have HMM:=hd_ hm;clear bp bt f0 hw0 hH hk hs hp hpl hm;generalize Yi p=pl at *;generalize Ya p=pn at *
 have hNE:∀b:Bool,b=decide (pl=lh/\pn=N)->∀W,Calls Tryz.prog 141 #[.bool b] W fun e w'=>e = .returned (.tuple #[.slice none 0 0,.int .i64 (if pl=lh/\pn=N then 0 else 13)])/\W=w':=by
   intro b hb W;subst hb;have:=Q12 (decide (pl=lh/\pn=N)) W;simpa using this
 have HNE:=hd_ (hNE _ rfl);clear hNE;generalize (if pl=lh/\pn=N then(0:Int)else 13)=q at *;refine Q6 fun R hR=>?_;go_enter Tryz.func140,Tryz.ntmps140;go_wp2_with fail;simp only [<-HH.out,<-HW.out];go_wp2_with fail;refine HK.out.mono ?_;rintro e w1 ⟨g,rfl,r1,hg,f1⟩;obtain⟨w2,hw2⟩:=nm_ (w1.alloc (.cells #[.int .i64 pl,.slice (some ⟨g,0,none⟩) pn.length pn.length] 29));(have f12:Q0 w1 w2:=by rw [hw2];exact(Upd.refl _ _).alloc _);have b1:=BT.out.fresh f1;(have t0:∀o,(w1.alloc o).cell? ⟨H+1,0,none⟩=some (.int .i64 lh):=fun o=>by simpa using(b1.alloc o).cell 0);(have t1:∀o,(w1.alloc o).cell? ⟨H+1,1,none⟩=some (.slice B m d):=fun o=>by simpa using(b1.alloc o).cell 1);have hq:=Q55 _ F (some ⟨g,0,none⟩) B pn.length m pn.length d pl lh pn N w2 (r1.fresh f12) (HS.out.fresh (f1.trans' f12)) (by have:=HPL.out;omega) HMM.out;have HQ:=hd_ hq;have F2:=hd_ ((F0.out.trans' f1).trans' f12);have HW2:=hd_ hw2;clear r1 f1 f12 b1 hq hw2 q0;go_wp2_with fail;simp only [<-HW2.out];refine HQ.out.mono ?_;rintro e w3 ⟨rfl,f3⟩;have F3:=hd_ (F2.out.trans' f3);clear f3;generalize decide (pl=lh/\pn=N)=b at *;go_wp2_with fail;refine(HNE.out _).mono ?_;rintro e w4 ⟨rfl,rfl⟩;go_wp2_with fail;(try go_ret2);exact hR.out _ _ ⟨rfl,F3.out⟩
def Q8Y:Array Value:=#[.func (.func 138) #[] #[],.func (.func 140) #[] #[],.func (.func 143) #[] #[],.func (.func 144) #[] #[],.func (.func 145) #[] #[],.func (.func 147) #[] #[],.func (.func 149) #[] #[],.func (.func 150) #[] #[]]
theorem Q7z (w:World):Calls Tryz.prog 89 #[] w fun e w'=>e = .returned (.agg Q8Y)/\Q0 w w':=by
 refine Q6 fun R hR=>?_;go_enter Tryz.func89,Tryz.ntmps89;go_wp2_with fail;exact bodyPost_ret (results_cell_row rfl _ _ w.heap.size _ _ _ _ rfl (Blk.new w 188 Q8Y) Tryz.underlying188 rfl (by kernel_rfl)) rfl (hR.out _ _ ⟨rfl,(Upd.refl _ _).alloc _⟩)
theorem Q97 (w:World) (e:TypeId) (u:Value):Own (w.alloc (.cells #[u] e)) e (.slice (some ⟨w.heap.size,0,none⟩) 1 1) [u] :=
 ⟨by simp,.inr ⟨w.heap.size,1,#[u],rfl,Nat.zero_le _,heap_alloc_new w _,Nat.le_refl _,by simp [maxLen],by simp,by simp⟩⟩
theorem Q7A (F:Nat->Prop) (A B:Option Addr) (n m c d:Nat) (p s x lg lh:Int) (N:List Int) (w:World) (hs:Rd w F B m (Q2 N)) (hv:Qc lh N 256 9) :
   Calls Tryz.prog 144 #[.agg #[.int .i64 p,.int .i64 s,.int .i64 x,.int .i64 lg,.slice A n c],.agg #[.int .i64 lh,.slice B m d]] w fun e w' =>
     ∃v,e = .returned (.tuple #[v,.int .i64 (if lh=0/\N[N.length-1]?=some 1 then 0 else 13)])/\QB w w' v (if lh=0/\N[N.length-1]?=some 1 then [N.length-1]else []):=by
 (have hN:N.length=m:=by have:=hs.1;simpa using this);obtain⟨-,-,-,h0,h6,-⟩:=hv;rw [hN]at h0 h6 ⊢;obtain⟨b,o,hk,rfl,hb,hc⟩:=hs.int (k:=m-1) (by omega);have hg:N[m-1]?=some N[m-1]:=List.getElem?_eq_getElem hk;rw [hg];generalize N[m-1]=u at *
 have hc':((w.alloc (.cells #[.int .i64 p,.int .i64 s,.int .i64 x,.int .i64 lg,.slice A n c] 181)).alloc (.cells #[.int .i64 lh,.slice (some ⟨b,o,none⟩) m d] 29)).cell? ⟨b,o+(m-1),none⟩=some (.int .i64 u):=by
   rw [World.cell?_alloc_lt _ _ _ (by simp;omega),World.cell?_alloc_lt _ _ _ hb];exact hc
 have f0:Q0 w ((w.alloc (.cells #[.int .i64 p,.int .i64 s,.int .i64 x,.int .i64 lg,.slice A n c] 181)).alloc (.cells #[.int .i64 lh,.slice (some ⟨b,o,none⟩) m d] 29)):=((Upd.refl _ w).alloc _).alloc _;have F0:=hd_ f0;have b1:0<m:=h0;have HN:=hd_ (fun b W=>Q12 b W);clear hs hc hg hN hk hb f0;refine Q6 fun R hR=>?_;by_cases h:lh=0
 . subst h
   by_cases h1:u=1
   . subst h1
     simp only [true_and,if_true,ite_true]at hR;go_enter Tryz.func144,Tryz.ntmps144;go_wp2_with fail;refine(HN.out _ _).mono ?_;rintro e w1 ⟨rfl,rfl⟩;go_wp2_with fail;(try go_ret2);refine hR.out _ _ ⟨.slice (some ⟨w.heap.size+1+1,0,none⟩) 1 1,rfl,?_,F0.out.alloc _,?_⟩
     . have hm:((m:Int)-1)=((m-1:Nat):Int):=by omega
       rw [hm];have:=Q97 ((w.alloc (.cells #[.int .i64 p,.int .i64 s,.int .i64 x,.int .i64 lg,.slice A n c] 181)).alloc (.cells #[.int .i64 0,.slice (some ⟨b,o,none⟩) m d] 29)) 5 (.int .u8 ((m-1:Nat):Int));simpa [Q9]using this
     intro k hk;simp [Value.ownBlock]at hk;omega
   (have h2:(u == 1)=false:=by simpa using h1);simp only [Option.some.injEq,h1,and_false,if_false]at hR;go_enter Tryz.func144,Tryz.ntmps144;go_wp2_with fail;refine(HN.out _ _).mono ?_;rintro e w1 ⟨rfl,rfl⟩;go_wp2_with fail;(try go_ret2);exact hR.out _ _ ⟨.slice none 0 0,rfl,Own.nil _ _,F0.out,by simp [Value.ownBlock]⟩
 (have h2:(lh == 0)=false:=by simpa using h);simp only [h,false_and,if_false]at hR;go_enter Tryz.func144,Tryz.ntmps144;go_wp2_with fail;refine(HN.out _ _).mono ?_;rintro e w1 ⟨rfl,rfl⟩;go_wp2_with fail;(try go_ret2);exact hR.out _ _ ⟨.slice none 0 0,rfl,Own.nil _ _,F0.out,by simp [Value.ownBlock]⟩
theorem QB.lift {w W w':World} {v:Value} {bs:List Nat} (f:Q0 w W) (h:QB W w' v bs):QB w w' v bs :=
 ⟨h.1,f.trans' h.2.1,fun k hk=>Nat.le_trans f.size (h.2.2 k hk)⟩
theorem QB.none {w w':World} (f:Q0 w w'):QB w w' (.slice none 0 0) []:=⟨Own.nil _ _,f,by simp [Value.ownBlock]⟩
theorem Qa9 (F:Nat->Prop) (A B:Option Addr) (n m c d:Nat) (p s x lg lh:Int) (N:List Int) (W:World) (hs:Rd W F B m (Q2 N)) (hfit:Fit N) (hm:(m:Int)<=1099511627776) (hp:0<=p/\p<=2) (hv:Qc lh N (Qj p) (Ql p)) :
   Calls Tryz.prog 140 #[.agg #[.int .i64 p,.int .i64 s,.int .i64 x,.int .i64 lg,.slice A n c],.agg #[.int .i64 lh,.slice B m d]] W fun e w' =>
     ∃v,e = .returned (.tuple #[v,.int .i64 (Y7 0 p lh N).1])/\QB W w' v (Y7 0 p lh N).2:=by
 refine(Q7y F A B n m c d p s x lg lh N W hs (by omega) hp).mono fun e w' h=>⟨.slice none 0 0,?_,?_⟩
 . rw [h.1]
   (by_cases hh:Yi p=lh/\Ya p=N<;>simp [Y7,hh])
 (by_cases hh:Yi p=lh/\Ya p=N<;>simpa [Y7,hh]using QB.none h.2)
theorem Qaa (F:Nat->Prop) (A B:Option Addr) (n m c d:Nat) (p s x lg lh:Int) (N:List Int) (W:World) (hs:Rd W F B m (Q2 N)) (hfit:Fit N) (hm:(m:Int)<=1099511627776) (hp:0<=p/\p<=2) (hv:Qc lh N (Qj p) (Ql p)) :
   Calls Tryz.prog 144 #[.agg #[.int .i64 p,.int .i64 s,.int .i64 x,.int .i64 lg,.slice A n c],.agg #[.int .i64 lh,.slice B m d]] W fun e w' =>
     ∃v,e = .returned (.tuple #[v,.int .i64 (Y7 1 p lh N).1])/\QB W w' v (Y7 1 p lh N).2:=by
 refine(Q7A F A B n m c d p s x lg lh N W hs (Ko hv)).mono fun e w' h=>?_;obtain⟨v,he,hb⟩:=h;refine⟨v,?_,?_⟩
 . rw [he]
   (by_cases hh:lh=0/\N[N.length-1]?=some 1<;>simp [Y7,hh])
 (by_cases hh:lh=0/\N[N.length-1]?=some 1<;>simpa [Y7,hh]using hb)
theorem Qab (F:Nat->Prop) (A B:Option Addr) (n m c d:Nat) (p s x lg lh:Int) (N:List Int) (W:World) (hs:Rd W F B m (Q2 N)) (hfit:Fit N) (hm:(m:Int)<=1099511627776) (hp:0<=p/\p<=2) (hv:Qc lh N (Qj p) (Ql p)) :
   Calls Tryz.prog 147 #[.agg #[.int .i64 p,.int .i64 s,.int .i64 x,.int .i64 lg,.slice A n c],.agg #[.int .i64 lh,.slice B m d]] W fun e w' =>
     ∃v,e = .returned (.tuple #[v,.int .i64 (Y7 2 p lh N).1])/\QB W w' v (Y7 2 p lh N).2:=by
 refine(Q7x F A B n m c d p s x lg lh N W hs hfit hm (Ko hv)).mono fun e w' h=>?_;obtain⟨v,he,hb⟩:=h;refine⟨v,?_,?_⟩
 . rw [he]
   (by_cases hh:lh≠0<;>simp [Y7,hh])
 (by_cases hh:lh≠0<;>simpa [Y7,hh]using hb)
theorem Qac (F:Nat->Prop) (A B:Option Addr) (n m c d:Nat) (p s x lg lh:Int) (N:List Int) (W:World) (hs:Rd W F B m (Q2 N)) (hfit:Fit N) (hm:(m:Int)<=1099511627776) (hp:0<=p/\p<=2) (hv:Qc lh N (Qj p) (Ql p)) :
   Calls Tryz.prog 150 #[.agg #[.int .i64 p,.int .i64 s,.int .i64 x,.int .i64 lg,.slice A n c],.agg #[.int .i64 lh,.slice B m d]] W fun e w' =>
     ∃v,e = .returned (.tuple #[v,.int .i64 (Y7 3 p lh N).1])/\QB W w' v (Y7 3 p lh N).2:=by
 refine(Q7w A B n m c d p s x lg lh W).mono fun e w' h=>⟨.slice none 0 0,?_,?_⟩
 . rw [h.1]
   simp [Y7]
 simpa [Y7]using QB.none h.2
theorem YO (w:World):Calls Tryz.prog 89 #[] w fun e w'=>e = .returned (.agg #[.func (.func 138) #[] #[],.func (.func 140) #[] #[],.func (.func 143) #[] #[],.func (.func 144) #[] #[],.func (.func 145) #[] #[],.func (.func 147) #[] #[],.func (.func 149) #[] #[],.func (.func 150) #[] #[]])/\Q0 w w':=Q7z w
theorem Q6c (B:Option Addr) (m d:Nat) (mo p lg:Int) (w:World) (hp:p<0\/2<p) :
   Calls Tryz.prog 75 #[.int .i64 mo,.int .i64 p,.agg #[.int .i64 lg,.slice B m d]] w fun e w'=>e = .returned (.tuple #[.slice none 0 0,.int .i64 2])/\Q0 w w':=by
 obtain⟨w0,hw0⟩:=nm_ (w.alloc (.cells #[.int .i64 lg,.slice B m d] 29));obtain⟨H,hH⟩:=nm_ (w.heap.size);(have f0:Q0 w w0:=by rw [hw0];exact(Upd.refl _ _).alloc _);(have bt:Blk w0 H 29 #[.int .i64 lg,.slice B m d]:=by rw [hw0];exact Q1 hH _ _);have HM:=hd_ (Q38 p lg B m d w0 hp);have BT:=hd_ bt;have F0:=hd_ f0;have HW:=hd_ hw0;have HH:=hd_ hH;have HWY:=hd_ (YO);obtain⟨t0,t1⟩:=(bt).cells2;clear bt f0 hw0 hH hp;refine Q6 fun R hR=>?_;go_enter Tryz.func75,Tryz.ntmps75;go_wp2_with fail;simp only [<-HH.out,<-HW.out];go_wp2_with fail;refine HM.out.mono ?_;rintro e w1 ⟨rfl,f1⟩;have F1:=hd_ (F0.out.trans' f1);clear f1;go_wp2_with fail;(try go_ret2);exact hR.out _ _ ⟨rfl,F1.out.alloc _⟩
theorem Q7B (B:Option Addr) (m d:Nat) (mo p lg:Int) (w:World) (hp:0<=p/\p<=2) (hmo:mo<0) :
   Calls Tryz.prog 75 #[.int .i64 mo,.int .i64 p,.agg #[.int .i64 lg,.slice B m d]] w fun e w'=>e = .returned (.tuple #[.slice none 0 0,.int .i64 2])/\Q0 w w':=by
 obtain⟨w0,hw0⟩:=nm_ (w.alloc (.cells #[.int .i64 lg,.slice B m d] 29));obtain⟨H,hH⟩:=nm_ (w.heap.size);(have f0:Q0 w w0:=by rw [hw0];exact(Upd.refl _ _).alloc _);(have bt:Blk w0 H 29 #[.int .i64 lg,.slice B m d]:=by rw [hw0];exact Q1 hH _ _);have HM:=hd_ (Jm p lg B m d w0 hp);have BT:=hd_ bt;have F0:=hd_ f0;have HW:=hd_ hw0;have HH:=hd_ hH;have HWY:=hd_ (YO);obtain⟨t0,t1⟩:=(bt).cells2;clear bt f0 hw0 hH hp;generalize hps:Qj p=s at *;generalize hpx:Ql p=x at *;refine Q6 fun R hR=>?_;go_enter Tryz.func75,Tryz.ntmps75;go_wp2_with fail;simp only [<-HH.out,<-HW.out];go_wp2_with fail;refine HM.out.mono ?_;rintro e w1 ⟨rfl,f1⟩;obtain⟨w2,hw2⟩:=nm_ (w1.alloc (.cells #[.int .i64 p,.int .i64 s,.int .i64 x,.int .i64 lg,.slice B m d] 181));obtain⟨H1,hH1⟩:=nm_ (w1.heap.size);(have f12:Q0 w1 w2:=by rw [hw2];exact(Upd.refl _ _).alloc _);have b2:=BT.out.fresh (f1.trans' f12);(have c2:Blk w2 H1 181 #[.int .i64 p,.int .i64 s,.int .i64 x,.int .i64 lg,.slice B m d]:=by rw [hw2];exact Q1 hH1 _ _);have B2:=hd_ b2;have C2:=hd_ c2;have F2:=hd_ ((F0.out.trans' f1).trans' f12);have HW2:=hd_ hw2;have HH1:=hd_ hH1;clear f1 f12 b2 c2 hw2 hH1;go_wp2_with fail;(try go_ret2);simp only [<-HW2.out];exact hR.out _ _ ⟨rfl,F2.out⟩
theorem Q7C (B:Option Addr) (m d:Nat) (mo p lg:Int) (w:World) (hp:0<=p/\p<=2) (hmo:3<mo) :
   Calls Tryz.prog 75 #[.int .i64 mo,.int .i64 p,.agg #[.int .i64 lg,.slice B m d]] w fun e w'=>e = .returned (.tuple #[.slice none 0 0,.int .i64 2])/\Q0 w w':=by
 (have hm1:0<=mo:=by omega);(have hm2:4<=mo:=by omega);clear hmo;obtain⟨w0,hw0⟩:=nm_ (w.alloc (.cells #[.int .i64 lg,.slice B m d] 29));obtain⟨H,hH⟩:=nm_ (w.heap.size);(have f0:Q0 w w0:=by rw [hw0];exact(Upd.refl _ _).alloc _);(have bt:Blk w0 H 29 #[.int .i64 lg,.slice B m d]:=by rw [hw0];exact Q1 hH _ _);have HM:=hd_ (Jm p lg B m d w0 hp);have BT:=hd_ bt;have F0:=hd_ f0;have HW:=hd_ hw0;have HH:=hd_ hH;have HWY:=hd_ (YO);obtain⟨t0,t1⟩:=(bt).cells2;clear bt f0 hw0 hH hp;generalize hps:Qj p=s at *;generalize hpx:Ql p=x at *;refine Q6 fun R hR=>?_;go_enter Tryz.func75,Tryz.ntmps75;go_wp2_with fail;simp only [<-HH.out,<-HW.out];go_wp2_with fail;refine HM.out.mono ?_;rintro e w1 ⟨rfl,f1⟩;obtain⟨w2,hw2⟩:=nm_ (w1.alloc (.cells #[.int .i64 p,.int .i64 s,.int .i64 x,.int .i64 lg,.slice B m d] 181));obtain⟨H1,hH1⟩:=nm_ (w1.heap.size);(have f12:Q0 w1 w2:=by rw [hw2];exact(Upd.refl _ _).alloc _);have b2:=BT.out.fresh (f1.trans' f12);(have c2:Blk w2 H1 181 #[.int .i64 p,.int .i64 s,.int .i64 x,.int .i64 lg,.slice B m d]:=by rw [hw2];exact Q1 hH1 _ _);have B2:=hd_ b2;have C2:=hd_ c2;have F2:=hd_ ((F0.out.trans' f1).trans' f12);have HW2:=hd_ hw2;have HH1:=hd_ hH1;clear f1 f12 b2 c2 hw2 hH1;go_wp2_with fail;simp only [<-HW2.out];refine(HWY.out _).mono ?_;rintro e w3 ⟨rfl,f3⟩;have F3:=hd_ (F2.out.trans' f3);clear f3;go_wp2_with fail;(try go_ret2);exact hR.out _ _ ⟨rfl,F3.out⟩
theorem Q7D (F:Nat->Prop) (B:Option Addr) (m d:Nat) (mo p lg:Int) (N:List Int) (w:World) (hs:Rd w F B m (Q2 N)) (hfit:Fit N) (hm:(m:Int)<=1099511627776) (hp:0<=p/\p<=2) (hm0:0<=mo) (hm3:mo<=3) (hv:¬Qc lg N (Qj p) (Ql p)) :
   Calls Tryz.prog 75 #[.int .i64 mo,.int .i64 p,.agg #[.int .i64 lg,.slice B m d]] w fun e w'=>e = .returned (.tuple #[.slice none 0 0,.int .i64 13])/\Q0 w w':=by
 (have hm4:mo<4:=by omega);obtain⟨w0,hw0⟩:=nm_ (w.alloc (.cells #[.int .i64 lg,.slice B m d] 29));obtain⟨H,hH⟩:=nm_ (w.heap.size);(have f0:Q0 w w0:=by rw [hw0];exact(Upd.refl _ _).alloc _);(have bt:Blk w0 H 29 #[.int .i64 lg,.slice B m d]:=by rw [hw0];exact Q1 hH _ _);have HM:=hd_ (Jm p lg B m d w0 hp);have BT:=hd_ bt;have F0:=hd_ f0;have HW:=hd_ hw0;have HH:=hd_ hH;have HWY:=hd_ (YO);have HMY:=hd_ (fun W (h:Q0 w W)=>(K6 F B B m m d d p (Qj p) (Ql p) lg lg N W (hs.fresh h) hfit hm).mono fun e w' q=>(⟨by rw [q.1,if_neg hv],q.2⟩:e = .returned (.int .i64 13)/\Q0 W w'));obtain⟨t0,t1⟩:=(bt).cells2;clear bt f0 hw0 hH hp hs hfit hm hv hm3;generalize hps:Qj p=s at *;generalize hpx:Ql p=x at *;refine Q6 fun R hR=>?_;go_enter Tryz.func75,Tryz.ntmps75;go_wp2_with fail;simp only [<-HH.out,<-HW.out];go_wp2_with fail;refine HM.out.mono ?_;rintro e w1 ⟨rfl,f1⟩;obtain⟨w2,hw2⟩:=nm_ (w1.alloc (.cells #[.int .i64 p,.int .i64 s,.int .i64 x,.int .i64 lg,.slice B m d] 181));obtain⟨H1,hH1⟩:=nm_ (w1.heap.size);(have f12:Q0 w1 w2:=by rw [hw2];exact(Upd.refl _ _).alloc _);have b2:=BT.out.fresh (f1.trans' f12);(have c2:Blk w2 H1 181 #[.int .i64 p,.int .i64 s,.int .i64 x,.int .i64 lg,.slice B m d]:=by rw [hw2];exact Q1 hH1 _ _);have B2:=hd_ b2;have C2:=hd_ c2;have F2:=hd_ ((F0.out.trans' f1).trans' f12);have HW2:=hd_ hw2;have HH1:=hd_ hH1;clear f1 f12 b2 c2 hw2 hH1;go_wp2_with fail;simp only [<-HW2.out];refine(HWY.out _).mono ?_;rintro e w3 ⟨rfl,f3⟩;have b3:=B2.out.fresh f3;have c3:=C2.out.fresh f3;have q0:=c3.cell 0;have q1:=c3.cell 1;have q2:=c3.cell 2;have q3:=c3.cell 3;have q4:=c3.cell 4;have u0:=b3.cell 0;have u1:=b3.cell 1;simp at q0 q1 q2 q3 q4 u0 u1;have F3:=hd_ (F2.out.trans' f3);clear f3 b3 c3;simp only [<-HH1.out];go_wp2_with fail;refine(HMY.out _ F3.out).mono ?_;rintro e w4 ⟨rfl,f4⟩;have F4:=hd_ (F3.out.trans' f4);clear f4;go_wp2_with fail;(try go_ret2);exact hR.out _ _ ⟨rfl,F4.out⟩
theorem Q7E (F:Nat->Prop) (B:Option Addr) (m d:Nat) (p lg:Int) (N:List Int) (w:World) (hs:Rd w F B m (Q2 N)) (hfit:Fit N) (hm:(m:Int)<=1099511627776) (hp:0<=p/\p<=2) (hv:Qc lg N (Qj p) (Ql p)) :
   Calls Tryz.prog 75 #[.int .i64 0,.int .i64 p,.agg #[.int .i64 lg,.slice B m d]] w fun e w'=>∃v,e = .returned (.tuple #[v,.int .i64 (Y7 0 p lg N).1])/\QB w w' v (Y7 0 p lg N).2:=by
 obtain⟨w0,hw0⟩:=nm_ (w.alloc (.cells #[.int .i64 lg,.slice B m d] 29));obtain⟨H,hH⟩:=nm_ (w.heap.size);(have f0:Q0 w w0:=by rw [hw0];exact(Upd.refl _ _).alloc _);(have bt:Blk w0 H 29 #[.int .i64 lg,.slice B m d]:=by rw [hw0];exact Q1 hH _ _);have HM:=hd_ (Jm p lg B m d w0 hp);have BT:=hd_ bt;have F0:=hd_ f0;have HW:=hd_ hw0;have HH:=hd_ hH;have HWY:=hd_ (YO);have HMY:=hd_ (fun W (h:Q0 w W)=>(K6 F B B m m d d p (Qj p) (Ql p) lg lg N W (hs.fresh h) hfit hm).mono fun e w' q=>(⟨by rw [q.1,if_pos hv],q.2⟩:e = .returned (.int .i64 0)/\Q0 W w'));have HWK:=hd_ (fun W (h:Q0 w W)=>Qa9 F B B m m d d p (Qj p) (Ql p) lg lg N W (hs.fresh h) hfit hm hp hv);generalize Y7 0 p lg N=en at *;obtain⟨t0,t1⟩:=(bt).cells2;clear bt f0 hw0 hH hp hs hfit hm hv;generalize hps:Qj p=s at *;generalize hpx:Ql p=x at *;refine Q6 fun R hR=>?_;go_enter Tryz.func75,Tryz.ntmps75;go_wp2_with fail;simp only [<-HH.out,<-HW.out];go_wp2_with fail;refine HM.out.mono ?_;rintro e w1 ⟨rfl,f1⟩;obtain⟨w2,hw2⟩:=nm_ (w1.alloc (.cells #[.int .i64 p,.int .i64 s,.int .i64 x,.int .i64 lg,.slice B m d] 181));obtain⟨H1,hH1⟩:=nm_ (w1.heap.size);(have f12:Q0 w1 w2:=by rw [hw2];exact(Upd.refl _ _).alloc _);have b2:=BT.out.fresh (f1.trans' f12);(have c2:Blk w2 H1 181 #[.int .i64 p,.int .i64 s,.int .i64 x,.int .i64 lg,.slice B m d]:=by rw [hw2];exact Q1 hH1 _ _);have B2:=hd_ b2;have C2:=hd_ c2;have F2:=hd_ ((F0.out.trans' f1).trans' f12);have HW2:=hd_ hw2;have HH1:=hd_ hH1;clear f1 f12 b2 c2 hw2 hH1;go_wp2_with fail;simp only [<-HW2.out];refine(HWY.out _).mono ?_;rintro e w3 ⟨rfl,f3⟩;have b3:=B2.out.fresh f3;have c3:=C2.out.fresh f3;have q0:=c3.cell 0;have q1:=c3.cell 1;have q2:=c3.cell 2;have q3:=c3.cell 3;have q4:=c3.cell 4;have u0:=b3.cell 0;have u1:=b3.cell 1;simp at q0 q1 q2 q3 q4 u0 u1;have B3:=hd_ b3;have C3:=hd_ c3;have F3:=hd_ (F2.out.trans' f3);clear f3 b3 c3;simp only [<-HH1.out];go_wp2_with fail;refine(HMY.out _ F3.out).mono ?_;rintro e w4 ⟨rfl,f4⟩;have b4:=B3.out.fresh f4;have c4:=C3.out.fresh f4;have F4:=hd_ (F3.out.trans' f4)
 have hS4:∀W,Q0 w4 W->(Q0 w4 W/\W.cell? ⟨H1,0,none⟩=some (.int .i64 p)/\W.cell? ⟨H1,1,none⟩=some (.int .i64 s)/\W.cell? ⟨H1,2,none⟩=some (.int .i64 x)/\W.cell? ⟨H1,3,none⟩=some (.int .i64 lg)/\W.cell? ⟨H1,4,none⟩=some (.slice B m d)/\W.cell? ⟨H,0,none⟩=some (.int .i64 lg)/\W.cell? ⟨H,1,none⟩=some (.slice B m d)):=by
   intro W hW;have b1:=b4.fresh hW;have b2:=c4.fresh hW;exact⟨hW,by simpa using b2.cell 0,by simpa using b2.cell 1,by simpa using b2.cell 2,by simpa using b2.cell 3,by simpa using b2.cell 4,by simpa using b1.cell 0,by simpa using b1.cell 1⟩
 have HSS:=hd_ hS4;(have hix:∀W,(Instr.index 188 (.agg #[.func (.func 138) #[] #[],.func (.func 140) #[] #[],.func (.func 143) #[] #[],.func (.func 144) #[] #[],.func (.func 145) #[] #[],.func (.func 147) #[] #[],.func (.func 149) #[] #[],.func (.func 150) #[] #[]]) (.int .i64 0)).run Tryz.prog W = .ok (.agg #[.func (.func 138) #[] #[],.func (.func 140) #[] #[]]) W:=fun _=>by kernel_rfl);(have hfl:∀W,(Instr.field 187 (.agg #[.func (.func 138) #[] #[],.func (.func 140) #[] #[]]) 1).run Tryz.prog W = .ok (.func (.func 140) #[] #[]) W:=fun _=>by kernel_rfl);clear f4 b4 c4 hS4 q0 q1 q2 q3 q4 u0 u1;go_wp2_with fail
 go_region_held3 (fun W=>Q0 w4 W/\W.cell? ⟨H1,0,none⟩=some (.int .i64 p)/\W.cell? ⟨H1,1,none⟩=some (.int .i64 s)/\W.cell? ⟨H1,2,none⟩=some (.int .i64 x)/\W.cell? ⟨H1,3,none⟩=some (.int .i64 lg)/\W.cell? ⟨H1,4,none⟩=some (.slice B m d)/\W.cell? ⟨H,0,none⟩=some (.int .i64 lg)/\W.cell? ⟨H,1,none⟩=some (.slice B m d))
   (first|exact HSS.out _ (by assumption)|exact HSS.out _ (And.left (by assumption))|exact HSS.out _ (Upd.refl _ _)|exact HSS.out _ (Upd.refl _ _).drew)
   (first
     | (go_at_call 89;refine(HWY.out _).mono ?_;rintro e w' ⟨rfl,f2x⟩;have f3x:Q0 w4 w':=Upd.trans' (And.left (by assumption)) f2x)
     | (go_at_call 140;refine(HWK.out _ (F4.out.trans' (And.left (by assumption)))).mono ?_;rintro e w' ⟨v,rfl,nb⟩;have f3x:Q0 w4 w':=Upd.trans' (And.left (by assumption)) nb.2.1;have NB:=hd_ (QB.lift (F4.out.trans' (And.left (by assumption))) nb)))
 (all_goals go_wp2_with fail);(all_goals try go_ret2);(all_goals exact hR.out _ _ ⟨_,rfl,NB.out⟩)
theorem Q7F (F:Nat->Prop) (B:Option Addr) (m d:Nat) (p lg:Int) (N:List Int) (w:World) (hs:Rd w F B m (Q2 N)) (hfit:Fit N) (hm:(m:Int)<=1099511627776) (hp:0<=p/\p<=2) (hv:Qc lg N (Qj p) (Ql p)) :
   Calls Tryz.prog 75 #[.int .i64 1,.int .i64 p,.agg #[.int .i64 lg,.slice B m d]] w fun e w'=>∃v,e = .returned (.tuple #[v,.int .i64 (Y7 1 p lg N).1])/\QB w w' v (Y7 1 p lg N).2:=by
 obtain⟨w0,hw0⟩:=nm_ (w.alloc (.cells #[.int .i64 lg,.slice B m d] 29));obtain⟨H,hH⟩:=nm_ (w.heap.size);(have f0:Q0 w w0:=by rw [hw0];exact(Upd.refl _ _).alloc _);(have bt:Blk w0 H 29 #[.int .i64 lg,.slice B m d]:=by rw [hw0];exact Q1 hH _ _);have HM:=hd_ (Jm p lg B m d w0 hp);have BT:=hd_ bt;have F0:=hd_ f0;have HW:=hd_ hw0;have HH:=hd_ hH;have HWY:=hd_ (YO);have HMY:=hd_ (fun W (h:Q0 w W)=>(K6 F B B m m d d p (Qj p) (Ql p) lg lg N W (hs.fresh h) hfit hm).mono fun e w' q=>(⟨by rw [q.1,if_pos hv],q.2⟩:e = .returned (.int .i64 0)/\Q0 W w'));have HWK:=hd_ (fun W (h:Q0 w W)=>Qaa F B B m m d d p (Qj p) (Ql p) lg lg N W (hs.fresh h) hfit hm hp hv);generalize Y7 1 p lg N=en at *;obtain⟨t0,t1⟩:=(bt).cells2;clear bt f0 hw0 hH hp hs hfit hm hv;generalize hps:Qj p=s at *;generalize hpx:Ql p=x at *;refine Q6 fun R hR=>?_;go_enter Tryz.func75,Tryz.ntmps75;go_wp2_with fail;simp only [<-HH.out,<-HW.out];go_wp2_with fail;refine HM.out.mono ?_;rintro e w1 ⟨rfl,f1⟩;obtain⟨w2,hw2⟩:=nm_ (w1.alloc (.cells #[.int .i64 p,.int .i64 s,.int .i64 x,.int .i64 lg,.slice B m d] 181));obtain⟨H1,hH1⟩:=nm_ (w1.heap.size);(have f12:Q0 w1 w2:=by rw [hw2];exact(Upd.refl _ _).alloc _);have b2:=BT.out.fresh (f1.trans' f12);(have c2:Blk w2 H1 181 #[.int .i64 p,.int .i64 s,.int .i64 x,.int .i64 lg,.slice B m d]:=by rw [hw2];exact Q1 hH1 _ _);have B2:=hd_ b2;have C2:=hd_ c2;have F2:=hd_ ((F0.out.trans' f1).trans' f12);have HW2:=hd_ hw2;have HH1:=hd_ hH1;clear f1 f12 b2 c2 hw2 hH1;go_wp2_with fail;simp only [<-HW2.out];refine(HWY.out _).mono ?_;rintro e w3 ⟨rfl,f3⟩;have b3:=B2.out.fresh f3;have c3:=C2.out.fresh f3;have q0:=c3.cell 0;have q1:=c3.cell 1;have q2:=c3.cell 2;have q3:=c3.cell 3;have q4:=c3.cell 4;have u0:=b3.cell 0;have u1:=b3.cell 1;simp at q0 q1 q2 q3 q4 u0 u1;have B3:=hd_ b3;have C3:=hd_ c3;have F3:=hd_ (F2.out.trans' f3);clear f3 b3 c3;simp only [<-HH1.out];go_wp2_with fail;refine(HMY.out _ F3.out).mono ?_;rintro e w4 ⟨rfl,f4⟩;have b4:=B3.out.fresh f4;have c4:=C3.out.fresh f4;have F4:=hd_ (F3.out.trans' f4)
 have hS4:∀W,Q0 w4 W->(Q0 w4 W/\W.cell? ⟨H1,0,none⟩=some (.int .i64 p)/\W.cell? ⟨H1,1,none⟩=some (.int .i64 s)/\W.cell? ⟨H1,2,none⟩=some (.int .i64 x)/\W.cell? ⟨H1,3,none⟩=some (.int .i64 lg)/\W.cell? ⟨H1,4,none⟩=some (.slice B m d)/\W.cell? ⟨H,0,none⟩=some (.int .i64 lg)/\W.cell? ⟨H,1,none⟩=some (.slice B m d)):=by
   intro W hW;have b1:=b4.fresh hW;have b2:=c4.fresh hW;exact⟨hW,by simpa using b2.cell 0,by simpa using b2.cell 1,by simpa using b2.cell 2,by simpa using b2.cell 3,by simpa using b2.cell 4,by simpa using b1.cell 0,by simpa using b1.cell 1⟩
 have HSS:=hd_ hS4;(have hix:∀W,(Instr.index 188 (.agg #[.func (.func 138) #[] #[],.func (.func 140) #[] #[],.func (.func 143) #[] #[],.func (.func 144) #[] #[],.func (.func 145) #[] #[],.func (.func 147) #[] #[],.func (.func 149) #[] #[],.func (.func 150) #[] #[]]) (.int .i64 1)).run Tryz.prog W = .ok (.agg #[.func (.func 143) #[] #[],.func (.func 144) #[] #[]]) W:=fun _=>by kernel_rfl);(have hfl:∀W,(Instr.field 187 (.agg #[.func (.func 143) #[] #[],.func (.func 144) #[] #[]]) 1).run Tryz.prog W = .ok (.func (.func 144) #[] #[]) W:=fun _=>by kernel_rfl);clear f4 b4 c4 hS4 q0 q1 q2 q3 q4 u0 u1;go_wp2_with fail
 go_region_held3 (fun W=>Q0 w4 W/\W.cell? ⟨H1,0,none⟩=some (.int .i64 p)/\W.cell? ⟨H1,1,none⟩=some (.int .i64 s)/\W.cell? ⟨H1,2,none⟩=some (.int .i64 x)/\W.cell? ⟨H1,3,none⟩=some (.int .i64 lg)/\W.cell? ⟨H1,4,none⟩=some (.slice B m d)/\W.cell? ⟨H,0,none⟩=some (.int .i64 lg)/\W.cell? ⟨H,1,none⟩=some (.slice B m d))
   (first|exact HSS.out _ (by assumption)|exact HSS.out _ (And.left (by assumption))|exact HSS.out _ (Upd.refl _ _)|exact HSS.out _ (Upd.refl _ _).drew)
   (first
     | (go_at_call 89;refine(HWY.out _).mono ?_;rintro e w' ⟨rfl,f2x⟩;have f3x:Q0 w4 w':=Upd.trans' (And.left (by assumption)) f2x)
     | (go_at_call 144;refine(HWK.out _ (F4.out.trans' (And.left (by assumption)))).mono ?_;rintro e w' ⟨v,rfl,nb⟩;have f3x:Q0 w4 w':=Upd.trans' (And.left (by assumption)) nb.2.1;have NB:=hd_ (QB.lift (F4.out.trans' (And.left (by assumption))) nb)))
 (all_goals go_wp2_with fail);(all_goals try go_ret2);(all_goals exact hR.out _ _ ⟨_,rfl,NB.out⟩)
theorem Q7G (F:Nat->Prop) (B:Option Addr) (m d:Nat) (p lg:Int) (N:List Int) (w:World) (hs:Rd w F B m (Q2 N)) (hfit:Fit N) (hm:(m:Int)<=1099511627776) (hp:0<=p/\p<=2) (hv:Qc lg N (Qj p) (Ql p)) :
   Calls Tryz.prog 75 #[.int .i64 2,.int .i64 p,.agg #[.int .i64 lg,.slice B m d]] w fun e w'=>∃v,e = .returned (.tuple #[v,.int .i64 (Y7 2 p lg N).1])/\QB w w' v (Y7 2 p lg N).2:=by
 obtain⟨w0,hw0⟩:=nm_ (w.alloc (.cells #[.int .i64 lg,.slice B m d] 29));obtain⟨H,hH⟩:=nm_ (w.heap.size);(have f0:Q0 w w0:=by rw [hw0];exact(Upd.refl _ _).alloc _);(have bt:Blk w0 H 29 #[.int .i64 lg,.slice B m d]:=by rw [hw0];exact Q1 hH _ _);have HM:=hd_ (Jm p lg B m d w0 hp);have BT:=hd_ bt;have F0:=hd_ f0;have HW:=hd_ hw0;have HH:=hd_ hH;have HWY:=hd_ (YO);have HMY:=hd_ (fun W (h:Q0 w W)=>(K6 F B B m m d d p (Qj p) (Ql p) lg lg N W (hs.fresh h) hfit hm).mono fun e w' q=>(⟨by rw [q.1,if_pos hv],q.2⟩:e = .returned (.int .i64 0)/\Q0 W w'));have HWK:=hd_ (fun W (h:Q0 w W)=>Qab F B B m m d d p (Qj p) (Ql p) lg lg N W (hs.fresh h) hfit hm hp hv);generalize Y7 2 p lg N=en at *;obtain⟨t0,t1⟩:=(bt).cells2;clear bt f0 hw0 hH hp hs hfit hm hv;generalize hps:Qj p=s at *;generalize hpx:Ql p=x at *;refine Q6 fun R hR=>?_;go_enter Tryz.func75,Tryz.ntmps75;go_wp2_with fail;simp only [<-HH.out,<-HW.out];go_wp2_with fail;refine HM.out.mono ?_;rintro e w1 ⟨rfl,f1⟩;obtain⟨w2,hw2⟩:=nm_ (w1.alloc (.cells #[.int .i64 p,.int .i64 s,.int .i64 x,.int .i64 lg,.slice B m d] 181));obtain⟨H1,hH1⟩:=nm_ (w1.heap.size);(have f12:Q0 w1 w2:=by rw [hw2];exact(Upd.refl _ _).alloc _);have b2:=BT.out.fresh (f1.trans' f12);(have c2:Blk w2 H1 181 #[.int .i64 p,.int .i64 s,.int .i64 x,.int .i64 lg,.slice B m d]:=by rw [hw2];exact Q1 hH1 _ _);have B2:=hd_ b2;have C2:=hd_ c2;have F2:=hd_ ((F0.out.trans' f1).trans' f12);have HW2:=hd_ hw2;have HH1:=hd_ hH1;clear f1 f12 b2 c2 hw2 hH1;go_wp2_with fail;simp only [<-HW2.out];refine(HWY.out _).mono ?_;rintro e w3 ⟨rfl,f3⟩;have b3:=B2.out.fresh f3;have c3:=C2.out.fresh f3;have q0:=c3.cell 0;have q1:=c3.cell 1;have q2:=c3.cell 2;have q3:=c3.cell 3;have q4:=c3.cell 4;have u0:=b3.cell 0;have u1:=b3.cell 1;simp at q0 q1 q2 q3 q4 u0 u1;have B3:=hd_ b3;have C3:=hd_ c3;have F3:=hd_ (F2.out.trans' f3);clear f3 b3 c3;simp only [<-HH1.out];go_wp2_with fail;refine(HMY.out _ F3.out).mono ?_;rintro e w4 ⟨rfl,f4⟩;have b4:=B3.out.fresh f4;have c4:=C3.out.fresh f4;have F4:=hd_ (F3.out.trans' f4)
 have hS4:∀W,Q0 w4 W->(Q0 w4 W/\W.cell? ⟨H1,0,none⟩=some (.int .i64 p)/\W.cell? ⟨H1,1,none⟩=some (.int .i64 s)/\W.cell? ⟨H1,2,none⟩=some (.int .i64 x)/\W.cell? ⟨H1,3,none⟩=some (.int .i64 lg)/\W.cell? ⟨H1,4,none⟩=some (.slice B m d)/\W.cell? ⟨H,0,none⟩=some (.int .i64 lg)/\W.cell? ⟨H,1,none⟩=some (.slice B m d)):=by
   intro W hW;have b1:=b4.fresh hW;have b2:=c4.fresh hW;exact⟨hW,by simpa using b2.cell 0,by simpa using b2.cell 1,by simpa using b2.cell 2,by simpa using b2.cell 3,by simpa using b2.cell 4,by simpa using b1.cell 0,by simpa using b1.cell 1⟩
 have HSS:=hd_ hS4;(have hix:∀W,(Instr.index 188 (.agg #[.func (.func 138) #[] #[],.func (.func 140) #[] #[],.func (.func 143) #[] #[],.func (.func 144) #[] #[],.func (.func 145) #[] #[],.func (.func 147) #[] #[],.func (.func 149) #[] #[],.func (.func 150) #[] #[]]) (.int .i64 2)).run Tryz.prog W = .ok (.agg #[.func (.func 145) #[] #[],.func (.func 147) #[] #[]]) W:=fun _=>by kernel_rfl);(have hfl:∀W,(Instr.field 187 (.agg #[.func (.func 145) #[] #[],.func (.func 147) #[] #[]]) 1).run Tryz.prog W = .ok (.func (.func 147) #[] #[]) W:=fun _=>by kernel_rfl);clear f4 b4 c4 hS4 q0 q1 q2 q3 q4 u0 u1;go_wp2_with fail
 go_region_held3 (fun W=>Q0 w4 W/\W.cell? ⟨H1,0,none⟩=some (.int .i64 p)/\W.cell? ⟨H1,1,none⟩=some (.int .i64 s)/\W.cell? ⟨H1,2,none⟩=some (.int .i64 x)/\W.cell? ⟨H1,3,none⟩=some (.int .i64 lg)/\W.cell? ⟨H1,4,none⟩=some (.slice B m d)/\W.cell? ⟨H,0,none⟩=some (.int .i64 lg)/\W.cell? ⟨H,1,none⟩=some (.slice B m d))
   (first|exact HSS.out _ (by assumption)|exact HSS.out _ (And.left (by assumption))|exact HSS.out _ (Upd.refl _ _)|exact HSS.out _ (Upd.refl _ _).drew)
   (first
     | (go_at_call 89;refine(HWY.out _).mono ?_;rintro e w' ⟨rfl,f2x⟩;have f3x:Q0 w4 w':=Upd.trans' (And.left (by assumption)) f2x)
     | (go_at_call 147;refine(HWK.out _ (F4.out.trans' (And.left (by assumption)))).mono ?_;rintro e w' ⟨v,rfl,nb⟩;have f3x:Q0 w4 w':=Upd.trans' (And.left (by assumption)) nb.2.1;have NB:=hd_ (QB.lift (F4.out.trans' (And.left (by assumption))) nb)))
 (all_goals go_wp2_with fail);(all_goals try go_ret2);(all_goals exact hR.out _ _ ⟨_,rfl,NB.out⟩)
theorem Q7H (F:Nat->Prop) (B:Option Addr) (m d:Nat) (p lg:Int) (N:List Int) (w:World) (hs:Rd w F B m (Q2 N)) (hfit:Fit N) (hm:(m:Int)<=1099511627776) (hp:0<=p/\p<=2) (hv:Qc lg N (Qj p) (Ql p)) :
   Calls Tryz.prog 75 #[.int .i64 3,.int .i64 p,.agg #[.int .i64 lg,.slice B m d]] w fun e w'=>∃v,e = .returned (.tuple #[v,.int .i64 (Y7 3 p lg N).1])/\QB w w' v (Y7 3 p lg N).2:=by
 obtain⟨w0,hw0⟩:=nm_ (w.alloc (.cells #[.int .i64 lg,.slice B m d] 29));obtain⟨H,hH⟩:=nm_ (w.heap.size);(have f0:Q0 w w0:=by rw [hw0];exact(Upd.refl _ _).alloc _);(have bt:Blk w0 H 29 #[.int .i64 lg,.slice B m d]:=by rw [hw0];exact Q1 hH _ _);have HM:=hd_ (Jm p lg B m d w0 hp);have BT:=hd_ bt;have F0:=hd_ f0;have HW:=hd_ hw0;have HH:=hd_ hH;have HWY:=hd_ (YO);have HMY:=hd_ (fun W (h:Q0 w W)=>(K6 F B B m m d d p (Qj p) (Ql p) lg lg N W (hs.fresh h) hfit hm).mono fun e w' q=>(⟨by rw [q.1,if_pos hv],q.2⟩:e = .returned (.int .i64 0)/\Q0 W w'));have HWK:=hd_ (fun W (h:Q0 w W)=>Qac F B B m m d d p (Qj p) (Ql p) lg lg N W (hs.fresh h) hfit hm hp hv);generalize Y7 3 p lg N=en at *;obtain⟨t0,t1⟩:=(bt).cells2;clear bt f0 hw0 hH hp hs hfit hm hv;generalize hps:Qj p=s at *;generalize hpx:Ql p=x at *;refine Q6 fun R hR=>?_;go_enter Tryz.func75,Tryz.ntmps75;go_wp2_with fail;simp only [<-HH.out,<-HW.out];go_wp2_with fail;refine HM.out.mono ?_;rintro e w1 ⟨rfl,f1⟩;obtain⟨w2,hw2⟩:=nm_ (w1.alloc (.cells #[.int .i64 p,.int .i64 s,.int .i64 x,.int .i64 lg,.slice B m d] 181));obtain⟨H1,hH1⟩:=nm_ (w1.heap.size);(have f12:Q0 w1 w2:=by rw [hw2];exact(Upd.refl _ _).alloc _);have b2:=BT.out.fresh (f1.trans' f12);(have c2:Blk w2 H1 181 #[.int .i64 p,.int .i64 s,.int .i64 x,.int .i64 lg,.slice B m d]:=by rw [hw2];exact Q1 hH1 _ _);have B2:=hd_ b2;have C2:=hd_ c2;have F2:=hd_ ((F0.out.trans' f1).trans' f12);have HW2:=hd_ hw2;have HH1:=hd_ hH1;clear f1 f12 b2 c2 hw2 hH1;go_wp2_with fail;simp only [<-HW2.out];refine(HWY.out _).mono ?_;rintro e w3 ⟨rfl,f3⟩;have b3:=B2.out.fresh f3;have c3:=C2.out.fresh f3;have q0:=c3.cell 0;have q1:=c3.cell 1;have q2:=c3.cell 2;have q3:=c3.cell 3;have q4:=c3.cell 4;have u0:=b3.cell 0;have u1:=b3.cell 1;simp at q0 q1 q2 q3 q4 u0 u1;have B3:=hd_ b3;have C3:=hd_ c3;have F3:=hd_ (F2.out.trans' f3);clear f3 b3 c3;simp only [<-HH1.out];go_wp2_with fail;refine(HMY.out _ F3.out).mono ?_;rintro e w4 ⟨rfl,f4⟩;have b4:=B3.out.fresh f4;have c4:=C3.out.fresh f4;have F4:=hd_ (F3.out.trans' f4)
 have hS4:∀W,Q0 w4 W->(Q0 w4 W/\W.cell? ⟨H1,0,none⟩=some (.int .i64 p)/\W.cell? ⟨H1,1,none⟩=some (.int .i64 s)/\W.cell? ⟨H1,2,none⟩=some (.int .i64 x)/\W.cell? ⟨H1,3,none⟩=some (.int .i64 lg)/\W.cell? ⟨H1,4,none⟩=some (.slice B m d)/\W.cell? ⟨H,0,none⟩=some (.int .i64 lg)/\W.cell? ⟨H,1,none⟩=some (.slice B m d)):=by
   intro W hW;have b1:=b4.fresh hW;have b2:=c4.fresh hW;exact⟨hW,by simpa using b2.cell 0,by simpa using b2.cell 1,by simpa using b2.cell 2,by simpa using b2.cell 3,by simpa using b2.cell 4,by simpa using b1.cell 0,by simpa using b1.cell 1⟩
 have HSS:=hd_ hS4;(have hix:∀W,(Instr.index 188 (.agg #[.func (.func 138) #[] #[],.func (.func 140) #[] #[],.func (.func 143) #[] #[],.func (.func 144) #[] #[],.func (.func 145) #[] #[],.func (.func 147) #[] #[],.func (.func 149) #[] #[],.func (.func 150) #[] #[]]) (.int .i64 3)).run Tryz.prog W = .ok (.agg #[.func (.func 149) #[] #[],.func (.func 150) #[] #[]]) W:=fun _=>by kernel_rfl);(have hfl:∀W,(Instr.field 187 (.agg #[.func (.func 149) #[] #[],.func (.func 150) #[] #[]]) 1).run Tryz.prog W = .ok (.func (.func 150) #[] #[]) W:=fun _=>by kernel_rfl);clear f4 b4 c4 hS4 q0 q1 q2 q3 q4 u0 u1;go_wp2_with fail
 go_region_held3 (fun W=>Q0 w4 W/\W.cell? ⟨H1,0,none⟩=some (.int .i64 p)/\W.cell? ⟨H1,1,none⟩=some (.int .i64 s)/\W.cell? ⟨H1,2,none⟩=some (.int .i64 x)/\W.cell? ⟨H1,3,none⟩=some (.int .i64 lg)/\W.cell? ⟨H1,4,none⟩=some (.slice B m d)/\W.cell? ⟨H,0,none⟩=some (.int .i64 lg)/\W.cell? ⟨H,1,none⟩=some (.slice B m d))
   (first|exact HSS.out _ (by assumption)|exact HSS.out _ (And.left (by assumption))|exact HSS.out _ (Upd.refl _ _)|exact HSS.out _ (Upd.refl _ _).drew)
   (first
     | (go_at_call 89;refine(HWY.out _).mono ?_;rintro e w' ⟨rfl,f2x⟩;have f3x:Q0 w4 w':=Upd.trans' (And.left (by assumption)) f2x)
     | (go_at_call 150;refine(HWK.out _ (F4.out.trans' (And.left (by assumption)))).mono ?_;rintro e w' ⟨v,rfl,nb⟩;have f3x:Q0 w4 w':=Upd.trans' (And.left (by assumption)) nb.2.1;have NB:=hd_ (QB.lift (F4.out.trans' (And.left (by assumption))) nb)))
 (all_goals go_wp2_with fail);(all_goals try go_ret2);(all_goals exact hR.out _ _ ⟨_,rfl,NB.out⟩)
def VM:Nat->Nat->Nat->List Nat->Nat × Nat × Int
  | 0,i,_,_=>(0,i,18)
  | _+1,i,_,[]=>(0,i,3)
  | f+1,i,n,x::xs =>
    if 128<=x then VM f (i+1) (n+x%128*2^(7*i)) xs
    else if x=0/\0<i then(0,i+1,5)
    else if 4611686018427387903<n+x%128*2^(7*i)then(0,i+1,18)
    else(n+x%128*2^(7*i),i+1,0)
def QH (bs:List Nat):Nat × Nat × Int:=VM 9 0 0 bs
theorem Q98 (x:Nat) (h:x<256):bits .and .u8 (x:Int) 127=((x%128:Nat):Int):=by
 (have:∀x:Fin 256,bits .and .u8 ((x.val:Nat):Int) 127=((x.val%128:Nat):Int):=by decide +kernel);exact this ⟨x,h⟩
theorem Q7I (n y i:Nat) (hn:n<2^(7*i)) (hy:y<128) (hi:i<9) :
   bits .or .u64 (n:Int) (IntKind.u64.wrap ((y:Int)*2^(7*i)))=((n+y*2^(7*i):Nat):Int):=Q4e n y (7*i) 7 hn (by omega) (by omega)
theorem Q99 (n y i:Nat) (hn:n<2^(7*i)) (hy:y<128):n+y*2^(7*i)<2^(7*(i+1)):=by
 (have h:2^(7*(i+1))=128*2^(7*i):=by rw [show 7*(i+1)=7*i+7 by omega,Nat.pow_add];omega);have h2:y*2^(7*i)<=127*2^(7*i):=Nat.mul_le_mul_right _ (by omega);omega
theorem Q7J (F:Nat->Prop) (g pc:Nat) (bs:List Nat) (at_:Nat) (w:World) (hcu:Qk w F g bs at_)
   (bc:Blk w pc 35 #[.pointer (some ⟨g,0,none⟩)]) (hF:∀b,F b->b≠g) :
   Calls Tryz.prog 51 #[.pointer (some ⟨pc,0,none⟩)] w fun e w'=>e = .returned (.tuple #[.int .u64 ((QH (bs.drop at_)).1:Nat),.int .i64 (QH (bs.drop at_)).2.2]) /\
     Upd (fun b=>b=g) w w'/\∃a',Qk w' F g bs a'/\((QH (bs.drop at_)).2.2=0->a'=at_+(QH (bs.drop at_)).2.1):=by
 obtain⟨T,hT⟩:=nm_ (QH (bs.drop at_));rw [<-hT]
 have hpg:pc≠g:=by
   obtain⟨A,c,hb,_⟩:=hcu;exact bc.ne_ hb (by decide)
 (have hlt:∀b∈bs,b<256:=by obtain⟨A,c,_,_,h,_⟩:=hcu;exact h);have HLT:=hd_ hlt;have HT:=hd_ hT;have HCU:=hd_ hcu;have HBC:=hd_ bc;clear hT hcu bc hlt;refine Q6 fun R hR=>?_;go_enter Tryz.func51,Tryz.ntmps51;go_wp2_with fail;go_loopg [3,7] 9 (fun f vn vi wr=>∃(i n:Nat),i+f=9/\vi = .int .i64 i/\vn = .int .u64 n/\n<2^(7*i)/\Upd (fun b=>b=g) w wr/\Qk wr F g bs (at_+i)/\VM f i n (bs.drop (at_+i))=T)
 case atStart=>exact⟨0,0,rfl,rfl,rfl,by omega,Upd.refl _ _,HCU.out,HT.out.symm⟩
 case round =>
   obtain⟨i,n,hif,rfl,rfl,hn,hu,hcu,ht⟩:=hrel;have HU:=hd_ hu;have HC:=hd_ hcu;have hbc:=HBC.out.upd hu hpg;have hc:=hbc.cell0;have HB:=hd_ hbc;clear hu hcu hbc;have hw7:IntKind.i64.wrap (7*(i:Int))=7*i:=IntWalk.i64_in _ (by omega);(have hw8:((7:Int)*(i:Int)).toNat=7*i:=by omega);(have hw9:(0:Int)<=7*(i:Int):=by omega);have hw10:IntKind.i64.wrap ((i:Int)+1)=i+1:=IntWalk.i64_in _ (by omega);by_cases hi:i<9
   . obtain⟨f,rfl⟩:∃f,gk=f+1:=⟨gk-1,by omega⟩
     (have hiI:(i:Int)<9:=by omega);by_cases hk:at_+i<bs.length
     . obtain⟨x,hx⟩:∃x,x=bs[at_+i]:=⟨_,rfl⟩
       (have hx2:bs[at_+i]?.getD 0=x:=by rw [List.getElem?_eq_getElem hk,hx];rfl);(have hx3:x<256:=by rw [hx];exact HLT.out _ (List.getElem_mem hk));rw [List.drop_eq_getElem_cons hk,<-hx]at ht;have hcall:=Q11 F g bs (at_+i) wr HC.out hk hF;rw [hx2]at hcall;have HCALL:=hd_ hcall;have hand:=Q98 x hx3;have hor:=Q7I n (x%128) i hn (by omega) hi;have hpl:=Q99 n (x%128) i hn (by omega);simp only [VM]at ht;(have hy:x%128<128:=by omega);generalize x%128=y at *;(have hcy:IntKind.u64.wrap (y:Int)=y:=by rw [IntKind.wrap_u64];omega);generalize n+y*2^(7*i)=m at *;have HPL:=hd_ hpl;clear hcall hx hx2 hpl hn;(have hxI:(x:Int)<256:=by omega);by_cases h1:128<=x
       . rw [if_pos h1]at ht
         have HTT:=hd_ ht;clear ht;(have h1I:(128:Int)<=x:=by omega);go_wp2_with fail;refine HCALL.out.mono ?_;rintro e w1 ⟨rfl,u1,c1⟩;have U1:=hd_ u1;have C1:=hd_ c1;clear u1 c1;go_wp2_with fail;go_roundg f
         case measure=>omega
         case rel =>
           refine⟨i+1,m,by omega,by go_num,rfl,HPL.out,HU.out.trans' U1.out,?_,?_⟩
           . have:=C1.out
             rwa [Nat.add_assoc]at this
           have:=HTT.out
           rwa [Nat.add_assoc]at this
       rw [if_neg h1]at ht;(have h1I:(x:Int)<128:=by omega);by_cases h2:x=0/\0<i
       . rw [if_pos h2]at ht
         (have h2a:((x:Int) == 0)=true:=by simpa using h2.1);(have h2b:(0:Int)<i:=by omega);subst ht;clear h2;go_wp2_with fail;refine HCALL.out.mono ?_;rintro e w1 ⟨rfl,u1,c1⟩;have U1:=hd_ u1;have C1:=hd_ c1;clear u1 c1;go_wp2_with fail;(try go_ret2);exact hR.out _ _ ⟨rfl,HU.out.trans' U1.out,_,C1.out,fun h=>absurd h (by decide)⟩
       rw [if_neg h2]at ht;by_cases h3:4611686018427387903<m
       . rw [if_pos h3]at ht
         (have h3I:(4611686018427387903:Int)<m:=by omega);subst ht;by_cases hx0:x=0
         . have h2a:((x:Int) == 0)=true:=by simpa using hx0
           (have h2b:(i:Int)<=0:=by omega);clear hx0 h2;go_wp2_with fail;refine HCALL.out.mono ?_;rintro e w1 ⟨rfl,u1,c1⟩;have U1:=hd_ u1;have C1:=hd_ c1;clear u1 c1;go_wp2_with fail;(try go_ret2);exact hR.out _ _ ⟨rfl,HU.out.trans' U1.out,_,C1.out,fun h=>absurd h (by decide)⟩
         (have h2a:((x:Int) == 0)=false:=by simp;omega);go_wp2_with fail;refine HCALL.out.mono ?_;rintro e w1 ⟨rfl,u1,c1⟩;have U1:=hd_ u1;have C1:=hd_ c1;clear u1 c1;go_wp2_with fail;(try go_ret2);exact hR.out _ _ ⟨rfl,HU.out.trans' U1.out,_,C1.out,fun h=>absurd h (by decide)⟩
       rw [if_neg h3]at ht;(have h3I:(m:Int)<=4611686018427387903:=by omega);subst ht;by_cases hx0:x=0
       . have h2a:((x:Int) == 0)=true:=by simpa using hx0
         (have h2b:(i:Int)<=0:=by omega);clear hx0 h2;go_wp2_with fail;refine HCALL.out.mono ?_;rintro e w1 ⟨rfl,u1,c1⟩;have U1:=hd_ u1;have C1:=hd_ c1;clear u1 c1;go_wp2_with fail;(try go_ret2);exact hR.out _ _ ⟨rfl,HU.out.trans' U1.out,_,C1.out,fun _=>by omega⟩
       (have h2a:((x:Int) == 0)=false:=by simp;omega);go_wp2_with fail;refine HCALL.out.mono ?_;rintro e w1 ⟨rfl,u1,c1⟩;have U1:=hd_ u1;have C1:=hd_ c1;clear u1 c1;go_wp2_with fail;(try go_ret2);exact hR.out _ _ ⟨rfl,HU.out.trans' U1.out,_,C1.out,fun _=>by omega⟩
     have hcall:=XQ F g bs (at_+i) wr HC.out (by obtain⟨A,c,_,_,_,h,_⟩:=HC.out;omega) hF;rw [List.drop_of_length_le (by omega)]at ht;simp only [VM]at ht;subst ht;have HCALL:=hd_ hcall;clear hcall;go_wp2_with fail;refine HCALL.out.mono ?_;rintro e w1 ⟨rfl,u1,c1⟩;have U1:=hd_ u1;have C1:=hd_ c1;clear u1 c1;go_wp2_with fail;(try go_ret2);exact hR.out _ _ ⟨rfl,HU.out.trans' U1.out,_,C1.out,fun h=>absurd h (by decide)⟩
   (have hi9:i=9:=by omega);(have hg0:gk=0:=by omega);subst hi9 hg0;simp only [VM]at ht;subst ht;go_wp2_with fail;(try go_ret2);exact hR.out _ _ ⟨rfl,HU.out,_,HC.out,fun h=>absurd h (by decide)⟩
theorem Q7K (f:Nat):∀(i n:Nat) (l:List Nat),(VM f i n l).2.2≠0->(VM f i n l).1=0:=by
 induction f with
 | zero=>intro i n l _;rfl
 | succ f ih =>
   intro i n l h;rcases l with _|⟨x,xs⟩
   . rfl
   simp only [VM]at h ⊢;split
   . next h1=>rw [if_pos h1]at h;exact ih _ _ _ h
   next h1 =>
   rw [if_neg h1]at h;split
   . rfl
   next h2 =>
   rw [if_neg h2]at h;split
   . rfl
   next h3=>rw [if_neg h3]at h;exact absurd rfl h
theorem Q7L {l:List Nat} (h:(QH l).2.2≠0):(QH l).1=0:=Q7K _ _ _ _ h
theorem Q56 (pe pf px pc:Addr) (u:FrameMode) (w:World) (he:w.cell? pe=some (.int .i64 0)) :
   CallsD Tryz.prog 84 #[.pointer (some pe),.pointer (some pf),.pointer (some px),.pointer (some pc)] u w fun e u' w'=>u'=u/\(e = .returned (.tuple #[])/\w'=w):=by
 go_enter_d Tryz.func84,Tryz.ntmps84;go_wp2;go_end0;exact⟨rfl,rfl⟩
theorem Q57 (g H:Nat) (at_ a':Nat) (x er:Int) (her:(er == 0)=false) (A:Option Addr) (n c:Nat) (u:FrameMode) (w:World)
   (b0:Blk w H 35 #[.pointer (some ⟨g,0,none⟩)]) (b1:Blk w (H+1) 57 #[.int .u64 x]) (b2:Blk w (H+1+1) 38 #[.int .i64 er]) (b3:Blk w (H+1+1+1) 3 #[.int .i64 at_])
   (bg:Blk w g 67 #[.slice A n c,.int .i64 a']) (hg:g<H) :
   CallsD Tryz.prog 84 #[.pointer (some ⟨H+1+1,0,none⟩),.pointer (some ⟨H+1+1+1,0,none⟩),.pointer (some ⟨H+1,0,none⟩),.pointer (some ⟨H,0,none⟩)] u w fun e u' w'=>u'=u/\(e = .returned (.tuple #[]) /\
     w'=(w.setCell ⟨H+1,0,none⟩ (.int .u64 0)).setCell ⟨g,1,none⟩ (.int .i64 at_)):=by
 have c0:=b0.cell0;have c1:=b1.cell0;have c2:=b2.cell0;have c3:=b3.cell0;have z1:=b1.frozen 0;have zg:=bg.frozen 1;have g1:=bg.cell 1;simp at g1;(have her2:¬er=0:=by simpa using her);go_enter_d Tryz.func84,Tryz.ntmps84;go_wp2;go_end0;exact⟨rfl,rfl⟩
theorem Q6d (F:Nat->Prop) (g pc:Nat) (bs:List Nat) (at_:Nat) (w:World) (hcu:Qk w F g bs at_)
   (bc:Blk w pc 35 #[.pointer (some ⟨g,0,none⟩)]) (hF:∀b,F b->b≠g) :
   Calls Tryz.prog 50 #[.pointer (some ⟨g,0,none⟩),.func (.func 51) #[] #[.pointer (some ⟨pc,0,none⟩)]] w fun e w' =>
     e = .returned (.tuple #[.int .u64 ((QH (bs.drop at_)).1:Nat),.int .i64 (QH (bs.drop at_)).2.2])/\Upd (fun b=>b=g) w w' /\
       Qk w' F g bs (if(QH (bs.drop at_)).2.2=0 then at_+(QH (bs.drop at_)).2.1 else at_):=by
 have hmf:∀(fn:Fn) (first cap:Array Value) (w:World),(Instr.makeFunc fn first cap).run Tryz.prog w = .ok (.func fn first cap) w:=fun _ _ _ _=>rfl;have hg:=hcu.lt
 have hat:w.cell? ⟨g,1,none⟩=some (.int .i64 at_):=by
   obtain⟨A,c,hb,_⟩:=hcu;simpa using hb.cell 1
 (have hat9:at_<=bs.length:=by obtain⟨A,c,_,_,_,h,_⟩:=hcu;exact h);have HAT9:=hd_ hat9;have HV0:=hd_ (fun h:(QH (bs.drop at_)).2.2≠0=>Q7L h);have hb1':=fun W (hW:Q0 w W)=>Q7J (fun b=>F b/\b<w.heap.size) g pc bs at_ W (hcu.both.fresh hW) (bc.fresh hW) (fun b hb=>hF b hb.1);have HB1:=hd_ hb1';have HCU:=hd_ hcu;have HBC:=hd_ bc;clear hcu bc hb1' hat9;generalize QH (bs.drop at_)=V at *;obtain⟨v,k,er⟩:=V;simp only at HB1 HV0 ⊢;have HV1:=hd_ (fun h:er≠0=>(by rw [HV0.out h];rfl:((v:Nat):Int)=0));clear HV0;generalize ((v:Nat):Int)=v at *;(have hg1:g<w.heap.size+1:=by omega);(have hg2:g<w.heap.size+1+1:=by omega);(have hg3:g<w.heap.size+1+1+1:=by omega);refine Q6 fun R hR=>?_;go_enter_defers Tryz.func50,Tryz.ntmps50;go_wp2_with fail;obtain⟨H,hH⟩:=nm_ (w.heap.size);rw [<-hH]at hg hg1 hg2 hg3;simp only [<-hH];obtain⟨W0,hW0⟩:=nm_ ((((w.alloc (.cells #[.pointer (some ⟨g,0,none⟩)] 35)).alloc (.cells #[.int .u64 0] 57)).alloc (.cells #[.int .i64 0] 38)).alloc (.cells #[.int .i64 at_] 3));rw [<-hW0];(have f0:Q0 w W0:=by rw [hW0];exact((((Upd.refl _ w).alloc _).alloc _).alloc _).alloc _);(have k0:Blk W0 H 35 #[.pointer (some ⟨g,0,none⟩)]:=by rw [hW0];exact(((Q1 (by simp [hH]) _ _).alloc _).alloc _).alloc _);(have k1:Blk W0 (H+1) 57 #[.int .u64 0]:=by rw [hW0];exact((Q1 (by simp [hH]) _ _).alloc _).alloc _);(have k2:Blk W0 (H+1+1) 38 #[.int .i64 0]:=by rw [hW0];exact(Q1 (by simp [hH]) _ _).alloc _);(have k3:Blk W0 (H+1+1+1) 3 #[.int .i64 at_]:=by rw [hW0];exact Q1 (by simp [hH]) _ _);clear hW0;have HH:=hd_ hH;clear hH;refine(HB1.out W0 f0).mono ?_;rintro e w1 ⟨rfl,u1,a',c1,ha'⟩;have j0:=k0.upd u1 (by omega);have j1:=k1.upd u1 (by omega);have j2:=k2.upd u1 (by omega);have j3:=k3.upd u1 (by omega);have uu:Upd (fun b=>b=g) w w1:=(f0.mono (fun _ _ h=>h.elim)).trans' u1;have d1:=j1.cell0;have d2:=j2.cell0;have z1:=j1.frozen 0;have z2:=j2.frozen 0;have J0:=hd_ j0;have J1:=hd_ j1;have J2:=hd_ j2;have J3:=hd_ j3;have HC1:=hd_ c1;have HA':=hd_ ha';have UU:=hd_ uu;clear j0 j1 j2 j3 k0 k1 k2 k3 c1 ha' u1 uu;go_wp2;have L0:=(J0.out.far (p:=⟨H+1,0,none⟩) (by simp) (.int .u64 v)).far (p:=⟨H+1+1,0,none⟩) (by simp;omega) (.int .i64 er);have L1:=(J1.out.set_ 0 (.int .u64 v)).far (p:=⟨H+1+1,0,none⟩) (by simp) (.int .i64 er);have L2:=(J2.out.far (p:=⟨H+1,0,none⟩) (by simp) (.int .u64 v)).set_ 0 (.int .i64 er);have L3:=(J3.out.far (p:=⟨H+1,0,none⟩) (by simp;omega) (.int .u64 v)).far (p:=⟨H+1+1,0,none⟩) (by simp) (.int .i64 er);have hd2:=L2.cell0;have hd1:=L1.cell0;have u3:Upd (fun b=>b=g) w ((w1.setCell ⟨H+1,0,none⟩ (.int .u64 v)).setCell ⟨H+1+1,0,none⟩ (.int .i64 er)):=(UU.out.setCell (p:=⟨H+1,0,none⟩) (fun h=>by have:=HH.out;simp at h;omega) _).setCell (p:=⟨H+1+1,0,none⟩) (fun h=>by have:=HH.out;simp at h;omega) _
 have m1:=HC1.out.upd (S:=fun b=>b=H+1) ((Upd.refl (fun b=>b=H+1) _).setCell (p:=⟨H+1,0,none⟩) (fun _=>rfl) (.int .u64 v)) (by omega) (fun b _ hb e=>by have:=hb.2;have:=HH.out;omega);have m2:=m1.upd (S:=fun b=>b=H+1+1) ((Upd.refl (fun b=>b=H+1+1) _).setCell (p:=⟨H+1+1,0,none⟩) (fun _=>rfl) (.int .i64 er)) (by omega) (fun b _ hb e=>by have:=hb.2;have:=HH.out;omega);change Leaves _ _ _ _ _ _ _;refine leaves_cons (f:=84) (args:=#[.pointer (some ⟨H+1+1,0,none⟩),.pointer (some ⟨H+1+1+1,0,none⟩),.pointer (some ⟨H+1,0,none⟩),.pointer (some ⟨H,0,none⟩)]) (by simp) (by simp [go_sem]) ?_;by_cases her:er=0
 . subst her
   refine(Q56 _ _ _ _ .returning _ hd2).mono ?_;rintro e u' w'' ⟨rfl,rfl,rfl⟩;refine⟨.tuple #[.int .u64 v,.int .i64 0],?_,hR.out _ _ ⟨rfl,u3,?_⟩⟩
   . simp [results,Tryz.results50,go_sem,hd1,hd2]
   rw [if_pos rfl,<-HA'.out rfl];exact m2.mono fun b hb=>hb.1
 obtain⟨A,c,hb,hr,hq1,hq2,hq3,hq4⟩:=m2;have hv:=HV1.out her;subst hv;refine(Q57 g H at_ a' 0 er (by simpa using her) A bs.length c .returning _ (by simpa using L0) (by simpa using L1) (by simpa using L2) (by simpa using L3) hb hg).mono ?_;rintro e u' w'' ⟨rfl,rfl,rfl⟩;refine⟨.tuple #[.int .u64 0,.int .i64 er],?_,hR.out _ _ ⟨rfl,?_,?_⟩⟩
 . have M1:=((L1.set_ 0 (.int .u64 0)).far (p:=⟨g,1,none⟩) (by simp;omega) (.int .i64 at_))
   have M2:=((L2.far (p:=⟨H+1,0,none⟩) (by simp) (.int .u64 0)).far (p:=⟨g,1,none⟩) (by simp;omega) (.int .i64 at_));have e1:=M1.cell0;have e2:=M2.cell0;simp [results,Tryz.results50,go_sem,e1,e2]
 . exact(u3.setCell (p:=⟨H+1,0,none⟩) (fun h=>by have:=HH.out;simp at h;omega) _).setCell (p:=⟨g,1,none⟩) (fun _=>rfl) _
 rw [if_neg her];have hb2:=(hb.far (p:=⟨H+1,0,none⟩) (by simp;omega) (.int .u64 0)).set_ 1 (.int .i64 (at_:Nat))
 have u5:Upd (fun b=>b=g\/b=H+1) ((w1.setCell ⟨H+1,0,none⟩ (.int .u64 0)).setCell ⟨H+1+1,0,none⟩ (.int .i64 er)) ((((w1.setCell ⟨H+1,0,none⟩ (.int .u64 0)).setCell ⟨H+1+1,0,none⟩ (.int .i64 er)).setCell ⟨H+1,0,none⟩ (.int .u64 0)).setCell ⟨g,1,none⟩ (.int .i64 at_)) :=
   ((Upd.refl (fun b=>b=g\/b=H+1) _).setCell (p:=⟨H+1,0,none⟩) (fun _=>.inr rfl) _).setCell (p:=⟨g,1,none⟩) (fun _=>.inl rfl) _
 refine⟨A,c,by simpa using hb2,(hr.upd u5 (fun b _ hb e=>?_)).mono fun b hb=>hb.1,hq1,HAT9.out,hq3,hq4⟩;rcases e with e|e
 . exact hF b hb.1 e
 have:=hb.2;have:=HH.out;omega
theorem Q7M (F:Nat->Prop) (g:Nat) (bs:List Nat) (at_:Nat) (w:World) (hcu:Qk w F g bs at_) (hF:∀b,F b->b≠g) :
   Calls Tryz.prog 32 #[.pointer (some ⟨g,0,none⟩)] w fun e w' =>
     e = .returned (.tuple #[.int .u64 ((QH (bs.drop at_)).1:Nat),.int .i64 (QH (bs.drop at_)).2.2])/\Upd (fun b=>b=g) w w' /\
       Qk w' F g bs (if(QH (bs.drop at_)).2.2=0 then at_+(QH (bs.drop at_)).2.1 else at_):=by
 have hmf:∀(fn:Fn) (first cap:Array Value) (w:World),(Instr.makeFunc fn first cap).run Tryz.prog w = .ok (.func fn first cap) w:=fun _ _ _ _=>rfl;obtain⟨H,hH⟩:=nm_ (w.heap.size);have hr:=Q6d F g H bs at_ (w.alloc (.cells #[.pointer (some ⟨g,0,none⟩)] 35)) (hcu.fresh ((Upd.refl _ w).alloc _)) (Q1 hH _ _) hF;rw [hH]at hr;have HR:=hd_ hr;clear hr hcu hH H;generalize (if(QH (bs.drop at_)).2.2=0 then at_+(QH (bs.drop at_)).2.1 else at_)=P at *;generalize QH (bs.drop at_)=V at *;refine Q6 fun R hR=>?_;go_enter Tryz.func32,Tryz.ntmps32;go_wp2_with fail;refine HR.out.mono ?_;rintro e w1 ⟨rfl,u1,c1⟩;go_wp2;(try go_ret2);exact hR.out _ _ ⟨rfl,((Upd.refl (fun b=>b=g) w).alloc _).trans' u1,c1⟩
theorem Xh (F:Nat->Prop) (B:Option Addr) (m d:Nat) (mo p lg:Int) (N:List Int) (w:World) (hs:Rd w F B m (Q2 N)) (hfit:Fit N) (hm:(m:Int)<=1099511627776) :
   Calls Tryz.prog 75 #[.int .i64 mo,.int .i64 p,.agg #[.int .i64 lg,.slice B m d]] w fun e w'=>∃v,e = .returned (.tuple #[v,.int .i64 (Qy mo p lg N).1])/\QB w w' v (Qy mo p lg N).2:=by
 by_cases hp:p<0\/2<p
 . have h:Qy mo p lg N=(2,[]):=if_pos (by omega)
   rw [h];exact(Q6c B m d mo p lg w hp).mono fun e w' h=>⟨_,h.1,QB.none h.2⟩
 (have hp':0<=p/\p<=2:=by omega);by_cases h0:mo<0
 . have h:Qy mo p lg N=(2,[]):=if_pos (by omega)
   rw [h];exact(Q7B B m d mo p lg w hp' h0).mono fun e w' h=>⟨_,h.1,QB.none h.2⟩
 by_cases h3:3<mo
 . have h:Qy mo p lg N=(2,[]):=if_pos (by omega)
   rw [h];exact(Q7C B m d mo p lg w hp' h3).mono fun e w' h=>⟨_,h.1,QB.none h.2⟩
 (have hn:¬(p<0\/2<p\/mo<0\/3<mo):=by omega);by_cases hv:Qc lg N (Qj p) (Ql p)
 . have h:Qy mo p lg N=Y7 mo p lg N:=by rw [Qy,if_neg hn,if_pos hv]
   rw [h];(have:mo=0\/mo=1\/mo=2\/mo=3:=by omega);rcases this with rfl|rfl|rfl|rfl
   . exact Q7E F B m d p lg N w hs hfit hm hp' hv
   . exact Q7F F B m d p lg N w hs hfit hm hp' hv
   . exact Q7G F B m d p lg N w hs hfit hm hp' hv
   exact Q7H F B m d p lg N w hs hfit hm hp' hv
 (have h:Qy mo p lg N=(13,[]):=by rw [Qy,if_neg hn,if_neg hv]);rw [h];exact(Q7D F B m d mo p lg N w hs hfit hm hp' (by omega) (by omega) hv).mono fun e w' h=>⟨_,h.1,QB.none h.2⟩
end Go.Proofs.YtjfdaphjijfieaaGreat
