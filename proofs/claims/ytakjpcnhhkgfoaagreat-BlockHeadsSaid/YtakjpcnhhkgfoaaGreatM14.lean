/-
  Joined texts, part 14: contracts and plain lemmas.
  Conditions: none beyond those of each theorem.
-/
import Derived.Test.YtakjpcnhhkgfoaaGreatM7
import Derived.Test.YtakjpcnhhkgfoaaGreatM10
import Derived.Laws.EntriesVeiled
set_option maxHeartbeats 4000000
set_option linter.unusedVariables false
set_option linter.unusedSimpArgs false
set_option maxRecDepth 100000
universe u
namespace Go.Proofs.YtakjpcnhhkgfoaaGreat
open Go.RowKit
def JG (p:Int):List Int:=if p=0 then llN else if p=1 then ofN else mlN
def JH (p:Int):Int:=if p=1 then 5 else 6
def JI (p:Int):Int:=if p=1 then 8 else 9
def Jz (w w':World) (e:Ending) (lg:Int) (N:List Int) (x:Int):Prop :=
  ∃g,e = .returned (.tuple #[.agg #[.int .i64 lg,.slice (some ⟨g,0,none⟩) N.length N.length],.int .i64 x])/\Rd w' (fun b=>b=g) (some ⟨g,0,none⟩) N.length (QV N)/\w.heap.size<=g/\Q0 w w'
theorem YO (F:Nat->Prop) (g pc:Nat) (bs:List Nat) (at_:Nat) (w:World) (hcu:Q3 w F g bs at_) (hk:at_<bs.length)
   (bc:Blk w pc 43 #[.pointer (some ⟨g,0,none⟩)]) (hF:∀b,F b->b≠g) :
   Calls Tryz.prog 51 #[.pointer (some ⟨pc,0,none⟩)] w fun e w'=>e = .returned (.tuple #[.int .u8 ((bs[at_]?.getD 0:Nat):Int),.int .i64 0]) /\
     Upd (fun b=>b=g) w w'/\Q3 w' F g bs (at_+1):=by
 have hl:=Qt F g bs at_ w hcu;obtain⟨A,c,hb,hr,hlt,hat,hlen,hcap⟩:=hcu;have hc:=bc.cell0;(have i1:((bs.length-at_:Nat):Int)≠0:=by omega);(have i2:(((bs.length-at_:Nat):Int) == 0)=false:=by simpa using i1);(have i4:(bs.length:Int)<=4294967296:=by omega);(have i3:(at_:Int)<bs.length:=by omega);obtain⟨b,o,hA,hb1,hb2,hb3⟩:=hr.at_ hk;obtain⟨x,hx⟩:=nm_ (bs[at_]);(have hx2:bs[at_]?.getD 0=x:=by rw [List.getElem?_eq_getElem hk,hx];rfl);rw [hx2];(have hb4:w.cell? ⟨b,o+at_,none⟩=some (.int .u8 (x:Nat)):=by rw [hb3];simp [hk,hx]);have HL:=hd_ hl;have HB:=hd_ hb;have HR:=hd_ hr;have HBC:=hd_ bc;have HB4:=hd_ hb4;have HF1:=hd_ (hF b hb1);clear hl hb hr bc hb3 hb4 hx hx2;generalize bs.length-at_=D at *;subst hA;refine Q6 fun R hR=>?_;go_enter Tryz.func51,Tryz.ntmps51;go_wp2_with fail;refine HL.out.mono ?_;rintro e w1 ⟨rfl,k,rfl⟩;have f1:Q0 w (w.drewN k):=(Upd.refl _ w).drewN k;generalize w.drewN k=W at *;have b1:=HB.out.fresh f1;have bc1:=HBC.out.fresh f1;have hcc1:=bc1.cell0;have hc1':=b1.cell 1;have hc0':=b1.cell 0;have hf1':=b1.frozen 1;simp only [List.getElem?_toArray,List.getElem?_cons_succ,List.getElem?_cons_zero]at hc1' hc0';have B1:=hd_ b1;have BC1:=hd_ bc1;clear b1 bc1;have s0:IntKind.i64.wrap ((at_:Int)+1)=at_+1:=IntWalk.i64_in _ (by omega);go_wp2_with fail;have b2:=B1.out.set_ 1 (.int .i64 ((at_:Int)+1));have u2:Upd (fun b=>b=g) w (W.setCell ⟨g,1,none⟩ (.int .i64 ((at_:Int)+1))):=((f1.mono (T:=fun b=>b=g) (fun _ _ h=>h.elim)).setCell (p:=⟨g,1,none⟩) (fun _=>rfl) _);have bc2:=BC1.out.far (p:=⟨g,1,none⟩) (BC1.out.ne_ B1.out (by decide)) (.int .i64 ((at_:Int)+1))
 have x2:(W.setCell ⟨g,1,none⟩ (.int .i64 ((at_:Int)+1))).cell? ⟨b,o+at_,none⟩=some (.int .u8 (x:Nat)):=by
   rw [<-HB4.out];exact u2.cell (p:=⟨b,o+at_,none⟩) hb2 HF1.out
 generalize (W.setCell ⟨g,1,none⟩ (.int .i64 ((at_:Int)+1)))=W2 at *;have hcc2:=bc2.cell0;have hc2:=b2.cell 1;have hc20:=b2.cell 0;simp at hc2 hc20;have B2:=hd_ b2;clear b2 bc2 hcc1 hc1' hc0' hf1' hc;(have s5:(at_:Int)+1-1=at_:=by omega);have s6:IntKind.i64.wrap (at_:Int)=at_:=IntWalk.i64_in _ (by omega);(have s7:IntKind.i64.wrap ((at_:Int)+1-1)=at_:=by rw [s5];exact s6);have hm2:=x2;go_quiet (fail);go_wp2_with fail;(try go_ret2);refine hR.out _ _ ⟨rfl,u2.drewN _,some ⟨b,o,none⟩,c,?_,?_,hlt,hk,hlen,hcap⟩
 . have:=B2.out.drewN nq
   simpa using this
 exact(HR.out.upd u2 (fun b _ hb e=>hF b hb e)).drewN _
theorem Yl (pe pf px pc:Addr) (u:FrameMode) (w:World) (he:w.cell? pe=some (.int .i64 0)) :
   CallsD Tryz.prog 72 #[.pointer (some pe),.pointer (some pf),.pointer (some px),.pointer (some pc)] u w fun e u' w'=>u'=u/\(e = .returned (.tuple #[])/\w'=w):=by
 go_enter_d Tryz.func72,Tryz.ntmps72;go_wp2;go_end0;exact⟨rfl,rfl⟩
theorem YP (F:Nat->Prop) (g pc:Nat) (bs:List Nat) (at_:Nat) (w:World) (hcu:Q3 w F g bs at_) (hk:at_<bs.length)
   (bc:Blk w pc 43 #[.pointer (some ⟨g,0,none⟩)]) (hF:∀b,F b->b≠g) :
   Calls Tryz.prog 50 #[.pointer (some ⟨g,0,none⟩),.func (.func 51) #[] #[.pointer (some ⟨pc,0,none⟩)]] w fun e w' =>
     e = .returned (.tuple #[.int .u8 ((bs[at_]?.getD 0:Nat):Int),.int .i64 0])/\Upd (fun b=>b=g) w w'/\Q3 w' F g bs (at_+1):=by
 have hmf:∀(fn:Fn) (first cap:Array Value) (w:World),(Instr.makeFunc fn first cap).run Tryz.prog w = .ok (.func fn first cap) w:=fun _ _ _ _=>rfl;have hg:=hcu.lt
 have hat:w.cell? ⟨g,1,none⟩=some (.int .i64 at_):=by
   obtain⟨A,c,hb,_⟩:=hcu;simpa using hb.cell 1
 have HCU:=hd_ hcu;have HBC:=hd_ bc;clear hcu bc;(have hg1:g<w.heap.size+1:=by omega);(have hg2:g<w.heap.size+1+1:=by omega);(have hg3:g<w.heap.size+1+1+1:=by omega);refine Q6 fun R hR=>?_;go_enter_defers Tryz.func50,Tryz.ntmps50;go_wp2_with fail;obtain⟨H,hH⟩:=nm_ (w.heap.size);rw [<-hH]at hg hg1 hg2 hg3;simp only [<-hH];obtain⟨W0,hW0⟩:=nm_ ((((w.alloc (.cells #[.pointer (some ⟨g,0,none⟩)] 43)).alloc (.cells #[.int .u8 0] 5)).alloc (.cells #[.int .i64 0] 29)).alloc (.cells #[.int .i64 at_] 3));rw [<-hW0];(have f0:Q0 w W0:=by rw [hW0];exact((((Upd.refl _ w).alloc _).alloc _).alloc _).alloc _);(have k0:Blk W0 H 43 #[.pointer (some ⟨g,0,none⟩)]:=by rw [hW0];exact(((Q2 (by simp [hH]) _ _).alloc _).alloc _).alloc _);(have k1:Blk W0 (H+1) 5 #[.int .u8 0]:=by rw [hW0];exact((Q2 (by simp [hH]) _ _).alloc _).alloc _);(have k2:Blk W0 (H+1+1) 29 #[.int .i64 0]:=by rw [hW0];exact(Q2 (by simp [hH]) _ _).alloc _);(have k3:Blk W0 (H+1+1+1) 3 #[.int .i64 at_]:=by rw [hW0];exact Q2 (by simp [hH]) _ _);clear hW0;have HH:=hd_ hH;clear hH;generalize hx:((bs[at_]?.getD 0:Nat):Int)=x at *;have hb1:=YO (fun b=>F b/\b<w.heap.size) g pc bs at_ W0 (HCU.out.both.fresh f0) hk (HBC.out.fresh f0) (fun b hb=>hF b hb.1);rw [hx]at hb1;clear hx;refine hb1.mono ?_;rintro e w1 ⟨rfl,u1,c1⟩;have j1:=k1.upd u1 (by omega);have j2:=k2.upd u1 (by omega);have uu:Upd (fun b=>b=g) w w1:=(f0.mono (fun _ _ h=>h.elim)).trans' u1;have d1:=j1.cell0;have d2:=j2.cell0;have z1:=j1.frozen 0;have z2:=j2.frozen 0;have J1:=hd_ j1;have J2:=hd_ j2;have HC1:=hd_ c1;clear j1 j2 k0 k1 k2 k3 c1 hb1;go_wp2;have L1:=(J1.out.set_ 0 (.int .u8 x)).far (p:=⟨H+1+1,0,none⟩) (by simp) (.int .i64 0);have L2:=(J2.out.far (p:=⟨H+1,0,none⟩) (by simp) (.int .u8 x)).set_ 0 (.int .i64 0);have hd2:=L2.cell0;have hd1:=L1.cell0;change Leaves _ _ _ _ _ _ _;refine leaves_cons (f:=72) (args:=#[.pointer (some ⟨H+1+1,0,none⟩),.pointer (some ⟨H+1+1+1,0,none⟩),.pointer (some ⟨H+1,0,none⟩),.pointer (some ⟨H,0,none⟩)]) (by simp) (by simp [go_sem]) ?_;refine(Yl _ _ _ _ .returning _ hd2).mono ?_;rintro e u' w'' ⟨rfl,rfl,rfl⟩;refine⟨.tuple #[.int .u8 x,.int .i64 0],?_,hR.out _ _ ⟨rfl,?_,?_⟩⟩
 . simp [results,Tryz.results50,go_sem,hd1,hd2]
 . exact(uu.setCell (p:=⟨H+1,0,none⟩) (fun h=>by have:=HH.out;simp at h;omega) _).setCell (p:=⟨H+1+1,0,none⟩) (fun h=>by have:=HH.out;simp at h;omega) _
 have m1:=HC1.out.upd (S:=fun b=>b=H+1) ((Upd.refl (fun b=>b=H+1) _).setCell (p:=⟨H+1,0,none⟩) (fun _=>rfl) (.int .u8 x)) (by omega) (fun b _ hb e=>by have:=hb.2;have:=HH.out;omega);have m2:=m1.upd (S:=fun b=>b=H+1+1) ((Upd.refl (fun b=>b=H+1+1) _).setCell (p:=⟨H+1+1,0,none⟩) (fun _=>rfl) (.int .i64 0)) (by omega) (fun b _ hb e=>by have:=hb.2;have:=HH.out;omega);exact m2.mono fun b hb=>hb.1
theorem YQ (F:Nat->Prop) (g:Nat) (bs:List Nat) (at_:Nat) (w:World) (hcu:Q3 w F g bs at_) (hk:at_<bs.length) (hF:∀b,F b->b≠g) :
   Calls Tryz.prog 43 #[.pointer (some ⟨g,0,none⟩)] w fun e w'=>e = .returned (.tuple #[.int .u8 ((bs[at_]?.getD 0:Nat):Int),.int .i64 0])/\Upd (fun b=>b=g) w w'/\Q3 w' F g bs (at_+1):=by
 have hmf:∀(fn:Fn) (first cap:Array Value) (w:World),(Instr.makeFunc fn first cap).run Tryz.prog w = .ok (.func fn first cap) w:=fun _ _ _ _=>rfl;obtain⟨H,hH⟩:=nm_ (w.heap.size);have hr:=YP F g H bs at_ (w.alloc (.cells #[.pointer (some ⟨g,0,none⟩)] 43)) (hcu.fresh ((Upd.refl _ w).alloc _)) hk (Q2 hH _ _) hF;rw [hH]at hr;have HR:=hd_ hr;clear hr hcu hH H hk;generalize ((bs[at_]?.getD 0:Nat):Int)=x at *;refine Q6 fun R hR=>?_;go_enter Tryz.func43,Tryz.ntmps43;go_wp2_with fail;refine HR.out.mono ?_;rintro e w1 ⟨rfl,u1,c1⟩;go_wp2;(try go_ret2);exact hR.out _ _ ⟨rfl,((Upd.refl (fun b=>b=g) w).alloc _).trans' u1,c1⟩
end Go.Proofs.YtakjpcnhhkgfoaaGreat
