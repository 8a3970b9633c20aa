/-
  Joined texts, part 24: contracts and plain lemmas.
  Conditions: none beyond those of each theorem.
-/
import Derived.Test.YtjfdaphjijfieaaGreatL22
import Derived.Deep.OwnRows
set_option maxHeartbeats 20000000
set_option linter.unusedVariables false
set_option linter.unusedSimpArgs false
set_option maxRecDepth 100000
universe u
namespace Go.Proofs.YtjfdaphjijfieaaGreat
open Go.RowKit
def K7 (s:Nat):List Int:=List.replicate s 0++[1]
@[simp] theorem Q0A (s:Nat):(K7 s).length=s+1:=by simp [K7]
theorem Q59 (s:Nat) (w:World) (h:s<=255):Calls Tryz.prog 180 #[.int .i64 s] w fun e w'=>Ke w w' e 0 (K7 s) 0:=by
 (have h1:(s:Int)<=255:=by omega)
 have hmk:∀W,(Instr.makeSlice 27 (.int .i64 ((s:Int)+1)) (.int .i64 ((s:Int)+1))).run Tryz.prog W = .ok (.slice (some ⟨W.heap.size,0,none⟩) (s+1) (s+1)) (W.alloc (.cells (madeCells #[.int .i64 0] (s+1)) 3)):=fun W=>by
   have:=run_make_row' (P:=Tryz.prog) 27 3 (.int .i64 0) 8 Tryz.underlying27 JH rfl .i64 .i64 (s+1) (by omega) (by omega) W;simpa using this
 generalize hmc:madeCells #[Value.int .i64 0] (s+1)=cs at *;have HMC:=hd_ hmc;clear hmc;obtain⟨H,hH⟩:=nm_ (w.heap.size);have HH:=hd_ hH;clear hH;refine Q6 fun R hR=>?_;go_enter Tryz.func180,Tryz.ntmps180;go_upto_region 4 with fail;simp only [<-HH.out];obtain⟨w1,hw1⟩:=nm_ ((w.alloc (.cells #[.int .i64 0,.slice none 0 0] 29)).alloc (.cells cs 3));rw [<-hw1]
 have hcs:cs=(List.replicate (s+1) (Value.int .i64 0)).toArray:=by
   rw [<-HMC.out];exact Array.toList_inj.1 (by rw [toList_madeCells_one])
 (have f1:Q0 w w1:=by rw [hw1];exact((Upd.refl _ _).alloc _).alloc _);(have bt:Blk w1 H 29 #[.int .i64 0,.slice none 0 0]:=by rw [hw1];exact(Q1 HH.out _ _).alloc _);(have bc:Blk w1 (H+1) 3 cs:=by rw [hw1];exact Q1 (by simp [HH.out]) _ _);(have x0:w1.cell? ⟨H+1,s,none⟩=some (.int .i64 0):=by rw [bc.cell,hcs];simp);have x1:w1.frozen? ⟨H+1,s,none⟩=false:=bc.frozen s;have bt2:=bt.far (p:=⟨H+1,s,none⟩) (by simp) (.int .i64 1)
 have hset:cs.setIfInBounds s (.int .i64 1)=(Q2 (K7 s)).toArray:=by
   rw [hcs];apply Array.toList_inj.1;simp [K7,Q2,List.replicate_succ',List.set_append]
 have bc2:=bc.set_ s (.int .i64 1);rw [hset]at bc2;have u2:Upd (fun b=>b=H+1) w1 (w1.setCell ⟨H+1,s,none⟩ (.int .i64 1)):=(Upd.refl (fun b=>b=H+1) _).setCell (p:=⟨H+1,s,none⟩) (fun _=>rfl) _;have t0:=bt2.cell 0;have t1:=bt2.cell 1;have z0:=bt2.frozen 0;have z1:=bt2.frozen 1;simp at t0 t1;have BT2:=hd_ bt2;have BC2:=hd_ bc2;have F1:=hd_ f1;have U2:=hd_ u2;clear hw1 hcs f1 bt bc bt2 bc2 u2 hset;go_wp2_with fail;refine bodyPost_ret (Q5 rfl _ _ H _ _ _ rfl ((BT2.out.set_ 0 (.int .i64 0)).set_ 1 (.slice (some ⟨H+1,0,none⟩) (s+1) (s+1))) Tryz.underlying29 rfl (by kernel_rfl)) rfl ?_;have u3:=Y9 (w1.setCell ⟨H+1,s,none⟩ (.int .i64 1)) H (.int .i64 0) (.slice (some ⟨H+1,0,none⟩) (s+1) (s+1));refine hR.out _ _ ⟨H+1,by rw [Q0A];rfl,?_,by have:=HH.out;omega,?_⟩
 . have b3:=BC2.out.upd u3 (by omega)
   exact Blk.rdg b3 rfl
 exact(F1.out.trans U2.out (fun b hb h=>by have:=HH.out;omega)).trans u3 (fun b hb h=>by have:=HH.out;omega)
def Yu (F:Nat->Prop) (g:Nat) (bs:List Nat) (at_:Nat) (x lg:Int) (N:List Int) (k:Nat) (w:World) (e:Ending) (w':World):Prop :=
  Upd (fun b=>b=g) w w'/\Qk w' F g bs (at_+k)/\∃A n c,e = .returned (.tuple #[.agg #[.int .i64 lg,.slice A n c],.int .i64 x])/\Rd w' (fun b=>w.heap.size<=b) A n (Q2 N)
def Zu (bs:List Nat) (at_:Nat) (s:Int):Int × List Int × Nat :=
  if at_<bs.length then(if s<=(bs[at_]?.getD 0:Nat)then(13,[],1)else(0,K7 (bs[at_]?.getD 0),1))else(3,[],0)
theorem Q4g {bs:List Nat} (h:∀b∈bs,b<256) (k:Nat):bs[k]?.getD 0<256:=by
 rcases Nat.lt_or_ge k bs.length with hk|hk
 . rw [List.getElem?_eq_getElem hk];exact h _ (List.getElem_mem hk)
 rw [List.getElem?_eq_none hk];decide
theorem Q9b (F:Nat->Prop) (g:Nat) (bs:List Nat) (at_:Nat) (B:Option Addr) (m d:Nat) (p s x lg:Int) (w:World) (hcu:Qk w F g bs at_) (hF:∀b,F b->b≠g) :
   Calls Tryz.prog 143 #[.agg #[.int .i64 p,.int .i64 s,.int .i64 x,.int .i64 lg,.slice B m d],.pointer (some ⟨g,0,none⟩)] w
     (Yu F g bs at_ (Zu bs at_ s).1 0 (Zu bs at_ s).2.1 (Zu bs at_ s).2.2 w):=by
 obtain⟨w0,hw0⟩:=nm_ ((w.alloc (.cells #[.int .i64 p,.int .i64 s,.int .i64 x,.int .i64 lg,.slice B m d] 181)).alloc (.cells #[.int .i64 0,.slice none 0 0] 29));obtain⟨H,hH⟩:=nm_ (w.heap.size);(have f0:Q0 w w0:=by rw [hw0];exact((Upd.refl _ _).alloc _).alloc _);(have bp:Blk w0 H 181 #[.int .i64 p,.int .i64 s,.int .i64 x,.int .i64 lg,.slice B m d]:=by rw [hw0];exact(Q1 hH _ _).alloc _);(have bt:Blk w0 (H+1) 29 #[.int .i64 0,.slice none 0 0]:=by rw [hw0];exact Q1 (by simp [hH]) _ _);have hg:=hcu.lt;(have hgH:g<H:=by omega);(have hlt:∀b∈bs,b<256:=by obtain⟨A,c,_,_,h,_⟩:=hcu;exact h);(have hat:at_<=bs.length:=by obtain⟨A,c,_,_,_,h,_⟩:=hcu;exact h);have hx:=Q4g hlt at_;have cu0:=hcu.both.fresh f0;have BP:=hd_ bp;have BT:=hd_ bt;have F0:=hd_ f0;have HW:=hd_ hw0;have HH:=hd_ hH;have HGH:=hd_ hgH;refine Q6 fun R hR=>?_;by_cases hk:at_<bs.length
 . have hby:=Q11 (fun b=>F b/\b<w.heap.size) g bs at_ w0 cu0 hk (fun b hb=>hF b hb.1)
   unfold Zu at hR;simp only [if_pos hk]at hR;generalize bs[at_]?.getD 0=z at *
   have HB:=hd_ hby
   by_cases hz:s<=(z:Nat)
   . simp only [if_pos hz]at hR
     clear hcu cu0 hby bp bt f0 hw0 hH hk hat hlt hg hgH;go_enter Tryz.func143,Tryz.ntmps143;go_wp2_with fail;simp only [<-HH.out,<-HW.out];refine HB.out.mono ?_;rintro e w1 ⟨rfl,u1,c1⟩;have p1:=BP.out.upd u1 (by have:=HGH.out;omega);have t1:=BT.out.upd u1 (by have:=HGH.out;omega);have q1:=p1.cell 1;have c0:=t1.cell 0;have c2:=t1.cell 1;have z0:=t1.frozen 0;have z1:=t1.frozen 1;simp at q1 c0 c2;have T1:=hd_ t1;have U1:=hd_ u1;have C1:=hd_ c1;clear u1 c1 p1 t1;go_wp2_with fail;refine bodyPost_ret (Q5 rfl _ _ (H+1) _ _ _ rfl ((T1.out.set_ 0 (.int .i64 0)).set_ 1 (.slice none 0 0)) Tryz.underlying29 rfl (by kernel_rfl)) rfl ?_;have u3:=Y9 w1 (H+1) (.int .i64 0) (.slice none 0 0);refine hR.out _ _ ⟨(((F0.out.mono (T:=fun b=>b=g) (fun _ _ h=>h.elim)).trans' U1.out).trans u3 (fun b hb h=>by have:=HH.out;omega)),?_,none,0,0,rfl,Rd.nil _ _ _⟩;exact(C1.out.upd u3 (by have:=HGH.out;omega) (fun b _ hb h=>by have:=hb.2;have:=HH.out;omega)).mono fun b hb=>hb.1
   (have hz':(z:Int)<s:=by omega);simp only [if_neg hz]at hR;have hsg:=fun W=>Q59 z W (by omega);have HS:=hd_ hsg;clear hcu cu0 hby bp bt f0 hw0 hH hk hat hlt hg hgH hsg hz;go_enter Tryz.func143,Tryz.ntmps143;go_wp2_with fail;simp only [<-HH.out,<-HW.out];refine HB.out.mono ?_;rintro e w1 ⟨rfl,u1,c1⟩;have p1:=BP.out.upd u1 (by have:=HGH.out;omega);have t1:=BT.out.upd u1 (by have:=HGH.out;omega);have q1:=p1.cell 1;simp at q1;have T1:=hd_ t1;have U1:=hd_ u1;have C1:=hd_ c1;clear u1 c1 p1 t1;go_wp2_with fail;refine(HS.out _).mono ?_;rintro e w2 ⟨g2,rfl,r2,hg2,f2⟩;rw [Q0A]at r2;have t2:=T1.out.fresh f2;have c0:=t2.cell 0;have c2:=t2.cell 1;have z0:=t2.frozen 0;have z1:=t2.frozen 1;simp at c0 c2;have T2:=hd_ t2;have F2:=hd_ f2;have R2:=hd_ r2;have HG2:=hd_ hg2;have hs1:=U1.out.size;have HS1:=hd_ hs1;have C2:=hd_ (C1.out.fresh f2);have hl1:=T1.out.lt;have HL1:=hd_ hl1;clear f2 r2 hg2 t2 hs1 hl1;go_wp2_with fail;refine bodyPost_ret (Q5 rfl _ _ (H+1) _ _ _ rfl ((T2.out.set_ 0 (.int .i64 0)).set_ 1 (.slice (some ⟨g2,0,none⟩) (z+1) (z+1))) Tryz.underlying29 rfl (by kernel_rfl)) rfl ?_;have u3:=Y9 w2 (H+1) (.int .i64 0) (.slice (some ⟨g2,0,none⟩) (z+1) (z+1));refine hR.out _ _ ⟨((((F0.out.mono (T:=fun b=>b=g) (fun _ _ h=>h.elim)).trans' U1.out).trans F2.out (fun b hb h=>h.elim)).trans u3 (fun b hb h=>by have:=HH.out;omega)),?_,some ⟨g2,0,none⟩,_,_,rfl,?_⟩
   . exact(C2.out.upd u3 (by have:=HGH.out;omega) (fun b _ hb h=>by have:=hb.2;have:=HH.out;omega)).mono fun b hb=>hb.1
   have h1:=HG2.out;have h2:=HL1.out;(exact(R2.out.upd u3 (fun b _ hb h=>by omega)).mono fun b hb=>by have:=HH.out;omega)
 (have hk2:at_=bs.length:=by omega);have hby:=XQ (fun b=>F b/\b<w.heap.size) g bs at_ w0 cu0 hk2 (fun b hb=>hF b hb.1);unfold Zu at hR;simp only [if_neg hk]at hR
 have HB:=hd_ hby
 clear hcu cu0 hby bp bt f0 hw0 hH hk hk2 hat hlt hg hgH hx;go_enter Tryz.func143,Tryz.ntmps143;go_wp2_with fail;simp only [<-HH.out,<-HW.out];refine HB.out.mono ?_;rintro e w1 ⟨rfl,u1,c1⟩;have t1:=BT.out.upd u1 (by have:=HGH.out;omega);have c0:=t1.cell 0;have c2:=t1.cell 1;have z0:=t1.frozen 0;have z1:=t1.frozen 1;simp at c0 c2;have T1:=hd_ t1;have U1:=hd_ u1;have C1:=hd_ c1;clear u1 c1 t1;go_wp2_with fail;refine bodyPost_ret (Q5 rfl _ _ (H+1) _ _ _ rfl ((T1.out.set_ 0 (.int .i64 0)).set_ 1 (.slice none 0 0)) Tryz.underlying29 rfl (by kernel_rfl)) rfl ?_;have u3:=Y9 w1 (H+1) (.int .i64 0) (.slice none 0 0);refine hR.out _ _ ⟨(((F0.out.mono (T:=fun b=>b=g) (fun _ _ h=>h.elim)).trans' U1.out).trans u3 (fun b hb h=>by have:=HH.out;omega)),?_,none,0,0,rfl,Rd.nil _ _ _⟩;exact(C1.out.upd u3 (by have:=HGH.out;omega) (fun b _ hb h=>by have:=hb.2;have:=HH.out;omega)).mono fun b hb=>hb.1
def Zg (bs:List Nat) (at_:Nat) (s x:Int):Int × Int × List Int × Nat :=
  match J7 s x (Qi (YQ bs at_))with
  | .error e=>(e,0,[],0)
  | .ok (lg,N,k)=>(0,lg,N,k)
theorem Q9c {F:Nat->Prop} {g:Nat} {bs:List Nat} {at_:Nat} {s x:Int} {w w':World} {e:Ending} (h:Q4d F g bs at_ s x w e w') :
   Yu F g bs at_ (Zg bs at_ s x).1 (Zg bs at_ s x).2.1 (Zg bs at_ s x).2.2.1 (Zg bs at_ s x).2.2.2 w e w':=by
 obtain⟨hu,h⟩:=h;unfold Zg
 cases hd:J7 s x (Qi (YQ bs at_))with
 | error y =>
   rw [hd]at h;exact⟨hu,h.2,none,0,0,h.1,Rd.nil _ _ _⟩
 | ok q =>
   obtain⟨lg,N,k⟩:=q;rw [hd]at h;obtain⟨v,he,ho,hk,hc,-⟩:=h;obtain⟨A,c,rfl,-,hr⟩:=ho.form;exact⟨hu,hc,A,_,c,he,hr.mono hk⟩
theorem Jr {F:Nat->Prop} {g:Nat} {bs:List Nat} {at_ k n c H:Nat} {x lg:Int} {N:List Int} {A:Option Addr} {w w0 w1:World} (f0:Q0 w w0) (h0:w.heap.size<=H) (h1:H<w0.heap.size) (hg:g<w.heap.size)
   (u1:Upd (fun b=>b=g) w0 w1) (c1:Qk w1 (fun b=>F b/\b<w.heap.size) g bs (at_+k)) (r1:Rd w1 (fun b=>w0.heap.size<=b) A n (Q2 N)) {v:Ending} (hv:v = .returned (.tuple #[.agg #[.int .i64 lg,.slice A n c],.int .i64 x])) :
   Yu F g bs at_ x lg N k w v ((w1.setCell ⟨H,0,none⟩ (.int .i64 lg)).setCell ⟨H,1,none⟩ (.slice A n c)):=by
 have u3:=Y9 w1 H (.int .i64 lg) (.slice A n c);refine⟨((f0.mono (T:=fun b=>b=g) (fun _ _ h=>h.elim)).trans' u1).trans u3 (fun b hb h=>by omega),?_,A,n,c,hv,?_⟩
 . exact(c1.upd u3 (by omega) (fun b _ hb h=>by have:=hb.2;omega)).mono fun b hb=>hb.1
 (exact(r1.upd u3 (fun b _ hb h=>by omega)).mono fun b hb=>by have:=f0.size;omega)
theorem Q7Q (F:Nat->Prop) (g:Nat) (bs:List Nat) (at_:Nat) (B:Option Addr) (m d:Nat) (p s x lg:Int) (w:World) (hcu:Qk w F g bs at_) (hp:0<=p/\p<=2) :
   Calls Tryz.prog 138 #[.agg #[.int .i64 p,.int .i64 s,.int .i64 x,.int .i64 lg,.slice B m d],.pointer (some ⟨g,0,none⟩)] w
     (Yu F g bs at_ 0 (Yi p) (Ya p) 0 w):=by
 obtain⟨w0,hw0⟩:=nm_ ((w.alloc (.cells #[.int .i64 p,.int .i64 s,.int .i64 x,.int .i64 lg,.slice B m d] 181)).alloc (.cells #[.int .i64 0,.slice none 0 0] 29));obtain⟨H,hH⟩:=nm_ (w.heap.size);(have f0:Q0 w w0:=by rw [hw0];exact((Upd.refl _ _).alloc _).alloc _);(have bp:Blk w0 H 181 #[.int .i64 p,.int .i64 s,.int .i64 x,.int .i64 lg,.slice B m d]:=by rw [hw0];exact(Q1 hH _ _).alloc _);(have bt:Blk w0 (H+1) 29 #[.int .i64 0,.slice none 0 0]:=by rw [hw0];exact Q1 (by simp [hH]) _ _);have q0:=bp.cell 0;simp at q0;have HG:=hd_ hcu.lt;have CU:=hd_ (hcu.both.fresh f0);have BT:=hd_ bt;have F0:=hd_ f0;have HW:=hd_ hw0;have HH:=hd_ hH;have HK:=hd_ (Xg p w0 hp);clear hcu bp bt f0 hw0 hH hp;generalize Yi p=pl at *;generalize Ya p=pn at *;generalize hpl:pn.length=pln at *;refine Q6 fun R hR=>?_;go_enter Tryz.func138,Tryz.ntmps138;go_wp2_with fail;simp only [<-HH.out,<-HW.out];go_wp2_with fail;refine HK.out.mono ?_;rintro e w1 ⟨g2,rfl,r2,hg2,f2⟩;rw [hpl]at r2;have t1:=BT.out.fresh f2;have c0:=t1.cell 0;have c2:=t1.cell 1;have z0:=t1.frozen 0;have z1:=t1.frozen 1;simp at c0 c2;have T1:=hd_ t1;have F2:=hd_ f2;have R2:=hd_ (r2.mono (G:=fun b=>w0.heap.size<=b) (fun b hb=>by omega));have CU2:=hd_ (CU.out.fresh f2);clear f2 r2 hg2 t1;go_wp2_with fail;refine bodyPost_ret (Q5 rfl _ _ (H+1) _ _ _ rfl ((T1.out.set_ 0 (.int .i64 pl)).set_ 1 (.slice (some ⟨g2,0,none⟩) pln pln)) Tryz.underlying29 rfl (by kernel_rfl)) rfl ?_;exact hR.out _ _ (Jr F0.out (by have:=HH.out;omega) BT.out.lt HG.out (F2.out.mono (fun _ _ h=>h.elim)) CU2.out R2.out rfl)
theorem Q7R (F:Nat->Prop) (g:Nat) (bs:List Nat) (at_:Nat) (B:Option Addr) (m d:Nat) (p s x lg:Int) (w:World) (hcu:Qk w F g bs at_) (hF:∀b,F b->b≠g) :
   Calls Tryz.prog 145 #[.agg #[.int .i64 p,.int .i64 s,.int .i64 x,.int .i64 lg,.slice B m d],.pointer (some ⟨g,0,none⟩)] w
     (Yu F g bs at_ (Zg bs at_ s x).1 (Zg bs at_ s x).2.1 (Zg bs at_ s x).2.2.1 (Zg bs at_ s x).2.2.2 w):=by
 obtain⟨w0,hw0⟩:=nm_ ((w.alloc (.cells #[.int .i64 p,.int .i64 s,.int .i64 x,.int .i64 lg,.slice B m d] 181)).alloc (.cells #[.int .i64 0,.slice none 0 0] 29));obtain⟨H,hH⟩:=nm_ (w.heap.size);(have f0:Q0 w w0:=by rw [hw0];exact((Upd.refl _ _).alloc _).alloc _);(have bp:Blk w0 H 181 #[.int .i64 p,.int .i64 s,.int .i64 x,.int .i64 lg,.slice B m d]:=by rw [hw0];exact(Q1 hH _ _).alloc _);(have bt:Blk w0 (H+1) 29 #[.int .i64 0,.slice none 0 0]:=by rw [hw0];exact Q1 (by simp [hH]) _ _);have q1:=bp.cell 1;have q2:=bp.cell 2;simp at q1 q2;have HG:=hd_ hcu.lt;have BT:=hd_ bt;have F0:=hd_ f0;have HW:=hd_ hw0;have HH:=hd_ hH;have HK:=hd_ ((Q50 (fun b=>F b/\b<w.heap.size) g bs at_ s x w0 (hcu.both.fresh f0) (fun b hb=>hF b hb.1)).mono fun e w' h=>Q9c h);clear hcu bp bt f0 hw0 hH;generalize (Zg bs at_ s x).1=y at *;generalize (Zg bs at_ s x).2.1=pl at *;generalize (Zg bs at_ s x).2.2.1=pn at *;generalize (Zg bs at_ s x).2.2.2=k at *;refine Q6 fun R hR=>?_;go_enter Tryz.func145,Tryz.ntmps145;go_wp2_with fail;simp only [<-HH.out,<-HW.out];go_wp2_with fail;refine HK.out.mono ?_;rintro e w1 ⟨u1,c1,A,n,c,rfl,r1⟩;have t1:=BT.out.upd u1 (by have:=HH.out;have:=HG.out;omega);have c0:=t1.cell 0;have c2:=t1.cell 1;have z0:=t1.frozen 0;have z1:=t1.frozen 1;simp at c0 c2;have T1:=hd_ t1;have U1:=hd_ u1;have R1:=hd_ r1;have C1:=hd_ c1;clear u1 r1 c1 t1;go_wp2_with fail;refine bodyPost_ret (Q5 rfl _ _ (H+1) _ _ _ rfl ((T1.out.set_ 0 (.int .i64 pl)).set_ 1 (.slice A n c)) Tryz.underlying29 rfl (by kernel_rfl)) rfl ?_;exact hR.out _ _ (Jr F0.out (by have:=HH.out;omega) BT.out.lt HG.out U1.out C1.out R1.out rfl)
theorem Q5a (F:Nat->Prop) (B:Option Addr) (m d:Nat) (N:List Int) (w:World) (hr:Rd w F B m (Q2 N)) (hm:m<=2^40) (h0:0<m) :
   Calls Tryz.prog 55 #[.slice B m d] w fun e w'=>∃g c,e = .returned (.slice (some ⟨g,0,none⟩) m c)/\Rd w' (fun b=>w.heap.size<=b) (some ⟨g,0,none⟩) m (Q2 N)/\Q0 w w':=by
 (have hN:N.length=m:=by have:=hr.1;simpa using this);obtain⟨b,o,rfl,hc⟩:=KX hr h0;refine(Tryz.slices_Clone_int b o m d N w (by omega) (by omega) hc).mono fun e w' h=>?_;obtain⟨v,rfl,ho,hne,hb⟩:=h;rw [List.take_of_length_le (by omega)]at ho
 have ho2:Own w' 3 v (Q2 N):=⟨by simp,by
   rcases ho.2 with h|⟨g,cap,cur,h1,h2,h3⟩
   . exact .inl ⟨h.1,by have:=h.2;simp;omega⟩
   exact .inr ⟨g,cap,cur,by simpa [hN]using h1,Nat.zero_le _,by simpa [hN,Q2]using h3⟩⟩
 rcases ho.2 with h|⟨g,cap,cur,rfl,h2,h3⟩
 . exact absurd h.1 hne
 obtain⟨hn,hcap,hrd⟩:=ho2.rd rfl;rw [Y0,hN]at hrd;refine⟨g,cap,rfl,hrd.mono (fun b hb=>?_),?_⟩
 . have:g=b:=by simpa [Value.ownBlock]using hb
   omega
 exact Upd.of_below hb
theorem Q9d (F G:Nat->Prop) (g:Nat) (bs:List Nat) (at_:Nat) (B:Option Addr) (m d:Nat) (p s x lg:Int) (N:List Int) (w:World) (hcu:Qk w F g bs at_) (hr:Rd w G B m (Q2 N)) (hfit:Fit N) (hm:(m:Int)<=1099511627776)
   (hv:¬Qc lg N s x) :
   Calls Tryz.prog 149 #[.agg #[.int .i64 p,.int .i64 s,.int .i64 x,.int .i64 lg,.slice B m d],.pointer (some ⟨g,0,none⟩)] w
     (Yu F g bs at_ 13 0 [] 0 w):=by
 obtain⟨w0,hw0⟩:=nm_ ((w.alloc (.cells #[.int .i64 p,.int .i64 s,.int .i64 x,.int .i64 lg,.slice B m d] 181)).alloc (.cells #[.int .i64 0,.slice none 0 0] 29));obtain⟨H,hH⟩:=nm_ (w.heap.size);(have f0:Q0 w w0:=by rw [hw0];exact((Upd.refl _ _).alloc _).alloc _);(have bp:Blk w0 H 181 #[.int .i64 p,.int .i64 s,.int .i64 x,.int .i64 lg,.slice B m d]:=by rw [hw0];exact(Q1 hH _ _).alloc _);(have bt:Blk w0 (H+1) 29 #[.int .i64 0,.slice none 0 0]:=by rw [hw0];exact Q1 (by simp [hH]) _ _);have HMY:=hd_ ((K6 G B B m m d d p s x lg lg N w0 (hr.fresh f0) hfit hm).mono fun e w' q=>(⟨by rw [q.1,if_neg hv],q.2⟩:e = .returned (.int .i64 13)/\Q0 w0 w'));have q0:=bp.cell 0;have q1:=bp.cell 1;have q2:=bp.cell 2;have q3:=bp.cell 3;have q4:=bp.cell 4;simp at q0 q1 q2 q3 q4;have HG:=hd_ hcu.lt;have CU:=hd_ (hcu.both.fresh f0);have BT:=hd_ bt;have F0:=hd_ f0;have HW:=hd_ hw0;have HH:=hd_ hH;clear hcu bp bt f0 hw0 hH hv hr hm hfit;refine Q6 fun R hR=>?_;go_enter Tryz.func149,Tryz.ntmps149;go_wp2_with fail;simp only [<-HH.out,<-HW.out];go_wp2_with fail;refine HMY.out.mono ?_;rintro e w1 ⟨rfl,f2⟩;have t1:=BT.out.fresh f2;have c0:=t1.cell 0;have c2:=t1.cell 1;have z0:=t1.frozen 0;have z1:=t1.frozen 1;simp at c0 c2;have T1:=hd_ t1;have F2:=hd_ f2;have CU2:=hd_ (CU.out.fresh f2);clear f2 t1;go_wp2_with fail;refine bodyPost_ret (Q5 rfl _ _ (H+1) _ _ _ rfl ((T1.out.set_ 0 (.int .i64 0)).set_ 1 (.slice none 0 0)) Tryz.underlying29 rfl (by kernel_rfl)) rfl ?_;exact hR.out _ _ (Jr F0.out (by have:=HH.out;omega) BT.out.lt HG.out (F2.out.mono (fun _ _ h=>h.elim)) CU2.out (Rd.nil _ _ _) rfl)
theorem Q9e (F G:Nat->Prop) (g:Nat) (bs:List Nat) (at_:Nat) (B:Option Addr) (m d:Nat) (p s x lg:Int) (N:List Int) (w:World) (hcu:Qk w F g bs at_) (hr:Rd w G B m (Q2 N)) (hfit:Fit N) (hm:(m:Int)<=1099511627776)
   (hv:Qc lg N s x) :
   Calls Tryz.prog 149 #[.agg #[.int .i64 p,.int .i64 s,.int .i64 x,.int .i64 lg,.slice B m d],.pointer (some ⟨g,0,none⟩)] w
     (Yu F g bs at_ 0 lg N 0 w):=by
 obtain⟨w0,hw0⟩:=nm_ ((w.alloc (.cells #[.int .i64 p,.int .i64 s,.int .i64 x,.int .i64 lg,.slice B m d] 181)).alloc (.cells #[.int .i64 0,.slice none 0 0] 29));obtain⟨H,hH⟩:=nm_ (w.heap.size);(have f0:Q0 w w0:=by rw [hw0];exact((Upd.refl _ _).alloc _).alloc _);(have bp:Blk w0 H 181 #[.int .i64 p,.int .i64 s,.int .i64 x,.int .i64 lg,.slice B m d]:=by rw [hw0];exact(Q1 hH _ _).alloc _);(have bt:Blk w0 (H+1) 29 #[.int .i64 0,.slice none 0 0]:=by rw [hw0];exact Q1 (by simp [hH]) _ _);have HMY:=hd_ ((K6 G B B m m d d p s x lg lg N w0 (hr.fresh f0) hfit hm).mono fun e w' q=>(⟨by rw [q.1,if_pos hv],q.2⟩:e = .returned (.int .i64 0)/\Q0 w0 w'));(have hN:N.length=m:=by have:=hr.1;simpa using this);(have hm0:0<m:=by have:=hv.2.2.2.1;omega);have HCL:=hd_ (fun W (h:Q0 w0 W)=>Q5a G B m d N W (hr.fresh (f0.trans' h)) (by omega) hm0);have q0:=bp.cell 0;have q1:=bp.cell 1;have q2:=bp.cell 2;have q3:=bp.cell 3;have q4:=bp.cell 4;simp at q0 q1 q2 q3 q4;have HG:=hd_ hcu.lt;have CU:=hd_ (hcu.both.fresh f0);have BT:=hd_ bt;have BP:=hd_ bp;have F0:=hd_ f0;have HW:=hd_ hw0;have HH:=hd_ hH;clear hcu bp bt f0 hw0 hH hv hr hm hfit hN hm0;refine Q6 fun R hR=>?_;go_enter Tryz.func149,Tryz.ntmps149;go_wp2_with fail;simp only [<-HH.out,<-HW.out];go_wp2_with fail;refine HMY.out.mono ?_;rintro e w1 ⟨rfl,f2⟩;have t1:=BT.out.fresh f2;have p1:=BP.out.fresh f2
 have hS4:∀W,Q0 w1 W->(Q0 w1 W/\W.cell? ⟨H,3,none⟩=some (.int .i64 lg)/\W.cell? ⟨H,4,none⟩=some (.slice B m d)/\W.cell? ⟨H+1,0,none⟩=some (.int .i64 0)/\W.cell? ⟨H+1,1,none⟩=some (.slice none 0 0)/\W.frozen? ⟨H+1,0,none⟩=false/\W.frozen? ⟨H+1,1,none⟩=false):=by
   intro W hW;have b1:=p1.fresh hW;have b2:=t1.fresh hW;exact⟨hW,by simpa using b1.cell 3,by simpa using b1.cell 4,by simpa using b2.cell 0,by simpa using b2.cell 1,b2.frozen 0,b2.frozen 1⟩
 have HSS:=hd_ hS4;have T1:=hd_ t1;have F2:=hd_ f2;have CU2:=hd_ (CU.out.fresh f2);clear f2 t1 p1 hS4 q0 q1 q2 q3 q4;go_wp2_with fail;obtain⟨-,k3,k4,-⟩:=HSS.out w1 (Upd.refl _ _)
 go_region_with
   (first
     | (go_at_call 55;refine(HCL.out _ (by first|exact F2.out|exact F2.out.drew|exact F2.out.drewN _)).mono ?_;rintro e w' ⟨g2,c2,rfl,r2,f3⟩;have f3x:Q0 w1 w':=(by first|exact f3|exact Upd.trans' ((Upd.refl _ _).drew) f3);obtain⟨-,k3x,k4x,c0x,c1x,z0x,z1x⟩:=HSS.out _ f3x))
 all_goals
   have t3:=T1.out.fresh f3x;have hsz:w0.heap.size<=w1.heap.size:=F2.out.size;have r3:=r2.mono (G:=fun b=>w0.heap.size<=b) (fun b hb=>Nat.le_trans hsz hb);have T3:=hd_ t3;have R3:=hd_ r3;have CU3:=hd_ (CU2.out.fresh f3x);clear t3 r3 r2;go_wp2_with fail;refine bodyPost_ret (Q5 rfl _ _ (H+1) _ _ _ rfl ((T3.out.set_ 0 (.int .i64 lg)).set_ 1 (.slice (some ⟨g2,0,none⟩) m c2)) Tryz.underlying29 rfl (by kernel_rfl)) rfl ?_;exact hR.out _ _ (Jr F0.out (by have:=HH.out;omega) BT.out.lt HG.out ((F2.out.trans' f3x).mono (fun _ _ h=>h.elim)) CU3.out R3.out rfl)
def RdU (w:World) (F:Nat->Prop) (A:Option Addr) (n:Nat) (xs:List Value):Prop :=
  Rd w F A n xs/\(0<n->∃b o t cs,A=some ⟨b,o,none⟩/\F b/\Blk w b t cs)
section
variable {S F G:Nat->Prop} {w w':World} {A:Option Addr} {n:Nat} {xs:List Value}
theorem RdU.nil (w:World) (F:Nat->Prop) (A:Option Addr):RdU w F A 0 []:=⟨Rd.nil w F A,fun h=>absurd h (by omega)⟩
theorem RdU.mono (h:RdU w F A n xs) (hfg:∀b,F b->G b):RdU w G A n xs :=
 ⟨h.1.mono hfg,fun hn=>by obtain⟨b,o,t,cs,e,hf,hb⟩:=h.2 hn;exact⟨b,o,t,cs,e,hfg b hf,hb⟩⟩
theorem RdU.upd (h:RdU w F A n xs) (hu:Upd S w w') (hs:∀b,b<w.heap.size->F b->¬S b):RdU w' F A n xs :=
 ⟨h.1.upd hu hs,fun hn=>by obtain⟨b,o,t,cs,e,hf,hb⟩:=h.2 hn;exact⟨b,o,t,cs,e,hf,hb.upd hu (hs b hb.lt hf)⟩⟩
theorem RdU.fresh (h:RdU w F A n xs) (hu:Q0 w w'):RdU w' F A n xs:=h.upd hu fun _ _ _ h=>h
theorem RdU.alloc (h:RdU w F A n xs) (o:Obj):RdU (w.alloc o) F A n xs:=h.fresh ((Upd.refl _ _).alloc o)
theorem RdU.both (h:RdU w F A n xs):RdU w (fun b=>F b/\b<w.heap.size) A n xs :=
 ⟨h.1.both,fun hn=>by obtain⟨b,o,t,cs,e,hf,hb⟩:=h.2 hn;exact⟨b,o,t,cs,e,⟨hf,hb.lt⟩,hb⟩⟩
end
theorem Own.rdu {w:World} {e:TypeId} {A:Option Addr} {n c:Nat} {xs:List Value} (h:Own w e (.slice A n c) xs):RdU w (fun b=>(Value.slice A n c).ownBlock=some b) A n xs:=by
 obtain⟨h1,h2,h3⟩:=h.rd rfl;subst h1;refine⟨h3,fun hn=>?_⟩;rcases h.2 with ⟨h4,h5⟩|⟨g,cap,cur,h4,_,h5,_⟩
 . omega
 injection h4 with e1 e2 e3;subst e1;exact⟨g,0,e,cur,rfl,rfl,h5⟩
theorem Q0B (F:Nat->Prop) (B:Option Addr) (m d:Nat) (N:List Int) (w:World) (hr:Rd w F B m (Q2 N)) (hm:m<=2^40) (h0:0<m) :
   Calls Tryz.prog 55 #[.slice B m d] w fun e w'=>∃g c,e = .returned (.slice (some ⟨g,0,none⟩) m c)/\RdU w' (fun b=>w.heap.size<=b) (some ⟨g,0,none⟩) m (Q2 N)/\Q0 w w':=by
 (have hN:N.length=m:=by have:=hr.1;simpa using this);obtain⟨b,o,rfl,hc⟩:=KX hr h0;refine(Tryz.slices_Clone_int b o m d N w (by omega) (by omega) hc).mono fun e w' h=>?_;obtain⟨v,rfl,ho,hne,hb⟩:=h;rw [List.take_of_length_le (by omega)]at ho
 have ho2:Own w' 3 v (Q2 N):=⟨by simp,by
   rcases ho.2 with h|⟨g,cap,cur,h1,h2,h3⟩
   . exact .inl ⟨h.1,by have:=h.2;simp;omega⟩
   exact .inr ⟨g,cap,cur,by simpa [hN]using h1,Nat.zero_le _,by simpa [hN,Q2]using h3⟩⟩
 rcases ho.2 with h|⟨g,cap,cur,rfl,h2,h3⟩
 . exact absurd h.1 hne
 have hrd:=ho2.rdu;refine⟨g,cap,rfl,hrd.mono (fun b hb=>?_),?_⟩
 . have:g=b:=by simpa [Value.ownBlock]using hb
   omega
 exact Upd.of_below hb
def Kq (x:Int):Bool:=decide (x<1\/134217728<x)
theorem Q7S (x:Int) (w:World):Calls Tryz.prog 54 #[.int .i64 x] w fun e w'=>e = .returned (.bool (Kq x))/\w'=w:=by
 by_cases h1:x<1
 . refine Q6 fun R hR=>?_
   go_enter Tryz.func54,Tryz.ntmps54;go_wp2_with fail;(try go_ret);exact hR.out _ _ ⟨by rw [show Kq x=true from decide_eq_true (by omega)]<;>rfl,rfl⟩
 (have h1I:1<=x:=by omega);by_cases h2:134217728<x
 . refine Q6 fun R hR=>?_
   go_enter Tryz.func54,Tryz.ntmps54;go_wp2_with fail;(try go_ret);exact hR.out _ _ ⟨by rw [show Kq x=true from decide_eq_true (by omega)]<;>rfl,rfl⟩
 (have h2I:x<=134217728:=by omega);refine Q6 fun R hR=>?_;go_enter Tryz.func54,Tryz.ntmps54;go_wp2_with fail;(try go_ret);exact hR.out _ _ ⟨by rw [show Kq x=false from decide_eq_false (by omega)]<;>rfl,rfl⟩
theorem Q5b (F:Nat->Prop) (A:Option Addr) (n c:Nat) (L:List Int) (w:World) (hr:Rd w F A n (Q2 L)) (hn:n<=2^40) :
   Calls Tryz.prog 87 #[.slice A n c,.func (.func 54) #[] #[]] w fun e w'=>(∃k:Int,e = .returned (.int .i64 k)/\((0<=k/\L.any Kq=true)\/(k=-1/\L.any Kq=false)))/\∃q,w'=w.drewN q:=by
 (have hL:L.length=n:=by have:=hr.1;simpa using this);(have hnI:(n:Int)<=1099511627776:=by omega);have HRD:=hd_ hr;have HL:=hd_ hL;have HRP:=hd_ Q7S;clear hr;refine Q6 fun R hR=>?_;go_enter Tryz.func87,Tryz.ntmps87;go_wp2_with fail;go_loopg [8] n (fun f vi wr=>(∃q,wr=w.drewN q)/\∃k:Nat,k+f=n/\vi = .int .i64 k/\(L.take k).any Kq=false)
 case atStart=>exact⟨⟨0,rfl⟩,0,by omega,rfl,rfl⟩
 case round =>
   obtain⟨⟨q,rfl⟩,k,hk,rfl,hany⟩:=hrel;have HK:=hd_ hk;have HANY:=hd_ hany;clear hany;by_cases hkn:k<n
   . have hkI:(k:Int)<n:=by omega
     have hw4:IntKind.i64.wrap ((k:Int)+1)=k+1:=IntWalk.i64_in _ (by omega);obtain⟨b,o,_,hA,_,hc⟩:=(HRD.out.drewN q).int (k:=k) hkn;have HTK:=hd_ (show(L.take (k+1))=L.take k++[L[k]'(by omega)]from by rw [List.take_add_one,List.getElem?_eq_getElem (by omega)];rfl);have HGK:=hd_ (show L[k]'(by omega)∈L from List.getElem_mem _);subst hA;generalize L[k]'(by omega)=x at *;clear hk;by_cases hb:Kq x=true
     . have hrp:=HRP.out x
       rw [hb]at hrp;have HRX:=hd_ hrp;clear hrp;go_wp2_with fail;refine(HRX.out _).mono ?_;rintro e w1 ⟨rfl,rfl⟩;go_wp2_with fail;(try go_ret);exact hR.out _ _ ⟨⟨k,rfl,.inl ⟨by omega,List.any_eq_true.2 ⟨x,HGK.out,hb⟩⟩⟩,_,rfl⟩
     (have hb':Kq x=false:=by simpa using hb);have hrp:=HRP.out x;rw [hb']at hrp;have HRX:=hd_ hrp;clear hrp;have hb2:=hd_ hb';clear hb hb';go_wp2_with fail;refine(HRX.out _).mono ?_;rintro e w1 ⟨rfl,rfl⟩;go_wp2_with fail;go_roundg (gk-1)
     case measure=>have:=HK.out;omega
     case rel=>exact⟨⟨_,rfl⟩,k+1,by have:=HK.out;omega,by go_num,by rw [HTK.out,List.any_append,HANY.out];simp [hb2.out]⟩
   (have hk2:k=n:=by omega);subst hk2;go_wp2_with fail;(try go_ret);exact hR.out _ _ ⟨⟨-1,rfl,.inr ⟨rfl,by rw [<-HANY.out,List.take_of_length_le (by have:=HL.out;omega)]⟩⟩,_,rfl⟩
theorem Q2C (F:Nat->Prop) (A:Option Addr) (n c:Nat) (L:List Int) (w:World) (hr:Rd w F A n (Q2 L)) (hn:n<=2^40) :
   Calls Tryz.prog 53 #[.slice A n c,.func (.func 54) #[] #[]] w fun e w'=>e = .returned (.bool (L.any Kq))/\∃q,w'=w.drewN q:=by
 have HI:=hd_ (Q5b F A n c L w hr hn);clear hr;refine Q6 fun R hR=>?_;go_enter Tryz.func53,Tryz.ntmps53;go_wp2_with fail;refine HI.out.mono ?_;rintro e w1 ⟨⟨k,rfl,hk⟩,q,rfl⟩;rcases hk with ⟨hk,ha⟩|⟨rfl,ha⟩
 . rw [ha]at hR
   go_wp2_with fail;(try go_ret);exact hR.out _ _ ⟨rfl,_,rfl⟩
 rw [ha]at hR;go_wp2_with fail;(try go_ret);exact hR.out _ _ ⟨rfl,_,rfl⟩
def Qz (a b c:Int):Bool:=!([a,b,c].any Kq)
theorem ZV (a b c:Int) (w:World) :
   Calls Tryz.prog 34 #[.agg #[.int .i64 a,.int .i64 b,.int .i64 c]] w fun e w'=>e = .returned (.bool (Qz a b c))/\Q0 w w':=by
 obtain⟨w0,hw0⟩:=nm_ (w.alloc (.cells #[.int .i64 a,.int .i64 b,.int .i64 c] 30));obtain⟨H,hH⟩:=nm_ (w.heap.size);(have f0:Q0 w w0:=by rw [hw0];exact(Upd.refl _ _).alloc _);(have bt:Blk w0 H 30 #[.int .i64 a,.int .i64 b,.int .i64 c]:=by rw [hw0];exact Q1 hH _ _)
 have hrd:Rd w0 (fun _=>True) (some ⟨H,0,none⟩) 3 (Q2 [a,b,c]):=by
   refine⟨rfl,fun _=>⟨H,0,rfl,trivial,bt.lt,fun j hj=>?_⟩⟩;(have:j=0\/j=1\/j=2:=by omega);rcases this with rfl|rfl|rfl
   . simpa [Q2]using bt.cell 0
   . simpa [Q2]using bt.cell 1
   simpa [Q2]using bt.cell 2
 have HC:=hd_ (Q2C (fun _=>True) (some ⟨H,0,none⟩) 3 3 [a,b,c] w0 hrd (by omega));have HW:=hd_ hw0;have HH:=hd_ hH;have F0:=hd_ f0;clear bt hrd f0 hw0 hH;unfold Qz;generalize ([a,b,c].any Kq)=z at *;refine Q6 fun R hR=>?_;go_enter Tryz.func34,Tryz.ntmps34;go_upto_region 1 with fail;simp only [<-HH.out,<-HW.out];go_wp2_with fail;refine HC.out.mono ?_;rintro e w1 ⟨rfl,q,rfl⟩;cases z;(all_goals go_wp2_with fail);(all_goals try go_ret);(all_goals exact hR.out _ _ ⟨rfl,F0.out.drewN q⟩)
theorem Q4h (F:Nat->Prop) (B:Option Addr) (m d:Nat) (N:List Int) (w:World) (hr:Rd w F B m (Q2 N)) (hm:m<=2^40) :
   Calls Tryz.prog 55 #[.slice B m d] w fun e w'=>∃A c,e = .returned (.slice A m c)/\RdU w' (fun b=>w.heap.size<=b) A m (Q2 N)/\Q0 w w':=by
 rcases Nat.eq_zero_or_pos m with rfl|h0
 . have hN:N=[]:=by have:=hr.1;simpa using this
   subst hN;rcases B with _|a
   . refine(Tryz.slices_Clone_int_nil 0 d w).mono fun e w' h=>?_
     obtain⟨rfl,rfl⟩:=h;exact⟨none,0,rfl,RdU.nil _ _ _,Upd.refl _ _⟩
   refine(Tryz.slices_Clone_int_zero a d w).mono fun e w' h=>?_;obtain⟨v,rfl,ho,hne,hb⟩:=h;rcases ho.2 with h|⟨g,cap,cur,rfl,h2,h3⟩
   . exact absurd h.1 hne
   exact⟨_,cap,rfl,RdU.nil _ _ _,Upd.of_below hb⟩
 refine(Q0B F B m d N w hr hm h0).mono fun e w' h=>?_;obtain⟨g,c,rfl,h1,h2⟩:=h;exact⟨_,c,rfl,h1,h2⟩
def Box (w:World) (b:Nat) (t:TypeId) (n:Nat):Prop:=∃cs:Array Value,cs.size=n/\Blk w b t cs
theorem Box.fresh {w w':World} {b n:Nat} {t:TypeId} (h:Box w b t n) (f:Q0 w w'):Box w' b t n:=by
 obtain⟨cs,h1,h2⟩:=h;exact⟨cs,h1,h2.fresh f⟩
theorem Box.set_ {w:World} {b n:Nat} {t:TypeId} (h:Box w b t n) (i:Nat) (v:Value):Box (w.setCell ⟨b,i,none⟩ v) b t n:=by
 obtain⟨cs,h1,h2⟩:=h;exact⟨_,by simpa using h1,h2.set_ i v⟩
theorem Box.two {w:World} {b:Nat} {t:TypeId} (h:Box w b t 2):∃v0 v1,Blk w b t #[v0,v1]:=by
 obtain⟨⟨cs⟩,h1,h2⟩:=h
 match cs,h1 with
 | [a,b],_=>exact⟨a,b,h2⟩
theorem Q1L (F:Nat->Prop) (A:Option Addr) (n c:Nat) (lg:Int) (N:List Int) (w:World) (hr:Rd w F A n (Q2 N)) (hm:n<=2^40) :
   Calls Tryz.prog 56 #[.agg #[.int .i64 lg,.slice A n c]] w fun e w'=>∃A' c',e = .returned (.agg #[.int .i64 lg,.slice A' n c'])/\RdU w' (fun b=>w.heap.size<=b) A' n (Q2 N)/\Q0 w w':=by
 obtain⟨w0,hw0⟩:=nm_ ((w.alloc (.cells #[.int .i64 lg,.slice A n c] 29)).alloc (.cells #[.int .i64 0,.slice none 0 0] 29));obtain⟨H,hH⟩:=nm_ (w.heap.size);(have f0:Q0 w w0:=by rw [hw0];exact((Upd.refl _ _).alloc _).alloc _);(have bt:Blk w0 H 29 #[.int .i64 lg,.slice A n c]:=by rw [hw0];exact(Q1 hH _ _).alloc _);(have bo:Blk w0 (H+1) 29 #[.int .i64 0,.slice none 0 0]:=by rw [hw0];exact Q1 (by simp [hH]) _ _)
 have hk:∀W,(Upd (fun b=>b=H+1) w0 W/\Box W (H+1) 29 2)->(Upd (fun b=>b=H+1) w0 W/\Box W (H+1) 29 2/\W.cell? ⟨H,0,none⟩=some (.int .i64 lg)/\W.cell? ⟨H,1,none⟩=some (.slice A n c)):=fun W h =>
   ⟨h.1,h.2,by simpa using(bt.upd h.1 (by omega)).cell 0,by simpa using(bt.upd h.1 (by omega)).cell 1⟩
 have HS0:=hd_ (hk w0.drew ⟨(Upd.refl _ _).drew,_,rfl,bo.drew⟩);have HSC:=hd_ (fun W W' (h:Upd (fun b=>b=H+1) w0 W/\Box W (H+1) 29 2/\W.cell? ⟨H,0,none⟩=some (.int .i64 lg)/\W.cell? ⟨H,1,none⟩=some (.slice A n c)) (f:Q0 W W')=>hk W' ⟨h.1.trans' (f.mono fun _ _ h=>h.elim),h.2.1.fresh f⟩);have HSW:=hd_ (fun W x y (h:Upd (fun b=>b=H+1) w0 W/\Box W (H+1) 29 2/\W.cell? ⟨H,0,none⟩=some (.int .i64 lg)/\W.cell? ⟨H,1,none⟩=some (.slice A n c))=>hk ((W.setCell ⟨H+1,0,none⟩ x).setCell ⟨H+1,1,none⟩ y) ⟨(h.1.setCell (p:=⟨H+1,0,none⟩) (fun _=>rfl) _).setCell (p:=⟨H+1,1,none⟩) (fun _=>rfl) _,(h.2.1.set_ 0 x).set_ 1 y⟩)
 have HCL:=hd_ (fun W (h:Upd (fun b=>b=H+1) w0 W/\Box W (H+1) 29 2/\W.cell? ⟨H,0,none⟩=some (.int .i64 lg)/\W.cell? ⟨H,1,none⟩=some (.slice A n c))=>(Q4h (fun b=>F b/\b<w.heap.size) A n c N W ((hr.both.fresh f0).upd h.1 (fun b _ hb e=>by have:=hb.2;omega)) hm).mono (R':=fun e w'=>∃A' c' x y,e = .returned (.slice A' n c')/\RdU w' (fun b=>w0.heap.size<=b) A' n (Q2 N)/\Q0 W w'/\Blk w' (H+1) 29 #[x,y]) fun e w' q=>by
   obtain⟨A',c',h1,h2,h3⟩:=q;obtain⟨x,y,hb⟩:=(h.2.1.fresh h3).two
   exact⟨A',c',x,y,h1,h2.mono fun b hb=>Nat.le_trans h.1.size hb,h3,hb⟩)
 have HW:=hd_ hw0;have HH:=hd_ hH;have F0:=hd_ f0;have HS1:=hd_ (show H+1<w0.heap.size from bo.lt);clear bt bo hr f0 hw0 hH hk;refine Q6 fun R hR=>?_;go_enter Tryz.func56,Tryz.ntmps56;go_upto_region 1 with fail;simp only [<-HH.out,<-HW.out]
 go_region_held3 (fun W=>Upd (fun b=>b=H+1) w0 W/\Box W (H+1) 29 2/\W.cell? ⟨H,0,none⟩=some (.int .i64 lg)/\W.cell? ⟨H,1,none⟩=some (.slice A n c))
   (first|exact HS0.out|exact HSC.out _ _ (by assumption) (by assumption)|exact HSW.out _ _ _ (by assumption))
   (first
     | (go_at_call 55;refine(HCL.out _ (by assumption)).mono ?_;rintro e w' ⟨A',c',x,y,rfl,r2,f2,b2⟩;have c0x:=b2.cell 0;have c1x:=b2.cell 1;have z0x:=b2.frozen 0;have z1x:=b2.frozen 1;simp at c0x c1x))
 (all_goals go_wp2_with fail)
 all_goals
   refine bodyPost_ret (v:=.agg #[.int .i64 lg,.slice A' n c']) (results_cell_row rfl _ _ (H+1) _ _ _ _ rfl ((b2.set_ 0 (.int .i64 lg)).set_ 1 (.slice A' n c')) Tryz.underlying29 rfl (by kernel_rfl)) rfl ?_;have hu:Upd (fun b=>b=H+1) w0 ((w'.setCell ⟨H+1,0,none⟩ (.int .i64 lg)).setCell ⟨H+1,1,none⟩ (.slice A' n c')):=And.left (by assumption);have h2:Upd (fun b=>b=H+1) w' ((w'.setCell ⟨H+1,0,none⟩ (.int .i64 lg)).setCell ⟨H+1,1,none⟩ (.slice A' n c')):=((Upd.refl (fun b=>b=H+1) _).setCell (p:=⟨H+1,0,none⟩) (fun _=>rfl) _).setCell (p:=⟨H+1,1,none⟩) (fun _=>rfl) _;exact hR.out _ _ ⟨A',c',rfl,(r2.upd h2 (fun b _ hb e=>by have:=HS1.out;omega)).mono (fun b hb=>Nat.le_trans F0.out.size hb),F0.out.trans hu (fun b hb e=>by have:=HH.out;omega)⟩
theorem KY (A B C D:Option Addr) (n c m d k e h i:Nat) (x y z r0 r1 r2:Int) (w:World) :
   Calls Tryz.prog 36 #[.agg #[.slice D h i,.int .i64 x,.slice A n c,.int .i64 y,.slice B m d,.int .i64 z,.slice C k e,.int .i64 r0,.int .i64 r1,.int .i64 r2]] w fun e' w' =>
     e' = .returned (.agg #[.int .i64 x,.slice A n c,.int .i64 y,.slice B m d,.int .i64 z,.slice C k e])/\Q0 w w':=by
 refine Q6 fun R hR=>?_;go_enter Tryz.func36,Tryz.ntmps36;go_wp2_with fail;refine bodyPost_ret (v:=.agg #[.int .i64 x,.slice A n c,.int .i64 y,.slice B m d,.int .i64 z,.slice C k e]) (results_cell_row rfl _ _ (w.heap.size+1) 69 _ _ _ rfl (Q1 (by simp) _ _) Tryz.underlying69 rfl (by kernel_rfl)) rfl ?_;exact hR.out _ _ ⟨rfl,((Upd.refl _ _).alloc _).alloc _⟩
def QR (m p lg:Int) (N:List Int) (bs:List Nat) (at_:Nat):Int × Int × List Int × Nat :=
  if m=0 then(0,Yi p,Ya p,0)else if m=1 then((Zu bs at_ (Qj p)).1,0,(Zu bs at_ (Qj p)).2.1,(Zu bs at_ (Qj p)).2.2)
  else if m=2 then Zg bs at_ (Qj p) (Ql p)else if Qc lg N (Qj p) (Ql p)then(0,lg,N,0)else(13,0,[],0)
def YI (m p lg:Int) (N:List Int) (bs:List Nat) (at_:Nat):Int × Int × List Int × Nat :=
  if p<0\/2<p\/m<0\/3<m then(2,0,[],0)else QR m p lg N bs at_
theorem Yu.no {F:Nat->Prop} {g:Nat} {bs:List Nat} {at_:Nat} {x:Int} {w w':World} {e:Ending} (hc:Qk w F g bs at_) (h:e = .returned (.tuple #[.agg #[.int .i64 0,.slice none 0 0],.int .i64 x])/\Q0 w w'):Yu F g bs at_ x 0 [] 0 w e w' :=
 ⟨h.2.mono (fun _ _ h=>h.elim),hc.fresh h.2,none,0,0,h.1,Rd.nil _ _ _⟩
theorem Qad (F G:Nat->Prop) (g:Nat) (bs:List Nat) (at_:Nat) (B:Option Addr) (m d:Nat) (p lg:Int) (N:List Int) (W:World) (hcu:Qk W F g bs at_) (hF:∀b,F b->b≠g) (hr:Rd W G B m (Q2 N)) (hfit:Fit N) (hm:(m:Int)<=1099511627776) (hp:0<=p/\p<=2) :
   Calls Tryz.prog 138 #[.agg #[.int .i64 p,.int .i64 (Qj p),.int .i64 (Ql p),.int .i64 lg,.slice B m d],.pointer (some ⟨g,0,none⟩)] W
     (Yu F g bs at_ (QR 0 p lg N bs at_).1 (QR 0 p lg N bs at_).2.1 (QR 0 p lg N bs at_).2.2.1 (QR 0 p lg N bs at_).2.2.2 W):=by
 exact Q7Q F g bs at_ B m d p (Qj p) (Ql p) lg W hcu hp
theorem Qae (F G:Nat->Prop) (g:Nat) (bs:List Nat) (at_:Nat) (B:Option Addr) (m d:Nat) (p lg:Int) (N:List Int) (W:World) (hcu:Qk W F g bs at_) (hF:∀b,F b->b≠g) (hr:Rd W G B m (Q2 N)) (hfit:Fit N) (hm:(m:Int)<=1099511627776) (hp:0<=p/\p<=2) :
   Calls Tryz.prog 143 #[.agg #[.int .i64 p,.int .i64 (Qj p),.int .i64 (Ql p),.int .i64 lg,.slice B m d],.pointer (some ⟨g,0,none⟩)] W
     (Yu F g bs at_ (QR 1 p lg N bs at_).1 (QR 1 p lg N bs at_).2.1 (QR 1 p lg N bs at_).2.2.1 (QR 1 p lg N bs at_).2.2.2 W):=by
 exact Q9b F g bs at_ B m d p (Qj p) (Ql p) lg W hcu hF
theorem Qaf (F G:Nat->Prop) (g:Nat) (bs:List Nat) (at_:Nat) (B:Option Addr) (m d:Nat) (p lg:Int) (N:List Int) (W:World) (hcu:Qk W F g bs at_) (hF:∀b,F b->b≠g) (hr:Rd W G B m (Q2 N)) (hfit:Fit N) (hm:(m:Int)<=1099511627776) (hp:0<=p/\p<=2) :
   Calls Tryz.prog 145 #[.agg #[.int .i64 p,.int .i64 (Qj p),.int .i64 (Ql p),.int .i64 lg,.slice B m d],.pointer (some ⟨g,0,none⟩)] W
     (Yu F g bs at_ (QR 2 p lg N bs at_).1 (QR 2 p lg N bs at_).2.1 (QR 2 p lg N bs at_).2.2.1 (QR 2 p lg N bs at_).2.2.2 W):=by
 exact Q7R F g bs at_ B m d p (Qj p) (Ql p) lg W hcu hF
theorem Qag (F G:Nat->Prop) (g:Nat) (bs:List Nat) (at_:Nat) (B:Option Addr) (m d:Nat) (p lg:Int) (N:List Int) (W:World) (hcu:Qk W F g bs at_) (hF:∀b,F b->b≠g) (hr:Rd W G B m (Q2 N)) (hfit:Fit N) (hm:(m:Int)<=1099511627776) (hp:0<=p/\p<=2) :
   Calls Tryz.prog 149 #[.agg #[.int .i64 p,.int .i64 (Qj p),.int .i64 (Ql p),.int .i64 lg,.slice B m d],.pointer (some ⟨g,0,none⟩)] W
     (Yu F g bs at_ (QR 3 p lg N bs at_).1 (QR 3 p lg N bs at_).2.1 (QR 3 p lg N bs at_).2.2.1 (QR 3 p lg N bs at_).2.2.2 W):=by
 by_cases hv:Qc lg N (Qj p) (Ql p)
 . have h:QR 3 p lg N bs at_=(0,lg,N,0):=by simp [QR,hv]
   rw [h];exact Q9e F G g bs at_ B m d p _ _ lg N W hcu hr hfit hm hv
 (have h:QR 3 p lg N bs at_=(13,0,[],0):=by simp [QR,hv]);rw [h];exact Q9d F G g bs at_ B m d p _ _ lg N W hcu hr hfit hm hv
theorem Q6f (g:Nat) (B:Option Addr) (m d:Nat) (mo p lg:Int) (w:World) (hp:p<0\/2<p) :
   Calls Tryz.prog 57 #[.pointer (some ⟨g,0,none⟩),.int .i64 mo,.int .i64 p,.agg #[.int .i64 lg,.slice B m d]] w fun e w'=>e = .returned (.tuple #[.agg #[.int .i64 0,.slice none 0 0],.int .i64 2])/\Q0 w w':=by
 obtain⟨w0,hw0⟩:=nm_ ((w.alloc (.cells #[.int .i64 lg,.slice B m d] 29)).alloc (.cells #[.int .i64 0,.slice none 0 0] 29));obtain⟨H,hH⟩:=nm_ (w.heap.size);(have f0:Q0 w w0:=by rw [hw0];exact((Upd.refl _ _).alloc _).alloc _);(have bt:Blk w0 H 29 #[.int .i64 lg,.slice B m d]:=by rw [hw0];exact(Q1 hH _ _).alloc _);(have br:Blk w0 (H+1) 29 #[.int .i64 0,.slice none 0 0]:=by rw [hw0];exact Q1 (by simp [hH]) _ _);have HM:=hd_ (Q38 p lg B m d w0 hp);have BR:=hd_ br;have F0:=hd_ f0;have HW:=hd_ hw0;have HH:=hd_ hH;have HWY:=hd_ (YO);obtain⟨t0,t1⟩:=(bt).cells2;clear bt br f0 hw0 hH;clear hp;refine Q6 fun R hR=>?_;go_enter Tryz.func57,Tryz.ntmps57;go_wp2_with fail;simp only [<-HH.out,<-HW.out];go_wp2_with fail;refine HM.out.mono ?_;rintro e w1 ⟨rfl,f1⟩;obtain⟨w2,hw2⟩:=nm_ (w1.alloc (.cells #[.int .i64 0,.int .i64 0,.int .i64 0,.int .i64 0,.slice none 0 0] 181));obtain⟨H1,hH1⟩:=nm_ (w1.heap.size);(have f12:Q0 w1 w2:=by rw [hw2];exact(Upd.refl _ _).alloc _);have r2:=BR.out.fresh (f1.trans' f12);(have c2:Blk w2 H1 181 #[.int .i64 0,.int .i64 0,.int .i64 0,.int .i64 0,.slice none 0 0]:=by rw [hw2];exact Q1 hH1 _ _);have r2r:=BR.out.fresh f1;(have c0:∀o,(w1.alloc o).cell? ⟨H+1,0,none⟩=some (.int .i64 0):=fun o=>by simpa using(r2r.alloc o).cell 0);(have c1:∀o,(w1.alloc o).cell? ⟨H+1,1,none⟩=some (.slice none 0 0):=fun o=>by simpa using(r2r.alloc o).cell 1);have z0:∀o,(w1.alloc o).frozen? ⟨H+1,0,none⟩=false:=fun o=>(r2r.alloc o).frozen 0;have z1:∀o,(w1.alloc o).frozen? ⟨H+1,1,none⟩=false:=fun o=>(r2r.alloc o).frozen 1;have d0:=r2r.cell 0;have d1:=r2r.cell 1;have y0:=r2r.frozen 0;have y1:=r2r.frozen 1;have hlt:=r2r.lt;simp at d0 d1;have R1:=hd_ r2r;have R2:=hd_ r2;have C2:=hd_ c2;have F2:=hd_ ((F0.out.trans' f1).trans' f12);have F1:=hd_ (F0.out.trans' f1);have HW2:=hd_ hw2;have HH1:=hd_ hH1;clear f1 f12 r2 c2 hw2 hH1 r2r;go_wp2_with fail
 first
   | exact bodyPost_ret (Q5 rfl _ _ (H+1) _ _ _ rfl (((R1.out.set_ 0 (.int .i64 0)).set_ 1 (.slice none 0 0)).alloc _) Tryz.underlying29 rfl (by kernel_rfl)) rfl
       (hR.out _ _ ⟨rfl,(F1.out.trans (Y9 w1 (H+1) _ _) (fun b hb h=>by have:=HH.out;omega)).alloc _⟩)
   | exact bodyPost_ret (Q5 rfl _ _ (H+1) _ _ _ rfl (((R1.out.alloc _).set_ 0 (.int .i64 0)).set_ 1 (.slice none 0 0)) Tryz.underlying29 rfl (by kernel_rfl)) rfl
       (hR.out _ _ ⟨rfl,(F1.out.alloc _).trans (Y9 _ (H+1) _ _) (fun b hb h=>by have:=HH.out;omega)⟩)
theorem Q7T (g:Nat) (B:Option Addr) (m d:Nat) (mo p lg:Int) (w:World) (hp:0<=p/\p<=2) (hmo:mo<0) :
   Calls Tryz.prog 57 #[.pointer (some ⟨g,0,none⟩),.int .i64 mo,.int .i64 p,.agg #[.int .i64 lg,.slice B m d]] w fun e w'=>e = .returned (.tuple #[.agg #[.int .i64 0,.slice none 0 0],.int .i64 2])/\Q0 w w':=by
 obtain⟨w0,hw0⟩:=nm_ ((w.alloc (.cells #[.int .i64 lg,.slice B m d] 29)).alloc (.cells #[.int .i64 0,.slice none 0 0] 29));obtain⟨H,hH⟩:=nm_ (w.heap.size);(have f0:Q0 w w0:=by rw [hw0];exact((Upd.refl _ _).alloc _).alloc _);(have bt:Blk w0 H 29 #[.int .i64 lg,.slice B m d]:=by rw [hw0];exact(Q1 hH _ _).alloc _);(have br:Blk w0 (H+1) 29 #[.int .i64 0,.slice none 0 0]:=by rw [hw0];exact Q1 (by simp [hH]) _ _);have HM:=hd_ (Jm p lg B m d w0 hp);have BR:=hd_ br;have F0:=hd_ f0;have HW:=hd_ hw0;have HH:=hd_ hH;have HWY:=hd_ (YO);obtain⟨t0,t1⟩:=(bt).cells2;clear bt br f0 hw0 hH;clear hp;generalize Qj p=s at *;generalize Ql p=x at *;refine Q6 fun R hR=>?_;go_enter Tryz.func57,Tryz.ntmps57;go_wp2_with fail;simp only [<-HH.out,<-HW.out];go_wp2_with fail;refine HM.out.mono ?_;rintro e w1 ⟨rfl,f1⟩;obtain⟨w2,hw2⟩:=nm_ (w1.alloc (.cells #[.int .i64 p,.int .i64 s,.int .i64 x,.int .i64 lg,.slice B m d] 181));obtain⟨H1,hH1⟩:=nm_ (w1.heap.size);(have f12:Q0 w1 w2:=by rw [hw2];exact(Upd.refl _ _).alloc _);have r2:=BR.out.fresh (f1.trans' f12);(have c2:Blk w2 H1 181 #[.int .i64 p,.int .i64 s,.int .i64 x,.int .i64 lg,.slice B m d]:=by rw [hw2];exact Q1 hH1 _ _);have r2r:=BR.out.fresh f1;(have c0:∀o,(w1.alloc o).cell? ⟨H+1,0,none⟩=some (.int .i64 0):=fun o=>by simpa using(r2r.alloc o).cell 0);(have c1:∀o,(w1.alloc o).cell? ⟨H+1,1,none⟩=some (.slice none 0 0):=fun o=>by simpa using(r2r.alloc o).cell 1);have z0:∀o,(w1.alloc o).frozen? ⟨H+1,0,none⟩=false:=fun o=>(r2r.alloc o).frozen 0;have z1:∀o,(w1.alloc o).frozen? ⟨H+1,1,none⟩=false:=fun o=>(r2r.alloc o).frozen 1;have d0:=r2r.cell 0;have d1:=r2r.cell 1;have y0:=r2r.frozen 0;have y1:=r2r.frozen 1;have hlt:=r2r.lt;simp at d0 d1;have R1:=hd_ r2r;have R2:=hd_ r2;have C2:=hd_ c2;have F2:=hd_ ((F0.out.trans' f1).trans' f12);have F1:=hd_ (F0.out.trans' f1);have HW2:=hd_ hw2;have HH1:=hd_ hH1;clear f1 f12 r2 c2 hw2 hH1 r2r;go_wp2_with fail
 first
   | exact bodyPost_ret (Q5 rfl _ _ (H+1) _ _ _ rfl (((R1.out.set_ 0 (.int .i64 0)).set_ 1 (.slice none 0 0)).alloc _) Tryz.underlying29 rfl (by kernel_rfl)) rfl
       (hR.out _ _ ⟨rfl,(F1.out.trans (Y9 w1 (H+1) _ _) (fun b hb h=>by have:=HH.out;omega)).alloc _⟩)
   | exact bodyPost_ret (Q5 rfl _ _ (H+1) _ _ _ rfl (((R1.out.alloc _).set_ 0 (.int .i64 0)).set_ 1 (.slice none 0 0)) Tryz.underlying29 rfl (by kernel_rfl)) rfl
       (hR.out _ _ ⟨rfl,(F1.out.alloc _).trans (Y9 _ (H+1) _ _) (fun b hb h=>by have:=HH.out;omega)⟩)
theorem Q5c {N M:List Int} {s tot:Int} (h:M.length=N.length):(upV N M s tot).length=N.length:=by simp [upV,h]
theorem Q5d {N M:List Int} {s tot:Int} (h:M.length=N.length):(dnV N M s tot).length=N.length:=by simp [dnV,h]
theorem Q9U (F:Nat->Prop) (A:Option Addr) (n c nc p2 p9 p10 p6 g:Nat) (N M:List Int) (s tot:Int) (w:World) (hc:XR w F A n c nc p2 p9 p10 p6 g N M s tot) (hb:NBd N M s tot) (hn:(n:Int)<=1099511627776) (hM:M.length=N.length) :
   Calls Tryz.prog 206 #[.slice (some ⟨g,0,none⟩) n nc,.func (.func 203) #[] #[.pointer (some ⟨p2,0,none⟩)],JV p2 p9 p10 p6] w fun e w' =>
     e = .returned (.int .i64 (Jn (QA (upV N M s tot))))/\Qt w w':=by
 (have hN:N.length=n:=by have:=hc.hr.1;simpa using this);refine Q9V n nc g p2 p9 p10 p6 (upV N M s tot) w (by rw [Q5c hM,hN]) hn (fun W hW i v hv=>?_) (fun W hW i x hx=>?_)
 . obtain⟨x,y,hx,hy,rfl⟩:=Xi hv
   (have hi:i<n:=by have:=(List.getElem?_eq_some_iff.1 hx).1;omega);have h:=Q9f F A n c p2 N W (hc.b2.fresh hW.fresh) (hc.hr.fresh hW.fresh) hn i x hx hi;(have e:decide (0<x)=(if 0<x then some (x*s-y*tot)else none).isSome:=by by_cases h:0<x<;>simp [h]);rw [e]at h;exact h
 obtain⟨x',y,hx',hy,he⟩:=Xi hx;(have hi:i<n:=by have:=(List.getElem?_eq_some_iff.1 hx').1;omega)
 have h0:x=x' * s-y*tot:=by
   by_cases h:0<x'
   . rw [if_pos h]at he;injection he
   rw [if_neg h]at he;cases he
 rw [h0];exact Q2a F A n c nc p2 p9 p10 p6 g N M s tot W (hc.fresh hW.fresh) hb hn i x' y hx' hy hi
theorem Q9W (F:Nat->Prop) (A:Option Addr) (n c nc p2 p9 p10 p6 p14 g:Nat) (N M:List Int) (s tot:Int) (w:World) (hc:XR w F A n c nc p2 p9 p10 p6 g N M s tot) (hb:NBd N M s tot) (hn:(n:Int)<=1099511627776) (hM:M.length=N.length)
   (b14:Blk w p14 123 #[JV p2 p9 p10 p6]) :
   Calls Tryz.prog 206 #[.slice (some ⟨g,0,none⟩) n nc,.func (.func 204) #[] #[.pointer (some ⟨p10,0,none⟩)],.func (.func 205) #[] #[.pointer (some ⟨p14,0,none⟩)]] w fun e w' =>
     e = .returned (.int .i64 (Jn (QA (dnV N M s tot))))/\Qt w w':=by
 (have hN:N.length=n:=by have:=hc.hr.1;simpa using this);refine Q9X n nc g p10 p14 (dnV N M s tot) w (by rw [Q5d hM,hN]) hn (fun W hW i v hv=>?_) (fun W hW i x hx=>?_)
 . obtain⟨x,y,hx,hy,rfl⟩:=Xi hv
   (have hi:i<n:=by have:=(List.getElem?_eq_some_iff.1 hx).1;omega);have h:=Q7U n nc p10 g M W (hc.b10.fresh hW.fresh) (hc.bg.fresh hW.fresh) hn i y hy hi;(have e:decide (1<y)=(if 1<y then some (-(x*s-y*tot))else none).isSome:=by by_cases h:1<y<;>simp [h]);rw [e]at h;exact h
 obtain⟨x',y,hx',hy,he⟩:=Xi hx;(have hi:i<n:=by have:=(List.getElem?_eq_some_iff.1 hx').1;omega)
 have h0:x=-(x' * s-y*tot):=by
   by_cases h:1<y
   . rw [if_pos h]at he;injection he
   rw [if_neg h]at he;cases he
 rw [h0];exact Q6g F A n c nc p2 p9 p10 p6 p14 g N M s tot W (hc.fresh hW.fresh) hb hn (b14.fresh hW.fresh) i x' y hx' hy hi
theorem Ve (w:World) (H:Nat) (u v:Value):Upd (fun b=>b=H) w ((w.setCell ⟨H,0,none⟩ u).setCell ⟨H,1,none⟩ v) :=
 ((Upd.refl (fun b=>b=H) w).setCell (p:=⟨H,0,none⟩) (fun _=>rfl) u).setCell (p:=⟨H,1,none⟩) (fun _=>rfl) v
theorem Q6h (F:Nat->Prop) (A:Option Addr) (n c:Nat) (N:List Int) (w:World) (lg:Int) (hr:Rd w F A n (Q2 N)) (hfit:Fit N) (hn:(n:Int)<=1099511627776) (hno:¬Kr N lg) :
   Calls Tryz.prog 170 #[.slice A n c,.int .i64 lg] w fun e w'=>e = .returned (.tuple #[.agg #[.int .i64 0,.slice none 0 0],.int .i64 2])/\Q0 w w':=by
 obtain⟨w0,hw0⟩:=nm_ ((w.alloc (.cells #[.slice A n c] 27)).alloc (.cells #[.int .i64 0,.slice none 0 0] 29));obtain⟨H,hH⟩:=nm_ (w.heap.size);(have f0:Q0 w w0:=by rw [hw0];exact((Upd.refl _ _).alloc _).alloc _);(have b2:Blk w0 H 27 #[.slice A n c]:=by rw [hw0];exact(Q1 hH _ _).alloc _);(have bt:Blk w0 (H+1) 29 #[.int .i64 0,.slice none 0 0]:=by rw [hw0];exact Q1 (by simp [hH]) _ _);have hal:=Q0X F A n c N w0 (hr.fresh f0) hfit hn;have hu:=Xc N;(have hN:N.length=n:=by have:=hr.1;simpa using this);have k2:=b2.cell0;have HBT:=hd_ bt;have F0:=hd_ f0;(have da0:∀o,(w0.alloc o).cell? ⟨H+1,0,none⟩=some (.int .i64 0):=fun o=>by simpa using(HBT.out.alloc o).cell 0);(have da1:∀o,(w0.alloc o).cell? ⟨H+1,1,none⟩=some (.slice none 0 0):=fun o=>by simpa using(HBT.out.alloc o).cell 1);have dz0:∀o,(w0.alloc o).frozen? ⟨H+1,0,none⟩=false:=fun o=>(HBT.out.alloc o).frozen 0;have dz1:∀o,(w0.alloc o).frozen? ⟨H+1,1,none⟩=false:=fun o=>(HBT.out.alloc o).frozen 1
 have fin:∀o,Q0 w (((w0.alloc o).setCell ⟨H+1,0,none⟩ (.int .i64 0)).setCell ⟨H+1,1,none⟩ (.slice none 0 0)):=fun o =>
   (F0.out.alloc o).trans (Ve _ (H+1) _ _) (fun b hb h=>by omega)
 have FIN:=hd_ fin;have HW:=hd_ hw0;have HH:=hd_ hH;clear hw0 hH f0 b2 bt hr fin;by_cases hb:YH N/\0<QC N
 . have HK:Hid (Calls Tryz.prog 201 #[.slice A n c] w0 fun e w'=>e = .returned (.tuple #[.int .i64 N.sum,.int .i64 (QC N:Nat),.bool true])/\w0=w') :=
     hd_ (hal.mono fun e w' h=>⟨by have:=h.1;unfold Jb at this;rw [decide_eq_true hb,if_pos hb.1,if_pos hb.1]at this;exact this,h.2.symm⟩)
   (have hul:QC N<=n:=by omega)
   have hno2:lg<0\/9<lg\/(0<=lg/\lg<=9/\¬QC N<=2^lg.toNat):=by
     unfold Kr at hno;by_cases h1:lg<0
     . exact .inl h1
     by_cases h2:9<lg
     . exact .inr (.inl h2)
     exact .inr (.inr ⟨by omega,by omega,fun h=>hno ⟨hb.1,hb.2,by omega,by omega,h⟩⟩)
   clear hal hfit hN hu hb hno;generalize QC N=u at *;generalize N.sum=S at *;refine Q6 fun R hR=>?_;rcases hno2 with h|h|⟨h1,h2,h3⟩
   . go_enter Tryz.func170,Tryz.ntmps170
     go_wp2_with fail;simp only [<-HH.out,<-HW.out];go_wp2_with fail;refine HK.out.mono ?_;rintro e wx ⟨rfl,rfl⟩;go_wp2_with fail;refine bodyPost_ret (Q5 rfl _ _ (H+1) _ _ _ rfl (((HBT.out.alloc _).set_ 0 (.int .i64 0)).set_ 1 (.slice none 0 0)) Tryz.underlying29 rfl (by kernel_rfl)) rfl ?_;exact hR.out _ _ ⟨rfl,FIN.out _⟩
   . have h0:¬lg<0:=by omega
     go_enter Tryz.func170,Tryz.ntmps170;go_wp2_with fail;simp only [<-HH.out,<-HW.out];go_wp2_with fail;refine HK.out.mono ?_;rintro e wx ⟨rfl,rfl⟩;go_wp2_with fail;refine bodyPost_ret (Q5 rfl _ _ (H+1) _ _ _ rfl (((HBT.out.alloc _).set_ 0 (.int .i64 0)).set_ 1 (.slice none 0 0)) Tryz.underlying29 rfl (by kernel_rfl)) rfl ?_;exact hR.out _ _ ⟨rfl,FIN.out _⟩
   obtain⟨p,rfl⟩:∃p:Nat,lg=p:=⟨lg.toNat,by omega⟩
   have hpow:(2:Int)^p<=512:=by
     have:2^p<=2^9:=Nat.pow_le_pow_right (by omega) (by omega);(have h2:((2:Int)^p)=((2^p:Nat):Int):=by simp);omega
   have hpow0:(0:Int)<(2:Int)^p:=Int.pow_pos (by omega)
   have hlt:(2:Int)^p<u:=by
     (have h2:((2:Int)^p)=((2^p:Nat):Int):=by simp);rw [Int.toNat_natCast]at h3;omega
   clear h3;go_enter Tryz.func170,Tryz.ntmps170;go_wp2_with fail;simp only [<-HH.out,<-HW.out];go_wp2_with fail;refine HK.out.mono ?_;rintro e wx ⟨rfl,rfl⟩;go_wp2_with fail;refine bodyPost_ret (Q5 rfl _ _ (H+1) _ _ _ rfl (((HBT.out.alloc _).set_ 0 (.int .i64 0)).set_ 1 (.slice none 0 0)) Tryz.underlying29 rfl (by kernel_rfl)) rfl ?_;exact hR.out _ _ ⟨rfl,FIN.out _⟩
 have HK:Hid (Calls Tryz.prog 201 #[.slice A n c] w0 fun e w'=>(∃x y,e = .returned (.tuple #[.int .i64 x,.int .i64 y,.bool false]))/\w0=w') :=
   hd_ (hal.mono fun e w' h=>⟨by have:=h.1;unfold Jb at this;rw [decide_eq_false hb]at this;exact⟨_,_,this⟩,h.2.symm⟩)
 clear hal hfit hN hu hb hno;refine Q6 fun R hR=>?_;go_enter Tryz.func170,Tryz.ntmps170;go_wp2_with fail;simp only [<-HH.out,<-HW.out];go_wp2_with fail;refine HK.out.mono ?_;rintro e wx ⟨⟨x,y,rfl⟩,rfl⟩;go_wp2_with fail;refine bodyPost_ret (Q5 rfl _ _ (H+1) _ _ _ rfl (((HBT.out.alloc _).set_ 0 (.int .i64 0)).set_ 1 (.slice none 0 0)) Tryz.underlying29 rfl (by kernel_rfl)) rfl ?_;exact hR.out _ _ ⟨rfl,FIN.out _⟩
theorem Q7V (g:Nat) (B:Option Addr) (m d:Nat) (mo p lg:Int) (w:World) (hp:0<=p/\p<=2) (hmo:3<mo) :
   Calls Tryz.prog 57 #[.pointer (some ⟨g,0,none⟩),.int .i64 mo,.int .i64 p,.agg #[.int .i64 lg,.slice B m d]] w fun e w'=>e = .returned (.tuple #[.agg #[.int .i64 0,.slice none 0 0],.int .i64 2])/\Q0 w w':=by
 (have hm1:0<=mo:=by omega);(have hm2:4<=mo:=by omega);clear hmo;obtain⟨w0,hw0⟩:=nm_ ((w.alloc (.cells #[.int .i64 lg,.slice B m d] 29)).alloc (.cells #[.int .i64 0,.slice none 0 0] 29));obtain⟨H,hH⟩:=nm_ (w.heap.size);(have f0:Q0 w w0:=by rw [hw0];exact((Upd.refl _ _).alloc _).alloc _);(have bt:Blk w0 H 29 #[.int .i64 lg,.slice B m d]:=by rw [hw0];exact(Q1 hH _ _).alloc _);(have br:Blk w0 (H+1) 29 #[.int .i64 0,.slice none 0 0]:=by rw [hw0];exact Q1 (by simp [hH]) _ _);have HM:=hd_ (Jm p lg B m d w0 hp);have BR:=hd_ br;have F0:=hd_ f0;have HW:=hd_ hw0;have HH:=hd_ hH;have HWY:=hd_ (YO);obtain⟨t0,t1⟩:=(bt).cells2;clear bt br f0 hw0 hH hp;generalize Qj p=s at *;generalize Ql p=x at *;refine Q6 fun R hR=>?_;go_enter Tryz.func57,Tryz.ntmps57;go_wp2_with fail;simp only [<-HH.out,<-HW.out];go_wp2_with fail;refine HM.out.mono ?_;rintro e w1 ⟨rfl,f1⟩;obtain⟨w2,hw2⟩:=nm_ (w1.alloc (.cells #[.int .i64 p,.int .i64 s,.int .i64 x,.int .i64 lg,.slice B m d] 181));obtain⟨H1,hH1⟩:=nm_ (w1.heap.size);(have f12:Q0 w1 w2:=by rw [hw2];exact(Upd.refl _ _).alloc _);have r2:=BR.out.fresh (f1.trans' f12);(have c2:Blk w2 H1 181 #[.int .i64 p,.int .i64 s,.int .i64 x,.int .i64 lg,.slice B m d]:=by rw [hw2];exact Q1 hH1 _ _);have R2:=hd_ r2;have C2:=hd_ c2;have F2:=hd_ ((F0.out.trans' f1).trans' f12);have HW2:=hd_ hw2;have HH1:=hd_ hH1;clear f1 f12 r2 c2 hw2 hH1;go_wp2_with fail;simp only [<-HW2.out];refine(HWY.out _).mono ?_;rintro e w3 ⟨rfl,f3⟩;have r3:=R2.out.fresh f3;have p3:=C2.out.fresh f3;have c0:=r3.cell 0;have c1:=r3.cell 1;have z0:=r3.frozen 0;have z1:=r3.frozen 1;simp at c0 c1;have R3:=hd_ r3;have F3:=hd_ (F2.out.trans' f3);clear f3 r3 p3;go_wp2_with fail
 exact bodyPost_ret (Q5 rfl _ _ (H+1) _ _ _ rfl ((R3.out.set_ 0 (.int .i64 0)).set_ 1 (.slice none 0 0)) Tryz.underlying29 rfl (by kernel_rfl)) rfl
   (hR.out _ _ ⟨rfl,F3.out.trans (Y9 w3 (H+1) _ _) (fun b hb h=>by have:=HH.out;omega)⟩)
theorem Q7W (F G:Nat->Prop) (g:Nat) (bs:List Nat) (at_:Nat) (B:Option Addr) (m d:Nat) (p lg:Int) (N:List Int) (w:World) (hcu:Qk w F g bs at_) (hF:∀b,F b->b≠g) (hr:Rd w G B m (Q2 N)) (hfit:Fit N) (hm:(m:Int)<=1099511627776) (hp:0<=p/\p<=2) :
   Calls Tryz.prog 57 #[.pointer (some ⟨g,0,none⟩),.int .i64 0,.int .i64 p,.agg #[.int .i64 lg,.slice B m d]] w (Yu F g bs at_ (QR 0 p lg N bs at_).1 (QR 0 p lg N bs at_).2.1 (QR 0 p lg N bs at_).2.2.1 (QR 0 p lg N bs at_).2.2.2 w):=by
 obtain⟨w0,hw0⟩:=nm_ ((w.alloc (.cells #[.int .i64 lg,.slice B m d] 29)).alloc (.cells #[.int .i64 0,.slice none 0 0] 29));obtain⟨H,hH⟩:=nm_ (w.heap.size);(have f0:Q0 w w0:=by rw [hw0];exact((Upd.refl _ _).alloc _).alloc _);(have bt:Blk w0 H 29 #[.int .i64 lg,.slice B m d]:=by rw [hw0];exact(Q1 hH _ _).alloc _);(have br:Blk w0 (H+1) 29 #[.int .i64 0,.slice none 0 0]:=by rw [hw0];exact Q1 (by simp [hH]) _ _);have HM:=hd_ (Jm p lg B m d w0 hp);have BR:=hd_ br;have F0:=hd_ f0;have HW:=hd_ hw0;have HH:=hd_ hH;have HWY:=hd_ (YO);obtain⟨t0,t1⟩:=(bt).cells2;have HWK:=hd_ (fun W (h:Q0 w W)=>Qad (fun b=>F b/\b<w.heap.size) G g bs at_ B m d p lg N W (hcu.both.fresh h) (fun b hb=>hF b hb.1) (hr.fresh h) hfit hm hp);have HG:=hd_ hcu.lt;(have HGH:¬(H+1=g):=by have:=hcu.lt;omega);generalize QR 0 p lg N bs at_=dn at *;obtain⟨dx,dl,dN,dk⟩:=dn;simp only at HWK ⊢;clear bt br f0 hw0 hH hp hcu hF hr hfit hm;generalize Qj p=s at *;generalize Ql p=x at *;refine Q6 fun R hR=>?_;go_enter Tryz.func57,Tryz.ntmps57;go_wp2_with fail;simp only [<-HH.out,<-HW.out];go_wp2_with fail;refine HM.out.mono ?_;rintro e w1 ⟨rfl,f1⟩;obtain⟨w2,hw2⟩:=nm_ (w1.alloc (.cells #[.int .i64 p,.int .i64 s,.int .i64 x,.int .i64 lg,.slice B m d] 181));obtain⟨H1,hH1⟩:=nm_ (w1.heap.size);(have f12:Q0 w1 w2:=by rw [hw2];exact(Upd.refl _ _).alloc _);have r2:=BR.out.fresh (f1.trans' f12);(have c2:Blk w2 H1 181 #[.int .i64 p,.int .i64 s,.int .i64 x,.int .i64 lg,.slice B m d]:=by rw [hw2];exact Q1 hH1 _ _);have R2:=hd_ r2;have C2:=hd_ c2;have F2:=hd_ ((F0.out.trans' f1).trans' f12);have HW2:=hd_ hw2;have HH1:=hd_ hH1;clear f1 f12 r2 c2 hw2 hH1;go_wp2_with fail;simp only [<-HW2.out];refine(HWY.out _).mono ?_;rintro e w3 ⟨rfl,f3⟩;have r3:=R2.out.fresh f3;have p3:=C2.out.fresh f3;have F3:=hd_ (F2.out.trans' f3)
 have hS3:∀W,Q0 w3 W->(Q0 w3 W/\W.cell? ⟨H1,0,none⟩=some (.int .i64 p)/\W.cell? ⟨H1,1,none⟩=some (.int .i64 s)/\W.cell? ⟨H1,2,none⟩=some (.int .i64 x)/\W.cell? ⟨H1,3,none⟩=some (.int .i64 lg)/\W.cell? ⟨H1,4,none⟩=some (.slice B m d)):=by
   intro W hW;have b2:=p3.fresh hW;exact⟨hW,by simpa using b2.cell 0,by simpa using b2.cell 1,by simpa using b2.cell 2,by simpa using b2.cell 3,by simpa using b2.cell 4⟩
 have HSS:=hd_ hS3;have R3:=hd_ r3;(have hix:∀W,(Instr.index 188 (.agg #[.func (.func 138) #[] #[],.func (.func 140) #[] #[],.func (.func 143) #[] #[],.func (.func 144) #[] #[],.func (.func 145) #[] #[],.func (.func 147) #[] #[],.func (.func 149) #[] #[],.func (.func 150) #[] #[]]) (.int .i64 0)).run Tryz.prog W = .ok (.agg #[.func (.func 138) #[] #[],.func (.func 140) #[] #[]]) W:=fun _=>by kernel_rfl);(have hfl:∀W,(Instr.field 187 (.agg #[.func (.func 138) #[] #[],.func (.func 140) #[] #[]]) 0).run Tryz.prog W = .ok (.func (.func 138) #[] #[]) W:=fun _=>by kernel_rfl);simp only [<-HH1.out];clear f3 r3 p3 hS3;go_wp2_with fail;obtain⟨-,k0,k1,k2,k3,k4⟩:=HSS.out w3 (Upd.refl _ _)
 go_region_with
   (first
     | (go_at_call 89;refine(HWY.out _).mono ?_;rintro e wa ⟨rfl,fa⟩;have fax:Q0 w3 wa:=(by first|exact fa|exact Upd.trans' ((Upd.refl _ _).drew) fa);obtain⟨-,a0,a1,a2,a3,a4⟩:=HSS.out _ fax)
     | (go_at_call 138;refine(HWK.out _ (by first|exact F3.out.trans' fax|exact(F3.out.trans' fax).drew|exact(F3.out.trans' fax).drewN _)).mono ?_;rintro e w' ⟨u1,c1,A,n,c,rfl,r1⟩;have rx:Blk w' (H+1) 29 #[.int .i64 0,.slice none 0 0]:=(by first|exact(R3.out.fresh fax).upd u1 HGH|exact(R3.out.fresh fax).drew.upd u1 HGH);have b0:w'.cell? ⟨H+1,0,none⟩=some (.int .i64 0):=rx.cell 0;have b1:w'.cell? ⟨H+1,1,none⟩=some (.slice none 0 0):=rx.cell 1;have b2:=rx.frozen 0;have b3:=rx.frozen 1;have RX:=hd_ rx;clear rx))
 all_goals
   have U1:=hd_ u1;have C1:=hd_ c1;have RR:=hd_ r1;clear u1 c1 r1;go_wp2_with fail;refine bodyPost_ret (Q5 rfl _ _ (H+1) _ _ _ rfl ((RX.out.set_ 0 (.int .i64 dl)).set_ 1 (.slice A n c)) Tryz.underlying29 rfl (by kernel_rfl)) rfl ?_
   first
     | exact hR.out _ _ (Jr (F3.out.trans' fax) (by have:=HH.out;omega) (R3.out.fresh fax).lt HG.out U1.out C1.out RR.out rfl)
     | exact hR.out _ _ (Jr (F3.out.trans' fax).drew (by have:=HH.out;omega) (R3.out.fresh fax).lt HG.out U1.out C1.out RR.out rfl)
theorem Q7X (F G:Nat->Prop) (g:Nat) (bs:List Nat) (at_:Nat) (B:Option Addr) (m d:Nat) (p lg:Int) (N:List Int) (w:World) (hcu:Qk w F g bs at_) (hF:∀b,F b->b≠g) (hr:Rd w G B m (Q2 N)) (hfit:Fit N) (hm:(m:Int)<=1099511627776) (hp:0<=p/\p<=2) :
   Calls Tryz.prog 57 #[.pointer (some ⟨g,0,none⟩),.int .i64 1,.int .i64 p,.agg #[.int .i64 lg,.slice B m d]] w (Yu F g bs at_ (QR 1 p lg N bs at_).1 (QR 1 p lg N bs at_).2.1 (QR 1 p lg N bs at_).2.2.1 (QR 1 p lg N bs at_).2.2.2 w):=by
 obtain⟨w0,hw0⟩:=nm_ ((w.alloc (.cells #[.int .i64 lg,.slice B m d] 29)).alloc (.cells #[.int .i64 0,.slice none 0 0] 29));obtain⟨H,hH⟩:=nm_ (w.heap.size);(have f0:Q0 w w0:=by rw [hw0];exact((Upd.refl _ _).alloc _).alloc _);(have bt:Blk w0 H 29 #[.int .i64 lg,.slice B m d]:=by rw [hw0];exact(Q1 hH _ _).alloc _);(have br:Blk w0 (H+1) 29 #[.int .i64 0,.slice none 0 0]:=by rw [hw0];exact Q1 (by simp [hH]) _ _);have HM:=hd_ (Jm p lg B m d w0 hp);have BR:=hd_ br;have F0:=hd_ f0;have HW:=hd_ hw0;have HH:=hd_ hH;have HWY:=hd_ (YO);obtain⟨t0,t1⟩:=(bt).cells2;have HWK:=hd_ (fun W (h:Q0 w W)=>Qae (fun b=>F b/\b<w.heap.size) G g bs at_ B m d p lg N W (hcu.both.fresh h) (fun b hb=>hF b hb.1) (hr.fresh h) hfit hm hp);have HG:=hd_ hcu.lt;(have HGH:¬(H+1=g):=by have:=hcu.lt;omega);generalize QR 1 p lg N bs at_=dn at *;obtain⟨dx,dl,dN,dk⟩:=dn;simp only at HWK ⊢;clear bt br f0 hw0 hH hp hcu hF hr hfit hm;generalize Qj p=s at *;generalize Ql p=x at *;refine Q6 fun R hR=>?_;go_enter Tryz.func57,Tryz.ntmps57;go_wp2_with fail;simp only [<-HH.out,<-HW.out];go_wp2_with fail;refine HM.out.mono ?_;rintro e w1 ⟨rfl,f1⟩;obtain⟨w2,hw2⟩:=nm_ (w1.alloc (.cells #[.int .i64 p,.int .i64 s,.int .i64 x,.int .i64 lg,.slice B m d] 181));obtain⟨H1,hH1⟩:=nm_ (w1.heap.size);(have f12:Q0 w1 w2:=by rw [hw2];exact(Upd.refl _ _).alloc _);have r2:=BR.out.fresh (f1.trans' f12);(have c2:Blk w2 H1 181 #[.int .i64 p,.int .i64 s,.int .i64 x,.int .i64 lg,.slice B m d]:=by rw [hw2];exact Q1 hH1 _ _);have R2:=hd_ r2;have C2:=hd_ c2;have F2:=hd_ ((F0.out.trans' f1).trans' f12);have HW2:=hd_ hw2;have HH1:=hd_ hH1;clear f1 f12 r2 c2 hw2 hH1;go_wp2_with fail;simp only [<-HW2.out];refine(HWY.out _).mono ?_;rintro e w3 ⟨rfl,f3⟩;have r3:=R2.out.fresh f3;have p3:=C2.out.fresh f3;have F3:=hd_ (F2.out.trans' f3)
 have hS3:∀W,Q0 w3 W->(Q0 w3 W/\W.cell? ⟨H1,0,none⟩=some (.int .i64 p)/\W.cell? ⟨H1,1,none⟩=some (.int .i64 s)/\W.cell? ⟨H1,2,none⟩=some (.int .i64 x)/\W.cell? ⟨H1,3,none⟩=some (.int .i64 lg)/\W.cell? ⟨H1,4,none⟩=some (.slice B m d)):=by
   intro W hW;have b2:=p3.fresh hW;exact⟨hW,by simpa using b2.cell 0,by simpa using b2.cell 1,by simpa using b2.cell 2,by simpa using b2.cell 3,by simpa using b2.cell 4⟩
 have HSS:=hd_ hS3;have R3:=hd_ r3;(have hix:∀W,(Instr.index 188 (.agg #[.func (.func 138) #[] #[],.func (.func 140) #[] #[],.func (.func 143) #[] #[],.func (.func 144) #[] #[],.func (.func 145) #[] #[],.func (.func 147) #[] #[],.func (.func 149) #[] #[],.func (.func 150) #[] #[]]) (.int .i64 1)).run Tryz.prog W = .ok (.agg #[.func (.func 143) #[] #[],.func (.func 144) #[] #[]]) W:=fun _=>by kernel_rfl);(have hfl:∀W,(Instr.field 187 (.agg #[.func (.func 143) #[] #[],.func (.func 144) #[] #[]]) 0).run Tryz.prog W = .ok (.func (.func 143) #[] #[]) W:=fun _=>by kernel_rfl);simp only [<-HH1.out];clear f3 r3 p3 hS3;go_wp2_with fail;obtain⟨-,k0,k1,k2,k3,k4⟩:=HSS.out w3 (Upd.refl _ _)
 go_region_with
   (first
     | (go_at_call 89;refine(HWY.out _).mono ?_;rintro e wa ⟨rfl,fa⟩;have fax:Q0 w3 wa:=(by first|exact fa|exact Upd.trans' ((Upd.refl _ _).drew) fa);obtain⟨-,a0,a1,a2,a3,a4⟩:=HSS.out _ fax)
     | (go_at_call 143;refine(HWK.out _ (by first|exact F3.out.trans' fax|exact(F3.out.trans' fax).drew|exact(F3.out.trans' fax).drewN _)).mono ?_;rintro e w' ⟨u1,c1,A,n,c,rfl,r1⟩;have rx:Blk w' (H+1) 29 #[.int .i64 0,.slice none 0 0]:=(by first|exact(R3.out.fresh fax).upd u1 HGH|exact(R3.out.fresh fax).drew.upd u1 HGH);have b0:w'.cell? ⟨H+1,0,none⟩=some (.int .i64 0):=rx.cell 0;have b1:w'.cell? ⟨H+1,1,none⟩=some (.slice none 0 0):=rx.cell 1;have b2:=rx.frozen 0;have b3:=rx.frozen 1;have RX:=hd_ rx;clear rx))
 all_goals
   have U1:=hd_ u1;have C1:=hd_ c1;have RR:=hd_ r1;clear u1 c1 r1;go_wp2_with fail;refine bodyPost_ret (Q5 rfl _ _ (H+1) _ _ _ rfl ((RX.out.set_ 0 (.int .i64 dl)).set_ 1 (.slice A n c)) Tryz.underlying29 rfl (by kernel_rfl)) rfl ?_
   first
     | exact hR.out _ _ (Jr (F3.out.trans' fax) (by have:=HH.out;omega) (R3.out.fresh fax).lt HG.out U1.out C1.out RR.out rfl)
     | exact hR.out _ _ (Jr (F3.out.trans' fax).drew (by have:=HH.out;omega) (R3.out.fresh fax).lt HG.out U1.out C1.out RR.out rfl)
theorem Q7Y (F G:Nat->Prop) (g:Nat) (bs:List Nat) (at_:Nat) (B:Option Addr) (m d:Nat) (p lg:Int) (N:List Int) (w:World) (hcu:Qk w F g bs at_) (hF:∀b,F b->b≠g) (hr:Rd w G B m (Q2 N)) (hfit:Fit N) (hm:(m:Int)<=1099511627776) (hp:0<=p/\p<=2) :
   Calls Tryz.prog 57 #[.pointer (some ⟨g,0,none⟩),.int .i64 2,.int .i64 p,.agg #[.int .i64 lg,.slice B m d]] w (Yu F g bs at_ (QR 2 p lg N bs at_).1 (QR 2 p lg N bs at_).2.1 (QR 2 p lg N bs at_).2.2.1 (QR 2 p lg N bs at_).2.2.2 w):=by
 obtain⟨w0,hw0⟩:=nm_ ((w.alloc (.cells #[.int .i64 lg,.slice B m d] 29)).alloc (.cells #[.int .i64 0,.slice none 0 0] 29));obtain⟨H,hH⟩:=nm_ (w.heap.size);(have f0:Q0 w w0:=by rw [hw0];exact((Upd.refl _ _).alloc _).alloc _);(have bt:Blk w0 H 29 #[.int .i64 lg,.slice B m d]:=by rw [hw0];exact(Q1 hH _ _).alloc _);(have br:Blk w0 (H+1) 29 #[.int .i64 0,.slice none 0 0]:=by rw [hw0];exact Q1 (by simp [hH]) _ _);have HM:=hd_ (Jm p lg B m d w0 hp);have BR:=hd_ br;have F0:=hd_ f0;have HW:=hd_ hw0;have HH:=hd_ hH;have HWY:=hd_ (YO);obtain⟨t0,t1⟩:=(bt).cells2;have HWK:=hd_ (fun W (h:Q0 w W)=>Qaf (fun b=>F b/\b<w.heap.size) G g bs at_ B m d p lg N W (hcu.both.fresh h) (fun b hb=>hF b hb.1) (hr.fresh h) hfit hm hp);have HG:=hd_ hcu.lt;(have HGH:¬(H+1=g):=by have:=hcu.lt;omega);generalize QR 2 p lg N bs at_=dn at *;obtain⟨dx,dl,dN,dk⟩:=dn;simp only at HWK ⊢;clear bt br f0 hw0 hH hp hcu hF hr hfit hm;generalize Qj p=s at *;generalize Ql p=x at *;refine Q6 fun R hR=>?_;go_enter Tryz.func57,Tryz.ntmps57;go_wp2_with fail;simp only [<-HH.out,<-HW.out];go_wp2_with fail;refine HM.out.mono ?_;rintro e w1 ⟨rfl,f1⟩;obtain⟨w2,hw2⟩:=nm_ (w1.alloc (.cells #[.int .i64 p,.int .i64 s,.int .i64 x,.int .i64 lg,.slice B m d] 181));obtain⟨H1,hH1⟩:=nm_ (w1.heap.size);(have f12:Q0 w1 w2:=by rw [hw2];exact(Upd.refl _ _).alloc _);have r2:=BR.out.fresh (f1.trans' f12);(have c2:Blk w2 H1 181 #[.int .i64 p,.int .i64 s,.int .i64 x,.int .i64 lg,.slice B m d]:=by rw [hw2];exact Q1 hH1 _ _);have R2:=hd_ r2;have C2:=hd_ c2;have F2:=hd_ ((F0.out.trans' f1).trans' f12);have HW2:=hd_ hw2;have HH1:=hd_ hH1;clear f1 f12 r2 c2 hw2 hH1;go_wp2_with fail;simp only [<-HW2.out];refine(HWY.out _).mono ?_;rintro e w3 ⟨rfl,f3⟩;have r3:=R2.out.fresh f3;have p3:=C2.out.fresh f3;have F3:=hd_ (F2.out.trans' f3)
 have hS3:∀W,Q0 w3 W->(Q0 w3 W/\W.cell? ⟨H1,0,none⟩=some (.int .i64 p)/\W.cell? ⟨H1,1,none⟩=some (.int .i64 s)/\W.cell? ⟨H1,2,none⟩=some (.int .i64 x)/\W.cell? ⟨H1,3,none⟩=some (.int .i64 lg)/\W.cell? ⟨H1,4,none⟩=some (.slice B m d)):=by
   intro W hW;have b2:=p3.fresh hW;exact⟨hW,by simpa using b2.cell 0,by simpa using b2.cell 1,by simpa using b2.cell 2,by simpa using b2.cell 3,by simpa using b2.cell 4⟩
 have HSS:=hd_ hS3;have R3:=hd_ r3;(have hix:∀W,(Instr.index 188 (.agg #[.func (.func 138) #[] #[],.func (.func 140) #[] #[],.func (.func 143) #[] #[],.func (.func 144) #[] #[],.func (.func 145) #[] #[],.func (.func 147) #[] #[],.func (.func 149) #[] #[],.func (.func 150) #[] #[]]) (.int .i64 2)).run Tryz.prog W = .ok (.agg #[.func (.func 145) #[] #[],.func (.func 147) #[] #[]]) W:=fun _=>by kernel_rfl);(have hfl:∀W,(Instr.field 187 (.agg #[.func (.func 145) #[] #[],.func (.func 147) #[] #[]]) 0).run Tryz.prog W = .ok (.func (.func 145) #[] #[]) W:=fun _=>by kernel_rfl);simp only [<-HH1.out];clear f3 r3 p3 hS3;go_wp2_with fail;obtain⟨-,k0,k1,k2,k3,k4⟩:=HSS.out w3 (Upd.refl _ _)
 go_region_with
   (first
     | (go_at_call 89;refine(HWY.out _).mono ?_;rintro e wa ⟨rfl,fa⟩;have fax:Q0 w3 wa:=(by first|exact fa|exact Upd.trans' ((Upd.refl _ _).drew) fa);obtain⟨-,a0,a1,a2,a3,a4⟩:=HSS.out _ fax)
     | (go_at_call 145;refine(HWK.out _ (by first|exact F3.out.trans' fax|exact(F3.out.trans' fax).drew|exact(F3.out.trans' fax).drewN _)).mono ?_;rintro e w' ⟨u1,c1,A,n,c,rfl,r1⟩;have rx:Blk w' (H+1) 29 #[.int .i64 0,.slice none 0 0]:=(by first|exact(R3.out.fresh fax).upd u1 HGH|exact(R3.out.fresh fax).drew.upd u1 HGH);have b0:w'.cell? ⟨H+1,0,none⟩=some (.int .i64 0):=rx.cell 0;have b1:w'.cell? ⟨H+1,1,none⟩=some (.slice none 0 0):=rx.cell 1;have b2:=rx.frozen 0;have b3:=rx.frozen 1;have RX:=hd_ rx;clear rx))
 all_goals
   have U1:=hd_ u1;have C1:=hd_ c1;have RR:=hd_ r1;clear u1 c1 r1;go_wp2_with fail;refine bodyPost_ret (Q5 rfl _ _ (H+1) _ _ _ rfl ((RX.out.set_ 0 (.int .i64 dl)).set_ 1 (.slice A n c)) Tryz.underlying29 rfl (by kernel_rfl)) rfl ?_
   first
     | exact hR.out _ _ (Jr (F3.out.trans' fax) (by have:=HH.out;omega) (R3.out.fresh fax).lt HG.out U1.out C1.out RR.out rfl)
     | exact hR.out _ _ (Jr (F3.out.trans' fax).drew (by have:=HH.out;omega) (R3.out.fresh fax).lt HG.out U1.out C1.out RR.out rfl)
theorem Q7Z (F G:Nat->Prop) (g:Nat) (bs:List Nat) (at_:Nat) (B:Option Addr) (m d:Nat) (p lg:Int) (N:List Int) (w:World) (hcu:Qk w F g bs at_) (hF:∀b,F b->b≠g) (hr:Rd w G B m (Q2 N)) (hfit:Fit N) (hm:(m:Int)<=1099511627776) (hp:0<=p/\p<=2) :
   Calls Tryz.prog 57 #[.pointer (some ⟨g,0,none⟩),.int .i64 3,.int .i64 p,.agg #[.int .i64 lg,.slice B m d]] w (Yu F g bs at_ (QR 3 p lg N bs at_).1 (QR 3 p lg N bs at_).2.1 (QR 3 p lg N bs at_).2.2.1 (QR 3 p lg N bs at_).2.2.2 w):=by
 obtain⟨w0,hw0⟩:=nm_ ((w.alloc (.cells #[.int .i64 lg,.slice B m d] 29)).alloc (.cells #[.int .i64 0,.slice none 0 0] 29));obtain⟨H,hH⟩:=nm_ (w.heap.size);(have f0:Q0 w w0:=by rw [hw0];exact((Upd.refl _ _).alloc _).alloc _);(have bt:Blk w0 H 29 #[.int .i64 lg,.slice B m d]:=by rw [hw0];exact(Q1 hH _ _).alloc _);(have br:Blk w0 (H+1) 29 #[.int .i64 0,.slice none 0 0]:=by rw [hw0];exact Q1 (by simp [hH]) _ _);have HM:=hd_ (Jm p lg B m d w0 hp);have BR:=hd_ br;have F0:=hd_ f0;have HW:=hd_ hw0;have HH:=hd_ hH;have HWY:=hd_ (YO);obtain⟨t0,t1⟩:=(bt).cells2;have HWK:=hd_ (fun W (h:Q0 w W)=>Qag (fun b=>F b/\b<w.heap.size) G g bs at_ B m d p lg N W (hcu.both.fresh h) (fun b hb=>hF b hb.1) (hr.fresh h) hfit hm hp);have HG:=hd_ hcu.lt;(have HGH:¬(H+1=g):=by have:=hcu.lt;omega);generalize QR 3 p lg N bs at_=dn at *;obtain⟨dx,dl,dN,dk⟩:=dn;simp only at HWK ⊢;clear bt br f0 hw0 hH hp hcu hF hr hfit hm;generalize Qj p=s at *;generalize Ql p=x at *;refine Q6 fun R hR=>?_;go_enter Tryz.func57,Tryz.ntmps57;go_wp2_with fail;simp only [<-HH.out,<-HW.out];go_wp2_with fail;refine HM.out.mono ?_;rintro e w1 ⟨rfl,f1⟩;obtain⟨w2,hw2⟩:=nm_ (w1.alloc (.cells #[.int .i64 p,.int .i64 s,.int .i64 x,.int .i64 lg,.slice B m d] 181));obtain⟨H1,hH1⟩:=nm_ (w1.heap.size);(have f12:Q0 w1 w2:=by rw [hw2];exact(Upd.refl _ _).alloc _);have r2:=BR.out.fresh (f1.trans' f12);(have c2:Blk w2 H1 181 #[.int .i64 p,.int .i64 s,.int .i64 x,.int .i64 lg,.slice B m d]:=by rw [hw2];exact Q1 hH1 _ _);have R2:=hd_ r2;have C2:=hd_ c2;have F2:=hd_ ((F0.out.trans' f1).trans' f12);have HW2:=hd_ hw2;have HH1:=hd_ hH1;clear f1 f12 r2 c2 hw2 hH1;go_wp2_with fail;simp only [<-HW2.out];refine(HWY.out _).mono ?_;rintro e w3 ⟨rfl,f3⟩;have r3:=R2.out.fresh f3;have p3:=C2.out.fresh f3;have F3:=hd_ (F2.out.trans' f3)
 have hS3:∀W,Q0 w3 W->(Q0 w3 W/\W.cell? ⟨H1,0,none⟩=some (.int .i64 p)/\W.cell? ⟨H1,1,none⟩=some (.int .i64 s)/\W.cell? ⟨H1,2,none⟩=some (.int .i64 x)/\W.cell? ⟨H1,3,none⟩=some (.int .i64 lg)/\W.cell? ⟨H1,4,none⟩=some (.slice B m d)):=by
   intro W hW;have b2:=p3.fresh hW;exact⟨hW,by simpa using b2.cell 0,by simpa using b2.cell 1,by simpa using b2.cell 2,by simpa using b2.cell 3,by simpa using b2.cell 4⟩
 have HSS:=hd_ hS3;have R3:=hd_ r3;(have hix:∀W,(Instr.index 188 (.agg #[.func (.func 138) #[] #[],.func (.func 140) #[] #[],.func (.func 143) #[] #[],.func (.func 144) #[] #[],.func (.func 145) #[] #[],.func (.func 147) #[] #[],.func (.func 149) #[] #[],.func (.func 150) #[] #[]]) (.int .i64 3)).run Tryz.prog W = .ok (.agg #[.func (.func 149) #[] #[],.func (.func 150) #[] #[]]) W:=fun _=>by kernel_rfl);(have hfl:∀W,(Instr.field 187 (.agg #[.func (.func 149) #[] #[],.func (.func 150) #[] #[]]) 0).run Tryz.prog W = .ok (.func (.func 149) #[] #[]) W:=fun _=>by kernel_rfl);simp only [<-HH1.out];clear f3 r3 p3 hS3;go_wp2_with fail;obtain⟨-,k0,k1,k2,k3,k4⟩:=HSS.out w3 (Upd.refl _ _)
 go_region_with
   (first
     | (go_at_call 89;refine(HWY.out _).mono ?_;rintro e wa ⟨rfl,fa⟩;have fax:Q0 w3 wa:=(by first|exact fa|exact Upd.trans' ((Upd.refl _ _).drew) fa);obtain⟨-,a0,a1,a2,a3,a4⟩:=HSS.out _ fax)
     | (go_at_call 149;refine(HWK.out _ (by first|exact F3.out.trans' fax|exact(F3.out.trans' fax).drew|exact(F3.out.trans' fax).drewN _)).mono ?_;rintro e w' ⟨u1,c1,A,n,c,rfl,r1⟩;have rx:Blk w' (H+1) 29 #[.int .i64 0,.slice none 0 0]:=(by first|exact(R3.out.fresh fax).upd u1 HGH|exact(R3.out.fresh fax).drew.upd u1 HGH);have b0:w'.cell? ⟨H+1,0,none⟩=some (.int .i64 0):=rx.cell 0;have b1:w'.cell? ⟨H+1,1,none⟩=some (.slice none 0 0):=rx.cell 1;have b2:=rx.frozen 0;have b3:=rx.frozen 1;have RX:=hd_ rx;clear rx))
 all_goals
   have U1:=hd_ u1;have C1:=hd_ c1;have RR:=hd_ r1;clear u1 c1 r1;go_wp2_with fail;refine bodyPost_ret (Q5 rfl _ _ (H+1) _ _ _ rfl ((RX.out.set_ 0 (.int .i64 dl)).set_ 1 (.slice A n c)) Tryz.underlying29 rfl (by kernel_rfl)) rfl ?_
   first
     | exact hR.out _ _ (Jr (F3.out.trans' fax) (by have:=HH.out;omega) (R3.out.fresh fax).lt HG.out U1.out C1.out RR.out rfl)
     | exact hR.out _ _ (Jr (F3.out.trans' fax).drew (by have:=HH.out;omega) (R3.out.fresh fax).lt HG.out U1.out C1.out RR.out rfl)
theorem Q13 (F G:Nat->Prop) (g:Nat) (bs:List Nat) (at_:Nat) (B:Option Addr) (m d:Nat) (mo p lg:Int) (N:List Int) (w:World) (hcu:Qk w F g bs at_) (hF:∀b,F b->b≠g) (hr:Rd w G B m (Q2 N)) (hfit:Fit N) (hm:(m:Int)<=1099511627776) :
   Calls Tryz.prog 57 #[.pointer (some ⟨g,0,none⟩),.int .i64 mo,.int .i64 p,.agg #[.int .i64 lg,.slice B m d]] w
     (Yu F g bs at_ (YI mo p lg N bs at_).1 (YI mo p lg N bs at_).2.1 (YI mo p lg N bs at_).2.2.1 (YI mo p lg N bs at_).2.2.2 w):=by
 by_cases hp:p<0\/2<p
 . have h:YI mo p lg N bs at_=(2,0,[],0):=if_pos (by omega)
   rw [h];exact(Q6f g B m d mo p lg w hp).mono fun e w' h=>Yu.no hcu h
 (have hp':0<=p/\p<=2:=by omega);by_cases h0:mo<0
 . have h:YI mo p lg N bs at_=(2,0,[],0):=if_pos (by omega)
   rw [h];exact(Q7T g B m d mo p lg w hp' h0).mono fun e w' h=>Yu.no hcu h
 by_cases h3:3<mo
 . have h:YI mo p lg N bs at_=(2,0,[],0):=if_pos (by omega)
   rw [h];exact(Q7V g B m d mo p lg w hp' h3).mono fun e w' h=>Yu.no hcu h
 (have hn:¬(p<0\/2<p\/mo<0\/3<mo):=by omega);(have h:YI mo p lg N bs at_=QR mo p lg N bs at_:=by rw [YI,if_neg hn]);rw [h];(have:mo=0\/mo=1\/mo=2\/mo=3:=by omega);rcases this with rfl|rfl|rfl|rfl
 . exact Q7W F G g bs at_ B m d p lg N w hcu hF hr hfit hm hp'
 . exact Q7X F G g bs at_ B m d p lg N w hcu hF hr hfit hm hp'
 . exact Q7Y F G g bs at_ B m d p lg N w hcu hF hr hfit hm hp'
 exact Q7Z F G g bs at_ B m d p lg N w hcu hF hr hfit hm hp'
theorem Box.ten {w:World} {b:Nat} {t:TypeId} (h:Box w b t 10):∃v0 v1 v2 v3 v4 v5 v6 v7 v8 v9,Blk w b t #[v0,v1,v2,v3,v4,v5,v6,v7,v8,v9]:=by
 obtain⟨⟨cs⟩,h1,h2⟩:=h
 match cs,h1 with
 | [v0,v1,v2,v3,v4,v5,v6,v7,v8,v9],_=>exact⟨v0,v1,v2,v3,v4,v5,v6,v7,v8,v9,h2⟩
theorem KZ (F G:Nat->Prop) (D A B C A1 B1 C1:Option Addr) (h i n c m d k e n1 c1 m1 d1 k1 e1:Nat) (x y z r0 r1 r2 x' y' z' q0 q1 q2:Int) (T N1 N2 N3:List Int) (w:World)
   (hT:Rd w F D h (Q2 T)) (h1:Rd w G A n (Q2 N1)) (h2:Rd w G B m (Q2 N2)) (h3:Rd w G C k (Q2 N3)) (hT':h<=2^40) (h1':n<=2^40) (h2':m<=2^40) (h3':k<=2^40) :
   Calls Tryz.prog 35 #[.agg #[.slice D h i,.int .i64 x',.slice A1 n1 c1,.int .i64 y',.slice B1 m1 d1,.int .i64 z',.slice C1 k1 e1,.int .i64 q0,.int .i64 q1,.int .i64 q2],.agg #[.int .i64 x,.slice A n c,.int .i64 y,.slice B m d,.int .i64 z,.slice C k e],.agg #[.int .i64 r0,.int .i64 r1,.int .i64 r2]] w fun e' w'=>∃D' i' A' c' B' d' C' e2,
     e' = .returned (.agg #[.slice D' h i',.int .i64 x,.slice A' n c',.int .i64 y,.slice B' m d',.int .i64 z,.slice C' k e2,.int .i64 r0,.int .i64 r1,.int .i64 r2])/\RdU w' (fun b=>w.heap.size<=b) D' h (Q2 T)/\RdU w' (fun b=>w.heap.size<=b) A' n (Q2 N1)/\RdU w' (fun b=>w.heap.size<=b) B' m (Q2 N2)/\RdU w' (fun b=>w.heap.size<=b) C' k (Q2 N3)/\Q0 w w':=by
 obtain⟨w0,hw0⟩:=nm_ ((((w.alloc (.cells #[.slice D h i,.int .i64 x',.slice A1 n1 c1,.int .i64 y',.slice B1 m1 d1,.int .i64 z',.slice C1 k1 e1,.int .i64 q0,.int .i64 q1,.int .i64 q2] 32)).alloc (.cells #[.int .i64 x,.slice A n c,.int .i64 y,.slice B m d,.int .i64 z,.slice C k e] 69)).alloc (.cells #[.int .i64 r0,.int .i64 r1,.int .i64 r2] 30)).alloc (.cells #[.slice none 0 0,.int .i64 0,.slice none 0 0,.int .i64 0,.slice none 0 0,.int .i64 0,.slice none 0 0,.int .i64 0,.int .i64 0,.int .i64 0] 32));obtain⟨H,hH⟩:=nm_ (w.heap.size);(have f0:Q0 w w0:=by rw [hw0];exact((((Upd.refl _ _).alloc _).alloc _).alloc _).alloc _);(have bc:Blk w0 H 32 #[.slice D h i,.int .i64 x',.slice A1 n1 c1,.int .i64 y',.slice B1 m1 d1,.int .i64 z',.slice C1 k1 e1,.int .i64 q0,.int .i64 q1,.int .i64 q2]:=by rw [hw0];exact(((Q1 hH _ _).alloc _).alloc _).alloc _);(have bt:Blk w0 (H+1) 69 #[.int .i64 x,.slice A n c,.int .i64 y,.slice B m d,.int .i64 z,.slice C k e]:=by rw [hw0];exact((Q1 (by simp [hH]) _ _).alloc _).alloc _);(have br:Blk w0 (H+2) 30 #[.int .i64 r0,.int .i64 r1,.int .i64 r2]:=by rw [hw0];exact(Q1 (by simp [hH]) _ _).alloc _);(have bo:Blk w0 (H+3) 32 #[.slice none 0 0,.int .i64 0,.slice none 0 0,.int .i64 0,.slice none 0 0,.int .i64 0,.slice none 0 0,.int .i64 0,.int .i64 0,.int .i64 0]:=by rw [hw0];exact Q1 (by simp [hH]) _ _)
 have hk:∀W,(Upd (fun b=>b=H+3) w0 W/\Box W (H+3) 32 10)->(Upd (fun b=>b=H+3) w0 W/\Box W (H+3) 32 10/\W.cell? ⟨H,0,none⟩=some (.slice D h i)/\W.cell? ⟨H+1,0,none⟩=some (.int .i64 x)/\W.cell? ⟨H+1,1,none⟩=some (.slice A n c)/\W.cell? ⟨H+1,2,none⟩=some (.int .i64 y)/\W.cell? ⟨H+1,3,none⟩=some (.slice B m d)/\W.cell? ⟨H+1,4,none⟩=some (.int .i64 z)/\W.cell? ⟨H+1,5,none⟩=some (.slice C k e)/\W.cell? ⟨H+2,0,none⟩=some (.int .i64 r0)/\W.cell? ⟨H+2,1,none⟩=some (.int .i64 r1)/\W.cell? ⟨H+2,2,none⟩=some (.int .i64 r2)):=fun W h=>by
   have b1:=bc.upd h.1 (by omega);have b2:=bt.upd h.1 (by omega);have b3:=br.upd h.1 (by omega);exact⟨h.1,h.2,by simpa using b1.cell 0,by simpa using b2.cell 0,by simpa using b2.cell 1,by simpa using b2.cell 2,by simpa using b2.cell 3,by simpa using b2.cell 4,by simpa using b2.cell 5,by simpa using b3.cell 0,by simpa using b3.cell 1,by simpa using b3.cell 2⟩
 have HS0:=hd_ (hk w0.drew ⟨(Upd.refl _ _).drew,_,rfl,bo.drew⟩);have HSC:=hd_ (fun W W' (h:Upd (fun b=>b=H+3) w0 W/\Box W (H+3) 32 10/\W.cell? ⟨H,0,none⟩=some (.slice D h i)/\W.cell? ⟨H+1,0,none⟩=some (.int .i64 x)/\W.cell? ⟨H+1,1,none⟩=some (.slice A n c)/\W.cell? ⟨H+1,2,none⟩=some (.int .i64 y)/\W.cell? ⟨H+1,3,none⟩=some (.slice B m d)/\W.cell? ⟨H+1,4,none⟩=some (.int .i64 z)/\W.cell? ⟨H+1,5,none⟩=some (.slice C k e)/\W.cell? ⟨H+2,0,none⟩=some (.int .i64 r0)/\W.cell? ⟨H+2,1,none⟩=some (.int .i64 r1)/\W.cell? ⟨H+2,2,none⟩=some (.int .i64 r2)) (f:Q0 W W')=>hk W' ⟨h.1.trans' (f.mono fun _ _ h=>h.elim),h.2.1.fresh f⟩);have HSW:=hd_ (fun W x0 x1 x2 x3 x4 x5 x6 x7 x8 x9 (h:Upd (fun b=>b=H+3) w0 W/\Box W (H+3) 32 10/\W.cell? ⟨H,0,none⟩=some (.slice D h i)/\W.cell? ⟨H+1,0,none⟩=some (.int .i64 x)/\W.cell? ⟨H+1,1,none⟩=some (.slice A n c)/\W.cell? ⟨H+1,2,none⟩=some (.int .i64 y)/\W.cell? ⟨H+1,3,none⟩=some (.slice B m d)/\W.cell? ⟨H+1,4,none⟩=some (.int .i64 z)/\W.cell? ⟨H+1,5,none⟩=some (.slice C k e)/\W.cell? ⟨H+2,0,none⟩=some (.int .i64 r0)/\W.cell? ⟨H+2,1,none⟩=some (.int .i64 r1)/\W.cell? ⟨H+2,2,none⟩=some (.int .i64 r2))=>hk ((((((((((W.setCell ⟨H+3,0,none⟩ x0).setCell ⟨H+3,1,none⟩ x1).setCell ⟨H+3,2,none⟩ x2).setCell ⟨H+3,3,none⟩ x3).setCell ⟨H+3,4,none⟩ x4).setCell ⟨H+3,5,none⟩ x5).setCell ⟨H+3,6,none⟩ x6).setCell ⟨H+3,7,none⟩ x7).setCell ⟨H+3,8,none⟩ x8).setCell ⟨H+3,9,none⟩ x9) ⟨((((((((((h.1.setCell (p:=⟨H+3,0,none⟩) (fun _=>rfl) _).setCell (p:=⟨H+3,1,none⟩) (fun _=>rfl) _).setCell (p:=⟨H+3,2,none⟩) (fun _=>rfl) _).setCell (p:=⟨H+3,3,none⟩) (fun _=>rfl) _).setCell (p:=⟨H+3,4,none⟩) (fun _=>rfl) _).setCell (p:=⟨H+3,5,none⟩) (fun _=>rfl) _).setCell (p:=⟨H+3,6,none⟩) (fun _=>rfl) _).setCell (p:=⟨H+3,7,none⟩) (fun _=>rfl) _).setCell (p:=⟨H+3,8,none⟩) (fun _=>rfl) _).setCell (p:=⟨H+3,9,none⟩) (fun _=>rfl) _),((((((((((h.2.1.set_ 0 x0).set_ 1 x1).set_ 2 x2).set_ 3 x3).set_ 4 x4).set_ 5 x5).set_ 6 x6).set_ 7 x7).set_ 8 x8).set_ 9 x9)⟩)
 have HCL:=hd_ (fun W (h:Upd (fun b=>b=H+3) w0 W/\Box W (H+3) 32 10/\W.cell? ⟨H,0,none⟩=some (.slice D h i)/\W.cell? ⟨H+1,0,none⟩=some (.int .i64 x)/\W.cell? ⟨H+1,1,none⟩=some (.slice A n c)/\W.cell? ⟨H+1,2,none⟩=some (.int .i64 y)/\W.cell? ⟨H+1,3,none⟩=some (.slice B m d)/\W.cell? ⟨H+1,4,none⟩=some (.int .i64 z)/\W.cell? ⟨H+1,5,none⟩=some (.slice C k e)/\W.cell? ⟨H+2,0,none⟩=some (.int .i64 r0)/\W.cell? ⟨H+2,1,none⟩=some (.int .i64 r1)/\W.cell? ⟨H+2,2,none⟩=some (.int .i64 r2))=>(Q4h (fun b=>F b/\b<w.heap.size) D _ i T W ((hT.both.fresh f0).upd h.1 (fun b _ hb e=>by have:=hb.2;omega)) hT').mono (R':=fun e w'=>∃A' c',e = .returned (.slice A' _ c')/\RdU w' (fun b=>w0.heap.size<=b) A' _ (Q2 T)/\Q0 W w') fun e w' q=>by
   obtain⟨A',c',h1,h2,h3⟩:=q
   exact⟨A',c',h1,h2.mono fun b hb=>Nat.le_trans h.1.size hb,h3⟩)
 have HO1:=hd_ (fun W (h:Upd (fun b=>b=H+3) w0 W/\Box W (H+3) 32 10/\W.cell? ⟨H,0,none⟩=some (.slice D h i)/\W.cell? ⟨H+1,0,none⟩=some (.int .i64 x)/\W.cell? ⟨H+1,1,none⟩=some (.slice A n c)/\W.cell? ⟨H+1,2,none⟩=some (.int .i64 y)/\W.cell? ⟨H+1,3,none⟩=some (.slice B m d)/\W.cell? ⟨H+1,4,none⟩=some (.int .i64 z)/\W.cell? ⟨H+1,5,none⟩=some (.slice C k e)/\W.cell? ⟨H+2,0,none⟩=some (.int .i64 r0)/\W.cell? ⟨H+2,1,none⟩=some (.int .i64 r1)/\W.cell? ⟨H+2,2,none⟩=some (.int .i64 r2))=>(Q1L (fun b=>G b/\b<w.heap.size) A n c x N1 W ((h1.both.fresh f0).upd h.1 (fun b _ hb e=>by have:=hb.2;omega)) h1').mono (R':=fun e w'=>∃A' c',e = .returned (.agg #[.int .i64 x,.slice A' n c'])/\RdU w' (fun b=>w0.heap.size<=b) A' n (Q2 N1)/\Q0 W w') fun e w' q=>by
   obtain⟨A',c',h1,h2,h3⟩:=q
   exact⟨A',c',h1,h2.mono fun b hb=>Nat.le_trans h.1.size hb,h3⟩)
 have HO2:=hd_ (fun W (h:Upd (fun b=>b=H+3) w0 W/\Box W (H+3) 32 10/\W.cell? ⟨H,0,none⟩=some (.slice D h i)/\W.cell? ⟨H+1,0,none⟩=some (.int .i64 x)/\W.cell? ⟨H+1,1,none⟩=some (.slice A n c)/\W.cell? ⟨H+1,2,none⟩=some (.int .i64 y)/\W.cell? ⟨H+1,3,none⟩=some (.slice B m d)/\W.cell? ⟨H+1,4,none⟩=some (.int .i64 z)/\W.cell? ⟨H+1,5,none⟩=some (.slice C k e)/\W.cell? ⟨H+2,0,none⟩=some (.int .i64 r0)/\W.cell? ⟨H+2,1,none⟩=some (.int .i64 r1)/\W.cell? ⟨H+2,2,none⟩=some (.int .i64 r2))=>(Q1L (fun b=>G b/\b<w.heap.size) B m d y N2 W ((h2.both.fresh f0).upd h.1 (fun b _ hb e=>by have:=hb.2;omega)) h2').mono (R':=fun e w'=>∃A' c',e = .returned (.agg #[.int .i64 y,.slice A' m c'])/\RdU w' (fun b=>w0.heap.size<=b) A' m (Q2 N2)/\Q0 W w') fun e w' q=>by
   obtain⟨A',c',h1,h2,h3⟩:=q
   exact⟨A',c',h1,h2.mono fun b hb=>Nat.le_trans h.1.size hb,h3⟩)
 have HO3:=hd_ (fun W (h:Upd (fun b=>b=H+3) w0 W/\Box W (H+3) 32 10/\W.cell? ⟨H,0,none⟩=some (.slice D h i)/\W.cell? ⟨H+1,0,none⟩=some (.int .i64 x)/\W.cell? ⟨H+1,1,none⟩=some (.slice A n c)/\W.cell? ⟨H+1,2,none⟩=some (.int .i64 y)/\W.cell? ⟨H+1,3,none⟩=some (.slice B m d)/\W.cell? ⟨H+1,4,none⟩=some (.int .i64 z)/\W.cell? ⟨H+1,5,none⟩=some (.slice C k e)/\W.cell? ⟨H+2,0,none⟩=some (.int .i64 r0)/\W.cell? ⟨H+2,1,none⟩=some (.int .i64 r1)/\W.cell? ⟨H+2,2,none⟩=some (.int .i64 r2))=>(Q1L (fun b=>G b/\b<w.heap.size) C k e z N3 W ((h3.both.fresh f0).upd h.1 (fun b _ hb e=>by have:=hb.2;omega)) h3').mono (R':=fun e w'=>∃A' c' v0 v1 v2 v3 v4 v5 v6 v7 v8 v9,e = .returned (.agg #[.int .i64 z,.slice A' k c'])/\RdU w' (fun b=>w0.heap.size<=b) A' k (Q2 N3)/\Q0 W w'/\Upd (fun b=>b=H+3) w0 w'/\Blk w' (H+3) 32 #[v0,v1,v2,v3,v4,v5,v6,v7,v8,v9]) fun e w' q=>by
   obtain⟨A',c',h1,h2,h3⟩:=q;obtain⟨v0,v1,v2,v3,v4,v5,v6,v7,v8,v9,hb⟩:=(h.2.1.fresh h3).ten
   exact⟨A',c',v0,v1,v2,v3,v4,v5,v6,v7,v8,v9,h1,h2.mono fun b hb=>Nat.le_trans h.1.size hb,h3,h.1.trans' (h3.mono fun _ _ h=>h.elim),hb⟩)
 have HW:=hd_ hw0;have HH:=hd_ hH;have F0:=hd_ f0;have HS1:=hd_ (show H+3<w0.heap.size from bo.lt);clear bc bt br bo hT h1 h2 h3 f0 hw0 hH hk hT' h1' h2' h3';refine Q6 fun R hR=>?_;go_enter Tryz.func35,Tryz.ntmps35;go_upto_region 1 with fail;simp only [<-HH.out,<-HW.out]
 go_region_held3 (fun W=>Upd (fun b=>b=H+3) w0 W/\Box W (H+3) 32 10/\W.cell? ⟨H,0,none⟩=some (.slice D h i)/\W.cell? ⟨H+1,0,none⟩=some (.int .i64 x)/\W.cell? ⟨H+1,1,none⟩=some (.slice A n c)/\W.cell? ⟨H+1,2,none⟩=some (.int .i64 y)/\W.cell? ⟨H+1,3,none⟩=some (.slice B m d)/\W.cell? ⟨H+1,4,none⟩=some (.int .i64 z)/\W.cell? ⟨H+1,5,none⟩=some (.slice C k e)/\W.cell? ⟨H+2,0,none⟩=some (.int .i64 r0)/\W.cell? ⟨H+2,1,none⟩=some (.int .i64 r1)/\W.cell? ⟨H+2,2,none⟩=some (.int .i64 r2))
   (first|with_reducible exact HS0.out|with_reducible exact HSC.out _ _ (by assumption) (by assumption)|with_reducible exact HSW.out _ _ _ _ _ _ _ _ _ _ _ (by assumption))
   (first
     | (go_at_call 55;((with_reducible refine(HCL.out _ (by assumption)).mono ?_);rintro e w' ⟨D',i',rfl,rD,fD⟩))
     | (go_at_call 56;((with_reducible refine(HO1.out _ (by assumption)).mono ?_);rintro e w' ⟨A',c',rfl,rA,fA⟩))
     | (go_at_call 56;((with_reducible refine(HO2.out _ (by assumption)).mono ?_);rintro e w' ⟨B',d',rfl,rB,fB⟩))
     | (go_at_call 56;((with_reducible refine(HO3.out _ (by assumption)).mono ?_);rintro e wz ⟨C',e',v0,v1,v2,v3,v4,v5,v6,v7,v8,v9,rfl,rC,fC,uC,b2⟩;have c0x:=b2.cell 0;have c1x:=b2.cell 1;have c2x:=b2.cell 2;have c3x:=b2.cell 3;have c4x:=b2.cell 4;have c5x:=b2.cell 5;have c6x:=b2.cell 6;have c7x:=b2.cell 7;have c8x:=b2.cell 8;have c9x:=b2.cell 9;have z0x:=b2.frozen 0;have z1x:=b2.frozen 1;have z2x:=b2.frozen 2;have z3x:=b2.frozen 3;have z4x:=b2.frozen 4;have z5x:=b2.frozen 5;have z6x:=b2.frozen 6;have z7x:=b2.frozen 7;have z8x:=b2.frozen 8;have z9x:=b2.frozen 9;simp at c0x c1x c2x c3x c4x c5x c6x c7x c8x c9x)))
 (all_goals go_wp2_with fail)
 all_goals
   have b3:Blk ((((((((((wz.setCell ⟨H+3,0,none⟩ (.slice D' h i')).setCell ⟨H+3,1,none⟩ (.int .i64 x)).setCell ⟨H+3,2,none⟩ (.slice A' n c')).setCell ⟨H+3,3,none⟩ (.int .i64 y)).setCell ⟨H+3,4,none⟩ (.slice B' m d')).setCell ⟨H+3,5,none⟩ (.int .i64 z)).setCell ⟨H+3,6,none⟩ (.slice C' k e')).setCell ⟨H+3,7,none⟩ (.int .i64 r0)).setCell ⟨H+3,8,none⟩ (.int .i64 r1)).setCell ⟨H+3,9,none⟩ (.int .i64 r2)) (H+3) 32 #[.slice D' h i',.int .i64 x,.slice A' n c',.int .i64 y,.slice B' m d',.int .i64 z,.slice C' k e',.int .i64 r0,.int .i64 r1,.int .i64 r2]:=by
     have:=((((((((((b2.set_ 0 (.slice D' h i')).set_ 1 (.int .i64 x)).set_ 2 (.slice A' n c')).set_ 3 (.int .i64 y)).set_ 4 (.slice B' m d')).set_ 5 (.int .i64 z)).set_ 6 (.slice C' k e')).set_ 7 (.int .i64 r0)).set_ 8 (.int .i64 r1)).set_ 9 (.int .i64 r2));simpa using this
   refine bodyPost_ret (v:=.agg #[.slice D' h i',.int .i64 x,.slice A' n c',.int .i64 y,.slice B' m d',.int .i64 z,.slice C' k e',.int .i64 r0,.int .i64 r1,.int .i64 r2]) (results_cell_row rfl _ _ (H+3) _ _ _ _ rfl b3 Tryz.underlying32 rfl (by kernel_rfl)) rfl ?_;have hu:Upd (fun b=>b=H+3) w0 ((((((((((wz.setCell ⟨H+3,0,none⟩ (.slice D' h i')).setCell ⟨H+3,1,none⟩ (.int .i64 x)).setCell ⟨H+3,2,none⟩ (.slice A' n c')).setCell ⟨H+3,3,none⟩ (.int .i64 y)).setCell ⟨H+3,4,none⟩ (.slice B' m d')).setCell ⟨H+3,5,none⟩ (.int .i64 z)).setCell ⟨H+3,6,none⟩ (.slice C' k e')).setCell ⟨H+3,7,none⟩ (.int .i64 r0)).setCell ⟨H+3,8,none⟩ (.int .i64 r1)).setCell ⟨H+3,9,none⟩ (.int .i64 r2)):=((((((((((uC.setCell (p:=⟨H+3,0,none⟩) (fun _=>rfl) _).setCell (p:=⟨H+3,1,none⟩) (fun _=>rfl) _).setCell (p:=⟨H+3,2,none⟩) (fun _=>rfl) _).setCell (p:=⟨H+3,3,none⟩) (fun _=>rfl) _).setCell (p:=⟨H+3,4,none⟩) (fun _=>rfl) _).setCell (p:=⟨H+3,5,none⟩) (fun _=>rfl) _).setCell (p:=⟨H+3,6,none⟩) (fun _=>rfl) _).setCell (p:=⟨H+3,7,none⟩) (fun _=>rfl) _).setCell (p:=⟨H+3,8,none⟩) (fun _=>rfl) _).setCell (p:=⟨H+3,9,none⟩) (fun _=>rfl) _);have h2:Upd (fun b=>b=H+3) wz ((((((((((wz.setCell ⟨H+3,0,none⟩ (.slice D' h i')).setCell ⟨H+3,1,none⟩ (.int .i64 x)).setCell ⟨H+3,2,none⟩ (.slice A' n c')).setCell ⟨H+3,3,none⟩ (.int .i64 y)).setCell ⟨H+3,4,none⟩ (.slice B' m d')).setCell ⟨H+3,5,none⟩ (.int .i64 z)).setCell ⟨H+3,6,none⟩ (.slice C' k e')).setCell ⟨H+3,7,none⟩ (.int .i64 r0)).setCell ⟨H+3,8,none⟩ (.int .i64 r1)).setCell ⟨H+3,9,none⟩ (.int .i64 r2)):=(((((((((((Upd.refl (fun b=>b=H+3) wz).setCell (p:=⟨H+3,0,none⟩) (fun _=>rfl) _).setCell (p:=⟨H+3,1,none⟩) (fun _=>rfl) _).setCell (p:=⟨H+3,2,none⟩) (fun _=>rfl) _).setCell (p:=⟨H+3,3,none⟩) (fun _=>rfl) _).setCell (p:=⟨H+3,4,none⟩) (fun _=>rfl) _).setCell (p:=⟨H+3,5,none⟩) (fun _=>rfl) _).setCell (p:=⟨H+3,6,none⟩) (fun _=>rfl) _).setCell (p:=⟨H+3,7,none⟩) (fun _=>rfl) _).setCell (p:=⟨H+3,8,none⟩) (fun _=>rfl) _).setCell (p:=⟨H+3,9,none⟩) (fun _=>rfl) _);clear b3 b2 c0x c1x c2x c3x c4x c5x c6x c7x c8x c9x z0x z1x z2x z3x z4x z5x z6x z7x z8x z9x;generalize ((((((((((wz.setCell ⟨H+3,0,none⟩ (.slice D' h i')).setCell ⟨H+3,1,none⟩ (.int .i64 x)).setCell ⟨H+3,2,none⟩ (.slice A' n c')).setCell ⟨H+3,3,none⟩ (.int .i64 y)).setCell ⟨H+3,4,none⟩ (.slice B' m d')).setCell ⟨H+3,5,none⟩ (.int .i64 z)).setCell ⟨H+3,6,none⟩ (.slice C' k e')).setCell ⟨H+3,7,none⟩ (.int .i64 r0)).setCell ⟨H+3,8,none⟩ (.int .i64 r1)).setCell ⟨H+3,9,none⟩ (.int .i64 r2))=wend at *
   have lift:∀ {A:Option Addr} {n:Nat} {xs:List Value},RdU wz (fun b=>w0.heap.size<=b) A n xs->RdU wend (fun b=>w.heap.size<=b) A n xs:=fun r =>
     (r.upd h2 (fun b _ hb e=>absurd HS1.out (by rw [<-e];exact Nat.not_lt.2 hb))).mono (fun b hb=>Nat.le_trans F0.out.size hb)
   exact hR.out _ _ ⟨D',i',A',c',B',d',C',e',rfl,lift (((rD.fresh fA).fresh fB).fresh fC),lift ((rA.fresh fB).fresh fC),lift (rB.fresh fC),lift rC,F0.out.trans hu (fun b hb e=>by have:=HH.out;omega)⟩
end Go.Proofs.YtjfdaphjijfieaaGreat
