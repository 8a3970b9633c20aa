/-
  SeqsAgain: the law's function answers true.
  Conditions: none beyond those of each theorem.
-/
import Derived.Test.YtjfdaphjijfieaaGreatK41
import Derived.Test.YtjfdaphjijfieaaGreatK37
import Derived.Test.YtjfdaphjijfieaaGreatK5
set_option maxHeartbeats 20000000
namespace Go.Proofs.YtjfdaphjijfieaaGreat
open Go.RowKit
set_option linter.unusedVariables false
set_option linter.unusedSimpArgs false
set_option maxRecDepth 100000 in
theorem Q6H (D A B C:Option Addr) (h i n c m d k e:Nat) (T:Qa) (Tr:List Int) (r0 r1 r2:Int) (Ab:Option Addr) (nb cb:Nat) (bs:List Nat) (w:World) (p0:Rd w (fun _=>True) D h (Q2 Tr)) (p1:Rd w (fun _=>True) A n (Q2 T.NL)) (p2:Rd w (fun _=>True) B m (Q2 T.NO)) (p3:Rd w (fun _=>True) C k (Q2 T.NM)) (f1:Fit T.NL) (f2:Fit T.NO) (f3:Fit T.NM)
   (hB:Rd w (fun _=>True) Ab nb (bs.map fun b=>.int .u8 (b:Nat))) (hlt:∀b∈bs,b<256) :
   Calls Tryz.prog 8 #[.slice Ab nb cb,.agg #[.slice D h i,.int .i64 T.lL,.slice A n c,.int .i64 T.lO,.slice B m d,.int .i64 T.lM,.slice C k e,.int .i64 r0,.int .i64 r1,.int .i64 r2]] w fun e' w'=>e' = .returned (.bool true)/\Q0 w w':=by
 obtain⟨w0,hw0⟩:=nm_ (w.alloc (.cells #[.slice D h i,.int .i64 T.lL,.slice A n c,.int .i64 T.lO,.slice B m d,.int .i64 T.lM,.slice C k e,.int .i64 r0,.int .i64 r1,.int .i64 r2] 32));obtain⟨H,hH⟩:=nm_ (w.heap.size);(have f0:Q0 w w0:=by rw [hw0];exact(Upd.refl _ _).alloc _);(have bc:Blk w0 H 32 #[.slice D h i,.int .i64 T.lL,.slice A n c,.int .i64 T.lO,.slice B m d,.int .i64 T.lM,.slice C k e,.int .i64 r0,.int .i64 r1,.int .i64 r2]:=by rw [hw0];exact Q1 hH _ _);(have hTr:Tr.length=h:=by have:=p0.1;rw [QP]at this;exact this);(have hNL:T.NL.length=n:=by have:=p1.1;rw [QP]at this;exact this);(have hNO:T.NO.length=m:=by have:=p2.1;rw [QP]at this;exact this);(have hNM:T.NM.length=k:=by have:=p3.1;rw [QP]at this;exact this);(have hbl:bs.length=nb:=by have:=hB.1;simpa using this);have HFW:=hd_ (fun W=>Q0J D A B C h i n c m d k e T r0 r1 r2 W);have HKN:=hd_ Ve
 have HCX:=hd_ (show ∀W,Q0 w0 W->W.cell? ⟨H,0,none⟩=some (.slice D h i)/\W.cell? ⟨H,1,none⟩=some (.int .i64 T.lL)/\W.cell? ⟨H,2,none⟩=some (.slice A n c)/\W.cell? ⟨H,3,none⟩=some (.int .i64 T.lO)/\W.cell? ⟨H,4,none⟩=some (.slice B m d)/\W.cell? ⟨H,5,none⟩=some (.int .i64 T.lM)/\W.cell? ⟨H,6,none⟩=some (.slice C k e)/\W.cell? ⟨H,7,none⟩=some (.int .i64 r0)/\W.cell? ⟨H,8,none⟩=some (.int .i64 r1)/\W.cell? ⟨H,9,none⟩=some (.int .i64 r2)from fun W f=>by
   have bb:=bc.fresh f
   exact bb.cells10)
 have HW:=hd_ hw0;have HH:=hd_ hH;have F0:=hd_ f0;have HRB:=hd_ (fun W (f:Q0 w0 W)=>(hB.fresh f0).fresh f);have HBL:=hd_ hbl;have HLT:=hd_ hlt;by_cases hbig:300<nb
 . have hb:(300:Int)<nb:=by omega
   clear hbig hbl;clear hw0 hH f0 bc p0 p1 p2 p3 f1 f2 f3 hB hlt hTr hNL hNO hNM;refine Q7 fun R hR=>?_;obtain⟨u0,u1,u2,u3,u4,u5,u6,u7,u8,u9⟩:=HCX.out w0 (Upd.refl _ _);go_enter Tryz.func8,Tryz.ntmps8;go_upto_region 1 with fail;simp only [<-HH.out,<-HW.out];go_wp2_with fail;refine(HKN.out _).mono ?_;rintro e1 w1 ⟨rfl,f1⟩;have F1:=hd_ ((Upd.refl _ _).trans' f1);clear f1;go_wp2_with fail;(try go_ret);exact hR.out _ _ ⟨rfl,F0.out.trans' F1.out⟩
 (have hb:¬(300:Int)<nb:=by omega);by_cases hfew:h<=300/\n<=300/\m<=300/\k<=300
 . have HMN:=hd_ (fun W (f:Q0 w0 W)=>Q6v (fun _=>True) Ab nb cb bs W ((hB.fresh f0).fresh f) hlt (by omega))
   generalize decide ((Qn bs).2.2=0/\300<(Qn bs).1/\(Qn bs).1<=65536)=mn at *;have HSD:=hd_ (fun(bs':List Nat) (F':Nat->Prop) (g:Nat) (W:World) (hc:Qi W F' g bs' 0) (hF:∀b,F' b->b≠g) (hg:w.heap.size<=g) (f:Q0 w0 W)=>VL F' (fun b=>b<w.heap.size) g bs' 0 D A B C h i n c m d k e T Tr r0 r1 r2 W hc hF (fun b hb=>by omega) ((p0.old.fresh f0).fresh f) ((p1.old.fresh f0).fresh f) ((p2.old.fresh f0).fresh f) ((p3.old.fresh f0).fresh f) f1 f2 f3 (by omega) (by omega) (by omega) (by omega));have HEN:=hd_ (fun(FL:Nat->Prop) (L:Option Addr) (nl dl:Nat) (l:List (Int × Int × Int)) W (f:Q0 w0 W) (hL:RdK W FL 3 L nl (l.map tri)) hfit (hn:nl<128)=>Q5w FL (fun b=>b<w.heap.size) D A B C L h i n c m d k e nl dl T Tr r0 r1 r2 l W hL hfit (.inl hn) (by omega) ((p0.old.fresh f0).fresh f) ((p1.old.fresh f0).fresh f) ((p2.old.fresh f0).fresh f) ((p3.old.fresh f0).fresh f) f1 f2 f3 (by omega) (by omega) (by omega) (by omega));have HGD:=hd_ (fun he=>Q7X (at_:=0) (T:=T) (a:=r0) (b:=r1) (c:=r2) hlt he);have HRP:=hd_ (fun he=>Q7Y (bs:=bs) (at_:=0) (T:=T) (a:=r0) (b:=r1) (c:=r2) he);have HTF:=hd_ (And.intro f1 (And.intro f2 (And.intro f3 (show T.NL.length<=1000/\T.NO.length<=1000/\T.NM.length<=1000 by omega))));have HTR:=hd_ (show Tr.length<=1000 by omega);have HNB:=hd_ (show bs.length<=300 by omega);have hd:decide (h<=300/\n<=300/\m<=300/\k<=300)=true:=decide_eq_true hfew;rw [hd]at HFW;obtain⟨S,hS⟩:=nm_ (QB bs 0 T r0 r1 r2);have HSE:=hd_ hS.symm;rw [<-hS]at HGD HRP;clear hbig hfew hd hbl hS;clear hw0 hH f0 bc p0 p1 p2 p3 f1 f2 f3 hB hlt hTr hNL hNO hNM;refine Q7 fun R hR=>?_;obtain⟨u0,u1,u2,u3,u4,u5,u6,u7,u8,u9⟩:=HCX.out w0 (Upd.refl _ _);go_enter Tryz.func8,Tryz.ntmps8;go_upto_region 1 with fail;simp only [<-HH.out,<-HW.out];go_wp2_with fail;refine(HFW.out _).mono ?_;rintro e1 w1 ⟨rfl,f1⟩;have F1:=hd_ f1;clear f1;clear u0 u1 u2 u3 u4 u5 u6 u7 u8 u9;obtain⟨u0,u1,u2,u3,u4,u5,u6,u7,u8,u9⟩:=HCX.out w1 F1.out;go_wp2_with fail;refine(HMN.out w1 F1.out).mono ?_;rintro e2 w2 ⟨rfl,f2⟩;have F2:=hd_ (F1.out.trans' f2);clear f2 HMN u0 u1 u2 u3 u4 u5 u6 u7 u8 u9
   cases mn with
   | true =>
     go_wp2_with fail;refine(HKN.out _).mono ?_;rintro e3 w3 ⟨rfl,f3⟩;have F3:=hd_ ((F2.out).trans' f3);clear f3;go_wp2_with fail;(try go_ret);exact hR.out _ _ ⟨rfl,F0.out.trans' F3.out⟩
   | false =>
     obtain⟨s0,l,T2,x0,x1,x2,st⟩:=S;simp only at HGD HRP;go_upto_region 3 with fail;have HCX2:=hd_ (fun W (f:Q0 w2 W)=>HCX.out W (F2.out.trans' f));have HNW2:=hd_ (fun W (f:Q0 w2 W)=>Zi (fun _=>True) Ab nb cb bs W (HRB.out W (F2.out.trans' f)) HLT.out (by have:=HNB.out;omega))
     have HSD2:=hd_ (show ∀(F':Nat->Prop) (g:Nat) (W':World),Qi W' F' g bs 0->(∀b,F' b->b≠g)->w2.heap.size<=g->Q0 w2 W'->Calls Tryz.prog 18 #[.pointer (some ⟨g,0,none⟩),.agg #[.slice D h i,.int .i64 T.lL,.slice A n c,.int .i64 T.lO,.slice B m d,.int .i64 T.lM,.slice C k e,.int .i64 r0,.int .i64 r1,.int .i64 r2]] W' (Jh F' g bs ⟨s0,l,T2,x0,x1,x2,st⟩ Tr W')from fun F' g W' hc hF hg f=>by
       have hss:=HSD.out bs F' g W' hc hF (by have:=F0.out.size;have:=F2.out.size;omega) (F2.out.trans' f);rw [HSE.out]at hss
       exact hss)
     clear HSE;by_cases he:s0=0
     . have HGG:=hd_ (HGD.out he)
       have HRR:=hd_ (HRP.out he);subst he;clear HGD HRP;obtain⟨Cw,cEq⟩:=exC (fun W=>Q0 w2 W);obtain⟨Y,yA⟩:=exY [fun xs W=>(xs 0) = .slice Ab nb cb,fun xs W=>∃g,(xs 1) = .pointer (some ⟨g,0,none⟩)/\w2.heap.size<=g/\Qi W (fun q=>w2.heap.size<=q/\q≠g) g bs 0,fun xs W=>(xs 2) = .agg #[.slice D h i,.int .i64 T.lL,.slice A n c,.int .i64 T.lO,.slice B m d,.int .i64 T.lM,.slice C k e,.int .i64 r0,.int .i64 r1,.int .i64 r2],fun xs W=>∃v3 D3 h3 i3 A3 n3 c3 B3 m3 d3 C3 k3 e3,(xs 3) = .tuple #[v3,.agg #[.slice D3 h3 i3,.int .i64 T2.lL,.slice A3 n3 c3,.int .i64 T2.lO,.slice B3 m3 d3,.int .i64 T2.lM,.slice C3 k3 e3,.int .i64 x0,.int .i64 x1,.int .i64 x2],.int .i64 0]/\(QM W 23 3 v3 (l.map tri)/\∀b,Value.ownBlock v3=some b->w2.heap.size<=b/\Qc (xs 8) b)/\RdU W (fun b=>w2.heap.size<=b/\Qc (xs 8) b) D3 h3 (Q2 Tr)/\RdU W (fun b=>w2.heap.size<=b/\Qc (xs 8) b) A3 n3 (Q2 T2.NL)/\RdU W (fun b=>w2.heap.size<=b/\Qc (xs 8) b) B3 m3 (Q2 T2.NO)/\RdU W (fun b=>w2.heap.size<=b/\Qc (xs 8) b) C3 k3 (Q2 T2.NM),fun xs W=>∃v3 D3 h3 i3 A3 n3 c3 B3 m3 d3 C3 k3 e3,(xs 4) = .tuple #[v3,.agg #[.slice D3 h3 i3,.int .i64 T2.lL,.slice A3 n3 c3,.int .i64 T2.lO,.slice B3 m3 d3,.int .i64 T2.lM,.slice C3 k3 e3,.int .i64 x0,.int .i64 x1,.int .i64 x2],.int .i64 0]/\(QM W 23 3 v3 (l.map tri)/\∀b,Value.ownBlock v3=some b->w2.heap.size<=b/\Qc (xs 8) b)/\RdU W (fun b=>w2.heap.size<=b/\Qc (xs 8) b) D3 h3 (Q2 Tr)/\RdU W (fun b=>w2.heap.size<=b/\Qc (xs 8) b) A3 n3 (Q2 T2.NL)/\RdU W (fun b=>w2.heap.size<=b/\Qc (xs 8) b) B3 m3 (Q2 T2.NO)/\RdU W (fun b=>w2.heap.size<=b/\Qc (xs 8) b) C3 k3 (Q2 T2.NM),fun xs W=>QM W 23 3 (xs 5) (l.map tri)/\∀b,Value.ownBlock (xs 5)=some b->w2.heap.size<=b/\Qc (xs 8) b,fun xs W=>∃D3 h3 i3 A3 n3 c3 B3 m3 d3 C3 k3 e3,(xs 6) = .agg #[.slice D3 h3 i3,.int .i64 T2.lL,.slice A3 n3 c3,.int .i64 T2.lO,.slice B3 m3 d3,.int .i64 T2.lM,.slice C3 k3 e3,.int .i64 x0,.int .i64 x1,.int .i64 x2]/\RdU W (fun b=>w2.heap.size<=b/\Qc (xs 8) b) D3 h3 (Q2 Tr)/\RdU W (fun b=>w2.heap.size<=b/\Qc (xs 8) b) A3 n3 (Q2 T2.NL)/\RdU W (fun b=>w2.heap.size<=b/\Qc (xs 8) b) B3 m3 (Q2 T2.NO)/\RdU W (fun b=>w2.heap.size<=b/\Qc (xs 8) b) C3 k3 (Q2 T2.NM),fun xs W=>(xs 7) = .int .i64 0,fun xs W=>∃g,(xs 8) = .pointer (some ⟨g,0,none⟩)/\w2.heap.size<=g/\Blk W g 32 #[.slice none 0 0,.int .i64 0,.slice none 0 0,.int .i64 0,.slice none 0 0,.int .i64 0,.slice none 0 0,.int .i64 0,.int .i64 0,.int .i64 0],fun xs W=>QM W 23 3 (xs 9) (l.map tri)/\∀b,Value.ownBlock (xs 9)=some b->w2.heap.size<=b/\Qc (xs 8) b,fun xs W=>∃g D3 h3 i3 A3 n3 c3 B3 m3 d3 C3 k3 e3,(xs 8) = .pointer (some ⟨g,0,none⟩)/\w2.heap.size<=g/\Blk W g 32 #[.slice D3 h3 i3,.int .i64 T2.lL,.slice A3 n3 c3,.int .i64 T2.lO,.slice B3 m3 d3,.int .i64 T2.lM,.slice C3 k3 e3,.int .i64 x0,.int .i64 x1,.int .i64 x2]/\RdU W (fun b=>w2.heap.size<=b/\Qc (xs 8) b) D3 h3 (Q2 Tr)/\RdU W (fun b=>w2.heap.size<=b/\Qc (xs 8) b) A3 n3 (Q2 T2.NL)/\RdU W (fun b=>w2.heap.size<=b/\Qc (xs 8) b) B3 m3 (Q2 T2.NO)/\RdU W (fun b=>w2.heap.size<=b/\Qc (xs 8) b) C3 k3 (Q2 T2.NM),fun xs W=>(xs 11) = .int .i64 0]
       have yf0:=yA 0;have yf1:=yA 1;have yf2:=yA 2;have yf3:=yA 3;have yf4:=yA 4;have yf5:=yA 5;have yf6:=yA 6;have yf7:=yA 7;have yf8:=yA 8;have yf9:=yA 9;have yf10:=yA 10;have yf11:=yA 11;simp only [List.getD_cons_zero,List.getD_cons_succ]at yf0 yf1 yf2 yf3 yf4 yf5 yf6 yf7 yf8 yf9 yf10 yf11;(have yN:∀j xs W,12<=j->Y j xs W=True:=fun j xs W hj=>by rw [yA,Z3 _ _ _ hj])
       have yP:∀j xs W W',j∈[0,2,7,11]->Y j xs W->Y j xs W':=by
         intro j xs W W' hj hy;simp only [List.mem_cons,List.not_mem_nil,or_false]at hj;rcases hj with rfl|rfl|rfl|rfl
         . rw [yf0]at hy ⊢;exact hy
         . rw [yf2]at hy ⊢;exact hy
         . rw [yf7]at hy ⊢;exact hy
         rw [yf11]at hy ⊢;exact hy
       have yM:VQ [[0],[1],[2],[3,8],[4,8],[5,8],[6,8],[7],[8],[9,8],[8],[11]] Y:=by
         intro j xs xs' W hh hy;by_cases hj:12<=j
         . rw [yN j _ _ hj];trivial
         (have hj':j=0\/j=1\/j=2\/j=3\/j=4\/j=5\/j=6\/j=7\/j=8\/j=9\/j=10\/j=11:=by omega);rcases hj' with rfl|rfl|rfl|rfl|rfl|rfl|rfl|rfl|rfl|rfl|rfl|rfl
         . rw [yf0]at hy ⊢;rw [<-hh 0 (by decide)];exact hy
         . rw [yf1]at hy ⊢;rw [<-hh 1 (by decide)];exact hy
         . rw [yf2]at hy ⊢;rw [<-hh 2 (by decide)];exact hy
         . rw [yf3]at hy ⊢;rw [<-hh 3 (by decide),<-hh 8 (by decide)];exact hy
         . rw [yf4]at hy ⊢;rw [<-hh 4 (by decide),<-hh 8 (by decide)];exact hy
         . rw [yf5]at hy ⊢;rw [<-hh 5 (by decide),<-hh 8 (by decide)];exact hy
         . rw [yf6]at hy ⊢;rw [<-hh 6 (by decide),<-hh 8 (by decide)];exact hy
         . rw [yf7]at hy ⊢;rw [<-hh 7 (by decide)];exact hy
         . rw [yf8]at hy ⊢;rw [<-hh 8 (by decide)];exact hy
         . rw [yf9]at hy ⊢;rw [<-hh 9 (by decide),<-hh 8 (by decide)];exact hy
         . rw [yf10]at hy ⊢;rw [<-hh 8 (by decide)];exact hy
         rw [yf11]at hy ⊢;rw [<-hh 11 (by decide)];exact hy
       clear yA
       have yR:∀j xs,12<=j->Y j xs (w2.drew):=by
         intro j xs hj;rcases(show 12<=j by omega)with hj;rw [yN _ _ _ hj];trivial
       refine Jf Cw (fun j=>if j=1 then [3,10]else if j=3 then [10]else if j=5 then [10]else if j=6 then [10]else if j=8 then [10]else []) Y [(0,some 32),(1,some 33),(2,some 34),(3,some 35),(4,some 31),(5,some 36),(6,some 37),(7,some 38),(8,some 6),(9,some 5),(10,none),(11,some 7)] (by kernel_rfl) (by kernel_rfl) (by kernel_rfl) (by rw [cEq];exact(Upd.refl _ _).drew) (fun j hj=>yR j _ hj) ?_ ?_
       . refine Qf.cons [] (by kernel_rfl) (fun xs W hw hd lst hl K hK=>?_) ?_
         . rw [cEq]at hw
           have hK':=hK.out;clear hK;simp only [Qd,Act.put,List.setIfInBounds_toArray,List.set_cons_zero,List.set_cons_succ]at hK' ⊢;go_simp;exact hK' _ _ (by rw [cEq];exact hw) (Q9 yM 0 (by kernel_rfl) xs W _) (by rw [yf0];exact if_pos rfl)
         refine Qf.cons [(0,some 32)] (by kernel_rfl) (fun xs W hw hd lst hl K hK=>?_) ?_
         . rw [cEq]at hw
           have hK':=hK.out;clear hK;simp only [Qr]at hd;obtain⟨hf0,_⟩:=hd;simp only [Qd,Act.put,List.setIfInBounds_toArray,List.set_cons_zero,List.set_cons_succ]at hK' ⊢;rw [yf0]at hf0;simp only [hf0]at hK' ⊢;go_simp;refine(HNW2.out W hw).mono ?_;rintro ez wz ⟨gz,rfl,hgz,fz,cuz⟩;have hsz:=hw.size;have hR:=fz;refine hK' (_) (wz) (by rw [cEq];exact hw.trans' fz) (Qu yM 1 (by kernel_rfl) _ fun j hs hy=>?_) (by rw [yf1];(try simp only [↓reduceIte]);try exact⟨gz,rfl,by omega,cuz.mono (fun b hb=>⟨by have:=hb.1;omega,hb.2⟩)⟩);by_cases hp:j∈[0,2,7,11]
           . exact yP j _ _ _ hp hy
           by_cases hj:12<=j
           . rw [yN j _ _ hj];trivial
           simp only [List.mem_cons,List.not_mem_nil,or_false]at hp;rcases(show j=1\/j=3\/j=4\/j=5\/j=6\/j=8\/j=9\/j=10 by omega)with rfl|rfl|rfl|rfl|rfl|rfl|rfl|rfl
           . exact(Q5 hs (by kernel_rfl)).elim
           . exact(Q5 hs (by kernel_rfl)).elim
           . exact(Q5 hs (by kernel_rfl)).elim
           . exact(Q5 hs (by kernel_rfl)).elim
           . exact(Q5 hs (by kernel_rfl)).elim
           . rw [yf8]at hy ⊢;obtain⟨g,k1,k2,k3⟩:=hy;exact⟨g,k1,k2,k3.fresh hR⟩
           . exact(Q5 hs (by kernel_rfl)).elim
           exact(Q5 hs (by kernel_rfl)).elim
         refine Qf.cons [] (by kernel_rfl) (fun xs W hw hd lst hl K hK=>?_) ?_
         . rw [cEq]at hw
           have hK':=hK.out;clear hK;simp only [Qd,Act.put,List.setIfInBounds_toArray,List.set_cons_zero,List.set_cons_succ]at hK' ⊢;have cl:=HCX2.out W hw;obtain⟨cz0,cz1,cz2,cz3,cz4,cz5,cz6,cz7,cz8,cz9⟩:=cl;go_simp;exact hK' _ _ (by rw [cEq];exact hw) (Q9 yM 2 (by kernel_rfl) xs W _) (by rw [yf2];exact if_pos rfl)
         refine Qf.cons [(1,some 33),(2,some 34)] (by kernel_rfl) (fun xs W hw hd lst hl K hK=>?_) ?_
         . rw [cEq]at hw
           have hK':=hK.out;clear hK;simp only [Qr]at hd;obtain⟨hf1,hf2,_⟩:=hd;simp only [Qd,Act.put,List.setIfInBounds_toArray,List.set_cons_zero,List.set_cons_succ]at hK' ⊢;rw [yf1]at hf1;rw [yf2]at hf2;simp only [hf2]at hK' ⊢;obtain⟨gc,h1e,hgc,cuc⟩:=hf1;simp only [h1e]at hK' ⊢;go_simp;have hdc:=HSD2.out _ gc W cuc (fun b hb=>hb.2) hgc hw;unfold Jh at hdc;simp only [if_true]at hdc;(have hcb:∃cs,Blk W gc 67 cs:=by obtain⟨_,_,hx,_⟩:=cuc;exact⟨_,hx⟩);obtain⟨cs,hcb⟩:=hcb
           have h8n:∀b,W.heap.size<=b->Qc (xs 8) b:=by
             intro b hb
             cases h8:lst 8 with
             | false=>rw [hl.out.2.2.1 8 h8];exact Qc.undef b
             | true =>
               have:=hl.out.2.2.2 8 h8 (fun m hm=>by have h10:m=10:=(by simpa using hm);subst h10;exact hl.out.2.1 10 (by kernel_rfl));rw [yf8]at this;obtain⟨g8,k1,_,k3⟩:=this;rw [k1];exact Qc.ptr (by have:=k3.lt;omega)
           refine hdc.mono ?_;rintro ez wz ⟨ud,v3,D3,h3,i3,A3,n3,c3,B3,m3,d3,C3,k3,e3,rfl,ow3,hv3,t0,t1,t2,t3,cu3⟩;have hsw:=hw.size;have hR:=ud;refine hK' (_) (wz) (by rw [cEq];exact hw.trans ud (fun b hb e=>by omega)) (Qu yM 3 (by kernel_rfl) _ fun j hs hy=>?_) (by rw [yf3];(try simp only [↓reduceIte]);try exact⟨v3,D3,h3,i3,A3,n3,c3,B3,m3,d3,C3,k3,e3,rfl,⟨ow3,fun b hb=>⟨by have:=hv3 b hb;omega,h8n b (hv3 b hb)⟩⟩,t0.mono (fun b hb=>⟨by omega,h8n b hb⟩),t1.mono (fun b hb=>⟨by omega,h8n b hb⟩),t2.mono (fun b hb=>⟨by omega,h8n b hb⟩),t3.mono (fun b hb=>⟨by omega,h8n b hb⟩)⟩);by_cases hp:j∈[0,2,7,11]
           . exact yP j _ _ _ hp hy
           by_cases hj:12<=j
           . rw [yN j _ _ hj];trivial
           simp only [List.mem_cons,List.not_mem_nil,or_false]at hp;rcases(show j=1\/j=3\/j=4\/j=5\/j=6\/j=8\/j=9\/j=10 by omega)with rfl|rfl|rfl|rfl|rfl|rfl|rfl|rfl
           . exact(Q5 hs (by kernel_rfl)).elim
           . exact(Q5 hs (by kernel_rfl)).elim
           . exact(Q5 hs (by kernel_rfl)).elim
           . exact(Q5 hs (by kernel_rfl)).elim
           . exact(Q5 hs (by kernel_rfl)).elim
           . rw [yf8]at hy ⊢;obtain⟨g,k1,k2,k3⟩:=hy;exact⟨g,k1,k2,k3.upd hR (fun e=>k3.ne_ hcb (by decide) e)⟩
           . exact(Q5 hs (by kernel_rfl)).elim
           exact(Q5 hs (by kernel_rfl)).elim
         refine Qf.cons [(3,some 35)] (by kernel_rfl) (fun xs W hw hd lst hl K hK=>?_) ?_
         . rw [cEq]at hw
           have hK':=hK.out;clear hK;simp only [Qr]at hd;obtain⟨hf3,_⟩:=hd;simp only [Qd,Act.put,List.setIfInBounds_toArray,List.set_cons_zero,List.set_cons_succ]at hK' ⊢;rw [yf3]at hf3;go_simp;exact hK' _ _ (by rw [cEq];exact hw) (Q9 yM 4 (by kernel_rfl) xs W _) (by rw [yf4];(try simp only [↓reduceIte,OfNat.ofNat_ne_ofNat,Nat.reduceEqDiff]);exact hf3)
         refine Qf.cons [(4,some 31)] (by kernel_rfl) (fun xs W hw hd lst hl K hK=>?_) ?_
         . rw [cEq]at hw
           have hK':=hK.out;clear hK;simp only [Qr]at hd;obtain⟨hf4,_⟩:=hd;simp only [Qd,Act.put,List.setIfInBounds_toArray,List.set_cons_zero,List.set_cons_succ]at hK' ⊢;rw [yf4]at hf4;obtain⟨v3,D3,h3,i3,A3,n3,c3,B3,m3,d3,C3,k3,e3,h4e,o1,t⟩:=hf4;simp only [h4e]at hK' ⊢;go_simp;exact hK' _ _ (by rw [cEq];exact hw) (Q9 yM 5 (by kernel_rfl) xs W _) (by rw [yf5];(try simp only [↓reduceIte,OfNat.ofNat_ne_ofNat,Nat.reduceEqDiff]);exact o1)
         refine Qf.cons [(4,some 31)] (by kernel_rfl) (fun xs W hw hd lst hl K hK=>?_) ?_
         . rw [cEq]at hw
           have hK':=hK.out;clear hK;simp only [Qr]at hd;obtain⟨hf4,_⟩:=hd;simp only [Qd,Act.put,List.setIfInBounds_toArray,List.set_cons_zero,List.set_cons_succ]at hK' ⊢;rw [yf4]at hf4;obtain⟨v3,D3,h3,i3,A3,n3,c3,B3,m3,d3,C3,k3,e3,h4e,o1,t⟩:=hf4;simp only [h4e]at hK' ⊢;go_simp;exact hK' _ _ (by rw [cEq];exact hw) (Q9 yM 6 (by kernel_rfl) xs W _) (by rw [yf6];(try simp only [↓reduceIte,OfNat.ofNat_ne_ofNat,Nat.reduceEqDiff]);exact⟨D3,h3,i3,A3,n3,c3,B3,m3,d3,C3,k3,e3,rfl,t⟩)
         refine Qf.cons [(4,some 31)] (by kernel_rfl) (fun xs W hw hd lst hl K hK=>?_) ?_
         . rw [cEq]at hw
           have hK':=hK.out;clear hK;simp only [Qr]at hd;obtain⟨hf4,_⟩:=hd;simp only [Qd,Act.put,List.setIfInBounds_toArray,List.set_cons_zero,List.set_cons_succ]at hK' ⊢;rw [yf4]at hf4;obtain⟨v3,D3,h3,i3,A3,n3,c3,B3,m3,d3,C3,k3,e3,h4e,o1,t⟩:=hf4;simp only [h4e]at hK' ⊢;go_simp;exact hK' _ _ (by rw [cEq];exact hw) (Q9 yM 7 (by kernel_rfl) xs W _) (by rw [yf7];(try simp only [↓reduceIte,OfNat.ofNat_ne_ofNat,Nat.reduceEqDiff]);exact rfl)
         refine Qf.cons [] (by kernel_rfl) (fun xs W hw hd lst hl K hK=>?_) ?_
         . rw [cEq]at hw
           have hK':=hK.out;clear hK;simp only [Qd,Act.put,List.setIfInBounds_toArray,List.set_cons_zero,List.set_cons_succ]at hK' ⊢;go_simp;have hfa:Q0 W (W.alloc (.cells #[.slice none 0 0,.int .i64 0,.slice none 0 0,.int .i64 0,.slice none 0 0,.int .i64 0,.slice none 0 0,.int .i64 0,.int .i64 0,.int .i64 0] 32)):=(Upd.refl _ _).alloc _;have hna:∀b,b<W.heap.size->Qc (.pointer (some ⟨W.heap.size,0,none⟩)) b:=fun b hb=>Qc.ptr (by omega);have hsw:=hw.size;have hR:=And.intro hfa hna;refine hK' (_) (_) (by rw [cEq];exact hw.trans' hfa) (fun j hs hy=>?_) (by rw [yf8];(try simp only [↓reduceIte]);try exact⟨W.heap.size,rfl,hsw,Blk.new _ _ _⟩);by_cases hj:12<=j
           . rw [yN j _ _ hj];trivial
           (have hj':j=0\/j=1\/j=2\/j=3\/j=4\/j=5\/j=6\/j=7\/j=8\/j=9\/j=10\/j=11:=by omega);rcases hj' with rfl|rfl|rfl|rfl|rfl|rfl|rfl|rfl|rfl|rfl|rfl|rfl
           . rw [yf0]at hy ⊢;(try simp only [↓reduceIte,OfNat.ofNat_ne_ofNat,Nat.reduceEqDiff]);exact hy
           . rw [yf1]at hy ⊢;(try simp only [↓reduceIte,OfNat.ofNat_ne_ofNat,Nat.reduceEqDiff]);obtain⟨g,k1,k2,k3⟩:=hy;exact⟨g,k1,k2,k3.fresh hR.1⟩
           . rw [yf2]at hy ⊢;(try simp only [↓reduceIte,OfNat.ofNat_ne_ofNat,Nat.reduceEqDiff]);exact hy
           . rw [yf3]at hy ⊢;(try simp only [↓reduceIte,OfNat.ofNat_ne_ofNat,Nat.reduceEqDiff]);obtain⟨v3,D3,h3,i3,A3,n3,c3,B3,m3,d3,C3,k3,e3,k1,⟨o1,o2⟩,t0,t1,t2,t3⟩:=hy;exact⟨v3,D3,h3,i3,A3,n3,c3,B3,m3,d3,C3,k3,e3,k1,⟨o1.fresh hR.1,fun b hb=>⟨(o2 b hb).1,hR.2 b (o1.lt hb)⟩⟩,(t0.both.fresh hR.1).mono (fun b hb=>⟨hb.1.1,hR.2 b hb.2⟩),(t1.both.fresh hR.1).mono (fun b hb=>⟨hb.1.1,hR.2 b hb.2⟩),(t2.both.fresh hR.1).mono (fun b hb=>⟨hb.1.1,hR.2 b hb.2⟩),(t3.both.fresh hR.1).mono (fun b hb=>⟨hb.1.1,hR.2 b hb.2⟩)⟩
           . rw [yf4]at hy ⊢;(try simp only [↓reduceIte,OfNat.ofNat_ne_ofNat,Nat.reduceEqDiff]);obtain⟨v3,D3,h3,i3,A3,n3,c3,B3,m3,d3,C3,k3,e3,k1,⟨o1,o2⟩,t0,t1,t2,t3⟩:=hy;exact⟨v3,D3,h3,i3,A3,n3,c3,B3,m3,d3,C3,k3,e3,k1,⟨o1.fresh hR.1,fun b hb=>⟨(o2 b hb).1,hR.2 b (o1.lt hb)⟩⟩,(t0.both.fresh hR.1).mono (fun b hb=>⟨hb.1.1,hR.2 b hb.2⟩),(t1.both.fresh hR.1).mono (fun b hb=>⟨hb.1.1,hR.2 b hb.2⟩),(t2.both.fresh hR.1).mono (fun b hb=>⟨hb.1.1,hR.2 b hb.2⟩),(t3.both.fresh hR.1).mono (fun b hb=>⟨hb.1.1,hR.2 b hb.2⟩)⟩
           . rw [yf5]at hy ⊢;(try simp only [↓reduceIte,OfNat.ofNat_ne_ofNat,Nat.reduceEqDiff]);exact⟨hy.1.fresh hR.1,fun b hb=>⟨(hy.2 b hb).1,hR.2 b (hy.1.lt hb)⟩⟩
           . rw [yf6]at hy ⊢;(try simp only [↓reduceIte,OfNat.ofNat_ne_ofNat,Nat.reduceEqDiff]);obtain⟨D3,h3,i3,A3,n3,c3,B3,m3,d3,C3,k3,e3,k1,t0,t1,t2,t3⟩:=hy;exact⟨D3,h3,i3,A3,n3,c3,B3,m3,d3,C3,k3,e3,k1,(t0.both.fresh hR.1).mono (fun b hb=>⟨hb.1.1,hR.2 b hb.2⟩),(t1.both.fresh hR.1).mono (fun b hb=>⟨hb.1.1,hR.2 b hb.2⟩),(t2.both.fresh hR.1).mono (fun b hb=>⟨hb.1.1,hR.2 b hb.2⟩),(t3.both.fresh hR.1).mono (fun b hb=>⟨hb.1.1,hR.2 b hb.2⟩)⟩
           . rw [yf7]at hy ⊢;(try simp only [↓reduceIte,OfNat.ofNat_ne_ofNat,Nat.reduceEqDiff]);exact hy
           . exact(Q5 hs (by kernel_rfl)).elim
           . exact(Q5 hs (by kernel_rfl)).elim
           . exact(Q5 hs (by kernel_rfl)).elim
           exact(Q5 hs (by kernel_rfl)).elim
         refine Qf.cons [(5,some 36)] (by kernel_rfl) (fun xs W hw hd lst hl K hK=>?_) ?_
         . rw [cEq]at hw
           have hK':=hK.out;clear hK;simp only [Qr]at hd;obtain⟨hf5,_⟩:=hd;simp only [Qd,Act.put,List.setIfInBounds_toArray,List.set_cons_zero,List.set_cons_succ]at hK' ⊢;rw [yf5]at hf5;go_simp;exact hK' _ _ (by rw [cEq];exact hw) (Q9 yM 9 (by kernel_rfl) xs W _) (by rw [yf9];(try simp only [↓reduceIte,OfNat.ofNat_ne_ofNat,Nat.reduceEqDiff]);exact hf5)
         refine Qf.cons [(8,some 6),(6,some 37)] (by kernel_rfl) (fun xs W hw hd lst hl K hK=>?_) ?_
         . rw [cEq]at hw
           have hK':=hK.out;clear hK;simp only [Qr]at hd;obtain⟨hf8,hf6,_⟩:=hd;simp only [Qd,Act.put,List.setIfInBounds_toArray,List.set_cons_zero,List.set_cons_succ]at hK' ⊢;rw [yf8]at hf8;rw [yf6]at hf6;obtain⟨g,h8e,hg8,b8⟩:=hf8;simp only [h8e]at hK' ⊢;obtain⟨D3,h3,i3,A3,n3,c3,B3,m3,d3,C3,k3,e3,h6e,t0,t1,t2,t3⟩:=hf6;simp only [h6e]at hK' ⊢;simp only [h8e]at t0 t1 t2 t3;(have hn:∀b,Qc (xs 8) b->b≠g:=fun b hb=>by rw [h8e]at hb;exact hb.ne');have cq0:=b8.cell 0;have cq1:=b8.cell 1;have cq2:=b8.cell 2;have cq3:=b8.cell 3;have cq4:=b8.cell 4;have cq5:=b8.cell 5;have cq6:=b8.cell 6;have cq7:=b8.cell 7;have cq8:=b8.cell 8;have cq9:=b8.cell 9;obtain⟨cz0,cz1,cz2,cz3,cz4,cz5,cz6,cz7,cz8,cz9⟩:=(b8).frozens10;simp at cq0 cq1 cq2 cq3 cq4 cq5 cq6 cq7 cq8 cq9;have hO:=b8.set10 (.slice D3 h3 i3) (.int .i64 T2.lL) (.slice A3 n3 c3) (.int .i64 T2.lO) (.slice B3 m3 d3) (.int .i64 T2.lM) (.slice C3 k3 e3) (.int .i64 x0) (.int .i64 x1) (.int .i64 x2);have us:=Ju W g (.slice D3 h3 i3) (.int .i64 T2.lL) (.slice A3 n3 c3) (.int .i64 T2.lO) (.slice B3 m3 d3) (.int .i64 T2.lM) (.slice C3 k3 e3) (.int .i64 x0) (.int .i64 x1) (.int .i64 x2);have HO:=hd_ hO;have US:=hd_ us;clear b8 hO us;go_simp;have hR:=US.out;refine hK' (undef) (_) (by rw [cEq];exact hw.trans US.out (fun b hb h=>by omega)) (Qu yM 10 (by kernel_rfl) _ fun j hs hy=>?_) (by rw [yf10];(try simp only [↓reduceIte]);try exact⟨g,D3,h3,i3,A3,n3,c3,B3,m3,d3,C3,k3,e3,h8e,hg8,HO.out,(t0.upd US.out (fun b _ hb e=>hb.2.ne' e)).mono (fun b hb=>by rw [h8e];exact hb),(t1.upd US.out (fun b _ hb e=>hb.2.ne' e)).mono (fun b hb=>by rw [h8e];exact hb),(t2.upd US.out (fun b _ hb e=>hb.2.ne' e)).mono (fun b hb=>by rw [h8e];exact hb),(t3.upd US.out (fun b _ hb e=>hb.2.ne' e)).mono (fun b hb=>by rw [h8e];exact hb)⟩);by_cases hp:j∈[0,2,7,11]
           . exact yP j _ _ _ hp hy
           by_cases hj:12<=j
           . rw [yN j _ _ hj];trivial
           simp only [List.mem_cons,List.not_mem_nil,or_false]at hp;rcases(show j=1\/j=3\/j=4\/j=5\/j=6\/j=8\/j=9\/j=10 by omega)with rfl|rfl|rfl|rfl|rfl|rfl|rfl|rfl
           . exact(Q5 hs (by kernel_rfl)).elim
           . exact(Q5 hs (by kernel_rfl)).elim
           . rw [yf4]at hy ⊢;obtain⟨v3,D3,h3,i3,A3,n3,c3,B3,m3,d3,C3,k3,e3,k1,⟨o1,o2⟩,t0,t1,t2,t3⟩:=hy;exact⟨v3,D3,h3,i3,A3,n3,c3,B3,m3,d3,C3,k3,e3,k1,⟨o1.upd hR (fun b hb e=>hn b (o2 b hb).2 e),o2⟩,t0.upd hR (fun b _ hb e=>hn b hb.2 e),t1.upd hR (fun b _ hb e=>hn b hb.2 e),t2.upd hR (fun b _ hb e=>hn b hb.2 e),t3.upd hR (fun b _ hb e=>hn b hb.2 e)⟩
           . exact(Q5 hs (by kernel_rfl)).elim
           . exact(Q5 hs (by kernel_rfl)).elim
           . exact(Q5 hs (by kernel_rfl)).elim
           . rw [yf9]at hy ⊢;exact⟨hy.1.upd hR (fun b hb e=>hn b (hy.2 b hb).2 e),hy.2⟩
           exact(Q5 hs (by kernel_rfl)).elim
         refine Qf.cons [(7,some 38)] (by kernel_rfl) (fun xs W hw hd lst hl K hK=>?_) ?_
         . rw [cEq]at hw
           have hK':=hK.out;clear hK;simp only [Qr]at hd;obtain⟨hf7,_⟩:=hd;simp only [Qd,Act.put,List.setIfInBounds_toArray,List.set_cons_zero,List.set_cons_succ]at hK' ⊢;rw [yf7]at hf7;simp only [hf7]at hK' ⊢;go_simp;exact hK' _ _ (by rw [cEq];exact hw) (Q9 yM 11 (by kernel_rfl) xs W _) (by rw [yf11];exact if_pos rfl)
         exact Qf.nil
       intro xs w3 hw hd;rw [cEq]at hw;simp only [Kg]at hd;obtain⟨fe0,fe1,fe2,fe3,fe4,fe5,fe6,fe7,fe8,fe9,fe10,fe11,_⟩:=hd;have fe0:=fe0 (by kernel_rfl);rw [yf0]at fe0;have fe2:=fe2 (by kernel_rfl);rw [yf2]at fe2;have fe4:=fe4 (by kernel_rfl);rw [yf4]at fe4;have fe7:=fe7 (by kernel_rfl);rw [yf7]at fe7;have fe9:=fe9 (by kernel_rfl);rw [yf9]at fe9;have fe10:=fe10 (by kernel_rfl);rw [yf10]at fe10;have fe11:=fe11 (by kernel_rfl);rw [yf11]at fe11;clear fe1 fe3 fe5 fe6 fe8;simp only [Qd,Act.put,List.setIfInBounds_toArray,List.set_cons_zero,List.set_cons_succ];generalize xs 0=xv0 at *;generalize xs 1=xv1 at *;generalize xs 2=xv2 at *;generalize xs 3=xv3 at *;generalize xs 4=xv4 at *;generalize xs 5=xv5 at *;generalize xs 6=xv6 at *;generalize xs 7=xv7 at *;generalize xs 8=xv8 at *;generalize xs 9=xv9 at *;generalize xs 10=xv10 at *;generalize xs 11=xv11 at *;subst fe0;subst fe2;subst fe7;subst fe11;clear yf0 yf1 yf2 yf3 yf4 yf5 yf6 yf7 yf8 yf9 yf10 yf11 yN yR yM yP cEq;obtain⟨g1,D3,h3,i3,A3,n3,c3,B3c,m3,d3,C3,k3,e3,hg8,hg1,bg,ru0,ru1,ru2,ru3⟩:=fe10;obtain⟨ow,hob⟩:=fe9;subst hg8;obtain⟨Ap,cp,hpe,hcp,rp⟩:=ow.form;subst hpe;have hlm3:(l.map tri).length=l.length:=List.length_map _;have RP:=hd_ (show RdK w3 (fun b=>b<w3.heap.size) 3 Ap l.length (l.map tri)from by rw [hlm3]at rp;exact rp.both.mono (fun b hb=>hb.2));simp only [hlm3];have q0:=ru0.1.1;have q1:=ru1.1.1;have q2:=ru2.1.1;have q3:=ru3.1.1;rw [QP]at q0 q1 q2 q3;subst q0 q1 q2 q3;have TV:=hd_ (And.intro ru0.1.old (And.intro ru1.1.old (And.intro ru2.1.old ru3.1.old)));have BG:=hd_ bg;have F3:=hd_ (F2.out.trans' hw);have HMY:=hd_ (show ∀s∈l,Yj s from HGG.out.1)
       have HT2:=hd_ (show Fit T2.NL/\Fit T2.NO/\Fit T2.NM/\T2.NL.length<=1000/\T2.NO.length<=1000/\T2.NM.length<=1000 from by
         rcases HGG.out.2.2 with h9|h9
         . have h9':T2=T:=h9
           rw [h9'];exact HTF.out
         obtain⟨a1,a2,a3,a4,a5,a6⟩:=Qa.ok.fits (T:=T2) h9
         exact⟨a1,a2,a3,by omega,by omega,by omega⟩)
       have HR2:=hd_ (show Qw x0 x1 x2=true from HGG.out.2.1);clear ow hob rp hcp ru0 ru1 ru2 ru3 bg hw hg1 fe4 hlm3 HGG HCX2 HNW2 HSD2;(try clear fe0 fe2);by_cases hbg:100<l.length
       . have hbI:(100:Int)<l.length:=by omega
         clear hbg;go_wp2_with fail;refine(HKN.out _).mono ?_;rintro e4 w4 ⟨rfl,f4⟩;have F4:=hd_ ((F3.out).trans' f4);clear f4;go_wp2_with fail;(try go_ret);exact hR.out _ _ ⟨rfl,F0.out.trans' F4.out⟩
       (have hbI:¬(100:Int)<l.length:=by omega);have HLE:=hd_ (show l.length<=100 by omega);clear hbg;go_wp2_with fail;go_loopg [8] l.length (fun f vi wr=>∃j:Nat,j+f=l.length/\vi = .int .i64 j/\Q0 w3 wr)
       case atStart=>exact⟨0,by omega,rfl,Upd.refl _ _⟩
       case round =>
         obtain⟨j,hj,rfl,hu⟩:=hrel;have HJ:=hd_ hj;have HU:=hd_ hu;by_cases hjn:j<l.length
         . have hjI:(j:Int)<l.length:=by omega
           obtain⟨b,o,rfl,_,_,hc⟩:=(RP.out.fresh hu).at_ (r:=0) hjn;rw [List.getElem_map]at hc;have c0:=hc 0 (by omega);have c1:=hc 1 (by omega);have c2:=hc 2 (by omega);simp [tri]at c0 c1 c2;have hw4:IntKind.i64.wrap ((j:Int)+1)=j+1:=IntWalk.i64_in _ (by have:=HLE.out;omega);have hmy:=HMY.out _ (List.getElem_mem hjn);clear hc;generalize l[j]=x at *;clear hj hu;obtain⟨xa,xb,xc⟩:=x;simp only at c0 c1 c2;have HMA:=hd_ (fun W=>Q19 xa xb xc W (by unfold Yj at hmy;simp only at hmy;omega));have hd:decide (Yj (xa,xb,xc))=true:=decide_eq_true hmy;rw [hd]at HMA;clear hmy hd;go_wp2_with fail;refine(HMA.out _).mono ?_;rintro ea wa ⟨rfl,fa⟩;have FA:=hd_ (HU.out.trans' fa);clear fa;go_wp2_with fail;go_roundg (gk-1)
           case measure=>have:=HJ.out;omega
           case rel=>exact⟨j+1,by have:=HJ.out;omega,by go_num,FA.out⟩
         (obtain rfl:j=l.length:=by omega);clear hj hu hjn;have F3r:=hd_ (F3.out.trans' HU.out);(have hfl:∀s∈l,-(2^63)<=s.2.1/\s.2.1<2^63:=fun s hs=>by have:=HMY.out s hs;unfold Yj at this;omega);have HFL:=hd_ hfl;have hen:=HEN.out (fun b=>b<w3.heap.size) Ap l.length cp l wr F3r.out (RP.out.fresh HU.out) hfl (by have:=HLE.out;omega);have he0:=Q07 (T:=T) (a:=r0) (b:=r1) (c:=r2) (l:=l) HRR.out HMY.out (by have:=HLE.out;omega);have HED:=hd_ (Q2u (T:=T) (a:=r0) (b:=r1) (c:=r2) (l:=l) (by have:=HLE.out;omega) he0);have HEB:=hd_ (Vy (T:=T) (a:=r0) (b:=r1) (c:=r2) (l:=l) (by have:=HLE.out;omega) he0);unfold JX at hen;generalize QV T r0 r1 r2 l=S4 at *;obtain⟨s4,eb,T4,y0,y1,y2⟩:=S4;simp only at hen he0 HED HEB;subst he0;simp only [if_true]at hen;have HEE:=hd_ hen;obtain⟨u0,u1,u2,u3,u4,u5,u6,u7,u8,u9⟩:=HCX.out wr F3r.out;clear hen hfl HEN;go_wp2_with fail;refine HEE.out.mono ?_;rintro e5 w5 ⟨f5,v5,D5,h5,i5,A5,n5,c5,B5,m5,d5,C5,k5,e5,rfl,ov,hvb,t0,t1,t2,t3⟩;obtain⟨Av,cv,rfl,hcv,rv⟩:=ov.form;have hnb:(Qb eb).length=eb.length:=Yy eb;have RV:=hd_ (show Rd w5 (fun _=>True) Av eb.length (Qb eb) by rw [<-hnb];exact rv.mono (fun _ _=>trivial));simp only [hnb];have q0:=t0.1.1;have q1:=t1.1.1;have q2:=t2.1.1;have q3:=t3.1.1;rw [QP]at q0 q1 q2 q3;subst q0 q1 q2 q3;have F35:=hd_ (HU.out.trans' f5);have F5:=hd_ (F3.out.trans' (HU.out.trans' f5));clear f5 ov hvb hcv rv t0 t1 t2 t3 HEE hnb u0 u1 u2 u3 u4 u5 u6 u7 u8 u9;go_upto_region 12 with fail;obtain⟨w7,hw7⟩:=nm_ (w5.alloc (.cells #[.slice D5 Tr.length i5,.int .i64 T4.lL,.slice A5 T4.NL.length c5,.int .i64 T4.lO,.slice B5 T4.NO.length d5,.int .i64 T4.lM,.slice C5 T4.NM.length e5,.int .i64 y0,.int .i64 y1,.int .i64 y2] 32));simp only [<-hw7];have F57:=hd_ (show Q0 w5 w7 by rw [hw7];exact(Upd.refl _ _).alloc _);clear hw7;have F7:=hd_ (F5.out.trans' F57.out);have HCX7:=hd_ (fun W (f:Q0 w7 W)=>HCX.out W (F7.out.trans' f));have HNW7:=hd_ (fun W (f:Q0 w7 W)=>Zi (fun _=>True) Av eb.length cv eb W (RV.out.fresh (F57.out.trans' f)) HEB.out.1 (by have:=HEB.out.2.2.1;omega))
         have HSD7:=hd_ (show ∀(F':Nat->Prop) (g:Nat) (W':World),Qi W' F' g eb 0->(∀b,F' b->b≠g)->w7.heap.size<=g->Q0 w7 W'->Calls Tryz.prog 18 #[.pointer (some ⟨g,0,none⟩),.agg #[.slice D h i,.int .i64 T.lL,.slice A n c,.int .i64 T.lO,.slice B m d,.int .i64 T.lM,.slice C k e,.int .i64 r0,.int .i64 r1,.int .i64 r2]] W' (Jh F' g eb ⟨0,l,T4,y0,y1,y2,eb.length⟩ Tr W')from fun F' g W' hc hF hg f=>by
           have hss:=HSD.out eb F' g W' hc hF (by have:=F0.out.size;have:=F7.out.size;omega) (F7.out.trans' f);rw [HED.out]at hss
           exact hss)
         obtain⟨Cw,cEq⟩:=exC (fun W=>Q0 w7 W);obtain⟨Y,yA⟩:=exY [fun xs W=>(xs 0) = .slice Av eb.length cv,fun xs W=>∃g,(xs 1) = .pointer (some ⟨g,0,none⟩)/\w7.heap.size<=g/\Qi W (fun q=>w7.heap.size<=q/\q≠g) g eb 0,fun xs W=>(xs 2) = .agg #[.slice D h i,.int .i64 T.lL,.slice A n c,.int .i64 T.lO,.slice B m d,.int .i64 T.lM,.slice C k e,.int .i64 r0,.int .i64 r1,.int .i64 r2],fun xs W=>∃v3b D3b h3b i3b A3b n3b c3b B3b m3b d3b C3b k3b e3b,(xs 3) = .tuple #[v3b,.agg #[.slice D3b h3b i3b,.int .i64 T4.lL,.slice A3b n3b c3b,.int .i64 T4.lO,.slice B3b m3b d3b,.int .i64 T4.lM,.slice C3b k3b e3b,.int .i64 y0,.int .i64 y1,.int .i64 y2],.int .i64 0]/\(QM W 23 3 v3b (l.map tri)/\∀b,Value.ownBlock v3b=some b->w7.heap.size<=b/\Qc (xs 8) b)/\RdU W (fun b=>w7.heap.size<=b/\Qc (xs 8) b) D3b h3b (Q2 Tr)/\RdU W (fun b=>w7.heap.size<=b/\Qc (xs 8) b) A3b n3b (Q2 T4.NL)/\RdU W (fun b=>w7.heap.size<=b/\Qc (xs 8) b) B3b m3b (Q2 T4.NO)/\RdU W (fun b=>w7.heap.size<=b/\Qc (xs 8) b) C3b k3b (Q2 T4.NM),fun xs W=>∃v3b D3b h3b i3b A3b n3b c3b B3b m3b d3b C3b k3b e3b,(xs 4) = .tuple #[v3b,.agg #[.slice D3b h3b i3b,.int .i64 T4.lL,.slice A3b n3b c3b,.int .i64 T4.lO,.slice B3b m3b d3b,.int .i64 T4.lM,.slice C3b k3b e3b,.int .i64 y0,.int .i64 y1,.int .i64 y2],.int .i64 0]/\(QM W 23 3 v3b (l.map tri)/\∀b,Value.ownBlock v3b=some b->w7.heap.size<=b/\Qc (xs 8) b)/\RdU W (fun b=>w7.heap.size<=b/\Qc (xs 8) b) D3b h3b (Q2 Tr)/\RdU W (fun b=>w7.heap.size<=b/\Qc (xs 8) b) A3b n3b (Q2 T4.NL)/\RdU W (fun b=>w7.heap.size<=b/\Qc (xs 8) b) B3b m3b (Q2 T4.NO)/\RdU W (fun b=>w7.heap.size<=b/\Qc (xs 8) b) C3b k3b (Q2 T4.NM),fun xs W=>QM W 23 3 (xs 5) (l.map tri)/\∀b,Value.ownBlock (xs 5)=some b->w7.heap.size<=b/\Qc (xs 8) b,fun xs W=>∃D3b h3b i3b A3b n3b c3b B3b m3b d3b C3b k3b e3b,(xs 6) = .agg #[.slice D3b h3b i3b,.int .i64 T4.lL,.slice A3b n3b c3b,.int .i64 T4.lO,.slice B3b m3b d3b,.int .i64 T4.lM,.slice C3b k3b e3b,.int .i64 y0,.int .i64 y1,.int .i64 y2]/\RdU W (fun b=>w7.heap.size<=b/\Qc (xs 8) b) D3b h3b (Q2 Tr)/\RdU W (fun b=>w7.heap.size<=b/\Qc (xs 8) b) A3b n3b (Q2 T4.NL)/\RdU W (fun b=>w7.heap.size<=b/\Qc (xs 8) b) B3b m3b (Q2 T4.NO)/\RdU W (fun b=>w7.heap.size<=b/\Qc (xs 8) b) C3b k3b (Q2 T4.NM),fun xs W=>(xs 7) = .int .i64 0,fun xs W=>∃g,(xs 8) = .pointer (some ⟨g,0,none⟩)/\w7.heap.size<=g/\Blk W g 32 #[.slice none 0 0,.int .i64 0,.slice none 0 0,.int .i64 0,.slice none 0 0,.int .i64 0,.slice none 0 0,.int .i64 0,.int .i64 0,.int .i64 0],fun xs W=>QM W 23 3 (xs 9) (l.map tri)/\∀b,Value.ownBlock (xs 9)=some b->w7.heap.size<=b/\Qc (xs 8) b,fun xs W=>∃g D3b h3b i3b A3b n3b c3b B3b m3b d3b C3b k3b e3b,(xs 8) = .pointer (some ⟨g,0,none⟩)/\w7.heap.size<=g/\Blk W g 32 #[.slice D3b h3b i3b,.int .i64 T4.lL,.slice A3b n3b c3b,.int .i64 T4.lO,.slice B3b m3b d3b,.int .i64 T4.lM,.slice C3b k3b e3b,.int .i64 y0,.int .i64 y1,.int .i64 y2]/\RdU W (fun b=>w7.heap.size<=b/\Qc (xs 8) b) D3b h3b (Q2 Tr)/\RdU W (fun b=>w7.heap.size<=b/\Qc (xs 8) b) A3b n3b (Q2 T4.NL)/\RdU W (fun b=>w7.heap.size<=b/\Qc (xs 8) b) B3b m3b (Q2 T4.NO)/\RdU W (fun b=>w7.heap.size<=b/\Qc (xs 8) b) C3b k3b (Q2 T4.NM),fun xs W=>(xs 11) = .int .i64 0]
         have yf0:=yA 0;have yf1:=yA 1;have yf2:=yA 2;have yf3:=yA 3;have yf4:=yA 4;have yf5:=yA 5;have yf6:=yA 6;have yf7:=yA 7;have yf8:=yA 8;have yf9:=yA 9;have yf10:=yA 10;have yf11:=yA 11;simp only [List.getD_cons_zero,List.getD_cons_succ]at yf0 yf1 yf2 yf3 yf4 yf5 yf6 yf7 yf8 yf9 yf10 yf11;(have yN:∀j xs W,12<=j->Y j xs W=True:=fun j xs W hj=>by rw [yA,Z3 _ _ _ hj])
         have yP:∀j xs W W',j∈[0,2,7,11]->Y j xs W->Y j xs W':=by
           intro j xs W W' hj hy;simp only [List.mem_cons,List.not_mem_nil,or_false]at hj;rcases hj with rfl|rfl|rfl|rfl
           . rw [yf0]at hy ⊢;exact hy
           . rw [yf2]at hy ⊢;exact hy
           . rw [yf7]at hy ⊢;exact hy
           rw [yf11]at hy ⊢;exact hy
         have yM:VQ [[0],[1],[2],[3,8],[4,8],[5,8],[6,8],[7],[8],[9,8],[8],[11]] Y:=by
           intro j xs xs' W hh hy;by_cases hj:12<=j
           . rw [yN j _ _ hj];trivial
           (have hj':j=0\/j=1\/j=2\/j=3\/j=4\/j=5\/j=6\/j=7\/j=8\/j=9\/j=10\/j=11:=by omega);rcases hj' with rfl|rfl|rfl|rfl|rfl|rfl|rfl|rfl|rfl|rfl|rfl|rfl
           . rw [yf0]at hy ⊢;rw [<-hh 0 (by decide)];exact hy
           . rw [yf1]at hy ⊢;rw [<-hh 1 (by decide)];exact hy
           . rw [yf2]at hy ⊢;rw [<-hh 2 (by decide)];exact hy
           . rw [yf3]at hy ⊢;rw [<-hh 3 (by decide),<-hh 8 (by decide)];exact hy
           . rw [yf4]at hy ⊢;rw [<-hh 4 (by decide),<-hh 8 (by decide)];exact hy
           . rw [yf5]at hy ⊢;rw [<-hh 5 (by decide),<-hh 8 (by decide)];exact hy
           . rw [yf6]at hy ⊢;rw [<-hh 6 (by decide),<-hh 8 (by decide)];exact hy
           . rw [yf7]at hy ⊢;rw [<-hh 7 (by decide)];exact hy
           . rw [yf8]at hy ⊢;rw [<-hh 8 (by decide)];exact hy
           . rw [yf9]at hy ⊢;rw [<-hh 9 (by decide),<-hh 8 (by decide)];exact hy
           . rw [yf10]at hy ⊢;rw [<-hh 8 (by decide)];exact hy
           rw [yf11]at hy ⊢;rw [<-hh 11 (by decide)];exact hy
         clear yA
         have yR:∀j xs,12<=j->Y j xs (w7.drew):=by
           intro j xs hj;rcases(show 12<=j by omega)with hj;rw [yN _ _ _ hj];trivial
         refine Jf Cw (fun j=>if j=1 then [3,10]else if j=3 then [10]else if j=5 then [10]else if j=6 then [10]else if j=8 then [10]else []) Y [(0,some 67),(1,some 68),(2,some 69),(3,some 70),(4,some 66),(5,some 71),(6,some 72),(7,some 73),(8,some 13),(9,some 12),(10,none),(11,some 14)] (by kernel_rfl) (by kernel_rfl) (by kernel_rfl) (by rw [cEq];exact(Upd.refl _ _).drew) (fun j hj=>yR j _ hj) ?_ ?_
         . refine Qf.cons [] (by kernel_rfl) (fun xs W hw hd lst hl K hK=>?_) ?_
           . rw [cEq]at hw
             have hK':=hK.out;clear hK;simp only [Qd,Act.put,List.setIfInBounds_toArray,List.set_cons_zero,List.set_cons_succ]at hK' ⊢;go_simp;exact hK' _ _ (by rw [cEq];exact hw) (Q9 yM 0 (by kernel_rfl) xs W _) (by rw [yf0];exact if_pos rfl)
           refine Qf.cons [(0,some 67)] (by kernel_rfl) (fun xs W hw hd lst hl K hK=>?_) ?_
           . rw [cEq]at hw
             have hK':=hK.out;clear hK;simp only [Qr]at hd;obtain⟨hf0,_⟩:=hd;simp only [Qd,Act.put,List.setIfInBounds_toArray,List.set_cons_zero,List.set_cons_succ]at hK' ⊢;rw [yf0]at hf0;simp only [hf0]at hK' ⊢;go_simp;refine(HNW7.out W hw).mono ?_;rintro ez wz ⟨gz,rfl,hgz,fz,cuz⟩;have hsz:=hw.size;have hR:=fz;refine hK' (_) (wz) (by rw [cEq];exact hw.trans' fz) (Qu yM 1 (by kernel_rfl) _ fun j hs hy=>?_) (by rw [yf1];(try simp only [↓reduceIte]);try exact⟨gz,rfl,by omega,cuz.mono (fun b hb=>⟨by have:=hb.1;omega,hb.2⟩)⟩);by_cases hp:j∈[0,2,7,11]
             . exact yP j _ _ _ hp hy
             by_cases hj:12<=j
             . rw [yN j _ _ hj];trivial
             simp only [List.mem_cons,List.not_mem_nil,or_false]at hp;rcases(show j=1\/j=3\/j=4\/j=5\/j=6\/j=8\/j=9\/j=10 by omega)with rfl|rfl|rfl|rfl|rfl|rfl|rfl|rfl
             . exact(Q5 hs (by kernel_rfl)).elim
             . exact(Q5 hs (by kernel_rfl)).elim
             . exact(Q5 hs (by kernel_rfl)).elim
             . exact(Q5 hs (by kernel_rfl)).elim
             . exact(Q5 hs (by kernel_rfl)).elim
             . rw [yf8]at hy ⊢;obtain⟨g,k1,k2,k3⟩:=hy;exact⟨g,k1,k2,k3.fresh hR⟩
             . exact(Q5 hs (by kernel_rfl)).elim
             exact(Q5 hs (by kernel_rfl)).elim
           refine Qf.cons [] (by kernel_rfl) (fun xs W hw hd lst hl K hK=>?_) ?_
           . rw [cEq]at hw
             have hK':=hK.out;clear hK;simp only [Qd,Act.put,List.setIfInBounds_toArray,List.set_cons_zero,List.set_cons_succ]at hK' ⊢;have cl:=HCX7.out W hw;obtain⟨cz0,cz1,cz2,cz3,cz4,cz5,cz6,cz7,cz8,cz9⟩:=cl;go_simp;exact hK' _ _ (by rw [cEq];exact hw) (Q9 yM 2 (by kernel_rfl) xs W _) (by rw [yf2];exact if_pos rfl)
           refine Qf.cons [(1,some 68),(2,some 69)] (by kernel_rfl) (fun xs W hw hd lst hl K hK=>?_) ?_
           . rw [cEq]at hw
             have hK':=hK.out;clear hK;simp only [Qr]at hd;obtain⟨hf1,hf2,_⟩:=hd;simp only [Qd,Act.put,List.setIfInBounds_toArray,List.set_cons_zero,List.set_cons_succ]at hK' ⊢;rw [yf1]at hf1;rw [yf2]at hf2;simp only [hf2]at hK' ⊢;obtain⟨gc,h1e,hgc,cuc⟩:=hf1;simp only [h1e]at hK' ⊢;go_simp;have hdc:=HSD7.out _ gc W cuc (fun b hb=>hb.2) hgc hw;unfold Jh at hdc;simp only [if_true]at hdc;(have hcb:∃cs,Blk W gc 67 cs:=by obtain⟨_,_,hx,_⟩:=cuc;exact⟨_,hx⟩);obtain⟨cs,hcb⟩:=hcb
             have h8n:∀b,W.heap.size<=b->Qc (xs 8) b:=by
               intro b hb
               cases h8:lst 8 with
               | false=>rw [hl.out.2.2.1 8 h8];exact Qc.undef b
               | true =>
                 have:=hl.out.2.2.2 8 h8 (fun m hm=>by have h10:m=10:=(by simpa using hm);subst h10;exact hl.out.2.1 10 (by kernel_rfl));rw [yf8]at this;obtain⟨g8,k1,_,k3⟩:=this;rw [k1];exact Qc.ptr (by have:=k3.lt;omega)
             refine hdc.mono ?_;rintro ez wz ⟨ud,v3,D3b,h3b,i3b,A3b,n3b,c3b,B3b,m3b,d3b,C3b,k3b,e3b,rfl,ow3,hv3,t0,t1,t2,t3,cu3⟩;have hsw:=hw.size;have hR:=ud;refine hK' (_) (wz) (by rw [cEq];exact hw.trans ud (fun b hb e=>by omega)) (Qu yM 3 (by kernel_rfl) _ fun j hs hy=>?_) (by rw [yf3];(try simp only [↓reduceIte]);try exact⟨v3,D3b,h3b,i3b,A3b,n3b,c3b,B3b,m3b,d3b,C3b,k3b,e3b,rfl,⟨ow3,fun b hb=>⟨by have:=hv3 b hb;omega,h8n b (hv3 b hb)⟩⟩,t0.mono (fun b hb=>⟨by omega,h8n b hb⟩),t1.mono (fun b hb=>⟨by omega,h8n b hb⟩),t2.mono (fun b hb=>⟨by omega,h8n b hb⟩),t3.mono (fun b hb=>⟨by omega,h8n b hb⟩)⟩);by_cases hp:j∈[0,2,7,11]
             . exact yP j _ _ _ hp hy
             by_cases hj:12<=j
             . rw [yN j _ _ hj];trivial
             simp only [List.mem_cons,List.not_mem_nil,or_false]at hp;rcases(show j=1\/j=3\/j=4\/j=5\/j=6\/j=8\/j=9\/j=10 by omega)with rfl|rfl|rfl|rfl|rfl|rfl|rfl|rfl
             . exact(Q5 hs (by kernel_rfl)).elim
             . exact(Q5 hs (by kernel_rfl)).elim
             . exact(Q5 hs (by kernel_rfl)).elim
             . exact(Q5 hs (by kernel_rfl)).elim
             . exact(Q5 hs (by kernel_rfl)).elim
             . rw [yf8]at hy ⊢;obtain⟨g,k1,k2,k3⟩:=hy;exact⟨g,k1,k2,k3.upd hR (fun e=>k3.ne_ hcb (by decide) e)⟩
             . exact(Q5 hs (by kernel_rfl)).elim
             exact(Q5 hs (by kernel_rfl)).elim
           refine Qf.cons [(3,some 70)] (by kernel_rfl) (fun xs W hw hd lst hl K hK=>?_) ?_
           . rw [cEq]at hw
             have hK':=hK.out;clear hK;simp only [Qr]at hd;obtain⟨hf3,_⟩:=hd;simp only [Qd,Act.put,List.setIfInBounds_toArray,List.set_cons_zero,List.set_cons_succ]at hK' ⊢;rw [yf3]at hf3;go_simp;exact hK' _ _ (by rw [cEq];exact hw) (Q9 yM 4 (by kernel_rfl) xs W _) (by rw [yf4];(try simp only [↓reduceIte,OfNat.ofNat_ne_ofNat,Nat.reduceEqDiff]);exact hf3)
           refine Qf.cons [(4,some 66)] (by kernel_rfl) (fun xs W hw hd lst hl K hK=>?_) ?_
           . rw [cEq]at hw
             have hK':=hK.out;clear hK;simp only [Qr]at hd;obtain⟨hf4,_⟩:=hd;simp only [Qd,Act.put,List.setIfInBounds_toArray,List.set_cons_zero,List.set_cons_succ]at hK' ⊢;rw [yf4]at hf4;obtain⟨v3,D3b,h3b,i3b,A3b,n3b,c3b,B3b,m3b,d3b,C3b,k3b,e3b,h4e,o1,t⟩:=hf4;simp only [h4e]at hK' ⊢;go_simp;exact hK' _ _ (by rw [cEq];exact hw) (Q9 yM 5 (by kernel_rfl) xs W _) (by rw [yf5];(try simp only [↓reduceIte,OfNat.ofNat_ne_ofNat,Nat.reduceEqDiff]);exact o1)
           refine Qf.cons [(4,some 66)] (by kernel_rfl) (fun xs W hw hd lst hl K hK=>?_) ?_
           . rw [cEq]at hw
             have hK':=hK.out;clear hK;simp only [Qr]at hd;obtain⟨hf4,_⟩:=hd;simp only [Qd,Act.put,List.setIfInBounds_toArray,List.set_cons_zero,List.set_cons_succ]at hK' ⊢;rw [yf4]at hf4;obtain⟨v3,D3b,h3b,i3b,A3b,n3b,c3b,B3b,m3b,d3b,C3b,k3b,e3b,h4e,o1,t⟩:=hf4;simp only [h4e]at hK' ⊢;go_simp;exact hK' _ _ (by rw [cEq];exact hw) (Q9 yM 6 (by kernel_rfl) xs W _) (by rw [yf6];(try simp only [↓reduceIte,OfNat.ofNat_ne_ofNat,Nat.reduceEqDiff]);exact⟨D3b,h3b,i3b,A3b,n3b,c3b,B3b,m3b,d3b,C3b,k3b,e3b,rfl,t⟩)
           refine Qf.cons [(4,some 66)] (by kernel_rfl) (fun xs W hw hd lst hl K hK=>?_) ?_
           . rw [cEq]at hw
             have hK':=hK.out;clear hK;simp only [Qr]at hd;obtain⟨hf4,_⟩:=hd;simp only [Qd,Act.put,List.setIfInBounds_toArray,List.set_cons_zero,List.set_cons_succ]at hK' ⊢;rw [yf4]at hf4;obtain⟨v3,D3b,h3b,i3b,A3b,n3b,c3b,B3b,m3b,d3b,C3b,k3b,e3b,h4e,o1,t⟩:=hf4;simp only [h4e]at hK' ⊢;go_simp;exact hK' _ _ (by rw [cEq];exact hw) (Q9 yM 7 (by kernel_rfl) xs W _) (by rw [yf7];(try simp only [↓reduceIte,OfNat.ofNat_ne_ofNat,Nat.reduceEqDiff]);exact rfl)
           refine Qf.cons [] (by kernel_rfl) (fun xs W hw hd lst hl K hK=>?_) ?_
           . rw [cEq]at hw
             have hK':=hK.out;clear hK;simp only [Qd,Act.put,List.setIfInBounds_toArray,List.set_cons_zero,List.set_cons_succ]at hK' ⊢;go_simp;have hfa:Q0 W (W.alloc (.cells #[.slice none 0 0,.int .i64 0,.slice none 0 0,.int .i64 0,.slice none 0 0,.int .i64 0,.slice none 0 0,.int .i64 0,.int .i64 0,.int .i64 0] 32)):=(Upd.refl _ _).alloc _;have hna:∀b,b<W.heap.size->Qc (.pointer (some ⟨W.heap.size,0,none⟩)) b:=fun b hb=>Qc.ptr (by omega);have hsw:=hw.size;have hR:=And.intro hfa hna;refine hK' (_) (_) (by rw [cEq];exact hw.trans' hfa) (fun j hs hy=>?_) (by rw [yf8];(try simp only [↓reduceIte]);try exact⟨W.heap.size,rfl,hsw,Blk.new _ _ _⟩);by_cases hj:12<=j
             . rw [yN j _ _ hj];trivial
             (have hj':j=0\/j=1\/j=2\/j=3\/j=4\/j=5\/j=6\/j=7\/j=8\/j=9\/j=10\/j=11:=by omega);rcases hj' with rfl|rfl|rfl|rfl|rfl|rfl|rfl|rfl|rfl|rfl|rfl|rfl
             . rw [yf0]at hy ⊢;(try simp only [↓reduceIte,OfNat.ofNat_ne_ofNat,Nat.reduceEqDiff]);exact hy
             . rw [yf1]at hy ⊢;(try simp only [↓reduceIte,OfNat.ofNat_ne_ofNat,Nat.reduceEqDiff]);obtain⟨g,k1,k2,k3⟩:=hy;exact⟨g,k1,k2,k3.fresh hR.1⟩
             . rw [yf2]at hy ⊢;(try simp only [↓reduceIte,OfNat.ofNat_ne_ofNat,Nat.reduceEqDiff]);exact hy
             . rw [yf3]at hy ⊢;(try simp only [↓reduceIte,OfNat.ofNat_ne_ofNat,Nat.reduceEqDiff]);obtain⟨v3,D3b,h3b,i3b,A3b,n3b,c3b,B3b,m3b,d3b,C3b,k3b,e3b,k1,⟨o1,o2⟩,t0,t1,t2,t3⟩:=hy;exact⟨v3,D3b,h3b,i3b,A3b,n3b,c3b,B3b,m3b,d3b,C3b,k3b,e3b,k1,⟨o1.fresh hR.1,fun b hb=>⟨(o2 b hb).1,hR.2 b (o1.lt hb)⟩⟩,(t0.both.fresh hR.1).mono (fun b hb=>⟨hb.1.1,hR.2 b hb.2⟩),(t1.both.fresh hR.1).mono (fun b hb=>⟨hb.1.1,hR.2 b hb.2⟩),(t2.both.fresh hR.1).mono (fun b hb=>⟨hb.1.1,hR.2 b hb.2⟩),(t3.both.fresh hR.1).mono (fun b hb=>⟨hb.1.1,hR.2 b hb.2⟩)⟩
             . rw [yf4]at hy ⊢;(try simp only [↓reduceIte,OfNat.ofNat_ne_ofNat,Nat.reduceEqDiff]);obtain⟨v3,D3b,h3b,i3b,A3b,n3b,c3b,B3b,m3b,d3b,C3b,k3b,e3b,k1,⟨o1,o2⟩,t0,t1,t2,t3⟩:=hy;exact⟨v3,D3b,h3b,i3b,A3b,n3b,c3b,B3b,m3b,d3b,C3b,k3b,e3b,k1,⟨o1.fresh hR.1,fun b hb=>⟨(o2 b hb).1,hR.2 b (o1.lt hb)⟩⟩,(t0.both.fresh hR.1).mono (fun b hb=>⟨hb.1.1,hR.2 b hb.2⟩),(t1.both.fresh hR.1).mono (fun b hb=>⟨hb.1.1,hR.2 b hb.2⟩),(t2.both.fresh hR.1).mono (fun b hb=>⟨hb.1.1,hR.2 b hb.2⟩),(t3.both.fresh hR.1).mono (fun b hb=>⟨hb.1.1,hR.2 b hb.2⟩)⟩
             . rw [yf5]at hy ⊢;(try simp only [↓reduceIte,OfNat.ofNat_ne_ofNat,Nat.reduceEqDiff]);exact⟨hy.1.fresh hR.1,fun b hb=>⟨(hy.2 b hb).1,hR.2 b (hy.1.lt hb)⟩⟩
             . rw [yf6]at hy ⊢;(try simp only [↓reduceIte,OfNat.ofNat_ne_ofNat,Nat.reduceEqDiff]);obtain⟨D3b,h3b,i3b,A3b,n3b,c3b,B3b,m3b,d3b,C3b,k3b,e3b,k1,t0,t1,t2,t3⟩:=hy;exact⟨D3b,h3b,i3b,A3b,n3b,c3b,B3b,m3b,d3b,C3b,k3b,e3b,k1,(t0.both.fresh hR.1).mono (fun b hb=>⟨hb.1.1,hR.2 b hb.2⟩),(t1.both.fresh hR.1).mono (fun b hb=>⟨hb.1.1,hR.2 b hb.2⟩),(t2.both.fresh hR.1).mono (fun b hb=>⟨hb.1.1,hR.2 b hb.2⟩),(t3.both.fresh hR.1).mono (fun b hb=>⟨hb.1.1,hR.2 b hb.2⟩)⟩
             . rw [yf7]at hy ⊢;(try simp only [↓reduceIte,OfNat.ofNat_ne_ofNat,Nat.reduceEqDiff]);exact hy
             . exact(Q5 hs (by kernel_rfl)).elim
             . exact(Q5 hs (by kernel_rfl)).elim
             . exact(Q5 hs (by kernel_rfl)).elim
             exact(Q5 hs (by kernel_rfl)).elim
           refine Qf.cons [(5,some 71)] (by kernel_rfl) (fun xs W hw hd lst hl K hK=>?_) ?_
           . rw [cEq]at hw
             have hK':=hK.out;clear hK;simp only [Qr]at hd;obtain⟨hf5,_⟩:=hd;simp only [Qd,Act.put,List.setIfInBounds_toArray,List.set_cons_zero,List.set_cons_succ]at hK' ⊢;rw [yf5]at hf5;go_simp;exact hK' _ _ (by rw [cEq];exact hw) (Q9 yM 9 (by kernel_rfl) xs W _) (by rw [yf9];(try simp only [↓reduceIte,OfNat.ofNat_ne_ofNat,Nat.reduceEqDiff]);exact hf5)
           refine Qf.cons [(8,some 13),(6,some 72)] (by kernel_rfl) (fun xs W hw hd lst hl K hK=>?_) ?_
           . rw [cEq]at hw
             have hK':=hK.out;clear hK;simp only [Qr]at hd;obtain⟨hf8,hf6,_⟩:=hd;simp only [Qd,Act.put,List.setIfInBounds_toArray,List.set_cons_zero,List.set_cons_succ]at hK' ⊢;rw [yf8]at hf8;rw [yf6]at hf6;obtain⟨g,h8e,hg8,b8⟩:=hf8;simp only [h8e]at hK' ⊢;obtain⟨D3b,h3b,i3b,A3b,n3b,c3b,B3b,m3b,d3b,C3b,k3b,e3b,h6e,t0,t1,t2,t3⟩:=hf6;simp only [h6e]at hK' ⊢;simp only [h8e]at t0 t1 t2 t3;(have hn:∀b,Qc (xs 8) b->b≠g:=fun b hb=>by rw [h8e]at hb;exact hb.ne');have cq0:=b8.cell 0;have cq1:=b8.cell 1;have cq2:=b8.cell 2;have cq3:=b8.cell 3;have cq4:=b8.cell 4;have cq5:=b8.cell 5;have cq6:=b8.cell 6;have cq7:=b8.cell 7;have cq8:=b8.cell 8;have cq9:=b8.cell 9;obtain⟨cz0,cz1,cz2,cz3,cz4,cz5,cz6,cz7,cz8,cz9⟩:=(b8).frozens10;simp at cq0 cq1 cq2 cq3 cq4 cq5 cq6 cq7 cq8 cq9;have hO:=b8.set10 (.slice D3b h3b i3b) (.int .i64 T4.lL) (.slice A3b n3b c3b) (.int .i64 T4.lO) (.slice B3b m3b d3b) (.int .i64 T4.lM) (.slice C3b k3b e3b) (.int .i64 y0) (.int .i64 y1) (.int .i64 y2);have us:=Ju W g (.slice D3b h3b i3b) (.int .i64 T4.lL) (.slice A3b n3b c3b) (.int .i64 T4.lO) (.slice B3b m3b d3b) (.int .i64 T4.lM) (.slice C3b k3b e3b) (.int .i64 y0) (.int .i64 y1) (.int .i64 y2);have HO:=hd_ hO;have US:=hd_ us;clear b8 hO us;go_simp;have hR:=US.out;refine hK' (undef) (_) (by rw [cEq];exact hw.trans US.out (fun b hb h=>by omega)) (Qu yM 10 (by kernel_rfl) _ fun j hs hy=>?_) (by rw [yf10];(try simp only [↓reduceIte]);try exact⟨g,D3b,h3b,i3b,A3b,n3b,c3b,B3b,m3b,d3b,C3b,k3b,e3b,h8e,hg8,HO.out,(t0.upd US.out (fun b _ hb e=>hb.2.ne' e)).mono (fun b hb=>by rw [h8e];exact hb),(t1.upd US.out (fun b _ hb e=>hb.2.ne' e)).mono (fun b hb=>by rw [h8e];exact hb),(t2.upd US.out (fun b _ hb e=>hb.2.ne' e)).mono (fun b hb=>by rw [h8e];exact hb),(t3.upd US.out (fun b _ hb e=>hb.2.ne' e)).mono (fun b hb=>by rw [h8e];exact hb)⟩);by_cases hp:j∈[0,2,7,11]
             . exact yP j _ _ _ hp hy
             by_cases hj:12<=j
             . rw [yN j _ _ hj];trivial
             simp only [List.mem_cons,List.not_mem_nil,or_false]at hp;rcases(show j=1\/j=3\/j=4\/j=5\/j=6\/j=8\/j=9\/j=10 by omega)with rfl|rfl|rfl|rfl|rfl|rfl|rfl|rfl
             . exact(Q5 hs (by kernel_rfl)).elim
             . exact(Q5 hs (by kernel_rfl)).elim
             . rw [yf4]at hy ⊢;obtain⟨v3,D3b,h3b,i3b,A3b,n3b,c3b,B3b,m3b,d3b,C3b,k3b,e3b,k1,⟨o1,o2⟩,t0,t1,t2,t3⟩:=hy;exact⟨v3,D3b,h3b,i3b,A3b,n3b,c3b,B3b,m3b,d3b,C3b,k3b,e3b,k1,⟨o1.upd hR (fun b hb e=>hn b (o2 b hb).2 e),o2⟩,t0.upd hR (fun b _ hb e=>hn b hb.2 e),t1.upd hR (fun b _ hb e=>hn b hb.2 e),t2.upd hR (fun b _ hb e=>hn b hb.2 e),t3.upd hR (fun b _ hb e=>hn b hb.2 e)⟩
             . exact(Q5 hs (by kernel_rfl)).elim
             . exact(Q5 hs (by kernel_rfl)).elim
             . exact(Q5 hs (by kernel_rfl)).elim
             . rw [yf9]at hy ⊢;exact⟨hy.1.upd hR (fun b hb e=>hn b (hy.2 b hb).2 e),hy.2⟩
             exact(Q5 hs (by kernel_rfl)).elim
           refine Qf.cons [(7,some 73)] (by kernel_rfl) (fun xs W hw hd lst hl K hK=>?_) ?_
           . rw [cEq]at hw
             have hK':=hK.out;clear hK;simp only [Qr]at hd;obtain⟨hf7,_⟩:=hd;simp only [Qd,Act.put,List.setIfInBounds_toArray,List.set_cons_zero,List.set_cons_succ]at hK' ⊢;rw [yf7]at hf7;simp only [hf7]at hK' ⊢;go_simp;exact hK' _ _ (by rw [cEq];exact hw) (Q9 yM 11 (by kernel_rfl) xs W _) (by rw [yf11];exact if_pos rfl)
           exact Qf.nil
         intro xs w8 hw hd;rw [cEq]at hw;simp only [Kg]at hd;obtain⟨fe0,fe1,fe2,fe3,fe4,fe5,fe6,fe7,fe8,fe9,fe10,fe11,_⟩:=hd;have fe0:=fe0 (by kernel_rfl);rw [yf0]at fe0;have fe2:=fe2 (by kernel_rfl);rw [yf2]at fe2;have fe4:=fe4 (by kernel_rfl);rw [yf4]at fe4;have fe7:=fe7 (by kernel_rfl);rw [yf7]at fe7;have fe9:=fe9 (by kernel_rfl);rw [yf9]at fe9;have fe10:=fe10 (by kernel_rfl);rw [yf10]at fe10;have fe11:=fe11 (by kernel_rfl);rw [yf11]at fe11;clear fe1 fe3 fe5 fe6 fe8;simp only [Qd,Act.put,List.setIfInBounds_toArray,List.set_cons_zero,List.set_cons_succ];generalize xs 0=xv0 at *;generalize xs 1=xv1 at *;generalize xs 2=xv2 at *;generalize xs 3=xv3 at *;generalize xs 4=xv4 at *;generalize xs 5=xv5 at *;generalize xs 6=xv6 at *;generalize xs 7=xv7 at *;generalize xs 8=xv8 at *;generalize xs 9=xv9 at *;generalize xs 10=xv10 at *;generalize xs 11=xv11 at *;subst fe0;subst fe2;subst fe7;subst fe11;clear yf0 yf1 yf2 yf3 yf4 yf5 yf6 yf7 yf8 yf9 yf10 yf11 yN yR yM yP cEq;obtain⟨ow,hob⟩:=fe9;obtain⟨Aq,cq,hpe,hcp,rq⟩:=ow.form;subst hpe;have hlm3:(l.map tri).length=l.length:=List.length_map _;have RQ:=hd_ (show RdK w8 (fun b=>b<w8.heap.size) 3 Aq l.length (l.map tri)from by rw [hlm3]at rq;exact rq.both.mono (fun b hb=>hb.2));simp only [hlm3];have F78:=hd_ hw;have F8:=hd_ (F7.out.trans' hw);have F38:=hd_ ((F35.out.trans' F57.out).trans' hw);clear ow hob rq hcp hw fe4 fe10 hlm3;(try clear fe0 fe2);have hen:=Q5w (fun b=>b<w3.heap.size) (fun b=>b<w3.heap.size) D3 A3 B3c C3 Ap Tr.length i3 T2.NL.length c3 T2.NO.length d3 T2.NM.length e3 l.length cp T2 Tr x0 x1 x2 l w8 (RP.out.fresh F38.out) HFL.out (.inl (by have:=HLE.out;omega)) (by have:=HLE.out;omega) (TV.out.1.fresh F38.out) (TV.out.2.1.fresh F38.out) (TV.out.2.2.1.fresh F38.out) (TV.out.2.2.2.fresh F38.out) HT2.out.1 HT2.out.2.1 HT2.out.2.2.1 (by have:=HTR.out;omega) (by have:=HT2.out.2.2.2.1;omega) (by have:=HT2.out.2.2.2.2.1;omega) (by have:=HT2.out.2.2.2.2.2;omega);have he0:=Q07 (T:=T2) (a:=x0) (b:=x1) (c:=x2) (l:=l) HR2.out HMY.out (by have:=HLE.out;omega);unfold JX at hen;generalize QV T2 x0 x1 x2 l=S6 at *;obtain⟨s6,eb6,T6,z0,z1,z2⟩:=S6;simp only at hen he0;subst he0;simp only [if_true]at hen;have HEE:=hd_ hen;have bX:=BG.out.fresh F38.out;obtain⟨u0,u1,u2,u3,u4,u5,u6,u7,u8,u9⟩:=(bX).cells10;clear hen;go_wp2_with fail;refine HEE.out.mono ?_;rintro e9 w9 ⟨f9,v9,D6,h6,i6,A6,n6,c6,B6,m6,d6,C6,k6,e6,rfl,-,-,-,-,-,-⟩;have F9:=hd_ (F8.out.trans' f9);have F89:=hd_ f9;clear f9 HEE bX u0 u1 u2 u3 u4 u5 u6 u7 u8 u9;go_upto_region 14 with fail;obtain⟨w10,hw10⟩:=nm_ (w9.alloc (.cells #[.slice D6 h6 i6,.int .i64 T6.lL,.slice A6 n6 c6,.int .i64 T6.lO,.slice B6 m6 d6,.int .i64 T6.lM,.slice C6 k6 e6,.int .i64 z0,.int .i64 z1,.int .i64 z2] 32));simp only [<-hw10];have F910:=hd_ (show Q0 w9 w10 by rw [hw10];exact(Upd.refl _ _).alloc _)
         clear hw10;have F10:=hd_ (F9.out.trans' F910.out)
         have HSM:=hd_ (show Calls Tryz.prog 22 #[.slice Ap l.length cp,.slice Aq l.length cq] w10 (fun e w'=>e = .returned (.bool true)/\Q0 w10 w')from by
           have hsm:=Vw (fun b=>b<w3.heap.size) (fun b=>b<w8.heap.size) Ap Aq l.length l.length cp cq l l w10 (RP.out.fresh ((F38.out.trans' F89.out).trans' F910.out)) (RQ.out.fresh (F89.out.trans' F910.out)) (by have:=HLE.out;omega) (by have:=HLE.out;omega);(have hdl:decide (l=l)=true:=by simp);rw [hdl]at hsm
           exact hsm)
         go_wp2_with fail;refine HSM.out.mono ?_;rintro ea wa ⟨rfl,fa⟩;have FA:=hd_ (F10.out.trans' fa);have bX:=BG.out.fresh (((F38.out.trans' F89.out).trans' F910.out).trans' fa);have u7:=bX.cell 7;have u8:=bX.cell 8;have u9:=bX.cell 9;simp at u7 u8 u9
         have HRQ:=hd_ (show Calls Tryz.prog 25 #[.agg #[.int .i64 x0,.int .i64 x1,.int .i64 x2]] wa (fun e w'=>e = .returned (.bool true)/\Q0 wa w')from by
           have hrq:=Q6u x0 x1 x2 wa;rw [HR2.out]at hrq
           exact hrq)
         clear fa bX HSM;go_wp2_with fail;refine HRQ.out.mono ?_;rintro eb_ wb ⟨rfl,fb⟩;have FB:=hd_ (FA.out.trans' fb);clear fb HRQ u7 u8 u9;go_wp2_with fail;refine(HKN.out _).mono ?_;rintro e20 w20 ⟨rfl,f20⟩;have F20:=hd_ ((FB.out).trans' f20);clear f20;go_wp2_with fail;(try go_ret);exact hR.out _ _ ⟨rfl,F0.out.trans' F20.out⟩
     have HNE:=hd_ he;(have hne:(s0 != 0)=true:=by simpa using he);(have hne2:(s0 == 0)=false:=by simpa using he);clear he HGD HRP;obtain⟨Cw,cEq⟩:=exC (fun W=>Q0 w2 W);obtain⟨Y,yA⟩:=exY [fun xs W=>(xs 0) = .slice Ab nb cb,fun xs W=>∃g,(xs 1) = .pointer (some ⟨g,0,none⟩)/\w2.heap.size<=g/\Qi W (fun q=>w2.heap.size<=q/\q≠g) g bs 0,fun xs W=>(xs 2) = .agg #[.slice D h i,.int .i64 T.lL,.slice A n c,.int .i64 T.lO,.slice B m d,.int .i64 T.lM,.slice C k e,.int .i64 r0,.int .i64 r1,.int .i64 r2],fun xs W=>(xs 3) = .tuple #[.slice none 0 0,.agg #[.slice none 0 0,.int .i64 0,.slice none 0 0,.int .i64 0,.slice none 0 0,.int .i64 0,.slice none 0 0,.int .i64 0,.int .i64 0,.int .i64 0],.int .i64 s0],fun xs W=>(xs 4) = .tuple #[.slice none 0 0,.agg #[.slice none 0 0,.int .i64 0,.slice none 0 0,.int .i64 0,.slice none 0 0,.int .i64 0,.slice none 0 0,.int .i64 0,.int .i64 0,.int .i64 0],.int .i64 s0],fun xs W=>(xs 5) = .slice none 0 0,fun xs W=>(xs 6) = .agg #[.slice none 0 0,.int .i64 0,.slice none 0 0,.int .i64 0,.slice none 0 0,.int .i64 0,.slice none 0 0,.int .i64 0,.int .i64 0,.int .i64 0],fun xs W=>(xs 7) = .int .i64 s0,fun xs W=>∃g,(xs 8) = .pointer (some ⟨g,0,none⟩)/\w2.heap.size<=g/\Blk W g 32 #[.slice none 0 0,.int .i64 0,.slice none 0 0,.int .i64 0,.slice none 0 0,.int .i64 0,.slice none 0 0,.int .i64 0,.int .i64 0,.int .i64 0],fun xs W=>(xs 9) = .slice none 0 0,fun xs W=>True,fun xs W=>(xs 11) = .int .i64 s0];have yf0:=yA 0;have yf1:=yA 1;have yf2:=yA 2;have yf3:=yA 3;have yf4:=yA 4;have yf5:=yA 5;have yf6:=yA 6;have yf7:=yA 7;have yf8:=yA 8;have yf9:=yA 9;have yf10:=yA 10;have yf11:=yA 11;simp only [List.getD_cons_zero,List.getD_cons_succ]at yf0 yf1 yf2 yf3 yf4 yf5 yf6 yf7 yf8 yf9 yf10 yf11;(have yN:∀j xs W,12<=j->Y j xs W=True:=fun j xs W hj=>by rw [yA,Z3 _ _ _ hj])
     have yP:∀j xs W W',j∈[0,2,3,4,5,6,7,9,10,11]->Y j xs W->Y j xs W':=by
       intro j xs W W' hj hy;simp only [List.mem_cons,List.not_mem_nil,or_false]at hj;rcases hj with rfl|rfl|rfl|rfl|rfl|rfl|rfl|rfl|rfl|rfl
       . rw [yf0]at hy ⊢;exact hy
       . rw [yf2]at hy ⊢;exact hy
       . rw [yf3]at hy ⊢;exact hy
       . rw [yf4]at hy ⊢;exact hy
       . rw [yf5]at hy ⊢;exact hy
       . rw [yf6]at hy ⊢;exact hy
       . rw [yf7]at hy ⊢;exact hy
       . rw [yf9]at hy ⊢;exact hy
       . rw [yf10]at hy ⊢;exact hy
       rw [yf11]at hy ⊢;exact hy
     have yM:VQ [[0],[1],[2],[3],[4],[5],[6],[7],[8],[9],[],[11]] Y:=by
       intro j xs xs' W hh hy;by_cases hj:12<=j
       . rw [yN j _ _ hj];trivial
       (have hj':j=0\/j=1\/j=2\/j=3\/j=4\/j=5\/j=6\/j=7\/j=8\/j=9\/j=10\/j=11:=by omega);rcases hj' with rfl|rfl|rfl|rfl|rfl|rfl|rfl|rfl|rfl|rfl|rfl|rfl
       . rw [yf0]at hy ⊢;rw [<-hh 0 (by decide)];exact hy
       . rw [yf1]at hy ⊢;rw [<-hh 1 (by decide)];exact hy
       . rw [yf2]at hy ⊢;rw [<-hh 2 (by decide)];exact hy
       . rw [yf3]at hy ⊢;rw [<-hh 3 (by decide)];exact hy
       . rw [yf4]at hy ⊢;rw [<-hh 4 (by decide)];exact hy
       . rw [yf5]at hy ⊢;rw [<-hh 5 (by decide)];exact hy
       . rw [yf6]at hy ⊢;rw [<-hh 6 (by decide)];exact hy
       . rw [yf7]at hy ⊢;rw [<-hh 7 (by decide)];exact hy
       . rw [yf8]at hy ⊢;rw [<-hh 8 (by decide)];exact hy
       . rw [yf9]at hy ⊢;rw [<-hh 9 (by decide)];exact hy
       . rw [yf10]at hy ⊢;exact hy
       rw [yf11]at hy ⊢;rw [<-hh 11 (by decide)];exact hy
     clear yA
     have yR:∀j xs,12<=j->Y j xs (w2.drew):=by
       intro j xs hj;rcases(show 12<=j by omega)with hj;rw [yN _ _ _ hj];trivial
     refine Jf Cw (fun j=>if j=1 then [3,10]else if j=3 then [10]else if j=5 then [10]else if j=6 then [10]else if j=8 then [10]else []) Y [(0,some 32),(1,some 33),(2,some 34),(3,some 35),(4,some 31),(5,some 36),(6,some 37),(7,some 38),(8,some 6),(9,some 5),(10,none),(11,some 7)] (by kernel_rfl) (by kernel_rfl) (by kernel_rfl) (by rw [cEq];exact(Upd.refl _ _).drew) (fun j hj=>yR j _ hj) ?_ ?_
     . refine Qf.cons [] (by kernel_rfl) (fun xs W hw hd lst hl K hK=>?_) ?_
       . rw [cEq]at hw
         have hK':=hK.out;clear hK;simp only [Qd,Act.put,List.setIfInBounds_toArray,List.set_cons_zero,List.set_cons_succ]at hK' ⊢;go_simp;exact hK' _ _ (by rw [cEq];exact hw) (Q9 yM 0 (by kernel_rfl) xs W _) (by rw [yf0];exact if_pos rfl)
       refine Qf.cons [(0,some 32)] (by kernel_rfl) (fun xs W hw hd lst hl K hK=>?_) ?_
       . rw [cEq]at hw
         have hK':=hK.out;clear hK;simp only [Qr]at hd;obtain⟨hf0,_⟩:=hd;simp only [Qd,Act.put,List.setIfInBounds_toArray,List.set_cons_zero,List.set_cons_succ]at hK' ⊢;rw [yf0]at hf0;simp only [hf0]at hK' ⊢;go_simp;refine(HNW2.out W hw).mono ?_;rintro ez wz ⟨gz,rfl,hgz,fz,cuz⟩;have hsz:=hw.size;have hR:=fz;refine hK' (_) (wz) (by rw [cEq];exact hw.trans' fz) (Qu yM 1 (by kernel_rfl) _ fun j hs hy=>?_) (by rw [yf1];(try simp only [↓reduceIte]);try exact⟨gz,rfl,by omega,cuz.mono (fun b hb=>⟨by have:=hb.1;omega,hb.2⟩)⟩);by_cases hp:j∈[0,2,3,4,5,6,7,9,10,11]
         . exact yP j _ _ _ hp hy
         by_cases hj:12<=j
         . rw [yN j _ _ hj];trivial
         simp only [List.mem_cons,List.not_mem_nil,or_false]at hp;rcases(show j=1\/j=8 by omega)with rfl|rfl
         . exact(Q5 hs (by kernel_rfl)).elim
         rw [yf8]at hy ⊢;obtain⟨g,k1,k2,k3⟩:=hy;exact⟨g,k1,k2,k3.fresh hR⟩
       refine Qf.cons [] (by kernel_rfl) (fun xs W hw hd lst hl K hK=>?_) ?_
       . rw [cEq]at hw
         have hK':=hK.out;clear hK;simp only [Qd,Act.put,List.setIfInBounds_toArray,List.set_cons_zero,List.set_cons_succ]at hK' ⊢;have cl:=HCX2.out W hw;obtain⟨cz0,cz1,cz2,cz3,cz4,cz5,cz6,cz7,cz8,cz9⟩:=cl;go_simp;exact hK' _ _ (by rw [cEq];exact hw) (Q9 yM 2 (by kernel_rfl) xs W _) (by rw [yf2];exact if_pos rfl)
       refine Qf.cons [(1,some 33),(2,some 34)] (by kernel_rfl) (fun xs W hw hd lst hl K hK=>?_) ?_
       . rw [cEq]at hw
         have hK':=hK.out;clear hK;simp only [Qr]at hd;obtain⟨hf1,hf2,_⟩:=hd;simp only [Qd,Act.put,List.setIfInBounds_toArray,List.set_cons_zero,List.set_cons_succ]at hK' ⊢;rw [yf1]at hf1;rw [yf2]at hf2;simp only [hf2]at hK' ⊢;obtain⟨gc,h1e,hgc,cuc⟩:=hf1;simp only [h1e]at hK' ⊢;go_simp;have hdc:=HSD2.out _ gc W cuc (fun b hb=>hb.2) hgc hw;unfold Jh at hdc;simp only [if_neg (HNE.out)]at hdc;(have hcb:∃cs,Blk W gc 67 cs:=by obtain⟨_,_,hx,_⟩:=cuc;exact⟨_,hx⟩);obtain⟨cs,hcb⟩:=hcb
         have h8n:∀b,W.heap.size<=b->Qc (xs 8) b:=by
           intro b hb
           cases h8:lst 8 with
           | false=>rw [hl.out.2.2.1 8 h8];exact Qc.undef b
           | true =>
             have:=hl.out.2.2.2 8 h8 (fun m hm=>by have h10:m=10:=(by simpa using hm);subst h10;exact hl.out.2.1 10 (by kernel_rfl));rw [yf8]at this;obtain⟨g8,k1,_,k3⟩:=this;rw [k1];exact Qc.ptr (by have:=k3.lt;omega)
         refine hdc.mono ?_;rintro ez wz ⟨ud,rfl⟩;have hsw:=hw.size;have hR:=ud;refine hK' (_) (wz) (by rw [cEq];exact hw.trans ud (fun b hb e=>by omega)) (Qu yM 3 (by kernel_rfl) _ fun j hs hy=>?_) (by rw [yf3];(try simp only [↓reduceIte]);try exact rfl);by_cases hp:j∈[0,2,3,4,5,6,7,9,10,11]
         . exact yP j _ _ _ hp hy
         by_cases hj:12<=j
         . rw [yN j _ _ hj];trivial
         simp only [List.mem_cons,List.not_mem_nil,or_false]at hp;rcases(show j=1\/j=8 by omega)with rfl|rfl
         . exact(Q5 hs (by kernel_rfl)).elim
         rw [yf8]at hy ⊢;obtain⟨g,k1,k2,k3⟩:=hy;exact⟨g,k1,k2,k3.upd hR (fun e=>k3.ne_ hcb (by decide) e)⟩
       refine Qf.cons [(3,some 35)] (by kernel_rfl) (fun xs W hw hd lst hl K hK=>?_) ?_
       . rw [cEq]at hw
         have hK':=hK.out;clear hK;simp only [Qr]at hd;obtain⟨hf3,_⟩:=hd;simp only [Qd,Act.put,List.setIfInBounds_toArray,List.set_cons_zero,List.set_cons_succ]at hK' ⊢;rw [yf3]at hf3;simp only [hf3]at hK' ⊢;go_simp;exact hK' _ _ (by rw [cEq];exact hw) (Q9 yM 4 (by kernel_rfl) xs W _) (by rw [yf4];exact if_pos rfl)
       refine Qf.cons [(4,some 31)] (by kernel_rfl) (fun xs W hw hd lst hl K hK=>?_) ?_
       . rw [cEq]at hw
         have hK':=hK.out;clear hK;simp only [Qr]at hd;obtain⟨hf4,_⟩:=hd;simp only [Qd,Act.put,List.setIfInBounds_toArray,List.set_cons_zero,List.set_cons_succ]at hK' ⊢;rw [yf4]at hf4;simp only [hf4]at hK' ⊢;go_simp;exact hK' _ _ (by rw [cEq];exact hw) (Q9 yM 5 (by kernel_rfl) xs W _) (by rw [yf5];exact if_pos rfl)
       refine Qf.cons [(4,some 31)] (by kernel_rfl) (fun xs W hw hd lst hl K hK=>?_) ?_
       . rw [cEq]at hw
         have hK':=hK.out;clear hK;simp only [Qr]at hd;obtain⟨hf4,_⟩:=hd;simp only [Qd,Act.put,List.setIfInBounds_toArray,List.set_cons_zero,List.set_cons_succ]at hK' ⊢;rw [yf4]at hf4;simp only [hf4]at hK' ⊢;go_simp;exact hK' _ _ (by rw [cEq];exact hw) (Q9 yM 6 (by kernel_rfl) xs W _) (by rw [yf6];exact if_pos rfl)
       refine Qf.cons [(4,some 31)] (by kernel_rfl) (fun xs W hw hd lst hl K hK=>?_) ?_
       . rw [cEq]at hw
         have hK':=hK.out;clear hK;simp only [Qr]at hd;obtain⟨hf4,_⟩:=hd;simp only [Qd,Act.put,List.setIfInBounds_toArray,List.set_cons_zero,List.set_cons_succ]at hK' ⊢;rw [yf4]at hf4;simp only [hf4]at hK' ⊢;go_simp;exact hK' _ _ (by rw [cEq];exact hw) (Q9 yM 7 (by kernel_rfl) xs W _) (by rw [yf7];exact if_pos rfl)
       refine Qf.cons [] (by kernel_rfl) (fun xs W hw hd lst hl K hK=>?_) ?_
       . rw [cEq]at hw
         have hK':=hK.out;clear hK;simp only [Qd,Act.put,List.setIfInBounds_toArray,List.set_cons_zero,List.set_cons_succ]at hK' ⊢;go_simp;have hfa:Q0 W (W.alloc (.cells #[.slice none 0 0,.int .i64 0,.slice none 0 0,.int .i64 0,.slice none 0 0,.int .i64 0,.slice none 0 0,.int .i64 0,.int .i64 0,.int .i64 0] 32)):=(Upd.refl _ _).alloc _;have hna:∀b,b<W.heap.size->Qc (.pointer (some ⟨W.heap.size,0,none⟩)) b:=fun b hb=>Qc.ptr (by omega);have hsw:=hw.size;have hR:=And.intro hfa hna;refine hK' (_) (_) (by rw [cEq];exact hw.trans' hfa) (Qu yM 8 (by kernel_rfl) _ fun j hs hy=>?_) (by rw [yf8];(try simp only [↓reduceIte]);try exact⟨W.heap.size,rfl,hsw,Blk.new _ _ _⟩);by_cases hp:j∈[0,2,3,4,5,6,7,9,10,11]
         . exact yP j _ _ _ hp hy
         by_cases hj:12<=j
         . rw [yN j _ _ hj];trivial
         simp only [List.mem_cons,List.not_mem_nil,or_false]at hp;rcases(show j=1\/j=8 by omega)with rfl|rfl
         . rw [yf1]at hy ⊢;obtain⟨g,k1,k2,k3⟩:=hy;exact⟨g,k1,k2,k3.fresh hR.1⟩
         exact(Q5 hs (by kernel_rfl)).elim
       refine Qf.cons [(5,some 36)] (by kernel_rfl) (fun xs W hw hd lst hl K hK=>?_) ?_
       . rw [cEq]at hw
         have hK':=hK.out;clear hK;simp only [Qr]at hd;obtain⟨hf5,_⟩:=hd;simp only [Qd,Act.put,List.setIfInBounds_toArray,List.set_cons_zero,List.set_cons_succ]at hK' ⊢;rw [yf5]at hf5;simp only [hf5]at hK' ⊢;go_simp;exact hK' _ _ (by rw [cEq];exact hw) (Q9 yM 9 (by kernel_rfl) xs W _) (by rw [yf9];exact if_pos rfl)
       refine Qf.cons [(8,some 6),(6,some 37)] (by kernel_rfl) (fun xs W hw hd lst hl K hK=>?_) ?_
       . rw [cEq]at hw
         have hK':=hK.out;clear hK;simp only [Qr]at hd;obtain⟨hf8,hf6,_⟩:=hd;simp only [Qd,Act.put,List.setIfInBounds_toArray,List.set_cons_zero,List.set_cons_succ]at hK' ⊢;rw [yf8]at hf8;rw [yf6]at hf6;simp only [hf6]at hK' ⊢;obtain⟨g,h8e,hg8,b8⟩:=hf8;simp only [h8e]at hK' ⊢;(have hn:∀b,Qc (xs 8) b->b≠g:=fun b hb=>by rw [h8e]at hb;exact hb.ne');have cq0:=b8.cell 0;have cq1:=b8.cell 1;have cq2:=b8.cell 2;have cq3:=b8.cell 3;have cq4:=b8.cell 4;have cq5:=b8.cell 5;have cq6:=b8.cell 6;have cq7:=b8.cell 7;have cq8:=b8.cell 8;have cq9:=b8.cell 9;obtain⟨cz0,cz1,cz2,cz3,cz4,cz5,cz6,cz7,cz8,cz9⟩:=(b8).frozens10;simp at cq0 cq1 cq2 cq3 cq4 cq5 cq6 cq7 cq8 cq9;have hO:=b8.set10 (.slice none 0 0) (.int .i64 0) (.slice none 0 0) (.int .i64 0) (.slice none 0 0) (.int .i64 0) (.slice none 0 0) (.int .i64 0) (.int .i64 0) (.int .i64 0);have us:=Ju W g (.slice none 0 0) (.int .i64 0) (.slice none 0 0) (.int .i64 0) (.slice none 0 0) (.int .i64 0) (.slice none 0 0) (.int .i64 0) (.int .i64 0) (.int .i64 0);have HO:=hd_ hO;have US:=hd_ us;clear b8 hO us;go_simp;have hR:=US.out;refine hK' (undef) (_) (by rw [cEq];exact hw.trans US.out (fun b hb h=>by omega)) (Qu yM 10 (by kernel_rfl) _ fun j hs hy=>?_) (by rw [yf10];(try simp only [↓reduceIte]);try exact trivial);by_cases hp:j∈[0,2,3,4,5,6,7,9,10,11]
         . exact yP j _ _ _ hp hy
         by_cases hj:12<=j
         . rw [yN j _ _ hj];trivial
         simp only [List.mem_cons,List.not_mem_nil,or_false]at hp;rcases(show j=1\/j=8 by omega)with rfl|rfl
         . exact(Q5 hs (by kernel_rfl)).elim
         exact(Q5 hs (by kernel_rfl)).elim
       refine Qf.cons [(7,some 38)] (by kernel_rfl) (fun xs W hw hd lst hl K hK=>?_) ?_
       . rw [cEq]at hw
         have hK':=hK.out;clear hK;simp only [Qr]at hd;obtain⟨hf7,_⟩:=hd;simp only [Qd,Act.put,List.setIfInBounds_toArray,List.set_cons_zero,List.set_cons_succ]at hK' ⊢;rw [yf7]at hf7;simp only [hf7]at hK' ⊢;go_simp;exact hK' _ _ (by rw [cEq];exact hw) (Q9 yM 11 (by kernel_rfl) xs W _) (by rw [yf11];exact if_pos rfl)
       exact Qf.nil
     intro xs W hw hd;rw [cEq]at hw;simp only [Kg]at hd;obtain⟨fe0,fe1,fe2,fe3,fe4,fe5,fe6,fe7,fe8,fe9,fe10,fe11,_⟩:=hd;have fe0:=fe0 (by kernel_rfl);rw [yf0]at fe0;have fe2:=fe2 (by kernel_rfl);rw [yf2]at fe2;have fe4:=fe4 (by kernel_rfl);rw [yf4]at fe4;have fe7:=fe7 (by kernel_rfl);rw [yf7]at fe7;have fe9:=fe9 (by kernel_rfl);rw [yf9]at fe9;have fe10:=fe10 (by kernel_rfl);rw [yf10]at fe10;have fe11:=fe11 (by kernel_rfl);rw [yf11]at fe11;clear fe1 fe3 fe5 fe6 fe8;simp only [Qd,Act.put,List.setIfInBounds_toArray,List.set_cons_zero,List.set_cons_succ];generalize xs 0=xv0 at *;generalize xs 1=xv1 at *;generalize xs 2=xv2 at *;generalize xs 3=xv3 at *;generalize xs 4=xv4 at *;generalize xs 5=xv5 at *;generalize xs 6=xv6 at *;generalize xs 7=xv7 at *;generalize xs 8=xv8 at *;generalize xs 9=xv9 at *;generalize xs 10=xv10 at *;generalize xs 11=xv11 at *;subst fe0;subst fe2;subst fe4;subst fe7;subst fe9;subst fe11;clear yf0 yf1 yf2 yf3 yf4 yf5 yf6 yf7 yf8 yf9 yf10 yf11 yN yR yM yP cEq;have F3:=hd_ (F2.out.trans' hw);clear hw;go_wp2_with fail;refine(HKN.out _).mono ?_;rintro e4 w4 ⟨rfl,f4⟩;have F4:=hd_ ((F3.out).trans' f4);clear f4;go_wp2_with fail;(try go_ret);exact hR.out _ _ ⟨rfl,F0.out.trans' F4.out⟩
 have hd:decide (h<=300/\n<=300/\m<=300/\k<=300)=false:=decide_eq_false hfew;rw [hd]at HFW;clear hbig hfew hd hbl;clear hw0 hH f0 bc p0 p1 p2 p3 f1 f2 f3 hB hlt hTr hNL hNO hNM;refine Q7 fun R hR=>?_;obtain⟨u0,u1,u2,u3,u4,u5,u6,u7,u8,u9⟩:=HCX.out w0 (Upd.refl _ _);go_enter Tryz.func8,Tryz.ntmps8;go_upto_region 1 with fail;simp only [<-HH.out,<-HW.out];go_wp2_with fail;refine(HFW.out _).mono ?_;rintro e1 w1 ⟨rfl,f1⟩;have F1:=hd_ f1;clear f1;go_wp2_with fail;refine(HKN.out _).mono ?_;rintro e2 w2 ⟨rfl,f2⟩;have F2:=hd_ ((F1.out).trans' f2);clear f2;go_wp2_with fail;(try go_ret);exact hR.out _ _ ⟨rfl,F0.out.trans' F2.out⟩
end Go.Proofs.YtjfdaphjijfieaaGreat
