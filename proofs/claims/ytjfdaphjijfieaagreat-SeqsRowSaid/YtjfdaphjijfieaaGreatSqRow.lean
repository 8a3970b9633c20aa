/-
  SeqsRow: the law's function answers true.
  Conditions: none beyond those of each theorem.
-/
import Derived.Test.YtjfdaphjijfieaaGreatK41
import Derived.Test.YtjfdaphjijfieaaGreatK37
import Derived.Test.YtjfdaphjijfieaaGreatK5
set_option maxHeartbeats 20000000
namespace Go.Proofs.YtjfdaphjijfieaaGreat
open Go.RowKit
set_option linter.unusedVariables false
set_option linter.unusedSimpArgs false
set_option maxRecDepth 100000 in
theorem Q9P (D A B C:Option Addr) (h i n c m d k e:Nat) (T:Qa) (Tr:List Int) (r0 r1 r2:Int) (L M:Option Addr) (nl dl nm dm:Nat) (l lm:List (Int × Int × Int)) (w:World) (p0:Rd w (fun _=>True) D h (Q2 Tr)) (p1:Rd w (fun _=>True) A n (Q2 T.NL)) (p2:Rd w (fun _=>True) B m (Q2 T.NO)) (p3:Rd w (fun _=>True) C k (Q2 T.NM)) (f1:Fit T.NL) (f2:Fit T.NO) (f3:Fit T.NM)
   (hL:RdK w (fun _=>True) 3 L nl (l.map tri)) (hfitL:∀s∈l,-(2^63)<=s.2.1/\s.2.1<2^63) (hM:RdK w (fun _=>True) 3 M nm (lm.map tri)) (hfitM:∀s∈lm,-(2^63)<=s.2.1/\s.2.1<2^63) :
   Calls Tryz.prog 7 #[.agg #[.slice D h i,.int .i64 T.lL,.slice A n c,.int .i64 T.lO,.slice B m d,.int .i64 T.lM,.slice C k e,.int .i64 r0,.int .i64 r1,.int .i64 r2],.slice L nl dl,.slice M nm dm] w fun e' w'=>e' = .returned (.bool true)/\Q0 w w':=by
 obtain⟨w0,hw0⟩:=nm_ (w.alloc (.cells #[.slice D h i,.int .i64 T.lL,.slice A n c,.int .i64 T.lO,.slice B m d,.int .i64 T.lM,.slice C k e,.int .i64 r0,.int .i64 r1,.int .i64 r2] 32));obtain⟨H,hH⟩:=nm_ (w.heap.size);(have f0:Q0 w w0:=by rw [hw0];exact(Upd.refl _ _).alloc _);(have bc:Blk w0 H 32 #[.slice D h i,.int .i64 T.lL,.slice A n c,.int .i64 T.lO,.slice B m d,.int .i64 T.lM,.slice C k e,.int .i64 r0,.int .i64 r1,.int .i64 r2]:=by rw [hw0];exact Q1 hH _ _);(have hTr:Tr.length=h:=by have:=p0.1;rw [QP]at this;exact this);(have hNL:T.NL.length=n:=by have:=p1.1;rw [QP]at this;exact this);(have hNO:T.NO.length=m:=by have:=p2.1;rw [QP]at this;exact this);(have hNM:T.NM.length=k:=by have:=p3.1;rw [QP]at this;exact this);(have hll:l.length=nl:=by have:=hL.1;simpa using this);(have hlm:lm.length=nm:=by have:=hM.1;simpa using this);have HFW:=hd_ (fun W=>Q0J D A B C h i n c m d k e T r0 r1 r2 W);have HKN:=hd_ Ve
 have HCX:=hd_ (show ∀W,Q0 w0 W->W.cell? ⟨H,0,none⟩=some (.slice D h i)/\W.cell? ⟨H,1,none⟩=some (.int .i64 T.lL)/\W.cell? ⟨H,2,none⟩=some (.slice A n c)/\W.cell? ⟨H,3,none⟩=some (.int .i64 T.lO)/\W.cell? ⟨H,4,none⟩=some (.slice B m d)/\W.cell? ⟨H,5,none⟩=some (.int .i64 T.lM)/\W.cell? ⟨H,6,none⟩=some (.slice C k e)/\W.cell? ⟨H,7,none⟩=some (.int .i64 r0)/\W.cell? ⟨H,8,none⟩=some (.int .i64 r1)/\W.cell? ⟨H,9,none⟩=some (.int .i64 r2)from fun W f=>by
   have bb:=bc.fresh f
   exact bb.cells10)
 have HW:=hd_ hw0;have HH:=hd_ hH;have F0:=hd_ f0;have HRL:=hd_ (fun W (f:Q0 w0 W)=>(hL.fresh f0).fresh f);have HRM:=hd_ (fun W (f:Q0 w0 W)=>(hM.fresh f0).fresh f);by_cases hbig:30<nl
 . have hb:(30:Int)<nl:=by omega
   clear hbig;clear hw0 hH f0 bc p0 p1 p2 p3 f1 f2 f3 hL hM hfitL hfitM hTr hNL hNO hNM hll hlm;refine Q7 fun R hR=>?_;obtain⟨u0,u1,u2,u3,u4,u5,u6,u7,u8,u9⟩:=HCX.out w0 (Upd.refl _ _);go_enter Tryz.func7,Tryz.ntmps7;go_upto_region 1 with fail;simp only [<-HH.out,<-HW.out];go_wp2_with fail;refine(HKN.out _).mono ?_;rintro e1 w1 ⟨rfl,f1⟩;have F1:=hd_ ((Upd.refl _ _).trans' f1);clear f1;go_wp2_with fail;(try go_ret);exact hR.out _ _ ⟨rfl,F0.out.trans' F1.out⟩
 (have hb:¬(30:Int)<nl:=by omega);by_cases hbig2:30<nm
 . have hb2:(30:Int)<nm:=by omega
   clear hbig hbig2;clear hw0 hH f0 bc p0 p1 p2 p3 f1 f2 f3 hL hM hfitL hfitM hTr hNL hNO hNM hll hlm;refine Q7 fun R hR=>?_;obtain⟨u0,u1,u2,u3,u4,u5,u6,u7,u8,u9⟩:=HCX.out w0 (Upd.refl _ _);go_enter Tryz.func7,Tryz.ntmps7;go_upto_region 1 with fail;simp only [<-HH.out,<-HW.out];go_wp2_with fail;refine(HKN.out _).mono ?_;rintro e1 w1 ⟨rfl,f1⟩;have F1:=hd_ ((Upd.refl _ _).trans' f1);clear f1;go_wp2_with fail;(try go_ret);exact hR.out _ _ ⟨rfl,F0.out.trans' F1.out⟩
 (have hb2:¬(30:Int)<nm:=by omega);by_cases hfew:h<=300/\n<=300/\m<=300/\k<=300
 . have HEN:=hd_ (fun W (f:Q0 w0 W)=>X5 (fun _=>True) (fun b=>b<w.heap.size) D A B C L h i n c m d k e nl dl T Tr r0 r1 r2 l W ((hL.fresh f0).fresh f) hfitL (by omega) ((p0.old.fresh f0).fresh f) ((p1.old.fresh f0).fresh f) ((p2.old.fresh f0).fresh f) ((p3.old.fresh f0).fresh f) f1 f2 f3 (by omega) (by omega) (by omega) (by omega))
   have HSD:=hd_ (fun(F':Nat->Prop) (g:Nat) (bs:List Nat) (W:World) (hc:Qi W F' g bs 0) (hF:∀b,F' b->b≠g) (hg:w.heap.size<=g) (f:Q0 w0 W)=>VL F' (fun b=>b<w.heap.size) g bs 0 D A B C h i n c m d k e T Tr r0 r1 r2 W hc hF (fun b hb=>by omega) ((p0.old.fresh f0).fresh f) ((p1.old.fresh f0).fresh f) ((p2.old.fresh f0).fresh f) ((p3.old.fresh f0).fresh f) f1 f2 f3 (by omega) (by omega) (by omega) (by omega));have HED:=hd_ (fun he=>Q2u (T:=T) (a:=r0) (b:=r1) (c:=r2) (l:=l) (by omega) he);have HEB:=hd_ (fun he=>Vy (T:=T) (a:=r0) (b:=r1) (c:=r2) (l:=l) (by omega) he);have HET:=hd_ (fun he=>Q39 (T:=T) (a:=r0) (b:=r1) (c:=r2) (l:=l) he f1 f2 f3 (by omega) (by omega) (by omega));have HTR:=hd_ (show Tr.length<=1000 by omega);have HNL:=hd_ (show nl<=30/\nm<=30/\l.length=nl/\lm.length=nm by omega);have HFM:=hd_ hfitM;have hd:decide (h<=300/\n<=300/\m<=300/\k<=300)=true:=decide_eq_true hfew;rw [hd]at HFW;unfold JX at HEN;generalize QV T r0 r1 r2 l=S at *;obtain⟨s0,bs,T2,x0,x1,x2⟩:=S;simp only at HEN HED HEB HET;clear hbig hbig2 hfew hd;clear hw0 hH f0 bc p0 p1 p2 p3 f1 f2 f3 hL hM hfitL hfitM hTr hNL hNO hNM hll hlm;refine Q7 fun R hR=>?_;obtain⟨u0,u1,u2,u3,u4,u5,u6,u7,u8,u9⟩:=HCX.out w0 (Upd.refl _ _);go_enter Tryz.func7,Tryz.ntmps7;go_upto_region 1 with fail;simp only [<-HH.out,<-HW.out];go_wp2_with fail;refine(HFW.out _).mono ?_;rintro e1 w1 ⟨rfl,f1⟩;have F1:=hd_ f1;clear f1;clear u0 u1 u2 u3 u4 u5 u6 u7 u8 u9;obtain⟨u0,u1,u2,u3,u4,u5,u6,u7,u8,u9⟩:=HCX.out w1 F1.out;by_cases he:s0=0
   . subst he
     have HED2:=hd_ (HED.out rfl);have HEB2:=hd_ (HEB.out rfl);have HET2:=hd_ (HET.out rfl);have hee:=HEN.out w1 F1.out;simp only [if_true]at hee;have HEE:=hd_ hee;clear HED HEB HET HEN hee;go_wp2_with fail;refine HEE.out.mono ?_;rintro e2 w2 ⟨f2,v,D2,h2,i2,A2,n2,c2,B2,m2,d2,C2,k2,e2,rfl,ov,hvb,t0,t1,t2,t3⟩;obtain⟨Av,cv,rfl,hcv,rv⟩:=ov.form;have F12:=hd_ f2;have F2:=hd_ (F1.out.trans' f2);have hnb:(Qb bs).length=bs.length:=Yy bs;have RV:=hd_ (show Rd w2 (fun _=>True) Av bs.length (Qb bs) by rw [<-hnb];exact rv.mono (fun _ _=>trivial));simp only [hnb];have q0:=t0.1.1;have q1:=t1.1.1;have q2:=t2.1.1;have q3:=t3.1.1;rw [QP]at q0 q1 q2 q3;subst q0 q1 q2 q3;have TT:=hd_ (And.intro t0.1.old (And.intro t1.1.old (And.intro t2.1.old t3.1.old)));clear f2 ov hvb hcv rv t0 t1 t2 t3 HEE hnb u0 u1 u2 u3 u4 u5 u6 u7 u8 u9;go_upto_region 4 with fail;obtain⟨K2,hK2⟩:=nm_ (w2.heap.size);obtain⟨w3,hw3⟩:=nm_ (w2.alloc (.cells #[.slice D2 Tr.length i2,.int .i64 T2.lL,.slice A2 T2.NL.length c2,.int .i64 T2.lO,.slice B2 T2.NO.length d2,.int .i64 T2.lM,.slice C2 T2.NM.length e2,.int .i64 x0,.int .i64 x1,.int .i64 x2] 32));simp only [<-hK2,<-hw3];have F23:=hd_ (show Q0 w2 w3 by rw [hw3];exact(Upd.refl _ _).alloc _);have B3:=hd_ (show Blk w3 K2 32 #[.slice D2 Tr.length i2,.int .i64 T2.lL,.slice A2 T2.NL.length c2,.int .i64 T2.lO,.slice B2 T2.NO.length d2,.int .i64 T2.lM,.slice C2 T2.NM.length e2,.int .i64 x0,.int .i64 x1,.int .i64 x2] by rw [hw3];exact Q1 hK2 _ _);clear hw3 hK2;have F3:=hd_ (F2.out.trans' F23.out);have bX:=B3.out;obtain⟨v0,v1,v2,v3,v4,v5,v6,v7,v8,v9⟩:=(bX).cells10;have HEM:=hd_ (fun W (f:Q0 w2 W)=>X5 (fun _=>True) (fun b=>b<w2.heap.size) D2 A2 B2 C2 M Tr.length i2 T2.NL.length c2 T2.NO.length d2 T2.NM.length e2 nm dm T2 Tr x0 x1 x2 lm W (HRM.out W (F2.out.trans' f)) HFM.out (by have:=HNL.out;omega) (TT.out.1.fresh f) (TT.out.2.1.fresh f) (TT.out.2.2.1.fresh f) (TT.out.2.2.2.fresh f) HET2.out.1 HET2.out.2.1 HET2.out.2.2.1 (by have:=HTR.out;omega) (by have:=HET2.out;omega) (by have:=HET2.out;omega) (by have:=HET2.out;omega));have HGD:=hd_ (fun he=>Q2u (T:=T2) (a:=x0) (b:=x1) (c:=x2) (l:=lm) (by have:=HNL.out;omega) he);have HGB:=hd_ (fun he=>Vy (T:=T2) (a:=x0) (b:=x1) (c:=x2) (l:=lm) (by have:=HNL.out;omega) he);have HGT:=hd_ (fun he=>Q39 (T:=T2) (a:=x0) (b:=x1) (c:=x2) (l:=lm) he HET2.out.1 HET2.out.2.1 HET2.out.2.2.1 HET2.out.2.2.2.1 HET2.out.2.2.2.2.1 HET2.out.2.2.2.2.2.1);have HGE:=hd_ (fun hm=>Q07 (T:=T2) (a:=x0) (b:=x1) (c:=x2) (l:=lm) HET2.out.2.2.2.2.2.2 hm (by have:=HNL.out;omega));have HG2:=hd_ (Q9K (T:=T2) (a:=x0) (b:=x1) (c:=x2) (l:=lm) HET2.out.2.2.2.2.2.2 (by have:=HNL.out;omega));unfold JX at HEM;generalize QV T2 x0 x1 x2 lm=S4 at *
     obtain⟨s4,bs4,T4,y0,y1,y2⟩:=S4;simp only at HEM HGD HGB HGT HGE HG2;by_cases he4:s4=0
     . subst he4
       have HGD2:=hd_ (HGD.out rfl);have HGB2:=hd_ (HGB.out rfl);have HGT2:=hd_ (HGT.out rfl);have hee:=HEM.out w3 F23.out;simp only [if_true]at hee;have HEE:=hd_ hee;clear HGD HGB HGT HEM HGE HG2 hee bX;go_wp2_with fail;refine HEE.out.mono ?_;rintro e4 w4 ⟨f4,v4,D4,h4,i4,A4,n4,c4,B4,m4,d4,C4,k4,e4,rfl,ov,hvb,t0,t1,t2,t3⟩;obtain⟨Aw,cw,rfl,hcv,rv⟩:=ov.form;have F34:=hd_ f4;have F4:=hd_ (F3.out.trans' f4);have hnb:(Qb bs4).length=bs4.length:=Yy bs4;have RW:=hd_ (show Rd w4 (fun _=>True) Aw bs4.length (Qb bs4) by rw [<-hnb];exact rv.mono (fun _ _=>trivial));simp only [hnb];have q0:=t0.1.1;have q1:=t1.1.1;have q2:=t2.1.1;have q3:=t3.1.1;rw [QP]at q0 q1 q2 q3;subst q0 q1 q2 q3;have TS:=hd_ (And.intro t0.1.old (And.intro t1.1.old (And.intro t2.1.old t3.1.old)));clear f4 ov hvb hcv rv t0 t1 t2 t3 HEE hnb v0 v1 v2 v3 v4 v5 v6 v7 v8 v9;go_upto_region 7 with fail;obtain⟨K4,hK4⟩:=nm_ (w4.heap.size);obtain⟨w5,hw5⟩:=nm_ (w4.alloc (.cells #[.slice D4 Tr.length i4,.int .i64 T4.lL,.slice A4 T4.NL.length c4,.int .i64 T4.lO,.slice B4 T4.NO.length d4,.int .i64 T4.lM,.slice C4 T4.NM.length e4,.int .i64 y0,.int .i64 y1,.int .i64 y2] 32));simp only [<-hK4,<-hw5];have F45:=hd_ (show Q0 w4 w5 by rw [hw5];exact(Upd.refl _ _).alloc _);have B5:=hd_ (show Blk w5 K4 32 #[.slice D4 Tr.length i4,.int .i64 T4.lL,.slice A4 T4.NL.length c4,.int .i64 T4.lO,.slice B4 T4.NO.length d4,.int .i64 T4.lM,.slice C4 T4.NM.length e4,.int .i64 y0,.int .i64 y1,.int .i64 y2] by rw [hw5];exact Q1 hK4 _ _);clear hw5 hK4;have F5:=hd_ (F4.out.trans' F45.out);go_upto_region 14 with fail;have HCX5:=hd_ (fun W (f:Q0 w5 W)=>HCX.out W (F5.out.trans' f));have HNW5:=hd_ (fun W (f:Q0 w5 W)=>Zi (fun _=>True) Av bs.length cv bs W (by have:=RV.out.fresh (((F23.out.trans' F34.out).trans' F45.out).trans' f);exact this) HEB2.out.1 (by have:=HEB2.out.2.2.1;omega))
       have HSD5:=hd_ (show ∀(F':Nat->Prop) (g:Nat) (W':World),Qi W' F' g bs 0->(∀b,F' b->b≠g)->w5.heap.size<=g->Q0 w5 W'->Calls Tryz.prog 18 #[.pointer (some ⟨g,0,none⟩),.agg #[.slice D h i,.int .i64 T.lL,.slice A n c,.int .i64 T.lO,.slice B m d,.int .i64 T.lM,.slice C k e,.int .i64 r0,.int .i64 r1,.int .i64 r2]] W' (Jh F' g bs ⟨0,l,T2,x0,x1,x2,bs.length⟩ Tr W')from fun F' g W' hc hF hg f=>by
         have hss:=HSD.out F' g bs W' hc hF (by have:=F0.out.size;have:=F5.out.size;omega) (F5.out.trans' f);rw [HED2.out]at hss
         exact hss)
       obtain⟨Cw,cEq⟩:=exC (fun W=>Q0 w5 W);obtain⟨Y,yA⟩:=exY [fun xs W=>(xs 0) = .slice Av bs.length cv,fun xs W=>∃g,(xs 1) = .pointer (some ⟨g,0,none⟩)/\w5.heap.size<=g/\Qi W (fun q=>w5.heap.size<=q/\q≠g) g bs 0,fun xs W=>(xs 2) = .agg #[.slice D h i,.int .i64 T.lL,.slice A n c,.int .i64 T.lO,.slice B m d,.int .i64 T.lM,.slice C k e,.int .i64 r0,.int .i64 r1,.int .i64 r2],fun xs W=>∃v3 D3 h3 i3 A3 n3 c3 B3 m3 d3 C3 k3 e3,(xs 3) = .tuple #[v3,.agg #[.slice D3 h3 i3,.int .i64 T2.lL,.slice A3 n3 c3,.int .i64 T2.lO,.slice B3 m3 d3,.int .i64 T2.lM,.slice C3 k3 e3,.int .i64 x0,.int .i64 x1,.int .i64 x2],.int .i64 0]/\(QM W 23 3 v3 (l.map tri)/\∀b,Value.ownBlock v3=some b->w5.heap.size<=b/\Qc (xs 8) b)/\RdU W (fun b=>w5.heap.size<=b/\Qc (xs 8) b) D3 h3 (Q2 Tr)/\RdU W (fun b=>w5.heap.size<=b/\Qc (xs 8) b) A3 n3 (Q2 T2.NL)/\RdU W (fun b=>w5.heap.size<=b/\Qc (xs 8) b) B3 m3 (Q2 T2.NO)/\RdU W (fun b=>w5.heap.size<=b/\Qc (xs 8) b) C3 k3 (Q2 T2.NM),fun xs W=>∃v3 D3 h3 i3 A3 n3 c3 B3 m3 d3 C3 k3 e3,(xs 4) = .tuple #[v3,.agg #[.slice D3 h3 i3,.int .i64 T2.lL,.slice A3 n3 c3,.int .i64 T2.lO,.slice B3 m3 d3,.int .i64 T2.lM,.slice C3 k3 e3,.int .i64 x0,.int .i64 x1,.int .i64 x2],.int .i64 0]/\(QM W 23 3 v3 (l.map tri)/\∀b,Value.ownBlock v3=some b->w5.heap.size<=b/\Qc (xs 8) b)/\RdU W (fun b=>w5.heap.size<=b/\Qc (xs 8) b) D3 h3 (Q2 Tr)/\RdU W (fun b=>w5.heap.size<=b/\Qc (xs 8) b) A3 n3 (Q2 T2.NL)/\RdU W (fun b=>w5.heap.size<=b/\Qc (xs 8) b) B3 m3 (Q2 T2.NO)/\RdU W (fun b=>w5.heap.size<=b/\Qc (xs 8) b) C3 k3 (Q2 T2.NM),fun xs W=>QM W 23 3 (xs 5) (l.map tri)/\∀b,Value.ownBlock (xs 5)=some b->w5.heap.size<=b/\Qc (xs 8) b,fun xs W=>∃D3 h3 i3 A3 n3 c3 B3 m3 d3 C3 k3 e3,(xs 6) = .agg #[.slice D3 h3 i3,.int .i64 T2.lL,.slice A3 n3 c3,.int .i64 T2.lO,.slice B3 m3 d3,.int .i64 T2.lM,.slice C3 k3 e3,.int .i64 x0,.int .i64 x1,.int .i64 x2]/\RdU W (fun b=>w5.heap.size<=b/\Qc (xs 8) b) D3 h3 (Q2 Tr)/\RdU W (fun b=>w5.heap.size<=b/\Qc (xs 8) b) A3 n3 (Q2 T2.NL)/\RdU W (fun b=>w5.heap.size<=b/\Qc (xs 8) b) B3 m3 (Q2 T2.NO)/\RdU W (fun b=>w5.heap.size<=b/\Qc (xs 8) b) C3 k3 (Q2 T2.NM),fun xs W=>(xs 7) = .int .i64 0,fun xs W=>∃g,(xs 8) = .pointer (some ⟨g,0,none⟩)/\w5.heap.size<=g/\Blk W g 32 #[.slice none 0 0,.int .i64 0,.slice none 0 0,.int .i64 0,.slice none 0 0,.int .i64 0,.slice none 0 0,.int .i64 0,.int .i64 0,.int .i64 0],fun xs W=>QM W 23 3 (xs 9) (l.map tri)/\∀b,Value.ownBlock (xs 9)=some b->w5.heap.size<=b/\Qc (xs 8) b,fun xs W=>∃g D3 h3 i3 A3 n3 c3 B3 m3 d3 C3 k3 e3,(xs 8) = .pointer (some ⟨g,0,none⟩)/\w5.heap.size<=g/\Blk W g 32 #[.slice D3 h3 i3,.int .i64 T2.lL,.slice A3 n3 c3,.int .i64 T2.lO,.slice B3 m3 d3,.int .i64 T2.lM,.slice C3 k3 e3,.int .i64 x0,.int .i64 x1,.int .i64 x2]/\RdU W (fun b=>w5.heap.size<=b/\Qc (xs 8) b) D3 h3 (Q2 Tr)/\RdU W (fun b=>w5.heap.size<=b/\Qc (xs 8) b) A3 n3 (Q2 T2.NL)/\RdU W (fun b=>w5.heap.size<=b/\Qc (xs 8) b) B3 m3 (Q2 T2.NO)/\RdU W (fun b=>w5.heap.size<=b/\Qc (xs 8) b) C3 k3 (Q2 T2.NM),fun xs W=>(xs 11) = .int .i64 0]
       have yf0:=yA 0;have yf1:=yA 1;have yf2:=yA 2;have yf3:=yA 3;have yf4:=yA 4;have yf5:=yA 5;have yf6:=yA 6;have yf7:=yA 7;have yf8:=yA 8;have yf9:=yA 9;have yf10:=yA 10;have yf11:=yA 11;simp only [List.getD_cons_zero,List.getD_cons_succ]at yf0 yf1 yf2 yf3 yf4 yf5 yf6 yf7 yf8 yf9 yf10 yf11;(have yN:∀j xs W,12<=j->Y j xs W=True:=fun j xs W hj=>by rw [yA,Z3 _ _ _ hj])
       have yP:∀j xs W W',j∈[0,2,7,11]->Y j xs W->Y j xs W':=by
         intro j xs W W' hj hy;simp only [List.mem_cons,List.not_mem_nil,or_false]at hj;rcases hj with rfl|rfl|rfl|rfl
         . rw [yf0]at hy ⊢;exact hy
         . rw [yf2]at hy ⊢;exact hy
         . rw [yf7]at hy ⊢;exact hy
         rw [yf11]at hy ⊢;exact hy
       have yM:VQ [[0],[1],[2],[3,8],[4,8],[5,8],[6,8],[7],[8],[9,8],[8],[11]] Y:=by
         intro j xs xs' W hh hy;by_cases hj:12<=j
         . rw [yN j _ _ hj];trivial
         (have hj':j=0\/j=1\/j=2\/j=3\/j=4\/j=5\/j=6\/j=7\/j=8\/j=9\/j=10\/j=11:=by omega);rcases hj' with rfl|rfl|rfl|rfl|rfl|rfl|rfl|rfl|rfl|rfl|rfl|rfl
         . rw [yf0]at hy ⊢;rw [<-hh 0 (by decide)];exact hy
         . rw [yf1]at hy ⊢;rw [<-hh 1 (by decide)];exact hy
         . rw [yf2]at hy ⊢;rw [<-hh 2 (by decide)];exact hy
         . rw [yf3]at hy ⊢;rw [<-hh 3 (by decide),<-hh 8 (by decide)];exact hy
         . rw [yf4]at hy ⊢;rw [<-hh 4 (by decide),<-hh 8 (by decide)];exact hy
         . rw [yf5]at hy ⊢;rw [<-hh 5 (by decide),<-hh 8 (by decide)];exact hy
         . rw [yf6]at hy ⊢;rw [<-hh 6 (by decide),<-hh 8 (by decide)];exact hy
         . rw [yf7]at hy ⊢;rw [<-hh 7 (by decide)];exact hy
         . rw [yf8]at hy ⊢;rw [<-hh 8 (by decide)];exact hy
         . rw [yf9]at hy ⊢;rw [<-hh 9 (by decide),<-hh 8 (by decide)];exact hy
         . rw [yf10]at hy ⊢;rw [<-hh 8 (by decide)];exact hy
         rw [yf11]at hy ⊢;rw [<-hh 11 (by decide)];exact hy
       clear yA
       have yR:∀j xs,12<=j->Y j xs (w5.drew):=by
         intro j xs hj;rcases(show 12<=j by omega)with hj;rw [yN _ _ _ hj];trivial
       refine Jf Cw (fun j=>if j=1 then [3,10]else if j=3 then [10]else if j=5 then [10]else if j=6 then [10]else if j=8 then [10]else []) Y [(0,some 71),(1,some 72),(2,some 73),(3,some 74),(4,some 70),(5,some 75),(6,some 76),(7,some 77),(8,some 15),(9,some 14),(10,none),(11,some 16)] (by kernel_rfl) (by kernel_rfl) (by kernel_rfl) (by rw [cEq];exact(Upd.refl _ _).drew) (fun j hj=>yR j _ hj) ?_ ?_
       . refine Qf.cons [] (by kernel_rfl) (fun xs W hw hd lst hl K hK=>?_) ?_
         . rw [cEq]at hw
           have hK':=hK.out;clear hK;simp only [Qd,Act.put,List.setIfInBounds_toArray,List.set_cons_zero,List.set_cons_succ]at hK' ⊢;go_simp;exact hK' _ _ (by rw [cEq];exact hw) (Q9 yM 0 (by kernel_rfl) xs W _) (by rw [yf0];exact if_pos rfl)
         refine Qf.cons [(0,some 71)] (by kernel_rfl) (fun xs W hw hd lst hl K hK=>?_) ?_
         . rw [cEq]at hw
           have hK':=hK.out;clear hK;simp only [Qr]at hd;obtain⟨hf0,_⟩:=hd;simp only [Qd,Act.put,List.setIfInBounds_toArray,List.set_cons_zero,List.set_cons_succ]at hK' ⊢;rw [yf0]at hf0;simp only [hf0]at hK' ⊢;go_simp;refine(HNW5.out W hw).mono ?_;rintro ez wz ⟨gz,rfl,hgz,fz,cuz⟩;have hsz:=hw.size;have hR:=fz;refine hK' (_) (wz) (by rw [cEq];exact hw.trans' fz) (Qu yM 1 (by kernel_rfl) _ fun j hs hy=>?_) (by rw [yf1];(try simp only [↓reduceIte]);try exact⟨gz,rfl,by omega,cuz.mono (fun b hb=>⟨by have:=hb.1;omega,hb.2⟩)⟩);by_cases hp:j∈[0,2,7,11]
           . exact yP j _ _ _ hp hy
           by_cases hj:12<=j
           . rw [yN j _ _ hj];trivial
           simp only [List.mem_cons,List.not_mem_nil,or_false]at hp;rcases(show j=1\/j=3\/j=4\/j=5\/j=6\/j=8\/j=9\/j=10 by omega)with rfl|rfl|rfl|rfl|rfl|rfl|rfl|rfl
           . exact(Q5 hs (by kernel_rfl)).elim
           . exact(Q5 hs (by kernel_rfl)).elim
           . exact(Q5 hs (by kernel_rfl)).elim
           . exact(Q5 hs (by kernel_rfl)).elim
           . exact(Q5 hs (by kernel_rfl)).elim
           . rw [yf8]at hy ⊢;obtain⟨g,k1,k2,k3⟩:=hy;exact⟨g,k1,k2,k3.fresh hR⟩
           . exact(Q5 hs (by kernel_rfl)).elim
           exact(Q5 hs (by kernel_rfl)).elim
         refine Qf.cons [] (by kernel_rfl) (fun xs W hw hd lst hl K hK=>?_) ?_
         . rw [cEq]at hw
           have hK':=hK.out;clear hK;simp only [Qd,Act.put,List.setIfInBounds_toArray,List.set_cons_zero,List.set_cons_succ]at hK' ⊢;have cl:=HCX5.out W hw;obtain⟨cz0,cz1,cz2,cz3,cz4,cz5,cz6,cz7,cz8,cz9⟩:=cl;go_simp;exact hK' _ _ (by rw [cEq];exact hw) (Q9 yM 2 (by kernel_rfl) xs W _) (by rw [yf2];exact if_pos rfl)
         refine Qf.cons [(1,some 72),(2,some 73)] (by kernel_rfl) (fun xs W hw hd lst hl K hK=>?_) ?_
         . rw [cEq]at hw
           have hK':=hK.out;clear hK;simp only [Qr]at hd;obtain⟨hf1,hf2,_⟩:=hd;simp only [Qd,Act.put,List.setIfInBounds_toArray,List.set_cons_zero,List.set_cons_succ]at hK' ⊢;rw [yf1]at hf1;rw [yf2]at hf2;simp only [hf2]at hK' ⊢;obtain⟨gc,h1e,hgc,cuc⟩:=hf1;simp only [h1e]at hK' ⊢;go_simp;have hdc:=HSD5.out _ gc W cuc (fun b hb=>hb.2) hgc hw;unfold Jh at hdc;simp only [if_true]at hdc;(have hcb:∃cs,Blk W gc 67 cs:=by obtain⟨_,_,hx,_⟩:=cuc;exact⟨_,hx⟩);obtain⟨cs,hcb⟩:=hcb
           have h8n:∀b,W.heap.size<=b->Qc (xs 8) b:=by
             intro b hb
             cases h8:lst 8 with
             | false=>rw [hl.out.2.2.1 8 h8];exact Qc.undef b
             | true =>
               have:=hl.out.2.2.2 8 h8 (fun m hm=>by have h10:m=10:=(by simpa using hm);subst h10;exact hl.out.2.1 10 (by kernel_rfl));rw [yf8]at this;obtain⟨g8,k1,_,k3⟩:=this;rw [k1];exact Qc.ptr (by have:=k3.lt;omega)
           refine hdc.mono ?_;rintro ez wz ⟨ud,v3,D3,h3,i3,A3,n3,c3,B3,m3,d3,C3,k3,e3,rfl,ow3,hv3,t0,t1,t2,t3,cu3⟩;have hsw:=hw.size;have hR:=ud;refine hK' (_) (wz) (by rw [cEq];exact hw.trans ud (fun b hb e=>by omega)) (Qu yM 3 (by kernel_rfl) _ fun j hs hy=>?_) (by rw [yf3];(try simp only [↓reduceIte]);try exact⟨v3,D3,h3,i3,A3,n3,c3,B3,m3,d3,C3,k3,e3,rfl,⟨ow3,fun b hb=>⟨by have:=hv3 b hb;omega,h8n b (hv3 b hb)⟩⟩,t0.mono (fun b hb=>⟨by omega,h8n b hb⟩),t1.mono (fun b hb=>⟨by omega,h8n b hb⟩),t2.mono (fun b hb=>⟨by omega,h8n b hb⟩),t3.mono (fun b hb=>⟨by omega,h8n b hb⟩)⟩);by_cases hp:j∈[0,2,7,11]
           . exact yP j _ _ _ hp hy
           by_cases hj:12<=j
           . rw [yN j _ _ hj];trivial
           simp only [List.mem_cons,List.not_mem_nil,or_false]at hp;rcases(show j=1\/j=3\/j=4\/j=5\/j=6\/j=8\/j=9\/j=10 by omega)with rfl|rfl|rfl|rfl|rfl|rfl|rfl|rfl
           . exact(Q5 hs (by kernel_rfl)).elim
           . exact(Q5 hs (by kernel_rfl)).elim
           . exact(Q5 hs (by kernel_rfl)).elim
           . exact(Q5 hs (by kernel_rfl)).elim
           . exact(Q5 hs (by kernel_rfl)).elim
           . rw [yf8]at hy ⊢;obtain⟨g,k1,k2,k3⟩:=hy;exact⟨g,k1,k2,k3.upd hR (fun e=>k3.ne_ hcb (by decide) e)⟩
           . exact(Q5 hs (by kernel_rfl)).elim
           exact(Q5 hs (by kernel_rfl)).elim
         refine Qf.cons [(3,some 74)] (by kernel_rfl) (fun xs W hw hd lst hl K hK=>?_) ?_
         . rw [cEq]at hw
           have hK':=hK.out;clear hK;simp only [Qr]at hd;obtain⟨hf3,_⟩:=hd;simp only [Qd,Act.put,List.setIfInBounds_toArray,List.set_cons_zero,List.set_cons_succ]at hK' ⊢;rw [yf3]at hf3;go_simp;exact hK' _ _ (by rw [cEq];exact hw) (Q9 yM 4 (by kernel_rfl) xs W _) (by rw [yf4];(try simp only [↓reduceIte,OfNat.ofNat_ne_ofNat,Nat.reduceEqDiff]);exact hf3)
         refine Qf.cons [(4,some 70)] (by kernel_rfl) (fun xs W hw hd lst hl K hK=>?_) ?_
         . rw [cEq]at hw
           have hK':=hK.out;clear hK;simp only [Qr]at hd;obtain⟨hf4,_⟩:=hd;simp only [Qd,Act.put,List.setIfInBounds_toArray,List.set_cons_zero,List.set_cons_succ]at hK' ⊢;rw [yf4]at hf4;obtain⟨v3,D3,h3,i3,A3,n3,c3,B3,m3,d3,C3,k3,e3,h4e,o1,t⟩:=hf4;simp only [h4e]at hK' ⊢;go_simp;exact hK' _ _ (by rw [cEq];exact hw) (Q9 yM 5 (by kernel_rfl) xs W _) (by rw [yf5];(try simp only [↓reduceIte,OfNat.ofNat_ne_ofNat,Nat.reduceEqDiff]);exact o1)
         refine Qf.cons [(4,some 70)] (by kernel_rfl) (fun xs W hw hd lst hl K hK=>?_) ?_
         . rw [cEq]at hw
           have hK':=hK.out;clear hK;simp only [Qr]at hd;obtain⟨hf4,_⟩:=hd;simp only [Qd,Act.put,List.setIfInBounds_toArray,List.set_cons_zero,List.set_cons_succ]at hK' ⊢;rw [yf4]at hf4;obtain⟨v3,D3,h3,i3,A3,n3,c3,B3,m3,d3,C3,k3,e3,h4e,o1,t⟩:=hf4;simp only [h4e]at hK' ⊢;go_simp;exact hK' _ _ (by rw [cEq];exact hw) (Q9 yM 6 (by kernel_rfl) xs W _) (by rw [yf6];(try simp only [↓reduceIte,OfNat.ofNat_ne_ofNat,Nat.reduceEqDiff]);exact⟨D3,h3,i3,A3,n3,c3,B3,m3,d3,C3,k3,e3,rfl,t⟩)
         refine Qf.cons [(4,some 70)] (by kernel_rfl) (fun xs W hw hd lst hl K hK=>?_) ?_
         . rw [cEq]at hw
           have hK':=hK.out;clear hK;simp only [Qr]at hd;obtain⟨hf4,_⟩:=hd;simp only [Qd,Act.put,List.setIfInBounds_toArray,List.set_cons_zero,List.set_cons_succ]at hK' ⊢;rw [yf4]at hf4;obtain⟨v3,D3,h3,i3,A3,n3,c3,B3,m3,d3,C3,k3,e3,h4e,o1,t⟩:=hf4;simp only [h4e]at hK' ⊢;go_simp;exact hK' _ _ (by rw [cEq];exact hw) (Q9 yM 7 (by kernel_rfl) xs W _) (by rw [yf7];(try simp only [↓reduceIte,OfNat.ofNat_ne_ofNat,Nat.reduceEqDiff]);exact rfl)
         refine Qf.cons [] (by kernel_rfl) (fun xs W hw hd lst hl K hK=>?_) ?_
         . rw [cEq]at hw
           have hK':=hK.out;clear hK;simp only [Qd,Act.put,List.setIfInBounds_toArray,List.set_cons_zero,List.set_cons_succ]at hK' ⊢;go_simp;have hfa:Q0 W (W.alloc (.cells #[.slice none 0 0,.int .i64 0,.slice none 0 0,.int .i64 0,.slice none 0 0,.int .i64 0,.slice none 0 0,.int .i64 0,.int .i64 0,.int .i64 0] 32)):=(Upd.refl _ _).alloc _;have hna:∀b,b<W.heap.size->Qc (.pointer (some ⟨W.heap.size,0,none⟩)) b:=fun b hb=>Qc.ptr (by omega);have hsw:=hw.size;have hR:=And.intro hfa hna;refine hK' (_) (_) (by rw [cEq];exact hw.trans' hfa) (fun j hs hy=>?_) (by rw [yf8];(try simp only [↓reduceIte]);try exact⟨W.heap.size,rfl,hsw,Blk.new _ _ _⟩);by_cases hj:12<=j
           . rw [yN j _ _ hj];trivial
           (have hj':j=0\/j=1\/j=2\/j=3\/j=4\/j=5\/j=6\/j=7\/j=8\/j=9\/j=10\/j=11:=by omega);rcases hj' with rfl|rfl|rfl|rfl|rfl|rfl|rfl|rfl|rfl|rfl|rfl|rfl
           . rw [yf0]at hy ⊢;(try simp only [↓reduceIte,OfNat.ofNat_ne_ofNat,Nat.reduceEqDiff]);exact hy
           . rw [yf1]at hy ⊢;(try simp only [↓reduceIte,OfNat.ofNat_ne_ofNat,Nat.reduceEqDiff]);obtain⟨g,k1,k2,k3⟩:=hy;exact⟨g,k1,k2,k3.fresh hR.1⟩
           . rw [yf2]at hy ⊢;(try simp only [↓reduceIte,OfNat.ofNat_ne_ofNat,Nat.reduceEqDiff]);exact hy
           . rw [yf3]at hy ⊢;(try simp only [↓reduceIte,OfNat.ofNat_ne_ofNat,Nat.reduceEqDiff]);obtain⟨v3,D3,h3,i3,A3,n3,c3,B3,m3,d3,C3,k3,e3,k1,⟨o1,o2⟩,t0,t1,t2,t3⟩:=hy;exact⟨v3,D3,h3,i3,A3,n3,c3,B3,m3,d3,C3,k3,e3,k1,⟨o1.fresh hR.1,fun b hb=>⟨(o2 b hb).1,hR.2 b (o1.lt hb)⟩⟩,(t0.both.fresh hR.1).mono (fun b hb=>⟨hb.1.1,hR.2 b hb.2⟩),(t1.both.fresh hR.1).mono (fun b hb=>⟨hb.1.1,hR.2 b hb.2⟩),(t2.both.fresh hR.1).mono (fun b hb=>⟨hb.1.1,hR.2 b hb.2⟩),(t3.both.fresh hR.1).mono (fun b hb=>⟨hb.1.1,hR.2 b hb.2⟩)⟩
           . rw [yf4]at hy ⊢;(try simp only [↓reduceIte,OfNat.ofNat_ne_ofNat,Nat.reduceEqDiff]);obtain⟨v3,D3,h3,i3,A3,n3,c3,B3,m3,d3,C3,k3,e3,k1,⟨o1,o2⟩,t0,t1,t2,t3⟩:=hy;exact⟨v3,D3,h3,i3,A3,n3,c3,B3,m3,d3,C3,k3,e3,k1,⟨o1.fresh hR.1,fun b hb=>⟨(o2 b hb).1,hR.2 b (o1.lt hb)⟩⟩,(t0.both.fresh hR.1).mono (fun b hb=>⟨hb.1.1,hR.2 b hb.2⟩),(t1.both.fresh hR.1).mono (fun b hb=>⟨hb.1.1,hR.2 b hb.2⟩),(t2.both.fresh hR.1).mono (fun b hb=>⟨hb.1.1,hR.2 b hb.2⟩),(t3.both.fresh hR.1).mono (fun b hb=>⟨hb.1.1,hR.2 b hb.2⟩)⟩
           . rw [yf5]at hy ⊢;(try simp only [↓reduceIte,OfNat.ofNat_ne_ofNat,Nat.reduceEqDiff]);exact⟨hy.1.fresh hR.1,fun b hb=>⟨(hy.2 b hb).1,hR.2 b (hy.1.lt hb)⟩⟩
           . rw [yf6]at hy ⊢;(try simp only [↓reduceIte,OfNat.ofNat_ne_ofNat,Nat.reduceEqDiff]);obtain⟨D3,h3,i3,A3,n3,c3,B3,m3,d3,C3,k3,e3,k1,t0,t1,t2,t3⟩:=hy;exact⟨D3,h3,i3,A3,n3,c3,B3,m3,d3,C3,k3,e3,k1,(t0.both.fresh hR.1).mono (fun b hb=>⟨hb.1.1,hR.2 b hb.2⟩),(t1.both.fresh hR.1).mono (fun b hb=>⟨hb.1.1,hR.2 b hb.2⟩),(t2.both.fresh hR.1).mono (fun b hb=>⟨hb.1.1,hR.2 b hb.2⟩),(t3.both.fresh hR.1).mono (fun b hb=>⟨hb.1.1,hR.2 b hb.2⟩)⟩
           . rw [yf7]at hy ⊢;(try simp only [↓reduceIte,OfNat.ofNat_ne_ofNat,Nat.reduceEqDiff]);exact hy
           . exact(Q5 hs (by kernel_rfl)).elim
           . exact(Q5 hs (by kernel_rfl)).elim
           . exact(Q5 hs (by kernel_rfl)).elim
           exact(Q5 hs (by kernel_rfl)).elim
         refine Qf.cons [(5,some 75)] (by kernel_rfl) (fun xs W hw hd lst hl K hK=>?_) ?_
         . rw [cEq]at hw
           have hK':=hK.out;clear hK;simp only [Qr]at hd;obtain⟨hf5,_⟩:=hd;simp only [Qd,Act.put,List.setIfInBounds_toArray,List.set_cons_zero,List.set_cons_succ]at hK' ⊢;rw [yf5]at hf5;go_simp;exact hK' _ _ (by rw [cEq];exact hw) (Q9 yM 9 (by kernel_rfl) xs W _) (by rw [yf9];(try simp only [↓reduceIte,OfNat.ofNat_ne_ofNat,Nat.reduceEqDiff]);exact hf5)
         refine Qf.cons [(8,some 15),(6,some 76)] (by kernel_rfl) (fun xs W hw hd lst hl K hK=>?_) ?_
         . rw [cEq]at hw
           have hK':=hK.out;clear hK;simp only [Qr]at hd;obtain⟨hf8,hf6,_⟩:=hd;simp only [Qd,Act.put,List.setIfInBounds_toArray,List.set_cons_zero,List.set_cons_succ]at hK' ⊢;rw [yf8]at hf8;rw [yf6]at hf6;obtain⟨g,h8e,hg8,b8⟩:=hf8;simp only [h8e]at hK' ⊢;obtain⟨D3,h3,i3,A3,n3,c3,B3,m3,d3,C3,k3,e3,h6e,t0,t1,t2,t3⟩:=hf6;simp only [h6e]at hK' ⊢;simp only [h8e]at t0 t1 t2 t3;(have hn:∀b,Qc (xs 8) b->b≠g:=fun b hb=>by rw [h8e]at hb;exact hb.ne');have cq0:=b8.cell 0;have cq1:=b8.cell 1;have cq2:=b8.cell 2;have cq3:=b8.cell 3;have cq4:=b8.cell 4;have cq5:=b8.cell 5;have cq6:=b8.cell 6;have cq7:=b8.cell 7;have cq8:=b8.cell 8;have cq9:=b8.cell 9;obtain⟨cz0,cz1,cz2,cz3,cz4,cz5,cz6,cz7,cz8,cz9⟩:=(b8).frozens10;simp at cq0 cq1 cq2 cq3 cq4 cq5 cq6 cq7 cq8 cq9;have hO:=b8.set10 (.slice D3 h3 i3) (.int .i64 T2.lL) (.slice A3 n3 c3) (.int .i64 T2.lO) (.slice B3 m3 d3) (.int .i64 T2.lM) (.slice C3 k3 e3) (.int .i64 x0) (.int .i64 x1) (.int .i64 x2);have us:=Ju W g (.slice D3 h3 i3) (.int .i64 T2.lL) (.slice A3 n3 c3) (.int .i64 T2.lO) (.slice B3 m3 d3) (.int .i64 T2.lM) (.slice C3 k3 e3) (.int .i64 x0) (.int .i64 x1) (.int .i64 x2);have HO:=hd_ hO;have US:=hd_ us;clear b8 hO us;go_simp;have hR:=US.out;refine hK' (undef) (_) (by rw [cEq];exact hw.trans US.out (fun b hb h=>by omega)) (Qu yM 10 (by kernel_rfl) _ fun j hs hy=>?_) (by rw [yf10];(try simp only [↓reduceIte]);try exact⟨g,D3,h3,i3,A3,n3,c3,B3,m3,d3,C3,k3,e3,h8e,hg8,HO.out,(t0.upd US.out (fun b _ hb e=>hb.2.ne' e)).mono (fun b hb=>by rw [h8e];exact hb),(t1.upd US.out (fun b _ hb e=>hb.2.ne' e)).mono (fun b hb=>by rw [h8e];exact hb),(t2.upd US.out (fun b _ hb e=>hb.2.ne' e)).mono (fun b hb=>by rw [h8e];exact hb),(t3.upd US.out (fun b _ hb e=>hb.2.ne' e)).mono (fun b hb=>by rw [h8e];exact hb)⟩);by_cases hp:j∈[0,2,7,11]
           . exact yP j _ _ _ hp hy
           by_cases hj:12<=j
           . rw [yN j _ _ hj];trivial
           simp only [List.mem_cons,List.not_mem_nil,or_false]at hp;rcases(show j=1\/j=3\/j=4\/j=5\/j=6\/j=8\/j=9\/j=10 by omega)with rfl|rfl|rfl|rfl|rfl|rfl|rfl|rfl
           . exact(Q5 hs (by kernel_rfl)).elim
           . exact(Q5 hs (by kernel_rfl)).elim
           . rw [yf4]at hy ⊢;obtain⟨v3,D3,h3,i3,A3,n3,c3,B3,m3,d3,C3,k3,e3,k1,⟨o1,o2⟩,t0,t1,t2,t3⟩:=hy;exact⟨v3,D3,h3,i3,A3,n3,c3,B3,m3,d3,C3,k3,e3,k1,⟨o1.upd hR (fun b hb e=>hn b (o2 b hb).2 e),o2⟩,t0.upd hR (fun b _ hb e=>hn b hb.2 e),t1.upd hR (fun b _ hb e=>hn b hb.2 e),t2.upd hR (fun b _ hb e=>hn b hb.2 e),t3.upd hR (fun b _ hb e=>hn b hb.2 e)⟩
           . exact(Q5 hs (by kernel_rfl)).elim
           . exact(Q5 hs (by kernel_rfl)).elim
           . exact(Q5 hs (by kernel_rfl)).elim
           . rw [yf9]at hy ⊢;exact⟨hy.1.upd hR (fun b hb e=>hn b (hy.2 b hb).2 e),hy.2⟩
           exact(Q5 hs (by kernel_rfl)).elim
         refine Qf.cons [(7,some 77)] (by kernel_rfl) (fun xs W hw hd lst hl K hK=>?_) ?_
         . rw [cEq]at hw
           have hK':=hK.out;clear hK;simp only [Qr]at hd;obtain⟨hf7,_⟩:=hd;simp only [Qd,Act.put,List.setIfInBounds_toArray,List.set_cons_zero,List.set_cons_succ]at hK' ⊢;rw [yf7]at hf7;simp only [hf7]at hK' ⊢;go_simp;exact hK' _ _ (by rw [cEq];exact hw) (Q9 yM 11 (by kernel_rfl) xs W _) (by rw [yf11];exact if_pos rfl)
         exact Qf.nil
       intro xs w6 hw hd;rw [cEq]at hw;simp only [Kg]at hd;obtain⟨fe0,fe1,fe2,fe3,fe4,fe5,fe6,fe7,fe8,fe9,fe10,fe11,_⟩:=hd;have fe0:=fe0 (by kernel_rfl);rw [yf0]at fe0;have fe2:=fe2 (by kernel_rfl);rw [yf2]at fe2;have fe4:=fe4 (by kernel_rfl);rw [yf4]at fe4;have fe7:=fe7 (by kernel_rfl);rw [yf7]at fe7;have fe9:=fe9 (by kernel_rfl);rw [yf9]at fe9;have fe10:=fe10 (by kernel_rfl);rw [yf10]at fe10;have fe11:=fe11 (by kernel_rfl);rw [yf11]at fe11;clear fe1 fe3 fe5 fe6 fe8;simp only [Qd,Act.put,List.setIfInBounds_toArray,List.set_cons_zero,List.set_cons_succ];generalize xs 0=xv0 at *;generalize xs 1=xv1 at *;generalize xs 2=xv2 at *;generalize xs 3=xv3 at *;generalize xs 4=xv4 at *;generalize xs 5=xv5 at *;generalize xs 6=xv6 at *;generalize xs 7=xv7 at *;generalize xs 8=xv8 at *;generalize xs 9=xv9 at *;generalize xs 10=xv10 at *;generalize xs 11=xv11 at *;subst fe0;subst fe2;subst fe7;subst fe11;clear yf0 yf1 yf2 yf3 yf4 yf5 yf6 yf7 yf8 yf9 yf10 yf11 yN yR yM yP cEq;obtain⟨g1,D3,h3,i3,A3,n3,c3,B3c,m3,d3,C3,k3,e3,hg8,hg1,bg,ru0,ru1,ru2,ru3⟩:=fe10;obtain⟨ow,hob⟩:=fe9;subst hg8;obtain⟨Ap,cp,hpe,hcp,rp⟩:=ow.form;subst hpe;(have hlm3:(l.map tri).length=nl:=by have:=HNL.out;simp;omega);have RP:=hd_ (show RdK w6 (fun b=>b<w6.heap.size) 3 Ap nl (l.map tri)from by rw [hlm3]at rp;exact rp.both.mono (fun b hb=>hb.2));simp only [hlm3];have q0:=ru0.1.1;have q1:=ru1.1.1;have q2:=ru2.1.1;have q3:=ru3.1.1;rw [QP]at q0 q1 q2 q3;subst q0 q1 q2 q3;have TV:=hd_ (And.intro ru0.1.old (And.intro ru1.1.old (And.intro ru2.1.old ru3.1.old)));have BG:=hd_ bg;have F56:=hd_ hw;have F6:=hd_ (F5.out.trans' hw);clear ow hob rp hcp ru0 ru1 ru2 ru3 bg hw hg1 fe4 hlm3;(try clear fe0 fe2);go_upto_region 15 with fail
       have HCX6:=hd_ (show ∀W',Q0 w6 W'->W'.cell? ⟨g1,0,none⟩=some (.slice D3 Tr.length i3)/\W'.cell? ⟨g1,1,none⟩=some (.int .i64 T2.lL)/\W'.cell? ⟨g1,2,none⟩=some (.slice A3 T2.NL.length c3)/\W'.cell? ⟨g1,3,none⟩=some (.int .i64 T2.lO)/\W'.cell? ⟨g1,4,none⟩=some (.slice B3c T2.NO.length d3)/\W'.cell? ⟨g1,5,none⟩=some (.int .i64 T2.lM)/\W'.cell? ⟨g1,6,none⟩=some (.slice C3 T2.NM.length e3)/\W'.cell? ⟨g1,7,none⟩=some (.int .i64 x0)/\W'.cell? ⟨g1,8,none⟩=some (.int .i64 x1)/\W'.cell? ⟨g1,9,none⟩=some (.int .i64 x2)from fun W' f=>by
         have bb:=BG.out.fresh f
         exact bb.cells10)
       have HNW6:=hd_ (fun W' (f:Q0 w6 W')=>Zi (fun _=>True) Aw bs4.length cw bs4 W' (by have:=RW.out.fresh ((F45.out.trans' F56.out).trans' f);exact this) HGB2.out.1 (by have:=HGB2.out.2.2.1;omega))
       have HSD6:=hd_ (show ∀(F':Nat->Prop) (g:Nat) (W':World),Qi W' F' g bs4 0->(∀b,F' b->b≠g)->w6.heap.size<=g->Q0 w6 W'->Calls Tryz.prog 18 #[.pointer (some ⟨g,0,none⟩),.agg #[.slice D3 Tr.length i3,.int .i64 T2.lL,.slice A3 T2.NL.length c3,.int .i64 T2.lO,.slice B3c T2.NO.length d3,.int .i64 T2.lM,.slice C3 T2.NM.length e3,.int .i64 x0,.int .i64 x1,.int .i64 x2]] W' (Jh F' g bs4 ⟨0,lm,T4,y0,y1,y2,bs4.length⟩ Tr W')from fun F' g W' hc hF hg f=>by
         have hss:=VL F' (fun b=>b<w6.heap.size) g bs4 0 D3 A3 B3c C3 Tr.length i3 T2.NL.length c3 T2.NO.length d3 T2.NM.length e3 T2 Tr x0 x1 x2 W' hc hF (fun b hb=>by omega) (TV.out.1.fresh f) (TV.out.2.1.fresh f) (TV.out.2.2.1.fresh f) (TV.out.2.2.2.fresh f) HET2.out.1 HET2.out.2.1 HET2.out.2.2.1 (by have:=HTR.out;omega) (by have:=HET2.out.2.2.2.1;omega) (by have:=HET2.out.2.2.2.2.1;omega) (by have:=HET2.out.2.2.2.2.2.1;omega);rw [HGD2.out]at hss
         exact hss)
       obtain⟨Cw,cEq⟩:=exC (fun W=>Q0 w6 W);obtain⟨Y,yA⟩:=exY [fun xs W=>(xs 0) = .slice Aw bs4.length cw,fun xs W=>∃g,(xs 1) = .pointer (some ⟨g,0,none⟩)/\w6.heap.size<=g/\Qi W (fun q=>w6.heap.size<=q/\q≠g) g bs4 0,fun xs W=>(xs 2) = .agg #[.slice D3 Tr.length i3,.int .i64 T2.lL,.slice A3 T2.NL.length c3,.int .i64 T2.lO,.slice B3c T2.NO.length d3,.int .i64 T2.lM,.slice C3 T2.NM.length e3,.int .i64 x0,.int .i64 x1,.int .i64 x2],fun xs W=>∃v3b D3b h3b i3b A3b n3b c3b B3b m3b d3b C3b k3b e3b,(xs 3) = .tuple #[v3b,.agg #[.slice D3b h3b i3b,.int .i64 T4.lL,.slice A3b n3b c3b,.int .i64 T4.lO,.slice B3b m3b d3b,.int .i64 T4.lM,.slice C3b k3b e3b,.int .i64 y0,.int .i64 y1,.int .i64 y2],.int .i64 0]/\(QM W 23 3 v3b (lm.map tri)/\∀b,Value.ownBlock v3b=some b->w6.heap.size<=b/\Qc (xs 8) b)/\RdU W (fun b=>w6.heap.size<=b/\Qc (xs 8) b) D3b h3b (Q2 Tr)/\RdU W (fun b=>w6.heap.size<=b/\Qc (xs 8) b) A3b n3b (Q2 T4.NL)/\RdU W (fun b=>w6.heap.size<=b/\Qc (xs 8) b) B3b m3b (Q2 T4.NO)/\RdU W (fun b=>w6.heap.size<=b/\Qc (xs 8) b) C3b k3b (Q2 T4.NM),fun xs W=>∃v3b D3b h3b i3b A3b n3b c3b B3b m3b d3b C3b k3b e3b,(xs 4) = .tuple #[v3b,.agg #[.slice D3b h3b i3b,.int .i64 T4.lL,.slice A3b n3b c3b,.int .i64 T4.lO,.slice B3b m3b d3b,.int .i64 T4.lM,.slice C3b k3b e3b,.int .i64 y0,.int .i64 y1,.int .i64 y2],.int .i64 0]/\(QM W 23 3 v3b (lm.map tri)/\∀b,Value.ownBlock v3b=some b->w6.heap.size<=b/\Qc (xs 8) b)/\RdU W (fun b=>w6.heap.size<=b/\Qc (xs 8) b) D3b h3b (Q2 Tr)/\RdU W (fun b=>w6.heap.size<=b/\Qc (xs 8) b) A3b n3b (Q2 T4.NL)/\RdU W (fun b=>w6.heap.size<=b/\Qc (xs 8) b) B3b m3b (Q2 T4.NO)/\RdU W (fun b=>w6.heap.size<=b/\Qc (xs 8) b) C3b k3b (Q2 T4.NM),fun xs W=>QM W 23 3 (xs 5) (lm.map tri)/\∀b,Value.ownBlock (xs 5)=some b->w6.heap.size<=b/\Qc (xs 8) b,fun xs W=>∃D3b h3b i3b A3b n3b c3b B3b m3b d3b C3b k3b e3b,(xs 6) = .agg #[.slice D3b h3b i3b,.int .i64 T4.lL,.slice A3b n3b c3b,.int .i64 T4.lO,.slice B3b m3b d3b,.int .i64 T4.lM,.slice C3b k3b e3b,.int .i64 y0,.int .i64 y1,.int .i64 y2]/\RdU W (fun b=>w6.heap.size<=b/\Qc (xs 8) b) D3b h3b (Q2 Tr)/\RdU W (fun b=>w6.heap.size<=b/\Qc (xs 8) b) A3b n3b (Q2 T4.NL)/\RdU W (fun b=>w6.heap.size<=b/\Qc (xs 8) b) B3b m3b (Q2 T4.NO)/\RdU W (fun b=>w6.heap.size<=b/\Qc (xs 8) b) C3b k3b (Q2 T4.NM),fun xs W=>(xs 7) = .int .i64 0,fun xs W=>∃g,(xs 8) = .pointer (some ⟨g,0,none⟩)/\w6.heap.size<=g/\Blk W g 32 #[.slice none 0 0,.int .i64 0,.slice none 0 0,.int .i64 0,.slice none 0 0,.int .i64 0,.slice none 0 0,.int .i64 0,.int .i64 0,.int .i64 0],fun xs W=>QM W 23 3 (xs 9) (lm.map tri)/\∀b,Value.ownBlock (xs 9)=some b->w6.heap.size<=b/\Qc (xs 8) b,fun xs W=>∃g D3b h3b i3b A3b n3b c3b B3b m3b d3b C3b k3b e3b,(xs 8) = .pointer (some ⟨g,0,none⟩)/\w6.heap.size<=g/\Blk W g 32 #[.slice D3b h3b i3b,.int .i64 T4.lL,.slice A3b n3b c3b,.int .i64 T4.lO,.slice B3b m3b d3b,.int .i64 T4.lM,.slice C3b k3b e3b,.int .i64 y0,.int .i64 y1,.int .i64 y2]/\RdU W (fun b=>w6.heap.size<=b/\Qc (xs 8) b) D3b h3b (Q2 Tr)/\RdU W (fun b=>w6.heap.size<=b/\Qc (xs 8) b) A3b n3b (Q2 T4.NL)/\RdU W (fun b=>w6.heap.size<=b/\Qc (xs 8) b) B3b m3b (Q2 T4.NO)/\RdU W (fun b=>w6.heap.size<=b/\Qc (xs 8) b) C3b k3b (Q2 T4.NM),fun xs W=>(xs 11) = .int .i64 0]
       have yf0:=yA 0;have yf1:=yA 1;have yf2:=yA 2;have yf3:=yA 3;have yf4:=yA 4;have yf5:=yA 5;have yf6:=yA 6;have yf7:=yA 7;have yf8:=yA 8;have yf9:=yA 9;have yf10:=yA 10;have yf11:=yA 11;simp only [List.getD_cons_zero,List.getD_cons_succ]at yf0 yf1 yf2 yf3 yf4 yf5 yf6 yf7 yf8 yf9 yf10 yf11;(have yN:∀j xs W,12<=j->Y j xs W=True:=fun j xs W hj=>by rw [yA,Z3 _ _ _ hj])
       have yP:∀j xs W W',j∈[0,2,7,11]->Y j xs W->Y j xs W':=by
         intro j xs W W' hj hy;simp only [List.mem_cons,List.not_mem_nil,or_false]at hj;rcases hj with rfl|rfl|rfl|rfl
         . rw [yf0]at hy ⊢;exact hy
         . rw [yf2]at hy ⊢;exact hy
         . rw [yf7]at hy ⊢;exact hy
         rw [yf11]at hy ⊢;exact hy
       have yM:VQ [[0],[1],[2],[3,8],[4,8],[5,8],[6,8],[7],[8],[9,8],[8],[11]] Y:=by
         intro j xs xs' W hh hy;by_cases hj:12<=j
         . rw [yN j _ _ hj];trivial
         (have hj':j=0\/j=1\/j=2\/j=3\/j=4\/j=5\/j=6\/j=7\/j=8\/j=9\/j=10\/j=11:=by omega);rcases hj' with rfl|rfl|rfl|rfl|rfl|rfl|rfl|rfl|rfl|rfl|rfl|rfl
         . rw [yf0]at hy ⊢;rw [<-hh 0 (by decide)];exact hy
         . rw [yf1]at hy ⊢;rw [<-hh 1 (by decide)];exact hy
         . rw [yf2]at hy ⊢;rw [<-hh 2 (by decide)];exact hy
         . rw [yf3]at hy ⊢;rw [<-hh 3 (by decide),<-hh 8 (by decide)];exact hy
         . rw [yf4]at hy ⊢;rw [<-hh 4 (by decide),<-hh 8 (by decide)];exact hy
         . rw [yf5]at hy ⊢;rw [<-hh 5 (by decide),<-hh 8 (by decide)];exact hy
         . rw [yf6]at hy ⊢;rw [<-hh 6 (by decide),<-hh 8 (by decide)];exact hy
         . rw [yf7]at hy ⊢;rw [<-hh 7 (by decide)];exact hy
         . rw [yf8]at hy ⊢;rw [<-hh 8 (by decide)];exact hy
         . rw [yf9]at hy ⊢;rw [<-hh 9 (by decide),<-hh 8 (by decide)];exact hy
         . rw [yf10]at hy ⊢;rw [<-hh 8 (by decide)];exact hy
         rw [yf11]at hy ⊢;rw [<-hh 11 (by decide)];exact hy
       clear yA
       have yR:∀j xs,12<=j->Y j xs (w6.drew):=by
         intro j xs hj;rcases(show 12<=j by omega)with hj;rw [yN _ _ _ hj];trivial
       refine Jf Cw (fun j=>if j=1 then [3,10]else if j=3 then [10]else if j=5 then [10]else if j=6 then [10]else if j=8 then [10]else []) Y [(0,some 79),(1,some 80),(2,some 81),(3,some 82),(4,some 78),(5,some 83),(6,some 84),(7,some 85),(8,some 18),(9,some 17),(10,none),(11,some 19)] (by kernel_rfl) (by kernel_rfl) (by kernel_rfl) (by rw [cEq];exact(Upd.refl _ _).drew) (fun j hj=>yR j _ hj) ?_ ?_
       . refine Qf.cons [] (by kernel_rfl) (fun xs W hw hd lst hl K hK=>?_) ?_
         . rw [cEq]at hw
           have hK':=hK.out;clear hK;simp only [Qd,Act.put,List.setIfInBounds_toArray,List.set_cons_zero,List.set_cons_succ]at hK' ⊢;go_simp;exact hK' _ _ (by rw [cEq];exact hw) (Q9 yM 0 (by kernel_rfl) xs W _) (by rw [yf0];exact if_pos rfl)
         refine Qf.cons [(0,some 79)] (by kernel_rfl) (fun xs W hw hd lst hl K hK=>?_) ?_
         . rw [cEq]at hw
           have hK':=hK.out;clear hK;simp only [Qr]at hd;obtain⟨hf0,_⟩:=hd;simp only [Qd,Act.put,List.setIfInBounds_toArray,List.set_cons_zero,List.set_cons_succ]at hK' ⊢;rw [yf0]at hf0;simp only [hf0]at hK' ⊢;go_simp;refine(HNW6.out W hw).mono ?_;rintro ez wz ⟨gz,rfl,hgz,fz,cuz⟩;have hsz:=hw.size;have hR:=fz;refine hK' (_) (wz) (by rw [cEq];exact hw.trans' fz) (Qu yM 1 (by kernel_rfl) _ fun j hs hy=>?_) (by rw [yf1];(try simp only [↓reduceIte]);try exact⟨gz,rfl,by omega,cuz.mono (fun b hb=>⟨by have:=hb.1;omega,hb.2⟩)⟩);by_cases hp:j∈[0,2,7,11]
           . exact yP j _ _ _ hp hy
           by_cases hj:12<=j
           . rw [yN j _ _ hj];trivial
           simp only [List.mem_cons,List.not_mem_nil,or_false]at hp;rcases(show j=1\/j=3\/j=4\/j=5\/j=6\/j=8\/j=9\/j=10 by omega)with rfl|rfl|rfl|rfl|rfl|rfl|rfl|rfl
           . exact(Q5 hs (by kernel_rfl)).elim
           . exact(Q5 hs (by kernel_rfl)).elim
           . exact(Q5 hs (by kernel_rfl)).elim
           . exact(Q5 hs (by kernel_rfl)).elim
           . exact(Q5 hs (by kernel_rfl)).elim
           . rw [yf8]at hy ⊢;obtain⟨g,k1,k2,k3⟩:=hy;exact⟨g,k1,k2,k3.fresh hR⟩
           . exact(Q5 hs (by kernel_rfl)).elim
           exact(Q5 hs (by kernel_rfl)).elim
         refine Qf.cons [] (by kernel_rfl) (fun xs W hw hd lst hl K hK=>?_) ?_
         . rw [cEq]at hw
           have hK':=hK.out;clear hK;simp only [Qd,Act.put,List.setIfInBounds_toArray,List.set_cons_zero,List.set_cons_succ]at hK' ⊢;have cl:=HCX6.out W hw;obtain⟨cz0,cz1,cz2,cz3,cz4,cz5,cz6,cz7,cz8,cz9⟩:=cl;go_simp;exact hK' _ _ (by rw [cEq];exact hw) (Q9 yM 2 (by kernel_rfl) xs W _) (by rw [yf2];exact if_pos rfl)
         refine Qf.cons [(1,some 80),(2,some 81)] (by kernel_rfl) (fun xs W hw hd lst hl K hK=>?_) ?_
         . rw [cEq]at hw
           have hK':=hK.out;clear hK;simp only [Qr]at hd;obtain⟨hf1,hf2,_⟩:=hd;simp only [Qd,Act.put,List.setIfInBounds_toArray,List.set_cons_zero,List.set_cons_succ]at hK' ⊢;rw [yf1]at hf1;rw [yf2]at hf2;simp only [hf2]at hK' ⊢;obtain⟨gc,h1e,hgc,cuc⟩:=hf1;simp only [h1e]at hK' ⊢;go_simp;have hdc:=HSD6.out _ gc W cuc (fun b hb=>hb.2) hgc hw;unfold Jh at hdc;simp only [if_true]at hdc;(have hcb:∃cs,Blk W gc 67 cs:=by obtain⟨_,_,hx,_⟩:=cuc;exact⟨_,hx⟩);obtain⟨cs,hcb⟩:=hcb
           have h8n:∀b,W.heap.size<=b->Qc (xs 8) b:=by
             intro b hb
             cases h8:lst 8 with
             | false=>rw [hl.out.2.2.1 8 h8];exact Qc.undef b
             | true =>
               have:=hl.out.2.2.2 8 h8 (fun m hm=>by have h10:m=10:=(by simpa using hm);subst h10;exact hl.out.2.1 10 (by kernel_rfl));rw [yf8]at this;obtain⟨g8,k1,_,k3⟩:=this;rw [k1];exact Qc.ptr (by have:=k3.lt;omega)
           refine hdc.mono ?_;rintro ez wz ⟨ud,v3,D3b,h3b,i3b,A3b,n3b,c3b,B3b,m3b,d3b,C3b,k3b,e3b,rfl,ow3,hv3,t0,t1,t2,t3,cu3⟩;have hsw:=hw.size;have hR:=ud;refine hK' (_) (wz) (by rw [cEq];exact hw.trans ud (fun b hb e=>by omega)) (Qu yM 3 (by kernel_rfl) _ fun j hs hy=>?_) (by rw [yf3];(try simp only [↓reduceIte]);try exact⟨v3,D3b,h3b,i3b,A3b,n3b,c3b,B3b,m3b,d3b,C3b,k3b,e3b,rfl,⟨ow3,fun b hb=>⟨by have:=hv3 b hb;omega,h8n b (hv3 b hb)⟩⟩,t0.mono (fun b hb=>⟨by omega,h8n b hb⟩),t1.mono (fun b hb=>⟨by omega,h8n b hb⟩),t2.mono (fun b hb=>⟨by omega,h8n b hb⟩),t3.mono (fun b hb=>⟨by omega,h8n b hb⟩)⟩);by_cases hp:j∈[0,2,7,11]
           . exact yP j _ _ _ hp hy
           by_cases hj:12<=j
           . rw [yN j _ _ hj];trivial
           simp only [List.mem_cons,List.not_mem_nil,or_false]at hp;rcases(show j=1\/j=3\/j=4\/j=5\/j=6\/j=8\/j=9\/j=10 by omega)with rfl|rfl|rfl|rfl|rfl|rfl|rfl|rfl
           . exact(Q5 hs (by kernel_rfl)).elim
           . exact(Q5 hs (by kernel_rfl)).elim
           . exact(Q5 hs (by kernel_rfl)).elim
           . exact(Q5 hs (by kernel_rfl)).elim
           . exact(Q5 hs (by kernel_rfl)).elim
           . rw [yf8]at hy ⊢;obtain⟨g,k1,k2,k3⟩:=hy;exact⟨g,k1,k2,k3.upd hR (fun e=>k3.ne_ hcb (by decide) e)⟩
           . exact(Q5 hs (by kernel_rfl)).elim
           exact(Q5 hs (by kernel_rfl)).elim
         refine Qf.cons [(3,some 82)] (by kernel_rfl) (fun xs W hw hd lst hl K hK=>?_) ?_
         . rw [cEq]at hw
           have hK':=hK.out;clear hK;simp only [Qr]at hd;obtain⟨hf3,_⟩:=hd;simp only [Qd,Act.put,List.setIfInBounds_toArray,List.set_cons_zero,List.set_cons_succ]at hK' ⊢;rw [yf3]at hf3;go_simp;exact hK' _ _ (by rw [cEq];exact hw) (Q9 yM 4 (by kernel_rfl) xs W _) (by rw [yf4];(try simp only [↓reduceIte,OfNat.ofNat_ne_ofNat,Nat.reduceEqDiff]);exact hf3)
         refine Qf.cons [(4,some 78)] (by kernel_rfl) (fun xs W hw hd lst hl K hK=>?_) ?_
         . rw [cEq]at hw
           have hK':=hK.out;clear hK;simp only [Qr]at hd;obtain⟨hf4,_⟩:=hd;simp only [Qd,Act.put,List.setIfInBounds_toArray,List.set_cons_zero,List.set_cons_succ]at hK' ⊢;rw [yf4]at hf4;obtain⟨v3,D3b,h3b,i3b,A3b,n3b,c3b,B3b,m3b,d3b,C3b,k3b,e3b,h4e,o1,t⟩:=hf4;simp only [h4e]at hK' ⊢;go_simp;exact hK' _ _ (by rw [cEq];exact hw) (Q9 yM 5 (by kernel_rfl) xs W _) (by rw [yf5];(try simp only [↓reduceIte,OfNat.ofNat_ne_ofNat,Nat.reduceEqDiff]);exact o1)
         refine Qf.cons [(4,some 78)] (by kernel_rfl) (fun xs W hw hd lst hl K hK=>?_) ?_
         . rw [cEq]at hw
           have hK':=hK.out;clear hK;simp only [Qr]at hd;obtain⟨hf4,_⟩:=hd;simp only [Qd,Act.put,List.setIfInBounds_toArray,List.set_cons_zero,List.set_cons_succ]at hK' ⊢;rw [yf4]at hf4;obtain⟨v3,D3b,h3b,i3b,A3b,n3b,c3b,B3b,m3b,d3b,C3b,k3b,e3b,h4e,o1,t⟩:=hf4;simp only [h4e]at hK' ⊢;go_simp;exact hK' _ _ (by rw [cEq];exact hw) (Q9 yM 6 (by kernel_rfl) xs W _) (by rw [yf6];(try simp only [↓reduceIte,OfNat.ofNat_ne_ofNat,Nat.reduceEqDiff]);exact⟨D3b,h3b,i3b,A3b,n3b,c3b,B3b,m3b,d3b,C3b,k3b,e3b,rfl,t⟩)
         refine Qf.cons [(4,some 78)] (by kernel_rfl) (fun xs W hw hd lst hl K hK=>?_) ?_
         . rw [cEq]at hw
           have hK':=hK.out;clear hK;simp only [Qr]at hd;obtain⟨hf4,_⟩:=hd;simp only [Qd,Act.put,List.setIfInBounds_toArray,List.set_cons_zero,List.set_cons_succ]at hK' ⊢;rw [yf4]at hf4;obtain⟨v3,D3b,h3b,i3b,A3b,n3b,c3b,B3b,m3b,d3b,C3b,k3b,e3b,h4e,o1,t⟩:=hf4;simp only [h4e]at hK' ⊢;go_simp;exact hK' _ _ (by rw [cEq];exact hw) (Q9 yM 7 (by kernel_rfl) xs W _) (by rw [yf7];(try simp only [↓reduceIte,OfNat.ofNat_ne_ofNat,Nat.reduceEqDiff]);exact rfl)
         refine Qf.cons [] (by kernel_rfl) (fun xs W hw hd lst hl K hK=>?_) ?_
         . rw [cEq]at hw
           have hK':=hK.out;clear hK;simp only [Qd,Act.put,List.setIfInBounds_toArray,List.set_cons_zero,List.set_cons_succ]at hK' ⊢;go_simp;have hfa:Q0 W (W.alloc (.cells #[.slice none 0 0,.int .i64 0,.slice none 0 0,.int .i64 0,.slice none 0 0,.int .i64 0,.slice none 0 0,.int .i64 0,.int .i64 0,.int .i64 0] 32)):=(Upd.refl _ _).alloc _;have hna:∀b,b<W.heap.size->Qc (.pointer (some ⟨W.heap.size,0,none⟩)) b:=fun b hb=>Qc.ptr (by omega);have hsw:=hw.size;have hR:=And.intro hfa hna;refine hK' (_) (_) (by rw [cEq];exact hw.trans' hfa) (fun j hs hy=>?_) (by rw [yf8];(try simp only [↓reduceIte]);try exact⟨W.heap.size,rfl,hsw,Blk.new _ _ _⟩);by_cases hj:12<=j
           . rw [yN j _ _ hj];trivial
           (have hj':j=0\/j=1\/j=2\/j=3\/j=4\/j=5\/j=6\/j=7\/j=8\/j=9\/j=10\/j=11:=by omega);rcases hj' with rfl|rfl|rfl|rfl|rfl|rfl|rfl|rfl|rfl|rfl|rfl|rfl
           . rw [yf0]at hy ⊢;(try simp only [↓reduceIte,OfNat.ofNat_ne_ofNat,Nat.reduceEqDiff]);exact hy
           . rw [yf1]at hy ⊢;(try simp only [↓reduceIte,OfNat.ofNat_ne_ofNat,Nat.reduceEqDiff]);obtain⟨g,k1,k2,k3⟩:=hy;exact⟨g,k1,k2,k3.fresh hR.1⟩
           . rw [yf2]at hy ⊢;(try simp only [↓reduceIte,OfNat.ofNat_ne_ofNat,Nat.reduceEqDiff]);exact hy
           . rw [yf3]at hy ⊢;(try simp only [↓reduceIte,OfNat.ofNat_ne_ofNat,Nat.reduceEqDiff]);obtain⟨v3,D3b,h3b,i3b,A3b,n3b,c3b,B3b,m3b,d3b,C3b,k3b,e3b,k1,⟨o1,o2⟩,t0,t1,t2,t3⟩:=hy;exact⟨v3,D3b,h3b,i3b,A3b,n3b,c3b,B3b,m3b,d3b,C3b,k3b,e3b,k1,⟨o1.fresh hR.1,fun b hb=>⟨(o2 b hb).1,hR.2 b (o1.lt hb)⟩⟩,(t0.both.fresh hR.1).mono (fun b hb=>⟨hb.1.1,hR.2 b hb.2⟩),(t1.both.fresh hR.1).mono (fun b hb=>⟨hb.1.1,hR.2 b hb.2⟩),(t2.both.fresh hR.1).mono (fun b hb=>⟨hb.1.1,hR.2 b hb.2⟩),(t3.both.fresh hR.1).mono (fun b hb=>⟨hb.1.1,hR.2 b hb.2⟩)⟩
           . rw [yf4]at hy ⊢;(try simp only [↓reduceIte,OfNat.ofNat_ne_ofNat,Nat.reduceEqDiff]);obtain⟨v3,D3b,h3b,i3b,A3b,n3b,c3b,B3b,m3b,d3b,C3b,k3b,e3b,k1,⟨o1,o2⟩,t0,t1,t2,t3⟩:=hy;exact⟨v3,D3b,h3b,i3b,A3b,n3b,c3b,B3b,m3b,d3b,C3b,k3b,e3b,k1,⟨o1.fresh hR.1,fun b hb=>⟨(o2 b hb).1,hR.2 b (o1.lt hb)⟩⟩,(t0.both.fresh hR.1).mono (fun b hb=>⟨hb.1.1,hR.2 b hb.2⟩),(t1.both.fresh hR.1).mono (fun b hb=>⟨hb.1.1,hR.2 b hb.2⟩),(t2.both.fresh hR.1).mono (fun b hb=>⟨hb.1.1,hR.2 b hb.2⟩),(t3.both.fresh hR.1).mono (fun b hb=>⟨hb.1.1,hR.2 b hb.2⟩)⟩
           . rw [yf5]at hy ⊢;(try simp only [↓reduceIte,OfNat.ofNat_ne_ofNat,Nat.reduceEqDiff]);exact⟨hy.1.fresh hR.1,fun b hb=>⟨(hy.2 b hb).1,hR.2 b (hy.1.lt hb)⟩⟩
           . rw [yf6]at hy ⊢;(try simp only [↓reduceIte,OfNat.ofNat_ne_ofNat,Nat.reduceEqDiff]);obtain⟨D3b,h3b,i3b,A3b,n3b,c3b,B3b,m3b,d3b,C3b,k3b,e3b,k1,t0,t1,t2,t3⟩:=hy;exact⟨D3b,h3b,i3b,A3b,n3b,c3b,B3b,m3b,d3b,C3b,k3b,e3b,k1,(t0.both.fresh hR.1).mono (fun b hb=>⟨hb.1.1,hR.2 b hb.2⟩),(t1.both.fresh hR.1).mono (fun b hb=>⟨hb.1.1,hR.2 b hb.2⟩),(t2.both.fresh hR.1).mono (fun b hb=>⟨hb.1.1,hR.2 b hb.2⟩),(t3.both.fresh hR.1).mono (fun b hb=>⟨hb.1.1,hR.2 b hb.2⟩)⟩
           . rw [yf7]at hy ⊢;(try simp only [↓reduceIte,OfNat.ofNat_ne_ofNat,Nat.reduceEqDiff]);exact hy
           . exact(Q5 hs (by kernel_rfl)).elim
           . exact(Q5 hs (by kernel_rfl)).elim
           . exact(Q5 hs (by kernel_rfl)).elim
           exact(Q5 hs (by kernel_rfl)).elim
         refine Qf.cons [(5,some 83)] (by kernel_rfl) (fun xs W hw hd lst hl K hK=>?_) ?_
         . rw [cEq]at hw
           have hK':=hK.out;clear hK;simp only [Qr]at hd;obtain⟨hf5,_⟩:=hd;simp only [Qd,Act.put,List.setIfInBounds_toArray,List.set_cons_zero,List.set_cons_succ]at hK' ⊢;rw [yf5]at hf5;go_simp;exact hK' _ _ (by rw [cEq];exact hw) (Q9 yM 9 (by kernel_rfl) xs W _) (by rw [yf9];(try simp only [↓reduceIte,OfNat.ofNat_ne_ofNat,Nat.reduceEqDiff]);exact hf5)
         refine Qf.cons [(8,some 18),(6,some 84)] (by kernel_rfl) (fun xs W hw hd lst hl K hK=>?_) ?_
         . rw [cEq]at hw
           have hK':=hK.out;clear hK;simp only [Qr]at hd;obtain⟨hf8,hf6,_⟩:=hd;simp only [Qd,Act.put,List.setIfInBounds_toArray,List.set_cons_zero,List.set_cons_succ]at hK' ⊢;rw [yf8]at hf8;rw [yf6]at hf6;obtain⟨g,h8e,hg8,b8⟩:=hf8;simp only [h8e]at hK' ⊢;obtain⟨D3b,h3b,i3b,A3b,n3b,c3b,B3b,m3b,d3b,C3b,k3b,e3b,h6e,t0,t1,t2,t3⟩:=hf6;simp only [h6e]at hK' ⊢;simp only [h8e]at t0 t1 t2 t3;(have hn:∀b,Qc (xs 8) b->b≠g:=fun b hb=>by rw [h8e]at hb;exact hb.ne');have cq0:=b8.cell 0;have cq1:=b8.cell 1;have cq2:=b8.cell 2;have cq3:=b8.cell 3;have cq4:=b8.cell 4;have cq5:=b8.cell 5;have cq6:=b8.cell 6;have cq7:=b8.cell 7;have cq8:=b8.cell 8;have cq9:=b8.cell 9;obtain⟨cz0,cz1,cz2,cz3,cz4,cz5,cz6,cz7,cz8,cz9⟩:=(b8).frozens10;simp at cq0 cq1 cq2 cq3 cq4 cq5 cq6 cq7 cq8 cq9;have hO:=b8.set10 (.slice D3b h3b i3b) (.int .i64 T4.lL) (.slice A3b n3b c3b) (.int .i64 T4.lO) (.slice B3b m3b d3b) (.int .i64 T4.lM) (.slice C3b k3b e3b) (.int .i64 y0) (.int .i64 y1) (.int .i64 y2);have us:=Ju W g (.slice D3b h3b i3b) (.int .i64 T4.lL) (.slice A3b n3b c3b) (.int .i64 T4.lO) (.slice B3b m3b d3b) (.int .i64 T4.lM) (.slice C3b k3b e3b) (.int .i64 y0) (.int .i64 y1) (.int .i64 y2);have HO:=hd_ hO;have US:=hd_ us;clear b8 hO us;go_simp;have hR:=US.out;refine hK' (undef) (_) (by rw [cEq];exact hw.trans US.out (fun b hb h=>by omega)) (Qu yM 10 (by kernel_rfl) _ fun j hs hy=>?_) (by rw [yf10];(try simp only [↓reduceIte]);try exact⟨g,D3b,h3b,i3b,A3b,n3b,c3b,B3b,m3b,d3b,C3b,k3b,e3b,h8e,hg8,HO.out,(t0.upd US.out (fun b _ hb e=>hb.2.ne' e)).mono (fun b hb=>by rw [h8e];exact hb),(t1.upd US.out (fun b _ hb e=>hb.2.ne' e)).mono (fun b hb=>by rw [h8e];exact hb),(t2.upd US.out (fun b _ hb e=>hb.2.ne' e)).mono (fun b hb=>by rw [h8e];exact hb),(t3.upd US.out (fun b _ hb e=>hb.2.ne' e)).mono (fun b hb=>by rw [h8e];exact hb)⟩);by_cases hp:j∈[0,2,7,11]
           . exact yP j _ _ _ hp hy
           by_cases hj:12<=j
           . rw [yN j _ _ hj];trivial
           simp only [List.mem_cons,List.not_mem_nil,or_false]at hp;rcases(show j=1\/j=3\/j=4\/j=5\/j=6\/j=8\/j=9\/j=10 by omega)with rfl|rfl|rfl|rfl|rfl|rfl|rfl|rfl
           . exact(Q5 hs (by kernel_rfl)).elim
           . exact(Q5 hs (by kernel_rfl)).elim
           . rw [yf4]at hy ⊢;obtain⟨v3,D3b,h3b,i3b,A3b,n3b,c3b,B3b,m3b,d3b,C3b,k3b,e3b,k1,⟨o1,o2⟩,t0,t1,t2,t3⟩:=hy;exact⟨v3,D3b,h3b,i3b,A3b,n3b,c3b,B3b,m3b,d3b,C3b,k3b,e3b,k1,⟨o1.upd hR (fun b hb e=>hn b (o2 b hb).2 e),o2⟩,t0.upd hR (fun b _ hb e=>hn b hb.2 e),t1.upd hR (fun b _ hb e=>hn b hb.2 e),t2.upd hR (fun b _ hb e=>hn b hb.2 e),t3.upd hR (fun b _ hb e=>hn b hb.2 e)⟩
           . exact(Q5 hs (by kernel_rfl)).elim
           . exact(Q5 hs (by kernel_rfl)).elim
           . exact(Q5 hs (by kernel_rfl)).elim
           . rw [yf9]at hy ⊢;exact⟨hy.1.upd hR (fun b hb e=>hn b (hy.2 b hb).2 e),hy.2⟩
           exact(Q5 hs (by kernel_rfl)).elim
         refine Qf.cons [(7,some 85)] (by kernel_rfl) (fun xs W hw hd lst hl K hK=>?_) ?_
         . rw [cEq]at hw
           have hK':=hK.out;clear hK;simp only [Qr]at hd;obtain⟨hf7,_⟩:=hd;simp only [Qd,Act.put,List.setIfInBounds_toArray,List.set_cons_zero,List.set_cons_succ]at hK' ⊢;rw [yf7]at hf7;simp only [hf7]at hK' ⊢;go_simp;exact hK' _ _ (by rw [cEq];exact hw) (Q9 yM 11 (by kernel_rfl) xs W _) (by rw [yf11];exact if_pos rfl)
         exact Qf.nil
       intro xs W hw hd;rw [cEq]at hw;simp only [Kg]at hd;obtain⟨fe0,fe1,fe2,fe3,fe4,fe5,fe6,fe7,fe8,fe9,fe10,fe11,_⟩:=hd;have fe0:=fe0 (by kernel_rfl);rw [yf0]at fe0;have fe2:=fe2 (by kernel_rfl);rw [yf2]at fe2;have fe4:=fe4 (by kernel_rfl);rw [yf4]at fe4;have fe7:=fe7 (by kernel_rfl);rw [yf7]at fe7;have fe9:=fe9 (by kernel_rfl);rw [yf9]at fe9;have fe10:=fe10 (by kernel_rfl);rw [yf10]at fe10;have fe11:=fe11 (by kernel_rfl);rw [yf11]at fe11;clear fe1 fe3 fe5 fe6 fe8;simp only [Qd,Act.put,List.setIfInBounds_toArray,List.set_cons_zero,List.set_cons_succ];generalize xs 0=xv0 at *;generalize xs 1=xv1 at *;generalize xs 2=xv2 at *;generalize xs 3=xv3 at *;generalize xs 4=xv4 at *;generalize xs 5=xv5 at *;generalize xs 6=xv6 at *;generalize xs 7=xv7 at *;generalize xs 8=xv8 at *;generalize xs 9=xv9 at *;generalize xs 10=xv10 at *;generalize xs 11=xv11 at *;subst fe0;subst fe2;subst fe7;subst fe11;clear yf0 yf1 yf2 yf3 yf4 yf5 yf6 yf7 yf8 yf9 yf10 yf11 yN yR yM yP cEq;obtain⟨g2,D3b,h3b,i3b,A3b,n3b,c3b,B3b,m3b,d3b,C3b,k3b,e3b,hg8,hg2,bg,ru0,ru1,ru2,ru3⟩:=fe10;obtain⟨ow,hob⟩:=fe9;subst hg8;obtain⟨Aq,cq,hpe,hcp,rq⟩:=ow.form;subst hpe;(have hlm3:(lm.map tri).length=nm:=by have:=HNL.out;simp;omega);have RQ:=hd_ (show RdK W (fun b=>b<W.heap.size) 3 Aq nm (lm.map tri)from by rw [hlm3]at rq;exact rq.both.mono (fun b hb=>hb.2));simp only [hlm3];have q0:=ru0.1.1;have q1:=ru1.1.1;have q2:=ru2.1.1;have q3:=ru3.1.1;rw [QP]at q0 q1 q2 q3;subst q0 q1 q2 q3;have TW:=hd_ (And.intro ru0.1.old (And.intro ru1.1.old (And.intro ru2.1.old ru3.1.old)));have BH:=hd_ bg;have F67:=hd_ hw;have F7:=hd_ (F6.out.trans' hw);clear ow hob rq hcp ru0 ru1 ru2 ru3 bg hw hg2 fe4 hlm3;(try clear fe0 fe2);go_upto_region 16 with fail;(have hdl:decide (l=l)=true:=by simp);(have hdm:decide (lm=lm)=true:=by simp)
       have HS1:=hd_ (show ∀W',Q0 W W'->Calls Tryz.prog 22 #[.slice Ap nl cp,.slice L nl dl] W' (fun e w'=>e = .returned (.bool true)/\Q0 W' w')from fun W' f=>by
         have hsm:=Vw (fun b=>b<w6.heap.size) (fun _=>True) Ap L nl nl cp dl l l W' (RP.out.fresh (F67.out.trans' f)) (HRL.out W' (F7.out.trans' f)) (by have:=HNL.out;omega) (by have:=HNL.out;omega);rw [hdl]at hsm
         exact hsm)
       have HS2:=hd_ (show ∀W',Q0 W W'->Calls Tryz.prog 22 #[.slice Aq nm cq,.slice M nm dm] W' (fun e w'=>e = .returned (.bool true)/\Q0 W' w')from fun W' f=>by
         have hsm:=Vw (fun b=>b<W.heap.size) (fun _=>True) Aq M nm nm cq dm lm lm W' (RQ.out.fresh f) (HRM.out W' (F7.out.trans' f)) (by have:=HNL.out;omega) (by have:=HNL.out;omega);rw [hdm]at hsm
         exact hsm)
       clear hdl hdm
       have HS3:=hd_ (fun W' (f:Q0 W W')=>Q4V (fun b=>b<W.heap.size) (fun b=>b<w4.heap.size) D3b A3b B3b C3b D4 A4 B4 C4 Tr.length i3b T4.NL.length c3b T4.NO.length d3b T4.NM.length e3b i4 c4 d4 e4 T4 Tr y0 y1 y2 W' (TW.out.1.fresh f) (TW.out.2.1.fresh f) (TW.out.2.2.1.fresh f) (TW.out.2.2.2.fresh f)
         (TS.out.1.fresh (((F45.out.trans' F56.out).trans' F67.out).trans' f)) (TS.out.2.1.fresh (((F45.out.trans' F56.out).trans' F67.out).trans' f)) (TS.out.2.2.1.fresh (((F45.out.trans' F56.out).trans' F67.out).trans' f)) (TS.out.2.2.2.fresh (((F45.out.trans' F56.out).trans' F67.out).trans' f)) HTR.out HGT2.out.2.2.2.1 HGT2.out.2.2.2.2.1 HGT2.out.2.2.2.2.2.1)
       have HC7:=hd_ (show ∀W',Q0 W W'->W'.cell? ⟨g2,0,none⟩=some (.slice D3b Tr.length i3b)/\W'.cell? ⟨g2,1,none⟩=some (.int .i64 T4.lL)/\W'.cell? ⟨g2,2,none⟩=some (.slice A3b T4.NL.length c3b)/\W'.cell? ⟨g2,3,none⟩=some (.int .i64 T4.lO)/\W'.cell? ⟨g2,4,none⟩=some (.slice B3b T4.NO.length d3b)/\W'.cell? ⟨g2,5,none⟩=some (.int .i64 T4.lM)/\W'.cell? ⟨g2,6,none⟩=some (.slice C3b T4.NM.length e3b)/\W'.cell? ⟨g2,7,none⟩=some (.int .i64 y0)/\W'.cell? ⟨g2,8,none⟩=some (.int .i64 y1)/\W'.cell? ⟨g2,9,none⟩=some (.int .i64 y2)/\W'.cell? ⟨K4,0,none⟩=some (.slice D4 Tr.length i4)/\W'.cell? ⟨K4,1,none⟩=some (.int .i64 T4.lL)/\W'.cell? ⟨K4,2,none⟩=some (.slice A4 T4.NL.length c4)/\W'.cell? ⟨K4,3,none⟩=some (.int .i64 T4.lO)/\W'.cell? ⟨K4,4,none⟩=some (.slice B4 T4.NO.length d4)/\W'.cell? ⟨K4,5,none⟩=some (.int .i64 T4.lM)/\W'.cell? ⟨K4,6,none⟩=some (.slice C4 T4.NM.length e4)/\W'.cell? ⟨K4,7,none⟩=some (.int .i64 y0)/\W'.cell? ⟨K4,8,none⟩=some (.int .i64 y1)/\W'.cell? ⟨K4,9,none⟩=some (.int .i64 y2)from fun W' f=>by
         have b0:=BH.out.fresh f;have b1:=B5.out.fresh ((F56.out.trans' F67.out).trans' f)
         exact⟨by simpa using b0.cell 0,by simpa using b0.cell 1,by simpa using b0.cell 2,by simpa using b0.cell 3,by simpa using b0.cell 4,by simpa using b0.cell 5,by simpa using b0.cell 6,by simpa using b0.cell 7,by simpa using b0.cell 8,by simpa using b0.cell 9,by simpa using b1.cell 0,by simpa using b1.cell 1,by simpa using b1.cell 2,by simpa using b1.cell 3,by simpa using b1.cell 4,by simpa using b1.cell 5,by simpa using b1.cell 6,by simpa using b1.cell 7,by simpa using b1.cell 8,by simpa using b1.cell 9⟩)
       go_wp2_with fail;refine(HS1.out W (Upd.refl _ _)).mono ?_;rintro ea wa ⟨rfl,fa⟩;have FA:=hd_ fa;clear fa;go_wp2_with fail;refine(HS2.out wa FA.out).mono ?_;rintro eb wb ⟨rfl,fb⟩;have FB:=hd_ (FA.out.trans' fb);obtain⟨cz0,cz1,cz2,cz3,cz4,cz5,cz6,cz7,cz8,cz9,cz10,cz11,cz12,cz13,cz14,cz15,cz16,cz17,cz18,cz19⟩:=HC7.out wb FB.out;clear fb;go_wp2_with fail;refine(HS3.out wb FB.out).mono ?_;rintro ec wc ⟨rfl,fc⟩;have FC:=hd_ (FB.out.trans' fc);clear fc cz0 cz1 cz2 cz3 cz4 cz5 cz6 cz7 cz8 cz9 cz10 cz11 cz12 cz13 cz14 cz15 cz16 cz17 cz18 cz19;go_wp2_with fail;refine(HKN.out _).mono ?_;rintro ed wd ⟨rfl,fd⟩;have FD:=hd_ (FC.out.trans' fd);clear fd;go_wp2_with fail;(try go_ret);exact hR.out _ _ ⟨rfl,F0.out.trans' (F7.out.trans' FD.out)⟩
     obtain⟨h42,hbad⟩:=HG2.out.resolve_left he4;subst h42;have HBAD:=hd_ hbad;have hee:=HEM.out w3 F23.out;simp only [if_neg he4]at hee;have HEE:=hd_ hee;clear HGD HGB HGT HEM HGE HG2 hee bX hbad;go_wp2_with fail;refine HEE.out.mono ?_;rintro e4 w4 ⟨f4,rfl⟩;have F4:=hd_ (F3.out.trans' f4);clear f4 HEE he4 v0 v1 v2 v3 v4 v5 v6 v7 v8 v9;go_upto_region 7 with fail;obtain⟨w5,hw5⟩:=nm_ (w4.alloc (.cells #[.slice none 0 0,.int .i64 0,.slice none 0 0,.int .i64 0,.slice none 0 0,.int .i64 0,.slice none 0 0,.int .i64 0,.int .i64 0,.int .i64 0] 32));simp only [<-hw5];have F5:=hd_ (F4.out.trans' (show Q0 w4 w5 by rw [hw5];exact(Upd.refl _ _).alloc _));clear hw5;have hlen:=HNL.out.2.2.2;have hle:=HNL.out.2.1;go_wp2_with fail;go_loopg [13] nm (fun f vi wr=>∃j:Nat,j+f=nm/\vi = .int .i64 j/\(∀q∈lm.take j,Yj q)/\Q0 w0 wr)
     case atStart=>exact⟨0,by omega,rfl,by simp,F5.out⟩
     case round =>
       obtain⟨j,hj,rfl,hall,hu⟩:=hrel;have HALL:=hd_ hall;have HJ:=hd_ hj;have HU:=hd_ hu;by_cases hjn:j<nm
       . have hjI:(j:Int)<nm:=by omega
         (have j1:j<lm.length:=by omega);have hmm:lm.length=nm:=hlen;obtain⟨b,o,rfl,_,_,hc⟩:=(HRM.out wr hu).at_ (r:=0) hjn;rw [List.getElem_map]at hc;have c0:=hc 0 (by omega);have c1:=hc 1 (by omega);have c2:=hc 2 (by omega);simp [tri]at c0 c1 c2;have hw4:IntKind.i64.wrap ((j:Int)+1)=j+1:=IntWalk.i64_in _ (by omega);have HTK:=hd_ (show lm.take (j+1)=lm.take j++[lm[j]]from List.take_succ_eq_append_getElem j1);clear hc;generalize lm[j]=x at *;clear hall hj hu;obtain⟨xa,xb,xc⟩:=x;simp only at c0 c1 c2;have HMA:=hd_ (Q7S xa xb xc);clear hlen hle j1;by_cases hm:Yj (xa,xb,xc)
         . have hd:decide (Yj (xa,xb,xc))=true:=decide_eq_true hm
           rw [hd]at HMA;have HMM:=hd_ hm;clear hm hd;go_wp2_with fail;refine(HMA.out _).mono ?_;rintro ea wa ⟨rfl,fa⟩;have FA:=hd_ (HU.out.trans' fa);clear fa;go_wp2_with fail;go_roundg (gk-1)
           case measure=>have:=HJ.out;omega
           case rel=>exact⟨j+1,by have:=HJ.out;omega,by go_num,fun q hq=>by rw [HTK.out]at hq;rcases List.mem_append.1 hq with hq|hq;exact HALL.out q hq;rw [List.mem_singleton]at hq;rw [hq];exact HMM.out,FA.out⟩
         have hd:decide (Yj (xa,xb,xc))=false:=decide_eq_false hm;rw [hd]at HMA;clear hm hd;go_wp2_with fail;refine(HMA.out _).mono ?_;rintro ea wa ⟨rfl,fa⟩;have FA:=hd_ (HU.out.trans' fa);clear fa;go_wp2_with fail;refine(HKN.out _).mono ?_;rintro eb wb ⟨rfl,fb⟩;have FB:=hd_ (FA.out.trans' fb);clear fb;go_wp2_with fail;(try go_ret);exact hR.out _ _ ⟨rfl,F0.out.trans' FB.out⟩
       exfalso;(obtain rfl:j=nm:=by omega);refine HBAD.out fun q hq=>hall q ?_;rw [List.take_of_length_le (by omega)];exact hq
   (have hne:(s0 != 0)=true:=by simpa using he);(have hne2:(s0 == 0)=false:=by simpa using he);have hee:=HEN.out w1 F1.out;simp only [if_neg he]at hee;have HEE:=hd_ hee;clear HED HEB HET HEN hee he;go_wp2_with fail;refine HEE.out.mono ?_;rintro e2 w2 ⟨f2,rfl⟩;have F2:=hd_ (F1.out.trans' f2);clear f2 HEE;go_upto_region 4 with fail;obtain⟨w3,hw3⟩:=nm_ (w2.alloc (.cells #[.slice none 0 0,.int .i64 0,.slice none 0 0,.int .i64 0,.slice none 0 0,.int .i64 0,.slice none 0 0,.int .i64 0,.int .i64 0,.int .i64 0] 32));simp only [<-hw3];have F3:=hd_ (F2.out.trans' (show Q0 w2 w3 by rw [hw3];exact(Upd.refl _ _).alloc _));clear hw3;go_wp2_with fail;refine(HKN.out _).mono ?_;rintro e4 w4 ⟨rfl,f4⟩;have F4:=hd_ (F3.out.trans' f4);clear f4;go_wp2_with fail;(try go_ret);exact hR.out _ _ ⟨rfl,F0.out.trans' F4.out⟩
 have hd:decide (h<=300/\n<=300/\m<=300/\k<=300)=false:=decide_eq_false hfew;rw [hd]at HFW;clear hbig hbig2 hfew hd;clear hw0 hH f0 bc p0 p1 p2 p3 f1 f2 f3 hL hM hfitL hfitM hTr hNL hNO hNM hll hlm;refine Q7 fun R hR=>?_;obtain⟨u0,u1,u2,u3,u4,u5,u6,u7,u8,u9⟩:=HCX.out w0 (Upd.refl _ _);go_enter Tryz.func7,Tryz.ntmps7;go_upto_region 1 with fail;simp only [<-HH.out,<-HW.out];go_wp2_with fail;refine(HFW.out _).mono ?_;rintro e1 w1 ⟨rfl,f1⟩;have F1:=hd_ f1;clear f1;go_wp2_with fail;refine(HKN.out _).mono ?_;rintro e2 w2 ⟨rfl,f2⟩;have F2:=hd_ ((F1.out).trans' f2);clear f2;go_wp2_with fail;(try go_ret);exact hR.out _ _ ⟨rfl,F0.out.trans' F2.out⟩
end Go.Proofs.YtjfdaphjijfieaaGreat
