/-
  SeqsNil: the law's function answers true.
  Conditions: none beyond those of each theorem.
-/
import Derived.Test.YtjfdaphjijfieaaGreatL41
import Derived.Test.YtjfdaphjijfieaaGreatL37
import Derived.Test.YtjfdaphjijfieaaGreatL40
import Derived.Test.YtjfdaphjijfieaaGreatL38
import Derived.Test.YtjfdaphjijfieaaGreatL3
import Derived.Test.YtjfdaphjijfieaaGreatL5
import Derived.Test.YtjfdaphjijfieaaGreatL12
set_option maxHeartbeats 20000000
namespace Go.Proofs.YtjfdaphjijfieaaGreat
open Go.RowKit
set_option linter.unusedVariables false
set_option linter.unusedSimpArgs false
theorem QI.wok {w:World} {e:TypeId} {k:Nat} {v:Value} {rows:List (List Value)} (h:QI w e k v rows):∃A c,v = .slice A rows.length c/\Wok w (fun b=>v.ownBlock=some b) A (rows.length*k):=by
 rcases h.1.2 with ⟨rfl,h0⟩|⟨g,cap,cur,rfl,_,hg,hn,hm,hc,ht⟩
 . refine⟨none,0,by rw [h0],fun j hj=>?_⟩
   rw [h0,Nat.zero_mul]at hj;omega
 refine⟨some ⟨g,0,none⟩,cap,rfl,fun j hj=>⟨g,0,_,cur,rfl,rfl,hg,?_⟩⟩;have h5:=congrArg List.length ht;rw [VR h.2]at h5;simp only [List.length_take,Array.length_toList]at h5;omega
theorem Wok.upd {S:Nat->Prop} {w w':World} {F:Nat->Prop} {A:Option Addr} {n:Nat} (h:Wok w F A n) (hu:Upd S w w') (hs:∀b,b<w.heap.size->F b->¬S b):Wok w' F A n:=by
 intro j hj;obtain⟨b,o,t,cs,e,hf,hb,hl⟩:=h j hj;exact⟨b,o,t,cs,e,hf,hb.upd hu (hs b hb.lt hf),hl⟩
set_option maxRecDepth 100000 in
theorem Q8U (D A B C:Option Addr) (h i n c m d k e:Nat) (T:Qa) (Tr:List Int) (r0 r1 r2:Int) (L:Option Addr) (nl dl:Nat) (l:List (Int × Int × Int)) (w:World) (p0:Rd w (fun _=>True) D h (Q2 Tr)) (p1:Rd w (fun _=>True) A n (Q2 T.NL)) (p2:Rd w (fun _=>True) B m (Q2 T.NO)) (p3:Rd w (fun _=>True) C k (Q2 T.NM)) (f1:Fit T.NL) (f2:Fit T.NO) (f3:Fit T.NM)
   (hL:RdK w (fun _=>True) 3 L nl (l.map tri)) (hfit:∀s∈l,-(2^63)<=s.2.1/\s.2.1<2^63) :
   Calls Tryz.prog 11 #[.agg #[.slice D h i,.int .i64 T.lL,.slice A n c,.int .i64 T.lO,.slice B m d,.int .i64 T.lM,.slice C k e,.int .i64 r0,.int .i64 r1,.int .i64 r2],.slice L nl dl] w fun e' w'=>e' = .returned (.bool true)/\Q0 w w':=by
 obtain⟨w0,hw0⟩:=nm_ (w.alloc (.cells #[.slice D h i,.int .i64 T.lL,.slice A n c,.int .i64 T.lO,.slice B m d,.int .i64 T.lM,.slice C k e,.int .i64 r0,.int .i64 r1,.int .i64 r2] 32));obtain⟨H,hH⟩:=nm_ (w.heap.size);(have f0:Q0 w w0:=by rw [hw0];exact(Upd.refl _ _).alloc _);(have bc:Blk w0 H 32 #[.slice D h i,.int .i64 T.lL,.slice A n c,.int .i64 T.lO,.slice B m d,.int .i64 T.lM,.slice C k e,.int .i64 r0,.int .i64 r1,.int .i64 r2]:=by rw [hw0];exact Q1 hH _ _);(have hTr:Tr.length=h:=by have:=p0.1;rw [Y0]at this;exact this);(have hNL:T.NL.length=n:=by have:=p1.1;rw [Y0]at this;exact this);(have hNO:T.NO.length=m:=by have:=p2.1;rw [Y0]at this;exact this);(have hNM:T.NM.length=k:=by have:=p3.1;rw [Y0]at this;exact this);(have hll:l.length=nl:=by have:=hL.1;simpa using this);have HFW:=hd_ (fun W=>Q70 D A B C h i n c m d k e T r0 r1 r2 W);have HRP:=hd_ (fun W=>Q5F r0 r1 r2 W);have HDN:=hd_ (fun W=>Q8E D A B C h i n c m d k e T r0 r1 r2 W);have HKN:=hd_ Q47
 have HCX:=hd_ (show ∀W,Q0 w0 W->W.cell? ⟨H,0,none⟩=some (.slice D h i)/\W.cell? ⟨H,1,none⟩=some (.int .i64 T.lL)/\W.cell? ⟨H,2,none⟩=some (.slice A n c)/\W.cell? ⟨H,3,none⟩=some (.int .i64 T.lO)/\W.cell? ⟨H,4,none⟩=some (.slice B m d)/\W.cell? ⟨H,5,none⟩=some (.int .i64 T.lM)/\W.cell? ⟨H,6,none⟩=some (.slice C k e)/\W.cell? ⟨H,7,none⟩=some (.int .i64 r0)/\W.cell? ⟨H,8,none⟩=some (.int .i64 r1)/\W.cell? ⟨H,9,none⟩=some (.int .i64 r2)from fun W f=>by
   have bb:=bc.fresh f
   exact bb.cells10)
 have HW:=hd_ hw0;have HH:=hd_ hH;have F0:=hd_ f0;by_cases hbig:40<nl
 . have hb:(40:Int)<nl:=by omega
   clear hbig;clear hw0 hH f0 bc p0 p1 p2 p3 f1 f2 f3 hL hfit hTr hNL hNO hNM hll;refine Q6 fun R hR=>?_;obtain⟨u0,u1,u2,u3,u4,u5,u6,u7,u8,u9⟩:=HCX.out w0 (Upd.refl _ _);go_enter Tryz.func11,Tryz.ntmps11;go_upto_region 1 with fail;simp only [<-HH.out,<-HW.out];go_wp2_with fail;refine(HKN.out _).mono ?_;rintro e1 w1 ⟨rfl,f1⟩;have F1:=hd_ ((Upd.refl _ _).trans' f1);clear f1;go_wp2_with fail;(try go_ret);exact hR.out _ _ ⟨rfl,F0.out.trans' F1.out⟩
 (have hb:¬(40:Int)<nl:=by omega);by_cases hfew:h<=300/\n<=300/\m<=300/\k<=300
 . have HEN:=hd_ (fun(FL G:Nat->Prop) (L:Option Addr) (nl dl:Nat) (l:List (Int × Int × Int)) W hL hfit hnl=>Q76 FL G D A B C L h i n c m d k e nl dl T Tr r0 r1 r2 l W hL hfit hnl)
   have HSD:=hd_ (fun(F':Nat->Prop) (g:Nat) (bs:List Nat) (W:World) (hc:Qk W F' g bs 0) (hF:∀b,F' b->b≠g) (hg:w.heap.size<=g) (f:Q0 w0 W)=>Xw F' (fun b=>b<w.heap.size) g bs 0 D A B C h i n c m d k e T Tr r0 r1 r2 W hc hF (fun b hb=>by omega) ((p0.old.fresh f0).fresh f) ((p1.old.fresh f0).fresh f) ((p2.old.fresh f0).fresh f) ((p3.old.fresh f0).fresh f) f1 f2 f3 (by omega) (by omega) (by omega) (by omega));have hd:decide (h<=300/\n<=300/\m<=300/\k<=300)=true:=decide_eq_true hfew;rw [hd]at HFW;have HOW:=hd_ (fun W (f:Q0 w0 W)=>Q3C D A B C h i n c m d k e T Tr r0 r1 r2 W (fun b=>b<w.heap.size) ((p0.old.fresh f0).fresh f) ((p1.old.fresh f0).fresh f) ((p2.old.fresh f0).fresh f) ((p3.old.fresh f0).fresh f) (by omega) (by omega) (by omega) (by omega));have HRL:=hd_ (fun W (f:Q0 w0 W)=>((hL.both.mono (fun b hb=>hb.2):RdK w (fun b=>b<w.heap.size) 3 L nl (l.map tri)).fresh f0).fresh f);have HPS:=hd_ (And.intro (p0.old.fresh f0) (And.intro (p1.old.fresh f0) (And.intro (p2.old.fresh f0) (p3.old.fresh f0))));have HNLE:=hd_ (show nl<=40 by omega);have HFIT:=hd_ hfit;have HTF:=hd_ (And.intro f1 (And.intro f2 f3));have HLN:=hd_ (And.intro hfew hll);clear hbig hfew hd;clear hw0 hH f0 bc p0 p1 p2 p3 f1 f2 f3 hL hfit hTr hNL hNO hNM hll;refine Q6 fun R hR=>?_;obtain⟨u0,u1,u2,u3,u4,u5,u6,u7,u8,u9⟩:=HCX.out w0 (Upd.refl _ _);go_enter Tryz.func11,Tryz.ntmps11;go_upto_region 1 with fail;simp only [<-HH.out,<-HW.out];go_wp2_with fail;refine(HFW.out _).mono ?_;rintro e1 w1 ⟨rfl,f1⟩;have F1:=hd_ f1;clear f1;clear u0 u1 u2 u3 u4 u5 u6 u7 u8 u9;obtain⟨u0,u1,u2,u3,u4,u5,u6,u7,u8,u9⟩:=HCX.out w1 F1.out;go_wp2_with fail;refine(HDN.out _).mono ?_;rintro e2 w2 ⟨rfl,f2⟩;have F2:=hd_ (F1.out.trans' f2);clear f2 u0 u1 u2 u3 u4 u5 u6 u7 u8 u9 HDN;obtain⟨u0,u1,u2,u3,u4,u5,u6,u7,u8,u9⟩:=HCX.out w2 F2.out;go_upto_region 4 with fail;obtain⟨w3,hw3⟩:=nm_ (w2.alloc (.cells #[.slice none 0 0,.int .i64 0,.slice none 0 0,.int .i64 0,.slice none 0 0,.int .i64 0,.slice none 0 0,.int .i64 0,.int .i64 0,.int .i64 0] 32));simp only [<-hw3];have F3:=hd_ (F2.out.trans' (show Q0 w2 w3 by rw [hw3];exact(Upd.refl _ _).alloc _));clear hw3 u0 u1 u2 u3 u4 u5 u6 u7 u8 u9;obtain⟨u0,u1,u2,u3,u4,u5,u6,u7,u8,u9⟩:=HCX.out w3 F3.out;go_wp2_with fail;refine(HRP.out _).mono ?_;rintro e4 w4 ⟨rfl,f4⟩;have F4:=hd_ (F3.out.trans' f4);clear f4 HRP u0 u1 u2 u3 u4 u5 u6 u7 u8 u9;by_cases hr:Qz r0 r1 r2=true
   . rw [hr]
     have HR:=hd_ hr;clear hr HEN;obtain⟨u0,u1,u2,u3,u4,u5,u6,u7,u8,u9⟩:=HCX.out w4 F4.out;go_upto_region 10 with fail;go_wp2_with fail;refine(HOW.out _ F4.out).mono ?_;rintro e5 w5 ⟨Do,io,Ao,co,Bo,do_,Co,eo,rfl,ro0,ro1,ro2,ro3,f5⟩;have F5:=hd_ (F4.out.trans' f5);have RO:=hd_ (And.intro ro0 (And.intro ro1 (And.intro ro2 ro3)));have F45:=hd_ f5;clear f5 ro0 ro1 ro2 ro3 HOW u0 u1 u2 u3 u4 u5 u6 u7 u8 u9;go_upto_region 11 with fail;obtain⟨Ho,hHo⟩:=nm_ (w5.heap.size);obtain⟨w6,hw6⟩:=nm_ (w5.alloc (.cells #[.slice Do h io,.int .i64 T.lL,.slice Ao n co,.int .i64 T.lO,.slice Bo m do_,.int .i64 T.lM,.slice Co k eo,.int .i64 r0,.int .i64 r1,.int .i64 r2] 32));simp only [<-hHo,<-hw6];have F56:=hd_ (show Q0 w5 w6 by rw [hw6];exact(Upd.refl _ _).alloc _);have BO:=hd_ (show Blk w6 Ho 32 #[.slice Do h io,.int .i64 T.lL,.slice Ao n co,.int .i64 T.lO,.slice Bo m do_,.int .i64 T.lM,.slice Co k eo,.int .i64 r0,.int .i64 r1,.int .i64 r2] by rw [hw6];exact Q1 hHo _ _);have HHO:=hd_ hHo;clear hw6 hHo;have F6:=hd_ (F5.out.trans' F56.out)
     have htl:∀r∈l.map tri,r.length=3:=by
       intro r hr;obtain⟨s,_,rfl⟩:=List.mem_map.1 hr;rfl
     have ht1:∀r∈l.map tri,∀u∈r,u.oneCell'=true:=by
       intro r hr;obtain⟨s,_,rfl⟩:=List.mem_map.1 hr;simp [tri,Value.oneCell']
     go_upto_region 12 with (at_builtin;go_must (refine Q1c _ rfl (.tmp 72) _ rfl 23 _ 3 24 Tryz.underlying37 Q4y rfl (by omega) (by omega) L nl dl (l.map tri) rfl (HRL.out w6 F6.out) htl ht1 (by have:=HNLE.out;omega) ?_);intro v7 w7 ov g7 a7);have F67:=hd_ (show Q0 w6 w7 from Upd.grown (Upd.refl _ _) g7 (fun k hk _=>by cases hk));have F7:=hd_ (F6.out.trans' F67.out);(have hlm:(l.map tri).length=nl:=by rw [List.length_map];exact HLN.out.2);have HVB:=hd_ (show ∀b,v7.ownBlock=some b->w6.heap.size<=b from fun b hb=>by rcases a7 with a7|a7;rw [a7]at hb;cases hb;rw [a7]at hb;injection hb with hb;omega);obtain⟨Am,cm,rfl,hcm,rm⟩:=ov.form;have rm2:RdK w7 (fun b=>w6.heap.size<=b/\b<w7.heap.size) 3 Am (l.map tri).length (l.map tri):=rm.both.mono (fun b hb=>⟨HVB.out b hb.1,hb.2⟩);rw [hlm]at rm2;simp only [hlm];have RM:=hd_ rm2;have BO7:=hd_ (BO.out.fresh F67.out);clear ov g7 a7 htl ht1 hcm rm rm2 HVB hlm
     have HCO:=hd_ (show ∀W,Q0 w7 W->W.cell? ⟨Ho,0,none⟩=some (.slice Do h io)/\W.cell? ⟨Ho,1,none⟩=some (.int .i64 T.lL)/\W.cell? ⟨Ho,2,none⟩=some (.slice Ao n co)/\W.cell? ⟨Ho,3,none⟩=some (.int .i64 T.lO)/\W.cell? ⟨Ho,4,none⟩=some (.slice Bo m do_)/\W.cell? ⟨Ho,5,none⟩=some (.int .i64 T.lM)/\W.cell? ⟨Ho,6,none⟩=some (.slice Co k eo)/\W.cell? ⟨Ho,7,none⟩=some (.int .i64 r0)/\W.cell? ⟨Ho,8,none⟩=some (.int .i64 r1)/\W.cell? ⟨Ho,9,none⟩=some (.int .i64 r2)from fun W f=>by
       have bb:=BO7.out.fresh f
       exact bb.cells10)
     have F57:=hd_ (F56.out.trans' F67.out);have HE1:=hd_ (fun W (f:Q0 w7 W)=>Q1B (fun b=>w6.heap.size<=b/\b<w7.heap.size) (fun b=>w4.heap.size<=b) Do Ao Bo Co Am h io n co m do_ k eo nl cm T Tr r0 r1 r2 l W (RM.out.fresh f) HFIT.out (by have:=HNLE.out;omega) (RO.out.1.1.fresh (F57.out.trans' f)) (RO.out.2.1.1.fresh (F57.out.trans' f)) (RO.out.2.2.1.1.fresh (F57.out.trans' f)) (RO.out.2.2.2.1.fresh (F57.out.trans' f)) HTF.out.1 HTF.out.2.1 HTF.out.2.2 (by have:=HLN.out.1;omega) (by have:=HLN.out.1;omega) (by have:=HLN.out.1;omega) (by have:=HLN.out.1;omega));(have hll2:l.length<128:=by have:=HNLE.out;have:=HLN.out.2;omega);have HEB:=hd_ (fun he=>Q5P (T:=T) (a:=r0) (b:=r1) (c:=r2) (l:=l) hll2 he);have HED:=hd_ (fun he=>Q9L (T:=T) (a:=r0) (b:=r1) (c:=r2) (l:=l) hll2 he);have HTW:=hd_ (Q8P (T:=T) (a:=r0) (b:=r1) (c:=r2) (l:=l) HR.out (by omega));have HTB:=hd_ (fun he=>Q77 (T:=T) (a:=r0) (b:=r1) (c:=r2) (l:=l) he HTF.out.1 HTF.out.2.1 HTF.out.2.2 (by have:=HLN.out.1;have q:=RO.out.2.1.1.1;rw [Y0]at q;omega) (by have:=HLN.out.1;have q:=RO.out.2.2.1.1.1;rw [Y0]at q;omega) (by have:=HLN.out.1;have q:=RO.out.2.2.2.1.1;rw [Y0]at q;omega));clear hll2;unfold Z8 at HE1;generalize Y8 T r0 r1 r2 l=S at *;obtain⟨s0,eb,T2,x0,x1,x2⟩:=S;simp only at HE1 HEB HED HTW HTB;obtain⟨u0,u1,u2,u3,u4,u5,u6,u7,u8,u9⟩:=HCO.out w7 (Upd.refl _ _);by_cases he:s0=0
     . subst he
       have HTB2:=hd_ (HTB.out rfl);have HEB2:=hd_ (HEB.out rfl);have HED2:=hd_ (HED.out rfl);have hee:=HE1.out;simp only [if_true]at hee;have HEE:=hd_ hee;clear HEB HED HTW HTB HE1 hee;go_wp2_with fail;refine(HEE.out w7 (Upd.refl _ _)).mono ?_;rintro e8 w8 ⟨f8,v,D2,h2_,i2,A2,n2,c2,B2,m2,d2,C2,k2,e2,rfl,ov,hvb,t0,t1,t2,t3⟩;have HVB:=hd_ (show ∀b,v.ownBlock=some b->w7.heap.size<=b/\b<w8.heap.size from fun b hb=>⟨hvb b hb,ov.lt hb⟩);have HOV:=hd_ ov;have RX:=hd_ (And.intro t0 (And.intro t1 (And.intro t2 t3)));have hnb:(Q9 eb).length=eb.length:=JU eb;have ov2:=ov;obtain⟨Av,cv,hve,hcv,rv⟩:=ov2.form;rw [hnb]at hve;subst hve;have RV:=hd_ (show Rd w8 (fun b=>(Value.slice Av eb.length cv).ownBlock=some b) Av eb.length (Q9 eb) by rw [<-hnb];rw [hnb];simpa [hnb]using rv);have F78:=hd_ f8;have F8:=hd_ (F7.out.trans' f8);clear f8 ov ov2 hvb t0 t1 t2 t3 hcv rv hnb u0 u1 u2 u3 u4 u5 u6 u7 u8 u9;go_upto_region 13 with fail;obtain⟨Hx,hHx⟩:=nm_ (w8.heap.size);obtain⟨w9,hw9⟩:=nm_ (w8.alloc (.cells #[.slice D2 h2_ i2,.int .i64 T2.lL,.slice A2 n2 c2,.int .i64 T2.lO,.slice B2 m2 d2,.int .i64 T2.lM,.slice C2 k2 e2,.int .i64 x0,.int .i64 x1,.int .i64 x2] 32));simp only [<-hHx,<-hw9];have F89:=hd_ (show Q0 w8 w9 by rw [hw9];exact(Upd.refl _ _).alloc _);have BX:=hd_ (show Blk w9 Hx 32 #[.slice D2 h2_ i2,.int .i64 T2.lL,.slice A2 n2 c2,.int .i64 T2.lO,.slice B2 m2 d2,.int .i64 T2.lM,.slice C2 k2 e2,.int .i64 x0,.int .i64 x1,.int .i64 x2] by rw [hw9];exact Q1 hHx _ _);have F9:=hd_ (F8.out.trans' F89.out);have F79:=hd_ (F78.out.trans' F89.out);have HHX:=hd_ (show Hx=w8.heap.size/\w9.heap.size=Hx+1 from⟨hHx,by rw [hw9,hHx];simp⟩);clear hw9 hHx;have HCX9:=hd_ (fun W (f:Q0 w9 W)=>HCO.out W (F79.out.trans' f));have HNW9:=hd_ (fun W (f:Q0 w9 W)=>Vg _ Av eb.length cv eb W (RV.out.fresh (F89.out.trans' f)) HEB2.out.1 (by have:=HEB2.out.2.2.1;omega));have S1:=hd_ (show w4.heap.size<=w5.heap.size/\w5.heap.size<=w7.heap.size/\w7.heap.size<=w8.heap.size/\w8.heap.size<=w9.heap.size from⟨F45.out.size,F57.out.size,F78.out.size,F89.out.size⟩)
       have HSD9:=hd_ (show ∀(F':Nat->Prop) (g:Nat) (W':World),Qk W' F' g eb 0->(∀b,F' b->b≠g)->w9.heap.size<=g->Q0 w9 W'->Calls Tryz.prog 18 #[.pointer (some ⟨g,0,none⟩),.agg #[.slice Do h io,.int .i64 T.lL,.slice Ao n co,.int .i64 T.lO,.slice Bo m do_,.int .i64 T.lM,.slice Co k eo,.int .i64 r0,.int .i64 r1,.int .i64 r2]] W' (Zf F' g eb ⟨0,l,T2,x0,x1,x2,eb.length⟩ Tr W')from fun F' g W' hc hF hg f=>by
         have hss:=Xw F' (fun b=>b<w5.heap.size) g eb 0 Do Ao Bo Co h io n co m do_ k eo T Tr r0 r1 r2 W' hc hF (fun b hb=>by have:=S1.out;omega) (RO.out.1.1.old.fresh (F57.out.trans' (F79.out.trans' f))) (RO.out.2.1.1.old.fresh (F57.out.trans' (F79.out.trans' f))) (RO.out.2.2.1.1.old.fresh (F57.out.trans' (F79.out.trans' f))) (RO.out.2.2.2.1.old.fresh (F57.out.trans' (F79.out.trans' f))) HTF.out.1 HTF.out.2.1 HTF.out.2.2 (by have:=HLN.out.1;omega) (by have:=HLN.out.1;omega) (by have:=HLN.out.1;omega) (by have:=HLN.out.1;omega);rw [HED2.out]at hss
         exact hss)
       obtain⟨Cw,cEq⟩:=exC (fun W=>Q0 w9 W);obtain⟨Y,yA⟩:=exY [fun xs W=>(xs 0) = .slice Av eb.length cv,fun xs W=>∃g,(xs 1) = .pointer (some ⟨g,0,none⟩)/\w9.heap.size<=g/\Qk W (fun q=>w9.heap.size<=q/\q≠g) g eb 0,fun xs W=>(xs 2) = .agg #[.slice Do h io,.int .i64 T.lL,.slice Ao n co,.int .i64 T.lO,.slice Bo m do_,.int .i64 T.lM,.slice Co k eo,.int .i64 r0,.int .i64 r1,.int .i64 r2],fun xs W=>∃v3 D3 h3 i3 A3 n3 c3 B3 m3 d3 C3 k3 e3,(xs 3) = .tuple #[v3,.agg #[.slice D3 h3 i3,.int .i64 T2.lL,.slice A3 n3 c3,.int .i64 T2.lO,.slice B3 m3 d3,.int .i64 T2.lM,.slice C3 k3 e3,.int .i64 x0,.int .i64 x1,.int .i64 x2],.int .i64 0]/\(QI W 23 3 v3 (l.map tri)/\∀b,Value.ownBlock v3=some b->w9.heap.size<=b/\QM (xs 8) b)/\RdU W (fun b=>w9.heap.size<=b/\QM (xs 8) b) D3 h3 (Q2 Tr)/\RdU W (fun b=>w9.heap.size<=b/\QM (xs 8) b) A3 n3 (Q2 T2.NL)/\RdU W (fun b=>w9.heap.size<=b/\QM (xs 8) b) B3 m3 (Q2 T2.NO)/\RdU W (fun b=>w9.heap.size<=b/\QM (xs 8) b) C3 k3 (Q2 T2.NM),fun xs W=>∃v3 D3 h3 i3 A3 n3 c3 B3 m3 d3 C3 k3 e3,(xs 4) = .tuple #[v3,.agg #[.slice D3 h3 i3,.int .i64 T2.lL,.slice A3 n3 c3,.int .i64 T2.lO,.slice B3 m3 d3,.int .i64 T2.lM,.slice C3 k3 e3,.int .i64 x0,.int .i64 x1,.int .i64 x2],.int .i64 0]/\(QI W 23 3 v3 (l.map tri)/\∀b,Value.ownBlock v3=some b->w9.heap.size<=b/\QM (xs 8) b)/\RdU W (fun b=>w9.heap.size<=b/\QM (xs 8) b) D3 h3 (Q2 Tr)/\RdU W (fun b=>w9.heap.size<=b/\QM (xs 8) b) A3 n3 (Q2 T2.NL)/\RdU W (fun b=>w9.heap.size<=b/\QM (xs 8) b) B3 m3 (Q2 T2.NO)/\RdU W (fun b=>w9.heap.size<=b/\QM (xs 8) b) C3 k3 (Q2 T2.NM),fun xs W=>QI W 23 3 (xs 5) (l.map tri)/\∀b,Value.ownBlock (xs 5)=some b->w9.heap.size<=b/\QM (xs 8) b,fun xs W=>∃D3 h3 i3 A3 n3 c3 B3 m3 d3 C3 k3 e3,(xs 6) = .agg #[.slice D3 h3 i3,.int .i64 T2.lL,.slice A3 n3 c3,.int .i64 T2.lO,.slice B3 m3 d3,.int .i64 T2.lM,.slice C3 k3 e3,.int .i64 x0,.int .i64 x1,.int .i64 x2]/\RdU W (fun b=>w9.heap.size<=b/\QM (xs 8) b) D3 h3 (Q2 Tr)/\RdU W (fun b=>w9.heap.size<=b/\QM (xs 8) b) A3 n3 (Q2 T2.NL)/\RdU W (fun b=>w9.heap.size<=b/\QM (xs 8) b) B3 m3 (Q2 T2.NO)/\RdU W (fun b=>w9.heap.size<=b/\QM (xs 8) b) C3 k3 (Q2 T2.NM),fun xs W=>(xs 7) = .int .i64 0,fun xs W=>∃g,(xs 8) = .pointer (some ⟨g,0,none⟩)/\w9.heap.size<=g/\Blk W g 32 #[.slice none 0 0,.int .i64 0,.slice none 0 0,.int .i64 0,.slice none 0 0,.int .i64 0,.slice none 0 0,.int .i64 0,.int .i64 0,.int .i64 0],fun xs W=>QI W 23 3 (xs 9) (l.map tri)/\∀b,Value.ownBlock (xs 9)=some b->w9.heap.size<=b/\QM (xs 8) b,fun xs W=>∃g D3 h3 i3 A3 n3 c3 B3 m3 d3 C3 k3 e3,(xs 8) = .pointer (some ⟨g,0,none⟩)/\w9.heap.size<=g/\Blk W g 32 #[.slice D3 h3 i3,.int .i64 T2.lL,.slice A3 n3 c3,.int .i64 T2.lO,.slice B3 m3 d3,.int .i64 T2.lM,.slice C3 k3 e3,.int .i64 x0,.int .i64 x1,.int .i64 x2]/\RdU W (fun b=>w9.heap.size<=b/\QM (xs 8) b) D3 h3 (Q2 Tr)/\RdU W (fun b=>w9.heap.size<=b/\QM (xs 8) b) A3 n3 (Q2 T2.NL)/\RdU W (fun b=>w9.heap.size<=b/\QM (xs 8) b) B3 m3 (Q2 T2.NO)/\RdU W (fun b=>w9.heap.size<=b/\QM (xs 8) b) C3 k3 (Q2 T2.NM),fun xs W=>(xs 11) = .int .i64 0]
       have yf0:=yA 0;have yf1:=yA 1;have yf2:=yA 2;have yf3:=yA 3;have yf4:=yA 4;have yf5:=yA 5;have yf6:=yA 6;have yf7:=yA 7;have yf8:=yA 8;have yf9:=yA 9;have yf10:=yA 10;have yf11:=yA 11;simp only [List.getD_cons_zero,List.getD_cons_succ]at yf0 yf1 yf2 yf3 yf4 yf5 yf6 yf7 yf8 yf9 yf10 yf11;(have yN:∀j xs W,12<=j->Y j xs W=True:=fun j xs W hj=>by rw [yA,Kg _ _ _ hj])
       have yP:∀j xs W W',j∈[0,2,7,11]->Y j xs W->Y j xs W':=by
         intro j xs W W' hj hy;simp only [List.mem_cons,List.not_mem_nil,or_false]at hj;rcases hj with rfl|rfl|rfl|rfl
         . rw [yf0]at hy ⊢;exact hy
         . rw [yf2]at hy ⊢;exact hy
         . rw [yf7]at hy ⊢;exact hy
         rw [yf11]at hy ⊢;exact hy
       have yM:Q0h [[0],[1],[2],[3,8],[4,8],[5,8],[6,8],[7],[8],[9,8],[8],[11]] Y:=by
         intro j xs xs' W hh hy;by_cases hj:12<=j
         . rw [yN j _ _ hj];trivial
         (have hj':j=0\/j=1\/j=2\/j=3\/j=4\/j=5\/j=6\/j=7\/j=8\/j=9\/j=10\/j=11:=by omega);rcases hj' with rfl|rfl|rfl|rfl|rfl|rfl|rfl|rfl|rfl|rfl|rfl|rfl
         . rw [yf0]at hy ⊢;rw [<-hh 0 (by decide)];exact hy
         . rw [yf1]at hy ⊢;rw [<-hh 1 (by decide)];exact hy
         . rw [yf2]at hy ⊢;rw [<-hh 2 (by decide)];exact hy
         . rw [yf3]at hy ⊢;rw [<-hh 3 (by decide),<-hh 8 (by decide)];exact hy
         . rw [yf4]at hy ⊢;rw [<-hh 4 (by decide),<-hh 8 (by decide)];exact hy
         . rw [yf5]at hy ⊢;rw [<-hh 5 (by decide),<-hh 8 (by decide)];exact hy
         . rw [yf6]at hy ⊢;rw [<-hh 6 (by decide),<-hh 8 (by decide)];exact hy
         . rw [yf7]at hy ⊢;rw [<-hh 7 (by decide)];exact hy
         . rw [yf8]at hy ⊢;rw [<-hh 8 (by decide)];exact hy
         . rw [yf9]at hy ⊢;rw [<-hh 9 (by decide),<-hh 8 (by decide)];exact hy
         . rw [yf10]at hy ⊢;rw [<-hh 8 (by decide)];exact hy
         rw [yf11]at hy ⊢;rw [<-hh 11 (by decide)];exact hy
       clear yA
       have yR:∀j xs,12<=j->Y j xs (w9.drew):=by
         intro j xs hj;rcases(show 12<=j by omega)with hj;rw [yN _ _ _ hj];trivial
       refine JZ Cw (fun j=>if j=1 then [3,10]else if j=3 then [10]else if j=5 then [10]else if j=6 then [10]else if j=8 then [10]else []) Y [(0,some 82),(1,some 83),(2,some 84),(3,some 85),(4,some 81),(5,some 86),(6,some 87),(7,some 88),(8,some 20),(9,some 19),(10,none),(11,some 21)] (by kernel_rfl) (by kernel_rfl) (by kernel_rfl) (by rw [cEq];exact(Upd.refl _ _).drew) (fun j hj=>yR j _ hj) ?_ ?_
       . refine Qm.cons [] (by kernel_rfl) (fun xs W hw hd lst hl K hK=>?_) ?_
         . rw [cEq]at hw
           have hK':=hK.out;clear hK;simp only [Qh,Act.put,List.setIfInBounds_toArray,List.set_cons_zero,List.set_cons_succ]at hK' ⊢;go_simp;exact hK' _ _ (by rw [cEq];exact hw) (Qe yM 0 (by kernel_rfl) xs W _) (by rw [yf0];exact if_pos rfl)
         refine Qm.cons [(0,some 82)] (by kernel_rfl) (fun xs W hw hd lst hl K hK=>?_) ?_
         . rw [cEq]at hw
           have hK':=hK.out;clear hK;simp only [QV]at hd;obtain⟨hf0,_⟩:=hd;simp only [Qh,Act.put,List.setIfInBounds_toArray,List.set_cons_zero,List.set_cons_succ]at hK' ⊢;rw [yf0]at hf0;simp only [hf0]at hK' ⊢;go_simp;refine(HNW9.out W hw).mono ?_;rintro ez wz ⟨gz,rfl,hgz,fz,cuz⟩;have hsz:=hw.size;have hR:=fz;refine hK' (_) (wz) (by rw [cEq];exact hw.trans' fz) (Y1 yM 1 (by kernel_rfl) _ fun j hs hy=>?_) (by rw [yf1];(try simp only [↓reduceIte]);try exact⟨gz,rfl,by omega,cuz.mono (fun b hb=>⟨by have:=hb.1;omega,hb.2⟩)⟩);by_cases hp:j∈[0,2,7,11]
           . exact yP j _ _ _ hp hy
           by_cases hj:12<=j
           . rw [yN j _ _ hj];trivial
           simp only [List.mem_cons,List.not_mem_nil,or_false]at hp;rcases(show j=1\/j=3\/j=4\/j=5\/j=6\/j=8\/j=9\/j=10 by omega)with rfl|rfl|rfl|rfl|rfl|rfl|rfl|rfl
           . exact(Q8 hs (by kernel_rfl)).elim
           . exact(Q8 hs (by kernel_rfl)).elim
           . exact(Q8 hs (by kernel_rfl)).elim
           . exact(Q8 hs (by kernel_rfl)).elim
           . exact(Q8 hs (by kernel_rfl)).elim
           . rw [yf8]at hy ⊢;obtain⟨g,k1,k2,k3⟩:=hy;exact⟨g,k1,k2,k3.fresh hR⟩
           . exact(Q8 hs (by kernel_rfl)).elim
           exact(Q8 hs (by kernel_rfl)).elim
         refine Qm.cons [] (by kernel_rfl) (fun xs W hw hd lst hl K hK=>?_) ?_
         . rw [cEq]at hw
           have hK':=hK.out;clear hK;simp only [Qh,Act.put,List.setIfInBounds_toArray,List.set_cons_zero,List.set_cons_succ]at hK' ⊢;have cl:=HCX9.out W hw;obtain⟨cz0,cz1,cz2,cz3,cz4,cz5,cz6,cz7,cz8,cz9⟩:=cl;go_simp;exact hK' _ _ (by rw [cEq];exact hw) (Qe yM 2 (by kernel_rfl) xs W _) (by rw [yf2];exact if_pos rfl)
         refine Qm.cons [(1,some 83),(2,some 84)] (by kernel_rfl) (fun xs W hw hd lst hl K hK=>?_) ?_
         . rw [cEq]at hw
           have hK':=hK.out;clear hK;simp only [QV]at hd;obtain⟨hf1,hf2,_⟩:=hd;simp only [Qh,Act.put,List.setIfInBounds_toArray,List.set_cons_zero,List.set_cons_succ]at hK' ⊢;rw [yf1]at hf1;rw [yf2]at hf2;simp only [hf2]at hK' ⊢;obtain⟨gc,h1e,hgc,cuc⟩:=hf1;simp only [h1e]at hK' ⊢;go_simp;have hdc:=HSD9.out _ gc W cuc (fun b hb=>hb.2) hgc hw;unfold Zf at hdc;simp only [if_true]at hdc;(have hcb:∃cs,Blk W gc 67 cs:=by obtain⟨_,_,hx,_⟩:=cuc;exact⟨_,hx⟩);obtain⟨cs,hcb⟩:=hcb
           have h8n:∀b,W.heap.size<=b->QM (xs 8) b:=by
             intro b hb
             cases h8:lst 8 with
             | false=>rw [hl.out.2.2.1 8 h8];exact QM.undef b
             | true =>
               have:=hl.out.2.2.2 8 h8 (fun m hm=>by have h10:m=10:=(by simpa using hm);subst h10;exact hl.out.2.1 10 (by kernel_rfl));rw [yf8]at this;obtain⟨g8,k1,_,k3⟩:=this;rw [k1];exact QM.ptr (by have:=k3.lt;omega)
           refine hdc.mono ?_;rintro ez wz ⟨ud,v3,D3,h3,i3,A3,n3,c3,B3,m3,d3,C3,k3,e3,rfl,ow3,hv3,t0,t1,t2,t3,cu3⟩;have hsw:=hw.size;have hR:=ud;refine hK' (_) (wz) (by rw [cEq];exact hw.trans ud (fun b hb e=>by omega)) (Y1 yM 3 (by kernel_rfl) _ fun j hs hy=>?_) (by rw [yf3];(try simp only [↓reduceIte]);try exact⟨v3,D3,h3,i3,A3,n3,c3,B3,m3,d3,C3,k3,e3,rfl,⟨ow3,fun b hb=>⟨by have:=hv3 b hb;omega,h8n b (hv3 b hb)⟩⟩,t0.mono (fun b hb=>⟨by omega,h8n b hb⟩),t1.mono (fun b hb=>⟨by omega,h8n b hb⟩),t2.mono (fun b hb=>⟨by omega,h8n b hb⟩),t3.mono (fun b hb=>⟨by omega,h8n b hb⟩)⟩);by_cases hp:j∈[0,2,7,11]
           . exact yP j _ _ _ hp hy
           by_cases hj:12<=j
           . rw [yN j _ _ hj];trivial
           simp only [List.mem_cons,List.not_mem_nil,or_false]at hp;rcases(show j=1\/j=3\/j=4\/j=5\/j=6\/j=8\/j=9\/j=10 by omega)with rfl|rfl|rfl|rfl|rfl|rfl|rfl|rfl
           . exact(Q8 hs (by kernel_rfl)).elim
           . exact(Q8 hs (by kernel_rfl)).elim
           . exact(Q8 hs (by kernel_rfl)).elim
           . exact(Q8 hs (by kernel_rfl)).elim
           . exact(Q8 hs (by kernel_rfl)).elim
           . rw [yf8]at hy ⊢;obtain⟨g,k1,k2,k3⟩:=hy;exact⟨g,k1,k2,k3.upd hR (fun e=>k3.ne_ hcb (by decide) e)⟩
           . exact(Q8 hs (by kernel_rfl)).elim
           exact(Q8 hs (by kernel_rfl)).elim
         refine Qm.cons [(3,some 85)] (by kernel_rfl) (fun xs W hw hd lst hl K hK=>?_) ?_
         . rw [cEq]at hw
           have hK':=hK.out;clear hK;simp only [QV]at hd;obtain⟨hf3,_⟩:=hd;simp only [Qh,Act.put,List.setIfInBounds_toArray,List.set_cons_zero,List.set_cons_succ]at hK' ⊢;rw [yf3]at hf3;go_simp;exact hK' _ _ (by rw [cEq];exact hw) (Qe yM 4 (by kernel_rfl) xs W _) (by rw [yf4];(try simp only [↓reduceIte,OfNat.ofNat_ne_ofNat,Nat.reduceEqDiff]);exact hf3)
         refine Qm.cons [(4,some 81)] (by kernel_rfl) (fun xs W hw hd lst hl K hK=>?_) ?_
         . rw [cEq]at hw
           have hK':=hK.out;clear hK;simp only [QV]at hd;obtain⟨hf4,_⟩:=hd;simp only [Qh,Act.put,List.setIfInBounds_toArray,List.set_cons_zero,List.set_cons_succ]at hK' ⊢;rw [yf4]at hf4;obtain⟨v3,D3,h3,i3,A3,n3,c3,B3,m3,d3,C3,k3,e3,h4e,o1,t⟩:=hf4;simp only [h4e]at hK' ⊢;go_simp;exact hK' _ _ (by rw [cEq];exact hw) (Qe yM 5 (by kernel_rfl) xs W _) (by rw [yf5];(try simp only [↓reduceIte,OfNat.ofNat_ne_ofNat,Nat.reduceEqDiff]);exact o1)
         refine Qm.cons [(4,some 81)] (by kernel_rfl) (fun xs W hw hd lst hl K hK=>?_) ?_
         . rw [cEq]at hw
           have hK':=hK.out;clear hK;simp only [QV]at hd;obtain⟨hf4,_⟩:=hd;simp only [Qh,Act.put,List.setIfInBounds_toArray,List.set_cons_zero,List.set_cons_succ]at hK' ⊢;rw [yf4]at hf4;obtain⟨v3,D3,h3,i3,A3,n3,c3,B3,m3,d3,C3,k3,e3,h4e,o1,t⟩:=hf4;simp only [h4e]at hK' ⊢;go_simp;exact hK' _ _ (by rw [cEq];exact hw) (Qe yM 6 (by kernel_rfl) xs W _) (by rw [yf6];(try simp only [↓reduceIte,OfNat.ofNat_ne_ofNat,Nat.reduceEqDiff]);exact⟨D3,h3,i3,A3,n3,c3,B3,m3,d3,C3,k3,e3,rfl,t⟩)
         refine Qm.cons [(4,some 81)] (by kernel_rfl) (fun xs W hw hd lst hl K hK=>?_) ?_
         . rw [cEq]at hw
           have hK':=hK.out;clear hK;simp only [QV]at hd;obtain⟨hf4,_⟩:=hd;simp only [Qh,Act.put,List.setIfInBounds_toArray,List.set_cons_zero,List.set_cons_succ]at hK' ⊢;rw [yf4]at hf4;obtain⟨v3,D3,h3,i3,A3,n3,c3,B3,m3,d3,C3,k3,e3,h4e,o1,t⟩:=hf4;simp only [h4e]at hK' ⊢;go_simp;exact hK' _ _ (by rw [cEq];exact hw) (Qe yM 7 (by kernel_rfl) xs W _) (by rw [yf7];(try simp only [↓reduceIte,OfNat.ofNat_ne_ofNat,Nat.reduceEqDiff]);exact rfl)
         refine Qm.cons [] (by kernel_rfl) (fun xs W hw hd lst hl K hK=>?_) ?_
         . rw [cEq]at hw
           have hK':=hK.out;clear hK;simp only [Qh,Act.put,List.setIfInBounds_toArray,List.set_cons_zero,List.set_cons_succ]at hK' ⊢;go_simp;have hfa:Q0 W (W.alloc (.cells #[.slice none 0 0,.int .i64 0,.slice none 0 0,.int .i64 0,.slice none 0 0,.int .i64 0,.slice none 0 0,.int .i64 0,.int .i64 0,.int .i64 0] 32)):=(Upd.refl _ _).alloc _;have hna:∀b,b<W.heap.size->QM (.pointer (some ⟨W.heap.size,0,none⟩)) b:=fun b hb=>QM.ptr (by omega);have hsw:=hw.size;have hR:=And.intro hfa hna;refine hK' (_) (_) (by rw [cEq];exact hw.trans' hfa) (fun j hs hy=>?_) (by rw [yf8];(try simp only [↓reduceIte]);try exact⟨W.heap.size,rfl,hsw,Blk.new _ _ _⟩);by_cases hj:12<=j
           . rw [yN j _ _ hj];trivial
           (have hj':j=0\/j=1\/j=2\/j=3\/j=4\/j=5\/j=6\/j=7\/j=8\/j=9\/j=10\/j=11:=by omega);rcases hj' with rfl|rfl|rfl|rfl|rfl|rfl|rfl|rfl|rfl|rfl|rfl|rfl
           . rw [yf0]at hy ⊢;(try simp only [↓reduceIte,OfNat.ofNat_ne_ofNat,Nat.reduceEqDiff]);exact hy
           . rw [yf1]at hy ⊢;(try simp only [↓reduceIte,OfNat.ofNat_ne_ofNat,Nat.reduceEqDiff]);obtain⟨g,k1,k2,k3⟩:=hy;exact⟨g,k1,k2,k3.fresh hR.1⟩
           . rw [yf2]at hy ⊢;(try simp only [↓reduceIte,OfNat.ofNat_ne_ofNat,Nat.reduceEqDiff]);exact hy
           . rw [yf3]at hy ⊢;(try simp only [↓reduceIte,OfNat.ofNat_ne_ofNat,Nat.reduceEqDiff]);obtain⟨v3,D3,h3,i3,A3,n3,c3,B3,m3,d3,C3,k3,e3,k1,⟨o1,o2⟩,t0,t1,t2,t3⟩:=hy;exact⟨v3,D3,h3,i3,A3,n3,c3,B3,m3,d3,C3,k3,e3,k1,⟨o1.fresh hR.1,fun b hb=>⟨(o2 b hb).1,hR.2 b (o1.lt hb)⟩⟩,(t0.both.fresh hR.1).mono (fun b hb=>⟨hb.1.1,hR.2 b hb.2⟩),(t1.both.fresh hR.1).mono (fun b hb=>⟨hb.1.1,hR.2 b hb.2⟩),(t2.both.fresh hR.1).mono (fun b hb=>⟨hb.1.1,hR.2 b hb.2⟩),(t3.both.fresh hR.1).mono (fun b hb=>⟨hb.1.1,hR.2 b hb.2⟩)⟩
           . rw [yf4]at hy ⊢;(try simp only [↓reduceIte,OfNat.ofNat_ne_ofNat,Nat.reduceEqDiff]);obtain⟨v3,D3,h3,i3,A3,n3,c3,B3,m3,d3,C3,k3,e3,k1,⟨o1,o2⟩,t0,t1,t2,t3⟩:=hy;exact⟨v3,D3,h3,i3,A3,n3,c3,B3,m3,d3,C3,k3,e3,k1,⟨o1.fresh hR.1,fun b hb=>⟨(o2 b hb).1,hR.2 b (o1.lt hb)⟩⟩,(t0.both.fresh hR.1).mono (fun b hb=>⟨hb.1.1,hR.2 b hb.2⟩),(t1.both.fresh hR.1).mono (fun b hb=>⟨hb.1.1,hR.2 b hb.2⟩),(t2.both.fresh hR.1).mono (fun b hb=>⟨hb.1.1,hR.2 b hb.2⟩),(t3.both.fresh hR.1).mono (fun b hb=>⟨hb.1.1,hR.2 b hb.2⟩)⟩
           . rw [yf5]at hy ⊢;(try simp only [↓reduceIte,OfNat.ofNat_ne_ofNat,Nat.reduceEqDiff]);exact⟨hy.1.fresh hR.1,fun b hb=>⟨(hy.2 b hb).1,hR.2 b (hy.1.lt hb)⟩⟩
           . rw [yf6]at hy ⊢;(try simp only [↓reduceIte,OfNat.ofNat_ne_ofNat,Nat.reduceEqDiff]);obtain⟨D3,h3,i3,A3,n3,c3,B3,m3,d3,C3,k3,e3,k1,t0,t1,t2,t3⟩:=hy;exact⟨D3,h3,i3,A3,n3,c3,B3,m3,d3,C3,k3,e3,k1,(t0.both.fresh hR.1).mono (fun b hb=>⟨hb.1.1,hR.2 b hb.2⟩),(t1.both.fresh hR.1).mono (fun b hb=>⟨hb.1.1,hR.2 b hb.2⟩),(t2.both.fresh hR.1).mono (fun b hb=>⟨hb.1.1,hR.2 b hb.2⟩),(t3.both.fresh hR.1).mono (fun b hb=>⟨hb.1.1,hR.2 b hb.2⟩)⟩
           . rw [yf7]at hy ⊢;(try simp only [↓reduceIte,OfNat.ofNat_ne_ofNat,Nat.reduceEqDiff]);exact hy
           . exact(Q8 hs (by kernel_rfl)).elim
           . exact(Q8 hs (by kernel_rfl)).elim
           . exact(Q8 hs (by kernel_rfl)).elim
           exact(Q8 hs (by kernel_rfl)).elim
         refine Qm.cons [(5,some 86)] (by kernel_rfl) (fun xs W hw hd lst hl K hK=>?_) ?_
         . rw [cEq]at hw
           have hK':=hK.out;clear hK;simp only [QV]at hd;obtain⟨hf5,_⟩:=hd;simp only [Qh,Act.put,List.setIfInBounds_toArray,List.set_cons_zero,List.set_cons_succ]at hK' ⊢;rw [yf5]at hf5;go_simp;exact hK' _ _ (by rw [cEq];exact hw) (Qe yM 9 (by kernel_rfl) xs W _) (by rw [yf9];(try simp only [↓reduceIte,OfNat.ofNat_ne_ofNat,Nat.reduceEqDiff]);exact hf5)
         refine Qm.cons [(8,some 20),(6,some 87)] (by kernel_rfl) (fun xs W hw hd lst hl K hK=>?_) ?_
         . rw [cEq]at hw
           have hK':=hK.out;clear hK;simp only [QV]at hd;obtain⟨hf8,hf6,_⟩:=hd;simp only [Qh,Act.put,List.setIfInBounds_toArray,List.set_cons_zero,List.set_cons_succ]at hK' ⊢;rw [yf8]at hf8;rw [yf6]at hf6;obtain⟨g,h8e,hg8,b8⟩:=hf8;simp only [h8e]at hK' ⊢;obtain⟨D3,h3,i3,A3,n3,c3,B3,m3,d3,C3,k3,e3,h6e,t0,t1,t2,t3⟩:=hf6;simp only [h6e]at hK' ⊢;simp only [h8e]at t0 t1 t2 t3;(have hn:∀b,QM (xs 8) b->b≠g:=fun b hb=>by rw [h8e]at hb;exact hb.ne');have cq0:=b8.cell 0;have cq1:=b8.cell 1;have cq2:=b8.cell 2;have cq3:=b8.cell 3;have cq4:=b8.cell 4;have cq5:=b8.cell 5;have cq6:=b8.cell 6;have cq7:=b8.cell 7;have cq8:=b8.cell 8;have cq9:=b8.cell 9;obtain⟨cz0,cz1,cz2,cz3,cz4,cz5,cz6,cz7,cz8,cz9⟩:=(b8).frozens10;simp at cq0 cq1 cq2 cq3 cq4 cq5 cq6 cq7 cq8 cq9;have hO:=b8.set10 (.slice D3 h3 i3) (.int .i64 T2.lL) (.slice A3 n3 c3) (.int .i64 T2.lO) (.slice B3 m3 d3) (.int .i64 T2.lM) (.slice C3 k3 e3) (.int .i64 x0) (.int .i64 x1) (.int .i64 x2);have us:=JN W g (.slice D3 h3 i3) (.int .i64 T2.lL) (.slice A3 n3 c3) (.int .i64 T2.lO) (.slice B3 m3 d3) (.int .i64 T2.lM) (.slice C3 k3 e3) (.int .i64 x0) (.int .i64 x1) (.int .i64 x2);have HO:=hd_ hO;have US:=hd_ us;clear b8 hO us;go_simp;have hR:=US.out;refine hK' (undef) (_) (by rw [cEq];exact hw.trans US.out (fun b hb h=>by omega)) (Y1 yM 10 (by kernel_rfl) _ fun j hs hy=>?_) (by rw [yf10];(try simp only [↓reduceIte]);try exact⟨g,D3,h3,i3,A3,n3,c3,B3,m3,d3,C3,k3,e3,h8e,hg8,HO.out,(t0.upd US.out (fun b _ hb e=>hb.2.ne' e)).mono (fun b hb=>by rw [h8e];exact hb),(t1.upd US.out (fun b _ hb e=>hb.2.ne' e)).mono (fun b hb=>by rw [h8e];exact hb),(t2.upd US.out (fun b _ hb e=>hb.2.ne' e)).mono (fun b hb=>by rw [h8e];exact hb),(t3.upd US.out (fun b _ hb e=>hb.2.ne' e)).mono (fun b hb=>by rw [h8e];exact hb)⟩);by_cases hp:j∈[0,2,7,11]
           . exact yP j _ _ _ hp hy
           by_cases hj:12<=j
           . rw [yN j _ _ hj];trivial
           simp only [List.mem_cons,List.not_mem_nil,or_false]at hp;rcases(show j=1\/j=3\/j=4\/j=5\/j=6\/j=8\/j=9\/j=10 by omega)with rfl|rfl|rfl|rfl|rfl|rfl|rfl|rfl
           . exact(Q8 hs (by kernel_rfl)).elim
           . exact(Q8 hs (by kernel_rfl)).elim
           . rw [yf4]at hy ⊢;obtain⟨v3,D3,h3,i3,A3,n3,c3,B3,m3,d3,C3,k3,e3,k1,⟨o1,o2⟩,t0,t1,t2,t3⟩:=hy;exact⟨v3,D3,h3,i3,A3,n3,c3,B3,m3,d3,C3,k3,e3,k1,⟨o1.upd hR (fun b hb e=>hn b (o2 b hb).2 e),o2⟩,t0.upd hR (fun b _ hb e=>hn b hb.2 e),t1.upd hR (fun b _ hb e=>hn b hb.2 e),t2.upd hR (fun b _ hb e=>hn b hb.2 e),t3.upd hR (fun b _ hb e=>hn b hb.2 e)⟩
           . exact(Q8 hs (by kernel_rfl)).elim
           . exact(Q8 hs (by kernel_rfl)).elim
           . exact(Q8 hs (by kernel_rfl)).elim
           . rw [yf9]at hy ⊢;exact⟨hy.1.upd hR (fun b hb e=>hn b (hy.2 b hb).2 e),hy.2⟩
           exact(Q8 hs (by kernel_rfl)).elim
         refine Qm.cons [(7,some 88)] (by kernel_rfl) (fun xs W hw hd lst hl K hK=>?_) ?_
         . rw [cEq]at hw
           have hK':=hK.out;clear hK;simp only [QV]at hd;obtain⟨hf7,_⟩:=hd;simp only [Qh,Act.put,List.setIfInBounds_toArray,List.set_cons_zero,List.set_cons_succ]at hK' ⊢;rw [yf7]at hf7;simp only [hf7]at hK' ⊢;go_simp;exact hK' _ _ (by rw [cEq];exact hw) (Qe yM 11 (by kernel_rfl) xs W _) (by rw [yf11];exact if_pos rfl)
         exact Qm.nil
       intro xs w10 hw hd;rw [cEq]at hw;simp only [KL]at hd;obtain⟨fe0,fe1,fe2,fe3,fe4,fe5,fe6,fe7,fe8,fe9,fe10,fe11,_⟩:=hd;have fe0:=fe0 (by kernel_rfl);rw [yf0]at fe0;have fe2:=fe2 (by kernel_rfl);rw [yf2]at fe2;have fe4:=fe4 (by kernel_rfl);rw [yf4]at fe4;have fe7:=fe7 (by kernel_rfl);rw [yf7]at fe7;have fe9:=fe9 (by kernel_rfl);rw [yf9]at fe9;have fe10:=fe10 (by kernel_rfl);rw [yf10]at fe10;have fe11:=fe11 (by kernel_rfl);rw [yf11]at fe11;clear fe1 fe3 fe5 fe6 fe8;simp only [Qh,Act.put,List.setIfInBounds_toArray,List.set_cons_zero,List.set_cons_succ];generalize xs 0=xv0 at *;generalize xs 1=xv1 at *;generalize xs 2=xv2 at *;generalize xs 3=xv3 at *;generalize xs 4=xv4 at *;generalize xs 5=xv5 at *;generalize xs 6=xv6 at *;generalize xs 7=xv7 at *;generalize xs 8=xv8 at *;generalize xs 9=xv9 at *;generalize xs 10=xv10 at *;generalize xs 11=xv11 at *;subst fe0;subst fe2;subst fe7;subst fe11;clear yf0 yf1 yf2 yf3 yf4 yf5 yf6 yf7 yf8 yf9 yf10 yf11 yN yR yM yP cEq;obtain⟨g1,D3,h3,i3,A3,n3,c3,B3,m3,d3,C3,k3,e3,hg8,hg1,bg,ru0,ru1,ru2,ru3⟩:=fe10;obtain⟨ow,hob⟩:=fe9;subst hg8;obtain⟨Ap,cp,hpe,wp⟩:=ow.wok;(have hlm:(l.map tri).length=nl:=by rw [List.length_map];exact HLN.out.2);rw [hlm]at hpe wp;subst hpe;have WP:=hd_ (show Wok w10 (fun b=>w9.heap.size<=b/\b≠g1/\b<w10.heap.size) Ap (nl*3)from wp.mono (fun b hb=>⟨(hob b hb).1,(hob b hb).2.ne',ow.lt hb⟩));have RY:=hd_ (show RdU w10 (fun b=>w9.heap.size<=b/\b≠g1/\b<w10.heap.size) D3 h3 (Q2 Tr)/\RdU w10 (fun b=>w9.heap.size<=b/\b≠g1/\b<w10.heap.size) A3 n3 (Q2 T2.NL)/\RdU w10 (fun b=>w9.heap.size<=b/\b≠g1/\b<w10.heap.size) B3 m3 (Q2 T2.NO)/\RdU w10 (fun b=>w9.heap.size<=b/\b≠g1/\b<w10.heap.size) C3 k3 (Q2 T2.NM)from⟨ru0.both.mono (fun b hb=>⟨hb.1.1,hb.1.2.ne',hb.2⟩),ru1.both.mono (fun b hb=>⟨hb.1.1,hb.1.2.ne',hb.2⟩),ru2.both.mono (fun b hb=>⟨hb.1.1,hb.1.2.ne',hb.2⟩),ru3.both.mono (fun b hb=>⟨hb.1.1,hb.1.2.ne',hb.2⟩)⟩);have BG:=hd_ bg;have F9X:=hd_ hw;have F7X:=hd_ (F79.out.trans' hw);have HG1:=hd_ hg1;clear wp ow hob hlm ru0 ru1 ru2 ru3 bg hw hg1 HCX9 HNW9 HSD9;(try clear fe0);(try clear fe1);(try clear fe2);(try clear fe3);(try clear fe4);(try clear fe5);(try clear fe6);(try clear fe7);(try clear fe8);(try clear fe11);obtain⟨v0,v1,v2,v3,v4,v5,v6,v7,v8,v9⟩:=(show w10.cell? ⟨Hx,0,none⟩=some (.slice D2 h2_ i2)/\w10.cell? ⟨Hx,1,none⟩=some (.int .i64 T2.lL)/\w10.cell? ⟨Hx,2,none⟩=some (.slice A2 n2 c2)/\w10.cell? ⟨Hx,3,none⟩=some (.int .i64 T2.lO)/\w10.cell? ⟨Hx,4,none⟩=some (.slice B2 m2 d2)/\w10.cell? ⟨Hx,5,none⟩=some (.int .i64 T2.lM)/\w10.cell? ⟨Hx,6,none⟩=some (.slice C2 k2 e2)/\w10.cell? ⟨Hx,7,none⟩=some (.int .i64 x0)/\w10.cell? ⟨Hx,8,none⟩=some (.int .i64 x1)/\w10.cell? ⟨Hx,9,none⟩=some (.int .i64 x2)from by have bb:=BX.out.fresh F9X.out;exact bb.cells10)
       go_upto_region 14 with fail
       have HLX:=hd_ (show h2_<=2^40/\n2<=2^40/\m2<=2^40/\k2<=2^40/\h3=h2_/\n3=n2/\m3=m2/\k3=k2 from by
         have q0:=RX.out.1.1.1;have q1:=RX.out.2.1.1.1;have q2:=RX.out.2.2.1.1.1;have q3:=RX.out.2.2.2.1.1;have z0:=RY.out.1.1.1;have z1:=RY.out.2.1.1.1;have z2:=RY.out.2.2.1.1.1;have z3:=RY.out.2.2.2.1.1;have y0:=RO.out.1.1.1;have y1:=HTB2.out.2.2.2.1;have y2:=HTB2.out.2.2.2.2.1;have y3:=HTB2.out.2.2.2.2.2.1;rw [Y0]at q0 q1 q2 q3 z0 z1 z2 z3 y0;have:=HLN.out.1
         omega)
       go_wp2_with fail;refine(Q0e (fun b=>(w7.heap.size<=b/\(Value.slice Av eb.length cv).ownBlock≠some b)/\b<w8.heap.size) D2 A2 B2 C2 h2_ i2 n2 c2 m2 d2 k2 e2 _ _ _ _ _ _ w10 (fun b hb=>by have:=S1.out;have:=F9X.out.size;omega) ((RX.out.1.both.wok.fresh F89.out).fresh F9X.out) ((RX.out.2.1.both.wok.fresh F89.out).fresh F9X.out) ((RX.out.2.2.1.both.wok.fresh F89.out).fresh F9X.out) ((RX.out.2.2.2.both.wok.fresh F89.out).fresh F9X.out) HLX.out.1 HLX.out.2.1 HLX.out.2.2.1 HLX.out.2.2.2.1 [] (by simp)).mono ?_;rintro e11 w11 ⟨rfl,f11,-⟩;have F11:=hd_ f11;clear f11 v0 v1 v2 v3 v4 v5 v6 v7 v8 v9;(have hne1:w8.heap.size<=g1:=by have:=S1.out;have:=HG1.out;omega);obtain⟨v0,v1,v2,v3,v4,v5,v6,v7,v8,v9⟩:=(show w11.cell? ⟨g1,0,none⟩=some (.slice D3 h3 i3)/\w11.cell? ⟨g1,1,none⟩=some (.int .i64 T2.lL)/\w11.cell? ⟨g1,2,none⟩=some (.slice A3 n3 c3)/\w11.cell? ⟨g1,3,none⟩=some (.int .i64 T2.lO)/\w11.cell? ⟨g1,4,none⟩=some (.slice B3 m3 d3)/\w11.cell? ⟨g1,5,none⟩=some (.int .i64 T2.lM)/\w11.cell? ⟨g1,6,none⟩=some (.slice C3 k3 e3)/\w11.cell? ⟨g1,7,none⟩=some (.int .i64 x0)/\w11.cell? ⟨g1,8,none⟩=some (.int .i64 x1)/\w11.cell? ⟨g1,9,none⟩=some (.int .i64 x2)from by have bb:=BG.out.upd F11.out (fun h=>by omega);exact bb.cells10);clear hne1;go_upto_region 15 with fail;go_wp2_with fail;refine(Q0e (fun b=>w9.heap.size<=b/\b≠g1/\b<w10.heap.size) D3 A3 B3 C3 h3 i3 n3 c3 m3 d3 k3 e3 _ _ _ _ _ _ w11 (fun b hb=>by have:=F11.out.size;omega) (RY.out.1.upd F11.out (fun b _ hb h=>by have:=S1.out;omega)).wok (RY.out.2.1.upd F11.out (fun b _ hb h=>by have:=S1.out;omega)).wok (RY.out.2.2.1.upd F11.out (fun b _ hb h=>by have:=S1.out;omega)).wok (RY.out.2.2.2.upd F11.out (fun b _ hb h=>by have:=S1.out;omega)).wok (by have:=HLX.out;omega) (by have:=HLX.out;omega) (by have:=HLX.out;omega) (by have:=HLX.out;omega) [(Ap,nl*3,0)] (fun q hq=>by rw [List.mem_singleton]at hq;subst hq;exact⟨WP.out.upd F11.out (fun b _ hb h=>by have:=S1.out;omega),by have:=HNLE.out;simp only;omega⟩)).mono ?_;rintro e12 w12 ⟨rfl,f12,hp12⟩;have F12:=hd_ f12;have WP12:=hd_ (show Wok w12 (fun b=>w9.heap.size<=b/\b≠g1/\b<w10.heap.size) Ap (nl*3)from hp12 (Ap,nl*3,0) (by simp));clear f12 hp12 v0 v1 v2 v3 v4 v5 v6 v7 v8 v9;go_wp2_with fail;go_loopg [22] nl (fun f vi wr=>∃j:Nat,j+f=nl/\vi = .int .i64 j/\Upd (fun b=>w9.heap.size<=b/\b≠g1/\b<w10.heap.size) w12 wr/\Wok wr (fun b=>w9.heap.size<=b/\b≠g1/\b<w10.heap.size) Ap (nl*3))
       case atStart=>exact⟨0,by omega,rfl,Upd.refl _ _,WP12.out⟩
       case round =>
         obtain⟨j,hj,rfl,hu,hk⟩:=hrel;have HJ:=hd_ hj;have HU:=hd_ hu;have HK:=hd_ hk;by_cases hjn:j<nl
         . have hjI:(j:Int)<nl:=by omega
           obtain⟨b,o,t,cs,hA,hSb,hbk,hlt⟩:=hk (j*3+2) (by omega);subst hA;have c0:=hbk.cell (o+j*3);have c1:=hbk.cell (o+j*3+1);have c2:=hbk.cell (o+j*3+2);rw [Array.getElem?_eq_getElem (by omega)]at c0 c1 c2;have z0:=hbk.frozen (o+j*3);have z1:=hbk.frozen (o+j*3+1);have z2:=hbk.frozen (o+j*3+2);have hw4:IntKind.i64.wrap ((j:Int)+1)=j+1:=IntWalk.i64_in _ (by have:=HNLE.out;omega);have HSB:=hd_ hSb;generalize cs[o+j*3]=y0 at *;generalize cs[o+j*3+1]=y1 at *;generalize cs[o+j*3+2]=y2 at *;clear hj hu hk hbk hSb hlt;go_wp2_with fail;go_roundg (gk-1)
           case measure=>have:=HJ.out;omega
           case rel=>exact⟨j+1,by have:=HJ.out;omega,by go_num,((HU.out.setCell (p:=⟨b,o+j*3,none⟩) (fun _=>HSB.out) _).setCell (p:=⟨b,o+j*3+1,none⟩) (fun _=>HSB.out) _).setCell (p:=⟨b,o+j*3+2,none⟩) (fun _=>HSB.out) _,((HK.out.put b (o+j*3) _).put b (o+j*3+1) _).put b (o+j*3+2) _⟩
         (obtain rfl:j=nl:=by omega);clear hj hu hk hjn;(have hjI:¬(j:Int)<j:=by omega);go_upto_region 20 with fail;have FR:=hd_ (show Q0 w7 wr from(((F7X.out.trans F11.out (fun b hb h=>by omega)).trans F12.out (fun b hb h=>by have:=S1.out;omega)).trans HU.out (fun b hb h=>by have:=S1.out;omega)));have OVR:=hd_ (show Own wr 5 (.slice Av eb.length cv) (Q9 eb)from(((HOV.out.fresh (F89.out.trans' F9X.out)).upd F11.out (fun b hb h=>h.1.2 hb)).upd F12.out (fun b hb h=>by have:=HVB.out b hb;have:=S1.out;omega)).upd HU.out (fun b hb h=>by have:=HVB.out b hb;have:=S1.out;omega));obtain⟨v0,v1,v2,v3,v4,v5,v6,v7,v8,v9⟩:=HCO.out wr FR.out;go_wp2_with fail;refine(HEE.out wr FR.out).mono ?_;rintro e14 w14 ⟨f14,v',D4,h4,i4,A4,n4,c4,B4,m4,d4,C4,k4,e4,rfl,ov4,-,-,-,-,-⟩;have F14:=hd_ f14;have OV4:=hd_ ov4;clear f14 ov4 v0 v1 v2 v3 v4 v5 v6 v7 v8 v9;go_upto_region 21 with fail;obtain⟨w15,hw15⟩:=nm_ (w14.alloc (.cells #[.slice D4 h4 i4,.int .i64 T2.lL,.slice A4 n4 c4,.int .i64 T2.lO,.slice B4 m4 d4,.int .i64 T2.lM,.slice C4 k4 e4,.int .i64 x0,.int .i64 x1,.int .i64 x2] 32));simp only [<-hw15];have F1415:=hd_ (show Q0 w14 w15 by rw [hw15];exact(Upd.refl _ _).alloc _);clear hw15;have F715:=hd_ (FR.out.trans' (F14.out.trans' F1415.out));have F015:=hd_ (F7.out.trans' F715.out);obtain⟨Aw,cw,hwe,hcw,rcw⟩:=OV4.out.form;have rbv:=(OVR.out.rd rfl).2.2;have hnb:(Q9 eb).length=eb.length:=JU eb;rw [hnb]at hwe rcw rbv;subst hwe;have RC:=hd_ (show Rd w15 (fun _=>True) Aw eb.length (Q9 eb)from(rcw.fresh F1415.out).mono (fun _ _=>trivial));have RB:=hd_ (show Rd w15 (fun _=>True) Av eb.length (Q9 eb)from(rbv.fresh (F14.out.trans' F1415.out)).mono (fun _ _=>trivial));clear hcw rcw rbv hnb;obtain⟨v0,v1,v2,v3,v4,v5,v6,v7,v8,v9⟩:=HCO.out w15 F715.out;obtain⟨u0,u1,u2,u3,u4,u5,u6,u7,u8,u9⟩:=HCX.out w15 F015.out;have F515:=hd_ (F57.out.trans' F715.out);go_wp2_with fail;refine(Q0J _ _ Do Ao Bo Co D A B C h io n co m do_ k eo i c d e T Tr r0 r1 r2 w15 (RO.out.1.1.fresh F515.out) (RO.out.2.1.1.fresh F515.out) (RO.out.2.2.1.1.fresh F515.out) (RO.out.2.2.2.1.fresh F515.out) (HPS.out.1.fresh F015.out) (HPS.out.2.1.fresh F015.out) (HPS.out.2.2.1.fresh F015.out) (HPS.out.2.2.2.fresh F015.out) (by have:=HLN.out.1;omega) (by have:=HLN.out.1;omega) (by have:=HLN.out.1;omega) (by have:=HLN.out.1;omega)).mono ?_;rintro e16 w16 ⟨rfl,f16⟩;have F16:=hd_ f16;clear f16 v0 v1 v2 v3 v4 v5 v6 v7 v8 v9 u0 u1 u2 u3 u4 u5 u6 u7 u8 u9;go_wp2_with fail;refine(Xx _ _ L Am j j dl cm l l w16 ((HRL.out w15 F015.out).fresh F16.out) ((RM.out.fresh F715.out).fresh F16.out) (by have:=HNLE.out;omega) (by have:=HNLE.out;omega)).mono ?_;rintro e17 w17 ⟨he17,f17⟩;rw [decide_eq_true rfl]at he17;subst he17;have F17:=hd_ (F16.out.trans' f17);clear f17;go_wp2_with fail
         refine(Q2O _ _ Av Aw eb.length eb.length cv cw eb eb w17 (RB.out.fresh F17.out) (RC.out.fresh F17.out) HEB2.out.1 HEB2.out.1).mono ?_;rintro e18 w18 ⟨he18,rfl⟩;rw [decide_eq_true rfl]at he18;subst he18;go_wp2_with fail;refine(HKN.out _).mono ?_;rintro e19 w19 ⟨rfl,f19⟩;have F19:=hd_ ((F015.out.trans' F17.out).trans' f19);clear f19;go_wp2_with fail;(try go_ret);exact hR.out _ _ ⟨rfl,F0.out.trans' F19.out⟩
     obtain⟨rfl,-⟩:=HTW.out.resolve_left he;have hee:=HE1.out;simp only [if_neg (show ¬(2:Int)=0 by decide)]at hee;have HEE:=hd_ hee;obtain⟨S6,hS6⟩:=nm_ (Ys [] 0 T r0 r1 r2)
     have HNE:=hd_ (show ¬S6.err=0 by
       rw [hS6];unfold Ys;rw [if_neg (by rw [HR.out];simp)];simp only [List.drop_nil];rw [if_pos (by decide)]
       decide)
     clear HEB HED HTW HTB HE1 hee he;go_wp2_with fail;refine(HEE.out w7 (Upd.refl _ _)).mono ?_;rintro e8 w8 ⟨f8,rfl⟩;have F78:=hd_ f8;have F8:=hd_ (F7.out.trans' f8);clear f8 u0 u1 u2 u3 u4 u5 u6 u7 u8 u9;go_upto_region 13 with fail;obtain⟨Hx,hHx⟩:=nm_ (w8.heap.size);obtain⟨w9,hw9⟩:=nm_ (w8.alloc (.cells #[.slice none 0 0,.int .i64 0,.slice none 0 0,.int .i64 0,.slice none 0 0,.int .i64 0,.slice none 0 0,.int .i64 0,.int .i64 0,.int .i64 0] 32));simp only [<-hHx,<-hw9];have F89:=hd_ (show Q0 w8 w9 by rw [hw9];exact(Upd.refl _ _).alloc _);have BX:=hd_ (show Blk w9 Hx 32 #[.slice none 0 0,.int .i64 0,.slice none 0 0,.int .i64 0,.slice none 0 0,.int .i64 0,.slice none 0 0,.int .i64 0,.int .i64 0,.int .i64 0] by rw [hw9];exact Q1 hHx _ _);have F9:=hd_ (F8.out.trans' F89.out);have F79:=hd_ (F78.out.trans' F89.out);clear hw9 hHx;have HCX9:=hd_ (fun W (f:Q0 w9 W)=>HCO.out W (F79.out.trans' f));have HNW9:=hd_ (fun W (f:Q0 w9 W)=>Vg (fun _=>True) none 0 0 [] W (Rd.nil _ _ _) (by simp) (by simp));have S1:=hd_ (show w4.heap.size<=w5.heap.size/\w5.heap.size<=w7.heap.size/\w7.heap.size<=w8.heap.size/\w8.heap.size<=w9.heap.size from⟨F45.out.size,F57.out.size,F78.out.size,F89.out.size⟩)
     have HSD9:=hd_ (show ∀(F':Nat->Prop) (g:Nat) (W':World),Qk W' F' g [] 0->(∀b,F' b->b≠g)->w9.heap.size<=g->Q0 w9 W'->Calls Tryz.prog 18 #[.pointer (some ⟨g,0,none⟩),.agg #[.slice Do h io,.int .i64 T.lL,.slice Ao n co,.int .i64 T.lO,.slice Bo m do_,.int .i64 T.lM,.slice Co k eo,.int .i64 r0,.int .i64 r1,.int .i64 r2]] W' (Zf F' g [] S6 Tr W')from fun F' g W' hc hF hg f=>by
       have hss:=Xw F' (fun b=>b<w5.heap.size) g [] 0 Do Ao Bo Co h io n co m do_ k eo T Tr r0 r1 r2 W' hc hF (fun b hb=>by have:=S1.out;omega) (RO.out.1.1.old.fresh (F57.out.trans' (F79.out.trans' f))) (RO.out.2.1.1.old.fresh (F57.out.trans' (F79.out.trans' f))) (RO.out.2.2.1.1.old.fresh (F57.out.trans' (F79.out.trans' f))) (RO.out.2.2.2.1.old.fresh (F57.out.trans' (F79.out.trans' f))) HTF.out.1 HTF.out.2.1 HTF.out.2.2 (by have:=HLN.out.1;omega) (by have:=HLN.out.1;omega) (by have:=HLN.out.1;omega) (by have:=HLN.out.1;omega);rw [<-hS6]at hss
       exact hss)
     clear hS6;obtain⟨Cw,cEq⟩:=exC (fun W=>Q0 w9 W);obtain⟨Y,yA⟩:=exY [fun xs W=>(xs 0) = .slice none 0 0,fun xs W=>∃g,(xs 1) = .pointer (some ⟨g,0,none⟩)/\w9.heap.size<=g/\Qk W (fun q=>w9.heap.size<=q/\q≠g) g [] 0,fun xs W=>(xs 2) = .agg #[.slice Do h io,.int .i64 T.lL,.slice Ao n co,.int .i64 T.lO,.slice Bo m do_,.int .i64 T.lM,.slice Co k eo,.int .i64 r0,.int .i64 r1,.int .i64 r2],fun xs W=>(xs 3) = .tuple #[.slice none 0 0,.agg #[.slice none 0 0,.int .i64 0,.slice none 0 0,.int .i64 0,.slice none 0 0,.int .i64 0,.slice none 0 0,.int .i64 0,.int .i64 0,.int .i64 0],.int .i64 S6.err],fun xs W=>(xs 4) = .tuple #[.slice none 0 0,.agg #[.slice none 0 0,.int .i64 0,.slice none 0 0,.int .i64 0,.slice none 0 0,.int .i64 0,.slice none 0 0,.int .i64 0,.int .i64 0,.int .i64 0],.int .i64 S6.err],fun xs W=>(xs 5) = .slice none 0 0,fun xs W=>(xs 6) = .agg #[.slice none 0 0,.int .i64 0,.slice none 0 0,.int .i64 0,.slice none 0 0,.int .i64 0,.slice none 0 0,.int .i64 0,.int .i64 0,.int .i64 0],fun xs W=>(xs 7) = .int .i64 S6.err,fun xs W=>∃g,(xs 8) = .pointer (some ⟨g,0,none⟩)/\w9.heap.size<=g/\Blk W g 32 #[.slice none 0 0,.int .i64 0,.slice none 0 0,.int .i64 0,.slice none 0 0,.int .i64 0,.slice none 0 0,.int .i64 0,.int .i64 0,.int .i64 0],fun xs W=>(xs 9) = .slice none 0 0,fun xs W=>∃g,(xs 8) = .pointer (some ⟨g,0,none⟩)/\w9.heap.size<=g/\Blk W g 32 #[.slice none 0 0,.int .i64 0,.slice none 0 0,.int .i64 0,.slice none 0 0,.int .i64 0,.slice none 0 0,.int .i64 0,.int .i64 0,.int .i64 0],fun xs W=>(xs 11) = .int .i64 S6.err];have yf0:=yA 0;have yf1:=yA 1;have yf2:=yA 2;have yf3:=yA 3;have yf4:=yA 4;have yf5:=yA 5;have yf6:=yA 6;have yf7:=yA 7;have yf8:=yA 8;have yf9:=yA 9;have yf10:=yA 10;have yf11:=yA 11;simp only [List.getD_cons_zero,List.getD_cons_succ]at yf0 yf1 yf2 yf3 yf4 yf5 yf6 yf7 yf8 yf9 yf10 yf11;(have yN:∀j xs W,12<=j->Y j xs W=True:=fun j xs W hj=>by rw [yA,Kg _ _ _ hj])
     have yP:∀j xs W W',j∈[0,2,3,4,5,6,7,9,11]->Y j xs W->Y j xs W':=by
       intro j xs W W' hj hy;simp only [List.mem_cons,List.not_mem_nil,or_false]at hj;rcases hj with rfl|rfl|rfl|rfl|rfl|rfl|rfl|rfl|rfl
       . rw [yf0]at hy ⊢;exact hy
       . rw [yf2]at hy ⊢;exact hy
       . rw [yf3]at hy ⊢;exact hy
       . rw [yf4]at hy ⊢;exact hy
       . rw [yf5]at hy ⊢;exact hy
       . rw [yf6]at hy ⊢;exact hy
       . rw [yf7]at hy ⊢;exact hy
       . rw [yf9]at hy ⊢;exact hy
       rw [yf11]at hy ⊢;exact hy
     have yM:Q0h [[0],[1],[2],[3],[4],[5],[6],[7],[8],[9],[8],[11]] Y:=by
       intro j xs xs' W hh hy;by_cases hj:12<=j
       . rw [yN j _ _ hj];trivial
       (have hj':j=0\/j=1\/j=2\/j=3\/j=4\/j=5\/j=6\/j=7\/j=8\/j=9\/j=10\/j=11:=by omega);rcases hj' with rfl|rfl|rfl|rfl|rfl|rfl|rfl|rfl|rfl|rfl|rfl|rfl
       . rw [yf0]at hy ⊢;rw [<-hh 0 (by decide)];exact hy
       . rw [yf1]at hy ⊢;rw [<-hh 1 (by decide)];exact hy
       . rw [yf2]at hy ⊢;rw [<-hh 2 (by decide)];exact hy
       . rw [yf3]at hy ⊢;rw [<-hh 3 (by decide)];exact hy
       . rw [yf4]at hy ⊢;rw [<-hh 4 (by decide)];exact hy
       . rw [yf5]at hy ⊢;rw [<-hh 5 (by decide)];exact hy
       . rw [yf6]at hy ⊢;rw [<-hh 6 (by decide)];exact hy
       . rw [yf7]at hy ⊢;rw [<-hh 7 (by decide)];exact hy
       . rw [yf8]at hy ⊢;rw [<-hh 8 (by decide)];exact hy
       . rw [yf9]at hy ⊢;rw [<-hh 9 (by decide)];exact hy
       . rw [yf10]at hy ⊢;rw [<-hh 8 (by decide)];exact hy
       rw [yf11]at hy ⊢;rw [<-hh 11 (by decide)];exact hy
     clear yA
     have yR:∀j xs,12<=j->Y j xs (w9.drew):=by
       intro j xs hj;rcases(show 12<=j by omega)with hj;rw [yN _ _ _ hj];trivial
     refine JZ Cw (fun j=>if j=1 then [3,10]else if j=3 then [10]else if j=5 then [10]else if j=6 then [10]else if j=8 then [10]else []) Y [(0,some 82),(1,some 83),(2,some 84),(3,some 85),(4,some 81),(5,some 86),(6,some 87),(7,some 88),(8,some 20),(9,some 19),(10,none),(11,some 21)] (by kernel_rfl) (by kernel_rfl) (by kernel_rfl) (by rw [cEq];exact(Upd.refl _ _).drew) (fun j hj=>yR j _ hj) ?_ ?_
     . refine Qm.cons [] (by kernel_rfl) (fun xs W hw hd lst hl K hK=>?_) ?_
       . rw [cEq]at hw
         have hK':=hK.out;clear hK;simp only [Qh,Act.put,List.setIfInBounds_toArray,List.set_cons_zero,List.set_cons_succ]at hK' ⊢;go_simp;exact hK' _ _ (by rw [cEq];exact hw) (Qe yM 0 (by kernel_rfl) xs W _) (by rw [yf0];exact if_pos rfl)
       refine Qm.cons [(0,some 82)] (by kernel_rfl) (fun xs W hw hd lst hl K hK=>?_) ?_
       . rw [cEq]at hw
         have hK':=hK.out;clear hK;simp only [QV]at hd;obtain⟨hf0,_⟩:=hd;simp only [Qh,Act.put,List.setIfInBounds_toArray,List.set_cons_zero,List.set_cons_succ]at hK' ⊢;rw [yf0]at hf0;simp only [hf0]at hK' ⊢;go_simp;refine(HNW9.out W hw).mono ?_;rintro ez wz ⟨gz,rfl,hgz,fz,cuz⟩;have hsz:=hw.size;have hR:=fz;refine hK' (_) (wz) (by rw [cEq];exact hw.trans' fz) (Y1 yM 1 (by kernel_rfl) _ fun j hs hy=>?_) (by rw [yf1];(try simp only [↓reduceIte]);try exact⟨gz,rfl,by omega,cuz.mono (fun b hb=>⟨by have:=hb.1;omega,hb.2⟩)⟩);by_cases hp:j∈[0,2,3,4,5,6,7,9,11]
         . exact yP j _ _ _ hp hy
         by_cases hj:12<=j
         . rw [yN j _ _ hj];trivial
         simp only [List.mem_cons,List.not_mem_nil,or_false]at hp;rcases(show j=1\/j=8\/j=10 by omega)with rfl|rfl|rfl
         . exact(Q8 hs (by kernel_rfl)).elim
         . rw [yf8]at hy ⊢;obtain⟨g,k1,k2,k3⟩:=hy;exact⟨g,k1,k2,k3.fresh hR⟩
         exact(Q8 hs (by kernel_rfl)).elim
       refine Qm.cons [] (by kernel_rfl) (fun xs W hw hd lst hl K hK=>?_) ?_
       . rw [cEq]at hw
         have hK':=hK.out;clear hK;simp only [Qh,Act.put,List.setIfInBounds_toArray,List.set_cons_zero,List.set_cons_succ]at hK' ⊢;have cl:=HCX9.out W hw;obtain⟨cz0,cz1,cz2,cz3,cz4,cz5,cz6,cz7,cz8,cz9⟩:=cl;go_simp;exact hK' _ _ (by rw [cEq];exact hw) (Qe yM 2 (by kernel_rfl) xs W _) (by rw [yf2];exact if_pos rfl)
       refine Qm.cons [(1,some 83),(2,some 84)] (by kernel_rfl) (fun xs W hw hd lst hl K hK=>?_) ?_
       . rw [cEq]at hw
         have hK':=hK.out;clear hK;simp only [QV]at hd;obtain⟨hf1,hf2,_⟩:=hd;simp only [Qh,Act.put,List.setIfInBounds_toArray,List.set_cons_zero,List.set_cons_succ]at hK' ⊢;rw [yf1]at hf1;rw [yf2]at hf2;simp only [hf2]at hK' ⊢;obtain⟨gc,h1e,hgc,cuc⟩:=hf1;simp only [h1e]at hK' ⊢;go_simp;have hdc:=HSD9.out _ gc W cuc (fun b hb=>hb.2) hgc hw;unfold Zf at hdc;simp only [if_neg (HNE.out)]at hdc;(have hcb:∃cs,Blk W gc 67 cs:=by obtain⟨_,_,hx,_⟩:=cuc;exact⟨_,hx⟩);obtain⟨cs,hcb⟩:=hcb
         have h8n:∀b,W.heap.size<=b->QM (xs 8) b:=by
           intro b hb
           cases h8:lst 8 with
           | false=>rw [hl.out.2.2.1 8 h8];exact QM.undef b
           | true =>
             have:=hl.out.2.2.2 8 h8 (fun m hm=>by have h10:m=10:=(by simpa using hm);subst h10;exact hl.out.2.1 10 (by kernel_rfl));rw [yf8]at this;obtain⟨g8,k1,_,k3⟩:=this;rw [k1];exact QM.ptr (by have:=k3.lt;omega)
         refine hdc.mono ?_;rintro ez wz ⟨ud,rfl⟩;have hsw:=hw.size;have hR:=ud;refine hK' (_) (wz) (by rw [cEq];exact hw.trans ud (fun b hb e=>by omega)) (Y1 yM 3 (by kernel_rfl) _ fun j hs hy=>?_) (by rw [yf3];(try simp only [↓reduceIte]);try exact rfl);by_cases hp:j∈[0,2,3,4,5,6,7,9,11]
         . exact yP j _ _ _ hp hy
         by_cases hj:12<=j
         . rw [yN j _ _ hj];trivial
         simp only [List.mem_cons,List.not_mem_nil,or_false]at hp;rcases(show j=1\/j=8\/j=10 by omega)with rfl|rfl|rfl
         . exact(Q8 hs (by kernel_rfl)).elim
         . rw [yf8]at hy ⊢;obtain⟨g,k1,k2,k3⟩:=hy;exact⟨g,k1,k2,k3.upd hR (fun e=>k3.ne_ hcb (by decide) e)⟩
         exact(Q8 hs (by kernel_rfl)).elim
       refine Qm.cons [(3,some 85)] (by kernel_rfl) (fun xs W hw hd lst hl K hK=>?_) ?_
       . rw [cEq]at hw
         have hK':=hK.out;clear hK;simp only [QV]at hd;obtain⟨hf3,_⟩:=hd;simp only [Qh,Act.put,List.setIfInBounds_toArray,List.set_cons_zero,List.set_cons_succ]at hK' ⊢;rw [yf3]at hf3;simp only [hf3]at hK' ⊢;go_simp;exact hK' _ _ (by rw [cEq];exact hw) (Qe yM 4 (by kernel_rfl) xs W _) (by rw [yf4];exact if_pos rfl)
       refine Qm.cons [(4,some 81)] (by kernel_rfl) (fun xs W hw hd lst hl K hK=>?_) ?_
       . rw [cEq]at hw
         have hK':=hK.out;clear hK;simp only [QV]at hd;obtain⟨hf4,_⟩:=hd;simp only [Qh,Act.put,List.setIfInBounds_toArray,List.set_cons_zero,List.set_cons_succ]at hK' ⊢;rw [yf4]at hf4;simp only [hf4]at hK' ⊢;go_simp;exact hK' _ _ (by rw [cEq];exact hw) (Qe yM 5 (by kernel_rfl) xs W _) (by rw [yf5];exact if_pos rfl)
       refine Qm.cons [(4,some 81)] (by kernel_rfl) (fun xs W hw hd lst hl K hK=>?_) ?_
       . rw [cEq]at hw
         have hK':=hK.out;clear hK;simp only [QV]at hd;obtain⟨hf4,_⟩:=hd;simp only [Qh,Act.put,List.setIfInBounds_toArray,List.set_cons_zero,List.set_cons_succ]at hK' ⊢;rw [yf4]at hf4;simp only [hf4]at hK' ⊢;go_simp;exact hK' _ _ (by rw [cEq];exact hw) (Qe yM 6 (by kernel_rfl) xs W _) (by rw [yf6];exact if_pos rfl)
       refine Qm.cons [(4,some 81)] (by kernel_rfl) (fun xs W hw hd lst hl K hK=>?_) ?_
       . rw [cEq]at hw
         have hK':=hK.out;clear hK;simp only [QV]at hd;obtain⟨hf4,_⟩:=hd;simp only [Qh,Act.put,List.setIfInBounds_toArray,List.set_cons_zero,List.set_cons_succ]at hK' ⊢;rw [yf4]at hf4;simp only [hf4]at hK' ⊢;go_simp;exact hK' _ _ (by rw [cEq];exact hw) (Qe yM 7 (by kernel_rfl) xs W _) (by rw [yf7];exact if_pos rfl)
       refine Qm.cons [] (by kernel_rfl) (fun xs W hw hd lst hl K hK=>?_) ?_
       . rw [cEq]at hw
         have hK':=hK.out;clear hK;simp only [Qh,Act.put,List.setIfInBounds_toArray,List.set_cons_zero,List.set_cons_succ]at hK' ⊢;go_simp;have hfa:Q0 W (W.alloc (.cells #[.slice none 0 0,.int .i64 0,.slice none 0 0,.int .i64 0,.slice none 0 0,.int .i64 0,.slice none 0 0,.int .i64 0,.int .i64 0,.int .i64 0] 32)):=(Upd.refl _ _).alloc _;have hna:∀b,b<W.heap.size->QM (.pointer (some ⟨W.heap.size,0,none⟩)) b:=fun b hb=>QM.ptr (by omega);have hsw:=hw.size;have hR:=And.intro hfa hna;refine hK' (_) (_) (by rw [cEq];exact hw.trans' hfa) (fun j hs hy=>?_) (by rw [yf8];(try simp only [↓reduceIte]);try exact⟨W.heap.size,rfl,hsw,Blk.new _ _ _⟩);by_cases hj:12<=j
         . rw [yN j _ _ hj];trivial
         (have hj':j=0\/j=1\/j=2\/j=3\/j=4\/j=5\/j=6\/j=7\/j=8\/j=9\/j=10\/j=11:=by omega);rcases hj' with rfl|rfl|rfl|rfl|rfl|rfl|rfl|rfl|rfl|rfl|rfl|rfl
         . rw [yf0]at hy ⊢;(try simp only [↓reduceIte,OfNat.ofNat_ne_ofNat,Nat.reduceEqDiff]);exact hy
         . rw [yf1]at hy ⊢;(try simp only [↓reduceIte,OfNat.ofNat_ne_ofNat,Nat.reduceEqDiff]);obtain⟨g,k1,k2,k3⟩:=hy;exact⟨g,k1,k2,k3.fresh hR.1⟩
         . rw [yf2]at hy ⊢;(try simp only [↓reduceIte,OfNat.ofNat_ne_ofNat,Nat.reduceEqDiff]);exact hy
         . rw [yf3]at hy ⊢;(try simp only [↓reduceIte,OfNat.ofNat_ne_ofNat,Nat.reduceEqDiff]);exact hy
         . rw [yf4]at hy ⊢;(try simp only [↓reduceIte,OfNat.ofNat_ne_ofNat,Nat.reduceEqDiff]);exact hy
         . rw [yf5]at hy ⊢;(try simp only [↓reduceIte,OfNat.ofNat_ne_ofNat,Nat.reduceEqDiff]);exact hy
         . rw [yf6]at hy ⊢;(try simp only [↓reduceIte,OfNat.ofNat_ne_ofNat,Nat.reduceEqDiff]);exact hy
         . rw [yf7]at hy ⊢;(try simp only [↓reduceIte,OfNat.ofNat_ne_ofNat,Nat.reduceEqDiff]);exact hy
         . exact(Q8 hs (by kernel_rfl)).elim
         . exact(Q8 hs (by kernel_rfl)).elim
         . exact(Q8 hs (by kernel_rfl)).elim
         exact(Q8 hs (by kernel_rfl)).elim
       refine Qm.cons [(5,some 86)] (by kernel_rfl) (fun xs W hw hd lst hl K hK=>?_) ?_
       . rw [cEq]at hw
         have hK':=hK.out;clear hK;simp only [QV]at hd;obtain⟨hf5,_⟩:=hd;simp only [Qh,Act.put,List.setIfInBounds_toArray,List.set_cons_zero,List.set_cons_succ]at hK' ⊢;rw [yf5]at hf5;simp only [hf5]at hK' ⊢;go_simp;exact hK' _ _ (by rw [cEq];exact hw) (Qe yM 9 (by kernel_rfl) xs W _) (by rw [yf9];exact if_pos rfl)
       refine Qm.cons [(8,some 20),(6,some 87)] (by kernel_rfl) (fun xs W hw hd lst hl K hK=>?_) ?_
       . rw [cEq]at hw
         have hK':=hK.out;clear hK;simp only [QV]at hd;obtain⟨hf8,hf6,_⟩:=hd;simp only [Qh,Act.put,List.setIfInBounds_toArray,List.set_cons_zero,List.set_cons_succ]at hK' ⊢;rw [yf8]at hf8;rw [yf6]at hf6;simp only [hf6]at hK' ⊢;obtain⟨g,h8e,hg8,b8⟩:=hf8;simp only [h8e]at hK' ⊢;(have hn:∀b,QM (xs 8) b->b≠g:=fun b hb=>by rw [h8e]at hb;exact hb.ne');have cq0:=b8.cell 0;have cq1:=b8.cell 1;have cq2:=b8.cell 2;have cq3:=b8.cell 3;have cq4:=b8.cell 4;have cq5:=b8.cell 5;have cq6:=b8.cell 6;have cq7:=b8.cell 7;have cq8:=b8.cell 8;have cq9:=b8.cell 9;obtain⟨cz0,cz1,cz2,cz3,cz4,cz5,cz6,cz7,cz8,cz9⟩:=(b8).frozens10;simp at cq0 cq1 cq2 cq3 cq4 cq5 cq6 cq7 cq8 cq9;have hO:=b8.set10 (.slice none 0 0) (.int .i64 0) (.slice none 0 0) (.int .i64 0) (.slice none 0 0) (.int .i64 0) (.slice none 0 0) (.int .i64 0) (.int .i64 0) (.int .i64 0);have us:=JN W g (.slice none 0 0) (.int .i64 0) (.slice none 0 0) (.int .i64 0) (.slice none 0 0) (.int .i64 0) (.slice none 0 0) (.int .i64 0) (.int .i64 0) (.int .i64 0);have HO:=hd_ hO;have US:=hd_ us;clear b8 hO us;go_simp;have hR:=US.out;refine hK' (undef) (_) (by rw [cEq];exact hw.trans US.out (fun b hb h=>by omega)) (Y1 yM 10 (by kernel_rfl) _ fun j hs hy=>?_) (by rw [yf10];(try simp only [↓reduceIte]);try exact⟨g,h8e,hg8,HO.out⟩);by_cases hp:j∈[0,2,3,4,5,6,7,9,11]
         . exact yP j _ _ _ hp hy
         by_cases hj:12<=j
         . rw [yN j _ _ hj];trivial
         simp only [List.mem_cons,List.not_mem_nil,or_false]at hp;rcases(show j=1\/j=8\/j=10 by omega)with rfl|rfl|rfl
         . exact(Q8 hs (by kernel_rfl)).elim
         . exact(Q8 hs (by kernel_rfl)).elim
         exact(Q8 hs (by kernel_rfl)).elim
       refine Qm.cons [(7,some 88)] (by kernel_rfl) (fun xs W hw hd lst hl K hK=>?_) ?_
       . rw [cEq]at hw
         have hK':=hK.out;clear hK;simp only [QV]at hd;obtain⟨hf7,_⟩:=hd;simp only [Qh,Act.put,List.setIfInBounds_toArray,List.set_cons_zero,List.set_cons_succ]at hK' ⊢;rw [yf7]at hf7;simp only [hf7]at hK' ⊢;go_simp;exact hK' _ _ (by rw [cEq];exact hw) (Qe yM 11 (by kernel_rfl) xs W _) (by rw [yf11];exact if_pos rfl)
       exact Qm.nil
     intro xs w10 hw hd;rw [cEq]at hw;simp only [KL]at hd;obtain⟨fe0,fe1,fe2,fe3,fe4,fe5,fe6,fe7,fe8,fe9,fe10,fe11,_⟩:=hd;have fe0:=fe0 (by kernel_rfl);rw [yf0]at fe0;have fe2:=fe2 (by kernel_rfl);rw [yf2]at fe2;have fe4:=fe4 (by kernel_rfl);rw [yf4]at fe4;have fe7:=fe7 (by kernel_rfl);rw [yf7]at fe7;have fe9:=fe9 (by kernel_rfl);rw [yf9]at fe9;have fe10:=fe10 (by kernel_rfl);rw [yf10]at fe10;have fe11:=fe11 (by kernel_rfl);rw [yf11]at fe11;clear fe1 fe3 fe5 fe6 fe8;simp only [Qh,Act.put,List.setIfInBounds_toArray,List.set_cons_zero,List.set_cons_succ];generalize xs 0=xv0 at *;generalize xs 1=xv1 at *;generalize xs 2=xv2 at *;generalize xs 3=xv3 at *;generalize xs 4=xv4 at *;generalize xs 5=xv5 at *;generalize xs 6=xv6 at *;generalize xs 7=xv7 at *;generalize xs 8=xv8 at *;generalize xs 9=xv9 at *;generalize xs 10=xv10 at *;generalize xs 11=xv11 at *;subst fe0;subst fe2;subst fe4;subst fe7;subst fe9;subst fe11;clear yf0 yf1 yf2 yf3 yf4 yf5 yf6 yf7 yf8 yf9 yf10 yf11 yN yR yM yP cEq;obtain⟨g1,hg8,hg1,bg⟩:=fe10;subst hg8;have BG:=hd_ bg;have F9X:=hd_ hw;have F7X:=hd_ (F79.out.trans' hw);clear bg hw hg1 HCX9 HNW9 HSD9;(try clear fe0);(try clear fe1);(try clear fe2);(try clear fe3);(try clear fe4);obtain⟨v0,v1,v2,v3,v4,v5,v6,v7,v8,v9⟩:=(show w10.cell? ⟨Hx,0,none⟩=some (.slice none 0 0)/\w10.cell? ⟨Hx,1,none⟩=some (.int .i64 0)/\w10.cell? ⟨Hx,2,none⟩=some (.slice none 0 0)/\w10.cell? ⟨Hx,3,none⟩=some (.int .i64 0)/\w10.cell? ⟨Hx,4,none⟩=some (.slice none 0 0)/\w10.cell? ⟨Hx,5,none⟩=some (.int .i64 0)/\w10.cell? ⟨Hx,6,none⟩=some (.slice none 0 0)/\w10.cell? ⟨Hx,7,none⟩=some (.int .i64 0)/\w10.cell? ⟨Hx,8,none⟩=some (.int .i64 0)/\w10.cell? ⟨Hx,9,none⟩=some (.int .i64 0)from by have bb:=BX.out.fresh F9X.out;exact bb.cells10);go_upto_region 14 with fail;have HWN:=hd_ (fun(W:World)=>(fun j hj=>absurd hj (by omega):Wok W (fun _=>False) none 0));have HSN:=hd_ (fun(W:World)=>Q0e (fun _=>False) none none none none 0 0 0 0 0 0 0 0 0 0 0 0 0 0 W (fun b hb=>hb.elim) (HWN.out W) (HWN.out W) (HWN.out W) (HWN.out W) (by omega) (by omega) (by omega) (by omega) [] (by simp));go_wp2_with fail;refine(HSN.out _).mono ?_;rintro e11 w11 ⟨rfl,f11,-⟩;have F11:=hd_ (show Q0 w10 w11 from f11);clear f11 v0 v1 v2 v3 v4 v5 v6 v7 v8 v9;go_upto_region 15 with fail;obtain⟨v0,v1,v2,v3,v4,v5,v6,v7,v8,v9⟩:=(show w11.cell? ⟨g1,0,none⟩=some (.slice none 0 0)/\w11.cell? ⟨g1,1,none⟩=some (.int .i64 0)/\w11.cell? ⟨g1,2,none⟩=some (.slice none 0 0)/\w11.cell? ⟨g1,3,none⟩=some (.int .i64 0)/\w11.cell? ⟨g1,4,none⟩=some (.slice none 0 0)/\w11.cell? ⟨g1,5,none⟩=some (.int .i64 0)/\w11.cell? ⟨g1,6,none⟩=some (.slice none 0 0)/\w11.cell? ⟨g1,7,none⟩=some (.int .i64 0)/\w11.cell? ⟨g1,8,none⟩=some (.int .i64 0)/\w11.cell? ⟨g1,9,none⟩=some (.int .i64 0)from by have bb:=BG.out.fresh F11.out;exact bb.cells10)
     go_wp2_with fail;refine(HSN.out _).mono ?_;rintro e12 w12 ⟨rfl,f12,-⟩;have F12:=hd_ (show Q0 w11 w12 from f12);clear f12 v0 v1 v2 v3 v4 v5 v6 v7 v8 v9;go_wp2_with fail;go_loopg [22] 0 (fun f vi wr=>vi = .int .i64 0/\wr=w12)
     case atStart=>exact⟨rfl,rfl⟩
     case round =>
       obtain⟨rfl,rfl⟩:=hrel;go_upto_region 20 with fail;have FR:=hd_ (show Q0 w7 wr from((F7X.out.trans' F11.out).trans' F12.out));obtain⟨v0,v1,v2,v3,v4,v5,v6,v7,v8,v9⟩:=HCO.out wr FR.out;go_wp2_with fail;refine(HEE.out wr FR.out).mono ?_;rintro e14 w14 ⟨f14,rfl⟩;have F14:=hd_ f14;clear f14 v0 v1 v2 v3 v4 v5 v6 v7 v8 v9;go_upto_region 21 with fail;obtain⟨w15,hw15⟩:=nm_ (w14.alloc (.cells #[.slice none 0 0,.int .i64 0,.slice none 0 0,.int .i64 0,.slice none 0 0,.int .i64 0,.slice none 0 0,.int .i64 0,.int .i64 0,.int .i64 0] 32));simp only [<-hw15];have F1415:=hd_ (show Q0 w14 w15 by rw [hw15];exact(Upd.refl _ _).alloc _);clear hw15;have F715:=hd_ (FR.out.trans' (F14.out.trans' F1415.out));have F015:=hd_ (F7.out.trans' F715.out);obtain⟨v0,v1,v2,v3,v4,v5,v6,v7,v8,v9⟩:=HCO.out w15 F715.out;obtain⟨u0,u1,u2,u3,u4,u5,u6,u7,u8,u9⟩:=HCX.out w15 F015.out;have F515:=hd_ (F57.out.trans' F715.out);go_wp2_with fail;refine(Q0J _ _ Do Ao Bo Co D A B C h io n co m do_ k eo i c d e T Tr r0 r1 r2 w15 (RO.out.1.1.fresh F515.out) (RO.out.2.1.1.fresh F515.out) (RO.out.2.2.1.1.fresh F515.out) (RO.out.2.2.2.1.fresh F515.out) (HPS.out.1.fresh F015.out) (HPS.out.2.1.fresh F015.out) (HPS.out.2.2.1.fresh F015.out) (HPS.out.2.2.2.fresh F015.out) (by have:=HLN.out.1;omega) (by have:=HLN.out.1;omega) (by have:=HLN.out.1;omega) (by have:=HLN.out.1;omega)).mono ?_;rintro e16 w16 ⟨rfl,f16⟩;have F16:=hd_ f16;clear f16 v0 v1 v2 v3 v4 v5 v6 v7 v8 v9 u0 u1 u2 u3 u4 u5 u6 u7 u8 u9;go_wp2_with fail;refine(Xx _ _ L Am nl nl dl cm l l w16 ((HRL.out w15 F015.out).fresh F16.out) ((RM.out.fresh F715.out).fresh F16.out) (by have:=HNLE.out;omega) (by have:=HNLE.out;omega)).mono ?_;rintro e17 w17 ⟨he17,f17⟩;rw [decide_eq_true rfl]at he17;subst he17;have F17:=hd_ (F16.out.trans' f17);clear f17;go_wp2_with fail;refine(Q2O (fun _=>True) (fun _=>True) none none 0 0 0 0 [] [] w17 (Rd.nil _ _ _) (Rd.nil _ _ _) (by simp) (by simp)).mono ?_;rintro e18 w18 ⟨he18,rfl⟩;rw [decide_eq_true rfl]at he18;subst he18;go_wp2_with fail;refine(HKN.out _).mono ?_;rintro e19 w19 ⟨rfl,f19⟩;have F19:=hd_ ((F015.out.trans' F17.out).trans' f19);clear f19;go_wp2_with fail;(try go_ret);exact hR.out _ _ ⟨rfl,F0.out.trans' F19.out⟩
   rw [Bool.not_eq_true]at hr;rw [hr];have HER:=hd_ (fun W=>Q4G D A B C L h i n c m d k e nl dl T Tr r0 r1 r2 l W hr);have hES:Y8 T r0 r1 r2 l=(2,[],Qa.none,0,0,0):=if_pos hr;have hDE:Ys [] 0 T r0 r1 r2=K8.no 2:=if_pos hr;rw [hES]at HER;unfold Z8 at HER;have HDE:=hd_ hDE;have HNE:=hd_ (show ¬(K8.no 2).err=0 by decide);clear hr hES hDE;go_upto_region 7 with fail;have HCX4:=hd_ (fun W (f:Q0 w4 W)=>HCX.out W (F4.out.trans' f));have HNW4:=hd_ (fun W (f:Q0 w4 W)=>Vg (fun _=>True) none 0 0 [] W (Rd.nil _ _ _) (by simp) (by simp))
   have HSD4:=hd_ (show ∀(F':Nat->Prop) (g:Nat) (W':World),Qk W' F' g [] 0->(∀b,F' b->b≠g)->w4.heap.size<=g->Q0 w4 W'->Calls Tryz.prog 18 #[.pointer (some ⟨g,0,none⟩),.agg #[.slice D h i,.int .i64 T.lL,.slice A n c,.int .i64 T.lO,.slice B m d,.int .i64 T.lM,.slice C k e,.int .i64 r0,.int .i64 r1,.int .i64 r2]] W' (Zf F' g [] (K8.no 2) Tr W')from fun F' g W' hc hF hg f=>by
     have hss:=HSD.out F' g [] W' hc hF (by have:=F0.out.size;have:=F4.out.size;omega) (F4.out.trans' f);rw [HDE.out]at hss
     exact hss)
   obtain⟨Cw,cEq⟩:=exC (fun W=>Q0 w4 W);obtain⟨Y,yA⟩:=exY [fun xs W=>∃g,(xs 0) = .pointer (some ⟨g,0,none⟩)/\w4.heap.size<=g/\Qk W (fun q=>w4.heap.size<=q/\q≠g) g [] 0,fun xs W=>(xs 1) = .agg #[.slice D h i,.int .i64 T.lL,.slice A n c,.int .i64 T.lO,.slice B m d,.int .i64 T.lM,.slice C k e,.int .i64 r0,.int .i64 r1,.int .i64 r2],fun xs W=>(xs 2) = .tuple #[.slice none 0 0,.agg #[.slice none 0 0,.int .i64 0,.slice none 0 0,.int .i64 0,.slice none 0 0,.int .i64 0,.slice none 0 0,.int .i64 0,.int .i64 0,.int .i64 0],.int .i64 2],fun xs W=>(xs 3) = .tuple #[.slice none 0 0,.agg #[.slice none 0 0,.int .i64 0,.slice none 0 0,.int .i64 0,.slice none 0 0,.int .i64 0,.slice none 0 0,.int .i64 0,.int .i64 0,.int .i64 0],.int .i64 2],fun xs W=>(xs 4) = .slice none 0 0,fun xs W=>(xs 5) = .agg #[.slice none 0 0,.int .i64 0,.slice none 0 0,.int .i64 0,.slice none 0 0,.int .i64 0,.slice none 0 0,.int .i64 0,.int .i64 0,.int .i64 0],fun xs W=>(xs 6) = .int .i64 2,fun xs W=>∃g,(xs 7) = .pointer (some ⟨g,0,none⟩)/\w4.heap.size<=g/\Blk W g 32 #[.slice none 0 0,.int .i64 0,.slice none 0 0,.int .i64 0,.slice none 0 0,.int .i64 0,.slice none 0 0,.int .i64 0,.int .i64 0,.int .i64 0],fun xs W=>(xs 8) = .slice none 0 0,fun xs W=>True,fun xs W=>(xs 10) = .int .i64 2];have yf0:=yA 0;have yf1:=yA 1;have yf2:=yA 2;have yf3:=yA 3;have yf4:=yA 4;have yf5:=yA 5;have yf6:=yA 6;have yf7:=yA 7;have yf8:=yA 8;have yf9:=yA 9;have yf10:=yA 10;simp only [List.getD_cons_zero,List.getD_cons_succ]at yf0 yf1 yf2 yf3 yf4 yf5 yf6 yf7 yf8 yf9 yf10;(have yN:∀j xs W,11<=j->Y j xs W=True:=fun j xs W hj=>by rw [yA,Kg _ _ _ hj])
   have yP:∀j xs W W',j∈[1,2,3,4,5,6,8,9,10]->Y j xs W->Y j xs W':=by
     intro j xs W W' hj hy;simp only [List.mem_cons,List.not_mem_nil,or_false]at hj;rcases hj with rfl|rfl|rfl|rfl|rfl|rfl|rfl|rfl|rfl
     . rw [yf1]at hy ⊢;exact hy
     . rw [yf2]at hy ⊢;exact hy
     . rw [yf3]at hy ⊢;exact hy
     . rw [yf4]at hy ⊢;exact hy
     . rw [yf5]at hy ⊢;exact hy
     . rw [yf6]at hy ⊢;exact hy
     . rw [yf8]at hy ⊢;exact hy
     . rw [yf9]at hy ⊢;exact hy
     rw [yf10]at hy ⊢;exact hy
   have yM:Q0h [[0],[1],[2],[3],[4],[5],[6],[7],[8],[],[10]] Y:=by
     intro j xs xs' W hh hy;by_cases hj:11<=j
     . rw [yN j _ _ hj];trivial
     (have hj':j=0\/j=1\/j=2\/j=3\/j=4\/j=5\/j=6\/j=7\/j=8\/j=9\/j=10:=by omega);rcases hj' with rfl|rfl|rfl|rfl|rfl|rfl|rfl|rfl|rfl|rfl|rfl
     . rw [yf0]at hy ⊢;rw [<-hh 0 (by decide)];exact hy
     . rw [yf1]at hy ⊢;rw [<-hh 1 (by decide)];exact hy
     . rw [yf2]at hy ⊢;rw [<-hh 2 (by decide)];exact hy
     . rw [yf3]at hy ⊢;rw [<-hh 3 (by decide)];exact hy
     . rw [yf4]at hy ⊢;rw [<-hh 4 (by decide)];exact hy
     . rw [yf5]at hy ⊢;rw [<-hh 5 (by decide)];exact hy
     . rw [yf6]at hy ⊢;rw [<-hh 6 (by decide)];exact hy
     . rw [yf7]at hy ⊢;rw [<-hh 7 (by decide)];exact hy
     . rw [yf8]at hy ⊢;rw [<-hh 8 (by decide)];exact hy
     . rw [yf9]at hy ⊢;exact hy
     rw [yf10]at hy ⊢;rw [<-hh 10 (by decide)];exact hy
   clear yA
   have yR:∀j xs,11<=j->Y j xs (w4.drew):=by
     intro j xs hj;rcases(show 11<=j by omega)with hj;rw [yN _ _ _ hj];trivial
   refine JZ Cw (fun j=>if j=0 then [2,9]else if j=2 then [9]else if j=4 then [9]else if j=5 then [9]else if j=7 then [9]else []) Y [(0,some 48),(1,some 49),(2,some 50),(3,some 47),(4,some 51),(5,some 52),(6,some 53),(7,some 9),(8,some 8),(9,none),(10,some 10)] (by kernel_rfl) (by kernel_rfl) (by kernel_rfl) (by rw [cEq];exact(Upd.refl _ _).drew) (fun j hj=>yR j _ hj) ?_ ?_
   . refine Qm.cons [] (by kernel_rfl) (fun xs W hw hd lst hl K hK=>?_) ?_
     . rw [cEq]at hw
       have hK':=hK.out;clear hK;simp only [Qh,Act.put,List.setIfInBounds_toArray,List.set_cons_zero,List.set_cons_succ]at hK' ⊢;go_simp;refine(HNW4.out W hw).mono ?_;rintro ez wz ⟨gz,rfl,hgz,fz,cuz⟩;have hsz:=hw.size;have hR:=fz;refine hK' (_) (wz) (by rw [cEq];exact hw.trans' fz) (Y1 yM 0 (by kernel_rfl) _ fun j hs hy=>?_) (by rw [yf0];(try simp only [↓reduceIte]);try exact⟨gz,rfl,by omega,cuz.mono (fun b hb=>⟨by have:=hb.1;omega,hb.2⟩)⟩);by_cases hp:j∈[1,2,3,4,5,6,8,9,10]
       . exact yP j _ _ _ hp hy
       by_cases hj:11<=j
       . rw [yN j _ _ hj];trivial
       simp only [List.mem_cons,List.not_mem_nil,or_false]at hp;rcases(show j=0\/j=7 by omega)with rfl|rfl
       . exact(Q8 hs (by kernel_rfl)).elim
       rw [yf7]at hy ⊢;obtain⟨g,k1,k2,k3⟩:=hy;exact⟨g,k1,k2,k3.fresh hR⟩
     refine Qm.cons [] (by kernel_rfl) (fun xs W hw hd lst hl K hK=>?_) ?_
     . rw [cEq]at hw
       have hK':=hK.out;clear hK;simp only [Qh,Act.put,List.setIfInBounds_toArray,List.set_cons_zero,List.set_cons_succ]at hK' ⊢;have cl:=HCX4.out W hw;obtain⟨cz0,cz1,cz2,cz3,cz4,cz5,cz6,cz7,cz8,cz9⟩:=cl;go_simp;exact hK' _ _ (by rw [cEq];exact hw) (Qe yM 1 (by kernel_rfl) xs W _) (by rw [yf1];exact if_pos rfl)
     refine Qm.cons [(0,some 48),(1,some 49)] (by kernel_rfl) (fun xs W hw hd lst hl K hK=>?_) ?_
     . rw [cEq]at hw
       have hK':=hK.out;clear hK;simp only [QV]at hd;obtain⟨hf0,hf1,_⟩:=hd;simp only [Qh,Act.put,List.setIfInBounds_toArray,List.set_cons_zero,List.set_cons_succ]at hK' ⊢;rw [yf0]at hf0;rw [yf1]at hf1;simp only [hf1]at hK' ⊢;obtain⟨gc,h1e,hgc,cuc⟩:=hf0;simp only [h1e]at hK' ⊢;go_simp;have hdc:=HSD4.out _ gc W cuc (fun b hb=>hb.2) hgc hw;unfold Zf at hdc;simp only [if_neg (HNE.out)]at hdc;(have hcb:∃cs,Blk W gc 67 cs:=by obtain⟨_,_,hx,_⟩:=cuc;exact⟨_,hx⟩);obtain⟨cs,hcb⟩:=hcb
       have h8n:∀b,W.heap.size<=b->QM (xs 7) b:=by
         intro b hb
         cases h8:lst 7 with
         | false=>rw [hl.out.2.2.1 7 h8];exact QM.undef b
         | true =>
           have:=hl.out.2.2.2 7 h8 (fun m hm=>by have h10:m=9:=(by simpa using hm);subst h10;exact hl.out.2.1 9 (by kernel_rfl));rw [yf7]at this;obtain⟨g8,k1,_,k3⟩:=this;rw [k1];exact QM.ptr (by have:=k3.lt;omega)
       refine hdc.mono ?_;rintro ez wz ⟨ud,rfl⟩;have hsw:=hw.size;have hR:=ud;refine hK' (_) (wz) (by rw [cEq];exact hw.trans ud (fun b hb e=>by omega)) (Y1 yM 2 (by kernel_rfl) _ fun j hs hy=>?_) (by rw [yf2];(try simp only [↓reduceIte]);try exact rfl);by_cases hp:j∈[1,2,3,4,5,6,8,9,10]
       . exact yP j _ _ _ hp hy
       by_cases hj:11<=j
       . rw [yN j _ _ hj];trivial
       simp only [List.mem_cons,List.not_mem_nil,or_false]at hp;rcases(show j=0\/j=7 by omega)with rfl|rfl
       . exact(Q8 hs (by kernel_rfl)).elim
       rw [yf7]at hy ⊢;obtain⟨g,k1,k2,k3⟩:=hy;exact⟨g,k1,k2,k3.upd hR (fun e=>k3.ne_ hcb (by decide) e)⟩
     refine Qm.cons [(2,some 50)] (by kernel_rfl) (fun xs W hw hd lst hl K hK=>?_) ?_
     . rw [cEq]at hw
       have hK':=hK.out;clear hK;simp only [QV]at hd;obtain⟨hf2,_⟩:=hd;simp only [Qh,Act.put,List.setIfInBounds_toArray,List.set_cons_zero,List.set_cons_succ]at hK' ⊢;rw [yf2]at hf2;simp only [hf2]at hK' ⊢;go_simp;exact hK' _ _ (by rw [cEq];exact hw) (Qe yM 3 (by kernel_rfl) xs W _) (by rw [yf3];exact if_pos rfl)
     refine Qm.cons [(3,some 47)] (by kernel_rfl) (fun xs W hw hd lst hl K hK=>?_) ?_
     . rw [cEq]at hw
       have hK':=hK.out;clear hK;simp only [QV]at hd;obtain⟨hf3,_⟩:=hd;simp only [Qh,Act.put,List.setIfInBounds_toArray,List.set_cons_zero,List.set_cons_succ]at hK' ⊢;rw [yf3]at hf3;simp only [hf3]at hK' ⊢;go_simp;exact hK' _ _ (by rw [cEq];exact hw) (Qe yM 4 (by kernel_rfl) xs W _) (by rw [yf4];exact if_pos rfl)
     refine Qm.cons [(3,some 47)] (by kernel_rfl) (fun xs W hw hd lst hl K hK=>?_) ?_
     . rw [cEq]at hw
       have hK':=hK.out;clear hK;simp only [QV]at hd;obtain⟨hf3,_⟩:=hd;simp only [Qh,Act.put,List.setIfInBounds_toArray,List.set_cons_zero,List.set_cons_succ]at hK' ⊢;rw [yf3]at hf3;simp only [hf3]at hK' ⊢;go_simp;exact hK' _ _ (by rw [cEq];exact hw) (Qe yM 5 (by kernel_rfl) xs W _) (by rw [yf5];exact if_pos rfl)
     refine Qm.cons [(3,some 47)] (by kernel_rfl) (fun xs W hw hd lst hl K hK=>?_) ?_
     . rw [cEq]at hw
       have hK':=hK.out;clear hK;simp only [QV]at hd;obtain⟨hf3,_⟩:=hd;simp only [Qh,Act.put,List.setIfInBounds_toArray,List.set_cons_zero,List.set_cons_succ]at hK' ⊢;rw [yf3]at hf3;simp only [hf3]at hK' ⊢;go_simp;exact hK' _ _ (by rw [cEq];exact hw) (Qe yM 6 (by kernel_rfl) xs W _) (by rw [yf6];exact if_pos rfl)
     refine Qm.cons [] (by kernel_rfl) (fun xs W hw hd lst hl K hK=>?_) ?_
     . rw [cEq]at hw
       have hK':=hK.out;clear hK;simp only [Qh,Act.put,List.setIfInBounds_toArray,List.set_cons_zero,List.set_cons_succ]at hK' ⊢;go_simp;have hfa:Q0 W (W.alloc (.cells #[.slice none 0 0,.int .i64 0,.slice none 0 0,.int .i64 0,.slice none 0 0,.int .i64 0,.slice none 0 0,.int .i64 0,.int .i64 0,.int .i64 0] 32)):=(Upd.refl _ _).alloc _;have hna:∀b,b<W.heap.size->QM (.pointer (some ⟨W.heap.size,0,none⟩)) b:=fun b hb=>QM.ptr (by omega);have hsw:=hw.size;have hR:=And.intro hfa hna;refine hK' (_) (_) (by rw [cEq];exact hw.trans' hfa) (Y1 yM 7 (by kernel_rfl) _ fun j hs hy=>?_) (by rw [yf7];(try simp only [↓reduceIte]);try exact⟨W.heap.size,rfl,hsw,Blk.new _ _ _⟩);by_cases hp:j∈[1,2,3,4,5,6,8,9,10]
       . exact yP j _ _ _ hp hy
       by_cases hj:11<=j
       . rw [yN j _ _ hj];trivial
       simp only [List.mem_cons,List.not_mem_nil,or_false]at hp;rcases(show j=0\/j=7 by omega)with rfl|rfl
       . rw [yf0]at hy ⊢;obtain⟨g,k1,k2,k3⟩:=hy;exact⟨g,k1,k2,k3.fresh hR.1⟩
       exact(Q8 hs (by kernel_rfl)).elim
     refine Qm.cons [(4,some 51)] (by kernel_rfl) (fun xs W hw hd lst hl K hK=>?_) ?_
     . rw [cEq]at hw
       have hK':=hK.out;clear hK;simp only [QV]at hd;obtain⟨hf4,_⟩:=hd;simp only [Qh,Act.put,List.setIfInBounds_toArray,List.set_cons_zero,List.set_cons_succ]at hK' ⊢;rw [yf4]at hf4;simp only [hf4]at hK' ⊢;go_simp;exact hK' _ _ (by rw [cEq];exact hw) (Qe yM 8 (by kernel_rfl) xs W _) (by rw [yf8];exact if_pos rfl)
     refine Qm.cons [(7,some 9),(5,some 52)] (by kernel_rfl) (fun xs W hw hd lst hl K hK=>?_) ?_
     . rw [cEq]at hw
       have hK':=hK.out;clear hK;simp only [QV]at hd;obtain⟨hf7,hf5,_⟩:=hd;simp only [Qh,Act.put,List.setIfInBounds_toArray,List.set_cons_zero,List.set_cons_succ]at hK' ⊢;rw [yf7]at hf7;rw [yf5]at hf5;simp only [hf5]at hK' ⊢;obtain⟨g,h8e,hg8,b8⟩:=hf7;simp only [h8e]at hK' ⊢;(have hn:∀b,QM (xs 7) b->b≠g:=fun b hb=>by rw [h8e]at hb;exact hb.ne');have cq0:=b8.cell 0;have cq1:=b8.cell 1;have cq2:=b8.cell 2;have cq3:=b8.cell 3;have cq4:=b8.cell 4;have cq5:=b8.cell 5;have cq6:=b8.cell 6;have cq7:=b8.cell 7;have cq8:=b8.cell 8;have cq9:=b8.cell 9;obtain⟨cz0,cz1,cz2,cz3,cz4,cz5,cz6,cz7,cz8,cz9⟩:=(b8).frozens10;simp at cq0 cq1 cq2 cq3 cq4 cq5 cq6 cq7 cq8 cq9;have hO:=b8.set10 (.slice none 0 0) (.int .i64 0) (.slice none 0 0) (.int .i64 0) (.slice none 0 0) (.int .i64 0) (.slice none 0 0) (.int .i64 0) (.int .i64 0) (.int .i64 0);have us:=JN W g (.slice none 0 0) (.int .i64 0) (.slice none 0 0) (.int .i64 0) (.slice none 0 0) (.int .i64 0) (.slice none 0 0) (.int .i64 0) (.int .i64 0) (.int .i64 0);have HO:=hd_ hO;have US:=hd_ us;clear b8 hO us;go_simp;have hR:=US.out;refine hK' (undef) (_) (by rw [cEq];exact hw.trans US.out (fun b hb h=>by omega)) (Y1 yM 9 (by kernel_rfl) _ fun j hs hy=>?_) (by rw [yf9];(try simp only [↓reduceIte]);try exact trivial);by_cases hp:j∈[1,2,3,4,5,6,8,9,10]
       . exact yP j _ _ _ hp hy
       by_cases hj:11<=j
       . rw [yN j _ _ hj];trivial
       simp only [List.mem_cons,List.not_mem_nil,or_false]at hp;rcases(show j=0\/j=7 by omega)with rfl|rfl
       . exact(Q8 hs (by kernel_rfl)).elim
       exact(Q8 hs (by kernel_rfl)).elim
     refine Qm.cons [(6,some 53)] (by kernel_rfl) (fun xs W hw hd lst hl K hK=>?_) ?_
     . rw [cEq]at hw
       have hK':=hK.out;clear hK;simp only [QV]at hd;obtain⟨hf6,_⟩:=hd;simp only [Qh,Act.put,List.setIfInBounds_toArray,List.set_cons_zero,List.set_cons_succ]at hK' ⊢;rw [yf6]at hf6;simp only [hf6]at hK' ⊢;go_simp;exact hK' _ _ (by rw [cEq];exact hw) (Qe yM 10 (by kernel_rfl) xs W _) (by rw [yf10];exact if_pos rfl)
     exact Qm.nil
   intro xs w5 hw hd;rw [cEq]at hw;simp only [KL]at hd;obtain⟨fe0,fe1,fe2,fe3,fe4,fe5,fe6,fe7,fe8,fe9,fe10,_⟩:=hd;have fe1:=fe1 (by kernel_rfl);rw [yf1]at fe1;have fe3:=fe3 (by kernel_rfl);rw [yf3]at fe3;have fe6:=fe6 (by kernel_rfl);rw [yf6]at fe6;have fe8:=fe8 (by kernel_rfl);rw [yf8]at fe8;have fe9:=fe9 (by kernel_rfl);rw [yf9]at fe9;have fe10:=fe10 (by kernel_rfl);rw [yf10]at fe10;clear fe0 fe2 fe4 fe5 fe7;simp only [Qh,Act.put,List.setIfInBounds_toArray,List.set_cons_zero,List.set_cons_succ];generalize xs 0=xv0 at *;generalize xs 1=xv1 at *;generalize xs 2=xv2 at *;generalize xs 3=xv3 at *;generalize xs 4=xv4 at *;generalize xs 5=xv5 at *;generalize xs 6=xv6 at *;generalize xs 7=xv7 at *;generalize xs 8=xv8 at *;generalize xs 9=xv9 at *;generalize xs 10=xv10 at *;subst fe1;subst fe3;subst fe6;subst fe8;subst fe10;clear yf0 yf1 yf2 yf3 yf4 yf5 yf6 yf7 yf8 yf9 yf10 yN yR yM yP cEq;have F5:=hd_ (F4.out.trans' hw);clear hw;(try clear fe0);(try clear fe1);(try clear fe2);(try clear fe3);(try clear fe7);(try clear fe9);obtain⟨u0,u1,u2,u3,u4,u5,u6,u7,u8,u9⟩:=HCX.out w5 F5.out;go_wp2_with fail;refine(HER.out _).mono ?_;rintro e6 w6 ⟨f6,h6⟩;rw [if_neg (by decide)]at h6;subst h6;have F6:=hd_ (F5.out.trans' f6);clear f6 HER u0 u1 u2 u3 u4 u5 u6 u7 u8 u9;go_upto_region 9 with fail;obtain⟨w7,hw7⟩:=nm_ (w6.alloc (.cells #[.slice none 0 0,.int .i64 0,.slice none 0 0,.int .i64 0,.slice none 0 0,.int .i64 0,.slice none 0 0,.int .i64 0,.int .i64 0,.int .i64 0] 32));simp only [<-hw7];have F7:=hd_ (F6.out.trans' (show Q0 w6 w7 by rw [hw7];exact(Upd.refl _ _).alloc _));clear hw7;(try simp only [show(K8.no 2).err=2 from rfl]);go_wp2_with fail;refine(HKN.out _).mono ?_;rintro e8 w8 ⟨rfl,f8⟩;have F8:=hd_ ((F7.out).trans' f8);clear f8;go_wp2_with fail;(try go_ret);exact hR.out _ _ ⟨rfl,F0.out.trans' F8.out⟩
 have hd:decide (h<=300/\n<=300/\m<=300/\k<=300)=false:=decide_eq_false hfew;rw [hd]at HFW;clear hbig hfew hd;clear hw0 hH f0 bc p0 p1 p2 p3 f1 f2 f3 hL hfit hTr hNL hNO hNM hll;refine Q6 fun R hR=>?_;obtain⟨u0,u1,u2,u3,u4,u5,u6,u7,u8,u9⟩:=HCX.out w0 (Upd.refl _ _);go_enter Tryz.func11,Tryz.ntmps11;go_upto_region 1 with fail;simp only [<-HH.out,<-HW.out];go_wp2_with fail;refine(HFW.out _).mono ?_;rintro e1 w1 ⟨rfl,f1⟩;have F1:=hd_ f1;clear f1;go_wp2_with fail;refine(HKN.out _).mono ?_;rintro e2 w2 ⟨rfl,f2⟩;have F2:=hd_ ((F1.out).trans' f2);clear f2;go_wp2_with fail;(try go_ret);exact hR.out _ _ ⟨rfl,F0.out.trans' F2.out⟩
end Go.Proofs.YtjfdaphjijfieaaGreat
