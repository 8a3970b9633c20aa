/-
  Joined texts, part 41: contracts and plain lemmas.
  Conditions: none beyond those of each theorem.
-/
import Derived.Test.YtjfdaphjijfieaaGreatL39
import Derived.Test.YtjfdaphjijfieaaGreatL5
set_option maxHeartbeats 40000000
set_option linter.unusedVariables false
set_option linter.unusedSimpArgs false
set_option maxRecDepth 100000
universe u
namespace Go.Proofs.YtjfdaphjijfieaaGreat
open Go.RowKit Go.Shelf Go.Sort
theorem Q2t (T:Qa) (l:List Qb):(Yj T l 3).length<=4000:=by
 have e0:=YJ (pkN T l 0).1 0 (pkN T l 0).2.1 (pkN T l 0).2.2.1 (by omega);have e1:=YJ (pkN T l 1).1 1 (pkN T l 1).2.1 (pkN T l 1).2.2.1 (by omega);have e2:=YJ (pkN T l 2).1 2 (pkN T l 2).2.1 (pkN T l 2).2.2.1 (by omega);(have e3:(Yj T l 3).length=1+(QZ T l 0).length+(QZ T l 1).length+(QZ T l 2).length:=by simp [Yj,Ye];omega);have e4:(QZ T l 0).length<=1000:=e0;have e5:(QZ T l 1).length<=1000:=e1;have e6:(QZ T l 2).length<=1000:=e2;omega
theorem Q4I {T:QJ} (hT:T.ok) {l:List Qb} (h:∀x∈l,x.ok/\Cov T x):(wrE T l).length<=100*l.length+27:=by
 have hq:∀(j:Nat) (hj:j<l.length),(fun p:Nat × Qb=>p.2.ok/\Cov T p.2) (j,l[j]):=fun j hj=>h _ (List.getElem_mem hj);have h1:=Q1T (Pq:=fun p:Nat × Qb=>p.2.ok/\Cov T p.2) T l hq l.length 0 (by omega);have h2:=Q3z hT ((bkP (Pq:=fun p:Nat × Qb=>p.2.ok/\Cov T p.2) l hq 0).map Subtype.val) (n:=l.length) (fun p hp=>by obtain⟨q,_,rfl⟩:=List.mem_map.1 hp;exact q.2);rw [h1,List.length_map,Xy]at h2
 have h3:T.pL<=9/\T.pO<=9/\T.pM<=9:=by
   have a1:=hT.1.2.1;have a2:=hT.2.1.2.1;have a3:=hT.2.2.2.1;omega
 (have e:∀n x,(Qf n x).length=n:=fun n x=>by simp);unfold wrE;simp only [List.length_append,e,List.drop_zero]at h2 ⊢;omega
theorem Qa6 (FL G:Nat->Prop) (D A B C0 L:Option Addr) (h i n c m d k e nl dl:Nat) (T:Qa) (Tr:List Int) (r0 r1 r2:Int) (l:List (Int × Int × Int)) (w:World) (hrep:Qz r0 r1 r2=true)
   (hL:RdK w FL 3 L nl (l.map tri)) (hne:l≠[]) (hnl:nl<128) (hmay:∀s∈l,J4 s) (h0:Rd w G D h (Q2 Tr)) (h1:Rd w G A n (Q2 T.NL)) (h2:Rd w G B m (Q2 T.NO)) (h3:Rd w G C0 k (Q2 T.NM)) (f1:Fit T.NL) (f2:Fit T.NO) (f3:Fit T.NM) (b0:h<=2^40) (b1:n<=2^40) (b2:m<=2^40) (b3:k<=2^40) :
   Calls Tryz.prog 24 #[.agg #[.slice D h i,.int .i64 T.lL,.slice A n c,.int .i64 T.lO,.slice B m d,.int .i64 T.lM,.slice C0 k e,.int .i64 r0,.int .i64 r1,.int .i64 r2],.slice L nl dl] w (Z8 (Y8 T r0 r1 r2 l) Tr w):=by
 obtain⟨w0,hw0⟩:=nm_ ((w.alloc (.cells #[.slice D h i,.int .i64 T.lL,.slice A n c,.int .i64 T.lO,.slice B m d,.int .i64 T.lM,.slice C0 k e,.int .i64 r0,.int .i64 r1,.int .i64 r2] 32)).alloc (.cells #[.slice none 0 0,.int .i64 0,.slice none 0 0,.int .i64 0,.slice none 0 0,.int .i64 0,.slice none 0 0,.int .i64 0,.int .i64 0,.int .i64 0] 32));obtain⟨H,hH⟩:=nm_ (w.heap.size);(have f0:Q0 w w0:=by rw [hw0];exact((Upd.refl _ _).alloc _).alloc _);(have bc:Blk w0 H 32 #[.slice D h i,.int .i64 T.lL,.slice A n c,.int .i64 T.lO,.slice B m d,.int .i64 T.lM,.slice C0 k e,.int .i64 r0,.int .i64 r1,.int .i64 r2]:=by rw [hw0];exact(Q1 hH _ _).alloc _);(have bo:Blk w0 (H+1) 32 #[.slice none 0 0,.int .i64 0,.slice none 0 0,.int .i64 0,.slice none 0 0,.int .i64 0,.slice none 0 0,.int .i64 0,.int .i64 0,.int .i64 0]:=by rw [hw0];exact Q1 (by simp [hH]) _ _);have HW:=hd_ hw0;have HH:=hd_ hH;have F0:=hd_ f0;have BO:=hd_ bo;have HRP2:=hd_ (ZV r0 r1 r2 w0);(have hln:l.length=nl:=by have:=hL.1;simpa using this);(have hpos:0<nl:=by rw [<-hln];exact List.length_pos_iff.2 hne);have HE:=hd_ (show Y8 T r0 r1 r2 l=(0,Ka T r0 r1 r2 l,Yd T (Qr r0 r1 r2 l),JF r0 r1 r2 l)from by unfold Y8;rw [if_neg (by rw [hrep];simp),if_neg (by omega),if_neg (by simpa using hmay),if_neg hne]);have HCD:=hd_ (fun W (f:Q0 w0 W)=>Q0a FL L nl dl r0 r1 r2 l W ((hL.fresh f0).fresh f) (fun s hs=>by have:=hmay s hs;unfold J4 at this;omega) (by omega) hrep);have hok:∀x∈Qr r0 r1 r2 l,x.ok:=X1 hmay;(have hRl:(Qr r0 r1 r2 l).length=nl:=by rw [Vr,hln]);(have hRn:Qr r0 r1 r2 l≠[]:=by intro hx;rw [hx]at hRl;simp at hRl;omega);have HNT:=hd_ (Q1V (T:=T) (l:=Qr r0 r1 r2 l) (by omega) hRn hok);have HPF:=hd_ (YP (T:=T) (l:=Qr r0 r1 r2 l) (by omega) hRn hok);have HOK:=hd_ hok;have HRL:=hd_ hRl;have HRN:=hd_ hRn
 have HLEN:=hd_ (show(Yj T (Qr r0 r1 r2 l) 3).length<=4000/\(QN (wrE (Yd T (Qr r0 r1 r2 l)).trks (Qr r0 r1 r2 l)++[true])).length<=4000 from by
   refine⟨Q2t T _,?_⟩;have h5:=Q4I HNT.out.1 (fun x hx=>And.intro (hok x hx) (HNT.out.2 x hx));rw [Zm,List.length_append,List.length_singleton]
   omega)
 have HEB:=hd_ (show Ka T r0 r1 r2 l=nl::(Yj T (Qr r0 r1 r2 l) 3++QN (wrE (Yd T (Qr r0 r1 r2 l)).trks (Qr r0 r1 r2 l)++[true]))from by unfold Ka;rw [hln]);rw [hrep]at HRP2;have BC:=hd_ bc;have HRD:=hd_ (And.intro (h0.both.fresh f0) (And.intro (h1.both.fresh f0) (And.intro (h2.both.fresh f0) (h3.both.fresh f0))));have HBD:=hd_ (And.intro b0 (And.intro b1 (And.intro b2 b3)));have HFT:=hd_ (And.intro f1 (And.intro f2 f3));have HMAY:=hd_ hmay;(have hgt:¬(65536:Int)<nl:=by omega);(have hz1:((nl:Int) == 0)=false:=by simp;omega);have HNL:=hd_ hnl;have HLN:=hd_ hln;(have hcv:IntKind.u64.wrap (nl:Int)=nl:=by rw [IntKind.wrap_u64];omega);clear hL h0 h1 h2 h3 f1 f2 f3 b0 b1 b2 b3 hmay hok hRl hRn hne hln hnl hpos;have q0:=bc.cell 7;have q1:=bc.cell 8;have q2:=bc.cell 9;simp at q0 q1 q2;clear hw0 hH f0 bc bo hrep;refine Q6 fun R hR=>?_;go_enter Tryz.func24,Tryz.ntmps24;go_upto_region 1 with fail;simp only [<-HH.out,<-HW.out];go_wp2_with fail;refine HRP2.out.mono ?_;rintro e1 w1 ⟨rfl,f1⟩;have F1:=hd_ f1;clear f1 q0 q1 q2;have b1:=BC.out.fresh F1.out;have q0:=b1.cell 7;have q1:=b1.cell 8;have q2:=b1.cell 9;simp at q0 q1 q2;clear b1;go_wp2_with fail;refine(HCD.out _ F1.out).mono ?_;rintro e2 w2 ⟨f2,hp⟩;rw [if_pos HMAY.out]at hp;obtain⟨v,rfl,hv,hvb⟩:=hp;obtain⟨Av,nv,cv,rfl,hnv⟩:=hv.form';have rv:=(hv.rd rfl);(have hnv':nv=nl:=by have:=hnv.out;rw [List.length_map,HRL.out]at this;exact this);subst hnv';have F2:=hd_ (F1.out.trans' f2);have F12:=hd_ f2;have RV:=hd_ (show RdK w2 (fun b=>w1.heap.size<=b/\b<w2.heap.size) 6 Av nv ((Qr r0 r1 r2 l).map Yo)from by have h3:=rv.2.2;rw [<-rv.1]at h3;exact(h3.both).mono (fun b hb=>⟨hvb b hb.1,hb.2⟩));clear f2 q0 q1 q2 hv hvb rv hnv;go_upto_region 6 with fail;obtain⟨⟨q0,q1,q2⟩,hq⟩:∃q,q=JF r0 r1 r2 l:=⟨_,rfl⟩;simp only [<-hq];have HQ:=hd_ hq;clear hq;obtain⟨Yb,hYb⟩:=nm_ (w2.heap.size);obtain⟨w3,hw3⟩:=nm_ (w2.alloc (.cells #[.int .i64 q0,.int .i64 q1,.int .i64 q2] 30));simp only [<-hYb,<-hw3];have F3:=hd_ (F2.out.trans' (show Q0 w2 w3 by rw [hw3];exact(Upd.refl _ _).alloc _));have F23:=hd_ (show Q0 w2 w3 by rw [hw3];exact(Upd.refl _ _).alloc _);have BY:=hd_ (show Blk w3 Yb 30 #[.int .i64 q0,.int .i64 q1,.int .i64 q2] by rw [hw3];exact Q1 hYb _ _);have HPV:=hd_ (Q3l nv w3 HNL.out);have S1:=hd_ (show H+1<w1.heap.size/\w1.heap.size<=w2.heap.size/\w2.heap.size<=w3.heap.size/\Yb=w2.heap.size/\Yb<w3.heap.size from⟨(BO.out.fresh F1.out).lt,F12.out.size,F23.out.size,hYb,BY.out.lt⟩);clear hw3 hYb;go_wp2_with fail;refine(show Calls Tryz.prog 27 #[.slice none 0 0,.int .u64 (nv:Nat)] w3 _ from HPV.out).mono ?_;rintro e4 w4 ⟨vb,rfl,nb⟩;have F34:=hd_ nb.2.1;have F4:=hd_ (F3.out.trans' nb.2.1);have NB:=hd_ nb
 clear nb;have bb4:=BC.out.fresh F4.out;obtain⟨g0,g1,g2,g3,g4,g5,g6,g7,g8,g9⟩:=(bb4).cells10;have HCH:=hd_ (Q5G (fun b=>G b/\b<w.heap.size) _ A B C0 D Av n c m d k e h i nv cv T (Qr r0 r1 r2 l) r0 r1 r2 w4 (HRD.out.2.1.fresh F4.out) (HRD.out.2.2.1.fresh F4.out) (HRD.out.2.2.2.fresh F4.out) HFT.out.1 HFT.out.2.1 HFT.out.2.2 (by have:=HBD.out.2.1;omega) (by have:=HBD.out.2.2.1;omega) (by have:=HBD.out.2.2.2;omega) ((RV.out.fresh F23.out).fresh F34.out) (by have:=HNL.out;omega) HRN.out HOK.out);clear bb4;unfold XB at HCH;have HOC:=hd_ (fun x (hx:x∈Qr r0 r1 r2 l)=>And.intro (HOK.out x hx) (HNT.out.2 x hx));have hTok:(Yd T (Qr r0 r1 r2 l)).trks.ok:=HNT.out.1
 have heT:(Yd T (Qr r0 r1 r2 l)).lL=((Yd T (Qr r0 r1 r2 l)).trks.pL:Nat)/\(Yd T (Qr r0 r1 r2 l)).lO=((Yd T (Qr r0 r1 r2 l)).trks.pO:Nat)/\(Yd T (Qr r0 r1 r2 l)).lM=((Yd T (Qr r0 r1 r2 l)).trks.pM:Nat):=by
   have t0:=(HPF.out 0 (by omega)).2.2.1.1;have t1:=(HPF.out 1 (by omega)).2.2.1.1;have t2:=(HPF.out 2 (by omega)).2.2.1.1;simp only [Yd,Qa.trks];omega
 have hfitT:Fit (Yd T (Qr r0 r1 r2 l)).NL/\Fit (Yd T (Qr r0 r1 r2 l)).NO/\Fit (Yd T (Qr r0 r1 r2 l)).NM:=⟨(HPF.out 0 (by omega)).2.2.2.2.2.1,(HPF.out 1 (by omega)).2.2.2.2.2.1,(HPF.out 2 (by omega)).2.2.2.2.2.1⟩;have hlenT:(Yd T (Qr r0 r1 r2 l)).NL.length<=1000/\(Yd T (Qr r0 r1 r2 l)).NO.length<=1000/\(Yd T (Qr r0 r1 r2 l)).NM.length<=1000:=⟨(HPF.out 0 (by omega)).2.2.2.2.2.2,(HPF.out 1 (by omega)).2.2.2.2.2.2,(HPF.out 2 (by omega)).2.2.2.2.2.2⟩;obtain⟨HB,hHB⟩:=nm_ (Yj T (Qr r0 r1 r2 l) 3);obtain⟨PB,hPB⟩:=nm_ (QN (wrE (Yd T (Qr r0 r1 r2 l)).trks (Qr r0 r1 r2 l)++[true]));rw [<-hHB,<-hPB]at HEB HLEN;rw [<-hHB]at HCH;have HPB:=hd_ hPB;clear hHB hPB;clear HPF HNT;generalize Yd T (Qr r0 r1 r2 l)=NT at *;have HTOK:=hd_ hTok;have HET:=hd_ heT;have HFT2:=hd_ hfitT;have HLT:=hd_ hlenT;clear hTok heT hfitT hlenT;go_wp2_with fail;refine HCH.out.mono ?_;rintro e5 w5 ⟨f5,vc,A1,n1,c1,B1,m1,d1,C1,k1,e1,rfl,oc,hcb,ru1,ru2,ru3⟩;obtain⟨Ac,nc,cc,rfl,hnc⟩:=oc.form';have F45:=hd_ f5;have F5:=hd_ (F4.out.trans' f5);have OC:=hd_ oc;have HCB:=hd_ hcb;have RU:=hd_ (And.intro ru1 (And.intro ru2 ru3));clear f5 oc hcb ru1 ru2 ru3 hnc g0 g1 g2 g3 g4 g5 g6 g7 g8 g9 HCH;go_upto_region 12 with fail;obtain⟨Zt,hZt⟩:=nm_ (w5.heap.size);obtain⟨w6,hw6⟩:=nm_ (w5.alloc (.cells #[.int .i64 NT.lL,.slice A1 n1 c1,.int .i64 NT.lO,.slice B1 m1 d1,.int .i64 NT.lM,.slice C1 k1 e1] 69));simp only [<-hZt,<-hw6];have F56:=hd_ (show Q0 w5 w6 by rw [hw6];exact(Upd.refl _ _).alloc _);have BT:=hd_ (show Blk w6 Zt 69 #[.int .i64 NT.lL,.slice A1 n1 c1,.int .i64 NT.lO,.slice B1 m1 d1,.int .i64 NT.lM,.slice C1 k1 e1] by rw [hw6];exact Q1 hZt _ _);have HZT:=hd_ hZt;clear hw6 hZt;(have hn1:n1=NT.NL.length:=by have:=RU.out.1.1.1;rw [Y0]at this;exact this.symm);(have hm1:m1=NT.NO.length:=by have:=RU.out.2.1.1.1;rw [Y0]at this;exact this.symm);(have hk1:k1=NT.NM.length:=by have:=RU.out.2.2.1.1;rw [Y0]at this;exact this.symm);have htk:=Q1w (fun b=>w4.heap.size<=b) A1 B1 C1 n1 c1 m1 d1 k1 e1 NT.trks w6 HTOK.out (RU.out.1.1.fresh F56.out) (RU.out.2.1.1.fresh F56.out) (RU.out.2.2.1.fresh F56.out) HFT2.out.1 HFT2.out.2.1 HFT2.out.2.2 (by have:=HLT.out.1;omega) (by have:=HLT.out.2.1;omega) (by have:=HLT.out.2.2;omega);rw [<-HET.out.1,<-HET.out.2.1,<-HET.out.2.2]at htk;have HTK:=hd_ htk;have HN1:=hd_ (And.intro hn1 (And.intro hm1 hk1));have c6:=BT.out;obtain⟨z0,z1,z2,z3,z4,z5⟩:=(c6).cells6;clear htk hn1 hm1 hk1 c6;go_wp2_with fail;refine HTK.out.mono ?_;rintro e7 w7 ⟨v0,v1,v2,rfl,⟨g0,rfl,cc0⟩,⟨g1,rfl,cc1⟩,⟨g2,rfl,cc2⟩,f7⟩;have F67:=hd_ f7;have CC:=hd_ (And.intro cc0 (And.intro cc1 cc2));clear f7 cc0 cc1 cc2 HTK z0 z1 z2 z3 z4 z5;go_upto_region 15 with fail;obtain⟨Zx,hZx⟩:=nm_ (w7.heap.size);obtain⟨w8,hw8⟩:=nm_ (w7.alloc (.cells #[.pointer (some ⟨g0,0,none⟩),.int .i64 0,.pointer (some ⟨g1,0,none⟩),.int .i64 0,.pointer (some ⟨g2,0,none⟩),.int .i64 0] 96))
 simp only [<-hZx,<-hw8];have F78:=hd_ (show Q0 w7 w8 by rw [hw8];exact(Upd.refl _ _).alloc _);have BX:=hd_ (show Blk w8 Zx 96 #[.pointer (some ⟨g0,0,none⟩),.int .i64 0,.pointer (some ⟨g1,0,none⟩),.int .i64 0,.pointer (some ⟨g2,0,none⟩),.int .i64 0] by rw [hw8];exact Q1 hZx _ _);have HZX:=hd_ hZx;clear hw8 hZx;go_upto_region 17 with fail;have F48:Q0 w4 w8:=((F45.out.trans' F56.out).trans' F67.out).trans' F78.out;have F8:=hd_ (F4.out.trans' F48);have S2:=hd_ (show w3.heap.size<=w4.heap.size/\w4.heap.size<=w5.heap.size/\w5.heap.size<=w6.heap.size/\w6.heap.size<=w7.heap.size/\w7.heap.size<=w8.heap.size/\Zt=w5.heap.size/\Zx=w7.heap.size from⟨F34.out.size,F45.out.size,F56.out.size,F67.out.size,F78.out.size,HZT.out,HZX.out⟩);have S3:=hd_ (show H+1<w3.heap.size/\w3.heap.size<=w8.heap.size from by have:=S1.out;have:=S2.out;omega);have HVL:=hd_ (show ∀b,vb.ownBlock=some b->w3.heap.size<=b/\b<w4.heap.size from fun b hb=>⟨NB.out.2.2 b hb,NB.out.1.lt hb⟩);have HVB:=hd_ (NB.out.1.fresh F48);have keepB:∀(W:World) (g:Nat) (t:TypeId) (cs:Array Value),Upd (fun b=>b=H+1\/vb.ownBlock=some b) w8 W->Blk w8 g t cs->g≠H+1->(g<w3.heap.size\/w4.heap.size<=g)->Blk W g t cs:=fun W g t cs hu hb h1 h2=>hb.upd hu (fun h=>by rcases h with h|h;exact h1 h;have:=HVL.out g h;omega)
 have HX:=hd_ (show ∀W,Upd (fun b=>b=H+1\/vb.ownBlock=some b) w8 W->W.cell? ⟨Zx,0,none⟩=some (.pointer (some ⟨g0,0,none⟩))/\W.cell? ⟨Zx,1,none⟩=some (.int .i64 0)/\W.cell? ⟨Zx,2,none⟩=some (.pointer (some ⟨g1,0,none⟩))/\W.cell? ⟨Zx,3,none⟩=some (.int .i64 0)/\W.cell? ⟨Zx,4,none⟩=some (.pointer (some ⟨g2,0,none⟩))/\W.cell? ⟨Zx,5,none⟩=some (.int .i64 0)from fun W hu=>by
   have bb:=keepB W _ _ _ hu BX.out (by have:=S1.out;have:=S2.out;omega) (by have:=S2.out;omega)
   exact bb.cells6)
 have HT6:=hd_ (show ∀W,Upd (fun b=>b=H+1\/vb.ownBlock=some b) w8 W->W.cell? ⟨Zt,0,none⟩=some (.int .i64 NT.lL)/\W.cell? ⟨Zt,1,none⟩=some (.slice A1 n1 c1)/\W.cell? ⟨Zt,2,none⟩=some (.int .i64 NT.lO)/\W.cell? ⟨Zt,3,none⟩=some (.slice B1 m1 d1)/\W.cell? ⟨Zt,4,none⟩=some (.int .i64 NT.lM)/\W.cell? ⟨Zt,5,none⟩=some (.slice C1 k1 e1)from fun W hu=>by
   have bb:=keepB W _ _ _ hu ((BT.out.fresh F67.out).fresh F78.out) (by have:=S1.out;have:=S2.out;omega) (by have:=S2.out;omega)
   exact bb.cells6)
 have HAT:=hd_ (show ∀W,Upd (fun b=>b=H+1\/vb.ownBlock=some b) w8 W->W.cell? ⟨Yb,0,none⟩=some (.int .i64 q0)/\W.cell? ⟨Yb,1,none⟩=some (.int .i64 q1)/\W.cell? ⟨Yb,2,none⟩=some (.int .i64 q2)from fun W hu=>by
   have bb:=keepB W _ _ _ hu ((BY.out.fresh F34.out).fresh F48) (by have:=S1.out;have:=S2.out;omega) (by have:=S1.out;omega)
   exact bb.cells3)
 have HCX:=hd_ (show ∀W,Upd (fun b=>b=H+1\/vb.ownBlock=some b) w8 W->W.cell? ⟨H,0,none⟩=some (.slice D h i)/\W.cell? ⟨H,1,none⟩=some (.int .i64 T.lL)/\W.cell? ⟨H,2,none⟩=some (.slice A n c)/\W.cell? ⟨H,3,none⟩=some (.int .i64 T.lO)/\W.cell? ⟨H,4,none⟩=some (.slice B m d)/\W.cell? ⟨H,5,none⟩=some (.int .i64 T.lM)/\W.cell? ⟨H,6,none⟩=some (.slice C0 k e)/\W.cell? ⟨H,7,none⟩=some (.int .i64 r0)/\W.cell? ⟨H,8,none⟩=some (.int .i64 r1)/\W.cell? ⟨H,9,none⟩=some (.int .i64 r2)from fun W hu=>by
   have bb:=keepB W _ _ _ hu (BC.out.fresh F8.out) (by omega) (by have:=S3.out;omega)
   exact bb.cells10)
 have HOC8:=hd_ (show ∀W,Upd (fun b=>b=H+1\/vb.ownBlock=some b) w8 W->Rd W (fun b=>(Value.slice Ac nc cc).ownBlock=some b) Ac nc (Q9 HB)from fun W hu=>by
   have h3:=OC.out.rd rfl;rw [<-h3.1]at h3
   exact((h3.2.2.fresh ((F56.out.trans' F67.out).trans' F78.out))).upd hu (fun b hb hf h=>by have:=HCB.out b hf;have:=OC.out.lt hf;rcases h with h|h;have:=S3.out;have:=S2.out;omega;have:=HVL.out b h;omega))
 have HWR:=hd_ (fun W (hu:Upd (fun b=>b=H+1\/vb.ownBlock=some b) w8 W)=>Q72 (fun b=>w6.heap.size<=b) (fun b=>w1.heap.size<=b/\b<w2.heap.size) g0 g1 g2 nv cv Av NT.trks (Qr r0 r1 r2 l) W HTOK.out
   ((CC.out.1.fresh F78.out).upd hu (fun b hb _ h=>by have:=S3.out;have:=S2.out;rcases h with h|h;omega;have:=HVL.out b h;omega))
   ((CC.out.2.1.fresh F78.out).upd hu (fun b hb _ h=>by have:=S3.out;have:=S2.out;rcases h with h|h;omega;have:=HVL.out b h;omega))
   ((CC.out.2.2.fresh F78.out).upd hu (fun b hb _ h=>by have:=S3.out;have:=S2.out;rcases h with h|h;omega;have:=HVL.out b h;omega))
   (((RV.out.fresh F23.out).fresh (F34.out.trans' F48)).upd hu (fun b _ hb h=>by have:=S1.out;have:=S2.out;rcases h with h|h;omega;have:=HVL.out b h;omega)) (by have:=HNL.out;omega) HOC.out)
 rw [<-HPB.out]at HWR
 have HBE:=hd_ (fun W (hu:Upd (fun b=>b=H+1\/vb.ownBlock=some b) w8 W)=>KZ (fun b=>G b/\b<w.heap.size) (fun b=>w4.heap.size<=b/\b<w8.heap.size) D A1 B1 C1 A B C0 h i n1 c1 m1 d1 k1 e1 n c m d k e NT.lL NT.lO NT.lM q0 q1 q2 T.lL T.lO T.lM r0 r1 r2 Tr NT.NL NT.NO NT.NM W
   ((HRD.out.1.fresh F8.out).upd hu (fun b _ hb h=>by have:=HH.out;have:=S1.out;have:=F0.out.size;have:=F3.out.size;rcases h with h|h;omega;have:=HVL.out b h;omega))
   ((((RU.out.1.1.fresh ((F56.out.trans' F67.out).trans' F78.out)).both)).upd hu (fun b _ hb h=>by have:=S3.out;have:=S2.out;rcases h with h|h;omega;have:=HVL.out b h;omega))
   ((((RU.out.2.1.1.fresh ((F56.out.trans' F67.out).trans' F78.out)).both)).upd hu (fun b _ hb h=>by have:=S3.out;have:=S2.out;rcases h with h|h;omega;have:=HVL.out b h;omega))
   ((((RU.out.2.2.1.fresh ((F56.out.trans' F67.out).trans' F78.out)).both)).upd hu (fun b _ hb h=>by have:=S3.out;have:=S2.out;rcases h with h|h;omega;have:=HVL.out b h;omega))
   HBD.out.1 (by have:=HN1.out;have:=HLT.out;omega) (by have:=HN1.out;have:=HLT.out;omega) (by have:=HN1.out;have:=HLT.out;omega))
 have HLB:=hd_ (show(Q9 [nv]).length+nc<=2^40/\(Q9 (nv::HB)).length+(Q9 PB).length<=2^40 from by have h5:=OC.out.rd rfl;have h6:=HLEN.out;rw [JU,JU,JU,List.length_cons,List.length_cons,h5.1,JU,List.length_nil];omega);clear F48 keepB;obtain⟨Cw,cEq⟩:=exC (fun W=>Upd (fun b=>b=H+1\/vb.ownBlock=some b) w8 W);obtain⟨Y,yA⟩:=exY [fun xs W=>(xs 0)=vb,fun xs W=>(xs 1) = .slice Ac nc cc,fun xs W=>Own W 5 (xs 2) (Q9 (nv::HB))/\∀b,Value.ownBlock (xs 2)=some b->vb.ownBlock=some b\/w8.heap.size<=b,fun xs W=>(xs 3) = .agg #[.pointer (some ⟨g0,0,none⟩),.int .i64 0,.pointer (some ⟨g1,0,none⟩),.int .i64 0,.pointer (some ⟨g2,0,none⟩),.int .i64 0],fun xs W=>(xs 4) = .slice Av nv cv,fun xs W=>Own W 5 (xs 5) (Q9 PB)/\∀b,Value.ownBlock (xs 5)=some b->w8.heap.size<=b,fun xs W=>Own W 5 (xs 6) (Q9 (nv::(HB++PB)))/\∀b,Value.ownBlock (xs 6)=some b->vb.ownBlock=some b\/w8.heap.size<=b,fun xs W=>(xs 7) = .agg #[.slice D h i,.int .i64 T.lL,.slice A n c,.int .i64 T.lO,.slice B m d,.int .i64 T.lM,.slice C0 k e,.int .i64 r0,.int .i64 r1,.int .i64 r2],fun xs W=>(xs 8) = .agg #[.int .i64 NT.lL,.slice A1 n1 c1,.int .i64 NT.lO,.slice B1 m1 d1,.int .i64 NT.lM,.slice C1 k1 e1],fun xs W=>(xs 9) = .agg #[.int .i64 q0,.int .i64 q1,.int .i64 q2],fun xs W=>∃D2 i2 A2 c2 B2 d2 C2 e2,(xs 10) = .agg #[.slice D2 h i2,.int .i64 NT.lL,.slice A2 n1 c2,.int .i64 NT.lO,.slice B2 m1 d2,.int .i64 NT.lM,.slice C2 k1 e2,.int .i64 q0,.int .i64 q1,.int .i64 q2]/\RdU W (fun b=>w8.heap.size<=b/\Value.ownBlock (xs 6)≠some b) D2 h (Q2 Tr)/\RdU W (fun b=>w8.heap.size<=b/\Value.ownBlock (xs 6)≠some b) A2 n1 (Q2 NT.NL)/\RdU W (fun b=>w8.heap.size<=b/\Value.ownBlock (xs 6)≠some b) B2 m1 (Q2 NT.NO)/\RdU W (fun b=>w8.heap.size<=b/\Value.ownBlock (xs 6)≠some b) C2 k1 (Q2 NT.NM),fun xs W=>(xs 11)=(xs 6)/\Own W 5 (xs 11) (Q9 (nv::(HB++PB)))/\∀b,Value.ownBlock (xs 11)=some b->vb.ownBlock=some b\/w8.heap.size<=b,fun xs W=>∃D2 i2 A2 c2 B2 d2 C2 e2,Blk W (H+1) 32 #[.slice D2 h i2,.int .i64 NT.lL,.slice A2 n1 c2,.int .i64 NT.lO,.slice B2 m1 d2,.int .i64 NT.lM,.slice C2 k1 e2,.int .i64 q0,.int .i64 q1,.int .i64 q2]/\RdU W (fun b=>w8.heap.size<=b/\Value.ownBlock (xs 6)≠some b) D2 h (Q2 Tr)/\RdU W (fun b=>w8.heap.size<=b/\Value.ownBlock (xs 6)≠some b) A2 n1 (Q2 NT.NL)/\RdU W (fun b=>w8.heap.size<=b/\Value.ownBlock (xs 6)≠some b) B2 m1 (Q2 NT.NO)/\RdU W (fun b=>w8.heap.size<=b/\Value.ownBlock (xs 6)≠some b) C2 k1 (Q2 NT.NM),fun xs W=>(xs 13) = .int .i64 0,fun xs W=>Own W 5 vb (Q9 [nv]),fun xs W=>Blk W (H+1) 32 #[.slice none 0 0,.int .i64 0,.slice none 0 0,.int .i64 0,.slice none 0 0,.int .i64 0,.slice none 0 0,.int .i64 0,.int .i64 0,.int .i64 0]]
 have yf0:=yA 0;have yf1:=yA 1;have yf2:=yA 2;have yf3:=yA 3;have yf4:=yA 4;have yf5:=yA 5;have yf6:=yA 6;have yf7:=yA 7;have yf8:=yA 8;have yf9:=yA 9;have yf10:=yA 10;have yf11:=yA 11;have yf12:=yA 12;have yf13:=yA 13;have yf14:=yA 14;have yf15:=yA 15;simp only [List.getD_cons_zero,List.getD_cons_succ]at yf0 yf1 yf2 yf3 yf4 yf5 yf6 yf7 yf8 yf9 yf10 yf11 yf12 yf13 yf14 yf15;(have yN:∀j xs W,16<=j->Y j xs W=True:=fun j xs W hj=>by rw [yA,Kg _ _ _ hj])
 have yP:∀j xs W W',j∈[0,1,3,4,7,8,9,13]->Y j xs W->Y j xs W':=by
   intro j xs W W' hj hy;simp only [List.mem_cons,List.not_mem_nil,or_false]at hj;rcases hj with rfl|rfl|rfl|rfl|rfl|rfl|rfl|rfl
   . rw [yf0]at hy ⊢;exact hy
   . rw [yf1]at hy ⊢;exact hy
   . rw [yf3]at hy ⊢;exact hy
   . rw [yf4]at hy ⊢;exact hy
   . rw [yf7]at hy ⊢;exact hy
   . rw [yf8]at hy ⊢;exact hy
   . rw [yf9]at hy ⊢;exact hy
   rw [yf13]at hy ⊢;exact hy
 have yM:Q0h [[0],[1],[2],[3],[4],[5],[6],[7],[8],[9],[10,6],[11,6],[6],[13],[],[]] Y:=by
   intro j xs xs' W hh hy;by_cases hj:16<=j
   . rw [yN j _ _ hj];trivial
   (have hj':j=0\/j=1\/j=2\/j=3\/j=4\/j=5\/j=6\/j=7\/j=8\/j=9\/j=10\/j=11\/j=12\/j=13\/j=14\/j=15:=by omega);rcases hj' with rfl|rfl|rfl|rfl|rfl|rfl|rfl|rfl|rfl|rfl|rfl|rfl|rfl|rfl|rfl|rfl
   . rw [yf0]at hy ⊢;rw [<-hh 0 (by decide)];exact hy
   . rw [yf1]at hy ⊢;rw [<-hh 1 (by decide)];exact hy
   . rw [yf2]at hy ⊢;rw [<-hh 2 (by decide)];exact hy
   . rw [yf3]at hy ⊢;rw [<-hh 3 (by decide)];exact hy
   . rw [yf4]at hy ⊢;rw [<-hh 4 (by decide)];exact hy
   . rw [yf5]at hy ⊢;rw [<-hh 5 (by decide)];exact hy
   . rw [yf6]at hy ⊢;rw [<-hh 6 (by decide)];exact hy
   . rw [yf7]at hy ⊢;rw [<-hh 7 (by decide)];exact hy
   . rw [yf8]at hy ⊢;rw [<-hh 8 (by decide)];exact hy
   . rw [yf9]at hy ⊢;rw [<-hh 9 (by decide)];exact hy
   . rw [yf10]at hy ⊢;rw [<-hh 10 (by decide),<-hh 6 (by decide)];exact hy
   . rw [yf11]at hy ⊢;rw [<-hh 11 (by decide),<-hh 6 (by decide)];exact hy
   . rw [yf12]at hy ⊢;rw [<-hh 6 (by decide)];exact hy
   . rw [yf13]at hy ⊢;rw [<-hh 13 (by decide)];exact hy
   . rw [yf14]at hy ⊢;exact hy
   rw [yf15]at hy ⊢;exact hy
 clear yA
 have yR:∀j xs,14<=j->Y j xs (w8.drew):=by
   intro j xs hj;rcases(show j=14\/j=15\/16<=j by omega)with rfl|rfl|hj
   . rw [yf14];exact HVB.out.drew
   . rw [yf15];exact(BO.out.fresh F8.out).drew
   rw [yN _ _ _ hj];trivial
 refine JZ Cw (fun j=>if j=2 then [6,10,12]else if j=5 then [6,10,12]else if j=6 then [12]else if j=10 then [12]else if j=14 then [2,5,6,10,12]else if j=15 then [12]else []) Y [(0,some 78),(1,some 79),(2,some 80),(3,some 81),(4,some 82),(5,some 83),(6,some 84),(7,some 85),(8,some 86),(9,some 87),(10,some 88),(11,some 4),(12,none),(13,some 6)] (by kernel_rfl) (by kernel_rfl) (by kernel_rfl) (by rw [cEq];exact(Upd.refl _ _).drew) (fun j hj=>yR j _ hj) ?_ ?_
 . refine Qm.cons [] (by kernel_rfl) (fun xs W hw hd lst hl K hK=>?_) ?_
   . rw [cEq]at hw
     have hK':=hK.out;clear hK;simp only [Qh,Act.put,List.setIfInBounds_toArray,List.set_cons_zero,List.set_cons_succ]at hK' ⊢;go_simp;exact hK' _ _ (by rw [cEq];exact hw) (Qe yM 0 (by kernel_rfl) xs W _) (by rw [yf0];exact if_pos rfl)
   refine Qm.cons [] (by kernel_rfl) (fun xs W hw hd lst hl K hK=>?_) ?_
   . rw [cEq]at hw
     have hK':=hK.out;clear hK;simp only [Qh,Act.put,List.setIfInBounds_toArray,List.set_cons_zero,List.set_cons_succ]at hK' ⊢;go_simp;exact hK' _ _ (by rw [cEq];exact hw) (Qe yM 1 (by kernel_rfl) xs W _) (by rw [yf1];exact if_pos rfl)
   refine Qm.cons [(0,some 78),(1,some 79),(14,none)] (by kernel_rfl) (fun xs W hw hd lst hl K hK=>?_) ?_
   . rw [cEq]at hw
     have hK':=hK.out;clear hK;simp only [QV]at hd;obtain⟨hf0,hf1,hf14,_⟩:=hd;simp only [Qh,Act.put,List.setIfInBounds_toArray,List.set_cons_zero,List.set_cons_succ]at hK' ⊢;rw [yf0]at hf0;rw [yf1]at hf1;rw [yf14]at hf14;simp only [hf0,hf1]at hK' ⊢;have oc8:=HOC8.out W hw;rw [if_pos (by rfl)];refine VY W (.tmp 78) (.tmp 79) _ (by rfl) 5 _ 1 Tryz.underlying26 Ku rfl vb _ (by rfl) hf14 Ac nc cc _ (by rfl) oc8 (Kd HB) (by omega) HLB.out.1 ?_;intro v' W' ho hg ha;have hR:=hg;refine hK' (v') (W') (by rw [cEq];exact hw.grown hg (fun k hk _=>.inr hk)) (Y1 yM 2 (by kernel_rfl) _ fun j hs hy=>?_) (by rw [yf2];(try simp only [↓reduceIte]);try exact⟨by simpa [Q9]using ho,fun b hb=>by rcases ha with ha|ha;rw [ha]at hb;exact .inl hb;rw [ha]at hb;injection hb with hb;have:=hw.size;exact .inr (by omega)⟩);by_cases hp:j∈[0,1,3,4,7,8,9,13]
     . exact yP j _ _ _ hp hy
     by_cases hj:16<=j
     . rw [yN j _ _ hj];trivial
     simp only [List.mem_cons,List.not_mem_nil,or_false]at hp;rcases(show j=2\/j=5\/j=6\/j=10\/j=11\/j=12\/j=14\/j=15 by omega)with rfl|rfl|rfl|rfl|rfl|rfl|rfl|rfl
     . exact(Q8 hs (by kernel_rfl)).elim
     . exact(Q8 hs (by kernel_rfl)).elim
     . exact(Q8 hs (by kernel_rfl)).elim
     . exact(Q8 hs (by kernel_rfl)).elim
     . exact(Q8 hs (by kernel_rfl)).elim
     . exact(Q8 hs (by kernel_rfl)).elim
     . exact(Q8 hs (by kernel_rfl)).elim
     rw [yf15]at hy ⊢;exact hy.grown hR (fun h=>by have:=HVL.out _ h;have:=S3.out;omega)
   refine Qm.cons [] (by kernel_rfl) (fun xs W hw hd lst hl K hK=>?_) ?_
   . rw [cEq]at hw
     have hK':=hK.out;clear hK;simp only [Qh,Act.put,List.setIfInBounds_toArray,List.set_cons_zero,List.set_cons_succ]at hK' ⊢;have cl:=HX.out W hw;obtain⟨z0,z1,z2,z3,z4,z5⟩:=cl;go_simp;exact hK' _ _ (by rw [cEq];exact hw) (Qe yM 3 (by kernel_rfl) xs W _) (by rw [yf3];exact if_pos rfl)
   refine Qm.cons [] (by kernel_rfl) (fun xs W hw hd lst hl K hK=>?_) ?_
   . rw [cEq]at hw
     have hK':=hK.out;clear hK;simp only [Qh,Act.put,List.setIfInBounds_toArray,List.set_cons_zero,List.set_cons_succ]at hK' ⊢;go_simp;exact hK' _ _ (by rw [cEq];exact hw) (Qe yM 4 (by kernel_rfl) xs W _) (by rw [yf4];exact if_pos rfl)
   refine Qm.cons [(3,some 81),(4,some 82)] (by kernel_rfl) (fun xs W hw hd lst hl K hK=>?_) ?_
   . rw [cEq]at hw
     have hK':=hK.out;clear hK;simp only [QV]at hd;obtain⟨hf3,hf4,_⟩:=hd;simp only [Qh,Act.put,List.setIfInBounds_toArray,List.set_cons_zero,List.set_cons_succ]at hK' ⊢;rw [yf3]at hf3;rw [yf4]at hf4;simp only [hf3,hf4]at hK' ⊢;go_simp;refine(HWR.out W hw).mono ?_;rintro e9 w9 ⟨v9,rfl,n9⟩;have hR:=n9.2.1;refine hK' (v9) (w9) (by rw [cEq];exact hw.trans n9.2.1 (fun _ _ h=>h.elim)) (Y1 yM 5 (by kernel_rfl) _ fun j hs hy=>?_) (by rw [yf5];(try simp only [↓reduceIte]);try exact⟨n9.1,fun b hb=>by have:=n9.2.2 b hb;have:=hw.size;omega⟩);by_cases hp:j∈[0,1,3,4,7,8,9,13]
     . exact yP j _ _ _ hp hy
     by_cases hj:16<=j
     . rw [yN j _ _ hj];trivial
     simp only [List.mem_cons,List.not_mem_nil,or_false]at hp;rcases(show j=2\/j=5\/j=6\/j=10\/j=11\/j=12\/j=14\/j=15 by omega)with rfl|rfl|rfl|rfl|rfl|rfl|rfl|rfl
     . rw [yf2]at hy ⊢;exact⟨hy.1.fresh hR,hy.2⟩
     . exact(Q8 hs (by kernel_rfl)).elim
     . exact(Q8 hs (by kernel_rfl)).elim
     . exact(Q8 hs (by kernel_rfl)).elim
     . exact(Q8 hs (by kernel_rfl)).elim
     . exact(Q8 hs (by kernel_rfl)).elim
     . exact(Q8 hs (by kernel_rfl)).elim
     rw [yf15]at hy ⊢;exact hy.fresh hR
   refine Qm.cons [(2,some 80),(5,some 83)] (by kernel_rfl) (fun xs W hw hd lst hl K hK=>?_) ?_
   . rw [cEq]at hw
     have hK':=hK.out;clear hK;simp only [QV]at hd;obtain⟨hf2,hf5,_⟩:=hd;simp only [Qh,Act.put,List.setIfInBounds_toArray,List.set_cons_zero,List.set_cons_succ]at hK' ⊢;rw [yf2]at hf2;rw [yf5]at hf5;obtain⟨o2,k2⟩:=id hf2;obtain⟨o5,k5⟩:=hf5;obtain⟨A5,c5,h5e,hc5,r5⟩:=o5.form;simp only [h5e]at hK' ⊢;rw [if_pos (by rfl)];refine VY W (.tmp 80) (.tmp 83) _ (by rfl) 5 _ 1 Tryz.underlying26 Ku rfl (xs 2) _ (by rfl) o2 A5 _ c5 _ (by rfl) r5 (Kd PB) (by omega) HLB.out.2 ?_;intro v' W' ho hg ha;have hR:=hg;refine hK' (v') (W') (by rw [cEq];exact hw.grown hg (fun k hk hk2=>by have:=k2 k hk;rcases this with h|h;exact .inr h;omega)) (fun j hs hy=>?_) (by rw [yf6];(try simp only [↓reduceIte]);try exact⟨by simpa [Q9]using ho,fun b hb=>by rcases ha with ha|ha;rw [ha]at hb;exact k2 b hb;rw [ha]at hb;injection hb with hb;have:=hw.size;exact .inr (by omega)⟩);by_cases hj:16<=j
     . rw [yN j _ _ hj];trivial
     (have hj':j=0\/j=1\/j=2\/j=3\/j=4\/j=5\/j=6\/j=7\/j=8\/j=9\/j=10\/j=11\/j=12\/j=13\/j=14\/j=15:=by omega);rcases hj' with rfl|rfl|rfl|rfl|rfl|rfl|rfl|rfl|rfl|rfl|rfl|rfl|rfl|rfl|rfl|rfl
     . rw [yf0]at hy ⊢;(try simp only [↓reduceIte,OfNat.ofNat_ne_ofNat,Nat.reduceEqDiff]);exact hy
     . rw [yf1]at hy ⊢;(try simp only [↓reduceIte,OfNat.ofNat_ne_ofNat,Nat.reduceEqDiff]);exact hy
     . exact(Q8 hs (by kernel_rfl)).elim
     . rw [yf3]at hy ⊢;(try simp only [↓reduceIte,OfNat.ofNat_ne_ofNat,Nat.reduceEqDiff]);exact hy
     . rw [yf4]at hy ⊢;(try simp only [↓reduceIte,OfNat.ofNat_ne_ofNat,Nat.reduceEqDiff]);exact hy
     . exact(Q8 hs (by kernel_rfl)).elim
     . exact(Q8 hs (by kernel_rfl)).elim
     . rw [yf7]at hy ⊢;(try simp only [↓reduceIte,OfNat.ofNat_ne_ofNat,Nat.reduceEqDiff]);exact hy
     . rw [yf8]at hy ⊢;(try simp only [↓reduceIte,OfNat.ofNat_ne_ofNat,Nat.reduceEqDiff]);exact hy
     . rw [yf9]at hy ⊢;(try simp only [↓reduceIte,OfNat.ofNat_ne_ofNat,Nat.reduceEqDiff]);exact hy
     . exact(Q8 hs (by kernel_rfl)).elim
     . exact(Q8 hs (by kernel_rfl)).elim
     . exact(Q8 hs (by kernel_rfl)).elim
     . exact(Q8 hs (by kernel_rfl)).elim
     . exact(Q8 hs (by kernel_rfl)).elim
     rw [yf15]at hy ⊢;(try simp only [↓reduceIte,OfNat.ofNat_ne_ofNat,Nat.reduceEqDiff]);exact hy.grown hR (fun h=>by have:=S3.out;rcases hf2.2 _ h with h|h;have:=HVL.out _ h;omega;omega)
   refine Qm.cons [] (by kernel_rfl) (fun xs W hw hd lst hl K hK=>?_) ?_
   . rw [cEq]at hw
     have hK':=hK.out;clear hK;simp only [Qh,Act.put,List.setIfInBounds_toArray,List.set_cons_zero,List.set_cons_succ]at hK' ⊢;have cl:=HCX.out W hw;obtain⟨z0,z1,z2,z3,z4,z5,z6,z7,z8,z9⟩:=cl;go_simp;exact hK' _ _ (by rw [cEq];exact hw) (Qe yM 7 (by kernel_rfl) xs W _) (by rw [yf7];exact if_pos rfl)
   refine Qm.cons [] (by kernel_rfl) (fun xs W hw hd lst hl K hK=>?_) ?_
   . rw [cEq]at hw
     have hK':=hK.out;clear hK;simp only [Qh,Act.put,List.setIfInBounds_toArray,List.set_cons_zero,List.set_cons_succ]at hK' ⊢;have cl:=HT6.out W hw;obtain⟨z0,z1,z2,z3,z4,z5⟩:=cl;go_simp;exact hK' _ _ (by rw [cEq];exact hw) (Qe yM 8 (by kernel_rfl) xs W _) (by rw [yf8];exact if_pos rfl)
   refine Qm.cons [] (by kernel_rfl) (fun xs W hw hd lst hl K hK=>?_) ?_
   . rw [cEq]at hw
     have hK':=hK.out;clear hK;simp only [Qh,Act.put,List.setIfInBounds_toArray,List.set_cons_zero,List.set_cons_succ]at hK' ⊢;have cl:=HAT.out W hw;obtain⟨z0,z1,z2⟩:=cl;go_simp;exact hK' _ _ (by rw [cEq];exact hw) (Qe yM 9 (by kernel_rfl) xs W _) (by rw [yf9];exact if_pos rfl)
   refine Qm.cons [(7,some 85),(8,some 86),(9,some 87),(6,some 84)] (by kernel_rfl) (fun xs W hw hd lst hl K hK=>?_) ?_
   . rw [cEq]at hw
     have hK':=hK.out;clear hK;simp only [QV]at hd;obtain⟨hf7,hf8,hf9,hf6,_⟩:=hd;simp only [Qh,Act.put,List.setIfInBounds_toArray,List.set_cons_zero,List.set_cons_succ]at hK' ⊢;rw [yf7]at hf7;rw [yf8]at hf8;rw [yf9]at hf9;rw [yf6]at hf6;simp only [hf7,hf8,hf9]at hK' ⊢;go_simp;refine(HBE.out W hw).mono ?_;rintro e9 w9 ⟨D2,i2,A2,c2,B2,d2,C2,e2,rfl,t1,t2,t3,t4,f9⟩;have hsz:=hw.size;have hR:=f9;refine hK' (_) (w9) (by rw [cEq];exact hw.trans f9 (fun _ _ h=>h.elim)) (Y1 yM 10 (by kernel_rfl) _ fun j hs hy=>?_) (by rw [yf10];(try simp only [↓reduceIte]);try exact⟨D2,i2,A2,c2,B2,d2,C2,e2,rfl,t1.mono (fun b hb=>⟨by omega,fun hb2=>by have:=hf6.1.lt hb2;omega⟩),t2.mono (fun b hb=>⟨by omega,fun hb2=>by have:=hf6.1.lt hb2;omega⟩),t3.mono (fun b hb=>⟨by omega,fun hb2=>by have:=hf6.1.lt hb2;omega⟩),t4.mono (fun b hb=>⟨by omega,fun hb2=>by have:=hf6.1.lt hb2;omega⟩)⟩);by_cases hp:j∈[0,1,3,4,7,8,9,13]
     . exact yP j _ _ _ hp hy
     by_cases hj:16<=j
     . rw [yN j _ _ hj];trivial
     simp only [List.mem_cons,List.not_mem_nil,or_false]at hp;rcases(show j=2\/j=5\/j=6\/j=10\/j=11\/j=12\/j=14\/j=15 by omega)with rfl|rfl|rfl|rfl|rfl|rfl|rfl|rfl
     . exact(Q8 hs (by kernel_rfl)).elim
     . exact(Q8 hs (by kernel_rfl)).elim
     . rw [yf6]at hy ⊢;exact⟨hy.1.fresh hR,hy.2⟩
     . exact(Q8 hs (by kernel_rfl)).elim
     . exact(Q8 hs (by kernel_rfl)).elim
     . exact(Q8 hs (by kernel_rfl)).elim
     . exact(Q8 hs (by kernel_rfl)).elim
     rw [yf15]at hy ⊢;exact hy.fresh hR
   refine Qm.cons [(6,some 84)] (by kernel_rfl) (fun xs W hw hd lst hl K hK=>?_) ?_
   . rw [cEq]at hw
     have hK':=hK.out;clear hK;simp only [QV]at hd;obtain⟨hf6,_⟩:=hd;simp only [Qh,Act.put,List.setIfInBounds_toArray,List.set_cons_zero,List.set_cons_succ]at hK' ⊢;rw [yf6]at hf6;go_simp;exact hK' _ _ (by rw [cEq];exact hw) (Qe yM 11 (by kernel_rfl) xs W _) (by rw [yf11];(try simp only [↓reduceIte,OfNat.ofNat_ne_ofNat,Nat.reduceEqDiff]);exact⟨rfl,hf6⟩)
   refine Qm.cons [(10,some 88),(15,none)] (by kernel_rfl) (fun xs W hw hd lst hl K hK=>?_) ?_
   . rw [cEq]at hw
     have hK':=hK.out;clear hK;simp only [QV]at hd;obtain⟨hf10,hf15,_⟩:=hd;simp only [Qh,Act.put,List.setIfInBounds_toArray,List.set_cons_zero,List.set_cons_succ]at hK' ⊢;rw [yf10]at hf10;rw [yf15]at hf15;obtain⟨D2,i2,A2,c2,B2,d2,C2,e2,h10e,t1,t2,t3,t4⟩:=hf10;simp only [h10e]at hK' ⊢;have o5:=hf15;have x0:=o5.cell 0;have x1:=o5.cell 1;have x2:=o5.cell 2;have x3:=o5.cell 3;have x4:=o5.cell 4;have x5:=o5.cell 5;have x6:=o5.cell 6;have x7:=o5.cell 7;have x8:=o5.cell 8;have x9:=o5.cell 9;obtain⟨z0,z1,z2,z3,z4,z5,z6,z7,z8,z9⟩:=(o5).frozens10;simp at x0 x1 x2 x3 x4 x5 x6 x7 x8 x9;have hO:=o5.set10 (.slice D2 h i2) (.int .i64 NT.lL) (.slice A2 n1 c2) (.int .i64 NT.lO) (.slice B2 m1 d2) (.int .i64 NT.lM) (.slice C2 k1 e2) (.int .i64 q0) (.int .i64 q1) (.int .i64 q2);have us:=JN W (H+1) (.slice D2 h i2) (.int .i64 NT.lL) (.slice A2 n1 c2) (.int .i64 NT.lO) (.slice B2 m1 d2) (.int .i64 NT.lM) (.slice C2 k1 e2) (.int .i64 q0) (.int .i64 q1) (.int .i64 q2);have hs3:=S3.out;have HO:=hd_ hO;have US:=hd_ us;clear o5 hO us;go_simp;have hR:=US.out;refine hK' (undef) (_) (by rw [cEq];exact hw.trans US.out (fun b _ h=>.inl h)) (Y1 yM 12 (by kernel_rfl) _ fun j hs hy=>?_) (by rw [yf12];(try simp only [↓reduceIte]);try exact⟨D2,i2,A2,c2,B2,d2,C2,e2,HO.out,t1.upd US.out (fun b _ h h2=>by omega),t2.upd US.out (fun b _ h h2=>by omega),t3.upd US.out (fun b _ h h2=>by omega),t4.upd US.out (fun b _ h h2=>by omega)⟩);by_cases hp:j∈[0,1,3,4,7,8,9,13]
     . exact yP j _ _ _ hp hy
     by_cases hj:16<=j
     . rw [yN j _ _ hj];trivial
     simp only [List.mem_cons,List.not_mem_nil,or_false]at hp;rcases(show j=2\/j=5\/j=6\/j=10\/j=11\/j=12\/j=14\/j=15 by omega)with rfl|rfl|rfl|rfl|rfl|rfl|rfl|rfl
     . exact(Q8 hs (by kernel_rfl)).elim
     . exact(Q8 hs (by kernel_rfl)).elim
     . exact(Q8 hs (by kernel_rfl)).elim
     . exact(Q8 hs (by kernel_rfl)).elim
     . rw [yf11]at hy ⊢;exact⟨hy.1,hy.2.1.upd hR (fun b hb hbe=>by have:=S3.out;rcases hy.2.2 b hb with h|h;have:=HVL.out b h;omega;omega),hy.2.2⟩
     . exact(Q8 hs (by kernel_rfl)).elim
     . exact(Q8 hs (by kernel_rfl)).elim
     exact(Q8 hs (by kernel_rfl)).elim
   refine Qm.cons [] (by kernel_rfl) (fun xs W hw hd lst hl K hK=>?_) ?_
   . rw [cEq]at hw
     have hK':=hK.out;clear hK;simp only [Qh,Act.put,List.setIfInBounds_toArray,List.set_cons_zero,List.set_cons_succ]at hK' ⊢;go_simp;exact hK' _ _ (by rw [cEq];exact hw) (Qe yM 13 (by kernel_rfl) xs W _) (by rw [yf13];exact if_pos rfl)
   exact Qm.nil
 intro xs W hw hd;rw [cEq]at hw;simp only [KL]at hd;obtain⟨fe0,fe1,fe2,fe3,fe4,fe5,fe6,fe7,fe8,fe9,fe10,fe11,fe12,fe13,_⟩:=hd;have fe0:=fe0 (by kernel_rfl);rw [yf0]at fe0;have fe1:=fe1 (by kernel_rfl);rw [yf1]at fe1;have fe3:=fe3 (by kernel_rfl);rw [yf3]at fe3;have fe4:=fe4 (by kernel_rfl);rw [yf4]at fe4;have fe7:=fe7 (by kernel_rfl);rw [yf7]at fe7;have fe8:=fe8 (by kernel_rfl);rw [yf8]at fe8;have fe9:=fe9 (by kernel_rfl);rw [yf9]at fe9;have fe11:=fe11 (by kernel_rfl);rw [yf11]at fe11;have fe12:=fe12 (by kernel_rfl);rw [yf12]at fe12;have fe13:=fe13 (by kernel_rfl);rw [yf13]at fe13;clear fe2 fe5 fe6 fe10;simp only [Qh,Act.put,List.setIfInBounds_toArray,List.set_cons_zero,List.set_cons_succ];generalize xs 0=xv0 at *;generalize xs 1=xv1 at *;generalize xs 2=xv2 at *;generalize xs 3=xv3 at *;generalize xs 4=xv4 at *;generalize xs 5=xv5 at *;generalize xs 6=xv6 at *;generalize xs 7=xv7 at *;generalize xs 8=xv8 at *;generalize xs 9=xv9 at *;generalize xs 10=xv10 at *;generalize xs 11=xv11 at *;generalize xs 12=xv12 at *;generalize xs 13=xv13 at *;subst fe0;subst fe1;subst fe3;subst fe4;subst fe7;subst fe8;subst fe9;subst fe13;clear yf0 yf1 yf2 yf3 yf4 yf5 yf6 yf7 yf8 yf9 yf10 yf11 yf12 yf13 yf14 yf15 yN yR yM yP cEq;obtain⟨D2,i2,A2,c2,B2,d2,C2,e2,hbk,t1,t2,t3,t4⟩:=fe12;obtain⟨he6,ow,hob⟩:=fe11;subst he6;obtain⟨d0,d1,d2_,d3,d4,d5,d6,d7,d8,d9⟩:=(hbk).cells10;have HOW:=hd_ ow;have HOB:=hd_ hob;have HWC:=hd_ hw;have HTS:=hd_ (And.intro t1 (And.intro t2 (And.intro t3 t4)));clear hbk ow hob hw t1 t2 t3 t4;go_wp2_with fail;refine bodyPost_ret (v:=.tuple #[xv11,.agg #[.slice D2 h i2,.int .i64 NT.lL,.slice A2 n1 c2,.int .i64 NT.lO,.slice B2 m1 d2,.int .i64 NT.lM,.slice C2 k1 e2,.int .i64 q0,.int .i64 q1,.int .i64 q2],.int .i64 0]) (by simp [results,Tryz.results24,go_sem,d0,d1,d2_,d3,d4,d5,d6,d7,d8,d9]) rfl ?_;have hs0:=F0.out.size;have hs8:=F8.out.size;have hs1:=HH.out;have hs2:=S1.out;have hs3:=S2.out;have hs4:=F3.out.size;refine hR.out _ _ ⟨(F0.out.trans' F8.out).trans HWC.out (fun b hb h=>by rcases h with h|h;omega;have:=HVL.out b h;omega),?_⟩;rw [HE.out,HEB.out,<-HQ.out];refine(if_pos rfl).mpr ⟨xv11,D2,h,i2,A2,n1,c2,B2,m1,d2,C2,k1,e2,rfl,HOW.out,fun b hb=>?_,HTS.out.1.mono fun b hb=>?_,HTS.out.2.1.mono fun b hb=>?_,HTS.out.2.2.1.mono fun b hb=>?_,HTS.out.2.2.2.mono fun b hb=>?_⟩
 . rcases HOB.out b hb with h|h
   . have:=HVL.out b h;omega
   omega
 (all_goals exact⟨by omega,hb.2⟩)
end Go.Proofs.YtjfdaphjijfieaaGreat
namespace Go.Proofs.YtjfdaphjijfieaaGreat
open Go.RowKit
theorem Q1B (FL G:Nat->Prop) (D A B C L:Option Addr) (h i n c m d k e nl dl:Nat) (T:Qa) (Tr:List Int) (r0 r1 r2:Int) (l:List (Int × Int × Int)) (w:World)
   (hL:RdK w FL 3 L nl (l.map tri)) (hfit:∀s∈l,-(2^63)<=s.2.1/\s.2.1<2^63) (hnl:nl<128)
   (h0:Rd w G D h (Q2 Tr)) (h1:Rd w G A n (Q2 T.NL)) (h2:Rd w G B m (Q2 T.NO)) (h3:Rd w G C k (Q2 T.NM)) (f1:Fit T.NL) (f2:Fit T.NO) (f3:Fit T.NM) (b0:h<=2^40) (b1:n<=2^40) (b2:m<=2^40) (b3:k<=2^40) :
   Calls Tryz.prog 24 #[.agg #[.slice D h i,.int .i64 T.lL,.slice A n c,.int .i64 T.lO,.slice B m d,.int .i64 T.lM,.slice C k e,.int .i64 r0,.int .i64 r1,.int .i64 r2],.slice L nl dl] w (Z8 (Y8 T r0 r1 r2 l) Tr w):=by
 (have hln:l.length=nl:=by have:=hL.1;simpa using this);by_cases hr:Qz r0 r1 r2=true
 . by_cases hm:∀s∈l,J4 s
   . by_cases hne:l=[]
     . subst hne
       (have h9:nl=0:=by rw [<-hln];rfl);subst h9;exact Q9J FL G D A B C L h i n c m d k e dl T Tr r0 r1 r2 w hr hL h0 h1 h2 h3 b0 b1 b2 b3
     exact Qa6 FL G D A B C L h i n c m d k e nl dl T Tr r0 r1 r2 l w hr hL hne hnl hm h0 h1 h2 h3 f1 f2 f3 b0 b1 b2 b3
   exact Q9I FL D A B C L h i n c m d k e nl dl T Tr r0 r1 r2 l w hr hL hfit (by omega) hm
 exact Q4G D A B C L h i n c m d k e nl dl T Tr r0 r1 r2 l w (by simpa using hr)
theorem Q76 (FL G:Nat->Prop) (D A B C L:Option Addr) (h i n c m d k e nl dl:Nat) (T:Qa) (Tr:List Int) (r0 r1 r2:Int) (l:List (Int × Int × Int)) (w:World)
   (hL:RdK w FL 3 L nl (l.map tri)) (hfit:∀s∈l,-(2^63)<=s.2.1/\s.2.1<2^63) (hnl:nl<128)
   (h0:Rd w G D h (Q2 Tr)) (h1:Rd w G A n (Q2 T.NL)) (h2:Rd w G B m (Q2 T.NO)) (h3:Rd w G C k (Q2 T.NM)) (f1:Fit T.NL) (f2:Fit T.NO) (f3:Fit T.NM) (b0:h<=2^40) (b1:n<=2^40) (b2:m<=2^40) (b3:k<=2^40) :
   Calls Tryz.prog 24 #[.agg #[.slice D h i,.int .i64 T.lL,.slice A n c,.int .i64 T.lO,.slice B m d,.int .i64 T.lM,.slice C k e,.int .i64 r0,.int .i64 r1,.int .i64 r2],.slice L nl dl] w (Q4F (Y8 T r0 r1 r2 l) Tr w) :=
 (Q1B FL G D A B C L h i n c m d k e nl dl T Tr r0 r1 r2 l w hL hfit hnl h0 h1 h2 h3 f1 f2 f3 b0 b1 b2 b3).mono fun _ _ h=>h.weak
theorem Q0i {T:Qa} {a b c:Int} {l:List (Int × Int × Int)} (h:(Y8 T a b c l).1=0):Qz a b c=true/\(∀s∈l,J4 s)/\l.length<=65536:=by
 unfold Y8 at h;by_cases h1:Qz a b c=false
 . rw [if_pos h1]at h;simp at h
 rw [if_neg h1]at h;by_cases h2:65536<l.length
 . rw [if_pos h2]at h;simp at h
 rw [if_neg h2]at h;by_cases h3:∀s∈l,J4 s
 . exact⟨by simpa using h1,h3,by omega⟩
 rw [if_pos h3]at h;simp at h
theorem XC {T:Qa} {a b c:Int} (h:Qz a b c=true):Y8 T a b c []=(0,[0],T,a,b,c):=by
 unfold Y8;rw [if_neg (by rw [h];simp),if_neg (by simp),if_neg (by simp),if_pos rfl]
theorem Q0r {T:Qa} {a b c:Int} {l:List (Int × Int × Int)} (h:Qz a b c=true) (hm:∀s∈l,J4 s) (hl:l.length<=65536) (hne:l≠[]):Y8 T a b c l=(0,Ka T a b c l,Yd T (Qr a b c l),JF a b c l):=by
 unfold Y8;rw [if_neg (by rw [h];simp),if_neg (by omega),if_neg (by simpa using hm),if_neg hne]
theorem Q8O {T:Qa} {a b c:Int} {l:List (Int × Int × Int)} (h:Qz a b c=true) (hm:∀s∈l,J4 s) (hl:l.length<=65536):(Y8 T a b c l).1=0:=by
 by_cases hne:l=[]
 . subst hne;rw [XC h]
 rw [Q0r h hm hl hne]
theorem Q8P {T:Qa} {a b c:Int} {l:List (Int × Int × Int)} (h:Qz a b c=true) (hl:l.length<=65536):(Y8 T a b c l).1=0\/((Y8 T a b c l).1=2/\¬ ∀s∈l,J4 s):=by
 by_cases hm:∀s∈l,J4 s
 . exact .inl (Q8O h hm hl)
 exact .inr ⟨by unfold Y8;rw [if_neg (by rw [h];simp),if_neg (by omega),if_pos hm],hm⟩
theorem Q9L {T:Qa} {a b c:Int} {l:List (Int × Int × Int)} (hl:l.length<128) (h:(Y8 T a b c l).1=0) :
   Ys (Y8 T a b c l).2.1 0 T a b c=⟨0,l,(Y8 T a b c l).2.2.1,(Y8 T a b c l).2.2.2.1,(Y8 T a b c l).2.2.2.2.1,(Y8 T a b c l).2.2.2.2.2,(Y8 T a b c l).2.1.length⟩:=by
 obtain⟨hr,hm,hl2⟩:=Q0i h;by_cases hne:l=[]
 . subst hne
   rw [XC hr];(have h1:QH ([0].drop 0)=(0,1,0):=by decide +kernel);rw [Q2r hr (by rw [h1]) (by rw [h1]),h1];simp
 rw [Q0r hr hm hl2 hne];exact Q8J hr hm hl hne
theorem Q5P {T:Qa} {a b c:Int} {l:List (Int × Int × Int)} (hl:l.length<128) (h:(Y8 T a b c l).1=0) :
   (∀x∈(Y8 T a b c l).2.1,x<256)/\1<=(Y8 T a b c l).2.1.length/\(Y8 T a b c l).2.1.length<=10000/\(l≠[]->2<=(Y8 T a b c l).2.1.length):=by
 obtain⟨hr,hm,hl2⟩:=Q0i h;by_cases hne:l=[]
 . subst hne
   rw [XC hr];simp
 rw [Q0r hr hm hl2 hne];have hok:∀x∈Qr a b c l,x.ok:=X1 hm;have hRl:(Qr a b c l).length=l.length:=Vr _ _ _ _;(have hRn:Qr a b c l≠[]:=by intro hx;rw [hx]at hRl;simp at hRl;exact hne (List.eq_nil_of_length_eq_zero hRl.symm));obtain⟨k1,k2⟩:=Q1V (T:=T) (l:=Qr a b c l) (by omega) hRn hok;have h5:=Q4I k1 (fun x hx=>And.intro (hok x hx) (k2 x hx));have h6:=Q2t T (Qr a b c l);obtain⟨_,⟨m0a,m0b⟩,_⟩:=YP (T:=T) (l:=Qr a b c l) (by omega) hRn hok 0 (by omega);obtain⟨_,⟨m1a,m1b⟩,_⟩:=YP (T:=T) (l:=Qr a b c l) (by omega) hRn hok 1 (by omega);obtain⟨_,⟨m2a,m2b⟩,_⟩:=YP (T:=T) (l:=Qr a b c l) (by omega) hRn hok 2 (by omega);refine⟨fun x hx=>?_,by simp [Ka],?_,fun _=>by simp [Ka,Yj]⟩
 . unfold Ka at hx
   rcases List.mem_cons.1 hx with rfl|hx
   . omega
   rcases List.mem_append.1 hx with hx|hx
   . unfold Yj at hx
     rcases List.mem_cons.1 hx with rfl|hx
     . have:=Q0p (T:=T) (l:=Qr a b c l) (fun j hj=>by
         (have h3:j=0\/j=1\/j=2:=by omega);rcases h3 with rfl|rfl|rfl
         . exact⟨m0a,m0b⟩
         . exact⟨m1a,m1b⟩
         exact⟨m2a,m2b⟩) 3 (by omega)
       omega
     simp only [Ye,show(0:Nat)<3 from by omega,show(1:Nat)<3 from by omega,show(2:Nat)<3 from by omega,if_true]at hx;rcases List.mem_append.1 hx with hx|hx
     . rcases List.mem_append.1 hx with hx|hx
       . exact XW x hx
       exact XW x hx
     exact XW x hx
   exact Q0T _ x hx
 simp only [Ka,List.length_cons,List.length_append,Zm,List.length_nil];omega
theorem Q77 {T:Qa} {a b c:Int} {l:List (Int × Int × Int)} (h:(Y8 T a b c l).1=0) (f1:Fit T.NL) (f2:Fit T.NO) (f3:Fit T.NM) (b1:T.NL.length<=1000) (b2:T.NO.length<=1000) (b3:T.NM.length<=1000) :
   Fit (Y8 T a b c l).2.2.1.NL/\Fit (Y8 T a b c l).2.2.1.NO/\Fit (Y8 T a b c l).2.2.1.NM/\(Y8 T a b c l).2.2.1.NL.length<=1000/\(Y8 T a b c l).2.2.1.NO.length<=1000/\(Y8 T a b c l).2.2.1.NM.length<=1000 /\
     Qz (Y8 T a b c l).2.2.2.1 (Y8 T a b c l).2.2.2.2.1 (Y8 T a b c l).2.2.2.2.2=true:=by
 obtain⟨hr,hm,hl2⟩:=Q0i h;by_cases hne:l=[]
 . subst hne
   rw [XC hr];exact⟨f1,f2,f3,b1,b2,b3,hr⟩
 rw [Q0r hr hm hl2 hne];have hok:∀x∈Qr a b c l,x.ok:=X1 hm;have hRl:(Qr a b c l).length=l.length:=Vr _ _ _ _;(have hRn:Qr a b c l≠[]:=by intro hx;rw [hx]at hRl;simp at hRl;exact hne (List.eq_nil_of_length_eq_zero hRl.symm));have p0:=(YP (T:=T) (l:=Qr a b c l) (by omega) hRn hok 0 (by omega)).2.2.2.2.2;have p1:=(YP (T:=T) (l:=Qr a b c l) (by omega) hRn hok 1 (by omega)).2.2.2.2.2;have p2:=(YP (T:=T) (l:=Qr a b c l) (by omega) hRn hok 2 (by omega)).2.2.2.2.2;exact⟨p0.1,p1.1,p2.1,p0.2,p1.2,p2.2,Q4u hr hm⟩
end Go.Proofs.YtjfdaphjijfieaaGreat
