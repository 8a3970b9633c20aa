/-
  Joined texts, part 36: contracts and plain lemmas.
  Conditions: none beyond those of each theorem.
-/
import Derived.Test.YtjfdaphjijfieaaGreatL35
import Derived.Test.YtjfdaphjijfieaaGreatL34
set_option maxHeartbeats 40000000
set_option linter.unusedVariables false
set_option linter.unusedSimpArgs false
set_option maxRecDepth 100000
universe u
namespace Go.Proofs.YtjfdaphjijfieaaGreat
open Go.RowKit
theorem Q2p (F G:Nat->Prop) (g k:Nat) (bs:List Nat) (s:Nat × Int) (cg p st:Nat) (N:List Int) (w:World) (h:Jk w F g k bs s) (hgk:g≠k) (hFk:∀b,F b->b≠k) (hFg:∀b,F b->b≠g)
   (hc:Qv w G cg p N) (hv:Qc p N 44 9) (hs:st<2^p) :
   Calls Tryz.prog 94 #[.pointer (some ⟨g,0,none⟩),.agg #[.pointer (some ⟨cg,0,none⟩),.int .i64 (st:Nat)],
     .agg #[.func (.func 112) #[] #[],.func (.func 113) #[] #[],.func (.func 114) #[] #[]]] w fun e w' =>
     e = .returned (.int .i64 ((Je (Qu bs) false p N st s).1:Nat))/\Upd (fun b=>b=g\/b=k) w w'/\Jk w' F g k bs (Je (Qu bs) false p N st s).2:=by
 have hw256:Qc p N 256 9:=by
   obtain⟨a1,a2,a3,a4,a5,a6⟩:=hv;exact⟨a1,a2,a3,a4,by omega,a6⟩
 obtain⟨c1,c2,c3,c4,c5,c6⟩:=KR hw256 hs;have hN:(N.length:Int)<=44:=hv.2.2.2.2.1;(have hsy:QL p N st<44:=by omega);obtain⟨w0,hw0⟩:=nm_ ((w.alloc (.cells #[.pointer (some ⟨cg,0,none⟩),.int .i64 (st:Nat)] 95)).alloc (.cells #[.func (.func 112) #[] #[],.func (.func 113) #[] #[],.func (.func 114) #[] #[]] 148));obtain⟨H,hH⟩:=nm_ (w.heap.size);(have f0:Q0 w w0:=by rw [hw0];exact((Upd.refl _ _).alloc _).alloc _);(have k0:Blk w0 H 95 #[.pointer (some ⟨cg,0,none⟩),.int .i64 (st:Nat)]:=by rw [hw0];exact(Q1 hH _ _).alloc _);(have k1:Blk w0 (H+1) 148 #[.func (.func 112) #[] #[],.func (.func 113) #[] #[],.func (.func 114) #[] #[]]:=by rw [hw0];exact Q1 (by simp [hH]) _ _);have HCE:=hd_ (Xs G cg p st N w0 (hc.fresh f0) hs);have HSY:=hd_ c1;have hgl:=h.1.lt;have hkl:=h.2.lt
 have hbt:exB false (QL p N st)<=27:=by
   unfold exB Y4;simp only [Bool.false_eq_true,if_false];(try split);(all_goals omega)
 have HTK:=hd_ (fun W (f:Q0 w W)=>Vz F g k bs s (exB false (QL p N st)) W (h.fresh f) (by omega) hgk hFk hFg);have htl:(QF (Qu bs) s (exB false (QL p N st))).1<2^exB false (QL p N st):=JA _ _ _;have HBI:Hid (∀W,Calls Tryz.prog 113 #[.int .i64 (QL p N st:Nat)] W fun e w'=>e = .returned (.tuple #[.int .i64 (exB false (QL p N st):Nat),.int .i64 0])/\Q0 W w'):=fun W=>Z9 (QL p N st) W hsy;have HJO:Hid (∀W,Calls Tryz.prog 114 #[.int .i64 (QL p N st:Nat),.int .u64 ((QF (Qu bs) s (exB false (QL p N st))).1:Nat)] W fun e w'=>e = .returned (.tuple #[.int .i64 (Je (Qu bs) false p N st s).1,.int .i64 0])/\Q0 W w'):=fun W=>Q7f (QL p N st) _ W hsy htl;have e2:(Je (Qu bs) false p N st s).2=(QF (Qu bs) s (exB false (QL p N st))).2:=rfl;rw [e2];have e3:(Yy p N (Q7 p N) st).1=(QL p N st:Nat):=c1;rw [e3]at HCE;generalize (Yy p N (Q7 p N) st).2.1=y1 at *;generalize (Yy p N (Q7 p N) st).2.2=y2 at *;generalize ((Je (Qu bs) false p N st s).1:Nat)=val at *;generalize QF (Qu bs) s (exB false (QL p N st))=tk at *;generalize exB false (QL p N st)=ex at *;generalize QL p N st=sy at *;obtain⟨d0,d1⟩:=(k0).cells2;have K1:=hd_ k1;have F0:=hd_ f0;have HW:=hd_ hw0;have HH:=hd_ hH;clear h hc hv hw256 c1 c2 c3 c4 c5 c6 hN hsy htl e2 e3 hw0 hH f0 k0 k1 hs hFk hFg;refine Q6 fun R hR=>?_;go_enter Tryz.func94,Tryz.ntmps94;go_upto_region 1 with fail;simp only [<-HH.out,<-HW.out];go_wp2_with fail;refine HCE.out.mono ?_;rintro e w1 ⟨rfl,f1⟩;have F1:=hd_ (F0.out.trans' f1);have k2:=K1.out.fresh f1;clear d0 d1 f1;go_upto_region 2 with fail;obtain⟨K,hK⟩:=nm_ (w1.heap.size);obtain⟨w2,hw2⟩:=nm_ (w1.alloc (.cells #[.int .i64 (sy:Nat),.int .i64 y1,.int .i64 y2] 217));simp only [<-hK,<-hw2];(have f2:Q0 w1 w2:=by rw [hw2];exact(Upd.refl _ _).alloc _);have k3:=k2.fresh f2;(have q3:Blk w2 K 217 #[.int .i64 (sy:Nat),.int .i64 y1,.int .i64 y2]:=by rw [hw2];exact Q1 hK _ _);have F2:=hd_ (F1.out.trans' f2);have d1:=k3.cell 1;have d2:=q3.cell 0;simp at d1 d2;have K3:=hd_ k3;have Q3:=hd_ q3;have HK:=hd_ hK;clear hw2 f2 k2 k3 q3 hK;go_wp2_with fail;refine(HBI.out _).mono ?_;rintro e w3 ⟨rfl,f3⟩;have k4:=K3.out.fresh f3;have q4:=Q3.out.fresh f3;have F3:=hd_ (F2.out.trans' f3);have d1':=k4.cell 2;have d2':=q4.cell 0;simp at d1' d2';have K4:=hd_ k4;have Q4:=hd_ q4;have HKS:=hd_ (show H+1≠g/\H+1≠k by have:=HH.out;omega);have HQS:=hd_ (show K≠g/\K≠k by have:=F1.out.size;have:=HK.out;omega);clear f3 k4 q4 d1 d2
 have HSS:Hid (∀W,Upd (fun b=>b=g\/b=k) w3 W->W.cell? ⟨H+1,2,none⟩=some (.func (.func 114) #[] #[])/\W.cell? ⟨K,0,none⟩=some (.int .i64 (sy:Nat))):=fun W u =>
   ⟨by simpa using(K4.out.upd u (by have:=HKS.out;rintro(h|h);exact this.1 h;exact this.2 h)).cell 2,by simpa using(Q4.out.upd u (by have:=HQS.out;rintro(h|h);exact this.1 h;exact this.2 h)).cell 0⟩
 go_wp2_with fail
 go_region_held3 (fun W=>W.cell? ⟨H+1,2,none⟩=some (.func (.func 114) #[] #[])/\W.cell? ⟨K,0,none⟩=some (.int .i64 (sy:Nat)))
   (first|exact⟨d1',d2'⟩|exact HSS.out _ ux|exact HSS.out _ uy)
   (first
     | (go_at_call 93;refine(HTK.out _ F3.out.drew).mono ?_;rintro e w4 ⟨rfl,u4,s4⟩;have ux:Upd (fun b=>b=g\/b=k) w3 w4:=Upd.trans' ((Upd.refl _ _).drew) u4)
     | (go_at_call 114;refine(HJO.out _).mono ?_;rintro e w5 ⟨rfl,f5⟩;have uy:Upd (fun b=>b=g\/b=k) w3 w5:=ux.trans f5 (fun _ _ h=>h.elim)))
 (all_goals go_wp2_with fail);(all_goals try go_ret);(all_goals exact hR.out _ _ ⟨rfl,(F3.out.mono (T:=fun b=>b=g\/b=k) fun _ _ h=>h.elim).trans' uy,s4.fresh f5⟩)
theorem Q6U (F G:Nat->Prop) (g k:Nat) (bs:List Nat) (s:Nat × Int) (cg p st:Nat) (N:List Int) (w:World) (h:Jk w F g k bs s) (hgk:g≠k) (hFk:∀b,F b->b≠k) (hFg:∀b,F b->b≠g)
   (hc:Qv w G cg p N) (hv:Qc p N 28 9) (hs:st<2^p) :
   Calls Tryz.prog 94 #[.pointer (some ⟨g,0,none⟩),.agg #[.pointer (some ⟨cg,0,none⟩),.int .i64 (st:Nat)],
     .agg #[.func (.func 115) #[] #[],.func (.func 116) #[] #[],.func (.func 117) #[] #[]]] w fun e w' =>
     e = .returned (.int .i64 ((Je (Qu bs) true p N st s).1:Nat))/\Upd (fun b=>b=g\/b=k) w w'/\Jk w' F g k bs (Je (Qu bs) true p N st s).2:=by
 have hw256:Qc p N 256 9:=by
   obtain⟨a1,a2,a3,a4,a5,a6⟩:=hv;exact⟨a1,a2,a3,a4,by omega,a6⟩
 obtain⟨c1,c2,c3,c4,c5,c6⟩:=KR hw256 hs;have hN:(N.length:Int)<=28:=hv.2.2.2.2.1;(have hsy:QL p N st<28:=by omega);obtain⟨w0,hw0⟩:=nm_ ((w.alloc (.cells #[.pointer (some ⟨cg,0,none⟩),.int .i64 (st:Nat)] 95)).alloc (.cells #[.func (.func 115) #[] #[],.func (.func 116) #[] #[],.func (.func 117) #[] #[]] 148));obtain⟨H,hH⟩:=nm_ (w.heap.size);(have f0:Q0 w w0:=by rw [hw0];exact((Upd.refl _ _).alloc _).alloc _);(have k0:Blk w0 H 95 #[.pointer (some ⟨cg,0,none⟩),.int .i64 (st:Nat)]:=by rw [hw0];exact(Q1 hH _ _).alloc _);(have k1:Blk w0 (H+1) 148 #[.func (.func 115) #[] #[],.func (.func 116) #[] #[],.func (.func 117) #[] #[]]:=by rw [hw0];exact Q1 (by simp [hH]) _ _);have HCE:=hd_ (Xs G cg p st N w0 (hc.fresh f0) hs);have HSY:=hd_ c1;have hgl:=h.1.lt;have hkl:=h.2.lt
 have hbt:exB true (QL p N st)<=27:=by
   unfold exB Y4;simp only [if_true];(try split);(all_goals omega)
 have HTK:=hd_ (fun W (f:Q0 w W)=>Vz F g k bs s (exB true (QL p N st)) W (h.fresh f) (by omega) hgk hFk hFg);have htl:(QF (Qu bs) s (exB true (QL p N st))).1<2^exB true (QL p N st):=JA _ _ _;have HBI:Hid (∀W,Calls Tryz.prog 116 #[.int .i64 (QL p N st:Nat)] W fun e w'=>e = .returned (.tuple #[.int .i64 (exB true (QL p N st):Nat),.int .i64 0])/\Q0 W w'):=fun W=>Kz (QL p N st) W hsy;have HJO:Hid (∀W,Calls Tryz.prog 117 #[.int .i64 (QL p N st:Nat),.int .u64 ((QF (Qu bs) s (exB true (QL p N st))).1:Nat)] W fun e w'=>e = .returned (.tuple #[.int .i64 (Je (Qu bs) true p N st s).1,.int .i64 0])/\Q0 W w'):=fun W=>Q1E (QL p N st) _ W hsy htl;have e2:(Je (Qu bs) true p N st s).2=(QF (Qu bs) s (exB true (QL p N st))).2:=rfl;rw [e2];have e3:(Yy p N (Q7 p N) st).1=(QL p N st:Nat):=c1;rw [e3]at HCE;generalize (Yy p N (Q7 p N) st).2.1=y1 at *;generalize (Yy p N (Q7 p N) st).2.2=y2 at *;generalize ((Je (Qu bs) true p N st s).1:Nat)=val at *;generalize QF (Qu bs) s (exB true (QL p N st))=tk at *;generalize exB true (QL p N st)=ex at *;generalize QL p N st=sy at *;obtain⟨d0,d1⟩:=(k0).cells2;have K1:=hd_ k1;have F0:=hd_ f0;have HW:=hd_ hw0;have HH:=hd_ hH;clear h hc hv hw256 c1 c2 c3 c4 c5 c6 hN hsy htl e2 e3 hw0 hH f0 k0 k1 hs hFk hFg;refine Q6 fun R hR=>?_;go_enter Tryz.func94,Tryz.ntmps94;go_upto_region 1 with fail;simp only [<-HH.out,<-HW.out];go_wp2_with fail;refine HCE.out.mono ?_;rintro e w1 ⟨rfl,f1⟩;have F1:=hd_ (F0.out.trans' f1);have k2:=K1.out.fresh f1;clear d0 d1 f1;go_upto_region 2 with fail;obtain⟨K,hK⟩:=nm_ (w1.heap.size);obtain⟨w2,hw2⟩:=nm_ (w1.alloc (.cells #[.int .i64 (sy:Nat),.int .i64 y1,.int .i64 y2] 217));simp only [<-hK,<-hw2];(have f2:Q0 w1 w2:=by rw [hw2];exact(Upd.refl _ _).alloc _);have k3:=k2.fresh f2;(have q3:Blk w2 K 217 #[.int .i64 (sy:Nat),.int .i64 y1,.int .i64 y2]:=by rw [hw2];exact Q1 hK _ _);have F2:=hd_ (F1.out.trans' f2);have d1:=k3.cell 1;have d2:=q3.cell 0;simp at d1 d2;have K3:=hd_ k3;have Q3:=hd_ q3;have HK:=hd_ hK;clear hw2 f2 k2 k3 q3 hK;go_wp2_with fail;refine(HBI.out _).mono ?_;rintro e w3 ⟨rfl,f3⟩;have k4:=K3.out.fresh f3;have q4:=Q3.out.fresh f3;have F3:=hd_ (F2.out.trans' f3);have d1':=k4.cell 2;have d2':=q4.cell 0;simp at d1' d2';have K4:=hd_ k4;have Q4:=hd_ q4;have HKS:=hd_ (show H+1≠g/\H+1≠k by have:=HH.out;omega);have HQS:=hd_ (show K≠g/\K≠k by have:=F1.out.size;have:=HK.out;omega);clear f3 k4 q4 d1 d2
 have HSS:Hid (∀W,Upd (fun b=>b=g\/b=k) w3 W->W.cell? ⟨H+1,2,none⟩=some (.func (.func 117) #[] #[])/\W.cell? ⟨K,0,none⟩=some (.int .i64 (sy:Nat))):=fun W u =>
   ⟨by simpa using(K4.out.upd u (by have:=HKS.out;rintro(h|h);exact this.1 h;exact this.2 h)).cell 2,by simpa using(Q4.out.upd u (by have:=HQS.out;rintro(h|h);exact this.1 h;exact this.2 h)).cell 0⟩
 go_wp2_with fail
 go_region_held3 (fun W=>W.cell? ⟨H+1,2,none⟩=some (.func (.func 117) #[] #[])/\W.cell? ⟨K,0,none⟩=some (.int .i64 (sy:Nat)))
   (first|exact⟨d1',d2'⟩|exact HSS.out _ ux|exact HSS.out _ uy)
   (first
     | (go_at_call 93;refine(HTK.out _ F3.out.drew).mono ?_;rintro e w4 ⟨rfl,u4,s4⟩;have ux:Upd (fun b=>b=g\/b=k) w3 w4:=Upd.trans' ((Upd.refl _ _).drew) u4)
     | (go_at_call 117;refine(HJO.out _).mono ?_;rintro e w5 ⟨rfl,f5⟩;have uy:Upd (fun b=>b=g\/b=k) w3 w5:=ux.trans f5 (fun _ _ h=>h.elim)))
 (all_goals go_wp2_with fail);(all_goals try go_ret);(all_goals exact hR.out _ _ ⟨rfl,(F3.out.mono (T:=fun b=>b=g\/b=k) fun _ _ h=>h.elim).trans' uy,s4.fresh f5⟩)
theorem Q4w:(Tryz.prog.info? 86).map (fun i=>(i.zero,i.size,i.bytes))=some (some (.agg #[.int .i64 0,.int .i64 0,.int .i64 0]),3,24):=by kernel_rfl
theorem Q4x {p:Nat} {N:List Int} {s:Int} (h:Qc p N s 8):Qc p N s 9:=by
 obtain⟨a1,a2,a3,a4,a5,a6⟩:=h;exact⟨a1,by omega,a3,a4,a5,a6⟩
theorem Q8s (F G:Nat->Prop) (g k:Nat) (bs:List Nat) (t n g0 g1 g2:Nat) (T:QJ) (w:World) (h:Jk w F g k bs (t,0)) (hgk:g≠k) (hFk:∀b,F b->b≠k) (hFg:∀b,F b->b≠g) (hFl:∀b,F b->b<w.heap.size)
   (hc0:Qv w G g0 T.pL T.NL) (hc1:Qv w G g1 T.pO T.NO) (hc2:Qv w G g2 T.pM T.NM) (hG:∀b,G b->b≠g/\b≠k/\b<w.heap.size) (hT:T.ok) (hn:n<=65536) :
   Calls Tryz.prog 60 #[.pointer (some ⟨g,0,none⟩),.agg #[.pointer (some ⟨g0,0,none⟩),.int .i64 0,.pointer (some ⟨g1,0,none⟩),.int .i64 0,.pointer (some ⟨g2,0,none⟩),.int .i64 0],.int .i64 (n:Nat)] w fun e w'=>∃v,
     e = .returned v/\QI w' 86 3 v ((ZT (Qu bs) T n t).1.map Kv)/\(∀b,v.ownBlock=some b->w.heap.size<=b)/\Upd (fun b=>b=g\/b=k) w w'/\Jk w' F g k bs (ZT (Qu bs) T n t).2:=by
 obtain⟨hwL,hwO,hwM⟩:=hT.wide;have hgl:=h.1.lt;have hkl:=h.2.lt;obtain⟨w0,hw0⟩:=nm_ (w.alloc (.cells #[.pointer (some ⟨g0,0,none⟩),.int .i64 0,.pointer (some ⟨g1,0,none⟩),.int .i64 0,.pointer (some ⟨g2,0,none⟩),.int .i64 0] 96));obtain⟨H,hH⟩:=nm_ (w.heap.size);(have f0:Q0 w w0:=by rw [hw0];exact(Upd.refl _ _).alloc _);(have ba:Blk w0 H 96 #[.pointer (some ⟨g0,0,none⟩),.int .i64 0,.pointer (some ⟨g1,0,none⟩),.int .i64 0,.pointer (some ⟨g2,0,none⟩),.int .i64 0]:=by rw [hw0];exact Q1 hH _ _);(have hs0:w0.heap.size=H+1:=by rw [hw0,hH];simp);(have hgH:g≠H:=by omega);(have hkH:k≠H:=by omega);(have hFH:∀b,F b->b≠H:=fun b hb=>by have:=hFl b hb;omega);have cs:∀(c p:Nat) (N:List Int),Qv w G c p N->∀W,Upd (fun b=>b=g\/b=k\/b=H) w0 W->Qv W G c p N:=fun c p N hc W u=>(hc.fresh f0).upd u (fun b hb _ e=>by have:=hG b hb;omega);have C0:=hd_ (cs _ _ _ hc0);have C1:=hd_ (cs _ _ _ hc1);have C2:=hd_ (cs _ _ _ hc2);have SR0:=hd_ (h.fresh f0);have HTK:=hd_ (fun W s n (hW:Jk W F g k bs s) (hn:n<=64)=>Vz F g k bs s n W hW hn hgk hFk hFg);have HVO:=hd_ (fun W s st (hW:Jk W F g k bs s) (hu:Upd (fun b=>b=g\/b=k\/b=H) w0 W) (hst:st<2^T.pO)=>Q6U F G g k bs s g1 T.pO st T.NO W hW hgk hFk hFg (cs _ _ _ hc1 W hu) (Q4x hT.2.1) hst);have HVM:=hd_ (fun W s st (hW:Jk W F g k bs s) (hu:Upd (fun b=>b=g\/b=k\/b=H) w0 W) (hst:st<2^T.pM)=>Q2p F G g k bs s g2 T.pM st T.NM W hW hgk hFk hFg (cs _ _ _ hc2 W hu) hT.2.2 hst);have HVL:=hd_ (fun W s st (hW:Jk W F g k bs s) (hu:Upd (fun b=>b=g\/b=k\/b=H) w0 W) (hst:st<2^T.pL)=>Q2p F G g k bs s g0 T.pL st T.NL W hW hgk hFk hFg (cs _ _ _ hc0 W hu) hT.1 hst);have hGn:∀b,G b->b≠g/\b≠k:=fun b hb=>⟨(hG b hb).1,(hG b hb).2.1⟩;have HOL:=hd_ (fun W s st A (hW:Jk W F g k bs s) (hu:Upd (fun b=>b=g\/b=k\/b=H) w0 W) (hst:st<2^T.pL) hb h0 h1=>Q1Q F G g k bs s g0 T.pL st H 0 T.NL A W hW hgk hFk hFg (cs _ _ _ hc0 W hu) hGn hwL hst hb h0 h1 (Ne.symm hgH) (Ne.symm hkH) hFH);have HOO:=hd_ (fun W s st A (hW:Jk W F g k bs s) (hu:Upd (fun b=>b=g\/b=k\/b=H) w0 W) (hst:st<2^T.pO) hb h0 h1=>Q1Q F G g k bs s g1 T.pO st H 2 T.NO A W hW hgk hFk hFg (cs _ _ _ hc1 W hu) hGn hwO hst hb h0 h1 (Ne.symm hgH) (Ne.symm hkH) hFH);have HOM:=hd_ (fun W s st A (hW:Jk W F g k bs s) (hu:Upd (fun b=>b=g\/b=k\/b=H) w0 W) (hst:st<2^T.pM) hb h0 h1=>Q1Q F G g k bs s g2 T.pM st H 4 T.NM A W hW hgk hFk hFg (cs _ _ _ hc2 W hu) hGn hwM hst hb h0 h1 (Ne.symm hgH) (Ne.symm hkH) hFH);have hp9:T.pL<=9/\T.pO<=9/\T.pM<=9:=⟨by have:=hwL.2.1;omega,by have:=hwO.2.1;omega,by have:=hwM.2.1;omega⟩;have HP9:=hd_ hp9;have HT:=hd_ hT;have HF:=hd_ (And.intro hFg (And.intro hFk hFH))
 have HFL:=hd_ hFl;have HNE:=hd_ (And.intro hgk (And.intro hgH hkH));have HW:=hd_ hw0;have HH:=hd_ hH;have F0:=hd_ f0;have BA:=hd_ ba;have HS0:=hd_ hs0;have HGL:=hd_ (And.intro hgl hkl);have HPA:=hd_ Q04;have HLG:=hd_ Q0m;have HBL:=hd_ Q60;obtain⟨V,hV⟩:=nm_ (Qu bs);rw [<-hV];rw [<-hV]at HTK HVO HVM HVL HOL HOO HOM;clear h hw0 hH f0 ba hs0 cs hc0 hc1 hc2 hT hwL hwO hwM hp9 hFk hFg hFH hFl hG hGn hgk hgH hkH hgl hkl hV;refine Q6 fun R hR=>?_;go_enter Tryz.func60,Tryz.ntmps60;go_upto_region 1 with fail;simp only [<-HH.out,<-HW.out];go_wp2_with fail
 go_loopg [12] 3 (fun f vi wr=>∃(i:Nat) (S:Sts) (s:Nat × Int),i+f=3/\vi = .int .i64 i/\stF V T t i=(S,s)/\Upd (fun b=>b=g\/b=k\/b=H) w0 wr /\
   Blk wr H 96 #[.pointer (some ⟨g0,0,none⟩),.int .i64 (S.l:Nat),.pointer (some ⟨g1,0,none⟩),.int .i64 (S.o:Nat),.pointer (some ⟨g2,0,none⟩),.int .i64 (S.m:Nat)]/\Jk wr F g k bs s)
 case atStart=>exact⟨0,_,_,rfl,rfl,rfl,Upd.refl _ _,BA.out,SR0.out⟩
 case round =>
   obtain⟨i,S,s,hf,rfl,hst,hu,hb,hsr⟩:=hrel;obtain⟨a0,a1,a2,a3,a4,a5⟩:=(hb).cells6;have HU:=hd_ hu;have HB:=hd_ hb;have HST:=hd_ hst;have HSR:=hd_ hsr;(have h4:i=0\/i=1\/i=2\/i=3:=by omega);clear hu hb hst hsr;rcases h4 with rfl|rfl|rfl|rfl
   . obtain rfl:gk=3:=by omega
     clear hf;have HLOG:=hd_ (HLG.out G g0 T.pL _ wr (C0.out _ HU.out) (by have:=HP9.out;omega));have HTA:=hd_ (HTK.out wr s T.pL HSR.out (by have:=HP9.out;omega));have hq:(QF V s T.pL).1<512:=Nat.lt_of_lt_of_le (JA V s T.pL) (Nat.le_trans (Nat.pow_le_pow_right (by decide) (show T.pL<=9 by have:=HP9.out;omega)) (by decide))
     have HSN:=hd_ (show stF V T t 1=(⟨(QF V s T.pL).1,S.o,S.m⟩,(QF V s T.pL).2) by
       have e:=HST.out;(have e1:S=(stF V T t 0).1:=by rw [e]);(have e2:s=(stF V T t 0).2:=by rw [e])
       rw [e1,e2];rfl)
     generalize QF V s T.pL=tk at *;have s1:wrap64 ((tk.1:Nat):Int)=((tk.1:Nat):Int):=Jj _ (by omega);have s2:IntKind.i64.wrap ((tk.1:Nat):Int)=((tk.1:Nat):Int):=IntWalk.i64_in _ (by omega);go_wp2_with fail;refine HLOG.out.mono ?_;rintro e w1 ⟨rfl,rfl⟩;go_wp2_with fail;refine HTA.out.mono ?_;rintro e w2 ⟨rfl,u2,r2⟩;have hb2:=HB.out.upd u2 (by have:=HNE.out;omega);have y0:=hb2.cell 1;have z0:=hb2.frozen 1;simp at y0;have hb3:=hb2.set_ 1 (.int .i64 (tk.1:Nat));have u3:Upd (fun b=>b=H) w2 (w2.setCell ⟨H,1,none⟩ (.int .i64 (tk.1:Nat))):=(Upd.refl (fun b=>b=H) w2).setCell (p:=⟨H,1,none⟩) (fun _=>rfl) _;have HR3:=hd_ (r2.upd u3 (by have:=HNE.out;omega) (by have:=HNE.out;omega) (fun b hb=>HF.out.2.2 b hb));have HU3:=hd_ ((HU.out.trans' (u2.mono (T:=fun b=>b=g\/b=k\/b=H) fun b _ hb=>by rcases hb with h|h;exact .inl h;exact .inr (.inl h))).trans' (u3.mono (T:=fun b=>b=g\/b=k\/b=H) fun b _ hb=>.inr (.inr hb)));have HB3:=hd_ hb3;clear hb2 hb3 u2 u3 r2 a0 a1 a2 a3 a4 a5;go_wp2_with fail;go_roundg 2
     case measure=>omega
     case rel=>exact⟨1,_,_,rfl,by go_num,HSN.out,HU3.out,by simpa using HB3.out,HR3.out⟩
   . obtain rfl:gk=2:=by omega
     clear hf;have HLOG:=hd_ (HLG.out G g1 T.pO _ wr (C1.out _ HU.out) (by have:=HP9.out;omega));have HTA:=hd_ (HTK.out wr s T.pO HSR.out (by have:=HP9.out;omega));have hq:(QF V s T.pO).1<512:=Nat.lt_of_lt_of_le (JA V s T.pO) (Nat.le_trans (Nat.pow_le_pow_right (by decide) (show T.pO<=9 by have:=HP9.out;omega)) (by decide))
     have HSN:=hd_ (show stF V T t 2=(⟨S.l,(QF V s T.pO).1,S.m⟩,(QF V s T.pO).2) by
       have e:=HST.out;(have e1:S=(stF V T t 1).1:=by rw [e]);(have e2:s=(stF V T t 1).2:=by rw [e])
       rw [e1,e2];rfl)
     generalize QF V s T.pO=tk at *;have s1:wrap64 ((tk.1:Nat):Int)=((tk.1:Nat):Int):=Jj _ (by omega);have s2:IntKind.i64.wrap ((tk.1:Nat):Int)=((tk.1:Nat):Int):=IntWalk.i64_in _ (by omega);go_wp2_with fail;refine HLOG.out.mono ?_;rintro e w1 ⟨rfl,rfl⟩;go_wp2_with fail;refine HTA.out.mono ?_;rintro e w2 ⟨rfl,u2,r2⟩;have hb2:=HB.out.upd u2 (by have:=HNE.out;omega);have y0:=hb2.cell 3;have z0:=hb2.frozen 3;simp at y0;have hb3:=hb2.set_ 3 (.int .i64 (tk.1:Nat));have u3:Upd (fun b=>b=H) w2 (w2.setCell ⟨H,3,none⟩ (.int .i64 (tk.1:Nat))):=(Upd.refl (fun b=>b=H) w2).setCell (p:=⟨H,3,none⟩) (fun _=>rfl) _;have HR3:=hd_ (r2.upd u3 (by have:=HNE.out;omega) (by have:=HNE.out;omega) (fun b hb=>HF.out.2.2 b hb));have HU3:=hd_ ((HU.out.trans' (u2.mono (T:=fun b=>b=g\/b=k\/b=H) fun b _ hb=>by rcases hb with h|h;exact .inl h;exact .inr (.inl h))).trans' (u3.mono (T:=fun b=>b=g\/b=k\/b=H) fun b _ hb=>.inr (.inr hb)));have HB3:=hd_ hb3;clear hb2 hb3 u2 u3 r2 a0 a1 a2 a3 a4 a5;go_wp2_with fail;go_roundg 1
     case measure=>omega
     case rel=>exact⟨2,_,_,rfl,by go_num,HSN.out,HU3.out,by simpa using HB3.out,HR3.out⟩
   . obtain rfl:gk=1:=by omega
     clear hf;have HLOG:=hd_ (HLG.out G g2 T.pM _ wr (C2.out _ HU.out) (by have:=HP9.out;omega));have HTA:=hd_ (HTK.out wr s T.pM HSR.out (by have:=HP9.out;omega));have hq:(QF V s T.pM).1<512:=Nat.lt_of_lt_of_le (JA V s T.pM) (Nat.le_trans (Nat.pow_le_pow_right (by decide) (show T.pM<=9 by have:=HP9.out;omega)) (by decide))
     have HSN:=hd_ (show stF V T t 3=(⟨S.l,S.o,(QF V s T.pM).1⟩,(QF V s T.pM).2) by
       have e:=HST.out;(have e1:S=(stF V T t 2).1:=by rw [e]);(have e2:s=(stF V T t 2).2:=by rw [e])
       rw [e1,e2];rfl)
     generalize QF V s T.pM=tk at *;have s1:wrap64 ((tk.1:Nat):Int)=((tk.1:Nat):Int):=Jj _ (by omega);have s2:IntKind.i64.wrap ((tk.1:Nat):Int)=((tk.1:Nat):Int):=IntWalk.i64_in _ (by omega);go_wp2_with fail;refine HLOG.out.mono ?_;rintro e w1 ⟨rfl,rfl⟩;go_wp2_with fail;refine HTA.out.mono ?_;rintro e w2 ⟨rfl,u2,r2⟩;have hb2:=HB.out.upd u2 (by have:=HNE.out;omega);have y0:=hb2.cell 5;have z0:=hb2.frozen 5;simp at y0;have hb3:=hb2.set_ 5 (.int .i64 (tk.1:Nat));have u3:Upd (fun b=>b=H) w2 (w2.setCell ⟨H,5,none⟩ (.int .i64 (tk.1:Nat))):=(Upd.refl (fun b=>b=H) w2).setCell (p:=⟨H,5,none⟩) (fun _=>rfl) _;have HR3:=hd_ (r2.upd u3 (by have:=HNE.out;omega) (by have:=HNE.out;omega) (fun b hb=>HF.out.2.2 b hb));have HU3:=hd_ ((HU.out.trans' (u2.mono (T:=fun b=>b=g\/b=k\/b=H) fun b _ hb=>by rcases hb with h|h;exact .inl h;exact .inr (.inl h))).trans' (u3.mono (T:=fun b=>b=g\/b=k\/b=H) fun b _ hb=>.inr (.inr hb)));have HB3:=hd_ hb3;clear hb2 hb3 u2 u3 r2 a0 a1 a2 a3 a4 a5;go_wp2_with fail;go_roundg 0
     case measure=>omega
     case rel=>exact⟨3,_,_,rfl,by go_num,HSN.out,HU3.out,by simpa using HB3.out,HR3.out⟩
   (obtain rfl:gk=0:=by omega);clear hf;have hse:Vp V T (t,0)=(S,s):=HST.out;have HSE:=hd_ hse;have HSO:=hd_ (show S.ok T by have:=Q2g V T (t,0);rw [hse]at this;exact this);have HAL:=hd_ (show ZT V T n t=((YN V T n S s).1,(YN V T n S s).2.1,if(YN V T n S s).2.2=0/\(YN V T n S s).2.1≠0 then 14 else(YN V T n S s).2.2) by unfold ZT;rw [hse]);clear hse HST;generalize ZT V T n t=AL at *;go_wp2_with fail;refine(HPA.out _).mono ?_;rintro e w1 ⟨rfl,f1⟩;have HR1:=hd_ (HSR.out.fresh f1);have HB1:=hd_ (HB.out.fresh f1);have HU1:=hd_ (HU.out.trans' (f1.mono (T:=fun b=>b=g\/b=k\/b=H) fun _ _ h=>h.elim));clear f1 a0 a1 a2 a3 a4 a5;go_wp2_with fail;obtain⟨K,hK⟩:=nm_ (w1.heap.size);obtain⟨w2,hw2⟩:=nm_ (w1.alloc (.cells #[.func (.func 112) #[] #[],.func (.func 113) #[] #[],.func (.func 114) #[] #[],.func (.func 115) #[] #[],.func (.func 116) #[] #[],.func (.func 117) #[] #[],.func (.func 112) #[] #[],.func (.func 113) #[] #[],.func (.func 114) #[] #[]] 149));simp only [<-hK,<-hw2];(have f2:Q0 w1 w2:=by rw [hw2];exact(Upd.refl _ _).alloc _);have HQ2:=hd_ (show Blk w2 K 149 #[.func (.func 112) #[] #[],.func (.func 113) #[] #[],.func (.func 114) #[] #[],.func (.func 115) #[] #[],.func (.func 116) #[] #[],.func (.func 117) #[] #[],.func (.func 112) #[] #[],.func (.func 113) #[] #[],.func (.func 114) #[] #[]] by rw [hw2];exact Q1 hK _ _);have HR2:=hd_ (HR1.out.fresh f2);have HB2:=hd_ (HB1.out.fresh f2);have HU2:=hd_ (HU1.out.trans' (f2.mono (T:=fun b=>b=g\/b=k\/b=H) fun _ _ h=>h.elim));have HK2:=hd_ (show w2.heap.size=K+1 by rw [hw2,hK];simp);have HKN:=hd_ (show K≠g/\K≠k/\K≠H by have h1:=HU1.out.size;have h2:=HS0.out;have h3:=HGL.out;have h4:=HH.out;omega);clear f2 hK hw2 HU1 HB1 HR1;obtain⟨X,hX⟩:=nm_ (YN V T n S s);rw [<-hX]at HAL;have HX:=hd_ hX;clear hX
   go_loopg [6] n (fun f v wr=>∃(outs:List Qb) (S':Sts) (s':Nat × Int),outs.length+f=n/\S'.ok T/\QI wr 86 3 v (outs.map Kv)/\(∀b,v.ownBlock=some b->K+1<=b)/\Upd (fun b=>b=g\/b=k\/b=H) w2 wr /\
     Blk wr H 96 #[.pointer (some ⟨g0,0,none⟩),.int .i64 (S'.l:Nat),.pointer (some ⟨g1,0,none⟩),.int .i64 (S'.o:Nat),.pointer (some ⟨g2,0,none⟩),.int .i64 (S'.m:Nat)]/\Jk wr F g k bs s' /\
     outs++(YN V T f S' s').1=X.1/\(YN V T f S' s').2=X.2)
   case atStart=>exact⟨[],S,s,by simp,HSO.out,QI.nil _ _ _,fun b h=>by simp [Value.ownBlock]at h,Upd.refl _ _,HB2.out,HR2.out,by rw [HX.out];rfl,by rw [HX.out]⟩
   case round =>
     obtain⟨outs,S',s',hf,hS,ho,hob,hu,hb,hsr,hx1,hx2⟩:=hrel;have c0:=hsr.1.cell 0;have c1:=hsr.1.cell 1;have z1:=hsr.1.frozen 1;simp at c0 c1;have q2:=HQ2.out.upd hu (by have:=HKN.out;omega);have HU:=hd_ hu;have HB:=hd_ hb;have HSR:=hd_ hsr;have HOW:=hd_ ho;have HOB:=hd_ hob;have HS':=hd_ hS;have HX1:=hd_ hx1;have HX2:=hd_ hx2;have HF0:=hd_ hf;have HQ:=hd_ q2;obtain⟨Ao,no,co,rfl,hno⟩:=ho.form';rw [List.length_map]at hno;clear hu hb hsr ho hob hS hx1 hx2 q2;by_cases hz:gk=0
     . subst hz
       clear hf;(have hnn:((no:Nat):Int)=(n:Nat):=by have:=hno.out;have:=HF0.out;omega)
       have HEND:=hd_ (show outs=X.1/\s'=X.2 by
         have h1:=HX1.out;have h2:=HX2.out;rw [ZP V T 0 S' s' (.inl rfl)]at h1 h2
         exact⟨by simpa using h1,h2⟩)
       (have hlt:¬(((no:Nat):Int)<(n:Nat)):=by omega);clear hnn
       have hal:AL=(outs,s'.1,if s'.2=0/\s'.1≠0 then 14 else s'.2):=by
         have h:=HAL.out;rw [<-HEND.out.1,<-HEND.out.2]at h;exact h
       have hU:Upd (fun b=>b=g\/b=k) w wr:=(F0.out.mono (T:=fun b=>b=g\/b=k) fun _ _ h=>h.elim).trans (HU2.out.trans' HU.out) (fun b hb e=>by have:=HH.out;rcases e with e|e|e;exact .inl e;exact .inr e;omega);(have hO:∀b,(Value.slice Ao no co).ownBlock=some b->w.heap.size<=b:=fun b hb=>by have h1:=HOB.out b hb;have h2:=HK2.out;have h3:=HU2.out.size;have h4:=F0.out.size;omega);by_cases he:s'.2=0
       . rw [he]at c1
         by_cases h1:s'.1=0
         . have HL:=hd_ (HBL.out F k bs s'.1 wr HSR.out.2)
           rw [h1]at HL;go_wp2_with fail;refine HL.out.mono ?_;rintro e w5 ⟨rfl,f5⟩;go_wp2_with fail;(try go_ret);refine hR.out _ _ ⟨_,rfl,?_,hO,hU.trans f5 (fun _ _ h=>h.elim),?_⟩
           . rw [hal];exact HOW.out.fresh f5
           rw [hal,if_neg (by simp [h1])];exact HSR.out.fresh f5
         have HL:=hd_ (HBL.out F k bs s'.1 wr HSR.out.2);(have hne:(((s'.1:Nat):Int) == 0)=false:=by simp;omega);(have hne2:¬((s'.1:Nat):Int)=0:=by omega);go_wp2_with fail;refine HL.out.mono ?_;rintro e w5 ⟨rfl,f5⟩;have r5:=HSR.out.fresh f5;have y1:=r5.1.cell 1;have y2:=r5.1.frozen 1;simp at y1;rw [he]at y1;have R5:=hd_ r5;clear r5;go_wp2_with fail;(try go_ret);have u6:Upd (fun b=>b=g) w5 (w5.setCell ⟨g,1,none⟩ (.int .i64 14)):=(Upd.refl (fun b=>b=g) w5).setCell (p:=⟨g,1,none⟩) (fun _=>rfl) _;refine hR.out _ _ ⟨_,rfl,?_,hO,(hU.trans f5 (fun _ _ h=>h.elim)).trans u6 (fun _ _ h=>.inl h),?_⟩
         . rw [hal];exact(HOW.out.fresh f5).upd u6 (fun b hb e=>by have h1:=HOB.out b hb;have h2:=HK2.out;have h3:=HU2.out.size;have h4:=HGL.out;have h5:=F0.out.size;omega)
         rw [hal,if_pos ⟨he,h1⟩];exact⟨by simpa using R5.out.1.set_ 1 (.int .i64 14),R5.out.2.upd u6 (fun h=>HNE.out.1 h.symm) (fun b hb=>HF.out.1 b hb)⟩
       (have hne:((s'.2:Int) == 0)=false:=by simpa using he);go_wp2_with fail;(try go_ret);refine hR.out _ _ ⟨_,rfl,?_,hO,hU,?_⟩
       . rw [hal];exact HOW.out
       rw [hal,if_neg (by simp [he])];exact HSR.out
     (have hgp:0<gk:=by omega);(have hlt:((no:Nat):Int)<(n:Nat):=by have:=hno.out;have:=HF0.out;omega);clear hf;by_cases he:s'.2=0
     . rw [he]at c1
       obtain⟨gq,rfl⟩:∃q,q=gk:=⟨gk,rfl⟩;have hol:∀b,(Value.slice Ao no co).ownBlock=some b->K+1<=b/\b<wr.heap.size:=fun b hb=>⟨HOB.out b hb,HOW.out.lt hb⟩;have HOL2:=hd_ hol;have hkw:w2.heap.size<=wr.heap.size:=HU.out.size;have HKW:=hd_ (show K+1<=wr.heap.size by have:=HK2.out;omega);have hUw:Upd (fun b=>b=g\/b=k\/b=H) w0 wr:=HU2.out.trans' HU.out;have HUW:=hd_ hUw;obtain⟨v1,hv1⟩:=nm_ (Je V true T.pO T.NO S'.o s');obtain⟨v2,hv2⟩:=nm_ (Je V false T.pM T.NM S'.m v1.2);obtain⟨v3,hv3⟩:=nm_ (Je V false T.pL T.NL S'.l v2.2);have V1:=HVO.out wr s' S'.o HSR.out HUW.out HS'.out.2.1;rw [<-hv1]at V1;have V1:=hd_ V1;have V2:=hd_ (fun W hW hu=>HVM.out W v1.2 S'.m hW hu HS'.out.2.2);rw [<-hv2]at V2;have V3:=hd_ (fun W hW hu=>HVL.out W v2.2 S'.l hW hu HS'.out.1);rw [<-hv3]at V3;(have hb1:v1.1<268435456:=by rw [hv1];exact(Vf (o:=true) (by simpa using Q4x HT.out.2.1) HS'.out.2.1 V s').1);(have hb2:v2.1<268435456:=by rw [hv2];exact(Vf (o:=false) (by simpa using HT.out.2.2) HS'.out.2.2 V v1.2).1);(have hb3:v3.1<268435456:=by rw [hv3];exact(Vf (o:=false) (by simpa using HT.out.1) HS'.out.1 V v2.2).1);obtain⟨ln,hln⟩:=nm_ (v2.1+3);have HONE:=hd_ (show JY V T S' s'=(⟨v3.1,ln,v1.1⟩,v3.2) by rw [hln,hv3,hv2,hv1];rfl);(have sw:IntKind.i64.wrap (((v2.1:Nat):Int)+3)=((ln:Nat):Int):=by rw [IntWalk.i64_in _ (by omega)];omega);clear hol hkw hUw hv1 hv2 hv3 hln;have b2:=HB.out.cell 2;have b3:=HB.out.cell 3;have q3:=HQ.out.cell 3;have q4:=HQ.out.cell 4;have q5:=HQ.out.cell 5;simp at b2 b3 q3 q4 q5;go_wp2_with fail;refine V1.out.mono ?_;rintro e w3 ⟨rfl,u3,r3⟩;have hnH:=HNE.out.2;have hnK:=HKN.out;have hb3':=HB.out.upd u3 (by omega);have hq3':=HQ.out.upd u3 (by omega);have HU3:=hd_ (HU.out.trans' (u3.mono (T:=fun b=>b=g\/b=k\/b=H) fun b _ hb=>by rcases hb with h|h;exact .inl h;exact .inr (.inl h)));have HO3:=hd_ (HOW.out.upd u3 (fun b hb e=>by have h1:=HOL2.out b hb;have h2:=HGL.out;have h3:=HU2.out.size;have h4:=HK2.out;have h5:=F0.out.size;omega));have HSZ3:=hd_ u3.size;have HB3:=hd_ hb3';have HQ3:=hd_ hq3';have HR3:=hd_ r3;clear hb3' hq3' u3 r3 b2 b3 q3 q4 q5 hnH hnK c0 c1 z1;go_upto_region 9 with fail;obtain⟨M,hM⟩:=nm_ (w3.heap.size);obtain⟨w4,hw4⟩:=nm_ (w3.alloc (.cells #[.int .i64 0,.int .i64 0,.int .i64 (v1.1:Nat)] 86));simp only [<-hM,<-hw4];(have f4:Q0 w3 w4:=by rw [hw4];exact(Upd.refl _ _).alloc _);have HM4:=hd_ (show Blk w4 M 86 #[.int .i64 0,.int .i64 0,.int .i64 (v1.1:Nat)] by rw [hw4];exact Q1 hM _ _);have hU3s:=HU3.out.size;have HMN:=hd_ (show M≠g/\M≠k/\M≠H/\K<M/\wr.heap.size<=M by have h1:=HSZ3.out;have h2:=HKW.out;have h3:=HGL.out;have h4:=HH.out;have h5:=HU2.out.size;have h6:=HS0.out;have h7:=HK2.out;omega);have HR4:=hd_ (HR3.out.fresh f4)
       have HO4:=hd_ (HO3.out.fresh f4);have HU4:=hd_ (HU3.out.trans' (f4.mono (T:=fun b=>b=g\/b=k\/b=H) fun _ _ h=>h.elim));have hb4:=HB3.out.fresh f4;have hq4:=HQ3.out.fresh f4;have V2':=hd_ (V2.out w4 HR4.out (HU2.out.trans' HU4.out));have b4:=hb4.cell 4;have b5:=hb4.cell 5;have q6:=hq4.cell 6;have q7:=hq4.cell 7;have q8:=hq4.cell 8;simp at b4 b5 q6 q7 q8;have HB4:=hd_ hb4;have HQ4:=hd_ hq4;clear hM hw4 f4 hU3s hb4 hq4;go_wp2_with fail;refine V2'.out.mono ?_;rintro e w5 ⟨rfl,u5,r5⟩;have hnM:=HMN.out;have hnH:=HNE.out.2;have hnK:=HKN.out;have hb5:=HB4.out.upd u5 (by omega);have hq5:=HQ4.out.upd u5 (by omega);have hm5:=HM4.out.upd u5 (by omega);have y1:=hm5.cell 1;have y2:=hm5.frozen 1;simp at y1;have HO5:=hd_ (HO4.out.upd u5 (fun b hb e=>by have h1:=HOL2.out b hb;have h2:=HGL.out;have h3:=HU2.out.size;have h4:=HK2.out;have h5:=F0.out.size;omega));have HU5:=hd_ (HU4.out.trans' (u5.mono (T:=fun b=>b=g\/b=k\/b=H) fun b _ hb=>by rcases hb with h|h;exact .inl h;exact .inr (.inl h)));have HB5:=hd_ hb5;have HQ5:=hd_ hq5;have HM5:=hd_ hm5;have HR5:=hd_ r5;clear hb5 hq5 hm5 u5 r5 b4 b5 q6 q7 q8 hnM hnH hnK;go_upto_region 10 with fail;obtain⟨w6,hw6⟩:=nm_ (w5.setCell ⟨M,1,none⟩ (.int .i64 (ln:Nat)));simp only [<-hw6];(have u6:Upd (fun b=>b=M) w5 w6:=by rw [hw6];exact(Upd.refl (fun b=>b=M) w5).setCell (p:=⟨M,1,none⟩) (fun _=>rfl) _);(have hm6:Blk w6 M 86 #[.int .i64 0,.int .i64 (ln:Nat),.int .i64 (v1.1:Nat)]:=by rw [hw6];simpa using HM5.out.set_ 1 (.int .i64 (ln:Nat)));have hnM:=HMN.out;have hb6:=HB5.out.upd u6 (by omega);have hq6:=HQ5.out.upd u6 (by omega);have HR6:=hd_ (HR5.out.upd u6 (by omega) (by omega) (fun b hb e=>by have:=HFL.out b hb;have h1:=HGL.out;have h3:=HSZ3.out;have h5:=HU.out.size;have h6:=HU2.out.size;have h7:=F0.out.size;omega));have HO6:=hd_ (HO5.out.upd u6 (fun b hb e=>by have h1:=HOL2.out b hb;omega));have HU6:=hd_ (HU5.out.trans u6 (fun b hb e=>by have h1:=HKW.out;have h2:=HU.out.size;omega));have V3':=hd_ (V3.out w6 HR6.out (HU2.out.trans' HU6.out));have b0:=hb6.cell 0;have b1:=hb6.cell 1;have q0:=hq6.cell 0;have q1:=hq6.cell 1;have q2:=hq6.cell 2;simp at b0 b1 q0 q1 q2;have HB6:=hd_ hb6;have HQ6:=hd_ hq6;have HM6:=hd_ hm6;clear hw6 u6 hb6 hq6 hm6 y1 y2 hnM;go_wp2_with fail;refine V3'.out.mono ?_;rintro e w7 ⟨rfl,u7,r7⟩;have hnM:=HMN.out;have hnH:=HNE.out.2;have hnK:=HKN.out;have hb7:=HB6.out.upd u7 (by omega);have hm7:=HM6.out.upd u7 (by omega);have HO7:=hd_ (HO6.out.upd u7 (fun b hb e=>by have h1:=HOL2.out b hb;have h2:=HGL.out;have h3:=HU2.out.size;have h4:=HK2.out;have h5:=F0.out.size;omega));have HU7:=hd_ (HU6.out.trans' (u7.mono (T:=fun b=>b=g\/b=k\/b=H) fun b _ hb=>by rcases hb with h|h;exact .inl h;exact .inr (.inl h)));have y0:=hm7.cell 0
       have yz:=hm7.frozen 0;simp at y0;have HB7:=hd_ hb7;have HM7:=hd_ hm7;have HR7:=hd_ r7;clear hb7 hm7 u7 r7 b0 b1 q0 q1 q2 hnM hnH hnK;go_upto_region 11 with fail;obtain⟨w8,hw8⟩:=nm_ (w7.setCell ⟨M,0,none⟩ (.int .i64 (v3.1:Nat)));simp only [<-hw8];(have u8':Upd (fun b=>b=M) w7 w8:=by rw [hw8];exact(Upd.refl (fun b=>b=M) w7).setCell (p:=⟨M,0,none⟩) (fun _=>rfl) _);(have hm8:Blk w8 M 86 #[.int .i64 (v3.1:Nat),.int .i64 (ln:Nat),.int .i64 (v1.1:Nat)]:=by rw [hw8];simpa using HM7.out.set_ 0 (.int .i64 (v3.1:Nat)));have hnM:=HMN.out;have HB8:=hd_ (HB7.out.upd u8' (by omega));have HR8:=hd_ (HR7.out.upd u8' (by omega) (by omega) (fun b hb e=>by have:=HFL.out b hb;have h1:=HGL.out;have h3:=HSZ3.out;have h5:=HU.out.size;have h6:=HU2.out.size;have h7:=F0.out.size;omega));have o8:=HO7.out.upd u8' (fun b hb e=>by have h1:=HOL2.out b hb;omega);have HU8:=hd_ (HU7.out.trans u8' (fun b hb e=>by have h1:=HKW.out;have h2:=HU.out.size;omega));obtain⟨m0,m1,m2⟩:=(hm8).cells3;have HM8:=hd_ hm8;(have hrl:(outs.map Kv).length<=2^30:=by have:=HF0.out;simp;omega);clear hw8 u8' hm8 y0 yz hnM;by_cases hg1:gq=1
       . have hl2:¬(((outs.length:Nat):Int)+1<(n:Nat)):=by have:=HF0.out;omega
         (have hl3:¬(outs.length+1<n):=by have:=HF0.out;omega);go_wp2_with (at_builtin;go_must (refine ZN _ rfl (.tmp 61) (.tmp 63) _ rfl 86 _ 3 24 Tryz.underlying80 Q4w rfl (by omega) (by omega) (.slice Ao no co) _ rfl (o8.alloc _) w8.heap.size 1 [.int .i64 (v3.1:Nat),.int .i64 (ln:Nat),.int .i64 (v1.1:Nat)] rfl (by simp [Value.oneCell']) rfl (Blk.new _ _ _) hrl ?_);intro g9 c9 w9 o9 g9u a9 l9);(have er:outs.map Kv++[[Value.int .i64 (v3.1:Nat),.int .i64 (ln:Nat),.int .i64 (v1.1:Nat)]]=(outs++[(⟨v3.1,ln,v1.1⟩:Qb)]).map Kv:=by simp [Kv]);(have el:(outs.map Kv).length+1=outs.length+1:=by simp);rw [er]at o9;(try rw [el]at o9);have u9:Upd (fun b=>(Value.slice Ao no co).ownBlock=some b) w8 w9:=((Upd.refl _ w8).alloc _).grown g9u (fun k hk _=>hk)
         have hog:∀b,(Value.slice (some ⟨g9,0,none⟩) (outs.length+1) c9).ownBlock=some b->K+1<=b:=by
           intro b hb;injection hb with hb;have hb':g9=b:=hb;rcases a9 with h|h
           . have:=HOL2.out g9 h;omega
           simp at h;have h1:=HU8.out.size;have h2:=HKW.out;have h3:=HK2.out;omega
         (have hno9:∀b,(Value.slice Ao no co).ownBlock=some b->b≠g/\b≠k/\b≠H:=fun b hb=>by have h1:=HOL2.out b hb;have h2:=HGL.out;have h3:=HU2.out.size;have h4:=HK2.out;have h5:=F0.out.size;have h6:=HKN.out;have h7:=HS0.out;omega);have HB9:=hd_ (HB8.out.upd u9 (fun h=>(hno9 _ h).2.2 rfl));have HR9:=hd_ (HR8.out.upd u9 (fun h=>(hno9 _ h).1 rfl) (fun h=>(hno9 _ h).2.1 rfl) (fun b hb h=>by have h1:=HFL.out b hb;have h2:=HOL2.out b h;have h3:=HU2.out.size;have h4:=HK2.out;have h5:=F0.out.size;omega));have HU9:=hd_ (HU8.out.trans u9 (fun b hb h=>by have h1:=HOL2.out b h;have h4:=HK2.out;omega));have HO9:=hd_ o9;have HOG:=hd_ hog;clear er el u9 hog hno9 g9u a9 l9 o9 hrl m0 m1 m2 o8;go_roundg 0
         case measure=>omega
         case rel =>
           have h1:=HX1.out;have h2:=HX2.out;rw [hg1,V5 V T S' s' he,HONE.out]at h1 h2;exact⟨outs++[⟨v3.1,ln,v1.1⟩],S',v3.2,by have:=HF0.out;simp;omega,HS'.out,HO9.out,HOG.out,HU9.out,HB9.out,HR9.out,by rw [ZP V T 0 S' v3.2 (.inl rfl)];simpa using h1,by rw [ZP V T 0 S' v3.2 (.inl rfl)];exact h2⟩
       (have hl2:((outs.length:Nat):Int)+1<(n:Nat):=by have:=HF0.out;omega);(have hl3:outs.length+1<n:=by have:=HF0.out;omega);go_wp2_with (at_builtin;go_must (refine ZN _ rfl (.tmp 61) (.tmp 63) _ rfl 86 _ 3 24 Tryz.underlying80 Q4w rfl (by omega) (by omega) (.slice Ao no co) _ rfl (o8.alloc _) w8.heap.size 1 [.int .i64 (v3.1:Nat),.int .i64 (ln:Nat),.int .i64 (v1.1:Nat)] rfl (by simp [Value.oneCell']) rfl (Blk.new _ _ _) hrl ?_);intro g9 c9 w9 o9 g9u a9 l9);(have er:outs.map Kv++[[Value.int .i64 (v3.1:Nat),.int .i64 (ln:Nat),.int .i64 (v1.1:Nat)]]=(outs++[(⟨v3.1,ln,v1.1⟩:Qb)]).map Kv:=by simp [Kv]);(have el:(outs.map Kv).length+1=outs.length+1:=by simp);rw [er]at o9;(try rw [el]at o9);have u9:Upd (fun b=>(Value.slice Ao no co).ownBlock=some b) w8 w9:=((Upd.refl _ w8).alloc _).grown g9u (fun k hk _=>hk)
       have hog:∀b,(Value.slice (some ⟨g9,0,none⟩) (outs.length+1) c9).ownBlock=some b->K+1<=b:=by
         intro b hb;injection hb with hb;have hb':g9=b:=hb;rcases a9 with h|h
         . have:=HOL2.out g9 h;omega
         simp at h;have h1:=HU8.out.size;have h2:=HKW.out;have h3:=HK2.out;omega
       (have hno9:∀b,(Value.slice Ao no co).ownBlock=some b->b≠g/\b≠k/\b≠H:=fun b hb=>by have h1:=HOL2.out b hb;have h2:=HGL.out;have h3:=HU2.out.size;have h4:=HK2.out;have h5:=F0.out.size;have h6:=HKN.out;have h7:=HS0.out;omega);have HB9:=hd_ (HB8.out.upd u9 (fun h=>(hno9 _ h).2.2 rfl));have HR9:=hd_ (HR8.out.upd u9 (fun h=>(hno9 _ h).1 rfl) (fun h=>(hno9 _ h).2.1 rfl) (fun b hb h=>by have h1:=HFL.out b hb;have h2:=HOL2.out b h;have h3:=HU2.out.size;have h4:=HK2.out;have h5:=F0.out.size;omega));have HU9:=hd_ (HU8.out.trans u9 (fun b hb h=>by have h1:=HOL2.out b h;have h4:=HK2.out;omega));have HO9:=hd_ o9;have HOG:=hd_ hog;clear er el u9 hog hno9 g9u a9 l9 o9 hrl m0 m1 m2 o8;obtain⟨P9,hP9⟩:=nm_ (w9.heap.size);obtain⟨w10,hw10⟩:=nm_ (w9.alloc (.cells #[.int .i64 0,.int .i64 2,.int .i64 1] 112));simp only [<-hP9,<-hw10];(have f10:Q0 w9 w10:=by rw [hw10];exact(Upd.refl _ _).alloc _);have HP10:=hd_ (show Blk w10 P9 112 #[.int .i64 0,.int .i64 2,.int .i64 1] by rw [hw10];exact Q1 hP9 _ _);have HB10:=hd_ (HB9.out.fresh f10);have HR10:=hd_ (HR9.out.fresh f10);have HO10:=hd_ (HO9.out.fresh f10);have HU10:=hd_ (HU9.out.trans' (f10.mono (T:=fun b=>b=g\/b=k\/b=H) fun _ _ h=>h.elim));have HPN:=hd_ (show P9≠g/\P9≠k/\P9≠H by have h1:=HU9.out.size;have h2:=HGL.out;have h3:=HH.out;have h5:=HU2.out.size;have h6:=HS0.out;omega);have HGN9:=hd_ (show ∀b,(Value.slice (some ⟨g9,0,none⟩) (outs.length+1) c9).ownBlock=some b->b≠g/\b≠k/\b≠H from fun b hb=>by have h1:=HOG.out b hb;have h2:=HGL.out;have h3:=HU2.out.size;have h4:=HK2.out;have h5:=F0.out.size;have h6:=HKN.out;have h7:=HS0.out;omega);clear hP9 hw10 f10
       go_loopg [71] 3 (fun f vi wq=>∃(i:Nat) (S2:Sts) (s2:Nat × Int),i+f=3/\vi = .int .i64 i/\mvF V T S' v3.2 i=(S2,s2)/\S2.ok T/\Upd (fun b=>b=g\/b=k\/b=H) w10 wq /\
         Blk wq H 96 #[.pointer (some ⟨g0,0,none⟩),.int .i64 (S2.l:Nat),.pointer (some ⟨g1,0,none⟩),.int .i64 (S2.o:Nat),.pointer (some ⟨g2,0,none⟩),.int .i64 (S2.m:Nat)]/\Jk wq F g k bs s2)
       case atStart=>exact⟨0,S',v3.2,rfl,rfl,rfl,HS'.out,Upd.refl _ _,HB10.out,HR10.out⟩
       case round =>
         obtain⟨i,S2,s2,hf2,rfl,hmv,hok2,hu2,hbq,hrq⟩:=hrel;have hp10:=HP10.out.upd hu2 (by have:=HPN.out;omega);obtain⟨p0,p1,p2⟩:=(hp10).cells3;have HUQ:=hd_ hu2;have HBQ:=hd_ hbq;have HRQ:=hd_ hrq;have HMV:=hd_ hmv;have HK2':=hd_ hok2;have HUW2:=hd_ (HU2.out.trans' (HU10.out.trans' hu2));(have h4:i=0\/i=1\/i=2\/i=3:=by omega);clear hu2 hbq hrq hmv hok2 hp10;rcases h4 with rfl|rfl|rfl|rfl
         . obtain rfl:gk=3:=by omega
           clear hf2;have HON:=HOL.out _ s2 S2.l _ HRQ.out HUW2.out HK2'.out.1 HBQ.out (by simp) (by simp);have hq0:(onE V T.pL T.NL S2.l s2).1<2^T.pL:=VZ HT.out.wide.1 HK2'.out.1 V s2;obtain⟨tk,htk⟩:=nm_ (onE V T.pL T.NL S2.l s2);rw [<-htk]at HON hq0;have hq:=hq0
           have HSN:=hd_ (show mvF V T S' v3.2 1=(⟨tk.1,S2.o,S2.m⟩,tk.2) by
             have e:=HMV.out;(have e1:S2=(mvF V T S' v3.2 0).1:=by rw [e]);(have e2:s2=(mvF V T S' v3.2 0).2:=by rw [e])
             rw [htk,e1,e2];rfl)
           have HQ5:=hd_ (show Sts.ok T ⟨tk.1,S2.o,S2.m⟩from⟨hq,HK2'.out.2.1,HK2'.out.2.2⟩);have HON:=hd_ HON;clear hq hq0 htk;go_wp2_with fail;refine HON.out.mono ?_;rintro e w11 ⟨rfl,u11,r11,b11⟩;have HR11:=hd_ r11;have HB11:=hd_ b11;have HU11:=hd_ (HUQ.out.trans' u11);clear u11 r11 b11 p0 p1 p2;go_wp2_with fail;go_roundg 2
           case measure=>omega
           case rel=>exact⟨1,_,_,rfl,by go_num,HSN.out,HQ5.out,HU11.out,by simpa using HB11.out,HR11.out⟩
         . obtain rfl:gk=2:=by omega
           clear hf2;have HON:=HOM.out _ s2 S2.m _ HRQ.out HUW2.out HK2'.out.2.2 HBQ.out (by simp) (by simp);have hq0:(onE V T.pM T.NM S2.m s2).1<2^T.pM:=VZ HT.out.wide.2.2 HK2'.out.2.2 V s2;obtain⟨tk,htk⟩:=nm_ (onE V T.pM T.NM S2.m s2);rw [<-htk]at HON hq0;have hq:=hq0
           have HSN:=hd_ (show mvF V T S' v3.2 2=(⟨S2.l,S2.o,tk.1⟩,tk.2) by
             have e:=HMV.out;(have e1:S2=(mvF V T S' v3.2 1).1:=by rw [e]);(have e2:s2=(mvF V T S' v3.2 1).2:=by rw [e])
             rw [htk,e1,e2];rfl)
           have HQ5:=hd_ (show Sts.ok T ⟨S2.l,S2.o,tk.1⟩from⟨HK2'.out.1,HK2'.out.2.1,hq⟩);have HON:=hd_ HON;clear hq hq0 htk;go_wp2_with fail;refine HON.out.mono ?_;rintro e w11 ⟨rfl,u11,r11,b11⟩;have HR11:=hd_ r11;have HB11:=hd_ b11;have HU11:=hd_ (HUQ.out.trans' u11);clear u11 r11 b11 p0 p1 p2;go_wp2_with fail;go_roundg 1
           case measure=>omega
           case rel=>exact⟨2,_,_,rfl,by go_num,HSN.out,HQ5.out,HU11.out,by simpa using HB11.out,HR11.out⟩
         . obtain rfl:gk=1:=by omega
           clear hf2;have HON:=HOO.out _ s2 S2.o _ HRQ.out HUW2.out HK2'.out.2.1 HBQ.out (by simp) (by simp);have hq0:(onE V T.pO T.NO S2.o s2).1<2^T.pO:=VZ HT.out.wide.2.1 HK2'.out.2.1 V s2;obtain⟨tk,htk⟩:=nm_ (onE V T.pO T.NO S2.o s2);rw [<-htk]at HON hq0;have hq:=hq0
           have HSN:=hd_ (show mvF V T S' v3.2 3=(⟨S2.l,tk.1,S2.m⟩,tk.2) by
             have e:=HMV.out;(have e1:S2=(mvF V T S' v3.2 2).1:=by rw [e]);(have e2:s2=(mvF V T S' v3.2 2).2:=by rw [e])
             rw [htk,e1,e2];rfl)
           have HQ5:=hd_ (show Sts.ok T ⟨S2.l,tk.1,S2.m⟩from⟨HK2'.out.1,hq,HK2'.out.2.2⟩);have HON:=hd_ HON;clear hq hq0 htk;go_wp2_with fail;refine HON.out.mono ?_;rintro e w11 ⟨rfl,u11,r11,b11⟩;have HR11:=hd_ r11;have HB11:=hd_ b11;have HU11:=hd_ (HUQ.out.trans' u11);clear u11 r11 b11 p0 p1 p2;go_wp2_with fail;go_roundg 0
           case measure=>omega
           case rel=>exact⟨3,_,_,rfl,by go_num,HSN.out,HQ5.out,HU11.out,by simpa using HB11.out,HR11.out⟩
         have hmm:Z7 V T S' v3.2=(S2,s2):=HMV.out;have HMM:=hd_ hmm;(obtain rfl:gk=0:=by omega);clear hf2 hmm;go_wp2_with fail;go_roundg (gq-1)
         case measure=>omega
         case rel =>
           have h1:=HX1.out;have h2:=HX2.out;obtain⟨q,rfl⟩:∃q,gq=q+1:=⟨gq-1,by omega⟩;rw [V7 V T q S' s' he (by omega),HONE.out]at h1 h2;simp only [HMM.out]at h1 h2;refine⟨outs++[⟨v3.1,ln,v1.1⟩],S2,s2,by have:=HF0.out;simp;omega,HK2'.out,HO10.out.upd HUQ.out (fun b hb e=>by have:=HGN9.out b hb;omega),HOG.out,HU10.out.trans' HUQ.out,HBQ.out,HRQ.out,?_,?_⟩
           . simpa using h1
           simpa using h2
     (have hne:((s'.2:Int) == 0)=false:=by simpa using he)
     have HEND:=hd_ (show outs=X.1/\s'=X.2 by
       have h1:=HX1.out;have h2:=HX2.out;rw [ZP V T gk S' s' (.inr he)]at h1 h2
       exact⟨by simpa using h1,h2⟩)
     have hal:AL=(outs,s'.1,if s'.2=0/\s'.1≠0 then 14 else s'.2):=by
       have h:=HAL.out;rw [<-HEND.out.1,<-HEND.out.2]at h;exact h
     have hU:Upd (fun b=>b=g\/b=k) w wr:=(F0.out.mono (T:=fun b=>b=g\/b=k) fun _ _ h=>h.elim).trans (HU2.out.trans' HU.out) (fun b hb e=>by have:=HH.out;rcases e with e|e|e;exact .inl e;exact .inr e;omega);(have hO:∀b,(Value.slice Ao no co).ownBlock=some b->w.heap.size<=b:=fun b hb=>by have h1:=HOB.out b hb;have h2:=HK2.out;have h3:=HU2.out.size;have h4:=F0.out.size;omega);go_wp2_with fail;(try go_ret);refine hR.out _ _ ⟨_,rfl,?_,hO,hU,?_⟩
     . rw [hal];exact HOW.out
     rw [hal,if_neg (by simp [he])];exact HSR.out
theorem Q4y:(Tryz.prog.info? 23).map (fun i=>(i.zero,i.size,i.bytes))=some (some (.agg #[.int .i64 0,.int .i64 0,.int .i64 0]),3,24):=by kernel_rfl
section
variable {P:Program} (w:World)
theorem Q3u {ops:Array Oper} {o:Oper} {a:Act} {K:Act->World->Prop} {Q:Exit->Act->World->Prop} {E:Prop} (hgd:o.guard=none) (s x:Operand) (t:TypeId)
   (ho:o.op = .call { callee:=.builtin .append,args:=#[s,x],argTypes:=#[t,t] }) (e:TypeId) (z:Value) (k Q9:Nat) (ht:P.underlying t=some (.slice e)) (hi:(P.info? e).map (fun i=>(i.zero,i.size,i.bytes))=some (some z,k,Q9)) (hzs:z.cells.size=k) (hk:0<k) (hby:Q9<=1024)
   (v:Value) (rows:List (List Value)) (hs:a.eval s=v) (hown:QI w e k v rows) (kb cap:Nat) (row:List Value) (hrow:row.length=k) (h1:∀u∈row,u.oneCell'=true) (hx:a.eval x = .slice (some ⟨kb,0,none⟩) 1 cap) (hb:Blk w kb e row.toArray) (hlen:rows.length<=2^30)
   (h:∀g cap w',QI w' e k (.slice (some ⟨g,0,none⟩) (rows.length+1) cap) (rows++[row])->w.grownBy w' v.ownBlock->(v.ownBlock=some g\/g=w.heap.size)->g<w'.heap.size->K (a.put o.dst (.slice (some ⟨g,0,none⟩) (rows.length+1) cap)) w') :
   if Region.wanted o (yielded ops a.tmps)=true then Oper.wp P o a w K Q else E:=by
 obtain⟨i,hi0,hz,hsize,hbyt⟩:=info_parts hi
 have hcells:∀(j:Nat) u,row[j]?=some u->w.cell? ((⟨kb,0,none⟩:Addr).add j)=some u:=by
   intro j u hu;rw [Addr.add_lit,hb.cells j u (by simpa using hu)]
 have hmul:(rows.length+1)*Q9<=140737488355328:=Nat.le_trans (Nat.mul_le_mul (show rows.length+1<=2^30+1 by omega) hby) (by decide);refine step_append_lies w hgd s x _ ho 0 e i z k Q9 ht hi0 hz hsize hbyt hzs hk v rows.length _ hs hown.1 ⟨kb,0,none⟩ 1 cap row hx (by omega) hcells h1 (by omega) (by simp only [maxLen];omega) hmul (Nat.zero_le _) _ rfl ?_;intro g cap w' h2 h3 h4 h5;refine h g cap w' ⟨?_,?_⟩ h3 h4 h5
 . rw [List.flatten_append,List.length_append]
   simpa using h2
 intro r hr;rcases List.mem_append.1 hr with hr|hr
 . exact hown.2 r hr
 rw [List.mem_singleton.1 hr];exact hrow
end
def Q4z (F:Nat->Prop) (g:Nat) (bs:List Nat) (r:Int × List (Int × Int × Int) × Int × Int × Int) (w:World) (e:Ending) (w':World):Prop :=
  Upd (fun b=>b=g) w w'/\(if r.1=0 then ∃v,e = .returned (.tuple #[v,.agg #[.int .i64 r.2.2.1,.int .i64 r.2.2.2.1,.int .i64 r.2.2.2.2],.int .i64 0])/\QI w' 23 3 v (r.2.1.map tri)/\(∀b,v.ownBlock=some b->w.heap.size<=b)/\Qk w' F g bs bs.length
    else ∃x y z,e = .returned (.tuple #[.slice none 0 0,.agg #[.int .i64 x,.int .i64 y,.int .i64 z],.int .i64 r.1]))
theorem Q1R (w:World) (H:Nat) (v0 v1 v2:Value):Upd (fun b=>b=H) w (((w.setCell ⟨H,0,none⟩ v0).setCell ⟨H,1,none⟩ v1).setCell ⟨H,2,none⟩ v2) :=
 (((Upd.refl (fun b=>b=H) w).setCell (p:=⟨H,0,none⟩) (fun _=>rfl) _).setCell (p:=⟨H,1,none⟩) (fun _=>rfl) _).setCell (p:=⟨H,2,none⟩) (fun _=>rfl) _
theorem Blk.set3 {w:World} {H:Nat} {t:TypeId} {a0 a1 a2:Value} (h:Blk w H t #[a0,a1,a2]) (v0 v1 v2:Value) :
   Blk (((w.setCell ⟨H,0,none⟩ v0).setCell ⟨H,1,none⟩ v1).setCell ⟨H,2,none⟩ v2) H t #[v0,v1,v2]:=by
 have:=((h.set_ 0 v0).set_ 1 v1).set_ 2 v2;simpa using this
theorem Q9z (F G:Nat->Prop) (g:Nat) (bs:List Nat) (at_ num:Nat) (A B C:Option Addr) (n' c m d k' e:Nat) (T:QJ) (r0 r1 r2:Int) (w:World) (hcu:Qk w F g bs at_) (hF:∀b,F b->b≠g) (hT:T.ok)
   (h1:Rd w G A n' (Q2 T.NL)) (h2:Rd w G B m (Q2 T.NO)) (h3:Rd w G C k' (Q2 T.NM)) (f1:Fit T.NL) (f2:Fit T.NO) (f3:Fit T.NM) (b1:(n':Int)<=1099511627776) (b2:(m:Int)<=1099511627776) (b3:(k':Int)<=1099511627776)
   (hnum:num<=65536) (hrep:Qz r0 r1 r2=true) :
   Calls Tryz.prog 38 #[.pointer (some ⟨g,0,none⟩),.agg #[.int .i64 (T.pL:Nat),.slice A n' c,.int .i64 (T.pO:Nat),.slice B m d,.int .i64 (T.pM:Nat),.slice C k' e],.int .i64 (num:Nat),.agg #[.int .i64 r0,.int .i64 r1,.int .i64 r2]] w (Q4z F g bs (Zz (bs.drop at_) T num r0 r1 r2) w):=by
 (have hlt:∀b∈bs,b<256:=by obtain⟨_,_,_,_,h,_⟩:=hcu;exact h);(have hle:at_<=bs.length/\bs.length<=2^32:=by obtain⟨_,_,_,_,_,h5,h6,_⟩:=hcu;exact⟨h5,h6⟩);have hgl:=hcu.lt;obtain⟨w0,hw0⟩:=nm_ (((w.alloc (.cells #[.int .i64 (T.pL:Nat),.slice A n' c,.int .i64 (T.pO:Nat),.slice B m d,.int .i64 (T.pM:Nat),.slice C k' e] 69)).alloc (.cells #[.int .i64 r0,.int .i64 r1,.int .i64 r2] 30)).alloc (.cells #[.int .i64 0,.int .i64 0,.int .i64 0] 30));obtain⟨H,hH⟩:=nm_ (w.heap.size);(have f0:Q0 w w0:=by rw [hw0];exact(((Upd.refl _ _).alloc _).alloc _).alloc _);(have bt:Blk w0 H 69 #[.int .i64 (T.pL:Nat),.slice A n' c,.int .i64 (T.pO:Nat),.slice B m d,.int .i64 (T.pM:Nat),.slice C k' e]:=by rw [hw0];exact((Q1 hH _ _).alloc _).alloc _);(have ba:Blk w0 (H+1) 30 #[.int .i64 r0,.int .i64 r1,.int .i64 r2]:=by rw [hw0];exact(Q1 (by simp [hH]) _ _).alloc _);(have bo:Blk w0 (H+1+1) 30 #[.int .i64 0,.int .i64 0,.int .i64 0]:=by rw [hw0];exact Q1 (by simp [hH]) _ _);(have hs0:w0.heap.size=H+3:=by rw [hw0,hH];simp);have HCU:=hd_ (hcu.both.fresh f0);have HTR:=hd_ (Q1w G A B C n' c m d k' e T w0 hT (h1.fresh f0) (h2.fresh f0) (h3.fresh f0) f1 f2 f3 b1 b2 b3);have HF:=hd_ hF;have HLT:=hd_ (show ∀b∈bs.drop at_,b<256 from fun b hb=>hlt b (List.mem_of_mem_drop hb));have HLE:=hd_ hle;have HGL:=hd_ (show g<H by rw [hH];exact hgl);have HT:=hd_ hT;have HREP:=hd_ hrep;have HW:=hd_ hw0;have HH:=hd_ hH;have F0:=hd_ f0;have BT:=hd_ bt;have BA:=hd_ ba;have BO:=hd_ bo;have HS0:=hd_ hs0;have HCL:=hd_ (KP (fun b=>F b/\b<w.heap.size) g bs at_);have HCB:=hd_ (fun W hW=>Q29 (fun b=>F b/\b<w.heap.size) g bs at_ (bs.length-at_) W hW (by omega) (fun b hb=>hF b hb.1));obtain⟨x0,x1,x2,x3,x4,x5⟩:=(bt).cells6;clear hcu h1 h2 h3 f1 f2 f3 b1 b2 b3 hF hlt hle hgl hT hrep hw0 hH f0 bt ba bo hs0;refine Q6 fun R hR=>?_;go_enter Tryz.func38,Tryz.ntmps38;go_upto_region 1 with fail;simp only [<-HH.out,<-HW.out];go_wp2_with fail;refine HTR.out.mono ?_;rintro e1 w1 ⟨v0,v1,v2,rfl,p0,p1,p2,f1⟩;obtain⟨g0,rfl,c0⟩:=p0;obtain⟨g1,rfl,c1⟩:=p1;obtain⟨g2,rfl,c2⟩:=p2;have C0:=hd_ (c0.mono (G:=fun b=>H+3<=b/\b<w1.heap.size) (fun b hb hl=>⟨by rw [<-HS0.out];exact hb,hl⟩));have C1:=hd_ (c1.mono (G:=fun b=>H+3<=b/\b<w1.heap.size) (fun b hb hl=>⟨by rw [<-HS0.out];exact hb,hl⟩));have C2:=hd_ (c2.mono (G:=fun b=>H+3<=b/\b<w1.heap.size) (fun b hb hl=>⟨by rw [<-HS0.out];exact hb,hl⟩));have F1:=hd_ f1;clear c0 c1 c2 f1 x0 x1 x2 x3 x4 x5 HTR;go_upto_region 2 with fail;obtain⟨K,hK⟩:=nm_ (w1.heap.size);obtain⟨w2,hw2⟩:=nm_ (w1.alloc (.cells #[.pointer (some ⟨g0,0,none⟩),.int .i64 0,.pointer (some ⟨g1,0,none⟩),.int .i64 0,.pointer (some ⟨g2,0,none⟩),.int .i64 0] 96))
 simp only [<-hK,<-hw2];(have f2:Q0 w1 w2:=by rw [hw2];exact(Upd.refl _ _).alloc _);have HK2:=hd_ (show Blk w2 K 96 #[.pointer (some ⟨g0,0,none⟩),.int .i64 0,.pointer (some ⟨g1,0,none⟩),.int .i64 0,.pointer (some ⟨g2,0,none⟩),.int .i64 0] by rw [hw2];exact Q1 hK _ _);have HK1:=hd_ hK;have F2:=hd_ (F1.out.trans' f2);have FC:=hd_ f2;clear hK hw2 f2;go_wp2_with fail;refine(HCL.out w2 (HCU.out.fresh F2.out)).mono ?_;rintro e1 w3 ⟨rfl,q3,rfl⟩;have F3:=hd_ (F2.out.drewN q3);have FC3:=hd_ (FC.out.drewN q3);have HK3:=hd_ (HK2.out.drewN q3);generalize w2.drewN q3=w3 at *;go_wp2_with fail;refine(HCB.out w3 (HCU.out.fresh F3.out)).mono ?_;rintro e1 w4 ⟨vb,rfl,ob,u4,c4⟩;rw [List.take_of_length_le (by simp)]at ob;obtain⟨Ab,nb,cb,rfl,hnb⟩:=ob.form';obtain⟨hnb1,hcb,rb⟩:=ob.rd rfl;have rb2:=rb.mono (G:=fun _=>True) (fun _ _=>trivial);rw [<-hnb1]at rb2;have HNB:=hd_ (fun W (f:Q0 w4 W)=>Q3O (fun _=>True) Ab nb cb (bs.drop at_) W (rb2.fresh f) HLT.out (by have:=HLE.out;simp;omega));have HU4:=hd_ ((F3.out.mono (T:=fun b=>b=g) fun _ _ h=>h.elim).trans' u4);(have e4:at_+(bs.length-at_)=bs.length:=by have:=HLE.out;omega);rw [e4]at c4;have HC4:=hd_ c4;have HU34:=hd_ u4;clear ob u4 c4 rb rb2 hnb1 hcb hnb e4;obtain⟨BS,hBS⟩:=nm_ (bs.drop at_);rw [<-hBS]at HNB HLT hR;have HBS:=hd_ hBS;clear hBS;by_cases hz:(BS.getLast?).getD 0=0
 . have HNB2:=hd_ (HNB.out w4 (Upd.refl _ _))
   simp only [if_pos hz]at HNB2;have HE:=hd_ (show Zz BS T num r0 r1 r2=(14,[],0,0,0) by unfold Zz;rw [if_pos hz]);clear HNB;go_wp2_with fail;refine HNB2.out.mono ?_;rintro e1 w5 ⟨rfl,f5⟩;have HU5:=hd_ (HU4.out.trans' (f5.mono (T:=fun b=>b=g) fun _ _ h=>h.elim));have a5:=BA.out.upd HU5.out (by have:=HGL.out;omega);have o5:=BO.out.upd HU5.out (by have:=HGL.out;omega);clear f5;have HUV:=hd_ ((F0.out.mono (T:=fun b=>b=g) fun _ _ h=>h.elim).trans' HU5.out);have y0:=a5.cell 0;have y1:=a5.cell 1;have y2:=a5.cell 2;have x0:=o5.cell 0;have x1:=o5.cell 1;have x2:=o5.cell 2;have z0:=o5.frozen 0;have z1:=o5.frozen 1;have z2:=o5.frozen 2;simp at y0 y1 y2 x0 x1 x2;have hO:=o5.set3 (.int .i64 r0) (.int .i64 r1) (.int .i64 r2);obtain⟨d0,d1,d2⟩:=(hO.drew).cells3;have HD:=hd_ (And.intro d0 (And.intro d1 d2));have HUF:=hd_ (HUV.out.trans (Q1R w5 (H+1+1) (.int .i64 r0) (.int .i64 r1) (.int .i64 r2)) (fun b hb e=>by have:=HH.out;omega)).drew;clear a5 o5 hO d0 d1 d2;go_wp2_with fail;go_region;(all_goals go_wp2_with fail);obtain⟨d0,d1,d2⟩:=HD.out;refine bodyPost_ret (v:=.tuple #[.slice none 0 0,.agg #[.int .i64 r0,.int .i64 r1,.int .i64 r2],.int .i64 14]) (by simp [results,Tryz.results38,go_sem,d0,d1,d2]) rfl ?_;refine hR.out _ _ ⟨HUF.out,?_⟩;rw [HE.out,if_neg (by simp)];exact⟨r0,r1,r2,rfl⟩
 have HNB2:=hd_ (HNB.out w4 (Upd.refl _ _));simp only [if_neg hz]at HNB2
 have hrow:Zz BS T num r0 r1 r2=if(ZT (Qu BS) T num (YC BS)).2.2≠0 then((ZT (Qu BS) T num (YC BS)).2.2,[],0,0,0)else YS r0 r1 r2 (ZT (Qu BS) T num (YC BS)).1:=by
   unfold Zz;rw [if_neg hz]
 have HGD:=hd_ (Q6S HT.out (Qu BS) num (YC BS));have HLN:=hd_ (Q8o (Qu BS) T num (YC BS));have hrd:=fun F' G' g' k' w' h1 h2 h3 h4 h5 c0 c1 c2 h6=>Q8s F' G' g' k' BS (YC BS) num g0 g1 g2 T w' h1 h2 h3 h4 h5 c0 c1 c2 h6 HT.out hnum;obtain⟨AL,hAL⟩:=nm_ (ZT (Qu BS) T num (YC BS));rw [<-hAL]at hrow HGD HLN;simp only [<-hAL]at hrd;have HRD:=hd_ hrd;have HROW:=hd_ hrow;have HNUM:=hd_ hnum;clear HNB hrow hrd hAL hnum;generalize YC BS=tc at *;go_wp2_with fail;refine HNB2.out.mono ?_;rintro e1 w5 ⟨kb,rfl,hkb,f5,bw5⟩;have HU5:=hd_ (HU4.out.trans' (f5.mono (T:=fun b=>b=g) fun _ _ h=>h.elim));have F5:=hd_ f5;have HC5:=hd_ (HC4.out.fresh f5);have HBW:=hd_ bw5.both;have HKL:=hd_ bw5.lt;have HKB:=hd_ hkb;clear f5 bw5 hkb;go_upto_region 11 with fail;obtain⟨M,hM⟩:=nm_ (w5.heap.size);obtain⟨w6,hw6⟩:=nm_ (w5.alloc (.cells #[.pointer (some ⟨kb,0,none⟩),.int .i64 0] 119));simp only [<-hM,<-hw6];(have f6:Q0 w5 w6:=by rw [hw6];exact(Upd.refl _ _).alloc _);(have bm6:Blk w6 M 119 #[.pointer (some ⟨kb,0,none⟩),.int .i64 0]:=by rw [hw6];exact Q1 hM _ _);have HM:=hd_ hM;(have hs6:w6.heap.size=M+1:=by rw [hw6,hM];simp)
 have cup:∀(c p:Nat) (N:List Int),Qv w1 (fun b=>H+3<=b/\b<w1.heap.size) c p N->Qv w6 (fun b=>H+3<=b/\b<w1.heap.size) c p N:=fun c p N h =>
   (((h.fresh FC3.out).upd HU34.out (fun b hb _ e=>by have:=HGL.out;omega)).fresh F5.out).fresh f6
 (have hkk:w1.heap.size<=kb:=by have h1:=HKB.out;have h2:=FC3.out.size;have h3:=HU34.out.size;omega)
 have HRD2:=hd_ (HRD.out _ (fun b=>H+3<=b/\b<w1.heap.size) M kb w6 ⟨by simpa using bm6,HBW.out.fresh f6⟩ (by have:=HKL.out;omega) (fun b hb=>hb.1.2) (fun b hb=>by have:=hb.2;omega) (fun b hb=>by have:=hb.2;have:=f6.size;omega)
   (cup _ _ _ C0.out) (cup _ _ _ C1.out) (cup _ _ _ C2.out) (fun b hb=>by have h1:=HKL.out;have h2:=hb.2;omega))
 have HU6:=hd_ (HU5.out.trans' (f6.mono (T:=fun b=>b=g) fun _ _ h=>h.elim));have HC6:=hd_ (HC5.out.fresh f6);have HS6:=hd_ hs6;have HMN:=hd_ (show H+3<=kb/\kb<M/\H+3<=w1.heap.size by have h1:=F1.out.size;have h2:=HS0.out;have h3:=HKL.out;omega);have k6:=(HK3.out.upd HU34.out (by have h1:=HGL.out;have h2:=HK1.out;have h3:=F1.out.size;have h4:=HS0.out;omega)).fresh (F5.out.trans' f6);obtain⟨t0,t1,t2,t3,t4,t5⟩:=(k6).cells6;clear hM hw6 f6 bm6 hs6 cup hkk HRD C0 C1 C2;clear k6;go_wp2_with fail;refine HRD2.out.mono ?_;rintro e1 w7 ⟨v7,rfl,ov,hvb,u7,s7⟩;have HU7:=hd_ (HU6.out.trans u7 (fun b hb e=>by have h1:=HMN.out;have h2:=HS0.out;omega));have HC7:=hd_ (HC6.out.upd u7 (by have h1:=HMN.out;have h2:=HGL.out;omega) (fun b _ hb e=>by have h1:=HMN.out;have h2:=hb.2;have h3:=HH.out;omega));have a5:=BA.out.upd HU7.out (by have:=HGL.out;omega);have o5:=BO.out.upd HU7.out (by have:=HGL.out;omega);have e1:=s7.1.cell 1;simp at e1;have HS7:=hd_ s7;obtain⟨Ar,nr,cr,rfl,hnr⟩:=ov.form';obtain⟨hnr1,hcr,rr⟩:=ov.rd rfl;have HOV:=hd_ ov;have HVB:=hd_ hvb;clear u7 s7 t0 t1 t2 t3 t4 t5 HRD2 hnr;by_cases he:AL.2.2=0
 . have hL:∃L,L=AL.1:=⟨_,rfl⟩
   obtain⟨L,hL⟩:=hL;have HROW2:=hd_ (show Zz BS T num r0 r1 r2=YS r0 r1 r2 L by rw [HROW.out,if_neg (by simp [he]),hL]);rw [<-hL]at HOV HGD HLN rr hnr1;rw [List.length_map]at hnr1;rw [List.length_map,<-hnr1]at rr;have HRR:=hd_ rr;have HNR:=hd_ hnr1;have HVB2:=hd_ (fun b hb=>(⟨hvb b hb,by have h:=ov.lt hb;exact h⟩:w6.heap.size<=b/\b<w7.heap.size));rw [he]at e1;obtain⟨tot,htot⟩:=nm_ (YS r0 r1 r2 L);rw [<-htot]at HROW2;have HTOT:=hd_ htot;have HN65:=hd_ (show nr<=65536 by have h1:=HLN.out;have h2:=HNUM.out;have h3:=HNR.out;omega);clear ov hvb rr hnr1 hL HROW htot;go_wp2_with fail
   go_loopg [71,17] nr (fun f vi v wr=>∃(j:Nat) (a b c:Int) (outs:List (Int × Int × Int)),j+f=nr/\vi = .int .i64 j/\Qz a b c=true/\outs.length=j/\V8 outs (YS a b c (L.drop j))=tot /\
     Upd (fun b=>b=H+1) w7 wr/\Blk wr (H+1) 30 #[.int .i64 a,.int .i64 b,.int .i64 c]/\QI wr 23 3 v (outs.map tri)/\(∀b,v.ownBlock=some b->w7.heap.size<=b))
   case atStart=>exact⟨0,r0,r1,r2,[],by omega,rfl,HREP.out,rfl,by rw [HTOT.out,List.drop_zero];exact Q6T _ _ _ _,Upd.refl _ _,a5,QI.nil _ _ _,fun b h=>by simp [Value.ownBlock]at h⟩
   case round =>
     obtain⟨j,a,b,c,outs,hj,rfl,hrep,hol,hjo,hu,hb,ho,hob⟩:=hrel;have HUV:=hd_ (((F0.out.mono (T:=fun b=>b=g) fun _ _ h=>h.elim).trans' HU7.out).trans hu (fun b hb e=>by have:=HH.out;omega));have hsz:=hu.size;by_cases hjn:j<nr
     . have hjI:(j:Int)<nr:=by omega
       (have hjL:j<L.length:=by have:=HNR.out;omega);have hr1:=HRR.out.upd hu (fun b _ hb e=>by have h1:=(HVB2.out b hb).1;have h2:=HMN.out;have h3:=HS6.out;omega);obtain⟨xb,xo,rfl,hxF,hxl,hxc⟩:=hr1.at_ (r:=0) hjn;obtain⟨x,hx⟩:=nm_ (L[j]);(have hget:(L.map Kv)[j]'(by simpa using hjL)=Kv x:=by rw [hx,List.getElem_map]);rw [hget]at hxc;have c0:=hxc 0 (by omega);have c1:=hxc 1 (by omega);have c2:=hxc 2 (by omega);simp [Kv]at c0 c1 c2;have hgd:x.good:=HGD.out x (by rw [hx];exact List.getElem_mem hjL);(have hdr:L.drop j=x::L.drop (j+1):=by rw [hx];exact List.drop_eq_getElem_cons hjL);rw [hdr]at hjo;have HOF:=hd_ (fun W=>Q5m a b c (x.lit:Nat) (x.len:Nat) (x.val:Nat) W hrep (by omega) (by have:=hgd;unfold Qb.good at this;omega));have hw4:IntKind.i64.wrap ((j:Int)+1)=j+1:=IntWalk.i64_in _ (by have:=HN65.out;omega);have HJ:=hd_ hj;have HREP2:=hd_ hrep;have HOL:=hd_ hol;have HJO:=hd_ hjo;have HU:=hd_ hu;have HB:=hd_ hb;have HO:=hd_ ho;have HOB:=hd_ hob;clear hr1 hxF hxl hxc hget hx hgd hdr hj hrep hol hjo hu hb ho hob;go_upto_region 18 with fail;obtain⟨X,hX⟩:=nm_ (wr.heap.size);obtain⟨wx,hwx⟩:=nm_ (wr.alloc (.cells #[.int .i64 (x.lit:Nat),.int .i64 (x.len:Nat),.int .i64 (x.val:Nat)] 86));simp only [<-hX,<-hwx];(have fx:Q0 wr wx:=by rw [hwx];exact(Upd.refl _ _).alloc _);(have bx:Blk wx X 86 #[.int .i64 (x.lit:Nat),.int .i64 (x.len:Nat),.int .i64 (x.val:Nat)]:=by rw [hwx];exact Q1 hX _ _);have ab:=HB.out.fresh fx;have y0:=bx.cell 0;have y1:=bx.cell 1;have y2:=bx.cell 2;have q0:=ab.cell 0;have q1:=ab.cell 1;have q2:=ab.cell 2;simp at y0 y1 y2 q0 q1 q2;have HX:=hd_ hX;have FX:=hd_ fx;have BX:=hd_ bx;have AB:=hd_ ab;clear hX hwx fx bx ab c0 c1 c2;by_cases ho:ZI (Yq a b c (x.lit:Nat) (x.val:Nat))
       . have HOF2:=hd_ (HOF.out wx)
         unfold ZJ at HOF2;simp only [if_pos ho]at HOF2;have HJS:=hd_ (Q5B (outs:=outs) (L:=L.drop (j+1)) ho);have HRN:=hd_ (Q8p HREP2.out ho);obtain⟨off,hoff⟩:=nm_ (Yq a b c (x.lit:Nat) (x.val:Nat));obtain⟨nx,hnx⟩:=nm_ (QT a b c (x.lit:Nat) (x.val:Nat));rw [<-hoff,<-hnx]at HOF2;rw [<-hnx]at HRN;rw [<-hoff,<-hnx]at HJS;obtain⟨n1,n2,n3⟩:=nx;simp only at HOF2 HRN HJS;clear HOF ho hoff hnx;go_wp2_with fail;refine HOF2.out.mono ?_;rintro e1 w8 ⟨f8,rfl⟩;go_upto_region 19 with fail;obtain⟨Y,hY⟩:=nm_ (w8.heap.size);obtain⟨w9,hw9⟩:=nm_ (w8.alloc (.cells #[.int .i64 n1,.int .i64 n2,.int .i64 n3] 30));simp only [<-hY,<-hw9];(have f9:Q0 w8 w9:=by rw [hw9];exact(Upd.refl _ _).alloc _);(have by9:Blk w9 Y 30 #[.int .i64 n1,.int .i64 n2,.int .i64 n3]:=by rw [hw9];exact Q1 hY _ _);have bx9:=(BX.out.fresh f8).fresh f9;have ab9:=(AB.out.fresh f8).fresh f9;have FW:=FX.out.trans' (f8.trans' f9);have ov9:=HO.out.fresh FW;have hwrl:=fun b hb=>HO.out.lt (b:=b) hb
         have HN:=hd_ (show X≠H+1/\Y≠H+1/\X<w9.heap.size/\Y<w9.heap.size/\(∀b,u17.ownBlock=some b->b≠X/\b≠Y/\b≠H+1/\b<w9.heap.size)/\H+1<w9.heap.size by
           have h1:=HX.out;have h2:=f8.size;have h3:=FX.out.size;have h4:=HU7.out.size;have h5:=HS0.out;have h6:=by9.lt;have h7:=f9.size;refine⟨by omega,by omega,by omega,by omega,fun b hb=>?_,by omega⟩;have h8:=hwrl b hb;have h9:=HOB.out b hb
           omega)
         have HSX:Hid (∀W,Upd (fun b=>u17.ownBlock=some b\/b=H+1) w9 W->W.cell? ⟨X,0,none⟩=some (.int .i64 (x.lit:Nat))/\W.cell? ⟨X,1,none⟩=some (.int .i64 (x.len:Nat))/\W.cell? ⟨Y,0,none⟩=some (.int .i64 n1)/\W.cell? ⟨Y,1,none⟩=some (.int .i64 n2)/\W.cell? ⟨Y,2,none⟩=some (.int .i64 n3)):=fun W u=>by
           have hx:=bx9.upd u (by rintro(h|h);exact(HN.out.2.2.2.2.1 _ h).1 rfl;exact HN.out.1 h);have hy:=by9.upd u (by rintro(h|h);exact(HN.out.2.2.2.2.1 _ h).2.1 rfl;exact HN.out.2.1 h);exact⟨by simpa using hx.cell 0,by simpa using hx.cell 1,by simpa using hy.cell 0,by simpa using hy.cell 1,by simpa using hy.cell 2⟩
         have HFW:=hd_ FW;have HOV9:=hd_ ov9;have AB9:=hd_ ab9;(have hrl:(outs.map tri).length<=2^30:=by have h1:=HOL.out;have h2:=HN65.out;simp;omega);clear hY hw9 f9 by9 bx9 ab9 FW ov9 hwrl f8 y0 y1 y2 q0 q1 q2;go_wp2_with fail
         go_region_held3 (fun W=>W.cell? ⟨X,0,none⟩=some (.int .i64 (x.lit:Nat))/\W.cell? ⟨X,1,none⟩=some (.int .i64 (x.len:Nat))/\W.cell? ⟨Y,0,none⟩=some (.int .i64 n1)/\W.cell? ⟨Y,1,none⟩=some (.int .i64 n2)/\W.cell? ⟨Y,2,none⟩=some (.int .i64 n3))
           (first|exact HSX.out _ (Upd.refl _ _).drew|exact HSX.out _ ((Upd.refl _ _).drew.alloc _)|exact HSX.out _ ug|exact HSX.out _ (ug.trans (Q1R _ _ _ _ _) (fun b _ e=>.inr e)))
           (first
             | (refine Q3u _ rfl (.tmp 86) (.tmp 93) _ rfl 23 _ 3 24 Tryz.underlying37 Q4y rfl (by omega) (by omega) u17 _ rfl (HOV9.out.drewN 1 |>.alloc _) w9.heap.size 1 [.int .i64 (x.lit:Nat),.int .i64 (x.len:Nat),.int .i64 off] rfl (by simp [Value.oneCell']) rfl (Blk.new _ _ _) hrl ?_;intro g10 c10 w10 o10 g10u a10 l10;have ug:Upd (fun b=>u17.ownBlock=some b\/b=H+1) w9 w10:=((Upd.refl _ w9).drew.alloc _).grown g10u (fun k hk _=>.inl hk);have b10:=AB9.out.upd (S:=fun b=>u17.ownBlock=some b) (((Upd.refl _ w9).drew.alloc _).grown g10u (fun k hk _=>hk)) (fun h=>(HN.out.2.2.2.2.1 _ h).2.2.1 rfl);have t0:=b10.cell 0;have t1:=b10.cell 1;have t2:=b10.cell 2;have z0:=b10.frozen 0;have z1:=b10.frozen 1;have z2:=b10.frozen 2;simp at t0 t1 t2))
         (have er:outs.map tri++[[Value.int .i64 (x.lit:Nat),.int .i64 (x.len:Nat),.int .i64 off]]=(outs++[((x.lit:Int),(x.len:Int),off)]).map tri:=by simp [tri]);(have el:(outs.map tri).length+1=outs.length+1:=by simp);rw [er]at o10;(try rw [el]at o10);have u11:=Q1R w10 (H+1) (.int .i64 n1) (.int .i64 n2) (.int .i64 n3)
         have hog:∀b,(Value.slice (some ⟨g10,0,none⟩) (outs.length+1) c10).ownBlock=some b->w7.heap.size<=b/\b≠H+1:=by
           intro b hb;injection hb with hb;have hb':g10=b:=hb;rcases a10 with h|h
           . have h1:=HOB.out g10 h;have h2:=(HN.out.2.2.2.2.1 _ h).2.2.1;omega
           simp at h;have h1:=HN.out.2.2.1;have h2:=HX.out;have h3:=HN.out.2.2.2.2.2;omega
         have o12:=o10.upd u11 (fun b hb e=>(hog b hb).2 e);have b12:=b10.set3 (.int .i64 n1) (.int .i64 n2) (.int .i64 n3)
         have u12:Upd (fun b=>b=H+1) w7 (((w10.setCell ⟨H+1,0,none⟩ (.int .i64 n1)).setCell ⟨H+1,1,none⟩ (.int .i64 n2)).setCell ⟨H+1,2,none⟩ (.int .i64 n3)) :=
           ((HU.out.trans' (HFW.out.mono fun _ _ h=>h.elim)).trans ug (fun b hb e=>by rcases e with e|e;have h1:=HOB.out b e;omega;exact e)).trans' u11
         have HO12:=hd_ o12;have HB12:=hd_ b12;have HU12:=hd_ u12;have HOG:=hd_ (fun b hb=>(hog b hb).1);clear er el o10 u11 hog o12 b12 u12 a10 l10 g10u ug b10 t0 t1 t2 z0 z1 z2;go_wp2_with fail;go_roundg (gk-1)
         case measure=>have:=HJ.out;omega
         case rel=>exact⟨j+1,n1,n2,n3,outs++[((x.lit:Int),(x.len:Int),off)],by have:=HJ.out;omega,by go_num,HRN.out,by have:=HOL.out;simp;omega,by rw [HJS.out,HJO.out],HU12.out,HB12.out,HO12.out,HOG.out⟩
       have HOF2:=hd_ (HOF.out wx);unfold ZJ at HOF2;simp only [if_neg ho]at HOF2;have HJN:=hd_ (Q8r (outs:=outs) (L:=L.drop (j+1)) ho);clear HOF ho;go_wp2_with fail;refine HOF2.out.mono ?_;rintro e1 w8 ⟨f8,rfl⟩;go_upto_region 19 with fail;obtain⟨w9,hw9⟩:=nm_ (w8.alloc (.cells #[.int .i64 0,.int .i64 0,.int .i64 0] 30));simp only [<-hw9];(have f9:Q0 w8 w9:=by rw [hw9];exact(Upd.refl _ _).alloc _);have FW:=FX.out.trans' (f8.trans' f9);have HE:=hd_ (show Zz BS T num r0 r1 r2=(15,[],0,0,0) by rw [HROW2.out,<-HJO.out,HJN.out]);have a5:=HB.out.fresh FW;have o5:=(BO.out.upd HU7.out (by have:=HGL.out;omega)).upd (HU.out.trans' (FW.mono (T:=fun b=>b=H+1) fun _ _ h=>h.elim)) (by omega);have HUV2:=hd_ (HUV.out.trans' (FW.mono (T:=fun b=>b=g) fun _ _ h=>h.elim));(have hn1:H+1≠H+1+1:=by omega);clear hw9 f9 FW f8 y0 y1 y2 q0 q1 q2;have y0:=a5.cell 0;have y1:=a5.cell 1;have y2:=a5.cell 2;have x0:=o5.cell 0;have x1:=o5.cell 1;have x2:=o5.cell 2;have z0:=o5.frozen 0;have z1:=o5.frozen 1;have z2:=o5.frozen 2;simp at y0 y1 y2 x0 x1 x2;have hO:=o5.set3 (.int .i64 a) (.int .i64 b) (.int .i64 c);obtain⟨d0,d1,d2⟩:=(hO.drew).cells3;have HD:=hd_ (And.intro d0 (And.intro d1 d2));have HUF:=hd_ (HUV2.out.trans (Q1R w9 (H+1+1) (.int .i64 a) (.int .i64 b) (.int .i64 c)) (fun b hb e=>by have:=HH.out;omega)).drew;clear a5 o5 hO d0 d1 d2;go_wp2_with fail;go_region;(all_goals go_wp2_with fail);obtain⟨d0,d1,d2⟩:=HD.out;refine bodyPost_ret (v:=.tuple #[.slice none 0 0,.agg #[.int .i64 a,.int .i64 b,.int .i64 c],.int .i64 15]) (by simp [results,Tryz.results38,go_sem,d0,d1,d2]) rfl ?_;refine hR.out _ _ ⟨HUF.out,?_⟩;rw [HE.out,if_neg (by simp)];exact⟨a,b,c,rfl⟩
     (obtain rfl:j=nr:=by omega);(obtain rfl:gk=0:=by omega)
     have hrow:Zz BS T num r0 r1 r2=(0,outs,a,b,c):=by
       rw [HROW2.out,<-hjo,List.drop_of_length_le (by have:=HNR.out;omega)];simp [V8,YS]
     have HE:=hd_ hrow;have HO:=hd_ (fun W S (u:Upd S wr W) hs=>ho.upd u hs);have HOB:=hd_ hob;have o5':=(BO.out.upd HU7.out (by have:=HGL.out;omega)).upd hu (by omega);have HUV:=hd_ HUV.out;have y0:=hb.cell 0;have y1:=hb.cell 1;have y2:=hb.cell 2;have x0:=o5'.cell 0;have x1:=o5'.cell 1;have x2:=o5'.cell 2;have z0:=o5'.frozen 0;have z1:=o5'.frozen 1;have z2:=o5'.frozen 2;simp at y0 y1 y2 x0 x1 x2;have hO:=o5'.set3 (.int .i64 a) (.int .i64 b) (.int .i64 c);obtain⟨d0,d1,d2⟩:=(hO.drew).cells3;have HD:=hd_ (And.intro d0 (And.intro d1 d2));have hs3:=Q1R wr (H+1+1) (.int .i64 a) (.int .i64 b) (.int .i64 c);have HS3:=hd_ hs3;have HUF:=hd_ (HUV.out.trans hs3 (fun b hb e=>by have:=HH.out;omega)).drew;have HC:=hd_ ((HC7.out.upd hu (by have:=HGL.out;omega) (fun b _ hb e=>by have h2:=hb.2;have h3:=HH.out;omega)).upd hs3 (by have:=HGL.out;omega) (fun b _ hb e=>by have h2:=hb.2;have h3:=HH.out;omega));clear hO d0 d1 d2 o5' hs3 hjo hol hrep hrow hb hu hj ho hob hjn;go_wp2_with fail;go_region;(all_goals go_wp2_with fail);obtain⟨d0,d1,d2⟩:=HD.out;refine bodyPost_ret (v:=.tuple #[u17,.agg #[.int .i64 a,.int .i64 b,.int .i64 c],.int .i64 0]) (by simp [results,Tryz.results38,go_sem,d0,d1,d2]) rfl ?_;refine hR.out _ _ ⟨HUF.out,?_⟩;rw [HE.out,if_pos rfl];refine⟨u17,rfl,(HO.out _ _ HS3.out (fun b hb e=>?_)).drewN 1,fun b hb=>?_,(HC.out.mono fun b hb=>hb.1).fresh (Upd.refl _ _).drew⟩
     . have h1:=HOB.out b hb;have h2:=HU7.out.size;have h3:=HS0.out;omega
     have h1:=HOB.out b hb;have h2:=HU7.out.size;have h3:=HS0.out;have h4:=HH.out;omega
 (have hne:(AL.2.2 == 0)=false:=by simpa using he);(have hnt:(AL.2.2 != 0)=true:=by simpa using he);have HE:=hd_ (show Zz BS T num r0 r1 r2=(AL.2.2,[],0,0,0) by rw [HROW.out,if_pos he]);(have hmn1:M≠H+1+1:=by have:=HMN.out;omega);(have hmn2:H+1+1≠M:=by have:=HMN.out;omega);clear ov hvb rr hnr1 hcr;have HUV:=hd_ ((F0.out.mono (T:=fun b=>b=g) fun _ _ h=>h.elim).trans' HU7.out);have y0:=a5.cell 0;have y1:=a5.cell 1;have y2:=a5.cell 2;have x0:=o5.cell 0;have x1:=o5.cell 1;have x2:=o5.cell 2;have z0:=o5.frozen 0;have z1:=o5.frozen 1;have z2:=o5.frozen 2;simp at y0 y1 y2 x0 x1 x2;have hO:=o5.set3 (.int .i64 r0) (.int .i64 r1) (.int .i64 r2);obtain⟨d0,d1,d2⟩:=(hO.drew).cells3;have HD:=hd_ (And.intro d0 (And.intro d1 d2));have HUF:=hd_ (HUV.out.trans (Q1R w7 (H+1+1) (.int .i64 r0) (.int .i64 r1) (.int .i64 r2)) (fun b hb e=>by have:=HH.out;omega)).drew;clear a5 o5 hO d0 d1 d2;go_wp2_with fail;go_region;(all_goals go_wp2_with fail);obtain⟨d0,d1,d2⟩:=HD.out;refine bodyPost_ret (v:=.tuple #[.slice none 0 0,.agg #[.int .i64 r0,.int .i64 r1,.int .i64 r2],.int .i64 AL.2.2]) (by simp [results,Tryz.results38,go_sem,d0,d1,d2]) rfl ?_;refine hR.out _ _ ⟨HUF.out,?_⟩;rw [HE.out,if_neg he];exact⟨r0,r1,r2,rfl⟩
theorem Q45 (a b:Nat) (ha:a<9223372036854775808) (hb:b<9223372036854775808):bits .and .i64 (a:Int) (b:Int)=((a &&& b:Nat):Int):=by
 show IntKind.i64.wrap ((BitVec.ofInt 64 (a:Int) &&& BitVec.ofInt 64 (b:Int)).toNat:Nat)=_;rw [BitVec.toNat_and,ofInt_u64 a (by omega),ofInt_u64 b (by omega),IntKind.wrap_i64];have:=Nat.and_le_left (n:=a) (m:=b);omega
theorem Q8t (x K:Nat) (hK:K<=9) (hx:x<1024):IntKind.u64.wrap (bits .and .i64 (x:Int) (wrap64 (wrap64 (2^K)-1)))=((x%2^K:Nat):Int):=by
 have hp5:2^K<=512:=Nat.le_trans (Nat.pow_le_pow_right (by decide) hK) (by decide);have hpp:=Nat.two_pow_pos K;(have e0:((2:Int)^K)=((2^K:Nat):Int):=by simp);have hm:x &&& (2^K-1)=x%2^K:=Nat.and_two_pow_sub_one_eq_mod _ _;have hl:x%2^K<2^K:=Nat.mod_lt _ hpp;rw [e0];generalize x%2^K=r at *;generalize 2^K=q at *;(have e1:wrap64 (wrap64 (q:Int)-1)=((q-1:Nat):Int):=by unfold wrap64;omega);rw [e1,Q45 _ _ (by omega) (by omega),hm,IntKind.wrap_u64];omega
theorem Q4A (F:Nat->Prop) (g p c:Nat) (N:List Int) (w:World) (h:Qv w F g p N) (hc:c<N.length) (hn:1<=(plN p N c).length):Calls Tryz.prog 129 #[.pointer (some ⟨g,0,none⟩),.int .i64 (c:Nat)] w fun e w' =>
   ∃A n d,e = .returned (.tuple #[.slice A n d,.int .i64 0])/\n=(plN p N c).length/\Rd w F A n (Yr (plN p N c))/\w'=w:=by
 obtain⟨vc,vp,PL,h1,h2,h3,h4,h5,h6,h7,h8⟩:=h;(have hcp:c<PL.length:=by omega);obtain⟨B,d,rfl,hd,hrd⟩:=h3.form;obtain⟨b,o,rfl,_,_,hcell⟩:=hrd.at_ (k:=c) hcp;obtain⟨q1,q2⟩:=h5 c PL[c] (List.getElem?_eq_getElem hcp);rw [List.getElem?_eq_getElem hcp]at hcell;generalize PL[c]=u at *;obtain⟨A,e,rfl,he,hr⟩:=q1.form;(have hl:(Yr (Ju (Q7 p N) (c:Int) (2^p))).length=(plN p N c).length:=by simp [Yr,plN]);rw [hl]at hcell hr he q2;have c1:=h1.cell 1;simp at c1;have HR:=hd_ (show Rd w F A (plN p N c).length (Yr (plN p N c))from hr.mono fun b hb=>q2 b hb);have HPL:=hd_ h4;clear h1 h2 h3 h5 h6 h7 h8 hrd q2 hr he hl hd;obtain⟨n,hnn⟩:=nm_ ((plN p N c).length);rw [<-hnn]at hn hcell HR;have HNN:=hd_ hnn;(have hcI:(c:Int)<PL.length:=by omega);(have hc0:¬(c:Int)<0:=by omega);(have hn0:((n:Int) == 0)=false:=by simp;omega);clear hnn h4;refine Q6 fun R hR=>?_;go_enter Tryz.func129,Tryz.ntmps129;go_wp2_with fail;(try go_ret2);exact hR.out _ _ ⟨_,_,_,rfl,HNN.out,HR.out,rfl⟩
theorem Xu (F:Nat->Prop) (g p c:Nat) (N:List Int) (w:World) (h:Qv w F g p N) (hc:c<N.length) (hn:1<=(plN p N c).length):Calls Tryz.prog 78 #[.pointer (some ⟨g,0,none⟩),.int .i64 (c:Nat)] w fun e w' =>
   e = .returned (.tuple #[.int .i64 (Zi p N c:Nat),.int .i64 0])/\w'=w:=by
 have HN:=hd_ (Q02 F g p N w h);have HO:=hd_ (Q4A F g p c N w h hc hn)
 have HL:=hd_ (show((Yr (plN p N c))[0]?=some (.int .i64 (Zi p N c:Nat)))from by
   unfold Yr Zi;rw [List.getElem?_map,List.getElem?_eq_getElem (by omega)]
   rfl)
 clear h;refine Q6 fun R hR=>?_;go_enter Tryz.func78,Tryz.ntmps78;go_wp2_with fail;refine HN.out.mono ?_;rintro e w1 ⟨rfl,rfl⟩;go_wp2_with fail;refine HO.out.mono ?_;rintro e w2 ⟨A,n,d,rfl,hnn,hr,rfl⟩;obtain⟨b,o,rfl,_,_,hcell⟩:=hr.at_ (k:=0) (by omega);rw [HL.out,Nat.add_zero]at hcell;(have h0n:(0:Int)<n:=by omega);clear hr hnn;go_wp2_with fail;(try go_ret2);exact hR.out _ _ ⟨rfl,rfl⟩
theorem Q1e (F:Nat->Prop) (g p c st:Nat) (N:List Int) (w:World) (h:Qv w F g p N) (hv:Qc p N 256 9) (hc:c<N.length) (hn:1<=(plN p N c).length) (hs:st<2^p):Calls Tryz.prog 79 #[.pointer (some ⟨g,0,none⟩),.int .i64 (st:Nat),.int .i64 (c:Nat)] w fun e w' =>
   e = .returned (.tuple #[.agg #[.int .i64 (Qq p N c st:Nat),.int .u64 (QG p N c st:Nat),.int .i64 (Qs p N c st:Nat)],.int .i64 0])/\Q0 w w':=by
 obtain⟨w0,hw0⟩:=nm_ (w.alloc (.cells #[.int .i64 0,.int .u64 0,.int .i64 0] 172));obtain⟨H,hH⟩:=nm_ (w.heap.size);(have f0:Q0 w w0:=by rw [hw0];exact(Upd.refl _ _).alloc _);(have br:Blk w0 H 172 #[.int .i64 0,.int .u64 0,.int .i64 0]:=by rw [hw0];exact Q1 hH _ _);have h0:=h.fresh f0;have HST:=hd_ (Q2f F g p st N w0 h0 hs);have HO:=hd_ (Q4A F g p c N w0 h0 hc hn);obtain⟨Ac,cc,vp,hc1,-,-,-⟩:=h0.open_;obtain⟨a1,a2,a3,a4,a5,a6,a7,a8⟩:=J8 hv hc hn hs;have hle:(plN p N c).length<=2^p:=Q1N _ _ _;(have hp9:p<=9:=by have:=hv.2.1;omega);have hpw:2^p<=512:=Nat.le_trans (Nat.pow_le_pow_right (by decide) hp9) (by decide);have HK:=hd_ (show Qs p N c st=Vq (st+2^p) (plN p N c).length 11 0 from rfl);have HB:=hd_ (show QG p N c st=(st+2^p)%2^Qs p N c st from rfl)
 have HS:=hd_ (show(Yr (plN p N c))[(st+2^p) / 2^Qs p N c st-(plN p N c).length]?=some (.int .i64 (Qq p N c st:Nat))from by
   unfold Yr;rw [List.getElem?_map,List.getElem?_eq_getElem a7];unfold Qq;rw [List.getElem?_eq_getElem a7]
   rfl)
 clear a1 a2 a3 a4 a5;generalize Qs p N c st=K at *;generalize QG p N c st=bb at *;generalize Qq p N c st=ss at *;generalize plN p N c=pl at *;have HP9:=hd_ hp9;clear hv hc h h0 hp9;generalize 2^p=s at *;(have s1:IntKind.i64.wrap ((st:Int)+s)=((st+s:Nat):Int):=by rw [IntWalk.i64_in _ (by omega)];omega);(have s1':(st:Int)+s=((st+s:Nat):Int):=by omega);have HX:=hd_ (show st+s<1024 by omega);generalize st+s=x at *;have HF0:=hd_ f0;have BR:=hd_ br;have HW:=hd_ hw0;have HH:=hd_ hH;have HA:=hd_ (And.intro a6 (And.intro a7 a8));clear f0 br hw0 hH a6 a7 a8;refine Q6 fun R hR=>?_;go_enter Tryz.func79,Tryz.ntmps79;go_upto_region 1 with fail;simp only [<-HH.out,<-HW.out];go_wp2_with fail;refine HST.out.mono ?_;rintro e w1 ⟨rfl,rfl⟩;go_wp2_with fail;refine HO.out.mono ?_;rintro e w2 ⟨A,n,d,rfl,hnn,hr,rfl⟩;have HNN:=hd_ hnn;rw [<-hnn]at HK HS HA hle hn;have HRD:=hd_ hr;clear hnn hr;go_wp2_with fail;go_loopg [12] 11 (fun f v wr=>∃k:Nat,k+f=11/\v = .int .i64 k/\wr=w2/\Vq x n f k=K)
 case atStart=>exact⟨0,rfl,rfl,rfl,HK.out.symm⟩
 case round =>
   obtain⟨k,hkf,rfl,rfl,hpre⟩:=hrel;have hsh:=fun W=>Q4q (P:=Tryz.prog) x k ((x / 2^k:Nat):Int) W (by omega) (by simp);(have hnp:n<=512:=by omega);have s2:IntKind.i64.wrap (2*(n:Int))=2*(n:Int):=IntWalk.i64_in _ (by omega);have s3:IntKind.i64.wrap ((k:Int)+1)=(k:Int)+1:=IntWalk.i64_in _ (by omega);(have hxk:(((x / 2^k:Nat):Nat):Int)=(x:Int) / 2^k:=by simp);have HP:=hd_ hpre;have HKF:=hd_ hkf;clear hpre;by_cases hq:2*n<=x / 2^k
   . have hqI:(2*(n:Int))<=((x / 2^k:Nat):Int):=by omega
     rcases gk with _|gk
     . exfalso
       have:x / 2^k=0:=by
         (have h11:k=11:=by omega);subst h11;exact Nat.div_eq_of_lt (Nat.lt_of_lt_of_le HX.out (by decide))
       omega
     have HN2:=hd_ (show Vq x n gk (k+1)=K by have:=HP.out;simp only [Vq]at this;rwa [if_pos hq]at this);generalize x / 2^k=q at *;go_wp2_with fail;go_roundg gk
     case measure=>omega
     case rel=>exact⟨k+1,by omega,by go_num,rfl,HN2.out⟩
   (have hqI:¬(2*(n:Int))<=((x / 2^k:Nat):Int):=by omega)
   obtain rfl:K=k:=by
     have:=HP.out;rcases gk with _|gk
     . exact this.symm
     simp only [Vq]at this;rw [if_neg hq]at this;exact this.symm
   have HMO:=hd_ (show x%2^K=bb from HB.out.symm);obtain⟨j,hj⟩:=nm_ (x / 2^K-n);(have hjn:j<n:=by rw [hj];exact HA.out.2.1);(have hxj:(x:Int) / 2^K=n+j:=by rw [<-hxk,hj];have:=HA.out.2.2;omega);have hs':=HS.out;rw [<-hj]at hs';obtain⟨b,o,rfl,-,-,hcell⟩:=HRD.out.at_ hjn;rw [hs']at hcell;(have hjI:(j:Int)<n:=by omega);(have hj0:(0:Int)<=j:=by omega);(have s5:IntKind.i64.wrap ((n:Int)+j-n)=j:=by rw [IntWalk.i64_in _ (by omega)];omega);have z0:=BR.out.frozen 0;have z1:=BR.out.frozen 1;have z2:=BR.out.frozen 2;obtain⟨q0,q1,q2⟩:=(BR.out).cells3;(have s6:IntKind.i64.wrap ((x:Int) / 2^K-n)=j:=by rw [hxj];exact s5);clear hq hsh hxk hs' hj s5 hxj;go_wp2_with fail;go_still_tail 17,(by kernel_rfl);change wpList _ _ _ _ _ wr.drew;go_wp2_with fail
   have hand:IntKind.u64.wrap (bits .and .i64 (x:Int) (wrap64 (wrap64 (2^K)-1)))=((bb:Nat):Int):=by
     rw [Q8t x K (by have:=HA.out.1;have:=HP9.out;omega) HX.out,HMO.out]
   rw [hand]
   have BR5:Blk (((wr.setCell ⟨H,0,none⟩ (.int .i64 ss)).setCell ⟨H,1,none⟩ (.int .u64 bb)).setCell ⟨H,2,none⟩ (.int .i64 K)).drew H 172 #[.int .i64 ss,.int .u64 bb,.int .i64 K]:=by
     have h:=((BR.out.set_ 0 (.int .i64 ss)).set_ 1 (.int .u64 bb)).set_ 2 (.int .i64 K);simpa using h.drew
   refine bodyPost_ret (Q5 rfl _ _ H _ _ _ rfl BR5 Tryz.underlying172 rfl (by kernel_rfl)) rfl ?_
   have u3:Upd (fun b=>b=H) wr (((wr.setCell ⟨H,0,none⟩ (.int .i64 ss)).setCell ⟨H,1,none⟩ (.int .u64 bb)).setCell ⟨H,2,none⟩ (.int .i64 K)).drew :=
     ((((Upd.refl (fun b=>b=H) wr).setCell (p:=⟨H,0,none⟩) (fun _=>rfl) _).setCell (p:=⟨H,1,none⟩) (fun _=>rfl) _).setCell (p:=⟨H,2,none⟩) (fun _=>rfl) _).drew
   exact hR.out _ _ ⟨rfl,HF0.out.trans u3 (fun b hb h=>by have:=HH.out;omega)⟩
theorem Q1y:∀(l:List ((Int × Int × List Int) × Int)) (c:(Int × Int × List Int) × Int),YA c l∈c::l
 | [],c=>by simp [YA]
 | s::l,c=>by
   rw [YA]
   have h:=Q1y l (if s.2<c.2 then s else c)
   rcases List.mem_cons.1 h with h|h
   . rw [h];split<;>simp
   exact List.mem_cons_of_mem _ (List.mem_cons_of_mem _ h)
theorem Q8u {p:Int} {C:List Int} {cs:List (Int × Int × List Int)} {c:(Int × Int × List Int) × Int} (h:c∈Z5 p C cs):c.1∈cs/\JW p C c.1=some c.2:=by
 unfold Z5 at h;obtain⟨a,ha,hb⟩:=List.mem_filterMap.1 h;rcases hp:JW p C a with _|x
 . rw [hp]at hb;simp at hb
 rw [hp]at hb;simp at hb;subst hb;exact⟨ha,hp⟩
theorem Q2q:∀(l:List ((Int × Int × List Int) × Int)) (c s:(Int × Int × List Int) × Int),s∈c::l->(YA c l).2<=s.2
 | [],c,s,h=>by simp at h;subst h;simp [YA]
 | t::l,c,s,h=>by
   rw [YA]
   have h1:∀s,s∈(if t.2<c.2 then t else c)::l->_:=Q2q l (if t.2<c.2 then t else c)
   have h0:=h1 (if t.2<c.2 then t else c) (by simp)
   have hc:(if t.2<c.2 then t else c).2<=c.2/\(if t.2<c.2 then t else c).2<=t.2:=by split<;>omega
   rcases List.mem_cons.1 h with rfl|h
   . omega
   rcases List.mem_cons.1 h with rfl|h
   . omega
   exact h1 s (List.mem_cons_of_mem _ h)
theorem Q06 {p lg:Int} {N C:List Int} {r1 r2:Int} {r3:List Int} (hp:0<=p/\p<=2) (h:Qx p lg N C=(r1,r2,r3,0)) :
   (Qy r1 p r2 r3).1=0/\(YR r2 r3 C).2=0/\(r1,r2,r3)∈J9 p (Ql p) lg N C /\
   ∀c x,c∈J9 p (Ql p) lg N C->JW p C c=some x->(YR r2 r3 C).1+8*(Qy r1 p r2 r3).2.length<=x:=by
 have h0:Qx p lg N C=match Z5 p C (J9 p (Ql p) lg N C)with | []=>(0,0,[],2)|c::l=>((YA c l).1.1,(YA c l).1.2.1,(YA c l).1.2.2,0):=by
   unfold Qx;rw [if_neg (by omega)];(try rfl)
 rw [h0]at h
 cases hm:Z5 p C (J9 p (Ql p) lg N C)with
 | nil=>rw [hm]at h;simp at h
 | cons c l =>
   rw [hm]at h;simp only [Prod.mk.injEq,and_true]at h;obtain⟨e1,e2,e3⟩:=h;have hb:=Q1y l c;have hle:=Q2q l c;rw [<-hm]at hb hle;obtain⟨m1,m2⟩:=Q8u hb;(have hc:(YA c l).1=(r1,r2,r3):=by rw [<-e1,<-e2,<-e3]);rw [hc]at m1 m2;unfold JW at m2;simp only at m2;split at m2
   . rename_i hok
     injection m2 with m2;refine⟨hok.1,hok.2,m1,fun c' x hc' hx=>?_⟩
     have:(c',x)∈Z5 p C (J9 p (Ql p) lg N C):=by
       unfold Z5;exact List.mem_filterMap.2 ⟨c',hc',by rw [hx];rfl⟩
     have:=hle _ this;simp only at this;omega
   cases m2
theorem Q1z {lg:Int} {N:List Int}:∀(l:List Int) (i:Nat) (a r:Int),YX lg N i l a=some r->∀(j:Nat) c,l[j]?=some c->c≠0->∃v,N[i+j]?=some v/\v≠0
 | [],i,a,r,_,j,c,hj,_=>by simp at hj
 | x::l,i,a,r,h,j,c,hj,hc=>by
   rw [YX]at h
   cases j with
   | zero =>
     have hx:x=c:=by simpa using hj
     subst hx
     rw [if_neg hc]at h
     rcases hN:N[i]? with _|v
     . rw [hN]at h;cases h
     rw [hN]at h
     simp only at h
     by_cases hv:v=0
     . rw [if_pos hv]at h;cases h
     exact⟨v,by first|rfl|exact hN,hv⟩
   | succ j =>
     have hj':l[j]?=some c:=by simpa using hj
     have key:∃a',YX lg N (i+1) l a'=some r:=by
       split at h
       . exact⟨_,h⟩
       split at h
       . cases h
       split at h
       . cases h
       exact⟨_,h⟩
     obtain⟨a',ha'⟩:=key;have:=Q1z l (i+1) a' r ha' j c hj' hc
     rwa [show i+(j+1)=i+1+j by omega]
theorem Xv {lg:Int} {N:List Int}:∀(l:List Int) (i:Nat) (a:Int),(∀(j:Nat) c,l[j]?=some c->c≠0->∃v,N[i+j]?=some v/\v≠0)->∃r,YX lg N i l a=some r
 | [],i,a,_=>⟨a,rfl⟩
 | x::l,i,a,h=>by
   rw [YX]
   have h':∀(j:Nat) c,l[j]?=some c->c≠0->∃v,N[i+1+j]?=some v/\v≠0:=fun j c hj hc=>by
     have:=h (j+1) c (by simpa using hj) hc
     rwa [show i+(j+1)=i+1+j by omega]at this
   by_cases hx:x=0
   . rw [if_pos hx];exact Xv l (i+1) a h'
   rw [if_neg hx]
   obtain⟨v,hv,hv0⟩:=h 0 x rfl hx
   rw [Nat.add_zero]at hv
   rw [hv]
   simp only
   rw [if_neg hv0]
   exact Xv l (i+1) _ h'
theorem Qa0:∀v∈llN,v≠0:=by decide
theorem Qa1:∀v∈ofN,v≠0:=by decide
theorem Qa2:∀v∈mlN,v≠0:=by decide
theorem Q8v (p:Int):∀v∈Ya p,v≠0:=by
 intro v hv;unfold Ya at hv;split at hv
 . exact Qa0 v hv
 split at hv
 . exact Qa1 v hv
 exact Qa2 v hv
theorem Q6V {p:Int} (h:0<=p/\p<=2):((Ya p).length:Int)=Qj p:=by
 (rcases ZH h with rfl|rfl|rfl<;>decide +kernel)
theorem Q8w {p:Int} (hp:0<=p/\p<=2):Qy 0 p (Yi p) (Ya p)=(0,[]):=by
 unfold Qy;rw [if_neg (by omega),if_pos (Xk hp)];simp [Y7]
theorem Q5C {p x lg:Int} {N C:List Int} {r2:Int} {r3:List Int} (h:((3:Int),r2,r3)∈J9 p x lg N C):r2=lg/\r3=N:=by
 unfold J9 at h;rcases List.mem_cons.1 h with h|h
 . simp only [Prod.mk.injEq,true_and]at h;exact h
 rcases List.mem_cons.1 h with h|h
 . simp at h
 split at h
 . rw [List.mem_singleton]at h
   simp only [Prod.mk.injEq]at h;have:=h.1;(split at this<;>omega)
 cases h
theorem Q46 {C:List Int} (hC:YH C) (hu:0<QC C) (h:QC C<=512):0<=JD C 9:=by
 unfold JD
 rw [if_neg (by
   (have e:(2:Int)^(9:Int).toNat=512:=by decide);rw [e];intro h1;rcases h1 with h1|h1|h1
   . exact h1 ⟨hC,hu⟩
   . omega
   omega)]
 (split<;>omega)
theorem Q3v {p lg:Int} {N C:List Int} (hp:0<=p/\p<=2) (hC:YH C) (hu:0<QC C) (h512:QC C<=512) (hs:∀(j:Nat) c,C[j]?=some c->c≠0->(j:Int)<Qj p):(Qx p lg N C).2.2.2=0:=by
 have h1:(YR (Yi p) (Ya p) C).2=0:=by
   unfold YR;rw [if_pos ⟨Ko (Xk hp),Q46 hC hu h512⟩]
   obtain⟨r,hr⟩:=Xv (lg:=Yi p) (N:=Ya p) C 0 0 (fun j c hj hc=>by
     have hl:=hs j c hj hc;have h2:=Q6V hp;(have hl2:0+j<(Ya p).length:=by omega)
     exact⟨_,List.getElem?_eq_getElem hl2,Q8v p _ (List.getElem_mem hl2)⟩)
   rw [hr]
 (have h2:(Qy 0 p (Yi p) (Ya p)).1=0:=by rw [Q8w hp])
 have hm:((0,Yi p,Ya p),(YR (Yi p) (Ya p) C).1+8*(Qy 0 p (Yi p) (Ya p)).2.length)∈Z5 p C (J9 p (Ql p) lg N C):=by
   unfold Z5;refine List.mem_filterMap.2 ⟨(0,Yi p,Ya p),by unfold J9;simp,?_⟩;unfold JW;rw [if_pos ⟨h2,h1⟩];rfl
 unfold Qx;rw [if_neg (by omega)];split
 . next h=>rw [h]at hm;cases hm
 rfl
theorem Q5D {p lg:Int} {N C:List Int} (hp:0<=p/\p<=2) (h:(Qx p lg N C).2.2.2=0) :
   (0<=(Qx p lg N C).1/\(Qx p lg N C).1<=3)/\Qc (Qx p lg N C).2.1 (Qx p lg N C).2.2.1 (Qj p) (Ql p)/\(Qy (Qx p lg N C).1 p (Qx p lg N C).2.1 (Qx p lg N C).2.2.1).1=0 /\
   ((Qx p lg N C).1=3->lg=(Qx p lg N C).2.1/\N=(Qx p lg N C).2.2.1) /\
   ∀(j:Nat) c,C[j]?=some c->c≠0->j<(Qx p lg N C).2.2.1.length/\1<=(plN (Qx p lg N C).2.1.toNat (Qx p lg N C).2.2.1 j).length:=by
 obtain⟨r1,r2,r3,r4,hr⟩:∃r1 r2 r3 r4,Qx p lg N C=(r1,r2,r3,r4):=⟨_,_,_,_,rfl⟩;rw [hr]at h;simp only at h;subst h;obtain⟨h1,h2,h3,_⟩:=Q06 hp hr;rw [hr];simp only;obtain⟨a1,a2,_,_,hv,_⟩:=Q4n h1;refine⟨⟨a1,a2⟩,hv,h1,fun e=>?_,fun j c hj hc=>?_⟩
 . subst e
   obtain⟨e1,e2⟩:=Q5C h3;exact⟨e1.symm,e2.symm⟩
 unfold YR at h2;split at h2
 . rcases hg:YX r2 r3 0 C 0 with _|a
   . rw [hg]at h2;simp at h2
   obtain⟨v,hv1,hv0⟩:=Q1z C 0 0 a hg j c hj hc;rw [Nat.zero_add]at hv1;obtain⟨hl,hget⟩:=List.getElem?_eq_some_iff.1 hv1;refine⟨hl,?_⟩;have hw:=Ko hv;have h0:=hw.1;obtain⟨q,rfl⟩:∃q:Nat,r2=q:=⟨r2.toNat,by omega⟩;have:=Q2j hw hl;rw [Int.toNat_natCast];rw [hget]at this;(have ha:1<=QO v:=by unfold QO;split<;>omega);omega
 simp at h2
theorem Q9A (B0 D:List Nat):YQ (B0++D) B0.length=D.take 1024:=by
 unfold YQ;rw [List.drop_left]
theorem Q9B (B0:List Nat) (x:Nat) (l:List Nat):(B0++x::l)[B0.length]?=some x:=by
 rw [List.getElem?_append_right (Nat.le_refl _),Nat.sub_self];rfl
theorem Q1f {m p lg l0:Int} {N N0:List Int} (h:(Qy m p lg N).1=0) (h3:m=3->l0=lg/\N0=N) (B0 bs:List Nat) :
   YI m p l0 N0 (B0++((Qy m p lg N).2++bs)) B0.length=(0,lg,N,(Qy m p lg N).2.length):=by
 obtain⟨a1,a2,a3,a4,hv,he⟩:=Q4n h;rw [he]at h ⊢;(have hd:∀l k,YI m p l0 N0 l k=QR m p l0 N0 l k:=fun l k=>by unfold YI;exact if_neg (by omega));rw [hd];clear hd he;(have:m=0\/m=1\/m=2\/m=3:=by omega);rcases this with rfl|rfl|rfl|rfl
 . by_cases hq:Yi p=lg/\Ya p=N
   . have e:Y7 0 p lg N=(0,[]):=by simp [Y7,hq]
     rw [e];simp [QR,hq.1,hq.2]
   simp [Y7,hq]at h
 . by_cases hq:lg=0/\N[N.length-1]?=some 1
   . have e:Y7 1 p lg N=(0,[N.length-1]):=by simp [Y7,hq]
     rw [e];have hs:=hv.2.2.2.2.2.2.2;rw [hq.1]at hs;have hone:=Q5j hv.2.2.2.1 hs hq.2;have h2:=hv.2.2.2.2.1;have h3:=hv.2.2.2.1
     have ho:Zu (B0++([N.length-1]++bs)) B0.length (Qj p)=(0,K7 (N.length-1),1):=by
       unfold Zu;rw [if_pos (by simp)]
       have:(B0++([N.length-1]++bs))[B0.length]?.getD 0=N.length-1:=by
         rw [List.singleton_append,Q9B];rfl
       rw [this,if_neg (by omega)]
     show((Zu (B0++([N.length-1]++bs)) B0.length (Qj p)).1,(0:Int),(Zu (B0++([N.length-1]++bs)) B0.length (Qj p)).2.1,(Zu (B0++([N.length-1]++bs)) B0.length (Qj p)).2.2)=(0,lg,N,1);rw [ho,<-hone,hq.1]
   simp [Y7,hq]at h
 . by_cases hq:lg≠0
   . have e:Y7 2 p lg N=(0,QN (QX lg.toNat N)):=by simp [Y7,hq]
     rw [e];obtain⟨q,rfl⟩:∃q:Nat,lg=q:=⟨lg.toNat,by have:=hv.1;omega⟩;have hv2:=Ko hv;have hle:=Q2x hv2;rw [Int.toNat_natCast];have hb:=Q5W (sy:=Qj p) (lb:=Ql p) hv2 (by omega) hv.2.2.2.2.1 hv.2.1 (bs.take (1024-(QN (QX q N)).length));show Zg (B0++(QN (QX q N)++bs)) B0.length (Qj p) (Ql p)=_;unfold Zg;rw [Q9A,List.take_append,List.take_of_length_le (by omega),hb]
   simp [Y7,hq]at h
 (have e:Y7 3 p lg N=(0,[]):=by simp [Y7]);rw [e];obtain⟨e1,e2⟩:=h3 rfl;subst e1 e2;simp [QR,hv]
def Qb.c (x:Qb) (i:Nat):Nat:=if i=0 then x.cL else if i=1 then x.cO else x.cM
def QY (i:Nat) (l:List Qb):List Int:=(List.range 44).map fun c=>((l.countP fun x=>x.c i == c:Nat):Int)
@[simp] theorem VS (i:Nat) (l:List Qb):(QY i l).length=44:=by simp [QY]
theorem K9 (i:Nat) (l:List Qb) (c:Nat) (h:c<44):(QY i l)[c]?=some ((l.countP fun x=>x.c i == c:Nat):Int):=by
 unfold QY;rw [List.getElem?_map,List.getElem?_range h];rfl
theorem Q8x (i:Nat):QY i []=List.replicate 44 0:=by
 unfold QY;simp [List.map_const']
theorem Q07 (i:Nat) (l:List Qb) (x:Qb) (h:x.c i<44):QY i (l++[x])=(QY i l).set (x.c i) (((l.countP fun y=>y.c i == x.c i:Nat):Int)+1):=by
 apply List.ext_getElem?;intro c;rw [List.getElem?_set];by_cases hc:c<44
 . rw [K9 i _ c hc,List.countP_append]
   by_cases hx:x.c i=c
   . subst hx
     rw [if_pos rfl,if_pos (by simpa using h)];simp
   rw [if_neg hx,K9 i l c hc];simp [hx]
 rw [List.getElem?_eq_none (by simp;omega),if_neg (by omega),List.getElem?_eq_none (by simp;omega)]
theorem Q0n {x:Qb} (h:x.ok) (i:Nat):x.c i<44/\(i=1->x.c i<28):=by
 obtain⟨h1,h2,h3,_⟩:=QD h;unfold Qb.c;refine⟨by split;omega;split<;>omega,fun e=>by subst e;simpa using h3⟩
theorem Q0G {M:Int}:∀(l:List Int),(∀x∈l,x<=M)->l.sum<=l.length*M
 | [],_=>by simp
 | x::l,h=>by
   have h1:=Q0G l fun y hy=>h y (List.mem_cons_of_mem _ hy)
   have h2:=h x (by simp)
   rw [List.sum_cons,List.length_cons]
   have h3:(((l.length+1:Nat):Int))*M=(l.length:Int)*M+M:=by
     rw [Int.natCast_add,Int.add_mul];simp
   omega
theorem VA {i:Nat} {l:List Qb} (hl:l.length<=65536):∀x∈QY i l,0<=x/\x<=65536:=by
 intro x hx;unfold QY at hx;obtain⟨c,_,rfl⟩:=List.mem_map.1 hx;have:=List.countP_le_length (p:=fun x:Qb=>x.c i == c) (l:=l);omega
theorem Qa3 {i:Nat} {l:List Qb} (hl:l.length<=65536):YH (QY i l):=by
 refine⟨fun c hc=>(VA hl c hc).1,?_⟩;have:=Q0G (QY i l) fun x hx=>(VA hl x hx).2;rw [VS]at this;omega
theorem Q1S {i:Nat} {l:List Qb} (hl:l.length<=65536):Fit (QY i l):=fun y hy=>by
 have:=VA hl y hy
 omega
theorem Q4B {i:Nat} {l:List Qb} {x:Qb} (hx:x∈l) (h:x.c i<44):∃c,(QY i l)[x.c i]?=some c/\c≠0:=by
 refine⟨_,K9 i l _ h,?_⟩;have:0<l.countP fun y=>y.c i == x.c i:=List.countP_pos_iff.2 ⟨x,hx,by simp⟩;omega
theorem Q8y {i:Nat} {l:List Qb} (hl:l.length<=65536) (hne:l≠[]) (hok:∀x∈l,x.ok):0<QC (QY i l)/\QC (QY i l)<=512:=by
 constructor
 . obtain⟨x,l',rfl⟩:=List.exists_cons_of_ne_nil hne
   obtain⟨c,h1,h2⟩:=Q4B (i:=i) (l:=x::l') (x:=x) (by simp) (Q0n (hok x (by simp)) i).1;have hm:=List.mem_of_getElem? h1;have h3:=(VA hl c hm).1;exact List.countP_pos_iff.2 ⟨c,hm,by simp;omega⟩
 have:=List.countP_le_length (p:=fun c:Int=>decide (0<c)) (l:=QY i l);rw [VS]at this;unfold QC;omega
theorem Q8z {i:Nat} {l:List Qb} (hi:i<=2) (hok:∀x∈l,x.ok):∀(j:Nat) c,(QY i l)[j]?=some c->c≠0->(j:Int)<Qj i:=by
 intro j c hj hc;have hl:=(List.getElem?_eq_some_iff.1 hj).1;rw [VS]at hl;rw [K9 i l j hl]at hj;injection hj with hj;(have hpos:0<l.countP fun y=>y.c i == j:=by omega);obtain⟨x,hx,he⟩:=List.countP_pos_iff.1 hpos;(have he:x.c i=j:=by simpa using he);obtain⟨h1,h2⟩:=Q0n (hok x hx) i;unfold Qj;split
 . next h=>have:=h2 (by omega);omega
 omega
end Go.Proofs.YtjfdaphjijfieaaGreat
