/-
  Joined texts, part 35: contracts and plain lemmas.
  Conditions: none beyond those of each theorem.
-/
import Derived.Test.YtjfdaphjijfieaaGreatJ34
import Derived.Test.YtjfdaphjijfieaaGreatJ5
set_option linter.unusedVariables false
set_option linter.unusedSimpArgs false
set_option maxRecDepth 100000
universe u
namespace Go.Proofs.YtjfdaphjijfieaaGreat
open Go.RowKit Go.Shelf Go.Sort
theorem headB_len (T : Tabs3) (l : List RawN) : (headB T l 3).length<=4000:=by
 have e0:=encN_len (pkN T l 0).1 0 (pkN T l 0).2.1 (pkN T l 0).2.2.1 (by omega);have e1:=encN_len (pkN T l 1).1 1 (pkN T l 1).2.1 (pkN T l 1).2.2.1 (by omega);have e2:=encN_len (pkN T l 2).1 2 (pkN T l 2).2.1 (pkN T l 2).2.2.1 (by omega);(have e3 : (headB T l 3).length = 1 + (repN T l 0).length + (repN T l 1).length + (repN T l 2).length:=by simp [headB,tailB];omega);have e4 : (repN T l 0).length<=1000:=e0;have e5 : (repN T l 1).length<=1000:=e1;have e6 : (repN T l 2).length<=1000:=e2;omega
theorem wrE_len {T : Trks} (hT : T.ok) {l : List RawN} (h : ∀ x ∈ l,x.ok/\Cov T x) : (wrE T l).length<=100 * l.length + 27:=by
 have hq : ∀ (j : Nat) (hj : j < l.length),(fun p : Nat × RawN=>p.2.ok/\Cov T p.2) (j,l[j]):=fun j hj=>h _ (List.getElem_mem hj);have h1:=wrF_all (Pq:=fun p : Nat × RawN=>p.2.ok/\Cov T p.2) T l hq l.length 0 (by omega);have h2:=wrF_ok hT ((bkP (Pq:=fun p : Nat × RawN=>p.2.ok/\Cov T p.2) l hq 0).map Subtype.val) (n:=l.length) (fun p hp=>by obtain ⟨q,_,rfl⟩:=List.mem_map.1 hp;exact q.2);rw [h1,List.length_map,bkP_length] at h2
 have h3 : T.pL<=9/\T.pO<=9/\T.pM<=9:=by
   have a1:=hT.1.2.1;have a2:=hT.2.1.2.1;have a3:=hT.2.2.2.1;omega
 (have e : ∀ n x,(bitsB n x).length = n:=fun n x=>by simp);unfold wrE;simp only [List.length_append,e,List.drop_zero] at h2 ⊢;omega
set_option maxHeartbeats 40000000 in
theorem enc_go (FL G : Nat->Prop) (D A B C0 L : Option Addr) (h i n c m d k e nl dl : Nat) (T : Tabs3) (Tr : List Int) (r0 r1 r2 : Int) (l : List (Int × Int × Int)) (w : World) (hrep : repOk r0 r1 r2 = true)
   (hL : RdK w FL 3 L nl (l.map tri)) (hne : l ≠ []) (hnl : nl < 128) (hmay : ∀ s ∈ l,mayS s) (h0 : Rd w G D h (ints Tr)) (h1 : Rd w G A n (ints T.NL)) (h2 : Rd w G B m (ints T.NO)) (h3 : Rd w G C0 k (ints T.NM)) (f1 : Fit T.NL) (f2 : Fit T.NO) (f3 : Fit T.NM) (b0 : h<=2 ^ 40) (b1 : n<=2 ^ 40) (b2 : m<=2 ^ 40) (b3 : k<=2 ^ 40) :
   Calls Tryz.prog 24 #[.agg #[.slice D h i,.int .i64 T.lL,.slice A n c,.int .i64 T.lO,.slice B m d,.int .i64 T.lM,.slice C0 k e,.int .i64 r0,.int .i64 r1,.int .i64 r2],.slice L nl dl] w (EncPost (encS T r0 r1 r2 l) Tr w):=by
 obtain ⟨w0,hw0⟩:=nm_ ((w.alloc (.cells #[.slice D h i,.int .i64 T.lL,.slice A n c,.int .i64 T.lO,.slice B m d,.int .i64 T.lM,.slice C0 k e,.int .i64 r0,.int .i64 r1,.int .i64 r2] 32)).alloc (.cells #[.slice none 0 0,.int .i64 0,.slice none 0 0,.int .i64 0,.slice none 0 0,.int .i64 0,.slice none 0 0,.int .i64 0,.int .i64 0,.int .i64 0] 32));obtain ⟨H,hH⟩:=nm_ (w.heap.size);(have f0 : Fresh w w0:=by rw [hw0];exact ((Upd.refl _ _).alloc _).alloc _);(have bc : Blk w0 H 32 #[.slice D h i,.int .i64 T.lL,.slice A n c,.int .i64 T.lO,.slice B m d,.int .i64 T.lM,.slice C0 k e,.int .i64 r0,.int .i64 r1,.int .i64 r2]:=by rw [hw0];exact (blk_new hH _ _).alloc _);(have bo : Blk w0 (H + 1) 32 #[.slice none 0 0,.int .i64 0,.slice none 0 0,.int .i64 0,.slice none 0 0,.int .i64 0,.slice none 0 0,.int .i64 0,.int .i64 0,.int .i64 0]:=by rw [hw0];exact blk_new (by simp [hH]) _ _);have HW:=hd_ hw0;have HH:=hd_ hH;have F0:=hd_ f0;have BO:=hd_ bo;have HRP2:=hd_ (repeats_any r0 r1 r2 w0);(have hln : l.length = nl:=by have:=hL.1;simpa using this);(have hpos : 0 < nl:=by rw [<- hln];exact List.length_pos_iff.2 hne);have HE:=hd_ (show encS T r0 r1 r2 l = (0,encB T r0 r1 r2 l,newT T (codR r0 r1 r2 l),codN r0 r1 r2 l) from by unfold encS;rw [if_neg (by rw [hrep];simp),if_neg (by omega),if_neg (by simpa using hmay),if_neg hne]);have HCD:=hd_ (fun W (f : Fresh w0 W)=>coded_any FL L nl dl r0 r1 r2 l W ((hL.fresh f0).fresh f) (fun s hs=>by have:=hmay s hs;unfold mayS at this;omega) (by omega) hrep);have hok : ∀ x ∈ codR r0 r1 r2 l,x.ok:=codR_ok hmay;(have hRl : (codR r0 r1 r2 l).length = nl:=by rw [codR_len,hln]);(have hRn : codR r0 r1 r2 l ≠ []:=by intro hx;rw [hx] at hRl;simp at hRl;omega);have HNT:=hd_ (newT_ok (T:=T) (l:=codR r0 r1 r2 l) (by omega) hRn hok);have HPF:=hd_ (pk_facts (T:=T) (l:=codR r0 r1 r2 l) (by omega) hRn hok);have HOK:=hd_ hok;have HRL:=hd_ hRl;have HRN:=hd_ hRn
 have HLEN:=hd_ (show (headB T (codR r0 r1 r2 l) 3).length<=4000/\(packB (wrE (newT T (codR r0 r1 r2 l)).trks (codR r0 r1 r2 l) ++ [true])).length<=4000 from by
   refine ⟨headB_len T _,?_⟩;have h5:=wrE_len HNT.out.1 (fun x hx=>And.intro (hok x hx) (HNT.out.2 x hx));rw [packB_length,List.length_append,List.length_singleton]
   omega)
 have HEB:=hd_ (show encB T r0 r1 r2 l = nl :: (headB T (codR r0 r1 r2 l) 3 ++ packB (wrE (newT T (codR r0 r1 r2 l)).trks (codR r0 r1 r2 l) ++ [true])) from by unfold encB;rw [hln]);rw [hrep] at HRP2;have BC:=hd_ bc;have HRD:=hd_ (And.intro (h0.both.fresh f0) (And.intro (h1.both.fresh f0) (And.intro (h2.both.fresh f0) (h3.both.fresh f0))));have HBD:=hd_ (And.intro b0 (And.intro b1 (And.intro b2 b3)));have HFT:=hd_ (And.intro f1 (And.intro f2 f3));have HMAY:=hd_ hmay;(have hgt : ¬ (65536 : Int) < nl:=by omega);(have hz1 : ((nl : Int) == 0) = false:=by simp;omega);have HNL:=hd_ hnl;have HLN:=hd_ hln;(have hcv : IntKind.u64.wrap (nl : Int) = nl:=by rw [IntKind.wrap_u64];omega);clear hL h0 h1 h2 h3 f1 f2 f3 b0 b1 b2 b3 hmay hok hRl hRn hne hln hnl hpos;have q0:=bc.cell 7;have q1:=bc.cell 8;have q2:=bc.cell 9;simp at q0 q1 q2;clear hw0 hH f0 bc bo hrep;refine veil fun R hR=>?_;go_enter Tryz.func24,Tryz.ntmps24;go_upto_region 1 with fail;simp only [<- HH.out,<- HW.out];go_wp2_with fail;refine HRP2.out.mono ?_;rintro e1 w1 ⟨rfl,f1⟩;have F1:=hd_ f1;clear f1 q0 q1 q2;have b1:=BC.out.fresh F1.out;have q0:=b1.cell 7;have q1:=b1.cell 8;have q2:=b1.cell 9;simp at q0 q1 q2;clear b1;go_wp2_with fail;refine (HCD.out _ F1.out).mono ?_;rintro e2 w2 ⟨f2,hp⟩;rw [if_pos HMAY.out] at hp;obtain ⟨v,rfl,hv,hvb⟩:=hp;obtain ⟨Av,nv,cv,rfl,hnv⟩:=hv.form';have rv:=(hv.rd rfl);(have hnv' : nv = nl:=by have:=hnv.out;rw [List.length_map,HRL.out] at this;exact this);subst hnv';have F2:=hd_ (F1.out.trans' f2);have F12:=hd_ f2;have RV:=hd_ (show RdK w2 (fun b=>w1.heap.size<=b/\b < w2.heap.size) 6 Av nv ((codR r0 r1 r2 l).map codC) from by have h3:=rv.2.2;rw [<- rv.1] at h3;exact (h3.both).mono (fun b hb=>⟨hvb b hb.1,hb.2⟩));clear f2 q0 q1 q2 hv hvb rv hnv;go_upto_region 6 with fail;obtain ⟨⟨q0,q1,q2⟩,hq⟩ : ∃ q,q = codN r0 r1 r2 l:=⟨_,rfl⟩;simp only [<- hq];have HQ:=hd_ hq;clear hq;obtain ⟨Yb,hYb⟩:=nm_ (w2.heap.size);obtain ⟨w3,hw3⟩:=nm_ (w2.alloc (.cells #[.int .i64 q0,.int .i64 q1,.int .i64 q2] 30));simp only [<- hYb,<- hw3];have F3:=hd_ (F2.out.trans' (show Fresh w2 w3 by rw [hw3];exact (Upd.refl _ _).alloc _));have F23:=hd_ (show Fresh w2 w3 by rw [hw3];exact (Upd.refl _ _).alloc _);have BY:=hd_ (show Blk w3 Yb 30 #[.int .i64 q0,.int .i64 q1,.int .i64 q2] by rw [hw3];exact blk_new hYb _ _);have HPV:=hd_ (putv_any nv w3 HNL.out);have S1:=hd_ (show H + 1 < w1.heap.size/\w1.heap.size<=w2.heap.size/\w2.heap.size<=w3.heap.size/\Yb = w2.heap.size/\Yb < w3.heap.size from ⟨(BO.out.fresh F1.out).lt,F12.out.size,F23.out.size,hYb,BY.out.lt⟩);clear hw3 hYb;go_wp2_with fail;refine (show Calls Tryz.prog 27 #[.slice none 0 0,.int .u64 (nv : Nat)] w3 _ from HPV.out).mono ?_;rintro e4 w4 ⟨vb,rfl,nb⟩;have F34:=hd_ nb.2.1;have F4:=hd_ (F3.out.trans' nb.2.1);have NB:=hd_ nb
 clear nb;have bb4:=BC.out.fresh F4.out;obtain ⟨g0,g1,g2,g3,g4,g5,g6,g7,g8,g9⟩:=(bb4).cells10;have HCH:=hd_ (chosen_any (fun b=>G b/\b < w.heap.size) _ A B C0 D Av n c m d k e h i nv cv T (codR r0 r1 r2 l) r0 r1 r2 w4 (HRD.out.2.1.fresh F4.out) (HRD.out.2.2.1.fresh F4.out) (HRD.out.2.2.2.fresh F4.out) HFT.out.1 HFT.out.2.1 HFT.out.2.2 (by have:=HBD.out.2.1;omega) (by have:=HBD.out.2.2.1;omega) (by have:=HBD.out.2.2.2;omega) ((RV.out.fresh F23.out).fresh F34.out) (by have:=HNL.out;omega) HRN.out HOK.out);clear bb4;unfold ChosenPost at HCH;have HOC:=hd_ (fun x (hx : x ∈ codR r0 r1 r2 l)=>And.intro (HOK.out x hx) (HNT.out.2 x hx));have hTok : (newT T (codR r0 r1 r2 l)).trks.ok:=HNT.out.1
 have heT : (newT T (codR r0 r1 r2 l)).lL = ((newT T (codR r0 r1 r2 l)).trks.pL : Nat)/\(newT T (codR r0 r1 r2 l)).lO = ((newT T (codR r0 r1 r2 l)).trks.pO : Nat)/\(newT T (codR r0 r1 r2 l)).lM = ((newT T (codR r0 r1 r2 l)).trks.pM : Nat):=by
   have t0:=(HPF.out 0 (by omega)).2.2.1.1;have t1:=(HPF.out 1 (by omega)).2.2.1.1;have t2:=(HPF.out 2 (by omega)).2.2.1.1;simp only [newT,Tabs3.trks];omega
 have hfitT : Fit (newT T (codR r0 r1 r2 l)).NL/\Fit (newT T (codR r0 r1 r2 l)).NO/\Fit (newT T (codR r0 r1 r2 l)).NM:=⟨(HPF.out 0 (by omega)).2.2.2.2.2.1,(HPF.out 1 (by omega)).2.2.2.2.2.1,(HPF.out 2 (by omega)).2.2.2.2.2.1⟩;have hlenT : (newT T (codR r0 r1 r2 l)).NL.length<=1000/\(newT T (codR r0 r1 r2 l)).NO.length<=1000/\(newT T (codR r0 r1 r2 l)).NM.length<=1000:=⟨(HPF.out 0 (by omega)).2.2.2.2.2.2,(HPF.out 1 (by omega)).2.2.2.2.2.2,(HPF.out 2 (by omega)).2.2.2.2.2.2⟩;obtain ⟨HB,hHB⟩:=nm_ (headB T (codR r0 r1 r2 l) 3);obtain ⟨PB,hPB⟩:=nm_ (packB (wrE (newT T (codR r0 r1 r2 l)).trks (codR r0 r1 r2 l) ++ [true]));rw [<- hHB,<- hPB] at HEB HLEN;rw [<- hHB] at HCH;have HPB:=hd_ hPB;clear hHB hPB;clear HPF HNT;generalize newT T (codR r0 r1 r2 l) = NT at *;have HTOK:=hd_ hTok;have HET:=hd_ heT;have HFT2:=hd_ hfitT;have HLT:=hd_ hlenT;clear hTok heT hfitT hlenT;go_wp2_with fail;refine HCH.out.mono ?_;rintro e5 w5 ⟨f5,vc,A1,n1,c1,B1,m1,d1,C1,k1,e1,rfl,oc,hcb,ru1,ru2,ru3⟩;obtain ⟨Ac,nc,cc,rfl,hnc⟩:=oc.form';have F45:=hd_ f5;have F5:=hd_ (F4.out.trans' f5);have OC:=hd_ oc;have HCB:=hd_ hcb;have RU:=hd_ (And.intro ru1 (And.intro ru2 ru3));clear f5 oc hcb ru1 ru2 ru3 hnc g0 g1 g2 g3 g4 g5 g6 g7 g8 g9 HCH;go_upto_region 12 with fail;obtain ⟨Zt,hZt⟩:=nm_ (w5.heap.size);obtain ⟨w6,hw6⟩:=nm_ (w5.alloc (.cells #[.int .i64 NT.lL,.slice A1 n1 c1,.int .i64 NT.lO,.slice B1 m1 d1,.int .i64 NT.lM,.slice C1 k1 e1] 69));simp only [<- hZt,<- hw6];have F56:=hd_ (show Fresh w5 w6 by rw [hw6];exact (Upd.refl _ _).alloc _);have BT:=hd_ (show Blk w6 Zt 69 #[.int .i64 NT.lL,.slice A1 n1 c1,.int .i64 NT.lO,.slice B1 m1 d1,.int .i64 NT.lM,.slice C1 k1 e1] by rw [hw6];exact blk_new hZt _ _);have HZT:=hd_ hZt;clear hw6 hZt;(have hn1 : n1 = NT.NL.length:=by have:=RU.out.1.1.1;rw [ints_length] at this;exact this.symm);(have hm1 : m1 = NT.NO.length:=by have:=RU.out.2.1.1.1;rw [ints_length] at this;exact this.symm);(have hk1 : k1 = NT.NM.length:=by have:=RU.out.2.2.1.1;rw [ints_length] at this;exact this.symm);have htk:=tracks_any (fun b=>w4.heap.size<=b) A1 B1 C1 n1 c1 m1 d1 k1 e1 NT.trks w6 HTOK.out (RU.out.1.1.fresh F56.out) (RU.out.2.1.1.fresh F56.out) (RU.out.2.2.1.fresh F56.out) HFT2.out.1 HFT2.out.2.1 HFT2.out.2.2 (by have:=HLT.out.1;omega) (by have:=HLT.out.2.1;omega) (by have:=HLT.out.2.2;omega);rw [<- HET.out.1,<- HET.out.2.1,<- HET.out.2.2] at htk;have HTK:=hd_ htk;have HN1:=hd_ (And.intro hn1 (And.intro hm1 hk1));have c6:=BT.out;obtain ⟨z0,z1,z2,z3,z4,z5⟩:=(c6).cells6;clear htk hn1 hm1 hk1 c6;go_wp2_with fail;refine HTK.out.mono ?_;rintro e7 w7 ⟨v0,v1,v2,rfl,⟨g0,rfl,cc0⟩,⟨g1,rfl,cc1⟩,⟨g2,rfl,cc2⟩,f7⟩;have F67:=hd_ f7;have CC:=hd_ (And.intro cc0 (And.intro cc1 cc2));clear f7 cc0 cc1 cc2 HTK z0 z1 z2 z3 z4 z5;go_upto_region 15 with fail;obtain ⟨Zx,hZx⟩:=nm_ (w7.heap.size);obtain ⟨w8,hw8⟩:=nm_ (w7.alloc (.cells #[.pointer (some ⟨g0,0,none⟩),.int .i64 0,.pointer (some ⟨g1,0,none⟩),.int .i64 0,.pointer (some ⟨g2,0,none⟩),.int .i64 0] 96))
 simp only [<- hZx,<- hw8];have F78:=hd_ (show Fresh w7 w8 by rw [hw8];exact (Upd.refl _ _).alloc _);have BX:=hd_ (show Blk w8 Zx 96 #[.pointer (some ⟨g0,0,none⟩),.int .i64 0,.pointer (some ⟨g1,0,none⟩),.int .i64 0,.pointer (some ⟨g2,0,none⟩),.int .i64 0] by rw [hw8];exact blk_new hZx _ _);have HZX:=hd_ hZx;clear hw8 hZx;go_upto_region 17 with fail;have F48 : Fresh w4 w8:=((F45.out.trans' F56.out).trans' F67.out).trans' F78.out;have F8:=hd_ (F4.out.trans' F48);have S2:=hd_ (show w3.heap.size<=w4.heap.size/\w4.heap.size<=w5.heap.size/\w5.heap.size<=w6.heap.size/\w6.heap.size<=w7.heap.size/\w7.heap.size<=w8.heap.size/\Zt = w5.heap.size/\Zx = w7.heap.size from ⟨F34.out.size,F45.out.size,F56.out.size,F67.out.size,F78.out.size,HZT.out,HZX.out⟩);have S3:=hd_ (show H + 1 < w3.heap.size/\w3.heap.size<=w8.heap.size from by have:=S1.out;have:=S2.out;omega);have HVL:=hd_ (show ∀ b,vb.ownBlock = some b->w3.heap.size<=b/\b < w4.heap.size from fun b hb=>⟨NB.out.2.2 b hb,NB.out.1.lt hb⟩);have HVB:=hd_ (NB.out.1.fresh F48);have keepB : ∀ (W : World) (g : Nat) (t : TypeId) (cs : Array Value),Upd (fun b=>b = H + 1\/vb.ownBlock = some b) w8 W->Blk w8 g t cs->g ≠ H + 1->(g < w3.heap.size\/w4.heap.size<=g)->Blk W g t cs:=fun W g t cs hu hb h1 h2=>hb.upd hu (fun h=>by rcases h with h | h;exact h1 h;have:=HVL.out g h;omega)
 have HX:=hd_ (show ∀ W,Upd (fun b=>b = H + 1\/vb.ownBlock = some b) w8 W->W.cell? ⟨Zx,0,none⟩ = some (.pointer (some ⟨g0,0,none⟩))/\W.cell? ⟨Zx,1,none⟩ = some (.int .i64 0)/\W.cell? ⟨Zx,2,none⟩ = some (.pointer (some ⟨g1,0,none⟩))/\W.cell? ⟨Zx,3,none⟩ = some (.int .i64 0)/\W.cell? ⟨Zx,4,none⟩ = some (.pointer (some ⟨g2,0,none⟩))/\W.cell? ⟨Zx,5,none⟩ = some (.int .i64 0) from fun W hu=>by
   have bb:=keepB W _ _ _ hu BX.out (by have:=S1.out;have:=S2.out;omega) (by have:=S2.out;omega)
   exact bb.cells6)
 have HT6:=hd_ (show ∀ W,Upd (fun b=>b = H + 1\/vb.ownBlock = some b) w8 W->W.cell? ⟨Zt,0,none⟩ = some (.int .i64 NT.lL)/\W.cell? ⟨Zt,1,none⟩ = some (.slice A1 n1 c1)/\W.cell? ⟨Zt,2,none⟩ = some (.int .i64 NT.lO)/\W.cell? ⟨Zt,3,none⟩ = some (.slice B1 m1 d1)/\W.cell? ⟨Zt,4,none⟩ = some (.int .i64 NT.lM)/\W.cell? ⟨Zt,5,none⟩ = some (.slice C1 k1 e1) from fun W hu=>by
   have bb:=keepB W _ _ _ hu ((BT.out.fresh F67.out).fresh F78.out) (by have:=S1.out;have:=S2.out;omega) (by have:=S2.out;omega)
   exact bb.cells6)
 have HAT:=hd_ (show ∀ W,Upd (fun b=>b = H + 1\/vb.ownBlock = some b) w8 W->W.cell? ⟨Yb,0,none⟩ = some (.int .i64 q0)/\W.cell? ⟨Yb,1,none⟩ = some (.int .i64 q1)/\W.cell? ⟨Yb,2,none⟩ = some (.int .i64 q2) from fun W hu=>by
   have bb:=keepB W _ _ _ hu ((BY.out.fresh F34.out).fresh F48) (by have:=S1.out;have:=S2.out;omega) (by have:=S1.out;omega)
   exact bb.cells3)
 have HCX:=hd_ (show ∀ W,Upd (fun b=>b = H + 1\/vb.ownBlock = some b) w8 W->W.cell? ⟨H,0,none⟩ = some (.slice D h i)/\W.cell? ⟨H,1,none⟩ = some (.int .i64 T.lL)/\W.cell? ⟨H,2,none⟩ = some (.slice A n c)/\W.cell? ⟨H,3,none⟩ = some (.int .i64 T.lO)/\W.cell? ⟨H,4,none⟩ = some (.slice B m d)/\W.cell? ⟨H,5,none⟩ = some (.int .i64 T.lM)/\W.cell? ⟨H,6,none⟩ = some (.slice C0 k e)/\W.cell? ⟨H,7,none⟩ = some (.int .i64 r0)/\W.cell? ⟨H,8,none⟩ = some (.int .i64 r1)/\W.cell? ⟨H,9,none⟩ = some (.int .i64 r2) from fun W hu=>by
   have bb:=keepB W _ _ _ hu (BC.out.fresh F8.out) (by omega) (by have:=S3.out;omega)
   exact bb.cells10)
 have HOC8:=hd_ (show ∀ W,Upd (fun b=>b = H + 1\/vb.ownBlock = some b) w8 W->Rd W (fun b=>(Value.slice Ac nc cc).ownBlock = some b) Ac nc (bytes HB) from fun W hu=>by
   have h3:=OC.out.rd rfl;rw [<- h3.1] at h3
   exact ((h3.2.2.fresh ((F56.out.trans' F67.out).trans' F78.out))).upd hu (fun b hb hf h=>by have:=HCB.out b hf;have:=OC.out.lt hf;rcases h with h | h;have:=S3.out;have:=S2.out;omega;have:=HVL.out b h;omega))
 have HWR:=hd_ (fun W (hu : Upd (fun b=>b = H + 1\/vb.ownBlock = some b) w8 W)=>write_any (fun b=>w6.heap.size<=b) (fun b=>w1.heap.size<=b/\b < w2.heap.size) g0 g1 g2 nv cv Av NT.trks (codR r0 r1 r2 l) W HTOK.out
   ((CC.out.1.fresh F78.out).upd hu (fun b hb _ h=>by have:=S3.out;have:=S2.out;rcases h with h | h;omega;have:=HVL.out b h;omega))
   ((CC.out.2.1.fresh F78.out).upd hu (fun b hb _ h=>by have:=S3.out;have:=S2.out;rcases h with h | h;omega;have:=HVL.out b h;omega))
   ((CC.out.2.2.fresh F78.out).upd hu (fun b hb _ h=>by have:=S3.out;have:=S2.out;rcases h with h | h;omega;have:=HVL.out b h;omega))
   (((RV.out.fresh F23.out).fresh (F34.out.trans' F48)).upd hu (fun b _ hb h=>by have:=S1.out;have:=S2.out;rcases h with h | h;omega;have:=HVL.out b h;omega)) (by have:=HNL.out;omega) HOC.out)
 rw [<- HPB.out] at HWR
 have HBE:=hd_ (fun W (hu : Upd (fun b=>b = H + 1\/vb.ownBlock = some b) w8 W)=>behind_any (fun b=>G b/\b < w.heap.size) (fun b=>w4.heap.size<=b/\b < w8.heap.size) D A1 B1 C1 A B C0 h i n1 c1 m1 d1 k1 e1 n c m d k e NT.lL NT.lO NT.lM q0 q1 q2 T.lL T.lO T.lM r0 r1 r2 Tr NT.NL NT.NO NT.NM W
   ((HRD.out.1.fresh F8.out).upd hu (fun b _ hb h=>by have:=HH.out;have:=S1.out;have:=F0.out.size;have:=F3.out.size;rcases h with h | h;omega;have:=HVL.out b h;omega))
   ((((RU.out.1.1.fresh ((F56.out.trans' F67.out).trans' F78.out)).both)).upd hu (fun b _ hb h=>by have:=S3.out;have:=S2.out;rcases h with h | h;omega;have:=HVL.out b h;omega))
   ((((RU.out.2.1.1.fresh ((F56.out.trans' F67.out).trans' F78.out)).both)).upd hu (fun b _ hb h=>by have:=S3.out;have:=S2.out;rcases h with h | h;omega;have:=HVL.out b h;omega))
   ((((RU.out.2.2.1.fresh ((F56.out.trans' F67.out).trans' F78.out)).both)).upd hu (fun b _ hb h=>by have:=S3.out;have:=S2.out;rcases h with h | h;omega;have:=HVL.out b h;omega))
   HBD.out.1 (by have:=HN1.out;have:=HLT.out;omega) (by have:=HN1.out;have:=HLT.out;omega) (by have:=HN1.out;have:=HLT.out;omega))
 have HLB:=hd_ (show (bytes [nv]).length + nc<=2 ^ 40/\(bytes (nv :: HB)).length + (bytes PB).length<=2 ^ 40 from by have h5:=OC.out.rd rfl;have h6:=HLEN.out;rw [bytes_length,bytes_length,bytes_length,List.length_cons,List.length_cons,h5.1,bytes_length,List.length_nil];omega);clear F48 keepB;obtain ⟨Cw,cEq⟩:=exC (fun W=>Upd (fun b=>b = H + 1\/vb.ownBlock = some b) w8 W);obtain ⟨Y,yA⟩:=exY [fun xs W=>(xs 0) = vb,fun xs W=>(xs 1) = .slice Ac nc cc,fun xs W=>Own W 5 (xs 2) (bytes (nv :: HB))/\∀ b,Value.ownBlock (xs 2) = some b->vb.ownBlock = some b\/w8.heap.size<=b,fun xs W=>(xs 3) = .agg #[.pointer (some ⟨g0,0,none⟩),.int .i64 0,.pointer (some ⟨g1,0,none⟩),.int .i64 0,.pointer (some ⟨g2,0,none⟩),.int .i64 0],fun xs W=>(xs 4) = .slice Av nv cv,fun xs W=>Own W 5 (xs 5) (bytes PB)/\∀ b,Value.ownBlock (xs 5) = some b->w8.heap.size<=b,fun xs W=>Own W 5 (xs 6) (bytes (nv :: (HB ++ PB)))/\∀ b,Value.ownBlock (xs 6) = some b->vb.ownBlock = some b\/w8.heap.size<=b,fun xs W=>(xs 7) = .agg #[.slice D h i,.int .i64 T.lL,.slice A n c,.int .i64 T.lO,.slice B m d,.int .i64 T.lM,.slice C0 k e,.int .i64 r0,.int .i64 r1,.int .i64 r2],fun xs W=>(xs 8) = .agg #[.int .i64 NT.lL,.slice A1 n1 c1,.int .i64 NT.lO,.slice B1 m1 d1,.int .i64 NT.lM,.slice C1 k1 e1],fun xs W=>(xs 9) = .agg #[.int .i64 q0,.int .i64 q1,.int .i64 q2],fun xs W=>∃ D2 i2 A2 c2 B2 d2 C2 e2,(xs 10) = .agg #[.slice D2 h i2,.int .i64 NT.lL,.slice A2 n1 c2,.int .i64 NT.lO,.slice B2 m1 d2,.int .i64 NT.lM,.slice C2 k1 e2,.int .i64 q0,.int .i64 q1,.int .i64 q2]/\RdU W (fun b=>w8.heap.size<=b) D2 h (ints Tr)/\RdU W (fun b=>w8.heap.size<=b) A2 n1 (ints NT.NL)/\RdU W (fun b=>w8.heap.size<=b) B2 m1 (ints NT.NO)/\RdU W (fun b=>w8.heap.size<=b) C2 k1 (ints NT.NM),fun xs W=>Own W 5 (xs 11) (bytes (nv :: (HB ++ PB)))/\∀ b,Value.ownBlock (xs 11) = some b->vb.ownBlock = some b\/w8.heap.size<=b,fun xs W=>∃ D2 i2 A2 c2 B2 d2 C2 e2,Blk W (H + 1) 32 #[.slice D2 h i2,.int .i64 NT.lL,.slice A2 n1 c2,.int .i64 NT.lO,.slice B2 m1 d2,.int .i64 NT.lM,.slice C2 k1 e2,.int .i64 q0,.int .i64 q1,.int .i64 q2]/\RdU W (fun b=>w8.heap.size<=b) D2 h (ints Tr)/\RdU W (fun b=>w8.heap.size<=b) A2 n1 (ints NT.NL)/\RdU W (fun b=>w8.heap.size<=b) B2 m1 (ints NT.NO)/\RdU W (fun b=>w8.heap.size<=b) C2 k1 (ints NT.NM),fun xs W=>(xs 13) = .int .i64 0,fun xs W=>Own W 5 vb (bytes [nv]),fun xs W=>Blk W (H + 1) 32 #[.slice none 0 0,.int .i64 0,.slice none 0 0,.int .i64 0,.slice none 0 0,.int .i64 0,.slice none 0 0,.int .i64 0,.int .i64 0,.int .i64 0]];have yf0:=yA 0;have yf1:=yA 1;have yf2:=yA 2;have yf3:=yA 3;have yf4:=yA 4;have yf5:=yA 5;have yf6:=yA 6;have yf7:=yA 7;have yf8:=yA 8;have yf9:=yA 9;have yf10:=yA 10;have yf11:=yA 11;have yf12:=yA 12;have yf13:=yA 13;have yf14:=yA 14
 have yf15:=yA 15;simp only [List.getD_cons_zero,List.getD_cons_succ] at yf0 yf1 yf2 yf3 yf4 yf5 yf6 yf7 yf8 yf9 yf10 yf11 yf12 yf13 yf14 yf15;(have yN : ∀ j xs W,16<=j->Y j xs W = True:=fun j xs W hj=>by rw [yA,getD_none _ _ _ hj])
 have yP : ∀ j xs W W',j ∈ [0,1,3,4,7,8,9,13]->Y j xs W->Y j xs W':=by
   intro j xs W W' hj hy;simp only [List.mem_cons,List.not_mem_nil,or_false] at hj;rcases hj with rfl | rfl | rfl | rfl | rfl | rfl | rfl | rfl
   . rw [yf0] at hy ⊢;exact hy
   . rw [yf1] at hy ⊢;exact hy
   . rw [yf3] at hy ⊢;exact hy
   . rw [yf4] at hy ⊢;exact hy
   . rw [yf7] at hy ⊢;exact hy
   . rw [yf8] at hy ⊢;exact hy
   . rw [yf9] at hy ⊢;exact hy
   rw [yf13] at hy ⊢;exact hy
 have yM : Ment [[0],[1],[2],[3],[4],[5],[6],[7],[8],[9],[10],[11],[],[13],[],[]] Y:=by
   intro j xs xs' W hh hy;by_cases hj : 16<=j
   . rw [yN j _ _ hj];trivial
   (have hj' : j = 0\/j = 1\/j = 2\/j = 3\/j = 4\/j = 5\/j = 6\/j = 7\/j = 8\/j = 9\/j = 10\/j = 11\/j = 12\/j = 13\/j = 14\/j = 15:=by omega);rcases hj' with rfl | rfl | rfl | rfl | rfl | rfl | rfl | rfl | rfl | rfl | rfl | rfl | rfl | rfl | rfl | rfl
   . rw [yf0] at hy ⊢;rw [<- hh 0 (by decide)];exact hy
   . rw [yf1] at hy ⊢;rw [<- hh 1 (by decide)];exact hy
   . rw [yf2] at hy ⊢;rw [<- hh 2 (by decide)];exact hy
   . rw [yf3] at hy ⊢;rw [<- hh 3 (by decide)];exact hy
   . rw [yf4] at hy ⊢;rw [<- hh 4 (by decide)];exact hy
   . rw [yf5] at hy ⊢;rw [<- hh 5 (by decide)];exact hy
   . rw [yf6] at hy ⊢;rw [<- hh 6 (by decide)];exact hy
   . rw [yf7] at hy ⊢;rw [<- hh 7 (by decide)];exact hy
   . rw [yf8] at hy ⊢;rw [<- hh 8 (by decide)];exact hy
   . rw [yf9] at hy ⊢;rw [<- hh 9 (by decide)];exact hy
   . rw [yf10] at hy ⊢;rw [<- hh 10 (by decide)];exact hy
   . rw [yf11] at hy ⊢;rw [<- hh 11 (by decide)];exact hy
   . rw [yf12] at hy ⊢;exact hy
   . rw [yf13] at hy ⊢;rw [<- hh 13 (by decide)];exact hy
   . rw [yf14] at hy ⊢;exact hy
   rw [yf15] at hy ⊢;exact hy
 clear yA
 have yR : ∀ j xs,14<=j->Y j xs (w8.drew):=by
   intro j xs hj;rcases (show j = 14\/j = 15\/16<=j by omega) with rfl | rfl | hj
   . rw [yf14];exact HVB.out.drew
   . rw [yf15];exact (BO.out.fresh F8.out).drew
   rw [yN _ _ _ hj];trivial
 refine wp_region_rg Cw (fun j=>if j = 2 then [6,10,12] else if j = 5 then [6,10,12] else if j = 6 then [12] else if j = 10 then [12] else if j = 14 then [2,5,6,10,12] else if j = 15 then [12] else []) Y [(0,some 78),(1,some 79),(2,some 80),(3,some 81),(4,some 82),(5,some 83),(6,some 84),(7,some 85),(8,some 86),(9,some 87),(10,some 88),(11,some 4),(12,none),(13,some 6)] (by kernel_rfl) (by kernel_rfl) (by kernel_rfl) (by rw [cEq];exact (Upd.refl _ _).drew) (fun j hj=>yR j _ hj) ?_ ?_
 . refine Obls.cons [] (by kernel_rfl) (fun xs W hw hd lst hl K hK=>?_) ?_
   . rw [cEq] at hw
     have hK':=hK.out;clear hK;simp only [acts,Act.put,List.setIfInBounds_toArray,List.set_cons_zero,List.set_cons_succ] at hK' ⊢;go_simp;exact hK' _ _ (by rw [cEq];exact hw) (keep_pure yM 0 (by kernel_rfl) xs W _) (by rw [yf0];exact if_pos rfl)
   refine Obls.cons [] (by kernel_rfl) (fun xs W hw hd lst hl K hK=>?_) ?_
   . rw [cEq] at hw
     have hK':=hK.out;clear hK;simp only [acts,Act.put,List.setIfInBounds_toArray,List.set_cons_zero,List.set_cons_succ] at hK' ⊢;go_simp;exact hK' _ _ (by rw [cEq];exact hw) (keep_pure yM 1 (by kernel_rfl) xs W _) (by rw [yf1];exact if_pos rfl)
   refine Obls.cons [(0,some 78),(1,some 79),(14,none)] (by kernel_rfl) (fun xs W hw hd lst hl K hK=>?_) ?_
   . rw [cEq] at hw
     have hK':=hK.out;clear hK;simp only [hold] at hd;obtain ⟨hf0,hf1,hf14,_⟩:=hd;simp only [acts,Act.put,List.setIfInBounds_toArray,List.set_cons_zero,List.set_cons_succ] at hK' ⊢;rw [yf0] at hf0;rw [yf1] at hf1;rw [yf14] at hf14;simp only [hf0,hf1] at hK' ⊢;have oc8:=HOC8.out W hw;rw [if_pos (by rfl)];refine wp_app W (.tmp 78) (.tmp 79) _ (by rfl) 5 _ 1 Tryz.underlying26 infoU8 rfl vb _ (by rfl) hf14 Ac nc cc _ (by rfl) oc8 (bytes_one HB) (by omega) HLB.out.1 ?_;intro v' W' ho hg ha;have hR:=hg;refine hK' (v') (W') (by rw [cEq];exact hw.grown hg (fun k hk _=>.inr hk)) (keep_step yM 2 (by kernel_rfl) _ fun j hs hy=>?_) (by rw [yf2];(try simp only [↓reduceIte]);try exact ⟨by simpa [bytes] using ho,fun b hb=>by rcases ha with ha | ha;rw [ha] at hb;exact .inl hb;rw [ha] at hb;injection hb with hb;have:=hw.size;exact .inr (by omega)⟩);by_cases hp : j ∈ [0,1,3,4,7,8,9,13]
     . exact yP j _ _ _ hp hy
     by_cases hj : 16<=j
     . rw [yN j _ _ hj];trivial
     simp only [List.mem_cons,List.not_mem_nil,or_false] at hp;rcases (show j = 2\/j = 5\/j = 6\/j = 10\/j = 11\/j = 12\/j = 14\/j = 15 by omega) with rfl | rfl | rfl | rfl | rfl | rfl | rfl | rfl
     . exact (stay_no hs (by kernel_rfl)).elim
     . exact (stay_no hs (by kernel_rfl)).elim
     . exact (stay_no hs (by kernel_rfl)).elim
     . exact (stay_no hs (by kernel_rfl)).elim
     . exact (stay_no hs (by kernel_rfl)).elim
     . exact (stay_no hs (by kernel_rfl)).elim
     . exact (stay_no hs (by kernel_rfl)).elim
     rw [yf15] at hy ⊢;exact hy.grown hR (fun h=>by have:=HVL.out _ h;have:=S3.out;omega)
   refine Obls.cons [] (by kernel_rfl) (fun xs W hw hd lst hl K hK=>?_) ?_
   . rw [cEq] at hw
     have hK':=hK.out;clear hK;simp only [acts,Act.put,List.setIfInBounds_toArray,List.set_cons_zero,List.set_cons_succ] at hK' ⊢;have cl:=HX.out W hw;obtain ⟨z0,z1,z2,z3,z4,z5⟩:=cl;go_simp;exact hK' _ _ (by rw [cEq];exact hw) (keep_pure yM 3 (by kernel_rfl) xs W _) (by rw [yf3];exact if_pos rfl)
   refine Obls.cons [] (by kernel_rfl) (fun xs W hw hd lst hl K hK=>?_) ?_
   . rw [cEq] at hw
     have hK':=hK.out;clear hK;simp only [acts,Act.put,List.setIfInBounds_toArray,List.set_cons_zero,List.set_cons_succ] at hK' ⊢;go_simp;exact hK' _ _ (by rw [cEq];exact hw) (keep_pure yM 4 (by kernel_rfl) xs W _) (by rw [yf4];exact if_pos rfl)
   refine Obls.cons [(3,some 81),(4,some 82)] (by kernel_rfl) (fun xs W hw hd lst hl K hK=>?_) ?_
   . rw [cEq] at hw
     have hK':=hK.out;clear hK;simp only [hold] at hd;obtain ⟨hf3,hf4,_⟩:=hd;simp only [acts,Act.put,List.setIfInBounds_toArray,List.set_cons_zero,List.set_cons_succ] at hK' ⊢;rw [yf3] at hf3;rw [yf4] at hf4;simp only [hf3,hf4] at hK' ⊢;go_simp;refine (HWR.out W hw).mono ?_;rintro e9 w9 ⟨v9,rfl,n9⟩;have hR:=n9.2.1;refine hK' (v9) (w9) (by rw [cEq];exact hw.trans n9.2.1 (fun _ _ h=>h.elim)) (keep_step yM 5 (by kernel_rfl) _ fun j hs hy=>?_) (by rw [yf5];(try simp only [↓reduceIte]);try exact ⟨n9.1,fun b hb=>by have:=n9.2.2 b hb;have:=hw.size;omega⟩);by_cases hp : j ∈ [0,1,3,4,7,8,9,13]
     . exact yP j _ _ _ hp hy
     by_cases hj : 16<=j
     . rw [yN j _ _ hj];trivial
     simp only [List.mem_cons,List.not_mem_nil,or_false] at hp;rcases (show j = 2\/j = 5\/j = 6\/j = 10\/j = 11\/j = 12\/j = 14\/j = 15 by omega) with rfl | rfl | rfl | rfl | rfl | rfl | rfl | rfl
     . rw [yf2] at hy ⊢;exact ⟨hy.1.fresh hR,hy.2⟩
     . exact (stay_no hs (by kernel_rfl)).elim
     . exact (stay_no hs (by kernel_rfl)).elim
     . exact (stay_no hs (by kernel_rfl)).elim
     . exact (stay_no hs (by kernel_rfl)).elim
     . exact (stay_no hs (by kernel_rfl)).elim
     . exact (stay_no hs (by kernel_rfl)).elim
     rw [yf15] at hy ⊢;exact hy.fresh hR
   refine Obls.cons [(2,some 80),(5,some 83)] (by kernel_rfl) (fun xs W hw hd lst hl K hK=>?_) ?_
   . rw [cEq] at hw
     have hK':=hK.out;clear hK;simp only [hold] at hd;obtain ⟨hf2,hf5,_⟩:=hd;simp only [acts,Act.put,List.setIfInBounds_toArray,List.set_cons_zero,List.set_cons_succ] at hK' ⊢;rw [yf2] at hf2;rw [yf5] at hf5;obtain ⟨o2,k2⟩:=id hf2;obtain ⟨o5,k5⟩:=hf5;obtain ⟨A5,c5,h5e,hc5,r5⟩:=o5.form;simp only [h5e] at hK' ⊢;rw [if_pos (by rfl)];refine wp_app W (.tmp 80) (.tmp 83) _ (by rfl) 5 _ 1 Tryz.underlying26 infoU8 rfl (xs 2) _ (by rfl) o2 A5 _ c5 _ (by rfl) r5 (bytes_one PB) (by omega) HLB.out.2 ?_;intro v' W' ho hg ha;have hR:=hg;refine hK' (v') (W') (by rw [cEq];exact hw.grown hg (fun k hk hk2=>by have:=k2 k hk;rcases this with h | h;exact .inr h;omega)) (keep_step yM 6 (by kernel_rfl) _ fun j hs hy=>?_) (by rw [yf6];(try simp only [↓reduceIte]);try exact ⟨by simpa [bytes] using ho,fun b hb=>by rcases ha with ha | ha;rw [ha] at hb;exact k2 b hb;rw [ha] at hb;injection hb with hb;have:=hw.size;exact .inr (by omega)⟩);by_cases hp : j ∈ [0,1,3,4,7,8,9,13]
     . exact yP j _ _ _ hp hy
     by_cases hj : 16<=j
     . rw [yN j _ _ hj];trivial
     simp only [List.mem_cons,List.not_mem_nil,or_false] at hp;rcases (show j = 2\/j = 5\/j = 6\/j = 10\/j = 11\/j = 12\/j = 14\/j = 15 by omega) with rfl | rfl | rfl | rfl | rfl | rfl | rfl | rfl
     . exact (stay_no hs (by kernel_rfl)).elim
     . exact (stay_no hs (by kernel_rfl)).elim
     . exact (stay_no hs (by kernel_rfl)).elim
     . exact (stay_no hs (by kernel_rfl)).elim
     . exact (stay_no hs (by kernel_rfl)).elim
     . exact (stay_no hs (by kernel_rfl)).elim
     . exact (stay_no hs (by kernel_rfl)).elim
     rw [yf15] at hy ⊢;exact hy.grown hR (fun h=>by have:=S3.out;rcases hf2.2 _ h with h | h;have:=HVL.out _ h;omega;omega)
   refine Obls.cons [] (by kernel_rfl) (fun xs W hw hd lst hl K hK=>?_) ?_
   . rw [cEq] at hw
     have hK':=hK.out;clear hK;simp only [acts,Act.put,List.setIfInBounds_toArray,List.set_cons_zero,List.set_cons_succ] at hK' ⊢;have cl:=HCX.out W hw;obtain ⟨z0,z1,z2,z3,z4,z5,z6,z7,z8,z9⟩:=cl;go_simp;exact hK' _ _ (by rw [cEq];exact hw) (keep_pure yM 7 (by kernel_rfl) xs W _) (by rw [yf7];exact if_pos rfl)
   refine Obls.cons [] (by kernel_rfl) (fun xs W hw hd lst hl K hK=>?_) ?_
   . rw [cEq] at hw
     have hK':=hK.out;clear hK;simp only [acts,Act.put,List.setIfInBounds_toArray,List.set_cons_zero,List.set_cons_succ] at hK' ⊢;have cl:=HT6.out W hw;obtain ⟨z0,z1,z2,z3,z4,z5⟩:=cl;go_simp;exact hK' _ _ (by rw [cEq];exact hw) (keep_pure yM 8 (by kernel_rfl) xs W _) (by rw [yf8];exact if_pos rfl)
   refine Obls.cons [] (by kernel_rfl) (fun xs W hw hd lst hl K hK=>?_) ?_
   . rw [cEq] at hw
     have hK':=hK.out;clear hK;simp only [acts,Act.put,List.setIfInBounds_toArray,List.set_cons_zero,List.set_cons_succ] at hK' ⊢;have cl:=HAT.out W hw;obtain ⟨z0,z1,z2⟩:=cl;go_simp;exact hK' _ _ (by rw [cEq];exact hw) (keep_pure yM 9 (by kernel_rfl) xs W _) (by rw [yf9];exact if_pos rfl)
   refine Obls.cons [(7,some 85),(8,some 86),(9,some 87)] (by kernel_rfl) (fun xs W hw hd lst hl K hK=>?_) ?_
   . rw [cEq] at hw
     have hK':=hK.out;clear hK;simp only [hold] at hd;obtain ⟨hf7,hf8,hf9,_⟩:=hd;simp only [acts,Act.put,List.setIfInBounds_toArray,List.set_cons_zero,List.set_cons_succ] at hK' ⊢;rw [yf7] at hf7;rw [yf8] at hf8;rw [yf9] at hf9;simp only [hf7,hf8,hf9] at hK' ⊢;go_simp;refine (HBE.out W hw).mono ?_;rintro e9 w9 ⟨D2,i2,A2,c2,B2,d2,C2,e2,rfl,t1,t2,t3,t4,f9⟩;have hsz:=hw.size;have hR:=f9;refine hK' (_) (w9) (by rw [cEq];exact hw.trans f9 (fun _ _ h=>h.elim)) (keep_step yM 10 (by kernel_rfl) _ fun j hs hy=>?_) (by rw [yf10];(try simp only [↓reduceIte]);try exact ⟨D2,i2,A2,c2,B2,d2,C2,e2,rfl,t1.mono (fun b hb=>by omega),t2.mono (fun b hb=>by omega),t3.mono (fun b hb=>by omega),t4.mono (fun b hb=>by omega)⟩);by_cases hp : j ∈ [0,1,3,4,7,8,9,13]
     . exact yP j _ _ _ hp hy
     by_cases hj : 16<=j
     . rw [yN j _ _ hj];trivial
     simp only [List.mem_cons,List.not_mem_nil,or_false] at hp;rcases (show j = 2\/j = 5\/j = 6\/j = 10\/j = 11\/j = 12\/j = 14\/j = 15 by omega) with rfl | rfl | rfl | rfl | rfl | rfl | rfl | rfl
     . exact (stay_no hs (by kernel_rfl)).elim
     . exact (stay_no hs (by kernel_rfl)).elim
     . rw [yf6] at hy ⊢;exact ⟨hy.1.fresh hR,hy.2⟩
     . exact (stay_no hs (by kernel_rfl)).elim
     . exact (stay_no hs (by kernel_rfl)).elim
     . exact (stay_no hs (by kernel_rfl)).elim
     . exact (stay_no hs (by kernel_rfl)).elim
     rw [yf15] at hy ⊢;exact hy.fresh hR
   refine Obls.cons [(6,some 84)] (by kernel_rfl) (fun xs W hw hd lst hl K hK=>?_) ?_
   . rw [cEq] at hw
     have hK':=hK.out;clear hK;simp only [hold] at hd;obtain ⟨hf6,_⟩:=hd;simp only [acts,Act.put,List.setIfInBounds_toArray,List.set_cons_zero,List.set_cons_succ] at hK' ⊢;rw [yf6] at hf6;go_simp;exact hK' _ _ (by rw [cEq];exact hw) (keep_pure yM 11 (by kernel_rfl) xs W _) (by rw [yf11];simp only [↓reduceIte];exact hf6)
   refine Obls.cons [(10,some 88),(15,none)] (by kernel_rfl) (fun xs W hw hd lst hl K hK=>?_) ?_
   . rw [cEq] at hw
     have hK':=hK.out;clear hK;simp only [hold] at hd;obtain ⟨hf10,hf15,_⟩:=hd;simp only [acts,Act.put,List.setIfInBounds_toArray,List.set_cons_zero,List.set_cons_succ] at hK' ⊢;rw [yf10] at hf10;rw [yf15] at hf15;obtain ⟨D2,i2,A2,c2,B2,d2,C2,e2,h10e,t1,t2,t3,t4⟩:=hf10;simp only [h10e] at hK' ⊢;have o5:=hf15;have x0:=o5.cell 0;have x1:=o5.cell 1;have x2:=o5.cell 2;have x3:=o5.cell 3;have x4:=o5.cell 4;have x5:=o5.cell 5;have x6:=o5.cell 6;have x7:=o5.cell 7;have x8:=o5.cell 8;have x9:=o5.cell 9;obtain ⟨z0,z1,z2,z3,z4,z5,z6,z7,z8,z9⟩:=(o5).frozens10;simp at x0 x1 x2 x3 x4 x5 x6 x7 x8 x9;have hO:=o5.set10 (.slice D2 h i2) (.int .i64 NT.lL) (.slice A2 n1 c2) (.int .i64 NT.lO) (.slice B2 m1 d2) (.int .i64 NT.lM) (.slice C2 k1 e2) (.int .i64 q0) (.int .i64 q1) (.int .i64 q2);have us:=set10 W (H + 1) (.slice D2 h i2) (.int .i64 NT.lL) (.slice A2 n1 c2) (.int .i64 NT.lO) (.slice B2 m1 d2) (.int .i64 NT.lM) (.slice C2 k1 e2) (.int .i64 q0) (.int .i64 q1) (.int .i64 q2);have hs3:=S3.out;have HO:=hd_ hO;have US:=hd_ us;clear o5 hO us;go_simp;have hR:=US.out;refine hK' (undef) (_) (by rw [cEq];exact hw.trans US.out (fun b _ h=>.inl h)) (keep_step yM 12 (by kernel_rfl) _ fun j hs hy=>?_) (by rw [yf12];(try simp only [↓reduceIte]);try exact ⟨D2,i2,A2,c2,B2,d2,C2,e2,HO.out,t1.upd US.out (fun b _ h h2=>by omega),t2.upd US.out (fun b _ h h2=>by omega),t3.upd US.out (fun b _ h h2=>by omega),t4.upd US.out (fun b _ h h2=>by omega)⟩);by_cases hp : j ∈ [0,1,3,4,7,8,9,13]
     . exact yP j _ _ _ hp hy
     by_cases hj : 16<=j
     . rw [yN j _ _ hj];trivial
     simp only [List.mem_cons,List.not_mem_nil,or_false] at hp;rcases (show j = 2\/j = 5\/j = 6\/j = 10\/j = 11\/j = 12\/j = 14\/j = 15 by omega) with rfl | rfl | rfl | rfl | rfl | rfl | rfl | rfl
     . exact (stay_no hs (by kernel_rfl)).elim
     . exact (stay_no hs (by kernel_rfl)).elim
     . exact (stay_no hs (by kernel_rfl)).elim
     . exact (stay_no hs (by kernel_rfl)).elim
     . rw [yf11] at hy ⊢;exact ⟨hy.1.upd hR (fun b hb hbe=>by have:=S3.out;rcases hy.2 b hb with h | h;have:=HVL.out b h;omega;omega),hy.2⟩
     . exact (stay_no hs (by kernel_rfl)).elim
     . exact (stay_no hs (by kernel_rfl)).elim
     exact (stay_no hs (by kernel_rfl)).elim
   refine Obls.cons [] (by kernel_rfl) (fun xs W hw hd lst hl K hK=>?_) ?_
   . rw [cEq] at hw
     have hK':=hK.out;clear hK;simp only [acts,Act.put,List.setIfInBounds_toArray,List.set_cons_zero,List.set_cons_succ] at hK' ⊢;go_simp;exact hK' _ _ (by rw [cEq];exact hw) (keep_pure yM 13 (by kernel_rfl) xs W _) (by rw [yf13];exact if_pos rfl)
   exact Obls.nil
 intro xs W hw hd;rw [cEq] at hw;simp only [holdE] at hd;obtain ⟨fe0,fe1,fe2,fe3,fe4,fe5,fe6,fe7,fe8,fe9,fe10,fe11,fe12,fe13,_⟩:=hd;have fe0:=fe0 (by kernel_rfl);rw [yf0] at fe0;have fe1:=fe1 (by kernel_rfl);rw [yf1] at fe1;have fe3:=fe3 (by kernel_rfl);rw [yf3] at fe3;have fe4:=fe4 (by kernel_rfl);rw [yf4] at fe4;have fe7:=fe7 (by kernel_rfl);rw [yf7] at fe7;have fe8:=fe8 (by kernel_rfl);rw [yf8] at fe8;have fe9:=fe9 (by kernel_rfl);rw [yf9] at fe9;have fe11:=fe11 (by kernel_rfl);rw [yf11] at fe11;have fe12:=fe12 (by kernel_rfl);rw [yf12] at fe12;have fe13:=fe13 (by kernel_rfl);rw [yf13] at fe13;clear fe2 fe5 fe6 fe10;simp only [acts,Act.put,List.setIfInBounds_toArray,List.set_cons_zero,List.set_cons_succ];generalize xs 0 = xv0 at *;generalize xs 1 = xv1 at *;generalize xs 2 = xv2 at *;generalize xs 3 = xv3 at *;generalize xs 4 = xv4 at *;generalize xs 5 = xv5 at *;generalize xs 6 = xv6 at *;generalize xs 7 = xv7 at *;generalize xs 8 = xv8 at *;generalize xs 9 = xv9 at *;generalize xs 10 = xv10 at *;generalize xs 11 = xv11 at *;generalize xs 12 = xv12 at *;generalize xs 13 = xv13 at *;subst fe0;subst fe1;subst fe3;subst fe4;subst fe7;subst fe8;subst fe9;subst fe13;clear yf0 yf1 yf2 yf3 yf4 yf5 yf6 yf7 yf8 yf9 yf10 yf11 yf12 yf13 yf14 yf15 yN yR yM yP cEq;obtain ⟨D2,i2,A2,c2,B2,d2,C2,e2,hbk,t1,t2,t3,t4⟩:=fe12;obtain ⟨ow,hob⟩:=fe11;obtain ⟨d0,d1,d2_,d3,d4,d5,d6,d7,d8,d9⟩:=(hbk).cells10;have HOW:=hd_ ow;have HOB:=hd_ hob;have HWC:=hd_ hw;have HTS:=hd_ (And.intro t1 (And.intro t2 (And.intro t3 t4)));clear hbk ow hob hw t1 t2 t3 t4;go_wp2_with fail;refine bodyPost_ret (v:=.tuple #[xv11,.agg #[.slice D2 h i2,.int .i64 NT.lL,.slice A2 n1 c2,.int .i64 NT.lO,.slice B2 m1 d2,.int .i64 NT.lM,.slice C2 k1 e2,.int .i64 q0,.int .i64 q1,.int .i64 q2],.int .i64 0]) (by simp [results,Tryz.results24,go_sem,d0,d1,d2_,d3,d4,d5,d6,d7,d8,d9]) rfl ?_;have hs0:=F0.out.size;have hs8:=F8.out.size;have hs1:=HH.out;have hs2:=S1.out;have hs3:=S2.out;have hs4:=F3.out.size;refine hR.out _ _ ⟨(F0.out.trans' F8.out).trans HWC.out (fun b hb h=>by rcases h with h | h;omega;have:=HVL.out b h;omega),?_⟩;rw [HE.out,HEB.out,<- HQ.out];refine (if_pos rfl).mpr ⟨xv11,D2,h,i2,A2,n1,c2,B2,m1,d2,C2,k1,e2,rfl,HOW.out,fun b hb=>?_,HTS.out.1.mono fun b hb=>?_,HTS.out.2.1.mono fun b hb=>?_,HTS.out.2.2.1.mono fun b hb=>?_,HTS.out.2.2.2.mono fun b hb=>?_⟩
 . rcases HOB.out b hb with h | h
   . have:=HVL.out b h;omega
   omega
 (all_goals omega)
end Go.Proofs.YtjfdaphjijfieaaGreat
namespace Go.Proofs.YtjfdaphjijfieaaGreat
open Go.RowKit
theorem enc_small (FL G : Nat->Prop) (D A B C L : Option Addr) (h i n c m d k e nl dl : Nat) (T : Tabs3) (Tr : List Int) (r0 r1 r2 : Int) (l : List (Int × Int × Int)) (w : World)
   (hL : RdK w FL 3 L nl (l.map tri)) (hfit : ∀ s ∈ l,-(2 ^ 63)<=s.2.1/\s.2.1 < 2 ^ 63) (hnl : nl < 128)
   (h0 : Rd w G D h (ints Tr)) (h1 : Rd w G A n (ints T.NL)) (h2 : Rd w G B m (ints T.NO)) (h3 : Rd w G C k (ints T.NM)) (f1 : Fit T.NL) (f2 : Fit T.NO) (f3 : Fit T.NM) (b0 : h<=2 ^ 40) (b1 : n<=2 ^ 40) (b2 : m<=2 ^ 40) (b3 : k<=2 ^ 40) :
   Calls Tryz.prog 24 #[.agg #[.slice D h i,.int .i64 T.lL,.slice A n c,.int .i64 T.lO,.slice B m d,.int .i64 T.lM,.slice C k e,.int .i64 r0,.int .i64 r1,.int .i64 r2],.slice L nl dl] w (EncPost (encS T r0 r1 r2 l) Tr w):=by
 (have hln : l.length = nl:=by have:=hL.1;simpa using this);by_cases hr : repOk r0 r1 r2 = true
 . by_cases hm : ∀ s ∈ l,mayS s
   . by_cases hne : l = []
     . subst hne
       (have h9 : nl = 0:=by rw [<- hln];rfl);subst h9;exact enc_nil FL G D A B C L h i n c m d k e dl T Tr r0 r1 r2 w hr hL h0 h1 h2 h3 b0 b1 b2 b3
     exact enc_go FL G D A B C L h i n c m d k e nl dl T Tr r0 r1 r2 l w hr hL hne hnl hm h0 h1 h2 h3 f1 f2 f3 b0 b1 b2 b3
   exact enc_bad FL D A B C L h i n c m d k e nl dl T Tr r0 r1 r2 l w hr hL hfit (by omega) hm
 exact enc_rep D A B C L h i n c m d k e nl dl T Tr r0 r1 r2 l w (by simpa using hr)
theorem encS_zero {T : Tabs3} {a b c : Int} {l : List (Int × Int × Int)} (h : (encS T a b c l).1 = 0) : repOk a b c = true/\(∀ s ∈ l,mayS s)/\l.length<=65536:=by
 unfold encS at h;by_cases h1 : repOk a b c = false
 . rw [if_pos h1] at h;simp at h
 rw [if_neg h1] at h;by_cases h2 : 65536 < l.length
 . rw [if_pos h2] at h;simp at h
 rw [if_neg h2] at h;by_cases h3 : ∀ s ∈ l,mayS s
 . exact ⟨by simpa using h1,h3,by omega⟩
 rw [if_pos h3] at h;simp at h
theorem encS_nil {T : Tabs3} {a b c : Int} (h : repOk a b c = true) : encS T a b c [] = (0,[0],T,a,b,c):=by
 unfold encS;rw [if_neg (by rw [h];simp),if_neg (by simp),if_neg (by simp),if_pos rfl]
theorem encS_go {T : Tabs3} {a b c : Int} {l : List (Int × Int × Int)} (h : repOk a b c = true) (hm : ∀ s ∈ l,mayS s) (hl : l.length<=65536) (hne : l ≠ []) : encS T a b c l = (0,encB T a b c l,newT T (codR a b c l),codN a b c l):=by
 unfold encS;rw [if_neg (by rw [h];simp),if_neg (by omega),if_neg (by simpa using hm),if_neg hne]
theorem enc_dec {T : Tabs3} {a b c : Int} {l : List (Int × Int × Int)} (hl : l.length < 128) (h : (encS T a b c l).1 = 0) :
   decE (encS T a b c l).2.1 0 T a b c = ⟨0,l,(encS T a b c l).2.2.1,(encS T a b c l).2.2.2.1,(encS T a b c l).2.2.2.2.1,(encS T a b c l).2.2.2.2.2,(encS T a b c l).2.1.length⟩:=by
 obtain ⟨hr,hm,hl2⟩:=encS_zero h;by_cases hne : l = []
 . subst hne
   rw [encS_nil hr];(have h1 : varN ([0].drop 0) = (0,1,0):=by decide +kernel);rw [decE_zero hr (by rw [h1]) (by rw [h1]),h1];simp
 rw [encS_go hr hm hl2 hne];exact enc_back hr hm hl hne
theorem encS_bytes {T : Tabs3} {a b c : Int} {l : List (Int × Int × Int)} (hl : l.length < 128) (h : (encS T a b c l).1 = 0) :
   (∀ x ∈ (encS T a b c l).2.1,x < 256)/\1<=(encS T a b c l).2.1.length/\(encS T a b c l).2.1.length<=10000/\(l ≠ []->2<=(encS T a b c l).2.1.length):=by
 obtain ⟨hr,hm,hl2⟩:=encS_zero h;by_cases hne : l = []
 . subst hne
   rw [encS_nil hr];simp
 rw [encS_go hr hm hl2 hne];have hok : ∀ x ∈ codR a b c l,x.ok:=codR_ok hm;have hRl : (codR a b c l).length = l.length:=codR_len _ _ _ _;(have hRn : codR a b c l ≠ []:=by intro hx;rw [hx] at hRl;simp at hRl;exact hne (List.eq_nil_of_length_eq_zero hRl.symm));obtain ⟨k1,k2⟩:=newT_ok (T:=T) (l:=codR a b c l) (by omega) hRn hok;have h5:=wrE_len k1 (fun x hx=>And.intro (hok x hx) (k2 x hx));have h6:=headB_len T (codR a b c l);obtain ⟨_,⟨m0a,m0b⟩,_⟩:=pk_facts (T:=T) (l:=codR a b c l) (by omega) hRn hok 0 (by omega);obtain ⟨_,⟨m1a,m1b⟩,_⟩:=pk_facts (T:=T) (l:=codR a b c l) (by omega) hRn hok 1 (by omega);obtain ⟨_,⟨m2a,m2b⟩,_⟩:=pk_facts (T:=T) (l:=codR a b c l) (by omega) hRn hok 2 (by omega);refine ⟨fun x hx=>?_,by simp [encB],?_,fun _=>by simp [encB,headB]⟩
 . unfold encB at hx
   rcases List.mem_cons.1 hx with rfl | hx
   . omega
   rcases List.mem_append.1 hx with hx | hx
   . unfold headB at hx
     rcases List.mem_cons.1 hx with rfl | hx
     . have:=modB_lt (T:=T) (l:=codR a b c l) (fun j hj=>by
         (have h3 : j = 0\/j = 1\/j = 2:=by omega);rcases h3 with rfl | rfl | rfl
         . exact ⟨m0a,m0b⟩
         . exact ⟨m1a,m1b⟩
         exact ⟨m2a,m2b⟩) 3 (by omega)
       omega
     simp only [tailB,show (0 : Nat) < 3 from by omega,show (1 : Nat) < 3 from by omega,show (2 : Nat) < 3 from by omega,if_true] at hx;rcases List.mem_append.1 hx with hx | hx
     . rcases List.mem_append.1 hx with hx | hx
       . exact encN_byte x hx
       exact encN_byte x hx
     exact encN_byte x hx
   exact packB_lt _ x hx
 simp only [encB,List.length_cons,List.length_append,packB_length,List.length_nil];omega
theorem encS_tabs {T : Tabs3} {a b c : Int} {l : List (Int × Int × Int)} (h : (encS T a b c l).1 = 0) (f1 : Fit T.NL) (f2 : Fit T.NO) (f3 : Fit T.NM) (b1 : T.NL.length<=1000) (b2 : T.NO.length<=1000) (b3 : T.NM.length<=1000) :
   Fit (encS T a b c l).2.2.1.NL/\Fit (encS T a b c l).2.2.1.NO/\Fit (encS T a b c l).2.2.1.NM/\(encS T a b c l).2.2.1.NL.length<=1000/\(encS T a b c l).2.2.1.NO.length<=1000/\(encS T a b c l).2.2.1.NM.length<=1000 /\
     repOk (encS T a b c l).2.2.2.1 (encS T a b c l).2.2.2.2.1 (encS T a b c l).2.2.2.2.2 = true:=by
 obtain ⟨hr,hm,hl2⟩:=encS_zero h;by_cases hne : l = []
 . subst hne
   rw [encS_nil hr];exact ⟨f1,f2,f3,b1,b2,b3,hr⟩
 rw [encS_go hr hm hl2 hne];have hok : ∀ x ∈ codR a b c l,x.ok:=codR_ok hm;have hRl : (codR a b c l).length = l.length:=codR_len _ _ _ _;(have hRn : codR a b c l ≠ []:=by intro hx;rw [hx] at hRl;simp at hRl;exact hne (List.eq_nil_of_length_eq_zero hRl.symm));have p0:=(pk_facts (T:=T) (l:=codR a b c l) (by omega) hRn hok 0 (by omega)).2.2.2.2.2;have p1:=(pk_facts (T:=T) (l:=codR a b c l) (by omega) hRn hok 1 (by omega)).2.2.2.2.2;have p2:=(pk_facts (T:=T) (l:=codR a b c l) (by omega) hRn hok 2 (by omega)).2.2.2.2.2;exact ⟨p0.1,p1.1,p2.1,p0.2,p1.2,p2.2,codN_ok hr hm⟩
set_option maxHeartbeats 20000000 in
theorem sback_any (D A B C : Option Addr) (h i n c m d k e : Nat) (T : Tabs3) (Tr : List Int) (r0 r1 r2 : Int) (L : Option Addr) (nl dl : Nat) (l : List (Int × Int × Int)) (w : World) (p0 : Rd w (fun _=>True) D h (ints Tr)) (p1 : Rd w (fun _=>True) A n (ints T.NL)) (p2 : Rd w (fun _=>True) B m (ints T.NO)) (p3 : Rd w (fun _=>True) C k (ints T.NM)) (f1 : Fit T.NL) (f2 : Fit T.NO) (f3 : Fit T.NM)
   (hL : RdK w (fun _=>True) 3 L nl (l.map tri)) (hfit : ∀ s ∈ l,-(2 ^ 63)<=s.2.1/\s.2.1 < 2 ^ 63) :
   Calls Tryz.prog 6 #[.agg #[.slice D h i,.int .i64 T.lL,.slice A n c,.int .i64 T.lO,.slice B m d,.int .i64 T.lM,.slice C k e,.int .i64 r0,.int .i64 r1,.int .i64 r2],.slice L nl dl] w fun e' w'=>e' = .returned (.bool true)/\Fresh w w':=by
 obtain ⟨w0,hw0⟩:=nm_ (w.alloc (.cells #[.slice D h i,.int .i64 T.lL,.slice A n c,.int .i64 T.lO,.slice B m d,.int .i64 T.lM,.slice C k e,.int .i64 r0,.int .i64 r1,.int .i64 r2] 32));obtain ⟨H,hH⟩:=nm_ (w.heap.size);(have f0 : Fresh w w0:=by rw [hw0];exact (Upd.refl _ _).alloc _);(have bc : Blk w0 H 32 #[.slice D h i,.int .i64 T.lL,.slice A n c,.int .i64 T.lO,.slice B m d,.int .i64 T.lM,.slice C k e,.int .i64 r0,.int .i64 r1,.int .i64 r2]:=by rw [hw0];exact blk_new hH _ _);(have hTr : Tr.length = h:=by have:=p0.1;rw [ints_length] at this;exact this);(have hNL : T.NL.length = n:=by have:=p1.1;rw [ints_length] at this;exact this);(have hNO : T.NO.length = m:=by have:=p2.1;rw [ints_length] at this;exact this);(have hNM : T.NM.length = k:=by have:=p3.1;rw [ints_length] at this;exact this);(have hll : l.length = nl:=by have:=hL.1;simpa using this);have HFW:=hd_ (fun W=>few25_any D A B C h i n c m d k e T r0 r1 r2 W);have HKN:=hd_ known25_any
 have HCX:=hd_ (show ∀ W,Fresh w0 W->W.cell? ⟨H,0,none⟩ = some (.slice D h i)/\W.cell? ⟨H,1,none⟩ = some (.int .i64 T.lL)/\W.cell? ⟨H,2,none⟩ = some (.slice A n c)/\W.cell? ⟨H,3,none⟩ = some (.int .i64 T.lO)/\W.cell? ⟨H,4,none⟩ = some (.slice B m d)/\W.cell? ⟨H,5,none⟩ = some (.int .i64 T.lM)/\W.cell? ⟨H,6,none⟩ = some (.slice C k e)/\W.cell? ⟨H,7,none⟩ = some (.int .i64 r0)/\W.cell? ⟨H,8,none⟩ = some (.int .i64 r1)/\W.cell? ⟨H,9,none⟩ = some (.int .i64 r2) from fun W f=>by
   have bb:=bc.fresh f
   exact bb.cells10)
 have HW:=hd_ hw0;have HH:=hd_ hH;have F0:=hd_ f0;have HRL:=hd_ (fun W (f : Fresh w0 W)=>(hL.fresh f0).fresh f);by_cases hbig : 60 < nl
 . have hb : (60 : Int) < nl:=by omega
   clear hw0 hH f0 bc p0 p1 p2 p3 f1 f2 f3 hL hfit hTr hNL hNO hNM hll hbig;refine veil fun R hR=>?_;go_enter Tryz.func6,Tryz.ntmps6;go_upto_region 1 with fail;simp only [<- HH.out,<- HW.out];go_wp2_with fail;refine (HKN.out _).mono ?_;rintro e1 w1 ⟨rfl,f1⟩;have F1:=hd_ (F0.out.trans' f1);clear f1;go_wp2_with fail;(try go_ret);exact hR.out _ _ ⟨rfl,F1.out⟩
 (have hb : ¬ (60 : Int) < nl:=by omega);by_cases hfew : h<=300/\n<=300/\m<=300/\k<=300
 . have HEN:=hd_ (fun W (f : Fresh w0 W)=>enc_small (fun _=>True) (fun b=>b < w.heap.size) D A B C L h i n c m d k e nl dl T Tr r0 r1 r2 l W ((hL.fresh f0).fresh f) hfit (by omega) ((p0.old.fresh f0).fresh f) ((p1.old.fresh f0).fresh f) ((p2.old.fresh f0).fresh f) ((p3.old.fresh f0).fresh f) f1 f2 f3 (by omega) (by omega) (by omega) (by omega))
   have HSD:=hd_ (fun (F' : Nat->Prop) (g : Nat) (bs : List Nat) (W : World) (hc : CurAt W F' g bs 0) (hF : ∀ b,F' b->b ≠ g) (hg : w.heap.size<=g) (f : Fresh w0 W)=>sdec_any F' (fun b=>b < w.heap.size) g bs 0 D A B C h i n c m d k e T Tr r0 r1 r2 W hc hF (fun b hb=>by omega) ((p0.old.fresh f0).fresh f) ((p1.old.fresh f0).fresh f) ((p2.old.fresh f0).fresh f) ((p3.old.fresh f0).fresh f) f1 f2 f3 (by omega) (by omega) (by omega) (by omega));have HED:=hd_ (fun he=>enc_dec (T:=T) (a:=r0) (b:=r1) (c:=r2) (l:=l) (by omega) he);have HEB:=hd_ (fun he=>encS_bytes (T:=T) (a:=r0) (b:=r1) (c:=r2) (l:=l) (by omega) he);have HET:=hd_ (fun he=>encS_tabs (T:=T) (a:=r0) (b:=r1) (c:=r2) (l:=l) he f1 f2 f3 (by omega) (by omega) (by omega));have HTR:=hd_ (show Tr.length<=1000 by omega);have HNL:=hd_ (show nl<=60 by omega);have hd : decide (h<=300/\n<=300/\m<=300/\k<=300) = true:=decide_eq_true hfew;rw [hd] at HFW;unfold EncPost at HEN;generalize encS T r0 r1 r2 l = S at *;obtain ⟨s0,bs,T2,x0,x1,x2⟩:=S;simp only at HEN HED HEB HET;clear hw0 hH f0 bc p0 p1 p2 p3 f1 f2 f3 hL hfit hTr hNL hNO hNM hll hbig hfew hd;refine veil fun R hR=>?_;obtain ⟨u0,u1,u2,u3,u4,u5,u6,u7,u8,u9⟩:=HCX.out w0 (Upd.refl _ _);go_enter Tryz.func6,Tryz.ntmps6;go_upto_region 1 with fail;simp only [<- HH.out,<- HW.out];go_wp2_with fail;refine (HFW.out _).mono ?_;rintro e1 w1 ⟨rfl,f1⟩;have F1:=hd_ f1;clear f1 u0 u1 u2 u3 u4 u5 u6 u7 u8 u9;obtain ⟨u0,u1,u2,u3,u4,u5,u6,u7,u8,u9⟩:=HCX.out w1 F1.out;by_cases he : s0 = 0
   . subst he
     have HED2:=hd_ (HED.out rfl);have HEB2:=hd_ (HEB.out rfl);have HET2:=hd_ (HET.out rfl);have hee:=HEN.out w1 F1.out;simp only [if_true] at hee;have HEE:=hd_ hee;clear HED HEB HET HEN hee;go_wp2_with fail;refine HEE.out.mono ?_;rintro e2 w2 ⟨f2,v,D2,h2,i2,A2,n2,c2,B2,m2,d2,C2,k2,e2,rfl,ov,hvb,t0,t1,t2,t3⟩;obtain ⟨Av,cv,rfl,hcv,rv⟩:=ov.form;have F12:=hd_ f2;have F2:=hd_ (F1.out.trans' f2);have RV:=hd_ rv;have TT:=hd_ (And.intro t0 (And.intro t1 (And.intro t2 t3)));clear f2 ov hvb hcv rv t0 t1 t2 t3 HEE;go_upto_region 4 with fail;obtain ⟨K2,hK2⟩:=nm_ (w2.heap.size);obtain ⟨w3,hw3⟩:=nm_ (w2.alloc (.cells #[.slice D2 h2 i2,.int .i64 T2.lL,.slice A2 n2 c2,.int .i64 T2.lO,.slice B2 m2 d2,.int .i64 T2.lM,.slice C2 k2 e2,.int .i64 x0,.int .i64 x1,.int .i64 x2] 32));simp only [<- hK2,<- hw3];have F23:=hd_ (show Fresh w2 w3 by rw [hw3];exact (Upd.refl _ _).alloc _);have B3:=hd_ (show Blk w3 K2 32 #[.slice D2 h2 i2,.int .i64 T2.lL,.slice A2 n2 c2,.int .i64 T2.lO,.slice B2 m2 d2,.int .i64 T2.lM,.slice C2 k2 e2,.int .i64 x0,.int .i64 x1,.int .i64 x2] by rw [hw3];exact blk_new hK2 _ _);clear hw3 hK2;have F3:=hd_ (F2.out.trans' F23.out);have hnb : (bytes bs).length = bs.length:=bytes_length bs;have HNW:=hd_ (new_any _ Av bs.length cv bs w3 (by have:=RV.out.fresh F23.out;rw [hnb] at this;exact this) HEB2.out.1 (by have:=HEB2.out.2.2.1;omega));(try simp only [hnb]);clear u0 u1 u2 u3 u4 u5 u6 u7 u8 u9 hnb;go_wp2_with fail;refine HNW.out.mono ?_;rintro e4 w4 ⟨g,rfl,hg,f4,cu⟩;have F34:=hd_ f4;have F4:=hd_ (F3.out.trans' f4);have HG:=hd_ hg;have hss:=HSD.out _ g bs w4 cu (fun b hb=>hb.2) (by have:=F0.out.size;have:=F3.out.size;have:=hg;omega) F4.out;rw [HED2.out] at hss;unfold SecPost at hss;simp only [if_true] at hss;have HSS:=hd_ hss;obtain ⟨u0,u1,u2,u3,u4,u5,u6,u7,u8,u9⟩:=HCX.out w4 F4.out;clear f4 cu hg hss HSD HNW;go_wp2_with fail;refine HSS.out.mono ?_;rintro e5 w5 ⟨ud,v5,D3,h3,i3,A3,n3,c3,B3_,m3,d3,C3,k3,e3,rfl,ow,hwb,t0,t1,t2,t3,cu5⟩;obtain ⟨Aw,cw,rfl,hcw,rw5⟩:=ow.form;have hs0:=F0.out.size;have hs3:=F3.out.size;have hgg:=HG.out;(have hlm : (l.map tri).length = nl:=by have:=(HRL.out w0 (Upd.refl _ _)).1;exact this);have F5:=hd_ (F4.out.trans ud (fun b hb e=>by have:=F4.out.size;omega));have F35:=hd_ (F34.out.trans ud (fun b hb e=>by omega));have RW:=hd_ (show RdK w5 (fun _=>True) 3 Aw nl (l.map tri) from by have h7:=rw5.mono (G:=fun _=>True) (fun _ _=>trivial);rw [hlm] at h7;exact h7);simp only [hlm];have TU:=hd_ (And.intro t0.1 (And.intro t1.1 (And.intro t2.1 t3.1)));have CU5:=hd_ cu5;clear ud ow hwb hcw rw5 t0 t1 t2 t3 cu5 hs0 hs3 hgg hlm HSS u0 u1 u2 u3 u4 u5 u6 u7 u8 u9;go_upto_region 8 with fail;obtain ⟨K5,hK5⟩:=nm_ (w5.heap.size);obtain ⟨w6,hw6⟩:=nm_ (w5.alloc (.cells #[.slice D3 h3 i3,.int .i64 T2.lL,.slice A3 n3 c3,.int .i64 T2.lO,.slice B3_ m3 d3,.int .i64 T2.lM,.slice C3 k3 e3,.int .i64 x0,.int .i64 x1,.int .i64 x2] 32))
     simp only [<- hK5,<- hw6];have F56:=hd_ (show Fresh w5 w6 by rw [hw6];exact (Upd.refl _ _).alloc _);have B6:=hd_ (show Blk w6 K5 32 #[.slice D3 h3 i3,.int .i64 T2.lL,.slice A3 n3 c3,.int .i64 T2.lO,.slice B3_ m3 d3,.int .i64 T2.lM,.slice C3 k3 e3,.int .i64 x0,.int .i64 x1,.int .i64 x2] by rw [hw6];exact blk_new hK5 _ _);have F6:=hd_ (F5.out.trans' F56.out);clear hw6 hK5;have HSM:=hd_ (same25_any (fun _=>True) (fun _=>True) L Aw nl nl dl cw l l w6 (HRL.out w6 F6.out) (RW.out.fresh F56.out) (by have:=HNL.out;omega) (by have:=HNL.out;omega));(have hdl : decide (l = l) = true:=by simp);rw [hdl] at HSM;go_wp2_with fail;refine HSM.out.mono ?_;rintro e7 w7 ⟨rfl,f7⟩;have F67:=hd_ f7;have F7:=hd_ (F6.out.trans' f7);have b3:=B3.out.fresh ((F35.out.trans' F56.out).trans' f7);have b6:=B6.out.fresh f7;have u0:=b3.cell 0;have v0:=b6.cell 0;have u1:=b3.cell 1;have v1:=b6.cell 1;have u2:=b3.cell 2;have v2:=b6.cell 2;have u3:=b3.cell 3;have v3:=b6.cell 3;have u4:=b3.cell 4;have v4:=b6.cell 4;have u5:=b3.cell 5;have v5:=b6.cell 5;have u6:=b3.cell 6;have v6:=b6.cell 6;have u7:=b3.cell 7;have v7:=b6.cell 7;have u8:=b3.cell 8;have v8:=b6.cell 8;have u9:=b3.cell 9;have v9:=b6.cell 9;simp at u0 u1 u2 u3 u4 u5 u6 u7 u8 u9 v0 v1 v2 v3 v4 v5 v6 v7 v8 v9;have hh:=TT.out;have hh2:=TU.out;have q0:=hh.1.1.1;have q1:=hh.2.1.1.1;have q2:=hh.2.2.1.1.1;have q3:=hh.2.2.2.1.1;have z0:=hh2.1.1;have z1:=hh2.2.1.1;have z2:=hh2.2.2.1.1;have z3:=hh2.2.2.2.1;rw [ints_length] at q0 q1 q2 q3 z0 z1 z2 z3;subst z0 z1 z2 z3;subst q0 q1 q2 q3;have f27 : Fresh w2 w7:=((F23.out.trans' F35.out).trans' F56.out).trans' f7;have f57 : Fresh w5 w7:=F56.out.trans' f7
     have HSC:=hd_ (sameCtx_any (fun _=>True) (fun _=>True) D2 A2 B2 C2 D3 A3 B3_ C3 _ i2 _ c2 _ d2 _ e2 i3 c3 d3 e3 T2 Tr x0 x1 x2 w7 ((hh.1.1.mono (fun _ _=>trivial)).fresh f27) ((hh.2.1.1.mono (fun _ _=>trivial)).fresh f27) ((hh.2.2.1.1.mono (fun _ _=>trivial)).fresh f27) ((hh.2.2.2.1.mono (fun _ _=>trivial)).fresh f27)
       ((hh2.1.mono (fun _ _=>trivial)).fresh f57) ((hh2.2.1.mono (fun _ _=>trivial)).fresh f57) ((hh2.2.2.1.mono (fun _ _=>trivial)).fresh f57) ((hh2.2.2.2.mono (fun _ _=>trivial)).fresh f57) HTR.out HET2.out.2.2.2.1 HET2.out.2.2.2.2.1 HET2.out.2.2.2.2.2.1)
     have F57:=hd_ f57;clear f7 b3 b6 hh hh2 f27 f57 hdl HSM;go_wp2_with fail;refine HSC.out.mono ?_;rintro e8 w8 ⟨rfl,f8⟩;have F8:=hd_ (F7.out.trans' f8);have HLF:=hd_ (cleft_any _ g bs bs.length w8 (CU5.out.fresh (F57.out.trans' f8)));(have hz : ((bs.length - bs.length : Nat) : Int) = 0:=by omega);clear f8 HSC u0 u1 u2 u3 u4 u5 u6 u7 u8 u9 v0 v1 v2 v3 v4 v5 v6 v7 v8 v9;go_wp2_with fail;refine HLF.out.mono ?_;rintro e9 w9 ⟨rfl,k9,rfl⟩;go_wp2_with fail;refine (HKN.out _).mono ?_;rintro e10 w10 ⟨rfl,f10⟩;have F10:=hd_ ((F8.out.drewN k9).trans' f10);clear f10;go_wp2_with fail;(try go_ret);exact hR.out _ _ ⟨rfl,F0.out.trans' F10.out⟩
   (have hne : (s0 != 0) = true:=by simpa using he);(have hne2 : (s0 == 0) = false:=by simpa using he);have hee:=HEN.out w1 F1.out;simp only [if_neg he] at hee;have HEE:=hd_ hee;clear HED HEB HET HEN hee he;go_wp2_with fail;refine HEE.out.mono ?_;rintro e2 w2 ⟨f2,rfl⟩;have F2:=hd_ (F1.out.trans' f2);clear f2 HEE;go_upto_region 4 with fail;obtain ⟨w3,hw3⟩:=nm_ (w2.alloc (.cells #[.slice none 0 0,.int .i64 0,.slice none 0 0,.int .i64 0,.slice none 0 0,.int .i64 0,.slice none 0 0,.int .i64 0,.int .i64 0,.int .i64 0] 32));simp only [<- hw3];have F3:=hd_ (F2.out.trans' (show Fresh w2 w3 by rw [hw3];exact (Upd.refl _ _).alloc _));clear hw3;go_wp2_with fail;refine (HKN.out _).mono ?_;rintro e4 w4 ⟨rfl,f4⟩;have F4:=hd_ (F3.out.trans' f4);clear f4;go_wp2_with fail;(try go_ret);exact hR.out _ _ ⟨rfl,F0.out.trans' F4.out⟩
 have hd : decide (h<=300/\n<=300/\m<=300/\k<=300) = false:=decide_eq_false hfew;rw [hd] at HFW;clear hw0 hH f0 bc p0 p1 p2 p3 f1 f2 f3 hL hfit hTr hNL hNO hNM hll hbig hfew hd;refine veil fun R hR=>?_;obtain ⟨u0,u1,u2,u3,u4,u5,u6,u7,u8,u9⟩:=HCX.out w0 (Upd.refl _ _);go_enter Tryz.func6,Tryz.ntmps6;go_upto_region 1 with fail;simp only [<- HH.out,<- HW.out];go_wp2_with fail;refine (HFW.out _).mono ?_;rintro e1 w1 ⟨rfl,f1⟩;have F1:=hd_ f1;clear f1;go_wp2_with fail;refine (HKN.out _).mono ?_;rintro e2 w2 ⟨rfl,f2⟩;have F2:=hd_ (F1.out.trans' f2);clear f2;go_wp2_with fail;(try go_ret);exact hR.out _ _ ⟨rfl,F0.out.trans' F2.out⟩
end Go.Proofs.YtjfdaphjijfieaaGreat
