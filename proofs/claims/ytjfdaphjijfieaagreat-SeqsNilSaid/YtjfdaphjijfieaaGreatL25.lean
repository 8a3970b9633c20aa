/-
  Joined texts, part 25: contracts and plain lemmas.
  Conditions: none beyond those of each theorem.
-/
import Derived.Test.YtjfdaphjijfieaaGreatL24
import Derived.Test.YtjfdaphjijfieaaGreatL6
import Derived.Test.YtjfdaphjijfieaaGreatL23
set_option maxHeartbeats 8000000
set_option linter.unusedVariables false
set_option linter.unusedSimpArgs false
set_option maxRecDepth 100000
universe u
namespace Go.Proofs.YtjfdaphjijfieaaGreat
open Go.RowKit
def Q4i (w w':World) (e:Ending) (lg:Int) (N:List Int) (x:Int):Prop :=
  ∃g c,e = .returned (.tuple #[.agg #[.int .i64 lg,.slice (some ⟨g,0,none⟩) N.length c],.int .i64 x])/\Rd w' (fun b=>b=g) (some ⟨g,0,none⟩) N.length (Q2 N)/\w.heap.size<=g/\Q0 w w'
theorem Q5e {N:List Int} {k:Nat} (h:k<N.length):Yt (N.take (k+1))=if 0<N[k]then k+1 else Yt (N.take k):=by
 rw [List.take_succ_eq_append_getElem h,Q5f,List.length_take,Nat.min_eq_left (by omega)]
theorem Q39 (N:List Int):Yt N<=N.length:=by
 induction N with
 | nil=>simp [Yt]
 | cons c l ih=>rw [Yt,List.length_cons];split<;>(try split)<;>omega
theorem Q6i {N:List Int} (h:0<QC N):Yt N≠0:=by
 induction N with
 | nil=>simp [QC]at h
 | cons c l ih =>
   rw [Yt];unfold QC at h ih;rw [List.countP_cons]at h;split
   . rename_i h0
     by_cases hc:0<c
     . rw [if_pos hc];omega
     rw [if_neg (by simpa using hc)]at h;exact absurd h0 (ih (by omega))
   omega
theorem Q3a {N M:List Int} {s tot:Int} (h:M.length=N.length):(Xj N s tot M).length=M.length:=by simp [Xj,h]
theorem Q6j {N M:List Int} {s tot:Int} {k:Nat} (hN:k<N.length) (hM:k<M.length):(Xj N s tot M)[k]?=some (if 0<N[k]/\N[k]*s<tot then -1 else M[k]):=by
 unfold Xj;rw [List.getElem?_zipWith,List.getElem?_eq_getElem hN,List.getElem?_eq_getElem hM]
theorem MOk.mono {N M:List Int} {B C:Int} (h:MOk N M B) (hBC:B<=C):MOk N M C :=
 ⟨h.1,fun i c m hc hm=>by obtain⟨h1,h2,h3⟩:=h.2 i c m hc hm;exact⟨h1,by omega,h3⟩⟩
theorem MOk.mem {N M:List Int} {B:Int} (h:MOk N M B) {y:Int} (hy:y∈M):0<=y/\y<=B:=by
 obtain⟨i,hi,rfl⟩:=List.getElem_of_mem hy;obtain⟨h1,h2,-⟩:=h.2 i (N[i]'(by have:=h.1;omega)) M[i] (List.getElem?_eq_getElem _) (List.getElem?_eq_getElem hi);exact⟨h1,h2⟩
theorem Q5g {M:List Int} {B:Int} (h:∀y∈M,0<=y/\y<=B):M.sum<=B*M.length:=by
 induction M with
 | nil=>simp
 | cons x l ih =>
   have h1:=ih fun y hy=>h y (List.mem_cons_of_mem _ hy);have h2:=h x (by simp);rw [List.sum_cons,List.length_cons];(have:B*((l.length+1:Nat):Int)=B*l.length+B:=by rw [Int.natCast_add,Int.mul_add];simp);omega
def Q0k (N:List Int) (s tot d:Int) (f:Nat) (M:List Int):List Int:=if d=1 then upN N s tot f M else dnN N s tot f M
theorem Q5h {N:List Int} {s d:Int} (h:(d=1/\0<=s-(JP N s N.sum).sum)\/(d=-1/\s-(JP N s N.sum).sum<0)) :
   Vw N s=Q0k N s N.sum d (s-(JP N s N.sum).sum).natAbs (JP N s N.sum):=by
 unfold Vw Q0k;rcases h with ⟨rfl,h⟩|⟨rfl,h⟩
 . rw [if_pos (by omega),if_pos rfl];congr 1;omega
 rw [if_neg (by omega),if_neg (by decide)];congr 1;omega
def XU (d:Int) (p14 p2 p9 p10 p6:Nat):Array Value :=
  if d=1 then #[.func (.func 203) #[] #[.pointer (some ⟨p2,0,none⟩)],JV p2 p9 p10 p6,.int .i64 1]
  else #[.func (.func 204) #[] #[.pointer (some ⟨p10,0,none⟩)],.func (.func 205) #[] #[.pointer (some ⟨p14,0,none⟩)],.int .i64 (-1)]
theorem Q6k (F:Nat->Prop) (A:Option Addr) (n c:Nat) (N:List Int) (w:World) (p:Nat) (hr:Rd w F A n (Q2 N)) (hfit:Fit N) (hn:(n:Int)<=1099511627776) (hok:Kr N p) :
   Calls Tryz.prog 170 #[.slice A n c,.int .i64 p] w fun e w'=>Q4i w w' e p (KJ N p) 0:=by
 obtain⟨w0,hw0⟩:=nm_ ((w.alloc (.cells #[.slice A n c] 27)).alloc (.cells #[.int .i64 0,.slice none 0 0] 29));obtain⟨H,hH⟩:=nm_ (w.heap.size);(have f0:Q0 w w0:=by rw [hw0];exact((Upd.refl _ _).alloc _).alloc _);(have b2:Blk w0 H 27 #[.slice A n c]:=by rw [hw0];exact(Q1 hH _ _).alloc _);(have bt:Blk w0 (H+1) 29 #[.int .i64 0,.slice none 0 0]:=by rw [hw0];exact Q1 (by simp [hH]) _ _);have hal:=Q0X F A n c N w0 (hr.fresh f0) hfit hn;have hu:=Xc N;(have hN:N.length=n:=by have:=hr.1;simpa using this);obtain⟨hct,hu0,-,hp9,hup⟩:=hok;(have hp9':p<=9:=by omega);rw [Int.toNat_natCast]at hup
 have hpow:(2:Int)^p<=512:=by
   have:2^p<=2^9:=Nat.pow_le_pow_right (by omega) hp9';(have h2:((2:Int)^p)=((2^p:Nat):Int):=by simp);omega
 have hpow0:(0:Int)<(2:Int)^p:=Int.pow_pos (by omega)
 have hups:(QC N:Int)<=(2:Int)^p:=by
   (have h2:((2:Int)^p)=((2^p:Nat):Int):=by simp);omega
 have HK:Hid (Calls Tryz.prog 201 #[.slice A n c] w0 fun e w'=>e = .returned (.tuple #[.int .i64 N.sum,.int .i64 (QC N:Nat),.bool true])/\w0=w') :=
   hd_ (hal.mono fun e w' h=>⟨by have:=h.1;unfold Jb at this;rw [decide_eq_true ⟨hct,hu0⟩,if_pos hct,if_pos hct]at this;exact this,h.2.symm⟩)
 have k2:=b2.cell0;have dk2:∀o,(w0.alloc o).cell? ⟨H,0,none⟩=some (.slice A n c):=fun o=>(b2.alloc o).cell0;have dk3:∀o o',((w0.alloc o).alloc o').cell? ⟨H,0,none⟩=some (.slice A n c):=fun o o'=>((b2.alloc o).alloc o').cell0;obtain⟨s,hs⟩:=nm_ ((2:Int)^p);obtain⟨T,hT⟩:=nm_ (N.sum);obtain⟨u,hU⟩:=nm_ (QC N);(have hul:u<=n:=by omega);(have hnM:n<=1099511627776:=by omega)
 have hmk:∀W,(Instr.makeSlice 27 (.int .i64 (n:Int)) (.int .i64 (n:Int))).run Tryz.prog W = .ok (.slice (some ⟨W.heap.size,0,none⟩) n n) (W.alloc (.cells (madeCells #[.int .i64 0] n) 3)):=fun W=>by
   have:=run_make_row' (P:=Tryz.prog) 27 3 (.int .i64 0) 8 Tryz.underlying27 JH rfl .i64 .i64 n (by omega) (by omega) W;simpa using this
 obtain⟨cs,hcs⟩:=nm_ (madeCells #[Value.int .i64 0] n);simp only [<-hcs]at hmk;rw [<-hT,<-hU]at HK;rw [<-hU]at hups;have HS:=hd_ hs;have HT:=hd_ hT;have HU:=hd_ hU;have HCT:=hd_ hct;have HU0:=hd_ hu0;have HB2:=hd_ b2;have HBT:=hd_ bt;have F0:=hd_ f0;have HR:=hd_ (fun W (h:Q0 w W)=>hr.both.fresh h);have HN:=hd_ hN;have HW:=hd_ hw0;have HH:=hd_ hH;have HCS:=hd_ hcs;(have hups2:¬(2:Int)^p<u:=by omega);clear hs hT hU hct hu0 b2 bt f0 hr hN hw0 hH hal hu hup hp9' hcs;refine Q6 fun R hR=>?_;go_enter Tryz.func170,Tryz.ntmps170;go_wp2_with fail;simp only [<-HH.out,<-HW.out];go_wp2_with fail;refine HK.out.mono ?_;rintro e wx ⟨rfl,rfl⟩;(have hz0:w0.heap.size=H+2:=by rw [HW.out,HH.out];simp);go_upto_region 7 with fail;simp only [hz0,Nat.add_assoc,Nat.reduceAdd,<-HS.out];simp only [<-HS.out]at hpow hpow0 hups hups2;obtain⟨w1,hw1⟩:=nm_ ((((w0.alloc (.cells #[.int .i64 T] 3)).alloc (.cells #[.int .i64 s] 3)).alloc (.cells cs 3)).alloc (.cells #[.slice (some ⟨H+4,0,none⟩) n n] 27));rw [<-hw1];have B2:=hd_ (show Blk w1 H 27 #[.slice A n c] by rw [hw1];exact(((HB2.out.alloc _).alloc _).alloc _).alloc _);have BT:=hd_ (show Blk w1 (H+1) 29 #[.int .i64 0,.slice none 0 0] by rw [hw1];exact(((HBT.out.alloc _).alloc _).alloc _).alloc _);have B6:=hd_ (show Blk w1 (H+2) 3 #[.int .i64 T] by rw [hw1];exact(((Q1 hz0.symm _ _).alloc _).alloc _).alloc _);have B9:=hd_ (show Blk w1 (H+3) 3 #[.int .i64 s] by rw [hw1];exact((Q1 (by simp [hz0]) _ _).alloc _).alloc _);(have BG0:Blk w1 (H+4) 3 cs:=by rw [hw1];exact(Q1 (by simp [hz0]) _ _).alloc _);have B10:=hd_ (show Blk w1 (H+5) 27 #[.slice (some ⟨H+4,0,none⟩) n n] by rw [hw1];exact Q1 (by simp [hz0]) _ _);have F1:=hd_ (show Q0 w w1 by rw [hw1];exact(((F0.out.alloc _).alloc _).alloc _).alloc _);have HW1:=hd_ hw1;obtain⟨B,hB⟩:=nm_ (JP N s T);(have hBl:B.length=n:=by rw [hB];simp [JP,HN.out])
 have BG:Blk w1 (H+4) 3 (Q2 (Zh B 0)).toArray:=by
   have e:(Q2 (Zh B 0)).toArray=cs:=by
     rw [HCS.out,Q2b,hBl];exact Array.toList_inj.1 (by rw [toList_madeCells_one];simp [Q2])
   rw [e];exact BG0
 (have hMO:MOk N B 512:=by rw [hB,HT.out];exact Q4j HCT.out (by omega) hpow);have q2:=B2.out.cell0;have HBL:=hd_ hBl;have HBB:=hd_ hB;have HMO:=hd_ hMO;have HBG:=hd_ BG;have HZ0:=hd_ hz0;clear hw1 hBl hB hMO BG BG0 hz0 HBT HB2 k2 dk2 dk3 hmk HK HW;go_wp2_with fail;go_loopg [11,49] n (fun f l i wr=>∃k:Nat,k+f=n/\i = .int .i64 k/\l = .int .i64 (s-(B.take k).sum)/\Blk wr (H+4) 3 (Q2 (Zh B k)).toArray/\Upd (fun b=>b=H+4) w1 wr/\0<=(B.take k).sum/\(B.take k).sum<=512*k)
 case atStart=>exact⟨0,by omega,rfl,by simp,HBG.out,Upd.refl _ _,by simp,by simp⟩
 case round =>
   obtain⟨k,hk,rfl,rfl,bg,ur,hs0,hs1⟩:=hrel;have HK:=hd_ hk;have r2:=B2.out.upd ur (by omega);have r6:=B6.out.upd ur (by omega);have r9:=B9.out.upd ur (by omega);have r10:=B10.out.upd ur (by omega);have c6:=r6.cell0;have c9:=r9.cell0;have c10:=r10.cell0;have FR:=hd_ (F1.out.trans ur (fun b hb h=>by have:=HH.out;omega));have UR:=hd_ ur;have HBGK:=hd_ bg;by_cases hlt:k<n
   . have hkB:k<B.length:=by rw [HBL.out];exact hlt
     (have hkN:k<N.length:=by rw [HN.out];exact hlt);have hgt:=List.take_succ_eq_append_getElem hkB;have HSM:=hd_ (show(B.take (k+1)).sum=(B.take k).sum+B[k] by rw [hgt,Vl]);have HLS:=hd_ (Q3b hkB);have HLM:=hd_ (Q6l hkB);have HBK:=hd_ (show B[k]=if 0<N[k]then max (N[k]*s / T) 1 else 0 by simp only [HBB.out];simp [JP]);obtain⟨hm0,hm1,-⟩:=HMO.out.2 k N[k] B[k] (List.getElem?_eq_getElem hkN) (List.getElem?_eq_getElem hkB);have hz:=HCT.out.le (List.getElem_mem hkN);obtain⟨b,o,_,rfl,_,hc⟩:=(HR.out _ FR.out).int (k:=k) hlt;generalize N[k]=z at *;generalize B[k]=m at *;generalize (B.take k).sum=q at *;(have hlI:(k:Int)<n:=by omega);have hw4:IntKind.i64.wrap ((k:Int)+1)=k+1:=IntWalk.i64_in _ (by omega);clear hgt;by_cases hz1:0<z
     . rw [if_pos hz1]at HBK
       (have hT1:0<T:=by rw [HT.out];omega);have e1:0<=z*s:=Int.mul_nonneg hz.1 (by omega);have e2:z*s<=562949953421312:=Int.le_trans (Int.mul_le_mul_of_nonneg_right (by have:=HCT.out.2;omega:z<=1099511627776) (by omega)) (Int.le_trans (Int.mul_le_mul_of_nonneg_left hpow (by omega)) (by decide));have s1:IntKind.i64.wrap (z*s)=z*s:=IntWalk.i64_in _ (by omega);have e3:0<=z*s / T:=Int.ediv_nonneg e1 (by omega);have e4:z*s / T<=562949953421312:=Int.le_trans (Int.ediv_le_self _ e1) e2;(have hT0:¬T=0:=by omega);(have hT00:(T == 0)=false:=by simpa using hT0);have e5:(z*s).tdiv T=z*s / T:=Int.tdiv_eq_ediv_of_nonneg e1;have s2:IntKind.i64.wrap (z*s / T)=z*s / T:=IntWalk.i64_in _ (by omega);have HZ:=hd_ hz;clear hz;(have g0:wr.cell? ⟨H+4,k,none⟩=some (.int .i64 0):=by rw [HBGK.out.cell];simp [Q2,Q3c hkB]);have g1:wr.frozen? ⟨H+4,k,none⟩=false:=HBGK.out.frozen k;go_wp2_with fail;go_still_tail 9,(by kernel_rfl);change wpList _ _ _ _ _ wr.drew;obtain⟨v,hv⟩:=nm_ (max (z*s / T) 1);(have hvm:v=m:=by rw [hv,HBK.out]);have hw5:IntKind.i64.wrap (s-q-m)=s-q-m:=IntWalk.i64_in _ (by omega);have bgs:=HBGK.out.drew.set_ k (.int .i64 m);rw [Zv,HLS.out]at bgs;have c10s:=(r10.drew.far (p:=⟨H+4,k,none⟩) (by simp) (.int .i64 m)).cell0;have us:=UR.out.drew.setCell (p:=⟨H+4,k,none⟩) (fun _=>rfl) (.int .i64 m);have ggs:(wr.drew.setCell ⟨H+4,k,none⟩ (.int .i64 m)).cell? ⟨H+4,k,none⟩=some (.int .i64 m):=((HBGK.out.drew.set_ k (.int .i64 m)).cell k).trans (by simp [Q3U (Nat.le_of_lt hkB),hkB]);rw [hvm]at hv;simp only [<-hv];have BGS:=hd_ bgs;have US:=hd_ us;clear bgs us hv hvm e1 e2 s1 s2 e3 e4 e5 hT0 hT00;go_wp2_with fail;go_roundg (gk-1)
       case measure=>have:=HK.out;omega
       case rel=>exact⟨k+1,by have:=HK.out;omega,by go_num,by rw [HSM.out];congr 1;omega,BGS.out,US.out,by rw [HSM.out];omega,by rw [HSM.out];omega⟩
     rw [if_neg hz1]at HBK;have hm00:m=0:=HBK.out;have HLM2:=hd_ (HLM.out hm00);have HSM2:=hd_ (show(B.take (k+1)).sum=q by rw [HSM.out,hm00];omega);clear hz hm00;go_wp2_with fail;go_roundg (gk-1)
     case measure=>have:=HK.out;omega
     case rel=>exact⟨k+1,by have:=HK.out;omega,by go_num,by rw [HSM2.out],by rw [<-HLM2.out];exact HBGK.out,UR.out,by rw [HSM2.out];omega,by rw [HSM2.out];omega⟩
   (obtain rfl:k=n:=by have:=HK.out;omega);have htk:B.take k=B:=List.take_of_length_le (by have:=HBL.out;omega);(have hly:Zh B k=B:=by have:=Q3d B;rw [HBL.out]at this;exact this);rw [hly]at HBGK;rw [htk]at hs0 hs1 ⊢;clear htk hly;go_upto_if 77 with fail;obtain⟨G,hG⟩:=nm_ (wr.heap.size);(have hGH:H+5<G:=by rw [hG];exact r10.lt);obtain⟨w2,hw2⟩:=nm_ ((wr.alloc (.cells #[JV H (H+3) (H+5) (H+2)] 123)).alloc (.cells #[.func (.func 203) #[] #[.pointer (some ⟨H,0,none⟩)],JV H (H+3) (H+5) (H+2),.int .i64 1] 300));have hw2':=hw2;unfold JV at hw2';rw [<-hw2',<-hG];(have f2:Q0 wr w2:=by rw [hw2];exact((Upd.refl _ _).alloc _).alloc _);have V14:=hd_ (show Blk w2 G 123 #[JV H (H+3) (H+5) (H+2)] by rw [hw2];exact(Q1 hG _ _).alloc _);(have v15:Blk w2 (G+1) 300 (XU 1 G H (H+3) (H+5) (H+2)):=by rw [hw2];exact Q1 (by simp [hG]) _ _);have V2:=hd_ (r2.fresh f2);have V6:=hd_ (r6.fresh f2);have V9:=hd_ (r9.fresh f2);have V10:=hd_ (r10.fresh f2);have VG:=hd_ (HBGK.out.fresh f2);have VT:=hd_ ((BT.out.upd UR.out (by omega)).fresh f2);have FW2:=hd_ (FR.out.trans' f2);have V15:=hd_ v15;have hv0:=v15.cell 0;have hv1:=v15.cell 1;have hv2:=v15.cell 2;have hvz0:=v15.frozen 0;have hvz1:=v15.frozen 1;have hvz2:=v15.frozen 2;simp [XU]at hv0 hv1 hv2;(have hw5:-(512*(k:Int))<=s-B.sum:=by omega);clear hw2 hw2' v15 f2 r2 r6 r9 r10 c6 c9 c10 bg ur hG HW1 B2 BT B6 B9 B10 F1 HBG HZ0 HCS;go_cut []from 78 to 80 (fun wx=>∃d:Int,((d=1/\0<=s-B.sum)\/(d=-1/\s-B.sum<0))/\Blk wx (G+1) 300 (XU d G H (H+3) (H+5) (H+2))/\Upd (fun b=>b=G+1) w2 wx)
   case first =>
     by_cases hneg:s-B.sum<0
     . go_wp2_with fail
       go_meet
       case rel =>
         refine⟨-1,.inr ⟨rfl,hneg⟩,?_,((((Upd.refl (fun b=>b=G+1) w2).setCell (p:=⟨G+1,0,none⟩) (fun _=>rfl) _).setCell (p:=⟨G+1,1,none⟩) (fun _=>rfl) _).setCell (p:=⟨G+1,2,none⟩) (fun _=>rfl) _)⟩;simpa [XU]using((V15.out.set_ 0 (.func (.func 204) #[] #[.pointer (some ⟨H+5,0,none⟩)])).set_ 1 (.func (.func 205) #[] #[.pointer (some ⟨G,0,none⟩)])).set_ 2 (.int .i64 (-1))
     go_wp2_with fail;go_meet
     case rel=>exact⟨1,.inl ⟨rfl,by omega⟩,V15.out,Upd.refl _ _⟩
   case rest =>
     obtain⟨d,hd,v15,u15⟩:=hcut;have X2:=hd_ (V2.out.upd u15 (by omega));have X6:=hd_ (V6.out.upd u15 (by omega));have X9:=hd_ (V9.out.upd u15 (by omega));have X10:=hd_ (V10.out.upd u15 (by omega));have XG:=hd_ (VG.out.upd u15 (by omega));have XT:=hd_ (VT.out.upd u15 (by omega));have X14:=hd_ (V14.out.upd u15 (by omega));have X15:=hd_ v15;have FX:=hd_ (FW2.out.trans u15 (fun b hb h=>by have:=HH.out;omega));have HD:=hd_ hd;have HEV:=hd_ (Q5h (N:=N) (s:=s) (d:=d) (by rw [<-HT.out,<-HBB.out];exact hd));rw [<-HT.out,<-HBB.out]at HEV;have HD1:=hd_ (show s-B.sum=d*((s-B.sum).natAbs:Nat) by rcases hd with ⟨rfl,h⟩|⟨rfl,h⟩<;>omega);obtain⟨f0,hf0⟩:=nm_ ((s-B.sum).natAbs);rw [<-hf0]at HEV HD1;have HF0:=hd_ hf0;obtain⟨l0,hl0⟩:=nm_ (s-B.sum);rw [<-hl0]at HD1 ⊢;have HL0:=hd_ hl0;clear v15 u15 hd hf0 hl0 V2 V6 V9 V10 VG VT V14 V15 FW2 hv0 hv1 hv2 hvz0 hvz1 hvz2;go_wp2_with fail;go_loopg [11] f0 (fun f l wr=>∃(M:List Int) (Bd x:Int),l = .int .i64 x/\x=d*f/\Blk wr (H+4) 3 (Q2 M).toArray/\Upd (fun b=>b=H+4) wc wr/\MOk N M Bd/\(d=1->Bd+f<=1024)/\(d=-1->Bd<=512)/\M.sum=s-x/\Vw N s=Q0k N s T d f M)
     case atStart =>
       refine⟨B,512,l0,rfl,HD1.out,XG.out,Upd.refl _ _,HMO.out,?_,fun _=>by omega,by rw [HL0.out];omega,HEV.out⟩;intro h1;have h2:=HF0.out;(rcases HD.out with h3|h3<;>omega)
     case round =>
       obtain⟨M,Bd,x,rfl,hx,bg,ur,hMO,hb1,hb2,hsum,hev⟩:=hrel;have r2:=X2.out.upd ur (by omega);have r6:=X6.out.upd ur (by omega);have r9:=X9.out.upd ur (by omega);have r10:=X10.out.upd ur (by omega);have r14:=X14.out.upd ur (by omega);have r15:=X15.out.upd ur (by omega);have rT:=XT.out.upd ur (by omega);have frw:Q0 w wr:=FX.out.trans ur (fun b hb h=>by have:=HH.out;omega);(have hT0:0<=T:=by rw [HT.out];exact Jt HCT.out.1);(have hT1:T<=1099511627776:=by rw [HT.out];exact HCT.out.2);have hMN:M.length=N.length:=hMO.1;(have hMk:M.length=k:=by rw [hMN,HN.out]);have HX:=hd_ hx;have HMOM:=hd_ hMO;have HB1:=hd_ hb1;have HB2:=hd_ hb2;have HSUM:=hd_ hsum;have HEV2:=hd_ hev;have BGM:=hd_ bg;have URM:=hd_ ur;have FRW:=hd_ frw;have HMK:=hd_ hMk;have HMN:=hd_ hMN;clear hx hMO hb1 hb2 hsum hev bg ur frw hMk hMN;by_cases h0:gk=0
       . have hx0:x=0:=by rw [HX.out,h0];simp
         subst hx0
         have hev3:Vw N s=M:=by
           rw [HEV2.out,h0];unfold Q0k;(split<;>rfl)
         obtain⟨Q,hQ⟩:=nm_ (Xj N s T M);(have hQM:Q.length=M.length:=by rw [hQ];exact Q3a HMN.out)
         have hnorm:KJ N p=Q.take (Yt N):=by
           unfold KJ;rw [<-HS.out,<-HT.out,hev3,hQ]
         have HQG:=hd_ (fun(i:Nat) (h1:i<N.length) (h2:i<M.length)=>hQ ▸ Q6j (s:=s) (tot:=T) h1 h2);have HQM:=hd_ hQM;have HNORM:=hd_ hnorm;have R6:=hd_ r6;have R9:=hd_ r9;have R10:=hd_ r10;have RT:=hd_ rT;have hl9:=Q39 N;have hl0:=Q6i HU0.out;have HLC:=hd_ (show 0<Yt N/\Yt N<=k from⟨by omega,by have:=HN.out;omega⟩);have HR3:=hd_ (fun W (h:Q0 wr W)=>HR.out W (FRW.out.trans' h));have BGQ:=hd_ (show Blk wr (H+4) 3 (Q2 (Zw Q M 0)).toArray by rw [Q2c];exact BGM.out);have hk2:=(X2.out.upd URM.out (by omega)).cell0;clear hev3 hQ hQM hnorm hl9 hl0 r2 r6 r9 r10 r14 r15 rT HEV HEV2 HB1 HB2 HSUM HMO HMOM BGM HD HD1 HX X2 X6 X9 X10 X14 X15 XG XT h0;go_wp2_with fail;go_loopg [7,102] k (fun f q i wy=>∃(j:Nat) (y:Int),j+f=k/\i = .int .i64 j/\q = .int .i64 y/\(Yt (N.take j)≠0->y=Yt (N.take j))/\Blk wy (H+4) 3 (Q2 (Zw Q M j)).toArray/\Upd (fun b=>b=H+4) wr wy)
         case atStart=>exact⟨0,u,by omega,rfl,rfl,by simp [Yt],BGQ.out,Upd.refl _ _⟩
         case round =>
           obtain⟨j,y,hj,rfl,rfl,hy,bg,uy⟩:=hrel;have HJ:=hd_ hj;have HY:=hd_ hy;have BGJ:=hd_ bg;have UY:=hd_ uy;have s6:=R6.out.upd uy (by omega);have s9:=R9.out.upd uy (by omega);have s10:=R10.out.upd uy (by omega);have FY:=hd_ (FRW.out.trans uy (fun b hb h=>by have:=HH.out;omega));have SX:=hd_ (RT.out.upd uy (by omega));have c6:=s6.cell0;have c9:=s9.cell0;have c10:=s10.cell0;clear hj hy bg uy;by_cases hlt:j<k
           . have hjN:j<N.length:=by rw [HN.out];exact hlt
             (have hjM:j<M.length:=by rw [HMK.out];exact hlt);have HLT:=hd_ (Q5e hjN);have HQJ:=hd_ (HQG.out j hjN hjM);have HMG:=hd_ (List.getElem?_eq_getElem hjM);have HMS:=hd_ (fun x (h:Q[j]?=some x)=>Q14 HQM.out hjM x h);have HML:=hd_ (fun(h:Q[j]?=M[j]?)=>Q2d HQM.out hjM h);have HMM:=hd_ (Q15 HQM.out hjM);have hz:=HCT.out.le (List.getElem_mem hjN);have hT1:=HCT.out.2;rw [<-HT.out]at hz hT1;obtain⟨b,o,_,rfl,_,hc⟩:=(HR.out _ FY.out).int (k:=j) hlt;generalize N[j]=z at *;generalize M[j]=m at *;(have hjI:(j:Int)<k:=by omega);have hw4:IntKind.i64.wrap ((j:Int)+1)=j+1:=IntWalk.i64_in _ (by omega);by_cases hz1:0<z
             . rw [if_pos hz1]at HLT
               have e1:0<=z*s:=Int.mul_nonneg hz.1 (by omega);have e2:z*s<=562949953421312:=Int.le_trans (Int.mul_le_mul_of_nonneg_right (by omega:z<=1099511627776) (by omega)) (Int.le_trans (Int.mul_le_mul_of_nonneg_left hpow (by omega)) (by decide));have s1:IntKind.i64.wrap (z*s)=z*s:=IntWalk.i64_in _ (by omega);by_cases hrare:z*s<T
               . rw [if_pos ⟨hz1,hrare⟩]at HQJ
                 have HMS2:=hd_ (HMS.out _ HQJ.out);(have g0:wr.cell? ⟨H+4,j,none⟩=some (.int .i64 m):=by rw [BGJ.out.cell];simp [Q2,HMM.out,HMG.out]);have g1:wr.frozen? ⟨H+4,j,none⟩=false:=BGJ.out.frozen j;have bgs:=BGJ.out.set_ j (.int .i64 (-1));rw [Zv,HMS2.out]at bgs;have BGS:=hd_ bgs;clear bgs;go_wp2_with fail;go_roundg (gk-1)
                 case measure=>have:=HJ.out;omega
                 case rel=>exact⟨j+1,(j:Int)+1,by have:=HJ.out;omega,by go_num,rfl,fun _=>by rw [HLT.out];go_num,BGS.out,UY.out.setCell (p:=⟨H+4,j,none⟩) (fun _=>rfl) _⟩
               rw [if_neg (fun h=>hrare h.2)]at HQJ;have HMS2:=hd_ (HML.out (by rw [HQJ.out,HMG.out]));go_wp2_with fail;go_roundg (gk-1)
               case measure=>have:=HJ.out;omega
               case rel=>exact⟨j+1,(j:Int)+1,by have:=HJ.out;omega,by go_num,rfl,fun _=>by rw [HLT.out];go_num,by rw [<-HMS2.out];exact BGJ.out,UY.out⟩
             rw [if_neg hz1]at HLT;rw [if_neg (fun h=>hz1 h.1)]at HQJ;have HMS2:=hd_ (HML.out (by rw [HQJ.out,HMG.out]));go_wp2_with fail;go_roundg (gk-1)
             case measure=>have:=HJ.out;omega
             case rel=>exact⟨j+1,y,by have:=HJ.out;omega,by go_num,rfl,by rw [HLT.out];exact HY.out,by rw [<-HMS2.out];exact BGJ.out,UY.out⟩
           (obtain rfl:j=k:=by have:=HJ.out;omega);have htk:N.take j=N:=List.take_of_length_le (by have:=HN.out;omega);have hy:=HY.out;rw [htk]at hy;have hyl:=hy (by have:=HLC.out;omega);subst hyl;(have hmq:Zw Q M j=Q:=by have:=Q3e HQM.out;rw [HMK.out]at this;exact this);have bgq:=BGJ.out;rw [hmq]at bgq;have BGF:=hd_ bgq;(have hl1:(Yt N:Int)<=j:=by have:=HLC.out;omega);(have hl2:0<=(Yt N:Int):=by omega);have hl3:Yt N<=j:=HLC.out.2;have t0:=SX.out.cell 0;have t1:=SX.out.cell 1;have z0:=SX.out.frozen 0;have z1:=SX.out.frozen 1;simp at t0 t1;clear htk hy hmq bgq;go_wp2_with fail;refine bodyPost_ret (Q5 rfl _ _ (H+1) _ _ _ rfl ((SX.out.set_ 0 (.int .i64 p)).set_ 1 (.slice (some ⟨H+4,0,none⟩) (Yt N) j)) Tryz.underlying29 rfl (by kernel_rfl)) rfl ?_
           have hln:(KJ N p).length=Yt N:=by
             rw [HNORM.out,List.length_take,Nat.min_eq_left];rw [HQM.out,HMK.out];exact hl3
           have u3:=Ve wr (H+1) (.int .i64 p) (.slice (some ⟨H+4,0,none⟩) (Yt N) j);have b3:=BGF.out.upd u3 (by omega);refine hR.out _ _ ⟨H+4,j,by rw [hln];rfl,?_,by have:=HH.out;omega,FY.out.trans u3 (fun b hb h=>by have:=HH.out;omega)⟩;have r3:=(Blk.rdg b3 rfl).take (k:=Yt N) (by rw [HQM.out,HMK.out];exact hl3);rw [hln,HNORM.out];(have e3:Q2 (Q.take (Yt N))=(Q2 Q).take (Yt N):=by simp [Q2,List.map_take]);rw [e3];exact r3
       have hxd:x≠0:=by
         have h1:=HX.out;(rcases HD.out with ⟨rfl,h⟩|⟨rfl,h⟩<;>omega)
       (have hxb:(x != 0)=true:=by simpa using hxd)
       have hxr:-562949953421312<=x/\x<=512:=by
         have h1:=HSUM.out;have h2:=Jt (N:=M) (fun y hy=>(HMOM.out.mem hy).1);have h3:=HX.out;have h4:=HB2.out;have h5:=Q5g (M:=M) (B:=Bd) (fun y hy=>HMOM.out.mem hy);rw [HMK.out]at h5;rcases HD.out with ⟨rfl,h⟩|⟨rfl,h⟩
         . omega
         have h6:Bd*(k:Int)<=512*k:=Int.mul_le_mul_of_nonneg_right (h4 rfl) (by omega);omega
       obtain⟨f,hf⟩:∃f,gk=f+1:=⟨gk-1,by omega⟩
       have hBd:Bd<=1024:=by
         rcases HD.out with ⟨h,-⟩|⟨h,-⟩
         . have:=HB1.out h;omega
         have:=HB2.out h;omega
       have NC:=hd_ (show XR wr _ A k c k H (H+3) (H+5) (H+2) (H+4) N M s T from⟨r2,r9,r10,r6,BGM.out,HR.out wr FRW.out⟩);have NB:=hd_ (show NBd N M s T from⟨by omega,hpow,hT0,hT1,fun y hy=>by have:=HCT.out.le hy;have:=HCT.out.2;omega,fun y hy=>by have:=HMOM.out.mem hy;omega⟩);have HF:=hd_ hf;have R14:=hd_ r14;have R15:=hd_ r15;have R10:=hd_ r10;clear hf h0 hT0 hT1 r2 r6 r9 r10 r14 r15 rT hxd;rcases HD.out with ⟨rfl,hd⟩|⟨rfl,hd⟩
       . obtain⟨⟨j,y⟩,ha⟩:=Q9g (N:=N) (M:=M) (s:=s) (tot:=T) HMN.out HU0.out
         obtain⟨cc,m,hj1,hj2,hj0,hbump,hMO2,hsum2⟩:=Q4k HMOM.out ha;(have hjk:j<k:=by have:=(List.getElem?_eq_some_iff.1 hj1).1;have:=HN.out;omega);have HFAR:=hd_ (fun W (h:Qt wr W)=>Q9U _ A k c k H (H+3) (H+5) (H+2) (H+4) N M s T W (NC.out.fresh h.fresh) NB.out hn HMN.out);rw [ha]at HFAR;simp only [Jn,JV]at HFAR;have g10:=R10.out.cell0;have g0:=R15.out.cell 0;have g1:=R15.out.cell 1;have g2:=R15.out.cell 2;simp [XU,JV]at g0 g1 g2;have gj:wr.cell? ⟨H+4,j,none⟩=some (.int .i64 m):=(BGM.out.cell j).trans (by simp [Q2,hj2]);have gz:wr.frozen? ⟨H+4,j,none⟩=false:=BGM.out.frozen j;have HBUMP:=hd_ hbump;have HMO2:=hd_ hMO2;have HSUM2:=hd_ hsum2;obtain⟨hm0,hm1,-⟩:=HMOM.out.2 j cc m hj1 hj2;(have hj00:(0:Int)<=(j:Int):=by omega);(have hjI:(j:Int)<(k:Int):=by omega);have hw6:IntKind.i64.wrap (m+1)=m+1:=IntWalk.i64_in _ (by omega);have hw7:IntKind.i64.wrap (x-1)=x-1:=IntWalk.i64_in _ (by omega);clear hbump hMO2 hsum2 ha hj1 hj2;go_wp2_with fail;refine Yn 13 (by kernel_rfl) (by kernel_rfl) ?_;simp only [List.take_succ_cons,List.take_zero,List.drop_succ_cons,List.drop_zero];(repeat(first|go_big_quiet_step ((go_at_call 206;exact Calls.quiet_of (HFAR.out _ ⟨_,rfl⟩)))|quiet_step ((go_at_call 206;exact Calls.quiet_of (HFAR.out _ ⟨_,rfl⟩)))));refine wpQuiet_nil ?_;intro w' hw';have q3:Qt wr w':=hw';have f3x:=q3.fresh;have f3y:Upd (fun b=>b=H+4) wr w':=f3x.mono (fun _ _ h=>h.elim);(have cjx:w'.cell? ⟨H+4,j,none⟩=some (.int .i64 m):=by rw [f3x.cells _ _ BGM.out.lt];exact gj);(have czx:w'.frozen? ⟨H+4,j,none⟩=false:=by rw [f3x.frozens _ _ BGM.out.lt];exact gz);clear q3 hw' gj gz g10 g0 g1 g2
         all_goals
           have uS:=f3y.setCell (p:=⟨H+4,j,none⟩) (fun _=>rfl) (.int .i64 (m+1));have bgs:=(BGM.out.fresh f3x).set_ j (.int .i64 (m+1));rw [Zv]at bgs;have g2:=(R15.out.upd uS (by omega)).cell 2;simp [XU]at g2;have US:=hd_ uS;have BGS:=hd_ bgs;clear uS bgs f3x f3y;go_wp2_with fail;go_roundg (gk-1)
           case measure=>have:=HF.out;omega
           case rel =>
             refine⟨M.set j (m+1),Bd+1,x-1,rfl,by have:=HX.out;have:=HF.out;omega,BGS.out,URM.out.trans' US.out,HMO2.out,fun h=>by have:=HB1.out h;have:=HF.out;omega,fun h=>by omega,by rw [HSUM2.out,HSUM.out];omega,?_⟩;rw [HEV2.out,HF.out,Nat.add_sub_cancel];simp only [Q0k,if_pos True.intro];rw [upN,HBUMP.out]
       obtain⟨⟨j,y⟩,ha⟩:=Q9h (N:=N) (M:=M) (s:=s) (tot:=T) HMOM.out (by rw [<-HU.out];have h1:=HSUM.out;have h2:=HX.out;have h3:=HF.out;omega);obtain⟨cc,m,hj1,hj2,hj0,hbump,hMO2,hsum2⟩:=Q4l HMOM.out ha;(have hjk:j<k:=by have:=(List.getElem?_eq_some_iff.1 hj1).1;have:=HN.out;omega);have HFAR:=hd_ (fun W (h:Qt wr W)=>Q9W _ A k c k H (H+3) (H+5) (H+2) G (H+4) N M s T W (NC.out.fresh h.fresh) NB.out hn HMN.out (R14.out.fresh h.fresh));rw [ha]at HFAR;simp only [Jn,JV]at HFAR;have g10:=R10.out.cell0;have g0:=R15.out.cell 0;have g1:=R15.out.cell 1;have g2:=R15.out.cell 2;simp [XU,JV]at g0 g1 g2;have gj:wr.cell? ⟨H+4,j,none⟩=some (.int .i64 m):=(BGM.out.cell j).trans (by simp [Q2,hj2]);have gz:wr.frozen? ⟨H+4,j,none⟩=false:=BGM.out.frozen j;have HBUMP:=hd_ hbump;have HMO2:=hd_ hMO2;have HSUM2:=hd_ hsum2;obtain⟨hm0,hm1,-⟩:=HMOM.out.2 j cc m hj1 hj2;(have hj00:(0:Int)<=(j:Int):=by omega);(have hjI:(j:Int)<(k:Int):=by omega);have hw6:IntKind.i64.wrap (m+-1)=m+-1:=IntWalk.i64_in _ (by omega);have hw7:IntKind.i64.wrap (x - -1)=x+1:=IntWalk.i64_in _ (by omega);clear hbump hMO2 hsum2 ha hj1 hj2;go_wp2_with fail;refine Yn 13 (by kernel_rfl) (by kernel_rfl) ?_;simp only [List.take_succ_cons,List.take_zero,List.drop_succ_cons,List.drop_zero];(repeat(first|go_big_quiet_step ((go_at_call 206;exact Calls.quiet_of (HFAR.out _ ⟨_,rfl⟩)))|quiet_step ((go_at_call 206;exact Calls.quiet_of (HFAR.out _ ⟨_,rfl⟩)))));refine wpQuiet_nil ?_;intro w' hw';have q3:Qt wr w':=hw';have f3x:=q3.fresh;have f3y:Upd (fun b=>b=H+4) wr w':=f3x.mono (fun _ _ h=>h.elim);(have cjx:w'.cell? ⟨H+4,j,none⟩=some (.int .i64 m):=by rw [f3x.cells _ _ BGM.out.lt];exact gj);(have czx:w'.frozen? ⟨H+4,j,none⟩=false:=by rw [f3x.frozens _ _ BGM.out.lt];exact gz);clear q3 hw' gj gz g10 g0 g1 g2
       all_goals
         have uS:=f3y.setCell (p:=⟨H+4,j,none⟩) (fun _=>rfl) (.int .i64 (m+-1));have bgs:=(BGM.out.fresh f3x).set_ j (.int .i64 (m+-1));rw [Zv]at bgs;have g2:=(R15.out.upd uS (by omega)).cell 2;simp [XU]at g2;have US:=hd_ uS;have BGS:=hd_ bgs;clear uS bgs f3x f3y;go_wp2_with fail;go_roundg (gk-1)
         case measure=>have:=HF.out;omega
         case rel =>
           refine⟨M.set j (m+-1),Bd,x+1,rfl,by have:=HX.out;have:=HF.out;omega,BGS.out,URM.out.trans' US.out,HMO2.out,fun h=>by omega,fun h=>HB2.out h,by rw [HSUM2.out,HSUM.out];omega,?_⟩;rw [HEV2.out,HF.out,Nat.add_sub_cancel];simp only [Q0k];rw [if_neg (by decide),if_neg (by decide),dnN,HBUMP.out]
theorem Q5i (F:Nat->Prop) (A:Option Addr) (n c:Nat) (N:List Int) (w:World) (lg:Int) (hr:Rd w F A n (Q2 N)) (hfit:Fit N) (hn:(n:Int)<=1099511627776) :
   Calls Tryz.prog 170 #[.slice A n c,.int .i64 lg] w fun e w'=>if Kr N lg then Q4i w w' e lg (KJ N lg.toNat) 0 else e = .returned (.tuple #[.agg #[.int .i64 0,.slice none 0 0],.int .i64 2])/\Q0 w w':=by
 by_cases h:Kr N lg
 . simp only [if_pos h]
   obtain⟨p,rfl⟩:∃p:Nat,lg=p:=⟨lg.toNat,by have:=h.2.2.1;omega⟩;exact Q6k F A n c N w p hr hfit hn h
 simp only [if_neg h];exact Q6h F A n c N w lg hr hfit hn h
theorem Q6m:(Tryz.prog.info? 226).map (fun i=>(i.zero,i.size,i.bytes))=some (some (.agg #[.int .i64 0,.int .i64 0,.slice none 0 0,.int .i64 0]),4,48):=by kernel_rfl
def YM (w:World) (v:Value) (ts:List Ch):Prop:=w.ownsRow 0 226 4 v ts.length (ts.flatMap Ch.vals)
theorem Ch.vals_one (t:Ch):∀u∈t.vals,u.oneCell'=true:=by
 intro u hu;simp only [Ch.vals,List.mem_cons,List.not_mem_nil,or_false]at hu;(rcases hu with rfl|rfl|rfl|rfl<;>rfl)
theorem Q4m:∀(ts:List Ch) (j:Nat) (h:j<ts.length) (r:Nat),r<4->(ts.flatMap Ch.vals)[j*4+r]?=ts[j].vals[r]?
 | t::ts,0,_,r,hr=>by
   rw [List.flatMap_cons,Nat.zero_mul,Nat.zero_add,List.getElem?_append_left (by simpa [Ch.vals]using hr)];rfl
 | t::ts,j+1,h,r,hr=>by
   rw [List.flatMap_cons,List.getElem?_append_right (by simp [Ch.vals];omega)]
   have h4:(Ch.vals t).length=4:=rfl
   rw [h4,show(j+1)*4+r-4=j*4+r by omega,Q4m ts j (by simpa using h) r hr]
   rfl
theorem YM.nil (w:World):YM w (.slice none 0 0) []:=World.ownsRow_nil w 0 _ 4
theorem YM.upd {S:Nat->Prop} {w w':World} {v:Value} {ts:List Ch} (h:YM w v ts) (hu:Upd S w w') (hs:∀b,v.ownBlock=some b->¬S b):YM w' v ts:=by
 refine⟨h.1,?_⟩;rcases h.2 with hn|⟨g,cap,cur,rfl,hb,hgg,rest⟩
 . exact .inl hn
 refine .inr ⟨g,cap,cur,rfl,hb,?_,rest⟩;rw [hu.block g (Array.getElem?_eq_some_iff.1 hgg).1 (hs g rfl)];exact hgg
theorem YM.fresh {w w':World} {v:Value} {ts:List Ch} (h:YM w v ts) (hu:Q0 w w'):YM w' v ts:=h.upd hu fun _ _ h=>h
theorem YM.lt {w:World} {v:Value} {ts:List Ch} (h:YM w v ts) {k:Nat} (hk:v.ownBlock=some k):k<w.heap.size:=(World.ownsRow.lt h k hk).2
theorem YM.chs {w:World} {g n cc:Nat} {ts:List Ch} (h:YM w (.slice (some ⟨g,0,none⟩) n cc) ts):n=ts.length/\Chs w g 0 ts:=by
 rcases h.2 with ⟨h1,_⟩|⟨g',cap,cur,h1,_,hg,hn,hm,hc,ht⟩
 . cases h1
 injection h1 with e1 e2 e3;injection e1 with e1;injection e1 with e1;subst e1 e2;refine⟨rfl,(Array.getElem?_eq_some_iff.1 hg).1,fun j hj=>?_⟩
 have key:∀r,r<4->w.cell? ⟨g,0+j*4+r,none⟩=ts[j].vals[r]?:=by
   intro r hr;rw [cell_of_row w g _ cur _ (0,0) hg,<-Q4m ts j hj r hr,<-ht,List.getElem?_take,if_pos (by omega)];simp
 exact⟨key 0 (by omega),key 1 (by omega),key 2 (by omega),key 3 (by omega)⟩
theorem YM.new {w:World} {k:Nat} (t:Ch) (h:k=w.heap.size):YM (w.alloc (.cells #[.int .i64 t.mo,.int .i64 t.lg,.slice t.A t.n t.c,.int .i64 t.x] 226)) (.slice (some ⟨k,0,none⟩) 1 1) [t]:=by
 have hb:=Q1 h 226 #[.int .i64 t.mo,.int .i64 t.lg,.slice t.A t.n t.c,.int .i64 t.x];exact⟨rfl,.inr ⟨k,1,_,rfl,Nat.zero_le _,hb,Nat.le_refl _,by unfold maxLen;omega,rfl,rfl⟩⟩
section
variable (w:World)
theorem XV {v:Value} {ts:List Ch} (hown:YM w v ts) {k:Nat} {t:Ch} (hb:Blk w k 226 #[.int .i64 t.mo,.int .i64 t.lg,.slice t.A t.n t.c,.int .i64 t.x]) :
   (∀(j:Nat) u,t.vals[j]?=some u->w.cell? ((⟨k,0,none⟩:Addr).add j)=some u):=by
 intro j u hu;rw [Addr.add_lit,hb.cells j u hu]
theorem KU {ops:Array Oper} {rest:List Oper} {o:Oper} {a:Act} {Q:Exit->Act->World->Prop} (hgd:o.guard=none) (s x:Operand)
   (ho:o.op = .call { callee:=.builtin .append,args:=#[s,x],argTypes:=#[223,223] })
   (v:Value) (ts:List Ch) (hs:a.eval s=v) (hown:YM w v ts) (k cap:Nat) (t:Ch) (hx:a.eval x = .slice (some ⟨k,0,none⟩) 1 cap) (hb:Blk w k 226 #[.int .i64 t.mo,.int .i64 t.lg,.slice t.A t.n t.c,.int .i64 t.x]) (hlen:ts.length<=2^30)
   (h:∀g cap w',YM w' (.slice (some ⟨g,0,none⟩) (ts.length+1) cap) (ts++[t])->w.grownBy w' v.ownBlock->(v.ownBlock=some g\/g=w.heap.size)->g<w'.heap.size->wpList Tryz.prog ops Q rest (a.put o.dst (.slice (some ⟨g,0,none⟩) (ts.length+1) cap)) w') :
   wpList Tryz.prog ops Q (o::rest) a w:=by
 obtain⟨i,hi0,hz,hsize,hby⟩:=info_parts Q6m;refine wpList_append_lies w hgd s x _ ho 0 226 i _ 4 48 Tryz.underlying223 hi0 hz hsize hby rfl (by omega) v ts.length _ hs hown ⟨k,0,none⟩ 1 cap t.vals hx rfl (XV w hown hb) t.vals_one (by omega) (by simp only [maxLen];omega) (by omega) (Nat.zero_le _) _ rfl ?_;intro g cap w' h1 h2 h3 h4;refine h g cap w' ?_ h2 h3 h4;unfold YM;rw [List.flatMap_append,List.length_append];simpa using h1
theorem Q3V {ops:Array Oper} {o:Oper} {a:Act} {K:Act->World->Prop} {Q:Exit->Act->World->Prop} {E:Prop} (hgd:o.guard=none) (s x:Operand)
   (ho:o.op = .call { callee:=.builtin .append,args:=#[s,x],argTypes:=#[223,223] })
   (v:Value) (ts:List Ch) (hs:a.eval s=v) (hown:YM w v ts) (k cap:Nat) (t:Ch) (hx:a.eval x = .slice (some ⟨k,0,none⟩) 1 cap) (hb:Blk w k 226 #[.int .i64 t.mo,.int .i64 t.lg,.slice t.A t.n t.c,.int .i64 t.x]) (hlen:ts.length<=2^30)
   (h:∀g cap w',YM w' (.slice (some ⟨g,0,none⟩) (ts.length+1) cap) (ts++[t])->w.grownBy w' v.ownBlock->(v.ownBlock=some g\/g=w.heap.size)->g<w'.heap.size->K (a.put o.dst (.slice (some ⟨g,0,none⟩) (ts.length+1) cap)) w') :
   if Region.wanted o (yielded ops a.tmps)=true then Oper.wp Tryz.prog o a w K Q else E:=by
 obtain⟨i,hi0,hz,hsize,hby⟩:=info_parts Q6m;refine step_append_lies w hgd s x _ ho 0 226 i _ 4 48 Tryz.underlying223 hi0 hz hsize hby rfl (by omega) v ts.length _ hs hown ⟨k,0,none⟩ 1 cap t.vals hx rfl (XV w hown hb) t.vals_one (by omega) (by simp only [maxLen];omega) (by omega) (Nat.zero_le _) _ rfl ?_;intro g cap w' h1 h2 h3 h4;refine h g cap w' ?_ h2 h3 h4;unfold YM;rw [List.flatMap_append,List.length_append];simpa using h1
end
theorem Q6n (p:Int):0<(Ya p).length:=by
 unfold Ya;split
 . rw [Z1];omega
 split
 . rw [Z2];omega
 rw [Z3];omega
def Q3f (w:World) (t:Ch) (c:Int × Int × List Int):Prop:=t.mo=c.1/\t.lg=c.2.1/\∃G,Rd w G t.A t.n (Q2 c.2.2)
theorem Q3f.fresh {w w':World} {t:Ch} {c:Int × Int × List Int} (h:Q3f w t c) (hu:Q0 w w'):Q3f w' t c:=by
 obtain⟨h1,h2,G,h3⟩:=h;exact⟨h1,h2,G,h3.fresh hu⟩
def J9 (p x lg:Int) (N C:List Int):List (Int × Int × List Int) :=
  (3,lg,N)::(0,Yi p,Ya p)::if Kr C (max (JD C (min x 9)) 0)then [(if JD C (min x 9)=0 then 1 else 2,max (JD C (min x 9)) 0,KJ C (max (JD C (min x 9)) 0).toNat)]else []
def Q80 (w w':World) (e:Ending) (cs:List (Int × Int × List Int)):Prop :=
  ∃ts g cc,e = .returned (.slice (some ⟨g,0,none⟩) ts.length cc)/\Chs w' g 0 ts/\ts.length=cs.length/\(∀(j:Nat) t c,ts[j]?=some t->cs[j]?=some c->Q3f w' t c)/\Q0 w w'
theorem Q81 (F G:Nat->Prop) (A B:Option Addr) (n c m d:Nat) (p s x lg:Int) (N C:List Int) (w:World) (hs:Rd w G B m (Q2 N)) (hr:Rd w F A n (Q2 C)) (hfit:Fit C) (hn:(n:Int)<=1099511627776) (hp:0<=p/\p<=2) :
   Calls Tryz.prog 120 #[.slice A n c,.agg #[.int .i64 p,.int .i64 s,.int .i64 x,.int .i64 lg,.slice B m d]] w fun e w'=>Q80 w w' e (J9 p x lg N C):=by
 obtain⟨w0,hw0⟩:=nm_ (w.alloc (.cells #[.int .i64 p,.int .i64 s,.int .i64 x,.int .i64 lg,.slice B m d] 181));obtain⟨H,hH⟩:=nm_ (w.heap.size);(have f0:Q0 w w0:=by rw [hw0];exact(Upd.refl _ _).alloc _);(have bp:Blk w0 H 181 #[.int .i64 p,.int .i64 s,.int .i64 x,.int .i64 lg,.slice B m d]:=by rw [hw0];exact Q1 hH _ _);have q0:=bp.cell 0;have q1:=bp.cell 1;have q2:=bp.cell 2;have q3:=bp.cell 3;have q4:=bp.cell 4;simp at q0 q1 q2 q3 q4;have BP:=hd_ bp;have F0:=hd_ f0;have HPT:=hd_ (fun W=>Xg p W hp);have HREC:=hd_ (fun W (h:Q0 w W)=>Q0W F A n c C W x (hr.fresh h) hfit hn);have HNRM:=hd_ (fun W (h:Q0 w W) lb=>Q5i F A n c C W lb (hr.fresh h) hfit hn);have HS:=hd_ (fun W (h:Q0 w W)=>hs.fresh h);have HW:=hd_ hw0;have HH:=hd_ hH;clear hw0 hH f0 bp hr hfit hs hp;generalize hcs:J9 p x lg N C=cs at *;unfold J9 at hcs;have HCS:=hd_ hcs;clear hcs;refine Q6 fun R hR=>?_;go_enter Tryz.func120,Tryz.ntmps120;go_upto_region 1 with fail;simp only [<-HH.out,<-HW.out];go_upto_region 2 with fail;(have hz0:w0.heap.size=H+1:=by rw [HW.out,HH.out];simp);simp only [hz0];obtain⟨w1,hw1⟩:=nm_ (w0.alloc (.cells #[.int .i64 3,.int .i64 lg,.slice B m d,.int .i64 0] 226));rw [<-hw1];(have o1:YM w1 (.slice (some ⟨H+1,0,none⟩) 1 1) [⟨3,lg,B,m,d,0⟩]:=by rw [hw1];exact YM.new ⟨3,lg,B,m,d,0⟩ hz0.symm);(have f1:Q0 w0 w1:=by rw [hw1];exact(Upd.refl _ _).alloc _);have b1:=BP.out.fresh f1;obtain⟨q0,q1,q2⟩:=(b1).cells3;have O1:=hd_ o1;have F1:=hd_ (F0.out.trans' f1);have BP1:=hd_ b1;(have hz1:w1.heap.size=H+2:=by rw [hw1];simp [hz0]);have HZ1:=hd_ hz1;clear hw1 o1 f1 b1 BP hz0 HW hz1 q3 q4;go_wp2_with fail;refine(HPT.out _).mono ?_;rintro e w2 ⟨g2,rfl,r2,hg2,f2⟩;have F2:=hd_ (F1.out.trans' f2);have O2:=hd_ (O1.out.fresh f2);have BP2:=hd_ (BP1.out.fresh f2);have R2:=hd_ r2;have HPN:=hd_ (Q6n p);generalize hk2:(Ya p).length=n2 at *;have HK2:=hd_ hk2;clear r2 f2 O1 BP1 hk2 q0 q1 q2;go_upto_region 3 with fail;obtain⟨k2,hk2⟩:=nm_ (w2.heap.size);obtain⟨w3,hw3⟩:=nm_ (w2.alloc (.cells #[.int .i64 (Yi p),.slice (some ⟨g2,0,none⟩) n2 n2] 29));rw [<-hw3,<-hk2];(have f3:Q0 w2 w3:=by rw [hw3];exact(Upd.refl _ _).alloc _);(have b3:Blk w3 k2 29 #[.int .i64 (Yi p),.slice (some ⟨g2,0,none⟩) n2 n2]:=by rw [hw3];exact Q1 hk2 _ _);(have hz3:w3.heap.size=k2+1:=by rw [hw3,hk2];simp);obtain⟨t0,t1⟩:=(b3).cells2;have F3:=hd_ (F2.out.trans' f3);have O3:=hd_ ((O2.out.fresh f3).fresh ((Upd.refl (fun _=>False) w3).alloc (.cells #[.int .i64 0,.int .i64 (Yi p),.slice (some ⟨g2,0,none⟩) n2 n2,.int .i64 0] 226)));have BP3:=hd_ (BP2.out.fresh f3);have R3:=hd_ (R2.out.fresh f3);have BC3:=hd_ (Q1 (w:=w3) hz3.symm 226 #[.int .i64 0,.int .i64 (Yi p),.slice (some ⟨g2,0,none⟩) n2 n2,.int .i64 0])
 have F3A:=hd_ ((Upd.refl (fun _=>False) w3).alloc (.cells #[.int .i64 0,.int .i64 (Yi p),.slice (some ⟨g2,0,none⟩) n2 n2,.int .i64 0] 226))
 have hg2k:g2<k2:=by
   obtain⟨b,o,e,h1,h2,_⟩:=R2.out.2 HPN.out;omega
 (have hz3a:∀o,(w3.alloc o).heap.size=k2+2:=fun o=>by simp [hz3]);have HZ3:=hd_ hz3;have HZ3A:=hd_ hz3a;clear hw3 f3 b3 hk2 O2 BP2 R2 hz3a hz3;have hz3b:=HZ3.out;go_upto_region 4 with (at_builtin;refine KU _ rfl (.tmp 22) (.tmp 25) (by rfl) (.slice (some ⟨H+1,0,none⟩) 1 1) [⟨3,lg,B,m,d,0⟩] (by rfl) O3.out (k2+1) 1 ⟨0,Yi p,some ⟨g2,0,none⟩,n2,n2,0⟩ (by rfl) BC3.out (by simp) ?_;intro g4 c4 w4 o4 u4 a4 l4)
 have hg4:g4≠H/\g4≠g2/\H+1<=g4:=by
   have e:=HZ3A.out (.cells #[.int .i64 0,.int .i64 (Yi p),.slice (some ⟨g2,0,none⟩) n2 n2,.int .i64 0] 226);have h1:=HZ1.out;rcases a4 with h|h
   . have h2:H+1=g4:=by simpa [Value.ownBlock]using h
     omega
   rw [e]at h;omega
 have ua4:Upd (fun b=>b=H+1) w3 w4:=(F3A.out.mono (fun _ _ h=>h.elim)).grown u4 (fun k hk _=>by simpa [Value.ownBlock]using hk.symm);have b4:=BP3.out.upd ua4 (by omega);have r4:=R3.out.upd ua4 (fun b _ h h'=>by have:=HZ1.out;omega);have f4:Q0 w w4:=F3.out.trans ua4 (fun b hb h=>by have:=HH.out;omega);have q2:=b4.cell 2;simp at q2;have O4:=hd_ o4;have HG4:=hd_ hg4;have HL4:=hd_ l4;have R4:=hd_ r4;have F4:=hd_ f4;clear o4 u4 a4 l4 hg4 ua4 b4 r4 f4 O3 BP3 R3 BC3 F3A HZ3 HZ3A hz3b t0 t1;generalize JD C (min x 9)=L at *;go_wp2_with fail;refine(HREC.out _ F4.out).mono ?_;rintro e w5 ⟨rfl,rfl⟩;go_wp2_with fail;refine(HNRM.out _ F4.out _).mono ?_;by_cases hok:Kr C (max L 0)
 . rw [if_pos hok]at HCS
   simp only [if_pos hok];(have hL0:0<=max L 0:=by omega);clear hok;rintro e w6 ⟨g6,c6,rfl,r6,hg6,f6⟩;generalize hM:KJ C (max L 0).toNat=M at *;generalize hL1:max L 0=L1 at *;(have hgk:g4≠g6:=by have:=HL4.out;omega);generalize hk6:M.length=n6 at *;have O6:=hd_ (O4.out.fresh f6);have R6:=hd_ (R4.out.fresh f6);have RN6:=hd_ r6;have F6:=hd_ (F4.out.trans' f6);have HK6:=hd_ hk6;have HGK:=hd_ hgk;clear f6 r6 hg6 hM hL1 O4 R4 F4 hk6 hgk q2;go_upto_region 6 with fail;obtain⟨k6,hk6⟩:=nm_ (w6.heap.size);obtain⟨w7,hw7⟩:=nm_ (w6.alloc (.cells #[.int .i64 L1,.slice (some ⟨g6,0,none⟩) n6 c6] 29));rw [<-hw7,<-hk6];(have f7:Q0 w6 w7:=by rw [hw7];exact(Upd.refl _ _).alloc _);(have b7:Blk w7 k6 29 #[.int .i64 L1,.slice (some ⟨g6,0,none⟩) n6 c6]:=by rw [hw7];exact Q1 hk6 _ _);(have hz7:w7.heap.size=k6+1:=by rw [hw7,hk6];simp);obtain⟨t0,t1⟩:=(b7).cells2;have F7:=hd_ (F6.out.trans' f7);have BC7:=hd_ (fun mo=>Q1 (w:=w7) hz7.symm 226 #[.int .i64 mo,.int .i64 L1,.slice (some ⟨g6,0,none⟩) n6 c6,.int .i64 0]);have F7A:=hd_ (fun mo=>(Upd.refl (fun _=>False) w7).alloc (.cells #[.int .i64 mo,.int .i64 L1,.slice (some ⟨g6,0,none⟩) n6 c6,.int .i64 0] 226));have O7:=hd_ (fun mo=>(O6.out.fresh f7).fresh (F7A.out mo));have R7:=hd_ (R6.out.fresh f7);have RN7:=hd_ (RN6.out.fresh f7);clear hw7 f7 b7 hk6 O6 R6 RN6;by_cases hL:L=0
   . have hLb:(L == 0)=true:=by simpa using hL
     go_wp2_with (at_builtin;refine KU _ rfl (.tmp 42) (.tmp 46) (by rfl) (.slice (some ⟨g4,0,none⟩) 2 c4) [⟨3,lg,B,m,d,0⟩,⟨0,Yi p,some ⟨g2,0,none⟩,n2,n2,0⟩] (by rfl) (O7.out 1) (k6+1) 1 ⟨1,L1,some ⟨g6,0,none⟩,n6,c6,0⟩ (by rfl) (BC7.out 1) (by simp) ?_;intro g8 c8 w8 o8 u8 a8 l8);have ua8:Upd (fun b=>b=g4) w7 w8:=((F7A.out 1).mono (fun _ _ h=>h.elim)).grown u8 (fun k hk _=>by simpa [Value.ownBlock]using hk.symm);have r8:=R7.out.upd ua8 (fun b _ h h'=>by have:=HG4.out.2.1;omega);have rn8:=RN7.out.upd ua8 (fun b _ h h'=>by have:=HGK.out;omega);have f8:Q0 w w8:=F7.out.trans ua8 (fun b hb h=>by have:=HH.out;have:=HG4.out.2.2;omega);(try go_ret);refine hR.out _ _ ⟨_,g8,c8,rfl,o8.chs.2,by rw [<-HCS.out];rfl,?_,f8⟩;intro j t c hj hc;rw [<-HCS.out]at hc
     match j,hj,hc with
     | 0,hj,hc=>simp at hj hc;subst hj hc;exact⟨rfl,rfl,_,HS.out _ f8⟩
     | 1,hj,hc=>simp at hj hc;subst hj hc;exact⟨rfl,rfl,_,r8⟩
     | 2,hj,hc=>simp at hj hc;subst hj hc;exact⟨by simp [hL],rfl,_,rn8⟩
   (have hLb:(L == 0)=false:=by simpa using hL);go_wp2_with (at_builtin;refine KU _ rfl (.tmp 42) (.tmp 46) (by rfl) (.slice (some ⟨g4,0,none⟩) 2 c4) [⟨3,lg,B,m,d,0⟩,⟨0,Yi p,some ⟨g2,0,none⟩,n2,n2,0⟩] (by rfl) (O7.out 2) (k6+1) 1 ⟨2,L1,some ⟨g6,0,none⟩,n6,c6,0⟩ (by rfl) (BC7.out 2) (by simp) ?_;intro g8 c8 w8 o8 u8 a8 l8);have ua8:Upd (fun b=>b=g4) w7 w8:=((F7A.out 2).mono (fun _ _ h=>h.elim)).grown u8 (fun k hk _=>by simpa [Value.ownBlock]using hk.symm);have r8:=R7.out.upd ua8 (fun b _ h h'=>by have:=HG4.out.2.1;omega);have rn8:=RN7.out.upd ua8 (fun b _ h h'=>by have:=HGK.out;omega);have f8:Q0 w w8:=F7.out.trans ua8 (fun b hb h=>by have:=HH.out;have:=HG4.out.2.2;omega);(try go_ret);refine hR.out _ _ ⟨_,g8,c8,rfl,o8.chs.2,by rw [<-HCS.out];rfl,?_,f8⟩;intro j t c hj hc;rw [<-HCS.out]at hc
   match j,hj,hc with
   | 0,hj,hc=>simp at hj hc;subst hj hc;exact⟨rfl,rfl,_,HS.out _ f8⟩
   | 1,hj,hc=>simp at hj hc;subst hj hc;exact⟨rfl,rfl,_,r8⟩
   | 2,hj,hc=>simp at hj hc;subst hj hc;exact⟨by simp [hL],rfl,_,rn8⟩
 rw [if_neg hok]at HCS;simp only [if_neg hok];clear hok;rintro e w6 ⟨rfl,f6⟩;have O6:=hd_ (O4.out.fresh f6);have R6:=hd_ (R4.out.fresh f6);have F6:=hd_ (F4.out.trans' f6);clear f6 O4 R4 F4 q2;go_wp2_with fail;(try go_ret);refine hR.out _ _ ⟨_,g4,c4,rfl,(O6.out.fresh ((Upd.refl _ _).alloc _)).chs.2,by rw [<-HCS.out];rfl,?_,F6.out.alloc _⟩;intro j t c hj hc;rw [<-HCS.out]at hc
 match j,hj,hc with
 | 0,hj,hc=>simp at hj hc;subst hj hc;exact⟨rfl,rfl,_,HS.out _ (F6.out.alloc _)⟩
 | 1,hj,hc=>simp at hj hc;subst hj hc;exact⟨rfl,rfl,_,R6.out.alloc _⟩
def JW (p:Int) (C:List Int) (c:Int × Int × List Int):Option Int :=
  if(Qy c.1 p c.2.1 c.2.2).1=0/\(YR c.2.1 c.2.2 C).2=0 then some ((YR c.2.1 c.2.2 C).1+8*(Qy c.1 p c.2.1 c.2.2).2.length)else none
def Z5 (p:Int) (C:List Int) (cs:List (Int × Int × List Int)):List ((Int × Int × List Int) × Int):=cs.filterMap fun c=>(JW p C c).map fun x=>(c,x)
def YA:(Int × Int × List Int) × Int->List ((Int × Int × List Int) × Int)->(Int × Int × List Int) × Int
  | t,[]=>t
  | t,s::l=>YA (if s.2<t.2 then s else t) l
def Qx (p lg:Int) (N C:List Int):Int × Int × List Int × Int :=
  if p<0\/2<p then(0,0,[],2)else
  match Z5 p C (J9 p (Ql p) lg N C)with
  | []=>(0,0,[],2)
  | c::l=>((YA c l).1.1,(YA c l).1.2.1,(YA c l).1.2.2,0)
theorem Q6o (p:Int) (C:List Int) (cs:List (Int × Int × List Int)) (c:Int × Int × List Int):Z5 p C (cs++[c])=Z5 p C cs++(match JW p C c with|none=>[]|some x=>[(c,x)]):=by
 unfold Z5;rw [List.filterMap_append]
 congr 1
 (rcases h:JW p C c with _|x<;>simp [h])
theorem Vm {lg:Int} {N:List Int} (h0:0<=lg/\lg<=9) (hN:∀v∈N,max v (-v)<2^64):∀(l:List Int) (i:Nat) (a r:Int),(∀c∈l,0<=c)->YX lg N i l a=some r->a-100*l.sum<=r/\r<=a+100*l.sum
 | [],i,a,r,_,h=>by simp [YX]at h;subst h;simp
 | c::l,i,a,r,hl,h=>by
   have hc:=hl c (by simp)
   have hl':∀c∈l,0<=c:=fun c h=>hl c (List.mem_cons_of_mem _ h)
   rw [YX]at h
   rw [List.sum_cons]
   split at h
   . have:=Vm h0 hN l (i+1) a r hl' h
     omega
   split at h
   . cases h
   rename_i v hv
   split at h
   . cases h
   have h1:=Vm h0 hN l (i+1) _ r hl' h
   have hvN:=hN v (List.mem_of_getElem? hv)
   have hb:Lib.bitLen (max v (-v)).toNat<=64:=KI _ (by omega)
   generalize Lib.bitLen (max v (-v)).toNat=b at *
   have p1:c*(lg+1-(b:Nat))<=c*100:=Int.mul_le_mul_of_nonneg_left (by omega) hc
   have p2:c*(-100)<=c*(lg+1-(b:Nat)):=Int.mul_le_mul_of_nonneg_left (by omega) hc
   generalize c*(lg+1-(b:Nat))=q at *
   omega
theorem Q3W {lg:Int} {N C:List Int} (hC:YH C) (hN:Fit N):-109951162777600<=(YR lg N C).1/\(YR lg N C).1<=109951162777600:=by
 unfold YR;split
 . rename_i h
   rcases hg:YX lg N 0 C 0 with _|a
   . simp
   have h1:=Vm (lg:=lg) (N:=N) ⟨h.1.1,by have:=h.1.2.1;have:=h.1.2.2.1;omega⟩ (fun v hv=>by have:=hN v hv;omega) C 0 0 a hC.1 hg;have h2:=hC.2;have h3:=Jt hC.1;simp only;omega
 simp
theorem Q2D {sy lb:Int} {L:List Bool} {x:Int} (h:J7 sy lb L = .error x):x≠0:=by
 unfold J7 at h;simp only at h;split at h
 . injection h with h;subst h;assumption
 split at h
 . injection h with h;omega
 cases h
theorem Q2E {N:List Int} {v:Int} (h:v∈N):QO v<=Yf N:=by
 induction N with
 | nil=>cases h
 | cons x l ih =>
   rw [Ym];have h1:=YT l;have h2:=KK x;rcases List.mem_cons.1 h with rfl|h
   . omega
   have:=ih h;omega
theorem Q6p {n:Int} (h:QO n=0):n=0:=by unfold QO at h;split at h<;>omega
theorem Q3g {N:List Int} (h:Yf N=0):N=List.replicate N.length 0:=by
 induction N with
 | nil=>rfl
 | cons x l ih =>
   rw [Ym]at h;have h1:=KK x;have h2:=YT l;have h3:=Q6p (n:=x) (by omega);rw [List.length_cons,List.replicate_succ,<-ih (by omega),h3]
theorem Q5j {N:List Int} (h0:0<N.length) (hs:Yf N=1) (hl:N[N.length-1]?=some 1):N=K7 (N.length-1):=by
 obtain⟨M,x,rfl⟩:∃M x,N=M++[x]:=by
   (have h1:N≠[]:=by intro h;rw [h]at h0;simp at h0);exact⟨N.dropLast,N.getLast h1,(List.dropLast_concat_getLast h1).symm⟩
 (have hx:x=1:=by simpa using hl);subst hx;rw [ZW]at hs;(have h1:Yf [1]=1:=by decide);have h2:=Q3g (N:=M) (by omega);unfold K7;rw [List.length_append,List.length_singleton,Nat.add_sub_cancel];rw [<-h2]
theorem Q6q (s:Nat):(K7 s)[(K7 s).length-1]?=some 1:=by unfold K7;simp
theorem Q5k {s:Nat} {sy lb:Int} (h:(s:Int)+1<=sy) (hb:0<=lb):Qc 0 (K7 s) sy lb:=by
 have hz:∀k:Nat,Yf (List.replicate k 0)=0:=by
   intro k
   induction k with
   | zero=>rfl
   | succ k ih=>rw [List.replicate_succ,Ym,ih];decide
 refine⟨by omega,hb,by omega,by simp,by simpa using h,by rw [Q6q];simp,?_,?_⟩
 . intro x hx
   unfold K7 at hx;rcases List.mem_append.1 hx with hx|hx
   . have:=List.eq_of_mem_replicate hx;omega
   simp at hx;omega
 unfold K7;rw [ZW,hz];decide
theorem Xk {p:Int} (h:0<=p/\p<=2):Qc (Yi p) (Ya p) (Qj p) (Ql p):=by
 rcases ZH h with rfl|rfl|rfl
 . decide +kernel
 . decide +kernel
 decide +kernel
theorem Q4n {m p lg:Int} {N:List Int} (h:(Qy m p lg N).1=0):0<=m/\m<=3/\0<=p/\p<=2/\Qc lg N (Qj p) (Ql p)/\Qy m p lg N=Y7 m p lg N:=by
 by_cases h1:p<0\/2<p\/m<0\/3<m
 . have:Qy m p lg N=(2,[]):=if_pos h1
   rw [this]at h;simp at h
 by_cases hv:Qc lg N (Qj p) (Ql p)
 . have:Qy m p lg N=Y7 m p lg N:=by unfold Qy;rw [if_neg h1,if_pos hv]
   exact⟨by omega,by omega,by omega,by omega,hv,this⟩
 (have:Qy m p lg N=(13,[]):=by unfold Qy;rw [if_neg h1,if_neg hv]);rw [this]at h;simp at h
theorem XW {m p lg:Int} {N:List Int}:∀b∈(Qy m p lg N).2,b<256:=by
 intro b hb;by_cases h1:p<0\/2<p\/m<0\/3<m
 . have:Qy m p lg N=(2,[]):=if_pos h1
   rw [this]at hb;simp at hb
 by_cases hv:Qc lg N (Qj p) (Ql p)
 . have e:Qy m p lg N=Y7 m p lg N:=by unfold Qy;rw [if_neg h1,if_pos hv]
   rw [e]at hb;unfold Y7 at hb;split at hb
   . split at hb<;>simp at hb
   split at hb
   . split at hb
     . have h2:=hv.2.2.2.2.1
       have h3:=(Jw p).1;simp at hb;omega
     simp at hb
   split at hb
   . split at hb
     . exact Q0T _ b hb
     simp at hb
   simp at hb
 (have:Qy m p lg N=(13,[]):=by unfold Qy;rw [if_neg h1,if_neg hv]);rw [this]at hb;simp at hb
theorem Jz {P:Program} {fn:Func} {q p u:Tmp} {ty:TypeId} (h:fn.results=#[.tmp q,.cell p ty,.tmp u]) (tmps:Array Value) (w:World) (g:Nat) (t:TypeId) (cs:Array Value) (d:TypeDesc)
   (hp:tmps.getD p undef = .pointer (some ⟨g,0,none⟩)) (hg:Blk w g t cs)
   (hu:P.underlying ty=some d) (hd:(match d with | .struct _ | .array _ _=>true|_=>false)=true) (hi:(P.info? ty).map (·.size)=some cs.size) :
   (results fn tmps).run P w = .ok (.tuple #[tmps.getD q undef,.agg cs,tmps.getD u undef]) w:=by
 (have hp':tmps[p]?.getD undef = .pointer (some ⟨g,0,none⟩):=by simpa using hp);simp only [results,h];simp [Sem.run_bind,hp',asAddr,run_loadVar_row w g t ty cs (0,0) d hg hu hd hi,Result.andThen]
theorem Q9i:∀y∈llN,-1<=y/\y<=512:=by decide
theorem Q9j:∀y∈ofN,-1<=y/\y<=512:=by decide
theorem Q9k:∀y∈mlN,-1<=y/\y<=512:=by decide
theorem Q6r (p:Int):Fit (Ya p):=by
 intro y hy;unfold Ya at hy;split at hy
 . have:=Q9i y hy;omega
 split at hy
 . have:=Q9j y hy;omega
 have:=Q9k y hy;omega
theorem YJ (mo p lg:Int) (N:List Int) (h:0<=p/\p<=2):(Qy mo p lg N).2.length<=1000:=by
 unfold Qy;split
 . simp
 split
 . rename_i hv
   have h1:=hv.2.2.2.2.1;have h2:=(Jw p).1;unfold Y7;split
   . split<;>simp
   split
   . split<;>simp
   split
   . split
     . simp only [Zm]
       have:=Zk lg.toNat N (by have:=hv.2.2.1;omega);omega
     simp
   simp
 simp
theorem Q82 {mo p lg:Int} {N:List Int} (h:(Qy mo p lg N).1=0):0<N.length:=by
 unfold Qy at h;split at h
 . simp at h
 split at h
 . rename_i hv
   exact hv.2.2.2.1
 simp at h
theorem Q83 {lg:Int} {N C:List Int} (h:(YR lg N C).2=0):YH C:=by
 unfold YR at h;split at h
 . rename_i hv
   exact Q4f hv.2
 simp at h
def KQ (w:World) (F:Nat->Prop) (t:Ch) (c:(Int × Int × List Int) × Int):Prop :=
  t.mo=c.1.1/\t.lg=c.1.2.1/\t.x=c.2/\-(2^60)<=t.x/\t.x<=2^60/\t.n=c.1.2.2.length/\RdU w F t.A t.n (Q2 c.1.2.2)
theorem KQ.upd {S:Nat->Prop} {w w':World} {F:Nat->Prop} {t:Ch} {c:(Int × Int × List Int) × Int} (h:KQ w F t c) (hu:Upd S w w') (hs:∀b,b<w.heap.size->F b->¬S b):KQ w' F t c:=by
 obtain⟨h1,h2,h3,h4,h5,h6,h7⟩:=h;exact⟨h1,h2,h3,h4,h5,h6,h7.upd hu hs⟩
def Jo (w:World) (F:Nat->Prop) (ts:List Ch) (cs:List ((Int × Int × List Int) × Int)):Prop:=ts.length=cs.length/\∀(j:Nat) t c,ts[j]?=some t->cs[j]?=some c->KQ w F t c
theorem Jo.upd {S:Nat->Prop} {w w':World} {F:Nat->Prop} {ts:List Ch} {cs:List ((Int × Int × List Int) × Int)} (h:Jo w F ts cs) (hu:Upd S w w') (hs:∀b,b<w.heap.size->F b->¬S b):Jo w' F ts cs :=
 ⟨h.1,fun j t c ht hc=>(h.2 j t c ht hc).upd hu hs⟩
theorem Jo.mono {w:World} {F F':Nat->Prop} {ts:List Ch} {cs:List ((Int × Int × List Int) × Int)} (h:Jo w F ts cs) (hf:∀b,b<w.heap.size->F b->F' b):Jo w F' ts cs:=by
 refine⟨h.1,fun j t c ht hc=>?_⟩;obtain⟨h1,h2,h3,h4,h5,h6,h7⟩:=h.2 j t c ht hc;exact⟨h1,h2,h3,h4,h5,h6,h7.both.mono (fun b hb=>hf b hb.2 hb.1)⟩
theorem Jo.snoc {w:World} {F:Nat->Prop} {ts:List Ch} {cs:List ((Int × Int × List Int) × Int)} {t:Ch} {c:(Int × Int × List Int) × Int} (h:Jo w F ts cs) (h1:KQ w F t c):Jo w F (ts++[t]) (cs++[c]):=by
 refine⟨by simp [h.1],fun j t' c' ht hc=>?_⟩;rw [List.getElem?_append]at ht hc;rw [<-h.1]at hc;by_cases hj:j<ts.length
 . rw [if_pos hj]at ht hc
   exact h.2 j t' c' ht hc
 rw [if_neg hj]at ht hc
 have h0:j-ts.length=0:=by
   have:=(List.getElem?_eq_some_iff.1 ht).1;simp at this;omega
 rw [h0]at ht hc;simp at ht hc;subst ht hc;exact h1
theorem Vn {w:World} {F:Nat->Prop}:∀(ts:List Ch) (cs:List ((Int × Int × List Int) × Int)) (t:Ch) (c:(Int × Int × List Int) × Int),Jo w F ts cs->KQ w F t c->KQ w F (Jq t ts) (YA c cs)
 | [],cs,t,c,h,h1=>by
   have:cs=[]:=List.eq_nil_of_length_eq_zero h.1.symm
   subst this
   exact h1
 | t'::ts,[],t,c,h,h1=>by have:=h.1;simp at this
 | t'::ts,c'::cs,t,c,h,h1=>by
   have h2:=h.2 0 t' c' rfl rfl
   have h3:Jo w F ts cs:=⟨by simpa using h.1,fun j a b ha hb=>h.2 (j+1) a b (by simpa using ha) (by simpa using hb)⟩
   rw [Jq,YA]
   have e1:t.x=c.2:=h1.2.2.1
   have e2:t'.x=c'.2:=h2.2.2.1
   by_cases hx:t'.x<t.x
   . rw [if_pos hx,if_pos (by rw [<-e1,<-e2];exact hx)]
     exact Vn ts cs t' c' h3 h2
   rw [if_neg hx,if_neg (by rw [<-e1,<-e2];exact hx)]
   exact Vn ts cs t c h3 h1
def Q1q (w w':World) (e:Ending) (r:Int × Int × List Int × Int):Prop :=
  ∃A n c,e = .returned (.tuple #[.int .i64 r.1,.agg #[.int .i64 r.2.1,.slice A n c],.int .i64 r.2.2.2])/\n=r.2.2.1.length/\RdU w' (fun b=>w.heap.size<=b) A n (Q2 r.2.2.1)/\Q0 w w'
theorem Q6s (A B:Option Addr) (n c m d:Nat) (p lg:Int) (w:World) (hp:p<0\/2<p) :
   Calls Tryz.prog 74 #[.slice A n c,.int .i64 p,.agg #[.int .i64 lg,.slice B m d]] w fun e w'=>e = .returned (.tuple #[.int .i64 0,.agg #[.int .i64 0,.slice none 0 0],.int .i64 2])/\Q0 w w':=by
 obtain⟨w0,hw0⟩:=nm_ ((w.alloc (.cells #[.int .i64 lg,.slice B m d] 29)).alloc (.cells #[.int .i64 0,.slice none 0 0] 29));obtain⟨H,hH⟩:=nm_ (w.heap.size);(have f0:Q0 w w0:=by rw [hw0];exact((Upd.refl _ _).alloc _).alloc _);(have bl:Blk w0 H 29 #[.int .i64 lg,.slice B m d]:=by rw [hw0];exact(Q1 hH _ _).alloc _);(have bt:Blk w0 (H+1) 29 #[.int .i64 0,.slice none 0 0]:=by rw [hw0];exact Q1 (by simp [hH]) _ _);obtain⟨q0,q1⟩:=(bl).cells2;have HOF:=hd_ (Q38 p lg B m d w0 hp);have BT:=hd_ bt;have F0:=hd_ f0;have HW:=hd_ hw0;have HH:=hd_ hH;clear hw0 hH f0 bl bt hp;refine Q6 fun R hR=>?_;go_enter Tryz.func74,Tryz.ntmps74;go_upto_region 1 with fail;simp only [<-HH.out,<-HW.out];go_wp2_with (first|go_step3);refine HOF.out.mono ?_;rintro e w1 ⟨rfl,f1⟩;have b1:=BT.out.fresh f1;(have hd0:∀o,(w1.alloc o).cell? ⟨H+1,0,none⟩=some (.int .i64 0):=fun o=>by simpa using(b1.alloc o).cell 0);(have hd1:∀o,(w1.alloc o).cell? ⟨H+1,1,none⟩=some (.slice none 0 0):=fun o=>by simpa using(b1.alloc o).cell 1);have hz0:∀o,(w1.alloc o).frozen? ⟨H+1,0,none⟩=false:=fun o=>(b1.alloc o).frozen 0;have hz1:∀o,(w1.alloc o).frozen? ⟨H+1,1,none⟩=false:=fun o=>(b1.alloc o).frozen 1;have B1:=hd_ b1;have F1:=hd_ (F0.out.trans' f1);clear b1 f1;go_wp2_with (first|go_step3);refine bodyPost_ret (Jz rfl _ _ (H+1) _ _ _ rfl (((B1.out.alloc _).set_ 0 (.int .i64 0)).set_ 1 (.slice none 0 0)) Tryz.underlying29 rfl (by kernel_rfl)) rfl ?_;exact hR.out _ _ ⟨rfl,(F1.out.alloc _).trans (Ve _ (H+1) _ _) (fun b hb h=>by have:=HH.out;omega)⟩
theorem Q6t {N:List Int} {s tot:Int}:∀(f:Nat) (M:List Int) (B:Int),MOk N M B->MOk N (upN N s tot f M) (B+f)
 | 0,M,B,h=>by simpa [upN]using h
 | f+1,M,B,h=>by
   rw [upN]
   have h2:MOk N (Q16 M 1 (QA (upV N M s tot))) (B+1):=by
     rcases ha:QA (upV N M s tot)with _|⟨j,y⟩
     . exact h.mono (by omega)
     obtain⟨c,m,_,_,_,hb,hm,_⟩:=Q4k h ha;rw [ha]at hb;rw [hb];exact hm
   have h3:=Q6t (s:=s) (tot:=tot) f _ _ h2
   rwa [show B+1+(f:Int)=B+((f+1:Nat):Int) by omega]at h3
theorem Q6u {N:List Int} {s tot:Int}:∀(f:Nat) (M:List Int) (B:Int),MOk N M B->MOk N (dnN N s tot f M) B
 | 0,M,B,h=>by simpa [dnN]using h
 | f+1,M,B,h=>by
   rw [dnN]
   refine Q6u f _ _ ?_
   rcases ha:QA (dnV N M s tot)with _|⟨j,y⟩
   . exact h
   obtain⟨c,m,_,_,_,hb,hm,_⟩:=Q4l h ha
   rw [ha]at hb
   rw [hb];exact hm
theorem Q6v {p:Nat} (h:p<=9):(1:Int)<=2^p/\(2:Int)^p<=512:=by
 have h1:2^p<=2^9:=Nat.pow_le_pow_right (by omega) h;(have h2:((2:Int)^p)=((2^p:Nat):Int):=by simp);have h3:=Nat.two_pow_pos p;omega
theorem Q84 {N:List Int} {p:Nat} (h:YH N) (hp:p<=9):MOk N (Vw N (2^p)) 1024:=by
 obtain⟨h1,h2⟩:=Q6v hp;have hb:=Q4j h h1 h2;have hs:=Jt (N:=JP N (2^p) N.sum) (fun y hy=>(hb.mem hy).1);unfold Vw;split
 . exact(Q6t _ _ _ hb).mono (by omega)
 exact(Q6u _ _ _ hb).mono (by omega)
theorem Q6w {N:List Int} {p:Nat} (h:YH N) (hp:p<=9):∀y∈KJ N p,-1<=y/\y<=1024:=by
 intro y hy;have h1:=List.mem_of_mem_take hy;unfold Xj at h1;obtain⟨i,hi,rfl⟩:=List.getElem_of_mem h1;rw [List.getElem_zipWith];have h2:=(Q84 h hp).mem (y:=(Vw N (2^p))[i]'(by simp at hi;omega)) (List.getElem_mem _);(split<;>omega)
theorem Q1r (N:List Int) (p:Nat):(KJ N p).length<=N.length:=by
 unfold KJ;rw [List.length_take];have:=Q39 N;omega
theorem Q6x {p x lg:Int} {N C:List Int} (hN:Fit N) (hl:N.length<=2^40) (hC:C.length<=2^40):∀c∈J9 p x lg N C,Fit c.2.2/\c.2.2.length<=2^40:=by
 intro c hc;unfold J9 at hc;rcases List.mem_cons.1 hc with rfl|hc
 . exact⟨hN,hl⟩
 rcases List.mem_cons.1 hc with rfl|hc
 . exact⟨Q6r p,by have:=Q7v p;simp only;omega⟩
 split at hc
 . rename_i hok
   rw [List.mem_singleton]at hc;subst hc;obtain⟨h1,_,h3,h4,_⟩:=hok;refine⟨fun y hy=>?_,by have:=Q1r C (max (JD C (min x 9)) 0).toNat;simp only;omega⟩;have:=Q6w h1 (by omega) y hy;omega
 cases hc
theorem Q6y (F G:Nat->Prop) (A B:Option Addr) (n c m d:Nat) (p lg:Int) (N C:List Int) (w:World) (hs:Rd w G B m (Q2 N)) (hfN:Fit N) (hm:(m:Int)<=1099511627776) (hr:Rd w F A n (Q2 C)) (hfC:Fit C) (hn:(n:Int)<=1099511627776) (hp:0<=p/\p<=2) :
   Calls Tryz.prog 74 #[.slice A n c,.int .i64 p,.agg #[.int .i64 lg,.slice B m d]] w fun e w'=>Q1q w w' e (Qx p lg N C):=by
 obtain⟨w0,hw0⟩:=nm_ ((w.alloc (.cells #[.int .i64 lg,.slice B m d] 29)).alloc (.cells #[.int .i64 0,.slice none 0 0] 29));obtain⟨H,hH⟩:=nm_ (w.heap.size);(have f0:Q0 w w0:=by rw [hw0];exact((Upd.refl _ _).alloc _).alloc _);(have bl:Blk w0 H 29 #[.int .i64 lg,.slice B m d]:=by rw [hw0];exact(Q1 hH _ _).alloc _);(have bt:Blk w0 (H+1) 29 #[.int .i64 0,.slice none 0 0]:=by rw [hw0];exact Q1 (by simp [hH]) _ _);obtain⟨q0,q1⟩:=(bl).cells2;(have hNl:N.length=m:=by have:=hs.1;simpa using this);(have hCl:C.length=n:=by have:=hr.1;simpa using this);obtain⟨cs,hcs⟩:=nm_ (J9 p (Ql p) lg N C);(have hfit:∀c∈cs,Fit c.2.2/\c.2.2.length<=2^40:=by rw [hcs];exact Q6x hfN (by omega) (by omega))
 have hch:Qx p lg N C=match Z5 p C cs with | []=>(0,0,[],2)|c::l=>((YA c l).1.1,(YA c l).1.2.1,(YA c l).1.2.2,0):=by
   unfold Qx;rw [if_neg (by omega),hcs];(try rfl)
 have HCL:=hd_ (show cs.length<=3 by rw [hcs];unfold J9;split<;>simp);have HOF:=hd_ (Jm p lg B m d w0 hp);have HTB:=hd_ (fun W (h:Q0 w W)=>Q81 F G A B n c m d p (Qj p) (Ql p) lg N C W (hs.fresh h) (hr.fresh h) hfC hn hp);rw [<-hcs]at HTB
 have HCO:=hd_ (fun W (h:Q0 w W) (t:Ch) (cn:Int × Int × List Int) (hc:Q3f W t cn) (hf:Fit cn.2.2) (hl:(t.n:Int)<=1099511627776)=>by
   obtain⟨h1,h2,G',h3⟩:=hc
   exact Q7O F G' A t.A n c t.n t.c t.lg cn.2.2 C W h3 hf hl (hr.fresh h) hfC hn)
 have HLEN:=hd_ (fun mo lg N=>YJ mo p lg N hp);have HFIT:=hd_ hfit;have HCH:=hd_ hch;have BT:=hd_ bt;have F0:=hd_ f0;have HW:=hd_ hw0;have HH:=hd_ hH;have HFC:=hd_ hfC;clear hw0 hH f0 bl bt hp hcs hfit hch hs hr hfN hfC hNl hCl;refine Q6 fun R hR=>?_;go_enter Tryz.func74,Tryz.ntmps74;go_upto_region 1 with fail;simp only [<-HH.out,<-HW.out];go_wp2_with (first|go_step3);refine HOF.out.mono ?_;rintro e w1 ⟨rfl,f1⟩;have BT1:=hd_ (BT.out.fresh f1);have F1:=hd_ (F0.out.trans' f1);clear f1 q0 q1 HOF;go_upto_region 2 with (first|go_step3);obtain⟨K1,hK1⟩:=nm_ (w1.heap.size);obtain⟨w2,hw2⟩:=nm_ (w1.alloc (.cells #[.int .i64 p,.int .i64 (Qj p),.int .i64 (Ql p),.int .i64 lg,.slice B m d] 181));rw [<-hw2,<-hK1];(have f2:Q0 w1 w2:=by rw [hw2];exact(Upd.refl _ _).alloc _);(have b2:Blk w2 K1 181 #[.int .i64 p,.int .i64 (Qj p),.int .i64 (Ql p),.int .i64 lg,.slice B m d]:=by rw [hw2];exact Q1 hK1 _ _);have q0:=b2.cell 0;have q1:=b2.cell 1;have q2:=b2.cell 2;have q3:=b2.cell 3;have q4:=b2.cell 4;simp at q0 q1 q2 q3 q4;have BT2:=hd_ (BT1.out.fresh f2);have F2:=hd_ (F1.out.trans' f2);clear hw2 hK1 f2 b2 BT1;go_wp2_with (first|go_step3);refine(HTB.out _ F2.out).mono ?_;rintro e w3 ⟨ts,g,cc,rfl,hts,htl,htc,f3⟩;obtain⟨n3,hn3⟩:=nm_ (ts.length)
 have hn3b:(n3:Int)<=10:=by
   rw [hn3,htl];have:=HCL.out;omega
 rw [<-hn3];have F3:=hd_ (F2.out.trans' f3);have BT3:=hd_ (BT2.out.fresh f3);have HTS:=hd_ hts;have HTC:=hd_ htc;have HN3:=hd_ hn3;have HN3C:=hd_ (hn3.trans htl);clear hts htl htc f3 hn3 BT2 q0 q1 q2 q3 q4 HTB;go_wp2_with (first|go_step3)
 go_loopg [11,32] n3 (fun f q i wr=>∃(k:Nat) (A1:Option Addr) (c1:Nat) (vs:List Ch),k+f=n3/\i = .int .i64 k/\q = .slice A1 vs.length c1/\YM wr (.slice A1 vs.length c1) vs/\(∀b,(Value.slice A1 vs.length c1).ownBlock=some b->w3.heap.size<=b) /\
   Jo wr (fun b=>w3.heap.size<=b/\(Value.slice A1 vs.length c1).ownBlock≠some b) vs (Z5 p C (cs.take k))/\Q0 w3 wr/\vs.length<=k)
 case atStart=>exact⟨0,none,0,[],by omega,rfl,rfl,YM.nil _,by simp [Value.ownBlock],⟨rfl,fun j t c ht=>by simp at ht⟩,Upd.refl _ _,by simp⟩
 case round =>
   obtain⟨k,A1,c1,vs,hk,rfl,rfl,ho,hob,hpr,fr,hvl⟩:=hrel;have HK:=hd_ hk;have HO:=hd_ ho;have HOB:=hd_ hob;have HPR:=hd_ hpr;have FR:=hd_ fr;have HVL:=hd_ hvl;(have hvs:(vs.length:Int)<=10:=by omega);clear hk ho hob hpr fr hvl;generalize hv1:vs.length=n1 at *;have HV1:=hd_ hv1;clear hv1;by_cases hlt:k<n3
   . have hkt:k<ts.length:=by rw [<-HN3.out];exact hlt
     (have hkc:k<cs.length:=by rw [<-HN3C.out];exact hlt);obtain⟨q0,q1,q2,q3⟩:=(HTS.out.fresh FR.out).2 k hkt;have HCA:=hd_ ((HTC.out k ts[k] cs[k] (List.getElem?_eq_getElem hkt) (List.getElem?_eq_getElem hkc)).fresh FR.out);have HFK:=hd_ (HFIT.out cs[k] (List.getElem_mem hkc));have HMY:=hd_ (show Z5 p C (cs.take (k+1))=_ by rw [List.take_succ_eq_append_getElem hkc,Q6o]);generalize cs[k]=cn at *;generalize ts[k]=t at *;(have hlI:(k:Int)<n3:=by omega);have hw4:IntKind.i64.wrap ((k:Int)+1)=k+1:=IntWalk.i64_in _ (by omega);simp only [Nat.zero_add]at q0 q1 q2 q3;go_upto_region 8 with (first|go_step3);obtain⟨K3,hK3⟩:=nm_ (wr.heap.size);obtain⟨w4,hw4'⟩:∃w4,w4=wr.alloc (.cells #[.int .i64 t.mo,.int .i64 t.lg,.slice t.A t.n t.c,.int .i64 t.x] 226):=⟨_,rfl⟩;rw [<-hw4',<-hK3];(have f4:Q0 wr w4:=by rw [hw4'];exact(Upd.refl _ _).alloc _);(have b4:Blk w4 K3 226 #[.int .i64 t.mo,.int .i64 t.lg,.slice t.A t.n t.c,.int .i64 t.x]:=by rw [hw4'];exact Q1 hK3 _ _);have B4:=hd_ b4;have F4:=hd_ f4;have HK3:=hd_ hK3;have q0:=b4.cell 0;have q1:=b4.cell 1;have q2:=b4.cell 2;have q3:=b4.cell 3;simp at q0 q1 q2 q3;obtain⟨hmo,hlg,G',hrd⟩:=HCA.out;(have htn:t.n=cn.2.2.length:=by have:=hrd.1;simpa using this.symm);(have htn2:(t.n:Int)<=1099511627776:=by have:=HFK.out.2;omega);have FW4:=hd_ (F3.out.trans' (FR.out.trans' f4));have HME:=hd_ (fun W (h:Q0 wr W)=>Xh G' t.A t.n t.c t.mo p t.lg cn.2.2 W (hrd.fresh h) HFK.out.1 htn2);have HCC:=hd_ (fun W (h:Q0 w W) (h':Q0 wr W)=>HCO.out W h t cn (HCA.out.fresh h') HFK.out.1 htn2);have HLE:=HLEN.out t.mo t.lg cn.2.2;have HRD:=hd_ hrd;have HPN:=hd_ (show JW p C cn=if(Qy t.mo p t.lg cn.2.2).1=0/\(YR t.lg cn.2.2 C).2=0 then some ((YR t.lg cn.2.2 C).1+8*(Qy t.mo p t.lg cn.2.2).2.length)else none by unfold JW;rw [hmo,hlg]);have HVD:=hd_ (show(Qy t.mo p t.lg cn.2.2).1=0->0<t.n from fun h=>by rw [htn];exact Q82 h);have HCR:=hd_ (show(YR t.lg cn.2.2 C).2=0->-109951162777600<=(YR t.lg cn.2.2 C).1/\(YR t.lg cn.2.2 C).1<=109951162777600 from fun h=>Q3W (Q83 h) HFK.out.1);have HMO:=hd_ hmo;have HLG:=hd_ hlg;have HTN:=hd_ htn;generalize (Qy t.mo p t.lg cn.2.2).1=E1 at *;generalize (Qy t.mo p t.lg cn.2.2).2=EB at *;generalize (YR t.lg cn.2.2 C).1=C1 at *;generalize (YR t.lg cn.2.2 C).2=C2 at *;clear hw4' hK3 f4 b4 hmo hlg hrd htn htn2;go_wp2_with (first|go_step3);refine(HME.out _ F4.out).mono ?_;rintro e w5 ⟨v,rfl,hnb⟩;obtain⟨Av,nv,cv,rfl,hnv⟩:=hnb.1.form';(have hnv2:nv=EB.length:=by rw [hnv.out];simp [Q9]);have HNV:=hd_ hnv2;have f5:=hnb.2.1;have F5:=hd_ (F4.out.trans' f5);have b5:=B4.out.fresh f5;have q0:=b5.cell 0;have q1:=b5.cell 1;have q2:=b5.cell 2;have q3:=b5.cell 3;simp at q0 q1 q2 q3
     have B5:=hd_ b5;(have hnvI:(nv:Int)<=1000:=by rw [hnv2];omega);clear hnb hnv hnv2 f5 b5 HLE;by_cases hE:E1=0
     . subst hE
       have hvd:=HVD.out rfl;(have hvdI:0<(t.n:Int):=by omega);clear HVD HME;go_wp2_with (first|go_step3);refine(HCC.out _ (F3.out.trans' (FR.out.trans' F5.out)) F5.out).mono ?_;rintro e w6 ⟨rfl,f6⟩;have F6:=hd_ (F5.out.trans' f6);have b6:=B5.out.fresh f6;have q0:=b6.cell 0;have q1:=b6.cell 1;have q2:=b6.cell 2;have q3:=b6.cell 3;simp at q0 q1 q2 q3;have B6:=hd_ b6;clear f6 b6;by_cases hC:C2=0
       . subst hC
         have HPN2:=hd_ (show JW p C cn=some (C1+8*(EB.length:Nat)) by rw [HPN.out];simp);rw [<-HNV.out]at HPN2;obtain⟨hcr0,hcr1⟩:=HCR.out rfl;obtain⟨O,hO⟩:∃O:Nat->Prop,O=fun b=>(Value.slice A1 n1 c1).ownBlock=some b:=⟨_,rfl⟩;(have hOi:∀b,O b ↔ (Value.slice A1 n1 c1).ownBlock=some b:=fun b=>by rw [hO]);(have hOK:¬O K3:=fun h=>by have:=HO.out.lt ((hOi K3).1 h);have:=HK3.out;omega);have HOI:=hd_ hOi
         have HSS:=hd_ (show ∀W,Upd O w6 W->(Upd O w6 W/\W.cell? ⟨K3,0,none⟩=some (.int .i64 t.mo)/\W.cell? ⟨K3,1,none⟩=some (.int .i64 t.lg)/\W.cell? ⟨K3,2,none⟩=some (.slice t.A t.n t.c))from fun W hW=>by
           have b:=B6.out.upd hW hOK
           exact⟨hW,by simpa using b.cell 0,by simpa using b.cell 1,by simpa using b.cell 2⟩)
         have HSA:=hd_ (fun W o (h:Upd O w6 W)=>HSS.out _ (h.alloc o));have HCL7:=hd_ (fun W (h:Q0 w6 W)=>Q0B G' t.A t.n t.c cn.2.2 W (HRD.out.fresh (F6.out.trans' h)) (by have:=HFK.out.2;have:=HTN.out;omega) hvd);have HOW:=hd_ (fun W o (h:Q0 w6 W)=>HO.out.fresh ((F6.out.trans' h).alloc o));have sw1:IntKind.i64.wrap (8*(nv:Int))=8*nv:=IntWalk.i64_in _ (by omega);have sw2:IntKind.i64.wrap (C1+8*(nv:Int))=C1+8*nv:=IntWalk.i64_in _ (by omega);(have hvlen:vs.length<=2^30:=by rw [HV1.out];omega);have HVLEN:=hd_ hvlen;clear hO hOi hOK hvlen q3;go_upto_region 12 with (first|go_step3)
         go_region_held3 (fun W=>Upd O w6 W/\W.cell? ⟨K3,0,none⟩=some (.int .i64 t.mo)/\W.cell? ⟨K3,1,none⟩=some (.int .i64 t.lg)/\W.cell? ⟨K3,2,none⟩=some (.slice t.A t.n t.c))
           (first|exact HSS.out _ (by assumption)|exact HSS.out _ (And.left (by assumption))|exact HSS.out _ (Upd.refl _ _)|exact HSS.out _ (Upd.refl _ _).drew|exact HSA.out _ _ (by assumption)|exact HSA.out _ _ (And.left (by assumption)))
           (first
             | (go_at_call 55;refine(HCL7.out _ (by first|exact Upd.refl _ _|exact(Upd.refl _ _).drew|exact(Upd.refl _ _).drewN _)).mono ?_;rintro e w7 ⟨g7,c7,rfl,r7,f7⟩;have f7x:Q0 w6 w7:=(by first|exact f7|exact Upd.trans' ((Upd.refl _ _).drew) f7);have f7y:Upd O w6 w7:=f7x.mono (fun _ _ h=>h.elim))
             | (refine Q3V _ (by rfl) (.tmp 56) (.tmp 73) (by rfl) (.slice A1 n1 c1) vs (by rfl) (HOW.out _ _ f7x) _ 1 ⟨t.mo,t.lg,some ⟨g7,0,none⟩,t.n,c7,C1+8*nv⟩ (by rfl) (Blk.new _ _ _) HVLEN.out ?_;intro g8 c8 w8 o8 u8 a8 l8;have f8:Upd O w6 w8:=(f7y.alloc _).grown u8 (fun k hk _=>(HOI.out k).2 hk)))
         all_goals
           have hsz6:wr.heap.size<=w6.heap.size:=F6.out.size;have hsz7:w6.heap.size<=w7.heap.size:=f7x.size;have hownlt:∀b,(Value.slice A1 n1 c1).ownBlock=some b->b<wr.heap.size:=fun b h=>HO.out.lt h
           have hg8:(Value.slice A1 n1 c1).ownBlock=some g8\/w7.heap.size<g8:=by
             rcases a8 with h|h
             . exact .inl h
             refine .inr ?_;rw [h];simp
           have hw3r:w3.heap.size<=wr.heap.size:=FR.out.size;(have hO8:∀b,(Value.slice (some ⟨g8,0,none⟩) (vs.length+1) c8).ownBlock=some b->b=g8:=fun b h=>by simpa [Value.ownBlock]using h.symm)
           have hob8:w3.heap.size<=g8:=by
             rcases hg8 with h|h
             . exact HOB.out _ h
             omega
           have u68:Upd O w6 w8:=f8
           have pr8:Jo w8 (fun b=>w3.heap.size<=b/\(Value.slice (some ⟨g8,0,none⟩) (vs.length+1) c8).ownBlock≠some b) vs (Z5 p C (cs.take k)):=by
             refine((HPR.out.mono (F':=fun b=>(w3.heap.size<=b/\(Value.slice (some ⟨g8,0,none⟩) (vs.length+1) c8).ownBlock≠some b)/\¬O b) ?_).upd F6.out (fun _ _ _ h=>h)).upd u68 (fun b _ h=>h.2) |>.mono (fun b _ h=>h.1);intro b hb h;refine⟨⟨h.1,fun h'=>?_⟩,fun h'=>h.2 ((HOI.out b).1 h')⟩;have e:=hO8 b h';subst e;rcases hg8 with h3|h3
             . exact h.2 h3
             omega
           have rn8:RdU w8 (fun b=>w3.heap.size<=b/\(Value.slice (some ⟨g8,0,none⟩) (vs.length+1) c8).ownBlock≠some b) (some ⟨g7,0,none⟩) t.n (Q2 cn.2.2):=by
             have r7b:RdU w7 (fun b=>w6.heap.size<=b/\b<w7.heap.size) (some ⟨g7,0,none⟩) t.n (Q2 cn.2.2):=r7.both.mono (fun b h=>⟨h.1,h.2⟩);have r8b:=(r7b.alloc (.cells #[.int .i64 t.mo,.int .i64 t.lg,.slice (some ⟨g7,0,none⟩) t.n c7,.int .i64 (C1+8*nv)] 226)).upd (Upd.grown (S:=O) (Upd.refl _ _) u8 (fun k hk _=>(HOI.out k).2 hk)) (fun b _ h h'=>by have:=hownlt b ((HOI.out b).1 h');omega);refine r8b.mono (fun b h=>⟨by omega,fun h'=>?_⟩);have e:=hO8 b h';subst e;rcases hg8 with h3|h3
             . have:=hownlt _ h3;omega
             omega
           have px8:KQ w8 (fun b=>w3.heap.size<=b/\(Value.slice (some ⟨g8,0,none⟩) (vs.length+1) c8).ownBlock≠some b) ⟨t.mo,t.lg,some ⟨g7,0,none⟩,t.n,c7,C1+8*nv⟩ (cn,C1+8*nv) :=
             ⟨HMO.out,HLG.out,rfl,by simp only;omega,by simp only;omega,HTN.out,rn8⟩
           have f38:Q0 w3 w8:=(FR.out.trans' F6.out).trans u68 (fun b hb h=>by have:=HOB.out b ((HOI.out b).1 h);omega);have PS8:=hd_ (pr8.snoc px8);have F38:=hd_ f38;have O8:=hd_ o8;have HOB8:=hd_ (fun b h=>hO8 b h ▸ hob8);clear pr8 px8 rn8 f38 o8 u8 a8 u68 hg8 hO8 hob8 hownlt f7x f7y f8 r7 f7 hsz6 hsz7 hw3r sw1 sw2;go_wp2_with (first|go_step3);go_roundg (gk-1)
           case measure=>have:=HK.out;omega
           case rel =>
             refine⟨k+1,some ⟨g8,0,none⟩,c8,vs++[⟨t.mo,t.lg,some ⟨g7,0,none⟩,t.n,c7,C1+8*nv⟩],by have:=HK.out;omega,by go_num,by simp,?_,?_,?_,F38.out,by have:=HVL.out;have:=HV1.out;simp;omega⟩
             . rw [List.length_append];exact O8.out
             . rw [List.length_append];exact HOB8.out
             rw [HMY.out,HPN2.out,List.length_append];exact PS8.out
       (have hCb:(C2 != 0)=true:=by simpa using hC);have HPN2:=hd_ (show JW p C cn=none by rw [HPN.out,if_neg (fun h=>hC h.2)]);go_wp2_with (first|go_step3);go_roundg (gk-1)
       case measure=>have:=HK.out;omega
       case rel =>
         have e:=HV1.out;refine⟨k+1,A1,c1,vs,by have:=HK.out;omega,by go_num,by rw [e],by rw [e];exact HO.out.fresh F6.out,by rw [e];exact HOB.out,?_,FR.out.trans' F6.out,by rw [e];have:=HVL.out;omega⟩;rw [HMY.out,HPN2.out,e,List.append_nil];exact HPR.out.upd F6.out (fun _ _ _ h=>h)
     (have hEb:(E1 != 0)=true:=by simpa using hE);have HPN2:=hd_ (show JW p C cn=none by rw [HPN.out,if_neg (fun h=>hE h.1)]);go_wp2_with (first|go_step3);go_roundg (gk-1)
     case measure=>have:=HK.out;omega
     case rel =>
       have e:=HV1.out;refine⟨k+1,A1,c1,vs,by have:=HK.out;omega,by go_num,by rw [e],by rw [e];exact HO.out.fresh F5.out,by rw [e];exact HOB.out,?_,FR.out.trans' F5.out,by rw [e];have:=HVL.out;omega⟩;rw [HMY.out,HPN2.out,e,List.append_nil];exact HPR.out.upd F5.out (fun _ _ _ h=>h)
   (obtain rfl:k=n3:=by have:=HK.out;omega);have htk:cs.take k=cs:=List.take_of_length_le (by rw [<-HN3C.out];omega);have hpr:=HPR.out;rw [htk]at hpr;have HPS:=hd_ hpr;have BT4:=hd_ (BT3.out.fresh FR.out);have F4:=hd_ (F3.out.trans' FR.out);clear htk hpr HPR;by_cases h0:n1=0
   . have hnb:((n1:Int) == 0)=true:=by simpa using h0
     have hmy:Z5 p C cs=[]:=List.eq_nil_of_length_eq_zero (by rw [<-HPS.out.1,HV1.out,h0]);have HRES:=hd_ (show Qx p lg N C=(0,0,[],2) by rw [HCH.out,hmy]);have d0:=BT4.out.cell 0;have d1:=BT4.out.cell 1;have z0:=BT4.out.frozen 0;have z1:=BT4.out.frozen 1;simp at d0 d1;clear hmy h0 HCO HLEN HFIT HCH;go_wp2_with (first|go_step3);refine bodyPost_ret (Jz rfl _ _ (H+1) _ _ _ rfl ((BT4.out.set_ 0 (.int .i64 0)).set_ 1 (.slice none 0 0)) Tryz.underlying29 rfl (by kernel_rfl)) rfl ?_;refine hR.out _ _ ?_;rw [HRES.out];exact⟨none,0,0,rfl,rfl,RdU.nil _ _ _,F4.out.trans (Ve _ (H+1) _ _) (fun b hb h=>by have:=HH.out;omega)⟩
   (have hnb:((n1:Int) == 0)=false:=by simpa using h0);(have hvl:0<vs.length:=by rw [HV1.out];omega)
   obtain⟨b1,rfl⟩:∃b1,A1=some ⟨b1,0,none⟩:=by
     rcases HO.out.2 with h|⟨g',cap,cur,h1,_⟩
     . exact absurd h.2 (by rw [HV1.out];exact h0)
     injection h1 with e1 e2 e3;exact⟨g',e1⟩
   obtain⟨t0,vs',rfl⟩:∃t0 vs',vs=t0::vs':=by
     cases vs with
     | nil=>simp at hvl
     | cons a b=>exact⟨a,b,rfl⟩
   obtain⟨c0,cl,hcl⟩:∃c0 cl,Z5 p C cs=c0::cl:=by
     have:=HPS.out.1
     cases hm:Z5 p C cs with
     | nil=>rw [hm]at this;simp at this
     | cons a b=>exact⟨a,b,rfl⟩
   have hps:=HPS.out;rw [hcl]at hps;have hp0:=hps.2 0 t0 c0 rfl rfl;have hpl:Jo wr _ vs' cl:=⟨by simpa using hps.1,fun j a b ha hb=>hps.2 (j+1) a b (by simpa using ha) (by simpa using hb)⟩;have HBEST:=hd_ (Vn vs' cl t0 c0 hpl hp0);have HRES:=hd_ (show Qx p lg N C=((YA c0 cl).1.1,(YA c0 cl).1.2.1,(YA c0 cl).1.2.2,0) by rw [HCH.out,hcl]);have hchs:=HO.out.chs.2
   have hxs:∀t∈t0::vs',-(2^60)<=t.x/\t.x<=2^60:=by
     intro t ht;obtain⟨j,hj,rfl⟩:=List.getElem_of_mem ht;(have hj2:j<(c0::cl).length:=by rw [<-hps.1];exact hj);have:=hps.2 j _ _ (List.getElem?_eq_getElem hj) (List.getElem?_eq_getElem hj2);exact⟨this.2.2.2.1,this.2.2.2.2.1⟩
   have HLS:=hd_ (fun W (h:Q0 wr W)=>Q58 b1 0 c1 n1 (t0::vs') t0 W (hchs.fresh h) HV1.out rfl hxs (by omega));simp only [List.drop_succ_cons,List.drop_zero]at HLS;generalize Jq t0 vs'=tb at *;generalize YA c0 cl=cb at *;unfold Ch.val at HLS;clear hchs hxs hps hp0 hpl hcl HO HOB HPS HCO HLEN HFIT HCH hvl h0 HV1 hvs;go_wp2_with (first|go_step3);refine(HLS.out _ (by first|exact Upd.refl _ _|exact(Upd.refl _ _).alloc _)).mono ?_;rintro e w5 ⟨rfl,f5⟩;go_upto_region 17 with (first|go_step3);obtain⟨K5,hK5⟩:=nm_ (w5.heap.size);obtain⟨w6,hw6⟩:=nm_ (w5.alloc (.cells #[.int .i64 tb.mo,.int .i64 tb.lg,.slice tb.A tb.n tb.c,.int .i64 tb.x] 226));rw [<-hw6,<-hK5];(have f6:Q0 w5 w6:=by rw [hw6];exact(Upd.refl _ _).alloc _);(have b6:Blk w6 K5 226 #[.int .i64 tb.mo,.int .i64 tb.lg,.slice tb.A tb.n tb.c,.int .i64 tb.x]:=by rw [hw6];exact Q1 hK5 _ _);obtain⟨q0,q1,q2⟩:=(b6).cells3;have f56:Q0 wr w6:=Upd.trans' (by first|exact f5|exact((Upd.refl _ _).alloc _).trans' f5) f6;have bt6:=BT4.out.fresh f56;have d0:=bt6.cell 0;have d1:=bt6.cell 1;have z0:=bt6.frozen 0;have z1:=bt6.frozen 1;simp at d0 d1;have BT6:=hd_ bt6;have F56:=hd_ f56;clear hw6 hK5 f6 b6 f5 bt6 f56;go_still_tail 5,(by kernel_rfl);change wpList _ _ _ _ _ w6.drew;go_wp2_with (first|go_step3);refine bodyPost_ret (Jz rfl _ _ (H+1) _ _ _ rfl ((BT6.out.drew.set_ 0 (.int .i64 tb.lg)).set_ 1 (.slice tb.A tb.n tb.c)) Tryz.underlying29 rfl (by kernel_rfl)) rfl ?_;have u6:=Ve w6.drew (H+1) (.int .i64 tb.lg) (.slice tb.A tb.n tb.c);have hb6:=(HBEST.out.upd F56.out (fun _ _ _ h=>h)).upd (Upd.trans (S:=fun b=>b=H+1) ((Upd.refl _ _).drew) u6 (fun _ _ h=>h)) (fun b _ h h'=>by have:=BT3.out.lt;have:=h.1;omega);obtain⟨e1,e2,e3,_,_,e4,e5⟩:=hb6;refine hR.out _ _ ?_;rw [HRES.out];refine⟨tb.A,tb.n,tb.c,by rw [<-e1,<-e2];rfl,e4,e5.mono (fun b h=>?_),?_⟩
   . have:=F3.out.size;have:=h.1;omega
   exact(F4.out.trans' F56.out).drew.trans u6 (fun b hb h=>by have:=HH.out;omega)
theorem Xl (F G:Nat->Prop) (A B:Option Addr) (n c m d:Nat) (p lg:Int) (N C:List Int) (w:World) (hs:Rd w G B m (Q2 N)) (hfN:Fit N) (hm:(m:Int)<=1099511627776) (hr:Rd w F A n (Q2 C)) (hfC:Fit C) (hn:(n:Int)<=1099511627776) :
   Calls Tryz.prog 74 #[.slice A n c,.int .i64 p,.agg #[.int .i64 lg,.slice B m d]] w fun e w'=>Q1q w w' e (Qx p lg N C):=by
 by_cases hp:p<0\/2<p
 . have h:Qx p lg N C=(0,0,[],2):=if_pos hp
   rw [h];exact(Q6s A B n c m d p lg w hp).mono fun e w' h=>⟨none,0,0,h.1,rfl,RdU.nil _ _ _,h.2⟩
 exact Q6y F G A B n c m d p lg N C w hs hfN hm hr hfC hn (by omega)
end Go.Proofs.YtjfdaphjijfieaaGreat
