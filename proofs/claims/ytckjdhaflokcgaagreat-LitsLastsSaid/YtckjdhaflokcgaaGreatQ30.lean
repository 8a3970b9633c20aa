/-
  Joined texts, part 30: contracts and plain lemmas.
  Conditions: none beyond those of each theorem.
-/
import Derived.Test.YtckjdhaflokcgaaGreatQ2
import Derived.Test.YtckjdhaflokcgaaGreatQ6
import Derived.Test.YtckjdhaflokcgaaGreatQ22
import Derived.Lib.MakeNoZero
set_option maxHeartbeats 4000000
set_option linter.unusedVariables false
set_option linter.unusedSimpArgs false
set_option linter.unnecessarySimpa false
set_option maxRecDepth 100000
universe u
namespace Go.Proofs.YtckjdhaflokcgaaGreat
open Go.RowKit
theorem Zc:(Tryz.prog.info? 5).map (·.size)=some 1:=by kernel_rfl
def QC (x k:Nat) (cs:List Value):List Value:=Qa (List.replicate k x)++cs.drop k
theorem Zd (x:Nat) {k:Nat} {cs:List Value} (h:k<=cs.length):(QC x k cs).length=cs.length:=by
 simp [QC,Qa];omega
theorem JS (x:Nat) {k m:Nat} {cs:List Value} (h:k+m<=cs.length):(QC x k cs).take k++(Qa (List.replicate m x)++(QC x k cs).drop (k+(Qa (List.replicate m x)).length))=QC x (k+m) cs:=by
 (have h1:(Qa (List.replicate k x)).length=k:=by simp [Qa]);(have h2:(Qa (List.replicate m x)).length=m:=by simp [Qa]);(have e:Qa (List.replicate (k+m) x)=Qa (List.replicate k x)++Qa (List.replicate m x):=by simp [Qa]);unfold QC;rw [h2,e,List.append_assoc]
 congr 1
 . rw [List.take_append_of_le_length (by omega),List.take_of_length_le (by omega)]
 congr 1
 rw [List.drop_append,List.drop_of_length_le (by omega),List.nil_append,h1,List.drop_drop,show k+(k+m-k)=k+m by omega]
theorem Ze (x:Nat) {k m i:Nat} {cs:List Value} {v:Value} (hm:m<=k) (h:(Qa (List.replicate m x))[i]?=some v):(QC x k cs)[i]?=some v:=by
 (have hi:i<m:=by have:=(List.getElem?_eq_some_iff.1 h).1;simpa [Qa]using this);unfold QC;rw [List.getElem?_append_left (by simp [Qa];omega)];simp [Qa,hi]at h;simp [Qa,h,show i<k by omega]
theorem KA {k n h m cm:Nat} (hh:h=Nat.min k cm) (hm:m=Nat.min h (n-k)) (h1:1<=k) (h2:k<n) (h3:1<=cm):1<=m/\k+m<=n/\m<=k/\h<=k:=by
 have e1:h=min k cm:=hh;have e2:m=min h (n-k):=hm;omega
theorem Q1p (b0 c x n:Nat) (w:World) (hb:Blk w b0 5 #[.int .u8 (x:Nat)]) (hn0:0<n) (hn:n<=131072) :
   Calls Tryz.prog 125 #[.slice (some ⟨b0,0,none⟩) 1 c,.int .i64 (n:Nat)] w fun e w'=>∃A' c',e = .returned (.slice A' n c')/\n<=c'/\Rd w' (fun b=>w.heap.size<=b) A' n (Qa (List.replicate n x))/\Q0 w w':=by
 (have hnI:(n:Int)<=131072:=by omega);(have hnI0:((n:Int) == 0)=false:=by simp;omega);(have hnI1:¬(n:Int)<0:=by omega);(have hnI2:(0:Int)<=n:=by omega);(have hwn:IntKind.u64.wrap (n:Int)=n:=by unfold IntKind.wrap;simp [IntKind.bits];omega);have hwn2:IntKind.i64.wrap (n:Int)=n:=IntWalk.i64_in _ (by omega);have HMU:=hd_ (show ∀W,Calls Tryz.prog 169 #[.int .u64 1,.int .u64 (n:Nat)] W fun e w'=>e = .returned (.tuple #[.int .u64 0,.int .u64 (n:Nat)])/\w'=W from fun W=>(Tryz.bits_Mul 1 n (by decide) (by omega) W).mono fun e w' h=>⟨by rw [h.1,Nat.one_mul,Nat.div_eq_of_lt (by omega),Nat.mod_eq_of_lt (by omega)];rfl,h.2⟩);have HB:=hd_ hb;have HN:=hd_ (And.intro hn0 hn);clear hb hn0 hn;refine Qg fun R hR=>?_;go_enter Tryz.func125,Tryz.ntmps125;go_wp2_with fail;refine(HMU.out _).mono ?_;rintro e w1 ⟨rfl,rfl⟩;clear HMU;obtain⟨cs,hrun,hle,hmax⟩:=Lib.run_makeNoZero (P:=Tryz.prog) w1 #[3] 22 5 Tryz.underlying22 n (by have:=HN.out;omega)
 have hcall:(callFunc 170 #[.int .i64 (n:Nat)]).run Tryz.prog w1 = .ok (.value (.slice (some ⟨w1.heap.size,0,none⟩) n cs.size)) (w1.drew.drew.alloc (.cells cs 5)):=by
   rw [run_callFunc_extern Tryz.func170 (by kernel_rfl) (by kernel_rfl) (by kernel_rfl) (e:=Extern.BytealgMakeNoZero.makeNoZero #[3] #[22]) (by kernel_rfl)];rw [hrun];rfl
 (have hle2:(n:Int)<=cs.size:=by omega);(have hcl:cs.size<=9223372036854775807:=by have:=hmax (by have:=HN.out;simp [maxLen];omega);simpa [maxLen]using this);obtain⟨CS,hCS⟩:=nm_ (cs.size);simp only [<-hCS]at hcall hle2 hcl;have HCS:=hd_ hCS;(have hleN:n<=CS:=by omega);clear hrun hle hmax hCS;by_cases h8:n<=8192
 . have h8I:¬(8192:Int)<n:=by omega
   obtain⟨cm,hcm⟩:=nm_ (n);have HCM:=hd_ (show 1<=cm by have:=HN.out;omega);go_upto_region 17 with fail;obtain⟨G,hG⟩:=nm_ (w1.heap.size);obtain⟨CL,hCL⟩:=nm_ (cs.toList);obtain⟨w2,hw2⟩:=nm_ ((w1.alloc (.cells cs 5)).drew.drew);simp only [<-hG,<-hw2];(have hcl2:CL.length=CS:=by rw [hCL,HCS.out];simp);(have bg:Blk w2 G 5 (QC x 0 CL).toArray:=by rw [hw2];have:=(Qc hG 5 cs).drew.drew;simpa [QC,Qa,hCL]using this);(have f2:Q0 w1 w2:=by rw [hw2];exact((Upd.refl _ _).alloc _).drew.drew);have bs:=HB.out.fresh f2
   have HSRC:=hd_ (show ∀j v,(Qa (List.replicate 1 x))[j]?=some v->w2.cell? ((⟨b0,0,none⟩:Addr).add j)=some v from fun j v hv=>by
     rw [Addr.add_lit,Nat.zero_add,bs.cell];simpa [Qa]using hv)
   have HLEN:=hd_ (show(Qa (List.replicate 1 x)).length=Nat.min 1 n*1 by rw [show Nat.min 1 n=1 from Nat.min_eq_left HN.out.1];simp [Qa]);have HFIT:=hd_ (show 0+(Qa (List.replicate 1 x)).length<=(QC x 0 CL).toArray.size by rw [List.size_toArray,Zd x (by omega),hcl2];have:=HN.out.1;simp [Qa];omega);have HGB:=hd_ (show w2.heap[G]?=some (.cells (QC x 0 CL).toArray 5 (0,0))from bg);have HGG:=hd_ hG;have F2:=hd_ f2;have HCL:=hd_ hcl2;clear hG hCL hw2 bg f2 bs hcl2 hcall;go_wp2_with (with_reducible refine YS (o:=⟨some 60,_,_,_,_,_⟩) rfl 1 (.tmp 58) (.tmp 59) 22 22 rfl 5 Tryz.underlying22 Zc G 0 n n ⟨b0,0,none⟩ 1 c rfl rfl (QC x 0 CL).toArray 5 HGB.out (Qa (List.replicate 1 x)) HLEN.out HSRC.out HFIT.out (QS (List.replicate 1 x)) ?_);obtain⟨w3,hw3⟩:=nm_ (w2.setRow G ((QC x 0 CL).toArray.toList.take 0++(Qa (List.replicate 1 x)++(QC x 0 CL).toArray.toList.drop (0+(Qa (List.replicate 1 x)).length))).toArray)
   have b3:Blk w3 G 5 (QC x 1 CL).toArray:=by
     rw [hw3];have h1:=setRow_heap w2 G _ ((QC x 0 CL).toArray.toList.take 0++(Qa (List.replicate 1 x)++(QC x 0 CL).toArray.toList.drop (0+(Qa (List.replicate 1 x)).length))).toArray 5 (0,0) HGB.out;have h2:=JS x (k:=0) (m:=1) (cs:=CL) (by have:=HN.out;have:=HCL.out;omega);show _=_;rw [h1];simp only [h2]
   have f3:Q0 w1 w3:=F2.out.trans (T:=fun b=>b=G) ⟨by rw [hw3];rfl,by rw [hw3];rfl,by rw [hw3];rfl,by rw [hw3];simp [World.setRow],fun k hk hn=>by rw [hw3];exact setRow_other _ _ k _ hn⟩ (fun b hb k=>by have:=HGG.out;omega);have hmin:Nat.min 1 n=1:=Nat.min_eq_left HN.out.1;(have hw3':w2.setRow G (Qa [x]++(QC x 0 CL).tail).toArray=w3:=by rw [hw3];simp [Qa]);simp only [hmin,hw3'];(have hn0I:0<(n:Int):=by have:=HN.out.1;omega);have B3:=hd_ b3;have F3:=hd_ f3;clear hw3 hw3' b3 f3 HSRC F2 HGB;go_wp2_with fail;go_loopg [10] (n-1) (fun f vk wr=>∃k:Nat,k+f=n/\1<=k/\vk = .int .i64 k/\Blk wr G 5 (QC x k CL).toArray/\Q0 w1 wr)
   case atStart=>exact⟨1,by have:=HN.out.1;omega,by omega,rfl,B3.out,F3.out⟩
   case round =>
     obtain⟨k,hk,hk1,rfl,bk,fk⟩:=hrel;have BK:=hd_ bk;have FK:=hd_ fk;have HK:=hd_ hk;have HK1:=hd_ hk1;by_cases hlt:k<n
     . have hlI:(k:Int)<n:=by omega
       (have hk1I:(1:Int)<=k:=by omega);(have hkn:¬n=k:=by omega);(have hkle:k<=n:=by omega);have hh:k=Nat.min k n:=(Nat.min_eq_left hkle).symm;obtain⟨m,hm⟩:=nm_ (Nat.min k (n-k));have HM:=hd_ (KA hh hm hk1 hlt (by have:=HN.out;omega));(have hminI:min (k:Int) (n:Int)=(k:Nat):=by have e:k=min k n:=hh;omega);(have hhn:k<=n:=by have:=HM.out;omega);(have hhI:(k:Int)<=n:=by omega);(have hh0:(0:Int)<=k:=by omega);have HMM:=hd_ hm;clear bk fk hk hk1 B3 F3 hm hh;go_upto_region 20 with fail
       have HSRC:=hd_ (show ∀W,Blk W G 5 (QC x k CL).toArray->∀j v,(Qa (List.replicate m x))[j]?=some v->W.cell? ((⟨G,0,none⟩:Addr).add j)=some v from fun W hB j v hv=>by
         have hmk:m<=k:=HM.out.2.2.1;rw [Addr.add_lit,Nat.zero_add,hB.cell];have:=Ze x (cs:=CL) hmk hv
         simpa using this)
       have HLEN:=hd_ (show(Qa (List.replicate m x)).length=m*1 by simp [Qa]);have HFIT:=hd_ (show k+(Qa (List.replicate m x)).length<=(QC x k CL).toArray.size by rw [List.size_toArray,Zd x (by have:=HCL.out;omega),HCL.out];have:=HM.out;simp [Qa];omega)
       have HROW:=hd_ (show ∀W,Blk W G 5 (QC x k CL).toArray->Blk (W.setRow G ((QC x k CL).toArray.toList.take k++(Qa (List.replicate m x)++(QC x k CL).toArray.toList.drop (k+(Qa (List.replicate m x)).length))).toArray) G 5 (QC x (k+m) CL).toArray from fun W hB=>by
         have h1:=setRow_heap W G _ ((QC x k CL).toArray.toList.take k++(Qa (List.replicate m x)++(QC x k CL).toArray.toList.drop (k+(Qa (List.replicate m x)).length))).toArray 5 (0,0) hB;have h2:=JS x (k:=k) (m:=m) (cs:=CL) (by have:=HM.out;have:=HCL.out;omega);show _=_;rw [h1]
         simp only [h2])
       have HSET:=hd_ (show ∀(W:World) (cs:Array Value),Upd (fun b=>b=G) W (W.setRow G cs)from fun W cs=>⟨rfl,rfl,rfl,by simp [World.setRow],fun k hk hn=>setRow_other _ _ k _ hn⟩);(have hwa:IntKind.i64.wrap ((k:Int)+m)=((k+m:Nat):Int):=by have:=HM.out;have:=HN.out;rw [IntWalk.i64_in _ (by omega)];omega);obtain⟨Cw,cEq⟩:=exC (fun W=>Q0 w1 W);obtain⟨Y,yA⟩:=exY [fun xs W=>(xs 0) = .int .i64 (k:Nat),fun xs W=>(xs 1) = .slice (some ⟨G,0,none⟩) n n,fun xs W=>(xs 2) = .int .i64 (k:Nat),fun xs W=>(xs 3) = .slice (some ⟨G,k,none⟩) (n-k) (n-k),fun xs W=>(xs 4) = .slice (some ⟨G,0,none⟩) n n,fun xs W=>(xs 5) = .int .i64 (k:Nat),fun xs W=>(xs 6) = .slice (some ⟨G,0,none⟩) k n,fun xs W=>(xs 7) = .int .i64 (m:Nat)/\Blk W G 5 (QC x (k+m) CL).toArray,fun xs W=>(xs 8) = .int .i64 ((k+m:Nat):Int),fun xs W=>(xs 9) = .int .i64 ((k+m:Nat):Int),fun xs W=>Blk W G 5 (QC x k CL).toArray];have yf0:=yA 0;have yf1:=yA 1;have yf2:=yA 2;have yf3:=yA 3;have yf4:=yA 4;have yf5:=yA 5;have yf6:=yA 6;have yf7:=yA 7;have yf8:=yA 8;have yf9:=yA 9;have yf10:=yA 10;simp only [List.getD_cons_zero,List.getD_cons_succ]at yf0 yf1 yf2 yf3 yf4 yf5 yf6 yf7 yf8 yf9 yf10;(have yN:∀j xs W,11<=j->Y j xs W=True:=fun j xs W hj=>by rw [yA,QR _ _ _ hj])
       have yP:∀j xs W W',j∈[0,1,2,3,4,5,6,8,9]->Y j xs W->Y j xs W':=by
         intro j xs W W' hj hy;simp only [List.mem_cons,List.not_mem_nil,or_false]at hj;rcases hj with rfl|rfl|rfl|rfl|rfl|rfl|rfl|rfl|rfl
         . rw [yf0]at hy ⊢;exact hy
         . rw [yf1]at hy ⊢;exact hy
         . rw [yf2]at hy ⊢;exact hy
         . rw [yf3]at hy ⊢;exact hy
         . rw [yf4]at hy ⊢;exact hy
         . rw [yf5]at hy ⊢;exact hy
         . rw [yf6]at hy ⊢;exact hy
         . rw [yf8]at hy ⊢;exact hy
         rw [yf9]at hy ⊢;exact hy
       have yM:YA [[0],[1],[2],[3],[4],[5],[6],[7],[8],[9],[]] Y:=by
         intro j xs xs' W hh hy;by_cases hj:11<=j
         . rw [yN j _ _ hj];trivial
         (have hj':j=0\/j=1\/j=2\/j=3\/j=4\/j=5\/j=6\/j=7\/j=8\/j=9\/j=10:=by omega);rcases hj' with rfl|rfl|rfl|rfl|rfl|rfl|rfl|rfl|rfl|rfl|rfl
         . rw [yf0]at hy ⊢;rw [<-hh 0 (by decide)];exact hy
         . rw [yf1]at hy ⊢;rw [<-hh 1 (by decide)];exact hy
         . rw [yf2]at hy ⊢;rw [<-hh 2 (by decide)];exact hy
         . rw [yf3]at hy ⊢;rw [<-hh 3 (by decide)];exact hy
         . rw [yf4]at hy ⊢;rw [<-hh 4 (by decide)];exact hy
         . rw [yf5]at hy ⊢;rw [<-hh 5 (by decide)];exact hy
         . rw [yf6]at hy ⊢;rw [<-hh 6 (by decide)];exact hy
         . rw [yf7]at hy ⊢;rw [<-hh 7 (by decide)];exact hy
         . rw [yf8]at hy ⊢;rw [<-hh 8 (by decide)];exact hy
         . rw [yf9]at hy ⊢;rw [<-hh 9 (by decide)];exact hy
         rw [yf10]at hy ⊢;exact hy
       clear yA
       have yR:∀j xs,10<=j->Y j xs (wr.drew):=by
         intro j xs hj;rcases(show j=10\/11<=j by omega)with rfl|hj
         . rw [yf10];exact BK.out.drew
         rw [yN _ _ _ hj];trivial
       refine QK Cw (fun j=>if j=10 then [7]else []) Y [(0,some 67),(1,some 68),(2,some 69),(3,some 70),(4,some 71),(5,some 72),(6,some 73),(7,some 74),(8,some 75),(9,some 10)] (by kernel_rfl) (by kernel_rfl) (by kernel_rfl) (by rw [cEq];exact FK.out.drew) (fun j hj=>yR j _ hj) ?_ ?_
       . refine Qf.cons [] (by kernel_rfl) (fun xs W hw hd lst hl K hK=>?_) ?_
         . rw [cEq]at hw
           have hK':=hK.out;clear hK;simp only [Qd,Act.put,List.setIfInBounds_toArray,List.set_cons_zero,List.set_cons_succ]at hK' ⊢;go_simp;exact hK' _ _ (by rw [cEq];exact hw) (Qb yM 0 (by kernel_rfl) xs W _) (by rw [yf0];exact if_pos rfl)
         refine Qf.cons [] (by kernel_rfl) (fun xs W hw hd lst hl K hK=>?_) ?_
         . rw [cEq]at hw
           have hK':=hK.out;clear hK;simp only [Qd,Act.put,List.setIfInBounds_toArray,List.set_cons_zero,List.set_cons_succ]at hK' ⊢;go_simp;exact hK' _ _ (by rw [cEq];exact hw) (Qb yM 1 (by kernel_rfl) xs W _) (by rw [yf1];exact if_pos rfl)
         refine Qf.cons [] (by kernel_rfl) (fun xs W hw hd lst hl K hK=>?_) ?_
         . rw [cEq]at hw
           have hK':=hK.out;clear hK;simp only [Qd,Act.put,List.setIfInBounds_toArray,List.set_cons_zero,List.set_cons_succ]at hK' ⊢;go_simp;exact hK' _ _ (by rw [cEq];exact hw) (Qb yM 2 (by kernel_rfl) xs W _) (by rw [yf2];exact if_pos rfl)
         refine Qf.cons [(1,some 68),(2,some 69)] (by kernel_rfl) (fun xs W hw hd lst hl K hK=>?_) ?_
         . rw [cEq]at hw
           have hK':=hK.out;clear hK;simp only [Ql]at hd;obtain⟨hf1,hf2,_⟩:=hd;simp only [Qd,Act.put,List.setIfInBounds_toArray,List.set_cons_zero,List.set_cons_succ]at hK' ⊢;rw [yf1]at hf1;rw [yf2]at hf2;simp only [hf1,hf2]at hK' ⊢;go_simp;exact hK' _ _ (by rw [cEq];exact hw) (Qb yM 3 (by kernel_rfl) xs W _) (by rw [yf3];exact if_pos rfl)
         refine Qf.cons [] (by kernel_rfl) (fun xs W hw hd lst hl K hK=>?_) ?_
         . rw [cEq]at hw
           have hK':=hK.out;clear hK;simp only [Qd,Act.put,List.setIfInBounds_toArray,List.set_cons_zero,List.set_cons_succ]at hK' ⊢;go_simp;exact hK' _ _ (by rw [cEq];exact hw) (Qb yM 4 (by kernel_rfl) xs W _) (by rw [yf4];exact if_pos rfl)
         refine Qf.cons [] (by kernel_rfl) (fun xs W hw hd lst hl K hK=>?_) ?_
         . rw [cEq]at hw
           have hK':=hK.out;clear hK;simp only [Qd,Act.put,List.setIfInBounds_toArray,List.set_cons_zero,List.set_cons_succ]at hK' ⊢;go_simp;exact hK' _ _ (by rw [cEq];exact hw) (Qb yM 5 (by kernel_rfl) xs W _) (by rw [yf5];exact if_pos rfl)
         refine Qf.cons [(4,some 71),(5,some 72)] (by kernel_rfl) (fun xs W hw hd lst hl K hK=>?_) ?_
         . rw [cEq]at hw
           have hK':=hK.out;clear hK;simp only [Ql]at hd;obtain⟨hf4,hf5,_⟩:=hd;simp only [Qd,Act.put,List.setIfInBounds_toArray,List.set_cons_zero,List.set_cons_succ]at hK' ⊢;rw [yf4]at hf4;rw [yf5]at hf5;simp only [hf4,hf5]at hK' ⊢;go_simp;exact hK' _ _ (by rw [cEq];exact hw) (Qb yM 6 (by kernel_rfl) xs W _) (by rw [yf6];exact if_pos rfl)
         refine Qf.cons [(3,some 70),(6,some 73),(10,none)] (by kernel_rfl) (fun xs W hw hd lst hl K hK=>?_) ?_
         . rw [cEq]at hw
           have hK':=hK.out;clear hK;simp only [Ql]at hd;obtain⟨hf3,hf6,hf10,_⟩:=hd;simp only [Qd,Act.put,List.setIfInBounds_toArray,List.set_cons_zero,List.set_cons_succ]at hK' ⊢;rw [yf3]at hf3;rw [yf6]at hf6;rw [yf10]at hf10;simp only [hf3,hf6]at hK' ⊢;rw [if_pos (by rfl)];refine JH 1 (.tmp 70) (.tmp 73) 22 22 rfl 5 Tryz.underlying22 Zc G k (n-k) (n-k) ⟨G,0,none⟩ k n rfl rfl (QC x k CL).toArray 5 hf10 (Qa (List.replicate m x)) m HMM.out HLEN.out (HSRC.out W hf10) HFIT.out (QS (List.replicate m x)) ?_;have hB:=HROW.out W hf10;have hR:=trivial;refine hK' (_) (_) (by rw [cEq];exact hw.trans (HSET.out W _) (fun b hb k=>by have:=HGG.out;omega)) (QG yM 7 (by kernel_rfl) _ fun j hs hy=>?_) (by rw [yf7];(try simp only [↓reduceIte]);try exact⟨rfl,hB⟩);by_cases hp:j∈[0,1,2,3,4,5,6,8,9]
           . exact yP j _ _ _ hp hy
           by_cases hj:11<=j
           . rw [yN j _ _ hj];trivial
           simp only [List.mem_cons,List.not_mem_nil,or_false]at hp;rcases(show j=7\/j=10 by omega)with rfl|rfl
           . exact(Qn hs (by kernel_rfl)).elim
           exact(Qn hs (by kernel_rfl)).elim
         refine Qf.cons [(0,some 67),(7,some 74)] (by kernel_rfl) (fun xs W hw hd lst hl K hK=>?_) ?_
         . rw [cEq]at hw
           have hK':=hK.out;clear hK;simp only [Ql]at hd;obtain⟨hf0,hf7,_⟩:=hd;simp only [Qd,Act.put,List.setIfInBounds_toArray,List.set_cons_zero,List.set_cons_succ]at hK' ⊢;rw [yf0]at hf0;rw [yf7]at hf7;simp only [hf0]at hK' ⊢;obtain⟨h7e,b7⟩:=hf7;simp only [h7e]at hK' ⊢;go_simp;exact hK' _ _ (by rw [cEq];exact hw) (Qb yM 8 (by kernel_rfl) xs W _) (by rw [yf8];exact if_pos rfl)
         refine Qf.cons [(8,some 75)] (by kernel_rfl) (fun xs W hw hd lst hl K hK=>?_) ?_
         . rw [cEq]at hw
           have hK':=hK.out;clear hK;simp only [Ql]at hd;obtain⟨hf8,_⟩:=hd;simp only [Qd,Act.put,List.setIfInBounds_toArray,List.set_cons_zero,List.set_cons_succ]at hK' ⊢;rw [yf8]at hf8;simp only [hf8]at hK' ⊢;go_simp;exact hK' _ _ (by rw [cEq];exact hw) (Qb yM 9 (by kernel_rfl) xs W _) (by rw [yf9];exact if_pos rfl)
         exact Qf.nil
       intro xs W hw hd;rw [cEq]at hw;simp only [Yd]at hd;obtain⟨fe0,fe1,fe2,fe3,fe4,fe5,fe6,fe7,fe8,fe9,_⟩:=hd;have fe0:=fe0 (by first|kernel_rfl|trivial);rw [yf0]at fe0;have fe1:=fe1 (by first|kernel_rfl|trivial);rw [yf1]at fe1;have fe2:=fe2 (by first|kernel_rfl|trivial);rw [yf2]at fe2;have fe3:=fe3 (by first|kernel_rfl|trivial);rw [yf3]at fe3;have fe4:=fe4 (by first|kernel_rfl|trivial);rw [yf4]at fe4;have fe5:=fe5 (by first|kernel_rfl|trivial);rw [yf5]at fe5;have fe6:=fe6 (by first|kernel_rfl|trivial);rw [yf6]at fe6;have fe7:=fe7 (by first|kernel_rfl|trivial);rw [yf7]at fe7;have fe8:=fe8 (by first|kernel_rfl|trivial);rw [yf8]at fe8;have fe9:=fe9 (by first|kernel_rfl|trivial);rw [yf9]at fe9;simp only [Qd,Act.put,List.setIfInBounds_toArray,List.set_cons_zero,List.set_cons_succ];generalize xs 0=xv0 at *;generalize xs 1=xv1 at *;generalize xs 2=xv2 at *;generalize xs 3=xv3 at *;generalize xs 4=xv4 at *;generalize xs 5=xv5 at *;generalize xs 6=xv6 at *;generalize xs 7=xv7 at *;generalize xs 8=xv8 at *;generalize xs 9=xv9 at *;subst fe0;subst fe1;subst fe2;subst fe3;subst fe4;subst fe5;subst fe6;subst fe8;subst fe9;clear yf0 yf1 yf2 yf3 yf4 yf5 yf6 yf7 yf8 yf9 yf10 yN yR yM yP cEq;go_wp2_with fail;go_roundg (n-(k+m))
       case measure=>have:=HM.out;have:=HK.out;omega
       case rel=>exact⟨k+m,by have:=HM.out;omega,by have:=HM.out;omega,rfl,fe7.2,hw⟩
     (obtain rfl:k=n:=by omega);clear bk fk hk hk1 B3 F3;go_wp2_with fail;(try go_ret);refine hR.out _ _ ⟨some ⟨G,0,none⟩,k,rfl,Nat.le_refl _,⟨by simp [Qa],fun _=>⟨G,0,rfl,by have:=HGG.out;omega,BK.out.lt,fun j hj=>?_⟩⟩,FK.out⟩;rw [BK.out.cell,Nat.zero_add];(have h1:(Qa (List.replicate k x))[j]?=some (.int .u8 (x:Nat)):=by simp [Qa,hj]);rw [h1];have:=Ze x (cs:=CL) (Nat.le_refl k) h1;simpa using this
 (have h8I:(8192:Int)<n:=by omega);obtain⟨cm,hcm⟩:=nm_ (8192);have HCM:=hd_ (show 1<=cm by omega);go_upto_region 17 with fail;obtain⟨G,hG⟩:=nm_ (w1.heap.size);obtain⟨CL,hCL⟩:=nm_ (cs.toList);obtain⟨w2,hw2⟩:=nm_ ((w1.alloc (.cells cs 5)).drew.drew);simp only [<-hG,<-hw2];(have hcl2:CL.length=CS:=by rw [hCL,HCS.out];simp);(have bg:Blk w2 G 5 (QC x 0 CL).toArray:=by rw [hw2];have:=(Qc hG 5 cs).drew.drew;simpa [QC,Qa,hCL]using this);(have f2:Q0 w1 w2:=by rw [hw2];exact((Upd.refl _ _).alloc _).drew.drew);have bs:=HB.out.fresh f2
 have HSRC:=hd_ (show ∀j v,(Qa (List.replicate 1 x))[j]?=some v->w2.cell? ((⟨b0,0,none⟩:Addr).add j)=some v from fun j v hv=>by
   rw [Addr.add_lit,Nat.zero_add,bs.cell];simpa [Qa]using hv)
 have HLEN:=hd_ (show(Qa (List.replicate 1 x)).length=Nat.min 1 n*1 by rw [show Nat.min 1 n=1 from Nat.min_eq_left HN.out.1];simp [Qa]);have HFIT:=hd_ (show 0+(Qa (List.replicate 1 x)).length<=(QC x 0 CL).toArray.size by rw [List.size_toArray,Zd x (by omega),hcl2];have:=HN.out.1;simp [Qa];omega);have HGB:=hd_ (show w2.heap[G]?=some (.cells (QC x 0 CL).toArray 5 (0,0))from bg);have HGG:=hd_ hG;have F2:=hd_ f2;have HCL:=hd_ hcl2;clear hG hCL hw2 bg f2 bs hcl2 hcall;go_wp2_with (with_reducible refine YS (o:=⟨some 60,_,_,_,_,_⟩) rfl 1 (.tmp 58) (.tmp 59) 22 22 rfl 5 Tryz.underlying22 Zc G 0 n n ⟨b0,0,none⟩ 1 c rfl rfl (QC x 0 CL).toArray 5 HGB.out (Qa (List.replicate 1 x)) HLEN.out HSRC.out HFIT.out (QS (List.replicate 1 x)) ?_);obtain⟨w3,hw3⟩:=nm_ (w2.setRow G ((QC x 0 CL).toArray.toList.take 0++(Qa (List.replicate 1 x)++(QC x 0 CL).toArray.toList.drop (0+(Qa (List.replicate 1 x)).length))).toArray)
 have b3:Blk w3 G 5 (QC x 1 CL).toArray:=by
   rw [hw3];have h1:=setRow_heap w2 G _ ((QC x 0 CL).toArray.toList.take 0++(Qa (List.replicate 1 x)++(QC x 0 CL).toArray.toList.drop (0+(Qa (List.replicate 1 x)).length))).toArray 5 (0,0) HGB.out;have h2:=JS x (k:=0) (m:=1) (cs:=CL) (by have:=HN.out;have:=HCL.out;omega);show _=_;rw [h1];simp only [h2]
 have f3:Q0 w1 w3:=F2.out.trans (T:=fun b=>b=G) ⟨by rw [hw3];rfl,by rw [hw3];rfl,by rw [hw3];rfl,by rw [hw3];simp [World.setRow],fun k hk hn=>by rw [hw3];exact setRow_other _ _ k _ hn⟩ (fun b hb h=>by have:=HGG.out;omega);have hmin:Nat.min 1 n=1:=Nat.min_eq_left HN.out.1;(have hw3':w2.setRow G (Qa [x]++(QC x 0 CL).tail).toArray=w3:=by rw [hw3];simp [Qa]);simp only [hmin,hw3'];(have hn0I:0<(n:Int):=by have:=HN.out.1;omega);have B3:=hd_ b3;have F3:=hd_ f3;clear hw3 hw3' b3 f3 HSRC F2 HGB;go_wp2_with fail;go_loopg [10] (n-1) (fun f vk wr=>∃k:Nat,k+f=n/\1<=k/\vk = .int .i64 k/\Blk wr G 5 (QC x k CL).toArray/\Q0 w1 wr)
 case atStart=>exact⟨1,by have:=HN.out.1;omega,by omega,rfl,B3.out,F3.out⟩
 case round =>
   obtain⟨k,hk,hk1,rfl,bk,fk⟩:=hrel;have BK:=hd_ bk;have FK:=hd_ fk;have HK:=hd_ hk;have HK1:=hd_ hk1;by_cases hlt:k<n
   . have hlI:(k:Int)<n:=by omega
     (have hk1I:(1:Int)<=k:=by omega);(have hkn:¬n=k:=by omega);(have hkle:k<=n:=by omega);obtain⟨h,hh⟩:=nm_ (Nat.min k 8192);obtain⟨m,hm⟩:=nm_ (Nat.min h (n-k));have HM:=hd_ (KA hh hm hk1 hlt (by have:=HN.out;omega));(have hminI:min (k:Int) 8192=(h:Nat):=by have e:h=min k 8192:=hh;omega);(have hhn:h<=n:=by have:=HM.out;omega);(have hhI:(h:Int)<=n:=by omega);(have hh0:(0:Int)<=h:=by omega);have HMM:=hd_ hm;clear bk fk hk hk1 B3 F3 hm hh;go_upto_region 20 with fail
     have HSRC:=hd_ (show ∀W,Blk W G 5 (QC x k CL).toArray->∀j v,(Qa (List.replicate m x))[j]?=some v->W.cell? ((⟨G,0,none⟩:Addr).add j)=some v from fun W hB j v hv=>by
       have hmk:m<=k:=HM.out.2.2.1;rw [Addr.add_lit,Nat.zero_add,hB.cell];have:=Ze x (cs:=CL) hmk hv
       simpa using this)
     have HLEN:=hd_ (show(Qa (List.replicate m x)).length=m*1 by simp [Qa]);have HFIT:=hd_ (show k+(Qa (List.replicate m x)).length<=(QC x k CL).toArray.size by rw [List.size_toArray,Zd x (by have:=HCL.out;omega),HCL.out];have:=HM.out;simp [Qa];omega)
     have HROW:=hd_ (show ∀W,Blk W G 5 (QC x k CL).toArray->Blk (W.setRow G ((QC x k CL).toArray.toList.take k++(Qa (List.replicate m x)++(QC x k CL).toArray.toList.drop (k+(Qa (List.replicate m x)).length))).toArray) G 5 (QC x (k+m) CL).toArray from fun W hB=>by
       have h1:=setRow_heap W G _ ((QC x k CL).toArray.toList.take k++(Qa (List.replicate m x)++(QC x k CL).toArray.toList.drop (k+(Qa (List.replicate m x)).length))).toArray 5 (0,0) hB;have h2:=JS x (k:=k) (m:=m) (cs:=CL) (by have:=HM.out;have:=HCL.out;omega);show _=_;rw [h1]
       simp only [h2])
     have HSET:=hd_ (show ∀(W:World) (cs:Array Value),Upd (fun b=>b=G) W (W.setRow G cs)from fun W cs=>⟨rfl,rfl,rfl,by simp [World.setRow],fun k hk hn=>setRow_other _ _ k _ hn⟩);(have hwa:IntKind.i64.wrap ((k:Int)+m)=((k+m:Nat):Int):=by have:=HM.out;have:=HN.out;rw [IntWalk.i64_in _ (by omega)];omega);obtain⟨Cw,cEq⟩:=exC (fun W=>Q0 w1 W);obtain⟨Y,yA⟩:=exY [fun xs W=>(xs 0) = .int .i64 (k:Nat),fun xs W=>(xs 1) = .slice (some ⟨G,0,none⟩) n n,fun xs W=>(xs 2) = .int .i64 (k:Nat),fun xs W=>(xs 3) = .slice (some ⟨G,k,none⟩) (n-k) (n-k),fun xs W=>(xs 4) = .slice (some ⟨G,0,none⟩) n n,fun xs W=>(xs 5) = .int .i64 (h:Nat),fun xs W=>(xs 6) = .slice (some ⟨G,0,none⟩) h n,fun xs W=>(xs 7) = .int .i64 (m:Nat)/\Blk W G 5 (QC x (k+m) CL).toArray,fun xs W=>(xs 8) = .int .i64 ((k+m:Nat):Int),fun xs W=>(xs 9) = .int .i64 ((k+m:Nat):Int),fun xs W=>Blk W G 5 (QC x k CL).toArray];have yf0:=yA 0;have yf1:=yA 1;have yf2:=yA 2;have yf3:=yA 3;have yf4:=yA 4;have yf5:=yA 5;have yf6:=yA 6;have yf7:=yA 7;have yf8:=yA 8;have yf9:=yA 9;have yf10:=yA 10;simp only [List.getD_cons_zero,List.getD_cons_succ]at yf0 yf1 yf2 yf3 yf4 yf5 yf6 yf7 yf8 yf9 yf10;(have yN:∀j xs W,11<=j->Y j xs W=True:=fun j xs W hj=>by rw [yA,QR _ _ _ hj])
     have yP:∀j xs W W',j∈[0,1,2,3,4,5,6,8,9]->Y j xs W->Y j xs W':=by
       intro j xs W W' hj hy;simp only [List.mem_cons,List.not_mem_nil,or_false]at hj;rcases hj with rfl|rfl|rfl|rfl|rfl|rfl|rfl|rfl|rfl
       . rw [yf0]at hy ⊢;exact hy
       . rw [yf1]at hy ⊢;exact hy
       . rw [yf2]at hy ⊢;exact hy
       . rw [yf3]at hy ⊢;exact hy
       . rw [yf4]at hy ⊢;exact hy
       . rw [yf5]at hy ⊢;exact hy
       . rw [yf6]at hy ⊢;exact hy
       . rw [yf8]at hy ⊢;exact hy
       rw [yf9]at hy ⊢;exact hy
     have yM:YA [[0],[1],[2],[3],[4],[5],[6],[7],[8],[9],[]] Y:=by
       intro j xs xs' W hh hy;by_cases hj:11<=j
       . rw [yN j _ _ hj];trivial
       (have hj':j=0\/j=1\/j=2\/j=3\/j=4\/j=5\/j=6\/j=7\/j=8\/j=9\/j=10:=by omega);rcases hj' with rfl|rfl|rfl|rfl|rfl|rfl|rfl|rfl|rfl|rfl|rfl
       . rw [yf0]at hy ⊢;rw [<-hh 0 (by decide)];exact hy
       . rw [yf1]at hy ⊢;rw [<-hh 1 (by decide)];exact hy
       . rw [yf2]at hy ⊢;rw [<-hh 2 (by decide)];exact hy
       . rw [yf3]at hy ⊢;rw [<-hh 3 (by decide)];exact hy
       . rw [yf4]at hy ⊢;rw [<-hh 4 (by decide)];exact hy
       . rw [yf5]at hy ⊢;rw [<-hh 5 (by decide)];exact hy
       . rw [yf6]at hy ⊢;rw [<-hh 6 (by decide)];exact hy
       . rw [yf7]at hy ⊢;rw [<-hh 7 (by decide)];exact hy
       . rw [yf8]at hy ⊢;rw [<-hh 8 (by decide)];exact hy
       . rw [yf9]at hy ⊢;rw [<-hh 9 (by decide)];exact hy
       rw [yf10]at hy ⊢;exact hy
     clear yA
     have yR:∀j xs,10<=j->Y j xs (wr.drew):=by
       intro j xs hj;rcases(show j=10\/11<=j by omega)with rfl|hj
       . rw [yf10];exact BK.out.drew
       rw [yN _ _ _ hj];trivial
     refine QK Cw (fun j=>if j=10 then [7]else []) Y [(0,some 67),(1,some 68),(2,some 69),(3,some 70),(4,some 71),(5,some 72),(6,some 73),(7,some 74),(8,some 75),(9,some 10)] (by kernel_rfl) (by kernel_rfl) (by kernel_rfl) (by rw [cEq];exact FK.out.drew) (fun j hj=>yR j _ hj) ?_ ?_
     . refine Qf.cons [] (by kernel_rfl) (fun xs W hw hd lst hl K hK=>?_) ?_
       . rw [cEq]at hw
         have hK':=hK.out;clear hK;simp only [Qd,Act.put,List.setIfInBounds_toArray,List.set_cons_zero,List.set_cons_succ]at hK' ⊢;go_simp;exact hK' _ _ (by rw [cEq];exact hw) (Qb yM 0 (by kernel_rfl) xs W _) (by rw [yf0];exact if_pos rfl)
       refine Qf.cons [] (by kernel_rfl) (fun xs W hw hd lst hl K hK=>?_) ?_
       . rw [cEq]at hw
         have hK':=hK.out;clear hK;simp only [Qd,Act.put,List.setIfInBounds_toArray,List.set_cons_zero,List.set_cons_succ]at hK' ⊢;go_simp;exact hK' _ _ (by rw [cEq];exact hw) (Qb yM 1 (by kernel_rfl) xs W _) (by rw [yf1];exact if_pos rfl)
       refine Qf.cons [] (by kernel_rfl) (fun xs W hw hd lst hl K hK=>?_) ?_
       . rw [cEq]at hw
         have hK':=hK.out;clear hK;simp only [Qd,Act.put,List.setIfInBounds_toArray,List.set_cons_zero,List.set_cons_succ]at hK' ⊢;go_simp;exact hK' _ _ (by rw [cEq];exact hw) (Qb yM 2 (by kernel_rfl) xs W _) (by rw [yf2];exact if_pos rfl)
       refine Qf.cons [(1,some 68),(2,some 69)] (by kernel_rfl) (fun xs W hw hd lst hl K hK=>?_) ?_
       . rw [cEq]at hw
         have hK':=hK.out;clear hK;simp only [Ql]at hd;obtain⟨hf1,hf2,_⟩:=hd;simp only [Qd,Act.put,List.setIfInBounds_toArray,List.set_cons_zero,List.set_cons_succ]at hK' ⊢;rw [yf1]at hf1;rw [yf2]at hf2;simp only [hf1,hf2]at hK' ⊢;go_simp;exact hK' _ _ (by rw [cEq];exact hw) (Qb yM 3 (by kernel_rfl) xs W _) (by rw [yf3];exact if_pos rfl)
       refine Qf.cons [] (by kernel_rfl) (fun xs W hw hd lst hl K hK=>?_) ?_
       . rw [cEq]at hw
         have hK':=hK.out;clear hK;simp only [Qd,Act.put,List.setIfInBounds_toArray,List.set_cons_zero,List.set_cons_succ]at hK' ⊢;go_simp;exact hK' _ _ (by rw [cEq];exact hw) (Qb yM 4 (by kernel_rfl) xs W _) (by rw [yf4];exact if_pos rfl)
       refine Qf.cons [] (by kernel_rfl) (fun xs W hw hd lst hl K hK=>?_) ?_
       . rw [cEq]at hw
         have hK':=hK.out;clear hK;simp only [Qd,Act.put,List.setIfInBounds_toArray,List.set_cons_zero,List.set_cons_succ]at hK' ⊢;go_simp;exact hK' _ _ (by rw [cEq];exact hw) (Qb yM 5 (by kernel_rfl) xs W _) (by rw [yf5];exact if_pos rfl)
       refine Qf.cons [(4,some 71),(5,some 72)] (by kernel_rfl) (fun xs W hw hd lst hl K hK=>?_) ?_
       . rw [cEq]at hw
         have hK':=hK.out;clear hK;simp only [Ql]at hd;obtain⟨hf4,hf5,_⟩:=hd;simp only [Qd,Act.put,List.setIfInBounds_toArray,List.set_cons_zero,List.set_cons_succ]at hK' ⊢;rw [yf4]at hf4;rw [yf5]at hf5;simp only [hf4,hf5]at hK' ⊢;go_simp;exact hK' _ _ (by rw [cEq];exact hw) (Qb yM 6 (by kernel_rfl) xs W _) (by rw [yf6];exact if_pos rfl)
       refine Qf.cons [(3,some 70),(6,some 73),(10,none)] (by kernel_rfl) (fun xs W hw hd lst hl K hK=>?_) ?_
       . rw [cEq]at hw
         have hK':=hK.out;clear hK;simp only [Ql]at hd;obtain⟨hf3,hf6,hf10,_⟩:=hd;simp only [Qd,Act.put,List.setIfInBounds_toArray,List.set_cons_zero,List.set_cons_succ]at hK' ⊢;rw [yf3]at hf3;rw [yf6]at hf6;rw [yf10]at hf10;simp only [hf3,hf6]at hK' ⊢;rw [if_pos (by rfl)];refine JH 1 (.tmp 70) (.tmp 73) 22 22 rfl 5 Tryz.underlying22 Zc G k (n-k) (n-k) ⟨G,0,none⟩ h n rfl rfl (QC x k CL).toArray 5 hf10 (Qa (List.replicate m x)) m HMM.out HLEN.out (HSRC.out W hf10) HFIT.out (QS (List.replicate m x)) ?_;have hB:=HROW.out W hf10;have hR:=trivial;refine hK' (_) (_) (by rw [cEq];exact hw.trans (HSET.out W _) (fun b hb h=>by have:=HGG.out;omega)) (QG yM 7 (by kernel_rfl) _ fun j hs hy=>?_) (by rw [yf7];(try simp only [↓reduceIte]);try exact⟨rfl,hB⟩);by_cases hp:j∈[0,1,2,3,4,5,6,8,9]
         . exact yP j _ _ _ hp hy
         by_cases hj:11<=j
         . rw [yN j _ _ hj];trivial
         simp only [List.mem_cons,List.not_mem_nil,or_false]at hp;rcases(show j=7\/j=10 by omega)with rfl|rfl
         . exact(Qn hs (by kernel_rfl)).elim
         exact(Qn hs (by kernel_rfl)).elim
       refine Qf.cons [(0,some 67),(7,some 74)] (by kernel_rfl) (fun xs W hw hd lst hl K hK=>?_) ?_
       . rw [cEq]at hw
         have hK':=hK.out;clear hK;simp only [Ql]at hd;obtain⟨hf0,hf7,_⟩:=hd;simp only [Qd,Act.put,List.setIfInBounds_toArray,List.set_cons_zero,List.set_cons_succ]at hK' ⊢;rw [yf0]at hf0;rw [yf7]at hf7;simp only [hf0]at hK' ⊢;obtain⟨h7e,b7⟩:=hf7;simp only [h7e]at hK' ⊢;go_simp;exact hK' _ _ (by rw [cEq];exact hw) (Qb yM 8 (by kernel_rfl) xs W _) (by rw [yf8];exact if_pos rfl)
       refine Qf.cons [(8,some 75)] (by kernel_rfl) (fun xs W hw hd lst hl K hK=>?_) ?_
       . rw [cEq]at hw
         have hK':=hK.out;clear hK;simp only [Ql]at hd;obtain⟨hf8,_⟩:=hd;simp only [Qd,Act.put,List.setIfInBounds_toArray,List.set_cons_zero,List.set_cons_succ]at hK' ⊢;rw [yf8]at hf8;simp only [hf8]at hK' ⊢;go_simp;exact hK' _ _ (by rw [cEq];exact hw) (Qb yM 9 (by kernel_rfl) xs W _) (by rw [yf9];exact if_pos rfl)
       exact Qf.nil
     intro xs W hw hd;rw [cEq]at hw;simp only [Yd]at hd;obtain⟨fe0,fe1,fe2,fe3,fe4,fe5,fe6,fe7,fe8,fe9,_⟩:=hd;have fe0:=fe0 (by first|kernel_rfl|trivial);rw [yf0]at fe0;have fe1:=fe1 (by first|kernel_rfl|trivial);rw [yf1]at fe1;have fe2:=fe2 (by first|kernel_rfl|trivial);rw [yf2]at fe2;have fe3:=fe3 (by first|kernel_rfl|trivial);rw [yf3]at fe3;have fe4:=fe4 (by first|kernel_rfl|trivial);rw [yf4]at fe4;have fe5:=fe5 (by first|kernel_rfl|trivial);rw [yf5]at fe5;have fe6:=fe6 (by first|kernel_rfl|trivial);rw [yf6]at fe6;have fe7:=fe7 (by first|kernel_rfl|trivial);rw [yf7]at fe7;have fe8:=fe8 (by first|kernel_rfl|trivial);rw [yf8]at fe8;have fe9:=fe9 (by first|kernel_rfl|trivial);rw [yf9]at fe9;simp only [Qd,Act.put,List.setIfInBounds_toArray,List.set_cons_zero,List.set_cons_succ];generalize xs 0=xv0 at *;generalize xs 1=xv1 at *;generalize xs 2=xv2 at *;generalize xs 3=xv3 at *;generalize xs 4=xv4 at *;generalize xs 5=xv5 at *;generalize xs 6=xv6 at *;generalize xs 7=xv7 at *;generalize xs 8=xv8 at *;generalize xs 9=xv9 at *;subst fe0;subst fe1;subst fe2;subst fe3;subst fe4;subst fe5;subst fe6;subst fe8;subst fe9;clear yf0 yf1 yf2 yf3 yf4 yf5 yf6 yf7 yf8 yf9 yf10 yN yR yM yP cEq;go_wp2_with fail;go_roundg (n-(k+m))
     case measure=>have:=HM.out;have:=HK.out;omega
     case rel=>exact⟨k+m,by have:=HM.out;omega,by have:=HM.out;omega,rfl,fe7.2,hw⟩
   (obtain rfl:k=n:=by omega);clear bk fk hk hk1 B3 F3;go_wp2_with fail;(try go_ret);refine hR.out _ _ ⟨some ⟨G,0,none⟩,k,rfl,Nat.le_refl _,⟨by simp [Qa],fun _=>⟨G,0,rfl,by have:=HGG.out;omega,BK.out.lt,fun j hj=>?_⟩⟩,FK.out⟩;rw [BK.out.cell,Nat.zero_add];(have h1:(Qa (List.replicate k x))[j]?=some (.int .u8 (x:Nat)):=by simp [Qa,hj]);rw [h1];have:=Ze x (cs:=CL) (Nat.le_refl k) h1;simpa using this
end Go.Proofs.YtckjdhaflokcgaaGreat
