/- Contracts and plain lemmas, part 12. Conditions: none beyond those of each. -/
import Derived.Lib.MakeNoZero
import Derived.Test.YtckjdhaflokcgaaGreatR11
set_option maxHeartbeats 8000000
set_option linter.unusedVariables false
set_option linter.unusedSimpArgs false
set_option linter.unnecessarySimpa false
set_option maxRecDepth 100000
namespace Go.Proofs.YtckjdhaflokcgaaGreat
open Go.RowKit Go.Proofs.Tryz
theorem X9:(prog.info? 5).map (·.size)=some 1:=by kernel_rfl
def QK (x k:Nat) (cs:List Value):List Value:=Q2 (List.replicate k x)++cs.drop k
theorem Xa (x:Nat) {k:Nat} {cs:List Value} (h:k<=cs.length):(QK x k cs).length=cs.length:=by
 simp [QK,Q2];omega
theorem Vw (x:Nat) {k m:Nat} {cs:List Value} (h:k+m<=cs.length):(QK x k cs).take k++(Q2 (List.replicate m x)++(QK x k cs).drop (k+(Q2 (List.replicate m x)).length))=QK x (k+m) cs:=by
 (have h1:(Q2 (List.replicate k x)).length=k:=by simp [Q2]);(have h2:(Q2 (List.replicate m x)).length=m:=by simp [Q2]);(have e:Q2 (List.replicate (k+m) x)=Q2 (List.replicate k x)++Q2 (List.replicate m x):=by simp [Q2]);unfold QK;rw [h2,e,List.append_assoc]
 congr 1
 . rw [List.take_append_of_le_length (by omega),List.take_of_length_le (by omega)]
 congr 1
 rw [List.drop_append,List.drop_of_length_le (by omega),List.nil_append,h1,List.drop_drop,show k+(k+m-k)=k+m by omega]
theorem Xb (x:Nat) {k m i:Nat} {cs:List Value} {v:Value} (hm:m<=k) (h:(Q2 (List.replicate m x))[i]?=some v):(QK x k cs)[i]?=some v:=by
 (have hi:i<m:=by have:=(List.getElem?_eq_some_iff.1 h).1;simpa [Q2]using this);unfold QK;rw [List.getElem?_append_left (by simp [Q2];omega)];simp [Q2,hi]at h;simp [Q2,h,show i<k by omega]
theorem Q1h {k n h m cm:Nat} (hh:h=Nat.min k cm) (hm:m=Nat.min h (n-k)) (h1:1<=k) (h2:k<n) (h3:1<=cm):1<=m/\k+m<=n/\m<=k/\h<=k:=by
 have e1:h=min k cm:=hh;have e2:m=min h (n-k):=hm;omega
theorem Q7j (b0 c x n:Nat) (w:World) (hb:Blk w b0 5 #[.int .u8 (x:Nat)]) (hn0:0<n) (hn:n<=131072) :
   Calls prog 125 #[.slice (some ⟨b0,0,none⟩) 1 c,.int .i64 (n:Nat)] w λe w'=>∃A' c',e = .returned (.slice A' n c')/\n<=c'/\Rd w' (λb=>w.heap.size<=b) A' n (Q2 (List.replicate n x))/\Q0 w w':=by
 (have hnI:(n:Int)<=131072:=by omega);(have hnI0:((n:Int) == 0)=false:=by simp;omega);(have hnI1:¬(n:Int)<0:=by omega);(have hnI2:(0:Int)<=n:=by omega);(have hwn:IntKind.u64.wrap (n:Int)=n:=by unfold IntKind.wrap;simp [IntKind.bits];omega);have hwn2:IntKind.i64.wrap (n:Int)=n:=IntWalk.i64_in _ (by omega);have HMU:=hd_ (show ∀W,Calls prog 169 #[.int .u64 1,.int .u64 (n:Nat)] W λe w'=>e = .returned (.tuple #[.int .u64 0,.int .u64 (n:Nat)])/\w'=W from λW=>(bits_Mul 1 n (by decide) (by omega) W).mono λe w' h=>⟨by rw [h.1,Nat.one_mul,Nat.div_eq_of_lt (by omega),Nat.mod_eq_of_lt (by omega)];rfl,h.2⟩);have HB:=hd_ hb;have HN:=hd_ (And.intro hn0 hn);clear hb hn0 hn;refine Q8 λR hR=>?_;go_enter func125,ntmps125;go_wp2_with fail;refine(HMU _).mono ?_;rintro e w1 ⟨rfl,rfl⟩;clear HMU;obtain⟨cs,hrun,hle,hmax⟩:=Lib.run_makeNoZero (P:=prog) w1 #[3] 22 5 underlying22 n (by have:=HN.out;omega)
 have hcall:(callFunc 170 #[.int .i64 (n:Nat)]).run prog w1 = .ok (.value (.slice (some ⟨w1.heap.size,0,none⟩) n cs.size)) (w1.drew.drew.alloc (.cells cs 5)):=by
   rw [run_callFunc_extern func170 (by kernel_rfl) (by kernel_rfl) (by kernel_rfl) (e:=Extern.BytealgMakeNoZero.makeNoZero #[3] #[22]) (by kernel_rfl)];rw [hrun];rfl
 (have hle2:(n:Int)<=cs.size:=by omega);(have hcl:cs.size<=9223372036854775807:=by have:=hmax (by have:=HN.out;simp [maxLen];omega);simpa [maxLen]using this);obtain⟨CS,hCS⟩:=nm_ (cs.size);simp only [<-hCS]at hcall hle2 hcl;have HCS:=hd_ hCS;(have hleN:n<=CS:=by omega);clear hrun hle hmax hCS;by_cases h8:n<=8192
 . have h8I:¬(8192:Int)<n:=by omega
   obtain⟨cm,hcm⟩:=nm_ (n);have HCM:=hd_ (show 1<=cm by have:=HN.out;omega);go_upto_region 17 with fail;obtain⟨G,hG⟩:=nm_ (w1.heap.size);obtain⟨CL,hCL⟩:=nm_ (cs.toList);obtain⟨w2,hw2⟩:=nm_ ((w1.alloc (.cells cs 5)).drew.drew);simp only [<-hG,<-hw2];(have hcl2:CL.length=CS:=by rw [hCL,HCS.out];simp);(have bg:Blk w2 G 5 (QK x 0 CL).toArray:=by rw [hw2];have:=(Qb hG 5 cs).drew.drew;simpa [QK,Q2,hCL]using this);(have f2:Q0 w1 w2:=by rw [hw2];exact((Upd.refl _ _).alloc _).drew.drew);have bs:=HB.fresh f2
   have HSRC:=hd_ (show ∀j v,(Q2 (List.replicate 1 x))[j]?=some v->w2.cell? ((⟨b0,0,none⟩:Addr).add j)=some v from λj v hv=>by
     rw [Addr.add_lit,Nat.zero_add,bs.cell];simpa [Q2]using hv)
   have HLEN:=hd_ (show(Q2 (List.replicate 1 x)).length=Nat.min 1 n*1 by rw [show Nat.min 1 n=1 from Nat.min_eq_left HN.out.1];simp [Q2]);have HFIT:=hd_ (show 0+(Q2 (List.replicate 1 x)).length<=(QK x 0 CL).toArray.size by rw [List.size_toArray,Xa x (by omega),hcl2];have:=HN.out.1;simp [Q2];omega);have HGB:=hd_ (show w2.heap[G]?=some (.cells (QK x 0 CL).toArray 5 (0,0))from bg);have HGG:=hd_ hG;have F2:=hd_ f2;have HCL:=hd_ hcl2;clear hG hCL hw2 bg f2 bs hcl2 hcall;go_wp2_with (with_reducible refine ZD (o:=⟨some 60,_,_,_,_,_⟩) rfl 1 (.tmp 58) (.tmp 59) 22 22 rfl 5 underlying22 X9 G 0 n n ⟨b0,0,none⟩ 1 c rfl rfl (QK x 0 CL).toArray 5 HGB.out (Q2 (List.replicate 1 x)) HLEN.out HSRC.out HFIT.out (Jo (List.replicate 1 x)) ?_);obtain⟨w3,hw3⟩:=nm_ (w2.setRow G ((QK x 0 CL).toArray.toList.take 0++(Q2 (List.replicate 1 x)++(QK x 0 CL).toArray.toList.drop (0+(Q2 (List.replicate 1 x)).length))).toArray)
   have b3:Blk w3 G 5 (QK x 1 CL).toArray:=by
     rw [hw3];have h1:=setRow_heap w2 G _ ((QK x 0 CL).toArray.toList.take 0++(Q2 (List.replicate 1 x)++(QK x 0 CL).toArray.toList.drop (0+(Q2 (List.replicate 1 x)).length))).toArray 5 (0,0) HGB.out;have h2:=Vw x (k:=0) (m:=1) (cs:=CL) (by have:=HN.out;have:=HCL.out;omega);show _=_;rw [h1];simp only [h2]
   have f3:Q0 w1 w3:=F2.trans (T:=λb=>b=G) ⟨by rw [hw3];rfl,by rw [hw3];rfl,by rw [hw3];rfl,by rw [hw3];simp [World.setRow],λk hk hn=>by rw [hw3];exact setRow_other _ _ k _ hn⟩ (λb hb k=>by have:=HGG.out;omega);have hmin:Nat.min 1 n=1:=Nat.min_eq_left HN.1;(have hw3':w2.setRow G (Q2 [x]++(QK x 0 CL).tail).toArray=w3:=by rw [hw3];simp [Q2]);simp only [hmin,hw3'];(have hn0I:0<(n:Int):=by have:=HN.1;omega);have B3:=hd_ b3;have F3:=hd_ f3;clear hw3 hw3' b3 f3 HSRC F2 HGB;go_wp2_with fail;go_loopg [10] (n-1) (λf vk wr=>∃k:Nat,k+f=n/\1<=k/\vk = .int .i64 k/\Blk wr G 5 (QK x k CL).toArray/\Q0 w1 wr)
   case atStart=>exact⟨1,by have:=HN.1;omega,by omega,rfl,B3.out,F3.out⟩
   case round =>
     obtain⟨k,hk,hk1,rfl,bk,fk⟩:=hrel;have BK:=hd_ bk;have FK:=hd_ fk;have HK:=hd_ hk;have HK1:=hd_ hk1;by_cases hlt:k<n
     . have hlI:(k:Int)<n:=by omega
       (have hk1I:(1:Int)<=k:=by omega);(have hkn:¬n=k:=by omega);(have hkle:k<=n:=by omega);have hh:k=Nat.min k n:=(Nat.min_eq_left hkle).symm;obtain⟨m,hm⟩:=nm_ (Nat.min k (n-k));have HM:=hd_ (Q1h hh hm hk1 hlt (by have:=HN.out;omega));(have hminI:min (k:Int) (n:Int)=(k:Nat):=by have e:k=min k n:=hh;omega);(have hhn:k<=n:=by have:=HM.out;omega);(have hhI:(k:Int)<=n:=by omega);(have hh0:(0:Int)<=k:=by omega);have HMM:=hd_ hm;clear bk fk hk hk1 B3 F3 hm hh;go_upto_region 20 with fail
       have HSRC:=hd_ (show ∀W,Blk W G 5 (QK x k CL).toArray->∀j v,(Q2 (List.replicate m x))[j]?=some v->W.cell? ((⟨G,0,none⟩:Addr).add j)=some v from λW hB j v hv=>by
         have hmk:m<=k:=HM.2.2.1;rw [Addr.add_lit,Nat.zero_add,hB.cell];have:=Xb x (cs:=CL) hmk hv
         simpa using this)
       have HLEN:=hd_ (show(Q2 (List.replicate m x)).length=m*1 by simp [Q2]);have HFIT:=hd_ (show k+(Q2 (List.replicate m x)).length<=(QK x k CL).toArray.size by rw [List.size_toArray,Xa x (by have:=HCL.out;omega),HCL.out];have:=HM.out;simp [Q2];omega)
       have HROW:=hd_ (show ∀W,Blk W G 5 (QK x k CL).toArray->Blk (W.setRow G ((QK x k CL).toArray.toList.take k++(Q2 (List.replicate m x)++(QK x k CL).toArray.toList.drop (k+(Q2 (List.replicate m x)).length))).toArray) G 5 (QK x (k+m) CL).toArray from λW hB=>by
         have h1:=setRow_heap W G _ ((QK x k CL).toArray.toList.take k++(Q2 (List.replicate m x)++(QK x k CL).toArray.toList.drop (k+(Q2 (List.replicate m x)).length))).toArray 5 (0,0) hB;have h2:=Vw x (k:=k) (m:=m) (cs:=CL) (by have:=HM.out;have:=HCL.out;omega);show _=_;rw [h1]
         simp only [h2])
       have HSET:=hd_ (show ∀(W:World) (cs:Array Value),Upd (λb=>b=G) W (W.setRow G cs)from λW cs=>⟨rfl,rfl,rfl,by simp [World.setRow],λk hk hn=>setRow_other _ _ k _ hn⟩);(have hwa:IntKind.i64.wrap ((k:Int)+m)=((k+m:Nat):Int):=by have:=HM.out;have:=HN.out;rw [IntWalk.i64_in _ (by omega)];omega);obtain⟨Cw,cEq⟩:=exC (λW=>Q0 w1 W);obtain⟨Y,yA⟩:=exY [λxs W=>(xs 0) = .int .i64 (k:Nat),λxs W=>(xs 1) = .slice (some ⟨G,0,none⟩) n n,λxs W=>(xs 2) = .int .i64 (k:Nat),λxs W=>(xs 3) = .slice (some ⟨G,k,none⟩) (n-k) (n-k),λxs W=>(xs 4) = .slice (some ⟨G,0,none⟩) n n,λxs W=>(xs 5) = .int .i64 (k:Nat),λxs W=>(xs 6) = .slice (some ⟨G,0,none⟩) k n,λxs W=>(xs 7) = .int .i64 (m:Nat)/\Blk W G 5 (QK x (k+m) CL).toArray,λxs W=>(xs 8) = .int .i64 ((k+m:Nat):Int),λxs W=>(xs 9) = .int .i64 ((k+m:Nat):Int),λxs W=>Blk W G 5 (QK x k CL).toArray];have yf0:=yA 0;have yf1:=yA 1;have yf2:=yA 2;have yf3:=yA 3;have yf4:=yA 4;have yf5:=yA 5;have yf6:=yA 6;have yf7:=yA 7;have yf8:=yA 8;have yf9:=yA 9;have yf10:=yA 10;simp only [List.getD_cons_zero,List.getD_cons_succ]at yf0 yf1 yf2 yf3 yf4 yf5 yf6 yf7 yf8 yf9 yf10;(have yN:∀j xs W,11<=j->Y j xs W=True:=λj xs W hj=>by rw [yA,Y6 _ _ _ hj])
       have yP:∀j xs W W',j∈[0,1,2,3,4,5,6,8,9]->Y j xs W->Y j xs W':=by
         intro j xs W W' hj hy;simp only [List.mem_cons,List.not_mem_nil,or_false]at hj;(rcases hj with rfl|rfl|rfl|rfl|rfl|rfl|rfl|rfl|rfl<;>(rw [yA]at hy|-;exact hy))
       have yM:Jt [[0],[1],[2],[3],[4],[5],[6],[7],[8],[9],[]] Y:=by
         intro j xs xs' W hh hy;by_cases hj:11<=j
         . rw [yN j _ _ hj];trivial
         (have hj':j=0\/j=1\/j=2\/j=3\/j=4\/j=5\/j=6\/j=7\/j=8\/j=9\/j=10:=by omega);rcases hj' with rfl|rfl|rfl|rfl|rfl|rfl|rfl|rfl|rfl|rfl|rfl;(all_goals(rw [yA]at hy|-;(try simp only [List.getD_cons_zero,List.getD_cons_succ]at hy|-);repeat rw [<-hh]));(all_goals first|exact hy|decide)
       clear yA
       have yR:∀j xs,10<=j->Y j xs (wr.drew):=by
         intro j xs hj;rcases(show j=10\/11<=j by omega)with rfl|hj
         . rw [yf10];exact BK.drew
         rw [yN _ _ _ hj];trivial
       refine Ya Cw (λj=>if j=10 then [7]else []) Y [(0,some 67),(1,some 68),(2,some 69),(3,some 70),(4,some 71),(5,some 72),(6,some 73),(7,some 74),(8,some 75),(9,some 10)] (by kernel_rfl) (by kernel_rfl) (by kernel_rfl) (by rw [cEq];exact FK.drew) (λj hj=>yR j _ hj) ?_ ?_
       . refine Q9.p cEq yM [] (by kernel_rfl) (by kernel_rfl) (λxs W hw hd K hK'=>?_) ?_
         . simp only [Q5,Act.put,sb_,sz_,ss_]at hK'|-
           go_simp;exact hK' _ (by rw [yf0];exact if_pos rfl)
         refine Q9.p cEq yM [] (by kernel_rfl) (by kernel_rfl) (λxs W hw hd K hK'=>?_) ?_
         . simp only [Q5,Act.put,sb_,sz_,ss_]at hK'|-
           go_simp;exact hK' _ (by rw [yf1];exact if_pos rfl)
         refine Q9.p cEq yM [] (by kernel_rfl) (by kernel_rfl) (λxs W hw hd K hK'=>?_) ?_
         . simp only [Q5,Act.put,sb_,sz_,ss_]at hK'|-
           go_simp;exact hK' _ (by rw [yf2];exact if_pos rfl)
         refine Q9.p cEq yM [(1,some 68),(2,some 69)] (by kernel_rfl) (by kernel_rfl) (λxs W hw hd K hK'=>?_) ?_
         . simp only [Qd]at hd
           obtain⟨hf1,hf2,_⟩:=hd;simp only [Q5,Act.put,sb_,sz_,ss_]at hK'|-;rw [yf1]at hf1;rw [yf2]at hf2;simp only [hf1,hf2]at hK'|-;go_simp;exact hK' _ (by rw [yf3];exact if_pos rfl)
         refine Q9.p cEq yM [] (by kernel_rfl) (by kernel_rfl) (λxs W hw hd K hK'=>?_) ?_
         . simp only [Q5,Act.put,sb_,sz_,ss_]at hK'|-
           go_simp;exact hK' _ (by rw [yf4];exact if_pos rfl)
         refine Q9.p cEq yM [] (by kernel_rfl) (by kernel_rfl) (λxs W hw hd K hK'=>?_) ?_
         . simp only [Q5,Act.put,sb_,sz_,ss_]at hK'|-
           go_simp;exact hK' _ (by rw [yf5];exact if_pos rfl)
         refine Q9.p cEq yM [(4,some 71),(5,some 72)] (by kernel_rfl) (by kernel_rfl) (λxs W hw hd K hK'=>?_) ?_
         . simp only [Qd]at hd
           obtain⟨hf4,hf5,_⟩:=hd;simp only [Q5,Act.put,sb_,sz_,ss_]at hK'|-;rw [yf4]at hf4;rw [yf5]at hf5;simp only [hf4,hf5]at hK'|-;go_simp;exact hK' _ (by rw [yf6];exact if_pos rfl)
         refine Q9.c cEq [(3,some 70),(6,some 73),(10,none)] (by kernel_rfl) (λxs W hw hd K hK'=>?_) ?_
         . simp only [Qd]at hd
           obtain⟨hf3,hf6,hf10,_⟩:=hd;simp only [Q5,Act.put,sb_,sz_,ss_]at hK'|-;rw [yf3]at hf3;rw [yf6]at hf6;rw [yf10]at hf10;simp only [hf3,hf6]at hK'|-;rw [if_pos (by rfl)];refine Vf 1 (.tmp 70) (.tmp 73) 22 22 rfl 5 underlying22 X9 G k (n-k) (n-k) ⟨G,0,none⟩ k n rfl rfl (QK x k CL).toArray 5 hf10 (Q2 (List.replicate m x)) m HMM.out HLEN.out (HSRC W hf10) HFIT.out (Jo (List.replicate m x)) ?_;have hB:=HROW W hf10;have hR:=trivial;refine hK' (_) (_) (hw.trans (HSET W _) (λb hb k=>by have:=HGG.out;omega)) (QW yM 7 (by kernel_rfl) _ λj hs hy=>?_) (by rw [yf7];(try simp only [↓reduceIte]);try exact⟨rfl,hB⟩);by_cases hp:j∈[0,1,2,3,4,5,6,8,9]
           . exact yP j _ _ _ hp hy
           by_cases hj:11<=j
           . rw [yN j _ _ hj];trivial
           simp only [List.mem_cons,List.not_mem_nil,or_false]at hp;rcases(show j=7\/j=10 by omega)with rfl|rfl
           . exact(Qg hs (by kernel_rfl)).elim
           exact(Qg hs (by kernel_rfl)).elim
         refine Q9.p cEq yM [(0,some 67),(7,some 74)] (by kernel_rfl) (by kernel_rfl) (λxs W hw hd K hK'=>?_) ?_
         . simp only [Qd]at hd
           obtain⟨hf0,hf7,_⟩:=hd;simp only [Q5,Act.put,sb_,sz_,ss_]at hK'|-;rw [yf0]at hf0;rw [yf7]at hf7;simp only [hf0]at hK'|-;obtain⟨h7e,b7⟩:=hf7;simp only [h7e]at hK'|-;go_simp;exact hK' _ (by rw [yf8];exact if_pos rfl)
         refine Q9.p cEq yM [(8,some 75)] (by kernel_rfl) (by kernel_rfl) (λxs W hw hd K hK'=>?_) ?_
         . simp only [Qd]at hd
           obtain⟨hf8,_⟩:=hd;simp only [Q5,Act.put,sb_,sz_,ss_]at hK'|-;rw [yf8]at hf8;simp only [hf8]at hK'|-;go_simp;exact hK' _ (by rw [yf9];exact if_pos rfl)
         exact Q9.nil
       intro xs W hw hd;rw [cEq]at hw;simp only [YD]at hd;obtain⟨fe0,fe1,fe2,fe3,fe4,fe5,fe6,fe7,fe8,fe9,_⟩:=hd;have fe0:=fe0 (by first|kernel_rfl|trivial);rw [yf0]at fe0;have fe1:=fe1 (by first|kernel_rfl|trivial);rw [yf1]at fe1;have fe2:=fe2 (by first|kernel_rfl|trivial);rw [yf2]at fe2;have fe3:=fe3 (by first|kernel_rfl|trivial);rw [yf3]at fe3;have fe4:=fe4 (by first|kernel_rfl|trivial);rw [yf4]at fe4;have fe5:=fe5 (by first|kernel_rfl|trivial);rw [yf5]at fe5;have fe6:=fe6 (by first|kernel_rfl|trivial);rw [yf6]at fe6;have fe7:=fe7 (by first|kernel_rfl|trivial);rw [yf7]at fe7;have fe8:=fe8 (by first|kernel_rfl|trivial);rw [yf8]at fe8;have fe9:=fe9 (by first|kernel_rfl|trivial);rw [yf9]at fe9;simp only [Q5,Act.put,sb_,sz_,ss_];generalize xs 0=xv0 at *;generalize xs 1=xv1 at *;generalize xs 2=xv2 at *;generalize xs 3=xv3 at *;generalize xs 4=xv4 at *;generalize xs 5=xv5 at *;generalize xs 6=xv6 at *;generalize xs 7=xv7 at *;generalize xs 8=xv8 at *;generalize xs 9=xv9 at *;subst fe0;subst fe1;subst fe2;subst fe3;subst fe4;subst fe5;subst fe6;subst fe8;subst fe9;clear yf0 yf1 yf2 yf3 yf4 yf5 yf6 yf7 yf8 yf9 yf10 yN yR yM yP cEq;go_wp2_with fail;go_roundg (n-(k+m))
       case measure=>have:=HM.out;have:=HK.out;omega
       case rel=>exact⟨k+m,by have:=HM.out;omega,by have:=HM.out;omega,rfl,fe7.2,hw⟩
     (obtain rfl:k=n:=by omega);clear bk fk hk hk1 B3 F3;go_wp2_with fail;(try go_ret);refine hR.out _ _ ⟨some ⟨G,0,none⟩,k,rfl,Nat.le_refl _,⟨by simp [Q2],λ_=>⟨G,0,rfl,by have:=HGG.out;omega,BK.lt,λj hj=>?_⟩⟩,FK.out⟩;rw [BK.cell,Nat.zero_add];(have h1:(Q2 (List.replicate k x))[j]?=some (.int .u8 (x:Nat)):=by simp [Q2,hj]);rw [h1];have:=Xb x (cs:=CL) (Nat.le_refl k) h1;simpa using this
 (have h8I:(8192:Int)<n:=by omega);obtain⟨cm,hcm⟩:=nm_ (8192);have HCM:=hd_ (show 1<=cm by omega);go_upto_region 17 with fail;obtain⟨G,hG⟩:=nm_ (w1.heap.size);obtain⟨CL,hCL⟩:=nm_ (cs.toList);obtain⟨w2,hw2⟩:=nm_ ((w1.alloc (.cells cs 5)).drew.drew);simp only [<-hG,<-hw2];(have hcl2:CL.length=CS:=by rw [hCL,HCS.out];simp);(have bg:Blk w2 G 5 (QK x 0 CL).toArray:=by rw [hw2];have:=(Qb hG 5 cs).drew.drew;simpa [QK,Q2,hCL]using this);(have f2:Q0 w1 w2:=by rw [hw2];exact((Upd.refl _ _).alloc _).drew.drew);have bs:=HB.fresh f2
 have HSRC:=hd_ (show ∀j v,(Q2 (List.replicate 1 x))[j]?=some v->w2.cell? ((⟨b0,0,none⟩:Addr).add j)=some v from λj v hv=>by
   rw [Addr.add_lit,Nat.zero_add,bs.cell];simpa [Q2]using hv)
 have HLEN:=hd_ (show(Q2 (List.replicate 1 x)).length=Nat.min 1 n*1 by rw [show Nat.min 1 n=1 from Nat.min_eq_left HN.out.1];simp [Q2]);have HFIT:=hd_ (show 0+(Q2 (List.replicate 1 x)).length<=(QK x 0 CL).toArray.size by rw [List.size_toArray,Xa x (by omega),hcl2];have:=HN.out.1;simp [Q2];omega);have HGB:=hd_ (show w2.heap[G]?=some (.cells (QK x 0 CL).toArray 5 (0,0))from bg);have HGG:=hd_ hG;have F2:=hd_ f2;have HCL:=hd_ hcl2;clear hG hCL hw2 bg f2 bs hcl2 hcall;go_wp2_with (with_reducible refine ZD (o:=⟨some 60,_,_,_,_,_⟩) rfl 1 (.tmp 58) (.tmp 59) 22 22 rfl 5 underlying22 X9 G 0 n n ⟨b0,0,none⟩ 1 c rfl rfl (QK x 0 CL).toArray 5 HGB.out (Q2 (List.replicate 1 x)) HLEN.out HSRC.out HFIT.out (Jo (List.replicate 1 x)) ?_);obtain⟨w3,hw3⟩:=nm_ (w2.setRow G ((QK x 0 CL).toArray.toList.take 0++(Q2 (List.replicate 1 x)++(QK x 0 CL).toArray.toList.drop (0+(Q2 (List.replicate 1 x)).length))).toArray)
 have b3:Blk w3 G 5 (QK x 1 CL).toArray:=by
   rw [hw3];have h1:=setRow_heap w2 G _ ((QK x 0 CL).toArray.toList.take 0++(Q2 (List.replicate 1 x)++(QK x 0 CL).toArray.toList.drop (0+(Q2 (List.replicate 1 x)).length))).toArray 5 (0,0) HGB.out;have h2:=Vw x (k:=0) (m:=1) (cs:=CL) (by have:=HN.out;have:=HCL.out;omega);show _=_;rw [h1];simp only [h2]
 have f3:Q0 w1 w3:=F2.trans (T:=λb=>b=G) ⟨by rw [hw3];rfl,by rw [hw3];rfl,by rw [hw3];rfl,by rw [hw3];simp [World.setRow],λk hk hn=>by rw [hw3];exact setRow_other _ _ k _ hn⟩ (λb hb h=>by have:=HGG.out;omega);have hmin:Nat.min 1 n=1:=Nat.min_eq_left HN.1;(have hw3':w2.setRow G (Q2 [x]++(QK x 0 CL).tail).toArray=w3:=by rw [hw3];simp [Q2]);simp only [hmin,hw3'];(have hn0I:0<(n:Int):=by have:=HN.1;omega);have B3:=hd_ b3;have F3:=hd_ f3;clear hw3 hw3' b3 f3 HSRC F2 HGB;go_wp2_with fail;go_loopg [10] (n-1) (λf vk wr=>∃k:Nat,k+f=n/\1<=k/\vk = .int .i64 k/\Blk wr G 5 (QK x k CL).toArray/\Q0 w1 wr)
 case atStart=>exact⟨1,by have:=HN.1;omega,by omega,rfl,B3.out,F3.out⟩
 case round =>
   obtain⟨k,hk,hk1,rfl,bk,fk⟩:=hrel;have BK:=hd_ bk;have FK:=hd_ fk;have HK:=hd_ hk;have HK1:=hd_ hk1;by_cases hlt:k<n
   . have hlI:(k:Int)<n:=by omega
     (have hk1I:(1:Int)<=k:=by omega);(have hkn:¬n=k:=by omega);(have hkle:k<=n:=by omega);obtain⟨h,hh⟩:=nm_ (Nat.min k 8192);obtain⟨m,hm⟩:=nm_ (Nat.min h (n-k));have HM:=hd_ (Q1h hh hm hk1 hlt (by have:=HN.out;omega));(have hminI:min (k:Int) 8192=(h:Nat):=by have e:h=min k 8192:=hh;omega);(have hhn:h<=n:=by have:=HM.out;omega);(have hhI:(h:Int)<=n:=by omega);(have hh0:(0:Int)<=h:=by omega);have HMM:=hd_ hm;clear bk fk hk hk1 B3 F3 hm hh;go_upto_region 20 with fail
     have HSRC:=hd_ (show ∀W,Blk W G 5 (QK x k CL).toArray->∀j v,(Q2 (List.replicate m x))[j]?=some v->W.cell? ((⟨G,0,none⟩:Addr).add j)=some v from λW hB j v hv=>by
       have hmk:m<=k:=HM.2.2.1;rw [Addr.add_lit,Nat.zero_add,hB.cell];have:=Xb x (cs:=CL) hmk hv
       simpa using this)
     have HLEN:=hd_ (show(Q2 (List.replicate m x)).length=m*1 by simp [Q2]);have HFIT:=hd_ (show k+(Q2 (List.replicate m x)).length<=(QK x k CL).toArray.size by rw [List.size_toArray,Xa x (by have:=HCL.out;omega),HCL.out];have:=HM.out;simp [Q2];omega)
     have HROW:=hd_ (show ∀W,Blk W G 5 (QK x k CL).toArray->Blk (W.setRow G ((QK x k CL).toArray.toList.take k++(Q2 (List.replicate m x)++(QK x k CL).toArray.toList.drop (k+(Q2 (List.replicate m x)).length))).toArray) G 5 (QK x (k+m) CL).toArray from λW hB=>by
       have h1:=setRow_heap W G _ ((QK x k CL).toArray.toList.take k++(Q2 (List.replicate m x)++(QK x k CL).toArray.toList.drop (k+(Q2 (List.replicate m x)).length))).toArray 5 (0,0) hB;have h2:=Vw x (k:=k) (m:=m) (cs:=CL) (by have:=HM.out;have:=HCL.out;omega);show _=_;rw [h1]
       simp only [h2])
     have HSET:=hd_ (show ∀(W:World) (cs:Array Value),Upd (λb=>b=G) W (W.setRow G cs)from λW cs=>⟨rfl,rfl,rfl,by simp [World.setRow],λk hk hn=>setRow_other _ _ k _ hn⟩);(have hwa:IntKind.i64.wrap ((k:Int)+m)=((k+m:Nat):Int):=by have:=HM.out;have:=HN.out;rw [IntWalk.i64_in _ (by omega)];omega);obtain⟨Cw,cEq⟩:=exC (λW=>Q0 w1 W);obtain⟨Y,yA⟩:=exY [λxs W=>(xs 0) = .int .i64 (k:Nat),λxs W=>(xs 1) = .slice (some ⟨G,0,none⟩) n n,λxs W=>(xs 2) = .int .i64 (k:Nat),λxs W=>(xs 3) = .slice (some ⟨G,k,none⟩) (n-k) (n-k),λxs W=>(xs 4) = .slice (some ⟨G,0,none⟩) n n,λxs W=>(xs 5) = .int .i64 (h:Nat),λxs W=>(xs 6) = .slice (some ⟨G,0,none⟩) h n,λxs W=>(xs 7) = .int .i64 (m:Nat)/\Blk W G 5 (QK x (k+m) CL).toArray,λxs W=>(xs 8) = .int .i64 ((k+m:Nat):Int),λxs W=>(xs 9) = .int .i64 ((k+m:Nat):Int),λxs W=>Blk W G 5 (QK x k CL).toArray];have yf0:=yA 0;have yf1:=yA 1;have yf2:=yA 2;have yf3:=yA 3;have yf4:=yA 4;have yf5:=yA 5;have yf6:=yA 6;have yf7:=yA 7;have yf8:=yA 8;have yf9:=yA 9;have yf10:=yA 10;simp only [List.getD_cons_zero,List.getD_cons_succ]at yf0 yf1 yf2 yf3 yf4 yf5 yf6 yf7 yf8 yf9 yf10;(have yN:∀j xs W,11<=j->Y j xs W=True:=λj xs W hj=>by rw [yA,Y6 _ _ _ hj])
     have yP:∀j xs W W',j∈[0,1,2,3,4,5,6,8,9]->Y j xs W->Y j xs W':=by
       intro j xs W W' hj hy;simp only [List.mem_cons,List.not_mem_nil,or_false]at hj;(rcases hj with rfl|rfl|rfl|rfl|rfl|rfl|rfl|rfl|rfl<;>(rw [yA]at hy|-;exact hy))
     have yM:Jt [[0],[1],[2],[3],[4],[5],[6],[7],[8],[9],[]] Y:=by
       intro j xs xs' W hh hy;by_cases hj:11<=j
       . rw [yN j _ _ hj];trivial
       (have hj':j=0\/j=1\/j=2\/j=3\/j=4\/j=5\/j=6\/j=7\/j=8\/j=9\/j=10:=by omega);rcases hj' with rfl|rfl|rfl|rfl|rfl|rfl|rfl|rfl|rfl|rfl|rfl;(all_goals(rw [yA]at hy|-;(try simp only [List.getD_cons_zero,List.getD_cons_succ]at hy|-);repeat rw [<-hh]));(all_goals first|exact hy|decide)
     clear yA
     have yR:∀j xs,10<=j->Y j xs (wr.drew):=by
       intro j xs hj;rcases(show j=10\/11<=j by omega)with rfl|hj
       . rw [yf10];exact BK.drew
       rw [yN _ _ _ hj];trivial
     refine Ya Cw (λj=>if j=10 then [7]else []) Y [(0,some 67),(1,some 68),(2,some 69),(3,some 70),(4,some 71),(5,some 72),(6,some 73),(7,some 74),(8,some 75),(9,some 10)] (by kernel_rfl) (by kernel_rfl) (by kernel_rfl) (by rw [cEq];exact FK.drew) (λj hj=>yR j _ hj) ?_ ?_
     . refine Q9.p cEq yM [] (by kernel_rfl) (by kernel_rfl) (λxs W hw hd K hK'=>?_) ?_
       . simp only [Q5,Act.put,sb_,sz_,ss_]at hK'|-
         go_simp;exact hK' _ (by rw [yf0];exact if_pos rfl)
       refine Q9.p cEq yM [] (by kernel_rfl) (by kernel_rfl) (λxs W hw hd K hK'=>?_) ?_
       . simp only [Q5,Act.put,sb_,sz_,ss_]at hK'|-
         go_simp;exact hK' _ (by rw [yf1];exact if_pos rfl)
       refine Q9.p cEq yM [] (by kernel_rfl) (by kernel_rfl) (λxs W hw hd K hK'=>?_) ?_
       . simp only [Q5,Act.put,sb_,sz_,ss_]at hK'|-
         go_simp;exact hK' _ (by rw [yf2];exact if_pos rfl)
       refine Q9.p cEq yM [(1,some 68),(2,some 69)] (by kernel_rfl) (by kernel_rfl) (λxs W hw hd K hK'=>?_) ?_
       . simp only [Qd]at hd
         obtain⟨hf1,hf2,_⟩:=hd;simp only [Q5,Act.put,sb_,sz_,ss_]at hK'|-;rw [yf1]at hf1;rw [yf2]at hf2;simp only [hf1,hf2]at hK'|-;go_simp;exact hK' _ (by rw [yf3];exact if_pos rfl)
       refine Q9.p cEq yM [] (by kernel_rfl) (by kernel_rfl) (λxs W hw hd K hK'=>?_) ?_
       . simp only [Q5,Act.put,sb_,sz_,ss_]at hK'|-
         go_simp;exact hK' _ (by rw [yf4];exact if_pos rfl)
       refine Q9.p cEq yM [] (by kernel_rfl) (by kernel_rfl) (λxs W hw hd K hK'=>?_) ?_
       . simp only [Q5,Act.put,sb_,sz_,ss_]at hK'|-
         go_simp;exact hK' _ (by rw [yf5];exact if_pos rfl)
       refine Q9.p cEq yM [(4,some 71),(5,some 72)] (by kernel_rfl) (by kernel_rfl) (λxs W hw hd K hK'=>?_) ?_
       . simp only [Qd]at hd
         obtain⟨hf4,hf5,_⟩:=hd;simp only [Q5,Act.put,sb_,sz_,ss_]at hK'|-;rw [yf4]at hf4;rw [yf5]at hf5;simp only [hf4,hf5]at hK'|-;go_simp;exact hK' _ (by rw [yf6];exact if_pos rfl)
       refine Q9.c cEq [(3,some 70),(6,some 73),(10,none)] (by kernel_rfl) (λxs W hw hd K hK'=>?_) ?_
       . simp only [Qd]at hd
         obtain⟨hf3,hf6,hf10,_⟩:=hd;simp only [Q5,Act.put,sb_,sz_,ss_]at hK'|-;rw [yf3]at hf3;rw [yf6]at hf6;rw [yf10]at hf10;simp only [hf3,hf6]at hK'|-;rw [if_pos (by rfl)];refine Vf 1 (.tmp 70) (.tmp 73) 22 22 rfl 5 underlying22 X9 G k (n-k) (n-k) ⟨G,0,none⟩ h n rfl rfl (QK x k CL).toArray 5 hf10 (Q2 (List.replicate m x)) m HMM.out HLEN.out (HSRC W hf10) HFIT.out (Jo (List.replicate m x)) ?_;have hB:=HROW W hf10;have hR:=trivial;refine hK' (_) (_) (hw.trans (HSET W _) (λb hb h=>by have:=HGG.out;omega)) (QW yM 7 (by kernel_rfl) _ λj hs hy=>?_) (by rw [yf7];(try simp only [↓reduceIte]);try exact⟨rfl,hB⟩);by_cases hp:j∈[0,1,2,3,4,5,6,8,9]
         . exact yP j _ _ _ hp hy
         by_cases hj:11<=j
         . rw [yN j _ _ hj];trivial
         simp only [List.mem_cons,List.not_mem_nil,or_false]at hp;rcases(show j=7\/j=10 by omega)with rfl|rfl
         . exact(Qg hs (by kernel_rfl)).elim
         exact(Qg hs (by kernel_rfl)).elim
       refine Q9.p cEq yM [(0,some 67),(7,some 74)] (by kernel_rfl) (by kernel_rfl) (λxs W hw hd K hK'=>?_) ?_
       . simp only [Qd]at hd
         obtain⟨hf0,hf7,_⟩:=hd;simp only [Q5,Act.put,sb_,sz_,ss_]at hK'|-;rw [yf0]at hf0;rw [yf7]at hf7;simp only [hf0]at hK'|-;obtain⟨h7e,b7⟩:=hf7;simp only [h7e]at hK'|-;go_simp;exact hK' _ (by rw [yf8];exact if_pos rfl)
       refine Q9.p cEq yM [(8,some 75)] (by kernel_rfl) (by kernel_rfl) (λxs W hw hd K hK'=>?_) ?_
       . simp only [Qd]at hd
         obtain⟨hf8,_⟩:=hd;simp only [Q5,Act.put,sb_,sz_,ss_]at hK'|-;rw [yf8]at hf8;simp only [hf8]at hK'|-;go_simp;exact hK' _ (by rw [yf9];exact if_pos rfl)
       exact Q9.nil
     intro xs W hw hd;rw [cEq]at hw;simp only [YD]at hd;obtain⟨fe0,fe1,fe2,fe3,fe4,fe5,fe6,fe7,fe8,fe9,_⟩:=hd;have fe0:=fe0 (by first|kernel_rfl|trivial);rw [yf0]at fe0;have fe1:=fe1 (by first|kernel_rfl|trivial);rw [yf1]at fe1;have fe2:=fe2 (by first|kernel_rfl|trivial);rw [yf2]at fe2;have fe3:=fe3 (by first|kernel_rfl|trivial);rw [yf3]at fe3;have fe4:=fe4 (by first|kernel_rfl|trivial);rw [yf4]at fe4;have fe5:=fe5 (by first|kernel_rfl|trivial);rw [yf5]at fe5;have fe6:=fe6 (by first|kernel_rfl|trivial);rw [yf6]at fe6;have fe7:=fe7 (by first|kernel_rfl|trivial);rw [yf7]at fe7;have fe8:=fe8 (by first|kernel_rfl|trivial);rw [yf8]at fe8;have fe9:=fe9 (by first|kernel_rfl|trivial);rw [yf9]at fe9;simp only [Q5,Act.put,sb_,sz_,ss_];generalize xs 0=xv0 at *;generalize xs 1=xv1 at *;generalize xs 2=xv2 at *;generalize xs 3=xv3 at *;generalize xs 4=xv4 at *;generalize xs 5=xv5 at *;generalize xs 6=xv6 at *;generalize xs 7=xv7 at *;generalize xs 8=xv8 at *;generalize xs 9=xv9 at *;subst fe0;subst fe1;subst fe2;subst fe3;subst fe4;subst fe5;subst fe6;subst fe8;subst fe9;clear yf0 yf1 yf2 yf3 yf4 yf5 yf6 yf7 yf8 yf9 yf10 yN yR yM yP cEq;go_wp2_with fail;go_roundg (n-(k+m))
     case measure=>have:=HM.out;have:=HK.out;omega
     case rel=>exact⟨k+m,by have:=HM.out;omega,by have:=HM.out;omega,rfl,fe7.2,hw⟩
   (obtain rfl:k=n:=by omega);clear bk fk hk hk1 B3 F3;go_wp2_with fail;(try go_ret);refine hR.out _ _ ⟨some ⟨G,0,none⟩,k,rfl,Nat.le_refl _,⟨by simp [Q2],λ_=>⟨G,0,rfl,by have:=HGG.out;omega,BK.lt,λj hj=>?_⟩⟩,FK.out⟩;rw [BK.cell,Nat.zero_add];(have h1:(Q2 (List.replicate k x))[j]?=some (.int .u8 (x:Nat)):=by simp [Q2,hj]);rw [h1];have:=Xb x (cs:=CL) (Nat.le_refl k) h1;simpa using this
theorem Q2p (cf:Nat) (caps:Array Value) (w:World) (hcf:∀args W,(callFunc cf args).run prog W = .ok (.enter cf args) W) (Q:Value->World->Prop)
   (HC:Calls prog cf caps w λe w'=>∃v,e = .returned (.tuple #[v,.int .i64 0])/\Q v w') :
   Calls prog 123 #[.func (.func cf) #[] caps] w λe w'=>∃v w1,e = .returned v/\Q v w1/\Q0 w1 w':=by
 have HCL:=hd_ HC;clear HC;refine Q8 λR hR=>?_;go_enter func123,ntmps123;go_wp2_with fail;refine HCL.mono ?_;rintro e w1 ⟨v,rfl,q1⟩;have Q1:=hd_ q1;clear q1 HCL;go_wp2_with fail;refine(Yv _ _ _ (by simpa using(Blk.new w1 24 #[.int .i64 0]).cell 0)).mono ?_;rintro e w2 ⟨rfl,rfl⟩;go_wp2_with fail;(try go_ret);exact hR _ _ ⟨v,w1,rfl,Q1.out,(Upd.refl _ _).alloc _⟩
theorem Q2q (cf:Nat) (caps:Array Value) (er:Int) (w:World) (hcf:∀args W,(callFunc cf args).run prog W = .ok (.enter cf args) W) (Q:World->Prop) (her:er≠0)
   (HC:Calls prog cf caps w λe w'=>∃v,e = .returned (.tuple #[v,.int .i64 er])/\Q w') :
   Calls prog 123 #[.func (.func cf) #[] caps] w λe w'=>∃w1,e=Qa er/\Q w1/\Q0 w1 w':=by
 have HCL:=hd_ HC;have HER:=hd_ her;clear HC her;refine Q8 λR hR=>?_;go_enter func123,ntmps123;go_wp2_with fail;refine HCL.mono ?_;rintro e w1 ⟨v,rfl,q1⟩;have Q1:=hd_ q1;clear q1 HCL;go_wp2_with fail;refine(Je er _ _ _ (by simpa using(Blk.new w1 24 #[.int .i64 er]).cell 0) HER.out).mono ?_;rintro e w2 ⟨rfl,rfl⟩;simp only [Qa];exact⟨rfl,hR _ _ ⟨w1,rfl,Q1.out,(Upd.refl _ _).alloc _⟩⟩
theorem Q7k (cf:Nat) (caps:Array Value) (w:World) (hcf:∀args W,(callFunc cf args).run prog W = .ok (.enter cf args) W) (Q:Value->World->Prop)
   (HC:Calls prog cf caps w λe w'=>∃v,e = .returned (.tuple #[v,.int .i64 0])/\Q v w') :
   Calls prog 127 #[.func (.func cf) #[] caps] w λe w'=>∃v w1,e = .returned v/\Q v w1/\Q0 w1 w':=by
 have HCL:=hd_ HC;clear HC;refine Q8 λR hR=>?_;go_enter func127,ntmps127;go_wp2_with fail;refine HCL.mono ?_;rintro e w1 ⟨v,rfl,q1⟩;have Q1:=hd_ q1;clear q1 HCL;go_wp2_with fail;refine(Yv _ _ _ (by simpa using(Blk.new w1 24 #[.int .i64 0]).cell 0)).mono ?_;rintro e w2 ⟨rfl,rfl⟩;go_wp2_with fail;(try go_ret);exact hR _ _ ⟨v,w1,rfl,Q1.out,(Upd.refl _ _).alloc _⟩
theorem Q7l (cf:Nat) (caps:Array Value) (er:Int) (w:World) (hcf:∀args W,(callFunc cf args).run prog W = .ok (.enter cf args) W) (Q:World->Prop) (her:er≠0)
   (HC:Calls prog cf caps w λe w'=>∃v,e = .returned (.tuple #[v,.int .i64 er])/\Q w') :
   Calls prog 127 #[.func (.func cf) #[] caps] w λe w'=>∃w1,e=Qa er/\Q w1/\Q0 w1 w':=by
 have HCL:=hd_ HC;have HER:=hd_ her;clear HC her;refine Q8 λR hR=>?_;go_enter func127,ntmps127;go_wp2_with fail;refine HCL.mono ?_;rintro e w1 ⟨v,rfl,q1⟩;have Q1:=hd_ q1;clear q1 HCL;go_wp2_with fail;refine(Je er _ _ _ (by simpa using(Blk.new w1 24 #[.int .i64 er]).cell 0) HER.out).mono ?_;rintro e w2 ⟨rfl,rfl⟩;simp only [Qa];exact⟨rfl,hR _ _ ⟨w1,rfl,Q1.out,(Upd.refl _ _).alloc _⟩⟩
theorem Q7m (cf:Nat) (caps:Array Value) (w:World) (hcf:∀args W,(callFunc cf args).run prog W = .ok (.enter cf args) W) (Q:Value->World->Prop)
   (HC:Calls prog cf caps w λe w'=>∃v,e = .returned (.tuple #[v,.int .i64 0])/\Q v w') :
   Calls prog 171 #[.func (.func cf) #[] caps] w λe w'=>∃v w1,e = .returned v/\Q v w1/\Q0 w1 w':=by
 have HCL:=hd_ HC;clear HC;refine Q8 λR hR=>?_;go_enter func171,ntmps171;go_wp2_with fail;refine HCL.mono ?_;rintro e w1 ⟨v,rfl,q1⟩;have Q1:=hd_ q1;clear q1 HCL;go_wp2_with fail;refine(Yv _ _ _ (by simpa using(Blk.new w1 24 #[.int .i64 0]).cell 0)).mono ?_;rintro e w2 ⟨rfl,rfl⟩;go_wp2_with fail;(try go_ret);exact hR _ _ ⟨v,w1,rfl,Q1.out,(Upd.refl _ _).alloc _⟩
end Go.Proofs.YtckjdhaflokcgaaGreat
namespace Go.Proofs.YtckjdhaflokcgaaGreat
open Go.RowKit Go.Shelf Go.Proofs.Tryz
attribute [local go_sem] Oper.semAt_some
def Q3t (l:List Int) {n:Nat} (x:{ s:Nat // s<n }):Array Value:=#[.int .i64 (x.1:Nat),.agg #[.int .i64 ((Q6 l x.1).1:Nat),.int .u32 ((Q6 l x.1).2:Nat)]]
theorem Qah {n:Nat} (Fe:Fence) (m lc P Q g on c:Nat) (A:Option Addr) (l:List Int) (O:List { s:Nat // s<n }) (Kb Fl:Nat->Prop) (hft:Fe.fn 326) (hro:Fe.round=none) (hd:Fe.depth=none)
   (J Jx:List { s:Nat // s<n }->World->Prop)
   (hY:∀pre x W,J pre W->pre.length<on->YieldAt Fe (m-1) prog lc (Q3t l x) W λe W' =>
     (e = .returned (.bool true)/\J (pre++[x]) W'/\QY Kb W W')\/(e = .returned (.bool false)/\Jx (pre++[x]) W'))
   (W:World) (hP:W.cell? ⟨P,0,none⟩=some (.slice A on c)) (hKP:Kb P) (hQ:W.cell? ⟨Q,0,none⟩=some (.slice (some ⟨g,0,none⟩) n n)) (hKQ:Kb Q)
   (hR:Rd W Fl A on (Yt (O.map Subtype.val))) (hKF:∀b,Fl b->Kb b) (hC:RdK W (λb=>b=g) 2 (some ⟨g,0,none⟩) n ((QE l).map cd2)) (hKg:Kb g) (hL:l.length=n) (hn:on<=2^40) (h0:J [] W) :
   CallsIn Fe m prog 326 #[.func (.yield lc) #[] #[],.pointer (some ⟨P,0,none⟩),.pointer (some ⟨Q,0,none⟩)] W λe W'=>(∃v,e = .returned v) /\
     ((∃ys,ys=O/\J ys W')\/(∃pre,True/\Jx pre W')):=by
 (have hOL:O.length=on:=by have:=hR.1;simpa [Yt]using this);refine callsIn_of_wp func326 rfl hft ?_ hro;simp only [ntmps326,List.size_toArray,List.length_cons,List.length_nil,Nat.reduceAdd,Nat.reduceSub,Array.replicate_succ,Array.replicate_zero,List.push_toArray,List.append_toArray,List.nil_append,List.cons_append];gi_wp2;refine Q5B ?_;refine wpIn_seq (wpIn_label ?_);gi_wp2;gi_loopg [8] on (λf i wr=>∃k:Nat,k+f=on/\i = .int .i64 (k:Nat)/\J (O.take k) wr/\QY Kb W wr)
 case atStart=>exact⟨0,by omega,rfl,by simpa using h0,QY.refl _ _⟩
 case round =>
   obtain⟨k,hk,rfl,hJ,hkb⟩:=hrel;have hQ':wr.cell? ⟨Q,0,none⟩=some (.slice (some ⟨g,0,none⟩) n n):=(hkb.cell hKQ 0).trans hQ;by_cases hlt:k<on
   . have hkI:(k:Int)<on:=by omega
     (have hk0:0<=(k:Int):=by omega);(have hkO:k<O.length:=by omega);obtain⟨⟨s,hs⟩,hx⟩:∃x,x=O[k]:=⟨_,rfl⟩;have hY':=hY (O.take k) ⟨s,hs⟩ wr hJ (by rw [List.length_take];omega);(have htk:O.take (k+1)=O.take k++[⟨s,hs⟩]:=by rw [List.take_succ_eq_append_getElem hkO,<-hx]);rw [<-htk]at hY';obtain⟨b,o,rfl,hFb,_,hc⟩:=hR.at_ (k:=k) hlt
     have c0:wr.cell? ⟨b,o+k,none⟩=some (.int .i64 (s:Nat)):=by
       rw [hkb.cell (hKF b hFb),hc];simp [Yt,hkO,<-hx]
     (have hsI:(s:Int)<n:=by omega);(have hs0:0<=(s:Int):=by omega);obtain⟨b9,o9,he9,_,_,hc9⟩:=hC.at_ (r:=0) hs;injection he9 with he9;injection he9 with hb9 ho9;subst hb9 ho9;(have hrow:((QE l).map cd2)[s]'(by rw [List.length_map,YJ,hL];exact hs)=cd2 (Q6 l s):=by simp [QE]);have d0:=(hkb.cell hKg _).trans (hc9 0 (by omega));have d1:=(hkb.cell hKg _).trans (hc9 1 (by omega));rw [hrow]at d0 d1;simp only [cd2,List.getElem?_cons_zero,List.getElem?_cons_succ]at d0 d1;simp at d0 d1;obtain⟨fn,tmps,assign,body,hy,hRd⟩:=hY';simp only [Q3t]at hy;obtain⟨X,hX⟩:=nm_ ((Q6 l s).2);obtain⟨L,hLL⟩:=nm_ ((Q6 l s).1);rw [<-hLL]at d0 hy;rw [<-hX]at d1 hy;have HK:=hd_ hkb;have HKK:=hd_ hk;clear hc hc9 hrow hJ hkb hY hR hx hX hLL hk hC htk;gi_wp2
     first
       | refine hRd.mono ?_
       | refine⟨?_,?_,hRd.mono ?_⟩
     rintro e W3 (⟨rfl,hJ3,hk3⟩|⟨rfl,hJx3⟩)
     . have HJ3:=hd_ hJ3
       have HK3:=hd_ hk3;clear hJ3 hk3 hRd hy;gi_wp2;gi_roundg (gk-1)
       case measure=>have:=HKK.out;omega
       case rel=>exact⟨k+1,by have:=HKK.out;omega,by go_num,HJ3.out,HK.trans HK3.out⟩
     gi_wp2;(try simp only [Exit.noGoto_normal,Exit.noGoto_ret])
     first
       | (refine bodyPost_ret (results_none rfl _ _ _) rfl ?_;exact⟨⟨_,rfl⟩,.inr ⟨_,trivial,hJx3⟩⟩)
       | (go_end0;exact⟨⟨_,rfl⟩,.inr ⟨_,trivial,hJx3⟩⟩)
   (obtain rfl:k=on:=by omega);have htl:O.take k=O:=List.take_of_length_le (by omega);rw [htl]at hJ;gi_wp2;(try simp only [Exit.noGoto_normal,Exit.noGoto_ret]);go_end0;exact⟨⟨_,rfl⟩,.inl ⟨_,rfl,hJ⟩⟩
theorem Q7n {n:Nat} (m P Q g on c:Nat) (A:Option Addr) (l:List Int) (O:List { s:Nat // s<n }) (Kb Fl:Nat->Prop) (w:World) (hPw:P<w.heap.size) (hQw:Q<w.heap.size) (hP:w.cell? ⟨P,0,none⟩=some (.slice A on c)) (hKP:Kb P) (hQ:w.cell? ⟨Q,0,none⟩=some (.slice (some ⟨g,0,none⟩) n n)) (hKQ:Kb Q)
   (hR:Rd w Fl A on (Yt (O.map Subtype.val))) (hKF:∀b,Fl b->Kb b) (hC:RdK w (λb=>b=g) 2 (some ⟨g,0,none⟩) n ((QE l).map cd2)) (hKg:Kb g) (hL:l.length=n) (hn:on<=2^40) :
   SeqStopsK Fence.wide m prog 326 #[.pointer (some ⟨P,0,none⟩),.pointer (some ⟨Q,0,none⟩)] (Q3t l (n:=n)) (QY Kb) (λys=>ys=O) (λ_=>True) on w :=
 λlc J Jx W hW hJa _ hY h0=>Qah Fence.wide m lc P Q g on c A l O Kb Fl trivial rfl rfl J Jx hY W ((hW.cell (p:=⟨P,0,none⟩) hPw).trans hP) hKP ((hW.cell (p:=⟨Q,0,none⟩) hQw).trans hQ) hKQ (hR.upd (S:=λ_=>False) (Upd.of_below hW) (λ_ _ _ h=>h)) hKF (hC.upd (S:=λ_=>False) (Upd.of_below hW) (λ_ _ _ h=>h)) hKg hL hn h0
end Go.Proofs.YtckjdhaflokcgaaGreat
namespace Go.Proofs.YtckjdhaflokcgaaGreat
open Go.RowKit Go.Shelf Go.Sort Go.Proofs.Tryz
attribute [local go_sem] Oper.semAt_some
theorem Q0V {F:Fence} {n':Nat} {P:Program} (w:World) {ops:Array Oper} {rest:List Oper} {o:Oper} {a:Act} {Q:Exit->Act->World->Prop} (hgd:o.guard=none) (s x:Operand) (t:TypeId)
   (ho:o.op = .call { callee:=.builtin .append,args:=#[s,x],argTypes:=#[t,t] }) (e:TypeId) (z:Value) (k Q2:Nat) (ht:P.underlying t=some (.slice e)) (hi:(P.info? e).map (λi=>(i.zero,i.size,i.bytes))=some (some z,k,Q2)) (hzs:z.cells.size=k) (hk:0<k) (hby:Q2<=1024)
   (v:Value) (rows:List (List Value)) (hs:a.eval s=v) (hown:QS w e k v rows) (kb cap:Nat) (row:List Value) (hrow:row.length=k) (h1:∀u∈row,u.oneCell'=true) (hx:a.eval x = .slice (some ⟨kb,0,none⟩) 1 cap) (hb:Blk w kb e row.toArray) (hlen:rows.length<=2^30)
   (h:∀g cap w',QS w' e k (.slice (some ⟨g,0,none⟩) (rows.length+1) cap) (rows++[row])->w.grownBy w' v.ownBlock->(v.ownBlock=some g\/g=w.heap.size)->g<w'.heap.size->wpListIn F n' P ops Q rest (a.put o.dst (.slice (some ⟨g,0,none⟩) (rows.length+1) cap)) w') :
   wpListIn F n' P ops Q (o::rest) a w:=by
 obtain⟨i,hi0,hz,hsize,hbyt⟩:=info_parts hi
 have hcells:∀(j:Nat) u,row[j]?=some u->w.cell? ((⟨kb,0,none⟩:Addr).add j)=some u:=by
   intro j u hu;rw [Addr.add_lit,hb.cells j u (by simpa using hu)]
 have hmul:(rows.length+1)*Q2<=140737488355328:=Nat.le_trans (Nat.mul_le_mul (show rows.length+1<=2^30+1 by omega) hby) (by decide);refine wpListIn_plain hgd λK hK=>?_;obtain⟨g,c2,w',hrun,h2,h3,h4,h5⟩:=run_append_lies (P:=P) w t o.type 0 e i z k Q2 ht hi0 hz hsize hbyt hzs hk v rows.length _ hown.1 ⟨kb,0,none⟩ 1 cap row (by omega) hcells h1 (by omega) (by simp only [maxLen];omega) hmul (Nat.zero_le _) _ rfl;unfold Oper.wpIn;refine⟨?_,?_⟩
 . simp [Oper.about,ho,resolve,Target.leads,Sem.run_pure]
 rw [Oper.semAt_plain F _ _ (by rw [ho];intro c hc';cases hc')];simp [execOp,ho,resolve,invoke,builtin,hs,hx,hrun,Result.andThen];refine hK _ _ (h g c2 w' ⟨?_,?_⟩ h3 h4 h5)
 . rw [List.flatten_append,List.length_append]
   simpa using h2
 intro r hr;rcases List.mem_append.1 hr with hr|hr
 . exact hown.2 r hr
 rw [List.mem_singleton.1 hr];exact hrow
def XU (l:List Int) (s:Nat):List Value:=en2 (s,(Q6 l s).1)
def LeI {n:Nat} (w:World) (H T B0:Nat) (l:List Int) (pre:List { s:Nat // s<n }) (W:World):Prop :=
  Q0 w W/\B0<=W.heap.size/\(∃v,Blk W H 371 #[v]/\QS W 379 2 v ((pre.map Subtype.val).map (XU l))/\∀b,v.ownBlock=some b->B0<=b)/\Blk W T 3 #[.int .i64 (Qe l:Nat)]
theorem QS.kept {W W':World} {e:TypeId} {k:Nat} {v:Value} {rows:List (List Value)} {row:Option Nat} (h:QS W e k v rows) (hg:W.grownBy W' row) (hr:∀r,row=some r->∃o:Obj,W.heap[r]?=some o/\o.isCells=false):QS W' e k v rows:=by
 refine h.upd (S:=λb=>row=some b) ((Upd.refl _ W).grown hg λk hk _=>hk) λb hb hs=>?_;obtain⟨o,ho,hc⟩:=hr b hs;rcases h.1.2 with ⟨rfl,_⟩|⟨g,cap,cur,rfl,_,hh,_⟩
 . simp [Value.ownBlock]at hb
 (have:g=b:=by simpa [Value.ownBlock]using hb);subst this;rw [hh]at ho;injection ho with ho;subst ho;cases hc
theorem QS.blk {w:World} {e:TypeId} {k:Nat} {v:Value} {rows:List (List Value)} (h:QS w e k v rows) {b:Nat} (hb:v.ownBlock=some b):∃cs,Blk w b e cs:=by
 rcases h.1.2 with ⟨rfl,_⟩|⟨g,cap,cur,rfl,_,hh,_⟩
 . simp [Value.ownBlock]at hb
 (have:g=b:=by simpa [Value.ownBlock]using hb);subst this;exact⟨cur,hh⟩
theorem LeI.own {n:Nat} {w:World} {H T B0 B:Nat} {l:List Int} (hB:w.heap.size<=B):OwnFrom B (LeI (n:=n) w H T B0 l):=by
 intro pre W W' row h hg hr;obtain⟨h1,h2,⟨v,h3,h4,h5⟩,h6⟩:=h;have hr':=λr e=>(hr r e).2;exact⟨h1.grown hg (λk hk hlt=>by have:=(hr k hk).1;omega),Nat.le_trans h2 hg.size,⟨v,h3.kept hg hr',h4.kept hg hr',h5⟩,h6.kept hg hr'⟩
theorem Q7o (l:List Int):∀s∈Qq l,s<l.length:=by
 intro s hs;unfold Qq at hs;simp only [List.mem_flatMap,List.mem_filter,List.mem_range]at hs;obtain⟨_,_,h,_⟩:=hs;exact h
theorem Q7p {l:List Int} (ht:Qc l):(Qq l).length<=3072:=by
 have h:=Q1U l 10 l.length (Nat.le_refl _);rw [Q0W,Q3u]at h;have:=ht.2.1;have h2:(10+1)*l.length<=11*256:=Nat.mul_le_mul_left 11 this;omega
theorem Q2r {n:Nat}:∀L:List Nat,(∀s∈L,s<n)->∃O:List { s:Nat // s<n },O.map Subtype.val=L
 | [],_=>⟨[],rfl⟩
 | s::L,h=>by
   obtain⟨O,hO⟩:=Q2r L λs hs=>h s (by simp [hs])
   exact⟨⟨s,h s (by simp)⟩::O,by simp [hO]⟩
theorem Q92 (F:Nat->Prop) (A:Option Addr) (n c:Nat) (l:List Int) (w:World) (hr:Rd w F A n (Q7 l)) (ht:Qc l) (hc:n<=c) :
   Calls prog 317 #[.slice A n c] w λe w'=>∃v,e = .returned (.tuple #[v,.int .i64 0])/\QS w' 379 2 v ((Z3 l).map en2)/\(∀b,v.ownBlock=some b->w.heap.size<=b)/\Q0 w w':=by
 have hmf:∀(fn:Fn) (first cap:Array Value) (w:World),(Instr.makeFunc fn first cap).run prog w = .ok (.func fn first cap) w:=λ_ _ _ _=>rfl;(have hLl:l.length=n:=by have:=hr.1;simpa using this);obtain⟨w0,H,hw0,hH,f0,bo⟩:=al_ w 371 #[.slice none 0 0];(have hs0:w0.heap.size=H+1:=by rw [hw0];simp [hH])
 have HMX:=hd_ (show Calls prog 151 #[.slice A n c] w0 λe w'=>Q0 w0 w'/\e = .returned (.tuple #[.int .i64 (Qe l:Nat),.int .i64 0])from
   (Q0y F A n c l w0 (hr.fresh f0) (by have:=ht.2.1;omega) hc).mono λe w' h=>⟨h.1,by have h2:=h.2;rw [if_pos ht]at h2;exact h2⟩)
 have HAL:=hd_ (λW (hW:Q0 w W)=>Q93 F A n c l W (hr.fresh hW) ht hc);have HT:=hd_ ht;have HN:=hd_ (show n<=256 by have:=ht.2.1;omega);have HLl:=hd_ hLl;have BO:=hd_ bo;have F0:=hd_ f0;have HW:=hd_ hw0;have HH:=hd_ hH;have HS0:=hd_ hs0;clear hw0 hH f0 bo hr ht hc hLl hs0;refine Q8 λR hR=>?_;refine(callsIn_wide (n:=3)).1 (callsIn_of_wp_marks func317 rfl trivial ?_ rfl);simp only [ntmps317,List.size_toArray,List.length_cons,List.length_nil,Nat.reduceAdd,Nat.reduceSub,Array.replicate_succ,Array.replicate_zero,List.push_toArray,List.append_toArray,List.nil_append,List.cons_append];refine wpIn_wide.2 ?_;go_wp2_with fail;refine wp_scope_straight ?_;go_upto_region 2 with fail;simp only [<-HH.out,<-HW.out];go_wp2_with fail;refine HMX.mono ?_;rintro e w2 ⟨f2,rfl⟩;have F2:=hd_ f2;clear f2 HMX;go_wp2_with fail;obtain⟨T,hT⟩:=nm_ (w2.heap.size);obtain⟨w3,hw3⟩:=nm_ (w2.alloc (.cells #[.int .i64 (Qe l:Nat)] 3));simp only [<-hT,<-hw3];(have f3:Q0 w2 w3:=by rw [hw3];exact(Upd.refl _ _).alloc _);(have bT:Blk w3 T 3 #[.int .i64 (Qe l:Nat)]:=by rw [hw3];exact Qb hT _ _);(have hz3:w3.heap.size=T+1:=by rw [hw3,hT];simp);(have hHT:H<T:=by rw [hT];have:=F2.size;have:=HS0.out;omega);have F3:=hd_ (F2.trans' f3);have BT:=hd_ bT;have HZ3:=hd_ hz3;have HHT:=hd_ hHT;clear hT hw3 f3 bT hz3 hHT F2;refine(Q57 _ _ _ _ (λk hk=>by(obtain rfl:k=0:=by omega);first|(simpa [HZ3.out]using(Blk.new w3 24 #[.int .i64 0]).cell 0)) (by omega)).mono ?_;rintro e w4 ⟨rfl,hw4⟩;(have f4:Q0 w3 w4:=by rw [hw4];exact(Upd.refl _ _).alloc _);have F4:=hd_ (F3.trans' f4);have BT4:=hd_ (BT.fresh f4);(have hz4:T+2<=w4.heap.size:=by rw [hw4];have:=HZ3.out;simp;omega);have HZ4:=hd_ hz4;clear hw4 f4 hz4 F3 BT HZ3;go_wp2_with fail;refine(HAL w4 (F0.trans' F4.out)).mono ?_;rintro e w5 ⟨P,Q,g,v,rfl,bP,oP,hvP,bQ,rQ,hP,hQ,hg,f5⟩;obtain⟨AO,nO,cO,rfl,hnO⟩:=oP.form';obtain⟨hnO',_,hRO⟩:=oP.rd rfl;(have hnO2:nO=(Qq l).length:=by rw [hnO'];simp [Yt]);obtain⟨OS,hOS⟩:=Q2r (n:=n) (Qq l) (λs hs=>HLl.out ▸ Q7o l s hs);have hOl:=Q7p HT.out;(have hR5:Rd w5 (λb=>Value.ownBlock (.slice AO nO cO)=some b) AO nO (Yt (OS.map Subtype.val)):=by have:=hRO;rw [<-hnO']at this;rw [hOS];exact this);have HR5:=hd_ hR5;have HOS:=hd_ hOS;have HOL:=hd_ (And.intro hnO2 hOl);have HP5:=hd_ bP;have HQ5:=hd_ bQ;have HRQ:=hd_ rQ;have HVP:=hd_ hvP
 have HGS:=hd_ (show w4.heap.size<=P/\w4.heap.size<=Q/\w4.heap.size<=g/\g<w5.heap.size from⟨hP,hQ,hg,by
   obtain⟨b,o,he,hb,hbl,_⟩:=rQ.2 (by have h1:=HT.2.2.1;have h2:=ZE l;have:=HLl.out;omega)
   omega⟩)
 have hOV:=hd_ (show ∀b,Value.ownBlock (.slice AO nO cO)=some b->b<w5.heap.size from λb hb=>oP.lt hb);have F5:=hd_ (F4.trans' f5);have HI0:=hd_ (show LeI (n:=n) w H T w5.heap.size l [] w5 from⟨F0.trans' (F4.trans' f5),Nat.le_refl _,⟨_,(BO.fresh F4.out).fresh f5,QS.nil _ _ _,λb hb=>by simp [Value.ownBlock]at hb⟩,BT4.fresh f5⟩);obtain⟨Kb,hKb⟩:∃Kb:Nat->Prop,Kb=λk=>k=P\/k=Q\/k=g\/Value.ownBlock (.slice AO nO cO)=some k:=⟨_,rfl⟩;have HKB:=hd_ (show ∀k,Kb k ↔ k=P\/k=Q\/k=g\/Value.ownBlock (.slice AO nO cO)=some k from λk=>by rw [hKb])
 have HKD:=hd_ (show ∀k,Kb k->k<w5.heap.size/\k≠H from λk hk=>by
   have h1:=HGS.out;have h2:=HZ4.out;have h3:=HHT.out;have h4:=bP.lt;have h5:=bQ.lt;rcases(HKB k).1 hk with h|h|h|h
   . omega
   . omega
   . omega
   have h6:=hvP k h;have h7:=hOV k h;omega)
 (have hcP:w5.cell? ⟨P,0,none⟩=some (.slice AO nO cO):=by simpa using bP.cell 0);(have hcQ:w5.cell? ⟨Q,0,none⟩=some (.slice (some ⟨g,0,none⟩) n n):=by simpa using bQ.cell 0);have HCP:=hd_ (And.intro hcP hcQ);clear hKb hcP hcQ bP oP hvP bQ rQ hP hQ hg f5 hnO hnO' hRO hnO2 hOl hR5 hOS BO BT4 HAL;go_wp2_with fail;have hOwn:OwnFrom w5.heap.size (LeI (n:=n) w H T w5.heap.size l):=LeI.own (F0.trans' F5.out).size;refine(wpIn_wide (n:=3)).1 ?_
 refine XN (F:=Fence.wide) (n:=3) rfl (by omega) (gf:=326) (lb:=#[.pointer (some ⟨P,0,none⟩),.pointer (some ⟨Q,0,none⟩)]) rfl trivial (enters_of func326 (by kernel_rfl) rfl)
   (Q7n (3-1) P Q g nO cO AO l OS Kb _ w5 HP5.lt HQ5.lt HCP.1 ((HKB P).2 (.inl rfl)) HCP.2 ((HKB Q).2 (.inr (.inl rfl))) HR5.out (λb hb=>(HKB b).2 (.inr (.inr (.inr hb)))) HRQ.out ((HKB g).2 (.inr (.inr (.inl rfl)))) HLl.out (by have:=HOL.out;omega))
   QY.trans (λW lo o o' hl ho _ _=>QY.putObj W o' (λk hk=>⟨by have:=(HKD k hk).1;have:=(Array.getElem?_eq_some_iff.1 ho).1;omega,by have:=(HKD k hk).1;omega⟩)) (Below.refl _ _) (λ_=>rfl)
   (LeI w H T w5.heap.size l) (λ_ _ _=>False) hOwn (λ_ _ _ _ _ hs _ _=>hs) HI0.out 7 8 (λx=>.int .i64 (x.1:Nat)) 133 (λx=>#[.int .i64 ((Q6 l x.1).1:Nat),.int .u32 ((Q6 l x.1).2:Nat)])
   (λpre W o hI=>QY.upd ((Upd.refl (λ_=>False) W).alloc o) (λk hk=>⟨by have:=(HKD k hk).1;have:=hI.2.1;omega,λh=>h⟩)) (λpre W hI=>hI.2.1) ?assign ?body ?done ?stop
 case assign =>
   intro ll x W K hK;simp [Q3t]at hK|-;gi_wp2;exact hK
 case body =>
   rintro ll pre x X W hI hbX hXw hlt;simp [Q3t];obtain⟨hf,hBW,⟨v,hv,ho,hvb⟩,hT⟩:=hI;obtain⟨s,hs⟩:=x;simp only at hbX|-;obtain⟨A4,n4,c4,rfl,hn4⟩:=ho.form';have c0:=hv.cell 0;have c1:=hbX.cell 0;simp at c0 c1;(have hmap:((pre++[(⟨s,hs⟩:{ s:Nat // s<n })]).map Subtype.val).map (XU l)=(pre.map Subtype.val).map (XU l)++[XU l s]:=by simp);obtain⟨L,hL⟩:=nm_ ((Q6 l s).1);obtain⟨rows,hrows⟩:=nm_ ((pre.map Subtype.val).map (XU l));(have hoe:XU l s=en2 (s,L):=by unfold XU;rw [hL]);rw [<-hrows,hoe]at hmap;rw [<-hrows]at ho;rw [<-hL]at c1;have HRL:=hd_ (show rows.length<=4096 by rw [hrows];have:=HOL.out;simp;omega);have HMAP:=hd_ hmap;have HV:=hd_ hv;have HO:=hd_ ho;have HVB:=hd_ hvb;have HF:=hd_ hf;have HTT:=hd_ hT;have HBW:=hd_ hBW;have HX:=hd_ hbX;clear hmap hv ho hvb hf hT hBW hbX hL hrows hoe hn4 hlt hOwn;gi_wp2_with (gi_at_builtin;refine Q0V _ rfl (.tmp 22) (.tmp 27) _ rfl 379 _ 2 16 underlying371 XV rfl (by decide) (by decide) (.slice A4 n4 c4) rows rfl (HO.alloc _) W.heap.size 1 (en2 (s,L)) rfl (by simp [en2,Value.oneCell']) rfl (Blk.new W 379 #[.int .i64 (s:Nat),.int .i64 (L:Nat)]) (by have:=HRL.out;omega) ?_);intro g6 cap6 w6 o6 gr6 a6 h6;(have hne:(Value.slice A4 n4 c4).ownBlock≠some H:=λh=>by obtain⟨cs,hc⟩:=HO.blk h;exact hc.ne_ HV.out (by decide) rfl);(have hneT:(Value.slice A4 n4 c4).ownBlock≠some T:=λh=>by obtain⟨cs,hc⟩:=HO.blk h;exact hc.ne_ HTT.out (by decide) rfl);have b6:=(HV.alloc (.cells #[.int .i64 (s:Nat),.int .i64 (L:Nat)] 379)).grown gr6 hne;have t6:=(HTT.alloc (.cells #[.int .i64 (s:Nat),.int .i64 (L:Nat)] 379)).grown gr6 hneT;have u6:Upd (λb=>(Value.slice A4 n4 c4).ownBlock=some b) W w6:=((Upd.refl _ W).alloc _).grown gr6 (λk hk _=>hk);have k6:=b6.cell 0;have z6:=b6.frozen 0;simp at k6;have B6:=hd_ b6;have T6:=hd_ t6;have U6:=hd_ u6;have O6:=hd_ o6;have A6:=hd_ (show w5.heap.size<=g6 by rcases a6 with h|h;exact HVB _ h;have:=HBW.out;omega);obtain⟨LN,hLN⟩:=nm_ (rows.length+1);simp only [<-hLN]at O6|-;clear b6 t6 u6 o6 gr6 a6 h6 hne hneT hLN;gi_wp2;obtain⟨w7,hw7⟩:=nm_ (w6.setCell ⟨H,0,none⟩ (.slice (some ⟨g6,0,none⟩) LN cap6));rw [<-hw7];(have us:Upd (λb=>b=H) w6 w7:=by rw [hw7];exact(Upd.refl (λb=>b=H) w6).setCell (p:=⟨H,0,none⟩) (λ_=>rfl) _);(have b7:Blk w7 H 371 #[.slice (some ⟨g6,0,none⟩) LN cap6]:=by rw [hw7];have:=B6.set_ 0 (.slice (some ⟨g6,0,none⟩) LN cap6);simpa using this);have t7:=T6.upd us (by have:=HHT.out;omega);(have hgH:H≠g6:=by have:=A6.out;have:=HHT.out;have:=HGS.out;have:=HZ4.out;omega);have o7:=O6.upd us (λb hb e=>hgH (by(have e2:g6=b:=by simpa [Value.ownBlock]using hb);omega));have f7:Q0 w w7:=(HF.trans U6.out (λb hb h=>by have:=HVB b h;have:=F5.size;have:=HS0.out;have h3:=HGS.out;have h4:=HZ4.out;have h5:=HHT.out;have:=F0.size;omega)).trans us (λb hb h=>by have:=HH.out;omega)
   refine⟨(J9 _ U6.out (λk _ hk=>⟨_,HO.blk hk⟩)).trans (J9 _ us (λk _ hk=>by obtain rfl:k=H:=hk;exact⟨_,_,B6.out⟩)),?_,f7,?_,⟨_,b7,?_,?_⟩,t7⟩
   . refine(QY.upd U6.out (λk hk=>⟨by have:=(HKD k hk).1;have:=HBW.out;omega,λh=>by have:=HVB k h;have:=(HKD k hk).1;omega⟩)).trans (QY.upd us (λk hk=>⟨by have:=(HKD k hk).1;have:=HBW.out;have:=U6.size;omega,λh=>(HKD k hk).2 h⟩))
   . have:=HBW.out;have:=U6.size;have:=us.size;omega
   . rw [HMAP.out];exact o7
   intro b hb;(have e2:g6=b:=by simpa [Value.ownBlock]using hb);have:=A6.out;omega
 case done =>
   rintro D ys W hD rfl ⟨hf,hBW,⟨v,hv,ho,hvb⟩,hT⟩ hK;rw [HOS.out]at ho;obtain⟨A4,n4,c4,rfl,hn4⟩:=ho.form';obtain⟨hn5,_,hRV⟩:=ho.rd rfl;have c0:=hv.cell 0;simp at c0;have hT0:=hT.cell 0;simp at hT0;have hol:=HOL.2;(have hrl:((Qq l).map (XU l)).length=(Qq l).length:=by simp);rw [<-hn5]at hRV
   have hen:(QH l (Qq l)).length<=2048:=by
     have h1:=JZ HT.out;have h2:=JK HT.out;have h3:2^Qe l<=2^11:=Nat.pow_le_pow_right (by decide) h2;show(Z3 l).length<=2048;omega
   have HFI:=hd_ (Q7q _ n4 c4 T A4 l (Qq l) W hRV hT0 hT.lt HT.out hen (by omega));have HF:=hd_ hf;have HK:=hd_ hK;clear hf hBW hv ho hvb hT hT0 hK hn4 hn5 hRV hol hrl hen hOwn;go_wp2_with fail;refine HFI.mono ?_;rintro e w6 ⟨v6,rfl,o6,hb6,f6⟩;obtain⟨A6,n6,c6,rfl,hn6⟩:=o6.form';have O6:=hd_ o6;have HB6:=hd_ hb6;have F6:=hd_ f6;clear o6 hb6 f6 hn6 HFI;go_wp2_with fail;(have hK6:w6.heap[D]?=some (.deferred (some [])):=by rw [F6.block D (Array.getElem?_eq_some_iff.1 HK.out).1 (λh=>h)];exact HK.out);have u8:Upd (λb=>b=D) w6 (w6.putObj D (.deferred none)):=(Upd.refl (λb=>b=D) w6).grown (grownBy_putObj' w6 D _) (λk e _=>by injection e with e;exact e.symm)
   have o8:QS (w6.putObj D (.deferred none)) 379 2 (.slice A6 n6 c6) ((Z3 l).map en2):=O6.upd u8 (λb hb hT=>by
     obtain⟨cs,hc⟩:=O6.blk hb;subst hT;unfold Blk at hc;rw [hK6]at hc
     cases hc)
   have f8:Q0 w (w6.putObj D (.deferred none)):=(HF.trans' F6.out).trans u8 (λb hb h=>by have:=F0.size;have:=F5.size;omega);rw [Exit.noGoto_ret];show LeavesInM Fence.wide 3 _ _ _ _ ({ target:=.collected D,args:=#[] } :: []) .returning _;refine XW (by simp) (run_takeDeferred hK6) ?_;show LeavesIn Fence.wide 3 _ _ _ _ [] .returning _;refine⟨.tuple #[.slice A6 n6 c6,.int .i64 0],?_,hR _ _ ⟨_,rfl,o8,λb hb=>by have:=HB6 b hb;have:=HF.size;omega,f8⟩⟩;simp [results,results317,go_sem]
 case stop =>
   rintro D c pre W _ _ h _;exact h.elim
end Go.Proofs.YtckjdhaflokcgaaGreat
