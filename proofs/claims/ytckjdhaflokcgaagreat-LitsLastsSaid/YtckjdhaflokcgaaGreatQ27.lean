/-
  Joined texts, part 27: contracts and plain lemmas.
  Conditions: none beyond those of each theorem.
-/
import Derived.Test.YtckjdhaflokcgaaGreatQ26
import Derived.Test.YtckjdhaflokcgaaGreatQ6
set_option maxHeartbeats 4000000
set_option linter.unusedVariables false
set_option linter.unusedSimpArgs false
set_option linter.unnecessarySimpa false
set_option maxRecDepth 100000
universe u
namespace Go.Proofs.YtckjdhaflokcgaaGreat
open Go.RowKit
theorem Q2t {k n m:Nat} (h:m=Nat.min k (n-k)) (h1:1<=k) (h2:k<n):1<=m/\k+m<=n/\m<=k:=by
 have e:m=min k (n-k):=h;omega
theorem ZT:(Tryz.prog.info? 379).map (·.size)=some 2:=by kernel_rfl
theorem Q1h (b0 c n:Nat) (x:Nat × Nat) (w:World) (hb:Blk w b0 379 (Qx [x]).toArray) (hn0:0<n) (hn:n<=2048) :
   Calls Tryz.prog 327 #[.slice (some ⟨b0,0,none⟩) 1 c,.int .i64 (n:Nat)] w fun e w'=>∃g,e = .returned (.slice (some ⟨g,0,none⟩) n n)/\Blk w' g 379 (Qx (List.replicate n x)).toArray/\Q0 w w'/\w.heap.size<=g:=by
 have hmk:=Q0c n hn;(have hnI:(n:Int)<=2048:=by omega);(have hnI0:¬(n:Int)<0:=by omega);(have hwn:IntKind.u64.wrap (n:Int)=n:=by unfold IntKind.wrap;simp [IntKind.bits];omega);have hwn2:IntKind.i64.wrap (n:Int)=n:=IntWalk.i64_in _ (by omega);have HMU:=hd_ (show ∀W,Calls Tryz.prog 169 #[.int .u64 1,.int .u64 (n:Nat)] W fun e w'=>e = .returned (.tuple #[.int .u64 0,.int .u64 (n:Nat)])/\w'=W from fun W=>(Tryz.bits_Mul 1 n (by decide) (by omega) W).mono fun e w' h=>⟨by rw [h.1,Nat.one_mul,Nat.div_eq_of_lt (by omega),Nat.mod_eq_of_lt (by omega)];rfl,h.2⟩);have HB:=hd_ hb;have HN:=hd_ (And.intro hn0 hn);clear hb hn0 hn;refine Qg fun R hR=>?_;go_enter Tryz.func327,Tryz.ntmps327;go_wp2_with fail;refine(HMU.out _).mono ?_;rintro e w1 ⟨rfl,rfl⟩;clear HMU;go_upto_region 7 with fail;obtain⟨G,hG⟩:=nm_ (w1.heap.size);obtain⟨w2,hw2⟩:=nm_ (w1.alloc (.cells (Qx (List.replicate n (0,0))).toArray 379));simp only [<-hG,<-hw2];(have bg:Blk w2 G 379 (QV x 0 n).toArray:=by rw [hw2];have:=Qc hG 379 (Qx (List.replicate n (0,0))).toArray;simpa [QV]using this);(have f2:Q0 w1 w2:=by rw [hw2];exact(Upd.refl _ _).alloc _);have bs:=HB.out.fresh f2
 have HSRC:=hd_ (show ∀j v,(Qx (List.replicate 1 x))[j]?=some v->w2.cell? ((⟨b0,0,none⟩:Addr).add j)=some v from fun j v hv=>by
   rw [Addr.add_lit,Nat.zero_add,bs.cell];simpa using hv)
 have HLEN:=hd_ (show(Qx (List.replicate 1 x)).length=Nat.min 1 n*2 by rw [show Nat.min 1 n=1 from Nat.min_eq_left HN.out.1,Y8];simp);have HFIT:=hd_ (show 0+(Qx (List.replicate 1 x)).length<=(QV x 0 n).toArray.size by rw [Y8,List.size_toArray,VN x (by omega)];have:=HN.out.1;simp;omega);have BG:=hd_ bg;have HGB:=hd_ (show w2.heap[G]?=some (.cells (QV x 0 n).toArray 379 (0,0))from bg);have F2:=hd_ f2;have HGG:=hd_ hG;clear hG hw2 bg f2 bs hmk;go_wp2_with (with_reducible refine YS (o:=⟨some 33,_,_,_,_,_⟩) rfl 2 (.tmp 31) (.tmp 32) 371 371 rfl 379 Tryz.underlying371 ZT G 0 n n ⟨b0,0,none⟩ 1 c rfl rfl (QV x 0 n).toArray 379 HGB.out (Qx (List.replicate 1 x)) HLEN.out HSRC.out HFIT.out (KX 1 x) ?_);obtain⟨w3,hw3⟩:=nm_ (w2.setRow G ((QV x 0 n).toArray.toList.take 0++(Qx (List.replicate 1 x)++(QV x 0 n).toArray.toList.drop (0+(Qx (List.replicate 1 x)).length))).toArray)
 have b3:Blk w3 G 379 (QV x 1 n).toArray:=by
   rw [hw3];have h1:=setRow_heap w2 G _ ((QV x 0 n).toArray.toList.take 0++(Qx (List.replicate 1 x)++(QV x 0 n).toArray.toList.drop (0+(Qx (List.replicate 1 x)).length))).toArray 379 (0,0) BG.out;have h2:=Vh x (k:=0) (m:=1) (n:=n) (by have:=HN.out;omega);rw [Nat.zero_mul]at h2;show _=_;rw [h1];simp only [h2]
 have f3:Q0 w1 w3:=F2.out.trans (T:=fun b=>b=G) ⟨by rw [hw3];rfl,by rw [hw3];rfl,by rw [hw3];rfl,by rw [hw3];simp [World.setRow],fun k hk hn=>by rw [hw3];exact setRow_other _ _ k _ hn⟩ (fun b hb h=>by have:=HGG.out;omega);have hmin:Nat.min 1 n=1:=Nat.min_eq_left HN.out.1;(have hw3':w2.setRow G (Qx [x]++List.drop (Qx [x]).length (QV x 0 n)).toArray=w3:=by rw [hw3];simp);simp only [hmin,hw3'];(have hn0I:0<(n:Int):=by have:=HN.out.1;omega);have B3:=hd_ b3;have F3:=hd_ f3;clear hw3 hw3' b3 f3 HSRC BG F2;go_wp2_with fail;go_loopg [8] (n-1) (fun f vk wr=>∃k:Nat,k+f=n/\1<=k/\vk = .int .i64 k/\Blk wr G 379 (QV x k n).toArray/\Q0 w1 wr)
 case atStart=>exact⟨1,by have:=HN.out.1;omega,by omega,rfl,B3.out,F3.out⟩
 case round =>
   obtain⟨k,hk,hk1,rfl,bk,fk⟩:=hrel;have BK:=hd_ bk;have FK:=hd_ fk;have HK:=hd_ hk;have HK1:=hd_ hk1;by_cases hlt:k<n
   . have hlI:(k:Int)<n:=by omega
     (have hk1I:(1:Int)<=k:=by omega);(have hkn:¬n=k:=by omega);(have hkle:k<=n:=by omega);clear bk fk hk hk1 B3 F3;go_upto_region 9 with fail;obtain⟨m,hm⟩:=nm_ (Nat.min k (n-k));have HM:=hd_ (Q2t hm HK1.out hlt)
     have HSRC:=hd_ (show ∀W,Blk W G 379 (QV x k n).toArray->∀j v,(Qx (List.replicate m x))[j]?=some v->W.cell? ((⟨G,0,none⟩:Addr).add j)=some v from fun W hB j v hv=>by
       have hmk:m<=k:=HM.out.2.2;rw [Addr.add_lit,Nat.zero_add,hB.cell];have:=Q2s x (n:=n) hmk hv
       simpa using this)
     have HLEN:=hd_ (show(Qx (List.replicate m x)).length=m*2 by rw [Y8];simp;omega);have HFIT:=hd_ (show k*2+(Qx (List.replicate m x)).length<=(QV x k n).toArray.size by rw [Y8,List.size_toArray,VN x (by omega)];have:=HM.out;simp;omega)
     have HROW:=hd_ (show ∀W,Blk W G 379 (QV x k n).toArray->Blk (W.setRow G ((QV x k n).toArray.toList.take (k*2)++(Qx (List.replicate m x)++(QV x k n).toArray.toList.drop (k*2+(Qx (List.replicate m x)).length))).toArray) G 379 (QV x (k+m) n).toArray from fun W hB=>by
       have h1:=setRow_heap W G _ ((QV x k n).toArray.toList.take (k*2)++(Qx (List.replicate m x)++(QV x k n).toArray.toList.drop (k*2+(Qx (List.replicate m x)).length))).toArray 379 (0,0) hB;have h2:=Vh x (k:=k) (m:=m) (n:=n) HM.out.2.1;show _=_;rw [h1]
       simp only [h2])
     have HSET:=hd_ (show ∀(W:World) (cs:Array Value),Upd (fun b=>b=G) W (W.setRow G cs)from fun W cs=>⟨rfl,rfl,rfl,by simp [World.setRow],fun k hk hn=>setRow_other _ _ k _ hn⟩);(have hwa:IntKind.i64.wrap ((k:Int)+m)=((k+m:Nat):Int):=by have:=HM.out;have:=HN.out;rw [IntWalk.i64_in _ (by omega)];omega);have HMM:=hd_ hm;clear hm;obtain⟨Cw,cEq⟩:=exC (fun W=>Q0 w1 W);obtain⟨Y,yA⟩:=exY [fun xs W=>(xs 0) = .int .i64 (k:Nat),fun xs W=>(xs 1) = .slice (some ⟨G,0,none⟩) n n,fun xs W=>(xs 2) = .int .i64 (k:Nat),fun xs W=>(xs 3) = .slice (some ⟨G,k*2,none⟩) (n-k) (n-k),fun xs W=>(xs 4) = .slice (some ⟨G,0,none⟩) n n,fun xs W=>(xs 5) = .int .i64 (k:Nat),fun xs W=>(xs 6) = .slice (some ⟨G,0,none⟩) k n,fun xs W=>(xs 7) = .int .i64 (m:Nat)/\Blk W G 379 (QV x (k+m) n).toArray,fun xs W=>(xs 8) = .int .i64 ((k+m:Nat):Int),fun xs W=>(xs 9) = .int .i64 ((k+m:Nat):Int),fun xs W=>Blk W G 379 (QV x k n).toArray];have yf0:=yA 0;have yf1:=yA 1;have yf2:=yA 2;have yf3:=yA 3;have yf4:=yA 4;have yf5:=yA 5;have yf6:=yA 6;have yf7:=yA 7;have yf8:=yA 8;have yf9:=yA 9;have yf10:=yA 10;simp only [List.getD_cons_zero,List.getD_cons_succ]at yf0 yf1 yf2 yf3 yf4 yf5 yf6 yf7 yf8 yf9 yf10;(have yN:∀j xs W,11<=j->Y j xs W=True:=fun j xs W hj=>by rw [yA,QR _ _ _ hj])
     have yP:∀j xs W W',j∈[0,1,2,3,4,5,6,8,9]->Y j xs W->Y j xs W':=by
       intro j xs W W' hj hy;simp only [List.mem_cons,List.not_mem_nil,or_false]at hj;rcases hj with rfl|rfl|rfl|rfl|rfl|rfl|rfl|rfl|rfl
       . rw [yf0]at hy ⊢;exact hy
       . rw [yf1]at hy ⊢;exact hy
       . rw [yf2]at hy ⊢;exact hy
       . rw [yf3]at hy ⊢;exact hy
       . rw [yf4]at hy ⊢;exact hy
       . rw [yf5]at hy ⊢;exact hy
       . rw [yf6]at hy ⊢;exact hy
       . rw [yf8]at hy ⊢;exact hy
       rw [yf9]at hy ⊢;exact hy
     have yM:YA [[0],[1],[2],[3],[4],[5],[6],[7],[8],[9],[]] Y:=by
       intro j xs xs' W hh hy;by_cases hj:11<=j
       . rw [yN j _ _ hj];trivial
       (have hj':j=0\/j=1\/j=2\/j=3\/j=4\/j=5\/j=6\/j=7\/j=8\/j=9\/j=10:=by omega);rcases hj' with rfl|rfl|rfl|rfl|rfl|rfl|rfl|rfl|rfl|rfl|rfl
       . rw [yf0]at hy ⊢;rw [<-hh 0 (by decide)];exact hy
       . rw [yf1]at hy ⊢;rw [<-hh 1 (by decide)];exact hy
       . rw [yf2]at hy ⊢;rw [<-hh 2 (by decide)];exact hy
       . rw [yf3]at hy ⊢;rw [<-hh 3 (by decide)];exact hy
       . rw [yf4]at hy ⊢;rw [<-hh 4 (by decide)];exact hy
       . rw [yf5]at hy ⊢;rw [<-hh 5 (by decide)];exact hy
       . rw [yf6]at hy ⊢;rw [<-hh 6 (by decide)];exact hy
       . rw [yf7]at hy ⊢;rw [<-hh 7 (by decide)];exact hy
       . rw [yf8]at hy ⊢;rw [<-hh 8 (by decide)];exact hy
       . rw [yf9]at hy ⊢;rw [<-hh 9 (by decide)];exact hy
       rw [yf10]at hy ⊢;exact hy
     clear yA
     have yR:∀j xs,10<=j->Y j xs (wr.drew):=by
       intro j xs hj;rcases(show j=10\/11<=j by omega)with rfl|hj
       . rw [yf10];exact BK.out.drew
       rw [yN _ _ _ hj];trivial
     refine QK Cw (fun j=>if j=10 then [7]else []) Y [(0,some 38),(1,some 39),(2,some 40),(3,some 41),(4,some 42),(5,some 43),(6,some 44),(7,some 45),(8,some 46),(9,some 8)] (by kernel_rfl) (by kernel_rfl) (by kernel_rfl) (by rw [cEq];exact FK.out.drew) (fun j hj=>yR j _ hj) ?_ ?_
     . refine Qf.cons [] (by kernel_rfl) (fun xs W hw hd lst hl K hK=>?_) ?_
       . rw [cEq]at hw
         have hK':=hK.out;clear hK;simp only [Qd,Act.put,List.setIfInBounds_toArray,List.set_cons_zero,List.set_cons_succ]at hK' ⊢;go_simp;exact hK' _ _ (by rw [cEq];exact hw) (Qb yM 0 (by kernel_rfl) xs W _) (by rw [yf0];exact if_pos rfl)
       refine Qf.cons [] (by kernel_rfl) (fun xs W hw hd lst hl K hK=>?_) ?_
       . rw [cEq]at hw
         have hK':=hK.out;clear hK;simp only [Qd,Act.put,List.setIfInBounds_toArray,List.set_cons_zero,List.set_cons_succ]at hK' ⊢;go_simp;exact hK' _ _ (by rw [cEq];exact hw) (Qb yM 1 (by kernel_rfl) xs W _) (by rw [yf1];exact if_pos rfl)
       refine Qf.cons [] (by kernel_rfl) (fun xs W hw hd lst hl K hK=>?_) ?_
       . rw [cEq]at hw
         have hK':=hK.out;clear hK;simp only [Qd,Act.put,List.setIfInBounds_toArray,List.set_cons_zero,List.set_cons_succ]at hK' ⊢;go_simp;exact hK' _ _ (by rw [cEq];exact hw) (Qb yM 2 (by kernel_rfl) xs W _) (by rw [yf2];exact if_pos rfl)
       refine Qf.cons [(1,some 39),(2,some 40)] (by kernel_rfl) (fun xs W hw hd lst hl K hK=>?_) ?_
       . rw [cEq]at hw
         have hK':=hK.out;clear hK;simp only [Ql]at hd;obtain⟨hf1,hf2,_⟩:=hd;simp only [Qd,Act.put,List.setIfInBounds_toArray,List.set_cons_zero,List.set_cons_succ]at hK' ⊢;rw [yf1]at hf1;rw [yf2]at hf2;simp only [hf1,hf2]at hK' ⊢;go_simp;exact hK' _ _ (by rw [cEq];exact hw) (Qb yM 3 (by kernel_rfl) xs W _) (by rw [yf3];exact if_pos rfl)
       refine Qf.cons [] (by kernel_rfl) (fun xs W hw hd lst hl K hK=>?_) ?_
       . rw [cEq]at hw
         have hK':=hK.out;clear hK;simp only [Qd,Act.put,List.setIfInBounds_toArray,List.set_cons_zero,List.set_cons_succ]at hK' ⊢;go_simp;exact hK' _ _ (by rw [cEq];exact hw) (Qb yM 4 (by kernel_rfl) xs W _) (by rw [yf4];exact if_pos rfl)
       refine Qf.cons [] (by kernel_rfl) (fun xs W hw hd lst hl K hK=>?_) ?_
       . rw [cEq]at hw
         have hK':=hK.out;clear hK;simp only [Qd,Act.put,List.setIfInBounds_toArray,List.set_cons_zero,List.set_cons_succ]at hK' ⊢;go_simp;exact hK' _ _ (by rw [cEq];exact hw) (Qb yM 5 (by kernel_rfl) xs W _) (by rw [yf5];exact if_pos rfl)
       refine Qf.cons [(4,some 42),(5,some 43)] (by kernel_rfl) (fun xs W hw hd lst hl K hK=>?_) ?_
       . rw [cEq]at hw
         have hK':=hK.out;clear hK;simp only [Ql]at hd;obtain⟨hf4,hf5,_⟩:=hd;simp only [Qd,Act.put,List.setIfInBounds_toArray,List.set_cons_zero,List.set_cons_succ]at hK' ⊢;rw [yf4]at hf4;rw [yf5]at hf5;simp only [hf4,hf5]at hK' ⊢;go_simp;exact hK' _ _ (by rw [cEq];exact hw) (Qb yM 6 (by kernel_rfl) xs W _) (by rw [yf6];exact if_pos rfl)
       refine Qf.cons [(3,some 41),(6,some 44),(10,none)] (by kernel_rfl) (fun xs W hw hd lst hl K hK=>?_) ?_
       . rw [cEq]at hw
         have hK':=hK.out;clear hK;simp only [Ql]at hd;obtain⟨hf3,hf6,hf10,_⟩:=hd;simp only [Qd,Act.put,List.setIfInBounds_toArray,List.set_cons_zero,List.set_cons_succ]at hK' ⊢;rw [yf3]at hf3;rw [yf6]at hf6;rw [yf10]at hf10;simp only [hf3,hf6]at hK' ⊢;rw [if_pos (by rfl)];refine JH 2 (.tmp 41) (.tmp 44) 371 371 rfl 379 Tryz.underlying371 ZT G (k*2) (n-k) (n-k) ⟨G,0,none⟩ k n rfl rfl (QV x k n).toArray 379 hf10 (Qx (List.replicate m x)) m HMM.out HLEN.out (HSRC.out W hf10) HFIT.out (KX m x) ?_;have hB:=HROW.out W hf10;have hR:=trivial;refine hK' (_) (_) (by rw [cEq];exact hw.trans (HSET.out W _) (fun b hb h=>by have:=HGG.out;omega)) (QG yM 7 (by kernel_rfl) _ fun j hs hy=>?_) (by rw [yf7];(try simp only [↓reduceIte]);try exact⟨rfl,hB⟩);by_cases hp:j∈[0,1,2,3,4,5,6,8,9]
         . exact yP j _ _ _ hp hy
         by_cases hj:11<=j
         . rw [yN j _ _ hj];trivial
         simp only [List.mem_cons,List.not_mem_nil,or_false]at hp;rcases(show j=7\/j=10 by omega)with rfl|rfl
         . exact(Qn hs (by kernel_rfl)).elim
         exact(Qn hs (by kernel_rfl)).elim
       refine Qf.cons [(0,some 38),(7,some 45)] (by kernel_rfl) (fun xs W hw hd lst hl K hK=>?_) ?_
       . rw [cEq]at hw
         have hK':=hK.out;clear hK;simp only [Ql]at hd;obtain⟨hf0,hf7,_⟩:=hd;simp only [Qd,Act.put,List.setIfInBounds_toArray,List.set_cons_zero,List.set_cons_succ]at hK' ⊢;rw [yf0]at hf0;rw [yf7]at hf7;simp only [hf0]at hK' ⊢;obtain⟨h7e,b7⟩:=hf7;simp only [h7e]at hK' ⊢;go_simp;exact hK' _ _ (by rw [cEq];exact hw) (Qb yM 8 (by kernel_rfl) xs W _) (by rw [yf8];exact if_pos rfl)
       refine Qf.cons [(8,some 46)] (by kernel_rfl) (fun xs W hw hd lst hl K hK=>?_) ?_
       . rw [cEq]at hw
         have hK':=hK.out;clear hK;simp only [Ql]at hd;obtain⟨hf8,_⟩:=hd;simp only [Qd,Act.put,List.setIfInBounds_toArray,List.set_cons_zero,List.set_cons_succ]at hK' ⊢;rw [yf8]at hf8;simp only [hf8]at hK' ⊢;go_simp;exact hK' _ _ (by rw [cEq];exact hw) (Qb yM 9 (by kernel_rfl) xs W _) (by rw [yf9];exact if_pos rfl)
       exact Qf.nil
     intro xs W hw hd;rw [cEq]at hw;simp only [Yd]at hd;obtain⟨fe0,fe1,fe2,fe3,fe4,fe5,fe6,fe7,fe8,fe9,_⟩:=hd;have fe0:=fe0 (by kernel_rfl);rw [yf0]at fe0;have fe1:=fe1 (by kernel_rfl);rw [yf1]at fe1;have fe2:=fe2 (by kernel_rfl);rw [yf2]at fe2;have fe3:=fe3 (by kernel_rfl);rw [yf3]at fe3;have fe4:=fe4 (by kernel_rfl);rw [yf4]at fe4;have fe5:=fe5 (by kernel_rfl);rw [yf5]at fe5;have fe6:=fe6 (by kernel_rfl);rw [yf6]at fe6;have fe7:=fe7 (by kernel_rfl);rw [yf7]at fe7;have fe8:=fe8 (by kernel_rfl);rw [yf8]at fe8;have fe9:=fe9 (by kernel_rfl);rw [yf9]at fe9;simp only [Qd,Act.put,List.setIfInBounds_toArray,List.set_cons_zero,List.set_cons_succ];generalize xs 0=xv0 at *;generalize xs 1=xv1 at *;generalize xs 2=xv2 at *;generalize xs 3=xv3 at *;generalize xs 4=xv4 at *;generalize xs 5=xv5 at *;generalize xs 6=xv6 at *;generalize xs 7=xv7 at *;generalize xs 8=xv8 at *;generalize xs 9=xv9 at *;subst fe0;subst fe1;subst fe2;subst fe3;subst fe4;subst fe5;subst fe6;subst fe8;subst fe9;clear yf0 yf1 yf2 yf3 yf4 yf5 yf6 yf7 yf8 yf9 yf10 yN yR yM yP cEq;go_wp2_with fail;go_roundg (n-(k+m))
     case measure=>have:=HM.out;have:=HK.out;omega
     case rel=>exact⟨k+m,by have:=HM.out;omega,by have:=HM.out;omega,rfl,fe7.2,hw⟩
   (obtain rfl:k=n:=by omega);clear bk fk hk hk1 B3 F3;go_wp2_with fail;(try go_ret);refine hR.out _ _ ⟨G,rfl,?_,FK.out,by have:=HGG.out;omega⟩;have:=BK.out;simpa [QV]using this
section
variable {P:Program} (w:World)
theorem Kw {ops:Array Oper} {rest:List Oper} {o:Oper} {a:Act} {Q:Exit->Act->World->Prop} (hgd:o.guard=none) (s x:Operand) (t:TypeId)
   (ho:o.op = .call { callee:=.builtin .append,args:=#[s,x],argTypes:=#[t,t] }) (e:TypeId) (z:Value) (k Qa:Nat) (ht:P.underlying t=some (.slice e)) (hi:(P.info? e).map (fun i=>(i.zero,i.size,i.bytes))=some (some z,k,Qa)) (hzs:z.cells.size=k) (hk:0<k) (hby:Qa<=1024)
   (v:Value) (rows:List (List Value)) (hs:a.eval s=v) (hown:QZ w e k v rows) (kb m cap:Nat) (news:List (List Value)) (hnews:∀r∈news,r.length=k) (hm:news.length=m) (hm0:0<m) (h1:∀u∈news.flatten,u.oneCell'=true) (hx:a.eval x = .slice (some ⟨kb,0,none⟩) m cap) (hb:Blk w kb e news.flatten.toArray) (hlen:rows.length+m<=2^30)
   (h:∀g cap w',QZ w' e k (.slice (some ⟨g,0,none⟩) (rows.length+m) cap) (rows++news)->w.grownBy w' v.ownBlock->(v.ownBlock=some g\/g=w.heap.size)->g<w'.heap.size->wpList P ops Q rest (a.put o.dst (.slice (some ⟨g,0,none⟩) (rows.length+m) cap)) w') :
   wpList P ops Q (o::rest) a w:=by
 obtain⟨i,hi0,hz,hsize,hbyt⟩:=info_parts hi
 have hcells:∀(j:Nat) u,news.flatten[j]?=some u->w.cell? ((⟨kb,0,none⟩:Addr).add j)=some u:=by
   intro j u hu;rw [Addr.add_lit,hb.cells j u (by simpa using hu)]
 have hmul:(rows.length+m)*Qa<=140737488355328:=Nat.le_trans (Nat.mul_le_mul hlen hby) (by decide);refine wpList_append_lies w hgd s x _ ho 0 e i z k Qa ht hi0 hz hsize hbyt hzs hk v rows.length _ hs hown.1 ⟨kb,0,none⟩ m cap news.flatten hx (by rw [Jf hnews,hm]) hcells h1 hm0 (by simp only [maxLen];omega) hmul (Nat.zero_le _) _ rfl ?_;intro g cap w' h2 h3 h4 h5;refine h g cap w' ⟨?_,?_⟩ h3 h4 h5
 . rw [List.flatten_append,List.length_append,hm]
   exact h2
 intro r hr;rcases List.mem_append.1 hr with hr|hr
 . exact hown.2 r hr
 exact hnews r hr
end
theorem XG (b n c:Nat) (w:World) (h:∀k,k<n->w.cell? ⟨b,k,none⟩=some (.int .i64 0)) (hn:n<=8):Calls Tryz.prog 318 #[.slice (some ⟨b,0,none⟩) n c] w fun e w'=>e = .returned (.int .i64 0)/\w'=w:=by
 have HH:=hd_ h;(have hnI:(n:Int)<=8:=by omega);clear h;refine Qg fun R hR=>?_;go_enter Tryz.func318,Tryz.ntmps318;go_wp2_with fail;go_loopg [7] n (fun f vi wr=>∃k:Nat,k+f=n/\vi = .int .i64 k/\wr=w)
 case atStart=>exact⟨0,by omega,rfl,rfl⟩
 case round =>
   obtain⟨k,hk,rfl,rfl⟩:=hrel;have HK:=hd_ hk;by_cases hlt:k<n
   . have hlI:(k:Int)<n:=by omega
     (have hk0:0<=(k:Int):=by omega);have c0:=HH.out k hlt;clear hk;go_wp2_with fail;go_roundg (gk-1)
     case measure=>have:=HK.out;omega
     case rel=>exact⟨k+1,by have:=HK.out;omega,by go_num,rfl⟩
   (have hlI:¬(k:Int)<n:=by omega);clear hk;go_wp2_with fail;(try go_ret);exact hR.out _ _ ⟨rfl,rfl⟩
theorem Xs (t s L B:Nat) (w:World) (h:w.cell? ⟨t,0,none⟩=some (.int .i64 (B:Nat))) (hLB:L<=B) (hB:B<=11) :
   Calls Tryz.prog 325 #[.agg #[.int .i64 (s:Nat),.int .i64 (L:Nat)],.pointer (some ⟨t,0,none⟩)] w fun e w'=>e = .returned (.tuple #[.int .i64 ((2^(B-L):Nat):Int),.agg #[.int .i64 (s:Nat),.int .i64 (L:Nat)]])/\Q0 w w':=by
 obtain⟨d,hd⟩:∃d,B=L+d:=⟨B-L,by omega⟩;subst hd;(have hsub:IntKind.i64.wrap (((L+d:Nat):Int)-L)=(d:Nat):=by rw [IntWalk.i64_in _ (by omega)];omega);(have e1:L+d-L=d:=by omega);rw [e1];(have hd11:d<=11:=by omega);(have hp:(2:Int)^d=((2^d:Nat):Int):=by simp);have hpl:2^d<=2048:=Nat.pow_le_pow_right (n:=2) (by decide) hd11;(have hw2:wrap64 ((2:Int)^d)=((2^d:Nat):Int):=by rw [hp];generalize 2^d=q at *;unfold wrap64;omega);obtain⟨w0,hw0⟩:=nm_ ((w.alloc (.cells #[.int .i64 (s:Nat),.int .i64 (L:Nat)] 379)).alloc (.cells #[.int .i64 0,.int .i64 0] 379));obtain⟨H,hH⟩:=nm_ (w.heap.size);(have f0:Q0 w w0:=by rw [hw0];exact((Upd.refl _ _).alloc _).alloc _);(have b0:Blk w0 H 379 #[.int .i64 (s:Nat),.int .i64 (L:Nat)]:=by rw [hw0];exact(Qc hH _ _).alloc _);(have b1:Blk w0 (H+1) 379 #[.int .i64 0,.int .i64 0]:=by rw [hw0];exact Qc (by simp [hH]) _ _)
 have hc:w0.cell? ⟨t,0,none⟩=some (.int .i64 ((L+d:Nat):Int)):=by
   have hlt:t<w.heap.size:=by
     rcases Nat.lt_or_ge t w.heap.size with h1|h1
     . exact h1
     simp [World.cell?,Array.getElem?_eq_none h1]at h
   rw [Q0.cells f0 t 0 hlt];exact h
 have c0:=b0.cell 0;have c1:=b0.cell 1;have c2:=b1.cell 0;have c3:=b1.cell 1;have z2:=b1.frozen 0;have z3:=b1.frozen 1;simp at c0 c1 c2 c3;have HW:=hd_ hw0;have HH:=hd_ hH;have F0:=hd_ f0;have B1:=hd_ b1;obtain⟨B,hBd⟩:=nm_ (L+d);rw [<-hBd]at hsub hc;(have hsz:(w.alloc (.cells #[.int .i64 (s:Nat),.int .i64 (L:Nat)] 379)).heap.size=H+1:=by simp [hH]);clear hw0 hH f0 b0 b1 h hLB hB e1 hp hpl hBd;refine Qg fun R hR=>?_;go_enter Tryz.func325,Tryz.ntmps325;go_upto_region 1 with fail;simp only [hsz,<-HH.out,<-HW.out];clear hsz;refine Qv 7 (by kernel_rfl) (by kernel_rfl) ?_;simp only [List.take_succ_cons,List.take_zero,List.drop_succ_cons,List.drop_zero];(repeat(first|go_big_quiet_step (fail)|quiet_step (fail)));refine wpQuiet_nil ?_;rintro w5 ⟨q5,rfl⟩;have HW2:=hd_ hw2;clear hw2;go_wp2_with fail;have b5:=((B1.out.drewN q5).set_ 0 (.int .i64 (s:Nat))).set_ 1 (.int .i64 (L:Nat));obtain⟨d0,d1⟩:=(b5).cells2;refine⟨rfl,.tuple #[.int .i64 (wrap64 (2^d)),.agg #[.int .i64 (s:Nat),.int .i64 (L:Nat)]],?_,hR.out _ _ ⟨by rw [HW2.out],?_⟩⟩
 . simp [results,Tryz.results325,go_sem,d0,d1]
 exact((F0.out.drewN q5).setCell (p:=⟨H+1,0,none⟩) (fun h=>by have:=HH.out;simp at h;omega) _).setCell (p:=⟨H+1,1,none⟩) (fun h=>by have:=HH.out;simp at h;omega) _
theorem Q0d (l:List Int) (p:List Nat) (s:Nat):QX l (p++[s])=QX l p++List.replicate (2^(Qo l-(Qh l s).1)) (s,(Qh l s).1):=by
 rw [YZ];simp [QX]
theorem Vz (l:List Int) (L:List Nat) (k:Nat):(QX l (L.take k)).length<=(QX l L).length:=by
 (have:QX l L=QX l (L.take k)++QX l (L.drop k):=by rw [<-YZ,List.take_append_drop]);rw [this,List.length_append];omega
theorem Q1i (F:Nat->Prop) (on c t:Nat) (A:Option Addr) (l:List Int) (L:List Nat) (w:World) (hr:RdK w F 2 A on (L.map fun s=>en2 (s,(Qh l s).1))) (ht:w.cell? ⟨t,0,none⟩=some (.int .i64 (Qo l:Nat))) (htl:t<w.heap.size) (hok:Qj l) (hlen:(QX l L).length<=2048) (hon:on<=4096) :
   Calls Tryz.prog 324 #[.slice A on c,.func (.func 325) #[] #[.pointer (some ⟨t,0,none⟩)]] w fun e w' =>
     ∃v,e = .returned v/\QZ w' 379 2 v ((QX l L).map en2)/\(∀b,v.ownBlock=some b->w.heap.size<=b)/\Q0 w w':=by
 (have hL:L.length=on:=by have:=hr.1;simpa using this);have HR:=hd_ (fun W (hW:Q0 w W)=>hr.fresh hW);have HT:=hd_ (fun W (hW:Q0 w W)=>(Q0.cells hW t 0 htl).trans ht);have HOK:=hd_ hok;have HLEN:=hd_ hlen;have HL:=hd_ hL;(have hnI:(on:Int)<=4096:=by omega);clear hr ht htl hok hlen hon hL;refine Qg fun R hR=>?_;go_enter Tryz.func324,Tryz.ntmps324;go_wp2_with fail;go_loopg [4,11] on (fun f vo vi wr=>∃k:Nat,k+f=on/\vi = .int .i64 k/\QZ wr 379 2 vo ((QX l (L.take k)).map en2)/\(∀b,vo.ownBlock=some b->w.heap.size<=b)/\Q0 w wr)
 case atStart=>exact⟨0,by omega,rfl,by simpa [QX]using QZ.nil w _ _,fun b hb=>by simp [Value.ownBlock]at hb,Upd.refl _ _⟩
 case round =>
   obtain⟨k,hk,rfl,ov,hv,fr⟩:=hrel;have HK:=hd_ hk;by_cases hlt:k<on
   . have hlI:(k:Int)<on:=by omega
     (have hk0:0<=(k:Int):=by omega);(have hkL:k<L.length:=by rw [HL.out];exact hlt);obtain⟨s,hs⟩:=nm_ (L[k]);obtain⟨b,o,rfl,_,hbl,hc9⟩:=(HR.out wr fr).at_ (r:=0) hlt;(have hrow:(L.map fun s=>en2 (s,(Qh l s).1))[k]'(by simpa using hkL)=en2 (s,(Qh l s).1):=by simp [hs]);have c0:=hc9 0 (by omega);have c1:=hc9 1 (by omega);rw [hrow]at c0 c1;have hsn:=Q0d l (L.take k) s;(have htk:L.take (k+1)=L.take k++[s]:=by rw [List.take_succ_eq_append_getElem hkL,<-hs]);rw [<-htk]at hsn;have hle:=Jy HOK.out s;have hm:=YG HOK.out;have hbd:=Vz l L (k+1);obtain⟨la,hla⟩:=nm_ ((Qh l s).1);obtain⟨E,hE⟩:=nm_ (QX l (L.take k));rw [<-hE]at ov hsn;rw [<-hla]at hsn hle;simp only [en2,<-hla,List.getElem?_cons_zero,List.getElem?_cons_succ]at c0 c1;simp at c0 c1;obtain⟨M,hM⟩:=nm_ (2^(Qo l-la));(have hM0:0<M:=by rw [hM];exact Nat.two_pow_pos _);(have hM2:M<=2048:=by rw [hM];exact Nat.pow_le_pow_right (n:=2) (by decide) (show Qo l-la<=11 by omega));have HEN:=hd_ (fun W (hW:Q0 w W)=>Xs t s la (Qo l) W (HT.out W hW) hle hm);rw [<-hM]at hsn HEN;have HBD:=hd_ (show E.length+M<=2048 by have h1:=HLEN.out;rw [hsn]at hbd;simp at hbd;omega);have HSN:=hd_ hsn;have HMM:=hd_ (And.intro hM0 hM2);have OV:=hd_ ov;have HV:=hd_ hv;have FR:=hd_ fr;obtain⟨A3,n3,c3,rfl,hn3⟩:=ov.form';clear hc9 hrow hs hsn htk hle hm hbd hla hE hM hM0 hM2 ov hv fr hk hbl hkL hn3;go_wp2_with fail;refine(HEN.out _ (FR.out.alloc _)).mono ?_;rintro e w3 ⟨rfl,f3⟩;have F3:=hd_ (((Upd.refl (fun _=>False) wr).alloc _).trans' f3);clear f3 HEN;go_wp2_with fail;obtain⟨Q,hQ⟩:=nm_ (w3.heap.size);obtain⟨w4,hw4⟩:=nm_ ((w3.alloc (.cells #[.int .i64 (s:Nat),.int .i64 (la:Nat)] 379)).alloc (.cells #[.int .i64 (s:Nat),.int .i64 (la:Nat)] 379));simp only [<-hQ,<-hw4];(have b4:Blk w4 (Q+1) 379 (Qx [(s,la)]).toArray:=by rw [hw4];exact Qc (by simp [hQ]) _ _);(have f4:Q0 w3 w4:=by rw [hw4];exact((Upd.refl _ _).alloc _).alloc _);have HSR:=hd_ (Q1h (Q+1) 1 M (s,la) w4 b4 HMM.out.1 HMM.out.2);have F4:=hd_ (F3.out.trans' f4);clear hQ hw4 b4 f4 F3;refine HSR.out.mono ?_;rintro e w5 ⟨g,rfl,bg,f5,hg⟩;have F5:=hd_ (F4.out.trans' f5);have BG:=hd_ bg;clear bg f5 hg HSR F4;go_wp2_with (at_builtin;go_must (refine Kw _ rfl (.tmp 21) (.tmp 25) _ rfl 379 _ 2 16 Tryz.underlying371 Zz rfl (by decide) (by decide) (.slice A3 n3 c3) (E.map en2) rfl (OV.out.fresh F5.out) g M M ((List.replicate M (s,la)).map en2) (KW _) (by simp) HMM.out.1 (KX M (s,la)) rfl BG.out (by have:=HBD.out;simp;omega) ?_));intro g6 cap6 w6 o6 gr6 a6 h6;have u6:Upd (fun b=>(Value.slice A3 n3 c3).ownBlock=some b) wr w6:=(F5.out.mono (fun _ _ h=>h.elim)).grown gr6 (fun k hk _=>hk);have O6:=hd_ o6;have FR6:=hd_ (FR.out.trans u6 (fun b hb h=>by have:=HV.out b h;omega))
     have HV6:=hd_ (show ∀b,(Value.slice (some ⟨g6,0,none⟩) ((E.map en2).length+M) cap6).ownBlock=some b->w.heap.size<=b from fun b hb=>by
       (have e:g6=b:=by simpa [Value.ownBlock]using hb);subst e;rcases a6 with h|h
       . exact HV.out _ h
       have:=FR.out.size;have:=F5.out.size;omega)
     clear o6 gr6 a6 h6 u6 BG;obtain⟨LN,hLN⟩:=nm_ ((E.map en2).length+M);simp only [<-hLN]at O6 HV6 ⊢;clear hLN;go_wp2_with fail;go_roundg (gk-1)
     case measure=>have:=HK.out;omega
     case rel=>exact⟨k+1,by have:=HK.out;omega,by go_num,by rw [HSN.out,List.map_append,List.map_replicate];exact O6.out,HV6.out,FR6.out⟩
   (obtain rfl:k=on:=by omega);rw [List.take_of_length_le (by rw [HL.out];exact Nat.le_refl _)]at ov;have OV:=hd_ ov;have HV:=hd_ hv;have FR:=hd_ fr;clear ov hv fr hk;go_wp2_with fail;(try go_ret);exact hR.out _ _ ⟨_,rfl,OV.out,HV.out,FR.out⟩
end Go.Proofs.YtckjdhaflokcgaaGreat
