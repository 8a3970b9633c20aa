/-
  Joined texts, part 48: contracts and plain lemmas.
  Conditions: none beyond those of each theorem.
-/
import Derived.Test.YtckjdhaflokcgaaGreatQ21
import Derived.Test.YtckjdhaflokcgaaGreatQ46
import Derived.Test.YtckjdhaflokcgaaGreatQ42
set_option maxHeartbeats 4000000
set_option linter.unusedVariables false
set_option linter.unusedSimpArgs false
set_option linter.unnecessarySimpa false
set_option maxRecDepth 100000
universe u
namespace Go.Proofs.YtckjdhaflokcgaaGreat
open Go.RowKit
theorem Q1P (F G:Nat->Prop) (g p:Nat) (bs:List Nat) (t:Nat) (l:List Int) (w:World) (hf:Y1 w F g bs t) (htb:Ye w G p l) (ht:Qj l) (hFg:∀b,F b->b≠g) (hGg:∀b,G b->b≠g) (hpg:p≠g) :
   Calls Tryz.prog 281 #[.agg #[.pointer (some ⟨g,0,none⟩),.pointer (some ⟨p,0,none⟩)]] w fun e w'=>Upd (fun b=>b=g) w w'/\Ye w' G p l /\
     match Kf l (Yn bs) t with
     | some (s,t')=>e = .returned (.tuple #[.int .u8 (s:Nat),.bool true])/\Y1 w' F g bs t'
     | none=>e = .returned (.tuple #[.int .u8 0,.bool false]):=by
 obtain⟨w0,hw0⟩:=nm_ (w.alloc (.cells #[.pointer (some ⟨g,0,none⟩),.pointer (some ⟨p,0,none⟩)] 286));obtain⟨H,hH⟩:=nm_ (w.heap.size);(have f0:Q0 w w0:=by rw [hw0];exact(Upd.refl _ _).alloc _);(have b0:Blk w0 H 286 #[.pointer (some ⟨g,0,none⟩),.pointer (some ⟨p,0,none⟩)]:=by rw [hw0];exact Qc hH _ _);obtain⟨n,hn⟩:=nm_ (min t 11);obtain⟨X,hX⟩:=nm_ (Yn bs / 2^(t-n)%2^n);(have hXl:X<2^n:=by rw [hX];exact Nat.mod_lt _ (Nat.two_pow_pos _));have HLF:=hd_ (Vd F g bs t w0 (hf.fresh f0));have HPK0:=hd_ (fun W (hW:Q0 w W)=>Q1d F g bs t n W (hf.fresh hW) (by omega) (by omega));have HDC0:=hd_ (fun W (hW:Q0 w W)=>Q2K G p l X n W (htb.fresh hW) ht hXl (by omega));have HSK:=hd_ (fun W (hW:Q0 w W) k (hk:k<=64) (hkt:k<=t)=>Q3r F g bs t k W (hf.fresh hW) hk hkt hFg);rw [<-hX]at HPK0;(have hsy:Kf l (Yn bs) t=if(Yk l X n).2<=n then some ((Yk l X n).1,t-(Yk l X n).2)else none:=by unfold Kf;rw [<-hn,<-hX]);rw [hsy];have hfl:=(XN (X1 ht hXl)).1;have hl256:=ht.2.1;obtain⟨⟨sy,ln⟩,hfd⟩:∃q,q=Yk l X n:=⟨_,rfl⟩;rw [<-hfd]at HDC0 hfl ⊢;simp only at HDC0 hfl ⊢;have HTB:=hd_ htb;(have hnt:min (t:Int) 11=(n:Nat):=by omega);(have hntl:n<=t/\n<=11:=by omega);have HNT:=hd_ hntl;have HGG:=hd_ (And.intro hGg hpg);(have hsyI:(sy:Int)<256:=by omega);have HW:=hd_ hw0;have HH:=hd_ hH;have F0:=hd_ f0;have B0:=hd_ b0;obtain⟨x0,x1⟩:=(b0).cells2;(have hgl:g<H:=by rw [hH];exact hf.lt);have HGL:=hd_ hgl
 have hwb:IntKind.u8.wrap (sy:Int)=(sy:Nat):=by
   (have h8:∀x:Fin 256,IntKind.u8.wrap ((x.val:Nat):Int)=(x.val:Nat):=by decide +kernel);exact h8 ⟨sy,by omega⟩
 clear hw0 hH f0 b0 hf htb ht hFg hGg hpg hsy hXl hX hn hfl hl256 hfd hntl hgl;refine Qg fun R hR=>?_;go_enter Tryz.func281,Tryz.ntmps281;go_upto_region 1 with fail;simp only [<-HH.out,<-HW.out];go_wp2_with fail;refine HLF.out.mono ?_;rintro e w2 ⟨rfl,f2⟩;have F2:=hd_ (F0.out.trans' f2);have B2:=hd_ (B0.out.fresh f2);have HCB:=hd_ (show ∀W,Q0 w2 W->W.cell? ⟨H,0,none⟩=some (.pointer (some ⟨g,0,none⟩))/\W.cell? ⟨H,1,none⟩=some (.pointer (some ⟨p,0,none⟩))from fun W hW=>⟨by simpa using((B0.out.fresh f2).fresh hW).cell 0,by simpa using((B0.out.fresh f2).fresh hW).cell 1⟩);clear f2 HLF x0 x1
 obtain⟨a,b,er,HDC,HCASE⟩:∃a b er:Int,Hid (∀W,Q0 w2 W->Calls Tryz.prog 309 #[.pointer (some ⟨p,0,none⟩),.int .u64 (X:Nat),.int .i64 (n:Nat)] W fun e w'=>e = .returned (.tuple #[.int .i64 a,.int .i64 b,.int .i64 er])/\Q0 W w') /\
     Hid ((ln<=n/\a=(sy:Nat)/\b=(ln:Nat)/\er=0)\/(¬ln<=n/\er=3)):=by
   by_cases hl:ln<=n
   . exact⟨sy,ln,0,fun W hW=>(HDC0.out W (F2.out.trans' hW)).mono fun e w' h=>by rw [if_pos hl]at h;exact h,.inl ⟨hl,rfl,rfl,rfl⟩⟩
   exact⟨0,0,3,fun W hW=>(HDC0.out W (F2.out.trans' hW)).mono fun e w' h=>by rw [if_neg hl]at h;exact h,.inr ⟨hl,rfl⟩⟩
 have HPK:=hd_ (fun W (hW:Q0 w2 W)=>HPK0.out W (F2.out.trans' hW));clear HDC0 HPK0;go_upto_region 2 with fail;obtain⟨Cw,cEq⟩:=exC (fun W=>Q0 w2 W);obtain⟨Y,yA⟩:=exY [fun xs W=>(xs 0) = .pointer (some ⟨H,1,none⟩),fun xs W=>(xs 1) = .pointer (some ⟨p,0,none⟩),fun xs W=>(xs 2) = .pointer (some ⟨H,0,none⟩),fun xs W=>(xs 3) = .pointer (some ⟨g,0,none⟩),fun xs W=>(xs 4) = .int .i64 (n:Nat),fun xs W=>(xs 5) = .int .u64 (X:Nat),fun xs W=>(xs 6) = .int .i64 (n:Nat),fun xs W=>(xs 7) = .tuple #[.int .i64 a,.int .i64 b,.int .i64 er],fun xs W=>(xs 8) = .tuple #[.int .i64 a,.int .i64 b,.int .i64 er],fun xs W=>(xs 9) = .int .i64 a,fun xs W=>(xs 10) = .int .i64 b,fun xs W=>(xs 11) = .int .i64 er,fun xs W=>(xs 12) = .int .i64 a,fun xs W=>(xs 13) = .int .i64 b,fun xs W=>(xs 14) = .int .i64 er];have yf0:=yA 0;have yf1:=yA 1;have yf2:=yA 2;have yf3:=yA 3;have yf4:=yA 4;have yf5:=yA 5;have yf6:=yA 6;have yf7:=yA 7;have yf8:=yA 8;have yf9:=yA 9;have yf10:=yA 10;have yf11:=yA 11;have yf12:=yA 12;have yf13:=yA 13;have yf14:=yA 14;simp only [List.getD_cons_zero,List.getD_cons_succ]at yf0 yf1 yf2 yf3 yf4 yf5 yf6 yf7 yf8 yf9 yf10 yf11 yf12 yf13 yf14;(have yN:∀j xs W,15<=j->Y j xs W=True:=fun j xs W hj=>by rw [yA,QR _ _ _ hj])
 have yP:∀j xs W W',j∈[0,1,2,3,4,5,6,7,8,9,10,11,12,13,14]->Y j xs W->Y j xs W':=by
   intro j xs W W' hj hy;simp only [List.mem_cons,List.not_mem_nil,or_false]at hj;rcases hj with rfl|rfl|rfl|rfl|rfl|rfl|rfl|rfl|rfl|rfl|rfl|rfl|rfl|rfl|rfl
   . rw [yf0]at hy ⊢;exact hy
   . rw [yf1]at hy ⊢;exact hy
   . rw [yf2]at hy ⊢;exact hy
   . rw [yf3]at hy ⊢;exact hy
   . rw [yf4]at hy ⊢;exact hy
   . rw [yf5]at hy ⊢;exact hy
   . rw [yf6]at hy ⊢;exact hy
   . rw [yf7]at hy ⊢;exact hy
   . rw [yf8]at hy ⊢;exact hy
   . rw [yf9]at hy ⊢;exact hy
   . rw [yf10]at hy ⊢;exact hy
   . rw [yf11]at hy ⊢;exact hy
   . rw [yf12]at hy ⊢;exact hy
   . rw [yf13]at hy ⊢;exact hy
   rw [yf14]at hy ⊢;exact hy
 have yM:YA [[0],[1],[2],[3],[4],[5],[6],[7],[8],[9],[10],[11],[12],[13],[14]] Y:=by
   intro j xs xs' W hh hy;by_cases hj:15<=j
   . rw [yN j _ _ hj];trivial
   (have hj':j=0\/j=1\/j=2\/j=3\/j=4\/j=5\/j=6\/j=7\/j=8\/j=9\/j=10\/j=11\/j=12\/j=13\/j=14:=by omega);rcases hj' with rfl|rfl|rfl|rfl|rfl|rfl|rfl|rfl|rfl|rfl|rfl|rfl|rfl|rfl|rfl
   . rw [yf0]at hy ⊢;rw [<-hh 0 (by decide)];exact hy
   . rw [yf1]at hy ⊢;rw [<-hh 1 (by decide)];exact hy
   . rw [yf2]at hy ⊢;rw [<-hh 2 (by decide)];exact hy
   . rw [yf3]at hy ⊢;rw [<-hh 3 (by decide)];exact hy
   . rw [yf4]at hy ⊢;rw [<-hh 4 (by decide)];exact hy
   . rw [yf5]at hy ⊢;rw [<-hh 5 (by decide)];exact hy
   . rw [yf6]at hy ⊢;rw [<-hh 6 (by decide)];exact hy
   . rw [yf7]at hy ⊢;rw [<-hh 7 (by decide)];exact hy
   . rw [yf8]at hy ⊢;rw [<-hh 8 (by decide)];exact hy
   . rw [yf9]at hy ⊢;rw [<-hh 9 (by decide)];exact hy
   . rw [yf10]at hy ⊢;rw [<-hh 10 (by decide)];exact hy
   . rw [yf11]at hy ⊢;rw [<-hh 11 (by decide)];exact hy
   . rw [yf12]at hy ⊢;rw [<-hh 12 (by decide)];exact hy
   . rw [yf13]at hy ⊢;rw [<-hh 13 (by decide)];exact hy
   rw [yf14]at hy ⊢;rw [<-hh 14 (by decide)];exact hy
 clear yA
 have yR:∀j xs,15<=j->Y j xs (w2.drew):=by
   intro j xs hj;rcases(show 15<=j by omega)with hj;rw [yN _ _ _ hj];trivial
 refine QK Cw (fun j=>[]) Y [(0,some 13),(1,some 14),(2,some 15),(3,some 16),(4,some 17),(5,some 18),(6,some 19),(7,some 20),(8,some 12),(9,some 21),(10,some 22),(11,some 23),(12,some 5),(13,some 6),(14,some 7)] (by kernel_rfl) (by kernel_rfl) (by kernel_rfl) (by rw [cEq];exact(Upd.refl _ _).drew) (fun j hj=>yR j _ hj) ?_ ?_
 . refine Qf.cons [] (by kernel_rfl) (fun xs W hw hd lst hl K hK=>?_) ?_
   . rw [cEq]at hw
     have hK':=hK.out;clear hK;simp only [Qd,Act.put,List.setIfInBounds_toArray,List.set_cons_zero,List.set_cons_succ]at hK' ⊢;go_simp;exact hK' _ _ (by rw [cEq];exact hw) (Qb yM 0 (by kernel_rfl) xs W _) (by rw [yf0];exact if_pos rfl)
   refine Qf.cons [(0,some 13)] (by kernel_rfl) (fun xs W hw hd lst hl K hK=>?_) ?_
   . rw [cEq]at hw
     have hK':=hK.out;clear hK;simp only [Ql]at hd;obtain⟨hf0,_⟩:=hd;simp only [Qd,Act.put,List.setIfInBounds_toArray,List.set_cons_zero,List.set_cons_succ]at hK' ⊢;rw [yf0]at hf0;simp only [hf0]at hK' ⊢;have cl:=HCB.out W hw;obtain⟨cl0,cl1⟩:=cl;go_simp;exact hK' _ _ (by rw [cEq];exact hw) (Qb yM 1 (by kernel_rfl) xs W _) (by rw [yf1];exact if_pos rfl)
   refine Qf.cons [] (by kernel_rfl) (fun xs W hw hd lst hl K hK=>?_) ?_
   . rw [cEq]at hw
     have hK':=hK.out;clear hK;simp only [Qd,Act.put,List.setIfInBounds_toArray,List.set_cons_zero,List.set_cons_succ]at hK' ⊢;go_simp;exact hK' _ _ (by rw [cEq];exact hw) (Qb yM 2 (by kernel_rfl) xs W _) (by rw [yf2];exact if_pos rfl)
   refine Qf.cons [(2,some 15)] (by kernel_rfl) (fun xs W hw hd lst hl K hK=>?_) ?_
   . rw [cEq]at hw
     have hK':=hK.out;clear hK;simp only [Ql]at hd;obtain⟨hf2,_⟩:=hd;simp only [Qd,Act.put,List.setIfInBounds_toArray,List.set_cons_zero,List.set_cons_succ]at hK' ⊢;rw [yf2]at hf2;simp only [hf2]at hK' ⊢;have cl:=HCB.out W hw;obtain⟨cl0,cl1⟩:=cl;go_simp;exact hK' _ _ (by rw [cEq];exact hw) (Qb yM 3 (by kernel_rfl) xs W _) (by rw [yf3];exact if_pos rfl)
   refine Qf.cons [] (by kernel_rfl) (fun xs W hw hd lst hl K hK=>?_) ?_
   . rw [cEq]at hw
     have hK':=hK.out;clear hK;simp only [Qd,Act.put,List.setIfInBounds_toArray,List.set_cons_zero,List.set_cons_succ]at hK' ⊢;go_simp;exact hK' _ _ (by rw [cEq];exact hw) (Qb yM 4 (by kernel_rfl) xs W _) (by rw [yf4];exact if_pos rfl)
   refine Qf.cons [(3,some 16),(4,some 17)] (by kernel_rfl) (fun xs W hw hd lst hl K hK=>?_) ?_
   . rw [cEq]at hw
     have hK':=hK.out;clear hK;simp only [Ql]at hd;obtain⟨hf3,hf4,_⟩:=hd;simp only [Qd,Act.put,List.setIfInBounds_toArray,List.set_cons_zero,List.set_cons_succ]at hK' ⊢;rw [yf3]at hf3;rw [yf4]at hf4;simp only [hf3,hf4]at hK' ⊢;go_simp;refine(HPK.out W hw).mono ?_;rintro e9 w9 ⟨rfl,f9⟩;have hR:=trivial;refine hK' (_) (w9) (by rw [cEq];exact hw.trans' f9) (QG yM 5 (by kernel_rfl) _ fun j hs hy=>?_) (by rw [yf5];(try simp only [↓reduceIte]);try exact rfl);by_cases hp:j∈[0,1,2,3,4,5,6,7,8,9,10,11,12,13,14]
     . exact yP j _ _ _ hp hy
     by_cases hj:15<=j
     . rw [yN j _ _ hj];trivial
     simp only [List.mem_cons,List.not_mem_nil,or_false]at hp;exfalso;omega
   refine Qf.cons [] (by kernel_rfl) (fun xs W hw hd lst hl K hK=>?_) ?_
   . rw [cEq]at hw
     have hK':=hK.out;clear hK;simp only [Qd,Act.put,List.setIfInBounds_toArray,List.set_cons_zero,List.set_cons_succ]at hK' ⊢;go_simp;exact hK' _ _ (by rw [cEq];exact hw) (Qb yM 6 (by kernel_rfl) xs W _) (by rw [yf6];exact if_pos rfl)
   refine Qf.cons [(1,some 14),(5,some 18),(6,some 19)] (by kernel_rfl) (fun xs W hw hd lst hl K hK=>?_) ?_
   . rw [cEq]at hw
     have hK':=hK.out;clear hK;simp only [Ql]at hd;obtain⟨hf1,hf5,hf6,_⟩:=hd;simp only [Qd,Act.put,List.setIfInBounds_toArray,List.set_cons_zero,List.set_cons_succ]at hK' ⊢;rw [yf1]at hf1;rw [yf5]at hf5;rw [yf6]at hf6;simp only [hf1,hf5,hf6]at hK' ⊢;go_simp;refine(HDC.out W hw).mono ?_;rintro e9 w9 ⟨rfl,f9⟩;have hR:=trivial;refine hK' (_) (w9) (by rw [cEq];exact hw.trans' f9) (QG yM 7 (by kernel_rfl) _ fun j hs hy=>?_) (by rw [yf7];(try simp only [↓reduceIte]);try exact rfl);by_cases hp:j∈[0,1,2,3,4,5,6,7,8,9,10,11,12,13,14]
     . exact yP j _ _ _ hp hy
     by_cases hj:15<=j
     . rw [yN j _ _ hj];trivial
     simp only [List.mem_cons,List.not_mem_nil,or_false]at hp;exfalso;omega
   refine Qf.cons [(7,some 20)] (by kernel_rfl) (fun xs W hw hd lst hl K hK=>?_) ?_
   . rw [cEq]at hw
     have hK':=hK.out;clear hK;simp only [Ql]at hd;obtain⟨hf7,_⟩:=hd;simp only [Qd,Act.put,List.setIfInBounds_toArray,List.set_cons_zero,List.set_cons_succ]at hK' ⊢;rw [yf7]at hf7;simp only [hf7]at hK' ⊢;go_simp;exact hK' _ _ (by rw [cEq];exact hw) (Qb yM 8 (by kernel_rfl) xs W _) (by rw [yf8];exact if_pos rfl)
   refine Qf.cons [(8,some 12)] (by kernel_rfl) (fun xs W hw hd lst hl K hK=>?_) ?_
   . rw [cEq]at hw
     have hK':=hK.out;clear hK;simp only [Ql]at hd;obtain⟨hf8,_⟩:=hd;simp only [Qd,Act.put,List.setIfInBounds_toArray,List.set_cons_zero,List.set_cons_succ]at hK' ⊢;rw [yf8]at hf8;simp only [hf8]at hK' ⊢;go_simp;exact hK' _ _ (by rw [cEq];exact hw) (Qb yM 9 (by kernel_rfl) xs W _) (by rw [yf9];exact if_pos rfl)
   refine Qf.cons [(8,some 12)] (by kernel_rfl) (fun xs W hw hd lst hl K hK=>?_) ?_
   . rw [cEq]at hw
     have hK':=hK.out;clear hK;simp only [Ql]at hd;obtain⟨hf8,_⟩:=hd;simp only [Qd,Act.put,List.setIfInBounds_toArray,List.set_cons_zero,List.set_cons_succ]at hK' ⊢;rw [yf8]at hf8;simp only [hf8]at hK' ⊢;go_simp;exact hK' _ _ (by rw [cEq];exact hw) (Qb yM 10 (by kernel_rfl) xs W _) (by rw [yf10];exact if_pos rfl)
   refine Qf.cons [(8,some 12)] (by kernel_rfl) (fun xs W hw hd lst hl K hK=>?_) ?_
   . rw [cEq]at hw
     have hK':=hK.out;clear hK;simp only [Ql]at hd;obtain⟨hf8,_⟩:=hd;simp only [Qd,Act.put,List.setIfInBounds_toArray,List.set_cons_zero,List.set_cons_succ]at hK' ⊢;rw [yf8]at hf8;simp only [hf8]at hK' ⊢;go_simp;exact hK' _ _ (by rw [cEq];exact hw) (Qb yM 11 (by kernel_rfl) xs W _) (by rw [yf11];exact if_pos rfl)
   refine Qf.cons [(9,some 21)] (by kernel_rfl) (fun xs W hw hd lst hl K hK=>?_) ?_
   . rw [cEq]at hw
     have hK':=hK.out;clear hK;simp only [Ql]at hd;obtain⟨hf9,_⟩:=hd;simp only [Qd,Act.put,List.setIfInBounds_toArray,List.set_cons_zero,List.set_cons_succ]at hK' ⊢;rw [yf9]at hf9;simp only [hf9]at hK' ⊢;go_simp;exact hK' _ _ (by rw [cEq];exact hw) (Qb yM 12 (by kernel_rfl) xs W _) (by rw [yf12];exact if_pos rfl)
   refine Qf.cons [(10,some 22)] (by kernel_rfl) (fun xs W hw hd lst hl K hK=>?_) ?_
   . rw [cEq]at hw
     have hK':=hK.out;clear hK;simp only [Ql]at hd;obtain⟨hf10,_⟩:=hd;simp only [Qd,Act.put,List.setIfInBounds_toArray,List.set_cons_zero,List.set_cons_succ]at hK' ⊢;rw [yf10]at hf10;simp only [hf10]at hK' ⊢;go_simp;exact hK' _ _ (by rw [cEq];exact hw) (Qb yM 13 (by kernel_rfl) xs W _) (by rw [yf13];exact if_pos rfl)
   refine Qf.cons [(11,some 23)] (by kernel_rfl) (fun xs W hw hd lst hl K hK=>?_) ?_
   . rw [cEq]at hw
     have hK':=hK.out;clear hK;simp only [Ql]at hd;obtain⟨hf11,_⟩:=hd;simp only [Qd,Act.put,List.setIfInBounds_toArray,List.set_cons_zero,List.set_cons_succ]at hK' ⊢;rw [yf11]at hf11;simp only [hf11]at hK' ⊢;go_simp;exact hK' _ _ (by rw [cEq];exact hw) (Qb yM 14 (by kernel_rfl) xs W _) (by rw [yf14];exact if_pos rfl)
   exact Qf.nil
 intro xs W hw hd;rw [cEq]at hw;simp only [Yd]at hd;obtain⟨fe0,fe1,fe2,fe3,fe4,fe5,fe6,fe7,fe8,fe9,fe10,fe11,fe12,fe13,fe14,_⟩:=hd;have fe0:=fe0 (by first|kernel_rfl|trivial);rw [yf0]at fe0;have fe1:=fe1 (by first|kernel_rfl|trivial);rw [yf1]at fe1;have fe2:=fe2 (by first|kernel_rfl|trivial);rw [yf2]at fe2;have fe3:=fe3 (by first|kernel_rfl|trivial);rw [yf3]at fe3;have fe4:=fe4 (by first|kernel_rfl|trivial);rw [yf4]at fe4;have fe5:=fe5 (by first|kernel_rfl|trivial);rw [yf5]at fe5;have fe6:=fe6 (by first|kernel_rfl|trivial);rw [yf6]at fe6;have fe7:=fe7 (by first|kernel_rfl|trivial);rw [yf7]at fe7;have fe8:=fe8 (by first|kernel_rfl|trivial);rw [yf8]at fe8;have fe9:=fe9 (by first|kernel_rfl|trivial);rw [yf9]at fe9;have fe10:=fe10 (by first|kernel_rfl|trivial);rw [yf10]at fe10;have fe11:=fe11 (by first|kernel_rfl|trivial);rw [yf11]at fe11;have fe12:=fe12 (by first|kernel_rfl|trivial);rw [yf12]at fe12;have fe13:=fe13 (by first|kernel_rfl|trivial);rw [yf13]at fe13;have fe14:=fe14 (by first|kernel_rfl|trivial);rw [yf14]at fe14;simp only [Qd,Act.put,List.setIfInBounds_toArray,List.set_cons_zero,List.set_cons_succ];generalize xs 0=xv0 at *;generalize xs 1=xv1 at *;generalize xs 2=xv2 at *;generalize xs 3=xv3 at *;generalize xs 4=xv4 at *;generalize xs 5=xv5 at *;generalize xs 6=xv6 at *;generalize xs 7=xv7 at *;generalize xs 8=xv8 at *;generalize xs 9=xv9 at *;generalize xs 10=xv10 at *;generalize xs 11=xv11 at *;generalize xs 12=xv12 at *;generalize xs 13=xv13 at *;generalize xs 14=xv14 at *;subst fe0;subst fe1;subst fe2;subst fe3;subst fe4;subst fe5;subst fe6;subst fe7;subst fe8;subst fe9;subst fe10;subst fe11;subst fe12;subst fe13;subst fe14;clear yf0 yf1 yf2 yf3 yf4 yf5 yf6 yf7 yf8 yf9 yf10 yf11 yf12 yf13 yf14 yN yR yM yP cEq;rcases HCASE.out with ⟨hl,ha,hb,he⟩|⟨hl,he⟩
 . rw [if_pos hl]at hR
   subst ha hb he;have HS:=hd_ (HSK.out W (F2.out.trans' hw) ln (by have:=HNT.out;omega) (by have:=HNT.out;omega));have cl:=HCB.out W hw;obtain⟨cl0,cl1⟩:=cl;have FW:=hd_ (F2.out.trans' hw);clear HSK hl HDC HPK HCASE hw;go_wp2_with fail;refine HS.out.mono ?_;rintro e w6 ⟨rfl,u6,b6⟩;have U6:=hd_ ((FW.out.mono (T:=fun b=>b=g) (fun _ _ h=>h.elim)).trans' u6);have T6:=hd_ ((HTB.out.fresh FW.out).upd u6 HGG.out.2 (fun b _ hb=>HGG.out.1 b hb));have B6:=hd_ b6;clear u6 b6 HS;go_wp2_with fail;(try go_ret);exact hR.out _ _ ⟨U6.out,T6.out,rfl,B6.out⟩
 rw [if_neg hl]at hR;subst he;have FW:=hd_ (F2.out.trans' hw);clear HSK hl HDC HPK HCASE hw;go_wp2_with fail;(try go_ret);exact hR.out _ _ ⟨FW.out.mono (fun _ _ h=>h.elim),HTB.out.fresh FW.out,rfl⟩
theorem Y1.both {w:World} {F:Nat->Prop} {g:Nat} {bs:List Nat} {t:Nat} (h:Y1 w F g bs t):Y1 w (fun b=>F b/\b<w.heap.size) g bs t:=by
 obtain⟨A,c,hb,hr,h⟩:=h;exact⟨A,c,hb,hr.both,h⟩
theorem Ye.both {w:World} {F:Nat->Prop} {p:Nat} {l:List Int} (h:Ye w F p l):Ye w (fun b=>F b/\b<w.heap.size) p l:=by
 obtain⟨A,c,lv,hb,hr⟩:=h;exact⟨A,c,lv,hb,hr.both⟩
def YM (y:List Nat):Option (List Nat × Nat)->Option (List Nat × Nat):=Option.map fun q=>(y++q.1,q.2)
theorem Q0u (o:Option (List Nat × Nat)):YM [] o=o:=by
 (cases o<;>simp [YM])
theorem Q0v {l:List Int} {v t s t':Nat} (k:Nat) (h:Kf l v t=some (s,t')):Yi l v t (k+1)=YM [s] (Yi l v t' k):=by
 rw [Yi,h];simp only;(cases Yi l v t' k<;>simp [YM])
theorem Q0w {l:List Int} {v t:Nat} (k:Nat) (h:Kf l v t=none):Yi l v t (k+1)=none:=by
 rw [Yi,h]
theorem Q0x (x y:List Nat) (o:Option (List Nat × Nat)):YM x (YM y o)=YM (x++y) o:=by
 (cases o<;>simp [YM])
def ZH (F:Nat->Prop) (g:Nat) (bs:List Nat) (q:Option (List Nat × Nat)) (w:World) (e:Ending) (w':World):Prop :=
  Upd (fun b=>b=g) w w'/\match q with
    | some (x,t')=>∃v,e = .returned v/\Own w' 5 v (Qa x)/\(∀b,v.ownBlock=some b->w.heap.size<=b)/\Y1 w' F g bs t'
    | none=>e=Qi 14
theorem Q0y (F G:Nat->Prop) (g p:Nat) (bs:List Nat) (t n:Nat) (l:List Int) (w:World) (hf:Y1 w F g bs t) (htb:Ye w G p l) (ht:Qj l) (hFg:∀b,F b->b≠g) (hGg:∀b,G b->b≠g) (hpg:p≠g) (hFW:∀b,F b->b<w.heap.size) (hGW:∀b,G b->b<w.heap.size) (hn:n<=131072) :
   Calls Tryz.prog 235 #[.agg #[.pointer (some ⟨g,0,none⟩),.pointer (some ⟨p,0,none⟩)],.int .i64 (n:Nat)] w (ZH F g bs (Yi l (Yn bs) t n) w):=by
 obtain⟨w0,hw0⟩:=nm_ (w.alloc (.cells #[.pointer (some ⟨g,0,none⟩),.pointer (some ⟨p,0,none⟩)] 286));obtain⟨H,hH⟩:=nm_ (w.heap.size);(have f0:Q0 w w0:=by rw [hw0];exact(Upd.refl _ _).alloc _);(have b0:Blk w0 H 286 #[.pointer (some ⟨g,0,none⟩),.pointer (some ⟨p,0,none⟩)]:=by rw [hw0];exact Qc hH _ _);have HNX:=hd_ (fun W t' (h1:Y1 W F g bs t') (h2:Ye W G p l)=>Q1P F G g p bs t' l W h1 h2 ht hFg hGg hpg);have HI:=hd_ (And.intro (hf.fresh f0) (htb.fresh f0));have HP:=hd_ (show g<H/\p<H from⟨by rw [hH];exact hf.lt,by rw [hH];exact htb.lt⟩);have HFW:=hd_ (And.intro hFW hGW);obtain⟨V,hV⟩:=nm_ (Yn bs);rw [<-hV]at HNX;obtain⟨q,hq⟩:=nm_ (Yi l V t n);rw [<-hV,<-hq];have HQ:=hd_ hq;have HN:=hd_ hn;(have hnI:(n:Int)<=131072:=by omega);have HW:=hd_ hw0;have HH:=hd_ hH;have F0:=hd_ f0;have B0:=hd_ b0;clear hw0 hH f0 b0 hf htb ht hFg hGg hpg hFW hGW hV hq hn;refine Qg fun R hR=>?_;unfold ZH at hR;go_enter Tryz.func235,Tryz.ntmps235;go_upto_region 1 with fail;simp only [<-HH.out,<-HW.out];go_wp2_with fail;go_loopg [4,8] n (fun f vo vi wr=>∃(k:Nat) (y:List Nat) (tk:Nat),k+f=n/\vi = .int .i64 k/\y.length=k/\q=YM y (Yi l V tk (n-k))/\Own wr 5 vo (Qa y)/\(∀b,vo.ownBlock=some b->H<b)/\Y1 wr F g bs tk/\Ye wr G p l/\Blk wr H 286 #[.pointer (some ⟨g,0,none⟩),.pointer (some ⟨p,0,none⟩)]/\Upd (fun b=>b=g) w wr/\H<wr.heap.size)
 case atStart=>exact⟨0,[],t,by omega,rfl,rfl,by rw [Q0u,HQ.out,Nat.sub_zero],Own.nil _ _,fun b hb=>by simp [Value.ownBlock]at hb,HI.out.1,HI.out.2,B0.out,F0.out.mono (fun _ _ h=>h.elim),B0.out.lt⟩
 case round =>
   obtain⟨k,y,tk,hk,rfl,hy,hqk,ov,hv,bw,tb,br,ur,hsz⟩:=hrel;have HK:=hd_ hk;(have hkI:(k:Int)<=131072:=by have:=HN.out;omega);by_cases hlt:k<n
   . have hlI:(k:Int)<n:=by omega
     (have hnk:n-k=(n-(k+1))+1:=by omega);rw [hnk]at hqk;have HX:=hd_ (HNX.out wr tk bw tb);obtain⟨x0,x1⟩:=(br).cells2;obtain⟨A3,n3,c3,rfl,hn3⟩:=ov.form';have OV:=hd_ ov;have HV:=hd_ hv;have UR:=hd_ ur;have BR:=hd_ br;have HY:=hd_ hy;have HSZ:=hd_ hsz
     cases hs:Kf l V tk with
     | none =>
       rw [hs]at HX;rw [Q0w _ hs]at hqk;have hq:q=none:=hqk;subst hq;simp only at hR;clear hs hqk ov hv bw tb br ur hk hnk hy hsz hn3 HQ;go_wp2_with fail;refine HX.out.mono ?_;rintro e w1 ⟨u1,tb1,rfl⟩;go_wp2_with fail;refine(Z6 _ _).mono ?_;rintro e w2 ⟨rfl,rfl⟩;simp only [Qi];exact⟨rfl,hR.out _ _ ⟨UR.out.trans' u1,rfl⟩⟩
     | some st =>
       obtain⟨s,t'⟩:=st;rw [hs]at HX;rw [Q0v _ hs,Q0x]at hqk;have HQK:=hd_ hqk;clear hs hqk ov hv bw tb br ur hk hnk hy hsz hn3;go_wp2_with fail;refine HX.out.mono ?_;rintro e w1 ⟨u1,tb1,rfl,bw1⟩;(have hHg:H≠g:=by have:=HP.out;omega);have OV1:=hd_ (OV.out.upd u1 (fun b hb e=>by have:=HV.out b hb;have:=HP.out;omega));have UR1:=hd_ (UR.out.trans' u1);have BR1:=hd_ (BR.out.upd u1 hHg);have TB1:=hd_ tb1;have BW1:=hd_ bw1;have HSZ1:=hd_ (show H<w1.heap.size by have:=HSZ.out;have:=u1.size;omega);clear u1 tb1 bw1 HX x0 x1;go_wp2_with fail;refine(K8 _ _).mono ?_;rintro e w2 ⟨rfl,rfl⟩;go_wp2_with (at_builtin;go_must (refine Qt _ rfl (.tmp 17) (.tmp 19) _ rfl 5 _ 1 Tryz.underlying22 Y5 rfl (.slice A3 n3 c3) (Qa y) rfl (OV1.out.alloc _) _ 1 _ _ rfl (Rd.one _ 5 (.int .u8 (s:Nat))) (by simp [Value.oneCell']) (by omega) (by have:=HY.out;have:=HN.out;have:=HK.out;simp [Qa];omega) ?_));intro v5 w5 o5 g5 a5;have u5:Upd (fun b=>(Value.slice A3 n3 c3).ownBlock=some b) w2 w5:=((Upd.refl _ w2).alloc _).grown g5 (fun k hk _=>hk);have hvb5:∀b,v5.ownBlock=some b->H<b:=YD (S:=fun b=>H<b) a5 (fun k hk=>HV.out k hk) (by have:=HSZ1.out;simp;omega);have hFF:=HFW.out;have bw5:=BW1.out.upd u5 (fun h=>by have:=HV.out _ h;have:=HP.out;omega) (fun b hb h=>by have:=HV.out _ h;have:=hFF.1 b hb;have:=HH.out;omega);have tb5:=TB1.out.upd u5 (fun h=>by have:=HV.out _ h;have:=HP.out;omega) (fun b _ hb h=>by have:=HV.out _ h;have:=hFF.2 b hb;have:=HH.out;omega);have br5:=BR1.out.upd u5 (fun h=>by have:=HV.out _ h;omega);have ur5:=UR1.out.trans u5 (fun b hb h=>by have:=HV.out _ h;have:=HH.out;omega);have O5:=hd_ (show Own w5 5 v5 (Qa (y++[s])) by simpa [Qa]using o5);have HR5:=hd_ (And.intro hvb5 (And.intro bw5 (And.intro tb5 (And.intro br5 (And.intro ur5 (show H<w5.heap.size by have:=br5.lt;exact this))))));clear u5 hvb5 bw5 tb5 br5 ur5 hFF o5 g5 a5;go_wp2_with fail;go_roundg (gk-1)
       case measure=>have:=HK.out;omega
       case rel=>exact⟨k+1,y++[s],t',by have:=HK.out;omega,by go_num,by simp [HY.out],HQK.out,O5.out,HR5.out⟩
   (obtain rfl:k=n:=by omega);rw [Nat.sub_self]at hqk;(have hq:q=some (y,tk):=by rw [hqk];simp [Yi,YM]);subst hq;simp only at hR;have OV:=hd_ ov;have HV:=hd_ hv;have BW:=hd_ bw;have UR:=hd_ ur;clear hqk ov hv bw tb br ur hk hy hsz HQ;go_wp2_with fail;(try go_ret);exact hR.out _ _ ⟨UR.out,_,rfl,OV.out,fun b hb=>by have:=HV.out b hb;have:=HH.out;omega,BW.out⟩
def Kj (l:List Int) (bs:List Nat) (w:World) (e:Ending) (w':World):Prop :=
  Q0 w w'/\if(bs.getLast?).getD 0=0 then e=Qi 14 else
    ∃g p,e = .returned (.agg #[.pointer (some ⟨g,0,none⟩),.pointer (some ⟨p,0,none⟩)])/\∃F G:Nat->Prop,Y1 w' F g bs (Yx bs)/\Ye w' G p l/\(∀b,F b->b≠g)/\(∀b,G b->b≠g)/\p≠g/\(∀b,F b->b<w'.heap.size)/\(∀b,G b->b<w'.heap.size)/\w.heap.size<=g
theorem Q1Q (F G:Nat->Prop) (A B:Option Addr) (n c m d:Nat) (l:List Int) (bs:List Nat) (w:World) (hr:Rd w F A n (Qm l)) (hbs:Rd w G B m (Qa bs)) (hlt:∀b∈bs,b<256) (hm:m<=2^32) (hc:n<=c) (ht:Qj l) :
   Calls Tryz.prog 280 #[.slice A n c,.slice B m d] w (Kj l bs w):=by
 (have hL:bs.length=m:=by have:=hbs.1;simpa using this);obtain⟨w0,hw0⟩:=nm_ (w.alloc (.cells #[.pointer none,.pointer none] 286));obtain⟨H,hH⟩:=nm_ (w.heap.size);(have f0:Q0 w w0:=by rw [hw0];exact(Upd.refl _ _).alloc _);(have b0:Blk w0 H 286 #[.pointer none,.pointer none]:=by rw [hw0];exact Qc hH _ _);have HNW:=hd_ (Q2J F A n c l w0 (hr.fresh f0) ht hc);have HBK:=hd_ (fun W (hW:Q0 w W)=>Xo G B m d bs W (by have:=hbs.fresh hW;exact this) hlt (by omega));have HW:=hd_ hw0;have HH:=hd_ hH;have F0:=hd_ f0;have B0:=hd_ b0;clear hr hbs hlt hm hc ht hw0 hH f0 b0 hL;refine Qg fun R hR=>?_;unfold Kj at hR;go_enter Tryz.func280,Tryz.ntmps280;go_upto_region 1 with fail;simp only [<-HH.out,<-HW.out];go_wp2_with fail;refine HNW.out.mono ?_;rintro e w1 ⟨p,rfl,tb1,hp,f1⟩;have TB:=hd_ tb1.both;have HPL:=hd_ (And.intro tb1.lt hp);have F1:=hd_ (F0.out.trans' f1);have B1:=hd_ (B0.out.fresh f1);clear tb1 hp f1 HNW;go_wp2_with fail;refine(Jp _ _ _ (by simpa using(Blk.new w1 24 #[.int .i64 0]).cell 0)).mono ?_;rintro e w2 ⟨rfl,hw2⟩;(have f12:Q0 w1 w2:=by rw [hw2];exact(Upd.refl _ _).alloc _);have F12:=hd_ f12;have F2:=hd_ (F1.out.trans' f12);have HB2:=hd_ (HBK.out w2 (F1.out.trans' f12));clear hw2 f12 HBK;by_cases hz:(bs.getLast?).getD 0=0
 . simp only [if_pos hz]at hR HB2
   clear hz;go_wp2_with fail;refine HB2.out.mono ?_;rintro e w3 ⟨rfl,f3⟩;have F3:=hd_ (F2.out.trans' f3);clear f3 HB2;go_wp2_with fail;refine(Km 14 _ _ _ (by simpa using(Blk.new w3 24 #[.int .i64 14]).cell 0) (by decide)).mono ?_;rintro e w4 ⟨rfl,hw4⟩;simp only [Qi];exact⟨rfl,hR.out _ _ ⟨by rw [hw4];exact F3.out.alloc _,rfl⟩⟩
 simp only [if_neg hz]at hR HB2;clear hz;go_wp2_with fail;refine HB2.out.mono ?_;rintro e w3 ⟨g,rfl,hg,f3,bw⟩;have F3:=hd_ (F2.out.trans' f3);have F13:=hd_ (F12.out.trans' f3);have BW:=hd_ bw.both;have HG:=hd_ hg;have B3:=hd_ (B1.out.fresh (F12.out.trans' f3));clear f3 hg bw HB2;go_wp2_with fail;refine(Jp _ _ _ (by simpa using(Blk.new w3 24 #[.int .i64 0]).cell 0)).mono ?_;rintro e w4 ⟨rfl,hw4⟩;(have f34:Q0 w3 w4:=by rw [hw4];exact(Upd.refl _ _).alloc _);have F4:=hd_ (F3.out.trans' f34);have F14:=hd_ (F13.out.trans' f34);have b4:=B3.out.fresh f34;have x0:=b4.cell 0;have x1:=b4.cell 1;have z0:=b4.frozen 0;have z1:=b4.frozen 1;simp at x0 x1;have B4:=hd_ b4;have F34:=hd_ f34;clear hw4 f34 b4;go_wp2_with fail;have hsz1:=F12.out.size;have hsz2:=F34.out.size;have hpl:=HPL.out.1;have hpl2:=HPL.out.2;have hH0:H<w0.heap.size:=B0.out.lt;have hg:=HG.out;have hgl:g<w3.heap.size:=BW.out.lt;have hHl:H<w1.heap.size:=B1.out.lt;have b5:=(B4.out.set_ 0 (.pointer (some ⟨g,0,none⟩))).set_ 1 (.pointer (some ⟨p,0,none⟩));have us:Upd (fun b=>b=H) w4 ((w4.setCell ⟨H,0,none⟩ (.pointer (some ⟨g,0,none⟩))).setCell ⟨H,1,none⟩ (.pointer (some ⟨p,0,none⟩))):=((Upd.refl (fun b=>b=H) w4).setCell (p:=⟨H,0,none⟩) (fun _=>rfl) _).setCell (p:=⟨H,1,none⟩) (fun _=>rfl) _;obtain⟨d0,d1⟩:=(b5).cells2;refine⟨rfl,.agg #[.pointer (some ⟨g,0,none⟩),.pointer (some ⟨p,0,none⟩)],?_,?_⟩
 . simp [results,Tryz.results280,go_sem,d0,d1]
 have bw5:=(BW.out.fresh F34.out).upd us (by omega) (fun b hb e=>by have:=hb.1.1;omega);have tb5:=(TB.out.fresh F14.out).upd us (by omega) (fun b _ hb e=>by have:=hb.1;omega);have hsz5:=us.size;refine hR.out _ _ ⟨F4.out.trans us (fun b hb e=>by have:=HH.out;omega),g,p,rfl,_,_,bw5,tb5,fun b hb=>hb.1.2,fun b hb=>by have:=hb.2;omega,by omega,fun b hb=>by have:=hb.2;omega,fun b hb=>by have:=hb.2;have:=F14.out.size;omega,by have:=F2.out.size;omega⟩
theorem Q1R (F G:Nat->Prop) (g p N:Nat) (bs:List Nat) (t n:Nat) (l:List Int) (w:World) (hf:Y1 w F g bs t) (htb:Ye w G p l) (ht:Qj l) (hFg:∀b,F b->b≠g) (hGg:∀b,G b->b≠g) (hpg:p≠g) (hFW:∀b,F b->b<w.heap.size) (hGW:∀b,G b->b<w.heap.size) (hn:n<=131072)
   (hN:Blk w N 3 #[.int .i64 (n:Nat)]) :
   Calls Tryz.prog 234 #[.agg #[.pointer (some ⟨g,0,none⟩),.pointer (some ⟨p,0,none⟩)],.pointer (some ⟨N,0,none⟩)] w fun e w'=>Upd (fun b=>b=g) w w' /\
     match Yi l (Yn bs) t n with
     | some (x,0)=>∃v,e = .returned v/\Own w' 5 v (Qa x)/\∀b,v.ownBlock=some b->w.heap.size<=b
     | _=>e=Qi 14:=by
 obtain⟨w0,hw0⟩:=nm_ (w.alloc (.cells #[.pointer (some ⟨g,0,none⟩),.pointer (some ⟨p,0,none⟩)] 286));obtain⟨H,hH⟩:=nm_ (w.heap.size);(have f0:Q0 w w0:=by rw [hw0];exact(Upd.refl _ _).alloc _);(have b0:Blk w0 H 286 #[.pointer (some ⟨g,0,none⟩),.pointer (some ⟨p,0,none⟩)]:=by rw [hw0];exact Qc hH _ _);have HRD:=hd_ (Q0y F G g p bs t n l w0 (hf.fresh f0) (htb.fresh f0) ht hFg hGg hpg (fun b hb=>by have:=hFW b hb;have:=f0.size;omega) (fun b hb=>by have:=hGW b hb;have:=f0.size;omega) hn);have x0:=b0.cell 0;have x1:=b0.cell 1;have x2:=(hN.fresh f0).cell 0;simp at x0 x1 x2;(have hgH:H≠g:=by rw [hH];have:=hf.lt;omega);have HGH:=hd_ hgH;have HW:=hd_ hw0;have HH:=hd_ hH;have F0:=hd_ f0;have B0:=hd_ b0;obtain⟨q,hq⟩:=nm_ (Yi l (Yn bs) t n);rw [<-hq]at HRD ⊢;unfold ZH at HRD;have HLF:=hd_ (fun W t' (h:Y1 W F g bs t')=>Vd F g bs t' W h);clear hw0 hH f0 b0 hf htb ht hFg hGg hpg hFW hGW hn hN hq hgH;refine Qg fun R hR=>?_;go_enter Tryz.func234,Tryz.ntmps234;go_upto_region 1 with fail;simp only [<-HH.out,<-HW.out]
 cases q with
 | none =>
   simp only at HRD hR;go_wp2_with fail;refine HRD.out.mono ?_;rintro e w1 ⟨u1,rfl⟩;simp only [Qi];exact⟨rfl,hR.out _ _ ⟨(F0.out.mono (fun _ _ h=>h.elim)).trans' u1,rfl⟩⟩
 | some q =>
   obtain⟨x,t'⟩:=q;simp only at HRD;go_wp2_with fail;refine HRD.out.mono ?_;rintro e w1 ⟨u1,v,rfl,ov,hv,bw⟩;obtain⟨A3,n3,c3,rfl,hn3⟩:=ov.form';have OV:=hd_ ov;have HV:=hd_ hv;have U1:=hd_ ((F0.out.mono (fun _ _ h=>h.elim)).trans' u1);have HL1:=hd_ (HLF.out w1 t' bw);have y0:=(B0.out.upd u1 HGH.out).cell 0;simp at y0;clear u1 ov hv bw hn3 HRD HLF x0 x1 x2;go_wp2_with fail;refine HL1.out.mono ?_;rintro e w2 ⟨rfl,f2⟩;have F2:=hd_ f2;clear f2 HL1;rcases Nat.eq_zero_or_pos t' with h0|h0
   . subst h0
     simp only at hR;go_wp2_with fail;refine(K8 _ _).mono ?_;rintro e w3 ⟨rfl,rfl⟩;go_wp2_with fail;(try go_ret);exact hR.out _ _ ⟨U1.out.trans F2.out (fun _ _ h=>h.elim),_,rfl,OV.out.fresh F2.out,fun b hb=>by have:=HV.out b hb;have:=F0.out.size;omega⟩
   (have htI:((t':Int) == 0)=false:=by simp;omega)
   have hR2:=hd_ (show ∀e w',Upd (fun b=>b=g) w w'->e=Qi 14->R e w' from fun e w' h1 h2=>hR.out e w' ⟨h1,by
     cases t' with
     | zero=>omega
     | succ k=>exact h2⟩)
   clear hR;go_wp2_with fail;refine(Z6 _ _).mono ?_;rintro e w3 ⟨rfl,rfl⟩;simp only [Qi];exact⟨rfl,hR2.out _ _ (U1.out.trans F2.out (fun _ _ h=>h.elim)) rfl⟩
def JL (l:List Int) (bs:List Nat) (n:Nat):Option (List Nat) :=
  if(bs.getLast?).getD 0=0 then none else match Yi l (Yn bs) (Yx bs) n with
    | some (x,0)=>some x
    | _=>none
theorem Vq (a0:Nat) (v00:Value) (w:World) (h0:Blk w a0 22 #[v00])  :
   Calls Tryz.prog 279 #[.pointer (some ⟨a0,0,none⟩)] w fun e w'=>e = .returned (.tuple #[])/\Upd (fun b=>b=a0) w w'/\Blk w' a0 22 #[.slice none 0 0]:=by
 have c00:=h0.cell 0;have z00:=h0.frozen 0;simp at c00;have H0:=hd_ h0;clear h0;refine Qg fun R hR=>?_;go_enter Tryz.func279,Tryz.ntmps279;go_wp2_with fail;(try go_end0);refine hR.out _ _ ⟨rfl,?_,?_⟩
 . exact((Upd.refl (fun b=>b=a0) _).setCell (p:=⟨a0,0,none⟩) (fun _=>rfl) _)
 have:=(H0.out.set_ 0 (.slice none 0 0));simpa using this
def JC (o:Option (List Nat)) (er:Int) (w:World) (e:Ending) (w':World):Prop :=
  match o with
  | some x=>∃v,e = .returned (.tuple #[v,.int .i64 0])/\Qk w w' v x
  | none=>e = .returned (.tuple #[.slice none 0 0,.int .i64 er])/\Q0 w w'
theorem Q1S (F G:Nat->Prop) (A B:Option Addr) (k c m d N n:Nat) (l:List Int) (bs:List Nat) (w:World) (hr:Rd w F A k (Qm l)) (hbs:Rd w G B m (Qa bs)) (hlt:∀b∈bs,b<256) (hm:m<=2^32) (hc:k<=c) (ht:Qj l) (hn:n<=131072) (hN:Blk w N 3 #[.int .i64 (n:Nat)]) :
   Calls Tryz.prog 233 #[.slice A k c,.slice B m d,.func (.func 234) #[] #[.pointer (some ⟨N,0,none⟩)]] w (JC (JL l bs n) 14 w):=by
 have hmf:∀(fn:Fn) (first cap:Array Value) (w:World),(Instr.makeFunc fn first cap).run Tryz.prog w = .ok (.func fn first cap) w:=fun _ _ _ _=>rfl;obtain⟨w0,hw0⟩:=nm_ ((w.alloc (.cells #[.slice none 0 0] 22)).alloc (.cells #[.int .i64 0] 24));obtain⟨H,hH⟩:=nm_ (w.heap.size);(have f0:Q0 w w0:=by rw [hw0];exact((Upd.refl _ _).alloc _).alloc _);(have bo:Blk w0 H 22 #[.slice none 0 0]:=by rw [hw0];exact(Qc hH _ _).alloc _);(have be:Blk w0 (H+1) 24 #[.int .i64 0]:=by rw [hw0];exact Qc (by simp [hH]) _ _);have HOP:=hd_ (Q1Q F G A B k c m d l bs w0 (hr.fresh f0) (hbs.fresh f0) hlt hm hc ht);unfold Kj at HOP;have HD1:=hd_ (fun F G g p t W (hW:Q0 w W) h1 h2 h3 h4 h5 h6 h7=>Q1R F G g p N bs t n l W h1 h2 ht h3 h4 h5 h6 h7 hn (hN.fresh hW));have BO:=hd_ bo;have BE:=hd_ be;have F0:=hd_ f0;have HW:=hd_ hw0;have HH:=hd_ hH;(have hsz:(w.alloc (.cells #[.slice none 0 0] 22)).heap.size=H+1:=by simp [hH]);obtain⟨V,hV⟩:=nm_ (Yi l (Yn bs) (Yx bs) n);have HVV:=hd_ hV;unfold JL;rw [<-hV];clear hw0 hH f0 bo be hr hbs hlt hm hc ht hn hN hV
 have HERR:=hd_ (show ∀(K:Ending->World->Prop) tmps (w1:World),Hid (∀e w',e = .returned (.tuple #[.slice none 0 0,.int .i64 14])/\Q0 w w'->K e w')->Q0 w0 w1->tmps[6]?=some (.pointer (some ⟨H,0,none⟩))->tmps[7]?=some (.pointer (some ⟨H+1,0,none⟩)) ->
     Leaves Tryz.prog Tryz.f233 tmps K [{ target:=.fn (.func 84) #[],args:=#[.pointer (some ⟨H+1,0,none⟩),.func (.func 279) #[] #[.pointer (some ⟨H,0,none⟩)]] }]
       (.panicking [{ v:=.iface 24 (.int .i64 14),recovered:=false }]) w1 from by
   intro K tmps w1 hK f1 ht6 ht7;refine leaves_cons (f:=84) (args:=#[.pointer (some ⟨H+1,0,none⟩),.func (.func 279) #[] #[.pointer (some ⟨H,0,none⟩)]]) (by simp) (by simp [go_sem]) ?_;refine(YE 279 #[.pointer (some ⟨H,0,none⟩)] (fun b=>b=H) (fun W=>Blk W H 22 #[.slice none 0 0]) (H+1) 14 _ w1 (BE.out.fresh f1) (by omega) (fun _ _=>rfl) (Vq H _ w1 (BO.out.fresh f1))).mono ?_;rintro e u' w'' ⟨rfl,rfl,w2,u2,b2,rfl⟩;have e2:=((BE.out.fresh f1).upd u2 (by omega)).set_ 0 (.int .i64 14);have b3:=b2.far (p:=⟨H+1,0,none⟩) (by simp) (.int .i64 14);have d0:=b3.cell 0;have d1:=e2.cell 0;simp at d0 d1;show Leaves _ _ _ _ [] .returning _;refine⟨.tuple #[.slice none 0 0,.int .i64 14],?_,hK.out _ _ ⟨rfl,(F0.out.trans' f1).trans (u2.mono (T:=fun b=>b=H\/b=H+1) (fun _ _ h=>.inl h) |>.setCell (p:=⟨H+1,0,none⟩) (fun _=>.inr rfl) _) (fun b hb e=>by have:=HH.out;omega)⟩⟩
   simp [results,Tryz.results233,go_sem,d0,d1,ht6,ht7])
 refine Qg fun R hR=>?_;go_enter_defers Tryz.func233,Tryz.ntmps233;go_upto_region 1 with fail;simp only [hsz,<-HH.out,<-HW.out];clear hsz;unfold JC at hR;by_cases hz:(bs.getLast?).getD 0=0
 . simp only [if_pos hz]at hR HOP
   clear hz;go_wp2_with fail;refine HOP.out.mono ?_;rintro e w1 ⟨f1,rfl⟩;simp only [Qi];exact HERR.out R _ w1 hR f1 rfl rfl
 simp only [if_neg hz]at hR HOP;clear hz;go_wp2_with fail;refine HOP.out.mono ?_;rintro e w1 ⟨f1,g,p,rfl,F',G',h1,h2,h3,h4,h5,h6,h7,hg⟩;have hd:=HD1.out F' G' g p (Yx bs) w1 (F0.out.trans' f1) h1 h2 h3 h4 h5 h6 h7;rw [<-HVV.out]at hd;have HD:=hd_ hd;have F1:=hd_ f1;have HG:=hd_ hg;clear hd f1 hg h1 h2 h3 h4 h5 h6 h7 HD1 HOP HVV
 have hbad:(∀q,V≠some (q,0))->Hid (Calls Tryz.prog 234 #[.agg #[.pointer (some ⟨g,0,none⟩),.pointer (some ⟨p,0,none⟩)],.pointer (some ⟨N,0,none⟩)] w1 fun e w'=>Upd (fun b=>b=g) w1 w'/\e=Qi 14)/\Hid (∀e w',e = .returned (.tuple #[.slice none 0 0,.int .i64 14])/\Q0 w w'->R e w'):=by
   intro hv
   cases V with
   | none=>exact⟨HD.out,hR.out⟩
   | some q =>
     obtain⟨x,t'⟩:=q
     cases t' with
     | zero=>exact absurd rfl (hv x)
     | succ k=>exact⟨HD.out,hR.out⟩
 by_cases hv:∃q,V=some (q,0)
 . obtain⟨x,rfl⟩:=hv
   simp only at HD hR;clear hbad HERR;go_wp2_with fail;refine HD.out.mono ?_;rintro e w2 ⟨u2,v,rfl,ov,hv2⟩;obtain⟨A2,n2,c2,rfl,hn2⟩:=ov.form';(have hgH:H+1<g:=by have h1:=HG.out;have h2:=BE.out.lt;omega);have f2:Q0 w w2:=(F0.out.trans' F1.out).trans u2 (fun b hb e=>by have:=HH.out;omega);have bo2:=(BO.out.fresh F1.out).upd u2 (by omega);have be2:=(BE.out.fresh F1.out).upd u2 (by omega);have c0:=bo2.cell 0;have z0:=bo2.frozen 0;have c1:=be2.cell 0;have z1:=be2.frozen 0;simp at c0 c1;have OV:=hd_ ov;have F2:=hd_ f2;have BV:=hd_ (show ∀b,Value.ownBlock (.slice A2 n2 c2)=some b->H+1<b from fun b hb=>by have h1:=hv2 b hb;have h2:=BE.out.lt;have h3:=F1.out.size;omega);have BO2:=hd_ bo2;have BE2:=hd_ be2;clear ov f2 bo2 be2 u2 hv2 hn2 HD;go_wp2_with fail;change Leaves _ _ _ _ _ _ _;refine leaves_cons (f:=84) (args:=#[.pointer (some ⟨H+1,0,none⟩),.func (.func 279) #[] #[.pointer (some ⟨H,0,none⟩)]]) (by simp) (by simp [go_sem]) ?_;have b2:=(BO2.out.set_ 0 (.slice A2 n2 c2)).far (p:=⟨H+1,0,none⟩) (by simp) (.int .i64 0);have e2:=(BE2.out.far (p:=⟨H,0,none⟩) (by simp) (.slice A2 n2 c2)).set_ 0 (.int .i64 0);have d0:=b2.cell 0;have d1:=e2.cell 0;simp at d0 d1;refine(JZ _ _ _).mono ?_;rintro e u' w'' ⟨rfl,rfl,rfl⟩;have us:Upd (fun b=>b=H\/b=H+1) w2 ((w2.setCell ⟨H,0,none⟩ (.slice A2 n2 c2)).setCell ⟨H+1,0,none⟩ (.int .i64 0)):=((Upd.refl (fun b=>b=H\/b=H+1) w2).setCell (p:=⟨H,0,none⟩) (fun _=>.inl rfl) _).setCell (p:=⟨H+1,0,none⟩) (fun _=>.inr rfl) _;refine⟨.tuple #[.slice A2 n2 c2,.int .i64 0],?_,hR.out _ _ ⟨_,rfl,OV.out.upd us (fun b hb e=>by have:=BV.out b hb;omega),F2.out.trans us (fun b hb e=>by have:=HH.out;omega),fun b hb=>by have h1:=BV.out b hb;have h2:=HH.out;omega⟩⟩;simp [results,Tryz.results233,go_sem,d0,d1]
 obtain⟨HDB,hRB⟩:=hbad (fun q hq=>hv ⟨q,hq⟩);clear hR HD hbad hv;have hR:=hRB;clear hRB;go_wp2_with fail;refine HDB.out.mono ?_;rintro e w2 ⟨u2,rfl⟩;simp only [Qi];(have hgH:H+1<g:=by have h1:=HG.out;have h2:=BE.out.lt;omega);change Leaves _ _ _ _ _ _ _;refine leaves_cons (f:=84) (args:=#[.pointer (some ⟨H+1,0,none⟩),.func (.func 279) #[] #[.pointer (some ⟨H,0,none⟩)]]) (by simp) (by simp [go_sem]) ?_;refine(YE 279 #[.pointer (some ⟨H,0,none⟩)] (fun b=>b=H) (fun W=>Blk W H 22 #[.slice none 0 0]) (H+1) 14 _ w2 ((BE.out.fresh F1.out).upd u2 (by omega)) (by omega) (fun _ _=>rfl) (Vq H _ w2 ((BO.out.fresh F1.out).upd u2 (by omega)))).mono ?_;rintro e u' w'' ⟨rfl,rfl,w3,u3,b3,rfl⟩;have e3:=(((BE.out.fresh F1.out).upd u2 (by omega)).upd u3 (by omega)).set_ 0 (.int .i64 14);have b4:=b3.far (p:=⟨H+1,0,none⟩) (by simp) (.int .i64 14);have d0:=b4.cell 0;have d1:=e3.cell 0;simp at d0 d1;show Leaves _ _ _ _ [] .returning _;refine⟨.tuple #[.slice none 0 0,.int .i64 14],?_,hR.out _ _ ⟨rfl,((F0.out.trans' F1.out).trans u2 (fun b hb e=>by have:=HH.out;omega)).trans (u3.mono (T:=fun b=>b=H\/b=H+1) (fun _ _ h=>.inl h) |>.setCell (p:=⟨H+1,0,none⟩) (fun _=>.inr rfl) _) (fun b hb e=>by have:=HH.out;omega)⟩⟩;simp [results,Tryz.results233,go_sem,d0,d1]
theorem Q0z (F:Nat->Prop) (A:Option Addr) (k c n:Nat) (l:List Int) (w:World) (hr:Rd w F A k (Qm l)) (hk:k<=2^40) (hc:k<=c) (hn:n<=131072) :
   Calls Tryz.prog 232 #[.slice A k c,.int .i64 (n:Nat)] w fun e w'=>e = .returned (.int .i64 (if Qj l then 0 else 12))/\Q0 w w':=by
 have HCK:=hd_ (Z8 F A k c l w hr hk hc);(have hnI:(n:Int)<=131072:=by omega);(have hn0:(0:Int)<=n:=by omega);clear hr hk hc hn;refine Qg fun R hR=>?_;go_enter Tryz.func232,Tryz.ntmps232;by_cases ht:Qj l
 . simp only [if_pos ht]at HCK hR
   clear ht;go_wp2_with fail;refine HCK.out.mono ?_;rintro e w1 ⟨rfl,f1⟩;have F1:=hd_ f1;clear f1 HCK;go_wp2_with fail;(try go_ret);exact hR.out _ _ ⟨rfl,F1.out⟩
 simp only [if_neg ht]at HCK hR;clear ht;go_wp2_with fail;refine HCK.out.mono ?_;rintro e w1 ⟨rfl,f1⟩;have F1:=hd_ f1;clear f1 HCK;go_wp2_with fail;(try go_ret);exact hR.out _ _ ⟨rfl,F1.out⟩
theorem Q2L (F G:Nat->Prop) (A B:Option Addr) (k c m d n:Nat) (l:List Int) (bs:List Nat) (w:World) (hr:Rd w F A k (Qm l)) (hbs:Rd w G B m (Qa bs)) (hlt:∀b∈bs,b<256) (hk:k<=2^40) (hm:m<=2^32) (hc:k<=c) (hmd:m<=d) (hn:n<=131072) :
   Calls Tryz.prog 185 #[.slice A k c,.slice B m d,.int .i64 (n:Nat)] w (JC (if Qj l then JL l bs n else none) (if Qj l then 14 else 12) w):=by
 have hmf:∀(fn:Fn) (first cap:Array Value) (w:World),(Instr.makeFunc fn first cap).run Tryz.prog w = .ok (.func fn first cap) w:=fun _ _ _ _=>rfl;obtain⟨w0,hw0⟩:=nm_ (w.alloc (.cells #[.int .i64 (n:Nat)] 3));obtain⟨H,hH⟩:=nm_ (w.heap.size);(have f0:Q0 w w0:=by rw [hw0];exact(Upd.refl _ _).alloc _);(have b0:Blk w0 H 3 #[.int .i64 (n:Nat)]:=by rw [hw0];exact Qc hH _ _);have HRT:=hd_ (Q0z F A k c n l w0 (hr.fresh f0) hk hc hn);have HTD:=hd_ (fun(ht:Qj l) W (hW:Q0 w0 W)=>Q1S F G A B k c m m H n l bs W ((hr.fresh f0).fresh hW) ((hbs.fresh f0).fresh hW) hlt hm hc ht hn (b0.fresh hW));have x0:=b0.cell 0;simp at x0;(have hmI:(m:Int)<=d:=by omega);(have hm0:(0:Int)<=m:=by omega);have hmN:m<=d:=hmd;have HW:=hd_ hw0;have HH:=hd_ hH;have F0:=hd_ f0;clear hw0 hH f0 b0 hr hbs hlt hk hm hc hn hmd;refine Qg fun R hR=>?_;go_enter Tryz.func185,Tryz.ntmps185;go_upto_region 1 with fail;simp only [<-HH.out,<-HW.out];by_cases ht:Qj l
 . have HT2:=hd_ (HTD.out ht)
   simp only [if_pos ht]at HRT hR;clear ht HTD;go_wp2_with fail;refine HRT.out.mono ?_;rintro e w1 ⟨rfl,f1⟩;have F1:=hd_ (F0.out.trans' f1);have HT3:=hd_ (HT2.out w1 f1);clear f1 HRT HT2;go_wp2_with fail;refine HT3.out.mono ?_;unfold JC;unfold JC at hR;intro e w2 h2
   cases ho:JL l bs n with
   | none =>
     rw [ho]at h2 hR;obtain⟨rfl,f2⟩:=h2;have F2:=hd_ (F1.out.trans' f2);clear f2 HT3 ho;go_wp2_with fail;(try go_ret);exact hR.out _ _ ⟨rfl,F2.out⟩
   | some x =>
     rw [ho]at h2 hR;obtain⟨v,rfl,o2,f2,hb2⟩:=h2;have O2:=hd_ o2;have F2:=hd_ (F1.out.trans' f2);have HB2:=hd_ (show ∀b,v.ownBlock=some b->w.heap.size<=b from fun b hb=>by have:=hb2 b hb;have:=F1.out.size;omega);clear o2 f2 hb2 HT3 ho;go_wp2_with fail;(try go_ret);exact hR.out _ _ ⟨v,rfl,O2.out,F2.out,HB2.out⟩
 simp only [if_neg ht]at HRT hR;clear ht HTD;go_wp2_with fail;refine HRT.out.mono ?_;rintro e w1 ⟨rfl,f1⟩;have F1:=hd_ (F0.out.trans' f1);clear f1 HRT;go_wp2_with fail;(try go_ret);exact hR.out _ _ ⟨rfl,F1.out⟩
end Go.Proofs.YtckjdhaflokcgaaGreat
