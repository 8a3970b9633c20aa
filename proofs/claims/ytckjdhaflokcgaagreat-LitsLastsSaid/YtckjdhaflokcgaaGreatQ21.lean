/-
  Joined texts, part 21: contracts and plain lemmas.
  Conditions: none beyond those of each theorem.
-/
import Derived.Test.YtckjdhaflokcgaaGreatQ18
import Derived.Test.YtckjdhaflokcgaaGreatQ6
set_option maxHeartbeats 2000000
set_option linter.unusedVariables false
set_option linter.unusedSimpArgs false
set_option linter.unnecessarySimpa false
set_option maxRecDepth 100000
universe u
namespace Go.Proofs.YtckjdhaflokcgaaGreat
open Go.RowKit
theorem Q1d (F:Nat->Prop) (g:Nat) (bs:List Nat) (t n:Nat) (w:World) (hf:Y1 w F g bs t) (hn:n<=11) (h:n<=t) :
   Calls Tryz.prog 310 #[.pointer (some ⟨g,0,none⟩),.int .i64 (n:Nat)] w fun e w'=>e = .returned (.int .u64 (Yn bs / 2^(t-n)%2^n:Nat))/\Q0 w w':=by
 obtain⟨A,c,hb,hr,hlt,hfr,hlen⟩:=hf;obtain⟨hc0,hc1,hc2⟩:=(hb).cells3;have HL:=hd_ (Ka g 0 t w hc1 hc2 (by omega) (by omega));obtain⟨V,hV⟩:=nm_ (Yn bs / 2^(t-n)%2^n);obtain⟨d,hd⟩:=nm_ (t-n);have HV0:=hd_ (fun W (hW:Q0 w W)=>Q1e F g A bs.length c bs (t-n) n W (by simpa using(hb.fresh hW).cell 0) (hr.fresh hW) hlt (by omega) (by omega) hlen);rw [<-hV,<-hd]at HV0
 have hVl:V<2048:=by
   (have h1:V<2^n:=by rw [hV];exact Nat.mod_lt _ (Nat.two_pow_pos _));have h2:2^n<=2^11:=Nat.pow_le_pow_right (by decide) hn;omega
 rw [<-hV];have HB:=hd_ hb;(have hnI:(n:Int)<=11:=by omega);(have hn0:(0:Int)<=n:=by omega);(have hnt:(n:Int)<=t:=by omega);(have hm1:max (n:Int) 0=n:=by omega);(have hm2:min (n:Int) 64=n:=by omega);(have hm3:min (n:Int) (t:Int)=n:=by omega);(have hs1:IntKind.i64.wrap ((t:Int)-n)=(d:Nat):=by rw [IntWalk.i64_in _ (by omega)];omega);(have hw1:IntKind.u64.wrap (V:Int)=(V:Nat):=by unfold IntKind.wrap;simp [IntKind.bits];omega);clear hV hd hb hr hlt hfr hlen hVl hn h;refine Qg fun R hR=>?_;go_enter Tryz.func310,Tryz.ntmps310;go_wp2_with fail;refine HL.out.mono ?_;rintro e w1 ⟨rfl,k,rfl⟩;simp only [Nat.sub_zero];obtain⟨w1,hw1'⟩:∃w1,w1=w.drewN k:=⟨_,rfl⟩;rw [<-hw1'];have F1:=hd_ (show Q0 w w1 by rw [hw1'];exact(Upd.refl _ _).drewN k);have HV:=hd_ (fun W (hW:Q0 w1 W)=>HV0.out W (F1.out.trans' hW));have HC2:=hd_ (show ∀W,Q0 w1 W->W.cell? ⟨g,2,none⟩=some (.int .i64 (t:Nat))from fun W hW=>by simpa using(HB.out.fresh (F1.out.trans' hW)).cell 2);clear hw1' HL HV0 hc0 hc1 hc2;go_upto_region 5 with fail;obtain⟨Cw,cEq⟩:=exC (fun W=>Q0 w1 W);obtain⟨Y,yA⟩:=exY [fun xs W=>(xs 0) = .pointer (some ⟨g,0,none⟩),fun xs W=>(xs 1) = .pointer (some ⟨g,0,none⟩),fun xs W=>(xs 2) = .pointer (some ⟨g,0,none⟩),fun xs W=>(xs 3) = .pointer (some ⟨g,0,none⟩),fun xs W=>(xs 4) = .pointer (some ⟨g,0,none⟩),fun xs W=>(xs 5) = .pointer (some ⟨g,0,none⟩),fun xs W=>(xs 6) = .pointer (some ⟨g,2,none⟩),fun xs W=>(xs 7) = .int .i64 (t:Nat),fun xs W=>(xs 8) = .int .i64 (n:Nat),fun xs W=>(xs 9) = .int .i64 (d:Nat),fun xs W=>(xs 10) = .int .i64 (n:Nat),fun xs W=>(xs 11) = .int .u64 (V:Nat),fun xs W=>(xs 12) = .int .i64 (n:Nat),fun xs W=>(xs 13) = .int .i64 (n:Nat),fun xs W=>(xs 14) = .int .i64 0,fun xs W=>(xs 15) = .int .u64 (V:Nat),fun xs W=>(xs 16) = .int .u64 (V:Nat)];have yf0:=yA 0;have yf1:=yA 1;have yf2:=yA 2;have yf3:=yA 3;have yf4:=yA 4;have yf5:=yA 5;have yf6:=yA 6;have yf7:=yA 7;have yf8:=yA 8;have yf9:=yA 9;have yf10:=yA 10;have yf11:=yA 11;have yf12:=yA 12;have yf13:=yA 13;have yf14:=yA 14;have yf15:=yA 15;have yf16:=yA 16;simp only [List.getD_cons_zero,List.getD_cons_succ]at yf0 yf1 yf2 yf3 yf4 yf5 yf6 yf7 yf8 yf9 yf10 yf11 yf12 yf13 yf14 yf15 yf16;(have yN:∀j xs W,17<=j->Y j xs W=True:=fun j xs W hj=>by rw [yA,QR _ _ _ hj])
 have yP:∀j xs W W',j∈[0,1,2,3,4,5,6,7,8,9,10,11,12,13,14,15,16]->Y j xs W->Y j xs W':=by
   intro j xs W W' hj hy;simp only [List.mem_cons,List.not_mem_nil,or_false]at hj;rcases hj with rfl|rfl|rfl|rfl|rfl|rfl|rfl|rfl|rfl|rfl|rfl|rfl|rfl|rfl|rfl|rfl|rfl
   . rw [yf0]at hy ⊢;exact hy
   . rw [yf1]at hy ⊢;exact hy
   . rw [yf2]at hy ⊢;exact hy
   . rw [yf3]at hy ⊢;exact hy
   . rw [yf4]at hy ⊢;exact hy
   . rw [yf5]at hy ⊢;exact hy
   . rw [yf6]at hy ⊢;exact hy
   . rw [yf7]at hy ⊢;exact hy
   . rw [yf8]at hy ⊢;exact hy
   . rw [yf9]at hy ⊢;exact hy
   . rw [yf10]at hy ⊢;exact hy
   . rw [yf11]at hy ⊢;exact hy
   . rw [yf12]at hy ⊢;exact hy
   . rw [yf13]at hy ⊢;exact hy
   . rw [yf14]at hy ⊢;exact hy
   . rw [yf15]at hy ⊢;exact hy
   rw [yf16]at hy ⊢;exact hy
 have yM:YA [[0],[1],[2],[3],[4],[5],[6],[7],[8],[9],[10],[11],[12],[13],[14],[15],[16]] Y:=by
   intro j xs xs' W hh hy;by_cases hj:17<=j
   . rw [yN j _ _ hj];trivial
   (have hj':j=0\/j=1\/j=2\/j=3\/j=4\/j=5\/j=6\/j=7\/j=8\/j=9\/j=10\/j=11\/j=12\/j=13\/j=14\/j=15\/j=16:=by omega);rcases hj' with rfl|rfl|rfl|rfl|rfl|rfl|rfl|rfl|rfl|rfl|rfl|rfl|rfl|rfl|rfl|rfl|rfl
   . rw [yf0]at hy ⊢;rw [<-hh 0 (by decide)];exact hy
   . rw [yf1]at hy ⊢;rw [<-hh 1 (by decide)];exact hy
   . rw [yf2]at hy ⊢;rw [<-hh 2 (by decide)];exact hy
   . rw [yf3]at hy ⊢;rw [<-hh 3 (by decide)];exact hy
   . rw [yf4]at hy ⊢;rw [<-hh 4 (by decide)];exact hy
   . rw [yf5]at hy ⊢;rw [<-hh 5 (by decide)];exact hy
   . rw [yf6]at hy ⊢;rw [<-hh 6 (by decide)];exact hy
   . rw [yf7]at hy ⊢;rw [<-hh 7 (by decide)];exact hy
   . rw [yf8]at hy ⊢;rw [<-hh 8 (by decide)];exact hy
   . rw [yf9]at hy ⊢;rw [<-hh 9 (by decide)];exact hy
   . rw [yf10]at hy ⊢;rw [<-hh 10 (by decide)];exact hy
   . rw [yf11]at hy ⊢;rw [<-hh 11 (by decide)];exact hy
   . rw [yf12]at hy ⊢;rw [<-hh 12 (by decide)];exact hy
   . rw [yf13]at hy ⊢;rw [<-hh 13 (by decide)];exact hy
   . rw [yf14]at hy ⊢;rw [<-hh 14 (by decide)];exact hy
   . rw [yf15]at hy ⊢;rw [<-hh 15 (by decide)];exact hy
   rw [yf16]at hy ⊢;rw [<-hh 16 (by decide)];exact hy
 clear yA
 have yR:∀j xs,17<=j->Y j xs (w1.drew):=by
   intro j xs hj;rcases(show 17<=j by omega)with hj;rw [yN _ _ _ hj];trivial
 refine QK Cw (fun j=>[]) Y [(0,some 17),(1,some 18),(2,some 19),(3,some 20),(4,some 21),(5,some 22),(6,some 23),(7,some 24),(8,some 25),(9,some 26),(10,some 27),(11,some 28),(12,some 29),(13,some 30),(14,some 31),(15,some 32),(16,some 4)] (by kernel_rfl) (by kernel_rfl) (by kernel_rfl) (by rw [cEq];exact(Upd.refl _ _).drew) (fun j hj=>yR j _ hj) ?_ ?_
 . refine Qf.cons [] (by kernel_rfl) (fun xs W hw hd lst hl K hK=>?_) ?_
   . rw [cEq]at hw
     have hK':=hK.out;clear hK;simp only [Qd,Act.put,List.setIfInBounds_toArray,List.set_cons_zero,List.set_cons_succ]at hK' ⊢;go_simp;exact hK' _ _ (by rw [cEq];exact hw) (Qb yM 0 (by kernel_rfl) xs W _) (by rw [yf0];exact if_pos rfl)
   refine Qf.cons [(0,some 17)] (by kernel_rfl) (fun xs W hw hd lst hl K hK=>?_) ?_
   . rw [cEq]at hw
     have hK':=hK.out;clear hK;simp only [Ql]at hd;obtain⟨hf0,_⟩:=hd;simp only [Qd,Act.put,List.setIfInBounds_toArray,List.set_cons_zero,List.set_cons_succ]at hK' ⊢;rw [yf0]at hf0;simp only [hf0]at hK' ⊢;go_simp;exact hK' _ _ (by rw [cEq];exact hw) (Qb yM 1 (by kernel_rfl) xs W _) (by rw [yf1];exact if_pos rfl)
   refine Qf.cons [(1,some 18)] (by kernel_rfl) (fun xs W hw hd lst hl K hK=>?_) ?_
   . rw [cEq]at hw
     have hK':=hK.out;clear hK;simp only [Ql]at hd;obtain⟨hf1,_⟩:=hd;simp only [Qd,Act.put,List.setIfInBounds_toArray,List.set_cons_zero,List.set_cons_succ]at hK' ⊢;rw [yf1]at hf1;simp only [hf1]at hK' ⊢;go_simp;exact hK' _ _ (by rw [cEq];exact hw) (Qb yM 2 (by kernel_rfl) xs W _) (by rw [yf2];exact if_pos rfl)
   refine Qf.cons [] (by kernel_rfl) (fun xs W hw hd lst hl K hK=>?_) ?_
   . rw [cEq]at hw
     have hK':=hK.out;clear hK;simp only [Qd,Act.put,List.setIfInBounds_toArray,List.set_cons_zero,List.set_cons_succ]at hK' ⊢;go_simp;exact hK' _ _ (by rw [cEq];exact hw) (Qb yM 3 (by kernel_rfl) xs W _) (by rw [yf3];exact if_pos rfl)
   refine Qf.cons [(3,some 20)] (by kernel_rfl) (fun xs W hw hd lst hl K hK=>?_) ?_
   . rw [cEq]at hw
     have hK':=hK.out;clear hK;simp only [Ql]at hd;obtain⟨hf3,_⟩:=hd;simp only [Qd,Act.put,List.setIfInBounds_toArray,List.set_cons_zero,List.set_cons_succ]at hK' ⊢;rw [yf3]at hf3;simp only [hf3]at hK' ⊢;go_simp;exact hK' _ _ (by rw [cEq];exact hw) (Qb yM 4 (by kernel_rfl) xs W _) (by rw [yf4];exact if_pos rfl)
   refine Qf.cons [(4,some 21)] (by kernel_rfl) (fun xs W hw hd lst hl K hK=>?_) ?_
   . rw [cEq]at hw
     have hK':=hK.out;clear hK;simp only [Ql]at hd;obtain⟨hf4,_⟩:=hd;simp only [Qd,Act.put,List.setIfInBounds_toArray,List.set_cons_zero,List.set_cons_succ]at hK' ⊢;rw [yf4]at hf4;simp only [hf4]at hK' ⊢;go_simp;exact hK' _ _ (by rw [cEq];exact hw) (Qb yM 5 (by kernel_rfl) xs W _) (by rw [yf5];exact if_pos rfl)
   refine Qf.cons [(5,some 22)] (by kernel_rfl) (fun xs W hw hd lst hl K hK=>?_) ?_
   . rw [cEq]at hw
     have hK':=hK.out;clear hK;simp only [Ql]at hd;obtain⟨hf5,_⟩:=hd;simp only [Qd,Act.put,List.setIfInBounds_toArray,List.set_cons_zero,List.set_cons_succ]at hK' ⊢;rw [yf5]at hf5;simp only [hf5]at hK' ⊢;go_simp;exact hK' _ _ (by rw [cEq];exact hw) (Qb yM 6 (by kernel_rfl) xs W _) (by rw [yf6];exact if_pos rfl)
   refine Qf.cons [(6,some 23)] (by kernel_rfl) (fun xs W hw hd lst hl K hK=>?_) ?_
   . rw [cEq]at hw
     have hK':=hK.out;clear hK;simp only [Ql]at hd;obtain⟨hf6,_⟩:=hd;simp only [Qd,Act.put,List.setIfInBounds_toArray,List.set_cons_zero,List.set_cons_succ]at hK' ⊢;rw [yf6]at hf6;simp only [hf6]at hK' ⊢;have cl:=HC2.out W hw;go_simp;exact hK' _ _ (by rw [cEq];exact hw) (Qb yM 7 (by kernel_rfl) xs W _) (by rw [yf7];exact if_pos rfl)
   refine Qf.cons [] (by kernel_rfl) (fun xs W hw hd lst hl K hK=>?_) ?_
   . rw [cEq]at hw
     have hK':=hK.out;clear hK;simp only [Qd,Act.put,List.setIfInBounds_toArray,List.set_cons_zero,List.set_cons_succ]at hK' ⊢;go_simp;exact hK' _ _ (by rw [cEq];exact hw) (Qb yM 8 (by kernel_rfl) xs W _) (by rw [yf8];exact if_pos rfl)
   refine Qf.cons [(7,some 24),(8,some 25)] (by kernel_rfl) (fun xs W hw hd lst hl K hK=>?_) ?_
   . rw [cEq]at hw
     have hK':=hK.out;clear hK;simp only [Ql]at hd;obtain⟨hf7,hf8,_⟩:=hd;simp only [Qd,Act.put,List.setIfInBounds_toArray,List.set_cons_zero,List.set_cons_succ]at hK' ⊢;rw [yf7]at hf7;rw [yf8]at hf8;simp only [hf7,hf8]at hK' ⊢;go_simp;exact hK' _ _ (by rw [cEq];exact hw) (Qb yM 9 (by kernel_rfl) xs W _) (by rw [yf9];exact if_pos rfl)
   refine Qf.cons [] (by kernel_rfl) (fun xs W hw hd lst hl K hK=>?_) ?_
   . rw [cEq]at hw
     have hK':=hK.out;clear hK;simp only [Qd,Act.put,List.setIfInBounds_toArray,List.set_cons_zero,List.set_cons_succ]at hK' ⊢;go_simp;exact hK' _ _ (by rw [cEq];exact hw) (Qb yM 10 (by kernel_rfl) xs W _) (by rw [yf10];exact if_pos rfl)
   refine Qf.cons [(2,some 19),(9,some 26),(10,some 27)] (by kernel_rfl) (fun xs W hw hd lst hl K hK=>?_) ?_
   . rw [cEq]at hw
     have hK':=hK.out;clear hK;simp only [Ql]at hd;obtain⟨hf2,hf9,hf10,_⟩:=hd;simp only [Qd,Act.put,List.setIfInBounds_toArray,List.set_cons_zero,List.set_cons_succ]at hK' ⊢;rw [yf2]at hf2;rw [yf9]at hf9;rw [yf10]at hf10;simp only [hf2,hf9,hf10]at hK' ⊢;go_simp;refine(HV.out W hw).mono ?_;rintro e9 w9 ⟨rfl,f9⟩;have hR:=trivial;refine hK' (_) (w9) (by rw [cEq];exact hw.trans' f9) (QG yM 11 (by kernel_rfl) _ fun j hs hy=>?_) (by rw [yf11];(try simp only [↓reduceIte]);try exact rfl);by_cases hp:j∈[0,1,2,3,4,5,6,7,8,9,10,11,12,13,14,15,16]
     . exact yP j _ _ _ hp hy
     by_cases hj:17<=j
     . rw [yN j _ _ hj];trivial
     simp only [List.mem_cons,List.not_mem_nil,or_false]at hp;exfalso;omega
   refine Qf.cons [] (by kernel_rfl) (fun xs W hw hd lst hl K hK=>?_) ?_
   . rw [cEq]at hw
     have hK':=hK.out;clear hK;simp only [Qd,Act.put,List.setIfInBounds_toArray,List.set_cons_zero,List.set_cons_succ]at hK' ⊢;go_simp;exact hK' _ _ (by rw [cEq];exact hw) (Qb yM 12 (by kernel_rfl) xs W _) (by rw [yf12];exact if_pos rfl)
   refine Qf.cons [] (by kernel_rfl) (fun xs W hw hd lst hl K hK=>?_) ?_
   . rw [cEq]at hw
     have hK':=hK.out;clear hK;simp only [Qd,Act.put,List.setIfInBounds_toArray,List.set_cons_zero,List.set_cons_succ]at hK' ⊢;go_simp;exact hK' _ _ (by rw [cEq];exact hw) (Qb yM 13 (by kernel_rfl) xs W _) (by rw [yf13];exact if_pos rfl)
   refine Qf.cons [(12,some 29),(13,some 30)] (by kernel_rfl) (fun xs W hw hd lst hl K hK=>?_) ?_
   . rw [cEq]at hw
     have hK':=hK.out;clear hK;simp only [Ql]at hd;obtain⟨hf12,hf13,_⟩:=hd;simp only [Qd,Act.put,List.setIfInBounds_toArray,List.set_cons_zero,List.set_cons_succ]at hK' ⊢;rw [yf12]at hf12;rw [yf13]at hf13;simp only [hf12,hf13]at hK' ⊢;go_simp;exact hK' _ _ (by rw [cEq];exact hw) (Qb yM 14 (by kernel_rfl) xs W _) (by rw [yf14];exact if_pos rfl)
   refine Qf.cons [(11,some 28),(14,some 31)] (by kernel_rfl) (fun xs W hw hd lst hl K hK=>?_) ?_
   . rw [cEq]at hw
     have hK':=hK.out;clear hK;simp only [Ql]at hd;obtain⟨hf11,hf14,_⟩:=hd;simp only [Qd,Act.put,List.setIfInBounds_toArray,List.set_cons_zero,List.set_cons_succ]at hK' ⊢;rw [yf11]at hf11;rw [yf14]at hf14;simp only [hf11,hf14]at hK' ⊢;go_simp;exact hK' _ _ (by rw [cEq];exact hw) (Qb yM 15 (by kernel_rfl) xs W _) (by rw [yf15];exact if_pos rfl)
   refine Qf.cons [(15,some 32)] (by kernel_rfl) (fun xs W hw hd lst hl K hK=>?_) ?_
   . rw [cEq]at hw
     have hK':=hK.out;clear hK;simp only [Ql]at hd;obtain⟨hf15,_⟩:=hd;simp only [Qd,Act.put,List.setIfInBounds_toArray,List.set_cons_zero,List.set_cons_succ]at hK' ⊢;rw [yf15]at hf15;simp only [hf15]at hK' ⊢;go_simp;exact hK' _ _ (by rw [cEq];exact hw) (Qb yM 16 (by kernel_rfl) xs W _) (by rw [yf16];exact if_pos rfl)
   exact Qf.nil
 intro xs W hw hd;rw [cEq]at hw;simp only [Yd]at hd;obtain⟨fe0,fe1,fe2,fe3,fe4,fe5,fe6,fe7,fe8,fe9,fe10,fe11,fe12,fe13,fe14,fe15,fe16,_⟩:=hd;have fe0:=fe0 (by first|kernel_rfl|trivial);rw [yf0]at fe0;have fe1:=fe1 (by first|kernel_rfl|trivial);rw [yf1]at fe1;have fe2:=fe2 (by first|kernel_rfl|trivial);rw [yf2]at fe2;have fe3:=fe3 (by first|kernel_rfl|trivial);rw [yf3]at fe3;have fe4:=fe4 (by first|kernel_rfl|trivial);rw [yf4]at fe4;have fe5:=fe5 (by first|kernel_rfl|trivial);rw [yf5]at fe5;have fe6:=fe6 (by first|kernel_rfl|trivial);rw [yf6]at fe6;have fe7:=fe7 (by first|kernel_rfl|trivial);rw [yf7]at fe7;have fe8:=fe8 (by first|kernel_rfl|trivial);rw [yf8]at fe8;have fe9:=fe9 (by first|kernel_rfl|trivial);rw [yf9]at fe9;have fe10:=fe10 (by first|kernel_rfl|trivial);rw [yf10]at fe10;have fe11:=fe11 (by first|kernel_rfl|trivial);rw [yf11]at fe11;have fe12:=fe12 (by first|kernel_rfl|trivial);rw [yf12]at fe12;have fe13:=fe13 (by first|kernel_rfl|trivial);rw [yf13]at fe13;have fe14:=fe14 (by first|kernel_rfl|trivial);rw [yf14]at fe14;have fe15:=fe15 (by first|kernel_rfl|trivial);rw [yf15]at fe15;have fe16:=fe16 (by first|kernel_rfl|trivial);rw [yf16]at fe16;simp only [Qd,Act.put,List.setIfInBounds_toArray,List.set_cons_zero,List.set_cons_succ];generalize xs 0=xv0 at *;generalize xs 1=xv1 at *;generalize xs 2=xv2 at *;generalize xs 3=xv3 at *;generalize xs 4=xv4 at *;generalize xs 5=xv5 at *;generalize xs 6=xv6 at *;generalize xs 7=xv7 at *;generalize xs 8=xv8 at *;generalize xs 9=xv9 at *;generalize xs 10=xv10 at *;generalize xs 11=xv11 at *;generalize xs 12=xv12 at *;generalize xs 13=xv13 at *;generalize xs 14=xv14 at *;generalize xs 15=xv15 at *;generalize xs 16=xv16 at *;subst fe0;subst fe1;subst fe2;subst fe3;subst fe4;subst fe5;subst fe6;subst fe7;subst fe8;subst fe9;subst fe10;subst fe11;subst fe12;subst fe13;subst fe14;subst fe15;subst fe16;clear yf0 yf1 yf2 yf3 yf4 yf5 yf6 yf7 yf8 yf9 yf10 yf11 yf12 yf13 yf14 yf15 yf16 yN yR yM yP cEq;go_wp2_with fail;(try go_ret);exact hR.out _ _ ⟨rfl,F1.out.trans' hw⟩
end Go.Proofs.YtckjdhaflokcgaaGreat
