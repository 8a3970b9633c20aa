/-
  SeqsMost: the law's function answers true.
  Conditions: none beyond those of each theorem.
-/
import Derived.Test.YtjfdaphjijfieaaGreatK41
import Derived.Test.YtjfdaphjijfieaaGreatK37
import Derived.Test.YtjfdaphjijfieaaGreatK34
import Derived.Test.YtjfdaphjijfieaaGreatK5
set_option maxHeartbeats 20000000
namespace Go.Proofs.YtjfdaphjijfieaaGreat
open Go.RowKit
set_option linter.unusedVariables false
set_option linter.unusedSimpArgs false
set_option maxRecDepth 100000 in
theorem Q87 (more:Int) (w:World) :
   Calls Tryz.prog 10 #[.int .i64 more] w fun e' w'=>e' = .returned (.bool true)/\Q0 w w':=by
 have HKN:=hd_ Ve;have F0:=hd_ (Upd.refl (fun _=>False) w);by_cases hlo:more<1
 . have hb:decide (more<1)=true:=decide_eq_true hlo
   refine Q7 fun R hR=>?_;go_enter Tryz.func10,Tryz.ntmps10;go_wp2_with fail;refine(HKN.out _).mono ?_;rintro e1 w1 ⟨rfl,f1⟩;have F1:=hd_ ((Upd.refl _ _).trans' f1);clear f1;go_wp2_with fail;(try go_ret);exact hR.out _ _ ⟨rfl,F0.out.trans' F1.out⟩
 by_cases hhi:100<more
 . have hlo2:¬more<1:=by omega
   refine Q7 fun R hR=>?_;go_enter Tryz.func10,Tryz.ntmps10;go_wp2_with fail;refine(HKN.out _).mono ?_;rintro e1 w1 ⟨rfl,f1⟩;have F1:=hd_ ((Upd.refl _ _).trans' f1);clear f1;go_wp2_with fail;(try go_ret);exact hR.out _ _ ⟨rfl,F0.out.trans' F1.out⟩
 obtain⟨k,rfl⟩:∃k:Nat,more=k:=⟨more.toNat,by omega⟩;have hs1:IntKind.i64.wrap (65536+(k:Int))=65536+k:=IntWalk.i64_in _ (by omega);(have hs2:IntKind.u64.wrap (65536+(k:Int))=65536+k:=by rw [IntKind.wrap_u64];omega)
 have HPV:=hd_ (show ∀W,Calls Tryz.prog 27 #[.slice none 0 0,.int .u64 (65536+(k:Int))] W fun e w'=>∃v,e = .returned (.tuple #[v,.int .i64 0])/\QJ W w' v (ZP (65536+k))from fun W=>by
   have:=Q6k (fun _=>False) none 0 0 [] (65536+k) W (Rd.nil _ _ _) (by omega) (by omega)
   rwa [Int.natCast_add,List.nil_append]at this)
 have HNW:=hd_ (fun(F:Nat->Prop) (A:Option Addr) (n c:Nat) (W:World) (h:Rd W F A n ((ZP (65536+k)).map fun b=>.int .u8 (b:Nat)))=>Zi F A n c (ZP (65536+k)) W h (Qal (by omega)) (by have:=Q42 (65536+k);omega));have HFI:=hd_ Xn
 have hdc:QB (ZP (65536+k)) 0 Qa.none 1 4 8=KM.no 15:=by
   have hv:Qn ((ZP (65536+k)).drop 0)=(65536+k,(ZP (65536+k)).length,0):=by
     have:=Q7I [] (n:=65536+k) (by omega)
     rwa [List.append_nil]at this
   unfold QB;rw [if_neg (by decide)];simp only [hv];rw [if_neg (by simp),if_pos (by omega)]
 have HDF:=hd_ (show ∀(F:Nat->Prop) (g:Nat) (W:World),Qi W F g (ZP (65536+k)) 0->(∀b,F b->b≠g)->Calls Tryz.prog 18 #[.pointer (some ⟨g,0,none⟩),.agg #[.slice none 0 0,.int .i64 0,.slice none 0 0,.int .i64 0,.slice none 0 0,.int .i64 0,.slice none 0 0,.int .i64 1,.int .i64 4,.int .i64 8]] W (fun e w'=>Upd (fun b=>b=g) W w'/\e = .returned (.tuple #[.slice none 0 0,.agg #[.slice none 0 0,.int .i64 0,.slice none 0 0,.int .i64 0,.slice none 0 0,.int .i64 0,.slice none 0 0,.int .i64 0,.int .i64 0,.int .i64 0],.int .i64 15]))from fun F g W h hF=>by
   have h2:=X1 F g _ W h hF;rw [hdc]at h2
   exact h2.mono fun e w' hp=>⟨hp.1,by have h3:=hp.2;rw [if_neg (by decide)]at h3;exact h3⟩)
 have HEN:=hd_ (show ∀W L,Calls Tryz.prog 24 #[.agg #[.slice none 0 0,.int .i64 0,.slice none 0 0,.int .i64 0,.slice none 0 0,.int .i64 0,.slice none 0 0,.int .i64 1,.int .i64 4,.int .i64 8],.slice L (65536+k) (65536+k)] W (fun e w'=>Q0 W w'/\e = .returned (.tuple #[.slice none 0 0,.agg #[.slice none 0 0,.int .i64 0,.slice none 0 0,.int .i64 0,.slice none 0 0,.int .i64 0,.slice none 0 0,.int .i64 0,.int .i64 0,.int .i64 0],.int .i64 15]))from fun W L=>by
   have h2:=Q4n none none none none L 0 0 0 0 0 0 0 0 (65536+k) (65536+k) Qa.none [] 1 4 8 (List.replicate (65536+k) (0,0,0)) W (by decide) (by rw [List.length_replicate]) (by omega) (by omega)
   have h4:QV Qa.none 1 4 8 (List.replicate (65536+k) (0,0,0))=(15,[],Qa.none,0,0,0):=by
     unfold QV;rw [if_neg (by decide),if_pos (by rw [List.length_replicate];omega)]
   rw [h4]at h2
   exact h2.mono fun e w' hp=>⟨hp.1,by have h3:=hp.2;rw [if_neg (by decide)]at h3;exact h3⟩)
 obtain⟨cm,HMK⟩:∃cm:Array Value,Hid (∀W,(Instr.makeSlice 37 (.int .i64 (65536+(k:Int))) (.int .i64 (65536+(k:Int)))).run Tryz.prog W = .ok (.slice (some ⟨W.heap.size,0,none⟩) (65536+k) (65536+k)) (W.alloc (.cells cm 23))):=by
   obtain⟨i,hi,hzz⟩:=Option.map_eq_some_iff.1 Q5j;simp only [Prod.mk.injEq]at hzz;obtain⟨hz,hs,hb⟩:=hzz;have hr:=fun W=>run_make (P:=Tryz.prog) W 37 23 i _ Tryz.underlying37 hi hz .i64 .i64 (65536+(k:Int)) (65536+(k:Int)) (by omega) (Int.le_refl _) (by rw [hb];omega) (by omega);simp only [show(65536+(k:Int)).toNat=65536+k by omega]at hr;exact⟨_,hd_ hr⟩
 have HFA:=hd_ (show ∀W:World,Q0 W (W.alloc (.cells cm 23))from fun W=>(Upd.refl _ _).alloc _);have h1:¬(k:Int)<1:=hlo;have h2:¬(100:Int)<k:=hhi;clear hlo hhi hdc;generalize ZP (65536+k)=vb at *;refine Q7 fun R hR=>?_;go_enter Tryz.func10,Tryz.ntmps10;go_wp2_with fail;refine(HPV.out _).mono ?_;rintro e1 w1 ⟨v,rfl,o1,f1,hb1⟩;obtain⟨Av,nv,cv,rfl,hnv⟩:=o1.form'
 have RV:=hd_ (show Rd w1 (fun _=>True) Av nv (Qb vb)from by
   obtain⟨A9,c9,he9,_,r9⟩:=o1.form;injection he9 with q1 q2 q3;subst q1 q2
   exact r9.mono fun _ _=>trivial)
 have F1:=hd_ f1;clear o1 f1 hb1 hnv;go_wp2_with fail;refine(HNW.out _ _ _ _ _ RV.out).mono ?_;rintro e2 w2 ⟨g,rfl,hg,f2,cu⟩;have CU:=hd_ cu;have HG:=hd_ (show w.heap.size<=g from Nat.le_trans F1.out.size hg);have F2:=hd_ (F1.out.trans' f2);clear f2 cu hg;go_wp2_with fail;refine(HFI.out _).mono ?_;rintro e3 w3 ⟨rfl,f3⟩;have HD3:=hd_ (HDF.out _ g w3 (CU.out.fresh f3) (fun b hb=>hb.2));have F3:=hd_ (F2.out.trans' f3);clear f3;go_wp2_with fail;refine HD3.out.mono ?_;rintro e4 w4 ⟨u4,rfl⟩;have F4:=hd_ (F3.out.trans u4 (fun b hb e=>by have:=HG.out;omega));clear u4;go_upto_region 5 with fail;obtain⟨w6,hw6⟩:=nm_ (w4.alloc (.cells #[.slice none 0 0,.int .i64 0,.slice none 0 0,.int .i64 0,.slice none 0 0,.int .i64 0,.slice none 0 0,.int .i64 0,.int .i64 0,.int .i64 0] 32));simp only [<-hw6];have F6:=hd_ (F4.out.trans' (show Q0 w4 w6 by rw [hw6];exact(Upd.refl _ _).alloc _));clear hw6;obtain⟨Cw,cEq⟩:=exC (fun W=>Q0 w6 W);obtain⟨Y,yA⟩:=exY [fun xs W=>(xs 0) = .agg #[.slice none 0 0,.int .i64 0,.slice none 0 0,.int .i64 0,.slice none 0 0,.int .i64 0,.slice none 0 0,.int .i64 1,.int .i64 4,.int .i64 8],fun xs W=>(xs 1) = .int .i64 k,fun xs W=>(xs 2) = .int .i64 (65536+k),fun xs W=>∃g,(xs 3) = .slice (some ⟨g,0,none⟩) (65536+k) (65536+k),fun xs W=>(xs 4) = .tuple #[.slice none 0 0,.agg #[.slice none 0 0,.int .i64 0,.slice none 0 0,.int .i64 0,.slice none 0 0,.int .i64 0,.slice none 0 0,.int .i64 0,.int .i64 0,.int .i64 0],.int .i64 15],fun xs W=>(xs 5) = .tuple #[.slice none 0 0,.agg #[.slice none 0 0,.int .i64 0,.slice none 0 0,.int .i64 0,.slice none 0 0,.int .i64 0,.slice none 0 0,.int .i64 0,.int .i64 0,.int .i64 0],.int .i64 15],fun xs W=>(xs 6) = .slice none 0 0,fun xs W=>(xs 7) = .agg #[.slice none 0 0,.int .i64 0,.slice none 0 0,.int .i64 0,.slice none 0 0,.int .i64 0,.slice none 0 0,.int .i64 0,.int .i64 0,.int .i64 0],fun xs W=>(xs 8) = .int .i64 15,fun xs W=>∃g,(xs 9) = .pointer (some ⟨g,0,none⟩)/\w6.heap.size<=g/\Blk W g 32 #[.slice none 0 0,.int .i64 0,.slice none 0 0,.int .i64 0,.slice none 0 0,.int .i64 0,.slice none 0 0,.int .i64 0,.int .i64 0,.int .i64 0],fun xs W=>(xs 10) = .slice none 0 0,fun xs W=>True,fun xs W=>(xs 12) = .int .i64 15];have yf0:=yA 0;have yf1:=yA 1;have yf2:=yA 2;have yf3:=yA 3;have yf4:=yA 4;have yf5:=yA 5;have yf6:=yA 6;have yf7:=yA 7;have yf8:=yA 8;have yf9:=yA 9;have yf10:=yA 10;have yf11:=yA 11;have yf12:=yA 12;simp only [List.getD_cons_zero,List.getD_cons_succ]at yf0 yf1 yf2 yf3 yf4 yf5 yf6 yf7 yf8 yf9 yf10 yf11 yf12;(have yN:∀j xs W,13<=j->Y j xs W=True:=fun j xs W hj=>by rw [yA,Z3 _ _ _ hj])
 have yP:∀j xs W W',j∈[0,1,2,3,4,5,6,7,8,10,11,12]->Y j xs W->Y j xs W':=by
   intro j xs W W' hj hy;simp only [List.mem_cons,List.not_mem_nil,or_false]at hj;rcases hj with rfl|rfl|rfl|rfl|rfl|rfl|rfl|rfl|rfl|rfl|rfl|rfl
   . rw [yf0]at hy ⊢;exact hy
   . rw [yf1]at hy ⊢;exact hy
   . rw [yf2]at hy ⊢;exact hy
   . rw [yf3]at hy ⊢;exact hy
   . rw [yf4]at hy ⊢;exact hy
   . rw [yf5]at hy ⊢;exact hy
   . rw [yf6]at hy ⊢;exact hy
   . rw [yf7]at hy ⊢;exact hy
   . rw [yf8]at hy ⊢;exact hy
   . rw [yf10]at hy ⊢;exact hy
   . rw [yf11]at hy ⊢;exact hy
   rw [yf12]at hy ⊢;exact hy
 have yM:VQ [[0],[1],[2],[3],[4],[5],[6],[7],[8],[9],[10],[],[12]] Y:=by
   intro j xs xs' W hh hy;by_cases hj:13<=j
   . rw [yN j _ _ hj];trivial
   (have hj':j=0\/j=1\/j=2\/j=3\/j=4\/j=5\/j=6\/j=7\/j=8\/j=9\/j=10\/j=11\/j=12:=by omega);rcases hj' with rfl|rfl|rfl|rfl|rfl|rfl|rfl|rfl|rfl|rfl|rfl|rfl|rfl
   . rw [yf0]at hy ⊢;rw [<-hh 0 (by decide)];exact hy
   . rw [yf1]at hy ⊢;rw [<-hh 1 (by decide)];exact hy
   . rw [yf2]at hy ⊢;rw [<-hh 2 (by decide)];exact hy
   . rw [yf3]at hy ⊢;rw [<-hh 3 (by decide)];exact hy
   . rw [yf4]at hy ⊢;rw [<-hh 4 (by decide)];exact hy
   . rw [yf5]at hy ⊢;rw [<-hh 5 (by decide)];exact hy
   . rw [yf6]at hy ⊢;rw [<-hh 6 (by decide)];exact hy
   . rw [yf7]at hy ⊢;rw [<-hh 7 (by decide)];exact hy
   . rw [yf8]at hy ⊢;rw [<-hh 8 (by decide)];exact hy
   . rw [yf9]at hy ⊢;rw [<-hh 9 (by decide)];exact hy
   . rw [yf10]at hy ⊢;rw [<-hh 10 (by decide)];exact hy
   . rw [yf11]at hy ⊢;exact hy
   rw [yf12]at hy ⊢;rw [<-hh 12 (by decide)];exact hy
 clear yA
 have yR:∀j xs,13<=j->Y j xs (w6.drew):=by
   intro j xs hj;rcases(show 13<=j by omega)with hj;rw [yN _ _ _ hj];trivial
 refine Jf Cw (fun j=>if j=9 then [11]else []) Y [(0,some 34),(1,some 35),(2,some 36),(3,some 37),(4,some 38),(5,some 33),(6,some 39),(7,some 40),(8,some 41),(9,some 9),(10,some 8),(11,none),(12,some 10)] (by kernel_rfl) (by kernel_rfl) (by kernel_rfl) (by rw [cEq];exact(Upd.refl _ _).drew) (fun j hj=>yR j _ hj) ?_ ?_
 . refine Qf.cons [] (by kernel_rfl) (fun xs W hw hd lst hl K hK=>?_) ?_
   . rw [cEq]at hw
     have hK':=hK.out;clear hK;simp only [Qd,Act.put,List.setIfInBounds_toArray,List.set_cons_zero,List.set_cons_succ]at hK' ⊢;go_simp;refine(HFI.out W).mono ?_;rintro ez wz ⟨rfl,fz⟩;have hR:=fz;refine hK' (_) (wz) (by rw [cEq];exact hw.trans' fz) (Qu yM 0 (by kernel_rfl) _ fun j hs hy=>?_) (by rw [yf0];(try simp only [↓reduceIte]);try exact rfl);by_cases hp:j∈[0,1,2,3,4,5,6,7,8,10,11,12]
     . exact yP j _ _ _ hp hy
     by_cases hj:13<=j
     . rw [yN j _ _ hj];trivial
     simp only [List.mem_cons,List.not_mem_nil,or_false]at hp;rcases(show j=9 by omega)with rfl;rw [yf9]at hy ⊢;obtain⟨g,k1,k2,k3⟩:=hy;exact⟨g,k1,k2,k3.fresh hR⟩
   refine Qf.cons [] (by kernel_rfl) (fun xs W hw hd lst hl K hK=>?_) ?_
   . rw [cEq]at hw
     have hK':=hK.out;clear hK;simp only [Qd,Act.put,List.setIfInBounds_toArray,List.set_cons_zero,List.set_cons_succ]at hK' ⊢;go_simp;exact hK' _ _ (by rw [cEq];exact hw) (Q9 yM 1 (by kernel_rfl) xs W _) (by rw [yf1];exact if_pos rfl)
   refine Qf.cons [(1,some 35)] (by kernel_rfl) (fun xs W hw hd lst hl K hK=>?_) ?_
   . rw [cEq]at hw
     have hK':=hK.out;clear hK;simp only [Qr]at hd;obtain⟨hf1,_⟩:=hd;simp only [Qd,Act.put,List.setIfInBounds_toArray,List.set_cons_zero,List.set_cons_succ]at hK' ⊢;rw [yf1]at hf1;simp only [hf1]at hK' ⊢;go_simp;exact hK' _ _ (by rw [cEq];exact hw) (Q9 yM 2 (by kernel_rfl) xs W _) (by rw [yf2];exact if_pos rfl)
   refine Qf.cons [(2,some 36)] (by kernel_rfl) (fun xs W hw hd lst hl K hK=>?_) ?_
   . rw [cEq]at hw
     have hK':=hK.out;clear hK;simp only [Qr]at hd;obtain⟨hf2,_⟩:=hd;simp only [Qd,Act.put,List.setIfInBounds_toArray,List.set_cons_zero,List.set_cons_succ]at hK' ⊢;rw [yf2]at hf2;simp only [hf2]at hK' ⊢;have hmk:=HMK.out W;go_simp;clear hmk;have hfa:=HFA.out W;have hR:=hfa;refine hK' (_) (_) (by rw [cEq];exact hw.trans' hfa) (Qu yM 3 (by kernel_rfl) _ fun j hs hy=>?_) (by rw [yf3];(try simp only [↓reduceIte]);try exact⟨W.heap.size,rfl⟩);by_cases hp:j∈[0,1,2,3,4,5,6,7,8,10,11,12]
     . exact yP j _ _ _ hp hy
     by_cases hj:13<=j
     . rw [yN j _ _ hj];trivial
     simp only [List.mem_cons,List.not_mem_nil,or_false]at hp;rcases(show j=9 by omega)with rfl;rw [yf9]at hy ⊢;obtain⟨g,k1,k2,k3⟩:=hy;exact⟨g,k1,k2,k3.fresh hR⟩
   refine Qf.cons [(0,some 34),(3,some 37)] (by kernel_rfl) (fun xs W hw hd lst hl K hK=>?_) ?_
   . rw [cEq]at hw
     have hK':=hK.out;clear hK;simp only [Qr]at hd;obtain⟨hf0,hf3,_⟩:=hd;simp only [Qd,Act.put,List.setIfInBounds_toArray,List.set_cons_zero,List.set_cons_succ]at hK' ⊢;rw [yf0]at hf0;rw [yf3]at hf3;simp only [hf0]at hK' ⊢;obtain⟨g3,h3e⟩:=hf3;simp only [h3e]at hK' ⊢;go_simp;refine(HEN.out W (some ⟨g3,0,none⟩)).mono ?_;rintro ez wz ⟨fz,hz⟩;subst hz;have hR:=fz;refine hK' (_) (wz) (by rw [cEq];exact hw.trans' fz) (Qu yM 4 (by kernel_rfl) _ fun j hs hy=>?_) (by rw [yf4];(try simp only [↓reduceIte]);try exact rfl);by_cases hp:j∈[0,1,2,3,4,5,6,7,8,10,11,12]
     . exact yP j _ _ _ hp hy
     by_cases hj:13<=j
     . rw [yN j _ _ hj];trivial
     simp only [List.mem_cons,List.not_mem_nil,or_false]at hp;rcases(show j=9 by omega)with rfl;rw [yf9]at hy ⊢;obtain⟨g,k1,k2,k3⟩:=hy;exact⟨g,k1,k2,k3.fresh hR⟩
   refine Qf.cons [(4,some 38)] (by kernel_rfl) (fun xs W hw hd lst hl K hK=>?_) ?_
   . rw [cEq]at hw
     have hK':=hK.out;clear hK;simp only [Qr]at hd;obtain⟨hf4,_⟩:=hd;simp only [Qd,Act.put,List.setIfInBounds_toArray,List.set_cons_zero,List.set_cons_succ]at hK' ⊢;rw [yf4]at hf4;simp only [hf4]at hK' ⊢;go_simp;exact hK' _ _ (by rw [cEq];exact hw) (Q9 yM 5 (by kernel_rfl) xs W _) (by rw [yf5];exact if_pos rfl)
   refine Qf.cons [(5,some 33)] (by kernel_rfl) (fun xs W hw hd lst hl K hK=>?_) ?_
   . rw [cEq]at hw
     have hK':=hK.out;clear hK;simp only [Qr]at hd;obtain⟨hf5,_⟩:=hd;simp only [Qd,Act.put,List.setIfInBounds_toArray,List.set_cons_zero,List.set_cons_succ]at hK' ⊢;rw [yf5]at hf5;simp only [hf5]at hK' ⊢;go_simp;exact hK' _ _ (by rw [cEq];exact hw) (Q9 yM 6 (by kernel_rfl) xs W _) (by rw [yf6];exact if_pos rfl)
   refine Qf.cons [(5,some 33)] (by kernel_rfl) (fun xs W hw hd lst hl K hK=>?_) ?_
   . rw [cEq]at hw
     have hK':=hK.out;clear hK;simp only [Qr]at hd;obtain⟨hf5,_⟩:=hd;simp only [Qd,Act.put,List.setIfInBounds_toArray,List.set_cons_zero,List.set_cons_succ]at hK' ⊢;rw [yf5]at hf5;simp only [hf5]at hK' ⊢;go_simp;exact hK' _ _ (by rw [cEq];exact hw) (Q9 yM 7 (by kernel_rfl) xs W _) (by rw [yf7];exact if_pos rfl)
   refine Qf.cons [(5,some 33)] (by kernel_rfl) (fun xs W hw hd lst hl K hK=>?_) ?_
   . rw [cEq]at hw
     have hK':=hK.out;clear hK;simp only [Qr]at hd;obtain⟨hf5,_⟩:=hd;simp only [Qd,Act.put,List.setIfInBounds_toArray,List.set_cons_zero,List.set_cons_succ]at hK' ⊢;rw [yf5]at hf5;simp only [hf5]at hK' ⊢;go_simp;exact hK' _ _ (by rw [cEq];exact hw) (Q9 yM 8 (by kernel_rfl) xs W _) (by rw [yf8];exact if_pos rfl)
   refine Qf.cons [] (by kernel_rfl) (fun xs W hw hd lst hl K hK=>?_) ?_
   . rw [cEq]at hw
     have hK':=hK.out;clear hK;simp only [Qd,Act.put,List.setIfInBounds_toArray,List.set_cons_zero,List.set_cons_succ]at hK' ⊢;go_simp;have hfa:Q0 W (W.alloc (.cells #[.slice none 0 0,.int .i64 0,.slice none 0 0,.int .i64 0,.slice none 0 0,.int .i64 0,.slice none 0 0,.int .i64 0,.int .i64 0,.int .i64 0] 32)):=(Upd.refl _ _).alloc _;have hsw:=hw.size;have hR:=hfa;refine hK' (_) (_) (by rw [cEq];exact hw.trans' hfa) (Qu yM 9 (by kernel_rfl) _ fun j hs hy=>?_) (by rw [yf9];(try simp only [↓reduceIte]);try exact⟨W.heap.size,rfl,hsw,Blk.new _ _ _⟩);by_cases hp:j∈[0,1,2,3,4,5,6,7,8,10,11,12]
     . exact yP j _ _ _ hp hy
     by_cases hj:13<=j
     . rw [yN j _ _ hj];trivial
     simp only [List.mem_cons,List.not_mem_nil,or_false]at hp;rcases(show j=9 by omega)with rfl;exact(Q5 hs (by kernel_rfl)).elim
   refine Qf.cons [(6,some 39)] (by kernel_rfl) (fun xs W hw hd lst hl K hK=>?_) ?_
   . rw [cEq]at hw
     have hK':=hK.out;clear hK;simp only [Qr]at hd;obtain⟨hf6,_⟩:=hd;simp only [Qd,Act.put,List.setIfInBounds_toArray,List.set_cons_zero,List.set_cons_succ]at hK' ⊢;rw [yf6]at hf6;simp only [hf6]at hK' ⊢;go_simp;exact hK' _ _ (by rw [cEq];exact hw) (Q9 yM 10 (by kernel_rfl) xs W _) (by rw [yf10];exact if_pos rfl)
   refine Qf.cons [(9,some 9),(7,some 40)] (by kernel_rfl) (fun xs W hw hd lst hl K hK=>?_) ?_
   . rw [cEq]at hw
     have hK':=hK.out;clear hK;simp only [Qr]at hd;obtain⟨hf9,hf7,_⟩:=hd;simp only [Qd,Act.put,List.setIfInBounds_toArray,List.set_cons_zero,List.set_cons_succ]at hK' ⊢;rw [yf9]at hf9;rw [yf7]at hf7;simp only [hf7]at hK' ⊢;obtain⟨g,h9e,hg9,b9⟩:=hf9;simp only [h9e]at hK' ⊢;have cq0:=b9.cell 0;have cq1:=b9.cell 1;have cq2:=b9.cell 2;have cq3:=b9.cell 3;have cq4:=b9.cell 4;have cq5:=b9.cell 5;have cq6:=b9.cell 6;have cq7:=b9.cell 7;have cq8:=b9.cell 8;have cq9:=b9.cell 9;obtain⟨cz0,cz1,cz2,cz3,cz4,cz5,cz6,cz7,cz8,cz9⟩:=(b9).frozens10;simp at cq0 cq1 cq2 cq3 cq4 cq5 cq6 cq7 cq8 cq9;have us:=Ju W g (.slice none 0 0) (.int .i64 0) (.slice none 0 0) (.int .i64 0) (.slice none 0 0) (.int .i64 0) (.slice none 0 0) (.int .i64 0) (.int .i64 0) (.int .i64 0);have US:=hd_ us;clear b9 us;go_simp;have hR:=US.out;refine hK' (undef) (_) (by rw [cEq];exact hw.trans US.out (fun b hb h=>by omega)) (Qu yM 11 (by kernel_rfl) _ fun j hs hy=>?_) (by rw [yf11];(try simp only [↓reduceIte]);try exact trivial);by_cases hp:j∈[0,1,2,3,4,5,6,7,8,10,11,12]
     . exact yP j _ _ _ hp hy
     by_cases hj:13<=j
     . rw [yN j _ _ hj];trivial
     simp only [List.mem_cons,List.not_mem_nil,or_false]at hp;rcases(show j=9 by omega)with rfl;exact(Q5 hs (by kernel_rfl)).elim
   refine Qf.cons [(8,some 41)] (by kernel_rfl) (fun xs W hw hd lst hl K hK=>?_) ?_
   . rw [cEq]at hw
     have hK':=hK.out;clear hK;simp only [Qr]at hd;obtain⟨hf8,_⟩:=hd;simp only [Qd,Act.put,List.setIfInBounds_toArray,List.set_cons_zero,List.set_cons_succ]at hK' ⊢;rw [yf8]at hf8;simp only [hf8]at hK' ⊢;go_simp;exact hK' _ _ (by rw [cEq];exact hw) (Q9 yM 12 (by kernel_rfl) xs W _) (by rw [yf12];exact if_pos rfl)
   exact Qf.nil
 intro xs w7 hw hd;rw [cEq]at hw;simp only [Kg]at hd;obtain⟨fe0,fe1,fe2,fe3,fe4,fe5,fe6,fe7,fe8,fe9,fe10,fe11,fe12,_⟩:=hd;have fe0:=fe0 (by kernel_rfl);rw [yf0]at fe0;have fe1:=fe1 (by kernel_rfl);rw [yf1]at fe1;have fe2:=fe2 (by kernel_rfl);rw [yf2]at fe2;have fe3:=fe3 (by kernel_rfl);rw [yf3]at fe3;have fe4:=fe4 (by kernel_rfl);rw [yf4]at fe4;have fe5:=fe5 (by kernel_rfl);rw [yf5]at fe5;have fe6:=fe6 (by kernel_rfl);rw [yf6]at fe6;have fe7:=fe7 (by kernel_rfl);rw [yf7]at fe7;have fe8:=fe8 (by kernel_rfl);rw [yf8]at fe8;have fe10:=fe10 (by kernel_rfl);rw [yf10]at fe10;have fe11:=fe11 (by kernel_rfl);rw [yf11]at fe11;have fe12:=fe12 (by kernel_rfl);rw [yf12]at fe12;clear fe9;simp only [Qd,Act.put,List.setIfInBounds_toArray,List.set_cons_zero,List.set_cons_succ];generalize xs 0=xv0 at *;generalize xs 1=xv1 at *;generalize xs 2=xv2 at *;generalize xs 3=xv3 at *;generalize xs 4=xv4 at *;generalize xs 5=xv5 at *;generalize xs 6=xv6 at *;generalize xs 7=xv7 at *;generalize xs 8=xv8 at *;generalize xs 9=xv9 at *;generalize xs 10=xv10 at *;generalize xs 11=xv11 at *;generalize xs 12=xv12 at *;subst fe0;subst fe1;subst fe2;subst fe4;subst fe5;subst fe6;subst fe7;subst fe8;subst fe10;subst fe12;clear yf0 yf1 yf2 yf3 yf4 yf5 yf6 yf7 yf8 yf9 yf10 yf11 yf12 yN yR yM yP cEq;(try clear fe3);(try clear fe9);have F7:=hd_ (F6.out.trans' hw);clear hw;go_wp2_with fail;refine(HKN.out _).mono ?_;rintro e8 w8 ⟨rfl,f8⟩;have F8:=hd_ ((F7.out).trans' f8);clear f8;go_wp2_with fail;(try go_ret);exact hR.out _ _ ⟨rfl,F0.out.trans' F8.out⟩
end Go.Proofs.YtjfdaphjijfieaaGreat
