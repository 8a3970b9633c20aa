/-
  Joined texts, part 35: contracts and plain lemmas.
  Conditions: none beyond those of each theorem.
-/
import Derived.Test.YtjfdaphjijfieaaGreatN33
import Derived.Test.YtjfdaphjijfieaaGreatN5
set_option maxHeartbeats 20000000
set_option linter.unusedVariables false
set_option linter.unusedSimpArgs false
set_option maxRecDepth 100000
universe u
namespace Go.Proofs.YtjfdaphjijfieaaGreat
open Go.RowKit
theorem V9 (F:Nat->Prop) (A:Option Addr) (n c:Nat) (lg:Int) (N:List Int) (w:World) (hr:Rd w F A n (Q1 N)) (hn:n<=2^32) :
   Calls Tryz.prog 39 #[.agg #[.int .i64 lg,.slice A n c]] w fun e w'=>∃A' c',e = .returned (.agg #[.int .i64 lg,.slice A' n c'])/\RdU w' (fun b=>w.heap.size<=b) A' n (Q1 N)/\Q0 w w':=by
 obtain⟨w1,hw1⟩:=nm_ ((w.alloc (.cells #[.int .i64 lg,.slice A n c] 29)).alloc (.cells #[.int .i64 0,.slice none 0 0] 29));obtain⟨H,hH⟩:=nm_ (w.heap.size);(have f1:Q0 w w1:=by rw [hw1];exact((Upd.refl _ _).alloc _).alloc _);(have bt:Blk w1 H 29 #[.int .i64 lg,.slice A n c]:=by rw [hw1];exact(Q2 hH _ _).alloc _);have BO:=hd_ (show Blk w1 (H+1) 29 #[.int .i64 0,.slice none 0 0] by rw [hw1];exact Q2 (by simp [hH]) _ _);have HZ:=hd_ (show w1.heap.size=H+2 by rw [hw1,hH];simp)
 have HCL:=hd_ (show ∀W,Upd (fun b=>b=H+1) w1 W->W.cell? ⟨H,0,none⟩=some (.int .i64 lg)/\W.cell? ⟨H,1,none⟩=some (.slice A n c)from fun W hu=>by
   have bb:=bt.upd hu (by omega)
   exact bb.cells2)
 have HRD:=hd_ (fun W (hu:Upd (fun b=>b=H+1) w1 W)=>(hr.old.fresh f1).upd hu (fun b _ hb e=>by omega));have HN:=hd_ (show N.length=n by have:=hr.1;rw [QU]at this;exact this);have hnb:n<=2^32:=hn;have F1:=hd_ f1;have HW:=hd_ hw1;have HH:=hd_ hH;clear hr f1 bt hw1 hH hn;refine Q6 fun R hR=>?_;go_enter Tryz.func39,Tryz.ntmps39;go_upto_region 1 with fail;simp only [<-HH.out,<-HW.out];obtain⟨Cw,cEq⟩:=exC (fun W=>Upd (fun b=>b=H+1) w1 W);obtain⟨Y,yA⟩:=exY [fun xs W=>(xs 0) = .pointer (some ⟨H,0,none⟩),fun xs W=>(xs 1) = .int .i64 lg,fun xs W=>(xs 2) = .pointer (some ⟨H,1,none⟩),fun xs W=>(xs 3) = .slice A n c,fun xs W=>Own W 3 (xs 4) (Q1 N)/\∀b,Value.ownBlock (xs 4)=some b->w1.heap.size<=b,fun xs W=>∃A' c',(xs 5) = .agg #[.int .i64 lg,.slice A' n c']/\RdU W (fun b=>w1.heap.size<=b) A' n (Q1 N),fun xs W=>∃A' c',Blk W (H+1) 29 #[.int .i64 lg,.slice A' n c']/\RdU W (fun b=>w1.heap.size<=b) A' n (Q1 N),fun xs W=>Blk W (H+1) 29 #[.int .i64 0,.slice none 0 0]];have yf0:=yA 0;have yf1:=yA 1;have yf2:=yA 2;have yf3:=yA 3;have yf4:=yA 4;have yf5:=yA 5;have yf6:=yA 6;have yf7:=yA 7;simp only [List.getD_cons_zero,List.getD_cons_succ]at yf0 yf1 yf2 yf3 yf4 yf5 yf6 yf7;(have yN:∀j xs W,8<=j->Y j xs W=True:=fun j xs W hj=>by rw [yA,XY _ _ _ hj])
 have yP:∀j xs W W',j∈[0,1,2,3]->Y j xs W->Y j xs W':=by
   intro j xs W W' hj hy;simp only [List.mem_cons,List.not_mem_nil,or_false]at hj;rcases hj with rfl|rfl|rfl|rfl
   . rw [yf0]at hy ⊢;exact hy
   . rw [yf1]at hy ⊢;exact hy
   . rw [yf2]at hy ⊢;exact hy
   rw [yf3]at hy ⊢;exact hy
 have yM:Q2K [[0],[1],[2],[3],[4],[5],[],[]] Y:=by
   intro j xs xs' W hh hy;by_cases hj:8<=j
   . rw [yN j _ _ hj];trivial
   (have hj':j=0\/j=1\/j=2\/j=3\/j=4\/j=5\/j=6\/j=7:=by omega);rcases hj' with rfl|rfl|rfl|rfl|rfl|rfl|rfl|rfl
   . rw [yf0]at hy ⊢;rw [<-hh 0 (by decide)];exact hy
   . rw [yf1]at hy ⊢;rw [<-hh 1 (by decide)];exact hy
   . rw [yf2]at hy ⊢;rw [<-hh 2 (by decide)];exact hy
   . rw [yf3]at hy ⊢;rw [<-hh 3 (by decide)];exact hy
   . rw [yf4]at hy ⊢;rw [<-hh 4 (by decide)];exact hy
   . rw [yf5]at hy ⊢;rw [<-hh 5 (by decide)];exact hy
   . rw [yf6]at hy ⊢;exact hy
   rw [yf7]at hy ⊢;exact hy
 clear yA
 have yR:∀j xs,7<=j->Y j xs (w1.drew):=by
   intro j xs hj;rcases(show j=7\/8<=j by omega)with rfl|hj
   . rw [yf7];exact BO.out.drew
   rw [yN _ _ _ hj];trivial
 refine Va Cw (fun j=>if j=4 then [6]else if j=5 then [6]else if j=7 then [6]else []) Y [(0,some 3),(1,some 4),(2,some 5),(3,some 6),(4,some 7),(5,some 8),(6,none)] (by kernel_rfl) (by kernel_rfl) (by kernel_rfl) (by rw [cEq];exact(Upd.refl _ _).drew) (fun j hj=>yR j _ hj) ?_ ?_
 . refine Yi.cons [] (by kernel_rfl) (fun xs W hw hd lst hl K hK=>?_) ?_
   . rw [cEq]at hw
     have hK':=hK.out;clear hK;simp only [QL,Act.put,List.setIfInBounds_toArray,List.set_cons_zero,List.set_cons_succ]at hK' ⊢;go_simp;exact hK' _ _ (by rw [cEq];exact hw) (Y6 yM 0 (by kernel_rfl) xs W _) (by rw [yf0];exact if_pos rfl)
   refine Yi.cons [(0,some 3)] (by kernel_rfl) (fun xs W hw hd lst hl K hK=>?_) ?_
   . rw [cEq]at hw
     have hK':=hK.out;clear hK;simp only [J7]at hd;obtain⟨hf0,_⟩:=hd;simp only [QL,Act.put,List.setIfInBounds_toArray,List.set_cons_zero,List.set_cons_succ]at hK' ⊢;rw [yf0]at hf0;simp only [hf0]at hK' ⊢;have cl:=HCL.out W hw;obtain⟨cz0,cz1⟩:=cl;go_simp;exact hK' _ _ (by rw [cEq];exact hw) (Y6 yM 1 (by kernel_rfl) xs W _) (by rw [yf1];exact if_pos rfl)
   refine Yi.cons [] (by kernel_rfl) (fun xs W hw hd lst hl K hK=>?_) ?_
   . rw [cEq]at hw
     have hK':=hK.out;clear hK;simp only [QL,Act.put,List.setIfInBounds_toArray,List.set_cons_zero,List.set_cons_succ]at hK' ⊢;go_simp;exact hK' _ _ (by rw [cEq];exact hw) (Y6 yM 2 (by kernel_rfl) xs W _) (by rw [yf2];exact if_pos rfl)
   refine Yi.cons [(2,some 5)] (by kernel_rfl) (fun xs W hw hd lst hl K hK=>?_) ?_
   . rw [cEq]at hw
     have hK':=hK.out;clear hK;simp only [J7]at hd;obtain⟨hf2,_⟩:=hd;simp only [QL,Act.put,List.setIfInBounds_toArray,List.set_cons_zero,List.set_cons_succ]at hK' ⊢;rw [yf2]at hf2;simp only [hf2]at hK' ⊢;have cl:=HCL.out W hw;obtain⟨cz0,cz1⟩:=cl;go_simp;exact hK' _ _ (by rw [cEq];exact hw) (Y6 yM 3 (by kernel_rfl) xs W _) (by rw [yf3];exact if_pos rfl)
   refine Yi.cons [(3,some 6)] (by kernel_rfl) (fun xs W hw hd lst hl K hK=>?_) ?_
   . rw [cEq]at hw
     have hK':=hK.out;clear hK;simp only [J7]at hd;obtain⟨hf3,_⟩:=hd;simp only [QL,Act.put,List.setIfInBounds_toArray,List.set_cons_zero,List.set_cons_succ]at hK' ⊢;rw [yf3]at hf3;simp only [hf3]at hK' ⊢;rw [if_pos (by rfl)];refine X5 W (.const (.slice none 0 0)) (.tmp 6) _ (by rfl) 3 _ 8 Tryz.underlying27 Yx rfl (.slice none 0 0) [] (by rfl) (Own.nil _ _) A n c _ (by rfl) (HRD.out W hw) (KR N) (by omega) (by simp;omega) ?_;intro v' W' ho hg ha;have hfr:Q0 W W':=Upd.grown (Upd.refl _ _) hg (fun k hk _=>by cases hk);have hsz:=hw.size;have hR:=hfr;refine hK' (v') (W') (by rw [cEq];exact hw.trans hfr (fun _ _ h=>h.elim)) (Jr yM 4 (by kernel_rfl) _ fun j hs hy=>?_) (by rw [yf4];(try simp only [↓reduceIte]);try exact⟨by simpa using ho,fun b hb=>by rcases ha with ha|ha;rw [ha]at hb;cases hb;rw [ha]at hb;injection hb with hb;omega⟩);by_cases hp:j∈[0,1,2,3]
     . exact yP j _ _ _ hp hy
     by_cases hj:8<=j
     . rw [yN j _ _ hj];trivial
     simp only [List.mem_cons,List.not_mem_nil,or_false]at hp;rcases(show j=4\/j=5\/j=6\/j=7 by omega)with rfl|rfl|rfl|rfl
     . exact(QB hs (by kernel_rfl)).elim
     . exact(QB hs (by kernel_rfl)).elim
     . exact(QB hs (by kernel_rfl)).elim
     rw [yf7]at hy ⊢;exact hy.fresh hR
   refine Yi.cons [(1,some 4),(4,some 7)] (by kernel_rfl) (fun xs W hw hd lst hl K hK=>?_) ?_
   . rw [cEq]at hw
     have hK':=hK.out;clear hK;simp only [J7]at hd;obtain⟨hf1,hf4,_⟩:=hd;simp only [QL,Act.put,List.setIfInBounds_toArray,List.set_cons_zero,List.set_cons_succ]at hK' ⊢;rw [yf1]at hf1;rw [yf4]at hf4;simp only [hf1]at hK' ⊢;obtain⟨o4,k4⟩:=hf4;obtain⟨A',n',c',h4e,hn'⟩:=o4.form';(have hn2:n'=n:=by have:=hn'.out;rw [QU]at this;have:=HN.out;omega);subst hn2;simp only [h4e]at hK' ⊢;rw [h4e]at o4 k4;have ru:=o4.rdu.mono (fun b hb=>k4 b hb);have RUh:=hd_ ru;clear ru o4;go_simp;exact hK' _ _ (by rw [cEq];exact hw) (Y6 yM 5 (by kernel_rfl) xs W _) (by rw [yf5];(try simp only [↓reduceIte,OfNat.ofNat_ne_ofNat,Nat.reduceEqDiff]);exact⟨A',c',rfl,RUh.out⟩)
   refine Yi.cons [(5,some 8),(7,none)] (by kernel_rfl) (fun xs W hw hd lst hl K hK=>?_) ?_
   . rw [cEq]at hw
     have hK':=hK.out;clear hK;simp only [J7]at hd;obtain⟨hf5,hf7,_⟩:=hd;simp only [QL,Act.put,List.setIfInBounds_toArray,List.set_cons_zero,List.set_cons_succ]at hK' ⊢;rw [yf5]at hf5;rw [yf7]at hf7;obtain⟨A',c',h5e,ru⟩:=hf5;simp only [h5e]at hK' ⊢;have cq0:=hf7.cell 0;have cq1:=hf7.cell 1;have cz0:=hf7.frozen 0;have cz1:=hf7.frozen 1;simp at cq0 cq1;have hO:=((hf7.set_ 0 (.int .i64 lg)).set_ 1 (.slice A' n c'));simp at hO;have HO:=hd_ hO;have US:=hd_ (Q5G W (H+1) (.int .i64 lg) (.slice A' n c'));have RUh:=hd_ ru;have hz:=HZ.out;clear hO ru hf7;go_simp;have hR:=US.out;refine hK' (undef) (_) (by rw [cEq];exact hw.trans US.out (fun b hb h=>h)) (Jr yM 6 (by kernel_rfl) _ fun j hs hy=>?_) (by rw [yf6];(try simp only [↓reduceIte]);try exact⟨A',c',HO.out,RUh.out.upd US.out (fun b _ hb e=>by omega)⟩);by_cases hp:j∈[0,1,2,3]
     . exact yP j _ _ _ hp hy
     by_cases hj:8<=j
     . rw [yN j _ _ hj];trivial
     simp only [List.mem_cons,List.not_mem_nil,or_false]at hp;rcases(show j=4\/j=5\/j=6\/j=7 by omega)with rfl|rfl|rfl|rfl
     . exact(QB hs (by kernel_rfl)).elim
     . exact(QB hs (by kernel_rfl)).elim
     . exact(QB hs (by kernel_rfl)).elim
     exact(QB hs (by kernel_rfl)).elim
   exact Yi.nil
 intro xs W hw hd;rw [cEq]at hw;simp only [Vi]at hd;obtain⟨fe0,fe1,fe2,fe3,fe4,fe5,fe6,_⟩:=hd;have fe0:=fe0 (by kernel_rfl);rw [yf0]at fe0;have fe1:=fe1 (by kernel_rfl);rw [yf1]at fe1;have fe2:=fe2 (by kernel_rfl);rw [yf2]at fe2;have fe3:=fe3 (by kernel_rfl);rw [yf3]at fe3;have fe6:=fe6 (by kernel_rfl);rw [yf6]at fe6;clear fe4 fe5;simp only [QL,Act.put,List.setIfInBounds_toArray,List.set_cons_zero,List.set_cons_succ];generalize xs 0=xv0 at *;generalize xs 1=xv1 at *;generalize xs 2=xv2 at *;generalize xs 3=xv3 at *;generalize xs 4=xv4 at *;generalize xs 5=xv5 at *;generalize xs 6=xv6 at *;subst fe0;subst fe1;subst fe2;subst fe3;clear yf0 yf1 yf2 yf3 yf4 yf5 yf6 yf7 yN yR yM yP cEq;obtain⟨A',c',hb,ru⟩:=fe6;obtain⟨d0,d1⟩:=(hb).cells2;have RU:=hd_ ru;have HU:=hd_ hw;clear hb ru hw;go_wp2_with fail;refine bodyPost_ret (v:=.agg #[.int .i64 lg,.slice A' n c']) (by simp [results,Tryz.results39,go_sem,d0,d1]) rfl ?_;have hz:=HZ.out;have hh:=HH.out;exact hR.out _ _ ⟨A',c',rfl,RU.out.mono (fun b hb=>by omega),F1.out.trans HU.out (fun b hb e=>by omega)⟩
theorem Q12 (D A B C:Option Addr) (h i n c m d k e:Nat) (T:Qb) (Tr:List Int) (r0 r1 r2:Int) (w:World) (F:Nat->Prop) (p0:Rd w F D h (Q1 Tr)) (p1:Rd w F A n (Q1 T.NL)) (p2:Rd w F B m (Q1 T.NO)) (p3:Rd w F C k (Q1 T.NM)) (g0:h<=2^32) (g1:n<=2^32) (g2:m<=2^32) (g3:k<=2^32) :
   Calls Tryz.prog 19 #[.agg #[.slice D h i,.int .i64 T.lL,.slice A n c,.int .i64 T.lO,.slice B m d,.int .i64 T.lM,.slice C k e,.int .i64 r0,.int .i64 r1,.int .i64 r2]] w fun ee w'=>∃D' i' A' c' B' d' C' e',ee = .returned (.agg #[.slice D' h i',.int .i64 T.lL,.slice A' n c',.int .i64 T.lO,.slice B' m d',.int .i64 T.lM,.slice C' k e',.int .i64 r0,.int .i64 r1,.int .i64 r2])/\RdU w' (fun b=>w.heap.size<=b) D' h (Q1 Tr)/\RdU w' (fun b=>w.heap.size<=b) A' n (Q1 T.NL)/\RdU w' (fun b=>w.heap.size<=b) B' m (Q1 T.NO)/\RdU w' (fun b=>w.heap.size<=b) C' k (Q1 T.NM)/\Q0 w w':=by
 obtain⟨w1,hw1⟩:=nm_ ((w.alloc (.cells #[.slice D h i,.int .i64 T.lL,.slice A n c,.int .i64 T.lO,.slice B m d,.int .i64 T.lM,.slice C k e,.int .i64 r0,.int .i64 r1,.int .i64 r2] 32)).alloc (.cells #[.slice none 0 0,.int .i64 0,.slice none 0 0,.int .i64 0,.slice none 0 0,.int .i64 0,.slice none 0 0,.int .i64 0,.int .i64 0,.int .i64 0] 32));obtain⟨H,hH⟩:=nm_ (w.heap.size);(have f1:Q0 w w1:=by rw [hw1];exact((Upd.refl _ _).alloc _).alloc _);(have bt:Blk w1 H 32 #[.slice D h i,.int .i64 T.lL,.slice A n c,.int .i64 T.lO,.slice B m d,.int .i64 T.lM,.slice C k e,.int .i64 r0,.int .i64 r1,.int .i64 r2]:=by rw [hw1];exact(Q2 hH _ _).alloc _);have BO:=hd_ (show Blk w1 (H+1) 32 #[.slice none 0 0,.int .i64 0,.slice none 0 0,.int .i64 0,.slice none 0 0,.int .i64 0,.slice none 0 0,.int .i64 0,.int .i64 0,.int .i64 0] by rw [hw1];exact Q2 (by simp [hH]) _ _);have HZ:=hd_ (show w1.heap.size=H+2 by rw [hw1,hH];simp)
 have HCL:=hd_ (show ∀W,Upd (fun b=>b=H+1) w1 W->W.cell? ⟨H,0,none⟩=some (.slice D h i)/\W.cell? ⟨H,1,none⟩=some (.int .i64 T.lL)/\W.cell? ⟨H,2,none⟩=some (.slice A n c)/\W.cell? ⟨H,3,none⟩=some (.int .i64 T.lO)/\W.cell? ⟨H,4,none⟩=some (.slice B m d)/\W.cell? ⟨H,5,none⟩=some (.int .i64 T.lM)/\W.cell? ⟨H,6,none⟩=some (.slice C k e)/\W.cell? ⟨H,7,none⟩=some (.int .i64 r0)/\W.cell? ⟨H,8,none⟩=some (.int .i64 r1)/\W.cell? ⟨H,9,none⟩=some (.int .i64 r2)from fun W hu=>by
   have bb:=bt.upd hu (by omega)
   exact bb.cells10)
 have HRD:=hd_ (fun W (hu:Upd (fun b=>b=H+1) w1 W)=>(p0.old.fresh f1).upd hu (fun b _ hb e=>by omega));have HO1:=hd_ (fun W (hu:Upd (fun b=>b=H+1) w1 W)=>V9 _ A n c T.lL T.NL W ((p1.old.fresh f1).upd hu (fun b _ hb e=>by omega)) g1);have HO2:=hd_ (fun W (hu:Upd (fun b=>b=H+1) w1 W)=>V9 _ B m d T.lO T.NO W ((p2.old.fresh f1).upd hu (fun b _ hb e=>by omega)) g2);have HO3:=hd_ (fun W (hu:Upd (fun b=>b=H+1) w1 W)=>V9 _ C k e T.lM T.NM W ((p3.old.fresh f1).upd hu (fun b _ hb e=>by omega)) g3);have HTr:=hd_ (show Tr.length=h by have:=p0.1;rw [QU]at this;exact this);have hnb:h<=2^32:=g0;have F1:=hd_ f1;have HW:=hd_ hw1;have HH:=hd_ hH;clear p0 p1 p2 p3 f1 bt hw1 hH g0 g1 g2 g3;refine Q6 fun R hR=>?_;go_enter Tryz.func19,Tryz.ntmps19;go_upto_region 1 with fail;simp only [<-HH.out,<-HW.out];obtain⟨Cw,cEq⟩:=exC (fun W=>Upd (fun b=>b=H+1) w1 W);obtain⟨Y,yA⟩:=exY [fun xs W=>(xs 0) = .pointer (some ⟨H,0,none⟩),fun xs W=>(xs 1) = .slice D h i,fun xs W=>Own W 3 (xs 2) (Q1 Tr)/\∀b,Value.ownBlock (xs 2)=some b->w1.heap.size<=b,fun xs W=>(xs 3) = .pointer (some ⟨H,1,none⟩),fun xs W=>(xs 4) = .agg #[.int .i64 T.lL,.slice A n c],fun xs W=>∃A' c',(xs 5) = .agg #[.int .i64 T.lL,.slice A' n c']/\RdU W (fun b=>w1.heap.size<=b) A' n (Q1 T.NL),fun xs W=>(xs 6) = .pointer (some ⟨H,3,none⟩),fun xs W=>(xs 7) = .agg #[.int .i64 T.lO,.slice B m d],fun xs W=>∃A' c',(xs 8) = .agg #[.int .i64 T.lO,.slice A' m c']/\RdU W (fun b=>w1.heap.size<=b) A' m (Q1 T.NO),fun xs W=>(xs 9) = .pointer (some ⟨H,5,none⟩),fun xs W=>(xs 10) = .agg #[.int .i64 T.lM,.slice C k e],fun xs W=>∃A' c',(xs 11) = .agg #[.int .i64 T.lM,.slice A' k c']/\RdU W (fun b=>w1.heap.size<=b) A' k (Q1 T.NM),fun xs W=>(xs 12) = .pointer (some ⟨H,7,none⟩),fun xs W=>(xs 13) = .agg #[.int .i64 r0,.int .i64 r1,.int .i64 r2],fun xs W=>∃D' i' A' c' B' d' C' e',(xs 14) = .agg #[.slice D' h i',.int .i64 T.lL,.slice A' n c',.int .i64 T.lO,.slice B' m d',.int .i64 T.lM,.slice C' k e',.int .i64 r0,.int .i64 r1,.int .i64 r2]/\RdU W (fun b=>w1.heap.size<=b) D' h (Q1 Tr)/\RdU W (fun b=>w1.heap.size<=b) A' n (Q1 T.NL)/\RdU W (fun b=>w1.heap.size<=b) B' m (Q1 T.NO)/\RdU W (fun b=>w1.heap.size<=b) C' k (Q1 T.NM),fun xs W=>∃D' i' A' c' B' d' C' e',Blk W (H+1) 32 #[.slice D' h i',.int .i64 T.lL,.slice A' n c',.int .i64 T.lO,.slice B' m d',.int .i64 T.lM,.slice C' k e',.int .i64 r0,.int .i64 r1,.int .i64 r2]/\RdU W (fun b=>w1.heap.size<=b) D' h (Q1 Tr)/\RdU W (fun b=>w1.heap.size<=b) A' n (Q1 T.NL)/\RdU W (fun b=>w1.heap.size<=b) B' m (Q1 T.NO)/\RdU W (fun b=>w1.heap.size<=b) C' k (Q1 T.NM),fun xs W=>Blk W (H+1) 32 #[.slice none 0 0,.int .i64 0,.slice none 0 0,.int .i64 0,.slice none 0 0,.int .i64 0,.slice none 0 0,.int .i64 0,.int .i64 0,.int .i64 0]]
 have yf0:=yA 0;have yf1:=yA 1;have yf2:=yA 2;have yf3:=yA 3;have yf4:=yA 4;have yf5:=yA 5;have yf6:=yA 6;have yf7:=yA 7;have yf8:=yA 8;have yf9:=yA 9;have yf10:=yA 10;have yf11:=yA 11;have yf12:=yA 12;have yf13:=yA 13;have yf14:=yA 14;have yf15:=yA 15;have yf16:=yA 16;simp only [List.getD_cons_zero,List.getD_cons_succ]at yf0 yf1 yf2 yf3 yf4 yf5 yf6 yf7 yf8 yf9 yf10 yf11 yf12 yf13 yf14 yf15 yf16;(have yN:∀j xs W,17<=j->Y j xs W=True:=fun j xs W hj=>by rw [yA,XY _ _ _ hj])
 have yP:∀j xs W W',j∈[0,1,3,4,6,7,9,10,12,13]->Y j xs W->Y j xs W':=by
   intro j xs W W' hj hy;simp only [List.mem_cons,List.not_mem_nil,or_false]at hj;rcases hj with rfl|rfl|rfl|rfl|rfl|rfl|rfl|rfl|rfl|rfl
   . rw [yf0]at hy ⊢;exact hy
   . rw [yf1]at hy ⊢;exact hy
   . rw [yf3]at hy ⊢;exact hy
   . rw [yf4]at hy ⊢;exact hy
   . rw [yf6]at hy ⊢;exact hy
   . rw [yf7]at hy ⊢;exact hy
   . rw [yf9]at hy ⊢;exact hy
   . rw [yf10]at hy ⊢;exact hy
   . rw [yf12]at hy ⊢;exact hy
   rw [yf13]at hy ⊢;exact hy
 have yM:Q2K [[0],[1],[2],[3],[4],[5],[6],[7],[8],[9],[10],[11],[12],[13],[14],[],[]] Y:=by
   intro j xs xs' W hh hy;by_cases hj:17<=j
   . rw [yN j _ _ hj];trivial
   (have hj':j=0\/j=1\/j=2\/j=3\/j=4\/j=5\/j=6\/j=7\/j=8\/j=9\/j=10\/j=11\/j=12\/j=13\/j=14\/j=15\/j=16:=by omega);rcases hj' with rfl|rfl|rfl|rfl|rfl|rfl|rfl|rfl|rfl|rfl|rfl|rfl|rfl|rfl|rfl|rfl|rfl
   . rw [yf0]at hy ⊢;rw [<-hh 0 (by decide)];exact hy
   . rw [yf1]at hy ⊢;rw [<-hh 1 (by decide)];exact hy
   . rw [yf2]at hy ⊢;rw [<-hh 2 (by decide)];exact hy
   . rw [yf3]at hy ⊢;rw [<-hh 3 (by decide)];exact hy
   . rw [yf4]at hy ⊢;rw [<-hh 4 (by decide)];exact hy
   . rw [yf5]at hy ⊢;rw [<-hh 5 (by decide)];exact hy
   . rw [yf6]at hy ⊢;rw [<-hh 6 (by decide)];exact hy
   . rw [yf7]at hy ⊢;rw [<-hh 7 (by decide)];exact hy
   . rw [yf8]at hy ⊢;rw [<-hh 8 (by decide)];exact hy
   . rw [yf9]at hy ⊢;rw [<-hh 9 (by decide)];exact hy
   . rw [yf10]at hy ⊢;rw [<-hh 10 (by decide)];exact hy
   . rw [yf11]at hy ⊢;rw [<-hh 11 (by decide)];exact hy
   . rw [yf12]at hy ⊢;rw [<-hh 12 (by decide)];exact hy
   . rw [yf13]at hy ⊢;rw [<-hh 13 (by decide)];exact hy
   . rw [yf14]at hy ⊢;rw [<-hh 14 (by decide)];exact hy
   . rw [yf15]at hy ⊢;exact hy
   rw [yf16]at hy ⊢;exact hy
 clear yA
 have yR:∀j xs,16<=j->Y j xs (w1.drew):=by
   intro j xs hj;rcases(show j=16\/17<=j by omega)with rfl|hj
   . rw [yf16];exact BO.out.drew
   rw [yN _ _ _ hj];trivial
 refine Va Cw (fun j=>if j=2 then [15]else if j=5 then [15]else if j=8 then [15]else if j=11 then [15]else if j=14 then [15]else if j=16 then [15]else []) Y [(0,some 3),(1,some 4),(2,some 5),(3,some 6),(4,some 7),(5,some 8),(6,some 9),(7,some 10),(8,some 11),(9,some 12),(10,some 13),(11,some 14),(12,some 15),(13,some 16),(14,some 17),(15,none)] (by kernel_rfl) (by kernel_rfl) (by kernel_rfl) (by rw [cEq];exact(Upd.refl _ _).drew) (fun j hj=>yR j _ hj) ?_ ?_
 . refine Yi.cons [] (by kernel_rfl) (fun xs W hw hd lst hl K hK=>?_) ?_
   . rw [cEq]at hw
     have hK':=hK.out;clear hK;simp only [QL,Act.put,List.setIfInBounds_toArray,List.set_cons_zero,List.set_cons_succ]at hK' ⊢;go_simp;exact hK' _ _ (by rw [cEq];exact hw) (Y6 yM 0 (by kernel_rfl) xs W _) (by rw [yf0];exact if_pos rfl)
   refine Yi.cons [(0,some 3)] (by kernel_rfl) (fun xs W hw hd lst hl K hK=>?_) ?_
   . rw [cEq]at hw
     have hK':=hK.out;clear hK;simp only [J7]at hd;obtain⟨hf0,_⟩:=hd;simp only [QL,Act.put,List.setIfInBounds_toArray,List.set_cons_zero,List.set_cons_succ]at hK' ⊢;rw [yf0]at hf0;simp only [hf0]at hK' ⊢;have cl:=HCL.out W hw;obtain⟨cz0,cz1,cz2,cz3,cz4,cz5,cz6,cz7,cz8,cz9⟩:=cl;go_simp;exact hK' _ _ (by rw [cEq];exact hw) (Y6 yM 1 (by kernel_rfl) xs W _) (by rw [yf1];exact if_pos rfl)
   refine Yi.cons [(1,some 4)] (by kernel_rfl) (fun xs W hw hd lst hl K hK=>?_) ?_
   . rw [cEq]at hw
     have hK':=hK.out;clear hK;simp only [J7]at hd;obtain⟨hf1,_⟩:=hd;simp only [QL,Act.put,List.setIfInBounds_toArray,List.set_cons_zero,List.set_cons_succ]at hK' ⊢;rw [yf1]at hf1;simp only [hf1]at hK' ⊢;rw [if_pos (by rfl)];refine X5 W (.const (.slice none 0 0)) (.tmp 4) _ (by rfl) 3 _ 8 Tryz.underlying27 Yx rfl (.slice none 0 0) [] (by rfl) (Own.nil _ _) D h i _ (by rfl) (HRD.out W hw) (KR Tr) (by omega) (by simp;omega) ?_;intro v' W' ho hg ha;have hfr:Q0 W W':=Upd.grown (Upd.refl _ _) hg (fun k hk _=>by cases hk);have hsz:=hw.size;have hR:=hfr;refine hK' (v') (W') (by rw [cEq];exact hw.trans hfr (fun _ _ h=>h.elim)) (Jr yM 2 (by kernel_rfl) _ fun j hs hy=>?_) (by rw [yf2];(try simp only [↓reduceIte]);try exact⟨by simpa using ho,fun b hb=>by rcases ha with ha|ha;rw [ha]at hb;cases hb;rw [ha]at hb;injection hb with hb;omega⟩);by_cases hp:j∈[0,1,3,4,6,7,9,10,12,13]
     . exact yP j _ _ _ hp hy
     by_cases hj:17<=j
     . rw [yN j _ _ hj];trivial
     simp only [List.mem_cons,List.not_mem_nil,or_false]at hp;rcases(show j=2\/j=5\/j=8\/j=11\/j=14\/j=15\/j=16 by omega)with rfl|rfl|rfl|rfl|rfl|rfl|rfl
     . exact(QB hs (by kernel_rfl)).elim
     . exact(QB hs (by kernel_rfl)).elim
     . exact(QB hs (by kernel_rfl)).elim
     . exact(QB hs (by kernel_rfl)).elim
     . exact(QB hs (by kernel_rfl)).elim
     . exact(QB hs (by kernel_rfl)).elim
     rw [yf16]at hy ⊢;exact hy.fresh hR
   refine Yi.cons [] (by kernel_rfl) (fun xs W hw hd lst hl K hK=>?_) ?_
   . rw [cEq]at hw
     have hK':=hK.out;clear hK;simp only [QL,Act.put,List.setIfInBounds_toArray,List.set_cons_zero,List.set_cons_succ]at hK' ⊢;go_simp;exact hK' _ _ (by rw [cEq];exact hw) (Y6 yM 3 (by kernel_rfl) xs W _) (by rw [yf3];exact if_pos rfl)
   refine Yi.cons [(3,some 6)] (by kernel_rfl) (fun xs W hw hd lst hl K hK=>?_) ?_
   . rw [cEq]at hw
     have hK':=hK.out;clear hK;simp only [J7]at hd;obtain⟨hf3,_⟩:=hd;simp only [QL,Act.put,List.setIfInBounds_toArray,List.set_cons_zero,List.set_cons_succ]at hK' ⊢;rw [yf3]at hf3;simp only [hf3]at hK' ⊢;have cl:=HCL.out W hw;obtain⟨cz0,cz1,cz2,cz3,cz4,cz5,cz6,cz7,cz8,cz9⟩:=cl;go_simp;exact hK' _ _ (by rw [cEq];exact hw) (Y6 yM 4 (by kernel_rfl) xs W _) (by rw [yf4];exact if_pos rfl)
   refine Yi.cons [(4,some 7)] (by kernel_rfl) (fun xs W hw hd lst hl K hK=>?_) ?_
   . rw [cEq]at hw
     have hK':=hK.out;clear hK;simp only [J7]at hd;obtain⟨hf4,_⟩:=hd;simp only [QL,Act.put,List.setIfInBounds_toArray,List.set_cons_zero,List.set_cons_succ]at hK' ⊢;rw [yf4]at hf4;simp only [hf4]at hK' ⊢;go_simp;refine(HO1.out W hw).mono ?_;rintro ez wz ⟨A',c',rfl,ru,fz⟩;have hsz:=hw.size;have hR:=fz;refine hK' (_) (wz) (by rw [cEq];exact hw.trans fz (fun _ _ h=>h.elim)) (Jr yM 5 (by kernel_rfl) _ fun j hs hy=>?_) (by rw [yf5];(try simp only [↓reduceIte]);try exact⟨A',c',rfl,ru.mono (fun b hb=>by omega)⟩);by_cases hp:j∈[0,1,3,4,6,7,9,10,12,13]
     . exact yP j _ _ _ hp hy
     by_cases hj:17<=j
     . rw [yN j _ _ hj];trivial
     simp only [List.mem_cons,List.not_mem_nil,or_false]at hp;rcases(show j=2\/j=5\/j=8\/j=11\/j=14\/j=15\/j=16 by omega)with rfl|rfl|rfl|rfl|rfl|rfl|rfl
     . rw [yf2]at hy ⊢;exact⟨hy.1.fresh hR,hy.2⟩
     . exact(QB hs (by kernel_rfl)).elim
     . exact(QB hs (by kernel_rfl)).elim
     . exact(QB hs (by kernel_rfl)).elim
     . exact(QB hs (by kernel_rfl)).elim
     . exact(QB hs (by kernel_rfl)).elim
     rw [yf16]at hy ⊢;exact hy.fresh hR
   refine Yi.cons [] (by kernel_rfl) (fun xs W hw hd lst hl K hK=>?_) ?_
   . rw [cEq]at hw
     have hK':=hK.out;clear hK;simp only [QL,Act.put,List.setIfInBounds_toArray,List.set_cons_zero,List.set_cons_succ]at hK' ⊢;go_simp;exact hK' _ _ (by rw [cEq];exact hw) (Y6 yM 6 (by kernel_rfl) xs W _) (by rw [yf6];exact if_pos rfl)
   refine Yi.cons [(6,some 9)] (by kernel_rfl) (fun xs W hw hd lst hl K hK=>?_) ?_
   . rw [cEq]at hw
     have hK':=hK.out;clear hK;simp only [J7]at hd;obtain⟨hf6,_⟩:=hd;simp only [QL,Act.put,List.setIfInBounds_toArray,List.set_cons_zero,List.set_cons_succ]at hK' ⊢;rw [yf6]at hf6;simp only [hf6]at hK' ⊢;have cl:=HCL.out W hw;obtain⟨cz0,cz1,cz2,cz3,cz4,cz5,cz6,cz7,cz8,cz9⟩:=cl;go_simp;exact hK' _ _ (by rw [cEq];exact hw) (Y6 yM 7 (by kernel_rfl) xs W _) (by rw [yf7];exact if_pos rfl)
   refine Yi.cons [(7,some 10)] (by kernel_rfl) (fun xs W hw hd lst hl K hK=>?_) ?_
   . rw [cEq]at hw
     have hK':=hK.out;clear hK;simp only [J7]at hd;obtain⟨hf7,_⟩:=hd;simp only [QL,Act.put,List.setIfInBounds_toArray,List.set_cons_zero,List.set_cons_succ]at hK' ⊢;rw [yf7]at hf7;simp only [hf7]at hK' ⊢;go_simp;refine(HO2.out W hw).mono ?_;rintro ez wz ⟨A',c',rfl,ru,fz⟩;have hsz:=hw.size;have hR:=fz;refine hK' (_) (wz) (by rw [cEq];exact hw.trans fz (fun _ _ h=>h.elim)) (Jr yM 8 (by kernel_rfl) _ fun j hs hy=>?_) (by rw [yf8];(try simp only [↓reduceIte]);try exact⟨A',c',rfl,ru.mono (fun b hb=>by omega)⟩);by_cases hp:j∈[0,1,3,4,6,7,9,10,12,13]
     . exact yP j _ _ _ hp hy
     by_cases hj:17<=j
     . rw [yN j _ _ hj];trivial
     simp only [List.mem_cons,List.not_mem_nil,or_false]at hp;rcases(show j=2\/j=5\/j=8\/j=11\/j=14\/j=15\/j=16 by omega)with rfl|rfl|rfl|rfl|rfl|rfl|rfl
     . rw [yf2]at hy ⊢;exact⟨hy.1.fresh hR,hy.2⟩
     . rw [yf5]at hy ⊢;obtain⟨A',c',k1,k2⟩:=hy;exact⟨A',c',k1,k2.fresh hR⟩
     . exact(QB hs (by kernel_rfl)).elim
     . exact(QB hs (by kernel_rfl)).elim
     . exact(QB hs (by kernel_rfl)).elim
     . exact(QB hs (by kernel_rfl)).elim
     rw [yf16]at hy ⊢;exact hy.fresh hR
   refine Yi.cons [] (by kernel_rfl) (fun xs W hw hd lst hl K hK=>?_) ?_
   . rw [cEq]at hw
     have hK':=hK.out;clear hK;simp only [QL,Act.put,List.setIfInBounds_toArray,List.set_cons_zero,List.set_cons_succ]at hK' ⊢;go_simp;exact hK' _ _ (by rw [cEq];exact hw) (Y6 yM 9 (by kernel_rfl) xs W _) (by rw [yf9];exact if_pos rfl)
   refine Yi.cons [(9,some 12)] (by kernel_rfl) (fun xs W hw hd lst hl K hK=>?_) ?_
   . rw [cEq]at hw
     have hK':=hK.out;clear hK;simp only [J7]at hd;obtain⟨hf9,_⟩:=hd;simp only [QL,Act.put,List.setIfInBounds_toArray,List.set_cons_zero,List.set_cons_succ]at hK' ⊢;rw [yf9]at hf9;simp only [hf9]at hK' ⊢;have cl:=HCL.out W hw;obtain⟨cz0,cz1,cz2,cz3,cz4,cz5,cz6,cz7,cz8,cz9⟩:=cl;go_simp;exact hK' _ _ (by rw [cEq];exact hw) (Y6 yM 10 (by kernel_rfl) xs W _) (by rw [yf10];exact if_pos rfl)
   refine Yi.cons [(10,some 13)] (by kernel_rfl) (fun xs W hw hd lst hl K hK=>?_) ?_
   . rw [cEq]at hw
     have hK':=hK.out;clear hK;simp only [J7]at hd;obtain⟨hf10,_⟩:=hd;simp only [QL,Act.put,List.setIfInBounds_toArray,List.set_cons_zero,List.set_cons_succ]at hK' ⊢;rw [yf10]at hf10;simp only [hf10]at hK' ⊢;go_simp;refine(HO3.out W hw).mono ?_;rintro ez wz ⟨A',c',rfl,ru,fz⟩;have hsz:=hw.size;have hR:=fz;refine hK' (_) (wz) (by rw [cEq];exact hw.trans fz (fun _ _ h=>h.elim)) (Jr yM 11 (by kernel_rfl) _ fun j hs hy=>?_) (by rw [yf11];(try simp only [↓reduceIte]);try exact⟨A',c',rfl,ru.mono (fun b hb=>by omega)⟩);by_cases hp:j∈[0,1,3,4,6,7,9,10,12,13]
     . exact yP j _ _ _ hp hy
     by_cases hj:17<=j
     . rw [yN j _ _ hj];trivial
     simp only [List.mem_cons,List.not_mem_nil,or_false]at hp;rcases(show j=2\/j=5\/j=8\/j=11\/j=14\/j=15\/j=16 by omega)with rfl|rfl|rfl|rfl|rfl|rfl|rfl
     . rw [yf2]at hy ⊢;exact⟨hy.1.fresh hR,hy.2⟩
     . rw [yf5]at hy ⊢;obtain⟨A',c',k1,k2⟩:=hy;exact⟨A',c',k1,k2.fresh hR⟩
     . rw [yf8]at hy ⊢;obtain⟨A',c',k1,k2⟩:=hy;exact⟨A',c',k1,k2.fresh hR⟩
     . exact(QB hs (by kernel_rfl)).elim
     . exact(QB hs (by kernel_rfl)).elim
     . exact(QB hs (by kernel_rfl)).elim
     rw [yf16]at hy ⊢;exact hy.fresh hR
   refine Yi.cons [] (by kernel_rfl) (fun xs W hw hd lst hl K hK=>?_) ?_
   . rw [cEq]at hw
     have hK':=hK.out;clear hK;simp only [QL,Act.put,List.setIfInBounds_toArray,List.set_cons_zero,List.set_cons_succ]at hK' ⊢;go_simp;exact hK' _ _ (by rw [cEq];exact hw) (Y6 yM 12 (by kernel_rfl) xs W _) (by rw [yf12];exact if_pos rfl)
   refine Yi.cons [(12,some 15)] (by kernel_rfl) (fun xs W hw hd lst hl K hK=>?_) ?_
   . rw [cEq]at hw
     have hK':=hK.out;clear hK;simp only [J7]at hd;obtain⟨hf12,_⟩:=hd;simp only [QL,Act.put,List.setIfInBounds_toArray,List.set_cons_zero,List.set_cons_succ]at hK' ⊢;rw [yf12]at hf12;simp only [hf12]at hK' ⊢;have cl:=HCL.out W hw;obtain⟨cz0,cz1,cz2,cz3,cz4,cz5,cz6,cz7,cz8,cz9⟩:=cl;go_simp;exact hK' _ _ (by rw [cEq];exact hw) (Y6 yM 13 (by kernel_rfl) xs W _) (by rw [yf13];exact if_pos rfl)
   refine Yi.cons [(2,some 5),(5,some 8),(8,some 11),(11,some 14),(13,some 16)] (by kernel_rfl) (fun xs W hw hd lst hl K hK=>?_) ?_
   . rw [cEq]at hw
     have hK':=hK.out;clear hK;simp only [J7]at hd;obtain⟨hf2,hf5,hf8,hf11,hf13,_⟩:=hd;simp only [QL,Act.put,List.setIfInBounds_toArray,List.set_cons_zero,List.set_cons_succ]at hK' ⊢;rw [yf2]at hf2;rw [yf5]at hf5;rw [yf8]at hf8;rw [yf11]at hf11;rw [yf13]at hf13;simp only [hf13]at hK' ⊢;obtain⟨o2,k2⟩:=hf2;obtain⟨D',h',i',h2e,hh'⟩:=o2.form';(have hh2:h'=h:=by have:=hh'.out;rw [QU]at this;have:=HTr.out;omega);subst hh2;obtain⟨A',c',h5e,t1⟩:=hf5;obtain⟨B',d',h8e,t2⟩:=hf8;obtain⟨C',e',h11e,t3⟩:=hf11;simp only [h2e,h5e,h8e,h11e]at hK' ⊢;rw [h2e]at o2 k2;have t0:=o2.rdu.mono (fun b hb=>k2 b hb);have TT:=hd_ (And.intro t0 (And.intro t1 (And.intro t2 t3)));clear t0 t1 t2 t3 o2;go_simp;exact hK' _ _ (by rw [cEq];exact hw) (Y6 yM 14 (by kernel_rfl) xs W _) (by rw [yf14];(try simp only [↓reduceIte,OfNat.ofNat_ne_ofNat,Nat.reduceEqDiff]);exact⟨D',i',A',c',B',d',C',e',rfl,TT.out⟩)
   refine Yi.cons [(14,some 17),(16,none)] (by kernel_rfl) (fun xs W hw hd lst hl K hK=>?_) ?_
   . rw [cEq]at hw
     have hK':=hK.out;clear hK;simp only [J7]at hd;obtain⟨hf14,hf16,_⟩:=hd;simp only [QL,Act.put,List.setIfInBounds_toArray,List.set_cons_zero,List.set_cons_succ]at hK' ⊢;rw [yf14]at hf14;rw [yf16]at hf16;obtain⟨D',i',A',c',B',d',C',e',h14e,t0,t1,t2,t3⟩:=hf14;simp only [h14e]at hK' ⊢;have b8:=hf16;have cq0:=b8.cell 0;have cq1:=b8.cell 1;have cq2:=b8.cell 2;have cq3:=b8.cell 3;have cq4:=b8.cell 4;have cq5:=b8.cell 5;have cq6:=b8.cell 6;have cq7:=b8.cell 7;have cq8:=b8.cell 8;have cq9:=b8.cell 9;obtain⟨cz0,cz1,cz2,cz3,cz4,cz5,cz6,cz7,cz8,cz9⟩:=(b8).frozens10;simp at cq0 cq1 cq2 cq3 cq4 cq5 cq6 cq7 cq8 cq9;have hO:=b8.set10 (.slice D' h i') (.int .i64 T.lL) (.slice A' n c') (.int .i64 T.lO) (.slice B' m d') (.int .i64 T.lM) (.slice C' k e') (.int .i64 r0) (.int .i64 r1) (.int .i64 r2);have us:=YA W (H+1) (.slice D' h i') (.int .i64 T.lL) (.slice A' n c') (.int .i64 T.lO) (.slice B' m d') (.int .i64 T.lM) (.slice C' k e') (.int .i64 r0) (.int .i64 r1) (.int .i64 r2);have HO:=hd_ hO;have US:=hd_ us;have TT:=hd_ (And.intro t0 (And.intro t1 (And.intro t2 t3)));have hz:=HZ.out;clear b8 hf16 hO us t0 t1 t2 t3;go_simp;have hR:=US.out;refine hK' (undef) (_) (by rw [cEq];exact hw.trans US.out (fun b hb h=>h)) (Jr yM 15 (by kernel_rfl) _ fun j hs hy=>?_) (by rw [yf15];(try simp only [↓reduceIte]);try exact⟨D',i',A',c',B',d',C',e',HO.out,TT.out.1.upd US.out (fun b _ hb e=>by omega),TT.out.2.1.upd US.out (fun b _ hb e=>by omega),TT.out.2.2.1.upd US.out (fun b _ hb e=>by omega),TT.out.2.2.2.upd US.out (fun b _ hb e=>by omega)⟩);by_cases hp:j∈[0,1,3,4,6,7,9,10,12,13]
     . exact yP j _ _ _ hp hy
     by_cases hj:17<=j
     . rw [yN j _ _ hj];trivial
     simp only [List.mem_cons,List.not_mem_nil,or_false]at hp;rcases(show j=2\/j=5\/j=8\/j=11\/j=14\/j=15\/j=16 by omega)with rfl|rfl|rfl|rfl|rfl|rfl|rfl
     . exact(QB hs (by kernel_rfl)).elim
     . exact(QB hs (by kernel_rfl)).elim
     . exact(QB hs (by kernel_rfl)).elim
     . exact(QB hs (by kernel_rfl)).elim
     . exact(QB hs (by kernel_rfl)).elim
     . exact(QB hs (by kernel_rfl)).elim
     exact(QB hs (by kernel_rfl)).elim
   exact Yi.nil
 intro xs W hw hd;rw [cEq]at hw;simp only [Vi]at hd;obtain⟨fe0,fe1,fe2,fe3,fe4,fe5,fe6,fe7,fe8,fe9,fe10,fe11,fe12,fe13,fe14,fe15,_⟩:=hd;have fe0:=fe0 (by kernel_rfl);rw [yf0]at fe0;have fe1:=fe1 (by kernel_rfl);rw [yf1]at fe1;have fe3:=fe3 (by kernel_rfl);rw [yf3]at fe3;have fe4:=fe4 (by kernel_rfl);rw [yf4]at fe4;have fe6:=fe6 (by kernel_rfl);rw [yf6]at fe6;have fe7:=fe7 (by kernel_rfl);rw [yf7]at fe7;have fe9:=fe9 (by kernel_rfl);rw [yf9]at fe9;have fe10:=fe10 (by kernel_rfl);rw [yf10]at fe10;have fe12:=fe12 (by kernel_rfl);rw [yf12]at fe12;have fe13:=fe13 (by kernel_rfl);rw [yf13]at fe13;have fe15:=fe15 (by kernel_rfl);rw [yf15]at fe15;clear fe2 fe5 fe8 fe11 fe14;simp only [QL,Act.put,List.setIfInBounds_toArray,List.set_cons_zero,List.set_cons_succ];generalize xs 0=xv0 at *;generalize xs 1=xv1 at *;generalize xs 2=xv2 at *;generalize xs 3=xv3 at *;generalize xs 4=xv4 at *;generalize xs 5=xv5 at *;generalize xs 6=xv6 at *;generalize xs 7=xv7 at *;generalize xs 8=xv8 at *;generalize xs 9=xv9 at *;generalize xs 10=xv10 at *;generalize xs 11=xv11 at *;generalize xs 12=xv12 at *;generalize xs 13=xv13 at *;generalize xs 14=xv14 at *;generalize xs 15=xv15 at *;subst fe0;subst fe1;subst fe3;subst fe4;subst fe6;subst fe7;subst fe9;subst fe10;subst fe12;subst fe13;clear yf0 yf1 yf2 yf3 yf4 yf5 yf6 yf7 yf8 yf9 yf10 yf11 yf12 yf13 yf14 yf15 yf16 yN yR yM yP cEq;obtain⟨D',i',A',c',B',d',C',e',hb,t0,t1,t2,t3⟩:=fe15;obtain⟨d0_,d1_,d2_,d3_,d4_,d5_,d6_,d7_,d8_,d9_⟩:=(hb).cells10;have TT:=hd_ (And.intro t0 (And.intro t1 (And.intro t2 t3)));have HU:=hd_ hw;clear hb t0 t1 t2 t3 hw;go_wp2_with fail;refine bodyPost_ret (v:=.agg #[.slice D' h i',.int .i64 T.lL,.slice A' n c',.int .i64 T.lO,.slice B' m d',.int .i64 T.lM,.slice C' k e',.int .i64 r0,.int .i64 r1,.int .i64 r2]) (by simp [results,Tryz.results19,go_sem,d0_,d1_,d2_,d3_,d4_,d5_,d6_,d7_,d8_,d9_]) rfl ?_;have hz:=HZ.out;have hh:=HH.out;exact hR.out _ _ ⟨D',i',A',c',B',d',C',e',rfl,TT.out.1.mono (fun b hb=>by omega),TT.out.2.1.mono (fun b hb=>by omega),TT.out.2.2.1.mono (fun b hb=>by omega),TT.out.2.2.2.mono (fun b hb=>by omega),F1.out.trans HU.out (fun b hb e=>by omega)⟩
end Go.Proofs.YtjfdaphjijfieaaGreat
