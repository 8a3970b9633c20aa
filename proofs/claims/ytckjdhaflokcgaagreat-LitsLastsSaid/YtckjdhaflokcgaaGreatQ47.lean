/-
  Joined texts, part 47: contracts and plain lemmas.
  Conditions: none beyond those of each theorem.
-/
import Derived.Test.YtckjdhaflokcgaaGreatQ43
import Derived.Test.YtckjdhaflokcgaaGreatQ28
import Derived.Test.YtckjdhaflokcgaaGreatQ30
set_option maxHeartbeats 4000000
set_option linter.unusedVariables false
set_option linter.unusedSimpArgs false
set_option linter.unnecessarySimpa false
set_option maxRecDepth 100000
universe u
namespace Go.Proofs.YtckjdhaflokcgaaGreat
open Go.RowKit
theorem Vo (cf:Nat) (caps:Array Value) (w:World) (hcf:∀args W,(callFunc cf args).run Tryz.prog W = .ok (.enter cf args) W) (Q:Value->World->Prop)
   (HC:Calls Tryz.prog cf caps w fun e w'=>∃v,e = .returned (.tuple #[v,.int .i64 0])/\Q v w') :
   Calls Tryz.prog 123 #[.func (.func cf) #[] caps] w fun e w'=>∃v w1,e = .returned v/\Q v w1/\Q0 w1 w':=by
 have HCL:=hd_ HC;clear HC;refine Qg fun R hR=>?_;go_enter Tryz.func123,Tryz.ntmps123;go_wp2_with fail;refine HCL.out.mono ?_;rintro e w1 ⟨v,rfl,q1⟩;have Q1:=hd_ q1;clear q1 HCL;go_wp2_with fail;refine(QQ _ _ _ (by simpa using(Blk.new w1 24 #[.int .i64 0]).cell 0)).mono ?_;rintro e w2 ⟨rfl,rfl⟩;go_wp2_with fail;(try go_ret);exact hR.out _ _ ⟨v,w1,rfl,Q1.out,(Upd.refl _ _).alloc _⟩
theorem Vp (cf:Nat) (caps:Array Value) (er:Int) (w:World) (hcf:∀args W,(callFunc cf args).run Tryz.prog W = .ok (.enter cf args) W) (Q:World->Prop) (her:er≠0)
   (HC:Calls Tryz.prog cf caps w fun e w'=>∃v,e = .returned (.tuple #[v,.int .i64 er])/\Q w') :
   Calls Tryz.prog 123 #[.func (.func cf) #[] caps] w fun e w'=>∃w1,e=Qi er/\Q w1/\Q0 w1 w':=by
 have HCL:=hd_ HC;have HER:=hd_ her;clear HC her;refine Qg fun R hR=>?_;go_enter Tryz.func123,Tryz.ntmps123;go_wp2_with fail;refine HCL.out.mono ?_;rintro e w1 ⟨v,rfl,q1⟩;have Q1:=hd_ q1;clear q1 HCL;go_wp2_with fail;refine(Yw er _ _ _ (by simpa using(Blk.new w1 24 #[.int .i64 er]).cell 0) HER.out).mono ?_;rintro e w2 ⟨rfl,rfl⟩;simp only [Qi];exact⟨rfl,hR.out _ _ ⟨w1,rfl,Q1.out,(Upd.refl _ _).alloc _⟩⟩
theorem Q1O (cf:Nat) (caps:Array Value) (w:World) (hcf:∀args W,(callFunc cf args).run Tryz.prog W = .ok (.enter cf args) W) (Q:Value->World->Prop)
   (HC:Calls Tryz.prog cf caps w fun e w'=>∃v,e = .returned (.tuple #[v,.int .i64 0])/\Q v w') :
   Calls Tryz.prog 171 #[.func (.func cf) #[] caps] w fun e w'=>∃v w1,e = .returned v/\Q v w1/\Q0 w1 w':=by
 have HCL:=hd_ HC;clear HC;refine Qg fun R hR=>?_;go_enter Tryz.func171,Tryz.ntmps171;go_wp2_with fail;refine HCL.out.mono ?_;rintro e w1 ⟨v,rfl,q1⟩;have Q1:=hd_ q1;clear q1 HCL;go_wp2_with fail;refine(QQ _ _ _ (by simpa using(Blk.new w1 24 #[.int .i64 0]).cell 0)).mono ?_;rintro e w2 ⟨rfl,rfl⟩;go_wp2_with fail;(try go_ret);exact hR.out _ _ ⟨v,w1,rfl,Q1.out,(Upd.refl _ _).alloc _⟩
def KI (w:World) (x:List Nat) (e:Ending) (w':World):Prop :=
  ∃A n c,e = .returned (.slice A n c)/\n<=c/\Rd w' (fun b=>w.heap.size<=b) A n (Qa x)
theorem Xv (F:Nat->Prop) (g pr qa qb s:Nat) (kd:Int) (fo:Bool) (tv:Value) (bs:List Nat) (at_:Nat) (w:World) (hcu:Qe w F g bs at_) (hF:∀b,F b->b≠g)
   (br:Blk w pr 101 #[.pointer (some ⟨g,0,none⟩),tv]) (ba:Blk w qa 99 #[.pointer (some ⟨pr,0,none⟩)]) (bb:Blk w qb 41 #[.int .i64 kd,.bool fo,.int .i64 (s:Nat)]) (hs:s<=131072) :
   Calls Tryz.prog 124 #[.pointer (some ⟨qa,0,none⟩),.pointer (some ⟨qb,0,none⟩)] w fun e w'=>Upd (fun b=>b=g) w w' /\
     if at_+s<=bs.length then ∃v,e = .returned (.tuple #[v,.int .i64 0])/\Own w' 5 v (Qa ((bs.drop at_).take s))/\(∀b,v.ownBlock=some b->w.heap.size<=b)/\Qe w' F g bs (at_+s)
     else e = .returned (.tuple #[.slice none 0 0,.int .i64 3]):=by
 have a0:=ba.cell 0;have b2:=bb.cell 2;have r0:=br.cell 0;simp at a0 b2 r0;have HOK:=hd_ (fun(hk:at_+s<=bs.length) W (hW:Q0 w W)=>Kx F g bs at_ s W (hcu.fresh hW) hk hF);have HNO:=hd_ (fun(hk:¬at_+s<=bs.length) W (hW:Q0 w W)=>Vi F g bs at_ s W (hcu.fresh hW) (by omega) (by omega) hF);clear hcu hF br ba bb;refine Qg fun R hR=>?_;go_enter Tryz.func124,Tryz.ntmps124;go_upto_region 1 with fail;by_cases hk:at_+s<=bs.length
 . simp only [if_pos hk]at hR
   have HB:=hd_ (HOK.out hk);clear HOK HNO hk;go_region_with (go_at_call 26;refine(HB.out _ ((Upd.refl _ _).drewN 1)).mono ?_;rintro e w6 ⟨v,rfl,o6,u6,c6,h6⟩;have O6:=hd_ o6;have U6:=hd_ u6;have C6:=hd_ c6;have H6:=hd_ h6;clear o6 u6 c6 h6)
   all_goals(
     go_wp2_with fail;(try go_ret2)
     exact hR.out _ _ ⟨((Upd.refl _ _).drewN 1).trans' U6.out,v,rfl,O6.out,fun b hb=>by have:=H6.out b hb;simpa using this,C6.out⟩)
 simp only [if_neg hk]at hR;have HB:=hd_ (HNO.out hk);clear HOK HNO hk;go_region_with (go_at_call 26;refine(HB.out _ ((Upd.refl _ _).drewN 1)).mono ?_;rintro e w6 ⟨rfl,u6,c6⟩;have U6:=hd_ u6;clear u6 c6)
 all_goals(
   go_wp2_with fail;(try go_ret2)
   exact hR.out _ _ ⟨((Upd.refl _ _).drewN 1).trans' U6.out,rfl⟩)
def QF (F:Nat->Prop) (g:Nat) (bs:List Nat) (q:Int ⊕ (List Nat × Nat)) (w:World) (e:Ending) (w':World):Prop :=
  Upd (fun b=>b=g) w w'/\match q with
    | .inl er=>e=Qi er
    | .inr (x,u)=>KI w x e w'/\Qe w' F g bs u
theorem KJ (F:Nat->Prop) (g pr s:Nat) (kd:Int) (fo:Bool) (tv:Value) (bs:List Nat) (at_:Nat) (w:World) (hcu:Qe w F g bs at_) (hF:∀b,F b->b≠g)
   (br:Blk w pr 101 #[.pointer (some ⟨g,0,none⟩),tv]) (hs:s<=131072) :
   Calls Tryz.prog 68 #[.pointer (some ⟨pr,0,none⟩),.agg #[.int .i64 kd,.bool fo,.int .i64 (s:Nat)]] w (QF F g bs (if at_+s<=bs.length then .inr ((bs.drop at_).take s,at_+s)else .inl 3) w):=by
 have hmf:∀(fn:Fn) (first cap:Array Value) (w:World),(Instr.makeFunc fn first cap).run Tryz.prog w = .ok (.func fn first cap) w:=fun _ _ _ _=>rfl;obtain⟨w0,hw0⟩:=nm_ ((w.alloc (.cells #[.pointer (some ⟨pr,0,none⟩)] 99)).alloc (.cells #[.int .i64 kd,.bool fo,.int .i64 (s:Nat)] 41));obtain⟨H,hH⟩:=nm_ (w.heap.size);(have f0:Q0 w w0:=by rw [hw0];exact((Upd.refl _ _).alloc _).alloc _);(have ba:Blk w0 H 99 #[.pointer (some ⟨pr,0,none⟩)]:=by rw [hw0];exact(Qc hH _ _).alloc _);(have bb:Blk w0 (H+1) 41 #[.int .i64 kd,.bool fo,.int .i64 (s:Nat)]:=by rw [hw0];exact Qc (by simp [hH]) _ _);have H1:=hd_ (Xv F g pr H (H+1) s kd fo tv bs at_ w0 (hcu.fresh f0) hF (br.fresh f0) ba bb hs);have F0:=hd_ f0;have HW:=hd_ hw0;have HH:=hd_ hH;(have hsz:(w.alloc (.cells #[.pointer (some ⟨pr,0,none⟩)] 99)).heap.size=H+1:=by simp [hH]);clear hcu hF br hs hw0 hH f0 ba bb;refine Qg fun R hR=>?_;unfold QF at hR;go_enter Tryz.func68,Tryz.ntmps68;go_upto_region 1 with fail;simp only [hsz,<-HH.out,<-HW.out];clear hsz;by_cases hk:at_+s<=bs.length
 . simp only [if_pos hk]at hR H1
   clear hk
   have HL:=hd_ (Vo 124 #[.pointer (some ⟨H,0,none⟩),.pointer (some ⟨H+1,0,none⟩)] w0 (fun _ _=>rfl) (fun v w'=>Upd (fun b=>b=g) w0 w'/\Own w' 5 v (Qa ((bs.drop at_).take s))/\(∀b,v.ownBlock=some b->w0.heap.size<=b)/\Qe w' F g bs (at_+s))
     (H1.out.mono fun e w' h=>by obtain⟨h1,v,h2,h3⟩:=h;exact⟨v,h2,h1,h3⟩))
   clear H1;go_wp2_with fail;refine HL.out.mono ?_;rintro e w2 ⟨v,w1,rfl,⟨u1,o1,hv,c1⟩,f2⟩;obtain⟨A3,n3,c3,rfl,hn3⟩:=o1.form';obtain⟨hn4,hc4,hrd⟩:=o1.rd rfl;rw [<-hn4]at hrd hc4;have HF:=hd_ (And.intro ((F0.out.mono (T:=fun b=>b=g) (fun _ _ h=>h.elim)).trans' u1) f2);have HV:=hd_ (show KI w ((bs.drop at_).take s) (.returned (.slice A3 n3 c3)) w2 from⟨A3,n3,c3,rfl,hc4,(hrd.mono fun b hb=>by have:=hv b hb;have:=F0.out.size;omega).fresh f2⟩);have HC:=hd_ (c1.fresh f2);clear u1 o1 hv c1 f2 hn3 hn4 hc4 hrd HL;go_wp2_with fail;(try go_ret);exact hR.out _ _ ⟨HF.out.1.trans HF.out.2 (fun _ _ h=>h.elim),HV.out,HC.out⟩
 simp only [if_neg hk]at hR H1;clear hk
 have HL:=hd_ (Vp 124 #[.pointer (some ⟨H,0,none⟩),.pointer (some ⟨H+1,0,none⟩)] 3 w0 (fun _ _=>rfl) (fun w'=>Upd (fun b=>b=g) w0 w') (by decide)
   (H1.out.mono fun e w' h=>⟨_,h.2,h.1⟩))
 clear H1;go_wp2_with fail;refine HL.out.mono ?_;rintro e w2 ⟨w1,rfl,u1,f2⟩;simp only [Qi];exact⟨rfl,hR.out _ _ ⟨((F0.out.mono (T:=fun b=>b=g) (fun _ _ h=>h.elim)).trans' u1).trans f2 (fun _ _ h=>h.elim),rfl⟩⟩
theorem Q3D (F:Nat->Prop) (g pr s:Nat) (kd:Int) (fo:Bool) (tv:Value) (bs:List Nat) (at_:Nat) (w:World) (hcu:Qe w F g bs at_) (hF:∀b,F b->b≠g)
   (br:Blk w pr 101 #[.pointer (some ⟨g,0,none⟩),tv]) (hpg:pr≠g) (hs0:0<s) (hs:s<=131072) (h:at_<bs.length) :
   Calls Tryz.prog 69 #[.pointer (some ⟨pr,0,none⟩),.agg #[.int .i64 kd,.bool fo,.int .i64 (s:Nat)]] w (QF F g bs (.inr (List.replicate s (bs[at_]?.getD 0),at_+1)) w):=by
 have hmf:∀(fn:Fn) (first cap:Array Value) (w:World),(Instr.makeFunc fn first cap).run Tryz.prog w = .ok (.func fn first cap) w:=fun _ _ _ _=>rfl;obtain⟨w1,hw1⟩:=nm_ (w.alloc (.cells #[.int .i64 kd,.bool fo,.int .i64 (s:Nat)] 41));obtain⟨H,hH⟩:=nm_ (w.heap.size);(have f0:Q0 w w1:=by rw [hw1];exact(Upd.refl _ _).alloc _);(have b0:Blk w1 H 41 #[.int .i64 kd,.bool fo,.int .i64 (s:Nat)]:=by rw [hw1];exact Qc hH _ _);(have hHg:H≠g:=by have:=hcu.lt;omega);have HCB:=hd_ (show ∀W,Upd (fun b=>b=g) w1 W->W.cell? ⟨pr,0,none⟩=some (.pointer (some ⟨g,0,none⟩))/\W.cell? ⟨H,2,none⟩=some (.int .i64 (s:Nat))from fun W hW=>⟨by simpa using((br.fresh f0).upd hW hpg).cell 0,by simpa using(b0.upd hW hHg).cell 2⟩);have HRB:=hd_ (fun W (hW:Qe W F g bs at_)=>(Yg F g bs at_ W hW hF).mono fun e w' q=>(show Upd (fun b=>b=g) W w'/\e = .returned (.int .u8 ((bs[at_]?.getD 0:Nat):Int))/\Qe w' F g bs (at_+1)from by rw [if_pos h]at q;exact q));have HCU:=hd_ (hcu.fresh f0);have HS:=hd_ (And.intro hs0 hs);have U1:=hd_ (f0.mono (T:=fun b=>b=g) (fun _ _ h=>h.elim));obtain⟨x,hx⟩:=nm_ (bs[at_]?.getD 0);rw [<-hx]at HRB ⊢;have HH:=hd_ hH;have HW:=hd_ hw1;clear hcu hF br hpg hs0 hs h hw1 hH f0 b0 hHg hx;refine Qg fun R hR=>?_;unfold QF at hR;simp only at hR;go_enter Tryz.func69,Tryz.ntmps69;go_upto_region 1 with fail;simp only [<-HH.out,<-HW.out];obtain⟨Cw,cEq⟩:=exC (fun W=>Upd (fun b=>b=g) w1 W);obtain⟨Y,yA⟩:=exY [fun xs W=>(xs 0) = .pointer (some ⟨pr,0,none⟩),fun xs W=>(xs 1) = .pointer (some ⟨pr,0,none⟩),fun xs W=>(xs 2) = .pointer (some ⟨pr,0,none⟩),fun xs W=>(xs 3) = .pointer (some ⟨g,0,none⟩),fun xs W=>(xs 4) = .func (.func 120) #[.pointer (some ⟨g,0,none⟩)] #[],fun xs W=>(xs 5) = .int .u8 (x:Nat)/\Qe W F g bs (at_+1),fun xs W=>∃q,(xs 6) = .slice (some ⟨q,0,none⟩) 1 1/\Blk W q 5 #[.int .u8 (x:Nat)]/\w1.heap.size<=q,fun xs W=>(xs 7) = .pointer (some ⟨H,2,none⟩),fun xs W=>(xs 8) = .int .i64 (s:Nat),fun xs W=>∃A c',(xs 9) = .slice A s c'/\s<=c'/\Rd W (fun b=>w1.heap.size<=b) A s (Qa (List.replicate s x)),fun xs W=>(xs 10)=(xs 9)/\∃A c',(xs 9) = .slice A s c'/\s<=c'/\Rd W (fun b=>w1.heap.size<=b) A s (Qa (List.replicate s x)),fun xs W=>Qe W F g bs at_];have yf0:=yA 0;have yf1:=yA 1;have yf2:=yA 2;have yf3:=yA 3;have yf4:=yA 4;have yf5:=yA 5;have yf6:=yA 6;have yf7:=yA 7;have yf8:=yA 8;have yf9:=yA 9;have yf10:=yA 10;have yf11:=yA 11;simp only [List.getD_cons_zero,List.getD_cons_succ]at yf0 yf1 yf2 yf3 yf4 yf5 yf6 yf7 yf8 yf9 yf10 yf11;(have yN:∀j xs W,12<=j->Y j xs W=True:=fun j xs W hj=>by rw [yA,QR _ _ _ hj])
 have yP:∀j xs W W',j∈[0,1,2,3,4,7,8]->Y j xs W->Y j xs W':=by
   intro j xs W W' hj hy;simp only [List.mem_cons,List.not_mem_nil,or_false]at hj;rcases hj with rfl|rfl|rfl|rfl|rfl|rfl|rfl
   . rw [yf0]at hy ⊢;exact hy
   . rw [yf1]at hy ⊢;exact hy
   . rw [yf2]at hy ⊢;exact hy
   . rw [yf3]at hy ⊢;exact hy
   . rw [yf4]at hy ⊢;exact hy
   . rw [yf7]at hy ⊢;exact hy
   rw [yf8]at hy ⊢;exact hy
 have yM:YA [[0],[1],[2],[3],[4],[5],[6],[7],[8],[9],[10,9],[]] Y:=by
   intro j xs xs' W hh hy;by_cases hj:12<=j
   . rw [yN j _ _ hj];trivial
   (have hj':j=0\/j=1\/j=2\/j=3\/j=4\/j=5\/j=6\/j=7\/j=8\/j=9\/j=10\/j=11:=by omega);rcases hj' with rfl|rfl|rfl|rfl|rfl|rfl|rfl|rfl|rfl|rfl|rfl|rfl
   . rw [yf0]at hy ⊢;rw [<-hh 0 (by decide)];exact hy
   . rw [yf1]at hy ⊢;rw [<-hh 1 (by decide)];exact hy
   . rw [yf2]at hy ⊢;rw [<-hh 2 (by decide)];exact hy
   . rw [yf3]at hy ⊢;rw [<-hh 3 (by decide)];exact hy
   . rw [yf4]at hy ⊢;rw [<-hh 4 (by decide)];exact hy
   . rw [yf5]at hy ⊢;rw [<-hh 5 (by decide)];exact hy
   . rw [yf6]at hy ⊢;rw [<-hh 6 (by decide)];exact hy
   . rw [yf7]at hy ⊢;rw [<-hh 7 (by decide)];exact hy
   . rw [yf8]at hy ⊢;rw [<-hh 8 (by decide)];exact hy
   . rw [yf9]at hy ⊢;rw [<-hh 9 (by decide)];exact hy
   . rw [yf10]at hy ⊢;rw [<-hh 10 (by decide),<-hh 9 (by decide)];exact hy
   rw [yf11]at hy ⊢;exact hy
 clear yA
 have yR:∀j xs,11<=j->Y j xs (w1.drew):=by
   intro j xs hj;rcases(show j=11\/12<=j by omega)with rfl|hj
   . rw [yf11];exact HCU.out
   rw [yN _ _ _ hj];trivial
 refine QK Cw (fun j=>if j=11 then [5]else []) Y [(0,some 5),(1,some 6),(2,some 7),(3,some 8),(4,some 9),(5,some 10),(6,some 11),(7,some 12),(8,some 13),(9,some 14),(10,some 4)] (by kernel_rfl) (by kernel_rfl) (by kernel_rfl) (by rw [cEq];exact(Upd.refl _ _).drew) (fun j hj=>yR j _ hj) ?_ ?_
 . refine Qf.cons [] (by kernel_rfl) (fun xs W hw hd lst hl K hK=>?_) ?_
   . rw [cEq]at hw
     have hK':=hK.out;clear hK;simp only [Qd,Act.put,List.setIfInBounds_toArray,List.set_cons_zero,List.set_cons_succ]at hK' ⊢;go_simp;exact hK' _ _ (by rw [cEq];exact hw) (Qb yM 0 (by kernel_rfl) xs W _) (by rw [yf0];exact if_pos rfl)
   refine Qf.cons [(0,some 5)] (by kernel_rfl) (fun xs W hw hd lst hl K hK=>?_) ?_
   . rw [cEq]at hw
     have hK':=hK.out;clear hK;simp only [Ql]at hd;obtain⟨hf0,_⟩:=hd;simp only [Qd,Act.put,List.setIfInBounds_toArray,List.set_cons_zero,List.set_cons_succ]at hK' ⊢;rw [yf0]at hf0;simp only [hf0]at hK' ⊢;go_simp;exact hK' _ _ (by rw [cEq];exact hw) (Qb yM 1 (by kernel_rfl) xs W _) (by rw [yf1];exact if_pos rfl)
   refine Qf.cons [(1,some 6)] (by kernel_rfl) (fun xs W hw hd lst hl K hK=>?_) ?_
   . rw [cEq]at hw
     have hK':=hK.out;clear hK;simp only [Ql]at hd;obtain⟨hf1,_⟩:=hd;simp only [Qd,Act.put,List.setIfInBounds_toArray,List.set_cons_zero,List.set_cons_succ]at hK' ⊢;rw [yf1]at hf1;simp only [hf1]at hK' ⊢;go_simp;exact hK' _ _ (by rw [cEq];exact hw) (Qb yM 2 (by kernel_rfl) xs W _) (by rw [yf2];exact if_pos rfl)
   refine Qf.cons [(2,some 7)] (by kernel_rfl) (fun xs W hw hd lst hl K hK=>?_) ?_
   . rw [cEq]at hw
     have hK':=hK.out;clear hK;simp only [Ql]at hd;obtain⟨hf2,_⟩:=hd;simp only [Qd,Act.put,List.setIfInBounds_toArray,List.set_cons_zero,List.set_cons_succ]at hK' ⊢;rw [yf2]at hf2;simp only [hf2]at hK' ⊢;have cl:=HCB.out W hw;obtain⟨cl0,cl1⟩:=cl;go_simp;exact hK' _ _ (by rw [cEq];exact hw) (Qb yM 3 (by kernel_rfl) xs W _) (by rw [yf3];exact if_pos rfl)
   refine Qf.cons [(3,some 8)] (by kernel_rfl) (fun xs W hw hd lst hl K hK=>?_) ?_
   . rw [cEq]at hw
     have hK':=hK.out;clear hK;simp only [Ql]at hd;obtain⟨hf3,_⟩:=hd;simp only [Qd,Act.put,List.setIfInBounds_toArray,List.set_cons_zero,List.set_cons_succ]at hK' ⊢;rw [yf3]at hf3;simp only [hf3]at hK' ⊢;go_simp;exact hK' _ _ (by rw [cEq];exact hw) (Qb yM 4 (by kernel_rfl) xs W _) (by rw [yf4];exact if_pos rfl)
   refine Qf.cons [(4,some 9),(11,none)] (by kernel_rfl) (fun xs W hw hd lst hl K hK=>?_) ?_
   . rw [cEq]at hw
     have hK':=hK.out;clear hK;simp only [Ql]at hd;obtain⟨hf4,hf11,_⟩:=hd;simp only [Qd,Act.put,List.setIfInBounds_toArray,List.set_cons_zero,List.set_cons_succ]at hK' ⊢;rw [yf4]at hf4;rw [yf11]at hf11;simp only [hf4]at hK' ⊢;go_simp;refine(HRB.out W hf11).mono ?_;rintro e9 w9 ⟨u9,rfl,c9⟩;have hR:=u9;refine hK' (_) (w9) (by rw [cEq];exact hw.trans' u9) (QG yM 5 (by kernel_rfl) _ fun j hs hy=>?_) (by rw [yf5];(try simp only [↓reduceIte]);try exact⟨by first|rfl|trivial,c9⟩);by_cases hp:j∈[0,1,2,3,4,7,8]
     . exact yP j _ _ _ hp hy
     by_cases hj:12<=j
     . rw [yN j _ _ hj];trivial
     simp only [List.mem_cons,List.not_mem_nil,or_false]at hp;rcases(show j=5\/j=6\/j=9\/j=10\/j=11 by omega)with rfl|rfl|rfl|rfl|rfl
     . exact(Qn hs (by kernel_rfl)).elim
     . exact(Qn hs (by kernel_rfl)).elim
     . exact(Qn hs (by kernel_rfl)).elim
     . exact(Qn hs (by kernel_rfl)).elim
     exact(Qn hs (by kernel_rfl)).elim
   refine Qf.cons [(5,some 10)] (by kernel_rfl) (fun xs W hw hd lst hl K hK=>?_) ?_
   . rw [cEq]at hw
     have hK':=hK.out;clear hK;simp only [Ql]at hd;obtain⟨hf5,_⟩:=hd;simp only [Qd,Act.put,List.setIfInBounds_toArray,List.set_cons_zero,List.set_cons_succ]at hK' ⊢;rw [yf5]at hf5;obtain⟨h5e,c5⟩:=hf5;simp only [h5e]at hK' ⊢;have hsz:=hw.size;go_simp;have hR:=(show Q0 W (W.alloc (.cells #[.int .u8 (x:Nat)] 5))from(Upd.refl _ _).alloc _);refine hK' (_) (_) (by rw [cEq];exact hw.alloc _) (QG yM 6 (by kernel_rfl) _ fun j hs hy=>?_) (by rw [yf6];(try simp only [↓reduceIte]);try exact⟨W.heap.size,rfl,Blk.new _ _ _,hsz⟩);by_cases hp:j∈[0,1,2,3,4,7,8]
     . exact yP j _ _ _ hp hy
     by_cases hj:12<=j
     . rw [yN j _ _ hj];trivial
     simp only [List.mem_cons,List.not_mem_nil,or_false]at hp;rcases(show j=5\/j=6\/j=9\/j=10\/j=11 by omega)with rfl|rfl|rfl|rfl|rfl
     . rw [yf5]at hy ⊢;exact⟨hy.1,hy.2.fresh hR⟩
     . exact(Qn hs (by kernel_rfl)).elim
     . exact(Qn hs (by kernel_rfl)).elim
     . exact(Qn hs (by kernel_rfl)).elim
     rw [yf11]at hy ⊢;exact hy.fresh hR
   refine Qf.cons [] (by kernel_rfl) (fun xs W hw hd lst hl K hK=>?_) ?_
   . rw [cEq]at hw
     have hK':=hK.out;clear hK;simp only [Qd,Act.put,List.setIfInBounds_toArray,List.set_cons_zero,List.set_cons_succ]at hK' ⊢;go_simp;exact hK' _ _ (by rw [cEq];exact hw) (Qb yM 7 (by kernel_rfl) xs W _) (by rw [yf7];exact if_pos rfl)
   refine Qf.cons [(7,some 12)] (by kernel_rfl) (fun xs W hw hd lst hl K hK=>?_) ?_
   . rw [cEq]at hw
     have hK':=hK.out;clear hK;simp only [Ql]at hd;obtain⟨hf7,_⟩:=hd;simp only [Qd,Act.put,List.setIfInBounds_toArray,List.set_cons_zero,List.set_cons_succ]at hK' ⊢;rw [yf7]at hf7;simp only [hf7]at hK' ⊢;have cl:=HCB.out W hw;obtain⟨cl0,cl1⟩:=cl;go_simp;exact hK' _ _ (by rw [cEq];exact hw) (Qb yM 8 (by kernel_rfl) xs W _) (by rw [yf8];exact if_pos rfl)
   refine Qf.cons [(6,some 11),(8,some 13)] (by kernel_rfl) (fun xs W hw hd lst hl K hK=>?_) ?_
   . rw [cEq]at hw
     have hK':=hK.out;clear hK;simp only [Ql]at hd;obtain⟨hf6,hf8,_⟩:=hd;simp only [Qd,Act.put,List.setIfInBounds_toArray,List.set_cons_zero,List.set_cons_succ]at hK' ⊢;rw [yf6]at hf6;rw [yf8]at hf8;simp only [hf8]at hK' ⊢;obtain⟨q,h6e,bq,hq⟩:=hf6;simp only [h6e]at hK' ⊢;go_simp;refine(Q1p q 1 x s W bq HS.out.1 HS.out.2).mono ?_;rintro e9 w9 ⟨A9,c9,rfl,hc9,r9,f9⟩;have hsz:=hw.size;have hR:=f9;refine hK' (_) (w9) (by rw [cEq];exact hw.trans f9 (fun _ _ h=>h.elim)) (fun j hs hy=>?_) (by rw [yf9];(try simp only [↓reduceIte]);try exact⟨A9,c9,rfl,hc9,r9.mono fun b hb=>by omega⟩);by_cases hj:12<=j
     . rw [yN j _ _ hj];trivial
     (have hj':j=0\/j=1\/j=2\/j=3\/j=4\/j=5\/j=6\/j=7\/j=8\/j=9\/j=10\/j=11:=by omega);rcases hj' with rfl|rfl|rfl|rfl|rfl|rfl|rfl|rfl|rfl|rfl|rfl|rfl
     . rw [yf0]at hy ⊢;(try simp only [↓reduceIte,OfNat.ofNat_ne_ofNat,Nat.reduceEqDiff]);exact hy
     . rw [yf1]at hy ⊢;(try simp only [↓reduceIte,OfNat.ofNat_ne_ofNat,Nat.reduceEqDiff]);exact hy
     . rw [yf2]at hy ⊢;(try simp only [↓reduceIte,OfNat.ofNat_ne_ofNat,Nat.reduceEqDiff]);exact hy
     . rw [yf3]at hy ⊢;(try simp only [↓reduceIte,OfNat.ofNat_ne_ofNat,Nat.reduceEqDiff]);exact hy
     . rw [yf4]at hy ⊢;(try simp only [↓reduceIte,OfNat.ofNat_ne_ofNat,Nat.reduceEqDiff]);exact hy
     . rw [yf5]at hy ⊢;(try simp only [↓reduceIte,OfNat.ofNat_ne_ofNat,Nat.reduceEqDiff]);exact⟨hy.1,hy.2.fresh hR⟩
     . rw [yf6]at hy ⊢;(try simp only [↓reduceIte,OfNat.ofNat_ne_ofNat,Nat.reduceEqDiff]);obtain⟨q',h1,h2,h3⟩:=hy;exact⟨q',h1,h2.fresh hR,h3⟩
     . rw [yf7]at hy ⊢;(try simp only [↓reduceIte,OfNat.ofNat_ne_ofNat,Nat.reduceEqDiff]);exact hy
     . rw [yf8]at hy ⊢;(try simp only [↓reduceIte,OfNat.ofNat_ne_ofNat,Nat.reduceEqDiff]);exact hy
     . exact(Qn hs (by kernel_rfl)).elim
     . exact(Qn hs (by kernel_rfl)).elim
     rw [yf11]at hy ⊢;(try simp only [↓reduceIte,OfNat.ofNat_ne_ofNat,Nat.reduceEqDiff]);exact hy.fresh hR
   refine Qf.cons [(9,some 14)] (by kernel_rfl) (fun xs W hw hd lst hl K hK=>?_) ?_
   . rw [cEq]at hw
     have hK':=hK.out;clear hK;simp only [Ql]at hd;obtain⟨hf9,_⟩:=hd;simp only [Qd,Act.put,List.setIfInBounds_toArray,List.set_cons_zero,List.set_cons_succ]at hK' ⊢;rw [yf9]at hf9;go_simp;exact hK' _ _ (by rw [cEq];exact hw) (Qb yM 10 (by kernel_rfl) xs W _) (by rw [yf10];(try simp only [↓reduceIte,OfNat.ofNat_ne_ofNat,Nat.reduceEqDiff]);exact⟨rfl,hf9⟩)
   exact Qf.nil
 intro xs W hw hd;rw [cEq]at hw;simp only [Yd]at hd;obtain⟨fe0,fe1,fe2,fe3,fe4,fe5,fe6,fe7,fe8,fe9,fe10,_⟩:=hd;have fe0:=fe0 (by first|kernel_rfl|trivial);rw [yf0]at fe0;have fe1:=fe1 (by first|kernel_rfl|trivial);rw [yf1]at fe1;have fe2:=fe2 (by first|kernel_rfl|trivial);rw [yf2]at fe2;have fe3:=fe3 (by first|kernel_rfl|trivial);rw [yf3]at fe3;have fe4:=fe4 (by first|kernel_rfl|trivial);rw [yf4]at fe4;have fe5:=fe5 (by first|kernel_rfl|trivial);rw [yf5]at fe5;have fe6:=fe6 (by first|kernel_rfl|trivial);rw [yf6]at fe6;have fe7:=fe7 (by first|kernel_rfl|trivial);rw [yf7]at fe7;have fe8:=fe8 (by first|kernel_rfl|trivial);rw [yf8]at fe8;have fe9:=fe9 (by first|kernel_rfl|trivial);rw [yf9]at fe9;have fe10:=fe10 (by first|kernel_rfl|trivial);rw [yf10]at fe10;simp only [Qd,Act.put,List.setIfInBounds_toArray,List.set_cons_zero,List.set_cons_succ];generalize xs 0=xv0 at *;generalize xs 1=xv1 at *;generalize xs 2=xv2 at *;generalize xs 3=xv3 at *;generalize xs 4=xv4 at *;generalize xs 5=xv5 at *;generalize xs 6=xv6 at *;generalize xs 7=xv7 at *;generalize xs 8=xv8 at *;generalize xs 9=xv9 at *;generalize xs 10=xv10 at *;subst fe0;subst fe1;subst fe2;subst fe3;subst fe4;subst fe7;subst fe8;clear yf0 yf1 yf2 yf3 yf4 yf5 yf6 yf7 yf8 yf9 yf10 yf11 yN yR yM yP cEq;obtain⟨h10,A,c',h9,hc',r9⟩:=fe10;subst h10;rw [h9];have c5:=fe5.2;clear fe5 fe6;go_wp2_with fail;(try go_ret);exact hR.out _ _ ⟨U1.out.trans' hw,⟨A,s,c',rfl,hc',r9.mono fun b hb=>by have:=U1.out.size;omega⟩,c5⟩
theorem Q3E (F:Nat->Prop) (g pr s:Nat) (kd:Int) (fo:Bool) (tv:Value) (bs:List Nat) (at_:Nat) (w:World) (hcu:Qe w F g bs at_) (hF:∀b,F b->b≠g)
   (br:Blk w pr 101 #[.pointer (some ⟨g,0,none⟩),tv]) (hpg:pr≠g) (hs0:0<s) (hs:s<=131072) (h:¬at_<bs.length) :
   Calls Tryz.prog 69 #[.pointer (some ⟨pr,0,none⟩),.agg #[.int .i64 kd,.bool fo,.int .i64 (s:Nat)]] w (QF F g bs (.inl 3) w):=by
 have hmf:∀(fn:Fn) (first cap:Array Value) (w:World),(Instr.makeFunc fn first cap).run Tryz.prog w = .ok (.func fn first cap) w:=fun _ _ _ _=>rfl;obtain⟨w1,hw1⟩:=nm_ (w.alloc (.cells #[.int .i64 kd,.bool fo,.int .i64 (s:Nat)] 41));obtain⟨H,hH⟩:=nm_ (w.heap.size);(have f0:Q0 w w1:=by rw [hw1];exact(Upd.refl _ _).alloc _);(have b0:Blk w1 H 41 #[.int .i64 kd,.bool fo,.int .i64 (s:Nat)]:=by rw [hw1];exact Qc hH _ _);(have hHg:H≠g:=by have:=hcu.lt;omega);have HCB:=hd_ (show ∀W,Upd (fun b=>b=g) w1 W->W.cell? ⟨pr,0,none⟩=some (.pointer (some ⟨g,0,none⟩))/\W.cell? ⟨H,2,none⟩=some (.int .i64 (s:Nat))from fun W hW=>⟨by simpa using((br.fresh f0).upd hW hpg).cell 0,by simpa using(b0.upd hW hHg).cell 2⟩);have HRB:=hd_ (fun W (hW:Qe W F g bs at_)=>(Yg F g bs at_ W hW hF).mono fun e w' q=>(show Upd (fun b=>b=g) W w'/\e=Qi 3/\Qe w' F g bs at_ from by rw [if_neg h]at q;exact q));have HCU:=hd_ (hcu.fresh f0);have HS:=hd_ (And.intro hs0 hs);have U1:=hd_ (f0.mono (T:=fun b=>b=g) (fun _ _ h=>h.elim));obtain⟨x,hx⟩:=nm_ (bs[at_]?.getD 0);have HH:=hd_ hH;have HW:=hd_ hw1;clear hcu hF br hpg hs0 hs h hw1 hH f0 b0 hHg hx;refine Qg fun R hR=>?_;unfold QF at hR;simp only at hR;have hR0:=hR;clear hR;have hR:=hd_ (show ∀(e:Ending) w',Upd (fun b=>b=g) w w'->R (Qi 3) w' from fun e w' h=>hR0.out _ _ ⟨h,rfl⟩);clear hR0;go_enter Tryz.func69,Tryz.ntmps69;go_upto_region 1 with fail;simp only [<-HH.out,<-HW.out];obtain⟨Cw,cEq⟩:=exC (fun W=>Upd (fun b=>b=g) w1 W);obtain⟨Y,yA⟩:=exY [fun xs W=>(xs 0) = .pointer (some ⟨pr,0,none⟩),fun xs W=>(xs 1) = .pointer (some ⟨pr,0,none⟩),fun xs W=>(xs 2) = .pointer (some ⟨pr,0,none⟩),fun xs W=>(xs 3) = .pointer (some ⟨g,0,none⟩),fun xs W=>(xs 4) = .func (.func 120) #[.pointer (some ⟨g,0,none⟩)] #[],fun xs W=>False,fun xs W=>False,fun xs W=>(xs 7) = .pointer (some ⟨H,2,none⟩),fun xs W=>(xs 8) = .int .i64 (s:Nat),fun xs W=>False,fun xs W=>False,fun xs W=>Qe W F g bs at_];have yf0:=yA 0;have yf1:=yA 1;have yf2:=yA 2;have yf3:=yA 3;have yf4:=yA 4;have yf5:=yA 5;have yf6:=yA 6;have yf7:=yA 7;have yf8:=yA 8;have yf9:=yA 9;have yf10:=yA 10;have yf11:=yA 11;simp only [List.getD_cons_zero,List.getD_cons_succ]at yf0 yf1 yf2 yf3 yf4 yf5 yf6 yf7 yf8 yf9 yf10 yf11;(have yN:∀j xs W,12<=j->Y j xs W=True:=fun j xs W hj=>by rw [yA,QR _ _ _ hj])
 have yP:∀j xs W W',j∈[0,1,2,3,4,5,6,7,8,9,10]->Y j xs W->Y j xs W':=by
   intro j xs W W' hj hy;simp only [List.mem_cons,List.not_mem_nil,or_false]at hj;rcases hj with rfl|rfl|rfl|rfl|rfl|rfl|rfl|rfl|rfl|rfl|rfl
   . rw [yf0]at hy ⊢;exact hy
   . rw [yf1]at hy ⊢;exact hy
   . rw [yf2]at hy ⊢;exact hy
   . rw [yf3]at hy ⊢;exact hy
   . rw [yf4]at hy ⊢;exact hy
   . rw [yf5]at hy ⊢;exact hy
   . rw [yf6]at hy ⊢;exact hy
   . rw [yf7]at hy ⊢;exact hy
   . rw [yf8]at hy ⊢;exact hy
   . rw [yf9]at hy ⊢;exact hy
   rw [yf10]at hy ⊢;exact hy
 have yM:YA [[0],[1],[2],[3],[4],[],[],[7],[8],[],[],[]] Y:=by
   intro j xs xs' W hh hy;by_cases hj:12<=j
   . rw [yN j _ _ hj];trivial
   (have hj':j=0\/j=1\/j=2\/j=3\/j=4\/j=5\/j=6\/j=7\/j=8\/j=9\/j=10\/j=11:=by omega);rcases hj' with rfl|rfl|rfl|rfl|rfl|rfl|rfl|rfl|rfl|rfl|rfl|rfl
   . rw [yf0]at hy ⊢;rw [<-hh 0 (by decide)];exact hy
   . rw [yf1]at hy ⊢;rw [<-hh 1 (by decide)];exact hy
   . rw [yf2]at hy ⊢;rw [<-hh 2 (by decide)];exact hy
   . rw [yf3]at hy ⊢;rw [<-hh 3 (by decide)];exact hy
   . rw [yf4]at hy ⊢;rw [<-hh 4 (by decide)];exact hy
   . rw [yf5]at hy ⊢;exact hy
   . rw [yf6]at hy ⊢;exact hy
   . rw [yf7]at hy ⊢;rw [<-hh 7 (by decide)];exact hy
   . rw [yf8]at hy ⊢;rw [<-hh 8 (by decide)];exact hy
   . rw [yf9]at hy ⊢;exact hy
   . rw [yf10]at hy ⊢;exact hy
   rw [yf11]at hy ⊢;exact hy
 clear yA
 have yR:∀j xs,11<=j->Y j xs (w1.drew):=by
   intro j xs hj;rcases(show j=11\/12<=j by omega)with rfl|hj
   . rw [yf11];exact HCU.out
   rw [yN _ _ _ hj];trivial
 refine YN (PP:=fun ch W=>ch=[{ v:=.iface 24 (.int .i64 3),recovered:=false }]/\Upd (fun b=>b=g) w1 W) Cw (fun j=>if j=11 then [5]else []) Y [(0,some 5),(1,some 6),(2,some 7),(3,some 8),(4,some 9),(5,some 10),(6,some 11),(7,some 12),(8,some 13),(9,some 14),(10,some 4)] (by kernel_rfl) (by kernel_rfl) (by kernel_rfl) (by rw [cEq];exact(Upd.refl _ _).drew) (fun j hj=>yR j _ hj) ?_ ?_ (fun ch a W hd h=>by obtain⟨rfl,h2⟩:=h;exact⟨hd,hR.out (Qi 3) _ (U1.out.trans' h2)⟩)
 . refine Qf.cons [] (by kernel_rfl) (fun xs W hw hd lst hl K hK=>?_) ?_
   . rw [cEq]at hw
     have hK':=hK.out;clear hK;simp only [Qd,Act.put,List.setIfInBounds_toArray,List.set_cons_zero,List.set_cons_succ]at hK' ⊢;go_simp;exact hK' _ _ (by rw [cEq];exact hw) (Qb yM 0 (by kernel_rfl) xs W _) (by rw [yf0];exact if_pos rfl)
   refine Qf.cons [(0,some 5)] (by kernel_rfl) (fun xs W hw hd lst hl K hK=>?_) ?_
   . rw [cEq]at hw
     have hK':=hK.out;clear hK;simp only [Ql]at hd;obtain⟨hf0,_⟩:=hd;simp only [Qd,Act.put,List.setIfInBounds_toArray,List.set_cons_zero,List.set_cons_succ]at hK' ⊢;rw [yf0]at hf0;simp only [hf0]at hK' ⊢;go_simp;exact hK' _ _ (by rw [cEq];exact hw) (Qb yM 1 (by kernel_rfl) xs W _) (by rw [yf1];exact if_pos rfl)
   refine Qf.cons [(1,some 6)] (by kernel_rfl) (fun xs W hw hd lst hl K hK=>?_) ?_
   . rw [cEq]at hw
     have hK':=hK.out;clear hK;simp only [Ql]at hd;obtain⟨hf1,_⟩:=hd;simp only [Qd,Act.put,List.setIfInBounds_toArray,List.set_cons_zero,List.set_cons_succ]at hK' ⊢;rw [yf1]at hf1;simp only [hf1]at hK' ⊢;go_simp;exact hK' _ _ (by rw [cEq];exact hw) (Qb yM 2 (by kernel_rfl) xs W _) (by rw [yf2];exact if_pos rfl)
   refine Qf.cons [(2,some 7)] (by kernel_rfl) (fun xs W hw hd lst hl K hK=>?_) ?_
   . rw [cEq]at hw
     have hK':=hK.out;clear hK;simp only [Ql]at hd;obtain⟨hf2,_⟩:=hd;simp only [Qd,Act.put,List.setIfInBounds_toArray,List.set_cons_zero,List.set_cons_succ]at hK' ⊢;rw [yf2]at hf2;simp only [hf2]at hK' ⊢;have cl:=HCB.out W hw;obtain⟨cl0,cl1⟩:=cl;go_simp;exact hK' _ _ (by rw [cEq];exact hw) (Qb yM 3 (by kernel_rfl) xs W _) (by rw [yf3];exact if_pos rfl)
   refine Qf.cons [(3,some 8)] (by kernel_rfl) (fun xs W hw hd lst hl K hK=>?_) ?_
   . rw [cEq]at hw
     have hK':=hK.out;clear hK;simp only [Ql]at hd;obtain⟨hf3,_⟩:=hd;simp only [Qd,Act.put,List.setIfInBounds_toArray,List.set_cons_zero,List.set_cons_succ]at hK' ⊢;rw [yf3]at hf3;simp only [hf3]at hK' ⊢;go_simp;exact hK' _ _ (by rw [cEq];exact hw) (Qb yM 4 (by kernel_rfl) xs W _) (by rw [yf4];exact if_pos rfl)
   refine Qf.cons [(4,some 9),(11,none)] (by kernel_rfl) (fun xs W hw hd lst hl K hK=>?_) ?_
   . rw [cEq]at hw
     have hK':=hK.out;clear hK;simp only [Ql]at hd;obtain⟨hf4,hf11,_⟩:=hd;simp only [Qd,Act.put,List.setIfInBounds_toArray,List.set_cons_zero,List.set_cons_succ]at hK' ⊢;rw [yf4]at hf4;rw [yf11]at hf11;simp only [hf4]at hK' ⊢;go_simp;refine(HRB.out W hf11).mono ?_;rintro e9 w9 ⟨u9,rfl,c9⟩;simp only [Qi];exact⟨rfl,hw.trans' u9⟩
   refine Qf.cons [(5,some 10)] (by kernel_rfl) (fun xs W hw hd lst hl K hK=>?_) ?_
   . rw [cEq]at hw
     have hK':=hK.out;clear hK;simp only [Ql]at hd;obtain⟨hf5,_⟩:=hd;simp only [Qd,Act.put,List.setIfInBounds_toArray,List.set_cons_zero,List.set_cons_succ]at hK' ⊢;rw [yf5]at hf5;exact hf5.elim
   refine Qf.cons [] (by kernel_rfl) (fun xs W hw hd lst hl K hK=>?_) ?_
   . rw [cEq]at hw
     have hK':=hK.out;clear hK;simp only [Qd,Act.put,List.setIfInBounds_toArray,List.set_cons_zero,List.set_cons_succ]at hK' ⊢;go_simp;exact hK' _ _ (by rw [cEq];exact hw) (Qb yM 7 (by kernel_rfl) xs W _) (by rw [yf7];exact if_pos rfl)
   refine Qf.cons [(7,some 12)] (by kernel_rfl) (fun xs W hw hd lst hl K hK=>?_) ?_
   . rw [cEq]at hw
     have hK':=hK.out;clear hK;simp only [Ql]at hd;obtain⟨hf7,_⟩:=hd;simp only [Qd,Act.put,List.setIfInBounds_toArray,List.set_cons_zero,List.set_cons_succ]at hK' ⊢;rw [yf7]at hf7;simp only [hf7]at hK' ⊢;have cl:=HCB.out W hw;obtain⟨cl0,cl1⟩:=cl;go_simp;exact hK' _ _ (by rw [cEq];exact hw) (Qb yM 8 (by kernel_rfl) xs W _) (by rw [yf8];exact if_pos rfl)
   refine Qf.cons [(6,some 11),(8,some 13)] (by kernel_rfl) (fun xs W hw hd lst hl K hK=>?_) ?_
   . rw [cEq]at hw
     have hK':=hK.out;clear hK;simp only [Ql]at hd;obtain⟨hf6,hf8,_⟩:=hd;simp only [Qd,Act.put,List.setIfInBounds_toArray,List.set_cons_zero,List.set_cons_succ]at hK' ⊢;rw [yf6]at hf6;rw [yf8]at hf8;simp only [hf8]at hK' ⊢;exact hf6.elim
   refine Qf.cons [(9,some 14)] (by kernel_rfl) (fun xs W hw hd lst hl K hK=>?_) ?_
   . rw [cEq]at hw
     have hK':=hK.out;clear hK;simp only [Ql]at hd;obtain⟨hf9,_⟩:=hd;simp only [Qd,Act.put,List.setIfInBounds_toArray,List.set_cons_zero,List.set_cons_succ]at hK' ⊢;rw [yf9]at hf9;exact hf9.elim
   exact Qf.nil
 intro xs W hw hd;rw [cEq]at hw;simp only [Yd]at hd;obtain⟨fe0,fe1,fe2,fe3,fe4,fe5,fe6,fe7,fe8,fe9,fe10,_⟩:=hd;have fe0:=fe0 (by first|kernel_rfl|trivial);rw [yf0]at fe0;have fe1:=fe1 (by first|kernel_rfl|trivial);rw [yf1]at fe1;have fe2:=fe2 (by first|kernel_rfl|trivial);rw [yf2]at fe2;have fe3:=fe3 (by first|kernel_rfl|trivial);rw [yf3]at fe3;have fe4:=fe4 (by first|kernel_rfl|trivial);rw [yf4]at fe4;have fe5:=fe5 (by first|kernel_rfl|trivial);rw [yf5]at fe5;have fe6:=fe6 (by first|kernel_rfl|trivial);rw [yf6]at fe6;have fe7:=fe7 (by first|kernel_rfl|trivial);rw [yf7]at fe7;have fe8:=fe8 (by first|kernel_rfl|trivial);rw [yf8]at fe8;have fe9:=fe9 (by first|kernel_rfl|trivial);rw [yf9]at fe9;have fe10:=fe10 (by first|kernel_rfl|trivial);rw [yf10]at fe10;simp only [Qd,Act.put,List.setIfInBounds_toArray,List.set_cons_zero,List.set_cons_succ];generalize xs 0=xv0 at *;generalize xs 1=xv1 at *;generalize xs 2=xv2 at *;generalize xs 3=xv3 at *;generalize xs 4=xv4 at *;generalize xs 5=xv5 at *;generalize xs 6=xv6 at *;generalize xs 7=xv7 at *;generalize xs 8=xv8 at *;generalize xs 9=xv9 at *;generalize xs 10=xv10 at *;subst fe0;subst fe1;subst fe2;subst fe3;subst fe4;subst fe7;subst fe8;clear yf0 yf1 yf2 yf3 yf4 yf5 yf6 yf7 yf8 yf9 yf10 yf11 yN yR yM yP cEq;exact fe10.elim
def Zh (l:List Nat):Int ⊕ (Nat × Nat) :=
  if(QH l).2.2=0 then if(QH l).1<=l.length-(QH l).2.1 then .inr ((QH l).2.1,(QH l).1)else .inl 3 else .inl (QH l).2.2
theorem Q0t (F:Nat->Prop) (g pr qa qb m:Nat) (tv:Value) (bs:List Nat) (at_:Nat) (w:World) (hcu:Qe w F g bs at_) (hF:∀b,F b->b≠g)
   (br:Blk w pr 101 #[.pointer (some ⟨g,0,none⟩),tv]) (ba:Blk w qa 99 #[.pointer (some ⟨pr,0,none⟩)]) (bb:Blk w qb 80 #[.int .u64 (m:Nat)]) (hm:at_+m<=bs.length) :
   Calls Tryz.prog 172 #[.pointer (some ⟨qa,0,none⟩),.pointer (some ⟨qb,0,none⟩)] w fun e w'=>Upd (fun b=>b=g) w w' /\
     ∃K,e = .returned (.tuple #[.pointer (some ⟨K,0,none⟩),.int .i64 0])/\w.heap.size<=K/\Qe w' (fun b=>w.heap.size<=b/\b≠K) K ((bs.drop at_).take m) 0/\Qe w' F g bs (at_+m):=by
 have a0:=ba.cell 0;have b2:=bb.cell 0;have r0:=br.cell 0;simp at a0 b2 r0;(have hlen:bs.length<=2^32:=by obtain⟨_,_,_,_,_,_,h,_⟩:=hcu;exact h)
 have HB:=hd_ (fun W (hW:Q0 w W)=>(Q2w F g bs at_ m W (hcu.fresh hW) (by omega) hF).mono fun e w' h=>(show Upd (fun b=>b=g) W w'/\∃K,e = .returned (.tuple #[.pointer (some ⟨K,0,none⟩),.int .i64 0])/\W.heap.size<=K/\Qe w' (fun b=>W.heap.size<=b/\b≠K) K ((bs.drop at_).take m) 0/\Qe w' F g bs (at_+m)from by
   unfold JY at h;rw [if_pos hm]at h;exact h))
 have hwm:IntKind.i64.wrap (m:Int)=m:=IntWalk.i64_in _ (by omega);clear hcu hF br ba bb hm hlen;refine Qg fun R hR=>?_;go_enter Tryz.func172,Tryz.ntmps172;go_upto_region 1 with fail;go_region_with (go_at_call 173;refine(HB.out _ ((Upd.refl _ _).drewN 1)).mono ?_;rintro e w6 ⟨u6,K6,rfl,k6,c6,d6⟩;have U6:=hd_ u6;have C6:=hd_ c6;have D6:=hd_ d6;have K7:=hd_ k6;clear u6 c6 d6 k6)
 all_goals(
   go_wp2_with fail;(try go_ret2)
   exact hR.out _ _ ⟨((Upd.refl _ _).drewN 1).trans' U6.out,K6,rfl,by have:=K7.out;simpa using this,C6.out.mono fun b hb=>by simpa using hb,D6.out⟩)
def JK (F:Nat->Prop) (g:Nat) (bs:List Nat) (at_:Nat) (w:World) (e:Ending) (w':World):Prop :=
  Upd (fun b=>b=g) w w'/\match Zh (bs.drop at_)with
    | .inl er=>e=Qi er
    | .inr (u,m)=>∃K,e = .returned (.pointer (some ⟨K,0,none⟩))/\w.heap.size<=K/\Qe w' (fun b=>w.heap.size<=b/\b≠K) K ((bs.drop (at_+u)).take m) 0/\Qe w' F g bs (at_+u+m)
theorem ZG (F:Nat->Prop) (g pr:Nat) (tv:Value) (bs:List Nat) (at_:Nat) (w:World) (hcu:Qe w F g bs at_) (hF:∀b,F b->b≠g)
   (br:Blk w pr 101 #[.pointer (some ⟨g,0,none⟩),tv]) (hpg:pr≠g) :
   Calls Tryz.prog 126 #[.pointer (some ⟨pr,0,none⟩)] w (JK F g bs at_ w):=by
 have hmf:∀(fn:Fn) (first cap:Array Value) (w:World),(Instr.makeFunc fn first cap).run Tryz.prog w = .ok (.func fn first cap) w:=fun _ _ _ _=>rfl;obtain⟨w0,hw0⟩:=nm_ (w.alloc (.cells #[.pointer (some ⟨pr,0,none⟩)] 99));obtain⟨H,hH⟩:=nm_ (w.heap.size);(have f0:Q0 w w0:=by rw [hw0];exact(Upd.refl _ _).alloc _);(have ba:Blk w0 H 99 #[.pointer (some ⟨pr,0,none⟩)]:=by rw [hw0];exact Qc hH _ _);(have hHg:H≠g:=by have:=hcu.lt;omega);have HV:=hd_ (Jm (fun b=>F b/\b<w.heap.size) g bs at_ w0 (hcu.both.fresh f0) (fun b hb=>hF b hb.1));have x0:=ba.cell 0;have x1:=(br.fresh f0).cell 0;simp at x0 x1;obtain⟨V,hV⟩:=nm_ (QH (bs.drop at_));have hlenl:(bs.drop at_).length=bs.length-at_:=List.length_drop;(have hlen:bs.length<=2^32:=by obtain⟨_,_,_,_,_,_,h,_⟩:=hcu;exact h);(have hle:at_<=bs.length:=by obtain⟨_,_,_,_,_,h,_⟩:=hcu;exact h);unfold JK Zh;rw [hlenl];rw [<-hV]at HV ⊢;have BA:=hd_ ba;have BR:=hd_ (br.fresh f0);have HGS:=hd_ (And.intro hHg hpg);have HF:=hd_ hF;have F0:=hd_ f0;have HH:=hd_ hH;have HW:=hd_ hw0;have HLE:=hd_ (And.intro hlen hle);clear hcu hF br hpg hw0 hH f0 ba hHg hV hlenl hlen hle;refine Qg fun R hR=>?_;go_enter Tryz.func126,Tryz.ntmps126;go_upto_region 1 with fail;simp only [<-HH.out,<-HW.out];by_cases v0:V.2.2=0
 . simp only [if_pos v0]at HV hR
   obtain⟨n,hn⟩:=nm_ (V.1);obtain⟨u,hu⟩:=nm_ (V.2.1);rw [<-hn,<-hu]at HV hR;clear v0 hn hu;go_wp2_with fail;refine HV.out.mono ?_;rintro e w1 ⟨u1,rfl,c1⟩;(have hat:at_+u<=bs.length:=by obtain⟨_,_,_,_,_,h,_⟩:=c1;exact h);go_upto_region 2 with fail;obtain⟨Q,hQ⟩:=nm_ (w1.heap.size);obtain⟨w2,hw2⟩:=nm_ (w1.alloc (.cells #[.int .u64 (n:Nat)] 80));simp only [<-hQ,<-hw2];(have f2:Q0 w1 w2:=by rw [hw2];exact(Upd.refl _ _).alloc _);(have bq:Blk w2 Q 80 #[.int .u64 (n:Nat)]:=by rw [hw2];exact Qc hQ _ _);have ba2:=(BA.out.upd u1 HGS.out.1).fresh f2;have br2:=(BR.out.upd u1 HGS.out.2).fresh f2;have c2:=c1.fresh f2;have U2:=hd_ (((F0.out.mono (T:=fun b=>b=g) (fun _ _ h=>h.elim)).trans' u1).trans f2 (fun _ _ h=>h.elim));have HL:=hd_ (fun q=>YV _ g bs (at_+u) (w2.drewN q) c2);have y0:=bq.cell 0;have y1:=ba2.cell 0;have y2:=br2.cell 0;simp at y0 y1 y2;have BQ2:=hd_ bq;have BA2:=hd_ ba2;have BR2:=hd_ br2;have C2:=hd_ c2;(have hLI:((bs.length-(at_+u):Nat):Int)<=4294967296:=by have:=HLE.out.1;omega);obtain⟨L,hL⟩:=nm_ (bs.length-(at_+u));(have hL2:bs.length-at_-u=L:=by omega);rw [<-hL]at HL hLI;rw [hL2]at hR;(have hwL:IntKind.u64.wrap (L:Int)=L:=by unfold IntKind.wrap;simp [IntKind.bits];omega);have HLL:=hd_ hL;have HAT:=hd_ hat;clear hQ hw2 f2 bq ba2 br2 c2 u1 c1 HV x0 x1 hL hL2 hat;refine Qv 8 (by kernel_rfl) (by kernel_rfl) ?_;simp only [List.take_succ_cons,List.take_zero,List.drop_succ_cons,List.drop_zero];(repeat(first|go_big_quiet_step ((go_at_call 39;exact Calls.quiet_of (HL.out _)))|quiet_step (fail)));refine wpQuiet_nil ?_;rintro w5 ⟨q5,rfl⟩;by_cases hn:n<=L
   . have hnI:(n:Int)<=L:=by omega
     simp only [if_pos hn]at hR;(have hnb:at_+u+n<=bs.length:=by have:=HLL.out;have:=HAT.out;omega);have HNB:=hd_ hnb;clear hn hnb;go_wp2_with fail;refine(Ya _ _ _ (by first|rfl|exact decide_eq_true (by omega)|(simp;omega))).mono ?_;rintro e w6 ⟨rfl,hw6⟩;(have f6:Q0 w2 w6:=by rw [hw6];exact(Upd.refl _ _).drewN _);have H1:=hd_ (Q0t _ g pr H Q n tv bs (at_+u) w6 (C2.out.fresh f6) (fun b hb=>HF.out b hb.1) (BR2.out.fresh f6) (BA2.out.fresh f6) (BQ2.out.fresh f6) HNB.out);have F6:=hd_ (U2.out.trans f6 (fun _ _ h=>h.elim));clear hw6 f6 HL
     have HLR:=hd_ (Q1O 172 #[.pointer (some ⟨H,0,none⟩),.pointer (some ⟨Q,0,none⟩)] w6 (fun _ _=>rfl) (fun v w'=>Upd (fun b=>b=g) w6 w'/\∃K,v = .pointer (some ⟨K,0,none⟩)/\w6.heap.size<=K/\Qe w' (fun b=>w6.heap.size<=b/\b≠K) K ((bs.drop (at_+u)).take n) 0/\Qe w' (fun b=>F b/\b<w.heap.size) g bs (at_+u+n))
       (H1.out.mono fun e w' h=>by obtain⟨h1,K,rfl,h2⟩:=h;exact⟨_,rfl,h1,K,rfl,h2⟩))
     clear H1;go_wp2_with fail;refine HLR.out.mono ?_;rintro e w8 ⟨v,w7,rfl,⟨u7,K,rfl,hK,cK,cG⟩,f8⟩;have hsz:=F6.out.size
     have HFIN:=hd_ (show Upd (fun b=>b=g) w w8/\w.heap.size<=K/\Qe w8 (fun b=>w.heap.size<=b/\b≠K) K ((bs.drop (at_+u)).take n) 0/\Qe w8 F g bs (at_+u+n)from
       ⟨(F6.out.trans' u7).trans f8 (fun _ _ h=>h.elim),by omega,(cK.mono fun b hb=>⟨by have:=hb.1;omega,hb.2⟩).fresh f8,(cG.mono fun b hb=>hb.1).fresh f8⟩)
     clear u7 hK cK cG f8 HLR hsz;go_wp2_with fail;(try go_ret);exact hR.out _ _ ⟨HFIN.out.1,K,rfl,HFIN.out.2⟩
   (have hnI:¬(n:Int)<=L:=by omega);simp only [if_neg hn]at hR;clear hn;go_wp2_with fail;refine(Yl _ _ _ (by first|rfl|exact decide_eq_false (by omega)|(simp;omega))).mono ?_;rintro e w6 ⟨rfl,hw6⟩;simp only [Qi];exact⟨rfl,hR.out _ _ ⟨U2.out.trans (show Q0 w2 w6 by rw [hw6];exact(Upd.refl _ _).drewN _) (fun _ _ h=>h.elim),rfl⟩⟩
 simp only [if_neg v0]at HV hR;clear v0;go_wp2_with fail;refine HV.out.mono ?_;rintro e w1 ⟨u1,rfl,c1⟩;simp only [Qi];exact⟨rfl,hR.out _ _ ⟨(F0.out.mono (T:=fun b=>b=g) (fun _ _ h=>h.elim)).trans' u1,rfl⟩⟩
end Go.Proofs.YtckjdhaflokcgaaGreat
