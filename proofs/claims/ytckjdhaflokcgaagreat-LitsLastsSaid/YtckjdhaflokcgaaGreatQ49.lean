/-
  Joined texts, part 49: contracts and plain lemmas.
  Conditions: none beyond those of each theorem.
-/
import Derived.Test.YtckjdhaflokcgaaGreatQ47
import Derived.Test.YtckjdhaflokcgaaGreatQ48
import Derived.Test.YtckjdhaflokcgaaGreatQ44
set_option maxHeartbeats 4000000
set_option linter.unusedVariables false
set_option linter.unusedSimpArgs false
set_option linter.unnecessarySimpa false
set_option maxRecDepth 100000
universe u
namespace Go.Proofs.YtckjdhaflokcgaaGreat
open Go.RowKit
def Jc:Value->Value
  | .tuple a=>a.getD 0 undef
  | _=>undef
def DV (o:Option (List Nat)) (w:World) (v:Value) (W:World):Prop :=
  match o with
  | some x=>∃A n c,v = .slice A n c/\n<=c/\Rd W (fun b=>w.heap.size<=b) A n (Qa x)
  | none=>True
theorem DV.fresh {o:Option (List Nat)} {w W W':World} {v:Value} (h:DV o w v W) (hf:Q0 W W'):DV o w v W':=by
 cases o with
 | none=>trivial
 | some x=>obtain⟨A,n,c,h1,h2,h3⟩:=h;exact⟨A,n,c,h1,h2,h3.fresh hf⟩
theorem Xw (Fk G:Nat->Prop) (g pr qa qb qc K0 s tn tc:Nat) (kd:Int) (TA:Option Addr) (tree:List Int) (cb:List Nat) (w:World) (hck:Qe w Fk K0 cb 0) (hrt:Rd w G TA tn (Qm tree)) (htc:tn<=tc) (htn:tn<=2^40) (ht:Qj tree)
   (br:Blk w pr 101 #[.pointer (some ⟨g,0,none⟩),.slice TA tn tc]) (ba:Blk w qa 99 #[.pointer (some ⟨pr,0,none⟩)]) (bb:Blk w qb 41 #[.int .i64 kd,.bool false,.int .i64 (s:Nat)]) (bc:Blk w qc 46 #[.pointer (some ⟨K0,0,none⟩)]) (hs:s<=131072) :
   Calls Tryz.prog 182 #[.pointer (some ⟨qb,0,none⟩),.pointer (some ⟨qa,0,none⟩),.pointer (some ⟨qc,0,none⟩)] w fun e w'=>Q0 w w' /\
     ∃v,e = .returned (.tuple #[v,.int .i64 (if JL tree cb s=none then 14 else 0)])/\DV (JL tree cb s) w v w':=by
 (have hlt:∀b∈cb,b<256:=by obtain⟨_,_,_,_,h,_⟩:=hck;exact h);(have hlen:cb.length<=2^32:=by obtain⟨_,_,_,_,_,_,h,_⟩:=hck;exact h);obtain⟨o,ho⟩:=nm_ (JL tree cb s);obtain⟨er,her⟩:=nm_ ((if JL tree cb s=none then(14:Int)else 0));have HRS0:=hd_ (fun W (hW:Q0 w W)=>Q1n Fk K0 cb 0 W (hck.fresh hW))
 have HDD0:=hd_ (fun W (hW:Q0 w W) A n c (hc:n<=c) (hb:Rd W (fun _=>True) A n (Qa cb))=>(Q2L G (fun _=>True) TA A tn tc n c s tree cb W (hrt.fresh hW) hb hlt htn (by have:=hb.1;simp [Qa]at this;omega) htc hc hs).mono fun e w' h=>(show ∃v,e = .returned (.tuple #[v,.int .i64 er])/\DV o W v w'/\Q0 W w' from by
   rw [if_pos ht,if_pos ht]at h;unfold JC at h;rw [ho,her]
   cases hq:JL tree cb s with
   | none=>rw [hq]at h;exact⟨_,by simpa using h.1,trivial,h.2⟩
   | some x =>
     rw [hq]at h;obtain⟨v,he,o2,f2,hb2⟩:=h;obtain⟨A9,n9,c9,rfl,hn9⟩:=o2.form';obtain⟨h4,h5,h6⟩:=o2.rd rfl;rw [<-h4]at h5 h6
     exact⟨_,by simpa using he,⟨A9,n9,c9,rfl,h5,h6.mono fun b hb=>hb2 b hb⟩,f2⟩))
 have HB:=hd_ (And.intro br (And.intro ba (And.intro bb bc)));rw [<-her,<-ho];have b1:=bb.cell 1;simp at b1;clear hck hrt htc htn ht br ba bb bc hs hlt hlen ho her;refine Qg fun R hR=>?_;go_enter Tryz.func182,Tryz.ntmps182;go_wp2_with fail;obtain⟨w1,hw1⟩:=nm_ (w);rw [<-hw1];have HW:=hd_ hw1
 have HCB:=hd_ (show ∀W,Q0 w1 W->W.cell? ⟨qa,0,none⟩=some (.pointer (some ⟨pr,0,none⟩))/\W.cell? ⟨pr,0,none⟩=some (.pointer (some ⟨g,0,none⟩))/\W.cell? ⟨pr,1,none⟩=some (.slice TA tn tc)/\W.cell? ⟨qc,0,none⟩=some (.pointer (some ⟨K0,0,none⟩))/\W.cell? ⟨qb,2,none⟩=some (.int .i64 (s:Nat))/\True from fun W hW=>by
   rw [hw1]at hW
   exact⟨by simpa using(HB.out.2.1.fresh hW).cell 0,by simpa using(HB.out.1.fresh hW).cell 0,by simpa using(HB.out.1.fresh hW).cell 1,by simpa using(HB.out.2.2.2.fresh hW).cell 0,by simpa using(HB.out.2.2.1.fresh hW).cell 2,trivial⟩)
 have HRS:=hd_ (show ∀W,Q0 w1 W->Calls Tryz.prog 184 #[.pointer (some ⟨K0,0,none⟩)] W fun e w'=>∃A n c,e = .returned (.slice A n c)/\n<=c/\Rd w' (fun b=>W.heap.size<=b) A n (Qa cb)/\Q0 W w' from fun W hW=>(HRS0.out W (by rw [hw1]at hW;exact hW)).mono fun e w' h=>by
   obtain⟨v,rfl,o2,f2,hb2⟩:=h;obtain⟨A9,n9,c9,rfl,hn9⟩:=o2.form';obtain⟨h4,h5,h6⟩:=o2.rd rfl;rw [<-h4]at h5 h6
   exact⟨A9,n9,c9,rfl,h5,h6.mono fun b hb=>hb2 b hb,f2⟩)
 have HDD:=hd_ (show ∀W,Q0 w1 W->∀A n c,n<=c->Rd W (fun b=>w1.heap.size<=b) A n (Qa cb)->Calls Tryz.prog 185 #[.slice TA tn tc,.slice A n c,.int .i64 (s:Nat)] W fun e w'=>∃v,e = .returned (.tuple #[v,.int .i64 er])/\DV o w1 v w'/\Q0 W w' from fun W hW A n c hc hr=>(HDD0.out W (by rw [hw1]at hW;exact hW) A n c hc (hr.mono fun _ _=>trivial)).mono fun e w' h=>by
   obtain⟨v,he,d,f⟩:=h;refine⟨v,he,?_,f⟩
   cases o with
   | none=>trivial
   | some x=>obtain⟨A9,n9,c9,h1,h2,h3⟩:=d;exact⟨A9,n9,c9,h1,h2,h3.mono fun b hb=>by have:=hW.size;omega⟩)
 have HDF:=hd_ (show ∀v W W',Q0 W W'->DV o w1 v W->DV o w1 v W' from fun v W W' hf h=>h.fresh hf);rw [<-hw1]at hR;clear HRS0 HDD0 HB hw1 b1;obtain⟨Cw,cEq⟩:=exC (fun W=>Q0 w1 W);obtain⟨Y,yA⟩:=exY [fun xs W=>(xs 0) = .pointer (some ⟨pr,0,none⟩),fun xs W=>(xs 1) = .pointer (some ⟨pr,0,none⟩),fun xs W=>(xs 2) = .pointer (some ⟨pr,1,none⟩),fun xs W=>(xs 3) = .slice TA tn tc,fun xs W=>(xs 4) = .pointer (some ⟨K0,0,none⟩),fun xs W=>∃A n c,(xs 5) = .slice A n c/\n<=c/\Rd W (fun b=>w1.heap.size<=b) A n (Qa cb),fun xs W=>(xs 6) = .pointer (some ⟨qb,2,none⟩),fun xs W=>(xs 7) = .int .i64 (s:Nat),fun xs W=>(xs 8) = .tuple #[Jc (xs 8),.int .i64 er]/\DV o w1 (Jc (xs 8)) W,fun xs W=>(xs 9)=Jc (xs 8),fun xs W=>(xs 10) = .int .i64 er,fun xs W=>(xs 11)=Jc (xs 8),fun xs W=>(xs 12) = .int .i64 er];have yf0:=yA 0;have yf1:=yA 1;have yf2:=yA 2;have yf3:=yA 3;have yf4:=yA 4;have yf5:=yA 5;have yf6:=yA 6;have yf7:=yA 7;have yf8:=yA 8;have yf9:=yA 9;have yf10:=yA 10;have yf11:=yA 11;have yf12:=yA 12;simp only [List.getD_cons_zero,List.getD_cons_succ]at yf0 yf1 yf2 yf3 yf4 yf5 yf6 yf7 yf8 yf9 yf10 yf11 yf12;(have yN:∀j xs W,13<=j->Y j xs W=True:=fun j xs W hj=>by rw [yA,QR _ _ _ hj])
 have yP:∀j xs W W',j∈[0,1,2,3,4,6,7,9,10,11,12]->Y j xs W->Y j xs W':=by
   intro j xs W W' hj hy;simp only [List.mem_cons,List.not_mem_nil,or_false]at hj;rcases hj with rfl|rfl|rfl|rfl|rfl|rfl|rfl|rfl|rfl|rfl|rfl
   . rw [yf0]at hy ⊢;exact hy
   . rw [yf1]at hy ⊢;exact hy
   . rw [yf2]at hy ⊢;exact hy
   . rw [yf3]at hy ⊢;exact hy
   . rw [yf4]at hy ⊢;exact hy
   . rw [yf6]at hy ⊢;exact hy
   . rw [yf7]at hy ⊢;exact hy
   . rw [yf9]at hy ⊢;exact hy
   . rw [yf10]at hy ⊢;exact hy
   . rw [yf11]at hy ⊢;exact hy
   rw [yf12]at hy ⊢;exact hy
 have yM:YA [[0],[1],[2],[3],[4],[5],[6],[7],[8],[9,8],[10],[11,8],[12]] Y:=by
   intro j xs xs' W hh hy;by_cases hj:13<=j
   . rw [yN j _ _ hj];trivial
   (have hj':j=0\/j=1\/j=2\/j=3\/j=4\/j=5\/j=6\/j=7\/j=8\/j=9\/j=10\/j=11\/j=12:=by omega);rcases hj' with rfl|rfl|rfl|rfl|rfl|rfl|rfl|rfl|rfl|rfl|rfl|rfl|rfl
   . rw [yf0]at hy ⊢;rw [<-hh 0 (by decide)];exact hy
   . rw [yf1]at hy ⊢;rw [<-hh 1 (by decide)];exact hy
   . rw [yf2]at hy ⊢;rw [<-hh 2 (by decide)];exact hy
   . rw [yf3]at hy ⊢;rw [<-hh 3 (by decide)];exact hy
   . rw [yf4]at hy ⊢;rw [<-hh 4 (by decide)];exact hy
   . rw [yf5]at hy ⊢;rw [<-hh 5 (by decide)];exact hy
   . rw [yf6]at hy ⊢;rw [<-hh 6 (by decide)];exact hy
   . rw [yf7]at hy ⊢;rw [<-hh 7 (by decide)];exact hy
   . rw [yf8]at hy ⊢;rw [<-hh 8 (by decide)];exact hy
   . rw [yf9]at hy ⊢;rw [<-hh 9 (by decide),<-hh 8 (by decide)];exact hy
   . rw [yf10]at hy ⊢;rw [<-hh 10 (by decide)];exact hy
   . rw [yf11]at hy ⊢;rw [<-hh 11 (by decide),<-hh 8 (by decide)];exact hy
   rw [yf12]at hy ⊢;rw [<-hh 12 (by decide)];exact hy
 clear yA
 have yR:∀j xs,13<=j->Y j xs (w1.drew):=by
   intro j xs hj;rcases(show 13<=j by omega)with hj;rw [yN _ _ _ hj];trivial
 refine QK Cw (fun j=>[]) Y [(0,some 18),(1,some 19),(2,some 20),(3,some 21),(4,some 22),(5,some 23),(6,some 24),(7,some 25),(8,some 26),(9,some 27),(10,some 28),(11,some 3),(12,some 4)] (by kernel_rfl) (by kernel_rfl) (by kernel_rfl) (by rw [cEq];exact(Upd.refl _ _).drew) (fun j hj=>yR j _ hj) ?_ ?_
 . refine Qf.cons [] (by kernel_rfl) (fun xs W hw hd lst hl K hK=>?_) ?_
   . rw [cEq]at hw
     have hK':=hK.out;clear hK;simp only [Qd,Act.put,List.setIfInBounds_toArray,List.set_cons_zero,List.set_cons_succ]at hK' ⊢;have cl:=HCB.out W hw;obtain⟨cl0,cl1,cl2,cl3,cl4,cl5⟩:=cl;go_simp;exact hK' _ _ (by rw [cEq];exact hw) (Qb yM 0 (by kernel_rfl) xs W _) (by rw [yf0];exact if_pos rfl)
   refine Qf.cons [(0,some 18)] (by kernel_rfl) (fun xs W hw hd lst hl K hK=>?_) ?_
   . rw [cEq]at hw
     have hK':=hK.out;clear hK;simp only [Ql]at hd;obtain⟨hf0,_⟩:=hd;simp only [Qd,Act.put,List.setIfInBounds_toArray,List.set_cons_zero,List.set_cons_succ]at hK' ⊢;rw [yf0]at hf0;simp only [hf0]at hK' ⊢;go_simp;exact hK' _ _ (by rw [cEq];exact hw) (Qb yM 1 (by kernel_rfl) xs W _) (by rw [yf1];exact if_pos rfl)
   refine Qf.cons [(1,some 19)] (by kernel_rfl) (fun xs W hw hd lst hl K hK=>?_) ?_
   . rw [cEq]at hw
     have hK':=hK.out;clear hK;simp only [Ql]at hd;obtain⟨hf1,_⟩:=hd;simp only [Qd,Act.put,List.setIfInBounds_toArray,List.set_cons_zero,List.set_cons_succ]at hK' ⊢;rw [yf1]at hf1;simp only [hf1]at hK' ⊢;go_simp;exact hK' _ _ (by rw [cEq];exact hw) (Qb yM 2 (by kernel_rfl) xs W _) (by rw [yf2];exact if_pos rfl)
   refine Qf.cons [(2,some 20)] (by kernel_rfl) (fun xs W hw hd lst hl K hK=>?_) ?_
   . rw [cEq]at hw
     have hK':=hK.out;clear hK;simp only [Ql]at hd;obtain⟨hf2,_⟩:=hd;simp only [Qd,Act.put,List.setIfInBounds_toArray,List.set_cons_zero,List.set_cons_succ]at hK' ⊢;rw [yf2]at hf2;simp only [hf2]at hK' ⊢;have cl:=HCB.out W hw;obtain⟨cl0,cl1,cl2,cl3,cl4,cl5⟩:=cl;go_simp;exact hK' _ _ (by rw [cEq];exact hw) (Qb yM 3 (by kernel_rfl) xs W _) (by rw [yf3];exact if_pos rfl)
   refine Qf.cons [] (by kernel_rfl) (fun xs W hw hd lst hl K hK=>?_) ?_
   . rw [cEq]at hw
     have hK':=hK.out;clear hK;simp only [Qd,Act.put,List.setIfInBounds_toArray,List.set_cons_zero,List.set_cons_succ]at hK' ⊢;have cl:=HCB.out W hw;obtain⟨cl0,cl1,cl2,cl3,cl4,cl5⟩:=cl;go_simp;exact hK' _ _ (by rw [cEq];exact hw) (Qb yM 4 (by kernel_rfl) xs W _) (by rw [yf4];exact if_pos rfl)
   refine Qf.cons [(4,some 22)] (by kernel_rfl) (fun xs W hw hd lst hl K hK=>?_) ?_
   . rw [cEq]at hw
     have hK':=hK.out;clear hK;simp only [Ql]at hd;obtain⟨hf4,_⟩:=hd;simp only [Qd,Act.put,List.setIfInBounds_toArray,List.set_cons_zero,List.set_cons_succ]at hK' ⊢;rw [yf4]at hf4;simp only [hf4]at hK' ⊢;have hsz:=hw.size;go_simp;refine(HRS.out W hw).mono ?_;rintro e9 w9 ⟨A9,n9,c9,rfl,hc9,r9,f9⟩;have hR:=f9;refine hK' (_) (w9) (by rw [cEq];exact hw.trans' f9) (QG yM 5 (by kernel_rfl) _ fun j hs hy=>?_) (by rw [yf5];(try simp only [↓reduceIte]);try exact⟨A9,n9,c9,rfl,hc9,r9.mono fun b hb=>by omega⟩);by_cases hp:j∈[0,1,2,3,4,6,7,9,10,11,12]
     . exact yP j _ _ _ hp hy
     by_cases hj:13<=j
     . rw [yN j _ _ hj];trivial
     simp only [List.mem_cons,List.not_mem_nil,or_false]at hp;rcases(show j=5\/j=8 by omega)with rfl|rfl
     . exact(Qn hs (by kernel_rfl)).elim
     exact(Qn hs (by kernel_rfl)).elim
   refine Qf.cons [] (by kernel_rfl) (fun xs W hw hd lst hl K hK=>?_) ?_
   . rw [cEq]at hw
     have hK':=hK.out;clear hK;simp only [Qd,Act.put,List.setIfInBounds_toArray,List.set_cons_zero,List.set_cons_succ]at hK' ⊢;go_simp;exact hK' _ _ (by rw [cEq];exact hw) (Qb yM 6 (by kernel_rfl) xs W _) (by rw [yf6];exact if_pos rfl)
   refine Qf.cons [(6,some 24)] (by kernel_rfl) (fun xs W hw hd lst hl K hK=>?_) ?_
   . rw [cEq]at hw
     have hK':=hK.out;clear hK;simp only [Ql]at hd;obtain⟨hf6,_⟩:=hd;simp only [Qd,Act.put,List.setIfInBounds_toArray,List.set_cons_zero,List.set_cons_succ]at hK' ⊢;rw [yf6]at hf6;simp only [hf6]at hK' ⊢;have cl:=HCB.out W hw;obtain⟨cl0,cl1,cl2,cl3,cl4,cl5⟩:=cl;go_simp;exact hK' _ _ (by rw [cEq];exact hw) (Qb yM 7 (by kernel_rfl) xs W _) (by rw [yf7];exact if_pos rfl)
   refine Qf.cons [(3,some 21),(5,some 23),(7,some 25)] (by kernel_rfl) (fun xs W hw hd lst hl K hK=>?_) ?_
   . rw [cEq]at hw
     have hK':=hK.out;clear hK;simp only [Ql]at hd;obtain⟨hf3,hf5,hf7,_⟩:=hd;simp only [Qd,Act.put,List.setIfInBounds_toArray,List.set_cons_zero,List.set_cons_succ]at hK' ⊢;rw [yf3]at hf3;rw [yf5]at hf5;rw [yf7]at hf7;simp only [hf3,hf7]at hK' ⊢;obtain⟨A5,n5,c5,h5e,h5c,r5⟩:=hf5;simp only [h5e]at hK' ⊢;have hsz:=hw.size;go_simp;refine(HDD.out W hw A5 n5 c5 h5c r5).mono ?_;rintro e9 w9 ⟨v9,rfl,d9,f9⟩;have hR:=f9;refine hK' (_) (w9) (by rw [cEq];exact hw.trans' f9) (fun j hs hy=>?_) (by rw [yf8];(try simp only [↓reduceIte]);try exact⟨rfl,d9⟩);by_cases hj:13<=j
     . rw [yN j _ _ hj];trivial
     (have hj':j=0\/j=1\/j=2\/j=3\/j=4\/j=5\/j=6\/j=7\/j=8\/j=9\/j=10\/j=11\/j=12:=by omega);rcases hj' with rfl|rfl|rfl|rfl|rfl|rfl|rfl|rfl|rfl|rfl|rfl|rfl|rfl
     . rw [yf0]at hy ⊢;(try simp only [↓reduceIte,OfNat.ofNat_ne_ofNat,Nat.reduceEqDiff]);exact hy
     . rw [yf1]at hy ⊢;(try simp only [↓reduceIte,OfNat.ofNat_ne_ofNat,Nat.reduceEqDiff]);exact hy
     . rw [yf2]at hy ⊢;(try simp only [↓reduceIte,OfNat.ofNat_ne_ofNat,Nat.reduceEqDiff]);exact hy
     . rw [yf3]at hy ⊢;(try simp only [↓reduceIte,OfNat.ofNat_ne_ofNat,Nat.reduceEqDiff]);exact hy
     . rw [yf4]at hy ⊢;(try simp only [↓reduceIte,OfNat.ofNat_ne_ofNat,Nat.reduceEqDiff]);exact hy
     . rw [yf5]at hy ⊢;(try simp only [↓reduceIte,OfNat.ofNat_ne_ofNat,Nat.reduceEqDiff]);obtain⟨A9,n9,c9,h1,h2,h3⟩:=hy;exact⟨A9,n9,c9,h1,h2,h3.fresh hR⟩
     . rw [yf6]at hy ⊢;(try simp only [↓reduceIte,OfNat.ofNat_ne_ofNat,Nat.reduceEqDiff]);exact hy
     . rw [yf7]at hy ⊢;(try simp only [↓reduceIte,OfNat.ofNat_ne_ofNat,Nat.reduceEqDiff]);exact hy
     . exact(Qn hs (by kernel_rfl)).elim
     . exact(Qn hs (by kernel_rfl)).elim
     . exact(Qn hs (by kernel_rfl)).elim
     . exact(Qn hs (by kernel_rfl)).elim
     exact(Qn hs (by kernel_rfl)).elim
   refine Qf.cons [(8,some 26)] (by kernel_rfl) (fun xs W hw hd lst hl K hK=>?_) ?_
   . rw [cEq]at hw
     have hK':=hK.out;clear hK;simp only [Ql]at hd;obtain⟨hf8,_⟩:=hd;simp only [Qd,Act.put,List.setIfInBounds_toArray,List.set_cons_zero,List.set_cons_succ]at hK' ⊢;rw [yf8]at hf8;obtain⟨h8e,h8d⟩:=hf8;obtain⟨v8,hv8⟩:=nm_ (Jc (xs 8));rw [<-hv8]at h8e;have HV8:=hd_ hv8;clear hv8;simp only [h8e]at hK' ⊢;go_simp;exact hK' _ _ (by rw [cEq];exact hw) (Qb yM 9 (by kernel_rfl) xs W _) (by rw [yf9];(try simp only [↓reduceIte,OfNat.ofNat_ne_ofNat,Nat.reduceEqDiff]);exact HV8.out)
   refine Qf.cons [(8,some 26)] (by kernel_rfl) (fun xs W hw hd lst hl K hK=>?_) ?_
   . rw [cEq]at hw
     have hK':=hK.out;clear hK;simp only [Ql]at hd;obtain⟨hf8,_⟩:=hd;simp only [Qd,Act.put,List.setIfInBounds_toArray,List.set_cons_zero,List.set_cons_succ]at hK' ⊢;rw [yf8]at hf8;obtain⟨h8e,h8d⟩:=hf8;obtain⟨v8,hv8⟩:=nm_ (Jc (xs 8));rw [<-hv8]at h8e;have HV8:=hd_ hv8;clear hv8;simp only [h8e]at hK' ⊢;go_simp;exact hK' _ _ (by rw [cEq];exact hw) (Qb yM 10 (by kernel_rfl) xs W _) (by rw [yf10];exact if_pos rfl)
   refine Qf.cons [(9,some 27)] (by kernel_rfl) (fun xs W hw hd lst hl K hK=>?_) ?_
   . rw [cEq]at hw
     have hK':=hK.out;clear hK;simp only [Ql]at hd;obtain⟨hf9,_⟩:=hd;simp only [Qd,Act.put,List.setIfInBounds_toArray,List.set_cons_zero,List.set_cons_succ]at hK' ⊢;rw [yf9]at hf9;simp only [hf9]at hK' ⊢;go_simp;exact hK' _ _ (by rw [cEq];exact hw) (Qb yM 11 (by kernel_rfl) xs W _) (by rw [yf11];(try simp only [↓reduceIte,OfNat.ofNat_ne_ofNat,Nat.reduceEqDiff]);exact(by simp))
   refine Qf.cons [(10,some 28)] (by kernel_rfl) (fun xs W hw hd lst hl K hK=>?_) ?_
   . rw [cEq]at hw
     have hK':=hK.out;clear hK;simp only [Ql]at hd;obtain⟨hf10,_⟩:=hd;simp only [Qd,Act.put,List.setIfInBounds_toArray,List.set_cons_zero,List.set_cons_succ]at hK' ⊢;rw [yf10]at hf10;simp only [hf10]at hK' ⊢;go_simp;exact hK' _ _ (by rw [cEq];exact hw) (Qb yM 12 (by kernel_rfl) xs W _) (by rw [yf12];exact if_pos rfl)
   exact Qf.nil
 intro xs W hw hd;rw [cEq]at hw;simp only [Yd]at hd;obtain⟨fe0,fe1,fe2,fe3,fe4,fe5,fe6,fe7,fe8,fe9,fe10,fe11,fe12,_⟩:=hd;have fe0:=fe0 (by first|kernel_rfl|trivial);rw [yf0]at fe0;have fe1:=fe1 (by first|kernel_rfl|trivial);rw [yf1]at fe1;have fe2:=fe2 (by first|kernel_rfl|trivial);rw [yf2]at fe2;have fe3:=fe3 (by first|kernel_rfl|trivial);rw [yf3]at fe3;have fe4:=fe4 (by first|kernel_rfl|trivial);rw [yf4]at fe4;have fe5:=fe5 (by first|kernel_rfl|trivial);rw [yf5]at fe5;have fe6:=fe6 (by first|kernel_rfl|trivial);rw [yf6]at fe6;have fe7:=fe7 (by first|kernel_rfl|trivial);rw [yf7]at fe7;have fe8:=fe8 (by first|kernel_rfl|trivial);rw [yf8]at fe8;have fe9:=fe9 (by first|kernel_rfl|trivial);rw [yf9]at fe9;have fe10:=fe10 (by first|kernel_rfl|trivial);rw [yf10]at fe10;have fe11:=fe11 (by first|kernel_rfl|trivial);rw [yf11]at fe11;have fe12:=fe12 (by first|kernel_rfl|trivial);rw [yf12]at fe12;simp only [Qd,Act.put,List.setIfInBounds_toArray,List.set_cons_zero,List.set_cons_succ];generalize xs 0=xv0 at *;generalize xs 1=xv1 at *;generalize xs 2=xv2 at *;generalize xs 3=xv3 at *;generalize xs 4=xv4 at *;generalize xs 5=xv5 at *;generalize xs 6=xv6 at *;generalize xs 7=xv7 at *;generalize xs 8=xv8 at *;generalize xs 9=xv9 at *;generalize xs 10=xv10 at *;generalize xs 11=xv11 at *;generalize xs 12=xv12 at *;subst fe0;subst fe1;subst fe2;subst fe3;subst fe4;subst fe6;subst fe7;subst fe9;subst fe10;subst fe11;subst fe12;clear yf0 yf1 yf2 yf3 yf4 yf5 yf6 yf7 yf8 yf9 yf10 yf11 yf12 yN yR yM yP cEq;obtain⟨h8e,h8d⟩:=fe8;go_wp2_with fail;(try go_ret2);refine hR.out _ _ ⟨hw,_,rfl,h8d⟩
def Z0 (tree:List Int) (cb:List Nat) (s:Nat):Int ⊕ List Nat :=
  if Qj tree then match JL tree cb s with
    | some x=>.inr x
    | none=>.inl 14
  else .inl 12
def JT (q:Int ⊕ List Nat) (w:World) (e:Ending) (w':World):Prop :=
  Q0 w w'/\match q with
    | .inl er=>e=Qi er
    | .inr x=>KI w x e w'
theorem KK (Fk G:Nat->Prop) (g pr K0 s tn tc:Nat) (kd:Int) (TA:Option Addr) (tree:List Int) (cb:List Nat) (w:World) (hck:Qe w Fk K0 cb 0) (hrt:Rd w G TA tn (Qm tree)) (htc:tn<=tc) (htn:tn<=2^40)
   (br:Blk w pr 101 #[.pointer (some ⟨g,0,none⟩),.slice TA tn tc]) (hs:s<=131072) :
   Calls Tryz.prog 130 #[.pointer (some ⟨pr,0,none⟩),.agg #[.int .i64 kd,.bool false,.int .i64 (s:Nat)],.pointer (some ⟨K0,0,none⟩)] w (JT (Z0 tree cb s) w):=by
 have hmf:∀(fn:Fn) (first cap:Array Value) (w:World),(Instr.makeFunc fn first cap).run Tryz.prog w = .ok (.func fn first cap) w:=fun _ _ _ _=>rfl;obtain⟨w0,hw0⟩:=nm_ (((w.alloc (.cells #[.pointer (some ⟨pr,0,none⟩)] 99)).alloc (.cells #[.int .i64 kd,.bool false,.int .i64 (s:Nat)] 41)).alloc (.cells #[.pointer (some ⟨K0,0,none⟩)] 46));obtain⟨H,hH⟩:=nm_ (w.heap.size);(have f0:Q0 w w0:=by rw [hw0];exact(((Upd.refl _ _).alloc _).alloc _).alloc _);(have ba:Blk w0 H 99 #[.pointer (some ⟨pr,0,none⟩)]:=by rw [hw0];exact((Qc hH _ _).alloc _).alloc _);(have bb:Blk w0 (H+1) 41 #[.int .i64 kd,.bool false,.int .i64 (s:Nat)]:=by rw [hw0];exact(Qc (by simp [hH]) _ _).alloc _);(have bc:Blk w0 (H+1+1) 46 #[.pointer (some ⟨K0,0,none⟩)]:=by rw [hw0];exact Qc (by simp [hH]) _ _);have HCK:=hd_ (Z8 G TA tn tc tree w0 (hrt.fresh f0) htn htc);have HT1:=hd_ (fun(ht:Qj tree) W (hW:Q0 w0 W)=>Xw Fk G g pr H (H+1) (H+1+1) K0 s tn tc kd TA tree cb W ((hck.fresh f0).fresh hW) ((hrt.fresh f0).fresh hW) htc htn ht ((br.fresh f0).fresh hW) (ba.fresh hW) (bb.fresh hW) (bc.fresh hW) hs);have x0:=ba.cell 0;have x1:=(br.fresh f0).cell 1;simp at x0 x1;have F0:=hd_ f0;have HW:=hd_ hw0;have HH:=hd_ hH;(have hsz1:(w.alloc (.cells #[.pointer (some ⟨pr,0,none⟩)] 99)).heap.size=H+1:=by simp [hH]);(have hsz2:((w.alloc (.cells #[.pointer (some ⟨pr,0,none⟩)] 99)).alloc (.cells #[.int .i64 kd,.bool false,.int .i64 (s:Nat)] 41)).heap.size=H+1+1:=by simp [hH]);clear hck hrt htc htn br hs hw0 hH f0 ba bb bc;refine Qg fun R hR=>?_;unfold JT Z0 at hR;go_enter Tryz.func130,Tryz.ntmps130;go_upto_region 1 with fail;simp only [hsz1,hsz2,<-HH.out,<-HW.out];clear hsz1 hsz2;by_cases ht:Qj tree
 . have HT2:=hd_ (HT1.out ht)
   simp only [if_pos ht]at HCK hR;clear ht HT1;go_wp2_with fail;refine HCK.out.mono ?_;rintro e w1 ⟨rfl,f1⟩;have F1:=hd_ f1;clear f1 HCK;go_wp2_with fail;refine(QQ _ _ _ (by simpa using(Blk.new w1 24 #[.int .i64 0]).cell 0)).mono ?_;rintro e w2 ⟨rfl,hw2⟩;have f12:Q0 w0 w2:=F1.out.trans' (by rw [hw2];exact(Upd.refl _ _).alloc _);have H3:=hd_ (HT2.out w2 f12);have F2:=hd_ (F0.out.trans' f12);clear hw2 f12 HT2
   cases ho:JL tree cb s with
   | none =>
     simp only [ho,if_true]at H3 hR
     have HL:=hd_ (Vp 182 #[.pointer (some ⟨H+1,0,none⟩),.pointer (some ⟨H,0,none⟩),.pointer (some ⟨H+1+1,0,none⟩)] 14 w2 (fun _ _=>rfl) (fun w'=>Q0 w2 w') (by decide)
       (H3.out.mono fun e w' h=>by obtain⟨h1,v,h2,_⟩:=h;exact⟨v,h2,h1⟩))
     clear H3 ho;go_wp2_with fail;refine HL.out.mono ?_;rintro e w4 ⟨w3,rfl,f3,f4⟩;simp only [Qi];exact⟨rfl,hR.out _ _ ⟨(F2.out.trans' f3).trans' f4,rfl⟩⟩
   | some x =>
     simp only [ho,reduceCtorEq,if_false]at H3 hR
     have HL:=hd_ (Vo 182 #[.pointer (some ⟨H+1,0,none⟩),.pointer (some ⟨H,0,none⟩),.pointer (some ⟨H+1+1,0,none⟩)] w2 (fun _ _=>rfl) (fun v w'=>Q0 w2 w'/\DV (some x) w2 v w')
       (H3.out.mono fun e w' h=>by obtain⟨h1,v,h2,h3⟩:=h;exact⟨v,h2,h1,h3⟩))
     clear H3 ho;go_wp2_with fail;refine HL.out.mono ?_;rintro e w4 ⟨v,w3,rfl,⟨f3,A,n,c,rfl,hc,hr⟩,f4⟩;have HV:=hd_ (show KI w x (.returned (.slice A n c)) w4 from⟨A,n,c,rfl,hc,(hr.mono fun b hb=>by have:=F2.out.size;omega).fresh f4⟩);have F4:=hd_ ((F2.out.trans' f3).trans' f4);clear f3 hc hr f4 HL;go_wp2_with fail;(try go_ret);exact hR.out _ _ ⟨F4.out,HV.out⟩
 simp only [if_neg ht]at HCK hR;clear ht HT1;go_wp2_with fail;refine HCK.out.mono ?_;rintro e w1 ⟨rfl,f1⟩;have F1:=hd_ (F0.out.trans' f1);clear f1 HCK;go_wp2_with fail;refine(Yw 12 _ _ _ (by simpa using(Blk.new w1 24 #[.int .i64 12]).cell 0) (by decide)).mono ?_;rintro e w2 ⟨rfl,hw2⟩;simp only [Qi];exact⟨rfl,hR.out _ _ ⟨by rw [hw2];exact F1.out.alloc _,rfl⟩⟩
def Zi (tree:List Int) (bs:List Nat) (at_ s:Nat):Int ⊕ (List Nat × Nat) :=
  match Zh (bs.drop at_)with
  | .inl er=>.inl er
  | .inr (u,m)=>match Z0 tree ((bs.drop (at_+u)).take m) s with
    | .inl er=>.inl er
    | .inr x=>.inr (x,at_+u+m)
theorem Q0A (F G:Nat->Prop) (g pr s tn tc:Nat) (kd:Int) (TA:Option Addr) (tree:List Int) (bs:List Nat) (at_:Nat) (er:Int) (w:World) (hcu:Qe w F g bs at_) (hF:∀b,F b->b≠g) (hG:∀b,G b->b≠g)
   (br:Blk w pr 101 #[.pointer (some ⟨g,0,none⟩),.slice TA tn tc]) (hpg:pr≠g) (hrt:Rd w G TA tn (Qm tree)) (htc:tn<=tc) (htn:tn<=2^40) (hs:s<=131072) (hp:Zh (bs.drop at_) = .inl er) :
   Calls Tryz.prog 71 #[.pointer (some ⟨pr,0,none⟩),.agg #[.int .i64 kd,.bool false,.int .i64 (s:Nat)]] w (QF F g bs (.inl er) w):=by
 obtain⟨w1,hw1⟩:=nm_ (w.alloc (.cells #[.int .i64 kd,.bool false,.int .i64 (s:Nat)] 41));obtain⟨H,hH⟩:=nm_ (w.heap.size);(have f0:Q0 w w1:=by rw [hw1];exact(Upd.refl _ _).alloc _);(have b0:Blk w1 H 41 #[.int .i64 kd,.bool false,.int .i64 (s:Nat)]:=by rw [hw1];exact Qc hH _ _);(have hHg:H≠g:=by have:=hcu.lt;omega);have HCB:=hd_ (show ∀W,Upd (fun b=>b=g) w1 W->W.cell? ⟨H,0,none⟩=some (.int .i64 kd)/\W.cell? ⟨H,1,none⟩=some (.bool false)/\W.cell? ⟨H,2,none⟩=some (.int .i64 (s:Nat))from fun W hW=>⟨by simpa using(b0.upd hW hHg).cell 0,by simpa using(b0.upd hW hHg).cell 1,by simpa using(b0.upd hW hHg).cell 2⟩)
 have HPT:=hd_ (fun W (hW:Upd (fun b=>b=g) w1 W) (hc:Qe W F g bs at_)=>(ZG F g pr (.slice TA tn tc) bs at_ W hc hF ((br.fresh f0).upd hW hpg) hpg).mono fun e w' h=>(show Upd (fun b=>b=g) W w'/\e=Qi er from by
   unfold JK at h;rw [hp]at h;exact h))
 have HCU:=hd_ (hcu.fresh f0);have U1:=hd_ (f0.mono (T:=fun b=>b=g) (fun _ _ h=>h.elim));have HH:=hd_ hH;have HW:=hd_ hw1;clear hcu hF br hpg hs hw1 hH f0 b0 hHg hp hG hrt htc htn;refine Qg fun R hR0=>?_;unfold QF at hR0;simp only at hR0;have hR:=hd_ (show ∀(e:Ending) w',Upd (fun b=>b=g) w w'->R (Qi er) w' from fun e w' h=>hR0.out _ _ ⟨h,rfl⟩);clear hR0;go_enter Tryz.func71,Tryz.ntmps71;go_upto_region 1 with fail;simp only [<-HH.out,<-HW.out];obtain⟨Cw,cEq⟩:=exC (fun W=>Upd (fun b=>b=g) w1 W);obtain⟨Y,yA⟩:=exY [fun xs W=>(xs 0) = .pointer (some ⟨pr,0,none⟩),fun xs W=>(xs 1) = .agg #[.int .i64 kd,.bool false,.int .i64 (s:Nat)],fun xs W=>(xs 2) = .pointer (some ⟨pr,0,none⟩),fun xs W=>False,fun xs W=>False,fun xs W=>False,fun xs W=>Qe W F g bs at_];have yf0:=yA 0;have yf1:=yA 1;have yf2:=yA 2;have yf3:=yA 3;have yf4:=yA 4;have yf5:=yA 5;have yf6:=yA 6;simp only [List.getD_cons_zero,List.getD_cons_succ]at yf0 yf1 yf2 yf3 yf4 yf5 yf6;(have yN:∀j xs W,7<=j->Y j xs W=True:=fun j xs W hj=>by rw [yA,QR _ _ _ hj])
 have yP:∀j xs W W',j∈[0,1,2,3,4,5]->Y j xs W->Y j xs W':=by
   intro j xs W W' hj hy;simp only [List.mem_cons,List.not_mem_nil,or_false]at hj;rcases hj with rfl|rfl|rfl|rfl|rfl|rfl
   . rw [yf0]at hy ⊢;exact hy
   . rw [yf1]at hy ⊢;exact hy
   . rw [yf2]at hy ⊢;exact hy
   . rw [yf3]at hy ⊢;exact hy
   . rw [yf4]at hy ⊢;exact hy
   rw [yf5]at hy ⊢;exact hy
 have yM:YA [[0],[1],[2],[],[],[],[]] Y:=by
   intro j xs xs' W hh hy;by_cases hj:7<=j
   . rw [yN j _ _ hj];trivial
   (have hj':j=0\/j=1\/j=2\/j=3\/j=4\/j=5\/j=6:=by omega);rcases hj' with rfl|rfl|rfl|rfl|rfl|rfl|rfl
   . rw [yf0]at hy ⊢;rw [<-hh 0 (by decide)];exact hy
   . rw [yf1]at hy ⊢;rw [<-hh 1 (by decide)];exact hy
   . rw [yf2]at hy ⊢;rw [<-hh 2 (by decide)];exact hy
   . rw [yf3]at hy ⊢;exact hy
   . rw [yf4]at hy ⊢;exact hy
   . rw [yf5]at hy ⊢;exact hy
   rw [yf6]at hy ⊢;exact hy
 clear yA
 have yR:∀j xs,6<=j->Y j xs (w1.drew):=by
   intro j xs hj;rcases(show j=6\/7<=j by omega)with rfl|hj
   . rw [yf6];exact HCU.out
   rw [yN _ _ _ hj];trivial
 refine YN (PP:=fun ch W=>ch=[{ v:=.iface 24 (.int .i64 er),recovered:=false }]/\Upd (fun b=>b=g) w1 W) Cw (fun j=>if j=6 then [3]else []) Y [(0,some 5),(1,some 6),(2,some 7),(3,some 8),(4,some 9),(5,some 4)] (by kernel_rfl) (by kernel_rfl) (by kernel_rfl) (by rw [cEq];exact(Upd.refl _ _).drew) (fun j hj=>yR j _ hj) ?_ ?_ (fun ch a W hd h=>by obtain⟨rfl,h2⟩:=h;exact⟨hd,hR.out (Qi er) _ (U1.out.trans' h2)⟩)
 . refine Qf.cons [] (by kernel_rfl) (fun xs W hw hd lst hl K hK=>?_) ?_
   . rw [cEq]at hw
     have hK':=hK.out;clear hK;simp only [Qd,Act.put,List.setIfInBounds_toArray,List.set_cons_zero,List.set_cons_succ]at hK' ⊢;go_simp;exact hK' _ _ (by rw [cEq];exact hw) (Qb yM 0 (by kernel_rfl) xs W _) (by rw [yf0];exact if_pos rfl)
   refine Qf.cons [] (by kernel_rfl) (fun xs W hw hd lst hl K hK=>?_) ?_
   . rw [cEq]at hw
     have hK':=hK.out;clear hK;simp only [Qd,Act.put,List.setIfInBounds_toArray,List.set_cons_zero,List.set_cons_succ]at hK' ⊢;have cl:=HCB.out W hw;obtain⟨cl0,cl1,cl2⟩:=cl;go_simp;exact hK' _ _ (by rw [cEq];exact hw) (Qb yM 1 (by kernel_rfl) xs W _) (by rw [yf1];exact if_pos rfl)
   refine Qf.cons [] (by kernel_rfl) (fun xs W hw hd lst hl K hK=>?_) ?_
   . rw [cEq]at hw
     have hK':=hK.out;clear hK;simp only [Qd,Act.put,List.setIfInBounds_toArray,List.set_cons_zero,List.set_cons_succ]at hK' ⊢;go_simp;exact hK' _ _ (by rw [cEq];exact hw) (Qb yM 2 (by kernel_rfl) xs W _) (by rw [yf2];exact if_pos rfl)
   refine Qf.cons [(2,some 7),(6,none)] (by kernel_rfl) (fun xs W hw hd lst hl K hK=>?_) ?_
   . rw [cEq]at hw
     have hK':=hK.out;clear hK;simp only [Ql]at hd;obtain⟨hf2,hf6,_⟩:=hd;simp only [Qd,Act.put,List.setIfInBounds_toArray,List.set_cons_zero,List.set_cons_succ]at hK' ⊢;rw [yf2]at hf2;rw [yf6]at hf6;simp only [hf2]at hK' ⊢;go_simp;refine(HPT.out W hw hf6).mono ?_;rintro e9 w9 ⟨u9,rfl⟩;simp only [Qi];exact⟨rfl,hw.trans' u9⟩
   refine Qf.cons [(0,some 5),(1,some 6),(3,some 8)] (by kernel_rfl) (fun xs W hw hd lst hl K hK=>?_) ?_
   . rw [cEq]at hw
     have hK':=hK.out;clear hK;simp only [Ql]at hd;obtain⟨hf0,hf1,hf3,_⟩:=hd;simp only [Qd,Act.put,List.setIfInBounds_toArray,List.set_cons_zero,List.set_cons_succ]at hK' ⊢;rw [yf0]at hf0;rw [yf1]at hf1;rw [yf3]at hf3;simp only [hf0,hf1]at hK' ⊢;exact hf3.elim
   refine Qf.cons [(4,some 9)] (by kernel_rfl) (fun xs W hw hd lst hl K hK=>?_) ?_
   . rw [cEq]at hw
     have hK':=hK.out;clear hK;simp only [Ql]at hd;obtain⟨hf4,_⟩:=hd;simp only [Qd,Act.put,List.setIfInBounds_toArray,List.set_cons_zero,List.set_cons_succ]at hK' ⊢;rw [yf4]at hf4;exact hf4.elim
   exact Qf.nil
 intro xs W hw hd;rw [cEq]at hw;simp only [Yd]at hd;obtain⟨fe0,fe1,fe2,fe3,fe4,fe5,_⟩:=hd;have fe0:=fe0 (by first|kernel_rfl|trivial);rw [yf0]at fe0;have fe1:=fe1 (by first|kernel_rfl|trivial);rw [yf1]at fe1;have fe2:=fe2 (by first|kernel_rfl|trivial);rw [yf2]at fe2;have fe3:=fe3 (by first|kernel_rfl|trivial);rw [yf3]at fe3;have fe4:=fe4 (by first|kernel_rfl|trivial);rw [yf4]at fe4;have fe5:=fe5 (by first|kernel_rfl|trivial);rw [yf5]at fe5;simp only [Qd,Act.put,List.setIfInBounds_toArray,List.set_cons_zero,List.set_cons_succ];generalize xs 0=xv0 at *;generalize xs 1=xv1 at *;generalize xs 2=xv2 at *;generalize xs 3=xv3 at *;generalize xs 4=xv4 at *;generalize xs 5=xv5 at *;subst fe0;subst fe1;subst fe2;clear yf0 yf1 yf2 yf3 yf4 yf5 yf6 yN yR yM yP cEq;exact fe5.elim
theorem Q0B (F G:Nat->Prop) (g pr s tn tc:Nat) (kd:Int) (TA:Option Addr) (tree:List Int) (bs:List Nat) (at_:Nat) (er:Int) (w:World) (hcu:Qe w F g bs at_) (hF:∀b,F b->b≠g) (hG:∀b,G b->b≠g)
   (br:Blk w pr 101 #[.pointer (some ⟨g,0,none⟩),.slice TA tn tc]) (hpg:pr≠g) (hrt:Rd w G TA tn (Qm tree)) (htc:tn<=tc) (htn:tn<=2^40) (hs:s<=131072) (u0 m:Nat) (hp:Zh (bs.drop at_) = .inr (u0,m)) (htd:Z0 tree ((bs.drop (at_+u0)).take m) s = .inl er) :
   Calls Tryz.prog 71 #[.pointer (some ⟨pr,0,none⟩),.agg #[.int .i64 kd,.bool false,.int .i64 (s:Nat)]] w (QF F g bs (.inl er) w):=by
 obtain⟨w1,hw1⟩:=nm_ (w.alloc (.cells #[.int .i64 kd,.bool false,.int .i64 (s:Nat)] 41));obtain⟨H,hH⟩:=nm_ (w.heap.size);(have f0:Q0 w w1:=by rw [hw1];exact(Upd.refl _ _).alloc _);(have b0:Blk w1 H 41 #[.int .i64 kd,.bool false,.int .i64 (s:Nat)]:=by rw [hw1];exact Qc hH _ _);(have hHg:H≠g:=by have:=hcu.lt;omega);have HCB:=hd_ (show ∀W,Upd (fun b=>b=g) w1 W->W.cell? ⟨H,0,none⟩=some (.int .i64 kd)/\W.cell? ⟨H,1,none⟩=some (.bool false)/\W.cell? ⟨H,2,none⟩=some (.int .i64 (s:Nat))from fun W hW=>⟨by simpa using(b0.upd hW hHg).cell 0,by simpa using(b0.upd hW hHg).cell 1,by simpa using(b0.upd hW hHg).cell 2⟩);obtain⟨cb,hcb⟩:=nm_ ((bs.drop (at_+u0)).take m);obtain⟨u,hu⟩:=nm_ (at_+u0+m);rw [<-hcb]at htd
 have HPT:=hd_ (fun W (hW:Upd (fun b=>b=g) w1 W) (hc:Qe W F g bs at_)=>(ZG F g pr (.slice TA tn tc) bs at_ W hc hF ((br.fresh f0).upd hW hpg) hpg).mono fun e w' h=>(show Upd (fun b=>b=g) W w'/\∃K,e = .returned (.pointer (some ⟨K,0,none⟩))/\W.heap.size<=K/\Qe w' (fun b=>W.heap.size<=b/\b≠K) K cb 0/\Qe w' F g bs u from by
   unfold JK at h;rw [hp]at h;rw [hcb,hu];exact h))
 have HTD:=hd_ (fun W (hW:Upd (fun b=>b=g) w1 W) K (hK:w1.heap.size<=K) (hc:Qe W (fun b=>w1.heap.size<=b/\b≠K) K cb 0)=>(KK _ G g pr K s tn tc kd TA tree cb W hc ((hrt.fresh f0).upd hW (fun b _ hb e=>hG b hb e)) htc htn ((br.fresh f0).upd hW hpg) hs).mono fun e w' h=>(show Q0 W w'/\e=Qi er from by
   unfold JT at h;rw [htd]at h;exact h))
 have HCU:=hd_ (hcu.fresh f0);have U1:=hd_ (f0.mono (T:=fun b=>b=g) (fun _ _ h=>h.elim));have HH:=hd_ hH;have HW:=hd_ hw1;clear hcu hF br hpg hs hw1 hH f0 b0 hHg hp hG hrt htc htn htd hcb hu;refine Qg fun R hR0=>?_;unfold QF at hR0;simp only at hR0;have hR:=hd_ (show ∀(e:Ending) w',Upd (fun b=>b=g) w w'->R (Qi er) w' from fun e w' h=>hR0.out _ _ ⟨h,rfl⟩);clear hR0;go_enter Tryz.func71,Tryz.ntmps71;go_upto_region 1 with fail;simp only [<-HH.out,<-HW.out];obtain⟨Cw,cEq⟩:=exC (fun W=>Upd (fun b=>b=g) w1 W);obtain⟨Y,yA⟩:=exY [fun xs W=>(xs 0) = .pointer (some ⟨pr,0,none⟩),fun xs W=>(xs 1) = .agg #[.int .i64 kd,.bool false,.int .i64 (s:Nat)],fun xs W=>(xs 2) = .pointer (some ⟨pr,0,none⟩),fun xs W=>∃K,(xs 3) = .pointer (some ⟨K,0,none⟩)/\w1.heap.size<=K/\Qe W (fun b=>w1.heap.size<=b/\b≠K) K cb 0/\Qe W F g bs u,fun xs W=>False,fun xs W=>False,fun xs W=>Qe W F g bs at_];have yf0:=yA 0;have yf1:=yA 1;have yf2:=yA 2;have yf3:=yA 3;have yf4:=yA 4;have yf5:=yA 5;have yf6:=yA 6;simp only [List.getD_cons_zero,List.getD_cons_succ]at yf0 yf1 yf2 yf3 yf4 yf5 yf6;(have yN:∀j xs W,7<=j->Y j xs W=True:=fun j xs W hj=>by rw [yA,QR _ _ _ hj])
 have yP:∀j xs W W',j∈[0,1,2,4,5]->Y j xs W->Y j xs W':=by
   intro j xs W W' hj hy;simp only [List.mem_cons,List.not_mem_nil,or_false]at hj;rcases hj with rfl|rfl|rfl|rfl|rfl
   . rw [yf0]at hy ⊢;exact hy
   . rw [yf1]at hy ⊢;exact hy
   . rw [yf2]at hy ⊢;exact hy
   . rw [yf4]at hy ⊢;exact hy
   rw [yf5]at hy ⊢;exact hy
 have yM:YA [[0],[1],[2],[3],[],[],[]] Y:=by
   intro j xs xs' W hh hy;by_cases hj:7<=j
   . rw [yN j _ _ hj];trivial
   (have hj':j=0\/j=1\/j=2\/j=3\/j=4\/j=5\/j=6:=by omega);rcases hj' with rfl|rfl|rfl|rfl|rfl|rfl|rfl
   . rw [yf0]at hy ⊢;rw [<-hh 0 (by decide)];exact hy
   . rw [yf1]at hy ⊢;rw [<-hh 1 (by decide)];exact hy
   . rw [yf2]at hy ⊢;rw [<-hh 2 (by decide)];exact hy
   . rw [yf3]at hy ⊢;rw [<-hh 3 (by decide)];exact hy
   . rw [yf4]at hy ⊢;exact hy
   . rw [yf5]at hy ⊢;exact hy
   rw [yf6]at hy ⊢;exact hy
 clear yA
 have yR:∀j xs,6<=j->Y j xs (w1.drew):=by
   intro j xs hj;rcases(show j=6\/7<=j by omega)with rfl|hj
   . rw [yf6];exact HCU.out
   rw [yN _ _ _ hj];trivial
 refine YN (PP:=fun ch W=>ch=[{ v:=.iface 24 (.int .i64 er),recovered:=false }]/\Upd (fun b=>b=g) w1 W) Cw (fun j=>if j=6 then [3]else []) Y [(0,some 5),(1,some 6),(2,some 7),(3,some 8),(4,some 9),(5,some 4)] (by kernel_rfl) (by kernel_rfl) (by kernel_rfl) (by rw [cEq];exact(Upd.refl _ _).drew) (fun j hj=>yR j _ hj) ?_ ?_ (fun ch a W hd h=>by obtain⟨rfl,h2⟩:=h;exact⟨hd,hR.out (Qi er) _ (U1.out.trans' h2)⟩)
 . refine Qf.cons [] (by kernel_rfl) (fun xs W hw hd lst hl K hK=>?_) ?_
   . rw [cEq]at hw
     have hK':=hK.out;clear hK;simp only [Qd,Act.put,List.setIfInBounds_toArray,List.set_cons_zero,List.set_cons_succ]at hK' ⊢;go_simp;exact hK' _ _ (by rw [cEq];exact hw) (Qb yM 0 (by kernel_rfl) xs W _) (by rw [yf0];exact if_pos rfl)
   refine Qf.cons [] (by kernel_rfl) (fun xs W hw hd lst hl K hK=>?_) ?_
   . rw [cEq]at hw
     have hK':=hK.out;clear hK;simp only [Qd,Act.put,List.setIfInBounds_toArray,List.set_cons_zero,List.set_cons_succ]at hK' ⊢;have cl:=HCB.out W hw;obtain⟨cl0,cl1,cl2⟩:=cl;go_simp;exact hK' _ _ (by rw [cEq];exact hw) (Qb yM 1 (by kernel_rfl) xs W _) (by rw [yf1];exact if_pos rfl)
   refine Qf.cons [] (by kernel_rfl) (fun xs W hw hd lst hl K hK=>?_) ?_
   . rw [cEq]at hw
     have hK':=hK.out;clear hK;simp only [Qd,Act.put,List.setIfInBounds_toArray,List.set_cons_zero,List.set_cons_succ]at hK' ⊢;go_simp;exact hK' _ _ (by rw [cEq];exact hw) (Qb yM 2 (by kernel_rfl) xs W _) (by rw [yf2];exact if_pos rfl)
   refine Qf.cons [(2,some 7),(6,none)] (by kernel_rfl) (fun xs W hw hd lst hl K hK=>?_) ?_
   . rw [cEq]at hw
     have hK':=hK.out;clear hK;simp only [Ql]at hd;obtain⟨hf2,hf6,_⟩:=hd;simp only [Qd,Act.put,List.setIfInBounds_toArray,List.set_cons_zero,List.set_cons_succ]at hK' ⊢;rw [yf2]at hf2;rw [yf6]at hf6;simp only [hf2]at hK' ⊢;have hsz:=hw.size;go_simp;refine(HPT.out W hw hf6).mono ?_;rintro e9 w9 ⟨u9,K9,rfl,hK9,c9,d9⟩;have hR:=u9;refine hK' (_) (w9) (by rw [cEq];exact hw.trans' u9) (QG yM 3 (by kernel_rfl) _ fun j hs hy=>?_) (by rw [yf3];(try simp only [↓reduceIte]);try exact⟨K9,rfl,by omega,c9.mono fun b hb=>⟨by have:=hb.1;omega,hb.2⟩,d9⟩);by_cases hp:j∈[0,1,2,4,5]
     . exact yP j _ _ _ hp hy
     by_cases hj:7<=j
     . rw [yN j _ _ hj];trivial
     simp only [List.mem_cons,List.not_mem_nil,or_false]at hp;rcases(show j=3\/j=6 by omega)with rfl|rfl
     . exact(Qn hs (by kernel_rfl)).elim
     exact(Qn hs (by kernel_rfl)).elim
   refine Qf.cons [(0,some 5),(1,some 6),(3,some 8)] (by kernel_rfl) (fun xs W hw hd lst hl K hK=>?_) ?_
   . rw [cEq]at hw
     have hK':=hK.out;clear hK;simp only [Ql]at hd;obtain⟨hf0,hf1,hf3,_⟩:=hd;simp only [Qd,Act.put,List.setIfInBounds_toArray,List.set_cons_zero,List.set_cons_succ]at hK' ⊢;rw [yf0]at hf0;rw [yf1]at hf1;rw [yf3]at hf3;simp only [hf0,hf1]at hK' ⊢;obtain⟨K3,h3e,hK3,c3,d3⟩:=hf3;simp only [h3e]at hK' ⊢;have hsz:=hw.size;go_simp;refine(HTD.out W hw K3 hK3 c3).mono ?_;rintro e9 w9 ⟨f9,rfl⟩;simp only [Qi];exact⟨rfl,hw.trans f9 (fun _ _ h=>h.elim)⟩
   refine Qf.cons [(4,some 9)] (by kernel_rfl) (fun xs W hw hd lst hl K hK=>?_) ?_
   . rw [cEq]at hw
     have hK':=hK.out;clear hK;simp only [Ql]at hd;obtain⟨hf4,_⟩:=hd;simp only [Qd,Act.put,List.setIfInBounds_toArray,List.set_cons_zero,List.set_cons_succ]at hK' ⊢;rw [yf4]at hf4;exact hf4.elim
   exact Qf.nil
 intro xs W hw hd;rw [cEq]at hw;simp only [Yd]at hd;obtain⟨fe0,fe1,fe2,fe3,fe4,fe5,_⟩:=hd;have fe0:=fe0 (by first|kernel_rfl|trivial);rw [yf0]at fe0;have fe1:=fe1 (by first|kernel_rfl|trivial);rw [yf1]at fe1;have fe2:=fe2 (by first|kernel_rfl|trivial);rw [yf2]at fe2;have fe3:=fe3 (by first|kernel_rfl|trivial);rw [yf3]at fe3;have fe4:=fe4 (by first|kernel_rfl|trivial);rw [yf4]at fe4;have fe5:=fe5 (by first|kernel_rfl|trivial);rw [yf5]at fe5;simp only [Qd,Act.put,List.setIfInBounds_toArray,List.set_cons_zero,List.set_cons_succ];generalize xs 0=xv0 at *;generalize xs 1=xv1 at *;generalize xs 2=xv2 at *;generalize xs 3=xv3 at *;generalize xs 4=xv4 at *;generalize xs 5=xv5 at *;subst fe0;subst fe1;subst fe2;clear yf0 yf1 yf2 yf3 yf4 yf5 yf6 yN yR yM yP cEq;exact fe5.elim
theorem Q2M (F G:Nat->Prop) (g pr s tn tc:Nat) (kd:Int) (TA:Option Addr) (tree:List Int) (bs:List Nat) (at_:Nat) (w:World) (hcu:Qe w F g bs at_) (hF:∀b,F b->b≠g) (hG:∀b,G b->b≠g)
   (br:Blk w pr 101 #[.pointer (some ⟨g,0,none⟩),.slice TA tn tc]) (hpg:pr≠g) (hrt:Rd w G TA tn (Qm tree)) (htc:tn<=tc) (htn:tn<=2^40) (hs:s<=131072) (u0 m:Nat) (x:List Nat) (hp:Zh (bs.drop at_) = .inr (u0,m)) (htd:Z0 tree ((bs.drop (at_+u0)).take m) s = .inr x) :
   Calls Tryz.prog 71 #[.pointer (some ⟨pr,0,none⟩),.agg #[.int .i64 kd,.bool false,.int .i64 (s:Nat)]] w (QF F g bs (.inr (x,at_+u0+m)) w):=by
 obtain⟨w1,hw1⟩:=nm_ (w.alloc (.cells #[.int .i64 kd,.bool false,.int .i64 (s:Nat)] 41));obtain⟨H,hH⟩:=nm_ (w.heap.size);(have f0:Q0 w w1:=by rw [hw1];exact(Upd.refl _ _).alloc _);(have b0:Blk w1 H 41 #[.int .i64 kd,.bool false,.int .i64 (s:Nat)]:=by rw [hw1];exact Qc hH _ _);(have hHg:H≠g:=by have:=hcu.lt;omega);have HCB:=hd_ (show ∀W,Upd (fun b=>b=g) w1 W->W.cell? ⟨H,0,none⟩=some (.int .i64 kd)/\W.cell? ⟨H,1,none⟩=some (.bool false)/\W.cell? ⟨H,2,none⟩=some (.int .i64 (s:Nat))from fun W hW=>⟨by simpa using(b0.upd hW hHg).cell 0,by simpa using(b0.upd hW hHg).cell 1,by simpa using(b0.upd hW hHg).cell 2⟩);obtain⟨cb,hcb⟩:=nm_ ((bs.drop (at_+u0)).take m);obtain⟨u,hu⟩:=nm_ (at_+u0+m);rw [<-hcb]at htd
 have HPT:=hd_ (fun W (hW:Upd (fun b=>b=g) w1 W) (hc:Qe W F g bs at_)=>(ZG F g pr (.slice TA tn tc) bs at_ W hc hF ((br.fresh f0).upd hW hpg) hpg).mono fun e w' h=>(show Upd (fun b=>b=g) W w'/\∃K,e = .returned (.pointer (some ⟨K,0,none⟩))/\W.heap.size<=K/\Qe w' (fun b=>W.heap.size<=b/\b≠K) K cb 0/\Qe w' F g bs u from by
   unfold JK at h;rw [hp]at h;rw [hcb,hu];exact h))
 have HTD:=hd_ (fun W (hW:Upd (fun b=>b=g) w1 W) K (hK:w1.heap.size<=K) (hc:Qe W (fun b=>w1.heap.size<=b/\b≠K) K cb 0)=>(KK _ G g pr K s tn tc kd TA tree cb W hc ((hrt.fresh f0).upd hW (fun b _ hb e=>hG b hb e)) htc htn ((br.fresh f0).upd hW hpg) hs).mono fun e w' h=>(show Q0 W w'/\∃A n c,e = .returned (.slice A n c)/\n<=c/\Rd w' (fun b=>W.heap.size<=b) A n (Qa x)from by
   unfold JT at h;rw [htd]at h;exact h))
 have HCU:=hd_ (hcu.fresh f0);have U1:=hd_ (f0.mono (T:=fun b=>b=g) (fun _ _ h=>h.elim));have HH:=hd_ hH;have HW:=hd_ hw1;rw [<-hu];clear hcu hF br hpg hs hw1 hH f0 b0 hHg hp hG hrt htc htn htd hcb hu;refine Qg fun R hR0=>?_;unfold QF at hR0;simp only at hR0;have hR:=hR0;clear hR0;go_enter Tryz.func71,Tryz.ntmps71;go_upto_region 1 with fail;simp only [<-HH.out,<-HW.out];obtain⟨Cw,cEq⟩:=exC (fun W=>Upd (fun b=>b=g) w1 W);obtain⟨Y,yA⟩:=exY [fun xs W=>(xs 0) = .pointer (some ⟨pr,0,none⟩),fun xs W=>(xs 1) = .agg #[.int .i64 kd,.bool false,.int .i64 (s:Nat)],fun xs W=>(xs 2) = .pointer (some ⟨pr,0,none⟩),fun xs W=>∃K,(xs 3) = .pointer (some ⟨K,0,none⟩)/\w1.heap.size<=K/\Qe W (fun b=>w1.heap.size<=b/\b≠K) K cb 0/\Qe W F g bs u,fun xs W=>∃A n c,(xs 4) = .slice A n c/\n<=c/\Rd W (fun b=>w1.heap.size<=b) A n (Qa x)/\Qe W F g bs u,fun xs W=>(xs 5)=(xs 4),fun xs W=>Qe W F g bs at_];have yf0:=yA 0;have yf1:=yA 1;have yf2:=yA 2;have yf3:=yA 3;have yf4:=yA 4;have yf5:=yA 5;have yf6:=yA 6;simp only [List.getD_cons_zero,List.getD_cons_succ]at yf0 yf1 yf2 yf3 yf4 yf5 yf6;(have yN:∀j xs W,7<=j->Y j xs W=True:=fun j xs W hj=>by rw [yA,QR _ _ _ hj])
 have yP:∀j xs W W',j∈[0,1,2,5]->Y j xs W->Y j xs W':=by
   intro j xs W W' hj hy;simp only [List.mem_cons,List.not_mem_nil,or_false]at hj;rcases hj with rfl|rfl|rfl|rfl
   . rw [yf0]at hy ⊢;exact hy
   . rw [yf1]at hy ⊢;exact hy
   . rw [yf2]at hy ⊢;exact hy
   rw [yf5]at hy ⊢;exact hy
 have yM:YA [[0],[1],[2],[3],[4],[5,4],[]] Y:=by
   intro j xs xs' W hh hy;by_cases hj:7<=j
   . rw [yN j _ _ hj];trivial
   (have hj':j=0\/j=1\/j=2\/j=3\/j=4\/j=5\/j=6:=by omega);rcases hj' with rfl|rfl|rfl|rfl|rfl|rfl|rfl
   . rw [yf0]at hy ⊢;rw [<-hh 0 (by decide)];exact hy
   . rw [yf1]at hy ⊢;rw [<-hh 1 (by decide)];exact hy
   . rw [yf2]at hy ⊢;rw [<-hh 2 (by decide)];exact hy
   . rw [yf3]at hy ⊢;rw [<-hh 3 (by decide)];exact hy
   . rw [yf4]at hy ⊢;rw [<-hh 4 (by decide)];exact hy
   . rw [yf5]at hy ⊢;rw [<-hh 5 (by decide),<-hh 4 (by decide)];exact hy
   rw [yf6]at hy ⊢;exact hy
 clear yA
 have yR:∀j xs,6<=j->Y j xs (w1.drew):=by
   intro j xs hj;rcases(show j=6\/7<=j by omega)with rfl|hj
   . rw [yf6];exact HCU.out
   rw [yN _ _ _ hj];trivial
 refine QK Cw (fun j=>if j=6 then [3]else []) Y [(0,some 5),(1,some 6),(2,some 7),(3,some 8),(4,some 9),(5,some 4)] (by kernel_rfl) (by kernel_rfl) (by kernel_rfl) (by rw [cEq];exact(Upd.refl _ _).drew) (fun j hj=>yR j _ hj) ?_ ?_
 . refine Qf.cons [] (by kernel_rfl) (fun xs W hw hd lst hl K hK=>?_) ?_
   . rw [cEq]at hw
     have hK':=hK.out;clear hK;simp only [Qd,Act.put,List.setIfInBounds_toArray,List.set_cons_zero,List.set_cons_succ]at hK' ⊢;go_simp;exact hK' _ _ (by rw [cEq];exact hw) (Qb yM 0 (by kernel_rfl) xs W _) (by rw [yf0];exact if_pos rfl)
   refine Qf.cons [] (by kernel_rfl) (fun xs W hw hd lst hl K hK=>?_) ?_
   . rw [cEq]at hw
     have hK':=hK.out;clear hK;simp only [Qd,Act.put,List.setIfInBounds_toArray,List.set_cons_zero,List.set_cons_succ]at hK' ⊢;have cl:=HCB.out W hw;obtain⟨cl0,cl1,cl2⟩:=cl;go_simp;exact hK' _ _ (by rw [cEq];exact hw) (Qb yM 1 (by kernel_rfl) xs W _) (by rw [yf1];exact if_pos rfl)
   refine Qf.cons [] (by kernel_rfl) (fun xs W hw hd lst hl K hK=>?_) ?_
   . rw [cEq]at hw
     have hK':=hK.out;clear hK;simp only [Qd,Act.put,List.setIfInBounds_toArray,List.set_cons_zero,List.set_cons_succ]at hK' ⊢;go_simp;exact hK' _ _ (by rw [cEq];exact hw) (Qb yM 2 (by kernel_rfl) xs W _) (by rw [yf2];exact if_pos rfl)
   refine Qf.cons [(2,some 7),(6,none)] (by kernel_rfl) (fun xs W hw hd lst hl K hK=>?_) ?_
   . rw [cEq]at hw
     have hK':=hK.out;clear hK;simp only [Ql]at hd;obtain⟨hf2,hf6,_⟩:=hd;simp only [Qd,Act.put,List.setIfInBounds_toArray,List.set_cons_zero,List.set_cons_succ]at hK' ⊢;rw [yf2]at hf2;rw [yf6]at hf6;simp only [hf2]at hK' ⊢;have hsz:=hw.size;go_simp;refine(HPT.out W hw hf6).mono ?_;rintro e9 w9 ⟨u9,K9,rfl,hK9,c9,d9⟩;have hR:=u9;refine hK' (_) (w9) (by rw [cEq];exact hw.trans' u9) (QG yM 3 (by kernel_rfl) _ fun j hs hy=>?_) (by rw [yf3];(try simp only [↓reduceIte]);try exact⟨K9,rfl,by omega,c9.mono fun b hb=>⟨by have:=hb.1;omega,hb.2⟩,d9⟩);by_cases hp:j∈[0,1,2,5]
     . exact yP j _ _ _ hp hy
     by_cases hj:7<=j
     . rw [yN j _ _ hj];trivial
     simp only [List.mem_cons,List.not_mem_nil,or_false]at hp;rcases(show j=3\/j=4\/j=6 by omega)with rfl|rfl|rfl
     . exact(Qn hs (by kernel_rfl)).elim
     . exact(Qn hs (by kernel_rfl)).elim
     exact(Qn hs (by kernel_rfl)).elim
   refine Qf.cons [(0,some 5),(1,some 6),(3,some 8)] (by kernel_rfl) (fun xs W hw hd lst hl K hK=>?_) ?_
   . rw [cEq]at hw
     have hK':=hK.out;clear hK;simp only [Ql]at hd;obtain⟨hf0,hf1,hf3,_⟩:=hd;simp only [Qd,Act.put,List.setIfInBounds_toArray,List.set_cons_zero,List.set_cons_succ]at hK' ⊢;rw [yf0]at hf0;rw [yf1]at hf1;rw [yf3]at hf3;simp only [hf0,hf1]at hK' ⊢;obtain⟨K3,h3e,hK3,c3,d3⟩:=hf3;simp only [h3e]at hK' ⊢;have hsz:=hw.size;go_simp;refine(HTD.out W hw K3 hK3 c3).mono ?_;rintro e9 w9 ⟨f9,A9,n9,c9,rfl,hc9,r9⟩;have hR:=f9;refine hK' (_) (w9) (by rw [cEq];exact hw.trans f9 (fun _ _ h=>h.elim)) (fun j hs hy=>?_) (by rw [yf4];(try simp only [↓reduceIte]);try exact⟨A9,n9,c9,rfl,hc9,r9.mono fun b hb=>by omega,d3.fresh f9⟩);by_cases hj:7<=j
     . rw [yN j _ _ hj];trivial
     (have hj':j=0\/j=1\/j=2\/j=3\/j=4\/j=5\/j=6:=by omega);rcases hj' with rfl|rfl|rfl|rfl|rfl|rfl|rfl
     . rw [yf0]at hy ⊢;(try simp only [↓reduceIte,OfNat.ofNat_ne_ofNat,Nat.reduceEqDiff]);exact hy
     . rw [yf1]at hy ⊢;(try simp only [↓reduceIte,OfNat.ofNat_ne_ofNat,Nat.reduceEqDiff]);exact hy
     . rw [yf2]at hy ⊢;(try simp only [↓reduceIte,OfNat.ofNat_ne_ofNat,Nat.reduceEqDiff]);exact hy
     . rw [yf3]at hy ⊢;(try simp only [↓reduceIte,OfNat.ofNat_ne_ofNat,Nat.reduceEqDiff]);obtain⟨q1,q2,q3,q4,q5⟩:=hy;exact⟨q1,q2,q3,q4.fresh hR,q5.fresh hR⟩
     . exact(Qn hs (by kernel_rfl)).elim
     . exact(Qn hs (by kernel_rfl)).elim
     rw [yf6]at hy ⊢;(try simp only [↓reduceIte,OfNat.ofNat_ne_ofNat,Nat.reduceEqDiff]);exact hy.fresh hR
   refine Qf.cons [(4,some 9)] (by kernel_rfl) (fun xs W hw hd lst hl K hK=>?_) ?_
   . rw [cEq]at hw
     have hK':=hK.out;clear hK;simp only [Ql]at hd;obtain⟨hf4,_⟩:=hd;simp only [Qd,Act.put,List.setIfInBounds_toArray,List.set_cons_zero,List.set_cons_succ]at hK' ⊢;rw [yf4]at hf4;go_simp;exact hK' _ _ (by rw [cEq];exact hw) (Qb yM 5 (by kernel_rfl) xs W _) (by rw [yf5];(try simp only [↓reduceIte,OfNat.ofNat_ne_ofNat,Nat.reduceEqDiff]);exact rfl)
   exact Qf.nil
 intro xs W hw hd;rw [cEq]at hw;simp only [Yd]at hd;obtain⟨fe0,fe1,fe2,fe3,fe4,fe5,_⟩:=hd;have fe0:=fe0 (by first|kernel_rfl|trivial);rw [yf0]at fe0;have fe1:=fe1 (by first|kernel_rfl|trivial);rw [yf1]at fe1;have fe2:=fe2 (by first|kernel_rfl|trivial);rw [yf2]at fe2;have fe3:=fe3 (by first|kernel_rfl|trivial);rw [yf3]at fe3;have fe4:=fe4 (by first|kernel_rfl|trivial);rw [yf4]at fe4;have fe5:=fe5 (by first|kernel_rfl|trivial);rw [yf5]at fe5;simp only [Qd,Act.put,List.setIfInBounds_toArray,List.set_cons_zero,List.set_cons_succ];generalize xs 0=xv0 at *;generalize xs 1=xv1 at *;generalize xs 2=xv2 at *;generalize xs 3=xv3 at *;generalize xs 4=xv4 at *;generalize xs 5=xv5 at *;subst fe0;subst fe1;subst fe2;subst fe5;clear yf0 yf1 yf2 yf3 yf4 yf5 yf6 yN yR yM yP cEq;obtain⟨A,n,c,h4,hc4,r4,c4⟩:=fe4;subst h4;clear fe3;go_wp2_with fail;(try go_ret);exact hR.out _ _ ⟨U1.out.trans' hw,⟨A,n,c,rfl,hc4,r4.mono fun b hb=>by have:=U1.out.size;omega⟩,c4⟩
theorem Qk.up {w W w':World} {v:Value} {bs:List Nat} (f:Q0 w W) (h:Qk W w' v bs):Qk w w' v bs:=⟨h.1,f.trans' h.2.1,fun k hk=>Nat.le_trans f.size (h.2.2 k hk)⟩
def J7 (l:List Int) (bs:List Nat):List Nat:=QE (Yh l bs++[true])
theorem Q2N {l:List Int} {bs cs:List Nat} (h:QL l bs=-1) (hs:∀c∈cs,c∈bs):QL l cs=-1:=by
 unfold QL at h ⊢
 cases hf:bs.findIdx? (noK l)with
 | some i=>rw [hf]at h;have h:(i:Int)=-1:=h;omega
 | none =>
   rw [List.findIdx?_eq_none_iff]at hf;rw [List.findIdx?_eq_none_iff.2 fun c hc=>hf c (hs c hc)]
theorem YW {l:List Int} {bs:List Nat} (h:Qu l bs=0) (a k:Nat):Qu l ((bs.drop a).take k)=0:=by
 have hlen:=YI h;unfold Qu at h ⊢;by_cases ht:Qj l
 . rw [if_pos ht]at h ⊢
   by_cases hb:bs.length<=131072/\QL l bs=-1
   . rw [if_pos ⟨by rw [List.length_take,List.length_drop];omega,Q2N hb.2 fun c hc=>List.mem_of_mem_drop (List.mem_of_mem_take hc)⟩]
   rw [if_neg hb]at h;cases h
 rw [if_neg ht]at h;cases h
theorem Q1T (F G:Nat->Prop) (A B:Option Addr) (n c m d fr tz:Nat) (i:Int) (pa pb:Nat) (l:List Int) (bs:List Nat) (w:World) (hr:Rd w F A n (Qm l)) (hbs:Rd w G B m (Qa bs)) (hlt:∀b∈bs,b<256) (hn:n<=2^40) (hm:m<=131072) (hc:n<=c) (hd:m<=d)
   (ba:Blk w pa 33 #[.slice A n c]) (bb:Blk w pb 22 #[.slice B m d]) (hft:fr<=tz) (htm:tz<=m) (he:Qu l bs=0) :
   Calls Tryz.prog 99 #[.int .i64 i,.int .i64 (fr:Nat),.int .i64 (tz:Nat),.pointer (some ⟨pa,0,none⟩),.pointer (some ⟨pb,0,none⟩)] w fun e w'=>∃v,e = .returned v/\Qk w w' v (J7 l ((bs.drop fr).take (tz-fr))):=by
 (have hL:bs.length=m:=by have:=hbs.1;simpa using this);obtain⟨L,hLd⟩:=nm_ (J7 l ((bs.drop fr).take (tz-fr)));obtain⟨B',hB'⟩:∃B',B'=(if tz=fr then B else B.map (·.add fr)):=⟨_,rfl⟩
 have hcut:Rd w G B' (tz-fr) (Qa ((bs.drop fr).take (tz-fr))):=by
   have h1:=(hbs.take (k:=tz) htm).cut (k:=fr) (cap:=tz) hft (Nat.le_refl _);rw [<-hB']at h1;rw [show(Qa bs).take tz=Qa (bs.take tz)from(List.map_take ..).symm,show(Qa (bs.take tz)).drop fr=Qa ((bs.take tz).drop fr)from(List.map_drop ..).symm,List.drop_take]at h1;exact h1
 have HEN0:=hd_ (fun W (hW:Q0 w W)=>(Zg F G A B' n c (tz-fr) (tz-fr) l ((bs.drop fr).take (tz-fr)) W (hr.fresh hW) (hcut.fresh hW) (fun b hb=>hlt b (List.mem_of_mem_drop (List.mem_of_mem_take hb))) hn (by omega) hc).mono fun e w' h=>(show ∃v,e = .returned (.tuple #[v,.int .i64 0])/\Qk W w' v L from by
   rw [if_pos (YW he fr (tz-fr))]at h;rw [hLd]
   exact h))
 have HB:=hd_ (And.intro ba bb);rw [<-hLd];(have htd:tz<=d:=by omega);(have hfI:(fr:Int)<=tz:=by omega);(have htI:(tz:Int)<=m:=by omega);(have hmI:(m:Int)<=d:=by omega);have HM:=hd_ (And.intro hm hd);have HB':=hd_ hB';clear hr hbs hlt hn hm hc hd ba bb he hLd hB' hcut hL;refine Qg fun R hR=>?_;go_enter Tryz.func99,Tryz.ntmps99;go_wp2_with fail;obtain⟨w1,hw1⟩:=nm_ (w);rw [<-hw1];have HW:=hd_ hw1
 have HCB:=hd_ (show ∀W,Q0 w1 W->W.cell? ⟨pa,0,none⟩=some (.slice A n c)/\W.cell? ⟨pb,0,none⟩=some (.slice B m d)from fun W hW=>by
   rw [hw1]at hW
   exact⟨by simpa using(HB.out.1.fresh hW).cell 0,by simpa using(HB.out.2.fresh hW).cell 0⟩)
 have HEN:=hd_ (show ∀W,Q0 w1 W->Calls Tryz.prog 48 #[.slice A n c,.slice B' (tz-fr) (tz-fr)] W fun e w'=>∃v,e = .returned (.tuple #[v,.int .i64 0])/\Qk W w' v L from fun W hW=>HEN0.out W (by rw [hw1]at hW;exact hW));clear HEN0 HB hw1;obtain⟨Cw,cEq⟩:=exC (fun W=>Q0 w1 W);obtain⟨Y,yA⟩:=exY [fun xs W=>(xs 0) = .slice A n c,fun xs W=>(xs 1) = .slice B m d,fun xs W=>(xs 2) = .int .i64 (fr:Nat),fun xs W=>(xs 3) = .int .i64 (tz:Nat),fun xs W=>(xs 4) = .int .i64 (tz:Nat),fun xs W=>(xs 5) = .slice B' (tz-fr) (tz-fr),fun xs W=>(xs 6) = .tuple #[Jc (xs 6),.int .i64 0]/\Qk w1 W (Jc (xs 6)) L,fun xs W=>(xs 7) = .tuple #[Jc (xs 6),.int .i64 0],fun xs W=>(xs 8)=Jc (xs 6),fun xs W=>(xs 9) = .int .i64 0,fun xs W=>(xs 10)=Jc (xs 6),fun xs W=>(xs 11) = .int .i64 0];have yf0:=yA 0;have yf1:=yA 1;have yf2:=yA 2;have yf3:=yA 3;have yf4:=yA 4;have yf5:=yA 5;have yf6:=yA 6;have yf7:=yA 7;have yf8:=yA 8;have yf9:=yA 9;have yf10:=yA 10;have yf11:=yA 11;simp only [List.getD_cons_zero,List.getD_cons_succ]at yf0 yf1 yf2 yf3 yf4 yf5 yf6 yf7 yf8 yf9 yf10 yf11;(have yN:∀j xs W,12<=j->Y j xs W=True:=fun j xs W hj=>by rw [yA,QR _ _ _ hj])
 have yP:∀j xs W W',j∈[0,1,2,3,4,5,7,8,9,10,11]->Y j xs W->Y j xs W':=by
   intro j xs W W' hj hy;simp only [List.mem_cons,List.not_mem_nil,or_false]at hj;rcases hj with rfl|rfl|rfl|rfl|rfl|rfl|rfl|rfl|rfl|rfl|rfl
   . rw [yf0]at hy ⊢;exact hy
   . rw [yf1]at hy ⊢;exact hy
   . rw [yf2]at hy ⊢;exact hy
   . rw [yf3]at hy ⊢;exact hy
   . rw [yf4]at hy ⊢;exact hy
   . rw [yf5]at hy ⊢;exact hy
   . rw [yf7]at hy ⊢;exact hy
   . rw [yf8]at hy ⊢;exact hy
   . rw [yf9]at hy ⊢;exact hy
   . rw [yf10]at hy ⊢;exact hy
   rw [yf11]at hy ⊢;exact hy
 have yM:YA [[0],[1],[2],[3],[4],[5],[6],[7,6],[8,6],[9],[10,6],[11]] Y:=by
   intro j xs xs' W hh hy;by_cases hj:12<=j
   . rw [yN j _ _ hj];trivial
   (have hj':j=0\/j=1\/j=2\/j=3\/j=4\/j=5\/j=6\/j=7\/j=8\/j=9\/j=10\/j=11:=by omega);rcases hj' with rfl|rfl|rfl|rfl|rfl|rfl|rfl|rfl|rfl|rfl|rfl|rfl
   . rw [yf0]at hy ⊢;rw [<-hh 0 (by decide)];exact hy
   . rw [yf1]at hy ⊢;rw [<-hh 1 (by decide)];exact hy
   . rw [yf2]at hy ⊢;rw [<-hh 2 (by decide)];exact hy
   . rw [yf3]at hy ⊢;rw [<-hh 3 (by decide)];exact hy
   . rw [yf4]at hy ⊢;rw [<-hh 4 (by decide)];exact hy
   . rw [yf5]at hy ⊢;rw [<-hh 5 (by decide)];exact hy
   . rw [yf6]at hy ⊢;rw [<-hh 6 (by decide)];exact hy
   . rw [yf7]at hy ⊢;rw [<-hh 7 (by decide),<-hh 6 (by decide)];exact hy
   . rw [yf8]at hy ⊢;rw [<-hh 8 (by decide),<-hh 6 (by decide)];exact hy
   . rw [yf9]at hy ⊢;rw [<-hh 9 (by decide)];exact hy
   . rw [yf10]at hy ⊢;rw [<-hh 10 (by decide),<-hh 6 (by decide)];exact hy
   rw [yf11]at hy ⊢;rw [<-hh 11 (by decide)];exact hy
 clear yA
 have yR:∀j xs,12<=j->Y j xs (w1.drew):=by
   intro j xs hj;rcases(show 12<=j by omega)with hj;rw [yN _ _ _ hj];trivial
 refine QK Cw (fun j=>[]) Y [(0,some 12),(1,some 13),(2,some 14),(3,some 15),(4,some 16),(5,some 17),(6,some 18),(7,some 11),(8,some 19),(9,some 20),(10,some 9),(11,some 10)] (by kernel_rfl) (by kernel_rfl) (by kernel_rfl) (by rw [cEq];exact(Upd.refl _ _).drew) (fun j hj=>yR j _ hj) ?_ ?_
 . refine Qf.cons [] (by kernel_rfl) (fun xs W hw hd lst hl K hK=>?_) ?_
   . rw [cEq]at hw
     have hK':=hK.out;clear hK;simp only [Qd,Act.put,List.setIfInBounds_toArray,List.set_cons_zero,List.set_cons_succ]at hK' ⊢;have cl:=HCB.out W hw;obtain⟨cl0,cl1⟩:=cl;go_simp;exact hK' _ _ (by rw [cEq];exact hw) (Qb yM 0 (by kernel_rfl) xs W _) (by rw [yf0];exact if_pos rfl)
   refine Qf.cons [] (by kernel_rfl) (fun xs W hw hd lst hl K hK=>?_) ?_
   . rw [cEq]at hw
     have hK':=hK.out;clear hK;simp only [Qd,Act.put,List.setIfInBounds_toArray,List.set_cons_zero,List.set_cons_succ]at hK' ⊢;have cl:=HCB.out W hw;obtain⟨cl0,cl1⟩:=cl;go_simp;exact hK' _ _ (by rw [cEq];exact hw) (Qb yM 1 (by kernel_rfl) xs W _) (by rw [yf1];exact if_pos rfl)
   refine Qf.cons [] (by kernel_rfl) (fun xs W hw hd lst hl K hK=>?_) ?_
   . rw [cEq]at hw
     have hK':=hK.out;clear hK;simp only [Qd,Act.put,List.setIfInBounds_toArray,List.set_cons_zero,List.set_cons_succ]at hK' ⊢;go_simp;exact hK' _ _ (by rw [cEq];exact hw) (Qb yM 2 (by kernel_rfl) xs W _) (by rw [yf2];exact if_pos rfl)
   refine Qf.cons [] (by kernel_rfl) (fun xs W hw hd lst hl K hK=>?_) ?_
   . rw [cEq]at hw
     have hK':=hK.out;clear hK;simp only [Qd,Act.put,List.setIfInBounds_toArray,List.set_cons_zero,List.set_cons_succ]at hK' ⊢;go_simp;exact hK' _ _ (by rw [cEq];exact hw) (Qb yM 3 (by kernel_rfl) xs W _) (by rw [yf3];exact if_pos rfl)
   refine Qf.cons [] (by kernel_rfl) (fun xs W hw hd lst hl K hK=>?_) ?_
   . rw [cEq]at hw
     have hK':=hK.out;clear hK;simp only [Qd,Act.put,List.setIfInBounds_toArray,List.set_cons_zero,List.set_cons_succ]at hK' ⊢;go_simp;exact hK' _ _ (by rw [cEq];exact hw) (Qb yM 4 (by kernel_rfl) xs W _) (by rw [yf4];exact if_pos rfl)
   refine Qf.cons [(1,some 13),(2,some 14),(3,some 15),(4,some 16)] (by kernel_rfl) (fun xs W hw hd lst hl K hK=>?_) ?_
   . rw [cEq]at hw
     have hK':=hK.out;clear hK;simp only [Ql]at hd;obtain⟨hf1,hf2,hf3,hf4,_⟩:=hd;simp only [Qd,Act.put,List.setIfInBounds_toArray,List.set_cons_zero,List.set_cons_succ]at hK' ⊢;rw [yf1]at hf1;rw [yf2]at hf2;rw [yf3]at hf3;rw [yf4]at hf4;simp only [hf1,hf2,hf3,hf4]at hK' ⊢;go_simp;rw [<-HB'.out];exact hK' _ _ (by rw [cEq];exact hw) (Qb yM 5 (by kernel_rfl) xs W _) (by rw [yf5];exact if_pos rfl)
   refine Qf.cons [(0,some 12),(5,some 17)] (by kernel_rfl) (fun xs W hw hd lst hl K hK=>?_) ?_
   . rw [cEq]at hw
     have hK':=hK.out;clear hK;simp only [Ql]at hd;obtain⟨hf0,hf5,_⟩:=hd;simp only [Qd,Act.put,List.setIfInBounds_toArray,List.set_cons_zero,List.set_cons_succ]at hK' ⊢;rw [yf0]at hf0;rw [yf5]at hf5;simp only [hf0,hf5]at hK' ⊢;go_simp;refine(HEN.out W hw).mono ?_;rintro e9 w9 ⟨v9,rfl,nb9⟩;have hR:=nb9.2.1;refine hK' (_) (w9) (by rw [cEq];exact hw.trans' nb9.2.1) (fun j hs hy=>?_) (by rw [yf6];(try simp only [↓reduceIte]);try exact⟨rfl,Qk.up hw nb9⟩);by_cases hj:12<=j
     . rw [yN j _ _ hj];trivial
     (have hj':j=0\/j=1\/j=2\/j=3\/j=4\/j=5\/j=6\/j=7\/j=8\/j=9\/j=10\/j=11:=by omega);rcases hj' with rfl|rfl|rfl|rfl|rfl|rfl|rfl|rfl|rfl|rfl|rfl|rfl
     . rw [yf0]at hy ⊢;(try simp only [↓reduceIte,OfNat.ofNat_ne_ofNat,Nat.reduceEqDiff]);exact hy
     . rw [yf1]at hy ⊢;(try simp only [↓reduceIte,OfNat.ofNat_ne_ofNat,Nat.reduceEqDiff]);exact hy
     . rw [yf2]at hy ⊢;(try simp only [↓reduceIte,OfNat.ofNat_ne_ofNat,Nat.reduceEqDiff]);exact hy
     . rw [yf3]at hy ⊢;(try simp only [↓reduceIte,OfNat.ofNat_ne_ofNat,Nat.reduceEqDiff]);exact hy
     . rw [yf4]at hy ⊢;(try simp only [↓reduceIte,OfNat.ofNat_ne_ofNat,Nat.reduceEqDiff]);exact hy
     . rw [yf5]at hy ⊢;(try simp only [↓reduceIte,OfNat.ofNat_ne_ofNat,Nat.reduceEqDiff]);exact hy
     . exact(Qn hs (by kernel_rfl)).elim
     . exact(Qn hs (by kernel_rfl)).elim
     . exact(Qn hs (by kernel_rfl)).elim
     . exact(Qn hs (by kernel_rfl)).elim
     . exact(Qn hs (by kernel_rfl)).elim
     exact(Qn hs (by kernel_rfl)).elim
   refine Qf.cons [(6,some 18)] (by kernel_rfl) (fun xs W hw hd lst hl K hK=>?_) ?_
   . rw [cEq]at hw
     have hK':=hK.out;clear hK;simp only [Ql]at hd;obtain⟨hf6,_⟩:=hd;simp only [Qd,Act.put,List.setIfInBounds_toArray,List.set_cons_zero,List.set_cons_succ]at hK' ⊢;rw [yf6]at hf6;obtain⟨h8e,h8d⟩:=hf6;obtain⟨v8,hv8⟩:=nm_ (Jc (xs 6));rw [<-hv8]at h8e;have HV8:=hd_ hv8;clear hv8;simp only [h8e]at hK' ⊢;go_simp;exact hK' _ _ (by rw [cEq];exact hw) (Qb yM 7 (by kernel_rfl) xs W _) (by rw [yf7];(try simp only [↓reduceIte,OfNat.ofNat_ne_ofNat,Nat.reduceEqDiff]);exact(by simp [HV8.out]))
   refine Qf.cons [(7,some 11)] (by kernel_rfl) (fun xs W hw hd lst hl K hK=>?_) ?_
   . rw [cEq]at hw
     have hK':=hK.out;clear hK;simp only [Ql]at hd;obtain⟨hf7,_⟩:=hd;simp only [Qd,Act.put,List.setIfInBounds_toArray,List.set_cons_zero,List.set_cons_succ]at hK' ⊢;rw [yf7]at hf7;simp only [hf7]at hK' ⊢;go_simp;exact hK' _ _ (by rw [cEq];exact hw) (Qb yM 8 (by kernel_rfl) xs W _) (by rw [yf8];(try simp only [↓reduceIte,OfNat.ofNat_ne_ofNat,Nat.reduceEqDiff]);exact(by simp))
   refine Qf.cons [(7,some 11)] (by kernel_rfl) (fun xs W hw hd lst hl K hK=>?_) ?_
   . rw [cEq]at hw
     have hK':=hK.out;clear hK;simp only [Ql]at hd;obtain⟨hf7,_⟩:=hd;simp only [Qd,Act.put,List.setIfInBounds_toArray,List.set_cons_zero,List.set_cons_succ]at hK' ⊢;rw [yf7]at hf7;simp only [hf7]at hK' ⊢;go_simp;exact hK' _ _ (by rw [cEq];exact hw) (Qb yM 9 (by kernel_rfl) xs W _) (by rw [yf9];exact if_pos rfl)
   refine Qf.cons [(8,some 19)] (by kernel_rfl) (fun xs W hw hd lst hl K hK=>?_) ?_
   . rw [cEq]at hw
     have hK':=hK.out;clear hK;simp only [Ql]at hd;obtain⟨hf8,_⟩:=hd;simp only [Qd,Act.put,List.setIfInBounds_toArray,List.set_cons_zero,List.set_cons_succ]at hK' ⊢;rw [yf8]at hf8;simp only [hf8]at hK' ⊢;go_simp;exact hK' _ _ (by rw [cEq];exact hw) (Qb yM 10 (by kernel_rfl) xs W _) (by rw [yf10];(try simp only [↓reduceIte,OfNat.ofNat_ne_ofNat,Nat.reduceEqDiff]);exact(by simp))
   refine Qf.cons [(9,some 20)] (by kernel_rfl) (fun xs W hw hd lst hl K hK=>?_) ?_
   . rw [cEq]at hw
     have hK':=hK.out;clear hK;simp only [Ql]at hd;obtain⟨hf9,_⟩:=hd;simp only [Qd,Act.put,List.setIfInBounds_toArray,List.set_cons_zero,List.set_cons_succ]at hK' ⊢;rw [yf9]at hf9;simp only [hf9]at hK' ⊢;go_simp;exact hK' _ _ (by rw [cEq];exact hw) (Qb yM 11 (by kernel_rfl) xs W _) (by rw [yf11];exact if_pos rfl)
   exact Qf.nil
 intro xs W hw hd;rw [cEq]at hw;simp only [Yd]at hd;obtain⟨fe0,fe1,fe2,fe3,fe4,fe5,fe6,fe7,fe8,fe9,fe10,fe11,_⟩:=hd;have fe0:=fe0 (by first|kernel_rfl|trivial);rw [yf0]at fe0;have fe1:=fe1 (by first|kernel_rfl|trivial);rw [yf1]at fe1;have fe2:=fe2 (by first|kernel_rfl|trivial);rw [yf2]at fe2;have fe3:=fe3 (by first|kernel_rfl|trivial);rw [yf3]at fe3;have fe4:=fe4 (by first|kernel_rfl|trivial);rw [yf4]at fe4;have fe5:=fe5 (by first|kernel_rfl|trivial);rw [yf5]at fe5;have fe6:=fe6 (by first|kernel_rfl|trivial);rw [yf6]at fe6;have fe7:=fe7 (by first|kernel_rfl|trivial);rw [yf7]at fe7;have fe8:=fe8 (by first|kernel_rfl|trivial);rw [yf8]at fe8;have fe9:=fe9 (by first|kernel_rfl|trivial);rw [yf9]at fe9;have fe10:=fe10 (by first|kernel_rfl|trivial);rw [yf10]at fe10;have fe11:=fe11 (by first|kernel_rfl|trivial);rw [yf11]at fe11;simp only [Qd,Act.put,List.setIfInBounds_toArray,List.set_cons_zero,List.set_cons_succ];generalize xs 0=xv0 at *;generalize xs 1=xv1 at *;generalize xs 2=xv2 at *;generalize xs 3=xv3 at *;generalize xs 4=xv4 at *;generalize xs 5=xv5 at *;generalize xs 6=xv6 at *;generalize xs 7=xv7 at *;generalize xs 8=xv8 at *;generalize xs 9=xv9 at *;generalize xs 10=xv10 at *;generalize xs 11=xv11 at *;subst fe0;subst fe1;subst fe2;subst fe3;subst fe4;subst fe5;subst fe7;subst fe8;subst fe9;subst fe10;subst fe11;clear yf0 yf1 yf2 yf3 yf4 yf5 yf6 yf7 yf8 yf9 yf10 yf11 yN yR yM yP cEq;obtain⟨h8e,h8d⟩:=fe6;obtain⟨v8,hv8⟩:=nm_ (Jc xv6);simp only [<-hv8]at h8d ⊢;have N8:=hd_ h8d;clear h8e h8d hv8;go_wp2_with fail;refine(Jg _ _ _ (by simpa using(Blk.new W 24 #[.int .i64 0]).cell 0)).mono ?_;rintro e w3 ⟨rfl,hw3⟩;have N9:=hd_ (Qk.frs N8.out (show Q0 W w3 by rw [hw3];exact(Upd.refl _ _).alloc _));clear hw3;go_wp2_with fail;(try go_ret);rw [HW.out]at N9;exact hR.out _ _ ⟨v8,rfl,N9.out⟩
theorem Q0C (n k r:Nat) (w:World) (hn:n<=131072) (hkd:k=(n+3) / 4) (hk:3*k+r=n) (h0:0<r) :
   Calls Tryz.prog 98 #[.int .i64 (n:Nat)] w fun e w'=>e = .returned (.agg #[.int .i64 (k:Nat),.int .i64 (k:Nat),.int .i64 (k:Nat),.int .i64 (r:Nat)])/\Q0 w w':=by
 (have hnI:(n:Int)<=131072:=by omega);(have hn0:(0:Int)<=n:=by omega);have hs1:IntKind.i64.wrap ((n:Int)+3)=n+3:=IntWalk.i64_in _ (by omega);(have hs2:((n:Int)+3) / 4=(k:Nat):=by omega);have hs3:IntKind.i64.wrap (3*(k:Int))=3*k:=IntWalk.i64_in _ (by omega);(have hs4:IntKind.i64.wrap ((n:Int)-3*k)=(r:Nat):=by rw [IntWalk.i64_in _ (by omega)];omega);(have hgt:3*(k:Int)<n:=by omega);have HGT:=hd_ hgt;(have hkI:(k:Int)<=131072:=by omega);clear hn hk hkd h0;refine Qg fun R hR=>?_;go_enter Tryz.func98,Tryz.ntmps98;go_wp2_with fail;refine(Zw _ _).mono ?_;rintro e w1 ⟨rfl,hw1⟩;go_wp2_with fail;refine(Q0p _ _ _ (by first|rfl|exact decide_eq_true (by have:=HGT.out;omega))).mono ?_;rintro e w2 ⟨rfl,hw2⟩;go_wp2_with fail;have b5:=Blk.new w 139 #[.int .i64 (k:Nat),.int .i64 (k:Nat),.int .i64 (k:Nat),.int .i64 (r:Nat)];have d0:=b5.cell 0;have d1:=b5.cell 1;have d2:=b5.cell 2;have d3:=b5.cell 3;simp at d0 d1 d2 d3;subst hw1 hw2;refine⟨rfl,.agg #[.int .i64 (k:Nat),.int .i64 (k:Nat),.int .i64 (k:Nat),.int .i64 (r:Nat)],by simp [results,Tryz.results98,go_sem,d0,d1,d2,d3],hR.out _ _ ⟨rfl,(Upd.refl _ _).alloc _⟩⟩
theorem Q1U:(Tryz.prog.info? 22).map (fun i=>(i.zero,i.size,i.bytes))=some (some (.slice none 0 0),1,24):=by kernel_rfl
def Js (w:World) (Ls:Nat->List Nat) (i:Nat) (v:Value) (W:World):Prop :=
  ∃vs:List Value,vs.length=i/\Own W 22 v vs/\Q0 w W/\(∀b,v.ownBlock=some b->w.heap.size<=b)/\(∀u∈vs,u.oneCell'=true) /\
    ∀j,j<i->∃A n c,vs[j]?=some (.slice A n c)/\Rd W (fun b=>v.ownBlock≠some b) A n (Qa (Ls j))
theorem Js.step {w wr w1 w2 w3:World} {Ls:Nat->List Nat} {i:Nat} {v v2:Value} {vs:List Value} {A:Option Addr} {n c:Nat} (hvl:vs.length=i) (ov:Own wr 22 v vs) (fv:Q0 w wr) (ob:∀b,v.ownBlock=some b->w.heap.size<=b)
   (one:∀u∈vs,u.oneCell'=true) (hp:∀j,j<i->∃A n c,vs[j]?=some (.slice A n c)/\Rd wr (fun b=>v.ownBlock≠some b) A n (Qa (Ls j))) (nb:Qk wr w1 (.slice A n c) (Ls i)) (f2:Q0 w1 w2)
   (ho:Own w3 22 v2 (vs++[.slice A n c])) (hg:w2.grownBy w3 v.ownBlock) (ha:v2.ownBlock=v.ownBlock\/v2.ownBlock=some w2.heap.size):Js w Ls (i+1) v2 w3:=by
 have hu:Upd (fun b=>v.ownBlock=some b) w2 w3:=(Upd.refl _ w2).grown hg (fun k e _=>e);have fw2:Q0 w w2:=fv.trans' (nb.2.1.trans' f2)
 have hne:∀(B:Option Addr) (k:Nat) (L:List Nat),Rd w2 (fun b=>v.ownBlock≠some b) B k (Qa L)->Rd w3 (fun b=>v2.ownBlock≠some b) B k (Qa L):=fun B k L h =>
   (h.both.upd hu (fun b _ hb e=>hb.1 e)).mono fun b hb e=>by
     rcases ha with h2|h2
     . exact hb.1 (h2 ▸ e)
     rw [h2]at e;injection e with e;have:=hb.2;omega
 refine⟨vs++[.slice A n c],by simp [hvl],ho,fw2.grown hg (fun k hk hlt=>by have:=ob k hk;omega),fun b hb=>?_,fun u hu=>?_,fun j hj=>?_⟩
 . rcases ha with h2|h2
   . exact ob b (h2 ▸ hb)
   rw [h2]at hb;injection hb with hb;have:=fw2.size;omega
 . rcases List.mem_append.1 hu with h|h
   . exact one u h
   simp at h;subst h;rfl
 rcases Nat.lt_succ_iff_lt_or_eq.1 hj with h|rfl
 . obtain⟨B,k,d,hv,hr⟩:=hp j h
   exact⟨B,k,d,by rw [List.getElem?_append_left (by omega)];exact hv,hne B k _ (hr.fresh (nb.2.1.trans' f2))⟩
 obtain⟨hn4,hc4,hrd⟩:=nb.1.rd rfl;rw [<-hn4]at hrd;refine⟨A,n,c,by rw [<-hvl];simp,hne A n _ ((hrd.mono fun b hb e=>?_).fresh f2)⟩;have h1:=nb.2.2 b hb;have h2:=ov.lt e;omega
theorem Q1V (pa pb:Nat) (nf atf:Nat->Nat) (Ls:Nat->List Nat) (w:World) (h0:atf 0=0) (hs:∀i,i<4->atf (i+1)=atf i+nf i) (hle:∀i,atf i<=131072)
   (HC:∀i,i<4->∀W,Q0 w W->Calls Tryz.prog 99 #[.int .i64 (i:Nat),.int .i64 (atf i:Nat),.int .i64 (atf (i+1):Nat),.pointer (some ⟨pa,0,none⟩),.pointer (some ⟨pb,0,none⟩)] W fun e w'=>∃v,e = .returned v/\Qk W w' v (Ls i)) :
   Calls Tryz.prog 97 #[.agg #[.int .i64 (nf 0),.int .i64 (nf 1),.int .i64 (nf 2),.int .i64 (nf 3)],.func (.func 99) #[] #[.pointer (some ⟨pa,0,none⟩),.pointer (some ⟨pb,0,none⟩)]] w fun e w'=>∃v,e = .returned v/\Js w Ls 4 v w':=by
 have hix:∀i,i<4->∀W,(Instr.index 139 (.agg #[.int .i64 (nf 0),.int .i64 (nf 1),.int .i64 (nf 2),.int .i64 (nf 3)]) (.int .i64 (i:Nat))).run Tryz.prog W = .ok (.int .i64 (nf i:Nat)) W:=by
   intro i hi W;(rcases(show i=0\/i=1\/i=2\/i=3 by omega)with rfl|rfl|rfl|rfl<;>kernel_rfl)
 obtain⟨w0,hw0⟩:=nm_ (w.alloc (.cells #[.int .i64 (nf 0),.int .i64 (nf 1),.int .i64 (nf 2),.int .i64 (nf 3)] 139));obtain⟨H,hH⟩:=nm_ (w.heap.size);(have f0:Q0 w w0:=by rw [hw0];exact(Upd.refl _ _).alloc _);(have b0:Blk w0 H 139 #[.int .i64 (nf 0),.int .i64 (nf 1),.int .i64 (nf 2),.int .i64 (nf 3)]:=by rw [hw0];exact Qc hH _ _);have x0:=b0.cell 0;have x1:=b0.cell 1;have x2:=b0.cell 2;have x3:=b0.cell 3;simp at x0 x1 x2 x3;have F0:=hd_ f0;have HW:=hd_ hw0;have HH:=hd_ hH;have HC:=hd_ HC;have HS:=hd_ hs;have HLE:=hd_ hle;have H0:=hd_ h0;have HIX:=hd_ hix;obtain⟨arr,harr⟩:=nm_ (.agg #[.int .i64 (nf 0),.int .i64 (nf 1),.int .i64 (nf 2),.int .i64 (nf 3)]:Value);clear hw0 hH f0 b0 hs hle h0 hix;refine Qg fun R hR=>?_;go_enter Tryz.func97,Tryz.ntmps97;go_upto_region 1 with fail;simp only [<-HH.out,<-HW.out];go_wp2_with fail;simp only [<-harr];rw [<-harr]at HIX;clear x0 x1 x2 x3 harr;go_loopg [4,5,9] 4 (fun mm vo va vi wr=>∃i,i+mm=4/\vi = .int .i64 (i:Nat)/\va = .int .i64 (atf i:Nat)/\Js w Ls i vo wr)
 case atStart=>exact⟨0,rfl,rfl,by rw [H0.out];rfl,[],rfl,Own.nil _ _,F0.out,by simp [Value.ownBlock],by simp,fun j hj=>absurd hj (Nat.not_lt_zero _)⟩
 case round =>
   obtain⟨i,hi,rfl,rfl,hE⟩:=hrel;by_cases hlt:i<4
   . have hI:(i:Int)<4:=by omega
     have hix:=HIX.out i hlt;obtain⟨vs,hvl,ov,fv,ob,one,hp⟩:=hE;have HCI:=hd_ (HC.out i hlt wr fv);(have hat:(atf i:Int)+nf i=atf (i+1):=by have:=HS.out i hlt;omega);(have hb1:(atf (i+1):Int)<=131072:=by have:=HLE.out (i+1);omega);(have hw1:IntKind.i64.wrap ((atf i:Int)+nf i)=(atf (i+1):Nat):=by rw [hat];exact IntWalk.i64_in _ (by omega));have HE:=hd_ (And.intro hvl (And.intro ov (And.intro fv (And.intro ob (And.intro one hp)))));have HI:=hd_ hi;have HLT:=hd_ hlt;clear hvl ov fv ob one hp hi hlt HC hat;obtain⟨a1,ha1⟩:=nm_ (atf (i+1));obtain⟨a0,ha0⟩:=nm_ (atf i);obtain⟨n0,hn0⟩:=nm_ (nf i);rw [<-ha1]at hw1 HCI hb1;rw [<-ha0,<-hn0]at hw1;rw [<-ha0]at HCI ⊢;rw [<-hn0]at hix;have HA1:=hd_ ha1;clear ha1 ha0 hn0;go_wp2_with fail;refine HCI.out.mono ?_;rintro e w1 ⟨v1,rfl,nb⟩;obtain⟨A1,n1,c1,rfl,hn1⟩:=nb.1.form';obtain⟨hn4,hc4,hrd⟩:=nb.1.rd rfl;rw [<-hn4]at hrd hc4;have NB:=hd_ nb;clear HCI nb hn1 hn4 hc4 hrd;obtain⟨P,hP⟩:=nm_ (w1.heap.size);obtain⟨w2,hw2⟩:=nm_ (w1.alloc (.cells #[.slice A1 n1 c1] 22));(have f2:Q0 w1 w2:=by rw [hw2];exact(Upd.refl _ _).alloc _);(have b2:Blk w2 P 22 #[.slice A1 n1 c1]:=by rw [hw2];exact Qc hP _ _);have RB:=hd_ (show Rd w2 (fun _=>True) (some ⟨P,0,none⟩) 1 [.slice A1 n1 c1]from by simpa using Blk.rds b2);have O2:=hd_ (HE.out.2.1.fresh (NB.out.2.1.trans' f2));have F2:=hd_ f2;have HW2:=hd_ hw2;have HP2:=hd_ hP;have HVL:=hd_ HE.out.1;clear f2 b2 hw2 hP;go_wp2_with (at_builtin;simp only [<-HP2.out,<-HW2.out];go_must (refine Qt _ rfl (.tmp 13) (.tmp 21) _ rfl 22 _ 24 Tryz.underlying117 Q1U rfl u4 vs rfl O2.out (some ⟨P,0,none⟩) 1 1 [.slice A1 n1 c1] rfl RB.out (by simp [Value.oneCell']) (by omega) (by have:=HVL.out;simp;omega) ?_));intro v3 w3 ho hg ha;have E3:=hd_ (Js.step HVL.out HE.out.2.1 HE.out.2.2.1 HE.out.2.2.2.1 HE.out.2.2.2.2.1 HE.out.2.2.2.2.2 NB.out F2.out ho hg ha);clear ho hg ha O2 RB NB F2 HW2 HP2;go_wp2_with fail;go_roundg (gk-1)
     case measure=>have:=HI.out;have:=HLT.out;omega
     case rel=>exact⟨i+1,by have:=HI.out;have:=HLT.out;omega,by go_num,by rw [HA1.out],E3.out⟩
   (have h4:i=4:=by omega);subst h4;have HE:=hd_ hE;clear hE hi hlt HC;go_wp2_with fail;(try go_ret);exact hR.out _ _ ⟨_,rfl,HE.out⟩
def Yv (Ls:List (List Nat)) (i:Nat):List Nat:=((Ls.take i).map fun l=>QB l.length).flatten
theorem ZI {Ls:List (List Nat)} {i:Nat} (h:i<Ls.length):Yv Ls (i+1)=Yv Ls i++QB Ls[i].length:=by
 unfold Yv;rw [List.take_succ_eq_append_getElem h,List.map_append,List.flatten_append];simp [-List.map_take]
theorem Jd (Ls:List (List Nat)):∀i,(Yv Ls i).length<=10*i
 | 0=>by simp [Yv]
 | i+1=>by
   have ih:=Jd Ls i
   by_cases h:i<Ls.length
   . rw [ZI h,List.length_append]
     have:=Yu Ls[i].length
     omega
   have:Yv Ls (i+1)=Yv Ls i:=by unfold Yv;rw [List.take_of_length_le (by omega),List.take_of_length_le (by omega)]
   rw [this];omega
theorem Q1W (F:Nat->Prop) (P:Option Addr) (c:Nat) (Ls:List (List Nat)) (w:World) (hp:Yz w F P 4 Ls) (hc:4<=c) (hs:Y0 Ls<=2^32) :
   Calls Tryz.prog 96 #[.slice P 4 c] w fun e w'=>∃v,e = .returned v/\Qk w w' v (Yv Ls 3++Ls.flatten):=by
 have hL:=hp.1;have HL:=hd_ hL;have HP:=hd_ hp;have HS:=hd_ hs
 have HSI:=hd_ (fun i (hi:i<Ls.length)=>show Ls[i].length<=2^32 from by
   have h1:=JR hi;have h2:=ZK Ls (i+1)
   omega)
 (have hcI:(4:Int)<=c:=by omega);(have h3c:3<=c:=by omega);clear hp hs hL hc;refine Qg fun R hR=>?_;go_enter Tryz.func96,Tryz.ntmps96;go_wp2_with fail;go_loopg [2,10] 3 (fun mm vo vi wr=>∃i,i+mm=3/\vi = .int .i64 (i:Nat)/\Qk w wr vo (Yv Ls i))
 case atStart=>exact⟨0,rfl,rfl,Own.nil _ _,Upd.refl _ _,by simp [Value.ownBlock]⟩
 case round =>
   obtain⟨i,hi,rfl,hN⟩:=hrel;have HN:=hd_ hN;have HI:=hd_ hi;obtain⟨A0,n0,c0,rfl,hn0⟩:=hN.1.form';by_cases hlt:i<3
   . have hI:(i:Int)<3:=by omega
     obtain⟨b,o,A,n,c1,rfl,hbl,hcell,hrd⟩:=(HP.out.fresh hN.2.1).2 i (by rw [HL.out];omega);(have hil:i<Ls.length:=by rw [HL.out];omega);(have hlen:(Ls[i]'hil).length=n:=by have:=hrd.1;rw [Qp]at this;exact this);(have hnb:(n:Int)<=4294967296:=by have:=HSI.out i (by rw [HL.out];omega);omega);(have hwn:IntKind.u64.wrap (n:Int)=n:=by unfold IntKind.wrap;simp [IntKind.bits];omega);obtain⟨hn4,hc4,hr0⟩:=hN.1.rd rfl;rw [<-hn4]at hr0;have HPV:=hd_ (Jr _ A0 n0 c0 (Yv Ls i) n wr hr0 (by have:=Jd Ls i;have:=hn0.out;rw [Qp]at this;omega) (by omega));have HLEN:=hd_ hlen;have HLT:=hd_ hlt;clear hN hi hn0 hlt hbl hrd hlen hn4 hc4 hr0;go_wp2_with fail;refine HPV.out.mono ?_;rintro e w2 ⟨v2,rfl,nb⟩;obtain⟨A2,n2,c2,rfl,hn2⟩:=nb.1.form';have NB:=hd_ nb;clear nb hn2 HPV;go_wp2_with fail;refine(Jg _ _ _ (by simpa using(Blk.new w2 24 #[.int .i64 0]).cell 0)).mono ?_;rintro e w3 ⟨rfl,hw3⟩;have N3:=hd_ (Qk.frs (Qk.up HN.out.2.1 NB.out) (show Q0 w2 w3 by rw [hw3];exact(Upd.refl _ _).alloc _));clear hw3 NB;go_wp2_with fail;go_roundg (gk-1)
     case measure=>have:=HI.out;have:=HLT.out;omega
     case rel =>
       refine⟨i+1,by have:=HI.out;have:=HLT.out;omega,by go_num,?_⟩;rw [ZI (show i<Ls.length by rw [HL.out];have:=HLT.out;omega),HLEN.out];exact N3.out
   (have h3:i=3:=by omega);subst h3;have HCC:=hd_ (Kz F P 4 c Ls wr (HP.out.fresh hN.2.1) (by omega) HS.out);have HN0:=hd_ hn0.out;clear hN hi hn0 hlt;go_wp2_with fail;refine HCC.out.mono ?_;rintro e w2 ⟨v2,rfl,nb⟩;obtain⟨A2,n2,c2,rfl,hn2⟩:=nb.1.form';obtain⟨hn4,hc4,hr2⟩:=nb.1.rd rfl;rw [<-hn4]at hr2;have N2:=hd_ (Qk.frs HN.out nb.2.1);have R2:=hd_ hr2;have HN4:=hd_ hn4;clear nb hn2 hn4 hc4 hr2 HCC;go_wp2_with (at_builtin;go_must (refine Qt _ rfl (.tmp 27) (.tmp 29) _ rfl 5 _ 1 Tryz.underlying22 Y5 rfl (.slice A0 n0 c0) (Qa (Yv Ls 3)) rfl N2.out.1 A2 n2 c2 (Qa Ls.flatten) rfl R2.out (QS _) (by omega) (by have:=HN4.out;have:=HS.out;have:=Jd Ls 3;rw [Qp]at *;rw [Jn]at *;omega) ?_));intro v3 w3 ho hg ha;have N3:=hd_ (N2.out.app ho hg ha);clear ho hg ha;go_wp2_with fail;(try go_ret);exact hR.out _ _ ⟨_,rfl,N3.out⟩
theorem KL (n k:Nat) (w:World) (hn:n<=131072) (hkd:k=(n+3) / 4) :
   Calls Tryz.prog 110 #[.int .i64 (n:Nat)] w fun e w'=>if n<=3*k then e = .returned (.tuple #[.slice none 0 0,.int .i64 11])/\w=w' else
     ∃g,e = .returned (.tuple #[.slice (some ⟨g,0,none⟩) 4 4,.int .i64 0])/\Q0 w w'/\w.heap.size<=g/\Blk w' g 3 #[.int .i64 (k:Nat),.int .i64 (k:Nat),.int .i64 (k:Nat),.int .i64 (n-3*k:Nat)]:=by
 (have hnI:(n:Int)<=131072:=by omega);(have hn0:¬(n:Int)<0:=by omega);(have hn2:¬131072<(n:Int):=by omega);obtain⟨q,hq⟩:=nm_ (n / 4);obtain⟨r,hr⟩:=nm_ (n-3*k);(have hdv:(n:Int) / 4=(q:Nat):=by omega);(have hkI:(k:Int)<=131072:=by omega);have hs3:IntKind.i64.wrap (3*(k:Int))=3*k:=IntWalk.i64_in _ (by omega);rw [<-hr];refine Qg fun R hR=>?_;go_enter Tryz.func110,Tryz.ntmps110;(have HC:(n%4=0/\q=k)\/(0<n%4/\q+1=k):=by omega);rcases HC with ⟨hc,hqk⟩|⟨hc,hqk⟩
 . have hcI:(n:Int)%4=0:=by omega
   subst hqk;clear hc hq;by_cases h:n<=3*q
   . have hI:(n:Int)-3*q<1:=by omega
     have hs4:IntKind.i64.wrap ((n:Int)-3*q)=n-3*q:=IntWalk.i64_in _ (by omega);simp only [if_pos h]at hR;clear h hkd hr hn;go_wp2_with fail;(try go_ret);exact hR.out _ _ ⟨rfl,rfl⟩
   (have hI:¬(r:Int)<1:=by omega);(have hs4:IntKind.i64.wrap ((n:Int)-3*q)=(r:Nat):=by rw [IntWalk.i64_in _ (by omega)];omega);simp only [if_neg h]at hR;clear h hkd hr hn;go_wp2_with fail;(try go_ret);exact hR.out _ _ ⟨_,rfl,(Upd.refl _ _).alloc _,Nat.le_refl _,Blk.new _ _ _⟩
 (have hcI:0<(n:Int)%4:=by omega);(have hs0:IntKind.i64.wrap ((q:Int)+1)=(k:Nat):=by rw [IntWalk.i64_in _ (by omega)];omega);clear hc hq;by_cases h:n<=3*k
 . have hI:(n:Int)-3*k<1:=by omega
   have hs4:IntKind.i64.wrap ((n:Int)-3*k)=n-3*k:=IntWalk.i64_in _ (by omega);simp only [if_pos h]at hR;clear h hkd hr hn hqk;go_wp2_with fail;(try go_ret);exact hR.out _ _ ⟨rfl,rfl⟩
 (have hI:¬(r:Int)<1:=by omega);(have hs4:IntKind.i64.wrap ((n:Int)-3*k)=(r:Nat):=by rw [IntWalk.i64_in _ (by omega)];omega);simp only [if_neg h]at hR;clear h hkd hr hn hqk;go_wp2_with fail;(try go_ret);exact hR.out _ _ ⟨_,rfl,(Upd.refl _ _).alloc _,Nat.le_refl _,Blk.new _ _ _⟩
theorem Xx (F:Nat->Prop) (P:Option Addr) (c:Nat) (Ls:List (List Nat)) (w:World) (hp:Yz w F P 4 Ls) (hs:Y0 Ls<=2^32) :
   Calls Tryz.prog 111 #[.slice P 4 c] w fun e w'=>∃v,e = .returned v/\Qk w w' v (Yv Ls 3++Ls.flatten):=by
 have hL:=hp.1;have HL:=hd_ hL;have HP:=hd_ hp;have HS:=hd_ hs
 have HSI:=hd_ (fun i (hi:i<Ls.length)=>show Ls[i].length<=2^32 from by
   have h1:=JR hi;have h2:=ZK Ls (i+1)
   omega)
 clear hp hs hL;refine Qg fun R hR=>?_;go_enter Tryz.func111,Tryz.ntmps111;go_wp2_with fail;go_loopg [3,4] 3 (fun mm vo vi wr=>∃i,i+mm=3/\vi = .int .i64 (i:Nat)/\Qk w wr vo (Yv Ls i))
 case atStart=>exact⟨0,rfl,rfl,Own.nil _ _,Upd.refl _ _,by simp [Value.ownBlock]⟩
 case round =>
   obtain⟨i,hi,rfl,hN⟩:=hrel;have HN:=hd_ hN;have HI:=hd_ hi;obtain⟨A0,n0,c0,rfl,hn0⟩:=hN.1.form';by_cases hlt:i<3
   . have hI:(i:Int)<3:=by omega
     (have hI4:(i:Int)<4:=by omega);(have hil:i<Ls.length:=by rw [HL.out];omega);obtain⟨b,o,A,n,c1,rfl,hbl,hcell,hrd⟩:=(HP.out.fresh hN.2.1).2 i hil;(have hlen:(Ls[i]'hil).length=n:=by have:=hrd.1;rw [Qp]at this;exact this);(have hnb:(n:Int)<=4294967296:=by have:=HSI.out i hil;omega);(have hwn:IntKind.u64.wrap (n:Int)=n:=by unfold IntKind.wrap;simp [IntKind.bits];omega);have HVA:=hd_ (fun W=>Kh n W (by omega));have HVL:=hd_ (Yu n);have HN0:=hd_ hn0.out;have HLEN:=hd_ hlen;have HLT:=hd_ hlt;clear hN hi hn0 hlt hbl hrd hlen;go_wp2_with fail;refine(HVA.out wr).mono ?_;rintro e w2 ⟨v2,rfl,nb⟩;obtain⟨A2,n2,c2,rfl,hn2⟩:=nb.1.form';obtain⟨hn4,hc4,hr2⟩:=nb.1.rd rfl;rw [<-hn4]at hr2;have N2:=hd_ (Qk.frs HN.out nb.2.1);have R2:=hd_ hr2;have HN4:=hd_ hn4;clear nb hn2 hn4 hc4 hr2 HVA;go_wp2_with (at_builtin;go_must (refine Qt _ rfl (.tmp 10) (.tmp 17) _ rfl 5 _ 1 Tryz.underlying22 Y5 rfl (.slice A0 n0 c0) (Qa (Yv Ls i)) rfl N2.out.1 A2 n2 c2 (Qa (QB n)) rfl R2.out (QS _) (by omega) (by have:=HN4.out;have:=HVL.out;have:=Jd Ls i;have:=HLT.out;rw [Qp]at *;omega) ?_));intro v3 w3 ho hg ha;have N3:=hd_ (N2.out.app ho hg ha);clear ho hg ha;go_wp2_with fail;go_roundg (gk-1)
     case measure=>have:=HI.out;have:=HLT.out;omega
     case rel =>
       refine⟨i+1,by have:=HI.out;have:=HLT.out;omega,by go_num,?_⟩;rw [ZI (show i<Ls.length by rw [HL.out];have:=HLT.out;omega),HLEN.out];exact N3.out
   (have h3:i=3:=by omega);subst h3;clear hN hi hn0 hlt;go_wp2_with fail;go_loopg [3,5] 4 (fun mm vo vi wx=>∃j,j+mm=4/\vi = .int .i64 (j:Nat)/\Qk w wx vo (Yv Ls 3++(Ls.take j).flatten))
   case atStart=>exact⟨0,rfl,rfl,by simpa using HN.out⟩
   case round =>
     obtain⟨j,hj,rfl,hM⟩:=hrel;have HM:=hd_ hM;have HJ:=hd_ hj;obtain⟨A1,n1,c1,rfl,hn1⟩:=hM.1.form';by_cases hlt:j<4
     . have hJ4:(j:Int)<4:=by omega
       (have hjl:j<Ls.length:=by rw [HL.out];omega);obtain⟨b,o,A,n,c2,rfl,hbl,hcell,hrd⟩:=(HP.out.fresh hM.2.1).2 j hjl;have HR2:=hd_ hrd
       have HLE:=hd_ (show(Qa (Yv Ls 3++(Ls.take j).flatten)).length+n<=2^40 from by
         have h1:=Jd Ls 3;have h2:=ZK Ls j;have h3:=HSI.out j hjl;have h4:=HS.out;have h5:=hrd.1;rw [Qp]at h5 ⊢;rw [List.length_append,Jn]
         omega)
       have HTK:=hd_ (show(Ls.take (j+1)).flatten=(Ls.take j).flatten++Ls[j]from by rw [List.take_succ_eq_append_getElem hjl,List.flatten_append,List.flatten_singleton]);have HLT:=hd_ hlt;obtain⟨L,hLd⟩:=nm_ (Ls[j]);rw [<-hLd]at HR2 HTK;clear hM hj hn1 hlt hbl hrd hLd hjl;go_wp2_with (at_builtin;go_must (refine Qt _ rfl (.tmp 23) (.tmp 27) _ rfl 5 _ 1 Tryz.underlying22 Y5 rfl (.slice A1 n1 c1) _ rfl HM.out.1 A n c2 (Qa L) rfl HR2.out (QS _) (by omega) HLE.out ?_));intro v3 w3 ho hg ha;have N3:=hd_ (HM.out.app ho hg ha);clear ho hg ha;go_wp2_with fail;go_roundg (gk-1)
       case measure=>have:=HJ.out;have:=HLT.out;omega
       case rel=>exact⟨j+1,by have:=HJ.out;have:=HLT.out;omega,by go_num,by rw [HTK.out,<-List.append_assoc];exact N3.out⟩
     (have h4:j=4:=by omega);subst h4;have HFL:=hd_ (show Ls.take 4=Ls from List.take_of_length_le (by rw [HL.out];omega));clear hM hj hn1 hlt;go_wp2_with fail;(try go_ret);exact hR.out _ _ ⟨_,rfl,by have h:=HM.out;rw [HFL.out]at h;exact h⟩
theorem RdK.cd {w:World} {g n:Nat} {L:List (Nat × Nat)} (h:RdK w (fun b=>b=g) 2 (some ⟨g,0,none⟩) n (L.map cd2)) {z:Nat} (hz:z<n) :
   ∃x,L[z]?=some x/\w.cell? ⟨g,z*2,none⟩=some (.int .i64 (x.1:Nat))/\w.cell? ⟨g,z*2+1,none⟩=some (.int .u32 (x.2:Nat)):=by
 obtain⟨b,o,hA,hb,_,hc⟩:=h.2 (by omega);injection hA with hA;injection hA with h1 h2;subst h1 h2;(have hl:z<L.length:=by have:=h.1;rw [List.length_map]at this;omega);have c0:=hc z 0 (by rw [List.length_map];exact hl) (by omega);have c1:=hc z 1 (by rw [List.length_map];exact hl) (by omega);refine⟨L[z],List.getElem?_eq_getElem hl,?_,?_⟩
 . simpa [cd2]using c0
 simpa [cd2]using c1
theorem ZX (F G:Nat->Prop) (A B:Option Addr) (n c m d:Nat) (l:List Int) (bs:List Nat) (w:World) (hr:Rd w F A n (Qm l)) (hbs:Rd w G B m (Qa bs)) (hlt:∀b∈bs,b<256) (hn:n<=2^40) (hm:m<=2^40) :
   Calls Tryz.prog 109 #[.slice A n c,.slice B m d] w fun e w'=>(∃q:Int,e = .returned (.tuple #[.int .i64 q,.int .i64 (Qu l bs)]))/\w=w':=by
 have HMY:=hd_ (KH F G A B n c m d l bs w hr hbs hlt hn hm);(have hLl:l.length=n:=by have:=hr.1;simpa using this)
 have HBK:=hd_ (fun(h:Qu l bs=0) (k:Nat) (hk:k<bs.length)=>show bs[k]<l.length from by
   unfold Qu at h;split at h
   . next ht =>
     split at h
     . next hb=>exact(ZL ht hb.2 _ (List.getElem_mem hk)).1
     cases h
   cases h)
 obtain⟨er,her⟩:=nm_ (Qu l bs);rw [<-her]at HMY HBK ⊢;have HR:=hd_ hr;have HB:=hd_ hbs;have HLL:=hd_ hLl;(have hmI:(m:Int)<=1099511627776:=by omega);(have hnI:(n:Int)<=1099511627776:=by omega);clear hr hbs hlt hn hm her hLl;refine Qg fun R hR=>?_;go_enter Tryz.func109,Tryz.ntmps109;by_cases h0:er=0
 . subst h0
   go_wp2_with fail;refine HMY.out.mono ?_;rintro e w' ⟨rfl,rfl⟩;go_wp2_with fail;go_loopg [7,8] m (fun f vs vi wr=>wr=w/\∃(k:Nat) (s:Int),k+f=m/\vi = .int .i64 (k:Nat)/\vs = .int .i64 s)
   case atStart=>exact⟨rfl,0,0,by omega,rfl,rfl⟩
   case round =>
     obtain⟨rfl,k,s,hk,rfl,rfl⟩:=hrel;have HK:=hd_ hk;by_cases hlt:k<m
     . have hlI:(k:Int)<m:=by omega
       obtain⟨b,o,hkl,rfl,_,hc⟩:=HB.out.byte (k:=k) hlt;have hzl:=HBK.out (by first|trivial|rfl) k hkl;obtain⟨z,hz⟩:=nm_ (bs[k]);rw [<-hz]at hc hzl;obtain⟨b2,o2,hzl2,rfl,_,hcz⟩:=HR.out.int (k:=z) (by rw [<-HLL.out];exact hzl);(have hzI:(z:Int)<n:=by rw [<-HLL.out];omega);obtain⟨y,hy⟩:=nm_ (l[z]);rw [<-hy]at hcz;clear hz hk hzl hy;go_wp2_with fail;go_roundg (gk-1)
       case measure=>have:=HK.out;omega
       case rel=>exact⟨rfl,k+1,_,by have:=HK.out;omega,by go_num,rfl⟩
     clear hk;go_wp2_with fail;(try go_ret);exact hR.out _ _ ⟨⟨_,rfl⟩,rfl⟩
 (have hb:(er == 0)=false:=by simpa using h0);go_wp2_with fail;refine HMY.out.mono ?_;rintro e w' ⟨rfl,rfl⟩;go_wp2_with fail;(try go_ret);exact hR.out _ _ ⟨⟨_,rfl⟩,rfl⟩
theorem Q0D (F:Nat->Prop) (A:Option Addr) (n c:Nat) (L:List Bool) (w:World) (hr:Rd w F A n (QN L)) (hn:n<=50000) :
   Calls Tryz.prog 108 #[.slice A n c] w fun e w'=>∃v,e = .returned v/\Qk w w' v (QE (L++[true])):=by
 (have hL:L.length=n:=by have:=hr.1;simpa [QN]using this);have HR:=hd_ hr;have HL:=hd_ hL;have HN:=hd_ hn;clear hr hL hn;refine Qg fun R hR=>?_;go_enter Tryz.func108,Tryz.ntmps108;go_wp2_with (at_builtin;go_must (refine Qt _ rfl (.const (.slice none 0 0)) (.tmp 3) _ rfl 4 _ 1 Tryz.underlying151 Za rfl (.slice none 0 0) [] rfl (Own.nil _ _) A n c (QN L) rfl HR.out (fun u hu=>by obtain⟨b,_,rfl⟩:=List.mem_map.1 hu;rfl) (by omega) (by have:=HN.out;simp;omega) ?_));intro v1 w1 ho hg ha;have F1:=hd_ (show Q0 w w1 from(Upd.refl _ w).grown hg (fun j e _=>by simp [Value.ownBlock]at e))
 have hown:∀k,v1.ownBlock=some k->w.heap.size<=k:=fun k hk=>by
   rcases ha with h|h
   . rw [h]at hk;simp [Value.ownBlock]at hk
   rw [h]at hk;injection hk with hk;omega
 obtain⟨A1,n1,c1,rfl,hn1⟩:=ho.form';obtain⟨P,hP⟩:=nm_ (w1.heap.size);obtain⟨w2,hw2⟩:=nm_ (w1.alloc (.cells #[.bool true] 4));(have f2:Q0 w1 w2:=by rw [hw2];exact(Upd.refl _ _).alloc _);(have b2:Blk w2 P 4 #[.bool true]:=by rw [hw2];exact Qc hP _ _);have RB:=hd_ (show Rd w2 (fun _=>True) (some ⟨P,0,none⟩) 1 [.bool true]from by simpa using Blk.rds b2);have O2:=hd_ (ho.fresh f2);have F2:=hd_ (F1.out.trans' f2);have HOW:=hd_ hown;have HW2:=hd_ hw2;have HP2:=hd_ hP;clear ho hg ha hown hn1 f2 b2 hw2 hP;go_wp2_with (at_builtin;simp only [<-HP2.out,<-HW2.out];go_must (refine Qt _ rfl (.tmp 4) (.tmp 5) _ rfl 4 _ 1 Tryz.underlying151 Za rfl (.slice A1 n1 c1) _ rfl O2.out (some ⟨P,0,none⟩) 1 1 [.bool true] rfl RB.out (by simp [Value.oneCell']) (by omega) (by have:=HN.out;have:=HL.out;simp [QN];omega) ?_));intro v3 w3 ho hg ha;have F3:=hd_ (F2.out.grown hg (fun k hk hlt=>by have:=HOW.out k hk;omega));obtain⟨A3,n3,c3,rfl,hn3⟩:=ho.form';obtain⟨hn4,hc4,hrd⟩:=ho.rd rfl;(have hn5:n3=n+1:=by rw [hn4];simp [QN];exact HL.out)
 have HB:=hd_ (Q0a (fun _=>True) A3 n3 c3 (L++[true]) w3 (by
   rw [<-hn4]at hrd;(have e:QN (L++[true])=[]++QN L++[.bool true]:=by simp [QN]);rw [e]
   exact hrd.mono fun _ _=>trivial) (by have:=HN.out;omega))
 clear ho hg ha hn3 hn4 hc4 hrd hn5 O2 RB HW2 HP2;go_wp2_with fail;refine HB.out.mono ?_;rintro e w4 ⟨v,rfl,nb⟩;have NB:=hd_ (Qk.up F3.out nb);clear nb HB;go_wp2_with fail;(try go_ret);exact hR.out _ _ ⟨_,rfl,NB.out⟩
theorem Q3F {l:List Int} (ht:Qj l) (bs:List Nat):(Yh l bs).length<=11*bs.length:=by
 have h:=JJ ht bs;unfold Yp at h;rw [Ji];exact h
theorem Jz.app {w w1 w2 w':World} {v v':Value} {a b:List Bool} (h:Jz w w1 v a) (f:Q0 w1 w2) (ho:Own w' 4 v' (QN a++QN b)) (hg:w2.grownBy w' v.ownBlock) (ha:v'.ownBlock=v.ownBlock\/v'.ownBlock=some w2.heap.size):Jz w w' v' (a++b) :=
 ⟨by rw [show QN (a++b)=QN a++QN b from List.map_append];exact ho,(h.2.1.trans' f).grown hg (fun k hk hlt=>by have:=h.2.2 k hk;omega),YD (S:=fun k=>w.heap.size<=k) ha (fun k hk=>h.2.2 k hk) (h.2.1.trans' f).size⟩
theorem KM (F G:Nat->Prop) (A B:Option Addr) (n c m d:Nat) (l:List Int) (bs:List Nat) (w:World) (hr:Rd w F A n (Qm l)) (hbs:Rd w G B m (Qa bs)) (hlt:∀b∈bs,b<256) (hn:n<=2^40) (hm:m<=4000) :
   Calls Tryz.prog 53 #[.slice A n c,.slice B m d] w fun e w'=>if Qu l bs=0 then ∃v,e = .returned (.tuple #[v,.int .i64 0])/\Qk w w' v (J7 l bs)else e = .returned (.tuple #[.slice none 0 0,.int .i64 (Qu l bs)])/\w=w':=by
 (have hL:bs.length=m:=by have:=hbs.1;simpa using this);(have hLl:l.length=n:=by have:=hr.1;simpa using this);have HMY:=hd_ (KH F G A B n c m d l bs w hr hbs hlt hn (by omega));by_cases h0:Qu l bs=0
 . have hT:Qj l:=by
     unfold Qu at h0;by_cases ht:Qj l
     . exact ht
     rw [if_neg ht]at h0;cases h0
   have hB:QL l bs=-1:=by
     unfold Qu at h0;rw [if_pos hT]at h0;by_cases hb:bs.length<=131072/\QL l bs=-1
     . exact hb.2
     rw [if_neg hb]at h0;cases h0
   simp only [if_pos h0];rw [h0]at HMY;have HCO:=hd_ (Q09 F A n c l w hr hT);have HBK:=hd_ (fun(k:Nat) (hk:k<bs.length)=>ZL hT hB _ (List.getElem_mem hk));have HB:=hd_ hbs.both;have HLT:=hd_ hlt;have HL:=hd_ hL;have HLL:=hd_ hLl;have HM:=hd_ hm;have HCK:=hd_ (fun s=>Jb hT s);have HEL:=hd_ (fun k=>Q3F hT (bs.drop k));(have hn256:n<=256:=by have:=hT.2.1;omega);(have hnI:(n:Int)<=256:=by omega);(have hmI:(m:Int)<=4000:=by omega);clear hr hbs hlt hn hm hL hLl h0 hT hB hn256;refine Qg fun R hR=>?_;go_enter Tryz.func53,Tryz.ntmps53;go_wp2_with fail;refine HMY.out.mono ?_;rintro e w' ⟨rfl,rfl⟩;go_wp2_with fail;refine HCO.out.mono ?_;rintro e w1 ⟨f1,g,rfl,hrk,hg⟩;have HRK:=hd_ hrk.both;have F1:=hd_ f1;clear hrk f1 hg HCO HMY;go_wp2_with fail;go_loopg [9,10] m (fun f vr vi wr=>f<=m/\vi = .int .i64 ((f:Int)-1)/\Jz w1 wr vr (Yh l (bs.drop f)))
   case atStart=>exact⟨Nat.le_refl _,rfl,by rw [List.drop_of_length_le (by have:=HL.out;omega)];exact Own.nil _ _,Upd.refl _ _,by simp [Value.ownBlock]⟩
   case round =>
     obtain⟨hf,rfl,nb⟩:=hrel
     cases gk with
     | zero =>
       rw [List.drop_zero]at nb;obtain⟨A3,n3,c3,rfl,hn3⟩:=nb.1.form';obtain⟨hn4,hc4,hrd⟩:=nb.1.rd rfl;rw [<-hn4]at hrd
       have hb3:n3<=50000:=by
         have:=HEL.out 0;rw [List.drop_zero]at this;rw [hn4];simp only [QN,List.length_map];have:=HL.out;have:=HM.out;omega
       have HC:=hd_ (Q0D _ A3 n3 c3 (Yh l bs) wr hrd hb3);have F2:=hd_ (F1.out.trans' nb.2.1);have h01:((0:Nat):Int)-1=-1:=rfl;clear nb hn3 hn4 hc4 hrd hb3 hf;simp only [h01];go_wp2_with fail;refine HC.out.mono ?_;rintro e w3 ⟨v,rfl,nb⟩;have NB:=hd_ (Qk.up F2.out nb);clear nb HC;go_wp2_with fail;(try go_ret);exact hR.out _ _ ⟨_,rfl,NB.out⟩
     | succ j =>
       (have hjm:j<m:=by omega);(have hjI:((j+1:Nat):Int)-1=j:=by omega);(have hjmI:(j:Int)<m:=by omega);obtain⟨b,o,hkl,rfl,_,hc⟩:=((HB.out.fresh F1.out).fresh nb.2.1).byte (k:=j) hjm;have hzk:=HBK.out j hkl;have hz8:=HLT.out _ (List.getElem_mem hkl);have HDR:=hd_ (show Yh l (bs.drop j)=Yh l (bs.drop (j+1))++Qs (Qh l bs[j]).1 (Qh l bs[j]).2 from by rw [List.drop_eq_getElem_cons hkl,Vj]);obtain⟨z,hz⟩:=nm_ (bs[j]);simp only [<-hz]at hc hzk hz8 HDR;(have hzn:z<n:=by rw [<-HLL.out];exact hzk.1);obtain⟨x,hx,hc0,hc1⟩:=((HRK.out.fresh nb.2.1).mono (fun b hb=>hb.1)).cd hzn
       have hxe:x=Qh l z:=by
         rw [Qz,List.getElem?_map,List.getElem?_range (by rw [HLL.out];exact hzn)]at hx;injection hx with hx;exact hx.symm
       subst hxe;have hcl:=HCK.out z;obtain⟨T,hT⟩:=nm_ ((Qh l z).1);obtain⟨V,hV⟩:=nm_ ((Qh l z).2);simp only [<-hT,<-hV]at hc0 hc1 hcl HDR;have hV11:V<2048:=Nat.lt_of_lt_of_le hcl.2 (Nat.pow_le_pow_right (n:=2) (by decide) hcl.1);(have hzI:(z:Int)<n:=by omega);(have hVI:(V:Int)<=2048:=by omega);(have hTI:(T:Int)<=11:=by omega);have HBI:=hd_ (fun W=>Q1g V T W (by omega) (by omega))
       have HLB:=hd_ (show(QN (Yh l (bs.drop (j+1)))).length+T<=2^40 from by
         have h1:=HEL.out (j+1);rw [List.length_drop]at h1;have:=HL.out;have:=HM.out
         simp only [QN,List.length_map];omega)
       have NB:=hd_ nb;have HF:=hd_ (And.intro hf hjm);simp only [hjI];clear hx hz hzk hz8 hzn hT hV hcl hV11 nb hf hjm hkl;obtain⟨A3,n3,c3,rfl,hn3⟩:=NB.out.1.form';clear hn3;obtain⟨P,hP⟩:=nm_ (wr.heap.size);obtain⟨w2,hw2⟩:=nm_ (wr.alloc (.cells #[.int .i64 (T:Nat),.int .u32 (V:Nat)] 133));have F2:=hd_ (show Q0 wr w2 by rw [hw2];exact(Upd.refl _ _).alloc _);(have b2:Blk w2 P 133 #[.int .i64 (T:Nat),.int .u32 (V:Nat)]:=by rw [hw2];exact Qc hP _ _);obtain⟨y0,y1⟩:=(b2).cells2;go_upto_region 10 with fail;simp only [<-hP,<-hw2];clear hP hw2 b2 hc0 hc1 hc;go_wp2_with fail;refine(HBI.out w2).mono ?_;rintro e w3 ⟨v,rfl,nb⟩;obtain⟨A5,n5,c5,rfl,hn5⟩:=nb.1.form';obtain⟨hn6,hc6,hrd⟩:=nb.1.rd rfl;rw [<-hn6]at hrd;(have hn7:n5=T:=by rw [hn6];simp [QN]);have F3:=hd_ (F2.out.trans' nb.2.1);have RB:=hd_ hrd;have HLB2:=hd_ (show(QN (Yh l (bs.drop (j+1)))).length+n5<=2^40 from by rw [hn7];exact HLB.out);have O3:=hd_ (NB.out.1.fresh F3.out);clear nb hn5 hn6 hc6 hrd hn7 HBI y0 y1;go_wp2_with (at_builtin;go_must (refine Qt _ rfl (.tmp 38) (.tmp 44) _ rfl 4 _ 1 Tryz.underlying151 Za rfl (.slice A3 n3 c3) _ rfl O3.out A5 n5 c5 _ rfl RB.out (Q1f _) (by omega) HLB2.out ?_));intro v4 w4 ho hg ha;have N4:=hd_ (NB.out.app F3.out ho hg ha);clear ho hg ha O3 RB HLB2;go_wp2_with fail;go_roundg j
       case measure=>omega
       case rel=>exact⟨by have:=HF.out;omega,by go_num,by rw [HDR.out];exact N4.out⟩
 simp only [if_neg h0];obtain⟨er,her⟩:=nm_ (Qu l bs);rw [<-her]at HMY h0 ⊢;(have hb:(er == 0)=false:=by simpa using h0);clear hr hbs hlt hn hm hL hLl her;refine Qg fun R hR=>?_;go_enter Tryz.func53,Tryz.ntmps53;go_wp2_with fail;refine HMY.out.mono ?_;rintro e w' ⟨rfl,rfl⟩;go_wp2_with fail;(try go_ret);exact hR.out _ _ ⟨rfl,rfl⟩
def atF (n i:Nat):Nat:=if i<=3 then i*((n+3) / 4)else n
def J8 (bs:List Nat) (i:Nat):List Nat:=(bs.drop (atF bs.length i)).take (atF bs.length (i+1)-atF bs.length i)
def YO (l:List Int) (bs:List Nat):List (List Nat):=[J7 l (J8 bs 0),J7 l (J8 bs 1),J7 l (J8 bs 2),J7 l (J8 bs 3)]
def Jj (l:List Int) (bs:List Nat):List Nat:=Yv (YO l bs) 3++(YO l bs).flatten
theorem Js.parts {w W:World} {Ls:Nat->List Nat} {v:Value} (h:Js w Ls 4 v W):∃P c,v = .slice P 4 c/\4<=c/\Yz W (fun _=>True) P 4 [Ls 0,Ls 1,Ls 2,Ls 3]:=by
 obtain⟨vs,hvl,ov,fv,ob,one,hp⟩:=h;obtain⟨P,c,rfl,hc,hr⟩:=ov.form;rw [hvl]at hc hr ⊢;refine⟨P,c,rfl,hc,rfl,fun i hi=>?_⟩;have h4:i<4:=hi;obtain⟨b,o,rfl,_,hbs,hcell⟩:=hr.at_ (k:=i) h4;obtain⟨A,n,c1,hv,hrd⟩:=hp i h4;rw [hv]at hcell;refine⟨b,o,A,n,c1,rfl,hbs,hcell,?_⟩
 have e:[Ls 0,Ls 1,Ls 2,Ls 3][i]=Ls i:=by
   (rcases(show i=0\/i=1\/i=2\/i=3 by omega)with rfl|rfl|rfl|rfl<;>rfl)
 rw [e];exact hrd.mono fun _ _=>trivial
theorem JM {l:List Int} {bs:List Nat} (h:Qu l bs=0):(J7 l bs).length<=200000:=by
 have hlen:=YI h
 have hT:Qj l:=by
   unfold Qu at h;by_cases ht:Qj l
   . exact ht
   rw [if_neg ht]at h;cases h
 unfold J7;rw [JD,List.length_append,Ji];have:=JJ hT bs;unfold Yp at this;simp only [List.length_cons,List.length_nil];omega
theorem Q3G (F G:Nat->Prop) (A B:Option Addr) (n c m d:Nat) (l:List Int) (bs:List Nat) (w:World) (hr:Rd w F A n (Qm l)) (hbs:Rd w G B m (Qa bs)) (hlt:∀b∈bs,b<256) (hn:n<=2^40) (hm:m<=2^40) (hc:n<=c) (hd:m<=d) (her:Y9 l bs=0) :
   Calls Tryz.prog 50 #[.slice A n c,.slice B m d] w fun e w'=>∃v,e = .returned (.tuple #[v,.int .i64 0])/\Qk w w' v (Jj l bs):=by
 have hmf:∀(fn:Fn) (first cap:Array Value) (w:World),(Instr.makeFunc fn first cap).run Tryz.prog w = .ok (.func fn first cap) w:=fun _ _ _ _=>rfl;(have hL:bs.length=m:=by have:=hbs.1;simpa using this)
 have h1:Qu l bs=0/\¬bs.length<=3*((bs.length+3) / 4):=by
   unfold Y9 at her;by_cases h:Qu l bs=0
   . rw [if_pos h]at her
     by_cases h2:bs.length<=3*((bs.length+3) / 4)
     . rw [if_pos h2]at her;cases her
     exact⟨h,h2⟩
   rw [if_neg h]at her;exact absurd her h
 have hlen:=YI h1.1;obtain⟨k,hk⟩:=nm_ ((m+3) / 4);obtain⟨r,hrk⟩:∃r,3*k+r=m:=⟨m-3*k,by omega⟩;(have hat:∀i,i<=3->atF m i=i*k:=fun i hi=>by unfold atF;rw [if_pos hi,hk]);(have hat4:∀i,4<=i->atF m i=m:=fun i hi=>by unfold atF;rw [if_neg (by omega)]);obtain⟨w0,hw0⟩:=nm_ ((((w.alloc (.cells #[.slice A n c] 33)).alloc (.cells #[.slice B m d] 22)).alloc (.cells #[.slice none 0 0] 22)).alloc (.cells #[.int .i64 0] 24));obtain⟨H,hH⟩:=nm_ (w.heap.size);(have f0:Q0 w w0:=by rw [hw0];exact((((Upd.refl _ _).alloc _).alloc _).alloc _).alloc _);(have b0:Blk w0 H 33 #[.slice A n c]:=by rw [hw0];exact(((Qc hH _ _).alloc _).alloc _).alloc _);(have b1:Blk w0 (H+1) 22 #[.slice B m d]:=by rw [hw0];exact((Qc (by simp [hH]) _ _).alloc _).alloc _);(have bo:Blk w0 (H+1+1) 22 #[.slice none 0 0]:=by rw [hw0];exact(Qc (by simp [hH]) _ _).alloc _);(have be:Blk w0 (H+1+1+1) 24 #[.int .i64 0]:=by rw [hw0];exact Qc (by simp [hH]) _ _);have HBL:=hd_ (X9 F G A B n c m d l bs w0 (hr.fresh f0) (hbs.fresh f0) hlt hn hm hc);rw [if_pos h1.1,h1.1]at HBL;have HPK:=hd_ (fun W=>Q0C m k r W (by omega) hk hrk (by omega))
 have HEA:=hd_ (fun W (hW:Q0 w0 W)=>Q1V H (H+1) (fun i=>if i<3 then k else r) (atF m) (fun i=>J7 l (J8 bs i)) W (by rw [hat 0 (by omega)];simp)
   (fun i hi=>by
     show atF m (i+1)=atF m i+if i<3 then k else r;rcases(show i=0\/i=1\/i=2\/i=3 by omega)with rfl|rfl|rfl|rfl
     . rw [hat 1 (by omega),hat 0 (by omega),if_pos (by omega)];omega
     . rw [hat 2 (by omega),hat 1 (by omega),if_pos (by omega)];omega
     . rw [hat 3 (by omega),hat 2 (by omega),if_pos (by omega)];omega
     rw [hat4 4 (by omega),hat 3 (by omega),if_neg (by omega)];omega)
   (fun i=>by
     rcases(show i=0\/i=1\/i=2\/i=3\/4<=i by omega)with rfl|rfl|rfl|rfl|h
     . rw [hat 0 (by omega)];omega
     . rw [hat 1 (by omega)];omega
     . rw [hat 2 (by omega)];omega
     . rw [hat 3 (by omega)];omega
     rw [hat4 i h];omega)
   (fun i hi W2 hW2=>by
     have h2:atF m i<=atF m (i+1)/\atF m (i+1)<=m:=by
       rcases(show i=0\/i=1\/i=2\/i=3 by omega)with rfl|rfl|rfl|rfl
       . rw [hat 1 (by omega),hat 0 (by omega)];omega
       . rw [hat 2 (by omega),hat 1 (by omega)];omega
       . rw [hat 3 (by omega),hat 2 (by omega)];omega
       rw [hat4 4 (by omega),hat 3 (by omega)];omega
     have hf:=f0.trans' (hW.trans' hW2);have h3:=Q1T F G A B n c m d (atF m i) (atF m (i+1)) (i:Nat) H (H+1) l bs W2 (hr.fresh hf) (hbs.fresh hf) hlt hn (by omega) hc hd (b0.fresh (hW.trans' hW2)) (b1.fresh (hW.trans' hW2)) h2.1 h2.2 h1.1;unfold J8;rw [hL]
     exact h3))
 simp only [show((if 0<3 then k else r:Nat))=k from rfl,show((if 1<3 then k else r:Nat))=k from rfl,show((if 2<3 then k else r:Nat))=k from rfl,show((if 3<3 then k else r:Nat))=r from rfl]at HEA
 have HSU:=hd_ (show Y0 (YO l bs)<=2^32 from by
   have q:=fun i=>JM (YW h1.1 (atF bs.length i) (atF bs.length (i+1)-atF bs.length i));have q0:=q 0;have q1:=q 1;have q2:=q 2;have q3:=q 3;simp only [YO,Y0,J8]
   omega)
 have x0:=b0.cell 0;have x1:=b1.cell 0;simp at x0 x1;have B1:=hd_ b1;have BO:=hd_ bo;have BE:=hd_ be;have F0:=hd_ f0;have HW:=hd_ hw0;have HH:=hd_ hH;(have hz1:(w.alloc (.cells #[.slice A n c] 33)).heap.size=H+1:=by simp [hH]);(have hz2:((w.alloc (.cells #[.slice A n c] 33)).alloc (.cells #[.slice B m d] 22)).heap.size=H+1+1:=by simp [hH]);(have hz3:(((w.alloc (.cells #[.slice A n c] 33)).alloc (.cells #[.slice B m d] 22)).alloc (.cells #[.slice none 0 0] 22)).heap.size=H+1+1+1:=by simp [hH]);clear hw0 hH f0 b0 b1 bo be hr hbs hlt hn hm hc hd hL her h1 hlen hk hrk hat hat4;refine Qg fun R hR=>?_;go_enter_defers Tryz.func50,Tryz.ntmps50;go_upto_region 1 with fail;simp only [hz1,hz2,hz3,<-HH.out,<-HW.out];clear hz1 hz2 hz3;go_wp2_with fail;refine HBL.out.mono ?_;rintro e w1 ⟨rfl,f1⟩;have F1:=hd_ f1;have y1:=(B1.out.fresh f1).cell 0;simp at y1;clear f1 HBL;go_wp2_with fail;refine(Jg _ _ _ (by simpa using(Blk.new w1 24 #[.int .i64 0]).cell 0)).mono ?_;rintro e w2 ⟨rfl,hw2⟩;have F2:=hd_ (F1.out.trans' (show Q0 w1 w2 by rw [hw2];exact(Upd.refl _ _).alloc _));have y2:=(B1.out.fresh F2.out).cell 0;simp at y2;clear hw2 y1;go_wp2_with fail;refine(HPK.out w2).mono ?_;rintro e w3 ⟨rfl,f3⟩;have F3:=hd_ (F2.out.trans' f3);have HE3:=hd_ (HEA.out w3 (F2.out.trans' f3));clear f3 HEA;go_wp2_with fail;refine HE3.out.mono ?_;rintro e w4 ⟨v,rfl,ev⟩;obtain⟨P,c4,rfl,hc4,hpa⟩:=ev.parts;have HJ:=hd_ (Q1W _ P c4 (YO l bs) w4 hpa hc4 HSU.out);obtain⟨_,_,_,fv,_⟩:=ev;have F4:=hd_ (F3.out.trans' fv);clear fv hpa HE3;go_wp2_with fail;refine HJ.out.mono ?_;rintro e w8 ⟨v,rfl,ov,fv,bv⟩;obtain⟨A8,n8,c8,rfl,hn8⟩:=ov.form';clear hn8;have f8:=F4.out.trans' fv;have bo8:=BO.out.fresh f8;have be8:=BE.out.fresh f8;have c0:=bo8.cell 0;have z0:=bo8.frozen 0;have c1:=be8.cell 0;have z1:=be8.frozen 0;simp at c0 c1;have OV:=hd_ ov;have F8:=hd_ (F0.out.trans' f8);have BV:=hd_ (show ∀b,Value.ownBlock (.slice A8 n8 c8)=some b->H+1+1+1<b from fun b hb=>by have h1:=bv b hb;have h2:=BE.out.lt;have h3:=F4.out.size;omega);have BO2:=hd_ bo8;have BE2:=hd_ be8;clear ov fv bv f8 bo8 be8 HJ;go_wp2_with fail;change Leaves _ _ _ _ _ _ _;refine leaves_cons (f:=92) (args:=#[.pointer (some ⟨H+1+1+1,0,none⟩),.func (.func 93) #[] #[.pointer (some ⟨H+1+1,0,none⟩)]]) (by simp) (by simp [go_sem]) ?_;have b2:=(BO2.out.set_ 0 (.slice A8 n8 c8)).far (p:=⟨H+1+1+1,0,none⟩) (by simp) (.int .i64 0);have e2:=(BE2.out.far (p:=⟨H+1+1,0,none⟩) (by simp) (.slice A8 n8 c8)).set_ 0 (.int .i64 0);have d0:=b2.cell 0;have d1:=e2.cell 0;simp at d0 d1;refine(KN _ _ _).mono ?_;rintro e u' w'' ⟨rfl,rfl,rfl⟩;have us:Upd (fun b=>b=H+1+1\/b=H+1+1+1) w8 ((w8.setCell ⟨H+1+1,0,none⟩ (.slice A8 n8 c8)).setCell ⟨H+1+1+1,0,none⟩ (.int .i64 0)):=((Upd.refl (fun b=>b=H+1+1\/b=H+1+1+1) w8).setCell (p:=⟨H+1+1,0,none⟩) (fun _=>.inl rfl) _).setCell (p:=⟨H+1+1+1,0,none⟩) (fun _=>.inr rfl) _
 refine⟨.tuple #[.slice A8 n8 c8,.int .i64 0],?_,hR.out _ _ ⟨_,rfl,?_,F8.out.trans us (fun b hb e=>by have:=HH.out;omega),fun b hb=>by have h1:=BV.out b hb;have h2:=HH.out;omega⟩⟩
 . simp [results,Tryz.results50,go_sem,d0,d1]
 exact OV.out.upd us (fun b hb e=>by have:=BV.out b hb;omega)
end Go.Proofs.YtckjdhaflokcgaaGreat
