/- Contracts and plain lemmas, part 14. Conditions: none beyond those of each. -/
import Derived.Test.YtckjdhaflokcgaaGreatR13
set_option maxHeartbeats 8000000
set_option linter.unusedVariables false
set_option linter.unusedSimpArgs false
set_option linter.unnecessarySimpa false
set_option maxRecDepth 100000
namespace Go.Proofs.YtckjdhaflokcgaaGreat
open Go.RowKit Go.Proofs.Tryz
def YV (w:World) (F:Nat->Prop) (p:Nat) (l:List Int):Prop :=
  ∃(A:Option Addr) (c:Nat) (lv:Value),Blk w p 377 #[.slice A (2^Qe l) c,.int .i64 (Qe l:Nat),lv]/\RdK w F 2 A (2^Qe l) ((Z3 l).map en2)
theorem YV.upd {w w':World} {F S:Nat->Prop} {p:Nat} {l:List Int} (h:YV w F p l) (hu:Upd S w w') (hp:¬S p) (hF:∀b,b<w.heap.size->F b->¬S b):YV w' F p l:=by
 obtain⟨A,c,lv,hb,hr⟩:=h;exact⟨A,c,lv,hb.upd hu hp,hr.upd hu hF⟩
theorem YV.fresh {w w':World} {F:Nat->Prop} {p:Nat} {l:List Int} (h:YV w F p l) (hu:Q0 w w'):YV w' F p l:=h.upd hu (λh=>h) (λ_ _ _ h=>h)
theorem YV.lt {w:World} {F:Nat->Prop} {p:Nat} {l:List Int} (h:YV w F p l):p<w.heap.size:=by
 obtain⟨A,c,lv,hb,hr⟩:=h;exact hb.lt
theorem Q95 (F:Nat->Prop) (A:Option Addr) (n c:Nat) (l:List Int) (w:World) (hr:Rd w F A n (Q7 l)) (ht:Qc l) (hc:n<=c) :
   Calls prog 308 #[.slice A n c] w λe w'=>∃p,e = .returned (.tuple #[.pointer (some ⟨p,0,none⟩),.int .i64 0])/\YV w' (λb=>w.heap.size<=b) p l/\w.heap.size<=p/\Q0 w w':=by
 (have hLl:l.length=n:=by have:=hr.1;simpa using this);have HEN:=hd_ (Q92 F A n c l w hr ht hc)
 have HMX:=hd_ (λW (hW:Q0 w W)=>show Calls prog 151 #[.slice A n c] W λe w'=>Q0 W w'/\e = .returned (.tuple #[.int .i64 (Qe l:Nat),.int .i64 0])from
   (Q0y F A n c l W (hr.fresh hW) (by have:=ht.2.1;omega) hc).mono λe w' h=>⟨h.1,by have h2:=h.2;rw [if_pos ht]at h2;exact h2⟩)
 have HCL:=hd_ (λW (hW:Q0 w W)=>ZO A n n (Q7 l) W (hr.fresh hW) (by intro u hu;obtain⟨x,_,rfl⟩:=List.mem_map.1 hu;rfl) (by have:=ht.2.1;omega));have HT:=hd_ ht;(have hnI:(n:Int)<=256:=by have:=ht.2.1;omega);(have hcI:(n:Int)<=c:=by omega);(have hnn:(0:Int)<=n:=by omega);have hEl:=JZ ht;have HEL:=hd_ hEl;clear hr ht hLl hEl;refine Q8 λR hR=>?_;go_enter func308,ntmps308;go_wp2_with fail;refine HEN.mono ?_;rintro e w1 ⟨v,rfl,ov,hv,f1⟩;obtain⟨A1,n1,c1,rfl,hn1⟩:=ov.form';obtain⟨hn2,_,hR1⟩:=ov.rd rfl;(have hn3:n1=2^Qe l:=by rw [hn2,List.length_map,HEL.out]);rw [<-hn2]at hR1;have HR1:=hd_ (hR1.mono (G:=λb=>w.heap.size<=b) λb hb=>hv b hb);have HN3:=hd_ hn3;have F1:=hd_ f1;clear ov hv f1 hn1 hn2 hR1 hn3 HEN;go_wp2_with fail;refine(HMX w1 F1.out).mono ?_;rintro e w2 ⟨f2,rfl⟩;have F2:=hd_ f2;clear f2 HMX;go_wp2_with fail
 refine(Q57 _ 2 2 _ (λk hk=>by
   have h0:=(Blk.new w2 24 #[.int .i64 0,.int .i64 0]).cell 0;have h1:=(Blk.new w2 24 #[.int .i64 0,.int .i64 0]).cell 1;rcases(show k=0\/k=1 by omega)with rfl|rfl
   . simpa using h0
   simpa using h1) (by omega)).mono ?_
 rintro e w3 ⟨rfl,hw3⟩;have F3:=hd_ ((F1.trans' F2.out).trans' (show Q0 w2 w3 by rw [hw3];exact(Upd.refl _ _).alloc _));have F13:=hd_ (F2.trans' (show Q0 w2 w3 by rw [hw3];exact(Upd.refl _ _).alloc _));clear hw3 F2;go_wp2_with fail;refine(HCL w3 F3.out).mono ?_;rintro e w4 ⟨v4,rfl,o4,f4,hb4⟩;obtain⟨A4,n4,c4,rfl,hn4⟩:=o4.form';have F4:=hd_ (F3.trans' f4);have F14:=hd_ (F13.trans' f4);clear o4 f4 hb4 hn4 HCL;go_wp2_with fail;(try go_ret);have fa:Q0 w4 (w4.alloc (.cells #[.slice A1 n1 c1,.int .i64 (Qe l:Nat),.slice A4 n4 c4] 377)):=(Upd.refl _ _).alloc _;have hn:=HN3.out;subst hn;exact hR _ _ ⟨w4.heap.size,rfl,⟨A1,c1,_,Blk.new _ _ _,HR1.fresh (F14.trans' fa)⟩,F4.size,F4.trans' fa⟩
theorem Q7t (F:Nat->Prop) (p:Nat) (l:List Int) (w:World) (h:YV w F p l) (ht:Qc l) :
   Calls prog 319 #[.pointer (some ⟨p,0,none⟩)] w λe w'=>e = .returned (.bool false)/\Q0 w w':=by
 obtain⟨A,c,lv,hb,hr⟩:=h;have c1:=hb.cell 1;simp at c1;have hm:=Q2t ht;(have hmI:((Qe l:Int) == 0)=false:=by simp;omega);clear hb hr hm ht;refine Q8 λR hR=>?_;go_enter func319,ntmps319;go_wp2_with fail;(try go_ret);exact hR _ _ ⟨by simp [hmI],Upd.refl _ _⟩
theorem Q96 (F:Nat->Prop) (p:Nat) (l:List Int) (x n:Nat) (w:World) (h:YV w F p l) (ht:Qc l) (hx:x<2^n) (hn:n<=11) :
   Calls prog 309 #[.pointer (some ⟨p,0,none⟩),.int .u64 (x:Nat),.int .i64 (n:Nat)] w λe w' =>
     e = .returned (if(Yf l x n).2<=n then .tuple #[.int .i64 ((Yf l x n).1:Nat),.int .i64 ((Yf l x n).2:Nat),.int .i64 0]else .tuple #[.int .i64 0,.int .i64 0,.int .i64 3])/\Q0 w w':=by
 have HNO:=hd_ (Q7t F p l w h ht);have HH:=hd_ (λW (hW:Q0 w W)=>h.fresh hW);(have hnI:(n:Int)<=11:=by omega);(have hn0:0<=(n:Int):=by omega);have HT:=hd_ ht;have HX:=hd_ hx;have HN:=hd_ hn;clear h ht hx hn;refine Q8 λR hR=>?_;go_enter func309,ntmps309;go_wp2_with fail;refine HNO.mono ?_;rintro e w1 ⟨rfl,f1⟩;have F1:=hd_ f1;obtain⟨A,c,lv,hb,hr⟩:=HH w1 f1;obtain⟨j,hj⟩:=nm_ (x*2^(Qe l-n) / 2^(n-Qe l));(have hjl:j<2^Qe l:=by rw [hj,<-JZ HT.out];exact Q1W HT.out HX.out);(have hfk:Yf l x n=((Z3 l)[j]?).getD (0,0):=by unfold Yf;rw [<-hj]);(have hje:j<(Z3 l).length:=by rw [JZ HT.out];exact hjl);rw [List.getElem?_eq_getElem hje,Option.getD_some]at hfk;have hmm:Qe l<=11:=JK HT.out;obtain⟨b,o,rfl,_,_,hc9⟩:=hr.at_ (r:=0) hjl;(have hrow:((Z3 l).map en2)[j]'(by simpa using hje)=en2 (Yf l x n):=by simp [hfk]);have c0:=hc9 0 (by omega);have c1:=hc9 1 (by omega);rw [hrow]at c0 c1;obtain⟨⟨sy,ln⟩,hsl⟩:∃q,q=Yf l x n:=⟨_,rfl⟩;rw [<-hsl]at hR c0 c1;simp only [en2,List.getElem?_cons_zero,List.getElem?_cons_succ]at c0 c1;simp at c0 c1;simp only at hR
 have hbl:b<w1.heap.size:=by
   rcases Nat.lt_or_ge b w1.heap.size with h1|h1
   . exact h1
   simp [World.cell?,Array.getElem?_eq_none h1]at c0
 have HCE:=hd_ (show ∀W,Q0 w1 W->W.cell? ⟨b,o+j*2,none⟩=some (.int .i64 (sy:Nat))/\W.cell? ⟨b,o+j*2+1,none⟩=some (.int .i64 (ln:Nat))from λW hW=>⟨by rw [Q0.cells hW _ _ hbl];exact c0,by rw [Q0.cells hW _ _ hbl];exact c1⟩);obtain⟨B,hB⟩:=nm_ (Qe l);obtain⟨N,hN⟩:=nm_ (2^Qe l);rw [<-hN]at hb hjl;rw [<-hB]at hb hj hmm;have HCB:=hd_ (show ∀W,Q0 w1 W->W.cell? ⟨p,0,none⟩=some (.slice (some ⟨b,o,none⟩) N c)/\W.cell? ⟨p,1,none⟩=some (.int .i64 (B:Nat))from λW hW=>⟨by simpa using(hb.fresh hW).cell 0,by simpa using(hb.fresh hW).cell 1⟩);obtain⟨d1,hd1⟩:=nm_ (B-n);obtain⟨d2,hd2⟩:=nm_ (n-B);obtain⟨y,hy⟩:=nm_ (x*2^d1);rw [<-hd1,<-hd2,<-hy]at hj;(have hx64:(x:Int)<2048:=by have h1:=HX.out;have h2:2^n<=2^11:=Nat.pow_le_pow_right (by decide) HN.out;omega);have hp1:2^d1<=2048:=Nat.pow_le_pow_right (n:=2) (by decide) (show d1<=11 by omega);(have hyl:y<=4194304:=by rw [hy];exact Nat.le_trans (Nat.mul_le_mul (show x<=2048 by omega) hp1) (by decide))
 have hsh:(x:Int) / 2^n=0:=by
   have h1:=HX.out;(have h2:((2:Int)^n)=((2^n:Nat):Int):=by simp);rw [h2];exact Int.ediv_eq_zero_of_lt (by omega) (by omega)
 have hs1:IntKind.i64.wrap ((B:Int)-n)=(B:Int)-n:=IntWalk.i64_in _ (by omega);have hs2:IntKind.i64.wrap ((n:Int)-B)=(n:Int)-B:=IntWalk.i64_in _ (by omega);have HM:=hd_ (show max 0 ((B:Int)-n)=(d1:Nat)/\max 0 ((n:Int)-B)=(d2:Nat)from⟨by omega,by omega⟩)
 have hw1:IntKind.u64.wrap ((x:Int)*2^min d1 64)=(y:Nat):=by
   rw [show min d1 64=d1 by omega];(have h1:((x:Int)*2^d1)=(y:Nat):=by rw [hy];simp);rw [h1];unfold IntKind.wrap;simp [IntKind.bits];omega
 (have hw2:(y:Int) / 2^min d2 64=(j:Nat):=by rw [show min d2 64=d2 by omega,hj];simp);(have hjI:(j:Int)<N:=by omega);(have hj0:0<=(j:Int):=by omega);(have hnI64:¬(64:Int)<n:=by omega);clear hb hr hc9 hrow hfk hje hjl hsl hB hN hd1 hd2 hy hj hp1 hyl c0 c1 hbl f1 HNO hmm;go_upto_region 5 with fail;obtain⟨Cw,cEq⟩:=exC (λW=>Q0 w1 W);obtain⟨Y,yA⟩:=exY [λxs W=>(xs 0) = .pointer (some ⟨p,0,none⟩),λxs W=>(xs 1) = .pointer (some ⟨p,0,none⟩),λxs W=>(xs 2) = .pointer (some ⟨p,0,none⟩),λxs W=>(xs 3) = .slice (some ⟨b,o,none⟩) N c,λxs W=>(xs 4) = .int .u64 (x:Nat),λxs W=>(xs 5) = .pointer (some ⟨p,0,none⟩),λxs W=>(xs 6) = .pointer (some ⟨p,0,none⟩),λxs W=>(xs 7) = .pointer (some ⟨p,1,none⟩),λxs W=>(xs 8) = .int .i64 (B:Nat),λxs W=>(xs 9) = .int .i64 (n:Nat),λxs W=>(xs 10) = .int .i64 ((B:Int)-n),λxs W=>(xs 11) = .int .i64 (d1:Nat),λxs W=>(xs 12) = .int .u64 (y:Nat),λxs W=>(xs 13) = .int .i64 (n:Nat),λxs W=>(xs 14) = .pointer (some ⟨p,0,none⟩),λxs W=>(xs 15) = .pointer (some ⟨p,0,none⟩),λxs W=>(xs 16) = .pointer (some ⟨p,1,none⟩),λxs W=>(xs 17) = .int .i64 (B:Nat),λxs W=>(xs 18) = .int .i64 ((n:Int)-B),λxs W=>(xs 19) = .int .i64 (d2:Nat),λxs W=>(xs 20) = .int .u64 (j:Nat),λxs W=>(xs 21) = .pointer (some ⟨b,o+j*2,none⟩),λxs W=>(xs 22) = .agg #[.int .i64 (sy:Nat),.int .i64 (ln:Nat)],λxs W=>∃q,(xs 23) = .pointer (some ⟨q,0,none⟩)/\Blk W q 379 #[.int .i64 0,.int .i64 0]/\w1.heap.size<=q,λxs W=>∃q,(xs 23) = .pointer (some ⟨q,0,none⟩)/\Blk W q 379 #[.int .i64 (sy:Nat),.int .i64 (ln:Nat)]];have yf0:=yA 0;have yf1:=yA 1;have yf2:=yA 2;have yf3:=yA 3;have yf4:=yA 4;have yf5:=yA 5;have yf6:=yA 6;have yf7:=yA 7;have yf8:=yA 8;have yf9:=yA 9;have yf10:=yA 10;have yf11:=yA 11;have yf12:=yA 12;have yf13:=yA 13;have yf14:=yA 14;have yf15:=yA 15;have yf16:=yA 16;have yf17:=yA 17;have yf18:=yA 18;have yf19:=yA 19;have yf20:=yA 20;have yf21:=yA 21;have yf22:=yA 22;have yf23:=yA 23;have yf24:=yA 24;simp only [List.getD_cons_zero,List.getD_cons_succ]at yf0 yf1 yf2 yf3 yf4 yf5 yf6 yf7 yf8 yf9 yf10 yf11 yf12 yf13 yf14 yf15 yf16 yf17 yf18 yf19 yf20 yf21 yf22 yf23 yf24;(have yN:∀j xs W,25<=j->Y j xs W=True:=λj xs W hj=>by rw [yA,Y6 _ _ _ hj])
 have yP:∀j xs W W',j∈[0,1,2,3,4,5,6,7,8,9,10,11,12,13,14,15,16,17,18,19,20,21,22]->Y j xs W->Y j xs W':=by
   intro j xs W W' hj hy;simp only [List.mem_cons,List.not_mem_nil,or_false]at hj;(rcases hj with rfl|rfl|rfl|rfl|rfl|rfl|rfl|rfl|rfl|rfl|rfl|rfl|rfl|rfl|rfl|rfl|rfl|rfl|rfl|rfl|rfl|rfl|rfl<;>(rw [yA]at hy|-;exact hy))
 have yM:Jt [[0],[1],[2],[3],[4],[5],[6],[7],[8],[9],[10],[11],[12],[13],[14],[15],[16],[17],[18],[19],[20],[21],[22],[23],[23]] Y:=by
   intro j xs xs' W hh hy;by_cases hj:25<=j
   . rw [yN j _ _ hj];trivial
   (have hj':j=0\/j=1\/j=2\/j=3\/j=4\/j=5\/j=6\/j=7\/j=8\/j=9\/j=10\/j=11\/j=12\/j=13\/j=14\/j=15\/j=16\/j=17\/j=18\/j=19\/j=20\/j=21\/j=22\/j=23\/j=24:=by omega);rcases hj' with rfl|rfl|rfl|rfl|rfl|rfl|rfl|rfl|rfl|rfl|rfl|rfl|rfl|rfl|rfl|rfl|rfl|rfl|rfl|rfl|rfl|rfl|rfl|rfl|rfl;(all_goals(rw [yA]at hy|-;(try simp only [List.getD_cons_zero,List.getD_cons_succ]at hy|-);repeat rw [<-hh]));(all_goals first|exact hy|decide)
 clear yA
 have yR:∀j xs,25<=j->Y j xs (w1.drew):=by
   intro j xs hj;rcases(show 25<=j by omega)with hj;rw [yN _ _ _ hj];trivial
 refine Ya Cw (λj=>if j=23 then [24]else []) Y [(0,some 30),(1,some 31),(2,some 32),(3,some 33),(4,some 34),(5,some 35),(6,some 36),(7,some 37),(8,some 38),(9,some 39),(10,some 40),(11,some 41),(12,some 42),(13,some 43),(14,some 44),(15,some 45),(16,some 46),(17,some 47),(18,some 48),(19,some 49),(20,some 50),(21,some 51),(22,some 52),(23,some 9),(24,none)] (by kernel_rfl) (by kernel_rfl) (by kernel_rfl) (by rw [cEq];exact(Upd.refl _ _).drew) (λj hj=>yR j _ hj) ?_ ?_
 . refine Q9.p cEq yM [] (by kernel_rfl) (by kernel_rfl) (λxs W hw hd K hK'=>?_) ?_
   . simp only [Q5,Act.put,sb_,sz_,ss_]at hK'|-
     go_simp;exact hK' _ (by rw [yf0];exact if_pos rfl)
   refine Q9.p cEq yM [(0,some 30)] (by kernel_rfl) (by kernel_rfl) (λxs W hw hd K hK'=>?_) ?_
   . simp only [Qd]at hd
     obtain⟨hf0,_⟩:=hd;simp only [Q5,Act.put,sb_,sz_,ss_]at hK'|-;rw [yf0]at hf0;simp only [hf0]at hK'|-;go_simp;exact hK' _ (by rw [yf1];exact if_pos rfl)
   refine Q9.p cEq yM [(1,some 31)] (by kernel_rfl) (by kernel_rfl) (λxs W hw hd K hK'=>?_) ?_
   . simp only [Qd]at hd
     obtain⟨hf1,_⟩:=hd;simp only [Q5,Act.put,sb_,sz_,ss_]at hK'|-;rw [yf1]at hf1;simp only [hf1]at hK'|-;go_simp;exact hK' _ (by rw [yf2];exact if_pos rfl)
   refine Q9.p cEq yM [(2,some 32)] (by kernel_rfl) (by kernel_rfl) (λxs W hw hd K hK'=>?_) ?_
   . simp only [Qd]at hd
     obtain⟨hf2,_⟩:=hd;simp only [Q5,Act.put,sb_,sz_,ss_]at hK'|-;rw [yf2]at hf2;simp only [hf2]at hK'|-;have cl:=HCB W hw;obtain⟨cl0,cl1⟩:=cl;go_simp;exact hK' _ (by rw [yf3];exact if_pos rfl)
   refine Q9.p cEq yM [] (by kernel_rfl) (by kernel_rfl) (λxs W hw hd K hK'=>?_) ?_
   . simp only [Q5,Act.put,sb_,sz_,ss_]at hK'|-
     go_simp;exact hK' _ (by rw [yf4];exact if_pos rfl)
   refine Q9.p cEq yM [] (by kernel_rfl) (by kernel_rfl) (λxs W hw hd K hK'=>?_) ?_
   . simp only [Q5,Act.put,sb_,sz_,ss_]at hK'|-
     go_simp;exact hK' _ (by rw [yf5];exact if_pos rfl)
   refine Q9.p cEq yM [(5,some 35)] (by kernel_rfl) (by kernel_rfl) (λxs W hw hd K hK'=>?_) ?_
   . simp only [Qd]at hd
     obtain⟨hf5,_⟩:=hd;simp only [Q5,Act.put,sb_,sz_,ss_]at hK'|-;rw [yf5]at hf5;simp only [hf5]at hK'|-;go_simp;exact hK' _ (by rw [yf6];exact if_pos rfl)
   refine Q9.p cEq yM [(6,some 36)] (by kernel_rfl) (by kernel_rfl) (λxs W hw hd K hK'=>?_) ?_
   . simp only [Qd]at hd
     obtain⟨hf6,_⟩:=hd;simp only [Q5,Act.put,sb_,sz_,ss_]at hK'|-;rw [yf6]at hf6;simp only [hf6]at hK'|-;go_simp;exact hK' _ (by rw [yf7];exact if_pos rfl)
   refine Q9.p cEq yM [(7,some 37)] (by kernel_rfl) (by kernel_rfl) (λxs W hw hd K hK'=>?_) ?_
   . simp only [Qd]at hd
     obtain⟨hf7,_⟩:=hd;simp only [Q5,Act.put,sb_,sz_,ss_]at hK'|-;rw [yf7]at hf7;simp only [hf7]at hK'|-;have cl:=HCB W hw;obtain⟨cl0,cl1⟩:=cl;go_simp;exact hK' _ (by rw [yf8];exact if_pos rfl)
   refine Q9.p cEq yM [] (by kernel_rfl) (by kernel_rfl) (λxs W hw hd K hK'=>?_) ?_
   . simp only [Q5,Act.put,sb_,sz_,ss_]at hK'|-
     go_simp;exact hK' _ (by rw [yf9];exact if_pos rfl)
   refine Q9.p cEq yM [(8,some 38),(9,some 39)] (by kernel_rfl) (by kernel_rfl) (λxs W hw hd K hK'=>?_) ?_
   . simp only [Qd]at hd
     obtain⟨hf8,hf9,_⟩:=hd;simp only [Q5,Act.put,sb_,sz_,ss_]at hK'|-;rw [yf8]at hf8;rw [yf9]at hf9;simp only [hf8,hf9]at hK'|-;go_simp;exact hK' _ (by rw [yf10];exact if_pos rfl)
   refine Q9.p cEq yM [(10,some 40)] (by kernel_rfl) (by kernel_rfl) (λxs W hw hd K hK'=>?_) ?_
   . simp only [Qd]at hd
     obtain⟨hf10,_⟩:=hd;simp only [Q5,Act.put,sb_,sz_,ss_]at hK'|-;rw [yf10]at hf10;simp only [hf10]at hK'|-;have hm1:=HM.1;go_simp;exact hK' _ (by rw [yf11];exact if_pos rfl)
   refine Q9.p cEq yM [(4,some 34),(11,some 41)] (by kernel_rfl) (by kernel_rfl) (λxs W hw hd K hK'=>?_) ?_
   . simp only [Qd]at hd
     obtain⟨hf4,hf11,_⟩:=hd;simp only [Q5,Act.put,sb_,sz_,ss_]at hK'|-;rw [yf4]at hf4;rw [yf11]at hf11;simp only [hf4,hf11]at hK'|-;go_simp;exact hK' _ (by rw [yf12];exact if_pos rfl)
   refine Q9.p cEq yM [] (by kernel_rfl) (by kernel_rfl) (λxs W hw hd K hK'=>?_) ?_
   . simp only [Q5,Act.put,sb_,sz_,ss_]at hK'|-
     go_simp;exact hK' _ (by rw [yf13];exact if_pos rfl)
   refine Q9.p cEq yM [] (by kernel_rfl) (by kernel_rfl) (λxs W hw hd K hK'=>?_) ?_
   . simp only [Q5,Act.put,sb_,sz_,ss_]at hK'|-
     go_simp;exact hK' _ (by rw [yf14];exact if_pos rfl)
   refine Q9.p cEq yM [(14,some 44)] (by kernel_rfl) (by kernel_rfl) (λxs W hw hd K hK'=>?_) ?_
   . simp only [Qd]at hd
     obtain⟨hf14,_⟩:=hd;simp only [Q5,Act.put,sb_,sz_,ss_]at hK'|-;rw [yf14]at hf14;simp only [hf14]at hK'|-;go_simp;exact hK' _ (by rw [yf15];exact if_pos rfl)
   refine Q9.p cEq yM [(15,some 45)] (by kernel_rfl) (by kernel_rfl) (λxs W hw hd K hK'=>?_) ?_
   . simp only [Qd]at hd
     obtain⟨hf15,_⟩:=hd;simp only [Q5,Act.put,sb_,sz_,ss_]at hK'|-;rw [yf15]at hf15;simp only [hf15]at hK'|-;go_simp;exact hK' _ (by rw [yf16];exact if_pos rfl)
   refine Q9.p cEq yM [(16,some 46)] (by kernel_rfl) (by kernel_rfl) (λxs W hw hd K hK'=>?_) ?_
   . simp only [Qd]at hd
     obtain⟨hf16,_⟩:=hd;simp only [Q5,Act.put,sb_,sz_,ss_]at hK'|-;rw [yf16]at hf16;simp only [hf16]at hK'|-;have cl:=HCB W hw;obtain⟨cl0,cl1⟩:=cl;go_simp;exact hK' _ (by rw [yf17];exact if_pos rfl)
   refine Q9.p cEq yM [(13,some 43),(17,some 47)] (by kernel_rfl) (by kernel_rfl) (λxs W hw hd K hK'=>?_) ?_
   . simp only [Qd]at hd
     obtain⟨hf13,hf17,_⟩:=hd;simp only [Q5,Act.put,sb_,sz_,ss_]at hK'|-;rw [yf13]at hf13;rw [yf17]at hf17;simp only [hf13,hf17]at hK'|-;go_simp;exact hK' _ (by rw [yf18];exact if_pos rfl)
   refine Q9.p cEq yM [(18,some 48)] (by kernel_rfl) (by kernel_rfl) (λxs W hw hd K hK'=>?_) ?_
   . simp only [Qd]at hd
     obtain⟨hf18,_⟩:=hd;simp only [Q5,Act.put,sb_,sz_,ss_]at hK'|-;rw [yf18]at hf18;simp only [hf18]at hK'|-;have hm2:=HM.2;go_simp;exact hK' _ (by rw [yf19];exact if_pos rfl)
   refine Q9.p cEq yM [(12,some 42),(19,some 49)] (by kernel_rfl) (by kernel_rfl) (λxs W hw hd K hK'=>?_) ?_
   . simp only [Qd]at hd
     obtain⟨hf12,hf19,_⟩:=hd;simp only [Q5,Act.put,sb_,sz_,ss_]at hK'|-;rw [yf12]at hf12;rw [yf19]at hf19;simp only [hf12,hf19]at hK'|-;go_simp;exact hK' _ (by rw [yf20];exact if_pos rfl)
   refine Q9.p cEq yM [(3,some 33),(20,some 50)] (by kernel_rfl) (by kernel_rfl) (λxs W hw hd K hK'=>?_) ?_
   . simp only [Qd]at hd
     obtain⟨hf3,hf20,_⟩:=hd;simp only [Q5,Act.put,sb_,sz_,ss_]at hK'|-;rw [yf3]at hf3;rw [yf20]at hf20;simp only [hf3,hf20]at hK'|-;go_simp;exact hK' _ (by rw [yf21];exact if_pos rfl)
   refine Q9.p cEq yM [(21,some 51)] (by kernel_rfl) (by kernel_rfl) (λxs W hw hd K hK'=>?_) ?_
   . simp only [Qd]at hd
     obtain⟨hf21,_⟩:=hd;simp only [Q5,Act.put,sb_,sz_,ss_]at hK'|-;rw [yf21]at hf21;simp only [hf21]at hK'|-;have cl:=HCE W hw;obtain⟨cl0,cl1⟩:=cl;go_simp;exact hK' _ (by rw [yf22];exact if_pos rfl)
   refine Q9.c cEq [] (by kernel_rfl) (λxs W hw hd K hK'=>?_) ?_
   . simp only [Q5,Act.put,sb_,sz_,ss_]at hK'|-
     have hsz:=hw.size;go_simp;have hR:=trivial;refine hK' (_) (_) (hw.alloc _) (λj hs hy=>?_) (by rw [yf23];(try simp only [↓reduceIte]);try exact⟨W.heap.size,rfl,Blk.new _ _ _,hsz⟩);by_cases hj:25<=j
     . rw [yN j _ _ hj];trivial
     (have hj':j=0\/j=1\/j=2\/j=3\/j=4\/j=5\/j=6\/j=7\/j=8\/j=9\/j=10\/j=11\/j=12\/j=13\/j=14\/j=15\/j=16\/j=17\/j=18\/j=19\/j=20\/j=21\/j=22\/j=23\/j=24:=by omega);rcases hj' with rfl|rfl|rfl|rfl|rfl|rfl|rfl|rfl|rfl|rfl|rfl|rfl|rfl|rfl|rfl|rfl|rfl|rfl|rfl|rfl|rfl|rfl|rfl|rfl|rfl
     . rw [yf0]at hy|-;(try simp only [↓reduceIte,OfNat.ofNat_ne_ofNat,Nat.reduceEqDiff]);exact hy
     . rw [yf1]at hy|-;(try simp only [↓reduceIte,OfNat.ofNat_ne_ofNat,Nat.reduceEqDiff]);exact hy
     . rw [yf2]at hy|-;(try simp only [↓reduceIte,OfNat.ofNat_ne_ofNat,Nat.reduceEqDiff]);exact hy
     . rw [yf3]at hy|-;(try simp only [↓reduceIte,OfNat.ofNat_ne_ofNat,Nat.reduceEqDiff]);exact hy
     . rw [yf4]at hy|-;(try simp only [↓reduceIte,OfNat.ofNat_ne_ofNat,Nat.reduceEqDiff]);exact hy
     . rw [yf5]at hy|-;(try simp only [↓reduceIte,OfNat.ofNat_ne_ofNat,Nat.reduceEqDiff]);exact hy
     . rw [yf6]at hy|-;(try simp only [↓reduceIte,OfNat.ofNat_ne_ofNat,Nat.reduceEqDiff]);exact hy
     . rw [yf7]at hy|-;(try simp only [↓reduceIte,OfNat.ofNat_ne_ofNat,Nat.reduceEqDiff]);exact hy
     . rw [yf8]at hy|-;(try simp only [↓reduceIte,OfNat.ofNat_ne_ofNat,Nat.reduceEqDiff]);exact hy
     . rw [yf9]at hy|-;(try simp only [↓reduceIte,OfNat.ofNat_ne_ofNat,Nat.reduceEqDiff]);exact hy
     . rw [yf10]at hy|-;(try simp only [↓reduceIte,OfNat.ofNat_ne_ofNat,Nat.reduceEqDiff]);exact hy
     . rw [yf11]at hy|-;(try simp only [↓reduceIte,OfNat.ofNat_ne_ofNat,Nat.reduceEqDiff]);exact hy
     . rw [yf12]at hy|-;(try simp only [↓reduceIte,OfNat.ofNat_ne_ofNat,Nat.reduceEqDiff]);exact hy
     . rw [yf13]at hy|-;(try simp only [↓reduceIte,OfNat.ofNat_ne_ofNat,Nat.reduceEqDiff]);exact hy
     . rw [yf14]at hy|-;(try simp only [↓reduceIte,OfNat.ofNat_ne_ofNat,Nat.reduceEqDiff]);exact hy
     . rw [yf15]at hy|-;(try simp only [↓reduceIte,OfNat.ofNat_ne_ofNat,Nat.reduceEqDiff]);exact hy
     . rw [yf16]at hy|-;(try simp only [↓reduceIte,OfNat.ofNat_ne_ofNat,Nat.reduceEqDiff]);exact hy
     . rw [yf17]at hy|-;(try simp only [↓reduceIte,OfNat.ofNat_ne_ofNat,Nat.reduceEqDiff]);exact hy
     . rw [yf18]at hy|-;(try simp only [↓reduceIte,OfNat.ofNat_ne_ofNat,Nat.reduceEqDiff]);exact hy
     . rw [yf19]at hy|-;(try simp only [↓reduceIte,OfNat.ofNat_ne_ofNat,Nat.reduceEqDiff]);exact hy
     . rw [yf20]at hy|-;(try simp only [↓reduceIte,OfNat.ofNat_ne_ofNat,Nat.reduceEqDiff]);exact hy
     . rw [yf21]at hy|-;(try simp only [↓reduceIte,OfNat.ofNat_ne_ofNat,Nat.reduceEqDiff]);exact hy
     . rw [yf22]at hy|-;(try simp only [↓reduceIte,OfNat.ofNat_ne_ofNat,Nat.reduceEqDiff]);exact hy
     . exact(Qg hs (by kernel_rfl)).elim
     exact(Qg hs (by kernel_rfl)).elim
   refine Q9.c cEq [(22,some 52),(23,some 9)] (by kernel_rfl) (λxs W hw hd K hK'=>?_) ?_
   . simp only [Qd]at hd
     obtain⟨hf22,hf23,_⟩:=hd;simp only [Q5,Act.put,sb_,sz_,ss_]at hK'|-;rw [yf22]at hf22;rw [yf23]at hf23;simp only [hf22]at hK'|-;obtain⟨q,h23,bq,hq⟩:=hf23;simp only [h23]at hK'|-;have e0:=bq.cell 0;have e1:=bq.cell 1;have z0:=bq.frozen 0;have z1:=bq.frozen 1;simp at e0 e1;(have b2:Blk ((W.setCell ⟨q,0,none⟩ (.int .i64 (sy:Nat))).setCell ⟨q,1,none⟩ (.int .i64 (ln:Nat))) q 379 #[.int .i64 (sy:Nat),.int .i64 (ln:Nat)]:=by have:=(bq.set_ 0 (.int .i64 (sy:Nat))).set_ 1 (.int .i64 (ln:Nat));simpa using this);have B2:=hd_ b2;have HQ:=hd_ hq;clear bq b2 hq;go_simp;have hR:=trivial;refine hK' (undef) (_) ((hw.setCell (p:=⟨q,0,none⟩) (λh=>by have:=HQ.out;simp at h;omega) _).setCell (p:=⟨q,1,none⟩) (λh=>by have:=HQ.out;simp at h;omega) _) (QW yM 24 (by kernel_rfl) _ λj hs hy=>?_) (by rw [yf24];(try simp only [↓reduceIte]);try exact⟨q,h23,B2.out⟩);by_cases hp:j∈[0,1,2,3,4,5,6,7,8,9,10,11,12,13,14,15,16,17,18,19,20,21,22]
     . exact yP j _ _ _ hp hy
     by_cases hj:25<=j
     . rw [yN j _ _ hj];trivial
     simp only [List.mem_cons,List.not_mem_nil,or_false]at hp;rcases(show j=23\/j=24 by omega)with rfl|rfl
     . exact(Qg hs (by kernel_rfl)).elim
     exact(Qg hs (by kernel_rfl)).elim
   exact Q9.nil
 intro xs W hw hd;rw [cEq]at hw;simp only [YD]at hd;obtain⟨fe0,fe1,fe2,fe3,fe4,fe5,fe6,fe7,fe8,fe9,fe10,fe11,fe12,fe13,fe14,fe15,fe16,fe17,fe18,fe19,fe20,fe21,fe22,fe23,fe24,_⟩:=hd;have fe0:=fe0 (by kernel_rfl);rw [yf0]at fe0;have fe1:=fe1 (by kernel_rfl);rw [yf1]at fe1;have fe2:=fe2 (by kernel_rfl);rw [yf2]at fe2;have fe3:=fe3 (by kernel_rfl);rw [yf3]at fe3;have fe4:=fe4 (by kernel_rfl);rw [yf4]at fe4;have fe5:=fe5 (by kernel_rfl);rw [yf5]at fe5;have fe6:=fe6 (by kernel_rfl);rw [yf6]at fe6;have fe7:=fe7 (by kernel_rfl);rw [yf7]at fe7;have fe8:=fe8 (by kernel_rfl);rw [yf8]at fe8;have fe9:=fe9 (by kernel_rfl);rw [yf9]at fe9;have fe10:=fe10 (by kernel_rfl);rw [yf10]at fe10;have fe11:=fe11 (by kernel_rfl);rw [yf11]at fe11;have fe12:=fe12 (by kernel_rfl);rw [yf12]at fe12;have fe13:=fe13 (by kernel_rfl);rw [yf13]at fe13;have fe14:=fe14 (by kernel_rfl);rw [yf14]at fe14;have fe15:=fe15 (by kernel_rfl);rw [yf15]at fe15;have fe16:=fe16 (by kernel_rfl);rw [yf16]at fe16;have fe17:=fe17 (by kernel_rfl);rw [yf17]at fe17;have fe18:=fe18 (by kernel_rfl);rw [yf18]at fe18;have fe19:=fe19 (by kernel_rfl);rw [yf19]at fe19;have fe20:=fe20 (by kernel_rfl);rw [yf20]at fe20;have fe21:=fe21 (by kernel_rfl);rw [yf21]at fe21;have fe22:=fe22 (by kernel_rfl);rw [yf22]at fe22;have fe24:=fe24 (by kernel_rfl);rw [yf24]at fe24;clear fe23;simp only [Q5,Act.put,sb_,sz_,ss_];generalize xs 0=xv0 at *;generalize xs 1=xv1 at *;generalize xs 2=xv2 at *;generalize xs 3=xv3 at *;generalize xs 4=xv4 at *;generalize xs 5=xv5 at *;generalize xs 6=xv6 at *;generalize xs 7=xv7 at *;generalize xs 8=xv8 at *;generalize xs 9=xv9 at *;generalize xs 10=xv10 at *;generalize xs 11=xv11 at *;generalize xs 12=xv12 at *;generalize xs 13=xv13 at *;generalize xs 14=xv14 at *;generalize xs 15=xv15 at *;generalize xs 16=xv16 at *;generalize xs 17=xv17 at *;generalize xs 18=xv18 at *;generalize xs 19=xv19 at *;generalize xs 20=xv20 at *;generalize xs 21=xv21 at *;generalize xs 22=xv22 at *;generalize xs 23=xv23 at *;generalize xs 24=xv24 at *;subst fe0;subst fe1;subst fe2;subst fe3;subst fe4;subst fe5;subst fe6;subst fe7;subst fe8;subst fe9;subst fe10;subst fe11;subst fe12;subst fe13;subst fe14;subst fe15;subst fe16;subst fe17;subst fe18;subst fe19;subst fe20;subst fe21;subst fe22;clear yf0 yf1 yf2 yf3 yf4 yf5 yf6 yf7 yf8 yf9 yf10 yf11 yf12 yf13 yf14 yf15 yf16 yf17 yf18 yf19 yf20 yf21 yf22 yf23 yf24 yN yR yM yP cEq;obtain⟨q,hq,bq⟩:=fe24;subst hq;obtain⟨e0,e1⟩:=(bq).cells2;by_cases hl:ln<=n
 . have hlI:¬(n:Int)<ln:=by omega
   rw [if_pos hl]at hR;clear hl;go_upto_region 8 with fail;refine QJ 6 (by kernel_rfl) (by kernel_rfl) ?_;simp only [List.take_succ_cons,List.take_zero,List.drop_succ_cons,List.drop_zero];(repeat(first|go_big_quiet_step (fail)|quiet_step (fail)));refine wpQuiet_nil ?_;rintro w5 ⟨q5,rfl⟩;go_wp2_with fail;refine⟨rfl,.tuple #[.int .i64 (sy:Nat),.int .i64 (ln:Nat),.int .i64 0],?_,hR _ _ ⟨rfl,(F1.trans' hw).drewN _⟩⟩;simp [results,results309,go_sem]
 (have hlI:(n:Int)<ln:=by omega);rw [if_neg hl]at hR;clear hl;go_wp2_with fail;refine⟨rfl,.tuple #[.int .i64 0,.int .i64 0,.int .i64 3],?_,hR _ _ ⟨rfl,F1.trans' hw⟩⟩;simp [results,results309,go_sem]
end Go.Proofs.YtckjdhaflokcgaaGreat
namespace Go.Proofs.YtckjdhaflokcgaaGreat
open Go.RowKit Go.Shelf Go.Sort Go.Proofs.Tryz
attribute [local go_sem] Oper.semAt_some
theorem Q58 {l:List Int} (ht:Qc l) {bs:List Nat} (h:YF l bs=-1):∀c∈bs,c<l.length/\0<(Q6 l c).1:=by
 intro c hc;unfold YF at h
 cases hf:bs.findIdx? (noK l)with
 | some i =>
   rw [hf]at h;have h:(i:Int)=-1:=h;omega
 | none =>
   rw [List.findIdx?_eq_none_iff]at hf;have:=hf c hc;unfold noK at this;have hcl:=Zc ht c;by_cases hlt:c<l.length
   . refine⟨hlt,?_⟩
     rw [hcl];have h2:=ht.1 _ (List.getElem_mem hlt);simp [List.getElem?_eq_getElem hlt]at this|-;omega
   simp at this;omega
def VK (l:List Int) (pre:List (Nat × Nat)):List Bool:=(pre.map λx=>Qr (Q6 l x.2).1 (Q6 l x.2).2).flatten
theorem Q7u (l:List Int) (pre:List (Nat × Nat)) (x:Nat × Nat):VK l (pre++[x])=VK l pre++Qr (Q6 l x.2).1 (Q6 l x.2).2:=by simp [VK]
theorem Q1X {l:List Int} (ht:Qc l):∀pre:List (Nat × Nat),(VK l pre).length<=11*pre.length
 | []=>by simp [VK]
 | x::pre=>by
   have ih:=Q1X ht pre
   have h:=(Kc ht x.2).1
   unfold VK at ih|-
   rw [List.map_cons,List.flatten_cons,List.length_append,List.length_cons]
   have:(Qr (Q6 l x.2).1 (Q6 l x.2).2).length=(Q6 l x.2).1:=by simp
   omega
theorem Q3x {Pq:Nat × Nat->Prop} (l:List Int) (bs:List Nat) (hq:∀(j:Nat) (h:j<bs.length),Pq (j,bs[j])):VK l ((bkB bs hq 0).map Subtype.val)=Zd l bs:=by
 unfold VK Zd bkB;simp only [List.drop_zero,List.map_reverse,List.map_map]
 congr 2
 apply List.ext_getElem
 . simp
 intro i h1 h2;simp
def OeI {Pq:Nat × Nat->Prop} (w:World) (C g Sb n m d:Nat) (B:Option Addr) (l:List Int) (pre:List { p:Nat × Nat // Pq p }) (W:World):Prop :=
  Q0 w W/\Blk W Sb 22 #[.slice B m d]/\Blk W C 119 #[.slice (some ⟨g,0,none⟩) n n]/\Blk W (C+1+1) 127 #[.func (.func 87) #[] #[.pointer (some ⟨C+1,0,none⟩)]] /\
    RdK W (λb=>b=g) 2 (some ⟨g,0,none⟩) n ((QE l).map cd2)/\QN W (λk=>C<k) (C+1) (VK l (pre.map Subtype.val))
theorem OeI.own {Pq:Nat × Nat->Prop} {w:World} {C g Sb n m d Bs:Nat} {B:Option Addr} {l:List Int} (hB:w.heap.size<=Bs) (hg:g<Bs):OwnFrom Bs (OeI (Pq:=Pq) w C g Sb n m d B l):=by
 intro pre W W' row h hg' hr;obtain⟨h1,h2,h3,h4,h5,h6⟩:=h;have hr':=λr e=>(hr r e).2;refine⟨h1.grown hg' (λk hk hlt=>by have:=(hr k hk).1;omega),h2.kept hg' hr',h3.kept hg' hr',h4.kept hg' hr',?_,?_⟩
 . exact h5.upd (S:=λb=>row=some b) ((Upd.refl _ W).grown hg' λk hk _=>hk) (λb _ hb hs=>by have:=(hr b hs).1;omega)
 obtain⟨v,n,sv,bs,q1,q2,q3,q4,q5,q6,q7,q8⟩:=h6;exact⟨v,n,sv,bs,q1.kept hg' hr',q2.kept hg' hr',q3,q4,q5,q6,q7,q8⟩
theorem Qak (F G:Nat->Prop) (A B:Option Addr) (n c m d:Nat) (l:List Int) (bs:List Nat) (w:World) (hr:Rd w F A n (Q7 l)) (hbs:Rd w G B m (Q2 bs)) (hlt:∀b∈bs,b<256) (hn:n<=2^40) (hm:m<=2^40) (hc:n<=c)
   (ht:Qc l) (hb:bs.length<=131072/\YF l bs=-1) :
   Calls prog 48 #[.slice A n c,.slice B m d] w λe w'=>∃v,e = .returned (.tuple #[v,.int .i64 0])/\Qu w w' v (Yr (Zd l bs++[true])):=by
 have hmf:∀(fn:Fn) (first cap:Array Value) (w:World),(Instr.makeFunc fn first cap).run prog w = .ok (.func fn first cap) w:=λ_ _ _ _=>rfl;(have hL:bs.length=m:=by have:=hbs.1;simpa using this);(have hLl:l.length=n:=by have:=hr.1;simpa using this);obtain⟨w0,H,hw0,hH,f0,bo,be⟩:=Jw w 22 #[.slice none 0 0] 24 #[.int .i64 0];(have hs0:w0.heap.size=H+2:=by rw [hw0];simp [hH])
 have HCO:=hd_ (show Calls prog 86 #[.slice A n c,.slice B m d] w0 λe w'=>Q0 w0 w'/\∃g,e = .returned (.slice (some ⟨g,0,none⟩) n n)/\RdK w' (λb=>b=g) 2 (some ⟨g,0,none⟩) n ((QE l).map cd2)/\w0.heap.size<=g from
   (KP F G A B n c m d l bs w0 (hr.fresh f0) (hbs.fresh f0) hlt hn hm hc).mono λe w' h=>⟨h.1,by have h2:=h.2;rw [if_pos ht,if_pos hb]at h2;exact h2⟩)
 have HQ:=hd_ (show ∀(j:Nat) (h:j<bs.length),(λp:Nat × Nat=>p.2<n/\p.2<256) (j,bs[j])from λj h=>⟨by have:=(Q58 ht hb.2 _ (List.getElem_mem h)).1;omega,hlt _ (List.getElem_mem h)⟩);have HRB:=hd_ hbs.both;have HT:=hd_ ht;have HM:=hd_ (show m<=131072 by omega);have HNP:=hd_ (show 0<n by have h1:=ht.2.2.1;have h2:=ZE l;omega);have HLl:=hd_ hLl;have BO:=hd_ bo;have BE:=hd_ be;have F0:=hd_ f0;have HW:=hd_ hw0;have HH:=hd_ hH;have HS0:=hd_ hs0;have HL:=hd_ hL;(have hsz:(w.alloc (.cells #[.slice none 0 0] 22)).heap.size=H+1:=by simp [hH]);clear hw0 hH f0 bo be hr hbs hlt hn hm hc ht hb hL hLl hs0;refine Q8 λR hR=>?_;refine(callsIn_wide (n:=3)).1 (callsIn_of_wp_marks func48 rfl trivial ?_ rfl);simp only [ntmps48,List.size_toArray,List.length_cons,List.length_nil,Nat.reduceAdd,Nat.reduceSub,Array.replicate_succ,Array.replicate_zero,List.push_toArray,List.append_toArray,List.nil_append,List.cons_append];refine wpIn_wide.2 ?_;go_upto_region 1 with fail;simp only [hsz,<-HH.out,<-HW.out];clear hsz;go_wp2_with fail;refine HCO.mono ?_;rintro e w1 ⟨f1,g,rfl,rd1,hg⟩;have F1:=hd_ f1;have RD1:=hd_ rd1
 have HG:=hd_ (show H+2<=g/\g<w1.heap.size from by
   obtain⟨b,o,he,hb,hbl,_⟩:=rd1.2 HNP.out;have:=HS0.out
   exact⟨by omega,by omega⟩)
 clear f1 rd1 hg HCO;go_wp2_with fail;obtain⟨C,hC⟩:=nm_ (w1.heap.size);obtain⟨w3,hw3⟩:=nm_ (((w1.alloc (.cells #[.slice (some ⟨g,0,none⟩) n n] 119)).alloc (.cells #[.int .u64 0,.int .i64 0,.slice none 0 0] 124)).alloc (.cells #[.func (.func 87) #[] #[.pointer (some ⟨C+1,0,none⟩)]] 127));simp only [<-hC,<-hw3];(have f3:Q0 w1 w3:=by rw [hw3];exact(((Upd.refl _ _).alloc _).alloc _).alloc _);(have bC:Blk w3 C 119 #[.slice (some ⟨g,0,none⟩) n n]:=by rw [hw3];exact((Qb hC _ _).alloc _).alloc _);(have bW:Blk w3 (C+1) 124 #[.int .u64 0,.int .i64 0,.slice none 0 0]:=by rw [hw3];exact(Qb (by simp [hC]) _ _).alloc _);(have bP:Blk w3 (C+1+1) 127 #[.func (.func 87) #[] #[.pointer (some ⟨C+1,0,none⟩)]]:=by rw [hw3];exact Qb (by simp [hC]) _ _);(have hz3:w3.heap.size=C+3:=by rw [hw3,hC];simp);(have hwC:H+2<=C:=by rw [hC];have:=F1.size;have:=HS0.out;omega);have HGC:=hd_ (show H+2<=g/\g<C by rw [hC];exact HG.out);have HF3:=hd_ (F1.trans' f3);have HB3:=hd_ (And.intro bC (And.intro bW bP));have RD3:=hd_ (RD1.fresh f3);have HZ3:=hd_ hz3;have HWC:=hd_ hwC;clear hC hw3 f3 bC bW bP hz3 hwC HG RD1;refine(Q34 _ _ _ _).mono ?_;rintro e w4 ⟨rfl,hw4⟩;obtain⟨Sb,hSb⟩:=nm_ (w3.heap.size);rw [<-hSb];(have f4:Q0 w3 w4:=by rw [hw4];exact(Upd.refl _ _).alloc _);(have bSb:Blk w4 Sb 22 #[.slice B m d]:=by rw [hw4];exact Qb hSb _ _);(have hz4:w4.heap.size=Sb+1:=by rw [hw4,hSb];simp);(have hSP:Sb=C+3:=by rw [hSb];exact HZ3.out)
 have hI0:OeI (Pq:=λp:Nat × Nat=>p.2<n/\p.2<256) w0 C g Sb n m d B l [] w4 :=
   ⟨HF3.trans' f4,bSb,HB3.1.fresh f4,HB3.2.2.fresh f4,RD3.fresh f4,0,0,_,[],HB3.2.1.fresh f4,Own.nil _ _,by omega,by simp,(λb hb=>by cases hb),rfl,by omega,(λk hk=>by simp [Value.ownBlock]at hk)⟩
 have HI0:=hd_ hI0;have HBS:=hd_ bSb;have HZ4:=hd_ hz4;have HSP:=hd_ hSP;have HF4:=hd_ (HF3.trans' f4);clear hw4 hSb f4 bSb hz4 hSP hI0 HF3 HB3 RD3 HZ3;go_wp2_with fail;obtain⟨Kb,hKb⟩:∃Kb:Nat->Prop,Kb=λk=>(G k/\k<w.heap.size)\/k=Sb:=⟨_,rfl⟩;have HKB:=hd_ (show ∀k,Kb k ↔ (G k/\k<w.heap.size)\/k=Sb from λk=>by rw [hKb]);have HKD:=hd_ (show ∀k,Kb k->k<w4.heap.size from λk hk=>by rcases(HKB k).1 hk with h|h;have:=HF4.size;have:=HS0.out;have:=HH.out;omega;have:=HZ4.out;omega)
 have HKN:=hd_ (show ∀k,Kb k->k≠C+1/\∀W,(C<k/\∃cs,Blk W k 5 cs)->Blk W Sb 22 #[.slice B m d]->False from λk hk=>by
   rcases(HKB k).1 hk with h|h
   . have:=HH.out;have:=HWC.out
     exact⟨by omega,λW h2 _=>by omega⟩
   have:=HSP.out
   exact⟨by omega,λW h2 h3=>by obtain⟨_,cs,hc⟩:=h2;subst h;exact hc.ne_ h3 (by decide) rfl⟩)
 (have hcSb:w4.cell? ⟨Sb,0,none⟩=some (.slice B m d):=by simpa using HBS.cell 0);clear hKb;have hOwn:OwnFrom w4.heap.size (OeI (Pq:=λp:Nat × Nat=>p.2<n/\p.2<256) w0 C g Sb n m d B l):=OeI.own HF4.size (by have:=HGC.out;have:=HSP.out;have:=HZ4.out;omega);refine(wpIn_wide (n:=3)).1 ?_
 refine ZZ (F:=Fence.wide) (n:=3) rfl (by omega) (gf:=147) (lb:=#[.pointer (some ⟨Sb,0,none⟩)]) rfl trivial (enters_of func147 (by kernel_rfl) rfl)
   (Q4q (Pq:=λp:Nat × Nat=>p.2<n/\p.2<256) (3-1) Sb m d B bs Kb _ HQ.out w4 (by have:=HZ4.out;omega) hcSb ((HKB Sb).2 (.inr rfl)) (HRB.fresh (F0.trans' HF4.out)) (λb hb=>(HKB b).2 (.inl hb)) (by have:=HM.out;omega))
   QY.trans (λW l o o' hl ho _ _=>QY.putObj W o' (λk hk=>⟨by have:=HKD k hk;have:=(Array.getElem?_eq_some_iff.1 ho).1;omega,by have:=HKD k hk;omega⟩)) (Below.refl _ _) (λ_=>rfl)
   (OeI w0 C g Sb n m d B l) (λ_ _ _=>False) hOwn (λ_ _ _ _ _ hs _ _=>hs) HI0.out 10 (λx=>.int .u8 (x.1.2:Nat)) ?assign ?body ?done ?stop
 case assign =>
   intro l x W K hK;simp [bkW]at hK|-;gi_wp2;exact hK
 case body =>
   rintro ll pre x W hI hlt;simp [bkW];obtain⟨hf,hbSb,hbC,hbP,hrd,hwr⟩:=hI;obtain⟨⟨i,q⟩,hqn,hq256⟩:=x;simp only at hqn hq256|-;(have hqI:(q:Int)<n:=by omega);(have hmo:prog.follows .mixedOrders=true:=by kernel_rfl);obtain⟨b9,o9,he9,_,_,hc9⟩:=hrd.at_ (r:=0) hqn;injection he9 with he9;injection he9 with hb9 ho9;subst hb9 ho9;(have hrow:((QE l).map cd2)[q]'(by rw [List.length_map,YJ,HLl.out];exact hqn)=cd2 (Q6 l q):=by simp [QE]);obtain⟨hl11,hx11⟩:=Kc HT.out q;have c0:=hc9 0 (by omega);have c1:=hc9 1 (by omega);rw [hrow]at c0 c1;have hvs:=Q7u l (pre.map Subtype.val) (i,q);have hvl:=Q1X HT.out (pre.map Subtype.val);rw [List.length_map]at hvl;(have hmap:(pre++[(⟨(i,q),hqn,hq256⟩:{ p:Nat × Nat // p.2<n/\p.2<256 })]).map Subtype.val=pre.map Subtype.val++[(i,q)]:=by simp);obtain⟨D,hD⟩:=nm_ (VK l (pre.map Subtype.val));rw [<-hD]at hvs hvl hwr;simp only at hvs;obtain⟨L,hL⟩:=nm_ ((Q6 l q).1);obtain⟨X,hX⟩:=nm_ ((Q6 l q).2);rw [<-hL,<-hX]at hvs hx11;rw [<-hL]at hl11;simp only [cd2,<-hL,<-hX,List.getElem?_cons_zero,List.getElem?_cons_succ]at c0 c1;simp at c0 c1;have p0:=hbP.cell 0;have p1:=hbC.cell 0;simp at p0 p1;have hX11:X<2048:=Nat.lt_of_lt_of_le hx11 (Nat.pow_le_pow_right (n:=2) (by decide) (show L<=11 from hl11));(have hw1:IntKind.u64.wrap (L:Int)=L:=by unfold IntKind.wrap;simp [IntKind.bits];omega);(have hw2:IntKind.u64.wrap (X:Int)=X:=by unfold IntKind.wrap;simp [IntKind.bits];omega);have q0:=cell_regrown p0;have q1:=cell_regrown p1;have q2:=cell_regrown c0;have q3:=cell_regrown c1
   have HFIN:=hd_ (show ∀W',Q0 w0 W'->Blk W' Sb 22 #[.slice B m d]->Blk W' C 119 #[.slice (some ⟨g,0,none⟩) n n]->Blk W' (C+1+1) 127 #[.func (.func 87) #[] #[.pointer (some ⟨C+1,0,none⟩)]]->RdK W' (λb=>b=g) 2 (some ⟨g,0,none⟩) n ((QE l).map cd2)->QN W' (λk=>C<k) (C+1) (D++Qr L X) ->
       OeI w0 C g Sb n m d B l (pre++[(⟨(i,q),hqn,hq256⟩:{ p:Nat × Nat // p.2<n/\p.2<256 })]) W' from by
     intro W' h1 h2 h3 h4 h5 h6;unfold OeI;rw [hmap,hvs]
     exact⟨h1,h2,h3,h4,h5,h6⟩)
   have HF:=hd_ hf;have HSb:=hd_ hbSb;have HC:=hd_ hbC;have HP:=hd_ hbP;have HRD:=hd_ hrd;have HWR:=hd_ hwr;have HVL:=hd_ (show D.length<=1441792 by have:=HM.out;omega);have HX:=hd_ (And.intro hl11 hx11);clear hf hbSb hbC hbP hrd hwr hc9 hrow hvs hvl hmap hD hL hX hl11 hx11 hlt p0 p1 c0 c1 hcSb hOwn;gi_upto_region 7 with fail;refine Q1i (C:=λw'=>∃pp:Regrown,w'=grow (redrawn W pp.d) pp.os) 14 rfl ll hmo (by kernel_rfl) (by kernel_rfl) ⟨⟨W.drawn+1,#[]⟩,by rw [grow_empty];rfl⟩ ?_;simp only [List.take_succ_cons,List.take_zero,List.drop_succ_cons,List.drop_zero];(repeat(refine wpQuietIn_step (λ_ _ _ _=>trivial) (λK hK=>?_);go_simp;refine hK _ ?_;clear hK K));refine wpQuietIn_nil ?_;intro _ hw';obtain⟨⟨dr,osr⟩,hw''⟩:=hw';subst hw'';have fr:Q0 W (grow (redrawn W dr) osr):=Upd.of_below (below_regrown W dr osr);generalize grow (redrawn W dr) osr=Wr at *;clear q0 q1 q2 q3;have HPUT:=Q94 (C+1) (C+1) X L D Wr (((HWR.mono (λk h=>h)).upd fr (λ_ _ h=>h.elim))) (by have:=(HWR.lt).1;have:=fr.size;omega) (by have:=HX.1;omega) HX.2 (by have:=HVL.out;omega);gi_wp2;refine⟨trivial,callsIn_wide.2 (HPUT.mono ?_)⟩;rintro e w5 ⟨rfl,u5,h5⟩;have hsp:=HSP.out;have hgc:=HGC.out;have hwc:=HWC.out;have hhh:=HS0.out;have sb5:=(HSb.fresh fr).upd u5 (λhT=>by rcases hT with hT|⟨_,cs,hT⟩;omega;exact(HSb.fresh fr).ne_ hT (by decide) rfl);have c5:=(HC.fresh fr).upd u5 (λhT=>by rcases hT with hT|⟨hT,_⟩<;>omega);have p5:=(HP.fresh fr).upd u5 (λhT=>by rcases hT with hT|⟨_,cs,hT⟩;omega;exact(HP.fresh fr).ne_ hT (by decide) rfl);have rd5:=(HRD.fresh fr).upd u5 (λb _ hb hT=>by rcases hT with hT|⟨hT,_⟩<;>omega);have f5:=(HF.trans' fr).trans u5 (λb hb hT=>by rcases hT with hT|⟨hT,_⟩<;>omega);have HI5:=hd_ (HFIN w5 f5 sb5 c5 p5 rd5 h5);(have hws:w4.heap.size<=W.heap.size:=by have:=HSb.lt;have:=HZ4.out;omega);have HK5:=hd_ ((QY.upd (Kb:=Kb) fr (λk hk=>⟨by have:=HKD k hk;omega,λh=>h⟩)).trans (QY.upd u5 (λk hk=>⟨by have:=HKD k hk;have:=fr.size;omega,λhT=>by rcases hT with hT|⟨h1,cs,hT⟩;exact(HKN k hk).1 hT;exact(HKN k hk).2 Wr ⟨by omega,cs,hT⟩ (HSb.fresh fr)⟩)))
   have HF5:=hd_ ((J9 w4.heap.size fr (λk _ hk=>hk.elim)).trans (J9 w4.heap.size u5 (λk _ hk=>by
     rcases hk with hk|⟨_,cs,hk⟩
     . subst hk;exact⟨_,(HWR.upd fr (λ_ _ h=>h.elim)).lt.2⟩
     exact⟨_,cs,hk⟩)))
   clear sb5 c5 p5 rd5 f5 u5 h5 HPUT fr hsp hgc hwc hhh hws;gi_wp2;exact⟨HF5.out,HK5.out,HI5.out⟩
 case done =>
   rintro D ys W hD rfl ⟨hf,hbSb,hbC,hbP,hrd,hwr⟩ hK;rw [Q3x]at hwr
   have hel:(Zd l bs).length<=1441792:=by
     rw [<-Q3x (Pq:=λp:Nat × Nat=>p.2<n/\p.2<256) l bs HQ.out];have h1:=Q1X HT.out ((bkB (Pq:=λp:Nat × Nat=>p.2<n/\p.2<256) bs HQ.out 0).map Subtype.val);rw [List.length_map,Q1g]at h1;have:=HM.out;have:=HL.out;omega
   have hcl:=Q7r (λk=>C<k) (C+1) (Zd l bs) W hwr (by omega);have HCL:=hd_ hcl;have HF:=hd_ (F0.trans' hf);have HK:=hd_ hK;have HDD:=hd_ hD;have BO5:=hd_ (BO.fresh hf);have BE5:=hd_ (BE.fresh hf);clear hf hbSb hbC hbP hrd hwr hK hcl hel hcSb hOwn;go_wp2_with fail;refine HCL.mono ?_;rintro e w6 ⟨v6,rfl,nb⟩;obtain⟨A6,n6,c6,rfl,hn6⟩:=nb.1.form';have bo6:=BO5.fresh nb.2.1;have be6:=BE5.fresh nb.2.1;have k0:=bo6.cell 0;have z0:=bo6.frozen 0;have k1:=be6.cell 0;have z1:=be6.frozen 0;simp at k0 k1;have NB:=hd_ nb;have BO6:=hd_ bo6;have BE6:=hd_ be6;clear nb bo6 be6 hn6 HCL;go_wp2_with fail;have hsz:=HZ4.out;have hsp:=HSP.out;have hwc:=HWC.out;have hdd:=HDD.out;(have hb6:∀b,Value.ownBlock (.slice A6 n6 c6)=some b->H+1<b:=λb hb=>by have h1:=NB.2.2 b hb;have h2:=BE5.lt;omega);have b7:=(BO6.set_ 0 (.slice A6 n6 c6)).far (p:=⟨H+1,0,none⟩) (by simp) (.int .i64 0);have e7:=(BE6.far (p:=⟨H,0,none⟩) (by simp) (.slice A6 n6 c6)).set_ 0 (.int .i64 0);have us:Upd (λb=>b=H\/b=H+1) w6 ((w6.setCell ⟨H,0,none⟩ (.slice A6 n6 c6)).setCell ⟨H+1,0,none⟩ (.int .i64 0)):=((Upd.refl (λb=>b=H\/b=H+1) w6).setCell (p:=⟨H,0,none⟩) (λ_=>.inl rfl) _).setCell (p:=⟨H+1,0,none⟩) (λ_=>.inr rfl) _;(have hK6:w6.heap[D]?=some (.deferred (some [])):=by rw [NB.2.1.block D (Array.getElem?_eq_some_iff.1 HK.out).1 (λh=>h)];exact HK.out);obtain⟨w7,hw7⟩:=nm_ ((w6.setCell ⟨H,0,none⟩ (.slice A6 n6 c6)).setCell ⟨H+1,0,none⟩ (.int .i64 0));rw [<-hw7]at b7 e7 us|-;(have hK7:w7.heap[D]?=some (.deferred (some [])):=by rw [us.block D (Array.getElem?_eq_some_iff.1 hK6).1 (by omega)];exact hK6);have u8:Upd (λb=>b=D) w7 (w7.putObj D (.deferred none)):=(Upd.refl (λb=>b=D) w7).grown (grownBy_putObj' w7 D _) (λk e _=>by injection e with e;exact e.symm);have b8:=b7.upd u8 (by omega);have e8:=e7.upd u8 (by omega);have d0:=b8.cell 0;have d1:=e8.cell 0;simp at d0 d1;show LeavesInM Fence.wide 3 _ _ _ _ ({ target:=.collected D,args:=#[] } :: _) .returning _;refine XW (by simp) (run_takeDeferred hK7) ?_;refine Q5G (f:=84) (args:=#[.pointer (some ⟨H+1,0,none⟩),.func (.func 85) #[] #[.pointer (some ⟨H,0,none⟩)]]) (by simp) (by simp [go_sem]) ?_;refine(Q1j _ _ _ _).mono ?_;rintro e u' w'' ⟨rfl,rfl,rfl⟩
   have ov:Own (w7.putObj D (.deferred none)) 5 (.slice A6 n6 c6) (Q2 (Yr (Zd l bs++[true]))):=(NB.1.upd us (λb hb hT=>by have:=hb6 b hb;omega)).upd u8 (λb hb hT=>by
     obtain⟨cs,hc⟩:=(NB.1.upd us (λb hb hT=>by have:=hb6 b hb;omega)).blk hb;subst hT;unfold Blk at hc;rw [hK7]at hc
     cases hc)
   have fw:Q0 w (w7.putObj D (.deferred none)):=((HF.trans' NB.2.1).trans us (λb hb h=>by have:=HH.out;omega)).trans u8 (λb hb h=>by have:=HH.out;omega);refine⟨.tuple #[.slice A6 n6 c6,.int .i64 0],?_,hR _ _ ⟨_,rfl,ov,fw,λb hb=>by have h1:=hb6 b hb;have h2:=HH.out;omega⟩⟩;simp [results,results48,go_sem,d0,d1]
 case stop =>
   rintro D c pre W _ _ h _;exact h.elim
end Go.Proofs.YtckjdhaflokcgaaGreat
namespace Go.Proofs.YtckjdhaflokcgaaGreat
open Go.RowKit Go.Proofs.Tryz
theorem Q59 (F G:Nat->Prop) (A B:Option Addr) (n c m d:Nat) (l:List Int) (bs:List Nat) (er:Int) (w:World) (hr:Rd w F A n (Q7 l)) (hbs:Rd w G B m (Q2 bs)) (hlt:∀b∈bs,b<256) (hn:n<=2^40) (hm:m<=2^40) (hc:n<=c)
   (her:if Qc l then ¬(bs.length<=131072/\YF l bs=-1)/\er=2 else er=12) :
   Calls prog 48 #[.slice A n c,.slice B m d] w λe w'=>e = .returned (.tuple #[.slice none 0 0,.int .i64 er])/\Q0 w w':=by
 have hmf:∀(fn:Fn) (first cap:Array Value) (w:World),(Instr.makeFunc fn first cap).run prog w = .ok (.func fn first cap) w:=λ_ _ _ _=>rfl;obtain⟨w0,H,hw0,hH,f0,bo,be⟩:=Jw w 22 #[.slice none 0 0] 24 #[.int .i64 0]
 have HCO:=hd_ (show Calls prog 86 #[.slice A n c,.slice B m d] w0 λe w'=>Q0 w0 w'/\e=Qa er from
   (KP F G A B n c m d l bs w0 (hr.fresh f0) (hbs.fresh f0) hlt hn hm hc).mono λe w' h=>⟨h.1,by
     have h2:=h.2;by_cases ht:Qc l
     . rw [if_pos ht]at h2 her;rw [if_neg her.1]at h2;rw [her.2];exact h2
     rw [if_neg ht]at h2 her;rw [her];exact h2⟩)
 have BO:=hd_ bo;have BE:=hd_ be;have F0:=hd_ f0;have HW:=hd_ hw0;have HH:=hd_ hH;(have hsz:(w.alloc (.cells #[.slice none 0 0] 22)).heap.size=H+1:=by simp [hH]);clear hw0 hH f0 bo be hr hbs hlt hn hm hc her;refine Q8 λR hR=>?_;go_enter_defers func48,ntmps48;go_upto_region 1 with fail;simp only [hsz,<-HH.out,<-HW.out];clear hsz;go_wp2_with fail;refine HCO.mono ?_;rintro e w1 ⟨f1,rfl⟩;have b1:=BO.fresh f1;have e1:=BE.fresh f1;have F1:=hd_ (F0.trans' f1);simp only [Qa];change Leaves _ _ _ _ _ _ _;refine leaves_cons (f:=84) (args:=#[.pointer (some ⟨H+1,0,none⟩),.func (.func 85) #[] #[.pointer (some ⟨H,0,none⟩)]]) (by simp) (by simp [go_sem]) ?_;refine(Z7 85 #[.pointer (some ⟨H,0,none⟩)] (λb=>b=H) (λW=>Blk W H 22 #[.slice none 0 0]) (H+1) er _ w1 e1 (by omega) (λ_ _=>rfl) (Q8S H _ w1 b1)).mono ?_;rintro e u' w'' ⟨rfl,rfl,w2,u2,b2,rfl⟩;have e2:=(e1.upd u2 (by omega)).set_ 0 (.int .i64 er);have b3:=b2.far (p:=⟨H+1,0,none⟩) (by simp) (.int .i64 er);have d0:=b3.cell 0;have d1:=e2.cell 0;simp at d0 d1;show Leaves _ _ _ _ [] .returning _;refine⟨.tuple #[.slice none 0 0,.int .i64 er],?_,hR _ _ ⟨rfl,F1.trans (u2.mono (T:=λb=>b=H\/b=H+1) (λ_ _ h=>.inl h) |>.setCell (p:=⟨H+1,0,none⟩) (λ_=>.inr rfl) _) (λb hb e=>by have:=HH.out;omega)⟩⟩;simp [results,results48,go_sem,d0,d1]
theorem Q5a (F G:Nat->Prop) (A B:Option Addr) (n c m d:Nat) (l:List Int) (bs:List Nat) (er:Int) (w:World) (hr:Rd w F A n (Q7 l)) (hbs:Rd w G B m (Q2 bs)) (hlt:∀b∈bs,b<256) (hn:n<=2^40) (hm:m<=2^40) (hc:n<=c)
   (her:if Qc l then ¬(bs.length<=131072/\YF l bs=-1)/\er=2 else er=12) :
   Calls prog 94 #[.slice A n c,.slice B m d] w λe w'=>e = .returned (.tuple #[.int .i64 0,.int .i64 er])/\Q0 w w':=by
 have hmf:∀(fn:Fn) (first cap:Array Value) (w:World),(Instr.makeFunc fn first cap).run prog w = .ok (.func fn first cap) w:=λ_ _ _ _=>rfl;obtain⟨w0,H,hw0,hH,f0,bo,be⟩:=Jw w 3 #[.int .i64 0] 24 #[.int .i64 0]
 have HCO:=hd_ (show Calls prog 86 #[.slice A n c,.slice B m d] w0 λe w'=>Q0 w0 w'/\e=Qa er from
   (KP F G A B n c m d l bs w0 (hr.fresh f0) (hbs.fresh f0) hlt hn hm hc).mono λe w' h=>⟨h.1,by
     have h2:=h.2;by_cases ht:Qc l
     . rw [if_pos ht]at h2 her;rw [if_neg her.1]at h2;rw [her.2];exact h2
     rw [if_neg ht]at h2 her;rw [her];exact h2⟩)
 have BO:=hd_ bo;have BE:=hd_ be;have F0:=hd_ f0;have HW:=hd_ hw0;have HH:=hd_ hH;(have hsz:(w.alloc (.cells #[.int .i64 0] 3)).heap.size=H+1:=by simp [hH]);clear hw0 hH f0 bo be hr hbs hlt hn hm hc her;refine Q8 λR hR=>?_;go_enter_defers func94,ntmps94;go_upto_region 1 with fail;simp only [hsz,<-HH.out,<-HW.out];clear hsz;go_wp2_with fail;refine HCO.mono ?_;rintro e w1 ⟨f1,rfl⟩;have b1:=BO.fresh f1;have e1:=BE.fresh f1;have F1:=hd_ (F0.trans' f1);simp only [Qa];change Leaves _ _ _ _ _ _ _;refine leaves_cons (f:=84) (args:=#[.pointer (some ⟨H+1,0,none⟩),.func (.func 149) #[] #[.pointer (some ⟨H,0,none⟩)]]) (by simp) (by simp [go_sem]) ?_;refine(Z7 149 #[.pointer (some ⟨H,0,none⟩)] (λb=>b=H) (λW=>Blk W H 3 #[.int .i64 0]) (H+1) er _ w1 e1 (by omega) (λ_ _=>rfl) (Q8T H _ w1 b1)).mono ?_;rintro e u' w'' ⟨rfl,rfl,w2,u2,b2,rfl⟩;have e2:=(e1.upd u2 (by omega)).set_ 0 (.int .i64 er);have b3:=b2.far (p:=⟨H+1,0,none⟩) (by simp) (.int .i64 er);have d0:=b3.cell 0;have d1:=e2.cell 0;simp at d0 d1;show Leaves _ _ _ _ [] .returning _;refine⟨.tuple #[.int .i64 0,.int .i64 er],?_,hR _ _ ⟨rfl,F1.trans (u2.mono (T:=λb=>b=H\/b=H+1) (λ_ _ h=>.inl h) |>.setCell (p:=⟨H+1,0,none⟩) (λ_=>.inr rfl) _) (λb hb e=>by have:=HH.out;omega)⟩⟩;simp [results,results94,go_sem,d0,d1]
def Yu (l:List Int) (bs:List Nat):Int:=if Qc l then if bs.length<=131072/\YF l bs=-1 then 0 else 2 else 12
theorem Q3y (F G:Nat->Prop) (A B:Option Addr) (n c m d:Nat) (l:List Int) (bs:List Nat) (w:World) (hr:Rd w F A n (Q7 l)) (hbs:Rd w G B m (Q2 bs)) (hlt:∀b∈bs,b<256) (hn:n<=2^40) (hm:m<=2^40) (hc:n<=c) :
   Calls prog 48 #[.slice A n c,.slice B m d] w λe w'=>if Yu l bs=0 then ∃v,e = .returned (.tuple #[v,.int .i64 0])/\Qu w w' v (Yr (Zd l bs++[true]))else e = .returned (.tuple #[.slice none 0 0,.int .i64 (Yu l bs)])/\Q0 w w':=by
 by_cases ht:Qc l
 . by_cases hb:bs.length<=131072/\YF l bs=-1
   . have e:Yu l bs=0:=by unfold Yu;rw [if_pos ht,if_pos hb]
     rw [e];simpa using Qak F G A B n c m d l bs w hr hbs hlt hn hm hc ht hb
   (have e:Yu l bs=2:=by unfold Yu;rw [if_pos ht,if_neg hb]);rw [e];simpa using Q59 F G A B n c m d l bs 2 w hr hbs hlt hn hm hc (by rw [if_pos ht];exact⟨hb,rfl⟩)
 (have e:Yu l bs=12:=by unfold Yu;rw [if_neg ht]);rw [e];simpa using Q59 F G A B n c m d l bs 12 w hr hbs hlt hn hm hc (by rw [if_neg ht])
def Z8 (l:List Int) (bs:List Nat):Nat:=(bs.map λc=>(Q6 l c).1).sum
theorem Q5H {l:List Int} {bs:List Nat} {k:Nat} (h:k<bs.length):Z8 l (bs.take (k+1))=Z8 l (bs.take k)+(Q6 l bs[k]).1:=by
 unfold Z8;rw [List.take_succ_eq_append_getElem h,List.map_append,List.sum_append];simp
theorem Q0X {l:List Int} (ht:Qc l):∀bs:List Nat,Z8 l bs<=11*bs.length
 | []=>by simp [Z8]
 | c::bs=>by
   have h1:=(Kc ht c).1
   have h2:=Q0X ht bs
   unfold Z8 at h2|-
   rw [List.map_cons,List.sum_cons,List.length_cons]
   omega
theorem Qal (F G:Nat->Prop) (A B:Option Addr) (n c m d:Nat) (l:List Int) (bs:List Nat) (w:World) (hr:Rd w F A n (Q7 l)) (hbs:Rd w G B m (Q2 bs)) (hlt:∀b∈bs,b<256) (hn:n<=2^40) (hm:m<=2^40) (hc:n<=c)
   (ht:Qc l) (hb:bs.length<=131072/\YF l bs=-1) :
   Calls prog 94 #[.slice A n c,.slice B m d] w λe w'=>e = .returned (.tuple #[.int .i64 (Z8 l bs:Nat),.int .i64 0])/\Q0 w w':=by
 have hmf:∀(fn:Fn) (first cap:Array Value) (w:World),(Instr.makeFunc fn first cap).run prog w = .ok (.func fn first cap) w:=λ_ _ _ _=>rfl;(have hL:bs.length=m:=by have:=hbs.1;simpa using this);(have hLl:l.length=n:=by have:=hr.1;simpa using this);obtain⟨w0,H,hw0,hH,f0,bo,be⟩:=Jw w 3 #[.int .i64 0] 24 #[.int .i64 0];(have hs0:w0.heap.size=H+2:=by rw [hw0];simp [hH])
 have HCO:=hd_ (show Calls prog 86 #[.slice A n c,.slice B m d] w0 λe w'=>Q0 w0 w'/\∃g,e = .returned (.slice (some ⟨g,0,none⟩) n n)/\RdK w' (λb=>b=g) 2 (some ⟨g,0,none⟩) n ((QE l).map cd2)/\w0.heap.size<=g from
   (KP F G A B n c m d l bs w0 (hr.fresh f0) (hbs.fresh f0) hlt hn hm hc).mono λe w' h=>⟨h.1,by have h2:=h.2;rw [if_pos ht,if_pos hb]at h2;exact h2⟩)
 have HQ:=hd_ (show ∀(j:Nat) (h:j<bs.length),bs[j]<n/\bs[j]<256 from λj h=>⟨by have:=(Q58 ht hb.2 _ (List.getElem_mem h)).1;omega,hlt _ (List.getElem_mem h)⟩);have HRB:=hd_ (hbs.both.fresh f0);have HT:=hd_ ht;have HM:=hd_ (show m<=131072 by omega);have HLl:=hd_ hLl;have BO:=hd_ bo;have BE:=hd_ be;have F0:=hd_ f0;have HW:=hd_ hw0;have HH:=hd_ hH;have HS0:=hd_ hs0;have HL:=hd_ hL;(have hsz:(w.alloc (.cells #[.int .i64 0] 3)).heap.size=H+1:=by simp [hH]);(have hmI:(m:Int)<=131072:=by omega);clear hw0 hH f0 bo be hr hbs hlt hn hm hc ht hb hL hLl hs0;refine Q8 λR hR=>?_;go_enter_defers func94,ntmps94;go_upto_region 1 with fail;simp only [hsz,<-HH.out,<-HW.out];clear hsz;go_wp2_with fail;refine HCO.mono ?_;rintro e w1 ⟨f1,g,rfl,rd1,hg⟩;have F1:=hd_ f1;have BO1:=hd_ (BO.fresh f1);have BE1:=hd_ (BE.fresh f1);have RD1:=hd_ rd1;have HG:=hd_ hg;have HRB1:=hd_ (HRB.fresh f1);clear f1 rd1 hg HCO HRB;go_wp2_with fail;go_loopg [15] m (λf vi wr=>∃k:Nat,k+f=m/\vi = .int .i64 k/\Blk wr H 3 #[.int .i64 (Z8 l (bs.take k):Nat)]/\Upd (λb=>b=H) w1 wr)
 case atStart=>exact⟨0,by omega,rfl,by simpa [Z8]using BO1.out,Upd.refl _ _⟩
 case round =>
   obtain⟨k,hk,rfl,bk,uk⟩:=hrel;have HK:=hd_ hk;(have hkI:(k:Int)<=131072:=by have:=HM.out;omega);by_cases hlt:k<m
   . have hlI:(k:Int)<m:=by omega
     (have hk0:0<=(k:Int):=by omega);(have hkb:k<bs.length:=by rw [HL.out];exact hlt);obtain⟨b,o,rfl,hbb,_,hcb⟩:=(HRB1.upd uk (λb _ hb e=>by have:=hb.2;have:=HH.out;omega)).at_ (k:=k) hlt;obtain⟨q,hq⟩:=nm_ (bs[k]);(have hc0:wr.cell? ⟨b,o+k,none⟩=some (.int .u8 (q:Nat)):=by rw [hcb];simp [Q2,hkb,<-hq]);(have hqn:q<n:=by rw [hq];exact(HQ k hkb).1);(have hqI:(q:Int)<n:=by omega);(have hq0:0<=(q:Int):=by omega);obtain⟨b9,o9,he9,_,_,hc9⟩:=(RD1.upd uk (λb _ hb e=>by have:=HG.out;have:=HS0.out;omega)).at_ (r:=0) hqn;injection he9 with he9;injection he9 with hb9 ho9;subst hb9 ho9;(have hrow:((QE l).map cd2)[q]'(by rw [List.length_map,YJ,HLl.out];exact hqn)=cd2 (Q6 l q):=by simp [QE]);have c0:=hc9 0 (by omega);rw [hrow]at c0;have hst:=Q5H (l:=l) hkb;rw [<-hq]at hst;have hble:=Q0X HT.out (bs.take k);have hl11:=(Kc HT.out q).1;rw [List.length_take]at hble;obtain⟨S,hS⟩:=nm_ (Z8 l (bs.take k));obtain⟨L,hLe⟩:=nm_ ((Q6 l q).1);simp only [cd2,<-hLe,List.getElem?_cons_zero]at c0;simp at c0;rw [<-hS]at bk hst hble;rw [<-hLe]at hst hl11;(have hwS:IntKind.i64.wrap ((S:Int)+L)=((S+L:Nat):Int):=by rw [IntWalk.i64_in _ (by omega)];omega);have k0:=bk.cell 0;have z0:=bk.frozen 0;simp at k0;have BK:=hd_ bk;have UK:=hd_ uk;have HST:=hd_ hst;clear hcb hc9 hrow hq hble hl11 hS hLe bk uk hk hst hqn hbb;go_upto_region 6 with fail;refine QJ 7 (by kernel_rfl) (by kernel_rfl) ?_;simp only [List.take_succ_cons,List.take_zero,List.drop_succ_cons,List.drop_zero];(repeat(first|go_big_quiet_step (fail)|quiet_step (fail)));refine wpQuiet_nil ?_;rintro w5 ⟨q5,rfl⟩;have HWS:=hd_ hwS;clear hwS;go_wp2_with fail;go_roundg (gk-1)
     case measure=>have:=HK.out;omega
     case rel =>
       have bs:=(BK.drewN q5).set_ 0 (.int .i64 ((S+L:Nat):Int));simp at bs;refine⟨k+1,by have:=HK.out;omega,by go_num,?_,(UK.drewN q5).setCell (p:=⟨H,0,none⟩) (λ_=>rfl) _⟩;rw [HST.out]
       first
         | exact bs
         | (rw [<-HWS.out]at bs;exact bs)
         | (have:=HWS.out;simp_all)
   (obtain rfl:k=m:=by omega);rw [List.take_of_length_le (by rw [HL.out];exact Nat.le_refl _)]at bk;have be2:=BE1.upd uk (by omega);have k0:=bk.cell 0;have z0:=bk.frozen 0;have k1:=be2.cell 0;have z1:=be2.frozen 0;simp at k0 k1;have BK:=hd_ bk;have BE2:=hd_ be2;have UK:=hd_ uk;obtain⟨S,hS⟩:=nm_ (Z8 l bs);rw [<-hS]at BK k0 hR;clear bk uk hk be2 hS;go_wp2_with fail;change Leaves _ _ _ _ _ _ _;refine leaves_cons (f:=84) (args:=#[.pointer (some ⟨H+1,0,none⟩),.func (.func 149) #[] #[.pointer (some ⟨H,0,none⟩)]]) (by simp) (by simp [go_sem]) ?_;have b2:=(BK.set_ 0 (.int .i64 (S:Nat))).far (p:=⟨H+1,0,none⟩) (by simp) (.int .i64 0);have e2:=(BE2.far (p:=⟨H,0,none⟩) (by simp) (.int .i64 (S:Nat))).set_ 0 (.int .i64 0);have d0:=b2.cell 0;have d1:=e2.cell 0;simp at d0 d1;refine(VV _ _ _).mono ?_;rintro e u' w'' ⟨rfl,rfl,rfl⟩;refine⟨.tuple #[.int .i64 (S:Nat),.int .i64 0],?_,hR _ _ ⟨rfl,((F0.trans' F1.out).trans ((UK.mono (T:=λb=>b=H\/b=H+1) (λ_ _ h=>.inl h)).setCell (p:=⟨H,0,none⟩) (λ_=>.inl rfl) _ |>.setCell (p:=⟨H+1,0,none⟩) (λ_=>.inr rfl) _) (λb hb e=>by have:=HH.out;omega))⟩⟩;simp [results,results94,go_sem,d0,d1]
theorem Q97 (F G:Nat->Prop) (A B:Option Addr) (n c m d:Nat) (l:List Int) (bs:List Nat) (w:World) (hr:Rd w F A n (Q7 l)) (hbs:Rd w G B m (Q2 bs)) (hlt:∀b∈bs,b<256) (hn:n<=2^40) (hm:m<=2^40) (hc:n<=c) :
   Calls prog 94 #[.slice A n c,.slice B m d] w λe w'=>e = .returned (.tuple #[.int .i64 ((if Yu l bs=0 then Z8 l bs else 0:Nat):Int),.int .i64 (Yu l bs)])/\Q0 w w':=by
 by_cases ht:Qc l
 . by_cases hb:bs.length<=131072/\YF l bs=-1
   . have e:Yu l bs=0:=by unfold Yu;rw [if_pos ht,if_pos hb]
     rw [e];simpa using Qal F G A B n c m d l bs w hr hbs hlt hn hm hc ht hb
   (have e:Yu l bs=2:=by unfold Yu;rw [if_pos ht,if_neg hb]);rw [e];simpa using Q5a F G A B n c m d l bs 2 w hr hbs hlt hn hm hc (by rw [if_pos ht];exact⟨hb,rfl⟩)
 (have e:Yu l bs=12:=by unfold Yu;rw [if_neg ht]);rw [e];simpa using Q5a F G A B n c m d l bs 12 w hr hbs hlt hn hm hc (by rw [if_neg ht])
theorem Rd.byte {w:World} {F:Nat->Prop} {A:Option Addr} {n:Nat} {bs:List Nat} (h:Rd w F A n (Q2 bs)) {k:Nat} (hk:k<n) :
   ∃(b o:Nat) (hk':k<bs.length),A=some ⟨b,o,none⟩/\b<w.heap.size/\w.cell? ⟨b,o+k,none⟩=some (.int .u8 (bs[k]:Nat)):=by
 obtain⟨b,o,hA,_,hb,hc⟩:=h.at_ hk;(have hkl:k<bs.length:=by have:=h.1;rw [QL]at this;omega);refine⟨b,o,hkl,hA,hb,?_⟩;rw [hc];simp [Q2,hkl]
end Go.Proofs.YtckjdhaflokcgaaGreat
