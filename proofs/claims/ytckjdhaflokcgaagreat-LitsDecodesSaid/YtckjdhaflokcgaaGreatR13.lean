/- Contracts and plain lemmas, part 13. Conditions: none beyond those of each. -/
import Derived.Test.YtckjdhaflokcgaaGreatR12
set_option maxHeartbeats 4000000
set_option linter.unusedVariables false
set_option linter.unusedSimpArgs false
set_option linter.unnecessarySimpa false
set_option maxRecDepth 100000
namespace Go.Proofs.YtckjdhaflokcgaaGreat
open Go.RowKit Go.Proofs.Tryz
def XX (w:World) (x:List Nat) (e:Ending) (w':World):Prop :=
  ∃A n c,e = .returned (.slice A n c)/\n<=c/\Rd w' (λb=>w.heap.size<=b) A n (Q2 x)
theorem Q4r (F:Nat->Prop) (g pr qa qb s:Nat) (kd:Int) (fo:Bool) (tv:Value) (bs:List Nat) (at_:Nat) (w:World) (hcu:Q4 w F g bs at_) (hF:∀b,F b->b≠g)
   (br:Blk w pr 101 #[.pointer (some ⟨g,0,none⟩),tv]) (ba:Blk w qa 99 #[.pointer (some ⟨pr,0,none⟩)]) (bb:Blk w qb 41 #[.int .i64 kd,.bool fo,.int .i64 (s:Nat)]) (hs:s<=131072) :
   Calls prog 124 #[.pointer (some ⟨qa,0,none⟩),.pointer (some ⟨qb,0,none⟩)] w λe w'=>Upd (λb=>b=g) w w' /\
     if at_+s<=bs.length then ∃v,e = .returned (.tuple #[v,.int .i64 0])/\Own w' 5 v (Q2 ((bs.drop at_).take s))/\(∀b,v.ownBlock=some b->w.heap.size<=b)/\Q4 w' F g bs (at_+s)
     else e = .returned (.tuple #[.slice none 0 0,.int .i64 3]):=by
 have a0:=ba.cell 0;have b2:=bb.cell 2;have r0:=br.cell 0;simp at a0 b2 r0;have HOK:=hd_ (fun(hk:at_+s<=bs.length) W (hW:Q0 w W)=>ZN F g bs at_ s W (hcu.fresh hW) hk hF);have HNO:=hd_ (fun(hk:¬at_+s<=bs.length) W (hW:Q0 w W)=>Vv F g bs at_ s W (hcu.fresh hW) (by omega) (by omega) hF);clear hcu hF br ba bb;refine Q8 λR hR=>?_;go_enter func124,ntmps124;go_upto_region 1 with fail;by_cases hk:at_+s<=bs.length
 . simp only [if_pos hk]at hR
   have HB:=hd_ (HOK hk);clear HOK HNO hk;go_region_with (go_at_call 26;refine(HB _ ((Upd.refl _ _).drewN 1)).mono ?_;rintro e w6 ⟨v,rfl,o6,u6,c6,h6⟩;have O6:=hd_ o6;have U6:=hd_ u6;have C6:=hd_ c6;have H6:=hd_ h6;clear o6 u6 c6 h6)
   all_goals(
     go_wp2_with fail;(try go_ret2)
     exact hR _ _ ⟨((Upd.refl _ _).drewN 1).trans' U6.out,v,rfl,O6.out,λb hb=>by have:=H6 b hb;simpa using this,C6.out⟩)
 simp only [if_neg hk]at hR;have HB:=hd_ (HNO hk);clear HOK HNO hk;go_region_with (go_at_call 26;refine(HB _ ((Upd.refl _ _).drewN 1)).mono ?_;rintro e w6 ⟨rfl,u6,c6⟩;have U6:=hd_ u6;clear u6 c6)
 all_goals(
   go_wp2_with fail;(try go_ret2)
   exact hR _ _ ⟨((Upd.refl _ _).drewN 1).trans' U6.out,rfl⟩)
def YE (F:Nat->Prop) (g:Nat) (bs:List Nat) (q:Int ⊕ (List Nat × Nat)) (w:World) (e:Ending) (w':World):Prop :=
  Upd (λb=>b=g) w w'/\match q with
    | .inl er=>e=Qa er
    | .inr (x,u)=>XX w x e w'/\Q4 w' F g bs u
theorem Q5C (F:Nat->Prop) (g pr s:Nat) (kd:Int) (fo:Bool) (tv:Value) (bs:List Nat) (at_:Nat) (w:World) (hcu:Q4 w F g bs at_) (hF:∀b,F b->b≠g)
   (br:Blk w pr 101 #[.pointer (some ⟨g,0,none⟩),tv]) (hs:s<=131072) :
   Calls prog 68 #[.pointer (some ⟨pr,0,none⟩),.agg #[.int .i64 kd,.bool fo,.int .i64 (s:Nat)]] w (YE F g bs (if at_+s<=bs.length then .inr ((bs.drop at_).take s,at_+s)else .inl 3) w):=by
 have hmf:∀(fn:Fn) (first cap:Array Value) (w:World),(Instr.makeFunc fn first cap).run prog w = .ok (.func fn first cap) w:=λ_ _ _ _=>rfl;obtain⟨w0,H,hw0,hH,f0,ba,bb⟩:=Jw w 99 #[.pointer (some ⟨pr,0,none⟩)] 41 #[.int .i64 kd,.bool fo,.int .i64 (s:Nat)];have H1:=hd_ (Q4r F g pr H (H+1) s kd fo tv bs at_ w0 (hcu.fresh f0) hF (br.fresh f0) ba bb hs);have F0:=hd_ f0;have HW:=hd_ hw0;have HH:=hd_ hH;(have hsz:(w.alloc (.cells #[.pointer (some ⟨pr,0,none⟩)] 99)).heap.size=H+1:=by simp [hH]);clear hcu hF br hs hw0 hH f0 ba bb;refine Q8 λR hR=>?_;unfold YE at hR;go_enter func68,ntmps68;go_upto_region 1 with fail;simp only [hsz,<-HH.out,<-HW.out];clear hsz;by_cases hk:at_+s<=bs.length
 . simp only [if_pos hk]at hR H1
   clear hk
   have HL:=hd_ (Q2p 124 #[.pointer (some ⟨H,0,none⟩),.pointer (some ⟨H+1,0,none⟩)] w0 (λ_ _=>rfl) (λv w'=>Upd (λb=>b=g) w0 w'/\Own w' 5 v (Q2 ((bs.drop at_).take s))/\(∀b,v.ownBlock=some b->w0.heap.size<=b)/\Q4 w' F g bs (at_+s))
     (H1.mono λe w' h=>by obtain⟨h1,v,h2,h3⟩:=h;exact⟨v,h2,h1,h3⟩))
   clear H1;go_wp2_with fail;refine HL.mono ?_;rintro e w2 ⟨v,w1,rfl,⟨u1,o1,hv,c1⟩,f2⟩;obtain⟨A3,n3,c3,rfl,hn3⟩:=o1.form';obtain⟨hn4,hc4,hrd⟩:=o1.rd rfl;rw [<-hn4]at hrd hc4;have HF:=hd_ (And.intro ((F0.mono (T:=λb=>b=g) (λ_ _ h=>h.elim)).trans' u1) f2);have HV:=hd_ (show XX w ((bs.drop at_).take s) (.returned (.slice A3 n3 c3)) w2 from⟨A3,n3,c3,rfl,hc4,(hrd.mono λb hb=>by have:=hv b hb;have:=F0.size;omega).fresh f2⟩);have HC:=hd_ (c1.fresh f2);clear u1 o1 hv c1 f2 hn3 hn4 hc4 hrd HL;go_wp2_with fail;(try go_ret);exact hR _ _ ⟨HF.1.trans HF.2 (λ_ _ h=>h.elim),HV.out,HC.out⟩
 simp only [if_neg hk]at hR H1;clear hk
 have HL:=hd_ (Q2q 124 #[.pointer (some ⟨H,0,none⟩),.pointer (some ⟨H+1,0,none⟩)] 3 w0 (λ_ _=>rfl) (λw'=>Upd (λb=>b=g) w0 w') (by decide)
   (H1.mono λe w' h=>⟨_,h.2,h.1⟩))
 clear H1;go_wp2_with fail;refine HL.mono ?_;rintro e w2 ⟨w1,rfl,u1,f2⟩;simp only [Qa];exact⟨rfl,hR _ _ ⟨((F0.mono (T:=λb=>b=g) (λ_ _ h=>h.elim)).trans' u1).trans f2 (λ_ _ h=>h.elim),rfl⟩⟩
theorem Qai (F:Nat->Prop) (g pr s:Nat) (kd:Int) (fo:Bool) (tv:Value) (bs:List Nat) (at_:Nat) (w:World) (hcu:Q4 w F g bs at_) (hF:∀b,F b->b≠g)
   (br:Blk w pr 101 #[.pointer (some ⟨g,0,none⟩),tv]) (hpg:pr≠g) (hs0:0<s) (hs:s<=131072) (h:at_<bs.length) :
   Calls prog 69 #[.pointer (some ⟨pr,0,none⟩),.agg #[.int .i64 kd,.bool fo,.int .i64 (s:Nat)]] w (YE F g bs (.inr (List.replicate s (bs[at_]?.getD 0),at_+1)) w):=by
 have hmf:∀(fn:Fn) (first cap:Array Value) (w:World),(Instr.makeFunc fn first cap).run prog w = .ok (.func fn first cap) w:=λ_ _ _ _=>rfl;obtain⟨w1,H,hw1,hH,f0,b0⟩:=al_ w 41 #[.int .i64 kd,.bool fo,.int .i64 (s:Nat)];(have hHg:H≠g:=by have:=hcu.lt;omega);have HCB:=hd_ (show ∀W,Upd (λb=>b=g) w1 W->W.cell? ⟨pr,0,none⟩=some (.pointer (some ⟨g,0,none⟩))/\W.cell? ⟨H,2,none⟩=some (.int .i64 (s:Nat))from λW hW=>⟨by simpa using((br.fresh f0).upd hW hpg).cell 0,by simpa using(b0.upd hW hHg).cell 2⟩);have HRB:=hd_ (λW (hW:Q4 W F g bs at_)=>(Jd F g bs at_ W hW hF).mono λe w' q=>(show Upd (λb=>b=g) W w'/\e = .returned (.int .u8 ((bs[at_]?.getD 0:Nat):Int))/\Q4 w' F g bs (at_+1)from by rw [if_pos h]at q;exact q));have HCU:=hd_ (hcu.fresh f0);have HS:=hd_ (And.intro hs0 hs);have U1:=hd_ (f0.mono (T:=λb=>b=g) (λ_ _ h=>h.elim));obtain⟨x,hx⟩:=nm_ (bs[at_]?.getD 0);rw [<-hx]at HRB|-;have HH:=hd_ hH;have HW:=hd_ hw1;clear hcu hF br hpg hs0 hs h hw1 hH f0 b0 hHg hx;refine Q8 λR hR=>?_;unfold YE at hR;simp only at hR;go_enter func69,ntmps69;go_upto_region 1 with fail;simp only [<-HH.out,<-HW.out];obtain⟨Cw,cEq⟩:=exC (λW=>Upd (λb=>b=g) w1 W);obtain⟨Y,yA⟩:=exY [λxs W=>(xs 0) = .pointer (some ⟨pr,0,none⟩),λxs W=>(xs 1) = .pointer (some ⟨pr,0,none⟩),λxs W=>(xs 2) = .pointer (some ⟨pr,0,none⟩),λxs W=>(xs 3) = .pointer (some ⟨g,0,none⟩),λxs W=>(xs 4) = .func (.func 120) #[.pointer (some ⟨g,0,none⟩)] #[],λxs W=>(xs 5) = .int .u8 (x:Nat)/\Q4 W F g bs (at_+1),λxs W=>∃q,(xs 6) = .slice (some ⟨q,0,none⟩) 1 1/\Blk W q 5 #[.int .u8 (x:Nat)]/\w1.heap.size<=q,λxs W=>(xs 7) = .pointer (some ⟨H,2,none⟩),λxs W=>(xs 8) = .int .i64 (s:Nat),λxs W=>∃A c',(xs 9) = .slice A s c'/\s<=c'/\Rd W (λb=>w1.heap.size<=b) A s (Q2 (List.replicate s x)),λxs W=>(xs 10)=(xs 9)/\∃A c',(xs 9) = .slice A s c'/\s<=c'/\Rd W (λb=>w1.heap.size<=b) A s (Q2 (List.replicate s x)),λxs W=>Q4 W F g bs at_];have yf0:=yA 0;have yf1:=yA 1;have yf2:=yA 2;have yf3:=yA 3;have yf4:=yA 4;have yf5:=yA 5;have yf6:=yA 6;have yf7:=yA 7;have yf8:=yA 8;have yf9:=yA 9;have yf10:=yA 10;have yf11:=yA 11;simp only [List.getD_cons_zero,List.getD_cons_succ]at yf0 yf1 yf2 yf3 yf4 yf5 yf6 yf7 yf8 yf9 yf10 yf11;(have yN:∀j xs W,12<=j->Y j xs W=True:=λj xs W hj=>by rw [yA,Y6 _ _ _ hj])
 have yP:∀j xs W W',j∈[0,1,2,3,4,7,8]->Y j xs W->Y j xs W':=by
   intro j xs W W' hj hy;simp only [List.mem_cons,List.not_mem_nil,or_false]at hj;(rcases hj with rfl|rfl|rfl|rfl|rfl|rfl|rfl<;>(rw [yA]at hy|-;exact hy))
 have yM:Jt [[0],[1],[2],[3],[4],[5],[6],[7],[8],[9],[10,9],[]] Y:=by
   intro j xs xs' W hh hy;by_cases hj:12<=j
   . rw [yN j _ _ hj];trivial
   (have hj':j=0\/j=1\/j=2\/j=3\/j=4\/j=5\/j=6\/j=7\/j=8\/j=9\/j=10\/j=11:=by omega);rcases hj' with rfl|rfl|rfl|rfl|rfl|rfl|rfl|rfl|rfl|rfl|rfl|rfl;(all_goals(rw [yA]at hy|-;(try simp only [List.getD_cons_zero,List.getD_cons_succ]at hy|-);repeat rw [<-hh]));(all_goals first|exact hy|decide)
 clear yA
 have yR:∀j xs,11<=j->Y j xs (w1.drew):=by
   intro j xs hj;rcases(show j=11\/12<=j by omega)with rfl|hj
   . rw [yf11];exact HCU.out
   rw [yN _ _ _ hj];trivial
 refine Ya Cw (λj=>if j=11 then [5]else []) Y [(0,some 5),(1,some 6),(2,some 7),(3,some 8),(4,some 9),(5,some 10),(6,some 11),(7,some 12),(8,some 13),(9,some 14),(10,some 4)] (by kernel_rfl) (by kernel_rfl) (by kernel_rfl) (by rw [cEq];exact(Upd.refl _ _).drew) (λj hj=>yR j _ hj) ?_ ?_
 . refine Q9.p cEq yM [] (by kernel_rfl) (by kernel_rfl) (λxs W hw hd K hK'=>?_) ?_
   . simp only [Q5,Act.put,sb_,sz_,ss_]at hK'|-
     go_simp;exact hK' _ (by rw [yf0];exact if_pos rfl)
   refine Q9.p cEq yM [(0,some 5)] (by kernel_rfl) (by kernel_rfl) (λxs W hw hd K hK'=>?_) ?_
   . simp only [Qd]at hd
     obtain⟨hf0,_⟩:=hd;simp only [Q5,Act.put,sb_,sz_,ss_]at hK'|-;rw [yf0]at hf0;simp only [hf0]at hK'|-;go_simp;exact hK' _ (by rw [yf1];exact if_pos rfl)
   refine Q9.p cEq yM [(1,some 6)] (by kernel_rfl) (by kernel_rfl) (λxs W hw hd K hK'=>?_) ?_
   . simp only [Qd]at hd
     obtain⟨hf1,_⟩:=hd;simp only [Q5,Act.put,sb_,sz_,ss_]at hK'|-;rw [yf1]at hf1;simp only [hf1]at hK'|-;go_simp;exact hK' _ (by rw [yf2];exact if_pos rfl)
   refine Q9.p cEq yM [(2,some 7)] (by kernel_rfl) (by kernel_rfl) (λxs W hw hd K hK'=>?_) ?_
   . simp only [Qd]at hd
     obtain⟨hf2,_⟩:=hd;simp only [Q5,Act.put,sb_,sz_,ss_]at hK'|-;rw [yf2]at hf2;simp only [hf2]at hK'|-;have cl:=HCB W hw;obtain⟨cl0,cl1⟩:=cl;go_simp;exact hK' _ (by rw [yf3];exact if_pos rfl)
   refine Q9.p cEq yM [(3,some 8)] (by kernel_rfl) (by kernel_rfl) (λxs W hw hd K hK'=>?_) ?_
   . simp only [Qd]at hd
     obtain⟨hf3,_⟩:=hd;simp only [Q5,Act.put,sb_,sz_,ss_]at hK'|-;rw [yf3]at hf3;simp only [hf3]at hK'|-;go_simp;exact hK' _ (by rw [yf4];exact if_pos rfl)
   refine Q9.c cEq [(4,some 9),(11,none)] (by kernel_rfl) (λxs W hw hd K hK'=>?_) ?_
   . simp only [Qd]at hd
     obtain⟨hf4,hf11,_⟩:=hd;simp only [Q5,Act.put,sb_,sz_,ss_]at hK'|-;rw [yf4]at hf4;rw [yf11]at hf11;simp only [hf4]at hK'|-;go_simp;refine(HRB W hf11).mono ?_;rintro e9 w9 ⟨u9,rfl,c9⟩;have hR:=u9;refine hK' (_) (w9) (hw.trans' u9) (QW yM 5 (by kernel_rfl) _ λj hs hy=>?_) (by rw [yf5];(try simp only [↓reduceIte]);try exact⟨by first|rfl|trivial,c9⟩);by_cases hp:j∈[0,1,2,3,4,7,8]
     . exact yP j _ _ _ hp hy
     by_cases hj:12<=j
     . rw [yN j _ _ hj];trivial
     simp only [List.mem_cons,List.not_mem_nil,or_false]at hp;rcases(show j=5\/j=6\/j=9\/j=10\/j=11 by omega)with rfl|rfl|rfl|rfl|rfl
     . exact(Qg hs (by kernel_rfl)).elim
     . exact(Qg hs (by kernel_rfl)).elim
     . exact(Qg hs (by kernel_rfl)).elim
     . exact(Qg hs (by kernel_rfl)).elim
     exact(Qg hs (by kernel_rfl)).elim
   refine Q9.c cEq [(5,some 10)] (by kernel_rfl) (λxs W hw hd K hK'=>?_) ?_
   . simp only [Qd]at hd
     obtain⟨hf5,_⟩:=hd;simp only [Q5,Act.put,sb_,sz_,ss_]at hK'|-;rw [yf5]at hf5;obtain⟨h5e,c5⟩:=hf5;simp only [h5e]at hK'|-;have hsz:=hw.size;go_simp;have hR:=(show Q0 W (W.alloc (.cells #[.int .u8 (x:Nat)] 5))from(Upd.refl _ _).alloc _);refine hK' (_) (_) (hw.alloc _) (QW yM 6 (by kernel_rfl) _ λj hs hy=>?_) (by rw [yf6];(try simp only [↓reduceIte]);try exact⟨W.heap.size,rfl,Blk.new _ _ _,hsz⟩);by_cases hp:j∈[0,1,2,3,4,7,8]
     . exact yP j _ _ _ hp hy
     by_cases hj:12<=j
     . rw [yN j _ _ hj];trivial
     simp only [List.mem_cons,List.not_mem_nil,or_false]at hp;rcases(show j=5\/j=6\/j=9\/j=10\/j=11 by omega)with rfl|rfl|rfl|rfl|rfl
     . rw [yf5]at hy|-;exact⟨hy.1,hy.2.fresh hR⟩
     . exact(Qg hs (by kernel_rfl)).elim
     . exact(Qg hs (by kernel_rfl)).elim
     . exact(Qg hs (by kernel_rfl)).elim
     rw [yf11]at hy|-;exact hy.fresh hR
   refine Q9.p cEq yM [] (by kernel_rfl) (by kernel_rfl) (λxs W hw hd K hK'=>?_) ?_
   . simp only [Q5,Act.put,sb_,sz_,ss_]at hK'|-
     go_simp;exact hK' _ (by rw [yf7];exact if_pos rfl)
   refine Q9.p cEq yM [(7,some 12)] (by kernel_rfl) (by kernel_rfl) (λxs W hw hd K hK'=>?_) ?_
   . simp only [Qd]at hd
     obtain⟨hf7,_⟩:=hd;simp only [Q5,Act.put,sb_,sz_,ss_]at hK'|-;rw [yf7]at hf7;simp only [hf7]at hK'|-;have cl:=HCB W hw;obtain⟨cl0,cl1⟩:=cl;go_simp;exact hK' _ (by rw [yf8];exact if_pos rfl)
   refine Q9.c cEq [(6,some 11),(8,some 13)] (by kernel_rfl) (λxs W hw hd K hK'=>?_) ?_
   . simp only [Qd]at hd
     obtain⟨hf6,hf8,_⟩:=hd;simp only [Q5,Act.put,sb_,sz_,ss_]at hK'|-;rw [yf6]at hf6;rw [yf8]at hf8;simp only [hf8]at hK'|-;obtain⟨q,h6e,bq,hq⟩:=hf6;simp only [h6e]at hK'|-;go_simp;refine(Q7j q 1 x s W bq HS.1 HS.2).mono ?_;rintro e9 w9 ⟨A9,c9,rfl,hc9,r9,f9⟩;have hsz:=hw.size;have hR:=f9;refine hK' (_) (w9) (hw.trans f9 (λ_ _ h=>h.elim)) (λj hs hy=>?_) (by rw [yf9];(try simp only [↓reduceIte]);try exact⟨A9,c9,rfl,hc9,r9.mono λb hb=>by omega⟩);by_cases hj:12<=j
     . rw [yN j _ _ hj];trivial
     (have hj':j=0\/j=1\/j=2\/j=3\/j=4\/j=5\/j=6\/j=7\/j=8\/j=9\/j=10\/j=11:=by omega);rcases hj' with rfl|rfl|rfl|rfl|rfl|rfl|rfl|rfl|rfl|rfl|rfl|rfl
     . rw [yf0]at hy|-;(try simp only [↓reduceIte,OfNat.ofNat_ne_ofNat,Nat.reduceEqDiff]);exact hy
     . rw [yf1]at hy|-;(try simp only [↓reduceIte,OfNat.ofNat_ne_ofNat,Nat.reduceEqDiff]);exact hy
     . rw [yf2]at hy|-;(try simp only [↓reduceIte,OfNat.ofNat_ne_ofNat,Nat.reduceEqDiff]);exact hy
     . rw [yf3]at hy|-;(try simp only [↓reduceIte,OfNat.ofNat_ne_ofNat,Nat.reduceEqDiff]);exact hy
     . rw [yf4]at hy|-;(try simp only [↓reduceIte,OfNat.ofNat_ne_ofNat,Nat.reduceEqDiff]);exact hy
     . rw [yf5]at hy|-;(try simp only [↓reduceIte,OfNat.ofNat_ne_ofNat,Nat.reduceEqDiff]);exact⟨hy.1,hy.2.fresh hR⟩
     . rw [yf6]at hy|-;(try simp only [↓reduceIte,OfNat.ofNat_ne_ofNat,Nat.reduceEqDiff]);obtain⟨q',h1,h2,h3⟩:=hy;exact⟨q',h1,h2.fresh hR,h3⟩
     . rw [yf7]at hy|-;(try simp only [↓reduceIte,OfNat.ofNat_ne_ofNat,Nat.reduceEqDiff]);exact hy
     . rw [yf8]at hy|-;(try simp only [↓reduceIte,OfNat.ofNat_ne_ofNat,Nat.reduceEqDiff]);exact hy
     . exact(Qg hs (by kernel_rfl)).elim
     . exact(Qg hs (by kernel_rfl)).elim
     rw [yf11]at hy|-;(try simp only [↓reduceIte,OfNat.ofNat_ne_ofNat,Nat.reduceEqDiff]);exact hy.fresh hR
   refine Q9.p cEq yM [(9,some 14)] (by kernel_rfl) (by kernel_rfl) (λxs W hw hd K hK'=>?_) ?_
   . simp only [Qd]at hd
     obtain⟨hf9,_⟩:=hd;simp only [Q5,Act.put,sb_,sz_,ss_]at hK'|-;rw [yf9]at hf9;go_simp;exact hK' _ (by rw [yf10];(try simp only [↓reduceIte,OfNat.ofNat_ne_ofNat,Nat.reduceEqDiff]);exact⟨rfl,hf9⟩)
   exact Q9.nil
 intro xs W hw hd;rw [cEq]at hw;simp only [YD]at hd;obtain⟨fe0,fe1,fe2,fe3,fe4,fe5,fe6,fe7,fe8,fe9,fe10,_⟩:=hd;have fe0:=fe0 (by first|kernel_rfl|trivial);rw [yf0]at fe0;have fe1:=fe1 (by first|kernel_rfl|trivial);rw [yf1]at fe1;have fe2:=fe2 (by first|kernel_rfl|trivial);rw [yf2]at fe2;have fe3:=fe3 (by first|kernel_rfl|trivial);rw [yf3]at fe3;have fe4:=fe4 (by first|kernel_rfl|trivial);rw [yf4]at fe4;have fe5:=fe5 (by first|kernel_rfl|trivial);rw [yf5]at fe5;have fe6:=fe6 (by first|kernel_rfl|trivial);rw [yf6]at fe6;have fe7:=fe7 (by first|kernel_rfl|trivial);rw [yf7]at fe7;have fe8:=fe8 (by first|kernel_rfl|trivial);rw [yf8]at fe8;have fe9:=fe9 (by first|kernel_rfl|trivial);rw [yf9]at fe9;have fe10:=fe10 (by first|kernel_rfl|trivial);rw [yf10]at fe10;simp only [Q5,Act.put,sb_,sz_,ss_];generalize xs 0=xv0 at *;generalize xs 1=xv1 at *;generalize xs 2=xv2 at *;generalize xs 3=xv3 at *;generalize xs 4=xv4 at *;generalize xs 5=xv5 at *;generalize xs 6=xv6 at *;generalize xs 7=xv7 at *;generalize xs 8=xv8 at *;generalize xs 9=xv9 at *;generalize xs 10=xv10 at *;subst fe0;subst fe1;subst fe2;subst fe3;subst fe4;subst fe7;subst fe8;clear yf0 yf1 yf2 yf3 yf4 yf5 yf6 yf7 yf8 yf9 yf10 yf11 yN yR yM yP cEq;obtain⟨h10,A,c',h9,hc',r9⟩:=fe10;subst h10;rw [h9];have c5:=fe5.2;clear fe5 fe6;go_wp2_with fail;(try go_ret);exact hR _ _ ⟨U1.trans' hw,⟨A,s,c',rfl,hc',r9.mono λb hb=>by have:=U1.size;omega⟩,c5⟩
theorem Qaj (F:Nat->Prop) (g pr s:Nat) (kd:Int) (fo:Bool) (tv:Value) (bs:List Nat) (at_:Nat) (w:World) (hcu:Q4 w F g bs at_) (hF:∀b,F b->b≠g)
   (br:Blk w pr 101 #[.pointer (some ⟨g,0,none⟩),tv]) (hpg:pr≠g) (hs0:0<s) (hs:s<=131072) (h:¬at_<bs.length) :
   Calls prog 69 #[.pointer (some ⟨pr,0,none⟩),.agg #[.int .i64 kd,.bool fo,.int .i64 (s:Nat)]] w (YE F g bs (.inl 3) w):=by
 have hmf:∀(fn:Fn) (first cap:Array Value) (w:World),(Instr.makeFunc fn first cap).run prog w = .ok (.func fn first cap) w:=λ_ _ _ _=>rfl;obtain⟨w1,H,hw1,hH,f0,b0⟩:=al_ w 41 #[.int .i64 kd,.bool fo,.int .i64 (s:Nat)];(have hHg:H≠g:=by have:=hcu.lt;omega);have HCB:=hd_ (show ∀W,Upd (λb=>b=g) w1 W->W.cell? ⟨pr,0,none⟩=some (.pointer (some ⟨g,0,none⟩))/\W.cell? ⟨H,2,none⟩=some (.int .i64 (s:Nat))from λW hW=>⟨by simpa using((br.fresh f0).upd hW hpg).cell 0,by simpa using(b0.upd hW hHg).cell 2⟩);have HRB:=hd_ (λW (hW:Q4 W F g bs at_)=>(Jd F g bs at_ W hW hF).mono λe w' q=>(show Upd (λb=>b=g) W w'/\e=Qa 3/\Q4 w' F g bs at_ from by rw [if_neg h]at q;exact q));have HCU:=hd_ (hcu.fresh f0);have HS:=hd_ (And.intro hs0 hs);have U1:=hd_ (f0.mono (T:=λb=>b=g) (λ_ _ h=>h.elim));obtain⟨x,hx⟩:=nm_ (bs[at_]?.getD 0);have HH:=hd_ hH;have HW:=hd_ hw1;clear hcu hF br hpg hs0 hs h hw1 hH f0 b0 hHg hx;refine Q8 λR hR=>?_;unfold YE at hR;simp only at hR;have hR0:=hR;clear hR;have hR:=hd_ (show ∀(e:Ending) w',Upd (λb=>b=g) w w'->R (Qa 3) w' from λe w' h=>hR0 _ _ ⟨h,rfl⟩);clear hR0;go_enter func69,ntmps69;go_upto_region 1 with fail;simp only [<-HH.out,<-HW.out];obtain⟨Cw,cEq⟩:=exC (λW=>Upd (λb=>b=g) w1 W);obtain⟨Y,yA⟩:=exY [λxs W=>(xs 0) = .pointer (some ⟨pr,0,none⟩),λxs W=>(xs 1) = .pointer (some ⟨pr,0,none⟩),λxs W=>(xs 2) = .pointer (some ⟨pr,0,none⟩),λxs W=>(xs 3) = .pointer (some ⟨g,0,none⟩),λxs W=>(xs 4) = .func (.func 120) #[.pointer (some ⟨g,0,none⟩)] #[],λxs W=>False,λxs W=>False,λxs W=>(xs 7) = .pointer (some ⟨H,2,none⟩),λxs W=>(xs 8) = .int .i64 (s:Nat),λxs W=>False,λxs W=>False,λxs W=>Q4 W F g bs at_];have yf0:=yA 0;have yf1:=yA 1;have yf2:=yA 2;have yf3:=yA 3;have yf4:=yA 4;have yf5:=yA 5;have yf6:=yA 6;have yf7:=yA 7;have yf8:=yA 8;have yf9:=yA 9;have yf10:=yA 10;have yf11:=yA 11;simp only [List.getD_cons_zero,List.getD_cons_succ]at yf0 yf1 yf2 yf3 yf4 yf5 yf6 yf7 yf8 yf9 yf10 yf11;(have yN:∀j xs W,12<=j->Y j xs W=True:=λj xs W hj=>by rw [yA,Y6 _ _ _ hj])
 have yP:∀j xs W W',j∈[0,1,2,3,4,5,6,7,8,9,10]->Y j xs W->Y j xs W':=by
   intro j xs W W' hj hy;simp only [List.mem_cons,List.not_mem_nil,or_false]at hj;(rcases hj with rfl|rfl|rfl|rfl|rfl|rfl|rfl|rfl|rfl|rfl|rfl<;>(rw [yA]at hy|-;exact hy))
 have yM:Jt [[0],[1],[2],[3],[4],[],[],[7],[8],[],[],[]] Y:=by
   intro j xs xs' W hh hy;by_cases hj:12<=j
   . rw [yN j _ _ hj];trivial
   (have hj':j=0\/j=1\/j=2\/j=3\/j=4\/j=5\/j=6\/j=7\/j=8\/j=9\/j=10\/j=11:=by omega);rcases hj' with rfl|rfl|rfl|rfl|rfl|rfl|rfl|rfl|rfl|rfl|rfl|rfl;(all_goals(rw [yA]at hy|-;(try simp only [List.getD_cons_zero,List.getD_cons_succ]at hy|-);repeat rw [<-hh]));(all_goals first|exact hy|decide)
 clear yA
 have yR:∀j xs,11<=j->Y j xs (w1.drew):=by
   intro j xs hj;rcases(show j=11\/12<=j by omega)with rfl|hj
   . rw [yf11];exact HCU.out
   rw [yN _ _ _ hj];trivial
 refine Jm (PP:=λch W=>ch=[{ v:=.iface 24 (.int .i64 3),recovered:=false }]/\Upd (λb=>b=g) w1 W) Cw (λj=>if j=11 then [5]else []) Y [(0,some 5),(1,some 6),(2,some 7),(3,some 8),(4,some 9),(5,some 10),(6,some 11),(7,some 12),(8,some 13),(9,some 14),(10,some 4)] (by kernel_rfl) (by kernel_rfl) (by kernel_rfl) (by rw [cEq];exact(Upd.refl _ _).drew) (λj hj=>yR j _ hj) ?_ ?_ (λch a W hd h=>by obtain⟨rfl,h2⟩:=h;exact⟨hd,hR (Qa 3) _ (U1.trans' h2)⟩)
 . refine Q9.p cEq yM [] (by kernel_rfl) (by kernel_rfl) (λxs W hw hd K hK'=>?_) ?_
   . simp only [Q5,Act.put,sb_,sz_,ss_]at hK'|-
     go_simp;exact hK' _ (by rw [yf0];exact if_pos rfl)
   refine Q9.p cEq yM [(0,some 5)] (by kernel_rfl) (by kernel_rfl) (λxs W hw hd K hK'=>?_) ?_
   . simp only [Qd]at hd
     obtain⟨hf0,_⟩:=hd;simp only [Q5,Act.put,sb_,sz_,ss_]at hK'|-;rw [yf0]at hf0;simp only [hf0]at hK'|-;go_simp;exact hK' _ (by rw [yf1];exact if_pos rfl)
   refine Q9.p cEq yM [(1,some 6)] (by kernel_rfl) (by kernel_rfl) (λxs W hw hd K hK'=>?_) ?_
   . simp only [Qd]at hd
     obtain⟨hf1,_⟩:=hd;simp only [Q5,Act.put,sb_,sz_,ss_]at hK'|-;rw [yf1]at hf1;simp only [hf1]at hK'|-;go_simp;exact hK' _ (by rw [yf2];exact if_pos rfl)
   refine Q9.p cEq yM [(2,some 7)] (by kernel_rfl) (by kernel_rfl) (λxs W hw hd K hK'=>?_) ?_
   . simp only [Qd]at hd
     obtain⟨hf2,_⟩:=hd;simp only [Q5,Act.put,sb_,sz_,ss_]at hK'|-;rw [yf2]at hf2;simp only [hf2]at hK'|-;have cl:=HCB W hw;obtain⟨cl0,cl1⟩:=cl;go_simp;exact hK' _ (by rw [yf3];exact if_pos rfl)
   refine Q9.p cEq yM [(3,some 8)] (by kernel_rfl) (by kernel_rfl) (λxs W hw hd K hK'=>?_) ?_
   . simp only [Qd]at hd
     obtain⟨hf3,_⟩:=hd;simp only [Q5,Act.put,sb_,sz_,ss_]at hK'|-;rw [yf3]at hf3;simp only [hf3]at hK'|-;go_simp;exact hK' _ (by rw [yf4];exact if_pos rfl)
   refine Q9.c cEq [(4,some 9),(11,none)] (by kernel_rfl) (λxs W hw hd K hK'=>?_) ?_
   . simp only [Qd]at hd
     obtain⟨hf4,hf11,_⟩:=hd;simp only [Q5,Act.put,sb_,sz_,ss_]at hK'|-;rw [yf4]at hf4;rw [yf11]at hf11;simp only [hf4]at hK'|-;go_simp;refine(HRB W hf11).mono ?_;rintro e9 w9 ⟨u9,rfl,c9⟩;simp only [Qa];exact⟨rfl,hw.trans' u9⟩
   refine Q9.c cEq [(5,some 10)] (by kernel_rfl) (λxs W hw hd K hK'=>?_) ?_
   . simp only [Qd]at hd
     obtain⟨hf5,_⟩:=hd;simp only [Q5,Act.put,sb_,sz_,ss_]at hK'|-;rw [yf5]at hf5;exact hf5.elim
   refine Q9.p cEq yM [] (by kernel_rfl) (by kernel_rfl) (λxs W hw hd K hK'=>?_) ?_
   . simp only [Q5,Act.put,sb_,sz_,ss_]at hK'|-
     go_simp;exact hK' _ (by rw [yf7];exact if_pos rfl)
   refine Q9.p cEq yM [(7,some 12)] (by kernel_rfl) (by kernel_rfl) (λxs W hw hd K hK'=>?_) ?_
   . simp only [Qd]at hd
     obtain⟨hf7,_⟩:=hd;simp only [Q5,Act.put,sb_,sz_,ss_]at hK'|-;rw [yf7]at hf7;simp only [hf7]at hK'|-;have cl:=HCB W hw;obtain⟨cl0,cl1⟩:=cl;go_simp;exact hK' _ (by rw [yf8];exact if_pos rfl)
   refine Q9.c cEq [(6,some 11),(8,some 13)] (by kernel_rfl) (λxs W hw hd K hK'=>?_) ?_
   . simp only [Qd]at hd
     obtain⟨hf6,hf8,_⟩:=hd;simp only [Q5,Act.put,sb_,sz_,ss_]at hK'|-;rw [yf6]at hf6;rw [yf8]at hf8;simp only [hf8]at hK'|-;exact hf6.elim
   refine Q9.c cEq [(9,some 14)] (by kernel_rfl) (λxs W hw hd K hK'=>?_) ?_
   . simp only [Qd]at hd
     obtain⟨hf9,_⟩:=hd;simp only [Q5,Act.put,sb_,sz_,ss_]at hK'|-;rw [yf9]at hf9;exact hf9.elim
   exact Q9.nil
 intro xs W hw hd;rw [cEq]at hw;simp only [YD]at hd;obtain⟨fe0,fe1,fe2,fe3,fe4,fe5,fe6,fe7,fe8,fe9,fe10,_⟩:=hd;have fe0:=fe0 (by first|kernel_rfl|trivial);rw [yf0]at fe0;have fe1:=fe1 (by first|kernel_rfl|trivial);rw [yf1]at fe1;have fe2:=fe2 (by first|kernel_rfl|trivial);rw [yf2]at fe2;have fe3:=fe3 (by first|kernel_rfl|trivial);rw [yf3]at fe3;have fe4:=fe4 (by first|kernel_rfl|trivial);rw [yf4]at fe4;have fe5:=fe5 (by first|kernel_rfl|trivial);rw [yf5]at fe5;have fe6:=fe6 (by first|kernel_rfl|trivial);rw [yf6]at fe6;have fe7:=fe7 (by first|kernel_rfl|trivial);rw [yf7]at fe7;have fe8:=fe8 (by first|kernel_rfl|trivial);rw [yf8]at fe8;have fe9:=fe9 (by first|kernel_rfl|trivial);rw [yf9]at fe9;have fe10:=fe10 (by first|kernel_rfl|trivial);rw [yf10]at fe10;simp only [Q5,Act.put,sb_,sz_,ss_];generalize xs 0=xv0 at *;generalize xs 1=xv1 at *;generalize xs 2=xv2 at *;generalize xs 3=xv3 at *;generalize xs 4=xv4 at *;generalize xs 5=xv5 at *;generalize xs 6=xv6 at *;generalize xs 7=xv7 at *;generalize xs 8=xv8 at *;generalize xs 9=xv9 at *;generalize xs 10=xv10 at *;subst fe0;subst fe1;subst fe2;subst fe3;subst fe4;subst fe7;subst fe8;clear yf0 yf1 yf2 yf3 yf4 yf5 yf6 yf7 yf8 yf9 yf10 yf11 yN yR yM yP cEq;exact fe10.elim
def J7 (l:List Nat):Int ⊕ (Nat × Nat) :=
  if(Qt l).2.2=0 then if(Qt l).1<=l.length-(Qt l).2.1 then .inr ((Qt l).2.1,(Qt l).1)else .inl 3 else .inl (Qt l).2.2
theorem Q5D (F:Nat->Prop) (g pr qa qb m:Nat) (tv:Value) (bs:List Nat) (at_:Nat) (w:World) (hcu:Q4 w F g bs at_) (hF:∀b,F b->b≠g)
   (br:Blk w pr 101 #[.pointer (some ⟨g,0,none⟩),tv]) (ba:Blk w qa 99 #[.pointer (some ⟨pr,0,none⟩)]) (bb:Blk w qb 80 #[.int .u64 (m:Nat)]) (hm:at_+m<=bs.length) :
   Calls prog 172 #[.pointer (some ⟨qa,0,none⟩),.pointer (some ⟨qb,0,none⟩)] w λe w'=>Upd (λb=>b=g) w w' /\
     ∃K,e = .returned (.tuple #[.pointer (some ⟨K,0,none⟩),.int .i64 0])/\w.heap.size<=K/\Q4 w' (λb=>w.heap.size<=b/\b≠K) K ((bs.drop at_).take m) 0/\Q4 w' F g bs (at_+m):=by
 have a0:=ba.cell 0;have b2:=bb.cell 0;have r0:=br.cell 0;simp at a0 b2 r0;(have hlen:bs.length<=2^32:=by obtain⟨_,_,_,_,_,_,h,_⟩:=hcu;exact h)
 have HB:=hd_ (λW (hW:Q0 w W)=>(Q90 F g bs at_ m W (hcu.fresh hW) (by omega) hF).mono λe w' h=>(show Upd (λb=>b=g) W w'/\∃K,e = .returned (.tuple #[.pointer (some ⟨K,0,none⟩),.int .i64 0])/\W.heap.size<=K/\Q4 w' (λb=>W.heap.size<=b/\b≠K) K ((bs.drop at_).take m) 0/\Q4 w' F g bs (at_+m)from by
   unfold VU at h;rw [if_pos hm]at h;exact h))
 have hwm:IntKind.i64.wrap (m:Int)=m:=IntWalk.i64_in _ (by omega);clear hcu hF br ba bb hm hlen;refine Q8 λR hR=>?_;go_enter func172,ntmps172;go_upto_region 1 with fail;go_region_with (go_at_call 173;refine(HB _ ((Upd.refl _ _).drewN 1)).mono ?_;rintro e w6 ⟨u6,K6,rfl,k6,c6,d6⟩;have U6:=hd_ u6;have C6:=hd_ c6;have D6:=hd_ d6;have K7:=hd_ k6;clear u6 c6 d6 k6)
 all_goals(
   go_wp2_with fail;(try go_ret2)
   exact hR _ _ ⟨((Upd.refl _ _).drewN 1).trans' U6.out,K6,rfl,by have:=K7.out;simpa using this,C6.mono λb hb=>by simpa using hb,D6.out⟩)
def Ka (F:Nat->Prop) (g:Nat) (bs:List Nat) (at_:Nat) (w:World) (e:Ending) (w':World):Prop :=
  Upd (λb=>b=g) w w'/\match J7 (bs.drop at_)with
    | .inl er=>e=Qa er
    | .inr (u,m)=>∃K,e = .returned (.pointer (some ⟨K,0,none⟩))/\w.heap.size<=K/\Q4 w' (λb=>w.heap.size<=b/\b≠K) K ((bs.drop (at_+u)).take m) 0/\Q4 w' F g bs (at_+u+m)
theorem Vx (F:Nat->Prop) (g pr:Nat) (tv:Value) (bs:List Nat) (at_:Nat) (w:World) (hcu:Q4 w F g bs at_) (hF:∀b,F b->b≠g)
   (br:Blk w pr 101 #[.pointer (some ⟨g,0,none⟩),tv]) (hpg:pr≠g) :
   Calls prog 126 #[.pointer (some ⟨pr,0,none⟩)] w (Ka F g bs at_ w):=by
 have hmf:∀(fn:Fn) (first cap:Array Value) (w:World),(Instr.makeFunc fn first cap).run prog w = .ok (.func fn first cap) w:=λ_ _ _ _=>rfl;obtain⟨w0,H,hw0,hH,f0,ba⟩:=al_ w 99 #[.pointer (some ⟨pr,0,none⟩)];(have hHg:H≠g:=by have:=hcu.lt;omega);have HV:=hd_ (Kw (λb=>F b/\b<w.heap.size) g bs at_ w0 (hcu.both.fresh f0) (λb hb=>hF b hb.1));have x0:=ba.cell 0;have x1:=(br.fresh f0).cell 0;simp at x0 x1;obtain⟨V,hV⟩:=nm_ (Qt (bs.drop at_));have hlenl:(bs.drop at_).length=bs.length-at_:=List.length_drop;(have hlen:bs.length<=2^32:=by obtain⟨_,_,_,_,_,_,h,_⟩:=hcu;exact h);(have hle:at_<=bs.length:=by obtain⟨_,_,_,_,_,h,_⟩:=hcu;exact h);unfold Ka J7;rw [hlenl];rw [<-hV]at HV|-;have BA:=hd_ ba;have BR:=hd_ (br.fresh f0);have HGS:=hd_ (And.intro hHg hpg);have HF:=hd_ hF;have F0:=hd_ f0;have HH:=hd_ hH;have HW:=hd_ hw0;have HLE:=hd_ (And.intro hlen hle);clear hcu hF br hpg hw0 hH f0 ba hHg hV hlenl hlen hle;refine Q8 λR hR=>?_;go_enter func126,ntmps126;go_upto_region 1 with fail;simp only [<-HH.out,<-HW.out];by_cases v0:V.2.2=0
 . simp only [if_pos v0]at HV hR
   obtain⟨n,hn⟩:=nm_ (V.1);obtain⟨u,hu⟩:=nm_ (V.2.1);rw [<-hn,<-hu]at HV hR;clear v0 hn hu;go_wp2_with fail;refine HV.mono ?_;rintro e w1 ⟨u1,rfl,c1⟩;(have hat:at_+u<=bs.length:=by obtain⟨_,_,_,_,_,h,_⟩:=c1;exact h);go_upto_region 2 with fail;obtain⟨Q,hQ⟩:=nm_ (w1.heap.size);obtain⟨w2,hw2⟩:=nm_ (w1.alloc (.cells #[.int .u64 (n:Nat)] 80));simp only [<-hQ,<-hw2];(have f2:Q0 w1 w2:=by rw [hw2];exact(Upd.refl _ _).alloc _);(have bq:Blk w2 Q 80 #[.int .u64 (n:Nat)]:=by rw [hw2];exact Qb hQ _ _);have ba2:=(BA.upd u1 HGS.1).fresh f2;have br2:=(BR.upd u1 HGS.2).fresh f2;have c2:=c1.fresh f2;have U2:=hd_ (((F0.mono (T:=λb=>b=g) (λ_ _ h=>h.elim)).trans' u1).trans f2 (λ_ _ h=>h.elim));have HL:=hd_ (λq=>JG _ g bs (at_+u) (w2.drewN q) c2);have y0:=bq.cell 0;have y1:=ba2.cell 0;have y2:=br2.cell 0;simp at y0 y1 y2;have BQ2:=hd_ bq;have BA2:=hd_ ba2;have BR2:=hd_ br2;have C2:=hd_ c2;(have hLI:((bs.length-(at_+u):Nat):Int)<=4294967296:=by have:=HLE.1;omega);obtain⟨L,hL⟩:=nm_ (bs.length-(at_+u));(have hL2:bs.length-at_-u=L:=by omega);rw [<-hL]at HL hLI;rw [hL2]at hR;(have hwL:IntKind.u64.wrap (L:Int)=L:=by unfold IntKind.wrap;simp [IntKind.bits];omega);have HLL:=hd_ hL;have HAT:=hd_ hat;clear hQ hw2 f2 bq ba2 br2 c2 u1 c1 HV x0 x1 hL hL2 hat;refine QJ 8 (by kernel_rfl) (by kernel_rfl) ?_;simp only [List.take_succ_cons,List.take_zero,List.drop_succ_cons,List.drop_zero];(repeat(first|go_big_quiet_step ((go_at_call 39;exact Calls.quiet_of (HL _)))|quiet_step (fail)));refine wpQuiet_nil ?_;rintro w5 ⟨q5,rfl⟩;by_cases hn:n<=L
   . have hnI:(n:Int)<=L:=by omega
     simp only [if_pos hn]at hR;(have hnb:at_+u+n<=bs.length:=by have:=HLL.out;have:=HAT.out;omega);have HNB:=hd_ hnb;clear hn hnb;go_wp2_with fail;refine(YU _ _ _ (by first|rfl|exact decide_eq_true (by omega)|(simp;omega))).mono ?_;rintro e w6 ⟨rfl,hw6⟩;(have f6:Q0 w2 w6:=by rw [hw6];exact(Upd.refl _ _).drewN _);have H1:=hd_ (Q5D _ g pr H Q n tv bs (at_+u) w6 (C2.fresh f6) (λb hb=>HF b hb.1) (BR2.fresh f6) (BA2.fresh f6) (BQ2.fresh f6) HNB.out);have F6:=hd_ (U2.trans f6 (λ_ _ h=>h.elim));clear hw6 f6 HL
     have HLR:=hd_ (Q7m 172 #[.pointer (some ⟨H,0,none⟩),.pointer (some ⟨Q,0,none⟩)] w6 (λ_ _=>rfl) (λv w'=>Upd (λb=>b=g) w6 w'/\∃K,v = .pointer (some ⟨K,0,none⟩)/\w6.heap.size<=K/\Q4 w' (λb=>w6.heap.size<=b/\b≠K) K ((bs.drop (at_+u)).take n) 0/\Q4 w' (λb=>F b/\b<w.heap.size) g bs (at_+u+n))
       (H1.mono λe w' h=>by obtain⟨h1,K,rfl,h2⟩:=h;exact⟨_,rfl,h1,K,rfl,h2⟩))
     clear H1;go_wp2_with fail;refine HLR.mono ?_;rintro e w8 ⟨v,w7,rfl,⟨u7,K,rfl,hK,cK,cG⟩,f8⟩;have hsz:=F6.size
     have HFIN:=hd_ (show Upd (λb=>b=g) w w8/\w.heap.size<=K/\Q4 w8 (λb=>w.heap.size<=b/\b≠K) K ((bs.drop (at_+u)).take n) 0/\Q4 w8 F g bs (at_+u+n)from
       ⟨(F6.trans' u7).trans f8 (λ_ _ h=>h.elim),by omega,(cK.mono λb hb=>⟨by have:=hb.1;omega,hb.2⟩).fresh f8,(cG.mono λb hb=>hb.1).fresh f8⟩)
     clear u7 hK cK cG f8 HLR hsz;go_wp2_with fail;(try go_ret);exact hR _ _ ⟨HFIN.1,K,rfl,HFIN.2⟩
   (have hnI:¬(n:Int)<=L:=by omega);simp only [if_neg hn]at hR;clear hn;go_wp2_with fail;refine(Jq _ _ _ (by first|rfl|exact decide_eq_false (by omega)|(simp;omega))).mono ?_;rintro e w6 ⟨rfl,hw6⟩;simp only [Qa];exact⟨rfl,hR _ _ ⟨U2.trans (show Q0 w2 w6 by rw [hw6];exact(Upd.refl _ _).drewN _) (λ_ _ h=>h.elim),rfl⟩⟩
 simp only [if_neg v0]at HV hR;clear v0;go_wp2_with fail;refine HV.mono ?_;rintro e w1 ⟨u1,rfl,c1⟩;simp only [Qa];exact⟨rfl,hR _ _ ⟨(F0.mono (T:=λb=>b=g) (λ_ _ h=>h.elim)).trans' u1,rfl⟩⟩
theorem QN.mono {w:World} {S S':Nat->Prop} {g:Nat} {l:List Bool} (h:QN w S g l) (hs:∀k,S k->S' k):QN w S' g l:=by
 obtain⟨v,n,sv,bs,h1,h2,h3,h4,h5,h6,h7,h8⟩:=h;exact⟨v,n,sv,bs,h1,h2,h3,h4,h5,h6,hs _ h7,λk hk=>hs k (h8 k hk)⟩
theorem QN.upd {w w':World} {S T:Nat->Prop} {g:Nat} {l:List Bool} (h:QN w S g l) (hu:Upd T w w') (hs:∀k,k<w.heap.size->T k->k≠g/\¬ ∃cs,Blk w k 5 cs):QN w' S g l:=by
 obtain⟨v,n,sv,bs,h1,h2,h3,h4,h5,h6,h7,h8⟩:=h;exact⟨v,n,sv,bs,h1.upd hu (λht=>(hs g h1.lt ht).1 rfl),h2.upd hu (λb hb ht=>(hs b (h2.lt hb) ht).2 (h2.blk hb)),h3,h4,h5,h6,h7,h8⟩
theorem QN.lt {w:World} {S:Nat->Prop} {g:Nat} {l:List Bool} (h:QN w S g l):g<w.heap.size/\∃cs,Blk w g 124 cs:=by
 obtain⟨v,n,sv,bs,h1,_⟩:=h;exact⟨h1.lt,_,h1⟩
theorem Qa6 (base g x n:Nat) (B:List Bool) (w:World) (h:QN w (λk=>base<=k) g B) (hb:base<=w.heap.size) (hn:n<=32) (hx:x<2^n) (hl:B.length<=2^30) :
   Calls prog 89 #[.pointer (some ⟨g,0,none⟩),.int .u64 x,.int .i64 n] w λe w'=>e = .returned (.int .i64 0) /\
     Upd (λk=>k=g\/(base<=k/\∃cs,Blk w k 5 cs)) w w'/\QN w' (λk=>base<=k) g (B++Qr n x):=by
 obtain⟨v,n',sv,bs,h1,h2,h3,h4,h5,h6,h7,h8⟩:=h;have hw:QN w (λk=>base<=k/\(k=g\/sv.ownBlock=some k\/w.heap.size<=k)) g B:=⟨v,n',sv,bs,h1,h2,h3,h4,h5,h6,⟨h7,.inl rfl⟩,λk hk=>⟨h8 k hk,.inr (.inl hk)⟩⟩;refine(Qac _ g x n B w hw hn hx hl (λk hk=>⟨by omega,.inr (.inr hk)⟩)).mono λe w' ⟨he,hu,hw'⟩=>⟨he,hu.mono λk hk hs=>?_,hw'.mono λk hk=>hk.1⟩;rcases hs.2 with h|h|h
 . exact .inl h
 . exact .inr ⟨hs.1,h2.blk h⟩
 omega
theorem Q7r (S:Nat->Prop) (g:Nat) (B:List Bool) (w:World) (h:QN w S g B) (hl:B.length<=2^29) :
   Calls prog 91 #[.pointer (some ⟨g,0,none⟩)] w λe w'=>∃v,e = .returned v/\Qu w w' v (Yr (B++[true])):=by
 obtain⟨v,n,sv,bs,h1,h2,h3,h4,h5,h6,h7,h8⟩:=h;(have hlb:bs.length<=2^28:=by have:=congrArg List.length h6;simp at this;omega);obtain⟨A,c,rfl,hc,hr⟩:=h2.form;(have hln:(bs.map λb:Nat=>Value.int .u8 (b:Nat)).length=bs.length:=by simp);obtain⟨c0,c1,c2⟩:=(h1).cells3;have HC:=hd_ (λW (hW:Q0 w W)=>YA A _ c _ W (hr.fresh hW) (Jo bs) (by omega));rw [hln]at HC;have HB:=hd_ h1;have H6:=hd_ (And.intro h3 (And.intro h4 (And.intro h5 h6)));have H2:=hd_ h2;clear h1 h2 h3 h4 h5 h6 h7 h8 hc hr
 have FA:=hd_ (show ∀w1 A1 n1 d1,Own w1 5 (.slice A1 n1 d1) (bs.map λb:Nat=>.int .u8 (b:Nat))->(∀k,(Value.slice A1 n1 d1).ownBlock=some k->w.heap.size<=k)->Q0 w w1 ->
     QN (w1.alloc (.cells #[.int .u64 v,.int .i64 n,.slice A1 n1 d1] 124)) (λk=>w.heap.size<=k) w1.heap.size B/\Q0 w (w1.alloc (.cells #[.int .u64 v,.int .i64 n,.slice A1 n1 d1] 124))from by
   intro w1 A1 n1 d1 o1 k1 f1;obtain⟨h3,h4,h5,h6⟩:=H6.out
   exact⟨⟨v,n,_,bs,Qb rfl _ _,o1.alloc _,h3,h4,h5,h6,f1.size,k1⟩,f1.alloc _⟩)
 have FB:=hd_ (show ∀w1 A1 n1 d1,Blk w1 w.heap.size 124 #[.int .u64 0,.int .i64 0,.slice none 0 0]->Own w1 5 (.slice A1 n1 d1) (bs.map λb:Nat=>.int .u8 (b:Nat))->(∀k,(Value.slice A1 n1 d1).ownBlock=some k->w.heap.size<=k)->Q0 w w1 ->
     QN (((w1.setCell ⟨w.heap.size,0,none⟩ (.int .u64 v)).setCell ⟨w.heap.size,1,none⟩ (.int .i64 n)).setCell ⟨w.heap.size,2,none⟩ (.slice A1 n1 d1)) (λk=>w.heap.size<=k) w.heap.size B /\
     Q0 w (((w1.setCell ⟨w.heap.size,0,none⟩ (.int .u64 v)).setCell ⟨w.heap.size,1,none⟩ (.int .i64 n)).setCell ⟨w.heap.size,2,none⟩ (.slice A1 n1 d1))from by
   intro w1 A1 n1 d1 b1 o1 k1 f1;obtain⟨h3,h4,h5,h6⟩:=H6.out;have hne:=o1.ne_blk b1 (by decide);have bb:=((b1.set_ 0 (.int .u64 v)).set_ 1 (.int .i64 n)).set_ 2 (.slice A1 n1 d1);refine⟨⟨v,n,_,bs,by simpa using bb,((o1.far hne _).far hne _).far hne _,h3,h4,h5,h6,Nat.le_refl _,k1⟩,?_⟩
   exact((f1.setCell (p:=⟨w.heap.size,0,none⟩) (λh=>by simp at h) _).setCell (p:=⟨w.heap.size,1,none⟩) (λh=>by simp at h) _).setCell (p:=⟨w.heap.size,2,none⟩) (λh=>by simp at h) _)
 have HPT:=hd_ (λZ W (h:QN W (λk=>w.heap.size<=k) Z B) (f:Q0 w W)=>Qa6 w.heap.size Z 1 1 B W h f.size (by omega) (by decide) (by omega));have HBY:=hd_ (λZ W (h:QN W (λk=>w.heap.size<=k) Z (B++Qr 1 1))=>Q72 _ Z (B++Qr 1 1) W h (by simp;omega));have hb11:Qr 1 1=[true]:=rfl;rw [hb11]at HPT HBY;refine Q8 λR hR=>?_;go_enter func91,ntmps91;go_upto_region 3 with fail;(have HQ:∀W,W=w.alloc (.cells #[.int .u64 0,.int .i64 0,.slice none 0 0] 124)->Blk W w.heap.size 124 #[.int .u64 0,.int .i64 0,.slice none 0 0]:=λW hW=>by rw [hW];exact Qb rfl _ _);have HQ:=hd_ HQ;have c0z:=λo=>(HB.alloc o).cell 0;have c1z:=λo=>(HB.alloc o).cell 1;have c2z:=λo=>(HB.alloc o).cell 2;simp at c0z c1z c2z;go_cut [3] (λq wx=>∃Z,q = .pointer (some ⟨Z,0,none⟩)/\QN wx (λk=>w.heap.size<=k) Z B/\Q0 w wx)
 case first =>
   go_region_with (first
     | (go_at_call 61;((refine(HC _ (Upd.refl _ _).drew).mono ?_);rintro e w1 ⟨v1,rfl,o1,f1,k1⟩);have c0x:=(HB.drew.fresh f1).cell 0;have c1x:=(HB.drew.fresh f1).cell 1;have c2x:=(HB.drew.fresh f1).cell 2;have c0y:=λo=>((HB.drew.fresh f1).alloc o).cell 0;have c1y:=λo=>((HB.drew.fresh f1).alloc o).cell 1;simp at c0x c1x c2x c0y c1y;obtain⟨A1,n1,d1,rfl,hn1⟩:=o1.form';have f1x:Q0 w w1:=(Upd.refl _ w).drew.trans' f1)
     | (go_at_call 61;((refine(HC _ ((Upd.refl _ _).alloc _).drew).mono ?_);rintro e w1 ⟨v1,rfl,o1,f1,k1⟩);have c0x:=((HB.alloc (.cells #[.int .u64 0,.int .i64 0,.slice none 0 0] 124)).drew.fresh f1).cell 0;have c1x:=((HB.alloc (.cells #[.int .u64 0,.int .i64 0,.slice none 0 0] 124)).drew.fresh f1).cell 1;have c2x:=((HB.alloc (.cells #[.int .u64 0,.int .i64 0,.slice none 0 0] 124)).drew.fresh f1).cell 2;have bq:=(HQ _ rfl).drew.fresh f1;have q0:=bq.cell 0;have q1:=bq.cell 1;have q2:=bq.cell 2;have z0:=bq.frozen 0;have z1:=bq.frozen 1;have z2:=bq.frozen 2;simp at c0x c1x c2x q0 q1 q2;obtain⟨A1,n1,d1,rfl,hn1⟩:=o1.form';have f1x:Q0 w w1:=((Upd.refl _ w).alloc (.cells #[.int .u64 0,.int .i64 0,.slice none 0 0] 124)).drew.trans' f1))
   (all_goals go_wp2_with fail);(all_goals go_meet)
   all_goals first
     | exact⟨_,rfl,FA w1 A1 n1 d1 o1 (λk hk=>by have:=k1 k hk;simp at this;omega) f1x⟩
     | exact⟨_,rfl,FB w1 A1 n1 d1 bq o1 (λk hk=>by have:=k1 k hk;simp at this;omega) f1x⟩
     | trace_state
 case rest =>
   obtain⟨Z,rfl,hq1,hq2⟩:=hcut;have FW:=hd_ hq2;have HPX:=hd_ (HPT _ _ hq1 hq2);(have hZ:w.heap.size<=Z:=by obtain⟨_,_,_,_,_,_,_,_,_,_,h,_⟩:=hq1;exact h);have HZ:=hd_ hZ;clear hq1 hq2 hZ;go_wp2_with fail;refine HPX.mono ?_;rintro e w4 ⟨rfl,u4,wr4⟩;have HB4:=hd_ (HBY _ _ wr4);have F4:=hd_ (FW.trans u4 (λb hb h=>by have:=HZ.out;rcases h with h|h;omega;have:=h.1;omega));clear u4 wr4;go_wp2_with fail;refine HB4.mono ?_;rintro e w5 ⟨v5,rfl,o5,f5,k5⟩;go_wp2_with fail;(try go_ret);exact hR _ _ ⟨v5,rfl,o5,F4.trans' f5,λk hk=>by have:=k5 k hk;have:=F4.size;omega⟩
theorem Q94 (base g x n:Nat) (B:List Bool) (w:World) (h:QN w (λk=>base<=k) g B) (hb:base<=w.heap.size) (hn:n<=32) (hx:x<2^n) (hl:B.length<=2^30) :
   Calls prog 87 #[.agg #[.int .u64 (x:Nat),.int .u64 (n:Nat)],.pointer (some ⟨g,0,none⟩)] w λe w'=>e = .returned (.tuple #[]) /\
     Upd (λk=>k=g\/(base<=k/\∃cs,Blk w k 5 cs)) w w'/\QN w' (λk=>base<=k) g (B++Qr n x):=by
 obtain⟨w0,H,hw0,hH,f0,bt⟩:=al_ w 125 #[.int .u64 (x:Nat),.int .u64 (n:Nat)];obtain⟨q0,q1⟩:=(bt).cells2;have hwn:IntKind.i64.wrap (n:Int)=n:=IntWalk.i64_in _ (by omega);have HP:=hd_ (Qa6 base g x n B w0 (h.upd f0 (λ_ _ h=>h.elim)) (by have:=f0.size;omega) hn hx hl);have F0:=hd_ f0;have HW:=hd_ hw0;have HH:=hd_ hH;have BT:=hd_ bt;have HWA:=hd_ h;clear hw0 hH f0 bt h hn hx hl;refine Q8 λR hR=>?_;go_enter func87,ntmps87;go_upto_region 1 with fail;simp only [<-HH.out,<-HW.out];go_wp2_with fail;refine HP.mono ?_;rintro e w1 ⟨rfl,u1,h1⟩;have U1:=hd_ u1;have H1:=hd_ h1;clear u1 h1 HP;go_wp2_with fail;refine(KN _ _ _ (by simpa using(Blk.new w1 24 #[.int .i64 0]).cell 0)).mono ?_;rintro e w2 ⟨rfl,rfl⟩;go_wp2_with fail;(try go_end0);refine hR.out _ _ ⟨rfl,?_,H1.upd ((Upd.refl (λ_=>False) w1).alloc _) (λ_ _ h=>h.elim)⟩;refine Upd.alloc (Upd.trans (F0.mono (λ_ _ h=>h.elim)) U1.out ?_) _;rintro k hk (rfl|⟨hb2,cs,hcs⟩)
 . exact .inl rfl
 exact .inr ⟨hb2,cs,(F0.block k hk (λh=>h)).symm.trans hcs⟩
def noK (l:List Int) (c:Nat):Bool:=decide (l.length<=c\/(l[c]?).getD 0=0)
def YF (l:List Int) (bs:List Nat):Int:=match bs.findIdx? (noK l)with|some i=>(i:Int)|none=>-1
theorem Q7s (F:Nat->Prop) (A:Option Addr) (n c H x:Nat) (l:List Int) (w:World) (hr:Rd w F A n (Q7 l)) (hb:w.cell? ⟨H,0,none⟩=some (.slice A n c)) (hx:x<256) (hn:n<=2^40) :
   Calls prog 198 #[.int .u8 x,.pointer (some ⟨H,0,none⟩)] w λe w'=>e = .returned (.bool (noK l x))/\w'=w:=by
 (have hL:l.length=n:=by have:=hr.1;simpa using this);(have hxI:(x:Int)<256:=by omega);(have hnI:(n:Int)<=1099511627776:=by(have:(2:Nat)^40=1099511627776:=by decide);omega);refine Q8 λR hR=>?_;unfold noK at hR;by_cases h:n<=x
 . rw [decide_eq_true (.inl (by omega))]at hR
   (have hI:(n:Int)<=x:=by omega);clear hr h hn;go_enter func198,ntmps198;go_wp2_with fail;(try go_ret);exact hR _ _ ⟨rfl,rfl⟩
 obtain⟨b,o,hkl,rfl,_,hc⟩:=hr.int (k:=x) (by omega);(have hg:(l[x]?).getD 0=l[x]:=by rw [List.getElem?_eq_getElem hkl];rfl);rw [hg]at hR;(have hI:¬(n:Int)<=x:=by omega);(have hI2:(x:Int)<n:=by omega);by_cases hz:l[x]=0
 . rw [decide_eq_true (.inr hz)]at hR
   rw [hz]at hc;clear hr h hn hg;go_enter func198,ntmps198;go_wp2_with fail;(try go_ret);exact hR _ _ ⟨rfl,rfl⟩
 rw [decide_eq_false (by rintro(h1|h1);omega;exact hz h1)]at hR;(have hzb:(l[x] == 0)=false:=by simpa using hz);generalize l[x]=z at *;clear hr h hn hg hz;go_enter func198,ntmps198;go_wp2_with fail;(try go_ret);exact hR _ _ ⟨rfl,rfl⟩
theorem Q3v {p:Nat->Bool} {bs:List Nat} {k:Nat} (h:k<bs.length) (h0:∀x∈bs.take k,p x=false) (hp:p bs[k]=true):bs.findIdx? p=some k:=by
 rw [List.findIdx?_eq_some_iff_getElem];refine⟨h,hp,λj hj=>?_⟩
 have:bs[j]∈bs.take k:=by
   rw [List.mem_take_iff_getElem];exact⟨j,by omega,rfl⟩
 simp [h0 _ this]
theorem Q5E (F G:Nat->Prop) (A B:Option Addr) (n c H m d:Nat) (l:List Int) (bs:List Nat) (w:World) (hr:Rd w F A n (Q7 l)) (hb:w.cell? ⟨H,0,none⟩=some (.slice A n c)) (hbs:Rd w G B m (Q2 bs)) (hlt:∀b∈bs,b<256) (hn:n<=2^40) (hm:m<=2^40) :
   Calls prog 197 #[.slice B m d,.func (.func 198) #[] #[.pointer (some ⟨H,0,none⟩)]] w λe w'=>e = .returned (.int .i64 (YF l bs))/\w'=w:=by
 (have hL:bs.length=m:=by have:=hbs.1;simpa using this);(have hmI:(m:Int)<=1099511627776:=by(have:(2:Nat)^40=1099511627776:=by decide);omega);have HEN:=hd_ (λx (hx:x<256)=>Q7s F A n c H x l w hr hb hx hn);have HBS:=hd_ hbs;have HLT:=hd_ hlt;have HL:=hd_ hL;clear hr hb hbs hlt hn hm hL;refine Q8 λR hR=>?_;go_enter func197,ntmps197;go_wp2_with fail;go_loopg [8] m (λf vi wr=>wr=w/\∃k:Nat,k+f=m/\vi = .int .i64 k/\∀x∈bs.take k,noK l x=false)
 case atStart=>exact⟨rfl,0,by omega,rfl,by simp⟩
 case round =>
   obtain⟨rfl,k,hk,rfl,hall⟩:=hrel;have HK:=hd_ hk;have HA:=hd_ hall;(have hkI:(k:Int)<=1099511627776:=by omega);by_cases hlt:k<m
   . have hlI:(k:Int)<m:=by omega
     (have hkl:k<bs.length:=by rw [HL.out];exact hlt);obtain⟨b,o,rfl,_,_,hc⟩:=HBS.at_ (k:=k) hlt
     have hxv:(Q2 bs)[k]?=some (.int .u8 ((bs[k]:Nat):Int)):=by
       simp only [Q2,List.getElem?_map];rw [List.getElem?_eq_getElem hkl];rfl
     rw [hxv]at hc;have hx8:=HLT _ (List.getElem_mem hkl);have HFI:=hd_ (Q3v (p:=noK l) hkl hall);have HTK:=hd_ (show bs.take (k+1)=bs.take k++[bs[k]]from List.take_succ_eq_append_getElem hkl);obtain⟨x,hx⟩:=nm_ (bs[k]);simp only [<-hx]at hc hx8 HFI HTK;have HE:=hd_ (HEN x hx8);clear hk hall hxv hx;go_wp2_with fail;refine HE.mono ?_;rintro e w1 ⟨rfl,rfl⟩
     cases hnk:noK l x with
     | true =>
       (have hbk:YF l bs=k:=by unfold YF;rw [HFI.out hnk]);rw [hbk]at hR;go_wp2_with fail;(try go_ret);exact hR _ _ ⟨rfl,rfl⟩
     | false =>
       go_wp2_with fail;go_roundg (gk-1)
       case measure=>have:=HK.out;omega
       case rel=>exact⟨rfl,k+1,by have:=HK.out;omega,by go_num,by rw [HTK.out];intro y hy;rcases List.mem_append.1 hy with h|h;exact HA y h;rw [List.mem_singleton.1 h];exact hnk⟩
   (obtain rfl:k=m:=by omega);have htl:bs.take k=bs:=List.take_of_length_le (by have:=HL.out;omega);rw [htl]at hall
   have hbk:YF l bs=-1:=by
     unfold YF;rw [List.findIdx?_eq_none_iff.2 (λx hx=>by simp [hall x hx])]
   rw [hbk]at hR;go_wp2_with fail;(try go_ret);exact hR _ _ ⟨rfl,rfl⟩
theorem Q5F (l:List Int) (bs:List Nat):YF l bs=-1\/0<=YF l bs:=by
 unfold YF;split
 . exact .inr (by omega)
 exact .inl rfl
theorem Q1V (F G:Nat->Prop) (A B:Option Addr) (n c m d:Nat) (l:List Int) (bs:List Nat) (w:World) (hr:Rd w F A n (Q7 l)) (hbs:Rd w G B m (Q2 bs)) (hlt:∀b∈bs,b<256) (hn:n<=2^40) (hm:m<=2^40) (hc:n<=c) :
   Calls prog 143 #[.slice A n c,.slice B m d] w λe w'=>(∃a,e = .returned (.tuple #[.int .i64 a,.bool (decide (Qc l/\YF l bs=-1))]))/\Q0 w w':=by
 have hmf:∀(fn:Fn) (first cap:Array Value) (w:World),(Instr.makeFunc fn first cap).run prog w = .ok (.func fn first cap) w:=λ_ _ _ _=>rfl;obtain⟨w0,H,hw0,hH,f0,bt⟩:=al_ w 33 #[.slice A n c];have HCK:=hd_ (KO F A n c l w0 (hr.fresh f0) hn hc);have HIX:=hd_ (λW (hW:Q0 w0 W)=>Q5E F G A B n c H m d l bs W ((hr.fresh f0).fresh hW) (by simpa using(bt.fresh hW).cell 0) ((hbs.fresh f0).fresh hW) hlt hn hm);have q0:=bt.cell 0;simp at q0;have F0:=hd_ f0;have HW:=hd_ hw0;have HH:=hd_ hH;clear hr hbs hw0 hH f0 bt hc hn hm hlt;refine Q8 λR hR=>?_;go_enter func143,ntmps143;go_upto_region 1 with fail;simp only [<-HH.out,<-HW.out];by_cases ht:Qc l
 . rw [if_pos ht]at HCK
   have hb:=Q5F l bs;(have hdt:decide (Qc l/\YF l bs=-1)=decide (YF l bs=-1):=by simp [ht]);rw [hdt]at hR;obtain⟨q,hq⟩:=nm_ (YF l bs);rw [<-hq]at hR hb;simp only [<-hq]at HIX;clear ht hdt hq;go_wp2_with fail;refine HCK.mono ?_;rintro e w1 ⟨rfl,f1⟩;have hix:=HIX w1 f1;have HX:=hd_ hix;have F1:=hd_ (F0.trans' f1);clear f1 hix HIX q0;go_wp2_with fail;refine HX.mono ?_;rintro e w2 ⟨rfl,rfl⟩;rcases hb with rfl|hb
   . rw [decide_eq_true rfl]at hR
     go_wp2_with fail;(try go_ret2);exact hR _ _ ⟨⟨_,rfl⟩,F1.out⟩
   rw [decide_eq_false (by omega)]at hR;(have hb2:¬q<0:=by omega);go_wp2_with fail;(try go_ret2);exact hR _ _ ⟨⟨_,rfl⟩,F1.out⟩
 rw [if_neg ht]at HCK;(have hdt:decide (Qc l/\YF l bs=-1)=false:=by simp [ht]);rw [hdt]at hR;clear ht hdt;go_wp2_with fail;refine HCK.mono ?_;rintro e w1 ⟨rfl,f1⟩;go_wp2_with fail;(try go_ret2);exact hR _ _ ⟨⟨_,rfl⟩,F0.trans' f1⟩
def Q3w (l:List Int) (bs:List Nat) (n:Nat) (w:World) (e:Ending) (w':World):Prop :=
  Q0 w w'/\if Qc l then if bs.length<=131072/\YF l bs=-1 then ∃g,e = .returned (.slice (some ⟨g,0,none⟩) n n)/\RdK w' (λb=>b=g) 2 (some ⟨g,0,none⟩) n ((QE l).map cd2)/\w.heap.size<=g else e=Qa 2
    else e=Qa 12
theorem KP (F G:Nat->Prop) (A B:Option Addr) (n c m d:Nat) (l:List Int) (bs:List Nat) (w:World) (hr:Rd w F A n (Q7 l)) (hbs:Rd w G B m (Q2 bs)) (hlt:∀b∈bs,b<256) (hn:n<=2^40) (hm:m<=2^40) (hc:n<=c) :
   Calls prog 86 #[.slice A n c,.slice B m d] w (Q3w l bs n w):=by
 (have hL:bs.length=m:=by have:=hbs.1;simpa using this);have HCO:=hd_ (Q0z F A n c l w hr hn hc);have HEN:=hd_ (λW (hW:Q0 w W)=>Q1V F G A B n c m d l bs W (hr.fresh hW) (hbs.fresh hW) hlt hn hm hc);have HL:=hd_ hL;clear hr hbs hlt hn hm hc hL;refine Q8 λR hR=>?_;unfold Q3w at hR;rw [HL.out]at hR;go_enter func86,ntmps86;unfold Q2s at HCO;by_cases ht:Qc l
 . simp only [if_pos ht]at HCO hR
   (have hdt:decide (Qc l/\YF l bs=-1)=decide (YF l bs=-1):=by simp [ht]);simp only [hdt]at HEN;clear ht hdt;go_wp2_with fail;refine HCO.mono ?_;rintro e w1 ⟨f1,g,rfl,rd,hg⟩;have HRD:=hd_ rd;have HGE:=hd_ hg;have F1:=hd_ f1;clear rd hg f1 HCO;go_wp2_with fail;refine(KN _ _ _ (by simpa using(Blk.new w1 24 #[.int .i64 0]).cell 0)).mono ?_;rintro e w2 ⟨rfl,rfl⟩;have hen:=HEN (w1.alloc (.cells #[.int .i64 0] 24)) (F1.alloc _);have HE:=hd_ hen;clear hen HEN;go_wp2_with fail;refine HE.mono ?_;rintro e w3 ⟨⟨a,rfl⟩,f3⟩;have F3:=hd_ ((F1.alloc _).trans' f3);have RD3:=hd_ ((HRD.fresh ((Upd.refl _ _).alloc _)).fresh f3);clear f3 HE;by_cases h1:m<=131072
   . have h1I:(m:Int)<=131072:=by omega
     by_cases h2:YF l bs=-1
     . simp only [if_pos (⟨h1,h2⟩:m<=131072/\YF l bs=-1)]at hR
       rw [decide_eq_true h2];clear h2 h1;go_wp2_with fail;refine(Q0R _ _).mono ?_;rintro e w4 ⟨rfl,rfl⟩;go_wp2_with fail;(try go_ret);exact hR _ _ ⟨F3.out,g,rfl,RD3.out,HGE.out⟩
     simp only [if_neg (fun(h:m<=131072/\YF l bs=-1)=>h2 h.2)]at hR;rw [decide_eq_false h2];clear h2 h1;go_wp2_with fail;refine(X6 _ _).mono ?_;rintro e w4 ⟨rfl,rfl⟩;simp only [Qa];exact⟨rfl,hR _ _ ⟨F3.out,rfl⟩⟩
   (have h1I:¬(m:Int)<=131072:=by omega);simp only [if_neg (fun(h:m<=131072/\YF l bs=-1)=>h1 h.1)]at hR;clear h1;go_wp2_with fail;refine(X6 _ _).mono ?_;rintro e w4 ⟨rfl,rfl⟩;simp only [Qa];exact⟨rfl,hR _ _ ⟨F3.out,rfl⟩⟩
 simp only [if_neg ht]at HCO hR;clear ht;go_wp2_with fail;refine HCO.mono ?_;rintro e w1 ⟨f1,rfl⟩;have F1:=hd_ f1;clear f1;go_wp2_with fail;refine(Q1e 12 _ _ _ (by simpa using(Blk.new w1 24 #[.int .i64 12]).cell 0) (by decide)).mono ?_;rintro e w2 ⟨rfl,rfl⟩;simp only [Qa];exact⟨rfl,hR _ _ ⟨F1.alloc _,rfl⟩⟩
end Go.Proofs.YtckjdhaflokcgaaGreat
