/- Contracts and plain lemmas, part 17. Conditions: none beyond those of each. -/
import Derived.Test.YtckjdhaflokcgaaGreatR16
set_option maxHeartbeats 4000000
set_option linter.unusedVariables false
set_option linter.unusedSimpArgs false
set_option linter.unnecessarySimpa false
set_option maxRecDepth 100000
namespace Go.Proofs.YtckjdhaflokcgaaGreat
open Go.RowKit Go.Proofs.Tryz
def Ys (fo:Bool) (tree:List Int) (cb:List Nat) (s:Nat):Int ⊕ List Nat :=
  if fo=true then QZ tree cb s else match Jb tree cb s with
    | some x=>.inr x
    | none=>.inl 14
def qE (q:Int ⊕ List Nat):Int:=match q with | .inl er=>er | .inr _=>0
def qO (q:Int ⊕ List Nat):Option (List Nat):=match q with | .inl _=>none | .inr x=>some x
theorem Q01 {fo:Bool} {l:List Int} {cb:List Nat} {n:Nat} {er:Int} (h:Ys fo l cb n = .inl er):er≠0:=by
 unfold Ys at h;split at h
 . exact Q14 h
 split at h
 . cases h
 injection h with h;omega
theorem QaK (G:Nat->Prop) (TA A:Option Addr) (tn tc n c s:Nat) (tree:List Int) (cb:List Nat) (W:World) (hrt:Rd W G TA tn (Q7 tree)) (hb:Rd W (λ_=>True) A n (Q2 cb)) (hlt:∀b∈cb,b<256) (htn:tn<=2^40) (hlen:cb.length<=2^32) (htc:tn<=tc) (hc:n<=c) (hs:s<=131072) (ht:Qc tree) :
   Calls prog 185 #[.slice TA tn tc,.slice A n c,.int .i64 (s:Nat)] W λe w'=>∃v,e = .returned (.tuple #[v,.int .i64 (qE (Ys false tree cb s))])/\DV (qO (Ys false tree cb s)) W v w'/\Q0 W w' :=
 (Q3z G (λ_=>True) TA A tn tc n c s tree cb W hrt hb hlt htn (by have:=hb.1;simp [Q2]at this;omega) htc hc hs).mono λe w' h=>by
   rw [if_pos ht,if_pos ht]at h
   unfold YQ at h
   unfold Ys
   rw [if_neg (by decide)]
   cases hq:Jb tree cb s with
   | none=>rw [hq]at h;exact⟨_,h.1,trivial,h.2⟩
   | some x =>
     rw [hq]at h
     obtain⟨v,he,o2,f2,hb2⟩:=h
     obtain⟨A9,n9,c9,rfl,hn9⟩:=o2.form'
     obtain⟨h4,h5,h6⟩:=o2.rd rfl
     rw [<-h4]at h5 h6
     exact⟨_,he,⟨A9,n9,c9,rfl,h5,h6.mono λb hb=>hb2 b hb⟩,f2⟩
theorem Qao (G:Nat->Prop) (TA A:Option Addr) (tn tc n c s:Nat) (tree:List Int) (cb:List Nat) (W:World) (hrt:Rd W G TA tn (Q7 tree)) (hb:Rd W (λ_=>True) A n (Q2 cb)) (hlt:∀b∈cb,b<256) (htn:tn<=2^40) (hlen:cb.length<=2^32) (htc:tn<=tc) (hc:n<=c) (hs:s<=131072) (ht:Qc tree) :
   Calls prog 183 #[.slice TA tn tc,.slice A n c,.int .i64 (s:Nat)] W λe w'=>∃v,e = .returned (.tuple #[v,.int .i64 (qE (Ys true tree cb s))])/\DV (qO (Ys true tree cb s)) W v w'/\Q0 W w' :=
 (Q99 G (λ_=>True) TA A tn tc n c s tree cb W hrt htn htc hb hlt (by have:=hb.1;simp [Q2]at this;omega) hs).mono λe w' h=>by
   unfold Kd at h
   unfold Ys
   rw [if_pos rfl]
   cases hq:QZ tree cb s with
   | inl er=>rw [hq]at h;exact⟨_,h.1,trivial,h.2⟩
   | inr x =>
     rw [hq]at h
     obtain⟨v,he,o2,f2,hb2⟩:=h
     obtain⟨A9,n9,c9,rfl,hn9⟩:=o2.form'
     obtain⟨h4,h5,h6⟩:=o2.rd rfl
     rw [<-h4]at h5 h6
     exact⟨_,he,⟨A9,n9,c9,rfl,h5,h6.mono λb hb=>hb2 b hb⟩,f2⟩
theorem Q4t (Fk G:Nat->Prop) (g pr qa qb qc K0 s tn tc:Nat) (kd:Int) (fo:Bool) (TA:Option Addr) (tree:List Int) (cf:List Nat) (k0:Nat) (cb:List Nat) (hcb:cb=cf.drop k0) (w:World) (hck:Q4 w Fk K0 cf k0) (hrt:Rd w G TA tn (Q7 tree)) (htc:tn<=tc) (htn:tn<=2^40) (ht:Qc tree)
   (br:Blk w pr 101 #[.pointer (some ⟨g,0,none⟩),.slice TA tn tc]) (ba:Blk w qa 99 #[.pointer (some ⟨pr,0,none⟩)]) (bb:Blk w qb 41 #[.int .i64 kd,.bool fo,.int .i64 (s:Nat)]) (bc:Blk w qc 46 #[.pointer (some ⟨K0,0,none⟩)]) (hs:s<=131072) :
   Calls prog 182 #[.pointer (some ⟨qb,0,none⟩),.pointer (some ⟨qa,0,none⟩),.pointer (some ⟨qc,0,none⟩)] w λe w'=>Q0 w w' /\
     ∃v,e = .returned (.tuple #[v,.int .i64 (qE (Ys fo tree cb s))])/\DV (qO (Ys fo tree cb s)) w v w':=by
 (have hlt:∀b∈cb,b<256:=by obtain⟨_,_,_,_,h,_⟩:=hck;exact λb hb=>h b (List.mem_of_mem_drop (hcb ▸ hb)));(have hlen:cb.length<=2^32:=by obtain⟨_,_,_,_,_,_,h,_⟩:=hck;rw [hcb,List.length_drop];omega);obtain⟨o,ho⟩:=nm_ (qO (Ys fo tree cb s));obtain⟨er,her⟩:=nm_ (qE (Ys fo tree cb s));have HRS0:=hd_ (λW (hW:Q0 w W)=>Q2o Fk K0 cf k0 W (hck.fresh hW));rw [<-hcb]at HRS0
 have HD1:=hd_ (show fo=false->∀W,Q0 w W->∀A n c,n<=c->Rd W (λ_=>True) A n (Q2 cb)->Calls prog 185 #[.slice TA tn tc,.slice A n c,.int .i64 (s:Nat)] W λe w'=>∃v,e = .returned (.tuple #[v,.int .i64 er])/\DV o W v w'/\Q0 W w' from λh W hW A n c hc hb=>by
   subst h;rw [ho,her]
   exact QaK G TA A tn tc n c s tree cb W (hrt.fresh hW) hb hlt htn hlen htc hc hs ht)
 have HD2:=hd_ (show fo=true->∀W,Q0 w W->∀A n c,n<=c->Rd W (λ_=>True) A n (Q2 cb)->Calls prog 183 #[.slice TA tn tc,.slice A n c,.int .i64 (s:Nat)] W λe w'=>∃v,e = .returned (.tuple #[v,.int .i64 er])/\DV o W v w'/\Q0 W w' from λh W hW A n c hc hb=>by
   subst h;rw [ho,her]
   exact Qao G TA A tn tc n c s tree cb W (hrt.fresh hW) hb hlt htn hlen htc hc hs ht)
 have HB:=hd_ (And.intro br (And.intro ba (And.intro bb bc)));rw [<-her,<-ho];have b1:=bb.cell 1;simp at b1;clear hck hrt htc htn ht br ba bb bc hs hlt hlen hcb ho her;refine Q8 λR hR=>?_;go_enter func182,ntmps182;obtain⟨w1,hw1⟩:=nm_ (w);rw [<-hw1];have HW:=hd_ hw1
 have HCB:=hd_ (show ∀W,Q0 w1 W->W.cell? ⟨qa,0,none⟩=some (.pointer (some ⟨pr,0,none⟩))/\W.cell? ⟨pr,0,none⟩=some (.pointer (some ⟨g,0,none⟩))/\W.cell? ⟨pr,1,none⟩=some (.slice TA tn tc)/\W.cell? ⟨qc,0,none⟩=some (.pointer (some ⟨K0,0,none⟩))/\W.cell? ⟨qb,2,none⟩=some (.int .i64 (s:Nat))/\True from λW hW=>by
   rw [hw1]at hW
   exact⟨by simpa using(HB.2.1.fresh hW).cell 0,by simpa using(HB.1.fresh hW).cell 0,by simpa using(HB.1.fresh hW).cell 1,by simpa using(HB.2.2.2.fresh hW).cell 0,by simpa using(HB.2.2.1.fresh hW).cell 2,trivial⟩)
 have HRS:=hd_ (show ∀W,Q0 w1 W->Calls prog 184 #[.pointer (some ⟨K0,0,none⟩)] W λe w'=>∃A n c,e = .returned (.slice A n c)/\n<=c/\Rd w' (λb=>W.heap.size<=b) A n (Q2 cb)/\Q0 W w' from λW hW=>(HRS0 W (by rw [hw1]at hW;exact hW)).mono λe w' h=>by
   obtain⟨v,rfl,o2,f2,hb2⟩:=h;obtain⟨A9,n9,c9,rfl,hn9⟩:=o2.form';obtain⟨h4,h5,h6⟩:=o2.rd rfl;rw [<-h4]at h5 h6
   exact⟨A9,n9,c9,rfl,h5,h6.mono λb hb=>hb2 b hb,f2⟩)
 have HDF:=hd_ (show ∀v W W',Q0 W W'->DV o w1 v W->DV o w1 v W' from λv W W' hf h=>h.fresh hf)
 have HDV:=hd_ (show ∀(W w':World) (v:Value),Q0 w1 W->DV o W v w'->DV o w1 v w' from λW w' v hW d=>by
   cases o with
   | none=>trivial
   | some x=>obtain⟨A9,n9,c9,h1,h2,h3⟩:=d;exact⟨A9,n9,c9,h1,h2,h3.mono λb hb=>by have:=hW.size;omega⟩)
 rw [<-hw1]at hR b1;rw [<-hw1]at HD1 HD2;clear HRS0 HB hw1
 cases fo with
 | false =>
   have HDD:=hd_ (show ∀W,Q0 w1 W->∀A n c,n<=c->Rd W (λb=>w1.heap.size<=b) A n (Q2 cb)->Calls prog 185 #[.slice TA tn tc,.slice A n c,.int .i64 (s:Nat)] W λe w'=>∃v,e = .returned (.tuple #[v,.int .i64 er])/\DV o w1 v w'/\Q0 W w' from λW hW A n c hc hr=>(HD1 rfl W hW A n c hc (hr.mono λ_ _=>trivial)).mono λe w' h=>by
     obtain⟨v,he,d,f⟩:=h
     exact⟨v,he,HDV _ _ _ hW d,f⟩)
   clear HD1 HD2;go_wp2_with fail;obtain⟨Cw,cEq⟩:=exC (λW=>Q0 w1 W);obtain⟨Y,yA⟩:=exY [λxs W=>(xs 0) = .pointer (some ⟨pr,0,none⟩),λxs W=>(xs 1) = .pointer (some ⟨pr,0,none⟩),λxs W=>(xs 2) = .pointer (some ⟨pr,1,none⟩),λxs W=>(xs 3) = .slice TA tn tc,λxs W=>(xs 4) = .pointer (some ⟨K0,0,none⟩),λxs W=>∃A n c,(xs 5) = .slice A n c/\n<=c/\Rd W (λb=>w1.heap.size<=b) A n (Q2 cb),λxs W=>(xs 6) = .pointer (some ⟨qb,2,none⟩),λxs W=>(xs 7) = .int .i64 (s:Nat),λxs W=>(xs 8) = .tuple #[JL (xs 8),.int .i64 er]/\DV o w1 (JL (xs 8)) W,λxs W=>(xs 9)=JL (xs 8),λxs W=>(xs 10) = .int .i64 er,λxs W=>(xs 11)=JL (xs 8),λxs W=>(xs 12) = .int .i64 er];have yf0:=yA 0;have yf1:=yA 1;have yf2:=yA 2;have yf3:=yA 3;have yf4:=yA 4;have yf5:=yA 5;have yf6:=yA 6;have yf7:=yA 7;have yf8:=yA 8;have yf9:=yA 9;have yf10:=yA 10;have yf11:=yA 11;have yf12:=yA 12;simp only [List.getD_cons_zero,List.getD_cons_succ]at yf0 yf1 yf2 yf3 yf4 yf5 yf6 yf7 yf8 yf9 yf10 yf11 yf12;(have yN:∀j xs W,13<=j->Y j xs W=True:=λj xs W hj=>by rw [yA,Y6 _ _ _ hj])
   have yP:∀j xs W W',j∈[0,1,2,3,4,6,7,9,10,11,12]->Y j xs W->Y j xs W':=by
     intro j xs W W' hj hy;simp only [List.mem_cons,List.not_mem_nil,or_false]at hj;(rcases hj with rfl|rfl|rfl|rfl|rfl|rfl|rfl|rfl|rfl|rfl|rfl<;>(rw [yA]at hy|-;exact hy))
   have yM:Jt [[0],[1],[2],[3],[4],[5],[6],[7],[8],[9,8],[10],[11,8],[12]] Y:=by
     intro j xs xs' W hh hy;by_cases hj:13<=j
     . rw [yN j _ _ hj];trivial
     (have hj':j=0\/j=1\/j=2\/j=3\/j=4\/j=5\/j=6\/j=7\/j=8\/j=9\/j=10\/j=11\/j=12:=by omega);rcases hj' with rfl|rfl|rfl|rfl|rfl|rfl|rfl|rfl|rfl|rfl|rfl|rfl|rfl;(all_goals(rw [yA]at hy|-;(try simp only [List.getD_cons_zero,List.getD_cons_succ]at hy|-);repeat rw [<-hh]));(all_goals first|exact hy|decide)
   clear yA
   have yR:∀j xs,13<=j->Y j xs (w1.drew):=by
     intro j xs hj;rcases(show 13<=j by omega)with hj;rw [yN _ _ _ hj];trivial
   refine Ya Cw (λj=>[]) Y [(0,some 18),(1,some 19),(2,some 20),(3,some 21),(4,some 22),(5,some 23),(6,some 24),(7,some 25),(8,some 26),(9,some 27),(10,some 28),(11,some 3),(12,some 4)] (by kernel_rfl) (by kernel_rfl) (by kernel_rfl) (by rw [cEq];exact(Upd.refl _ _).drew) (λj hj=>yR j _ hj) ?_ ?_
   . refine Q9.p cEq yM [] (by kernel_rfl) (by kernel_rfl) (λxs W hw hd K hK'=>?_) ?_
     . simp only [Q5,Act.put,sb_,sz_,ss_]at hK'|-
       have cl:=HCB W hw;obtain⟨cl0,cl1,cl2,cl3,cl4,cl5⟩:=cl;go_simp;exact hK' _ (by rw [yf0];exact if_pos rfl)
     refine Q9.p cEq yM [(0,some 18)] (by kernel_rfl) (by kernel_rfl) (λxs W hw hd K hK'=>?_) ?_
     . simp only [Qd]at hd
       obtain⟨hf0,_⟩:=hd;simp only [Q5,Act.put,sb_,sz_,ss_]at hK'|-;rw [yf0]at hf0;simp only [hf0]at hK'|-;go_simp;exact hK' _ (by rw [yf1];exact if_pos rfl)
     refine Q9.p cEq yM [(1,some 19)] (by kernel_rfl) (by kernel_rfl) (λxs W hw hd K hK'=>?_) ?_
     . simp only [Qd]at hd
       obtain⟨hf1,_⟩:=hd;simp only [Q5,Act.put,sb_,sz_,ss_]at hK'|-;rw [yf1]at hf1;simp only [hf1]at hK'|-;go_simp;exact hK' _ (by rw [yf2];exact if_pos rfl)
     refine Q9.p cEq yM [(2,some 20)] (by kernel_rfl) (by kernel_rfl) (λxs W hw hd K hK'=>?_) ?_
     . simp only [Qd]at hd
       obtain⟨hf2,_⟩:=hd;simp only [Q5,Act.put,sb_,sz_,ss_]at hK'|-;rw [yf2]at hf2;simp only [hf2]at hK'|-;have cl:=HCB W hw;obtain⟨cl0,cl1,cl2,cl3,cl4,cl5⟩:=cl;go_simp;exact hK' _ (by rw [yf3];exact if_pos rfl)
     refine Q9.p cEq yM [] (by kernel_rfl) (by kernel_rfl) (λxs W hw hd K hK'=>?_) ?_
     . simp only [Q5,Act.put,sb_,sz_,ss_]at hK'|-
       have cl:=HCB W hw;obtain⟨cl0,cl1,cl2,cl3,cl4,cl5⟩:=cl;go_simp;exact hK' _ (by rw [yf4];exact if_pos rfl)
     refine Q9.c cEq [(4,some 22)] (by kernel_rfl) (λxs W hw hd K hK'=>?_) ?_
     . simp only [Qd]at hd
       obtain⟨hf4,_⟩:=hd;simp only [Q5,Act.put,sb_,sz_,ss_]at hK'|-;rw [yf4]at hf4;simp only [hf4]at hK'|-;have hsz:=hw.size;go_simp;refine(HRS W hw).mono ?_;rintro e9 w9 ⟨A9,n9,c9,rfl,hc9,r9,f9⟩;have hR:=f9;refine hK' (_) (w9) (hw.trans' f9) (QW yM 5 (by kernel_rfl) _ λj hs hy=>?_) (by rw [yf5];(try simp only [↓reduceIte]);try exact⟨A9,n9,c9,rfl,hc9,r9.mono λb hb=>by omega⟩);by_cases hp:j∈[0,1,2,3,4,6,7,9,10,11,12]
       . exact yP j _ _ _ hp hy
       by_cases hj:13<=j
       . rw [yN j _ _ hj];trivial
       simp only [List.mem_cons,List.not_mem_nil,or_false]at hp;rcases(show j=5\/j=8 by omega)with rfl|rfl
       . exact(Qg hs (by kernel_rfl)).elim
       exact(Qg hs (by kernel_rfl)).elim
     refine Q9.p cEq yM [] (by kernel_rfl) (by kernel_rfl) (λxs W hw hd K hK'=>?_) ?_
     . simp only [Q5,Act.put,sb_,sz_,ss_]at hK'|-
       go_simp;exact hK' _ (by rw [yf6];exact if_pos rfl)
     refine Q9.p cEq yM [(6,some 24)] (by kernel_rfl) (by kernel_rfl) (λxs W hw hd K hK'=>?_) ?_
     . simp only [Qd]at hd
       obtain⟨hf6,_⟩:=hd;simp only [Q5,Act.put,sb_,sz_,ss_]at hK'|-;rw [yf6]at hf6;simp only [hf6]at hK'|-;have cl:=HCB W hw;obtain⟨cl0,cl1,cl2,cl3,cl4,cl5⟩:=cl;go_simp;exact hK' _ (by rw [yf7];exact if_pos rfl)
     refine Q9.c cEq [(3,some 21),(5,some 23),(7,some 25)] (by kernel_rfl) (λxs W hw hd K hK'=>?_) ?_
     . simp only [Qd]at hd
       obtain⟨hf3,hf5,hf7,_⟩:=hd;simp only [Q5,Act.put,sb_,sz_,ss_]at hK'|-;rw [yf3]at hf3;rw [yf5]at hf5;rw [yf7]at hf7;simp only [hf3,hf7]at hK'|-;obtain⟨A5,n5,c5,h5e,h5c,r5⟩:=hf5;simp only [h5e]at hK'|-;have hsz:=hw.size;go_simp;refine(HDD W hw A5 n5 c5 h5c r5).mono ?_;rintro e9 w9 ⟨v9,rfl,d9,f9⟩;have hR:=f9;refine hK' (_) (w9) (hw.trans' f9) (λj hs hy=>?_) (by rw [yf8];(try simp only [↓reduceIte]);try exact⟨rfl,d9⟩);by_cases hj:13<=j
       . rw [yN j _ _ hj];trivial
       (have hj':j=0\/j=1\/j=2\/j=3\/j=4\/j=5\/j=6\/j=7\/j=8\/j=9\/j=10\/j=11\/j=12:=by omega);rcases hj' with rfl|rfl|rfl|rfl|rfl|rfl|rfl|rfl|rfl|rfl|rfl|rfl|rfl
       . rw [yf0]at hy|-;(try simp only [↓reduceIte,OfNat.ofNat_ne_ofNat,Nat.reduceEqDiff]);exact hy
       . rw [yf1]at hy|-;(try simp only [↓reduceIte,OfNat.ofNat_ne_ofNat,Nat.reduceEqDiff]);exact hy
       . rw [yf2]at hy|-;(try simp only [↓reduceIte,OfNat.ofNat_ne_ofNat,Nat.reduceEqDiff]);exact hy
       . rw [yf3]at hy|-;(try simp only [↓reduceIte,OfNat.ofNat_ne_ofNat,Nat.reduceEqDiff]);exact hy
       . rw [yf4]at hy|-;(try simp only [↓reduceIte,OfNat.ofNat_ne_ofNat,Nat.reduceEqDiff]);exact hy
       . rw [yf5]at hy|-;(try simp only [↓reduceIte,OfNat.ofNat_ne_ofNat,Nat.reduceEqDiff]);obtain⟨A9,n9,c9,h1,h2,h3⟩:=hy;exact⟨A9,n9,c9,h1,h2,h3.fresh hR⟩
       . rw [yf6]at hy|-;(try simp only [↓reduceIte,OfNat.ofNat_ne_ofNat,Nat.reduceEqDiff]);exact hy
       . rw [yf7]at hy|-;(try simp only [↓reduceIte,OfNat.ofNat_ne_ofNat,Nat.reduceEqDiff]);exact hy
       . exact(Qg hs (by kernel_rfl)).elim
       . exact(Qg hs (by kernel_rfl)).elim
       . exact(Qg hs (by kernel_rfl)).elim
       . exact(Qg hs (by kernel_rfl)).elim
       exact(Qg hs (by kernel_rfl)).elim
     refine Q9.p cEq yM [(8,some 26)] (by kernel_rfl) (by kernel_rfl) (λxs W hw hd K hK'=>?_) ?_
     . simp only [Qd]at hd
       obtain⟨hf8,_⟩:=hd;simp only [Q5,Act.put,sb_,sz_,ss_]at hK'|-;rw [yf8]at hf8;obtain⟨h8e,h8d⟩:=hf8;obtain⟨v8,hv8⟩:=nm_ (JL (xs 8));rw [<-hv8]at h8e;have HV8:=hd_ hv8;clear hv8;simp only [h8e]at hK'|-;go_simp;exact hK' _ (by rw [yf9];(try simp only [↓reduceIte,OfNat.ofNat_ne_ofNat,Nat.reduceEqDiff]);exact HV8.out)
     refine Q9.p cEq yM [(8,some 26)] (by kernel_rfl) (by kernel_rfl) (λxs W hw hd K hK'=>?_) ?_
     . simp only [Qd]at hd
       obtain⟨hf8,_⟩:=hd;simp only [Q5,Act.put,sb_,sz_,ss_]at hK'|-;rw [yf8]at hf8;obtain⟨h8e,h8d⟩:=hf8;obtain⟨v8,hv8⟩:=nm_ (JL (xs 8));rw [<-hv8]at h8e;have HV8:=hd_ hv8;clear hv8;simp only [h8e]at hK'|-;go_simp;exact hK' _ (by rw [yf10];exact if_pos rfl)
     refine Q9.p cEq yM [(9,some 27)] (by kernel_rfl) (by kernel_rfl) (λxs W hw hd K hK'=>?_) ?_
     . simp only [Qd]at hd
       obtain⟨hf9,_⟩:=hd;simp only [Q5,Act.put,sb_,sz_,ss_]at hK'|-;rw [yf9]at hf9;simp only [hf9]at hK'|-;go_simp;exact hK' _ (by rw [yf11];(try simp only [↓reduceIte,OfNat.ofNat_ne_ofNat,Nat.reduceEqDiff]);exact(by simp))
     refine Q9.p cEq yM [(10,some 28)] (by kernel_rfl) (by kernel_rfl) (λxs W hw hd K hK'=>?_) ?_
     . simp only [Qd]at hd
       obtain⟨hf10,_⟩:=hd;simp only [Q5,Act.put,sb_,sz_,ss_]at hK'|-;rw [yf10]at hf10;simp only [hf10]at hK'|-;go_simp;exact hK' _ (by rw [yf12];exact if_pos rfl)
     exact Q9.nil
   intro xs W hw hd;rw [cEq]at hw;simp only [YD]at hd;obtain⟨fe0,fe1,fe2,fe3,fe4,fe5,fe6,fe7,fe8,fe9,fe10,fe11,fe12,_⟩:=hd;have fe0:=fe0 (by first|kernel_rfl|trivial);rw [yf0]at fe0;have fe1:=fe1 (by first|kernel_rfl|trivial);rw [yf1]at fe1;have fe2:=fe2 (by first|kernel_rfl|trivial);rw [yf2]at fe2;have fe3:=fe3 (by first|kernel_rfl|trivial);rw [yf3]at fe3;have fe4:=fe4 (by first|kernel_rfl|trivial);rw [yf4]at fe4;have fe5:=fe5 (by first|kernel_rfl|trivial);rw [yf5]at fe5;have fe6:=fe6 (by first|kernel_rfl|trivial);rw [yf6]at fe6;have fe7:=fe7 (by first|kernel_rfl|trivial);rw [yf7]at fe7;have fe8:=fe8 (by first|kernel_rfl|trivial);rw [yf8]at fe8;have fe9:=fe9 (by first|kernel_rfl|trivial);rw [yf9]at fe9;have fe10:=fe10 (by first|kernel_rfl|trivial);rw [yf10]at fe10;have fe11:=fe11 (by first|kernel_rfl|trivial);rw [yf11]at fe11;have fe12:=fe12 (by first|kernel_rfl|trivial);rw [yf12]at fe12;simp only [Q5,Act.put,sb_,sz_,ss_];generalize xs 0=xv0 at *;generalize xs 1=xv1 at *;generalize xs 2=xv2 at *;generalize xs 3=xv3 at *;generalize xs 4=xv4 at *;generalize xs 5=xv5 at *;generalize xs 6=xv6 at *;generalize xs 7=xv7 at *;generalize xs 8=xv8 at *;generalize xs 9=xv9 at *;generalize xs 10=xv10 at *;generalize xs 11=xv11 at *;generalize xs 12=xv12 at *;subst fe0;subst fe1;subst fe2;subst fe3;subst fe4;subst fe6;subst fe7;subst fe9;subst fe10;subst fe11;subst fe12;clear yf0 yf1 yf2 yf3 yf4 yf5 yf6 yf7 yf8 yf9 yf10 yf11 yf12 yN yR yM yP cEq;obtain⟨h8e,h8d⟩:=fe8;go_wp2_with fail;(try go_ret2);refine hR.out _ _ ⟨hw,_,rfl,h8d⟩
 | true =>
   have HDD:=hd_ (show ∀W,Q0 w1 W->∀A n c,n<=c->Rd W (λb=>w1.heap.size<=b) A n (Q2 cb)->Calls prog 183 #[.slice TA tn tc,.slice A n c,.int .i64 (s:Nat)] W λe w'=>∃v,e = .returned (.tuple #[v,.int .i64 er])/\DV o w1 v w'/\Q0 W w' from λW hW A n c hc hr=>(HD2 rfl W hW A n c hc (hr.mono λ_ _=>trivial)).mono λe w' h=>by
     obtain⟨v,he,d,f⟩:=h
     exact⟨v,he,HDV _ _ _ hW d,f⟩)
   clear HD1 HD2;go_wp2_with fail;obtain⟨Cw,cEq⟩:=exC (λW=>Q0 w1 W);obtain⟨Y,yA⟩:=exY [λxs W=>(xs 0) = .pointer (some ⟨pr,0,none⟩),λxs W=>(xs 1) = .pointer (some ⟨pr,0,none⟩),λxs W=>(xs 2) = .pointer (some ⟨pr,1,none⟩),λxs W=>(xs 3) = .slice TA tn tc,λxs W=>(xs 4) = .pointer (some ⟨K0,0,none⟩),λxs W=>∃A n c,(xs 5) = .slice A n c/\n<=c/\Rd W (λb=>w1.heap.size<=b) A n (Q2 cb),λxs W=>(xs 6) = .pointer (some ⟨qb,2,none⟩),λxs W=>(xs 7) = .int .i64 (s:Nat),λxs W=>(xs 8) = .tuple #[JL (xs 8),.int .i64 er]/\DV o w1 (JL (xs 8)) W,λxs W=>(xs 9)=JL (xs 8),λxs W=>(xs 10) = .int .i64 er,λxs W=>(xs 11)=JL (xs 8),λxs W=>(xs 12) = .int .i64 er];have yf0:=yA 0;have yf1:=yA 1;have yf2:=yA 2;have yf3:=yA 3;have yf4:=yA 4;have yf5:=yA 5;have yf6:=yA 6;have yf7:=yA 7;have yf8:=yA 8;have yf9:=yA 9;have yf10:=yA 10;have yf11:=yA 11;have yf12:=yA 12;simp only [List.getD_cons_zero,List.getD_cons_succ]at yf0 yf1 yf2 yf3 yf4 yf5 yf6 yf7 yf8 yf9 yf10 yf11 yf12;(have yN:∀j xs W,13<=j->Y j xs W=True:=λj xs W hj=>by rw [yA,Y6 _ _ _ hj])
   have yP:∀j xs W W',j∈[0,1,2,3,4,6,7,9,10,11,12]->Y j xs W->Y j xs W':=by
     intro j xs W W' hj hy;simp only [List.mem_cons,List.not_mem_nil,or_false]at hj;(rcases hj with rfl|rfl|rfl|rfl|rfl|rfl|rfl|rfl|rfl|rfl|rfl<;>(rw [yA]at hy|-;exact hy))
   have yM:Jt [[0],[1],[2],[3],[4],[5],[6],[7],[8],[9,8],[10],[11,8],[12]] Y:=by
     intro j xs xs' W hh hy;by_cases hj:13<=j
     . rw [yN j _ _ hj];trivial
     (have hj':j=0\/j=1\/j=2\/j=3\/j=4\/j=5\/j=6\/j=7\/j=8\/j=9\/j=10\/j=11\/j=12:=by omega);rcases hj' with rfl|rfl|rfl|rfl|rfl|rfl|rfl|rfl|rfl|rfl|rfl|rfl|rfl;(all_goals(rw [yA]at hy|-;(try simp only [List.getD_cons_zero,List.getD_cons_succ]at hy|-);repeat rw [<-hh]));(all_goals first|exact hy|decide)
   clear yA
   have yR:∀j xs,13<=j->Y j xs (w1.drew):=by
     intro j xs hj;rcases(show 13<=j by omega)with hj;rw [yN _ _ _ hj];trivial
   refine Ya Cw (λj=>[]) Y [(0,some 7),(1,some 8),(2,some 9),(3,some 10),(4,some 11),(5,some 12),(6,some 13),(7,some 14),(8,some 15),(9,some 16),(10,some 17),(11,some 3),(12,some 4)] (by kernel_rfl) (by kernel_rfl) (by kernel_rfl) (by rw [cEq];exact(Upd.refl _ _).drew) (λj hj=>yR j _ hj) ?_ ?_
   . refine Q9.p cEq yM [] (by kernel_rfl) (by kernel_rfl) (λxs W hw hd K hK'=>?_) ?_
     . simp only [Q5,Act.put,sb_,sz_,ss_]at hK'|-
       have cl:=HCB W hw;obtain⟨cl0,cl1,cl2,cl3,cl4,cl5⟩:=cl;go_simp;exact hK' _ (by rw [yf0];exact if_pos rfl)
     refine Q9.p cEq yM [(0,some 7)] (by kernel_rfl) (by kernel_rfl) (λxs W hw hd K hK'=>?_) ?_
     . simp only [Qd]at hd
       obtain⟨hf0,_⟩:=hd;simp only [Q5,Act.put,sb_,sz_,ss_]at hK'|-;rw [yf0]at hf0;simp only [hf0]at hK'|-;go_simp;exact hK' _ (by rw [yf1];exact if_pos rfl)
     refine Q9.p cEq yM [(1,some 8)] (by kernel_rfl) (by kernel_rfl) (λxs W hw hd K hK'=>?_) ?_
     . simp only [Qd]at hd
       obtain⟨hf1,_⟩:=hd;simp only [Q5,Act.put,sb_,sz_,ss_]at hK'|-;rw [yf1]at hf1;simp only [hf1]at hK'|-;go_simp;exact hK' _ (by rw [yf2];exact if_pos rfl)
     refine Q9.p cEq yM [(2,some 9)] (by kernel_rfl) (by kernel_rfl) (λxs W hw hd K hK'=>?_) ?_
     . simp only [Qd]at hd
       obtain⟨hf2,_⟩:=hd;simp only [Q5,Act.put,sb_,sz_,ss_]at hK'|-;rw [yf2]at hf2;simp only [hf2]at hK'|-;have cl:=HCB W hw;obtain⟨cl0,cl1,cl2,cl3,cl4,cl5⟩:=cl;go_simp;exact hK' _ (by rw [yf3];exact if_pos rfl)
     refine Q9.p cEq yM [] (by kernel_rfl) (by kernel_rfl) (λxs W hw hd K hK'=>?_) ?_
     . simp only [Q5,Act.put,sb_,sz_,ss_]at hK'|-
       have cl:=HCB W hw;obtain⟨cl0,cl1,cl2,cl3,cl4,cl5⟩:=cl;go_simp;exact hK' _ (by rw [yf4];exact if_pos rfl)
     refine Q9.c cEq [(4,some 11)] (by kernel_rfl) (λxs W hw hd K hK'=>?_) ?_
     . simp only [Qd]at hd
       obtain⟨hf4,_⟩:=hd;simp only [Q5,Act.put,sb_,sz_,ss_]at hK'|-;rw [yf4]at hf4;simp only [hf4]at hK'|-;have hsz:=hw.size;go_simp;refine(HRS W hw).mono ?_;rintro e9 w9 ⟨A9,n9,c9,rfl,hc9,r9,f9⟩;have hR:=f9;refine hK' (_) (w9) (hw.trans' f9) (QW yM 5 (by kernel_rfl) _ λj hs hy=>?_) (by rw [yf5];(try simp only [↓reduceIte]);try exact⟨A9,n9,c9,rfl,hc9,r9.mono λb hb=>by omega⟩);by_cases hp:j∈[0,1,2,3,4,6,7,9,10,11,12]
       . exact yP j _ _ _ hp hy
       by_cases hj:13<=j
       . rw [yN j _ _ hj];trivial
       simp only [List.mem_cons,List.not_mem_nil,or_false]at hp;rcases(show j=5\/j=8 by omega)with rfl|rfl
       . exact(Qg hs (by kernel_rfl)).elim
       exact(Qg hs (by kernel_rfl)).elim
     refine Q9.p cEq yM [] (by kernel_rfl) (by kernel_rfl) (λxs W hw hd K hK'=>?_) ?_
     . simp only [Q5,Act.put,sb_,sz_,ss_]at hK'|-
       go_simp;exact hK' _ (by rw [yf6];exact if_pos rfl)
     refine Q9.p cEq yM [(6,some 13)] (by kernel_rfl) (by kernel_rfl) (λxs W hw hd K hK'=>?_) ?_
     . simp only [Qd]at hd
       obtain⟨hf6,_⟩:=hd;simp only [Q5,Act.put,sb_,sz_,ss_]at hK'|-;rw [yf6]at hf6;simp only [hf6]at hK'|-;have cl:=HCB W hw;obtain⟨cl0,cl1,cl2,cl3,cl4,cl5⟩:=cl;go_simp;exact hK' _ (by rw [yf7];exact if_pos rfl)
     refine Q9.c cEq [(3,some 10),(5,some 12),(7,some 14)] (by kernel_rfl) (λxs W hw hd K hK'=>?_) ?_
     . simp only [Qd]at hd
       obtain⟨hf3,hf5,hf7,_⟩:=hd;simp only [Q5,Act.put,sb_,sz_,ss_]at hK'|-;rw [yf3]at hf3;rw [yf5]at hf5;rw [yf7]at hf7;simp only [hf3,hf7]at hK'|-;obtain⟨A5,n5,c5,h5e,h5c,r5⟩:=hf5;simp only [h5e]at hK'|-;have hsz:=hw.size;go_simp;refine(HDD W hw A5 n5 c5 h5c r5).mono ?_;rintro e9 w9 ⟨v9,rfl,d9,f9⟩;have hR:=f9;refine hK' (_) (w9) (hw.trans' f9) (λj hs hy=>?_) (by rw [yf8];(try simp only [↓reduceIte]);try exact⟨rfl,d9⟩);by_cases hj:13<=j
       . rw [yN j _ _ hj];trivial
       (have hj':j=0\/j=1\/j=2\/j=3\/j=4\/j=5\/j=6\/j=7\/j=8\/j=9\/j=10\/j=11\/j=12:=by omega);rcases hj' with rfl|rfl|rfl|rfl|rfl|rfl|rfl|rfl|rfl|rfl|rfl|rfl|rfl
       . rw [yf0]at hy|-;(try simp only [↓reduceIte,OfNat.ofNat_ne_ofNat,Nat.reduceEqDiff]);exact hy
       . rw [yf1]at hy|-;(try simp only [↓reduceIte,OfNat.ofNat_ne_ofNat,Nat.reduceEqDiff]);exact hy
       . rw [yf2]at hy|-;(try simp only [↓reduceIte,OfNat.ofNat_ne_ofNat,Nat.reduceEqDiff]);exact hy
       . rw [yf3]at hy|-;(try simp only [↓reduceIte,OfNat.ofNat_ne_ofNat,Nat.reduceEqDiff]);exact hy
       . rw [yf4]at hy|-;(try simp only [↓reduceIte,OfNat.ofNat_ne_ofNat,Nat.reduceEqDiff]);exact hy
       . rw [yf5]at hy|-;(try simp only [↓reduceIte,OfNat.ofNat_ne_ofNat,Nat.reduceEqDiff]);obtain⟨A9,n9,c9,h1,h2,h3⟩:=hy;exact⟨A9,n9,c9,h1,h2,h3.fresh hR⟩
       . rw [yf6]at hy|-;(try simp only [↓reduceIte,OfNat.ofNat_ne_ofNat,Nat.reduceEqDiff]);exact hy
       . rw [yf7]at hy|-;(try simp only [↓reduceIte,OfNat.ofNat_ne_ofNat,Nat.reduceEqDiff]);exact hy
       . exact(Qg hs (by kernel_rfl)).elim
       . exact(Qg hs (by kernel_rfl)).elim
       . exact(Qg hs (by kernel_rfl)).elim
       . exact(Qg hs (by kernel_rfl)).elim
       exact(Qg hs (by kernel_rfl)).elim
     refine Q9.p cEq yM [(8,some 15)] (by kernel_rfl) (by kernel_rfl) (λxs W hw hd K hK'=>?_) ?_
     . simp only [Qd]at hd
       obtain⟨hf8,_⟩:=hd;simp only [Q5,Act.put,sb_,sz_,ss_]at hK'|-;rw [yf8]at hf8;obtain⟨h8e,h8d⟩:=hf8;obtain⟨v8,hv8⟩:=nm_ (JL (xs 8));rw [<-hv8]at h8e;have HV8:=hd_ hv8;clear hv8;simp only [h8e]at hK'|-;go_simp;exact hK' _ (by rw [yf9];(try simp only [↓reduceIte,OfNat.ofNat_ne_ofNat,Nat.reduceEqDiff]);exact HV8.out)
     refine Q9.p cEq yM [(8,some 15)] (by kernel_rfl) (by kernel_rfl) (λxs W hw hd K hK'=>?_) ?_
     . simp only [Qd]at hd
       obtain⟨hf8,_⟩:=hd;simp only [Q5,Act.put,sb_,sz_,ss_]at hK'|-;rw [yf8]at hf8;obtain⟨h8e,h8d⟩:=hf8;obtain⟨v8,hv8⟩:=nm_ (JL (xs 8));rw [<-hv8]at h8e;have HV8:=hd_ hv8;clear hv8;simp only [h8e]at hK'|-;go_simp;exact hK' _ (by rw [yf10];exact if_pos rfl)
     refine Q9.p cEq yM [(9,some 16)] (by kernel_rfl) (by kernel_rfl) (λxs W hw hd K hK'=>?_) ?_
     . simp only [Qd]at hd
       obtain⟨hf9,_⟩:=hd;simp only [Q5,Act.put,sb_,sz_,ss_]at hK'|-;rw [yf9]at hf9;simp only [hf9]at hK'|-;go_simp;exact hK' _ (by rw [yf11];(try simp only [↓reduceIte,OfNat.ofNat_ne_ofNat,Nat.reduceEqDiff]);exact(by simp))
     refine Q9.p cEq yM [(10,some 17)] (by kernel_rfl) (by kernel_rfl) (λxs W hw hd K hK'=>?_) ?_
     . simp only [Qd]at hd
       obtain⟨hf10,_⟩:=hd;simp only [Q5,Act.put,sb_,sz_,ss_]at hK'|-;rw [yf10]at hf10;simp only [hf10]at hK'|-;go_simp;exact hK' _ (by rw [yf12];exact if_pos rfl)
     exact Q9.nil
   intro xs W hw hd;rw [cEq]at hw;simp only [YD]at hd;obtain⟨fe0,fe1,fe2,fe3,fe4,fe5,fe6,fe7,fe8,fe9,fe10,fe11,fe12,_⟩:=hd;have fe0:=fe0 (by first|kernel_rfl|trivial);rw [yf0]at fe0;have fe1:=fe1 (by first|kernel_rfl|trivial);rw [yf1]at fe1;have fe2:=fe2 (by first|kernel_rfl|trivial);rw [yf2]at fe2;have fe3:=fe3 (by first|kernel_rfl|trivial);rw [yf3]at fe3;have fe4:=fe4 (by first|kernel_rfl|trivial);rw [yf4]at fe4;have fe5:=fe5 (by first|kernel_rfl|trivial);rw [yf5]at fe5;have fe6:=fe6 (by first|kernel_rfl|trivial);rw [yf6]at fe6;have fe7:=fe7 (by first|kernel_rfl|trivial);rw [yf7]at fe7;have fe8:=fe8 (by first|kernel_rfl|trivial);rw [yf8]at fe8;have fe9:=fe9 (by first|kernel_rfl|trivial);rw [yf9]at fe9;have fe10:=fe10 (by first|kernel_rfl|trivial);rw [yf10]at fe10;have fe11:=fe11 (by first|kernel_rfl|trivial);rw [yf11]at fe11;have fe12:=fe12 (by first|kernel_rfl|trivial);rw [yf12]at fe12;simp only [Q5,Act.put,sb_,sz_,ss_];generalize xs 0=xv0 at *;generalize xs 1=xv1 at *;generalize xs 2=xv2 at *;generalize xs 3=xv3 at *;generalize xs 4=xv4 at *;generalize xs 5=xv5 at *;generalize xs 6=xv6 at *;generalize xs 7=xv7 at *;generalize xs 8=xv8 at *;generalize xs 9=xv9 at *;generalize xs 10=xv10 at *;generalize xs 11=xv11 at *;generalize xs 12=xv12 at *;subst fe0;subst fe1;subst fe2;subst fe3;subst fe4;subst fe6;subst fe7;subst fe9;subst fe10;subst fe11;subst fe12;clear yf0 yf1 yf2 yf3 yf4 yf5 yf6 yf7 yf8 yf9 yf10 yf11 yf12 yN yR yM yP cEq;obtain⟨h8e,h8d⟩:=fe8;go_wp2_with fail;(try go_ret2);refine hR.out _ _ ⟨hw,_,rfl,h8d⟩
def YN (fo:Bool) (tree:List Int) (cb:List Nat) (s:Nat):Int ⊕ List Nat :=
  if Qc tree then Ys fo tree cb s else .inl 12
def ZI (q:Int ⊕ List Nat) (w:World) (e:Ending) (w':World):Prop :=
  Q0 w w'/\match q with
    | .inl er=>e=Qa er
    | .inr x=>XX w x e w'
theorem Xe (Fk G:Nat->Prop) (g pr K0 s tn tc:Nat) (kd:Int) (fo:Bool) (TA:Option Addr) (tree:List Int) (cf:List Nat) (k0:Nat) (cb:List Nat) (hcb:cb=cf.drop k0) (w:World) (hck:Q4 w Fk K0 cf k0) (hrt:Rd w G TA tn (Q7 tree)) (htc:tn<=tc) (htn:tn<=2^40)
   (br:Blk w pr 101 #[.pointer (some ⟨g,0,none⟩),.slice TA tn tc]) (hs:s<=131072) :
   Calls prog 130 #[.pointer (some ⟨pr,0,none⟩),.agg #[.int .i64 kd,.bool fo,.int .i64 (s:Nat)],.pointer (some ⟨K0,0,none⟩)] w (ZI (YN fo tree cb s) w):=by
 have hmf:∀(fn:Fn) (first cap:Array Value) (w:World),(Instr.makeFunc fn first cap).run prog w = .ok (.func fn first cap) w:=λ_ _ _ _=>rfl;obtain⟨w0,H,hw0,hH,f0,ba,bb,bc⟩:=Q3h w 99 #[.pointer (some ⟨pr,0,none⟩)] 41 #[.int .i64 kd,.bool fo,.int .i64 (s:Nat)] 46 #[.pointer (some ⟨K0,0,none⟩)];have HCK:=hd_ (KO G TA tn tc tree w0 (hrt.fresh f0) htn htc);have HT1:=hd_ (fun(ht:Qc tree) W (hW:Q0 w0 W)=>Q4t Fk G g pr H (H+1) (H+1+1) K0 s tn tc kd fo TA tree cf k0 cb hcb W ((hck.fresh f0).fresh hW) ((hrt.fresh f0).fresh hW) htc htn ht ((br.fresh f0).fresh hW) (ba.fresh hW) (bb.fresh hW) (bc.fresh hW) hs);have x0:=ba.cell 0;have x1:=(br.fresh f0).cell 1;simp at x0 x1;have F0:=hd_ f0;have HW:=hd_ hw0;have HH:=hd_ hH;(have hsz1:(w.alloc (.cells #[.pointer (some ⟨pr,0,none⟩)] 99)).heap.size=H+1:=by simp [hH]);(have hsz2:((w.alloc (.cells #[.pointer (some ⟨pr,0,none⟩)] 99)).alloc (.cells #[.int .i64 kd,.bool fo,.int .i64 (s:Nat)] 41)).heap.size=H+1+1:=by simp [hH]);clear hck hrt htc htn br hs hw0 hH f0 ba bb bc hcb;refine Q8 λR hR=>?_;unfold ZI YN at hR;go_enter func130,ntmps130;go_upto_region 1 with fail;simp only [hsz1,hsz2,<-HH.out,<-HW.out];clear hsz1 hsz2;by_cases ht:Qc tree
 . have HT2:=hd_ (HT1 ht)
   simp only [if_pos ht]at HCK hR;clear ht HT1;go_wp2_with fail;refine HCK.mono ?_;rintro e w1 ⟨rfl,f1⟩;have F1:=hd_ f1;clear f1 HCK;go_wp2_with fail;refine(Yv _ _ _ (by simpa using(Blk.new w1 24 #[.int .i64 0]).cell 0)).mono ?_;rintro e w2 ⟨rfl,hw2⟩;have f12:Q0 w0 w2:=F1.trans' (by rw [hw2];exact(Upd.refl _ _).alloc _);have H3:=hd_ (HT2 w2 f12);have F2:=hd_ (F0.trans' f12);clear hw2 f12 HT2
   cases ho:Ys fo tree cb s with
   | inl er =>
     have hne:=Q01 ho;simp only [ho,qE]at H3 hR
     have HL:=hd_ (Q2q 182 #[.pointer (some ⟨H+1,0,none⟩),.pointer (some ⟨H,0,none⟩),.pointer (some ⟨H+1+1,0,none⟩)] er w2 (λ_ _=>rfl) (λw'=>Q0 w2 w') hne
       (H3.mono λe w' h=>by obtain⟨h1,v,h2,_⟩:=h;exact⟨v,h2,h1⟩))
     clear H3 ho hne;go_wp2_with fail;refine HL.mono ?_;rintro e w4 ⟨w3,rfl,f3,f4⟩;simp only [Qa];exact⟨rfl,hR _ _ ⟨(F2.trans' f3).trans' f4,rfl⟩⟩
   | inr x =>
     simp only [ho,qE,qO]at H3 hR
     have HL:=hd_ (Q2p 182 #[.pointer (some ⟨H+1,0,none⟩),.pointer (some ⟨H,0,none⟩),.pointer (some ⟨H+1+1,0,none⟩)] w2 (λ_ _=>rfl) (λv w'=>Q0 w2 w'/\DV (some x) w2 v w')
       (H3.mono λe w' h=>by obtain⟨h1,v,h2,h3⟩:=h;exact⟨v,h2,h1,h3⟩))
     clear H3 ho;go_wp2_with fail;refine HL.mono ?_;rintro e w4 ⟨v,w3,rfl,⟨f3,A,n,c,rfl,hc,hr⟩,f4⟩;have HV:=hd_ (show XX w x (.returned (.slice A n c)) w4 from⟨A,n,c,rfl,hc,(hr.mono λb hb=>by have:=F2.size;omega).fresh f4⟩);have F4:=hd_ ((F2.trans' f3).trans' f4);clear f3 hc hr f4 HL;go_wp2_with fail;(try go_ret);exact hR _ _ ⟨F4.out,HV.out⟩
 simp only [if_neg ht]at HCK hR;clear ht HT1;go_wp2_with fail;refine HCK.mono ?_;rintro e w1 ⟨rfl,f1⟩;have F1:=hd_ (F0.trans' f1);clear f1 HCK;go_wp2_with fail;refine(Je 12 _ _ _ (by simpa using(Blk.new w1 24 #[.int .i64 12]).cell 0) (by decide)).mono ?_;rintro e w2 ⟨rfl,hw2⟩;simp only [Qa];exact⟨rfl,hR _ _ ⟨by rw [hw2];exact F1.alloc _,rfl⟩⟩
def KR (fo:Bool) (tree:List Int) (bs:List Nat) (at_ s:Nat):Int ⊕ (List Nat × Nat) :=
  match J7 (bs.drop at_)with
  | .inl er=>.inl er
  | .inr (u,m)=>match YN fo tree ((bs.drop (at_+u)).take m) s with
    | .inl er=>.inl er
    | .inr x=>.inr (x,at_+u+m)
theorem Q5P (F G:Nat->Prop) (g pr s tn tc:Nat) (kd:Int) (fo:Bool) (TA:Option Addr) (tree:List Int) (bs:List Nat) (at_:Nat) (er:Int) (w:World) (hcu:Q4 w F g bs at_) (hF:∀b,F b->b≠g) (hG:∀b,G b->b≠g)
   (br:Blk w pr 101 #[.pointer (some ⟨g,0,none⟩),.slice TA tn tc]) (hpg:pr≠g) (hrt:Rd w G TA tn (Q7 tree)) (htc:tn<=tc) (htn:tn<=2^40) (hs:s<=131072) (hp:J7 (bs.drop at_) = .inl er) :
   Calls prog 71 #[.pointer (some ⟨pr,0,none⟩),.agg #[.int .i64 kd,.bool fo,.int .i64 (s:Nat)]] w (YE F g bs (.inl er) w):=by
 obtain⟨w1,H,hw1,hH,f0,b0⟩:=al_ w 41 #[.int .i64 kd,.bool fo,.int .i64 (s:Nat)];(have hHg:H≠g:=by have:=hcu.lt;omega);have HCB:=hd_ (show ∀W,Upd (λb=>b=g) w1 W->W.cell? ⟨H,0,none⟩=some (.int .i64 kd)/\W.cell? ⟨H,1,none⟩=some (.bool fo)/\W.cell? ⟨H,2,none⟩=some (.int .i64 (s:Nat))from λW hW=>⟨by simpa using(b0.upd hW hHg).cell 0,by simpa using(b0.upd hW hHg).cell 1,by simpa using(b0.upd hW hHg).cell 2⟩)
 have HPT:=hd_ (λW (hW:Upd (λb=>b=g) w1 W) (hc:Q4 W F g bs at_)=>(Vx F g pr (.slice TA tn tc) bs at_ W hc hF ((br.fresh f0).upd hW hpg) hpg).mono λe w' h=>(show Upd (λb=>b=g) W w'/\e=Qa er from by
   unfold Ka at h;rw [hp]at h;exact h))
 have HCU:=hd_ (hcu.fresh f0);have U1:=hd_ (f0.mono (T:=λb=>b=g) (λ_ _ h=>h.elim));have HH:=hd_ hH;have HW:=hd_ hw1;clear hcu hF br hpg hs hw1 hH f0 b0 hHg hp hG hrt htc htn;refine Q8 λR hR0=>?_;unfold YE at hR0;simp only at hR0;have hR:=hd_ (show ∀(e:Ending) w',Upd (λb=>b=g) w w'->R (Qa er) w' from λe w' h=>hR0 _ _ ⟨h,rfl⟩);clear hR0;go_enter func71,ntmps71;go_upto_region 1 with fail;simp only [<-HH.out,<-HW.out];obtain⟨Cw,cEq⟩:=exC (λW=>Upd (λb=>b=g) w1 W);obtain⟨Y,yA⟩:=exY [λxs W=>(xs 0) = .pointer (some ⟨pr,0,none⟩),λxs W=>(xs 1) = .agg #[.int .i64 kd,.bool fo,.int .i64 (s:Nat)],λxs W=>(xs 2) = .pointer (some ⟨pr,0,none⟩),λxs W=>False,λxs W=>False,λxs W=>False,λxs W=>Q4 W F g bs at_];have yf0:=yA 0;have yf1:=yA 1;have yf2:=yA 2;have yf3:=yA 3;have yf4:=yA 4;have yf5:=yA 5;have yf6:=yA 6;simp only [List.getD_cons_zero,List.getD_cons_succ]at yf0 yf1 yf2 yf3 yf4 yf5 yf6;(have yN:∀j xs W,7<=j->Y j xs W=True:=λj xs W hj=>by rw [yA,Y6 _ _ _ hj])
 have yP:∀j xs W W',j∈[0,1,2,3,4,5]->Y j xs W->Y j xs W':=by
   intro j xs W W' hj hy;simp only [List.mem_cons,List.not_mem_nil,or_false]at hj;(rcases hj with rfl|rfl|rfl|rfl|rfl|rfl<;>(rw [yA]at hy|-;exact hy))
 have yM:Jt [[0],[1],[2],[],[],[],[]] Y:=by
   intro j xs xs' W hh hy;by_cases hj:7<=j
   . rw [yN j _ _ hj];trivial
   (have hj':j=0\/j=1\/j=2\/j=3\/j=4\/j=5\/j=6:=by omega);rcases hj' with rfl|rfl|rfl|rfl|rfl|rfl|rfl;(all_goals(rw [yA]at hy|-;(try simp only [List.getD_cons_zero,List.getD_cons_succ]at hy|-);repeat rw [<-hh]));(all_goals first|exact hy|decide)
 clear yA
 have yR:∀j xs,6<=j->Y j xs (w1.drew):=by
   intro j xs hj;rcases(show j=6\/7<=j by omega)with rfl|hj
   . rw [yf6];exact HCU.out
   rw [yN _ _ _ hj];trivial
 refine Jm (PP:=λch W=>ch=[{ v:=.iface 24 (.int .i64 er),recovered:=false }]/\Upd (λb=>b=g) w1 W) Cw (λj=>if j=6 then [3]else []) Y [(0,some 5),(1,some 6),(2,some 7),(3,some 8),(4,some 9),(5,some 4)] (by kernel_rfl) (by kernel_rfl) (by kernel_rfl) (by rw [cEq];exact(Upd.refl _ _).drew) (λj hj=>yR j _ hj) ?_ ?_ (λch a W hd h=>by obtain⟨rfl,h2⟩:=h;exact⟨hd,hR (Qa er) _ (U1.trans' h2)⟩)
 . refine Q9.p cEq yM [] (by kernel_rfl) (by kernel_rfl) (λxs W hw hd K hK'=>?_) ?_
   . simp only [Q5,Act.put,sb_,sz_,ss_]at hK'|-
     go_simp;exact hK' _ (by rw [yf0];exact if_pos rfl)
   refine Q9.p cEq yM [] (by kernel_rfl) (by kernel_rfl) (λxs W hw hd K hK'=>?_) ?_
   . simp only [Q5,Act.put,sb_,sz_,ss_]at hK'|-
     have cl:=HCB W hw;obtain⟨cl0,cl1,cl2⟩:=cl;go_simp;exact hK' _ (by rw [yf1];exact if_pos rfl)
   refine Q9.p cEq yM [] (by kernel_rfl) (by kernel_rfl) (λxs W hw hd K hK'=>?_) ?_
   . simp only [Q5,Act.put,sb_,sz_,ss_]at hK'|-
     go_simp;exact hK' _ (by rw [yf2];exact if_pos rfl)
   refine Q9.c cEq [(2,some 7),(6,none)] (by kernel_rfl) (λxs W hw hd K hK'=>?_) ?_
   . simp only [Qd]at hd
     obtain⟨hf2,hf6,_⟩:=hd;simp only [Q5,Act.put,sb_,sz_,ss_]at hK'|-;rw [yf2]at hf2;rw [yf6]at hf6;simp only [hf2]at hK'|-;go_simp;refine(HPT W hw hf6).mono ?_;rintro e9 w9 ⟨u9,rfl⟩;simp only [Qa];exact⟨rfl,hw.trans' u9⟩
   refine Q9.c cEq [(0,some 5),(1,some 6),(3,some 8)] (by kernel_rfl) (λxs W hw hd K hK'=>?_) ?_
   . simp only [Qd]at hd
     obtain⟨hf0,hf1,hf3,_⟩:=hd;simp only [Q5,Act.put,sb_,sz_,ss_]at hK'|-;rw [yf0]at hf0;rw [yf1]at hf1;rw [yf3]at hf3;simp only [hf0,hf1]at hK'|-;exact hf3.elim
   refine Q9.c cEq [(4,some 9)] (by kernel_rfl) (λxs W hw hd K hK'=>?_) ?_
   . simp only [Qd]at hd
     obtain⟨hf4,_⟩:=hd;simp only [Q5,Act.put,sb_,sz_,ss_]at hK'|-;rw [yf4]at hf4;exact hf4.elim
   exact Q9.nil
 intro xs W hw hd;rw [cEq]at hw;simp only [YD]at hd;obtain⟨fe0,fe1,fe2,fe3,fe4,fe5,_⟩:=hd;have fe0:=fe0 (by first|kernel_rfl|trivial);rw [yf0]at fe0;have fe1:=fe1 (by first|kernel_rfl|trivial);rw [yf1]at fe1;have fe2:=fe2 (by first|kernel_rfl|trivial);rw [yf2]at fe2;have fe3:=fe3 (by first|kernel_rfl|trivial);rw [yf3]at fe3;have fe4:=fe4 (by first|kernel_rfl|trivial);rw [yf4]at fe4;have fe5:=fe5 (by first|kernel_rfl|trivial);rw [yf5]at fe5;simp only [Q5,Act.put,sb_,sz_,ss_];generalize xs 0=xv0 at *;generalize xs 1=xv1 at *;generalize xs 2=xv2 at *;generalize xs 3=xv3 at *;generalize xs 4=xv4 at *;generalize xs 5=xv5 at *;subst fe0;subst fe1;subst fe2;clear yf0 yf1 yf2 yf3 yf4 yf5 yf6 yN yR yM yP cEq;exact fe5.elim
theorem Q5Q (F G:Nat->Prop) (g pr s tn tc:Nat) (kd:Int) (fo:Bool) (TA:Option Addr) (tree:List Int) (bs:List Nat) (at_:Nat) (er:Int) (w:World) (hcu:Q4 w F g bs at_) (hF:∀b,F b->b≠g) (hG:∀b,G b->b≠g)
   (br:Blk w pr 101 #[.pointer (some ⟨g,0,none⟩),.slice TA tn tc]) (hpg:pr≠g) (hrt:Rd w G TA tn (Q7 tree)) (htc:tn<=tc) (htn:tn<=2^40) (hs:s<=131072) (u0 m:Nat) (hp:J7 (bs.drop at_) = .inr (u0,m)) (htd:YN fo tree ((bs.drop (at_+u0)).take m) s = .inl er) :
   Calls prog 71 #[.pointer (some ⟨pr,0,none⟩),.agg #[.int .i64 kd,.bool fo,.int .i64 (s:Nat)]] w (YE F g bs (.inl er) w):=by
 obtain⟨w1,H,hw1,hH,f0,b0⟩:=al_ w 41 #[.int .i64 kd,.bool fo,.int .i64 (s:Nat)];(have hHg:H≠g:=by have:=hcu.lt;omega);have HCB:=hd_ (show ∀W,Upd (λb=>b=g) w1 W->W.cell? ⟨H,0,none⟩=some (.int .i64 kd)/\W.cell? ⟨H,1,none⟩=some (.bool fo)/\W.cell? ⟨H,2,none⟩=some (.int .i64 (s:Nat))from λW hW=>⟨by simpa using(b0.upd hW hHg).cell 0,by simpa using(b0.upd hW hHg).cell 1,by simpa using(b0.upd hW hHg).cell 2⟩);obtain⟨cb,hcb⟩:=nm_ ((bs.drop (at_+u0)).take m);obtain⟨u,hu⟩:=nm_ (at_+u0+m);rw [<-hcb]at htd
 have HPT:=hd_ (λW (hW:Upd (λb=>b=g) w1 W) (hc:Q4 W F g bs at_)=>(Vx F g pr (.slice TA tn tc) bs at_ W hc hF ((br.fresh f0).upd hW hpg) hpg).mono λe w' h=>(show Upd (λb=>b=g) W w'/\∃K,e = .returned (.pointer (some ⟨K,0,none⟩))/\W.heap.size<=K/\Q4 w' (λb=>W.heap.size<=b/\b≠K) K cb 0/\Q4 w' F g bs u from by
   unfold Ka at h;rw [hp]at h;rw [hcb,hu];exact h))
 have HTD:=hd_ (λW (hW:Upd (λb=>b=g) w1 W) K (hK:w1.heap.size<=K) (hc:Q4 W (λb=>w1.heap.size<=b/\b≠K) K cb 0)=>(Xe _ G g pr K s tn tc kd fo TA tree cb 0 cb rfl W hc ((hrt.fresh f0).upd hW (λb _ hb e=>hG b hb e)) htc htn ((br.fresh f0).upd hW hpg) hs).mono λe w' h=>(show Q0 W w'/\e=Qa er from by
   unfold ZI at h;rw [htd]at h;exact h))
 have HCU:=hd_ (hcu.fresh f0);have U1:=hd_ (f0.mono (T:=λb=>b=g) (λ_ _ h=>h.elim));have HH:=hd_ hH;have HW:=hd_ hw1;clear hcu hF br hpg hs hw1 hH f0 b0 hHg hp hG hrt htc htn htd hcb hu;refine Q8 λR hR0=>?_;unfold YE at hR0;simp only at hR0;have hR:=hd_ (show ∀(e:Ending) w',Upd (λb=>b=g) w w'->R (Qa er) w' from λe w' h=>hR0 _ _ ⟨h,rfl⟩);clear hR0;go_enter func71,ntmps71;go_upto_region 1 with fail;simp only [<-HH.out,<-HW.out];obtain⟨Cw,cEq⟩:=exC (λW=>Upd (λb=>b=g) w1 W);obtain⟨Y,yA⟩:=exY [λxs W=>(xs 0) = .pointer (some ⟨pr,0,none⟩),λxs W=>(xs 1) = .agg #[.int .i64 kd,.bool fo,.int .i64 (s:Nat)],λxs W=>(xs 2) = .pointer (some ⟨pr,0,none⟩),λxs W=>∃K,(xs 3) = .pointer (some ⟨K,0,none⟩)/\w1.heap.size<=K/\Q4 W (λb=>w1.heap.size<=b/\b≠K) K cb 0/\Q4 W F g bs u,λxs W=>False,λxs W=>False,λxs W=>Q4 W F g bs at_];have yf0:=yA 0;have yf1:=yA 1;have yf2:=yA 2;have yf3:=yA 3;have yf4:=yA 4;have yf5:=yA 5;have yf6:=yA 6;simp only [List.getD_cons_zero,List.getD_cons_succ]at yf0 yf1 yf2 yf3 yf4 yf5 yf6;(have yN:∀j xs W,7<=j->Y j xs W=True:=λj xs W hj=>by rw [yA,Y6 _ _ _ hj])
 have yP:∀j xs W W',j∈[0,1,2,4,5]->Y j xs W->Y j xs W':=by
   intro j xs W W' hj hy;simp only [List.mem_cons,List.not_mem_nil,or_false]at hj;(rcases hj with rfl|rfl|rfl|rfl|rfl<;>(rw [yA]at hy|-;exact hy))
 have yM:Jt [[0],[1],[2],[3],[],[],[]] Y:=by
   intro j xs xs' W hh hy;by_cases hj:7<=j
   . rw [yN j _ _ hj];trivial
   (have hj':j=0\/j=1\/j=2\/j=3\/j=4\/j=5\/j=6:=by omega);rcases hj' with rfl|rfl|rfl|rfl|rfl|rfl|rfl;(all_goals(rw [yA]at hy|-;(try simp only [List.getD_cons_zero,List.getD_cons_succ]at hy|-);repeat rw [<-hh]));(all_goals first|exact hy|decide)
 clear yA
 have yR:∀j xs,6<=j->Y j xs (w1.drew):=by
   intro j xs hj;rcases(show j=6\/7<=j by omega)with rfl|hj
   . rw [yf6];exact HCU.out
   rw [yN _ _ _ hj];trivial
 refine Jm (PP:=λch W=>ch=[{ v:=.iface 24 (.int .i64 er),recovered:=false }]/\Upd (λb=>b=g) w1 W) Cw (λj=>if j=6 then [3]else []) Y [(0,some 5),(1,some 6),(2,some 7),(3,some 8),(4,some 9),(5,some 4)] (by kernel_rfl) (by kernel_rfl) (by kernel_rfl) (by rw [cEq];exact(Upd.refl _ _).drew) (λj hj=>yR j _ hj) ?_ ?_ (λch a W hd h=>by obtain⟨rfl,h2⟩:=h;exact⟨hd,hR (Qa er) _ (U1.trans' h2)⟩)
 . refine Q9.p cEq yM [] (by kernel_rfl) (by kernel_rfl) (λxs W hw hd K hK'=>?_) ?_
   . simp only [Q5,Act.put,sb_,sz_,ss_]at hK'|-
     go_simp;exact hK' _ (by rw [yf0];exact if_pos rfl)
   refine Q9.p cEq yM [] (by kernel_rfl) (by kernel_rfl) (λxs W hw hd K hK'=>?_) ?_
   . simp only [Q5,Act.put,sb_,sz_,ss_]at hK'|-
     have cl:=HCB W hw;obtain⟨cl0,cl1,cl2⟩:=cl;go_simp;exact hK' _ (by rw [yf1];exact if_pos rfl)
   refine Q9.p cEq yM [] (by kernel_rfl) (by kernel_rfl) (λxs W hw hd K hK'=>?_) ?_
   . simp only [Q5,Act.put,sb_,sz_,ss_]at hK'|-
     go_simp;exact hK' _ (by rw [yf2];exact if_pos rfl)
   refine Q9.c cEq [(2,some 7),(6,none)] (by kernel_rfl) (λxs W hw hd K hK'=>?_) ?_
   . simp only [Qd]at hd
     obtain⟨hf2,hf6,_⟩:=hd;simp only [Q5,Act.put,sb_,sz_,ss_]at hK'|-;rw [yf2]at hf2;rw [yf6]at hf6;simp only [hf2]at hK'|-;have hsz:=hw.size;go_simp;refine(HPT W hw hf6).mono ?_;rintro e9 w9 ⟨u9,K9,rfl,hK9,c9,d9⟩;have hR:=u9;refine hK' (_) (w9) (hw.trans' u9) (QW yM 3 (by kernel_rfl) _ λj hs hy=>?_) (by rw [yf3];(try simp only [↓reduceIte]);try exact⟨K9,rfl,by omega,c9.mono λb hb=>⟨by have:=hb.1;omega,hb.2⟩,d9⟩);by_cases hp:j∈[0,1,2,4,5]
     . exact yP j _ _ _ hp hy
     by_cases hj:7<=j
     . rw [yN j _ _ hj];trivial
     simp only [List.mem_cons,List.not_mem_nil,or_false]at hp;rcases(show j=3\/j=6 by omega)with rfl|rfl
     . exact(Qg hs (by kernel_rfl)).elim
     exact(Qg hs (by kernel_rfl)).elim
   refine Q9.c cEq [(0,some 5),(1,some 6),(3,some 8)] (by kernel_rfl) (λxs W hw hd K hK'=>?_) ?_
   . simp only [Qd]at hd
     obtain⟨hf0,hf1,hf3,_⟩:=hd;simp only [Q5,Act.put,sb_,sz_,ss_]at hK'|-;rw [yf0]at hf0;rw [yf1]at hf1;rw [yf3]at hf3;simp only [hf0,hf1]at hK'|-;obtain⟨K3,h3e,hK3,c3,d3⟩:=hf3;simp only [h3e]at hK'|-;have hsz:=hw.size;go_simp;refine(HTD W hw K3 hK3 c3).mono ?_;rintro e9 w9 ⟨f9,rfl⟩;simp only [Qa];exact⟨rfl,hw.trans f9 (λ_ _ h=>h.elim)⟩
   refine Q9.c cEq [(4,some 9)] (by kernel_rfl) (λxs W hw hd K hK'=>?_) ?_
   . simp only [Qd]at hd
     obtain⟨hf4,_⟩:=hd;simp only [Q5,Act.put,sb_,sz_,ss_]at hK'|-;rw [yf4]at hf4;exact hf4.elim
   exact Q9.nil
 intro xs W hw hd;rw [cEq]at hw;simp only [YD]at hd;obtain⟨fe0,fe1,fe2,fe3,fe4,fe5,_⟩:=hd;have fe0:=fe0 (by first|kernel_rfl|trivial);rw [yf0]at fe0;have fe1:=fe1 (by first|kernel_rfl|trivial);rw [yf1]at fe1;have fe2:=fe2 (by first|kernel_rfl|trivial);rw [yf2]at fe2;have fe3:=fe3 (by first|kernel_rfl|trivial);rw [yf3]at fe3;have fe4:=fe4 (by first|kernel_rfl|trivial);rw [yf4]at fe4;have fe5:=fe5 (by first|kernel_rfl|trivial);rw [yf5]at fe5;simp only [Q5,Act.put,sb_,sz_,ss_];generalize xs 0=xv0 at *;generalize xs 1=xv1 at *;generalize xs 2=xv2 at *;generalize xs 3=xv3 at *;generalize xs 4=xv4 at *;generalize xs 5=xv5 at *;subst fe0;subst fe1;subst fe2;clear yf0 yf1 yf2 yf3 yf4 yf5 yf6 yN yR yM yP cEq;exact fe5.elim
theorem Q9a (F G:Nat->Prop) (g pr s tn tc:Nat) (kd:Int) (fo:Bool) (TA:Option Addr) (tree:List Int) (bs:List Nat) (at_:Nat) (w:World) (hcu:Q4 w F g bs at_) (hF:∀b,F b->b≠g) (hG:∀b,G b->b≠g)
   (br:Blk w pr 101 #[.pointer (some ⟨g,0,none⟩),.slice TA tn tc]) (hpg:pr≠g) (hrt:Rd w G TA tn (Q7 tree)) (htc:tn<=tc) (htn:tn<=2^40) (hs:s<=131072) (u0 m:Nat) (x:List Nat) (hp:J7 (bs.drop at_) = .inr (u0,m)) (htd:YN fo tree ((bs.drop (at_+u0)).take m) s = .inr x) :
   Calls prog 71 #[.pointer (some ⟨pr,0,none⟩),.agg #[.int .i64 kd,.bool fo,.int .i64 (s:Nat)]] w (YE F g bs (.inr (x,at_+u0+m)) w):=by
 obtain⟨w1,H,hw1,hH,f0,b0⟩:=al_ w 41 #[.int .i64 kd,.bool fo,.int .i64 (s:Nat)];(have hHg:H≠g:=by have:=hcu.lt;omega);have HCB:=hd_ (show ∀W,Upd (λb=>b=g) w1 W->W.cell? ⟨H,0,none⟩=some (.int .i64 kd)/\W.cell? ⟨H,1,none⟩=some (.bool fo)/\W.cell? ⟨H,2,none⟩=some (.int .i64 (s:Nat))from λW hW=>⟨by simpa using(b0.upd hW hHg).cell 0,by simpa using(b0.upd hW hHg).cell 1,by simpa using(b0.upd hW hHg).cell 2⟩);obtain⟨cb,hcb⟩:=nm_ ((bs.drop (at_+u0)).take m);obtain⟨u,hu⟩:=nm_ (at_+u0+m);rw [<-hcb]at htd
 have HPT:=hd_ (λW (hW:Upd (λb=>b=g) w1 W) (hc:Q4 W F g bs at_)=>(Vx F g pr (.slice TA tn tc) bs at_ W hc hF ((br.fresh f0).upd hW hpg) hpg).mono λe w' h=>(show Upd (λb=>b=g) W w'/\∃K,e = .returned (.pointer (some ⟨K,0,none⟩))/\W.heap.size<=K/\Q4 w' (λb=>W.heap.size<=b/\b≠K) K cb 0/\Q4 w' F g bs u from by
   unfold Ka at h;rw [hp]at h;rw [hcb,hu];exact h))
 have HTD:=hd_ (λW (hW:Upd (λb=>b=g) w1 W) K (hK:w1.heap.size<=K) (hc:Q4 W (λb=>w1.heap.size<=b/\b≠K) K cb 0)=>(Xe _ G g pr K s tn tc kd fo TA tree cb 0 cb rfl W hc ((hrt.fresh f0).upd hW (λb _ hb e=>hG b hb e)) htc htn ((br.fresh f0).upd hW hpg) hs).mono λe w' h=>(show Q0 W w'/\∃A n c,e = .returned (.slice A n c)/\n<=c/\Rd w' (λb=>W.heap.size<=b) A n (Q2 x)from by
   unfold ZI at h;rw [htd]at h;exact h))
 have HCU:=hd_ (hcu.fresh f0);have U1:=hd_ (f0.mono (T:=λb=>b=g) (λ_ _ h=>h.elim));have HH:=hd_ hH;have HW:=hd_ hw1;rw [<-hu];clear hcu hF br hpg hs hw1 hH f0 b0 hHg hp hG hrt htc htn htd hcb hu;refine Q8 λR hR0=>?_;unfold YE at hR0;simp only at hR0;have hR:=hR0;clear hR0;go_enter func71,ntmps71;go_upto_region 1 with fail;simp only [<-HH.out,<-HW.out];obtain⟨Cw,cEq⟩:=exC (λW=>Upd (λb=>b=g) w1 W);obtain⟨Y,yA⟩:=exY [λxs W=>(xs 0) = .pointer (some ⟨pr,0,none⟩),λxs W=>(xs 1) = .agg #[.int .i64 kd,.bool fo,.int .i64 (s:Nat)],λxs W=>(xs 2) = .pointer (some ⟨pr,0,none⟩),λxs W=>∃K,(xs 3) = .pointer (some ⟨K,0,none⟩)/\w1.heap.size<=K/\Q4 W (λb=>w1.heap.size<=b/\b≠K) K cb 0/\Q4 W F g bs u,λxs W=>∃A n c,(xs 4) = .slice A n c/\n<=c/\Rd W (λb=>w1.heap.size<=b) A n (Q2 x)/\Q4 W F g bs u,λxs W=>(xs 5)=(xs 4),λxs W=>Q4 W F g bs at_];have yf0:=yA 0;have yf1:=yA 1;have yf2:=yA 2;have yf3:=yA 3;have yf4:=yA 4;have yf5:=yA 5;have yf6:=yA 6;simp only [List.getD_cons_zero,List.getD_cons_succ]at yf0 yf1 yf2 yf3 yf4 yf5 yf6;(have yN:∀j xs W,7<=j->Y j xs W=True:=λj xs W hj=>by rw [yA,Y6 _ _ _ hj])
 have yP:∀j xs W W',j∈[0,1,2,5]->Y j xs W->Y j xs W':=by
   intro j xs W W' hj hy;simp only [List.mem_cons,List.not_mem_nil,or_false]at hj;(rcases hj with rfl|rfl|rfl|rfl<;>(rw [yA]at hy|-;exact hy))
 have yM:Jt [[0],[1],[2],[3],[4],[5,4],[]] Y:=by
   intro j xs xs' W hh hy;by_cases hj:7<=j
   . rw [yN j _ _ hj];trivial
   (have hj':j=0\/j=1\/j=2\/j=3\/j=4\/j=5\/j=6:=by omega);rcases hj' with rfl|rfl|rfl|rfl|rfl|rfl|rfl;(all_goals(rw [yA]at hy|-;(try simp only [List.getD_cons_zero,List.getD_cons_succ]at hy|-);repeat rw [<-hh]));(all_goals first|exact hy|decide)
 clear yA
 have yR:∀j xs,6<=j->Y j xs (w1.drew):=by
   intro j xs hj;rcases(show j=6\/7<=j by omega)with rfl|hj
   . rw [yf6];exact HCU.out
   rw [yN _ _ _ hj];trivial
 refine Ya Cw (λj=>if j=6 then [3]else []) Y [(0,some 5),(1,some 6),(2,some 7),(3,some 8),(4,some 9),(5,some 4)] (by kernel_rfl) (by kernel_rfl) (by kernel_rfl) (by rw [cEq];exact(Upd.refl _ _).drew) (λj hj=>yR j _ hj) ?_ ?_
 . refine Q9.p cEq yM [] (by kernel_rfl) (by kernel_rfl) (λxs W hw hd K hK'=>?_) ?_
   . simp only [Q5,Act.put,sb_,sz_,ss_]at hK'|-
     go_simp;exact hK' _ (by rw [yf0];exact if_pos rfl)
   refine Q9.p cEq yM [] (by kernel_rfl) (by kernel_rfl) (λxs W hw hd K hK'=>?_) ?_
   . simp only [Q5,Act.put,sb_,sz_,ss_]at hK'|-
     have cl:=HCB W hw;obtain⟨cl0,cl1,cl2⟩:=cl;go_simp;exact hK' _ (by rw [yf1];exact if_pos rfl)
   refine Q9.p cEq yM [] (by kernel_rfl) (by kernel_rfl) (λxs W hw hd K hK'=>?_) ?_
   . simp only [Q5,Act.put,sb_,sz_,ss_]at hK'|-
     go_simp;exact hK' _ (by rw [yf2];exact if_pos rfl)
   refine Q9.c cEq [(2,some 7),(6,none)] (by kernel_rfl) (λxs W hw hd K hK'=>?_) ?_
   . simp only [Qd]at hd
     obtain⟨hf2,hf6,_⟩:=hd;simp only [Q5,Act.put,sb_,sz_,ss_]at hK'|-;rw [yf2]at hf2;rw [yf6]at hf6;simp only [hf2]at hK'|-;have hsz:=hw.size;go_simp;refine(HPT W hw hf6).mono ?_;rintro e9 w9 ⟨u9,K9,rfl,hK9,c9,d9⟩;have hR:=u9;refine hK' (_) (w9) (hw.trans' u9) (QW yM 3 (by kernel_rfl) _ λj hs hy=>?_) (by rw [yf3];(try simp only [↓reduceIte]);try exact⟨K9,rfl,by omega,c9.mono λb hb=>⟨by have:=hb.1;omega,hb.2⟩,d9⟩);by_cases hp:j∈[0,1,2,5]
     . exact yP j _ _ _ hp hy
     by_cases hj:7<=j
     . rw [yN j _ _ hj];trivial
     simp only [List.mem_cons,List.not_mem_nil,or_false]at hp;rcases(show j=3\/j=4\/j=6 by omega)with rfl|rfl|rfl
     . exact(Qg hs (by kernel_rfl)).elim
     . exact(Qg hs (by kernel_rfl)).elim
     exact(Qg hs (by kernel_rfl)).elim
   refine Q9.c cEq [(0,some 5),(1,some 6),(3,some 8)] (by kernel_rfl) (λxs W hw hd K hK'=>?_) ?_
   . simp only [Qd]at hd
     obtain⟨hf0,hf1,hf3,_⟩:=hd;simp only [Q5,Act.put,sb_,sz_,ss_]at hK'|-;rw [yf0]at hf0;rw [yf1]at hf1;rw [yf3]at hf3;simp only [hf0,hf1]at hK'|-;obtain⟨K3,h3e,hK3,c3,d3⟩:=hf3;simp only [h3e]at hK'|-;have hsz:=hw.size;go_simp;refine(HTD W hw K3 hK3 c3).mono ?_;rintro e9 w9 ⟨f9,A9,n9,c9,rfl,hc9,r9⟩;have hR:=f9;refine hK' (_) (w9) (hw.trans f9 (λ_ _ h=>h.elim)) (λj hs hy=>?_) (by rw [yf4];(try simp only [↓reduceIte]);try exact⟨A9,n9,c9,rfl,hc9,r9.mono λb hb=>by omega,d3.fresh f9⟩);by_cases hj:7<=j
     . rw [yN j _ _ hj];trivial
     (have hj':j=0\/j=1\/j=2\/j=3\/j=4\/j=5\/j=6:=by omega);rcases hj' with rfl|rfl|rfl|rfl|rfl|rfl|rfl
     . rw [yf0]at hy|-;(try simp only [↓reduceIte,OfNat.ofNat_ne_ofNat,Nat.reduceEqDiff]);exact hy
     . rw [yf1]at hy|-;(try simp only [↓reduceIte,OfNat.ofNat_ne_ofNat,Nat.reduceEqDiff]);exact hy
     . rw [yf2]at hy|-;(try simp only [↓reduceIte,OfNat.ofNat_ne_ofNat,Nat.reduceEqDiff]);exact hy
     . rw [yf3]at hy|-;(try simp only [↓reduceIte,OfNat.ofNat_ne_ofNat,Nat.reduceEqDiff]);obtain⟨q1,q2,q3,q4,q5⟩:=hy;exact⟨q1,q2,q3,q4.fresh hR,q5.fresh hR⟩
     . exact(Qg hs (by kernel_rfl)).elim
     . exact(Qg hs (by kernel_rfl)).elim
     rw [yf6]at hy|-;(try simp only [↓reduceIte,OfNat.ofNat_ne_ofNat,Nat.reduceEqDiff]);exact hy.fresh hR
   refine Q9.p cEq yM [(4,some 9)] (by kernel_rfl) (by kernel_rfl) (λxs W hw hd K hK'=>?_) ?_
   . simp only [Qd]at hd
     obtain⟨hf4,_⟩:=hd;simp only [Q5,Act.put,sb_,sz_,ss_]at hK'|-;rw [yf4]at hf4;go_simp;exact hK' _ (by rw [yf5];(try simp only [↓reduceIte,OfNat.ofNat_ne_ofNat,Nat.reduceEqDiff]);exact rfl)
   exact Q9.nil
 intro xs W hw hd;rw [cEq]at hw;simp only [YD]at hd;obtain⟨fe0,fe1,fe2,fe3,fe4,fe5,_⟩:=hd;have fe0:=fe0 (by first|kernel_rfl|trivial);rw [yf0]at fe0;have fe1:=fe1 (by first|kernel_rfl|trivial);rw [yf1]at fe1;have fe2:=fe2 (by first|kernel_rfl|trivial);rw [yf2]at fe2;have fe3:=fe3 (by first|kernel_rfl|trivial);rw [yf3]at fe3;have fe4:=fe4 (by first|kernel_rfl|trivial);rw [yf4]at fe4;have fe5:=fe5 (by first|kernel_rfl|trivial);rw [yf5]at fe5;simp only [Q5,Act.put,sb_,sz_,ss_];generalize xs 0=xv0 at *;generalize xs 1=xv1 at *;generalize xs 2=xv2 at *;generalize xs 3=xv3 at *;generalize xs 4=xv4 at *;generalize xs 5=xv5 at *;subst fe0;subst fe1;subst fe2;subst fe5;clear yf0 yf1 yf2 yf3 yf4 yf5 yf6 yN yR yM yP cEq;obtain⟨A,n,c,h4,hc4,r4,c4⟩:=fe4;subst h4;clear fe3;go_wp2_with fail;(try go_ret);exact hR _ _ ⟨U1.trans' hw,⟨A,n,c,rfl,hc4,r4.mono λb hb=>by have:=U1.size;omega⟩,c4⟩
end Go.Proofs.YtckjdhaflokcgaaGreat
