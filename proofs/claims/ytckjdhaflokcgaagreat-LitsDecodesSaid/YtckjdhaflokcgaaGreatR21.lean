/- Contracts and plain lemmas, part 21. Conditions: none beyond those of each. -/
import Derived.Test.YtckjdhaflokcgaaGreatR20
set_option maxHeartbeats 4000000
set_option linter.unusedVariables false
set_option linter.unusedSimpArgs false
set_option linter.unnecessarySimpa false
set_option maxRecDepth 100000
namespace Go.Proofs.YtckjdhaflokcgaaGreat
open Go.RowKit Go.Proofs.Tryz
def FV (q:Int ⊕ List Nat) (w:World) (v:Value) (W:World):Prop :=
  match q with
  | .inr x=>∃A n c,v = .slice A n c/\n<=c/\Rd W (λb=>w.heap.size<=b) A n (Q7 (x.map Int.ofNat))
  | .inl er=>True
theorem Xs {lg:Int} {N:List Int} {bs:List Nat} {n:Nat} {er:Int} (h:Y1 lg N bs n = .inl er):er≠0:=by
 unfold Y1 at h;split at h
 . split at h
   . injection h with h;omega
   split at h
   . cases h
   injection h with h;omega
 injection h with h;omega
def QaV (q:Int ⊕ List Nat):Int:=match q with | .inl er=>er | .inr _=>0
def Zh (bs:List Nat) (at_ m:Nat):Int ⊕ (List Int × Nat) :=
  match QQ 12 6 (Qf (YG bs at_))with
  | .error e=>.inl e
  | .ok (lg,N,k) =>
    if(Qn 131072 (bs.drop (at_+k))).2.2=0 then
      if at_+k+(Qn 131072 (bs.drop (at_+k))).2.1+(Qn 131072 (bs.drop (at_+k))).1<=bs.length then
        match Y1 (lg:Nat) N ((bs.drop (at_+k+(Qn 131072 (bs.drop (at_+k))).2.1)).take (Qn 131072 (bs.drop (at_+k))).1) m with
        | .inl e=>.inl e
        | .inr x=>.inr (x.map Int.ofNat,k+(Qn 131072 (bs.drop (at_+k))).2.1+(Qn 131072 (bs.drop (at_+k))).1)
      else .inl 3
    else .inl (Qn 131072 (bs.drop (at_+k))).2.2
def Q3K (F:Nat->Prop) (g:Nat) (bs:List Nat) (at_:Nat) (q:Int ⊕ (List Int × Nat)) (w:World) (e:Ending) (w':World):Prop :=
  Upd (λb=>b=g) w w'/\match q with
    | .inl er=>e=Qa er
    | .inr (x,u)=>∃A n c,e = .returned (.slice A n c)/\n<=c/\Rd w' (λb=>w.heap.size<=b) A n (Q7 x)/\Q4 w' F g bs (at_+u)
theorem Q0f:∀ {N:List Int} {x:Int},x∈N->QP x<=QR N
 | y::N,x,h=>by
   have hp:∀M:List Int,0<=QR M:=by
     intro M
     induction M with
     | nil=>simp [QR]
     | cons z M ih =>
       (have h0:0<=QP z:=by unfold QP;split<;>omega);have h1:QR (z::M)=QP z+QR M:=rfl;omega
   have h9:QR (y::N)=QP y+QR N:=rfl;have h0:=hp N;(have h1:0<=QP y:=by unfold QP;split<;>omega);rcases List.mem_cons.1 h with rfl|h
   . omega
   have:=Q0f h;omega
theorem Q1x {lg sy lb:Int} {N:List Int} (h:Yc lg N sy lb):Fit N:=by
 intro x hx;have h1:=Q0f hx;obtain⟨q1,q2,q3,k1,k2,k3,k4,q4⟩:=h;rw [q4]at h1
 have h2:(2:Int)^lg.toNat<=512:=by
   (have h3:(2:Int)^lg.toNat=((2^lg.toNat:Nat):Int):=by simp);have h4:2^lg.toNat<=2^9:=Nat.pow_le_pow_right (by decide) (by omega);omega
 unfold QP at h1;(split at h1<;>omega)
theorem ZX {sy lb:Int} {L:List Bool} {x:Int} (h:QQ sy lb L = .error x):x≠0:=by
 unfold QQ at h;simp only at h;split at h
 . injection h with h;subst h;assumption
 split at h
 . injection h with h;omega
 cases h
theorem Q81 (F:Nat->Prop) (g m:Nat) (bs:List Nat) (at_:Nat) (w:World) (hcu:Q4 w F g bs at_) (hm2:m<=255) (hF:∀b,F b->b≠g) :
   Calls prog 178 #[.agg #[.pointer (some ⟨g,0,none⟩)],.int .i64 (m:Nat)] w (Q3K F g bs at_ (Zh bs at_ m) w):=by
 (have hblt:∀b∈bs,b<256:=by obtain⟨_,_,_,_,h,_⟩:=hcu;exact h);(have hblen:bs.length<=2^32:=by obtain⟨_,_,_,_,_,_,h,_⟩:=hcu;exact h);obtain⟨w0,H,hw0,hH,f0,br⟩:=al_ w 229 #[.pointer (some ⟨g,0,none⟩)];(have hgH:g<H:=by rw [hH];exact hcu.lt);have r0:=br.cell 0;simp at r0;have HDC:=hd_ (Q5X _ g bs at_ 12 6 w0 (hcu.both.fresh f0) (λb hb=>hF b hb.1));have hone:=λp k (N:List Int) (h:QQ 12 6 (Qf (YG bs at_)) = .ok (p,N,k))=>Q2z (bs:=YG bs at_) (λb hb=>hblt b (List.mem_of_mem_drop (List.mem_of_mem_take hb))) h;have BR:=hd_ br;have F0:=hd_ f0;have HH:=hd_ hH;have HW:=hd_ hw0;have HG:=hd_ hgH;have HX:=hd_ (And.intro hblt (And.intro hblen (And.intro hm2 hF)));(have hmI:(m:Int)<=255:=by omega);unfold Go.Proofs.YtckjdhaflokcgaaGreat.Qaq at HDC;unfold Zh;clear hw0 hH f0 br hgH hcu hF hblt hblen hm2;refine Q8 λR hR=>?_;unfold Q3K at hR;go_enter func178,ntmps178;go_upto_region 1 with fail;simp only [<-HH.out,<-HW.out]
 cases hdec:QQ 12 6 (Qf (YG bs at_))with
 | error er =>
   have hne:=ZX hdec;rw [hdec]at HDC hR;simp only at HDC hR;have HNE:=hd_ hne;clear hdec hone hne;go_wp2_with fail;refine HDC.mono ?_;rintro e w2 ⟨u2,rfl,c2⟩;have U2:=hd_ u2;clear u2 c2 HDC;go_wp2_with fail;refine(JB er _ _ _ (by simpa using(Blk.new (w2.alloc (.cells #[.int .i64 0,.slice none 0 0] 205)) 24 #[.int .i64 er]).cell 0) HNE.out).mono ?_;rintro e w3 ⟨rfl,rfl⟩;simp only [Qa];exact⟨rfl,hR _ _ ⟨((F0.mono (T:=λb=>b=g) λ_ _ h=>h.elim).trans' U2.out).trans' (((Upd.refl _ w2).alloc _).alloc _),rfl⟩⟩
 | ok r =>
   obtain⟨lg,N,k⟩:=r;obtain⟨hval,-,hNl,hlg,-,-⟩:=hone lg k N hdec;rw [hdec]at HDC hR;simp only at HDC hR;have HV:=hd_ hval;have HNL:=hd_ (show N.length<=12 by omega);clear hdec hone hNl hval hlg;go_wp2_with fail;refine HDC.mono ?_;rintro e w2 ⟨u2,v,rfl,ov,kv,c2,-⟩;obtain⟨TA,n,c,rfl,hn⟩:=ov.form';obtain⟨hn4,hc4,hrd⟩:=ov.rd rfl;rw [<-hn4]at hrd hc4;(have hn5:n<=12:=by rw [hn4,Qz];exact HNL.out);obtain⟨w3,P,hw3,hP,f3,bp⟩:=al_ w2 205 #[.int .i64 (lg:Nat),.slice TA n c];have hRD3:=hrd.fresh f3;have HRD:=hd_ (hRD3.mono (G:=λb=>w0.heap.size<=b) λb hb=>kv b hb);have HN5:=hd_ hn5;have BP:=hd_ bp;have F3:=hd_ f3;have U2:=hd_ u2;have C3:=hd_ (c2.fresh f3);have HPg:=hd_ (show P≠g by have:=HG.out;have:=BR.lt;have:=u2.size;omega);clear ov kv hn hn4 hc4 hrd hn5 c2 u2 f3 bp hRD3 HDC r0;go_upto_region 2 with fail;simp only [<-hP,<-hw3];clear hP hw3;go_wp2_with fail;refine(JC _ _ _ (by simpa using(Blk.new w3 24 #[.int .i64 0]).cell 0)).mono ?_;rintro e w1 ⟨rfl,hw1⟩;have F31:=hd_ (show Q0 w3 w1 by rw [hw1];exact(Upd.refl _ _).alloc _);clear hw1;have HCU:=hd_ (C3.fresh F31.out);have U1:=hd_ (((F0.mono (T:=λb=>b=g) λ_ _ h=>h.elim).trans' U2.out).trans' ((F3.trans' F31.out).mono λ_ _ h=>h.elim));have HCB:=hd_ (show ∀W,Upd (λb=>b=g) w1 W->(W.cell? ⟨P,0,none⟩=some (.int .i64 (lg:Nat))/\W.cell? ⟨P,1,none⟩=some (.slice TA n c))/\W.cell? ⟨H,0,none⟩=some (.pointer (some ⟨g,0,none⟩))/\True from λW hW=>⟨⟨by simpa using((BP.fresh F31.out).upd hW HPg.out).cell 0,by simpa using((BP.fresh F31.out).upd hW HPg.out).cell 1⟩,by simpa using((((BR.upd U2.out (by have:=HG.out;omega)).fresh F3.out).fresh F31.out).upd hW (by have:=HG.out;omega)).cell 0,trivial⟩);obtain⟨a1,ha1⟩:=nm_ (at_+k);obtain⟨V,hV⟩:=nm_ (Qn 131072 (bs.drop (at_+k)));rw [<-hV]at hR;simp only [<-ha1]at hR HCU;have HA1:=hd_ ha1;have HNM:=hd_ (show V=Qn 131072 (bs.drop a1) by rw [hV,ha1]);clear ha1 hV;obtain⟨FF,hFF⟩:∃FF:Nat->Prop,FF=λb=>F b/\b<w.heap.size:=⟨_,rfl⟩;rw [<-hFF]at HCU;have HFF:=hd_ hFF;have hFg:∀b,FF b->b≠g:=λb hb=>HX.2.2.2 b (by rw [hFF]at hb;exact hb.1);have HNU0:=hd_ (λW (hW:Upd (λb=>b=g) w1 W) (hc:Q4 W FF g bs a1)=>(Q3E _ g 131072 bs a1 W hc (by omega) hFg));have HBY0:=hd_ (λW a2 l (hW:Upd (λb=>b=g) w1 W) (hc:Q4 W FF g bs a2) (hl:l<=2^40)=>(Q1p _ g l bs a2 W hc hl hFg));rw [<-HNM.out]at HNU0;(have hVl:V.2.2=0->V.1<=131072:=λh=>by rw [HNM.out]at h|-;exact Vc h);clear hFF hFg;by_cases h0:V.2.2=0
   . simp only [if_pos h0]at HNU0 hR
     have hl:=hVl h0;obtain⟨l,hld⟩:=nm_ (V.1);obtain⟨a2,ha2⟩:=nm_ (a1+V.2.1);rw [<-hld]at hl;simp only [<-hld,<-ha2]at HNU0 hR;have HNU:=hd_ (λW (hW:Upd (λb=>b=g) w1 W) (hc:Q4 W FF g bs a1)=>(HNU0 W hW hc).mono λe w' h=>(show Upd (λb=>b=g) W w'/\e = .returned (.int .i64 (l:Nat))/\Q4 w' FF g bs a2 from h));have HA2:=hd_ ha2;have HL:=hd_ hl;clear HNU0 hVl h0 hld ha2 hl;by_cases hb:a2+l<=bs.length
     . simp only [if_pos hb]at hR
       obtain⟨cb,hcb⟩:=nm_ ((bs.drop a2).take l);obtain⟨a3,ha3⟩:=nm_ (a2+l);rw [<-hcb]at hR;have hcl:cb.length=l/\∀x∈cb,x<256:=⟨by rw [hcb,List.length_take,List.length_drop];omega,λx hx=>HX.1 x (List.mem_of_mem_drop (List.mem_of_mem_take (hcb ▸ hx)))⟩
       have HBY:=hd_ (λW (hW:Upd (λb=>b=g) w1 W) (hc:Q4 W FF g bs a2)=>(HBY0 W a2 l hW hc (by have:=HL.out;omega)).mono λe w' h=>(show Upd (λb=>b=g) W w'/\∃A n c,e = .returned (.slice A n c)/\n<=c/\Rd w' (λb=>W.heap.size<=b) A n (Q2 cb)/\Q4 w' FF g bs a3 from by
         rw [if_pos hb]at h;obtain⟨hu,v,he,ho,hk,hc⟩:=h;obtain⟨A9,n9,c9,rfl,hn9⟩:=ho.form';obtain⟨h4,h5,h6⟩:=ho.rd rfl;rw [<-h4]at h5 h6;rw [hcb,ha3]
         exact⟨hu,A9,n9,c9,he,h5,h6.mono λb hb=>hk b hb,hc⟩))
       obtain⟨q,hq⟩:=nm_ (Y1 (lg:Nat) N cb m);rw [<-hq]at hR;obtain⟨er,her⟩:=nm_ (QaV q)
       have HFD:=hd_ (λW (hW:Upd (λb=>b=g) w1 W) A5 n5 c5 (h5:n5<=c5) (r5:Rd W (λb=>w1.heap.size<=b) A5 n5 (Q2 cb))=>(Q7Y _ _ TA A5 n c n5 c5 m (lg:Nat) N cb W ((HRD.fresh F31.out).upd hW (λb _ hb h=>by have:=HG.out;have:=BR.lt;omega)) (Q1x HV.out) (by have:=HN5.out;omega) r5 hcl.2 (by have:=r5.1;rw [QL]at this;have:=HL.out;omega) (by have:=HX.2.2.1;omega)).mono λe w' h=>(show ∃v,e = .returned (.tuple #[v,.int .i64 er])/\FV q w1 v w'/\Q0 W w' from by
         unfold Kf at h;rw [<-hq]at h;rw [her];obtain⟨hf,h⟩:=h
         cases q with
         | inl e9=>exact⟨_,h,trivial,hf⟩
         | inr x =>
           obtain⟨v,he,ho,hk⟩:=h;obtain⟨A9,n9,c9,rfl,hn9⟩:=ho.form';obtain⟨h4,h5,h6⟩:=ho.rd rfl;rw [<-h4]at h5 h6
           exact⟨_,he,⟨A9,n9,c9,rfl,h5,h6.mono λb hb=>by have:=hk b hb;have:=hW.size;omega⟩,hf⟩))
       have HER:=hd_ her
       have HFV:=hd_ (show ∀v W W',Q0 W W'->FV q w1 v W->FV q w1 v W' from λv W W' hf h=>by
         cases q with
         | inl e9=>trivial
         | inr x=>obtain⟨A9,n9,c9,h1,h2,h3⟩:=h;exact⟨A9,n9,c9,h1,h2,h3.fresh hf⟩)
       have HQN:=hd_ (show ∀e9,q = .inl e9->e9≠0 from λe9 h=>Xs (hq ▸ h));have HA3:=hd_ ha3;clear hb hcb ha3 hcl hq her HBY0;go_wp2_with fail;obtain⟨Cw,cEq⟩:=exC (λW=>Upd (λb=>b=g) w1 W);obtain⟨Y,yA⟩:=exY [λxs W=>(xs 0) = .agg #[.int .i64 (lg:Nat),.slice TA n c],λxs W=>(xs 1) = .agg #[.pointer (some ⟨g,0,none⟩)],λxs W=>(xs 2) = .agg #[.pointer (some ⟨g,0,none⟩)],λxs W=>(xs 3) = .int .i64 (l:Nat)/\Q4 W FF g bs a2,λxs W=>∃A n c,(xs 4) = .slice A n c/\n<=c/\Rd W (λb=>w1.heap.size<=b) A n (Q2 cb)/\Q4 W FF g bs a3,λxs W=>(xs 5) = .int .i64 (m:Nat),λxs W=>(xs 6) = .tuple #[JL (xs 6),.int .i64 er]/\FV q w1 (JL (xs 6)) W,λxs W=>(xs 7) = .tuple #[JL (xs 6),.int .i64 er],λxs W=>(xs 8)=JL (xs 6),λxs W=>(xs 9) = .int .i64 er,λxs W=>(xs 10)=JL (xs 6),λxs W=>(xs 11) = .int .i64 er,λxs W=>Q4 W FF g bs a1];have yf0:=yA 0;have yf1:=yA 1;have yf2:=yA 2;have yf3:=yA 3;have yf4:=yA 4;have yf5:=yA 5;have yf6:=yA 6;have yf7:=yA 7;have yf8:=yA 8;have yf9:=yA 9;have yf10:=yA 10;have yf11:=yA 11;have yf12:=yA 12;simp only [List.getD_cons_zero,List.getD_cons_succ]at yf0 yf1 yf2 yf3 yf4 yf5 yf6 yf7 yf8 yf9 yf10 yf11 yf12;(have yN:∀j xs W,13<=j->Y j xs W=True:=λj xs W hj=>by rw [yA,Y6 _ _ _ hj])
       have yP:∀j xs W W',j∈[0,1,2,5,7,8,9,10,11]->Y j xs W->Y j xs W':=by
         intro j xs W W' hj hy;simp only [List.mem_cons,List.not_mem_nil,or_false]at hj;(rcases hj with rfl|rfl|rfl|rfl|rfl|rfl|rfl|rfl|rfl<;>(rw [yA]at hy|-;exact hy))
       have yM:Jt [[0],[1],[2],[3],[4],[5],[6],[7,6],[8,6],[9],[10,6],[11],[]] Y:=by
         intro j xs xs' W hh hy;by_cases hj:13<=j
         . rw [yN j _ _ hj];trivial
         (have hj':j=0\/j=1\/j=2\/j=3\/j=4\/j=5\/j=6\/j=7\/j=8\/j=9\/j=10\/j=11\/j=12:=by omega);rcases hj' with rfl|rfl|rfl|rfl|rfl|rfl|rfl|rfl|rfl|rfl|rfl|rfl|rfl;(all_goals(rw [yA]at hy|-;(try simp only [List.getD_cons_zero,List.getD_cons_succ]at hy|-);repeat rw [<-hh]));(all_goals first|exact hy|decide)
       clear yA
       have yR:∀j xs,12<=j->Y j xs (w1.drew):=by
         intro j xs hj;rcases(show j=12\/13<=j by omega)with rfl|hj
         . rw [yf12];exact HCU.out
         rw [yN _ _ _ hj];trivial
       refine Ya Cw (λj=>if j=3 then [4,6]else if j=12 then [3,4,6]else []) Y [(0,some 18),(1,some 19),(2,some 20),(3,some 21),(4,some 22),(5,some 23),(6,some 24),(7,some 17),(8,some 25),(9,some 26),(10,some 7),(11,some 6)] (by kernel_rfl) (by kernel_rfl) (by kernel_rfl) (by rw [cEq];exact(Upd.refl _ _).drew) (λj hj=>yR j _ hj) ?_ ?_
       . refine Q9.p cEq yM [] (by kernel_rfl) (by kernel_rfl) (λxs W hw hd K hK'=>?_) ?_
         . simp only [Q5,Act.put,sb_,sz_,ss_]at hK'|-
           have cl:=HCB W hw;obtain⟨cl0,cl1,cl2⟩:=cl;go_simp;exact hK' _ (by rw [yf0];exact if_pos rfl)
         refine Q9.p cEq yM [] (by kernel_rfl) (by kernel_rfl) (λxs W hw hd K hK'=>?_) ?_
         . simp only [Q5,Act.put,sb_,sz_,ss_]at hK'|-
           have cl:=HCB W hw;obtain⟨cl0,cl1,cl2⟩:=cl;go_simp;exact hK' _ (by rw [yf1];exact if_pos rfl)
         refine Q9.p cEq yM [] (by kernel_rfl) (by kernel_rfl) (λxs W hw hd K hK'=>?_) ?_
         . simp only [Q5,Act.put,sb_,sz_,ss_]at hK'|-
           have cl:=HCB W hw;obtain⟨cl0,cl1,cl2⟩:=cl;go_simp;exact hK' _ (by rw [yf2];exact if_pos rfl)
         refine Q9.c cEq [(2,some 20),(12,none)] (by kernel_rfl) (λxs W hw hd K hK'=>?_) ?_
         . simp only [Qd]at hd
           obtain⟨hf2,hf12,_⟩:=hd;simp only [Q5,Act.put,sb_,sz_,ss_]at hK'|-;rw [yf2]at hf2;rw [yf12]at hf12;simp only [hf2]at hK'|-;go_simp;refine(HNU W hw hf12).mono ?_;rintro e9 w9 ⟨u9,rfl,c9⟩;have hR:=u9;refine hK' (_) (w9) (hw.trans' u9) (QW yM 3 (by kernel_rfl) _ λj hs hy=>?_) (by rw [yf3];(try simp only [↓reduceIte]);try exact⟨by first|rfl|trivial,c9⟩);by_cases hp:j∈[0,1,2,5,7,8,9,10,11]
           . exact yP j _ _ _ hp hy
           by_cases hj:13<=j
           . rw [yN j _ _ hj];trivial
           simp only [List.mem_cons,List.not_mem_nil,or_false]at hp;rcases(show j=3\/j=4\/j=6\/j=12 by omega)with rfl|rfl|rfl|rfl
           . exact(Qg hs (by kernel_rfl)).elim
           . exact(Qg hs (by kernel_rfl)).elim
           . exact(Qg hs (by kernel_rfl)).elim
           exact(Qg hs (by kernel_rfl)).elim
         refine Q9.c cEq [(1,some 19),(3,some 21)] (by kernel_rfl) (λxs W hw hd K hK'=>?_) ?_
         . simp only [Qd]at hd
           obtain⟨hf1,hf3,_⟩:=hd;simp only [Q5,Act.put,sb_,sz_,ss_]at hK'|-;rw [yf1]at hf1;rw [yf3]at hf3;simp only [hf1]at hK'|-;obtain⟨h3e,c3⟩:=hf3;simp only [h3e]at hK'|-;have hsz:=hw.size;go_simp;refine(HBY W hw c3).mono ?_;rintro e9 w9 ⟨u9,A9,n9,c9,rfl,hc9,r9,d9⟩;have hR:=u9;refine hK' (_) (w9) (hw.trans' u9) (QW yM 4 (by kernel_rfl) _ λj hs hy=>?_) (by rw [yf4];(try simp only [↓reduceIte]);try exact⟨A9,n9,c9,rfl,hc9,r9.mono λb hb=>by omega,d9⟩);by_cases hp:j∈[0,1,2,5,7,8,9,10,11]
           . exact yP j _ _ _ hp hy
           by_cases hj:13<=j
           . rw [yN j _ _ hj];trivial
           simp only [List.mem_cons,List.not_mem_nil,or_false]at hp;rcases(show j=3\/j=4\/j=6\/j=12 by omega)with rfl|rfl|rfl|rfl
           . exact(Qg hs (by kernel_rfl)).elim
           . exact(Qg hs (by kernel_rfl)).elim
           . exact(Qg hs (by kernel_rfl)).elim
           exact(Qg hs (by kernel_rfl)).elim
         refine Q9.p cEq yM [] (by kernel_rfl) (by kernel_rfl) (λxs W hw hd K hK'=>?_) ?_
         . simp only [Q5,Act.put,sb_,sz_,ss_]at hK'|-
           go_simp;exact hK' _ (by rw [yf5];exact if_pos rfl)
         refine Q9.c cEq [(0,some 18),(4,some 22),(5,some 23)] (by kernel_rfl) (λxs W hw hd K hK'=>?_) ?_
         . simp only [Qd]at hd
           obtain⟨hf0,hf4,hf5,_⟩:=hd;simp only [Q5,Act.put,sb_,sz_,ss_]at hK'|-;rw [yf0]at hf0;rw [yf4]at hf4;rw [yf5]at hf5;simp only [hf0,hf5]at hK'|-;obtain⟨A5,n5,c5,h5e,h5c,r5,d5⟩:=hf4;simp only [h5e]at hK'|-;have hsz:=hw.size;go_simp;refine(HFD W hw A5 n5 c5 h5c r5).mono ?_;rintro e9 w9 ⟨v9,rfl,d9,f9⟩;have hR:=f9;refine hK' (_) (w9) (hw.trans f9 (λ_ _ h=>h.elim)) (λj hs hy=>?_) (by rw [yf6];(try simp only [↓reduceIte]);try exact⟨rfl,d9⟩);by_cases hj:13<=j
           . rw [yN j _ _ hj];trivial
           (have hj':j=0\/j=1\/j=2\/j=3\/j=4\/j=5\/j=6\/j=7\/j=8\/j=9\/j=10\/j=11\/j=12:=by omega);rcases hj' with rfl|rfl|rfl|rfl|rfl|rfl|rfl|rfl|rfl|rfl|rfl|rfl|rfl
           . rw [yf0]at hy|-;(try simp only [↓reduceIte,OfNat.ofNat_ne_ofNat,Nat.reduceEqDiff]);exact hy
           . rw [yf1]at hy|-;(try simp only [↓reduceIte,OfNat.ofNat_ne_ofNat,Nat.reduceEqDiff]);exact hy
           . rw [yf2]at hy|-;(try simp only [↓reduceIte,OfNat.ofNat_ne_ofNat,Nat.reduceEqDiff]);exact hy
           . exact(Qg hs (by kernel_rfl)).elim
           . rw [yf4]at hy|-;(try simp only [↓reduceIte,OfNat.ofNat_ne_ofNat,Nat.reduceEqDiff]);obtain⟨q1,q2,q3,q4,q5,q6,q7⟩:=hy;exact⟨q1,q2,q3,q4,q5,q6.fresh hR,q7.fresh hR⟩
           . rw [yf5]at hy|-;(try simp only [↓reduceIte,OfNat.ofNat_ne_ofNat,Nat.reduceEqDiff]);exact hy
           . exact(Qg hs (by kernel_rfl)).elim
           . exact(Qg hs (by kernel_rfl)).elim
           . exact(Qg hs (by kernel_rfl)).elim
           . exact(Qg hs (by kernel_rfl)).elim
           . exact(Qg hs (by kernel_rfl)).elim
           . exact(Qg hs (by kernel_rfl)).elim
           exact(Qg hs (by kernel_rfl)).elim
         refine Q9.p cEq yM [(6,some 24)] (by kernel_rfl) (by kernel_rfl) (λxs W hw hd K hK'=>?_) ?_
         . simp only [Qd]at hd
           obtain⟨hf6,_⟩:=hd;simp only [Q5,Act.put,sb_,sz_,ss_]at hK'|-;rw [yf6]at hf6;obtain⟨h8e,h8d⟩:=hf6;obtain⟨v8,hv8⟩:=nm_ (JL (xs 6));rw [<-hv8]at h8e;have HV8:=hd_ hv8;clear hv8;simp only [h8e]at hK'|-;go_simp;exact hK' _ (by rw [yf7];(try simp only [↓reduceIte,OfNat.ofNat_ne_ofNat,Nat.reduceEqDiff]);exact(by simp [HV8.out]))
         refine Q9.p cEq yM [(7,some 17)] (by kernel_rfl) (by kernel_rfl) (λxs W hw hd K hK'=>?_) ?_
         . simp only [Qd]at hd
           obtain⟨hf7,_⟩:=hd;simp only [Q5,Act.put,sb_,sz_,ss_]at hK'|-;rw [yf7]at hf7;simp only [hf7]at hK'|-;go_simp;exact hK' _ (by rw [yf8];(try simp only [↓reduceIte,OfNat.ofNat_ne_ofNat,Nat.reduceEqDiff]);exact(by simp))
         refine Q9.p cEq yM [(7,some 17)] (by kernel_rfl) (by kernel_rfl) (λxs W hw hd K hK'=>?_) ?_
         . simp only [Qd]at hd
           obtain⟨hf7,_⟩:=hd;simp only [Q5,Act.put,sb_,sz_,ss_]at hK'|-;rw [yf7]at hf7;simp only [hf7]at hK'|-;go_simp;exact hK' _ (by rw [yf9];exact if_pos rfl)
         refine Q9.p cEq yM [(8,some 25)] (by kernel_rfl) (by kernel_rfl) (λxs W hw hd K hK'=>?_) ?_
         . simp only [Qd]at hd
           obtain⟨hf8,_⟩:=hd;simp only [Q5,Act.put,sb_,sz_,ss_]at hK'|-;rw [yf8]at hf8;simp only [hf8]at hK'|-;go_simp;exact hK' _ (by rw [yf10];(try simp only [↓reduceIte,OfNat.ofNat_ne_ofNat,Nat.reduceEqDiff]);exact(by simp))
         refine Q9.p cEq yM [(9,some 26)] (by kernel_rfl) (by kernel_rfl) (λxs W hw hd K hK'=>?_) ?_
         . simp only [Qd]at hd
           obtain⟨hf9,_⟩:=hd;simp only [Q5,Act.put,sb_,sz_,ss_]at hK'|-;rw [yf9]at hf9;simp only [hf9]at hK'|-;go_simp;exact hK' _ (by rw [yf11];exact if_pos rfl)
         exact Q9.nil
       intro xs W hw hd;rw [cEq]at hw;simp only [YD]at hd;obtain⟨fe0,fe1,fe2,fe3,fe4,fe5,fe6,fe7,fe8,fe9,fe10,fe11,_⟩:=hd;have fe0:=fe0 (by first|kernel_rfl|trivial);rw [yf0]at fe0;have fe1:=fe1 (by first|kernel_rfl|trivial);rw [yf1]at fe1;have fe2:=fe2 (by first|kernel_rfl|trivial);rw [yf2]at fe2;have fe4:=fe4 (by first|kernel_rfl|trivial);rw [yf4]at fe4;have fe5:=fe5 (by first|kernel_rfl|trivial);rw [yf5]at fe5;have fe6:=fe6 (by first|kernel_rfl|trivial);rw [yf6]at fe6;have fe7:=fe7 (by first|kernel_rfl|trivial);rw [yf7]at fe7;have fe8:=fe8 (by first|kernel_rfl|trivial);rw [yf8]at fe8;have fe9:=fe9 (by first|kernel_rfl|trivial);rw [yf9]at fe9;have fe10:=fe10 (by first|kernel_rfl|trivial);rw [yf10]at fe10;have fe11:=fe11 (by first|kernel_rfl|trivial);rw [yf11]at fe11;clear fe3;simp only [Q5,Act.put,sb_,sz_,ss_];generalize xs 0=xv0 at *;generalize xs 1=xv1 at *;generalize xs 2=xv2 at *;generalize xs 3=xv3 at *;generalize xs 4=xv4 at *;generalize xs 5=xv5 at *;generalize xs 6=xv6 at *;generalize xs 7=xv7 at *;generalize xs 8=xv8 at *;generalize xs 9=xv9 at *;generalize xs 10=xv10 at *;generalize xs 11=xv11 at *;subst fe0;subst fe1;subst fe2;subst fe5;subst fe7;subst fe8;subst fe9;subst fe10;subst fe11;clear yf0 yf1 yf2 yf3 yf4 yf5 yf6 yf7 yf8 yf9 yf10 yf11 yf12 yN yR yM yP cEq;have HD3:=hd_ (show Q4 W FF g bs a3 from by obtain⟨_,_,_,_,_,_,d⟩:=fe4;exact d);obtain⟨h8e,h8d⟩:=fe6;obtain⟨v8,hv8⟩:=nm_ (JL xv6);simp only [<-hv8]at h8d|-;have N8:=hd_ h8d;have UW:=hd_ (U1.trans' hw);clear h8e h8d hv8 fe4
       cases q with
       | inl e9 =>
         have he9:=HQN e9 rfl;obtain rfl:er=e9:=HER.out;have HE9:=hd_ he9;clear he9;go_wp2_with fail;refine(JB er _ _ _ (by simpa using(Blk.new W 24 #[.int .i64 er]).cell 0) HE9.out).mono ?_;rintro e w3 ⟨rfl,rfl⟩;simp only [Qa];exact⟨rfl,hR _ _ ⟨UW.alloc _,rfl⟩⟩
       | inr x =>
         obtain rfl:er=0:=HER.out;obtain⟨A9,n9,c9,rfl,hc9,r9⟩:=id N8.out;have R9:=hd_ r9;have HC9:=hd_ hc9;clear r9 hc9;go_wp2_with fail;refine(JC _ _ _ (by simpa using(Blk.new W 24 #[.int .i64 0]).cell 0)).mono ?_;rintro e w4 ⟨rfl,hw4⟩;have F4:=hd_ (show Q0 W w4 by rw [hw4];exact(Upd.refl _ _).alloc _);clear hw4;go_wp2_with fail;(try go_ret);refine hR.out _ _ ⟨UW.trans' (F4.mono λ_ _ h=>h.elim),A9,n9,c9,rfl,HC9.out,(R9.fresh F4.out).mono λb hb=>by have:=U1.size;omega,?_⟩;(have h:=(HD3.fresh F4.out).mono (G:=F) λb hb=>by rw [HFF.out]at hb;exact hb.1);rw [HA3.out,HA2.out,HA1.out]at h;rw [show at_+(k+V.2.1+l)=at_+k+V.2.1+l by omega];exact h
     simp only [if_neg hb]at hR;obtain⟨er,her⟩:=nm_ ((3:Int))
     have HBY:=hd_ (λW (hW:Upd (λb=>b=g) w1 W) (hc:Q4 W FF g bs a2)=>(HBY0 W a2 l hW hc (by have:=HL.out;omega)).mono λe w' h=>(show Upd (λb=>b=g) W w'/\e=Qa er from by
       rw [if_neg hb]at h;rw [her]
       exact h))
     have HR2:=hd_ (show ∀w',Upd (λb=>b=g) w w'->R (Qa er) w' from λw' h=>hR _ _ ⟨h,by rw [her]⟩);clear hR hb her HBY0;go_wp2_with fail;obtain⟨Cw,cEq⟩:=exC (λW=>Upd (λb=>b=g) w1 W);obtain⟨Y,yA⟩:=exY [λxs W=>(xs 0) = .agg #[.int .i64 (lg:Nat),.slice TA n c],λxs W=>(xs 1) = .agg #[.pointer (some ⟨g,0,none⟩)],λxs W=>(xs 2) = .agg #[.pointer (some ⟨g,0,none⟩)],λxs W=>(xs 3) = .int .i64 (l:Nat)/\Q4 W FF g bs a2,λxs W=>False,λxs W=>(xs 5) = .int .i64 (m:Nat),λxs W=>False,λxs W=>False,λxs W=>False,λxs W=>False,λxs W=>False,λxs W=>False,λxs W=>Q4 W FF g bs a1];have yf0:=yA 0;have yf1:=yA 1;have yf2:=yA 2;have yf3:=yA 3;have yf4:=yA 4;have yf5:=yA 5;have yf6:=yA 6;have yf7:=yA 7;have yf8:=yA 8;have yf9:=yA 9;have yf10:=yA 10;have yf11:=yA 11;have yf12:=yA 12;simp only [List.getD_cons_zero,List.getD_cons_succ]at yf0 yf1 yf2 yf3 yf4 yf5 yf6 yf7 yf8 yf9 yf10 yf11 yf12;(have yN:∀j xs W,13<=j->Y j xs W=True:=λj xs W hj=>by rw [yA,Y6 _ _ _ hj])
     have yP:∀j xs W W',j∈[0,1,2,4,5,6,7,8,9,10,11]->Y j xs W->Y j xs W':=by
       intro j xs W W' hj hy;simp only [List.mem_cons,List.not_mem_nil,or_false]at hj;(rcases hj with rfl|rfl|rfl|rfl|rfl|rfl|rfl|rfl|rfl|rfl|rfl<;>(rw [yA]at hy|-;exact hy))
     have yM:Jt [[0],[1],[2],[3],[],[5],[],[],[],[],[],[],[]] Y:=by
       intro j xs xs' W hh hy;by_cases hj:13<=j
       . rw [yN j _ _ hj];trivial
       (have hj':j=0\/j=1\/j=2\/j=3\/j=4\/j=5\/j=6\/j=7\/j=8\/j=9\/j=10\/j=11\/j=12:=by omega);rcases hj' with rfl|rfl|rfl|rfl|rfl|rfl|rfl|rfl|rfl|rfl|rfl|rfl|rfl;(all_goals(rw [yA]at hy|-;(try simp only [List.getD_cons_zero,List.getD_cons_succ]at hy|-);repeat rw [<-hh]));(all_goals first|exact hy|decide)
     clear yA
     have yR:∀j xs,12<=j->Y j xs (w1.drew):=by
       intro j xs hj;rcases(show j=12\/13<=j by omega)with rfl|hj
       . rw [yf12];exact HCU.out
       rw [yN _ _ _ hj];trivial
     refine Jm (PP:=λch W=>ch=[{ v:=.iface 24 (.int .i64 er),recovered:=false }]/\Upd (λb=>b=g) w1 W) Cw (λj=>if j=3 then [4,6]else if j=12 then [3,4,6]else []) Y [(0,some 18),(1,some 19),(2,some 20),(3,some 21),(4,some 22),(5,some 23),(6,some 24),(7,some 17),(8,some 25),(9,some 26),(10,some 7),(11,some 6)] (by kernel_rfl) (by kernel_rfl) (by kernel_rfl) (by rw [cEq];exact(Upd.refl _ _).drew) (λj hj=>yR j _ hj) ?_ ?_ (λch a W hd h=>by obtain⟨rfl,h2⟩:=h;exact⟨hd,HR2 _ (U1.trans' h2)⟩)
     . refine Q9.p cEq yM [] (by kernel_rfl) (by kernel_rfl) (λxs W hw hd K hK'=>?_) ?_
       . simp only [Q5,Act.put,sb_,sz_,ss_]at hK'|-
         have cl:=HCB W hw;obtain⟨cl0,cl1,cl2⟩:=cl;go_simp;exact hK' _ (by rw [yf0];exact if_pos rfl)
       refine Q9.p cEq yM [] (by kernel_rfl) (by kernel_rfl) (λxs W hw hd K hK'=>?_) ?_
       . simp only [Q5,Act.put,sb_,sz_,ss_]at hK'|-
         have cl:=HCB W hw;obtain⟨cl0,cl1,cl2⟩:=cl;go_simp;exact hK' _ (by rw [yf1];exact if_pos rfl)
       refine Q9.p cEq yM [] (by kernel_rfl) (by kernel_rfl) (λxs W hw hd K hK'=>?_) ?_
       . simp only [Q5,Act.put,sb_,sz_,ss_]at hK'|-
         have cl:=HCB W hw;obtain⟨cl0,cl1,cl2⟩:=cl;go_simp;exact hK' _ (by rw [yf2];exact if_pos rfl)
       refine Q9.c cEq [(2,some 20),(12,none)] (by kernel_rfl) (λxs W hw hd K hK'=>?_) ?_
       . simp only [Qd]at hd
         obtain⟨hf2,hf12,_⟩:=hd;simp only [Q5,Act.put,sb_,sz_,ss_]at hK'|-;rw [yf2]at hf2;rw [yf12]at hf12;simp only [hf2]at hK'|-;go_simp;refine(HNU W hw hf12).mono ?_;rintro e9 w9 ⟨u9,rfl,c9⟩;have hR:=u9;refine hK' (_) (w9) (hw.trans' u9) (QW yM 3 (by kernel_rfl) _ λj hs hy=>?_) (by rw [yf3];(try simp only [↓reduceIte]);try exact⟨by first|rfl|trivial,c9⟩);by_cases hp:j∈[0,1,2,4,5,6,7,8,9,10,11]
         . exact yP j _ _ _ hp hy
         by_cases hj:13<=j
         . rw [yN j _ _ hj];trivial
         simp only [List.mem_cons,List.not_mem_nil,or_false]at hp;rcases(show j=3\/j=12 by omega)with rfl|rfl
         . exact(Qg hs (by kernel_rfl)).elim
         exact(Qg hs (by kernel_rfl)).elim
       refine Q9.c cEq [(1,some 19),(3,some 21)] (by kernel_rfl) (λxs W hw hd K hK'=>?_) ?_
       . simp only [Qd]at hd
         obtain⟨hf1,hf3,_⟩:=hd;simp only [Q5,Act.put,sb_,sz_,ss_]at hK'|-;rw [yf1]at hf1;rw [yf3]at hf3;simp only [hf1]at hK'|-;obtain⟨h3e,c3⟩:=hf3;simp only [h3e]at hK'|-;have hsz:=hw.size;go_simp;refine(HBY W hw c3).mono ?_;rintro e9 w9 ⟨u9,rfl⟩;simp only [Qa];exact⟨rfl,hw.trans' u9⟩
       refine Q9.p cEq yM [] (by kernel_rfl) (by kernel_rfl) (λxs W hw hd K hK'=>?_) ?_
       . simp only [Q5,Act.put,sb_,sz_,ss_]at hK'|-
         go_simp;exact hK' _ (by rw [yf5];exact if_pos rfl)
       refine Q9.c cEq [(0,some 18),(4,some 22),(5,some 23)] (by kernel_rfl) (λxs W hw hd K hK'=>?_) ?_
       . simp only [Qd]at hd
         obtain⟨hf0,hf4,hf5,_⟩:=hd;simp only [Q5,Act.put,sb_,sz_,ss_]at hK'|-;rw [yf0]at hf0;rw [yf4]at hf4;rw [yf5]at hf5;simp only [hf0,hf5]at hK'|-;exact hf4.elim
       refine Q9.c cEq [(6,some 24)] (by kernel_rfl) (λxs W hw hd K hK'=>?_) ?_
       . simp only [Qd]at hd
         obtain⟨hf6,_⟩:=hd;simp only [Q5,Act.put,sb_,sz_,ss_]at hK'|-;rw [yf6]at hf6;exact hf6.elim
       refine Q9.c cEq [(7,some 17)] (by kernel_rfl) (λxs W hw hd K hK'=>?_) ?_
       . simp only [Qd]at hd
         obtain⟨hf7,_⟩:=hd;simp only [Q5,Act.put,sb_,sz_,ss_]at hK'|-;rw [yf7]at hf7;exact hf7.elim
       refine Q9.c cEq [(7,some 17)] (by kernel_rfl) (λxs W hw hd K hK'=>?_) ?_
       . simp only [Qd]at hd
         obtain⟨hf7,_⟩:=hd;simp only [Q5,Act.put,sb_,sz_,ss_]at hK'|-;rw [yf7]at hf7;exact hf7.elim
       refine Q9.c cEq [(8,some 25)] (by kernel_rfl) (λxs W hw hd K hK'=>?_) ?_
       . simp only [Qd]at hd
         obtain⟨hf8,_⟩:=hd;simp only [Q5,Act.put,sb_,sz_,ss_]at hK'|-;rw [yf8]at hf8;exact hf8.elim
       refine Q9.c cEq [(9,some 26)] (by kernel_rfl) (λxs W hw hd K hK'=>?_) ?_
       . simp only [Qd]at hd
         obtain⟨hf9,_⟩:=hd;simp only [Q5,Act.put,sb_,sz_,ss_]at hK'|-;rw [yf9]at hf9;exact hf9.elim
       exact Q9.nil
     intro xs W hw hd;rw [cEq]at hw;simp only [YD]at hd;obtain⟨fe0,fe1,fe2,fe3,fe4,fe5,fe6,fe7,fe8,fe9,fe10,fe11,_⟩:=hd;have fe0:=fe0 (by first|kernel_rfl|trivial);rw [yf0]at fe0;have fe1:=fe1 (by first|kernel_rfl|trivial);rw [yf1]at fe1;have fe2:=fe2 (by first|kernel_rfl|trivial);rw [yf2]at fe2;have fe4:=fe4 (by first|kernel_rfl|trivial);rw [yf4]at fe4;have fe5:=fe5 (by first|kernel_rfl|trivial);rw [yf5]at fe5;have fe6:=fe6 (by first|kernel_rfl|trivial);rw [yf6]at fe6;have fe7:=fe7 (by first|kernel_rfl|trivial);rw [yf7]at fe7;have fe8:=fe8 (by first|kernel_rfl|trivial);rw [yf8]at fe8;have fe9:=fe9 (by first|kernel_rfl|trivial);rw [yf9]at fe9;have fe10:=fe10 (by first|kernel_rfl|trivial);rw [yf10]at fe10;have fe11:=fe11 (by first|kernel_rfl|trivial);rw [yf11]at fe11;clear fe3;simp only [Q5,Act.put,sb_,sz_,ss_];generalize xs 0=xv0 at *;generalize xs 1=xv1 at *;generalize xs 2=xv2 at *;generalize xs 3=xv3 at *;generalize xs 4=xv4 at *;generalize xs 5=xv5 at *;generalize xs 6=xv6 at *;generalize xs 7=xv7 at *;generalize xs 8=xv8 at *;generalize xs 9=xv9 at *;generalize xs 10=xv10 at *;generalize xs 11=xv11 at *;subst fe0;subst fe1;subst fe2;subst fe5;clear yf0 yf1 yf2 yf3 yf4 yf5 yf6 yf7 yf8 yf9 yf10 yf11 yf12 yN yR yM yP cEq;(first|exact fe3.elim|exact fe4.elim|exact fe6.elim)
   simp only [if_neg h0]at HNU0 hR;obtain⟨er,her⟩:=nm_ (V.2.2);rw [<-her]at HNU0 hR;have HNU:=hd_ (λW (hW:Upd (λb=>b=g) w1 W) (hc:Q4 W FF g bs a1)=>(HNU0 W hW hc).mono λe w' h=>(show Upd (λb=>b=g) W w'/\e=Qa er from h));have HR2:=hd_ (show ∀w',Upd (λb=>b=g) w w'->R (Qa er) w' from λw' h=>hR _ _ ⟨h,rfl⟩);clear hR h0 her HNU0 HBY0 hVl;go_wp2_with fail;obtain⟨Cw,cEq⟩:=exC (λW=>Upd (λb=>b=g) w1 W);obtain⟨Y,yA⟩:=exY [λxs W=>(xs 0) = .agg #[.int .i64 (lg:Nat),.slice TA n c],λxs W=>(xs 1) = .agg #[.pointer (some ⟨g,0,none⟩)],λxs W=>(xs 2) = .agg #[.pointer (some ⟨g,0,none⟩)],λxs W=>False,λxs W=>False,λxs W=>(xs 5) = .int .i64 (m:Nat),λxs W=>False,λxs W=>False,λxs W=>False,λxs W=>False,λxs W=>False,λxs W=>False,λxs W=>Q4 W FF g bs a1];have yf0:=yA 0;have yf1:=yA 1;have yf2:=yA 2;have yf3:=yA 3;have yf4:=yA 4;have yf5:=yA 5;have yf6:=yA 6;have yf7:=yA 7;have yf8:=yA 8;have yf9:=yA 9;have yf10:=yA 10;have yf11:=yA 11;have yf12:=yA 12;simp only [List.getD_cons_zero,List.getD_cons_succ]at yf0 yf1 yf2 yf3 yf4 yf5 yf6 yf7 yf8 yf9 yf10 yf11 yf12;(have yN:∀j xs W,13<=j->Y j xs W=True:=λj xs W hj=>by rw [yA,Y6 _ _ _ hj])
   have yP:∀j xs W W',j∈[0,1,2,3,4,5,6,7,8,9,10,11]->Y j xs W->Y j xs W':=by
     intro j xs W W' hj hy;simp only [List.mem_cons,List.not_mem_nil,or_false]at hj;(rcases hj with rfl|rfl|rfl|rfl|rfl|rfl|rfl|rfl|rfl|rfl|rfl|rfl<;>(rw [yA]at hy|-;exact hy))
   have yM:Jt [[0],[1],[2],[],[],[5],[],[],[],[],[],[],[]] Y:=by
     intro j xs xs' W hh hy;by_cases hj:13<=j
     . rw [yN j _ _ hj];trivial
     (have hj':j=0\/j=1\/j=2\/j=3\/j=4\/j=5\/j=6\/j=7\/j=8\/j=9\/j=10\/j=11\/j=12:=by omega);rcases hj' with rfl|rfl|rfl|rfl|rfl|rfl|rfl|rfl|rfl|rfl|rfl|rfl|rfl;(all_goals(rw [yA]at hy|-;(try simp only [List.getD_cons_zero,List.getD_cons_succ]at hy|-);repeat rw [<-hh]));(all_goals first|exact hy|decide)
   clear yA
   have yR:∀j xs,12<=j->Y j xs (w1.drew):=by
     intro j xs hj;rcases(show j=12\/13<=j by omega)with rfl|hj
     . rw [yf12];exact HCU.out
     rw [yN _ _ _ hj];trivial
   refine Jm (PP:=λch W=>ch=[{ v:=.iface 24 (.int .i64 er),recovered:=false }]/\Upd (λb=>b=g) w1 W) Cw (λj=>if j=12 then [3,4,6]else []) Y [(0,some 18),(1,some 19),(2,some 20),(3,some 21),(4,some 22),(5,some 23),(6,some 24),(7,some 17),(8,some 25),(9,some 26),(10,some 7),(11,some 6)] (by kernel_rfl) (by kernel_rfl) (by kernel_rfl) (by rw [cEq];exact(Upd.refl _ _).drew) (λj hj=>yR j _ hj) ?_ ?_ (λch a W hd h=>by obtain⟨rfl,h2⟩:=h;exact⟨hd,HR2 _ (U1.trans' h2)⟩)
   . refine Q9.p cEq yM [] (by kernel_rfl) (by kernel_rfl) (λxs W hw hd K hK'=>?_) ?_
     . simp only [Q5,Act.put,sb_,sz_,ss_]at hK'|-
       have cl:=HCB W hw;obtain⟨cl0,cl1,cl2⟩:=cl;go_simp;exact hK' _ (by rw [yf0];exact if_pos rfl)
     refine Q9.p cEq yM [] (by kernel_rfl) (by kernel_rfl) (λxs W hw hd K hK'=>?_) ?_
     . simp only [Q5,Act.put,sb_,sz_,ss_]at hK'|-
       have cl:=HCB W hw;obtain⟨cl0,cl1,cl2⟩:=cl;go_simp;exact hK' _ (by rw [yf1];exact if_pos rfl)
     refine Q9.p cEq yM [] (by kernel_rfl) (by kernel_rfl) (λxs W hw hd K hK'=>?_) ?_
     . simp only [Q5,Act.put,sb_,sz_,ss_]at hK'|-
       have cl:=HCB W hw;obtain⟨cl0,cl1,cl2⟩:=cl;go_simp;exact hK' _ (by rw [yf2];exact if_pos rfl)
     refine Q9.c cEq [(2,some 20),(12,none)] (by kernel_rfl) (λxs W hw hd K hK'=>?_) ?_
     . simp only [Qd]at hd
       obtain⟨hf2,hf12,_⟩:=hd;simp only [Q5,Act.put,sb_,sz_,ss_]at hK'|-;rw [yf2]at hf2;rw [yf12]at hf12;simp only [hf2]at hK'|-;go_simp;refine(HNU W hw hf12).mono ?_;rintro e9 w9 ⟨u9,rfl⟩;simp only [Qa];exact⟨rfl,hw.trans' u9⟩
     refine Q9.c cEq [(1,some 19),(3,some 21)] (by kernel_rfl) (λxs W hw hd K hK'=>?_) ?_
     . simp only [Qd]at hd
       obtain⟨hf1,hf3,_⟩:=hd;simp only [Q5,Act.put,sb_,sz_,ss_]at hK'|-;rw [yf1]at hf1;rw [yf3]at hf3;simp only [hf1]at hK'|-;exact hf3.elim
     refine Q9.p cEq yM [] (by kernel_rfl) (by kernel_rfl) (λxs W hw hd K hK'=>?_) ?_
     . simp only [Q5,Act.put,sb_,sz_,ss_]at hK'|-
       go_simp;exact hK' _ (by rw [yf5];exact if_pos rfl)
     refine Q9.c cEq [(0,some 18),(4,some 22),(5,some 23)] (by kernel_rfl) (λxs W hw hd K hK'=>?_) ?_
     . simp only [Qd]at hd
       obtain⟨hf0,hf4,hf5,_⟩:=hd;simp only [Q5,Act.put,sb_,sz_,ss_]at hK'|-;rw [yf0]at hf0;rw [yf4]at hf4;rw [yf5]at hf5;simp only [hf0,hf5]at hK'|-;exact hf4.elim
     refine Q9.c cEq [(6,some 24)] (by kernel_rfl) (λxs W hw hd K hK'=>?_) ?_
     . simp only [Qd]at hd
       obtain⟨hf6,_⟩:=hd;simp only [Q5,Act.put,sb_,sz_,ss_]at hK'|-;rw [yf6]at hf6;exact hf6.elim
     refine Q9.c cEq [(7,some 17)] (by kernel_rfl) (λxs W hw hd K hK'=>?_) ?_
     . simp only [Qd]at hd
       obtain⟨hf7,_⟩:=hd;simp only [Q5,Act.put,sb_,sz_,ss_]at hK'|-;rw [yf7]at hf7;exact hf7.elim
     refine Q9.c cEq [(7,some 17)] (by kernel_rfl) (λxs W hw hd K hK'=>?_) ?_
     . simp only [Qd]at hd
       obtain⟨hf7,_⟩:=hd;simp only [Q5,Act.put,sb_,sz_,ss_]at hK'|-;rw [yf7]at hf7;exact hf7.elim
     refine Q9.c cEq [(8,some 25)] (by kernel_rfl) (λxs W hw hd K hK'=>?_) ?_
     . simp only [Qd]at hd
       obtain⟨hf8,_⟩:=hd;simp only [Q5,Act.put,sb_,sz_,ss_]at hK'|-;rw [yf8]at hf8;exact hf8.elim
     refine Q9.c cEq [(9,some 26)] (by kernel_rfl) (λxs W hw hd K hK'=>?_) ?_
     . simp only [Qd]at hd
       obtain⟨hf9,_⟩:=hd;simp only [Q5,Act.put,sb_,sz_,ss_]at hK'|-;rw [yf9]at hf9;exact hf9.elim
     exact Q9.nil
   intro xs W hw hd;rw [cEq]at hw;simp only [YD]at hd;obtain⟨fe0,fe1,fe2,fe3,fe4,fe5,fe6,fe7,fe8,fe9,fe10,fe11,_⟩:=hd;have fe0:=fe0 (by first|kernel_rfl|trivial);rw [yf0]at fe0;have fe1:=fe1 (by first|kernel_rfl|trivial);rw [yf1]at fe1;have fe2:=fe2 (by first|kernel_rfl|trivial);rw [yf2]at fe2;have fe3:=fe3 (by first|kernel_rfl|trivial);rw [yf3]at fe3;have fe4:=fe4 (by first|kernel_rfl|trivial);rw [yf4]at fe4;have fe5:=fe5 (by first|kernel_rfl|trivial);rw [yf5]at fe5;have fe6:=fe6 (by first|kernel_rfl|trivial);rw [yf6]at fe6;have fe7:=fe7 (by first|kernel_rfl|trivial);rw [yf7]at fe7;have fe8:=fe8 (by first|kernel_rfl|trivial);rw [yf8]at fe8;have fe9:=fe9 (by first|kernel_rfl|trivial);rw [yf9]at fe9;have fe10:=fe10 (by first|kernel_rfl|trivial);rw [yf10]at fe10;have fe11:=fe11 (by first|kernel_rfl|trivial);rw [yf11]at fe11;simp only [Q5,Act.put,sb_,sz_,ss_];generalize xs 0=xv0 at *;generalize xs 1=xv1 at *;generalize xs 2=xv2 at *;generalize xs 3=xv3 at *;generalize xs 4=xv4 at *;generalize xs 5=xv5 at *;generalize xs 6=xv6 at *;generalize xs 7=xv7 at *;generalize xs 8=xv8 at *;generalize xs 9=xv9 at *;generalize xs 10=xv10 at *;generalize xs 11=xv11 at *;subst fe0;subst fe1;subst fe2;subst fe5;clear yf0 yf1 yf2 yf3 yf4 yf5 yf6 yf7 yf8 yf9 yf10 yf11 yf12 yN yR yM yP cEq;(first|exact fe3.elim|exact fe4.elim|exact fe6.elim)
def QU (L:List Bool):List Value:=L.map Value.bool
@[simp] theorem Q3L (L:List Bool):(QU L).length=L.length:=by simp [QU]
theorem Q82 (L:List Bool):∀u∈QU L,u.oneCell'=true:=by
 intro u hu;obtain⟨_,_,rfl⟩:=List.mem_map.1 hu;rfl
theorem Q0g (A B:List Bool):QU (A++B)=QU A++QU B:=by simp [QU]
theorem Rd.bool {w:World} {F:Nat->Prop} {A:Option Addr} {n:Nat} {L:List Bool} (h:Rd w F A n (QU L)) {k:Nat} (hk:k<n) :
   ∃b o,∃hk':k<L.length,A=some ⟨b,o,none⟩/\b<w.heap.size/\w.cell? ⟨b,o+k,none⟩=some (.bool L[k]):=by
 (have hl:L.length=n:=by have:=h.1;simpa using this);obtain⟨b,o,e,_,hb,hc⟩:=h.at_ hk;exact⟨b,o,by omega,e,hb,by rw [hc];simp [QU,List.getElem?_eq_getElem (show k<L.length by omega)]⟩
def Q0t (w w':World) (v:Value) (L:List Bool):Prop:=Own w' 4 v (QU L)/\Q0 w w'/\∀k,v.ownBlock=some k->w.heap.size<=k
theorem Q83 (v n:Nat) (w:World) (hn:n<=64) (hv:v<2^64) :
   Calls prog 107 #[.int .u64 v,.int .i64 n] w λe w'=>∃s,e = .returned s/\Q0t w w' s (Qr n v):=by
 (have hnI:(n:Int)<=64:=by omega);have HV:=hd_ hv;clear hv hn;refine Q8 λR hR=>?_;go_enter func107,ntmps107;go_wp2_with fail;go_loopg [0,5,6] n (λm x s i wr=>∃(k:Nat),k+m=n/\x = .int .u64 (v / 2^k:Nat)/\i = .int .i64 k/\Q0t w wr s (Qr k v))
 case atStart=>exact⟨0,by omega,by simp,rfl,by simpa [Qr,QU]using Own.nil w 4,Upd.refl _ _,by simp [Value.ownBlock]⟩
 case round =>
   obtain⟨k,hk,rfl,rfl,ho,hf,hob⟩:=hrel;have hsn:=Q5W k v;(have hdv:v / 2^(k+1)=v / 2^k / 2:=by rw [Nat.pow_succ,Nat.div_div_eq_div_mul]);have hxl:v / 2^k<2^64:=Nat.lt_of_le_of_lt (Nat.div_le_self _ _) HV.out;generalize v / 2^k=x at *;(have hx1:(x:Int)<18446744073709551616:=by(have:(2:Nat)^64=18446744073709551616:=by decide);omega);have HS:=hd_ hsn;have HD:=hd_ hdv;have HK:=hd_ hk;have HO:=hd_ ho;have HF:=hd_ hf;have HOB:=hd_ hob;(have hlen:(QU (Qr k v)).length+1<=2^40:=by simp;omega);have HL:=hd_ hlen;clear hsn hdv hk ho hf hob hxl hlen;by_cases hlt:k<n
   . go_wp2_with (at_builtin;go_must (refine Qm _ rfl (.tmp 12) (.tmp 16) _ rfl 4 _ 1 underlying151 Q3j rfl _ _ rfl (HO.alloc _) _ _ _ _ rfl (Rd.one wr 4 _) (by simp [Value.oneCell']) (by omega) HL.out ?_))
     intro v' w1 o1 g1 a1;have f1:Q0 w w1:=(HF.alloc _).grown g1 (λkk hkk hlt=>by have:=HOB kk hkk;omega);have b1:∀kk,v'.ownBlock=some kk->w.heap.size<=kk:=Yj (S:=λkk=>w.heap.size<=kk) a1 HOB.out (by have:=HF.size;simp;omega);have O1:=hd_ o1;have F1:=hd_ f1;have B1:=hd_ b1;clear o1 g1 a1 f1 b1;go_wp2_with fail;go_roundg (gk-1)
     case measure=>have:=HK.out;omega
     case rel =>
       refine⟨k+1,by have:=HK.out;omega,by rw [HD.out];go_num,by go_num,?_,F1.out,B1.out⟩;rw [HS.out,Q0g];have h:=O1.out;(have e:((x:Int)%2 == 1)=(x%2 == 1):=by rw [Bool.eq_iff_iff];simp;omega);simpa [QU,e]using h
   (obtain rfl:k=n:=by have:=HK.out;omega);go_wp2_with fail;(try go_ret);exact hR _ _ ⟨_,rfl,HO.out,HF.out,HOB.out⟩
theorem Xt (F:Nat->Prop) (A:Option Addr) (n c:Nat) (L:List Bool) (w:World) (hr:Rd w F A n (QU L)) (hn:n<=64) :
   Calls prog 257 #[.slice A n c] w λe w'=>e = .returned (.int .u64 (QI L:Nat))/\w=w':=by
 (have hL:L.length=n:=by have:=hr.1;simpa using this);(have hnI:(n:Int)<=64:=by omega);have HR:=hd_ hr;have HL:=hd_ hL;clear hr hL hn;refine Q8 λR hR=>?_;go_enter func257,ntmps257;go_wp2_with fail;go_loopg [3,4] n (λm x i wr=>wr=w/\m<=n/\i = .int .i64 ((m:Int)-1)/\x = .int .u64 (QI (L.drop m):Nat))
 case atStart=>exact⟨rfl,by omega,rfl,by rw [List.drop_of_length_le (by have:=HL.out;omega)];rfl⟩
 case round =>
   obtain⟨rfl,hm,rfl,rfl⟩:=hrel;by_cases h0:0<gk
   . obtain⟨k,rfl⟩:∃k,gk=k+1:=⟨gk-1,by omega⟩
     obtain⟨b,o,hk,rfl,hb,hc⟩:=HR.bool (k:=k) (by omega);have hv:=VZ hk;have hlt:=Zk (L.drop (k+1));have hlt2:2^(L.drop (k+1)).length<=2^63:=Nat.pow_le_pow_right (by omega) (by rw [List.length_drop];have:=HL.out;omega);generalize QI (L.drop (k+1))=y at *;generalize L[k]=bb at *;(have hyI:(y:Int)<9223372036854775808:=by(have:(2:Nat)^63=9223372036854775808:=by decide);omega);have HV:=hd_ hv;(have e1:(((k+1:Nat):Int)-1)=(k:Int):=by omega);(have e2:IntKind.u64.wrap (2*(y:Int))=2*(y:Int):=by rw [IntKind.wrap_u64];omega);(have e3:IntKind.u64.wrap (2*(y:Int)+1)=2*(y:Int)+1:=by rw [IntKind.wrap_u64];omega);clear hv hlt hlt2 hk;rw [e1];(have hkI:(k:Int)<n:=by omega);cases bb
     all_goals
       go_wp2_with fail;go_roundg k
       case measure=>omega
       case rel=>exact⟨rfl,by omega,by go_num,by rw [HV.out];simp;try omega⟩
   (obtain rfl:gk=0:=by omega);go_wp2_with fail;(try go_ret);exact hR _ _ ⟨by simp,rfl⟩
theorem Q3M (F:Nat->Prop) (A:Option Addr) (n c:Nat) (bs:List Nat) (w:World) (hr:Rd w F A n (Q2 bs)) (hlt:∀b∈bs,b<256) (hn:n<=100000) :
   Calls prog 214 #[.slice A n c] w λe w'=>∃s,e = .returned s/\Q0t w w' s (Qf bs):=by
 (have hL:bs.length=n:=by have:=hr.1;simpa using this);(have hnI:(n:Int)<=100000:=by omega);have HR:=hd_ hr.both;have HL:=hd_ hL;have HLT:=hd_ hlt;clear hr hL hn hlt;refine Q8 λR hR=>?_;go_enter func214,ntmps214;go_wp2_with fail;go_loopg [3,4] n (λm s i wr=>∃(k:Nat),k+m=n/\i = .int .i64 k/\Q0t w wr s (Qf (bs.take k)))
 case atStart=>exact⟨0,by omega,rfl,by simpa [Qf,QU]using Own.nil w 4,Upd.refl _ _,by simp [Value.ownBlock]⟩
 case round =>
   obtain⟨k,hk,rfl,ho,hf,hob⟩:=hrel;have HK:=hd_ hk;have HO:=hd_ ho;have HF:=hd_ hf;have HOB:=hd_ hob;clear hk ho hf hob;by_cases hltk:k<n
   . have hkl:k<bs.length:=by have:=HL.out;omega
     obtain⟨b,o,rfl,hF,hb,hc⟩:=(HR.fresh HF.out).at_ hltk;(have hc':wr.cell? ⟨b,o+k,none⟩=some (.int .u8 (bs[k]:Nat)):=by rw [hc];simp [Q2,hkl]);have hx:=HLT bs[k] (List.getElem_mem hkl);have hts:=List.take_succ_eq_append_getElem hkl;generalize bs[k]=x at *;have HTS:=hd_ hts;have hbb:=Q83 x 8 wr (by omega) (by omega);have HBB:=hd_ hbb;(have hxI:(x:Int)<256:=by omega);clear hc hkl hbb hts;go_wp2_with fail;refine HBB.mono ?_;rintro e w1 ⟨s1,rfl,o1,f1,b1⟩;obtain⟨A1,n1,c1,rfl,hn1⟩:=o1.form';have hrd1:=(o1.rd rfl).2.2;rw [<-hn1.out]at hrd1;have O1:=hd_ (HO.fresh f1);have RD1:=hd_ hrd1
     have hlen:(QU (Qf (bs.take k))).length+n1<=2^40:=by
       have h5:=hn1.out;(have h6:(bs.take k).length<=k:=by rw [List.length_take];omega);simp only [Q3L,Ve,Yb]at h5|-;omega
     have HLEN:=hd_ hlen;have F1:=hd_ (HF.trans' f1);clear o1 f1 b1 hn1 hrd1 hlen HBB;go_wp2_with (at_builtin;go_must (refine Qm _ rfl (.tmp 11) (.tmp 17) _ rfl 4 _ 1 underlying151 Q3j rfl _ _ rfl O1.out _ _ _ _ rfl RD1.out (Q82 _) (by omega) HLEN.out ?_));intro v' w2 o2 g2 a2;have f2:Q0 w w2:=F1.grown g2 (λkk hkk hlt=>by have:=HOB kk hkk;omega);have b2:∀kk,v'.ownBlock=some kk->w.heap.size<=kk:=Yj (S:=λkk=>w.heap.size<=kk) a2 HOB.out (by have:=F1.size;exact this);have O2:=hd_ o2;have F2:=hd_ f2;have B2:=hd_ b2;clear o2 g2 a2 f2 b2;go_wp2_with fail;go_roundg (gk-1)
     case measure=>have:=HK.out;omega
     case rel =>
       refine⟨k+1,by have:=HK.out;omega,by go_num,?_,F2.out,B2.out⟩;rw [HTS.out,Kl,JF,Q0Q,List.append_nil,Q0g];exact O2.out
   (obtain rfl:k=n:=by have:=HK.out;omega);have e:bs.take k=bs:=List.take_of_length_le (by have:=HL.out;omega);rw [e]at HO;clear e;go_wp2_with fail;(try go_ret);exact hR _ _ ⟨_,rfl,HO.out,HF.out,HOB.out⟩
def Zi (a:Nat) (bs:List Nat) (e:Ending):Prop :=
  ∃(x:Nat) (q:Int),e = .returned (.tuple #[.int .u64 (x:Nat),.int .i64 q,.int .i64 (Qt bs).2.2])/\((Qt bs).2.2=0->x=(Qt bs).1/\q=(a:Int)+(Qt bs).2.1)
theorem Zi.err {a:Nat} {bs:List Nat} {e:Ending} {x:Int} (hv:(Qt bs).2.2=x) (hx:x≠0) (h:e = .returned (.tuple #[.int .u64 0,.int .i64 (a:Int),.int .i64 x])):Zi a bs e :=
 ⟨0,a,by rw [hv];exact h,λh0=>absurd (hv ▸ h0) hx⟩
theorem Q0h (F:Nat->Prop) (A:Option Addr) (n c:Nat) (cs:List Nat) (a:Nat) (w:World) (hr:Rd w F A n (Q2 cs)) (hlt:∀b∈cs,b<256) (hn:n<=100000) (ha:a<=n) :
   Calls prog 60 #[.slice A n c,.int .i64 (a:Nat)] w λe w'=>Zi a (cs.drop a) e/\w=w':=by
 (have hcL:cs.length=n:=by have:=hr.1;simpa using this);(have hnI:(n:Int)<=100000:=by omega)
 have HCELL:=hd_ (λk (hk:a+k<n)=>show ∃b o z,A=some ⟨b,o,none⟩/\w.cell? ⟨b,o+(a+k),none⟩=some (.int .u8 (z:Nat))/\z=(cs.drop a)[k]?.getD 0/\z<256 from by
   obtain⟨b,o,rfl,_,_,hc⟩:=hr.at_ (k:=a+k) hk;(have hkb:a+k<cs.length:=by omega)
   have hz:(Q2 cs)[a+k]?=some (.int .u8 ((cs[a+k]:Nat):Int)):=by
     simp only [Q2,List.getElem?_map];rw [List.getElem?_eq_getElem hkb];rfl
   rw [hz]at hc
   exact⟨b,o,cs[a+k],rfl,hc,by rw [List.getElem?_drop,List.getElem?_eq_getElem hkb];rfl,hlt _ (List.getElem_mem hkb)⟩)
 obtain⟨N,hN⟩:=nm_ (n-a);(have hL:(cs.drop a).length=N:=by rw [List.length_drop,hcL,hN]);obtain⟨bs,hbs⟩:=nm_ (cs.drop a);rw [<-hbs]at HCELL hL|-;have HAN:=hd_ (show a+N=n by omega);clear hr hlt hcL hbs hN;obtain⟨v1,v2,v3,v4,v5⟩:=Q2G 9 0 0 bs;have hv:YM 9 0 0 bs=Qt bs:=rfl;rw [hv]at v1 v2 v3 v4 v5;have hK9:=Q3N 9 bs;have hKn:=Q2H 9 bs;have hbig:=Q2I 9 bs;have hlow:=Q2J 9 bs;generalize QM 9 bs=K at *;rw [hL]at v2 v3 v4 v5 hKn;simp only [Nat.zero_add,Nat.mul_zero,Nat.pow_zero,Nat.one_mul]at v3 v4 v5;have V1:=hd_ v1;have V2:=hd_ v2;have V3:=hd_ v3;have V4:=hd_ v4;have V5:=hd_ v5;have HBIG:=hd_ hbig;have HLOW:=hd_ hlow;have HL:=hd_ hL;have HKN:=hd_ hKn;have HK9:=hd_ hK9;(have hKI:(K:Int)<=9:=by omega);(have hKnI:(a:Int)+K<=n:=by have:=HAN.out;omega);clear v1 v2 v3 v4 v5 hv hbig hlow hL hKn hn hK9 ha;refine Q8 λR hR=>?_;go_enter func60,ntmps60;go_wp2_with fail;go_loopg [7] K (λmm i wr=>wr=w/\∃k:Nat,k+mm=K/\i = .int .i64 (k:Int))
 case atStart=>exact⟨rfl,0,by omega,rfl⟩
 case round =>
   obtain⟨rfl,k,hk,rfl⟩:=hrel;by_cases hkK:k<K
   . have h9:(k:Int)<9:=by omega
     (have hnn:(a:Int)+k<n:=by omega);obtain⟨b,o,z,rfl,hc,hz,hz8⟩:=HCELL k (by omega);have hb:=HBIG k hkK;rw [<-hz]at hb;(have hzI:(128:Int)<=z:=by omega);have HK:=hd_ hk;have HKK:=hd_ hkK;clear hk hkK hz hb;go_wp2_with fail;go_roundg (gk-1)
     case measure=>have:=HK.out;have:=HKK.out;omega
     case rel=>exact⟨rfl,k+1,by have:=HK.out;have:=HKK.out;omega,by go_num⟩
   (have hkk:k=K:=by omega);subst hkk;clear hkK hk;by_cases h9:k=9
   . subst h9
     clear HCELL;go_wp2_with fail;(try go_ret3);exact hR _ _ ⟨Zi.err (V1 (by first|trivial|rfl)) (by decide) rfl,rfl⟩
   (have h9I:(k:Int)<9:=by have:=HK9.out;omega);have H9:=hd_ h9;clear h9 hKI;by_cases hkn:N<=k
   . have hknI:(n:Int)<=(a:Int)+k:=by have:=HAN.out;omega
     (have hak:(a:Int)+k<=100000:=by omega);have HKN2:=hd_ hkn;clear hkn HCELL hKnI;go_wp2_with fail;(try go_ret3);exact hR _ _ ⟨Zi.err (V2 (by have:=HK9.out;have:=H9.out;omega) HKN2.out) (by decide) rfl,rfl⟩
   (have hknI:(a:Int)+k<n:=by have:=HAN.out;omega);obtain⟨b,o,z,rfl,hc,hz,hz8⟩:=HCELL k (by omega);have hl:=HLOW (by have:=HK9.out;have:=H9.out;omega);rw [<-hz]at hl V3 V4 V5;(have hzI:(z:Int)<128:=by omega);have HKN2:=hd_ hkn;clear hkn hl hz8 hz;by_cases h5:z=0/\0<k
   . obtain⟨rfl,hk0⟩:=h5
     (have hk0I:(0:Int)<k:=by omega);go_wp2_with fail;(try go_ret3);exact hR _ _ ⟨Zi.err (V3 (by have:=HK9.out;have:=H9.out;omega) (by have:=HKN2.out;omega) (by first|exact⟨rfl,hk0⟩|exact hk0|simpa using hk0)) (by decide) rfl,rfl⟩
   (have h5':(0:Int)<k->¬(z:Int)=0:=by omega);(have hk8:(k:Int)<=8:=by omega);have hwin:=hd_ (V5 (by have:=HK9.out;have:=H9.out;omega) (by have:=HKN2.out;omega) h5);have hlim:=hd_ (V4 (by have:=HK9.out;have:=H9.out;omega) (by have:=HKN2.out;omega) h5);obtain⟨T,hT⟩:=nm_ (bs.take (k+1));(have hTl:T.length=k+1:=by rw [hT,List.length_take];have:=HKN2.out;have:=HL.out;omega);(have hTg:∀j,j<=k->T[j]?.getD 0=bs[j]?.getD 0:=λj hj=>by rw [hT,List.getElem?_take_of_lt (by omega)]);have HTG:=hd_ hTg;have HTL:=hd_ hTl;rw [<-hT]at hwin hlim;clear hT hTg hTl;by_cases hk0:(0:Int)<k
   all_goals
     (try have h50:=h5' hk0);go_wp2_with fail;go_loopg [8,9] (k+1) (λmm x i wz=>wz=wr/\mm<=k+1/\i = .int .i64 ((mm:Int)-1)/\x = .int .u64 (JR (T.drop mm):Nat))
     case atStart =>
       refine⟨rfl,Nat.le_refl _,?_,?_⟩
       . congr 1;omega
       rw [List.drop_of_length_le (by have:=HTL.out;omega)];rfl
     case round =>
       obtain⟨rfl,hmk,rfl,rfl⟩:=hrel
       cases gk with
       | zero =>
         rw [List.drop_zero];have hvl:=Q23 T;obtain⟨V,hV⟩:=nm_ (JR T);rw [<-hV]at hvl hwin hlim|-;have hV64:V<2^63:=Nat.lt_of_lt_of_le hvl (Nat.pow_le_pow_right (by omega) (by have:=HTL.out;omega));(have hV64I:(V:Int)<9223372036854775808:=by omega);have h01:((0:Nat):Int)-1=-1:=rfl;clear hV hvl hV64 hc hzI hmk;simp only [h01];by_cases hm:4611686018427387903<V
         . have hmI:(4611686018427387903:Int)<V:=by omega
           have HM:=hd_ hm;clear hm;go_wp2_with fail;(try go_ret3);exact hR _ _ ⟨Zi.err (hlim HM.out) (by decide) rfl,rfl⟩
         (have hmI:(V:Int)<=4611686018427387903:=by omega);have HM:=hd_ hm;have hmd:((4611686018427387903:Int)<V)=False:=eq_false (by omega);have hmd2:decide ((4611686018427387903:Int)<V)=false:=decide_eq_false (by omega);clear hm hV64I hmI;go_wp2_with fail;(try go_ret3);have hw:=hwin (by have:=HM.out;omega);refine hR.out _ _ ⟨⟨V,(a:Int)+k+1,?_,λ_=>?_⟩,rfl⟩
         . rw [hw];rfl
         rw [hw];exact⟨rfl,by simp;omega⟩
       | succ j =>
         obtain⟨b',o',z',he,hcz,hz',hz8⟩:=HCELL j (by omega);cases he;have hvl:=Q23 (T.drop (j+1));have hvd:=Q84 (l:=T) (i:=j) (by have:=HTL.out;omega);rw [HTG.out j (by omega),<-hz']at hvd;obtain⟨V,hV⟩:=nm_ (JR (T.drop (j+1)));obtain⟨V2,hV2⟩:=nm_ (JR (T.drop j));rw [<-hV]at hvl hvd|-;have hV56:V<2^56:=Nat.lt_of_lt_of_le hvl (Nat.pow_le_pow_right (by omega) (by have:=HTL.out;simp;omega));(have hV56I:(V:Int)<72057594037927936:=by omega);(have hjI:((j+1:Nat):Int)-1=j:=by omega);(have hjk:(j:Int)<=8:=by omega);(have hjn:(a:Int)+j<n:=by omega);(have hz8I:(z':Int)<=255:=by omega);have HVD:=hd_ hvd;have HMK:=hd_ hmk;clear hV hV2 hvl hvd hV56 hc hzI hmk hz' hz8;simp only [hjI];go_wp2_with fail;go_roundg j
         case measure=>omega
         case rel =>
           refine⟨rfl,by have:=HMK.out;omega,rfl,?_⟩;rw [HVD.out]
           congr 1
           omega
def Q1y (a most:Nat) (bs:List Nat) (e:Ending):Prop :=
  e = .returned (.tuple #[.int .i64 ((Qn most bs).1:Nat),.int .i64 (if(Qn most bs).2.2=0 then((a+(Qn most bs).2.1:Nat):Int)else(a:Nat)),.int .i64 (Qn most bs).2.2])
theorem Q0i (F:Nat->Prop) (A:Option Addr) (n c:Nat) (cs:List Nat) (a most:Nat) (w:World) (hr:Rd w F A n (Q2 cs)) (hlt:∀b∈cs,b<256) (hn:n<=100000) (ha:a<=n) (hmost:most<=2^40) :
   Calls prog 112 #[.slice A n c,.int .i64 (a:Nat),.int .i64 (most:Nat)] w λe w'=>Q1y a most (cs.drop a) e/\w=w':=by
 have HG:=hd_ (Q0h F A n c cs a w hr hlt hn ha);obtain⟨bs,hbs⟩:=nm_ (cs.drop a);rw [<-hbs]at HG|-;have hsm:(Qt bs).2.2=0->(Qt bs).1<=4611686018427387903:=λ_=>Q24 bs;(have hm0:(0:Int)<=most:=by omega);(have hmI:(most:Int)<=1099511627776:=by omega);(have hwm:IntKind.u64.wrap (most:Int)=most:=by unfold IntKind.wrap;simp [IntKind.bits];omega);clear hr hlt ha hbs hmost;unfold Zi at HG;unfold Q1y;have herr:(Qt bs).2.2≠0->(Qt bs).1=0:=Q18;unfold Qn;generalize Qt bs=V at *;obtain⟨x,u,er⟩:=V;simp only at HG hsm herr|-;refine Q8 λR hR=>?_;go_enter func112,ntmps112;by_cases h0:er=0
 . subst h0
   have h1:=hsm rfl;(have hxI:(x:Int)<4611686018427387904:=by omega);(have hx0:(0:Int)<=x:=by omega);have hwv:IntKind.i64.wrap (x:Int)=x:=IntWalk.i64_in _ (by omega);simp only [true_and,if_true]at hR
   have HG2:=hd_ (HG.mono λe w' h=>(show e = .returned (.tuple #[.int .u64 (x:Nat),.int .i64 ((a:Int)+u),.int .i64 0])/\w=w' from by
     obtain⟨⟨y,q,h1,h2⟩,h3⟩:=h;obtain⟨rfl,rfl⟩:=h2 rfl
     exact⟨h1,h3⟩))
   clear HG hsm herr h1;by_cases hmx:most<x
   . simp only [if_pos hmx]at hR
     (have hmxI:(most:Int)<x:=by omega);(have hx1:(0:Int)<x:=by omega);clear hmx hm0 hmI hx0 hxI hwv;go_wp2_with fail;refine HG2.mono ?_;rintro e w1 ⟨rfl,rfl⟩;go_wp2_with fail;(try go_ret3);exact hR _ _ ⟨by simp,rfl⟩
   simp only [if_neg hmx]at hR;(have hmxI:(x:Int)<=most:=by omega);clear hmx;by_cases hxz:x=0
   . subst hxz
     go_wp2_with fail;refine HG2.mono ?_;rintro e w1 ⟨rfl,rfl⟩;go_wp2_with fail;(try go_ret3);exact hR _ _ ⟨by simp,rfl⟩
   (have hx1:(0:Int)<x:=by omega);clear hxz hm0 hmI hx0 hxI;go_wp2_with fail;refine HG2.mono ?_;rintro e w1 ⟨rfl,rfl⟩;go_wp2_with fail;(try go_ret3);exact hR _ _ ⟨by simp,rfl⟩
 have h1:=herr h0;subst h1;simp only [h0,false_and,if_false]at hR;have H0:=hd_ h0;(have hb:(er != 0)=true:=by simpa using h0);clear hsm herr;go_wp2_with fail;refine HG.mono ?_;rintro e w1 ⟨⟨y,q,rfl,h2⟩,rfl⟩;clear h2;go_wp2_with fail;(try go_ret3);exact hR _ _ ⟨by simp,rfl⟩
def Q25 (F:Nat->Prop) (a n:Nat) (cs:List Nat) (w:World) (e:Ending):Prop :=
  if a+n<=cs.length then ∃B c,e = .returned (.tuple #[.slice B n c,.int .i64 (a+n:Nat),.int .i64 0])/\n<=c/\Rd w F B n (Q2 ((cs.drop a).take n))
  else e = .returned (.tuple #[.slice none 0 0,.int .i64 (a:Nat),.int .i64 3])
theorem Rd.cutAt {w:World} {F:Nat->Prop} {A:Option Addr} {n c a m:Nat} {cs:List Nat} (hr:Rd w F A n (Q2 cs)) (ha:a+m<=n) (hc:n<=c):Rd w F (if c=a then A else A.map (·.add a)) m (Q2 ((cs.drop a).take m)):=by
 have h:=(hr.cut (k:=a) (cap:=c) (by omega) hc).take (k:=m) (by omega);(have e:((Q2 cs).drop a).take m=Q2 ((cs.drop a).take m):=by simp [Q2,List.map_drop,List.map_take])
 rwa [e]at h
theorem Ko (F:Nat->Prop) (A:Option Addr) (n c:Nat) (cs:List Nat) (a m:Nat) (w:World) (hr:Rd w F A n (Q2 cs)) (hc:n<=c) (hn:n<=100000) (ha:a<=n) (hm:m<=2^40) :
   Calls prog 55 #[.slice A n c,.int .i64 (a:Nat),.int .i64 (m:Nat)] w λe w'=>Q25 F a m cs w e/\w=w':=by
 (have hcL:cs.length=n:=by have:=hr.1;simpa using this);(have hnI:(n:Int)<=100000:=by omega);(have haI:(a:Int)<=n:=by omega);(have ha0:(0:Int)<=a:=by omega);(have hm0:(0:Int)<=m:=by omega);(have hcI:(n:Int)<=c:=by omega);have HR:=hd_ (fun(h:a+m<=n)=>hr.cutAt h hc);have HX:=hd_ (And.intro hc ha);refine Q8 λR hR=>?_;unfold Q25 at hR;rw [hcL]at hR;clear hr hc hn ha hcL;go_enter func55,ntmps55;by_cases hk:a+m<=n
 . have hkI:(a:Int)+m<=n:=by omega
   (have hkJ:¬((n:Int)-a<m):=by omega);simp only [if_pos hk]at hR;have HK:=hd_ hk;clear hk;go_wp2_with fail;(all_goals try go_ret3);(all_goals refine hR.out _ _ ⟨⟨_,_,rfl,?_,?_⟩,rfl⟩);(all_goals first|(have:=HX.out;have:=HK.out;omega)|(have h:=HR HK.out;split at h<;>first|exact h|omega))
 (have hkI:(n:Int)-a<m:=by omega);simp only [if_neg hk]at hR;clear hk;go_wp2_with fail;(try go_ret3);exact hR _ _ ⟨rfl,rfl⟩

theorem RdK.cd {w:World} {g n:Nat} {L:List (Nat × Nat)} (h:RdK w (λb=>b=g) 2 (some ⟨g,0,none⟩) n (L.map cd2)) {z:Nat} (hz:z<n) :
   ∃x,L[z]?=some x/\w.cell? ⟨g,z*2,none⟩=some (.int .i64 (x.1:Nat))/\w.cell? ⟨g,z*2+1,none⟩=some (.int .u32 (x.2:Nat)):=by
 obtain⟨b,o,hA,hb,_,hc⟩:=h.2 (by omega);injection hA with hA;injection hA with h1 h2;subst h1 h2;(have hl:z<L.length:=by have:=h.1;rw [List.length_map]at this;omega);have c0:=hc z 0 (by rw [List.length_map];exact hl) (by omega);have c1:=hc z 1 (by rw [List.length_map];exact hl) (by omega);refine⟨L[z],List.getElem?_eq_getElem hl,?_,?_⟩
 . simpa [cd2]using c0
 simpa [cd2]using c1
end Go.Proofs.YtckjdhaflokcgaaGreat
