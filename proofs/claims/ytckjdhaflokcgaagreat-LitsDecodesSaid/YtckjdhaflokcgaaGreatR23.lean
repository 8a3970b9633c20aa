/- Contracts and plain lemmas, part 23. Conditions: none beyond those of each. -/
import Derived.Test.YtckjdhaflokcgaaGreatR22
set_option maxHeartbeats 4000000
set_option linter.unusedVariables false
set_option linter.unusedSimpArgs false
set_option linter.unnecessarySimpa false
set_option maxRecDepth 100000
namespace Go.Proofs.YtckjdhaflokcgaaGreat
open Go.RowKit Go.Proofs.Tryz
def J4 (F:Nat->Prop) (g:Nat) (bs:List Nat) (q:Int ⊕ (List Nat × List Int × Nat)) (w:World) (e:Ending) (w':World):Prop :=
  Upd (λb=>b=g) w w'/\match q with
    | .inl er=>e = .returned (.tuple #[.slice none 0 0,.slice none 0 0,.int .i64 er])
    | .inr (x,t,u)=>∃A n c B m d,e = .returned (.tuple #[.slice A n c,.slice B m d,.int .i64 0])/\n<=c/\m<=d/\Rd w' (λb=>w.heap.size<=b) A n (Q2 x)/\Rd w' (λb=>w.heap.size<=b) B m (Q7 t)/\Q4 w' F g bs u
theorem Q8b (F G:Nat->Prop) (g tn tc:Nat) (TA:Option Addr) (tree:List Int) (bs:List Nat) (at_:Nat) (w:World) (hcu:Q4 w F g bs at_) (hF:∀b,F b->b≠g) (hrt:Rd w G TA tn (Q7 tree)) (htn:tn<=2^40) (er:Int) (hh:Y2 (bs.drop at_) = .inl er) :
   Calls prog 29 #[.pointer (some ⟨g,0,none⟩),.slice TA tn tc] w (J4 F g bs (.inl er) w):=by
 have hmf:∀(fn:Fn) (first cap:Array Value) (w:World),(Instr.makeFunc fn first cap).run prog w = .ok (.func fn first cap) w:=λ_ _ _ _=>rfl;obtain⟨w0,H,hw0,hH,f0,bo,bt,be⟩:=Q3h w 22 #[.slice none 0 0] 33 #[.slice none 0 0] 24 #[.int .i64 0];have HCL:=hd_ (ZO TA tn tc (Q7 tree) w0 (hrt.fresh f0) (by intro u hu;obtain⟨x,_,rfl⟩:=List.mem_map.1 hu;rfl) htn);have HHD:=hd_ (λW pr tv (hW:Q4 W (λb=>F b/\b<w.heap.size) g bs at_) (hb:Blk W pr 101 #[.pointer (some ⟨g,0,none⟩),tv]) (hp:pr≠g)=>Vu _ g pr tv bs at_ W hW (λb hb=>hF b hb.1) hb hp);unfold YP at HHD;rw [hh]at HHD;simp only at HHD;(have hgH:g<H:=by rw [hH];exact hcu.lt);have HCU:=hd_ (hcu.both.fresh f0);have BO:=hd_ bo;have BT:=hd_ bt;have BE:=hd_ be;have F0:=hd_ f0;have HW:=hd_ hw0;have HH:=hd_ hH;have HG:=hd_ hgH;have HTL:=hd_ (show tree.length=tn by have:=hrt.1;simpa using this);(have hsz1:(w.alloc (.cells #[.slice none 0 0] 22)).heap.size=H+1:=by simp [hH]);(have hsz2:((w.alloc (.cells #[.slice none 0 0] 22)).alloc (.cells #[.slice none 0 0] 33)).heap.size=H+1+1:=by simp [hH]);clear hcu hF hrt htn hw0 hH f0 bo bt be hgH hh;refine Q8 λR hR=>?_;unfold J4 at hR;go_enter_defers func29,ntmps29;go_upto_region 1 with fail;simp only [hsz1,hsz2,<-HH.out,<-HW.out];clear hsz1 hsz2;go_wp2_with fail;refine HCL.mono ?_;rintro e w1 ⟨v,rfl,ov,f1,hv⟩;obtain⟨BA,m,d,rfl,hm⟩:=ov.form';obtain⟨hm4,hmd,hrd⟩:=ov.rd rfl;rw [<-hm4]at hmd hrd;have hrt1:Rd w1 (λb=>w0.heap.size<=b/\b<w1.heap.size) BA m (Q7 tree):=hrd.both.mono λb hb=>⟨hv b hb.1,hb.2⟩;have HRT:=hd_ hrt1;have HMD:=hd_ (And.intro hmd (show m<=2^40\/True from .inr trivial));have F1:=hd_ f1;clear ov f1 hv hm hm4 hmd hrd hrt1 HCL;go_upto_region 3 with fail;obtain⟨pr,hpr⟩:=nm_ (w1.heap.size);obtain⟨w2,hw2⟩:=nm_ (w1.alloc (.cells #[.pointer (some ⟨g,0,none⟩),.slice BA m d] 101));simp only [<-hpr,<-hw2];(have f2:Q0 w1 w2:=by rw [hw2];exact(Upd.refl _ _).alloc _);(have br:Blk w2 pr 101 #[.pointer (some ⟨g,0,none⟩),.slice BA m d]:=by rw [hw2];exact Qb hpr _ _);(have hprH:H+2<pr:=by rw [hpr];have:=F1.size;have:=BE.lt;omega);have HPR:=hd_ hprH;have F2:=hd_ (F1.trans' f2);have BR:=hd_ br;have HRT2:=hd_ (HRT.fresh f2);have HPE:=hd_ hpr;have HD:=hd_ (HHD w2 pr (.slice BA m d) (HCU.fresh (F1.trans' f2)) br (by have:=HG.out;omega));have HF1:=hd_ F1.size;clear hpr hw2 f2 br hprH HHD F1 HRT;go_wp2_with fail;refine HD.mono ?_;rintro e w3 ⟨u3,rfl,her⟩;simp only [Qa];have uu:Upd (λb=>b=g) w0 w3:=(F2.mono (λ_ _ h=>h.elim)).trans' u3;have bo9:=BO.upd uu (by have:=HG.out;omega)
 have bt9:=BT.upd uu (by have:=HG.out;omega);have be9:=BE.upd uu (by have:=HG.out;omega);change Leaves _ _ _ _ _ _ _;refine leaves_cons (f:=41) (args:=#[.pointer (some ⟨H+1+1,0,none⟩),.func (.func 66) #[] #[.pointer (some ⟨H,0,none⟩),.pointer (some ⟨H+1,0,none⟩)]]) (by simp) (by simp [go_sem]) ?_;refine(Yo 66 #[.pointer (some ⟨H,0,none⟩),.pointer (some ⟨H+1,0,none⟩)] (λb=>b=H\/b=H+1) (λW=>Blk W H 22 #[.slice none 0 0]/\Blk W (H+1) 33 #[.slice none 0 0]) (H+1+1) er _ _ be9 (by omega) (λ_ _=>rfl) (Q0S H (H+1) _ _ _ bo9 bt9 (by omega))).mono ?_;rintro e u' w'' ⟨rfl,rfl,w8,u8,b8,rfl⟩;have e8:=(be9.upd u8 (by omega)).set_ 0 (.int .i64 er);have b9:=b8.1.far (p:=⟨H+1+1,0,none⟩) (by simp;omega) (.int .i64 er);have t9:=b8.2.far (p:=⟨H+1+1,0,none⟩) (by simp) (.int .i64 er);have d0:=b9.cell 0;have d1:=t9.cell 0;have d2:=e8.cell 0;simp at d0 d1 d2;show Leaves _ _ _ _ [] .returning _;refine⟨.tuple #[.slice none 0 0,.slice none 0 0,.int .i64 er],?_,hR _ _ ⟨((F0.mono (T:=λb=>b=g) (λ_ _ h=>h.elim)).trans' uu).trans (u8.mono (T:=λb=>b=H\/b=H+1\/b=H+1+1) (λ_ _ h=>by rcases h with h|h;exact .inl h;exact .inr (.inl h)) |>.setCell (p:=⟨H+1+1,0,none⟩) (λ_=>.inr (.inr rfl)) _) (λb hb e=>by have:=HH.out;omega),rfl⟩⟩;simp [results,results29,go_sem,d0,d1,d2]
theorem Qau (F G:Nat->Prop) (g tn tc:Nat) (TA:Option Addr) (tree:List Int) (bs:List Nat) (at_:Nat) (w:World) (hcu:Q4 w F g bs at_) (hF:∀b,F b->b≠g) (hrt:Rd w G TA tn (Q7 tree)) (htn:tn<=2^40) (k fn:Nat) (fo:Bool) (s u0:Nat) (hh:Y2 (bs.drop at_) = .inr (k,fo,s,u0))
   (hix:∀(pr:Nat) W,(Instr.index 105 (.agg #[.func (.func 68) #[.pointer (some ⟨pr,0,none⟩)] #[],.func (.func 69) #[.pointer (some ⟨pr,0,none⟩)] #[],.func (.func 70) #[.pointer (some ⟨pr,0,none⟩)] #[],.func (.func 71) #[.pointer (some ⟨pr,0,none⟩)] #[]]) (.int .i64 (k:Nat))).run prog W = .ok (.func (.func fn) #[.pointer (some ⟨pr,0,none⟩)] #[]) W)
   (hcf:∀args W,(callFunc fn args).run prog W = .ok (.enter fn args) W)
   (q:List Nat × List Int × Nat)
   (HBODY:∀T W pr BA m d,Q4 W (λb=>F b/\b<w.heap.size) g bs (at_+u0)->Blk W pr 101 #[.pointer (some ⟨g,0,none⟩),.slice BA m d]->pr≠g->w.heap.size<=pr->(∀b,T b->w.heap.size<=b/\b≠pr)->Rd W T BA m (Q7 tree)->m<=d->m=tn ->
     Calls prog fn #[.pointer (some ⟨pr,0,none⟩),.agg #[.int .i64 (k:Nat),.bool fo,.int .i64 (s:Nat)]] W (JH T (λb=>F b/\b<w.heap.size) pr g bs (.inr q) W)) :
   Calls prog 29 #[.pointer (some ⟨g,0,none⟩),.slice TA tn tc] w (J4 F g bs (.inr q) w):=by
 have HB0:=hd_ HBODY;clear HBODY;have hmf:∀(fn:Fn) (first cap:Array Value) (w:World),(Instr.makeFunc fn first cap).run prog w = .ok (.func fn first cap) w:=λ_ _ _ _=>rfl;obtain⟨w0,H,hw0,hH,f0,bo,bt,be⟩:=Q3h w 22 #[.slice none 0 0] 33 #[.slice none 0 0] 24 #[.int .i64 0];have HCL:=hd_ (ZO TA tn tc (Q7 tree) w0 (hrt.fresh f0) (by intro u hu;obtain⟨x,_,rfl⟩:=List.mem_map.1 hu;rfl) htn);have HHD:=hd_ (λW pr tv (hW:Q4 W (λb=>F b/\b<w.heap.size) g bs at_) (hb:Blk W pr 101 #[.pointer (some ⟨g,0,none⟩),tv]) (hp:pr≠g)=>Vu _ g pr tv bs at_ W hW (λb hb=>hF b hb.1) hb hp);unfold YP at HHD;rw [hh]at HHD;simp only at HHD;(have hgH:g<H:=by rw [hH];exact hcu.lt);have HCU:=hd_ (hcu.both.fresh f0);have BO:=hd_ bo;have BT:=hd_ bt;have BE:=hd_ be;have F0:=hd_ f0;have HW:=hd_ hw0;have HH:=hd_ hH;have HG:=hd_ hgH;have HTL:=hd_ (show tree.length=tn by have:=hrt.1;simpa using this);(have hsz1:(w.alloc (.cells #[.slice none 0 0] 22)).heap.size=H+1:=by simp [hH]);(have hsz2:((w.alloc (.cells #[.slice none 0 0] 22)).alloc (.cells #[.slice none 0 0] 33)).heap.size=H+1+1:=by simp [hH]);clear hcu hF hrt htn hw0 hH f0 bo bt be hgH hh;refine Q8 λR hR=>?_;unfold J4 at hR;go_enter_defers func29,ntmps29;go_upto_region 1 with fail;simp only [hsz1,hsz2,<-HH.out,<-HW.out];clear hsz1 hsz2;go_wp2_with fail;refine HCL.mono ?_;rintro e w1 ⟨v,rfl,ov,f1,hv⟩;obtain⟨BA,m,d,rfl,hm⟩:=ov.form';obtain⟨hm4,hmd,hrd⟩:=ov.rd rfl;rw [<-hm4]at hmd hrd;have hrt1:Rd w1 (λb=>w0.heap.size<=b/\b<w1.heap.size) BA m (Q7 tree):=hrd.both.mono λb hb=>⟨hv b hb.1,hb.2⟩;have HRT:=hd_ hrt1;have HMD:=hd_ (And.intro hmd (show m<=2^40\/True from .inr trivial));have F1:=hd_ f1;clear ov f1 hv hm hm4 hmd hrd hrt1 HCL;go_upto_region 3 with fail;obtain⟨pr,hpr⟩:=nm_ (w1.heap.size);obtain⟨w2,hw2⟩:=nm_ (w1.alloc (.cells #[.pointer (some ⟨g,0,none⟩),.slice BA m d] 101));simp only [<-hpr,<-hw2];(have f2:Q0 w1 w2:=by rw [hw2];exact(Upd.refl _ _).alloc _);(have br:Blk w2 pr 101 #[.pointer (some ⟨g,0,none⟩),.slice BA m d]:=by rw [hw2];exact Qb hpr _ _);(have hprH:H+2<pr:=by rw [hpr];have:=F1.size;have:=BE.lt;omega);have HPR:=hd_ hprH;have F2:=hd_ (F1.trans' f2);have BR:=hd_ br;have HRT2:=hd_ (HRT.fresh f2);have HPE:=hd_ hpr;have HD:=hd_ (HHD w2 pr (.slice BA m d) (HCU.fresh (F1.trans' f2)) br (by have:=HG.out;omega));have HF1:=hd_ F1.size;clear hpr hw2 f2 br hprH HHD F1 HRT;go_wp2_with fail;refine HD.mono ?_;rintro e w3 ⟨u3,rfl,c3⟩;have U3:=hd_ ((F2.mono (T:=λb=>b=g) (λ_ _ h=>h.elim)).trans' u3);have BR3:=hd_ (BR.upd u3 (by have:=HG.out;have:=HPR.out;omega))
 have HRT3:=hd_ (HRT2.upd u3 (λb _ hb e=>by have:=hb.1;have:=BO.lt;have:=HG.out;omega));have C3:=hd_ c3;clear u3 c3 HD HRT2 BR HCU;go_upto_region 4 with fail;obtain⟨Q,hQ⟩:=nm_ (w3.heap.size);obtain⟨w4,hw4⟩:=nm_ (w3.alloc (.cells #[.int .i64 (k:Nat),.bool fo,.int .i64 (s:Nat)] 41));simp only [<-hQ,<-hw4];(have f4:Q0 w3 w4:=by rw [hw4];exact(Upd.refl _ _).alloc _);(have bq:Blk w4 Q 41 #[.int .i64 (k:Nat),.bool fo,.int .i64 (s:Nat)]:=by rw [hw4];exact Qb hQ _ _);obtain⟨y0,y1,y2⟩:=(bq).cells3;have U4:=hd_ (U3.trans f4 (λ_ _ h=>h.elim));have HB:=hd_ (λq5=>HB0 (λb=>w0.heap.size<=b/\b<w1.heap.size) (w4.drewN q5) pr BA m d ((C3.fresh f4).fresh ((Upd.refl _ _).drewN q5)) ((BR3.fresh f4).fresh ((Upd.refl _ _).drewN q5)) (by have:=HG.out;have:=HPR.out;omega) (by have:=HPR.out;have:=HH.out;omega) (λb hb=>⟨by have:=hb.1;have:=F0.size;omega,by have:=hb.2;have:=HPE.out;omega⟩) ((HRT3.fresh f4).fresh ((Upd.refl _ _).drewN q5)) HMD.1 (by have h1:=HRT3.1;have h2:=HTL.out;simp [Q7]at h1;omega));have HPW:=hd_ (show w0.heap.size<=pr by have:=HPE.out;have:=HF1.out;omega);unfold JH at HB;simp only at HB;clear hQ hw4 f4 bq BR3 HRT3 C3 U3 HB0;refine QJ 13 (by kernel_rfl) (by kernel_rfl) ?_;simp only [List.take_succ_cons,List.take_zero,List.drop_succ_cons,List.drop_zero];(repeat(first|go_big_quiet_step (fail)|quiet_step (fail)));refine wpQuiet_nil ?_;rintro w5 ⟨q5,rfl⟩;go_wp2_with fail;obtain⟨x,t,ux⟩:=q;simp only at HB hR;refine(HB q5).mono ?_;rintro e w6 ⟨u6,⟨A,n,c,rfl,hc,hr⟩,cu,BA,m,d,hmd6,br6,rt6⟩;have uu:Upd (λb=>b=g) w0 w6:=(U4.trans ((Upd.refl (λ_=>False) w4).drewN q5) (λ_ _ h=>h.elim)).trans u6 (λb hb h=>by have:=HPW.out;omega);have bo6:=BO.upd uu (by have:=HG.out;omega);have bt6:=BT.upd uu (by have:=HG.out;omega);have be6:=BE.upd uu (by have:=HG.out;omega);have k0:=bo6.cell 0;have z0:=bo6.frozen 0;simp at k0;have BO6:=hd_ bo6;have BT6:=hd_ bt6;have BE6:=hd_ be6;have BR6:=hd_ br6
 have RT6:=hd_ (rt6.mono (G:=λb=>w0.heap.size<=b) λb hb=>by
   have h4:=U4.size;rcases hb with hb|hb
   . exact hb.1
   simp at hb;omega)
 have HMD6:=hd_ hmd6;have HX6:=hd_ (And.intro hc hr);have CU6:=hd_ cu;have UU:=hd_ uu;have HS6:=hd_ (show w.heap.size<=w4.heap.size by have:=F0.size;have:=U4.size;omega);clear bo6 bt6 be6 br6 rt6 hc hr cu uu u6 HB hmd6 y0 y1 y2;go_upto_region 5 with fail;obtain⟨w7,hw7⟩:=nm_ (w6.setCell ⟨H,0,none⟩ (.slice A n c));simp only [<-hw7];(have u7:Upd (λb=>b=H\/b=H+1\/b=H+1+1) w6 w7:=by rw [hw7];exact(Upd.refl _ _).setCell (p:=⟨H,0,none⟩) (λ_=>.inl rfl) _);(have bo7:Blk w7 H 22 #[.slice A n c]:=by rw [hw7];have:=BO6.set_ 0 (.slice A n c);simpa using this);(have bt7:Blk w7 (H+1) 33 #[.slice none 0 0]:=by rw [hw7];exact BT6.far (by simp) _);(have be7:Blk w7 (H+1+1) 24 #[.int .i64 0]:=by rw [hw7];exact BE6.far (by simp;omega) _);(have br7:Blk w7 pr 101 #[.pointer (some ⟨g,0,none⟩),.slice BA m d]:=by rw [hw7];exact BR6.far (by have:=HPR.out;simp;omega) _);have k0:=bo7.cell 0;have z0:=bo7.frozen 0;have k1:=bt7.cell 0;have z1:=bt7.frozen 0;have k2:=be7.cell 0;have z2:=be7.frozen 0;have k3:=br7.cell 1;simp at k0 k1 k2 k3;have BO7:=hd_ bo7;have HCB:=hd_ (show ∀W,Upd (λb=>b=H\/b=H+1\/b=H+1+1) w7 W->W.cell? ⟨pr,1,none⟩=some (.slice BA m d)from λW hW=>by simpa using(br7.upd hW (by have:=HPR.out;omega)).cell 1);have BT7:=hd_ bt7;have BE7:=hd_ be7;have U7:=hd_ u7;clear hw7 u7 bo7 bt7 be7 br7 BO6 BT6 BE6 BR6;obtain⟨Cw,cEq⟩:=exC (λW=>Upd (λb=>b=H\/b=H+1\/b=H+1+1) w7 W);obtain⟨Y,yA⟩:=exY [λxs W=>(xs 0) = .slice A n c,λxs W=>(xs 1) = .pointer (some ⟨pr,0,none⟩),λxs W=>(xs 2) = .pointer (some ⟨pr,0,none⟩),λxs W=>(xs 3) = .pointer (some ⟨pr,1,none⟩),λxs W=>(xs 4) = .slice BA m d,λxs W=>Blk W H 22 #[.slice A n c],λxs W=>Blk W (H+1) 33 #[.slice BA m d],λxs W=>Blk W (H+1+1) 24 #[.int .i64 0],λxs W=>Blk W H 22 #[.slice A n c],λxs W=>Blk W (H+1) 33 #[.slice none 0 0],λxs W=>Blk W (H+1+1) 24 #[.int .i64 0]];have yf0:=yA 0;have yf1:=yA 1;have yf2:=yA 2;have yf3:=yA 3;have yf4:=yA 4;have yf5:=yA 5;have yf6:=yA 6;have yf7:=yA 7;have yf8:=yA 8;have yf9:=yA 9;have yf10:=yA 10;simp only [List.getD_cons_zero,List.getD_cons_succ]at yf0 yf1 yf2 yf3 yf4 yf5 yf6 yf7 yf8 yf9 yf10;(have yN:∀j xs W,11<=j->Y j xs W=True:=λj xs W hj=>by rw [yA,Y6 _ _ _ hj])
 have yP:∀j xs W W',j∈[0,1,2,3,4]->Y j xs W->Y j xs W':=by
   intro j xs W W' hj hy;simp only [List.mem_cons,List.not_mem_nil,or_false]at hj;(rcases hj with rfl|rfl|rfl|rfl|rfl<;>(rw [yA]at hy|-;exact hy))
 have yM:Jt [[0],[1],[2],[3],[4],[],[],[],[],[],[]] Y:=by
   intro j xs xs' W hh hy;by_cases hj:11<=j
   . rw [yN j _ _ hj];trivial
   (have hj':j=0\/j=1\/j=2\/j=3\/j=4\/j=5\/j=6\/j=7\/j=8\/j=9\/j=10:=by omega);rcases hj' with rfl|rfl|rfl|rfl|rfl|rfl|rfl|rfl|rfl|rfl|rfl;(all_goals(rw [yA]at hy|-;(try simp only [List.getD_cons_zero,List.getD_cons_succ]at hy|-);repeat rw [<-hh]));(all_goals first|exact hy|decide)
 clear yA
 have yR:∀j xs,8<=j->Y j xs (w7.drew):=by
   intro j xs hj;rcases(show j=8\/j=9\/j=10\/11<=j by omega)with rfl|rfl|rfl|hj
   . rw [yf8];exact BO7.drew
   . rw [yf9];exact BT7.drew
   . rw [yf10];exact BE7.drew
   rw [yN _ _ _ hj];trivial
 refine Ya Cw (λj=>if j=9 then [6]else if j=10 then [7]else []) Y [(0,some 31),(1,some 32),(2,some 33),(3,some 34),(4,some 35),(5,none),(6,none),(7,none)] (by kernel_rfl) (by kernel_rfl) (by kernel_rfl) (by rw [cEq];exact(Upd.refl _ _).drew) (λj hj=>yR j _ hj) ?_ ?_
 . refine Q9.p cEq yM [(8,none)] (by kernel_rfl) (by kernel_rfl) (λxs W hw hd K hK'=>?_) ?_
   . simp only [Qd]at hd
     obtain⟨hf8,_⟩:=hd;simp only [Q5,Act.put,sb_,sz_,ss_]at hK'|-;rw [yf8]at hf8;have y0:=hf8.cell 0;simp at y0;go_simp;exact hK' _ (by rw [yf0];exact if_pos rfl)
   refine Q9.p cEq yM [] (by kernel_rfl) (by kernel_rfl) (λxs W hw hd K hK'=>?_) ?_
   . simp only [Q5,Act.put,sb_,sz_,ss_]at hK'|-
     go_simp;exact hK' _ (by rw [yf1];exact if_pos rfl)
   refine Q9.p cEq yM [(1,some 32)] (by kernel_rfl) (by kernel_rfl) (λxs W hw hd K hK'=>?_) ?_
   . simp only [Qd]at hd
     obtain⟨hf1,_⟩:=hd;simp only [Q5,Act.put,sb_,sz_,ss_]at hK'|-;rw [yf1]at hf1;simp only [hf1]at hK'|-;go_simp;exact hK' _ (by rw [yf2];exact if_pos rfl)
   refine Q9.p cEq yM [(2,some 33)] (by kernel_rfl) (by kernel_rfl) (λxs W hw hd K hK'=>?_) ?_
   . simp only [Qd]at hd
     obtain⟨hf2,_⟩:=hd;simp only [Q5,Act.put,sb_,sz_,ss_]at hK'|-;rw [yf2]at hf2;simp only [hf2]at hK'|-;go_simp;exact hK' _ (by rw [yf3];exact if_pos rfl)
   refine Q9.p cEq yM [(3,some 34)] (by kernel_rfl) (by kernel_rfl) (λxs W hw hd K hK'=>?_) ?_
   . simp only [Qd]at hd
     obtain⟨hf3,_⟩:=hd;simp only [Q5,Act.put,sb_,sz_,ss_]at hK'|-;rw [yf3]at hf3;simp only [hf3]at hK'|-;have cl:=HCB W hw;go_simp;exact hK' _ (by rw [yf4];exact if_pos rfl)
   refine Q9.c cEq [(0,some 31),(8,none)] (by kernel_rfl) (λxs W hw hd K hK'=>?_) ?_
   . simp only [Qd]at hd
     obtain⟨hf0,hf8,_⟩:=hd;simp only [Q5,Act.put,sb_,sz_,ss_]at hK'|-;rw [yf0]at hf0;rw [yf8]at hf8;simp only [hf0]at hK'|-;have y0:=hf8.cell 0;have z0:=hf8.frozen 0;simp at y0;have b2:=hf8.set_ 0 (.slice A n c);simp at b2;have B2:=hd_ b2;clear b2;go_simp;have hR:=(show Upd (λb=>b=H) W (W.setCell ⟨H,0,none⟩ (.slice A n c))from(Upd.refl (λb=>b=H) W).setCell (p:=⟨H,0,none⟩) (λ_=>rfl) _);refine hK' (undef) (_) (hw.setCell (p:=⟨H,0,none⟩) (λ_=>.inl rfl) _) (QW yM 5 (by kernel_rfl) _ λj hs hy=>?_) (by rw [yf5];(try simp only [↓reduceIte]);try exact B2.out);by_cases hp:j∈[0,1,2,3,4]
     . exact yP j _ _ _ hp hy
     by_cases hj:11<=j
     . rw [yN j _ _ hj];trivial
     simp only [List.mem_cons,List.not_mem_nil,or_false]at hp;rcases(show j=5\/j=6\/j=7\/j=8\/j=9\/j=10 by omega)with rfl|rfl|rfl|rfl|rfl|rfl
     . exact(Qg hs (by kernel_rfl)).elim
     . exact(Qg hs (by kernel_rfl)).elim
     . exact(Qg hs (by kernel_rfl)).elim
     . rw [yf8]at hy|-;exact B2.out
     . rw [yf9]at hy|-;exact hy.upd hR (by omega)
     rw [yf10]at hy|-;exact hy.upd hR (by omega)
   refine Q9.c cEq [(4,some 35),(9,none)] (by kernel_rfl) (λxs W hw hd K hK'=>?_) ?_
   . simp only [Qd]at hd
     obtain⟨hf4,hf9,_⟩:=hd;simp only [Q5,Act.put,sb_,sz_,ss_]at hK'|-;rw [yf4]at hf4;rw [yf9]at hf9;simp only [hf4]at hK'|-;have y0:=hf9.cell 0;have z0:=hf9.frozen 0;simp at y0;have b2:=hf9.set_ 0 (.slice BA m d);simp at b2;have B2:=hd_ b2;clear b2;go_simp;have hR:=(show Upd (λb=>b=H+1) W (W.setCell ⟨H+1,0,none⟩ (.slice BA m d))from(Upd.refl (λb=>b=H+1) W).setCell (p:=⟨H+1,0,none⟩) (λ_=>rfl) _);refine hK' (undef) (_) (hw.setCell (p:=⟨H+1,0,none⟩) (λ_=>.inr (.inl rfl)) _) (QW yM 6 (by kernel_rfl) _ λj hs hy=>?_) (by rw [yf6];(try simp only [↓reduceIte]);try exact B2.out);by_cases hp:j∈[0,1,2,3,4]
     . exact yP j _ _ _ hp hy
     by_cases hj:11<=j
     . rw [yN j _ _ hj];trivial
     simp only [List.mem_cons,List.not_mem_nil,or_false]at hp;rcases(show j=5\/j=6\/j=7\/j=8\/j=9\/j=10 by omega)with rfl|rfl|rfl|rfl|rfl|rfl
     . rw [yf5]at hy|-;exact hy.upd hR (by omega)
     . exact(Qg hs (by kernel_rfl)).elim
     . exact(Qg hs (by kernel_rfl)).elim
     . rw [yf8]at hy|-;exact hy.upd hR (by omega)
     . exact(Qg hs (by kernel_rfl)).elim
     rw [yf10]at hy|-;exact hy.upd hR (by omega)
   refine Q9.c cEq [(10,none)] (by kernel_rfl) (λxs W hw hd K hK'=>?_) ?_
   . simp only [Qd]at hd
     obtain⟨hf10,_⟩:=hd;simp only [Q5,Act.put,sb_,sz_,ss_]at hK'|-;rw [yf10]at hf10;have y0:=hf10.cell 0;have z0:=hf10.frozen 0;simp at y0;have b2:=hf10.set_ 0 (.int .i64 0);simp at b2;have B2:=hd_ b2;clear b2;go_simp;have hR:=(show Upd (λb=>b=H+1+1) W (W.setCell ⟨H+1+1,0,none⟩ (.int .i64 0))from(Upd.refl (λb=>b=H+1+1) W).setCell (p:=⟨H+1+1,0,none⟩) (λ_=>rfl) _);refine hK' (undef) (_) (hw.setCell (p:=⟨H+1+1,0,none⟩) (λ_=>.inr (.inr rfl)) _) (QW yM 7 (by kernel_rfl) _ λj hs hy=>?_) (by rw [yf7];(try simp only [↓reduceIte]);try exact B2.out);by_cases hp:j∈[0,1,2,3,4]
     . exact yP j _ _ _ hp hy
     by_cases hj:11<=j
     . rw [yN j _ _ hj];trivial
     simp only [List.mem_cons,List.not_mem_nil,or_false]at hp;rcases(show j=5\/j=6\/j=7\/j=8\/j=9\/j=10 by omega)with rfl|rfl|rfl|rfl|rfl|rfl
     . rw [yf5]at hy|-;exact hy.upd hR (by omega)
     . rw [yf6]at hy|-;exact hy.upd hR (by omega)
     . exact(Qg hs (by kernel_rfl)).elim
     . rw [yf8]at hy|-;exact hy.upd hR (by omega)
     . rw [yf9]at hy|-;exact hy.upd hR (by omega)
     exact(Qg hs (by kernel_rfl)).elim
   exact Q9.nil
 intro xs W hw hd;rw [cEq]at hw;simp only [YD]at hd;obtain⟨fe0,fe1,fe2,fe3,fe4,fe5,fe6,fe7,_⟩:=hd;have fe0:=fe0 (by first|kernel_rfl|trivial);rw [yf0]at fe0;have fe1:=fe1 (by first|kernel_rfl|trivial);rw [yf1]at fe1;have fe2:=fe2 (by first|kernel_rfl|trivial);rw [yf2]at fe2;have fe3:=fe3 (by first|kernel_rfl|trivial);rw [yf3]at fe3;have fe4:=fe4 (by first|kernel_rfl|trivial);rw [yf4]at fe4;have fe5:=fe5 (by first|kernel_rfl|trivial);rw [yf5]at fe5;have fe6:=fe6 (by first|kernel_rfl|trivial);rw [yf6]at fe6;have fe7:=fe7 (by first|kernel_rfl|trivial);rw [yf7]at fe7;simp only [Q5,Act.put,sb_,sz_,ss_];generalize xs 0=xv0 at *;generalize xs 1=xv1 at *;generalize xs 2=xv2 at *;generalize xs 3=xv3 at *;generalize xs 4=xv4 at *;generalize xs 5=xv5 at *;generalize xs 6=xv6 at *;generalize xs 7=xv7 at *;subst fe0;subst fe1;subst fe2;subst fe3;subst fe4;clear yf0 yf1 yf2 yf3 yf4 yf5 yf6 yf7 yf8 yf9 yf10 yN yR yM yP cEq;have k0:=fe5.cell 0;have k1:=fe6.cell 0;have k2:=fe7.cell 0;simp at k0 k1 k2;go_wp2_with fail;change Leaves _ _ _ _ _ _ _;refine leaves_cons (f:=41) (args:=#[.pointer (some ⟨H+1+1,0,none⟩),.func (.func 66) #[] #[.pointer (some ⟨H,0,none⟩),.pointer (some ⟨H+1,0,none⟩)]]) (by simp) (by simp [go_sem]) ?_;have d0:=k0;have d1:=k1;have d2:=k2;refine(Jp _ _ _).mono ?_;rintro e u' w'' ⟨rfl,rfl,rfl⟩;have us:=U7.trans' hw;(have hsz0:H+3<=w0.heap.size:=by have:=BE.lt;omega);have hsz4:=U4.size
 refine⟨.tuple #[.slice A n c,.slice BA m d,.int .i64 0],?_,hR _ _ ⟨((F0.mono (T:=λb=>b=g) (λ_ _ h=>h.elim)).trans' UU.out).trans us (λb hb e=>by have:=HH.out;omega),A,n,c,BA,m,d,rfl,HX6.1,HMD6.out,
   (HX6.2.upd us (λb _ hb e=>by simp at hb;omega)).mono λb hb=>by have:=HS6.out;simp at hb;omega,
   (RT6.upd us (λb _ hb e=>by omega)).mono λb hb=>by have:=F0.size;omega,
   (CU6.upd us (by have:=HG.out;omega) (λb _ hb e=>by have:=hb.2;have:=HH.out;omega)).mono λb hb=>hb.1⟩⟩
 simp [results,results29,go_sem,d0,d1,d2]
theorem Qav (F G:Nat->Prop) (g tn tc:Nat) (TA:Option Addr) (tree:List Int) (bs:List Nat) (at_:Nat) (w:World) (hcu:Q4 w F g bs at_) (hF:∀b,F b->b≠g) (hrt:Rd w G TA tn (Q7 tree)) (htn:tn<=2^40) (k fn:Nat) (fo:Bool) (s u0:Nat) (hh:Y2 (bs.drop at_) = .inr (k,fo,s,u0))
   (hix:∀(pr:Nat) W,(Instr.index 105 (.agg #[.func (.func 68) #[.pointer (some ⟨pr,0,none⟩)] #[],.func (.func 69) #[.pointer (some ⟨pr,0,none⟩)] #[],.func (.func 70) #[.pointer (some ⟨pr,0,none⟩)] #[],.func (.func 71) #[.pointer (some ⟨pr,0,none⟩)] #[]]) (.int .i64 (k:Nat))).run prog W = .ok (.func (.func fn) #[.pointer (some ⟨pr,0,none⟩)] #[]) W)
   (hcf:∀args W,(callFunc fn args).run prog W = .ok (.enter fn args) W)
   (q:Int)
   (HBODY:∀T W pr BA m d,Q4 W (λb=>F b/\b<w.heap.size) g bs (at_+u0)->Blk W pr 101 #[.pointer (some ⟨g,0,none⟩),.slice BA m d]->pr≠g->w.heap.size<=pr->(∀b,T b->w.heap.size<=b/\b≠pr)->Rd W T BA m (Q7 tree)->m<=d->m=tn ->
     Calls prog fn #[.pointer (some ⟨pr,0,none⟩),.agg #[.int .i64 (k:Nat),.bool fo,.int .i64 (s:Nat)]] W (JH T (λb=>F b/\b<w.heap.size) pr g bs (.inl q) W)) :
   Calls prog 29 #[.pointer (some ⟨g,0,none⟩),.slice TA tn tc] w (J4 F g bs (.inl q) w):=by
 have HB0:=hd_ HBODY;clear HBODY;have hmf:∀(fn:Fn) (first cap:Array Value) (w:World),(Instr.makeFunc fn first cap).run prog w = .ok (.func fn first cap) w:=λ_ _ _ _=>rfl;obtain⟨w0,H,hw0,hH,f0,bo,bt,be⟩:=Q3h w 22 #[.slice none 0 0] 33 #[.slice none 0 0] 24 #[.int .i64 0];have HCL:=hd_ (ZO TA tn tc (Q7 tree) w0 (hrt.fresh f0) (by intro u hu;obtain⟨x,_,rfl⟩:=List.mem_map.1 hu;rfl) htn);have HHD:=hd_ (λW pr tv (hW:Q4 W (λb=>F b/\b<w.heap.size) g bs at_) (hb:Blk W pr 101 #[.pointer (some ⟨g,0,none⟩),tv]) (hp:pr≠g)=>Vu _ g pr tv bs at_ W hW (λb hb=>hF b hb.1) hb hp);unfold YP at HHD;rw [hh]at HHD;simp only at HHD;(have hgH:g<H:=by rw [hH];exact hcu.lt);have HCU:=hd_ (hcu.both.fresh f0);have BO:=hd_ bo;have BT:=hd_ bt;have BE:=hd_ be;have F0:=hd_ f0;have HW:=hd_ hw0;have HH:=hd_ hH;have HG:=hd_ hgH;have HTL:=hd_ (show tree.length=tn by have:=hrt.1;simpa using this);(have hsz1:(w.alloc (.cells #[.slice none 0 0] 22)).heap.size=H+1:=by simp [hH]);(have hsz2:((w.alloc (.cells #[.slice none 0 0] 22)).alloc (.cells #[.slice none 0 0] 33)).heap.size=H+1+1:=by simp [hH]);clear hcu hF hrt htn hw0 hH f0 bo bt be hgH hh;refine Q8 λR hR=>?_;unfold J4 at hR;go_enter_defers func29,ntmps29;go_upto_region 1 with fail;simp only [hsz1,hsz2,<-HH.out,<-HW.out];clear hsz1 hsz2;go_wp2_with fail;refine HCL.mono ?_;rintro e w1 ⟨v,rfl,ov,f1,hv⟩;obtain⟨BA,m,d,rfl,hm⟩:=ov.form';obtain⟨hm4,hmd,hrd⟩:=ov.rd rfl;rw [<-hm4]at hmd hrd;have hrt1:Rd w1 (λb=>w0.heap.size<=b/\b<w1.heap.size) BA m (Q7 tree):=hrd.both.mono λb hb=>⟨hv b hb.1,hb.2⟩;have HRT:=hd_ hrt1;have HMD:=hd_ (And.intro hmd (show m<=2^40\/True from .inr trivial));have F1:=hd_ f1;clear ov f1 hv hm hm4 hmd hrd hrt1 HCL;go_upto_region 3 with fail;obtain⟨pr,hpr⟩:=nm_ (w1.heap.size);obtain⟨w2,hw2⟩:=nm_ (w1.alloc (.cells #[.pointer (some ⟨g,0,none⟩),.slice BA m d] 101));simp only [<-hpr,<-hw2];(have f2:Q0 w1 w2:=by rw [hw2];exact(Upd.refl _ _).alloc _);(have br:Blk w2 pr 101 #[.pointer (some ⟨g,0,none⟩),.slice BA m d]:=by rw [hw2];exact Qb hpr _ _);(have hprH:H+2<pr:=by rw [hpr];have:=F1.size;have:=BE.lt;omega);have HPR:=hd_ hprH;have F2:=hd_ (F1.trans' f2);have BR:=hd_ br;have HRT2:=hd_ (HRT.fresh f2);have HPE:=hd_ hpr;have HD:=hd_ (HHD w2 pr (.slice BA m d) (HCU.fresh (F1.trans' f2)) br (by have:=HG.out;omega));have HF1:=hd_ F1.size;clear hpr hw2 f2 br hprH HHD F1 HRT;go_wp2_with fail;refine HD.mono ?_;rintro e w3 ⟨u3,rfl,c3⟩;have U3:=hd_ ((F2.mono (T:=λb=>b=g) (λ_ _ h=>h.elim)).trans' u3);have BR3:=hd_ (BR.upd u3 (by have:=HG.out;have:=HPR.out;omega))
 have HRT3:=hd_ (HRT2.upd u3 (λb _ hb e=>by have:=hb.1;have:=BO.lt;have:=HG.out;omega));have C3:=hd_ c3;clear u3 c3 HD HRT2 BR HCU;go_upto_region 4 with fail;obtain⟨Q,hQ⟩:=nm_ (w3.heap.size);obtain⟨w4,hw4⟩:=nm_ (w3.alloc (.cells #[.int .i64 (k:Nat),.bool fo,.int .i64 (s:Nat)] 41));simp only [<-hQ,<-hw4];(have f4:Q0 w3 w4:=by rw [hw4];exact(Upd.refl _ _).alloc _);(have bq:Blk w4 Q 41 #[.int .i64 (k:Nat),.bool fo,.int .i64 (s:Nat)]:=by rw [hw4];exact Qb hQ _ _);obtain⟨y0,y1,y2⟩:=(bq).cells3;have U4:=hd_ (U3.trans f4 (λ_ _ h=>h.elim));have HB:=hd_ (λq5=>HB0 (λb=>w0.heap.size<=b/\b<w1.heap.size) (w4.drewN q5) pr BA m d ((C3.fresh f4).fresh ((Upd.refl _ _).drewN q5)) ((BR3.fresh f4).fresh ((Upd.refl _ _).drewN q5)) (by have:=HG.out;have:=HPR.out;omega) (by have:=HPR.out;have:=HH.out;omega) (λb hb=>⟨by have:=hb.1;have:=F0.size;omega,by have:=hb.2;have:=HPE.out;omega⟩) ((HRT3.fresh f4).fresh ((Upd.refl _ _).drewN q5)) HMD.1 (by have h1:=HRT3.1;have h2:=HTL.out;simp [Q7]at h1;omega));have HPW:=hd_ (show w0.heap.size<=pr by have:=HPE.out;have:=HF1.out;omega);unfold JH at HB;simp only at HB;clear hQ hw4 f4 bq BR3 HRT3 C3 U3 HB0;refine QJ 13 (by kernel_rfl) (by kernel_rfl) ?_;simp only [List.take_succ_cons,List.take_zero,List.drop_succ_cons,List.drop_zero];(repeat(first|go_big_quiet_step (fail)|quiet_step (fail)));refine wpQuiet_nil ?_;rintro w5 ⟨q5,rfl⟩;go_wp2_with fail;refine(HB q5).mono ?_;rintro e w6 ⟨u6,rfl⟩;simp only [Qa];have uu:Upd (λb=>b=g) w0 w6:=(U4.trans ((Upd.refl (λ_=>False) w4).drewN q5) (λ_ _ h=>h.elim)).trans u6 (λb hb h=>by have:=HPW.out;omega);have bo9:=BO.upd uu (by have:=HG.out;omega);have bt9:=BT.upd uu (by have:=HG.out;omega);have be9:=BE.upd uu (by have:=HG.out;omega);change Leaves _ _ _ _ _ _ _;refine leaves_cons (f:=41) (args:=#[.pointer (some ⟨H+1+1,0,none⟩),.func (.func 66) #[] #[.pointer (some ⟨H,0,none⟩),.pointer (some ⟨H+1,0,none⟩)]]) (by simp) (by simp [go_sem]) ?_;refine(Yo 66 #[.pointer (some ⟨H,0,none⟩),.pointer (some ⟨H+1,0,none⟩)] (λb=>b=H\/b=H+1) (λW=>Blk W H 22 #[.slice none 0 0]/\Blk W (H+1) 33 #[.slice none 0 0]) (H+1+1) q _ _ be9 (by omega) (λ_ _=>rfl) (Q0S H (H+1) _ _ _ bo9 bt9 (by omega))).mono ?_;rintro e u' w'' ⟨rfl,rfl,w8,u8,b8,rfl⟩;have e8:=(be9.upd u8 (by omega)).set_ 0 (.int .i64 q);have b9:=b8.1.far (p:=⟨H+1+1,0,none⟩) (by simp;omega) (.int .i64 q);have t9:=b8.2.far (p:=⟨H+1+1,0,none⟩) (by simp) (.int .i64 q);have d0:=b9.cell 0;have d1:=t9.cell 0;have d2:=e8.cell 0;simp at d0 d1 d2;show Leaves _ _ _ _ [] .returning _
 refine⟨.tuple #[.slice none 0 0,.slice none 0 0,.int .i64 q],?_,hR _ _ ⟨((F0.mono (T:=λb=>b=g) (λ_ _ h=>h.elim)).trans' uu).trans (u8.mono (T:=λb=>b=H\/b=H+1\/b=H+1+1) (λ_ _ h=>by rcases h with h|h;exact .inl h;exact .inr (.inl h)) |>.setCell (p:=⟨H+1+1,0,none⟩) (λ_=>.inr (.inr rfl)) _) (λb hb e=>by have:=HH.out;omega),rfl⟩⟩;simp [results,results29,go_sem,d0,d1,d2]
theorem Q2M {l:List Nat} {k s u:Nat} {f:Bool} (h:Y2 l = .inr (k,f,s,u)):s<=131072/\(0<s\/k=0)/\k<4/\(k<2->f=false):=by
 unfold Y2 at h;split at h
 . cases h
 next c t =>
 split at h
 . next h1 =>
   split at h
   . split at h
     . next h3 =>
       injection h with h;injection h with ha h;injection h with hb h;injection h with hc hd;subst ha hb hc hd;refine⟨h3.1,h3.2,Nat.mod_lt _ (by decide),λhk=>?_⟩;simp;omega
     cases h
   cases h
 cases h
def X0 (tree:List Int) (bs:List Nat) (u s:Nat):Int ⊕ (List Nat × List Int × Nat) :=
  if u+s<=bs.length then .inr ((bs.drop u).take s,tree,u+s)else .inl 3
def Q28 (tree:List Int) (bs:List Nat) (u s:Nat):Int ⊕ (List Nat × List Int × Nat) :=
  if u<bs.length then .inr (List.replicate s (bs[u]?.getD 0),tree,u+1)else .inl 3
def Qa7 (fo:Bool) (tree:List Int) (bs:List Nat) (u s:Nat):Int ⊕ (List Nat × List Int × Nat) :=
  match KR fo tree bs u s with
  | .inl er=>.inl er
  | .inr (x,v)=>.inr (x,tree,v)
def JT (k:Nat) (fo:Bool) (tree:List Int) (bs:List Nat) (u s:Nat):Int ⊕ (List Nat × List Int × Nat) :=
  if k=0 then X0 tree bs u s else if k=1 then Q28 tree bs u s else if k=2 then Q3g fo bs u s else Qa7 fo tree bs u s
def Jr (tree:List Int) (bs:List Nat) (at_:Nat):Int ⊕ (List Nat × List Int × Nat) :=
  match Y2 (bs.drop at_)with
  | .inl er=>.inl er
  | .inr (k,fo,s,u0)=>JT k fo tree bs (at_+u0) s
def QaW (tree:List Int) (q:Int ⊕ (List Nat × Nat)):Int ⊕ (List Nat × List Int × Nat) :=
  match q with
  | .inl er=>.inl er
  | .inr (x,u)=>.inr (x,tree,u)
theorem Q1z {T F:Nat->Prop} {g pr m d:Nat} {BA:Option Addr} {tree:List Int} {bs:List Nat} {q:Int ⊕ (List Nat × Nat)} {w w':World} {e:Ending} (h:YE F g bs q w e w')
   (hb:Blk w pr 101 #[.pointer (some ⟨g,0,none⟩),.slice BA m d]) (hpg:pr≠g) (hr:Rd w T BA m (Q7 tree)) (hT:∀b,T b->b≠g) (hmd:m<=d):JH T F pr g bs (QaW tree q) w e w':=by
 obtain⟨hu,h⟩:=h;refine⟨hu.mono λ_ _ h=>.inl h,?_⟩
 cases q with
 | inl er=>exact h
 | inr x =>
   obtain⟨x,u⟩:=x;exact⟨h.1,h.2,BA,m,d,hmd,hb.upd hu hpg,(hr.upd hu λb _ hb e=>hT b hb e).mono λb hb=>.inl hb⟩
theorem JU (F G:Nat->Prop) (g tn tc:Nat) (TA:Option Addr) (tree:List Int) (bs:List Nat) (at_:Nat) (w:World) (hcu:Q4 w F g bs at_) (hF:∀b,F b->b≠g) (hrt:Rd w G TA tn (Q7 tree)) (htn:tn<=2^40) :
   Calls prog 29 #[.pointer (some ⟨g,0,none⟩),.slice TA tn tc] w (J4 F g bs (Jr tree bs at_) w):=by
 unfold Jr
 cases hh:Y2 (bs.drop at_)with
 | inl er=>exact Q8b F G g tn tc TA tree bs at_ w hcu hF hrt htn er hh
 | inr r =>
   obtain⟨k,fo,s,u0⟩:=r;obtain⟨hs,hs0,hk,hfo⟩:=Q2M hh;have hgl:=hcu.lt
   have key:∀fn,(∀(pr:Nat) W,(Instr.index 105 (.agg #[.func (.func 68) #[.pointer (some ⟨pr,0,none⟩)] #[],.func (.func 69) #[.pointer (some ⟨pr,0,none⟩)] #[],.func (.func 70) #[.pointer (some ⟨pr,0,none⟩)] #[],.func (.func 71) #[.pointer (some ⟨pr,0,none⟩)] #[]]) (.int .i64 (k:Nat))).run prog W = .ok (.func (.func fn) #[.pointer (some ⟨pr,0,none⟩)] #[]) W) ->
       (∀args W,(callFunc fn args).run prog W = .ok (.enter fn args) W) ->
       (∀T W pr BA m d,Q4 W (λb=>F b/\b<w.heap.size) g bs (at_+u0)->Blk W pr 101 #[.pointer (some ⟨g,0,none⟩),.slice BA m d]->pr≠g->w.heap.size<=pr->(∀b,T b->w.heap.size<=b/\b≠pr)->Rd W T BA m (Q7 tree)->m<=d->m=tn ->
         Calls prog fn #[.pointer (some ⟨pr,0,none⟩),.agg #[.int .i64 (k:Nat),.bool fo,.int .i64 (s:Nat)]] W (JH T (λb=>F b/\b<w.heap.size) pr g bs (JT k fo tree bs (at_+u0) s) W)) ->
       Calls prog 29 #[.pointer (some ⟨g,0,none⟩),.slice TA tn tc] w (J4 F g bs (JT k fo tree bs (at_+u0) s) w):=by
     intro fn hix hcf hb
     cases hq:JT k fo tree bs (at_+u0) s with
     | inl er=>exact Qav F G g tn tc TA tree bs at_ w hcu hF hrt htn k fn fo s u0 hh hix hcf er (by rw [hq]at hb;exact hb)
     | inr q=>exact Qau F G g tn tc TA tree bs at_ w hcu hF hrt htn k fn fo s u0 hh hix hcf q (by rw [hq]at hb;exact hb)
   have hFg:∀b,(F b/\b<w.heap.size)->b≠g:=λb hb=>hF b hb.1;rcases(show k=0\/k=1\/k=2\/k=3 by omega)with rfl|rfl|rfl|rfl
   . refine key 68 (λ_ _=>by kernel_rfl) (λ_ _=>rfl) λT W pr BA m d h1 h2 h3 h4 h5 h6 h7 h8=>?_
     have:=Q5C (λb=>F b/\b<w.heap.size) g pr s 0 fo (.slice BA m d) bs (at_+u0) W h1 hFg h2 hs;refine this.mono λe w' h=>?_;have h9:=Q1z (T:=T) h h2 h3 h6 (λb hb=>by have:=(h5 b hb).1;omega) h7;unfold JT X0;rw [if_pos rfl];by_cases hk:at_+u0+s<=bs.length
     . rw [if_pos hk]at h9|-;exact h9
     rw [if_neg hk]at h9|-;exact h9
   . refine key 69 (λ_ _=>by kernel_rfl) (λ_ _=>rfl) λT W pr BA m d h1 h2 h3 h4 h5 h6 h7 h8=>?_
     (have hs1:0<s:=by rcases hs0 with h|h;exact h;omega);unfold JT Q28;rw [if_neg (by decide),if_pos rfl];by_cases hk:at_+u0<bs.length
     . rw [if_pos hk]
       exact(Qai (λb=>F b/\b<w.heap.size) g pr s 1 fo (.slice BA m d) bs (at_+u0) W h1 hFg h2 h3 hs1 hs hk).mono λe w' h=>Q1z (T:=T) h h2 h3 h6 (λb hb=>by have:=(h5 b hb).1;omega) h7
     rw [if_neg hk];exact(Qaj (λb=>F b/\b<w.heap.size) g pr s 1 fo (.slice BA m d) bs (at_+u0) W h1 hFg h2 h3 hs1 hs hk).mono λe w' h=>Q1z (T:=T) h h2 h3 h6 (λb hb=>by have:=(h5 b hb).1;omega) h7
   . refine key 70 (λ_ _=>by kernel_rfl) (λ_ _=>rfl) λT W pr BA m d h1 h2 h3 h4 h5 h6 h7 h8=>?_
     unfold JT;rw [if_neg (by decide),if_neg (by decide),if_pos rfl];exact Q86 T (λb=>F b/\b<w.heap.size) g pr s 2 fo (.slice BA m d) bs (at_+u0) W h1 hFg (λb hb=>by omega) h2 h3 hs
   refine key 71 (λ_ _=>by kernel_rfl) (λ_ _=>rfl) λT W pr BA m d h1 h2 h3 h4 h5 h6 h7 h8=>?_;(have hTg:∀b,T b->b≠g:=λb hb=>by have:=(h5 b hb).1;omega);unfold JT;rw [if_neg (by decide),if_neg (by decide),if_neg (by decide)]
   have key2:Calls prog 71 #[.pointer (some ⟨pr,0,none⟩),.agg #[.int .i64 ((3:Nat):Int),.bool fo,.int .i64 (s:Nat)]] W (YE (λb=>F b/\b<w.heap.size) g bs (KR fo tree bs (at_+u0) s) W):=by
     cases hp:J7 (bs.drop (at_+u0))with
     | inl er =>
       (have e:KR fo tree bs (at_+u0) s = .inl er:=by unfold KR;rw [hp]);rw [e];exact Q5P (λb=>F b/\b<w.heap.size) _ g pr s m d 3 fo BA tree bs (at_+u0) er W h1 hFg hTg h2 h3 h6 h7 (by omega) hs hp
     | inr um =>
       obtain⟨u,m0⟩:=um
       cases htd:YN fo tree ((bs.drop (at_+u0+u)).take m0) s with
       | inl er =>
         (have e:KR fo tree bs (at_+u0) s = .inl er:=by unfold KR;rw [hp];simp only;rw [htd]);rw [e];exact Q5Q (λb=>F b/\b<w.heap.size) _ g pr s m d 3 fo BA tree bs (at_+u0) er W h1 hFg hTg h2 h3 h6 h7 (by omega) hs u m0 hp htd
       | inr x =>
         (have e:KR fo tree bs (at_+u0) s = .inr (x,at_+u0+u+m0):=by unfold KR;rw [hp];simp only;rw [htd]);rw [e];exact Q9a (λb=>F b/\b<w.heap.size) _ g pr s m d 3 fo BA tree bs (at_+u0) W h1 hFg hTg h2 h3 h6 h7 (by omega) hs u m0 x hp htd
   exact key2.mono λe w' h=>Q1z (T:=T) h h2 h3 h6 hTg h7
theorem Vl (er:Int) (w:World):Calls prog 23 #[.int .i64 er] w λe w'=>e = .returned (.int .i64 er)/\w=w':=by
 go_enter func23,ntmps23;go_wp2;(try go_ret);exact⟨rfl,rfl⟩
theorem Q0u {xs ys:List Nat} (hx:∀b∈xs,b<256) (hy:∀b∈ys,b<256):((Kh xs).toList == (Kh ys).toList)=decide (xs=ys):=by
 rw [Q0F,Q0F];by_cases h:xs=ys
 . subst h;simp
 rw [decide_eq_false h,beq_eq_false_iff_ne]
 exact λhe=>h (by
   have:=(Q9v hx hy).1 (by unfold Kh;rw [he])
   exact this)
theorem Q9w (F:Nat->Prop) (A:Option Addr) (n c:Nat) (bs want:List Nat) (er bad:Int) (w:World) (hr:Rd w F A n (Q2 bs)) (hx:∀b∈bs,b<256) (hy:∀b∈want,b<256) :
   Calls prog 15 #[.slice A n c,.int .i64 er,.string (Kh want),.int .i64 bad] w λe w'=>e = .returned (.bool (decide (bs=want)&&decide (er=bad)))/\w=w':=by
 have h1:=Vd (c:=c) hr hx;have h3:=Q0u hx hy;have HNO:=hd_ Vl;clear hr hx hy;refine Q8 λR hR=>?_;go_enter func15,ntmps15;by_cases hb:bs=want
 . rw [decide_eq_true hb]at h3 hR
   go_wp2_with fail;refine(HNO er w).mono ?_;rintro e w1 ⟨rfl,rfl⟩;go_wp2_with fail;(try go_ret);exact hR _ _ ⟨by by_cases h:er=bad<;>simp [h],rfl⟩
 rw [decide_eq_false hb]at h3 hR;go_wp2_with fail;(try go_ret);exact hR _ _ ⟨by simp,rfl⟩
theorem Q1A (F G:Nat->Prop) (A TA:Option Addr) (n c tn tc:Nat) (bs x:List Nat) (tree t:List Int) (u:Nat) (w:World) (hr:Rd w F A n (Q2 bs)) (hlt:∀b∈bs,b<256) (hlen:bs.length<=2^32)
   (hrt:Rd w G TA tn (Q7 tree)) (hx:∀b∈x,b<256)
   (HD:∀(F G:Nat->Prop) (g:Nat) (W:World),Q4 W F g bs 0->(∀b,F b->b≠g)->Rd W G TA tn (Q7 tree)->(∀b,G b->b≠g)->(∀b,G b->b<W.heap.size)->Calls prog 29 #[.pointer (some ⟨g,0,none⟩),.slice TA tn tc] W (J4 F g bs (.inr (x,t,u)) W)) :
   Calls prog 40 #[.slice A n c,.slice TA tn tc,.string (Kh x),.int .i64 0,.int .i64 (bs.length-u:Nat)] w λe w'=>e = .returned (.bool true)/\Q0 w w':=by
 have HN:=hd_ (VY F A n c bs w hr hlt hlen);have HRT:=hd_ (show Rd w (λb=>b<w.heap.size) TA tn (Q7 tree)from⟨hrt.1,λh=>by obtain⟨b,o,e,hf,hb,hc⟩:=hrt.2 h;exact⟨b,o,e,hb,hb,hc⟩⟩);have HD:=hd_ HD;have HNO:=hd_ Vl;have h3:=Q0u hx hx;rw [decide_eq_true rfl]at h3;have HX:=hd_ hx;clear hr hlt hlen hrt hx;refine Q8 λR hR=>?_;go_enter func40,ntmps40;go_wp2_with fail;refine HN.mono ?_;rintro e w1 ⟨g,rfl,hg,f1,cu⟩;have HD1:=hd_ (HD _ _ g w1 cu (λb hb=>hb.2) (HRT.fresh f1) (λb hb=>by omega) (λb hb=>Nat.lt_of_lt_of_le hb f1.size));have F1:=hd_ f1;have HG:=hd_ hg;clear f1 cu hg HN HRT HD;go_wp2_with fail;refine HD1.mono ?_;rintro e w2 ⟨u2,X,n',c',B,m',d',rfl,-,-,hrx,-,cu2⟩;have h1:=Vd (c:=c') hrx HX.out;have F2:=hd_ (F1.trans u2 (λb hb h=>by have:=HG.out;omega));have HL:=hd_ (JG _ g bs u w2 cu2);clear u2 hrx cu2 HD1;go_wp2_with fail;refine(HNO 0 w2).mono ?_;rintro e w3 ⟨rfl,rfl⟩;go_wp2_with fail;refine HL.mono ?_;rintro e w4 ⟨rfl,k,rfl⟩;go_wp2_with fail;(try go_ret);exact hR _ _ ⟨by simp,F2.drewN k⟩
theorem KU (F G:Nat->Prop) (A TA:Option Addr) (n c tn tc:Nat) (bs:List Nat) (tree:List Int) (er:Int) (w:World) (hr:Rd w F A n (Q2 bs)) (hlt:∀b∈bs,b<256) (hlen:bs.length<=2^32)
   (hrt:Rd w G TA tn (Q7 tree)) (her:er≠0)
   (HD:∀(F G:Nat->Prop) (g:Nat) (W:World),Q4 W F g bs 0->(∀b,F b->b≠g)->Rd W G TA tn (Q7 tree)->(∀b,G b->b≠g)->(∀b,G b->b<W.heap.size)->Calls prog 29 #[.pointer (some ⟨g,0,none⟩),.slice TA tn tc] W (J4 F g bs (.inl er) W)) :
   Calls prog 40 #[.slice A n c,.slice TA tn tc,.string (Kh []),.int .i64 er,.int .i64 0] w λe w'=>e = .returned (.bool true)/\Q0 w w':=by
 have HN:=hd_ (VY F A n c bs w hr hlt hlen);have HRT:=hd_ (show Rd w (λb=>b<w.heap.size) TA tn (Q7 tree)from⟨hrt.1,λh=>by obtain⟨b,o,e,hf,hb,hc⟩:=hrt.2 h;exact⟨b,o,e,hb,hb,hc⟩⟩);have HD:=hd_ HD;have HNO:=hd_ Vl;have h3:=Q0u (xs:=[]) (ys:=[]) (λ_ h=>by cases h) (λ_ h=>by cases h);rw [decide_eq_true rfl]at h3;have HER:=hd_ her;have h1:=λW=>Vd (F:=λ_=>False) (A:=none) (n:=0) (c:=0) (bs:=[]) (w:=W) (Rd.nil _ _ _) (λ_ h=>by cases h);clear hr hlt hlen hrt;refine Q8 λR hR=>?_;go_enter func40,ntmps40;go_wp2_with fail;refine HN.mono ?_;rintro e w1 ⟨g,rfl,hg,f1,cu⟩;have HD1:=hd_ (HD _ _ g w1 cu (λb hb=>hb.2) (HRT.fresh f1) (λb hb=>by omega) (λb hb=>Nat.lt_of_lt_of_le hb f1.size));have F1:=hd_ f1;have HG:=hd_ hg;clear f1 cu hg HN HRT HD;go_wp2_with fail;refine HD1.mono ?_;rintro e w2 ⟨u2,rfl⟩;have F2:=hd_ (F1.trans u2 (λb hb h=>by have:=HG.out;omega));clear u2 HD1;go_wp2_with fail;refine(HNO er w2).mono ?_;rintro e w3 ⟨rfl,rfl⟩;go_wp2_with fail;(try go_ret);exact hR _ _ ⟨by simp,F2.out⟩
theorem Qu.rd {w w':World} {v:Value} {L:List Nat} (h:Qu w w' v L):∃A c,v = .slice A L.length c/\Rd w' (λ_=>True) A L.length (Q2 L)/\Q0 w w':=by
 obtain⟨A,c,rfl,-,hr⟩:=h.1.form;rw [QL]at hr|-;exact⟨A,c,rfl,hr.mono (λ_ _=>trivial),h.2.1⟩
theorem Q1B:Yu [2,1,0,2] [1,0,3]=0/\Xp [2,1,0,2] [1,0,3] false=0/\Xp [2,1,0,2] [1,0,3] true=11/\Xp [2,1,0,2] [2] false=2:=by decide +kernel
theorem QaX:Yr (Zd [2,1,0,2] [1,0,3]++[true])=[43]:=by decide +kernel
theorem QaY:Y2 [6,9] = .inr (2,true,9,2):=by kernel_rfl
theorem QaL (F G:Nat->Prop) (g:Nat) (W:World) (hc:Q4 W F g [1,3,7] 0) (hF:∀b,F b->b≠g) (hr:Rd W G none 0 (Q7 [])) (h1:∀b,G b->b≠g) (h2:∀b,G b->b<W.heap.size) :
   Calls prog 29 #[.pointer (some ⟨g,0,none⟩),.slice none 0 0] W (J4 F g [1,3,7] (.inr ([7,7,7],[],3)) W) :=
 (show Jr [] [1,3,7] 0 = .inr ([7,7,7],[],3) by kernel_rfl) ▸ JU F G g 0 0 none [] [1,3,7] 0 W hc hF hr (by decide)
theorem Qb4 (TA:Option Addr) (tc:Nat) (F G:Nat->Prop) (g:Nat) (W:World) (hc:Q4 W F g [3,3,1,43] 0) (hF:∀b,F b->b≠g) (hr:Rd W G TA 4 (Q7 [2,1,0,2])) (h1:∀b,G b->b≠g) (h2:∀b,G b->b<W.heap.size) :
   Calls prog 29 #[.pointer (some ⟨g,0,none⟩),.slice TA 4 tc] W (J4 F g [3,3,1,43] (.inr ([1,0,3],[2,1,0,2],4)) W) :=
 (show Jr [2,1,0,2] [3,3,1,43] 0 = .inr ([1,0,3],[2,1,0,2],4) by kernel_rfl) ▸ JU F G g 4 tc TA [2,1,0,2] [3,3,1,43] 0 W hc hF hr (by decide)
theorem QaZ (F G:Nat->Prop) (g:Nat) (W:World) (hc:Q4 W F g [3,3,1,43] 0) (hF:∀b,F b->b≠g) (hr:Rd W G none 0 (Q7 [])) (h1:∀b,G b->b≠g) (h2:∀b,G b->b<W.heap.size) :
   Calls prog 29 #[.pointer (some ⟨g,0,none⟩),.slice none 0 0] W (J4 F g [3,3,1,43] (.inl 12) W) :=
 (show Jr [] [3,3,1,43] 0 = .inl 12 by kernel_rfl) ▸ JU F G g 0 0 none [] [3,3,1,43] 0 W hc hF hr (by decide)
theorem QaM (F G:Nat->Prop) (g:Nat) (W:World) (hc:Q4 W F g [5,1,7] 0) (hF:∀b,F b->b≠g) (hr:Rd W G none 0 (Q7 [])) (h1:∀b,G b->b≠g) (h2:∀b,G b->b<W.heap.size) :
   Calls prog 29 #[.pointer (some ⟨g,0,none⟩),.slice none 0 0] W (J4 F g [5,1,7] (.inl 11) W) :=
 (show Jr [] [5,1,7] 0 = .inl 11 by kernel_rfl) ▸ JU F G g 0 0 none [] [5,1,7] 0 W hc hF hr (by decide)
theorem Qb0 (F G:Nat->Prop) (g:Nat) (W:World) (hc:Q4 W F g [1,0] 0) (hF:∀b,F b->b≠g) (hr:Rd W G none 0 (Q7 [])) (h1:∀b,G b->b≠g) (h2:∀b,G b->b<W.heap.size) :
   Calls prog 29 #[.pointer (some ⟨g,0,none⟩),.slice none 0 0] W (J4 F g [1,0] (.inl 11) W) :=
 (show Jr [] [1,0] 0 = .inl 11 by kernel_rfl) ▸ JU F G g 0 0 none [] [1,0] 0 W hc hF hr (by decide)
theorem QaN (F G:Nat->Prop) (g:Nat) (W:World) (hc:Q4 W F g [0,2,7] 0) (hF:∀b,F b->b≠g) (hr:Rd W G none 0 (Q7 [])) (h1:∀b,G b->b≠g) (h2:∀b,G b->b<W.heap.size) :
   Calls prog 29 #[.pointer (some ⟨g,0,none⟩),.slice none 0 0] W (J4 F g [0,2,7] (.inl 3) W) :=
 (show Jr [] [0,2,7] 0 = .inl 3 by kernel_rfl) ▸ JU F G g 0 0 none [] [0,2,7] 0 W hc hF hr (by decide)
theorem Qb5 (F G:Nat->Prop) (A B:Option Addr) (d:Nat) (w:World) (hr:Rd w F A 4 (Q7 [2,1,0,2])) (hb:Rd w G B 3 (Q2 [1,0,3])):Calls prog 18 #[.slice A 4 4,.slice B 3 d,.bool false,.bool true] w (Yy (some [3,3,1,43]) 0 w):=by
 have h:=Q9h F G A B 4 4 3 d [2,1,0,2] [1,0,3] w hr hb (by decide) (by decide) (by decide) (by decide) Q1B.2.1;rw [QaX]at h;(have e:(3::YL [1,0,3].length++(YL [43].length++[43]))=[3,3,1,43]:=by decide +kernel);rw [e]at h;exact h
theorem Qb6 (F G:Nat->Prop) (A B:Option Addr) (d:Nat) (w:World) (hr:Rd w F A 4 (Q7 [2,1,0,2])) (hb:Rd w G B 3 (Q2 [1,0,3])):Calls prog 18 #[.slice A 4 4,.slice B 3 d,.bool true,.bool true] w (Yy none 11 w):=by
 have h:=Q5g F G A B 4 4 3 d [2,1,0,2] [1,0,3] true true w hr hb (by decide) (by decide) (by decide) (by decide) (by rw [Q1B.2.2.1];decide);rw [Q1B.2.2.1]at h;exact h
theorem Qb7 (F G:Nat->Prop) (A B:Option Addr) (d:Nat) (w:World) (hr:Rd w F A 4 (Q7 [2,1,0,2])) (hb:Rd w G B 1 (Q2 [2])):Calls prog 18 #[.slice A 4 4,.slice B 1 d,.bool false,.bool true] w (Yy none 2 w):=by
 have h:=Q5g F G A B 4 4 1 d [2,1,0,2] [2] false true w hr hb (by decide) (by decide) (by decide) (by decide) (by rw [Q1B.2.2.2];decide);rw [Q1B.2.2.2]at h;exact h
theorem Qb8 (F:Nat->Prop) (g:Nat) (w:World) (hc:Q4 w F g [6,9] 0) (hF:∀b,F b->b≠g):Calls prog 27 #[.pointer (some ⟨g,0,none⟩)] w λe w'=>e = .returned (.tuple #[.agg #[.int .i64 2,.bool true,.int .i64 9],.int .i64 0])/\Upd (λb=>b=g) w w':=by
 refine(Q80 F g [6,9] 0 w hc hF).mono λe w' h=>?_;unfold Q22 at h;rw [List.drop_zero,QaY]at h;exact⟨h.2.1,h.1⟩
theorem Q4C (F:Nat->Prop) (A:Option Addr) (n c:Nat) (l:List Int) (x k:Nat) (w:World) (hr:Rd w F A n (Q7 l)) (ht:Qc l) (hk:k<=11) (hx:x<2^k) :
   Calls prog 163 #[.slice A n c,.int .u64 (x:Nat),.int .i64 (k:Nat)] w λe w'=>Q0 w w'/\e = .returned (.tuple #[.int .i64 ((Jl l x k).1:Nat),.int .i64 ((Jl l x k).2.1:Nat),.int .i64 (Jl l x k).2.2]):=by
 (have hLl:l.length=n:=by have:=hr.1;simpa using this);have HCO:=hd_ (Q6b F A n c l w hr ht);have HCK:=hd_ (λs=>Kc ht s);have HOF:=hd_ (λc (hc:c<n) h0 hcn hxd=>Qaw (x:=x) (n:=k) ht (c:=c) (by rw [hLl];exact hc) h0 hcn hxd);have HNO:=hd_ (fun(h:∀c,c<n->0<(Q6 l c).1->(Q6 l c).1<=k->x / 2^(k-(Q6 l c).1)≠(Q6 l c).2)=>Qax ht hx (λc hc=>h c (by rw [<-hLl];exact hc)));have hx11:x<2048:=Nat.lt_of_lt_of_le hx (Nat.pow_le_pow_right (n:=2) (by decide) hk);(have hn256:n<=256:=by have:=ht.2.1;omega);(have hnI:(n:Int)<=256:=by omega);(have hkI:(k:Int)<=11:=by omega);(have hk0:(0:Int)<=k:=by omega);have HK:=hd_ hk;have HLL:=hd_ hLl
 have hsd:(x:Int) / 2^k=0:=by
   have:x / 2^k=0:=Nat.div_eq_of_lt hx;rw [show(2:Int)^k=((2^k:Nat):Int) by simp,<-Int.natCast_ediv,this];rfl
 clear hr ht hk hx hLl hn256;refine Q8 λR hR=>?_;go_enter func163,ntmps163;go_wp2_with fail;refine HCO.mono ?_;rintro e w1 ⟨f1,g,rfl,hrk,hg⟩;have HRK:=hd_ hrk;have F1:=hd_ f1;clear hrk f1 hg HCO;go_wp2_with fail;go_loopg [11,12] n (λf vi vk wr=>Q0 w1 wr/\∃i:Nat,i+f=n/\vi = .int .i64 (i:Nat)/\∀c,c<i->0<(Q6 l c).1->(Q6 l c).1<=k->x / 2^(k-(Q6 l c).1)≠(Q6 l c).2)
 case atStart=>exact⟨Upd.refl _ _,0,by omega,rfl,λc hc=>absurd hc (Nat.not_lt_zero _)⟩
 case round =>
   obtain⟨fr,i,hi,rfl,hall⟩:=hrel;have FR:=hd_ fr;clear fr;have HA:=hd_ hall;have HI:=hd_ hi;clear hall hi;by_cases hlt:i<n
   . have hlI:(i:Int)<n:=by omega
     obtain⟨y,hy,c0,c1⟩:=(HRK.fresh FR.out).cd hlt
     have hye:y=Q6 l i:=by
       rw [QE,List.getElem?_map,List.getElem?_range (by rw [HLL.out];exact hlt)]at hy;injection hy with hy;exact hy.symm
     subst hye;have hcl:=HCK i;have HO:=hd_ (HOF i hlt)
     have HST:=hd_ (fun(h:0<(Q6 l i).1->(Q6 l i).1<=k->x / 2^(k-(Q6 l i).1)≠(Q6 l i).2)=>show ∀c,c<i+1->0<(Q6 l c).1->(Q6 l c).1<=k->x / 2^(k-(Q6 l c).1)≠(Q6 l c).2 from λc hc=>by
       rcases Nat.lt_or_ge c i with h1|h1
       . exact HA c h1
       (have:c=i:=by omega)
       subst this;exact h)
     obtain⟨T,hT⟩:=nm_ ((Q6 l i).1);obtain⟨V,hV⟩:=nm_ ((Q6 l i).2);simp only [<-hT,<-hV]at c0 c1 hcl HO HST;have hV11:V<2048:=Nat.lt_of_lt_of_le hcl.2 (Nat.pow_le_pow_right (n:=2) (by decide) hcl.1);(have hVI:(V:Int)<=2048:=by omega);(have hTI:(T:Int)<=11:=by omega);(have hwv:IntKind.u64.wrap (V:Int)=V:=by unfold IntKind.wrap;simp [IntKind.bits];omega);have HLT:=hd_ hlt;clear hy hT hV hcl hV11 hlt;by_cases hT0:T=0
     . have h0:decide ((0:Int)<T)=false:=decide_eq_false (by omega)
       have h0n:decide (0<T)=false:=decide_eq_false (by omega);have HS2:=hd_ (HST (λh=>by omega));clear hT0;go_wp2_with fail;go_quiet (fail);go_wp2;go_roundg (gk-1)
       case measure=>have:=HI.out;have:=HLT.out;omega
       case rel=>exact⟨FR.drewN _,i+1,by have:=HI.out;have:=HLT.out;omega,by go_num,HS2.out⟩
     have h0:decide ((0:Int)<T)=true:=decide_eq_true (by omega);have h0n:decide (0<T)=true:=decide_eq_true (by omega);by_cases hTk:T<=k
     . have hTkI:decide ((T:Int)<=k)=true:=decide_eq_true (by omega)
       have hTkn:decide (T<=k)=true:=decide_eq_true (by omega);obtain⟨d,hd⟩:=nm_ (k-T);obtain⟨Y,hY⟩:=nm_ (x / 2^d);(have hwd:IntKind.i64.wrap ((k:Int)-T)=(d:Nat):=by rw [IntWalk.i64_in _ (by omega)];omega);(have hsh:(x:Int) / 2^min d 64=(Y:Nat):=by rw [show min d 64=d by have:=HK.out;omega,hY];simp);rw [<-hd,<-hY]at HO HST;have HP:=hd_ (show 0<T by omega);have HTK:=hd_ hTk;clear hT0 hTk hd hY;by_cases he:Y=V
       . subst he
         rw [HO.out HP.out HTK.out rfl]at hR;clear HO HST hwv;go_wp2_with fail;go_quiet (fail);go_wp2;(try go_ret3);exact hR _ _ ⟨(F1.trans' FR.out).drewN _,rfl⟩
       (have heb:((Y:Int) == (V:Int))=false:=by simp;omega);(have heb2:¬(Y:Int)=V:=by omega);have HS2:=hd_ (HST (λ_ _=>he));clear he HO HST;go_wp2_with fail;go_quiet (fail);go_wp2;go_roundg (gk-1)
       case measure=>have:=HI.out;have:=HLT.out;omega
       case rel=>exact⟨FR.drewN _,i+1,by have:=HI.out;have:=HLT.out;omega,by go_num,HS2.out⟩
     have hTkI:decide ((T:Int)<=k)=false:=decide_eq_false (by omega);have hTkn:decide (T<=k)=false:=decide_eq_false (by omega);have HS2:=hd_ (HST (λ_ h=>absurd h hTk));clear hTk hT0;go_wp2_with fail;go_quiet (fail);go_wp2;go_roundg (gk-1)
     case measure=>have:=HI.out;have:=HLT.out;omega
     case rel=>exact⟨FR.drewN _,i+1,by have:=HI.out;have:=HLT.out;omega,by go_num,HS2.out⟩
   (have him:¬(i:Int)<n:=by omega);(have hin:i=n:=by have:=HI.out;omega);rw [HNO.out (by rw [<-hin];exact HA.out)]at hR;clear hlt hin;go_wp2_with fail;(try go_ret3);exact hR _ _ ⟨F1.trans' FR.out,rfl⟩
theorem ZJ {l:List Int} {v j:Nat}:∀ {m t:Nat},QG l v t (m+j)=match QG l v t m with
   | none=>none
   | some (x,t')=>JA x (QG l v t' j)
 | 0,t=>by rw [Nat.zero_add,QG];exact(Q1k _).symm
 | m+1,t=>by
   rw [show m+1+j=m+j+1 by omega]
   cases hs:Jz l v t with
   | none=>rw [Zm _ hs,Zm _ hs]
   | some q =>
     obtain⟨s,t'⟩:=q
     rw [ZP _ hs,ZP _ hs,ZJ (m:=m) (t:=t')]
     cases QG l v t' m with
     | none=>rfl
     | some q=>obtain⟨x,t2⟩:=q;simp only [Q1l];rfl
theorem Q9x {l:List Int} (ht:Qc l) (v:Nat):Jz l v 0=none:=by
 unfold Jz;have h:=(Q0l ht (x:=0) (n:=0) (by simp)).2.1;rw [if_neg];simp only [Nat.zero_min,Nat.sub_self,Nat.pow_zero,Nat.mod_one,Nat.div_one];omega
theorem Xu {l:List Int} (ht:Qc l) (v j:Nat):QG l v 0 (j+1)=none:=Zm _ (Q9x ht v)
theorem Q6c {l:List Int} {v C m t s t':Nat} {x:List Nat} (h:QG l v C m=some (x,t)) (hs:Jz l v t=some (s,t')):QG l v C (m+1)=some (x++[s],t'):=by
 rw [ZJ,h];simp only;rw [ZP 0 hs];simp [QG,JA]
theorem Q6d {l:List Int} (ht:Qc l) {v C m n:Nat} {x y:List Nat} (h:QG l v C m=some (x,0)) (h':QG l v C n=some (y,0)):m=n:=by
 rcases Nat.lt_trichotomy m n with h1|h1|h1
 . obtain⟨j,rfl⟩:∃j,n=m+(j+1):=⟨n-m-1,by omega⟩
   rw [ZJ,h]at h';simp only [Xu ht]at h';cases h'
 . exact h1
 obtain⟨j,rfl⟩:∃j,m=n+(j+1):=⟨m-n-1,by omega⟩;rw [ZJ,h']at h;simp only [Xu ht]at h;cases h
theorem Q8c {l:List Int} (ht:Qc l) {v C m n t:Nat} {x y:List Nat} (h:QG l v C m=some (x,t)) (h0:t≠0) (hs:Jz l v t=none) (h':QG l v C n=some (y,0)):False:=by
 rcases Nat.lt_trichotomy m n with h1|h1|h1
 . obtain⟨j,rfl⟩:∃j,n=m+(j+1):=⟨n-m-1,by omega⟩
   rw [ZJ,h]at h';simp only [Zm j hs]at h';cases h'
 . subst h1
   rw [h]at h';injection h' with h';injection h' with _ h2;exact h0 h2
 obtain⟨j,rfl⟩:∃j,m=n+(j+1):=⟨m-n-1,by omega⟩;rw [ZJ,h']at h;simp only [Xu ht]at h;cases h
theorem Q8d {l:List Int} {bs:List Nat} (hz:(bs.getLast?).getD 0=0) (n:Nat):Jb l bs n=none:=by
 unfold Jb;rw [if_pos hz]
theorem Q8e {l:List Int} (ht:Qc l) {bs x:List Nat} (hz:(bs.getLast?).getD 0≠0) (h:QG l (Qj bs) (Y0 bs) x.length=some (x,0)) (n:Nat):Jb l bs n=if x.length=n then some x else none:=by
 unfold Jb;rw [if_neg hz];by_cases hn:x.length=n
 . subst hn
   rw [if_pos rfl];simp only [h]
 rw [if_neg hn];split
 . next h2=>exact absurd (Q6d ht h h2) hn
 rfl
theorem Q6e {l:List Int} (ht:Qc l) {bs x:List Nat} {t:Nat} (hz:(bs.getLast?).getD 0≠0) (h:QG l (Qj bs) (Y0 bs) x.length=some (x,t)) (h0:t≠0) (hs:Jz l (Qj bs) t=none) (n:Nat):Jb l bs n=none:=by
 unfold Jb;rw [if_neg hz];split
 . next h2=>exact(Q8c ht h h0 hs h2).elim
 rfl
theorem Q9y {l:List Int} {v t k:Nat} (hk:k=min t 11):(Jl l (v / 2^(t-k)%2^k) k).2.2=0->Jz l v t=some ((Jl l (v / 2^(t-k)%2^k) k).1,t-(Jl l (v / 2^(t-k)%2^k) k).2.1):=by
 subst hk;unfold Jl Jz;intro h;split at h
 . next h1=>rw [if_pos h1,if_pos h1]
 simp at h
theorem Q6f {l:List Int} {v t k:Nat} (hk:k=min t 11):(Jl l (v / 2^(t-k)%2^k) k).2.2≠0->Jz l v t=none:=by
 subst hk;unfold Jl Jz;intro h;split at h
 . exact absurd rfl h
 next h1=>rw [if_neg h1]
theorem Qay {l:List Int} (ht:Qc l) {x n:Nat} (hx:x<2^n) (h:(Jl l x n).2.2=0):(Jl l x n).1<256/\0<(Jl l x n).2.1/\(Jl l x n).2.1<=n:=by
 unfold Jl at h|-;split at h
 . next h1 =>
   rw [if_pos h1];obtain⟨h2,h3,_⟩:=Q0l ht hx;exact⟨by have:=ht.2.1;simp only;omega,h3,h1⟩
 simp at h
theorem Q9z (l:List Int) (x n:Nat):(Jl l x n).2.2=0\/(Jl l x n).2.2=3:=by
 unfold Jl;split
 . exact .inl rfl
 exact .inr rfl
end Go.Proofs.YtckjdhaflokcgaaGreat
