/- Contracts and plain lemmas, part 3. Conditions: none beyond those of each. -/
import Derived.Test.YtckjdhaflokcgaaGreatR2
import Derived.Sort.QuietIn
set_option maxHeartbeats 4000000
set_option linter.unusedVariables false
set_option linter.unusedSimpArgs false
set_option linter.unnecessarySimpa false
set_option maxRecDepth 100000
namespace Go.Proofs.YtckjdhaflokcgaaGreat
open Go.RowKit Go.Proofs.Tryz
theorem Q9J (f:Nat):∀(i n:Nat) (l:List Nat),(YM f i n l).2.2≠0->(YM f i n l).1=0:=by
 induction f with
 | zero=>intro i n l _;rfl
 | succ f ih =>
   intro i n l h;rcases l with _|⟨x,xs⟩
   . rfl
   simp only [YM]at h|-;split
   . next h1=>rw [if_pos h1]at h;exact ih _ _ _ h
   next h1 =>
   rw [if_neg h1]at h;split
   . rfl
   next h2 =>
   rw [if_neg h2]at h;split
   . rfl
   next h3=>rw [if_neg h3]at h;exact absurd rfl h
theorem Q18 {l:List Nat} (h:(Qt l).2.2≠0):(Qt l).1=0:=Q9J _ _ _ _ h
theorem Q6u (pe pf px pc:Addr) (u:FrameMode) (w:World) (he:w.cell? pe=some (.int .i64 0)) :
   CallsD prog 216 #[.pointer (some pe),.pointer (some pf),.pointer (some px),.pointer (some pc)] u w λe u' w'=>u'=u/\(e = .returned (.tuple #[])/\w'=w):=by
 go_enter_d func216,ntmps216;go_wp2;go_end0;exact⟨rfl,rfl⟩
theorem Q6v (g H:Nat) (at_ a':Nat) (x er:Int) (her:(er == 0)=false) (A:Option Addr) (n c:Nat) (u:FrameMode) (w:World)
   (b0:Blk w H 46 #[.pointer (some ⟨g,0,none⟩)]) (b1:Blk w (H+1) 80 #[.int .u64 x]) (b2:Blk w (H+1+1) 24 #[.int .i64 er]) (b3:Blk w (H+1+1+1) 3 #[.int .i64 at_])
   (bg:Blk w g 96 #[.slice A n c,.int .i64 a']) (hg:g<H) :
   CallsD prog 216 #[.pointer (some ⟨H+1+1,0,none⟩),.pointer (some ⟨H+1+1+1,0,none⟩),.pointer (some ⟨H+1,0,none⟩),.pointer (some ⟨H,0,none⟩)] u w λe u' w'=>u'=u/\(e = .returned (.tuple #[]) /\
     w'=(w.setCell ⟨H+1,0,none⟩ (.int .u64 0)).setCell ⟨g,1,none⟩ (.int .i64 at_)):=by
 have c0:=b0.cell0;have c1:=b1.cell0;have c2:=b2.cell0;have c3:=b3.cell0;have z1:=b1.frozen 0;have zg:=bg.frozen 1;have g1:=bg.cell 1;simp at g1;(have her2:¬er=0:=by simpa using her);go_enter_d func216,ntmps216;go_wp2;go_end0;exact⟨rfl,rfl⟩
theorem Q8v (F:Nat->Prop) (g pc:Nat) (bs:List Nat) (at_:Nat) (w:World) (hcu:Q4 w F g bs at_)
   (bc:Blk w pc 46 #[.pointer (some ⟨g,0,none⟩)]) (hF:∀b,F b->b≠g) :
   Calls prog 167 #[.pointer (some ⟨g,0,none⟩),.func (.func 168) #[] #[.pointer (some ⟨pc,0,none⟩)]] w λe w' =>
     e = .returned (.tuple #[.int .u64 ((Qt (bs.drop at_)).1:Nat),.int .i64 (Qt (bs.drop at_)).2.2])/\Upd (λb=>b=g) w w' /\
       Q4 w' F g bs (if(Qt (bs.drop at_)).2.2=0 then at_+(Qt (bs.drop at_)).2.1 else at_):=by
 have hmf:∀(fn:Fn) (first cap:Array Value) (w:World),(Instr.makeFunc fn first cap).run prog w = .ok (.func fn first cap) w:=λ_ _ _ _=>rfl;have hg:=hcu.lt
 have hat:w.cell? ⟨g,1,none⟩=some (.int .i64 at_):=by
   obtain⟨A,c,hb,_⟩:=hcu;simpa using hb.cell 1
 (have hat9:at_<=bs.length:=by obtain⟨A,c,_,_,_,h,_⟩:=hcu;exact h);have HAT9:=hd_ hat9;have HV0:=hd_ (λh:(Qt (bs.drop at_)).2.2≠0=>Q18 h);have hb1':=λW (hW:Q0 w W)=>Q9n (λb=>F b/\b<w.heap.size) g pc bs at_ W (hcu.both.fresh hW) (bc.fresh hW) (λb hb=>hF b hb.1);have HB1:=hd_ hb1';have HCU:=hd_ hcu;have HBC:=hd_ bc;clear hcu bc hb1' hat9;generalize Qt (bs.drop at_)=V at *;obtain⟨v,k,er⟩:=V;simp only at HB1 HV0|-;have HV1:=hd_ (λh:er≠0=>(by rw [HV0.out h];rfl:((v:Nat):Int)=0));clear HV0;generalize ((v:Nat):Int)=v at *;(have hg1:g<w.heap.size+1:=by omega);(have hg2:g<w.heap.size+1+1:=by omega);(have hg3:g<w.heap.size+1+1+1:=by omega);refine Q8 λR hR=>?_;go_enter_defers func167,ntmps167;go_wp2_with fail;obtain⟨H,hH⟩:=nm_ (w.heap.size);rw [<-hH]at hg hg1 hg2 hg3;simp only [<-hH];obtain⟨W0,hW0⟩:=nm_ ((((w.alloc (.cells #[.pointer (some ⟨g,0,none⟩)] 46)).alloc (.cells #[.int .u64 0] 80)).alloc (.cells #[.int .i64 0] 24)).alloc (.cells #[.int .i64 at_] 3));rw [<-hW0];(have f0:Q0 w W0:=by rw [hW0];exact((((Upd.refl _ w).alloc _).alloc _).alloc _).alloc _);(have k0:Blk W0 H 46 #[.pointer (some ⟨g,0,none⟩)]:=by rw [hW0];exact(((Qb (by simp [hH]) _ _).alloc _).alloc _).alloc _);(have k1:Blk W0 (H+1) 80 #[.int .u64 0]:=by rw [hW0];exact((Qb (by simp [hH]) _ _).alloc _).alloc _);(have k2:Blk W0 (H+1+1) 24 #[.int .i64 0]:=by rw [hW0];exact(Qb (by simp [hH]) _ _).alloc _);(have k3:Blk W0 (H+1+1+1) 3 #[.int .i64 at_]:=by rw [hW0];exact Qb (by simp [hH]) _ _);clear hW0;have HH:=hd_ hH;clear hH;refine(HB1 W0 f0).mono ?_;rintro e w1 ⟨rfl,u1,a',c1,ha'⟩;have j0:=k0.upd u1 (by omega);have j1:=k1.upd u1 (by omega);have j2:=k2.upd u1 (by omega);have j3:=k3.upd u1 (by omega);have uu:Upd (λb=>b=g) w w1:=(f0.mono (λ_ _ h=>h.elim)).trans' u1;have d1:=j1.cell0;have d2:=j2.cell0;have z1:=j1.frozen 0;have z2:=j2.frozen 0;have J0:=hd_ j0;have J1:=hd_ j1;have J2:=hd_ j2;have J3:=hd_ j3;have HC1:=hd_ c1;have HA':=hd_ ha';have UU:=hd_ uu;clear j0 j1 j2 j3 k0 k1 k2 k3 c1 ha' u1 uu;go_wp2;have L0:=(J0.far (p:=⟨H+1,0,none⟩) (by simp) (.int .u64 v)).far (p:=⟨H+1+1,0,none⟩) (by simp;omega) (.int .i64 er);have L1:=(J1.set_ 0 (.int .u64 v)).far (p:=⟨H+1+1,0,none⟩) (by simp) (.int .i64 er);have L2:=(J2.far (p:=⟨H+1,0,none⟩) (by simp) (.int .u64 v)).set_ 0 (.int .i64 er);have L3:=(J3.far (p:=⟨H+1,0,none⟩) (by simp;omega) (.int .u64 v)).far (p:=⟨H+1+1,0,none⟩) (by simp) (.int .i64 er);have hd2:=L2.cell0;have hd1:=L1.cell0;have u3:Upd (λb=>b=g) w ((w1.setCell ⟨H+1,0,none⟩ (.int .u64 v)).setCell ⟨H+1+1,0,none⟩ (.int .i64 er)):=(UU.setCell (p:=⟨H+1,0,none⟩) (λh=>by have:=HH.out;simp at h;omega) _).setCell (p:=⟨H+1+1,0,none⟩) (λh=>by have:=HH.out;simp at h;omega) _
 have m1:=HC1.upd (S:=λb=>b=H+1) ((Upd.refl (λb=>b=H+1) _).setCell (p:=⟨H+1,0,none⟩) (λ_=>rfl) (.int .u64 v)) (by omega) (λb _ hb e=>by have:=hb.2;have:=HH.out;omega);have m2:=m1.upd (S:=λb=>b=H+1+1) ((Upd.refl (λb=>b=H+1+1) _).setCell (p:=⟨H+1+1,0,none⟩) (λ_=>rfl) (.int .i64 er)) (by omega) (λb _ hb e=>by have:=hb.2;have:=HH.out;omega);change Leaves _ _ _ _ _ _ _;refine leaves_cons (f:=216) (args:=#[.pointer (some ⟨H+1+1,0,none⟩),.pointer (some ⟨H+1+1+1,0,none⟩),.pointer (some ⟨H+1,0,none⟩),.pointer (some ⟨H,0,none⟩)]) (by simp) (by simp [go_sem]) ?_;by_cases her:er=0
 . subst her
   refine(Q6u _ _ _ _ .returning _ hd2).mono ?_;rintro e u' w'' ⟨rfl,rfl,rfl⟩;refine⟨.tuple #[.int .u64 v,.int .i64 0],?_,hR _ _ ⟨rfl,u3,?_⟩⟩
   . simp [results,results167,go_sem,hd1,hd2]
   rw [if_pos rfl,<-HA'.out rfl];exact m2.mono λb hb=>hb.1
 obtain⟨A,c,hb,hr,hq1,hq2,hq3,hq4⟩:=m2;have hv:=HV1 her;subst hv;refine(Q6v g H at_ a' 0 er (by simpa using her) A bs.length c .returning _ (by simpa using L0) (by simpa using L1) (by simpa using L2) (by simpa using L3) hb hg).mono ?_;rintro e u' w'' ⟨rfl,rfl,rfl⟩;refine⟨.tuple #[.int .u64 0,.int .i64 er],?_,hR _ _ ⟨rfl,?_,?_⟩⟩
 . have M1:=((L1.set_ 0 (.int .u64 0)).far (p:=⟨g,1,none⟩) (by simp;omega) (.int .i64 at_))
   have M2:=((L2.far (p:=⟨H+1,0,none⟩) (by simp) (.int .u64 0)).far (p:=⟨g,1,none⟩) (by simp;omega) (.int .i64 at_));have e1:=M1.cell0;have e2:=M2.cell0;simp [results,results167,go_sem,e1,e2]
 . exact(u3.setCell (p:=⟨H+1,0,none⟩) (λh=>by have:=HH.out;simp at h;omega) _).setCell (p:=⟨g,1,none⟩) (λ_=>rfl) _
 rw [if_neg her];have hb2:=(hb.far (p:=⟨H+1,0,none⟩) (by simp;omega) (.int .u64 0)).set_ 1 (.int .i64 (at_:Nat))
 have u5:Upd (λb=>b=g\/b=H+1) ((w1.setCell ⟨H+1,0,none⟩ (.int .u64 0)).setCell ⟨H+1+1,0,none⟩ (.int .i64 er)) ((((w1.setCell ⟨H+1,0,none⟩ (.int .u64 0)).setCell ⟨H+1+1,0,none⟩ (.int .i64 er)).setCell ⟨H+1,0,none⟩ (.int .u64 0)).setCell ⟨g,1,none⟩ (.int .i64 at_)) :=
   ((Upd.refl (λb=>b=g\/b=H+1) _).setCell (p:=⟨H+1,0,none⟩) (λ_=>.inr rfl) _).setCell (p:=⟨g,1,none⟩) (λ_=>.inl rfl) _
 refine⟨A,c,by simpa using hb2,(hr.upd u5 (λb _ hb e=>?_)).mono λb hb=>hb.1,hq1,HAT9.out,hq3,hq4⟩;rcases e with e|e
 . exact hF b hb.1 e
 have:=hb.2;have:=HH.out;omega
theorem Q48 (F:Nat->Prop) (g:Nat) (bs:List Nat) (at_:Nat) (w:World) (hcu:Q4 w F g bs at_) (hF:∀b,F b->b≠g) :
   Calls prog 122 #[.pointer (some ⟨g,0,none⟩)] w λe w' =>
     e = .returned (.tuple #[.int .u64 ((Qt (bs.drop at_)).1:Nat),.int .i64 (Qt (bs.drop at_)).2.2])/\Upd (λb=>b=g) w w' /\
       Q4 w' F g bs (if(Qt (bs.drop at_)).2.2=0 then at_+(Qt (bs.drop at_)).2.1 else at_):=by
 have hmf:∀(fn:Fn) (first cap:Array Value) (w:World),(Instr.makeFunc fn first cap).run prog w = .ok (.func fn first cap) w:=λ_ _ _ _=>rfl;obtain⟨H,hH⟩:=nm_ (w.heap.size);have hr:=Q8v F g H bs at_ (w.alloc (.cells #[.pointer (some ⟨g,0,none⟩)] 46)) (hcu.fresh ((Upd.refl _ w).alloc _)) (Qb hH _ _) hF;rw [hH]at hr;have HR:=hd_ hr;clear hr hcu hH H;generalize (if(Qt (bs.drop at_)).2.2=0 then at_+(Qt (bs.drop at_)).2.1 else at_)=P at *;generalize Qt (bs.drop at_)=V at *;refine Q8 λR hR=>?_;go_enter func122,ntmps122;go_wp2_with fail;refine HR.mono ?_;rintro e w1 ⟨rfl,u1,c1⟩;go_wp2;(try go_ret2);exact hR _ _ ⟨rfl,((Upd.refl (λb=>b=g) w).alloc _).trans' u1,c1⟩
theorem ZG (pe:Addr) (fv:Value) (w:World) :
   CallsD prog 193 #[.pointer (some pe),fv] .returning w λe u' w'=>e = .returned (.tuple #[])/\u' = .returning/\w'=w:=by
 refine callsD_of_wpS func193 rfl λc₀ cs hu=>?_;apply wpS_seq;apply wpS_region;simp [wpOpsS,go_sem,recoverD,hu,ntmps193,Exit.thenS];apply wpS_seq;apply wpS_region;simp [wpOpsS,go_sem,Exit.thenS];refine wpS_cond (t:=false) (by simp [Act.eval,Array.replicate]) ?_;simp only [Bool.false_eq_true,if_false];refine wpS_of_wp (wp_skip ?_);cases c₀
 simp_all [bodyPostS,results,results193,Exit.thenS]
theorem Zy (cf:Nat) (caps:Array Value) (S:Nat->Prop) (Q:World->Prop) (pe:Nat) (er:Int) (u:Value) (w:World) (he:Blk w pe 24 #[u]) (hpe:¬S pe) (hcf:∀args W,(callFunc cf args).run prog W = .ok (.enter cf args) W)
   (HC:Calls prog cf caps w λe w'=>e = .returned (.tuple #[])/\Upd S w w'/\Q w') :
   CallsD prog 193 #[.pointer (some ⟨pe,0,none⟩),.func (.func cf) #[] caps]
     (.panicking [{ v:=.iface 24 (.int .i64 er),recovered:=false }]) w λe u' w'=>e = .returned (.tuple #[])/\u' = .panicking [{ v:=.iface 24 (.int .i64 er),recovered:=true }] /\
       ∃w1,Upd S w w1/\Q w1/\w'=w1.setCell ⟨pe,0,none⟩ (.int .i64 er):=by
 (have hta:∀W,(Instr.typeAssert (.iface 24 (.int .i64 er)) 20 24 true).run prog W = .ok (.tuple #[.int .i64 er,.bool true]) W:=λ_=>by kernel_rfl);have HCL:=hd_ HC;have HE:=hd_ he;have HN:=hd_ hpe;clear he HC hpe;refine callsD_of_wpS func193 rfl λc₀ cs hu=>?_;apply wpS_seq;apply wpS_region;simp [wpOpsS,go_sem,recoverD,hu,ntmps193,Exit.thenS];apply wpS_seq;apply wpS_region;simp [wpOpsS,go_sem,Exit.thenS];refine wpS_cond (t:=true) (by simp [Act.eval,Array.replicate]) ?_;simp only [if_true];apply wpS_seq;apply wpS_region;simp [wpOpsS,go_sem,hta,Exit.thenS];apply wpS_seq;apply wpS_seq;apply wpS_region;simp [wpOpsS,go_sem,Exit.thenS];refine wpS_cond (t:=false) (by simp [Act.eval,Array.replicate]) ?_;simp only [Bool.false_eq_true,if_false];refine wpS_of_wp (wp_skip ?_);simp only [Exit.thenS];apply wpS_seq;apply wpS_region;simp [wpOpsS,go_sem,hcf,Exit.thenS];refine HCL.mono ?_;rintro e w1 ⟨rfl,u1,q1⟩;have e1:=HE.upd u1 HN.out;have c0:=e1.cell 0;have z0:=e1.frozen 0;simp at c0;have HU:=hd_ u1;have HQ:=hd_ q1;clear u1 q1 e1;apply wpS_region;simp [wpOpsS,go_sem,c0,z0,Exit.thenS,bodyPostS,results,results193];exact⟨w1,HU.out,HQ.out,rfl⟩
theorem VV (pe:Addr) (fv:Value) (w:World) :
   CallsD prog 84 #[.pointer (some pe),fv] .returning w λe u' w'=>e = .returned (.tuple #[])/\u' = .returning/\w'=w:=by
 refine callsD_of_wpS func84 rfl λc₀ cs hu=>?_;apply wpS_seq;apply wpS_region;simp [wpOpsS,go_sem,recoverD,hu,ntmps84,Exit.thenS];apply wpS_seq;apply wpS_region;simp [wpOpsS,go_sem,Exit.thenS];refine wpS_cond (t:=false) (by simp [Act.eval,Array.replicate]) ?_;simp only [Bool.false_eq_true,if_false];refine wpS_of_wp (wp_skip ?_);cases c₀
 simp_all [bodyPostS,results,results84,Exit.thenS]
theorem Z7 (cf:Nat) (caps:Array Value) (S:Nat->Prop) (Q:World->Prop) (pe:Nat) (er:Int) (u:Value) (w:World) (he:Blk w pe 24 #[u]) (hpe:¬S pe) (hcf:∀args W,(callFunc cf args).run prog W = .ok (.enter cf args) W)
   (HC:Calls prog cf caps w λe w'=>e = .returned (.tuple #[])/\Upd S w w'/\Q w') :
   CallsD prog 84 #[.pointer (some ⟨pe,0,none⟩),.func (.func cf) #[] caps]
     (.panicking [{ v:=.iface 24 (.int .i64 er),recovered:=false }]) w λe u' w'=>e = .returned (.tuple #[])/\u' = .panicking [{ v:=.iface 24 (.int .i64 er),recovered:=true }] /\
       ∃w1,Upd S w w1/\Q w1/\w'=w1.setCell ⟨pe,0,none⟩ (.int .i64 er):=by
 (have hta:∀W,(Instr.typeAssert (.iface 24 (.int .i64 er)) 20 24 true).run prog W = .ok (.tuple #[.int .i64 er,.bool true]) W:=λ_=>by kernel_rfl);have HCL:=hd_ HC;have HE:=hd_ he;have HN:=hd_ hpe;clear he HC hpe;refine callsD_of_wpS func84 rfl λc₀ cs hu=>?_;apply wpS_seq;apply wpS_region;simp [wpOpsS,go_sem,recoverD,hu,ntmps84,Exit.thenS];apply wpS_seq;apply wpS_region;simp [wpOpsS,go_sem,Exit.thenS];refine wpS_cond (t:=true) (by simp [Act.eval,Array.replicate]) ?_;simp only [if_true];apply wpS_seq;apply wpS_region;simp [wpOpsS,go_sem,hta,Exit.thenS];apply wpS_seq;apply wpS_seq;apply wpS_region;simp [wpOpsS,go_sem,Exit.thenS];refine wpS_cond (t:=false) (by simp [Act.eval,Array.replicate]) ?_;simp only [Bool.false_eq_true,if_false];refine wpS_of_wp (wp_skip ?_);simp only [Exit.thenS];apply wpS_seq;apply wpS_region;simp [wpOpsS,go_sem,hcf,Exit.thenS];refine HCL.mono ?_;rintro e w1 ⟨rfl,u1,q1⟩;have e1:=HE.upd u1 HN.out;have c0:=e1.cell 0;have z0:=e1.frozen 0;simp at c0;have HU:=hd_ u1;have HQ:=hd_ q1;clear u1 q1 e1;apply wpS_region;simp [wpOpsS,go_sem,c0,z0,Exit.thenS,bodyPostS,results,results84];exact⟨w1,HU.out,HQ.out,rfl⟩
theorem Q1o (pe:Addr) (fv:Value) (w:World) :
   CallsD prog 92 #[.pointer (some pe),fv] .returning w λe u' w'=>e = .returned (.tuple #[])/\u' = .returning/\w'=w:=by
 refine callsD_of_wpS func92 rfl λc₀ cs hu=>?_;apply wpS_seq;apply wpS_region;simp [wpOpsS,go_sem,recoverD,hu,ntmps92,Exit.thenS];apply wpS_seq;apply wpS_region;simp [wpOpsS,go_sem,Exit.thenS];refine wpS_cond (t:=false) (by simp [Act.eval,Array.replicate]) ?_;simp only [Bool.false_eq_true,if_false];refine wpS_of_wp (wp_skip ?_);cases c₀
 simp_all [bodyPostS,results,results92,Exit.thenS]
theorem Vh (cf:Nat) (caps:Array Value) (S:Nat->Prop) (Q:World->Prop) (pe:Nat) (er:Int) (u:Value) (w:World) (he:Blk w pe 24 #[u]) (hpe:¬S pe) (hcf:∀args W,(callFunc cf args).run prog W = .ok (.enter cf args) W)
   (HC:Calls prog cf caps w λe w'=>e = .returned (.tuple #[])/\Upd S w w'/\Q w') :
   CallsD prog 92 #[.pointer (some ⟨pe,0,none⟩),.func (.func cf) #[] caps]
     (.panicking [{ v:=.iface 24 (.int .i64 er),recovered:=false }]) w λe u' w'=>e = .returned (.tuple #[])/\u' = .panicking [{ v:=.iface 24 (.int .i64 er),recovered:=true }] /\
       ∃w1,Upd S w w1/\Q w1/\w'=w1.setCell ⟨pe,0,none⟩ (.int .i64 er):=by
 (have hta:∀W,(Instr.typeAssert (.iface 24 (.int .i64 er)) 20 24 true).run prog W = .ok (.tuple #[.int .i64 er,.bool true]) W:=λ_=>by kernel_rfl);have HCL:=hd_ HC;have HE:=hd_ he;have HN:=hd_ hpe;clear he HC hpe;refine callsD_of_wpS func92 rfl λc₀ cs hu=>?_;apply wpS_seq;apply wpS_region;simp [wpOpsS,go_sem,recoverD,hu,ntmps92,Exit.thenS];apply wpS_seq;apply wpS_region;simp [wpOpsS,go_sem,Exit.thenS];refine wpS_cond (t:=true) (by simp [Act.eval,Array.replicate]) ?_;simp only [if_true];apply wpS_seq;apply wpS_region;simp [wpOpsS,go_sem,hta,Exit.thenS];apply wpS_seq;apply wpS_seq;apply wpS_region;simp [wpOpsS,go_sem,Exit.thenS];refine wpS_cond (t:=false) (by simp [Act.eval,Array.replicate]) ?_;simp only [Bool.false_eq_true,if_false];refine wpS_of_wp (wp_skip ?_);simp only [Exit.thenS];apply wpS_seq;apply wpS_region;simp [wpOpsS,go_sem,hcf,Exit.thenS];refine HCL.mono ?_;rintro e w1 ⟨rfl,u1,q1⟩;have e1:=HE.upd u1 HN.out;have c0:=e1.cell 0;have z0:=e1.frozen 0;simp at c0;have HU:=hd_ u1;have HQ:=hd_ q1;clear u1 q1 e1;apply wpS_region;simp [wpOpsS,go_sem,c0,z0,Exit.thenS,bodyPostS,results,results92];exact⟨w1,HU.out,HQ.out,rfl⟩
theorem Jp (pe:Addr) (fv:Value) (w:World) :
   CallsD prog 41 #[.pointer (some pe),fv] .returning w λe u' w'=>e = .returned (.tuple #[])/\u' = .returning/\w'=w:=by
 refine callsD_of_wpS func41 rfl λc₀ cs hu=>?_;apply wpS_seq;apply wpS_region;simp [wpOpsS,go_sem,recoverD,hu,ntmps41,Exit.thenS];apply wpS_seq;apply wpS_region;simp [wpOpsS,go_sem,Exit.thenS];refine wpS_cond (t:=false) (by simp [Act.eval,Array.replicate]) ?_;simp only [Bool.false_eq_true,if_false];refine wpS_of_wp (wp_skip ?_);cases c₀
 simp_all [bodyPostS,results,results41,Exit.thenS]
theorem Yo (cf:Nat) (caps:Array Value) (S:Nat->Prop) (Q:World->Prop) (pe:Nat) (er:Int) (u:Value) (w:World) (he:Blk w pe 24 #[u]) (hpe:¬S pe) (hcf:∀args W,(callFunc cf args).run prog W = .ok (.enter cf args) W)
   (HC:Calls prog cf caps w λe w'=>e = .returned (.tuple #[])/\Upd S w w'/\Q w') :
   CallsD prog 41 #[.pointer (some ⟨pe,0,none⟩),.func (.func cf) #[] caps]
     (.panicking [{ v:=.iface 24 (.int .i64 er),recovered:=false }]) w λe u' w'=>e = .returned (.tuple #[])/\u' = .panicking [{ v:=.iface 24 (.int .i64 er),recovered:=true }] /\
       ∃w1,Upd S w w1/\Q w1/\w'=w1.setCell ⟨pe,0,none⟩ (.int .i64 er):=by
 (have hta:∀W,(Instr.typeAssert (.iface 24 (.int .i64 er)) 20 24 true).run prog W = .ok (.tuple #[.int .i64 er,.bool true]) W:=λ_=>by kernel_rfl);have HCL:=hd_ HC;have HE:=hd_ he;have HN:=hd_ hpe;clear he HC hpe;refine callsD_of_wpS func41 rfl λc₀ cs hu=>?_;apply wpS_seq;apply wpS_region;simp [wpOpsS,go_sem,recoverD,hu,ntmps41,Exit.thenS];apply wpS_seq;apply wpS_region;simp [wpOpsS,go_sem,Exit.thenS];refine wpS_cond (t:=true) (by simp [Act.eval,Array.replicate]) ?_;simp only [if_true];apply wpS_seq;apply wpS_region;simp [wpOpsS,go_sem,hta,Exit.thenS];apply wpS_seq;apply wpS_seq;apply wpS_region;simp [wpOpsS,go_sem,Exit.thenS];refine wpS_cond (t:=false) (by simp [Act.eval,Array.replicate]) ?_;simp only [Bool.false_eq_true,if_false];refine wpS_of_wp (wp_skip ?_);simp only [Exit.thenS];apply wpS_seq;apply wpS_region;simp [wpOpsS,go_sem,hcf,Exit.thenS];refine HCL.mono ?_;rintro e w1 ⟨rfl,u1,q1⟩;have e1:=HE.upd u1 HN.out;have c0:=e1.cell 0;have z0:=e1.frozen 0;simp at c0;have HU:=hd_ u1;have HQ:=hd_ q1;clear u1 q1 e1;apply wpS_region;simp [wpOpsS,go_sem,c0,z0,Exit.thenS,bodyPostS,results,results41];exact⟨w1,HU.out,HQ.out,rfl⟩
theorem Jd (F:Nat->Prop) (g:Nat) (bs:List Nat) (at_:Nat) (w:World) (hcu:Q4 w F g bs at_) (hF:∀b,F b->b≠g) :
   Calls prog 119 #[.func (.func 120) #[.pointer (some ⟨g,0,none⟩)] #[]] w λe w' =>
     Upd (λb=>b=g) w w'/\if at_<bs.length then e = .returned (.int .u8 ((bs[at_]?.getD 0:Nat):Int))/\Q4 w' F g bs (at_+1)else e=Qa 3/\Q4 w' F g bs at_:=by
 (have hle:at_<=bs.length:=by obtain⟨_,_,_,_,_,h,_⟩:=hcu;exact h);refine Q8 λR hR=>?_;by_cases h:at_<bs.length
 . have HC:=hd_ (Q16 F g bs at_ w hcu h hF)
   simp only [if_pos h]at hR;clear hcu hF h hle;go_enter func119,ntmps119;go_wp2_with fail;refine HC.mono ?_;rintro e w1 ⟨rfl,u1,c1⟩;have U1:=hd_ u1;have C1:=hd_ c1;clear u1 c1 HC;go_wp2_with fail;refine(Yv _ _ _ (by simpa using(Blk.new w1 24 #[.int .i64 0]).cell 0)).mono ?_;rintro e w2 ⟨rfl,rfl⟩;go_wp2_with fail;(try go_ret);exact hR _ _ ⟨U1.alloc _,rfl,C1.fresh ((Upd.refl _ _).alloc _)⟩
 have HC:=hd_ (Q0a F g bs at_ w hcu (by omega) hF);simp only [if_neg h]at hR;clear hcu hF h hle;go_enter func119,ntmps119;go_wp2_with fail;refine HC.mono ?_;rintro e w1 ⟨rfl,u1,c1⟩;have U1:=hd_ u1;have C1:=hd_ c1;clear u1 c1 HC;go_wp2_with fail;refine(Je 3 _ _ _ (by simpa using(Blk.new w1 24 #[.int .i64 3]).cell 0) (by decide)).mono ?_;rintro e w2 ⟨rfl,rfl⟩;simp only [Qa];exact⟨rfl,hR _ _ ⟨U1.alloc _,rfl,C1.fresh ((Upd.refl _ _).alloc _)⟩⟩
theorem Kw (F:Nat->Prop) (g:Nat) (bs:List Nat) (at_:Nat) (w:World) (hcu:Q4 w F g bs at_) (hF:∀b,F b->b≠g) :
   Calls prog 121 #[.func (.func 122) #[.pointer (some ⟨g,0,none⟩)] #[]] w λe w' =>
     Upd (λb=>b=g) w w'/\if(Qt (bs.drop at_)).2.2=0 then e = .returned (.int .u64 ((Qt (bs.drop at_)).1:Nat))/\Q4 w' F g bs (at_+(Qt (bs.drop at_)).2.1)else e=Qa (Qt (bs.drop at_)).2.2/\Q4 w' F g bs at_:=by
 have HC:=hd_ (Q48 F g bs at_ w hcu hF);obtain⟨V,hV⟩:=nm_ (Qt (bs.drop at_));rw [<-hV]at HC|-;clear hcu hF hV;refine Q8 λR hR=>?_;go_enter func121,ntmps121;by_cases h:V.2.2=0
 . simp only [if_pos h]at hR HC
   go_wp2_with fail;refine HC.mono ?_;rintro e w1 ⟨rfl,u1,c1⟩;have U1:=hd_ u1;have C1:=hd_ c1;clear u1 c1 HC;rw [h];clear h;go_wp2_with fail;refine(Yv _ _ _ (by simpa using(Blk.new w1 24 #[.int .i64 0]).cell 0)).mono ?_;rintro e w2 ⟨rfl,rfl⟩;go_wp2_with fail;(try go_ret);exact hR _ _ ⟨U1.alloc _,rfl,C1.fresh ((Upd.refl _ _).alloc _)⟩
 simp only [if_neg h]at hR HC;go_wp2_with fail;refine HC.mono ?_;rintro e w1 ⟨rfl,u1,c1⟩;have U1:=hd_ u1;have C1:=hd_ c1;have HN:=hd_ h;clear u1 c1 HC h;go_wp2_with fail;refine(Je V.2.2 _ _ _ (by simpa using(Blk.new w1 24 #[.int .i64 V.2.2]).cell 0) HN.out).mono ?_;rintro e w2 ⟨rfl,rfl⟩;simp only [Qa];exact⟨rfl,hR _ _ ⟨U1.alloc _,rfl,C1.fresh ((Upd.refl _ _).alloc _)⟩⟩
section
variable {P:Program} {ops:Array Oper} {md:Region.Mode} {C:World->Prop}
def X2 (P:Program) (md:Region.Mode) (ops:Array Oper) (C:World->Prop) (n:Nat) (L:Array Bool->Act->Prop):Nat->Array Bool->Act->Prop
  | 0,listed,a=>L listed a
  | f+1,listed,a=>Region.ready md ops listed≠[]/\∀i∈Region.ready md ops listed,i<n/\qOp P ops C i (X2 P md ops C n L f (listed.setIfInBounds i true)) a
theorem Q4Q {n g:Nat} {L:Array Bool->Act->Prop} {Q:Exit->Act->World->Prop} (hL:∀l a w,C w->L l a->wpAny P md ops Q g l a w) :
   ∀(f:Nat) (l:Array Bool) (a:Act) (w:World),C w->X2 P md ops C n L f l a->wpAny P md ops Q (f+g) l a w:=by
 intro f
 induction f with
 | zero=>intro l a w hw h;rw [Nat.zero_add];exact hL _ _ _ hw h
 | succ f ih =>
   intro l a w hw h;rw [Nat.succ_add];exact⟨λh0=>(h.1 h0).elim,λi hi=>wpOp_of_qOp hw (λa' w' hw'=>ih _ a' w' hw') (h.2 i hi).2⟩
theorem Q6w {n i:Nat} {oi:Oper} {v:Value} {L:Array Bool->Act->Prop} (hi:ops[i]?=some oi) (hsel:∀(j:Nat) (o:Oper) cs b,ops[j]?=some o->o.op≠.select cs b)
   (hs:Region.sinkB md ops n=true) (hc:Region.chainB md ops n=true) (hn:n<ops.size) (hin:i<n) (hdone:∀l a,L l a->∀j∈Region.ready md ops l,n<=j) :
   ∀(f:Nat) (l:Array Bool) (a:Act),HeadInv md ops n l ->
     (∀j oj,ops[j]?=some oj->j≠i->l.getD j true=false->(∀e∈oj.after,Region.binds md e=true->e.on≠i)->oi.apart ops oj=true) ->
     i∈Region.ready md ops l->YieldsIn P ops C oi v a ->
     X2 P md ops C n L f (l.setIfInBounds i true) (a.put oi.dst v)->X2 P md ops C n L (f+1) l a:=by
 intro f
 induction f with
 | zero =>
   intro l a inv hfr hr hy H;have hun:=(mem_ready.1 hr).1;have lt:∀j∈Region.ready md ops l,j<n:=λj hj=>Nat.lt_of_not_le λh=>tail_waits hs hc hn inv _ i rfl hin hun j h hj;refine⟨List.ne_nil_of_mem hr,λj hj=>⟨lt j hj,?_⟩⟩;by_cases hji:j=i
   . subst hji;exact hy.qOp hi H
   have h1:=hdone _ _ H j (ready_mono hj hji);have h2:=lt j hj;omega
 | succ f ih =>
   intro l a inv hfr hr hy H;have hun:=(mem_ready.1 hr).1;have lt:∀j∈Region.ready md ops l,j<n:=λj hj=>Nat.lt_of_not_le λh=>tail_waits hs hc hn inv _ i rfl hin hun j h hj;refine⟨List.ne_nil_of_mem hr,λj hj=>⟨lt j hj,?_⟩⟩;by_cases hji:j=i
   . subst hji;exact hy.qOp hi H
   obtain⟨hju,oj,hoj,hall⟩:=mem_ready.1 hj
   have hno:∀e∈oj.after,Region.binds md e=true->e.on≠i:=by
     intro e he hb heq;have:=hall e he hb;rw [heq,getD_both hun]at this;cases this
   have hst:=qOp_put hoj (hfr j oj hoj hji hju hno) (λcs b=>hsel i oi cs b hi) (λcs b=>hsel j oj cs b hoj) hy (H.2 j (ready_mono hj hji)).2;refine qOp_mono (λa' h3=>ih _ a' (inv.set hj (lt j hj)) ?_ (ready_mono hr (Ne.symm hji)) h3.1 ?_) hst
   . intro k ok hk hki hku hkn
     refine hfr k ok hk hki ?_ hkn;by_cases hjk:j=k
     . subst hjk;exact hju
     rwa [getD_set_ne true hjk]at hku
   rw [Array.setIfInBounds_comm _ _ hji];exact h3.2
theorem Q9K {n g:Nat} {K:Act->Prop} (hsel:Region.noSelect ops=true) (hs:Region.sinkB md ops n=true) (hc:Region.chainB md ops n=true) (hn:n<ops.size) :
   ∀(os:List Oper) (k:Nat) (l:Array Bool) (a:Act),(∀j,j<os.length->os[j]?=ops[k+j]?)->k+os.length=n->HeadInv md ops n l ->
   Region.lexHead md ops g os.length k l=true->wpQuiet P ops C K os a->X2 P md ops C n (λl' a'=>Region.seqB md ops g n l'=true/\K a') os.length l a:=by
 intro os
 induction os with
 | nil =>
   intro k l a _ hk _ hB h;(obtain rfl:k=n:=by simpa using hk);exact⟨by simpa [Region.lexHead]using hB,h⟩
 | cons o os ih =>
   intro k l a hl hk inv hB h;rw [List.length_cons]at hk;(have h0:ops[k]?=some o:=by simpa using(hl 0 (by simp)).symm);simp only [List.length_cons,Region.lexHead,Bool.and_eq_true]at hB;(have hr:k∈Region.ready md ops l:=by simpa using hB.1.1);obtain⟨v,hy,hK⟩:=yieldsIn_of_qOp (P:=P) (C:=C) (K:=wpQuiet P ops C K os) h0 (by unfold qOp;simp only [h0];exact h)
   exact Q6w h0 (Region.noSelect_spec hsel) hs hc hn (by omega) (λl' a' hL=>seqB_ready hL.1) os.length l a inv (Region.free_spec h0 hB.1.2) hr hy
     (ih (k+1) _ _ (λj hj=>by have:=hl (j+1) (by simp;omega);simpa [Nat.add_assoc,Nat.add_comm 1 j]using this) (by omega) (inv.set hr (by omega)) hB.2 hK)
theorem QJ {id:Nat} {Q:Exit->Act->World->Prop} {a:Act} {w:World} {l:List Oper} (n:Nat) (hm:P.follows .mixedOrders=true) (hB:Region.lexTailB .any l.toArray n=true)
   (h:wpQuiet P l.toArray (λw'=>∃n,w'=w.drewN n) (λa'=>∀w',(∃n,w'=w.drewN n)->wpList P l.toArray Q (l.drop n) a' w') (l.take n) a):(Code.region id l.toArray true).wp P Q a w:=by
 simp only [Region.lexTailB,Bool.and_eq_true,decide_eq_true_eq]at hB;obtain⟨⟨⟨⟨hsel,hn⟩,hs⟩,hc⟩,hlex⟩:=hB;(have hn':n<l.length:=by simpa using hn);(have htl:(l.take n).length=n:=by rw [List.length_take];omega);(have hdl:(l.drop n).length=l.toArray.size-n:=by simp)
 have inv0:HeadInv .any l.toArray n (Array.replicate l.toArray.size false) :=
   ⟨by simp,λj oj _ hl=>(by rw [getD_replicate_false]at hl;cases hl),λt _ ht=>getD_in (by simpa using ht) (getD_replicate_false _ _)⟩
 have H:=Q9K (md:=.any) (g:=l.toArray.size-n) hsel hs hc hn (l.take n) 0 _ a (λj hj=>by
   (have:j<n:=by omega)
   simp [this]) (by omega) inv0 (by rw [htl];exact hlex) h
 refine wp_region_any hm ?_
 have hq:=Q4Q (Q:=Q) (g:=l.toArray.size-n) (λl' a' w' hw hL=>by
   have:=wpAny_of_seq (md:=.any) (Q':=Q) (l.drop n) n l' a' w' (λj=>by simp [List.getElem?_drop]) (by rw [hdl];exact hL.1) (hL.2 w' hw)
   rwa [hdl]at this) _ _ _ { w with drawn:=w.drawn+1 } ⟨1,rfl⟩ H
 rw [htl,show n+(l.toArray.size-n)=l.toArray.size by omega]at hq;exact hq
end
section
variable {F:Fence} {n:Nat} {P:Program} {ops:Array Oper} {md:Region.Mode} {C:World->Prop}
def KD (F:Fence) (n:Nat) (P:Program) (md:Region.Mode) (ops:Array Oper) (C:World->Prop) (m:Nat) (L:Array Bool->Act->Prop):Nat->Array Bool->Act->Prop
  | 0,listed,a=>L listed a
  | f+1,listed,a=>Region.ready md ops listed≠[]/\∀i∈Region.ready md ops listed,i<m/\qOpIn F n P ops C i (KD F n P md ops C m L f (listed.setIfInBounds i true)) a
theorem Kj {Q':Exit->Act->World->Prop}:∀(l:List Oper) (k:Nat) (listed:Array Bool) (a:Act) (w:World),(∀j,l[j]?=ops[k+j]?) ->
   Region.seqB md ops l.length k listed=true->wpListIn F n P ops Q' l a w->wpAnyIn F n P md ops Q' l.length listed a w
 | [],_,_,_,_,_,hB,h=>⟨by simpa [Region.seqB]using hB,h⟩
 | o::l,k,listed,a,w,hl,hB,h=>by
   have h0:ops[k]?=some o:=by simpa using(hl 0).symm
   simp only [List.length_cons,Region.seqB,Bool.and_eq_true,decide_eq_true_eq]at hB
   refine⟨λh1=>(by rw [hB.1]at h1;cases h1),λi hi=>?_⟩
   rw [hB.1]at hi
   have hik:i=k:=by simpa using hi
   subst hik
   have hw:wpOpIn F n P ops Q' i (wpListIn F n P ops Q' l) a w:=by unfold wpOpIn;simp only [h0];exact h
   exact wpOpIn_mono (λa' w' h'=>Kj l (i+1) _ a' w' (λj=>by have:=hl (j+1);simpa [Nat.add_assoc,Nat.add_comm 1 j]using this) hB.2 h') hw
theorem X3 (hro:F.round=none) {m g:Nat} {L:Array Bool->Act->Prop} {Q:Exit->Act->World->Prop} (hL:∀l a w,C w->L l a->wpAnyIn F n P md ops Q g l a w) :
   ∀(f:Nat) (l:Array Bool) (a:Act) (w:World),C w->KD F n P md ops C m L f l a->wpAnyIn F n P md ops Q (f+g) l a w:=by
 intro f
 induction f with
 | zero=>intro l a w hw h;rw [Nat.zero_add];exact hL _ _ _ hw h
 | succ f ih =>
   intro l a w hw h;rw [Nat.succ_add];exact⟨λh0=>(h.1 h0).elim,λi hi=>wpOpIn_of_qOpIn hro hw (λa' w' hw'=>ih _ a' w' hw') (h.2 i hi).2⟩
theorem Q3b {m i:Nat} {oi:Oper} {v:Value} {L:Array Bool->Act->Prop} (hi:ops[i]?=some oi) (hsel:∀(j:Nat) (o:Oper) cs b,ops[j]?=some o->o.op≠.select cs b)
   (hs:Region.sinkB md ops m=true) (hc:Region.chainB md ops m=true) (hn:m<ops.size) (hin:i<m) (hdone:∀l a,L l a->∀j∈Region.ready md ops l,m<=j) :
   ∀(f:Nat) (l:Array Bool) (a:Act),HeadInv md ops m l ->
     (∀j oj,ops[j]?=some oj->j≠i->l.getD j true=false->(∀e∈oj.after,Region.binds md e=true->e.on≠i)->oi.apart ops oj=true) ->
     i∈Region.ready md ops l->YieldsQuiet F n P ops C oi v a ->
     KD F n P md ops C m L f (l.setIfInBounds i true) (a.put oi.dst v)->KD F n P md ops C m L (f+1) l a:=by
 intro f
 induction f with
 | zero =>
   intro l a inv hfr hr hy H;have hun:=(mem_ready.1 hr).1;have lt:∀j∈Region.ready md ops l,j<m:=λj hj=>Nat.lt_of_not_le λh=>tail_waits hs hc hn inv _ i rfl hin hun j h hj;refine⟨List.ne_nil_of_mem hr,λj hj=>⟨lt j hj,?_⟩⟩;by_cases hji:j=i
   . subst hji;exact hy.qOpIn hi H
   have h1:=hdone _ _ H j (ready_mono hj hji);have h2:=lt j hj;omega
 | succ f ih =>
   intro l a inv hfr hr hy H;have hun:=(mem_ready.1 hr).1;have lt:∀j∈Region.ready md ops l,j<m:=λj hj=>Nat.lt_of_not_le λh=>tail_waits hs hc hn inv _ i rfl hin hun j h hj;refine⟨List.ne_nil_of_mem hr,λj hj=>⟨lt j hj,?_⟩⟩;by_cases hji:j=i
   . subst hji;exact hy.qOpIn hi H
   obtain⟨hju,oj,hoj,hall⟩:=mem_ready.1 hj
   have hno:∀e∈oj.after,Region.binds md e=true->e.on≠i:=by
     intro e he hb heq;have:=hall e he hb;rw [heq,getD_both hun]at this;cases this
   have hst:=qOpIn_put hoj (hfr j oj hoj hji hju hno) (λcs b=>hsel i oi cs b hi) (λcs b=>hsel j oj cs b hoj) hy (H.2 j (ready_mono hj hji)).2;refine qOpIn_mono (λa' h3=>ih _ a' (inv.set hj (lt j hj)) ?_ (ready_mono hr (Ne.symm hji)) h3.1 ?_) hst
   . intro k ok hk hki hku hkn
     refine hfr k ok hk hki ?_ hkn;by_cases hjk:j=k
     . subst hjk;exact hju
     rwa [getD_set_ne true hjk]at hku
   rw [Array.setIfInBounds_comm _ _ hji];exact h3.2
theorem Q0I {m g:Nat} {K:Act->Prop} (hsel:Region.noSelect ops=true) (hs:Region.sinkB md ops m=true) (hc:Region.chainB md ops m=true) (hn:m<ops.size) :
   ∀(os:List Oper) (k:Nat) (l:Array Bool) (a:Act),(∀j,j<os.length->os[j]?=ops[k+j]?)->k+os.length=m->HeadInv md ops m l ->
   Region.lexHead md ops g os.length k l=true->wpQuietIn F n P ops C K os a->KD F n P md ops C m (λl' a'=>Region.seqB md ops g m l'=true/\K a') os.length l a:=by
 intro os
 induction os with
 | nil =>
   intro k l a _ hk _ hB h;(obtain rfl:k=m:=by simpa using hk);exact⟨by simpa [Region.lexHead]using hB,h⟩
 | cons o os ih =>
   intro k l a hl hk inv hB h;rw [List.length_cons]at hk;(have h0:ops[k]?=some o:=by simpa using(hl 0 (by simp)).symm);simp only [List.length_cons,Region.lexHead,Bool.and_eq_true]at hB;(have hr:k∈Region.ready md ops l:=by simpa using hB.1.1);obtain⟨v,hy,hK⟩:=yieldsQuiet_of_qOpIn (F:=F) (n:=n) (P:=P) (C:=C) (K:=wpQuietIn F n P ops C K os) h0 (by unfold qOpIn;simp only [h0];exact h)
   exact Q3b h0 (Region.noSelect_spec hsel) hs hc hn (by omega) (λl' a' hL=>seqB_ready hL.1) os.length l a inv (Region.free_spec h0 hB.1.2) hr hy
     (ih (k+1) _ _ (λj hj=>by have:=hl (j+1) (by simp;omega);simpa [Nat.add_assoc,Nat.add_comm 1 j]using this) (by omega) (inv.set hr (by omega)) hB.2 hK)
theorem VP {id:Nat} {Q:Exit->Act->World->Prop} {a:Act} {w:World} {l:List Oper} (m:Nat) (hro:F.round=none) (hm:P.follows .mixedOrders=true) (hB:Region.lexTailB .any l.toArray m=true)
   (h:wpQuietIn F n P l.toArray (λw'=>∃n,w'=w.drewN n) (λa'=>∀w',(∃n,w'=w.drewN n)->wpListIn F n P l.toArray Q (l.drop m) a' w') (l.take m) a):(Code.region id l.toArray true).wpIn F n P Q a w:=by
 simp only [Region.lexTailB,Bool.and_eq_true,decide_eq_true_eq]at hB;obtain⟨⟨⟨⟨hsel,hn⟩,hs⟩,hc⟩,hlex⟩:=hB;(have hn':m<l.length:=by simpa using hn);(have htl:(l.take m).length=m:=by rw [List.length_take];omega);(have hdl:(l.drop m).length=l.toArray.size-m:=by simp)
 have inv0:HeadInv .any l.toArray m (Array.replicate l.toArray.size false) :=
   ⟨by simp,λj oj _ hl=>(by rw [getD_replicate_false]at hl;cases hl),λt _ ht=>getD_in (by simpa using ht) (getD_replicate_false _ _)⟩
 have H:=Q0I (md:=.any) (g:=l.toArray.size-m) hsel hs hc hn (l.take m) 0 _ a (λj hj=>by
   (have:j<m:=by omega)
   simp [this]) (by omega) inv0 (by rw [htl];exact hlex) h
 refine wpIn_region_any hm ?_
 have hq:=X3 (Q:=Q) (g:=l.toArray.size-m) hro (λl' a' w' hw hL=>by
   have:=Kj (F:=F) (n:=n) (md:=.any) (Q':=Q) (l.drop m) m l' a' w' (λj=>by simp [List.getElem?_drop]) (by rw [hdl];exact hL.1) (hL.2 w' hw)
   rwa [hdl]at this) _ _ _ { w with drawn:=w.drawn+1 } ⟨1,rfl⟩ H
 rw [htl,show m+(l.toArray.size-m)=l.toArray.size by omega]at hq;exact hq
end
def QP (n:Int):Int:=if n<0 then -n else n
def QR (l:List Int):Int:=l.foldr (λn s=>QP n+s) 0
def Yc (lg:Int) (N:List Int) (sy lb:Int):Prop :=
  0<=lg/\lg<=lb/\lg<=9/\0<N.length/\(N.length:Int)<=sy/\N[N.length-1]?≠some 0/\(∀n∈N,-1<=n)/\QR N=2^lg.toNat
instance (lg:Int) (N:List Int) (sy lb:Int):Decidable (Yc lg N sy lb):=by unfold Yc;infer_instance
theorem Jf (n:Int) (l:List Int):QR (n::l)=QP n+QR l:=rfl
theorem VQ:∀a b:List Int,QR (a++b)=QR a+QR b
 | [],b=>by simp [QR]
 | x::a,b=>by rw [List.cons_append,Jf,Jf,VQ a b];omega
theorem Kq (n:Int):0<=QP n:=by unfold QP;split<;>omega
theorem Z2:∀l:List Int,0<=QR l
 | []=>by simp [QR]
 | x::l=>by have:=Z2 l;have:=Kq x;rw [Jf];omega
theorem X4 (l:List Int) (k:Nat) (h:k<l.length):QR (l.take (k+1))=QR (l.take k)+QP l[k]:=by
 rw [List.take_succ_eq_append_getElem h,VQ];simp [QR]
theorem Vm (l:List Int) (k:Nat):QR (l.take k)<=QR l:=by
 have h:=VQ (l.take k) (l.drop k);rw [List.take_append_drop]at h;have:=Z2 (l.drop k);omega
def Q7 (N:List Int):List Value:=N.map (Value.int .i64)
@[simp] theorem Qz (N:List Int):(Q7 N).length=N.length:=by simp [Q7]
theorem Q49 {N:List Int} {k:Nat} (h:k<N.length):(Q7 N)[k]?=some (.int .i64 N[k]):=by simp [Q7,h]
theorem Rd.int {w:World} {F:Nat->Prop} {A:Option Addr} {n:Nat} {N:List Int} (h:Rd w F A n (Q7 N)) {k:Nat} (hk:k<n) :
   ∃(b o:Nat) (hk':k<N.length),A=some ⟨b,o,none⟩/\b<w.heap.size/\w.cell? ⟨b,o+k,none⟩=some (.int .i64 N[k]):=by
 obtain⟨b,o,e,_,hb,hc⟩:=h.at_ hk;(have hk':k<N.length:=by have:=h.1;simp at this;omega);exact⟨b,o,hk',e,hb,by rw [hc,Q49 hk']⟩
def Fit (N:List Int):Prop:=∀n∈N,-9223372036854775808<=n/\n<=9223372036854775807
theorem Q6x (F:Nat->Prop) (A:Option Addr) (n c:Nat) (lg sy lb:Int) (N:List Int) (w:World) (hr:Rd w F A n (Q7 N)) (hn:(n:Int)<=1099511627776)
   (h:lg<0\/lb<lg\/9<lg\/n=0\/sy<n\/N[n-1]?=some 0) :
   Calls prog 287 #[.agg #[.int .i64 lg,.slice A n c],.int .i64 sy,.int .i64 lb] w λe w'=>e = .returned (.int .i64 13)/\Q0 w w':=by
 have fr:Q0 w (w.alloc (.cells #[.int .i64 lg,.slice A n c] 205)):=(Upd.refl _ _).alloc _;have FR:=hd_ fr;clear fr;by_cases h1:lg<0
 . clear h
   go_enter func287,ntmps287;go_wp2;(all_goals(go_ret;exact⟨rfl,FR.out⟩))
 by_cases h2:lb<lg\/9<lg
 . clear h
   by_cases h3:lb<=9
   . have h4:lb<lg:=by omega
     clear h2;go_enter func287,ntmps287;go_wp2;go_ret;exact⟨rfl,FR.out⟩
   (have h4:9<lg:=by omega);clear h2;go_enter func287,ntmps287;go_wp2;go_ret;exact⟨rfl,FR.out⟩
 (have a1:0<=lg:=by omega);(have a2:lg<=lb:=by omega);(have a3:lg<=9:=by omega);(have a4:lg<=min lb 9:=by omega);by_cases h3:n=0
 . clear h h1 h2
   subst h3;go_enter func287,ntmps287;go_wp2;(all_goals(go_ret;exact⟨rfl,FR.out⟩))
 (have b1:0<n:=by omega);(have b2:((n:Int) == 0)=false:=by simp;omega);by_cases h4:sy<n
 . clear h h1 h2 h3
   go_enter func287,ntmps287;go_wp2;(all_goals(go_ret;exact⟨rfl,FR.out⟩))
 (have b3:(n:Int)<=sy:=by omega)
 have h5:N[n-1]?=some 0:=by
   rcases h with h|h|h|h|h|h;(all_goals first|exact h|omega)
 clear h h1 h2 h3 h4;obtain⟨b,o,hk,rfl,hb,hc⟩:=hr.int (k:=n-1) (by omega);(have e0:N[n-1]=0:=by rw [List.getElem?_eq_getElem hk]at h5;simpa using h5);rw [e0]at hc
 have hc':(w.alloc (.cells #[.int .i64 lg,.slice (some ⟨b,o,none⟩) n c] 205)).cell? ⟨b,o+(n-1),none⟩=some (.int .i64 0):=by
   rw [World.cell?_alloc_lt _ _ _ hb];exact hc
 clear hc h5 e0;go_enter func287,ntmps287;go_wp2;(all_goals(go_ret;exact⟨rfl,FR.out⟩))
theorem Q6y (F:Nat->Prop) (A:Option Addr) (n c:Nat) (lg sy lb:Int) (N:List Int) (w:World) (hr:Rd w F A n (Q7 N)) (hfit:Fit N) (hn:(n:Int)<=1099511627776)
   (a1:0<=lg) (a2:lg<=lb) (a3:lg<=9) (b1:0<n) (b3:(n:Int)<=sy) (hlast:N[n-1]?≠some 0) :
   Calls prog 287 #[.agg #[.int .i64 lg,.slice A n c],.int .i64 sy,.int .i64 lb] w λe w' =>
     e = .returned (.int .i64 (if(∀n∈N,-1<=n)/\QR N=2^lg.toNat then 0 else 13))/\Q0 w w':=by
 (have hN:N.length=n:=by have:=hr.1;simpa using this);(have a4:lg<=min lb 9:=by omega);(have b2:((n:Int) == 0)=false:=by simp;omega);obtain⟨b,o,hk,rfl,hb,hc⟩:=hr.int (k:=n-1) (by omega)
 have e0:(N[n-1] == 0)=false:=by
   rw [List.getElem?_eq_getElem hk]at hlast;simpa using hlast
 obtain⟨z,hz⟩:=nm_ (N[n-1]);rw [<-hz]at hc e0;clear hlast hz;obtain⟨w1,hw1⟩:=nm_ (w.alloc (.cells #[.int .i64 lg,.slice (some ⟨b,o,none⟩) n c] 205))
 have hc':(w.alloc (.cells #[.int .i64 lg,.slice (some ⟨b,o,none⟩) n c] 205)).cell? ⟨b,o+(n-1),none⟩=some (.int .i64 z):=by
   rw [World.cell?_alloc_lt _ _ _ hb];exact hc
 (have hr1:Rd w1 F (some ⟨b,o,none⟩) n (Q7 N):=by rw [hw1];exact hr.alloc _);(have fr:Q0 w w1:=by rw [hw1];exact(Upd.refl _ _).alloc _);have FR:=hd_ fr;have HW:=hd_ hw1;have HR:=hd_ hr1;have HN:=hd_ hN;have HF:=hd_ hfit;clear hc fr hr hr1 hN hw1 hk hfit;obtain⟨p,hp,hp9⟩:∃p:Nat,lg=p/\p<=9:=⟨lg.toNat,by omega,by omega⟩;subst hp
 have hpow:(2:Int)^p<=512:=by
   have:2^p<=2^9:=Nat.pow_le_pow_right (by omega) hp9;(have h2:((2:Int)^p)=((2^p:Nat):Int):=by simp);omega
 have hpow0:(0:Int)<(2:Int)^p:=Int.pow_pos (by omega);simp only [Int.toNat_natCast];refine Q8 λR hR=>?_;go_enter func287,ntmps287;go_wp2
 all_goals
   rw [<-HW.out];go_loopg [7,50] n (λm l i wr=>wr=w1/\∃k:Nat,k+m=n/\i = .int .i64 k/\l = .int .i64 (2^p-QR (N.take k))/\0<=2^p-QR (N.take k)/\∀x∈N.take k,-1<=x)
   case atStart=>exact⟨rfl,0,by omega,rfl,by simp [QR],by simp [QR];omega,by simp⟩
   case round =>
     obtain⟨rfl,k,hk,rfl,rfl,hl0,hall⟩:=hrel;have hs0:=Z2 (N.take k);obtain⟨L,hL⟩:=nm_ (2^p-QR (N.take k));(have hL0:0<=L:=by omega);(have hL1:L<=512:=by omega);rw [<-hL];have HA:=hd_ hall;have HS:=hd_ hL;clear hall hL hl0 hs0;by_cases hlt:k<n
     . have hkn:k<N.length:=by have:=HN.out;omega
       have hst:=X4 N k hkn;have hfk:=HF N[k] (List.getElem_mem hkn);have hgt:=List.take_succ_eq_append_getElem hkn;have hle:=Vm N (k+1);have hmem:=List.getElem_mem hkn;obtain⟨b',o',_,e,_,hc⟩:=HR.int (k:=k) hlt;injection e with e;injection e with e1 e2;subst e1 e2;obtain⟨z,hz⟩:=nm_ (N[k]);rw [<-hz]at hst hfk hgt hc hmem;have hr1:=HW.out;have Hst:=hd_ hst;have Hgt:=hd_ hgt;have Hmem:=hd_ hmem;have Hle:=hd_ hle;clear hz hst hgt hr1 hmem hle;obtain⟨hf1,hf2⟩:=hfk;have HK:=hd_ hk;clear hk;by_cases hz1:z < -1
       . clear hf1 hf2
         go_wp2;(try go_ret);refine hR.out _ _ ⟨J6 (if_neg λh=>?_).symm,FR.out⟩;have:=h.1 z Hmem.out;omega
       by_cases hz2:z<0
       . obtain rfl:z=-1:=by omega
         have ha:QP (-1)=1:=rfl;have HA1:=hd_ ha;clear ha;by_cases hz3:L<1
         . go_wp2
           (try go_ret);refine hR.out _ _ ⟨J6 (if_neg λh=>?_).symm,FR.out⟩;have h1:=Hle.out;rw [Hst.out,HA1.out,h.2]at h1;have:=HS.out;omega
         go_wp2;go_roundg (gk-1)
         case measure=>have:=HK.out;omega
         case rel =>
           have h1:=Hst.out;rw [HA1.out]at h1;have h2:=HS.out
           exact⟨rfl,k+1,by have:=HK.out;omega,by go_num,by rw [h1];congr 1;omega,by rw [h1];omega,by
             rw [Hgt.out];intro x hx;rcases List.mem_append.1 hx with hx|hx
             . exact HA x hx
             simp at hx;omega⟩
       (have ha:QP z=z:=by unfold QP;rw [if_neg (by omega)]);have HA1:=hd_ ha;clear ha;by_cases hz3:L<z
       . go_wp2
         (try go_ret);refine hR.out _ _ ⟨J6 (if_neg λh=>?_).symm,FR.out⟩;have h1:=Hle.out;rw [Hst.out,HA1.out,h.2]at h1;have:=HS.out;omega
       go_wp2;go_roundg (gk-1)
       case measure=>have:=HK.out;omega
       case rel =>
         have h1:=Hst.out;rw [HA1.out]at h1;have h2:=HS.out
         exact⟨rfl,k+1,by have:=HK.out;omega,by go_num,by rw [h1];congr 1;omega,by rw [h1];omega,by
           rw [Hgt.out];intro x hx;rcases List.mem_append.1 hx with hx|hx
           . exact HA x hx
           simp at hx;omega⟩
     (obtain rfl:k=n:=by omega);have hN:=HN.out;have e1:N.take N.length=N:=List.take_length;rw [<-hN]at HS HA;have hS:=HS.out;have hA:=HA.out;rw [e1]at hS hA;have HS1:=hd_ hS;have HA1:=hd_ hA;clear hS hA HS HA hN e1;by_cases hz:L=0
     . subst hz
       go_wp2;(try go_ret);refine hR.out _ _ ⟨J6 (if_pos ⟨HA1.out,?_⟩).symm,FR.out⟩;have:=HS1.out;omega
     (have hz':(L != 0)=true:=by simpa using hz);go_wp2;(try go_ret);refine hR.out _ _ ⟨J6 (if_neg λh=>?_).symm,FR.out⟩;have:=HS1.out;rw [h.2]at this;omega
theorem Q2R (F:Nat->Prop) (A:Option Addr) (n c:Nat) (lg sy lb:Int) (N:List Int) (w:World) (hr:Rd w F A n (Q7 N)) (hfit:Fit N) (hn:(n:Int)<=1099511627776) :
   Calls prog 287 #[.agg #[.int .i64 lg,.slice A n c],.int .i64 sy,.int .i64 lb] w λe w' =>
     e = .returned (.int .i64 (if Yc lg N sy lb then 0 else 13))/\Q0 w w':=by
 (have hN:N.length=n:=by have:=hr.1;simpa using this);by_cases h:lg<0\/lb<lg\/9<lg\/n=0\/sy<n\/N[n-1]?=some 0
 . refine(Q6x F A n c lg sy lb N w hr hn h).mono ?_
   rintro e w' ⟨he,hf⟩;refine⟨?_,hf⟩;rw [he,if_neg];rintro⟨h1,h2,h3,h4,h5,h6,_⟩;rw [hN]at h4 h5 h6;rcases h with h|h|h|h|h|h;(all_goals first|omega|exact h6 h)
 refine(Q6y F A n c lg sy lb N w hr hfit hn (by omega) (by omega) (by omega) (by omega) (by omega) (λe=>h (by simp [e]))).mono ?_;rintro e w' ⟨he,hf⟩;refine⟨?_,hf⟩;rw [he];apply J6;by_cases hh:(∀n∈N,-1<=n)/\QR N=2^lg.toNat
 . rw [if_pos hh,if_pos]
   exact⟨by omega,by omega,by omega,by omega,by omega,by rw [hN];exact λe=>h (by simp [e]),hh.1,hh.2⟩
 rw [if_neg hh,if_neg];exact λh'=>hh h'.2.2.2.2.2.2
def Yn (s:Nat):Nat:=if s<16 then 1 else s / 2+s / 8+3
def Y8 (s:Nat):List Nat:=(List.range s).map λk=>k*Yn s%s
def QT:Nat->List Int->List Nat
  | _,[]=>[]
  | i,v::l=>if v=-1 then i::QT (i+1) l else QT (i+1) l
def Yp:Nat->List Int->List Nat
  | _,[]=>[]
  | i,v::l=>List.replicate v.toNat i++Yp (i+1) l
def Qw (N:List Int):List Nat:=QT 0 N
def Qo (N:List Int):List Nat:=Yp 0 N
theorem Q0J:∀(l:List Int) (i:Nat) (v:Int),QT i (l++[v])=QT i l++(if v=-1 then [i+l.length]else [])
 | [],i,v=>by simp only [List.nil_append,QT,List.length_nil];split<;>simp
 | x::l,i,v=>by
   have h:=Q0J l (i+1) v
   have e:i+1+l.length=i+(l.length+1):=by omega
   simp only [List.cons_append,QT,List.length_cons,h,e]
   split<;>simp
theorem Q0K:∀(l:List Int) (i:Nat) (v:Int),Yp i (l++[v])=Yp i l++List.replicate v.toNat (i+l.length)
 | [],i,v=>by simp [Yp]
 | x::l,i,v=>by
   have h:=Q0K l (i+1) v
   have e:i+1+l.length=i+(l.length+1):=by omega
   simp only [List.cons_append,Yp,List.length_cons,h,e,List.append_assoc]
theorem Q1E {N:List Int} {k:Nat} (h:k<N.length):Qw (N.take (k+1))=Qw (N.take k)++(if N[k]=-1 then [k]else []):=by
 unfold Qw;rw [List.take_succ_eq_append_getElem h,Q0J,List.length_take,Nat.min_eq_left (Nat.le_of_lt h),Nat.zero_add]
theorem KX {N:List Int} {k:Nat} (h:k<N.length):Qo (N.take (k+1))=Qo (N.take k)++List.replicate N[k].toNat k:=by
 unfold Qo;rw [List.take_succ_eq_append_getElem h,Q0K,List.length_take,Nat.min_eq_left (Nat.le_of_lt h),Nat.zero_add]
theorem Xi:∀(l:List Int) (i x:Nat),x∈QT i l->i<=x/\x<i+l.length
 | [],i,x,h=>by simp [QT]at h
 | v::l,i,x,h=>by
   rw [QT]at h
   rw [List.length_cons]
   split at h
   . rcases List.mem_cons.1 h with rfl|h
     . omega
     have:=Xi l (i+1) x h;omega
   have:=Xi l (i+1) x h;omega
theorem Xj:∀(l:List Int) (i x:Nat),x∈Yp i l->i<=x/\x<i+l.length
 | [],i,x,h=>by simp [Yp]at h
 | v::l,i,x,h=>by
   rw [Yp]at h
   rw [List.length_cons]
   rcases List.mem_append.1 h with h|h
   . have:=List.eq_of_mem_replicate h;omega
   have:=Xj l (i+1) x h;omega
theorem Ze:∀(l:List Int) (i:Nat),(∀v∈l,-1<=v)->(((QT i l).length+(Yp i l).length:Nat):Int)=QR l
 | [],i,_=>by simp [QT,Yp,QR]
 | v::l,i,h=>by
   have ih:=Ze l (i+1) λx hx=>h x (List.mem_cons_of_mem _ hx)
   have hv:=h v (by simp)
   have ha:QP v=if v=-1 then 1 else(v.toNat:Nat):=by unfold QP;split<;>split<;>omega
   rw [Jf,QT,Yp,List.length_append,List.length_replicate,ha]
   by_cases h1:v=-1
   . rw [if_pos h1,if_pos h1,List.length_cons]
     omega
   rw [if_neg h1,if_neg h1]
   omega
def Ql (s:Nat) (rs:List Nat):Int->Option Int:=λx=>if x<=(s:Int)-1 then(rs[((s:Int)-1-x).toNat]?).map fun(i:Nat)=>(i:Int)else none
def YZ (rest:List Nat) (st:(Int->Option Int) × Nat) (at_:Nat):(Int->Option Int) × Nat :=
  if(st.1 at_).isSome then st else((λx=>if x=(at_:Int)then some (((rest[st.2]?).getD 0:Nat):Int)else st.1 x),st.2+1)
def QC (rest:List Nat) (f:Int->Option Int) (pre:List Nat):(Int->Option Int) × Nat:=pre.foldl (YZ rest) (f,0)
theorem Jg (rest:List Nat) (f:Int->Option Int) (pre:List Nat) (x:Nat):QC rest f (pre++[x])=YZ rest (QC rest f pre) x:=by
 unfold QC;rw [List.foldl_append];rfl
def Qi (lg:Nat) (N:List Int):List Int :=
  (List.range (2^lg)).map fun(at_:Nat)=>((QC (Qo N) (Ql (2^lg) (Qw N)) (Y8 (2^lg))).1 (at_:Int)).getD 0
@[simp] theorem QaE (lg:Nat) (N:List Int):(Qi lg N).length=2^lg:=by simp [Qi]
theorem VH {s:Nat} {rs:List Nat} {i:Nat}:(λx:Int=>if x=(s:Int)-1-rs.length then some (i:Int)else Ql s rs x)=Ql s (rs++[i]):=by
 funext x
 unfold Ql;by_cases h1:x<=(s:Int)-1
 . rw [if_pos h1,if_pos h1]
   by_cases h2:x=(s:Int)-1-rs.length
   . rw [if_pos h2,show((s:Int)-1-x).toNat=rs.length by omega]
     simp
   rw [if_neg h2,List.getElem?_append];by_cases h3:((s:Int)-1-x).toNat<rs.length
   . rw [if_pos h3]
   rw [if_neg h3,List.getElem?_eq_none (by omega),List.getElem?_eq_none (by simp;omega)]
 rw [if_neg h1,if_neg h1,if_neg (by omega)]
theorem Q6z {s:Nat} {rs:List Nat} {x:Int} (hx:0<=x/\x<s):(Ql s rs x).isSome=decide ((s:Int)-rs.length<=x):=by
 unfold Ql;rw [if_pos (by omega),Option.isSome_map];by_cases h:(s:Int)-rs.length<=x
 . rw [decide_eq_true h,List.getElem?_eq_getElem (by omega)];rfl
 rw [decide_eq_false h,List.getElem?_eq_none (by omega)];rfl
theorem VL (rest:List Nat) (f:Int->Option Int):∀(pre:List Nat),pre.Nodup ->
   (∀x:Nat,((QC rest f pre).1 x).isSome=((f x).isSome||decide (x∈pre)))/\(QC rest f pre).2=(pre.filter fun(x:Nat)=>!(f x).isSome).length:=by
 intro pre
 induction hn:pre.length generalizing pre with
 | zero =>
   intro _;have:pre=[]:=List.eq_nil_of_length_eq_zero hn;subst this;exact⟨λx=>by simp [QC],rfl⟩
 | succ n ih =>
   intro hd;obtain⟨q,y,rfl⟩:∃q y,pre=q++[y]:=⟨pre.dropLast,pre.getLast (by intro h;subst h;simp at hn),(List.dropLast_concat_getLast _).symm⟩;(have hq:q.length=n:=by simpa using hn);rw [List.nodup_append]at hd;obtain⟨h1,h2⟩:=ih q hq hd.1;have hy:y ∉ q:=λh=>hd.2.2 y h y (by simp) rfl;rw [Jg];unfold YZ;have h3:=h1 y;rw [decide_eq_false hy,Bool.or_false]at h3;rw [h3];by_cases hf:(f y).isSome
   . rw [if_pos hf]
     refine⟨λx=>?_,?_⟩
     . rw [h1 x]
       by_cases hxy:x=y
       . subst hxy;simp [hf]
       simp [hxy]
     (have e:(List.filter (fun(x:Nat)=>!(f x).isSome) [y]).length=0:=by simp only [List.filter_cons,hf];rfl);rw [h2,List.filter_append,List.length_append,e];rfl
   rw [if_neg hf];refine⟨λx=>?_,?_⟩
   . simp only
     by_cases hxy:x=y
     . subst hxy;simp
     rw [if_neg (by omega),h1 x];simp [hxy]
   (have hf':(f y).isSome=false:=by simpa using hf);(have e:(List.filter (fun(x:Nat)=>!(f x).isSome) [y]).length=1:=by simp only [List.filter_cons,hf'];rfl);simp only;rw [h2,List.filter_append,List.length_append,e]
theorem Q15:∀(m:Nat) (l:List Nat),l.Nodup->(∀x∈l,x<m)->l.length<=m
 | 0,l,_,h=>by
   cases l with
   | nil=>exact Nat.le_refl _
   | cons x l=>have:=h x (by simp);omega
 | m+1,l,hd,h=>by
   have h1:=Q15 m (l.erase m) (hd.erase m) λx hx=>by
     have h2:=h x (List.mem_of_mem_erase hx)
     have h3:x≠m:=λe=>by
       subst e
       exact(List.Nodup.mem_erase_iff hd).1 hx |>.1 rfl
     omega
   have h4:=List.length_erase (a:=m) (l:=l)
   split at h4<;>omega
theorem Q6A {s:Nat} {rest rs:List Nat} {pre:List Nat} {x:Nat} (hd:(pre++[x]).Nodup) (hlt:∀y∈pre++[x],y<s) (hR:rs.length+rest.length=s)
   (hn:((QC rest (Ql s rs) pre).1 x).isSome=false):(QC rest (Ql s rs) pre).2<rest.length:=by
 have hd1:=(List.nodup_append.1 hd).1;obtain⟨h1,h2⟩:=VL rest (Ql s rs) pre hd1;rw [h1 x]at hn;have hx:=hlt x (by simp)
 have hfx:(Ql s rs x).isSome=false:=by
   cases hq:(Ql s rs x).isSome
   . rfl
   rw [hq]at hn;simp at hn
 have h3:((pre++[x]).filter fun(y:Nat)=>!(Ql s rs y).isSome).length=(QC rest (Ql s rs) pre).2+1:=by
   (have e:(List.filter (fun(y:Nat)=>!(Ql s rs y).isSome) [x]).length=1:=by simp only [List.filter_cons,hfx];rfl);rw [h2,List.filter_append,List.length_append,e]
 have h4:=Q15 rest.length ((pre++[x]).filter fun(y:Nat)=>!(Ql s rs y).isSome) (hd.filter _) λy hy=>by
   obtain⟨hm,hf⟩:=List.mem_filter.1 hy;have hys:=hlt y hm;rw [Q6z (by omega)]at hf;simp at hf;omega
 omega
theorem Km:∀lg:Nat,lg<=9->(Y8 (2^lg)).Nodup:=by
 (have h:∀lg:Fin 10,(Y8 (2^lg.val)).Nodup:=by decide +kernel);exact λlg hl=>h ⟨lg,by omega⟩
theorem Xf {s x:Nat} (hs:0<s) (h:x∈Y8 s):x<s:=by
 unfold Y8 at h;obtain⟨k,_,rfl⟩:=List.mem_map.1 h;exact Nat.mod_lt _ hs
@[simp] theorem Q0m (s:Nat):(Y8 s).length=s:=by simp [Y8]
def Ki (R M:List Int) (k:Nat):List Int:=R.take k++M.drop k
theorem Q2O (R M:List Int):Ki R M 0=M:=by simp [Ki]
theorem Q3Y {R M:List Int} (h:R.length=M.length):Ki R M M.length=R:=by
 unfold Ki;rw [List.drop_eq_nil_of_le (Nat.le_refl _),List.append_nil,List.take_of_length_le (by omega)]
theorem Q3W {R M:List Int} {k:Nat} (h:R.length=M.length) (hk:k<M.length):(Ki R M k)[k]?=M[k]?:=by
 unfold Ki;rw [List.getElem?_append_right (by simp;omega),List.length_take,List.getElem?_drop]
 congr 1
 omega
theorem Q3X {R M:List Int} {k:Nat} (h:R.length=M.length) (hk:k<M.length) (x:Int) (hx:R[k]?=some x):(Ki R M k).set k x=Ki R M (k+1):=by
 apply List.ext_getElem?;intro i;rw [List.getElem?_set];unfold Ki;by_cases hi:k=i
 . subst hi
   rw [if_pos rfl,if_pos (by simp;omega),List.getElem?_append_left (by simp;omega),List.getElem?_take,if_pos (by omega),hx]
 rw [if_neg hi];by_cases h2:i<k
 . rw [List.getElem?_append_left (by simp;omega),List.getElem?_append_left (by simp;omega),List.getElem?_take,List.getElem?_take,if_pos h2,if_pos (by omega)]
 rw [List.getElem?_append_right (by simp;omega),List.getElem?_append_right (by simp;omega),List.length_take,List.length_take,List.getElem?_drop,List.getElem?_drop]
 congr 1
 omega
def VR (B:List Int) (k:Nat):List Int:=Ki B (List.replicate B.length 0) k
theorem Q8w (B:List Int):VR B 0=List.replicate B.length 0:=Q2O _ _
theorem Q9L (B:List Int):VR B B.length=B:=by
 have h:=Q3Y (R:=B) (M:=List.replicate B.length 0) (by simp);rw [List.length_replicate]at h;exact h
theorem Q9M {B:List Int} {k:Nat} (h:k<B.length):(VR B k)[k]?=some 0:=by
 unfold VR;rw [Q3W (by simp) (by simpa using h)];simp [h]
theorem Q9N {B:List Int} {k:Nat} (h:k<B.length):(VR B k).set k B[k]=VR B (k+1) :=
 Q3X (by simp) (by simpa using h) _ (List.getElem?_eq_getElem h)
theorem Blk.rdg {w:World} {g:Nat} {t:TypeId} {N:List Int} {n:Nat} (h:Blk w g t (Q7 N).toArray) (hn:N.length=n):Rd w (λb=>b=g) (some ⟨g,0,none⟩) n (Q7 N) :=
 ⟨by simpa using hn,λ_=>⟨g,0,rfl,rfl,h.lt,λj hj=>by rw [Nat.zero_add,h.cell];simp⟩⟩
theorem Xy {M:List Int} {k:Nat} (x:Int):(Q7 M).toArray.setIfInBounds k (.int .i64 x)=(Q7 (M.set k x)).toArray:=by
 apply Array.toList_inj.1;simp [Q7,List.map_set]
theorem QaD (F:Nat->Prop) (g:Nat) (bs:List Nat) (at_:Nat) (w:World) (hc:Q4 w F g bs at_) :
   Calls prog 28 #[.pointer (some ⟨g,0,none⟩)] w λe w'=>e = .returned (.int .i64 at_)/\w=w':=by
 obtain⟨A,c,hb,hr,hlt,hat,hlen,hcap⟩:=hc;obtain⟨hc0,hc1⟩:=(hb).cells2;have HB:=hd_ hb;clear hb hr hlt hlen;go_enter func28,ntmps28;go_wp2_with fail;(try go_ret);exact⟨rfl,rfl⟩
end Go.Proofs.YtckjdhaflokcgaaGreat
