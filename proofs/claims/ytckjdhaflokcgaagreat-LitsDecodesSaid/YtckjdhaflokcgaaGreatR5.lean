/- Contracts and plain lemmas, part 5. Conditions: none beyond those of each. -/
import Derived.Lib.AppendZerosOnto
import Derived.Test.YtckjdhaflokcgaaGreatR0
import Derived.Test.YtckjdhaflokcgaaGreatR3
set_option maxHeartbeats 4000000
set_option linter.unusedVariables false
set_option linter.unusedSimpArgs false
set_option linter.unnecessarySimpa false
set_option maxRecDepth 100000
namespace Go.Proofs.YtckjdhaflokcgaaGreat
open Go.RowKit Go.Proofs.Tryz
theorem KI (z:Value) (k:Nat) (hz:z.cells=#[z]):Builtin.zeroCells z.cells k=(List.replicate k z).toArray:=by
 rw [hz];apply Array.ext
 . simp [Builtin.zeroCells]
 intro i h1 h2;simp [Builtin.zeroCells,Nat.mod_one]
theorem Q3d {P:Program} (w:World) (t tn ty e:TypeId) (z:Value) (Q2:Nat) (kq kn:IntKind) (ht:P.underlying t=some (.slice e)) (htn:P.underlying tn=some (.int kn))
   (hi:(P.info? e).map (λi=>(i.zero,i.size,i.bytes))=some (some z,1,Q2)) (hz1:z.cells=#[z]) (ho1:z.oneCell'=true)
   (v:Value) (xs:List Value) (hown:Own w e v xs) (k:Nat) (hb:Q2<=64) (hlen:xs.length+k<=2^40) :
   ∃v' w',(Builtin.append_ #[t,tn] ty #[v,.int kq k]).run P w = .ok v' w'/\Own w' e v' (xs++List.replicate k z)/\w.grownBy w' v.ownBlock /\
     (v'.ownBlock=v.ownBlock\/v'.ownBlock=some w.heap.size):=by
 obtain⟨i,hi0,hz,hsize,hby⟩:=info_parts hi;(have hw:IntKind.i64.wrap (k:Int)=k:=by rw [IntKind.wrap_i64];omega)
 have hkb:k*Q2<=281474976710656:=by
   calc k*Q2<=2^40*64:=Nat.mul_le_mul (by omega) hb
     _<=281474976710656:=by decide
 have hkb':¬(281474976710656<(k:Int)*(Q2:Int)):=by
   rw [<-Int.natCast_mul];omega
 have fit:∀cap,cap<xs.length+k->Builtin.nextslicecap (xs.length+k) cap*Q2<=281474976710656:=λcap hc=>by
   calc Builtin.nextslicecap (xs.length+k) cap*Q2<=(2*2^40)*64:=Nat.mul_le_mul (Nat.le_trans (nextslicecap_le hc) (Nat.mul_le_mul_left 2 hlen)) hb
     _<=281474976710656:=by decide
 (have hzl:(xs++List.replicate k z).length=xs.length+k:=by simp);rcases Nat.eq_zero_or_pos k with h0|h0
 . subst h0
   (have hw0:IntKind.i64.wrap 0=0:=by rw [IntKind.wrap_i64];omega);refine⟨v,w,?_,by simpa using hown,World.grownBy.refl w _,.inl rfl⟩;rcases hown.2 with ⟨rfl,h00⟩|⟨g,cap,cur,rfl,_,_,hnc,_⟩
   . simp [Builtin.append_,run_underlying ht,run_underlying htn,sizeOf,typeInfo,hi0,asInt,asIntOf,hw0]
   simp [Builtin.append_,run_underlying ht,run_underlying htn,sizeOf,typeInfo,hi0,asInt,asIntOf,hw0,hnc,storeCells]
 have grown:∀(old:Nat),old<xs.length+k->∀row,
     Own (w.drew.alloc (.cells (xs.toArray++Builtin.zeroCells z.cells k++Builtin.zeroCells z.cells (grownCap w (xs.length+k) old e-(xs.length+k))) e)) e
       (.slice (some ⟨w.heap.size,0,none⟩) (xs.length+k) (grownCap w (xs.length+k) old e)) (xs++List.replicate k z) /\
     w.grownBy (w.drew.alloc (.cells (xs.toArray++Builtin.zeroCells z.cells k++Builtin.zeroCells z.cells (grownCap w (xs.length+k) old e-(xs.length+k))) e)) row:=by
   intro old ho row;have hge:=grownCap_ge w (xs.length+k) old e;have hcm:grownCap w (xs.length+k) old e<=maxLen:=grownCap_le_maxLen w (xs.length+k) old e (by simp only [maxLen];omega);refine⟨⟨by simp,.inr ⟨w.heap.size,_,_,by rw [hzl],Nat.zero_le _,heap_alloc_new w.drew _,by rw [hzl];exact hge,hcm,?_,?_⟩⟩,⟨rfl,rfl,rfl,by simp,λj hj _=>Below.heap_alloc w.drew _ j hj⟩⟩
   . simp only [KI z _ hz1,Array.size_append,List.size_toArray,List.length_replicate]
     omega
   simp only [KI z _ hz1,Array.toList_append];rw [List.take_append_of_le_length (by simp)];apply List.take_of_length_le;simp
 rcases hown.2 with ⟨rfl,h00⟩|⟨g,cap,cur,rfl,hbg,hg,hnc,hcm,hcs,htake⟩
 . have hx:xs=[]:=List.eq_nil_of_length_eq_zero h00
   subst hx
   have hr:=Lib.run_append_grow_zeros (P:=P) w t tn ty e i z kq kn ht htn hi0 hz none 0 0 [] (by simp [Builtin.firstCells]) k h0 (by omega) (by omega) (by omega) (by rw [hby];exact hkb)
     (by rw [hby];simpa using fit 0 (by simpa using h0))
   have hgr:=grown 0 (by simpa using h0) (Value.ownBlock (.slice none 0 0));simp only [List.length_nil,Nat.zero_add]at hgr hr;exact⟨_,_,hr,hgr.1,hgr.2,.inr rfl⟩
 by_cases hroom:xs.length+k<=cap
 . have hst:=run_storeCells_at P g (xs.length*1) e (List.replicate k z) 0 cur w hg (by simp;omega) (by intro u hu;rw [(List.mem_replicate.1 hu).2];exact ho1)
   simp only [Nat.add_zero]at hst;(have hk0:k≠0:=by omega);(have hneg:¬((k:Int)<0):=by omega);(have hkb2:¬(281474976710656<(k:Int)*(i.bytes:Int)):=by rw [hby];exact hkb');refine⟨.slice (some ⟨g,0,none⟩) (xs.length+k) cap,w.setRow g (cur.toList.take (xs.length*1)++List.replicate k z++cur.toList.drop (xs.length*1+(List.replicate k z).length)).toArray,?_,?_,?_,.inl rfl⟩
   . simp only [Nat.mul_one]at hst
     simp [Builtin.append_,run_underlying ht,run_underlying htn,sizeOf,typeInfo,zeroValue,hi0,hz,asInt,asIntOf,hw,hneg,hkb2,hroom,KI z _ hz1,Addr.add_lit,hsize,hst,hk0]
   . refine⟨by simp,.inr ⟨g,cap,_,by rw [hzl],Nat.zero_le _,setRow_heap w g cur _ e _ hg,by rw [hzl];exact hroom,hcm,?_,?_⟩⟩
     . simp;omega
     have ht1:cur.toList.take (xs.length*1)=xs:=htake;rw [ht1,hzl,Nat.mul_one];rw [<-hzl];exact List.take_left
   exact⟨rfl,rfl,rfl,by simp,λj _ hj=>setRow_other w g j _ (λe=>hj (by simp [Value.ownBlock,e]))⟩
 have hfc:(Builtin.firstCells i.size xs.length (.slice (some ⟨g,0,none⟩) xs.length cap)).run P w.drew = .ok xs.toArray w.drew:=by
   have:=run_firstCells_some (P:=P) w.drew i.size xs.length ⟨g,0,none⟩ xs.length cap xs (by rw [hsize];simp) (λj u hu=>by
     rw [Addr.add_lit,Nat.zero_add,World.cell?_drew,cell_of_row w g j cur e (0,0) hg];have hj:=(List.getElem?_eq_some_iff.1 hu).1;have h2:=congrArg (λl=>l[j]?) htake;simp only [List.getElem?_take,Nat.mul_one,if_pos hj]at h2
     rw [<-hu,<-h2];simp)
   exact this
 have hr:=Lib.run_append_grow_zeros (P:=P) w t tn ty e i z kq kn ht htn hi0 hz (some ⟨g,0,none⟩) xs.length cap xs hfc k h0 (by omega) (by omega) (by omega) (by rw [hby];exact hkb)
   (by rw [hby];exact fit cap (by omega))
 have hgr:=grown cap (by omega) (Value.ownBlock (.slice (some ⟨g,0,none⟩) xs.length cap));exact⟨_,_,hr,hgr.1,hgr.2,.inr rfl⟩
theorem Vg {P:Program} (w:World) {ops:Array Oper} {rest:List Oper} {o:Oper} {a:Act} {Q:Exit->Act->World->Prop} (hgd:o.guard=none) (s x:Operand) (t tn:TypeId)
   (ho:o.op = .call { callee:=.builtin .append,args:=#[s,x],argTypes:=#[t,tn] })
   (e:TypeId) (z:Value) (Q2:Nat) (kq kn:IntKind) (ht:P.underlying t=some (.slice e)) (htn:P.underlying tn=some (.int kn))
   (hi:(P.info? e).map (λi=>(i.zero,i.size,i.bytes))=some (some z,1,Q2)) (hz1:z.cells=#[z]) (ho1:z.oneCell'=true)
   (v:Value) (xs:List Value) (hs:a.eval s=v) (hown:Own w e v xs) (k:Nat) (hx:a.eval x = .int kq k) (hb:Q2<=64) (hlen:xs.length+k<=2^40)
   (h:∀v' w',Own w' e v' (xs++List.replicate k z)->w.grownBy w' v.ownBlock->(v'.ownBlock=v.ownBlock\/v'.ownBlock=some w.heap.size)->wpList P ops Q rest (a.put o.dst v') w') :
   wpList P ops Q (o::rest) a w:=by
 obtain⟨v',w',hrun,h2,h3,h4⟩:=Q3d (P:=P) w t tn o.type e z Q2 kq kn ht htn hi hz1 ho1 v xs hown k hb hlen;exact Lib.wpList_append_run w hgd s x t tn ho v (.int kq k) hs hx v' w' hrun (h v' w' h2 h3 h4)
theorem Q4V (g H:Nat) (at_ a':Nat) (x:Value) (er:Int) (her:(er == 0)=false) (A:Option Addr) (n c:Nat) (u:FrameMode) (w:World)
   (b0:Blk w H 46 #[.pointer (some ⟨g,0,none⟩)]) (b1:Blk w (H+1) 22 #[x]) (b2:Blk w (H+1+1) 24 #[.int .i64 er]) (b3:Blk w (H+1+1+1) 3 #[.int .i64 at_])
   (bg:Blk w g 96 #[.slice A n c,.int .i64 a']) (hg:g<H) :
   CallsD prog 118 #[.pointer (some ⟨H+1+1,0,none⟩),.pointer (some ⟨H+1+1+1,0,none⟩),.pointer (some ⟨H+1,0,none⟩),.pointer (some ⟨H,0,none⟩)] u w λe u' w'=>u'=u/\(e = .returned (.tuple #[]) /\
     w'=(w.setCell ⟨H+1,0,none⟩ (.slice none 0 0)).setCell ⟨g,1,none⟩ (.int .i64 at_)):=by
 have c0:=b0.cell0;have c1:=b1.cell0;have c2:=b2.cell0;have c3:=b3.cell0;have z1:=b1.frozen 0;have zg:=bg.frozen 1;have g1:=bg.cell 1;simp at g1;go_enter_d func118,ntmps118;go_wp2;go_end0;exact⟨rfl,rfl⟩
theorem Q7f (F:Nat->Prop) (g:Nat) (bs:List Nat) (at_ cf:Nat) (caps:Array Value) (er:Int) (w:World) (hcu:Q4 w F g bs at_) (hcf:∀args W,(callFunc cf args).run prog W = .ok (.enter cf args) W) (hF:∀b,F b->b≠g) (her:er≠0)
   (HC:∀W,Q0 w W->Q4 W (λb=>F b/\b<w.heap.size) g bs at_->Calls prog cf caps W λe w'=>∃A1 n1 c1,∃a':Nat,e = .returned (.tuple #[.slice A1 n1 c1,.int .i64 er])/\Upd (λb=>b=g) W w'/\Q4 w' (λb=>F b/\b<w.heap.size) g bs a') :
   Calls prog 62 #[.pointer (some ⟨g,0,none⟩),.func (.func cf) #[] caps] w λe w'=>e = .returned (.tuple #[.slice none 0 0,.int .i64 er])/\Upd (λb=>b=g) w w'/\Q4 w' F g bs at_:=by
 (have herb:(er == 0)=false:=by simpa using her);have hmf:∀(fn:Fn) (first cap:Array Value) (w:World),(Instr.makeFunc fn first cap).run prog w = .ok (.func fn first cap) w:=λ_ _ _ _=>rfl;have hg:=hcu.lt
 have hat:w.cell? ⟨g,1,none⟩=some (.int .i64 at_):=by
   obtain⟨A,c,hb,_⟩:=hcu;simpa using hb.cell 1
 have HCU:=hd_ hcu;have HCL:=hd_ HC;clear hcu HC;(have hg1:g<w.heap.size+1:=by omega);(have hg2:g<w.heap.size+1+1:=by omega);(have hg3:g<w.heap.size+1+1+1:=by omega);refine Q8 λR hR=>?_;go_enter_defers func62,ntmps62;go_wp2_with fail;obtain⟨H,hH⟩:=nm_ (w.heap.size);rw [<-hH]at hg hg1 hg2 hg3;simp only [<-hH];obtain⟨W0,hW0⟩:=nm_ ((((w.alloc (.cells #[.pointer (some ⟨g,0,none⟩)] 46)).alloc (.cells #[.slice none 0 0] 22)).alloc (.cells #[.int .i64 0] 24)).alloc (.cells #[.int .i64 at_] 3));rw [<-hW0];(have f0:Q0 w W0:=by rw [hW0];exact((((Upd.refl _ w).alloc _).alloc _).alloc _).alloc _);(have k0:Blk W0 H 46 #[.pointer (some ⟨g,0,none⟩)]:=by rw [hW0];exact(((Qb (by simp [hH]) _ _).alloc _).alloc _).alloc _);(have k1:Blk W0 (H+1) 22 #[.slice none 0 0]:=by rw [hW0];exact((Qb (by simp [hH]) _ _).alloc _).alloc _);(have k2:Blk W0 (H+1+1) 24 #[.int .i64 0]:=by rw [hW0];exact(Qb (by simp [hH]) _ _).alloc _);(have k3:Blk W0 (H+1+1+1) 3 #[.int .i64 at_]:=by rw [hW0];exact Qb (by simp [hH]) _ _);(have hsz:H+4<=W0.heap.size:=by rw [hW0];simp [hH]);clear hW0;have HH:=hd_ hH;clear hH;refine(HCL W0 f0 (HCU.both.fresh f0)).mono ?_;rintro e w1 ⟨A1,n1,c1,a',rfl,u1,cu1⟩;have UU:=hd_ ((f0.mono (T:=λb=>b=g) (λ_ _ h=>h.elim)).trans' u1);have CU1:=hd_ cu1;have j0:=k0.upd u1 (by omega);have j1:=k1.upd u1 (by omega);have j2:=k2.upd u1 (by omega);have j3:=k3.upd u1 (by omega);have d1:=j1.cell0;have d2:=j2.cell0;have z1:=j1.frozen 0;have z2:=j2.frozen 0;have J0:=hd_ j0;have J1:=hd_ j1;have J2:=hd_ j2;have J3:=hd_ j3;have HER:=hd_ herb;clear j0 j1 j2 j3 k0 k1 k2 k3 HCL u1 f0 herb cu1;go_wp2;have L0:=(J0.far (p:=⟨H+1,0,none⟩) (by simp) (.slice A1 n1 c1)).far (p:=⟨H+1+1,0,none⟩) (by simp;omega) (.int .i64 er);have L1:=(J1.set_ 0 (.slice A1 n1 c1)).far (p:=⟨H+1+1,0,none⟩) (by simp) (.int .i64 er);have L2:=(J2.far (p:=⟨H+1,0,none⟩) (by simp) (.slice A1 n1 c1)).set_ 0 (.int .i64 er);have L3:=(J3.far (p:=⟨H+1,0,none⟩) (by simp;omega) (.slice A1 n1 c1)).far (p:=⟨H+1+1,0,none⟩) (by simp) (.int .i64 er)
 have us:Upd (λb=>b=H+1\/b=H+1+1) w1 ((w1.setCell ⟨H+1,0,none⟩ (.slice A1 n1 c1)).setCell ⟨H+1+1,0,none⟩ (.int .i64 er)) :=
   ((Upd.refl (λb=>b=H+1\/b=H+1+1) w1).setCell (p:=⟨H+1,0,none⟩) (λ_=>.inl rfl) _).setCell (p:=⟨H+1+1,0,none⟩) (λ_=>.inr rfl) _
 have u3:=UU.trans us (λb hb h=>by have:=HH.out;omega);change Leaves _ _ _ _ _ _ _;refine leaves_cons (f:=118) (args:=#[.pointer (some ⟨H+1+1,0,none⟩),.pointer (some ⟨H+1+1+1,0,none⟩),.pointer (some ⟨H+1,0,none⟩),.pointer (some ⟨H,0,none⟩)]) (by simp) (by simp [go_sem]) ?_;have c3:=CU1.upd us (by have:=HH.out;omega) (λb hb hb2 hb3=>by have:=hb2.2;have:=HH.out;omega);obtain⟨A,c,hb,hr,hq⟩:=c3;refine(Q4V g H at_ a' (.slice A1 n1 c1) er HER.out A bs.length c .returning _ (by simpa using L0) (by simpa using L1) (by simpa using L2) (by simpa using L3) hb hg).mono ?_;rintro e u' w'' ⟨rfl,rfl,rfl⟩;refine⟨.tuple #[.slice none 0 0,.int .i64 er],?_,hR _ _ ⟨rfl,?_,?_⟩⟩
 . have M1:=((L1.set_ 0 (.slice none 0 0)).far (p:=⟨g,1,none⟩) (by simp;omega) (.int .i64 at_))
   have M2:=((L2.far (p:=⟨H+1,0,none⟩) (by simp) (.slice none 0 0)).far (p:=⟨g,1,none⟩) (by simp;omega) (.int .i64 at_));have q1:=M1.cell0;have q2:=M2.cell0;simp [results,results62,go_sem,q1,q2]
 . exact(u3.setCell (p:=⟨H+1,0,none⟩) (λh=>by have:=HH.out;simp at h;omega) (.slice none 0 0)).setCell (p:=⟨g,1,none⟩) (λ_=>rfl) (.int .i64 at_)
 have c4:Q4 _ (λb=>F b/\b<w.heap.size) g bs a':=⟨A,c,hb,hr,hq⟩;have c5:=c4.upd (S:=λb=>b=H+1) ((Upd.refl (λb=>b=H+1) _).setCell (p:=⟨H+1,0,none⟩) (λ_=>rfl) (.slice none 0 0)) (by omega) (λb _ hb e=>by have:=hb.2;have:=HH.out;omega);obtain⟨A,c,hb,hr,hq⟩:=c5;(have hle:at_<=bs.length:=by obtain⟨_,_,_,_,_,h,_⟩:=HCU.out;exact h);refine⟨A,c,?_,?_,hq.1,hle,hq.2.2⟩
 . have:=hb.set_ 1 (.int .i64 at_)
   simpa using this
 exact(hr.upd (S:=λb=>b=g) ((Upd.refl (λb=>b=g) _).setCell (p:=⟨g,1,none⟩) (λ_=>rfl) (.int .i64 at_)) (λb _ hb e=>hF b hb.1 e)).mono λb hb=>hb.1
theorem Q4W (pe pf px pc:Addr) (u:FrameMode) (w:World) (he:w.cell? pe=some (.int .i64 0)) :
   CallsD prog 261 #[.pointer (some pe),.pointer (some pf),.pointer (some px),.pointer (some pc)] u w λe u' w'=>u'=u/\(e = .returned (.tuple #[])/\w'=w):=by
 go_enter_d func261,ntmps261;go_wp2;go_end0;exact⟨rfl,rfl⟩
theorem Q4X (g H:Nat) (at_ a':Nat) (x:Value) (er:Int) (her:(er == 0)=false) (A:Option Addr) (n c:Nat) (u:FrameMode) (w:World)
   (b0:Blk w H 46 #[.pointer (some ⟨g,0,none⟩)]) (b1:Blk w (H+1) 46 #[x]) (b2:Blk w (H+1+1) 24 #[.int .i64 er]) (b3:Blk w (H+1+1+1) 3 #[.int .i64 at_])
   (bg:Blk w g 96 #[.slice A n c,.int .i64 a']) (hg:g<H) :
   CallsD prog 261 #[.pointer (some ⟨H+1+1,0,none⟩),.pointer (some ⟨H+1+1+1,0,none⟩),.pointer (some ⟨H+1,0,none⟩),.pointer (some ⟨H,0,none⟩)] u w λe u' w'=>u'=u/\(e = .returned (.tuple #[]) /\
     w'=(w.setCell ⟨H+1,0,none⟩ (.pointer none)).setCell ⟨g,1,none⟩ (.int .i64 at_)):=by
 have c0:=b0.cell0;have c1:=b1.cell0;have c2:=b2.cell0;have c3:=b3.cell0;have z1:=b1.frozen 0;have zg:=bg.frozen 1;have g1:=bg.cell 1;simp at g1;go_enter_d func261,ntmps261;go_wp2;go_end0;exact⟨rfl,rfl⟩
theorem Q7g (F:Nat->Prop) (g:Nat) (bs:List Nat) (at_ cf:Nat) (caps:Array Value) (w:World) (hcu:Q4 w F g bs at_) (hcf:∀args W,(callFunc cf args).run prog W = .ok (.enter cf args) W) (Q:Value->World->World->Prop)
   (HC:∀W,Q0 w W->w.heap.size+4<=W.heap.size->Calls prog cf caps W λe w'=>∃p1,e = .returned (.tuple #[.pointer p1,.int .i64 0])/\Upd (λb=>b=g) W w'/\Q (.pointer p1) W w') :
   Calls prog 219 #[.pointer (some ⟨g,0,none⟩),.func (.func cf) #[] caps] w λe w'=>∃p1,∃W w1,e = .returned (.tuple #[.pointer p1,.int .i64 0])/\Q (.pointer p1) W w1/\Q0 w W/\w.heap.size+4<=W.heap.size/\Upd (λb=>b=w.heap.size+1\/b=w.heap.size+2) w1 w'/\Upd (λb=>b=g) w w':=by
 have hmf:∀(fn:Fn) (first cap:Array Value) (w:World),(Instr.makeFunc fn first cap).run prog w = .ok (.func fn first cap) w:=λ_ _ _ _=>rfl;have hg:=hcu.lt
 have hat:w.cell? ⟨g,1,none⟩=some (.int .i64 at_):=by
   obtain⟨A,c,hb,_⟩:=hcu;simpa using hb.cell 1
 have HCU:=hd_ hcu;have HCL:=hd_ HC;clear hcu HC;(have hg1:g<w.heap.size+1:=by omega);(have hg2:g<w.heap.size+1+1:=by omega);(have hg3:g<w.heap.size+1+1+1:=by omega);refine Q8 λR hR=>?_;go_enter_defers func219,ntmps219;go_wp2_with fail;obtain⟨H,hH⟩:=nm_ (w.heap.size);rw [<-hH]at hg hg1 hg2 hg3;simp only [<-hH];obtain⟨W0,hW0⟩:=nm_ ((((w.alloc (.cells #[.pointer (some ⟨g,0,none⟩)] 46)).alloc (.cells #[.pointer none] 46)).alloc (.cells #[.int .i64 0] 24)).alloc (.cells #[.int .i64 at_] 3));rw [<-hW0];(have f0:Q0 w W0:=by rw [hW0];exact((((Upd.refl _ w).alloc _).alloc _).alloc _).alloc _);(have k0:Blk W0 H 46 #[.pointer (some ⟨g,0,none⟩)]:=by rw [hW0];exact(((Qb (by simp [hH]) _ _).alloc _).alloc _).alloc _);(have k1:Blk W0 (H+1) 46 #[.pointer none]:=by rw [hW0];exact((Qb (by simp [hH]) _ _).alloc _).alloc _);(have k2:Blk W0 (H+1+1) 24 #[.int .i64 0]:=by rw [hW0];exact(Qb (by simp [hH]) _ _).alloc _);(have k3:Blk W0 (H+1+1+1) 3 #[.int .i64 at_]:=by rw [hW0];exact Qb (by simp [hH]) _ _);(have hsz:H+4<=W0.heap.size:=by rw [hW0];simp [hH]);clear hW0;have HH:=hd_ hH;clear hH;refine(HCL W0 f0 (by have:=HH.out;omega)).mono ?_;rintro e w1 ⟨p1,rfl,u1,q1⟩;have j1:=k1.upd u1 (by omega);have j2:=k2.upd u1 (by omega);have uu:Upd (λb=>b=g) w w1:=(f0.mono (λ_ _ h=>h.elim)).trans' u1;have d1:=j1.cell0;have d2:=j2.cell0;have z1:=j1.frozen 0;have z2:=j2.frozen 0;have J1:=hd_ j1;have J2:=hd_ j2;have HQ:=hd_ q1;have F0:=hd_ f0;have HSZ:=hd_ hsz;clear j1 j2 k0 k1 k2 k3 q1 HCL f0 hsz;go_wp2;have L1:=(J1.set_ 0 (.pointer p1)).far (p:=⟨H+1+1,0,none⟩) (by simp) (.int .i64 0);have L2:=(J2.far (p:=⟨H+1,0,none⟩) (by simp) (.pointer p1)).set_ 0 (.int .i64 0);have hd2:=L2.cell0;have hd1:=L1.cell0;change Leaves _ _ _ _ _ _ _;refine leaves_cons (f:=261) (args:=#[.pointer (some ⟨H+1+1,0,none⟩),.pointer (some ⟨H+1+1+1,0,none⟩),.pointer (some ⟨H+1,0,none⟩),.pointer (some ⟨H,0,none⟩)]) (by simp) (by simp [go_sem]) ?_;refine(Q4W _ _ _ _ .returning _ hd2).mono ?_;rintro e u' w'' ⟨rfl,rfl,rfl⟩
 have us:Upd (λb=>b=w.heap.size+1\/b=w.heap.size+2) w1 ((w1.setCell ⟨H+1,0,none⟩ (.pointer p1)).setCell ⟨H+1+1,0,none⟩ (.int .i64 0)) :=
   ((Upd.refl (λb=>b=w.heap.size+1\/b=w.heap.size+2) w1).setCell (p:=⟨H+1,0,none⟩) (λ_=>.inl (by have:=HH.out;simp;omega)) _).setCell (p:=⟨H+1+1,0,none⟩) (λ_=>.inr (by have:=HH.out;simp;omega)) _
 refine⟨.tuple #[.pointer p1,.int .i64 0],?_,hR _ _ ⟨_,W0,w1,rfl,HQ.out,F0.out,by have:=HH.out;have:=HSZ.out;omega,us,uu.trans us (λb hb h=>by omega)⟩⟩;simp [results,results219,go_sem,hd1,hd2]
theorem Q7h (F:Nat->Prop) (g:Nat) (bs:List Nat) (at_ cf:Nat) (caps:Array Value) (er:Int) (w:World) (hcu:Q4 w F g bs at_) (hcf:∀args W,(callFunc cf args).run prog W = .ok (.enter cf args) W) (hF:∀b,F b->b≠g) (her:er≠0)
   (HC:∀W,Q0 w W->Q4 W (λb=>F b/\b<w.heap.size) g bs at_->Calls prog cf caps W λe w'=>∃p1,∃a':Nat,e = .returned (.tuple #[.pointer p1,.int .i64 er])/\Upd (λb=>b=g) W w'/\Q4 w' (λb=>F b/\b<w.heap.size) g bs a') :
   Calls prog 219 #[.pointer (some ⟨g,0,none⟩),.func (.func cf) #[] caps] w λe w'=>e = .returned (.tuple #[.pointer none,.int .i64 er])/\Upd (λb=>b=g) w w'/\Q4 w' F g bs at_:=by
 (have herb:(er == 0)=false:=by simpa using her);have hmf:∀(fn:Fn) (first cap:Array Value) (w:World),(Instr.makeFunc fn first cap).run prog w = .ok (.func fn first cap) w:=λ_ _ _ _=>rfl;have hg:=hcu.lt
 have hat:w.cell? ⟨g,1,none⟩=some (.int .i64 at_):=by
   obtain⟨A,c,hb,_⟩:=hcu;simpa using hb.cell 1
 have HCU:=hd_ hcu;have HCL:=hd_ HC;clear hcu HC;(have hg1:g<w.heap.size+1:=by omega);(have hg2:g<w.heap.size+1+1:=by omega);(have hg3:g<w.heap.size+1+1+1:=by omega);refine Q8 λR hR=>?_;go_enter_defers func219,ntmps219;go_wp2_with fail;obtain⟨H,hH⟩:=nm_ (w.heap.size);rw [<-hH]at hg hg1 hg2 hg3;simp only [<-hH];obtain⟨W0,hW0⟩:=nm_ ((((w.alloc (.cells #[.pointer (some ⟨g,0,none⟩)] 46)).alloc (.cells #[.pointer none] 46)).alloc (.cells #[.int .i64 0] 24)).alloc (.cells #[.int .i64 at_] 3));rw [<-hW0];(have f0:Q0 w W0:=by rw [hW0];exact((((Upd.refl _ w).alloc _).alloc _).alloc _).alloc _);(have k0:Blk W0 H 46 #[.pointer (some ⟨g,0,none⟩)]:=by rw [hW0];exact(((Qb (by simp [hH]) _ _).alloc _).alloc _).alloc _);(have k1:Blk W0 (H+1) 46 #[.pointer none]:=by rw [hW0];exact((Qb (by simp [hH]) _ _).alloc _).alloc _);(have k2:Blk W0 (H+1+1) 24 #[.int .i64 0]:=by rw [hW0];exact(Qb (by simp [hH]) _ _).alloc _);(have k3:Blk W0 (H+1+1+1) 3 #[.int .i64 at_]:=by rw [hW0];exact Qb (by simp [hH]) _ _);(have hsz:H+4<=W0.heap.size:=by rw [hW0];simp [hH]);clear hW0;have HH:=hd_ hH;clear hH;refine(HCL W0 f0 (HCU.both.fresh f0)).mono ?_;rintro e w1 ⟨p1,a',rfl,u1,cu1⟩;have UU:=hd_ ((f0.mono (T:=λb=>b=g) (λ_ _ h=>h.elim)).trans' u1);have CU1:=hd_ cu1;have j0:=k0.upd u1 (by omega);have j1:=k1.upd u1 (by omega);have j2:=k2.upd u1 (by omega);have j3:=k3.upd u1 (by omega);have d1:=j1.cell0;have d2:=j2.cell0;have z1:=j1.frozen 0;have z2:=j2.frozen 0;have J0:=hd_ j0;have J1:=hd_ j1;have J2:=hd_ j2;have J3:=hd_ j3;have HER:=hd_ herb;clear j0 j1 j2 j3 k0 k1 k2 k3 HCL u1 f0 herb cu1;go_wp2;have L0:=(J0.far (p:=⟨H+1,0,none⟩) (by simp) (.pointer p1)).far (p:=⟨H+1+1,0,none⟩) (by simp;omega) (.int .i64 er);have L1:=(J1.set_ 0 (.pointer p1)).far (p:=⟨H+1+1,0,none⟩) (by simp) (.int .i64 er);have L2:=(J2.far (p:=⟨H+1,0,none⟩) (by simp) (.pointer p1)).set_ 0 (.int .i64 er);have L3:=(J3.far (p:=⟨H+1,0,none⟩) (by simp;omega) (.pointer p1)).far (p:=⟨H+1+1,0,none⟩) (by simp) (.int .i64 er)
 have us:Upd (λb=>b=H+1\/b=H+1+1) w1 ((w1.setCell ⟨H+1,0,none⟩ (.pointer p1)).setCell ⟨H+1+1,0,none⟩ (.int .i64 er)) :=
   ((Upd.refl (λb=>b=H+1\/b=H+1+1) w1).setCell (p:=⟨H+1,0,none⟩) (λ_=>.inl rfl) _).setCell (p:=⟨H+1+1,0,none⟩) (λ_=>.inr rfl) _
 have u3:=UU.trans us (λb hb h=>by have:=HH.out;omega);change Leaves _ _ _ _ _ _ _;refine leaves_cons (f:=261) (args:=#[.pointer (some ⟨H+1+1,0,none⟩),.pointer (some ⟨H+1+1+1,0,none⟩),.pointer (some ⟨H+1,0,none⟩),.pointer (some ⟨H,0,none⟩)]) (by simp) (by simp [go_sem]) ?_;have c3:=CU1.upd us (by have:=HH.out;omega) (λb hb hb2 hb3=>by have:=hb2.2;have:=HH.out;omega);obtain⟨A,c,hb,hr,hq⟩:=c3;refine(Q4X g H at_ a' (.pointer p1) er HER.out A bs.length c .returning _ (by simpa using L0) (by simpa using L1) (by simpa using L2) (by simpa using L3) hb hg).mono ?_;rintro e u' w'' ⟨rfl,rfl,rfl⟩;refine⟨.tuple #[.pointer none,.int .i64 er],?_,hR _ _ ⟨rfl,?_,?_⟩⟩
 . have M1:=((L1.set_ 0 (.pointer none)).far (p:=⟨g,1,none⟩) (by simp;omega) (.int .i64 at_))
   have M2:=((L2.far (p:=⟨H+1,0,none⟩) (by simp) (.pointer none)).far (p:=⟨g,1,none⟩) (by simp;omega) (.int .i64 at_));have q1:=M1.cell0;have q2:=M2.cell0;simp [results,results219,go_sem,q1,q2]
 . exact(u3.setCell (p:=⟨H+1,0,none⟩) (λh=>by have:=HH.out;simp at h;omega) (.pointer none)).setCell (p:=⟨g,1,none⟩) (λ_=>rfl) (.int .i64 at_)
 have c4:Q4 _ (λb=>F b/\b<w.heap.size) g bs a':=⟨A,c,hb,hr,hq⟩;have c5:=c4.upd (S:=λb=>b=H+1) ((Upd.refl (λb=>b=H+1) _).setCell (p:=⟨H+1,0,none⟩) (λ_=>rfl) (.pointer none)) (by omega) (λb _ hb e=>by have:=hb.2;have:=HH.out;omega);obtain⟨A,c,hb,hr,hq⟩:=c5;(have hle:at_<=bs.length:=by obtain⟨_,_,_,_,_,h,_⟩:=HCU.out;exact h);refine⟨A,c,?_,?_,hq.1,hle,hq.2.2⟩
 . have:=hb.set_ 1 (.int .i64 at_)
   simpa using this
 exact(hr.upd (S:=λb=>b=g) ((Upd.refl (λb=>b=g) _).setCell (p:=⟨g,1,none⟩) (λ_=>rfl) (.int .i64 at_)) (λb _ hb e=>hF b hb.1 e)).mono λb hb=>hb.1
theorem Q6E (F:Nat->Prop) (g pn pc:Nat) (bs:List Nat) (at_ k:Nat) (w:World) (hcu:Q4 w F g bs at_) (hk:at_+k<=bs.length)
   (bn:Blk w pn 3 #[.int .i64 k]) (bc:Blk w pc 46 #[.pointer (some ⟨g,0,none⟩)]) (hF:∀b,F b->b≠g) :
   Calls prog 63 #[.pointer (some ⟨pn,0,none⟩),.pointer (some ⟨pc,0,none⟩)] w λe w'=>∃v,e = .returned (.tuple #[v,.int .i64 0]) /\
     Own w' 5 v (((bs.drop at_).take k).map λb=>.int .u8 (b:Nat))/\Upd (λb=>b=g) w w'/\Q4 w' F g bs (at_+k)/\∀b,v.ownBlock=some b->w.heap.size<=b:=by
 have hl:=λj=>JG F g bs at_ (w.drewN j) hcu;obtain⟨A,c,hb,hr,hlt,hat,hlen,hcap⟩:=hcu;have hn:=bn.cell0;have hc:=bc.cell0;(have i1:(k:Int)<=((bs.length-at_:Nat):Int):=by omega);(have i2:(bs.length:Int)<=4294967296:=by omega);(have i3:(at_:Int)+k<=bs.length:=by omega);have hx1:=X8 ((bs.drop at_).take k);have HL:=hd_ hl;have HB:=hd_ hb;have HR:=hd_ hr;have HBN:=hd_ bn;have HBC:=hd_ bc;clear hl hb hr bn bc;generalize bs.length-at_=D at *;refine Q8 λR hR=>?_;go_enter func63,ntmps63;go_wp2_with fail;go_quiet ((go_at_call 39;exact Calls.quiet_of (HL _)));have f1:Q0 w (w.drewN nq):=(Upd.refl _ _).drewN nq;generalize w.drewN nq=W at *;have b1:=HB.fresh f1;have bn1:=HBN.fresh f1;have bc1:=HBC.fresh f1;have hn1:=bn1.cell0;have hcc1:=bc1.cell0;have hc1':=b1.cell 1;have hf1':=b1.frozen 1;simp only [List.getElem?_toArray,List.getElem?_cons_succ,List.getElem?_cons_zero]at hc1';have B1:=hd_ b1;have BN1:=hd_ bn1;have BC1:=hd_ bc1;clear b1 bn1 bc1;have s0:IntKind.i64.wrap ((at_:Int)+k)=at_+k:=IntWalk.i64_in _ (by omega);go_wp2_with fail;go_still_tail 8,(by kernel_rfl);change wpList _ _ _ _ _ W.drew;go_wp2_with fail;have b2:=(B1.set_ 1 (.int .i64 ((at_:Int)+k))).drew;have u2:Upd (λb=>b=g) w (W.setCell ⟨g,1,none⟩ (.int .i64 ((at_:Int)+k))).drew:=((f1.mono (T:=λb=>b=g) (λ_ _ h=>h.elim)).setCell (p:=⟨g,1,none⟩) (λ_=>rfl) _).drew;have bn2:=(BN1.far (p:=⟨g,1,none⟩) (BN1.ne_ B1.out (by decide)) (.int .i64 ((at_:Int)+k))).drew;have bc2:=(BC1.far (p:=⟨g,1,none⟩) (BC1.ne_ B1.out (by decide)) (.int .i64 ((at_:Int)+k))).drew;generalize (W.setCell ⟨g,1,none⟩ (.int .i64 ((at_:Int)+k))).drew=W2 at *;have hn2:=bn2.cell0;have hcc2:=bc2.cell0;have hc2:=b2.cell 1;have hc20:=b2.cell 0;simp at hc2 hc20;have B2:=hd_ b2;clear b2 bn2 bc2 hn1 hcc1 hc1' hf1';(have s5:(at_:Int)+k-k=at_:=by omega);have s6:IntKind.i64.wrap (at_:Int)=at_:=IntWalk.i64_in _ (by omega);(have s1:(0:Int)<=at_:=by omega);(have s2:(at_:Int)<=at_+k:=by omega);(have s3:(at_:Int)+k<=c:=by omega);(have s4:((at_:Int)+k).toNat=at_+k:=by omega);go_still_tail 15,(by kernel_rfl);change wpList _ _ _ _ _ W2.drew;go_wp2_with fail
 all_goals
   have hrd:=Q2B (c:=c) (HR.upd u2 (λb _ hb e=>hF b hb e)).drew hk hcap
   first
     | rw [if_neg (by omega)]at hrd
     | rw [if_pos (by omega)]at hrd
   refine(YA _ _ _ _ W2.drew hrd hx1 (by omega)).mono ?_;rintro e w3 ⟨v,rfl,o3,f3,k3⟩;go_wp2;(try go_ret2);refine hR.out _ _ ⟨v,rfl,o3,u2.drew.trans f3 (λ_ _ h=>h.elim),⟨A,c,?_,?_,hlt,hk,hlen,hcap⟩,λb hb=>Nat.le_trans u2.drew.size (k3 b hb)⟩
   . have:=B2.drew.fresh f3
     simpa using this
   exact(HR.upd u2 (λb _ hb e=>hF b hb e)).drew.fresh f3
theorem Q9U (F:Nat->Prop) (g pn pc:Nat) (bs:List Nat) (at_ k:Nat) (w:World) (hcu:Q4 w F g bs at_) (hk:at_+k<=bs.length)
   (bn:Blk w pn 3 #[.int .i64 k]) (bc:Blk w pc 46 #[.pointer (some ⟨g,0,none⟩)]) (hF:∀b,F b->b≠g) :
   Calls prog 62 #[.pointer (some ⟨g,0,none⟩),.func (.func 63) #[] #[.pointer (some ⟨pn,0,none⟩),.pointer (some ⟨pc,0,none⟩)]] w λe w' =>
     ∃v,e = .returned (.tuple #[v,.int .i64 0]) /\
     Own w' 5 v (((bs.drop at_).take k).map λb=>.int .u8 (b:Nat))/\Upd (λb=>b=g) w w'/\Q4 w' F g bs (at_+k)/\∀b,v.ownBlock=some b->w.heap.size<=b:=by
 have hmf:∀(fn:Fn) (first cap:Array Value) (w:World),(Instr.makeFunc fn first cap).run prog w = .ok (.func fn first cap) w:=λ_ _ _ _=>rfl;have hg:=hcu.lt
 have hat:w.cell? ⟨g,1,none⟩=some (.int .i64 at_):=by
   obtain⟨A,c,hb,_⟩:=hcu;simpa using hb.cell 1
 have HCU:=hd_ hcu;have HBN:=hd_ bn;have HBC:=hd_ bc;clear hcu bn bc;(have hg1:g<w.heap.size+1:=by omega);(have hg2:g<w.heap.size+1+1:=by omega);(have hg3:g<w.heap.size+1+1+1:=by omega);refine Q8 λR hR=>?_;go_enter_defers func62,ntmps62;go_wp2_with fail;obtain⟨H,hH⟩:=nm_ (w.heap.size);rw [<-hH]at hg hg1 hg2 hg3;simp only [<-hH];obtain⟨W0,hW0⟩:=nm_ ((((w.alloc (.cells #[.pointer (some ⟨g,0,none⟩)] 46)).alloc (.cells #[.slice none 0 0] 22)).alloc (.cells #[.int .i64 0] 24)).alloc (.cells #[.int .i64 at_] 3));rw [<-hW0];(have f0:Q0 w W0:=by rw [hW0];exact((((Upd.refl _ w).alloc _).alloc _).alloc _).alloc _);(have k1:Blk W0 (H+1) 22 #[.slice none 0 0]:=by rw [hW0];exact((Qb (by simp [hH]) _ _).alloc _).alloc _);(have k2:Blk W0 (H+1+1) 24 #[.int .i64 0]:=by rw [hW0];exact(Qb (by simp [hH]) _ _).alloc _);clear hW0;have HH:=hd_ hH;clear hH;refine(Q6E (λb=>F b/\b<w.heap.size) g pn pc bs at_ k W0 (HCU.both.fresh f0) hk (HBN.fresh f0) (HBC.fresh f0) (λb hb=>hF b hb.1)).mono ?_;rintro e w1 ⟨v,rfl,o1,u1,c1,kf⟩;have KF:=hd_ (λb hb=>Nat.le_trans f0.size (kf b hb));clear kf;obtain⟨A1,n1,c1',rfl,hn1⟩:=o1.form';have j1:=k1.upd u1 (by omega);have j2:=k2.upd u1 (by omega);have uu:Upd (λb=>b=g) w w1:=(f0.mono (λ_ _ h=>h.elim)).trans' u1;have d1:=j1.cell0;have d2:=j2.cell0;have z1:=j1.frozen 0;have z2:=j2.frozen 0;have J1:=hd_ j1;have J2:=hd_ j2;have HO:=hd_ o1;have HC1:=hd_ c1;clear j1 j2 k1 k2 o1 c1 hn1;go_wp2;have L1:=(J1.set_ 0 (.slice A1 n1 c1')).far (p:=⟨H+1+1,0,none⟩) (by simp) (.int .i64 0);have L2:=(J2.far (p:=⟨H+1,0,none⟩) (by simp) (.slice A1 n1 c1')).set_ 0 (.int .i64 0);have hd2:=L2.cell0;have hd1:=L1.cell0;change Leaves _ _ _ _ _ _ _;refine leaves_cons (f:=118) (args:=#[.pointer (some ⟨H+1+1,0,none⟩),.pointer (some ⟨H+1+1+1,0,none⟩),.pointer (some ⟨H+1,0,none⟩),.pointer (some ⟨H,0,none⟩)]) (by simp) (by simp [go_sem]) ?_;refine(Q1t _ _ _ _ .returning _ hd2).mono ?_;rintro e u' w'' ⟨rfl,rfl,rfl⟩;refine⟨.tuple #[.slice A1 n1 c1',.int .i64 0],?_,hR _ _ ⟨_,rfl,?_,?_,?_,KF.out⟩⟩
 . simp [results,results62,go_sem,hd1,hd2]
 . exact(HO.far (p:=⟨H+1,0,none⟩) (HO.ne_blk J1.out (by decide)) _).far (p:=⟨H+1+1,0,none⟩) (HO.ne_blk J2.out (by decide)) _
 . exact(uu.setCell (p:=⟨H+1,0,none⟩) (λh=>by have:=HH.out;simp at h;omega) _).setCell (p:=⟨H+1+1,0,none⟩) (λh=>by have:=HH.out;simp at h;omega) _
 have m1:=HC1.upd (S:=λb=>b=H+1) ((Upd.refl (λb=>b=H+1) _).setCell (p:=⟨H+1,0,none⟩) (λ_=>rfl) (.slice A1 n1 c1')) (by omega) (λb _ hb e=>by have:=hb.2;have:=HH.out;omega);have m2:=m1.upd (S:=λb=>b=H+1+1) ((Upd.refl (λb=>b=H+1+1) _).setCell (p:=⟨H+1+1,0,none⟩) (λ_=>rfl) (.int .i64 0)) (by omega) (λb _ hb e=>by have:=hb.2;have:=HH.out;omega);exact m2.mono λb hb=>hb.1
theorem ZN (F:Nat->Prop) (g:Nat) (bs:List Nat) (at_ k:Nat) (w:World) (hcu:Q4 w F g bs at_) (hk:at_+k<=bs.length) (hF:∀b,F b->b≠g) :
   Calls prog 26 #[.pointer (some ⟨g,0,none⟩),.int .i64 k] w λe w'=>∃v,e = .returned (.tuple #[v,.int .i64 0]) /\
     Own w' 5 v (((bs.drop at_).take k).map λb=>.int .u8 (b:Nat))/\Upd (λb=>b=g) w w'/\Q4 w' F g bs (at_+k)/\∀b,v.ownBlock=some b->w.heap.size<=b:=by
 have hmf:∀(fn:Fn) (first cap:Array Value) (w:World),(Instr.makeFunc fn first cap).run prog w = .ok (.func fn first cap) w:=λ_ _ _ _=>rfl;obtain⟨H,hH⟩:=nm_ (w.heap.size)
 have hr:=Q9U F g (H+1) H bs at_ k ((w.alloc (.cells #[.pointer (some ⟨g,0,none⟩)] 46)).alloc (.cells #[.int .i64 k] 3)) (hcu.fresh (((Upd.refl _ w).alloc _).alloc _)) hk
   (Qb (by simp [hH]) _ _) ((Qb hH _ _).alloc _) hF
 rw [hH]at hr;have HR:=hd_ hr;clear hr hcu hH H;refine Q8 λR hR=>?_;go_enter func26,ntmps26;go_wp2_with fail;refine HR.mono ?_;rintro e w1 ⟨v,rfl,o1,u1,c1,kf⟩;go_wp2;(try go_ret2);refine hR.out _ _ ⟨v,rfl,o1,?_,c1,λb hb=>by have:=kf b hb;simp at this;omega⟩;exact(((Upd.refl (λb=>b=g) w).alloc _).alloc _).trans' u1
def Y3 (w:World) (F:Nat->Prop) (g:Nat) (bs:List Nat) (to_:Nat):Prop :=
  ∃(A:Option Addr) (c:Nat),Blk w g 336 #[.slice A bs.length c,.int .i64 0,.int .i64 (to_:Nat)]/\Rd w F A bs.length (bs.map λb=>.int .u8 (b:Nat)) /\
    (∀b∈bs,b<256)/\to_<=8*bs.length/\bs.length<=2^32
theorem Y3.upd {w w':World} {F S:Nat->Prop} {g:Nat} {bs:List Nat} {t:Nat} (h:Y3 w F g bs t) (hu:Upd S w w') (hg:¬S g) (hF:∀b,F b->¬S b):Y3 w' F g bs t:=by
 obtain⟨A,c,hb,hr,r⟩:=h;exact⟨A,c,hb.upd hu hg,hr.upd hu (λb _ hb=>hF b hb),r⟩
theorem Y3.fresh {w w':World} {F:Nat->Prop} {g:Nat} {bs:List Nat} {t:Nat} (h:Y3 w F g bs t) (hu:Q0 w w'):Y3 w' F g bs t:=h.upd hu (λh=>h) (λ_ _ h=>h)
theorem Y3.lt {w:World} {F:Nat->Prop} {g:Nat} {bs:List Nat} {t:Nat} (h:Y3 w F g bs t):g<w.heap.size:=by
 obtain⟨A,c,hb,_⟩:=h;exact hb.lt
theorem XY (F:Nat->Prop) (g:Nat) (bs:List Nat) (t:Nat) (w:World) (hf:Y3 w F g bs t) :
   Calls prog 236 #[.pointer (some ⟨g,0,none⟩)] w λe w'=>e = .returned (.int .i64 (t:Nat))/\Q0 w w':=by
 obtain⟨A,c,hb,hr,hlt,hfr,hlen⟩:=hf;have hc1:=hb.cell 1;have hc2:=hb.cell 2;simp at hc1 hc2;have HL:=hd_ (Xq g 0 t w hc1 hc2 (by omega) (by omega));refine Q8 λR hR=>?_;go_enter func236,ntmps236;go_wp2_with fail;refine HL.mono ?_;rintro e w1 ⟨rfl,k,rfl⟩;go_wp2_with fail;(try go_ret);exact hR _ _ ⟨by first|rfl|simp,(Upd.refl _ _).drewN k⟩
theorem Q5b (F:Nat->Prop) (g:Nat) (bs:List Nat) (t n:Nat) (w:World) (hf:Y3 w F g bs t) (hn:n<=64) (h:n<=t) (hFg:∀b,F b->b≠g) :
   Calls prog 306 #[.pointer (some ⟨g,0,none⟩),.int .i64 (n:Nat)] w λe w'=>e = .returned (.int .i64 0)/\Upd (λb=>b=g) w w'/\Y3 w' F g bs (t-n):=by
 obtain⟨A,c,hb,hr,hlt,hfr,hlen⟩:=hf;have hc1:=hb.cell 1;have hc2:=hb.cell 2;have hfz:=hb.frozen 2;simp at hc1 hc2;have HM:=hd_ (Q7T g 0 t n 14 w hc1 hc2 (by omega) hn (by omega));(have hs:IntKind.i64.wrap ((t:Int)-n)=((t-n:Nat):Int):=by rw [IntWalk.i64_in _ (by omega)];omega);have HB:=hd_ hb;clear hb;refine Q8 λR hR=>?_;go_enter func306,ntmps306;go_wp2_with fail;refine HM.mono ?_;rintro e w1 ⟨rfl,k,rfl⟩;go_wp2_with fail;(try go_ret);have u2:Upd (λb=>b=g) w ((w.drewN k).setCell ⟨g,2,none⟩ (.int .i64 ((t-n:Nat):Int))):=((Upd.refl (λb=>b=g) w).drewN k).setCell (p:=⟨g,2,none⟩) (λ_=>rfl) _;have b2:=(HB.drewN k).set_ 2 (.int .i64 ((t-n:Nat):Int));simp at b2;exact hR _ _ ⟨rfl,u2,A,c,by simpa using b2,hr.upd u2 (λb _ hb e=>hFg b hb e),hlt,by omega,hlen⟩
theorem Q6F (F:Nat->Prop) (g:Nat) (bs:List Nat) (t n:Nat) (w:World) (hf:Y3 w F g bs t) (hn:n<=64) (h:t<n) :
   Calls prog 306 #[.pointer (some ⟨g,0,none⟩),.int .i64 (n:Nat)] w λe w'=>e = .returned (.int .i64 14)/\Q0 w w':=by
 obtain⟨A,c,hb,hr,hlt,hfr,hlen⟩:=hf;have hc1:=hb.cell 1;have hc2:=hb.cell 2;simp at hc1 hc2;have HM:=hd_ (Q2A g 0 t n 14 w hc1 hc2 (by omega) hn (by omega) (by omega));clear hb;refine Q8 λR hR=>?_;go_enter func306,ntmps306;go_wp2_with fail;refine HM.mono ?_;rintro e w1 ⟨rfl,k,rfl⟩;go_wp2_with fail;(try go_ret);exact hR _ _ ⟨rfl,(Upd.refl _ _).drewN k⟩
theorem Q4B (F:Nat->Prop) (g:Nat) (bs:List Nat) (t n:Nat) (w:World) (hf:Y3 w F g bs t) (hn:n<=64) (h:t<n) :
   Calls prog 272 #[.pointer (some ⟨g,0,none⟩),.int .i64 (n:Nat)] w λe w'=>e = .returned (.tuple #[.int .u64 0,.int .i64 14])/\Q0 w w':=by
 have HS:=hd_ (Q6F F g bs t n w hf hn h);refine Q8 λR hR=>?_;go_enter func272,ntmps272;go_wp2_with fail;refine HS.mono ?_;rintro e w1 ⟨rfl,f1⟩;have F1:=hd_ f1;clear f1;go_wp2_with fail;(try go_ret);exact hR _ _ ⟨rfl,F1.out⟩
theorem Q9o (F:Nat->Prop) (g:Nat) (bs:List Nat) (t n:Nat) (w:World) (hf:Y3 w F g bs t) (hn:n<=64) (h:n<=t) (hFg:∀b,F b->b≠g) :
   Calls prog 272 #[.pointer (some ⟨g,0,none⟩),.int .i64 (n:Nat)] w λe w'=>e = .returned (.tuple #[.int .u64 (Qj bs / 2^(t-n)%2^n:Nat),.int .i64 0])/\Upd (λb=>b=g) w w'/\Y3 w' F g bs (t-n):=by
 have HS:=hd_ (Q5b F g bs t n w hf hn h hFg);(have ht:t<=8*bs.length:=by obtain⟨A,c,_,_,_,h5,_⟩:=hf;exact h5);clear hf;refine Q8 λR hR=>?_;go_enter func272,ntmps272;go_wp2_with fail;refine HS.mono ?_;rintro e w1 ⟨rfl,u1,hb1⟩;obtain⟨A,c,b1,r1,hlt,hfr,hlen⟩:=hb1;have c0:=b1.cell 0;have c2:=b1.cell 2;simp at c0;(have c2':w1.cell? ⟨g,2,none⟩=some (.int .i64 ((t-n:Nat):Int)):=by simpa using c2);clear c2;have HV:=hd_ (λq=>VC F g A bs.length c bs (t-n) n (w1.drewN q) c0 (r1.drewN q) hlt hn (by omega) hlen);have U1:=hd_ u1;have B1:=hd_ b1;have R1:=hd_ r1;generalize Qj bs / 2^(t-n)%2^n=V at *;clear u1 b1 r1;go_wp2_with fail;refine QJ 9 (by kernel_rfl) (by kernel_rfl) ?_;simp only [List.take_succ_cons,List.take_zero,List.drop_succ_cons,List.drop_zero];(repeat(first|go_big_quiet_step (fail)|quiet_step (fail)));refine wpQuiet_nil ?_;rintro w2 ⟨q2,rfl⟩;go_wp2_with fail;refine(HV _).mono ?_;rintro e w3 ⟨rfl,f3⟩;have F3:=hd_ f3;clear f3;go_wp2_with fail;(try go_ret);have u3:Upd (λb=>b=g) w1 w3:=((Upd.refl (λb=>b=g) w1).drewN q2).trans F3.out (λb hb h=>h.elim);have f13:Q0 w1 w3:=((Upd.refl (λ_=>False) w1).drewN q2).trans' F3.out;exact hR _ _ ⟨rfl,U1.trans' u3,A,c,B1.fresh f13,R1.fresh f13,hlt,hfr,hlen⟩
theorem Q4Y (z:Nat) (h:z<256) (h0:Lib.bitLen z=0):z=0:=by
 (have h2:∀n:Fin 256,Lib.bitLen n.val=0->n.val=0:=by decide +kernel);exact h2 ⟨z,h⟩ h0
def Y0 (bs:List Nat):Nat:=8*bs.length+Lib.bitLen ((bs.getLast?).getD 0)-9
theorem Q0A (F:Nat->Prop) (A:Option Addr) (n c:Nat) (bs:List Nat) (w:World) (hr:Rd w F A n (bs.map λb=>.int .u8 (b:Nat))) (hlt:∀b∈bs,b<256) (hlen:bs.length<=2^32) :
   Calls prog 271 #[.slice A n c] w λe w'=>if(bs.getLast?).getD 0=0 then e = .returned (.tuple #[.pointer none,.int .i64 14])/\Q0 w w' else
     ∃g,e = .returned (.tuple #[.pointer (some ⟨g,0,none⟩),.int .i64 0])/\w.heap.size<=g/\Q0 w w'/\Y3 w' (λk=>w.heap.size<=k/\k≠g) g bs (Y0 bs):=by
 (have hn:n=bs.length:=by have:=hr.1;simpa using this.symm);subst hn;(have hnI:(bs.length:Int)<=4294967296:=by omega);rcases hl:bs.getLast? with _|z
 . have hb:bs=[]:=by simpa using hl
   subst hb;refine Q8 λR hR=>?_;go_enter func271,ntmps271;go_wp2_with fail;(try go_ret);exact hR _ _ (by simp;exact Upd.refl _ _)
 (have hb0:bs≠[]:=by intro h;subst h;simp at hl);have hlp:0<bs.length:=List.length_pos_iff.2 hb0;(have hz:bs[bs.length-1]?=some z:=by rw [List.getLast?_eq_getElem?]at hl;exact hl);have hz2:z<256:=hlt z (List.mem_of_getElem? hz);obtain⟨b,o,rfl,_,hbw,hc⟩:=hr.at_ (k:=bs.length-1) (by omega);(have hc2:w.cell? ⟨b,o+(bs.length-1),none⟩=some (.int .u8 (z:Nat)):=by rw [hc,List.getElem?_map,hz];rfl);(have hlI:¬(bs.length:Int)=0:=by omega);(have hlB:((bs.length:Int) == 0)=false:=by simpa using hlI);(have s1:IntKind.i64.wrap ((bs.length:Int)-1)=((bs.length-1:Nat):Int):=by rw [IntWalk.i64_in _ (by omega)];omega);(have i1:(0:Int)<=((bs.length-1:Nat):Int):=by omega);(have i2:((bs.length-1:Nat):Int)<bs.length:=by omega);simp only [Option.getD_some];by_cases hz0:z=0
 . subst hz0
   simp only [if_pos (rfl:(0:Nat)=0)];refine Q8 λR hR=>?_;go_enter func271,ntmps271;go_wp2_with fail;(try go_ret);exact hR _ _ ⟨rfl,Upd.refl _ _⟩
 simp only [if_neg hz0];(have hzb:((z:Int) == 0)=false:=by simp;omega)
 have hzv:1<=Lib.bitLen z/\Lib.bitLen z<=8:=by
   have h:=Lib.bitLen_le8 ⟨z,hz2⟩;refine⟨?_,h⟩;rcases Nat.eq_zero_or_pos (Lib.bitLen z)with h0|h0
   . exact absurd (Q4Y z hz2 h0) hz0
   exact h0
 have HCL:=hd_ (λW (hw:Q0 w W)=>(YA (some ⟨b,o,none⟩) bs.length c (bs.map λb=>.int .u8 (b:Nat)) W (hr.fresh hw) (by simp [Value.oneCell']) (by omega)).mono (R':=λe w'=>∃A1 c1,e = .returned (.slice A1 bs.length c1)/\Rd w' (λk=>w.heap.size<=k/\k<w'.heap.size) A1 bs.length (bs.map λb=>.int .u8 (b:Nat))/\Q0 W w') (λe w' q=>by
   obtain⟨v,he,ov,f1,kv⟩:=q;obtain⟨A1,c1,hv,_,rv⟩:=ov.form;(have hx:(bs.map λb=>Value.int .u8 (b:Nat)).length=bs.length:=by simp);rw [hx]at hv rv
   exact⟨A1,c1,by rw [he,hv],rv.mono (λk hk=>⟨Nat.le_trans hw.size (kv k hk),ov.lt hk⟩),f1⟩))
 have HLE:=hd_ (λW=>bits_Len8 (z:Int) W (by omega) (by omega));rw [show((z:Int)).toNat=z from rfl]at HLE;have s2:IntKind.i64.wrap (8*(bs.length:Int))=8*(bs.length:Int):=IntWalk.i64_in _ (by omega);have s3:IntKind.i64.wrap (8*(bs.length:Int)-9)=8*(bs.length:Int)-9:=IntWalk.i64_in _ (by omega)
 have s4:IntKind.i64.wrap (8*(bs.length:Int)-9+(Lib.bitLen z:Int))=((Y0 bs:Nat):Int):=by
   rw [IntWalk.i64_in _ (by omega)];unfold Y0;rw [hl];simp only [Option.getD_some];omega
 (have hcl:Y0 bs<=8*bs.length:=by unfold Y0;rw [hl];simp only [Option.getD_some];omega);have HSS:=hd_ (show ∀W,Q0 w W->(Q0 w W/\W.cell? ⟨b,o+(bs.length-1),none⟩=some (.int .u8 (z:Nat)))from λW h=>⟨h,by rw [h.cells _ _ hbw];exact hc2⟩);have HSA:=hd_ (λW o (h:Q0 w W)=>HSS _ (h.alloc o));refine Q8 λR hR=>?_;go_enter func271,ntmps271;go_upto_region 3 with fail;go_cut [2,3] (λq q3 wx=>∃g,q = .pointer (some ⟨g,0,none⟩)/\q3 = .int .i64 0/\w.heap.size<=g/\Q0 w wx/\Y3 wx (λk=>w.heap.size<=k/\k≠g) g bs (Y0 bs))
 case first =>
   go_region_held3 (λW=>Q0 w W/\W.cell? ⟨b,o+(bs.length-1),none⟩=some (.int .u8 (z:Nat)))
     (first|exact HSS _ (by assumption)|exact HSS _ (And.left (by assumption))|exact HSS _ (Upd.refl _ _)|exact HSS _ (Upd.refl _ _).drew|exact HSA _ _ (by assumption)|exact HSA _ _ (And.left (by assumption)))
     (first
       | (go_at_call 61;((with_reducible refine(HCL.out _ (And.left (by assumption))).mono ?_);rintro e wn ⟨A1,c1,rfl,rv,fn⟩);have fnx:Q0 w wn:=Upd.trans' (And.left (by assumption)) fn)
       | (go_at_call 305;((with_reducible refine(HLE.out _).mono ?_);rintro e wn ⟨rfl,rfl⟩)))
   (all_goals go_wp2_with fail);(all_goals go_meet);(all_goals exact⟨_,rfl,rfl,by have:=fnx.size;omega,fnx.alloc _,A1,c1,Blk.new _ _ _,(rv.alloc _).mono (λk hk=>by have:=hk.2;exact⟨hk.1,by omega⟩),hlt,hcl,hlen⟩)
 case rest =>
   obtain⟨g,rfl,rfl,hg,fx,bx⟩:=hcut;go_wp2_with fail;(try go_ret);exact hR _ _ ⟨g,rfl,hg,fx,bx⟩
def Zb (n:Int):Int:=if 0<n then 2^(11-n.toNat)else 0
def QD:List Int->Int
  | []=>0
  | n::l=>Zb n+QD l
def YH:List Int->Nat
  | []=>0
  | n::l=>(if 0<n then 1 else 0)+YH l
def Qc (l:List Int):Prop:=(∀n∈l,0<=n/\n<=11)/\l.length<=256/\1<YH l/\QD l=2048
instance (l:List Int):Decidable (Qc l):=by unfold Qc;infer_instance
theorem Q3e (a b:List Int):QD (a++b)=QD a+QD b:=by
 induction a with
 | nil=>simp [QD]
 | cons n l ih=>simp only [List.cons_append,QD,ih];omega
theorem Q4e (a b:List Int):YH (a++b)=YH a+YH b:=by
 induction a with
 | nil=>simp [YH]
 | cons n l ih=>simp only [List.cons_append,YH,ih];omega
theorem Q0L {l:List Int} {k:Nat} (h:k<l.length):QD (l.take (k+1))=QD (l.take k)+Zb l[k]:=by
 rw [List.take_succ_eq_append_getElem h,Q3e];simp [QD]
theorem Q1I {l:List Int} {k:Nat} (h:k<l.length):YH (l.take (k+1))=YH (l.take k)+if 0<l[k]then 1 else 0:=by
 rw [List.take_succ_eq_append_getElem h,Q4e];simp [YH]
theorem Q4f (n:Int):0<=Zb n/\Zb n<=2048:=by
 unfold Zb;split
 . have h:(2:Int)^(11-n.toNat)=((2^(11-n.toNat):Nat):Int):=by simp
   have h1:2^(11-n.toNat)<=2^11:=Nat.pow_le_pow_right (by decide) (by omega);rw [h];generalize 2^(11-n.toNat)=q at *;omega
 omega
theorem VI:∀(l:List Int),0<=QD l/\QD l<=2048*l.length
 | []=>by simp [QD]
 | n::l=>by
   have h1:=Q4f n
   have h2:=VI l
   simp only [QD,List.length_cons]
   omega
theorem ZE:∀(l:List Int),YH l<=l.length
 | []=>by simp [YH]
 | n::l=>by
   have h2:=ZE l
   simp only [YH,List.length_cons]
   split<;>omega
def Qx (l:List Int) (n:Nat):Nat:=if n=0 then 0 else l.count (n:Int)
def Qs (l:List Int):Nat->Nat
  | 0=>0
  | n+1=>(Qs l n+Qx l n)*2
def Q6 (l:List Int) (s:Nat):Nat × Nat :=
  if 0<(l[s]?).getD 0 then(((l[s]?).getD 0).toNat,Qs l ((l[s]?).getD 0).toNat+(l.take s).count ((l[s]?).getD 0))else(0,0)
def QE (l:List Int):List (Nat × Nat):=(List.range l.length).map (Q6 l)
@[simp] theorem YJ (l:List Int):(QE l).length=l.length:=by simp [QE]
def Qe (l:List Int):Nat:=(l.foldl max 0).toNat
def QF (f:Nat->Nat):Array Value:=#[.int .u32 (f 0:Nat),.int .u32 (f 1:Nat),.int .u32 (f 2:Nat),.int .u32 (f 3:Nat),.int .u32 (f 4:Nat),.int .u32 (f 5:Nat),.int .u32 (f 6:Nat),.int .u32 (f 7:Nat),.int .u32 (f 8:Nat),.int .u32 (f 9:Nat),.int .u32 (f 10:Nat),.int .u32 (f 11:Nat)]
theorem Q1J (f:Nat->Nat):(QF f).size=12:=rfl
theorem ZL (f:Nat->Nat) {q:Nat} (h:q<12):(QF f)[q]?=some (.int .u32 (f q:Nat)):=by
 (rcases(show q=0\/q=1\/q=2\/q=3\/q=4\/q=5\/q=6\/q=7\/q=8\/q=9\/q=10\/q=11 by omega)with rfl|rfl|rfl|rfl|rfl|rfl|rfl|rfl|rfl|rfl|rfl|rfl<;>rfl)
theorem Q0n (f:Nat->Nat) {q:Nat} (x:Nat) (h:q<12):(QF f).setIfInBounds q (.int .u32 (x:Nat))=QF (λi=>if i=q then x else f i):=by
 (rcases(show q=0\/q=1\/q=2\/q=3\/q=4\/q=5\/q=6\/q=7\/q=8\/q=9\/q=10\/q=11 by omega)with rfl|rfl|rfl|rfl|rfl|rfl|rfl|rfl|rfl|rfl|rfl|rfl<;>rfl)
theorem YX {f g:Nat->Nat} (h:∀i,i<12->f i=g i):QF f=QF g:=by
 unfold QF;rw [h 0 (by omega),h 1 (by omega),h 2 (by omega),h 3 (by omega),h 4 (by omega),h 5 (by omega),h 6 (by omega),h 7 (by omega),h 8 (by omega),h 9 (by omega),h 10 (by omega),h 11 (by omega)]
theorem XD (l:List Int) (n:Nat):Qx l n<=l.length:=by
 unfold Qx;split
 . omega
 exact List.count_le_length
theorem Q1K {l:List Int} {k:Nat} (h:k<l.length) (i:Nat):Qx (l.take (k+1)) i=Qx (l.take k) i+if i≠0/\l[k]=(i:Int)then 1 else 0:=by
 unfold Qx;by_cases h0:i=0
 . subst h0;simp
 rw [if_neg h0,if_neg h0,List.take_succ_eq_append_getElem h,List.count_append,List.count_singleton];by_cases h1:l[k]=(i:Int)
 . simp [h1,h0]
 simp [h1]
theorem Q0o {l:List Int} (h:l.length<=256):∀n,Qs l n+512<=512*2^n
 | 0=>by simp [Qs]
 | n+1=>by
   have ih:=Q0o h n
   have hm:=XD l n
   rw [Qs,Nat.pow_succ]
   omega
theorem Qa8 (w:World) (H:Nat) (f:Nat->Nat):Upd (λb=>b=H) w ((((((((((((w.setCell ⟨H,0,none⟩ (.int .u32 (f 0:Nat))).setCell ⟨H,1,none⟩ (.int .u32 (f 1:Nat))).setCell ⟨H,2,none⟩ (.int .u32 (f 2:Nat))).setCell ⟨H,3,none⟩ (.int .u32 (f 3:Nat))).setCell ⟨H,4,none⟩ (.int .u32 (f 4:Nat))).setCell ⟨H,5,none⟩ (.int .u32 (f 5:Nat))).setCell ⟨H,6,none⟩ (.int .u32 (f 6:Nat))).setCell ⟨H,7,none⟩ (.int .u32 (f 7:Nat))).setCell ⟨H,8,none⟩ (.int .u32 (f 8:Nat))).setCell ⟨H,9,none⟩ (.int .u32 (f 9:Nat))).setCell ⟨H,10,none⟩ (.int .u32 (f 10:Nat))).setCell ⟨H,11,none⟩ (.int .u32 (f 11:Nat))) :=
 (((((((((((((Upd.refl (λb=>b=H) w).setCell (p:=⟨H,0,none⟩) (λ_=>rfl) _).setCell (p:=⟨H,1,none⟩) (λ_=>rfl) _).setCell (p:=⟨H,2,none⟩) (λ_=>rfl) _).setCell (p:=⟨H,3,none⟩) (λ_=>rfl) _).setCell (p:=⟨H,4,none⟩) (λ_=>rfl) _).setCell (p:=⟨H,5,none⟩) (λ_=>rfl) _).setCell (p:=⟨H,6,none⟩) (λ_=>rfl) _).setCell (p:=⟨H,7,none⟩) (λ_=>rfl) _).setCell (p:=⟨H,8,none⟩) (λ_=>rfl) _).setCell (p:=⟨H,9,none⟩) (λ_=>rfl) _).setCell (p:=⟨H,10,none⟩) (λ_=>rfl) _).setCell (p:=⟨H,11,none⟩) (λ_=>rfl) _)
theorem Blk.set12 {w:World} {H:Nat} {t:TypeId} {g:Nat->Nat} (h:Blk w H t (QF g)) (f:Nat->Nat):Blk ((((((((((((w.setCell ⟨H,0,none⟩ (.int .u32 (f 0:Nat))).setCell ⟨H,1,none⟩ (.int .u32 (f 1:Nat))).setCell ⟨H,2,none⟩ (.int .u32 (f 2:Nat))).setCell ⟨H,3,none⟩ (.int .u32 (f 3:Nat))).setCell ⟨H,4,none⟩ (.int .u32 (f 4:Nat))).setCell ⟨H,5,none⟩ (.int .u32 (f 5:Nat))).setCell ⟨H,6,none⟩ (.int .u32 (f 6:Nat))).setCell ⟨H,7,none⟩ (.int .u32 (f 7:Nat))).setCell ⟨H,8,none⟩ (.int .u32 (f 8:Nat))).setCell ⟨H,9,none⟩ (.int .u32 (f 9:Nat))).setCell ⟨H,10,none⟩ (.int .u32 (f 10:Nat))).setCell ⟨H,11,none⟩ (.int .u32 (f 11:Nat))) H t (QF f):=by
 have h:=((((((((((((h.set_ 0 (.int .u32 (f 0:Nat))).set_ 1 (.int .u32 (f 1:Nat))).set_ 2 (.int .u32 (f 2:Nat))).set_ 3 (.int .u32 (f 3:Nat))).set_ 4 (.int .u32 (f 4:Nat))).set_ 5 (.int .u32 (f 5:Nat))).set_ 6 (.int .u32 (f 6:Nat))).set_ 7 (.int .u32 (f 7:Nat))).set_ 8 (.int .u32 (f 8:Nat))).set_ 9 (.int .u32 (f 9:Nat))).set_ 10 (.int .u32 (f 10:Nat))).set_ 11 (.int .u32 (f 11:Nat)));simpa [QF]using h
theorem Kt {k:Nat}:∀ {rows:List (List Value)},(∀r∈rows,r.length=k)->rows.flatten.length=rows.length*k
 | [],_=>by simp
 | r::l,h=>by
   rw [List.flatten_cons,List.length_append,h r (by simp),Kt λx hx=>h x (List.mem_cons_of_mem _ hx),List.length_cons,Nat.add_mul]
   omega
theorem Vn {k:Nat}:∀ {rows:List (List Value)} (j r:Nat),(∀x∈rows,x.length=k)->r<k->(h:j<rows.length)->rows.flatten[j*k+r]?=rows[j][r]?
 | x::l,0,r,h,hr,_=>by
   have hx:x.length=k:=h x (by simp)
   rw [List.flatten_cons,Nat.zero_mul,Nat.zero_add,List.getElem?_append_left (by omega)];rfl
 | x::l,j+1,r,h,hr,hj=>by
   have hx:x.length=k:=h x (by simp)
   have e:(j+1)*k+r-x.length=j*k+r:=by rw [hx,Nat.add_mul];omega
   have hle:x.length<=(j+1)*k+r:=by rw [hx,Nat.add_mul];omega
   rw [List.flatten_cons,List.getElem?_append_right hle,e,Vn j r (λy hy=>h y (List.mem_cons_of_mem _ hy)) hr (by simpa using hj)]
   rfl
def RdK (w:World) (F:Nat->Prop) (k:Nat) (A:Option Addr) (n:Nat) (rows:List (List Value)):Prop :=
  rows.length=n/\(0<n->∃b o,A=some ⟨b,o,none⟩/\F b/\b<w.heap.size/\∀(j r:Nat) (h:j<rows.length),r<k->w.cell? ⟨b,o+j*k+r,none⟩=rows[j][r]?)
def QS (w:World) (e:TypeId) (k:Nat) (v:Value) (rows:List (List Value)):Prop:=w.ownsRow 0 e k v rows.length rows.flatten/\∀r∈rows,r.length=k
section
variable {S F G:Nat->Prop} {w w':World} {e:TypeId} {k:Nat} {v:Value} {A:Option Addr} {n:Nat} {rows:List (List Value)}
theorem RdK.nil (w:World) (F:Nat->Prop) (k:Nat) (A:Option Addr):RdK w F k A 0 []:=⟨rfl,λh=>absurd h (by omega)⟩
theorem RdK.mono (h:RdK w F k A n rows) (hfg:∀b,F b->G b):RdK w G k A n rows :=
 ⟨h.1,λhn=>by obtain⟨b,o,h1,h2,h3⟩:=h.2 hn;exact⟨b,o,h1,hfg b h2,h3⟩⟩
theorem RdK.both (h:RdK w F k A n rows):RdK w (λb=>F b/\b<w.heap.size) k A n rows :=
 ⟨h.1,λhn=>by obtain⟨b,o,h1,h2,h3,h4⟩:=h.2 hn;exact⟨b,o,h1,⟨h2,h3⟩,h3,h4⟩⟩
theorem RdK.upd (h:RdK w F k A n rows) (hu:Upd S w w') (hs:∀b,b<w.heap.size->F b->¬S b):RdK w' F k A n rows :=
 ⟨h.1,λhn=>by
   obtain⟨b,o,h1,h2,h3,h4⟩:=h.2 hn
   refine⟨b,o,h1,h2,Nat.lt_of_lt_of_le h3 hu.size,λj r hj hr=>?_⟩
   rw [<-h4 j r hj hr]
   exact World.cell?_of_block (a:=⟨b,o+j*k+r,none⟩) (hu.block b h3 (hs b h3 h2))⟩
theorem RdK.fresh (h:RdK w F k A n rows) (hu:Q0 w w'):RdK w' F k A n rows:=h.upd hu λ_ _ _ h=>h
theorem RdK.at_ {j r:Nat} (h:RdK w F k A n rows) (hj:j<n):∃b o,A=some ⟨b,o,none⟩/\F b/\b<w.heap.size/\∀(r:Nat),r<k->w.cell? ⟨b,o+j*k+r,none⟩=(rows[j]'(by rw [h.1];exact hj))[r]?:=by
 obtain⟨b,o,h1,h2,h3,h4⟩:=h.2 (by omega);exact⟨b,o,h1,h2,h3,λr hr=>h4 j r _ hr⟩
theorem QS.nil (w:World) (e:TypeId) (k:Nat):QS w e k (.slice none 0 0) []:=⟨World.ownsRow_nil w 0 e k,λr h=>by simp at h⟩
theorem QS.upd (h:QS w e k v rows) (hu:Upd S w w') (hs:∀b,v.ownBlock=some b->¬S b):QS w' e k v rows:=by
 refine⟨⟨h.1.1,?_⟩,h.2⟩;rcases h.1.2 with hn|⟨g,cap,cur,rfl,hb,hgg,rest⟩
 . exact .inl hn
 refine .inr ⟨g,cap,cur,rfl,hb,?_,rest⟩;rw [hu.block g (Array.getElem?_eq_some_iff.1 hgg).1 (hs g rfl)];exact hgg
theorem QS.fresh (h:QS w e k v rows) (hu:Q0 w w'):QS w' e k v rows:=h.upd hu λ_ _ h=>h
theorem QS.alloc (h:QS w e k v rows) (o:Obj):QS (w.alloc o) e k v rows:=h.fresh ((Upd.refl _ _).alloc o)
theorem QS.drewN (h:QS w e k v rows) (m:Nat):QS (w.drewN m) e k v rows:=h
theorem QS.form (h:QS w e k v rows):∃A c,v = .slice A rows.length c/\rows.length<=c/\RdK w (λb=>v.ownBlock=some b) k A rows.length rows:=by
 rcases h.1.2 with ⟨rfl,h0⟩|⟨g,cap,cur,rfl,_,hg,hn,hm,hc,ht⟩
 . have:rows=[]:=List.eq_nil_of_length_eq_zero h0
   subst this;exact⟨none,0,rfl,Nat.le_refl _,RdK.nil _ _ _ _⟩
 refine⟨some ⟨g,0,none⟩,cap,rfl,hn,rfl,λ_=>⟨g,0,rfl,rfl,(Array.getElem?_eq_some_iff.1 hg).1,λj r hj hr=>?_⟩⟩
 have hlt:j*k+r<rows.length*k:=by
   have h1:(j+1)*k<=rows.length*k:=Nat.mul_le_mul_right k (by omega);rw [Nat.add_mul]at h1;omega
 rw [cell_of_row w g _ cur e (0,0) hg,<-Vn j r h.2 hr hj,<-ht,List.getElem?_take,if_pos (by omega),Nat.zero_add];simp
theorem QS.form' (h:QS w e k v rows):∃A n c,v = .slice A n c/\Hid (n=rows.length):=by
 obtain⟨A,c,h1,_⟩:=h.form;exact⟨A,_,c,h1,rfl⟩
theorem QS.rd (h:QS w e k v rows) {A:Option Addr} {n c:Nat} (hv:v = .slice A n c):n=rows.length/\rows.length<=c/\RdK w (λb=>v.ownBlock=some b) k A rows.length rows:=by
 obtain⟨A',c',hv',hc,hr⟩:=h.form;rw [hv]at hv';injection hv' with h1 h2 h3;subst h1 h2 h3;exact⟨rfl,hc,hr⟩
end
section
variable {P:Program} (w:World)
theorem Q21 {ops:Array Oper} {rest:List Oper} {o:Oper} {a:Act} {Q:Exit->Act->World->Prop} (hgd:o.guard=none) (s x:Operand) (t:TypeId)
   (ho:o.op = .call { callee:=.builtin .append,args:=#[s,x],argTypes:=#[t,t] }) (e:TypeId) (z:Value) (k Q2:Nat) (ht:P.underlying t=some (.slice e)) (hi:(P.info? e).map (λi=>(i.zero,i.size,i.bytes))=some (some z,k,Q2)) (hzs:z.cells.size=k) (hk:0<k) (hby:Q2<=1024)
   (v:Value) (rows:List (List Value)) (hs:a.eval s=v) (hown:QS w e k v rows) (kb cap:Nat) (row:List Value) (hrow:row.length=k) (h1:∀u∈row,u.oneCell'=true) (hx:a.eval x = .slice (some ⟨kb,0,none⟩) 1 cap) (hb:Blk w kb e row.toArray) (hlen:rows.length<=2^30)
   (h:∀g cap w',QS w' e k (.slice (some ⟨g,0,none⟩) (rows.length+1) cap) (rows++[row])->w.grownBy w' v.ownBlock->(v.ownBlock=some g\/g=w.heap.size)->g<w'.heap.size->wpList P ops Q rest (a.put o.dst (.slice (some ⟨g,0,none⟩) (rows.length+1) cap)) w') :
   wpList P ops Q (o::rest) a w:=by
 obtain⟨i,hi0,hz,hsize,hbyt⟩:=info_parts hi
 have hcells:∀(j:Nat) u,row[j]?=some u->w.cell? ((⟨kb,0,none⟩:Addr).add j)=some u:=by
   intro j u hu;rw [Addr.add_lit,hb.cells j u (by simpa using hu)]
 have hmul:(rows.length+1)*Q2<=140737488355328:=Nat.le_trans (Nat.mul_le_mul (show rows.length+1<=2^30+1 by omega) hby) (by decide);refine wpList_append_lies w hgd s x _ ho 0 e i z k Q2 ht hi0 hz hsize hbyt hzs hk v rows.length _ hs hown.1 ⟨kb,0,none⟩ 1 cap row hx (by omega) hcells h1 (by omega) (by simp only [maxLen];omega) hmul (Nat.zero_le _) _ rfl ?_;intro g cap w' h2 h3 h4 h5;refine h g cap w' ⟨?_,?_⟩ h3 h4 h5
 . rw [List.flatten_append,List.length_append]
   simpa using h2
 intro r hr;rcases List.mem_append.1 hr with hr|hr
 . exact hown.2 r hr
 rw [List.mem_singleton.1 hr];exact hrow
end
end Go.Proofs.YtckjdhaflokcgaaGreat
