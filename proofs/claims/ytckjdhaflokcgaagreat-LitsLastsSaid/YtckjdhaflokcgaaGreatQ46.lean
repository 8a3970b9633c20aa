/-
  Joined texts, part 46: contracts and plain lemmas.
  Conditions: none beyond those of each theorem.
-/
import Derived.Test.YtckjdhaflokcgaaGreatQ27
import Derived.Test.YtckjdhaflokcgaaGreatQ41
import Derived.Test.YtckjdhaflokcgaaGreatQ36
import Derived.Test.YtckjdhaflokcgaaGreatQ25
set_option maxHeartbeats 8000000
set_option linter.unusedVariables false
set_option linter.unusedSimpArgs false
set_option linter.unnecessarySimpa false
set_option maxRecDepth 100000
universe u
namespace Go.Proofs.YtckjdhaflokcgaaGreat
open Go.RowKit Go.Shelf Go.Sort
attribute [local go_sem] Oper.semAt_some
theorem Ki {F:Fence} {n':Nat} {P:Program} (w:World) {ops:Array Oper} {rest:List Oper} {o:Oper} {a:Act} {Q:Exit->Act->World->Prop} (hgd:o.guard=none) (s x:Operand) (t:TypeId)
   (ho:o.op = .call { callee:=.builtin .append,args:=#[s,x],argTypes:=#[t,t] }) (e:TypeId) (z:Value) (k Qa:Nat) (ht:P.underlying t=some (.slice e)) (hi:(P.info? e).map (fun i=>(i.zero,i.size,i.bytes))=some (some z,k,Qa)) (hzs:z.cells.size=k) (hk:0<k) (hby:Qa<=1024)
   (v:Value) (rows:List (List Value)) (hs:a.eval s=v) (hown:QZ w e k v rows) (kb cap:Nat) (row:List Value) (hrow:row.length=k) (h1:∀u∈row,u.oneCell'=true) (hx:a.eval x = .slice (some ⟨kb,0,none⟩) 1 cap) (hb:Blk w kb e row.toArray) (hlen:rows.length<=2^30)
   (h:∀g cap w',QZ w' e k (.slice (some ⟨g,0,none⟩) (rows.length+1) cap) (rows++[row])->w.grownBy w' v.ownBlock->(v.ownBlock=some g\/g=w.heap.size)->g<w'.heap.size->wpListIn F n' P ops Q rest (a.put o.dst (.slice (some ⟨g,0,none⟩) (rows.length+1) cap)) w') :
   wpListIn F n' P ops Q (o::rest) a w:=by
 obtain⟨i,hi0,hz,hsize,hbyt⟩:=info_parts hi
 have hcells:∀(j:Nat) u,row[j]?=some u->w.cell? ((⟨kb,0,none⟩:Addr).add j)=some u:=by
   intro j u hu;rw [Addr.add_lit,hb.cells j u (by simpa using hu)]
 have hmul:(rows.length+1)*Qa<=140737488355328:=Nat.le_trans (Nat.mul_le_mul (show rows.length+1<=2^30+1 by omega) hby) (by decide);refine wpListIn_plain hgd fun K hK=>?_;obtain⟨g,c2,w',hrun,h2,h3,h4,h5⟩:=run_append_lies (P:=P) w t o.type 0 e i z k Qa ht hi0 hz hsize hbyt hzs hk v rows.length _ hown.1 ⟨kb,0,none⟩ 1 cap row (by omega) hcells h1 (by omega) (by simp only [maxLen];omega) hmul (Nat.zero_le _) _ rfl;unfold Oper.wpIn;refine⟨?_,?_⟩
 . simp [Oper.about,ho,resolve,Target.leads,Sem.run_pure]
 rw [Oper.semAt_plain F _ _ (by rw [ho];intro c hc';cases hc')];simp [execOp,ho,resolve,invoke,builtin,hs,hx,hrun,Result.andThen];refine hK _ _ (h g c2 w' ⟨?_,?_⟩ h3 h4 h5)
 . rw [List.flatten_append,List.length_append]
   simpa using h2
 intro r hr;rcases List.mem_append.1 hr with hr|hr
 . exact hown.2 r hr
 rw [List.mem_singleton.1 hr];exact hrow
def ZF (l:List Int) (s:Nat):List Value:=en2 (s,(Qh l s).1)
def LeI {n:Nat} (w:World) (H T B0:Nat) (l:List Int) (pre:List { s:Nat // s<n }) (W:World):Prop :=
  Q0 w W/\B0<=W.heap.size/\(∃v,Blk W H 371 #[v]/\QZ W 379 2 v ((pre.map Subtype.val).map (ZF l))/\∀b,v.ownBlock=some b->B0<=b)/\Blk W T 3 #[.int .i64 (Qo l:Nat)]
theorem QZ.kept {W W':World} {e:TypeId} {k:Nat} {v:Value} {rows:List (List Value)} {row:Option Nat} (h:QZ W e k v rows) (hg:W.grownBy W' row) (hr:∀r,row=some r->∃o:Obj,W.heap[r]?=some o/\o.isCells=false):QZ W' e k v rows:=by
 refine h.upd (S:=fun b=>row=some b) ((Upd.refl _ W).grown hg fun k hk _=>hk) fun b hb hs=>?_;obtain⟨o,ho,hc⟩:=hr b hs;rcases h.1.2 with ⟨rfl,_⟩|⟨g,cap,cur,rfl,_,hh,_⟩
 . simp [Value.ownBlock]at hb
 (have:g=b:=by simpa [Value.ownBlock]using hb);subst this;rw [hh]at ho;injection ho with ho;subst ho;cases hc
theorem QZ.blk {w:World} {e:TypeId} {k:Nat} {v:Value} {rows:List (List Value)} (h:QZ w e k v rows) {b:Nat} (hb:v.ownBlock=some b):∃cs,Blk w b e cs:=by
 rcases h.1.2 with ⟨rfl,_⟩|⟨g,cap,cur,rfl,_,hh,_⟩
 . simp [Value.ownBlock]at hb
 (have:g=b:=by simpa [Value.ownBlock]using hb);subst this;exact⟨cur,hh⟩
theorem LeI.own {n:Nat} {w:World} {H T B0 B:Nat} {l:List Int} (hB:w.heap.size<=B):OwnFrom B (LeI (n:=n) w H T B0 l):=by
 intro pre W W' row h hg hr;obtain⟨h1,h2,⟨v,h3,h4,h5⟩,h6⟩:=h;have hr':=fun r e=>(hr r e).2;exact⟨h1.grown hg (fun k hk hlt=>by have:=(hr k hk).1;omega),Nat.le_trans h2 hg.size,⟨v,h3.kept hg hr',h4.kept hg hr',h5⟩,h6.kept hg hr'⟩
theorem Q1L (l:List Int):∀s∈Qq l,s<l.length:=by
 intro s hs;unfold Qq at hs;simp only [List.mem_flatMap,List.mem_filter,List.mem_range]at hs;obtain⟨_,_,h,_⟩:=hs;exact h
theorem Q1M {l:List Int} (ht:Qj l):(Qq l).length<=3072:=by
 have h:=V0 l 10 l.length (Nat.le_refl _);rw [Kd,VX]at h;have:=ht.2.1;have h2:(10+1)*l.length<=11*256:=Nat.mul_le_mul_left 11 this;omega
theorem Vn {n:Nat}:∀L:List Nat,(∀s∈L,s<n)->∃O:List { s:Nat // s<n },O.map Subtype.val=L
 | [],_=>⟨[],rfl⟩
 | s::L,h=>by
   obtain⟨O,hO⟩:=Vn L fun s hs=>h s (by simp [hs])
   exact⟨⟨s,h s (by simp)⟩::O,by simp [hO]⟩
theorem Q2I (F:Nat->Prop) (A:Option Addr) (n c:Nat) (l:List Int) (w:World) (hr:Rd w F A n (Qm l)) (ht:Qj l) (hc:n<=c) :
   Calls Tryz.prog 317 #[.slice A n c] w fun e w'=>∃v,e = .returned (.tuple #[v,.int .i64 0])/\QZ w' 379 2 v ((YT l).map en2)/\(∀b,v.ownBlock=some b->w.heap.size<=b)/\Q0 w w':=by
 have hmf:∀(fn:Fn) (first cap:Array Value) (w:World),(Instr.makeFunc fn first cap).run Tryz.prog w = .ok (.func fn first cap) w:=fun _ _ _ _=>rfl;(have hLl:l.length=n:=by have:=hr.1;simpa using this);obtain⟨w0,hw0⟩:=nm_ (w.alloc (.cells #[.slice none 0 0] 371));obtain⟨H,hH⟩:=nm_ (w.heap.size);(have f0:Q0 w w0:=by rw [hw0];exact(Upd.refl _ _).alloc _);(have bo:Blk w0 H 371 #[.slice none 0 0]:=by rw [hw0];exact Qc hH _ _);(have hs0:w0.heap.size=H+1:=by rw [hw0];simp [hH])
 have HMX:=hd_ (show Calls Tryz.prog 151 #[.slice A n c] w0 fun e w'=>Q0 w0 w'/\e = .returned (.tuple #[.int .i64 (Qo l:Nat),.int .i64 0])from
   (ZR F A n c l w0 (hr.fresh f0) (by have:=ht.2.1;omega) hc).mono fun e w' h=>⟨h.1,by have h2:=h.2;rw [if_pos ht]at h2;exact h2⟩)
 have HAL:=hd_ (fun W (hW:Q0 w W)=>Q2z F A n c l W (hr.fresh hW) ht hc);have HT:=hd_ ht;have HN:=hd_ (show n<=256 by have:=ht.2.1;omega);have HLl:=hd_ hLl;have BO:=hd_ bo;have F0:=hd_ f0;have HW:=hd_ hw0;have HH:=hd_ hH;have HS0:=hd_ hs0;clear hw0 hH f0 bo hr ht hc hLl hs0;refine Qg fun R hR=>?_;refine(callsIn_wide (n:=3)).1 (callsIn_of_wp_marks Tryz.func317 rfl trivial ?_ rfl);simp only [Tryz.ntmps317,List.size_toArray,List.length_cons,List.length_nil,Nat.reduceAdd,Nat.reduceSub,Array.replicate_succ,Array.replicate_zero,List.push_toArray,List.append_toArray,List.nil_append,List.cons_append];refine wpIn_wide.2 ?_;go_wp2_with fail;refine wp_scope_straight ?_;go_upto_region 2 with fail;simp only [<-HH.out,<-HW.out];go_wp2_with fail;refine HMX.out.mono ?_;rintro e w2 ⟨f2,rfl⟩;have F2:=hd_ f2;clear f2 HMX;go_wp2_with fail;obtain⟨T,hT⟩:=nm_ (w2.heap.size);obtain⟨w3,hw3⟩:=nm_ (w2.alloc (.cells #[.int .i64 (Qo l:Nat)] 3));simp only [<-hT,<-hw3];(have f3:Q0 w2 w3:=by rw [hw3];exact(Upd.refl _ _).alloc _);(have bT:Blk w3 T 3 #[.int .i64 (Qo l:Nat)]:=by rw [hw3];exact Qc hT _ _);(have hz3:w3.heap.size=T+1:=by rw [hw3,hT];simp);(have hHT:H<T:=by rw [hT];have:=F2.out.size;have:=HS0.out;omega);have F3:=hd_ (F2.out.trans' f3);have BT:=hd_ bT;have HZ3:=hd_ hz3;have HHT:=hd_ hHT;clear hT hw3 f3 bT hz3 hHT F2;refine(XG _ _ _ _ (fun k hk=>by(obtain rfl:k=0:=by omega);first|(simpa [HZ3.out]using(Blk.new w3 24 #[.int .i64 0]).cell 0)) (by omega)).mono ?_;rintro e w4 ⟨rfl,hw4⟩;(have f4:Q0 w3 w4:=by rw [hw4];exact(Upd.refl _ _).alloc _);have F4:=hd_ (F3.out.trans' f4);have BT4:=hd_ (BT.out.fresh f4);(have hz4:T+2<=w4.heap.size:=by rw [hw4];have:=HZ3.out;simp;omega);have HZ4:=hd_ hz4;clear hw4 f4 hz4 F3 BT HZ3;go_wp2_with fail;refine(HAL.out w4 (F0.out.trans' F4.out)).mono ?_;rintro e w5 ⟨P,Q,g,v,rfl,bP,oP,hvP,bQ,rQ,hP,hQ,hg,f5⟩;obtain⟨AO,nO,cO,rfl,hnO⟩:=oP.form';obtain⟨hnO',_,hRO⟩:=oP.rd rfl;(have hnO2:nO=(Qq l).length:=by rw [hnO'];simp [YH]);obtain⟨OS,hOS⟩:=Vn (n:=n) (Qq l) (fun s hs=>HLl.out ▸ Q1L l s hs);have hOl:=Q1M HT.out;(have hR5:Rd w5 (fun b=>Value.ownBlock (.slice AO nO cO)=some b) AO nO (YH (OS.map Subtype.val)):=by have:=hRO;rw [<-hnO']at this;rw [hOS];exact this);have HR5:=hd_ hR5;have HOS:=hd_ hOS;have HOL:=hd_ (And.intro hnO2 hOl);have HP5:=hd_ bP;have HQ5:=hd_ bQ;have HRQ:=hd_ rQ;have HVP:=hd_ hvP
 have HGS:=hd_ (show w4.heap.size<=P/\w4.heap.size<=Q/\w4.heap.size<=g/\g<w5.heap.size from⟨hP,hQ,hg,by
   obtain⟨b,o,he,hb,hbl,_⟩:=rQ.2 (by have h1:=HT.out.2.2.1;have h2:=YP l;have:=HLl.out;omega)
   omega⟩)
 have hOV:=hd_ (show ∀b,Value.ownBlock (.slice AO nO cO)=some b->b<w5.heap.size from fun b hb=>oP.lt hb);have F5:=hd_ (F4.out.trans' f5);have HI0:=hd_ (show LeI (n:=n) w H T w5.heap.size l [] w5 from⟨F0.out.trans' (F4.out.trans' f5),Nat.le_refl _,⟨_,(BO.out.fresh F4.out).fresh f5,QZ.nil _ _ _,fun b hb=>by simp [Value.ownBlock]at hb⟩,BT4.out.fresh f5⟩);obtain⟨Kb,hKb⟩:∃Kb:Nat->Prop,Kb=fun k=>k=P\/k=Q\/k=g\/Value.ownBlock (.slice AO nO cO)=some k:=⟨_,rfl⟩;have HKB:=hd_ (show ∀k,Kb k ↔ k=P\/k=Q\/k=g\/Value.ownBlock (.slice AO nO cO)=some k from fun k=>by rw [hKb])
 have HKD:=hd_ (show ∀k,Kb k->k<w5.heap.size/\k≠H from fun k hk=>by
   have h1:=HGS.out;have h2:=HZ4.out;have h3:=HHT.out;have h4:=bP.lt;have h5:=bQ.lt;rcases(HKB.out k).1 hk with h|h|h|h
   . omega
   . omega
   . omega
   have h6:=hvP k h;have h7:=hOV.out k h;omega)
 (have hcP:w5.cell? ⟨P,0,none⟩=some (.slice AO nO cO):=by simpa using bP.cell 0);(have hcQ:w5.cell? ⟨Q,0,none⟩=some (.slice (some ⟨g,0,none⟩) n n):=by simpa using bQ.cell 0);have HCP:=hd_ (And.intro hcP hcQ);clear hKb hcP hcQ bP oP hvP bQ rQ hP hQ hg f5 hnO hnO' hRO hnO2 hOl hR5 hOS BO BT4 HAL;go_wp2_with fail;have hOwn:OwnFrom w5.heap.size (LeI (n:=n) w H T w5.heap.size l):=LeI.own (F0.out.trans' F5.out).size;refine(wpIn_wide (n:=3)).1 ?_
 refine Zq (F:=Fence.wide) (n:=3) rfl (by omega) (gf:=326) (lb:=#[.pointer (some ⟨P,0,none⟩),.pointer (some ⟨Q,0,none⟩)]) rfl trivial (enters_of Tryz.func326 (by kernel_rfl) rfl)
   (Q1z (3-1) P Q g nO cO AO l OS Kb _ w5 HP5.out.lt HQ5.out.lt HCP.out.1 ((HKB.out P).2 (.inl rfl)) HCP.out.2 ((HKB.out Q).2 (.inr (.inl rfl))) HR5.out (fun b hb=>(HKB.out b).2 (.inr (.inr (.inr hb)))) HRQ.out ((HKB.out g).2 (.inr (.inr (.inl rfl)))) HLl.out (by have:=HOL.out;omega))
   QI.trans (fun W lo o o' hl ho _ _=>QI.putObj W o' (fun k hk=>⟨by have:=(HKD.out k hk).1;have:=(Array.getElem?_eq_some_iff.1 ho).1;omega,by have:=(HKD.out k hk).1;omega⟩)) (Below.refl _ _) (fun _=>rfl)
   (LeI w H T w5.heap.size l) (fun _ _ _=>False) hOwn (fun _ _ _ _ _ hs _ _=>hs) HI0.out 7 8 (fun x=>.int .i64 (x.1:Nat)) 133 (fun x=>#[.int .i64 ((Qh l x.1).1:Nat),.int .u32 ((Qh l x.1).2:Nat)])
   (fun pre W o hI=>QI.upd ((Upd.refl (fun _=>False) W).alloc o) (fun k hk=>⟨by have:=(HKD.out k hk).1;have:=hI.2.1;omega,fun h=>h⟩)) (fun pre W hI=>hI.2.1) ?assign ?body ?done ?stop
 case assign =>
   intro ll x W K hK;simp [X7]at hK ⊢;gi_wp2;exact hK
 case body =>
   rintro ll pre x X W hI hbX hXw hlt;simp [X7];obtain⟨hf,hBW,⟨v,hv,ho,hvb⟩,hT⟩:=hI;obtain⟨s,hs⟩:=x;simp only at hbX ⊢;obtain⟨A4,n4,c4,rfl,hn4⟩:=ho.form';have c0:=hv.cell 0;have c1:=hbX.cell 0;simp at c0 c1;(have hmap:((pre++[(⟨s,hs⟩:{ s:Nat // s<n })]).map Subtype.val).map (ZF l)=(pre.map Subtype.val).map (ZF l)++[ZF l s]:=by simp);obtain⟨L,hL⟩:=nm_ ((Qh l s).1);obtain⟨rows,hrows⟩:=nm_ ((pre.map Subtype.val).map (ZF l));(have hoe:ZF l s=en2 (s,L):=by unfold ZF;rw [hL]);rw [<-hrows,hoe]at hmap;rw [<-hrows]at ho;rw [<-hL]at c1;have HRL:=hd_ (show rows.length<=4096 by rw [hrows];have:=HOL.out;simp;omega);have HMAP:=hd_ hmap;have HV:=hd_ hv;have HO:=hd_ ho;have HVB:=hd_ hvb;have HF:=hd_ hf;have HTT:=hd_ hT;have HBW:=hd_ hBW;have HX:=hd_ hbX;clear hmap hv ho hvb hf hT hBW hbX hL hrows hoe hn4 hlt hOwn;gi_wp2_with (gi_at_builtin;refine Ki _ rfl (.tmp 22) (.tmp 27) _ rfl 379 _ 2 16 Tryz.underlying371 Zz rfl (by decide) (by decide) (.slice A4 n4 c4) rows rfl (HO.out.alloc _) W.heap.size 1 (en2 (s,L)) rfl (by simp [en2,Value.oneCell']) rfl (Blk.new W 379 #[.int .i64 (s:Nat),.int .i64 (L:Nat)]) (by have:=HRL.out;omega) ?_);intro g6 cap6 w6 o6 gr6 a6 h6;(have hne:(Value.slice A4 n4 c4).ownBlock≠some H:=fun h=>by obtain⟨cs,hc⟩:=HO.out.blk h;exact hc.ne_ HV.out (by decide) rfl);(have hneT:(Value.slice A4 n4 c4).ownBlock≠some T:=fun h=>by obtain⟨cs,hc⟩:=HO.out.blk h;exact hc.ne_ HTT.out (by decide) rfl);have b6:=(HV.out.alloc (.cells #[.int .i64 (s:Nat),.int .i64 (L:Nat)] 379)).grown gr6 hne;have t6:=(HTT.out.alloc (.cells #[.int .i64 (s:Nat),.int .i64 (L:Nat)] 379)).grown gr6 hneT;have u6:Upd (fun b=>(Value.slice A4 n4 c4).ownBlock=some b) W w6:=((Upd.refl _ W).alloc _).grown gr6 (fun k hk _=>hk);have k6:=b6.cell 0;have z6:=b6.frozen 0;simp at k6;have B6:=hd_ b6;have T6:=hd_ t6;have U6:=hd_ u6;have O6:=hd_ o6;have A6:=hd_ (show w5.heap.size<=g6 by rcases a6 with h|h;exact HVB.out _ h;have:=HBW.out;omega);obtain⟨LN,hLN⟩:=nm_ (rows.length+1);simp only [<-hLN]at O6 ⊢;clear b6 t6 u6 o6 gr6 a6 h6 hne hneT hLN;gi_wp2;obtain⟨w7,hw7⟩:=nm_ (w6.setCell ⟨H,0,none⟩ (.slice (some ⟨g6,0,none⟩) LN cap6));rw [<-hw7];(have us:Upd (fun b=>b=H) w6 w7:=by rw [hw7];exact(Upd.refl (fun b=>b=H) w6).setCell (p:=⟨H,0,none⟩) (fun _=>rfl) _);(have b7:Blk w7 H 371 #[.slice (some ⟨g6,0,none⟩) LN cap6]:=by rw [hw7];have:=B6.out.set_ 0 (.slice (some ⟨g6,0,none⟩) LN cap6);simpa using this);have t7:=T6.out.upd us (by have:=HHT.out;omega);(have hgH:H≠g6:=by have:=A6.out;have:=HHT.out;have:=HGS.out;have:=HZ4.out;omega);have o7:=O6.out.upd us (fun b hb e=>hgH (by(have e2:g6=b:=by simpa [Value.ownBlock]using hb);omega));have f7:Q0 w w7:=(HF.out.trans U6.out (fun b hb h=>by have:=HVB.out b h;have:=F5.out.size;have:=HS0.out;have h3:=HGS.out;have h4:=HZ4.out;have h5:=HHT.out;have:=F0.out.size;omega)).trans us (fun b hb h=>by have:=HH.out;omega)
   refine⟨(Yf _ U6.out (fun k _ hk=>⟨_,HO.out.blk hk⟩)).trans (Yf _ us (fun k _ hk=>by obtain rfl:k=H:=hk;exact⟨_,_,B6.out⟩)),?_,f7,?_,⟨_,b7,?_,?_⟩,t7⟩
   . refine(QI.upd U6.out (fun k hk=>⟨by have:=(HKD.out k hk).1;have:=HBW.out;omega,fun h=>by have:=HVB.out k h;have:=(HKD.out k hk).1;omega⟩)).trans (QI.upd us (fun k hk=>⟨by have:=(HKD.out k hk).1;have:=HBW.out;have:=U6.out.size;omega,fun h=>(HKD.out k hk).2 h⟩))
   . have:=HBW.out;have:=U6.out.size;have:=us.size;omega
   . rw [HMAP.out];exact o7
   intro b hb;(have e2:g6=b:=by simpa [Value.ownBlock]using hb);have:=A6.out;omega
 case done =>
   rintro D ys W hD rfl ⟨hf,hBW,⟨v,hv,ho,hvb⟩,hT⟩ hK;rw [HOS.out]at ho;obtain⟨A4,n4,c4,rfl,hn4⟩:=ho.form';obtain⟨hn5,_,hRV⟩:=ho.rd rfl;have c0:=hv.cell 0;simp at c0;have hT0:=hT.cell 0;simp at hT0;have hol:=HOL.out.2;(have hrl:((Qq l).map (ZF l)).length=(Qq l).length:=by simp);rw [<-hn5]at hRV
   have hen:(QX l (Qq l)).length<=2048:=by
     have h1:=Yy HT.out;have h2:=YG HT.out;have h3:2^Qo l<=2^11:=Nat.pow_le_pow_right (by decide) h2;show(YT l).length<=2048;omega
   have HFI:=hd_ (Q1i _ n4 c4 T A4 l (Qq l) W hRV hT0 hT.lt HT.out hen (by omega));have HF:=hd_ hf;have HK:=hd_ hK;clear hf hBW hv ho hvb hT hT0 hK hn4 hn5 hRV hol hrl hen hOwn;go_wp2_with fail;refine HFI.out.mono ?_;rintro e w6 ⟨v6,rfl,o6,hb6,f6⟩;obtain⟨A6,n6,c6,rfl,hn6⟩:=o6.form';have O6:=hd_ o6;have HB6:=hd_ hb6;have F6:=hd_ f6;clear o6 hb6 f6 hn6 HFI;go_wp2_with fail;(have hK6:w6.heap[D]?=some (.deferred (some [])):=by rw [F6.out.block D (Array.getElem?_eq_some_iff.1 HK.out).1 (fun h=>h)];exact HK.out);have u8:Upd (fun b=>b=D) w6 (w6.putObj D (.deferred none)):=(Upd.refl (fun b=>b=D) w6).grown (grownBy_putObj' w6 D _) (fun k e _=>by injection e with e;exact e.symm)
   have o8:QZ (w6.putObj D (.deferred none)) 379 2 (.slice A6 n6 c6) ((YT l).map en2):=O6.out.upd u8 (fun b hb hT=>by
     obtain⟨cs,hc⟩:=O6.out.blk hb;subst hT;unfold Blk at hc;rw [hK6]at hc
     cases hc)
   have f8:Q0 w (w6.putObj D (.deferred none)):=(HF.out.trans' F6.out).trans u8 (fun b hb h=>by have:=F0.out.size;have:=F5.out.size;omega);rw [Exit.noGoto_ret];show LeavesInM Fence.wide 3 _ _ _ _ ({ target:=.collected D,args:=#[] } :: []) .returning _;refine Zy (by simp) (run_takeDeferred hK6) ?_;show LeavesIn Fence.wide 3 _ _ _ _ [] .returning _;refine⟨.tuple #[.slice A6 n6 c6,.int .i64 0],?_,hR.out _ _ ⟨_,rfl,o8,fun b hb=>by have:=HB6.out b hb;have:=HF.out.size;omega,f8⟩⟩;simp [results,Tryz.results317,go_sem]
 case stop =>
   rintro D c pre W _ _ h _;exact h.elim
end Go.Proofs.YtckjdhaflokcgaaGreat
namespace Go.Proofs.YtckjdhaflokcgaaGreat
open Go.RowKit
def Ye (w:World) (F:Nat->Prop) (p:Nat) (l:List Int):Prop :=
  ∃(A:Option Addr) (c:Nat) (lv:Value),Blk w p 377 #[.slice A (2^Qo l) c,.int .i64 (Qo l:Nat),lv]/\RdK w F 2 A (2^Qo l) ((YT l).map en2)
theorem Ye.upd {w w':World} {F S:Nat->Prop} {p:Nat} {l:List Int} (h:Ye w F p l) (hu:Upd S w w') (hp:¬S p) (hF:∀b,b<w.heap.size->F b->¬S b):Ye w' F p l:=by
 obtain⟨A,c,lv,hb,hr⟩:=h;exact⟨A,c,lv,hb.upd hu hp,hr.upd hu hF⟩
theorem Ye.fresh {w w':World} {F:Nat->Prop} {p:Nat} {l:List Int} (h:Ye w F p l) (hu:Q0 w w'):Ye w' F p l:=h.upd hu (fun h=>h) (fun _ _ _ h=>h)
theorem Ye.lt {w:World} {F:Nat->Prop} {p:Nat} {l:List Int} (h:Ye w F p l):p<w.heap.size:=by
 obtain⟨A,c,lv,hb,hr⟩:=h;exact hb.lt
theorem Q2J (F:Nat->Prop) (A:Option Addr) (n c:Nat) (l:List Int) (w:World) (hr:Rd w F A n (Qm l)) (ht:Qj l) (hc:n<=c) :
   Calls Tryz.prog 308 #[.slice A n c] w fun e w'=>∃p,e = .returned (.tuple #[.pointer (some ⟨p,0,none⟩),.int .i64 0])/\Ye w' (fun b=>w.heap.size<=b) p l/\w.heap.size<=p/\Q0 w w':=by
 (have hLl:l.length=n:=by have:=hr.1;simpa using this);have HEN:=hd_ (Q2I F A n c l w hr ht hc)
 have HMX:=hd_ (fun W (hW:Q0 w W)=>show Calls Tryz.prog 151 #[.slice A n c] W fun e w'=>Q0 W w'/\e = .returned (.tuple #[.int .i64 (Qo l:Nat),.int .i64 0])from
   (ZR F A n c l W (hr.fresh hW) (by have:=ht.2.1;omega) hc).mono fun e w' h=>⟨h.1,by have h2:=h.2;rw [if_pos ht]at h2;exact h2⟩)
 have HCL:=hd_ (fun W (hW:Q0 w W)=>Ym A n n (Qm l) W (hr.fresh hW) (by intro u hu;obtain⟨x,_,rfl⟩:=List.mem_map.1 hu;rfl) (by have:=ht.2.1;omega));have HT:=hd_ ht;(have hnI:(n:Int)<=256:=by have:=ht.2.1;omega);(have hcI:(n:Int)<=c:=by omega);(have hnn:(0:Int)<=n:=by omega);have hEl:=Yy ht;have HEL:=hd_ hEl;clear hr ht hLl hEl;refine Qg fun R hR=>?_;go_enter Tryz.func308,Tryz.ntmps308;go_wp2_with fail;refine HEN.out.mono ?_;rintro e w1 ⟨v,rfl,ov,hv,f1⟩;obtain⟨A1,n1,c1,rfl,hn1⟩:=ov.form';obtain⟨hn2,_,hR1⟩:=ov.rd rfl;(have hn3:n1=2^Qo l:=by rw [hn2,List.length_map,HEL.out]);rw [<-hn2]at hR1;have HR1:=hd_ (hR1.mono (G:=fun b=>w.heap.size<=b) fun b hb=>hv b hb);have HN3:=hd_ hn3;have F1:=hd_ f1;clear ov hv f1 hn1 hn2 hR1 hn3 HEN;go_wp2_with fail;refine(HMX.out w1 F1.out).mono ?_;rintro e w2 ⟨f2,rfl⟩;have F2:=hd_ f2;clear f2 HMX;go_wp2_with fail
 refine(XG _ 2 2 _ (fun k hk=>by
   have h0:=(Blk.new w2 24 #[.int .i64 0,.int .i64 0]).cell 0;have h1:=(Blk.new w2 24 #[.int .i64 0,.int .i64 0]).cell 1;rcases(show k=0\/k=1 by omega)with rfl|rfl
   . simpa using h0
   simpa using h1) (by omega)).mono ?_
 rintro e w3 ⟨rfl,hw3⟩;have F3:=hd_ ((F1.out.trans' F2.out).trans' (show Q0 w2 w3 by rw [hw3];exact(Upd.refl _ _).alloc _));have F13:=hd_ (F2.out.trans' (show Q0 w2 w3 by rw [hw3];exact(Upd.refl _ _).alloc _));clear hw3 F2;go_wp2_with fail;refine(HCL.out w3 F3.out).mono ?_;rintro e w4 ⟨v4,rfl,o4,f4,hb4⟩;obtain⟨A4,n4,c4,rfl,hn4⟩:=o4.form';have F4:=hd_ (F3.out.trans' f4);have F14:=hd_ (F13.out.trans' f4);clear o4 f4 hb4 hn4 HCL;go_wp2_with fail;(try go_ret);have fa:Q0 w4 (w4.alloc (.cells #[.slice A1 n1 c1,.int .i64 (Qo l:Nat),.slice A4 n4 c4] 377)):=(Upd.refl _ _).alloc _;have hn:=HN3.out;subst hn;exact hR.out _ _ ⟨w4.heap.size,rfl,⟨A1,c1,_,Blk.new _ _ _,HR1.out.fresh (F14.out.trans' fa)⟩,F4.out.size,F4.out.trans' fa⟩
theorem Q1N (F:Nat->Prop) (p:Nat) (l:List Int) (w:World) (h:Ye w F p l) (ht:Qj l) :
   Calls Tryz.prog 319 #[.pointer (some ⟨p,0,none⟩)] w fun e w'=>e = .returned (.bool false)/\Q0 w w':=by
 obtain⟨A,c,lv,hb,hr⟩:=h;have c1:=hb.cell 1;simp at c1;have hm:=Vf ht;(have hmI:((Qo l:Int) == 0)=false:=by simp;omega);clear hb hr hm ht;refine Qg fun R hR=>?_;go_enter Tryz.func319,Tryz.ntmps319;go_wp2_with fail;(try go_ret);exact hR.out _ _ ⟨by simp [hmI],Upd.refl _ _⟩
theorem Q2K (F:Nat->Prop) (p:Nat) (l:List Int) (x n:Nat) (w:World) (h:Ye w F p l) (ht:Qj l) (hx:x<2^n) (hn:n<=11) :
   Calls Tryz.prog 309 #[.pointer (some ⟨p,0,none⟩),.int .u64 (x:Nat),.int .i64 (n:Nat)] w fun e w' =>
     e = .returned (if(Yk l x n).2<=n then .tuple #[.int .i64 ((Yk l x n).1:Nat),.int .i64 ((Yk l x n).2:Nat),.int .i64 0]else .tuple #[.int .i64 0,.int .i64 0,.int .i64 3])/\Q0 w w':=by
 have HNO:=hd_ (Q1N F p l w h ht);have HH:=hd_ (fun W (hW:Q0 w W)=>h.fresh hW);(have hnI:(n:Int)<=11:=by omega);(have hn0:0<=(n:Int):=by omega);have HT:=hd_ ht;have HX:=hd_ hx;have HN:=hd_ hn;clear h ht hx hn;refine Qg fun R hR=>?_;go_enter Tryz.func309,Tryz.ntmps309;go_wp2_with fail;refine HNO.out.mono ?_;rintro e w1 ⟨rfl,f1⟩;have F1:=hd_ f1;obtain⟨A,c,lv,hb,hr⟩:=HH.out w1 f1;obtain⟨j,hj⟩:=nm_ (x*2^(Qo l-n) / 2^(n-Qo l));(have hjl:j<2^Qo l:=by rw [hj,<-Yy HT.out];exact XM HT.out HX.out);(have hfk:Yk l x n=((YT l)[j]?).getD (0,0):=by unfold Yk;rw [<-hj]);(have hje:j<(YT l).length:=by rw [Yy HT.out];exact hjl);rw [List.getElem?_eq_getElem hje,Option.getD_some]at hfk;have hmm:Qo l<=11:=YG HT.out;obtain⟨b,o,rfl,_,_,hc9⟩:=hr.at_ (r:=0) hjl;(have hrow:((YT l).map en2)[j]'(by simpa using hje)=en2 (Yk l x n):=by simp [hfk]);have c0:=hc9 0 (by omega);have c1:=hc9 1 (by omega);rw [hrow]at c0 c1;obtain⟨⟨sy,ln⟩,hsl⟩:∃q,q=Yk l x n:=⟨_,rfl⟩;rw [<-hsl]at hR c0 c1;simp only [en2,List.getElem?_cons_zero,List.getElem?_cons_succ]at c0 c1;simp at c0 c1;simp only at hR
 have hbl:b<w1.heap.size:=by
   rcases Nat.lt_or_ge b w1.heap.size with h1|h1
   . exact h1
   simp [World.cell?,Array.getElem?_eq_none h1]at c0
 have HCE:=hd_ (show ∀W,Q0 w1 W->W.cell? ⟨b,o+j*2,none⟩=some (.int .i64 (sy:Nat))/\W.cell? ⟨b,o+j*2+1,none⟩=some (.int .i64 (ln:Nat))from fun W hW=>⟨by rw [Q0.cells hW _ _ hbl];exact c0,by rw [Q0.cells hW _ _ hbl];exact c1⟩);obtain⟨B,hB⟩:=nm_ (Qo l);obtain⟨N,hN⟩:=nm_ (2^Qo l);rw [<-hN]at hb hjl;rw [<-hB]at hb hj hmm;have HCB:=hd_ (show ∀W,Q0 w1 W->W.cell? ⟨p,0,none⟩=some (.slice (some ⟨b,o,none⟩) N c)/\W.cell? ⟨p,1,none⟩=some (.int .i64 (B:Nat))from fun W hW=>⟨by simpa using(hb.fresh hW).cell 0,by simpa using(hb.fresh hW).cell 1⟩);obtain⟨d1,hd1⟩:=nm_ (B-n);obtain⟨d2,hd2⟩:=nm_ (n-B);obtain⟨y,hy⟩:=nm_ (x*2^d1);rw [<-hd1,<-hd2,<-hy]at hj;(have hx64:(x:Int)<2048:=by have h1:=HX.out;have h2:2^n<=2^11:=Nat.pow_le_pow_right (by decide) HN.out;omega);have hp1:2^d1<=2048:=Nat.pow_le_pow_right (n:=2) (by decide) (show d1<=11 by omega);(have hyl:y<=4194304:=by rw [hy];exact Nat.le_trans (Nat.mul_le_mul (show x<=2048 by omega) hp1) (by decide))
 have hsh:(x:Int) / 2^n=0:=by
   have h1:=HX.out;(have h2:((2:Int)^n)=((2^n:Nat):Int):=by simp);rw [h2];exact Int.ediv_eq_zero_of_lt (by omega) (by omega)
 have hs1:IntKind.i64.wrap ((B:Int)-n)=(B:Int)-n:=IntWalk.i64_in _ (by omega);have hs2:IntKind.i64.wrap ((n:Int)-B)=(n:Int)-B:=IntWalk.i64_in _ (by omega);have HM:=hd_ (show max 0 ((B:Int)-n)=(d1:Nat)/\max 0 ((n:Int)-B)=(d2:Nat)from⟨by omega,by omega⟩)
 have hw1:IntKind.u64.wrap ((x:Int)*2^min d1 64)=(y:Nat):=by
   rw [show min d1 64=d1 by omega];(have h1:((x:Int)*2^d1)=(y:Nat):=by rw [hy];simp);rw [h1];unfold IntKind.wrap;simp [IntKind.bits];omega
 (have hw2:(y:Int) / 2^min d2 64=(j:Nat):=by rw [show min d2 64=d2 by omega,hj];simp);(have hjI:(j:Int)<N:=by omega);(have hj0:0<=(j:Int):=by omega);(have hnI64:¬(64:Int)<n:=by omega);clear hb hr hc9 hrow hfk hje hjl hsl hB hN hd1 hd2 hy hj hp1 hyl c0 c1 hbl f1 HNO hmm;go_upto_region 5 with fail;obtain⟨Cw,cEq⟩:=exC (fun W=>Q0 w1 W);obtain⟨Y,yA⟩:=exY [fun xs W=>(xs 0) = .pointer (some ⟨p,0,none⟩),fun xs W=>(xs 1) = .pointer (some ⟨p,0,none⟩),fun xs W=>(xs 2) = .pointer (some ⟨p,0,none⟩),fun xs W=>(xs 3) = .slice (some ⟨b,o,none⟩) N c,fun xs W=>(xs 4) = .int .u64 (x:Nat),fun xs W=>(xs 5) = .pointer (some ⟨p,0,none⟩),fun xs W=>(xs 6) = .pointer (some ⟨p,0,none⟩),fun xs W=>(xs 7) = .pointer (some ⟨p,1,none⟩),fun xs W=>(xs 8) = .int .i64 (B:Nat),fun xs W=>(xs 9) = .int .i64 (n:Nat),fun xs W=>(xs 10) = .int .i64 ((B:Int)-n),fun xs W=>(xs 11) = .int .i64 (d1:Nat),fun xs W=>(xs 12) = .int .u64 (y:Nat),fun xs W=>(xs 13) = .int .i64 (n:Nat),fun xs W=>(xs 14) = .pointer (some ⟨p,0,none⟩),fun xs W=>(xs 15) = .pointer (some ⟨p,0,none⟩),fun xs W=>(xs 16) = .pointer (some ⟨p,1,none⟩),fun xs W=>(xs 17) = .int .i64 (B:Nat),fun xs W=>(xs 18) = .int .i64 ((n:Int)-B),fun xs W=>(xs 19) = .int .i64 (d2:Nat),fun xs W=>(xs 20) = .int .u64 (j:Nat),fun xs W=>(xs 21) = .pointer (some ⟨b,o+j*2,none⟩),fun xs W=>(xs 22) = .agg #[.int .i64 (sy:Nat),.int .i64 (ln:Nat)],fun xs W=>∃q,(xs 23) = .pointer (some ⟨q,0,none⟩)/\Blk W q 379 #[.int .i64 0,.int .i64 0]/\w1.heap.size<=q,fun xs W=>∃q,(xs 23) = .pointer (some ⟨q,0,none⟩)/\Blk W q 379 #[.int .i64 (sy:Nat),.int .i64 (ln:Nat)]];have yf0:=yA 0;have yf1:=yA 1;have yf2:=yA 2;have yf3:=yA 3;have yf4:=yA 4;have yf5:=yA 5;have yf6:=yA 6;have yf7:=yA 7;have yf8:=yA 8;have yf9:=yA 9;have yf10:=yA 10;have yf11:=yA 11;have yf12:=yA 12;have yf13:=yA 13;have yf14:=yA 14;have yf15:=yA 15;have yf16:=yA 16;have yf17:=yA 17;have yf18:=yA 18;have yf19:=yA 19;have yf20:=yA 20;have yf21:=yA 21;have yf22:=yA 22;have yf23:=yA 23;have yf24:=yA 24;simp only [List.getD_cons_zero,List.getD_cons_succ]at yf0 yf1 yf2 yf3 yf4 yf5 yf6 yf7 yf8 yf9 yf10 yf11 yf12 yf13 yf14 yf15 yf16 yf17 yf18 yf19 yf20 yf21 yf22 yf23 yf24;(have yN:∀j xs W,25<=j->Y j xs W=True:=fun j xs W hj=>by rw [yA,QR _ _ _ hj])
 have yP:∀j xs W W',j∈[0,1,2,3,4,5,6,7,8,9,10,11,12,13,14,15,16,17,18,19,20,21,22]->Y j xs W->Y j xs W':=by
   intro j xs W W' hj hy;simp only [List.mem_cons,List.not_mem_nil,or_false]at hj;rcases hj with rfl|rfl|rfl|rfl|rfl|rfl|rfl|rfl|rfl|rfl|rfl|rfl|rfl|rfl|rfl|rfl|rfl|rfl|rfl|rfl|rfl|rfl|rfl
   . rw [yf0]at hy ⊢;exact hy
   . rw [yf1]at hy ⊢;exact hy
   . rw [yf2]at hy ⊢;exact hy
   . rw [yf3]at hy ⊢;exact hy
   . rw [yf4]at hy ⊢;exact hy
   . rw [yf5]at hy ⊢;exact hy
   . rw [yf6]at hy ⊢;exact hy
   . rw [yf7]at hy ⊢;exact hy
   . rw [yf8]at hy ⊢;exact hy
   . rw [yf9]at hy ⊢;exact hy
   . rw [yf10]at hy ⊢;exact hy
   . rw [yf11]at hy ⊢;exact hy
   . rw [yf12]at hy ⊢;exact hy
   . rw [yf13]at hy ⊢;exact hy
   . rw [yf14]at hy ⊢;exact hy
   . rw [yf15]at hy ⊢;exact hy
   . rw [yf16]at hy ⊢;exact hy
   . rw [yf17]at hy ⊢;exact hy
   . rw [yf18]at hy ⊢;exact hy
   . rw [yf19]at hy ⊢;exact hy
   . rw [yf20]at hy ⊢;exact hy
   . rw [yf21]at hy ⊢;exact hy
   rw [yf22]at hy ⊢;exact hy
 have yM:YA [[0],[1],[2],[3],[4],[5],[6],[7],[8],[9],[10],[11],[12],[13],[14],[15],[16],[17],[18],[19],[20],[21],[22],[23],[23]] Y:=by
   intro j xs xs' W hh hy;by_cases hj:25<=j
   . rw [yN j _ _ hj];trivial
   (have hj':j=0\/j=1\/j=2\/j=3\/j=4\/j=5\/j=6\/j=7\/j=8\/j=9\/j=10\/j=11\/j=12\/j=13\/j=14\/j=15\/j=16\/j=17\/j=18\/j=19\/j=20\/j=21\/j=22\/j=23\/j=24:=by omega);rcases hj' with rfl|rfl|rfl|rfl|rfl|rfl|rfl|rfl|rfl|rfl|rfl|rfl|rfl|rfl|rfl|rfl|rfl|rfl|rfl|rfl|rfl|rfl|rfl|rfl|rfl
   . rw [yf0]at hy ⊢;rw [<-hh 0 (by decide)];exact hy
   . rw [yf1]at hy ⊢;rw [<-hh 1 (by decide)];exact hy
   . rw [yf2]at hy ⊢;rw [<-hh 2 (by decide)];exact hy
   . rw [yf3]at hy ⊢;rw [<-hh 3 (by decide)];exact hy
   . rw [yf4]at hy ⊢;rw [<-hh 4 (by decide)];exact hy
   . rw [yf5]at hy ⊢;rw [<-hh 5 (by decide)];exact hy
   . rw [yf6]at hy ⊢;rw [<-hh 6 (by decide)];exact hy
   . rw [yf7]at hy ⊢;rw [<-hh 7 (by decide)];exact hy
   . rw [yf8]at hy ⊢;rw [<-hh 8 (by decide)];exact hy
   . rw [yf9]at hy ⊢;rw [<-hh 9 (by decide)];exact hy
   . rw [yf10]at hy ⊢;rw [<-hh 10 (by decide)];exact hy
   . rw [yf11]at hy ⊢;rw [<-hh 11 (by decide)];exact hy
   . rw [yf12]at hy ⊢;rw [<-hh 12 (by decide)];exact hy
   . rw [yf13]at hy ⊢;rw [<-hh 13 (by decide)];exact hy
   . rw [yf14]at hy ⊢;rw [<-hh 14 (by decide)];exact hy
   . rw [yf15]at hy ⊢;rw [<-hh 15 (by decide)];exact hy
   . rw [yf16]at hy ⊢;rw [<-hh 16 (by decide)];exact hy
   . rw [yf17]at hy ⊢;rw [<-hh 17 (by decide)];exact hy
   . rw [yf18]at hy ⊢;rw [<-hh 18 (by decide)];exact hy
   . rw [yf19]at hy ⊢;rw [<-hh 19 (by decide)];exact hy
   . rw [yf20]at hy ⊢;rw [<-hh 20 (by decide)];exact hy
   . rw [yf21]at hy ⊢;rw [<-hh 21 (by decide)];exact hy
   . rw [yf22]at hy ⊢;rw [<-hh 22 (by decide)];exact hy
   . rw [yf23]at hy ⊢;rw [<-hh 23 (by decide)];exact hy
   rw [yf24]at hy ⊢;rw [<-hh 23 (by decide)];exact hy
 clear yA
 have yR:∀j xs,25<=j->Y j xs (w1.drew):=by
   intro j xs hj;rcases(show 25<=j by omega)with hj;rw [yN _ _ _ hj];trivial
 refine QK Cw (fun j=>if j=23 then [24]else []) Y [(0,some 30),(1,some 31),(2,some 32),(3,some 33),(4,some 34),(5,some 35),(6,some 36),(7,some 37),(8,some 38),(9,some 39),(10,some 40),(11,some 41),(12,some 42),(13,some 43),(14,some 44),(15,some 45),(16,some 46),(17,some 47),(18,some 48),(19,some 49),(20,some 50),(21,some 51),(22,some 52),(23,some 9),(24,none)] (by kernel_rfl) (by kernel_rfl) (by kernel_rfl) (by rw [cEq];exact(Upd.refl _ _).drew) (fun j hj=>yR j _ hj) ?_ ?_
 . refine Qf.cons [] (by kernel_rfl) (fun xs W hw hd lst hl K hK=>?_) ?_
   . rw [cEq]at hw
     have hK':=hK.out;clear hK;simp only [Qd,Act.put,List.setIfInBounds_toArray,List.set_cons_zero,List.set_cons_succ]at hK' ⊢;go_simp;exact hK' _ _ (by rw [cEq];exact hw) (Qb yM 0 (by kernel_rfl) xs W _) (by rw [yf0];exact if_pos rfl)
   refine Qf.cons [(0,some 30)] (by kernel_rfl) (fun xs W hw hd lst hl K hK=>?_) ?_
   . rw [cEq]at hw
     have hK':=hK.out;clear hK;simp only [Ql]at hd;obtain⟨hf0,_⟩:=hd;simp only [Qd,Act.put,List.setIfInBounds_toArray,List.set_cons_zero,List.set_cons_succ]at hK' ⊢;rw [yf0]at hf0;simp only [hf0]at hK' ⊢;go_simp;exact hK' _ _ (by rw [cEq];exact hw) (Qb yM 1 (by kernel_rfl) xs W _) (by rw [yf1];exact if_pos rfl)
   refine Qf.cons [(1,some 31)] (by kernel_rfl) (fun xs W hw hd lst hl K hK=>?_) ?_
   . rw [cEq]at hw
     have hK':=hK.out;clear hK;simp only [Ql]at hd;obtain⟨hf1,_⟩:=hd;simp only [Qd,Act.put,List.setIfInBounds_toArray,List.set_cons_zero,List.set_cons_succ]at hK' ⊢;rw [yf1]at hf1;simp only [hf1]at hK' ⊢;go_simp;exact hK' _ _ (by rw [cEq];exact hw) (Qb yM 2 (by kernel_rfl) xs W _) (by rw [yf2];exact if_pos rfl)
   refine Qf.cons [(2,some 32)] (by kernel_rfl) (fun xs W hw hd lst hl K hK=>?_) ?_
   . rw [cEq]at hw
     have hK':=hK.out;clear hK;simp only [Ql]at hd;obtain⟨hf2,_⟩:=hd;simp only [Qd,Act.put,List.setIfInBounds_toArray,List.set_cons_zero,List.set_cons_succ]at hK' ⊢;rw [yf2]at hf2;simp only [hf2]at hK' ⊢;have cl:=HCB.out W hw;obtain⟨cl0,cl1⟩:=cl;go_simp;exact hK' _ _ (by rw [cEq];exact hw) (Qb yM 3 (by kernel_rfl) xs W _) (by rw [yf3];exact if_pos rfl)
   refine Qf.cons [] (by kernel_rfl) (fun xs W hw hd lst hl K hK=>?_) ?_
   . rw [cEq]at hw
     have hK':=hK.out;clear hK;simp only [Qd,Act.put,List.setIfInBounds_toArray,List.set_cons_zero,List.set_cons_succ]at hK' ⊢;go_simp;exact hK' _ _ (by rw [cEq];exact hw) (Qb yM 4 (by kernel_rfl) xs W _) (by rw [yf4];exact if_pos rfl)
   refine Qf.cons [] (by kernel_rfl) (fun xs W hw hd lst hl K hK=>?_) ?_
   . rw [cEq]at hw
     have hK':=hK.out;clear hK;simp only [Qd,Act.put,List.setIfInBounds_toArray,List.set_cons_zero,List.set_cons_succ]at hK' ⊢;go_simp;exact hK' _ _ (by rw [cEq];exact hw) (Qb yM 5 (by kernel_rfl) xs W _) (by rw [yf5];exact if_pos rfl)
   refine Qf.cons [(5,some 35)] (by kernel_rfl) (fun xs W hw hd lst hl K hK=>?_) ?_
   . rw [cEq]at hw
     have hK':=hK.out;clear hK;simp only [Ql]at hd;obtain⟨hf5,_⟩:=hd;simp only [Qd,Act.put,List.setIfInBounds_toArray,List.set_cons_zero,List.set_cons_succ]at hK' ⊢;rw [yf5]at hf5;simp only [hf5]at hK' ⊢;go_simp;exact hK' _ _ (by rw [cEq];exact hw) (Qb yM 6 (by kernel_rfl) xs W _) (by rw [yf6];exact if_pos rfl)
   refine Qf.cons [(6,some 36)] (by kernel_rfl) (fun xs W hw hd lst hl K hK=>?_) ?_
   . rw [cEq]at hw
     have hK':=hK.out;clear hK;simp only [Ql]at hd;obtain⟨hf6,_⟩:=hd;simp only [Qd,Act.put,List.setIfInBounds_toArray,List.set_cons_zero,List.set_cons_succ]at hK' ⊢;rw [yf6]at hf6;simp only [hf6]at hK' ⊢;go_simp;exact hK' _ _ (by rw [cEq];exact hw) (Qb yM 7 (by kernel_rfl) xs W _) (by rw [yf7];exact if_pos rfl)
   refine Qf.cons [(7,some 37)] (by kernel_rfl) (fun xs W hw hd lst hl K hK=>?_) ?_
   . rw [cEq]at hw
     have hK':=hK.out;clear hK;simp only [Ql]at hd;obtain⟨hf7,_⟩:=hd;simp only [Qd,Act.put,List.setIfInBounds_toArray,List.set_cons_zero,List.set_cons_succ]at hK' ⊢;rw [yf7]at hf7;simp only [hf7]at hK' ⊢;have cl:=HCB.out W hw;obtain⟨cl0,cl1⟩:=cl;go_simp;exact hK' _ _ (by rw [cEq];exact hw) (Qb yM 8 (by kernel_rfl) xs W _) (by rw [yf8];exact if_pos rfl)
   refine Qf.cons [] (by kernel_rfl) (fun xs W hw hd lst hl K hK=>?_) ?_
   . rw [cEq]at hw
     have hK':=hK.out;clear hK;simp only [Qd,Act.put,List.setIfInBounds_toArray,List.set_cons_zero,List.set_cons_succ]at hK' ⊢;go_simp;exact hK' _ _ (by rw [cEq];exact hw) (Qb yM 9 (by kernel_rfl) xs W _) (by rw [yf9];exact if_pos rfl)
   refine Qf.cons [(8,some 38),(9,some 39)] (by kernel_rfl) (fun xs W hw hd lst hl K hK=>?_) ?_
   . rw [cEq]at hw
     have hK':=hK.out;clear hK;simp only [Ql]at hd;obtain⟨hf8,hf9,_⟩:=hd;simp only [Qd,Act.put,List.setIfInBounds_toArray,List.set_cons_zero,List.set_cons_succ]at hK' ⊢;rw [yf8]at hf8;rw [yf9]at hf9;simp only [hf8,hf9]at hK' ⊢;go_simp;exact hK' _ _ (by rw [cEq];exact hw) (Qb yM 10 (by kernel_rfl) xs W _) (by rw [yf10];exact if_pos rfl)
   refine Qf.cons [(10,some 40)] (by kernel_rfl) (fun xs W hw hd lst hl K hK=>?_) ?_
   . rw [cEq]at hw
     have hK':=hK.out;clear hK;simp only [Ql]at hd;obtain⟨hf10,_⟩:=hd;simp only [Qd,Act.put,List.setIfInBounds_toArray,List.set_cons_zero,List.set_cons_succ]at hK' ⊢;rw [yf10]at hf10;simp only [hf10]at hK' ⊢;have hm1:=HM.out.1;go_simp;exact hK' _ _ (by rw [cEq];exact hw) (Qb yM 11 (by kernel_rfl) xs W _) (by rw [yf11];exact if_pos rfl)
   refine Qf.cons [(4,some 34),(11,some 41)] (by kernel_rfl) (fun xs W hw hd lst hl K hK=>?_) ?_
   . rw [cEq]at hw
     have hK':=hK.out;clear hK;simp only [Ql]at hd;obtain⟨hf4,hf11,_⟩:=hd;simp only [Qd,Act.put,List.setIfInBounds_toArray,List.set_cons_zero,List.set_cons_succ]at hK' ⊢;rw [yf4]at hf4;rw [yf11]at hf11;simp only [hf4,hf11]at hK' ⊢;go_simp;exact hK' _ _ (by rw [cEq];exact hw) (Qb yM 12 (by kernel_rfl) xs W _) (by rw [yf12];exact if_pos rfl)
   refine Qf.cons [] (by kernel_rfl) (fun xs W hw hd lst hl K hK=>?_) ?_
   . rw [cEq]at hw
     have hK':=hK.out;clear hK;simp only [Qd,Act.put,List.setIfInBounds_toArray,List.set_cons_zero,List.set_cons_succ]at hK' ⊢;go_simp;exact hK' _ _ (by rw [cEq];exact hw) (Qb yM 13 (by kernel_rfl) xs W _) (by rw [yf13];exact if_pos rfl)
   refine Qf.cons [] (by kernel_rfl) (fun xs W hw hd lst hl K hK=>?_) ?_
   . rw [cEq]at hw
     have hK':=hK.out;clear hK;simp only [Qd,Act.put,List.setIfInBounds_toArray,List.set_cons_zero,List.set_cons_succ]at hK' ⊢;go_simp;exact hK' _ _ (by rw [cEq];exact hw) (Qb yM 14 (by kernel_rfl) xs W _) (by rw [yf14];exact if_pos rfl)
   refine Qf.cons [(14,some 44)] (by kernel_rfl) (fun xs W hw hd lst hl K hK=>?_) ?_
   . rw [cEq]at hw
     have hK':=hK.out;clear hK;simp only [Ql]at hd;obtain⟨hf14,_⟩:=hd;simp only [Qd,Act.put,List.setIfInBounds_toArray,List.set_cons_zero,List.set_cons_succ]at hK' ⊢;rw [yf14]at hf14;simp only [hf14]at hK' ⊢;go_simp;exact hK' _ _ (by rw [cEq];exact hw) (Qb yM 15 (by kernel_rfl) xs W _) (by rw [yf15];exact if_pos rfl)
   refine Qf.cons [(15,some 45)] (by kernel_rfl) (fun xs W hw hd lst hl K hK=>?_) ?_
   . rw [cEq]at hw
     have hK':=hK.out;clear hK;simp only [Ql]at hd;obtain⟨hf15,_⟩:=hd;simp only [Qd,Act.put,List.setIfInBounds_toArray,List.set_cons_zero,List.set_cons_succ]at hK' ⊢;rw [yf15]at hf15;simp only [hf15]at hK' ⊢;go_simp;exact hK' _ _ (by rw [cEq];exact hw) (Qb yM 16 (by kernel_rfl) xs W _) (by rw [yf16];exact if_pos rfl)
   refine Qf.cons [(16,some 46)] (by kernel_rfl) (fun xs W hw hd lst hl K hK=>?_) ?_
   . rw [cEq]at hw
     have hK':=hK.out;clear hK;simp only [Ql]at hd;obtain⟨hf16,_⟩:=hd;simp only [Qd,Act.put,List.setIfInBounds_toArray,List.set_cons_zero,List.set_cons_succ]at hK' ⊢;rw [yf16]at hf16;simp only [hf16]at hK' ⊢;have cl:=HCB.out W hw;obtain⟨cl0,cl1⟩:=cl;go_simp;exact hK' _ _ (by rw [cEq];exact hw) (Qb yM 17 (by kernel_rfl) xs W _) (by rw [yf17];exact if_pos rfl)
   refine Qf.cons [(13,some 43),(17,some 47)] (by kernel_rfl) (fun xs W hw hd lst hl K hK=>?_) ?_
   . rw [cEq]at hw
     have hK':=hK.out;clear hK;simp only [Ql]at hd;obtain⟨hf13,hf17,_⟩:=hd;simp only [Qd,Act.put,List.setIfInBounds_toArray,List.set_cons_zero,List.set_cons_succ]at hK' ⊢;rw [yf13]at hf13;rw [yf17]at hf17;simp only [hf13,hf17]at hK' ⊢;go_simp;exact hK' _ _ (by rw [cEq];exact hw) (Qb yM 18 (by kernel_rfl) xs W _) (by rw [yf18];exact if_pos rfl)
   refine Qf.cons [(18,some 48)] (by kernel_rfl) (fun xs W hw hd lst hl K hK=>?_) ?_
   . rw [cEq]at hw
     have hK':=hK.out;clear hK;simp only [Ql]at hd;obtain⟨hf18,_⟩:=hd;simp only [Qd,Act.put,List.setIfInBounds_toArray,List.set_cons_zero,List.set_cons_succ]at hK' ⊢;rw [yf18]at hf18;simp only [hf18]at hK' ⊢;have hm2:=HM.out.2;go_simp;exact hK' _ _ (by rw [cEq];exact hw) (Qb yM 19 (by kernel_rfl) xs W _) (by rw [yf19];exact if_pos rfl)
   refine Qf.cons [(12,some 42),(19,some 49)] (by kernel_rfl) (fun xs W hw hd lst hl K hK=>?_) ?_
   . rw [cEq]at hw
     have hK':=hK.out;clear hK;simp only [Ql]at hd;obtain⟨hf12,hf19,_⟩:=hd;simp only [Qd,Act.put,List.setIfInBounds_toArray,List.set_cons_zero,List.set_cons_succ]at hK' ⊢;rw [yf12]at hf12;rw [yf19]at hf19;simp only [hf12,hf19]at hK' ⊢;go_simp;exact hK' _ _ (by rw [cEq];exact hw) (Qb yM 20 (by kernel_rfl) xs W _) (by rw [yf20];exact if_pos rfl)
   refine Qf.cons [(3,some 33),(20,some 50)] (by kernel_rfl) (fun xs W hw hd lst hl K hK=>?_) ?_
   . rw [cEq]at hw
     have hK':=hK.out;clear hK;simp only [Ql]at hd;obtain⟨hf3,hf20,_⟩:=hd;simp only [Qd,Act.put,List.setIfInBounds_toArray,List.set_cons_zero,List.set_cons_succ]at hK' ⊢;rw [yf3]at hf3;rw [yf20]at hf20;simp only [hf3,hf20]at hK' ⊢;go_simp;exact hK' _ _ (by rw [cEq];exact hw) (Qb yM 21 (by kernel_rfl) xs W _) (by rw [yf21];exact if_pos rfl)
   refine Qf.cons [(21,some 51)] (by kernel_rfl) (fun xs W hw hd lst hl K hK=>?_) ?_
   . rw [cEq]at hw
     have hK':=hK.out;clear hK;simp only [Ql]at hd;obtain⟨hf21,_⟩:=hd;simp only [Qd,Act.put,List.setIfInBounds_toArray,List.set_cons_zero,List.set_cons_succ]at hK' ⊢;rw [yf21]at hf21;simp only [hf21]at hK' ⊢;have cl:=HCE.out W hw;obtain⟨cl0,cl1⟩:=cl;go_simp;exact hK' _ _ (by rw [cEq];exact hw) (Qb yM 22 (by kernel_rfl) xs W _) (by rw [yf22];exact if_pos rfl)
   refine Qf.cons [] (by kernel_rfl) (fun xs W hw hd lst hl K hK=>?_) ?_
   . rw [cEq]at hw
     have hK':=hK.out;clear hK;simp only [Qd,Act.put,List.setIfInBounds_toArray,List.set_cons_zero,List.set_cons_succ]at hK' ⊢;have hsz:=hw.size;go_simp;have hR:=trivial;refine hK' (_) (_) (by rw [cEq];exact hw.alloc _) (fun j hs hy=>?_) (by rw [yf23];(try simp only [↓reduceIte]);try exact⟨W.heap.size,rfl,Blk.new _ _ _,hsz⟩);by_cases hj:25<=j
     . rw [yN j _ _ hj];trivial
     (have hj':j=0\/j=1\/j=2\/j=3\/j=4\/j=5\/j=6\/j=7\/j=8\/j=9\/j=10\/j=11\/j=12\/j=13\/j=14\/j=15\/j=16\/j=17\/j=18\/j=19\/j=20\/j=21\/j=22\/j=23\/j=24:=by omega);rcases hj' with rfl|rfl|rfl|rfl|rfl|rfl|rfl|rfl|rfl|rfl|rfl|rfl|rfl|rfl|rfl|rfl|rfl|rfl|rfl|rfl|rfl|rfl|rfl|rfl|rfl
     . rw [yf0]at hy ⊢;(try simp only [↓reduceIte,OfNat.ofNat_ne_ofNat,Nat.reduceEqDiff]);exact hy
     . rw [yf1]at hy ⊢;(try simp only [↓reduceIte,OfNat.ofNat_ne_ofNat,Nat.reduceEqDiff]);exact hy
     . rw [yf2]at hy ⊢;(try simp only [↓reduceIte,OfNat.ofNat_ne_ofNat,Nat.reduceEqDiff]);exact hy
     . rw [yf3]at hy ⊢;(try simp only [↓reduceIte,OfNat.ofNat_ne_ofNat,Nat.reduceEqDiff]);exact hy
     . rw [yf4]at hy ⊢;(try simp only [↓reduceIte,OfNat.ofNat_ne_ofNat,Nat.reduceEqDiff]);exact hy
     . rw [yf5]at hy ⊢;(try simp only [↓reduceIte,OfNat.ofNat_ne_ofNat,Nat.reduceEqDiff]);exact hy
     . rw [yf6]at hy ⊢;(try simp only [↓reduceIte,OfNat.ofNat_ne_ofNat,Nat.reduceEqDiff]);exact hy
     . rw [yf7]at hy ⊢;(try simp only [↓reduceIte,OfNat.ofNat_ne_ofNat,Nat.reduceEqDiff]);exact hy
     . rw [yf8]at hy ⊢;(try simp only [↓reduceIte,OfNat.ofNat_ne_ofNat,Nat.reduceEqDiff]);exact hy
     . rw [yf9]at hy ⊢;(try simp only [↓reduceIte,OfNat.ofNat_ne_ofNat,Nat.reduceEqDiff]);exact hy
     . rw [yf10]at hy ⊢;(try simp only [↓reduceIte,OfNat.ofNat_ne_ofNat,Nat.reduceEqDiff]);exact hy
     . rw [yf11]at hy ⊢;(try simp only [↓reduceIte,OfNat.ofNat_ne_ofNat,Nat.reduceEqDiff]);exact hy
     . rw [yf12]at hy ⊢;(try simp only [↓reduceIte,OfNat.ofNat_ne_ofNat,Nat.reduceEqDiff]);exact hy
     . rw [yf13]at hy ⊢;(try simp only [↓reduceIte,OfNat.ofNat_ne_ofNat,Nat.reduceEqDiff]);exact hy
     . rw [yf14]at hy ⊢;(try simp only [↓reduceIte,OfNat.ofNat_ne_ofNat,Nat.reduceEqDiff]);exact hy
     . rw [yf15]at hy ⊢;(try simp only [↓reduceIte,OfNat.ofNat_ne_ofNat,Nat.reduceEqDiff]);exact hy
     . rw [yf16]at hy ⊢;(try simp only [↓reduceIte,OfNat.ofNat_ne_ofNat,Nat.reduceEqDiff]);exact hy
     . rw [yf17]at hy ⊢;(try simp only [↓reduceIte,OfNat.ofNat_ne_ofNat,Nat.reduceEqDiff]);exact hy
     . rw [yf18]at hy ⊢;(try simp only [↓reduceIte,OfNat.ofNat_ne_ofNat,Nat.reduceEqDiff]);exact hy
     . rw [yf19]at hy ⊢;(try simp only [↓reduceIte,OfNat.ofNat_ne_ofNat,Nat.reduceEqDiff]);exact hy
     . rw [yf20]at hy ⊢;(try simp only [↓reduceIte,OfNat.ofNat_ne_ofNat,Nat.reduceEqDiff]);exact hy
     . rw [yf21]at hy ⊢;(try simp only [↓reduceIte,OfNat.ofNat_ne_ofNat,Nat.reduceEqDiff]);exact hy
     . rw [yf22]at hy ⊢;(try simp only [↓reduceIte,OfNat.ofNat_ne_ofNat,Nat.reduceEqDiff]);exact hy
     . exact(Qn hs (by kernel_rfl)).elim
     exact(Qn hs (by kernel_rfl)).elim
   refine Qf.cons [(22,some 52),(23,some 9)] (by kernel_rfl) (fun xs W hw hd lst hl K hK=>?_) ?_
   . rw [cEq]at hw
     have hK':=hK.out;clear hK;simp only [Ql]at hd;obtain⟨hf22,hf23,_⟩:=hd;simp only [Qd,Act.put,List.setIfInBounds_toArray,List.set_cons_zero,List.set_cons_succ]at hK' ⊢;rw [yf22]at hf22;rw [yf23]at hf23;simp only [hf22]at hK' ⊢;obtain⟨q,h23,bq,hq⟩:=hf23;simp only [h23]at hK' ⊢;have e0:=bq.cell 0;have e1:=bq.cell 1;have z0:=bq.frozen 0;have z1:=bq.frozen 1;simp at e0 e1;(have b2:Blk ((W.setCell ⟨q,0,none⟩ (.int .i64 (sy:Nat))).setCell ⟨q,1,none⟩ (.int .i64 (ln:Nat))) q 379 #[.int .i64 (sy:Nat),.int .i64 (ln:Nat)]:=by have:=(bq.set_ 0 (.int .i64 (sy:Nat))).set_ 1 (.int .i64 (ln:Nat));simpa using this);have B2:=hd_ b2;have HQ:=hd_ hq;clear bq b2 hq;go_simp;have hR:=trivial;refine hK' (undef) (_) (by rw [cEq];exact(hw.setCell (p:=⟨q,0,none⟩) (fun h=>by have:=HQ.out;simp at h;omega) _).setCell (p:=⟨q,1,none⟩) (fun h=>by have:=HQ.out;simp at h;omega) _) (QG yM 24 (by kernel_rfl) _ fun j hs hy=>?_) (by rw [yf24];(try simp only [↓reduceIte]);try exact⟨q,h23,B2.out⟩);by_cases hp:j∈[0,1,2,3,4,5,6,7,8,9,10,11,12,13,14,15,16,17,18,19,20,21,22]
     . exact yP j _ _ _ hp hy
     by_cases hj:25<=j
     . rw [yN j _ _ hj];trivial
     simp only [List.mem_cons,List.not_mem_nil,or_false]at hp;rcases(show j=23\/j=24 by omega)with rfl|rfl
     . exact(Qn hs (by kernel_rfl)).elim
     exact(Qn hs (by kernel_rfl)).elim
   exact Qf.nil
 intro xs W hw hd;rw [cEq]at hw;simp only [Yd]at hd;obtain⟨fe0,fe1,fe2,fe3,fe4,fe5,fe6,fe7,fe8,fe9,fe10,fe11,fe12,fe13,fe14,fe15,fe16,fe17,fe18,fe19,fe20,fe21,fe22,fe23,fe24,_⟩:=hd;have fe0:=fe0 (by kernel_rfl);rw [yf0]at fe0;have fe1:=fe1 (by kernel_rfl);rw [yf1]at fe1;have fe2:=fe2 (by kernel_rfl);rw [yf2]at fe2;have fe3:=fe3 (by kernel_rfl);rw [yf3]at fe3;have fe4:=fe4 (by kernel_rfl);rw [yf4]at fe4;have fe5:=fe5 (by kernel_rfl);rw [yf5]at fe5;have fe6:=fe6 (by kernel_rfl);rw [yf6]at fe6;have fe7:=fe7 (by kernel_rfl);rw [yf7]at fe7;have fe8:=fe8 (by kernel_rfl);rw [yf8]at fe8;have fe9:=fe9 (by kernel_rfl);rw [yf9]at fe9;have fe10:=fe10 (by kernel_rfl);rw [yf10]at fe10;have fe11:=fe11 (by kernel_rfl);rw [yf11]at fe11;have fe12:=fe12 (by kernel_rfl);rw [yf12]at fe12;have fe13:=fe13 (by kernel_rfl);rw [yf13]at fe13;have fe14:=fe14 (by kernel_rfl);rw [yf14]at fe14;have fe15:=fe15 (by kernel_rfl);rw [yf15]at fe15;have fe16:=fe16 (by kernel_rfl);rw [yf16]at fe16;have fe17:=fe17 (by kernel_rfl);rw [yf17]at fe17;have fe18:=fe18 (by kernel_rfl);rw [yf18]at fe18;have fe19:=fe19 (by kernel_rfl);rw [yf19]at fe19;have fe20:=fe20 (by kernel_rfl);rw [yf20]at fe20;have fe21:=fe21 (by kernel_rfl);rw [yf21]at fe21;have fe22:=fe22 (by kernel_rfl);rw [yf22]at fe22;have fe24:=fe24 (by kernel_rfl);rw [yf24]at fe24;clear fe23;simp only [Qd,Act.put,List.setIfInBounds_toArray,List.set_cons_zero,List.set_cons_succ];generalize xs 0=xv0 at *;generalize xs 1=xv1 at *;generalize xs 2=xv2 at *;generalize xs 3=xv3 at *;generalize xs 4=xv4 at *;generalize xs 5=xv5 at *;generalize xs 6=xv6 at *;generalize xs 7=xv7 at *;generalize xs 8=xv8 at *;generalize xs 9=xv9 at *;generalize xs 10=xv10 at *;generalize xs 11=xv11 at *;generalize xs 12=xv12 at *;generalize xs 13=xv13 at *;generalize xs 14=xv14 at *;generalize xs 15=xv15 at *;generalize xs 16=xv16 at *;generalize xs 17=xv17 at *;generalize xs 18=xv18 at *;generalize xs 19=xv19 at *;generalize xs 20=xv20 at *;generalize xs 21=xv21 at *;generalize xs 22=xv22 at *;generalize xs 23=xv23 at *;generalize xs 24=xv24 at *;subst fe0;subst fe1;subst fe2;subst fe3;subst fe4;subst fe5;subst fe6;subst fe7;subst fe8;subst fe9;subst fe10;subst fe11;subst fe12;subst fe13;subst fe14;subst fe15;subst fe16;subst fe17;subst fe18;subst fe19;subst fe20;subst fe21;subst fe22;clear yf0 yf1 yf2 yf3 yf4 yf5 yf6 yf7 yf8 yf9 yf10 yf11 yf12 yf13 yf14 yf15 yf16 yf17 yf18 yf19 yf20 yf21 yf22 yf23 yf24 yN yR yM yP cEq;obtain⟨q,hq,bq⟩:=fe24;subst hq;obtain⟨e0,e1⟩:=(bq).cells2;by_cases hl:ln<=n
 . have hlI:¬(n:Int)<ln:=by omega
   rw [if_pos hl]at hR;clear hl;go_upto_region 8 with fail;refine Qv 6 (by kernel_rfl) (by kernel_rfl) ?_;simp only [List.take_succ_cons,List.take_zero,List.drop_succ_cons,List.drop_zero];(repeat(first|go_big_quiet_step (fail)|quiet_step (fail)));refine wpQuiet_nil ?_;rintro w5 ⟨q5,rfl⟩;go_wp2_with fail;refine⟨rfl,.tuple #[.int .i64 (sy:Nat),.int .i64 (ln:Nat),.int .i64 0],?_,hR.out _ _ ⟨rfl,(F1.out.trans' hw).drewN _⟩⟩;simp [results,Tryz.results309,go_sem]
 (have hlI:(n:Int)<ln:=by omega);rw [if_neg hl]at hR;clear hl;go_wp2_with fail;refine⟨rfl,.tuple #[.int .i64 0,.int .i64 0,.int .i64 3],?_,hR.out _ _ ⟨rfl,F1.out.trans' hw⟩⟩;simp [results,Tryz.results309,go_sem]
end Go.Proofs.YtckjdhaflokcgaaGreat
