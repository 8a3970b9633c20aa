/-
  Joined texts, part 30: contracts and plain lemmas.
  Conditions: none beyond those of each theorem.
-/
import Derived.Test.YtjfdaphjijfieaaGreatL19
import Derived.Test.YtjfdaphjijfieaaGreatL29
set_option maxHeartbeats 4000000
set_option linter.unusedVariables false
set_option linter.unusedSimpArgs false
set_option maxRecDepth 100000
universe u
namespace Go.Proofs.YtjfdaphjijfieaaGreat
open Go.RowKit Go.Shelf
attribute [local go_sem] Oper.semAt_some
theorem Own.kept {W W':World} {e:TypeId} {v:Value} {xs:List Value} {row:Option Nat} (h:Own W e v xs) (hg:W.grownBy W' row) (hr:∀r,row=some r->∃o:Obj,W.heap[r]?=some o/\o.isCells=false):Own W' e v xs:=by
 refine h.upd (S:=fun b=>row=some b) ((Upd.refl _ W).grown hg fun k hk _=>hk) fun b hb hs=>?_;obtain⟨o,ho,hc⟩:=hr b hs;rcases h.2 with ⟨rfl,_⟩|⟨g,cap,cur,rfl,_,hh,_⟩
 . simp [Value.ownBlock]at hb
 (have:g=b:=by simpa [Value.ownBlock]using hb);subst this;rw [hh]at ho;injection ho with ho;subst ho;cases hc
theorem Blk.kept {W W':World} {g:Nat} {t:TypeId} {cs:Array Value} {row:Option Nat} (h:Blk W g t cs) (hg:W.grownBy W' row) (hr:∀r,row=some r->∃o:Obj,W.heap[r]?=some o/\o.isCells=false):Blk W' g t cs:=by
 refine h.grown hg fun hs=>?_;obtain⟨o,ho,hc⟩:=hr g hs;rw [show W.heap[g]?=_ from h]at ho;injection ho with ho;subst ho;cases hc
theorem Zb {S:Nat->Prop} {W W':World} (B:Nat) (h:Upd S W W') (hs:∀k,k<W.heap.size->S k->∃t cs,Blk W k t cs):KeepsFrom B W W':=by
 refine⟨h.size,fun k o _ hk ho=>?_⟩;have hlt:=(Array.getElem?_eq_some_iff.1 hk).1;by_cases hS:S k
 . obtain⟨t,cs,hb⟩:=hs k hlt hS
   rw [show W.heap[k]?=_ from hb]at hk;injection hk with hk;subst hk;cases ho
 rw [h.block k hlt hS];exact hk
theorem Q3j {F':Nat->Prop} {F:Fence} {n':Nat} {P:Program} (w:World) {ops:Array Oper} {rest:List Oper} {o:Oper} {a:Act} {Q:Exit->Act->World->Prop} (hgd:o.guard=none) (s x:Operand) (t:TypeId)
   (ho:o.op = .call { callee:=.builtin .append,args:=#[s,x],argTypes:=#[t,t] })
   (e:TypeId) (z:Value) (Q9:Nat) (ht:P.underlying t=some (.slice e)) (hi:(P.info? e).map (fun i=>(i.zero,i.size,i.bytes))=some (some z,1,Q9)) (hzs:z.cells.size=1)
   (v:Value) (xs:List Value) (hs:a.eval s=v) (hown:Own w e v xs) (A:Option Addr) (m c:Nat) (news:List Value) (hx:a.eval x = .slice A m c) (hr:Rd w F' A m news) (h1:∀u∈news,u.oneCell'=true)
   (hb:Q9<=64) (hlen:xs.length+m<=2^40)
   (h:∀v' w',Own w' e v' (xs++news)->w.grownBy w' v.ownBlock->(v'.ownBlock=v.ownBlock\/v'.ownBlock=some w.heap.size)->wpListIn F n' P ops Q rest (a.put o.dst v') w'):wpListIn F n' P ops Q (o::rest) a w:=by
 refine wpListIn_plain hgd fun K hK=>?_;obtain⟨v',w',hrun,h2,h3,h4⟩:=Q4p (P:=P) w t o.type e z Q9 ht hi hzs v xs hown A m c news hr h1 hb hlen;unfold Oper.wpIn;refine⟨?_,?_⟩
 . simp [Oper.about,ho,resolve,Target.leads,Sem.run_pure]
 rw [Oper.semAt_plain F _ _ (by rw [ho];intro c hc';cases hc')];simp [execOp,ho,resolve,invoke,builtin,hs,hx,hrun,Result.andThen];exact hK _ _ (h v' w' h2 h3 h4)
theorem Own.blk {w:World} {e:TypeId} {v:Value} {xs:List Value} (h:Own w e v xs) {b:Nat} (hb:v.ownBlock=some b):∃cs,Blk w b e cs:=by
 rcases h.2 with ⟨rfl,_⟩|⟨g,cap,cur,rfl,_,hh,_⟩
 . simp [Value.ownBlock]at hb
 (have:g=b:=by simpa [Value.ownBlock]using hb);subst this;exact⟨cur,hh⟩
theorem Q5u (n:Int) (w:World) :
   Calls Tryz.prog 49 #[.int .u64 n] w fun e w'=>e = .returned (.func (.func 83) #[] #[.pointer (some ⟨w.heap.size,0,none⟩)])/\w'=w.alloc (.cells #[.int .u64 n] 57):=by
 go_enter Tryz.func49,Tryz.ntmps49;go_wp2_with fail;(try go_ret);exact⟨rfl,rfl⟩
theorem Q6H (F:Fence) (m l Bn n:Nat) (hft:F.fn 83) (hro:F.round=none) (hd:F.depth=none) (hn:n<128) (J Jx:List Nat->World->Prop)
   (hY:∀pre x W,J pre W->pre.length<1->YieldAt F (m-1) Tryz.prog l #[.int .u8 (x:Nat)] W fun e W' =>
     (e = .returned (.bool true)/\J (pre++[x]) W'/\QS Bn W W')\/(e = .returned (.bool false)/\Jx (pre++[x]) W'))
   (W:World) (hBn:W.cell? ⟨Bn,0,none⟩=some (.int .u64 (n:Nat))) (h0:J [] W) :
   CallsIn F m Tryz.prog 83 #[.func (.yield l) #[] #[],.pointer (some ⟨Bn,0,none⟩)] W fun e W'=>(∃v,e = .returned v) /\
     ((∃ys,ys=[n]/\J ys W')\/(∃pre,pre <+: [n]/\Jx pre W')):=by
 (have hnI:(n:Int)<128:=by omega);have hy':=hY [] n W h0 (by simp);(have hwr:IntKind.u8.wrap (n:Int)=n:=by rw [IntKind.wrap_u8'];omega);refine callsIn_of_wp Tryz.func83 rfl hft ?_ hro;simp only [Tryz.ntmps83,List.size_toArray,List.length_cons,List.length_nil,Nat.reduceAdd,Nat.reduceSub,Array.replicate_succ,Array.replicate_zero,List.push_toArray,List.append_toArray,List.nil_append,List.cons_append];gi_wp2;gi_loopg [] 0 (fun f wr=>wr=W)
 case atStart=>rfl
 case round =>
   subst hrel;obtain⟨fn,tmps,assign,body,hy,hR⟩:=hy';gi_wp2
   first
     | refine hR.mono ?_
     | refine⟨?_,?_,hR.mono ?_⟩
     | trace_state
   rintro e W3 (⟨rfl,hJ3,hk3⟩|⟨rfl,hJx3⟩)
   . clear hR hy
     gi_wp2;go_end0;exact⟨⟨_,rfl⟩,.inl ⟨_,rfl,hJ3⟩⟩
   gi_wp2;go_end0;exact⟨⟨_,rfl⟩,.inr ⟨_,List.prefix_rfl,hJx3⟩⟩
theorem Q42 (m Bn n:Nat) (hn:n<128) (w:World) (hBn:Bn<w.heap.size) (hc:w.cell? ⟨Bn,0,none⟩=some (.int .u64 (n:Nat))) :
   SeqStopsK Fence.wide m Tryz.prog 83 #[.pointer (some ⟨Bn,0,none⟩)] (fun x:Nat=>#[Value.int .u8 (x:Nat)]) (QS Bn) (fun ys=>ys=[n]) (fun pre=>pre <+: [n]) 1 w :=
 fun l J Jx W hW hJa _ hY h0=>Q6H Fence.wide m l Bn n trivial rfl rfl hn J Jx hY W ((hW.cell (p:=⟨Bn,0,none⟩) hBn).trans hc) h0
def Q3k (w:World) (C:Nat) (n:Int) (pre:List Nat) (W:World):Prop :=
  ∃v,Blk W (C+1) 57 #[.int .u64 n]/\Blk W C 26 #[v]/\Own W 5 v (Q9 pre)/\(∀b,v.ownBlock=some b->w.heap.size<=b)/\Q0 w W
theorem Q3k.own {w:World} {C B:Nat} {n:Int} (hB:w.heap.size<=B):OwnFrom B (Q3k w C n):=by
 intro pre W W' row h hg hr;obtain⟨v,h0,h1,h2,h3,h4⟩:=h;exact⟨v,h0.kept hg fun r e=>(hr r e).2,h1.kept hg fun r e=>(hr r e).2,h2.kept hg fun r e=>(hr r e).2,h3,h4.grown hg fun k hk hlt=>by have:=(hr k hk).1;omega⟩
theorem Q3l (n:Nat) (w:World) (hn:n<128) :
   Calls Tryz.prog 27 #[.slice none 0 0,.int .u64 (n:Nat)] w fun e w'=>∃v,e = .returned (.tuple #[v,.int .i64 0])/\QB w w' v [n]:=by
 (have hnI:¬(4611686018427387903:Int)<(n:Nat):=by omega);have HCL:=hd_ (Jv (F:=fun _=>False) none 0 0 [] w (Rd.nil _ _ _) (fun _ h=>by cases h) (by omega));refine Q6 fun R hR=>?_;refine(callsIn_wide (n:=3)).1 (callsIn_of_wp_marks Tryz.func27 rfl trivial ?_ rfl);simp only [Tryz.ntmps27,List.size_toArray,List.length_cons,List.length_nil,Nat.reduceAdd,Nat.reduceSub,Array.replicate_succ,Array.replicate_zero,List.push_toArray,List.append_toArray,List.nil_append,List.cons_append];refine wpIn_wide.2 ?_;go_wp2_with fail;refine HCL.out.mono ?_;rintro e w1 ⟨v1,rfl,o1,f1,hb1⟩;obtain⟨A1,n1,c1,rfl,hn1⟩:=o1.form';have O1:=hd_ o1;have HB1:=hd_ hb1;have F1:=hd_ f1;clear o1 hb1 f1;go_wp2_with fail;refine(Q5u _ _).mono ?_;rintro e w2 ⟨rfl,rfl⟩;go_wp2_with fail;obtain⟨C,hC⟩:=nm_ (w1.heap.size);obtain⟨w3,hw3⟩:=nm_ ((w1.alloc (.cells #[.slice A1 n1 c1] 26)).alloc (.cells #[.int .u64 n] 57));simp only [<-hC,<-hw3];(have f3:Q0 w1 w3:=by rw [hw3];exact((Upd.refl _ _).alloc _).alloc _);(have hz3:w3.heap.size=C+2:=by rw [hw3,hC];simp);(have bC:Blk w3 C 26 #[.slice A1 n1 c1]:=by rw [hw3];exact(Q1 hC _ _).alloc _);(have bN:Blk w3 (C+1) 57 #[.int .u64 (n:Nat)]:=by rw [hw3];exact Q1 (by simp [hC]) _ _);(have hcN:w3.cell? ⟨C+1,0,none⟩=some (.int .u64 (n:Nat)):=by simpa using bN.cell 0);(have hwC:w.heap.size<=C:=by rw [hC];exact F1.out.size);have hI0:Q3k w C n [] w3:=⟨_,bN,bC,O1.out.fresh f3,HB1.out,F1.out.trans' f3⟩;have HZ3:=hd_ hz3;have HWC:=hd_ hwC;have HI0:=hd_ hI0;clear hC hw3 f3 bC bN hn1 O1 HB1;refine(wpIn_wide (n:=3)).1 ?_
 refine Ky (F:=Fence.wide) (n:=3) rfl (by omega) (gf:=83) (lb:=#[.pointer (some ⟨C+1,0,none⟩)]) rfl trivial (enters_of Tryz.func83 (by kernel_rfl) rfl)
   (Q42 (3-1) (C+1) n hn w3 (by have:=HZ3.out;omega) hcN) QS.trans (fun W l o o' hl _ _ _=>QS.putObj W o' (by have:=HZ3.out;omega)) (Below.refl _ _) (fun _=>rfl)
   (Q3k w C n) (fun _ _ _=>False) (Q3k.own (by have:=HZ3.out;omega)) (fun _ _ _ _ _ hs _ _=>hs) HI0.out 7 (fun x=>.int .u8 (x:Nat)) ?assign ?body ?done ?stop
 case assign =>
   intro l x W K hK;simp at hK ⊢;gi_wp2;exact hK
 case body =>
   rintro l pre x W ⟨v,hbn,hb,ho,hvb,hf⟩ hlt;have hpre:pre=[]:=List.eq_nil_of_length_eq_zero (by omega);subst hpre;simp;obtain⟨A4,n4,c4,rfl,hn4⟩:=ho.form';have c0:=hb.cell 0;simp at c0;have HB:=hd_ hb;have HBN:=hd_ hbn;have HO:=hd_ ho;have HVB:=hd_ hvb;have HF:=hd_ hf;have hrd:Rd (W.alloc (.cells #[.int .u8 (x:Nat)] 5)) (fun b=>b=W.heap.size) (some ⟨W.heap.size,0,none⟩) 1 [.int .u8 (x:Nat)]:=Rd.one _ _ _;have HRD:=hd_ hrd;clear hb hbn ho hvb hf hrd hn4;gi_wp2_with (gi_at_builtin;refine Q3j _ rfl (.tmp 15) (.tmp 17) _ rfl 5 _ 1 Tryz.underlying26 Ku rfl (.slice A4 n4 c4) (Q9 []) rfl (HO.out.alloc _) _ 1 _ _ rfl HRD.out (by simp [Value.oneCell']) (by omega) (by simp [Q9]) ?_);intro v5 w5 o5 g5 a5;have hne:(Value.slice A4 n4 c4).ownBlock≠some C:=HO.out.ne_blk HB.out (by decide);have b5:=(HB.out.alloc (.cells #[.int .u8 (x:Nat)] 5)).grown g5 hne;have u5:Upd (fun b=>(Value.slice A4 n4 c4).ownBlock=some b) W w5:=((Upd.refl _ W).alloc _).grown g5 (fun k hk _=>hk);obtain⟨A6,n6,c6,rfl,hn6⟩:=o5.form';have c5:=b5.cell 0;have z5:=b5.frozen 0;simp at c5;have hvb5:∀b,(Value.slice A6 n6 c6).ownBlock=some b->w.heap.size<=b:=Xf (S:=fun b=>w.heap.size<=b) a5 (fun k hk=>HVB.out k hk) (by have:=HF.out.size;simp;omega);have hne5:(Value.slice A6 n6 c6).ownBlock≠some C:=o5.ne_blk b5 (by decide);have HB5:=hd_ b5;have HO5:=hd_ o5;have HU5:=hd_ u5;have HV5:=hd_ hvb5;clear b5 o5 u5 hvb5 a5 g5 hn6;gi_wp2;have us:Upd (fun b=>b=C) w5 (w5.setCell ⟨C,0,none⟩ (.slice A6 n6 c6)):=(Upd.refl (fun b=>b=C) w5).setCell (p:=⟨C,0,none⟩) (fun _=>rfl) _;have bs:=HB5.out.set_ 0 (.slice A6 n6 c6);simp at bs;refine⟨(Zb _ HU5.out (fun k _ hk=>⟨_,HO.out.blk hk⟩)).trans (Zb _ us (fun k _ hk=>by obtain rfl:k=C:=hk;exact⟨_,_,HB5.out⟩)),?_,_,(HBN.out.upd HU5.out (fun h=>HO.out.ne_blk HBN.out (by decide) h)).upd us (by omega),bs,HO5.out.far hne5 _,HV5.out,?_⟩
   . refine(QS.upd HU5.out fun h=>?_).trans (QS.upd us (by omega))
     exact HO.out.ne_blk HBN.out (by decide) h
   exact(HF.out.trans HU5.out (fun b hb h=>by have:=HVB.out b h;omega)).trans us (fun b hb h=>by have:=HWC.out;omega)
 case done =>
   rintro D ys W hD rfl ⟨v,-,hb,ho,hvb,hf⟩ hK;obtain⟨A4,n4,c4,rfl,hn4⟩:=ho.form';have c0:=hb.cell 0;simp at c0;have HO:=hd_ ho;have HVB:=hd_ hvb;have HF:=hd_ hf;have HK:=hd_ hK;clear hb ho hvb hf hK hn4;go_wp2_with fail;refine⟨by simp,.inl ⟨_,_,rfl,run_takeDeferred HK.out,?_⟩⟩;refine⟨_,results_tmp2 rfl _ _ _,?_⟩;have u7:Upd (fun b=>b=D) W (W.putObj D (.deferred none)):=(Upd.refl (fun b=>b=D) W).grown (grownBy_putObj' W D _) (fun k e _=>by injection e with e;exact e.symm);refine hR.out _ _ ⟨_,rfl,HO.out.upd u7 (fun b hb e=>?_),HF.out.trans u7 (fun b hb e=>by have:=HZ3.out;have:=HWC.out;omega),HVB.out⟩;obtain⟨cs,hbb⟩:=HO.out.blk hb;subst e;rw [show W.heap[b]?=_ from hbb]at HK;have:=HK.out;injection this with h;cases h
 case stop =>
   rintro D c pre W _ _ h _;exact h.elim
end Go.Proofs.YtjfdaphjijfieaaGreat
namespace Go.Proofs.YtjfdaphjijfieaaGreat
open Go.RowKit
theorem Qd.mono {w:World} {S S':Nat->Prop} {g:Nat} {l:List Bool} (h:Qd w S g l) (hs:∀k,S k->S' k):Qd w S' g l:=by
 obtain⟨v,n,sv,bs,h1,h2,h3,h4,h5,h6,h7,h8⟩:=h;exact⟨v,n,sv,bs,h1,h2,h3,h4,h5,h6,hs _ h7,fun k hk=>hs k (h8 k hk)⟩
theorem Qd.upd {w w':World} {S T:Nat->Prop} {g:Nat} {l:List Bool} (h:Qd w S g l) (hu:Upd T w w') (hs:∀k,k<w.heap.size->T k->k≠g/\¬ ∃cs,Blk w k 5 cs):Qd w' S g l:=by
 obtain⟨v,n,sv,bs,h1,h2,h3,h4,h5,h6,h7,h8⟩:=h;exact⟨v,n,sv,bs,h1.upd hu (fun ht=>(hs g h1.lt ht).1 rfl),h2.upd hu (fun b hb ht=>(hs b (h2.lt hb) ht).2 (h2.blk hb)),h3,h4,h5,h6,h7,h8⟩
theorem Qd.lt {w:World} {S:Nat->Prop} {g:Nat} {l:List Bool} (h:Qd w S g l):g<w.heap.size/\∃cs,Blk w g 165 cs:=by
 obtain⟨v,n,sv,bs,h1,_⟩:=h;exact⟨h1.lt,_,h1⟩
theorem ZO (base g x n:Nat) (B:List Bool) (w:World) (h:Qd w (fun k=>base<=k) g B) (hb:base<=w.heap.size) (hn:n<=32) (hx:x<2^n) (hl:B.length<=2^30) :
   Calls Tryz.prog 80 #[.pointer (some ⟨g,0,none⟩),.int .u64 x,.int .i64 n] w fun e w'=>e = .returned (.int .i64 0) /\
     Upd (fun k=>k=g\/(base<=k/\∃cs,Blk w k 5 cs)) w w'/\Qd w' (fun k=>base<=k) g (B++Qf n x):=by
 obtain⟨v,n',sv,bs,h1,h2,h3,h4,h5,h6,h7,h8⟩:=h;have hw:Qd w (fun k=>base<=k/\(k=g\/sv.ownBlock=some k\/w.heap.size<=k)) g B:=⟨v,n',sv,bs,h1,h2,h3,h4,h5,h6,⟨h7,.inl rfl⟩,fun k hk=>⟨h8 k hk,.inr (.inl hk)⟩⟩;refine(KA _ g x n B w hw hn hx hl (fun k hk=>⟨by omega,.inr (.inr hk)⟩)).mono fun e w' ⟨he,hu,hw'⟩=>⟨he,hu.mono fun k hk hs=>?_,hw'.mono fun k hk=>hk.1⟩;rcases hs.2 with h|h|h
 . exact .inl h
 . exact .inr ⟨hs.1,h2.blk h⟩
 omega
theorem Q6I (S:Nat->Prop) (g:Nat) (B:List Bool) (w:World) (h:Qd w S g B) (hl:B.length<=2^29) :
   Calls Tryz.prog 82 #[.pointer (some ⟨g,0,none⟩)] w fun e w'=>∃v,e = .returned v/\QB w w' v (QN (B++[true])):=by
 obtain⟨v,n,sv,bs,h1,h2,h3,h4,h5,h6,h7,h8⟩:=h;(have hlb:bs.length<=2^28:=by have:=congrArg List.length h6;simp at this;omega);obtain⟨A,c,rfl,hc,hr⟩:=h2.form;(have hln:(bs.map fun b:Nat=>Value.int .u8 (b:Nat)).length=bs.length:=by simp);obtain⟨c0,c1,c2⟩:=(h1).cells3;have HC:=hd_ (fun W (hW:Q0 w W)=>Jv A _ c _ W (hr.fresh hW) (Kd bs) (by omega));rw [hln]at HC;have HB:=hd_ h1;have H6:=hd_ (And.intro h3 (And.intro h4 (And.intro h5 h6)));have H2:=hd_ h2;clear h1 h2 h3 h4 h5 h6 h7 h8 hc hr
 have FA:=hd_ (show ∀w1 A1 n1 d1,Own w1 5 (.slice A1 n1 d1) (bs.map fun b:Nat=>.int .u8 (b:Nat))->(∀k,(Value.slice A1 n1 d1).ownBlock=some k->w.heap.size<=k)->Q0 w w1 ->
     Qd (w1.alloc (.cells #[.int .u64 v,.int .i64 n,.slice A1 n1 d1] 165)) (fun k=>w.heap.size<=k) w1.heap.size B/\Q0 w (w1.alloc (.cells #[.int .u64 v,.int .i64 n,.slice A1 n1 d1] 165))from by
   intro w1 A1 n1 d1 o1 k1 f1;obtain⟨h3,h4,h5,h6⟩:=H6.out
   exact⟨⟨v,n,_,bs,Q1 rfl _ _,o1.alloc _,h3,h4,h5,h6,f1.size,k1⟩,f1.alloc _⟩)
 have FB:=hd_ (show ∀w1 A1 n1 d1,Blk w1 w.heap.size 165 #[.int .u64 0,.int .i64 0,.slice none 0 0]->Own w1 5 (.slice A1 n1 d1) (bs.map fun b:Nat=>.int .u8 (b:Nat))->(∀k,(Value.slice A1 n1 d1).ownBlock=some k->w.heap.size<=k)->Q0 w w1 ->
     Qd (((w1.setCell ⟨w.heap.size,0,none⟩ (.int .u64 v)).setCell ⟨w.heap.size,1,none⟩ (.int .i64 n)).setCell ⟨w.heap.size,2,none⟩ (.slice A1 n1 d1)) (fun k=>w.heap.size<=k) w.heap.size B /\
     Q0 w (((w1.setCell ⟨w.heap.size,0,none⟩ (.int .u64 v)).setCell ⟨w.heap.size,1,none⟩ (.int .i64 n)).setCell ⟨w.heap.size,2,none⟩ (.slice A1 n1 d1))from by
   intro w1 A1 n1 d1 b1 o1 k1 f1;obtain⟨h3,h4,h5,h6⟩:=H6.out;have hne:=o1.ne_blk b1 (by decide);have bb:=((b1.set_ 0 (.int .u64 v)).set_ 1 (.int .i64 n)).set_ 2 (.slice A1 n1 d1);refine⟨⟨v,n,_,bs,by simpa using bb,((o1.far hne _).far hne _).far hne _,h3,h4,h5,h6,Nat.le_refl _,k1⟩,?_⟩
   exact((f1.setCell (p:=⟨w.heap.size,0,none⟩) (fun h=>by simp at h) _).setCell (p:=⟨w.heap.size,1,none⟩) (fun h=>by simp at h) _).setCell (p:=⟨w.heap.size,2,none⟩) (fun h=>by simp at h) _)
 have HPT:=hd_ (fun Z W (h:Qd W (fun k=>w.heap.size<=k) Z B) (f:Q0 w W)=>ZO w.heap.size Z 1 1 B W h f.size (by omega) (by decide) (by omega));have HBY:=hd_ (fun Z W (h:Qd W (fun k=>w.heap.size<=k) Z (B++Qf 1 1))=>Q27 _ Z (B++Qf 1 1) W h (by simp;omega));have hb11:Qf 1 1=[true]:=rfl;rw [hb11]at HPT HBY;refine Q6 fun R hR=>?_;go_enter Tryz.func82,Tryz.ntmps82;go_upto_region 3 with fail;(have HQ:∀W,W=w.alloc (.cells #[.int .u64 0,.int .i64 0,.slice none 0 0] 165)->Blk W w.heap.size 165 #[.int .u64 0,.int .i64 0,.slice none 0 0]:=fun W hW=>by rw [hW];exact Q1 rfl _ _);have HQ:=hd_ HQ;have c0z:=fun o=>(HB.out.alloc o).cell 0;have c1z:=fun o=>(HB.out.alloc o).cell 1;have c2z:=fun o=>(HB.out.alloc o).cell 2;simp at c0z c1z c2z;go_cut [3] (fun q wx=>∃Z,q = .pointer (some ⟨Z,0,none⟩)/\Qd wx (fun k=>w.heap.size<=k) Z B/\Q0 w wx)
 case first =>
   go_region_with (first
     | (go_at_call 33;((refine(HC.out _ (Upd.refl _ _).drew).mono ?_);rintro e w1 ⟨v1,rfl,o1,f1,k1⟩);have c0x:=(HB.out.drew.fresh f1).cell 0;have c1x:=(HB.out.drew.fresh f1).cell 1;have c2x:=(HB.out.drew.fresh f1).cell 2;have c0y:=fun o=>((HB.out.drew.fresh f1).alloc o).cell 0;have c1y:=fun o=>((HB.out.drew.fresh f1).alloc o).cell 1;simp at c0x c1x c2x c0y c1y;obtain⟨A1,n1,d1,rfl,hn1⟩:=o1.form';have f1x:Q0 w w1:=(Upd.refl _ w).drew.trans' f1)
     | (go_at_call 33;((refine(HC.out _ ((Upd.refl _ _).alloc _).drew).mono ?_);rintro e w1 ⟨v1,rfl,o1,f1,k1⟩);have c0x:=((HB.out.alloc (.cells #[.int .u64 0,.int .i64 0,.slice none 0 0] 165)).drew.fresh f1).cell 0;have c1x:=((HB.out.alloc (.cells #[.int .u64 0,.int .i64 0,.slice none 0 0] 165)).drew.fresh f1).cell 1;have c2x:=((HB.out.alloc (.cells #[.int .u64 0,.int .i64 0,.slice none 0 0] 165)).drew.fresh f1).cell 2;have bq:=(HQ.out _ rfl).drew.fresh f1;have q0:=bq.cell 0;have q1:=bq.cell 1;have q2:=bq.cell 2;have z0:=bq.frozen 0;have z1:=bq.frozen 1;have z2:=bq.frozen 2;simp at c0x c1x c2x q0 q1 q2;obtain⟨A1,n1,d1,rfl,hn1⟩:=o1.form';have f1x:Q0 w w1:=((Upd.refl _ w).alloc (.cells #[.int .u64 0,.int .i64 0,.slice none 0 0] 165)).drew.trans' f1))
   (all_goals go_wp2_with fail);(all_goals go_meet)
   all_goals first
     | exact⟨_,rfl,FA.out w1 A1 n1 d1 o1 (fun k hk=>by have:=k1 k hk;simp at this;omega) f1x⟩
     | exact⟨_,rfl,FB.out w1 A1 n1 d1 bq o1 (fun k hk=>by have:=k1 k hk;simp at this;omega) f1x⟩
     | trace_state
 case rest =>
   obtain⟨Z,rfl,hq1,hq2⟩:=hcut;have FW:=hd_ hq2;have HPX:=hd_ (HPT.out _ _ hq1 hq2);(have hZ:w.heap.size<=Z:=by obtain⟨_,_,_,_,_,_,_,_,_,_,h,_⟩:=hq1;exact h);have HZ:=hd_ hZ;clear hq1 hq2 hZ;go_wp2_with fail;refine HPX.out.mono ?_;rintro e w4 ⟨rfl,u4,wr4⟩;have HB4:=hd_ (HBY.out _ _ wr4);have F4:=hd_ (FW.out.trans u4 (fun b hb h=>by have:=HZ.out;rcases h with h|h;omega;have:=h.1;omega));clear u4 wr4;go_wp2_with fail;refine HB4.out.mono ?_;rintro e w5 ⟨v5,rfl,o5,f5,k5⟩;go_wp2_with fail;(try go_ret);exact hR.out _ _ ⟨v5,rfl,o5,F4.out.trans' f5,fun k hk=>by have:=k5 k hk;have:=F4.out.size;omega⟩
def KB (P:List Int) (i:Nat):Int->Option Int:=fun x=>if JR P i x=0 then none else some (JR P i x:Nat)
theorem Q6J (P:List Int):KB P 0=fun _=>none:=by
 funext x
 simp [KB,JR]
theorem Q8b (P:List Int) (i:Nat) (x:Int):(KB P i x).getD 0=(JR P i x:Nat):=by
 unfold KB;split
 . rename_i h;rw [h];rfl
 rfl
theorem Q8c {P:List Int} {i:Nat} (h:i<P.length):X5 (KB P i) P[i] ((JR P i P[i]:Nat)+1)=KB P (i+1):=by
 funext x
 unfold X5 KB;rw [XH h];by_cases hx:x=P[i]
 . subst hx
   rw [if_pos rfl,if_pos rfl,if_neg (by omega)];simp
 have e:(if P[i]=x then 1 else 0)=0:=if_neg (fun q=>hx q.symm);rw [if_neg hx,e];rfl
theorem Q9n (P:List Int) (i:Nat) (x:Int):JR P i x<=i:=by
 unfold JR;exact Nat.le_trans List.count_le_length (List.length_take_le _ _)
theorem Q5v (F:Nat->Prop) (A X:Option Addr) (n c c4 p T1 T6 T4 M cnt bnd i:Nat) (N:List Int) (w:World) (hv:Qc p N 256 9) (hr:Rd w F A n (Q2 N)) (b1:Blk w T1 29 #[.int .i64 p,.slice A n c]) (b6:Blk w T6 268 #[.map (some M)])
   (im:Yw w Tryz.prog 3 3 M bnd cnt (KB (Q7 p N) i)) (b4:Blk w T4 27 #[.slice X (2^p) c4]) (hi:i<2^p) (hb:bnd<maxLen) (hd:T1≠M/\T6≠M/\T4≠M) (hF:∀b,F b->b≠M) :
   Calls Tryz.prog 175 #[.int .i64 (Zn (Q7 p N) i),.pointer (some ⟨T1,0,none⟩),.pointer (some ⟨T6,0,none⟩),.pointer (some ⟨T4,0,none⟩)] w fun e w' =>
     e = .returned (.agg #[.int .i64 (Zn (Q7 p N) i),.int .i64 (Jp p N (Q7 p N) i),.int .i64 (Zj p N (Q7 p N) i)])/\(∃cnt',Yw w' Tryz.prog 3 3 M (bnd+1) cnt' (KB (Q7 p N) (i+1)))/\Upd (fun b=>b=M) w w':=by
 (have hN:N.length=n:=by have:=hr.1;simpa using this);(have hp:p<=9:=by have:=hv.2.1;omega);have hpw:2^p<=512:=Nat.le_trans (Nat.pow_le_pow_right (by decide) hp) (by decide);obtain⟨s,hs,hsn,hx1,hx2,hb1,hb2,hz1,hz2⟩:=Q1O hv hi;(have hlen:i<(Q7 p N).length:=by simpa using hi);have hput:=Q8c hlen
 have hPi:(Q7 p N)[i]=(s:Int):=by
   unfold Zn at hs;rw [List.getElem?_eq_getElem hlen]at hs;exact hs
 rw [hPi]at hput;have hcz:=Q9n (Q7 p N) i (s:Int);have hgf:=Q8b (Q7 p N) i (s:Int)
 have hnum:ZX N (Q7 p N) i=max N[s] (-N[s])+JR (Q7 p N) i (s:Int):=by
   unfold ZX;rw [hs,Int.toNat_natCast,List.getElem?_eq_getElem hsn];rfl
 have hz5:=hv.2.2.2.2.2.2.1 _ (List.getElem_mem hsn);(have hs256:s<256:=by have:=hv.2.2.2.2.1;omega)
 have hz6:N[s]<=512:=by
   have h1:=Kt (List.getElem_mem hsn);rw [hv.2.2.2.2.2.2.2]at h1;(have h2:((2:Int)^(p:Int).toNat)=((2^p:Nat):Int):=by simp);unfold QO at h1;(split at h1<;>omega)
 obtain⟨bb,oo,_,rfl,_,hc⟩:=hr.int (k:=s) (by omega);unfold Zj at hz1 hz2 ⊢;have hbit:Jp p N (Q7 p N) i=(p:Int)+1-(Lib.bitLen (ZX N (Q7 p N) i).toNat:Nat):=rfl;rw [hs];generalize ZX N (Q7 p N) i=x at *;generalize Jp p N (Q7 p N) i=bz at *;generalize JR (Q7 p N) i (s:Int)=cz at *;(have hcz2:cz<512:=by omega);generalize KB (Q7 p N) (i+1)=f2 at *;generalize KB (Q7 p N) i=f at *;generalize N[s]=v at *;obtain⟨b,rfl⟩:∃b:Nat,bz=b:=⟨bz.toNat,by omega⟩;rw [Int.toNat_natCast]at hz1 hz2 ⊢;obtain⟨q,hq⟩:=nm_ (2^p);(have hqI:((2:Int)^p)=(q:Nat):=by rw [hq];simp);rw [hqI]at hz1 hz2 ⊢;rw [<-hq]at hpw hi b4;(have hbn:b<=9:=by omega);have hbc:=fun W=>Tryz.bits_Len x W (by omega) (by omega);have HL:Hid ((b:Int)=(p:Int)+1-(Lib.bitLen x.toNat:Nat)):=hd_ hbit;generalize Lib.bitLen x.toNat=L at *;obtain⟨y,hy⟩:=nm_ (x*2^b);rw [<-hy]at hz1 hz2 ⊢;(have h2b:(0:Int)<2^b:=by(have:=Nat.two_pow_pos b;have e:((2:Int)^b)=((2^b:Nat):Int):=by simp);omega);obtain⟨H,hH⟩:=nm_ (w.heap.size);obtain⟨w0,hw0⟩:=nm_ (w.alloc (.cells #[.int .i64 0,.int .i64 0,.int .i64 0] 217));(have f0:Q0 w w0:=by rw [hw0];exact(Upd.refl _ _).alloc _);(have br:Blk w0 H 217 #[.int .i64 0,.int .i64 0,.int .i64 0]:=by rw [hw0];exact Q1 hH _ _);have im0:=im.upd f0 (fun h=>h);(have hMH:M<H:=by have:=im.lt;omega);obtain⟨w5,hrun,im5,g5⟩:=im0.run_put (t:=268) Tryz.underlying3 Tryz.underlying268 Tryz.underlying3 hb (key:=(s:Nat)) (val:=(cz:Nat)+1) (XZ (by omega)) (XZ (by omega));have u5:Upd (fun b=>b=M) w0 w5:=(Upd.refl _ _).grown g5 (fun j e _=>by injection e with e;exact e.symm);rw [hput]at im5;refine Q6 fun R hR=>?_;go_enter Tryz.func175,Tryz.ntmps175;go_upto_region 1 with fail;simp only [<-hH,<-hw0];have c10:=(b1.fresh f0).cell 0;have c11:=(b1.fresh f0).cell 1;have c60:=(b6.fresh f0).cell 0;(have cv:w0.cell? ⟨bb,oo+s,none⟩=some (.int .i64 v):=by rw [f0.cells _ _ (World.block_lt_of_cell? w _ hc)];exact hc);simp at c10 c11 c60;have d10:=((b1.fresh f0).upd u5 (by omega)).cell 0;have b45:=(b4.fresh f0).upd u5 (by omega);have d40:=b45.cell 0;have br5:=br.upd u5 (by omega);have r0:=br5.cell 0;have r1:=br5.cell 1;have r2:=br5.cell 2;have rz0:=br5.frozen 0;have rz1:=br5.frozen 1;have rz2:=br5.frozen 2;simp at d10 d40 r0 r1 r2;(have hsn2:(s:Int)<n:=by omega);have s2:IntKind.i64.wrap (-v)=-v:=IntWalk.i64_in _ (by omega);(have s3:IntKind.i64.wrap (max v (-v)+(cz:Nat))=x:=by rw [hnum];exact IntWalk.i64_in _ (by omega));have s4:IntKind.i64.wrap ((cz:Int)+1)=cz+1:=IntWalk.i64_in _ (by omega);have s5:IntKind.i64.wrap ((p:Int)+1)=p+1:=IntWalk.i64_in _ (by omega)
 (have s6:IntKind.u64.wrap x=x:=by unfold IntKind.wrap;simp [IntKind.bits];omega);(have s7:IntKind.i64.wrap ((p:Int)+1-(L:Nat))=b:=by have:=HL.out;rw [<-this];exact IntWalk.i64_in _ (by omega));(have s8:wrap64 (x*2^b)=y:=by rw [<-hy];unfold wrap64;omega);have s9:IntKind.i64.wrap (y-(q:Nat))=y-q:=IntWalk.i64_in _ (by omega);(have hmx0:0<=max v (-v):=by omega);have HBC:=hd_ hbc;have HIM5:=hd_ im5;have U5:=hd_ u5;have BR5:=hd_ br5;have F0:=hd_ f0;have HH:=hd_ hH;have HMH:=hd_ hMH;clear hw0 br5 b45 b4 b1 b6 im hr hc hput hbc im5 u5 g5 f0 br hH hx1 hx2 hnum hbit hy hq hqI hz1 hz2 h2b hMH hcz hN hb hv hp hpw hz5 hz6;go_wp2_with (at_lookup;refine KN _ rfl _ _ 268 rfl 3 3 Tryz.underlying3 Tryz.underlying268 Tryz.underlying3 (Tryz.zeroValue3 _) M _ cnt f rfl im0 (s:Nat) rfl (XZ (by omega)) ?_);go_quiet ((go_at_call 133;exact Calls.quiet_of_same (HBC.out _)));go_wp2_with fail;refine Yn 9 (by kernel_rfl) (by kernel_rfl) ?_;simp only [List.take_succ_cons,List.take_zero,List.drop_succ_cons,List.drop_zero];(repeat(first|go_big_quiet_step (fail)|quiet_step (fail)));refine wpQuiet_nil ?_;rintro w6 ⟨q6,rfl⟩;go_wp2_with fail;refine bodyPost_ret (results_cell_row rfl _ _ H _ _ _ _ rfl ((((BR5.out.drewN (nq+q6)).set_ 0 (.int .i64 (s:Nat))).set_ 1 (.int .i64 (b:Nat))).set_ 2 (.int .i64 (y-(q:Nat)))) Tryz.underlying217 rfl (by kernel_rfl)) rfl ?_
 have u6:Upd (fun b=>b=H) w5 ((((w5.drewN (nq+q6)).setCell ⟨H,0,none⟩ (.int .i64 (s:Nat))).setCell ⟨H,1,none⟩ (.int .i64 (b:Nat))).setCell ⟨H,2,none⟩ (.int .i64 (y-(q:Nat)))) :=
   ((((Upd.refl (fun b=>b=H) w5).drewN (nq+q6)).setCell (p:=⟨H,0,none⟩) (fun _=>rfl) _).setCell (p:=⟨H,1,none⟩) (fun _=>rfl) _).setCell (p:=⟨H,2,none⟩) (fun _=>rfl) _
 exact hR.out _ _ ⟨rfl,⟨_,HIM5.out.upd u6 (by have:=HMH.out;omega)⟩,((F0.out.mono (T:=fun b=>b=M) (fun _ _ h=>h.elim)).trans' U5.out).trans u6 (fun b hb h=>by have:=HH.out;omega)⟩
theorem Q8d:(Tryz.prog.info? 217).map (fun i=>(i.zero,i.size,i.bytes))=some (some (.agg #[.int .i64 0,.int .i64 0,.int .i64 0]),3,24):=by kernel_rfl
def tri (t:Int × Int × Int):List Value:=[.int .i64 t.1,.int .i64 t.2.1,.int .i64 t.2.2]
def Vx (lg:Int) (N:List Int) (w:World) (e:Ending) (w':World):Prop :=
  if Qc lg N 256 9 then ∃v,e = .returned (.tuple #[v,.int .i64 0])/\QI w' 217 3 v ((JK lg.toNat N).map tri)/\(∀b,v.ownBlock=some b->w.heap.size<=b)/\Q0 w w'
  else e = .returned (.tuple #[.slice none 0 0,.int .i64 13])/\Q0 w w'
theorem Q8e (F:Nat->Prop) (A:Option Addr) (n c:Nat) (lg:Int) (N:List Int) (w:World) (hr:Rd w F A n (Q2 N)) (hfit:Fit N) (hn:(n:Int)<=1099511627776) (hv:¬Qc lg N 256 9) :
   Calls Tryz.prog 125 #[.agg #[.int .i64 lg,.slice A n c]] w fun e w'=>e = .returned (.tuple #[.slice none 0 0,.int .i64 13])/\Q0 w w':=by
 obtain⟨w0,hw0⟩:=nm_ (w.alloc (.cells #[.int .i64 lg,.slice A n c] 29));obtain⟨H,hH⟩:=nm_ (w.heap.size);(have f0:Q0 w w0:=by rw [hw0];exact(Upd.refl _ _).alloc _);(have bt:Blk w0 H 29 #[.int .i64 lg,.slice A n c]:=by rw [hw0];exact Q1 hH _ _);have hsp:=Xo F A n c lg N w0 (hr.fresh f0) hfit hn;unfold ZM at hsp;simp only [if_neg hv]at hsp;obtain⟨t0,t1⟩:=(bt).cells2;have HSP:=hd_ hsp;have F0:=hd_ f0;have HW:=hd_ hw0;have HH:=hd_ hH;clear hr hw0 hH f0 bt hsp hv;refine Q6 fun R hR=>?_;go_enter Tryz.func125,Tryz.ntmps125;go_upto_region 1 with fail;simp only [<-HH.out,<-HW.out];go_wp2_with fail;refine HSP.out.mono ?_;rintro e w1 ⟨rfl,f1⟩;have F1:=hd_ ((F0.out.trans' f1).alloc (.cells #[.slice none 0 0] 27));clear f1;go_wp2_with fail;(try go_ret);exact hR.out _ _ ⟨rfl,F1.out⟩
theorem Q8f (F:Nat->Prop) (A:Option Addr) (n c p:Nat) (N:List Int) (w:World) (hr:Rd w F A n (Q2 N)) (hfit:Fit N) (hn:(n:Int)<=1099511627776) (hv:Qc p N 256 9) :
   Calls Tryz.prog 125 #[.agg #[.int .i64 p,.slice A n c]] w fun e w'=>∃v,e = .returned (.tuple #[v,.int .i64 0])/\QI w' 217 3 v ((JK p N).map tri)/\(∀b,v.ownBlock=some b->w.heap.size<=b)/\Q0 w w':=by
 (have hp:p<=9:=by have:=hv.2.1;omega);have hpw:2^p<=512:=Nat.le_trans (Nat.pow_le_pow_right (by decide) hp) (by decide);have hmm:=@run_makeMap Tryz.prog;obtain⟨w0,hw0⟩:=nm_ (w.alloc (.cells #[.int .i64 p,.slice A n c] 29));obtain⟨H,hH⟩:=nm_ (w.heap.size);(have f0:Q0 w w0:=by rw [hw0];exact(Upd.refl _ _).alloc _);(have bt:Blk w0 H 29 #[.int .i64 p,.slice A n c]:=by rw [hw0];exact Q1 hH _ _);have hsp:=Xo F A n c p N w0 (hr.fresh f0) hfit hn;unfold ZM at hsp;simp only [if_pos hv,Int.toNat_natCast]at hsp;obtain⟨t0,t1⟩:=(bt).cells2;have HSP:=hd_ hsp;have HR:=hd_ (fun W (h:Q0 w W)=>hr.both.fresh h);have BT:=hd_ bt;have F0:=hd_ f0;have HW:=hd_ hw0;have HH:=hd_ hH;have HV:=hd_ hv;obtain⟨s,hs⟩:=nm_ (2^p);rw [<-hs]at hpw HSP;have HS:=hd_ hs;obtain⟨P,hP⟩:=nm_ (Q7 p N);rw [<-hP]at HSP;(have hPl:P.length=s:=by rw [hP,hs];simp);have HPL:=hd_ hPl;have HP:=hd_ hP;clear hr hw0 hH f0 bt hsp hv hs hP hPl hp;refine Q6 fun R hR=>?_;go_enter Tryz.func125,Tryz.ntmps125;go_upto_region 1 with fail;simp only [<-HH.out,<-HW.out];go_wp2_with fail;refine HSP.out.mono ?_;rintro e w1 ⟨g,rfl,r1,hg,f1⟩;have b1:=BT.out.fresh f1;have R1:=hd_ r1;have F1:=hd_ (F0.out.trans' f1);have HG:=hd_ (show w.heap.size<=g from by have:=F0.out.size;omega);clear t0 t1 r1 f1 hg;go_upto_region 6 with fail;obtain⟨K,hK⟩:=nm_ (w1.heap.size);obtain⟨w2,hw2⟩:=nm_ (((w1.alloc (.cells #[.slice (some ⟨g,0,none⟩) s s] 27)).alloc (.map #[] 0)).alloc (.cells #[.map (some (K+1))] 268));simp only [<-hK,<-hw2];(have f2:Q0 w1 w2:=by rw [hw2];exact(((Upd.refl _ _).alloc _).alloc _).alloc _);(have hz2:w2.heap.size=K+3:=by rw [hw2,hK];simp);(have hz1:(w1.alloc (.cells #[.slice (some ⟨g,0,none⟩) s s] 27)).heap.size=K+1:=by rw [hK];simp);(have b4:Blk w2 K 27 #[.slice (some ⟨g,0,none⟩) s s]:=by rw [hw2];exact((Q1 hK _ _).alloc _).alloc _);(have b6:Blk w2 (K+1+1) 268 #[.map (some (K+1))]:=by rw [hw2];exact Q1 (by rw [hK];simp) _ _)
 have im:Yw w2 Tryz.prog 3 3 (K+1) 0 0 (KB P 0):=by
   have h0:=Yw.new (w1.alloc (.cells #[.slice (some ⟨g,0,none⟩) s s] 27)) Tryz.prog 3 3;rw [hz1]at h0;rw [Q6J,hw2];exact h0.upd ((Upd.refl (fun _=>False) _).alloc _) (fun h=>h)
 have B1:=hd_ (b1.fresh f2);have R2:=hd_ (R1.out.fresh f2);have F2:=hd_ (F1.out.trans' f2);have B4:=hd_ b4;have B6:=hd_ b6;have IM:=hd_ im;have HZ2:=hd_ hz2
 have HGK:=hd_ (show g<K from by
   rw [hK];obtain⟨b,o,e,h1,h2,_⟩:=R1.out.2 (by rw [HS.out];exact Nat.two_pow_pos p)
   omega)
 (have hHK:H<K:=by rw [hK];exact b1.lt);(have hWK:w.heap.size<=K:=by rw [hK];exact F1.out.size);have c4:=b4.cell 0;simp at c4;clear hw2 f2 hz2 hz1 b4 b6 im b1 hK hmm;(have hs0:0<s:=by rw [HS.out];exact Nat.two_pow_pos p);go_wp2_with fail;go_loopg [8,23] s (fun f v8 i wr=>∃(j cnt:Nat),j+f=s/\i = .int .i64 j/\Yw wr Tryz.prog 3 3 (K+1) j cnt (KB P j)/\Upd (fun b=>b=K+1) w2 wr/\QI wr 217 3 v8 (((List.range j).map (Yy p N P)).map tri)/\(∀b,v8.ownBlock=some b->K+3<=b))
 case atStart=>exact⟨0,0,by omega,rfl,IM.out,Upd.refl _ _,QI.nil _ _ _,fun b h=>by simp [Value.ownBlock]at h⟩
 case round =>
   obtain⟨j,cnt,hj,rfl,im,ur,ov,hvb⟩:=hrel;have HJ:=hd_ hj;have UR:=hd_ ur;have OV:=hd_ ov;have HVB:=hd_ hvb;by_cases hjs:j<s
   . have hjI:(j:Int)<s:=by omega
     have hw4:IntKind.i64.wrap ((j:Int)+1)=j+1:=IntWalk.i64_in _ (by omega);(have hjP:j<P.length:=by rw [HPL.out];exact hjs);have rr:=R2.out.upd ur (fun b _ hb h=>by have:=HGK.out;omega);obtain⟨b,o,_,e1,_,hc⟩:=rr.int (k:=j) hjs;injection e1 with e1;injection e1 with e1 e2;subst e1 e2;rw [Nat.zero_add]at hc;(have hsym:Zn P j=P[j]:=by unfold Zn;rw [List.getElem?_eq_getElem hjP];rfl)
     have hb1:=Q5v (fun b=>b<w.heap.size) A (some ⟨g,0,none⟩) n c s p H (K+1+1) K (K+1) cnt j j N wr HV.out ((HR.out _ (F2.out.trans ur (fun b hb h=>by omega))).mono (fun b h=>h.2)) (B1.out.upd ur (by omega)) (B6.out.upd ur (by omega))
       (by rw [<-HP.out];exact im) (by rw [<-HS.out];exact B4.out.upd ur (by omega)) (by rw [<-HS.out];exact hjs) (by have:=Xm;omega) ⟨by omega,by omega,by omega⟩ (fun b hb=>by omega)
     rw [<-HP.out,hsym]at hb1;have HB1:=hd_ hb1;have HCZ:=hd_ (show Yy p N P j=(P[j],Jp p N P j,Zj p N P j) by unfold Yy;rw [hsym]);generalize P[j]=sy at *;generalize Jp p N P j=bz at *;generalize Zj p N P j=bs at *;clear hj im ur ov hvb rr hsym hb1;go_wp2_with fail;refine HB1.out.mono ?_;rintro e w5 ⟨rfl,⟨cnt5,im5⟩,u5⟩;have hw5g:wr.heap.size<=w5.heap.size:=u5.size;have o5:=OV.out.upd u5 (fun b hb h=>by have:=HVB.out b hb;omega);(have hrl:(((List.range j).map (Yy p N P)).map tri).length<=2^30:=by simp;omega);go_wp2_with (at_builtin;go_must (refine ZN _ rfl (.tmp 27) (.tmp 31) _ rfl 217 _ 3 24 Tryz.underlying130 Q8d rfl (by omega) (by omega) u8 _ rfl (o5.alloc _) w5.heap.size 1 [.int .i64 sy,.int .i64 bz,.int .i64 bs] rfl (by simp [Value.oneCell']) rfl (Blk.new _ _ _) hrl ?_);intro g6 c6 w6 o6 g6u a6 l6)
     have er:((List.range j).map (Yy p N P)).map tri++[[Value.int .i64 sy,.int .i64 bz,.int .i64 bs]]=((List.range (j+1)).map (Yy p N P)).map tri:=by
       rw [List.range_succ,List.map_append,List.map_append];simp [HCZ.out,tri]
     (have el:(((List.range j).map (Yy p N P)).map tri).length+1=j+1:=by simp);rw [er,el]at o6;have u6:Upd (fun b=>u8.ownBlock=some b) w5 w6:=((Upd.refl _ w5).alloc _).grown g6u (fun k hk _=>hk);have hur:=UR.out.size;have hz2:=HZ2.out
     have hog:∀b,(Value.slice (some ⟨g6,0,none⟩) (j+1) c6).ownBlock=some b->K+3<=b:=by
       intro b hb;injection hb with hb;have hb':g6=b:=hb;rcases a6 with h|h
       . have:=HVB.out g6 h;omega
       simp at h;omega
     have O6:=hd_ o6;have HOG:=hd_ hog;have UU:=hd_ ((UR.out.trans' u5).trans u6 (fun b hb h=>by have:=HVB.out b h;omega));have IM6:=hd_ (im5.upd u6 (fun h=>by have:=HVB.out _ h;omega));clear er el o6 u6 hog im5 u5 o5 hrl g6u a6;go_roundg (gk-1)
     case measure=>have:=HJ.out;omega
     case rel=>exact⟨j+1,cnt5,by have:=HJ.out;omega,by go_num,IM6.out,UU.out,O6.out,HOG.out⟩
   (obtain rfl:j=s:=by have:=HJ.out;omega);(have hcell:((List.range j).map (Yy p N P)).map tri=(JK p N).map tri:=by unfold JK;rw [HP.out,HS.out]);rw [hcell]at OV;clear hj im ur ov hvb hcell;go_wp2_with fail;(try go_ret);exact hR.out _ _ ⟨u8,rfl,OV.out,fun b hb=>by have:=HVB.out b hb;omega,F2.out.trans UR.out (fun b hb h=>by omega)⟩
theorem Q6K (F:Nat->Prop) (A:Option Addr) (n c:Nat) (lg:Int) (N:List Int) (w:World) (hr:Rd w F A n (Q2 N)) (hfit:Fit N) (hn:(n:Int)<=1099511627776) :
   Calls Tryz.prog 125 #[.agg #[.int .i64 lg,.slice A n c]] w (Vx lg N w):=by
 by_cases hv:Qc lg N 256 9
 . obtain⟨p,rfl⟩:∃p:Nat,lg=p:=⟨lg.toNat,by have:=hv.1;omega⟩
   refine(Q8f F A n c p N w hr hfit hn hv).mono fun e w' h=>?_;unfold Vx;rw [if_pos hv];exact h
 refine(Q8e F A n c lg N w hr hfit hn hv).mono fun e w' h=>?_;unfold Vx;rw [if_neg hv];exact h
theorem Q8g:(Tryz.prog.info? 27).map (fun i=>(i.zero,i.size,i.bytes))=some (some (.slice none 0 0),1,24):=by kernel_rfl
theorem Own.ne_own {w:World} {e e':TypeId} {v v':Value} {xs ys:List Value} (h:Own w e v xs) (h':Own w e' v' ys) (hne:e≠e') {b:Nat} (hb:v.ownBlock=some b):v'.ownBlock≠some b:=by
 rcases h.2 with ⟨rfl,_⟩|⟨g,cap,cur,rfl,_,hg,_⟩
 . simp [Value.ownBlock]at hb
 (have:g=b:=by simpa [Value.ownBlock]using hb);subst this;exact h'.ne_blk (show Blk w g e cur from hg) (fun q=>hne q.symm)
theorem QI.ne_blk {w:World} {e t:TypeId} {k:Nat} {v:Value} {rows:List (List Value)} {g:Nat} {cs:Array Value} (h:QI w e k v rows) (hg:Blk w g t cs) (hne:e≠t):v.ownBlock≠some g:=by
 rcases h.1.2 with ⟨rfl,_⟩|⟨g',cap,cur,rfl,_,hh,_⟩
 . simp [Value.ownBlock]
 intro he;(have:g'=g:=by simpa [Value.ownBlock]using he);subst this;exact Blk.ne_ (t:=e) hh hg hne rfl
theorem QI.ne_own {w:World} {e e':TypeId} {k:Nat} {v v':Value} {rows:List (List Value)} {ys:List Value} (h:QI w e k v rows) (h':Own w e' v' ys) (hne:e≠e') {b:Nat} (hb:v'.ownBlock=some b):v.ownBlock≠some b:=by
 rcases h'.2 with ⟨rfl,_⟩|⟨g,cap,cur,rfl,_,hg,_⟩
 . simp [Value.ownBlock]at hb
 (have:g=b:=by simpa [Value.ownBlock]using hb);subst this;exact h.ne_blk (show Blk w g e' cur from hg) hne
def Js (w:World) (base s:Nat) (P:List Int) (PL:List Value):Prop :=
  ∀i u,PL[i]?=some u->Own w 3 u (Yr (Ju P (i:Nat) s))/\∀b,u.ownBlock=some b->base<=b
theorem Js.upd {S:Nat->Prop} {w w':World} {base s:Nat} {P:List Int} {PL:List Value} (h:Js w base s P PL) (hu:Upd S w w') (hs:∀(i:Nat) (u:Value) (b:Nat),PL[i]?=some u->u.ownBlock=some b->¬S b):Js w' base s P PL :=
 fun i u hi=>⟨(h i u hi).1.upd hu (fun b hb=>hs i u b hi hb),(h i u hi).2⟩
theorem Js.fresh {w w':World} {base s:Nat} {P:List Int} {PL:List Value} (h:Js w base s P PL) (hu:Q0 w w'):Js w' base s P PL:=h.upd hu fun _ _ _ _ _ h=>h
theorem Js.snoc {w:World} {base s:Nat} {P:List Int} {PL:List Value} {u:Value} (h:Js w base s P PL) (hu:Own w 3 u (Yr (Ju P (PL.length:Nat) s))) (hb:∀b,u.ownBlock=some b->base<=b):Js w base s P (PL++[u]):=by
 intro i x hi;rw [List.getElem?_append]at hi;split at hi
 . exact h i x hi
 have h0:i-PL.length=0:=by
   have:=(List.getElem?_eq_some_iff.1 hi).1;simp at this;omega
 rw [h0]at hi;simp at hi;subst hi;(have:i=PL.length:=by omega);subst this;exact⟨hu,hb⟩
def Q0l (w:World) (base g p:Nat) (N:List Int):Prop :=
  ∃vc vp PL,Blk w g 234 #[vc,vp]/\QI w 217 3 vc ((JK p N).map tri)/\Own w 27 vp PL/\PL.length=N.length/\Js w base (2^p) (Q7 p N) PL /\
    (∀b,vc.ownBlock=some b->base<=b)/\(∀b,vp.ownBlock=some b->base<=b)/\base<=g
def Qai (lg:Int) (N:List Int) (w:World) (e:Ending) (w':World):Prop :=
  if Qc lg N 256 9 then ∃g,e = .returned (.tuple #[.pointer (some ⟨g,0,none⟩),.int .i64 0])/\Q0l w' w.heap.size g lg.toNat N/\Q0 w w'
  else e = .returned (.tuple #[.pointer none,.int .i64 13])/\Q0 w w'
theorem Q9o (F:Nat->Prop) (A:Option Addr) (n c p:Nat) (N:List Int) (w:World) (hr:Rd w F A n (Q2 N)) (hfit:Fit N) (hn:(n:Int)<=1099511627776) (hv:Qc p N 256 9) :
   Calls Tryz.prog 76 #[.agg #[.int .i64 p,.slice A n c]] w fun e w'=>∃g,e = .returned (.tuple #[.pointer (some ⟨g,0,none⟩),.int .i64 0])/\Q0l w' w.heap.size g p N/\Q0 w w':=by
 (have hN:N.length=n:=by have:=hr.1;simpa using this);(have hn256:n<=256:=by have:=hv.2.2.2.2.1;omega);obtain⟨w0,hw0⟩:=nm_ (w.alloc (.cells #[.int .i64 p,.slice A n c] 29));obtain⟨H,hH⟩:=nm_ (w.heap.size);(have f0:Q0 w w0:=by rw [hw0];exact(Upd.refl _ _).alloc _);(have bt:Blk w0 H 29 #[.int .i64 p,.slice A n c]:=by rw [hw0];exact Q1 hH _ _);have hsp:=Q6K F A n c p N w0 (hr.fresh f0) hfit hn;unfold Vx at hsp;simp only [if_pos hv,Int.toNat_natCast]at hsp;have hpo:=hd_ (fun W (h:Q0 w W) (sy:Int)=>Q9Y F A n c p sy N W (hr.fresh h) hfit hn hv);obtain⟨t0,t1⟩:=(bt).cells2;have HSP:=hd_ hsp;have BT:=hd_ bt;have F0:=hd_ f0;have HW:=hd_ hw0;have HH:=hd_ hH;have HN:=hd_ hN;clear hr hw0 hH f0 bt hsp hv hN;refine Q6 fun R hR=>?_;go_enter Tryz.func76,Tryz.ntmps76;go_upto_region 1 with fail;simp only [<-HH.out,<-HW.out];go_wp2_with fail;refine HSP.out.mono ?_;rintro e w1 ⟨vc,rfl,oc,hcb,f1⟩;obtain⟨Ac,nc,cc,rfl,hnc⟩:=oc.form';have b1:=BT.out.fresh f1;have OC:=hd_ oc;have HCB:=hd_ hcb;have F1:=hd_ (F0.out.trans' f1);clear t0 t1 hcb oc;go_upto_region 5 with fail;obtain⟨K,hK⟩:=nm_ (w1.heap.size);obtain⟨w2,hw2⟩:=nm_ (w1.alloc (.cells #[.slice Ac nc cc,.slice none 0 0] 234));simp only [<-hK,<-hw2];(have f2:Q0 w1 w2:=by rw [hw2];exact(Upd.refl _ _).alloc _);have HZ2:=hd_ (show w2.heap.size=K+1 from by rw [hw2,hK];simp);(have bk:Blk w2 K 234 #[.slice Ac nc cc,.slice none 0 0]:=by rw [hw2];exact Q1 hK _ _);have bt2:=b1.fresh f2;obtain⟨t0,t1⟩:=(bt2).cells2;have OC2:=hd_ (OC.out.fresh f2);have BK:=hd_ bk;have BT2:=hd_ bt2;have F2:=hd_ (F1.out.trans' f2);(have hwK:w.heap.size<=K:=by rw [hK];exact F1.out.size);(have hHK:H<K:=by rw [hK];exact b1.lt);clear hw2 f2 bk bt2 b1 hK;go_wp2_with fail
 go_loopg [24] n (fun f i wr=>∃(k:Nat) (vp:Value) (PL:List Value),k+f=n/\i = .int .i64 k/\Blk wr K 234 #[.slice Ac nc cc,vp]/\Own wr 27 vp PL/\PL.length=k/\Js wr w.heap.size (2^p) (Q7 p N) PL/\(∀b,vp.ownBlock=some b->K+1<=b) /\
   QI wr 217 3 (.slice Ac nc cc) ((JK p N).map tri)/\Upd (fun b=>b=K) w2 wr)
 case atStart=>exact⟨0,.slice none 0 0,[],by omega,rfl,BK.out,Own.nil _ _,rfl,fun i u h=>by simp at h,fun b h=>by simp [Value.ownBlock]at h,OC2.out,Upd.refl _ _⟩
 case round =>
   obtain⟨k,vp,PL,hk,rfl,bk,ov,hpl,pa,hvb,oc,ur⟩:=hrel;have HK:=hd_ hk;have BK3:=hd_ bk;have OV:=hd_ ov;have HPL:=hd_ hpl;have PA:=hd_ pa;have HVB:=hd_ hvb;have OC3:=hd_ oc;have UR:=hd_ ur;clear hk hpl;by_cases hkn:k<n
   . have hkI:(k:Int)<n:=by omega
     have hw4:IntKind.i64.wrap ((k:Int)+1)=k+1:=IntWalk.i64_in _ (by omega);have fwr:Q0 w wr:=F2.out.trans ur (fun b hb h=>by omega);have HP:=hd_ (hpo.out wr fwr (k:Int));have bt3:=BT2.out.upd ur (by omega);obtain⟨t0,t1⟩:=(bt3).cells2;clear bk ov pa hvb oc ur bt3;go_wp2_with fail;refine HP.out.mono ?_;rintro e w5 ⟨v5,rfl,o5,hb5,f5⟩;obtain⟨A5,n5,c5,rfl,hn5⟩:=o5.form';have bk5:=BK3.out.fresh f5;have c1:=bk5.cell 1;have z1:=bk5.frozen 1;simp at c1;(have hlen:PL.length+1<=2^40:=by have:=HPL.out;omega);have HF5:=hd_ f5;have O5:=hd_ o5;have HB5:=hd_ hb5;have BK5:=hd_ bk5;clear f5 o5 hb5 bk5 t0 t1;go_wp2_with (at_builtin;go_must (refine YW _ rfl (.tmp 37) (.tmp 39) _ rfl 27 _ 24 Tryz.underlying103 Q8g rfl vp PL rfl ((OV.out.fresh HF5.out).alloc _) _ 1 _ _ rfl (Rd.one w5 27 (.slice A5 n5 c5)) (by simp [Value.oneCell']) (by omega) hlen ?_);intro v6 w6 o6 g6 a6;obtain⟨A6,n6,c6,rfl,hn6⟩:=o6.form';have u6:Upd (fun b=>vp.ownBlock=some b) w5 w6:=((Upd.refl _ w5).alloc _).grown g6 (fun k hk _=>hk);have b6:=BK5.out.upd u6 (fun h=>by have:=HVB.out _ h;omega);have c6x:=b6.cell 1;have z6x:=b6.frozen 1;simp at c6x);have us:Upd (fun b=>b=K) w6 (w6.setCell ⟨K,1,none⟩ (.slice A6 n6 c6)):=(Upd.refl (fun b=>b=K) w6).setCell (p:=⟨K,1,none⟩) (fun _=>rfl) _;have hz:=HZ2.out;have hwr:=UR.out.size;have hf5:=HF5.out.size
     have hvb6:∀b,(Value.slice A6 n6 c6).ownBlock=some b->K+1<=b:=by
       intro b hb;rcases a6 with e|e
       . exact HVB.out b (by rw [<-e];exact hb)
       rw [e]at hb;injection hb with hb;simp at hb;omega
     have ov5:=OV.out.fresh HF5.out;have pa6:Js w6 w.heap.size (2^p) (Q7 p N) PL:=(PA.out.fresh HF5.out).upd u6 (fun i u b hi hb h=>Own.ne_own ((PA.out.fresh HF5.out) i u hi).1 ov5 (by decide) hb h)
     have el6:Own w6 3 (.slice A5 n5 c5) (Yr (Ju (Q7 p N) (PL.length:Nat) (2^p))):=by
       rw [HPL.out];exact O5.out.upd u6 (fun b hb h=>Own.ne_own O5.out ov5 (by decide) hb h)
     (have hb5w:∀b,(Value.slice A5 n5 c5).ownBlock=some b->w.heap.size<=b:=fun b hb=>by have:=HB5.out b hb;omega)
     have pa7:=(pa6.snoc el6 hb5w).upd us (fun i u b hi hb h=>by
       subst h
       exact Own.ne_blk (((pa6.snoc el6 hb5w) i u hi).1) b6 (by decide) hb)
     have oc6:QI w6 217 3 (.slice Ac nc cc) ((JK p N).map tri):=(OC3.out.fresh HF5.out).upd u6 (fun b hb h=>QI.ne_own (OC3.out.fresh HF5.out) ov5 (by decide) h hb);have oc7:=oc6.upd us (fun b hb h=>by subst h;exact oc6.ne_blk b6 (by decide) hb);have o7:=o6.far (p:=⟨K,1,none⟩) (fun h=>by have:K+1<=K:=hvb6 _ h;omega) (.slice A6 n6 c6);have b7:=b6.set_ 1 (.slice A6 n6 c6);simp at b7;have U7:=hd_ (((UR.out.trans HF5.out (fun b hb h=>h.elim)).trans u6 (fun b hb h=>by have:=HVB.out b h;omega)).trans' us);have PA7:=hd_ pa7;have OC7:=hd_ oc7;have O7:=hd_ o7;have B7:=hd_ b7;have HVB6:=hd_ hvb6;clear pa6 el6 pa7 oc6 oc7 o7 b7 hvb6 us u6 ov5 b6 o6;go_roundg (gk-1)
     case measure=>have:=HK.out;omega
     case rel=>exact⟨k+1,.slice A6 n6 c6,PL++[.slice A5 n5 c5],by have:=HK.out;omega,by go_num,B7.out,O7.out,by simp [HPL.out],PA7.out,HVB6.out,OC7.out,U7.out⟩
   (obtain rfl:k=n:=by have:=HK.out;omega);clear bk ov pa hvb oc ur;go_wp2_with fail;(try go_ret);exact hR.out _ _ ⟨K,rfl,⟨_,vp,PL,BK3.out,OC3.out,OV.out,by rw [HPL.out,HN.out],PA.out,fun b hb=>by have h1:=HCB.out b hb;have h2:=F0.out.size;omega,fun b hb=>by have:=HVB.out b hb;omega,hwK⟩,F2.out.trans UR.out (fun b hb h=>by omega)⟩
end Go.Proofs.YtjfdaphjijfieaaGreat
