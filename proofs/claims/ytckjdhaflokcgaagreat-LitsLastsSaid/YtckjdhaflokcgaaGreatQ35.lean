/-
  Joined texts, part 35: contracts and plain lemmas.
  Conditions: none beyond those of each theorem.
-/
import Derived.Test.YtckjdhaflokcgaaGreatQ34
import Derived.Test.YtckjdhaflokcgaaGreatQ22
set_option maxHeartbeats 4000000
set_option linter.unusedVariables false
set_option linter.unusedSimpArgs false
set_option linter.unnecessarySimpa false
set_option maxRecDepth 100000
universe u
namespace Go.Proofs.YtckjdhaflokcgaaGreat
open Go.RowKit Go.Shelf
attribute [local go_sem] Oper.semAt_some
theorem Own.kept {W W':World} {e:TypeId} {v:Value} {xs:List Value} {row:Option Nat} (h:Own W e v xs) (hg:W.grownBy W' row) (hr:∀r,row=some r->∃o:Obj,W.heap[r]?=some o/\o.isCells=false):Own W' e v xs:=by
 refine h.upd (S:=fun b=>row=some b) ((Upd.refl _ W).grown hg fun k hk _=>hk) fun b hb hs=>?_;obtain⟨o,ho,hc⟩:=hr b hs;rcases h.2 with ⟨rfl,_⟩|⟨g,cap,cur,rfl,_,hh,_⟩
 . simp [Value.ownBlock]at hb
 (have:g=b:=by simpa [Value.ownBlock]using hb);subst this;rw [hh]at ho;injection ho with ho;subst ho;cases hc
theorem Blk.kept {W W':World} {g:Nat} {t:TypeId} {cs:Array Value} {row:Option Nat} (h:Blk W g t cs) (hg:W.grownBy W' row) (hr:∀r,row=some r->∃o:Obj,W.heap[r]?=some o/\o.isCells=false):Blk W' g t cs:=by
 refine h.grown hg fun hs=>?_;obtain⟨o,ho,hc⟩:=hr g hs;rw [show W.heap[g]?=_ from h]at ho;injection ho with ho;subst ho;cases hc
theorem Yf {S:Nat->Prop} {W W':World} (B:Nat) (h:Upd S W W') (hs:∀k,k<W.heap.size->S k->∃t cs,Blk W k t cs):KeepsFrom B W W':=by
 refine⟨h.size,fun k o _ hk ho=>?_⟩;have hlt:=(Array.getElem?_eq_some_iff.1 hk).1;by_cases hS:S k
 . obtain⟨t,cs,hb⟩:=hs k hlt hS
   rw [show W.heap[k]?=_ from hb]at hk;injection hk with hk;subst hk;cases ho
 rw [h.block k hlt hS];exact hk
theorem VT {F':Nat->Prop} {F:Fence} {n':Nat} {P:Program} (w:World) {ops:Array Oper} {rest:List Oper} {o:Oper} {a:Act} {Q:Exit->Act->World->Prop} (hgd:o.guard=none) (s x:Operand) (t:TypeId)
   (ho:o.op = .call { callee:=.builtin .append,args:=#[s,x],argTypes:=#[t,t] })
   (e:TypeId) (z:Value) (Qa:Nat) (ht:P.underlying t=some (.slice e)) (hi:(P.info? e).map (fun i=>(i.zero,i.size,i.bytes))=some (some z,1,Qa)) (hzs:z.cells.size=1)
   (v:Value) (xs:List Value) (hs:a.eval s=v) (hown:Own w e v xs) (A:Option Addr) (m c:Nat) (news:List Value) (hx:a.eval x = .slice A m c) (hr:Rd w F' A m news) (h1:∀u∈news,u.oneCell'=true)
   (hb:Qa<=64) (hlen:xs.length+m<=2^40)
   (h:∀v' w',Own w' e v' (xs++news)->w.grownBy w' v.ownBlock->(v'.ownBlock=v.ownBlock\/v'.ownBlock=some w.heap.size)->wpListIn F n' P ops Q rest (a.put o.dst v') w'):wpListIn F n' P ops Q (o::rest) a w:=by
 refine wpListIn_plain hgd fun K hK=>?_;obtain⟨v',w',hrun,h2,h3,h4⟩:=XJ (P:=P) w t o.type e z Qa ht hi hzs v xs hown A m c news hr h1 hb hlen;unfold Oper.wpIn;refine⟨?_,?_⟩
 . simp [Oper.about,ho,resolve,Target.leads,Sem.run_pure]
 rw [Oper.semAt_plain F _ _ (by rw [ho];intro c hc';cases hc')];simp [execOp,ho,resolve,invoke,builtin,hs,hx,hrun,Result.andThen];exact hK _ _ (h v' w' h2 h3 h4)
theorem Own.blk {w:World} {e:TypeId} {v:Value} {xs:List Value} (h:Own w e v xs) {b:Nat} (hb:v.ownBlock=some b):∃cs,Blk w b e cs:=by
 rcases h.2 with ⟨rfl,_⟩|⟨g,cap,cur,rfl,_,hh,_⟩
 . simp [Value.ownBlock]at hb
 (have:g=b:=by simpa [Value.ownBlock]using hb);subst this;exact⟨cur,hh⟩
theorem Q0j (n:Int) (w:World) :
   Calls Tryz.prog 104 #[.int .u64 n] w fun e w'=>e = .returned (.func (.func 155) #[] #[.pointer (some ⟨w.heap.size,0,none⟩)])/\w'=w.alloc (.cells #[.int .u64 n] 80):=by
 go_enter Tryz.func104,Tryz.ntmps104;go_wp2_with fail;(try go_ret);exact⟨rfl,rfl⟩
def Q4Q (w:World) (C:Nat) (n:Int) (pre:List Nat) (W:World):Prop :=
  ∃v,Blk W (C+1) 80 #[.int .u64 n]/\Blk W C 22 #[v]/\Own W 5 v (Qa pre)/\(∀b,v.ownBlock=some b->w.heap.size<=b)/\Q0 w W
attribute [local go_sem] Oper.semAt_some
def QI (Kb:Nat->Prop) (W W':World):Prop:=∀k,Kb k->W'.heap[k]?=W.heap[k]?
theorem QI.refl (Kb:Nat->Prop) (W:World):QI Kb W W:=fun _ _=>rfl
theorem QI.trans {Kb:Nat->Prop} {A B C:World} (h:QI Kb A B) (k:QI Kb B C):QI Kb A C:=fun j hj=>(k j hj).trans (h j hj)
theorem QI.upd {S Kb:Nat->Prop} {W W':World} (h:Upd S W W') (hs:∀k,Kb k->k<W.heap.size/\¬S k):QI Kb W W':=fun k hk=>h.block k (hs k hk).1 (hs k hk).2
theorem QI.putObj {Kb:Nat->Prop} {l:Nat} (W:World) (o':Obj) (h:∀k,Kb k->k<W.heap.size/\k≠l):QI Kb W (W.putObj l o') :=
 QI.upd (S:=fun k=>k=l) ((Upd.refl _ W).grown (grownBy_putObj' W l o') (fun k e _=>by injection e with e;exact e.symm)) h
theorem QI.cell {Kb:Nat->Prop} {W W':World} (h:QI Kb W W') {b:Nat} (hb:Kb b) (o:Nat):W'.cell? ⟨b,o,none⟩=W.cell? ⟨b,o,none⟩:=World.cell?_of_block (a:=⟨b,o,none⟩) (h b hb)
section
variable {Pq:Nat × Nat->Prop}
def bkB (l:List Nat) (hq:∀(j:Nat) (h:j<l.length),Pq (j,l[j])) (k:Nat):List { p:Nat × Nat // Pq p } :=
  (((List.finRange l.length).drop k).map fun j=>⟨(j.val,l[j.val]),hq j.val j.isLt⟩).reverse
theorem Q3x (l:List Nat) (hq:∀(j:Nat) (h:j<l.length),Pq (j,l[j])):bkB l hq l.length=[]:=by
 unfold bkB;rw [List.drop_of_length_le (by simp)];rfl
theorem Q2y (l:List Nat) (hq:∀(j:Nat) (h:j<l.length),Pq (j,l[j])) (k:Nat) (h:k<l.length):bkB l hq k=bkB l hq (k+1)++[⟨(k,l[k]),hq k h⟩]:=by
 unfold bkB;rw [List.drop_eq_getElem_cons (by simpa using h)];simp
theorem KB (l:List Nat) (hq:∀(j:Nat) (h:j<l.length),Pq (j,l[j])) (k:Nat):(bkB l hq k).length=l.length-k:=by
 unfold bkB;simp
end
theorem VA (A:Option Addr) (n c:Nat) (w:World) :
   Calls Tryz.prog 90 #[.slice A n c] w fun e w'=>e = .returned (.func (.func 147) #[] #[.pointer (some ⟨w.heap.size,0,none⟩)])/\w'=w.alloc (.cells #[.slice A n c] 22):=by
 go_enter Tryz.func90,Tryz.ntmps90;go_wp2_with fail;(try go_ret);exact⟨rfl,rfl⟩
def bkW {Pq:Nat × Nat->Prop} (x:{ p:Nat × Nat // Pq p }):Array Value:=#[.int .i64 (x.1.1:Nat),.int .u8 (x.1.2:Nat)]
theorem Q1r {Pq:Nat × Nat->Prop} (Fe:Fence) (m l Sb n c:Nat) (A:Option Addr) (L:List Nat) (Kb Fl:Nat->Prop) (hq:∀(j:Nat) (h:j<L.length),Pq (j,L[j])) (hft:Fe.fn 147) (hro:Fe.round=none) (hd:Fe.depth=none)
   (J Jx:List { p:Nat × Nat // Pq p }->World->Prop)
   (hY:∀pre x W,J pre W->pre.length<n->YieldAt Fe (m-1) Tryz.prog l (bkW x) W fun e W' =>
     (e = .returned (.bool true)/\J (pre++[x]) W'/\QI Kb W W')\/(e = .returned (.bool false)/\Jx (pre++[x]) W'))
   (W:World) (hS:W.cell? ⟨Sb,0,none⟩=some (.slice A n c)) (hKS:Kb Sb) (hR:Rd W Fl A n (Qa L)) (hKF:∀b,Fl b->Kb b) (hn:n<=2^40) (h0:J [] W) :
   CallsIn Fe m Tryz.prog 147 #[.func (.yield l) #[] #[],.pointer (some ⟨Sb,0,none⟩)] W fun e W'=>(∃v,e = .returned v) /\
     ((∃ys,ys=bkB L hq 0/\J ys W')\/(∃pre,True/\Jx pre W')):=by
 (have hL:L.length=n:=by have:=hR.1;simpa using this);have hw1:IntKind.i64.wrap ((n:Int)-1)=n-1:=IntWalk.i64_in _ (by omega);refine callsIn_of_wp Tryz.func147 rfl hft ?_ hro;simp only [Tryz.ntmps147,List.size_toArray,List.length_cons,List.length_nil,Nat.reduceAdd,Nat.reduceSub,Array.replicate_succ,Array.replicate_zero,List.push_toArray,List.append_toArray,List.nil_append,List.cons_append];gi_wp2;gi_loopg [3] n (fun f i wr=>f<=n/\i = .int .i64 ((f:Int)-1)/\J (bkB L hq f) wr/\QI Kb W wr)
 case atStart=>exact⟨Nat.le_refl _,rfl,by rw [<-hL,Q3x];exact h0,QI.refl _ _⟩
 case round =>
   obtain⟨hfn,rfl,hJ,hk⟩:=hrel;have hS':wr.cell? ⟨Sb,0,none⟩=some (.slice A n c):=(hk.cell hKS 0).trans hS;rcases gk with _|k
   . gi_wp2
     go_end0;exact⟨⟨_,rfl⟩,.inl ⟨_,rfl,hJ⟩⟩
   (have hkL:k<L.length:=by omega);(have hkn:k<n:=by omega);have hY':=hY (bkB L hq (k+1)) ⟨(k,L[k]),hq k hkL⟩ wr hJ (by rw [KB];omega);rw [<-Q2y L hq k hkL]at hY';obtain⟨b,o,rfl,hFb,_,hc⟩:=hR.at_ (k:=k) hkn
   have c0:wr.cell? ⟨b,o+k,none⟩=some (.int .u8 (L[k]:Nat)):=by
     rw [hk.cell (hKF b hFb),hc];simp [Qa,hkL]
   (have e1:((k+1:Nat):Int)-1=(k:Nat):=by omega);have hw2:IntKind.i64.wrap ((k:Int)-1)=k-1:=IntWalk.i64_in _ (by omega);(have hkI:(k:Int)<n:=by omega);(have hk0:(0:Int)<=k:=by omega);obtain⟨fn,tmps,assign,body,hy,hRd⟩:=hY';simp only [bkW]at hy;have HK:=hd_ hk;clear hc hJ hk hY hR;simp only [e1];gi_wp2
   first
     | refine hRd.mono ?_
     | refine⟨?_,?_,hRd.mono ?_⟩
   rintro e W3 (⟨rfl,hJ3,hk3⟩|⟨rfl,hJx3⟩)
   . have HJ3:=hd_ hJ3
     have HK3:=hd_ hk3;clear hJ3 hk3 hRd hy;gi_wp2;gi_roundg k
     case measure=>omega
     case rel=>exact⟨by omega,by go_num,HJ3.out,HK.out.trans HK3.out⟩
   gi_wp2;refine bodyPost_ret (results_none rfl _ _ _) rfl ?_;exact⟨⟨_,rfl⟩,.inr ⟨_,trivial,hJx3⟩⟩
theorem Xu {Pq:Nat × Nat->Prop} (m Sb n c:Nat) (A:Option Addr) (L:List Nat) (Kb Fl:Nat->Prop) (hq:∀(j:Nat) (h:j<L.length),Pq (j,L[j])) (w:World) (hSb:Sb<w.heap.size) (hS:w.cell? ⟨Sb,0,none⟩=some (.slice A n c)) (hKS:Kb Sb) (hR:Rd w Fl A n (Qa L)) (hKF:∀b,Fl b->Kb b) (hn:n<=2^40) :
   SeqStopsK Fence.wide m Tryz.prog 147 #[.pointer (some ⟨Sb,0,none⟩)] (bkW (Pq:=Pq)) (QI Kb) (fun ys=>ys=bkB L hq 0) (fun _=>True) n w :=
 fun l J Jx W hW hJa _ hY h0=>Q1r Fence.wide m l Sb n c A L Kb Fl hq trivial rfl rfl J Jx hY W ((hW.cell (p:=⟨Sb,0,none⟩) hSb).trans hS) hKS (hR.upd (S:=fun _=>False) (Upd.of_below hW) (fun _ _ _ h=>h)) hKF hn h0
end Go.Proofs.YtckjdhaflokcgaaGreat
namespace Go.Proofs.YtckjdhaflokcgaaGreat
open Go.RowKit
theorem QD.mono {w:World} {S S':Nat->Prop} {g:Nat} {l:List Bool} (h:QD w S g l) (hs:∀k,S k->S' k):QD w S' g l:=by
 obtain⟨v,n,sv,bs,h1,h2,h3,h4,h5,h6,h7,h8⟩:=h;exact⟨v,n,sv,bs,h1,h2,h3,h4,h5,h6,hs _ h7,fun k hk=>hs k (h8 k hk)⟩
theorem QD.upd {w w':World} {S T:Nat->Prop} {g:Nat} {l:List Bool} (h:QD w S g l) (hu:Upd T w w') (hs:∀k,k<w.heap.size->T k->k≠g/\¬ ∃cs,Blk w k 5 cs):QD w' S g l:=by
 obtain⟨v,n,sv,bs,h1,h2,h3,h4,h5,h6,h7,h8⟩:=h;exact⟨v,n,sv,bs,h1.upd hu (fun ht=>(hs g h1.lt ht).1 rfl),h2.upd hu (fun b hb ht=>(hs b (h2.lt hb) ht).2 (h2.blk hb)),h3,h4,h5,h6,h7,h8⟩
theorem QD.lt {w:World} {S:Nat->Prop} {g:Nat} {l:List Bool} (h:QD w S g l):g<w.heap.size/\∃cs,Blk w g 124 cs:=by
 obtain⟨v,n,sv,bs,h1,_⟩:=h;exact⟨h1.lt,_,h1⟩
theorem Q3n (base g x n:Nat) (B:List Bool) (w:World) (h:QD w (fun k=>base<=k) g B) (hb:base<=w.heap.size) (hn:n<=32) (hx:x<2^n) (hl:B.length<=2^30) :
   Calls Tryz.prog 89 #[.pointer (some ⟨g,0,none⟩),.int .u64 x,.int .i64 n] w fun e w'=>e = .returned (.int .i64 0) /\
     Upd (fun k=>k=g\/(base<=k/\∃cs,Blk w k 5 cs)) w w'/\QD w' (fun k=>base<=k) g (B++Qs n x):=by
 obtain⟨v,n',sv,bs,h1,h2,h3,h4,h5,h6,h7,h8⟩:=h;have hw:QD w (fun k=>base<=k/\(k=g\/sv.ownBlock=some k\/w.heap.size<=k)) g B:=⟨v,n',sv,bs,h1,h2,h3,h4,h5,h6,⟨h7,.inl rfl⟩,fun k hk=>⟨h8 k hk,.inr (.inl hk)⟩⟩;refine(Q3y _ g x n B w hw hn hx hl (fun k hk=>⟨by omega,.inr (.inr hk)⟩)).mono fun e w' ⟨he,hu,hw'⟩=>⟨he,hu.mono fun k hk hs=>?_,hw'.mono fun k hk=>hk.1⟩;rcases hs.2 with h|h|h
 . exact .inl h
 . exact .inr ⟨hs.1,h2.blk h⟩
 omega
theorem Q1s (S:Nat->Prop) (g:Nat) (B:List Bool) (w:World) (h:QD w S g B) (hl:B.length<=2^29) :
   Calls Tryz.prog 91 #[.pointer (some ⟨g,0,none⟩)] w fun e w'=>∃v,e = .returned v/\Qk w w' v (QE (B++[true])):=by
 obtain⟨v,n,sv,bs,h1,h2,h3,h4,h5,h6,h7,h8⟩:=h;(have hlb:bs.length<=2^28:=by have:=congrArg List.length h6;simp at this;omega);obtain⟨A,c,rfl,hc,hr⟩:=h2.form;(have hln:(bs.map fun b:Nat=>Value.int .u8 (b:Nat)).length=bs.length:=by simp);obtain⟨c0,c1,c2⟩:=(h1).cells3;have HC:=hd_ (fun W (hW:Q0 w W)=>Yo A _ c _ W (hr.fresh hW) (QS bs) (by omega));rw [hln]at HC;have HB:=hd_ h1;have H6:=hd_ (And.intro h3 (And.intro h4 (And.intro h5 h6)));have H2:=hd_ h2;clear h1 h2 h3 h4 h5 h6 h7 h8 hc hr
 have FA:=hd_ (show ∀w1 A1 n1 d1,Own w1 5 (.slice A1 n1 d1) (bs.map fun b:Nat=>.int .u8 (b:Nat))->(∀k,(Value.slice A1 n1 d1).ownBlock=some k->w.heap.size<=k)->Q0 w w1 ->
     QD (w1.alloc (.cells #[.int .u64 v,.int .i64 n,.slice A1 n1 d1] 124)) (fun k=>w.heap.size<=k) w1.heap.size B/\Q0 w (w1.alloc (.cells #[.int .u64 v,.int .i64 n,.slice A1 n1 d1] 124))from by
   intro w1 A1 n1 d1 o1 k1 f1;obtain⟨h3,h4,h5,h6⟩:=H6.out
   exact⟨⟨v,n,_,bs,Qc rfl _ _,o1.alloc _,h3,h4,h5,h6,f1.size,k1⟩,f1.alloc _⟩)
 have FB:=hd_ (show ∀w1 A1 n1 d1,Blk w1 w.heap.size 124 #[.int .u64 0,.int .i64 0,.slice none 0 0]->Own w1 5 (.slice A1 n1 d1) (bs.map fun b:Nat=>.int .u8 (b:Nat))->(∀k,(Value.slice A1 n1 d1).ownBlock=some k->w.heap.size<=k)->Q0 w w1 ->
     QD (((w1.setCell ⟨w.heap.size,0,none⟩ (.int .u64 v)).setCell ⟨w.heap.size,1,none⟩ (.int .i64 n)).setCell ⟨w.heap.size,2,none⟩ (.slice A1 n1 d1)) (fun k=>w.heap.size<=k) w.heap.size B /\
     Q0 w (((w1.setCell ⟨w.heap.size,0,none⟩ (.int .u64 v)).setCell ⟨w.heap.size,1,none⟩ (.int .i64 n)).setCell ⟨w.heap.size,2,none⟩ (.slice A1 n1 d1))from by
   intro w1 A1 n1 d1 b1 o1 k1 f1;obtain⟨h3,h4,h5,h6⟩:=H6.out;have hne:=o1.ne_blk b1 (by decide);have bb:=((b1.set_ 0 (.int .u64 v)).set_ 1 (.int .i64 n)).set_ 2 (.slice A1 n1 d1);refine⟨⟨v,n,_,bs,by simpa using bb,((o1.far hne _).far hne _).far hne _,h3,h4,h5,h6,Nat.le_refl _,k1⟩,?_⟩
   exact((f1.setCell (p:=⟨w.heap.size,0,none⟩) (fun h=>by simp at h) _).setCell (p:=⟨w.heap.size,1,none⟩) (fun h=>by simp at h) _).setCell (p:=⟨w.heap.size,2,none⟩) (fun h=>by simp at h) _)
 have HPT:=hd_ (fun Z W (h:QD W (fun k=>w.heap.size<=k) Z B) (f:Q0 w W)=>Q3n w.heap.size Z 1 1 B W h f.size (by omega) (by decide) (by omega));have HBY:=hd_ (fun Z W (h:QD W (fun k=>w.heap.size<=k) Z (B++Qs 1 1))=>Q1t _ Z (B++Qs 1 1) W h (by simp;omega));have hb11:Qs 1 1=[true]:=rfl;rw [hb11]at HPT HBY;refine Qg fun R hR=>?_;go_enter Tryz.func91,Tryz.ntmps91;go_upto_region 3 with fail;(have HQ:∀W,W=w.alloc (.cells #[.int .u64 0,.int .i64 0,.slice none 0 0] 124)->Blk W w.heap.size 124 #[.int .u64 0,.int .i64 0,.slice none 0 0]:=fun W hW=>by rw [hW];exact Qc rfl _ _);have HQ:=hd_ HQ;have c0z:=fun o=>(HB.out.alloc o).cell 0;have c1z:=fun o=>(HB.out.alloc o).cell 1;have c2z:=fun o=>(HB.out.alloc o).cell 2;simp at c0z c1z c2z;go_cut [3] (fun q wx=>∃Z,q = .pointer (some ⟨Z,0,none⟩)/\QD wx (fun k=>w.heap.size<=k) Z B/\Q0 w wx)
 case first =>
   go_region_with (first
     | (go_at_call 61;((refine(HC.out _ (Upd.refl _ _).drew).mono ?_);rintro e w1 ⟨v1,rfl,o1,f1,k1⟩);have c0x:=(HB.out.drew.fresh f1).cell 0;have c1x:=(HB.out.drew.fresh f1).cell 1;have c2x:=(HB.out.drew.fresh f1).cell 2;have c0y:=fun o=>((HB.out.drew.fresh f1).alloc o).cell 0;have c1y:=fun o=>((HB.out.drew.fresh f1).alloc o).cell 1;simp at c0x c1x c2x c0y c1y;obtain⟨A1,n1,d1,rfl,hn1⟩:=o1.form';have f1x:Q0 w w1:=(Upd.refl _ w).drew.trans' f1)
     | (go_at_call 61;((refine(HC.out _ ((Upd.refl _ _).alloc _).drew).mono ?_);rintro e w1 ⟨v1,rfl,o1,f1,k1⟩);have c0x:=((HB.out.alloc (.cells #[.int .u64 0,.int .i64 0,.slice none 0 0] 124)).drew.fresh f1).cell 0;have c1x:=((HB.out.alloc (.cells #[.int .u64 0,.int .i64 0,.slice none 0 0] 124)).drew.fresh f1).cell 1;have c2x:=((HB.out.alloc (.cells #[.int .u64 0,.int .i64 0,.slice none 0 0] 124)).drew.fresh f1).cell 2;have bq:=(HQ.out _ rfl).drew.fresh f1;have q0:=bq.cell 0;have q1:=bq.cell 1;have q2:=bq.cell 2;have z0:=bq.frozen 0;have z1:=bq.frozen 1;have z2:=bq.frozen 2;simp at c0x c1x c2x q0 q1 q2;obtain⟨A1,n1,d1,rfl,hn1⟩:=o1.form';have f1x:Q0 w w1:=((Upd.refl _ w).alloc (.cells #[.int .u64 0,.int .i64 0,.slice none 0 0] 124)).drew.trans' f1))
   (all_goals go_wp2_with fail);(all_goals go_meet)
   all_goals first
     | exact⟨_,rfl,FA.out w1 A1 n1 d1 o1 (fun k hk=>by have:=k1 k hk;simp at this;omega) f1x⟩
     | exact⟨_,rfl,FB.out w1 A1 n1 d1 bq o1 (fun k hk=>by have:=k1 k hk;simp at this;omega) f1x⟩
     | trace_state
 case rest =>
   obtain⟨Z,rfl,hq1,hq2⟩:=hcut;have FW:=hd_ hq2;have HPX:=hd_ (HPT.out _ _ hq1 hq2);(have hZ:w.heap.size<=Z:=by obtain⟨_,_,_,_,_,_,_,_,_,_,h,_⟩:=hq1;exact h);have HZ:=hd_ hZ;clear hq1 hq2 hZ;go_wp2_with fail;refine HPX.out.mono ?_;rintro e w4 ⟨rfl,u4,wr4⟩;have HB4:=hd_ (HBY.out _ _ wr4);have F4:=hd_ (FW.out.trans u4 (fun b hb h=>by have:=HZ.out;rcases h with h|h;omega;have:=h.1;omega));clear u4 wr4;go_wp2_with fail;refine HB4.out.mono ?_;rintro e w5 ⟨v5,rfl,o5,f5,k5⟩;go_wp2_with fail;(try go_ret);exact hR.out _ _ ⟨v5,rfl,o5,F4.out.trans' f5,fun k hk=>by have:=k5 k hk;have:=F4.out.size;omega⟩
end Go.Proofs.YtckjdhaflokcgaaGreat
