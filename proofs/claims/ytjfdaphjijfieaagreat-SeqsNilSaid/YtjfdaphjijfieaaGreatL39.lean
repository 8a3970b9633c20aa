/-
  Joined texts, part 39: contracts and plain lemmas.
  Conditions: none beyond those of each theorem.
-/
import Derived.Test.YtjfdaphjijfieaaGreatL31
import Derived.Test.YtjfdaphjijfieaaGreatL38
set_option maxHeartbeats 40000000
set_option linter.unusedVariables false
set_option linter.unusedSimpArgs false
set_option maxRecDepth 100000
universe u
namespace Go.Proofs.YtjfdaphjijfieaaGreat
open Go.RowKit Go.Shelf Go.Sort
attribute [local go_sem] Oper.semAt_some
def J6 (g0 g1 g2:Nat) (S:Sts):Array Value:=#[.pointer (some ⟨g0,0,none⟩),.int .i64 (S.l:Nat),.pointer (some ⟨g1,0,none⟩),.int .i64 (S.o:Nat),.pointer (some ⟨g2,0,none⟩),.int .i64 (S.m:Nat)]
def WrI {Pq:Nat × Qb->Prop} (w:World) (H P6 Sb g0 g1 g2 n d:Nat) (A:Option Addr) (T:QJ) (pre:List { p:Nat × Qb // Pq p }) (W:World):Prop :=
  Q0 w W/\Blk W Sb 88 #[.slice A n d]/\Blk W H 96 (J6 g0 g1 g2 (wrF T n (pre.map Subtype.val)).1)/\Blk W (H+1) 88 #[.slice A n d]/\Blk W (H+1+1+1) 161 #[.pointer (some ⟨H+1+1,0,none⟩)] /\
    Blk W P6 149 ZA/\Qd W (fun k=>w.heap.size<=k) (H+1+1) (wrF T n (pre.map Subtype.val)).2
theorem Qd.kept {W W':World} {S:Nat->Prop} {g:Nat} {l:List Bool} {row:Option Nat} (h:Qd W S g l) (hg:W.grownBy W' row) (hr:∀r,row=some r->∃o:Obj,W.heap[r]?=some o/\o.isCells=false):Qd W' S g l:=by
 obtain⟨v,n,sv,bs,h1,h2,h3,h4,h5,h6,h7,h8⟩:=h;exact⟨v,n,sv,bs,h1.kept hg hr,h2.kept hg hr,h3,h4,h5,h6,h7,h8⟩
theorem WrI.own {Pq:Nat × Qb->Prop} {w:World} {H P6 Sb g0 g1 g2 n d B:Nat} {A:Option Addr} {T:QJ} (hB:w.heap.size<=B):OwnFrom B (WrI (Pq:=Pq) w H P6 Sb g0 g1 g2 n d A T):=by
 intro pre W W' row h hg hr;obtain⟨h1,h2,h3,h4,h5,h6,h7⟩:=h;have hr':=fun r e=>(hr r e).2;exact⟨h1.grown hg (fun k hk hlt=>by have:=(hr k hk).1;omega),h2.kept hg hr',h3.kept hg hr',h4.kept hg hr',h5.kept hg hr',h6.kept hg hr',h7.kept hg hr'⟩
def ZB (T:QJ) (S:Sts) (k:Nat):List Bool:=(if 0<k then Qf T.pM S.m else [])++(if 1<k then Qf T.pO S.o else [])++(if 2<k then Qf T.pL S.l else [])
theorem Q0q (T:QJ) (S:Sts) (h:T.pL<=9/\T.pO<=9/\T.pM<=9) (k:Nat):(ZB T S k).length<=27:=by
 have g:∀(p:Prop) [Decidable p] (l:List Bool),l.length<=9->(if p then l else []).length<=9:=by
   intro p _ l h;split
   . exact h
   simp
 have q1:=g (0<k) (Qf T.pM S.m) (by simp;omega);have q2:=g (1<k) (Qf T.pO S.o) (by simp;omega);have q3:=g (2<k) (Qf T.pL S.l) (by simp;omega);unfold ZB;simp only [List.length_append];omega
def UW (Wb:World) (base H g:Nat) (b:Nat):Prop:=b=H\/b=g\/(base<=b/\∃cs,Blk Wb b 5 cs)
theorem UW.put {Wb wr wr':World} {base H g:Nat} (h:Upd (UW Wb base H g) Wb wr) (k:Upd (fun k=>k=g\/(base<=k/\∃cs,Blk wr k 5 cs)) wr wr'):Upd (UW Wb base H g) Wb wr':=by
 refine h.trans k fun b hb hs=>?_;rcases hs with rfl|⟨hs,cs,hc⟩
 . exact .inr (.inl rfl)
 by_cases hU:UW Wb base H g b
 . exact hU
 exact .inr (.inr ⟨hs,cs,by unfold Blk at hc ⊢;rw [<-h.block b hb hU];exact hc⟩)
theorem UW.set {Wb wr:World} {base H g:Nat} (h:Upd (UW Wb base H g) Wb wr) (o:Nat) (u:Value):Upd (UW Wb base H g) Wb (wr.setCell ⟨H,o,none⟩ u):=h.setCell (p:=⟨H,o,none⟩) (fun _=>.inl rfl) u
theorem Qd.set {w:World} {S:Nat->Prop} {g H:Nat} {l:List Bool} {t:TypeId} {cs:Array Value} (h:Qd w S g l) (b:Blk w H t cs) (ht:t≠5) (hg:H≠g) (o:Nat) (u:Value):Qd (w.setCell ⟨H,o,none⟩ u) S g l :=
 h.upd ((Upd.refl (fun b=>b=H) w).setCell (p:=⟨H,o,none⟩) (fun _=>rfl) u) (fun k _ hT=>by subst hT;exact⟨hg,fun⟨cs',hb⟩=>b.ne_ hb ht rfl⟩)
theorem UW.fresh {Wb wr wr':World} {base H g:Nat} (h:Upd (UW Wb base H g) Wb wr) (k:Q0 wr wr'):Upd (UW Wb base H g) Wb wr':=h.trans k (fun _ _ h=>h.elim)
theorem UW.blk {Wb wr:World} {base H g b:Nat} {t:TypeId} {cs:Array Value} (h:Upd (UW Wb base H g) Wb wr) (hb:Blk Wb b t cs) (ht:t≠5) (h1:b≠H) (h2:b≠g):Blk wr b t cs:=by
 refine hb.upd h fun hU=>?_;rcases hU with hU|hU|⟨_,cs',hU⟩
 . exact h1 hU
 . exact h2 hU
 exact hb.ne_ hU ht rfl
theorem Q72 (G FL:Nat->Prop) (g0 g1 g2 n d:Nat) (A:Option Addr) (T:QJ) (L:List Qb) (w:World) (hT:T.ok)
   (hc0:Qv w G g0 T.pL T.NL) (hc1:Qv w G g1 T.pO T.NO) (hc2:Qv w G g2 T.pM T.NM) (hL:RdK w FL 6 A n (L.map Yo)) (hn:n<=65536) (hok:∀x∈L,x.ok/\Cov T x) :
   Calls Tryz.prog 48 #[.agg #[.pointer (some ⟨g0,0,none⟩),.int .i64 0,.pointer (some ⟨g1,0,none⟩),.int .i64 0,.pointer (some ⟨g2,0,none⟩),.int .i64 0],.slice A n d] w fun e w'=>∃v,e = .returned v/\QB w w' v (QN (wrE T L++[true])):=by
 (have hLn:L.length=n:=by have:=hL.1;simpa using this);obtain⟨H,hH⟩:=nm_ (w.heap.size);obtain⟨w0,hw0⟩:=nm_ (((((w.alloc (.cells #[.pointer (some ⟨g0,0,none⟩),.int .i64 0,.pointer (some ⟨g1,0,none⟩),.int .i64 0,.pointer (some ⟨g2,0,none⟩),.int .i64 0] 96)).alloc (.cells #[.slice A n d] 88)).alloc (.cells #[.int .u64 0,.int .i64 0,.slice none 0 0] 165)).alloc (.cells #[.pointer (some ⟨H+1+1,0,none⟩)] 161)));(have f0:Q0 w w0:=by rw [hw0];exact((((Upd.refl _ _).alloc _).alloc _).alloc _).alloc _);(have hz0:w0.heap.size=H+4:=by rw [hw0,hH];simp);(have bH:Blk w0 H 96 (J6 g0 g1 g2 ⟨0,0,0⟩):=by rw [hw0];exact(((Q1 hH _ _).alloc _).alloc _).alloc _);(have bS:Blk w0 (H+1) 88 #[.slice A n d]:=by rw [hw0];exact((Q1 (by simp [hH]) _ _).alloc _).alloc _);(have bW:Blk w0 (H+1+1) 165 #[.int .u64 0,.int .i64 0,.slice none 0 0]:=by rw [hw0];exact(Q1 (by simp [hH]) _ _).alloc _);(have bP:Blk w0 (H+1+1+1) 161 #[.pointer (some ⟨H+1+1,0,none⟩)]:=by rw [hw0];exact Q1 (by simp [hH]) _ _);have HPA:=hd_ Q04;have HF0:=hd_ f0;have HZ0:=hd_ hz0;have HB:=hd_ (And.intro bH (And.intro bS (And.intro bW bP)));have HW:=hd_ hw0;have HH:=hd_ hH;have HC:=hd_ (And.intro hc0 (And.intro hc1 hc2));have HL:=hd_ hL.both;have HLN:=hd_ hLn;have HT:=hd_ hT;have HOK:=hd_ hok;have hcS:=bS.cell 0;simp at hcS;clear f0 hz0 bH bS bW bP hw0 hH hc0 hc1 hc2 hL hLn hT hok;refine Q6 fun R hR=>?_;refine(callsIn_wide (n:=3)).1 (callsIn_of_wp_marks Tryz.func48 rfl trivial ?_ rfl);simp only [Tryz.ntmps48,List.size_toArray,List.length_cons,List.length_nil,Nat.reduceAdd,Nat.reduceSub,Array.replicate_succ,Array.replicate_zero,List.push_toArray,List.append_toArray,List.nil_append,List.cons_append];refine wpIn_wide.2 ?_;go_upto_region 2 with fail;simp only [<-HH.out,<-HW.out];go_wp2_with fail;refine(HPA.out _).mono ?_;rintro e w1 ⟨rfl,f1⟩;have hcS1:=((HB.out.2.1).fresh f1).cell 0;simp at hcS1;(have hcS2:∀o,(w1.alloc o).cell? ⟨H+1,0,none⟩=some (.slice A n d):=fun o=>by have:=(((HB.out.2.1).fresh f1).alloc o).cell 0;simpa using this);have F1:=hd_ f1;clear f1 hcS;go_wp2_with fail;obtain⟨P6,hP6⟩:=nm_ (w1.heap.size);obtain⟨w3,hw3⟩:=nm_ (w1.alloc (.cells ZA 149));have hpv:ZA=#[.func (.func 112) #[] #[],.func (.func 113) #[] #[],.func (.func 114) #[] #[],.func (.func 115) #[] #[],.func (.func 116) #[] #[],.func (.func 117) #[] #[],.func (.func 112) #[] #[],.func (.func 113) #[] #[],.func (.func 114) #[] #[]]:=rfl
 simp only [<-hpv,<-hP6,<-hw3];(have f3:Q0 w1 w3:=by rw [hw3];exact(Upd.refl _ _).alloc _);(have bP6:Blk w3 P6 149 ZA:=by rw [hw3];exact Q1 hP6 _ _);(have hz3:w3.heap.size=P6+1:=by rw [hw3,hP6];simp);have HHP:=hd_ (show H+4<=P6 by rw [hP6];have:=F1.out.size;have:=HZ0.out;omega);have HF3:=hd_ ((HF0.out.trans' F1.out).trans' f3);have HB3:=hd_ (And.intro (HB.out.1.fresh (F1.out.trans' f3)) (And.intro (HB.out.2.1.fresh (F1.out.trans' f3)) (And.intro (HB.out.2.2.1.fresh (F1.out.trans' f3)) (HB.out.2.2.2.fresh (F1.out.trans' f3)))));have HP6:=hd_ bP6;have HZ3:=hd_ hz3;clear hpv hP6 hw3 f3 bP6 hz3 hcS1 hcS2 F1 HF0 HB;refine(Q3x _ _ _ _).mono ?_;rintro e w4 ⟨rfl,hw4⟩;obtain⟨Sb,hSb⟩:=nm_ (w3.heap.size);rw [<-hSb];(have f4:Q0 w3 w4:=by rw [hw4];exact(Upd.refl _ _).alloc _);(have bSb:Blk w4 Sb 88 #[.slice A n d]:=by rw [hw4];exact Q1 hSb _ _);(have hz4:w4.heap.size=Sb+1:=by rw [hw4,hSb];simp);(have hSP:Sb=P6+1:=by rw [hSb];exact HZ3.out)
 have hI0:WrI (Pq:=fun p:Nat × Qb=>p.2.ok/\Cov T p.2) w H P6 Sb g0 g1 g2 n d A T [] w4:=by
   refine⟨HF3.out.trans' f4,bSb,HB3.out.1.fresh f4,HB3.out.2.1.fresh f4,HB3.out.2.2.2.fresh f4,HP6.out.fresh f4,?_⟩;exact⟨0,0,_,[],HB3.out.2.2.1.fresh f4,Own.nil _ _,by omega,by simp,(fun b hb=>by cases hb),rfl,by have:=HH.out;omega,(fun k hk=>by simp [Value.ownBlock]at hk)⟩
 have hq:∀(j:Nat) (h:j<L.length),(fun p:Nat × Qb=>p.2.ok/\Cov T p.2) (j,L[j]):=fun j h=>HOK.out _ (List.getElem_mem h);have HI0:=hd_ hI0;have HBS:=hd_ bSb;have HZ4:=hd_ hz4;have HSP:=hd_ hSP;have HF4:=hd_ (HF3.out.trans' f4);clear hw4 hSb f4 bSb hz4 hSP hI0 HF3 HB3 HP6 HZ3;go_wp2_with fail;obtain⟨Kb,hKb⟩:∃Kb:Nat->Prop,Kb=fun k=>(FL k/\k<w.heap.size)\/k=Sb:=⟨_,rfl⟩;have HKB:=hd_ (show ∀k,Kb k ↔ (FL k/\k<w.heap.size)\/k=Sb from fun k=>by rw [hKb]);have HKD:=hd_ (show ∀k,Kb k->k<w4.heap.size from fun k hk=>by rcases(HKB.out k).1 hk with h|h;have:=HF4.out.size;omega;have:=HZ4.out;omega);(have hcSb:w4.cell? ⟨Sb,0,none⟩=some (.slice A n d):=by simpa using HBS.out.cell 0);clear hKb;have hOwn:OwnFrom w4.heap.size (WrI (Pq:=fun p:Nat × Qb=>p.2.ok/\Cov T p.2) w H P6 Sb g0 g1 g2 n d A T):=WrI.own HF4.out.size;refine(wpIn_wide (n:=3)).1 ?_
 refine XD (F:=Fence.wide) (n:=3) rfl (by omega) (gf:=127) (lb:=#[.pointer (some ⟨Sb,0,none⟩)]) rfl trivial (enters_of Tryz.func127 (by kernel_rfl) rfl)
   (Q5E (Pq:=fun p:Nat × Qb=>p.2.ok/\Cov T p.2) (3-1) Sb n d A L Kb _ hq w4 (by have:=HZ4.out;omega) hcSb ((HKB.out Sb).2 (.inr rfl)) (HL.out.fresh HF4.out) (fun b hb=>(HKB.out b).2 (.inl hb)) (by omega))
   YF.trans (fun W l o o' hl ho _ _=>YF.putObj W o' (fun k hk=>⟨by have:=HKD.out k hk;have:=(Array.getElem?_eq_some_iff.1 ho).1;omega,by have:=HKD.out k hk;omega⟩)) (Below.refl _ _) (fun _=>rfl)
   (WrI w H P6 Sb g0 g1 g2 n d A T) (fun _ _ _=>False) hOwn (fun _ _ _ _ _ hs _ _=>hs) HI0.out 7 8 (fun x=>.int .i64 (x.1.1:Nat)) 154 (fun x=>(Yo x.1.2).toArray)
   (fun pre W o hI=>YF.upd ((Upd.refl (fun _=>False) W).alloc o) (fun k hk=>⟨by have:=HKD.out k hk;have:=HZ4.out;have:=hI.2.1.lt;omega,fun h=>h⟩)) (fun pre W hI=>by have:=HZ4.out;have:=hI.2.1.lt;omega) ?assign ?body ?done ?stop
 case assign =>
   intro l x W K hK;simp [bkV,Yo]at hK ⊢;gi_wp2;exact hK
 case body =>
   rintro l pre x X W hI hbX hXw hlt;simp [bkV];obtain⟨hf,hbSb,hbH,hbS,hbP,hbQ,hwr⟩:=hI;have hT0:=HT.out;obtain⟨⟨i,x⟩,hx,hcv⟩:=x;have hwS:=Q3z hT0 (pre.map Subtype.val) (n:=n) (fun p hp=>by obtain⟨q,_,rfl⟩:=List.mem_map.1 hp;exact q.2);rw [List.length_map]at hwS;have hWI:=Q1g T n (pre.map Subtype.val) (i,x);(have hmap:(pre++[(⟨(i,x),hx,hcv⟩:{ p:Nat × Qb // p.2.ok/\Cov T p.2 })]).map Subtype.val=pre.map Subtype.val++[(i,x)]:=by simp);obtain⟨S,B,hSB⟩:∃S B,wrF T n (pre.map Subtype.val)=(S,B):=⟨_,_,rfl⟩;rw [hSB]at hwS hWI hbH hwr;simp only at hwS hbH hwr
   have HFIN:=hd_ (show ∀W',Q0 w W'->Blk W' Sb 88 #[.slice A n d]->Blk W' H 96 (J6 g0 g1 g2 (Yp T (decide (i+1=n)) x (S,B) 3).1)->Blk W' (H+1) 88 #[.slice A n d]->Blk W' (H+1+1+1) 161 #[.pointer (some ⟨H+1+1,0,none⟩)]->Blk W' P6 149 ZA ->
       Qd W' (fun k=>w.heap.size<=k) (H+1+1) ((Yp T (decide (i+1=n)) x (S,B) 3).2++Jf x 3)->WrI w H P6 Sb g0 g1 g2 n d A T (pre++[(⟨(i,x),hx,hcv⟩:{ p:Nat × Qb // p.2.ok/\Cov T p.2 })]) W' from by
     intro W' h1 h2 h3 h4 h5 h6 h7;unfold WrI;rw [hmap,hWI];unfold Q0o;rw [Q3y]at h7
     exact⟨h1,h2,h3,h4,h5,h6,h7⟩)
   have HSO:=hd_ hwS.1;have HBL:=hd_ (show B.length<=6600000 by have:=hwS.2;omega);have HCV:=hd_ hcv;have HXO:=hd_ hx;clear hWI hmap hSB hwS hlt;gi_upto_region 7 with fail;obtain⟨Y,hY⟩:=nm_ (W.heap.size);obtain⟨Wb,hWb⟩:=nm_ (W.alloc (.cells #[.int .i64 1,.int .i64 2,.int .i64 0] 112));simp only [<-hY,<-hWb];(have fb:Q0 W Wb:=by rw [hWb];exact(Upd.refl _ _).alloc _);(have bY:Blk Wb Y 112 #[.int .i64 1,.int .i64 2,.int .i64 0]:=by rw [hWb];exact Q1 hY _ _);have HY:=hd_ bY;have HFW:=hd_ (hf.trans' fb);have HBSb:=hd_ (hbSb.fresh fb);have HBH:=hd_ (hbH.fresh fb);have HBS2:=hd_ (hbS.fresh fb);have HBP:=hd_ (hbP.fresh fb);have HBQ:=hd_ (hbQ.fresh fb);have HWR:=hd_ (hwr.upd fb (fun _ _ h=>h.elim));have HBX:=hd_ (hbX.fresh fb);have HWB:=hd_ fb;(have hYH:Y≠H/\Y≠H+1+1:=by rw [hY];have h1:=hbH.lt;have h2:=hwr.lt.1;omega);have HBSlt:=hd_ hbSb.lt;clear hf hbSb hbH hbS hbP hbQ hwr hbX hY hWb fb bY;have hTw:=hT0.wide;have hHP:=HHP.out;have hXw4:w4.heap.size<=X:=hXw;have hz4:=HZ4.out;have hsp:=HSP.out;(have hXH:X≠H/\X≠H+1+1:=by omega);clear hsp hz4 hXw4;have hw1:IntKind.i64.wrap ((n:Int)-1)=n-1:=IntWalk.i64_in _ (by omega);(have hmo:Tryz.prog.follows .mixedOrders=true:=by kernel_rfl)
   have HCW:=hd_ (show ∀W',Upd (UW Wb w.heap.size H (H+1+1)) Wb W'->Qv W' G g0 T.pL T.NL/\Qv W' G g1 T.pO T.NO/\Qv W' G g2 T.pM T.NM from fun W' hu=>by
     have key:∀c p N,Qv w G c p N->Qv W' G c p N:=fun c p N hc=>by
       have h1:Qv w (fun b=>G b/\b<w.heap.size) c p N:=hc.mono fun b hb hl=>⟨hb,hl⟩;refine((h1.fresh HFW.out).upd hu fun b hb _ hU=>?_).mono fun b hb _=>hb.1;have:=HH.out;(rcases hU with hU|hU|⟨hU,_⟩<;>omega)
     exact⟨key _ _ _ HC.out.1,key _ _ _ HC.out.2.1,key _ _ _ HC.out.2.2⟩)
   by_cases hlast:i+1=n
   . have HLB:=hd_ (show decide (i+1=n)=true from by simp;omega)
     (have heq:((i:Int) == (n:Int)-1)=true:=by simp;omega);gi_loopg [28] 3 (fun f vi wr=>∃k:Nat,k+f=3/\vi = .int .i64 k/\Upd (UW Wb w.heap.size H (H+1+1)) Wb wr/\Blk wr H 96 (J6 g0 g1 g2 (Yp T true x (S,B) k).1)/\Qd wr (fun k=>w.heap.size<=k) (H+1+1) (Yp T true x (S,B) k).2)
     case atStart=>exact⟨0,rfl,rfl,Upd.refl _ _,by simpa [Yp,Q0b]using HBH.out,HWR.out⟩
     case round =>
       obtain⟨k,hkf,rfl,hu,hb,hwr⟩:=hrel;have bS2:=UW.blk hu HBS2.out (by decide) (by omega) (by omega);have bP2:=UW.blk hu HBP.out (by decide) (by omega) (by omega);have bX2:=UW.blk hu HBX.out (by decide) hXH.1 hXH.2;have bY2:=UW.blk hu HY.out (by decide) hYH.1 hYH.2;have x0:=bX2.cell 0;have x2:=bX2.cell 2;have x4:=bX2.cell 4;have y0:=bY2.cell 0;have y1:=bY2.cell 1;have y2:=bY2.cell 2;have s0:=bS2.cell 0;have p0:=bP2.cell 0;have t0:=hb.cell 0;have t1:=hb.cell 1;have t2:=hb.cell 2;have t3:=hb.cell 3;have t4:=hb.cell 4;have t5:=hb.cell 5;simp [Yo,J6]at x0 x2 x4 y0 y1 y2 s0 p0 t0 t1 t2 t3 t4 t5;have HX:=hd_ bX2;have HU:=hd_ hu;have HB:=hd_ hb;have HWQ:=hd_ hwr;have HKF:=hd_ hkf;clear hu hb hwr bS2 bP2 bX2 bY2;(have h4:k=0\/k=1\/k=2\/k=3:=by omega);rcases h4 with rfl|rfl|rfl|rfl
       . obtain rfl:gk=3:=by omega
         gi_upto_region 10 with fail;have q0:=cell_regrown t2;have q1:=cell_regrown x2
         have cE:∀m dd os,CallsIn Fence.wide m Tryz.prog 78 #[.pointer (some ⟨g1,0,none⟩),.int .i64 (x.cO:Nat)] (grow (redrawn wr dd) os) fun e w''=>e = .returned (.tuple #[.int .i64 (Zi T.pO T.NO x.cO:Nat),.int .i64 0])/\∃pp:Regrown,w''=grow (redrawn wr pp.d) pp.os:=fun m dd os =>
           CallsIn.regrown_of (callsIn_wide.2 ((Xu G g1 T.pO x.cO T.NO _ ((HCW.out _ HU.out).2.1.fresh (Upd.of_below (below_regrown wr dd os))) HCV.out.2.1.1 HCV.out.2.1.2).mono fun e w' h=>⟨h.1,by rw [h.2];exact Below.refl _ _⟩))
         refine Km (C:=fun w'=>∃pp:Regrown,w'=grow (redrawn wr pp.d) pp.os) 13 12 rfl l hmo (by kernel_rfl) (by kernel_rfl) (by kernel_rfl) (fun _ _ _ _ h=>h) ⟨⟨wr.drawn+1,#[]⟩,by rw [grow_empty];rfl⟩ ?_;simp only [List.take_succ_cons,List.take_zero,List.drop_succ_cons,List.drop_zero];(repeat(refine wpQuietIn_step (fun _ _ _ _=>trivial) (fun K hK=>?_);go_simp;first|(refine hK _ ?_;clear hK K)|(apply Exists.intro;refine⟨fun _=>?_,hK _ ?_⟩;exact cE _ _ _;clear hK K)));refine wpQuietIn_nil ?_;intro _ hw';obtain⟨⟨dq,osq⟩,hw''⟩:=hw';subst hw'';have fq:Q0 wr (grow (redrawn wr dq) osq):=Upd.of_below (below_regrown wr dq osq);generalize grow (redrawn wr dq) osq=Wq at *;have bq:=HB.out.fresh fq;have z0:=bq.cell 3;have z1:=bq.frozen 3;simp [J6]at z0;clear q0 q1 cE;gi_wp2;gi_roundg 2
         case measure=>omega
         case rel=>exact⟨1,rfl,by go_num,UW.set (UW.fresh HU.out fq) _ _,by simpa [J6,Yp,Q0b]using bq.set_ 3 (.int .i64 (Zi T.pO T.NO x.cO:Nat)),by simpa [Yp]using(HWQ.out.upd fq (fun _ _ h=>h.elim)).set bq (by decide) (by omega) 3 _⟩
       . obtain rfl:gk=2:=by omega
         gi_upto_region 10 with fail;have q0:=cell_regrown t4;have q1:=cell_regrown x4
         have cE:∀m dd os,CallsIn Fence.wide m Tryz.prog 78 #[.pointer (some ⟨g2,0,none⟩),.int .i64 (x.cM:Nat)] (grow (redrawn wr dd) os) fun e w''=>e = .returned (.tuple #[.int .i64 (Zi T.pM T.NM x.cM:Nat),.int .i64 0])/\∃pp:Regrown,w''=grow (redrawn wr pp.d) pp.os:=fun m dd os =>
           CallsIn.regrown_of (callsIn_wide.2 ((Xu G g2 T.pM x.cM T.NM _ ((HCW.out _ HU.out).2.2.fresh (Upd.of_below (below_regrown wr dd os))) HCV.out.2.2.1 HCV.out.2.2.2).mono fun e w' h=>⟨h.1,by rw [h.2];exact Below.refl _ _⟩))
         refine Km (C:=fun w'=>∃pp:Regrown,w'=grow (redrawn wr pp.d) pp.os) 13 12 rfl l hmo (by kernel_rfl) (by kernel_rfl) (by kernel_rfl) (fun _ _ _ _ h=>h) ⟨⟨wr.drawn+1,#[]⟩,by rw [grow_empty];rfl⟩ ?_;simp only [List.take_succ_cons,List.take_zero,List.drop_succ_cons,List.drop_zero];(repeat(refine wpQuietIn_step (fun _ _ _ _=>trivial) (fun K hK=>?_);go_simp;first|(refine hK _ ?_;clear hK K)|(apply Exists.intro;refine⟨fun _=>?_,hK _ ?_⟩;exact cE _ _ _;clear hK K)));refine wpQuietIn_nil ?_;intro _ hw';obtain⟨⟨dq,osq⟩,hw''⟩:=hw';subst hw'';have fq:Q0 wr (grow (redrawn wr dq) osq):=Upd.of_below (below_regrown wr dq osq);generalize grow (redrawn wr dq) osq=Wq at *;have bq:=HB.out.fresh fq;have z0:=bq.cell 5;have z1:=bq.frozen 5;simp [J6]at z0;clear q0 q1 cE;gi_wp2;gi_roundg 1
         case measure=>omega
         case rel=>exact⟨2,rfl,by go_num,UW.set (UW.fresh HU.out fq) _ _,by simpa [J6,Yp,Q0b]using bq.set_ 5 (.int .i64 (Zi T.pM T.NM x.cM:Nat)),by simpa [Yp]using(HWQ.out.upd fq (fun _ _ h=>h.elim)).set bq (by decide) (by omega) 5 _⟩
       . obtain rfl:gk=1:=by omega
         gi_upto_region 10 with fail;have q0:=cell_regrown t0;have q1:=cell_regrown x0
         have cE:∀m dd os,CallsIn Fence.wide m Tryz.prog 78 #[.pointer (some ⟨g0,0,none⟩),.int .i64 (x.cL:Nat)] (grow (redrawn wr dd) os) fun e w''=>e = .returned (.tuple #[.int .i64 (Zi T.pL T.NL x.cL:Nat),.int .i64 0])/\∃pp:Regrown,w''=grow (redrawn wr pp.d) pp.os:=fun m dd os =>
           CallsIn.regrown_of (callsIn_wide.2 ((Xu G g0 T.pL x.cL T.NL _ ((HCW.out _ HU.out).1.fresh (Upd.of_below (below_regrown wr dd os))) HCV.out.1.1 HCV.out.1.2).mono fun e w' h=>⟨h.1,by rw [h.2];exact Below.refl _ _⟩))
         refine Km (C:=fun w'=>∃pp:Regrown,w'=grow (redrawn wr pp.d) pp.os) 13 12 rfl l hmo (by kernel_rfl) (by kernel_rfl) (by kernel_rfl) (fun _ _ _ _ h=>h) ⟨⟨wr.drawn+1,#[]⟩,by rw [grow_empty];rfl⟩ ?_;simp only [List.take_succ_cons,List.take_zero,List.drop_succ_cons,List.drop_zero];(repeat(refine wpQuietIn_step (fun _ _ _ _=>trivial) (fun K hK=>?_);go_simp;first|(refine hK _ ?_;clear hK K)|(apply Exists.intro;refine⟨fun _=>?_,hK _ ?_⟩;exact cE _ _ _;clear hK K)));refine wpQuietIn_nil ?_;intro _ hw';obtain⟨⟨dq,osq⟩,hw''⟩:=hw';subst hw'';have fq:Q0 wr (grow (redrawn wr dq) osq):=Upd.of_below (below_regrown wr dq osq);generalize grow (redrawn wr dq) osq=Wq at *;have bq:=HB.out.fresh fq;have z0:=bq.cell 1;have z1:=bq.frozen 1;simp [J6]at z0;clear q0 q1 cE;gi_wp2;gi_roundg 0
         case measure=>omega
         case rel=>exact⟨3,rfl,by go_num,UW.set (UW.fresh HU.out fq) _ _,by simpa [J6,Yp,Q0b]using bq.set_ 1 (.int .i64 (Zi T.pL T.NL x.cL:Nat)),by simpa [Yp]using(HWQ.out.upd fq (fun _ _ h=>h.elim)).set bq (by decide) (by omega) 1 _⟩
       (obtain rfl:gk=0:=by omega);gi_upto_region 16 with fail;obtain⟨Y2,hY2⟩:=nm_ (wr.heap.size);obtain⟨Wc,hWc⟩:=nm_ (wr.alloc (.cells #[.int .i64 0,.int .i64 2,.int .i64 1] 112));simp only [<-hY2,<-hWc];(have fc:Q0 wr Wc:=by rw [hWc];exact(Upd.refl _ _).alloc _);(have bY2':Blk Wc Y2 112 #[.int .i64 0,.int .i64 2,.int .i64 1]:=by rw [hWc];exact Q1 hY2 _ _);have HU2:=hd_ (UW.fresh HU.out fc);have HB2:=hd_ (HB.out.fresh fc);have HWQ2:=hd_ (HWQ.out.upd fc (fun _ _ h=>h.elim));have HBY2:=hd_ bY2';obtain⟨S3,B3,hS3⟩:∃S3 B3,Yp T true x (S,B) 3=(S3,B3):=⟨_,_,rfl⟩;have HLL:=HLB.out;have HS3:=hd_ (hS3);have HB3L:=hd_ (show B3.length<=6600027 by have h1:=(Vh HT.out HCV.out (r:=(S,B)) HSO.out true 3).2;rw [hS3]at h1;have h2:=HBL.out;simp only at h1;omega);simp only [hS3]at HB2 HWQ2;have HXK:=hd_ (show x.cL<44/\x.cO<28/\x.cM<44 from⟨(QD HXO.out).1,(QD HXO.out).2.2.1,(QD HXO.out).2.1⟩);have HY2g:=hd_ (show ¬Y2=H+1+1 from fun h=>by have:=HWQ.out.lt.1;omega);clear x0 x2 x4 y0 y1 y2 s0 p0 t0 t1 t2 t3 t4 t5 HLL hS3 fc bY2' hY2 hWc;clear HU HB HWQ HKF;gi_loopg [82] 3 (fun f vi wr=>∃k:Nat,k+f=3/\vi = .int .i64 k/\Upd (UW Wb w.heap.size H (H+1+1)) Wb wr/\Blk wr H 96 (J6 g0 g1 g2 S3)/\Qd wr (fun k=>w.heap.size<=k) (H+1+1) (B3++Jf x k)/\Blk wr Y2 112 #[.int .i64 0,.int .i64 2,.int .i64 1])
       case atStart=>exact⟨0,rfl,rfl,HU2.out,HB2.out,by simpa [Jf]using HWQ2.out,HBY2.out⟩
       case round =>
         obtain⟨k,hkf,rfl,hu,hb,hwr,hy⟩:=hrel;have bP2:=UW.blk hu HBP.out (by decide) (by omega) (by omega);have bX2:=UW.blk hu HBX.out (by decide) hXH.1 hXH.2;have bQ2:=UW.blk hu HBQ.out (by decide) (by omega) (by omega);have HX2:=hd_ bX2;have HP2:=hd_ bP2;have x0:=bX2.cell 0;have x1:=bX2.cell 1;have x2:=bX2.cell 2;have x3:=bX2.cell 3;have x4:=bX2.cell 4;have x5:=bX2.cell 5;have p0:=bP2.cell 0;have y0:=hy.cell 0;have y1:=hy.cell 1;have y2:=hy.cell 2;have e1:=bQ2.cell 1;have e4:=bQ2.cell 4;have e7:=bQ2.cell 7;simp [Yo,ZA]at x0 x1 x2 x3 x4 x5 p0 y0 y1 y2 e1 e4 e7;have HU:=hd_ hu;have HB:=hd_ hb;have HWQ:=hd_ hwr;have HKF:=hd_ hkf;have HBY:=hd_ hy;clear hu hb hwr hy bP2 bX2 bQ2 HU2 HB2 HWQ2 HBY2;(have h4:k=0\/k=1\/k=2\/k=3:=by omega);rcases h4 with rfl|rfl|rfl|rfl
         . obtain rfl:gk=3:=by omega
           gi_upto_region 18 with fail;have q0:=cell_regrown x0;have q1:=cell_regrown e1
           have cE:∀m dd os,CallsIn Fence.wide m Tryz.prog 113 #[.int .i64 (x.cL:Nat)] (grow (redrawn wr dd) os) fun e w''=>e = .returned (.tuple #[.int .i64 ((Y4 x.cL):Nat),.int .i64 0])/\∃pp:Regrown,w''=grow (redrawn wr pp.d) pp.os:=fun m dd os =>
             CallsIn.regrown_of (callsIn_wide.2 ((Z9 x.cL _ HXK.out.1).mono fun e w' h=>⟨h.1,h.2.below⟩))
           refine Jc (C:=fun w'=>∃pp:Regrown,w'=grow (redrawn wr pp.d) pp.os) rfl l hmo (by kernel_rfl) (by kernel_rfl) ⟨⟨wr.drawn+1,#[]⟩,by rw [grow_empty];rfl⟩ ?_;(repeat(refine wpQuietIn_step (fun _ _ _ _=>trivial) (fun K hK=>?_);go_simp;first|(refine hK _ ?_;clear hK K)|(apply Exists.intro;refine⟨fun _=>?_,hK _ ?_⟩;exact cE _ _ _;clear hK K)));refine wpQuietIn_nil ?_;intro _ hw';obtain⟨⟨dq,osq⟩,hw''⟩:=hw';subst hw'';have fq:Q0 wr (grow (redrawn wr dq) osq):=Upd.of_below (below_regrown wr dq osq);generalize grow (redrawn wr dq) osq=Wq at *;have r1:=(HX2.out.fresh fq).cell 1;have p1:=(HP2.out.fresh fq).cell 0;simp [Yo]at r1 p1;clear q0 q1 cE;gi_upto_region 19 with fail;have q1:=cell_regrown r1;have q2:=cell_regrown p1;refine Jl (C:=fun w'=>∃pp:Regrown,w'=grow (redrawn Wq pp.d) pp.os) 6 rfl l hmo (by kernel_rfl) (by kernel_rfl) ⟨⟨Wq.drawn+1,#[]⟩,by rw [grow_empty];rfl⟩ ?_;simp only [List.take_succ_cons,List.take_zero,List.drop_succ_cons,List.drop_zero];(repeat(refine wpQuietIn_step (fun _ _ _ _=>trivial) (fun K hK=>?_);go_simp;refine hK _ ?_;clear hK K));refine wpQuietIn_nil ?_;intro _ hw';obtain⟨⟨dr,osr⟩,hw''⟩:=hw';subst hw'';have fr:Q0 wr (grow (redrawn Wq dr) osr):=fq.trans' (Upd.of_below (below_regrown Wq dr osr));generalize grow (redrawn Wq dr) osr=Wr at *;clear q1 q2 r1 p1;have HPUT:=ZO w.heap.size (H+1+1) x.rL ((Y4 x.cL)) (B3++Jf x 0) Wr (HWQ.out.upd fr (fun _ _ h=>h.elim)) (by have:=HU.out.size;have:=fr.size;have:=HFW.out.size;omega) (by have:=HXK.out;have:=J5 this.1;have:=J5 HXK.out.2.2;omega) (by first|exact(QD HXO.out).2.2.2.1|exact(QD HXO.out).2.2.2.2.1|exact(QD HXO.out).2.2.2.2.2.1) (by have h1:=KC HXO.out 0;have h2:=HB3L.out;rw [List.length_append];omega);gi_wp2;refine⟨trivial,callsIn_wide.2 (HPUT.mono ?_)⟩;rintro e w5 ⟨rfl,u5,h5⟩;have b5:=(HB.out.fresh fr).upd u5 (fun hT=>by rcases hT with hT|⟨_,cs,hT⟩;omega;exact(HB.out.fresh fr).ne_ hT (by decide) rfl);have y5:=(HBY.out.fresh fr).upd u5 (fun hT=>by rcases hT with hT|⟨_,cs,hT⟩;exact HY2g.out hT;exact(HBY.out.fresh fr).ne_ hT (by decide) rfl);(have h6:Qd w5 (fun k=>w.heap.size<=k) (H+1+1) (B3++Jf x 1):=by simpa [Jf]using h5);have uu:=UW.put (UW.fresh HU.out fr) u5;have HR5:=hd_ (And.intro uu (And.intro b5 (And.intro h6 y5)));clear u5 h5 b5 y5 h6 uu HPUT;gi_wp2;gi_roundg 2
           case measure=>omega
           case rel=>exact⟨1,rfl,by go_num,HR5.out.1,HR5.out.2.1,HR5.out.2.2.1,HR5.out.2.2.2⟩
         . obtain rfl:gk=2:=by omega
           gi_upto_region 18 with fail;have q0:=cell_regrown x4;have q1:=cell_regrown e7
           have cE:∀m dd os,CallsIn Fence.wide m Tryz.prog 113 #[.int .i64 (x.cM:Nat)] (grow (redrawn wr dd) os) fun e w''=>e = .returned (.tuple #[.int .i64 ((Y4 x.cM):Nat),.int .i64 0])/\∃pp:Regrown,w''=grow (redrawn wr pp.d) pp.os:=fun m dd os =>
             CallsIn.regrown_of (callsIn_wide.2 ((Z9 x.cM _ HXK.out.2.2).mono fun e w' h=>⟨h.1,h.2.below⟩))
           refine Jc (C:=fun w'=>∃pp:Regrown,w'=grow (redrawn wr pp.d) pp.os) rfl l hmo (by kernel_rfl) (by kernel_rfl) ⟨⟨wr.drawn+1,#[]⟩,by rw [grow_empty];rfl⟩ ?_;(repeat(refine wpQuietIn_step (fun _ _ _ _=>trivial) (fun K hK=>?_);go_simp;first|(refine hK _ ?_;clear hK K)|(apply Exists.intro;refine⟨fun _=>?_,hK _ ?_⟩;exact cE _ _ _;clear hK K)));refine wpQuietIn_nil ?_;intro _ hw';obtain⟨⟨dq,osq⟩,hw''⟩:=hw';subst hw'';have fq:Q0 wr (grow (redrawn wr dq) osq):=Upd.of_below (below_regrown wr dq osq);generalize grow (redrawn wr dq) osq=Wq at *;have r1:=(HX2.out.fresh fq).cell 5;have p1:=(HP2.out.fresh fq).cell 0;simp [Yo]at r1 p1;clear q0 q1 cE;gi_upto_region 19 with fail;have q1:=cell_regrown r1;have q2:=cell_regrown p1;refine Jl (C:=fun w'=>∃pp:Regrown,w'=grow (redrawn Wq pp.d) pp.os) 6 rfl l hmo (by kernel_rfl) (by kernel_rfl) ⟨⟨Wq.drawn+1,#[]⟩,by rw [grow_empty];rfl⟩ ?_;simp only [List.take_succ_cons,List.take_zero,List.drop_succ_cons,List.drop_zero];(repeat(refine wpQuietIn_step (fun _ _ _ _=>trivial) (fun K hK=>?_);go_simp;refine hK _ ?_;clear hK K));refine wpQuietIn_nil ?_;intro _ hw';obtain⟨⟨dr,osr⟩,hw''⟩:=hw';subst hw'';have fr:Q0 wr (grow (redrawn Wq dr) osr):=fq.trans' (Upd.of_below (below_regrown Wq dr osr));generalize grow (redrawn Wq dr) osr=Wr at *;clear q1 q2 r1 p1;have HPUT:=ZO w.heap.size (H+1+1) x.rM ((Y4 x.cM)) (B3++Jf x 1) Wr (HWQ.out.upd fr (fun _ _ h=>h.elim)) (by have:=HU.out.size;have:=fr.size;have:=HFW.out.size;omega) (by have:=HXK.out;have:=J5 this.1;have:=J5 HXK.out.2.2;omega) (by first|exact(QD HXO.out).2.2.2.1|exact(QD HXO.out).2.2.2.2.1|exact(QD HXO.out).2.2.2.2.2.1) (by have h1:=KC HXO.out 1;have h2:=HB3L.out;rw [List.length_append];omega);gi_wp2;refine⟨trivial,callsIn_wide.2 (HPUT.mono ?_)⟩;rintro e w5 ⟨rfl,u5,h5⟩;have b5:=(HB.out.fresh fr).upd u5 (fun hT=>by rcases hT with hT|⟨_,cs,hT⟩;omega;exact(HB.out.fresh fr).ne_ hT (by decide) rfl);have y5:=(HBY.out.fresh fr).upd u5 (fun hT=>by rcases hT with hT|⟨_,cs,hT⟩;exact HY2g.out hT;exact(HBY.out.fresh fr).ne_ hT (by decide) rfl);(have h6:Qd w5 (fun k=>w.heap.size<=k) (H+1+1) (B3++Jf x 2):=by simpa [Jf]using h5);have uu:=UW.put (UW.fresh HU.out fr) u5;have HR5:=hd_ (And.intro uu (And.intro b5 (And.intro h6 y5)));clear u5 h5 b5 y5 h6 uu HPUT;gi_wp2;gi_roundg 1
           case measure=>omega
           case rel=>exact⟨2,rfl,by go_num,HR5.out.1,HR5.out.2.1,HR5.out.2.2.1,HR5.out.2.2.2⟩
         . obtain rfl:gk=1:=by omega
           gi_upto_region 18 with fail;have q0:=cell_regrown x2;have q1:=cell_regrown e4
           have cE:∀m dd os,CallsIn Fence.wide m Tryz.prog 116 #[.int .i64 (x.cO:Nat)] (grow (redrawn wr dd) os) fun e w''=>e = .returned (.tuple #[.int .i64 (x.cO:Nat),.int .i64 0])/\∃pp:Regrown,w''=grow (redrawn wr pp.d) pp.os:=fun m dd os =>
             CallsIn.regrown_of (callsIn_wide.2 ((Kz x.cO _ HXK.out.2.1).mono fun e w' h=>⟨h.1,h.2.below⟩))
           refine Jc (C:=fun w'=>∃pp:Regrown,w'=grow (redrawn wr pp.d) pp.os) rfl l hmo (by kernel_rfl) (by kernel_rfl) ⟨⟨wr.drawn+1,#[]⟩,by rw [grow_empty];rfl⟩ ?_;(repeat(refine wpQuietIn_step (fun _ _ _ _=>trivial) (fun K hK=>?_);go_simp;first|(refine hK _ ?_;clear hK K)|(apply Exists.intro;refine⟨fun _=>?_,hK _ ?_⟩;exact cE _ _ _;clear hK K)));refine wpQuietIn_nil ?_;intro _ hw';obtain⟨⟨dq,osq⟩,hw''⟩:=hw';subst hw'';have fq:Q0 wr (grow (redrawn wr dq) osq):=Upd.of_below (below_regrown wr dq osq);generalize grow (redrawn wr dq) osq=Wq at *;have r1:=(HX2.out.fresh fq).cell 3;have p1:=(HP2.out.fresh fq).cell 0;simp [Yo]at r1 p1;clear q0 q1 cE;gi_upto_region 19 with fail;have q1:=cell_regrown r1;have q2:=cell_regrown p1;refine Jl (C:=fun w'=>∃pp:Regrown,w'=grow (redrawn Wq pp.d) pp.os) 6 rfl l hmo (by kernel_rfl) (by kernel_rfl) ⟨⟨Wq.drawn+1,#[]⟩,by rw [grow_empty];rfl⟩ ?_;simp only [List.take_succ_cons,List.take_zero,List.drop_succ_cons,List.drop_zero];(repeat(refine wpQuietIn_step (fun _ _ _ _=>trivial) (fun K hK=>?_);go_simp;refine hK _ ?_;clear hK K));refine wpQuietIn_nil ?_;intro _ hw';obtain⟨⟨dr,osr⟩,hw''⟩:=hw';subst hw'';have fr:Q0 wr (grow (redrawn Wq dr) osr):=fq.trans' (Upd.of_below (below_regrown Wq dr osr));generalize grow (redrawn Wq dr) osr=Wr at *;clear q1 q2 r1 p1;have HPUT:=ZO w.heap.size (H+1+1) x.rO (x.cO) (B3++Jf x 2) Wr (HWQ.out.upd fr (fun _ _ h=>h.elim)) (by have:=HU.out.size;have:=fr.size;have:=HFW.out.size;omega) (by have:=HXK.out;have:=J5 this.1;have:=J5 HXK.out.2.2;omega) (by first|exact(QD HXO.out).2.2.2.1|exact(QD HXO.out).2.2.2.2.1|exact(QD HXO.out).2.2.2.2.2.1) (by have h1:=KC HXO.out 2;have h2:=HB3L.out;rw [List.length_append];omega);gi_wp2;refine⟨trivial,callsIn_wide.2 (HPUT.mono ?_)⟩;rintro e w5 ⟨rfl,u5,h5⟩;have b5:=(HB.out.fresh fr).upd u5 (fun hT=>by rcases hT with hT|⟨_,cs,hT⟩;omega;exact(HB.out.fresh fr).ne_ hT (by decide) rfl);have y5:=(HBY.out.fresh fr).upd u5 (fun hT=>by rcases hT with hT|⟨_,cs,hT⟩;exact HY2g.out hT;exact(HBY.out.fresh fr).ne_ hT (by decide) rfl);(have h6:Qd w5 (fun k=>w.heap.size<=k) (H+1+1) (B3++Jf x 3):=by simpa [Jf]using h5);have uu:=UW.put (UW.fresh HU.out fr) u5;have HR5:=hd_ (And.intro uu (And.intro b5 (And.intro h6 y5)));clear u5 h5 b5 y5 h6 uu HPUT;gi_wp2;gi_roundg 0
           case measure=>omega
           case rel=>exact⟨3,rfl,by go_num,HR5.out.1,HR5.out.2.1,HR5.out.2.2.1,HR5.out.2.2.2⟩
         (obtain rfl:gk=0:=by omega);gi_wp2;have hsp:=HSP.out;have hz4:=HZ4.out;have hhp:=HHP.out;have hhh:=HH.out;(have hback:∀k t cs,k<W.heap.size->Blk Wb k t cs->Blk W k t cs:=fun k t cs hk hb=>by unfold Blk at hb ⊢;rw [<-HWB.out.block k hk (fun h=>h)];exact hb);(have hWs:w4.heap.size<=W.heap.size:=by have h1:=HBSlt.out;omega);have uW:Upd (UW Wb w.heap.size H (H+1+1)) W wr:=(HWB.out.mono (T:=UW Wb w.heap.size H (H+1+1)) fun _ _ h=>h.elim).trans HU.out fun b hb h=>h;refine⟨Zb _ uW fun k hk hU=>?_,YF.upd uW fun k hk=>⟨by have:=HKD.out k hk;omega,fun hU=>?_⟩,?_⟩
         . rcases hU with rfl|rfl|⟨_,cs,hc⟩
           . exact⟨_,_,hback _ _ _ hk HBH.out⟩
           . obtain⟨cs,hc⟩:=HWR.out.lt.2
             exact⟨_,_,hback _ _ _ hk hc⟩
           exact⟨_,_,hback _ _ _ hk hc⟩
         . rcases(HKB.out k).1 hk with ⟨_,h⟩|rfl
           . rcases hU with hU|hU|⟨hU,_⟩<;>omega
           rcases hU with hU|hU|⟨_,cs,hU⟩
           . omega
           . omega
           exact HBSb.out.ne_ hU (by decide) rfl
         have hfin:=HFIN.out wr;rw [HLB.out,HS3.out]at hfin;exact hfin (HFW.out.trans HU.out fun b hb hU=>by rcases hU with hU|hU|⟨hU,_⟩<;>omega) (UW.blk HU.out HBSb.out (by decide) (by omega) (by omega)) HB.out (UW.blk HU.out HBS2.out (by decide) (by omega) (by omega)) (UW.blk HU.out HBP.out (by decide) (by omega) (by omega)) (UW.blk HU.out HBQ.out (by decide) (by omega) (by omega)) HWQ.out
   have HLB:=hd_ (show decide (i+1=n)=false from by simp;omega);(have heq:((i:Int) == (n:Int)-1)=false:=by simp;omega);gi_loopg [28] 3 (fun f vi wr=>∃k:Nat,k+f=3/\vi = .int .i64 k/\Upd (UW Wb w.heap.size H (H+1+1)) Wb wr/\Blk wr H 96 (J6 g0 g1 g2 (Yp T false x (S,B) k).1)/\Qd wr (fun k=>w.heap.size<=k) (H+1+1) (Yp T false x (S,B) k).2)
   case atStart=>exact⟨0,rfl,rfl,Upd.refl _ _,by simpa [Yp,Kx]using HBH.out,by simpa [Yp,Q0c]using HWR.out⟩
   case round =>
     obtain⟨k,hkf,rfl,hu,hb,hwr⟩:=hrel;have bS2:=UW.blk hu HBS2.out (by decide) (by omega) (by omega);have bP2:=UW.blk hu HBP.out (by decide) (by omega) (by omega);have bX2:=UW.blk hu HBX.out (by decide) hXH.1 hXH.2;have bY2:=UW.blk hu HY.out (by decide) hYH.1 hYH.2;have x0:=bX2.cell 0;have x2:=bX2.cell 2;have x4:=bX2.cell 4;have y0:=bY2.cell 0;have y1:=bY2.cell 1;have y2:=bY2.cell 2;have s0:=bS2.cell 0;have p0:=bP2.cell 0;have t0:=hb.cell 0;have t1:=hb.cell 1;have t2:=hb.cell 2;have t3:=hb.cell 3;have t4:=hb.cell 4;have t5:=hb.cell 5;simp [Yo,J6]at x0 x2 x4 y0 y1 y2 s0 p0 t0 t1 t2 t3 t4 t5;have HX:=hd_ bX2;have HU:=hd_ hu;have HB:=hd_ hb;have HWQ:=hd_ hwr;have HKF:=hd_ hkf;clear hu hb hwr bS2 bP2 bX2 bY2;(have h4:k=0\/k=1\/k=2\/k=3:=by omega);rcases h4 with rfl|rfl|rfl|rfl
     . obtain rfl:gk=3:=by omega
       simp [Yp,Kx]at t3;gi_upto_region 11 with fail;have hst:S.o<2^T.pO:=HSO.out.2.1;clear t0 t1 t2 t3 t4 t5 x0 x2 x4;refine K0 16 15 (obj:=.cells #[.int .i64 0,.int .u64 0,.int .i64 0] 172 (0,0)) rfl rfl l hmo (by kernel_rfl) (by kernel_rfl) (by kernel_rfl) (fun _ _ _ _ h=>h) ?hal (fun k=>([.int .i64 1,.pointer (some ⟨H,2,none⟩),.pointer (some ⟨H,2,none⟩),.pointer (some ⟨g1,0,none⟩),.int .i64 1,.pointer (some ⟨H,2,none⟩),.pointer (some ⟨H,3,none⟩),.int .i64 (S.o:Nat),.int .i64 1,.pointer (some ⟨X,2,none⟩),.pointer (some ⟨X,2,none⟩),.int .i64 (x.cO:Nat),.tuple #[.agg #[.int .i64 ((Qq T.pO T.NO x.cO S.o):Nat),.int .u64 ((QG T.pO T.NO x.cO S.o):Nat),.int .i64 ((Qs T.pO T.NO x.cO S.o):Nat)],.int .i64 0],.tuple #[.agg #[.int .i64 ((Qq T.pO T.NO x.cO S.o):Nat),.int .u64 ((QG T.pO T.NO x.cO S.o):Nat),.int .i64 ((Qs T.pO T.NO x.cO S.o):Nat)],.int .i64 0],.agg #[.int .i64 ((Qq T.pO T.NO x.cO S.o):Nat),.int .u64 ((QG T.pO T.NO x.cO S.o):Nat),.int .i64 ((Qs T.pO T.NO x.cO S.o):Nat)],.int .i64 0]:List Value).getD k undef) ?hVT
       case hal =>
         intro a w;refine⟨rfl,fun f h=>trivial,?_⟩;rfl
       case hVT =>
        apply Exists.intro;refine And.intro ?_ ?_
        . intro w1 hw1
          have HCP:=hd_ ((HCW.out _ (UW.fresh HU.out hw1)).2.1);have b1:=HB.out.fresh hw1;have b2:=HX.out.fresh hw1;have q0:=cell_regrown (show w1.cell? ⟨H,2,none⟩=some (.pointer (some ⟨g1,0,none⟩))from by have:=b1.cell 2;simpa [J6]using this);have q1:=cell_regrown (show w1.cell? ⟨H,3,none⟩=some (.int .i64 (S.o:Nat))from by have:=b1.cell 3;simpa [J6,Yp,Kx]using this);have q2:=cell_regrown (show w1.cell? ⟨X,2,none⟩=some (.int .i64 (x.cO:Nat))from by have:=b2.cell 2;simpa [Yo]using this)
          have cE:∀m dd os,CallsIn Fence.wide m Tryz.prog 79 #[.pointer (some ⟨g1,0,none⟩),.int .i64 (S.o:Nat),.int .i64 (x.cO:Nat)] (grow (redrawn w1 dd) os) fun e w''=>e = .returned (.tuple #[.agg #[.int .i64 ((Qq T.pO T.NO x.cO S.o):Nat),.int .u64 ((QG T.pO T.NO x.cO S.o):Nat),.int .i64 ((Qs T.pO T.NO x.cO S.o):Nat)],.int .i64 0])/\∃pp:Regrown,w''=grow (redrawn w1 pp.d) pp.os:=fun m dd os =>
            CallsIn.regrown_of (callsIn_wide.2 ((Q1e G g1 T.pO x.cO S.o T.NO _ (HCP.out.fresh (Upd.of_below (below_regrown w1 dd os))) hTw.2.1 HCV.out.2.1.1 HCV.out.2.1.2 hst).mono fun e w' h=>⟨h.1,h.2.below⟩))
          clear b1 b2;show wpV _ _ _ _ (fun w'=>∃pp:Regrown,w'=grow (redrawn w1 pp.d) pp.os) _ _ _ _ _;simp only [List.take_succ_cons,List.take_zero];refine Qg (.int .i64 1) rfl rfl (by simp) (fun _ _ _ _=>trivial) rfl ?_;apply Exists.intro;refine⟨fun K hK=>?_,?_,?_⟩
          . go_simp
            exact hK _ rfl
          . rfl
          refine Qg (.pointer (some ⟨H,2,none⟩)) rfl rfl (by simp) (fun _ _ _ _=>trivial) rfl ?_;apply Exists.intro;refine⟨fun K hK=>?_,?_,?_⟩
          . go_simp
            exact hK _ rfl
          . rfl
          refine Qg (.pointer (some ⟨H,2,none⟩)) rfl rfl (by simp) (fun _ _ _ _=>trivial) rfl ?_;apply Exists.intro;refine⟨fun K hK=>?_,?_,?_⟩
          . go_simp
            exact hK _ rfl
          . rfl
          refine Qg (.pointer (some ⟨g1,0,none⟩)) rfl rfl (by simp) (fun _ _ _ _=>trivial) rfl ?_;apply Exists.intro;refine⟨fun K hK=>?_,?_,?_⟩
          . go_simp
            exact hK _ rfl
          . rfl
          refine Qg (.int .i64 1) rfl rfl (by simp) (fun _ _ _ _=>trivial) rfl ?_;apply Exists.intro;refine⟨fun K hK=>?_,?_,?_⟩
          . go_simp
            exact hK _ rfl
          . rfl
          refine Qg (.pointer (some ⟨H,2,none⟩)) rfl rfl (by simp) (fun _ _ _ _=>trivial) rfl ?_;apply Exists.intro;refine⟨fun K hK=>?_,?_,?_⟩
          . go_simp
            exact hK _ rfl
          . rfl
          refine Qg (.pointer (some ⟨H,3,none⟩)) rfl rfl (by simp) (fun _ _ _ _=>trivial) rfl ?_;apply Exists.intro;refine⟨fun K hK=>?_,?_,?_⟩
          . go_simp
            exact hK _ rfl
          . rfl
          refine Qg (.int .i64 (S.o:Nat)) rfl rfl (by simp) (fun _ _ _ _=>trivial) rfl ?_;apply Exists.intro;refine⟨fun K hK=>?_,?_,?_⟩
          . go_simp
            exact hK _ rfl
          . rfl
          refine Qg (.int .i64 1) rfl rfl (by simp) (fun _ _ _ _=>trivial) rfl ?_;apply Exists.intro;refine⟨fun K hK=>?_,?_,?_⟩
          . go_simp
            exact hK _ rfl
          . rfl
          refine Qg (.pointer (some ⟨X,2,none⟩)) rfl rfl (by simp) (fun _ _ _ _=>trivial) rfl ?_;apply Exists.intro;refine⟨fun K hK=>?_,?_,?_⟩
          . go_simp
            exact hK _ rfl
          . rfl
          refine Qg (.pointer (some ⟨X,2,none⟩)) rfl rfl (by simp) (fun _ _ _ _=>trivial) rfl ?_;apply Exists.intro;refine⟨fun K hK=>?_,?_,?_⟩
          . go_simp
            exact hK _ rfl
          . rfl
          refine Qg (.int .i64 (x.cO:Nat)) rfl rfl (by simp) (fun _ _ _ _=>trivial) rfl ?_;apply Exists.intro;refine⟨fun K hK=>?_,?_,?_⟩
          . go_simp
            exact hK _ rfl
          . rfl
          refine Qg (.tuple #[.agg #[.int .i64 ((Qq T.pO T.NO x.cO S.o):Nat),.int .u64 ((QG T.pO T.NO x.cO S.o):Nat),.int .i64 ((Qs T.pO T.NO x.cO S.o):Nat)],.int .i64 0]) rfl rfl (by simp) (fun _ _ _ _=>trivial) rfl ?_;apply Exists.intro;refine⟨fun K hK=>?_,?_,?_⟩
          . go_simp
            (apply Exists.intro;refine And.intro (fun _=>?_) ?_;exact cE _ _ _;exact hK _ rfl)
          . rfl
          refine Qg (.tuple #[.agg #[.int .i64 ((Qq T.pO T.NO x.cO S.o):Nat),.int .u64 ((QG T.pO T.NO x.cO S.o):Nat),.int .i64 ((Qs T.pO T.NO x.cO S.o):Nat)],.int .i64 0]) rfl rfl (by simp) (fun _ _ _ _=>trivial) rfl ?_;apply Exists.intro;refine⟨fun K hK=>?_,?_,?_⟩
          . go_simp
            exact hK _ rfl
          . rfl
          refine Qg (.agg #[.int .i64 ((Qq T.pO T.NO x.cO S.o):Nat),.int .u64 ((QG T.pO T.NO x.cO S.o):Nat),.int .i64 ((Qs T.pO T.NO x.cO S.o):Nat)]) rfl rfl (by simp) (fun _ _ _ _=>trivial) rfl ?_;apply Exists.intro;refine⟨fun K hK=>?_,?_,?_⟩
          . go_simp
            exact hK _ rfl
          . rfl
          refine Qg (.int .i64 0) rfl rfl (by simp) (fun _ _ _ _=>trivial) rfl ?_;apply Exists.intro;refine⟨fun K hK=>?_,?_,?_⟩
          . go_simp
            exact hK _ rfl
          . rfl
          exact Q1H rfl
        intro w1 Z hw1 hZ hZle;have bZ:Blk w1 Z 172 #[.int .i64 0,.int .u64 0,.int .i64 0]:=hZ;have z0:=bZ.cell 0;have z1:=bZ.cell 1;have z2:=bZ.cell 2;have i0:=bZ.frozen 0;have i1:=bZ.frozen 1;have i2:=bZ.frozen 2;simp at z0 z1 z2;have BZ:=hd_ bZ;have HW1:=hd_ hw1;have HZL:=hd_ hZle;clear bZ hw1 hZ hZle;simp only [List.drop_succ_cons,List.drop_zero];gi_upto_region 12 with fail;obtain⟨w2,hw2⟩:=nm_ (((w1.setCell ⟨Z,0,none⟩ (.int .i64 ((Qq T.pO T.NO x.cO S.o):Nat))).setCell ⟨Z,1,none⟩ (.int .u64 ((QG T.pO T.NO x.cO S.o):Nat))).setCell ⟨Z,2,none⟩ (.int .i64 ((Qs T.pO T.NO x.cO S.o):Nat)));simp only [<-hw2];have hHw:=HB.out.lt;have hgw:=HWQ.out.lt.1;have hZle:=HZL.out;have hWbw:=HU.out.size
        have u2:Upd (UW Wb w.heap.size H (H+1+1)) Wb w2:=by
          rw [hw2];exact(((UW.fresh HU.out HW1.out).setCell (p:=⟨Z,0,none⟩) (fun h=>by simp at h;omega) _).setCell (p:=⟨Z,1,none⟩) (fun h=>by simp at h;omega) _).setCell (p:=⟨Z,2,none⟩) (fun h=>by simp at h;omega) _
        have bZ2:Blk w2 Z 172 #[.int .i64 ((Qq T.pO T.NO x.cO S.o):Nat),.int .u64 ((QG T.pO T.NO x.cO S.o):Nat),.int .i64 ((Qs T.pO T.NO x.cO S.o):Nat)]:=by
          rw [hw2];simpa using((BZ.out.set_ 0 (.int .i64 ((Qq T.pO T.NO x.cO S.o):Nat))).set_ 1 (.int .u64 ((QG T.pO T.NO x.cO S.o):Nat))).set_ 2 (.int .i64 ((Qs T.pO T.NO x.cO S.o):Nat))
        have bH2:=(((HB.out.fresh HW1.out).far (p:=⟨Z,0,none⟩) (by simp;omega) (.int .i64 ((Qq T.pO T.NO x.cO S.o):Nat))).far (p:=⟨Z,1,none⟩) (by simp;omega) (.int .u64 ((QG T.pO T.NO x.cO S.o):Nat))).far (p:=⟨Z,2,none⟩) (by simp;omega) (.int .i64 ((Qs T.pO T.NO x.cO S.o):Nat));have wt2:=(((HWQ.out.upd HW1.out (fun _ _ h=>h.elim)).set BZ.out (by decide) (by omega) 0 (.int .i64 ((Qq T.pO T.NO x.cO S.o):Nat))).set (BZ.out.set_ 0 _) (by decide) (by omega) 1 (.int .u64 ((QG T.pO T.NO x.cO S.o):Nat))).set ((BZ.out.set_ 0 _).set_ 1 _) (by decide) (by omega) 2 (.int .i64 ((Qs T.pO T.NO x.cO S.o):Nat));rw [<-hw2]at bH2 wt2;have bP2:=UW.blk u2 HBP.out (by decide) (by omega) (by omega);have p0':=bP2.cell 0;have c1:=bZ2.cell 1;have c2:=bZ2.cell 2;simp at p0' c1 c2;have hstep:=J8 hTw.2.1 HCV.out.2.1.1 HCV.out.2.1.2 hst;have hp9:=hTw.2.1.2.1;have hlen:=(Vh HT.out HCV.out (r:=(S,B)) HSO.out false 0).2;have HPUT:=ZO w.heap.size (H+1+1) (QG T.pO T.NO x.cO S.o) (Qs T.pO T.NO x.cO S.o) (Yp T false x (S,B) 0).2 w2 wt2 (by have:=u2.size;have:=HFW.out.size;omega) (by have:=hstep.2.2.2.2.2.1;omega) hstep.2.2.2.2.1 (by have h2:=HBL.out;simp only at hlen;omega);have HH5:=hd_ bH2;have HZ5:=hd_ bZ2;have HU5:=hd_ u2;(have hgZ:¬Z=H+1+1:=by omega);clear hstep hp9 hlen u2 bZ2 bH2 wt2 bP2 z0 z1 z2 i0 i1 i2 hHw hgw hZle hWbw hw2 p0;gi_wp2;refine⟨trivial,callsIn_wide.2 (HPUT.mono ?_)⟩;rintro e w5 ⟨rfl,u5,h5⟩;have b5:=HH5.out.upd u5 (fun hT=>by rcases hT with hT|⟨_,cs,hT⟩;omega;exact HH5.out.ne_ hT (by decide) rfl);have zz5:=HZ5.out.upd u5 (fun hT=>by rcases hT with hT|⟨_,cs,hT⟩;exact hgZ hT;exact HZ5.out.ne_ hT (by decide) rfl);have HR5:=hd_ (And.intro (UW.put HU5.out u5) (And.intro b5 h5));have d0:=zz5.cell 0;have d1:=b5.cell 3;have d2:=b5.frozen 3;simp [J6]at d0 d1;clear u5 h5 b5 zz5 HPUT p0' c1 c2;gi_wp2;gi_roundg 2
        case measure=>omega
        case rel=>exact⟨1,rfl,by go_num,UW.set HR5.out.1 _ _,by simpa [J6,Yp,Kx]using HR5.out.2.1.set_ 3 (.int .i64 ((Qq T.pO T.NO x.cO S.o):Nat)),by simpa [Yp,Q0c,YZ]using HR5.out.2.2.set HR5.out.2.1 (by decide) (by omega) 3 (.int .i64 ((Qq T.pO T.NO x.cO S.o):Nat))⟩
     . obtain rfl:gk=2:=by omega
       simp [Yp,Kx]at t5;gi_upto_region 11 with fail;have hst:S.m<2^T.pM:=HSO.out.2.2;clear t0 t1 t2 t3 t4 t5 x0 x2 x4;refine K0 16 15 (obj:=.cells #[.int .i64 0,.int .u64 0,.int .i64 0] 172 (0,0)) rfl rfl l hmo (by kernel_rfl) (by kernel_rfl) (by kernel_rfl) (fun _ _ _ _ h=>h) ?hal (fun k=>([.int .i64 2,.pointer (some ⟨H,4,none⟩),.pointer (some ⟨H,4,none⟩),.pointer (some ⟨g2,0,none⟩),.int .i64 2,.pointer (some ⟨H,4,none⟩),.pointer (some ⟨H,5,none⟩),.int .i64 (S.m:Nat),.int .i64 2,.pointer (some ⟨X,4,none⟩),.pointer (some ⟨X,4,none⟩),.int .i64 (x.cM:Nat),.tuple #[.agg #[.int .i64 ((Qq T.pM T.NM x.cM S.m):Nat),.int .u64 ((QG T.pM T.NM x.cM S.m):Nat),.int .i64 ((Qs T.pM T.NM x.cM S.m):Nat)],.int .i64 0],.tuple #[.agg #[.int .i64 ((Qq T.pM T.NM x.cM S.m):Nat),.int .u64 ((QG T.pM T.NM x.cM S.m):Nat),.int .i64 ((Qs T.pM T.NM x.cM S.m):Nat)],.int .i64 0],.agg #[.int .i64 ((Qq T.pM T.NM x.cM S.m):Nat),.int .u64 ((QG T.pM T.NM x.cM S.m):Nat),.int .i64 ((Qs T.pM T.NM x.cM S.m):Nat)],.int .i64 0]:List Value).getD k undef) ?hVT
       case hal =>
         intro a w;refine⟨rfl,fun f h=>trivial,?_⟩;rfl
       case hVT =>
        apply Exists.intro;refine And.intro ?_ ?_
        . intro w1 hw1
          have HCP:=hd_ ((HCW.out _ (UW.fresh HU.out hw1)).2.2);have b1:=HB.out.fresh hw1;have b2:=HX.out.fresh hw1;have q0:=cell_regrown (show w1.cell? ⟨H,4,none⟩=some (.pointer (some ⟨g2,0,none⟩))from by have:=b1.cell 4;simpa [J6]using this);have q1:=cell_regrown (show w1.cell? ⟨H,5,none⟩=some (.int .i64 (S.m:Nat))from by have:=b1.cell 5;simpa [J6,Yp,Kx]using this);have q2:=cell_regrown (show w1.cell? ⟨X,4,none⟩=some (.int .i64 (x.cM:Nat))from by have:=b2.cell 4;simpa [Yo]using this)
          have cE:∀m dd os,CallsIn Fence.wide m Tryz.prog 79 #[.pointer (some ⟨g2,0,none⟩),.int .i64 (S.m:Nat),.int .i64 (x.cM:Nat)] (grow (redrawn w1 dd) os) fun e w''=>e = .returned (.tuple #[.agg #[.int .i64 ((Qq T.pM T.NM x.cM S.m):Nat),.int .u64 ((QG T.pM T.NM x.cM S.m):Nat),.int .i64 ((Qs T.pM T.NM x.cM S.m):Nat)],.int .i64 0])/\∃pp:Regrown,w''=grow (redrawn w1 pp.d) pp.os:=fun m dd os =>
            CallsIn.regrown_of (callsIn_wide.2 ((Q1e G g2 T.pM x.cM S.m T.NM _ (HCP.out.fresh (Upd.of_below (below_regrown w1 dd os))) hTw.2.2 HCV.out.2.2.1 HCV.out.2.2.2 hst).mono fun e w' h=>⟨h.1,h.2.below⟩))
          clear b1 b2;show wpV _ _ _ _ (fun w'=>∃pp:Regrown,w'=grow (redrawn w1 pp.d) pp.os) _ _ _ _ _;simp only [List.take_succ_cons,List.take_zero];refine Qg (.int .i64 2) rfl rfl (by simp) (fun _ _ _ _=>trivial) rfl ?_;apply Exists.intro;refine⟨fun K hK=>?_,?_,?_⟩
          . go_simp
            exact hK _ rfl
          . rfl
          refine Qg (.pointer (some ⟨H,4,none⟩)) rfl rfl (by simp) (fun _ _ _ _=>trivial) rfl ?_;apply Exists.intro;refine⟨fun K hK=>?_,?_,?_⟩
          . go_simp
            exact hK _ rfl
          . rfl
          refine Qg (.pointer (some ⟨H,4,none⟩)) rfl rfl (by simp) (fun _ _ _ _=>trivial) rfl ?_;apply Exists.intro;refine⟨fun K hK=>?_,?_,?_⟩
          . go_simp
            exact hK _ rfl
          . rfl
          refine Qg (.pointer (some ⟨g2,0,none⟩)) rfl rfl (by simp) (fun _ _ _ _=>trivial) rfl ?_;apply Exists.intro;refine⟨fun K hK=>?_,?_,?_⟩
          . go_simp
            exact hK _ rfl
          . rfl
          refine Qg (.int .i64 2) rfl rfl (by simp) (fun _ _ _ _=>trivial) rfl ?_;apply Exists.intro;refine⟨fun K hK=>?_,?_,?_⟩
          . go_simp
            exact hK _ rfl
          . rfl
          refine Qg (.pointer (some ⟨H,4,none⟩)) rfl rfl (by simp) (fun _ _ _ _=>trivial) rfl ?_;apply Exists.intro;refine⟨fun K hK=>?_,?_,?_⟩
          . go_simp
            exact hK _ rfl
          . rfl
          refine Qg (.pointer (some ⟨H,5,none⟩)) rfl rfl (by simp) (fun _ _ _ _=>trivial) rfl ?_;apply Exists.intro;refine⟨fun K hK=>?_,?_,?_⟩
          . go_simp
            exact hK _ rfl
          . rfl
          refine Qg (.int .i64 (S.m:Nat)) rfl rfl (by simp) (fun _ _ _ _=>trivial) rfl ?_;apply Exists.intro;refine⟨fun K hK=>?_,?_,?_⟩
          . go_simp
            exact hK _ rfl
          . rfl
          refine Qg (.int .i64 2) rfl rfl (by simp) (fun _ _ _ _=>trivial) rfl ?_;apply Exists.intro;refine⟨fun K hK=>?_,?_,?_⟩
          . go_simp
            exact hK _ rfl
          . rfl
          refine Qg (.pointer (some ⟨X,4,none⟩)) rfl rfl (by simp) (fun _ _ _ _=>trivial) rfl ?_;apply Exists.intro;refine⟨fun K hK=>?_,?_,?_⟩
          . go_simp
            exact hK _ rfl
          . rfl
          refine Qg (.pointer (some ⟨X,4,none⟩)) rfl rfl (by simp) (fun _ _ _ _=>trivial) rfl ?_;apply Exists.intro;refine⟨fun K hK=>?_,?_,?_⟩
          . go_simp
            exact hK _ rfl
          . rfl
          refine Qg (.int .i64 (x.cM:Nat)) rfl rfl (by simp) (fun _ _ _ _=>trivial) rfl ?_;apply Exists.intro;refine⟨fun K hK=>?_,?_,?_⟩
          . go_simp
            exact hK _ rfl
          . rfl
          refine Qg (.tuple #[.agg #[.int .i64 ((Qq T.pM T.NM x.cM S.m):Nat),.int .u64 ((QG T.pM T.NM x.cM S.m):Nat),.int .i64 ((Qs T.pM T.NM x.cM S.m):Nat)],.int .i64 0]) rfl rfl (by simp) (fun _ _ _ _=>trivial) rfl ?_;apply Exists.intro;refine⟨fun K hK=>?_,?_,?_⟩
          . go_simp
            (apply Exists.intro;refine And.intro (fun _=>?_) ?_;exact cE _ _ _;exact hK _ rfl)
          . rfl
          refine Qg (.tuple #[.agg #[.int .i64 ((Qq T.pM T.NM x.cM S.m):Nat),.int .u64 ((QG T.pM T.NM x.cM S.m):Nat),.int .i64 ((Qs T.pM T.NM x.cM S.m):Nat)],.int .i64 0]) rfl rfl (by simp) (fun _ _ _ _=>trivial) rfl ?_;apply Exists.intro;refine⟨fun K hK=>?_,?_,?_⟩
          . go_simp
            exact hK _ rfl
          . rfl
          refine Qg (.agg #[.int .i64 ((Qq T.pM T.NM x.cM S.m):Nat),.int .u64 ((QG T.pM T.NM x.cM S.m):Nat),.int .i64 ((Qs T.pM T.NM x.cM S.m):Nat)]) rfl rfl (by simp) (fun _ _ _ _=>trivial) rfl ?_;apply Exists.intro;refine⟨fun K hK=>?_,?_,?_⟩
          . go_simp
            exact hK _ rfl
          . rfl
          refine Qg (.int .i64 0) rfl rfl (by simp) (fun _ _ _ _=>trivial) rfl ?_;apply Exists.intro;refine⟨fun K hK=>?_,?_,?_⟩
          . go_simp
            exact hK _ rfl
          . rfl
          exact Q1H rfl
        intro w1 Z hw1 hZ hZle;have bZ:Blk w1 Z 172 #[.int .i64 0,.int .u64 0,.int .i64 0]:=hZ;have z0:=bZ.cell 0;have z1:=bZ.cell 1;have z2:=bZ.cell 2;have i0:=bZ.frozen 0;have i1:=bZ.frozen 1;have i2:=bZ.frozen 2;simp at z0 z1 z2;have BZ:=hd_ bZ;have HW1:=hd_ hw1;have HZL:=hd_ hZle;clear bZ hw1 hZ hZle;simp only [List.drop_succ_cons,List.drop_zero];gi_upto_region 12 with fail;obtain⟨w2,hw2⟩:=nm_ (((w1.setCell ⟨Z,0,none⟩ (.int .i64 ((Qq T.pM T.NM x.cM S.m):Nat))).setCell ⟨Z,1,none⟩ (.int .u64 ((QG T.pM T.NM x.cM S.m):Nat))).setCell ⟨Z,2,none⟩ (.int .i64 ((Qs T.pM T.NM x.cM S.m):Nat)));simp only [<-hw2];have hHw:=HB.out.lt;have hgw:=HWQ.out.lt.1;have hZle:=HZL.out;have hWbw:=HU.out.size
        have u2:Upd (UW Wb w.heap.size H (H+1+1)) Wb w2:=by
          rw [hw2];exact(((UW.fresh HU.out HW1.out).setCell (p:=⟨Z,0,none⟩) (fun h=>by simp at h;omega) _).setCell (p:=⟨Z,1,none⟩) (fun h=>by simp at h;omega) _).setCell (p:=⟨Z,2,none⟩) (fun h=>by simp at h;omega) _
        have bZ2:Blk w2 Z 172 #[.int .i64 ((Qq T.pM T.NM x.cM S.m):Nat),.int .u64 ((QG T.pM T.NM x.cM S.m):Nat),.int .i64 ((Qs T.pM T.NM x.cM S.m):Nat)]:=by
          rw [hw2];simpa using((BZ.out.set_ 0 (.int .i64 ((Qq T.pM T.NM x.cM S.m):Nat))).set_ 1 (.int .u64 ((QG T.pM T.NM x.cM S.m):Nat))).set_ 2 (.int .i64 ((Qs T.pM T.NM x.cM S.m):Nat))
        have bH2:=(((HB.out.fresh HW1.out).far (p:=⟨Z,0,none⟩) (by simp;omega) (.int .i64 ((Qq T.pM T.NM x.cM S.m):Nat))).far (p:=⟨Z,1,none⟩) (by simp;omega) (.int .u64 ((QG T.pM T.NM x.cM S.m):Nat))).far (p:=⟨Z,2,none⟩) (by simp;omega) (.int .i64 ((Qs T.pM T.NM x.cM S.m):Nat));have wt2:=(((HWQ.out.upd HW1.out (fun _ _ h=>h.elim)).set BZ.out (by decide) (by omega) 0 (.int .i64 ((Qq T.pM T.NM x.cM S.m):Nat))).set (BZ.out.set_ 0 _) (by decide) (by omega) 1 (.int .u64 ((QG T.pM T.NM x.cM S.m):Nat))).set ((BZ.out.set_ 0 _).set_ 1 _) (by decide) (by omega) 2 (.int .i64 ((Qs T.pM T.NM x.cM S.m):Nat));rw [<-hw2]at bH2 wt2;have bP2:=UW.blk u2 HBP.out (by decide) (by omega) (by omega);have p0':=bP2.cell 0;have c1:=bZ2.cell 1;have c2:=bZ2.cell 2;simp at p0' c1 c2;have hstep:=J8 hTw.2.2 HCV.out.2.2.1 HCV.out.2.2.2 hst;have hp9:=hTw.2.2.2.1;have hlen:=(Vh HT.out HCV.out (r:=(S,B)) HSO.out false 1).2;have HPUT:=ZO w.heap.size (H+1+1) (QG T.pM T.NM x.cM S.m) (Qs T.pM T.NM x.cM S.m) (Yp T false x (S,B) 1).2 w2 wt2 (by have:=u2.size;have:=HFW.out.size;omega) (by have:=hstep.2.2.2.2.2.1;omega) hstep.2.2.2.2.1 (by have h2:=HBL.out;simp only at hlen;omega);have HH5:=hd_ bH2;have HZ5:=hd_ bZ2;have HU5:=hd_ u2;(have hgZ:¬Z=H+1+1:=by omega);clear hstep hp9 hlen u2 bZ2 bH2 wt2 bP2 z0 z1 z2 i0 i1 i2 hHw hgw hZle hWbw hw2 p0;gi_wp2;refine⟨trivial,callsIn_wide.2 (HPUT.mono ?_)⟩;rintro e w5 ⟨rfl,u5,h5⟩;have b5:=HH5.out.upd u5 (fun hT=>by rcases hT with hT|⟨_,cs,hT⟩;omega;exact HH5.out.ne_ hT (by decide) rfl);have zz5:=HZ5.out.upd u5 (fun hT=>by rcases hT with hT|⟨_,cs,hT⟩;exact hgZ hT;exact HZ5.out.ne_ hT (by decide) rfl);have HR5:=hd_ (And.intro (UW.put HU5.out u5) (And.intro b5 h5));have d0:=zz5.cell 0;have d1:=b5.cell 5;have d2:=b5.frozen 5;simp [J6]at d0 d1;clear u5 h5 b5 zz5 HPUT p0' c1 c2;gi_wp2;gi_roundg 1
        case measure=>omega
        case rel=>exact⟨2,rfl,by go_num,UW.set HR5.out.1 _ _,by simpa [J6,Yp,Kx]using HR5.out.2.1.set_ 5 (.int .i64 ((Qq T.pM T.NM x.cM S.m):Nat)),by simpa [Yp,Q0c,YZ]using HR5.out.2.2.set HR5.out.2.1 (by decide) (by omega) 5 (.int .i64 ((Qq T.pM T.NM x.cM S.m):Nat))⟩
     . obtain rfl:gk=1:=by omega
       simp [Yp,Kx]at t1;gi_upto_region 11 with fail;have hst:S.l<2^T.pL:=HSO.out.1;clear t0 t1 t2 t3 t4 t5 x0 x2 x4;refine K0 16 15 (obj:=.cells #[.int .i64 0,.int .u64 0,.int .i64 0] 172 (0,0)) rfl rfl l hmo (by kernel_rfl) (by kernel_rfl) (by kernel_rfl) (fun _ _ _ _ h=>h) ?hal (fun k=>([.int .i64 0,.pointer (some ⟨H,0,none⟩),.pointer (some ⟨H,0,none⟩),.pointer (some ⟨g0,0,none⟩),.int .i64 0,.pointer (some ⟨H,0,none⟩),.pointer (some ⟨H,1,none⟩),.int .i64 (S.l:Nat),.int .i64 0,.pointer (some ⟨X,0,none⟩),.pointer (some ⟨X,0,none⟩),.int .i64 (x.cL:Nat),.tuple #[.agg #[.int .i64 ((Qq T.pL T.NL x.cL S.l):Nat),.int .u64 ((QG T.pL T.NL x.cL S.l):Nat),.int .i64 ((Qs T.pL T.NL x.cL S.l):Nat)],.int .i64 0],.tuple #[.agg #[.int .i64 ((Qq T.pL T.NL x.cL S.l):Nat),.int .u64 ((QG T.pL T.NL x.cL S.l):Nat),.int .i64 ((Qs T.pL T.NL x.cL S.l):Nat)],.int .i64 0],.agg #[.int .i64 ((Qq T.pL T.NL x.cL S.l):Nat),.int .u64 ((QG T.pL T.NL x.cL S.l):Nat),.int .i64 ((Qs T.pL T.NL x.cL S.l):Nat)],.int .i64 0]:List Value).getD k undef) ?hVT
       case hal =>
         intro a w;refine⟨rfl,fun f h=>trivial,?_⟩;rfl
       case hVT =>
        apply Exists.intro;refine And.intro ?_ ?_
        . intro w1 hw1
          have HCP:=hd_ ((HCW.out _ (UW.fresh HU.out hw1)).1);have b1:=HB.out.fresh hw1;have b2:=HX.out.fresh hw1;have q0:=cell_regrown (show w1.cell? ⟨H,0,none⟩=some (.pointer (some ⟨g0,0,none⟩))from by have:=b1.cell 0;simpa [J6]using this);have q1:=cell_regrown (show w1.cell? ⟨H,1,none⟩=some (.int .i64 (S.l:Nat))from by have:=b1.cell 1;simpa [J6,Yp,Kx]using this);have q2:=cell_regrown (show w1.cell? ⟨X,0,none⟩=some (.int .i64 (x.cL:Nat))from by have:=b2.cell 0;simpa [Yo]using this)
          have cE:∀m dd os,CallsIn Fence.wide m Tryz.prog 79 #[.pointer (some ⟨g0,0,none⟩),.int .i64 (S.l:Nat),.int .i64 (x.cL:Nat)] (grow (redrawn w1 dd) os) fun e w''=>e = .returned (.tuple #[.agg #[.int .i64 ((Qq T.pL T.NL x.cL S.l):Nat),.int .u64 ((QG T.pL T.NL x.cL S.l):Nat),.int .i64 ((Qs T.pL T.NL x.cL S.l):Nat)],.int .i64 0])/\∃pp:Regrown,w''=grow (redrawn w1 pp.d) pp.os:=fun m dd os =>
            CallsIn.regrown_of (callsIn_wide.2 ((Q1e G g0 T.pL x.cL S.l T.NL _ (HCP.out.fresh (Upd.of_below (below_regrown w1 dd os))) hTw.1 HCV.out.1.1 HCV.out.1.2 hst).mono fun e w' h=>⟨h.1,h.2.below⟩))
          clear b1 b2;show wpV _ _ _ _ (fun w'=>∃pp:Regrown,w'=grow (redrawn w1 pp.d) pp.os) _ _ _ _ _;simp only [List.take_succ_cons,List.take_zero];refine Qg (.int .i64 0) rfl rfl (by simp) (fun _ _ _ _=>trivial) rfl ?_;apply Exists.intro;refine⟨fun K hK=>?_,?_,?_⟩
          . go_simp
            exact hK _ rfl
          . rfl
          refine Qg (.pointer (some ⟨H,0,none⟩)) rfl rfl (by simp) (fun _ _ _ _=>trivial) rfl ?_;apply Exists.intro;refine⟨fun K hK=>?_,?_,?_⟩
          . go_simp
            exact hK _ rfl
          . rfl
          refine Qg (.pointer (some ⟨H,0,none⟩)) rfl rfl (by simp) (fun _ _ _ _=>trivial) rfl ?_;apply Exists.intro;refine⟨fun K hK=>?_,?_,?_⟩
          . go_simp
            exact hK _ rfl
          . rfl
          refine Qg (.pointer (some ⟨g0,0,none⟩)) rfl rfl (by simp) (fun _ _ _ _=>trivial) rfl ?_;apply Exists.intro;refine⟨fun K hK=>?_,?_,?_⟩
          . go_simp
            exact hK _ rfl
          . rfl
          refine Qg (.int .i64 0) rfl rfl (by simp) (fun _ _ _ _=>trivial) rfl ?_;apply Exists.intro;refine⟨fun K hK=>?_,?_,?_⟩
          . go_simp
            exact hK _ rfl
          . rfl
          refine Qg (.pointer (some ⟨H,0,none⟩)) rfl rfl (by simp) (fun _ _ _ _=>trivial) rfl ?_;apply Exists.intro;refine⟨fun K hK=>?_,?_,?_⟩
          . go_simp
            exact hK _ rfl
          . rfl
          refine Qg (.pointer (some ⟨H,1,none⟩)) rfl rfl (by simp) (fun _ _ _ _=>trivial) rfl ?_;apply Exists.intro;refine⟨fun K hK=>?_,?_,?_⟩
          . go_simp
            exact hK _ rfl
          . rfl
          refine Qg (.int .i64 (S.l:Nat)) rfl rfl (by simp) (fun _ _ _ _=>trivial) rfl ?_;apply Exists.intro;refine⟨fun K hK=>?_,?_,?_⟩
          . go_simp
            exact hK _ rfl
          . rfl
          refine Qg (.int .i64 0) rfl rfl (by simp) (fun _ _ _ _=>trivial) rfl ?_;apply Exists.intro;refine⟨fun K hK=>?_,?_,?_⟩
          . go_simp
            exact hK _ rfl
          . rfl
          refine Qg (.pointer (some ⟨X,0,none⟩)) rfl rfl (by simp) (fun _ _ _ _=>trivial) rfl ?_;apply Exists.intro;refine⟨fun K hK=>?_,?_,?_⟩
          . go_simp
            exact hK _ rfl
          . rfl
          refine Qg (.pointer (some ⟨X,0,none⟩)) rfl rfl (by simp) (fun _ _ _ _=>trivial) rfl ?_;apply Exists.intro;refine⟨fun K hK=>?_,?_,?_⟩
          . go_simp
            exact hK _ rfl
          . rfl
          refine Qg (.int .i64 (x.cL:Nat)) rfl rfl (by simp) (fun _ _ _ _=>trivial) rfl ?_;apply Exists.intro;refine⟨fun K hK=>?_,?_,?_⟩
          . go_simp
            exact hK _ rfl
          . rfl
          refine Qg (.tuple #[.agg #[.int .i64 ((Qq T.pL T.NL x.cL S.l):Nat),.int .u64 ((QG T.pL T.NL x.cL S.l):Nat),.int .i64 ((Qs T.pL T.NL x.cL S.l):Nat)],.int .i64 0]) rfl rfl (by simp) (fun _ _ _ _=>trivial) rfl ?_;apply Exists.intro;refine⟨fun K hK=>?_,?_,?_⟩
          . go_simp
            (apply Exists.intro;refine And.intro (fun _=>?_) ?_;exact cE _ _ _;exact hK _ rfl)
          . rfl
          refine Qg (.tuple #[.agg #[.int .i64 ((Qq T.pL T.NL x.cL S.l):Nat),.int .u64 ((QG T.pL T.NL x.cL S.l):Nat),.int .i64 ((Qs T.pL T.NL x.cL S.l):Nat)],.int .i64 0]) rfl rfl (by simp) (fun _ _ _ _=>trivial) rfl ?_;apply Exists.intro;refine⟨fun K hK=>?_,?_,?_⟩
          . go_simp
            exact hK _ rfl
          . rfl
          refine Qg (.agg #[.int .i64 ((Qq T.pL T.NL x.cL S.l):Nat),.int .u64 ((QG T.pL T.NL x.cL S.l):Nat),.int .i64 ((Qs T.pL T.NL x.cL S.l):Nat)]) rfl rfl (by simp) (fun _ _ _ _=>trivial) rfl ?_;apply Exists.intro;refine⟨fun K hK=>?_,?_,?_⟩
          . go_simp
            exact hK _ rfl
          . rfl
          refine Qg (.int .i64 0) rfl rfl (by simp) (fun _ _ _ _=>trivial) rfl ?_;apply Exists.intro;refine⟨fun K hK=>?_,?_,?_⟩
          . go_simp
            exact hK _ rfl
          . rfl
          exact Q1H rfl
        intro w1 Z hw1 hZ hZle;have bZ:Blk w1 Z 172 #[.int .i64 0,.int .u64 0,.int .i64 0]:=hZ;have z0:=bZ.cell 0;have z1:=bZ.cell 1;have z2:=bZ.cell 2;have i0:=bZ.frozen 0;have i1:=bZ.frozen 1;have i2:=bZ.frozen 2;simp at z0 z1 z2;have BZ:=hd_ bZ;have HW1:=hd_ hw1;have HZL:=hd_ hZle;clear bZ hw1 hZ hZle;simp only [List.drop_succ_cons,List.drop_zero];gi_upto_region 12 with fail;obtain⟨w2,hw2⟩:=nm_ (((w1.setCell ⟨Z,0,none⟩ (.int .i64 ((Qq T.pL T.NL x.cL S.l):Nat))).setCell ⟨Z,1,none⟩ (.int .u64 ((QG T.pL T.NL x.cL S.l):Nat))).setCell ⟨Z,2,none⟩ (.int .i64 ((Qs T.pL T.NL x.cL S.l):Nat)));simp only [<-hw2];have hHw:=HB.out.lt;have hgw:=HWQ.out.lt.1;have hZle:=HZL.out;have hWbw:=HU.out.size
        have u2:Upd (UW Wb w.heap.size H (H+1+1)) Wb w2:=by
          rw [hw2];exact(((UW.fresh HU.out HW1.out).setCell (p:=⟨Z,0,none⟩) (fun h=>by simp at h;omega) _).setCell (p:=⟨Z,1,none⟩) (fun h=>by simp at h;omega) _).setCell (p:=⟨Z,2,none⟩) (fun h=>by simp at h;omega) _
        have bZ2:Blk w2 Z 172 #[.int .i64 ((Qq T.pL T.NL x.cL S.l):Nat),.int .u64 ((QG T.pL T.NL x.cL S.l):Nat),.int .i64 ((Qs T.pL T.NL x.cL S.l):Nat)]:=by
          rw [hw2];simpa using((BZ.out.set_ 0 (.int .i64 ((Qq T.pL T.NL x.cL S.l):Nat))).set_ 1 (.int .u64 ((QG T.pL T.NL x.cL S.l):Nat))).set_ 2 (.int .i64 ((Qs T.pL T.NL x.cL S.l):Nat))
        have bH2:=(((HB.out.fresh HW1.out).far (p:=⟨Z,0,none⟩) (by simp;omega) (.int .i64 ((Qq T.pL T.NL x.cL S.l):Nat))).far (p:=⟨Z,1,none⟩) (by simp;omega) (.int .u64 ((QG T.pL T.NL x.cL S.l):Nat))).far (p:=⟨Z,2,none⟩) (by simp;omega) (.int .i64 ((Qs T.pL T.NL x.cL S.l):Nat));have wt2:=(((HWQ.out.upd HW1.out (fun _ _ h=>h.elim)).set BZ.out (by decide) (by omega) 0 (.int .i64 ((Qq T.pL T.NL x.cL S.l):Nat))).set (BZ.out.set_ 0 _) (by decide) (by omega) 1 (.int .u64 ((QG T.pL T.NL x.cL S.l):Nat))).set ((BZ.out.set_ 0 _).set_ 1 _) (by decide) (by omega) 2 (.int .i64 ((Qs T.pL T.NL x.cL S.l):Nat));rw [<-hw2]at bH2 wt2;have bP2:=UW.blk u2 HBP.out (by decide) (by omega) (by omega);have p0':=bP2.cell 0;have c1:=bZ2.cell 1;have c2:=bZ2.cell 2;simp at p0' c1 c2;have hstep:=J8 hTw.1 HCV.out.1.1 HCV.out.1.2 hst;have hp9:=hTw.1.2.1;have hlen:=(Vh HT.out HCV.out (r:=(S,B)) HSO.out false 2).2;have HPUT:=ZO w.heap.size (H+1+1) (QG T.pL T.NL x.cL S.l) (Qs T.pL T.NL x.cL S.l) (Yp T false x (S,B) 2).2 w2 wt2 (by have:=u2.size;have:=HFW.out.size;omega) (by have:=hstep.2.2.2.2.2.1;omega) hstep.2.2.2.2.1 (by have h2:=HBL.out;simp only at hlen;omega);have HH5:=hd_ bH2;have HZ5:=hd_ bZ2;have HU5:=hd_ u2;(have hgZ:¬Z=H+1+1:=by omega);clear hstep hp9 hlen u2 bZ2 bH2 wt2 bP2 z0 z1 z2 i0 i1 i2 hHw hgw hZle hWbw hw2 p0;gi_wp2;refine⟨trivial,callsIn_wide.2 (HPUT.mono ?_)⟩;rintro e w5 ⟨rfl,u5,h5⟩;have b5:=HH5.out.upd u5 (fun hT=>by rcases hT with hT|⟨_,cs,hT⟩;omega;exact HH5.out.ne_ hT (by decide) rfl);have zz5:=HZ5.out.upd u5 (fun hT=>by rcases hT with hT|⟨_,cs,hT⟩;exact hgZ hT;exact HZ5.out.ne_ hT (by decide) rfl);have HR5:=hd_ (And.intro (UW.put HU5.out u5) (And.intro b5 h5));have d0:=zz5.cell 0;have d1:=b5.cell 1;have d2:=b5.frozen 1;simp [J6]at d0 d1;clear u5 h5 b5 zz5 HPUT p0' c1 c2;gi_wp2;gi_roundg 0
        case measure=>omega
        case rel=>exact⟨3,rfl,by go_num,UW.set HR5.out.1 _ _,by simpa [J6,Yp,Kx]using HR5.out.2.1.set_ 1 (.int .i64 ((Qq T.pL T.NL x.cL S.l):Nat)),by simpa [Yp,Q0c,YZ]using HR5.out.2.2.set HR5.out.2.1 (by decide) (by omega) 1 (.int .i64 ((Qq T.pL T.NL x.cL S.l):Nat))⟩
     (obtain rfl:gk=0:=by omega);gi_upto_region 16 with fail;obtain⟨Y2,hY2⟩:=nm_ (wr.heap.size);obtain⟨Wc,hWc⟩:=nm_ (wr.alloc (.cells #[.int .i64 0,.int .i64 2,.int .i64 1] 112));simp only [<-hY2,<-hWc];(have fc:Q0 wr Wc:=by rw [hWc];exact(Upd.refl _ _).alloc _);(have bY2':Blk Wc Y2 112 #[.int .i64 0,.int .i64 2,.int .i64 1]:=by rw [hWc];exact Q1 hY2 _ _);have HU2:=hd_ (UW.fresh HU.out fc);have HB2:=hd_ (HB.out.fresh fc);have HWQ2:=hd_ (HWQ.out.upd fc (fun _ _ h=>h.elim));have HBY2:=hd_ bY2';obtain⟨S3,B3,hS3⟩:∃S3 B3,Yp T false x (S,B) 3=(S3,B3):=⟨_,_,rfl⟩;have HLL:=HLB.out;have HS3:=hd_ (hS3);have HB3L:=hd_ (show B3.length<=6600027 by have h1:=(Vh HT.out HCV.out (r:=(S,B)) HSO.out false 3).2;rw [hS3]at h1;have h2:=HBL.out;simp only at h1;omega);simp only [hS3]at HB2 HWQ2;have HXK:=hd_ (show x.cL<44/\x.cO<28/\x.cM<44 from⟨(QD HXO.out).1,(QD HXO.out).2.2.1,(QD HXO.out).2.1⟩);have HY2g:=hd_ (show ¬Y2=H+1+1 from fun h=>by have:=HWQ.out.lt.1;omega);clear x0 x2 x4 y0 y1 y2 s0 p0 t0 t1 t2 t3 t4 t5 HLL hS3 fc bY2' hY2 hWc;clear HU HB HWQ HKF;gi_loopg [82] 3 (fun f vi wr=>∃k:Nat,k+f=3/\vi = .int .i64 k/\Upd (UW Wb w.heap.size H (H+1+1)) Wb wr/\Blk wr H 96 (J6 g0 g1 g2 S3)/\Qd wr (fun k=>w.heap.size<=k) (H+1+1) (B3++Jf x k)/\Blk wr Y2 112 #[.int .i64 0,.int .i64 2,.int .i64 1])
     case atStart=>exact⟨0,rfl,rfl,HU2.out,HB2.out,by simpa [Jf]using HWQ2.out,HBY2.out⟩
     case round =>
       obtain⟨k,hkf,rfl,hu,hb,hwr,hy⟩:=hrel;have bP2:=UW.blk hu HBP.out (by decide) (by omega) (by omega);have bX2:=UW.blk hu HBX.out (by decide) hXH.1 hXH.2;have bQ2:=UW.blk hu HBQ.out (by decide) (by omega) (by omega);have HX2:=hd_ bX2;have HP2:=hd_ bP2;have x0:=bX2.cell 0;have x1:=bX2.cell 1;have x2:=bX2.cell 2;have x3:=bX2.cell 3;have x4:=bX2.cell 4;have x5:=bX2.cell 5;have p0:=bP2.cell 0;have y0:=hy.cell 0;have y1:=hy.cell 1;have y2:=hy.cell 2;have e1:=bQ2.cell 1;have e4:=bQ2.cell 4;have e7:=bQ2.cell 7;simp [Yo,ZA]at x0 x1 x2 x3 x4 x5 p0 y0 y1 y2 e1 e4 e7;have HU:=hd_ hu;have HB:=hd_ hb;have HWQ:=hd_ hwr;have HKF:=hd_ hkf;have HBY:=hd_ hy;clear hu hb hwr hy bP2 bX2 bQ2 HU2 HB2 HWQ2 HBY2;(have h4:k=0\/k=1\/k=2\/k=3:=by omega);rcases h4 with rfl|rfl|rfl|rfl
       . obtain rfl:gk=3:=by omega
         gi_upto_region 18 with fail;have q0:=cell_regrown x0;have q1:=cell_regrown e1
         have cE:∀m dd os,CallsIn Fence.wide m Tryz.prog 113 #[.int .i64 (x.cL:Nat)] (grow (redrawn wr dd) os) fun e w''=>e = .returned (.tuple #[.int .i64 ((Y4 x.cL):Nat),.int .i64 0])/\∃pp:Regrown,w''=grow (redrawn wr pp.d) pp.os:=fun m dd os =>
           CallsIn.regrown_of (callsIn_wide.2 ((Z9 x.cL _ HXK.out.1).mono fun e w' h=>⟨h.1,h.2.below⟩))
         refine Jc (C:=fun w'=>∃pp:Regrown,w'=grow (redrawn wr pp.d) pp.os) rfl l hmo (by kernel_rfl) (by kernel_rfl) ⟨⟨wr.drawn+1,#[]⟩,by rw [grow_empty];rfl⟩ ?_;(repeat(refine wpQuietIn_step (fun _ _ _ _=>trivial) (fun K hK=>?_);go_simp;first|(refine hK _ ?_;clear hK K)|(apply Exists.intro;refine⟨fun _=>?_,hK _ ?_⟩;exact cE _ _ _;clear hK K)));refine wpQuietIn_nil ?_;intro _ hw';obtain⟨⟨dq,osq⟩,hw''⟩:=hw';subst hw'';have fq:Q0 wr (grow (redrawn wr dq) osq):=Upd.of_below (below_regrown wr dq osq);generalize grow (redrawn wr dq) osq=Wq at *;have r1:=(HX2.out.fresh fq).cell 1;have p1:=(HP2.out.fresh fq).cell 0;simp [Yo]at r1 p1;clear q0 q1 cE;gi_upto_region 19 with fail;have q1:=cell_regrown r1;have q2:=cell_regrown p1;refine Jl (C:=fun w'=>∃pp:Regrown,w'=grow (redrawn Wq pp.d) pp.os) 6 rfl l hmo (by kernel_rfl) (by kernel_rfl) ⟨⟨Wq.drawn+1,#[]⟩,by rw [grow_empty];rfl⟩ ?_;simp only [List.take_succ_cons,List.take_zero,List.drop_succ_cons,List.drop_zero];(repeat(refine wpQuietIn_step (fun _ _ _ _=>trivial) (fun K hK=>?_);go_simp;refine hK _ ?_;clear hK K));refine wpQuietIn_nil ?_;intro _ hw';obtain⟨⟨dr,osr⟩,hw''⟩:=hw';subst hw'';have fr:Q0 wr (grow (redrawn Wq dr) osr):=fq.trans' (Upd.of_below (below_regrown Wq dr osr));generalize grow (redrawn Wq dr) osr=Wr at *;clear q1 q2 r1 p1;have HPUT:=ZO w.heap.size (H+1+1) x.rL ((Y4 x.cL)) (B3++Jf x 0) Wr (HWQ.out.upd fr (fun _ _ h=>h.elim)) (by have:=HU.out.size;have:=fr.size;have:=HFW.out.size;omega) (by have:=HXK.out;have:=J5 this.1;have:=J5 HXK.out.2.2;omega) (by first|exact(QD HXO.out).2.2.2.1|exact(QD HXO.out).2.2.2.2.1|exact(QD HXO.out).2.2.2.2.2.1) (by have h1:=KC HXO.out 0;have h2:=HB3L.out;rw [List.length_append];omega);gi_wp2;refine⟨trivial,callsIn_wide.2 (HPUT.mono ?_)⟩;rintro e w5 ⟨rfl,u5,h5⟩;have b5:=(HB.out.fresh fr).upd u5 (fun hT=>by rcases hT with hT|⟨_,cs,hT⟩;omega;exact(HB.out.fresh fr).ne_ hT (by decide) rfl);have y5:=(HBY.out.fresh fr).upd u5 (fun hT=>by rcases hT with hT|⟨_,cs,hT⟩;exact HY2g.out hT;exact(HBY.out.fresh fr).ne_ hT (by decide) rfl);(have h6:Qd w5 (fun k=>w.heap.size<=k) (H+1+1) (B3++Jf x 1):=by simpa [Jf]using h5);have uu:=UW.put (UW.fresh HU.out fr) u5;have HR5:=hd_ (And.intro uu (And.intro b5 (And.intro h6 y5)));clear u5 h5 b5 y5 h6 uu HPUT;gi_wp2;gi_roundg 2
         case measure=>omega
         case rel=>exact⟨1,rfl,by go_num,HR5.out.1,HR5.out.2.1,HR5.out.2.2.1,HR5.out.2.2.2⟩
       . obtain rfl:gk=2:=by omega
         gi_upto_region 18 with fail;have q0:=cell_regrown x4;have q1:=cell_regrown e7
         have cE:∀m dd os,CallsIn Fence.wide m Tryz.prog 113 #[.int .i64 (x.cM:Nat)] (grow (redrawn wr dd) os) fun e w''=>e = .returned (.tuple #[.int .i64 ((Y4 x.cM):Nat),.int .i64 0])/\∃pp:Regrown,w''=grow (redrawn wr pp.d) pp.os:=fun m dd os =>
           CallsIn.regrown_of (callsIn_wide.2 ((Z9 x.cM _ HXK.out.2.2).mono fun e w' h=>⟨h.1,h.2.below⟩))
         refine Jc (C:=fun w'=>∃pp:Regrown,w'=grow (redrawn wr pp.d) pp.os) rfl l hmo (by kernel_rfl) (by kernel_rfl) ⟨⟨wr.drawn+1,#[]⟩,by rw [grow_empty];rfl⟩ ?_;(repeat(refine wpQuietIn_step (fun _ _ _ _=>trivial) (fun K hK=>?_);go_simp;first|(refine hK _ ?_;clear hK K)|(apply Exists.intro;refine⟨fun _=>?_,hK _ ?_⟩;exact cE _ _ _;clear hK K)));refine wpQuietIn_nil ?_;intro _ hw';obtain⟨⟨dq,osq⟩,hw''⟩:=hw';subst hw'';have fq:Q0 wr (grow (redrawn wr dq) osq):=Upd.of_below (below_regrown wr dq osq);generalize grow (redrawn wr dq) osq=Wq at *;have r1:=(HX2.out.fresh fq).cell 5;have p1:=(HP2.out.fresh fq).cell 0;simp [Yo]at r1 p1;clear q0 q1 cE;gi_upto_region 19 with fail;have q1:=cell_regrown r1;have q2:=cell_regrown p1;refine Jl (C:=fun w'=>∃pp:Regrown,w'=grow (redrawn Wq pp.d) pp.os) 6 rfl l hmo (by kernel_rfl) (by kernel_rfl) ⟨⟨Wq.drawn+1,#[]⟩,by rw [grow_empty];rfl⟩ ?_;simp only [List.take_succ_cons,List.take_zero,List.drop_succ_cons,List.drop_zero];(repeat(refine wpQuietIn_step (fun _ _ _ _=>trivial) (fun K hK=>?_);go_simp;refine hK _ ?_;clear hK K));refine wpQuietIn_nil ?_;intro _ hw';obtain⟨⟨dr,osr⟩,hw''⟩:=hw';subst hw'';have fr:Q0 wr (grow (redrawn Wq dr) osr):=fq.trans' (Upd.of_below (below_regrown Wq dr osr));generalize grow (redrawn Wq dr) osr=Wr at *;clear q1 q2 r1 p1;have HPUT:=ZO w.heap.size (H+1+1) x.rM ((Y4 x.cM)) (B3++Jf x 1) Wr (HWQ.out.upd fr (fun _ _ h=>h.elim)) (by have:=HU.out.size;have:=fr.size;have:=HFW.out.size;omega) (by have:=HXK.out;have:=J5 this.1;have:=J5 HXK.out.2.2;omega) (by first|exact(QD HXO.out).2.2.2.1|exact(QD HXO.out).2.2.2.2.1|exact(QD HXO.out).2.2.2.2.2.1) (by have h1:=KC HXO.out 1;have h2:=HB3L.out;rw [List.length_append];omega);gi_wp2;refine⟨trivial,callsIn_wide.2 (HPUT.mono ?_)⟩;rintro e w5 ⟨rfl,u5,h5⟩;have b5:=(HB.out.fresh fr).upd u5 (fun hT=>by rcases hT with hT|⟨_,cs,hT⟩;omega;exact(HB.out.fresh fr).ne_ hT (by decide) rfl);have y5:=(HBY.out.fresh fr).upd u5 (fun hT=>by rcases hT with hT|⟨_,cs,hT⟩;exact HY2g.out hT;exact(HBY.out.fresh fr).ne_ hT (by decide) rfl);(have h6:Qd w5 (fun k=>w.heap.size<=k) (H+1+1) (B3++Jf x 2):=by simpa [Jf]using h5);have uu:=UW.put (UW.fresh HU.out fr) u5;have HR5:=hd_ (And.intro uu (And.intro b5 (And.intro h6 y5)));clear u5 h5 b5 y5 h6 uu HPUT;gi_wp2;gi_roundg 1
         case measure=>omega
         case rel=>exact⟨2,rfl,by go_num,HR5.out.1,HR5.out.2.1,HR5.out.2.2.1,HR5.out.2.2.2⟩
       . obtain rfl:gk=1:=by omega
         gi_upto_region 18 with fail;have q0:=cell_regrown x2;have q1:=cell_regrown e4
         have cE:∀m dd os,CallsIn Fence.wide m Tryz.prog 116 #[.int .i64 (x.cO:Nat)] (grow (redrawn wr dd) os) fun e w''=>e = .returned (.tuple #[.int .i64 (x.cO:Nat),.int .i64 0])/\∃pp:Regrown,w''=grow (redrawn wr pp.d) pp.os:=fun m dd os =>
           CallsIn.regrown_of (callsIn_wide.2 ((Kz x.cO _ HXK.out.2.1).mono fun e w' h=>⟨h.1,h.2.below⟩))
         refine Jc (C:=fun w'=>∃pp:Regrown,w'=grow (redrawn wr pp.d) pp.os) rfl l hmo (by kernel_rfl) (by kernel_rfl) ⟨⟨wr.drawn+1,#[]⟩,by rw [grow_empty];rfl⟩ ?_;(repeat(refine wpQuietIn_step (fun _ _ _ _=>trivial) (fun K hK=>?_);go_simp;first|(refine hK _ ?_;clear hK K)|(apply Exists.intro;refine⟨fun _=>?_,hK _ ?_⟩;exact cE _ _ _;clear hK K)));refine wpQuietIn_nil ?_;intro _ hw';obtain⟨⟨dq,osq⟩,hw''⟩:=hw';subst hw'';have fq:Q0 wr (grow (redrawn wr dq) osq):=Upd.of_below (below_regrown wr dq osq);generalize grow (redrawn wr dq) osq=Wq at *;have r1:=(HX2.out.fresh fq).cell 3;have p1:=(HP2.out.fresh fq).cell 0;simp [Yo]at r1 p1;clear q0 q1 cE;gi_upto_region 19 with fail;have q1:=cell_regrown r1;have q2:=cell_regrown p1;refine Jl (C:=fun w'=>∃pp:Regrown,w'=grow (redrawn Wq pp.d) pp.os) 6 rfl l hmo (by kernel_rfl) (by kernel_rfl) ⟨⟨Wq.drawn+1,#[]⟩,by rw [grow_empty];rfl⟩ ?_;simp only [List.take_succ_cons,List.take_zero,List.drop_succ_cons,List.drop_zero];(repeat(refine wpQuietIn_step (fun _ _ _ _=>trivial) (fun K hK=>?_);go_simp;refine hK _ ?_;clear hK K));refine wpQuietIn_nil ?_;intro _ hw';obtain⟨⟨dr,osr⟩,hw''⟩:=hw';subst hw'';have fr:Q0 wr (grow (redrawn Wq dr) osr):=fq.trans' (Upd.of_below (below_regrown Wq dr osr));generalize grow (redrawn Wq dr) osr=Wr at *;clear q1 q2 r1 p1;have HPUT:=ZO w.heap.size (H+1+1) x.rO (x.cO) (B3++Jf x 2) Wr (HWQ.out.upd fr (fun _ _ h=>h.elim)) (by have:=HU.out.size;have:=fr.size;have:=HFW.out.size;omega) (by have:=HXK.out;have:=J5 this.1;have:=J5 HXK.out.2.2;omega) (by first|exact(QD HXO.out).2.2.2.1|exact(QD HXO.out).2.2.2.2.1|exact(QD HXO.out).2.2.2.2.2.1) (by have h1:=KC HXO.out 2;have h2:=HB3L.out;rw [List.length_append];omega);gi_wp2;refine⟨trivial,callsIn_wide.2 (HPUT.mono ?_)⟩;rintro e w5 ⟨rfl,u5,h5⟩;have b5:=(HB.out.fresh fr).upd u5 (fun hT=>by rcases hT with hT|⟨_,cs,hT⟩;omega;exact(HB.out.fresh fr).ne_ hT (by decide) rfl);have y5:=(HBY.out.fresh fr).upd u5 (fun hT=>by rcases hT with hT|⟨_,cs,hT⟩;exact HY2g.out hT;exact(HBY.out.fresh fr).ne_ hT (by decide) rfl);(have h6:Qd w5 (fun k=>w.heap.size<=k) (H+1+1) (B3++Jf x 3):=by simpa [Jf]using h5);have uu:=UW.put (UW.fresh HU.out fr) u5;have HR5:=hd_ (And.intro uu (And.intro b5 (And.intro h6 y5)));clear u5 h5 b5 y5 h6 uu HPUT;gi_wp2;gi_roundg 0
         case measure=>omega
         case rel=>exact⟨3,rfl,by go_num,HR5.out.1,HR5.out.2.1,HR5.out.2.2.1,HR5.out.2.2.2⟩
       (obtain rfl:gk=0:=by omega);gi_wp2;have hsp:=HSP.out;have hz4:=HZ4.out;have hhp:=HHP.out;have hhh:=HH.out;(have hback:∀k t cs,k<W.heap.size->Blk Wb k t cs->Blk W k t cs:=fun k t cs hk hb=>by unfold Blk at hb ⊢;rw [<-HWB.out.block k hk (fun h=>h)];exact hb);(have hWs:w4.heap.size<=W.heap.size:=by have h1:=HBSlt.out;omega);have uW:Upd (UW Wb w.heap.size H (H+1+1)) W wr:=(HWB.out.mono (T:=UW Wb w.heap.size H (H+1+1)) fun _ _ h=>h.elim).trans HU.out fun b hb h=>h;refine⟨Zb _ uW fun k hk hU=>?_,YF.upd uW fun k hk=>⟨by have:=HKD.out k hk;omega,fun hU=>?_⟩,?_⟩
       . rcases hU with rfl|rfl|⟨_,cs,hc⟩
         . exact⟨_,_,hback _ _ _ hk HBH.out⟩
         . obtain⟨cs,hc⟩:=HWR.out.lt.2
           exact⟨_,_,hback _ _ _ hk hc⟩
         exact⟨_,_,hback _ _ _ hk hc⟩
       . rcases(HKB.out k).1 hk with ⟨_,h⟩|rfl
         . rcases hU with hU|hU|⟨hU,_⟩<;>omega
         rcases hU with hU|hU|⟨_,cs,hU⟩
         . omega
         . omega
         exact HBSb.out.ne_ hU (by decide) rfl
       have hfin:=HFIN.out wr;rw [HLB.out,HS3.out]at hfin;exact hfin (HFW.out.trans HU.out fun b hb hU=>by rcases hU with hU|hU|⟨hU,_⟩<;>omega) (UW.blk HU.out HBSb.out (by decide) (by omega) (by omega)) HB.out (UW.blk HU.out HBS2.out (by decide) (by omega) (by omega)) (UW.blk HU.out HBP.out (by decide) (by omega) (by omega)) (UW.blk HU.out HBQ.out (by decide) (by omega) (by omega)) HWQ.out
 case done =>
   rintro D ys W hD rfl hI hK;obtain⟨hf,hbSb,hbH,hbS,hbP,hbQ,hwr⟩:=hI;have hall:=Q1T (Pq:=fun p:Nat × Qb=>p.2.ok/\Cov T p.2) T L hq L.length 0 (by omega);rw [HLN.out,List.drop_zero]at hall;have hwS:=Q3z HT.out ((bkP (Pq:=fun p:Nat × Qb=>p.2.ok/\Cov T p.2) L hq 0).map Subtype.val) (n:=n) (fun p hp=>by obtain⟨q,_,rfl⟩:=List.mem_map.1 hp;exact q.2);rw [hall,List.length_map,Xy,HLN.out]at hwS;rw [hall]at hbH hwr;obtain⟨S,B,hSB⟩:∃S B,wrB T L=(S,B):=⟨_,_,rfl⟩;(have hwE:wrE T L=B++(Qf T.pM S.m++Qf T.pO S.o++Qf T.pL S.l):=by unfold wrE;rw [hSB]);rw [hSB]at hbH hwr hwS;simp only at hbH hwr hwS;obtain⟨⟨s1,s2,s3⟩,hbl⟩:=hwS;obtain⟨⟨_,_,l1,_⟩,⟨_,_,l2,_⟩,⟨_,_,l3,_⟩⟩:=HT.out.wide;have HP9:=hd_ (show T.pL<=9/\T.pO<=9/\T.pM<=9 by omega);have HSL:=hd_ (And.intro s1 (And.intro s2 s3));have pw:∀p:Nat,p<=9->2^p<=512:=fun p hp=>Nat.le_trans (Nat.pow_le_pow_right (by decide) hp) (by decide);have m1:=pw _ HP9.out.1;have m2:=pw _ HP9.out.2.1;have m3:=pw _ HP9.out.2.2;have u1:IntKind.u64.wrap (S.l:Int)=S.l:=IntWalk.u64_in _ (by omega);have u2:IntKind.u64.wrap (S.o:Int)=S.o:=IntWalk.u64_in _ (by omega);have u3:IntKind.u64.wrap (S.m:Int)=S.m:=IntWalk.u64_in _ (by omega);have HBL:=hd_ (show B.length<=6600000 by omega);have HWE:=hd_ hwE;have HFW:=hd_ hf;have HBH:=hd_ hbH;have HBP:=hd_ hbP;have HWR:=hd_ hwr;have HK:=hd_ hK;have HHD:=hd_ (show H+4<=D by have:=HZ4.out;have:=HSP.out;have:=HHP.out;omega);have HCW:=hd_ (show ∀W',Q0 w W'->Qv W' G g0 T.pL T.NL/\Qv W' G g1 T.pO T.NO/\Qv W' G g2 T.pM T.NM from fun W' hu=>⟨HC.out.1.fresh hu,HC.out.2.1.fresh hu,HC.out.2.2.fresh hu⟩);clear hall hSB hwE s1 s2 s3 hbl l1 l2 l3 m1 m2 m3 pw hf hbSb hbH hbS hbP hbQ hwr hK;go_upto_region 22 with fail;obtain⟨Y,hY⟩:=nm_ (W.heap.size);obtain⟨Wd,hWd⟩:=nm_ (W.alloc (.cells #[.int .i64 2,.int .i64 1,.int .i64 0] 112));simp only [<-hY,<-hWd];(have fd:Q0 W Wd:=by rw [hWd];exact(Upd.refl _ _).alloc _);(have bY:Blk Wd Y 112 #[.int .i64 2,.int .i64 1,.int .i64 0]:=by rw [hWd];exact Q1 hY _ _);(have hYg:¬Y=H+1+1:=fun h=>by have:=HWR.out.lt.1;omega);have HYg:=hd_ hYg;have HY:=hd_ bY;have HFD:=hd_ (HFW.out.trans' fd);have HBH2:=hd_ (HBH.out.fresh fd);have HBP2:=hd_ (HBP.out.fresh fd);have HWR2:=hd_ (HWR.out.upd fd (fun _ _ h=>h.elim));have HK2:=hd_ (show Wd.heap[D]?=some (.deferred (some [])) by rw [fd.block D (Array.getElem?_eq_some_iff.1 HK.out).1 (fun h=>h)];exact HK.out);clear hY hWd fd bY hYg HFW HBH HBP HWR HK;have HTOB:=hd_ (show ∀(k:Nat) W',Upd (UW Wd w.heap.size H (H+1+1)) Wd W'->Q0 w W' from fun k W' hu=>HFD.out.trans hu fun b hb hU=>by have:=HH.out;rcases hU with hU|hU|⟨hU,_⟩<;>omega);go_loopg [108] 3 (fun f vi wr=>∃k:Nat,k+f=3/\vi = .int .i64 k/\Upd (UW Wd w.heap.size H (H+1+1)) Wd wr/\Blk wr H 96 (J6 g0 g1 g2 S)/\Qd wr (fun k=>w.heap.size<=k) (H+1+1) (B++ZB T S k)/\Blk wr Y 112 #[.int .i64 2,.int .i64 1,.int .i64 0])
   case atStart=>exact⟨0,rfl,rfl,Upd.refl _ _,HBH2.out,by simpa [ZB]using HWR2.out,HY.out⟩
   case round =>
     obtain⟨k,hkf,rfl,hu,hb,hwr,hy⟩:=hrel;have bP2:=UW.blk hu HBP2.out (by decide) (by omega) (by omega);have p0:=bP2.cell 0;have y0:=hy.cell 0;have y1:=hy.cell 1;have y2:=hy.cell 2;have t0:=hb.cell 0;have t1:=hb.cell 1;have t2:=hb.cell 2;have t3:=hb.cell 3;have t4:=hb.cell 4;have t5:=hb.cell 5;simp [J6]at p0 y0 y1 y2 t0 t1 t2 t3 t4 t5;have HCQ:=hd_ (HCW.out wr (HTOB.out k wr hu));have HU:=hd_ hu;have HB:=hd_ hb;have HWQ:=hd_ hwr;have HKF:=hd_ hkf;have HBY:=hd_ hy;clear hu hb hwr hy bP2;(have h4:k=0\/k=1\/k=2\/k=3:=by omega);rcases h4 with rfl|rfl|rfl|rfl
     . obtain rfl:gk=3:=by omega
       have HLG:=hd_ (fun W' (f:Q0 wr W')=>Q0m G g2 T.pM T.NM W' (HCQ.out.2.2.fresh f) HP9.out.2.2);go_upto_region 24 with fail;refine Yn 11 (by kernel_rfl) (by kernel_rfl) ?_;simp only [List.take_succ_cons,List.take_zero,List.drop_succ_cons,List.drop_zero];(repeat(first|go_big_quiet_step ((go_at_call 81;exact Calls.quiet_of_same (HLG.out _ ((Upd.refl _ _).drewN _))))|quiet_step (fail)));refine wpQuiet_nil ?_;rintro w5 ⟨q5,rfl⟩;have HPUT:=ZO w.heap.size (H+1+1) S.m T.pM (B++ZB T S 0) (wr.drewN q5) (HWQ.out.drewN _) (by have:=HU.out.size;have:=HFD.out.size;simp;omega) (by have:=HP9.out;omega) (by exact HSL.out.2.2) (by have h1:=Q0q T S HP9.out 0;have h2:=HBL.out;rw [List.length_append];omega);go_wp2_with fail;refine HPUT.mono ?_;rintro e w5 ⟨rfl,u5,h5⟩;have fr:Q0 wr (wr.drewN q5):=(Upd.refl _ _).drewN _;have b5:=(HB.out.fresh fr).upd u5 (fun hT=>by rcases hT with hT|⟨_,cs,hT⟩;omega;exact(HB.out.fresh fr).ne_ hT (by decide) rfl);have y5:=(HBY.out.fresh fr).upd u5 (fun hT=>by rcases hT with hT|⟨_,cs,hT⟩;exact HYg.out hT;exact(HBY.out.fresh fr).ne_ hT (by decide) rfl);(have h6:Qd w5 (fun k=>w.heap.size<=k) (H+1+1) (B++ZB T S 1):=by simpa [ZB]using h5);have uu:=UW.put (UW.fresh HU.out fr) u5;have HR5:=hd_ (And.intro uu (And.intro b5 (And.intro h6 y5)));clear u5 h5 b5 y5 h6 uu HPUT fr;go_wp2_with fail;go_roundg 2
       case measure=>omega
       case rel=>exact⟨1,rfl,by go_num,HR5.out.1,HR5.out.2.1,HR5.out.2.2.1,HR5.out.2.2.2⟩
     . obtain rfl:gk=2:=by omega
       have HLG:=hd_ (fun W' (f:Q0 wr W')=>Q0m G g1 T.pO T.NO W' (HCQ.out.2.1.fresh f) HP9.out.2.1);go_upto_region 24 with fail;refine Yn 11 (by kernel_rfl) (by kernel_rfl) ?_;simp only [List.take_succ_cons,List.take_zero,List.drop_succ_cons,List.drop_zero];(repeat(first|go_big_quiet_step ((go_at_call 81;exact Calls.quiet_of_same (HLG.out _ ((Upd.refl _ _).drewN _))))|quiet_step (fail)));refine wpQuiet_nil ?_;rintro w5 ⟨q5,rfl⟩;have HPUT:=ZO w.heap.size (H+1+1) S.o T.pO (B++ZB T S 1) (wr.drewN q5) (HWQ.out.drewN _) (by have:=HU.out.size;have:=HFD.out.size;simp;omega) (by have:=HP9.out;omega) (by exact HSL.out.2.1) (by have h1:=Q0q T S HP9.out 1;have h2:=HBL.out;rw [List.length_append];omega);go_wp2_with fail;refine HPUT.mono ?_;rintro e w5 ⟨rfl,u5,h5⟩;have fr:Q0 wr (wr.drewN q5):=(Upd.refl _ _).drewN _;have b5:=(HB.out.fresh fr).upd u5 (fun hT=>by rcases hT with hT|⟨_,cs,hT⟩;omega;exact(HB.out.fresh fr).ne_ hT (by decide) rfl);have y5:=(HBY.out.fresh fr).upd u5 (fun hT=>by rcases hT with hT|⟨_,cs,hT⟩;exact HYg.out hT;exact(HBY.out.fresh fr).ne_ hT (by decide) rfl);(have h6:Qd w5 (fun k=>w.heap.size<=k) (H+1+1) (B++ZB T S 2):=by simpa [ZB]using h5);have uu:=UW.put (UW.fresh HU.out fr) u5;have HR5:=hd_ (And.intro uu (And.intro b5 (And.intro h6 y5)));clear u5 h5 b5 y5 h6 uu HPUT fr;go_wp2_with fail;go_roundg 1
       case measure=>omega
       case rel=>exact⟨2,rfl,by go_num,HR5.out.1,HR5.out.2.1,HR5.out.2.2.1,HR5.out.2.2.2⟩
     . obtain rfl:gk=1:=by omega
       have HLG:=hd_ (fun W' (f:Q0 wr W')=>Q0m G g0 T.pL T.NL W' (HCQ.out.1.fresh f) HP9.out.1);go_upto_region 24 with fail;refine Yn 11 (by kernel_rfl) (by kernel_rfl) ?_;simp only [List.take_succ_cons,List.take_zero,List.drop_succ_cons,List.drop_zero];(repeat(first|go_big_quiet_step ((go_at_call 81;exact Calls.quiet_of_same (HLG.out _ ((Upd.refl _ _).drewN _))))|quiet_step (fail)));refine wpQuiet_nil ?_;rintro w5 ⟨q5,rfl⟩;have HPUT:=ZO w.heap.size (H+1+1) S.l T.pL (B++ZB T S 2) (wr.drewN q5) (HWQ.out.drewN _) (by have:=HU.out.size;have:=HFD.out.size;simp;omega) (by have:=HP9.out;omega) (by exact HSL.out.1) (by have h1:=Q0q T S HP9.out 2;have h2:=HBL.out;rw [List.length_append];omega);go_wp2_with fail;refine HPUT.mono ?_;rintro e w5 ⟨rfl,u5,h5⟩;have fr:Q0 wr (wr.drewN q5):=(Upd.refl _ _).drewN _;have b5:=(HB.out.fresh fr).upd u5 (fun hT=>by rcases hT with hT|⟨_,cs,hT⟩;omega;exact(HB.out.fresh fr).ne_ hT (by decide) rfl);have y5:=(HBY.out.fresh fr).upd u5 (fun hT=>by rcases hT with hT|⟨_,cs,hT⟩;exact HYg.out hT;exact(HBY.out.fresh fr).ne_ hT (by decide) rfl);(have h6:Qd w5 (fun k=>w.heap.size<=k) (H+1+1) (B++ZB T S 3):=by simpa [ZB]using h5);have uu:=UW.put (UW.fresh HU.out fr) u5;have HR5:=hd_ (And.intro uu (And.intro b5 (And.intro h6 y5)));clear u5 h5 b5 y5 h6 uu HPUT fr;go_wp2_with fail;go_roundg 0
       case measure=>omega
       case rel=>exact⟨3,rfl,by go_num,HR5.out.1,HR5.out.2.1,HR5.out.2.2.1,HR5.out.2.2.2⟩
     (obtain rfl:gk=0:=by omega);have h1:=Q0q T S HP9.out 3;(have hwl:(B++ZB T S 3).length<=2^29:=by have h2:=HBL.out;rw [List.length_append];omega);(have hends:(B++ZB T S 3)++[true]=wrE T L++[true]:=by rw [HWE.out];simp [ZB]);have hcl:=Q6I (fun k=>w.heap.size<=k) (H+1+1) (B++ZB T S 3) wr HWQ.out hwl;rw [hends]at hcl
     have hDw:wr.heap[D]?=some (.deferred (some [])):=by
       have hdlt:=(Array.getElem?_eq_some_iff.1 HK2.out).1
       rw [HU.out.block D hdlt (fun hU=>by
         have:=HHD.out;rcases hU with hU|hU|⟨_,cs,hU⟩
         . omega
         . omega
         unfold Blk at hU;rw [HK2.out]at hU;cases hU)]
       exact HK2.out
     have HDW:=hd_ hDw;have HFR:=hd_ (HTOB.out 0 wr HU.out);clear h1 hwl hends hDw t0 t1 t2 t3 t4 t5 y0 y1 y2;go_wp2_with fail;refine hcl.mono ?_;rintro e w6 ⟨v6,rfl,nb⟩;have NB:=hd_ nb;clear nb;go_wp2_with fail;(have hKy:w6.heap[D]?=some (.deferred (some [])):=by rw [NB.out.2.1.block D (Array.getElem?_eq_some_iff.1 HDW.out).1 (fun h=>h)];exact HDW.out);refine⟨by simp,.inl ⟨_,_,rfl,run_takeDeferred hKy,?_⟩⟩;refine⟨_,results_tmp rfl _ _ _,?_⟩;have u7:Upd (fun b=>b=D) w6 (w6.putObj D (.deferred none)):=(Upd.refl (fun b=>b=D) w6).grown (grownBy_putObj' w6 D _) (fun k e _=>by injection e with e;exact e.symm);refine hR.out _ _ ⟨v6,rfl,NB.out.1.upd u7 (fun b hb ht=>by obtain⟨cs,hc⟩:=NB.out.1.blk hb;subst ht;unfold Blk at hc;rw [hKy]at hc;cases hc),(HFR.out.trans' NB.out.2.1).trans u7 (fun b hb h=>by have:=HHD.out;have:=HH.out;omega),fun k hk=>Nat.le_trans HFR.out.size (NB.out.2.2 k hk)⟩
 case stop =>
   rintro D c pre W _ _ h _;exact h.elim
end Go.Proofs.YtjfdaphjijfieaaGreat
namespace Go.Proofs.YtjfdaphjijfieaaGreat
open Go.RowKit
def Y8 (T:Qa) (a b c:Int) (l:List (Int × Int × Int)):Int × List Nat × Qa × Int × Int × Int :=
  if Qz a b c=false then(2,[],Qa.none,0,0,0)else if 65536<l.length then(15,[],Qa.none,0,0,0)else if ¬ ∀s∈l,J4 s then(2,[],Qa.none,0,0,0)
  else if l=[]then(0,[0],T,a,b,c)else(0,Ka T a b c l,Yd T (Qr a b c l),JF a b c l)
def Q4F (S:Int × List Nat × Qa × Int × Int × Int) (Tr:List Int) (w:World) (e:Ending) (w':World):Prop :=
  Q0 w w'/\(if S.1=0 then ∃v D h i A n c B m d C k e1,e = .returned (.tuple #[v,.agg #[.slice D h i,.int .i64 S.2.2.1.lL,.slice A n c,.int .i64 S.2.2.1.lO,.slice B m d,.int .i64 S.2.2.1.lM,.slice C k e1,.int .i64 S.2.2.2.1,.int .i64 S.2.2.2.2.1,.int .i64 S.2.2.2.2.2],.int .i64 0]) /\
      Own w' 5 v (Q9 S.2.1)/\(∀b,v.ownBlock=some b->w.heap.size<=b)/\RdU w' (fun b=>w.heap.size<=b) D h (Q2 Tr)/\RdU w' (fun b=>w.heap.size<=b) A n (Q2 S.2.2.1.NL)/\RdU w' (fun b=>w.heap.size<=b) B m (Q2 S.2.2.1.NO)/\RdU w' (fun b=>w.heap.size<=b) C k (Q2 S.2.2.1.NM)
    else e = .returned (.tuple #[.slice none 0 0,.agg #[.slice none 0 0,.int .i64 0,.slice none 0 0,.int .i64 0,.slice none 0 0,.int .i64 0,.slice none 0 0,.int .i64 0,.int .i64 0,.int .i64 0],.int .i64 S.1]))
def Z8 (S:Int × List Nat × Qa × Int × Int × Int) (Tr:List Int) (w:World) (e:Ending) (w':World):Prop :=
  Q0 w w'/\(if S.1=0 then ∃v D h i A n c B m d C k e1,e = .returned (.tuple #[v,.agg #[.slice D h i,.int .i64 S.2.2.1.lL,.slice A n c,.int .i64 S.2.2.1.lO,.slice B m d,.int .i64 S.2.2.1.lM,.slice C k e1,.int .i64 S.2.2.2.1,.int .i64 S.2.2.2.2.1,.int .i64 S.2.2.2.2.2],.int .i64 0]) /\
      Own w' 5 v (Q9 S.2.1)/\(∀b,v.ownBlock=some b->w.heap.size<=b)/\RdU w' (fun b=>w.heap.size<=b/\v.ownBlock≠some b) D h (Q2 Tr)/\RdU w' (fun b=>w.heap.size<=b/\v.ownBlock≠some b) A n (Q2 S.2.2.1.NL)/\RdU w' (fun b=>w.heap.size<=b/\v.ownBlock≠some b) B m (Q2 S.2.2.1.NO)/\RdU w' (fun b=>w.heap.size<=b/\v.ownBlock≠some b) C k (Q2 S.2.2.1.NM)
    else e = .returned (.tuple #[.slice none 0 0,.agg #[.slice none 0 0,.int .i64 0,.slice none 0 0,.int .i64 0,.slice none 0 0,.int .i64 0,.slice none 0 0,.int .i64 0,.int .i64 0,.int .i64 0],.int .i64 S.1]))
theorem Z8.weak {S:Int × List Nat × Qa × Int × Int × Int} {Tr:List Int} {w:World} {e:Ending} {w':World} (h:Z8 S Tr w e w'):Q4F S Tr w e w':=by
 refine⟨h.1,?_⟩;have h2:=h.2;split at h2
 . rename_i h0
   obtain⟨v,D,hh,i,A,n,c,B,m,d,C,k,e1,he,ho,hb,r0,r1,r2,r3⟩:=h2;rw [if_pos h0];exact⟨v,D,hh,i,A,n,c,B,m,d,C,k,e1,he,ho,hb,r0.mono (fun b hb=>hb.1),r1.mono (fun b hb=>hb.1),r2.mono (fun b hb=>hb.1),r3.mono (fun b hb=>hb.1)⟩
 rename_i h0
 rw [if_neg h0];exact h2
end Go.Proofs.YtjfdaphjijfieaaGreat
namespace Go.Proofs.YtjfdaphjijfieaaGreat
open Go.RowKit Go.Shelf Go.Sort
theorem Q4G (D A B C L:Option Addr) (h i n c m d k e nl dl:Nat) (T:Qa) (Tr:List Int) (r0 r1 r2:Int) (l:List (Int × Int × Int)) (w:World) (hrep:Qz r0 r1 r2=false) :
   Calls Tryz.prog 24 #[.agg #[.slice D h i,.int .i64 T.lL,.slice A n c,.int .i64 T.lO,.slice B m d,.int .i64 T.lM,.slice C k e,.int .i64 r0,.int .i64 r1,.int .i64 r2],.slice L nl dl] w (Z8 (Y8 T r0 r1 r2 l) Tr w):=by
 obtain⟨w0,hw0⟩:=nm_ ((w.alloc (.cells #[.slice D h i,.int .i64 T.lL,.slice A n c,.int .i64 T.lO,.slice B m d,.int .i64 T.lM,.slice C k e,.int .i64 r0,.int .i64 r1,.int .i64 r2] 32)).alloc (.cells #[.slice none 0 0,.int .i64 0,.slice none 0 0,.int .i64 0,.slice none 0 0,.int .i64 0,.slice none 0 0,.int .i64 0,.int .i64 0,.int .i64 0] 32));obtain⟨H,hH⟩:=nm_ (w.heap.size);(have f0:Q0 w w0:=by rw [hw0];exact((Upd.refl _ _).alloc _).alloc _);(have bc:Blk w0 H 32 #[.slice D h i,.int .i64 T.lL,.slice A n c,.int .i64 T.lO,.slice B m d,.int .i64 T.lM,.slice C k e,.int .i64 r0,.int .i64 r1,.int .i64 r2]:=by rw [hw0];exact(Q1 hH _ _).alloc _);(have bo:Blk w0 (H+1) 32 #[.slice none 0 0,.int .i64 0,.slice none 0 0,.int .i64 0,.slice none 0 0,.int .i64 0,.slice none 0 0,.int .i64 0,.int .i64 0,.int .i64 0]:=by rw [hw0];exact Q1 (by simp [hH]) _ _);have HW:=hd_ hw0;have HH:=hd_ hH;have F0:=hd_ f0;have BO:=hd_ bo;have HRP2:=hd_ (ZV r0 r1 r2 w0);have HE:=hd_ (show Y8 T r0 r1 r2 l=(2,[],Qa.none,0,0,0)from if_pos hrep);rw [hrep]at HRP2;have q0:=bc.cell 7;have q1:=bc.cell 8;have q2:=bc.cell 9;simp at q0 q1 q2;clear hw0 hH f0 bc bo hrep;refine Q6 fun R hR=>?_;go_enter Tryz.func24,Tryz.ntmps24;go_upto_region 1 with fail;simp only [<-HH.out,<-HW.out];go_wp2_with fail;refine HRP2.out.mono ?_;rintro e1 w1 ⟨rfl,f1⟩;have F1:=hd_ f1;clear f1 q0 q1 q2;have o5:=BO.out.fresh F1.out;have x0:=o5.cell 0;have x1:=o5.cell 1;have x2:=o5.cell 2;have x3:=o5.cell 3;have x4:=o5.cell 4;have x5:=o5.cell 5;have x6:=o5.cell 6;have x7:=o5.cell 7;have x8:=o5.cell 8;have x9:=o5.cell 9;obtain⟨z0,z1,z2,z3,z4,z5,z6,z7,z8,z9⟩:=(o5).frozens10;simp at x0 x1 x2 x3 x4 x5 x6 x7 x8 x9;have hO:=o5.set10 (.slice none 0 0) (.int .i64 0) (.slice none 0 0) (.int .i64 0) (.slice none 0 0) (.int .i64 0) (.slice none 0 0) (.int .i64 0) (.int .i64 0) (.int .i64 0);obtain⟨d0,d1,d2,d3,d4,d5,d6,d7,d8,d9⟩:=(hO).cells10;have HD:=hd_ (And.intro d0 (And.intro d1 (And.intro d2 (And.intro d3 (And.intro d4 (And.intro d5 (And.intro d6 (And.intro d7 (And.intro d8 (d9))))))))));have HUF:=hd_ ((F0.out.trans' F1.out).trans (JN w1 (H+1) (.slice none 0 0) (.int .i64 0) (.slice none 0 0) (.int .i64 0) (.slice none 0 0) (.int .i64 0) (.slice none 0 0) (.int .i64 0) (.int .i64 0) (.int .i64 0)) (fun b hb e=>by have:=HH.out;omega));clear o5 hO d0 d1 d2 d3 d4 d5 d6 d7 d8 d9;go_wp2_with fail;obtain⟨d0,d1,d2,d3,d4,d5,d6,d7,d8,d9⟩:=HD.out;refine bodyPost_ret (v:=.tuple #[.slice none 0 0,.agg #[.slice none 0 0,.int .i64 0,.slice none 0 0,.int .i64 0,.slice none 0 0,.int .i64 0,.slice none 0 0,.int .i64 0,.int .i64 0,.int .i64 0],.int .i64 2]) (by simp [results,Tryz.results24,go_sem,d0,d1,d2,d3,d4,d5,d6,d7,d8,d9]) rfl ?_
 refine hR.out _ _ ⟨HUF.out,?_⟩;rw [HE.out];exact(if_neg (by simp)).mpr rfl
theorem Q9I (FL:Nat->Prop) (D A B C L:Option Addr) (h i n c m d k e nl dl:Nat) (T:Qa) (Tr:List Int) (r0 r1 r2:Int) (l:List (Int × Int × Int)) (w:World) (hrep:Qz r0 r1 r2=true)
   (hL:RdK w FL 3 L nl (l.map tri)) (hfit:∀s∈l,-(2^63)<=s.2.1/\s.2.1<2^63) (hnl:nl<=65536) (hbad:¬ ∀s∈l,J4 s) :
   Calls Tryz.prog 24 #[.agg #[.slice D h i,.int .i64 T.lL,.slice A n c,.int .i64 T.lO,.slice B m d,.int .i64 T.lM,.slice C k e,.int .i64 r0,.int .i64 r1,.int .i64 r2],.slice L nl dl] w (Z8 (Y8 T r0 r1 r2 l) Tr w):=by
 obtain⟨w0,hw0⟩:=nm_ ((w.alloc (.cells #[.slice D h i,.int .i64 T.lL,.slice A n c,.int .i64 T.lO,.slice B m d,.int .i64 T.lM,.slice C k e,.int .i64 r0,.int .i64 r1,.int .i64 r2] 32)).alloc (.cells #[.slice none 0 0,.int .i64 0,.slice none 0 0,.int .i64 0,.slice none 0 0,.int .i64 0,.slice none 0 0,.int .i64 0,.int .i64 0,.int .i64 0] 32));obtain⟨H,hH⟩:=nm_ (w.heap.size);(have f0:Q0 w w0:=by rw [hw0];exact((Upd.refl _ _).alloc _).alloc _);(have bc:Blk w0 H 32 #[.slice D h i,.int .i64 T.lL,.slice A n c,.int .i64 T.lO,.slice B m d,.int .i64 T.lM,.slice C k e,.int .i64 r0,.int .i64 r1,.int .i64 r2]:=by rw [hw0];exact(Q1 hH _ _).alloc _);(have bo:Blk w0 (H+1) 32 #[.slice none 0 0,.int .i64 0,.slice none 0 0,.int .i64 0,.slice none 0 0,.int .i64 0,.slice none 0 0,.int .i64 0,.int .i64 0,.int .i64 0]:=by rw [hw0];exact Q1 (by simp [hH]) _ _);have HW:=hd_ hw0;have HH:=hd_ hH;have F0:=hd_ f0;have BO:=hd_ bo;have HRP2:=hd_ (ZV r0 r1 r2 w0);(have hln:l.length=nl:=by have:=hL.1;simpa using this);have HE:=hd_ (show Y8 T r0 r1 r2 l=(2,[],Qa.none,0,0,0)from by unfold Y8;rw [if_neg (by rw [hrep];simp),if_neg (by omega),if_pos hbad]);have HCD:=hd_ (fun W (f:Q0 w0 W)=>Q0a FL L nl dl r0 r1 r2 l W ((hL.fresh f0).fresh f) hfit hnl hrep);rw [hrep]at HRP2;(have hgt:¬(65536:Int)<nl:=by omega);have BC:=hd_ bc;have HBAD:=hd_ hbad;clear hln hL hfit hbad hnl;have q0:=bc.cell 7;have q1:=bc.cell 8;have q2:=bc.cell 9;simp at q0 q1 q2;clear hw0 hH f0 bc bo hrep;refine Q6 fun R hR=>?_;go_enter Tryz.func24,Tryz.ntmps24;go_upto_region 1 with fail;simp only [<-HH.out,<-HW.out];go_wp2_with fail;refine HRP2.out.mono ?_;rintro e1 w1 ⟨rfl,f1⟩;have F1:=hd_ f1;clear f1 q0 q1 q2;have b1:=BC.out.fresh F1.out;have q0:=b1.cell 7;have q1:=b1.cell 8;have q2:=b1.cell 9;simp at q0 q1 q2;clear b1;go_wp2_with fail;refine(HCD.out _ F1.out).mono ?_;rintro e2 w2 ⟨f2,hp⟩;rw [if_neg HBAD.out]at hp;obtain⟨x,y,z,rfl⟩:=hp;have F2:=hd_ (F1.out.trans' f2);clear f2 q0 q1 q2;go_upto_region 6 with fail;obtain⟨w3,hw3⟩:=nm_ (w2.alloc (.cells #[.int .i64 x,.int .i64 y,.int .i64 z] 30));simp only [<-hw3];have F3:=hd_ (F2.out.trans' (show Q0 w2 w3 by rw [hw3];exact(Upd.refl _ _).alloc _));clear hw3;have o5:=BO.out.fresh F3.out;have x0:=o5.cell 0;have x1:=o5.cell 1;have x2:=o5.cell 2;have x3:=o5.cell 3;have x4:=o5.cell 4;have x5:=o5.cell 5;have x6:=o5.cell 6;have x7:=o5.cell 7;have x8:=o5.cell 8;have x9:=o5.cell 9;obtain⟨z0,z1,z2,z3,z4,z5,z6,z7,z8,z9⟩:=(o5).frozens10;simp at x0 x1 x2 x3 x4 x5 x6 x7 x8 x9;have hO:=o5.set10 (.slice none 0 0) (.int .i64 0) (.slice none 0 0) (.int .i64 0) (.slice none 0 0) (.int .i64 0) (.slice none 0 0) (.int .i64 0) (.int .i64 0) (.int .i64 0)
 obtain⟨d0,d1,d2,d3,d4,d5,d6,d7,d8,d9⟩:=(hO).cells10;have HD:=hd_ (And.intro d0 (And.intro d1 (And.intro d2 (And.intro d3 (And.intro d4 (And.intro d5 (And.intro d6 (And.intro d7 (And.intro d8 (d9))))))))));have HUF:=hd_ ((F0.out.trans' F3.out).trans (JN w3 (H+1) (.slice none 0 0) (.int .i64 0) (.slice none 0 0) (.int .i64 0) (.slice none 0 0) (.int .i64 0) (.slice none 0 0) (.int .i64 0) (.int .i64 0) (.int .i64 0)) (fun b hb e=>by have:=HH.out;omega));clear o5 hO d0 d1 d2 d3 d4 d5 d6 d7 d8 d9;go_wp2_with fail;obtain⟨d0,d1,d2,d3,d4,d5,d6,d7,d8,d9⟩:=HD.out;refine bodyPost_ret (v:=.tuple #[.slice none 0 0,.agg #[.slice none 0 0,.int .i64 0,.slice none 0 0,.int .i64 0,.slice none 0 0,.int .i64 0,.slice none 0 0,.int .i64 0,.int .i64 0,.int .i64 0],.int .i64 2]) (by simp [results,Tryz.results24,go_sem,d0,d1,d2,d3,d4,d5,d6,d7,d8,d9]) rfl ?_;refine hR.out _ _ ⟨HUF.out,?_⟩;rw [HE.out];exact(if_neg (by simp)).mpr rfl
theorem Q9J (FL G:Nat->Prop) (D A B C L:Option Addr) (h i n c m d k e dl:Nat) (T:Qa) (Tr:List Int) (r0 r1 r2:Int) (w:World) (hrep:Qz r0 r1 r2=true)
   (hL:RdK w FL 3 L 0 []) (h0:Rd w G D h (Q2 Tr)) (h1:Rd w G A n (Q2 T.NL)) (h2:Rd w G B m (Q2 T.NO)) (h3:Rd w G C k (Q2 T.NM)) (b0:h<=2^40) (b1:n<=2^40) (b2:m<=2^40) (b3:k<=2^40) :
   Calls Tryz.prog 24 #[.agg #[.slice D h i,.int .i64 T.lL,.slice A n c,.int .i64 T.lO,.slice B m d,.int .i64 T.lM,.slice C k e,.int .i64 r0,.int .i64 r1,.int .i64 r2],.slice L 0 dl] w (Z8 (Y8 T r0 r1 r2 []) Tr w):=by
 obtain⟨w0,hw0⟩:=nm_ ((w.alloc (.cells #[.slice D h i,.int .i64 T.lL,.slice A n c,.int .i64 T.lO,.slice B m d,.int .i64 T.lM,.slice C k e,.int .i64 r0,.int .i64 r1,.int .i64 r2] 32)).alloc (.cells #[.slice none 0 0,.int .i64 0,.slice none 0 0,.int .i64 0,.slice none 0 0,.int .i64 0,.slice none 0 0,.int .i64 0,.int .i64 0,.int .i64 0] 32));obtain⟨H,hH⟩:=nm_ (w.heap.size);(have f0:Q0 w w0:=by rw [hw0];exact((Upd.refl _ _).alloc _).alloc _);(have bc:Blk w0 H 32 #[.slice D h i,.int .i64 T.lL,.slice A n c,.int .i64 T.lO,.slice B m d,.int .i64 T.lM,.slice C k e,.int .i64 r0,.int .i64 r1,.int .i64 r2]:=by rw [hw0];exact(Q1 hH _ _).alloc _);(have bo:Blk w0 (H+1) 32 #[.slice none 0 0,.int .i64 0,.slice none 0 0,.int .i64 0,.slice none 0 0,.int .i64 0,.slice none 0 0,.int .i64 0,.int .i64 0,.int .i64 0]:=by rw [hw0];exact Q1 (by simp [hH]) _ _);have HW:=hd_ hw0;have HH:=hd_ hH;have F0:=hd_ f0;have BO:=hd_ bo;have HRP2:=hd_ (ZV r0 r1 r2 w0);have HE:=hd_ (show Y8 T r0 r1 r2 []=(0,[0],T,r0,r1,r2)from by unfold Y8;rw [if_neg (by rw [hrep];simp),if_neg (by simp),if_neg (by simp),if_pos rfl]);have HCD:=hd_ (fun W (f:Q0 w0 W)=>Q0a FL L 0 dl r0 r1 r2 [] W ((hL.fresh f0).fresh f) (by simp) (by omega) hrep);have HTB:=hd_ (fun W=>KY A B C D n c m d k e h i T.lL T.lO T.lM r0 r1 r2 W);rw [hrep]at HRP2;have BC:=hd_ bc;have HRD:=hd_ (And.intro (h0.fresh f0) (And.intro (h1.fresh f0) (And.intro (h2.fresh f0) (h3.fresh f0))));have HBD:=hd_ (And.intro b0 (And.intro b1 (And.intro b2 b3)));clear hL h0 h1 h2 h3 b0 b1 b2 b3;have q0:=bc.cell 7;have q1:=bc.cell 8;have q2:=bc.cell 9;simp at q0 q1 q2;clear hw0 hH f0 bc bo hrep;refine Q6 fun R hR=>?_;go_enter Tryz.func24,Tryz.ntmps24;go_upto_region 1 with fail;simp only [<-HH.out,<-HW.out];go_wp2_with fail;refine HRP2.out.mono ?_;rintro e1 w1 ⟨rfl,f1⟩;have F1:=hd_ f1;clear f1 q0 q1 q2;have b1:=BC.out.fresh F1.out;have q0:=b1.cell 7;have q1:=b1.cell 8;have q2:=b1.cell 9;simp at q0 q1 q2;clear b1;go_wp2_with fail;refine(HCD.out _ F1.out).mono ?_;rintro e2 w2 ⟨f2,hp⟩;rw [if_pos (by simp)]at hp;obtain⟨v,rfl,hv,_⟩:=hp;have F2:=hd_ (F1.out.trans' f2);clear f2 q0 q1 q2 hv;go_upto_region 6 with fail;obtain⟨Y,hY⟩:=nm_ (w2.heap.size);obtain⟨w3,hw3⟩:=nm_ (w2.alloc (.cells #[.int .i64 r0,.int .i64 r1,.int .i64 r2] 30));simp only [JF];simp only [<-hY,<-hw3];have F3:=hd_ (F2.out.trans' (show Q0 w2 w3 by rw [hw3];exact(Upd.refl _ _).alloc _));have BY:=hd_ (show Blk w3 Y 30 #[.int .i64 r0,.int .i64 r1,.int .i64 r2] by rw [hw3];exact Q1 hY _ _);have HPV:=hd_ (Q3l 0 w3 (by omega));clear hw3 hY;go_wp2_with fail;refine(show Calls Tryz.prog 27 #[.slice none 0 0,.int .u64 0] w3 _ from HPV.out).mono ?_
 rintro e4 w4 ⟨vb,rfl,nb⟩;have F4:=hd_ (F3.out.trans' nb.2.1);have NB:=hd_ nb
 have HCL:=hd_ (show ∀W,Q0 w4 W->W.cell? ⟨H,0,none⟩=some (.slice D h i)/\W.cell? ⟨H,1,none⟩=some (.int .i64 T.lL)/\W.cell? ⟨H,2,none⟩=some (.slice A n c)/\W.cell? ⟨H,3,none⟩=some (.int .i64 T.lO)/\W.cell? ⟨H,4,none⟩=some (.slice B m d)/\W.cell? ⟨H,5,none⟩=some (.int .i64 T.lM)/\W.cell? ⟨H,6,none⟩=some (.slice C k e)/\W.cell? ⟨H,7,none⟩=some (.int .i64 r0)/\W.cell? ⟨H,8,none⟩=some (.int .i64 r1)/\W.cell? ⟨H,9,none⟩=some (.int .i64 r2)/\W.cell? ⟨Y,0,none⟩=some (.int .i64 r0)/\W.cell? ⟨Y,1,none⟩=some (.int .i64 r1)/\W.cell? ⟨Y,2,none⟩=some (.int .i64 r2)from fun W f=>by
   have bb:=BC.out.fresh (F4.out.trans' f);have by_:=(BY.out.fresh NB.out.2.1).fresh f
   refine⟨by simpa using bb.cell 0,by simpa using bb.cell 1,by simpa using bb.cell 2,by simpa using bb.cell 3,by simpa using bb.cell 4,by simpa using bb.cell 5,by simpa using bb.cell 6,by simpa using bb.cell 7,by simpa using bb.cell 8,by simpa using bb.cell 9,by simpa using by_.cell 0,by simpa using by_.cell 1,by simpa using by_.cell 2⟩)
 have HBE:=hd_ (fun W (f:Q0 w0 W)=>KZ G G D A B C A B C h i n c m d k e n c m d k e T.lL T.lO T.lM r0 r1 r2 T.lL T.lO T.lM r0 r1 r2 Tr T.NL T.NO T.NM W (HRD.out.1.fresh f) (HRD.out.2.1.fresh f) (HRD.out.2.2.1.fresh f) (HRD.out.2.2.2.fresh f) HBD.out.1 HBD.out.2.1 HBD.out.2.2.1 HBD.out.2.2.2);obtain⟨g0,g1,g2,g3,g4,g5,g6,g7,g8,g9,g10,g11,g12⟩:=HCL.out w4 (Upd.refl _ _);clear nb
 have HCO:=hd_ (show ∀W,Q0 w0 W->W.cell? ⟨H+1,0,none⟩=some (.slice none 0 0)/\W.cell? ⟨H+1,1,none⟩=some (.int .i64 0)/\W.cell? ⟨H+1,2,none⟩=some (.slice none 0 0)/\W.cell? ⟨H+1,3,none⟩=some (.int .i64 0)/\W.cell? ⟨H+1,4,none⟩=some (.slice none 0 0)/\W.cell? ⟨H+1,5,none⟩=some (.int .i64 0)/\W.cell? ⟨H+1,6,none⟩=some (.slice none 0 0)/\W.cell? ⟨H+1,7,none⟩=some (.int .i64 0)/\W.cell? ⟨H+1,8,none⟩=some (.int .i64 0)/\W.cell? ⟨H+1,9,none⟩=some (.int .i64 0)/\W.frozen? ⟨H+1,0,none⟩=false/\W.frozen? ⟨H+1,1,none⟩=false/\W.frozen? ⟨H+1,2,none⟩=false/\W.frozen? ⟨H+1,3,none⟩=false/\W.frozen? ⟨H+1,4,none⟩=false/\W.frozen? ⟨H+1,5,none⟩=false/\W.frozen? ⟨H+1,6,none⟩=false/\W.frozen? ⟨H+1,7,none⟩=false/\W.frozen? ⟨H+1,8,none⟩=false/\W.frozen? ⟨H+1,9,none⟩=false from fun W f=>by
   have bb:=BO.out.fresh f
   refine⟨by simpa using bb.cell 0,by simpa using bb.cell 1,by simpa using bb.cell 2,by simpa using bb.cell 3,by simpa using bb.cell 4,by simpa using bb.cell 5,by simpa using bb.cell 6,by simpa using bb.cell 7,by simpa using bb.cell 8,by simpa using bb.cell 9,bb.frozen 0,bb.frozen 1,bb.frozen 2,bb.frozen 3,bb.frozen 4,bb.frozen 5,bb.frozen 6,bb.frozen 7,bb.frozen 8,bb.frozen 9⟩)
 go_upto_region 10 with fail
 go_region_with
   (first
     | (go_at_call 36;refine(HTB.out _).mono ?_;rintro e5 w5 ⟨rfl,f5⟩;have f5':Q0 w4 w5:=(by first|exact f5|exact Upd.trans' ((Upd.refl _ _).drew) f5);obtain⟨k0,k1,k2,k3,k4,k5,k6,k7,k8,k9,k10,k11,k12⟩:=HCL.out w5 f5')
     | (go_at_call 35;refine(HBE.out _ (F4.out.trans' f5')).mono ?_;rintro e6 w6 ⟨D',i',A',c',B',d',C',e6',rfl,hb0,hb1,hb2,hb3,f6⟩;have F6:Q0 w0 w6:=(F4.out.trans' f5').trans' f6;obtain⟨o0,o1,o2,o3,o4,o5,o6,o7,o8,o9,o10,o11,o12,o13,o14,o15,o16,o17,o18,o19⟩:=HCO.out w6 F6))
 all_goals
   have hO:=(BO.out.fresh F6).set10 (.slice D' h i') (.int .i64 T.lL) (.slice A' n c') (.int .i64 T.lO) (.slice B' m d') (.int .i64 T.lM) (.slice C' k e6') (.int .i64 r0) (.int .i64 r1) (.int .i64 r2);obtain⟨d0,d1,d2,d3,d4,d5,d6,d7,d8,d9⟩:=(hO).cells10;have us:=JN w6 (H+1) (.slice D' h i') (.int .i64 T.lL) (.slice A' n c') (.int .i64 T.lO) (.slice B' m d') (.int .i64 T.lM) (.slice C' k e6') (.int .i64 r0) (.int .i64 r1) (.int .i64 r2);have hHH:=HH.out;have hlo:H+1<w3.heap.size:=(BO.out.fresh F3.out).lt;have hl4:=NB.out.2.1.size;have hl5:=f5'.size;have hw3:=F3.out.size;have hw0:=F0.out.size;clear hO o0 o1 o2 o3 o4 o5 o6 o7 o8 o9 o10 o11 o12 o13 o14 o15 o16 o17 o18 o19;go_wp2_with fail;refine bodyPost_ret (v:=.tuple #[vb,.agg #[.slice D' h i',.int .i64 T.lL,.slice A' n c',.int .i64 T.lO,.slice B' m d',.int .i64 T.lM,.slice C' k e6',.int .i64 r0,.int .i64 r1,.int .i64 r2],.int .i64 0]) (by simp [results,Tryz.results24,go_sem,d0,d1,d2,d3,d4,d5,d6,d7,d8,d9]) rfl ?_;refine hR.out _ _ ⟨(F0.out.trans' F6).trans us (fun b hb e=>by omega),?_⟩;rw [HE.out];refine(if_pos rfl).mpr ⟨vb,D',h,i',A',n,c',B',m,d',C',k,e6',rfl,?_,?_,?_,?_,?_,?_⟩
   . exact((NB.out.1.upd (f5'.trans' f6) (fun b hb ht=>ht)).upd us (fun b hb e=>by have:=NB.out.2.2 b hb;omega))
   . exact fun b hb=>by have:=NB.out.2.2 b hb;omega
   . exact(hb0.upd us (fun b hl h h'=>by omega)).mono (fun b h=>⟨by omega,fun h2=>by have:=NB.out.1.lt h2;omega⟩)
   . exact(hb1.upd us (fun b hl h h'=>by omega)).mono (fun b h=>⟨by omega,fun h2=>by have:=NB.out.1.lt h2;omega⟩)
   . exact(hb2.upd us (fun b hl h h'=>by omega)).mono (fun b h=>⟨by omega,fun h2=>by have:=NB.out.1.lt h2;omega⟩)
   exact(hb3.upd us (fun b hl h h'=>by omega)).mono (fun b h=>⟨by omega,fun h2=>by have:=NB.out.1.lt h2;omega⟩)
end Go.Proofs.YtjfdaphjijfieaaGreat
