/-
  Joined texts, part 41: contracts and plain lemmas.
  Conditions: none beyond those of each theorem.
-/
import Derived.Test.YtckjdhaflokcgaaGreatQ37
import Derived.Test.YtckjdhaflokcgaaGreatQ35
import Derived.Test.YtckjdhaflokcgaaGreatQ14
set_option maxHeartbeats 2000000
set_option linter.unusedVariables false
set_option linter.unusedSimpArgs false
set_option linter.unnecessarySimpa false
set_option maxRecDepth 100000
universe u
namespace Go.Proofs.YtckjdhaflokcgaaGreat
open Go.RowKit Go.Shelf
attribute [local go_sem] Oper.semAt_some
def X7 (l:List Int) {n:Nat} (x:{ s:Nat // s<n }):Array Value:=#[.int .i64 (x.1:Nat),.agg #[.int .i64 ((Qh l x.1).1:Nat),.int .u32 ((Qh l x.1).2:Nat)]]
theorem Q3z {n:Nat} (Fe:Fence) (m lc P Q g on c:Nat) (A:Option Addr) (l:List Int) (O:List { s:Nat // s<n }) (Kb Fl:Nat->Prop) (hft:Fe.fn 326) (hro:Fe.round=none) (hd:Fe.depth=none)
   (J Jx:List { s:Nat // s<n }->World->Prop)
   (hY:∀pre x W,J pre W->pre.length<on->YieldAt Fe (m-1) Tryz.prog lc (X7 l x) W fun e W' =>
     (e = .returned (.bool true)/\J (pre++[x]) W'/\QI Kb W W')\/(e = .returned (.bool false)/\Jx (pre++[x]) W'))
   (W:World) (hP:W.cell? ⟨P,0,none⟩=some (.slice A on c)) (hKP:Kb P) (hQ:W.cell? ⟨Q,0,none⟩=some (.slice (some ⟨g,0,none⟩) n n)) (hKQ:Kb Q)
   (hR:Rd W Fl A on (YH (O.map Subtype.val))) (hKF:∀b,Fl b->Kb b) (hC:RdK W (fun b=>b=g) 2 (some ⟨g,0,none⟩) n ((Qz l).map cd2)) (hKg:Kb g) (hL:l.length=n) (hn:on<=2^40) (h0:J [] W) :
   CallsIn Fe m Tryz.prog 326 #[.func (.yield lc) #[] #[],.pointer (some ⟨P,0,none⟩),.pointer (some ⟨Q,0,none⟩)] W fun e W'=>(∃v,e = .returned v) /\
     ((∃ys,ys=O/\J ys W')\/(∃pre,True/\Jx pre W')):=by
 (have hOL:O.length=on:=by have:=hR.1;simpa [YH]using this);refine callsIn_of_wp Tryz.func326 rfl hft ?_ hro;simp only [Tryz.ntmps326,List.size_toArray,List.length_cons,List.length_nil,Nat.reduceAdd,Nat.reduceSub,Array.replicate_succ,Array.replicate_zero,List.push_toArray,List.append_toArray,List.nil_append,List.cons_append];gi_wp2;refine XV ?_;refine wpIn_seq (wpIn_label ?_);gi_wp2;gi_loopg [8] on (fun f i wr=>∃k:Nat,k+f=on/\i = .int .i64 (k:Nat)/\J (O.take k) wr/\QI Kb W wr)
 case atStart=>exact⟨0,by omega,rfl,by simpa using h0,QI.refl _ _⟩
 case round =>
   obtain⟨k,hk,rfl,hJ,hkb⟩:=hrel;have hQ':wr.cell? ⟨Q,0,none⟩=some (.slice (some ⟨g,0,none⟩) n n):=(hkb.cell hKQ 0).trans hQ;by_cases hlt:k<on
   . have hkI:(k:Int)<on:=by omega
     (have hk0:0<=(k:Int):=by omega);(have hkO:k<O.length:=by omega);obtain⟨⟨s,hs⟩,hx⟩:∃x,x=O[k]:=⟨_,rfl⟩;have hY':=hY (O.take k) ⟨s,hs⟩ wr hJ (by rw [List.length_take];omega);(have htk:O.take (k+1)=O.take k++[⟨s,hs⟩]:=by rw [List.take_succ_eq_append_getElem hkO,<-hx]);rw [<-htk]at hY';obtain⟨b,o,rfl,hFb,_,hc⟩:=hR.at_ (k:=k) hlt
     have c0:wr.cell? ⟨b,o+k,none⟩=some (.int .i64 (s:Nat)):=by
       rw [hkb.cell (hKF b hFb),hc];simp [YH,hkO,<-hx]
     (have hsI:(s:Int)<n:=by omega);(have hs0:0<=(s:Int):=by omega);obtain⟨b9,o9,he9,_,_,hc9⟩:=hC.at_ (r:=0) hs;injection he9 with he9;injection he9 with hb9 ho9;subst hb9 ho9;(have hrow:((Qz l).map cd2)[s]'(by rw [List.length_map,Yb,hL];exact hs)=cd2 (Qh l s):=by simp [Qz]);have d0:=(hkb.cell hKg _).trans (hc9 0 (by omega));have d1:=(hkb.cell hKg _).trans (hc9 1 (by omega));rw [hrow]at d0 d1;simp only [cd2,List.getElem?_cons_zero,List.getElem?_cons_succ]at d0 d1;simp at d0 d1;obtain⟨fn,tmps,assign,body,hy,hRd⟩:=hY';simp only [X7]at hy;obtain⟨X,hX⟩:=nm_ ((Qh l s).2);obtain⟨L,hLL⟩:=nm_ ((Qh l s).1);rw [<-hLL]at d0 hy;rw [<-hX]at d1 hy;have HK:=hd_ hkb;have HKK:=hd_ hk;clear hc hc9 hrow hJ hkb hY hR hx hX hLL hk hC htk;gi_wp2
     first
       | refine hRd.mono ?_
       | refine⟨?_,?_,hRd.mono ?_⟩
     rintro e W3 (⟨rfl,hJ3,hk3⟩|⟨rfl,hJx3⟩)
     . have HJ3:=hd_ hJ3
       have HK3:=hd_ hk3;clear hJ3 hk3 hRd hy;gi_wp2;gi_roundg (gk-1)
       case measure=>have:=HKK.out;omega
       case rel=>exact⟨k+1,by have:=HKK.out;omega,by go_num,HJ3.out,HK.out.trans HK3.out⟩
     gi_wp2;(try simp only [Exit.noGoto_normal,Exit.noGoto_ret])
     first
       | (refine bodyPost_ret (results_none rfl _ _ _) rfl ?_;exact⟨⟨_,rfl⟩,.inr ⟨_,trivial,hJx3⟩⟩)
       | (go_end0;exact⟨⟨_,rfl⟩,.inr ⟨_,trivial,hJx3⟩⟩)
   (obtain rfl:k=on:=by omega);have htl:O.take k=O:=List.take_of_length_le (by omega);rw [htl]at hJ;gi_wp2;(try simp only [Exit.noGoto_normal,Exit.noGoto_ret]);go_end0;exact⟨⟨_,rfl⟩,.inl ⟨_,rfl,hJ⟩⟩
theorem Q1z {n:Nat} (m P Q g on c:Nat) (A:Option Addr) (l:List Int) (O:List { s:Nat // s<n }) (Kb Fl:Nat->Prop) (w:World) (hPw:P<w.heap.size) (hQw:Q<w.heap.size) (hP:w.cell? ⟨P,0,none⟩=some (.slice A on c)) (hKP:Kb P) (hQ:w.cell? ⟨Q,0,none⟩=some (.slice (some ⟨g,0,none⟩) n n)) (hKQ:Kb Q)
   (hR:Rd w Fl A on (YH (O.map Subtype.val))) (hKF:∀b,Fl b->Kb b) (hC:RdK w (fun b=>b=g) 2 (some ⟨g,0,none⟩) n ((Qz l).map cd2)) (hKg:Kb g) (hL:l.length=n) (hn:on<=2^40) :
   SeqStopsK Fence.wide m Tryz.prog 326 #[.pointer (some ⟨P,0,none⟩),.pointer (some ⟨Q,0,none⟩)] (X7 l (n:=n)) (QI Kb) (fun ys=>ys=O) (fun _=>True) on w :=
 fun lc J Jx W hW hJa _ hY h0=>Q3z Fence.wide m lc P Q g on c A l O Kb Fl trivial rfl rfl J Jx hY W ((hW.cell (p:=⟨P,0,none⟩) hPw).trans hP) hKP ((hW.cell (p:=⟨Q,0,none⟩) hQw).trans hQ) hKQ (hR.upd (S:=fun _=>False) (Upd.of_below hW) (fun _ _ _ h=>h)) hKF (hC.upd (S:=fun _=>False) (Upd.of_below hW) (fun _ _ _ h=>h)) hKg hL hn h0
end Go.Proofs.YtckjdhaflokcgaaGreat
