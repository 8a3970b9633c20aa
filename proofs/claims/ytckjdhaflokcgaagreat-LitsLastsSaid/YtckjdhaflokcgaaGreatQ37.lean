/-
  Joined texts, part 37: contracts and plain lemmas.
  Conditions: none beyond those of each theorem.
-/
import Derived.Test.YtckjdhaflokcgaaGreatQ20
import Derived.Test.YtckjdhaflokcgaaGreatQ34
set_option maxHeartbeats 4000000
set_option linter.unusedVariables false
set_option linter.unusedSimpArgs false
set_option linter.unnecessarySimpa false
set_option maxRecDepth 100000
universe u
namespace Go.Proofs.YtckjdhaflokcgaaGreat
open Go.RowKit
def YB (l:List Int) (i s:Nat):List Nat:=(List.range i).flatMap (Y7 l)++(List.range s).filter fun s=>decide ((Qh l s).1=i+1)
theorem ZE (l:List Int) (i:Nat):YB l i 0=(List.range i).flatMap (Y7 l):=by simp [YB]
theorem Kd (l:List Int) (i:Nat):YB l i l.length=YB l (i+1) 0:=by
 rw [ZE,List.range_succ,List.flatMap_append];simp [YB,Y7]
theorem Q1w (l:List Int) (i s:Nat):YB l i (s+1)=if(Qh l s).1=i+1 then YB l i s++[s]else YB l i s:=by
 unfold YB;rw [List.range_succ,List.filter_append];split
 . next h=>simp [h]
 next h=>simp [h]
theorem VX (l:List Int):YB l 11 0=Qq l:=ZE l 11
theorem V0 (l:List Int):∀i s,s<=l.length->(YB l i s).length<=(i+1)*l.length
 | 0,s,h=>by
   have:=List.length_filter_le (fun s=>decide ((Qh l s).1=0+1)) (List.range s)
   simp [YB]at this ⊢
   omega
 | i+1,s,h=>by
   have ih:=V0 l i l.length (Nat.le_refl _)
   have h1:=List.length_filter_le (fun s=>decide ((Qh l s).1=i+1+1)) (List.range s)
   rw [Kd,ZE]at ih
   unfold YB
   rw [List.length_append,Nat.add_mul (i+1) 1]
   simp only [List.length_range]at h1
   omega
theorem Q2z (F:Nat->Prop) (A:Option Addr) (n c:Nat) (l:List Int) (w:World) (hr:Rd w F A n (Qm l)) (ht:Qj l) (hc:n<=c) :
   Calls Tryz.prog 323 #[.slice A n c] w fun e w'=>∃p q g v,e = .returned (.func (.func 326) #[] #[.pointer (some ⟨p,0,none⟩),.pointer (some ⟨q,0,none⟩)]) /\
     Blk w' p 33 #[v]/\Own w' 3 v (YH (Qq l))/\(∀b,v.ownBlock=some b->w.heap.size<=b)/\Blk w' q 119 #[.slice (some ⟨g,0,none⟩) n n]/\RdK w' (fun b=>b=g) 2 (some ⟨g,0,none⟩) n ((Qz l).map cd2)/\w.heap.size<=p/\w.heap.size<=q/\w.heap.size<=g/\Q0 w w':=by
 (have hL:l.length=n:=by have:=hr.1;simpa using this);(have hn:n<=256:=by have:=ht.2.1;omega);have hmf:∀(fn:Fn) (first cap:Array Value) (w:World),(Instr.makeFunc fn first cap).run Tryz.prog w = .ok (.func fn first cap) w:=fun _ _ _ _=>rfl
 have HCO:=hd_ (show Calls Tryz.prog 142 #[.slice A n c] w fun e w'=>Q0 w w'/\∃g,e = .returned (.tuple #[.slice (some ⟨g,0,none⟩) n n,.int .i64 0])/\RdK w' (fun b=>b=g) 2 (some ⟨g,0,none⟩) n ((Qz l).map cd2)/\w.heap.size<=g from
   (ZS F A n c l w hr (by omega) hc).mono fun e w' h=>⟨h.1,by have h2:=h.2;rw [if_pos ht]at h2;exact h2⟩)
 have HT:=hd_ ht;have HL:=hd_ hL;have HN:=hd_ hn;have HNP:=hd_ (show 0<n by have h1:=ht.2.2.1;have h2:=YP l;omega);(have hnI:(n:Int)<=256:=by omega);clear hr ht hc hL hn;refine Qg fun R hR=>?_;go_enter Tryz.func323,Tryz.ntmps323;go_wp2_with fail;refine HCO.out.mono ?_;rintro e w1 ⟨f1,g,rfl,rd1,hg⟩;have F1:=hd_ f1;have RD1:=hd_ rd1;have HG:=hd_ hg;clear f1 rd1 hg HCO;go_upto_region 3 with fail;obtain⟨C,hC⟩:=nm_ (w1.heap.size);obtain⟨w2,hw2⟩:=nm_ ((w1.alloc (.cells #[.slice (some ⟨g,0,none⟩) n n] 119)).alloc (.cells #[.slice none 0 0] 33));simp only [<-hC,<-hw2];(have f2:Q0 w1 w2:=by rw [hw2];exact((Upd.refl _ _).alloc _).alloc _);(have bC:Blk w2 C 119 #[.slice (some ⟨g,0,none⟩) n n]:=by rw [hw2];exact(Qc hC _ _).alloc _);(have bO:Blk w2 (C+1) 33 #[.slice none 0 0]:=by rw [hw2];exact Qc (by simp [hC]) _ _);have F2:=hd_ f2;have BC:=hd_ bC;have BO:=hd_ bO;have HC:=hd_ hC;clear hw2 f2 bC bO hC;go_wp2_with fail;go_loopg [6] 11 (fun f vn wr=>∃i K:Nat,K=i+1/\i+f=11/\vn = .int .i64 (K:Nat)/\(∃v,Blk wr (C+1) 33 #[v]/\Own wr 3 v (YH (YB l i 0))/\(∀b,v.ownBlock=some b->w1.heap.size<=b)/\Blk wr C 119 #[.slice (some ⟨g,0,none⟩) n n]/\Q0 w1 wr))
 case atStart=>exact⟨0,1,rfl,rfl,rfl,_,BO.out,Own.nil _ _,fun b hb=>by simp [Value.ownBlock]at hb,BC.out,F2.out⟩
 case round =>
   obtain⟨i,K,hKi,hi,rfl,v,bo,ov,hv,bc,fr⟩:=hrel;have HI:=hd_ hi;have HKI:=hd_ hKi;by_cases hlt:i<11
   . have hlI:(K:Int)<=11:=by omega
     have c0:=bc.cell 0;simp at c0;have HIV:=hd_ (show(∃v,Blk wr (C+1) 33 #[v]/\Own wr 3 v (YH (YB l i 0))/\(∀b,v.ownBlock=some b->w1.heap.size<=b)/\Blk wr C 119 #[.slice (some ⟨g,0,none⟩) n n]/\Q0 w1 wr)from⟨v,bo,ov,hv,bc,fr⟩);have HGK:=hd_ hlt;clear bo ov hv bc fr hi BO BC F2 hKi;go_wp2_with fail;go_loopg [20] n (fun f vs wr=>∃s:Nat,s+f=n/\vs = .int .i64 s/\(∃v,Blk wr (C+1) 33 #[v]/\Own wr 3 v (YH (YB l i s))/\(∀b,v.ownBlock=some b->w1.heap.size<=b)/\Blk wr C 119 #[.slice (some ⟨g,0,none⟩) n n]/\Q0 w1 wr))
     case atStart=>exact⟨0,by omega,rfl,HIV.out⟩
     case round =>
       obtain⟨s,hs,rfl,v,bo,ov,hv,bc,fr⟩:=hrel;have HS:=hd_ hs;by_cases hlt:s<n
       . have hsI:(s:Int)<n:=by omega
         (have hs0:0<=(s:Int):=by omega);obtain⟨b9,o9,he9,_,_,hc9⟩:=(RD1.out.fresh fr).at_ (r:=0) hlt;injection he9 with he9;injection he9 with hb9 ho9;subst hb9 ho9;(have hrow:((Qz l).map cd2)[s]'(by rw [List.length_map,Yb,HL.out];exact hlt)=cd2 (Qh l s):=by simp [Qz]);have c0:=hc9 0 (by omega);have c1:=hc9 1 (by omega);rw [hrow]at c0 c1;have hstep:=Q1w l i s;have hle:=V0 l i s (by have:=HL.out;omega);have hmul:(i+1)*l.length<=12*256:=Nat.mul_le_mul (by have:=HGK.out;omega) (by have:=HL.out;have:=HN.out;omega);obtain⟨L,hLe⟩:=nm_ ((Qh l s).1);obtain⟨X,hXe⟩:=nm_ ((Qh l s).2);obtain⟨P,hPe⟩:=nm_ (YB l i s);simp only [cd2,<-hLe,<-hXe,List.getElem?_cons_zero,List.getElem?_cons_succ]at c0 c1;simp at c0 c1;rw [<-hPe]at ov hle hstep;rw [<-hLe]at hstep;have HPL:=hd_ (show P.length<=3072 by omega);have hx0:=bo.cell 0;simp at hx0;obtain⟨A3,n3,c3,rfl,hn3⟩:=ov.form';(have hx1:∀o,(wr.alloc o).cell? ⟨C+1,0,none⟩=some (.slice A3 n3 c3):=fun o=>by have:=(bo.alloc o).cell 0;simpa using this);have BO3:=hd_ bo;have OV3:=hd_ ov;have HV3:=hd_ hv;have BC3:=hd_ bc;have FR3:=hd_ fr;by_cases hLi:L=K
         . rw [if_pos (by have:=HKI.out;omega)]at hstep
           have HST:=hd_ hstep;have hLi':=hLi.symm;subst hLi';clear hc9 hrow hle hmul hLe hXe hPe bo ov hv bc fr hs hstep hn3 HIV;obtain⟨W2,hW2⟩:=nm_ ((wr.alloc (.cells #[.int .i64 (K:Nat),.int .u32 (X:Nat)] 133)).alloc (.cells #[.int .i64 (s:Nat)] 3))
           have hrd2:Rd W2 (fun b=>b=wr.heap.size+1) (some ⟨wr.heap.size+1,0,none⟩) 1 [.int .i64 (s:Nat)]:=by
             rw [hW2];have:=Rd.one (wr.alloc (.cells #[.int .i64 (K:Nat),.int .u32 (X:Nat)] 133)) 3 (.int .i64 (s:Nat));simpa using this
           (have f22:Q0 wr W2:=by rw [hW2];exact((Upd.refl _ _).alloc _).alloc _);have HRD2:=hd_ hrd2;have F22:=hd_ f22;have HW2:=hd_ hW2;clear hrd2 f22 hW2;go_wp2_with (at_builtin;simp only [<-HW2.out];go_must (refine Qt _ rfl (.tmp 29) (.tmp 31) _ rfl 3 _ 8 Tryz.underlying33 KV rfl (.slice A3 n3 c3) (YH P) rfl (OV3.out.fresh F22.out) _ 1 _ _ rfl HRD2.out (by simp [Value.oneCell']) (by omega) (by have:=HPL.out;simp [YH];omega) ?_));intro v5 w5 o5 g5 a5;have hne:(Value.slice A3 n3 c3).ownBlock≠some (C+1):=OV3.out.ne_blk BO3.out (by decide);have hne2:(Value.slice A3 n3 c3).ownBlock≠some C:=OV3.out.ne_blk BC3.out (by decide);have bo5:=(BO3.out.fresh F22.out).grown g5 hne;have bc5:=(BC3.out.fresh F22.out).grown g5 hne2;have u5:Upd (fun b=>(Value.slice A3 n3 c3).ownBlock=some b) wr w5:=(F22.out.mono (fun _ _ h=>h.elim)).grown g5 (fun k hk _=>hk);have hv5:∀b,v5.ownBlock=some b->w1.heap.size<=b:=YD (S:=fun b=>w1.heap.size<=b) a5 (fun k hk=>HV3.out k hk) (by have:=FR3.out.size;have:=F22.out.size;omega);have hne5:v5.ownBlock≠some (C+1):=o5.ne_blk bo5 (by decide);have c5:=bo5.cell 0;have z5:=bo5.frozen 0;simp at c5;obtain⟨A5,n5,c5',rfl,hn5⟩:=o5.form';have BO5:=hd_ bo5;have BC5:=hd_ bc5;have HV5:=hd_ hv5;have HN5:=hd_ hne5;have O5:=hd_ o5;have FR5:=hd_ (FR3.out.trans u5 (fun b hb h=>by have:=HV3.out b h;omega));clear bo5 bc5 u5 hv5 hne5 o5 hne hne2 a5 g5 hn5;go_wp2_with fail;go_roundg (gk-1)
           case measure=>have:=HS.out;omega
           case rel =>
             have bs:=BO5.out.set_ 0 (.slice A5 n5 c5');simp at bs;refine⟨s+1,by have:=HS.out;omega,by go_num,_,bs,?_,HV5.out,BC5.out.far (by simp) _,FR5.out.setCell (p:=⟨C+1,0,none⟩) (fun h=>by have:=HC.out;simp at h;omega) _⟩;rw [HST.out];have:=O5.out.far (p:=⟨C+1,0,none⟩) HN5.out (.slice A5 n5 c5');simpa [YH]using this
         rw [if_neg (by have:=HKI.out;omega)]at hstep;have HST:=hd_ hstep;(have hLiI:¬(L:Int)=(K:Int):=by omega);clear hc9 hrow hle hmul hLe hXe hPe bo ov hv bc fr hs hstep hn3 HIV;go_wp2_with fail;go_roundg (gk-1)
         case measure=>have:=HS.out;omega
         case rel =>
           have fa:Q0 wr (wr.alloc (.cells #[.int .i64 (L:Nat),.int .u32 (X:Nat)] 133)):=(Upd.refl _ _).alloc _;exact⟨s+1,by have:=HS.out;omega,by go_num,_,BO3.out.fresh fa,by rw [HST.out];exact OV3.out.fresh fa,HV3.out,BC3.out.fresh fa,FR3.out.trans' fa⟩
       (have hsn:s=n:=by omega);(have hsI:¬(s:Int)<n:=by omega);have hol:=Kd l i;rw [HL.out]at hol;rw [hsn,hol]at ov;have HIV2:=hd_ (show(∃v,Blk wr (C+1) 33 #[v]/\Own wr 3 v (YH (YB l (i+1) 0))/\(∀b,v.ownBlock=some b->w1.heap.size<=b)/\Blk wr C 119 #[.slice (some ⟨g,0,none⟩) n n]/\Q0 w1 wr)from⟨v,bo,ov,hv,bc,fr⟩);clear bo ov hv bc fr hs hol HIV hsn hlt;go_wp2_with fail;go_roundg (10-i)
       case measure=>have:=HI.out;have:=HGK.out;omega
       case rel=>exact⟨i+1,K+1,by have:=HKI.out;omega,by have:=HI.out;have:=HGK.out;omega,by go_num,HIV2.out⟩
   (obtain rfl:i=11:=by omega);(have hlI:¬(K:Int)<=11:=by omega);rw [VX]at ov;have BO3:=hd_ bo;have OV3:=hd_ ov;have HV3:=hd_ hv;have BC3:=hd_ bc;have FR3:=hd_ fr;clear bo ov hv bc fr hi;go_wp2_with fail;(try go_ret);have h1:=F1.out.size;have h2:=HC.out;exact hR.out _ _ ⟨C+1,C,g,v,rfl,BO3.out,OV3.out,fun b hb=>by have:=HV3.out b hb;omega,BC3.out,RD1.out.fresh FR3.out,by omega,by omega,HG.out,F1.out.trans' FR3.out⟩
end Go.Proofs.YtckjdhaflokcgaaGreat
