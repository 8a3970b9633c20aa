/-
  Joined texts, part 37: contracts and plain lemmas.
  Conditions: none beyond those of each theorem.
-/
import Derived.Test.YtjfdaphjijfieaaGreatK36
import Derived.Test.YtjfdaphjijfieaaGreatK33
set_option maxHeartbeats 8000000
set_option linter.unusedVariables false
set_option linter.unusedSimpArgs false
set_option maxRecDepth 100000
universe u
namespace Go.Proofs.YtjfdaphjijfieaaGreat
open Go.RowKit
theorem Vw (F G:Nat->Prop) (A B:Option Addr) (n m c d:Nat) (l1 l2:List (Int × Int × Int)) (w:World) (h1:RdK w F 3 A n (l1.map tri)) (h2:RdK w G 3 B m (l2.map tri)) (hn:n<=2^40) (hm:m<=2^40) :
   Calls Tryz.prog 22 #[.slice A n c,.slice B m d] w fun e w'=>e = .returned (.bool (decide (l1=l2)))/\Q0 w w':=by
 (have e1:l1.length=n:=by have:=h1.1;simpa using this);(have e2:l2.length=m:=by have:=h2.1;simpa using this);by_cases hnm:n=m
 . subst hnm
   (have hne:((n:Int) != n)=false:=by simp);have H1:=hd_ h1;have H2:=hd_ h2;have E1:=hd_ e1;have E2:=hd_ e2;clear h1 h2 e1 e2;refine Q7 fun R hR=>?_;go_enter Tryz.func22,Tryz.ntmps22;go_wp2_with fail;go_loopg [5] n (fun f vi wr=>∃j:Nat,j+f=n/\vi = .int .i64 j/\l1.take j=l2.take j/\Q0 w wr)
   case atStart=>exact⟨0,by omega,rfl,by simp,Upd.refl _ _⟩
   case round =>
     obtain⟨j,hj,rfl,htk,hu⟩:=hrel;by_cases hjn:j<n
     . have hjI:(j:Int)<n:=by omega
       (have j1:j<l1.length:=by rw [E1.out];exact hjn);(have j2:j<l2.length:=by rw [E2.out];exact hjn);obtain⟨b,o,rfl,_,_,hc⟩:=(H1.out.fresh hu).at_ (r:=0) hjn;obtain⟨b',o',rfl,_,_,hc'⟩:=(H2.out.fresh hu).at_ (r:=0) hjn;rw [List.getElem_map]at hc hc';have c0:=hc 0 (by omega);have c1:=hc 1 (by omega);have c2:=hc 2 (by omega);have d0:=hc' 0 (by omega);have d1:=hc' 1 (by omega);have d2:=hc' 2 (by omega);simp [tri]at c0 c1 c2 d0 d1 d2;have hw4:IntKind.i64.wrap ((j:Int)+1)=j+1:=IntWalk.i64_in _ (by omega);have HJ:=hd_ hj;have HTK:=hd_ htk;have HU:=hd_ hu;have HS:=hd_ (show l1.take (j+1)=l1.take j++[l1[j]]from List.take_succ_eq_append_getElem j1);have HS2:=hd_ (show l2.take (j+1)=l2.take j++[l2[j]]from List.take_succ_eq_append_getElem j2);have HX:=hd_ (fun h:l1=l2=>(by subst h;rfl:l1[j]=l2[j]));clear hc hc' hj htk;generalize l1[j]=x at *;generalize l2[j]=y at *;obtain⟨xa,xb,xc⟩:=x;obtain⟨ya,yb,yc⟩:=y;simp only at c0 c1 c2 d0 d1 d2;by_cases hxy:((xa,xb,xc):Int × Int × Int)=(ya,yb,yc)
       . injection hxy with e1 e2
         injection e2 with e2 e3;subst e1 e2 e3;go_wp2_with fail;go_quiet (fail);go_wp2_with fail;go_roundg (gk-1)
         case measure=>have:=HJ.out;omega
         case rel=>exact⟨j+1,by have:=HJ.out;omega,by go_num,by rw [HS.out,HS2.out,HTK.out],HU.out.drewN _⟩
       have hd:decide (l1=l2)=false:=by
         simp only [decide_eq_false_iff_not];intro h;exact hxy (HX.out h)
       have HD:=hd_ hd;clear hd HX HS HS2
       have h3:xa≠ya\/(xa=ya/\xb≠yb)\/(xa=ya/\xb=yb/\xc≠yc):=by
         by_cases h1:xa=ya
         . by_cases h2:xb=yb
           . exact .inr (.inr ⟨h1,h2,fun h=>hxy (by rw [h1,h2,h])⟩)
           exact .inr (.inl ⟨h1,h2⟩)
         exact .inl h1
       clear hxy;rcases h3 with h|⟨rfl,h⟩|⟨rfl,rfl,h⟩
       . have hb:(xa == ya)=false:=by simpa using h
         go_wp2_with fail;go_quiet (fail);go_wp2_with fail;refine hR.out _ _ ⟨?_,HU.out.drewN _⟩;rw [HD.out];rfl
       . have hb:(xb == yb)=false:=by simpa using h
         go_wp2_with fail;go_quiet (fail);go_wp2_with fail;refine hR.out _ _ ⟨?_,HU.out.drewN _⟩;rw [HD.out];rfl
       (have hb:(xc == yc)=false:=by simpa using h);go_wp2_with fail;go_quiet (fail);go_wp2_with fail;refine hR.out _ _ ⟨?_,HU.out.drewN _⟩;rw [HD.out];rfl
     (obtain rfl:j=n:=by omega)
     have hd:decide (l1=l2)=true:=by
       rw [decide_eq_true_iff,<-List.take_of_length_le (Nat.le_of_eq E1.out),htk,List.take_of_length_le (Nat.le_of_eq E2.out)]
     have HD:=hd_ hd;have HU:=hd_ hu;clear hd htk hj hu hjn;go_wp2_with fail;(try go_ret);refine hR.out _ _ ⟨?_,HU.out⟩;rw [HD.out];rfl
 (have hne:((n:Int) != m)=true:=by simp;omega);(have hne2:¬((n:Nat):Int)=m:=by omega)
 have hd:decide (l1=l2)=false:=by
   simp only [decide_eq_false_iff_not];rintro rfl;omega
 rw [hd];clear h1 h2 e1 e2 hd;refine Q7 fun R hR=>?_;go_enter Tryz.func22,Tryz.ntmps22;go_wp2_with fail;(try go_ret);exact hR.out _ _ ⟨rfl,Upd.refl _ _⟩
theorem Q0D:Fit []:=fun _ h=>by cases h
theorem RdK.alloc' {w:World} {F:Nat->Prop} {k n:Nat} {A:Option Addr} {rows:List (List Value)} (h:RdK w F k A n rows) (o:Obj):RdK (w.alloc o) F k A n rows:=h.fresh ((Upd.refl _ _).alloc o)
theorem Qaz {w:World} {K:Nat} {t:TypeId} {a b c:Int} (h:Blk w K t #[.int .i64 a,.int .i64 b,.int .i64 c]):RdK w (fun _=>True) 3 (some ⟨K,0,none⟩) 1 ([(a,b,c)].map tri) :=
 ⟨rfl,fun _=>⟨K,0,rfl,trivial,h.lt,fun j r hj hr=>by
   have:j=0:=by simp at hj;exact hj
   subst this
   rw [h.cell]
   simp [tri]⟩⟩
def Yj (s:Int × Int × Int):Prop:=0<=s.1/\s.1<=262143/\3<=s.2.1/\s.2.1<=262146/\1<=s.2.2/\s.2.2<=134217728
instance (s:Int × Int × Int):Decidable (Yj s):=by unfold Yj;infer_instance
theorem X1 (F:Nat->Prop) (g:Nat) (bs:List Nat) (W:World) (h:Qi W F g bs 0) (hF:∀b,F b->b≠g) :
   Calls Tryz.prog 18 #[.pointer (some ⟨g,0,none⟩),.agg #[.slice none 0 0,.int .i64 0,.slice none 0 0,.int .i64 0,.slice none 0 0,.int .i64 0,.slice none 0 0,.int .i64 1,.int .i64 4,.int .i64 8]] W (Jh F g bs (QB bs 0 Qa.none 1 4 8) [] W) :=
 VL F (fun _=>False) g bs 0 none none none none 0 0 0 0 0 0 0 0 Qa.none [] 1 4 8 W h hF (fun _ h=>h.elim) (Rd.nil _ _ _) (Rd.nil _ _ _) (Rd.nil _ _ _) (Rd.nil _ _ _) Q0D Q0D Q0D (Nat.zero_le _) (Nat.zero_le _) (Nat.zero_le _) (Nat.zero_le _)
theorem Xn (w:World):Calls Tryz.prog 28 #[] w fun e w'=>e = .returned (.agg #[.slice none 0 0,.int .i64 0,.slice none 0 0,.int .i64 0,.slice none 0 0,.int .i64 0,.slice none 0 0,.int .i64 1,.int .i64 4,.int .i64 8])/\Q0 w w':=by
 refine Q7 fun R hR=>?_;go_enter Tryz.func28,Tryz.ntmps28;go_wp2_with fail;refine bodyPost_ret (v:=.agg #[.slice none 0 0,.int .i64 0,.slice none 0 0,.int .i64 0,.slice none 0 0,.int .i64 0,.slice none 0 0,.int .i64 1,.int .i64 4,.int .i64 8]) (results_cell_row rfl _ _ w.heap.size 32 _ _ _ rfl (Blk.new w _ _) Tryz.underlying32 rfl (by kernel_rfl)) rfl ?_;exact hR.out _ _ ⟨rfl,(Upd.refl _ _).alloc _⟩
theorem Q18 (F:Nat->Prop) (A:Option Addr) (n c:Nat) (bs:List Nat) (w:World) (hr:Rd w F A n (bs.map fun b=>.int .u8 (b:Nat))) (hlt:∀b∈bs,b<256) (hlen:bs.length<=2^32) :
   Calls Tryz.prog 31 #[.slice A n c] w fun e w'=>e = .returned (.int .i64 (QB bs 0 Qa.none 1 4 8).err)/\Q0 w w':=by
 have HN:=hd_ (Zi F A n c bs w hr hlt hlen);have HFI:=hd_ Xn;have HD:=hd_ (fun F' g W h hF=>X1 F' g bs W h hF);generalize QB bs 0 Qa.none 1 4 8=S at *;clear hr hlt hlen;refine Q7 fun R hR=>?_;go_enter Tryz.func31,Tryz.ntmps31;go_wp2_with fail;refine HN.out.mono ?_;rintro e w1 ⟨g,rfl,hg,f1,cu⟩;have F1:=hd_ f1;have CU:=hd_ cu;have HG:=hd_ hg;clear f1 cu hg;go_wp2_with fail;refine(HFI.out _).mono ?_;rintro e w2 ⟨rfl,f2⟩;have HD2:=HD.out _ g w2 (CU.out.fresh f2) (fun b hb=>hb.2);unfold Jh at HD2;have F2:=hd_ (F1.out.trans' f2);clear f2 HD;by_cases he:S.err=0
 . simp only [if_pos he]at HD2
   have HD2:=hd_ HD2;go_wp2_with fail;refine HD2.out.mono ?_;rintro e w3 ⟨u3,v,D,h,i,A',n',c',B,m,d,C,k,e1,rfl,-,-,-,-,-,-,-⟩;have F3:=hd_ (F2.out.trans u3 (fun b hb e=>by have:=HG.out;omega));clear u3;go_wp2_with fail;(try go_ret);refine hR.out _ _ ⟨?_,F3.out.alloc _⟩;rw [he];rfl
 simp only [if_neg he]at HD2;have HD2:=hd_ HD2;go_wp2_with fail;refine HD2.out.mono ?_;rintro e w3 ⟨u3,rfl⟩;have F3:=hd_ (F2.out.trans u3 (fun b hb e=>by have:=HG.out;omega));clear u3;go_wp2_with fail;(try go_ret);exact hR.out _ _ ⟨rfl,F3.out.alloc _⟩
theorem Ve (w:World):Calls Tryz.prog 14 #[] w fun e w'=>e = .returned (.bool true)/\Q0 w w':=by
 have HN1:=hd_ (fun(A:Option Addr) (W:World) (h:Rd W (fun _=>True) A 1 ([0].map fun b:Nat=>Value.int .u8 (b:Nat)))=>Zi (fun _=>True) A 1 1 [0] W h (by decide) (by decide));have HN2:=hd_ (fun(A:Option Addr) (W:World) (h:Rd W (fun _=>True) A 6 ([1,21,2,0,0,1].map fun b:Nat=>Value.int .u8 (b:Nat)))=>Zi (fun _=>True) A 6 6 [1,21,2,0,0,1] W h (by decide) (by decide));have HE1:=hd_ (fun(A:Option Addr) (W:World) (h:Rd W (fun _=>True) A 1 ([1].map fun b:Nat=>Value.int .u8 (b:Nat)))=>Q18 (fun _=>True) A 1 1 [1] W h (by decide) (by decide));have HE2:=hd_ (fun(A:Option Addr) (W:World) (h:Rd W (fun _=>True) A 2 ([1,64].map fun b:Nat=>Value.int .u8 (b:Nat)))=>Q18 (fun _=>True) A 2 2 [1,64] W h (by decide) (by decide));rw [Qax]at HE1;rw [Qay]at HE2;have HD1:=fun F' g W h hF=>X1 F' g [0] W h hF;have HD2:=fun F' g W h hF=>X1 F' g [1,21,2,0,0,1] W h hF;unfold Jh at HD1 HD2;simp only [if_pos Q5m.1,Q5m.2]at HD1;simp only [if_pos Q7R.1,Q7R.2]at HD2;generalize QB [0] 0 Qa.none 1 4 8=S1 at *;generalize QB [1,21,2,0,0,1] 0 Qa.none 1 4 8=S2 at *;have HD1:=hd_ HD1;have HD2:=hd_ HD2;have HFI:=hd_ Xn;refine Q7 fun R hR=>?_;go_enter Tryz.func14,Tryz.ntmps14;go_wp2_with fail;refine(HN1.out _ _ ((Blk.new w 5 _).rds)).mono ?_;rintro e w1 ⟨g1,rfl,hg1,f1,cu1⟩;have F1:=hd_ (show Q0 w w1 from((Upd.refl _ w).alloc _).trans' f1);(have hw1:w.heap.size<=g1:=by have:=hg1;simp at this;omega);have HW1:=hd_ hw1;have CU1:=hd_ cu1;clear f1 hg1 hw1 cu1;go_wp2_with fail;refine(HFI.out _).mono ?_;rintro e w2 ⟨rfl,f2⟩;have HD1':=hd_ (HD1.out _ g1 w2 (CU1.out.fresh f2) (fun b hb=>hb.2));have F2:=hd_ (F1.out.trans' f2);clear f2;go_wp2_with fail;refine HD1'.out.mono ?_;rintro e w3 ⟨u3,v1,D1,h1,i1,A1,n1,c1,B1,m1,d1,C1,k1,e1,rfl,o1,-,-,-,-,-,-⟩;have F3:=hd_ (F2.out.trans u3 (fun b hb e=>by have:=HW1.out;omega));obtain⟨Av,cv,rfl,-,-⟩:=o1.form;clear u3 o1;go_upto_region 2 with fail;obtain⟨w4,hw4⟩:=nm_ (w3.alloc (.cells #[.slice D1 h1 i1,.int .i64 S1.tabs.lL,.slice A1 n1 c1,.int .i64 S1.tabs.lO,.slice B1 m1 d1,.int .i64 S1.tabs.lM,.slice C1 k1 e1,.int .i64 S1.a,.int .i64 S1.b,.int .i64 S1.c] 32));simp only [<-hw4];have F4:=hd_ (show Q0 w w4 by rw [hw4];exact F3.out.alloc _);clear hw4;go_wp2_with fail;refine(HN2.out _ _ ((Blk.new w4 5 _).rds)).mono ?_;rintro e w5 ⟨g5,rfl,hg5,f5,cu5⟩;have F5:=hd_ (F4.out.trans' (((Upd.refl _ w4).alloc _).trans' f5));(have hw5:w4.heap.size<=g5:=by have:=hg5;simp at this;omega);have HW5:=hd_ hw5;have CU5:=hd_ cu5;clear f5 hg5 hw5 cu5;go_wp2_with fail;refine(HFI.out _).mono ?_;rintro e w6 ⟨rfl,f6⟩;have HD2':=hd_ (HD2.out _ g5 w6 (CU5.out.fresh f6) (fun b hb=>hb.2))
 have F6:=hd_ (F5.out.trans' f6);clear f6;go_wp2_with fail;refine HD2'.out.mono ?_;rintro e w7 ⟨u7,v7,D7,h7,i7,A7,n7,c7,B7,m7,d7,C7,k7,e7,rfl,o7,-,-,-,-,-,-⟩;have F7:=hd_ (F6.out.trans u7 (fun b hb e=>by have h1:=HW5.out;have h2:=F4.out.size;omega));obtain⟨Ax,cx,rfl,hcx,r7⟩:=o7.form;have R7:=hd_ (r7.mono (G:=fun _=>True) fun _ _=>trivial);clear u7 o7 r7;go_upto_region 3 with fail;obtain⟨w8,hw8⟩:=nm_ (w7.alloc (.cells #[.slice D7 h7 i7,.int .i64 S2.tabs.lL,.slice A7 n7 c7,.int .i64 S2.tabs.lO,.slice B7 m7 d7,.int .i64 S2.tabs.lM,.slice C7 k7 e7,.int .i64 S2.a,.int .i64 S2.b,.int .i64 S2.c] 32));simp only [<-hw8];(have f8:Q0 w7 w8:=by rw [hw8];exact(Upd.refl _ _).alloc _);have F8:=hd_ (F7.out.trans' f8);have R8:=hd_ (R7.out.fresh f8);clear hw8 f8 R7;go_wp2_with fail;refine(HE1.out _ _ ((Blk.new w8 5 _).rds)).mono ?_;rintro e w9 ⟨rfl,f9⟩;have f89:Q0 w8 w9:=((Upd.refl _ w8).alloc _).trans' f9;have F9:=hd_ (F8.out.trans' f89);have R9:=hd_ (R8.out.fresh f89);clear f9 f89 R8;go_wp2_with fail;refine(HE2.out _ _ ((Blk.new w9 5 _).rds)).mono ?_;rintro e w10 ⟨rfl,f10⟩;have f910:Q0 w9 w10:=((Upd.refl _ w9).alloc _).trans' f10;have F10:=hd_ (F9.out.trans' f910);have R10:=hd_ (R9.out.fresh f910);clear f10 f910 R9;go_wp2_with fail;refine(Vw _ (fun _=>True) Ax _ 1 1 cx 1 [(2,3,1)] [(2,3,1)] _ (R10.out.alloc' _) (Qaz (Blk.new w10 23 _)) (by decide) (by decide)).mono ?_;rintro e w11 ⟨rfl,f11⟩;have F11:=hd_ (F10.out.trans' (((Upd.refl _ w10).alloc _).trans' f11));clear f11;go_wp2_with fail;(try go_ret);exact hR.out _ _ ⟨rfl,F11.out⟩
theorem Q7S (a b c:Int) (w:World):Calls Tryz.prog 13 #[.agg #[.int .i64 a,.int .i64 b,.int .i64 c]] w fun e w'=>e = .returned (.bool (decide (Yj (a,b,c))))/\Q0 w w':=by
 have h7:(Yj (a,b,c))\/¬0<=a\/(0<=a/\¬a<=262143)\/(0<=a/\a<=262143/\¬3<=b)\/(0<=a/\a<=262143/\3<=b/\¬b<=262146)\/(0<=a/\a<=262143/\3<=b/\b<=262146/\¬1<=c)\/(0<=a/\a<=262143/\3<=b/\b<=262146/\1<=c/\¬c<=134217728):=by
   unfold Yj;simp only;omega
 have HD:∀x,decide (Yj (a,b,c))=x->∀w',Q0 w w'->(Ending.returned (.bool x)=Ending.returned (.bool (decide (Yj (a,b,c))))/\Q0 w w'):=fun x hx w' h=>⟨by rw [hx],h⟩;have HD:=hd_ HD;have hF:(¬Yj (a,b,c))->decide (Yj (a,b,c))=false:=fun h=>decide_eq_false h;refine Q7 fun R hR=>?_;rcases h7 with h|h|⟨h1,h⟩|⟨h1,h2,h⟩|⟨h1,h2,h3,h⟩|⟨h1,h2,h3,h4,h⟩|⟨h1,h2,h3,h4,h5,h⟩
 . have hd:=HD.out true (decide_eq_true h)
   have HD2:=hd_ hd;obtain⟨h1,h2,h3,h4,h5,h6⟩:=h;simp only at h1 h2 h3 h4 h5 h6;clear hd HD hF;go_enter Tryz.func13,Tryz.ntmps13;go_wp2_with fail;(try go_ret);exact hR.out _ _ (HD2.out _ ((Upd.refl _ _).alloc _))
 all_goals
   have hd:=HD.out false (hF (by unfold Yj;simp only;omega));have HD2:=hd_ hd;clear hd HD hF;go_enter Tryz.func13,Tryz.ntmps13;go_wp2_with fail;(try go_ret);exact hR.out _ _ (HD2.out _ ((Upd.refl _ _).alloc _))
theorem Q19 (a b c:Int) (w:World) (hb:-(2^63)<=b/\b<2^63):Calls Tryz.prog 12 #[.agg #[.int .i64 a,.int .i64 b,.int .i64 c]] w fun e w'=>e = .returned (.bool (decide (Yj (a,b,c))))/\Q0 w w':=by
 obtain⟨q,hq⟩:=nm_ (IntKind.i64.wrap (b-3))
 have hq2:(0<=q/\q<262144) ↔ (3<=b/\b<=262146):=by
   rw [hq,IntKind.wrap_i64];omega
 have h7:(Yj (a,b,c))\/¬0<=a\/(0<=a/\¬a<262144)\/(0<=a/\a<262144/\¬0<=q)\/(0<=a/\a<262144/\0<=q/\¬q<262144)\/(0<=a/\a<262144/\0<=q/\q<262144/\¬1<=c)\/(0<=a/\a<262144/\0<=q/\q<262144/\1<=c/\¬c<=134217728):=by
   unfold Yj;simp only;omega
 have hq3:∀p:Prop,(p->¬Yj (a,b,c))->p->decide (Yj (a,b,c))=false:=fun p h hp=>decide_eq_false (h hp);have HD:∀x,decide (Yj (a,b,c))=x->∀w',Q0 w w'->(Ending.returned (.bool x)=Ending.returned (.bool (decide (Yj (a,b,c))))/\Q0 w w'):=fun x hx w' h=>⟨by rw [hx],h⟩;have HD:=hd_ HD;have hF:(¬Yj (a,b,c))->decide (Yj (a,b,c))=false:=fun h=>decide_eq_false h;have HQ:=hd_ hq2;have hqr:=hq.symm;clear hq3 hq2 hq;refine Q7 fun R hR=>?_;rcases h7 with h|h|⟨h1,h⟩|⟨h1,h2,h⟩|⟨h1,h2,h3,h⟩|⟨h1,h2,h3,h4,h⟩|⟨h1,h2,h3,h4,h5,h⟩
 . have hd:=HD.out true (decide_eq_true h)
   have HD2:=hd_ hd;obtain⟨h1,h2,h3,h4,h5,h6⟩:=h;simp only at h1 h2 h3 h4 h5 h6;(have h2':a<262144:=by omega);obtain⟨h3',h4'⟩:=HQ.out.2 ⟨h3,h4⟩;clear hd HD hF h2 h3 h4 hb;go_enter Tryz.func12,Tryz.ntmps12;go_wp2_with fail;(try go_ret);exact hR.out _ _ (HD2.out _ ((Upd.refl _ _).alloc _))
 all_goals
   have hd:=HD.out false (hF (by have:=HQ.out;unfold Yj;simp only;omega));have HD2:=hd_ hd;clear hd HD hF hb;go_enter Tryz.func12,Tryz.ntmps12;go_wp2_with fail;(try go_ret);exact hR.out _ _ (HD2.out _ ((Upd.refl _ _).alloc _))
theorem Xo {P:Program} {fn:Func} {q p u:Tmp} {ty:TypeId} (h:fn.results=#[.tmp q,.cell p ty,.tmp u]) (tmps:Array Value) (w:World) (g:Nat) (t:TypeId) (cs:Array Value) (d:TypeDesc)
   (hp:tmps.getD p undef = .pointer (some ⟨g,0,none⟩)) (hg:Blk w g t cs)
   (hu:P.underlying ty=some d) (hd:(match d with | .struct _ | .array _ _=>true|_=>false)=true) (hi:(P.info? ty).map (·.size)=some cs.size) :
   (results fn tmps).run P w = .ok (.tuple #[tmps.getD q undef,.agg cs,tmps.getD u undef]) w:=by
 (have hp':tmps[p]?.getD undef = .pointer (some ⟨g,0,none⟩):=by simpa using hp);simp only [results,h];simp [Sem.run_bind,hp',asAddr,run_loadVar_row w g t ty cs (0,0) d hg hu hd hi,Result.andThen]
theorem Q9s:(Tryz.prog.info? 154).map (fun i=>(i.zero,i.size,i.bytes))=some (some (.agg #[.int .i64 0,.int .u64 0,.int .i64 0,.int .u64 0,.int .i64 0,.int .u64 0]),6,48):=by kernel_rfl
def KQ (x:Qe) (i:Nat):Array Value:=#[.int .i64 (if 0<i then(x.cL:Nat)else 0:Nat),.int .u64 (if 0<i then(x.rL:Nat)else 0:Nat),.int .i64 (if 1<i then(x.cO:Nat)else 0:Nat),.int .u64 (if 1<i then(x.rO:Nat)else 0:Nat),.int .i64 (if 2<i then(x.cM:Nat)else 0:Nat),.int .u64 (if 2<i then(x.rM:Nat)else 0:Nat)]
def Yw (x:Qe):List Value:=[.int .i64 (x.cL:Nat),.int .u64 (x.rL:Nat),.int .i64 (x.cO:Nat),.int .u64 (x.rO:Nat),.int .i64 (x.cM:Nat),.int .u64 (x.rM:Nat)]
def ZQ:Array Value:=#[.func (.func 112) #[] #[],.func (.func 113) #[] #[],.func (.func 114) #[] #[],.func (.func 115) #[] #[],.func (.func 116) #[] #[],.func (.func 117) #[] #[],.func (.func 112) #[] #[],.func (.func 113) #[] #[],.func (.func 114) #[] #[]]
def Q7T (a b c:Int) (l:List (Int × Int × Int)) (w:World) (e:Ending) (w':World):Prop :=
  Q0 w w'/\if ∀s∈l,Yj s then ∃v,e = .returned (.tuple #[v,.agg #[.int .i64 (JV a b c l).1,.int .i64 (JV a b c l).2.1,.int .i64 (JV a b c l).2.2],.int .i64 0])/\QM w' 154 6 v ((QC a b c l).map Yw)/\(∀b,v.ownBlock=some b->w.heap.size<=b)
  else ∃x y z:Int,e = .returned (.tuple #[.slice none 0 0,.agg #[.int .i64 x,.int .i64 y,.int .i64 z],.int .i64 2])
theorem Q0E (F:Nat->Prop) (A:Option Addr) (n d:Nat) (a b c:Int) (l:List (Int × Int × Int)) (w:World) (h:RdK w F 3 A n (l.map tri)) (hfit:∀s∈l,-(2^63)<=s.2.1/\s.2.1<2^63) (hn:n<=65536) (hr:Qw a b c=true) :
   Calls Tryz.prog 45 #[.slice A n d,.agg #[.int .i64 a,.int .i64 b,.int .i64 c]] w (Q7T a b c l w):=by
 (have hl:l.length=n:=by have:=h.1;simpa using this);obtain⟨w0,hw0⟩:=nm_ ((w.alloc (.cells #[.int .i64 a,.int .i64 b,.int .i64 c] 30)).alloc (.cells #[.int .i64 0,.int .i64 0,.int .i64 0] 30));obtain⟨H,hH⟩:=nm_ (w.heap.size);(have f0:Q0 w w0:=by rw [hw0];exact((Upd.refl _ _).alloc _).alloc _);(have ba:Blk w0 H 30 #[.int .i64 a,.int .i64 b,.int .i64 c]:=by rw [hw0];exact(Q1 hH _ _).alloc _);(have br:Blk w0 (H+1) 30 #[.int .i64 0,.int .i64 0,.int .i64 0]:=by rw [hw0];exact Q1 (by simp [hH]) _ _);(have hs0:w0.heap.size=H+2:=by rw [hw0,hH];simp);have HPA:=hd_ Q0B;have HVA:=hd_ Q19;have HRV:=hd_ Q6b;have HSP:=hd_ Q7H;have HSO:=hd_ Q20;have HL:=hd_ hl;have HRD:=hd_ (fun W (hW:Upd (fun b=>b=H\/b=H+1) w W)=>h.both.upd hW (fun b hb hf e=>by have:=hf.2;omega));have HF0:=hd_ f0;have HBA:=hd_ ba;have HBR:=hd_ br;have HS0:=hd_ hs0;have HW:=hd_ hw0;have HH:=hd_ hH;have HFT:=hd_ hfit;have HRO:=hd_ hr;clear hl h f0 ba br hs0 hw0 hH hfit hr;refine Q7 fun R hR=>?_;go_enter Tryz.func45,Tryz.ntmps45;go_upto_region 1 with fail;simp only [<-HH.out,<-HW.out];go_wp2_with fail;refine(HPA.out _).mono ?_;rintro e w1 ⟨rfl,f1⟩;go_wp2_with fail;obtain⟨K,hK⟩:=nm_ (w1.heap.size);obtain⟨w2,hw2⟩:=nm_ (w1.alloc (.cells ZQ 149));have hpv:ZQ=#[.func (.func 112) #[] #[],.func (.func 113) #[] #[],.func (.func 114) #[] #[],.func (.func 115) #[] #[],.func (.func 116) #[] #[],.func (.func 117) #[] #[],.func (.func 112) #[] #[],.func (.func 113) #[] #[],.func (.func 114) #[] #[]]:=rfl;simp only [<-hpv,<-hK,<-hw2];(have f2:Q0 w1 w2:=by rw [hw2];exact(Upd.refl _ _).alloc _);have f02:=f1.trans' f2;have HQ2:=hd_ (show Blk w2 K 149 ZQ by rw [hw2];exact Q1 hK _ _);have HA2:=hd_ (HBA.out.fresh f02);have HR2:=hd_ (HBR.out.fresh f02);have HF2:=hd_ (HF0.out.trans' f02);have HK2:=hd_ (show w2.heap.size=K+1 by rw [hw2,hK];simp);have HKH:=hd_ (show H+2<=K by rw [hK];have:=f1.size;have:=HS0.out;omega);clear f1 f2 f02 hK hw2 hpv HBA HBR HF0
 go_loopg [4,19] n (fun f v vi wr=>∃(j:Nat) (x y z:Int) (outs:List Qe),j+f=n/\vi = .int .i64 j/\Qw x y z=true/\outs.length=j/\outs++QC x y z (l.drop j)=QC a b c l/\JV x y z (l.drop j)=JV a b c l /\
   ((∀s∈l,Yj s) ↔ ∀s∈l.drop j,Yj s)/\QM wr 154 6 v (outs.map Yw)/\(∀b,v.ownBlock=some b->K+1<=b)/\Upd (fun b=>b=H) w2 wr/\Blk wr H 30 #[.int .i64 x,.int .i64 y,.int .i64 z])
 case atStart=>exact⟨0,a,b,c,[],by omega,rfl,HRO.out,rfl,by simp,by simp,by simp,QM.nil _ _ _,fun b h=>by simp [Value.ownBlock]at h,Upd.refl _ _,HA2.out⟩
 case round =>
   obtain⟨j,x,y,z,outs,hjf,rfl,hro,hol,hc1,hc2,hmay,hov,hvb,hu,hb⟩:=hrel;have HU:=hd_ hu;have HB:=hd_ hb;have HOV:=hd_ hov;have HVB:=hd_ hvb;have HC1:=hd_ hc1;have HC2:=hd_ hc2;have HMAY:=hd_ hmay;have HRO':=hd_ hro;have HOL:=hd_ hol;have hrr:=HR2.out.upd hu (by omega);have HRR:=hd_ hrr;have q2:=HQ2.out.upd hu (by have:=HKH.out;omega);have HQ:=hd_ q2;have HUW:=hd_ (show Upd (fun b=>b=H\/b=H+1) w wr from(HF2.out.mono fun _ _ h=>h.elim).trans' (hu.mono fun _ _ h=>.inl h));have HKW:=hd_ (show K+1<=wr.heap.size by have:=hu.size;have:=HK2.out;omega);clear hu hb hc1 hc2 hmay hro hol hrr q2 hvb;have HJ:=hd_ hjf;by_cases hjn:j<n
   . have hjI:(j:Int)<n:=by omega
     have hw4:IntKind.i64.wrap ((j:Int)+1)=j+1:=IntWalk.i64_in _ (by omega);(have hjl:j<l.length:=by rw [HL.out];exact hjn);obtain⟨b,o,rfl,_,_,hc⟩:=(HRD.out wr HUW.out).at_ (r:=0) hjn;rw [List.getElem_map]at hc;have c0:=hc 0 (by omega);have c1:=hc 1 (by omega);have c2:=hc 2 (by omega);simp [tri]at c0 c1 c2;have hdr:l.drop j=l[j]::l.drop (j+1):=List.drop_eq_getElem_cons hjl;have hft:=HFT.out l[j] (List.getElem_mem hjl);have HDR:=hd_ hdr;clear hdr hc;generalize l[j]=s at *;obtain⟨sa,sb,sc⟩:=s;simp only at c0 c1 c2 hft;have HV:=hd_ (fun W=>HVA.out sa sb sc W hft);go_upto_region 2 with fail;obtain⟨w3,hw3⟩:=nm_ (wr.alloc (.cells #[.int .i64 sa,.int .i64 sb,.int .i64 sc] 23));obtain⟨X,hX⟩:=nm_ (wr.heap.size);have hX':=hX;have hw3':=hw3;simp only [<-hX',<-hw3'];(have f3:Q0 wr w3:=by rw [hw3];exact(Upd.refl _ _).alloc _);(have hbs:Blk w3 X 23 #[.int .i64 sa,.int .i64 sb,.int .i64 sc]:=by rw [hw3];exact Q1 hX _ _);have HX:=hd_ (show K+1<=X/\w3.heap.size=X+1/\X=wr.heap.size by rw [hw3,hX];exact⟨HKW.out,by simp,rfl⟩);have HVX:=hd_ (fun b (hb:u4.ownBlock=some b)=>(show K+1<=b/\b<X from⟨HVB.out b hb,by rw [hX];exact HOV.out.lt hb⟩));have HF3:=hd_ f3;have HBS:=hd_ hbs;clear f3 hbs hw3 hX hX' hw3' c0 c1 c2;refine(HV.out _).mono ?_;rintro e w4 ⟨rfl,f4⟩;have f34:=HF3.out.trans' f4;have s4:=HBS.out.fresh f4;have b4:=HB.out.fresh f34;have r4:=HRR.out.fresh f34;have HF4:=hd_ f34;have HS4:=hd_ s4;have HB4:=hd_ b4;have HR4:=hd_ r4;have hz4:X<w4.heap.size:=s4.lt;have HX4:=hd_ hz4;have a0:=b4.cell 0;have a1:=b4.cell 1;have a2:=b4.cell 2;have d0:=s4.cell 0;have d1:=s4.cell 1;have d2:=s4.cell 2;simp at a0 a1 a2 d0 d1 d2;clear f4 f34 s4 b4 r4 hz4 HBS HB HRR;by_cases hms:Yj (sa,sb,sc)
     . rw [decide_eq_true hms]
       have hok:okS (sa,sb,sc):=hms;have HMS:=hd_ hms;obtain⟨m1,m2,m3,m4,m5,m6⟩:=hms;simp only at m1 m2 m3 m4 m5 m6;have hvr:=Vu (a:=x) (b:=y) (c:=z) (lit:=sa) ⟨m5,m6⟩;have HVL:=hd_ (HRV.out x y z sa sb sc);have HXO:=hd_ (Q5g (a:=x) (b:=y) (c:=z) hok);have HNX:=hd_ (Q5e HRO'.out hok);obtain⟨lt,rfl⟩:∃lt:Nat,sa=lt:=⟨sa.toNat,by omega⟩;obtain⟨ln,rfl⟩:∃ln:Nat,sb=ln:=⟨sb.toNat,by omega⟩;(have hcd:Q0A x y z ((lt:Int),(ln:Int),sc)=⟨lt,ln,(YT x y z lt sc).toNat⟩:=by unfold Q0A;simp);have hnx:JU x y z ((lt:Int),(ln:Int),sc)=Qx x y z lt (YT x y z lt sc):=rfl;have HCR:=hd_ (show QC x y z (l.drop j)=Q0A x y z ((lt:Int),(ln:Int),sc)::QC (JU x y z ((lt:Int),(ln:Int),sc)).1 (JU x y z ((lt:Int),(ln:Int),sc)).2.1 (JU x y z ((lt:Int),(ln:Int),sc)).2.2 (l.drop (j+1)) by rw [HDR.out];rfl);have HCN:=hd_ (show JV x y z (l.drop j)=JV (JU x y z ((lt:Int),(ln:Int),sc)).1 (JU x y z ((lt:Int),(ln:Int),sc)).2.1 (JU x y z ((lt:Int),(ln:Int),sc)).2.2 (l.drop (j+1)) by rw [HDR.out];rfl);obtain⟨vn,hvn⟩:∃vn:Nat,YT x y z lt sc=vn:=⟨(YT x y z lt sc).toNat,by omega⟩;rw [hvn]at hcd hnx hvr HVL;rw [Int.toNat_natCast]at hcd;rw [<-hnx]at HVL;obtain⟨rx,hrx⟩:=nm_ (Q0A x y z ((lt:Int),(ln:Int),sc));rw [<-hrx]at HXO HCR hcd;generalize JU x y z ((lt:Int),(ln:Int),sc)=nx at *;have HRX:=hd_ hcd;have HV4:=hd_ (HVL.out w4 HRO'.out (by omega) ⟨m5,m6⟩);(have s3:IntKind.i64.wrap ((ln:Int)-3)=((ln-3:Nat):Int):=by rw [IntWalk.i64_in _ (by omega)];omega);clear hcd hrx hnx hvn hok hvr HV HVL;go_wp2_with fail;refine HV4.out.mono ?_;rintro e w5 ⟨rfl,f5⟩;have f5':=HF4.out.trans' f5;have s5:=HS4.out.fresh f5;have b5:=HB4.out.fresh f5;have HF5:=hd_ f5';have HS5:=hd_ s5;have HB5:=hd_ b5;have HR5:=hd_ (HR4.out.fresh f5);clear f5 f5' s5 b5 HS4 HB4 a0 a1 a2 d0 d1 d2;go_upto_region 8 with fail;obtain⟨w6,hw6⟩:=nm_ (w5.alloc (.cells #[.int .i64 nx.1,.int .i64 nx.2.1,.int .i64 nx.2.2] 30));obtain⟨Y,hY⟩:=nm_ (w5.heap.size);simp only [<-hY,<-hw6];(have f6:Q0 w5 w6:=by rw [hw6];exact(Upd.refl _ _).alloc _);(have n6:Blk w6 Y 30 #[.int .i64 nx.1,.int .i64 nx.2.1,.int .i64 nx.2.2]:=by rw [hw6];exact Q1 hY _ _);have b6:=HB5.out.fresh f6;have g0:=b6.cell 0;have g1:=b6.cell 1;have g2:=b6.cell 2;have y0:=b6.frozen 0;have y1:=b6.frozen 1;have y2:=b6.frozen 2;have e0:=n6.cell 0;have e1:=n6.cell 1;have e2:=n6.cell 2;simp at g0 g1 g2 e0 e1 e2;have HF6:=hd_ (HF5.out.trans' f6);have HS6:=hd_ (HS5.out.fresh f6);have HB6:=hd_ b6;have HR6:=hd_ (HR5.out.fresh f6);clear hw6 hY f6 n6 b6 HF5 HS5 HB5 HR5;go_upto_region 11 with fail;have hb7:=((HB6.out.set_ 0 (.int .i64 nx.1)).set_ 1 (.int .i64 nx.2.1)).set_ 2 (.int .i64 nx.2.2);obtain⟨w7,hw7⟩:=nm_ (((w6.setCell ⟨H,0,none⟩ (.int .i64 nx.1)).setCell ⟨H,1,none⟩ (.int .i64 nx.2.1)).setCell ⟨H,2,none⟩ (.int .i64 nx.2.2))
       simp only [<-hw7];rw [<-hw7]at hb7
       have u7:Upd (fun b=>b=H) w6 w7:=by
         rw [hw7];exact(((Upd.refl (fun b=>b=H) w6).setCell (p:=⟨H,0,none⟩) (fun _=>rfl) _).setCell (p:=⟨H,1,none⟩) (fun _=>rfl) _).setCell (p:=⟨H,2,none⟩) (fun _=>rfl) _
       (have hXH:X≠H:=by have:=HX.out;have:=HKH.out;omega);have HS7:=hd_ (HS6.out.upd u7 hXH);have HR7:=hd_ (HR6.out.upd u7 (by omega));have HB7:=hd_ (show Blk w7 H 30 #[.int .i64 nx.1,.int .i64 nx.2.1,.int .i64 nx.2.2] by simpa using hb7);have HU7:=hd_ ((HF6.out.mono (T:=fun b=>b=H) fun _ _ h=>h.elim).trans' u7);clear hw7 u7 hb7 g0 g1 g2 y0 y1 y2 e0 e1 e2 HB6 HS6 HR6 HF6;go_upto_region 12 with fail;obtain⟨w8,hw8⟩:=nm_ (w7.alloc (.cells #[.int .i64 0,.int .u64 0,.int .i64 0,.int .u64 0,.int .i64 0,.int .u64 0] 154));obtain⟨Z,hZ⟩:=nm_ (w7.heap.size);simp only [<-hZ,<-hw8];(have f8:Q0 w7 w8:=by rw [hw8];exact(Upd.refl _ _).alloc _);have HZ8:=hd_ (show Blk w8 Z 154 (KQ rx 0) by rw [hw8];exact Q1 hZ _ _);have HS8:=hd_ (HS7.out.fresh f8);have HB8:=hd_ (HB7.out.fresh f8);have HR8:=hd_ (HR7.out.fresh f8);have HU8:=hd_ (HU7.out.trans' (f8.mono (T:=fun b=>b=H) fun _ _ h=>h.elim));have HQ8:=hd_ (HQ.out.upd HU8.out (by have:=HKH.out;omega));have HZN:=hd_ (show X<Z/\K+1<=X by have h1:=HS7.out.lt;have h2:=HX.out;omega);have HZS:=hd_ (show w8.heap.size=Z+1 by rw [hw8,hZ];simp);obtain⟨d0,d1⟩:=(HS8.out).cells2;have HQL:=hd_ (fun W=>(HSP.out lt W (by omega)));have HQO:=hd_ (fun W=>(HSO.out vn W (by have:=HXO.out;rw [HRX.out]at this;exact this.2.2.2.1) (by have:=HXO.out;rw [HRX.out]at this;exact this.2.2.2.2)));have HQM:=hd_ (fun W=>(HSP.out (ln-3) W (by omega)));(have q1:JS lt=rx.cL/\lt-YK rx.cL=rx.rL:=by rw [HRX.out];exact⟨rfl,rfl⟩);(have q2:Zq vn=rx.cO/\vn-2^rx.cO=rx.rO:=by rw [HRX.out];exact⟨rfl,rfl⟩);(have q3:JS (ln-3)=rx.cM/\(ln-3)-YK rx.cM=rx.rM:=by rw [HRX.out];exact⟨rfl,rfl⟩);simp only [q1.2,q1.1]at HQL;simp only [q2.2,q2.1]at HQO;simp only [q3.2,q3.1]at HQM;(have hi0:∀W,(Instr.index 30 (.agg #[.int .i64 (lt:Nat),.int .i64 (vn:Nat),.int .i64 (ln-3:Nat)]) (.int .i64 0)).run Tryz.prog W = .ok (.int .i64 (lt:Nat)) W:=fun _=>by kernel_rfl);(have hi1:∀W,(Instr.index 30 (.agg #[.int .i64 (lt:Nat),.int .i64 (vn:Nat),.int .i64 (ln-3:Nat)]) (.int .i64 1)).run Tryz.prog W = .ok (.int .i64 (vn:Nat)) W:=fun _=>by kernel_rfl);(have hi2:∀W,(Instr.index 30 (.agg #[.int .i64 (lt:Nat),.int .i64 (vn:Nat),.int .i64 (ln-3:Nat)]) (.int .i64 2)).run Tryz.prog W = .ok (.int .i64 (ln-3:Nat)) W:=fun _=>by kernel_rfl);clear q1 q2 q3 hw8 hZ f8 HB7 HS7 HR7 HU7 hXH HQ HSP HSO;go_wp2_with fail;clear d0 d1;obtain⟨gq,rfl⟩:∃q,q=gk:=⟨gk,rfl⟩;obtain⟨vo,rfl⟩:∃q,q=u4:=⟨u4,rfl⟩;obtain⟨wo,rfl⟩:∃q:World,q=wr:=⟨wr,rfl⟩;go_loopg [4,12,46] 3 (fun f vv ve vi wr=>∃(i:Nat),i+f=3/\vi = .int .i64 i/\ve = .int .i64 0/\vv=vo/\Upd (fun b=>b=Z) w8 wr/\Blk wr Z 154 (KQ rx i))
       case atStart=>exact⟨0,rfl,rfl,rfl,rfl,Upd.refl _ _,HZ8.out⟩
       case round =>
         obtain⟨i,hif,rfl,rfl,rfl,hu,hbz⟩:=hrel;have HUZ:=hd_ hu;have HBZ:=hd_ hbz;have qq:=HQ8.out.upd hu (by have:=HZN.out;omega);have p0:=qq.cell 0;have p1:=qq.cell 3;have p2:=qq.cell 6;simp [ZQ]at p0 p1 p2;clear hu hbz qq;(have h4:i=0\/i=1\/i=2\/i=3:=by omega);rcases h4 with rfl|rfl|rfl|rfl
         . obtain rfl:gk=3:=by omega
           go_wp2_with fail;refine(HQL.out _).mono ?_;rintro e w9 ⟨rfl,f9⟩;have b9:=HBZ.out.fresh f9;have k0:=b9.cell 0;have k1:=b9.cell 1;have z0:=b9.frozen 0;have z1:=b9.frozen 1;simp [KQ]at k0 k1;have HB9:=hd_ b9;have HU9:=hd_ (HUZ.out.trans' (f9.mono (T:=fun b=>b=Z) fun _ _ h=>h.elim));clear f9 b9 p0 p1 p2;go_wp2_with fail;go_roundg 2
           case measure=>omega
           case rel =>
             refine⟨1,rfl,by go_num,rfl,rfl,(HU9.out.setCell (p:=⟨Z,0,none⟩) (fun _=>rfl) _).setCell (p:=⟨Z,1,none⟩) (fun _=>rfl) _,?_⟩;have h:=(HB9.out.set_ 0 (.int .i64 (rx.cL:Nat))).set_ 1 (.int .u64 (rx.rL:Nat));(have e:((KQ rx 0).setIfInBounds 0 (.int .i64 (rx.cL:Nat))).setIfInBounds 1 (.int .u64 (rx.rL:Nat))=KQ rx 1:=by simp [KQ]);rw [e]at h;exact h
         . obtain rfl:gk=2:=by omega
           go_wp2_with fail;refine(HQO.out _).mono ?_;rintro e w9 ⟨rfl,f9⟩;have b9:=HBZ.out.fresh f9;have k0:=b9.cell 2;have k1:=b9.cell 3;have z0:=b9.frozen 2;have z1:=b9.frozen 3;simp [KQ]at k0 k1;have HB9:=hd_ b9;have HU9:=hd_ (HUZ.out.trans' (f9.mono (T:=fun b=>b=Z) fun _ _ h=>h.elim));clear f9 b9 p0 p1 p2;go_wp2_with fail;go_roundg 1
           case measure=>omega
           case rel =>
             refine⟨2,rfl,by go_num,rfl,rfl,(HU9.out.setCell (p:=⟨Z,2,none⟩) (fun _=>rfl) _).setCell (p:=⟨Z,3,none⟩) (fun _=>rfl) _,?_⟩;have h:=(HB9.out.set_ 2 (.int .i64 (rx.cO:Nat))).set_ 3 (.int .u64 (rx.rO:Nat));(have e:((KQ rx 1).setIfInBounds 2 (.int .i64 (rx.cO:Nat))).setIfInBounds 3 (.int .u64 (rx.rO:Nat))=KQ rx 2:=by simp [KQ]);rw [e]at h;exact h
         . obtain rfl:gk=1:=by omega
           go_wp2_with fail;refine(HQM.out _).mono ?_;rintro e w9 ⟨rfl,f9⟩;have b9:=HBZ.out.fresh f9;have k0:=b9.cell 4;have k1:=b9.cell 5;have z0:=b9.frozen 4;have z1:=b9.frozen 5;simp [KQ]at k0 k1;have HB9:=hd_ b9;have HU9:=hd_ (HUZ.out.trans' (f9.mono (T:=fun b=>b=Z) fun _ _ h=>h.elim));clear f9 b9 p0 p1 p2;go_wp2_with fail;go_roundg 0
           case measure=>omega
           case rel =>
             refine⟨3,rfl,by go_num,rfl,rfl,(HU9.out.setCell (p:=⟨Z,4,none⟩) (fun _=>rfl) _).setCell (p:=⟨Z,5,none⟩) (fun _=>rfl) _,?_⟩;have h:=(HB9.out.set_ 4 (.int .i64 (rx.cM:Nat))).set_ 5 (.int .u64 (rx.rM:Nat));(have e:((KQ rx 2).setIfInBounds 4 (.int .i64 (rx.cM:Nat))).setIfInBounds 5 (.int .u64 (rx.rM:Nat))=KQ rx 3:=by simp [KQ]);rw [e]at h;exact h
         (obtain rfl:gk=0:=by omega);have hbz3:Blk wr Z 154 (Yw rx).toArray:=HBZ.out;have o3:=(HOV.out.upd HU8.out (fun b hb e=>by have:=HVX.out b hb;have:=HKH.out;omega)).upd HUZ.out (fun b hb e=>by have:=HVX.out b hb;have:=HZN.out;omega);have t0:=hbz3.cell 0;have t1:=hbz3.cell 1;have t2:=hbz3.cell 2;have t3:=hbz3.cell 3;have t4:=hbz3.cell 4;have t5:=hbz3.cell 5;simp [Yw]at t0 t1 t2 t3 t4 t5;(have hrl:(outs.map Yw).length<=2^30:=by have:=HOL.out;have:=HJ.out;simp;omega);have O3:=hd_ o3;clear p0 p1 p2 hbz3 o3;go_wp2_with (at_builtin;go_must (refine Kd _ rfl (.tmp 71) (.tmp 73) _ rfl 154 _ 6 48 Tryz.underlying88 Q9s rfl (by omega) (by omega) u4 _ rfl (O3.out.alloc _) wr.heap.size 1 (Yw rx) rfl (by simp [Yw,Value.oneCell']) rfl (Blk.new _ _ _) hrl ?_);intro g10 c10 w10 o10 g10u a10 l10);(have er:outs.map Yw++[Yw rx]=(outs++[rx]).map Yw:=by simp);(have el:(outs.map Yw).length+1=outs.length+1:=by simp);rw [er,el]at o10;(have hvn:∀b,u4.ownBlock=some b->b≠H/\K+1<=b:=fun b hb=>by have:=HVX.out b hb;have:=HKH.out;omega);have b10:=((HB8.out.upd HUZ.out (by have:=HZN.out;have:=HKH.out;omega)).alloc (.cells (Yw rx).toArray 154)).grown g10u (fun h=>(hvn _ h).1 rfl);have u10:Upd (fun b=>b=H) w2 w10:=(((HU.out.trans' HU8.out).trans HUZ.out (fun b hb e=>by have:=HZN.out;have:=HK2.out;omega)).alloc _).grown g10u (fun k hk hlt=>by have:=hvn k hk;have:=HK2.out;omega)
         have hvb10:∀b,(Value.slice (some ⟨g10,0,none⟩) (outs.length+1) c10).ownBlock=some b->K+1<=b:=by
           intro b hb;injection hb with hb;have hb':g10=b:=hb;rcases a10 with h|h
           . have:=hvn _ h;omega
           have h1:=u10.size;simp at h;have h2:=HZN.out;have h3:=HUZ.out.size;have h4:=HZS.out;omega
         have HO10:=hd_ o10;have HB10:=hd_ b10;have HU10:=hd_ u10;have HVB10:=hd_ hvb10;clear er el o10 b10 u10 hvb10 hvn a10 l10 g10u t0 t1 t2 t3 t4 t5;go_roundg (gq-1)
         case measure=>omega
         case rel =>
           refine⟨j+1,nx.1,nx.2.1,nx.2.2,outs++[rx],by have:=HJ.out;omega,by go_num,HNX.out,by have:=HOL.out;simp;omega,?_,?_,?_,HO10.out,HVB10.out,HU10.out,HB10.out⟩
           . rw [<-HC1.out,HCR.out];simp
           . rw [<-HC2.out,HCN.out]
           rw [HMAY.out,HDR.out];constructor
           . intro h s hs
             exact h s (List.mem_cons_of_mem _ hs)
           intro h s hs;rcases List.mem_cons.1 hs with rfl|hs
           . exact HMS.out
           exact h s hs
     rw [decide_eq_false hms];have e0:=HR4.out.cell 0;have e1:=HR4.out.cell 1;have e2:=HR4.out.cell 2;have z0:=HR4.out.frozen 0;have z1:=HR4.out.frozen 1;have z2:=HR4.out.frozen 2;simp at e0 e1 e2
     have hno:¬ ∀s∈l,Yj s:=by
       rw [HMAY.out,HDR.out];intro h;exact hms (h _ (by simp))
     go_wp2_with fail;go_region;(all_goals go_wp2_with fail)
     all_goals
       have BR5:Blk (((w4.setCell ⟨H+1,0,none⟩ (.int .i64 x)).setCell ⟨H+1,1,none⟩ (.int .i64 y)).setCell ⟨H+1,2,none⟩ (.int .i64 z)).drew (H+1) 30 #[.int .i64 x,.int .i64 y,.int .i64 z]:=by
         have h:=((HR4.out.set_ 0 (.int .i64 x)).set_ 1 (.int .i64 y)).set_ 2 (.int .i64 z);simpa using h.drew
       refine bodyPost_ret (Xo rfl _ _ (H+1) _ _ _ rfl BR5 Tryz.underlying30 rfl (by kernel_rfl)) rfl ?_;refine hR.out _ _ ⟨?_,?_⟩
       . have u5:Upd (fun b=>b=H\/b=H+1) w (((w4.setCell ⟨H+1,0,none⟩ (.int .i64 x)).setCell ⟨H+1,1,none⟩ (.int .i64 y)).setCell ⟨H+1,2,none⟩ (.int .i64 z)).drew :=
           ((((HUW.out.trans' (HF4.out.mono fun _ _ h=>h.elim)).setCell (p:=⟨H+1,0,none⟩) (fun _=>.inr rfl) _).setCell (p:=⟨H+1,1,none⟩) (fun _=>.inr rfl) _).setCell (p:=⟨H+1,2,none⟩) (fun _=>.inr rfl) _).drew
         (exact u5.mono fun b hb h=>by have:=HH.out;omega)
       rw [if_neg hno];exact⟨x,y,z,rfl⟩
   (obtain rfl:j=n:=by omega);have hdn:l.drop j=[]:=List.drop_of_length_le (by rw [HL.out];exact Nat.le_refl _);(have hyes:∀s∈l,Yj s:=by rw [HMAY.out,hdn];intro s hs;cases hs);(have hco:outs=QC a b c l:=by have:=HC1.out;rw [hdn]at this;simpa [QC]using this);(have hcn:JV a b c l=(x,y,z):=by have:=HC2.out;rw [hdn]at this;exact this.symm);have a0:=HB.out.cell 0;have a1:=HB.out.cell 1;have a2:=HB.out.cell 2;have e0:=HRR.out.cell 0;have e1:=HRR.out.cell 1;have e2:=HRR.out.cell 2;have z0:=HRR.out.frozen 0;have z1:=HRR.out.frozen 1;have z2:=HRR.out.frozen 2;simp at a0 a1 a2 e0 e1 e2;clear hdn;go_wp2_with fail;go_region;(all_goals go_wp2_with fail)
   all_goals
     have BR5:Blk (((wr.setCell ⟨H+1,0,none⟩ (.int .i64 x)).setCell ⟨H+1,1,none⟩ (.int .i64 y)).setCell ⟨H+1,2,none⟩ (.int .i64 z)).drew (H+1) 30 #[.int .i64 x,.int .i64 y,.int .i64 z]:=by
       have h:=((HRR.out.set_ 0 (.int .i64 x)).set_ 1 (.int .i64 y)).set_ 2 (.int .i64 z);simpa using h.drew
     refine bodyPost_ret (Xo rfl _ _ (H+1) _ _ _ rfl BR5 Tryz.underlying30 rfl (by kernel_rfl)) rfl ?_
     have u5:Upd (fun b=>b=H+1) wr (((wr.setCell ⟨H+1,0,none⟩ (.int .i64 x)).setCell ⟨H+1,1,none⟩ (.int .i64 y)).setCell ⟨H+1,2,none⟩ (.int .i64 z)).drew :=
       ((((Upd.refl (fun b=>b=H+1) wr).setCell (p:=⟨H+1,0,none⟩) (fun _=>rfl) _).setCell (p:=⟨H+1,1,none⟩) (fun _=>rfl) _).setCell (p:=⟨H+1,2,none⟩) (fun _=>rfl) _).drew
     refine hR.out _ _ ⟨?_,?_⟩
     . exact(HUW.out.trans u5 (fun b hb h=>.inr h)).mono fun b hb h=>by have:=HH.out;omega
     rw [if_pos hyes];exact⟨u4,by rw [hcn];rfl,by rw [<-hco];exact HOV.out.upd u5 (fun b hb e=>by have:=HVB.out b hb;have:=HKH.out;omega),fun b hb=>by have:=HVB.out b hb;have:=HKH.out;have:=HH.out;omega⟩
end Go.Proofs.YtjfdaphjijfieaaGreat
namespace Go.Proofs.YtjfdaphjijfieaaGreat
open Go.RowKit Go.Shelf
attribute [local go_sem] Oper.semAt_some
def YN (Kb:Nat->Prop) (W W':World):Prop:=∀k,Kb k->W'.heap[k]?=W.heap[k]?
theorem YN.refl (Kb:Nat->Prop) (W:World):YN Kb W W:=fun _ _=>rfl
theorem YN.trans {Kb:Nat->Prop} {A B C:World} (h:YN Kb A B) (k:YN Kb B C):YN Kb A C:=fun j hj=>(k j hj).trans (h j hj)
theorem YN.upd {S Kb:Nat->Prop} {W W':World} (h:Upd S W W') (hs:∀k,Kb k->k<W.heap.size/\¬S k):YN Kb W W':=fun k hk=>h.block k (hs k hk).1 (hs k hk).2
theorem YN.putObj {Kb:Nat->Prop} {l:Nat} (W:World) (o':Obj) (h:∀k,Kb k->k<W.heap.size/\k≠l):YN Kb W (W.putObj l o') :=
 YN.upd (S:=fun k=>k=l) ((Upd.refl _ W).grown (grownBy_putObj' W l o') (fun k e _=>by injection e with e;exact e.symm)) h
theorem YN.cell {Kb:Nat->Prop} {W W':World} (h:YN Kb W W') {b:Nat} (hb:Kb b) (o:Nat):W'.cell? ⟨b,o,none⟩=W.cell? ⟨b,o,none⟩:=World.cell?_of_block (a:=⟨b,o,none⟩) (h b hb)
section
variable {Pq:Nat × Qe->Prop}
def bkP (l:List Qe) (hq:∀(j:Nat) (h:j<l.length),Pq (j,l[j])) (k:Nat):List { p:Nat × Qe // Pq p } :=
  (((List.finRange l.length).drop k).map fun j=>⟨(j.val,l[j.val]),hq j.val j.isLt⟩).reverse
theorem Q5n (l:List Qe) (hq:∀(j:Nat) (h:j<l.length),Pq (j,l[j])):bkP l hq l.length=[]:=by
 unfold bkP;rw [List.drop_of_length_le (by simp)];rfl
theorem Q4g (l:List Qe) (hq:∀(j:Nat) (h:j<l.length),Pq (j,l[j])) (k:Nat) (h:k<l.length):bkP l hq k=bkP l hq (k+1)++[⟨(k,l[k]),hq k h⟩]:=by
 unfold bkP;rw [List.drop_eq_getElem_cons (by simpa using h)];simp
theorem XZ (l:List Qe) (hq:∀(j:Nat) (h:j<l.length),Pq (j,l[j])) (k:Nat):(bkP l hq k).length=l.length-k:=by
 unfold bkP;simp
end
theorem Q4h (A:Option Addr) (n c:Nat) (w:World) :
   Calls Tryz.prog 77 #[.slice A n c] w fun e w'=>e = .returned (.func (.func 127) #[] #[.pointer (some ⟨w.heap.size,0,none⟩)])/\w'=w.alloc (.cells #[.slice A n c] 88):=by
 go_enter Tryz.func77,Tryz.ntmps77;go_wp2_with fail;(try go_ret);exact⟨rfl,rfl⟩
def bkV {Pq:Nat × Qe->Prop} (x:{ p:Nat × Qe // Pq p }):Array Value:=#[.int .i64 (x.1.1:Nat),.agg (Yw x.1.2).toArray]
theorem Q9t {Pq:Nat × Qe->Prop} (Fe:Fence) (m l Sb n c:Nat) (A:Option Addr) (L:List Qe) (Kb Fl:Nat->Prop) (hq:∀(j:Nat) (h:j<L.length),Pq (j,L[j])) (hft:Fe.fn 127) (hro:Fe.round=none) (hd:Fe.depth=none)
   (J Jx:List { p:Nat × Qe // Pq p }->World->Prop)
   (hY:∀pre x W,J pre W->pre.length<n->YieldAt Fe (m-1) Tryz.prog l (bkV x) W fun e W' =>
     (e = .returned (.bool true)/\J (pre++[x]) W'/\YN Kb W W')\/(e = .returned (.bool false)/\Jx (pre++[x]) W'))
   (W:World) (hS:W.cell? ⟨Sb,0,none⟩=some (.slice A n c)) (hKS:Kb Sb) (hR:RdK W Fl 6 A n (L.map Yw)) (hKF:∀b,Fl b->Kb b) (hn:n<=2^40) (h0:J [] W) :
   CallsIn Fe m Tryz.prog 127 #[.func (.yield l) #[] #[],.pointer (some ⟨Sb,0,none⟩)] W fun e W'=>(∃v,e = .returned v) /\
     ((∃ys,ys=bkP L hq 0/\J ys W')\/(∃pre,True/\Jx pre W')):=by
 (have hL:L.length=n:=by have:=hR.1;simpa using this);have hw1:IntKind.i64.wrap ((n:Int)-1)=n-1:=IntWalk.i64_in _ (by omega);refine callsIn_of_wp Tryz.func127 rfl hft ?_ hro;simp only [Tryz.ntmps127,List.size_toArray,List.length_cons,List.length_nil,Nat.reduceAdd,Nat.reduceSub,Array.replicate_succ,Array.replicate_zero,List.push_toArray,List.append_toArray,List.nil_append,List.cons_append];gi_wp2;gi_loopg [3] n (fun f i wr=>f<=n/\i = .int .i64 ((f:Int)-1)/\J (bkP L hq f) wr/\YN Kb W wr)
 case atStart=>exact⟨Nat.le_refl _,rfl,by rw [<-hL,Q5n];exact h0,YN.refl _ _⟩
 case round =>
   obtain⟨hfn,rfl,hJ,hk⟩:=hrel;have hS':wr.cell? ⟨Sb,0,none⟩=some (.slice A n c):=(hk.cell hKS 0).trans hS;rcases gk with _|k
   . gi_wp2
     go_end0;exact⟨⟨_,rfl⟩,.inl ⟨_,rfl,hJ⟩⟩
   (have hkL:k<L.length:=by omega);(have hkn:k<n:=by omega);have hY':=hY (bkP L hq (k+1)) ⟨(k,L[k]),hq k hkL⟩ wr hJ (by rw [XZ];omega);rw [<-Q4g L hq k hkL]at hY';obtain⟨b,o,rfl,hFb,_,hc⟩:=hR.at_ (r:=0) hkn;have hc':∀r,r<6->wr.cell? ⟨b,o+k*6+r,none⟩=((L.map Yw)[k]'(by simpa using hkL))[r]?:=fun r hr=>(hk.cell (hKF b hFb) _).trans (hc r hr);rw [List.getElem_map]at hc';have c0:=hc' 0 (by omega);have c1:=hc' 1 (by omega);have c2:=hc' 2 (by omega);have c3:=hc' 3 (by omega);have c4:=hc' 4 (by omega);have c5:=hc' 5 (by omega);simp [Yw]at c0 c1 c2 c3 c4 c5;(have e1:((k+1:Nat):Int)-1=(k:Nat):=by omega);have hw2:IntKind.i64.wrap ((k:Int)-1)=k-1:=IntWalk.i64_in _ (by omega);(have hkI:(k:Int)<n:=by omega);(have hk0:(0:Int)<=k:=by omega);obtain⟨fn,tmps,assign,body,hy,hRd⟩:=hY';simp only [bkV,Yw]at hy;have HK:=hd_ hk;clear hc hc' hJ hk hY hR;simp only [e1];gi_wp2
   first
     | refine hRd.mono ?_
     | refine⟨?_,?_,hRd.mono ?_⟩
   rintro e W3 (⟨rfl,hJ3,hk3⟩|⟨rfl,hJx3⟩)
   . have HJ3:=hd_ hJ3
     have HK3:=hd_ hk3;clear hJ3 hk3 hRd hy;gi_wp2;gi_roundg k
     case measure=>omega
     case rel=>exact⟨by omega,by go_num,HJ3.out,HK.out.trans HK3.out⟩
   gi_wp2;refine bodyPost_ret (results_none rfl _ _ _) rfl ?_;exact⟨⟨_,rfl⟩,.inr ⟨_,trivial,hJx3⟩⟩
theorem Q6r {Pq:Nat × Qe->Prop} (m Sb n c:Nat) (A:Option Addr) (L:List Qe) (Kb Fl:Nat->Prop) (hq:∀(j:Nat) (h:j<L.length),Pq (j,L[j])) (w:World) (hSb:Sb<w.heap.size) (hS:w.cell? ⟨Sb,0,none⟩=some (.slice A n c)) (hKS:Kb Sb) (hR:RdK w Fl 6 A n (L.map Yw)) (hKF:∀b,Fl b->Kb b) (hn:n<=2^40) :
   SeqStopsK Fence.wide m Tryz.prog 127 #[.pointer (some ⟨Sb,0,none⟩)] (bkV (Pq:=Pq)) (YN Kb) (fun ys=>ys=bkP L hq 0) (fun _=>True) n w :=
 fun l J Jx W hW hJa _ hY h0=>Q9t Fence.wide m l Sb n c A L Kb Fl hq trivial rfl rfl J Jx hY W ((hW.cell (p:=⟨Sb,0,none⟩) hSb).trans hS) hKS (hR.upd (S:=fun _=>False) (Upd.of_below hW) (fun _ _ _ h=>h)) hKF hn h0
end Go.Proofs.YtjfdaphjijfieaaGreat
namespace Go.Proofs.YtjfdaphjijfieaaGreat
open Go.RowKit
def Q0F (T:QK) (x:Qe) (S:Sts) (k:Nat):Sts:=⟨if 2<k then ZC T.pL T.NL x.cL else S.l,if 0<k then ZC T.pO T.NO x.cO else S.o,if 1<k then ZC T.pM T.NM x.cM else S.m⟩
def KR (T:QK) (x:Qe) (S:Sts) (k:Nat):Sts:=⟨if 2<k then Qz T.pL T.NL x.cL S.l else S.l,if 0<k then Qz T.pO T.NO x.cO S.o else S.o,if 1<k then Qz T.pM T.NM x.cM S.m else S.m⟩
def Q0G (T:QK) (x:Qe) (S:Sts) (k:Nat):List Bool:=(if 0<k then Jc T.pO T.NO x.cO S.o else [])++(if 1<k then Jc T.pM T.NM x.cM S.m else [])++(if 2<k then Jc T.pL T.NL x.cL S.l else [])
def Jn (x:Qe) (k:Nat):List Bool:=(if 0<k then Qj (Yc x.cL) x.rL else [])++(if 1<k then Qj (Yc x.cM) x.rM else [])++(if 2<k then Qj x.cO x.rO else [])
theorem Q4i (x:Qe):Jn x 3=XY x:=by simp [Jn,XY]
def Yx (T:QK) (last:Bool) (x:Qe) (r:Sts × List Bool) (k:Nat):Sts × List Bool:=if last then(Q0F T x r.1 k,r.2)else(KR T x r.1 k,r.2++Q0G T x r.1 k)
def Q0S (T:QK) (n:Nat) (r:Sts × List Bool) (p:Nat × Qe):Sts × List Bool:=((Yx T (decide (p.1+1=n)) p.2 r 3).1,(Yx T (decide (p.1+1=n)) p.2 r 3).2++XY p.2)
def wrF (T:QK) (n:Nat) (pre:List (Nat × Qe)):Sts × List Bool:=pre.foldl (Q0S T n) (⟨0,0,0⟩,[])
theorem Q1F (T:QK) (n:Nat) (pre:List (Nat × Qe)) (p:Nat × Qe):wrF T n (pre++[p])=Q0S T n (wrF T n pre) p:=by simp [wrF]
theorem QaA {T:QK} (hT:T.ok) {x:Qe} (hc:Cov T x) {S:Sts} (hS:S.ok T) (k:Nat):(Q0F T x S k).ok T:=by
 obtain⟨h1,h2,h3⟩:=hT.wide;obtain⟨⟨c1,n1⟩,⟨c2,n2⟩,c3,n3⟩:=hc;have a1:=(Xw h1 c1 n1).1;have b1:=(Xw h2 c2 n2).1;have d1:=(Xw h3 c3 n3).1;unfold Q0F;(refine⟨?_,?_,?_⟩<;>simp only<;>split<;>first|assumption|exact hS.1|exact hS.2.1|exact hS.2.2)
theorem QaB {T:QK} (hT:T.ok) {x:Qe} (hc:Cov T x) {S:Sts} (hS:S.ok T) (k:Nat):(KR T x S k).ok T:=by
 obtain⟨h1,h2,h3⟩:=hT.wide;obtain⟨⟨c1,n1⟩,⟨c2,n2⟩,c3,n3⟩:=hc;have a1:=(Jg h1 c1 n1 hS.1).1;have b1:=(Jg h2 c2 n2 hS.2.1).1;have d1:=(Jg h3 c3 n3 hS.2.2).1;unfold KR;(refine⟨?_,?_,?_⟩<;>simp only<;>split<;>first|assumption|exact hS.1|exact hS.2.1|exact hS.2.2)
theorem QaC {T:QK} (hT:T.ok) {x:Qe} (hc:Cov T x) {S:Sts} (hS:S.ok T) (k:Nat):(Q0G T x S k).length<=27:=by
 obtain⟨h1,h2,h3⟩:=hT.wide;obtain⟨⟨c1,n1⟩,⟨c2,n2⟩,c3,n3⟩:=hc;have a1:=(Jg h1 c1 n1 hS.1).2.2.2.2.2.1;have b1:=(Jg h2 c2 n2 hS.2.1).2.2.2.2.2.1;have d1:=(Jg h3 c3 n3 hS.2.2).2.2.2.2.2.1;have e1:=h1.2.1;have e2:=h2.2.1;have e3:=h3.2.1;unfold Q0G Jc;simp only [List.length_append]
 have g:∀(p:Prop) [Decidable p] (l:List Bool),l.length<=9->(if p then l else []).length<=9:=by
   intro p _ l h;split
   . exact h
   simp
 have q1:=g (0<k) (Qj (QF T.pO T.NO x.cO S.o) (QU T.pO T.NO x.cO S.o)) (by simp;omega);have q2:=g (1<k) (Qj (QF T.pM T.NM x.cM S.m) (QU T.pM T.NM x.cM S.m)) (by simp;omega);have q3:=g (2<k) (Qj (QF T.pL T.NL x.cL S.l) (QU T.pL T.NL x.cL S.l)) (by simp;omega);omega
theorem Jd {c:Nat} (h:c<44):Yc c<=16:=by
 unfold Yc;(split<;>omega)
theorem KZ {x:Qe} (hx:x.ok) (k:Nat):(Jn x k).length<=60:=by
 obtain⟨h1,h2,h3,_⟩:=QS hx;have l1:=Jd h1;have l2:=Jd h2
 have g:∀(m:Nat) (p:Prop) [Decidable p] (l:List Bool),l.length<=m->(if p then l else []).length<=m:=by
   intro m p _ l h;split
   . exact h
   simp
 have q1:=g 16 (0<k) (Qj (Yc x.cL) x.rL) (by simp;omega);have q2:=g 16 (1<k) (Qj (Yc x.cM) x.rM) (by simp;omega);have q3:=g 28 (2<k) (Qj x.cO x.rO) (by simp;omega);unfold Jn;simp only [List.length_append];omega
theorem VC {T:QK} (hT:T.ok) {x:Qe} (hc:Cov T x) {r:Sts × List Bool} (hS:r.1.ok T) (b:Bool) (k:Nat):(Yx T b x r k).1.ok T/\(Yx T b x r k).2.length<=r.2.length+27:=by
 unfold Yx;split
 . exact⟨QaA hT hc hS k,by simp⟩
 exact⟨QaB hT hc hS k,by have:=QaC hT hc hS k;simp;omega⟩
theorem Q4j {T:QK} (hT:T.ok) {n:Nat}:∀(pre:List (Nat × Qe)),(∀p∈pre,p.2.ok/\Cov T p.2)->(wrF T n pre).1.ok T/\(wrF T n pre).2.length<=100*pre.length:=by
 intro pre
 induction hn:pre.length generalizing pre with
 | zero =>
   intro _;have:pre=[]:=List.eq_nil_of_length_eq_zero hn;subst this;obtain⟨h1,h2,h3⟩:=hT.wide;exact⟨⟨Nat.two_pow_pos _,Nat.two_pow_pos _,Nat.two_pow_pos _⟩,by simp [wrF]⟩
 | succ m ih =>
   intro h;obtain⟨q,p,rfl⟩:∃q p,pre=q++[p]:=⟨pre.dropLast,pre.getLast (by intro h;subst h;simp at hn),(List.dropLast_concat_getLast _).symm⟩;(have hq:q.length=m:=by simpa using hn);obtain⟨i1,i2⟩:=ih q hq fun x hx=>h x (by simp [hx]);obtain⟨p1,p2⟩:=h p (by simp);rw [Q1F];obtain⟨m1,m2⟩:=VC hT p2 i1 (decide (p.1+1=n)) 3;refine⟨m1,?_⟩;unfold Q0S;have r1:=KZ p1 3;rw [Q4i]at r1;rw [List.length_append];omega
theorem Q2p {Pq:Nat × Qe->Prop} (T:QK) (l:List Qe) (hq:∀(j:Nat) (h:j<l.length),Pq (j,l[j])):∀(f k:Nat),k+f=l.length->wrF T l.length ((bkP l hq k).map Subtype.val)=wrB T (l.drop k)
 | 0,k,h=>by
   obtain rfl:k=l.length:=by omega
   rw [Q5n,List.drop_of_length_le (Nat.le_refl _)]
   rfl
 | f+1,k,h=>by
   have hk:k<l.length:=by omega
   rw [Q4g l hq k hk,List.map_append,List.map_cons,List.map_nil,Q1F,Q2p T l hq f (k+1) (by omega),List.drop_eq_getElem_cons hk]
   by_cases hl:k+1=l.length
   . have hd:l.drop (k+1)=[]:=List.drop_of_length_le (by omega)
     rw [hd]
     simp [Q0S,Yx,hl,wrB,Q0F]
   obtain⟨y,t,ht⟩:∃y t,l.drop (k+1)=y::t:=by
     rw [List.drop_eq_getElem_cons (show k+1<l.length by omega)];exact⟨_,_,rfl⟩
   rw [ht];simp [Q0S,Yx,hl,wrB,KR,Q0G]
theorem Q4T (a b:Nat) (ha:a<9223372036854775808) (hb:b<9223372036854775808):bits .and .i64 (a:Int) (b:Int)=((a &&& b:Nat):Int):=by
 show IntKind.i64.wrap ((BitVec.ofInt 64 (a:Int) &&& BitVec.ofInt 64 (b:Int)).toNat:Nat)=_;rw [BitVec.toNat_and,ofInt_u64 a (by omega),ofInt_u64 b (by omega),IntKind.wrap_i64];have:=Nat.and_le_left (n:=a) (m:=b);omega
theorem Q9u (x K:Nat) (hK:K<=9) (hx:x<1024):IntKind.u64.wrap (bits .and .i64 (x:Int) (wrap64 (wrap64 (2^K)-1)))=((x%2^K:Nat):Int):=by
 have hp5:2^K<=512:=Nat.le_trans (Nat.pow_le_pow_right (by decide) hK) (by decide);have hpp:=Nat.two_pow_pos K;(have e0:((2:Int)^K)=((2^K:Nat):Int):=by simp);have hm:x &&& (2^K-1)=x%2^K:=Nat.and_two_pow_sub_one_eq_mod _ _;have hl:x%2^K<2^K:=Nat.mod_lt _ hpp;rw [e0];generalize x%2^K=r at *;generalize 2^K=q at *;(have e1:wrap64 (wrap64 (q:Int)-1)=((q-1:Nat):Int):=by unfold wrap64;omega);rw [e1,Q4T _ _ (by omega) (by omega),hm,IntKind.wrap_u64];omega
theorem Q5o (F:Nat->Prop) (g p c:Nat) (N:List Int) (w:World) (h:QG w F g p N) (hc:c<N.length) (hn:1<=(plN p N c).length):Calls Tryz.prog 129 #[.pointer (some ⟨g,0,none⟩),.int .i64 (c:Nat)] w fun e w' =>
   ∃A n d,e = .returned (.tuple #[.slice A n d,.int .i64 0])/\n=(plN p N c).length/\Rd w F A n (Yz (plN p N c))/\w'=w:=by
 obtain⟨vc,vp,PL,h1,h2,h3,h4,h5,h6,h7,h8⟩:=h;(have hcp:c<PL.length:=by omega);obtain⟨B,d,rfl,hd,hrd⟩:=h3.form;obtain⟨b,o,rfl,_,_,hcell⟩:=hrd.at_ (k:=c) hcp;obtain⟨q1,q2⟩:=h5 c PL[c] (List.getElem?_eq_getElem hcp);rw [List.getElem?_eq_getElem hcp]at hcell;generalize PL[c]=u at *;obtain⟨A,e,rfl,he,hr⟩:=q1.form;(have hl:(Yz (JJ (Q8 p N) (c:Int) (2^p))).length=(plN p N c).length:=by simp [Yz,plN]);rw [hl]at hcell hr he q2;have c1:=h1.cell 1;simp at c1;have HR:=hd_ (show Rd w F A (plN p N c).length (Yz (plN p N c))from hr.mono fun b hb=>q2 b hb);have HPL:=hd_ h4;clear h1 h2 h3 h5 h6 h7 h8 hrd q2 hr he hl hd;obtain⟨n,hnn⟩:=nm_ ((plN p N c).length);rw [<-hnn]at hn hcell HR;have HNN:=hd_ hnn;(have hcI:(c:Int)<PL.length:=by omega);(have hc0:¬(c:Int)<0:=by omega);(have hn0:((n:Int) == 0)=false:=by simp;omega);clear hnn h4;refine Q7 fun R hR=>?_;go_enter Tryz.func129,Tryz.ntmps129;go_wp2_with fail;(try go_ret2);exact hR.out _ _ ⟨_,_,_,rfl,HNN.out,HR.out,rfl⟩
theorem Q00 (F:Nat->Prop) (g p c:Nat) (N:List Int) (w:World) (h:QG w F g p N) (hc:c<N.length) (hn:1<=(plN p N c).length):Calls Tryz.prog 78 #[.pointer (some ⟨g,0,none⟩),.int .i64 (c:Nat)] w fun e w' =>
   e = .returned (.tuple #[.int .i64 (ZC p N c:Nat),.int .i64 0])/\w'=w:=by
 have HN:=hd_ (Q0y F g p N w h);have HO:=hd_ (Q5o F g p c N w h hc hn)
 have HL:=hd_ (show((Yz (plN p N c))[0]?=some (.int .i64 (ZC p N c:Nat)))from by
   unfold Yz ZC;rw [List.getElem?_map,List.getElem?_eq_getElem (by omega)]
   rfl)
 clear h;refine Q7 fun R hR=>?_;go_enter Tryz.func78,Tryz.ntmps78;go_wp2_with fail;refine HN.out.mono ?_;rintro e w1 ⟨rfl,rfl⟩;go_wp2_with fail;refine HO.out.mono ?_;rintro e w2 ⟨A,n,d,rfl,hnn,hr,rfl⟩;obtain⟨b,o,rfl,_,_,hcell⟩:=hr.at_ (k:=0) (by omega);rw [HL.out,Nat.add_zero]at hcell;(have h0n:(0:Int)<n:=by omega);clear hr hnn;go_wp2_with fail;(try go_ret2);exact hR.out _ _ ⟨rfl,rfl⟩
theorem Q1G (F:Nat->Prop) (g p c st:Nat) (N:List Int) (w:World) (h:QG w F g p N) (hv:Qg p N 256 9) (hc:c<N.length) (hn:1<=(plN p N c).length) (hs:st<2^p):Calls Tryz.prog 79 #[.pointer (some ⟨g,0,none⟩),.int .i64 (st:Nat),.int .i64 (c:Nat)] w fun e w' =>
   e = .returned (.tuple #[.agg #[.int .i64 (Qz p N c st:Nat),.int .u64 (QU p N c st:Nat),.int .i64 (QF p N c st:Nat)],.int .i64 0])/\Q0 w w':=by
 obtain⟨w0,hw0⟩:=nm_ (w.alloc (.cells #[.int .i64 0,.int .u64 0,.int .i64 0] 172));obtain⟨H,hH⟩:=nm_ (w.heap.size);(have f0:Q0 w w0:=by rw [hw0];exact(Upd.refl _ _).alloc _);(have br:Blk w0 H 172 #[.int .i64 0,.int .u64 0,.int .i64 0]:=by rw [hw0];exact Q1 hH _ _);have h0:=h.fresh f0;have HST:=hd_ (Q2R F g p st N w0 h0 hs);have HO:=hd_ (Q5o F g p c N w0 h0 hc hn);obtain⟨Ac,cc,vp,hc1,-,-,-⟩:=h0.open_;obtain⟨a1,a2,a3,a4,a5,a6,a7,a8⟩:=Jg hv hc hn hs;have hle:(plN p N c).length<=2^p:=Q2k _ _ _;(have hp9:p<=9:=by have:=hv.2.1;omega);have hpw:2^p<=512:=Nat.le_trans (Nat.pow_le_pow_right (by decide) hp9) (by decide);have HK:=hd_ (show QF p N c st=VK (st+2^p) (plN p N c).length 11 0 from rfl);have HB:=hd_ (show QU p N c st=(st+2^p)%2^QF p N c st from rfl)
 have HS:=hd_ (show(Yz (plN p N c))[(st+2^p) / 2^QF p N c st-(plN p N c).length]?=some (.int .i64 (Qz p N c st:Nat))from by
   unfold Yz;rw [List.getElem?_map,List.getElem?_eq_getElem a7];unfold Qz;rw [List.getElem?_eq_getElem a7]
   rfl)
 clear a1 a2 a3 a4 a5;generalize QF p N c st=K at *;generalize QU p N c st=bb at *;generalize Qz p N c st=ss at *;generalize plN p N c=pl at *;have HP9:=hd_ hp9;clear hv hc h h0 hp9;generalize 2^p=s at *;(have s1:IntKind.i64.wrap ((st:Int)+s)=((st+s:Nat):Int):=by rw [IntWalk.i64_in _ (by omega)];omega);(have s1':(st:Int)+s=((st+s:Nat):Int):=by omega);have HX:=hd_ (show st+s<1024 by omega);generalize st+s=x at *;have HF0:=hd_ f0;have BR:=hd_ br;have HW:=hd_ hw0;have HH:=hd_ hH;have HA:=hd_ (And.intro a6 (And.intro a7 a8));clear f0 br hw0 hH a6 a7 a8;refine Q7 fun R hR=>?_;go_enter Tryz.func79,Tryz.ntmps79;go_upto_region 1 with fail;simp only [<-HH.out,<-HW.out];go_wp2_with fail;refine HST.out.mono ?_;rintro e w1 ⟨rfl,rfl⟩;go_wp2_with fail;refine HO.out.mono ?_;rintro e w2 ⟨A,n,d,rfl,hnn,hr,rfl⟩;have HNN:=hd_ hnn;rw [<-hnn]at HK HS HA hle hn;have HRD:=hd_ hr;clear hnn hr;go_wp2_with fail;go_loopg [12] 11 (fun f v wr=>∃k:Nat,k+f=11/\v = .int .i64 k/\wr=w2/\VK x n f k=K)
 case atStart=>exact⟨0,rfl,rfl,rfl,HK.out.symm⟩
 case round =>
   obtain⟨k,hkf,rfl,rfl,hpre⟩:=hrel;have hsh:=fun W=>Q5b (P:=Tryz.prog) x k ((x / 2^k:Nat):Int) W (by omega) (by simp);(have hnp:n<=512:=by omega);have s2:IntKind.i64.wrap (2*(n:Int))=2*(n:Int):=IntWalk.i64_in _ (by omega);have s3:IntKind.i64.wrap ((k:Int)+1)=(k:Int)+1:=IntWalk.i64_in _ (by omega);(have hxk:(((x / 2^k:Nat):Nat):Int)=(x:Int) / 2^k:=by simp);have HP:=hd_ hpre;have HKF:=hd_ hkf;clear hpre;by_cases hq:2*n<=x / 2^k
   . have hqI:(2*(n:Int))<=((x / 2^k:Nat):Int):=by omega
     rcases gk with _|gk
     . exfalso
       have:x / 2^k=0:=by
         (have h11:k=11:=by omega);subst h11;exact Nat.div_eq_of_lt (Nat.lt_of_lt_of_le HX.out (by decide))
       omega
     have HN2:=hd_ (show VK x n gk (k+1)=K by have:=HP.out;simp only [VK]at this;rwa [if_pos hq]at this);generalize x / 2^k=q at *;go_wp2_with fail;go_roundg gk
     case measure=>omega
     case rel=>exact⟨k+1,by omega,by go_num,rfl,HN2.out⟩
   (have hqI:¬(2*(n:Int))<=((x / 2^k:Nat):Int):=by omega)
   obtain rfl:K=k:=by
     have:=HP.out;rcases gk with _|gk
     . exact this.symm
     simp only [VK]at this;rw [if_neg hq]at this;exact this.symm
   have HMO:=hd_ (show x%2^K=bb from HB.out.symm);obtain⟨j,hj⟩:=nm_ (x / 2^K-n);(have hjn:j<n:=by rw [hj];exact HA.out.2.1);(have hxj:(x:Int) / 2^K=n+j:=by rw [<-hxk,hj];have:=HA.out.2.2;omega);have hs':=HS.out;rw [<-hj]at hs';obtain⟨b,o,rfl,-,-,hcell⟩:=HRD.out.at_ hjn;rw [hs']at hcell;(have hjI:(j:Int)<n:=by omega);(have hj0:(0:Int)<=j:=by omega);(have s5:IntKind.i64.wrap ((n:Int)+j-n)=j:=by rw [IntWalk.i64_in _ (by omega)];omega);have z0:=BR.out.frozen 0;have z1:=BR.out.frozen 1;have z2:=BR.out.frozen 2;obtain⟨q0,q1,q2⟩:=(BR.out).cells3;(have s6:IntKind.i64.wrap ((x:Int) / 2^K-n)=j:=by rw [hxj];exact s5);clear hq hsh hxk hs' hj s5 hxj;go_wp2_with fail;go_still_tail 17,(by kernel_rfl);change wpList _ _ _ _ _ wr.drew;go_wp2_with fail
   have hand:IntKind.u64.wrap (bits .and .i64 (x:Int) (wrap64 (wrap64 (2^K)-1)))=((bb:Nat):Int):=by
     rw [Q9u x K (by have:=HA.out.1;have:=HP9.out;omega) HX.out,HMO.out]
   rw [hand]
   have BR5:Blk (((wr.setCell ⟨H,0,none⟩ (.int .i64 ss)).setCell ⟨H,1,none⟩ (.int .u64 bb)).setCell ⟨H,2,none⟩ (.int .i64 K)).drew H 172 #[.int .i64 ss,.int .u64 bb,.int .i64 K]:=by
     have h:=((BR.out.set_ 0 (.int .i64 ss)).set_ 1 (.int .u64 bb)).set_ 2 (.int .i64 K);simpa using h.drew
   refine bodyPost_ret (Q6 rfl _ _ H _ _ _ rfl BR5 Tryz.underlying172 rfl (by kernel_rfl)) rfl ?_
   have u3:Upd (fun b=>b=H) wr (((wr.setCell ⟨H,0,none⟩ (.int .i64 ss)).setCell ⟨H,1,none⟩ (.int .u64 bb)).setCell ⟨H,2,none⟩ (.int .i64 K)).drew :=
     ((((Upd.refl (fun b=>b=H) wr).setCell (p:=⟨H,0,none⟩) (fun _=>rfl) _).setCell (p:=⟨H,1,none⟩) (fun _=>rfl) _).setCell (p:=⟨H,2,none⟩) (fun _=>rfl) _).drew
   exact hR.out _ _ ⟨rfl,HF0.out.trans u3 (fun b hb h=>by have:=HH.out;omega)⟩
theorem Q24:∀(l:List ((Int × Int × List Int) × Int)) (c:(Int × Int × List Int) × Int),YL c l∈c::l
 | [],c=>by simp [YL]
 | s::l,c=>by
   rw [YL]
   have h:=Q24 l (if s.2<c.2 then s else c)
   rcases List.mem_cons.1 h with h|h
   . rw [h];split<;>simp
   exact List.mem_cons_of_mem _ (List.mem_cons_of_mem _ h)
theorem Q9v {p:Int} {C:List Int} {cs:List (Int × Int × List Int)} {c:(Int × Int × List Int) × Int} (h:c∈Zp p C cs):c.1∈cs/\Zg p C c.1=some c.2:=by
 unfold Zp at h;obtain⟨a,ha,hb⟩:=List.mem_filterMap.1 h;rcases hp:Zg p C a with _|x
 . rw [hp]at hb;simp at hb
 rw [hp]at hb;simp at hb;subst hb;exact⟨ha,hp⟩
theorem Q35:∀(l:List ((Int × Int × List Int) × Int)) (c s:(Int × Int × List Int) × Int),s∈c::l->(YL c l).2<=s.2
 | [],c,s,h=>by simp at h;subst h;simp [YL]
 | t::l,c,s,h=>by
   rw [YL]
   have h1:∀s,s∈(if t.2<c.2 then t else c)::l->_:=Q35 l (if t.2<c.2 then t else c)
   have h0:=h1 (if t.2<c.2 then t else c) (by simp)
   have hc:(if t.2<c.2 then t else c).2<=c.2/\(if t.2<c.2 then t else c).2<=t.2:=by split<;>omega
   rcases List.mem_cons.1 h with rfl|h
   . omega
   rcases List.mem_cons.1 h with rfl|h
   . omega
   exact h1 s (List.mem_cons_of_mem _ h)
theorem Q0H {p lg:Int} {N C:List Int} {r1 r2:Int} {r3:List Int} (hp:0<=p/\p<=2) (h:QI p lg N C=(r1,r2,r3,0)) :
   (QD r1 p r2 r3).1=0/\(J4 r2 r3 C).2=0/\(r1,r2,r3)∈Ji p (Qo p) lg N C /\
   ∀c x,c∈Ji p (Qo p) lg N C->Zg p C c=some x->(J4 r2 r3 C).1+8*(QD r1 p r2 r3).2.length<=x:=by
 have h0:QI p lg N C=match Zp p C (Ji p (Qo p) lg N C)with | []=>(0,0,[],2)|c::l=>((YL c l).1.1,(YL c l).1.2.1,(YL c l).1.2.2,0):=by
   unfold QI;rw [if_neg (by omega)];(try rfl)
 rw [h0]at h
 cases hm:Zp p C (Ji p (Qo p) lg N C)with
 | nil=>rw [hm]at h;simp at h
 | cons c l =>
   rw [hm]at h;simp only [Prod.mk.injEq,and_true]at h;obtain⟨e1,e2,e3⟩:=h;have hb:=Q24 l c;have hle:=Q35 l c;rw [<-hm]at hb hle;obtain⟨m1,m2⟩:=Q9v hb;(have hc:(YL c l).1=(r1,r2,r3):=by rw [<-e1,<-e2,<-e3]);rw [hc]at m1 m2;unfold Zg at m2;simp only at m2;split at m2
   . rename_i hok
     injection m2 with m2;refine⟨hok.1,hok.2,m1,fun c' x hc' hx=>?_⟩
     have:(c',x)∈Zp p C (Ji p (Qo p) lg N C):=by
       unfold Zp;exact List.mem_filterMap.2 ⟨c',hc',by rw [hx];rfl⟩
     have:=hle _ this;simp only at this;omega
   cases m2
theorem Q25 {lg:Int} {N:List Int}:∀(l:List Int) (i:Nat) (a r:Int),Ja lg N i l a=some r->∀(j:Nat) c,l[j]?=some c->c≠0->∃v,N[i+j]?=some v/\v≠0
 | [],i,a,r,_,j,c,hj,_=>by simp at hj
 | x::l,i,a,r,h,j,c,hj,hc=>by
   rw [Ja]at h
   cases j with
   | zero =>
     have hx:x=c:=by simpa using hj
     subst hx
     rw [if_neg hc]at h
     rcases hN:N[i]? with _|v
     . rw [hN]at h;cases h
     rw [hN]at h
     simp only at h
     by_cases hv:v=0
     . rw [if_pos hv]at h;cases h
     exact⟨v,by first|rfl|exact hN,hv⟩
   | succ j =>
     have hj':l[j]?=some c:=by simpa using hj
     have key:∃a',Ja lg N (i+1) l a'=some r:=by
       split at h
       . exact⟨_,h⟩
       split at h
       . cases h
       split at h
       . cases h
       exact⟨_,h⟩
     obtain⟨a',ha'⟩:=key;have:=Q25 l (i+1) a' r ha' j c hj' hc
     rwa [show i+(j+1)=i+1+j by omega]
theorem Q01 {lg:Int} {N:List Int}:∀(l:List Int) (i:Nat) (a:Int),(∀(j:Nat) c,l[j]?=some c->c≠0->∃v,N[i+j]?=some v/\v≠0)->∃r,Ja lg N i l a=some r
 | [],i,a,_=>⟨a,rfl⟩
 | x::l,i,a,h=>by
   rw [Ja]
   have h':∀(j:Nat) c,l[j]?=some c->c≠0->∃v,N[i+1+j]?=some v/\v≠0:=fun j c hj hc=>by
     have:=h (j+1) c (by simpa using hj) hc
     rwa [show i+(j+1)=i+1+j by omega]at this
   by_cases hx:x=0
   . rw [if_pos hx];exact Q01 l (i+1) a h'
   rw [if_neg hx]
   obtain⟨v,hv,hv0⟩:=h 0 x rfl hx
   rw [Nat.add_zero]at hv
   rw [hv]
   simp only
   rw [if_neg hv0]
   exact Q01 l (i+1) _ h'
theorem QaX:∀v∈llN,v≠0:=by decide
theorem QaY:∀v∈ofN,v≠0:=by decide
theorem QaZ:∀v∈mlN,v≠0:=by decide
theorem Q9w (p:Int):∀v∈Yg p,v≠0:=by
 intro v hv;unfold Yg at hv;split at hv
 . exact QaX v hv
 split at hv
 . exact QaY v hv
 exact QaZ v hv
theorem Q7U {p:Int} (h:0<=p/\p<=2):((Yg p).length:Int)=Ql p:=by
 (rcases ZW h with rfl|rfl|rfl<;>decide +kernel)
theorem Q9x {p:Int} (hp:0<=p/\p<=2):QD 0 p (Yo p) (Yg p)=(0,[]):=by
 unfold QD;rw [if_neg (by omega),if_pos (XN hp)];simp [QY]
theorem Q6s {p x lg:Int} {N C:List Int} {r2:Int} {r3:List Int} (h:((3:Int),r2,r3)∈Ji p x lg N C):r2=lg/\r3=N:=by
 unfold Ji at h;rcases List.mem_cons.1 h with h|h
 . simp only [Prod.mk.injEq,true_and]at h;exact h
 rcases List.mem_cons.1 h with h|h
 . simp at h
 split at h
 . rw [List.mem_singleton]at h
   simp only [Prod.mk.injEq]at h;have:=h.1;(split at this<;>omega)
 cases h
theorem Q4U {C:List Int} (hC:YP C) (hu:0<QR C) (h:QR C<=512):0<=JT C 9:=by
 unfold JT
 rw [if_neg (by
   (have e:(2:Int)^(9:Int).toNat=512:=by decide);rw [e];intro h1;rcases h1 with h1|h1|h1
   . exact h1 ⟨hC,hu⟩
   . omega
   omega)]
 (split<;>omega)
theorem Q4k {p lg:Int} {N C:List Int} (hp:0<=p/\p<=2) (hC:YP C) (hu:0<QR C) (h512:QR C<=512) (hs:∀(j:Nat) c,C[j]?=some c->c≠0->(j:Int)<Ql p):(QI p lg N C).2.2.2=0:=by
 have h1:(J4 (Yo p) (Yg p) C).2=0:=by
   unfold J4;rw [if_pos ⟨ZX (XN hp),Q4U hC hu h512⟩]
   obtain⟨r,hr⟩:=Q01 (lg:=Yo p) (N:=Yg p) C 0 0 (fun j c hj hc=>by
     have hl:=hs j c hj hc;have h2:=Q7U hp;(have hl2:0+j<(Yg p).length:=by omega)
     exact⟨_,List.getElem?_eq_getElem hl2,Q9w p _ (List.getElem_mem hl2)⟩)
   rw [hr]
 (have h2:(QD 0 p (Yo p) (Yg p)).1=0:=by rw [Q9x hp])
 have hm:((0,Yo p,Yg p),(J4 (Yo p) (Yg p) C).1+8*(QD 0 p (Yo p) (Yg p)).2.length)∈Zp p C (Ji p (Qo p) lg N C):=by
   unfold Zp;refine List.mem_filterMap.2 ⟨(0,Yo p,Yg p),by unfold Ji;simp,?_⟩;unfold Zg;rw [if_pos ⟨h2,h1⟩];rfl
 unfold QI;rw [if_neg (by omega)];split
 . next h=>rw [h]at hm;cases hm
 rfl
theorem Q6t {p lg:Int} {N C:List Int} (hp:0<=p/\p<=2) (h:(QI p lg N C).2.2.2=0) :
   (0<=(QI p lg N C).1/\(QI p lg N C).1<=3)/\Qg (QI p lg N C).2.1 (QI p lg N C).2.2.1 (Ql p) (Qo p)/\(QD (QI p lg N C).1 p (QI p lg N C).2.1 (QI p lg N C).2.2.1).1=0 /\
   ((QI p lg N C).1=3->lg=(QI p lg N C).2.1/\N=(QI p lg N C).2.2.1) /\
   ∀(j:Nat) c,C[j]?=some c->c≠0->j<(QI p lg N C).2.2.1.length/\1<=(plN (QI p lg N C).2.1.toNat (QI p lg N C).2.2.1 j).length:=by
 obtain⟨r1,r2,r3,r4,hr⟩:∃r1 r2 r3 r4,QI p lg N C=(r1,r2,r3,r4):=⟨_,_,_,_,rfl⟩;rw [hr]at h;simp only at h;subst h;obtain⟨h1,h2,h3,_⟩:=Q0H hp hr;rw [hr];simp only;obtain⟨a1,a2,_,_,hv,_⟩:=Q2i h1;refine⟨⟨a1,a2⟩,hv,h1,fun e=>?_,fun j c hj hc=>?_⟩
 . subst e
   obtain⟨e1,e2⟩:=Q6s h3;exact⟨e1.symm,e2.symm⟩
 unfold J4 at h2;split at h2
 . rcases hg:Ja r2 r3 0 C 0 with _|a
   . rw [hg]at h2;simp at h2
   obtain⟨v,hv1,hv0⟩:=Q25 C 0 0 a hg j c hj hc;rw [Nat.zero_add]at hv1;obtain⟨hl,hget⟩:=List.getElem?_eq_some_iff.1 hv1;refine⟨hl,?_⟩;have hw:=ZX hv;have h0:=hw.1;obtain⟨q,rfl⟩:∃q:Nat,r2=q:=⟨r2.toNat,by omega⟩;have:=Q2V hw hl;rw [Int.toNat_natCast];rw [hget]at this;(have ha:1<=Y0 v:=by unfold Y0;split<;>omega);omega
 simp at h2
theorem Q5p (B0 D:List Nat):YZ (B0++D) B0.length=D.take 1024:=by
 unfold YZ;rw [List.drop_left]
theorem QaD (B0:List Nat) (x:Nat) (l:List Nat):(B0++x::l)[B0.length]?=some x:=by
 rw [List.getElem?_append_right (Nat.le_refl _),Nat.sub_self];rfl
theorem VM {m p lg l0:Int} {N N0:List Int} (h:(QD m p lg N).1=0) (h3:m=3->l0=lg/\N0=N) (B0 bs:List Nat) :
   YG m p l0 N0 (B0++((QD m p lg N).2++bs)) B0.length=(0,lg,N,(QD m p lg N).2.length):=by
 obtain⟨a1,a2,a3,a4,hv,he⟩:=Q2i h;rw [he]at h ⊢;(have hd:∀l k,YG m p l0 N0 l k=Y1 m p l0 N0 l k:=fun l k=>by unfold YG;exact if_neg (by omega));rw [hd];clear hd he;(have:m=0\/m=1\/m=2\/m=3:=by omega);rcases this with rfl|rfl|rfl|rfl
 . by_cases hq:Yo p=lg/\Yg p=N
   . have e:QY 0 p lg N=(0,[]):=by simp [QY,hq]
     rw [e];simp [Y1,hq.1,hq.2]
   simp [QY,hq]at h
 . by_cases hq:lg=0/\N[N.length-1]?=some 1
   . have e:QY 1 p lg N=(0,[N.length-1]):=by simp [QY,hq]
     rw [e];have hs:=hv.2.2.2.2.2.2.2;rw [hq.1]at hs;have hone:=Q67 hv.2.2.2.1 hs hq.2;have h2:=hv.2.2.2.2.1;have h3:=hv.2.2.2.1
     have ho:Zo (B0++([N.length-1]++bs)) B0.length (Ql p)=(0,Ks (N.length-1),1):=by
       unfold Zo;rw [if_pos (by simp)]
       have:(B0++([N.length-1]++bs))[B0.length]?.getD 0=N.length-1:=by
         rw [List.singleton_append,QaD];rfl
       rw [this,if_neg (by omega)]
     show((Zo (B0++([N.length-1]++bs)) B0.length (Ql p)).1,(0:Int),(Zo (B0++([N.length-1]++bs)) B0.length (Ql p)).2.1,(Zo (B0++([N.length-1]++bs)) B0.length (Ql p)).2.2)=(0,lg,N,1);rw [ho,<-hone,hq.1]
   simp [QY,hq]at h
 . by_cases hq:lg≠0
   . have e:QY 2 p lg N=(0,QL (Qy lg.toNat N)):=by simp [QY,hq]
     rw [e];obtain⟨q,rfl⟩:∃q:Nat,lg=q:=⟨lg.toNat,by have:=hv.1;omega⟩;have hv2:=ZX hv;have hle:=Q08 hv2;rw [Int.toNat_natCast];have hb:=Q6N (sy:=Ql p) (lb:=Qo p) hv2 (by omega) hv.2.2.2.2.1 hv.2.1 (bs.take (1024-(QL (Qy q N)).length));show Ze (B0++(QL (Qy q N)++bs)) B0.length (Ql p) (Qo p)=_;unfold Ze;rw [Q5p,List.take_append,List.take_of_length_le (by omega),hb]
   simp [QY,hq]at h
 (have e:QY 3 p lg N=(0,[]):=by simp [QY]);rw [e];obtain⟨e1,e2⟩:=h3 rfl;subst e1 e2;simp [Y1,hv]
theorem VN {m p lg l0:Int} {N N0:List Int} (h:(QD m p lg N).1=0) (B0:List Nat) (k:Nat) (hk:k<(QD m p lg N).2.length) :
   (YG m p l0 N0 (B0++(QD m p lg N).2.take k) B0.length).1=3:=by
 obtain⟨a1,a2,a3,a4,hv,he⟩:=Q2i h;rw [he]at h hk ⊢;(have hd:∀l k,YG m p l0 N0 l k=Y1 m p l0 N0 l k:=fun l k=>by unfold YG;exact if_neg (by omega));rw [hd];clear hd he;(have:m=0\/m=1\/m=2\/m=3:=by omega);rcases this with rfl|rfl|rfl|rfl
 . by_cases hq:Yo p=lg/\Yg p=N<;>simp [QY,hq]at hk
 . by_cases hq:lg=0/\N[N.length-1]?=some 1
   . have e:QY 1 p lg N=(0,[N.length-1]):=by simp [QY,hq]
     rw [e]at hk ⊢;(have:k=0:=by simpa using hk);subst this;show(Zo (B0++[]) B0.length (Ql p)).1=3;unfold Zo;rw [if_neg (by simp)]
   simp [QY,hq]at hk
 . by_cases hq:lg≠0
   . have e:QY 2 p lg N=(0,QL (Qy lg.toNat N)):=by simp [QY,hq]
     rw [e]at hk ⊢;obtain⟨q,rfl⟩:∃q:Nat,lg=q:=⟨lg.toNat,by have:=hv.1;omega⟩;have hv2:=ZX hv;have hle:=Q08 hv2;rw [Int.toNat_natCast]at hk ⊢;have hc:=Q8a (sy:=Ql p) (lb:=Qo p) hv2 (by omega) hv.2.2.2.2.1 hv.2.1 k hk;have hk':k<(QL (Qy q N)).length:=hk;show(Ze (B0++(QL (Qy q N)).take k) B0.length (Ql p) (Qo p)).1=3;unfold Ze;rw [Q5p,List.take_take,Nat.min_eq_right (by omega),hc]
   simp [QY,hq]at hk
 simp [QY]at hk
def Qe.c (x:Qe) (i:Nat):Nat:=if i=0 then x.cL else if i=1 then x.cO else x.cM
def Yd (i:Nat) (l:List Qe):List Int:=(List.range 44).map fun c=>((l.countP fun x=>x.c i == c:Nat):Int)
@[simp] theorem Xp (i:Nat) (l:List Qe):(Yd i l).length=44:=by simp [Yd]
theorem Kt (i:Nat) (l:List Qe) (c:Nat) (h:c<44):(Yd i l)[c]?=some ((l.countP fun x=>x.c i == c:Nat):Int):=by
 unfold Yd;rw [List.getElem?_map,List.getElem?_range h];rfl
theorem Q9y (i:Nat):Yd i []=List.replicate 44 0:=by
 unfold Yd;simp [List.map_const']
theorem Q0I (i:Nat) (l:List Qe) (x:Qe) (h:x.c i<44):Yd i (l++[x])=(Yd i l).set (x.c i) (((l.countP fun y=>y.c i == x.c i:Nat):Int)+1):=by
 apply List.ext_getElem?;intro c;rw [List.getElem?_set];by_cases hc:c<44
 . rw [Kt i _ c hc,List.countP_append]
   by_cases hx:x.c i=c
   . subst hx
     rw [if_pos rfl,if_pos (by simpa using h)];simp
   rw [if_neg hx,Kt i l c hc];simp [hx]
 rw [List.getElem?_eq_none (by simp;omega),if_neg (by omega),List.getElem?_eq_none (by simp;omega)]
theorem Q0T {x:Qe} (h:x.ok) (i:Nat):x.c i<44/\(i=1->x.c i<28):=by
 obtain⟨h1,h2,h3,_⟩:=QS h;unfold Qe.c;refine⟨by split;omega;split<;>omega,fun e=>by subst e;simpa using h3⟩
theorem Q1a {M:Int}:∀(l:List Int),(∀x∈l,x<=M)->l.sum<=l.length*M
 | [],_=>by simp
 | x::l,h=>by
   have h1:=Q1a l fun y hy=>h y (List.mem_cons_of_mem _ hy)
   have h2:=h x (by simp)
   rw [List.sum_cons,List.length_cons]
   have h3:(((l.length+1:Nat):Int))*M=(l.length:Int)*M+M:=by
     rw [Int.natCast_add,Int.add_mul];simp
   omega
theorem X3 {i:Nat} {l:List Qe} (hl:l.length<=65536):∀x∈Yd i l,0<=x/\x<=65536:=by
 intro x hx;unfold Yd at hx;obtain⟨c,_,rfl⟩:=List.mem_map.1 hx;have:=List.countP_le_length (p:=fun x:Qe=>x.c i == c) (l:=l);omega
theorem Qb0 {i:Nat} {l:List Qe} (hl:l.length<=65536):YP (Yd i l):=by
 refine⟨fun c hc=>(X3 hl c hc).1,?_⟩;have:=Q1a (Yd i l) fun x hx=>(X3 hl x hx).2;rw [Xp]at this;omega
theorem Q2q {i:Nat} {l:List Qe} (hl:l.length<=65536):Fit (Yd i l):=fun y hy=>by
 have:=X3 hl y hy
 omega
theorem Q5q {i:Nat} {l:List Qe} {x:Qe} (hx:x∈l) (h:x.c i<44):∃c,(Yd i l)[x.c i]?=some c/\c≠0:=by
 refine⟨_,Kt i l _ h,?_⟩;have:0<l.countP fun y=>y.c i == x.c i:=List.countP_pos_iff.2 ⟨x,hx,by simp⟩;omega
theorem Q9z {i:Nat} {l:List Qe} (hl:l.length<=65536) (hne:l≠[]) (hok:∀x∈l,x.ok):0<QR (Yd i l)/\QR (Yd i l)<=512:=by
 constructor
 . obtain⟨x,l',rfl⟩:=List.exists_cons_of_ne_nil hne
   obtain⟨c,h1,h2⟩:=Q5q (i:=i) (l:=x::l') (x:=x) (by simp) (Q0T (hok x (by simp)) i).1;have hm:=List.mem_of_getElem? h1;have h3:=(X3 hl c hm).1;exact List.countP_pos_iff.2 ⟨c,hm,by simp;omega⟩
 have:=List.countP_le_length (p:=fun c:Int=>decide (0<c)) (l:=Yd i l);rw [Xp]at this;unfold QR;omega
theorem Q9A {i:Nat} {l:List Qe} (hi:i<=2) (hok:∀x∈l,x.ok):∀(j:Nat) c,(Yd i l)[j]?=some c->c≠0->(j:Int)<Ql i:=by
 intro j c hj hc;have hl:=(List.getElem?_eq_some_iff.1 hj).1;rw [Xp]at hl;rw [Kt i l j hl]at hj;injection hj with hj;(have hpos:0<l.countP fun y=>y.c i == j:=by omega);obtain⟨x,hx,he⟩:=List.countP_pos_iff.1 hpos;(have he:x.c i=j:=by simpa using he);obtain⟨h1,h2⟩:=Q0T (hok x hx) i;unfold Ql;split
 . next h=>have:=h2 (by omega);omega
 omega
theorem Q0J (D A B C:Option Addr) (h i n c m d k e:Nat) (T:Qa) (r0 r1 r2:Int) (w:World) :
   Calls Tryz.prog 15 #[.agg #[.slice D h i,.int .i64 T.lL,.slice A n c,.int .i64 T.lO,.slice B m d,.int .i64 T.lM,.slice C k e,.int .i64 r0,.int .i64 r1,.int .i64 r2]] w fun e' w'=>e' = .returned (.bool (decide (h<=300/\n<=300/\m<=300/\k<=300)))/\Q0 w w':=by
 (have h5:(h<=300/\n<=300/\m<=300/\k<=300)\/¬h<=300\/(h<=300/\¬n<=300)\/(h<=300/\n<=300/\¬m<=300)\/(h<=300/\n<=300/\m<=300/\¬k<=300):=by omega);have HD:∀x,decide (h<=300/\n<=300/\m<=300/\k<=300)=x->∀w',Q0 w w'->(Ending.returned (.bool x)=Ending.returned (.bool (decide (h<=300/\n<=300/\m<=300/\k<=300)))/\Q0 w w'):=fun x hx w' h=>⟨by rw [hx],h⟩;have HD:=hd_ HD;refine Q7 fun R hR=>?_;rcases h5 with g|g|⟨g1,g⟩|⟨g1,g2,g⟩|⟨g1,g2,g3,g⟩
 . have hd:=HD.out true (decide_eq_true g)
   have HD2:=hd_ hd;obtain⟨g1,g2,g3,g4⟩:=g;(have i1:(h:Int)<=300:=by omega);(have i2:(n:Int)<=300:=by omega);(have i3:(m:Int)<=300:=by omega);(have i4:(k:Int)<=300:=by omega);have j4:decide ((k:Int)<=300)=true:=decide_eq_true i4;clear hd HD g1 g2 g3 g4;go_enter Tryz.func15,Tryz.ntmps15;go_wp2_with fail;(try go_ret);(try simp only [j4]);exact hR.out _ _ (HD2.out _ ((Upd.refl _ _).alloc _))
 . have hd:=HD.out false (decide_eq_false (by omega))
   have HD2:=hd_ hd;(have i1:¬(h:Int)<=300:=by omega);have j4:decide ((h:Int)<=300)=false:=decide_eq_false i1;clear hd HD g;go_enter Tryz.func15,Tryz.ntmps15;go_wp2_with fail;(try go_ret);(try simp only [j4]);exact hR.out _ _ (HD2.out _ ((Upd.refl _ _).alloc _))
 . have hd:=HD.out false (decide_eq_false (by omega))
   have HD2:=hd_ hd;(have i1:(h:Int)<=300:=by omega);(have i2:¬(n:Int)<=300:=by omega);have j4:decide ((n:Int)<=300)=false:=decide_eq_false i2;clear hd HD g g1;go_enter Tryz.func15,Tryz.ntmps15;go_wp2_with fail;(try go_ret);(try simp only [j4]);exact hR.out _ _ (HD2.out _ ((Upd.refl _ _).alloc _))
 . have hd:=HD.out false (decide_eq_false (by omega))
   have HD2:=hd_ hd;(have i1:(h:Int)<=300:=by omega);(have i2:(n:Int)<=300:=by omega);(have i3:¬(m:Int)<=300:=by omega);have j4:decide ((m:Int)<=300)=false:=decide_eq_false i3;clear hd HD g g1 g2;go_enter Tryz.func15,Tryz.ntmps15;go_wp2_with fail;(try go_ret);(try simp only [j4]);exact hR.out _ _ (HD2.out _ ((Upd.refl _ _).alloc _))
 have hd:=HD.out false (decide_eq_false (by omega));have HD2:=hd_ hd;(have i1:(h:Int)<=300:=by omega);(have i2:(n:Int)<=300:=by omega);(have i3:(m:Int)<=300:=by omega);(have i4:¬(k:Int)<=300:=by omega);have j4:decide ((k:Int)<=300)=false:=decide_eq_false i4;clear hd HD g g1 g2 g3;go_enter Tryz.func15,Tryz.ntmps15;go_wp2_with fail;(try go_ret);(try simp only [j4]);exact hR.out _ _ (HD2.out _ ((Upd.refl _ _).alloc _))
theorem Qb1 (a b c x y z:Int) (w:World):(Op.equalIn 10000 30 (.agg #[.int .i64 a,.int .i64 b,.int .i64 c]) (.agg #[.int .i64 x,.int .i64 y,.int .i64 z])).run Tryz.prog w = .ok (a == x&&b == y&&c == z) w:=by
 have u3:=Tryz.underlying3;have a3:=Tryz.isAgg3;have z3:=Tryz.sizeOf3;rw [show(10000:Nat)=9999+1 from rfl,Op.equalIn];simp only [Sem.run_bind,run_underlying Tryz.underlying30,Result.andThen_ok];simp only [Std.Legacy.Range.forIn_eq_forIn_range',Std.Legacy.Range.size,Nat.sub_zero,Nat.add_sub_cancel,Nat.div_one,List.range'_succ,List.range'_zero,List.forIn_cons,List.forIn_nil];go_simp;(by_cases h1:a=x<;>by_cases h2:b=y<;>by_cases h3:c=z<;>simp [h1,h2,h3])
theorem Q4V (F G:Nat->Prop) (D A B C D1 A1 B1 C1:Option Addr) (h i n c m d k e i1 c1 d1 e1:Nat) (T:Qa) (Tr:List Int) (r0 r1 r2:Int) (w:World)
   (p0:Rd w F D h (Q2 Tr)) (p1:Rd w F A n (Q2 T.NL)) (p2:Rd w F B m (Q2 T.NO)) (p3:Rd w F C k (Q2 T.NM)) (q0:Rd w G D1 h (Q2 Tr)) (q1:Rd w G A1 n (Q2 T.NL)) (q2:Rd w G B1 m (Q2 T.NO)) (q3:Rd w G C1 k (Q2 T.NM)) (bh:h<=1000) (bn:n<=1000) (bm:m<=1000) (bk:k<=1000) :
   Calls Tryz.prog 21 #[.agg #[.slice D h i,.int .i64 T.lL,.slice A n c,.int .i64 T.lO,.slice B m d,.int .i64 T.lM,.slice C k e,.int .i64 r0,.int .i64 r1,.int .i64 r2],.agg #[.slice D1 h i1,.int .i64 T.lL,.slice A1 n c1,.int .i64 T.lO,.slice B1 m d1,.int .i64 T.lM,.slice C1 k e1,.int .i64 r0,.int .i64 r1,.int .i64 r2]] w fun e' w'=>e' = .returned (.bool true)/\Q0 w w':=by
 obtain⟨w0,hw0⟩:=nm_ ((w.alloc (.cells #[.slice D h i,.int .i64 T.lL,.slice A n c,.int .i64 T.lO,.slice B m d,.int .i64 T.lM,.slice C k e,.int .i64 r0,.int .i64 r1,.int .i64 r2] 32)).alloc (.cells #[.slice D1 h i1,.int .i64 T.lL,.slice A1 n c1,.int .i64 T.lO,.slice B1 m d1,.int .i64 T.lM,.slice C1 k e1,.int .i64 r0,.int .i64 r1,.int .i64 r2] 32));obtain⟨H,hH⟩:=nm_ (w.heap.size);(have f0:Q0 w w0:=by rw [hw0];exact((Upd.refl _ _).alloc _).alloc _);(have bc:Blk w0 H 32 #[.slice D h i,.int .i64 T.lL,.slice A n c,.int .i64 T.lO,.slice B m d,.int .i64 T.lM,.slice C k e,.int .i64 r0,.int .i64 r1,.int .i64 r2]:=by rw [hw0];exact(Q1 hH _ _).alloc _);(have bo:Blk w0 (H+1) 32 #[.slice D1 h i1,.int .i64 T.lL,.slice A1 n c1,.int .i64 T.lO,.slice B1 m d1,.int .i64 T.lM,.slice C1 k e1,.int .i64 r0,.int .i64 r1,.int .i64 r2]:=by rw [hw0];exact Q1 (by simp [hH]) _ _);have HS1:=hd_ (fun W (f:Q0 w0 W)=>Q02 F G A A1 n n c c1 T.lL T.lL T.NL T.NL W ((p1.fresh f0).fresh f) ((q1.fresh f0).fresh f) bn bn);have HS2:=hd_ (fun W (f:Q0 w0 W)=>Q02 F G B B1 m m d d1 T.lO T.lO T.NO T.NO W ((p2.fresh f0).fresh f) ((q2.fresh f0).fresh f) bm bm);have HS3:=hd_ (fun W (f:Q0 w0 W)=>Q02 F G C C1 k k e e1 T.lM T.lM T.NM T.NM W ((p3.fresh f0).fresh f) ((q3.fresh f0).fresh f) bk bk);have HP:=hd_ (fun W (f:Q0 w0 W)=>And.intro ((p0.fresh f0).fresh f) ((q0.fresh f0).fresh f));have HBH:=hd_ bh
 have HCL:=hd_ (show ∀W,Q0 w0 W->W.cell? ⟨H,0,none⟩=some (.slice D h i)/\W.cell? ⟨H,1,none⟩=some (.int .i64 T.lL)/\W.cell? ⟨H,2,none⟩=some (.slice A n c)/\W.cell? ⟨H,3,none⟩=some (.int .i64 T.lO)/\W.cell? ⟨H,4,none⟩=some (.slice B m d)/\W.cell? ⟨H,5,none⟩=some (.int .i64 T.lM)/\W.cell? ⟨H,6,none⟩=some (.slice C k e)/\W.cell? ⟨H,7,none⟩=some (.int .i64 r0)/\W.cell? ⟨H,8,none⟩=some (.int .i64 r1)/\W.cell? ⟨H,9,none⟩=some (.int .i64 r2)/\W.cell? ⟨H+1,0,none⟩=some (.slice D1 h i1)/\W.cell? ⟨H+1,1,none⟩=some (.int .i64 T.lL)/\W.cell? ⟨H+1,2,none⟩=some (.slice A1 n c1)/\W.cell? ⟨H+1,3,none⟩=some (.int .i64 T.lO)/\W.cell? ⟨H+1,4,none⟩=some (.slice B1 m d1)/\W.cell? ⟨H+1,5,none⟩=some (.int .i64 T.lM)/\W.cell? ⟨H+1,6,none⟩=some (.slice C1 k e1)/\W.cell? ⟨H+1,7,none⟩=some (.int .i64 r0)/\W.cell? ⟨H+1,8,none⟩=some (.int .i64 r1)/\W.cell? ⟨H+1,9,none⟩=some (.int .i64 r2)from fun W f=>by
   have b0:=bc.fresh f;have b1:=bo.fresh f
   exact⟨by simpa using b0.cell 0,by simpa using b0.cell 1,by simpa using b0.cell 2,by simpa using b0.cell 3,by simpa using b0.cell 4,by simpa using b0.cell 5,by simpa using b0.cell 6,by simpa using b0.cell 7,by simpa using b0.cell 8,by simpa using b0.cell 9,by simpa using b1.cell 0,by simpa using b1.cell 1,by simpa using b1.cell 2,by simpa using b1.cell 3,by simpa using b1.cell 4,by simpa using b1.cell 5,by simpa using b1.cell 6,by simpa using b1.cell 7,by simpa using b1.cell 8,by simpa using b1.cell 9⟩)
 have HW:=hd_ hw0;have HH:=hd_ hH;have F0:=hd_ f0;(have hne:((h:Int) != h)=false:=by simp);(have heq:∀W,(Op.equalIn 10000 30 (.agg #[.int .i64 r0,.int .i64 r1,.int .i64 r2]) (.agg #[.int .i64 r0,.int .i64 r1,.int .i64 r2])).run Tryz.prog W = .ok true W:=fun W=>by rw [Qb1];simp);(have hL:(T.lL=T.lL/\T.NL=T.NL)=True:=by simp);(have hO:(T.lO=T.lO/\T.NO=T.NO)=True:=by simp);(have hM:(T.lM=T.lM/\T.NM=T.NM)=True:=by simp);simp only [hL,decide_true]at HS1;simp only [hO,decide_true]at HS2;simp only [hM,decide_true]at HS3;clear p0 p1 p2 p3 q0 q1 q2 q3 bh bn bm bk hw0 hH f0 bc bo hL hO hM;refine Q7 fun R hR=>?_;go_enter Tryz.func21,Tryz.ntmps21;go_upto_region 1 with fail;simp only [<-HH.out,<-HW.out];obtain⟨u0,u1,u2,u3,u4,u5,u6,u7,u8,u9,u10,u11,u12,u13,u14,u15,u16,u17,u18,u19⟩:=HCL.out w0 (Upd.refl _ _);go_wp2_with fail;go_loopg [5] h (fun f vi wr=>∃j:Nat,j+f=h/\vi = .int .i64 j/\Q0 w0 wr)
 case atStart=>exact⟨0,by omega,rfl,Upd.refl _ _⟩
 case round =>
   obtain⟨j,hj,rfl,hu⟩:=hrel;obtain⟨t0,t1,t2,t3,t4,t5,t6,t7,t8,t9,t10,t11,t12,t13,t14,t15,t16,t17,t18,t19⟩:=HCL.out wr hu;have HU:=hd_ hu;have HJ:=hd_ hj;by_cases hjn:j<h
   . have hjI:(j:Int)<h:=by omega
     obtain⟨rp,rq⟩:=HP.out wr hu;obtain⟨b,o,hk1,rfl,hb,hc⟩:=rp.int (k:=j) hjn;obtain⟨b2,o2,hk2,rfl,hb2,hc2⟩:=rq.int (k:=j) hjn;obtain⟨x,hx⟩:=nm_ (Tr[j]);rw [<-hx]at hc hc2;have hw4:IntKind.i64.wrap ((j:Int)+1)=j+1:=IntWalk.i64_in _ (by have:=HBH.out;omega);(have hxx:(x != x)=false:=by simp);clear hx rp rq hj hu;go_wp2_with fail;go_quiet (fail);go_wp2_with fail;go_roundg (gk-1)
     case measure=>have:=HJ.out;omega
     case rel=>exact⟨j+1,by have:=HJ.out;omega,by go_num,HU.out.drewN _⟩
   (have hjI:¬(j:Int)<h:=by omega);clear hj hu;go_wp2_with fail;refine(HS1.out _ HU.out).mono ?_;rintro e2 w2 ⟨rfl,f2⟩;have F2:=hd_ (HU.out.trans' f2);obtain⟨v0,v1,v2,v3,v4,v5,v6,v7,v8,v9,v10,v11,v12,v13,v14,v15,v16,v17,v18,v19⟩:=HCL.out w2 F2.out;clear f2;go_wp2_with fail;refine(HS2.out _ F2.out).mono ?_;rintro e3 w3 ⟨rfl,f3⟩;have F3:=hd_ (F2.out.trans' f3);obtain⟨z0,z1,z2,z3,z4,z5,z6,z7,z8,z9,z10,z11,z12,z13,z14,z15,z16,z17,z18,z19⟩:=HCL.out w3 F3.out;clear f3;go_wp2_with fail;refine(HS3.out _ F3.out).mono ?_;rintro e4 w4 ⟨rfl,f4⟩;have F4:=hd_ (F3.out.trans' f4);obtain⟨x0,x1,x2,x3,x4,x5,x6,x7,x8,x9,x10,x11,x12,x13,x14,x15,x16,x17,x18,x19⟩:=HCL.out w4 F4.out;clear f4;go_wp2_with fail;(try go_ret);exact hR.out _ _ ⟨rfl,F0.out.trans' F4.out⟩
theorem Q26 {p:Nat} {N:List Int} (hv:Qg p N 44 9) {st:Nat} (hs:st<2^p) (V:Nat) (s:Nat × Int):(YU V false p N st s).1<2^18:=by
 have hw:Qg p N 256 9:=by
   obtain⟨a1,a2,a3,a4,a5,a6⟩:=hv;exact⟨a1,a2,a3,a4,by omega,a6⟩
 obtain⟨_,h2,_⟩:=Kx hw hs;have hN:(N.length:Int)<=44:=hv.2.2.2.2.1;have ht:=JH V s (exB false (QW p N st));unfold YU;simp only;generalize (QN V s (exB false (QW p N st))).1=r at *;simp only [exB,loB,Bool.false_eq_true,if_false]at ht ⊢;(have hc:QW p N st<=43:=by omega);generalize QW p N st=q at *;unfold Yc YK at *;split
 . next h=>rw [if_pos h]at ht;simp at ht;omega
 next h =>
 rw [if_neg h]at ht;have h1:2^(q / 2-5)<=2^16:=Nat.pow_le_pow_right (by decide) (by omega);have h3:(2+q%2)*2^(q / 2-5)<=3*2^(q / 2-5):=Nat.mul_le_mul_right _ (by omega);omega
theorem Q5r {V:Nat} {T:QK} {S:Sts} (hT:T.ok) (hS:S.ok T) (s:Nat × Int):(JQ V T S s).1.ok:=by
 have h1:=KX (o:=true) (p:=T.pO) (N:=T.NO) (by have:=hT.2.1;exact⟨this.1,by have:=this.2.1;omega,this.2.2.1,this.2.2.2.1,by simpa using this.2.2.2.2.1,this.2.2.2.2.2⟩) hS.2.1 V s;have h2:=Q26 hT.2.2 hS.2.2 V (YU V true T.pO T.NO S.o s).2;have h3:=Q26 hT.1 hS.1 V (YU V false T.pM T.NM S.m (YU V true T.pO T.NO S.o s).2).2;have h4:=h1.2 rfl;unfold JQ Qe.ok;simp only;omega
theorem Q36 {V:Nat} {T:QK} (hT:T.ok):∀(k:Nat) (S:Sts) (s:Nat × Int),S.ok T->∀x∈(YE V T k S s).1,x.ok
 | 0,S,s,_,x,hx=>by simp [YE]at hx
 | k+1,S,s,hS,x,hx=>by
   by_cases h:s.2=0
   . by_cases hk:k=0
     . subst hk
       rw [KO V T S s h]at hx
       simp at hx
       subst hx
       exact Q5r hT hS s
     rw [KP V T k S s h (by omega)]at hx
     rcases List.mem_cons.1 hx with rfl|hx
     . exact Q5r hT hS s
     exact Q36 hT k _ _ (Q45 hT hS V _) x hx
   rw [Zr V T _ S s (.inr h)]at hx
   simp at hx
theorem Q9B {V:Nat} {T:QK} (hT:T.ok) (n t:Nat):∀x∈(JK V T n t).1,x.ok :=
 Q36 hT n _ _ (Q0z V T (t,0))
theorem Q7V {a b c lit v:Int} (hr:Qw a b c=true) (ho:Z7 (Yr a b c lit v)):Qw (Qx a b c lit v).1 (Qx a b c lit v).2.1 (Qx a b c lit v).2.2=true:=by
 obtain⟨⟨a1,a2⟩,⟨b1,b2⟩,c1,c2⟩:=JM.1 hr;refine JM.2 ?_;unfold Qx;simp only;(refine⟨ho,?_,?_⟩<;>split<;>omega)
theorem Q27:∀(l:List Qe) (a b c:Int),Qw a b c=true->(∀x∈l,x.ok)->(Y3 a b c l).1=0->(∀s∈(Y3 a b c l).2.1,okS s)/\Qw (Y3 a b c l).2.2.1 (Y3 a b c l).2.2.2.1 (Y3 a b c l).2.2.2.2=true
 | [],a,b,c,hr,_,_=>⟨fun s h=>by simp [Y3]at h,hr⟩
 | x::l,a,b,c,hr,hx,h=>by
   by_cases ho:Z7 (Yr a b c x.lit x.val)
   . have e:Y3 a b c (x::l)=if(Y3 (Qx a b c x.lit x.val).1 (Qx a b c x.lit x.val).2.1 (Qx a b c x.lit x.val).2.2 l).1=0 then(0,((x.lit:Int),(x.len:Int),Yr a b c x.lit x.val)::(Y3 (Qx a b c x.lit x.val).1 (Qx a b c x.lit x.val).2.1 (Qx a b c x.lit x.val).2.2 l).2.1,(Y3 (Qx a b c x.lit x.val).1 (Qx a b c x.lit x.val).2.1 (Qx a b c x.lit x.val).2.2 l).2.2)else((Y3 (Qx a b c x.lit x.val).1 (Qx a b c x.lit x.val).2.1 (Qx a b c x.lit x.val).2.2 l).1,[],0,0,0):=by
       simp only [Y3];rw [if_pos ho]
     rw [e]at h ⊢;have ih:=Q27 l _ _ _ (Q7V hr ho) (fun y hy=>hx y (List.mem_cons_of_mem _ hy));generalize Y3 (Qx a b c x.lit x.val).1 (Qx a b c x.lit x.val).2.1 (Qx a b c x.lit x.val).2.2 l=R at *;by_cases h0:R.1=0
     . rw [if_pos h0]at h ⊢
       obtain⟨i1,i2⟩:=ih h0;refine⟨fun s hs=>?_,i2⟩;rcases List.mem_cons.1 hs with rfl|hs
       . have h5:=hx x (by simp)
         unfold Qe.ok at h5;unfold okS;unfold Z7 at ho;simp only;omega
       exact i1 s hs
     rw [if_neg h0]at h;exact absurd h h0
   (have e:Y3 a b c (x::l)=(15,[],0,0,0):=by simp only [Y3];rw [if_neg ho]);rw [e]at h;simp at h
theorem Q7W {bs:List Nat} {T:QK} {n:Nat} {a b c:Int} (hT:T.ok) (hr:Qw a b c=true) (h:(Ys bs T n a b c).1=0):(∀s∈(Ys bs T n a b c).2.1,okS s)/\Qw (Ys bs T n a b c).2.2.1 (Ys bs T n a b c).2.2.2.1 (Ys bs T n a b c).2.2.2.2=true:=by
 by_cases h1:(bs.getLast?).getD 0=0
 . have e:Ys bs T n a b c=(14,[],0,0,0):=by unfold Ys;rw [if_pos h1]
   rw [e]at h;simp at h
 by_cases h2:(JK (QA bs) T n (Ym bs)).2.2=0
 . have e:Ys bs T n a b c=Y3 a b c (JK (QA bs) T n (Ym bs)).1:=by unfold Ys;rw [if_neg h1,if_neg (by simp [h2])]
   rw [e]at h ⊢;exact Q27 _ a b c hr (Q9B hT n _) h
 (have e:Ys bs T n a b c=((JK (QA bs) T n (Ym bs)).2.2,[],0,0,0):=by unfold Ys;rw [if_neg h1,if_pos h2]);rw [e]at h;exact absurd h h2
theorem Q0K {lg sy lb:Int} {N:List Int} (h:Qg lg N sy lb):(N.length:Int)<=sy:=h.2.2.2.2.1
theorem Q7X {bs:List Nat} {at_:Nat} {T:Qa} {a b c:Int} (hb:∀b∈bs,b<256) (h:(QB bs at_ T a b c).err=0) :
   (∀s∈(QB bs at_ T a b c).seqs,okS s)/\Qw (QB bs at_ T a b c).a (QB bs at_ T a b c).b (QB bs at_ T a b c).c=true/\((QB bs at_ T a b c).tabs=T\/(QB bs at_ T a b c).tabs.ok):=by
 by_cases hr:Qw a b c=true
 . by_cases h1:(Qn (bs.drop at_)).2.2=0
   . by_cases h2:65536<(Qn (bs.drop at_)).1
     . rw [show QB bs at_ T a b c = .no 15 from by unfold QB;rw [if_neg (by rw [hr];simp)];simp only;rw [if_neg (by simp [h1]),if_pos h2]]at h
       simp [KM.no]at h
     by_cases h3:(Qn (bs.drop at_)).1=0
     . rw [show QB bs at_ T a b c=⟨0,[],T,a,b,c,at_+(Qn (bs.drop at_)).2.1⟩from by unfold QB;rw [if_neg (by rw [hr];simp)];simp only;rw [if_neg (by simp [h1]),if_neg (by omega),if_pos h3]]
       exact⟨fun s hs=>by simp at hs,hr,.inl rfl⟩
     by_cases h4:(QE bs (at_+(Qn (bs.drop at_)).2.1) T).1=0
     . obtain⟨k1,k2⟩:=Q4b hb h4
       have kt:=k1.trks.1;generalize hH:QE bs (at_+(Qn (bs.drop at_)).2.1) T=Hd at *;by_cases h5:(Ys (bs.drop Hd.2.2) Hd.2.1.trks (Qn (bs.drop at_)).1 a b c).1=0
       . have e:QB bs at_ T a b c=⟨0,(Ys (bs.drop Hd.2.2) Hd.2.1.trks (Qn (bs.drop at_)).1 a b c).2.1,Hd.2.1,(Ys (bs.drop Hd.2.2) Hd.2.1.trks (Qn (bs.drop at_)).1 a b c).2.2.1,(Ys (bs.drop Hd.2.2) Hd.2.1.trks (Qn (bs.drop at_)).1 a b c).2.2.2.1,(Ys (bs.drop Hd.2.2) Hd.2.1.trks (Qn (bs.drop at_)).1 a b c).2.2.2.2,bs.length⟩:=by
           unfold QB;rw [if_neg (by rw [hr];simp)];simp only;rw [if_neg (by simp [h1]),if_neg h2,if_neg h3,hH,if_neg (by simp [h4]),if_neg (by simp [h5])]
         rw [e];obtain⟨g1,g2⟩:=Q7W kt hr h5;exact⟨g1,g2,.inr k1⟩
       exfalso
       have e:(QB bs at_ T a b c).err=(Ys (bs.drop Hd.2.2) Hd.2.1.trks (Qn (bs.drop at_)).1 a b c).1:=by
         unfold QB;rw [if_neg (by rw [hr];simp)];simp only;rw [if_neg (by simp [h1]),if_neg h2,if_neg h3,hH,if_neg (by simp [h4]),if_pos h5];rfl
       rw [e]at h;exact h5 h
     exfalso
     have e:(QB bs at_ T a b c).err=(QE bs (at_+(Qn (bs.drop at_)).2.1) T).1:=by
       unfold QB;rw [if_neg (by rw [hr];simp)];simp only;rw [if_neg (by simp [h1]),if_neg h2,if_neg h3,if_pos h4];rfl
     rw [e]at h;exact h4 h
   exfalso
   have e:(QB bs at_ T a b c).err=(Qn (bs.drop at_)).2.2:=by
     unfold QB;rw [if_neg (by rw [hr];simp)];simp only;rw [if_pos h1];rfl
   rw [e]at h;exact h1 h
 exfalso;(have e:(QB bs at_ T a b c).err=2:=by unfold QB;rw [if_pos (by simpa using hr)];rfl);rw [e]at h;simp at h
theorem Q7Y {bs:List Nat} {at_:Nat} {T:Qa} {a b c:Int} (h:(QB bs at_ T a b c).err=0):Qw a b c=true:=by
 cases hr:Qw a b c with
 | true=>rfl
 | false =>
   exfalso;(have e:(QB bs at_ T a b c).err=2:=by unfold QB;rw [if_pos hr];rfl);rw [e]at h;simp at h
theorem Qa.ok.fits {T:Qa} (h:T.ok):Fit T.NL/\Fit T.NO/\Fit T.NM/\T.NL.length<=44/\T.NO.length<=44/\T.NM.length<=44:=by
 have e1:=Q0K h.1;have e2:=Q0K h.2.1;have e3:=Q0K h.2.2;exact⟨Jt h.1,Jt h.2.1,Jt h.2.2,by omega,by omega,by omega⟩
theorem Q6u (a b c:Int) (w:World):Calls Tryz.prog 25 #[.agg #[.int .i64 a,.int .i64 b,.int .i64 c]] w fun e w'=>e = .returned (.bool (Qw a b c))/\Q0 w w':=by
 obtain⟨w0,hw0⟩:=nm_ (w.alloc (.cells #[.int .i64 a,.int .i64 b,.int .i64 c] 30));obtain⟨H,hH⟩:=nm_ (w.heap.size);(have f0:Q0 w w0:=by rw [hw0];exact(Upd.refl _ _).alloc _);(have bb:Blk w0 H 30 #[.int .i64 a,.int .i64 b,.int .i64 c]:=by rw [hw0];exact Q1 hH _ _);have HCL:=hd_ (show ∀k,(w0.drewN k).cell? ⟨H,0,none⟩=some (.int .i64 a)/\(w0.drewN k).cell? ⟨H,1,none⟩=some (.int .i64 b)/\(w0.drewN k).cell? ⟨H,2,none⟩=some (.int .i64 c)from fun k=>⟨by simpa using(bb.drewN k).cell 0,by simpa using(bb.drewN k).cell 1,by simpa using(bb.drewN k).cell 2⟩);have HW:=hd_ hw0;have HH:=hd_ hH;have F0:=hd_ f0;have HY:=hd_ (show(1<=a/\a<=134217728)->(1<=b/\b<=134217728)->(1<=c/\c<=134217728)->Qw a b c=true from fun h1 h2 h3=>JM.2 ⟨h1,h2,h3⟩)
 have HN:=hd_ (show(¬(1<=a/\a<=134217728)\/¬(1<=b/\b<=134217728)\/¬(1<=c/\c<=134217728))->Qw a b c=false from fun h=>by
   cases hr:Qw a b c with
   | false=>rfl
   | true=>have:=JM.1 hr;omega)
 clear hw0 hH f0 bb;refine Q7 fun R hR=>?_;go_enter Tryz.func25,Tryz.ntmps25;go_upto_region 1 with fail;simp only [<-HH.out,<-HW.out];obtain⟨c0,c1,c2⟩:=HCL.out 0;have e0:w0.drewN 0=w0:=rfl;rw [e0]at c0 c1 c2;clear e0;go_wp2_with fail;go_loopg [3] 3 (fun f vi wr=>∃j:Nat,j+f=3/\vi = .int .i64 j/\(0<j->1<=a/\a<=134217728)/\(1<j->1<=b/\b<=134217728)/\(2<j->1<=c/\c<=134217728)/\wr=w0)
 case atStart=>exact⟨0,by omega,rfl,by omega,by omega,by omega,rfl⟩
 case round =>
   obtain⟨j,hj,rfl,ha,hb,hc,rfl⟩:=hrel;(have hj4:j=0\/j=1\/j=2\/j=3:=by omega);have HJ:=hd_ hj;have HA:=hd_ ha;have HB:=hd_ hb;have HC:=hd_ hc;clear ha hb hc hj;rcases hj4 with rfl|rfl|rfl|rfl
   . by_cases h:a<1
     . go_wp2_with fail
       (try go_ret);refine hR.out _ _ ⟨?_,F0.out⟩;rw [HN.out (by omega)];(try rfl)
     by_cases h2:134217728<a
     . go_wp2_with fail
       (try go_ret);refine hR.out _ _ ⟨?_,F0.out⟩;rw [HN.out (by omega)];(try rfl)
     (have hw4:IntKind.i64.wrap (((0:Nat):Int)+1)=1:=by decide);go_wp2_with fail;go_roundg (gk-1)
     case measure=>have:=HJ.out;omega
     case rel=>exact⟨1,by have:=HJ.out;omega,rfl,fun _=>by omega,by omega,by omega,rfl⟩
   . by_cases h:b<1
     . go_wp2_with fail
       (try go_ret);refine hR.out _ _ ⟨?_,F0.out⟩;rw [HN.out (by omega)];(try rfl)
     by_cases h2:134217728<b
     . go_wp2_with fail
       (try go_ret);refine hR.out _ _ ⟨?_,F0.out⟩;rw [HN.out (by omega)];(try rfl)
     (have hw4:IntKind.i64.wrap (((1:Nat):Int)+1)=2:=by decide);go_wp2_with fail;go_roundg (gk-1)
     case measure=>have:=HJ.out;omega
     case rel=>exact⟨2,by have:=HJ.out;omega,rfl,fun _=>HA.out (by omega),fun _=>by omega,by omega,rfl⟩
   . by_cases h:c<1
     . go_wp2_with fail
       (try go_ret);refine hR.out _ _ ⟨?_,F0.out⟩;rw [HN.out (by omega)];(try rfl)
     by_cases h2:134217728<c
     . go_wp2_with fail
       (try go_ret);refine hR.out _ _ ⟨?_,F0.out⟩;rw [HN.out (by omega)];(try rfl)
     (have hw4:IntKind.i64.wrap (((2:Nat):Int)+1)=3:=by decide);go_wp2_with fail;go_roundg (gk-1)
     case measure=>have:=HJ.out;omega
     case rel=>exact⟨3,by have:=HJ.out;omega,rfl,fun _=>HA.out (by omega),fun _=>HB.out (by omega),fun _=>by omega,rfl⟩
   go_wp2_with fail;(try go_ret);refine hR.out _ _ ⟨?_,F0.out⟩;rw [HY.out (HA.out (by omega)) (HB.out (by omega)) (HC.out (by omega))];rfl
theorem Q6v (F:Nat->Prop) (A:Option Addr) (n c:Nat) (bs:List Nat) (w:World) (hr:Rd w F A n (bs.map fun b=>.int .u8 (b:Nat))) (hlt:∀b∈bs,b<256) (hlen:bs.length<=2^32) :
   Calls Tryz.prog 16 #[.slice A n c] w fun e w'=>e = .returned (.bool (decide ((Qn bs).2.2=0/\300<(Qn bs).1/\(Qn bs).1<=65536)))/\Q0 w w':=by
 have HN:=hd_ (Zi F A n c bs w hr hlt hlen);have HCV:=hd_ (fun(F':Nat->Prop) g W h hF=>Q3L F' g bs 0 W h hF);rw [List.drop_zero]at HCV;generalize Qn bs=v at *;obtain⟨v0,v1,v2⟩:=v;have HD:=hd_ (show ∀x,decide (v2=0/\300<v0/\v0<=65536)=x->∀w',Q0 w w'->(Ending.returned (.bool x)=Ending.returned (.bool (decide (v2=0/\300<v0/\v0<=65536)))/\Q0 w w')from fun x hx w' h=>⟨by rw [hx],h⟩);clear hr hlt hlen;refine Q7 fun R hR=>?_;go_enter Tryz.func16,Tryz.ntmps16;go_wp2_with fail;refine HN.out.mono ?_;rintro e w1 ⟨g,rfl,hg,f1,cu⟩;have F1:=hd_ f1;have CU:=hd_ cu;have HG:=hd_ hg;clear f1 cu hg;go_wp2_with fail;refine(HCV.out _ g w1 CU.out (fun b hb=>hb.2)).mono ?_;rintro e w2 ⟨rfl,u2,-⟩;have F2:=hd_ (F1.out.trans u2 (fun b hb e=>by have:=HG.out;omega));clear u2 CU HCV HN;by_cases h0:v2=0
 . subst h0
   by_cases h1:300<v0
   . have h1':(300:Int)<v0:=by omega
     by_cases h2:v0<=65536
     . have h2':(v0:Int)<=65536:=by omega
       have hd:=hd_ (HD.out true (decide_eq_true ⟨rfl,h1,h2⟩));have j2:decide ((v0:Int)<=65536)=true:=decide_eq_true h2';clear h1 h2 HD;go_wp2_with fail;(try go_ret);(try simp only [j2]);exact hR.out _ _ (hd.out _ F2.out)
     (have h2':¬(v0:Int)<=65536:=by omega);have hd:=hd_ (HD.out false (decide_eq_false (fun h=>h2 h.2.2)));have j2:decide ((v0:Int)<=65536)=false:=decide_eq_false h2';clear h1 h2 HD;go_wp2_with fail;(try go_ret);(try simp only [j2]);exact hR.out _ _ (hd.out _ F2.out)
   (have h1':¬(300:Int)<v0:=by omega);have hd:=hd_ (HD.out false (decide_eq_false (fun h=>h1 h.2.1)));clear h1 HD;go_wp2_with fail;(try go_ret);exact hR.out _ _ (hd.out _ F2.out)
 (have h0':(v2 == 0)=false:=by simpa using h0);have hd:=hd_ (HD.out false (decide_eq_false (fun h=>h0 h.1)));clear h0 HD;go_wp2_with fail;(try go_ret);exact hR.out _ _ (hd.out _ F2.out)
end Go.Proofs.YtjfdaphjijfieaaGreat
