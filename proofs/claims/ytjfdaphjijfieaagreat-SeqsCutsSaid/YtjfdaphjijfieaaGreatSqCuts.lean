/-
  SeqsCuts: the law's function answers true.
  Conditions: none beyond those of each theorem.
-/
import Derived.Test.YtjfdaphjijfieaaGreatK41
import Derived.Test.YtjfdaphjijfieaaGreatK37
import Derived.Test.YtjfdaphjijfieaaGreatK5
set_option maxHeartbeats 20000000
namespace Go.Proofs.YtjfdaphjijfieaaGreat
open Go.RowKit
set_option linter.unusedVariables false
set_option linter.unusedSimpArgs false
theorem Q6I (a:Int) (n:Nat) (h:0<n) (h2:n<=10000):∃k:Nat,k<n/\wrap64 ((IntKind.u64.wrap a).tmod (n:Int))=(k:Int):=by
 rw [IntKind.wrap_u64];have h3:0<=a%18446744073709551616:=Int.emod_nonneg _ (by omega);rw [Int.tmod_eq_emod_of_nonneg h3];generalize a%18446744073709551616=x;have h4:=Int.emod_nonneg x (show(n:Int)≠0 by omega);have h5:=Int.emod_lt_of_pos x (show(0:Int)<n by omega);generalize x%(n:Int)=y at h4 h5;refine⟨y.toNat,by omega,?_⟩;unfold wrap64;omega
theorem Q5y {F:Nat->Prop} {g:Nat} {bs:List Nat} {S:KM} {Tr:List Int} {w:World} {A:Array Value} (h:Calls Tryz.prog 18 A w (Jh F g bs S Tr w)) :
   Calls Tryz.prog 18 A w (fun e w'=>Upd (fun b=>b=g) w w'/\∃v D h i lL A n c lO B m d lM C k e1 x y z,e = .returned (.tuple #[v,.agg #[.slice D h i,.int .i64 lL,.slice A n c,.int .i64 lO,.slice B m d,.int .i64 lM,.slice C k e1,.int .i64 x,.int .i64 y,.int .i64 z],.int .i64 S.err])):=by
 refine h.mono fun e w' hp=>?_;obtain⟨hu,hp⟩:=hp;refine⟨hu,?_⟩;by_cases he:S.err=0
 . rw [if_pos he]at hp
   obtain⟨v,D,h,i,A,n,c,B,m,d,C,k,e1,rfl,_⟩:=hp;rw [he];exact⟨_,_,_,_,_,_,_,_,_,_,_,_,_,_,_,_,_,_,_,rfl⟩
 rw [if_neg he]at hp;exact⟨_,_,_,_,_,_,_,_,_,_,_,_,_,_,_,_,_,_,_,hp⟩
set_option maxRecDepth 100000 in
theorem Q86 (D A B C:Option Addr) (h i n c m d k e:Nat) (T:Qa) (Tr:List Int) (r0 r1 r2:Int) (L:Option Addr) (nl dl:Nat) (l:List (Int × Int × Int)) (at_:Int) (w:World) (p0:Rd w (fun _=>True) D h (Q2 Tr)) (p1:Rd w (fun _=>True) A n (Q2 T.NL)) (p2:Rd w (fun _=>True) B m (Q2 T.NO)) (p3:Rd w (fun _=>True) C k (Q2 T.NM)) (f1:Fit T.NL) (f2:Fit T.NO) (f3:Fit T.NM)
   (hL:RdK w (fun _=>True) 3 L nl (l.map tri)) (hfit:∀s∈l,-(2^63)<=s.2.1/\s.2.1<2^63) :
   Calls Tryz.prog 9 #[.agg #[.slice D h i,.int .i64 T.lL,.slice A n c,.int .i64 T.lO,.slice B m d,.int .i64 T.lM,.slice C k e,.int .i64 r0,.int .i64 r1,.int .i64 r2],.slice L nl dl,.int .i64 at_] w fun e' w'=>e' = .returned (.bool true)/\Q0 w w':=by
 obtain⟨w0,hw0⟩:=nm_ (w.alloc (.cells #[.slice D h i,.int .i64 T.lL,.slice A n c,.int .i64 T.lO,.slice B m d,.int .i64 T.lM,.slice C k e,.int .i64 r0,.int .i64 r1,.int .i64 r2] 32));obtain⟨H,hH⟩:=nm_ (w.heap.size);(have f0:Q0 w w0:=by rw [hw0];exact(Upd.refl _ _).alloc _);(have bc:Blk w0 H 32 #[.slice D h i,.int .i64 T.lL,.slice A n c,.int .i64 T.lO,.slice B m d,.int .i64 T.lM,.slice C k e,.int .i64 r0,.int .i64 r1,.int .i64 r2]:=by rw [hw0];exact Q1 hH _ _);(have hTr:Tr.length=h:=by have:=p0.1;rw [QP]at this;exact this);(have hNL:T.NL.length=n:=by have:=p1.1;rw [QP]at this;exact this);(have hNO:T.NO.length=m:=by have:=p2.1;rw [QP]at this;exact this);(have hNM:T.NM.length=k:=by have:=p3.1;rw [QP]at this;exact this);(have hll:l.length=nl:=by have:=hL.1;simpa using this);have HFW:=hd_ (fun W=>Q0J D A B C h i n c m d k e T r0 r1 r2 W);have HKN:=hd_ Ve
 have HCX:=hd_ (show ∀W,Q0 w0 W->W.cell? ⟨H,0,none⟩=some (.slice D h i)/\W.cell? ⟨H,1,none⟩=some (.int .i64 T.lL)/\W.cell? ⟨H,2,none⟩=some (.slice A n c)/\W.cell? ⟨H,3,none⟩=some (.int .i64 T.lO)/\W.cell? ⟨H,4,none⟩=some (.slice B m d)/\W.cell? ⟨H,5,none⟩=some (.int .i64 T.lM)/\W.cell? ⟨H,6,none⟩=some (.slice C k e)/\W.cell? ⟨H,7,none⟩=some (.int .i64 r0)/\W.cell? ⟨H,8,none⟩=some (.int .i64 r1)/\W.cell? ⟨H,9,none⟩=some (.int .i64 r2)from fun W f=>by
   have bb:=bc.fresh f
   exact bb.cells10)
 have HW:=hd_ hw0;have HH:=hd_ hH;have F0:=hd_ f0;by_cases hbig:40<nl
 . have hb:(40:Int)<nl:=by omega
   clear hbig;clear hw0 hH f0 bc p0 p1 p2 p3 f1 f2 f3 hL hfit hTr hNL hNO hNM hll;refine Q7 fun R hR=>?_;obtain⟨u0,u1,u2,u3,u4,u5,u6,u7,u8,u9⟩:=HCX.out w0 (Upd.refl _ _);go_enter Tryz.func9,Tryz.ntmps9;go_upto_region 1 with fail;simp only [<-HH.out,<-HW.out];go_wp2_with fail;refine(HKN.out _).mono ?_;rintro e1 w1 ⟨rfl,f1⟩;have F1:=hd_ ((Upd.refl _ _).trans' f1);clear f1;go_wp2_with fail;(try go_ret);exact hR.out _ _ ⟨rfl,F0.out.trans' F1.out⟩
 (have hb:¬(40:Int)<nl:=by omega);by_cases hz:nl=0
 . subst hz
   clear hbig hb;clear hw0 hH f0 bc p0 p1 p2 p3 f1 f2 f3 hL hfit hTr hNL hNO hNM hll;refine Q7 fun R hR=>?_;obtain⟨u0,u1,u2,u3,u4,u5,u6,u7,u8,u9⟩:=HCX.out w0 (Upd.refl _ _);go_enter Tryz.func9,Tryz.ntmps9;go_upto_region 1 with fail;simp only [<-HH.out,<-HW.out];go_wp2_with fail;refine(HKN.out _).mono ?_;rintro e1 w1 ⟨rfl,f1⟩;have F1:=hd_ ((Upd.refl _ _).trans' f1);clear f1;go_wp2_with fail;(try go_ret);exact hR.out _ _ ⟨rfl,F0.out.trans' F1.out⟩
 (have hz1:((nl:Int) == 0)=false:=by simp;omega);by_cases hfew:h<=300/\n<=300/\m<=300/\k<=300
 . have hne:l≠[]:=by intro hx;rw [hx]at hll;exact hz hll.symm
   have HEN:=hd_ (fun W (f:Q0 w0 W)=>X5 (fun _=>True) (fun b=>b<w.heap.size) D A B C L h i n c m d k e nl dl T Tr r0 r1 r2 l W ((hL.fresh f0).fresh f) hfit (by omega) ((p0.old.fresh f0).fresh f) ((p1.old.fresh f0).fresh f) ((p2.old.fresh f0).fresh f) ((p3.old.fresh f0).fresh f) f1 f2 f3 (by omega) (by omega) (by omega) (by omega));have HSD:=hd_ (fun(F':Nat->Prop) (g:Nat) (bs:List Nat) (W:World) (hc:Qi W F' g bs 0) (hF:∀b,F' b->b≠g) (hg:w.heap.size<=g) (f:Q0 w0 W)=>VL F' (fun b=>b<w.heap.size) g bs 0 D A B C h i n c m d k e T Tr r0 r1 r2 W hc hF (fun b hb=>by omega) ((p0.old.fresh f0).fresh f) ((p1.old.fresh f0).fresh f) ((p2.old.fresh f0).fresh f) ((p3.old.fresh f0).fresh f) f1 f2 f3 (by omega) (by omega) (by omega) (by omega));have HEC:=hd_ (fun he q=>Q9L (T:=T) (a:=r0) (b:=r1) (c:=r2) (l:=l) (by omega) hne he q);have HEB:=hd_ (fun he=>Vy (T:=T) (a:=r0) (b:=r1) (c:=r2) (l:=l) (by omega) he);have HNE0:=hd_ hne;have hd:decide (h<=300/\n<=300/\m<=300/\k<=300)=true:=decide_eq_true hfew;rw [hd]at HFW;unfold JX at HEN;generalize QV T r0 r1 r2 l=S at *;obtain⟨s0,eb,T2,x0,x1,x2⟩:=S;simp only at HEN HEC HEB;clear hbig hfew hd hz hne;clear hw0 hH f0 bc p0 p1 p2 p3 f1 f2 f3 hL hfit hTr hNL hNO hNM hll;refine Q7 fun R hR=>?_;obtain⟨u0,u1,u2,u3,u4,u5,u6,u7,u8,u9⟩:=HCX.out w0 (Upd.refl _ _);go_enter Tryz.func9,Tryz.ntmps9;go_upto_region 1 with fail;simp only [<-HH.out,<-HW.out];go_wp2_with fail;refine(HFW.out _).mono ?_;rintro e1 w1 ⟨rfl,f1⟩;have F1:=hd_ f1;clear f1;clear u0 u1 u2 u3 u4 u5 u6 u7 u8 u9;obtain⟨u0,u1,u2,u3,u4,u5,u6,u7,u8,u9⟩:=HCX.out w1 F1.out;by_cases he:s0=0
   . subst he
     have HEC2:=hd_ (HEC.out rfl);have hEB:=HEB.out rfl;have HEB2:=hd_ hEB;have hee:=HEN.out w1 F1.out;simp only [if_true]at hee;have HEE:=hd_ hee;have hge:=hEB.2.2.2 HNE0.out;(have h2:¬((eb.length:Int)<2):=by omega);obtain⟨q,hq,hqm⟩:=Q6I at_ eb.length (by omega) hEB.2.2.1;(have hqi:IntKind.i64.wrap ((IntKind.u64.wrap at_).tmod (eb.length:Int))=q:=by rw [IntKind.wrap_i64];unfold wrap64 at hqm;exact hqm);(have huw:IntKind.u64.wrap (eb.length:Int)=eb.length:=by rw [IntKind.wrap_u64];have:=hEB.2.2.1;omega);(have hnz:((eb.length:Int) == 0)=false:=by rw [beq_eq_false_iff_ne];omega);(have heb:¬eb=[]:=by intro hx;rw [hx]at hge;simp at hge);have HQ:=hd_ hq;clear HEC HEB HEN hee hEB hge hq;go_wp2_with fail;refine HEE.out.mono ?_;rintro e2 w2 ⟨f2,v,D2,h2_,i2,A2,n2,c2,B2,m2,d2,C2,k2,e2,rfl,ov,hvb,-,-,-,-⟩;obtain⟨Av,cv,rfl,hcv,rv⟩:=ov.form;have hnb:(Qb eb).length=eb.length:=Yy eb;have RV:=hd_ (show Rd w2 (fun _=>True) Av eb.length (Qb eb) by rw [<-hnb];exact rv.mono (fun _ _=>trivial));simp only [hnb];rw [hnb]at hcv;have hqc:q<=cv:=Nat.le_trans (Nat.le_of_lt HQ.out) hcv;have F2:=hd_ (F1.out.trans' f2);clear f2 ov hvb hcv rv HEE hnb u0 u1 u2 u3 u4 u5 u6 u7 u8 u9;go_upto_region 4 with fail;obtain⟨w3,hw3⟩:=nm_ (w2.alloc (.cells #[.slice D2 h2_ i2,.int .i64 T2.lL,.slice A2 n2 c2,.int .i64 T2.lO,.slice B2 m2 d2,.int .i64 T2.lM,.slice C2 k2 e2,.int .i64 x0,.int .i64 x1,.int .i64 x2] 32));simp only [<-hw3];have F23:=hd_ (show Q0 w2 w3 by rw [hw3];exact(Upd.refl _ _).alloc _);clear hw3;have F3:=hd_ (F2.out.trans' F23.out);go_upto_region 6 with fail;have HCX3:=hd_ (fun W (f:Q0 w3 W)=>HCX.out W (F3.out.trans' f));have HNW3:=hd_ (fun W (f:Q0 w3 W)=>Zi (fun _=>True) Av q cv (eb.take q) W (by have h9:=(RV.out.fresh (F23.out.trans' f)).take (k:=q) (Nat.le_of_lt HQ.out);simpa [Qb,List.map_take]using h9) (fun b hb=>HEB2.out.1 b (List.mem_of_mem_take hb)) (Nat.le_trans (List.length_take_le _ _) (Nat.le_trans (Nat.le_of_lt HQ.out) (Nat.le_trans HEB2.out.2.2.1 (by decide)))));obtain⟨S6,hS6⟩:=nm_ (QB (eb.take q) 0 T r0 r1 r2);have he6:=(HEC2.out q).1;rw [<-hS6]at he6;have HE6:=hd_ he6
     have HSD3:=hd_ (show ∀(F':Nat->Prop) (g:Nat) (W':World),Qi W' F' g (eb.take q) 0->(∀b,F' b->b≠g)->w3.heap.size<=g->Q0 w3 W'->Calls Tryz.prog 18 #[.pointer (some ⟨g,0,none⟩),.agg #[.slice D h i,.int .i64 T.lL,.slice A n c,.int .i64 T.lO,.slice B m d,.int .i64 T.lM,.slice C k e,.int .i64 r0,.int .i64 r1,.int .i64 r2]] W' (Jh F' g (eb.take q) S6 Tr W')from fun F' g W' hc hF hg f=>by
       have hss:=HSD.out F' g (eb.take q) W' hc hF (by have:=F0.out.size;have:=F3.out.size;omega) (F3.out.trans' f);rw [<-hS6]at hss
       exact hss)
     clear hS6 he6;obtain⟨Cw,cEq⟩:=exC (fun W=>Q0 w3 W);obtain⟨Y,yA⟩:=exY [fun xs W=>(xs 0) = .slice Av eb.length cv,fun xs W=>(xs 1) = .int .i64 at_,fun xs W=>(xs 2) = .int .u64 (IntKind.u64.wrap at_),fun xs W=>(xs 3) = .slice Av eb.length cv,fun xs W=>(xs 4) = .int .i64 eb.length,fun xs W=>(xs 5) = .int .u64 eb.length,fun xs W=>(xs 6) = .int .u64 ((IntKind.u64.wrap at_).tmod eb.length),fun xs W=>(xs 7) = .int .i64 q,fun xs W=>(xs 8) = .slice Av q cv,fun xs W=>∃g,(xs 9) = .pointer (some ⟨g,0,none⟩)/\w3.heap.size<=g/\Qi W (fun q=>w3.heap.size<=q/\q≠g) g (eb.take q) 0,fun xs W=>(xs 10) = .agg #[.slice D h i,.int .i64 T.lL,.slice A n c,.int .i64 T.lO,.slice B m d,.int .i64 T.lM,.slice C k e,.int .i64 r0,.int .i64 r1,.int .i64 r2],fun xs W=>∃v3 D_ h_ i_ lL_ A_ n_ c_ lO_ B_ m_ d_ lM_ C_ k_ e_ x_ y_ z_,(xs 11) = .tuple #[v3,.agg #[.slice D_ h_ i_,.int .i64 lL_,.slice A_ n_ c_,.int .i64 lO_,.slice B_ m_ d_,.int .i64 lM_,.slice C_ k_ e_,.int .i64 x_,.int .i64 y_,.int .i64 z_],.int .i64 S6.err],fun xs W=>∃v3 D_ h_ i_ lL_ A_ n_ c_ lO_ B_ m_ d_ lM_ C_ k_ e_ x_ y_ z_,(xs 12) = .tuple #[v3,.agg #[.slice D_ h_ i_,.int .i64 lL_,.slice A_ n_ c_,.int .i64 lO_,.slice B_ m_ d_,.int .i64 lM_,.slice C_ k_ e_,.int .i64 x_,.int .i64 y_,.int .i64 z_],.int .i64 S6.err],fun xs W=>True,fun xs W=>∃D_ h_ i_ lL_ A_ n_ c_ lO_ B_ m_ d_ lM_ C_ k_ e_ x_ y_ z_,(xs 14) = .agg #[.slice D_ h_ i_,.int .i64 lL_,.slice A_ n_ c_,.int .i64 lO_,.slice B_ m_ d_,.int .i64 lM_,.slice C_ k_ e_,.int .i64 x_,.int .i64 y_,.int .i64 z_],fun xs W=>(xs 15) = .int .i64 S6.err,fun xs W=>∃g,(xs 16) = .pointer (some ⟨g,0,none⟩)/\w3.heap.size<=g/\Blk W g 32 #[.slice none 0 0,.int .i64 0,.slice none 0 0,.int .i64 0,.slice none 0 0,.int .i64 0,.slice none 0 0,.int .i64 0,.int .i64 0,.int .i64 0],fun xs W=>True,fun xs W=>True,fun xs W=>(xs 19) = .int .i64 S6.err];have yf0:=yA 0;have yf1:=yA 1;have yf2:=yA 2;have yf3:=yA 3;have yf4:=yA 4;have yf5:=yA 5;have yf6:=yA 6;have yf7:=yA 7;have yf8:=yA 8;have yf9:=yA 9;have yf10:=yA 10;have yf11:=yA 11;have yf12:=yA 12;have yf13:=yA 13;have yf14:=yA 14;have yf15:=yA 15;have yf16:=yA 16;have yf17:=yA 17;have yf18:=yA 18;have yf19:=yA 19;simp only [List.getD_cons_zero,List.getD_cons_succ]at yf0 yf1 yf2 yf3 yf4 yf5 yf6 yf7 yf8 yf9 yf10 yf11 yf12 yf13 yf14 yf15 yf16 yf17 yf18 yf19;(have yN:∀j xs W,20<=j->Y j xs W=True:=fun j xs W hj=>by rw [yA,Z3 _ _ _ hj])
     have yP:∀j xs W W',j∈[0,1,2,3,4,5,6,7,8,10,11,12,13,14,15,17,18,19]->Y j xs W->Y j xs W':=by
       intro j xs W W' hj hy;simp only [List.mem_cons,List.not_mem_nil,or_false]at hj;rcases hj with rfl|rfl|rfl|rfl|rfl|rfl|rfl|rfl|rfl|rfl|rfl|rfl|rfl|rfl|rfl|rfl|rfl|rfl
       . rw [yf0]at hy ⊢;exact hy
       . rw [yf1]at hy ⊢;exact hy
       . rw [yf2]at hy ⊢;exact hy
       . rw [yf3]at hy ⊢;exact hy
       . rw [yf4]at hy ⊢;exact hy
       . rw [yf5]at hy ⊢;exact hy
       . rw [yf6]at hy ⊢;exact hy
       . rw [yf7]at hy ⊢;exact hy
       . rw [yf8]at hy ⊢;exact hy
       . rw [yf10]at hy ⊢;exact hy
       . rw [yf11]at hy ⊢;exact hy
       . rw [yf12]at hy ⊢;exact hy
       . rw [yf13]at hy ⊢;exact hy
       . rw [yf14]at hy ⊢;exact hy
       . rw [yf15]at hy ⊢;exact hy
       . rw [yf17]at hy ⊢;exact hy
       . rw [yf18]at hy ⊢;exact hy
       rw [yf19]at hy ⊢;exact hy
     have yM:VQ [[0],[1],[2],[3],[4],[5],[6],[7],[8],[9],[10],[11],[12],[],[14],[15],[16],[],[],[19]] Y:=by
       intro j xs xs' W hh hy;by_cases hj:20<=j
       . rw [yN j _ _ hj];trivial
       (have hj':j=0\/j=1\/j=2\/j=3\/j=4\/j=5\/j=6\/j=7\/j=8\/j=9\/j=10\/j=11\/j=12\/j=13\/j=14\/j=15\/j=16\/j=17\/j=18\/j=19:=by omega);rcases hj' with rfl|rfl|rfl|rfl|rfl|rfl|rfl|rfl|rfl|rfl|rfl|rfl|rfl|rfl|rfl|rfl|rfl|rfl|rfl|rfl
       . rw [yf0]at hy ⊢;rw [<-hh 0 (by decide)];exact hy
       . rw [yf1]at hy ⊢;rw [<-hh 1 (by decide)];exact hy
       . rw [yf2]at hy ⊢;rw [<-hh 2 (by decide)];exact hy
       . rw [yf3]at hy ⊢;rw [<-hh 3 (by decide)];exact hy
       . rw [yf4]at hy ⊢;rw [<-hh 4 (by decide)];exact hy
       . rw [yf5]at hy ⊢;rw [<-hh 5 (by decide)];exact hy
       . rw [yf6]at hy ⊢;rw [<-hh 6 (by decide)];exact hy
       . rw [yf7]at hy ⊢;rw [<-hh 7 (by decide)];exact hy
       . rw [yf8]at hy ⊢;rw [<-hh 8 (by decide)];exact hy
       . rw [yf9]at hy ⊢;rw [<-hh 9 (by decide)];exact hy
       . rw [yf10]at hy ⊢;rw [<-hh 10 (by decide)];exact hy
       . rw [yf11]at hy ⊢;rw [<-hh 11 (by decide)];exact hy
       . rw [yf12]at hy ⊢;rw [<-hh 12 (by decide)];exact hy
       . rw [yf13]at hy ⊢;exact hy
       . rw [yf14]at hy ⊢;rw [<-hh 14 (by decide)];exact hy
       . rw [yf15]at hy ⊢;rw [<-hh 15 (by decide)];exact hy
       . rw [yf16]at hy ⊢;rw [<-hh 16 (by decide)];exact hy
       . rw [yf17]at hy ⊢;exact hy
       . rw [yf18]at hy ⊢;exact hy
       rw [yf19]at hy ⊢;rw [<-hh 19 (by decide)];exact hy
     clear yA
     have yR:∀j xs,20<=j->Y j xs (w3.drew):=by
       intro j xs hj;rcases(show 20<=j by omega)with hj;rw [yN _ _ _ hj];trivial
     refine Jf Cw (fun j=>if j=9 then [11,18]else if j=11 then [18]else if j=13 then [18]else if j=14 then [18]else if j=16 then [18]else []) Y [(0,some 46),(1,some 47),(2,some 48),(3,some 49),(4,some 50),(5,some 51),(6,some 52),(7,some 53),(8,some 54),(9,some 55),(10,some 56),(11,some 57),(12,some 45),(13,some 58),(14,some 59),(15,some 60),(16,some 11),(17,some 10),(18,none),(19,some 12)] (by kernel_rfl) (by kernel_rfl) (by kernel_rfl) (by rw [cEq];exact(Upd.refl _ _).drew) (fun j hj=>yR j _ hj) ?_ ?_
     . refine Qf.cons [] (by kernel_rfl) (fun xs W hw hd lst hl K hK=>?_) ?_
       . rw [cEq]at hw
         have hK':=hK.out;clear hK;simp only [Qd,Act.put,List.setIfInBounds_toArray,List.set_cons_zero,List.set_cons_succ]at hK' ⊢;go_simp;exact hK' _ _ (by rw [cEq];exact hw) (Q9 yM 0 (by kernel_rfl) xs W _) (by rw [yf0];exact if_pos rfl)
       refine Qf.cons [] (by kernel_rfl) (fun xs W hw hd lst hl K hK=>?_) ?_
       . rw [cEq]at hw
         have hK':=hK.out;clear hK;simp only [Qd,Act.put,List.setIfInBounds_toArray,List.set_cons_zero,List.set_cons_succ]at hK' ⊢;go_simp;exact hK' _ _ (by rw [cEq];exact hw) (Q9 yM 1 (by kernel_rfl) xs W _) (by rw [yf1];exact if_pos rfl)
       refine Qf.cons [(1,some 47)] (by kernel_rfl) (fun xs W hw hd lst hl K hK=>?_) ?_
       . rw [cEq]at hw
         have hK':=hK.out;clear hK;simp only [Qr]at hd;obtain⟨hf1,_⟩:=hd;simp only [Qd,Act.put,List.setIfInBounds_toArray,List.set_cons_zero,List.set_cons_succ]at hK' ⊢;rw [yf1]at hf1;simp only [hf1]at hK' ⊢;go_simp;exact hK' _ _ (by rw [cEq];exact hw) (Q9 yM 2 (by kernel_rfl) xs W _) (by rw [yf2];exact if_pos rfl)
       refine Qf.cons [] (by kernel_rfl) (fun xs W hw hd lst hl K hK=>?_) ?_
       . rw [cEq]at hw
         have hK':=hK.out;clear hK;simp only [Qd,Act.put,List.setIfInBounds_toArray,List.set_cons_zero,List.set_cons_succ]at hK' ⊢;go_simp;exact hK' _ _ (by rw [cEq];exact hw) (Q9 yM 3 (by kernel_rfl) xs W _) (by rw [yf3];exact if_pos rfl)
       refine Qf.cons [(3,some 49)] (by kernel_rfl) (fun xs W hw hd lst hl K hK=>?_) ?_
       . rw [cEq]at hw
         have hK':=hK.out;clear hK;simp only [Qr]at hd;obtain⟨hf3,_⟩:=hd;simp only [Qd,Act.put,List.setIfInBounds_toArray,List.set_cons_zero,List.set_cons_succ]at hK' ⊢;rw [yf3]at hf3;simp only [hf3]at hK' ⊢;go_simp;exact hK' _ _ (by rw [cEq];exact hw) (Q9 yM 4 (by kernel_rfl) xs W _) (by rw [yf4];exact if_pos rfl)
       refine Qf.cons [(4,some 50)] (by kernel_rfl) (fun xs W hw hd lst hl K hK=>?_) ?_
       . rw [cEq]at hw
         have hK':=hK.out;clear hK;simp only [Qr]at hd;obtain⟨hf4,_⟩:=hd;simp only [Qd,Act.put,List.setIfInBounds_toArray,List.set_cons_zero,List.set_cons_succ]at hK' ⊢;rw [yf4]at hf4;simp only [hf4]at hK' ⊢;go_simp;exact hK' _ _ (by rw [cEq];exact hw) (Q9 yM 5 (by kernel_rfl) xs W _) (by rw [yf5];exact if_pos rfl)
       refine Qf.cons [(2,some 48),(5,some 51)] (by kernel_rfl) (fun xs W hw hd lst hl K hK=>?_) ?_
       . rw [cEq]at hw
         have hK':=hK.out;clear hK;simp only [Qr]at hd;obtain⟨hf2,hf5,_⟩:=hd;simp only [Qd,Act.put,List.setIfInBounds_toArray,List.set_cons_zero,List.set_cons_succ]at hK' ⊢;rw [yf2]at hf2;rw [yf5]at hf5;simp only [hf2,hf5]at hK' ⊢;go_simp;exact hK' _ _ (by rw [cEq];exact hw) (Q9 yM 6 (by kernel_rfl) xs W _) (by rw [yf6];exact if_pos rfl)
       refine Qf.cons [(6,some 52)] (by kernel_rfl) (fun xs W hw hd lst hl K hK=>?_) ?_
       . rw [cEq]at hw
         have hK':=hK.out;clear hK;simp only [Qr]at hd;obtain⟨hf6,_⟩:=hd;simp only [Qd,Act.put,List.setIfInBounds_toArray,List.set_cons_zero,List.set_cons_succ]at hK' ⊢;rw [yf6]at hf6;simp only [hf6]at hK' ⊢;go_simp;exact hK' _ _ (by rw [cEq];exact hw) (Q9 yM 7 (by kernel_rfl) xs W _) (by rw [yf7];exact if_pos rfl)
       refine Qf.cons [(0,some 46),(7,some 53)] (by kernel_rfl) (fun xs W hw hd lst hl K hK=>?_) ?_
       . rw [cEq]at hw
         have hK':=hK.out;clear hK;simp only [Qr]at hd;obtain⟨hf0,hf7,_⟩:=hd;simp only [Qd,Act.put,List.setIfInBounds_toArray,List.set_cons_zero,List.set_cons_succ]at hK' ⊢;rw [yf0]at hf0;rw [yf7]at hf7;simp only [hf0,hf7]at hK' ⊢;go_simp;exact hK' _ _ (by rw [cEq];exact hw) (Q9 yM 8 (by kernel_rfl) xs W _) (by rw [yf8];exact if_pos rfl)
       refine Qf.cons [(8,some 54)] (by kernel_rfl) (fun xs W hw hd lst hl K hK=>?_) ?_
       . rw [cEq]at hw
         have hK':=hK.out;clear hK;simp only [Qr]at hd;obtain⟨hf8,_⟩:=hd;simp only [Qd,Act.put,List.setIfInBounds_toArray,List.set_cons_zero,List.set_cons_succ]at hK' ⊢;rw [yf8]at hf8;simp only [hf8]at hK' ⊢;go_simp;refine(HNW3.out W hw).mono ?_;rintro ez wz ⟨gz,rfl,hgz,fz,cuz⟩;have hsz:=hw.size;have hR:=fz;refine hK' (_) (wz) (by rw [cEq];exact hw.trans' fz) (Qu yM 9 (by kernel_rfl) _ fun j hs hy=>?_) (by rw [yf9];(try simp only [↓reduceIte]);try exact⟨gz,rfl,by omega,cuz.mono (fun b hb=>⟨by have:=hb.1;omega,hb.2⟩)⟩);by_cases hp:j∈[0,1,2,3,4,5,6,7,8,10,11,12,13,14,15,17,18,19]
         . exact yP j _ _ _ hp hy
         by_cases hj:20<=j
         . rw [yN j _ _ hj];trivial
         simp only [List.mem_cons,List.not_mem_nil,or_false]at hp;rcases(show j=9\/j=16 by omega)with rfl|rfl
         . exact(Q5 hs (by kernel_rfl)).elim
         rw [yf16]at hy ⊢;obtain⟨g,k1,k2,k3⟩:=hy;exact⟨g,k1,k2,k3.fresh hR⟩
       refine Qf.cons [] (by kernel_rfl) (fun xs W hw hd lst hl K hK=>?_) ?_
       . rw [cEq]at hw
         have hK':=hK.out;clear hK;simp only [Qd,Act.put,List.setIfInBounds_toArray,List.set_cons_zero,List.set_cons_succ]at hK' ⊢;have cl:=HCX3.out W hw;obtain⟨cz0,cz1,cz2,cz3,cz4,cz5,cz6,cz7,cz8,cz9⟩:=cl;go_simp;exact hK' _ _ (by rw [cEq];exact hw) (Q9 yM 10 (by kernel_rfl) xs W _) (by rw [yf10];exact if_pos rfl)
       refine Qf.cons [(9,some 55),(10,some 56)] (by kernel_rfl) (fun xs W hw hd lst hl K hK=>?_) ?_
       . rw [cEq]at hw
         have hK':=hK.out;clear hK;simp only [Qr]at hd;obtain⟨hf9,hf10,_⟩:=hd;simp only [Qd,Act.put,List.setIfInBounds_toArray,List.set_cons_zero,List.set_cons_succ]at hK' ⊢;rw [yf9]at hf9;rw [yf10]at hf10;simp only [hf10]at hK' ⊢;obtain⟨gc,h1e,hgc,cuc⟩:=hf9;simp only [h1e]at hK' ⊢;go_simp;have hdc:=HSD3.out _ gc W cuc (fun b hb=>hb.2) hgc hw;have hdc:=Q5y hdc;(have hcb:∃cs,Blk W gc 67 cs:=by obtain⟨_,_,hx,_⟩:=cuc;exact⟨_,hx⟩);obtain⟨cs,hcb⟩:=hcb
         have h8n:∀b,W.heap.size<=b->Qc (xs 16) b:=by
           intro b hb
           cases h8:lst 16 with
           | false=>rw [hl.out.2.2.1 16 h8];exact Qc.undef b
           | true =>
             have:=hl.out.2.2.2 16 h8 (fun m hm=>by have h10:m=18:=(by simpa using hm);subst h10;exact hl.out.2.1 18 (by kernel_rfl));rw [yf16]at this;obtain⟨g8,k1,_,k3⟩:=this;rw [k1];exact Qc.ptr (by have:=k3.lt;omega)
         refine hdc.mono ?_;rintro ez wz ⟨ud,v3,D_,h_,i_,lL_,A_,n_,c_,lO_,B_,m_,d_,lM_,C_,k_,e_,x_,y_,z_,rfl⟩;have hsw:=hw.size;have hR:=ud;refine hK' (_) (wz) (by rw [cEq];exact hw.trans ud (fun b hb e=>by omega)) (Qu yM 11 (by kernel_rfl) _ fun j hs hy=>?_) (by rw [yf11];(try simp only [↓reduceIte]);try exact⟨v3,D_,h_,i_,lL_,A_,n_,c_,lO_,B_,m_,d_,lM_,C_,k_,e_,x_,y_,z_,rfl⟩);by_cases hp:j∈[0,1,2,3,4,5,6,7,8,10,11,12,13,14,15,17,18,19]
         . exact yP j _ _ _ hp hy
         by_cases hj:20<=j
         . rw [yN j _ _ hj];trivial
         simp only [List.mem_cons,List.not_mem_nil,or_false]at hp;rcases(show j=9\/j=16 by omega)with rfl|rfl
         . exact(Q5 hs (by kernel_rfl)).elim
         rw [yf16]at hy ⊢;obtain⟨g,k1,k2,k3⟩:=hy;exact⟨g,k1,k2,k3.upd hR (fun e=>k3.ne_ hcb (by decide) e)⟩
       refine Qf.cons [(11,some 57)] (by kernel_rfl) (fun xs W hw hd lst hl K hK=>?_) ?_
       . rw [cEq]at hw
         have hK':=hK.out;clear hK;simp only [Qr]at hd;obtain⟨hf11,_⟩:=hd;simp only [Qd,Act.put,List.setIfInBounds_toArray,List.set_cons_zero,List.set_cons_succ]at hK' ⊢;rw [yf11]at hf11;go_simp;exact hK' _ _ (by rw [cEq];exact hw) (Q9 yM 12 (by kernel_rfl) xs W _) (by rw [yf12];(try simp only [↓reduceIte,OfNat.ofNat_ne_ofNat,Nat.reduceEqDiff]);exact hf11)
       refine Qf.cons [(12,some 45)] (by kernel_rfl) (fun xs W hw hd lst hl K hK=>?_) ?_
       . rw [cEq]at hw
         have hK':=hK.out;clear hK;simp only [Qr]at hd;obtain⟨hf12,_⟩:=hd;simp only [Qd,Act.put,List.setIfInBounds_toArray,List.set_cons_zero,List.set_cons_succ]at hK' ⊢;rw [yf12]at hf12;obtain⟨v3,D_,h_,i_,lL_,A_,n_,c_,lO_,B_,m_,d_,lM_,C_,k_,e_,x_,y_,z_,h4e⟩:=hf12;simp only [h4e]at hK' ⊢;go_simp;exact hK' _ _ (by rw [cEq];exact hw) (Q9 yM 13 (by kernel_rfl) xs W _) (by rw [yf13];(try simp only [↓reduceIte,OfNat.ofNat_ne_ofNat,Nat.reduceEqDiff]);exact trivial)
       refine Qf.cons [(12,some 45)] (by kernel_rfl) (fun xs W hw hd lst hl K hK=>?_) ?_
       . rw [cEq]at hw
         have hK':=hK.out;clear hK;simp only [Qr]at hd;obtain⟨hf12,_⟩:=hd;simp only [Qd,Act.put,List.setIfInBounds_toArray,List.set_cons_zero,List.set_cons_succ]at hK' ⊢;rw [yf12]at hf12;obtain⟨v3,D_,h_,i_,lL_,A_,n_,c_,lO_,B_,m_,d_,lM_,C_,k_,e_,x_,y_,z_,h4e⟩:=hf12;simp only [h4e]at hK' ⊢;go_simp;exact hK' _ _ (by rw [cEq];exact hw) (Q9 yM 14 (by kernel_rfl) xs W _) (by rw [yf14];(try simp only [↓reduceIte,OfNat.ofNat_ne_ofNat,Nat.reduceEqDiff]);exact⟨D_,h_,i_,lL_,A_,n_,c_,lO_,B_,m_,d_,lM_,C_,k_,e_,x_,y_,z_,rfl⟩)
       refine Qf.cons [(12,some 45)] (by kernel_rfl) (fun xs W hw hd lst hl K hK=>?_) ?_
       . rw [cEq]at hw
         have hK':=hK.out;clear hK;simp only [Qr]at hd;obtain⟨hf12,_⟩:=hd;simp only [Qd,Act.put,List.setIfInBounds_toArray,List.set_cons_zero,List.set_cons_succ]at hK' ⊢;rw [yf12]at hf12;obtain⟨v3,D_,h_,i_,lL_,A_,n_,c_,lO_,B_,m_,d_,lM_,C_,k_,e_,x_,y_,z_,h4e⟩:=hf12;simp only [h4e]at hK' ⊢;go_simp;exact hK' _ _ (by rw [cEq];exact hw) (Q9 yM 15 (by kernel_rfl) xs W _) (by rw [yf15];(try simp only [↓reduceIte,OfNat.ofNat_ne_ofNat,Nat.reduceEqDiff]);exact rfl)
       refine Qf.cons [] (by kernel_rfl) (fun xs W hw hd lst hl K hK=>?_) ?_
       . rw [cEq]at hw
         have hK':=hK.out;clear hK;simp only [Qd,Act.put,List.setIfInBounds_toArray,List.set_cons_zero,List.set_cons_succ]at hK' ⊢;go_simp;have hfa:Q0 W (W.alloc (.cells #[.slice none 0 0,.int .i64 0,.slice none 0 0,.int .i64 0,.slice none 0 0,.int .i64 0,.slice none 0 0,.int .i64 0,.int .i64 0,.int .i64 0] 32)):=(Upd.refl _ _).alloc _;have hna:∀b,b<W.heap.size->Qc (.pointer (some ⟨W.heap.size,0,none⟩)) b:=fun b hb=>Qc.ptr (by omega);have hsw:=hw.size;have hR:=And.intro hfa hna;refine hK' (_) (_) (by rw [cEq];exact hw.trans' hfa) (Qu yM 16 (by kernel_rfl) _ fun j hs hy=>?_) (by rw [yf16];(try simp only [↓reduceIte]);try exact⟨W.heap.size,rfl,hsw,Blk.new _ _ _⟩);by_cases hp:j∈[0,1,2,3,4,5,6,7,8,10,11,12,13,14,15,17,18,19]
         . exact yP j _ _ _ hp hy
         by_cases hj:20<=j
         . rw [yN j _ _ hj];trivial
         simp only [List.mem_cons,List.not_mem_nil,or_false]at hp;rcases(show j=9\/j=16 by omega)with rfl|rfl
         . rw [yf9]at hy ⊢;obtain⟨g,k1,k2,k3⟩:=hy;exact⟨g,k1,k2,k3.fresh hR.1⟩
         exact(Q5 hs (by kernel_rfl)).elim
       refine Qf.cons [(13,some 58)] (by kernel_rfl) (fun xs W hw hd lst hl K hK=>?_) ?_
       . rw [cEq]at hw
         have hK':=hK.out;clear hK;simp only [Qr]at hd;obtain⟨hf13,_⟩:=hd;simp only [Qd,Act.put,List.setIfInBounds_toArray,List.set_cons_zero,List.set_cons_succ]at hK' ⊢;rw [yf13]at hf13;go_simp;exact hK' _ _ (by rw [cEq];exact hw) (Q9 yM 17 (by kernel_rfl) xs W _) (by rw [yf17];(try simp only [↓reduceIte,OfNat.ofNat_ne_ofNat,Nat.reduceEqDiff]);exact trivial)
       refine Qf.cons [(16,some 11),(14,some 59)] (by kernel_rfl) (fun xs W hw hd lst hl K hK=>?_) ?_
       . rw [cEq]at hw
         have hK':=hK.out;clear hK;simp only [Qr]at hd;obtain⟨hf16,hf14,_⟩:=hd;simp only [Qd,Act.put,List.setIfInBounds_toArray,List.set_cons_zero,List.set_cons_succ]at hK' ⊢;rw [yf16]at hf16;rw [yf14]at hf14;obtain⟨g,h8e,hg8,b8⟩:=hf16;simp only [h8e]at hK' ⊢;obtain⟨D_,h_,i_,lL_,A_,n_,c_,lO_,B_,m_,d_,lM_,C_,k_,e_,x_,y_,z_,h6e⟩:=hf14;simp only [h6e]at hK' ⊢;(have hn:∀b,Qc (xs 16) b->b≠g:=fun b hb=>by rw [h8e]at hb;exact hb.ne');have cq0:=b8.cell 0;have cq1:=b8.cell 1;have cq2:=b8.cell 2;have cq3:=b8.cell 3;have cq4:=b8.cell 4;have cq5:=b8.cell 5;have cq6:=b8.cell 6;have cq7:=b8.cell 7;have cq8:=b8.cell 8;have cq9:=b8.cell 9;obtain⟨cz0,cz1,cz2,cz3,cz4,cz5,cz6,cz7,cz8,cz9⟩:=(b8).frozens10;simp at cq0 cq1 cq2 cq3 cq4 cq5 cq6 cq7 cq8 cq9;have hO:=b8.set10 (.slice D_ h_ i_) (.int .i64 lL_) (.slice A_ n_ c_) (.int .i64 lO_) (.slice B_ m_ d_) (.int .i64 lM_) (.slice C_ k_ e_) (.int .i64 x_) (.int .i64 y_) (.int .i64 z_);have us:=Ju W g (.slice D_ h_ i_) (.int .i64 lL_) (.slice A_ n_ c_) (.int .i64 lO_) (.slice B_ m_ d_) (.int .i64 lM_) (.slice C_ k_ e_) (.int .i64 x_) (.int .i64 y_) (.int .i64 z_);have HO:=hd_ hO;have US:=hd_ us;clear b8 hO us;go_simp;have hR:=US.out;refine hK' (undef) (_) (by rw [cEq];exact hw.trans US.out (fun b hb h=>by omega)) (Qu yM 18 (by kernel_rfl) _ fun j hs hy=>?_) (by rw [yf18];(try simp only [↓reduceIte]);try exact trivial);by_cases hp:j∈[0,1,2,3,4,5,6,7,8,10,11,12,13,14,15,17,18,19]
         . exact yP j _ _ _ hp hy
         by_cases hj:20<=j
         . rw [yN j _ _ hj];trivial
         simp only [List.mem_cons,List.not_mem_nil,or_false]at hp;rcases(show j=9\/j=16 by omega)with rfl|rfl
         . exact(Q5 hs (by kernel_rfl)).elim
         exact(Q5 hs (by kernel_rfl)).elim
       refine Qf.cons [(15,some 60)] (by kernel_rfl) (fun xs W hw hd lst hl K hK=>?_) ?_
       . rw [cEq]at hw
         have hK':=hK.out;clear hK;simp only [Qr]at hd;obtain⟨hf15,_⟩:=hd;simp only [Qd,Act.put,List.setIfInBounds_toArray,List.set_cons_zero,List.set_cons_succ]at hK' ⊢;rw [yf15]at hf15;simp only [hf15]at hK' ⊢;go_simp;exact hK' _ _ (by rw [cEq];exact hw) (Q9 yM 19 (by kernel_rfl) xs W _) (by rw [yf19];exact if_pos rfl)
       exact Qf.nil
     intro xs w4 hw hd;rw [cEq]at hw;simp only [Kg]at hd;obtain⟨fe0,fe1,fe2,fe3,fe4,fe5,fe6,fe7,fe8,fe9,fe10,fe11,fe12,fe13,fe14,fe15,fe16,fe17,fe18,fe19,_⟩:=hd;have fe0:=fe0 (by kernel_rfl);rw [yf0]at fe0;have fe1:=fe1 (by kernel_rfl);rw [yf1]at fe1;have fe2:=fe2 (by kernel_rfl);rw [yf2]at fe2;have fe3:=fe3 (by kernel_rfl);rw [yf3]at fe3;have fe4:=fe4 (by kernel_rfl);rw [yf4]at fe4;have fe5:=fe5 (by kernel_rfl);rw [yf5]at fe5;have fe6:=fe6 (by kernel_rfl);rw [yf6]at fe6;have fe7:=fe7 (by kernel_rfl);rw [yf7]at fe7;have fe8:=fe8 (by kernel_rfl);rw [yf8]at fe8;have fe10:=fe10 (by kernel_rfl);rw [yf10]at fe10;have fe12:=fe12 (by kernel_rfl);rw [yf12]at fe12;have fe15:=fe15 (by kernel_rfl);rw [yf15]at fe15;have fe17:=fe17 (by kernel_rfl);rw [yf17]at fe17;have fe18:=fe18 (by kernel_rfl);rw [yf18]at fe18;have fe19:=fe19 (by kernel_rfl);rw [yf19]at fe19;clear fe9 fe11 fe13 fe14 fe16;simp only [Qd,Act.put,List.setIfInBounds_toArray,List.set_cons_zero,List.set_cons_succ];generalize xs 0=xv0 at *;generalize xs 1=xv1 at *;generalize xs 2=xv2 at *;generalize xs 3=xv3 at *;generalize xs 4=xv4 at *;generalize xs 5=xv5 at *;generalize xs 6=xv6 at *;generalize xs 7=xv7 at *;generalize xs 8=xv8 at *;generalize xs 9=xv9 at *;generalize xs 10=xv10 at *;generalize xs 11=xv11 at *;generalize xs 12=xv12 at *;generalize xs 13=xv13 at *;generalize xs 14=xv14 at *;generalize xs 15=xv15 at *;generalize xs 16=xv16 at *;generalize xs 17=xv17 at *;generalize xs 18=xv18 at *;generalize xs 19=xv19 at *;subst fe0;subst fe1;subst fe2;subst fe3;subst fe4;subst fe5;subst fe6;subst fe7;subst fe8;subst fe10;subst fe15;subst fe19;clear yf0 yf1 yf2 yf3 yf4 yf5 yf6 yf7 yf8 yf9 yf10 yf11 yf12 yf13 yf14 yf15 yf16 yf17 yf18 yf19 yN yR yM yP cEq;have F4:=hd_ (F3.out.trans' hw);have FS4:=hd_ hw;clear hw;(try clear fe0);(try clear fe1);(try clear fe2);(try clear fe4);(try clear fe10);go_upto_region 7 with fail;have HCX4:=hd_ (fun W (f:Q0 w4 W)=>HCX.out W (F4.out.trans' f));have HRV4:=hd_ (fun W (f:Q0 w4 W)=>RV.out.fresh ((F23.out.trans' FS4.out).trans' f));have HLQ:=hd_ (show([]:List Value).length+eb.length<=2^40/\(Qb eb).length+1<=2^40 from by have h9:=HEB2.out.2.2.1;rw [Yy];simp only [List.length_nil];omega);have HNW4:=hd_ (fun W (f:Q0 w4 W) (Fz:Nat->Prop) (A:Option Addr) (n c:Nat) (hr:Rd W Fz A n (Qb (eb++[0])))=>Zi Fz A n c (eb++[0]) W hr (fun b hb=>by rcases List.mem_append.1 hb with hb|hb;exact HEB2.out.1 b hb;rw [List.mem_singleton]at hb;omega) (by have h9:=HEB2.out.2.2.1;rw [List.length_append,List.length_singleton];omega));obtain⟨S7,hS7⟩:=nm_ (QB (eb++[0]) 0 T r0 r1 r2);have he7:=(HEC2.out 0).2;rw [<-hS7]at he7;have HE7:=hd_ he7
     have HSD4:=hd_ (show ∀(F':Nat->Prop) (g:Nat) (W':World),Qi W' F' g (eb++[0]) 0->(∀b,F' b->b≠g)->w4.heap.size<=g->Q0 w4 W'->Calls Tryz.prog 18 #[.pointer (some ⟨g,0,none⟩),.agg #[.slice D h i,.int .i64 T.lL,.slice A n c,.int .i64 T.lO,.slice B m d,.int .i64 T.lM,.slice C k e,.int .i64 r0,.int .i64 r1,.int .i64 r2]] W' (Jh F' g (eb++[0]) S7 Tr W')from fun F' g W' hc hF hg f=>by
       have hss:=HSD.out F' g (eb++[0]) W' hc hF (by have:=F0.out.size;have:=F4.out.size;omega) (F4.out.trans' f);rw [<-hS7]at hss
       exact hss)
     clear hS7 he7;obtain⟨Cw,cEq⟩:=exC (fun W=>Q0 w4 W);obtain⟨Y,yA⟩:=exY [fun xs W=>(xs 0) = .slice Av eb.length cv,fun xs W=>Own W 5 (xs 1) (Qb eb)/\∀b,Value.ownBlock (xs 1)=some b->w4.heap.size<=b,fun xs W=>∃g,(xs 2) = .slice (some ⟨g,0,none⟩) 1 1/\w4.heap.size<=g/\Blk W g 5 #[.int .u8 0],fun xs W=>Own W 5 (xs 3) (Qb (eb++[0]))/\∀b,Value.ownBlock (xs 3)=some b->w4.heap.size<=b,fun xs W=>∃g,(xs 4) = .pointer (some ⟨g,0,none⟩)/\w4.heap.size<=g/\Qi W (fun q=>w4.heap.size<=q/\q≠g) g (eb++[0]) 0,fun xs W=>(xs 5) = .agg #[.slice D h i,.int .i64 T.lL,.slice A n c,.int .i64 T.lO,.slice B m d,.int .i64 T.lM,.slice C k e,.int .i64 r0,.int .i64 r1,.int .i64 r2],fun xs W=>∃v3 D_ h_ i_ lL_ A_ n_ c_ lO_ B_ m_ d_ lM_ C_ k_ e_ x_ y_ z_,(xs 6) = .tuple #[v3,.agg #[.slice D_ h_ i_,.int .i64 lL_,.slice A_ n_ c_,.int .i64 lO_,.slice B_ m_ d_,.int .i64 lM_,.slice C_ k_ e_,.int .i64 x_,.int .i64 y_,.int .i64 z_],.int .i64 S7.err],fun xs W=>∃v3 D_ h_ i_ lL_ A_ n_ c_ lO_ B_ m_ d_ lM_ C_ k_ e_ x_ y_ z_,(xs 7) = .tuple #[v3,.agg #[.slice D_ h_ i_,.int .i64 lL_,.slice A_ n_ c_,.int .i64 lO_,.slice B_ m_ d_,.int .i64 lM_,.slice C_ k_ e_,.int .i64 x_,.int .i64 y_,.int .i64 z_],.int .i64 S7.err],fun xs W=>True,fun xs W=>∃D_ h_ i_ lL_ A_ n_ c_ lO_ B_ m_ d_ lM_ C_ k_ e_ x_ y_ z_,(xs 9) = .agg #[.slice D_ h_ i_,.int .i64 lL_,.slice A_ n_ c_,.int .i64 lO_,.slice B_ m_ d_,.int .i64 lM_,.slice C_ k_ e_,.int .i64 x_,.int .i64 y_,.int .i64 z_],fun xs W=>(xs 10) = .int .i64 S7.err,fun xs W=>∃g,(xs 11) = .pointer (some ⟨g,0,none⟩)/\w4.heap.size<=g/\Blk W g 32 #[.slice none 0 0,.int .i64 0,.slice none 0 0,.int .i64 0,.slice none 0 0,.int .i64 0,.slice none 0 0,.int .i64 0,.int .i64 0,.int .i64 0],fun xs W=>True,fun xs W=>True,fun xs W=>(xs 14) = .int .i64 S7.err];have yf0:=yA 0;have yf1:=yA 1;have yf2:=yA 2;have yf3:=yA 3;have yf4:=yA 4;have yf5:=yA 5;have yf6:=yA 6;have yf7:=yA 7;have yf8:=yA 8;have yf9:=yA 9;have yf10:=yA 10;have yf11:=yA 11;have yf12:=yA 12;have yf13:=yA 13;have yf14:=yA 14;simp only [List.getD_cons_zero,List.getD_cons_succ]at yf0 yf1 yf2 yf3 yf4 yf5 yf6 yf7 yf8 yf9 yf10 yf11 yf12 yf13 yf14;(have yN:∀j xs W,15<=j->Y j xs W=True:=fun j xs W hj=>by rw [yA,Z3 _ _ _ hj])
     have yP:∀j xs W W',j∈[0,5,6,7,8,9,10,12,13,14]->Y j xs W->Y j xs W':=by
       intro j xs W W' hj hy;simp only [List.mem_cons,List.not_mem_nil,or_false]at hj;rcases hj with rfl|rfl|rfl|rfl|rfl|rfl|rfl|rfl|rfl|rfl
       . rw [yf0]at hy ⊢;exact hy
       . rw [yf5]at hy ⊢;exact hy
       . rw [yf6]at hy ⊢;exact hy
       . rw [yf7]at hy ⊢;exact hy
       . rw [yf8]at hy ⊢;exact hy
       . rw [yf9]at hy ⊢;exact hy
       . rw [yf10]at hy ⊢;exact hy
       . rw [yf12]at hy ⊢;exact hy
       . rw [yf13]at hy ⊢;exact hy
       rw [yf14]at hy ⊢;exact hy
     have yM:VQ [[0],[1],[2],[3],[4],[5],[6],[7],[],[9],[10],[11],[],[],[14]] Y:=by
       intro j xs xs' W hh hy;by_cases hj:15<=j
       . rw [yN j _ _ hj];trivial
       (have hj':j=0\/j=1\/j=2\/j=3\/j=4\/j=5\/j=6\/j=7\/j=8\/j=9\/j=10\/j=11\/j=12\/j=13\/j=14:=by omega);rcases hj' with rfl|rfl|rfl|rfl|rfl|rfl|rfl|rfl|rfl|rfl|rfl|rfl|rfl|rfl|rfl
       . rw [yf0]at hy ⊢;rw [<-hh 0 (by decide)];exact hy
       . rw [yf1]at hy ⊢;rw [<-hh 1 (by decide)];exact hy
       . rw [yf2]at hy ⊢;rw [<-hh 2 (by decide)];exact hy
       . rw [yf3]at hy ⊢;rw [<-hh 3 (by decide)];exact hy
       . rw [yf4]at hy ⊢;rw [<-hh 4 (by decide)];exact hy
       . rw [yf5]at hy ⊢;rw [<-hh 5 (by decide)];exact hy
       . rw [yf6]at hy ⊢;rw [<-hh 6 (by decide)];exact hy
       . rw [yf7]at hy ⊢;rw [<-hh 7 (by decide)];exact hy
       . rw [yf8]at hy ⊢;exact hy
       . rw [yf9]at hy ⊢;rw [<-hh 9 (by decide)];exact hy
       . rw [yf10]at hy ⊢;rw [<-hh 10 (by decide)];exact hy
       . rw [yf11]at hy ⊢;rw [<-hh 11 (by decide)];exact hy
       . rw [yf12]at hy ⊢;exact hy
       . rw [yf13]at hy ⊢;exact hy
       rw [yf14]at hy ⊢;rw [<-hh 14 (by decide)];exact hy
     clear yA
     have yR:∀j xs,15<=j->Y j xs (w4.drew):=by
       intro j xs hj;rcases(show 15<=j by omega)with hj;rw [yN _ _ _ hj];trivial
     refine Jf Cw (fun j=>if j=1 then [3,4,6,13]else if j=2 then [3,4,6,13]else if j=3 then [4,6,13]else if j=4 then [6,13]else if j=6 then [13]else if j=8 then [13]else if j=9 then [13]else if j=11 then [13]else []) Y [(0,some 62),(1,some 63),(2,some 64),(3,some 65),(4,some 66),(5,some 67),(6,some 68),(7,some 61),(8,some 69),(9,some 70),(10,some 71),(11,some 14),(12,some 13),(13,none),(14,some 15)] (by kernel_rfl) (by kernel_rfl) (by kernel_rfl) (by rw [cEq];exact(Upd.refl _ _).drew) (fun j hj=>yR j _ hj) ?_ ?_
     . refine Qf.cons [] (by kernel_rfl) (fun xs W hw hd lst hl K hK=>?_) ?_
       . rw [cEq]at hw
         have hK':=hK.out;clear hK;simp only [Qd,Act.put,List.setIfInBounds_toArray,List.set_cons_zero,List.set_cons_succ]at hK' ⊢;go_simp;exact hK' _ _ (by rw [cEq];exact hw) (Q9 yM 0 (by kernel_rfl) xs W _) (by rw [yf0];exact if_pos rfl)
       refine Qf.cons [(0,some 62)] (by kernel_rfl) (fun xs W hw hd lst hl K hK=>?_) ?_
       . rw [cEq]at hw
         have hK':=hK.out;clear hK;simp only [Qr]at hd;obtain⟨hf0,_⟩:=hd;simp only [Qd,Act.put,List.setIfInBounds_toArray,List.set_cons_zero,List.set_cons_succ]at hK' ⊢;rw [yf0]at hf0;simp only [hf0]at hK' ⊢;rw [if_pos (by rfl)];refine Xu W (.const (.slice none 0 0)) (.tmp 62) _ (by rfl) 5 _ 1 Tryz.underlying26 Zv rfl (.slice none 0 0) [] (by rfl) (Own.nil _ _) Av eb.length cv _ (by rfl) (HRV4.out W hw) (Zj eb) (by omega) HLQ.out.1 ?_;intro v' W' ho hg ha;have hfr:Q0 W W':=Upd.grown (Upd.refl _ _) hg (fun k hk _=>by cases hk);have hsz:=hw.size;have hR:=hfr;refine hK' (v') (W') (by rw [cEq];exact hw.trans' hfr) (Qu yM 1 (by kernel_rfl) _ fun j hs hy=>?_) (by rw [yf1];(try simp only [↓reduceIte]);try exact⟨by simpa using ho,fun b hb=>by rcases ha with ha|ha;rw [ha]at hb;cases hb;rw [ha]at hb;injection hb with hb;omega⟩);by_cases hp:j∈[0,5,6,7,8,9,10,12,13,14]
         . exact yP j _ _ _ hp hy
         by_cases hj:15<=j
         . rw [yN j _ _ hj];trivial
         simp only [List.mem_cons,List.not_mem_nil,or_false]at hp;rcases(show j=1\/j=2\/j=3\/j=4\/j=11 by omega)with rfl|rfl|rfl|rfl|rfl
         . exact(Q5 hs (by kernel_rfl)).elim
         . rw [yf2]at hy ⊢;obtain⟨g,k1,k2,k3⟩:=hy;exact⟨g,k1,k2,k3.fresh hR⟩
         . exact(Q5 hs (by kernel_rfl)).elim
         . exact(Q5 hs (by kernel_rfl)).elim
         rw [yf11]at hy ⊢;obtain⟨g,k1,k2,k3⟩:=hy;exact⟨g,k1,k2,k3.fresh hR⟩
       refine Qf.cons [] (by kernel_rfl) (fun xs W hw hd lst hl K hK=>?_) ?_
       . rw [cEq]at hw
         have hK':=hK.out;clear hK;simp only [Qd,Act.put,List.setIfInBounds_toArray,List.set_cons_zero,List.set_cons_succ]at hK' ⊢;go_simp;have hfa:Q0 W (W.alloc (.cells #[.int .u8 0] 5)):=(Upd.refl _ _).alloc _;have hR:=hfa;refine hK' (_) (_) (by rw [cEq];exact hw.trans' hfa) (Qu yM 2 (by kernel_rfl) _ fun j hs hy=>?_) (by rw [yf2];(try simp only [↓reduceIte]);try exact⟨W.heap.size,rfl,hw.size,Blk.new _ _ _⟩);by_cases hp:j∈[0,5,6,7,8,9,10,12,13,14]
         . exact yP j _ _ _ hp hy
         by_cases hj:15<=j
         . rw [yN j _ _ hj];trivial
         simp only [List.mem_cons,List.not_mem_nil,or_false]at hp;rcases(show j=1\/j=2\/j=3\/j=4\/j=11 by omega)with rfl|rfl|rfl|rfl|rfl
         . rw [yf1]at hy ⊢;exact⟨hy.1.fresh hR,hy.2⟩
         . exact(Q5 hs (by kernel_rfl)).elim
         . exact(Q5 hs (by kernel_rfl)).elim
         . exact(Q5 hs (by kernel_rfl)).elim
         rw [yf11]at hy ⊢;obtain⟨g,k1,k2,k3⟩:=hy;exact⟨g,k1,k2,k3.fresh hR⟩
       refine Qf.cons [(1,some 63),(2,some 64)] (by kernel_rfl) (fun xs W hw hd lst hl K hK=>?_) ?_
       . rw [cEq]at hw
         have hK':=hK.out;clear hK;simp only [Qr]at hd;obtain⟨hf1,hf2,_⟩:=hd;simp only [Qd,Act.put,List.setIfInBounds_toArray,List.set_cons_zero,List.set_cons_succ]at hK' ⊢;rw [yf1]at hf1;rw [yf2]at hf2;obtain⟨o1,k1⟩:=hf1;obtain⟨g2,h2e,hg2,b2⟩:=hf2;simp only [h2e]at hK' ⊢;rw [if_pos (by rfl)];have hr2:Rd W (fun _=>True) (some ⟨g2,0,none⟩) 1 (Qb [0]):=b2.rds;refine Xu W (.tmp 63) (.tmp 64) _ (by rfl) 5 _ 1 Tryz.underlying26 Zv rfl (xs 1) _ (by rfl) o1 (some ⟨g2,0,none⟩) 1 1 _ (by rfl) hr2 (Zj [0]) (by omega) HLQ.out.2 ?_;intro v' W' ho hg ha;have hsz:=hw.size;have hR:=And.intro hg o1;refine hK' (v') (W') (by rw [cEq];exact hw.grown hg (fun k hk hk2=>by have:=k1 k hk;omega)) (Qu yM 3 (by kernel_rfl) _ fun j hs hy=>?_) (by rw [yf3];(try simp only [↓reduceIte]);try exact⟨by simpa [Qb]using ho,fun b hb=>by rcases ha with ha|ha;rw [ha]at hb;exact k1 b hb;rw [ha]at hb;injection hb with hb;omega⟩);by_cases hp:j∈[0,5,6,7,8,9,10,12,13,14]
         . exact yP j _ _ _ hp hy
         by_cases hj:15<=j
         . rw [yN j _ _ hj];trivial
         simp only [List.mem_cons,List.not_mem_nil,or_false]at hp;rcases(show j=1\/j=2\/j=3\/j=4\/j=11 by omega)with rfl|rfl|rfl|rfl|rfl
         . exact(Q5 hs (by kernel_rfl)).elim
         . exact(Q5 hs (by kernel_rfl)).elim
         . exact(Q5 hs (by kernel_rfl)).elim
         . exact(Q5 hs (by kernel_rfl)).elim
         rw [yf11]at hy ⊢;obtain⟨g,k1,k2,k3⟩:=hy;exact⟨g,k1,k2,k3.grown hR.1 (hR.2.ne_blk k3 (by decide))⟩
       refine Qf.cons [(3,some 65)] (by kernel_rfl) (fun xs W hw hd lst hl K hK=>?_) ?_
       . rw [cEq]at hw
         have hK':=hK.out;clear hK;simp only [Qr]at hd;obtain⟨hf3,_⟩:=hd;simp only [Qd,Act.put,List.setIfInBounds_toArray,List.set_cons_zero,List.set_cons_succ]at hK' ⊢;rw [yf3]at hf3;go_simp;obtain⟨o3,k3⟩:=hf3;obtain⟨A3,c3,h3e,hc3,r3⟩:=o3.form;rw [Yy,List.length_append,List.length_singleton]at h3e r3;simp only [h3e]at hK' ⊢;go_simp;refine(HNW4.out W hw _ A3 _ c3 r3).mono ?_;rintro ez wz ⟨gz,rfl,hgz,fz,cuz⟩;have hsz:=hw.size;have hR:=fz;refine hK' (_) (wz) (by rw [cEq];exact hw.trans' fz) (Qu yM 4 (by kernel_rfl) _ fun j hs hy=>?_) (by rw [yf4];(try simp only [↓reduceIte]);try exact⟨gz,rfl,by omega,cuz.mono (fun b hb=>⟨by have:=hb.1;omega,hb.2⟩)⟩);by_cases hp:j∈[0,5,6,7,8,9,10,12,13,14]
         . exact yP j _ _ _ hp hy
         by_cases hj:15<=j
         . rw [yN j _ _ hj];trivial
         simp only [List.mem_cons,List.not_mem_nil,or_false]at hp;rcases(show j=1\/j=2\/j=3\/j=4\/j=11 by omega)with rfl|rfl|rfl|rfl|rfl
         . exact(Q5 hs (by kernel_rfl)).elim
         . exact(Q5 hs (by kernel_rfl)).elim
         . exact(Q5 hs (by kernel_rfl)).elim
         . exact(Q5 hs (by kernel_rfl)).elim
         rw [yf11]at hy ⊢;obtain⟨g,k1,k2,k3⟩:=hy;exact⟨g,k1,k2,k3.fresh hR⟩
       refine Qf.cons [] (by kernel_rfl) (fun xs W hw hd lst hl K hK=>?_) ?_
       . rw [cEq]at hw
         have hK':=hK.out;clear hK;simp only [Qd,Act.put,List.setIfInBounds_toArray,List.set_cons_zero,List.set_cons_succ]at hK' ⊢;have cl:=HCX4.out W hw;obtain⟨cz0,cz1,cz2,cz3,cz4,cz5,cz6,cz7,cz8,cz9⟩:=cl;go_simp;exact hK' _ _ (by rw [cEq];exact hw) (Q9 yM 5 (by kernel_rfl) xs W _) (by rw [yf5];exact if_pos rfl)
       refine Qf.cons [(4,some 66),(5,some 67)] (by kernel_rfl) (fun xs W hw hd lst hl K hK=>?_) ?_
       . rw [cEq]at hw
         have hK':=hK.out;clear hK;simp only [Qr]at hd;obtain⟨hf4,hf5,_⟩:=hd;simp only [Qd,Act.put,List.setIfInBounds_toArray,List.set_cons_zero,List.set_cons_succ]at hK' ⊢;rw [yf4]at hf4;rw [yf5]at hf5;simp only [hf5]at hK' ⊢;obtain⟨gc,h1e,hgc,cuc⟩:=hf4;simp only [h1e]at hK' ⊢;go_simp;have hdc:=HSD4.out _ gc W cuc (fun b hb=>hb.2) hgc hw;have hdc:=Q5y hdc;(have hcb:∃cs,Blk W gc 67 cs:=by obtain⟨_,_,hx,_⟩:=cuc;exact⟨_,hx⟩);obtain⟨cs,hcb⟩:=hcb
         have h8n:∀b,W.heap.size<=b->Qc (xs 11) b:=by
           intro b hb
           cases h8:lst 11 with
           | false=>rw [hl.out.2.2.1 11 h8];exact Qc.undef b
           | true =>
             have:=hl.out.2.2.2 11 h8 (fun m hm=>by have h10:m=13:=(by simpa using hm);subst h10;exact hl.out.2.1 13 (by kernel_rfl));rw [yf11]at this;obtain⟨g8,k1,_,k3⟩:=this;rw [k1];exact Qc.ptr (by have:=k3.lt;omega)
         refine hdc.mono ?_;rintro ez wz ⟨ud,v3,D_,h_,i_,lL_,A_,n_,c_,lO_,B_,m_,d_,lM_,C_,k_,e_,x_,y_,z_,rfl⟩;have hsw:=hw.size;have hR:=ud;refine hK' (_) (wz) (by rw [cEq];exact hw.trans ud (fun b hb e=>by omega)) (Qu yM 6 (by kernel_rfl) _ fun j hs hy=>?_) (by rw [yf6];(try simp only [↓reduceIte]);try exact⟨v3,D_,h_,i_,lL_,A_,n_,c_,lO_,B_,m_,d_,lM_,C_,k_,e_,x_,y_,z_,rfl⟩);by_cases hp:j∈[0,5,6,7,8,9,10,12,13,14]
         . exact yP j _ _ _ hp hy
         by_cases hj:15<=j
         . rw [yN j _ _ hj];trivial
         simp only [List.mem_cons,List.not_mem_nil,or_false]at hp;rcases(show j=1\/j=2\/j=3\/j=4\/j=11 by omega)with rfl|rfl|rfl|rfl|rfl
         . exact(Q5 hs (by kernel_rfl)).elim
         . exact(Q5 hs (by kernel_rfl)).elim
         . exact(Q5 hs (by kernel_rfl)).elim
         . exact(Q5 hs (by kernel_rfl)).elim
         rw [yf11]at hy ⊢;obtain⟨g,k1,k2,k3⟩:=hy;exact⟨g,k1,k2,k3.upd hR (fun e=>k3.ne_ hcb (by decide) e)⟩
       refine Qf.cons [(6,some 68)] (by kernel_rfl) (fun xs W hw hd lst hl K hK=>?_) ?_
       . rw [cEq]at hw
         have hK':=hK.out;clear hK;simp only [Qr]at hd;obtain⟨hf6,_⟩:=hd;simp only [Qd,Act.put,List.setIfInBounds_toArray,List.set_cons_zero,List.set_cons_succ]at hK' ⊢;rw [yf6]at hf6;go_simp;exact hK' _ _ (by rw [cEq];exact hw) (Q9 yM 7 (by kernel_rfl) xs W _) (by rw [yf7];(try simp only [↓reduceIte,OfNat.ofNat_ne_ofNat,Nat.reduceEqDiff]);exact hf6)
       refine Qf.cons [(7,some 61)] (by kernel_rfl) (fun xs W hw hd lst hl K hK=>?_) ?_
       . rw [cEq]at hw
         have hK':=hK.out;clear hK;simp only [Qr]at hd;obtain⟨hf7,_⟩:=hd;simp only [Qd,Act.put,List.setIfInBounds_toArray,List.set_cons_zero,List.set_cons_succ]at hK' ⊢;rw [yf7]at hf7;obtain⟨v3,D_,h_,i_,lL_,A_,n_,c_,lO_,B_,m_,d_,lM_,C_,k_,e_,x_,y_,z_,h4e⟩:=hf7;simp only [h4e]at hK' ⊢;go_simp;exact hK' _ _ (by rw [cEq];exact hw) (Q9 yM 8 (by kernel_rfl) xs W _) (by rw [yf8];(try simp only [↓reduceIte,OfNat.ofNat_ne_ofNat,Nat.reduceEqDiff]);exact trivial)
       refine Qf.cons [(7,some 61)] (by kernel_rfl) (fun xs W hw hd lst hl K hK=>?_) ?_
       . rw [cEq]at hw
         have hK':=hK.out;clear hK;simp only [Qr]at hd;obtain⟨hf7,_⟩:=hd;simp only [Qd,Act.put,List.setIfInBounds_toArray,List.set_cons_zero,List.set_cons_succ]at hK' ⊢;rw [yf7]at hf7;obtain⟨v3,D_,h_,i_,lL_,A_,n_,c_,lO_,B_,m_,d_,lM_,C_,k_,e_,x_,y_,z_,h4e⟩:=hf7;simp only [h4e]at hK' ⊢;go_simp;exact hK' _ _ (by rw [cEq];exact hw) (Q9 yM 9 (by kernel_rfl) xs W _) (by rw [yf9];(try simp only [↓reduceIte,OfNat.ofNat_ne_ofNat,Nat.reduceEqDiff]);exact⟨D_,h_,i_,lL_,A_,n_,c_,lO_,B_,m_,d_,lM_,C_,k_,e_,x_,y_,z_,rfl⟩)
       refine Qf.cons [(7,some 61)] (by kernel_rfl) (fun xs W hw hd lst hl K hK=>?_) ?_
       . rw [cEq]at hw
         have hK':=hK.out;clear hK;simp only [Qr]at hd;obtain⟨hf7,_⟩:=hd;simp only [Qd,Act.put,List.setIfInBounds_toArray,List.set_cons_zero,List.set_cons_succ]at hK' ⊢;rw [yf7]at hf7;obtain⟨v3,D_,h_,i_,lL_,A_,n_,c_,lO_,B_,m_,d_,lM_,C_,k_,e_,x_,y_,z_,h4e⟩:=hf7;simp only [h4e]at hK' ⊢;go_simp;exact hK' _ _ (by rw [cEq];exact hw) (Q9 yM 10 (by kernel_rfl) xs W _) (by rw [yf10];(try simp only [↓reduceIte,OfNat.ofNat_ne_ofNat,Nat.reduceEqDiff]);exact rfl)
       refine Qf.cons [] (by kernel_rfl) (fun xs W hw hd lst hl K hK=>?_) ?_
       . rw [cEq]at hw
         have hK':=hK.out;clear hK;simp only [Qd,Act.put,List.setIfInBounds_toArray,List.set_cons_zero,List.set_cons_succ]at hK' ⊢;go_simp;have hfa:Q0 W (W.alloc (.cells #[.slice none 0 0,.int .i64 0,.slice none 0 0,.int .i64 0,.slice none 0 0,.int .i64 0,.slice none 0 0,.int .i64 0,.int .i64 0,.int .i64 0] 32)):=(Upd.refl _ _).alloc _;have hna:∀b,b<W.heap.size->Qc (.pointer (some ⟨W.heap.size,0,none⟩)) b:=fun b hb=>Qc.ptr (by omega);have hsw:=hw.size;have hR:=And.intro hfa hna;refine hK' (_) (_) (by rw [cEq];exact hw.trans' hfa) (Qu yM 11 (by kernel_rfl) _ fun j hs hy=>?_) (by rw [yf11];(try simp only [↓reduceIte]);try exact⟨W.heap.size,rfl,hsw,Blk.new _ _ _⟩);by_cases hp:j∈[0,5,6,7,8,9,10,12,13,14]
         . exact yP j _ _ _ hp hy
         by_cases hj:15<=j
         . rw [yN j _ _ hj];trivial
         simp only [List.mem_cons,List.not_mem_nil,or_false]at hp;rcases(show j=1\/j=2\/j=3\/j=4\/j=11 by omega)with rfl|rfl|rfl|rfl|rfl
         . rw [yf1]at hy ⊢;exact⟨hy.1.fresh hR.1,hy.2⟩
         . rw [yf2]at hy ⊢;obtain⟨g,k1,k2,k3⟩:=hy;exact⟨g,k1,k2,k3.fresh hR.1⟩
         . rw [yf3]at hy ⊢;exact⟨hy.1.fresh hR.1,hy.2⟩
         . rw [yf4]at hy ⊢;obtain⟨g,k1,k2,k3⟩:=hy;exact⟨g,k1,k2,k3.fresh hR.1⟩
         exact(Q5 hs (by kernel_rfl)).elim
       refine Qf.cons [(8,some 69)] (by kernel_rfl) (fun xs W hw hd lst hl K hK=>?_) ?_
       . rw [cEq]at hw
         have hK':=hK.out;clear hK;simp only [Qr]at hd;obtain⟨hf8,_⟩:=hd;simp only [Qd,Act.put,List.setIfInBounds_toArray,List.set_cons_zero,List.set_cons_succ]at hK' ⊢;rw [yf8]at hf8;go_simp;exact hK' _ _ (by rw [cEq];exact hw) (Q9 yM 12 (by kernel_rfl) xs W _) (by rw [yf12];(try simp only [↓reduceIte,OfNat.ofNat_ne_ofNat,Nat.reduceEqDiff]);exact trivial)
       refine Qf.cons [(11,some 14),(9,some 70)] (by kernel_rfl) (fun xs W hw hd lst hl K hK=>?_) ?_
       . rw [cEq]at hw
         have hK':=hK.out;clear hK;simp only [Qr]at hd;obtain⟨hf11,hf9,_⟩:=hd;simp only [Qd,Act.put,List.setIfInBounds_toArray,List.set_cons_zero,List.set_cons_succ]at hK' ⊢;rw [yf11]at hf11;rw [yf9]at hf9;obtain⟨g,h8e,hg8,b8⟩:=hf11;simp only [h8e]at hK' ⊢;obtain⟨D_,h_,i_,lL_,A_,n_,c_,lO_,B_,m_,d_,lM_,C_,k_,e_,x_,y_,z_,h6e⟩:=hf9;simp only [h6e]at hK' ⊢;(have hn:∀b,Qc (xs 11) b->b≠g:=fun b hb=>by rw [h8e]at hb;exact hb.ne');have cq0:=b8.cell 0;have cq1:=b8.cell 1;have cq2:=b8.cell 2;have cq3:=b8.cell 3;have cq4:=b8.cell 4;have cq5:=b8.cell 5;have cq6:=b8.cell 6;have cq7:=b8.cell 7;have cq8:=b8.cell 8;have cq9:=b8.cell 9;obtain⟨cz0,cz1,cz2,cz3,cz4,cz5,cz6,cz7,cz8,cz9⟩:=(b8).frozens10;simp at cq0 cq1 cq2 cq3 cq4 cq5 cq6 cq7 cq8 cq9;have hO:=b8.set10 (.slice D_ h_ i_) (.int .i64 lL_) (.slice A_ n_ c_) (.int .i64 lO_) (.slice B_ m_ d_) (.int .i64 lM_) (.slice C_ k_ e_) (.int .i64 x_) (.int .i64 y_) (.int .i64 z_);have us:=Ju W g (.slice D_ h_ i_) (.int .i64 lL_) (.slice A_ n_ c_) (.int .i64 lO_) (.slice B_ m_ d_) (.int .i64 lM_) (.slice C_ k_ e_) (.int .i64 x_) (.int .i64 y_) (.int .i64 z_);have HO:=hd_ hO;have US:=hd_ us;clear b8 hO us;go_simp;have hR:=US.out;refine hK' (undef) (_) (by rw [cEq];exact hw.trans US.out (fun b hb h=>by omega)) (Qu yM 13 (by kernel_rfl) _ fun j hs hy=>?_) (by rw [yf13];(try simp only [↓reduceIte]);try exact trivial);by_cases hp:j∈[0,5,6,7,8,9,10,12,13,14]
         . exact yP j _ _ _ hp hy
         by_cases hj:15<=j
         . rw [yN j _ _ hj];trivial
         simp only [List.mem_cons,List.not_mem_nil,or_false]at hp;rcases(show j=1\/j=2\/j=3\/j=4\/j=11 by omega)with rfl|rfl|rfl|rfl|rfl
         . exact(Q5 hs (by kernel_rfl)).elim
         . exact(Q5 hs (by kernel_rfl)).elim
         . exact(Q5 hs (by kernel_rfl)).elim
         . exact(Q5 hs (by kernel_rfl)).elim
         exact(Q5 hs (by kernel_rfl)).elim
       refine Qf.cons [(10,some 71)] (by kernel_rfl) (fun xs W hw hd lst hl K hK=>?_) ?_
       . rw [cEq]at hw
         have hK':=hK.out;clear hK;simp only [Qr]at hd;obtain⟨hf10,_⟩:=hd;simp only [Qd,Act.put,List.setIfInBounds_toArray,List.set_cons_zero,List.set_cons_succ]at hK' ⊢;rw [yf10]at hf10;simp only [hf10]at hK' ⊢;go_simp;exact hK' _ _ (by rw [cEq];exact hw) (Q9 yM 14 (by kernel_rfl) xs W _) (by rw [yf14];exact if_pos rfl)
       exact Qf.nil
     intro xs w5 hw hd;rw [cEq]at hw;simp only [Kg]at hd;obtain⟨fe0,fe1,fe2,fe3,fe4,fe5,fe6,fe7,fe8,fe9,fe10,fe11,fe12,fe13,fe14,_⟩:=hd;have fe0:=fe0 (by kernel_rfl);rw [yf0]at fe0;have fe5:=fe5 (by kernel_rfl);rw [yf5]at fe5;have fe7:=fe7 (by kernel_rfl);rw [yf7]at fe7;have fe10:=fe10 (by kernel_rfl);rw [yf10]at fe10;have fe12:=fe12 (by kernel_rfl);rw [yf12]at fe12;have fe13:=fe13 (by kernel_rfl);rw [yf13]at fe13;have fe14:=fe14 (by kernel_rfl);rw [yf14]at fe14;clear fe1 fe2 fe3 fe4 fe6 fe8 fe9 fe11;simp only [Qd,Act.put,List.setIfInBounds_toArray,List.set_cons_zero,List.set_cons_succ];generalize xs 0=xv0 at *;generalize xs 1=xv1 at *;generalize xs 2=xv2 at *;generalize xs 3=xv3 at *;generalize xs 4=xv4 at *;generalize xs 5=xv5 at *;generalize xs 6=xv6 at *;generalize xs 7=xv7 at *;generalize xs 8=xv8 at *;generalize xs 9=xv9 at *;generalize xs 10=xv10 at *;generalize xs 11=xv11 at *;generalize xs 12=xv12 at *;generalize xs 13=xv13 at *;generalize xs 14=xv14 at *;subst fe0;subst fe5;subst fe10;subst fe14;clear yf0 yf1 yf2 yf3 yf4 yf5 yf6 yf7 yf8 yf9 yf10 yf11 yf12 yf13 yf14 yN yR yM yP cEq;have F5:=hd_ (F4.out.trans' hw);have h7:=HE7.out;rw [h7];clear hw h7 hqm hqi huw hnz heb;rcases HE6.out with h6|h6|h6|h6
     all_goals
       rw [h6];clear h6;go_wp2_with fail;refine(HKN.out _).mono ?_;rintro e9 w9 ⟨rfl,f9⟩;have F9:=hd_ (F5.out.trans' f9);clear f9;go_wp2_with fail;(try go_ret);exact hR.out _ _ ⟨rfl,F0.out.trans' F9.out⟩
   (have hne:(s0 != 0)=true:=by simpa using he);(have hne2:(s0 == 0)=false:=by simpa using he);have hee:=HEN.out w1 F1.out;simp only [if_neg he]at hee;have HEE:=hd_ hee;clear HEC HEB HEN hee he;go_wp2_with fail;refine HEE.out.mono ?_;rintro e2 w2 ⟨f2,rfl⟩;have F2:=hd_ (F1.out.trans' f2);clear f2 HEE;go_upto_region 4 with fail;obtain⟨w3,hw3⟩:=nm_ (w2.alloc (.cells #[.slice none 0 0,.int .i64 0,.slice none 0 0,.int .i64 0,.slice none 0 0,.int .i64 0,.slice none 0 0,.int .i64 0,.int .i64 0,.int .i64 0] 32));simp only [<-hw3];have F3:=hd_ (F2.out.trans' (show Q0 w2 w3 by rw [hw3];exact(Upd.refl _ _).alloc _));clear hw3;go_wp2_with fail;refine(HKN.out _).mono ?_;rintro e4 w4 ⟨rfl,f4⟩;have F4:=hd_ ((F3.out).trans' f4);clear f4;go_wp2_with fail;(try go_ret);exact hR.out _ _ ⟨rfl,F0.out.trans' F4.out⟩
 have hd:decide (h<=300/\n<=300/\m<=300/\k<=300)=false:=decide_eq_false hfew;rw [hd]at HFW;clear hbig hfew hd hz;clear hw0 hH f0 bc p0 p1 p2 p3 f1 f2 f3 hL hfit hTr hNL hNO hNM hll;refine Q7 fun R hR=>?_;obtain⟨u0,u1,u2,u3,u4,u5,u6,u7,u8,u9⟩:=HCX.out w0 (Upd.refl _ _);go_enter Tryz.func9,Tryz.ntmps9;go_upto_region 1 with fail;simp only [<-HH.out,<-HW.out];go_wp2_with fail;refine(HFW.out _).mono ?_;rintro e1 w1 ⟨rfl,f1⟩;have F1:=hd_ f1;clear f1;go_wp2_with fail;refine(HKN.out _).mono ?_;rintro e2 w2 ⟨rfl,f2⟩;have F2:=hd_ ((F1.out).trans' f2);clear f2;go_wp2_with fail;(try go_ret);exact hR.out _ _ ⟨rfl,F0.out.trans' F2.out⟩
end Go.Proofs.YtjfdaphjijfieaaGreat
