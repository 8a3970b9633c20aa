/-
  Joined texts, part 22: contracts and plain lemmas.
  Conditions: none beyond those of each theorem.
-/
import Derived.Test.YtjfdaphjijfieaaGreatN21
import Derived.Test.YtjfdaphjijfieaaGreatN6
set_option maxHeartbeats 2000000
set_option linter.unusedVariables false
set_option linter.unusedSimpArgs false
set_option maxRecDepth 100000
universe u
namespace Go.Proofs.YtjfdaphjijfieaaGreat
open Go.RowKit
def Q6V (w w':World) (e:Ending) (lg:Int) (N:List Int) (x:Int):Prop :=
  ∃g c,e = .returned (.tuple #[.agg #[.int .i64 lg,.slice (some ⟨g,0,none⟩) N.length c],.int .i64 x])/\Rd w' (fun b=>b=g) (some ⟨g,0,none⟩) N.length (Q1 N)/\w.heap.size<=g/\Q0 w w'
def Q71 (N:List Int) (s tot d:Int) (f:Nat) (M:List Int):List Int:=if d=1 then upN N s tot f M else dnN N s tot f M
def Q76 (d:Int) (p14 p2 p9 p10 p6:Nat):Array Value :=
  if d=1 then #[.func (.func 203) #[] #[.pointer (some ⟨p2,0,none⟩)],Q6l p2 p9 p10 p6,.int .i64 1]
  else #[.func (.func 204) #[] #[.pointer (some ⟨p10,0,none⟩)],.func (.func 205) #[] #[.pointer (some ⟨p14,0,none⟩)],.int .i64 (-1)]
def Q72 (w:World) (v:Value) (ts:List Ch):Prop:=w.ownsRow 0 226 4 v ts.length (ts.flatMap Ch.vals)
section
variable (w:World)
end
def Q6L (w:World) (t:Ch) (c:Int × Int × List Int):Prop:=t.mo=c.1/\t.lg=c.2.1/\∃G,Rd w G t.A t.n (Q1 c.2.2)
def Q6m (p x lg:Int) (N C:List Int):List (Int × Int × List Int) :=
  (3,lg,N)::(0,Jk p,JV p)::if Q0D C (max (Q0p C (min x 9)) 0)then [(if Q0p C (min x 9)=0 then 1 else 2,max (Q0p C (min x 9)) 0,Q6C C (max (Q0p C (min x 9)) 0).toNat)]else []
def Q6M (w w':World) (e:Ending) (cs:List (Int × Int × List Int)):Prop :=
  ∃ts g cc,e = .returned (.slice (some ⟨g,0,none⟩) ts.length cc)/\Chs w' g 0 ts/\ts.length=cs.length/\(∀(j:Nat) t c,ts[j]?=some t->cs[j]?=some c->Q6L w' t c)/\Q0 w w'
def Q6n (p:Int) (C:List Int) (c:Int × Int × List Int):Option Int :=
  if(Q6k c.1 p c.2.1 c.2.2).1=0/\(Q5g c.2.1 c.2.2 C).2=0 then some ((Q5g c.2.1 c.2.2 C).1+8*(Q6k c.1 p c.2.1 c.2.2).2.length)else none
def Q6N (p:Int) (C:List Int) (cs:List (Int × Int × List Int)):List ((Int × Int × List Int) × Int):=cs.filterMap fun c=>(Q6n p C c).map fun x=>(c,x)
def VV:(Int × Int × List Int) × Int->List ((Int × Int × List Int) × Int)->(Int × Int × List Int) × Int
  | t,[]=>t
  | t,s::l=>VV (if s.2<t.2 then s else t) l
def Q6W (p lg:Int) (N C:List Int):Int × Int × List Int × Int :=
  if p<0\/2<p then(0,0,[],2)else
  match Q6N p C (Q6m p (QH p) lg N C)with
  | []=>(0,0,[],2)
  | c::l=>((VV c l).1.1,(VV c l).1.2.1,(VV c l).1.2.2,0)
theorem KI {sy lb:Int} {L:List Bool} {x:Int} (h:QT sy lb L = .error x):x≠0:=by
 unfold QT at h;simp only at h;split at h
 . injection h with h;subst h;assumption
 split at h
 . injection h with h;omega
 cases h
theorem Q0b {N:List Int} {v:Int} (h:v∈N):QZ v<=QY N:=by
 induction N with
 | nil=>cases h
 | cons x l ih =>
   rw [Yy];have h1:=YX l;have h2:=JG x;rcases List.mem_cons.1 h with rfl|h
   . omega
   have:=ih h;omega
theorem Q3m (s:Nat):(JL s)[(JL s).length-1]?=some 1:=by unfold JL;simp
theorem Q2n {s:Nat} {sy lb:Int} (h:(s:Int)+1<=sy) (hb:0<=lb):Qg 0 (JL s) sy lb:=by
 have hz:∀k:Nat,QY (List.replicate k 0)=0:=by
   intro k
   induction k with
   | zero=>rfl
   | succ k ih=>rw [List.replicate_succ,Yy,ih];decide
 refine⟨by omega,hb,by omega,by simp,by simpa using h,by rw [Q3m];simp,?_,?_⟩
 . intro x hx
   unfold JL at hx;rcases List.mem_append.1 hx with hx|hx
   . have:=List.eq_of_mem_replicate hx;omega
   simp at hx;omega
 unfold JL;rw [Zc,hz];decide
theorem Q2o {p:Int} (h:0<=p/\p<=2):Qg (Jk p) (JV p) (Qj p) (QH p):=by
 rcases Jd h with rfl|rfl|rfl
 . decide +kernel
 . decide +kernel
 decide +kernel
def Zi (G:Nat->Prop) (at_:Nat) (w w':World) (e:Ending) (r:Int × Int × List Int × Nat):Prop :=
  ∃(A:Option Addr) (n c:Nat) (q:Int),e = .returned (.tuple #[.agg #[.int .i64 r.2.1,.slice A n c],.int .i64 q,.int .i64 r.1])/\Rd w' (fun b=>w.heap.size<=b\/(G b/\b<w.heap.size)) A n (Q1 r.2.2.1)/\Q0 w w'/\(r.1=0->q=(at_:Int)+r.2.2.2)
theorem Xm {bs:List Nat} (at_:Nat) (h:bs.length<=1024):Yq bs at_=bs.drop at_:=by
 unfold Yq;rw [List.take_of_length_le (by rw [List.length_drop];omega)]
theorem Zd (w:World) (lg:Int) (B:Option Addr) (m d:Nat) :
   ∃w0 H,w0=(w.alloc (.cells #[.int .i64 lg,.slice B m d] 29)).alloc (.cells #[.int .i64 0,.slice none 0 0] 29)/\H=w.heap.size/\Q0 w w0/\Blk w0 H 29 #[.int .i64 lg,.slice B m d]/\Blk w0 (H+1) 29 #[.int .i64 0,.slice none 0 0] /\
     (w.alloc (.cells #[.int .i64 lg,.slice B m d] 29)).heap.size=H+1:=by
 refine⟨_,_,rfl,rfl,((Upd.refl _ _).alloc _).alloc _,(Q2 rfl _ _).alloc _,Q2 (by simp) _ _,by simp⟩
theorem Q3n (G:Nat->Prop) (A B:Option Addr) (n c m d at_:Nat) (p lg:Int) (w:World) (hp:0<=p/\p<=2) :
   Calls Tryz.prog 41 #[.slice A n c,.int .i64 (at_:Nat),.int .i64 0,.int .i64 p,.agg #[.int .i64 lg,.slice B m d]] w fun e w'=>Zi G at_ w w' e (0,Jk p,JV p,0):=by
 obtain⟨w0,H,hw0,hH,f0,bl,bt,hz1⟩:=Zd w lg B m d;have hb:=YR p;have HS:=hd_ (fun W=>ZH p W hp);have HOF:=hd_ (fun W=>Q5B p W hp);(have hs0:(Qj p == 0)=false:=by simp;omega);(have hs1:¬Qj p=0:=by omega);have HBT:=hd_ bt;have F0:=hd_ f0;have HW:=hd_ hw0;have HH:=hd_ hH;have HBL:=hd_ bl;clear hw0 hH f0 bt bl hb hp;generalize Qj p=sy at *;generalize Jk p=pl at *;generalize JV p=M at *;refine Q6 fun R hR=>?_;go_enter Tryz.func41,Tryz.ntmps41;go_upto_region 1 with fail;simp only [hz1,<-HH.out,<-HW.out];go_wp2_with fail;refine(HS.out _).mono ?_;rintro e wx ⟨rfl,rfl⟩;go_wp2_with fail;refine(HOF.out _).mono ?_;rintro e w2 ⟨g2,rfl,r2,hg2,f2⟩;have bt2:=HBT.out.fresh f2;have t0:=bt2.cell 0;have t1:=bt2.cell 1;have z0:=bt2.frozen 0;have z1:=bt2.frozen 1;simp at t0 t1;have HBT2:=hd_ bt2;have R2:=hd_ (r2.mono (G:=fun b=>b≠H+1/\H<=b) (fun b hb=>by have:=HBT.out.lt;exact⟨by omega,by omega⟩));have F2:=hd_ (F0.out.trans' f2);clear bt2 r2 f2 hg2;go_wp2_with fail;refine bodyPost_ret (Qq rfl _ _ (H+1) _ _ _ rfl ((HBT2.out.set_ 0 (.int .i64 pl)).set_ 1 (.slice (some ⟨g2,0,none⟩) M.length M.length)) Tryz.underlying29 rfl (by kernel_rfl)) rfl ?_;have u3:=Qz w2 (H+1) (.int .i64 pl) (.slice (some ⟨g2,0,none⟩) M.length M.length);exact hR.out _ _ ⟨some ⟨g2,0,none⟩,_,_,at_,rfl,(R2.out.upd u3 (fun b _ h h'=>h.1 h')).mono (fun _ h=>.inl (by have:=HH.out;have:=h.2;omega)),F2.out.trans u3 (fun b hb h=>by have:=HH.out;omega),fun _=>(Int.add_zero _).symm⟩
theorem Q3o (G:Nat->Prop) (A B:Option Addr) (n c m d at_:Nat) (p lg:Int) (N:List Int) (w:World) (hs:Rd w G B m (Q1 N)) (hfit:Fit N) (hm:(m:Int)<=1099511627776) (hp:0<=p/\p<=2) :
   Calls Tryz.prog 41 #[.slice A n c,.int .i64 (at_:Nat),.int .i64 3,.int .i64 p,.agg #[.int .i64 lg,.slice B m d]] w fun e w'=>Zi G at_ w w' e (if Qg lg N (Qj p) (QH p)then(0,lg,N,0)else(13,0,[],0)):=by
 obtain⟨w0,H,hw0,hH,f0,bl,bt,hz1⟩:=Zd w lg B m d;have hb:=YR p;have HS:=hd_ (fun W=>ZH p W hp);have HMY:=hd_ (Q4n G B m d lg p N w0 (hs.fresh f0) hfit hm hp);(have hs0:(Qj p == 0)=false:=by simp;omega);(have hs1:¬Qj p=0:=by omega);obtain⟨t0,t1⟩:=(bl).cells2;have R0:=hd_ (hs.both.fresh f0);have HBT:=hd_ bt;have F0:=hd_ f0;have HW:=hd_ hw0;have HH:=hd_ hH;have HBL:=hd_ bl;clear hw0 hH f0 bt bl hb hp hs hfit;by_cases hv:Qg lg N (Qj p) (QH p)
 . rw [decide_eq_true hv]at HMY
   simp only [if_pos hv];clear hv;generalize Qj p=sy at *;refine Q6 fun R hR=>?_;go_enter Tryz.func41,Tryz.ntmps41;go_upto_region 1 with fail;simp only [hz1,<-HH.out,<-HW.out];go_wp2_with fail;refine(HS.out _).mono ?_;rintro e wx ⟨rfl,rfl⟩;go_wp2_with fail;refine HMY.out.mono ?_;rintro e w2 ⟨rfl,f2⟩;have bt2:=HBT.out.fresh f2;have y0:=bt2.cell 0;have y1:=bt2.cell 1;have z0:=bt2.frozen 0;have z1:=bt2.frozen 1;simp at y0 y1;have bl2:=HBL.out.fresh f2;obtain⟨x0,x1⟩:=(bl2).cells2;have HBT2:=hd_ bt2;have R2:=hd_ ((R0.out.mono (G:=fun b=>b≠H+1/\(G b/\b<w.heap.size)) (fun b hb=>⟨by have:=HH.out;have:=hb.2;omega,hb⟩)).fresh f2);have F2:=hd_ (F0.out.trans' f2);clear bt2 f2 bl2 t0 t1;go_wp2_with fail;refine bodyPost_ret (Qq rfl _ _ (H+1) _ _ _ rfl ((HBT2.out.set_ 0 (.int .i64 lg)).set_ 1 (.slice B m d)) Tryz.underlying29 rfl (by kernel_rfl)) rfl ?_;have u3:=Qz w2 (H+1) (.int .i64 lg) (.slice B m d);exact hR.out _ _ ⟨B,_,_,at_,rfl,(R2.out.upd u3 (fun b _ h h'=>h.1 h')).mono (fun _ h=>.inr h.2),F2.out.trans u3 (fun b hb h=>by have:=HH.out;omega),fun _=>(Int.add_zero _).symm⟩
 rw [decide_eq_false hv]at HMY;simp only [if_neg hv];clear hv;generalize Qj p=sy at *;refine Q6 fun R hR=>?_;go_enter Tryz.func41,Tryz.ntmps41;go_upto_region 1 with fail;simp only [hz1,<-HH.out,<-HW.out];go_wp2_with fail;refine(HS.out _).mono ?_;rintro e wx ⟨rfl,rfl⟩;go_wp2_with fail;refine HMY.out.mono ?_;rintro e w2 ⟨rfl,f2⟩;have bt2:=HBT.out.fresh f2;have y0:=bt2.cell 0;have y1:=bt2.cell 1;have z0:=bt2.frozen 0;have z1:=bt2.frozen 1;simp at y0 y1;have HBT2:=hd_ bt2;have F2:=hd_ (F0.out.trans' f2);clear bt2 f2 t0 t1;go_wp2_with fail;refine bodyPost_ret (Qq rfl _ _ (H+1) _ _ _ rfl ((HBT2.out.set_ 0 (.int .i64 0)).set_ 1 (.slice none 0 0)) Tryz.underlying29 rfl (by kernel_rfl)) rfl ?_;have u3:=Qz w2 (H+1) (.int .i64 0) (.slice none 0 0);exact hR.out _ _ ⟨none,0,0,at_,rfl,Rd.nil _ _ _,F2.out.trans u3 (fun b hb h=>by have:=HH.out;omega),fun h=>by cases h⟩
theorem Q3p (F G:Nat->Prop) (A B:Option Addr) (n c m d at_:Nat) (p lg:Int) (bs:List Nat) (w:World) (hr:Rd w F A n (Qi bs)) (hlt:∀b∈bs,b<256) (hn:n<=500) (hat:at_<=n) (hp:0<=p/\p<=2) :
   Calls Tryz.prog 41 #[.slice A n c,.int .i64 (at_:Nat),.int .i64 1,.int .i64 p,.agg #[.int .i64 lg,.slice B m d]] w fun e w'=>Zi G at_ w w' e ((JD bs at_ (Qj p)).1,0,(JD bs at_ (Qj p)).2.1,(JD bs at_ (Qj p)).2.2):=by
 obtain⟨w0,H,hw0,hH,f0,bl,bt,hz1⟩:=Zd w lg B m d;(have hL:bs.length=n:=by have:=hr.1;simpa using this);have hb:=YR p;have HS:=hd_ (fun W=>ZH p W hp);(have hs0:(Qj p == 0)=false:=by simp;omega);(have hs1:¬Qj p=0:=by omega);have t0:=bt.cell 0;have t1:=bt.cell 1;have z0:=bt.frozen 0;have z1:=bt.frozen 1;simp at t0 t1;have HBT:=hd_ bt;have F0:=hd_ f0;have HW:=hd_ hw0;have HH:=hd_ hH;have R0:=hd_ (hr.fresh f0);clear hw0 hH f0 bt bl hp hr;unfold JD;by_cases hk:at_<bs.length
 . simp only [if_pos hk]
   (have hn0:at_<n:=by omega);have hx:=Xk hlt at_;obtain⟨b,o,rfl,_,_,hc⟩:=R0.out.at_ (k:=at_) hn0
   have hz:(Qi bs)[at_]?=some (.int .u8 ((bs[at_]?.getD 0:Nat):Int)):=by
     simp only [Qi,List.getElem?_map];rw [List.getElem?_eq_getElem hk];rfl
   rw [hz]at hc;(try simp at hc);(have hzz:bs[at_]?.getD 0=bs[at_]:=by rw [List.getElem?_eq_getElem hk];rfl);rw [hzz]at hx hc ⊢;(have hn0I:¬(n:Int)<=at_:=by omega);(have hn0J:(at_:Int)<n:=by omega);(have hnI:(n:Int)<=500:=by omega);generalize bs[at_]=z at *;have hwz:IntKind.i64.wrap (z:Int)=z:=IntWalk.i64_in _ (by omega);clear hz hzz hlt hk hL;by_cases hcmp:Qj p<=(z:Int)
   . simp only [if_pos hcmp]
     have hcb:decide (Qj p<=(z:Int))=true:=decide_eq_true hcmp;generalize Qj p=sy at *;refine Q6 fun R hR=>?_;go_enter Tryz.func41,Tryz.ntmps41;go_upto_region 1 with fail;simp only [hz1,<-HH.out,<-HW.out];go_wp2_with fail;refine(HS.out _).mono ?_;rintro e wx ⟨rfl,rfl⟩;go_upto_region 9 with fail;go_quiet ((go_at_call 62;exact Calls.quiet_of_same ((HS.out _).mono fun e w' h=>⟨h.1,h.2.symm⟩)));go_wp2_with fail;refine bodyPost_ret (Qq rfl _ _ (H+1) _ _ _ rfl (((HBT.out.drewN nq).set_ 0 (.int .i64 0)).set_ 1 (.slice none 0 0)) Tryz.underlying29 rfl (by kernel_rfl)) rfl ?_;have u3:=Qz (w0.drewN nq) (H+1) (.int .i64 0) (.slice none 0 0);exact hR.out _ _ ⟨none,0,0,at_,rfl,Rd.nil _ _ _,(F0.out.drewN nq).trans u3 (fun b hb h=>by have:=HH.out;omega),fun h=>by cases h⟩
   simp only [if_neg hcmp];have hcb:decide (Qj p<=(z:Int))=false:=decide_eq_false hcmp;have HON:=hd_ (fun W=>Q4x z W (by omega));generalize Qj p=sy at *;refine Q6 fun R hR=>?_;go_enter Tryz.func41,Tryz.ntmps41;go_upto_region 1 with fail;simp only [hz1,<-HH.out,<-HW.out];go_wp2_with fail;refine(HS.out _).mono ?_;rintro e wx ⟨rfl,rfl⟩;go_upto_region 9 with fail;go_quiet ((go_at_call 62;exact Calls.quiet_of_same ((HS.out _).mono fun e w' h=>⟨h.1,h.2.symm⟩)));go_wp2_with fail;refine(HON.out _).mono ?_;rintro e w2 ⟨A2,c2,rfl,r2,f2⟩;rw [JH]at r2;have bt2:=(HBT.out.drewN nq).fresh f2;have t0:=bt2.cell 0;have t1:=bt2.cell 1;have z0:=bt2.frozen 0;have z1:=bt2.frozen 1;simp at t0 t1;have HBT2:=hd_ bt2;have R2:=hd_ (r2.mono (G:=fun b=>b≠H+1/\H<=b) (fun b hb=>by have:=(HBT.out.drewN nq).lt;exact⟨by omega,by omega⟩));have F2:=hd_ ((F0.out.drewN nq).trans' f2);clear bt2 r2 f2;go_wp2_with fail;refine bodyPost_ret (Qq rfl _ _ (H+1) _ _ _ rfl ((HBT2.out.set_ 0 (.int .i64 0)).set_ 1 (.slice A2 (z+1) c2)) Tryz.underlying29 rfl (by kernel_rfl)) rfl ?_;have u3:=Qz w2 (H+1) (.int .i64 0) (.slice A2 (z+1) c2);exact hR.out _ _ ⟨A2,_,_,(at_:Int)+1,rfl,(R2.out.upd u3 (fun b _ h h'=>h.1 h')).mono (fun _ h=>.inl (by have:=HH.out;have:=h.2;omega)),F2.out.trans u3 (fun b hb h=>by have:=HH.out;omega),fun _=>rfl⟩
 simp only [if_neg hk];(have hn0:n<=at_:=by omega);(have hn0I:(n:Int)<=at_:=by omega);(have hatI:(at_:Int)<=500:=by omega);generalize Qj p=sy at *;refine Q6 fun R hR=>?_;go_enter Tryz.func41,Tryz.ntmps41;go_upto_region 1 with fail;simp only [hz1,<-HH.out,<-HW.out];go_wp2_with fail;refine(HS.out _).mono ?_;rintro e wx ⟨rfl,rfl⟩;go_wp2_with fail;refine bodyPost_ret (Qq rfl _ _ (H+1) _ _ _ rfl ((HBT.out.set_ 0 (.int .i64 0)).set_ 1 (.slice none 0 0)) Tryz.underlying29 rfl (by kernel_rfl)) rfl ?_;have u3:=Qz w0 (H+1) (.int .i64 0) (.slice none 0 0);exact hR.out _ _ ⟨none,0,0,at_,rfl,Rd.nil _ _ _,F0.out.trans u3 (fun b hb h=>by have:=HH.out;omega),fun h=>by cases h⟩
theorem Q3q (F G:Nat->Prop) (A B:Option Addr) (n c m d at_:Nat) (p lg:Int) (bs:List Nat) (w:World) (hr:Rd w F A n (Qi bs)) (hlt:∀b∈bs,b<256) (hn:n<=500) (hat:at_<=n) (hcap:n<=c) (hp:0<=p/\p<=2) :
   Calls Tryz.prog 41 #[.slice A n c,.int .i64 (at_:Nat),.int .i64 2,.int .i64 p,.agg #[.int .i64 lg,.slice B m d]] w fun e w'=>Zi G at_ w w' e (YO bs at_ (Qj p) (QH p)):=by
 obtain⟨w0,H,hw0,hH,f0,bl,bt,hz1⟩:=Zd w lg B m d;(have hL:bs.length=n:=by have:=hr.1;simpa using this);have hb:=YR p;have HS:=hd_ (fun W=>ZH p W hp);have HX:=hd_ (fun W=>Q0C p W hp);(have hs0:(Qj p == 0)=false:=by simp;omega);(have hs1:¬Qj p=0:=by omega);have hsb:Yq bs at_=bs.drop at_:=Xm at_ (by omega);have HG:=hd_ (Q3f F A n c at_ bs (Qj p) (QH p) w0 (hr.fresh f0) hlt hn hcap hat);have HBT:=hd_ bt;have F0:=hd_ f0;have HW:=hd_ hw0;have HH:=hd_ hH;clear hw0 hH f0 bt bl hp hr hb hL hlt;generalize Qj p=sy at *;generalize QH p=px at *;unfold J4 at HG
 have HG2:Hid (Calls Tryz.prog 65 #[.slice A n c,.int .i64 (at_:Nat),.int .i64 sy,.int .i64 px] w0 fun e w'=>∃(A3:Option Addr) (n3 c3:Nat) (q:Int),e = .returned (.tuple #[.agg #[.int .i64 (YO bs at_ sy px).2.1,.slice A3 n3 c3],.int .i64 q,.int .i64 (YO bs at_ sy px).1]) /\
     Rd w' (fun b=>b≠H+1/\H<=b) A3 n3 (Q1 (YO bs at_ sy px).2.2.1)/\Q0 w0 w'/\((YO bs at_ sy px).1=0->q=(at_:Int)+(YO bs at_ sy px).2.2.2)):=by
   refine hd_ (HG.out.mono fun e w' h=>?_);obtain⟨f,h⟩:=h;unfold YO;rw [hsb]
   cases hd:QT sy px (Q9 (bs.drop at_))with
   | error x =>
     rw [hd]at h;exact⟨none,0,0,at_,h,Rd.nil _ _ _,f,fun hx=>absurd hx (KI hd)⟩
   | ok D =>
     obtain⟨lg',N',k'⟩:=D;rw [hd]at h;obtain⟨v,he,ho,hk,hl⟩:=h;obtain⟨A3,n3,c3,rfl,hn3⟩:=ho.form';have hrd:=(ho.rd rfl).2.2;rw [<-hn3.out]at hrd;exact⟨A3,n3,c3,(at_:Int)+k',he,hrd.mono (fun b hb=>by have h1:=hk b hb;have h2:=HBT.out.lt;exact⟨by omega,by omega⟩),f,fun _=>rfl⟩
 generalize YO bs at_ sy px=D at *;obtain⟨x1,x2,x3,x4⟩:=D;dsimp only at HG2;clear HG hsb;refine Q6 fun R hR=>?_;go_enter Tryz.func41,Tryz.ntmps41;go_upto_region 1 with fail;simp only [hz1,<-HH.out,<-HW.out];go_wp2_with fail;refine(HS.out _).mono ?_;rintro e wx ⟨rfl,rfl⟩;go_wp2_with fail;refine(HS.out _).mono ?_;rintro e wx ⟨rfl,rfl⟩;go_wp2_with fail;refine(HX.out _).mono ?_;rintro e wx ⟨rfl,rfl⟩;go_wp2_with fail;refine HG2.out.mono ?_;rintro e w2 ⟨A3,n3,c3,q,rfl,r2,f2,hq⟩;have bt2:=HBT.out.fresh f2;have t0:=bt2.cell 0;have t1:=bt2.cell 1;have z0:=bt2.frozen 0;have z1:=bt2.frozen 1;simp at t0 t1;have HBT2:=hd_ bt2;have R2:=hd_ r2;have F2:=hd_ (F0.out.trans' f2);have HQ:=hd_ hq;clear bt2 r2 f2 hq;go_wp2_with fail;refine bodyPost_ret (Qq rfl _ _ (H+1) _ _ _ rfl ((HBT2.out.set_ 0 (.int .i64 x2)).set_ 1 (.slice A3 n3 c3)) Tryz.underlying29 rfl (by kernel_rfl)) rfl ?_;have u3:=Qz w2 (H+1) (.int .i64 x2) (.slice A3 n3 c3);exact hR.out _ _ ⟨A3,_,_,q,rfl,(R2.out.upd u3 (fun b _ h h'=>h.1 h')).mono (fun _ h=>.inl (by have:=HH.out;have:=h.2;omega)),F2.out.trans u3 (fun b hb h=>by have:=HH.out;omega),HQ.out⟩
theorem ZW (F G:Nat->Prop) (A B:Option Addr) (n c m d at_:Nat) (mo p lg:Int) (N:List Int) (bs:List Nat) (w:World) (hr:Rd w F A n (Qi bs)) (hlt:∀b∈bs,b<256) (hn:n<=500) (hat:at_<=n) (hcap:n<=c) (hs:Rd w G B m (Q1 N)) (hfit:Fit N) (hm:(m:Int)<=1099511627776)
   (hp:0<=p/\p<=2) (hmo:0<=mo/\mo<=3) :
   Calls Tryz.prog 41 #[.slice A n c,.int .i64 (at_:Nat),.int .i64 mo,.int .i64 p,.agg #[.int .i64 lg,.slice B m d]] w fun e w'=>Zi G at_ w w' e (Yb mo p lg N bs at_):=by
 (have hd:Yb mo p lg N bs at_=QJ mo p lg N bs at_:=by unfold Yb;exact if_neg (by omega));rw [hd];(have:mo=0\/mo=1\/mo=2\/mo=3:=by omega);rcases this with rfl|rfl|rfl|rfl
 . exact Q3n G A B n c m d at_ p lg w hp
 . exact Q3p F G A B n c m d at_ p lg bs w hr hlt hn hat hp
 . exact Q3q F G A B n c m d at_ p lg bs w hr hlt hn hat hcap hp
 exact Q3o G A B n c m d at_ p lg N w hs hfit hm hp
end Go.Proofs.YtjfdaphjijfieaaGreat
