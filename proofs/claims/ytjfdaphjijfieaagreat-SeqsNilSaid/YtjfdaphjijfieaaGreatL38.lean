/-
  Joined texts, part 38: contracts and plain lemmas.
  Conditions: none beyond those of each theorem.
-/
import Derived.Test.YtjfdaphjijfieaaGreatL37
set_option maxHeartbeats 20000000
set_option linter.unusedVariables false
set_option linter.unusedSimpArgs false
set_option maxRecDepth 100000
universe u
namespace Go.Proofs.YtjfdaphjijfieaaGreat
open Go.RowKit
def pkN (T:Qa) (l:List Qb) (i:Nat):Int × Int × List Int × Int :=
  if i=0 then Qx 0 T.lL T.NL (QY 0 l)else if i=1 then Qx 1 T.lO T.NO (QY 1 l)else Qx 2 T.lM T.NM (QY 2 l)
def QZ (T:Qa) (l:List Qb) (i:Nat):List Nat:=(Qy (pkN T l i).1 (i:Nat) (pkN T l i).2.1 (pkN T l i).2.2.1).2
def Yd (T:Qa) (l:List Qb):Qa:=⟨(pkN T l 0).2.1,(pkN T l 0).2.2.1,(pkN T l 1).2.1,(pkN T l 1).2.2.1,(pkN T l 2).2.1,(pkN T l 2).2.2.1⟩
def Y3 (T:Qa) (l:List Qb) (i:Nat):Nat:=(if 0<i then(pkN T l 0).1.toNat else 0)+(if 1<i then 4*(pkN T l 1).1.toNat else 0)+(if 2<i then 16*(pkN T l 2).1.toNat else 0)
def Ye (T:Qa) (l:List Qb) (i:Nat):List Nat:=(if 0<i then QZ T l 0 else [])++(if 1<i then QZ T l 1 else [])++(if 2<i then QZ T l 2 else [])
def Yj (T:Qa) (l:List Qb) (i:Nat):List Nat:=Y3 T l i::Ye T l i
theorem XA (T:Qa) (l:List Qb) (i:Nat) (h:i<=2):Ye T l (i+1)=Ye T l i++QZ T l i:=by
 (have h3:i=0\/i=1\/i=2:=by omega);(rcases h3 with rfl|rfl|rfl<;>simp [Ye])
theorem Q0d (T:Qa) (l:List Qb) (i mn:Nat) (h:i<=2) (hm:(pkN T l i).1=mn):Y3 T l (i+1)=Y3 T l i+4^i*mn:=by
 (have h3:i=0\/i=1\/i=2:=by omega);(rcases h3 with rfl|rfl|rfl<;>simp [Y3,hm])
theorem Q0p {T:Qa} {l:List Qb} (h:∀j:Nat,j<=2->0<=(pkN T l j).1/\(pkN T l j).1<=3) (i:Nat) (hi:i<=3):Y3 T l i<4^i:=by
 have h0:=h 0 (by omega);have h1:=h 1 (by omega);have h2:=h 2 (by omega);(have h3:i=0\/i=1\/i=2\/i=3:=by omega);(rcases h3 with rfl|rfl|rfl|rfl<;>simp [Y3]<;>omega)
theorem Q3A {P:Program} (x:Int) (k:Nat) (W:World) (hk:k<8):(Op.shift .shl .u8 x .i64 (k:Nat)).run P W = .ok (.int .u8 (IntKind.u8.wrap (x*2^k))) W:=by
 (have h0:¬((k:Nat):Int)<0:=by omega);simp [Op.shift,h0,Sem.run_pure,IntKind.bits];(try omega)
theorem Q1U (a m:Nat) (i:Nat) (hi:i<=2) (ha:a<4^i) (hm:m<4):bits .or .u8 (a:Int) (IntKind.u8.wrap (IntKind.u8.wrap (m:Int)*2^(2*i)))=((a+4^i*m:Nat):Int):=by
 (have h3:i=0\/i=1\/i=2:=by omega);rcases h3 with rfl|rfl|rfl
 . have:∀(a:Fin 1) (m:Fin 4),bits .or .u8 ((a.val:Nat):Int) (IntKind.u8.wrap (IntKind.u8.wrap ((m.val:Nat):Int)*2^(2*0)))=((a.val+4^0*m.val:Nat):Int):=by decide +kernel
   exact this ⟨a,ha⟩ ⟨m,hm⟩
 . have:∀(a:Fin 4) (m:Fin 4),bits .or .u8 ((a.val:Nat):Int) (IntKind.u8.wrap (IntKind.u8.wrap ((m.val:Nat):Int)*2^(2*1)))=((a.val+4^1*m.val:Nat):Int):=by decide +kernel
   exact this ⟨a,ha⟩ ⟨m,hm⟩
 (have:∀(a:Fin 16) (m:Fin 4),bits .or .u8 ((a.val:Nat):Int) (IntKind.u8.wrap (IntKind.u8.wrap ((m.val:Nat):Int)*2^(2*2)))=((a.val+4^2*m.val:Nat):Int):=by decide +kernel);exact this ⟨a,ha⟩ ⟨m,hm⟩
def Q8H (w:World) (F G:Nat->Prop) (b:Prop) [Decidable b] (A:Option Addr) (n:Nat) (xs ys:List Value):Prop:=if b then RdU w G A n xs else Rd w F A n ys
theorem Q71 (w:World) (e:TypeId) (u:Value):Own (w.alloc (.cells #[u] e)) e (.slice (some ⟨w.heap.size,0,none⟩) 1 1) [u] :=
 ⟨rfl,.inr ⟨w.heap.size,1,#[u],rfl,Nat.zero_le _,heap_alloc_new w _,Nat.le_refl _,by simp [maxLen],rfl,rfl⟩⟩
theorem Own.head {w:World} {e:TypeId} {v x:Value} {xs:List Value} (h:Own w e v (x::xs)):∃g c,v = .slice (some ⟨g,0,none⟩) (xs.length+1) c/\g<w.heap.size/\w.cell? ⟨g,0,none⟩=some x/\w.frozen? ⟨g,0,none⟩=false/\∀u,Own (w.setCell ⟨g,0,none⟩ u) e v (u::xs):=by
 rcases h.2 with ⟨_,h0⟩|⟨g,cap,cur,rfl,hb,hg,hn,hm,hc,ht⟩
 . simp at h0
 have hB:Blk w g e cur:=hg;(have ht':cur.toList.take (xs.length+1)=x::xs:=by simpa using ht)
 have h0:cur[0]?=some x:=by
   (have e1:(cur.toList.take (xs.length+1))[0]?=some x:=by rw [ht'];rfl);rw [List.getElem?_take,if_pos (by omega)]at e1;simpa using e1
 refine⟨g,cap,rfl,hB.lt,by rw [hB.cell,h0],hB.frozen 0,fun u=>⟨by simp,.inr ⟨g,cap,cur.setIfInBounds 0 u,rfl,Nat.zero_le _,hB.set_ 0 u,hn,hm,by simpa using hc,?_⟩⟩⟩;rw [Array.toList_setIfInBounds];(have e2:(u::xs).length*1=xs.length+1:=by simp);rw [e2,List.take_set,ht'];rfl
def XB (T:Qa) (l:List Qb) (w:World) (e:Ending) (w':World):Prop :=
  Q0 w w'/\∃v A n c B m d C k e',e = .returned (.tuple #[v,.agg #[.int .i64 (Yd T l).lL,.slice A n c,.int .i64 (Yd T l).lO,.slice B m d,.int .i64 (Yd T l).lM,.slice C k e'],.int .i64 0]) /\
    Own w' 5 v (Q9 (Yj T l 3))/\(∀b,v.ownBlock=some b->w.heap.size<=b)/\RdU w' (fun b=>w.heap.size<=b) A n (Q2 (Yd T l).NL)/\RdU w' (fun b=>w.heap.size<=b) B m (Q2 (Yd T l).NO)/\RdU w' (fun b=>w.heap.size<=b) C k (Q2 (Yd T l).NM)
theorem YP {T:Qa} {l:List Qb} (hl:l.length<=65536) (hne:l≠[]) (hok:∀x∈l,x.ok) (i:Nat) (hi:i<=2):(pkN T l i).2.2.2=0/\(0<=(pkN T l i).1/\(pkN T l i).1<=3)/\Qc (pkN T l i).2.1 (pkN T l i).2.2.1 (Qj i) (Ql i) /\
   (Qy (pkN T l i).1 i (pkN T l i).2.1 (pkN T l i).2.2.1).1=0/\(∀x∈l,x.c i<(pkN T l i).2.2.1.length/\1<=(plN (pkN T l i).2.1.toNat (pkN T l i).2.2.1 (x.c i)).length)/\Fit (pkN T l i).2.2.1/\(pkN T l i).2.2.1.length<=1000:=by
 have key:∀(j:Nat) (lg:Int) (N:List Int),j<=2->pkN T l j=Qx j lg N (QY j l)->(pkN T l j).2.2.2=0/\(0<=(pkN T l j).1/\(pkN T l j).1<=3)/\Qc (pkN T l j).2.1 (pkN T l j).2.2.1 (Qj j) (Ql j) /\
   (Qy (pkN T l j).1 j (pkN T l j).2.1 (pkN T l j).2.2.1).1=0/\(∀x∈l,x.c j<(pkN T l j).2.2.1.length/\1<=(plN (pkN T l j).2.1.toNat (pkN T l j).2.2.1 (x.c j)).length)/\Fit (pkN T l j).2.2.1/\(pkN T l j).2.2.1.length<=1000:=by
   intro j lg N hj e;rw [e];(have hp:0<=(j:Int)/\(j:Int)<=2:=by omega);obtain⟨u1,u2⟩:=Q8y (i:=j) hl hne hok;have h0:=Q3v (lg:=lg) (N:=N) hp (Qa3 hl) u1 u2 (Q8z hj hok);obtain⟨c1,c2,c3,c4,c5⟩:=Q5D hp h0;refine⟨h0,c1,c2,c3,fun x hx=>?_,fun y hy=>?_,?_⟩
   . obtain⟨c,hc,hc0⟩:=Q4B (i:=j) hx (Q0n (hok x hx) j).1
     exact c5 _ c hc hc0
   . have h1:=c2.2.2.2.2.2.2.1 y hy
     have h2:=Kt hy;rw [c2.2.2.2.2.2.2.2]at h2;have h3:=c2.2.2.1;(have h4:(2:Int)^(Qx j lg N (QY j l)).2.1.toNat=((2^(Qx j lg N (QY j l)).2.1.toNat:Nat):Int):=by simp);have h5:2^(Qx j lg N (QY j l)).2.1.toNat<=2^9:=Nat.pow_le_pow_right (by decide) (by omega);(have h6:y<=QO y:=by unfold QO;split<;>omega);omega
   have h1:=c2.2.2.2.2.1;have h2:=Jw j;omega
 (have h3:i=0\/i=1\/i=2:=by omega);rcases h3 with rfl|rfl|rfl
 . exact key 0 T.lL T.NL (by omega) rfl
 . exact key 1 T.lO T.NO (by omega) rfl
 exact key 2 T.lM T.NM (by omega) rfl
theorem Q5G (F FL:Nat->Prop) (A B C D L:Option Addr) (n c m d k ce dn dc nl dl:Nat) (T:Qa) (l:List Qb) (r0 r1 r2:Int) (w:World) (hA:Rd w F A n (Q2 T.NL)) (hB:Rd w F B m (Q2 T.NO)) (hC:Rd w F C k (Q2 T.NM))
   (f1:Fit T.NL) (f2:Fit T.NO) (f3:Fit T.NM) (b1:(n:Int)<=1099511627776) (b2:(m:Int)<=1099511627776) (b3:(k:Int)<=1099511627776) (hL:RdK w FL 6 L nl (l.map Yo)) (hnl:nl<=65536) (hne:l≠[]) (hok:∀x∈l,x.ok) :
   Calls Tryz.prog 46 #[.agg #[.slice D dn dc,.int .i64 T.lL,.slice A n c,.int .i64 T.lO,.slice B m d,.int .i64 T.lM,.slice C k ce,.int .i64 r0,.int .i64 r1,.int .i64 r2],.slice L nl dl] w (XB T l w):=by
 (have hll:l.length=nl:=by have:=hL.1;simpa using this);have HPK:=hd_ (YP (T:=T) (by omega) hne hok);have HOK:=hd_ hok;obtain⟨H,hH⟩:=nm_ (w.heap.size);obtain⟨w0,hw0⟩:=nm_ (((w.alloc (.cells #[.slice D dn dc,.int .i64 T.lL,.slice A n c,.int .i64 T.lO,.slice B m d,.int .i64 T.lM,.slice C k ce,.int .i64 r0,.int .i64 r1,.int .i64 r2] 32)).alloc (.cells #[.int .i64 0,.slice none 0 0,.int .i64 0,.slice none 0 0,.int .i64 0,.slice none 0 0] 69)).alloc (.cells #[.int .u8 0] 5));(have f0:Q0 w w0:=by rw [hw0];exact(((Upd.refl _ _).alloc _).alloc _).alloc _);(have bt:Blk w0 (H+1) 69 #[.int .i64 0,.slice none 0 0,.int .i64 0,.slice none 0 0,.int .i64 0,.slice none 0 0]:=by rw [hw0];exact(Q1 (by simp [hH]) _ _).alloc _)
 have ob:Own w0 5 (.slice (some ⟨H+1+1,0,none⟩) 1 1) (Q9 (Yj T l 0)):=by
   have h:=Q71 ((w.alloc (.cells #[.slice D dn dc,.int .i64 T.lL,.slice A n c,.int .i64 T.lO,.slice B m d,.int .i64 T.lM,.slice C k ce,.int .i64 r0,.int .i64 r1,.int .i64 r2] 32)).alloc (.cells #[.int .i64 0,.slice none 0 0,.int .i64 0,.slice none 0 0,.int .i64 0,.slice none 0 0] 69)) 5 (.int .u8 0);(have e1:((w.alloc (.cells #[.slice D dn dc,.int .i64 T.lL,.slice A n c,.int .i64 T.lO,.slice B m d,.int .i64 T.lM,.slice C k ce,.int .i64 r0,.int .i64 r1,.int .i64 r2] 32)).alloc (.cells #[.int .i64 0,.slice none 0 0,.int .i64 0,.slice none 0 0,.int .i64 0,.slice none 0 0] 69)).heap.size=H+1+1:=by simp [hH]);rw [e1,<-hw0]at h;(have e2:Q9 (Yj T l 0)=[.int .u8 0]:=by simp [Q9,Yj,Ye,Y3]);rw [e2];exact h
 have q0:=(show Blk w0 H 32 #[.slice D dn dc,.int .i64 T.lL,.slice A n c,.int .i64 T.lO,.slice B m d,.int .i64 T.lM,.slice C k ce,.int .i64 r0,.int .i64 r1,.int .i64 r2] by rw [hw0];exact((Q1 hH _ _).alloc _).alloc _);have HTA:=hd_ (KY A B C D n c m d k ce dn dc T.lL T.lO T.lM r0 r1 r2);have HF0:=hd_ f0;have HBT:=hd_ bt;have HOB:=hd_ ob;have HQ0:=hd_ q0;have HW:=hd_ hw0;have HH:=hd_ hH;have HRA:=hd_ (And.intro hA.both (And.intro hB.both hC.both));have HRL:=hd_ hL.both;have HFT:=hd_ (And.intro f1 (And.intro f2 f3));have HLN:=hd_ (And.intro b1 (And.intro b2 b3));have HLL:=hd_ hll;obtain⟨z0,z1,z2,z3,z4,z5,z6,z7,z8,z9⟩:=(q0).cells10;clear hll hok hH hw0 f0 bt ob q0 hA hB hC f1 f2 f3 b1 b2 b3 hL hne
 have hmk:∀W,(Instr.makeSlice 27 (.int .i64 44) (.int .i64 44)).run Tryz.prog W = .ok (.slice (some ⟨W.heap.size,0,none⟩) 44 44) (W.alloc (.cells (madeCells #[.int .i64 0] 44) 3)):=fun W=>by
   have:=run_make_row' (P:=Tryz.prog) 27 3 (.int .i64 0) 8 Tryz.underlying27 JH rfl .i64 .i64 44 (by omega) (by omega) W;simpa using this
 obtain⟨cs,hcs⟩:=nm_ (madeCells #[Value.int .i64 0] 44);rw [<-hcs]at hmk
 have HCS:=hd_ (show ∀j:Nat,cs=(Q2 (QY j [])).toArray from fun j=>by
   rw [hcs,Q8x]
   exact Array.toList_inj.1 (by rw [toList_madeCells_one];simp [Q2]))
 clear hcs;refine Q6 fun R hR=>?_;go_enter Tryz.func46,Tryz.ntmps46;go_upto_region 2 with fail;simp only [<-HH.out,<-HW.out];go_wp2_with fail;refine(HTA.out _).mono ?_;rintro e w1 ⟨rfl,f1⟩;have b1:=HBT.out.fresh f1;have y0:=b1.cell 0;have y1:=b1.cell 1;have y2:=b1.cell 2;have y3:=b1.cell 3;have y4:=b1.cell 4;have y5:=b1.cell 5;have x0:=b1.frozen 0;have x1:=b1.frozen 1;have x2:=b1.frozen 2;have x3:=b1.frozen 3;have x4:=b1.frozen 4;have x5:=b1.frozen 5;simp at y0 y1 y2 y3 y4 y5;have HB1:=hd_ b1;have HO1:=hd_ (HOB.out.fresh f1);have HF1:=hd_ (HF0.out.trans' f1);clear f1 b1 z0 z1 z2 z3 z4 z5 z6 z7 z8 z9;go_upto_region 3 with fail;have b2:=HB1.out.set6 (.int .i64 T.lL) (.slice A n c) (.int .i64 T.lO) (.slice B m d) (.int .i64 T.lM) (.slice C k ce);have u2:=Q05 w1 (H+1) (.int .i64 T.lL) (.slice A n c) (.int .i64 T.lO) (.slice B m d) (.int .i64 T.lM) (.slice C k ce);obtain⟨w2,hw2⟩:=nm_ (((((((w1.setCell ⟨H+1,0,none⟩ (.int .i64 T.lL)).setCell ⟨H+1,1,none⟩ (.slice A n c)).setCell ⟨H+1,2,none⟩ (.int .i64 T.lO)).setCell ⟨H+1,3,none⟩ (.slice B m d)).setCell ⟨H+1,4,none⟩ (.int .i64 T.lM)).setCell ⟨H+1,5,none⟩ (.slice C k ce)));simp only [<-hw2];rw [<-hw2]at b2 u2;have HB2:=hd_ b2;have HO2:=hd_ (HO1.out.upd u2 (fun b hb e=>by subst e;exact HO1.out.ne_blk HB1.out (by decide) hb));have HF2:=hd_ (HF1.out.trans u2 (fun b hb e=>by have:=HH.out;omega));clear b2 u2 hw2 y0 y1 y2 y3 y4 y5 x0 x1 x2 x3 x4 x5 HB1 HO1 HF1 HTA;go_wp2_with fail
 go_loopg [4,6,17] 3 (fun f v4 v6 vi wr=>∃(j:Nat) (A' B' C':Option Addr) (n' c' m' d' k' e':Nat) (G:Nat->Prop),j+f=3/\vi = .int .i64 j/\v6 = .int .i64 0/\Q0 w wr /\
   Blk wr (H+1) 69 #[.int .i64 (if 0<j then(pkN T l 0).2.1 else T.lL),.slice A' n' c',.int .i64 (if 1<j then(pkN T l 1).2.1 else T.lO),.slice B' m' d',.int .i64 (if 2<j then(pkN T l 2).2.1 else T.lM),.slice C' k' e'] /\
   Q8H wr (fun b=>F b/\b<w.heap.size) G (0<j) A' n' (Q2 (pkN T l 0).2.2.1) (Q2 T.NL)/\Q8H wr (fun b=>F b/\b<w.heap.size) G (1<j) B' m' (Q2 (pkN T l 1).2.2.1) (Q2 T.NO)/\Q8H wr (fun b=>F b/\b<w.heap.size) G (2<j) C' k' (Q2 (pkN T l 2).2.2.1) (Q2 T.NM) /\
   Own wr 5 v4 (Q9 (Yj T l j))/\(∀b,v4.ownBlock=some b->w.heap.size<=b)/\(∀b,G b->w.heap.size<=b/\b<wr.heap.size/\b≠H+1/\v4.ownBlock≠some b))
 case atStart =>
   refine⟨0,A,B,C,n,c,m,d,k,ce,fun _=>False,rfl,rfl,rfl,HF2.out,HB2.out,?_,?_,?_,HO2.out,?_,fun _ h=>h.elim⟩
   . exact HRA.out.1.fresh HF2.out
   . exact HRA.out.2.1.fresh HF2.out
   . exact HRA.out.2.2.fresh HF2.out
   intro b hb;injection hb with hb;have:H+1+1=b:=hb;have:=HH.out;omega
 case round =>
   obtain⟨j,A',B',C',n',c',m',d',k',e',G,hjf,rfl,rfl,hf,hb,t0,t1,t2,ho,hvb,hG⟩:=hrel;have HFR:=hd_ hf;have HBR:=hd_ hb;have HOR:=hd_ ho;have HVB:=hd_ hvb;have HG:=hd_ hG;have HT:=hd_ (And.intro t0 (And.intro t1 t2));clear hf hb t0 t1 t2 ho hvb hG;(have h4:j=0\/j=1\/j=2\/j=3:=by omega);rcases h4 with rfl|rfl|rfl|rfl
   . obtain rfl:gk=3:=by omega
     clear hjf;have hti:Rd wr (fun b=>F b/\b<w.heap.size) A' n' (Q2 T.NL):=HT.out.1;have HTI:=hd_ hti;have HN':=hd_ (show(n':Int)<=1099511627776 by have h1:=HRA.out.1.1;have h2:=HLN.out.1;have h3:=hti.1;simp at h1 h3;omega);clear hti;go_upto_region 7 with fail;obtain⟨w3,hw3⟩:=nm_ (wr.alloc (.cells cs 3));obtain⟨X,hX⟩:=nm_ (wr.heap.size);simp only [<-hX,<-hw3];(have f3:Q0 wr w3:=by rw [hw3];exact(Upd.refl _ _).alloc _);have HX3:=hd_ (show Blk w3 X 3 (Q2 (QY 0 (l.take 0))).toArray by rw [hw3,HCS.out 0];exact Q1 hX _ _);have HF3:=hd_ f3;have HXN:=hd_ (show X=wr.heap.size from hX);clear f3 hw3 hX;go_wp2_with fail;obtain⟨wo,rfl⟩:∃q:World,q=wr:=⟨wr,rfl⟩;go_loopg [23] nl (fun f v wr=>∃q:Nat,q+f=nl/\v = .int .i64 q/\Upd (fun b=>b=X) w3 wr/\Blk wr X 3 (Q2 (QY 0 (l.take q))).toArray)
     case atStart=>exact⟨0,by omega,rfl,Upd.refl _ _,HX3.out⟩
     case round =>
       obtain⟨q,hqf,rfl,hu,hbx⟩:=hrel;have HU:=hd_ hu;have HBX:=hd_ hbx;(have hxw:w.heap.size<=X:=by rw [HXN.out];exact HFR.out.size);have HXW:=hd_ hxw;have HFQ:=hd_ (show Q0 w wr from(HFR.out.trans' HF3.out).trans hu (fun b hb e=>by omega));clear hu hbx hxw;by_cases hq:q<nl
       . have hql:q<l.length:=by rw [HLL.out];exact hq
         (have hqI:(q:Int)<nl:=by omega);obtain⟨b,o,rfl,-,-,hc⟩:=(HRL.out.fresh HFQ.out).at_ (r:=0) hq;rw [List.getElem_map]at hc;have c0:=hc 0 (by omega);have c1:=hc 1 (by omega);have c2:=hc 2 (by omega);have c3:=hc 3 (by omega);have c4:=hc 4 (by omega);have c5:=hc 5 (by omega);simp [Yo]at c0 c1 c2 c3 c4 c5;have HSN:=hd_ (show l.take (q+1)=l.take q++[l[q]]from List.take_succ_eq_append_getElem hql);have hxc:=(Q0n (HOK.out l[q] (List.getElem_mem hql)) 0).1;generalize l[q]=x at *;(have hci:x.c 0=x.cL:=by simp [Qb.c]);rw [hci]at hxc;obtain⟨cn,hcn⟩:=nm_ ((l.take q).countP fun y=>y.c 0 == x.cL);(have hcl:cn<=65536:=by rw [hcn];exact Nat.le_trans List.countP_le_length (by rw [List.length_take];omega))
         have hg:(Q2 (QY 0 (l.take q))).toArray[x.cL]?=some (.int .i64 (cn:Nat)):=by
           have:=K9 0 (l.take q) _ hxc;rw [<-hcn]at this;simp [Q2,this]
         (have p0:∀o,(wr.alloc o).cell? ⟨X,x.cL,none⟩=some (.int .i64 (cn:Nat)):=fun o=>by rw [(HBX.out.alloc o).cell];exact hg);have p1:∀o,(wr.alloc o).frozen? ⟨X,x.cL,none⟩=false:=fun o=>(HBX.out.alloc o).frozen _
         have HST:=hd_ (show(Q2 (QY 0 (l.take q))).toArray.setIfInBounds x.cL (.int .i64 ((cn:Int)+1))=(Q2 (QY 0 (l.take (q+1)))).toArray by
           rw [Zv,HSN.out,Q07 0 _ x (by rw [hci];exact hxc),hci,<-hcn])
         have hw4:IntKind.i64.wrap ((q:Int)+1)=q+1:=IntWalk.i64_in _ (by omega);have hw5:IntKind.i64.wrap ((cn:Int)+1)=cn+1:=IntWalk.i64_in _ (by omega);(have hxI:(x.cL:Int)<44:=by omega);have HQF:=hd_ hqf;clear hc hcn hg hci hqf;go_wp2_with fail;go_roundg (gk-1)
         case measure=>have:=HQF.out;omega
         case rel =>
           refine⟨q+1,by have:=HQF.out;omega,by go_num,(HU.out.alloc _).setCell (fun _=>rfl) _,?_⟩;have hh:=(HBX.out.alloc (.cells #[.int .i64 (x.cL:Nat),.int .u64 (x.rL:Nat),.int .i64 (x.cO:Nat),.int .u64 (x.rO:Nat),.int .i64 (x.cM:Nat),.int .u64 (x.rM:Nat)] 154)).set_ x.cL (.int .i64 ((cn:Int)+1));rw [HST.out]at hh;exact hh
       (obtain rfl:q=nl:=by omega);have htl:l.take q=l:=List.take_of_length_le (by rw [HLL.out];exact Nat.le_refl _);rw [htl]at HBX;(have hpk:pkN T l 0=Qx 0 T.lL T.NL (QY 0 l):=by simp [pkN]);(have hlq:l.length<=65536:=by rw [HLL.out];exact hnl);have hTW:Rd wr (fun b=>F b/\b<w.heap.size) A' n' (Q2 T.NL):=(HTI.out.fresh HF3.out).upd HU.out (fun b hb hf e=>by have:=HXW.out;omega);have HCH:=hd_ (Xl (fun b=>b=X) (fun b=>F b/\b<w.heap.size) (some ⟨X,0,none⟩) A' 44 44 n' c' 0 T.lL T.NL (QY 0 l) wr hTW HFT.out.1 HN'.out (HBX.out.rdg (by simp)) (Q1S hlq) (by omega));rw [<-hpk]at HCH;obtain⟨k0,⟨k1,k2⟩,k3,k4,-,k5,k6⟩:=HPK.out 0 (by omega);have b4':=(HBR.out.fresh HF3.out).upd HU.out (by have:=HBR.out.lt;have:=HXN.out;omega);have HBX4:=hd_ (fun W (h:Q0 wr W)=>b4'.fresh h);obtain⟨j0,j1,j2,j3,j4,j5⟩:=(b4').cells6;clear b4' htl hpk hTW;go_wp2_with fail;refine HCH.out.mono ?_;rintro e w4 ⟨A2,n2,c2,rfl,hn2,hr2,f4⟩;rw [k0];have b4:=HBX4.out w4 f4;have HR2:=hd_ hr2.both;have HN2:=hd_ hn2;have HF4:=hd_ f4;have HB4:=hd_ b4;obtain⟨mn,hmn⟩:∃mn:Nat,(pkN T l 0).1=mn:=⟨(pkN T l 0).1.toNat,by omega⟩;have HMN:=hd_ hmn;(have hm3:mn<=3:=by omega);have j0:=b4.cell 0;have j1:=b4.cell 1;have j2:=b4.cell 2;have j3:=b4.cell 3;have j4:=b4.cell 4;have j5:=b4.cell 5;have y0:=b4.frozen 0;have y1:=b4.frozen 1;simp at j0 j1 j2 j3 j4 j5;have HK4:=hd_ k4;have HK5:=hd_ (And.intro k3 (And.intro k5 k6));obtain⟨lgx,hlgx⟩:=nm_ ((pkN T l 0).2.1);have HLX:=hd_ hlgx;rw [hmn,<-hlgx];clear hr2 hn2 f4 b4 hmn k0 k1 k2 k3 k4 k5 k6 HCH HBX4 hlgx;go_upto_region 14 with fail;have hb5:=(HB4.out.set_ 0 (.int .i64 lgx)).set_ 1 (.slice A2 n2 c2);obtain⟨w5,hw5⟩:=nm_ ((w4.setCell ⟨H+1,0,none⟩ (.int .i64 lgx)).setCell ⟨H+1,1,none⟩ (.slice A2 n2 c2));simp only [<-hw5];rw [<-hw5]at hb5
       have u5:Upd (fun b=>b=H+1) w4 w5:=by
         rw [hw5];exact((Upd.refl (fun b=>b=H+1) w4).setCell (p:=⟨H+1,0,none⟩) (fun _=>rfl) _).setCell (p:=⟨H+1,1,none⟩) (fun _=>rfl) _
       (have hH1:H+1<wr.heap.size:=by have:=(HBR.out.fresh HF3.out).lt;have:=HU.out.size;omega);have hr5:=HR2.out.upd u5 (fun b _ hb e=>by have:=hb.1;omega);have HR5:=hd_ hr5;have HB5:=hd_ hb5;have HU5:=hd_ u5;have HH1:=hd_ hH1;have HEN:=hd_ (Xh _ A2 n2 c2 mn 0 lgx (pkN T l 0).2.2.1 w5 hr5.1 HK5.out.2.1 (by have h1:=HK5.out.2.2;have h2:=HN2.out;omega));(have hbl:Blk w5 (H+1) 69 #[.int .i64 lgx,.slice A2 n2 c2,.int .i64 (if 1<0 then(pkN T l 1).2.1 else T.lO),.slice B' m' d',.int .i64 (if 2<0 then(pkN T l 2).2.1 else T.lM),.slice C' k' e']:=by simpa using hb5);have HBL:=hd_ hbl;obtain⟨j0,j1,j2,j3,j4,j5⟩:=(hbl).cells6;clear hw5 u5 hb5 hr5 hbl y0 y1 hH1;go_wp2_with fail;refine HEN.out.mono ?_;rintro e w6 ⟨ve,rfl,nb⟩;obtain⟨A8,c8,hve,hc8,hr8⟩:=nb.1.form;(have hbl8:(Q9 (Qy mn 0 lgx (pkN T l 0).2.2.1).2).length=(Qy mn 0 lgx (pkN T l 0).2.2.1).2.length:=by simp [Q9]);rw [hbl8]at hve hr8;clear hbl8 hc8;subst hve;have hu46:∀b,u4.ownBlock=some b->b<wo.heap.size/\b≠H+1:=fun b hb=>⟨HOR.out.lt hb,fun e=>HOR.out.ne_blk HBR.out (by decide) (by rw [hb,e])⟩;have o6:=((((HOR.out.fresh HF3.out).upd HU.out (fun b hb e=>by have:=(hu46 b hb).1;have:=HXN.out;omega)).fresh HF4.out).upd HU5.out (fun b hb e=>(hu46 b hb).2 e)).fresh nb.2.1;have hh6:Q9 (Yj T l 0) = .int .u8 (Y3 T l 0:Nat)::Q9 (Ye T l 0):=rfl;rw [hh6]at o6;obtain⟨g4,c4,hu4,hg4,hcl4,hfz4,hset4⟩:=o6.head;have HU46:=hd_ hu46;have HVB':=hd_ HVB.out;have HG':=hd_ HG.out;obtain⟨nt,hnt⟩:=nm_ ((Q9 (Ye T l 0)).length+1);rw [<-hnt]at hu4;(have hnt0:0<nt:=by omega);have HNT:=hd_ hnt;clear hnt;subst hu4;have hmb:=Q0p (T:=T) (l:=l) (fun j hj=>(HPK.out j hj).2.1) 0 (by omega);have hor:=Q1U (Y3 T l 0) mn 0 (by omega) hmb (by omega);have HMB:=hd_ (show Y3 T l (0+1)=Y3 T l 0+4^0*mn from Q0d T l 0 mn (by omega) HMN.out);have HTB:=hd_ (show Ye T l (0+1)=Ye T l 0++QZ T l 0 from XA T l 0 (by omega));have HSET:=hd_ hset4;have hcl4':w6.cell? ⟨g4,0,none⟩=some (.int .u8 (Y3 T l 0:Nat)):=hcl4;have hfz4':w6.frozen? ⟨g4,0,none⟩=false:=hfz4;have HNB:=hd_ nb;have HR8:=hd_ hr8;have HVE:=hd_ (fun b (hb:(Value.slice A8 (Qy mn 0 lgx (pkN T l 0).2.2.1).2.length c8).ownBlock=some b)=>(show b≠g4 from fun e=>by have h1:=nb.2.2 b hb;have h2:=(hu46 g4 rfl).1;have h3:=HU5.out.size;have h4:=HF4.out.size;have h5:=HU.out.size;have h6:=HF3.out.size;omega));clear nb hr8 hu46 o6 hh6 hcl4 hfz4 hset4 hmb;(have hwz:IntKind.i64.wrap 0=0:=by decide);have hsl:∀W,(Op.shift .shl .u8 (IntKind.u8.wrap (mn:Int)) .i64 0).run Tryz.prog W = .ok (.int .u8 (IntKind.u8.wrap (IntKind.u8.wrap (mn:Int)*2^(2*0)))) W:=fun W=>Q3A (IntKind.u8.wrap (mn:Int)) (2*0) W (by omega);(have hor':bits .or .u8 (Y3 T l 0:Int) (mn:Int)=(Y3 T l (0+1):Nat):=by rw [HMB.out,<-hor];congr 1;rw [IntKind.wrap_u8',IntKind.wrap_u8'];omega)
       clear hor;go_upto_region 17 with fail;go_still_tail 10,(by kernel_rfl);change wpList _ _ _ _ _ w6.drew
       have h16:(Ye T l 0).length<=3000:=by
         have e0:=YJ (pkN T l 0).1 0 (pkN T l 0).2.1 (pkN T l 0).2.2.1 (by omega);have e1:=YJ (pkN T l 1).1 1 (pkN T l 1).2.1 (pkN T l 1).2.2.1 (by omega);have e2:=YJ (pkN T l 2).1 2 (pkN T l 2).2.1 (pkN T l 2).2.2.1 (by omega);simp [Ye,QZ];(try omega)
       have h17:(Qy mn 0 lgx (pkN T l 0).2.2.1).2.length<=1000:=YJ mn 0 lgx (pkN T l 0).2.2.1 (by omega);have HOS:=hd_ (show Own (w6.setCell ⟨g4,0,none⟩ (.int .u8 (bits .or .u8 (Y3 T l 0:Int) (mn:Int)))).drew 5 (.slice (some ⟨g4,0,none⟩) nt c4) (.int .u8 (Y3 T l (0+1):Nat)::Q9 (Ye T l 0))from by rw [hor'];exact(HSET.out (.int .u8 (Y3 T l (0+1):Nat))).drew);clear hsl hwz hor';(have hln:(Value.int .u8 (Y3 T l (0+1):Nat)::Q9 (Ye T l 0)).length+(Qy mn 0 lgx (pkN T l 0).2.2.1).2.length<=2^40:=by simp [Q9];omega);go_wp2_with (at_builtin;go_must (refine YW _ rfl (.tmp 72) (.tmp 73) _ rfl 5 _ 1 Tryz.underlying26 Ku rfl (.slice (some ⟨g4,0,none⟩) nt c4) _ rfl HOS.out _ _ _ _ rfl (HR8.out.upd (S:=fun b=>b=g4) (((Upd.refl (fun b=>b=g4) w6).setCell (p:=⟨g4,0,none⟩) (fun _=>rfl) _).drew) (fun b _ hb e=>HVE.out b hb e)) (Kd _) (by omega) (by simpa [Q9]using hln) ?_));intro v7 w7 o7 g7 a7;have hg4:=(HU46.out g4 rfl);have hg4w:w.heap.size<=g4:=HVB'.out g4 rfl;have s1:=HF3.out.size;have s2:=HU.out.size;have s3:=HF4.out.size;have s4:=HU5.out.size;have s5:=HNB.out.2.1.size;have hxw:X=wo.heap.size:=HXN.out;have hHH:=HH.out;have hh1:=HH1.out;have u56:Upd (fun b=>b=H+1\/b=g4) w5 w7:=(((HNB.out.2.1.mono (T:=fun b=>b=H+1\/b=g4) fun _ _ h=>h.elim).setCell (p:=⟨g4,0,none⟩) (fun _=>.inr rfl) _).drew).grown g7 (fun k hk _=>by injection hk with hk;exact .inr hk.symm);have u47:Upd (fun b=>b=H+1\/b=g4) w4 w7:=(HU5.out.mono fun _ _ h=>.inl h).trans' u56;have u07:Upd (fun b=>b=H+1\/b=g4) wo w7:=((((HF3.out.mono fun _ _ h=>h.elim).trans HU.out (fun b hb e=>by omega)).trans' (HF4.out.mono fun _ _ h=>h.elim))).trans' u47;have hb7:=((HBL.out.fresh HNB.out.2.1).far (p:=⟨g4,0,none⟩) (fun e=>hg4.2 e.symm) (.int .u8 (bits .or .u8 (Y3 T l 0:Int) (mn:Int)))).drew.grown g7 (fun h=>by injection h with h;exact hg4.2 h)
       have e7:(Value.int .u8 (Y3 T l (0+1):Nat)::Q9 (Ye T l 0))++Q9 (Qy mn 0 lgx (pkN T l 0).2.2.1).2=Q9 (Yj T l (0+1)):=by
         unfold Yj;rw [HTB.out];unfold QZ;rw [HMN.out,<-HLX.out];simp [Q9]
       (have o7':Own w7 5 v7 (Q9 (Yj T l (0+1))):=by rw [<-e7];exact o7);have s7:=u47.size;have HU07:=hd_ u07;have HB7:=hd_ hb7;have HO7:=hd_ o7';have HR7:=hd_ (HR5.out.upd u56 (fun b _ hb e=>by rcases e with e|e<;>omega))
       have HVB7:=hd_ (fun b (hb:v7.ownBlock=some b)=>(show w.heap.size<=b by
         rcases a7 with h|h
         . rw [h]at hb;injection hb with hb;have hb':g4=b:=hb;omega
         rw [h]at hb;injection hb with hb;have:=HFR.out.size;omega))
       have HG7:=hd_ (fun b (hb:G b\/(wr.heap.size<=b/\b<w4.heap.size))=>(show w.heap.size<=b/\b<w7.heap.size/\b≠H+1/\v7.ownBlock≠some b by
         have hfw:=HFR.out.size;have hh1:=HH1.out;rcases hb with hb|hb
         . obtain⟨q1,q2,q3,q4⟩:=HG'.out b hb
           have hgb:g4≠b:=fun e=>q4 (by rw [<-e];rfl);refine⟨q1,by omega,q3,fun h=>?_⟩;rcases a7 with h'|h'
           . rw [h']at h;injection h with h;exact hgb h
           rw [h']at h;injection h with h;omega
         refine⟨by omega,by omega,by omega,fun h=>?_⟩;rcases a7 with h'|h'
         . rw [h']at h;injection h with h;have h:g4=b:=h;omega
         rw [h']at h;injection h with h;omega))
       have HFW7:=hd_ (show Q0 w w7 from HFR.out.trans u07 (fun b hb e=>by rcases e with e|e<;>omega));have HSF:=hd_ (fun b (hf:F b/\b<w.heap.size) (e:b=H+1\/b=g4)=>(show False by have:=hf.2;rcases e with e|e<;>omega))
       have HSG:=hd_ (fun b (hb:G b) (e:b=H+1\/b=g4)=>(show False by
         obtain⟨q1,q2,q3,q4⟩:=HG'.out b hb;rcases e with e|e
         . exact q3 e
         exact q4 (by rw [e];rfl)))
       clear hg4 hg4w s1 s2 s3 s4 s5 hxw hHH hh1 u56 u47 u07 hb7 e7 o7 o7' a7 g7 s7 h16 h17 hln;go_wp2_with fail;go_roundg 2
       case measure=>omega
       case rel =>
         refine⟨1,A2,B',C',n2,c2,m',d',k',e',fun b=>G b\/(wr.heap.size<=b/\b<w4.heap.size),rfl,by go_num,rfl,HFW7.out,?_,?_,?_,?_,HO7.out,HVB7.out,HG7.out⟩
         . have hh:=HB7.out
           rw [HLX.out]at hh;simpa using hh
         . exact HR7.out.mono fun b hb=>.inr hb
         . exact(show Rd wo (fun b=>F b/\b<w.heap.size) B' m' (Q2 T.NO)from HT.out.2.1).upd HU07.out (fun b _ hb e=>HSF.out b hb e)
         exact(show Rd wo (fun b=>F b/\b<w.heap.size) C' k' (Q2 T.NM)from HT.out.2.2).upd HU07.out (fun b _ hb e=>HSF.out b hb e)
   . obtain rfl:gk=2:=by omega
     clear hjf;have hti:Rd wr (fun b=>F b/\b<w.heap.size) B' m' (Q2 T.NO):=HT.out.2.1;have HTI:=hd_ hti;have HN':=hd_ (show(m':Int)<=1099511627776 by have h1:=HRA.out.2.1.1;have h2:=HLN.out.2.1;have h3:=hti.1;simp at h1 h3;omega);clear hti;go_upto_region 7 with fail;obtain⟨w3,hw3⟩:=nm_ (wr.alloc (.cells cs 3));obtain⟨X,hX⟩:=nm_ (wr.heap.size);simp only [<-hX,<-hw3];(have f3:Q0 wr w3:=by rw [hw3];exact(Upd.refl _ _).alloc _);have HX3:=hd_ (show Blk w3 X 3 (Q2 (QY 1 (l.take 0))).toArray by rw [hw3,HCS.out 1];exact Q1 hX _ _);have HF3:=hd_ f3;have HXN:=hd_ (show X=wr.heap.size from hX);clear f3 hw3 hX;go_wp2_with fail;obtain⟨wo,rfl⟩:∃q:World,q=wr:=⟨wr,rfl⟩;go_loopg [23] nl (fun f v wr=>∃q:Nat,q+f=nl/\v = .int .i64 q/\Upd (fun b=>b=X) w3 wr/\Blk wr X 3 (Q2 (QY 1 (l.take q))).toArray)
     case atStart=>exact⟨0,by omega,rfl,Upd.refl _ _,HX3.out⟩
     case round =>
       obtain⟨q,hqf,rfl,hu,hbx⟩:=hrel;have HU:=hd_ hu;have HBX:=hd_ hbx;(have hxw:w.heap.size<=X:=by rw [HXN.out];exact HFR.out.size);have HXW:=hd_ hxw;have HFQ:=hd_ (show Q0 w wr from(HFR.out.trans' HF3.out).trans hu (fun b hb e=>by omega));clear hu hbx hxw;by_cases hq:q<nl
       . have hql:q<l.length:=by rw [HLL.out];exact hq
         (have hqI:(q:Int)<nl:=by omega);obtain⟨b,o,rfl,-,-,hc⟩:=(HRL.out.fresh HFQ.out).at_ (r:=0) hq;rw [List.getElem_map]at hc;have c0:=hc 0 (by omega);have c1:=hc 1 (by omega);have c2:=hc 2 (by omega);have c3:=hc 3 (by omega);have c4:=hc 4 (by omega);have c5:=hc 5 (by omega);simp [Yo]at c0 c1 c2 c3 c4 c5;have HSN:=hd_ (show l.take (q+1)=l.take q++[l[q]]from List.take_succ_eq_append_getElem hql);have hxc:=(Q0n (HOK.out l[q] (List.getElem_mem hql)) 1).1;generalize l[q]=x at *;(have hci:x.c 1=x.cO:=by simp [Qb.c]);rw [hci]at hxc;obtain⟨cn,hcn⟩:=nm_ ((l.take q).countP fun y=>y.c 1 == x.cO);(have hcl:cn<=65536:=by rw [hcn];exact Nat.le_trans List.countP_le_length (by rw [List.length_take];omega))
         have hg:(Q2 (QY 1 (l.take q))).toArray[x.cO]?=some (.int .i64 (cn:Nat)):=by
           have:=K9 1 (l.take q) _ hxc;rw [<-hcn]at this;simp [Q2,this]
         (have p0:∀o,(wr.alloc o).cell? ⟨X,x.cO,none⟩=some (.int .i64 (cn:Nat)):=fun o=>by rw [(HBX.out.alloc o).cell];exact hg);have p1:∀o,(wr.alloc o).frozen? ⟨X,x.cO,none⟩=false:=fun o=>(HBX.out.alloc o).frozen _
         have HST:=hd_ (show(Q2 (QY 1 (l.take q))).toArray.setIfInBounds x.cO (.int .i64 ((cn:Int)+1))=(Q2 (QY 1 (l.take (q+1)))).toArray by
           rw [Zv,HSN.out,Q07 1 _ x (by rw [hci];exact hxc),hci,<-hcn])
         have hw4:IntKind.i64.wrap ((q:Int)+1)=q+1:=IntWalk.i64_in _ (by omega);have hw5:IntKind.i64.wrap ((cn:Int)+1)=cn+1:=IntWalk.i64_in _ (by omega);(have hxI:(x.cO:Int)<44:=by omega);have HQF:=hd_ hqf;clear hc hcn hg hci hqf;go_wp2_with fail;go_roundg (gk-1)
         case measure=>have:=HQF.out;omega
         case rel =>
           refine⟨q+1,by have:=HQF.out;omega,by go_num,(HU.out.alloc _).setCell (fun _=>rfl) _,?_⟩;have hh:=(HBX.out.alloc (.cells #[.int .i64 (x.cL:Nat),.int .u64 (x.rL:Nat),.int .i64 (x.cO:Nat),.int .u64 (x.rO:Nat),.int .i64 (x.cM:Nat),.int .u64 (x.rM:Nat)] 154)).set_ x.cO (.int .i64 ((cn:Int)+1));rw [HST.out]at hh;exact hh
       (obtain rfl:q=nl:=by omega);have htl:l.take q=l:=List.take_of_length_le (by rw [HLL.out];exact Nat.le_refl _);rw [htl]at HBX;(have hpk:pkN T l 1=Qx 1 T.lO T.NO (QY 1 l):=by simp [pkN]);(have hlq:l.length<=65536:=by rw [HLL.out];exact hnl);have hTW:Rd wr (fun b=>F b/\b<w.heap.size) B' m' (Q2 T.NO):=(HTI.out.fresh HF3.out).upd HU.out (fun b hb hf e=>by have:=HXW.out;omega);have HCH:=hd_ (Xl (fun b=>b=X) (fun b=>F b/\b<w.heap.size) (some ⟨X,0,none⟩) B' 44 44 m' d' 1 T.lO T.NO (QY 1 l) wr hTW HFT.out.2.1 HN'.out (HBX.out.rdg (by simp)) (Q1S hlq) (by omega));rw [<-hpk]at HCH;obtain⟨k0,⟨k1,k2⟩,k3,k4,-,k5,k6⟩:=HPK.out 1 (by omega);have b4':=(HBR.out.fresh HF3.out).upd HU.out (by have:=HBR.out.lt;have:=HXN.out;omega);have HBX4:=hd_ (fun W (h:Q0 wr W)=>b4'.fresh h);obtain⟨j0,j1,j2,j3,j4,j5⟩:=(b4').cells6;clear b4' htl hpk hTW;go_wp2_with fail;refine HCH.out.mono ?_;rintro e w4 ⟨A2,n2,c2,rfl,hn2,hr2,f4⟩;rw [k0];have b4:=HBX4.out w4 f4;have HR2:=hd_ hr2.both;have HN2:=hd_ hn2;have HF4:=hd_ f4;have HB4:=hd_ b4;obtain⟨mn,hmn⟩:∃mn:Nat,(pkN T l 1).1=mn:=⟨(pkN T l 1).1.toNat,by omega⟩;have HMN:=hd_ hmn;(have hm3:mn<=3:=by omega);have j0:=b4.cell 0;have j1:=b4.cell 1;have j2:=b4.cell 2;have j3:=b4.cell 3;have j4:=b4.cell 4;have j5:=b4.cell 5;have y0:=b4.frozen 2;have y1:=b4.frozen 3;simp at j0 j1 j2 j3 j4 j5;have HK4:=hd_ k4;have HK5:=hd_ (And.intro k3 (And.intro k5 k6));obtain⟨lgx,hlgx⟩:=nm_ ((pkN T l 1).2.1);have HLX:=hd_ hlgx;rw [hmn,<-hlgx];clear hr2 hn2 f4 b4 hmn k0 k1 k2 k3 k4 k5 k6 HCH HBX4 hlgx;go_upto_region 14 with fail;have hb5:=(HB4.out.set_ 2 (.int .i64 lgx)).set_ 3 (.slice A2 n2 c2);obtain⟨w5,hw5⟩:=nm_ ((w4.setCell ⟨H+1,2,none⟩ (.int .i64 lgx)).setCell ⟨H+1,3,none⟩ (.slice A2 n2 c2));simp only [<-hw5];rw [<-hw5]at hb5
       have u5:Upd (fun b=>b=H+1) w4 w5:=by
         rw [hw5];exact((Upd.refl (fun b=>b=H+1) w4).setCell (p:=⟨H+1,2,none⟩) (fun _=>rfl) _).setCell (p:=⟨H+1,3,none⟩) (fun _=>rfl) _
       (have hH1:H+1<wr.heap.size:=by have:=(HBR.out.fresh HF3.out).lt;have:=HU.out.size;omega);have hr5:=HR2.out.upd u5 (fun b _ hb e=>by have:=hb.1;omega);have HR5:=hd_ hr5;have HB5:=hd_ hb5;have HU5:=hd_ u5;have HH1:=hd_ hH1;have HEN:=hd_ (Xh _ A2 n2 c2 mn 1 lgx (pkN T l 1).2.2.1 w5 hr5.1 HK5.out.2.1 (by have h1:=HK5.out.2.2;have h2:=HN2.out;omega));(have hbl:Blk w5 (H+1) 69 #[.int .i64 (if 0<1 then(pkN T l 0).2.1 else T.lL),.slice A' n' c',.int .i64 lgx,.slice A2 n2 c2,.int .i64 (if 2<1 then(pkN T l 2).2.1 else T.lM),.slice C' k' e']:=by simpa using hb5);have HBL:=hd_ hbl;obtain⟨j0,j1,j2,j3,j4,j5⟩:=(hbl).cells6;clear hw5 u5 hb5 hr5 hbl y0 y1 hH1;go_wp2_with fail;refine HEN.out.mono ?_;rintro e w6 ⟨ve,rfl,nb⟩;obtain⟨A8,c8,hve,hc8,hr8⟩:=nb.1.form;(have hbl8:(Q9 (Qy mn 1 lgx (pkN T l 1).2.2.1).2).length=(Qy mn 1 lgx (pkN T l 1).2.2.1).2.length:=by simp [Q9]);rw [hbl8]at hve hr8;clear hbl8 hc8;subst hve;have hu46:∀b,u4.ownBlock=some b->b<wo.heap.size/\b≠H+1:=fun b hb=>⟨HOR.out.lt hb,fun e=>HOR.out.ne_blk HBR.out (by decide) (by rw [hb,e])⟩;have o6:=((((HOR.out.fresh HF3.out).upd HU.out (fun b hb e=>by have:=(hu46 b hb).1;have:=HXN.out;omega)).fresh HF4.out).upd HU5.out (fun b hb e=>(hu46 b hb).2 e)).fresh nb.2.1;have hh6:Q9 (Yj T l 1) = .int .u8 (Y3 T l 1:Nat)::Q9 (Ye T l 1):=rfl;rw [hh6]at o6;obtain⟨g4,c4,hu4,hg4,hcl4,hfz4,hset4⟩:=o6.head;have HU46:=hd_ hu46;have HVB':=hd_ HVB.out;have HG':=hd_ HG.out;obtain⟨nt,hnt⟩:=nm_ ((Q9 (Ye T l 1)).length+1);rw [<-hnt]at hu4;(have hnt0:0<nt:=by omega);have HNT:=hd_ hnt;clear hnt;subst hu4;have hmb:=Q0p (T:=T) (l:=l) (fun j hj=>(HPK.out j hj).2.1) 1 (by omega);have hor:=Q1U (Y3 T l 1) mn 1 (by omega) hmb (by omega);have HMB:=hd_ (show Y3 T l (1+1)=Y3 T l 1+4^1*mn from Q0d T l 1 mn (by omega) HMN.out);have HTB:=hd_ (show Ye T l (1+1)=Ye T l 1++QZ T l 1 from XA T l 1 (by omega));have HSET:=hd_ hset4;have hcl4':w6.cell? ⟨g4,0,none⟩=some (.int .u8 (Y3 T l 1:Nat)):=hcl4;have hfz4':w6.frozen? ⟨g4,0,none⟩=false:=hfz4;have HNB:=hd_ nb;have HR8:=hd_ hr8;have HVE:=hd_ (fun b (hb:(Value.slice A8 (Qy mn 1 lgx (pkN T l 1).2.2.1).2.length c8).ownBlock=some b)=>(show b≠g4 from fun e=>by have h1:=nb.2.2 b hb;have h2:=(hu46 g4 rfl).1;have h3:=HU5.out.size;have h4:=HF4.out.size;have h5:=HU.out.size;have h6:=HF3.out.size;omega));clear nb hr8 hu46 o6 hh6 hcl4 hfz4 hset4 hmb;(have hwz:IntKind.i64.wrap 2=2:=by decide);have hsl:∀W,(Op.shift .shl .u8 (IntKind.u8.wrap (mn:Int)) .i64 2).run Tryz.prog W = .ok (.int .u8 (IntKind.u8.wrap (IntKind.u8.wrap (mn:Int)*2^(2*1)))) W:=fun W=>Q3A (IntKind.u8.wrap (mn:Int)) (2*1) W (by omega);(have hor':bits .or .u8 (Y3 T l 1:Int) ((mn:Int)*4)=(Y3 T l (1+1):Nat):=by rw [HMB.out,<-hor];congr 1;rw [IntKind.wrap_u8',IntKind.wrap_u8'];omega)
       clear hor;go_upto_region 17 with fail;go_still_tail 10,(by kernel_rfl);change wpList _ _ _ _ _ w6.drew
       have h16:(Ye T l 1).length<=3000:=by
         have e0:=YJ (pkN T l 0).1 0 (pkN T l 0).2.1 (pkN T l 0).2.2.1 (by omega);have e1:=YJ (pkN T l 1).1 1 (pkN T l 1).2.1 (pkN T l 1).2.2.1 (by omega);have e2:=YJ (pkN T l 2).1 2 (pkN T l 2).2.1 (pkN T l 2).2.2.1 (by omega);simp [Ye,QZ];(try omega)
       have h17:(Qy mn 1 lgx (pkN T l 1).2.2.1).2.length<=1000:=YJ mn 1 lgx (pkN T l 1).2.2.1 (by omega);have HOS:=hd_ (show Own (w6.setCell ⟨g4,0,none⟩ (.int .u8 (bits .or .u8 (Y3 T l 1:Int) ((mn:Int)*4)))).drew 5 (.slice (some ⟨g4,0,none⟩) nt c4) (.int .u8 (Y3 T l (1+1):Nat)::Q9 (Ye T l 1))from by rw [hor'];exact(HSET.out (.int .u8 (Y3 T l (1+1):Nat))).drew);clear hsl hwz hor';(have hln:(Value.int .u8 (Y3 T l (1+1):Nat)::Q9 (Ye T l 1)).length+(Qy mn 1 lgx (pkN T l 1).2.2.1).2.length<=2^40:=by simp [Q9];omega);go_wp2_with (at_builtin;go_must (refine YW _ rfl (.tmp 72) (.tmp 73) _ rfl 5 _ 1 Tryz.underlying26 Ku rfl (.slice (some ⟨g4,0,none⟩) nt c4) _ rfl HOS.out _ _ _ _ rfl (HR8.out.upd (S:=fun b=>b=g4) (((Upd.refl (fun b=>b=g4) w6).setCell (p:=⟨g4,0,none⟩) (fun _=>rfl) _).drew) (fun b _ hb e=>HVE.out b hb e)) (Kd _) (by omega) (by simpa [Q9]using hln) ?_));intro v7 w7 o7 g7 a7;have hg4:=(HU46.out g4 rfl);have hg4w:w.heap.size<=g4:=HVB'.out g4 rfl;have s1:=HF3.out.size;have s2:=HU.out.size;have s3:=HF4.out.size;have s4:=HU5.out.size;have s5:=HNB.out.2.1.size;have hxw:X=wo.heap.size:=HXN.out;have hHH:=HH.out;have hh1:=HH1.out;have u56:Upd (fun b=>b=H+1\/b=g4) w5 w7:=(((HNB.out.2.1.mono (T:=fun b=>b=H+1\/b=g4) fun _ _ h=>h.elim).setCell (p:=⟨g4,0,none⟩) (fun _=>.inr rfl) _).drew).grown g7 (fun k hk _=>by injection hk with hk;exact .inr hk.symm);have u47:Upd (fun b=>b=H+1\/b=g4) w4 w7:=(HU5.out.mono fun _ _ h=>.inl h).trans' u56;have u07:Upd (fun b=>b=H+1\/b=g4) wo w7:=((((HF3.out.mono fun _ _ h=>h.elim).trans HU.out (fun b hb e=>by omega)).trans' (HF4.out.mono fun _ _ h=>h.elim))).trans' u47;have hb7:=((HBL.out.fresh HNB.out.2.1).far (p:=⟨g4,0,none⟩) (fun e=>hg4.2 e.symm) (.int .u8 (bits .or .u8 (Y3 T l 1:Int) ((mn:Int)*4)))).drew.grown g7 (fun h=>by injection h with h;exact hg4.2 h)
       have e7:(Value.int .u8 (Y3 T l (1+1):Nat)::Q9 (Ye T l 1))++Q9 (Qy mn 1 lgx (pkN T l 1).2.2.1).2=Q9 (Yj T l (1+1)):=by
         unfold Yj;rw [HTB.out];unfold QZ;rw [HMN.out,<-HLX.out];simp [Q9]
       (have o7':Own w7 5 v7 (Q9 (Yj T l (1+1))):=by rw [<-e7];exact o7);have s7:=u47.size;have HU07:=hd_ u07;have HB7:=hd_ hb7;have HO7:=hd_ o7';have HR7:=hd_ (HR5.out.upd u56 (fun b _ hb e=>by rcases e with e|e<;>omega))
       have HVB7:=hd_ (fun b (hb:v7.ownBlock=some b)=>(show w.heap.size<=b by
         rcases a7 with h|h
         . rw [h]at hb;injection hb with hb;have hb':g4=b:=hb;omega
         rw [h]at hb;injection hb with hb;have:=HFR.out.size;omega))
       have HG7:=hd_ (fun b (hb:G b\/(wr.heap.size<=b/\b<w4.heap.size))=>(show w.heap.size<=b/\b<w7.heap.size/\b≠H+1/\v7.ownBlock≠some b by
         have hfw:=HFR.out.size;have hh1:=HH1.out;rcases hb with hb|hb
         . obtain⟨q1,q2,q3,q4⟩:=HG'.out b hb
           have hgb:g4≠b:=fun e=>q4 (by rw [<-e];rfl);refine⟨q1,by omega,q3,fun h=>?_⟩;rcases a7 with h'|h'
           . rw [h']at h;injection h with h;exact hgb h
           rw [h']at h;injection h with h;omega
         refine⟨by omega,by omega,by omega,fun h=>?_⟩;rcases a7 with h'|h'
         . rw [h']at h;injection h with h;have h:g4=b:=h;omega
         rw [h']at h;injection h with h;omega))
       have HFW7:=hd_ (show Q0 w w7 from HFR.out.trans u07 (fun b hb e=>by rcases e with e|e<;>omega));have HSF:=hd_ (fun b (hf:F b/\b<w.heap.size) (e:b=H+1\/b=g4)=>(show False by have:=hf.2;rcases e with e|e<;>omega))
       have HSG:=hd_ (fun b (hb:G b) (e:b=H+1\/b=g4)=>(show False by
         obtain⟨q1,q2,q3,q4⟩:=HG'.out b hb;rcases e with e|e
         . exact q3 e
         exact q4 (by rw [e];rfl)))
       clear hg4 hg4w s1 s2 s3 s4 s5 hxw hHH hh1 u56 u47 u07 hb7 e7 o7 o7' a7 g7 s7 h16 h17 hln;go_wp2_with fail;go_roundg 1
       case measure=>omega
       case rel =>
         refine⟨2,A',A2,C',n',c',n2,c2,k',e',fun b=>G b\/(wr.heap.size<=b/\b<w4.heap.size),rfl,by go_num,rfl,HFW7.out,?_,?_,?_,?_,HO7.out,HVB7.out,HG7.out⟩
         . have hh:=HB7.out
           rw [HLX.out]at hh;simpa using hh
         . exact(show RdU wo G A' n' (Q2 (pkN T l 0).2.2.1)from HT.out.1).upd HU07.out (fun b _ hb e=>HSG.out b hb e) |>.mono fun b hb=>.inl hb
         . exact HR7.out.mono fun b hb=>.inr hb
         exact(show Rd wo (fun b=>F b/\b<w.heap.size) C' k' (Q2 T.NM)from HT.out.2.2).upd HU07.out (fun b _ hb e=>HSF.out b hb e)
   . obtain rfl:gk=1:=by omega
     clear hjf;have hti:Rd wr (fun b=>F b/\b<w.heap.size) C' k' (Q2 T.NM):=HT.out.2.2;have HTI:=hd_ hti;have HN':=hd_ (show(k':Int)<=1099511627776 by have h1:=HRA.out.2.2.1;have h2:=HLN.out.2.2;have h3:=hti.1;simp at h1 h3;omega);clear hti;go_upto_region 7 with fail;obtain⟨w3,hw3⟩:=nm_ (wr.alloc (.cells cs 3));obtain⟨X,hX⟩:=nm_ (wr.heap.size);simp only [<-hX,<-hw3];(have f3:Q0 wr w3:=by rw [hw3];exact(Upd.refl _ _).alloc _);have HX3:=hd_ (show Blk w3 X 3 (Q2 (QY 2 (l.take 0))).toArray by rw [hw3,HCS.out 2];exact Q1 hX _ _);have HF3:=hd_ f3;have HXN:=hd_ (show X=wr.heap.size from hX);clear f3 hw3 hX;go_wp2_with fail;obtain⟨wo,rfl⟩:∃q:World,q=wr:=⟨wr,rfl⟩;go_loopg [23] nl (fun f v wr=>∃q:Nat,q+f=nl/\v = .int .i64 q/\Upd (fun b=>b=X) w3 wr/\Blk wr X 3 (Q2 (QY 2 (l.take q))).toArray)
     case atStart=>exact⟨0,by omega,rfl,Upd.refl _ _,HX3.out⟩
     case round =>
       obtain⟨q,hqf,rfl,hu,hbx⟩:=hrel;have HU:=hd_ hu;have HBX:=hd_ hbx;(have hxw:w.heap.size<=X:=by rw [HXN.out];exact HFR.out.size);have HXW:=hd_ hxw;have HFQ:=hd_ (show Q0 w wr from(HFR.out.trans' HF3.out).trans hu (fun b hb e=>by omega));clear hu hbx hxw;by_cases hq:q<nl
       . have hql:q<l.length:=by rw [HLL.out];exact hq
         (have hqI:(q:Int)<nl:=by omega);obtain⟨b,o,rfl,-,-,hc⟩:=(HRL.out.fresh HFQ.out).at_ (r:=0) hq;rw [List.getElem_map]at hc;have c0:=hc 0 (by omega);have c1:=hc 1 (by omega);have c2:=hc 2 (by omega);have c3:=hc 3 (by omega);have c4:=hc 4 (by omega);have c5:=hc 5 (by omega);simp [Yo]at c0 c1 c2 c3 c4 c5;have HSN:=hd_ (show l.take (q+1)=l.take q++[l[q]]from List.take_succ_eq_append_getElem hql);have hxc:=(Q0n (HOK.out l[q] (List.getElem_mem hql)) 2).1;generalize l[q]=x at *;(have hci:x.c 2=x.cM:=by simp [Qb.c]);rw [hci]at hxc;obtain⟨cn,hcn⟩:=nm_ ((l.take q).countP fun y=>y.c 2 == x.cM);(have hcl:cn<=65536:=by rw [hcn];exact Nat.le_trans List.countP_le_length (by rw [List.length_take];omega))
         have hg:(Q2 (QY 2 (l.take q))).toArray[x.cM]?=some (.int .i64 (cn:Nat)):=by
           have:=K9 2 (l.take q) _ hxc;rw [<-hcn]at this;simp [Q2,this]
         (have p0:∀o,(wr.alloc o).cell? ⟨X,x.cM,none⟩=some (.int .i64 (cn:Nat)):=fun o=>by rw [(HBX.out.alloc o).cell];exact hg);have p1:∀o,(wr.alloc o).frozen? ⟨X,x.cM,none⟩=false:=fun o=>(HBX.out.alloc o).frozen _
         have HST:=hd_ (show(Q2 (QY 2 (l.take q))).toArray.setIfInBounds x.cM (.int .i64 ((cn:Int)+1))=(Q2 (QY 2 (l.take (q+1)))).toArray by
           rw [Zv,HSN.out,Q07 2 _ x (by rw [hci];exact hxc),hci,<-hcn])
         have hw4:IntKind.i64.wrap ((q:Int)+1)=q+1:=IntWalk.i64_in _ (by omega);have hw5:IntKind.i64.wrap ((cn:Int)+1)=cn+1:=IntWalk.i64_in _ (by omega);(have hxI:(x.cM:Int)<44:=by omega);have HQF:=hd_ hqf;clear hc hcn hg hci hqf;go_wp2_with fail;go_roundg (gk-1)
         case measure=>have:=HQF.out;omega
         case rel =>
           refine⟨q+1,by have:=HQF.out;omega,by go_num,(HU.out.alloc _).setCell (fun _=>rfl) _,?_⟩;have hh:=(HBX.out.alloc (.cells #[.int .i64 (x.cL:Nat),.int .u64 (x.rL:Nat),.int .i64 (x.cO:Nat),.int .u64 (x.rO:Nat),.int .i64 (x.cM:Nat),.int .u64 (x.rM:Nat)] 154)).set_ x.cM (.int .i64 ((cn:Int)+1));rw [HST.out]at hh;exact hh
       (obtain rfl:q=nl:=by omega);have htl:l.take q=l:=List.take_of_length_le (by rw [HLL.out];exact Nat.le_refl _);rw [htl]at HBX;(have hpk:pkN T l 2=Qx 2 T.lM T.NM (QY 2 l):=by simp [pkN]);(have hlq:l.length<=65536:=by rw [HLL.out];exact hnl);have hTW:Rd wr (fun b=>F b/\b<w.heap.size) C' k' (Q2 T.NM):=(HTI.out.fresh HF3.out).upd HU.out (fun b hb hf e=>by have:=HXW.out;omega);have HCH:=hd_ (Xl (fun b=>b=X) (fun b=>F b/\b<w.heap.size) (some ⟨X,0,none⟩) C' 44 44 k' e' 2 T.lM T.NM (QY 2 l) wr hTW HFT.out.2.2 HN'.out (HBX.out.rdg (by simp)) (Q1S hlq) (by omega));rw [<-hpk]at HCH;obtain⟨k0,⟨k1,k2⟩,k3,k4,-,k5,k6⟩:=HPK.out 2 (by omega);have b4':=(HBR.out.fresh HF3.out).upd HU.out (by have:=HBR.out.lt;have:=HXN.out;omega);have HBX4:=hd_ (fun W (h:Q0 wr W)=>b4'.fresh h);obtain⟨j0,j1,j2,j3,j4,j5⟩:=(b4').cells6;clear b4' htl hpk hTW;go_wp2_with fail;refine HCH.out.mono ?_;rintro e w4 ⟨A2,n2,c2,rfl,hn2,hr2,f4⟩;rw [k0];have b4:=HBX4.out w4 f4;have HR2:=hd_ hr2.both;have HN2:=hd_ hn2;have HF4:=hd_ f4;have HB4:=hd_ b4;obtain⟨mn,hmn⟩:∃mn:Nat,(pkN T l 2).1=mn:=⟨(pkN T l 2).1.toNat,by omega⟩;have HMN:=hd_ hmn;(have hm3:mn<=3:=by omega);have j0:=b4.cell 0;have j1:=b4.cell 1;have j2:=b4.cell 2;have j3:=b4.cell 3;have j4:=b4.cell 4;have j5:=b4.cell 5;have y0:=b4.frozen 4;have y1:=b4.frozen 5;simp at j0 j1 j2 j3 j4 j5;have HK4:=hd_ k4;have HK5:=hd_ (And.intro k3 (And.intro k5 k6));obtain⟨lgx,hlgx⟩:=nm_ ((pkN T l 2).2.1);have HLX:=hd_ hlgx;rw [hmn,<-hlgx];clear hr2 hn2 f4 b4 hmn k0 k1 k2 k3 k4 k5 k6 HCH HBX4 hlgx;go_upto_region 14 with fail;have hb5:=(HB4.out.set_ 4 (.int .i64 lgx)).set_ 5 (.slice A2 n2 c2);obtain⟨w5,hw5⟩:=nm_ ((w4.setCell ⟨H+1,4,none⟩ (.int .i64 lgx)).setCell ⟨H+1,5,none⟩ (.slice A2 n2 c2));simp only [<-hw5];rw [<-hw5]at hb5
       have u5:Upd (fun b=>b=H+1) w4 w5:=by
         rw [hw5];exact((Upd.refl (fun b=>b=H+1) w4).setCell (p:=⟨H+1,4,none⟩) (fun _=>rfl) _).setCell (p:=⟨H+1,5,none⟩) (fun _=>rfl) _
       (have hH1:H+1<wr.heap.size:=by have:=(HBR.out.fresh HF3.out).lt;have:=HU.out.size;omega);have hr5:=HR2.out.upd u5 (fun b _ hb e=>by have:=hb.1;omega);have HR5:=hd_ hr5;have HB5:=hd_ hb5;have HU5:=hd_ u5;have HH1:=hd_ hH1;have HEN:=hd_ (Xh _ A2 n2 c2 mn 2 lgx (pkN T l 2).2.2.1 w5 hr5.1 HK5.out.2.1 (by have h1:=HK5.out.2.2;have h2:=HN2.out;omega));(have hbl:Blk w5 (H+1) 69 #[.int .i64 (if 0<2 then(pkN T l 0).2.1 else T.lL),.slice A' n' c',.int .i64 (if 1<2 then(pkN T l 1).2.1 else T.lO),.slice B' m' d',.int .i64 lgx,.slice A2 n2 c2]:=by simpa using hb5);have HBL:=hd_ hbl;obtain⟨j0,j1,j2,j3,j4,j5⟩:=(hbl).cells6;clear hw5 u5 hb5 hr5 hbl y0 y1 hH1;go_wp2_with fail;refine HEN.out.mono ?_;rintro e w6 ⟨ve,rfl,nb⟩;obtain⟨A8,c8,hve,hc8,hr8⟩:=nb.1.form;(have hbl8:(Q9 (Qy mn 2 lgx (pkN T l 2).2.2.1).2).length=(Qy mn 2 lgx (pkN T l 2).2.2.1).2.length:=by simp [Q9]);rw [hbl8]at hve hr8;clear hbl8 hc8;subst hve;have hu46:∀b,u4.ownBlock=some b->b<wo.heap.size/\b≠H+1:=fun b hb=>⟨HOR.out.lt hb,fun e=>HOR.out.ne_blk HBR.out (by decide) (by rw [hb,e])⟩;have o6:=((((HOR.out.fresh HF3.out).upd HU.out (fun b hb e=>by have:=(hu46 b hb).1;have:=HXN.out;omega)).fresh HF4.out).upd HU5.out (fun b hb e=>(hu46 b hb).2 e)).fresh nb.2.1;have hh6:Q9 (Yj T l 2) = .int .u8 (Y3 T l 2:Nat)::Q9 (Ye T l 2):=rfl;rw [hh6]at o6;obtain⟨g4,c4,hu4,hg4,hcl4,hfz4,hset4⟩:=o6.head;have HU46:=hd_ hu46;have HVB':=hd_ HVB.out;have HG':=hd_ HG.out;obtain⟨nt,hnt⟩:=nm_ ((Q9 (Ye T l 2)).length+1);rw [<-hnt]at hu4;(have hnt0:0<nt:=by omega);have HNT:=hd_ hnt;clear hnt;subst hu4;have hmb:=Q0p (T:=T) (l:=l) (fun j hj=>(HPK.out j hj).2.1) 2 (by omega);have hor:=Q1U (Y3 T l 2) mn 2 (by omega) hmb (by omega);have HMB:=hd_ (show Y3 T l (2+1)=Y3 T l 2+4^2*mn from Q0d T l 2 mn (by omega) HMN.out);have HTB:=hd_ (show Ye T l (2+1)=Ye T l 2++QZ T l 2 from XA T l 2 (by omega));have HSET:=hd_ hset4;have hcl4':w6.cell? ⟨g4,0,none⟩=some (.int .u8 (Y3 T l 2:Nat)):=hcl4;have hfz4':w6.frozen? ⟨g4,0,none⟩=false:=hfz4;have HNB:=hd_ nb;have HR8:=hd_ hr8;have HVE:=hd_ (fun b (hb:(Value.slice A8 (Qy mn 2 lgx (pkN T l 2).2.2.1).2.length c8).ownBlock=some b)=>(show b≠g4 from fun e=>by have h1:=nb.2.2 b hb;have h2:=(hu46 g4 rfl).1;have h3:=HU5.out.size;have h4:=HF4.out.size;have h5:=HU.out.size;have h6:=HF3.out.size;omega));clear nb hr8 hu46 o6 hh6 hcl4 hfz4 hset4 hmb;(have hwz:IntKind.i64.wrap 4=4:=by decide);have hsl:∀W,(Op.shift .shl .u8 (IntKind.u8.wrap (mn:Int)) .i64 4).run Tryz.prog W = .ok (.int .u8 (IntKind.u8.wrap (IntKind.u8.wrap (mn:Int)*2^(2*2)))) W:=fun W=>Q3A (IntKind.u8.wrap (mn:Int)) (2*2) W (by omega);(have hor':bits .or .u8 (Y3 T l 2:Int) ((mn:Int)*16)=(Y3 T l (2+1):Nat):=by rw [HMB.out,<-hor];congr 1;rw [IntKind.wrap_u8',IntKind.wrap_u8'];omega)
       clear hor;go_upto_region 17 with fail;go_still_tail 10,(by kernel_rfl);change wpList _ _ _ _ _ w6.drew
       have h16:(Ye T l 2).length<=3000:=by
         have e0:=YJ (pkN T l 0).1 0 (pkN T l 0).2.1 (pkN T l 0).2.2.1 (by omega);have e1:=YJ (pkN T l 1).1 1 (pkN T l 1).2.1 (pkN T l 1).2.2.1 (by omega);have e2:=YJ (pkN T l 2).1 2 (pkN T l 2).2.1 (pkN T l 2).2.2.1 (by omega);simp [Ye,QZ];(try omega)
       have h17:(Qy mn 2 lgx (pkN T l 2).2.2.1).2.length<=1000:=YJ mn 2 lgx (pkN T l 2).2.2.1 (by omega);have HOS:=hd_ (show Own (w6.setCell ⟨g4,0,none⟩ (.int .u8 (bits .or .u8 (Y3 T l 2:Int) ((mn:Int)*16)))).drew 5 (.slice (some ⟨g4,0,none⟩) nt c4) (.int .u8 (Y3 T l (2+1):Nat)::Q9 (Ye T l 2))from by rw [hor'];exact(HSET.out (.int .u8 (Y3 T l (2+1):Nat))).drew);clear hsl hwz hor';(have hln:(Value.int .u8 (Y3 T l (2+1):Nat)::Q9 (Ye T l 2)).length+(Qy mn 2 lgx (pkN T l 2).2.2.1).2.length<=2^40:=by simp [Q9];omega);go_wp2_with (at_builtin;go_must (refine YW _ rfl (.tmp 72) (.tmp 73) _ rfl 5 _ 1 Tryz.underlying26 Ku rfl (.slice (some ⟨g4,0,none⟩) nt c4) _ rfl HOS.out _ _ _ _ rfl (HR8.out.upd (S:=fun b=>b=g4) (((Upd.refl (fun b=>b=g4) w6).setCell (p:=⟨g4,0,none⟩) (fun _=>rfl) _).drew) (fun b _ hb e=>HVE.out b hb e)) (Kd _) (by omega) (by simpa [Q9]using hln) ?_));intro v7 w7 o7 g7 a7;have hg4:=(HU46.out g4 rfl);have hg4w:w.heap.size<=g4:=HVB'.out g4 rfl;have s1:=HF3.out.size;have s2:=HU.out.size;have s3:=HF4.out.size;have s4:=HU5.out.size;have s5:=HNB.out.2.1.size;have hxw:X=wo.heap.size:=HXN.out;have hHH:=HH.out;have hh1:=HH1.out;have u56:Upd (fun b=>b=H+1\/b=g4) w5 w7:=(((HNB.out.2.1.mono (T:=fun b=>b=H+1\/b=g4) fun _ _ h=>h.elim).setCell (p:=⟨g4,0,none⟩) (fun _=>.inr rfl) _).drew).grown g7 (fun k hk _=>by injection hk with hk;exact .inr hk.symm);have u47:Upd (fun b=>b=H+1\/b=g4) w4 w7:=(HU5.out.mono fun _ _ h=>.inl h).trans' u56;have u07:Upd (fun b=>b=H+1\/b=g4) wo w7:=((((HF3.out.mono fun _ _ h=>h.elim).trans HU.out (fun b hb e=>by omega)).trans' (HF4.out.mono fun _ _ h=>h.elim))).trans' u47;have hb7:=((HBL.out.fresh HNB.out.2.1).far (p:=⟨g4,0,none⟩) (fun e=>hg4.2 e.symm) (.int .u8 (bits .or .u8 (Y3 T l 2:Int) ((mn:Int)*16)))).drew.grown g7 (fun h=>by injection h with h;exact hg4.2 h)
       have e7:(Value.int .u8 (Y3 T l (2+1):Nat)::Q9 (Ye T l 2))++Q9 (Qy mn 2 lgx (pkN T l 2).2.2.1).2=Q9 (Yj T l (2+1)):=by
         unfold Yj;rw [HTB.out];unfold QZ;rw [HMN.out,<-HLX.out];simp [Q9]
       (have o7':Own w7 5 v7 (Q9 (Yj T l (2+1))):=by rw [<-e7];exact o7);have s7:=u47.size;have HU07:=hd_ u07;have HB7:=hd_ hb7;have HO7:=hd_ o7';have HR7:=hd_ (HR5.out.upd u56 (fun b _ hb e=>by rcases e with e|e<;>omega))
       have HVB7:=hd_ (fun b (hb:v7.ownBlock=some b)=>(show w.heap.size<=b by
         rcases a7 with h|h
         . rw [h]at hb;injection hb with hb;have hb':g4=b:=hb;omega
         rw [h]at hb;injection hb with hb;have:=HFR.out.size;omega))
       have HG7:=hd_ (fun b (hb:G b\/(wr.heap.size<=b/\b<w4.heap.size))=>(show w.heap.size<=b/\b<w7.heap.size/\b≠H+1/\v7.ownBlock≠some b by
         have hfw:=HFR.out.size;have hh1:=HH1.out;rcases hb with hb|hb
         . obtain⟨q1,q2,q3,q4⟩:=HG'.out b hb
           have hgb:g4≠b:=fun e=>q4 (by rw [<-e];rfl);refine⟨q1,by omega,q3,fun h=>?_⟩;rcases a7 with h'|h'
           . rw [h']at h;injection h with h;exact hgb h
           rw [h']at h;injection h with h;omega
         refine⟨by omega,by omega,by omega,fun h=>?_⟩;rcases a7 with h'|h'
         . rw [h']at h;injection h with h;have h:g4=b:=h;omega
         rw [h']at h;injection h with h;omega))
       have HFW7:=hd_ (show Q0 w w7 from HFR.out.trans u07 (fun b hb e=>by rcases e with e|e<;>omega));have HSF:=hd_ (fun b (hf:F b/\b<w.heap.size) (e:b=H+1\/b=g4)=>(show False by have:=hf.2;rcases e with e|e<;>omega))
       have HSG:=hd_ (fun b (hb:G b) (e:b=H+1\/b=g4)=>(show False by
         obtain⟨q1,q2,q3,q4⟩:=HG'.out b hb;rcases e with e|e
         . exact q3 e
         exact q4 (by rw [e];rfl)))
       clear hg4 hg4w s1 s2 s3 s4 s5 hxw hHH hh1 u56 u47 u07 hb7 e7 o7 o7' a7 g7 s7 h16 h17 hln;go_wp2_with fail;go_roundg 0
       case measure=>omega
       case rel =>
         refine⟨3,A',B',A2,n',c',m',d',n2,c2,fun b=>G b\/(wr.heap.size<=b/\b<w4.heap.size),rfl,by go_num,rfl,HFW7.out,?_,?_,?_,?_,HO7.out,HVB7.out,HG7.out⟩
         . have hh:=HB7.out
           rw [HLX.out]at hh;simpa using hh
         . exact(show RdU wo G A' n' (Q2 (pkN T l 0).2.2.1)from HT.out.1).upd HU07.out (fun b _ hb e=>HSG.out b hb e) |>.mono fun b hb=>.inl hb
         . exact(show RdU wo G B' m' (Q2 (pkN T l 1).2.2.1)from HT.out.2.1).upd HU07.out (fun b _ hb e=>HSG.out b hb e) |>.mono fun b hb=>.inl hb
         exact HR7.out.mono fun b hb=>.inr hb
   (obtain rfl:gk=0:=by omega);clear hjf;obtain⟨x0,hx0⟩:∃q,q=(pkN T l 0).2.1:=⟨_,rfl⟩;obtain⟨x1,hx1⟩:∃q,q=(pkN T l 1).2.1:=⟨_,rfl⟩;obtain⟨x2,hx2⟩:∃q,q=(pkN T l 2).2.1:=⟨_,rfl⟩;(have hb3:Blk wr (H+1) 69 #[.int .i64 x0,.slice A' n' c',.int .i64 x1,.slice B' m' d',.int .i64 x2,.slice C' k' e']:=by rw [hx0,hx1,hx2];simpa using HBR.out);have y0:=hb3.cell 0;have y1:=hb3.cell 1;have y2:=hb3.cell 2;have y3:=hb3.cell 3;have y4:=hb3.cell 4;have y5:=hb3.cell 5;have z0:=hb3.frozen 0;have z1:=hb3.frozen 1;have z2:=hb3.frozen 2;have z3:=hb3.frozen 3;have z4:=hb3.frozen 4;have z5:=hb3.frozen 5;simp at y0 y1 y2 y3 y4 y5;have t0:RdU wr G A' n' (Q2 (Yd T l).NL):=HT.out.1;have t1:RdU wr G B' m' (Q2 (Yd T l).NO):=HT.out.2.1;have t2:RdU wr G C' k' (Q2 (Yd T l).NM):=HT.out.2.2;have HB3:=hd_ hb3
   have HP:=hd_ (show ∀W,Upd (fun b=>b=H+1) wr W->XB T l w (.returned (.tuple #[u4,.agg #[.int .i64 x0,.slice A' n' c',.int .i64 x1,.slice B' m' d',.int .i64 x2,.slice C' k' e'],.int .i64 0])) W from by
     intro W u6;have hG6:∀b,b<wr.heap.size->G b->¬b=H+1:=fun b _ hb e=>(HG.out b hb).2.2.1 e;have hHH:=HH.out;subst hx0 hx1 hx2;refine⟨HFR.out.trans u6 (fun b hb e=>by omega),u4,A',n',c',B',m',d',C',k',e',rfl,HOR.out.upd u6 (fun b hb e=>by subst e;exact HOR.out.ne_blk HB3.out (by decide) hb),HVB.out,?_,?_,?_⟩
     . exact(t0.upd u6 hG6).mono fun b hb=>(HG.out b hb).1
     . exact(t1.upd u6 hG6).mono fun b hb=>(HG.out b hb).1
     exact(t2.upd u6 hG6).mono fun b hb=>(HG.out b hb).1)
   clear hb3 t0 t1 t2 hx0 hx1 hx2 HT HBR HOR HVB HG;go_upto_region 20 with fail;go_still_tail 3,(by kernel_rfl);change wpList _ _ _ _ _ wr.drew;go_wp2_with fail;have u6:=Q05 wr (H+1) (.int .i64 x0) (.slice A' n' c') (.int .i64 x1) (.slice B' m' d') (.int .i64 x2) (.slice C' k' e');have b6:=HB3.out.set6 (.int .i64 x0) (.slice A' n' c') (.int .i64 x1) (.slice B' m' d') (.int .i64 x2) (.slice C' k' e');generalize ((((((wr.setCell ⟨H+1,0,none⟩ (.int .i64 x0)).setCell ⟨H+1,1,none⟩ (.slice A' n' c')).setCell ⟨H+1,2,none⟩ (.int .i64 x1)).setCell ⟨H+1,3,none⟩ (.slice B' m' d')).setCell ⟨H+1,4,none⟩ (.int .i64 x2)).setCell ⟨H+1,5,none⟩ (.slice C' k' e'))=w9 at *;refine bodyPost_ret (VU rfl _ _ (H+1) 69 _ _ rfl b6.drew Tryz.underlying69 rfl (by kernel_rfl)) rfl ?_;exact hR.out _ _ (HP.out _ u6.drew)
end Go.Proofs.YtjfdaphjijfieaaGreat
namespace Go.Proofs.YtjfdaphjijfieaaGreat
def Ka (T:Qa) (a b c:Int) (l:List (Int × Int × Int)):List Nat :=
  l.length::(Yj T (Qr a b c l) 3++QN (wrE (Yd T (Qr a b c l)).trks (Qr a b c l)++[true]))
theorem Q5H {T:Qa} {l:List Qb} (hl:l.length<=65536) (hne:l≠[]) (hok:∀x∈l,x.ok) (B0 rest:List Nat)
   (h3:∀i:Nat,i<=2->(pkN T l i).1=3->(if i=0 then T.lL else if i=1 then T.lO else T.lM)=(pkN T l i).2.1/\(if i=0 then T.NL else if i=1 then T.NO else T.NM)=(pkN T l i).2.2.1) :
   QK (B0++(Yj T l 3++rest)) B0.length T=(0,Yd T l,B0.length+(Yj T l 3).length):=by
 obtain⟨_,⟨m0a,m0b⟩,_,e0,_⟩:=YP (T:=T) hl hne hok 0 (by omega);obtain⟨_,⟨m1a,m1b⟩,_,e1,_⟩:=YP (T:=T) hl hne hok 1 (by omega);obtain⟨_,⟨m2a,m2b⟩,_,e2,_⟩:=YP (T:=T) hl hne hok 2 (by omega);have t0:=h3 0 (by omega);have t1:=h3 1 (by omega);have t2:=h3 2 (by omega);simp at t0 t1 t2 e0 e1 e2;obtain⟨x,hx⟩:=nm_ (Y3 T l 3);(have hxe:x=(pkN T l 0).1.toNat+4*(pkN T l 1).1.toNat+16*(pkN T l 2).1.toNat:=by rw [hx];simp [Y3]);(have hhd:Yj T l 3=x::(QZ T l 0++(QZ T l 1++QZ T l 2)):=by rw [hx];simp [Yj,Ye]);(have x64:¬64<=x:=by omega);(have g0:((x%4:Nat):Int)=(pkN T l 0).1:=by omega);(have g1:((x / 4%4:Nat):Int)=(pkN T l 1).1:=by omega);(have g2:((x / 16%4:Nat):Int)=(pkN T l 2).1:=by omega);rw [hhd];have d0:=Q1f (p:=0) (l0:=T.lL) (N0:=T.NL) e0 t0 (B0++[x]) (QZ T l 1++(QZ T l 2++rest));have d1:=Q1f (p:=1) (l0:=T.lO) (N0:=T.NO) e1 t1 (B0++([x]++QZ T l 0)) (QZ T l 2++rest);have d2:=Q1f (p:=2) (l0:=T.lM) (N0:=T.NM) e2 t2 (B0++([x]++(QZ T l 0++QZ T l 1))) rest;obtain⟨bs,hbs⟩:=nm_ (B0++(x::(QZ T l 0++(QZ T l 1++QZ T l 2))++rest));(have q0:B0++[x]++(QZ T l 0++(QZ T l 1++(QZ T l 2++rest)))=bs:=by rw [hbs];simp);(have q1:B0++([x]++QZ T l 0)++(QZ T l 1++(QZ T l 2++rest))=bs:=by rw [hbs];simp);(have q2:B0++([x]++(QZ T l 0++QZ T l 1))++(QZ T l 2++rest)=bs:=by rw [hbs];simp);have r0:(Qy (pkN T l 0).1 0 (pkN T l 0).2.1 (pkN T l 0).2.2.1).2=QZ T l 0:=rfl;have r1:(Qy (pkN T l 1).1 1 (pkN T l 1).2.1 (pkN T l 1).2.2.1).2=QZ T l 1:=rfl;have r2:(Qy (pkN T l 2).1 2 (pkN T l 2).2.1 (pkN T l 2).2.2.1).2=QZ T l 2:=rfl;rw [r0,q0]at d0;rw [r1,q1]at d1;rw [r2,q2]at d2;rw [<-hbs];(have hlt:B0.length<bs.length:=by rw [hbs];simp);(have hget:bs[B0.length]?.getD 0=x:=by rw [hbs];simp);(have n0:(B0++[x]).length=B0.length+1:=by simp);(have n1:(B0++([x]++QZ T l 0)).length=B0.length+1+(QZ T l 0).length:=by simp;omega);(have n2:(B0++([x]++(QZ T l 0++QZ T l 1))).length=B0.length+1+(QZ T l 0).length+(QZ T l 1).length:=by simp;omega);rw [n0]at d0;rw [n1]at d1;rw [n2]at d2;unfold QK;rw [if_pos hlt];simp only [hget];rw [if_neg x64,g0,g1,g2,d0];simp only;rw [d1];simp only;rw [d2];simp [Yd];omega
theorem Q8I {T:Qa} {l:List Qb} (hl:l.length<=65536) (hne:l≠[]) (hok:∀x∈l,x.ok) (i:Nat) (hi:i<=2) (h3:(pkN T l i).1=3) :
   (if i=0 then T.lL else if i=1 then T.lO else T.lM)=(pkN T l i).2.1/\(if i=0 then T.NL else if i=1 then T.NO else T.NM)=(pkN T l i).2.2.1:=by
 have key:∀(j:Nat) (lg:Int) (N:List Int),j<=2->pkN T l j=Qx j lg N (QY j l)->(pkN T l j).2.2.2=0->(pkN T l j).1=3->lg=(pkN T l j).2.1/\N=(pkN T l j).2.2.1:=by
   intro j lg N hj e h0 h3;have h4:=(Q06 (p:=(j:Int)) (lg:=lg) (N:=N) (C:=QY j l) (r1:=(pkN T l j).1) (r2:=(pkN T l j).2.1) (r3:=(pkN T l j).2.2.1) (by omega) (by rw [<-e,<-h0])).2.2.1;rw [h3]at h4;unfold J9 at h4;rcases List.mem_cons.1 h4 with h4|h4
   . injection h4 with _ h4
     injection h4 with h5 h6;exact⟨h5.symm,h6.symm⟩
   exfalso;rcases List.mem_cons.1 h4 with h4|h4
   . injection h4 with h5 _
     omega
   split at h4
   . simp at h4
     have h5:=h4.1;(split at h5<;>omega)
   cases h4
 have h0:=(YP (T:=T) hl hne hok i hi).1;(have h3':i=0\/i=1\/i=2:=by omega);rcases h3' with rfl|rfl|rfl
 . exact key 0 T.lL T.NL (by omega) rfl h0 h3
 . exact key 1 T.lO T.NO (by omega) rfl h0 h3
 exact key 2 T.lM T.NM (by omega) rfl h0 h3
theorem Q1V {T:Qa} {l:List Qb} (hl:l.length<=65536) (hne:l≠[]) (hok:∀x∈l,x.ok):(Yd T l).trks.ok/\∀x∈l,Cov (Yd T l).trks x:=by
 obtain⟨_,_,v0,_,c0,_⟩:=YP (T:=T) hl hne hok 0 (by omega);obtain⟨_,_,v1,_,c1,_⟩:=YP (T:=T) hl hne hok 1 (by omega);obtain⟨_,_,v2,_,c2,_⟩:=YP (T:=T) hl hne hok 2 (by omega);(have i0:((pkN T l 0).2.1.toNat:Int)=(pkN T l 0).2.1:=by have:=v0.1;omega);(have i1:((pkN T l 1).2.1.toNat:Int)=(pkN T l 1).2.1:=by have:=v1.1;omega);(have i2:((pkN T l 2).2.1.toNat:Int)=(pkN T l 2).2.1:=by have:=v2.1;omega);refine⟨⟨?_,?_,?_⟩,fun x hx=>⟨c0 x hx,c1 x hx,c2 x hx⟩⟩
 . simp only [Yd,Qa.trks];rw [i0];exact v0
 . simp only [Yd,Qa.trks];rw [i1];exact v1
 simp only [Yd,Qa.trks];rw [i2];exact v2
theorem Vr:∀(l:List (Int × Int × Int)) (a b c:Int),(Qr a b c l).length=l.length
 | [],_,_,_=>rfl
 | s::l,a,b,c=>by simp [Qr,Vr l]
theorem Q8J {T:Qa} {a b c:Int} {l:List (Int × Int × Int)} (hr:Qz a b c=true) (hs:∀s∈l,okS s) (hn:l.length<128) (hne:l≠[]) :
   Ys (Ka T a b c l) 0 T a b c=⟨0,l,Yd T (Qr a b c l),(JF a b c l).1,(JF a b c l).2.1,(JF a b c l).2.2,(Ka T a b c l).length⟩:=by
 obtain⟨R,hR⟩:=nm_ (Qr a b c l);(have hlen:R.length=l.length:=by rw [hR];exact Vr l a b c);(have hok:∀x∈R,x.ok:=by rw [hR];exact X1 hs);(have hRn:R≠[]:=by intro h;rw [h]at hlen;exact hne (List.eq_nil_of_length_eq_zero hlen.symm));have hpos:0<l.length:=List.length_pos_iff.2 hne
 have hv:QH ((Ka T a b c l).drop 0)=(l.length,1,0):=by
   (have h1:¬128<=l.length:=by omega);(have h2:¬(4611686018427387903<0+l.length%128*2^(7*0)):=by omega);(have h4:l.length%128=l.length:=by omega);simp only [List.drop_zero,Ka,QH,VM];rw [if_neg h1,if_neg (by omega),if_neg h2,h4];simp
 have hh:=Q5H (T:=T) (l:=R) (by omega) hRn hok [l.length] (QN (wrE (Yd T R).trks R++[true])) (fun i hi h3=>Q8I (by omega) hRn hok i hi h3);obtain⟨k1,k2⟩:=Q1V (T:=T) (l:=R) (by omega) hRn hok;have hcl:=Q5z (wrE (Yd T R).trks R);have hall:=Q8l (V:=Qu (QN (wrE (Yd T R).trks R++[true]))) k1 hRn (fun y hy=>⟨hok y hy,k2 y hy⟩) hcl.2.2;have hoff:=Q2l (a:=a) (b:=b) (c:=c) hs;rw [<-hR]at hoff;(have hE:Ka T a b c l=[l.length]++(Yj T R 3++QN (wrE (Yd T R).trks R++[true])):=by rw [hR];rfl);rw [<-hR];refine Q4C (to_:=1+(Yj T R 3).length) hr (by rw [hv]) (by rw [hv];simp only;omega) (by rw [hv];simp only;omega) ?_ ?_
 . rw [hv,hE]
   exact hh
 have hdrop:(Ka T a b c l).drop (1+(Yj T R 3).length)=QN (wrE (Yd T R).trks R++[true]):=by
   rw [hE,<-List.append_assoc];exact List.drop_left' (by simp;omega)
 rw [hdrop,hv];simp only;unfold Zz;rw [if_neg hcl.2.1,hcl.1,<-hlen,hall];simp only;rw [if_neg (by simp),hoff]
def okX (s:Nat × Int):Prop:=s.2=0\/s.2=14
end Go.Proofs.YtjfdaphjijfieaaGreat
namespace Go.Proofs.YtjfdaphjijfieaaGreat
open Go.RowKit
def Wok (w:World) (F:Nat->Prop) (A:Option Addr) (n:Nat):Prop:=∀j,j<n->∃b o t cs,A=some ⟨b,o,none⟩/\F b/\Blk w b t cs/\o+j<cs.size
theorem RdU.wok {w:World} {F:Nat->Prop} {A:Option Addr} {n:Nat} {xs:List Value} (h:RdU w F A n xs):Wok w F A n:=by
 intro j hj;obtain⟨b,o,t,cs,e,hf,hb⟩:=h.2 (by omega);obtain⟨b',o',e',_,_,hc⟩:=h.1.2 (by omega);rw [e]at e';injection e' with e';injection e' with e1 e2;subst e1 e2;have h1:=hc j hj;rw [hb.cell,List.getElem?_eq_getElem (by rw [h.1.1];exact hj)]at h1;exact⟨b,o,t,cs,e,hf,hb,(Array.getElem?_eq_some_iff.1 h1).1⟩
theorem Wok.put {w:World} {F:Nat->Prop} {A:Option Addr} {n:Nat} (h:Wok w F A n) (b i:Nat) (u:Value):Wok (w.setCell ⟨b,i,none⟩ u) F A n:=by
 intro j hj;obtain⟨b',o,t,cs,e',hf,hb,hl⟩:=h j hj;by_cases hbb:b'=b
 . subst hbb
   exact⟨b',o,t,_,e',hf,hb.set_ i u,by simpa using hl⟩
 exact⟨b',o,t,cs,e',hf,hb.far (p:=⟨b,i,none⟩) hbb u,hl⟩
theorem Wok.fresh {w w':World} {F:Nat->Prop} {A:Option Addr} {n:Nat} (h:Wok w F A n) (f:Q0 w w'):Wok w' F A n:=by
 intro j hj;obtain⟨b,o,t,cs,e,hf,hb,hl⟩:=h j hj;exact⟨b,o,t,cs,e,hf,hb.fresh f,hl⟩
theorem Wok.mono {w:World} {F G:Nat->Prop} {A:Option Addr} {n:Nat} (h:Wok w F A n) (hg:∀b,F b->G b):Wok w G A n:=by
 intro j hj;obtain⟨b,o,t,cs,e,hf,hb,hl⟩:=h j hj;exact⟨b,o,t,cs,e,hg b hf,hb,hl⟩
theorem Q0e (S:Nat->Prop) (D A B C:Option Addr) (h i n c m d k e:Nat) (x y z r0 r1 r2:Int) (w:World) (hS:∀b,S b->b<w.heap.size)
   (p0:Wok w S D h) (p1:Wok w S A n) (p2:Wok w S B m) (p3:Wok w S C k) (b0:h<=2^40) (b1:n<=2^40) (b2:m<=2^40) (b3:k<=2^40) (X:List (Option Addr × Nat × Nat)) (hX:∀p∈X,Wok w S p.1 p.2.1/\p.2.1<=2^40) :
   Calls Tryz.prog 29 #[.agg #[.slice D h i,.int .i64 x,.slice A n c,.int .i64 y,.slice B m d,.int .i64 z,.slice C k e,.int .i64 r0,.int .i64 r1,.int .i64 r2]] w fun e' w'=>e' = .returned (.tuple #[])/\Upd S w w'/\∀p∈X,Wok w' S p.1 p.2.1:=by
 obtain⟨w0,hw0⟩:=nm_ (w.alloc (.cells #[.slice D h i,.int .i64 x,.slice A n c,.int .i64 y,.slice B m d,.int .i64 z,.slice C k e,.int .i64 r0,.int .i64 r1,.int .i64 r2] 32));obtain⟨H,hH⟩:=nm_ (w.heap.size);obtain⟨w1,hw1⟩:=nm_ (w0.alloc (.cells #[.slice D h i,.slice A n c,.slice B m d,.slice C k e] 27));(have f0:Q0 w w0:=by rw [hw0];exact(Upd.refl _ _).alloc _);(have f1:Q0 w w1:=by rw [hw1];exact f0.alloc _);(have bc:Blk w0 H 32 #[.slice D h i,.int .i64 x,.slice A n c,.int .i64 y,.slice B m d,.int .i64 z,.slice C k e,.int .i64 r0,.int .i64 r1,.int .i64 r2]:=by rw [hw0];exact Q1 hH _ _);(have hs0:w0.heap.size=H+1:=by rw [hw0,hH];simp);(have bl:Blk w1 (H+1) 27 #[.slice D h i,.slice A n c,.slice B m d,.slice C k e]:=by rw [hw1];exact Q1 hs0.symm _ _)
 have HL:=hd_ (show ∃f:Nat->Option Addr × Nat × Nat,(∀j,j<4->f j∈[(D,h,i),(A,n,c),(B,m,d),(C,k,e)]++X)/\∀W,Upd S w1 W->∀j,j<4->W.cell? ⟨H+1,j,none⟩=some (.slice (f j).1 (f j).2.1 (f j).2.2)from by
   refine⟨fun j=>[(D,h,i),(A,n,c),(B,m,d),(C,k,e)].getD j (none,0,0),fun j hj=>?_,fun W hu j hj=>?_⟩
   . have hj4:j=0\/j=1\/j=2\/j=3:=by omega
     (rcases hj4 with rfl|rfl|rfl|rfl<;>simp)
   have bb:=bl.upd hu (fun hs=>by have:=hS _ hs;omega);(have hj4:j=0\/j=1\/j=2\/j=3:=by omega);rcases hj4 with rfl|rfl|rfl|rfl
   . simpa using bb.cell 0
   . simpa using bb.cell 1
   . simpa using bb.cell 2
   simpa using bb.cell 3)
 have HK:=hd_ (show ∀p∈[(D,h,i),(A,n,c),(B,m,d),(C,k,e)]++X,Wok w1 S p.1 p.2.1 from by
   intro p hp;rcases List.mem_append.1 hp with hp|hp
   rotate_left
   . exact(hX p hp).1.fresh f1
   simp at hp;rcases hp with rfl|rfl|rfl|rfl
   . exact p0.fresh f1
   . exact p1.fresh f1
   . exact p2.fresh f1
   exact p3.fresh f1)
 have HN:=hd_ (show ∀p∈[(D,h,i),(A,n,c),(B,m,d),(C,k,e)]++X,p.2.1<=2^40 from by
   intro p hp;rcases List.mem_append.1 hp with hp|hp
   rotate_left
   . exact(hX p hp).2
   simp at hp;rcases hp with rfl|rfl|rfl|rfl
   . exact b0
   . exact b1
   . exact b2
   exact b3)
 have F1:=hd_ f1;have HW:=hd_ hw0;have HW1:=hd_ hw1;have HH:=hd_ hH;have HS0:=hd_ hs0;have HUF:=hd_ (fun W (hu:Upd S w1 W)=>(f1.mono (T:=S) (fun _ _ h=>h.elim)).trans' hu);obtain⟨u0,u1,u2,u3,u4,u5,u6,u7,u8,u9⟩:=(bc).cells10;obtain⟨PL,hPL⟩:∃PL:List (Option Addr × Nat × Nat),PL=[(D,h,i),(A,n,c),(B,m,d),(C,k,e)]++X:=⟨_,rfl⟩;rw [<-hPL]at HL HK HN;have HPL:=hd_ (show ∀p∈X,p∈PL from fun p hp=>by rw [hPL];exact List.mem_append_right _ hp);clear hX hPL p0 p1 p2 p3 b0 b1 b2 b3 f0 f1 bc bl hw0 hw1 hH hs0 hS;obtain⟨f,hf1,hf2⟩:=HL.out;have HF1:=hd_ hf1;have HF2:=hd_ hf2;clear hf1 hf2 HL;refine Q6 fun R hR=>?_;go_enter Tryz.func29,Tryz.ntmps29;go_upto_region 1 with fail;simp only [<-HH.out,<-HW.out];go_upto_region 2 with fail;simp only [HS0.out];simp only [<-HW1.out];clear u0 u1 u2 u3 u4 u5 u6 u7 u8 u9;go_wp2_with fail;go_loopg [3] 4 (fun f vi wr=>∃j:Nat,j+f=4/\vi = .int .i64 j/\Upd S w1 wr/\∀p∈PL,Wok wr S p.1 p.2.1)
 case atStart=>exact⟨0,by omega,rfl,Upd.refl _ _,HK.out⟩
 case round =>
   obtain⟨j,hj,rfl,hu,hk⟩:=hrel;have HJ:=hd_ hj;have HU:=hd_ hu;have HP:=hd_ hk;by_cases hj4:j<4
   . have hjI:(j:Int)<4:=by omega
     clear hj hu hk;obtain⟨gq,rfl⟩:∃gq,gq=gk:=⟨gk,rfl⟩;have hmem:=HF1.out j hj4;have HCJ:=hd_ (fun W hu=>HF2.out W hu j hj4);generalize f j=pj at *;obtain⟨Aj,nj,cj⟩:=pj;have HM:=hd_ hmem;have HNJ:=hd_ (HN.out _ hmem);have hc0:=HCJ.out wr HU.out;simp only at hc0;clear hmem;go_wp2_with fail;go_loopg [4] nj (fun f2 vi wx=>∃q:Nat,q+f2=nj/\vi = .int .i64 q/\Upd S w1 wx/\∀p∈PL,Wok wx S p.1 p.2.1)
     case atStart=>exact⟨0,by omega,rfl,HU.out,HP.out⟩
     case round =>
       obtain⟨q,hq,rfl,hu2,hk2⟩:=hrel;have HQ:=hd_ hq;have HU2:=hd_ hu2;have HP2:=hd_ hk2;have hc1:=HCJ.out _ hu2;(try simp only at hc1);by_cases hqn:q<nj
       . have hqI:(q:Int)<nj:=by omega
         obtain⟨b,o,t,cs,hA,hSb,hb,hlt⟩:=hk2 _ HM.out q hqn;simp only at hA;subst hA;have hcc:=hb.cell (o+q);rw [Array.getElem?_eq_getElem hlt]at hcc;have hfz:=hb.frozen (o+q);have hw4:IntKind.i64.wrap ((q:Int)+1)=q+1:=IntWalk.i64_in _ (by have:=HNJ.out;(try simp only at this);omega);have HSB:=hd_ hSb;clear hq hu2 hk2 hb hSb;generalize cs[o+q]=v0 at *;clear hlt;go_wp2_with fail;go_roundg (gk-1)
         case measure=>have:=HQ.out;omega
         case rel=>exact⟨q+1,by have:=HQ.out;omega,by go_num,HU2.out.setCell (p:=⟨b,o+q,none⟩) (fun _=>HSB.out) _,fun p hp=>(HP2.out p hp).put b (o+q) _⟩
       (have hqI:¬(q:Int)<nj:=by omega);have hw4:IntKind.i64.wrap ((j:Int)+1)=j+1:=IntWalk.i64_in _ (by omega);clear hq hu2 hk2 hqn;go_wp2_with fail;go_roundg (gq-1)
       case measure=>have:=HJ.out;omega
       case rel=>exact⟨j+1,by have:=HJ.out;omega,by go_num,HU2.out,HP2.out⟩
   (have hjI:¬(j:Int)<4:=by omega);clear hj hu hk;go_wp2_with fail;(try go_end0);exact hR.out _ _ ⟨rfl,HUF.out _ HU.out,fun p hp=>HP.out p (HPL.out p hp)⟩
end Go.Proofs.YtjfdaphjijfieaaGreat
