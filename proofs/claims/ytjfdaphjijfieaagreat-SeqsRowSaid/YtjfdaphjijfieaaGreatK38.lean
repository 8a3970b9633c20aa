/-
  Joined texts, part 38: contracts and plain lemmas.
  Conditions: none beyond those of each theorem.
-/
import Derived.Test.YtjfdaphjijfieaaGreatK37
set_option maxHeartbeats 20000000
set_option linter.unusedVariables false
set_option linter.unusedSimpArgs false
set_option maxRecDepth 100000
universe u
namespace Go.Proofs.YtjfdaphjijfieaaGreat
open Go.RowKit
def pkN (T:Qa) (l:List Qe) (i:Nat):Int × Int × List Int × Int :=
  if i=0 then QI 0 T.lL T.NL (Yd 0 l)else if i=1 then QI 1 T.lO T.NO (Yd 1 l)else QI 2 T.lM T.NM (Yd 2 l)
def Qq (T:Qa) (l:List Qe) (i:Nat):List Nat:=(QD (pkN T l i).1 (i:Nat) (pkN T l i).2.1 (pkN T l i).2.2.1).2
def Y9 (T:Qa) (l:List Qe):Qa:=⟨(pkN T l 0).2.1,(pkN T l 0).2.2.1,(pkN T l 1).2.1,(pkN T l 1).2.2.1,(pkN T l 2).2.1,(pkN T l 2).2.2.1⟩
def Ya (T:Qa) (l:List Qe) (i:Nat):Nat:=(if 0<i then(pkN T l 0).1.toNat else 0)+(if 1<i then 4*(pkN T l 1).1.toNat else 0)+(if 2<i then 16*(pkN T l 2).1.toNat else 0)
def Yi (T:Qa) (l:List Qe) (i:Nat):List Nat:=(if 0<i then Qq T l 0 else [])++(if 1<i then Qq T l 1 else [])++(if 2<i then Qq T l 2 else [])
def QX (T:Qa) (l:List Qe) (i:Nat):List Nat:=Ya T l i::Yi T l i
theorem Q03 (T:Qa) (l:List Qe) (i:Nat) (h:i<=2):Yi T l (i+1)=Yi T l i++Qq T l i:=by
 (have h3:i=0\/i=1\/i=2:=by omega);(rcases h3 with rfl|rfl|rfl<;>simp [Yi])
theorem Q0L (T:Qa) (l:List Qe) (i mn:Nat) (h:i<=2) (hm:(pkN T l i).1=mn):Ya T l (i+1)=Ya T l i+4^i*mn:=by
 (have h3:i=0\/i=1\/i=2:=by omega);(rcases h3 with rfl|rfl|rfl<;>simp [Ya,hm])
theorem Q0U {T:Qa} {l:List Qe} (h:∀j:Nat,j<=2->0<=(pkN T l j).1/\(pkN T l j).1<=3) (i:Nat) (hi:i<=3):Ya T l i<4^i:=by
 have h0:=h 0 (by omega);have h1:=h 1 (by omega);have h2:=h 2 (by omega);(have h3:i=0\/i=1\/i=2\/i=3:=by omega);(rcases h3 with rfl|rfl|rfl|rfl<;>simp [Ya]<;>omega)
theorem Q4l {P:Program} (x:Int) (k:Nat) (W:World) (hk:k<8):(Op.shift .shl .u8 x .i64 (k:Nat)).run P W = .ok (.int .u8 (IntKind.u8.wrap (x*2^k))) W:=by
 (have h0:¬((k:Nat):Int)<0:=by omega);simp [Op.shift,h0,Sem.run_pure,IntKind.bits];(try omega)
theorem Q2r (a m:Nat) (i:Nat) (hi:i<=2) (ha:a<4^i) (hm:m<4):bits .or .u8 (a:Int) (IntKind.u8.wrap (IntKind.u8.wrap (m:Int)*2^(2*i)))=((a+4^i*m:Nat):Int):=by
 (have h3:i=0\/i=1\/i=2:=by omega);rcases h3 with rfl|rfl|rfl
 . have:∀(a:Fin 1) (m:Fin 4),bits .or .u8 ((a.val:Nat):Int) (IntKind.u8.wrap (IntKind.u8.wrap ((m.val:Nat):Int)*2^(2*0)))=((a.val+4^0*m.val:Nat):Int):=by decide +kernel
   exact this ⟨a,ha⟩ ⟨m,hm⟩
 . have:∀(a:Fin 4) (m:Fin 4),bits .or .u8 ((a.val:Nat):Int) (IntKind.u8.wrap (IntKind.u8.wrap ((m.val:Nat):Int)*2^(2*1)))=((a.val+4^1*m.val:Nat):Int):=by decide +kernel
   exact this ⟨a,ha⟩ ⟨m,hm⟩
 (have:∀(a:Fin 16) (m:Fin 4),bits .or .u8 ((a.val:Nat):Int) (IntKind.u8.wrap (IntKind.u8.wrap ((m.val:Nat):Int)*2^(2*2)))=((a.val+4^2*m.val:Nat):Int):=by decide +kernel);exact this ⟨a,ha⟩ ⟨m,hm⟩
def Q9C (w:World) (F G:Nat->Prop) (b:Prop) [Decidable b] (A:Option Addr) (n:Nat) (xs ys:List Value):Prop:=if b then RdU w G A n xs else Rd w F A n ys
theorem Q7Z (w:World) (e:TypeId) (u:Value):Own (w.alloc (.cells #[u] e)) e (.slice (some ⟨w.heap.size,0,none⟩) 1 1) [u] :=
 ⟨rfl,.inr ⟨w.heap.size,1,#[u],rfl,Nat.zero_le _,heap_alloc_new w _,Nat.le_refl _,by simp [maxLen],rfl,rfl⟩⟩
theorem Own.head {w:World} {e:TypeId} {v x:Value} {xs:List Value} (h:Own w e v (x::xs)):∃g c,v = .slice (some ⟨g,0,none⟩) (xs.length+1) c/\g<w.heap.size/\w.cell? ⟨g,0,none⟩=some x/\w.frozen? ⟨g,0,none⟩=false/\∀u,Own (w.setCell ⟨g,0,none⟩ u) e v (u::xs):=by
 rcases h.2 with ⟨_,h0⟩|⟨g,cap,cur,rfl,hb,hg,hn,hm,hc,ht⟩
 . simp at h0
 have hB:Blk w g e cur:=hg;(have ht':cur.toList.take (xs.length+1)=x::xs:=by simpa using ht)
 have h0:cur[0]?=some x:=by
   (have e1:(cur.toList.take (xs.length+1))[0]?=some x:=by rw [ht'];rfl);rw [List.getElem?_take,if_pos (by omega)]at e1;simpa using e1
 refine⟨g,cap,rfl,hB.lt,by rw [hB.cell,h0],hB.frozen 0,fun u=>⟨by simp,.inr ⟨g,cap,cur.setIfInBounds 0 u,rfl,Nat.zero_le _,hB.set_ 0 u,hn,hm,by simpa using hc,?_⟩⟩⟩;rw [Array.toList_setIfInBounds];(have e2:(u::xs).length*1=xs.length+1:=by simp);rw [e2,List.take_set,ht'];rfl
def Q04 (T:Qa) (l:List Qe) (w:World) (e:Ending) (w':World):Prop :=
  Q0 w w'/\∃v A n c B m d C k e',e = .returned (.tuple #[v,.agg #[.int .i64 (Y9 T l).lL,.slice A n c,.int .i64 (Y9 T l).lO,.slice B m d,.int .i64 (Y9 T l).lM,.slice C k e'],.int .i64 0]) /\
    Own w' 5 v (Qb (QX T l 3))/\(∀b,v.ownBlock=some b->w.heap.size<=b)/\RdU w' (fun b=>w.heap.size<=b) A n (Q2 (Y9 T l).NL)/\RdU w' (fun b=>w.heap.size<=b) B m (Q2 (Y9 T l).NO)/\RdU w' (fun b=>w.heap.size<=b) C k (Q2 (Y9 T l).NM)
theorem YC {T:Qa} {l:List Qe} (hl:l.length<=65536) (hne:l≠[]) (hok:∀x∈l,x.ok) (i:Nat) (hi:i<=2):(pkN T l i).2.2.2=0/\(0<=(pkN T l i).1/\(pkN T l i).1<=3)/\Qg (pkN T l i).2.1 (pkN T l i).2.2.1 (Ql i) (Qo i) /\
   (QD (pkN T l i).1 i (pkN T l i).2.1 (pkN T l i).2.2.1).1=0/\(∀x∈l,x.c i<(pkN T l i).2.2.1.length/\1<=(plN (pkN T l i).2.1.toNat (pkN T l i).2.2.1 (x.c i)).length)/\Fit (pkN T l i).2.2.1/\(pkN T l i).2.2.1.length<=1000:=by
 have key:∀(j:Nat) (lg:Int) (N:List Int),j<=2->pkN T l j=QI j lg N (Yd j l)->(pkN T l j).2.2.2=0/\(0<=(pkN T l j).1/\(pkN T l j).1<=3)/\Qg (pkN T l j).2.1 (pkN T l j).2.2.1 (Ql j) (Qo j) /\
   (QD (pkN T l j).1 j (pkN T l j).2.1 (pkN T l j).2.2.1).1=0/\(∀x∈l,x.c j<(pkN T l j).2.2.1.length/\1<=(plN (pkN T l j).2.1.toNat (pkN T l j).2.2.1 (x.c j)).length)/\Fit (pkN T l j).2.2.1/\(pkN T l j).2.2.1.length<=1000:=by
   intro j lg N hj e;rw [e];(have hp:0<=(j:Int)/\(j:Int)<=2:=by omega);obtain⟨u1,u2⟩:=Q9z (i:=j) hl hne hok;have h0:=Q4k (lg:=lg) (N:=N) hp (Qb0 hl) u1 u2 (Q9A hj hok);obtain⟨c1,c2,c3,c4,c5⟩:=Q6t hp h0;refine⟨h0,c1,c2,c3,fun x hx=>?_,fun y hy=>?_,?_⟩
   . obtain⟨c,hc,hc0⟩:=Q5q (i:=j) hx (Q0T (hok x hx) j).1
     exact c5 _ c hc hc0
   . have h1:=c2.2.2.2.2.2.2.1 y hy
     have h2:=KK hy;rw [c2.2.2.2.2.2.2.2]at h2;have h3:=c2.2.2.1;(have h4:(2:Int)^(QI j lg N (Yd j l)).2.1.toNat=((2^(QI j lg N (Yd j l)).2.1.toNat:Nat):Int):=by simp);have h5:2^(QI j lg N (Yd j l)).2.1.toNat<=2^9:=Nat.pow_le_pow_right (by decide) (by omega);(have h6:y<=Y0 y:=by unfold Y0;split<;>omega);omega
   have h1:=c2.2.2.2.2.1;have h2:=JL j;omega
 (have h3:i=0\/i=1\/i=2:=by omega);rcases h3 with rfl|rfl|rfl
 . exact key 0 T.lL T.NL (by omega) rfl
 . exact key 1 T.lO T.NO (by omega) rfl
 exact key 2 T.lM T.NM (by omega) rfl
theorem Q6w (F FL:Nat->Prop) (A B C D L:Option Addr) (n c m d k ce dn dc nl dl:Nat) (T:Qa) (l:List Qe) (r0 r1 r2:Int) (w:World) (hA:Rd w F A n (Q2 T.NL)) (hB:Rd w F B m (Q2 T.NO)) (hC:Rd w F C k (Q2 T.NM))
   (f1:Fit T.NL) (f2:Fit T.NO) (f3:Fit T.NM) (b1:(n:Int)<=1099511627776) (b2:(m:Int)<=1099511627776) (b3:(k:Int)<=1099511627776) (hL:RdK w FL 6 L nl (l.map Yw)) (hnl:nl<=65536) (hne:l≠[]) (hok:∀x∈l,x.ok) :
   Calls Tryz.prog 46 #[.agg #[.slice D dn dc,.int .i64 T.lL,.slice A n c,.int .i64 T.lO,.slice B m d,.int .i64 T.lM,.slice C k ce,.int .i64 r0,.int .i64 r1,.int .i64 r2],.slice L nl dl] w (Q04 T l w):=by
 (have hll:l.length=nl:=by have:=hL.1;simpa using this);have HPK:=hd_ (YC (T:=T) (by omega) hne hok);have HOK:=hd_ hok;obtain⟨H,hH⟩:=nm_ (w.heap.size);obtain⟨w0,hw0⟩:=nm_ (((w.alloc (.cells #[.slice D dn dc,.int .i64 T.lL,.slice A n c,.int .i64 T.lO,.slice B m d,.int .i64 T.lM,.slice C k ce,.int .i64 r0,.int .i64 r1,.int .i64 r2] 32)).alloc (.cells #[.int .i64 0,.slice none 0 0,.int .i64 0,.slice none 0 0,.int .i64 0,.slice none 0 0] 69)).alloc (.cells #[.int .u8 0] 5));(have f0:Q0 w w0:=by rw [hw0];exact(((Upd.refl _ _).alloc _).alloc _).alloc _);(have bt:Blk w0 (H+1) 69 #[.int .i64 0,.slice none 0 0,.int .i64 0,.slice none 0 0,.int .i64 0,.slice none 0 0]:=by rw [hw0];exact(Q1 (by simp [hH]) _ _).alloc _)
 have ob:Own w0 5 (.slice (some ⟨H+1+1,0,none⟩) 1 1) (Qb (QX T l 0)):=by
   have h:=Q7Z ((w.alloc (.cells #[.slice D dn dc,.int .i64 T.lL,.slice A n c,.int .i64 T.lO,.slice B m d,.int .i64 T.lM,.slice C k ce,.int .i64 r0,.int .i64 r1,.int .i64 r2] 32)).alloc (.cells #[.int .i64 0,.slice none 0 0,.int .i64 0,.slice none 0 0,.int .i64 0,.slice none 0 0] 69)) 5 (.int .u8 0);(have e1:((w.alloc (.cells #[.slice D dn dc,.int .i64 T.lL,.slice A n c,.int .i64 T.lO,.slice B m d,.int .i64 T.lM,.slice C k ce,.int .i64 r0,.int .i64 r1,.int .i64 r2] 32)).alloc (.cells #[.int .i64 0,.slice none 0 0,.int .i64 0,.slice none 0 0,.int .i64 0,.slice none 0 0] 69)).heap.size=H+1+1:=by simp [hH]);rw [e1,<-hw0]at h;(have e2:Qb (QX T l 0)=[.int .u8 0]:=by simp [Qb,QX,Yi,Ya]);rw [e2];exact h
 have q0:=(show Blk w0 H 32 #[.slice D dn dc,.int .i64 T.lL,.slice A n c,.int .i64 T.lO,.slice B m d,.int .i64 T.lM,.slice C k ce,.int .i64 r0,.int .i64 r1,.int .i64 r2] by rw [hw0];exact((Q1 hH _ _).alloc _).alloc _);have HTA:=hd_ (Vs A B C D n c m d k ce dn dc T.lL T.lO T.lM r0 r1 r2);have HF0:=hd_ f0;have HBT:=hd_ bt;have HOB:=hd_ ob;have HQ0:=hd_ q0;have HW:=hd_ hw0;have HH:=hd_ hH;have HRA:=hd_ (And.intro hA.both (And.intro hB.both hC.both));have HRL:=hd_ hL.both;have HFT:=hd_ (And.intro f1 (And.intro f2 f3));have HLN:=hd_ (And.intro b1 (And.intro b2 b3));have HLL:=hd_ hll;obtain⟨z0,z1,z2,z3,z4,z5,z6,z7,z8,z9⟩:=(q0).cells10;clear hll hok hH hw0 f0 bt ob q0 hA hB hC f1 f2 f3 b1 b2 b3 hL hne
 have hmk:∀W,(Instr.makeSlice 27 (.int .i64 44) (.int .i64 44)).run Tryz.prog W = .ok (.slice (some ⟨W.heap.size,0,none⟩) 44 44) (W.alloc (.cells (madeCells #[.int .i64 0] 44) 3)):=fun W=>by
   have:=run_make_row' (P:=Tryz.prog) 27 3 (.int .i64 0) 8 Tryz.underlying27 Zz rfl .i64 .i64 44 (by omega) (by omega) W;simpa using this
 obtain⟨cs,hcs⟩:=nm_ (madeCells #[Value.int .i64 0] 44);rw [<-hcs]at hmk
 have HCS:=hd_ (show ∀j:Nat,cs=(Q2 (Yd j [])).toArray from fun j=>by
   rw [hcs,Q9y]
   exact Array.toList_inj.1 (by rw [toList_madeCells_one];simp [Q2]))
 clear hcs;refine Q7 fun R hR=>?_;go_enter Tryz.func46,Tryz.ntmps46;go_upto_region 2 with fail;simp only [<-HH.out,<-HW.out];go_wp2_with fail;refine(HTA.out _).mono ?_;rintro e w1 ⟨rfl,f1⟩;have b1:=HBT.out.fresh f1;have y0:=b1.cell 0;have y1:=b1.cell 1;have y2:=b1.cell 2;have y3:=b1.cell 3;have y4:=b1.cell 4;have y5:=b1.cell 5;have x0:=b1.frozen 0;have x1:=b1.frozen 1;have x2:=b1.frozen 2;have x3:=b1.frozen 3;have x4:=b1.frozen 4;have x5:=b1.frozen 5;simp at y0 y1 y2 y3 y4 y5;have HB1:=hd_ b1;have HO1:=hd_ (HOB.out.fresh f1);have HF1:=hd_ (HF0.out.trans' f1);clear f1 b1 z0 z1 z2 z3 z4 z5 z6 z7 z8 z9;go_upto_region 3 with fail;have b2:=HB1.out.set6 (.int .i64 T.lL) (.slice A n c) (.int .i64 T.lO) (.slice B m d) (.int .i64 T.lM) (.slice C k ce);have u2:=Q0C w1 (H+1) (.int .i64 T.lL) (.slice A n c) (.int .i64 T.lO) (.slice B m d) (.int .i64 T.lM) (.slice C k ce);obtain⟨w2,hw2⟩:=nm_ (((((((w1.setCell ⟨H+1,0,none⟩ (.int .i64 T.lL)).setCell ⟨H+1,1,none⟩ (.slice A n c)).setCell ⟨H+1,2,none⟩ (.int .i64 T.lO)).setCell ⟨H+1,3,none⟩ (.slice B m d)).setCell ⟨H+1,4,none⟩ (.int .i64 T.lM)).setCell ⟨H+1,5,none⟩ (.slice C k ce)));simp only [<-hw2];rw [<-hw2]at b2 u2;have HB2:=hd_ b2;have HO2:=hd_ (HO1.out.upd u2 (fun b hb e=>by subst e;exact HO1.out.ne_blk HB1.out (by decide) hb));have HF2:=hd_ (HF1.out.trans u2 (fun b hb e=>by have:=HH.out;omega));clear b2 u2 hw2 y0 y1 y2 y3 y4 y5 x0 x1 x2 x3 x4 x5 HB1 HO1 HF1 HTA;go_wp2_with fail
 go_loopg [4,6,17] 3 (fun f v4 v6 vi wr=>∃(j:Nat) (A' B' C':Option Addr) (n' c' m' d' k' e':Nat) (G:Nat->Prop),j+f=3/\vi = .int .i64 j/\v6 = .int .i64 0/\Q0 w wr /\
   Blk wr (H+1) 69 #[.int .i64 (if 0<j then(pkN T l 0).2.1 else T.lL),.slice A' n' c',.int .i64 (if 1<j then(pkN T l 1).2.1 else T.lO),.slice B' m' d',.int .i64 (if 2<j then(pkN T l 2).2.1 else T.lM),.slice C' k' e'] /\
   Q9C wr (fun b=>F b/\b<w.heap.size) G (0<j) A' n' (Q2 (pkN T l 0).2.2.1) (Q2 T.NL)/\Q9C wr (fun b=>F b/\b<w.heap.size) G (1<j) B' m' (Q2 (pkN T l 1).2.2.1) (Q2 T.NO)/\Q9C wr (fun b=>F b/\b<w.heap.size) G (2<j) C' k' (Q2 (pkN T l 2).2.2.1) (Q2 T.NM) /\
   Own wr 5 v4 (Qb (QX T l j))/\(∀b,v4.ownBlock=some b->w.heap.size<=b)/\(∀b,G b->w.heap.size<=b/\b<wr.heap.size/\b≠H+1/\v4.ownBlock≠some b))
 case atStart =>
   refine⟨0,A,B,C,n,c,m,d,k,ce,fun _=>False,rfl,rfl,rfl,HF2.out,HB2.out,?_,?_,?_,HO2.out,?_,fun _ h=>h.elim⟩
   . exact HRA.out.1.fresh HF2.out
   . exact HRA.out.2.1.fresh HF2.out
   . exact HRA.out.2.2.fresh HF2.out
   intro b hb;injection hb with hb;have:H+1+1=b:=hb;have:=HH.out;omega
 case round =>
   obtain⟨j,A',B',C',n',c',m',d',k',e',G,hjf,rfl,rfl,hf,hb,t0,t1,t2,ho,hvb,hG⟩:=hrel;have HFR:=hd_ hf;have HBR:=hd_ hb;have HOR:=hd_ ho;have HVB:=hd_ hvb;have HG:=hd_ hG;have HT:=hd_ (And.intro t0 (And.intro t1 t2));clear hf hb t0 t1 t2 ho hvb hG;(have h4:j=0\/j=1\/j=2\/j=3:=by omega);rcases h4 with rfl|rfl|rfl|rfl
   . obtain rfl:gk=3:=by omega
     clear hjf;have hti:Rd wr (fun b=>F b/\b<w.heap.size) A' n' (Q2 T.NL):=HT.out.1;have HTI:=hd_ hti;have HN':=hd_ (show(n':Int)<=1099511627776 by have h1:=HRA.out.1.1;have h2:=HLN.out.1;have h3:=hti.1;simp at h1 h3;omega);clear hti;go_upto_region 7 with fail;obtain⟨w3,hw3⟩:=nm_ (wr.alloc (.cells cs 3));obtain⟨X,hX⟩:=nm_ (wr.heap.size);simp only [<-hX,<-hw3];(have f3:Q0 wr w3:=by rw [hw3];exact(Upd.refl _ _).alloc _);have HX3:=hd_ (show Blk w3 X 3 (Q2 (Yd 0 (l.take 0))).toArray by rw [hw3,HCS.out 0];exact Q1 hX _ _);have HF3:=hd_ f3;have HXN:=hd_ (show X=wr.heap.size from hX);clear f3 hw3 hX;go_wp2_with fail;obtain⟨wo,rfl⟩:∃q:World,q=wr:=⟨wr,rfl⟩;go_loopg [23] nl (fun f v wr=>∃q:Nat,q+f=nl/\v = .int .i64 q/\Upd (fun b=>b=X) w3 wr/\Blk wr X 3 (Q2 (Yd 0 (l.take q))).toArray)
     case atStart=>exact⟨0,by omega,rfl,Upd.refl _ _,HX3.out⟩
     case round =>
       obtain⟨q,hqf,rfl,hu,hbx⟩:=hrel;have HU:=hd_ hu;have HBX:=hd_ hbx;(have hxw:w.heap.size<=X:=by rw [HXN.out];exact HFR.out.size);have HXW:=hd_ hxw;have HFQ:=hd_ (show Q0 w wr from(HFR.out.trans' HF3.out).trans hu (fun b hb e=>by omega));clear hu hbx hxw;by_cases hq:q<nl
       . have hql:q<l.length:=by rw [HLL.out];exact hq
         (have hqI:(q:Int)<nl:=by omega);obtain⟨b,o,rfl,-,-,hc⟩:=(HRL.out.fresh HFQ.out).at_ (r:=0) hq;rw [List.getElem_map]at hc;have c0:=hc 0 (by omega);have c1:=hc 1 (by omega);have c2:=hc 2 (by omega);have c3:=hc 3 (by omega);have c4:=hc 4 (by omega);have c5:=hc 5 (by omega);simp [Yw]at c0 c1 c2 c3 c4 c5;have HSN:=hd_ (show l.take (q+1)=l.take q++[l[q]]from List.take_succ_eq_append_getElem hql);have hxc:=(Q0T (HOK.out l[q] (List.getElem_mem hql)) 0).1;generalize l[q]=x at *;(have hci:x.c 0=x.cL:=by simp [Qe.c]);rw [hci]at hxc;obtain⟨cn,hcn⟩:=nm_ ((l.take q).countP fun y=>y.c 0 == x.cL);(have hcl:cn<=65536:=by rw [hcn];exact Nat.le_trans List.countP_le_length (by rw [List.length_take];omega))
         have hg:(Q2 (Yd 0 (l.take q))).toArray[x.cL]?=some (.int .i64 (cn:Nat)):=by
           have:=Kt 0 (l.take q) _ hxc;rw [<-hcn]at this;simp [Q2,this]
         (have p0:∀o,(wr.alloc o).cell? ⟨X,x.cL,none⟩=some (.int .i64 (cn:Nat)):=fun o=>by rw [(HBX.out.alloc o).cell];exact hg);have p1:∀o,(wr.alloc o).frozen? ⟨X,x.cL,none⟩=false:=fun o=>(HBX.out.alloc o).frozen _
         have HST:=hd_ (show(Q2 (Yd 0 (l.take q))).toArray.setIfInBounds x.cL (.int .i64 ((cn:Int)+1))=(Q2 (Yd 0 (l.take (q+1)))).toArray by
           rw [ZM,HSN.out,Q0I 0 _ x (by rw [hci];exact hxc),hci,<-hcn])
         have hw4:IntKind.i64.wrap ((q:Int)+1)=q+1:=IntWalk.i64_in _ (by omega);have hw5:IntKind.i64.wrap ((cn:Int)+1)=cn+1:=IntWalk.i64_in _ (by omega);(have hxI:(x.cL:Int)<44:=by omega);have HQF:=hd_ hqf;clear hc hcn hg hci hqf;go_wp2_with fail;go_roundg (gk-1)
         case measure=>have:=HQF.out;omega
         case rel =>
           refine⟨q+1,by have:=HQF.out;omega,by go_num,(HU.out.alloc _).setCell (fun _=>rfl) _,?_⟩;have hh:=(HBX.out.alloc (.cells #[.int .i64 (x.cL:Nat),.int .u64 (x.rL:Nat),.int .i64 (x.cO:Nat),.int .u64 (x.rO:Nat),.int .i64 (x.cM:Nat),.int .u64 (x.rM:Nat)] 154)).set_ x.cL (.int .i64 ((cn:Int)+1));rw [HST.out]at hh;exact hh
       (obtain rfl:q=nl:=by omega);have htl:l.take q=l:=List.take_of_length_le (by rw [HLL.out];exact Nat.le_refl _);rw [htl]at HBX;(have hpk:pkN T l 0=QI 0 T.lL T.NL (Yd 0 l):=by simp [pkN]);(have hlq:l.length<=65536:=by rw [HLL.out];exact hnl);have hTW:Rd wr (fun b=>F b/\b<w.heap.size) A' n' (Q2 T.NL):=(HTI.out.fresh HF3.out).upd HU.out (fun b hb hf e=>by have:=HXW.out;omega);have HCH:=hd_ (XO (fun b=>b=X) (fun b=>F b/\b<w.heap.size) (some ⟨X,0,none⟩) A' 44 44 n' c' 0 T.lL T.NL (Yd 0 l) wr hTW HFT.out.1 HN'.out (HBX.out.rdg (by simp)) (Q2q hlq) (by omega));rw [<-hpk]at HCH;obtain⟨k0,⟨k1,k2⟩,k3,k4,-,k5,k6⟩:=HPK.out 0 (by omega);have b4':=(HBR.out.fresh HF3.out).upd HU.out (by have:=HBR.out.lt;have:=HXN.out;omega);have HBX4:=hd_ (fun W (h:Q0 wr W)=>b4'.fresh h);obtain⟨j0,j1,j2,j3,j4,j5⟩:=(b4').cells6;clear b4' htl hpk hTW;go_wp2_with fail;refine HCH.out.mono ?_;rintro e w4 ⟨A2,n2,c2,rfl,hn2,hr2,f4⟩;rw [k0];have b4:=HBX4.out w4 f4;have HR2:=hd_ hr2.both;have HN2:=hd_ hn2;have HF4:=hd_ f4;have HB4:=hd_ b4;obtain⟨mn,hmn⟩:∃mn:Nat,(pkN T l 0).1=mn:=⟨(pkN T l 0).1.toNat,by omega⟩;have HMN:=hd_ hmn;(have hm3:mn<=3:=by omega);have j0:=b4.cell 0;have j1:=b4.cell 1;have j2:=b4.cell 2;have j3:=b4.cell 3;have j4:=b4.cell 4;have j5:=b4.cell 5;have y0:=b4.frozen 0;have y1:=b4.frozen 1;simp at j0 j1 j2 j3 j4 j5;have HK4:=hd_ k4;have HK5:=hd_ (And.intro k3 (And.intro k5 k6));obtain⟨lgx,hlgx⟩:=nm_ ((pkN T l 0).2.1);have HLX:=hd_ hlgx;rw [hmn,<-hlgx];clear hr2 hn2 f4 b4 hmn k0 k1 k2 k3 k4 k5 k6 HCH HBX4 hlgx;go_upto_region 14 with fail;have hb5:=(HB4.out.set_ 0 (.int .i64 lgx)).set_ 1 (.slice A2 n2 c2);obtain⟨w5,hw5⟩:=nm_ ((w4.setCell ⟨H+1,0,none⟩ (.int .i64 lgx)).setCell ⟨H+1,1,none⟩ (.slice A2 n2 c2));simp only [<-hw5];rw [<-hw5]at hb5
       have u5:Upd (fun b=>b=H+1) w4 w5:=by
         rw [hw5];exact((Upd.refl (fun b=>b=H+1) w4).setCell (p:=⟨H+1,0,none⟩) (fun _=>rfl) _).setCell (p:=⟨H+1,1,none⟩) (fun _=>rfl) _
       (have hH1:H+1<wr.heap.size:=by have:=(HBR.out.fresh HF3.out).lt;have:=HU.out.size;omega);have hr5:=HR2.out.upd u5 (fun b _ hb e=>by have:=hb.1;omega);have HR5:=hd_ hr5;have HB5:=hd_ hb5;have HU5:=hd_ u5;have HH1:=hd_ hH1;have HEN:=hd_ (XK _ A2 n2 c2 mn 0 lgx (pkN T l 0).2.2.1 w5 hr5.1 HK5.out.2.1 (by have h1:=HK5.out.2.2;have h2:=HN2.out;omega));(have hbl:Blk w5 (H+1) 69 #[.int .i64 lgx,.slice A2 n2 c2,.int .i64 (if 1<0 then(pkN T l 1).2.1 else T.lO),.slice B' m' d',.int .i64 (if 2<0 then(pkN T l 2).2.1 else T.lM),.slice C' k' e']:=by simpa using hb5);have HBL:=hd_ hbl;obtain⟨j0,j1,j2,j3,j4,j5⟩:=(hbl).cells6;clear hw5 u5 hb5 hr5 hbl y0 y1 hH1;go_wp2_with fail;refine HEN.out.mono ?_;rintro e w6 ⟨ve,rfl,nb⟩;obtain⟨A8,c8,hve,hc8,hr8⟩:=nb.1.form;(have hbl8:(Qb (QD mn 0 lgx (pkN T l 0).2.2.1).2).length=(QD mn 0 lgx (pkN T l 0).2.2.1).2.length:=by simp [Qb]);rw [hbl8]at hve hr8;clear hbl8 hc8;subst hve;have hu46:∀b,u4.ownBlock=some b->b<wo.heap.size/\b≠H+1:=fun b hb=>⟨HOR.out.lt hb,fun e=>HOR.out.ne_blk HBR.out (by decide) (by rw [hb,e])⟩;have o6:=((((HOR.out.fresh HF3.out).upd HU.out (fun b hb e=>by have:=(hu46 b hb).1;have:=HXN.out;omega)).fresh HF4.out).upd HU5.out (fun b hb e=>(hu46 b hb).2 e)).fresh nb.2.1;have hh6:Qb (QX T l 0) = .int .u8 (Ya T l 0:Nat)::Qb (Yi T l 0):=rfl;rw [hh6]at o6;obtain⟨g4,c4,hu4,hg4,hcl4,hfz4,hset4⟩:=o6.head;have HU46:=hd_ hu46;have HVB':=hd_ HVB.out;have HG':=hd_ HG.out;obtain⟨nt,hnt⟩:=nm_ ((Qb (Yi T l 0)).length+1);rw [<-hnt]at hu4;(have hnt0:0<nt:=by omega);have HNT:=hd_ hnt;clear hnt;subst hu4;have hmb:=Q0U (T:=T) (l:=l) (fun j hj=>(HPK.out j hj).2.1) 0 (by omega);have hor:=Q2r (Ya T l 0) mn 0 (by omega) hmb (by omega);have HMB:=hd_ (show Ya T l (0+1)=Ya T l 0+4^0*mn from Q0L T l 0 mn (by omega) HMN.out);have HTB:=hd_ (show Yi T l (0+1)=Yi T l 0++Qq T l 0 from Q03 T l 0 (by omega));have HSET:=hd_ hset4;have hcl4':w6.cell? ⟨g4,0,none⟩=some (.int .u8 (Ya T l 0:Nat)):=hcl4;have hfz4':w6.frozen? ⟨g4,0,none⟩=false:=hfz4;have HNB:=hd_ nb;have HR8:=hd_ hr8;have HVE:=hd_ (fun b (hb:(Value.slice A8 (QD mn 0 lgx (pkN T l 0).2.2.1).2.length c8).ownBlock=some b)=>(show b≠g4 from fun e=>by have h1:=nb.2.2 b hb;have h2:=(hu46 g4 rfl).1;have h3:=HU5.out.size;have h4:=HF4.out.size;have h5:=HU.out.size;have h6:=HF3.out.size;omega));clear nb hr8 hu46 o6 hh6 hcl4 hfz4 hset4 hmb;(have hwz:IntKind.i64.wrap 0=0:=by decide);have hsl:∀W,(Op.shift .shl .u8 (IntKind.u8.wrap (mn:Int)) .i64 0).run Tryz.prog W = .ok (.int .u8 (IntKind.u8.wrap (IntKind.u8.wrap (mn:Int)*2^(2*0)))) W:=fun W=>Q4l (IntKind.u8.wrap (mn:Int)) (2*0) W (by omega);(have hor':bits .or .u8 (Ya T l 0:Int) (mn:Int)=(Ya T l (0+1):Nat):=by rw [HMB.out,<-hor];congr 1;rw [IntKind.wrap_u8',IntKind.wrap_u8'];omega)
       clear hor;go_upto_region 17 with fail;go_still_tail 10,(by kernel_rfl);change wpList _ _ _ _ _ w6.drew
       have h16:(Yi T l 0).length<=3000:=by
         have e0:=YQ (pkN T l 0).1 0 (pkN T l 0).2.1 (pkN T l 0).2.2.1 (by omega);have e1:=YQ (pkN T l 1).1 1 (pkN T l 1).2.1 (pkN T l 1).2.2.1 (by omega);have e2:=YQ (pkN T l 2).1 2 (pkN T l 2).2.1 (pkN T l 2).2.2.1 (by omega);simp [Yi,Qq];(try omega)
       have h17:(QD mn 0 lgx (pkN T l 0).2.2.1).2.length<=1000:=YQ mn 0 lgx (pkN T l 0).2.2.1 (by omega);have HOS:=hd_ (show Own (w6.setCell ⟨g4,0,none⟩ (.int .u8 (bits .or .u8 (Ya T l 0:Int) (mn:Int)))).drew 5 (.slice (some ⟨g4,0,none⟩) nt c4) (.int .u8 (Ya T l (0+1):Nat)::Qb (Yi T l 0))from by rw [hor'];exact(HSET.out (.int .u8 (Ya T l (0+1):Nat))).drew);clear hsl hwz hor';(have hln:(Value.int .u8 (Ya T l (0+1):Nat)::Qb (Yi T l 0)).length+(QD mn 0 lgx (pkN T l 0).2.2.1).2.length<=2^40:=by simp [Qb];omega);go_wp2_with (at_builtin;go_must (refine J9 _ rfl (.tmp 72) (.tmp 73) _ rfl 5 _ 1 Tryz.underlying26 Zv rfl (.slice (some ⟨g4,0,none⟩) nt c4) _ rfl HOS.out _ _ _ _ rfl (HR8.out.upd (S:=fun b=>b=g4) (((Upd.refl (fun b=>b=g4) w6).setCell (p:=⟨g4,0,none⟩) (fun _=>rfl) _).drew) (fun b _ hb e=>HVE.out b hb e)) (Zj _) (by omega) (by simpa [Qb]using hln) ?_));intro v7 w7 o7 g7 a7;have hg4:=(HU46.out g4 rfl);have hg4w:w.heap.size<=g4:=HVB'.out g4 rfl;have s1:=HF3.out.size;have s2:=HU.out.size;have s3:=HF4.out.size;have s4:=HU5.out.size;have s5:=HNB.out.2.1.size;have hxw:X=wo.heap.size:=HXN.out;have hHH:=HH.out;have hh1:=HH1.out;have u56:Upd (fun b=>b=H+1\/b=g4) w5 w7:=(((HNB.out.2.1.mono (T:=fun b=>b=H+1\/b=g4) fun _ _ h=>h.elim).setCell (p:=⟨g4,0,none⟩) (fun _=>.inr rfl) _).drew).grown g7 (fun k hk _=>by injection hk with hk;exact .inr hk.symm);have u47:Upd (fun b=>b=H+1\/b=g4) w4 w7:=(HU5.out.mono fun _ _ h=>.inl h).trans' u56;have u07:Upd (fun b=>b=H+1\/b=g4) wo w7:=((((HF3.out.mono fun _ _ h=>h.elim).trans HU.out (fun b hb e=>by omega)).trans' (HF4.out.mono fun _ _ h=>h.elim))).trans' u47;have hb7:=((HBL.out.fresh HNB.out.2.1).far (p:=⟨g4,0,none⟩) (fun e=>hg4.2 e.symm) (.int .u8 (bits .or .u8 (Ya T l 0:Int) (mn:Int)))).drew.grown g7 (fun h=>by injection h with h;exact hg4.2 h)
       have e7:(Value.int .u8 (Ya T l (0+1):Nat)::Qb (Yi T l 0))++Qb (QD mn 0 lgx (pkN T l 0).2.2.1).2=Qb (QX T l (0+1)):=by
         unfold QX;rw [HTB.out];unfold Qq;rw [HMN.out,<-HLX.out];simp [Qb]
       (have o7':Own w7 5 v7 (Qb (QX T l (0+1))):=by rw [<-e7];exact o7);have s7:=u47.size;have HU07:=hd_ u07;have HB7:=hd_ hb7;have HO7:=hd_ o7';have HR7:=hd_ (HR5.out.upd u56 (fun b _ hb e=>by rcases e with e|e<;>omega))
       have HVB7:=hd_ (fun b (hb:v7.ownBlock=some b)=>(show w.heap.size<=b by
         rcases a7 with h|h
         . rw [h]at hb;injection hb with hb;have hb':g4=b:=hb;omega
         rw [h]at hb;injection hb with hb;have:=HFR.out.size;omega))
       have HG7:=hd_ (fun b (hb:G b\/(wr.heap.size<=b/\b<w4.heap.size))=>(show w.heap.size<=b/\b<w7.heap.size/\b≠H+1/\v7.ownBlock≠some b by
         have hfw:=HFR.out.size;have hh1:=HH1.out;rcases hb with hb|hb
         . obtain⟨q1,q2,q3,q4⟩:=HG'.out b hb
           have hgb:g4≠b:=fun e=>q4 (by rw [<-e];rfl);refine⟨q1,by omega,q3,fun h=>?_⟩;rcases a7 with h'|h'
           . rw [h']at h;injection h with h;exact hgb h
           rw [h']at h;injection h with h;omega
         refine⟨by omega,by omega,by omega,fun h=>?_⟩;rcases a7 with h'|h'
         . rw [h']at h;injection h with h;have h:g4=b:=h;omega
         rw [h']at h;injection h with h;omega))
       have HFW7:=hd_ (show Q0 w w7 from HFR.out.trans u07 (fun b hb e=>by rcases e with e|e<;>omega));have HSF:=hd_ (fun b (hf:F b/\b<w.heap.size) (e:b=H+1\/b=g4)=>(show False by have:=hf.2;rcases e with e|e<;>omega))
       have HSG:=hd_ (fun b (hb:G b) (e:b=H+1\/b=g4)=>(show False by
         obtain⟨q1,q2,q3,q4⟩:=HG'.out b hb;rcases e with e|e
         . exact q3 e
         exact q4 (by rw [e];rfl)))
       clear hg4 hg4w s1 s2 s3 s4 s5 hxw hHH hh1 u56 u47 u07 hb7 e7 o7 o7' a7 g7 s7 h16 h17 hln;go_wp2_with fail;go_roundg 2
       case measure=>omega
       case rel =>
         refine⟨1,A2,B',C',n2,c2,m',d',k',e',fun b=>G b\/(wr.heap.size<=b/\b<w4.heap.size),rfl,by go_num,rfl,HFW7.out,?_,?_,?_,?_,HO7.out,HVB7.out,HG7.out⟩
         . have hh:=HB7.out
           rw [HLX.out]at hh;simpa using hh
         . exact HR7.out.mono fun b hb=>.inr hb
         . exact(show Rd wo (fun b=>F b/\b<w.heap.size) B' m' (Q2 T.NO)from HT.out.2.1).upd HU07.out (fun b _ hb e=>HSF.out b hb e)
         exact(show Rd wo (fun b=>F b/\b<w.heap.size) C' k' (Q2 T.NM)from HT.out.2.2).upd HU07.out (fun b _ hb e=>HSF.out b hb e)
   . obtain rfl:gk=2:=by omega
     clear hjf;have hti:Rd wr (fun b=>F b/\b<w.heap.size) B' m' (Q2 T.NO):=HT.out.2.1;have HTI:=hd_ hti;have HN':=hd_ (show(m':Int)<=1099511627776 by have h1:=HRA.out.2.1.1;have h2:=HLN.out.2.1;have h3:=hti.1;simp at h1 h3;omega);clear hti;go_upto_region 7 with fail;obtain⟨w3,hw3⟩:=nm_ (wr.alloc (.cells cs 3));obtain⟨X,hX⟩:=nm_ (wr.heap.size);simp only [<-hX,<-hw3];(have f3:Q0 wr w3:=by rw [hw3];exact(Upd.refl _ _).alloc _);have HX3:=hd_ (show Blk w3 X 3 (Q2 (Yd 1 (l.take 0))).toArray by rw [hw3,HCS.out 1];exact Q1 hX _ _);have HF3:=hd_ f3;have HXN:=hd_ (show X=wr.heap.size from hX);clear f3 hw3 hX;go_wp2_with fail;obtain⟨wo,rfl⟩:∃q:World,q=wr:=⟨wr,rfl⟩;go_loopg [23] nl (fun f v wr=>∃q:Nat,q+f=nl/\v = .int .i64 q/\Upd (fun b=>b=X) w3 wr/\Blk wr X 3 (Q2 (Yd 1 (l.take q))).toArray)
     case atStart=>exact⟨0,by omega,rfl,Upd.refl _ _,HX3.out⟩
     case round =>
       obtain⟨q,hqf,rfl,hu,hbx⟩:=hrel;have HU:=hd_ hu;have HBX:=hd_ hbx;(have hxw:w.heap.size<=X:=by rw [HXN.out];exact HFR.out.size);have HXW:=hd_ hxw;have HFQ:=hd_ (show Q0 w wr from(HFR.out.trans' HF3.out).trans hu (fun b hb e=>by omega));clear hu hbx hxw;by_cases hq:q<nl
       . have hql:q<l.length:=by rw [HLL.out];exact hq
         (have hqI:(q:Int)<nl:=by omega);obtain⟨b,o,rfl,-,-,hc⟩:=(HRL.out.fresh HFQ.out).at_ (r:=0) hq;rw [List.getElem_map]at hc;have c0:=hc 0 (by omega);have c1:=hc 1 (by omega);have c2:=hc 2 (by omega);have c3:=hc 3 (by omega);have c4:=hc 4 (by omega);have c5:=hc 5 (by omega);simp [Yw]at c0 c1 c2 c3 c4 c5;have HSN:=hd_ (show l.take (q+1)=l.take q++[l[q]]from List.take_succ_eq_append_getElem hql);have hxc:=(Q0T (HOK.out l[q] (List.getElem_mem hql)) 1).1;generalize l[q]=x at *;(have hci:x.c 1=x.cO:=by simp [Qe.c]);rw [hci]at hxc;obtain⟨cn,hcn⟩:=nm_ ((l.take q).countP fun y=>y.c 1 == x.cO);(have hcl:cn<=65536:=by rw [hcn];exact Nat.le_trans List.countP_le_length (by rw [List.length_take];omega))
         have hg:(Q2 (Yd 1 (l.take q))).toArray[x.cO]?=some (.int .i64 (cn:Nat)):=by
           have:=Kt 1 (l.take q) _ hxc;rw [<-hcn]at this;simp [Q2,this]
         (have p0:∀o,(wr.alloc o).cell? ⟨X,x.cO,none⟩=some (.int .i64 (cn:Nat)):=fun o=>by rw [(HBX.out.alloc o).cell];exact hg);have p1:∀o,(wr.alloc o).frozen? ⟨X,x.cO,none⟩=false:=fun o=>(HBX.out.alloc o).frozen _
         have HST:=hd_ (show(Q2 (Yd 1 (l.take q))).toArray.setIfInBounds x.cO (.int .i64 ((cn:Int)+1))=(Q2 (Yd 1 (l.take (q+1)))).toArray by
           rw [ZM,HSN.out,Q0I 1 _ x (by rw [hci];exact hxc),hci,<-hcn])
         have hw4:IntKind.i64.wrap ((q:Int)+1)=q+1:=IntWalk.i64_in _ (by omega);have hw5:IntKind.i64.wrap ((cn:Int)+1)=cn+1:=IntWalk.i64_in _ (by omega);(have hxI:(x.cO:Int)<44:=by omega);have HQF:=hd_ hqf;clear hc hcn hg hci hqf;go_wp2_with fail;go_roundg (gk-1)
         case measure=>have:=HQF.out;omega
         case rel =>
           refine⟨q+1,by have:=HQF.out;omega,by go_num,(HU.out.alloc _).setCell (fun _=>rfl) _,?_⟩;have hh:=(HBX.out.alloc (.cells #[.int .i64 (x.cL:Nat),.int .u64 (x.rL:Nat),.int .i64 (x.cO:Nat),.int .u64 (x.rO:Nat),.int .i64 (x.cM:Nat),.int .u64 (x.rM:Nat)] 154)).set_ x.cO (.int .i64 ((cn:Int)+1));rw [HST.out]at hh;exact hh
       (obtain rfl:q=nl:=by omega);have htl:l.take q=l:=List.take_of_length_le (by rw [HLL.out];exact Nat.le_refl _);rw [htl]at HBX;(have hpk:pkN T l 1=QI 1 T.lO T.NO (Yd 1 l):=by simp [pkN]);(have hlq:l.length<=65536:=by rw [HLL.out];exact hnl);have hTW:Rd wr (fun b=>F b/\b<w.heap.size) B' m' (Q2 T.NO):=(HTI.out.fresh HF3.out).upd HU.out (fun b hb hf e=>by have:=HXW.out;omega);have HCH:=hd_ (XO (fun b=>b=X) (fun b=>F b/\b<w.heap.size) (some ⟨X,0,none⟩) B' 44 44 m' d' 1 T.lO T.NO (Yd 1 l) wr hTW HFT.out.2.1 HN'.out (HBX.out.rdg (by simp)) (Q2q hlq) (by omega));rw [<-hpk]at HCH;obtain⟨k0,⟨k1,k2⟩,k3,k4,-,k5,k6⟩:=HPK.out 1 (by omega);have b4':=(HBR.out.fresh HF3.out).upd HU.out (by have:=HBR.out.lt;have:=HXN.out;omega);have HBX4:=hd_ (fun W (h:Q0 wr W)=>b4'.fresh h);obtain⟨j0,j1,j2,j3,j4,j5⟩:=(b4').cells6;clear b4' htl hpk hTW;go_wp2_with fail;refine HCH.out.mono ?_;rintro e w4 ⟨A2,n2,c2,rfl,hn2,hr2,f4⟩;rw [k0];have b4:=HBX4.out w4 f4;have HR2:=hd_ hr2.both;have HN2:=hd_ hn2;have HF4:=hd_ f4;have HB4:=hd_ b4;obtain⟨mn,hmn⟩:∃mn:Nat,(pkN T l 1).1=mn:=⟨(pkN T l 1).1.toNat,by omega⟩;have HMN:=hd_ hmn;(have hm3:mn<=3:=by omega);have j0:=b4.cell 0;have j1:=b4.cell 1;have j2:=b4.cell 2;have j3:=b4.cell 3;have j4:=b4.cell 4;have j5:=b4.cell 5;have y0:=b4.frozen 2;have y1:=b4.frozen 3;simp at j0 j1 j2 j3 j4 j5;have HK4:=hd_ k4;have HK5:=hd_ (And.intro k3 (And.intro k5 k6));obtain⟨lgx,hlgx⟩:=nm_ ((pkN T l 1).2.1);have HLX:=hd_ hlgx;rw [hmn,<-hlgx];clear hr2 hn2 f4 b4 hmn k0 k1 k2 k3 k4 k5 k6 HCH HBX4 hlgx;go_upto_region 14 with fail;have hb5:=(HB4.out.set_ 2 (.int .i64 lgx)).set_ 3 (.slice A2 n2 c2);obtain⟨w5,hw5⟩:=nm_ ((w4.setCell ⟨H+1,2,none⟩ (.int .i64 lgx)).setCell ⟨H+1,3,none⟩ (.slice A2 n2 c2));simp only [<-hw5];rw [<-hw5]at hb5
       have u5:Upd (fun b=>b=H+1) w4 w5:=by
         rw [hw5];exact((Upd.refl (fun b=>b=H+1) w4).setCell (p:=⟨H+1,2,none⟩) (fun _=>rfl) _).setCell (p:=⟨H+1,3,none⟩) (fun _=>rfl) _
       (have hH1:H+1<wr.heap.size:=by have:=(HBR.out.fresh HF3.out).lt;have:=HU.out.size;omega);have hr5:=HR2.out.upd u5 (fun b _ hb e=>by have:=hb.1;omega);have HR5:=hd_ hr5;have HB5:=hd_ hb5;have HU5:=hd_ u5;have HH1:=hd_ hH1;have HEN:=hd_ (XK _ A2 n2 c2 mn 1 lgx (pkN T l 1).2.2.1 w5 hr5.1 HK5.out.2.1 (by have h1:=HK5.out.2.2;have h2:=HN2.out;omega));(have hbl:Blk w5 (H+1) 69 #[.int .i64 (if 0<1 then(pkN T l 0).2.1 else T.lL),.slice A' n' c',.int .i64 lgx,.slice A2 n2 c2,.int .i64 (if 2<1 then(pkN T l 2).2.1 else T.lM),.slice C' k' e']:=by simpa using hb5);have HBL:=hd_ hbl;obtain⟨j0,j1,j2,j3,j4,j5⟩:=(hbl).cells6;clear hw5 u5 hb5 hr5 hbl y0 y1 hH1;go_wp2_with fail;refine HEN.out.mono ?_;rintro e w6 ⟨ve,rfl,nb⟩;obtain⟨A8,c8,hve,hc8,hr8⟩:=nb.1.form;(have hbl8:(Qb (QD mn 1 lgx (pkN T l 1).2.2.1).2).length=(QD mn 1 lgx (pkN T l 1).2.2.1).2.length:=by simp [Qb]);rw [hbl8]at hve hr8;clear hbl8 hc8;subst hve;have hu46:∀b,u4.ownBlock=some b->b<wo.heap.size/\b≠H+1:=fun b hb=>⟨HOR.out.lt hb,fun e=>HOR.out.ne_blk HBR.out (by decide) (by rw [hb,e])⟩;have o6:=((((HOR.out.fresh HF3.out).upd HU.out (fun b hb e=>by have:=(hu46 b hb).1;have:=HXN.out;omega)).fresh HF4.out).upd HU5.out (fun b hb e=>(hu46 b hb).2 e)).fresh nb.2.1;have hh6:Qb (QX T l 1) = .int .u8 (Ya T l 1:Nat)::Qb (Yi T l 1):=rfl;rw [hh6]at o6;obtain⟨g4,c4,hu4,hg4,hcl4,hfz4,hset4⟩:=o6.head;have HU46:=hd_ hu46;have HVB':=hd_ HVB.out;have HG':=hd_ HG.out;obtain⟨nt,hnt⟩:=nm_ ((Qb (Yi T l 1)).length+1);rw [<-hnt]at hu4;(have hnt0:0<nt:=by omega);have HNT:=hd_ hnt;clear hnt;subst hu4;have hmb:=Q0U (T:=T) (l:=l) (fun j hj=>(HPK.out j hj).2.1) 1 (by omega);have hor:=Q2r (Ya T l 1) mn 1 (by omega) hmb (by omega);have HMB:=hd_ (show Ya T l (1+1)=Ya T l 1+4^1*mn from Q0L T l 1 mn (by omega) HMN.out);have HTB:=hd_ (show Yi T l (1+1)=Yi T l 1++Qq T l 1 from Q03 T l 1 (by omega));have HSET:=hd_ hset4;have hcl4':w6.cell? ⟨g4,0,none⟩=some (.int .u8 (Ya T l 1:Nat)):=hcl4;have hfz4':w6.frozen? ⟨g4,0,none⟩=false:=hfz4;have HNB:=hd_ nb;have HR8:=hd_ hr8;have HVE:=hd_ (fun b (hb:(Value.slice A8 (QD mn 1 lgx (pkN T l 1).2.2.1).2.length c8).ownBlock=some b)=>(show b≠g4 from fun e=>by have h1:=nb.2.2 b hb;have h2:=(hu46 g4 rfl).1;have h3:=HU5.out.size;have h4:=HF4.out.size;have h5:=HU.out.size;have h6:=HF3.out.size;omega));clear nb hr8 hu46 o6 hh6 hcl4 hfz4 hset4 hmb;(have hwz:IntKind.i64.wrap 2=2:=by decide);have hsl:∀W,(Op.shift .shl .u8 (IntKind.u8.wrap (mn:Int)) .i64 2).run Tryz.prog W = .ok (.int .u8 (IntKind.u8.wrap (IntKind.u8.wrap (mn:Int)*2^(2*1)))) W:=fun W=>Q4l (IntKind.u8.wrap (mn:Int)) (2*1) W (by omega);(have hor':bits .or .u8 (Ya T l 1:Int) ((mn:Int)*4)=(Ya T l (1+1):Nat):=by rw [HMB.out,<-hor];congr 1;rw [IntKind.wrap_u8',IntKind.wrap_u8'];omega)
       clear hor;go_upto_region 17 with fail;go_still_tail 10,(by kernel_rfl);change wpList _ _ _ _ _ w6.drew
       have h16:(Yi T l 1).length<=3000:=by
         have e0:=YQ (pkN T l 0).1 0 (pkN T l 0).2.1 (pkN T l 0).2.2.1 (by omega);have e1:=YQ (pkN T l 1).1 1 (pkN T l 1).2.1 (pkN T l 1).2.2.1 (by omega);have e2:=YQ (pkN T l 2).1 2 (pkN T l 2).2.1 (pkN T l 2).2.2.1 (by omega);simp [Yi,Qq];(try omega)
       have h17:(QD mn 1 lgx (pkN T l 1).2.2.1).2.length<=1000:=YQ mn 1 lgx (pkN T l 1).2.2.1 (by omega);have HOS:=hd_ (show Own (w6.setCell ⟨g4,0,none⟩ (.int .u8 (bits .or .u8 (Ya T l 1:Int) ((mn:Int)*4)))).drew 5 (.slice (some ⟨g4,0,none⟩) nt c4) (.int .u8 (Ya T l (1+1):Nat)::Qb (Yi T l 1))from by rw [hor'];exact(HSET.out (.int .u8 (Ya T l (1+1):Nat))).drew);clear hsl hwz hor';(have hln:(Value.int .u8 (Ya T l (1+1):Nat)::Qb (Yi T l 1)).length+(QD mn 1 lgx (pkN T l 1).2.2.1).2.length<=2^40:=by simp [Qb];omega);go_wp2_with (at_builtin;go_must (refine J9 _ rfl (.tmp 72) (.tmp 73) _ rfl 5 _ 1 Tryz.underlying26 Zv rfl (.slice (some ⟨g4,0,none⟩) nt c4) _ rfl HOS.out _ _ _ _ rfl (HR8.out.upd (S:=fun b=>b=g4) (((Upd.refl (fun b=>b=g4) w6).setCell (p:=⟨g4,0,none⟩) (fun _=>rfl) _).drew) (fun b _ hb e=>HVE.out b hb e)) (Zj _) (by omega) (by simpa [Qb]using hln) ?_));intro v7 w7 o7 g7 a7;have hg4:=(HU46.out g4 rfl);have hg4w:w.heap.size<=g4:=HVB'.out g4 rfl;have s1:=HF3.out.size;have s2:=HU.out.size;have s3:=HF4.out.size;have s4:=HU5.out.size;have s5:=HNB.out.2.1.size;have hxw:X=wo.heap.size:=HXN.out;have hHH:=HH.out;have hh1:=HH1.out;have u56:Upd (fun b=>b=H+1\/b=g4) w5 w7:=(((HNB.out.2.1.mono (T:=fun b=>b=H+1\/b=g4) fun _ _ h=>h.elim).setCell (p:=⟨g4,0,none⟩) (fun _=>.inr rfl) _).drew).grown g7 (fun k hk _=>by injection hk with hk;exact .inr hk.symm);have u47:Upd (fun b=>b=H+1\/b=g4) w4 w7:=(HU5.out.mono fun _ _ h=>.inl h).trans' u56;have u07:Upd (fun b=>b=H+1\/b=g4) wo w7:=((((HF3.out.mono fun _ _ h=>h.elim).trans HU.out (fun b hb e=>by omega)).trans' (HF4.out.mono fun _ _ h=>h.elim))).trans' u47;have hb7:=((HBL.out.fresh HNB.out.2.1).far (p:=⟨g4,0,none⟩) (fun e=>hg4.2 e.symm) (.int .u8 (bits .or .u8 (Ya T l 1:Int) ((mn:Int)*4)))).drew.grown g7 (fun h=>by injection h with h;exact hg4.2 h)
       have e7:(Value.int .u8 (Ya T l (1+1):Nat)::Qb (Yi T l 1))++Qb (QD mn 1 lgx (pkN T l 1).2.2.1).2=Qb (QX T l (1+1)):=by
         unfold QX;rw [HTB.out];unfold Qq;rw [HMN.out,<-HLX.out];simp [Qb]
       (have o7':Own w7 5 v7 (Qb (QX T l (1+1))):=by rw [<-e7];exact o7);have s7:=u47.size;have HU07:=hd_ u07;have HB7:=hd_ hb7;have HO7:=hd_ o7';have HR7:=hd_ (HR5.out.upd u56 (fun b _ hb e=>by rcases e with e|e<;>omega))
       have HVB7:=hd_ (fun b (hb:v7.ownBlock=some b)=>(show w.heap.size<=b by
         rcases a7 with h|h
         . rw [h]at hb;injection hb with hb;have hb':g4=b:=hb;omega
         rw [h]at hb;injection hb with hb;have:=HFR.out.size;omega))
       have HG7:=hd_ (fun b (hb:G b\/(wr.heap.size<=b/\b<w4.heap.size))=>(show w.heap.size<=b/\b<w7.heap.size/\b≠H+1/\v7.ownBlock≠some b by
         have hfw:=HFR.out.size;have hh1:=HH1.out;rcases hb with hb|hb
         . obtain⟨q1,q2,q3,q4⟩:=HG'.out b hb
           have hgb:g4≠b:=fun e=>q4 (by rw [<-e];rfl);refine⟨q1,by omega,q3,fun h=>?_⟩;rcases a7 with h'|h'
           . rw [h']at h;injection h with h;exact hgb h
           rw [h']at h;injection h with h;omega
         refine⟨by omega,by omega,by omega,fun h=>?_⟩;rcases a7 with h'|h'
         . rw [h']at h;injection h with h;have h:g4=b:=h;omega
         rw [h']at h;injection h with h;omega))
       have HFW7:=hd_ (show Q0 w w7 from HFR.out.trans u07 (fun b hb e=>by rcases e with e|e<;>omega));have HSF:=hd_ (fun b (hf:F b/\b<w.heap.size) (e:b=H+1\/b=g4)=>(show False by have:=hf.2;rcases e with e|e<;>omega))
       have HSG:=hd_ (fun b (hb:G b) (e:b=H+1\/b=g4)=>(show False by
         obtain⟨q1,q2,q3,q4⟩:=HG'.out b hb;rcases e with e|e
         . exact q3 e
         exact q4 (by rw [e];rfl)))
       clear hg4 hg4w s1 s2 s3 s4 s5 hxw hHH hh1 u56 u47 u07 hb7 e7 o7 o7' a7 g7 s7 h16 h17 hln;go_wp2_with fail;go_roundg 1
       case measure=>omega
       case rel =>
         refine⟨2,A',A2,C',n',c',n2,c2,k',e',fun b=>G b\/(wr.heap.size<=b/\b<w4.heap.size),rfl,by go_num,rfl,HFW7.out,?_,?_,?_,?_,HO7.out,HVB7.out,HG7.out⟩
         . have hh:=HB7.out
           rw [HLX.out]at hh;simpa using hh
         . exact(show RdU wo G A' n' (Q2 (pkN T l 0).2.2.1)from HT.out.1).upd HU07.out (fun b _ hb e=>HSG.out b hb e) |>.mono fun b hb=>.inl hb
         . exact HR7.out.mono fun b hb=>.inr hb
         exact(show Rd wo (fun b=>F b/\b<w.heap.size) C' k' (Q2 T.NM)from HT.out.2.2).upd HU07.out (fun b _ hb e=>HSF.out b hb e)
   . obtain rfl:gk=1:=by omega
     clear hjf;have hti:Rd wr (fun b=>F b/\b<w.heap.size) C' k' (Q2 T.NM):=HT.out.2.2;have HTI:=hd_ hti;have HN':=hd_ (show(k':Int)<=1099511627776 by have h1:=HRA.out.2.2.1;have h2:=HLN.out.2.2;have h3:=hti.1;simp at h1 h3;omega);clear hti;go_upto_region 7 with fail;obtain⟨w3,hw3⟩:=nm_ (wr.alloc (.cells cs 3));obtain⟨X,hX⟩:=nm_ (wr.heap.size);simp only [<-hX,<-hw3];(have f3:Q0 wr w3:=by rw [hw3];exact(Upd.refl _ _).alloc _);have HX3:=hd_ (show Blk w3 X 3 (Q2 (Yd 2 (l.take 0))).toArray by rw [hw3,HCS.out 2];exact Q1 hX _ _);have HF3:=hd_ f3;have HXN:=hd_ (show X=wr.heap.size from hX);clear f3 hw3 hX;go_wp2_with fail;obtain⟨wo,rfl⟩:∃q:World,q=wr:=⟨wr,rfl⟩;go_loopg [23] nl (fun f v wr=>∃q:Nat,q+f=nl/\v = .int .i64 q/\Upd (fun b=>b=X) w3 wr/\Blk wr X 3 (Q2 (Yd 2 (l.take q))).toArray)
     case atStart=>exact⟨0,by omega,rfl,Upd.refl _ _,HX3.out⟩
     case round =>
       obtain⟨q,hqf,rfl,hu,hbx⟩:=hrel;have HU:=hd_ hu;have HBX:=hd_ hbx;(have hxw:w.heap.size<=X:=by rw [HXN.out];exact HFR.out.size);have HXW:=hd_ hxw;have HFQ:=hd_ (show Q0 w wr from(HFR.out.trans' HF3.out).trans hu (fun b hb e=>by omega));clear hu hbx hxw;by_cases hq:q<nl
       . have hql:q<l.length:=by rw [HLL.out];exact hq
         (have hqI:(q:Int)<nl:=by omega);obtain⟨b,o,rfl,-,-,hc⟩:=(HRL.out.fresh HFQ.out).at_ (r:=0) hq;rw [List.getElem_map]at hc;have c0:=hc 0 (by omega);have c1:=hc 1 (by omega);have c2:=hc 2 (by omega);have c3:=hc 3 (by omega);have c4:=hc 4 (by omega);have c5:=hc 5 (by omega);simp [Yw]at c0 c1 c2 c3 c4 c5;have HSN:=hd_ (show l.take (q+1)=l.take q++[l[q]]from List.take_succ_eq_append_getElem hql);have hxc:=(Q0T (HOK.out l[q] (List.getElem_mem hql)) 2).1;generalize l[q]=x at *;(have hci:x.c 2=x.cM:=by simp [Qe.c]);rw [hci]at hxc;obtain⟨cn,hcn⟩:=nm_ ((l.take q).countP fun y=>y.c 2 == x.cM);(have hcl:cn<=65536:=by rw [hcn];exact Nat.le_trans List.countP_le_length (by rw [List.length_take];omega))
         have hg:(Q2 (Yd 2 (l.take q))).toArray[x.cM]?=some (.int .i64 (cn:Nat)):=by
           have:=Kt 2 (l.take q) _ hxc;rw [<-hcn]at this;simp [Q2,this]
         (have p0:∀o,(wr.alloc o).cell? ⟨X,x.cM,none⟩=some (.int .i64 (cn:Nat)):=fun o=>by rw [(HBX.out.alloc o).cell];exact hg);have p1:∀o,(wr.alloc o).frozen? ⟨X,x.cM,none⟩=false:=fun o=>(HBX.out.alloc o).frozen _
         have HST:=hd_ (show(Q2 (Yd 2 (l.take q))).toArray.setIfInBounds x.cM (.int .i64 ((cn:Int)+1))=(Q2 (Yd 2 (l.take (q+1)))).toArray by
           rw [ZM,HSN.out,Q0I 2 _ x (by rw [hci];exact hxc),hci,<-hcn])
         have hw4:IntKind.i64.wrap ((q:Int)+1)=q+1:=IntWalk.i64_in _ (by omega);have hw5:IntKind.i64.wrap ((cn:Int)+1)=cn+1:=IntWalk.i64_in _ (by omega);(have hxI:(x.cM:Int)<44:=by omega);have HQF:=hd_ hqf;clear hc hcn hg hci hqf;go_wp2_with fail;go_roundg (gk-1)
         case measure=>have:=HQF.out;omega
         case rel =>
           refine⟨q+1,by have:=HQF.out;omega,by go_num,(HU.out.alloc _).setCell (fun _=>rfl) _,?_⟩;have hh:=(HBX.out.alloc (.cells #[.int .i64 (x.cL:Nat),.int .u64 (x.rL:Nat),.int .i64 (x.cO:Nat),.int .u64 (x.rO:Nat),.int .i64 (x.cM:Nat),.int .u64 (x.rM:Nat)] 154)).set_ x.cM (.int .i64 ((cn:Int)+1));rw [HST.out]at hh;exact hh
       (obtain rfl:q=nl:=by omega);have htl:l.take q=l:=List.take_of_length_le (by rw [HLL.out];exact Nat.le_refl _);rw [htl]at HBX;(have hpk:pkN T l 2=QI 2 T.lM T.NM (Yd 2 l):=by simp [pkN]);(have hlq:l.length<=65536:=by rw [HLL.out];exact hnl);have hTW:Rd wr (fun b=>F b/\b<w.heap.size) C' k' (Q2 T.NM):=(HTI.out.fresh HF3.out).upd HU.out (fun b hb hf e=>by have:=HXW.out;omega);have HCH:=hd_ (XO (fun b=>b=X) (fun b=>F b/\b<w.heap.size) (some ⟨X,0,none⟩) C' 44 44 k' e' 2 T.lM T.NM (Yd 2 l) wr hTW HFT.out.2.2 HN'.out (HBX.out.rdg (by simp)) (Q2q hlq) (by omega));rw [<-hpk]at HCH;obtain⟨k0,⟨k1,k2⟩,k3,k4,-,k5,k6⟩:=HPK.out 2 (by omega);have b4':=(HBR.out.fresh HF3.out).upd HU.out (by have:=HBR.out.lt;have:=HXN.out;omega);have HBX4:=hd_ (fun W (h:Q0 wr W)=>b4'.fresh h);obtain⟨j0,j1,j2,j3,j4,j5⟩:=(b4').cells6;clear b4' htl hpk hTW;go_wp2_with fail;refine HCH.out.mono ?_;rintro e w4 ⟨A2,n2,c2,rfl,hn2,hr2,f4⟩;rw [k0];have b4:=HBX4.out w4 f4;have HR2:=hd_ hr2.both;have HN2:=hd_ hn2;have HF4:=hd_ f4;have HB4:=hd_ b4;obtain⟨mn,hmn⟩:∃mn:Nat,(pkN T l 2).1=mn:=⟨(pkN T l 2).1.toNat,by omega⟩;have HMN:=hd_ hmn;(have hm3:mn<=3:=by omega);have j0:=b4.cell 0;have j1:=b4.cell 1;have j2:=b4.cell 2;have j3:=b4.cell 3;have j4:=b4.cell 4;have j5:=b4.cell 5;have y0:=b4.frozen 4;have y1:=b4.frozen 5;simp at j0 j1 j2 j3 j4 j5;have HK4:=hd_ k4;have HK5:=hd_ (And.intro k3 (And.intro k5 k6));obtain⟨lgx,hlgx⟩:=nm_ ((pkN T l 2).2.1);have HLX:=hd_ hlgx;rw [hmn,<-hlgx];clear hr2 hn2 f4 b4 hmn k0 k1 k2 k3 k4 k5 k6 HCH HBX4 hlgx;go_upto_region 14 with fail;have hb5:=(HB4.out.set_ 4 (.int .i64 lgx)).set_ 5 (.slice A2 n2 c2);obtain⟨w5,hw5⟩:=nm_ ((w4.setCell ⟨H+1,4,none⟩ (.int .i64 lgx)).setCell ⟨H+1,5,none⟩ (.slice A2 n2 c2));simp only [<-hw5];rw [<-hw5]at hb5
       have u5:Upd (fun b=>b=H+1) w4 w5:=by
         rw [hw5];exact((Upd.refl (fun b=>b=H+1) w4).setCell (p:=⟨H+1,4,none⟩) (fun _=>rfl) _).setCell (p:=⟨H+1,5,none⟩) (fun _=>rfl) _
       (have hH1:H+1<wr.heap.size:=by have:=(HBR.out.fresh HF3.out).lt;have:=HU.out.size;omega);have hr5:=HR2.out.upd u5 (fun b _ hb e=>by have:=hb.1;omega);have HR5:=hd_ hr5;have HB5:=hd_ hb5;have HU5:=hd_ u5;have HH1:=hd_ hH1;have HEN:=hd_ (XK _ A2 n2 c2 mn 2 lgx (pkN T l 2).2.2.1 w5 hr5.1 HK5.out.2.1 (by have h1:=HK5.out.2.2;have h2:=HN2.out;omega));(have hbl:Blk w5 (H+1) 69 #[.int .i64 (if 0<2 then(pkN T l 0).2.1 else T.lL),.slice A' n' c',.int .i64 (if 1<2 then(pkN T l 1).2.1 else T.lO),.slice B' m' d',.int .i64 lgx,.slice A2 n2 c2]:=by simpa using hb5);have HBL:=hd_ hbl;obtain⟨j0,j1,j2,j3,j4,j5⟩:=(hbl).cells6;clear hw5 u5 hb5 hr5 hbl y0 y1 hH1;go_wp2_with fail;refine HEN.out.mono ?_;rintro e w6 ⟨ve,rfl,nb⟩;obtain⟨A8,c8,hve,hc8,hr8⟩:=nb.1.form;(have hbl8:(Qb (QD mn 2 lgx (pkN T l 2).2.2.1).2).length=(QD mn 2 lgx (pkN T l 2).2.2.1).2.length:=by simp [Qb]);rw [hbl8]at hve hr8;clear hbl8 hc8;subst hve;have hu46:∀b,u4.ownBlock=some b->b<wo.heap.size/\b≠H+1:=fun b hb=>⟨HOR.out.lt hb,fun e=>HOR.out.ne_blk HBR.out (by decide) (by rw [hb,e])⟩;have o6:=((((HOR.out.fresh HF3.out).upd HU.out (fun b hb e=>by have:=(hu46 b hb).1;have:=HXN.out;omega)).fresh HF4.out).upd HU5.out (fun b hb e=>(hu46 b hb).2 e)).fresh nb.2.1;have hh6:Qb (QX T l 2) = .int .u8 (Ya T l 2:Nat)::Qb (Yi T l 2):=rfl;rw [hh6]at o6;obtain⟨g4,c4,hu4,hg4,hcl4,hfz4,hset4⟩:=o6.head;have HU46:=hd_ hu46;have HVB':=hd_ HVB.out;have HG':=hd_ HG.out;obtain⟨nt,hnt⟩:=nm_ ((Qb (Yi T l 2)).length+1);rw [<-hnt]at hu4;(have hnt0:0<nt:=by omega);have HNT:=hd_ hnt;clear hnt;subst hu4;have hmb:=Q0U (T:=T) (l:=l) (fun j hj=>(HPK.out j hj).2.1) 2 (by omega);have hor:=Q2r (Ya T l 2) mn 2 (by omega) hmb (by omega);have HMB:=hd_ (show Ya T l (2+1)=Ya T l 2+4^2*mn from Q0L T l 2 mn (by omega) HMN.out);have HTB:=hd_ (show Yi T l (2+1)=Yi T l 2++Qq T l 2 from Q03 T l 2 (by omega));have HSET:=hd_ hset4;have hcl4':w6.cell? ⟨g4,0,none⟩=some (.int .u8 (Ya T l 2:Nat)):=hcl4;have hfz4':w6.frozen? ⟨g4,0,none⟩=false:=hfz4;have HNB:=hd_ nb;have HR8:=hd_ hr8;have HVE:=hd_ (fun b (hb:(Value.slice A8 (QD mn 2 lgx (pkN T l 2).2.2.1).2.length c8).ownBlock=some b)=>(show b≠g4 from fun e=>by have h1:=nb.2.2 b hb;have h2:=(hu46 g4 rfl).1;have h3:=HU5.out.size;have h4:=HF4.out.size;have h5:=HU.out.size;have h6:=HF3.out.size;omega));clear nb hr8 hu46 o6 hh6 hcl4 hfz4 hset4 hmb;(have hwz:IntKind.i64.wrap 4=4:=by decide);have hsl:∀W,(Op.shift .shl .u8 (IntKind.u8.wrap (mn:Int)) .i64 4).run Tryz.prog W = .ok (.int .u8 (IntKind.u8.wrap (IntKind.u8.wrap (mn:Int)*2^(2*2)))) W:=fun W=>Q4l (IntKind.u8.wrap (mn:Int)) (2*2) W (by omega);(have hor':bits .or .u8 (Ya T l 2:Int) ((mn:Int)*16)=(Ya T l (2+1):Nat):=by rw [HMB.out,<-hor];congr 1;rw [IntKind.wrap_u8',IntKind.wrap_u8'];omega)
       clear hor;go_upto_region 17 with fail;go_still_tail 10,(by kernel_rfl);change wpList _ _ _ _ _ w6.drew
       have h16:(Yi T l 2).length<=3000:=by
         have e0:=YQ (pkN T l 0).1 0 (pkN T l 0).2.1 (pkN T l 0).2.2.1 (by omega);have e1:=YQ (pkN T l 1).1 1 (pkN T l 1).2.1 (pkN T l 1).2.2.1 (by omega);have e2:=YQ (pkN T l 2).1 2 (pkN T l 2).2.1 (pkN T l 2).2.2.1 (by omega);simp [Yi,Qq];(try omega)
       have h17:(QD mn 2 lgx (pkN T l 2).2.2.1).2.length<=1000:=YQ mn 2 lgx (pkN T l 2).2.2.1 (by omega);have HOS:=hd_ (show Own (w6.setCell ⟨g4,0,none⟩ (.int .u8 (bits .or .u8 (Ya T l 2:Int) ((mn:Int)*16)))).drew 5 (.slice (some ⟨g4,0,none⟩) nt c4) (.int .u8 (Ya T l (2+1):Nat)::Qb (Yi T l 2))from by rw [hor'];exact(HSET.out (.int .u8 (Ya T l (2+1):Nat))).drew);clear hsl hwz hor';(have hln:(Value.int .u8 (Ya T l (2+1):Nat)::Qb (Yi T l 2)).length+(QD mn 2 lgx (pkN T l 2).2.2.1).2.length<=2^40:=by simp [Qb];omega);go_wp2_with (at_builtin;go_must (refine J9 _ rfl (.tmp 72) (.tmp 73) _ rfl 5 _ 1 Tryz.underlying26 Zv rfl (.slice (some ⟨g4,0,none⟩) nt c4) _ rfl HOS.out _ _ _ _ rfl (HR8.out.upd (S:=fun b=>b=g4) (((Upd.refl (fun b=>b=g4) w6).setCell (p:=⟨g4,0,none⟩) (fun _=>rfl) _).drew) (fun b _ hb e=>HVE.out b hb e)) (Zj _) (by omega) (by simpa [Qb]using hln) ?_));intro v7 w7 o7 g7 a7;have hg4:=(HU46.out g4 rfl);have hg4w:w.heap.size<=g4:=HVB'.out g4 rfl;have s1:=HF3.out.size;have s2:=HU.out.size;have s3:=HF4.out.size;have s4:=HU5.out.size;have s5:=HNB.out.2.1.size;have hxw:X=wo.heap.size:=HXN.out;have hHH:=HH.out;have hh1:=HH1.out;have u56:Upd (fun b=>b=H+1\/b=g4) w5 w7:=(((HNB.out.2.1.mono (T:=fun b=>b=H+1\/b=g4) fun _ _ h=>h.elim).setCell (p:=⟨g4,0,none⟩) (fun _=>.inr rfl) _).drew).grown g7 (fun k hk _=>by injection hk with hk;exact .inr hk.symm);have u47:Upd (fun b=>b=H+1\/b=g4) w4 w7:=(HU5.out.mono fun _ _ h=>.inl h).trans' u56;have u07:Upd (fun b=>b=H+1\/b=g4) wo w7:=((((HF3.out.mono fun _ _ h=>h.elim).trans HU.out (fun b hb e=>by omega)).trans' (HF4.out.mono fun _ _ h=>h.elim))).trans' u47;have hb7:=((HBL.out.fresh HNB.out.2.1).far (p:=⟨g4,0,none⟩) (fun e=>hg4.2 e.symm) (.int .u8 (bits .or .u8 (Ya T l 2:Int) ((mn:Int)*16)))).drew.grown g7 (fun h=>by injection h with h;exact hg4.2 h)
       have e7:(Value.int .u8 (Ya T l (2+1):Nat)::Qb (Yi T l 2))++Qb (QD mn 2 lgx (pkN T l 2).2.2.1).2=Qb (QX T l (2+1)):=by
         unfold QX;rw [HTB.out];unfold Qq;rw [HMN.out,<-HLX.out];simp [Qb]
       (have o7':Own w7 5 v7 (Qb (QX T l (2+1))):=by rw [<-e7];exact o7);have s7:=u47.size;have HU07:=hd_ u07;have HB7:=hd_ hb7;have HO7:=hd_ o7';have HR7:=hd_ (HR5.out.upd u56 (fun b _ hb e=>by rcases e with e|e<;>omega))
       have HVB7:=hd_ (fun b (hb:v7.ownBlock=some b)=>(show w.heap.size<=b by
         rcases a7 with h|h
         . rw [h]at hb;injection hb with hb;have hb':g4=b:=hb;omega
         rw [h]at hb;injection hb with hb;have:=HFR.out.size;omega))
       have HG7:=hd_ (fun b (hb:G b\/(wr.heap.size<=b/\b<w4.heap.size))=>(show w.heap.size<=b/\b<w7.heap.size/\b≠H+1/\v7.ownBlock≠some b by
         have hfw:=HFR.out.size;have hh1:=HH1.out;rcases hb with hb|hb
         . obtain⟨q1,q2,q3,q4⟩:=HG'.out b hb
           have hgb:g4≠b:=fun e=>q4 (by rw [<-e];rfl);refine⟨q1,by omega,q3,fun h=>?_⟩;rcases a7 with h'|h'
           . rw [h']at h;injection h with h;exact hgb h
           rw [h']at h;injection h with h;omega
         refine⟨by omega,by omega,by omega,fun h=>?_⟩;rcases a7 with h'|h'
         . rw [h']at h;injection h with h;have h:g4=b:=h;omega
         rw [h']at h;injection h with h;omega))
       have HFW7:=hd_ (show Q0 w w7 from HFR.out.trans u07 (fun b hb e=>by rcases e with e|e<;>omega));have HSF:=hd_ (fun b (hf:F b/\b<w.heap.size) (e:b=H+1\/b=g4)=>(show False by have:=hf.2;rcases e with e|e<;>omega))
       have HSG:=hd_ (fun b (hb:G b) (e:b=H+1\/b=g4)=>(show False by
         obtain⟨q1,q2,q3,q4⟩:=HG'.out b hb;rcases e with e|e
         . exact q3 e
         exact q4 (by rw [e];rfl)))
       clear hg4 hg4w s1 s2 s3 s4 s5 hxw hHH hh1 u56 u47 u07 hb7 e7 o7 o7' a7 g7 s7 h16 h17 hln;go_wp2_with fail;go_roundg 0
       case measure=>omega
       case rel =>
         refine⟨3,A',B',A2,n',c',m',d',n2,c2,fun b=>G b\/(wr.heap.size<=b/\b<w4.heap.size),rfl,by go_num,rfl,HFW7.out,?_,?_,?_,?_,HO7.out,HVB7.out,HG7.out⟩
         . have hh:=HB7.out
           rw [HLX.out]at hh;simpa using hh
         . exact(show RdU wo G A' n' (Q2 (pkN T l 0).2.2.1)from HT.out.1).upd HU07.out (fun b _ hb e=>HSG.out b hb e) |>.mono fun b hb=>.inl hb
         . exact(show RdU wo G B' m' (Q2 (pkN T l 1).2.2.1)from HT.out.2.1).upd HU07.out (fun b _ hb e=>HSG.out b hb e) |>.mono fun b hb=>.inl hb
         exact HR7.out.mono fun b hb=>.inr hb
   (obtain rfl:gk=0:=by omega);clear hjf;obtain⟨x0,hx0⟩:∃q,q=(pkN T l 0).2.1:=⟨_,rfl⟩;obtain⟨x1,hx1⟩:∃q,q=(pkN T l 1).2.1:=⟨_,rfl⟩;obtain⟨x2,hx2⟩:∃q,q=(pkN T l 2).2.1:=⟨_,rfl⟩;(have hb3:Blk wr (H+1) 69 #[.int .i64 x0,.slice A' n' c',.int .i64 x1,.slice B' m' d',.int .i64 x2,.slice C' k' e']:=by rw [hx0,hx1,hx2];simpa using HBR.out);have y0:=hb3.cell 0;have y1:=hb3.cell 1;have y2:=hb3.cell 2;have y3:=hb3.cell 3;have y4:=hb3.cell 4;have y5:=hb3.cell 5;have z0:=hb3.frozen 0;have z1:=hb3.frozen 1;have z2:=hb3.frozen 2;have z3:=hb3.frozen 3;have z4:=hb3.frozen 4;have z5:=hb3.frozen 5;simp at y0 y1 y2 y3 y4 y5;have t0:RdU wr G A' n' (Q2 (Y9 T l).NL):=HT.out.1;have t1:RdU wr G B' m' (Q2 (Y9 T l).NO):=HT.out.2.1;have t2:RdU wr G C' k' (Q2 (Y9 T l).NM):=HT.out.2.2;have HB3:=hd_ hb3
   have HP:=hd_ (show ∀W,Upd (fun b=>b=H+1) wr W->Q04 T l w (.returned (.tuple #[u4,.agg #[.int .i64 x0,.slice A' n' c',.int .i64 x1,.slice B' m' d',.int .i64 x2,.slice C' k' e'],.int .i64 0])) W from by
     intro W u6;have hG6:∀b,b<wr.heap.size->G b->¬b=H+1:=fun b _ hb e=>(HG.out b hb).2.2.1 e;have hHH:=HH.out;subst hx0 hx1 hx2;refine⟨HFR.out.trans u6 (fun b hb e=>by omega),u4,A',n',c',B',m',d',C',k',e',rfl,HOR.out.upd u6 (fun b hb e=>by subst e;exact HOR.out.ne_blk HB3.out (by decide) hb),HVB.out,?_,?_,?_⟩
     . exact(t0.upd u6 hG6).mono fun b hb=>(HG.out b hb).1
     . exact(t1.upd u6 hG6).mono fun b hb=>(HG.out b hb).1
     exact(t2.upd u6 hG6).mono fun b hb=>(HG.out b hb).1)
   clear hb3 t0 t1 t2 hx0 hx1 hx2 HT HBR HOR HVB HG;go_upto_region 20 with fail;go_still_tail 3,(by kernel_rfl);change wpList _ _ _ _ _ wr.drew;go_wp2_with fail;have u6:=Q0C wr (H+1) (.int .i64 x0) (.slice A' n' c') (.int .i64 x1) (.slice B' m' d') (.int .i64 x2) (.slice C' k' e');have b6:=HB3.out.set6 (.int .i64 x0) (.slice A' n' c') (.int .i64 x1) (.slice B' m' d') (.int .i64 x2) (.slice C' k' e');generalize ((((((wr.setCell ⟨H+1,0,none⟩ (.int .i64 x0)).setCell ⟨H+1,1,none⟩ (.slice A' n' c')).setCell ⟨H+1,2,none⟩ (.int .i64 x1)).setCell ⟨H+1,3,none⟩ (.slice B' m' d')).setCell ⟨H+1,4,none⟩ (.int .i64 x2)).setCell ⟨H+1,5,none⟩ (.slice C' k' e'))=w9 at *;refine bodyPost_ret (Xo rfl _ _ (H+1) 69 _ _ rfl b6.drew Tryz.underlying69 rfl (by kernel_rfl)) rfl ?_;exact hR.out _ _ (HP.out _ u6.drew)
end Go.Proofs.YtjfdaphjijfieaaGreat
namespace Go.Proofs.YtjfdaphjijfieaaGreat
def J5 (T:Qa) (a b c:Int) (l:List (Int × Int × Int)):List Nat :=
  l.length::(QX T (QC a b c l) 3++QL (wrE (Y9 T (QC a b c l)).trks (QC a b c l)++[true]))
theorem Q05 {T:Qa} {l:List Qe} (hl:l.length<=65536) (hne:l≠[]) (hok:∀x∈l,x.ok) (B0 rest:List Nat)
   (h3:∀i:Nat,i<=2->(pkN T l i).1=3->(if i=0 then T.lL else if i=1 then T.lO else T.lM)=(pkN T l i).2.1/\(if i=0 then T.NL else if i=1 then T.NO else T.NM)=(pkN T l i).2.2.1) :
   QE (B0++(QX T l 3++rest)) B0.length T=(0,Y9 T l,B0.length+(QX T l 3).length):=by
 obtain⟨_,⟨m0a,m0b⟩,_,e0,_⟩:=YC (T:=T) hl hne hok 0 (by omega);obtain⟨_,⟨m1a,m1b⟩,_,e1,_⟩:=YC (T:=T) hl hne hok 1 (by omega);obtain⟨_,⟨m2a,m2b⟩,_,e2,_⟩:=YC (T:=T) hl hne hok 2 (by omega);have t0:=h3 0 (by omega);have t1:=h3 1 (by omega);have t2:=h3 2 (by omega);simp at t0 t1 t2 e0 e1 e2;obtain⟨x,hx⟩:=nm_ (Ya T l 3);(have hxe:x=(pkN T l 0).1.toNat+4*(pkN T l 1).1.toNat+16*(pkN T l 2).1.toNat:=by rw [hx];simp [Ya]);(have hhd:QX T l 3=x::(Qq T l 0++(Qq T l 1++Qq T l 2)):=by rw [hx];simp [QX,Yi]);(have x64:¬64<=x:=by omega);(have g0:((x%4:Nat):Int)=(pkN T l 0).1:=by omega);(have g1:((x / 4%4:Nat):Int)=(pkN T l 1).1:=by omega);(have g2:((x / 16%4:Nat):Int)=(pkN T l 2).1:=by omega);rw [hhd];have d0:=VM (p:=0) (l0:=T.lL) (N0:=T.NL) e0 t0 (B0++[x]) (Qq T l 1++(Qq T l 2++rest));have d1:=VM (p:=1) (l0:=T.lO) (N0:=T.NO) e1 t1 (B0++([x]++Qq T l 0)) (Qq T l 2++rest);have d2:=VM (p:=2) (l0:=T.lM) (N0:=T.NM) e2 t2 (B0++([x]++(Qq T l 0++Qq T l 1))) rest;obtain⟨bs,hbs⟩:=nm_ (B0++(x::(Qq T l 0++(Qq T l 1++Qq T l 2))++rest));(have q0:B0++[x]++(Qq T l 0++(Qq T l 1++(Qq T l 2++rest)))=bs:=by rw [hbs];simp);(have q1:B0++([x]++Qq T l 0)++(Qq T l 1++(Qq T l 2++rest))=bs:=by rw [hbs];simp);(have q2:B0++([x]++(Qq T l 0++Qq T l 1))++(Qq T l 2++rest)=bs:=by rw [hbs];simp);have r0:(QD (pkN T l 0).1 0 (pkN T l 0).2.1 (pkN T l 0).2.2.1).2=Qq T l 0:=rfl;have r1:(QD (pkN T l 1).1 1 (pkN T l 1).2.1 (pkN T l 1).2.2.1).2=Qq T l 1:=rfl;have r2:(QD (pkN T l 2).1 2 (pkN T l 2).2.1 (pkN T l 2).2.2.1).2=Qq T l 2:=rfl;rw [r0,q0]at d0;rw [r1,q1]at d1;rw [r2,q2]at d2;rw [<-hbs];(have hlt:B0.length<bs.length:=by rw [hbs];simp);(have hget:bs[B0.length]?.getD 0=x:=by rw [hbs];simp);(have n0:(B0++[x]).length=B0.length+1:=by simp);(have n1:(B0++([x]++Qq T l 0)).length=B0.length+1+(Qq T l 0).length:=by simp;omega);(have n2:(B0++([x]++(Qq T l 0++Qq T l 1))).length=B0.length+1+(Qq T l 0).length+(Qq T l 1).length:=by simp;omega);rw [n0]at d0;rw [n1]at d1;rw [n2]at d2;unfold QE;rw [if_pos hlt];simp only [hget];rw [if_neg x64,g0,g1,g2,d0];simp only;rw [d1];simp only;rw [d2];simp [Y9];omega
theorem VO {T:Qa} {l:List Qe} (hl:l.length<=65536) (hne:l≠[]) (hok:∀x∈l,x.ok) (i:Nat) (hi:i<=2) (h3:(pkN T l i).1=3) :
   (if i=0 then T.lL else if i=1 then T.lO else T.lM)=(pkN T l i).2.1/\(if i=0 then T.NL else if i=1 then T.NO else T.NM)=(pkN T l i).2.2.1:=by
 have key:∀(j:Nat) (lg:Int) (N:List Int),j<=2->pkN T l j=QI j lg N (Yd j l)->(pkN T l j).2.2.2=0->(pkN T l j).1=3->lg=(pkN T l j).2.1/\N=(pkN T l j).2.2.1:=by
   intro j lg N hj e h0 h3;have h4:=(Q0H (p:=(j:Int)) (lg:=lg) (N:=N) (C:=Yd j l) (r1:=(pkN T l j).1) (r2:=(pkN T l j).2.1) (r3:=(pkN T l j).2.2.1) (by omega) (by rw [<-e,<-h0])).2.2.1;rw [h3]at h4;unfold Ji at h4;rcases List.mem_cons.1 h4 with h4|h4
   . injection h4 with _ h4
     injection h4 with h5 h6;exact⟨h5.symm,h6.symm⟩
   exfalso;rcases List.mem_cons.1 h4 with h4|h4
   . injection h4 with h5 _
     omega
   split at h4
   . simp at h4
     have h5:=h4.1;(split at h5<;>omega)
   cases h4
 have h0:=(YC (T:=T) hl hne hok i hi).1;(have h3':i=0\/i=1\/i=2:=by omega);rcases h3' with rfl|rfl|rfl
 . exact key 0 T.lL T.NL (by omega) rfl h0 h3
 . exact key 1 T.lO T.NO (by omega) rfl h0 h3
 exact key 2 T.lM T.NM (by omega) rfl h0 h3
theorem Q2s {T:Qa} {l:List Qe} (hl:l.length<=65536) (hne:l≠[]) (hok:∀x∈l,x.ok):(Y9 T l).trks.ok/\∀x∈l,Cov (Y9 T l).trks x:=by
 obtain⟨_,_,v0,_,c0,_⟩:=YC (T:=T) hl hne hok 0 (by omega);obtain⟨_,_,v1,_,c1,_⟩:=YC (T:=T) hl hne hok 1 (by omega);obtain⟨_,_,v2,_,c2,_⟩:=YC (T:=T) hl hne hok 2 (by omega);(have i0:((pkN T l 0).2.1.toNat:Int)=(pkN T l 0).2.1:=by have:=v0.1;omega);(have i1:((pkN T l 1).2.1.toNat:Int)=(pkN T l 1).2.1:=by have:=v1.1;omega);(have i2:((pkN T l 2).2.1.toNat:Int)=(pkN T l 2).2.1:=by have:=v2.1;omega);refine⟨⟨?_,?_,?_⟩,fun x hx=>⟨c0 x hx,c1 x hx,c2 x hx⟩⟩
 . simp only [Y9,Qa.trks];rw [i0];exact v0
 . simp only [Y9,Qa.trks];rw [i1];exact v1
 simp only [Y9,Qa.trks];rw [i2];exact v2
theorem VP:∀(l:List (Int × Int × Int)) (a b c:Int),(QC a b c l).length=l.length
 | [],_,_,_=>rfl
 | s::l,a,b,c=>by simp [QC,VP l]
theorem Q9D {T:Qa} {a b c:Int} {l:List (Int × Int × Int)} (hr:Qw a b c=true) (hs:∀s∈l,okS s) (hn:l.length<128) (hne:l≠[]) :
   QB (J5 T a b c l) 0 T a b c=⟨0,l,Y9 T (QC a b c l),(JV a b c l).1,(JV a b c l).2.1,(JV a b c l).2.2,(J5 T a b c l).length⟩:=by
 obtain⟨R,hR⟩:=nm_ (QC a b c l);(have hlen:R.length=l.length:=by rw [hR];exact VP l a b c);(have hok:∀x∈R,x.ok:=by rw [hR];exact KY hs);(have hRn:R≠[]:=by intro h;rw [h]at hlen;exact hne (List.eq_nil_of_length_eq_zero hlen.symm));have hpos:0<l.length:=List.length_pos_iff.2 hne
 have hv:Qn ((J5 T a b c l).drop 0)=(l.length,1,0):=by
   (have h1:¬128<=l.length:=by omega);(have h2:¬(4611686018427387903<0+l.length%128*2^(7*0)):=by omega);(have h4:l.length%128=l.length:=by omega);simp only [List.drop_zero,J5,Qn,Kj];rw [if_neg h1,if_neg (by omega),if_neg h2,h4];simp
 have hh:=Q05 (T:=T) (l:=R) (by omega) hRn hok [l.length] (QL (wrE (Y9 T R).trks R++[true])) (fun i hi h3=>VO (by omega) hRn hok i hi h3);obtain⟨k1,k2⟩:=Q2s (T:=T) (l:=R) (by omega) hRn hok;have hcl:=Q6o (wrE (Y9 T R).trks R);have hall:=Q9j (V:=QA (QL (wrE (Y9 T R).trks R++[true]))) k1 hRn (fun y hy=>⟨hok y hy,k2 y hy⟩) hcl.2.2;have hoff:=Q2X (a:=a) (b:=b) (c:=c) hs;rw [<-hR]at hoff;(have hE:J5 T a b c l=[l.length]++(QX T R 3++QL (wrE (Y9 T R).trks R++[true])):=by rw [hR];rfl);rw [<-hR];refine Q5l (to_:=1+(QX T R 3).length) hr (by rw [hv]) (by rw [hv];simp only;omega) (by rw [hv];simp only;omega) ?_ ?_
 . rw [hv,hE]
   exact hh
 have hdrop:(J5 T a b c l).drop (1+(QX T R 3).length)=QL (wrE (Y9 T R).trks R++[true]):=by
   rw [hE,<-List.append_assoc];exact List.drop_left' (by simp;omega)
 rw [hdrop,hv];simp only;unfold Ys;rw [if_neg hcl.2.1,hcl.1,<-hlen,hall];simp only;rw [if_neg (by simp),hoff]
def okX (s:Nat × Int):Prop:=s.2=0\/s.2=14
theorem Kf {V n:Nat} {s:Nat × Int} (h:okX s):okX (QN V s n).2:=by
 unfold QN;split
 . exact h
 split
 . exact .inl rfl
 exact .inr rfl
theorem Q80 {V:Nat} {T:QK} {S:Sts} {s:Nat × Int} (h:okX s):okX (JQ V T S s).2:=Kf (Kf (Kf h))
theorem QaE {V:Nat} {T:QK} {S:Sts} {s:Nat × Int} (h:okX s):okX (Z8 V T S s).2:=Kf (Kf (Kf h))
theorem Q9E {V:Nat} {T:QK} {s:Nat × Int} (h:okX s):okX (KL V T s).2:=Kf (Kf (Kf h))
theorem Q5s {V:Nat} {T:QK}:∀(k:Nat) (S:Sts) (s:Nat × Int),okX s->okX (YE V T k S s).2
 | 0,_,_,h=>h
 | k+1,S,s,h=>by
   unfold YE
   split
   . exact h
   split
   . exact Q80 h
   exact Q5s k _ _ (QaE (Q80 h))
theorem Qb2 (V:Nat) (T:QK) (n t:Nat):(JK V T n t).2.2=0\/(JK V T n t).2.2=14:=by
 have h:=Q5s (V:=V) (T:=T) n (KL V T (t,0)).1 _ (Q9E (V:=V) (T:=T) (s:=(t,0)) (.inl rfl));unfold JK;simp only;split
 . exact .inr rfl
 exact h
theorem Qb3 (bs:List Nat) (T:QK) (n:Nat) (a b c:Int):(Ys bs T n a b c).1=0\/(Ys bs T n a b c).1=14\/(Ys bs T n a b c).1=15:=by
 unfold Ys;split
 . exact .inr (.inl rfl)
 split
 . rcases Qb2 (QA bs) T n (Ym bs)with h|h
   . exact .inl h
   exact .inr (.inl h)
 rcases Q31 (JK (QA bs) T n (Ym bs)).1 a b c with h|h
 . exact .inl h
 exact .inr (.inr h)
theorem Q9F {T:Qa} {a b c:Int} {l:List (Int × Int × Int)} (hr:Qw a b c=true) (hs:∀s∈l,okS s) (hn:l.length<128) (hne:l≠[]) :
   (QB (J5 T a b c l++[0]) 0 T a b c).err=14:=by
 obtain⟨R,hR⟩:=nm_ (QC a b c l);(have hlen:R.length=l.length:=by rw [hR];simp);(have hok:∀x∈R,x.ok:=by rw [hR];exact KY hs);(have hRn:R≠[]:=by intro h;rw [h]at hlen;exact hne (List.eq_nil_of_length_eq_zero hlen.symm));have hpos:0<l.length:=List.length_pos_iff.2 hne
 have hv:Qn ((J5 T a b c l++[0]).drop 0)=(l.length,1,0):=by
   (have h1:¬128<=l.length:=by omega);(have h2:¬(4611686018427387903<0+l.length%128*2^(7*0)):=by omega);(have h4:l.length%128=l.length:=by omega);simp only [List.drop_zero,J5,Qn,Kj,List.cons_append];rw [if_neg h1,if_neg (by omega),if_neg h2,h4];simp
 (have hE:J5 T a b c l++[0]=[l.length]++(QX T R 3++(QL (wrE (Y9 T R).trks R++[true])++[0])):=by rw [hR];simp [J5]);have hh:=Q05 (T:=T) (l:=R) (by omega) hRn hok [l.length] (QL (wrE (Y9 T R).trks R++[true])++[0]) (fun i hi h3=>VO (by omega) hRn hok i hi h3);rw [<-hE]at hh
 have hdrop:(J5 T a b c l++[0]).drop (1+(QX T R 3).length)=QL (wrE (Y9 T R).trks R++[true])++[0]:=by
   rw [hE,<-List.append_assoc];exact List.drop_left' (by simp;omega)
 (have hh':QE (J5 T a b c l++[0]) (0+(Qn ((J5 T a b c l++[0]).drop 0)).2.1) T=(0,Y9 T R,1+(QX T R 3).length):=by rw [hv];exact hh)
 have hrow:Ys ((J5 T a b c l++[0]).drop (1+(QX T R 3).length)) (Y9 T R).trks l.length a b c=(14,[],0,0,0):=by
   rw [hdrop];unfold Ys;rw [if_pos (by simp)]
 rw [Q1E hr (by rw [hv]) (by rw [hv];simp only;omega) (by rw [hv];simp only;omega) (by rw [hh']) (by rw [hh',hv];simp only;rw [hrow];simp),hh',hv];simp only;rw [hrow];rfl
theorem Q81 {T:Qa} {l:List Qe} (hl:l.length<=65536) (hne:l≠[]) (hok:∀x∈l,x.ok) (B0:List Nat) (k:Nat) (hk:k<(QX T l 3).length):(QE (B0++(QX T l 3).take k) B0.length T).1=3:=by
 obtain⟨_,⟨m0a,m0b⟩,_,e0,_⟩:=YC (T:=T) hl hne hok 0 (by omega);obtain⟨_,⟨m1a,m1b⟩,_,e1,_⟩:=YC (T:=T) hl hne hok 1 (by omega);obtain⟨_,⟨m2a,m2b⟩,_,e2,_⟩:=YC (T:=T) hl hne hok 2 (by omega);have t0:=VO (T:=T) hl hne hok 0 (by omega);have t1:=VO (T:=T) hl hne hok 1 (by omega);simp at t0 t1 e0 e1 e2;obtain⟨x,hx⟩:=nm_ (Ya T l 3);(have hxe:x=(pkN T l 0).1.toNat+4*(pkN T l 1).1.toNat+16*(pkN T l 2).1.toNat:=by rw [hx];simp [Ya]);(have hhd:QX T l 3=x::(Qq T l 0++(Qq T l 1++Qq T l 2)):=by rw [hx];simp [QX,Yi]);(have x64:¬64<=x:=by omega);(have g0:((x%4:Nat):Int)=(pkN T l 0).1:=by omega);(have g1:((x / 4%4:Nat):Int)=(pkN T l 1).1:=by omega);(have g2:((x / 16%4:Nat):Int)=(pkN T l 2).1:=by omega);have r0:(QD (pkN T l 0).1 0 (pkN T l 0).2.1 (pkN T l 0).2.2.1).2=Qq T l 0:=rfl;have r1:(QD (pkN T l 1).1 1 (pkN T l 1).2.1 (pkN T l 1).2.2.1).2=Qq T l 1:=rfl;have r2:(QD (pkN T l 2).1 2 (pkN T l 2).2.1 (pkN T l 2).2.2.1).2=Qq T l 2:=rfl;rw [hhd]at hk ⊢
 cases k with
 | zero =>
   unfold QE;rw [if_neg (by simp)]
 | succ j =>
   (have hj:j<(Qq T l 0).length+((Qq T l 1).length+(Qq T l 2).length):=by simpa using hk);rw [List.take_succ_cons];obtain⟨bs,hbs⟩:=nm_ (B0++(x::(Qq T l 0++(Qq T l 1++Qq T l 2)).take j));rw [<-hbs];(have hlt:B0.length<bs.length:=by rw [hbs];simp);(have hget:bs[B0.length]?.getD 0=x:=by rw [hbs];simp);(have n0:(B0++[x]).length=B0.length+1:=by simp);(have n1:(B0++([x]++Qq T l 0)).length=B0.length+1+(Qq T l 0).length:=by simp;omega);(have n2:(B0++([x]++(Qq T l 0++Qq T l 1))).length=B0.length+1+(Qq T l 0).length+(Qq T l 1).length:=by simp;omega);unfold QE;rw [if_pos hlt];simp only [hget];rw [if_neg x64,g0,g1,g2];by_cases c0:j<(Qq T l 0).length
   . have d0:=VN (p:=0) (l0:=T.lL) (N0:=T.NL) e0 (B0++[x]) j (by rw [r0];exact c0)
     (have q0:B0++[x]++(Qq T l 0).take j=bs:=by rw [hbs,List.take_append_of_le_length (by omega)];simp);rw [r0,q0,n0]at d0;rw [if_pos (by rw [d0];decide)];exact d0
   obtain⟨j1,rfl⟩:∃j1,j=(Qq T l 0).length+j1:=⟨j-(Qq T l 0).length,by omega⟩;rw [List.take_length_add_append]at hbs;have d0:=VM (p:=0) (l0:=T.lL) (N0:=T.NL) e0 t0 (B0++[x]) ((Qq T l 1++Qq T l 2).take j1);(have q0:B0++[x]++(Qq T l 0++(Qq T l 1++Qq T l 2).take j1)=bs:=by rw [hbs];simp);rw [r0,q0,n0]at d0;rw [d0];simp only;rw [if_neg (by simp)];by_cases c1:j1<(Qq T l 1).length
   . have d1:=VN (p:=1) (l0:=T.lO) (N0:=T.NO) e1 (B0++([x]++Qq T l 0)) j1 (by rw [r1];exact c1)
     (have q1:B0++([x]++Qq T l 0)++(Qq T l 1).take j1=bs:=by rw [hbs,List.take_append_of_le_length (l₁:=Qq T l 1) (by omega)];simp);rw [r1,q1,n1]at d1;rw [if_pos (by rw [d1];decide)];exact d1
   obtain⟨j2,rfl⟩:∃j2,j1=(Qq T l 1).length+j2:=⟨j1-(Qq T l 1).length,by omega⟩;rw [List.take_length_add_append]at hbs;have d1:=VM (p:=1) (l0:=T.lO) (N0:=T.NO) e1 t1 (B0++([x]++Qq T l 0)) ((Qq T l 2).take j2);(have q1:B0++([x]++Qq T l 0)++(Qq T l 1++(Qq T l 2).take j2)=bs:=by rw [hbs];simp);rw [r1,q1,n1]at d1;rw [d1];simp only;rw [if_neg (by simp)];have d2:=VN (p:=2) (l0:=T.lM) (N0:=T.NM) e2 (B0++([x]++(Qq T l 0++Qq T l 1))) j2 (by rw [r2];omega);(have q2:B0++([x]++(Qq T l 0++Qq T l 1))++(Qq T l 2).take j2=bs:=by rw [hbs];simp);rw [r2,q2,n2]at d2;rw [if_pos (by rw [d2];decide)];exact d2
theorem QaF {T:Qa} {a b c:Int} {l:List (Int × Int × Int)} (hr:Qw a b c=true) (hs:∀s∈l,okS s) (hn:l.length<128) (hne:l≠[]) (k:Nat) :
   (QB ((J5 T a b c l).take k) 0 T a b c).err=0\/(QB ((J5 T a b c l).take k) 0 T a b c).err=3\/(QB ((J5 T a b c l).take k) 0 T a b c).err=14\/(QB ((J5 T a b c l).take k) 0 T a b c).err=15:=by
 cases k with
 | zero =>
   right;left;rw [List.take_zero,Q4f hr (by simp [Qn,Kj])];rfl
 | succ k =>
   obtain⟨R,hR⟩:=nm_ (QC a b c l);(have hlen:R.length=l.length:=by rw [hR];simp);(have hok:∀x∈R,x.ok:=by rw [hR];exact KY hs);(have hRn:R≠[]:=by intro h;rw [h]at hlen;exact hne (List.eq_nil_of_length_eq_zero hlen.symm));have hpos:0<l.length:=List.length_pos_iff.2 hne;obtain⟨Z,hZ⟩:=nm_ (QL (wrE (Y9 T R).trks R++[true]));(have hE:(J5 T a b c l).take (k+1)=[l.length]++(QX T R 3++Z).take k:=by rw [hZ,hR];rfl);obtain⟨bs,hbs⟩:=nm_ ((J5 T a b c l).take (k+1));rw [<-hbs]
   have hv:Qn (bs.drop 0)=(l.length,1,0):=by
     (have h1:¬128<=l.length:=by omega);(have h2:¬(4611686018427387903<0+l.length%128*2^(7*0)):=by omega);(have h4:l.length%128=l.length:=by omega);rw [hbs,hE];simp only [List.drop_zero,Qn,Kj,List.cons_append,List.nil_append];rw [if_neg h1,if_neg (by omega),if_neg h2,h4];simp
   have hhe:(QE bs (0+(Qn (bs.drop 0)).2.1) T).1=0\/(QE bs (0+(Qn (bs.drop 0)).2.1) T).1=3:=by
     rw [hv,hbs,hE];by_cases hk:k<(QX T R 3).length
     . right
       rw [List.take_append_of_le_length (by omega)];exact Q81 (by omega) hRn hok [l.length] k hk
     left;obtain⟨k1,rfl⟩:∃k1,k=(QX T R 3).length+k1:=⟨k-(QX T R 3).length,by omega⟩;rw [List.take_length_add_append];have:=Q05 (T:=T) (l:=R) (by omega) hRn hok [l.length] (Z.take k1) (fun i hi h3=>VO (by omega) hRn hok i hi h3);exact congrArg Prod.fst this
   (have h2:¬65536<(Qn (bs.drop 0)).1:=by rw [hv];simp only;omega);(have h3:(Qn (bs.drop 0)).1≠0:=by rw [hv];simp only;omega);rcases hhe with hh|hh
   . by_cases hrow:(Ys (bs.drop (QE bs (0+(Qn (bs.drop 0)).2.1) T).2.2) (QE bs (0+(Qn (bs.drop 0)).2.1) T).2.1.trks (Qn (bs.drop 0)).1 a b c).1=0
     . left
       unfold QB;rw [if_neg (by rw [hr];simp)];simp only;rw [if_neg (by rw [hv];simp),if_neg h2,if_neg h3,if_neg (by rw [hh];simp),if_neg (by rw [hrow];simp)]
     rw [Q1E hr (by rw [hv]) h2 h3 hh hrow];rcases Qb3 (bs.drop (QE bs (0+(Qn (bs.drop 0)).2.1) T).2.2) (QE bs (0+(Qn (bs.drop 0)).2.1) T).2.1.trks (Qn (bs.drop 0)).1 a b c with h|h|h
     . exact absurd h hrow
     . exact .inr (.inr (.inl h))
     exact .inr (.inr (.inr h))
   right;left;rw [Q34 hr (by rw [hv]) h2 h3 (by rw [hh];decide)];exact hh
end Go.Proofs.YtjfdaphjijfieaaGreat
