/-
  Joined texts, part 30: contracts and plain lemmas.
  Conditions: none beyond those of each theorem.
-/
import Derived.Test.YtjfdaphjijfieaaGreatN23
import Derived.Test.YtjfdaphjijfieaaGreatN17
import Derived.Test.YtjfdaphjijfieaaGreatN29
import Derived.Test.YtjfdaphjijfieaaGreatN22
import Derived.Test.YtjfdaphjijfieaaGreatN28
set_option maxHeartbeats 40000000
set_option linter.unusedVariables false
set_option linter.unusedSimpArgs false
set_option maxRecDepth 100000
universe u
namespace Go.Proofs.YtjfdaphjijfieaaGreat
open Go.RowKit
def Qc (V:Nat) (s:Nat × Int) (n:Nat):Nat × Nat × Int :=
  if s.2≠0 then(0,s)else if n<=s.1 then(V / 2^(s.1-n)%2^n,s.1-n,0)else(0,s.1,14)
def Qu (p:Nat) (N:List Int) (st:Nat):Nat:=(JC (Q7 p N) st).toNat
def Ys (p:Nat) (N:List Int) (st:Nat):Nat:=(YB p N (Q7 p N) st).toNat
def JM (p:Nat) (N:List Int) (st:Nat):Nat:=(Jb p N (Q7 p N) st).toNat
def exB (o:Bool) (c:Nat):Nat:=if o then c else Yp c
def loB (o:Bool) (c:Nat):Nat:=if o then 2^c else YS c
def QK (V:Nat) (o:Bool) (p:Nat) (N:List Int) (st:Nat) (s:Nat × Int):Nat × Nat × Int :=
  (loB o (Qu p N st)+(Qc V s (exB o (Qu p N st))).1,(Qc V s (exB o (Qu p N st))).2)
def onE (V:Nat) (p:Nat) (N:List Int) (st:Nat) (s:Nat × Int):Nat × Nat × Int :=
  (JM p N st+(Qc V s (Ys p N st)).1,(Qc V s (Ys p N st)).2)
structure Qp where
  pL:Nat
  NL:List Int
  pO:Nat
  NO:List Int
  pM:Nat
  NM:List Int
structure Sts where
  l:Nat
  o:Nat
  m:Nat
structure Y1 where
  lit:Nat
  len:Nat
  val:Nat
def Qp.ok (T:Qp):Prop:=Qg T.pL T.NL 44 9/\Qg T.pO T.NO 28 8/\Qg T.pM T.NM 44 9
def Sts.ok (T:Qp) (S:Sts):Prop:=S.l<2^T.pL/\S.o<2^T.pO/\S.m<2^T.pM
def Yt (V:Nat) (T:Qp) (S:Sts) (s:Nat × Int):Y1 × Nat × Int :=
  let o:=QK V true T.pO T.NO S.o s
  let m:=QK V false T.pM T.NM S.m o.2
  let l:=QK V false T.pL T.NL S.l m.2
  (⟨l.1,m.1+3,o.1⟩,l.2)
def YV (V:Nat) (T:Qp) (S:Sts) (s:Nat × Int):Sts × Nat × Int :=
  let l:=onE V T.pL T.NL S.l s
  let m:=onE V T.pM T.NM S.m l.2
  let o:=onE V T.pO T.NO S.o m.2
  (⟨l.1,o.1,m.1⟩,o.2)
def QW (V:Nat) (T:Qp):Nat->Sts->Nat × Int->List Y1 × Nat × Int
  | 0,_,s=>([],s)
  | k+1,S,s =>
    if s.2≠0 then([],s)else if k=0 then([(Yt V T S s).1],(Yt V T S s).2)
    else((Yt V T S s).1::(QW V T k (YV V T S (Yt V T S s).2).1 (YV V T S (Yt V T S s).2).2).1,
      (QW V T k (YV V T S (Yt V T S s).2).1 (YV V T S (Yt V T S s).2).2).2)
def JZ (V:Nat) (T:Qp) (s:Nat × Int):Sts × Nat × Int :=
  let l:=Qc V s T.pL
  let o:=Qc V l.2 T.pO
  let m:=Qc V o.2 T.pM
  (⟨l.1,o.1,m.1⟩,m.2)
def Yn (V:Nat) (T:Qp) (n t:Nat):List Y1 × Nat × Int :=
  let r:=QW V T n (JZ V T (t,0)).1 (JZ V T (t,0)).2
  (r.1,r.2.1,if r.2.2=0/\r.2.1≠0 then 14 else r.2.2)
def QC (a b c:Int):List Y1->Int × List (Int × Int × Int) × Int × Int × Int
  | []=>(0,[],a,b,c)
  | x::l =>
    if QI (QG a b c x.lit x.val)then
      let r:=QC (Qk a b c x.lit x.val).1 (Qk a b c x.lit x.val).2.1 (Qk a b c x.lit x.val).2.2 l
      if r.1=0 then(0,((x.lit:Int),(x.len:Int),QG a b c x.lit x.val)::r.2.1,r.2.2)else(r.1,[],0,0,0)
    else(15,[],0,0,0)
def QX (bs:List Nat) (T:Qp) (n:Nat) (a b c:Int):Int × List (Int × Int × Int) × Int × Int × Int :=
  if(bs.getLast?).getD 0=0 then(14,[],0,0,0)
  else if(Yn (Q8 bs) T n (Qo bs)).2.2≠0 then((Yn (Q8 bs) T n (Qo bs)).2.2,[],0,0,0)
  else QC a b c (Yn (Q8 bs) T n (Qo bs)).1
structure Qb where
  lL:Int
  NL:List Int
  lO:Int
  NO:List Int
  lM:Int
  NM:List Int
def Qb.none:Qb:=⟨0,[],0,[],0,[]⟩
def Qb.trks (T:Qb):Qp:=⟨T.lL.toNat,T.NL,T.lO.toNat,T.NO,T.lM.toNat,T.NM⟩
def Qs (bs:List Nat) (at_:Nat) (T:Qb):Int × Qb × Nat :=
  if at_<bs.length then
    let x:=bs[at_]?.getD 0
    if 64<=x then(13,Qb.none,0)else
    let l:=Yb ((x%4:Nat):Int) 0 T.lL T.NL bs (at_+1)
    if l.1≠0 then(l.1,Qb.none,0)else
    let o:=Yb ((x / 4%4:Nat):Int) 1 T.lO T.NO bs (at_+1+l.2.2.2)
    if o.1≠0 then(o.1,Qb.none,0)else
    let m:=Yb ((x / 16%4:Nat):Int) 2 T.lM T.NM bs (at_+1+l.2.2.2+o.2.2.2)
    if m.1≠0 then(m.1,Qb.none,0)else
    (0,⟨l.2.1,l.2.2.1,o.2.1,o.2.2.1,m.2.1,m.2.2.1⟩,at_+1+l.2.2.2+o.2.2.2+m.2.2.2)
  else(3,Qb.none,0)
structure J6 where
  err:Int
  seqs:List (Int × Int × Int)
  tabs:Qb
  a:Int
  b:Int
  c:Int
  to_:Nat
def J6.no (x:Int):J6:=⟨x,[],Qb.none,0,0,0,0⟩
def Qn (bs:List Nat) (at_:Nat) (T:Qb) (a b c:Int):J6 :=
  if QO a b c=false then .no 2 else
  let v:=Qh (bs.drop at_)
  if v.2.2≠0 then .no v.2.2 else if 65536<v.1 then .no 15
  else if v.1=0 then⟨0,[],T,a,b,c,at_+v.2.1⟩
  else
    let h:=Qs bs (at_+v.2.1) T
    if h.1≠0 then .no h.1 else
    let r:=QX (bs.drop h.2.2) h.2.1.trks v.1 a b c
    if r.1≠0 then .no r.1 else⟨0,r.2.1,h.2.1,r.2.2.1,r.2.2.2.1,r.2.2.2.2,bs.length⟩
theorem Yh (V:Nat) (s:Nat × Int) (n:Nat):(Qc V s n).1<2^n:=by
 have h:=Nat.two_pow_pos n;unfold Qc;split
 . exact h
 split
 . exact Nat.mod_lt _ h
 exact h
theorem Jq {p:Nat} {N:List Int} (hv:Qg p N 256 9) {st:Nat} (hs:st<2^p) :
   JC (Q7 p N) st=(Qu p N st:Nat)/\Qu p N st<N.length/\YB p N (Q7 p N) st=(Ys p N st:Nat)/\Ys p N st<=p /\
     Jb p N (Q7 p N) st=(JM p N st:Nat)/\JM p N st+2^Ys p N st<=2^p:=by
 obtain⟨c,h1,h2,h3,h4,h5,h6,h7,h8⟩:=Vd hv hs;(have e1:Qu p N st=c:=by unfold Qu;rw [h1];simp);(have e2:YB p N (Q7 p N) st=(Ys p N st:Nat):=by unfold Ys;omega);(have e3:Jb p N (Q7 p N) st=(JM p N st:Nat):=by unfold JM;omega);refine⟨by rw [h1,e1],by omega,e2,by omega,e3,?_⟩;(have h9:(2:Int)^Ys p N st=((2^Ys p N st:Nat):Int):=by simp);(have h10:(2:Int)^p=((2^p:Nat):Int):=by simp);have e4:(YB p N (Q7 p N) st).toNat=Ys p N st:=rfl;rw [e4,e3,h9,h10]at h8;omega
theorem Z0 {p:Nat} {N:List Int} (hv:Qg p N 256 9) {st:Nat} (hs:st<2^p) (V:Nat) (s:Nat × Int):(onE V p N st s).1<2^p:=by
 obtain⟨_,_,_,_,_,h⟩:=Jq hv hs;have:=Yh V s (Ys p N st);unfold onE;simp only;omega
theorem Qp.ok.wide {T:Qp} (h:T.ok):Qg T.pL T.NL 256 9/\Qg T.pO T.NO 256 9/\Qg T.pM T.NM 256 9:=by
 obtain⟨⟨a1,a2,a3,a4,a5,a6⟩,⟨b1,b2,b3,b4,b5,b6⟩,⟨c1,c2,c3,c4,c5,c6⟩⟩:=h;exact⟨⟨a1,a2,a3,a4,by omega,a6⟩,⟨b1,by omega,b3,b4,by omega,b6⟩,⟨c1,c2,c3,c4,by omega,c6⟩⟩
theorem KC {T:Qp} (h:T.ok) {S:Sts} (hS:S.ok T) (V:Nat) (s:Nat × Int):(YV V T S s).1.ok T:=by
 obtain⟨h1,h2,h3⟩:=h.wide;exact⟨Z0 h1 hS.1 _ _,Z0 h2 hS.2.1 _ _,Z0 h3 hS.2.2 _ _⟩
theorem ZS (V:Nat) (T:Qp) (s:Nat × Int):(JZ V T s).1.ok T:=⟨Yh _ _ _,Yh _ _ _,Yh _ _ _⟩
def stF (V:Nat) (T:Qp) (t:Nat):Nat->Sts × Nat × Int
  | 0=>(⟨0,0,0⟩,t,0)
  | 1=>(⟨(Qc V (t,0) T.pL).1,0,0⟩,(Qc V (t,0) T.pL).2)
  | 2=>(⟨(Qc V (t,0) T.pL).1,(Qc V (Qc V (t,0) T.pL).2 T.pO).1,0⟩,(Qc V (Qc V (t,0) T.pL).2 T.pO).2)
  | _=>JZ V T (t,0)
def mvF (V:Nat) (T:Qp) (S:Sts) (s:Nat × Int):Nat->Sts × Nat × Int
  | 0=>(S,s)
  | 1=>(⟨(onE V T.pL T.NL S.l s).1,S.o,S.m⟩,(onE V T.pL T.NL S.l s).2)
  | 2=>(⟨(onE V T.pL T.NL S.l s).1,S.o,(onE V T.pM T.NM S.m (onE V T.pL T.NL S.l s).2).1⟩,(onE V T.pM T.NM S.m (onE V T.pL T.NL S.l s).2).2)
  | _=>YV V T S s
def Yv (r:Y1):List Value:=[.int .i64 (r.lit:Nat),.int .i64 (r.len:Nat),.int .i64 (r.val:Nat)]
theorem Yr (V:Nat) (T:Qp) (k:Nat) (S:Sts) (s:Nat × Int) (h:k=0\/s.2≠0):QW V T k S s=([],s):=by
 cases k with
 | zero=>rfl
 | succ k =>
   rcases h with h|h
   . omega
   simp only [QW];rw [if_pos h]
theorem Z1 (V:Nat) (T:Qp) (S:Sts) (s:Nat × Int) (h:s.2=0):QW V T 1 S s=([(Yt V T S s).1],(Yt V T S s).2):=by
 simp only [QW];rw [if_neg (by rw [h];simp)];simp
theorem Z2 (V:Nat) (T:Qp) (k:Nat) (S:Sts) (s:Nat × Int) (h:s.2=0) (hk:0<k):QW V T (k+1) S s =
   ((Yt V T S s).1::(QW V T k (YV V T S (Yt V T S s).2).1 (YV V T S (Yt V T S s).2).2).1,(QW V T k (YV V T S (Yt V T S s).2).1 (YV V T S (Yt V T S s).2).2).2):=by
 rw [QW,if_neg (by rw [h];simp),if_neg (by omega)]
theorem Z8 {p:Nat} {N:List Int} {o:Bool} (hv:Qg p N (if o then 28 else 44) 9) {st:Nat} (hs:st<2^p) (V:Nat) (s:Nat × Int):(QK V o p N st s).1<2^28/\(o=true->1<=(QK V o p N st s).1):=by
 have hw:Qg p N 256 9:=by
   obtain⟨a1,a2,a3,a4,a5,a6⟩:=hv;exact⟨a1,a2,a3,a4,by cases o<;>simp at a5<;>omega,a6⟩
 obtain⟨_,h2,_⟩:=Jq hw hs;have hN:(N.length:Int)<=(if o then 28 else 44):=hv.2.2.2.2.1;have ht:=Yh V s (exB o (Qu p N st));unfold QK;simp only;generalize (Qc V s (exB o (Qu p N st))).1=r at *
 cases o with
 | true =>
   simp only [if_true]at hN;simp only [exB,loB,if_true]at ht ⊢;(have hc:Qu p N st<=27:=by omega);have h1:2^Qu p N st<=2^27:=Nat.pow_le_pow_right (by decide) hc;have h0:=Nat.two_pow_pos (Qu p N st);exact⟨by omega,fun _=>by omega⟩
 | false =>
   simp only [Bool.false_eq_true,if_false]at hN;simp only [exB,loB,Bool.false_eq_true,if_false,false_implies,and_true]at ht ⊢;(have hc:Qu p N st<=43:=by omega);unfold Yp YS at *;split
   . next h=>rw [if_pos h]at ht;omega
   next h =>
   rw [if_neg h]at ht;have h1:2^(Qu p N st / 2-5)<=2^16:=Nat.pow_le_pow_right (by decide) (by omega);have h3:(2+Qu p N st%2)*2^(Qu p N st / 2-5)<=3*2^16:=Nat.mul_le_mul (by omega) h1;omega
def QR (w:World) (F:Nat->Prop) (g:Nat) (bs:List Nat) (t:Nat):Prop:=t<=8*bs.length/\∃fr,ZO w F g ((Q9 bs).take t) fr
theorem QR.upd {w w':World} {F S:Nat->Prop} {g:Nat} {bs:List Nat} {t:Nat} (h:QR w F g bs t) (hu:Upd S w w') (hg:¬S g) (hF:∀b,b<w.heap.size->F b->¬S b):QR w' F g bs t :=
 ⟨h.1,h.2.elim fun fr hr=>⟨fr,hr.upd hu hg hF⟩⟩
theorem QR.fresh {w w':World} {F:Nat->Prop} {g:Nat} {bs:List Nat} {t:Nat} (h:QR w F g bs t) (hu:Q0 w w'):QR w' F g bs t:=h.upd hu (fun h=>h) (fun _ _ _ h=>h)
theorem QR.lt {w:World} {F:Nat->Prop} {g:Nat} {bs:List Nat} {t:Nat} (h:QR w F g bs t):g<w.heap.size:=by
 obtain⟨_,fr,A,c,hb,_⟩:=h;exact hb.lt
theorem Q4P {bs:List Nat} {t n:Nat} (ht:t<=8*bs.length) (hn:n<=t):QE (((Q9 bs).take t).drop (t-n))=Q8 bs / 2^(t-n)%2^n:=by
 rw [List.drop_take,<-ZK,show t-(t-n)=n by omega]
theorem KD (F:Nat->Prop) (g:Nat) (bs:List Nat) (t n:Nat) (w:World) (h:QR w F g bs t) (hn:n<=64) (hFg:∀b,F b->b≠g) :
   Calls Tryz.prog 70 #[.pointer (some ⟨g,0,none⟩),.int .i64 n] w fun e w'=>e = .returned (.tuple #[.int .u64 ((Qc (Q8 bs) (t,0) n).1:Nat),.int .i64 (Qc (Q8 bs) (t,0) n).2.2]) /\
     Upd (fun b=>b=g) w w'/\QR w' F g bs (Qc (Q8 bs) (t,0) n).2.1:=by
 obtain⟨ht,fr,hr⟩:=h;(have hl:((Q9 bs).take t).length=t:=by rw [List.length_take,Yj];omega);by_cases hs:n<=t
 . have e:Qc (Q8 bs) (t,0) n=(Q8 bs / 2^(t-n)%2^n,t-n,0):=by simp [Qc,hs]
   rw [e];refine(Q49 F g _ fr n w hr hn (by rw [hl];exact hs) hFg).mono ?_;rintro e w' ⟨rfl,hu,hb⟩;rw [hl,Q4P ht hs];rw [hl,List.take_take,show min (t-n) t=t-n by omega]at hb;exact⟨rfl,hu,by show t-n<=_;omega,_,hb⟩
 (have e:Qc (Q8 bs) (t,0) n=(0,t,14):=by simp [Qc,hs]);rw [e];refine(Q1h F g _ fr n w hr hn (by rw [hl];omega)).mono ?_;rintro e w' ⟨rfl,rfl⟩;exact⟨rfl,Upd.refl _ _,ht,fr,hr⟩
theorem Q5P (o:Bool):loB o 0=if o then 1 else 0:=by cases o<;>decide
theorem Q4Q:∀c,c<44->YS (c+1)=YS c+2^Yp c:=by decide
theorem Q5Q {o:Bool} {c:Nat} (h:c<44):loB o (c+1)=loB o c+2^exB o c:=by
 cases o
 . exact Q4Q c h
 show 2^(c+1)=2^c+2^c;rw [Nat.pow_succ];omega
theorem Q0g {o:Bool} {c:Nat} (h:c<44) (ho:o=true->c<28):exB o c<=27:=by
 cases o
 . unfold exB Yp
   simp only [Bool.false_eq_true,if_false];(split<;>omega)
 have:=ho rfl;unfold exB;simp only [if_true];omega
theorem Q1v (c:Nat) (w:World) (h:c<28) :
   Calls Tryz.prog 162 #[.int .i64 (c:Nat),.bool true] w fun e w'=>e = .returned (.int .i64 (c:Nat))/\w=w':=by
 (have hcI:(c:Int)<=27:=by omega);refine Q6 fun R hR=>?_;go_enter Tryz.func162,Tryz.ntmps162;go_wp2_with fail;(try go_ret);exact hR.out _ _ ⟨rfl,rfl⟩
theorem Q1w (c:Nat) (w:World) (h:c<44) :
   Calls Tryz.prog 162 #[.int .i64 (c:Nat),.bool false] w fun e w'=>e = .returned (.int .i64 (Yp c:Nat))/\w=w':=by
 (have hcI:(c:Int)<=43:=by omega);have HC:=hd_ h;clear h;refine Q6 fun R hR=>?_;go_enter Tryz.func162,Tryz.ntmps162;go_wp2_with fail;go_loopg [5,6] 20 (fun mm n i wr=>wr=w/\∃k m:Nat,k+mm=20/\i = .int .i64 ((16+2*k:Nat):Int)/\n = .int .i64 (m:Int)/\m=(if k=0 then 0 else k+2)/\(k=0\/14+2*k<=c))
 case atStart=>exact⟨rfl,0,0,by omega,rfl,rfl,rfl,.inl rfl⟩
 case round =>
   obtain⟨rfl,k,m,hk,rfl,rfl,hm,hle⟩:=hrel;(have hk20:k<=20:=by omega);(have hkI:((16+2*k:Nat):Int)=16+2*(k:Int):=by omega);(have hkJ:(k:Int)<=20:=by omega);(have h2:(16+2*(k:Int)-16) / 2=k:=by omega);(have h3:(2*(k:Int)) / 2=k:=by omega);have HK:=hd_ hk;have HM:=hd_ hm;have HL:=hd_ hle;(have hk0:(0:Int)<=k:=by omega);(have hmI:(m:Int)<=22:=by split at hm<;>omega);clear hk hm hle hk20;by_cases hlt:16+2*k<=c
   . have hltI:16+2*(k:Int)<=c:=by omega
     have HLT:=hd_ hlt;clear hlt;simp only [hkI];go_wp2_with fail;go_roundg (gk-1)
     case measure=>have:=HK.out;have:=HLT.out;have:=HC.out;omega
     case rel =>
       refine⟨rfl,k+1,k+3,by have:=HK.out;have:=HLT.out;have:=HC.out;omega,?_,?_,by rw [if_neg (by omega)],.inr (by have:=HLT.out;omega)⟩
       . go_num
       go_num
   (have hltI:(c:Int)<16+2*(k:Int):=by omega);have HLT:=hd_ hlt;clear hlt;simp only [hkI];go_wp2_with fail;(try go_ret);refine hR.out _ _ ⟨?_,rfl⟩
   have:m=Yp c:=by
     have h1:=HM.out;have h2:=HL.out;have h3:=HLT.out;unfold Yp;split
     . rw [h1,if_pos (by omega)]
     rw [h1,if_neg (by omega)];omega
   rw [this];rfl
theorem K6 (o:Bool) (c:Nat) (w:World) (h:c<44) (ho:o=true->c<28) :
   Calls Tryz.prog 162 #[.int .i64 (c:Nat),.bool o] w fun e w'=>e = .returned (.int .i64 (exB o c:Nat))/\w=w':=by
 cases o
 . exact Q1w c w h
 exact Q1v c w (ho rfl)
theorem Q0Q (n:Nat) (w:World) (h:n<=27) :
   Calls Tryz.prog 191 #[.int .i64 (n:Nat)] w fun e w'=>e = .returned (.int .i64 ((2^n:Nat):Int))/\w=w':=by
 (have hnI:(n:Int)<=27:=by omega);have HN:=hd_ h;clear h;refine Q6 fun R hR=>?_;go_enter Tryz.func191,Tryz.ntmps191;go_wp2_with fail;go_loopg [3,4] n (fun mm x i wr=>wr=w/\∃k m:Nat,k+mm=n/\i = .int .i64 (k:Int)/\x = .int .i64 (m:Int)/\m=2^k)
 case atStart=>exact⟨rfl,0,1,by omega,rfl,rfl,rfl⟩
 case round =>
   obtain⟨rfl,k,m,hk,rfl,rfl,hm⟩:=hrel;have hp:2^k<=2^27:=Nat.pow_le_pow_right (by omega) (by have:=HN.out;omega);(have hmI:(m:Int)<=134217728:=by rw [hm];omega);(have hkJ:(k:Int)<=27:=by have:=HN.out;omega);have HK:=hd_ hk;have HM:=hd_ hm;clear hk hm hp;by_cases hlt:k<n
   . have hltI:(k:Int)<n:=by omega
     have HLT:=hd_ hlt;clear hlt;go_wp2_with fail;go_roundg (gk-1)
     case measure=>have:=HK.out;have:=HLT.out;omega
     case rel =>
       refine⟨rfl,k+1,2*m,by have:=HK.out;have:=HLT.out;omega,?_,?_,by rw [HM.out,Nat.pow_succ];omega⟩
       . go_num
       go_num
   (have hltI:(n:Int)<=k:=by omega);have HLT:=hd_ hlt;clear hlt;go_wp2_with fail;(try go_ret);refine hR.out _ _ ⟨?_,rfl⟩;(have:k=n:=by have:=HK.out;have:=HLT.out;omega);rw [HM.out,this];rfl
theorem Q5i {o:Bool} {c:Nat} (h:c<44) (ho:o=true->c<28):loB o c<=2^28:=by
 cases o
 . have:∀c,c<44->YS c<=2^28:=by decide
   exact this c h
 exact Nat.pow_le_pow_right (by omega) (by have:=ho rfl;omega)
theorem Q2B (o:Bool) (c r:Nat) (w:World) (h:c<44) (ho:o=true->c<28) (hr:r<2^exB o c) :
   Calls Tryz.prog 163 #[.int .i64 (c:Nat),.int .u64 (r:Nat),.bool o] w fun e w'=>e = .returned (.tuple #[.int .i64 ((loB o c+r:Nat):Int),.int .i64 0])/\w=w':=by
 have hb:=Q0g h ho;have hl:=Q5i h ho;have HB:=hd_ (fun W=>K6 o c W h ho);have HT:=hd_ (fun W=>Q0Q (exB o c) W hb);have HB2:=hd_ (fun k W (hk:k<c)=>K6 o k W (by omega) (fun e=>by have:=ho e;omega));have HT2:=hd_ (fun k W (hk:k<c)=>Q0Q (exB o k) W (Q0g (by omega) (fun e=>by have:=ho e;omega)));have HS:=hd_ (fun k (hk:k<c)=>Q5Q (o:=o) (c:=k) (by omega));have HLO:=hd_ (fun k (hk:k<c)=>(Q5i (o:=o) (c:=k) (by omega) (fun e=>by have:=ho e;omega)));have HP:=hd_ (fun k (hk:k<c)=>Nat.le_trans (Nat.pow_le_pow_right (n:=2) (by omega) (Q0g (o:=o) (c:=k) (by omega) (fun e=>by have:=ho e;omega))) (show 2^27<=134217728 by decide));have hpx:2^exB o c<=134217728:=Nat.le_trans (Nat.pow_le_pow_right (n:=2) (by omega) hb) (by decide);have hl2:loB o c<=268435456:=hl;(have hcI:(c:Int)<=43:=by omega);have HC:=hd_ h;clear hl;have hz:=Q5P o;obtain⟨lo,hlo⟩:∃lo:Nat->Nat,lo=loB o:=⟨_,rfl⟩;obtain⟨ex,hex⟩:∃ex:Nat->Nat,ex=exB o:=⟨_,rfl⟩;rw [<-hlo]at HS HLO hl2 hz ⊢;rw [<-hex]at HB HT HB2 HT2 HS HP hpx hr hb;clear hlo hex;obtain⟨b,hbd⟩:=nm_ (ex c);rw [<-hbd]at HB HT hr hpx hb;obtain⟨q,hq⟩:=nm_ (2^b);rw [<-hq]at HT hr hpx;(have hbI:(b:Int)<=27:=by omega);(have hqI:(q:Int)<=134217728:=by omega);(have hrI:(r:Int)<q:=by omega);(have hwq:IntKind.u64.wrap (q:Int)=q:=by unfold IntKind.wrap;simp [IntKind.bits,IntKind.signed];omega);(have hlI:(lo c:Int)<=268435456:=by omega);have HHO:=hd_ ho;clear hb hbd hq h hr hpx hl2 ho;have HZ:=hd_ hz;clear hz;refine Q6 fun R hR=>?_;cases o
 all_goals
   go_enter Tryz.func163,Tryz.ntmps163;go_wp2_with fail;refine(HB.out _).mono ?_;rintro e w1 ⟨rfl,rfl⟩;go_wp2_with fail;refine(HT.out _).mono ?_;rintro e w1 ⟨rfl,rfl⟩;go_wp2_with fail;(have hrI2:(r:Int)<=134217728:=by omega);(have hdq:decide (q<=r)=false:=by simp;omega);simp only [hdq,Bool.or_false];clear hdq hwq;go_loopg [9,10] c (fun mm n i wr=>wr=w/\∃k:Nat,k+mm=c/\i = .int .i64 (k:Int)/\n = .int .i64 (lo k:Nat))
   case atStart=>exact⟨rfl,0,by omega,rfl,by rw [HZ.out];rfl⟩
   case round =>
     obtain⟨rfl,k,hk,rfl,rfl⟩:=hrel;have HK:=hd_ hk;(have hkI:(k:Int)<=c:=by omega);clear hk;by_cases hlt:k<c
     . have hltI:(k:Int)<c:=by omega
       have HBK:=hd_ (HB2.out k wr hlt);have HTK:=hd_ (HT2.out k wr hlt);have HSK:=hd_ (HS.out k hlt);have h1:=HP.out k hlt;have h2:=HLO.out k hlt;obtain⟨pw,hpw⟩:=nm_ (2^ex k);rw [<-hpw]at HTK HSK h1;(have h1I:(pw:Int)<=134217728:=by omega);(have h2I:(lo k:Int)<=268435456:=by omega);have HLT:=hd_ hlt;clear hlt hpw h1 h2;obtain⟨xk,hxk⟩:=nm_ (ex k);rw [<-hxk]at HBK HTK;clear hxk;go_wp2_with fail;refine HBK.out.mono ?_;rintro e w1 ⟨rfl,rfl⟩;go_wp2_with fail;refine HTK.out.mono ?_;rintro e w1 ⟨rfl,rfl⟩;go_wp2_with fail;go_roundg (gk-1)
       case measure=>have:=HK.out;have:=HLT.out;omega
       case rel =>
         refine⟨rfl,k+1,by have:=HK.out;have:=HLT.out;omega,?_,?_⟩
         . go_num
         rw [HSK.out];go_num
     (have hltI:(c:Int)<=k:=by omega);(have hkc:k=c:=by omega);subst hkc;clear hlt;go_wp2_with fail;(try go_ret2);refine hR.out _ _ ⟨?_,rfl⟩;rfl
theorem Q3J (F:Nat->Prop) (h g off n c st sy b o1:Nat) (bs:List Nat) (t:Nat) (o:Bool) (w:World) (hb:QR w F h bs t) (hF:∀b,F b->b≠h)
   (t0:w.cell? ⟨g,off,none⟩=some (.slice (some ⟨b,o1,none⟩) n c)) (t2:w.cell? ⟨g,off+2,none⟩=some (.int .i64 (st:Nat))) (hst:st<n) (hn:n<=512)
   (tc:w.cell? ⟨b,o1+st*3,none⟩=some (.int .i64 (sy:Nat))) (hs:sy<44) (hso:o=true->sy<28) :
   Calls Tryz.prog 110 #[.pointer (some ⟨h,0,none⟩),.pointer (some ⟨g,off,none⟩),.bool o] w fun e w' =>
     e = .returned (.tuple #[.int .i64 ((loB o sy+(Qc (Q8 bs) (t,0) (exB o sy)).1:Nat):Int),.int .i64 (Qc (Q8 bs) (t,0) (exB o sy)).2.2])/\Upd (fun b=>b=h) w w'/\QR w' F h bs (Qc (Q8 bs) (t,0) (exB o sy)).2.1:=by
 have hx:=Q0g hs hso;have HB:=hd_ (fun W=>K6 o sy W hs hso);have HLA:=hd_ (fun W (hW:Q0 w W)=>KD F h bs t (exB o sy) W (hb.fresh hW) (by omega) hF);have HV:=hd_ (fun r W (hr:r<2^exB o sy)=>Q2B o sy r W hs hso hr);have HTL:=hd_ (Yh (Q8 bs) (t,0) (exB o sy));(have hstI:(st:Int)<n:=by omega);(have hnI:(n:Int)<=512:=by omega);obtain⟨X,hX⟩:=nm_ (Qc (Q8 bs) (t,0) (exB o sy));rw [<-hX]at HLA HTL ⊢;obtain⟨ex,hex⟩:=nm_ (exB o sy);rw [<-hex]at HB HLA HV HTL;obtain⟨lo,hlo⟩:=nm_ (loB o sy);rw [<-hlo]at HV ⊢;clear hX hb hx hs hso hex hlo;refine Q6 fun R hR=>?_;go_enter Tryz.func110,Tryz.ntmps110;go_upto_region 1 with fail;go_region;go_wp2_with fail;refine(HB.out _).mono ?_;rintro e w1 ⟨rfl,rfl⟩;go_wp2_with fail;refine(HLA.out _ (Upd.refl _ _).drew).mono ?_;rintro e w2 ⟨rfl,u2,b2⟩;have U2:=hd_ (((Upd.refl (fun b=>b=h) w).drew).trans' u2);have B2:=hd_ b2;clear u2 b2;go_wp2_with fail;refine(HV.out _ _ HTL.out).mono ?_;rintro e w3 ⟨rfl,rfl⟩;go_wp2_with fail;(try go_ret2);exact hR.out _ _ ⟨rfl,U2.out,B2.out⟩
theorem Q5R (F:Nat->Prop) (h g off n c st b o1 x bi ba:Nat) (bs:List Nat) (t:Nat) (w:World) (hb:QR w F h bs t) (hF:∀b,F b->b≠h) (hgh:g≠h)
   (t0:∀W,Q0 w W->W.cell? ⟨g,off,none⟩=some (.slice (some ⟨b,o1,none⟩) n c)) (t2:∀W,Upd (fun b=>b=h) w W->W.cell? ⟨g,off+2,none⟩=some (.int .i64 (st:Nat))) (hf:∀W,Upd (fun b=>b=h) w W->W.frozen? ⟨g,off+2,none⟩=false) (hst:st<n) (hn:n<=512)
   (c0:∀W,Q0 w W->W.cell? ⟨b,o1+st*3,none⟩=some (.int .i64 (x:Nat))) (c1:∀W,Q0 w W->W.cell? ⟨b,o1+st*3+1,none⟩=some (.int .i64 (bi:Nat))) (c2:∀W,Q0 w W->W.cell? ⟨b,o1+st*3+2,none⟩=some (.int .i64 (ba:Nat))) (hbi:bi<=9) (hba:ba<=1024) :
   Calls Tryz.prog 111 #[.pointer (some ⟨h,0,none⟩),.pointer (some ⟨g,off,none⟩)] w fun e w' =>
     e = .returned (.int .i64 (Qc (Q8 bs) (t,0) bi).2.2)/\∃w1,Upd (fun b=>b=h) w w1/\Q0 (w1.setCell ⟨g,off+2,none⟩ (.int .i64 ((ba+(Qc (Q8 bs) (t,0) bi).1:Nat):Int))) w'/\QR w1 F h bs (Qc (Q8 bs) (t,0) bi).2.1:=by
 (have hstI:(st:Int)<n:=by omega);(have hnI:(n:Int)<=512:=by omega);have q0:=t0 w (Upd.refl _ _);have q2:=t2 w (Upd.refl _ _);have p0:=c0 w (Upd.refl _ _);have p1:=c1 w (Upd.refl _ _);have p2:=c2 w (Upd.refl _ _);have a0:∀ob,(w.alloc ob).cell? ⟨g,off,none⟩=_:=fun ob=>t0 _ ((Upd.refl _ _).alloc ob);have a2:∀ob,(w.alloc ob).cell? ⟨g,off+2,none⟩=_:=fun ob=>t2 _ (((Upd.refl _ _).alloc ob));have r0:∀ob,(w.alloc ob).cell? ⟨b,o1+st*3,none⟩=_:=fun ob=>c0 _ ((Upd.refl _ _).alloc ob);have r1:∀ob,(w.alloc ob).cell? ⟨b,o1+st*3+1,none⟩=_:=fun ob=>c1 _ ((Upd.refl _ _).alloc ob);have r2:∀ob,(w.alloc ob).cell? ⟨b,o1+st*3+2,none⟩=_:=fun ob=>c2 _ ((Upd.refl _ _).alloc ob);have HLA:=hd_ (fun W (hW:Q0 w W)=>KD F h bs t bi W (hb.fresh hW) (by omega) hF);have HT2:=hd_ t2;have HBL:=hd_ hb.lt;have HFZ:=hd_ hf;clear t0 t2 c0 c1 c2 hb hf;refine Q6 fun R hR=>?_;go_enter Tryz.func111,Tryz.ntmps111;go_upto_region 1 with fail;go_region;go_wp2_with fail;refine(HLA.out _ ((Upd.refl _ _).alloc _).drew).mono ?_;rintro e w2 ⟨rfl,u2,b2⟩;have bx:=(Blk.upd (Blk.drew (Blk.new w 217 #[.int .i64 (x:Nat),.int .i64 (bi:Nat),.int .i64 (ba:Nat)])) u2 (by have:=HBL.out;omega));have u3:Upd (fun b=>b=h) w w2:=(((Upd.refl (fun b=>b=h) w).alloc _).drew).trans' u2;have k2:=bx.cell 2;simp at k2;have k3:=HT2.out w2 u3;have k4:=HFZ.out w2 u3;have U3:=hd_ u3;have B2:=hd_ b2;have hT:=Yh (Q8 bs) (t,0) bi;obtain⟨X,hX⟩:=nm_ (Qc (Q8 bs) (t,0) bi);rw [<-hX]at hT B2 hR ⊢;have hp:2^bi<=2^9:=Nat.pow_le_pow_right (by omega) hbi;(have hXI:(X.1:Int)<=512:=by omega);(have hbaI:(ba:Int)<=1024:=by omega);clear bx u2 b2 u3 hT hX hp q0 q2 p0 p1 p2 a0 a2 r0 r1 r2;go_wp2_with fail;refine hR.out _ _ ⟨rfl,w2,U3.out,?_,B2.out⟩;rw [Int.natCast_add];(first|exact Upd.refl _ _|exact(Upd.refl _ _).drew|exact(Upd.refl _ _).drew.drew)
def Y1.good (r:Y1):Prop:=r.lit<268435456/\r.len<268435460/\3<=r.len/\1<=r.val/\r.val<268435456
theorem Qp.ok.nine {T:Qp} (h:T.ok):Qg T.pO T.NO (if true then 28 else 44) 9:=by
 obtain⟨_,⟨b1,b2,b3,b4,b5,b6⟩,_⟩:=h;exact⟨b1,by omega,b3,b4,b5,b6⟩
theorem KY {T:Qp} (hT:T.ok) {S:Sts} (hS:S.ok T) (V:Nat) (s:Nat × Int):(Yt V T S s).1.good:=by
 have h1:=Z8 (o:=true) hT.nine hS.2.1 V s;have h2:=Z8 (o:=false) (by simpa using hT.2.2) hS.2.2 V (QK V true T.pO T.NO S.o s).2;have h3:=Z8 (o:=false) (by simpa using hT.1) hS.1 V (QK V false T.pM T.NM S.m (QK V true T.pO T.NO S.o s).2).2;have h4:=h1.2 rfl;refine⟨h3.1,?_,?_,h4,h1.1⟩
 . show(QK V false T.pM T.NM S.m (QK V true T.pO T.NO S.o s).2).1+3<_
   have:=h2.1;omega
 show 3<=(QK V false T.pM T.NM S.m (QK V true T.pO T.NO S.o s).2).1+3;omega
theorem X6 {T:Qp} (hT:T.ok) (V:Nat):∀(k:Nat) (S:Sts) (s:Nat × Int),S.ok T->∀r∈(QW V T k S s).1,r.good
 | 0,S,s,hS,r,hr=>by simp [QW]at hr
 | k+1,S,s,hS,r,hr=>by
   by_cases h:s.2=0
   . rcases Nat.eq_zero_or_pos k with rfl|hk
     . rw [Z1 V T S s h]at hr
       rw [List.mem_singleton.1 hr]
       exact KY hT hS V s
     rw [Z2 V T k S s h hk]at hr
     rcases List.mem_cons.1 hr with rfl|hr
     . exact KY hT hS V s
     exact X6 hT V k _ _ (KC hT hS V _) r hr
   rw [Yr V T (k+1) S s (.inr h)]at hr
   simp at hr
theorem XN {T:Qp} (V:Nat):∀(k:Nat) (S:Sts) (s:Nat × Int),(QW V T k S s).1.length<=k
 | 0,S,s=>by simp [QW]
 | k+1,S,s=>by
   by_cases h:s.2=0
   . rcases Nat.eq_zero_or_pos k with rfl|hk
     . rw [Z1 V T S s h];simp
     rw [Z2 V T k S s h hk]
     have:=XN (T:=T) V k (YV V T S (Yt V T S s).2).1 (YV V T S (Yt V T S s).2).2
     simp only [List.length_cons]
     omega
   rw [Yr V T (k+1) S s (.inr h)];simp
theorem XO {T:Qp} (hT:T.ok) (V n t:Nat):∀r∈(Yn V T n t).1,r.good:=X6 hT V n _ _ (ZS V T (t,0))
theorem VI (V:Nat) (T:Qp) (n t:Nat):(Yn V T n t).1.length<=n:=XN V n _ _
theorem Q0R {a b c lit v:Int} (h:QO a b c=true) (ho:QI (QG a b c lit v)):QO (Qk a b c lit v).1 (Qk a b c lit v).2.1 (Qk a b c lit v).2.2=true:=by
 rw [J8]at h ⊢;obtain⟨h1,h2,h3⟩:=h;refine⟨ho,?_,?_⟩
 . show 1<=(if Ym lit v=0 then b else a)/\(if Ym lit v=0 then b else a)<=134217728
   (split<;>assumption)
 show 1<=(if Ym lit v=0\/Ym lit v=1 then c else b)/\(if Ym lit v=0\/Ym lit v=1 then c else b)<=134217728;(split<;>assumption)
def JJ (outs:List (Int × Int × Int)) (r:Int × List (Int × Int × Int) × Int × Int × Int):Int × List (Int × Int × Int) × Int × Int × Int :=
  if r.1=0 then(0,outs++r.2.1,r.2.2)else(r.1,[],0,0,0)
theorem Q4R {a b c:Int} {L:List Y1} (h:(QC a b c L).1≠0):QC a b c L=((QC a b c L).1,[],0,0,0):=by
 cases L with
 | nil=>exact absurd rfl h
 | cons x L =>
   simp only [QC]at h ⊢;by_cases ho:QI (QG a b c x.lit x.val)
   . simp only [if_pos ho]at h ⊢
     by_cases h2:(QC (Qk a b c x.lit x.val).1 (Qk a b c x.lit x.val).2.1 (Qk a b c x.lit x.val).2.2 L).1=0
     . simp only [if_pos h2]at h;exact absurd rfl h
     simp only [if_neg h2]
   simp only [if_neg ho]
theorem XP (a b c:Int) (L:List Y1):JJ [] (QC a b c L)=QC a b c L:=by
 unfold JJ;by_cases h:(QC a b c L).1=0
 . rw [if_pos h,List.nil_append]
   rcases hx:QC a b c L with ⟨x,r⟩;rw [hx]at h;simp only at h;rw [h]
 rw [if_neg h,Q4R h]
theorem X7 {outs:List (Int × Int × Int)} {a b c:Int} {x:Y1} {L:List Y1} (ho:QI (QG a b c x.lit x.val)) :
   JJ (outs++[((x.lit:Int),(x.len:Int),QG a b c x.lit x.val)]) (QC (Qk a b c x.lit x.val).1 (Qk a b c x.lit x.val).2.1 (Qk a b c x.lit x.val).2.2 L)=JJ outs (QC a b c (x::L)):=by
 unfold JJ;simp only [QC,if_pos ho];by_cases h2:(QC (Qk a b c x.lit x.val).1 (Qk a b c x.lit x.val).2.1 (Qk a b c x.lit x.val).2.2 L).1=0
 . simp [h2]
 simp [h2]
theorem Q0S {outs:List (Int × Int × Int)} {a b c:Int} {x:Y1} {L:List Y1} (ho:¬QI (QG a b c x.lit x.val)):JJ outs (QC a b c (x::L))=(15,[],0,0,0):=by
 unfold JJ;simp [QC,ho]
theorem YE.both {w:World} {F:Nat->Prop} {g:Nat} {bs:List Nat} {t:Nat} (h:YE w F g bs t):YE w (fun b=>F b/\b<w.heap.size) g bs t:=by
 obtain⟨A,c,h1,h2,h3⟩:=h;exact⟨A,c,h1,h2.both,h3⟩
def Qm (T:Qp) (S:Sts):Nat->Nat × List Int × Nat
  | 0=>(T.pL,T.NL,S.l)
  | 1=>(T.pO,T.NO,S.o)
  | _=>(T.pM,T.NM,S.m)
def Q4S (S:Sts) (k x:Nat):Sts:=if k=0 then⟨x,S.o,S.m⟩else if k=1 then⟨S.l,x,S.m⟩else⟨S.l,S.o,x⟩
def Ya (w:World) (K:Nat->Prop) (g:Nat) (T:Qp) (S:Sts):Prop :=
  ∃A0 c0 A1 c1 A2 c2,Blk w g 133 #[.slice A0 (2^T.pL) c0,.int .i64 (T.pL:Nat),.int .i64 (S.l:Nat),.slice A1 (2^T.pO) c1,.int .i64 (T.pO:Nat),.int .i64 (S.o:Nat),.slice A2 (2^T.pM) c2,.int .i64 (T.pM:Nat),.int .i64 (S.m:Nat)] /\
    RdK w K 3 A0 (2^T.pL) ((QM T.pL T.NL).map tri)/\RdK w K 3 A1 (2^T.pO) ((QM T.pO T.NO).map tri)/\RdK w K 3 A2 (2^T.pM) ((QM T.pM T.NM).map tri)
theorem Ya.upd {w w':World} {K U:Nat->Prop} {g:Nat} {T:Qp} {S:Sts} (h:Ya w K g T S) (hu:Upd U w w') (hg:¬U g) (hK:∀b,b<w.heap.size->K b->¬U b):Ya w' K g T S:=by
 obtain⟨A0,c0,A1,c1,A2,c2,hb,h0,h1,h2⟩:=h;exact⟨A0,c0,A1,c1,A2,c2,hb.upd hu hg,h0.upd hu hK,h1.upd hu hK,h2.upd hu hK⟩
theorem Ya.fresh {w w':World} {K:Nat->Prop} {g:Nat} {T:Qp} {S:Sts} (h:Ya w K g T S) (hu:Q0 w w'):Ya w' K g T S:=h.upd hu (fun h=>h) (fun _ _ _ h=>h)
theorem Ya.lt {w:World} {K:Nat->Prop} {g:Nat} {T:Qp} {S:Sts} (h:Ya w K g T S):g<w.heap.size:=by
 obtain⟨_,_,_,_,_,_,hb,_⟩:=h;exact hb.lt
theorem Xn {w:World} {K:Nat->Prop} {A:Option Addr} {p:Nat} {N:List Int} {sy:Int} (hr:RdK w K 3 A (2^p) ((QM p N).map tri)) (hv:Qg p N 256 9) {st:Nat} (hs:st<2^p) :
   ∃b o,A=some ⟨b,o,none⟩/\K b/\b<w.heap.size/\w.cell? ⟨b,o+st*3,none⟩=some (.int .i64 (Qu p N st:Nat))/\w.cell? ⟨b,o+st*3+1,none⟩=some (.int .i64 (Ys p N st:Nat)) /\
     w.cell? ⟨b,o+st*3+2,none⟩=some (.int .i64 (JM p N st:Nat))/\Qu p N st<N.length/\Ys p N st<=9/\JM p N st<=1024/\2^p<=512:=by
 obtain⟨b,o,rfl,hK,hb,hc⟩:=hr.at_ (r:=0) hs;obtain⟨g1,g2,g3,g4,g5,g6⟩:=Jq hv hs;(have hp:p<=9:=by have:=hv.2.1;omega);have hpw:2^p<=512:=Nat.le_trans (Nat.pow_le_pow_right (by decide) hp) (by decide)
 have hrow:((QM p N).map tri)[st]'(by simpa using hs)=[.int .i64 (Qu p N st:Nat),.int .i64 (Ys p N st:Nat),.int .i64 (JM p N st:Nat)]:=by
   simp [QM,QQ,tri,g1,g3,g5]
 have q0:=hc 0 (by omega);have q1:=hc 1 (by omega);have q2:=hc 2 (by omega);rw [hrow]at q0 q1 q2;exact⟨b,o,rfl,hK,hb,by simpa using q0,by simpa using q1,by simpa using q2,g2,by omega,Nat.le_trans (Nat.le_trans (Nat.le_add_right _ _) g6) (Nat.le_trans hpw (by decide)),hpw⟩
theorem XQ {w:World} {K:Nat->Prop} {g:Nat} {T:Qp} {S:Sts} (h:Ya w K g T S) (hT:T.ok) (hS:S.ok T) {k:Nat} (hk:k<3) :
   ∃b o c,w.cell? ⟨g,3*k,none⟩=some (.slice (some ⟨b,o,none⟩) (2^(Qm T S k).1) c)/\w.cell? ⟨g,3*k+2,none⟩=some (.int .i64 ((Qm T S k).2.2:Nat))/\K b/\b<w.heap.size/\(Qm T S k).2.2<2^(Qm T S k).1/\2^(Qm T S k).1<=512 /\
     w.cell? ⟨b,o+(Qm T S k).2.2*3,none⟩=some (.int .i64 (Qu (Qm T S k).1 (Qm T S k).2.1 (Qm T S k).2.2:Nat))/\w.cell? ⟨b,o+(Qm T S k).2.2*3+1,none⟩=some (.int .i64 (Ys (Qm T S k).1 (Qm T S k).2.1 (Qm T S k).2.2:Nat)) /\
     w.cell? ⟨b,o+(Qm T S k).2.2*3+2,none⟩=some (.int .i64 (JM (Qm T S k).1 (Qm T S k).2.1 (Qm T S k).2.2:Nat))/\Qu (Qm T S k).1 (Qm T S k).2.1 (Qm T S k).2.2<44/\(k=1->Qu (Qm T S k).1 (Qm T S k).2.1 (Qm T S k).2.2<28) /\
     Ys (Qm T S k).1 (Qm T S k).2.1 (Qm T S k).2.2<=9/\JM (Qm T S k).1 (Qm T S k).2.1 (Qm T S k).2.2<=1024:=by
 obtain⟨A0,c0,A1,c1,A2,c2,hb,h0,h1,h2⟩:=h;obtain⟨v0,v1,v2⟩:=hT.wide;have l0:=hT.1.2.2.2.2.1;have l1:=hT.2.1.2.2.2.2.1;have l2:=hT.2.2.2.2.2.2.1;rcases(show k=0\/k=1\/k=2 by omega)with rfl|rfl|rfl
 . obtain⟨b,o,rfl,hK,hbl,q0,q1,q2,q3,q4,q5,q6⟩:=Xn (sy:=0) h0 v0 hS.1
   exact⟨b,o,c0,by simpa [Qm]using hb.cell 0,by simpa [Qm]using hb.cell 2,hK,hbl,hS.1,q6,q0,q1,q2,by show Qu T.pL T.NL S.l<44;omega,fun h=>by omega,q4,q5⟩
 . obtain⟨b,o,rfl,hK,hbl,q0,q1,q2,q3,q4,q5,q6⟩:=Xn (sy:=0) h1 v1 hS.2.1
   exact⟨b,o,c1,by simpa [Qm]using hb.cell 3,by simpa [Qm]using hb.cell 5,hK,hbl,hS.2.1,q6,q0,q1,q2,by show Qu T.pO T.NO S.o<44;omega,fun _=>by show Qu T.pO T.NO S.o<28;omega,q4,q5⟩
 obtain⟨b,o,rfl,hK,hbl,q0,q1,q2,q3,q4,q5,q6⟩:=Xn (sy:=0) h2 v2 hS.2.2;exact⟨b,o,c2,by simpa [Qm]using hb.cell 6,by simpa [Qm]using hb.cell 8,hK,hbl,hS.2.2,q6,q0,q1,q2,by show Qu T.pM T.NM S.m<44;omega,fun h=>by omega,q4,q5⟩
theorem KZ (F K:Nat->Prop) (h g k:Nat) (bs:List Nat) (t:Nat) (T:Qp) (S:Sts) (w:World) (hb:QR w F h bs t) (ht:Ya w K g T S) (hF:∀b,F b->b≠h/\b≠g) (hK:∀b,K b->b≠h/\b≠g) (hgh:g≠h) (hT:T.ok) (hS:S.ok T) (hk:k<3) :
   Calls Tryz.prog 110 #[.pointer (some ⟨h,0,none⟩),.pointer (some ⟨g,3*k,none⟩),.bool (decide (k=1))] w fun e w' =>
     e = .returned (.tuple #[.int .i64 ((QK (Q8 bs) (decide (k=1)) (Qm T S k).1 (Qm T S k).2.1 (Qm T S k).2.2 (t,0)).1:Nat),.int .i64 (QK (Q8 bs) (decide (k=1)) (Qm T S k).1 (Qm T S k).2.1 (Qm T S k).2.2 (t,0)).2.2]) /\
       Upd (fun b=>b=h) w w'/\QR w' F h bs (QK (Q8 bs) (decide (k=1)) (Qm T S k).1 (Qm T S k).2.1 (Qm T S k).2.2 (t,0)).2.1/\Ya w' K g T S:=by
 obtain⟨b,o,c,q0,q1,q2,q3,q4,q5,q6,q7,q8,q9,q10,q11,q12⟩:=XQ ht hT hS hk;refine(Q3J F h g (3*k) _ c _ _ b o bs t (decide (k=1)) w hb (fun b hb=>(hF b hb).1) q0 q1 q4 q5 q6 q9 (fun h=>q10 (of_decide_eq_true h))).mono ?_;rintro e w' ⟨rfl,u,b'⟩;exact⟨rfl,u,b',ht.upd u hgh (fun b _ hb=>(hK b hb).1)⟩
theorem Q5S (F K:Nat->Prop) (h g k:Nat) (bs:List Nat) (t:Nat) (T:Qp) (S:Sts) (w:World) (hb:QR w F h bs t) (ht:Ya w K g T S) (hF:∀b,F b->b≠h/\b≠g) (hK:∀b,K b->b≠h/\b≠g) (hgh:g≠h) (hT:T.ok) (hS:S.ok T) (hk:k<3) :
   Calls Tryz.prog 111 #[.pointer (some ⟨h,0,none⟩),.pointer (some ⟨g,3*k,none⟩)] w fun e w' =>
     e = .returned (.int .i64 (onE (Q8 bs) (Qm T S k).1 (Qm T S k).2.1 (Qm T S k).2.2 (t,0)).2.2)/\Upd (fun b=>b=h\/b=g) w w'/\QR w' F h bs (onE (Q8 bs) (Qm T S k).1 (Qm T S k).2.1 (Qm T S k).2.2 (t,0)).2.1 /\
       Ya w' K g T (Q4S S k (onE (Q8 bs) (Qm T S k).1 (Qm T S k).2.1 (Qm T S k).2.2 (t,0)).1):=by
 obtain⟨b,o,c,q0,q1,q2,q3,q4,q5,q6,q7,q8,q9,q10,q11,q12⟩:=XQ ht hT hS hk;have hgl:=ht.lt;have hbg:=hK b q2
 refine(Q5R F h g (3*k) _ c _ b o _ _ _ bs t w hb (fun b hb=>(hF b hb).1) hgh (fun W u=>(u.cell (p:=⟨g,3*k,none⟩) hgl (fun h=>h)).trans q0)
   (fun W u=>(u.cell (p:=⟨g,3*k+2,none⟩) hgl hgh).trans q1) (fun W u=>?_) q4 q5 (fun W u=>(u.cell (p:=⟨b,_,none⟩) q3 (fun h=>h)).trans q6) (fun W u=>(u.cell (p:=⟨b,_,none⟩) q3 (fun h=>h)).trans q7)
   (fun W u=>(u.cell (p:=⟨b,_,none⟩) q3 (fun h=>h)).trans q8) q11 q12).mono ?_
 . obtain⟨_,_,_,_,_,_,hbk,_⟩:=ht
   exact(hbk.upd u hgh).frozen _
 rintro e w' ⟨rfl,w1,u1,f1,b1⟩;have us:Upd (fun b=>b=g) w1 (w1.setCell ⟨g,3*k+2,none⟩ (.int .i64 ((JM (Qm T S k).1 (Qm T S k).2.1 (Qm T S k).2.2+(Qc (Q8 bs) (t,0) (Ys (Qm T S k).1 (Qm T S k).2.1 (Qm T S k).2.2)).1:Nat):Int))):=(Upd.refl (fun b=>b=g) w1).setCell (p:=⟨g,3*k+2,none⟩) (fun _=>rfl) _;have ug:Upd (fun b=>b=g) w1 w':=us.trans f1 (fun _ _ h=>h.elim);refine⟨rfl,?_,b1.upd ug (fun e=>hgh e.symm) (fun b _ hb=>(hF b hb).2),?_⟩
 . exact(u1.mono (T:=fun b=>b=h\/b=g) (fun _ _ h=>.inl h)).trans ug (fun _ _ h=>.inr h)
 have ht1:=ht.upd u1 hgh (fun b _ hb=>(hK b hb).1);obtain⟨A0,c0,A1,c1,A2,c2,hbk,r0,r1,r2⟩:=ht1;have hk2:=hbk.set_ (3*k+2) (.int .i64 ((JM (Qm T S k).1 (Qm T S k).2.1 (Qm T S k).2.2+(Qc (Q8 bs) (t,0) (Ys (Qm T S k).1 (Qm T S k).2.1 (Qm T S k).2.2)).1:Nat):Int));have hk3:=hk2.fresh f1;refine⟨A0,c0,A1,c1,A2,c2,?_,r0.upd ug (fun b _ hb=>(hK b hb).2),r1.upd ug (fun b _ hb=>(hK b hb).2),r2.upd ug (fun b _ hb=>(hK b hb).2)⟩;(rcases(show k=0\/k=1\/k=2 by omega)with rfl|rfl|rfl<;>simpa [Q4S,onE,Qm]using hk3)
def YI (w:World) (F:Nat->Prop) (g k:Nat) (bs:List Nat) (s:Nat × Int):Prop :=
  Blk w g 119 #[.pointer (some ⟨k,0,none⟩),.int .i64 s.2]/\YE w F k bs s.1
theorem YI.upd {w w':World} {F S:Nat->Prop} {g k:Nat} {bs:List Nat} {s:Nat × Int} (h:YI w F g k bs s) (hu:Upd S w w') (hg:¬S g) (hk:¬S k) (hF:∀b,F b->¬S b):YI w' F g k bs s :=
 ⟨h.1.upd hu hg,h.2.upd hu hk hF⟩
theorem YI.fresh {w w':World} {F:Nat->Prop} {g k:Nat} {bs:List Nat} {s:Nat × Int} (h:YI w F g k bs s) (hu:Q0 w w'):YI w' F g k bs s:=h.upd hu (fun h=>h) (fun h=>h) (fun _ _ h=>h)
theorem Q0T (w:World) (H:Nat) (u v x:Value):Upd (fun b=>b=H) w (((w.setCell ⟨H,0,none⟩ u).setCell ⟨H,1,none⟩ v).setCell ⟨H,2,none⟩ x) :=
 (((Upd.refl (fun b=>b=H) w).setCell (p:=⟨H,0,none⟩) (fun _=>rfl) u).setCell (p:=⟨H,1,none⟩) (fun _=>rfl) v).setCell (p:=⟨H,2,none⟩) (fun _=>rfl) x
theorem ZT (F:Nat->Prop) (g k:Nat) (bs:List Nat) (s:Nat × Int) (n:Nat) (w:World) (h:YI w F g k bs s) (hn:n<=64) (hgk:g≠k) (hFk:∀b,F b->b≠k) (hFg:∀b,F b->b≠g) :
   Calls Tryz.prog 93 #[.pointer (some ⟨g,0,none⟩),.int .i64 (n:Nat)] w fun e w'=>e = .returned (.int .u64 ((Qc (Q8 bs) s n).1:Nat))/\Upd (fun b=>b=g\/b=k) w w'/\YI w' F g k bs (Qc (Q8 bs) s n).2:=by
 obtain⟨t,er⟩:=s;have hb:=h.1;have c0:=hb.cell 0;have c1:=hb.cell 1;have z1:=hb.frozen 1;simp at c0 c1;have HB:=hd_ hb;have HBW:=hd_ h.2;have HH:=hd_ h;clear hb;unfold Qc;by_cases her:er=0
 . subst her
   simp only [ne_eq,not_true_eq_false,if_false];by_cases hnt:n<=t
   . rw [if_pos hnt]
     have HT:=hd_ (Q48 F k bs t n w h.2 hn hnt hFk);generalize Q8 bs / 2^(t-n)%2^n=V at *;clear h;refine Q6 fun R hR=>?_;go_enter Tryz.func93,Tryz.ntmps93;go_wp2_with fail;refine HT.out.mono ?_;rintro e w1 ⟨rfl,u1,b1⟩;have hb1:=HB.out.upd u1 (by simpa using hgk);have c0':=hb1.cell 0;have c1':=hb1.cell 1;have z1':=hb1.frozen 1;simp at c0' c1';have HB1:=hd_ hb1;have U1:=hd_ u1;have BW1:=hd_ b1;clear hb1 u1 b1 c0 c1 z1;go_wp2_with fail;(try go_ret);have u2:Upd (fun b=>b=g) w1 (w1.setCell ⟨g,1,none⟩ (.int .i64 0)):=(Upd.refl (fun b=>b=g) w1).setCell (p:=⟨g,1,none⟩) (fun _=>rfl) _;refine hR.out _ _ ⟨rfl,(U1.out.mono fun _ _ h=>.inr h).trans u2 (fun b _ hb=>.inl hb),?_,BW1.out.upd u2 (Ne.symm hgk) (fun b hb=>hFg b hb)⟩;have:=HB1.out.set_ 1 (.int .i64 0);simpa using this
   rw [if_neg hnt];have HT:=hd_ (Q1e F k bs t n w h.2 hn (by omega));clear h;refine Q6 fun R hR=>?_;go_enter Tryz.func93,Tryz.ntmps93;go_wp2_with fail;refine HT.out.mono ?_;rintro e w1 ⟨rfl,u1⟩;have hb1:=HB.out.fresh u1;have c0':=hb1.cell 0;have c1':=hb1.cell 1;have z1':=hb1.frozen 1;simp at c0' c1';have HB1:=hd_ hb1;have U1:=hd_ u1;clear hb1 u1 c0 c1 z1;go_wp2_with fail;(try go_ret);have u2:Upd (fun b=>b=g) w1 (w1.setCell ⟨g,1,none⟩ (.int .i64 14)):=(Upd.refl (fun b=>b=g) w1).setCell (p:=⟨g,1,none⟩) (fun _=>rfl) _;refine hR.out _ _ ⟨rfl,(U1.out.mono fun _ _ h=>h.elim).trans u2 (fun b _ hb=>.inl hb),?_,(HBW.out.fresh U1.out).upd u2 (Ne.symm hgk) (fun b hb=>hFg b hb)⟩;have:=HB1.out.set_ 1 (.int .i64 14);simpa using this
 rw [if_pos her];(have hne:(er == 0)=false:=by simpa using her);clear h;refine Q6 fun R hR=>?_;go_enter Tryz.func93,Tryz.ntmps93;go_wp2_with fail;(try go_ret);exact hR.out _ _ ⟨rfl,Upd.refl _ _,HH.out⟩
def Q78:List Value:=[.func (.func 112) #[] #[],.func (.func 113) #[] #[],.func (.func 114) #[] #[]]
def Q79:List Value:=[.func (.func 115) #[] #[],.func (.func 116) #[] #[],.func (.func 117) #[] #[]]
theorem Q3K (w:World):Calls Tryz.prog 72 #[] w fun e w'=>e = .returned (.agg #[.func (.func 112) #[] #[],.func (.func 113) #[] #[],.func (.func 114) #[] #[],.func (.func 115) #[] #[],.func (.func 116) #[] #[],.func (.func 117) #[] #[],.func (.func 112) #[] #[],.func (.func 113) #[] #[],.func (.func 114) #[] #[]])/\Q0 w w':=by
 refine Q6 fun R hR=>?_;go_enter Tryz.func72,Tryz.ntmps72;go_wp2_with fail;refine bodyPost_ret (v:=.agg #[.func (.func 112) #[] #[],.func (.func 113) #[] #[],.func (.func 114) #[] #[],.func (.func 115) #[] #[],.func (.func 116) #[] #[],.func (.func 117) #[] #[],.func (.func 112) #[] #[],.func (.func 113) #[] #[],.func (.func 114) #[] #[]]) (results_cell_row rfl _ _ w.heap.size 149 _ _ _ rfl ((Blk.new w _ _).alloc _) Tryz.underlying149 rfl (by kernel_rfl)) rfl ?_;exact hR.out _ _ ⟨rfl,((Upd.refl _ _).alloc _).alloc _⟩
def CP (w:World) (G:Nat->Prop) (v:Value) (p:Nat) (N:List Int):Prop:=∃g,v = .pointer (some ⟨g,0,none⟩)/\QV w G g p N
theorem CP.upd {S G:Nat->Prop} {w w':World} {v:Value} {p:Nat} {N:List Int} (h:CP w G v p N) (hu:Upd S w w') (hs:∀b,G b->b<w.heap.size->¬S b):CP w' G v p N:=by
 obtain⟨g,h1,h2⟩:=h;exact⟨g,h1,h2.upd hu hs⟩
theorem CP.fresh {G:Nat->Prop} {w w':World} {v:Value} {p:Nat} {N:List Int} (h:CP w G v p N) (hu:Q0 w w'):CP w' G v p N:=h.upd hu fun _ _ _ h=>h
theorem Q2C (F:Nat->Prop) (A B C:Option Addr) (n c m d k e:Nat) (T:Qp) (w:World) (hT:T.ok)
   (h1:Rd w F A n (Q1 T.NL)) (h2:Rd w F B m (Q1 T.NO)) (h3:Rd w F C k (Q1 T.NM)) (f1:Fit T.NL) (f2:Fit T.NO) (f3:Fit T.NM) (b1:(n:Int)<=1099511627776) (b2:(m:Int)<=1099511627776) (b3:(k:Int)<=1099511627776) :
   Calls Tryz.prog 47 #[.agg #[.int .i64 (T.pL:Nat),.slice A n c,.int .i64 (T.pO:Nat),.slice B m d,.int .i64 (T.pM:Nat),.slice C k e]] w fun e w'=>∃v0 v1 v2,
     e = .returned (.tuple #[.agg #[v0,.int .i64 0,v1,.int .i64 0,v2,.int .i64 0],.int .i64 0])/\CP w' (fun b=>w.heap.size<=b) v0 T.pL T.NL/\CP w' (fun b=>w.heap.size<=b) v1 T.pO T.NO/\CP w' (fun b=>w.heap.size<=b) v2 T.pM T.NM/\Q0 w w':=by
 obtain⟨w0,hw0⟩:=nm_ ((w.alloc (.cells #[.int .i64 (T.pL:Nat),.slice A n c,.int .i64 (T.pO:Nat),.slice B m d,.int .i64 (T.pM:Nat),.slice C k e] 69)).alloc (.cells #[.pointer none,.int .i64 0,.pointer none,.int .i64 0,.pointer none,.int .i64 0] 96));obtain⟨H,hH⟩:=nm_ (w.heap.size);(have f0:Q0 w w0:=by rw [hw0];exact((Upd.refl _ _).alloc _).alloc _);(have bt:Blk w0 H 69 #[.int .i64 (T.pL:Nat),.slice A n c,.int .i64 (T.pO:Nat),.slice B m d,.int .i64 (T.pM:Nat),.slice C k e]:=by rw [hw0];exact(Q2 hH _ _).alloc _);(have bo:Blk w0 (H+1) 96 #[.pointer none,.int .i64 0,.pointer none,.int .i64 0,.pointer none,.int .i64 0]:=by rw [hw0];exact Q2 (by simp [hH]) _ _);(have hs0:w0.heap.size=H+2:=by rw [hw0,hH];simp);obtain⟨hL,hO,hM⟩:=hT.wide
 have nw:∀(X:Option Addr) (x cx p:Nat) (N:List Int) W,Rd w F X x (Q1 N)->Fit N->(x:Int)<=1099511627776->Qg p N 256 9->Upd (fun b=>b=H+1) w0 W ->
     Calls Tryz.prog 76 #[.agg #[.int .i64 (p:Nat),.slice X x cx]] W fun e w'=>∃g,e = .returned (.tuple #[.pointer (some ⟨g,0,none⟩),.int .i64 0])/\QV w' (fun b=>H+2<=b) g p N/\Q0 W w':=fun X x cx p N W hr hf hx hv hu=>by
   refine(Q5M _ X x cx p N W ((hr.both.fresh f0).upd hu (fun b _ hb e=>by have:=hb.2;omega)) hf hx hv).mono ?_;rintro e w' ⟨g,h1,h2,h3⟩;exact⟨g,h1,h2.f.mono fun b hb _=>by have:=hu.size;have:=hb.1;omega,h3⟩
 have N0:=hd_ (fun W u=>nw A n c _ _ W h1 f1 b1 hL u);have N1:=hd_ (fun W u=>nw B m d _ _ W h2 f2 b2 hO u);have N2:=hd_ (fun W u=>nw C k e _ _ W h3 f3 b3 hM u)
 have HBT:Hid (∀W,Upd (fun b=>b=H+1) w0 W->W.cell? ⟨H,0,none⟩=some (.int .i64 (T.pL:Nat))/\W.cell? ⟨H,1,none⟩=some (.slice A n c)/\W.cell? ⟨H,2,none⟩=some (.int .i64 (T.pO:Nat))/\W.cell? ⟨H,3,none⟩=some (.slice B m d)/\W.cell? ⟨H,4,none⟩=some (.int .i64 (T.pM:Nat))/\W.cell? ⟨H,5,none⟩=some (.slice C k e)):=fun W u=>by
   have b:=bt.upd u (by omega);exact b.cells6
 have HW:=hd_ hw0;have HH:=hd_ hH;have F0:=hd_ f0;have BO:=hd_ bo;have HS0:=hd_ hs0;clear hw0 hH f0 bt bo hs0 h1 h2 h3 f1 f2 f3 b1 b2 b3 hL hO hM nw hT;generalize T.pL=pL at *;generalize T.pO=pO at *;generalize T.pM=pM at *;generalize T.NL=NL at *;generalize T.NO=NO at *;generalize T.NM=NM at *;refine Q6 fun R hR=>?_;go_enter Tryz.func47,Tryz.ntmps47;go_upto_region 1 with fail;simp only [<-HH.out,<-HW.out];go_wp2_with fail
 go_loopg [5] 3 (fun f vi wr=>∃(i:Nat) (v0 v1 v2:Value),i+f=3/\vi = .int .i64 i/\Upd (fun b=>b=H+1) w0 wr/\Blk wr (H+1) 96 #[v0,.int .i64 0,v1,.int .i64 0,v2,.int .i64 0] /\
   (if 0<i then CP wr (fun b=>H+2<=b) v0 pL NL else v0 = .pointer none)/\(if 1<i then CP wr (fun b=>H+2<=b) v1 pO NO else v1 = .pointer none)/\(if 2<i then CP wr (fun b=>H+2<=b) v2 pM NM else v2 = .pointer none))
 case atStart=>exact⟨0,_,_,_,rfl,rfl,Upd.refl _ _,BO.out,rfl,rfl,rfl⟩
 case round =>
   obtain⟨i,v0,v1,v2,hf,rfl,hu,hb,p0,p1,p2⟩:=hrel;obtain⟨t0,t1,t2,t3,t4,t5⟩:=HBT.out _ hu;obtain⟨a0,a1,a2,a3,a4,a5⟩:=(hb).cells6;have HU:=hd_ hu;have HB:=hd_ hb;have P0:=hd_ p0;have P1:=hd_ p1;have P2:=hd_ p2;(have h4:i=0\/i=1\/i=2\/i=3:=by omega);clear hu hb p0 p1 p2;rcases h4 with rfl|rfl|rfl|rfl
   . obtain rfl:gk=3:=by omega
     clear hf;go_wp2_with fail;refine(N0.out _ HU.out).mono ?_;rintro e w1 ⟨g,rfl,cg,f1⟩;have hb1:=HB.out.fresh f1;have y0:=hb1.cell 0;have z0:=hb1.frozen 0;simp at y0;have u1:Upd (fun b=>b=H+1) w0 (w1.setCell ⟨H+1,0,none⟩ (.pointer (some ⟨g,0,none⟩))):=(HU.out.trans' (f1.mono (T:=fun b=>b=H+1) fun _ _ h=>h.elim)).setCell (p:=⟨H+1,0,none⟩) (fun _=>rfl) _;have u2:Upd (fun b=>b=H+1) w1 (w1.setCell ⟨H+1,0,none⟩ (.pointer (some ⟨g,0,none⟩))):=(Upd.refl (fun b=>b=H+1) w1).setCell (p:=⟨H+1,0,none⟩) (fun _=>rfl) _;(have hb2:Blk (w1.setCell ⟨H+1,0,none⟩ (.pointer (some ⟨g,0,none⟩))) (H+1) 96 #[.pointer (some ⟨g,0,none⟩),.int .i64 0,v1,.int .i64 0,v2,.int .i64 0]:=by simpa using hb1.set_ 0 (.pointer (some ⟨g,0,none⟩)));have cg2:CP (w1.setCell ⟨H+1,0,none⟩ (.pointer (some ⟨g,0,none⟩))) (fun b=>H+2<=b) (.pointer (some ⟨g,0,none⟩)) pL NL:=⟨g,rfl,cg.upd u2 (fun b hb _=>by omega)⟩;(have q1:v1 = .pointer none:=by simpa using P1.out);(have q2:v2 = .pointer none:=by simpa using P2.out)
     have HE:=hd_ (show ∃(i:Nat) (x0 x1 x2:Value),i+2=3/\(Value.int .i64 1:Value) = .int .i64 i/\Upd (fun b=>b=H+1) w0 (w1.setCell ⟨H+1,0,none⟩ (.pointer (some ⟨g,0,none⟩)))/\Blk (w1.setCell ⟨H+1,0,none⟩ (.pointer (some ⟨g,0,none⟩))) (H+1) 96 #[x0,.int .i64 0,x1,.int .i64 0,x2,.int .i64 0] /\
       (if 0<i then CP (w1.setCell ⟨H+1,0,none⟩ (.pointer (some ⟨g,0,none⟩))) (fun b=>H+2<=b) x0 pL NL else x0 = .pointer none)/\(if 1<i then CP (w1.setCell ⟨H+1,0,none⟩ (.pointer (some ⟨g,0,none⟩))) (fun b=>H+2<=b) x1 pO NO else x1 = .pointer none)/\(if 2<i then CP (w1.setCell ⟨H+1,0,none⟩ (.pointer (some ⟨g,0,none⟩))) (fun b=>H+2<=b) x2 pM NM else x2 = .pointer none)
       from⟨1,.pointer (some ⟨g,0,none⟩),v1,v2,rfl,rfl,u1,hb2,by simpa using cg2,by first|simpa using cg2|simpa using q1,by first|simpa using cg2|simpa using q2⟩)
     clear hb1 u1 u2 hb2 cg cg2 f1 q1 q2 a0 a1 a2 a3 a4 a5 t0 t1 t2 t3 t4 t5;go_wp2_with fail;go_roundg 2
     case measure=>omega
     case rel=>exact HE.out
   . obtain rfl:gk=2:=by omega
     clear hf;go_wp2_with fail;refine(N1.out _ HU.out).mono ?_;rintro e w1 ⟨g,rfl,cg,f1⟩;have hb1:=HB.out.fresh f1;have y0:=hb1.cell 2;have z0:=hb1.frozen 2;simp at y0;have u1:Upd (fun b=>b=H+1) w0 (w1.setCell ⟨H+1,2,none⟩ (.pointer (some ⟨g,0,none⟩))):=(HU.out.trans' (f1.mono (T:=fun b=>b=H+1) fun _ _ h=>h.elim)).setCell (p:=⟨H+1,2,none⟩) (fun _=>rfl) _;have u2:Upd (fun b=>b=H+1) w1 (w1.setCell ⟨H+1,2,none⟩ (.pointer (some ⟨g,0,none⟩))):=(Upd.refl (fun b=>b=H+1) w1).setCell (p:=⟨H+1,2,none⟩) (fun _=>rfl) _;(have hb2:Blk (w1.setCell ⟨H+1,2,none⟩ (.pointer (some ⟨g,0,none⟩))) (H+1) 96 #[v0,.int .i64 0,.pointer (some ⟨g,0,none⟩),.int .i64 0,v2,.int .i64 0]:=by simpa using hb1.set_ 2 (.pointer (some ⟨g,0,none⟩)));have cg2:CP (w1.setCell ⟨H+1,2,none⟩ (.pointer (some ⟨g,0,none⟩))) (fun b=>H+2<=b) (.pointer (some ⟨g,0,none⟩)) pO NO:=⟨g,rfl,cg.upd u2 (fun b hb _=>by omega)⟩;have q0:CP (w1.setCell ⟨H+1,2,none⟩ (.pointer (some ⟨g,0,none⟩))) (fun b=>H+2<=b) v0 pL NL:=((show CP wr (fun b=>H+2<=b) v0 pL NL by simpa using P0.out).fresh f1).upd u2 (fun b hb _=>by omega);(have q2:v2 = .pointer none:=by simpa using P2.out)
     have HE:=hd_ (show ∃(i:Nat) (x0 x1 x2:Value),i+1=3/\(Value.int .i64 2:Value) = .int .i64 i/\Upd (fun b=>b=H+1) w0 (w1.setCell ⟨H+1,2,none⟩ (.pointer (some ⟨g,0,none⟩)))/\Blk (w1.setCell ⟨H+1,2,none⟩ (.pointer (some ⟨g,0,none⟩))) (H+1) 96 #[x0,.int .i64 0,x1,.int .i64 0,x2,.int .i64 0] /\
       (if 0<i then CP (w1.setCell ⟨H+1,2,none⟩ (.pointer (some ⟨g,0,none⟩))) (fun b=>H+2<=b) x0 pL NL else x0 = .pointer none)/\(if 1<i then CP (w1.setCell ⟨H+1,2,none⟩ (.pointer (some ⟨g,0,none⟩))) (fun b=>H+2<=b) x1 pO NO else x1 = .pointer none)/\(if 2<i then CP (w1.setCell ⟨H+1,2,none⟩ (.pointer (some ⟨g,0,none⟩))) (fun b=>H+2<=b) x2 pM NM else x2 = .pointer none)
       from⟨2,v0,.pointer (some ⟨g,0,none⟩),v2,rfl,rfl,u1,hb2,by first|simpa using cg2|simpa using q0,by simpa using cg2,by first|simpa using cg2|simpa using q2⟩)
     clear hb1 u1 u2 hb2 cg cg2 f1 q0 q2 a0 a1 a2 a3 a4 a5 t0 t1 t2 t3 t4 t5;go_wp2_with fail;go_roundg 1
     case measure=>omega
     case rel=>exact HE.out
   . obtain rfl:gk=1:=by omega
     clear hf;go_wp2_with fail;refine(N2.out _ HU.out).mono ?_;rintro e w1 ⟨g,rfl,cg,f1⟩;have hb1:=HB.out.fresh f1;have y0:=hb1.cell 4;have z0:=hb1.frozen 4;simp at y0;have u1:Upd (fun b=>b=H+1) w0 (w1.setCell ⟨H+1,4,none⟩ (.pointer (some ⟨g,0,none⟩))):=(HU.out.trans' (f1.mono (T:=fun b=>b=H+1) fun _ _ h=>h.elim)).setCell (p:=⟨H+1,4,none⟩) (fun _=>rfl) _;have u2:Upd (fun b=>b=H+1) w1 (w1.setCell ⟨H+1,4,none⟩ (.pointer (some ⟨g,0,none⟩))):=(Upd.refl (fun b=>b=H+1) w1).setCell (p:=⟨H+1,4,none⟩) (fun _=>rfl) _;(have hb2:Blk (w1.setCell ⟨H+1,4,none⟩ (.pointer (some ⟨g,0,none⟩))) (H+1) 96 #[v0,.int .i64 0,v1,.int .i64 0,.pointer (some ⟨g,0,none⟩),.int .i64 0]:=by simpa using hb1.set_ 4 (.pointer (some ⟨g,0,none⟩)));have cg2:CP (w1.setCell ⟨H+1,4,none⟩ (.pointer (some ⟨g,0,none⟩))) (fun b=>H+2<=b) (.pointer (some ⟨g,0,none⟩)) pM NM:=⟨g,rfl,cg.upd u2 (fun b hb _=>by omega)⟩;have q0:CP (w1.setCell ⟨H+1,4,none⟩ (.pointer (some ⟨g,0,none⟩))) (fun b=>H+2<=b) v0 pL NL:=((show CP wr (fun b=>H+2<=b) v0 pL NL by simpa using P0.out).fresh f1).upd u2 (fun b hb _=>by omega);have q1:CP (w1.setCell ⟨H+1,4,none⟩ (.pointer (some ⟨g,0,none⟩))) (fun b=>H+2<=b) v1 pO NO:=((show CP wr (fun b=>H+2<=b) v1 pO NO by simpa using P1.out).fresh f1).upd u2 (fun b hb _=>by omega)
     have HE:=hd_ (show ∃(i:Nat) (x0 x1 x2:Value),i+0=3/\(Value.int .i64 3:Value) = .int .i64 i/\Upd (fun b=>b=H+1) w0 (w1.setCell ⟨H+1,4,none⟩ (.pointer (some ⟨g,0,none⟩)))/\Blk (w1.setCell ⟨H+1,4,none⟩ (.pointer (some ⟨g,0,none⟩))) (H+1) 96 #[x0,.int .i64 0,x1,.int .i64 0,x2,.int .i64 0] /\
       (if 0<i then CP (w1.setCell ⟨H+1,4,none⟩ (.pointer (some ⟨g,0,none⟩))) (fun b=>H+2<=b) x0 pL NL else x0 = .pointer none)/\(if 1<i then CP (w1.setCell ⟨H+1,4,none⟩ (.pointer (some ⟨g,0,none⟩))) (fun b=>H+2<=b) x1 pO NO else x1 = .pointer none)/\(if 2<i then CP (w1.setCell ⟨H+1,4,none⟩ (.pointer (some ⟨g,0,none⟩))) (fun b=>H+2<=b) x2 pM NM else x2 = .pointer none)
       from⟨3,v0,v1,.pointer (some ⟨g,0,none⟩),rfl,rfl,u1,hb2,by first|simpa using cg2|simpa using q0,by first|simpa using cg2|simpa using q1,by simpa using cg2⟩)
     clear hb1 u1 u2 hb2 cg cg2 f1 q0 q1 a0 a1 a2 a3 a4 a5 t0 t1 t2 t3 t4 t5;go_wp2_with fail;go_roundg 0
     case measure=>omega
     case rel=>exact HE.out
   (obtain rfl:gk=0:=by omega);clear hf;obtain⟨g0,rfl,c0⟩:=(show CP wr (fun b=>H+2<=b) v0 pL NL by simpa using P0.out);obtain⟨g1,rfl,c1⟩:=(show CP wr (fun b=>H+2<=b) v1 pO NO by simpa using P1.out);obtain⟨g2,rfl,c2⟩:=(show CP wr (fun b=>H+2<=b) v2 pM NM by simpa using P2.out);have z0:=HB.out.frozen 0;have z1:=HB.out.frozen 1;have z2:=HB.out.frozen 2;have z3:=HB.out.frozen 3;have z4:=HB.out.frozen 4;have z5:=HB.out.frozen 5;have C0:=hd_ c0;have C1:=hd_ c1;have C2:=hd_ c2;clear c0 c1 c2 t0 t1 t2 t3 t4 t5;go_wp2_with fail;have bF:=(((((HB.out.set_ 0 (.pointer (some ⟨g0,0,none⟩))).set_ 1 (.int .i64 0)).set_ 2 (.pointer (some ⟨g1,0,none⟩))).set_ 3 (.int .i64 0)).set_ 4 (.pointer (some ⟨g2,0,none⟩))).set_ 5 (.int .i64 0)
   have uF:Upd (fun b=>b=H+1) wr ((((((wr.setCell ⟨H+1,0,none⟩ (.pointer (some ⟨g0,0,none⟩))).setCell ⟨H+1,1,none⟩ (.int .i64 0)).setCell ⟨H+1,2,none⟩ (.pointer (some ⟨g1,0,none⟩))).setCell ⟨H+1,3,none⟩ (.int .i64 0)).setCell ⟨H+1,4,none⟩ (.pointer (some ⟨g2,0,none⟩))).setCell ⟨H+1,5,none⟩ (.int .i64 0)) :=
     ((((((Upd.refl (fun b=>b=H+1) wr).setCell (p:=⟨H+1,0,none⟩) (fun _=>rfl) _).setCell (p:=⟨H+1,1,none⟩) (fun _=>rfl) _).setCell (p:=⟨H+1,2,none⟩) (fun _=>rfl) _).setCell (p:=⟨H+1,3,none⟩) (fun _=>rfl) _).setCell (p:=⟨H+1,4,none⟩) (fun _=>rfl) _).setCell (p:=⟨H+1,5,none⟩) (fun _=>rfl) _
   refine bodyPost_ret (Q5 rfl _ _ (H+1) _ _ _ rfl bF Tryz.underlying96 rfl (by kernel_rfl)) rfl ?_;refine hR.out _ _ ⟨.pointer (some ⟨g0,0,none⟩),.pointer (some ⟨g1,0,none⟩),.pointer (some ⟨g2,0,none⟩),rfl,?_,?_,?_,?_⟩
   . exact⟨g0,rfl,(C0.out.upd uF (fun b hb _=>by omega)).mono fun b hb _=>by have:=HH.out;omega⟩
   . exact⟨g1,rfl,(C1.out.upd uF (fun b hb _=>by omega)).mono fun b hb _=>by have:=HH.out;omega⟩
   . exact⟨g2,rfl,(C2.out.upd uF (fun b hb _=>by omega)).mono fun b hb _=>by have:=HH.out;omega⟩
   exact(F0.out.trans HU.out (fun b hb h=>by have:=HH.out;omega)).trans uF (fun b hb h=>by have:=HH.out;omega)
theorem XR (F G:Nat->Prop) (g k:Nat) (bs:List Nat) (s:Nat × Int) (cg p st:Nat) (N:List Int) (w:World) (h:YI w F g k bs s) (hgk:g≠k) (hFk:∀b,F b->b≠k) (hFg:∀b,F b->b≠g)
   (hc:QV w G cg p N) (hv:Qg p N 44 9) (hs:st<2^p) :
   Calls Tryz.prog 94 #[.pointer (some ⟨g,0,none⟩),.agg #[.pointer (some ⟨cg,0,none⟩),.int .i64 (st:Nat)],
     .agg #[.func (.func 112) #[] #[],.func (.func 113) #[] #[],.func (.func 114) #[] #[]]] w fun e w' =>
     e = .returned (.int .i64 ((QK (Q8 bs) false p N st s).1:Nat))/\Upd (fun b=>b=g\/b=k) w w'/\YI w' F g k bs (QK (Q8 bs) false p N st s).2:=by
 have hw256:Qg p N 256 9:=by
   obtain⟨a1,a2,a3,a4,a5,a6⟩:=hv;exact⟨a1,a2,a3,a4,by omega,a6⟩
 obtain⟨c1,c2,c3,c4,c5,c6⟩:=Jq hw256 hs;have hN:(N.length:Int)<=44:=hv.2.2.2.2.1;(have hsy:Qu p N st<44:=by omega);obtain⟨w0,hw0⟩:=nm_ ((w.alloc (.cells #[.pointer (some ⟨cg,0,none⟩),.int .i64 (st:Nat)] 95)).alloc (.cells #[.func (.func 112) #[] #[],.func (.func 113) #[] #[],.func (.func 114) #[] #[]] 148));obtain⟨H,hH⟩:=nm_ (w.heap.size);(have f0:Q0 w w0:=by rw [hw0];exact((Upd.refl _ _).alloc _).alloc _);(have k0:Blk w0 H 95 #[.pointer (some ⟨cg,0,none⟩),.int .i64 (st:Nat)]:=by rw [hw0];exact(Q2 hH _ _).alloc _);(have k1:Blk w0 (H+1) 148 #[.func (.func 112) #[] #[],.func (.func 113) #[] #[],.func (.func 114) #[] #[]]:=by rw [hw0];exact Q2 (by simp [hH]) _ _);have HCE:=hd_ (KB G cg p st N w0 (hc.fresh f0) hs);have HSY:=hd_ c1;have hgl:=h.1.lt;have hkl:=h.2.lt
 have hbt:exB false (Qu p N st)<=27:=by
   unfold exB Yp;simp only [Bool.false_eq_true,if_false];(try split);(all_goals omega)
 have HTK:=hd_ (fun W (f:Q0 w W)=>ZT F g k bs s (exB false (Qu p N st)) W (h.fresh f) (by omega) hgk hFk hFg);have htl:(Qc (Q8 bs) s (exB false (Qu p N st))).1<2^exB false (Qu p N st):=Yh _ _ _;have HBI:Hid (∀W,Calls Tryz.prog 113 #[.int .i64 (Qu p N st:Nat)] W fun e w'=>e = .returned (.tuple #[.int .i64 (exB false (Qu p N st):Nat),.int .i64 0])/\Q0 W w'):=fun W=>Q03 (Qu p N st) W hsy;have HJO:Hid (∀W,Calls Tryz.prog 114 #[.int .i64 (Qu p N st:Nat),.int .u64 ((Qc (Q8 bs) s (exB false (Qu p N st))).1:Nat)] W fun e w'=>e = .returned (.tuple #[.int .i64 (QK (Q8 bs) false p N st s).1,.int .i64 0])/\Q0 W w'):=fun W=>Q43 (Qu p N st) _ W hsy htl;have e2:(QK (Q8 bs) false p N st s).2=(Qc (Q8 bs) s (exB false (Qu p N st))).2:=rfl;rw [e2];have e3:(QQ p N (Q7 p N) st).1=(Qu p N st:Nat):=c1;rw [e3]at HCE;generalize (QQ p N (Q7 p N) st).2.1=y1 at *;generalize (QQ p N (Q7 p N) st).2.2=y2 at *;generalize ((QK (Q8 bs) false p N st s).1:Nat)=val at *;generalize Qc (Q8 bs) s (exB false (Qu p N st))=tk at *;generalize exB false (Qu p N st)=ex at *;generalize Qu p N st=sy at *;obtain⟨d0,d1⟩:=(k0).cells2;have K1:=hd_ k1;have F0:=hd_ f0;have HW:=hd_ hw0;have HH:=hd_ hH;clear h hc hv hw256 c1 c2 c3 c4 c5 c6 hN hsy htl e2 e3 hw0 hH f0 k0 k1 hs hFk hFg;refine Q6 fun R hR=>?_;go_enter Tryz.func94,Tryz.ntmps94;go_upto_region 1 with fail;simp only [<-HH.out,<-HW.out];go_wp2_with fail;refine HCE.out.mono ?_;rintro e w1 ⟨rfl,f1⟩;have F1:=hd_ (F0.out.trans' f1);have k2:=K1.out.fresh f1;clear d0 d1 f1;go_upto_region 2 with fail;obtain⟨K,hK⟩:=nm_ (w1.heap.size);obtain⟨w2,hw2⟩:=nm_ (w1.alloc (.cells #[.int .i64 (sy:Nat),.int .i64 y1,.int .i64 y2] 217));simp only [<-hK,<-hw2];(have f2:Q0 w1 w2:=by rw [hw2];exact(Upd.refl _ _).alloc _);have k3:=k2.fresh f2;(have q3:Blk w2 K 217 #[.int .i64 (sy:Nat),.int .i64 y1,.int .i64 y2]:=by rw [hw2];exact Q2 hK _ _);have F2:=hd_ (F1.out.trans' f2);have d1:=k3.cell 1;have d2:=q3.cell 0;simp at d1 d2;have K3:=hd_ k3;have Q3:=hd_ q3;have HK:=hd_ hK;clear hw2 f2 k2 k3 q3 hK;go_wp2_with fail;refine(HBI.out _).mono ?_;rintro e w3 ⟨rfl,f3⟩;have k4:=K3.out.fresh f3;have q4:=Q3.out.fresh f3;have F3:=hd_ (F2.out.trans' f3);have d1':=k4.cell 2;have d2':=q4.cell 0;simp at d1' d2';have K4:=hd_ k4;have Q4:=hd_ q4;have HKS:=hd_ (show H+1≠g/\H+1≠k by have:=HH.out;omega);have HQS:=hd_ (show K≠g/\K≠k by have:=F1.out.size;have:=HK.out;omega);clear f3 k4 q4 d1 d2
 have HSS:Hid (∀W,Upd (fun b=>b=g\/b=k) w3 W->W.cell? ⟨H+1,2,none⟩=some (.func (.func 114) #[] #[])/\W.cell? ⟨K,0,none⟩=some (.int .i64 (sy:Nat))):=fun W u =>
   ⟨by simpa using(K4.out.upd u (by have:=HKS.out;rintro(h|h);exact this.1 h;exact this.2 h)).cell 2,by simpa using(Q4.out.upd u (by have:=HQS.out;rintro(h|h);exact this.1 h;exact this.2 h)).cell 0⟩
 go_wp2_with fail
 go_region_held3 (fun W=>W.cell? ⟨H+1,2,none⟩=some (.func (.func 114) #[] #[])/\W.cell? ⟨K,0,none⟩=some (.int .i64 (sy:Nat)))
   (first|exact⟨d1',d2'⟩|exact HSS.out _ ux|exact HSS.out _ uy)
   (first
     | (go_at_call 93;refine(HTK.out _ F3.out.drew).mono ?_;rintro e w4 ⟨rfl,u4,s4⟩;have ux:Upd (fun b=>b=g\/b=k) w3 w4:=Upd.trans' ((Upd.refl _ _).drew) u4)
     | (go_at_call 114;refine(HJO.out _).mono ?_;rintro e w5 ⟨rfl,f5⟩;have uy:Upd (fun b=>b=g\/b=k) w3 w5:=ux.trans f5 (fun _ _ h=>h.elim)))
 (all_goals go_wp2_with fail);(all_goals try go_ret);(all_goals exact hR.out _ _ ⟨rfl,(F3.out.mono (T:=fun b=>b=g\/b=k) fun _ _ h=>h.elim).trans' uy,s4.fresh f5⟩)
theorem Q3L (F G:Nat->Prop) (g k:Nat) (bs:List Nat) (s:Nat × Int) (cg p st:Nat) (N:List Int) (w:World) (h:YI w F g k bs s) (hgk:g≠k) (hFk:∀b,F b->b≠k) (hFg:∀b,F b->b≠g)
   (hc:QV w G cg p N) (hv:Qg p N 28 9) (hs:st<2^p) :
   Calls Tryz.prog 94 #[.pointer (some ⟨g,0,none⟩),.agg #[.pointer (some ⟨cg,0,none⟩),.int .i64 (st:Nat)],
     .agg #[.func (.func 115) #[] #[],.func (.func 116) #[] #[],.func (.func 117) #[] #[]]] w fun e w' =>
     e = .returned (.int .i64 ((QK (Q8 bs) true p N st s).1:Nat))/\Upd (fun b=>b=g\/b=k) w w'/\YI w' F g k bs (QK (Q8 bs) true p N st s).2:=by
 have hw256:Qg p N 256 9:=by
   obtain⟨a1,a2,a3,a4,a5,a6⟩:=hv;exact⟨a1,a2,a3,a4,by omega,a6⟩
 obtain⟨c1,c2,c3,c4,c5,c6⟩:=Jq hw256 hs;have hN:(N.length:Int)<=28:=hv.2.2.2.2.1;(have hsy:Qu p N st<28:=by omega);obtain⟨w0,hw0⟩:=nm_ ((w.alloc (.cells #[.pointer (some ⟨cg,0,none⟩),.int .i64 (st:Nat)] 95)).alloc (.cells #[.func (.func 115) #[] #[],.func (.func 116) #[] #[],.func (.func 117) #[] #[]] 148));obtain⟨H,hH⟩:=nm_ (w.heap.size);(have f0:Q0 w w0:=by rw [hw0];exact((Upd.refl _ _).alloc _).alloc _);(have k0:Blk w0 H 95 #[.pointer (some ⟨cg,0,none⟩),.int .i64 (st:Nat)]:=by rw [hw0];exact(Q2 hH _ _).alloc _);(have k1:Blk w0 (H+1) 148 #[.func (.func 115) #[] #[],.func (.func 116) #[] #[],.func (.func 117) #[] #[]]:=by rw [hw0];exact Q2 (by simp [hH]) _ _);have HCE:=hd_ (KB G cg p st N w0 (hc.fresh f0) hs);have HSY:=hd_ c1;have hgl:=h.1.lt;have hkl:=h.2.lt
 have hbt:exB true (Qu p N st)<=27:=by
   unfold exB Yp;simp only [if_true];(try split);(all_goals omega)
 have HTK:=hd_ (fun W (f:Q0 w W)=>ZT F g k bs s (exB true (Qu p N st)) W (h.fresh f) (by omega) hgk hFk hFg);have htl:(Qc (Q8 bs) s (exB true (Qu p N st))).1<2^exB true (Qu p N st):=Yh _ _ _;have HBI:Hid (∀W,Calls Tryz.prog 116 #[.int .i64 (Qu p N st:Nat)] W fun e w'=>e = .returned (.tuple #[.int .i64 (exB true (Qu p N st):Nat),.int .i64 0])/\Q0 W w'):=fun W=>Xd (Qu p N st) W hsy;have HJO:Hid (∀W,Calls Tryz.prog 117 #[.int .i64 (Qu p N st:Nat),.int .u64 ((Qc (Q8 bs) s (exB true (Qu p N st))).1:Nat)] W fun e w'=>e = .returned (.tuple #[.int .i64 (QK (Q8 bs) true p N st s).1,.int .i64 0])/\Q0 W w'):=fun W=>Xe (Qu p N st) _ W hsy htl;have e2:(QK (Q8 bs) true p N st s).2=(Qc (Q8 bs) s (exB true (Qu p N st))).2:=rfl;rw [e2];have e3:(QQ p N (Q7 p N) st).1=(Qu p N st:Nat):=c1;rw [e3]at HCE;generalize (QQ p N (Q7 p N) st).2.1=y1 at *;generalize (QQ p N (Q7 p N) st).2.2=y2 at *;generalize ((QK (Q8 bs) true p N st s).1:Nat)=val at *;generalize Qc (Q8 bs) s (exB true (Qu p N st))=tk at *;generalize exB true (Qu p N st)=ex at *;generalize Qu p N st=sy at *;obtain⟨d0,d1⟩:=(k0).cells2;have K1:=hd_ k1;have F0:=hd_ f0;have HW:=hd_ hw0;have HH:=hd_ hH;clear h hc hv hw256 c1 c2 c3 c4 c5 c6 hN hsy htl e2 e3 hw0 hH f0 k0 k1 hs hFk hFg;refine Q6 fun R hR=>?_;go_enter Tryz.func94,Tryz.ntmps94;go_upto_region 1 with fail;simp only [<-HH.out,<-HW.out];go_wp2_with fail;refine HCE.out.mono ?_;rintro e w1 ⟨rfl,f1⟩;have F1:=hd_ (F0.out.trans' f1);have k2:=K1.out.fresh f1;clear d0 d1 f1;go_upto_region 2 with fail;obtain⟨K,hK⟩:=nm_ (w1.heap.size);obtain⟨w2,hw2⟩:=nm_ (w1.alloc (.cells #[.int .i64 (sy:Nat),.int .i64 y1,.int .i64 y2] 217));simp only [<-hK,<-hw2];(have f2:Q0 w1 w2:=by rw [hw2];exact(Upd.refl _ _).alloc _);have k3:=k2.fresh f2;(have q3:Blk w2 K 217 #[.int .i64 (sy:Nat),.int .i64 y1,.int .i64 y2]:=by rw [hw2];exact Q2 hK _ _);have F2:=hd_ (F1.out.trans' f2);have d1:=k3.cell 1;have d2:=q3.cell 0;simp at d1 d2;have K3:=hd_ k3;have Q3:=hd_ q3;have HK:=hd_ hK;clear hw2 f2 k2 k3 q3 hK;go_wp2_with fail;refine(HBI.out _).mono ?_;rintro e w3 ⟨rfl,f3⟩;have k4:=K3.out.fresh f3;have q4:=Q3.out.fresh f3;have F3:=hd_ (F2.out.trans' f3);have d1':=k4.cell 2;have d2':=q4.cell 0;simp at d1' d2';have K4:=hd_ k4;have Q4:=hd_ q4;have HKS:=hd_ (show H+1≠g/\H+1≠k by have:=HH.out;omega);have HQS:=hd_ (show K≠g/\K≠k by have:=F1.out.size;have:=HK.out;omega);clear f3 k4 q4 d1 d2
 have HSS:Hid (∀W,Upd (fun b=>b=g\/b=k) w3 W->W.cell? ⟨H+1,2,none⟩=some (.func (.func 117) #[] #[])/\W.cell? ⟨K,0,none⟩=some (.int .i64 (sy:Nat))):=fun W u =>
   ⟨by simpa using(K4.out.upd u (by have:=HKS.out;rintro(h|h);exact this.1 h;exact this.2 h)).cell 2,by simpa using(Q4.out.upd u (by have:=HQS.out;rintro(h|h);exact this.1 h;exact this.2 h)).cell 0⟩
 go_wp2_with fail
 go_region_held3 (fun W=>W.cell? ⟨H+1,2,none⟩=some (.func (.func 117) #[] #[])/\W.cell? ⟨K,0,none⟩=some (.int .i64 (sy:Nat)))
   (first|exact⟨d1',d2'⟩|exact HSS.out _ ux|exact HSS.out _ uy)
   (first
     | (go_at_call 93;refine(HTK.out _ F3.out.drew).mono ?_;rintro e w4 ⟨rfl,u4,s4⟩;have ux:Upd (fun b=>b=g\/b=k) w3 w4:=Upd.trans' ((Upd.refl _ _).drew) u4)
     | (go_at_call 117;refine(HJO.out _).mono ?_;rintro e w5 ⟨rfl,f5⟩;have uy:Upd (fun b=>b=g\/b=k) w3 w5:=ux.trans f5 (fun _ _ h=>h.elim)))
 (all_goals go_wp2_with fail);(all_goals try go_ret);(all_goals exact hR.out _ _ ⟨rfl,(F3.out.mono (T:=fun b=>b=g\/b=k) fun _ _ h=>h.elim).trans' uy,s4.fresh f5⟩)
theorem Xo (F G:Nat->Prop) (g k:Nat) (bs:List Nat) (s:Nat × Int) (cg p st tb o:Nat) (N:List Int) (cs:Array Value) (w:World) (h:YI w F g k bs s) (hgk:g≠k) (hFk:∀b,F b->b≠k) (hFg:∀b,F b->b≠g)
   (hc:QV w G cg p N) (hG:∀b,G b->b≠g/\b≠k) (hv:Qg p N 256 9) (hs:st<2^p) (hb:Blk w tb 96 cs) (h0:cs[o]?=some (.pointer (some ⟨cg,0,none⟩))) (h1:cs[o+1]?=some (.int .i64 (st:Nat)))
   (htg:tb≠g) (htk:tb≠k) (hFt:∀b,F b->b≠tb) :
   Calls Tryz.prog 95 #[.pointer (some ⟨g,0,none⟩),.pointer (some ⟨tb,o,none⟩)] w fun e w' =>
     e = .returned (.tuple #[])/\Upd (fun b=>b=g\/b=k\/b=tb) w w'/\YI w' F g k bs (onE (Q8 bs) p N st s).2/\Blk w' tb 96 (cs.setIfInBounds (o+1) (.int .i64 ((onE (Q8 bs) p N st s).1:Nat))):=by
 obtain⟨c1,c2,c3,c4,c5,c6⟩:=Jq hv hs;(have hp9:p<=9:=by have:=hv.2.1;omega);(have hbt:Ys p N st<=9:=by omega);have HCE:=hd_ (fun W (f:Q0 w W)=>KB G cg p st N W (hc.fresh f) hs);have HTK:=hd_ (fun W (f:Q0 w W)=>ZT F g k bs s (Ys p N st) W (h.fresh f) (by omega) hgk hFk hFg);have htl:(Qc (Q8 bs) s (Ys p N st)).1<2^Ys p N st:=Yh _ _ _;have hpw:2^Ys p N st<=512:=Nat.le_trans (Nat.pow_le_pow_right (by decide) hbt) (by decide);have HNX:=hd_ (fun W (f:Upd (fun b=>b=g\/b=k) w W)=>Q4O G cg p st (Qc (Q8 bs) s (Ys p N st)).1 N W (hc.upd f (fun b hb _ e=>by have:=hG b hb;rcases e with e|e;exact this.1 e;exact this.2 e)) hs hv (by omega));have e1:(QQ p N (Q7 p N) st).2.2=(JM p N st:Nat):=c5;have e2:(Qc (Q8 bs) s (Ys p N st)).1%2^(YB p N (Q7 p N) st).toNat=(Qc (Q8 bs) s (Ys p N st)).1:=Nat.mod_eq_of_lt htl;have e3:(QQ p N (Q7 p N) st).2.1=(Ys p N st:Nat):=c3;(have e4:((JM p N st:Nat):Int)+((Qc (Q8 bs) s (Ys p N st)).1:Nat)=((onE (Q8 bs) p N st s).1:Nat):=by simp [onE]);rw [e1,e2,e4]at HNX;rw [e1,e3]at HCE;have e5:(onE (Q8 bs) p N st s).2=(Qc (Q8 bs) s (Ys p N st)).2:=rfl;rw [e5];have hgl:=h.1.lt;have hkl:=h.2.lt;have htl2:=hb.lt;generalize (QQ p N (Q7 p N) st).1=y1 at *;generalize ((JM p N st:Nat):Int)=y2 at *;generalize ((onE (Q8 bs) p N st s).1:Nat)=val at *;generalize Qc (Q8 bs) s (Ys p N st)=tk at *;generalize Ys p N st=bt at *;have d0:=hb.cell o;have d1:=hb.cell (o+1);rw [h0]at d0;rw [h1]at d1;have B0:=hd_ hb;have H0:=hd_ h0;have H1:=hd_ h1;have HFt:=hd_ hFt;have HN1:=hd_ (And.intro htg htk);clear h hc hv c1 c2 c3 c4 c5 c6 htl e1 e2 e3 e4 e5 hpw hs hFk hFg hb h0 h1 hG hFt htg htk hgk;refine Q6 fun R hR=>?_;go_enter Tryz.func95,Tryz.ntmps95;go_upto_region 0 with fail;go_cut [4,5] (fun q q5 wx=>∃K,q = .pointer (some ⟨K,0,none⟩)/\q5 = .int .i64 0/\Blk wx K 217 #[.int .i64 y1,.int .i64 (bt:Nat),.int .i64 y2]/\Q0 w wx/\w.heap.size<=K)
 case first =>
   have hss:∀W,Q0 w W->Q0 w W/\W.cell? ⟨tb,o,none⟩=some (.pointer (some ⟨cg,0,none⟩))/\W.cell? ⟨tb,o+1,none⟩=some (.int .i64 (st:Nat)):=fun W f=>⟨f,by rw [f.cells _ _ htl2];exact d0,by rw [f.cells _ _ htl2];exact d1⟩;have HSS:=hd_ hss;clear hss
   go_region_held3 (fun W=>Q0 w W/\W.cell? ⟨tb,o,none⟩=some (.pointer (some ⟨cg,0,none⟩))/\W.cell? ⟨tb,o+1,none⟩=some (.int .i64 (st:Nat)))
     (first|exact HSS.out _ (Upd.refl _ _).drew|exact HSS.out _ ((Upd.refl _ _).drew.alloc _)|exact HSS.out _ fx|exact HSS.out _ (fx.alloc _)|exact HSS.out _ (fx.trans (Q0T _ _ _ _ _) (fun b hb e=>by omega)))
     (first
       | (go_at_call 153;refine(HCE.out _ (And.left (by assumption))).mono ?_;rintro e w4 ⟨rfl,f4⟩;have fx:Q0 w w4:=Upd.trans' (And.left (by assumption)) f4;have bz:Blk w4 w.heap.size 217 #[.int .i64 0,.int .i64 0,.int .i64 0]:=(Blk.new w.drew 217 #[.int .i64 0,.int .i64 0,.int .i64 0]).fresh f4;have z0:=bz.cell 0;have z1:=bz.cell 1;have z2:=bz.cell 2;have y0:=bz.frozen 0;have y1':=bz.frozen 1;have y2':=bz.frozen 2)
       | (go_at_call 153;refine(HCE.out _ (And.left (by assumption))).mono ?_;rintro e w4 ⟨rfl,f4⟩;have fx:Q0 w w4:=Upd.trans' (And.left (by assumption)) f4))
   (all_goals go_wp2_with fail);(all_goals go_meet)
   all_goals
     first
       | exact⟨w4.heap.size,rfl,rfl,Blk.new _ _ _,fx.alloc _,fx.size⟩
       | exact⟨w.heap.size,rfl,rfl,by simpa using((bz.set_ 0 (.int .i64 y1)).set_ 1 (.int .i64 (bt:Nat))).set_ 2 (.int .i64 y2),fx.trans (Q0T _ _ _ _ _) (fun b hb e=>by omega),Nat.le_refl _⟩
 case rest =>
   obtain⟨K,rfl,rfl,bK,fx,hK⟩:=hcut;have b1:=B0.out.fresh fx;(have d0':wc.cell? ⟨tb,o,none⟩=some (.pointer (some ⟨cg,0,none⟩)):=by rw [fx.cells _ _ htl2];exact d0);(have d1':wc.cell? ⟨tb,o+1,none⟩=some (.int .i64 (st:Nat)):=by rw [fx.cells _ _ htl2];exact d1);have d2':=bK.cell 1;simp at d2';have z1:=b1.frozen (o+1);have B1:=hd_ b1;have BK:=hd_ bK;have FX:=hd_ fx;have HK:=hd_ (show K≠g/\K≠k/\K≠tb by omega)
   have HSS:Hid (∀W,Upd (fun b=>b=g\/b=k) wc W->W.cell? ⟨tb,o,none⟩=some (.pointer (some ⟨cg,0,none⟩))/\W.cell? ⟨tb,o+1,none⟩=some (.int .i64 (st:Nat))/\W.cell? ⟨K,1,none⟩=some (.int .i64 (bt:Nat))/\W.frozen? ⟨tb,o+1,none⟩=false):=fun W u=>by
     have b2:=B1.out.upd u (by have:=HN1.out;rintro(h|h);exact this.1 h;exact this.2 h);have k2:=BK.out.upd u (by have:=HK.out;rintro(h|h);exact this.1 h;exact this.2.1 h);exact⟨by rw [b2.cell];exact H0.out,by rw [b2.cell];exact H1.out,by simpa using k2.cell 1,b2.frozen _⟩
   clear b1 bK fx hK d0 d1;go_wp2_with fail
   go_region_with
     (first
       | (go_at_call 93;refine(HTK.out _ (by first|exact FX.out|exact FX.out.drew|exact FX.out.drewN _)).mono ?_;rintro e w4 ⟨rfl,u4,s4⟩;have ux:Upd (fun b=>b=g\/b=k) wc w4:=(by first|exact u4|exact Upd.trans' ((Upd.refl _ _).drew) u4|exact Upd.trans' ((Upd.refl _ _).drewN _) u4);obtain⟨c1x,c2x,c3x,c4x⟩:=HSS.out _ ux)
       | (go_at_call 154;refine(HNX.out _ (by exact(FX.out.mono (T:=fun b=>b=g\/b=k) fun _ _ h=>h.elim).trans' ux)).mono ?_;rintro e w5 ⟨rfl,f5⟩;have uy:Upd (fun b=>b=g\/b=k) wc w5:=ux.trans f5 (fun _ _ h=>h.elim);obtain⟨c1y,c2y,c3y,c4y⟩:=HSS.out _ uy))
   all_goals
     have u2:Upd (fun b=>b=tb) w5 (w5.setCell ⟨tb,o+1,none⟩ (.int .i64 (val:Nat))):=(Upd.refl (fun b=>b=tb) w5).setCell (p:=⟨tb,o+1,none⟩) (fun _=>rfl) _;have u3:Upd (fun b=>b=g\/b=k\/b=tb) w w5:=(FX.out.mono (T:=fun b=>b=g\/b=k\/b=tb) fun _ _ h=>h.elim).trans' (uy.mono (T:=fun b=>b=g\/b=k\/b=tb) fun _ _ h=>by rcases h with h|h;exact .inl h;exact .inr (.inl h));have b5:=(B1.out.upd uy (by have:=HN1.out;rintro(h|h);exact this.1 h;exact this.2 h)).set_ (o+1) (.int .i64 (val:Nat));have s5:=(s4.fresh f5).upd u2 (Ne.symm HN1.out.1) (Ne.symm HN1.out.2) (fun b hb=>HFt.out b hb);(try go_end0)
     first
       | exact hR.out _ _ ⟨rfl,u3.trans u2 (fun b _ h=>.inr (.inr h)),s5,b5⟩
       | exact hR.out _ _ ⟨rfl,(u3.trans u2 (fun b _ h=>.inr (.inr h))).drew,s5,b5⟩
       | trace_state
theorem Yk {lg sy lb:Int} {N:List Int} (h:Qg lg N sy lb):Fit N:=by
 intro x hx;have h1:=Q0b hx;obtain⟨q1,q2,q3,k1,k2,k3,k4,q4⟩:=h;rw [q4]at h1
 have h2:(2:Int)^lg.toNat<=512:=by
   (have h3:(2:Int)^lg.toNat=((2^lg.toNat:Nat):Int):=by simp);have h4:2^lg.toNat<=2^9:=Nat.pow_le_pow_right (by decide) (by omega);omega
 unfold QZ at h1;(split at h1<;>omega)
theorem YP {m p lg l2:Int} {N N2:List Int} {bs:List Nat} {at_ k:Nat} (hb:∀b∈bs,b<256) (h:Yb m p lg N bs at_=(0,l2,N2,k)) :
   Qg l2 N2 (Qj p) (QH p)/\(at_<=bs.length->at_+k<=bs.length):=by
 by_cases h1:p<0\/2<p\/m<0\/3<m
 . have:Yb m p lg N bs at_=(2,0,[],0):=if_pos h1
   rw [this]at h;simp at h
 have hd:Yb m p lg N bs at_=QJ m p lg N bs at_:=if_neg h1;rw [hd]at h;(have hp:0<=p/\p<=2:=by omega);(have:m=0\/m=1\/m=2\/m=3:=by omega);rcases this with rfl|rfl|rfl|rfl
 . have e:QJ 0 p lg N bs at_=(0,Jk p,JV p,0):=rfl
   rw [e]at h;simp only [Prod.mk.injEq,true_and]at h;obtain⟨rfl,rfl,rfl⟩:=h;exact⟨Q2o hp,fun h=>by omega⟩
 . have e:QJ 1 p lg N bs at_=((JD bs at_ (Qj p)).1,0,(JD bs at_ (Qj p)).2.1,(JD bs at_ (Qj p)).2.2):=rfl
   rw [e]at h;simp only [Prod.mk.injEq]at h;obtain⟨e1,rfl,rfl,rfl⟩:=h;unfold JD at e1 ⊢;by_cases hb0:at_<bs.length
   . rw [if_pos hb0]at e1 ⊢
     by_cases hs:Qj p<=(bs[at_]?.getD 0:Nat)
     . rw [if_pos hs]at e1;simp at e1
     rw [if_neg hs];exact⟨Q2n (by omega) (by have:=YR p;omega),fun _=>by simp;omega⟩
   rw [if_neg hb0]at e1;simp at e1
 . have e:QJ 2 p lg N bs at_=YO bs at_ (Qj p) (QH p):=rfl
   rw [e]at h;unfold YO at h;rcases hc:QT (Qj p) (QH p) (Q9 (Yq bs at_))with e2|⟨q,M,j⟩
   . rw [hc]at h
     simp only [Prod.mk.injEq]at h;exact absurd h.1 (KI hc)
   rw [hc]at h;simp only [Prod.mk.injEq,true_and]at h;obtain⟨rfl,rfl,rfl⟩:=h;have hb2:∀b∈Yq bs at_,b<256:=fun b hx=>hb b (List.mem_of_mem_drop (List.mem_of_mem_take hx));obtain⟨d1,d2,d3,d4,d5,d6⟩:=Q32 hb2 hc;refine⟨⟨d1.1,d4,d1.2.2.1,d1.2.2.2.1,d3,d1.2.2.2.2.2⟩,fun h=>?_⟩;unfold Yq at d5;simp at d5;omega
 by_cases hv:Qg lg N (Qj p) (QH p)
 . have e:QJ 3 p lg N bs at_=(0,lg,N,0):=by simp [QJ,hv]
   rw [e]at h;simp only [Prod.mk.injEq,true_and]at h;obtain⟨rfl,rfl,rfl⟩:=h;exact⟨hv,fun h=>by omega⟩
 (have e:QJ 3 p lg N bs at_=(13,0,[],0):=by simp [QJ,hv]);rw [e]at h;simp at h
def hd2 (bs:List Nat) (x at_:Nat) (T:Qb):Int × Qb × Nat :=
  let m:=Yb ((x / 16%4:Nat):Int) 2 T.lM T.NM bs at_
  if m.1≠0 then(m.1,Qb.none,0)else(0,⟨T.lL,T.NL,T.lO,T.NO,m.2.1,m.2.2.1⟩,at_+m.2.2.2)
def hd1 (bs:List Nat) (x at_:Nat) (T:Qb):Int × Qb × Nat :=
  let o:=Yb ((x / 4%4:Nat):Int) 1 T.lO T.NO bs at_
  if o.1≠0 then(o.1,Qb.none,0)else hd2 bs x (at_+o.2.2.2) ⟨T.lL,T.NL,o.2.1,o.2.2.1,T.lM,T.NM⟩
def hd0 (bs:List Nat) (x at_:Nat) (T:Qb):Int × Qb × Nat :=
  let l:=Yb ((x%4:Nat):Int) 0 T.lL T.NL bs at_
  if l.1≠0 then(l.1,Qb.none,0)else hd1 bs x (at_+l.2.2.2) ⟨l.2.1,l.2.2.1,T.lO,T.NO,T.lM,T.NM⟩
def hdF (bs:List Nat) (x:Nat):Nat->Nat->Qb->Int × Qb × Nat
  | 0,at_,T=>hd0 bs x at_ T
  | 1,at_,T=>hd1 bs x at_ T
  | 2,at_,T=>hd2 bs x at_ T
  | _,at_,T=>(0,T,at_)
theorem Q1I {bs:List Nat} {x a k1:Nat} {T:Qb} {l1:Int} {N1:List Int} (h:Yb ((x%4:Nat):Int) 0 T.lL T.NL bs a=(0,l1,N1,k1)):hdF bs x 1 (a+k1) ⟨l1,N1,T.lO,T.NO,T.lM,T.NM⟩=hdF bs x 0 a T:=by
 show _=hd0 bs x a T;unfold hd0;rw [h];rfl
theorem Q1J {bs:List Nat} {x a k1:Nat} {T:Qb} {x1 l1:Int} {N1:List Int} (h:Yb ((x%4:Nat):Int) 0 T.lL T.NL bs a=(x1,l1,N1,k1)) (hx:x1≠0):hdF bs x 0 a T=(x1,Qb.none,0):=by
 show hd0 bs x a T=_;unfold hd0;rw [h];exact if_pos hx
theorem Q1K {bs:List Nat} {x a k1:Nat} {T:Qb} {l1:Int} {N1:List Int} (h:Yb ((x / 4%4:Nat):Int) 1 T.lO T.NO bs a=(0,l1,N1,k1)):hdF bs x 2 (a+k1) ⟨T.lL,T.NL,l1,N1,T.lM,T.NM⟩=hdF bs x 1 a T:=by
 show _=hd1 bs x a T;unfold hd1;rw [h];rfl
theorem Q1L {bs:List Nat} {x a k1:Nat} {T:Qb} {x1 l1:Int} {N1:List Int} (h:Yb ((x / 4%4:Nat):Int) 1 T.lO T.NO bs a=(x1,l1,N1,k1)) (hx:x1≠0):hdF bs x 1 a T=(x1,Qb.none,0):=by
 show hd1 bs x a T=_;unfold hd1;rw [h];exact if_pos hx
theorem Q1M {bs:List Nat} {x a k1:Nat} {T:Qb} {l1:Int} {N1:List Int} (h:Yb ((x / 16%4:Nat):Int) 2 T.lM T.NM bs a=(0,l1,N1,k1)):hdF bs x 3 (a+k1) ⟨T.lL,T.NL,T.lO,T.NO,l1,N1⟩=hdF bs x 2 a T:=by
 show _=hd2 bs x a T;unfold hd2;rw [h];rfl
theorem Q1N {bs:List Nat} {x a k1:Nat} {T:Qb} {x1 l1:Int} {N1:List Int} (h:Yb ((x / 16%4:Nat):Int) 2 T.lM T.NM bs a=(x1,l1,N1,k1)) (hx:x1≠0):hdF bs x 2 a T=(x1,Qb.none,0):=by
 show hd2 bs x a T=_;unfold hd2;rw [h];exact if_pos hx
theorem K7 {bs:List Nat} {at_:Nat} {T:Qb} (h:¬at_<bs.length):Qs bs at_ T=(3,Qb.none,0):=by
 unfold Qs;rw [if_neg h]
theorem V0 {bs:List Nat} {at_:Nat} {T:Qb} (h:at_<bs.length) (h2:64<=bs[at_]?.getD 0):Qs bs at_ T=(13,Qb.none,0):=by
 unfold Qs;rw [if_pos h];simp only;rw [if_pos h2]
theorem VJ {bs:List Nat} {at_:Nat} {T:Qb} (h:at_<bs.length) (h2:¬64<=bs[at_]?.getD 0):Qs bs at_ T=hdF bs (bs[at_]?.getD 0) 0 (at_+1) T:=by
 unfold Qs;rw [if_pos h];simp only;rw [if_neg h2];rfl
def Qb.ok (T:Qb):Prop:=Qg T.lL T.NL 44 9/\Qg T.lO T.NO 28 8/\Qg T.lM T.NM 44 9
theorem Qb.ok.trks {T:Qb} (h:T.ok):T.trks.ok/\T.lL=(T.trks.pL:Nat)/\T.lO=(T.trks.pO:Nat)/\T.lM=(T.trks.pM:Nat):=by
 (have e1:T.lL=(T.lL.toNat:Nat):=by have:=h.1.1;omega);(have e2:T.lO=(T.lO.toNat:Nat):=by have:=h.2.1.1;omega);(have e3:T.lM=(T.lM.toNat:Nat):=by have:=h.2.2.1;omega);exact⟨⟨by have:=h.1;rw [e1]at this;exact this,by have:=h.2.1;rw [e2]at this;exact this,by have:=h.2.2;rw [e3]at this;exact this⟩,e1,e2,e3⟩
theorem VK {bs:List Nat} {at_:Nat} {T:Qb} (hb:∀b∈bs,b<256) (h:(Qs bs at_ T).1=0):(Qs bs at_ T).2.1.ok/\(Qs bs at_ T).2.2<=bs.length:=by
 by_cases h1:at_<bs.length
 . by_cases h2:64<=bs[at_]?.getD 0
   . rw [V0 h1 h2]at h;simp at h
   rw [VJ h1 h2]at h ⊢;simp only [hdF,hd0]at h ⊢;generalize hl:Yb ((bs[at_]?.getD 0%4:Nat):Int) 0 T.lL T.NL bs (at_+1)=L at h ⊢;obtain⟨xl,ll,Nl,kl⟩:=L;by_cases el:xl=0
   . subst el
     obtain⟨vl,al⟩:=YP hb hl;simp only [ne_eq,not_true_eq_false,if_false,hd1]at h ⊢;generalize ho:Yb ((bs[at_]?.getD 0 / 4%4:Nat):Int) 1 T.lO T.NO bs (at_+1+kl)=L at h ⊢;obtain⟨xo,lo,No,ko⟩:=L;by_cases eo:xo=0
     . subst eo
       obtain⟨vo,ao⟩:=YP hb ho;simp only [ne_eq,not_true_eq_false,if_false,hd2]at h ⊢;generalize hm:Yb ((bs[at_]?.getD 0 / 16%4:Nat):Int) 2 T.lM T.NM bs (at_+1+kl+ko)=L at h ⊢;obtain⟨xm,lm,Nm,km⟩:=L;by_cases em:xm=0
       . subst em
         obtain⟨vm,am⟩:=YP hb hm;simp only [ne_eq,not_true_eq_false,if_false]at h ⊢;exact⟨⟨vl,vo,vm⟩,am (ao (al (by omega)))⟩
       simp [em]at h
     simp [eo]at h
   simp [el]at h
 rw [K7 h1]at h;simp at h
def plN (p:Nat) (N:List Int) (c:Nat):List Nat:=JE (Q7 p N) (c:Int) (2^p)
def Q6p (x n:Nat):Nat->Nat->Nat
  | 0,k=>k
  | f+1,k=>if 2*n<=x / 2^k then Q6p x n f (k+1)else k
def Q6P (x n:Nat):Nat:=Q6p x n 11 0
def Q2D (p:Nat) (N:List Int) (c st:Nat):Nat:=Q6P (st+2^p) (plN p N c).length
def Q2E (p:Nat) (N:List Int) (c st:Nat):Nat:=((plN p N c)[(st+2^p) / 2^Q2D p N c st-(plN p N c).length]?).getD 0
def Q6E (p:Nat) (N:List Int) (c st:Nat):Nat:=(st+2^p)%2^Q2D p N c st
def Q4T (p:Nat) (N:List Int) (c:Nat):Nat:=((plN p N c)[0]?).getD 0
def Y1.cL (x:Y1):Nat:=Q5h x.lit
def Y1.cO (x:Y1):Nat:=Q6D x.val
def Y1.cM (x:Y1):Nat:=Q5h (x.len-3)
def Y1.rL (x:Y1):Nat:=x.lit-YS x.cL
def Y1.rO (x:Y1):Nat:=x.val-2^x.cO
def Y1.rM (x:Y1):Nat:=(x.len-3)-YS x.cM
def Y1.ok (x:Y1):Prop:=x.lit<2^18/\3<=x.len/\x.len<2^18+3/\1<=x.val/\x.val<2^28
def Q5j (x:Y1):List Bool:=QD (Yp x.cL) x.rL++QD (Yp x.cM) x.rM++QD x.cO x.rO
def VL (p:Nat) (N:List Int) (c st:Nat):List Bool:=QD (Q2D p N c st) (Q6E p N c st)
def wrB (T:Qp):List Y1->Sts × List Bool
  | []=>(⟨0,0,0⟩,[])
  | [x]=>(⟨Q4T T.pL T.NL x.cL,Q4T T.pO T.NO x.cO,Q4T T.pM T.NM x.cM⟩,Q5j x)
  | x::y::l =>
    let r:=wrB T (y::l)
    (⟨Q2E T.pL T.NL x.cL r.1.l,Q2E T.pO T.NO x.cO r.1.o,Q2E T.pM T.NM x.cM r.1.m⟩,
      r.2++(VL T.pO T.NO x.cO r.1.o++VL T.pM T.NM x.cM r.1.m++VL T.pL T.NL x.cL r.1.l)++Q5j x)
def wrE (T:Qp) (l:List Y1):List Bool:=(wrB T l).2++(QD T.pM (wrB T l).1.m++QD T.pO (wrB T l).1.o++QD T.pL (wrB T l).1.l)
def Cov (T:Qp) (x:Y1):Prop:=(x.cL<T.NL.length/\1<=(plN T.pL T.NL x.cL).length)/\(x.cO<T.NO.length/\1<=(plN T.pO T.NO x.cO).length)/\(x.cM<T.NM.length/\1<=(plN T.pM T.NM x.cM).length)
def Str (V t:Nat) (L:List Bool):Prop:=L.length=t/\V%2^t=QE L
def Q73 (T:Qp) (S:Sts) (x:Y1):Prop:=S.ok T/\Qu T.pL T.NL S.l=x.cL/\Qu T.pO T.NO S.o=x.cO/\Qu T.pM T.NM S.m=x.cM
def okS (s:Int × Int × Int):Prop:=0<=s.1/\s.1<=262143/\3<=s.2.1/\s.2.1<=262146/\1<=s.2.2/\s.2.2<=134217728
instance (s:Int × Int × Int):Decidable (okS s):=by unfold okS;infer_instance
def Q6Q (a b c:Int) (s:Int × Int × Int):Y1:=⟨s.1.toNat,s.2.1.toNat,(Q4y a b c s.1 s.2.2).toNat⟩
def Xp (a b c:Int) (s:Int × Int × Int):Int × Int × Int:=Qk a b c s.1 (Q4y a b c s.1 s.2.2)
def Q4U (a b c:Int):List (Int × Int × Int)->List Y1
  | []=>[]
  | s::l=>Q6Q a b c s::Q4U (Xp a b c s).1 (Xp a b c s).2.1 (Xp a b c s).2.2 l
def Q6R (a b c:Int):List (Int × Int × Int)->Int × Int × Int
  | []=>(a,b,c)
  | s::l=>Q6R (Xp a b c s).1 (Xp a b c s).2.1 (Xp a b c s).2.2 l
@[simp] theorem Q1x:∀(a b c:Int) (l:List (Int × Int × Int)),(Q4U a b c l).length=l.length
  | _,_,_,[]=>rfl
  | a,b,c,s::l=>by simp [Q4U,Q1x]
theorem X8 {p:Nat} {N:List Int} (hv:Qg p N 44 9) {st:Nat} (hs:st<2^p) (V:Nat) (s:Nat × Int):(QK V false p N st s).1<2^18:=by
 have hw:Qg p N 256 9:=by
   obtain⟨a1,a2,a3,a4,a5,a6⟩:=hv;exact⟨a1,a2,a3,a4,by omega,a6⟩
 obtain⟨_,h2,_⟩:=Jq hw hs;have hN:(N.length:Int)<=44:=hv.2.2.2.2.1;have ht:=Yh V s (exB false (Qu p N st));unfold QK;simp only;generalize (Qc V s (exB false (Qu p N st))).1=r at *;simp only [exB,loB,Bool.false_eq_true,if_false]at ht ⊢;(have hc:Qu p N st<=43:=by omega);generalize Qu p N st=q at *;unfold Yp YS at *;split
 . next h=>rw [if_pos h]at ht;simp at ht;omega
 next h =>
 rw [if_neg h]at ht;have h1:2^(q / 2-5)<=2^16:=Nat.pow_le_pow_right (by decide) (by omega);have h3:(2+q%2)*2^(q / 2-5)<=3*2^(q / 2-5):=Nat.mul_le_mul_right _ (by omega);omega
theorem Q1O {V:Nat} {T:Qp} {S:Sts} (hT:T.ok) (hS:S.ok T) (s:Nat × Int):(Yt V T S s).1.ok:=by
 have h1:=Z8 (o:=true) (p:=T.pO) (N:=T.NO) (by have:=hT.2.1;exact⟨this.1,by have:=this.2.1;omega,this.2.2.1,this.2.2.2.1,by simpa using this.2.2.2.2.1,this.2.2.2.2.2⟩) hS.2.1 V s;have h2:=X8 hT.2.2 hS.2.2 V (QK V true T.pO T.NO S.o s).2;have h3:=X8 hT.1 hS.1 V (QK V false T.pM T.NM S.m (QK V true T.pO T.NO S.o s).2).2;have h4:=h1.2 rfl;unfold Yt Y1.ok;simp only;omega
theorem XT {V:Nat} {T:Qp} (hT:T.ok):∀(k:Nat) (S:Sts) (s:Nat × Int),S.ok T->∀x∈(QW V T k S s).1,x.ok
 | 0,S,s,_,x,hx=>by simp [QW]at hx
 | k+1,S,s,hS,x,hx=>by
   by_cases h:s.2=0
   . by_cases hk:k=0
     . subst hk
       rw [Z1 V T S s h]at hx
       simp at hx
       subst hx
       exact Q1O hT hS s
     rw [Z2 V T k S s h (by omega)]at hx
     rcases List.mem_cons.1 hx with rfl|hx
     . exact Q1O hT hS s
     exact XT hT k _ _ (KC hT hS V _) x hx
   rw [Yr V T _ S s (.inr h)]at hx
   simp at hx
theorem Q4V {V:Nat} {T:Qp} (hT:T.ok) (n t:Nat):∀x∈(Yn V T n t).1,x.ok :=
 XT hT n _ _ (ZS V T (t,0))
theorem Q3M {a b c lit v:Int} (hr:QO a b c=true) (ho:QI (QG a b c lit v)):QO (Qk a b c lit v).1 (Qk a b c lit v).2.1 (Qk a b c lit v).2.2=true:=by
 obtain⟨⟨a1,a2⟩,⟨b1,b2⟩,c1,c2⟩:=J8.1 hr;refine J8.2 ?_;unfold Qk;simp only;(refine⟨ho,?_,?_⟩<;>split<;>omega)
theorem X9:∀(l:List Y1) (a b c:Int),QO a b c=true->(∀x∈l,x.ok)->(QC a b c l).1=0->(∀s∈(QC a b c l).2.1,okS s)/\QO (QC a b c l).2.2.1 (QC a b c l).2.2.2.1 (QC a b c l).2.2.2.2=true
 | [],a,b,c,hr,_,_=>⟨fun s h=>by simp [QC]at h,hr⟩
 | x::l,a,b,c,hr,hx,h=>by
   by_cases ho:QI (QG a b c x.lit x.val)
   . have e:QC a b c (x::l)=if(QC (Qk a b c x.lit x.val).1 (Qk a b c x.lit x.val).2.1 (Qk a b c x.lit x.val).2.2 l).1=0 then(0,((x.lit:Int),(x.len:Int),QG a b c x.lit x.val)::(QC (Qk a b c x.lit x.val).1 (Qk a b c x.lit x.val).2.1 (Qk a b c x.lit x.val).2.2 l).2.1,(QC (Qk a b c x.lit x.val).1 (Qk a b c x.lit x.val).2.1 (Qk a b c x.lit x.val).2.2 l).2.2)else((QC (Qk a b c x.lit x.val).1 (Qk a b c x.lit x.val).2.1 (Qk a b c x.lit x.val).2.2 l).1,[],0,0,0):=by
       simp only [QC];rw [if_pos ho]
     rw [e]at h ⊢;have ih:=X9 l _ _ _ (Q3M hr ho) (fun y hy=>hx y (List.mem_cons_of_mem _ hy));generalize QC (Qk a b c x.lit x.val).1 (Qk a b c x.lit x.val).2.1 (Qk a b c x.lit x.val).2.2 l=R at *;by_cases h0:R.1=0
     . rw [if_pos h0]at h ⊢
       obtain⟨i1,i2⟩:=ih h0;refine⟨fun s hs=>?_,i2⟩;rcases List.mem_cons.1 hs with rfl|hs
       . have h5:=hx x (by simp)
         unfold Y1.ok at h5;unfold okS;unfold QI at ho;simp only;omega
       exact i1 s hs
     rw [if_neg h0]at h;exact absurd h h0
   (have e:QC a b c (x::l)=(15,[],0,0,0):=by simp only [QC];rw [if_neg ho]);rw [e]at h;simp at h
theorem Q3N {bs:List Nat} {T:Qp} {n:Nat} {a b c:Int} (hT:T.ok) (hr:QO a b c=true) (h:(QX bs T n a b c).1=0):(∀s∈(QX bs T n a b c).2.1,okS s)/\QO (QX bs T n a b c).2.2.1 (QX bs T n a b c).2.2.2.1 (QX bs T n a b c).2.2.2.2=true:=by
 by_cases h1:(bs.getLast?).getD 0=0
 . have e:QX bs T n a b c=(14,[],0,0,0):=by unfold QX;rw [if_pos h1]
   rw [e]at h;simp at h
 by_cases h2:(Yn (Q8 bs) T n (Qo bs)).2.2=0
 . have e:QX bs T n a b c=QC a b c (Yn (Q8 bs) T n (Qo bs)).1:=by unfold QX;rw [if_neg h1,if_neg (by simp [h2])]
   rw [e]at h ⊢;exact X9 _ a b c hr (Q4V hT n _) h
 (have e:QX bs T n a b c=((Yn (Q8 bs) T n (Qo bs)).2.2,[],0,0,0):=by unfold QX;rw [if_neg h1,if_pos h2]);rw [e]at h;exact absurd h h2
theorem V6 {lg sy lb:Int} {N:List Int} (h:Qg lg N sy lb):(N.length:Int)<=sy:=h.2.2.2.2.1
theorem Q3O {bs:List Nat} {at_:Nat} {T:Qb} {a b c:Int} (hb:∀b∈bs,b<256) (h:(Qn bs at_ T a b c).err=0) :
   (∀s∈(Qn bs at_ T a b c).seqs,okS s)/\QO (Qn bs at_ T a b c).a (Qn bs at_ T a b c).b (Qn bs at_ T a b c).c=true/\((Qn bs at_ T a b c).tabs=T\/(Qn bs at_ T a b c).tabs.ok):=by
 by_cases hr:QO a b c=true
 . by_cases h1:(Qh (bs.drop at_)).2.2=0
   . by_cases h2:65536<(Qh (bs.drop at_)).1
     . rw [show Qn bs at_ T a b c = .no 15 from by unfold Qn;rw [if_neg (by rw [hr];simp)];simp only;rw [if_neg (by simp [h1]),if_pos h2]]at h
       simp [J6.no]at h
     by_cases h3:(Qh (bs.drop at_)).1=0
     . rw [show Qn bs at_ T a b c=⟨0,[],T,a,b,c,at_+(Qh (bs.drop at_)).2.1⟩from by unfold Qn;rw [if_neg (by rw [hr];simp)];simp only;rw [if_neg (by simp [h1]),if_neg (by omega),if_pos h3]]
       exact⟨fun s hs=>by simp at hs,hr,.inl rfl⟩
     by_cases h4:(Qs bs (at_+(Qh (bs.drop at_)).2.1) T).1=0
     . obtain⟨k1,k2⟩:=VK hb h4
       have kt:=k1.trks.1;generalize hH:Qs bs (at_+(Qh (bs.drop at_)).2.1) T=Hd at *;by_cases h5:(QX (bs.drop Hd.2.2) Hd.2.1.trks (Qh (bs.drop at_)).1 a b c).1=0
       . have e:Qn bs at_ T a b c=⟨0,(QX (bs.drop Hd.2.2) Hd.2.1.trks (Qh (bs.drop at_)).1 a b c).2.1,Hd.2.1,(QX (bs.drop Hd.2.2) Hd.2.1.trks (Qh (bs.drop at_)).1 a b c).2.2.1,(QX (bs.drop Hd.2.2) Hd.2.1.trks (Qh (bs.drop at_)).1 a b c).2.2.2.1,(QX (bs.drop Hd.2.2) Hd.2.1.trks (Qh (bs.drop at_)).1 a b c).2.2.2.2,bs.length⟩:=by
           unfold Qn;rw [if_neg (by rw [hr];simp)];simp only;rw [if_neg (by simp [h1]),if_neg h2,if_neg h3,hH,if_neg (by simp [h4]),if_neg (by simp [h5])]
         rw [e];obtain⟨g1,g2⟩:=Q3N kt hr h5;exact⟨g1,g2,.inr k1⟩
       exfalso
       have e:(Qn bs at_ T a b c).err=(QX (bs.drop Hd.2.2) Hd.2.1.trks (Qh (bs.drop at_)).1 a b c).1:=by
         unfold Qn;rw [if_neg (by rw [hr];simp)];simp only;rw [if_neg (by simp [h1]),if_neg h2,if_neg h3,hH,if_neg (by simp [h4]),if_pos h5];rfl
       rw [e]at h;exact h5 h
     exfalso
     have e:(Qn bs at_ T a b c).err=(Qs bs (at_+(Qh (bs.drop at_)).2.1) T).1:=by
       unfold Qn;rw [if_neg (by rw [hr];simp)];simp only;rw [if_neg (by simp [h1]),if_neg h2,if_neg h3,if_pos h4];rfl
     rw [e]at h;exact h4 h
   exfalso
   have e:(Qn bs at_ T a b c).err=(Qh (bs.drop at_)).2.2:=by
     unfold Qn;rw [if_neg (by rw [hr];simp)];simp only;rw [if_pos h1];rfl
   rw [e]at h;exact h1 h
 exfalso;(have e:(Qn bs at_ T a b c).err=2:=by unfold Qn;rw [if_pos (by simpa using hr)];rfl);rw [e]at h;simp at h
theorem Qb.ok.fits {T:Qb} (h:T.ok):Fit T.NL/\Fit T.NO/\Fit T.NM/\T.NL.length<=44/\T.NO.length<=44/\T.NM.length<=44:=by
 have e1:=V6 h.1;have e2:=V6 h.2.1;have e3:=V6 h.2.2;exact⟨Yk h.1,Yk h.2.1,Yk h.2.2,by omega,by omega,by omega⟩
end Go.Proofs.YtjfdaphjijfieaaGreat
