/-
  Joined texts, part 35: contracts and plain lemmas.
  Conditions: none beyond those of each theorem.
-/
import Derived.Test.YtjfdaphjijfieaaGreatL26
import Derived.Test.YtjfdaphjijfieaaGreatL16
import Derived.Test.YtjfdaphjijfieaaGreatL32
import Derived.Test.YtjfdaphjijfieaaGreatL33
import Derived.Test.YtjfdaphjijfieaaGreatL25
set_option maxHeartbeats 40000000
set_option linter.unusedVariables false
set_option linter.unusedSimpArgs false
set_option maxRecDepth 100000
universe u
namespace Go.Proofs.YtjfdaphjijfieaaGreat
open Go.RowKit
def QF (V:Nat) (s:Nat × Int) (n:Nat):Nat × Nat × Int :=
  if s.2≠0 then(0,s)else if n<=s.1 then(V / 2^(s.1-n)%2^n,s.1-n,0)else(0,s.1,14)
def QL (p:Nat) (N:List Int) (st:Nat):Nat:=(Zn (Q7 p N) st).toNat
def Jd (p:Nat) (N:List Int) (st:Nat):Nat:=(Jp p N (Q7 p N) st).toNat
def Vo (p:Nat) (N:List Int) (st:Nat):Nat:=(Zj p N (Q7 p N) st).toNat
def exB (o:Bool) (c:Nat):Nat:=if o then c else Y4 c
def loB (o:Bool) (c:Nat):Nat:=if o then 2^c else YD c
def Je (V:Nat) (o:Bool) (p:Nat) (N:List Int) (st:Nat) (s:Nat × Int):Nat × Nat × Int :=
  (loB o (QL p N st)+(QF V s (exB o (QL p N st))).1,(QF V s (exB o (QL p N st))).2)
def onE (V:Nat) (p:Nat) (N:List Int) (st:Nat) (s:Nat × Int):Nat × Nat × Int :=
  (Vo p N st+(QF V s (Jd p N st)).1,(QF V s (Jd p N st)).2)
structure QJ where
  pL:Nat
  NL:List Int
  pO:Nat
  NO:List Int
  pM:Nat
  NM:List Int
structure Sts where
  l:Nat
  o:Nat
  m:Nat
structure Qb where
  lit:Nat
  len:Nat
  val:Nat
def QJ.ok (T:QJ):Prop:=Qc T.pL T.NL 44 9/\Qc T.pO T.NO 28 8/\Qc T.pM T.NM 44 9
def Sts.ok (T:QJ) (S:Sts):Prop:=S.l<2^T.pL/\S.o<2^T.pO/\S.m<2^T.pM
def JY (V:Nat) (T:QJ) (S:Sts) (s:Nat × Int):Qb × Nat × Int :=
  let o:=Je V true T.pO T.NO S.o s
  let m:=Je V false T.pM T.NM S.m o.2
  let l:=Je V false T.pL T.NL S.l m.2
  (⟨l.1,m.1+3,o.1⟩,l.2)
def Z7 (V:Nat) (T:QJ) (S:Sts) (s:Nat × Int):Sts × Nat × Int :=
  let l:=onE V T.pL T.NL S.l s
  let m:=onE V T.pM T.NM S.m l.2
  let o:=onE V T.pO T.NO S.o m.2
  (⟨l.1,o.1,m.1⟩,o.2)
def YN (V:Nat) (T:QJ):Nat->Sts->Nat × Int->List Qb × Nat × Int
  | 0,_,s=>([],s)
  | k+1,S,s =>
    if s.2≠0 then([],s)else if k=0 then([(JY V T S s).1],(JY V T S s).2)
    else((JY V T S s).1::(YN V T k (Z7 V T S (JY V T S s).2).1 (Z7 V T S (JY V T S s).2).2).1,
      (YN V T k (Z7 V T S (JY V T S s).2).1 (Z7 V T S (JY V T S s).2).2).2)
def Vp (V:Nat) (T:QJ) (s:Nat × Int):Sts × Nat × Int :=
  let l:=QF V s T.pL
  let o:=QF V l.2 T.pO
  let m:=QF V o.2 T.pM
  (⟨l.1,o.1,m.1⟩,m.2)
def ZT (V:Nat) (T:QJ) (n t:Nat):List Qb × Nat × Int :=
  let r:=YN V T n (Vp V T (t,0)).1 (Vp V T (t,0)).2
  (r.1,r.2.1,if r.2.2=0/\r.2.1≠0 then 14 else r.2.2)
def YS (a b c:Int):List Qb->Int × List (Int × Int × Int) × Int × Int × Int
  | []=>(0,[],a,b,c)
  | x::l =>
    if ZI (Yq a b c x.lit x.val)then
      let r:=YS (QT a b c x.lit x.val).1 (QT a b c x.lit x.val).2.1 (QT a b c x.lit x.val).2.2 l
      if r.1=0 then(0,((x.lit:Int),(x.len:Int),Yq a b c x.lit x.val)::r.2.1,r.2.2)else(r.1,[],0,0,0)
    else(15,[],0,0,0)
def Zz (bs:List Nat) (T:QJ) (n:Nat) (a b c:Int):Int × List (Int × Int × Int) × Int × Int × Int :=
  if(bs.getLast?).getD 0=0 then(14,[],0,0,0)
  else if(ZT (Qu bs) T n (YC bs)).2.2≠0 then((ZT (Qu bs) T n (YC bs)).2.2,[],0,0,0)
  else YS a b c (ZT (Qu bs) T n (YC bs)).1
structure Qa where
  lL:Int
  NL:List Int
  lO:Int
  NO:List Int
  lM:Int
  NM:List Int
def Qa.none:Qa:=⟨0,[],0,[],0,[]⟩
def Qa.trks (T:Qa):QJ:=⟨T.lL.toNat,T.NL,T.lO.toNat,T.NO,T.lM.toNat,T.NM⟩
def QK (bs:List Nat) (at_:Nat) (T:Qa):Int × Qa × Nat :=
  if at_<bs.length then
    let x:=bs[at_]?.getD 0
    if 64<=x then(13,Qa.none,0)else
    let l:=YI ((x%4:Nat):Int) 0 T.lL T.NL bs (at_+1)
    if l.1≠0 then(l.1,Qa.none,0)else
    let o:=YI ((x / 4%4:Nat):Int) 1 T.lO T.NO bs (at_+1+l.2.2.2)
    if o.1≠0 then(o.1,Qa.none,0)else
    let m:=YI ((x / 16%4:Nat):Int) 2 T.lM T.NM bs (at_+1+l.2.2.2+o.2.2.2)
    if m.1≠0 then(m.1,Qa.none,0)else
    (0,⟨l.2.1,l.2.2.1,o.2.1,o.2.2.1,m.2.1,m.2.2.1⟩,at_+1+l.2.2.2+o.2.2.2+m.2.2.2)
  else(3,Qa.none,0)
structure K8 where
  err:Int
  seqs:List (Int × Int × Int)
  tabs:Qa
  a:Int
  b:Int
  c:Int
  to_:Nat
def K8.no (x:Int):K8:=⟨x,[],Qa.none,0,0,0,0⟩
def Ys (bs:List Nat) (at_:Nat) (T:Qa) (a b c:Int):K8 :=
  if Qz a b c=false then .no 2 else
  let v:=QH (bs.drop at_)
  if v.2.2≠0 then .no v.2.2 else if 65536<v.1 then .no 15
  else if v.1=0 then⟨0,[],T,a,b,c,at_+v.2.1⟩
  else
    let h:=QK bs (at_+v.2.1) T
    if h.1≠0 then .no h.1 else
    let r:=Zz (bs.drop h.2.2) h.2.1.trks v.1 a b c
    if r.1≠0 then .no r.1 else⟨0,r.2.1,h.2.1,r.2.2.1,r.2.2.2.1,r.2.2.2.2,bs.length⟩
theorem JA (V:Nat) (s:Nat × Int) (n:Nat):(QF V s n).1<2^n:=by
 have h:=Nat.two_pow_pos n;unfold QF;split
 . exact h
 split
 . exact Nat.mod_lt _ h
 exact h
theorem KR {p:Nat} {N:List Int} (hv:Qc p N 256 9) {st:Nat} (hs:st<2^p) :
   Zn (Q7 p N) st=(QL p N st:Nat)/\QL p N st<N.length/\Jp p N (Q7 p N) st=(Jd p N st:Nat)/\Jd p N st<=p /\
     Zj p N (Q7 p N) st=(Vo p N st:Nat)/\Vo p N st+2^Jd p N st<=2^p:=by
 obtain⟨c,h1,h2,h3,h4,h5,h6,h7,h8⟩:=Q1O hv hs;(have e1:QL p N st=c:=by unfold QL;rw [h1];simp);(have e2:Jp p N (Q7 p N) st=(Jd p N st:Nat):=by unfold Jd;omega);(have e3:Zj p N (Q7 p N) st=(Vo p N st:Nat):=by unfold Vo;omega);refine⟨by rw [h1,e1],by omega,e2,by omega,e3,?_⟩;(have h9:(2:Int)^Jd p N st=((2^Jd p N st:Nat):Int):=by simp);(have h10:(2:Int)^p=((2^p:Nat):Int):=by simp);have e4:(Jp p N (Q7 p N) st).toNat=Jd p N st:=rfl;rw [e4,e3,h9,h10]at h8;omega
theorem VZ {p:Nat} {N:List Int} (hv:Qc p N 256 9) {st:Nat} (hs:st<2^p) (V:Nat) (s:Nat × Int):(onE V p N st s).1<2^p:=by
 obtain⟨_,_,_,_,_,h⟩:=KR hv hs;have:=JA V s (Jd p N st);unfold onE;simp only;omega
theorem QJ.ok.wide {T:QJ} (h:T.ok):Qc T.pL T.NL 256 9/\Qc T.pO T.NO 256 9/\Qc T.pM T.NM 256 9:=by
 obtain⟨⟨a1,a2,a3,a4,a5,a6⟩,⟨b1,b2,b3,b4,b5,b6⟩,⟨c1,c2,c3,c4,c5,c6⟩⟩:=h;exact⟨⟨a1,a2,a3,a4,by omega,a6⟩,⟨b1,by omega,b3,b4,by omega,b6⟩,⟨c1,c2,c3,c4,by omega,c6⟩⟩
theorem Q8k {T:QJ} (h:T.ok) {S:Sts} (hS:S.ok T) (V:Nat) (s:Nat × Int):(Z7 V T S s).1.ok T:=by
 obtain⟨h1,h2,h3⟩:=h.wide;exact⟨VZ h1 hS.1 _ _,VZ h2 hS.2.1 _ _,VZ h3 hS.2.2 _ _⟩
theorem Q2g (V:Nat) (T:QJ) (s:Nat × Int):(Vp V T s).1.ok T:=⟨JA _ _ _,JA _ _ _,JA _ _ _⟩
def stF (V:Nat) (T:QJ) (t:Nat):Nat->Sts × Nat × Int
  | 0=>(⟨0,0,0⟩,t,0)
  | 1=>(⟨(QF V (t,0) T.pL).1,0,0⟩,(QF V (t,0) T.pL).2)
  | 2=>(⟨(QF V (t,0) T.pL).1,(QF V (QF V (t,0) T.pL).2 T.pO).1,0⟩,(QF V (QF V (t,0) T.pL).2 T.pO).2)
  | _=>Vp V T (t,0)
def mvF (V:Nat) (T:QJ) (S:Sts) (s:Nat × Int):Nat->Sts × Nat × Int
  | 0=>(S,s)
  | 1=>(⟨(onE V T.pL T.NL S.l s).1,S.o,S.m⟩,(onE V T.pL T.NL S.l s).2)
  | 2=>(⟨(onE V T.pL T.NL S.l s).1,S.o,(onE V T.pM T.NM S.m (onE V T.pL T.NL S.l s).2).1⟩,(onE V T.pM T.NM S.m (onE V T.pL T.NL S.l s).2).2)
  | _=>Z7 V T S s
def Kv (r:Qb):List Value:=[.int .i64 (r.lit:Nat),.int .i64 (r.len:Nat),.int .i64 (r.val:Nat)]
theorem ZP (V:Nat) (T:QJ) (k:Nat) (S:Sts) (s:Nat × Int) (h:k=0\/s.2≠0):YN V T k S s=([],s):=by
 cases k with
 | zero=>rfl
 | succ k =>
   rcases h with h|h
   . omega
   simp only [YN];rw [if_pos h]
theorem V5 (V:Nat) (T:QJ) (S:Sts) (s:Nat × Int) (h:s.2=0):YN V T 1 S s=([(JY V T S s).1],(JY V T S s).2):=by
 simp only [YN];rw [if_neg (by rw [h];simp)];simp
theorem V7 (V:Nat) (T:QJ) (k:Nat) (S:Sts) (s:Nat × Int) (h:s.2=0) (hk:0<k):YN V T (k+1) S s =
   ((JY V T S s).1::(YN V T k (Z7 V T S (JY V T S s).2).1 (Z7 V T S (JY V T S s).2).2).1,(YN V T k (Z7 V T S (JY V T S s).2).1 (Z7 V T S (JY V T S s).2).2).2):=by
 rw [YN,if_neg (by rw [h];simp),if_neg (by omega)]
theorem Vf {p:Nat} {N:List Int} {o:Bool} (hv:Qc p N (if o then 28 else 44) 9) {st:Nat} (hs:st<2^p) (V:Nat) (s:Nat × Int):(Je V o p N st s).1<2^28/\(o=true->1<=(Je V o p N st s).1):=by
 have hw:Qc p N 256 9:=by
   obtain⟨a1,a2,a3,a4,a5,a6⟩:=hv;exact⟨a1,a2,a3,a4,by cases o<;>simp at a5<;>omega,a6⟩
 obtain⟨_,h2,_⟩:=KR hw hs;have hN:(N.length:Int)<=(if o then 28 else 44):=hv.2.2.2.2.1;have ht:=JA V s (exB o (QL p N st));unfold Je;simp only;generalize (QF V s (exB o (QL p N st))).1=r at *
 cases o with
 | true =>
   simp only [if_true]at hN;simp only [exB,loB,if_true]at ht ⊢;(have hc:QL p N st<=27:=by omega);have h1:2^QL p N st<=2^27:=Nat.pow_le_pow_right (by decide) hc;have h0:=Nat.two_pow_pos (QL p N st);exact⟨by omega,fun _=>by omega⟩
 | false =>
   simp only [Bool.false_eq_true,if_false]at hN;simp only [exB,loB,Bool.false_eq_true,if_false,false_implies,and_true]at ht ⊢;(have hc:QL p N st<=43:=by omega);unfold Y4 YD at *;split
   . next h=>rw [if_pos h]at ht;omega
   next h =>
   rw [if_neg h]at ht;have h1:2^(QL p N st / 2-5)<=2^16:=Nat.pow_le_pow_right (by decide) (by omega);have h3:(2+QL p N st%2)*2^(QL p N st / 2-5)<=3*2^16:=Nat.mul_le_mul (by omega) h1;omega
theorem Q6O {f g:Nat->Nat}:∀(n:Nat),(∀c,c<n->f c<=g c)->((List.range n).map f).sum=((List.range n).map g).sum->∀c,c<n->f c=g c:=by
 have hle:∀(n:Nat),(∀c,c<n->f c<=g c)->((List.range n).map f).sum<=((List.range n).map g).sum:=by
   intro n
   induction n with
   | zero=>intro _;simp
   | succ n ih =>
     intro h;rw [List.range_succ,List.map_append,List.map_append,List.sum_append,List.sum_append];have h1:=ih fun c hc=>h c (by omega);have h2:=h n (by omega);simp only [List.map_cons,List.map_nil,List.sum_cons,List.sum_nil];omega
 intro n
 induction n with
 | zero=>intro _ _ c hc;omega
 | succ n ih =>
   intro h hs c hc;rw [List.range_succ,List.map_append,List.map_append,List.sum_append,List.sum_append]at hs;simp only [List.map_cons,List.map_nil,List.sum_cons,List.sum_nil]at hs;have h1:=hle n fun c hc=>h c (by omega);have h2:=h n (by omega);by_cases hcn:c=n
   . subst hcn;omega
   exact ih (fun c hc=>h c (by omega)) (by omega) c (by omega)
theorem Q9r {f g:Nat->Nat}:∀(n:Nat),((List.range n).map fun c=>f c+g c).sum=((List.range n).map f).sum+((List.range n).map g).sum:=by
 intro n
 induction n with
 | zero=>simp
 | succ n ih =>
   rw [List.range_succ];simp only [List.map_append,List.sum_append,List.map_cons,List.map_nil,List.sum_cons,List.sum_nil];omega
theorem Q3n {f:Nat->Nat}:∀(n:Nat),(∀c,c<n->f c=0)->((List.range n).map f).sum=0:=by
 intro n
 induction n with
 | zero=>intro _;simp
 | succ n ih =>
   intro h;rw [List.range_succ];simp only [List.map_append,List.sum_append,List.map_cons,List.map_nil,List.sum_cons,List.sum_nil];have h1:=h n (by omega);have h2:=ih fun c hc=>h c (by omega);omega
theorem Q9s {y:Nat}:∀(n:Nat),y<n->((List.range n).map fun c=>if y=c then 1 else 0).sum=1:=by
 intro n
 induction n with
 | zero=>intro h;omega
 | succ n ih =>
   intro h;rw [List.range_succ];simp only [List.map_append,List.sum_append,List.map_cons,List.map_nil,List.sum_cons,List.sum_nil];by_cases hy:y=n
   . subst hy
     rw [Q3n y fun c hc=>if_neg (by omega)];simp
   rw [ih (by omega),if_neg hy];(try rfl)
theorem Q2h {n:Nat}:∀(P:List Int),(∀x∈P,∃c:Nat,x=c/\c<n)->((List.range n).map fun c:Nat=>P.count (c:Int)).sum=P.length
 | [],_=>by
   rw [Q3n n fun c _=>by simp]
   rfl
 | x::P,h=>by
   obtain⟨y,rfl,hy⟩:=h x (by simp)
   have e:(fun c:Nat=>((y:Int)::P).count (c:Int))=fun c:Nat=>P.count (c:Int)+if y=c then 1 else 0:=by
     funext c
     rw [List.count_cons];by_cases hc:y=c
     . subst hc;simp
     (have:¬((y:Int) == (c:Int))=true:=by simp;omega);rw [if_neg this,if_neg hc]
   rw [e,Q9r,Q2h P fun x hx=>h x (List.mem_cons_of_mem _ hx),Q9s n hy];rfl
theorem Q4r:∀(N:List Int),((((List.range N.length).map fun c:Nat=>(QO ((N[c]?).getD 0)).toNat).sum:Nat):Int)=Yf N
 | []=>rfl
 | x::N=>by
   rw [List.length_cons,List.range_succ_eq_map,List.map_cons,List.sum_cons,List.map_map,Ym]
   have h1:=Q4r N
   have e:((fun c:Nat=>(QO (((x::N)[c]?).getD 0)).toNat) ∘ Nat.succ)=fun c:Nat=>(QO ((N[c]?).getD 0)).toNat:=by
     funext c
     simp [Function.comp]
   rw [e];(have hx:0<=QO x:=by unfold QO;split<;>omega);simp only [List.getElem?_cons_zero,Option.getD_some];omega
theorem Q1v {p:Nat} {N:List Int} (hv:Qc p N 256 9) {c:Nat} (hc:c<N.length):(((Q7 p N).count (c:Int):Nat):Int)=QO N[c]:=by
 have h1:=Q2h (n:=N.length) (Q7 p N) (by
   intro x hx;obtain⟨i,hi,rfl⟩:=List.mem_iff_getElem.1 hx;(have hi':i<2^p:=by simpa using hi);obtain⟨c,h1,h2,_⟩:=Xq hv hi';rw [List.getElem?_eq_getElem hi]at h1
   exact⟨c,Option.some.inj h1,h2⟩)
 have h2:=Q4r N;rw [hv.2.2.2.2.2.2.2]at h2;(have h3:((2:Int)^(p:Int).toNat)=((2^p:Nat):Int):=by simp);rw [Q1P]at h1
 have h4:=Q6O (f:=fun c:Nat=>(Q7 p N).count (c:Int)) (g:=fun c:Nat=>(QO ((N[c]?).getD 0)).toNat) N.length (by
   intro c hc;have:=Q01 hv hc;simp only [List.getElem?_eq_getElem hc,Option.getD_some]
   omega) (by omega) c hc
 simp only [List.getElem?_eq_getElem hc,Option.getD_some]at h4;(have:0<=QO N[c]:=by unfold QO;split<;>omega);omega
theorem Q2i {P:List Int} {c:Int}:∀(k:Nat),k<=P.length->(Ju P c k).length=JR P k c:=by
 intro k
 induction k with
 | zero=>intro _;simp [Ju,JR]
 | succ k ih =>
   intro h;rw [Q00 (by omega),XH (by omega),List.length_append,ih (by omega)]
   congr 1
   (split<;>rfl)
theorem Q4s {P:List Int} {c:Int}:∀(k:Nat),k<=P.length->∀(j:Nat) (i:Nat),(Ju P c k)[j]?=some i->i<k/\P[i]?=some c/\JR P i c=j:=by
 intro k
 induction k with
 | zero=>intro _ j i h;simp [Ju]at h
 | succ k ih =>
   intro hk j i h;rw [Q00 (by omega),List.getElem?_append]at h;split at h
   . obtain⟨h1,h2,h3⟩:=ih (by omega) j i h
     exact⟨by omega,h2,h3⟩
   next hj =>
   split at h
   . next hc =>
     have h0:j-(Ju P c k).length=0:=by
       have:=(List.getElem?_eq_some_iff.1 h).1;simp at this;omega
     rw [h0]at h;simp at h;subst h;refine⟨by omega,by rw [List.getElem?_eq_getElem (by omega),hc],?_⟩;rw [<-Q2i k (by omega)];omega
   simp at h
def plN (p:Nat) (N:List Int) (c:Nat):List Nat:=Ju (Q7 p N) (c:Int) (2^p)
theorem Q2j {p:Nat} {N:List Int} (hv:Qc p N 256 9) {c:Nat} (hc:c<N.length):(((plN p N c).length:Nat):Int)=QO N[c]:=by
 unfold plN;rw [Q2i _ (by simp)];unfold JR;rw [List.take_of_length_le (by simp)];exact Q1v hv hc
theorem Q0E {m L:Nat} (h0:1<=L) (h1:2^(L-1)<=m) (h2:m<2^L) (hm:m<2^64):Lib.bitLen m=L:=by
 have hp:=Nat.two_pow_pos (L-1);obtain⟨a0,a1,a2⟩:=JX hm (by omega);generalize Lib.bitLen m=K at *;rcases Nat.lt_trichotomy K L with h|h|h
 . have:2^K<=2^(L-1):=Nat.pow_le_pow_right (by decide) (by omega)
   omega
 . exact h
 have:2^L<=2^(K-1):=Nat.pow_le_pow_right (by decide) (by omega);omega
theorem Q5x {p:Nat} {N:List Int} (hv:Qc p N 256 9) {c j i k:Nat} (hc:c<N.length) (hi:(plN p N c)[j]?=some i) (hk:k<=p) (h1:2^(p-k)<=(plN p N c).length+j) (h2:(plN p N c).length+j<2^(p+1-k)) :
   i<2^p/\QL p N i=c/\Jd p N i=k/\Vo p N i=((plN p N c).length+j)*2^k-2^p:=by
 (have hp:p<=9:=by have:=hv.2.1;omega);have hl:=Q2j hv hc;unfold plN at hi h1 h2 hl ⊢;obtain⟨g1,g2,g3⟩:=Q4s _ (by simp) j i hi;(have hs:Zn (Q7 p N) i=c:=by unfold Zn;rw [g2];rfl)
 have hnum:ZX N (Q7 p N) i=(((Ju (Q7 p N) (c:Int) (2^p)).length+j:Nat):Int):=by
   unfold ZX;rw [hs,Int.toNat_natCast,List.getElem?_eq_getElem hc,g3];simp only [Option.getD_some];have h5:=hv.2.2.2.2.2.2.1 _ (List.getElem_mem hc);(have ha:max N[c] (-N[c])=QO N[c]:=by unfold QO;split<;>omega);rw [ha];omega
 generalize (Ju (Q7 p N) (c:Int) (2^p)).length=n at *
 have hb:Jp p N (Q7 p N) i=(k:Nat):=by
   unfold Jp;rw [hnum,Int.toNat_natCast];have h64:n+j<2^64:=Nat.lt_of_lt_of_le h2 (Nat.pow_le_pow_right (by decide) (by omega));rw [Q0E (L:=p+1-k) (by omega) (by rw [show p+1-k-1=p-k by omega];exact h1) h2 h64];omega
 refine⟨g1,by unfold QL;rw [hs];simp,by unfold Jd;rw [hb];simp,?_⟩;unfold Vo Zj;rw [hnum,hb,Int.toNat_natCast];(have e1:(((n+j:Nat):Int)*2^k)=(((n+j)*2^k:Nat):Int):=by simp);(have e2:((2:Int)^p)=((2^p:Nat):Int):=by simp);rw [e1,e2];omega
def Vq (x n:Nat):Nat->Nat->Nat
  | 0,k=>k
  | f+1,k=>if 2*n<=x / 2^k then Vq x n f (k+1)else k
def Q3o (x n:Nat):Nat:=Vq x n 11 0
theorem Q2k {x n:Nat} (hn:1<=n) (hx:x<2^11):∀(f k:Nat),11<=f+k->n<=x / 2^k->n<=x / 2^Vq x n f k/\x / 2^Vq x n f k<2*n
 | 0,k,hf,h=>by
   simp only [Vq]
   have:2^11<=2^k:=Nat.pow_le_pow_right (by decide) (by omega)
   have:x / 2^k=0:=Nat.div_eq_of_lt (by omega)
   omega
 | f+1,k,hf,h=>by
   simp only [Vq]
   split
   . next h2 =>
     refine Q2k hn hx f (k+1) (by omega) ?_
     rw [Nat.pow_succ,<-Nat.div_div_eq_div_mul]
     omega
   next h2=>exact⟨h,by omega⟩
theorem Q6P {x n:Nat} (hn:1<=n) (hx:x<2^11) (h:n<=x):n<=x / 2^Q3o x n/\x / 2^Q3o x n<2*n:=Q2k hn hx 11 0 (by omega) (by simpa using h)
def Qs (p:Nat) (N:List Int) (c st:Nat):Nat:=Q3o (st+2^p) (plN p N c).length
def Qq (p:Nat) (N:List Int) (c st:Nat):Nat:=((plN p N c)[(st+2^p) / 2^Qs p N c st-(plN p N c).length]?).getD 0
def QG (p:Nat) (N:List Int) (c st:Nat):Nat:=(st+2^p)%2^Qs p N c st
def Zi (p:Nat) (N:List Int) (c:Nat):Nat:=((plN p N c)[0]?).getD 0
theorem X0 {p:Nat} {N:List Int} (hv:Qc p N 256 9) {c:Nat} (hc:c<N.length) (hn:1<=(plN p N c).length):Zi p N c<2^p/\QL p N (Zi p N c)=c:=by
 unfold Zi;rw [List.getElem?_eq_getElem (by omega),Option.getD_some];have hi:=List.getElem?_eq_getElem (l:=plN p N c) (i:=0) (by omega);obtain⟨g1,g2,g3⟩:=Q4s (P:=Q7 p N) (c:=(c:Int)) (2^p) (by simp) 0 _ hi;refine⟨g1,?_⟩;unfold QL Zn;rw [g2];simp
theorem J8 {p:Nat} {N:List Int} (hv:Qc p N 256 9) {c st:Nat} (hc:c<N.length) (hn:1<=(plN p N c).length) (hs:st<2^p) :
   Qq p N c st<2^p/\QL p N (Qq p N c st)=c/\Jd p N (Qq p N c st)=Qs p N c st/\Vo p N (Qq p N c st)+QG p N c st=st/\QG p N c st<2^Qs p N c st/\Qs p N c st<=p /\
     (st+2^p) / 2^Qs p N c st-(plN p N c).length<(plN p N c).length/\(plN p N c).length<=(st+2^p) / 2^Qs p N c st:=by
 (have hp:p<=9:=by have:=hv.2.1;omega);have hpp:2^p<=2^9:=Nat.pow_le_pow_right (by decide) hp;have hle:(plN p N c).length<=2^p:=Q1N _ _ _;obtain⟨x,hx⟩:=nm_ (st+2^p);(have hx2:x<2^(p+1):=by rw [Nat.pow_succ];omega);obtain⟨q1,q2⟩:=Q6P (x:=x) (n:=(plN p N c).length) hn (by omega) (by omega);unfold Qq QG;(have hK:Qs p N c st=Q3o x (plN p N c).length:=by unfold Qs;rw [hx]);rw [hK,<-hx];generalize Q3o x (plN p N c).length=k at *
 have hk:k<=p:=by
   rcases Nat.lt_or_ge p k with h|h
   . have:2^(p+1)<=2^k:=Nat.pow_le_pow_right (by decide) h
     have:x / 2^k=0:=Nat.div_eq_of_lt (by omega);omega
   exact h
 have hpk:=Nat.two_pow_pos k;(have e1:2^(p-k)*2^k=2^p:=by rw [<-Nat.pow_add];congr 1;omega);(have e2:2^(p+1-k)*2^k=2^(p+1):=by rw [<-Nat.pow_add];congr 1;omega);(have d1:2^(p-k)<=x / 2^k:=by rw [Nat.le_div_iff_mul_le hpk,e1];omega);(have d2:x / 2^k<2^(p+1-k):=by rw [Nat.div_lt_iff_lt_mul hpk,e2];exact hx2);have hdm:=Nat.div_add_mod x (2^k);have hml:=Nat.mod_lt x hpk;obtain⟨j,hj⟩:∃j,x / 2^k=(plN p N c).length+j:=⟨x / 2^k-(plN p N c).length,by omega⟩;rw [hj]at q1 q2 d1 d2 hdm ⊢;(have hjl:j<(plN p N c).length:=by omega);(have e3:(plN p N c).length+j-(plN p N c).length=j:=by omega);rw [e3,List.getElem?_eq_getElem hjl,Option.getD_some];obtain⟨r1,r2,r3,r4⟩:=Q5x hv hc (List.getElem?_eq_getElem hjl) hk d1 d2;refine⟨r1,r2,r3,?_,hml,hk,hjl,q1⟩;rw [r4];rw [Nat.mul_comm]at hdm;have hge:=Nat.mul_le_mul_right (2^k) d1;rw [e1]at hge;omega
def Qb.cL (x:Qb):Nat:=JC x.lit
def Qb.cO (x:Qb):Nat:=Z6 x.val
def Qb.cM (x:Qb):Nat:=JC (x.len-3)
def Qb.rL (x:Qb):Nat:=x.lit-YD x.cL
def Qb.rO (x:Qb):Nat:=x.val-2^x.cO
def Qb.rM (x:Qb):Nat:=(x.len-3)-YD x.cM
def Qb.ok (x:Qb):Prop:=x.lit<2^18/\3<=x.len/\x.len<2^18+3/\1<=x.val/\x.val<2^28
def Xt (x:Qb):List Bool:=Qf (Y4 x.cL) x.rL++Qf (Y4 x.cM) x.rM++Qf x.cO x.rO
def YZ (p:Nat) (N:List Int) (c st:Nat):List Bool:=Qf (Qs p N c st) (QG p N c st)
def wrB (T:QJ):List Qb->Sts × List Bool
  | []=>(⟨0,0,0⟩,[])
  | [x]=>(⟨Zi T.pL T.NL x.cL,Zi T.pO T.NO x.cO,Zi T.pM T.NM x.cM⟩,Xt x)
  | x::y::l =>
    let r:=wrB T (y::l)
    (⟨Qq T.pL T.NL x.cL r.1.l,Qq T.pO T.NO x.cO r.1.o,Qq T.pM T.NM x.cM r.1.m⟩,
      r.2++(YZ T.pO T.NO x.cO r.1.o++YZ T.pM T.NM x.cM r.1.m++YZ T.pL T.NL x.cL r.1.l)++Xt x)
def wrE (T:QJ) (l:List Qb):List Bool:=(wrB T l).2++(Qf T.pM (wrB T l).1.m++Qf T.pO (wrB T l).1.o++Qf T.pL (wrB T l).1.l)
def Cov (T:QJ) (x:Qb):Prop:=(x.cL<T.NL.length/\1<=(plN T.pL T.NL x.cL).length)/\(x.cO<T.NO.length/\1<=(plN T.pO T.NO x.cO).length)/\(x.cM<T.NM.length/\1<=(plN T.pM T.NM x.cM).length)
def Str (V t:Nat) (L:List Bool):Prop:=L.length=t/\V%2^t=QU L
theorem JM {V t n x:Nat} {A:List Bool} (h:Str V t (A++Qf n x)) (hx:x<2^n):QF V (t,0) n=(x,A.length,0)/\Str V A.length A:=by
 obtain⟨h1,h2⟩:=h;rw [List.length_append,YK]at h1;rw [Jg,YU,Nat.mod_eq_of_lt hx]at h2;have hA:=JQ A;(have e1:t-n=A.length:=by omega)
 have e2:V / 2^A.length%2^n=x:=by
   have h3:V%2^t / 2^A.length=V / 2^A.length%2^n:=by
     rw [<-h1,Nat.pow_add,Nat.mod_mul_right_div_self]
   rw [<-h3,h2,Nat.add_mul_div_left _ _ (Nat.two_pow_pos _),Nat.div_eq_of_lt hA,Nat.zero_add]
 have e3:V%2^A.length=QU A:=by
   have h3:V%2^t%2^A.length=V%2^A.length:=Nat.mod_mod_of_dvd _ (Nat.pow_dvd_pow 2 (by omega));rw [<-h3,h2,Nat.add_mul_mod_self_left,Nat.mod_eq_of_lt hA]
 refine⟨?_,rfl,e3⟩;unfold QF;rw [if_neg (by simp),if_pos (by simp;omega)];simp only [e1,e2]
theorem QD {x:Qb} (h:x.ok):x.cL<44/\x.cM<44/\x.cO<28/\x.rL<2^Y4 x.cL/\x.rM<2^Y4 x.cM/\x.rO<2^x.cO /\
   YD x.cL+x.rL=x.lit/\YD x.cM+x.rM+3=x.len/\2^x.cO+x.rO=x.val:=by
 obtain⟨h1,h2,h3,h4,h5⟩:=h;obtain⟨a1,a2,a3⟩:=Q1d h1;obtain⟨b1,b2,b3⟩:=Q1d (v:=x.len-3) (by omega);obtain⟨c1,c2,c3⟩:=Q3m h4 h5;unfold Qb.rL Qb.rM Qb.rO Qb.cL Qb.cM Qb.cO;refine⟨a1,b1,c1,a3,b3,c3,by omega,by omega,by omega⟩
def Q5y (T:QJ) (S:Sts) (x:Qb):Prop:=S.ok T/\QL T.pL T.NL S.l=x.cL/\QL T.pO T.NO S.o=x.cO/\QL T.pM T.NM S.m=x.cM
theorem Q3p {V t:Nat} {T:QJ} {S:Sts} {x:Qb} {A:List Bool} (hx:x.ok) (hS:Q5y T S x) (h:Str V t (A++Xt x)) :
   JY V T S (t,0)=(x,A.length,0)/\Str V A.length A:=by
 obtain⟨_,e1,e2,e3⟩:=hS;obtain⟨_,_,_,r1,r2,r3,v1,v2,v3⟩:=QD hx;unfold Xt at h;rw [<-List.append_assoc,<-List.append_assoc]at h;obtain⟨t1,s1⟩:=JM h r3;obtain⟨t2,s2⟩:=JM s1 r2;obtain⟨t3,s3⟩:=JM s2 r1;unfold JY Je exB loB;simp only [e1,e2,e3,if_true,Bool.false_eq_true,if_false];simp only [t1,t2,t3,v1,v2,v3];exact⟨trivial,s3⟩
theorem Q6Q {V t:Nat} {T:QJ} {S:Sts} {x:Qb} {A:List Bool} (hT:T.ok) (hS:S.ok T) (hc:Cov T x)
   (h:Str V t (A++(YZ T.pO T.NO x.cO S.o++YZ T.pM T.NM x.cM S.m++YZ T.pL T.NL x.cL S.l))) :
   Q5y T ⟨Qq T.pL T.NL x.cL S.l,Qq T.pO T.NO x.cO S.o,Qq T.pM T.NM x.cM S.m⟩ x /\
   Z7 V T ⟨Qq T.pL T.NL x.cL S.l,Qq T.pO T.NO x.cO S.o,Qq T.pM T.NM x.cM S.m⟩ (t,0)=(S,A.length,0)/\Str V A.length A:=by
 obtain⟨h1,h2,h3⟩:=hT.wide;obtain⟨⟨c1,n1⟩,⟨c2,n2⟩,c3,n3⟩:=hc;obtain⟨a1,a2,a3,a4,a5,_⟩:=J8 h1 c1 n1 hS.1;obtain⟨b1,b2,b3,b4,b5,_⟩:=J8 h2 c2 n2 hS.2.1;obtain⟨d1,d2,d3,d4,d5,_⟩:=J8 h3 c3 n3 hS.2.2;unfold YZ at h;rw [<-List.append_assoc,<-List.append_assoc]at h;obtain⟨t1,s1⟩:=JM h a5;obtain⟨t2,s2⟩:=JM s1 d5;obtain⟨t3,s3⟩:=JM s2 b5;refine⟨⟨⟨a1,b1,d1⟩,a2,b2,d2⟩,?_,s3⟩;unfold Z7 onE;simp only [a3,b3,d3,t1,t2,t3,a4,b4,d4]
theorem Vy {T:QJ} (hT:T.ok):∀(l:List Qb) (x:Qb),(∀y∈x::l,y.ok/\Cov T y)->Q5y T (wrB T (x::l)).1 x:=by
 intro l
 induction l with
 | nil =>
   intro x h;obtain⟨h1,h2,h3⟩:=hT.wide;obtain⟨_,⟨c1,n1⟩,⟨c2,n2⟩,c3,n3⟩:=h x (by simp);obtain⟨a1,a2⟩:=X0 h1 c1 n1;obtain⟨b1,b2⟩:=X0 h2 c2 n2;obtain⟨d1,d2⟩:=X0 h3 c3 n3;exact⟨⟨a1,b1,d1⟩,a2,b2,d2⟩
 | cons y l ih =>
   intro x h;obtain⟨h1,h2,h3⟩:=hT.wide;have hy:=ih y fun z hz=>h z (List.mem_cons_of_mem _ hz);obtain⟨_,⟨c1,n1⟩,⟨c2,n2⟩,c3,n3⟩:=h x (by simp);obtain⟨a1,a2,_⟩:=J8 h1 c1 n1 hy.1.1;obtain⟨b1,b2,_⟩:=J8 h2 c2 n2 hy.1.2.1;obtain⟨d1,d2,_⟩:=J8 h3 c3 n3 hy.1.2.2;exact⟨⟨a1,b1,d1⟩,a2,b2,d2⟩
theorem Q6R {V:Nat} {T:QJ} (hT:T.ok):∀(l:List Qb) (x:Qb) (t:Nat),(∀y∈x::l,y.ok/\Cov T y)->Str V t (wrB T (x::l)).2 ->
   YN V T (l.length+1) (wrB T (x::l)).1 (t,0)=(x::l,0,0):=by
 intro l
 induction l with
 | nil =>
   intro x t h hs;have hst:=Vy hT [] x h;obtain⟨o1,_⟩:=Q3p (A:=[]) (h x (by simp)).1 hst (by simpa [wrB]using hs);show YN V T 1 (wrB T [x]).1 (t,0)=_;rw [V5 V T _ _ rfl,o1];rfl
 | cons y l ih =>
   intro x t h hs;have hst:=Vy hT (y::l) x h;have hy:=Vy hT l y fun z hz=>h z (List.mem_cons_of_mem _ hz);simp only [wrB]at hs hst ⊢;obtain⟨o1,o2⟩:=Q3p (h x (by simp)).1 hst hs;obtain⟨m1,m2,m3⟩:=Q6Q hT hy.1 (h x (by simp)).2 o2;rw [List.length_cons,V7 V T _ _ _ rfl (by omega),o1];simp only [m2];rw [ih y _ (fun z hz=>h z (List.mem_cons_of_mem _ hz)) m3]
theorem Q8l {V:Nat} {T:QJ} (hT:T.ok) {l:List Qb} (hl:l≠[]) (h:∀y∈l,y.ok/\Cov T y) (hs:Str V (wrE T l).length (wrE T l)):ZT V T l.length (wrE T l).length=(l,0,0):=by
 cases l with
 | nil=>exact absurd rfl hl
 | cons x l =>
   obtain⟨⟨s1,s2,s3⟩,_⟩:=Vy hT l x h;have hs':Str V (wrE T (x::l)).length (wrE T (x::l)):=hs;generalize (wrE T (x::l)).length=t at *;unfold wrE at hs';rw [<-List.append_assoc,<-List.append_assoc]at hs';obtain⟨t1,u1⟩:=JM hs' s1;obtain⟨t2,u2⟩:=JM u1 s2;obtain⟨t3,u3⟩:=JM u2 s3
   have hst:Vp V T (t,0)=((wrB T (x::l)).1,(wrB T (x::l)).2.length,0):=by
     unfold Vp;simp only [t1,t2,t3]
   unfold ZT;rw [hst];simp only;rw [List.length_cons,Q6R hT l x _ h u3];simp
theorem Q9Z:∀(n:Nat) (L:List Bool),L.length<=n->∃bs r,L=Qi bs++r/\r.length<8/\∀b∈bs,b<256:=by
 intro n
 induction n with
 | zero =>
   intro L h;exact⟨[],L,rfl,by omega,fun b hb=>by cases hb⟩
 | succ n ih =>
   intro L h;by_cases h8:L.length<8
   . exact⟨[],L,rfl,h8,fun b hb=>by cases hb⟩
   obtain⟨bs,r,h1,h2,h3⟩:=ih (L.drop 8) (by rw [List.length_drop];omega);(have hl:(L.take 8).length=8:=by rw [List.length_take];omega);refine⟨QU (L.take 8)::bs,r,?_,h2,fun b hb=>?_⟩
   . have e:=JI (L.take 8)
     rw [hl]at e;rw [JJ,e,List.append_assoc,<-h1,List.take_append_drop]
   rcases List.mem_cons.1 hb with rfl|hb
   . have:=JQ (L.take 8)
     rw [hl]at this;exact this
   exact h3 b hb
theorem Q5z (L:List Bool):YC (QN (L++[true]))=L.length/\((QN (L++[true])).getLast?).getD 0≠0/\Str (Qu (QN (L++[true]))) L.length L:=by
 obtain⟨bs,r,rfl,hr,hb⟩:=Q9Z L.length L (Nat.le_refl _)
 have hv:QU (r++[true])=QU r+2^r.length:=by
   rw [Jg];simp [QU]
 have hlt:=JQ r;have hp:=Nat.two_pow_pos r.length;have h8:2^r.length<=2^7:=Nat.pow_le_pow_right (by decide) (by omega)
 have e:QN (Qi bs++r++[true])=bs++[QU r+2^r.length]:=by
   rw [List.append_assoc,Kh _ _ hb,VC (r++[true]) (by simp) (by simp;omega),hv]
 rw [e];(have hgl:(bs++[QU r+2^r.length]).getLast?=some (QU r+2^r.length):=by simp);have hbl:Lib.bitLen (QU r+2^r.length)=r.length+1:=Q0E (by omega) (by simp) (by rw [Nat.pow_succ];omega) (by omega);refine⟨?_,?_,rfl,?_⟩
 . unfold YC
   rw [hgl,Option.getD_some,hbl];simp;omega
 . rw [hgl,Option.getD_some]
   omega
 unfold Qu;(have e2:QU (Qf 8 (QU r+2^r.length))=QU r+2^r.length:=by rw [YU,Nat.mod_eq_of_lt (by omega)]);have e3:(Qi bs++r).length=(Qi bs).length+r.length:=List.length_append;rw [KD,Jg,JJ,Q0S,List.append_nil,e2,Jg,e3,Nat.pow_add,Nat.mul_add,<-Nat.add_assoc];have h1:=JQ (Qi bs++r);rw [Jg,e3,Nat.pow_add]at h1;rw [Nat.add_mod_right,Nat.mod_eq_of_lt h1]
def okS (s:Int × Int × Int):Prop:=0<=s.1/\s.1<=262143/\3<=s.2.1/\s.2.1<=262146/\1<=s.2.2/\s.2.2<=134217728
instance (s:Int × Int × Int):Decidable (okS s):=by unfold okS;infer_instance
def Q03 (a b c:Int) (s:Int × Int × Int):Qb:=⟨s.1.toNat,s.2.1.toNat,(YL a b c s.1 s.2.2).toNat⟩
def JE (a b c:Int) (s:Int × Int × Int):Int × Int × Int:=QT a b c s.1 (YL a b c s.1 s.2.2)
def Qr (a b c:Int):List (Int × Int × Int)->List Qb
  | []=>[]
  | s::l=>Q03 a b c s::Qr (JE a b c s).1 (JE a b c s).2.1 (JE a b c s).2.2 l
def JF (a b c:Int):List (Int × Int × Int)->Int × Int × Int
  | []=>(a,b,c)
  | s::l=>JF (JE a b c s).1 (JE a b c s).2.1 (JE a b c s).2.2 l
@[simp] theorem Q44:∀(a b c:Int) (l:List (Int × Int × Int)),(Qr a b c l).length=l.length
  | _,_,_,[]=>rfl
  | a,b,c,s::l=>by simp [Qr,Q44]
theorem Q4t {a b c:Int} {s:Int × Int × Int} (hr:Qz a b c=true) (hs:okS s):Qz (JE a b c s).1 (JE a b c s).2.1 (JE a b c s).2.2=true:=by
 obtain⟨⟨a1,a2⟩,⟨b1,b2⟩,c1,c2⟩:=Z0.1 hr;obtain⟨s1,s2,s3,s4,s5,s6⟩:=hs;have ho:=Q19 (a:=a) (b:=b) (c:=c) (lit:=s.1) s5;refine Z0.2 ?_;unfold JE QT;rw [ho];simp only;(refine⟨⟨s5,s6⟩,?_,?_⟩<;>split<;>omega)
theorem Q4u:∀ {l:List (Int × Int × Int)} {a b c:Int},Qz a b c=true->(∀s∈l,okS s)->Qz (JF a b c l).1 (JF a b c l).2.1 (JF a b c l).2.2=true
 | [],_,_,_,h,_=>h
 | s::l,a,b,c,h,hs=>by
   have:=Q4u (l:=l) (Q4t h (hs s (by simp))) fun x hx=>hs x (List.mem_cons_of_mem _ hx)
   exact this
theorem Q4v {a b c:Int} {s:Int × Int × Int} (hs:okS s):(Q03 a b c s).ok:=by
 obtain⟨s1,s2,s3,s4,s5,s6⟩:=hs;have:=V0 (a:=a) (b:=b) (c:=c) (lit:=s.1) ⟨s5,s6⟩;unfold Q03 Qb.ok;simp only;omega
theorem X1:∀ {l:List (Int × Int × Int)} {a b c:Int},(∀s∈l,okS s)->∀x∈Qr a b c l,x.ok
 | [],_,_,_,_,x,hx=>by simp [Qr]at hx
 | s::l,a,b,c,h,x,hx=>by
   rw [Qr]at hx
   rcases List.mem_cons.1 hx with rfl|hx
   . exact Q4v (h s (by simp))
   exact X1 (fun x hx=>h x (List.mem_cons_of_mem _ hx)) x hx
theorem Q2l:∀ {l:List (Int × Int × Int)} {a b c:Int},(∀s∈l,okS s)->YS a b c (Qr a b c l)=(0,l,JF a b c l)
 | [],_,_,_,_=>rfl
 | s::l,a,b,c,h=>by
   have hs:=h s (by simp)
   have ih:=Q2l (l:=l) (a:=(JE a b c s).1) (b:=(JE a b c s).2.1) (c:=(JE a b c s).2.2) fun x hx=>h x (List.mem_cons_of_mem _ hx)
   obtain⟨s1,s2,s3,s4,s5,s6⟩:=hs
   have hv:=V0 (a:=a) (b:=b) (c:=c) (lit:=s.1) ⟨s5,s6⟩
   have ho:=Q19 (a:=a) (b:=b) (c:=c) (lit:=s.1) s5
   have e1:((s.1.toNat:Nat):Int)=s.1:=by omega
   have e2:((s.2.1.toNat:Nat):Int)=s.2.1:=by omega
   have e3:(((YL a b c s.1 s.2.2).toNat:Nat):Int)=YL a b c s.1 s.2.2:=by omega
   simp only [Qr,JF,YS]
   unfold Q03
   simp only [e1,e2,e3,ho]
   rw [if_pos (show ZI s.2.2 from⟨s5,s6⟩)]
   have e4:QT a b c s.1 (YL a b c s.1 s.2.2)=JE a b c s:=rfl
   rw [e4,ih]
   simp
def Jk (w:World) (F:Nat->Prop) (g k:Nat) (bs:List Nat) (s:Nat × Int):Prop :=
  Blk w g 119 #[.pointer (some ⟨k,0,none⟩),.int .i64 s.2]/\Jh w F k bs s.1
theorem Jk.upd {w w':World} {F S:Nat->Prop} {g k:Nat} {bs:List Nat} {s:Nat × Int} (h:Jk w F g k bs s) (hu:Upd S w w') (hg:¬S g) (hk:¬S k) (hF:∀b,F b->¬S b):Jk w' F g k bs s :=
 ⟨h.1.upd hu hg,h.2.upd hu hk hF⟩
theorem Jk.fresh {w w':World} {F:Nat->Prop} {g k:Nat} {bs:List Nat} {s:Nat × Int} (h:Jk w F g k bs s) (hu:Q0 w w'):Jk w' F g k bs s:=h.upd hu (fun h=>h) (fun h=>h) (fun _ _ h=>h)
theorem Q3q (w:World) (H:Nat) (u v x:Value):Upd (fun b=>b=H) w (((w.setCell ⟨H,0,none⟩ u).setCell ⟨H,1,none⟩ v).setCell ⟨H,2,none⟩ x) :=
 (((Upd.refl (fun b=>b=H) w).setCell (p:=⟨H,0,none⟩) (fun _=>rfl) u).setCell (p:=⟨H,1,none⟩) (fun _=>rfl) v).setCell (p:=⟨H,2,none⟩) (fun _=>rfl) x
theorem Vz (F:Nat->Prop) (g k:Nat) (bs:List Nat) (s:Nat × Int) (n:Nat) (w:World) (h:Jk w F g k bs s) (hn:n<=64) (hgk:g≠k) (hFk:∀b,F b->b≠k) (hFg:∀b,F b->b≠g) :
   Calls Tryz.prog 93 #[.pointer (some ⟨g,0,none⟩),.int .i64 (n:Nat)] w fun e w'=>e = .returned (.int .u64 ((QF (Qu bs) s n).1:Nat))/\Upd (fun b=>b=g\/b=k) w w'/\Jk w' F g k bs (QF (Qu bs) s n).2:=by
 obtain⟨t,er⟩:=s;have hb:=h.1;have c0:=hb.cell 0;have c1:=hb.cell 1;have z1:=hb.frozen 1;simp at c0 c1;have HB:=hd_ hb;have HBW:=hd_ h.2;have HH:=hd_ h;clear hb;unfold QF;by_cases her:er=0
 . subst her
   simp only [ne_eq,not_true_eq_false,if_false];by_cases hnt:n<=t
   . rw [if_pos hnt]
     have HT:=hd_ (Q7j F k bs t n w h.2 hn hnt hFk);generalize Qu bs / 2^(t-n)%2^n=V at *;clear h;refine Q6 fun R hR=>?_;go_enter Tryz.func93,Tryz.ntmps93;go_wp2_with fail;refine HT.out.mono ?_;rintro e w1 ⟨rfl,u1,b1⟩;have hb1:=HB.out.upd u1 (by simpa using hgk);have c0':=hb1.cell 0;have c1':=hb1.cell 1;have z1':=hb1.frozen 1;simp at c0' c1';have HB1:=hd_ hb1;have U1:=hd_ u1;have BW1:=hd_ b1;clear hb1 u1 b1 c0 c1 z1;go_wp2_with fail;(try go_ret);have u2:Upd (fun b=>b=g) w1 (w1.setCell ⟨g,1,none⟩ (.int .i64 0)):=(Upd.refl (fun b=>b=g) w1).setCell (p:=⟨g,1,none⟩) (fun _=>rfl) _;refine hR.out _ _ ⟨rfl,(U1.out.mono fun _ _ h=>.inr h).trans u2 (fun b _ hb=>.inl hb),?_,BW1.out.upd u2 (Ne.symm hgk) (fun b hb=>hFg b hb)⟩;have:=HB1.out.set_ 1 (.int .i64 0);simpa using this
   rw [if_neg hnt];have HT:=hd_ (Q3M F k bs t n w h.2 hn (by omega));clear h;refine Q6 fun R hR=>?_;go_enter Tryz.func93,Tryz.ntmps93;go_wp2_with fail;refine HT.out.mono ?_;rintro e w1 ⟨rfl,u1⟩;have hb1:=HB.out.fresh u1;have c0':=hb1.cell 0;have c1':=hb1.cell 1;have z1':=hb1.frozen 1;simp at c0' c1';have HB1:=hd_ hb1;have U1:=hd_ u1;clear hb1 u1 c0 c1 z1;go_wp2_with fail;(try go_ret);have u2:Upd (fun b=>b=g) w1 (w1.setCell ⟨g,1,none⟩ (.int .i64 14)):=(Upd.refl (fun b=>b=g) w1).setCell (p:=⟨g,1,none⟩) (fun _=>rfl) _;refine hR.out _ _ ⟨rfl,(U1.out.mono fun _ _ h=>h.elim).trans u2 (fun b _ hb=>.inl hb),?_,(HBW.out.fresh U1.out).upd u2 (Ne.symm hgk) (fun b hb=>hFg b hb)⟩;have:=HB1.out.set_ 1 (.int .i64 14);simpa using this
 rw [if_pos her];(have hne:(er == 0)=false:=by simpa using her);clear h;refine Q6 fun R hR=>?_;go_enter Tryz.func93,Tryz.ntmps93;go_wp2_with fail;(try go_ret);exact hR.out _ _ ⟨rfl,Upd.refl _ _,HH.out⟩
def Qal:List Value:=[.func (.func 112) #[] #[],.func (.func 113) #[] #[],.func (.func 114) #[] #[]]
def Qam:List Value:=[.func (.func 115) #[] #[],.func (.func 116) #[] #[],.func (.func 117) #[] #[]]
theorem Q04 (w:World):Calls Tryz.prog 72 #[] w fun e w'=>e = .returned (.agg #[.func (.func 112) #[] #[],.func (.func 113) #[] #[],.func (.func 114) #[] #[],.func (.func 115) #[] #[],.func (.func 116) #[] #[],.func (.func 117) #[] #[],.func (.func 112) #[] #[],.func (.func 113) #[] #[],.func (.func 114) #[] #[]])/\Q0 w w':=by
 refine Q6 fun R hR=>?_;go_enter Tryz.func72,Tryz.ntmps72;go_wp2_with fail;refine bodyPost_ret (v:=.agg #[.func (.func 112) #[] #[],.func (.func 113) #[] #[],.func (.func 114) #[] #[],.func (.func 115) #[] #[],.func (.func 116) #[] #[],.func (.func 117) #[] #[],.func (.func 112) #[] #[],.func (.func 113) #[] #[],.func (.func 114) #[] #[]]) (results_cell_row rfl _ _ w.heap.size 149 _ _ _ rfl ((Blk.new w _ _).alloc _) Tryz.underlying149 rfl (by kernel_rfl)) rfl ?_;exact hR.out _ _ ⟨rfl,((Upd.refl _ _).alloc _).alloc _⟩
def CP (w:World) (G:Nat->Prop) (v:Value) (p:Nat) (N:List Int):Prop:=∃g,v = .pointer (some ⟨g,0,none⟩)/\Qv w G g p N
theorem CP.upd {S G:Nat->Prop} {w w':World} {v:Value} {p:Nat} {N:List Int} (h:CP w G v p N) (hu:Upd S w w') (hs:∀b,G b->b<w.heap.size->¬S b):CP w' G v p N:=by
 obtain⟨g,h1,h2⟩:=h;exact⟨g,h1,h2.upd hu hs⟩
theorem CP.fresh {G:Nat->Prop} {w w':World} {v:Value} {p:Nat} {N:List Int} (h:CP w G v p N) (hu:Q0 w w'):CP w' G v p N:=h.upd hu fun _ _ _ h=>h
theorem Q1w (F:Nat->Prop) (A B C:Option Addr) (n c m d k e:Nat) (T:QJ) (w:World) (hT:T.ok)
   (h1:Rd w F A n (Q2 T.NL)) (h2:Rd w F B m (Q2 T.NO)) (h3:Rd w F C k (Q2 T.NM)) (f1:Fit T.NL) (f2:Fit T.NO) (f3:Fit T.NM) (b1:(n:Int)<=1099511627776) (b2:(m:Int)<=1099511627776) (b3:(k:Int)<=1099511627776) :
   Calls Tryz.prog 47 #[.agg #[.int .i64 (T.pL:Nat),.slice A n c,.int .i64 (T.pO:Nat),.slice B m d,.int .i64 (T.pM:Nat),.slice C k e]] w fun e w'=>∃v0 v1 v2,
     e = .returned (.tuple #[.agg #[v0,.int .i64 0,v1,.int .i64 0,v2,.int .i64 0],.int .i64 0])/\CP w' (fun b=>w.heap.size<=b) v0 T.pL T.NL/\CP w' (fun b=>w.heap.size<=b) v1 T.pO T.NO/\CP w' (fun b=>w.heap.size<=b) v2 T.pM T.NM/\Q0 w w':=by
 obtain⟨w0,hw0⟩:=nm_ ((w.alloc (.cells #[.int .i64 (T.pL:Nat),.slice A n c,.int .i64 (T.pO:Nat),.slice B m d,.int .i64 (T.pM:Nat),.slice C k e] 69)).alloc (.cells #[.pointer none,.int .i64 0,.pointer none,.int .i64 0,.pointer none,.int .i64 0] 96));obtain⟨H,hH⟩:=nm_ (w.heap.size);(have f0:Q0 w w0:=by rw [hw0];exact((Upd.refl _ _).alloc _).alloc _);(have bt:Blk w0 H 69 #[.int .i64 (T.pL:Nat),.slice A n c,.int .i64 (T.pO:Nat),.slice B m d,.int .i64 (T.pM:Nat),.slice C k e]:=by rw [hw0];exact(Q1 hH _ _).alloc _);(have bo:Blk w0 (H+1) 96 #[.pointer none,.int .i64 0,.pointer none,.int .i64 0,.pointer none,.int .i64 0]:=by rw [hw0];exact Q1 (by simp [hH]) _ _);(have hs0:w0.heap.size=H+2:=by rw [hw0,hH];simp);obtain⟨hL,hO,hM⟩:=hT.wide
 have nw:∀(X:Option Addr) (x cx p:Nat) (N:List Int) W,Rd w F X x (Q2 N)->Fit N->(x:Int)<=1099511627776->Qc p N 256 9->Upd (fun b=>b=H+1) w0 W ->
     Calls Tryz.prog 76 #[.agg #[.int .i64 (p:Nat),.slice X x cx]] W fun e w'=>∃g,e = .returned (.tuple #[.pointer (some ⟨g,0,none⟩),.int .i64 0])/\Qv w' (fun b=>H+2<=b) g p N/\Q0 W w':=fun X x cx p N W hr hf hx hv hu=>by
   refine(Q9o _ X x cx p N W ((hr.both.fresh f0).upd hu (fun b _ hb e=>by have:=hb.2;omega)) hf hx hv).mono ?_;rintro e w' ⟨g,h1,h2,h3⟩;exact⟨g,h1,h2.f.mono fun b hb _=>by have:=hu.size;have:=hb.1;omega,h3⟩
 have N0:=hd_ (fun W u=>nw A n c _ _ W h1 f1 b1 hL u);have N1:=hd_ (fun W u=>nw B m d _ _ W h2 f2 b2 hO u);have N2:=hd_ (fun W u=>nw C k e _ _ W h3 f3 b3 hM u)
 have HBT:Hid (∀W,Upd (fun b=>b=H+1) w0 W->W.cell? ⟨H,0,none⟩=some (.int .i64 (T.pL:Nat))/\W.cell? ⟨H,1,none⟩=some (.slice A n c)/\W.cell? ⟨H,2,none⟩=some (.int .i64 (T.pO:Nat))/\W.cell? ⟨H,3,none⟩=some (.slice B m d)/\W.cell? ⟨H,4,none⟩=some (.int .i64 (T.pM:Nat))/\W.cell? ⟨H,5,none⟩=some (.slice C k e)):=fun W u=>by
   have b:=bt.upd u (by omega);exact b.cells6
 have HW:=hd_ hw0;have HH:=hd_ hH;have F0:=hd_ f0;have BO:=hd_ bo;have HS0:=hd_ hs0;clear hw0 hH f0 bt bo hs0 h1 h2 h3 f1 f2 f3 b1 b2 b3 hL hO hM nw hT;generalize T.pL=pL at *;generalize T.pO=pO at *;generalize T.pM=pM at *;generalize T.NL=NL at *;generalize T.NO=NO at *;generalize T.NM=NM at *;refine Q6 fun R hR=>?_;go_enter Tryz.func47,Tryz.ntmps47;go_upto_region 1 with fail;simp only [<-HH.out,<-HW.out];go_wp2_with fail
 go_loopg [5] 3 (fun f vi wr=>∃(i:Nat) (v0 v1 v2:Value),i+f=3/\vi = .int .i64 i/\Upd (fun b=>b=H+1) w0 wr/\Blk wr (H+1) 96 #[v0,.int .i64 0,v1,.int .i64 0,v2,.int .i64 0] /\
   (if 0<i then CP wr (fun b=>H+2<=b) v0 pL NL else v0 = .pointer none)/\(if 1<i then CP wr (fun b=>H+2<=b) v1 pO NO else v1 = .pointer none)/\(if 2<i then CP wr (fun b=>H+2<=b) v2 pM NM else v2 = .pointer none))
 case atStart=>exact⟨0,_,_,_,rfl,rfl,Upd.refl _ _,BO.out,rfl,rfl,rfl⟩
 case round =>
   obtain⟨i,v0,v1,v2,hf,rfl,hu,hb,p0,p1,p2⟩:=hrel;obtain⟨t0,t1,t2,t3,t4,t5⟩:=HBT.out _ hu;obtain⟨a0,a1,a2,a3,a4,a5⟩:=(hb).cells6;have HU:=hd_ hu;have HB:=hd_ hb;have P0:=hd_ p0;have P1:=hd_ p1;have P2:=hd_ p2;(have h4:i=0\/i=1\/i=2\/i=3:=by omega);clear hu hb p0 p1 p2;rcases h4 with rfl|rfl|rfl|rfl
   . obtain rfl:gk=3:=by omega
     clear hf;go_wp2_with fail;refine(N0.out _ HU.out).mono ?_;rintro e w1 ⟨g,rfl,cg,f1⟩;have hb1:=HB.out.fresh f1;have y0:=hb1.cell 0;have z0:=hb1.frozen 0;simp at y0;have u1:Upd (fun b=>b=H+1) w0 (w1.setCell ⟨H+1,0,none⟩ (.pointer (some ⟨g,0,none⟩))):=(HU.out.trans' (f1.mono (T:=fun b=>b=H+1) fun _ _ h=>h.elim)).setCell (p:=⟨H+1,0,none⟩) (fun _=>rfl) _;have u2:Upd (fun b=>b=H+1) w1 (w1.setCell ⟨H+1,0,none⟩ (.pointer (some ⟨g,0,none⟩))):=(Upd.refl (fun b=>b=H+1) w1).setCell (p:=⟨H+1,0,none⟩) (fun _=>rfl) _;(have hb2:Blk (w1.setCell ⟨H+1,0,none⟩ (.pointer (some ⟨g,0,none⟩))) (H+1) 96 #[.pointer (some ⟨g,0,none⟩),.int .i64 0,v1,.int .i64 0,v2,.int .i64 0]:=by simpa using hb1.set_ 0 (.pointer (some ⟨g,0,none⟩)));have cg2:CP (w1.setCell ⟨H+1,0,none⟩ (.pointer (some ⟨g,0,none⟩))) (fun b=>H+2<=b) (.pointer (some ⟨g,0,none⟩)) pL NL:=⟨g,rfl,cg.upd u2 (fun b hb _=>by omega)⟩;(have q1:v1 = .pointer none:=by simpa using P1.out);(have q2:v2 = .pointer none:=by simpa using P2.out)
     have HE:=hd_ (show ∃(i:Nat) (x0 x1 x2:Value),i+2=3/\(Value.int .i64 1:Value) = .int .i64 i/\Upd (fun b=>b=H+1) w0 (w1.setCell ⟨H+1,0,none⟩ (.pointer (some ⟨g,0,none⟩)))/\Blk (w1.setCell ⟨H+1,0,none⟩ (.pointer (some ⟨g,0,none⟩))) (H+1) 96 #[x0,.int .i64 0,x1,.int .i64 0,x2,.int .i64 0] /\
       (if 0<i then CP (w1.setCell ⟨H+1,0,none⟩ (.pointer (some ⟨g,0,none⟩))) (fun b=>H+2<=b) x0 pL NL else x0 = .pointer none)/\(if 1<i then CP (w1.setCell ⟨H+1,0,none⟩ (.pointer (some ⟨g,0,none⟩))) (fun b=>H+2<=b) x1 pO NO else x1 = .pointer none)/\(if 2<i then CP (w1.setCell ⟨H+1,0,none⟩ (.pointer (some ⟨g,0,none⟩))) (fun b=>H+2<=b) x2 pM NM else x2 = .pointer none)
       from⟨1,.pointer (some ⟨g,0,none⟩),v1,v2,rfl,rfl,u1,hb2,by simpa using cg2,by first|simpa using cg2|simpa using q1,by first|simpa using cg2|simpa using q2⟩)
     clear hb1 u1 u2 hb2 cg cg2 f1 q1 q2 a0 a1 a2 a3 a4 a5 t0 t1 t2 t3 t4 t5;go_wp2_with fail;go_roundg 2
     case measure=>omega
     case rel=>exact HE.out
   . obtain rfl:gk=2:=by omega
     clear hf;go_wp2_with fail;refine(N1.out _ HU.out).mono ?_;rintro e w1 ⟨g,rfl,cg,f1⟩;have hb1:=HB.out.fresh f1;have y0:=hb1.cell 2;have z0:=hb1.frozen 2;simp at y0;have u1:Upd (fun b=>b=H+1) w0 (w1.setCell ⟨H+1,2,none⟩ (.pointer (some ⟨g,0,none⟩))):=(HU.out.trans' (f1.mono (T:=fun b=>b=H+1) fun _ _ h=>h.elim)).setCell (p:=⟨H+1,2,none⟩) (fun _=>rfl) _;have u2:Upd (fun b=>b=H+1) w1 (w1.setCell ⟨H+1,2,none⟩ (.pointer (some ⟨g,0,none⟩))):=(Upd.refl (fun b=>b=H+1) w1).setCell (p:=⟨H+1,2,none⟩) (fun _=>rfl) _;(have hb2:Blk (w1.setCell ⟨H+1,2,none⟩ (.pointer (some ⟨g,0,none⟩))) (H+1) 96 #[v0,.int .i64 0,.pointer (some ⟨g,0,none⟩),.int .i64 0,v2,.int .i64 0]:=by simpa using hb1.set_ 2 (.pointer (some ⟨g,0,none⟩)));have cg2:CP (w1.setCell ⟨H+1,2,none⟩ (.pointer (some ⟨g,0,none⟩))) (fun b=>H+2<=b) (.pointer (some ⟨g,0,none⟩)) pO NO:=⟨g,rfl,cg.upd u2 (fun b hb _=>by omega)⟩;have q0:CP (w1.setCell ⟨H+1,2,none⟩ (.pointer (some ⟨g,0,none⟩))) (fun b=>H+2<=b) v0 pL NL:=((show CP wr (fun b=>H+2<=b) v0 pL NL by simpa using P0.out).fresh f1).upd u2 (fun b hb _=>by omega);(have q2:v2 = .pointer none:=by simpa using P2.out)
     have HE:=hd_ (show ∃(i:Nat) (x0 x1 x2:Value),i+1=3/\(Value.int .i64 2:Value) = .int .i64 i/\Upd (fun b=>b=H+1) w0 (w1.setCell ⟨H+1,2,none⟩ (.pointer (some ⟨g,0,none⟩)))/\Blk (w1.setCell ⟨H+1,2,none⟩ (.pointer (some ⟨g,0,none⟩))) (H+1) 96 #[x0,.int .i64 0,x1,.int .i64 0,x2,.int .i64 0] /\
       (if 0<i then CP (w1.setCell ⟨H+1,2,none⟩ (.pointer (some ⟨g,0,none⟩))) (fun b=>H+2<=b) x0 pL NL else x0 = .pointer none)/\(if 1<i then CP (w1.setCell ⟨H+1,2,none⟩ (.pointer (some ⟨g,0,none⟩))) (fun b=>H+2<=b) x1 pO NO else x1 = .pointer none)/\(if 2<i then CP (w1.setCell ⟨H+1,2,none⟩ (.pointer (some ⟨g,0,none⟩))) (fun b=>H+2<=b) x2 pM NM else x2 = .pointer none)
       from⟨2,v0,.pointer (some ⟨g,0,none⟩),v2,rfl,rfl,u1,hb2,by first|simpa using cg2|simpa using q0,by simpa using cg2,by first|simpa using cg2|simpa using q2⟩)
     clear hb1 u1 u2 hb2 cg cg2 f1 q0 q2 a0 a1 a2 a3 a4 a5 t0 t1 t2 t3 t4 t5;go_wp2_with fail;go_roundg 1
     case measure=>omega
     case rel=>exact HE.out
   . obtain rfl:gk=1:=by omega
     clear hf;go_wp2_with fail;refine(N2.out _ HU.out).mono ?_;rintro e w1 ⟨g,rfl,cg,f1⟩;have hb1:=HB.out.fresh f1;have y0:=hb1.cell 4;have z0:=hb1.frozen 4;simp at y0;have u1:Upd (fun b=>b=H+1) w0 (w1.setCell ⟨H+1,4,none⟩ (.pointer (some ⟨g,0,none⟩))):=(HU.out.trans' (f1.mono (T:=fun b=>b=H+1) fun _ _ h=>h.elim)).setCell (p:=⟨H+1,4,none⟩) (fun _=>rfl) _;have u2:Upd (fun b=>b=H+1) w1 (w1.setCell ⟨H+1,4,none⟩ (.pointer (some ⟨g,0,none⟩))):=(Upd.refl (fun b=>b=H+1) w1).setCell (p:=⟨H+1,4,none⟩) (fun _=>rfl) _;(have hb2:Blk (w1.setCell ⟨H+1,4,none⟩ (.pointer (some ⟨g,0,none⟩))) (H+1) 96 #[v0,.int .i64 0,v1,.int .i64 0,.pointer (some ⟨g,0,none⟩),.int .i64 0]:=by simpa using hb1.set_ 4 (.pointer (some ⟨g,0,none⟩)));have cg2:CP (w1.setCell ⟨H+1,4,none⟩ (.pointer (some ⟨g,0,none⟩))) (fun b=>H+2<=b) (.pointer (some ⟨g,0,none⟩)) pM NM:=⟨g,rfl,cg.upd u2 (fun b hb _=>by omega)⟩;have q0:CP (w1.setCell ⟨H+1,4,none⟩ (.pointer (some ⟨g,0,none⟩))) (fun b=>H+2<=b) v0 pL NL:=((show CP wr (fun b=>H+2<=b) v0 pL NL by simpa using P0.out).fresh f1).upd u2 (fun b hb _=>by omega);have q1:CP (w1.setCell ⟨H+1,4,none⟩ (.pointer (some ⟨g,0,none⟩))) (fun b=>H+2<=b) v1 pO NO:=((show CP wr (fun b=>H+2<=b) v1 pO NO by simpa using P1.out).fresh f1).upd u2 (fun b hb _=>by omega)
     have HE:=hd_ (show ∃(i:Nat) (x0 x1 x2:Value),i+0=3/\(Value.int .i64 3:Value) = .int .i64 i/\Upd (fun b=>b=H+1) w0 (w1.setCell ⟨H+1,4,none⟩ (.pointer (some ⟨g,0,none⟩)))/\Blk (w1.setCell ⟨H+1,4,none⟩ (.pointer (some ⟨g,0,none⟩))) (H+1) 96 #[x0,.int .i64 0,x1,.int .i64 0,x2,.int .i64 0] /\
       (if 0<i then CP (w1.setCell ⟨H+1,4,none⟩ (.pointer (some ⟨g,0,none⟩))) (fun b=>H+2<=b) x0 pL NL else x0 = .pointer none)/\(if 1<i then CP (w1.setCell ⟨H+1,4,none⟩ (.pointer (some ⟨g,0,none⟩))) (fun b=>H+2<=b) x1 pO NO else x1 = .pointer none)/\(if 2<i then CP (w1.setCell ⟨H+1,4,none⟩ (.pointer (some ⟨g,0,none⟩))) (fun b=>H+2<=b) x2 pM NM else x2 = .pointer none)
       from⟨3,v0,v1,.pointer (some ⟨g,0,none⟩),rfl,rfl,u1,hb2,by first|simpa using cg2|simpa using q0,by first|simpa using cg2|simpa using q1,by simpa using cg2⟩)
     clear hb1 u1 u2 hb2 cg cg2 f1 q0 q1 a0 a1 a2 a3 a4 a5 t0 t1 t2 t3 t4 t5;go_wp2_with fail;go_roundg 0
     case measure=>omega
     case rel=>exact HE.out
   (obtain rfl:gk=0:=by omega);clear hf;obtain⟨g0,rfl,c0⟩:=(show CP wr (fun b=>H+2<=b) v0 pL NL by simpa using P0.out);obtain⟨g1,rfl,c1⟩:=(show CP wr (fun b=>H+2<=b) v1 pO NO by simpa using P1.out);obtain⟨g2,rfl,c2⟩:=(show CP wr (fun b=>H+2<=b) v2 pM NM by simpa using P2.out);have z0:=HB.out.frozen 0;have z1:=HB.out.frozen 1;have z2:=HB.out.frozen 2;have z3:=HB.out.frozen 3;have z4:=HB.out.frozen 4;have z5:=HB.out.frozen 5;have C0:=hd_ c0;have C1:=hd_ c1;have C2:=hd_ c2;clear c0 c1 c2 t0 t1 t2 t3 t4 t5;go_wp2_with fail;have bF:=(((((HB.out.set_ 0 (.pointer (some ⟨g0,0,none⟩))).set_ 1 (.int .i64 0)).set_ 2 (.pointer (some ⟨g1,0,none⟩))).set_ 3 (.int .i64 0)).set_ 4 (.pointer (some ⟨g2,0,none⟩))).set_ 5 (.int .i64 0)
   have uF:Upd (fun b=>b=H+1) wr ((((((wr.setCell ⟨H+1,0,none⟩ (.pointer (some ⟨g0,0,none⟩))).setCell ⟨H+1,1,none⟩ (.int .i64 0)).setCell ⟨H+1,2,none⟩ (.pointer (some ⟨g1,0,none⟩))).setCell ⟨H+1,3,none⟩ (.int .i64 0)).setCell ⟨H+1,4,none⟩ (.pointer (some ⟨g2,0,none⟩))).setCell ⟨H+1,5,none⟩ (.int .i64 0)) :=
     ((((((Upd.refl (fun b=>b=H+1) wr).setCell (p:=⟨H+1,0,none⟩) (fun _=>rfl) _).setCell (p:=⟨H+1,1,none⟩) (fun _=>rfl) _).setCell (p:=⟨H+1,2,none⟩) (fun _=>rfl) _).setCell (p:=⟨H+1,3,none⟩) (fun _=>rfl) _).setCell (p:=⟨H+1,4,none⟩) (fun _=>rfl) _).setCell (p:=⟨H+1,5,none⟩) (fun _=>rfl) _
   refine bodyPost_ret (Q5 rfl _ _ (H+1) _ _ _ rfl bF Tryz.underlying96 rfl (by kernel_rfl)) rfl ?_;refine hR.out _ _ ⟨.pointer (some ⟨g0,0,none⟩),.pointer (some ⟨g1,0,none⟩),.pointer (some ⟨g2,0,none⟩),rfl,?_,?_,?_,?_⟩
   . exact⟨g0,rfl,(C0.out.upd uF (fun b hb _=>by omega)).mono fun b hb _=>by have:=HH.out;omega⟩
   . exact⟨g1,rfl,(C1.out.upd uF (fun b hb _=>by omega)).mono fun b hb _=>by have:=HH.out;omega⟩
   . exact⟨g2,rfl,(C2.out.upd uF (fun b hb _=>by omega)).mono fun b hb _=>by have:=HH.out;omega⟩
   exact(F0.out.trans HU.out (fun b hb h=>by have:=HH.out;omega)).trans uF (fun b hb h=>by have:=HH.out;omega)
theorem Ze {lg sy lb:Int} {N:List Int} (h:Qc lg N sy lb):Fit N:=by
 intro x hx;have h1:=Q2E hx;obtain⟨q1,q2,q3,k1,k2,k3,k4,q4⟩:=h;rw [q4]at h1
 have h2:(2:Int)^lg.toNat<=512:=by
   (have h3:(2:Int)^lg.toNat=((2^lg.toNat:Nat):Int):=by simp);have h4:2^lg.toNat<=2^9:=Nat.pow_le_pow_right (by decide) (by omega);omega
 unfold QO at h1;(split at h1<;>omega)
theorem ZQ {m p lg l2:Int} {N N2:List Int} {bs:List Nat} {at_ k:Nat} (hb:∀b∈bs,b<256) (h:YI m p lg N bs at_=(0,l2,N2,k)) :
   Qc l2 N2 (Qj p) (Ql p)/\(at_<=bs.length->at_+k<=bs.length):=by
 by_cases h1:p<0\/2<p\/m<0\/3<m
 . have:YI m p lg N bs at_=(2,0,[],0):=if_pos h1
   rw [this]at h;simp at h
 have hd:YI m p lg N bs at_=QR m p lg N bs at_:=if_neg h1;rw [hd]at h;(have hp:0<=p/\p<=2:=by omega);(have:m=0\/m=1\/m=2\/m=3:=by omega);rcases this with rfl|rfl|rfl|rfl
 . have e:QR 0 p lg N bs at_=(0,Yi p,Ya p,0):=rfl
   rw [e]at h;simp only [Prod.mk.injEq,true_and]at h;obtain⟨rfl,rfl,rfl⟩:=h;exact⟨Xk hp,fun h=>by omega⟩
 . have e:QR 1 p lg N bs at_=((Zu bs at_ (Qj p)).1,0,(Zu bs at_ (Qj p)).2.1,(Zu bs at_ (Qj p)).2.2):=rfl
   rw [e]at h;simp only [Prod.mk.injEq]at h;obtain⟨e1,rfl,rfl,rfl⟩:=h;unfold Zu at e1 ⊢;by_cases hb0:at_<bs.length
   . rw [if_pos hb0]at e1 ⊢
     by_cases hs:Qj p<=(bs[at_]?.getD 0:Nat)
     . rw [if_pos hs]at e1;simp at e1
     rw [if_neg hs];exact⟨Q5k (by omega) (by have:=Jw p;omega),fun _=>by simp;omega⟩
   rw [if_neg hb0]at e1;simp at e1
 . have e:QR 2 p lg N bs at_=Zg bs at_ (Qj p) (Ql p):=rfl
   rw [e]at h;unfold Zg at h;rcases hc:J7 (Qj p) (Ql p) (Qi (YQ bs at_))with e2|⟨q,M,j⟩
   . rw [hc]at h
     simp only [Prod.mk.injEq]at h;exact absurd h.1 (Q2D hc)
   rw [hc]at h;simp only [Prod.mk.injEq,true_and]at h;obtain⟨rfl,rfl,rfl⟩:=h;have hb2:∀b∈YQ bs at_,b<256:=fun b hx=>hb b (List.mem_of_mem_drop (List.mem_of_mem_take hx));obtain⟨d1,d2,d3,d4,d5,d6⟩:=Q5X hb2 hc;refine⟨⟨d1.1,d4,d1.2.2.1,d1.2.2.2.1,d3,d1.2.2.2.2.2⟩,fun h=>?_⟩;unfold YQ at d5;simp at d5;omega
 by_cases hv:Qc lg N (Qj p) (Ql p)
 . have e:QR 3 p lg N bs at_=(0,lg,N,0):=by simp [QR,hv]
   rw [e]at h;simp only [Prod.mk.injEq,true_and]at h;obtain⟨rfl,rfl,rfl⟩:=h;exact⟨hv,fun h=>by omega⟩
 (have e:QR 3 p lg N bs at_=(13,0,[],0):=by simp [QR,hv]);rw [e]at h;simp at h
def hd2 (bs:List Nat) (x at_:Nat) (T:Qa):Int × Qa × Nat :=
  let m:=YI ((x / 16%4:Nat):Int) 2 T.lM T.NM bs at_
  if m.1≠0 then(m.1,Qa.none,0)else(0,⟨T.lL,T.NL,T.lO,T.NO,m.2.1,m.2.2.1⟩,at_+m.2.2.2)
def hd1 (bs:List Nat) (x at_:Nat) (T:Qa):Int × Qa × Nat :=
  let o:=YI ((x / 4%4:Nat):Int) 1 T.lO T.NO bs at_
  if o.1≠0 then(o.1,Qa.none,0)else hd2 bs x (at_+o.2.2.2) ⟨T.lL,T.NL,o.2.1,o.2.2.1,T.lM,T.NM⟩
def hd0 (bs:List Nat) (x at_:Nat) (T:Qa):Int × Qa × Nat :=
  let l:=YI ((x%4:Nat):Int) 0 T.lL T.NL bs at_
  if l.1≠0 then(l.1,Qa.none,0)else hd1 bs x (at_+l.2.2.2) ⟨l.2.1,l.2.2.1,T.lO,T.NO,T.lM,T.NM⟩
def hdF (bs:List Nat) (x:Nat):Nat->Nat->Qa->Int × Qa × Nat
  | 0,at_,T=>hd0 bs x at_ T
  | 1,at_,T=>hd1 bs x at_ T
  | 2,at_,T=>hd2 bs x at_ T
  | _,at_,T=>(0,T,at_)
theorem Q9t {bs:List Nat} {x a k1:Nat} {T:Qa} {l1:Int} {N1:List Int} (h:YI ((x%4:Nat):Int) 0 T.lL T.NL bs a=(0,l1,N1,k1)):hdF bs x 1 (a+k1) ⟨l1,N1,T.lO,T.NO,T.lM,T.NM⟩=hdF bs x 0 a T:=by
 show _=hd0 bs x a T;unfold hd0;rw [h];rfl
theorem Q9u {bs:List Nat} {x a k1:Nat} {T:Qa} {x1 l1:Int} {N1:List Int} (h:YI ((x%4:Nat):Int) 0 T.lL T.NL bs a=(x1,l1,N1,k1)) (hx:x1≠0):hdF bs x 0 a T=(x1,Qa.none,0):=by
 show hd0 bs x a T=_;unfold hd0;rw [h];exact if_pos hx
theorem Q9v {bs:List Nat} {x a k1:Nat} {T:Qa} {l1:Int} {N1:List Int} (h:YI ((x / 4%4:Nat):Int) 1 T.lO T.NO bs a=(0,l1,N1,k1)):hdF bs x 2 (a+k1) ⟨T.lL,T.NL,l1,N1,T.lM,T.NM⟩=hdF bs x 1 a T:=by
 show _=hd1 bs x a T;unfold hd1;rw [h];rfl
theorem Q9w {bs:List Nat} {x a k1:Nat} {T:Qa} {x1 l1:Int} {N1:List Int} (h:YI ((x / 4%4:Nat):Int) 1 T.lO T.NO bs a=(x1,l1,N1,k1)) (hx:x1≠0):hdF bs x 1 a T=(x1,Qa.none,0):=by
 show hd1 bs x a T=_;unfold hd1;rw [h];exact if_pos hx
theorem Q9x {bs:List Nat} {x a k1:Nat} {T:Qa} {l1:Int} {N1:List Int} (h:YI ((x / 16%4:Nat):Int) 2 T.lM T.NM bs a=(0,l1,N1,k1)):hdF bs x 3 (a+k1) ⟨T.lL,T.NL,T.lO,T.NO,l1,N1⟩=hdF bs x 2 a T:=by
 show _=hd2 bs x a T;unfold hd2;rw [h];rfl
theorem Q9y {bs:List Nat} {x a k1:Nat} {T:Qa} {x1 l1:Int} {N1:List Int} (h:YI ((x / 16%4:Nat):Int) 2 T.lM T.NM bs a=(x1,l1,N1,k1)) (hx:x1≠0):hdF bs x 2 a T=(x1,Qa.none,0):=by
 show hd2 bs x a T=_;unfold hd2;rw [h];exact if_pos hx
theorem Q0F {bs:List Nat} {at_:Nat} {T:Qa} (h:¬at_<bs.length):QK bs at_ T=(3,Qa.none,0):=by
 unfold QK;rw [if_neg h]
theorem Q2m {bs:List Nat} {at_:Nat} {T:Qa} (h:at_<bs.length) (h2:64<=bs[at_]?.getD 0):QK bs at_ T=(13,Qa.none,0):=by
 unfold QK;rw [if_pos h];simp only;rw [if_pos h2]
theorem Q3r {bs:List Nat} {at_:Nat} {T:Qa} (h:at_<bs.length) (h2:¬64<=bs[at_]?.getD 0):QK bs at_ T=hdF bs (bs[at_]?.getD 0) 0 (at_+1) T:=by
 unfold QK;rw [if_pos h];simp only;rw [if_neg h2];rfl
def Qa.ok (T:Qa):Prop:=Qc T.lL T.NL 44 9/\Qc T.lO T.NO 28 8/\Qc T.lM T.NM 44 9
theorem Qa.ok.trks {T:Qa} (h:T.ok):T.trks.ok/\T.lL=(T.trks.pL:Nat)/\T.lO=(T.trks.pO:Nat)/\T.lM=(T.trks.pM:Nat):=by
 (have e1:T.lL=(T.lL.toNat:Nat):=by have:=h.1.1;omega);(have e2:T.lO=(T.lO.toNat:Nat):=by have:=h.2.1.1;omega);(have e3:T.lM=(T.lM.toNat:Nat):=by have:=h.2.2.1;omega);exact⟨⟨by have:=h.1;rw [e1]at this;exact this,by have:=h.2.1;rw [e2]at this;exact this,by have:=h.2.2;rw [e3]at this;exact this⟩,e1,e2,e3⟩
theorem Q8m {bs:List Nat} {at_:Nat} {T:Qa} (hb:∀b∈bs,b<256) (h:(QK bs at_ T).1=0):(QK bs at_ T).2.1.ok/\(QK bs at_ T).2.2<=bs.length:=by
 by_cases h1:at_<bs.length
 . by_cases h2:64<=bs[at_]?.getD 0
   . rw [Q2m h1 h2]at h;simp at h
   rw [Q3r h1 h2]at h ⊢;simp only [hdF,hd0]at h ⊢;generalize hl:YI ((bs[at_]?.getD 0%4:Nat):Int) 0 T.lL T.NL bs (at_+1)=L at h ⊢;obtain⟨xl,ll,Nl,kl⟩:=L;by_cases el:xl=0
   . subst el
     obtain⟨vl,al⟩:=ZQ hb hl;simp only [ne_eq,not_true_eq_false,if_false,hd1]at h ⊢;generalize ho:YI ((bs[at_]?.getD 0 / 4%4:Nat):Int) 1 T.lO T.NO bs (at_+1+kl)=L at h ⊢;obtain⟨xo,lo,No,ko⟩:=L;by_cases eo:xo=0
     . subst eo
       obtain⟨vo,ao⟩:=ZQ hb ho;simp only [ne_eq,not_true_eq_false,if_false,hd2]at h ⊢;generalize hm:YI ((bs[at_]?.getD 0 / 16%4:Nat):Int) 2 T.lM T.NM bs (at_+1+kl+ko)=L at h ⊢;obtain⟨xm,lm,Nm,km⟩:=L;by_cases em:xm=0
       . subst em
         obtain⟨vm,am⟩:=ZQ hb hm;simp only [ne_eq,not_true_eq_false,if_false]at h ⊢;exact⟨⟨vl,vo,vm⟩,am (ao (al (by omega)))⟩
       simp [em]at h
     simp [eo]at h
   simp [el]at h
 rw [Q0F h1]at h;simp at h
def Q3s (F:Nat->Prop) (g:Nat) (bs:List Nat) (at_:Nat) (T:Qa) (w:World) (e:Ending) (w':World):Prop :=
  Upd (fun b=>b=g) w w'/\(if(QK bs at_ T).1=0 then ∃A n c B m d C k e1,e = .returned (.tuple #[.agg #[.int .i64 (QK bs at_ T).2.1.lL,.slice A n c,.int .i64 (QK bs at_ T).2.1.lO,.slice B m d,.int .i64 (QK bs at_ T).2.1.lM,.slice C k e1],.int .i64 0]) /\
      Rd w' (fun b=>w.heap.size<=b) A n (Q2 (QK bs at_ T).2.1.NL)/\Rd w' (fun b=>w.heap.size<=b) B m (Q2 (QK bs at_ T).2.1.NO)/\Rd w' (fun b=>w.heap.size<=b) C k (Q2 (QK bs at_ T).2.1.NM)/\Qk w' F g bs (QK bs at_ T).2.2
    else e = .returned (.tuple #[.agg #[.int .i64 0,.slice none 0 0,.int .i64 0,.slice none 0 0,.int .i64 0,.slice none 0 0],.int .i64 (QK bs at_ T).1]))
theorem Q5A (x:Nat) (h:x<256):bits .and .u8 (x:Int) 3=((x%4:Nat):Int):=by
 (have:∀x:Fin 256,bits .and .u8 ((x.val:Nat):Int) 3=((x.val%4:Nat):Int):=by decide +kernel);exact this ⟨x,h⟩
theorem Q05 (w:World) (H:Nat) (v0 v1 v2 v3 v4 v5:Value):Upd (fun b=>b=H) w ((((((w.setCell ⟨H,0,none⟩ v0).setCell ⟨H,1,none⟩ v1).setCell ⟨H,2,none⟩ v2).setCell ⟨H,3,none⟩ v3).setCell ⟨H,4,none⟩ v4).setCell ⟨H,5,none⟩ v5) :=
 ((((((Upd.refl (fun b=>b=H) w).setCell (p:=⟨H,0,none⟩) (fun _=>rfl) _).setCell (p:=⟨H,1,none⟩) (fun _=>rfl) _).setCell (p:=⟨H,2,none⟩) (fun _=>rfl) _).setCell (p:=⟨H,3,none⟩) (fun _=>rfl) _).setCell (p:=⟨H,4,none⟩) (fun _=>rfl) _).setCell (p:=⟨H,5,none⟩) (fun _=>rfl) _
theorem Blk.set6 {w:World} {H:Nat} {t:TypeId} {a0 a1 a2 a3 a4 a5:Value} (h:Blk w H t #[a0,a1,a2,a3,a4,a5]) (v0 v1 v2 v3 v4 v5:Value) :
   Blk ((((((w.setCell ⟨H,0,none⟩ v0).setCell ⟨H,1,none⟩ v1).setCell ⟨H,2,none⟩ v2).setCell ⟨H,3,none⟩ v3).setCell ⟨H,4,none⟩ v4).setCell ⟨H,5,none⟩ v5) H t #[v0,v1,v2,v3,v4,v5]:=by
 have:=(((((h.set_ 0 v0).set_ 1 v1).set_ 2 v2).set_ 3 v3).set_ 4 v4).set_ 5 v5;simpa using this
theorem Q3t {P:Program} (x k:Nat) (y:Int) (W:World) (hk:k<8) (hy:(x:Int) / 2^k=y):(Op.shift .shr .u8 (x:Int) .i64 (k:Nat)).run P W = .ok (.int .u8 y) W:=by
 (have h1:¬((k:Nat):Int)<0:=by omega);(have h2:min ((k:Nat):Int).toNat IntKind.u8.bits=k:=by rw [Int.toNat_natCast];show min k 8=k;omega);unfold Op.shift;rw [if_neg h1];simp only [h2];rw [Int.fdiv_eq_ediv_of_nonneg _ (Int.pow_nonneg (by decide)),hy];rfl
theorem Q8n (F G:Nat->Prop) (g:Nat) (bs:List Nat) (at_:Nat) (D A B C:Option Addr) (h i n c m d k e:Nat) (T:Qa) (r0 r1 r2:Int) (w:World) (hcu:Qk w F g bs at_) (hF:∀b,F b->b≠g) (hG:∀b,G b->b≠g)
   (h1:Rd w G A n (Q2 T.NL)) (h2:Rd w G B m (Q2 T.NO)) (h3:Rd w G C k (Q2 T.NM)) (f1:Fit T.NL) (f2:Fit T.NO) (f3:Fit T.NM) (b1:(n:Int)<=1099511627776) (b2:(m:Int)<=1099511627776) (b3:(k:Int)<=1099511627776) :
   Calls Tryz.prog 37 #[.pointer (some ⟨g,0,none⟩),.agg #[.slice D h i,.int .i64 T.lL,.slice A n c,.int .i64 T.lO,.slice B m d,.int .i64 T.lM,.slice C k e,.int .i64 r0,.int .i64 r1,.int .i64 r2]] w (Q3s F g bs at_ T w):=by
 (have hlt:∀b∈bs,b<256:=by obtain⟨_,_,_,_,h,_⟩:=hcu;exact h);have hgl:=hcu.lt;obtain⟨w0,hw0⟩:=nm_ ((w.alloc (.cells #[.slice D h i,.int .i64 T.lL,.slice A n c,.int .i64 T.lO,.slice B m d,.int .i64 T.lM,.slice C k e,.int .i64 r0,.int .i64 r1,.int .i64 r2] 32)).alloc (.cells #[.int .i64 0,.slice none 0 0,.int .i64 0,.slice none 0 0,.int .i64 0,.slice none 0 0] 69));obtain⟨H,hH⟩:=nm_ (w.heap.size);(have f0:Q0 w w0:=by rw [hw0];exact((Upd.refl _ _).alloc _).alloc _);(have bc:Blk w0 H 32 #[.slice D h i,.int .i64 T.lL,.slice A n c,.int .i64 T.lO,.slice B m d,.int .i64 T.lM,.slice C k e,.int .i64 r0,.int .i64 r1,.int .i64 r2]:=by rw [hw0];exact(Q1 hH _ _).alloc _);(have bo:Blk w0 (H+1) 69 #[.int .i64 0,.slice none 0 0,.int .i64 0,.slice none 0 0,.int .i64 0,.slice none 0 0]:=by rw [hw0];exact Q1 (by simp [hH]) _ _);(have hs0:w0.heap.size=H+2:=by rw [hw0,hH];simp);have HCU:=hd_ (hcu.both.fresh f0);have HR1:=hd_ (h1.both.fresh f0);have HR2:=hd_ (h2.both.fresh f0);have HR3:=hd_ (h3.both.fresh f0);have HFT:=hd_ (And.intro f1 (And.intro f2 f3));have HBD:=hd_ (And.intro b1 (And.intro b2 b3));have HG:=hd_ hG;have HF:=hd_ hF;have HLT:=hd_ hlt;have HGL:=hd_ (show g<H by rw [hH];exact hgl);have HW:=hd_ hw0;have HH:=hd_ hH;have F0:=hd_ f0;have BC:=hd_ bc;have BO:=hd_ bo;have HS0:=hd_ hs0;have HTA:=hd_ KY;clear hcu h1 h2 h3 f1 f2 f3 b1 b2 b3 hG hF hlt hgl hw0 hH f0 bc bo hs0;refine Q6 fun R hR=>?_;go_enter Tryz.func37,Tryz.ntmps37;go_upto_region 1 with fail;simp only [<-HH.out,<-HW.out];have y0:=BO.out.cell 0;have y1:=BO.out.cell 1;have y2:=BO.out.cell 2;by_cases hat:at_<bs.length
 . obtain⟨x,hx⟩:∃x,x=bs[at_]?.getD 0:=⟨_,rfl⟩
   (have hx2:x<256:=by rw [hx];exact Q4g HLT.out at_);have HBY:=Q11 (fun b=>F b/\b<w.heap.size) g bs at_ w0 HCU.out hat (fun b hb=>HF.out b hb.1);rw [<-hx]at HBY;have HBY:=hd_ HBY;have HX:=hd_ hx;clear hx;by_cases h64:64<=x
   . have hxd:¬(x:Int) / 64=0:=by omega
     (have hxb:((x:Int) / 64 == 0)=false:=by simpa using hxd);(have hxt:((x:Int) / 64 != 0)=true:=by simpa using hxd);have HE:=hd_ (show QK bs at_ T=(13,Qa.none,0)from Q2m hat (by rw [<-HX.out];exact h64));clear y0 y1 y2;go_wp2_with fail;refine HBY.out.mono ?_;rintro e' w1 ⟨rfl,u1,c1⟩;have o5:=BO.out.upd u1 (by have:=HGL.out;omega);have q0:=o5.cell 0;have q1:=o5.cell 1;have q2:=o5.cell 2;have q3:=o5.cell 3;have q4:=o5.cell 4;have q5:=o5.cell 5;have p0:=o5.frozen 0;have p1:=o5.frozen 1;have p2:=o5.frozen 2;have p3:=o5.frozen 3;have p4:=o5.frozen 4;have p5:=o5.frozen 5;simp at q0 q1 q2 q3 q4 q5;have o6:=hd_ (o5.set6 (.int .i64 0) (.slice none 0 0) (.int .i64 0) (.slice none 0 0) (.int .i64 0) (.slice none 0 0));have u3:=Q05 w1 (H+1) (.int .i64 0) (.slice none 0 0) (.int .i64 0) (.slice none 0 0) (.int .i64 0) (.slice none 0 0);have HUF:=hd_ (((F0.out.mono (T:=fun b=>b=g) fun _ _ h=>h.elim).trans' u1).trans u3 (fun b hb e=>by have:=HH.out;omega));clear o5 u3 u1 c1;go_wp2_with fail;refine bodyPost_ret (Q5 rfl _ _ (H+1) _ _ _ rfl o6.out Tryz.underlying69 rfl (by kernel_rfl)) rfl ?_;refine hR.out _ _ ⟨HUF.out,?_⟩;rw [HE.out,if_neg (by simp)];rfl
   (have hxd:(x:Int) / 64=0:=by omega);(have hxs:QK bs at_ T=hdF bs x 0 (at_+1) T:=by rw [HX.out];exact Q3r hat (by rw [<-HX.out];exact h64));have HXS:=hd_ hxs;clear y0 y1 y2 hxs;go_wp2_with fail;refine HBY.out.mono ?_;rintro e' w1 ⟨rfl,u1,c1⟩;have bc1:=BC.out.upd u1 (by have:=HGL.out;omega);obtain⟨c1x0,c1x1,c1x2,c1x3,c1x4,c1x5,c1x6,c1x7,c1x8,c1x9⟩:=(bc1).cells10;have HU1:=hd_ u1;have HC1:=hd_ c1;clear u1 c1 bc1;go_wp2_with fail;refine(HTA.out _ _ _ _ _ _ _ _ _ _ _ _ _ _ _ _ _ _ _).mono ?_;rintro e' w2 ⟨rfl,f2⟩;have HU2:=hd_ (HU1.out.trans' (f2.mono (T:=fun b=>b=g) fun _ _ h=>h.elim));have HC2:=hd_ (HC1.out.fresh f2);clear f2 c1x0 c1x1 c1x2 c1x3 c1x4 c1x5 c1x6 c1x7 c1x8 c1x9;go_wp2_with fail;obtain⟨K,hK⟩:=nm_ (w2.heap.size);obtain⟨w3,hw3⟩:=nm_ (w2.alloc (.cells #[.int .i64 T.lL,.slice A n c,.int .i64 T.lO,.slice B m d,.int .i64 T.lM,.slice C k e] 69));simp only [<-hK,<-hw3];(have f3:Q0 w2 w3:=by rw [hw3];exact(Upd.refl _ _).alloc _);have HK3:=hd_ (show Blk w3 K 69 #[.int .i64 T.lL,.slice A n c,.int .i64 T.lO,.slice B m d,.int .i64 T.lM,.slice C k e] by rw [hw3];exact Q1 hK _ _);have HU3:=hd_ (HU2.out.trans' (f3.mono (T:=fun b=>b=g) fun _ _ h=>h.elim));have HC3:=hd_ (HC2.out.fresh f3);have HKS:=hd_ (show H+2<=K by have h1:=HU2.out.size;have h2:=HS0.out;omega);have HBO:=hd_ (BO.out.upd HU3.out (by have:=HGL.out;omega));clear hK hw3 f3
   go_loopg [27] 3 (fun f vi wr=>∃(i a:Nat) (T':Qa) (A' B' C':Option Addr) (n' c' m' d' k' e':Nat),i+f=3/\vi = .int .i64 i/\hdF bs x i a T'=hdF bs x 0 (at_+1) T/\Upd (fun b=>b=g\/b=K) w3 wr /\
     Blk wr K 69 #[.int .i64 T'.lL,.slice A' n' c',.int .i64 T'.lO,.slice B' m' d',.int .i64 T'.lM,.slice C' k' e']/\Qk wr (fun b=>F b/\b<w.heap.size) g bs a /\
     Rd wr (fun b=>if 0<i then K+1<=b else G b/\b<w.heap.size) A' n' (Q2 T'.NL)/\Rd wr (fun b=>if 1<i then K+1<=b else G b/\b<w.heap.size) B' m' (Q2 T'.NO)/\Rd wr (fun b=>if 2<i then K+1<=b else G b/\b<w.heap.size) C' k' (Q2 T'.NM) /\
     (Fit T'.NL/\Fit T'.NO/\Fit T'.NM)/\((n':Int)<=1099511627776/\(m':Int)<=1099511627776/\(k':Int)<=1099511627776))
   case atStart=>exact⟨0,at_+1,T,A,B,C,n,c,m,d,k,e,rfl,rfl,rfl,Upd.refl _ _,HK3.out,HC3.out,by simpa using HR1.out.upd HU3.out (fun b _ hb=>HG.out b hb.1),by simpa using HR2.out.upd HU3.out (fun b _ hb=>HG.out b hb.1),by simpa using HR3.out.upd HU3.out (fun b _ hb=>HG.out b hb.1),HFT.out,HBD.out⟩
   case round =>
     obtain⟨i,a,T',A',B',C',n',c',m',d',k',e2,hf,rfl,hgh,hu,hb,hcu,hr1,hr2,hr3,hft,hbd⟩:=hrel;have HGH:=hd_ hgh;have HU:=hd_ hu;have HB:=hd_ hb;have HCU2:=hd_ hcu;have HA1:=hd_ hr1;have HA2:=hd_ hr2;have HA3:=hd_ hr3;have HFT2:=hd_ hft;have HBD2:=hd_ hbd;obtain⟨a0,a1,a2,a3,a4,a5⟩:=(hb).cells6;(have h4:i=0\/i=1\/i=2\/i=3:=by omega);clear hgh hu hb hcu hr1 hr2 hr3 hft hbd;rcases h4 with rfl|rfl|rfl|rfl
     . obtain rfl:gk=3:=by omega
       clear hf;obtain⟨mo,hmo⟩:=nm_ (x%4)
       have hand:bits .and .u8 ((x:Int)) 3=(mo:Nat):=by
         rw [show(x:Int)=((x:Nat):Int) by omega,Q5A _ (by omega),hmo]
       (have sw0:IntKind.i64.wrap 0=0:=by decide);have hsh:∀W,(Op.shift .shr .u8 (x:Int) .i64 0).run Tryz.prog W = .ok (.int .u8 ((x:Int))) W:=fun W=>Q3t x 0 ((x:Int)) W (by decide) (by simp);(have hmo4:mo<4:=by omega);have sm1:wrap64 ((mo:Nat):Int)=((mo:Nat):Int):=Jj _ (by omega);have sm2:IntKind.i64.wrap ((mo:Nat):Int)=((mo:Nat):Int):=IntWalk.i64_in _ (by omega);(have hrd:Rd wr (fun b=>G b/\b<w.heap.size) A' n' (Q2 T'.NL):=by simpa using HA1.out);have hde:=fun W (f:Q0 wr W)=>Q13 (fun b=>F b/\b<w.heap.size) _ g bs a A' n' c' (mo:Nat) 0 T'.lL T'.NL W (HCU2.out.fresh f) (fun b hb=>HF.out b hb.1) (hrd.fresh f) HFT2.out.1 HBD2.out.1;obtain⟨dd,hdd⟩:=nm_ (YI (mo:Nat) 0 T'.lL T'.NL bs a);rw [<-hdd]at hde;obtain⟨x1,l1,N1,k1⟩:=dd;simp only at hde;have HDE:=hd_ hde;have HDD:=hd_ hdd.symm;have HMO:=hd_ hmo
       have HBK:Hid (∀W,Upd (fun b=>b=g) wr W->W.cell? ⟨K,0,none⟩=some (.int .i64 T'.lL)/\W.cell? ⟨K,1,none⟩=some (.slice A' n' c')/\W.frozen? ⟨K,0,none⟩=false/\W.frozen? ⟨K,1,none⟩=false):=fun W u=>by
         have b:=HB.out.upd u (by have:=HKS.out;have:=HGL.out;omega);exact⟨by simpa using b.cell 0,by simpa using b.cell 1,b.frozen _,b.frozen _⟩
       clear hmo hrd hde hdd;by_cases hx1:x1=0
       . subst hx1
         go_wp2_with fail
         go_region_with
           (first
             | (go_at_call 57;refine(HDE.out _ (by first|exact Upd.refl _ _|exact(Upd.refl _ _).drew|exact(Upd.refl _ _).drewN _)).mono ?_;rintro e w5 ⟨u5,c5,A5,n5,cc5,rfl,r5⟩;have ux:Upd (fun b=>b=g) wr w5:=(by first|exact u5|exact Upd.trans' ((Upd.refl _ _).drew) u5|exact Upd.trans' ((Upd.refl _ _).drewN _) u5);obtain⟨y0,y1,z0,z1⟩:=HBK.out w5 ux))
         have hgk:=HKS.out;have hgl:=HGL.out;have u2:Upd (fun b=>b=K) w5 ((w5.setCell ⟨K,0,none⟩ (.int .i64 l1)).setCell ⟨K,1,none⟩ (.slice A5 n5 cc5)):=((Upd.refl (fun b=>b=K) w5).setCell (p:=⟨K,0,none⟩) (fun _=>rfl) _).setCell (p:=⟨K,1,none⟩) (fun _=>rfl) _;have uK:Upd (fun b=>b=g\/b=K) w3 ((w5.setCell ⟨K,0,none⟩ (.int .i64 l1)).setCell ⟨K,1,none⟩ (.slice A5 n5 cc5)):=(HU.out.trans' (ux.mono fun _ _ h=>.inl h)).trans' (u2.mono fun _ _ h=>.inr h);have b5:=((HB.out.upd ux (by omega)).set_ 0 (.int .i64 l1)).set_ 1 (.slice A5 n5 cc5);simp at b5;have c6:=c5.upd u2 (by omega) (fun b _ hb e=>by have:=hb.2;have:=HH.out;omega);have hK:K<wr.heap.size:=HB.out.lt;have r6:Rd ((w5.setCell ⟨K,0,none⟩ (.int .i64 l1)).setCell ⟨K,1,none⟩ (.slice A5 n5 cc5)) (fun b=>K+1<=b) A5 n5 (Q2 N1):=(r5.mono (G:=fun b=>K+1<=b) (fun b hb=>by have h:wr.heap.size<=b:=hb;omega)).upd u2 (fun b _ hb e=>by omega);have hval:=(ZQ HLT.out HDD.out).1;have hfit5:Fit N1:=Ze hval;(have hn5:(n5:Int)<=1099511627776:=by have h1:=hval.2.2.2.2.1;have h2:=(Jw 0).1;have h3:=r5.1;simp at h3;omega)
         have hgh:hdF bs x 1 (a+k1) ⟨l1,N1,T'.lO,T'.NO,T'.lM,T'.NM⟩=hdF bs x 0 (at_+1) T:=by
           have e:=HDD.out;rw [HMO.out]at e;rw [<-HGH.out];exact Q9t e
         have s1:Rd ((w5.setCell ⟨K,0,none⟩ (.int .i64 l1)).setCell ⟨K,1,none⟩ (.slice A5 n5 cc5)) (fun b=>G b/\b<w.heap.size) B' m' (Q2 T'.NO):=((show Rd wr (fun b=>G b/\b<w.heap.size) B' m' (Q2 T'.NO) by simpa using HA2.out).upd ux (fun b _ hb e=>by have:=HG.out b hb.1;have:=hb.2;have:=HH.out;omega)).upd u2 (fun b _ hb e=>by have:=HG.out b hb.1;have:=hb.2;have:=HH.out;omega);have s2:Rd ((w5.setCell ⟨K,0,none⟩ (.int .i64 l1)).setCell ⟨K,1,none⟩ (.slice A5 n5 cc5)) (fun b=>G b/\b<w.heap.size) C' k' (Q2 T'.NM):=((show Rd wr (fun b=>G b/\b<w.heap.size) C' k' (Q2 T'.NM) by simpa using HA3.out).upd ux (fun b _ hb e=>by have:=HG.out b hb.1;have:=hb.2;have:=HH.out;omega)).upd u2 (fun b _ hb e=>by have:=HG.out b hb.1;have:=hb.2;have:=HH.out;omega)
         have HE:=hd_ (show ∃(i a:Nat) (T':Qa) (A' B' C':Option Addr) (n' c' m' d' k' e':Nat),i+2=3/\(Value.int .i64 1:Value) = .int .i64 i/\hdF bs x i a T'=hdF bs x 0 (at_+1) T/\Upd (fun b=>b=g\/b=K) w3 ((w5.setCell ⟨K,0,none⟩ (.int .i64 l1)).setCell ⟨K,1,none⟩ (.slice A5 n5 cc5)) /\
           Blk ((w5.setCell ⟨K,0,none⟩ (.int .i64 l1)).setCell ⟨K,1,none⟩ (.slice A5 n5 cc5)) K 69 #[.int .i64 T'.lL,.slice A' n' c',.int .i64 T'.lO,.slice B' m' d',.int .i64 T'.lM,.slice C' k' e']/\Qk ((w5.setCell ⟨K,0,none⟩ (.int .i64 l1)).setCell ⟨K,1,none⟩ (.slice A5 n5 cc5)) (fun b=>F b/\b<w.heap.size) g bs a /\
           Rd ((w5.setCell ⟨K,0,none⟩ (.int .i64 l1)).setCell ⟨K,1,none⟩ (.slice A5 n5 cc5)) (fun b=>if 0<i then K+1<=b else G b/\b<w.heap.size) A' n' (Q2 T'.NL)/\Rd ((w5.setCell ⟨K,0,none⟩ (.int .i64 l1)).setCell ⟨K,1,none⟩ (.slice A5 n5 cc5)) (fun b=>if 1<i then K+1<=b else G b/\b<w.heap.size) B' m' (Q2 T'.NO)/\Rd ((w5.setCell ⟨K,0,none⟩ (.int .i64 l1)).setCell ⟨K,1,none⟩ (.slice A5 n5 cc5)) (fun b=>if 2<i then K+1<=b else G b/\b<w.heap.size) C' k' (Q2 T'.NM) /\
           (Fit T'.NL/\Fit T'.NO/\Fit T'.NM)/\((n':Int)<=1099511627776/\(m':Int)<=1099511627776/\(k':Int)<=1099511627776)
           from⟨1,a+k1,⟨l1,N1,T'.lO,T'.NO,T'.lM,T'.NM⟩,A5,B',C',n5,cc5,m',d',k',e2,rfl,rfl,hgh,uK,b5,c6,by simpa using r6,by simpa using s1,by simpa using s2,⟨hfit5,HFT2.out.2.1,HFT2.out.2.2⟩,⟨hn5,HBD2.out.2.1,HBD2.out.2.2⟩⟩)
         clear u2 uK b5 c6 r6 hfit5 hn5 hgh y0 y1 z0 z1 hval ux u5 c5 r5 hgk hgl hK a0 a1 a2 a3 a4 a5 s1 s2;go_wp2_with fail;go_roundg 2
         case measure=>omega
         case rel=>exact HE.out
       go_wp2_with fail
       go_region_with
         (first
           | (go_at_call 57;refine(HDE.out _ (by first|exact Upd.refl _ _|exact(Upd.refl _ _).drew|exact(Upd.refl _ _).drewN _)).mono ?_;rintro e w5 ⟨u5,c5,A5,n5,cc5,rfl,r5⟩;have ux:Upd (fun b=>b=g) wr w5:=(by first|exact u5|exact Upd.trans' ((Upd.refl _ _).drew) u5|exact Upd.trans' ((Upd.refl _ _).drewN _) u5);obtain⟨y0,y1,z0,z1⟩:=HBK.out w5 ux))
       have hgk:=HKS.out;have hgl:=HGL.out;have u2:Upd (fun b=>b=K) w5 ((w5.setCell ⟨K,0,none⟩ (.int .i64 l1)).setCell ⟨K,1,none⟩ (.slice A5 n5 cc5)):=((Upd.refl (fun b=>b=K) w5).setCell (p:=⟨K,0,none⟩) (fun _=>rfl) _).setCell (p:=⟨K,1,none⟩) (fun _=>rfl) _;have uK:Upd (fun b=>b=g\/b=K) w3 ((w5.setCell ⟨K,0,none⟩ (.int .i64 l1)).setCell ⟨K,1,none⟩ (.slice A5 n5 cc5)):=(HU.out.trans' (ux.mono fun _ _ h=>.inl h)).trans' (u2.mono fun _ _ h=>.inr h);have b5:=((HB.out.upd ux (by omega)).set_ 0 (.int .i64 l1)).set_ 1 (.slice A5 n5 cc5);simp at b5;have u3:Upd (fun b=>b=H+1) ((w5.setCell ⟨K,0,none⟩ (.int .i64 l1)).setCell ⟨K,1,none⟩ (.slice A5 n5 cc5)) _:=Q05 _ (H+1) (.int .i64 0) (.slice none 0 0) (.int .i64 0) (.slice none 0 0) (.int .i64 0) (.slice none 0 0);have o5:=HBO.out.upd uK (by omega);have q0:=o5.cell 0;have q1:=o5.cell 1;have q2:=o5.cell 2;have q3:=o5.cell 3;have q4:=o5.cell 4;have q5:=o5.cell 5;have p0:=o5.frozen 0;have p1:=o5.frozen 1;have p2:=o5.frozen 2;have p3:=o5.frozen 3;have p4:=o5.frozen 4;have p5:=o5.frozen 5;simp at q0 q1 q2 q3 q4 q5;have o6:=hd_ (o5.set6 (.int .i64 0) (.slice none 0 0) (.int .i64 0) (.slice none 0 0) (.int .i64 0) (.slice none 0 0));have hU:Upd (fun b=>b=g) w ((w5.setCell ⟨K,0,none⟩ (.int .i64 l1)).setCell ⟨K,1,none⟩ (.slice A5 n5 cc5)):=(F0.out.mono (T:=fun b=>b=g) fun _ _ h=>h.elim).trans (HU3.out.trans uK (fun b hb e=>by have h1:=HKS.out;have h2:=HS0.out;rcases e with e|e;exact e;omega)) (fun b hb e=>e);have HUF:=hd_ (hU.trans u3 (fun b hb e=>by have:=HH.out;omega));(have hne:(x1 == 0)=false:=by simpa using hx1);(have hnt:(x1 != 0)=true:=by simpa using hx1)
       have hdE:QK bs at_ T=(x1,Qa.none,0):=by
         have e:=HDD.out;rw [HMO.out]at e;rw [HXS.out,<-HGH.out];exact Q9u e hx1
       have HDX:=hd_ hdE;clear hdE u2 uK b5 y0 y1 z0 z1 ux u5 c5 r5 hgk hgl a0 a1 a2 a3 a4 a5 o5 hU u3 sm1 sm2 hand hsh sw0 hmo4;generalize ((w5.setCell ⟨K,0,none⟩ (.int .i64 l1)).setCell ⟨K,1,none⟩ (.slice A5 n5 cc5))=w6 at *;go_wp2_with fail;refine bodyPost_ret (Q5 rfl _ _ (H+1) _ _ _ rfl o6.out Tryz.underlying69 rfl (by kernel_rfl)) rfl ?_;refine hR.out _ _ ⟨HUF.out,?_⟩;rw [HDX.out,if_neg hx1];rfl
     . obtain rfl:gk=2:=by omega
       clear hf;obtain⟨mo,hmo⟩:=nm_ (x / 4%4)
       have hand:bits .and .u8 ((x:Int) / 4) 3=(mo:Nat):=by
         rw [show(x:Int) / 4=((x / 4:Nat):Int) by omega,Q5A _ (by omega),hmo]
       (have sw0:IntKind.i64.wrap 2=2:=by decide);have hsh:∀W,(Op.shift .shr .u8 (x:Int) .i64 2).run Tryz.prog W = .ok (.int .u8 ((x:Int) / 4)) W:=fun W=>Q3t x 2 ((x:Int) / 4) W (by decide) (by simp);(have hmo4:mo<4:=by omega);have sm1:wrap64 ((mo:Nat):Int)=((mo:Nat):Int):=Jj _ (by omega);have sm2:IntKind.i64.wrap ((mo:Nat):Int)=((mo:Nat):Int):=IntWalk.i64_in _ (by omega);(have hrd:Rd wr (fun b=>G b/\b<w.heap.size) B' m' (Q2 T'.NO):=by simpa using HA2.out);have hde:=fun W (f:Q0 wr W)=>Q13 (fun b=>F b/\b<w.heap.size) _ g bs a B' m' d' (mo:Nat) 1 T'.lO T'.NO W (HCU2.out.fresh f) (fun b hb=>HF.out b hb.1) (hrd.fresh f) HFT2.out.2.1 HBD2.out.2.1;obtain⟨dd,hdd⟩:=nm_ (YI (mo:Nat) 1 T'.lO T'.NO bs a);rw [<-hdd]at hde;obtain⟨x1,l1,N1,k1⟩:=dd;simp only at hde;have HDE:=hd_ hde;have HDD:=hd_ hdd.symm;have HMO:=hd_ hmo
       have HBK:Hid (∀W,Upd (fun b=>b=g) wr W->W.cell? ⟨K,2,none⟩=some (.int .i64 T'.lO)/\W.cell? ⟨K,3,none⟩=some (.slice B' m' d')/\W.frozen? ⟨K,2,none⟩=false/\W.frozen? ⟨K,3,none⟩=false):=fun W u=>by
         have b:=HB.out.upd u (by have:=HKS.out;have:=HGL.out;omega);exact⟨by simpa using b.cell 2,by simpa using b.cell 3,b.frozen _,b.frozen _⟩
       clear hmo hrd hde hdd;by_cases hx1:x1=0
       . subst hx1
         go_wp2_with fail
         go_region_with
           (first
             | (go_at_call 57;refine(HDE.out _ (by first|exact Upd.refl _ _|exact(Upd.refl _ _).drew|exact(Upd.refl _ _).drewN _)).mono ?_;rintro e w5 ⟨u5,c5,A5,n5,cc5,rfl,r5⟩;have ux:Upd (fun b=>b=g) wr w5:=(by first|exact u5|exact Upd.trans' ((Upd.refl _ _).drew) u5|exact Upd.trans' ((Upd.refl _ _).drewN _) u5);obtain⟨y0,y1,z0,z1⟩:=HBK.out w5 ux))
         have hgk:=HKS.out;have hgl:=HGL.out;have u2:Upd (fun b=>b=K) w5 ((w5.setCell ⟨K,2,none⟩ (.int .i64 l1)).setCell ⟨K,3,none⟩ (.slice A5 n5 cc5)):=((Upd.refl (fun b=>b=K) w5).setCell (p:=⟨K,2,none⟩) (fun _=>rfl) _).setCell (p:=⟨K,3,none⟩) (fun _=>rfl) _;have uK:Upd (fun b=>b=g\/b=K) w3 ((w5.setCell ⟨K,2,none⟩ (.int .i64 l1)).setCell ⟨K,3,none⟩ (.slice A5 n5 cc5)):=(HU.out.trans' (ux.mono fun _ _ h=>.inl h)).trans' (u2.mono fun _ _ h=>.inr h);have b5:=((HB.out.upd ux (by omega)).set_ 2 (.int .i64 l1)).set_ 3 (.slice A5 n5 cc5);simp at b5;have c6:=c5.upd u2 (by omega) (fun b _ hb e=>by have:=hb.2;have:=HH.out;omega);have hK:K<wr.heap.size:=HB.out.lt;have r6:Rd ((w5.setCell ⟨K,2,none⟩ (.int .i64 l1)).setCell ⟨K,3,none⟩ (.slice A5 n5 cc5)) (fun b=>K+1<=b) A5 n5 (Q2 N1):=(r5.mono (G:=fun b=>K+1<=b) (fun b hb=>by have h:wr.heap.size<=b:=hb;omega)).upd u2 (fun b _ hb e=>by omega);have hval:=(ZQ HLT.out HDD.out).1;have hfit5:Fit N1:=Ze hval;(have hn5:(n5:Int)<=1099511627776:=by have h1:=hval.2.2.2.2.1;have h2:=(Jw 1).1;have h3:=r5.1;simp at h3;omega)
         have hgh:hdF bs x 2 (a+k1) ⟨T'.lL,T'.NL,l1,N1,T'.lM,T'.NM⟩=hdF bs x 0 (at_+1) T:=by
           have e:=HDD.out;rw [HMO.out]at e;rw [<-HGH.out];exact Q9v e
         have s0:Rd ((w5.setCell ⟨K,2,none⟩ (.int .i64 l1)).setCell ⟨K,3,none⟩ (.slice A5 n5 cc5)) (fun b=>K+1<=b) A' n' (Q2 T'.NL):=((show Rd wr (fun b=>K+1<=b) A' n' (Q2 T'.NL) by simpa using HA1.out).upd ux (fun b _ hb e=>by omega)).upd u2 (fun b _ hb e=>by omega);have s2:Rd ((w5.setCell ⟨K,2,none⟩ (.int .i64 l1)).setCell ⟨K,3,none⟩ (.slice A5 n5 cc5)) (fun b=>G b/\b<w.heap.size) C' k' (Q2 T'.NM):=((show Rd wr (fun b=>G b/\b<w.heap.size) C' k' (Q2 T'.NM) by simpa using HA3.out).upd ux (fun b _ hb e=>by have:=HG.out b hb.1;have:=hb.2;have:=HH.out;omega)).upd u2 (fun b _ hb e=>by have:=HG.out b hb.1;have:=hb.2;have:=HH.out;omega)
         have HE:=hd_ (show ∃(i a:Nat) (T':Qa) (A' B' C':Option Addr) (n' c' m' d' k' e':Nat),i+1=3/\(Value.int .i64 2:Value) = .int .i64 i/\hdF bs x i a T'=hdF bs x 0 (at_+1) T/\Upd (fun b=>b=g\/b=K) w3 ((w5.setCell ⟨K,2,none⟩ (.int .i64 l1)).setCell ⟨K,3,none⟩ (.slice A5 n5 cc5)) /\
           Blk ((w5.setCell ⟨K,2,none⟩ (.int .i64 l1)).setCell ⟨K,3,none⟩ (.slice A5 n5 cc5)) K 69 #[.int .i64 T'.lL,.slice A' n' c',.int .i64 T'.lO,.slice B' m' d',.int .i64 T'.lM,.slice C' k' e']/\Qk ((w5.setCell ⟨K,2,none⟩ (.int .i64 l1)).setCell ⟨K,3,none⟩ (.slice A5 n5 cc5)) (fun b=>F b/\b<w.heap.size) g bs a /\
           Rd ((w5.setCell ⟨K,2,none⟩ (.int .i64 l1)).setCell ⟨K,3,none⟩ (.slice A5 n5 cc5)) (fun b=>if 0<i then K+1<=b else G b/\b<w.heap.size) A' n' (Q2 T'.NL)/\Rd ((w5.setCell ⟨K,2,none⟩ (.int .i64 l1)).setCell ⟨K,3,none⟩ (.slice A5 n5 cc5)) (fun b=>if 1<i then K+1<=b else G b/\b<w.heap.size) B' m' (Q2 T'.NO)/\Rd ((w5.setCell ⟨K,2,none⟩ (.int .i64 l1)).setCell ⟨K,3,none⟩ (.slice A5 n5 cc5)) (fun b=>if 2<i then K+1<=b else G b/\b<w.heap.size) C' k' (Q2 T'.NM) /\
           (Fit T'.NL/\Fit T'.NO/\Fit T'.NM)/\((n':Int)<=1099511627776/\(m':Int)<=1099511627776/\(k':Int)<=1099511627776)
           from⟨2,a+k1,⟨T'.lL,T'.NL,l1,N1,T'.lM,T'.NM⟩,A',A5,C',n',c',n5,cc5,k',e2,rfl,rfl,hgh,uK,b5,c6,by simpa using s0,by simpa using r6,by simpa using s2,⟨HFT2.out.1,hfit5,HFT2.out.2.2⟩,⟨HBD2.out.1,hn5,HBD2.out.2.2⟩⟩)
         clear u2 uK b5 c6 r6 hfit5 hn5 hgh y0 y1 z0 z1 hval ux u5 c5 r5 hgk hgl hK a0 a1 a2 a3 a4 a5 s0 s2;go_wp2_with fail;go_roundg 1
         case measure=>omega
         case rel=>exact HE.out
       go_wp2_with fail
       go_region_with
         (first
           | (go_at_call 57;refine(HDE.out _ (by first|exact Upd.refl _ _|exact(Upd.refl _ _).drew|exact(Upd.refl _ _).drewN _)).mono ?_;rintro e w5 ⟨u5,c5,A5,n5,cc5,rfl,r5⟩;have ux:Upd (fun b=>b=g) wr w5:=(by first|exact u5|exact Upd.trans' ((Upd.refl _ _).drew) u5|exact Upd.trans' ((Upd.refl _ _).drewN _) u5);obtain⟨y0,y1,z0,z1⟩:=HBK.out w5 ux))
       have hgk:=HKS.out;have hgl:=HGL.out;have u2:Upd (fun b=>b=K) w5 ((w5.setCell ⟨K,2,none⟩ (.int .i64 l1)).setCell ⟨K,3,none⟩ (.slice A5 n5 cc5)):=((Upd.refl (fun b=>b=K) w5).setCell (p:=⟨K,2,none⟩) (fun _=>rfl) _).setCell (p:=⟨K,3,none⟩) (fun _=>rfl) _;have uK:Upd (fun b=>b=g\/b=K) w3 ((w5.setCell ⟨K,2,none⟩ (.int .i64 l1)).setCell ⟨K,3,none⟩ (.slice A5 n5 cc5)):=(HU.out.trans' (ux.mono fun _ _ h=>.inl h)).trans' (u2.mono fun _ _ h=>.inr h);have b5:=((HB.out.upd ux (by omega)).set_ 2 (.int .i64 l1)).set_ 3 (.slice A5 n5 cc5);simp at b5;have u3:Upd (fun b=>b=H+1) ((w5.setCell ⟨K,2,none⟩ (.int .i64 l1)).setCell ⟨K,3,none⟩ (.slice A5 n5 cc5)) _:=Q05 _ (H+1) (.int .i64 0) (.slice none 0 0) (.int .i64 0) (.slice none 0 0) (.int .i64 0) (.slice none 0 0);have o5:=HBO.out.upd uK (by omega);have q0:=o5.cell 0;have q1:=o5.cell 1;have q2:=o5.cell 2;have q3:=o5.cell 3;have q4:=o5.cell 4;have q5:=o5.cell 5;have p0:=o5.frozen 0;have p1:=o5.frozen 1;have p2:=o5.frozen 2;have p3:=o5.frozen 3;have p4:=o5.frozen 4;have p5:=o5.frozen 5;simp at q0 q1 q2 q3 q4 q5;have o6:=hd_ (o5.set6 (.int .i64 0) (.slice none 0 0) (.int .i64 0) (.slice none 0 0) (.int .i64 0) (.slice none 0 0));have hU:Upd (fun b=>b=g) w ((w5.setCell ⟨K,2,none⟩ (.int .i64 l1)).setCell ⟨K,3,none⟩ (.slice A5 n5 cc5)):=(F0.out.mono (T:=fun b=>b=g) fun _ _ h=>h.elim).trans (HU3.out.trans uK (fun b hb e=>by have h1:=HKS.out;have h2:=HS0.out;rcases e with e|e;exact e;omega)) (fun b hb e=>e);have HUF:=hd_ (hU.trans u3 (fun b hb e=>by have:=HH.out;omega));(have hne:(x1 == 0)=false:=by simpa using hx1);(have hnt:(x1 != 0)=true:=by simpa using hx1)
       have hdE:QK bs at_ T=(x1,Qa.none,0):=by
         have e:=HDD.out;rw [HMO.out]at e;rw [HXS.out,<-HGH.out];exact Q9w e hx1
       have HDX:=hd_ hdE;clear hdE u2 uK b5 y0 y1 z0 z1 ux u5 c5 r5 hgk hgl a0 a1 a2 a3 a4 a5 o5 hU u3 sm1 sm2 hand hsh sw0 hmo4;generalize ((w5.setCell ⟨K,2,none⟩ (.int .i64 l1)).setCell ⟨K,3,none⟩ (.slice A5 n5 cc5))=w6 at *;go_wp2_with fail;refine bodyPost_ret (Q5 rfl _ _ (H+1) _ _ _ rfl o6.out Tryz.underlying69 rfl (by kernel_rfl)) rfl ?_;refine hR.out _ _ ⟨HUF.out,?_⟩;rw [HDX.out,if_neg hx1];rfl
     . obtain rfl:gk=1:=by omega
       clear hf;obtain⟨mo,hmo⟩:=nm_ (x / 16%4)
       have hand:bits .and .u8 ((x:Int) / 16) 3=(mo:Nat):=by
         rw [show(x:Int) / 16=((x / 16:Nat):Int) by omega,Q5A _ (by omega),hmo]
       (have sw0:IntKind.i64.wrap 4=4:=by decide);have hsh:∀W,(Op.shift .shr .u8 (x:Int) .i64 4).run Tryz.prog W = .ok (.int .u8 ((x:Int) / 16)) W:=fun W=>Q3t x 4 ((x:Int) / 16) W (by decide) (by simp);(have hmo4:mo<4:=by omega);have sm1:wrap64 ((mo:Nat):Int)=((mo:Nat):Int):=Jj _ (by omega);have sm2:IntKind.i64.wrap ((mo:Nat):Int)=((mo:Nat):Int):=IntWalk.i64_in _ (by omega);(have hrd:Rd wr (fun b=>G b/\b<w.heap.size) C' k' (Q2 T'.NM):=by simpa using HA3.out);have hde:=fun W (f:Q0 wr W)=>Q13 (fun b=>F b/\b<w.heap.size) _ g bs a C' k' e2 (mo:Nat) 2 T'.lM T'.NM W (HCU2.out.fresh f) (fun b hb=>HF.out b hb.1) (hrd.fresh f) HFT2.out.2.2 HBD2.out.2.2;obtain⟨dd,hdd⟩:=nm_ (YI (mo:Nat) 2 T'.lM T'.NM bs a);rw [<-hdd]at hde;obtain⟨x1,l1,N1,k1⟩:=dd;simp only at hde;have HDE:=hd_ hde;have HDD:=hd_ hdd.symm;have HMO:=hd_ hmo
       have HBK:Hid (∀W,Upd (fun b=>b=g) wr W->W.cell? ⟨K,4,none⟩=some (.int .i64 T'.lM)/\W.cell? ⟨K,5,none⟩=some (.slice C' k' e2)/\W.frozen? ⟨K,4,none⟩=false/\W.frozen? ⟨K,5,none⟩=false):=fun W u=>by
         have b:=HB.out.upd u (by have:=HKS.out;have:=HGL.out;omega);exact⟨by simpa using b.cell 4,by simpa using b.cell 5,b.frozen _,b.frozen _⟩
       clear hmo hrd hde hdd;by_cases hx1:x1=0
       . subst hx1
         go_wp2_with fail
         go_region_with
           (first
             | (go_at_call 57;refine(HDE.out _ (by first|exact Upd.refl _ _|exact(Upd.refl _ _).drew|exact(Upd.refl _ _).drewN _)).mono ?_;rintro e w5 ⟨u5,c5,A5,n5,cc5,rfl,r5⟩;have ux:Upd (fun b=>b=g) wr w5:=(by first|exact u5|exact Upd.trans' ((Upd.refl _ _).drew) u5|exact Upd.trans' ((Upd.refl _ _).drewN _) u5);obtain⟨y0,y1,z0,z1⟩:=HBK.out w5 ux))
         have hgk:=HKS.out;have hgl:=HGL.out;have u2:Upd (fun b=>b=K) w5 ((w5.setCell ⟨K,4,none⟩ (.int .i64 l1)).setCell ⟨K,5,none⟩ (.slice A5 n5 cc5)):=((Upd.refl (fun b=>b=K) w5).setCell (p:=⟨K,4,none⟩) (fun _=>rfl) _).setCell (p:=⟨K,5,none⟩) (fun _=>rfl) _;have uK:Upd (fun b=>b=g\/b=K) w3 ((w5.setCell ⟨K,4,none⟩ (.int .i64 l1)).setCell ⟨K,5,none⟩ (.slice A5 n5 cc5)):=(HU.out.trans' (ux.mono fun _ _ h=>.inl h)).trans' (u2.mono fun _ _ h=>.inr h);have b5:=((HB.out.upd ux (by omega)).set_ 4 (.int .i64 l1)).set_ 5 (.slice A5 n5 cc5);simp at b5;have c6:=c5.upd u2 (by omega) (fun b _ hb e=>by have:=hb.2;have:=HH.out;omega);have hK:K<wr.heap.size:=HB.out.lt;have r6:Rd ((w5.setCell ⟨K,4,none⟩ (.int .i64 l1)).setCell ⟨K,5,none⟩ (.slice A5 n5 cc5)) (fun b=>K+1<=b) A5 n5 (Q2 N1):=(r5.mono (G:=fun b=>K+1<=b) (fun b hb=>by have h:wr.heap.size<=b:=hb;omega)).upd u2 (fun b _ hb e=>by omega);have hval:=(ZQ HLT.out HDD.out).1;have hfit5:Fit N1:=Ze hval;(have hn5:(n5:Int)<=1099511627776:=by have h1:=hval.2.2.2.2.1;have h2:=(Jw 2).1;have h3:=r5.1;simp at h3;omega)
         have hgh:hdF bs x 3 (a+k1) ⟨T'.lL,T'.NL,T'.lO,T'.NO,l1,N1⟩=hdF bs x 0 (at_+1) T:=by
           have e:=HDD.out;rw [HMO.out]at e;rw [<-HGH.out];exact Q9x e
         have s0:Rd ((w5.setCell ⟨K,4,none⟩ (.int .i64 l1)).setCell ⟨K,5,none⟩ (.slice A5 n5 cc5)) (fun b=>K+1<=b) A' n' (Q2 T'.NL):=((show Rd wr (fun b=>K+1<=b) A' n' (Q2 T'.NL) by simpa using HA1.out).upd ux (fun b _ hb e=>by omega)).upd u2 (fun b _ hb e=>by omega);have s1:Rd ((w5.setCell ⟨K,4,none⟩ (.int .i64 l1)).setCell ⟨K,5,none⟩ (.slice A5 n5 cc5)) (fun b=>K+1<=b) B' m' (Q2 T'.NO):=((show Rd wr (fun b=>K+1<=b) B' m' (Q2 T'.NO) by simpa using HA2.out).upd ux (fun b _ hb e=>by omega)).upd u2 (fun b _ hb e=>by omega)
         have HE:=hd_ (show ∃(i a:Nat) (T':Qa) (A' B' C':Option Addr) (n' c' m' d' k' e':Nat),i+0=3/\(Value.int .i64 3:Value) = .int .i64 i/\hdF bs x i a T'=hdF bs x 0 (at_+1) T/\Upd (fun b=>b=g\/b=K) w3 ((w5.setCell ⟨K,4,none⟩ (.int .i64 l1)).setCell ⟨K,5,none⟩ (.slice A5 n5 cc5)) /\
           Blk ((w5.setCell ⟨K,4,none⟩ (.int .i64 l1)).setCell ⟨K,5,none⟩ (.slice A5 n5 cc5)) K 69 #[.int .i64 T'.lL,.slice A' n' c',.int .i64 T'.lO,.slice B' m' d',.int .i64 T'.lM,.slice C' k' e']/\Qk ((w5.setCell ⟨K,4,none⟩ (.int .i64 l1)).setCell ⟨K,5,none⟩ (.slice A5 n5 cc5)) (fun b=>F b/\b<w.heap.size) g bs a /\
           Rd ((w5.setCell ⟨K,4,none⟩ (.int .i64 l1)).setCell ⟨K,5,none⟩ (.slice A5 n5 cc5)) (fun b=>if 0<i then K+1<=b else G b/\b<w.heap.size) A' n' (Q2 T'.NL)/\Rd ((w5.setCell ⟨K,4,none⟩ (.int .i64 l1)).setCell ⟨K,5,none⟩ (.slice A5 n5 cc5)) (fun b=>if 1<i then K+1<=b else G b/\b<w.heap.size) B' m' (Q2 T'.NO)/\Rd ((w5.setCell ⟨K,4,none⟩ (.int .i64 l1)).setCell ⟨K,5,none⟩ (.slice A5 n5 cc5)) (fun b=>if 2<i then K+1<=b else G b/\b<w.heap.size) C' k' (Q2 T'.NM) /\
           (Fit T'.NL/\Fit T'.NO/\Fit T'.NM)/\((n':Int)<=1099511627776/\(m':Int)<=1099511627776/\(k':Int)<=1099511627776)
           from⟨3,a+k1,⟨T'.lL,T'.NL,T'.lO,T'.NO,l1,N1⟩,A',B',A5,n',c',m',d',n5,cc5,rfl,rfl,hgh,uK,b5,c6,by simpa using s0,by simpa using s1,by simpa using r6,⟨HFT2.out.1,HFT2.out.2.1,hfit5⟩,⟨HBD2.out.1,HBD2.out.2.1,hn5⟩⟩)
         clear u2 uK b5 c6 r6 hfit5 hn5 hgh y0 y1 z0 z1 hval ux u5 c5 r5 hgk hgl hK a0 a1 a2 a3 a4 a5 s0 s1;go_wp2_with fail;go_roundg 0
         case measure=>omega
         case rel=>exact HE.out
       go_wp2_with fail
       go_region_with
         (first
           | (go_at_call 57;refine(HDE.out _ (by first|exact Upd.refl _ _|exact(Upd.refl _ _).drew|exact(Upd.refl _ _).drewN _)).mono ?_;rintro e w5 ⟨u5,c5,A5,n5,cc5,rfl,r5⟩;have ux:Upd (fun b=>b=g) wr w5:=(by first|exact u5|exact Upd.trans' ((Upd.refl _ _).drew) u5|exact Upd.trans' ((Upd.refl _ _).drewN _) u5);obtain⟨y0,y1,z0,z1⟩:=HBK.out w5 ux))
       have hgk:=HKS.out;have hgl:=HGL.out;have u2:Upd (fun b=>b=K) w5 ((w5.setCell ⟨K,4,none⟩ (.int .i64 l1)).setCell ⟨K,5,none⟩ (.slice A5 n5 cc5)):=((Upd.refl (fun b=>b=K) w5).setCell (p:=⟨K,4,none⟩) (fun _=>rfl) _).setCell (p:=⟨K,5,none⟩) (fun _=>rfl) _;have uK:Upd (fun b=>b=g\/b=K) w3 ((w5.setCell ⟨K,4,none⟩ (.int .i64 l1)).setCell ⟨K,5,none⟩ (.slice A5 n5 cc5)):=(HU.out.trans' (ux.mono fun _ _ h=>.inl h)).trans' (u2.mono fun _ _ h=>.inr h);have b5:=((HB.out.upd ux (by omega)).set_ 4 (.int .i64 l1)).set_ 5 (.slice A5 n5 cc5);simp at b5;have u3:Upd (fun b=>b=H+1) ((w5.setCell ⟨K,4,none⟩ (.int .i64 l1)).setCell ⟨K,5,none⟩ (.slice A5 n5 cc5)) _:=Q05 _ (H+1) (.int .i64 0) (.slice none 0 0) (.int .i64 0) (.slice none 0 0) (.int .i64 0) (.slice none 0 0);have o5:=HBO.out.upd uK (by omega);have q0:=o5.cell 0;have q1:=o5.cell 1;have q2:=o5.cell 2;have q3:=o5.cell 3;have q4:=o5.cell 4;have q5:=o5.cell 5;have p0:=o5.frozen 0;have p1:=o5.frozen 1;have p2:=o5.frozen 2;have p3:=o5.frozen 3;have p4:=o5.frozen 4;have p5:=o5.frozen 5;simp at q0 q1 q2 q3 q4 q5;have o6:=hd_ (o5.set6 (.int .i64 0) (.slice none 0 0) (.int .i64 0) (.slice none 0 0) (.int .i64 0) (.slice none 0 0));have hU:Upd (fun b=>b=g) w ((w5.setCell ⟨K,4,none⟩ (.int .i64 l1)).setCell ⟨K,5,none⟩ (.slice A5 n5 cc5)):=(F0.out.mono (T:=fun b=>b=g) fun _ _ h=>h.elim).trans (HU3.out.trans uK (fun b hb e=>by have h1:=HKS.out;have h2:=HS0.out;rcases e with e|e;exact e;omega)) (fun b hb e=>e);have HUF:=hd_ (hU.trans u3 (fun b hb e=>by have:=HH.out;omega));(have hne:(x1 == 0)=false:=by simpa using hx1);(have hnt:(x1 != 0)=true:=by simpa using hx1)
       have hdE:QK bs at_ T=(x1,Qa.none,0):=by
         have e:=HDD.out;rw [HMO.out]at e;rw [HXS.out,<-HGH.out];exact Q9y e hx1
       have HDX:=hd_ hdE;clear hdE u2 uK b5 y0 y1 z0 z1 ux u5 c5 r5 hgk hgl a0 a1 a2 a3 a4 a5 o5 hU u3 sm1 sm2 hand hsh sw0 hmo4;generalize ((w5.setCell ⟨K,4,none⟩ (.int .i64 l1)).setCell ⟨K,5,none⟩ (.slice A5 n5 cc5))=w6 at *;go_wp2_with fail;refine bodyPost_ret (Q5 rfl _ _ (H+1) _ _ _ rfl o6.out Tryz.underlying69 rfl (by kernel_rfl)) rfl ?_;refine hR.out _ _ ⟨HUF.out,?_⟩;rw [HDX.out,if_neg hx1];rfl
     (obtain rfl:gk=0:=by omega);clear hf;(have hE:QK bs at_ T=(0,T',a):=by rw [HXS.out,<-HGH.out];rfl);have HE:=hd_ hE;have hgk:=HKS.out;have hgl:=HGL.out;have o5:=HBO.out.upd HU.out (by omega);have q0:=o5.cell 0;have q1:=o5.cell 1;have q2:=o5.cell 2;have q3:=o5.cell 3;have q4:=o5.cell 4;have q5:=o5.cell 5;have p0:=o5.frozen 0;have p1:=o5.frozen 1;have p2:=o5.frozen 2;have p3:=o5.frozen 3;have p4:=o5.frozen 4;have p5:=o5.frozen 5;simp at q0 q1 q2 q3 q4 q5;have o6:=hd_ (o5.set6 (.int .i64 T'.lL) (.slice A' n' c') (.int .i64 T'.lO) (.slice B' m' d') (.int .i64 T'.lM) (.slice C' k' e2));have u3:=Q05 wr (H+1) (.int .i64 T'.lL) (.slice A' n' c') (.int .i64 T'.lO) (.slice B' m' d') (.int .i64 T'.lM) (.slice C' k' e2);have hU:Upd (fun b=>b=g) w wr:=(F0.out.mono (T:=fun b=>b=g) fun _ _ h=>h.elim).trans (HU3.out.trans HU.out (fun b hb e=>by have h1:=HKS.out;have h2:=HS0.out;rcases e with e|e;exact e;omega)) (fun b hb e=>e);have HUF:=hd_ (hU.trans u3 (fun b hb e=>by have:=HH.out;omega));have s0:Rd _ (fun b=>w.heap.size<=b) A' n' (Q2 T'.NL):=((show Rd wr (fun b=>K+1<=b) A' n' (Q2 T'.NL) by simpa using HA1.out).upd u3 (fun b _ hb e=>by omega)).mono (fun b hb=>by have:=HH.out;omega);have s1:Rd _ (fun b=>w.heap.size<=b) B' m' (Q2 T'.NO):=((show Rd wr (fun b=>K+1<=b) B' m' (Q2 T'.NO) by simpa using HA2.out).upd u3 (fun b _ hb e=>by omega)).mono (fun b hb=>by have:=HH.out;omega);have s2:Rd _ (fun b=>w.heap.size<=b) C' k' (Q2 T'.NM):=((show Rd wr (fun b=>K+1<=b) C' k' (Q2 T'.NM) by simpa using HA3.out).upd u3 (fun b _ hb e=>by omega)).mono (fun b hb=>by have:=HH.out;omega);have c6:=(HCU2.out.upd u3 (by omega) (fun b _ hb e=>by have:=hb.2;have:=HH.out;omega)).mono (fun b hb=>hb.1);have HS:=hd_ (And.intro s0 (And.intro s1 (And.intro s2 c6)));clear hE o5 u3 hU s0 s1 s2 c6 hgk hgl;go_wp2_with fail;refine bodyPost_ret (Q5 rfl _ _ (H+1) _ _ _ rfl o6.out Tryz.underlying69 rfl (by kernel_rfl)) rfl ?_;refine hR.out _ _ ⟨HUF.out,?_⟩;rw [HE.out,if_pos rfl];exact⟨A',n',c',B',m',d',C',k',e2,rfl,HS.out.1,HS.out.2.1,HS.out.2.2.1,HS.out.2.2.2⟩
 (have hcl:at_=bs.length:=by obtain⟨_,_,_,_,_,h5,_⟩:=HCU.out;omega);have HBY:=hd_ (XQ (fun b=>F b/\b<w.heap.size) g bs at_ w0 HCU.out hcl (fun b hb=>HF.out b hb.1));have HE:=hd_ (show QK bs at_ T=(3,Qa.none,0)from Q0F hat);clear hcl;go_wp2_with fail;refine HBY.out.mono ?_;rintro e' w1 ⟨rfl,u1,c1⟩;have o5:=BO.out.upd u1 (by have:=HGL.out;omega);have q0:=o5.cell 0;have q1:=o5.cell 1;have q2:=o5.cell 2;have q3:=o5.cell 3;have q4:=o5.cell 4;have q5:=o5.cell 5;have p0:=o5.frozen 0;have p1:=o5.frozen 1;have p2:=o5.frozen 2;have p3:=o5.frozen 3;have p4:=o5.frozen 4;have p5:=o5.frozen 5;simp at q0 q1 q2 q3 q4 q5;have o6:=hd_ (o5.set6 (.int .i64 0) (.slice none 0 0) (.int .i64 0) (.slice none 0 0) (.int .i64 0) (.slice none 0 0));have u3:=Q05 w1 (H+1) (.int .i64 0) (.slice none 0 0) (.int .i64 0) (.slice none 0 0) (.int .i64 0) (.slice none 0 0);have HUF:=hd_ (((F0.out.mono (T:=fun b=>b=g) fun _ _ h=>h.elim).trans' u1).trans u3 (fun b hb e=>by have:=HH.out;omega));clear y0 y1 y2 o5 u3 u1 c1;go_wp2_with fail;refine bodyPost_ret (Q5 rfl _ _ (H+1) _ _ _ rfl o6.out Tryz.underlying69 rfl (by kernel_rfl)) rfl ?_;refine hR.out _ _ ⟨HUF.out,?_⟩;rw [HE.out,if_neg (by simp)];rfl
def Qb.good (r:Qb):Prop:=r.lit<268435456/\r.len<268435460/\3<=r.len/\1<=r.val/\r.val<268435456
theorem QJ.ok.nine {T:QJ} (h:T.ok):Qc T.pO T.NO (if true then 28 else 44) 9:=by
 obtain⟨_,⟨b1,b2,b3,b4,b5,b6⟩,_⟩:=h;exact⟨b1,by omega,b3,b4,b5,b6⟩
theorem Q2n {T:QJ} (hT:T.ok) {S:Sts} (hS:S.ok T) (V:Nat) (s:Nat × Int):(JY V T S s).1.good:=by
 have h1:=Vf (o:=true) hT.nine hS.2.1 V s;have h2:=Vf (o:=false) (by simpa using hT.2.2) hS.2.2 V (Je V true T.pO T.NO S.o s).2;have h3:=Vf (o:=false) (by simpa using hT.1) hS.1 V (Je V false T.pM T.NM S.m (Je V true T.pO T.NO S.o s).2).2;have h4:=h1.2 rfl;refine⟨h3.1,?_,?_,h4,h1.1⟩
 . show(Je V false T.pM T.NM S.m (Je V true T.pO T.NO S.o s).2).1+3<_
   have:=h2.1;omega
 show 3<=(Je V false T.pM T.NM S.m (Je V true T.pO T.NO S.o s).2).1+3;omega
theorem Q1x {T:QJ} (hT:T.ok) (V:Nat):∀(k:Nat) (S:Sts) (s:Nat × Int),S.ok T->∀r∈(YN V T k S s).1,r.good
 | 0,S,s,hS,r,hr=>by simp [YN]at hr
 | k+1,S,s,hS,r,hr=>by
   by_cases h:s.2=0
   . rcases Nat.eq_zero_or_pos k with rfl|hk
     . rw [V5 V T S s h]at hr
       rw [List.mem_singleton.1 hr]
       exact Q2n hT hS V s
     rw [V7 V T k S s h hk]at hr
     rcases List.mem_cons.1 hr with rfl|hr
     . exact Q2n hT hS V s
     exact Q1x hT V k _ _ (Q8k hT hS V _) r hr
   rw [ZP V T (k+1) S s (.inr h)]at hr
   simp at hr
theorem Q2o {T:QJ} (V:Nat):∀(k:Nat) (S:Sts) (s:Nat × Int),(YN V T k S s).1.length<=k
 | 0,S,s=>by simp [YN]
 | k+1,S,s=>by
   by_cases h:s.2=0
   . rcases Nat.eq_zero_or_pos k with rfl|hk
     . rw [V5 V T S s h];simp
     rw [V7 V T k S s h hk]
     have:=Q2o (T:=T) V k (Z7 V T S (JY V T S s).2).1 (Z7 V T S (JY V T S s).2).2
     simp only [List.length_cons]
     omega
   rw [ZP V T (k+1) S s (.inr h)];simp
theorem Q6S {T:QJ} (hT:T.ok) (V n t:Nat):∀r∈(ZT V T n t).1,r.good:=Q1x hT V n _ _ (Q2g V T (t,0))
theorem Q8o (V:Nat) (T:QJ) (n t:Nat):(ZT V T n t).1.length<=n:=Q2o V n _ _
theorem Q8p {a b c lit v:Int} (h:Qz a b c=true) (ho:ZI (Yq a b c lit v)):Qz (QT a b c lit v).1 (QT a b c lit v).2.1 (QT a b c lit v).2.2=true:=by
 rw [Z0]at h ⊢;obtain⟨h1,h2,h3⟩:=h;refine⟨ho,?_,?_⟩
 . show 1<=(if YY lit v=0 then b else a)/\(if YY lit v=0 then b else a)<=134217728
   (split<;>assumption)
 show 1<=(if YY lit v=0\/YY lit v=1 then c else b)/\(if YY lit v=0\/YY lit v=1 then c else b)<=134217728;(split<;>assumption)
def V8 (outs:List (Int × Int × Int)) (r:Int × List (Int × Int × Int) × Int × Int × Int):Int × List (Int × Int × Int) × Int × Int × Int :=
  if r.1=0 then(0,outs++r.2.1,r.2.2)else(r.1,[],0,0,0)
theorem Q8q {a b c:Int} {L:List Qb} (h:(YS a b c L).1≠0):YS a b c L=((YS a b c L).1,[],0,0,0):=by
 cases L with
 | nil=>exact absurd rfl h
 | cons x L =>
   simp only [YS]at h ⊢;by_cases ho:ZI (Yq a b c x.lit x.val)
   . simp only [if_pos ho]at h ⊢
     by_cases h2:(YS (QT a b c x.lit x.val).1 (QT a b c x.lit x.val).2.1 (QT a b c x.lit x.val).2.2 L).1=0
     . simp only [if_pos h2]at h;exact absurd rfl h
     simp only [if_neg h2]
   simp only [if_neg ho]
theorem Q6T (a b c:Int) (L:List Qb):V8 [] (YS a b c L)=YS a b c L:=by
 unfold V8;by_cases h:(YS a b c L).1=0
 . rw [if_pos h,List.nil_append]
   rcases hx:YS a b c L with ⟨x,r⟩;rw [hx]at h;simp only at h;rw [h]
 rw [if_neg h,Q8q h]
theorem Q5B {outs:List (Int × Int × Int)} {a b c:Int} {x:Qb} {L:List Qb} (ho:ZI (Yq a b c x.lit x.val)) :
   V8 (outs++[((x.lit:Int),(x.len:Int),Yq a b c x.lit x.val)]) (YS (QT a b c x.lit x.val).1 (QT a b c x.lit x.val).2.1 (QT a b c x.lit x.val).2.2 L)=V8 outs (YS a b c (x::L)):=by
 unfold V8;simp only [YS,if_pos ho];by_cases h2:(YS (QT a b c x.lit x.val).1 (QT a b c x.lit x.val).2.1 (QT a b c x.lit x.val).2.2 L).1=0
 . simp [h2]
 simp [h2]
theorem Q8r {outs:List (Int × Int × Int)} {a b c:Int} {x:Qb} {L:List Qb} (ho:¬ZI (Yq a b c x.lit x.val)):V8 outs (YS a b c (x::L))=(15,[],0,0,0):=by
 unfold V8;simp [YS,ho]
theorem Jh.both {w:World} {F:Nat->Prop} {g:Nat} {bs:List Nat} {t:Nat} (h:Jh w F g bs t):Jh w (fun b=>F b/\b<w.heap.size) g bs t:=by
 obtain⟨A,c,h1,h2,h3⟩:=h;exact⟨A,c,h1,h2.both,h3⟩
theorem Q1Q (F G:Nat->Prop) (g k:Nat) (bs:List Nat) (s:Nat × Int) (cg p st tb o:Nat) (N:List Int) (cs:Array Value) (w:World) (h:Jk w F g k bs s) (hgk:g≠k) (hFk:∀b,F b->b≠k) (hFg:∀b,F b->b≠g)
   (hc:Qv w G cg p N) (hG:∀b,G b->b≠g/\b≠k) (hv:Qc p N 256 9) (hs:st<2^p) (hb:Blk w tb 96 cs) (h0:cs[o]?=some (.pointer (some ⟨cg,0,none⟩))) (h1:cs[o+1]?=some (.int .i64 (st:Nat)))
   (htg:tb≠g) (htk:tb≠k) (hFt:∀b,F b->b≠tb) :
   Calls Tryz.prog 95 #[.pointer (some ⟨g,0,none⟩),.pointer (some ⟨tb,o,none⟩)] w fun e w' =>
     e = .returned (.tuple #[])/\Upd (fun b=>b=g\/b=k\/b=tb) w w'/\Jk w' F g k bs (onE (Qu bs) p N st s).2/\Blk w' tb 96 (cs.setIfInBounds (o+1) (.int .i64 ((onE (Qu bs) p N st s).1:Nat))):=by
 obtain⟨c1,c2,c3,c4,c5,c6⟩:=KR hv hs;(have hp9:p<=9:=by have:=hv.2.1;omega);(have hbt:Jd p N st<=9:=by omega);have HCE:=hd_ (fun W (f:Q0 w W)=>Xs G cg p st N W (hc.fresh f) hs);have HTK:=hd_ (fun W (f:Q0 w W)=>Vz F g k bs s (Jd p N st) W (h.fresh f) (by omega) hgk hFk hFg);have htl:(QF (Qu bs) s (Jd p N st)).1<2^Jd p N st:=JA _ _ _;have hpw:2^Jd p N st<=512:=Nat.le_trans (Nat.pow_le_pow_right (by decide) hbt) (by decide);have HNX:=hd_ (fun W (f:Upd (fun b=>b=g\/b=k) w W)=>Q8h G cg p st (QF (Qu bs) s (Jd p N st)).1 N W (hc.upd f (fun b hb _ e=>by have:=hG b hb;rcases e with e|e;exact this.1 e;exact this.2 e)) hs hv (by omega));have e1:(Yy p N (Q7 p N) st).2.2=(Vo p N st:Nat):=c5;have e2:(QF (Qu bs) s (Jd p N st)).1%2^(Jp p N (Q7 p N) st).toNat=(QF (Qu bs) s (Jd p N st)).1:=Nat.mod_eq_of_lt htl;have e3:(Yy p N (Q7 p N) st).2.1=(Jd p N st:Nat):=c3;(have e4:((Vo p N st:Nat):Int)+((QF (Qu bs) s (Jd p N st)).1:Nat)=((onE (Qu bs) p N st s).1:Nat):=by simp [onE]);rw [e1,e2,e4]at HNX;rw [e1,e3]at HCE;have e5:(onE (Qu bs) p N st s).2=(QF (Qu bs) s (Jd p N st)).2:=rfl;rw [e5];have hgl:=h.1.lt;have hkl:=h.2.lt;have htl2:=hb.lt;generalize (Yy p N (Q7 p N) st).1=y1 at *;generalize ((Vo p N st:Nat):Int)=y2 at *;generalize ((onE (Qu bs) p N st s).1:Nat)=val at *;generalize QF (Qu bs) s (Jd p N st)=tk at *;generalize Jd p N st=bt at *;have d0:=hb.cell o;have d1:=hb.cell (o+1);rw [h0]at d0;rw [h1]at d1;have B0:=hd_ hb;have H0:=hd_ h0;have H1:=hd_ h1;have HFt:=hd_ hFt;have HN1:=hd_ (And.intro htg htk);clear h hc hv c1 c2 c3 c4 c5 c6 htl e1 e2 e3 e4 e5 hpw hs hFk hFg hb h0 h1 hG hFt htg htk hgk;refine Q6 fun R hR=>?_;go_enter Tryz.func95,Tryz.ntmps95;go_upto_region 0 with fail;go_cut [4,5] (fun q q5 wx=>∃K,q = .pointer (some ⟨K,0,none⟩)/\q5 = .int .i64 0/\Blk wx K 217 #[.int .i64 y1,.int .i64 (bt:Nat),.int .i64 y2]/\Q0 w wx/\w.heap.size<=K)
 case first =>
   have hss:∀W,Q0 w W->Q0 w W/\W.cell? ⟨tb,o,none⟩=some (.pointer (some ⟨cg,0,none⟩))/\W.cell? ⟨tb,o+1,none⟩=some (.int .i64 (st:Nat)):=fun W f=>⟨f,by rw [f.cells _ _ htl2];exact d0,by rw [f.cells _ _ htl2];exact d1⟩;have HSS:=hd_ hss;clear hss
   go_region_held3 (fun W=>Q0 w W/\W.cell? ⟨tb,o,none⟩=some (.pointer (some ⟨cg,0,none⟩))/\W.cell? ⟨tb,o+1,none⟩=some (.int .i64 (st:Nat)))
     (first|exact HSS.out _ (Upd.refl _ _).drew|exact HSS.out _ ((Upd.refl _ _).drew.alloc _)|exact HSS.out _ fx|exact HSS.out _ (fx.alloc _)|exact HSS.out _ (fx.trans (Q3q _ _ _ _ _) (fun b hb e=>by omega)))
     (first
       | (go_at_call 153;refine(HCE.out _ (And.left (by assumption))).mono ?_;rintro e w4 ⟨rfl,f4⟩;have fx:Q0 w w4:=Upd.trans' (And.left (by assumption)) f4;have bz:Blk w4 w.heap.size 217 #[.int .i64 0,.int .i64 0,.int .i64 0]:=(Blk.new w.drew 217 #[.int .i64 0,.int .i64 0,.int .i64 0]).fresh f4;have z0:=bz.cell 0;have z1:=bz.cell 1;have z2:=bz.cell 2;have y0:=bz.frozen 0;have y1':=bz.frozen 1;have y2':=bz.frozen 2)
       | (go_at_call 153;refine(HCE.out _ (And.left (by assumption))).mono ?_;rintro e w4 ⟨rfl,f4⟩;have fx:Q0 w w4:=Upd.trans' (And.left (by assumption)) f4))
   (all_goals go_wp2_with fail);(all_goals go_meet)
   all_goals
     first
       | exact⟨w4.heap.size,rfl,rfl,Blk.new _ _ _,fx.alloc _,fx.size⟩
       | exact⟨w.heap.size,rfl,rfl,by simpa using((bz.set_ 0 (.int .i64 y1)).set_ 1 (.int .i64 (bt:Nat))).set_ 2 (.int .i64 y2),fx.trans (Q3q _ _ _ _ _) (fun b hb e=>by omega),Nat.le_refl _⟩
 case rest =>
   obtain⟨K,rfl,rfl,bK,fx,hK⟩:=hcut;have b1:=B0.out.fresh fx;(have d0':wc.cell? ⟨tb,o,none⟩=some (.pointer (some ⟨cg,0,none⟩)):=by rw [fx.cells _ _ htl2];exact d0);(have d1':wc.cell? ⟨tb,o+1,none⟩=some (.int .i64 (st:Nat)):=by rw [fx.cells _ _ htl2];exact d1);have d2':=bK.cell 1;simp at d2';have z1:=b1.frozen (o+1);have B1:=hd_ b1;have BK:=hd_ bK;have FX:=hd_ fx;have HK:=hd_ (show K≠g/\K≠k/\K≠tb by omega)
   have HSS:Hid (∀W,Upd (fun b=>b=g\/b=k) wc W->W.cell? ⟨tb,o,none⟩=some (.pointer (some ⟨cg,0,none⟩))/\W.cell? ⟨tb,o+1,none⟩=some (.int .i64 (st:Nat))/\W.cell? ⟨K,1,none⟩=some (.int .i64 (bt:Nat))/\W.frozen? ⟨tb,o+1,none⟩=false):=fun W u=>by
     have b2:=B1.out.upd u (by have:=HN1.out;rintro(h|h);exact this.1 h;exact this.2 h);have k2:=BK.out.upd u (by have:=HK.out;rintro(h|h);exact this.1 h;exact this.2.1 h);exact⟨by rw [b2.cell];exact H0.out,by rw [b2.cell];exact H1.out,by simpa using k2.cell 1,b2.frozen _⟩
   clear b1 bK fx hK d0 d1;go_wp2_with fail
   go_region_with
     (first
       | (go_at_call 93;refine(HTK.out _ (by first|exact FX.out|exact FX.out.drew|exact FX.out.drewN _)).mono ?_;rintro e w4 ⟨rfl,u4,s4⟩;have ux:Upd (fun b=>b=g\/b=k) wc w4:=(by first|exact u4|exact Upd.trans' ((Upd.refl _ _).drew) u4|exact Upd.trans' ((Upd.refl _ _).drewN _) u4);obtain⟨c1x,c2x,c3x,c4x⟩:=HSS.out _ ux)
       | (go_at_call 154;refine(HNX.out _ (by exact(FX.out.mono (T:=fun b=>b=g\/b=k) fun _ _ h=>h.elim).trans' ux)).mono ?_;rintro e w5 ⟨rfl,f5⟩;have uy:Upd (fun b=>b=g\/b=k) wc w5:=ux.trans f5 (fun _ _ h=>h.elim);obtain⟨c1y,c2y,c3y,c4y⟩:=HSS.out _ uy))
   all_goals
     have u2:Upd (fun b=>b=tb) w5 (w5.setCell ⟨tb,o+1,none⟩ (.int .i64 (val:Nat))):=(Upd.refl (fun b=>b=tb) w5).setCell (p:=⟨tb,o+1,none⟩) (fun _=>rfl) _;have u3:Upd (fun b=>b=g\/b=k\/b=tb) w w5:=(FX.out.mono (T:=fun b=>b=g\/b=k\/b=tb) fun _ _ h=>h.elim).trans' (uy.mono (T:=fun b=>b=g\/b=k\/b=tb) fun _ _ h=>by rcases h with h|h;exact .inl h;exact .inr (.inl h));have b5:=(B1.out.upd uy (by have:=HN1.out;rintro(h|h);exact this.1 h;exact this.2 h)).set_ (o+1) (.int .i64 (val:Nat));have s5:=(s4.fresh f5).upd u2 (Ne.symm HN1.out.1) (Ne.symm HN1.out.2) (fun b hb=>HFt.out b hb);(try go_end0)
     first
       | exact hR.out _ _ ⟨rfl,u3.trans u2 (fun b _ h=>.inr (.inr h)),s5,b5⟩
       | exact hR.out _ _ ⟨rfl,(u3.trans u2 (fun b _ h=>.inr (.inr h))).drew,s5,b5⟩
       | trace_state
end Go.Proofs.YtjfdaphjijfieaaGreat
