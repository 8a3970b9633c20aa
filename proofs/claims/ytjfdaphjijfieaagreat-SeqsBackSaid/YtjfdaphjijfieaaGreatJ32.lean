/-
  Joined texts, part 32: contracts and plain lemmas.
  Conditions: none beyond those of each theorem.
-/
import Derived.Test.YtjfdaphjijfieaaGreatJ23
import Derived.Test.YtjfdaphjijfieaaGreatJ14
import Derived.Test.YtjfdaphjijfieaaGreatJ22
import Derived.Test.YtjfdaphjijfieaaGreatJ31
set_option linter.unusedVariables false
set_option linter.unusedSimpArgs false
set_option maxRecDepth 100000
universe u
namespace Go.Proofs.YtjfdaphjijfieaaGreat
open Go.RowKit
def takeE (V : Nat) (s : Nat × Int) (n : Nat) : Nat × Nat × Int :=
  if s.2 ≠ 0 then (0,s) else if n<=s.1 then (V / 2 ^ (s.1 - n) % 2 ^ n,s.1 - n,0) else (0,s.1,14)
def symN (p : Nat) (N : List Int) (st : Nat) : Nat:=(symZ (spreadN p N) st).toNat
def bitN (p : Nat) (N : List Int) (st : Nat) : Nat:=(bitZ p N (spreadN p N) st).toNat
def bseN (p : Nat) (N : List Int) (st : Nat) : Nat:=(baseZ p N (spreadN p N) st).toNat
def exB (o : Bool) (c : Nat) : Nat:=if o then c else bitsL c
def loB (o : Bool) (c : Nat) : Nat:=if o then 2 ^ c else firstL c
def valE (V : Nat) (o : Bool) (p : Nat) (N : List Int) (st : Nat) (s : Nat × Int) : Nat × Nat × Int :=
  (loB o (symN p N st) + (takeE V s (exB o (symN p N st))).1,(takeE V s (exB o (symN p N st))).2)
def onE (V : Nat) (p : Nat) (N : List Int) (st : Nat) (s : Nat × Int) : Nat × Nat × Int :=
  (bseN p N st + (takeE V s (bitN p N st)).1,(takeE V s (bitN p N st)).2)
structure Trks where
  pL : Nat
  NL : List Int
  pO : Nat
  NO : List Int
  pM : Nat
  NM : List Int
structure Sts where
  l : Nat
  o : Nat
  m : Nat
structure RawN where
  lit : Nat
  len : Nat
  val : Nat
def Trks.ok (T : Trks) : Prop:=Valid T.pL T.NL 44 9/\Valid T.pO T.NO 28 8/\Valid T.pM T.NM 44 9
def Sts.ok (T : Trks) (S : Sts) : Prop:=S.l < 2 ^ T.pL/\S.o < 2 ^ T.pO/\S.m < 2 ^ T.pM
def oneE (V : Nat) (T : Trks) (S : Sts) (s : Nat × Int) : RawN × Nat × Int :=
  let o:=valE V true T.pO T.NO S.o s
  let m:=valE V false T.pM T.NM S.m o.2
  let l:=valE V false T.pL T.NL S.l m.2
  (⟨l.1,m.1 + 3,o.1⟩,l.2)
def moveE (V : Nat) (T : Trks) (S : Sts) (s : Nat × Int) : Sts × Nat × Int :=
  let l:=onE V T.pL T.NL S.l s
  let m:=onE V T.pM T.NM S.m l.2
  let o:=onE V T.pO T.NO S.o m.2
  (⟨l.1,o.1,m.1⟩,o.2)
def readE (V : Nat) (T : Trks) : Nat->Sts->Nat × Int->List RawN × Nat × Int
  | 0,_,s=>([],s)
  | k + 1,S,s =>
    if s.2 ≠ 0 then ([],s) else if k = 0 then ([(oneE V T S s).1],(oneE V T S s).2)
    else ((oneE V T S s).1 :: (readE V T k (moveE V T S (oneE V T S s).2).1 (moveE V T S (oneE V T S s).2).2).1,
      (readE V T k (moveE V T S (oneE V T S s).2).1 (moveE V T S (oneE V T S s).2).2).2)
def startE (V : Nat) (T : Trks) (s : Nat × Int) : Sts × Nat × Int :=
  let l:=takeE V s T.pL
  let o:=takeE V l.2 T.pO
  let m:=takeE V o.2 T.pM
  (⟨l.1,o.1,m.1⟩,m.2)
def allE (V : Nat) (T : Trks) (n t : Nat) : List RawN × Nat × Int :=
  let r:=readE V T n (startE V T (t,0)).1 (startE V T (t,0)).2
  (r.1,r.2.1,if r.2.2 = 0/\r.2.1 ≠ 0 then 14 else r.2.2)
def offsE (a b c : Int) : List RawN->Int × List (Int × Int × Int) × Int × Int × Int
  | []=>(0,[],a,b,c)
  | x :: l =>
    if offOk (offR a b c x.lit x.val) then
      let r:=offsE (nextR a b c x.lit x.val).1 (nextR a b c x.lit x.val).2.1 (nextR a b c x.lit x.val).2.2 l
      if r.1 = 0 then (0,((x.lit : Int),(x.len : Int),offR a b c x.lit x.val) :: r.2.1,r.2.2) else (r.1,[],0,0,0)
    else (15,[],0,0,0)
def rowE (bs : List Nat) (T : Trks) (n : Nat) (a b c : Int) : Int × List (Int × Int × Int) × Int × Int × Int :=
  if (bs.getLast?).getD 0 = 0 then (14,[],0,0,0)
  else if (allE (valR bs) T n (closedN bs)).2.2 ≠ 0 then ((allE (valR bs) T n (closedN bs)).2.2,[],0,0,0)
  else offsE a b c (allE (valR bs) T n (closedN bs)).1
structure Tabs3 where
  lL : Int
  NL : List Int
  lO : Int
  NO : List Int
  lM : Int
  NM : List Int
def Tabs3.none : Tabs3:=⟨0,[],0,[],0,[]⟩
def Tabs3.trks (T : Tabs3) : Trks:=⟨T.lL.toNat,T.NL,T.lO.toNat,T.NO,T.lM.toNat,T.NM⟩
def headE (bs : List Nat) (at_ : Nat) (T : Tabs3) : Int × Tabs3 × Nat :=
  if at_ < bs.length then
    let x:=bs[at_]?.getD 0
    if 64<=x then (13,Tabs3.none,0) else
    let l:=decN ((x % 4 : Nat) : Int) 0 T.lL T.NL bs (at_ + 1)
    if l.1 ≠ 0 then (l.1,Tabs3.none,0) else
    let o:=decN ((x / 4 % 4 : Nat) : Int) 1 T.lO T.NO bs (at_ + 1 + l.2.2.2)
    if o.1 ≠ 0 then (o.1,Tabs3.none,0) else
    let m:=decN ((x / 16 % 4 : Nat) : Int) 2 T.lM T.NM bs (at_ + 1 + l.2.2.2 + o.2.2.2)
    if m.1 ≠ 0 then (m.1,Tabs3.none,0) else
    (0,⟨l.2.1,l.2.2.1,o.2.1,o.2.2.1,m.2.1,m.2.2.1⟩,at_ + 1 + l.2.2.2 + o.2.2.2 + m.2.2.2)
  else (3,Tabs3.none,0)
structure SecE where
  err : Int
  seqs : List (Int × Int × Int)
  tabs : Tabs3
  a : Int
  b : Int
  c : Int
  to_ : Nat
def SecE.no (x : Int) : SecE:=⟨x,[],Tabs3.none,0,0,0,0⟩
def decE (bs : List Nat) (at_ : Nat) (T : Tabs3) (a b c : Int) : SecE :=
  if repOk a b c = false then .no 2 else
  let v:=varN (bs.drop at_)
  if v.2.2 ≠ 0 then .no v.2.2 else if 65536 < v.1 then .no 15
  else if v.1 = 0 then ⟨0,[],T,a,b,c,at_ + v.2.1⟩
  else
    let h:=headE bs (at_ + v.2.1) T
    if h.1 ≠ 0 then .no h.1 else
    let r:=rowE (bs.drop h.2.2) h.2.1.trks v.1 a b c
    if r.1 ≠ 0 then .no r.1 else ⟨0,r.2.1,h.2.1,r.2.2.1,r.2.2.2.1,r.2.2.2.2,bs.length⟩
theorem takeE_lt (V : Nat) (s : Nat × Int) (n : Nat) : (takeE V s n).1 < 2 ^ n:=by
 have h:=Nat.two_pow_pos n;unfold takeE;split
 . exact h
 split
 . exact Nat.mod_lt _ h
 exact h
theorem cell_good {p : Nat} {N : List Int} (hv : Valid p N 256 9) {st : Nat} (hs : st < 2 ^ p) :
   symZ (spreadN p N) st = (symN p N st : Nat)/\symN p N st < N.length/\bitZ p N (spreadN p N) st = (bitN p N st : Nat)/\bitN p N st<=p /\
     baseZ p N (spreadN p N) st = (bseN p N st : Nat)/\bseN p N st + 2 ^ bitN p N st<=2 ^ p:=by
 obtain ⟨c,h1,h2,h3,h4,h5,h6,h7,h8⟩:=cell_ok hv hs;(have e1 : symN p N st = c:=by unfold symN;rw [h1];simp);(have e2 : bitZ p N (spreadN p N) st = (bitN p N st : Nat):=by unfold bitN;omega);(have e3 : baseZ p N (spreadN p N) st = (bseN p N st : Nat):=by unfold bseN;omega);refine ⟨by rw [h1,e1],by omega,e2,by omega,e3,?_⟩;(have h9 : (2 : Int) ^ bitN p N st = ((2 ^ bitN p N st : Nat) : Int):=by simp);(have h10 : (2 : Int) ^ p = ((2 ^ p : Nat) : Int):=by simp);have e4 : (bitZ p N (spreadN p N) st).toNat = bitN p N st:=rfl;rw [e4,e3,h9,h10] at h8;omega
theorem onE_lt {p : Nat} {N : List Int} (hv : Valid p N 256 9) {st : Nat} (hs : st < 2 ^ p) (V : Nat) (s : Nat × Int) : (onE V p N st s).1 < 2 ^ p:=by
 obtain ⟨_,_,_,_,_,h⟩:=cell_good hv hs;have:=takeE_lt V s (bitN p N st);unfold onE;simp only;omega
theorem Trks.ok.wide {T : Trks} (h : T.ok) : Valid T.pL T.NL 256 9/\Valid T.pO T.NO 256 9/\Valid T.pM T.NM 256 9:=by
 obtain ⟨⟨a1,a2,a3,a4,a5,a6⟩,⟨b1,b2,b3,b4,b5,b6⟩,⟨c1,c2,c3,c4,c5,c6⟩⟩:=h;exact ⟨⟨a1,a2,a3,a4,by omega,a6⟩,⟨b1,by omega,b3,b4,by omega,b6⟩,⟨c1,c2,c3,c4,by omega,c6⟩⟩
theorem moveE_ok {T : Trks} (h : T.ok) {S : Sts} (hS : S.ok T) (V : Nat) (s : Nat × Int) : (moveE V T S s).1.ok T:=by
 obtain ⟨h1,h2,h3⟩:=h.wide;exact ⟨onE_lt h1 hS.1 _ _,onE_lt h2 hS.2.1 _ _,onE_lt h3 hS.2.2 _ _⟩
theorem startE_ok (V : Nat) (T : Trks) (s : Nat × Int) : (startE V T s).1.ok T:=⟨takeE_lt _ _ _,takeE_lt _ _ _,takeE_lt _ _ _⟩
def stF (V : Nat) (T : Trks) (t : Nat) : Nat->Sts × Nat × Int
  | 0=>(⟨0,0,0⟩,t,0)
  | 1=>(⟨(takeE V (t,0) T.pL).1,0,0⟩,(takeE V (t,0) T.pL).2)
  | 2=>(⟨(takeE V (t,0) T.pL).1,(takeE V (takeE V (t,0) T.pL).2 T.pO).1,0⟩,(takeE V (takeE V (t,0) T.pL).2 T.pO).2)
  | _=>startE V T (t,0)
def mvF (V : Nat) (T : Trks) (S : Sts) (s : Nat × Int) : Nat->Sts × Nat × Int
  | 0=>(S,s)
  | 1=>(⟨(onE V T.pL T.NL S.l s).1,S.o,S.m⟩,(onE V T.pL T.NL S.l s).2)
  | 2=>(⟨(onE V T.pL T.NL S.l s).1,S.o,(onE V T.pM T.NM S.m (onE V T.pL T.NL S.l s).2).1⟩,(onE V T.pM T.NM S.m (onE V T.pL T.NL S.l s).2).2)
  | _=>moveE V T S s
def rawC (r : RawN) : List Value:=[.int .i64 (r.lit : Nat),.int .i64 (r.len : Nat),.int .i64 (r.val : Nat)]
theorem readE_stop (V : Nat) (T : Trks) (k : Nat) (S : Sts) (s : Nat × Int) (h : k = 0\/s.2 ≠ 0) : readE V T k S s = ([],s):=by
 cases k with
 | zero=>rfl
 | succ k =>
   rcases h with h | h
   . omega
   simp only [readE];rw [if_pos h]
theorem readE_last (V : Nat) (T : Trks) (S : Sts) (s : Nat × Int) (h : s.2 = 0) : readE V T 1 S s = ([(oneE V T S s).1],(oneE V T S s).2):=by
 simp only [readE];rw [if_neg (by rw [h];simp)];simp
theorem readE_more (V : Nat) (T : Trks) (k : Nat) (S : Sts) (s : Nat × Int) (h : s.2 = 0) (hk : 0 < k) : readE V T (k + 1) S s =
   ((oneE V T S s).1 :: (readE V T k (moveE V T S (oneE V T S s).2).1 (moveE V T S (oneE V T S s).2).2).1,(readE V T k (moveE V T S (oneE V T S s).2).1 (moveE V T S (oneE V T S s).2).2).2):=by
 rw [readE,if_neg (by rw [h];simp),if_neg (by omega)]
theorem valE_lt {p : Nat} {N : List Int} {o : Bool} (hv : Valid p N (if o then 28 else 44) 9) {st : Nat} (hs : st < 2 ^ p) (V : Nat) (s : Nat × Int) : (valE V o p N st s).1 < 2 ^ 28/\(o = true->1<=(valE V o p N st s).1):=by
 have hw : Valid p N 256 9:=by
   obtain ⟨a1,a2,a3,a4,a5,a6⟩:=hv;exact ⟨a1,a2,a3,a4,by cases o <;> simp at a5 <;> omega,a6⟩
 obtain ⟨_,h2,_⟩:=cell_good hw hs;have hN : (N.length : Int)<=(if o then 28 else 44):=hv.2.2.2.2.1;have ht:=takeE_lt V s (exB o (symN p N st));unfold valE;simp only;generalize (takeE V s (exB o (symN p N st))).1 = r at *
 cases o with
 | true =>
   simp only [if_true] at hN;simp only [exB,loB,if_true] at ht ⊢;(have hc : symN p N st<=27:=by omega);have h1 : 2 ^ symN p N st<=2 ^ 27:=Nat.pow_le_pow_right (by decide) hc;have h0:=Nat.two_pow_pos (symN p N st);exact ⟨by omega,fun _=>by omega⟩
 | false =>
   simp only [Bool.false_eq_true,if_false] at hN;simp only [exB,loB,Bool.false_eq_true,if_false,false_implies,and_true] at ht ⊢;(have hc : symN p N st<=43:=by omega);unfold bitsL firstL at *;split
   . next h=>rw [if_pos h] at ht;omega
   next h =>
   rw [if_neg h] at ht;have h1 : 2 ^ (symN p N st / 2 - 5)<=2 ^ 16:=Nat.pow_le_pow_right (by decide) (by omega);have h3 : (2 + symN p N st % 2) * 2 ^ (symN p N st / 2 - 5)<=3 * 2 ^ 16:=Nat.mul_le_mul (by omega) h1;omega
theorem sum_eq_le {f g : Nat->Nat} : ∀ (n : Nat),(∀ c,c < n->f c<=g c)->((List.range n).map f).sum = ((List.range n).map g).sum->∀ c,c < n->f c = g c:=by
 have hle : ∀ (n : Nat),(∀ c,c < n->f c<=g c)->((List.range n).map f).sum<=((List.range n).map g).sum:=by
   intro n
   induction n with
   | zero=>intro _;simp
   | succ n ih =>
     intro h;rw [List.range_succ,List.map_append,List.map_append,List.sum_append,List.sum_append];have h1:=ih fun c hc=>h c (by omega);have h2:=h n (by omega);simp only [List.map_cons,List.map_nil,List.sum_cons,List.sum_nil];omega
 intro n
 induction n with
 | zero=>intro _ _ c hc;omega
 | succ n ih =>
   intro h hs c hc;rw [List.range_succ,List.map_append,List.map_append,List.sum_append,List.sum_append] at hs;simp only [List.map_cons,List.map_nil,List.sum_cons,List.sum_nil] at hs;have h1:=hle n fun c hc=>h c (by omega);have h2:=h n (by omega);by_cases hcn : c = n
   . subst hcn;omega
   exact ih (fun c hc=>h c (by omega)) (by omega) c (by omega)
theorem sum_add {f g : Nat->Nat} : ∀ (n : Nat),((List.range n).map fun c=>f c + g c).sum = ((List.range n).map f).sum + ((List.range n).map g).sum:=by
 intro n
 induction n with
 | zero=>simp
 | succ n ih =>
   rw [List.range_succ];simp only [List.map_append,List.sum_append,List.map_cons,List.map_nil,List.sum_cons,List.sum_nil];omega
theorem sum_zero {f : Nat->Nat} : ∀ (n : Nat),(∀ c,c < n->f c = 0)->((List.range n).map f).sum = 0:=by
 intro n
 induction n with
 | zero=>intro _;simp
 | succ n ih =>
   intro h;rw [List.range_succ];simp only [List.map_append,List.sum_append,List.map_cons,List.map_nil,List.sum_cons,List.sum_nil];have h1:=h n (by omega);have h2:=ih fun c hc=>h c (by omega);omega
theorem sum_one {y : Nat} : ∀ (n : Nat),y < n->((List.range n).map fun c=>if y = c then 1 else 0).sum = 1:=by
 intro n
 induction n with
 | zero=>intro h;omega
 | succ n ih =>
   intro h;rw [List.range_succ];simp only [List.map_append,List.sum_append,List.map_cons,List.map_nil,List.sum_cons,List.sum_nil];by_cases hy : y = n
   . subst hy
     rw [sum_zero y fun c hc=>if_neg (by omega)];simp
   rw [ih (by omega),if_neg hy];(try rfl)
theorem sum_count {n : Nat} : ∀ (P : List Int),(∀ x ∈ P,∃ c : Nat,x = c/\c < n)->((List.range n).map fun c : Nat=>P.count (c : Int)).sum = P.length
 | [],_=>by
   rw [sum_zero n fun c _=>by simp]
   rfl
 | x :: P,h=>by
   obtain ⟨y,rfl,hy⟩:=h x (by simp)
   have e : (fun c : Nat=>((y : Int) :: P).count (c : Int)) = fun c : Nat=>P.count (c : Int) + if y = c then 1 else 0:=by
     funext c
     rw [List.count_cons];by_cases hc : y = c
     . subst hc;simp
     (have : ¬ ((y : Int) == (c : Int)) = true:=by simp;omega);rw [if_neg this,if_neg hc]
   rw [e,sum_add,sum_count P fun x hx=>h x (List.mem_cons_of_mem _ hx),sum_one n hy];rfl
theorem sum_abs : ∀ (N : List Int),((((List.range N.length).map fun c : Nat=>(absZ ((N[c]?).getD 0)).toNat).sum : Nat) : Int) = sumZ N
 | []=>rfl
 | x :: N=>by
   rw [List.length_cons,List.range_succ_eq_map,List.map_cons,List.sum_cons,List.map_map,sumZ_cons]
   have h1:=sum_abs N
   have e : ((fun c : Nat=>(absZ (((x :: N)[c]?).getD 0)).toNat) ∘ Nat.succ) = fun c : Nat=>(absZ ((N[c]?).getD 0)).toNat:=by
     funext c
     simp [Function.comp]
   rw [e];(have hx : 0<=absZ x:=by unfold absZ;split <;> omega);simp only [List.getElem?_cons_zero,Option.getD_some];omega
theorem spread_count_eq {p : Nat} {N : List Int} (hv : Valid p N 256 9) {c : Nat} (hc : c < N.length) : (((spreadN p N).count (c : Int) : Nat) : Int) = absZ N[c]:=by
 have h1:=sum_count (n:=N.length) (spreadN p N) (by
   intro x hx;obtain ⟨i,hi,rfl⟩:=List.mem_iff_getElem.1 hx;(have hi' : i < 2 ^ p:=by simpa using hi);obtain ⟨c,h1,h2,_⟩:=spread_val hv hi';rw [List.getElem?_eq_getElem hi] at h1
   exact ⟨c,Option.some.inj h1,h2⟩)
 have h2:=sum_abs N;rw [hv.2.2.2.2.2.2.2] at h2;(have h3 : ((2 : Int) ^ (p : Int).toNat) = ((2 ^ p : Nat) : Int):=by simp);rw [spreadN_length] at h1
 have h4:=sum_eq_le (f:=fun c : Nat=>(spreadN p N).count (c : Int)) (g:=fun c : Nat=>(absZ ((N[c]?).getD 0)).toNat) N.length (by
   intro c hc;have:=spread_count hv hc;simp only [List.getElem?_eq_getElem hc,Option.getD_some]
   omega) (by omega) c hc
 simp only [List.getElem?_eq_getElem hc,Option.getD_some] at h4;(have : 0<=absZ N[c]:=by unfold absZ;split <;> omega);omega
theorem pos_count {P : List Int} {c : Int} : ∀ (k : Nat),k<=P.length->(posZ P c k).length = cntZ P k c:=by
 intro k
 induction k with
 | zero=>intro _;simp [posZ,cntZ]
 | succ k ih =>
   intro h;rw [posZ_succ (by omega),cntZ_succ (by omega),List.length_append,ih (by omega)]
   congr 1
   (split <;> rfl)
theorem pos_get {P : List Int} {c : Int} : ∀ (k : Nat),k<=P.length->∀ (j : Nat) (i : Nat),(posZ P c k)[j]? = some i->i < k/\P[i]? = some c/\cntZ P i c = j:=by
 intro k
 induction k with
 | zero=>intro _ j i h;simp [posZ] at h
 | succ k ih =>
   intro hk j i h;rw [posZ_succ (by omega),List.getElem?_append] at h;split at h
   . obtain ⟨h1,h2,h3⟩:=ih (by omega) j i h
     exact ⟨by omega,h2,h3⟩
   next hj =>
   split at h
   . next hc =>
     have h0 : j - (posZ P c k).length = 0:=by
       have:=(List.getElem?_eq_some_iff.1 h).1;simp at this;omega
     rw [h0] at h;simp at h;subst h;refine ⟨by omega,by rw [List.getElem?_eq_getElem (by omega),hc],?_⟩;rw [<- pos_count k (by omega)];omega
   simp at h
def plN (p : Nat) (N : List Int) (c : Nat) : List Nat:=posZ (spreadN p N) (c : Int) (2 ^ p)
theorem pl_length {p : Nat} {N : List Int} (hv : Valid p N 256 9) {c : Nat} (hc : c < N.length) : (((plN p N c).length : Nat) : Int) = absZ N[c]:=by
 unfold plN;rw [pos_count _ (by simp)];unfold cntZ;rw [List.take_of_length_le (by simp)];exact spread_count_eq hv hc
theorem bitLen_uniq {m L : Nat} (h0 : 1<=L) (h1 : 2 ^ (L - 1)<=m) (h2 : m < 2 ^ L) (hm : m < 2 ^ 64) : Lib.bitLen m = L:=by
 have hp:=Nat.two_pow_pos (L - 1);obtain ⟨a0,a1,a2⟩:=bitLen_specC hm (by omega);generalize Lib.bitLen m = K at *;rcases Nat.lt_trichotomy K L with h | h | h
 . have : 2 ^ K<=2 ^ (L - 1):=Nat.pow_le_pow_right (by decide) (by omega)
   omega
 . exact h
 have : 2 ^ L<=2 ^ (K - 1):=Nat.pow_le_pow_right (by decide) (by omega);omega
theorem place_cell {p : Nat} {N : List Int} (hv : Valid p N 256 9) {c j i k : Nat} (hc : c < N.length) (hi : (plN p N c)[j]? = some i) (hk : k<=p) (h1 : 2 ^ (p - k)<=(plN p N c).length + j) (h2 : (plN p N c).length + j < 2 ^ (p + 1 - k)) :
   i < 2 ^ p/\symN p N i = c/\bitN p N i = k/\bseN p N i = ((plN p N c).length + j) * 2 ^ k - 2 ^ p:=by
 (have hp : p<=9:=by have:=hv.2.1;omega);have hl:=pl_length hv hc;unfold plN at hi h1 h2 hl ⊢;obtain ⟨g1,g2,g3⟩:=pos_get _ (by simp) j i hi;(have hs : symZ (spreadN p N) i = c:=by unfold symZ;rw [g2];rfl)
 have hnum : numZ N (spreadN p N) i = (((posZ (spreadN p N) (c : Int) (2 ^ p)).length + j : Nat) : Int):=by
   unfold numZ;rw [hs,Int.toNat_natCast,List.getElem?_eq_getElem hc,g3];simp only [Option.getD_some];have h5:=hv.2.2.2.2.2.2.1 _ (List.getElem_mem hc);(have ha : max N[c] (-N[c]) = absZ N[c]:=by unfold absZ;split <;> omega);rw [ha];omega
 generalize (posZ (spreadN p N) (c : Int) (2 ^ p)).length = n at *
 have hb : bitZ p N (spreadN p N) i = (k : Nat):=by
   unfold bitZ;rw [hnum,Int.toNat_natCast];have h64 : n + j < 2 ^ 64:=Nat.lt_of_lt_of_le h2 (Nat.pow_le_pow_right (by decide) (by omega));rw [bitLen_uniq (L:=p + 1 - k) (by omega) (by rw [show p + 1 - k - 1 = p - k by omega];exact h1) h2 h64];omega
 refine ⟨g1,by unfold symN;rw [hs];simp,by unfold bitN;rw [hb];simp,?_⟩;unfold bseN baseZ;rw [hnum,hb,Int.toNat_natCast];(have e1 : (((n + j : Nat) : Int) * 2 ^ k) = (((n + j) * 2 ^ k : Nat) : Int):=by simp);(have e2 : ((2 : Int) ^ p) = ((2 ^ p : Nat) : Int):=by simp);rw [e1,e2];omega
def preG (x n : Nat) : Nat->Nat->Nat
  | 0,k=>k
  | f + 1,k=>if 2 * n<=x / 2 ^ k then preG x n f (k + 1) else k
def preK (x n : Nat) : Nat:=preG x n 11 0
theorem preG_spec {x n : Nat} (hn : 1<=n) (hx : x < 2 ^ 11) : ∀ (f k : Nat),11<=f + k->n<=x / 2 ^ k->n<=x / 2 ^ preG x n f k/\x / 2 ^ preG x n f k < 2 * n
 | 0,k,hf,h=>by
   simp only [preG]
   have : 2 ^ 11<=2 ^ k:=Nat.pow_le_pow_right (by decide) (by omega)
   have : x / 2 ^ k = 0:=Nat.div_eq_of_lt (by omega)
   omega
 | f + 1,k,hf,h=>by
   simp only [preG]
   split
   . next h2 =>
     refine preG_spec hn hx f (k + 1) (by omega) ?_
     rw [Nat.pow_succ,<- Nat.div_div_eq_div_mul]
     omega
   next h2=>exact ⟨h,by omega⟩
theorem preK_spec {x n : Nat} (hn : 1<=n) (hx : x < 2 ^ 11) (h : n<=x) : n<=x / 2 ^ preK x n/\x / 2 ^ preK x n < 2 * n:=preG_spec hn hx 11 0 (by omega) (by simpa using h)
def stepK (p : Nat) (N : List Int) (c st : Nat) : Nat:=preK (st + 2 ^ p) (plN p N c).length
def stepS (p : Nat) (N : List Int) (c st : Nat) : Nat:=((plN p N c)[(st + 2 ^ p) / 2 ^ stepK p N c st - (plN p N c).length]?).getD 0
def stepB (p : Nat) (N : List Int) (c st : Nat) : Nat:=(st + 2 ^ p) % 2 ^ stepK p N c st
def lowS (p : Nat) (N : List Int) (c : Nat) : Nat:=((plN p N c)[0]?).getD 0
theorem low_ok {p : Nat} {N : List Int} (hv : Valid p N 256 9) {c : Nat} (hc : c < N.length) (hn : 1<=(plN p N c).length) : lowS p N c < 2 ^ p/\symN p N (lowS p N c) = c:=by
 unfold lowS;rw [List.getElem?_eq_getElem (by omega),Option.getD_some];have hi:=List.getElem?_eq_getElem (l:=plN p N c) (i:=0) (by omega);obtain ⟨g1,g2,g3⟩:=pos_get (P:=spreadN p N) (c:=(c : Int)) (2 ^ p) (by simp) 0 _ hi;refine ⟨g1,?_⟩;unfold symN symZ;rw [g2];simp
theorem step_ok {p : Nat} {N : List Int} (hv : Valid p N 256 9) {c st : Nat} (hc : c < N.length) (hn : 1<=(plN p N c).length) (hs : st < 2 ^ p) :
   stepS p N c st < 2 ^ p/\symN p N (stepS p N c st) = c/\bitN p N (stepS p N c st) = stepK p N c st/\bseN p N (stepS p N c st) + stepB p N c st = st/\stepB p N c st < 2 ^ stepK p N c st/\stepK p N c st<=p /\
     (st + 2 ^ p) / 2 ^ stepK p N c st - (plN p N c).length < (plN p N c).length/\(plN p N c).length<=(st + 2 ^ p) / 2 ^ stepK p N c st:=by
 (have hp : p<=9:=by have:=hv.2.1;omega);have hpp : 2 ^ p<=2 ^ 9:=Nat.pow_le_pow_right (by decide) hp;have hle : (plN p N c).length<=2 ^ p:=posZ_le _ _ _;obtain ⟨x,hx⟩:=nm_ (st + 2 ^ p);(have hx2 : x < 2 ^ (p + 1):=by rw [Nat.pow_succ];omega);obtain ⟨q1,q2⟩:=preK_spec (x:=x) (n:=(plN p N c).length) hn (by omega) (by omega);unfold stepS stepB;(have hK : stepK p N c st = preK x (plN p N c).length:=by unfold stepK;rw [hx]);rw [hK,<- hx];generalize preK x (plN p N c).length = k at *
 have hk : k<=p:=by
   rcases Nat.lt_or_ge p k with h | h
   . have : 2 ^ (p + 1)<=2 ^ k:=Nat.pow_le_pow_right (by decide) h
     have : x / 2 ^ k = 0:=Nat.div_eq_of_lt (by omega);omega
   exact h
 have hpk:=Nat.two_pow_pos k;(have e1 : 2 ^ (p - k) * 2 ^ k = 2 ^ p:=by rw [<- Nat.pow_add];congr 1;omega);(have e2 : 2 ^ (p + 1 - k) * 2 ^ k = 2 ^ (p + 1):=by rw [<- Nat.pow_add];congr 1;omega);(have d1 : 2 ^ (p - k)<=x / 2 ^ k:=by rw [Nat.le_div_iff_mul_le hpk,e1];omega);(have d2 : x / 2 ^ k < 2 ^ (p + 1 - k):=by rw [Nat.div_lt_iff_lt_mul hpk,e2];exact hx2);have hdm:=Nat.div_add_mod x (2 ^ k);have hml:=Nat.mod_lt x hpk;obtain ⟨j,hj⟩ : ∃ j,x / 2 ^ k = (plN p N c).length + j:=⟨x / 2 ^ k - (plN p N c).length,by omega⟩;rw [hj] at q1 q2 d1 d2 hdm ⊢;(have hjl : j < (plN p N c).length:=by omega);(have e3 : (plN p N c).length + j - (plN p N c).length = j:=by omega);rw [e3,List.getElem?_eq_getElem hjl,Option.getD_some];obtain ⟨r1,r2,r3,r4⟩:=place_cell hv hc (List.getElem?_eq_getElem hjl) hk d1 d2;refine ⟨r1,r2,r3,?_,hml,hk,hjl,q1⟩;rw [r4];rw [Nat.mul_comm] at hdm;have hge:=Nat.mul_le_mul_right (2 ^ k) d1;rw [e1] at hge;omega
def RawN.cL (x : RawN) : Nat:=codeL x.lit
def RawN.cO (x : RawN) : Nat:=codeO x.val
def RawN.cM (x : RawN) : Nat:=codeL (x.len - 3)
def RawN.rL (x : RawN) : Nat:=x.lit - firstL x.cL
def RawN.rO (x : RawN) : Nat:=x.val - 2 ^ x.cO
def RawN.rM (x : RawN) : Nat:=(x.len - 3) - firstL x.cM
def RawN.ok (x : RawN) : Prop:=x.lit < 2 ^ 18/\3<=x.len/\x.len < 2 ^ 18 + 3/\1<=x.val/\x.val < 2 ^ 28
def restB (x : RawN) : List Bool:=bitsB (bitsL x.cL) x.rL ++ bitsB (bitsL x.cM) x.rM ++ bitsB x.cO x.rO
def stepBits (p : Nat) (N : List Int) (c st : Nat) : List Bool:=bitsB (stepK p N c st) (stepB p N c st)
def wrB (T : Trks) : List RawN->Sts × List Bool
  | []=>(⟨0,0,0⟩,[])
  | [x]=>(⟨lowS T.pL T.NL x.cL,lowS T.pO T.NO x.cO,lowS T.pM T.NM x.cM⟩,restB x)
  | x :: y :: l =>
    let r:=wrB T (y :: l)
    (⟨stepS T.pL T.NL x.cL r.1.l,stepS T.pO T.NO x.cO r.1.o,stepS T.pM T.NM x.cM r.1.m⟩,
      r.2 ++ (stepBits T.pO T.NO x.cO r.1.o ++ stepBits T.pM T.NM x.cM r.1.m ++ stepBits T.pL T.NL x.cL r.1.l) ++ restB x)
def wrE (T : Trks) (l : List RawN) : List Bool:=(wrB T l).2 ++ (bitsB T.pM (wrB T l).1.m ++ bitsB T.pO (wrB T l).1.o ++ bitsB T.pL (wrB T l).1.l)
def Cov (T : Trks) (x : RawN) : Prop:=(x.cL < T.NL.length/\1<=(plN T.pL T.NL x.cL).length)/\(x.cO < T.NO.length/\1<=(plN T.pO T.NO x.cO).length)/\(x.cM < T.NM.length/\1<=(plN T.pM T.NM x.cM).length)
def Str (V t : Nat) (L : List Bool) : Prop:=L.length = t/\V % 2 ^ t = valB L
theorem takeE_str {V t n x : Nat} {A : List Bool} (h : Str V t (A ++ bitsB n x)) (hx : x < 2 ^ n) : takeE V (t,0) n = (x,A.length,0)/\Str V A.length A:=by
 obtain ⟨h1,h2⟩:=h;rw [List.length_append,bitsB_length] at h1;rw [valB_append,valB_bitsB,Nat.mod_eq_of_lt hx] at h2;have hA:=valB_lt A;(have e1 : t - n = A.length:=by omega)
 have e2 : V / 2 ^ A.length % 2 ^ n = x:=by
   have h3 : V % 2 ^ t / 2 ^ A.length = V / 2 ^ A.length % 2 ^ n:=by
     rw [<- h1,Nat.pow_add,Nat.mod_mul_right_div_self]
   rw [<- h3,h2,Nat.add_mul_div_left _ _ (Nat.two_pow_pos _),Nat.div_eq_of_lt hA,Nat.zero_add]
 have e3 : V % 2 ^ A.length = valB A:=by
   have h3 : V % 2 ^ t % 2 ^ A.length = V % 2 ^ A.length:=Nat.mod_mod_of_dvd _ (Nat.pow_dvd_pow 2 (by omega));rw [<- h3,h2,Nat.add_mul_mod_self_left,Nat.mod_eq_of_lt hA]
 refine ⟨?_,rfl,e3⟩;unfold takeE;rw [if_neg (by simp),if_pos (by simp;omega)];simp only [e1,e2]
theorem raw_codes {x : RawN} (h : x.ok) : x.cL < 44/\x.cM < 44/\x.cO < 28/\x.rL < 2 ^ bitsL x.cL/\x.rM < 2 ^ bitsL x.cM/\x.rO < 2 ^ x.cO /\
   firstL x.cL + x.rL = x.lit/\firstL x.cM + x.rM + 3 = x.len/\2 ^ x.cO + x.rO = x.val:=by
 obtain ⟨h1,h2,h3,h4,h5⟩:=h;obtain ⟨a1,a2,a3⟩:=codeL_ok h1;obtain ⟨b1,b2,b3⟩:=codeL_ok (v:=x.len - 3) (by omega);obtain ⟨c1,c2,c3⟩:=codeO_ok h4 h5;unfold RawN.rL RawN.rM RawN.rO RawN.cL RawN.cM RawN.cO;refine ⟨a1,b1,c1,a3,b3,c3,by omega,by omega,by omega⟩
def Stand (T : Trks) (S : Sts) (x : RawN) : Prop:=S.ok T/\symN T.pL T.NL S.l = x.cL/\symN T.pO T.NO S.o = x.cO/\symN T.pM T.NM S.m = x.cM
theorem one_back {V t : Nat} {T : Trks} {S : Sts} {x : RawN} {A : List Bool} (hx : x.ok) (hS : Stand T S x) (h : Str V t (A ++ restB x)) :
   oneE V T S (t,0) = (x,A.length,0)/\Str V A.length A:=by
 obtain ⟨_,e1,e2,e3⟩:=hS;obtain ⟨_,_,_,r1,r2,r3,v1,v2,v3⟩:=raw_codes hx;unfold restB at h;rw [<- List.append_assoc,<- List.append_assoc] at h;obtain ⟨t1,s1⟩:=takeE_str h r3;obtain ⟨t2,s2⟩:=takeE_str s1 r2;obtain ⟨t3,s3⟩:=takeE_str s2 r1;unfold oneE valE exB loB;simp only [e1,e2,e3,if_true,Bool.false_eq_true,if_false];simp only [t1,t2,t3,v1,v2,v3];exact ⟨trivial,s3⟩
theorem move_back {V t : Nat} {T : Trks} {S : Sts} {x : RawN} {A : List Bool} (hT : T.ok) (hS : S.ok T) (hc : Cov T x)
   (h : Str V t (A ++ (stepBits T.pO T.NO x.cO S.o ++ stepBits T.pM T.NM x.cM S.m ++ stepBits T.pL T.NL x.cL S.l))) :
   Stand T ⟨stepS T.pL T.NL x.cL S.l,stepS T.pO T.NO x.cO S.o,stepS T.pM T.NM x.cM S.m⟩ x /\
   moveE V T ⟨stepS T.pL T.NL x.cL S.l,stepS T.pO T.NO x.cO S.o,stepS T.pM T.NM x.cM S.m⟩ (t,0) = (S,A.length,0)/\Str V A.length A:=by
 obtain ⟨h1,h2,h3⟩:=hT.wide;obtain ⟨⟨c1,n1⟩,⟨c2,n2⟩,c3,n3⟩:=hc;obtain ⟨a1,a2,a3,a4,a5,_⟩:=step_ok h1 c1 n1 hS.1;obtain ⟨b1,b2,b3,b4,b5,_⟩:=step_ok h2 c2 n2 hS.2.1;obtain ⟨d1,d2,d3,d4,d5,_⟩:=step_ok h3 c3 n3 hS.2.2;unfold stepBits at h;rw [<- List.append_assoc,<- List.append_assoc] at h;obtain ⟨t1,s1⟩:=takeE_str h a5;obtain ⟨t2,s2⟩:=takeE_str s1 d5;obtain ⟨t3,s3⟩:=takeE_str s2 b5;refine ⟨⟨⟨a1,b1,d1⟩,a2,b2,d2⟩,?_,s3⟩;unfold moveE onE;simp only [a3,b3,d3,t1,t2,t3,a4,b4,d4]
theorem wrB_stand {T : Trks} (hT : T.ok) : ∀ (l : List RawN) (x : RawN),(∀ y ∈ x :: l,y.ok/\Cov T y)->Stand T (wrB T (x :: l)).1 x:=by
 intro l
 induction l with
 | nil =>
   intro x h;obtain ⟨h1,h2,h3⟩:=hT.wide;obtain ⟨_,⟨c1,n1⟩,⟨c2,n2⟩,c3,n3⟩:=h x (by simp);obtain ⟨a1,a2⟩:=low_ok h1 c1 n1;obtain ⟨b1,b2⟩:=low_ok h2 c2 n2;obtain ⟨d1,d2⟩:=low_ok h3 c3 n3;exact ⟨⟨a1,b1,d1⟩,a2,b2,d2⟩
 | cons y l ih =>
   intro x h;obtain ⟨h1,h2,h3⟩:=hT.wide;have hy:=ih y fun z hz=>h z (List.mem_cons_of_mem _ hz);obtain ⟨_,⟨c1,n1⟩,⟨c2,n2⟩,c3,n3⟩:=h x (by simp);obtain ⟨a1,a2,_⟩:=step_ok h1 c1 n1 hy.1.1;obtain ⟨b1,b2,_⟩:=step_ok h2 c2 n2 hy.1.2.1;obtain ⟨d1,d2,_⟩:=step_ok h3 c3 n3 hy.1.2.2;exact ⟨⟨a1,b1,d1⟩,a2,b2,d2⟩
theorem read_back {V : Nat} {T : Trks} (hT : T.ok) : ∀ (l : List RawN) (x : RawN) (t : Nat),(∀ y ∈ x :: l,y.ok/\Cov T y)->Str V t (wrB T (x :: l)).2 ->
   readE V T (l.length + 1) (wrB T (x :: l)).1 (t,0) = (x :: l,0,0):=by
 intro l
 induction l with
 | nil =>
   intro x t h hs;have hst:=wrB_stand hT [] x h;obtain ⟨o1,_⟩:=one_back (A:=[]) (h x (by simp)).1 hst (by simpa [wrB] using hs);show readE V T 1 (wrB T [x]).1 (t,0) = _;rw [readE_last V T _ _ rfl,o1];rfl
 | cons y l ih =>
   intro x t h hs;have hst:=wrB_stand hT (y :: l) x h;have hy:=wrB_stand hT l y fun z hz=>h z (List.mem_cons_of_mem _ hz);simp only [wrB] at hs hst ⊢;obtain ⟨o1,o2⟩:=one_back (h x (by simp)).1 hst hs;obtain ⟨m1,m2,m3⟩:=move_back hT hy.1 (h x (by simp)).2 o2;rw [List.length_cons,readE_more V T _ _ _ rfl (by omega),o1];simp only [m2];rw [ih y _ (fun z hz=>h z (List.mem_cons_of_mem _ hz)) m3]
theorem all_back {V : Nat} {T : Trks} (hT : T.ok) {l : List RawN} (hl : l ≠ []) (h : ∀ y ∈ l,y.ok/\Cov T y) (hs : Str V (wrE T l).length (wrE T l)) : allE V T l.length (wrE T l).length = (l,0,0):=by
 cases l with
 | nil=>exact absurd rfl hl
 | cons x l =>
   obtain ⟨⟨s1,s2,s3⟩,_⟩:=wrB_stand hT l x h;have hs' : Str V (wrE T (x :: l)).length (wrE T (x :: l)):=hs;generalize (wrE T (x :: l)).length = t at *;unfold wrE at hs';rw [<- List.append_assoc,<- List.append_assoc] at hs';obtain ⟨t1,u1⟩:=takeE_str hs' s1;obtain ⟨t2,u2⟩:=takeE_str u1 s2;obtain ⟨t3,u3⟩:=takeE_str u2 s3
   have hst : startE V T (t,0) = ((wrB T (x :: l)).1,(wrB T (x :: l)).2.length,0):=by
     unfold startE;simp only [t1,t2,t3]
   unfold allE;rw [hst];simp only;rw [List.length_cons,read_back hT l x _ h u3];simp
theorem split8 : ∀ (n : Nat) (L : List Bool),L.length<=n->∃ bs r,L = rowB bs ++ r/\r.length < 8/\∀ b ∈ bs,b < 256:=by
 intro n
 induction n with
 | zero =>
   intro L h;exact ⟨[],L,rfl,by omega,fun b hb=>by cases hb⟩
 | succ n ih =>
   intro L h;by_cases h8 : L.length < 8
   . exact ⟨[],L,rfl,h8,fun b hb=>by cases hb⟩
   obtain ⟨bs,r,h1,h2,h3⟩:=ih (L.drop 8) (by rw [List.length_drop];omega);(have hl : (L.take 8).length = 8:=by rw [List.length_take];omega);refine ⟨valB (L.take 8) :: bs,r,?_,h2,fun b hb=>?_⟩
   . have e:=bitsB_valB (L.take 8)
     rw [hl] at e;rw [rowB_cons,e,List.append_assoc,<- h1,List.take_append_drop]
   rcases List.mem_cons.1 hb with rfl | hb
   . have:=valB_lt (L.take 8)
     rw [hl] at this;exact this
   exact h3 b hb
theorem closed_str (L : List Bool) : closedN (packB (L ++ [true])) = L.length/\((packB (L ++ [true])).getLast?).getD 0 ≠ 0/\Str (valR (packB (L ++ [true]))) L.length L:=by
 obtain ⟨bs,r,rfl,hr,hb⟩:=split8 L.length L (Nat.le_refl _)
 have hv : valB (r ++ [true]) = valB r + 2 ^ r.length:=by
   rw [valB_append];simp [valB]
 have hlt:=valB_lt r;have hp:=Nat.two_pow_pos r.length;have h8 : 2 ^ r.length<=2 ^ 7:=Nat.pow_le_pow_right (by decide) (by omega)
 have e : packB (rowB bs ++ r ++ [true]) = bs ++ [valB r + 2 ^ r.length]:=by
   rw [List.append_assoc,packB_rowB _ _ hb,packB_short (r ++ [true]) (by simp) (by simp;omega),hv]
 rw [e];(have hgl : (bs ++ [valB r + 2 ^ r.length]).getLast? = some (valB r + 2 ^ r.length):=by simp);have hbl : Lib.bitLen (valB r + 2 ^ r.length) = r.length + 1:=bitLen_uniq (by omega) (by simp) (by rw [Nat.pow_succ];omega) (by omega);refine ⟨?_,?_,rfl,?_⟩
 . unfold closedN
   rw [hgl,Option.getD_some,hbl];simp;omega
 . rw [hgl,Option.getD_some]
   omega
 unfold valR;(have e2 : valB (bitsB 8 (valB r + 2 ^ r.length)) = valB r + 2 ^ r.length:=by rw [valB_bitsB,Nat.mod_eq_of_lt (by omega)]);have e3 : (rowB bs ++ r).length = (rowB bs).length + r.length:=List.length_append;rw [rowB_append,valB_append,rowB_cons,rowB_nil,List.append_nil,e2,valB_append,e3,Nat.pow_add,Nat.mul_add,<- Nat.add_assoc];have h1:=valB_lt (rowB bs ++ r);rw [valB_append,e3,Nat.pow_add] at h1;rw [Nat.add_mod_right,Nat.mod_eq_of_lt h1]
def okS (s : Int × Int × Int) : Prop:=0<=s.1/\s.1<=262143/\3<=s.2.1/\s.2.1<=262146/\1<=s.2.2/\s.2.2<=134217728
instance (s : Int × Int × Int) : Decidable (okS s):=by unfold okS;infer_instance
def codS (a b c : Int) (s : Int × Int × Int) : RawN:=⟨s.1.toNat,s.2.1.toNat,(valV a b c s.1 s.2.2).toNat⟩
def nxtS (a b c : Int) (s : Int × Int × Int) : Int × Int × Int:=nextR a b c s.1 (valV a b c s.1 s.2.2)
def codR (a b c : Int) : List (Int × Int × Int)->List RawN
  | []=>[]
  | s :: l=>codS a b c s :: codR (nxtS a b c s).1 (nxtS a b c s).2.1 (nxtS a b c s).2.2 l
def codN (a b c : Int) : List (Int × Int × Int)->Int × Int × Int
  | []=>(a,b,c)
  | s :: l=>codN (nxtS a b c s).1 (nxtS a b c s).2.1 (nxtS a b c s).2.2 l
@[simp] theorem codR_length : ∀ (a b c : Int) (l : List (Int × Int × Int)),(codR a b c l).length = l.length
  | _,_,_,[]=>rfl
  | a,b,c,s :: l=>by simp [codR,codR_length]
theorem nxtS_ok {a b c : Int} {s : Int × Int × Int} (hr : repOk a b c = true) (hs : okS s) : repOk (nxtS a b c s).1 (nxtS a b c s).2.1 (nxtS a b c s).2.2 = true:=by
 obtain ⟨⟨a1,a2⟩,⟨b1,b2⟩,c1,c2⟩:=repOk_iff.1 hr;obtain ⟨s1,s2,s3,s4,s5,s6⟩:=hs;have ho:=valV_off (a:=a) (b:=b) (c:=c) (lit:=s.1) s5;refine repOk_iff.2 ?_;unfold nxtS nextR;rw [ho];simp only;(refine ⟨⟨s5,s6⟩,?_,?_⟩ <;> split <;> omega)
theorem codN_ok : ∀ {l : List (Int × Int × Int)} {a b c : Int},repOk a b c = true->(∀ s ∈ l,okS s)->repOk (codN a b c l).1 (codN a b c l).2.1 (codN a b c l).2.2 = true
 | [],_,_,_,h,_=>h
 | s :: l,a,b,c,h,hs=>by
   have:=codN_ok (l:=l) (nxtS_ok h (hs s (by simp))) fun x hx=>hs x (List.mem_cons_of_mem _ hx)
   exact this
theorem codS_ok {a b c : Int} {s : Int × Int × Int} (hs : okS s) : (codS a b c s).ok:=by
 obtain ⟨s1,s2,s3,s4,s5,s6⟩:=hs;have:=valV_range (a:=a) (b:=b) (c:=c) (lit:=s.1) ⟨s5,s6⟩;unfold codS RawN.ok;simp only;omega
theorem codR_ok : ∀ {l : List (Int × Int × Int)} {a b c : Int},(∀ s ∈ l,okS s)->∀ x ∈ codR a b c l,x.ok
 | [],_,_,_,_,x,hx=>by simp [codR] at hx
 | s :: l,a,b,c,h,x,hx=>by
   rw [codR] at hx
   rcases List.mem_cons.1 hx with rfl | hx
   . exact codS_ok (h s (by simp))
   exact codR_ok (fun x hx=>h x (List.mem_cons_of_mem _ hx)) x hx
theorem offs_back : ∀ {l : List (Int × Int × Int)} {a b c : Int},(∀ s ∈ l,okS s)->offsE a b c (codR a b c l) = (0,l,codN a b c l)
 | [],_,_,_,_=>rfl
 | s :: l,a,b,c,h=>by
   have hs:=h s (by simp)
   have ih:=offs_back (l:=l) (a:=(nxtS a b c s).1) (b:=(nxtS a b c s).2.1) (c:=(nxtS a b c s).2.2) fun x hx=>h x (List.mem_cons_of_mem _ hx)
   obtain ⟨s1,s2,s3,s4,s5,s6⟩:=hs
   have hv:=valV_range (a:=a) (b:=b) (c:=c) (lit:=s.1) ⟨s5,s6⟩
   have ho:=valV_off (a:=a) (b:=b) (c:=c) (lit:=s.1) s5
   have e1 : ((s.1.toNat : Nat) : Int) = s.1:=by omega
   have e2 : ((s.2.1.toNat : Nat) : Int) = s.2.1:=by omega
   have e3 : (((valV a b c s.1 s.2.2).toNat : Nat) : Int) = valV a b c s.1 s.2.2:=by omega
   simp only [codR,codN,offsE]
   unfold codS
   simp only [e1,e2,e3,ho]
   rw [if_pos (show offOk s.2.2 from ⟨s5,s6⟩)]
   have e4 : nextR a b c s.1 (valV a b c s.1 s.2.2) = nxtS a b c s:=rfl
   rw [e4,ih]
   simp
def SrAt (w : World) (F : Nat->Prop) (g k : Nat) (bs : List Nat) (s : Nat × Int) : Prop :=
  Blk w g 119 #[.pointer (some ⟨k,0,none⟩),.int .i64 s.2]/\BwdAt w F k bs s.1
theorem SrAt.upd {w w' : World} {F S : Nat->Prop} {g k : Nat} {bs : List Nat} {s : Nat × Int} (h : SrAt w F g k bs s) (hu : Upd S w w') (hg : ¬ S g) (hk : ¬ S k) (hF : ∀ b,F b->¬ S b) : SrAt w' F g k bs s :=
 ⟨h.1.upd hu hg,h.2.upd hu hk hF⟩
theorem SrAt.fresh {w w' : World} {F : Nat->Prop} {g k : Nat} {bs : List Nat} {s : Nat × Int} (h : SrAt w F g k bs s) (hu : Fresh w w') : SrAt w' F g k bs s:=h.upd hu (fun h=>h) (fun h=>h) (fun _ _ h=>h)
theorem setThree (w : World) (H : Nat) (u v x : Value) : Upd (fun b=>b = H) w (((w.setCell ⟨H,0,none⟩ u).setCell ⟨H,1,none⟩ v).setCell ⟨H,2,none⟩ x) :=
 (((Upd.refl (fun b=>b = H) w).setCell (p:=⟨H,0,none⟩) (fun _=>rfl) u).setCell (p:=⟨H,1,none⟩) (fun _=>rfl) v).setCell (p:=⟨H,2,none⟩) (fun _=>rfl) x
set_option maxHeartbeats 1000000 in
theorem stake_any (F : Nat->Prop) (g k : Nat) (bs : List Nat) (s : Nat × Int) (n : Nat) (w : World) (h : SrAt w F g k bs s) (hn : n<=64) (hgk : g ≠ k) (hFk : ∀ b,F b->b ≠ k) (hFg : ∀ b,F b->b ≠ g) :
   Calls Tryz.prog 93 #[.pointer (some ⟨g,0,none⟩),.int .i64 (n : Nat)] w fun e w'=>e = .returned (.int .u64 ((takeE (valR bs) s n).1 : Nat))/\Upd (fun b=>b = g\/b = k) w w'/\SrAt w' F g k bs (takeE (valR bs) s n).2:=by
 obtain ⟨t,er⟩:=s;have hb:=h.1;have c0:=hb.cell 0;have c1:=hb.cell 1;have z1:=hb.frozen 1;simp at c0 c1;have HB:=hd_ hb;have HBW:=hd_ h.2;have HH:=hd_ h;clear hb;unfold takeE;by_cases her : er = 0
 . subst her
   simp only [ne_eq,not_true_eq_false,if_false];by_cases hnt : n<=t
   . rw [if_pos hnt]
     have HT:=hd_ (btake_ok F k bs t n w h.2 hn hnt hFk);generalize valR bs / 2 ^ (t - n) % 2 ^ n = V at *;clear h;refine veil fun R hR=>?_;go_enter Tryz.func93,Tryz.ntmps93;go_wp2_with fail;refine HT.out.mono ?_;rintro e w1 ⟨rfl,u1,b1⟩;have hb1:=HB.out.upd u1 (by simpa using hgk);have c0':=hb1.cell 0;have c1':=hb1.cell 1;have z1':=hb1.frozen 1;simp at c0' c1';have HB1:=hd_ hb1;have U1:=hd_ u1;have BW1:=hd_ b1;clear hb1 u1 b1 c0 c1 z1;go_wp2_with fail;(try go_ret);have u2 : Upd (fun b=>b = g) w1 (w1.setCell ⟨g,1,none⟩ (.int .i64 0)):=(Upd.refl (fun b=>b = g) w1).setCell (p:=⟨g,1,none⟩) (fun _=>rfl) _;refine hR.out _ _ ⟨rfl,(U1.out.mono fun _ _ h=>.inr h).trans u2 (fun b _ hb=>.inl hb),?_,BW1.out.upd u2 (Ne.symm hgk) (fun b hb=>hFg b hb)⟩;have:=HB1.out.set_ 1 (.int .i64 0);simpa using this
   rw [if_neg hnt];have HT:=hd_ (btake_short F k bs t n w h.2 hn (by omega));clear h;refine veil fun R hR=>?_;go_enter Tryz.func93,Tryz.ntmps93;go_wp2_with fail;refine HT.out.mono ?_;rintro e w1 ⟨rfl,u1⟩;have hb1:=HB.out.fresh u1;have c0':=hb1.cell 0;have c1':=hb1.cell 1;have z1':=hb1.frozen 1;simp at c0' c1';have HB1:=hd_ hb1;have U1:=hd_ u1;clear hb1 u1 c0 c1 z1;go_wp2_with fail;(try go_ret);have u2 : Upd (fun b=>b = g) w1 (w1.setCell ⟨g,1,none⟩ (.int .i64 14)):=(Upd.refl (fun b=>b = g) w1).setCell (p:=⟨g,1,none⟩) (fun _=>rfl) _;refine hR.out _ _ ⟨rfl,(U1.out.mono fun _ _ h=>h.elim).trans u2 (fun b _ hb=>.inl hb),?_,(HBW.out.fresh U1.out).upd u2 (Ne.symm hgk) (fun b hb=>hFg b hb)⟩;have:=HB1.out.set_ 1 (.int .i64 14);simpa using this
 rw [if_pos her];(have hne : (er == 0) = false:=by simpa using her);clear h;refine veil fun R hR=>?_;go_enter Tryz.func93,Tryz.ntmps93;go_wp2_with fail;(try go_ret);exact hR.out _ _ ⟨rfl,Upd.refl _ _,HH.out⟩
def lenV : List Value:=[.func (.func 112) #[] #[],.func (.func 113) #[] #[],.func (.func 114) #[] #[]]
def ofsV : List Value:=[.func (.func 115) #[] #[],.func (.func 116) #[] #[],.func (.func 117) #[] #[]]
set_option maxHeartbeats 2000000 in
theorem parts_any (w : World) : Calls Tryz.prog 72 #[] w fun e w'=>e = .returned (.agg #[.func (.func 112) #[] #[],.func (.func 113) #[] #[],.func (.func 114) #[] #[],.func (.func 115) #[] #[],.func (.func 116) #[] #[],.func (.func 117) #[] #[],.func (.func 112) #[] #[],.func (.func 113) #[] #[],.func (.func 114) #[] #[]])/\Fresh w w':=by
 refine veil fun R hR=>?_;go_enter Tryz.func72,Tryz.ntmps72;go_wp2_with fail;refine bodyPost_ret (v:=.agg #[.func (.func 112) #[] #[],.func (.func 113) #[] #[],.func (.func 114) #[] #[],.func (.func 115) #[] #[],.func (.func 116) #[] #[],.func (.func 117) #[] #[],.func (.func 112) #[] #[],.func (.func 113) #[] #[],.func (.func 114) #[] #[]]) (results_cell_row rfl _ _ w.heap.size 149 _ _ _ rfl ((Blk.new w _ _).alloc _) Tryz.underlying149 rfl (by kernel_rfl)) rfl ?_;exact hR.out _ _ ⟨rfl,((Upd.refl _ _).alloc _).alloc _⟩
def CP (w : World) (G : Nat->Prop) (v : Value) (p : Nat) (N : List Int) : Prop:=∃ g,v = .pointer (some ⟨g,0,none⟩)/\CoderF w G g p N
theorem CP.upd {S G : Nat->Prop} {w w' : World} {v : Value} {p : Nat} {N : List Int} (h : CP w G v p N) (hu : Upd S w w') (hs : ∀ b,G b->b < w.heap.size->¬ S b) : CP w' G v p N:=by
 obtain ⟨g,h1,h2⟩:=h;exact ⟨g,h1,h2.upd hu hs⟩
theorem CP.fresh {G : Nat->Prop} {w w' : World} {v : Value} {p : Nat} {N : List Int} (h : CP w G v p N) (hu : Fresh w w') : CP w' G v p N:=h.upd hu fun _ _ _ h=>h
set_option maxHeartbeats 4000000 in
theorem tracks_any (F : Nat->Prop) (A B C : Option Addr) (n c m d k e : Nat) (T : Trks) (w : World) (hT : T.ok)
   (h1 : Rd w F A n (ints T.NL)) (h2 : Rd w F B m (ints T.NO)) (h3 : Rd w F C k (ints T.NM)) (f1 : Fit T.NL) (f2 : Fit T.NO) (f3 : Fit T.NM) (b1 : (n : Int)<=1099511627776) (b2 : (m : Int)<=1099511627776) (b3 : (k : Int)<=1099511627776) :
   Calls Tryz.prog 47 #[.agg #[.int .i64 (T.pL : Nat),.slice A n c,.int .i64 (T.pO : Nat),.slice B m d,.int .i64 (T.pM : Nat),.slice C k e]] w fun e w'=>∃ v0 v1 v2,
     e = .returned (.tuple #[.agg #[v0,.int .i64 0,v1,.int .i64 0,v2,.int .i64 0],.int .i64 0])/\CP w' (fun b=>w.heap.size<=b) v0 T.pL T.NL/\CP w' (fun b=>w.heap.size<=b) v1 T.pO T.NO/\CP w' (fun b=>w.heap.size<=b) v2 T.pM T.NM/\Fresh w w':=by
 obtain ⟨w0,hw0⟩:=nm_ ((w.alloc (.cells #[.int .i64 (T.pL : Nat),.slice A n c,.int .i64 (T.pO : Nat),.slice B m d,.int .i64 (T.pM : Nat),.slice C k e] 69)).alloc (.cells #[.pointer none,.int .i64 0,.pointer none,.int .i64 0,.pointer none,.int .i64 0] 96));obtain ⟨H,hH⟩:=nm_ (w.heap.size);(have f0 : Fresh w w0:=by rw [hw0];exact ((Upd.refl _ _).alloc _).alloc _);(have bt : Blk w0 H 69 #[.int .i64 (T.pL : Nat),.slice A n c,.int .i64 (T.pO : Nat),.slice B m d,.int .i64 (T.pM : Nat),.slice C k e]:=by rw [hw0];exact (blk_new hH _ _).alloc _);(have bo : Blk w0 (H + 1) 96 #[.pointer none,.int .i64 0,.pointer none,.int .i64 0,.pointer none,.int .i64 0]:=by rw [hw0];exact blk_new (by simp [hH]) _ _);(have hs0 : w0.heap.size = H + 2:=by rw [hw0,hH];simp);obtain ⟨hL,hO,hM⟩:=hT.wide
 have nw : ∀ (X : Option Addr) (x cx p : Nat) (N : List Int) W,Rd w F X x (ints N)->Fit N->(x : Int)<=1099511627776->Valid p N 256 9->Upd (fun b=>b = H + 1) w0 W ->
     Calls Tryz.prog 76 #[.agg #[.int .i64 (p : Nat),.slice X x cx]] W fun e w'=>∃ g,e = .returned (.tuple #[.pointer (some ⟨g,0,none⟩),.int .i64 0])/\CoderF w' (fun b=>H + 2<=b) g p N/\Fresh W w':=fun X x cx p N W hr hf hx hv hu=>by
   refine (newc_ok _ X x cx p N W ((hr.both.fresh f0).upd hu (fun b _ hb e=>by have:=hb.2;omega)) hf hx hv).mono ?_;rintro e w' ⟨g,h1,h2,h3⟩;exact ⟨g,h1,h2.f.mono fun b hb _=>by have:=hu.size;have:=hb.1;omega,h3⟩
 have N0:=hd_ (fun W u=>nw A n c _ _ W h1 f1 b1 hL u);have N1:=hd_ (fun W u=>nw B m d _ _ W h2 f2 b2 hO u);have N2:=hd_ (fun W u=>nw C k e _ _ W h3 f3 b3 hM u)
 have HBT : Hid (∀ W,Upd (fun b=>b = H + 1) w0 W->W.cell? ⟨H,0,none⟩ = some (.int .i64 (T.pL : Nat))/\W.cell? ⟨H,1,none⟩ = some (.slice A n c)/\W.cell? ⟨H,2,none⟩ = some (.int .i64 (T.pO : Nat))/\W.cell? ⟨H,3,none⟩ = some (.slice B m d)/\W.cell? ⟨H,4,none⟩ = some (.int .i64 (T.pM : Nat))/\W.cell? ⟨H,5,none⟩ = some (.slice C k e)):=fun W u=>by
   have b:=bt.upd u (by omega);exact b.cells6
 have HW:=hd_ hw0;have HH:=hd_ hH;have F0:=hd_ f0;have BO:=hd_ bo;have HS0:=hd_ hs0;clear hw0 hH f0 bt bo hs0 h1 h2 h3 f1 f2 f3 b1 b2 b3 hL hO hM nw hT;generalize T.pL = pL at *;generalize T.pO = pO at *;generalize T.pM = pM at *;generalize T.NL = NL at *;generalize T.NO = NO at *;generalize T.NM = NM at *;refine veil fun R hR=>?_;go_enter Tryz.func47,Tryz.ntmps47;go_upto_region 1 with fail;simp only [<- HH.out,<- HW.out];go_wp2_with fail
 go_loopg [5] 3 (fun f vi wr=>∃ (i : Nat) (v0 v1 v2 : Value),i + f = 3/\vi = .int .i64 i/\Upd (fun b=>b = H + 1) w0 wr/\Blk wr (H + 1) 96 #[v0,.int .i64 0,v1,.int .i64 0,v2,.int .i64 0] /\
   (if 0 < i then CP wr (fun b=>H + 2<=b) v0 pL NL else v0 = .pointer none)/\(if 1 < i then CP wr (fun b=>H + 2<=b) v1 pO NO else v1 = .pointer none)/\(if 2 < i then CP wr (fun b=>H + 2<=b) v2 pM NM else v2 = .pointer none))
 case atStart=>exact ⟨0,_,_,_,rfl,rfl,Upd.refl _ _,BO.out,rfl,rfl,rfl⟩
 case round =>
   obtain ⟨i,v0,v1,v2,hf,rfl,hu,hb,p0,p1,p2⟩:=hrel;obtain ⟨t0,t1,t2,t3,t4,t5⟩:=HBT.out _ hu;obtain ⟨a0,a1,a2,a3,a4,a5⟩:=(hb).cells6;have HU:=hd_ hu;have HB:=hd_ hb;have P0:=hd_ p0;have P1:=hd_ p1;have P2:=hd_ p2;(have h4 : i = 0\/i = 1\/i = 2\/i = 3:=by omega);clear hu hb p0 p1 p2;rcases h4 with rfl | rfl | rfl | rfl
   . obtain rfl : gk = 3:=by omega
     clear hf;go_wp2_with fail;refine (N0.out _ HU.out).mono ?_;rintro e w1 ⟨g,rfl,cg,f1⟩;have hb1:=HB.out.fresh f1;have y0:=hb1.cell 0;have z0:=hb1.frozen 0;simp at y0;have u1 : Upd (fun b=>b = H + 1) w0 (w1.setCell ⟨H + 1,0,none⟩ (.pointer (some ⟨g,0,none⟩))):=(HU.out.trans' (f1.mono (T:=fun b=>b = H + 1) fun _ _ h=>h.elim)).setCell (p:=⟨H + 1,0,none⟩) (fun _=>rfl) _;have u2 : Upd (fun b=>b = H + 1) w1 (w1.setCell ⟨H + 1,0,none⟩ (.pointer (some ⟨g,0,none⟩))):=(Upd.refl (fun b=>b = H + 1) w1).setCell (p:=⟨H + 1,0,none⟩) (fun _=>rfl) _;(have hb2 : Blk (w1.setCell ⟨H + 1,0,none⟩ (.pointer (some ⟨g,0,none⟩))) (H + 1) 96 #[.pointer (some ⟨g,0,none⟩),.int .i64 0,v1,.int .i64 0,v2,.int .i64 0]:=by simpa using hb1.set_ 0 (.pointer (some ⟨g,0,none⟩)));have cg2 : CP (w1.setCell ⟨H + 1,0,none⟩ (.pointer (some ⟨g,0,none⟩))) (fun b=>H + 2<=b) (.pointer (some ⟨g,0,none⟩)) pL NL:=⟨g,rfl,cg.upd u2 (fun b hb _=>by omega)⟩;(have q1 : v1 = .pointer none:=by simpa using P1.out);(have q2 : v2 = .pointer none:=by simpa using P2.out)
     have HE:=hd_ (show ∃ (i : Nat) (x0 x1 x2 : Value),i + 2 = 3/\(Value.int .i64 1 : Value) = .int .i64 i/\Upd (fun b=>b = H + 1) w0 (w1.setCell ⟨H + 1,0,none⟩ (.pointer (some ⟨g,0,none⟩)))/\Blk (w1.setCell ⟨H + 1,0,none⟩ (.pointer (some ⟨g,0,none⟩))) (H + 1) 96 #[x0,.int .i64 0,x1,.int .i64 0,x2,.int .i64 0] /\
       (if 0 < i then CP (w1.setCell ⟨H + 1,0,none⟩ (.pointer (some ⟨g,0,none⟩))) (fun b=>H + 2<=b) x0 pL NL else x0 = .pointer none)/\(if 1 < i then CP (w1.setCell ⟨H + 1,0,none⟩ (.pointer (some ⟨g,0,none⟩))) (fun b=>H + 2<=b) x1 pO NO else x1 = .pointer none)/\(if 2 < i then CP (w1.setCell ⟨H + 1,0,none⟩ (.pointer (some ⟨g,0,none⟩))) (fun b=>H + 2<=b) x2 pM NM else x2 = .pointer none)
       from ⟨1,.pointer (some ⟨g,0,none⟩),v1,v2,rfl,rfl,u1,hb2,by simpa using cg2,by first | simpa using cg2 | simpa using q1,by first | simpa using cg2 | simpa using q2⟩)
     clear hb1 u1 u2 hb2 cg cg2 f1 q1 q2 a0 a1 a2 a3 a4 a5 t0 t1 t2 t3 t4 t5;go_wp2_with fail;go_roundg 2
     case measure=>omega
     case rel=>exact HE.out
   . obtain rfl : gk = 2:=by omega
     clear hf;go_wp2_with fail;refine (N1.out _ HU.out).mono ?_;rintro e w1 ⟨g,rfl,cg,f1⟩;have hb1:=HB.out.fresh f1;have y0:=hb1.cell 2;have z0:=hb1.frozen 2;simp at y0;have u1 : Upd (fun b=>b = H + 1) w0 (w1.setCell ⟨H + 1,2,none⟩ (.pointer (some ⟨g,0,none⟩))):=(HU.out.trans' (f1.mono (T:=fun b=>b = H + 1) fun _ _ h=>h.elim)).setCell (p:=⟨H + 1,2,none⟩) (fun _=>rfl) _;have u2 : Upd (fun b=>b = H + 1) w1 (w1.setCell ⟨H + 1,2,none⟩ (.pointer (some ⟨g,0,none⟩))):=(Upd.refl (fun b=>b = H + 1) w1).setCell (p:=⟨H + 1,2,none⟩) (fun _=>rfl) _;(have hb2 : Blk (w1.setCell ⟨H + 1,2,none⟩ (.pointer (some ⟨g,0,none⟩))) (H + 1) 96 #[v0,.int .i64 0,.pointer (some ⟨g,0,none⟩),.int .i64 0,v2,.int .i64 0]:=by simpa using hb1.set_ 2 (.pointer (some ⟨g,0,none⟩)));have cg2 : CP (w1.setCell ⟨H + 1,2,none⟩ (.pointer (some ⟨g,0,none⟩))) (fun b=>H + 2<=b) (.pointer (some ⟨g,0,none⟩)) pO NO:=⟨g,rfl,cg.upd u2 (fun b hb _=>by omega)⟩;have q0 : CP (w1.setCell ⟨H + 1,2,none⟩ (.pointer (some ⟨g,0,none⟩))) (fun b=>H + 2<=b) v0 pL NL:=((show CP wr (fun b=>H + 2<=b) v0 pL NL by simpa using P0.out).fresh f1).upd u2 (fun b hb _=>by omega);(have q2 : v2 = .pointer none:=by simpa using P2.out)
     have HE:=hd_ (show ∃ (i : Nat) (x0 x1 x2 : Value),i + 1 = 3/\(Value.int .i64 2 : Value) = .int .i64 i/\Upd (fun b=>b = H + 1) w0 (w1.setCell ⟨H + 1,2,none⟩ (.pointer (some ⟨g,0,none⟩)))/\Blk (w1.setCell ⟨H + 1,2,none⟩ (.pointer (some ⟨g,0,none⟩))) (H + 1) 96 #[x0,.int .i64 0,x1,.int .i64 0,x2,.int .i64 0] /\
       (if 0 < i then CP (w1.setCell ⟨H + 1,2,none⟩ (.pointer (some ⟨g,0,none⟩))) (fun b=>H + 2<=b) x0 pL NL else x0 = .pointer none)/\(if 1 < i then CP (w1.setCell ⟨H + 1,2,none⟩ (.pointer (some ⟨g,0,none⟩))) (fun b=>H + 2<=b) x1 pO NO else x1 = .pointer none)/\(if 2 < i then CP (w1.setCell ⟨H + 1,2,none⟩ (.pointer (some ⟨g,0,none⟩))) (fun b=>H + 2<=b) x2 pM NM else x2 = .pointer none)
       from ⟨2,v0,.pointer (some ⟨g,0,none⟩),v2,rfl,rfl,u1,hb2,by first | simpa using cg2 | simpa using q0,by simpa using cg2,by first | simpa using cg2 | simpa using q2⟩)
     clear hb1 u1 u2 hb2 cg cg2 f1 q0 q2 a0 a1 a2 a3 a4 a5 t0 t1 t2 t3 t4 t5;go_wp2_with fail;go_roundg 1
     case measure=>omega
     case rel=>exact HE.out
   . obtain rfl : gk = 1:=by omega
     clear hf;go_wp2_with fail;refine (N2.out _ HU.out).mono ?_;rintro e w1 ⟨g,rfl,cg,f1⟩;have hb1:=HB.out.fresh f1;have y0:=hb1.cell 4;have z0:=hb1.frozen 4;simp at y0;have u1 : Upd (fun b=>b = H + 1) w0 (w1.setCell ⟨H + 1,4,none⟩ (.pointer (some ⟨g,0,none⟩))):=(HU.out.trans' (f1.mono (T:=fun b=>b = H + 1) fun _ _ h=>h.elim)).setCell (p:=⟨H + 1,4,none⟩) (fun _=>rfl) _;have u2 : Upd (fun b=>b = H + 1) w1 (w1.setCell ⟨H + 1,4,none⟩ (.pointer (some ⟨g,0,none⟩))):=(Upd.refl (fun b=>b = H + 1) w1).setCell (p:=⟨H + 1,4,none⟩) (fun _=>rfl) _;(have hb2 : Blk (w1.setCell ⟨H + 1,4,none⟩ (.pointer (some ⟨g,0,none⟩))) (H + 1) 96 #[v0,.int .i64 0,v1,.int .i64 0,.pointer (some ⟨g,0,none⟩),.int .i64 0]:=by simpa using hb1.set_ 4 (.pointer (some ⟨g,0,none⟩)));have cg2 : CP (w1.setCell ⟨H + 1,4,none⟩ (.pointer (some ⟨g,0,none⟩))) (fun b=>H + 2<=b) (.pointer (some ⟨g,0,none⟩)) pM NM:=⟨g,rfl,cg.upd u2 (fun b hb _=>by omega)⟩;have q0 : CP (w1.setCell ⟨H + 1,4,none⟩ (.pointer (some ⟨g,0,none⟩))) (fun b=>H + 2<=b) v0 pL NL:=((show CP wr (fun b=>H + 2<=b) v0 pL NL by simpa using P0.out).fresh f1).upd u2 (fun b hb _=>by omega);have q1 : CP (w1.setCell ⟨H + 1,4,none⟩ (.pointer (some ⟨g,0,none⟩))) (fun b=>H + 2<=b) v1 pO NO:=((show CP wr (fun b=>H + 2<=b) v1 pO NO by simpa using P1.out).fresh f1).upd u2 (fun b hb _=>by omega)
     have HE:=hd_ (show ∃ (i : Nat) (x0 x1 x2 : Value),i + 0 = 3/\(Value.int .i64 3 : Value) = .int .i64 i/\Upd (fun b=>b = H + 1) w0 (w1.setCell ⟨H + 1,4,none⟩ (.pointer (some ⟨g,0,none⟩)))/\Blk (w1.setCell ⟨H + 1,4,none⟩ (.pointer (some ⟨g,0,none⟩))) (H + 1) 96 #[x0,.int .i64 0,x1,.int .i64 0,x2,.int .i64 0] /\
       (if 0 < i then CP (w1.setCell ⟨H + 1,4,none⟩ (.pointer (some ⟨g,0,none⟩))) (fun b=>H + 2<=b) x0 pL NL else x0 = .pointer none)/\(if 1 < i then CP (w1.setCell ⟨H + 1,4,none⟩ (.pointer (some ⟨g,0,none⟩))) (fun b=>H + 2<=b) x1 pO NO else x1 = .pointer none)/\(if 2 < i then CP (w1.setCell ⟨H + 1,4,none⟩ (.pointer (some ⟨g,0,none⟩))) (fun b=>H + 2<=b) x2 pM NM else x2 = .pointer none)
       from ⟨3,v0,v1,.pointer (some ⟨g,0,none⟩),rfl,rfl,u1,hb2,by first | simpa using cg2 | simpa using q0,by first | simpa using cg2 | simpa using q1,by simpa using cg2⟩)
     clear hb1 u1 u2 hb2 cg cg2 f1 q0 q1 a0 a1 a2 a3 a4 a5 t0 t1 t2 t3 t4 t5;go_wp2_with fail;go_roundg 0
     case measure=>omega
     case rel=>exact HE.out
   (obtain rfl : gk = 0:=by omega);clear hf;obtain ⟨g0,rfl,c0⟩:=(show CP wr (fun b=>H + 2<=b) v0 pL NL by simpa using P0.out);obtain ⟨g1,rfl,c1⟩:=(show CP wr (fun b=>H + 2<=b) v1 pO NO by simpa using P1.out);obtain ⟨g2,rfl,c2⟩:=(show CP wr (fun b=>H + 2<=b) v2 pM NM by simpa using P2.out);have z0:=HB.out.frozen 0;have z1:=HB.out.frozen 1;have z2:=HB.out.frozen 2;have z3:=HB.out.frozen 3;have z4:=HB.out.frozen 4;have z5:=HB.out.frozen 5;have C0:=hd_ c0;have C1:=hd_ c1;have C2:=hd_ c2;clear c0 c1 c2 t0 t1 t2 t3 t4 t5;go_wp2_with fail;have bF:=(((((HB.out.set_ 0 (.pointer (some ⟨g0,0,none⟩))).set_ 1 (.int .i64 0)).set_ 2 (.pointer (some ⟨g1,0,none⟩))).set_ 3 (.int .i64 0)).set_ 4 (.pointer (some ⟨g2,0,none⟩))).set_ 5 (.int .i64 0)
   have uF : Upd (fun b=>b = H + 1) wr ((((((wr.setCell ⟨H + 1,0,none⟩ (.pointer (some ⟨g0,0,none⟩))).setCell ⟨H + 1,1,none⟩ (.int .i64 0)).setCell ⟨H + 1,2,none⟩ (.pointer (some ⟨g1,0,none⟩))).setCell ⟨H + 1,3,none⟩ (.int .i64 0)).setCell ⟨H + 1,4,none⟩ (.pointer (some ⟨g2,0,none⟩))).setCell ⟨H + 1,5,none⟩ (.int .i64 0)) :=
     ((((((Upd.refl (fun b=>b = H + 1) wr).setCell (p:=⟨H + 1,0,none⟩) (fun _=>rfl) _).setCell (p:=⟨H + 1,1,none⟩) (fun _=>rfl) _).setCell (p:=⟨H + 1,2,none⟩) (fun _=>rfl) _).setCell (p:=⟨H + 1,3,none⟩) (fun _=>rfl) _).setCell (p:=⟨H + 1,4,none⟩) (fun _=>rfl) _).setCell (p:=⟨H + 1,5,none⟩) (fun _=>rfl) _
   refine bodyPost_ret (results_cell_tmp_row rfl _ _ (H + 1) _ _ _ rfl bF Tryz.underlying96 rfl (by kernel_rfl)) rfl ?_;refine hR.out _ _ ⟨.pointer (some ⟨g0,0,none⟩),.pointer (some ⟨g1,0,none⟩),.pointer (some ⟨g2,0,none⟩),rfl,?_,?_,?_,?_⟩
   . exact ⟨g0,rfl,(C0.out.upd uF (fun b hb _=>by omega)).mono fun b hb _=>by have:=HH.out;omega⟩
   . exact ⟨g1,rfl,(C1.out.upd uF (fun b hb _=>by omega)).mono fun b hb _=>by have:=HH.out;omega⟩
   . exact ⟨g2,rfl,(C2.out.upd uF (fun b hb _=>by omega)).mono fun b hb _=>by have:=HH.out;omega⟩
   exact (F0.out.trans HU.out (fun b hb h=>by have:=HH.out;omega)).trans uF (fun b hb h=>by have:=HH.out;omega)
theorem fit_valid25 {lg sy lb : Int} {N : List Int} (h : Valid lg N sy lb) : Fit N:=by
 intro x hx;have h1:=absZ_le_sum24 hx;obtain ⟨q1,q2,q3,k1,k2,k3,k4,q4⟩:=h;rw [q4] at h1
 have h2 : (2 : Int) ^ lg.toNat<=512:=by
   (have h3 : (2 : Int) ^ lg.toNat = ((2 ^ lg.toNat : Nat) : Int):=by simp);have h4 : 2 ^ lg.toNat<=2 ^ 9:=Nat.pow_le_pow_right (by decide) (by omega);omega
 unfold absZ at h1;(split at h1 <;> omega)
theorem decN_valid {m p lg l2 : Int} {N N2 : List Int} {bs : List Nat} {at_ k : Nat} (hb : ∀ b ∈ bs,b < 256) (h : decN m p lg N bs at_ = (0,l2,N2,k)) :
   Valid l2 N2 (partS p) (partX p)/\(at_<=bs.length->at_ + k<=bs.length):=by
 by_cases h1 : p < 0\/2 < p\/m < 0\/3 < m
 . have : decN m p lg N bs at_ = (2,0,[],0):=if_pos h1
   rw [this] at h;simp at h
 have hd : decN m p lg N bs at_ = decM m p lg N bs at_:=if_neg h1;rw [hd] at h;(have hp : 0<=p/\p<=2:=by omega);(have : m = 0\/m = 1\/m = 2\/m = 3:=by omega);rcases this with rfl | rfl | rfl | rfl
 . have e : decM 0 p lg N bs at_ = (0,partL p,partN p,0):=rfl
   rw [e] at h;simp only [Prod.mk.injEq,true_and] at h;obtain ⟨rfl,rfl,rfl⟩:=h;exact ⟨part_valid hp,fun h=>by omega⟩
 . have e : decM 1 p lg N bs at_ = ((oneS bs at_ (partS p)).1,0,(oneS bs at_ (partS p)).2.1,(oneS bs at_ (partS p)).2.2):=rfl
   rw [e] at h;simp only [Prod.mk.injEq] at h;obtain ⟨e1,rfl,rfl,rfl⟩:=h;unfold oneS at e1 ⊢;by_cases hb0 : at_ < bs.length
   . rw [if_pos hb0] at e1 ⊢
     by_cases hs : partS p<=(bs[at_]?.getD 0 : Nat)
     . rw [if_pos hs] at e1;simp at e1
     rw [if_neg hs];exact ⟨oneN_valid (by omega) (by have:=part_bounds p;omega),fun _=>by simp;omega⟩
   rw [if_neg hb0] at e1;simp at e1
 . have e : decM 2 p lg N bs at_ = desS bs at_ (partS p) (partX p):=rfl
   rw [e] at h;unfold desS at h;rcases hc : decodeS (partS p) (partX p) (rowB (seenB bs at_)) with e2 | ⟨q,M,j⟩
   . rw [hc] at h
     simp only [Prod.mk.injEq] at h;exact absurd h.1 (decodeS_err24 hc)
   rw [hc] at h;simp only [Prod.mk.injEq,true_and] at h;obtain ⟨rfl,rfl,rfl⟩:=h;have hb2 : ∀ b ∈ seenB bs at_,b < 256:=fun b hx=>hb b (List.mem_of_mem_drop (List.mem_of_mem_take hx));obtain ⟨d1,d2,d3,d4,d5,d6⟩:=desc_once hb2 hc;refine ⟨⟨d1.1,d4,d1.2.2.1,d1.2.2.2.1,d3,d1.2.2.2.2.2⟩,fun h=>?_⟩;unfold seenB at d5;simp at d5;omega
 by_cases hv : Valid lg N (partS p) (partX p)
 . have e : decM 3 p lg N bs at_ = (0,lg,N,0):=by simp [decM,hv]
   rw [e] at h;simp only [Prod.mk.injEq,true_and] at h;obtain ⟨rfl,rfl,rfl⟩:=h;exact ⟨hv,fun h=>by omega⟩
 (have e : decM 3 p lg N bs at_ = (13,0,[],0):=by simp [decM,hv]);rw [e] at h;simp at h
def hd2 (bs : List Nat) (x at_ : Nat) (T : Tabs3) : Int × Tabs3 × Nat :=
  let m:=decN ((x / 16 % 4 : Nat) : Int) 2 T.lM T.NM bs at_
  if m.1 ≠ 0 then (m.1,Tabs3.none,0) else (0,⟨T.lL,T.NL,T.lO,T.NO,m.2.1,m.2.2.1⟩,at_ + m.2.2.2)
def hd1 (bs : List Nat) (x at_ : Nat) (T : Tabs3) : Int × Tabs3 × Nat :=
  let o:=decN ((x / 4 % 4 : Nat) : Int) 1 T.lO T.NO bs at_
  if o.1 ≠ 0 then (o.1,Tabs3.none,0) else hd2 bs x (at_ + o.2.2.2) ⟨T.lL,T.NL,o.2.1,o.2.2.1,T.lM,T.NM⟩
def hd0 (bs : List Nat) (x at_ : Nat) (T : Tabs3) : Int × Tabs3 × Nat :=
  let l:=decN ((x % 4 : Nat) : Int) 0 T.lL T.NL bs at_
  if l.1 ≠ 0 then (l.1,Tabs3.none,0) else hd1 bs x (at_ + l.2.2.2) ⟨l.2.1,l.2.2.1,T.lO,T.NO,T.lM,T.NM⟩
def hdF (bs : List Nat) (x : Nat) : Nat->Nat->Tabs3->Int × Tabs3 × Nat
  | 0,at_,T=>hd0 bs x at_ T
  | 1,at_,T=>hd1 bs x at_ T
  | 2,at_,T=>hd2 bs x at_ T
  | _,at_,T=>(0,T,at_)
theorem hdF_ok0 {bs : List Nat} {x a k1 : Nat} {T : Tabs3} {l1 : Int} {N1 : List Int} (h : decN ((x % 4 : Nat) : Int) 0 T.lL T.NL bs a = (0,l1,N1,k1)) : hdF bs x 1 (a + k1) ⟨l1,N1,T.lO,T.NO,T.lM,T.NM⟩ = hdF bs x 0 a T:=by
 show _ = hd0 bs x a T;unfold hd0;rw [h];rfl
theorem hdF_no0 {bs : List Nat} {x a k1 : Nat} {T : Tabs3} {x1 l1 : Int} {N1 : List Int} (h : decN ((x % 4 : Nat) : Int) 0 T.lL T.NL bs a = (x1,l1,N1,k1)) (hx : x1 ≠ 0) : hdF bs x 0 a T = (x1,Tabs3.none,0):=by
 show hd0 bs x a T = _;unfold hd0;rw [h];exact if_pos hx
theorem hdF_ok1 {bs : List Nat} {x a k1 : Nat} {T : Tabs3} {l1 : Int} {N1 : List Int} (h : decN ((x / 4 % 4 : Nat) : Int) 1 T.lO T.NO bs a = (0,l1,N1,k1)) : hdF bs x 2 (a + k1) ⟨T.lL,T.NL,l1,N1,T.lM,T.NM⟩ = hdF bs x 1 a T:=by
 show _ = hd1 bs x a T;unfold hd1;rw [h];rfl
theorem hdF_no1 {bs : List Nat} {x a k1 : Nat} {T : Tabs3} {x1 l1 : Int} {N1 : List Int} (h : decN ((x / 4 % 4 : Nat) : Int) 1 T.lO T.NO bs a = (x1,l1,N1,k1)) (hx : x1 ≠ 0) : hdF bs x 1 a T = (x1,Tabs3.none,0):=by
 show hd1 bs x a T = _;unfold hd1;rw [h];exact if_pos hx
theorem hdF_ok2 {bs : List Nat} {x a k1 : Nat} {T : Tabs3} {l1 : Int} {N1 : List Int} (h : decN ((x / 16 % 4 : Nat) : Int) 2 T.lM T.NM bs a = (0,l1,N1,k1)) : hdF bs x 3 (a + k1) ⟨T.lL,T.NL,T.lO,T.NO,l1,N1⟩ = hdF bs x 2 a T:=by
 show _ = hd2 bs x a T;unfold hd2;rw [h];rfl
theorem hdF_no2 {bs : List Nat} {x a k1 : Nat} {T : Tabs3} {x1 l1 : Int} {N1 : List Int} (h : decN ((x / 16 % 4 : Nat) : Int) 2 T.lM T.NM bs a = (x1,l1,N1,k1)) (hx : x1 ≠ 0) : hdF bs x 2 a T = (x1,Tabs3.none,0):=by
 show hd2 bs x a T = _;unfold hd2;rw [h];exact if_pos hx
theorem headE_short {bs : List Nat} {at_ : Nat} {T : Tabs3} (h : ¬ at_ < bs.length) : headE bs at_ T = (3,Tabs3.none,0):=by
 unfold headE;rw [if_neg h]
theorem headE_big {bs : List Nat} {at_ : Nat} {T : Tabs3} (h : at_ < bs.length) (h2 : 64<=bs[at_]?.getD 0) : headE bs at_ T = (13,Tabs3.none,0):=by
 unfold headE;rw [if_pos h];simp only;rw [if_pos h2]
theorem headE_go {bs : List Nat} {at_ : Nat} {T : Tabs3} (h : at_ < bs.length) (h2 : ¬ 64<=bs[at_]?.getD 0) : headE bs at_ T = hdF bs (bs[at_]?.getD 0) 0 (at_ + 1) T:=by
 unfold headE;rw [if_pos h];simp only;rw [if_neg h2];rfl
def Tabs3.ok (T : Tabs3) : Prop:=Valid T.lL T.NL 44 9/\Valid T.lO T.NO 28 8/\Valid T.lM T.NM 44 9
theorem Tabs3.ok.trks {T : Tabs3} (h : T.ok) : T.trks.ok/\T.lL = (T.trks.pL : Nat)/\T.lO = (T.trks.pO : Nat)/\T.lM = (T.trks.pM : Nat):=by
 (have e1 : T.lL = (T.lL.toNat : Nat):=by have:=h.1.1;omega);(have e2 : T.lO = (T.lO.toNat : Nat):=by have:=h.2.1.1;omega);(have e3 : T.lM = (T.lM.toNat : Nat):=by have:=h.2.2.1;omega);exact ⟨⟨by have:=h.1;rw [e1] at this;exact this,by have:=h.2.1;rw [e2] at this;exact this,by have:=h.2.2;rw [e3] at this;exact this⟩,e1,e2,e3⟩
theorem headE_ok {bs : List Nat} {at_ : Nat} {T : Tabs3} (hb : ∀ b ∈ bs,b < 256) (h : (headE bs at_ T).1 = 0) : (headE bs at_ T).2.1.ok/\(headE bs at_ T).2.2<=bs.length:=by
 by_cases h1 : at_ < bs.length
 . by_cases h2 : 64<=bs[at_]?.getD 0
   . rw [headE_big h1 h2] at h;simp at h
   rw [headE_go h1 h2] at h ⊢;simp only [hdF,hd0] at h ⊢;generalize hl : decN ((bs[at_]?.getD 0 % 4 : Nat) : Int) 0 T.lL T.NL bs (at_ + 1) = L at h ⊢;obtain ⟨xl,ll,Nl,kl⟩:=L;by_cases el : xl = 0
   . subst el
     obtain ⟨vl,al⟩:=decN_valid hb hl;simp only [ne_eq,not_true_eq_false,if_false,hd1] at h ⊢;generalize ho : decN ((bs[at_]?.getD 0 / 4 % 4 : Nat) : Int) 1 T.lO T.NO bs (at_ + 1 + kl) = L at h ⊢;obtain ⟨xo,lo,No,ko⟩:=L;by_cases eo : xo = 0
     . subst eo
       obtain ⟨vo,ao⟩:=decN_valid hb ho;simp only [ne_eq,not_true_eq_false,if_false,hd2] at h ⊢;generalize hm : decN ((bs[at_]?.getD 0 / 16 % 4 : Nat) : Int) 2 T.lM T.NM bs (at_ + 1 + kl + ko) = L at h ⊢;obtain ⟨xm,lm,Nm,km⟩:=L;by_cases em : xm = 0
       . subst em
         obtain ⟨vm,am⟩:=decN_valid hb hm;simp only [ne_eq,not_true_eq_false,if_false] at h ⊢;exact ⟨⟨vl,vo,vm⟩,am (ao (al (by omega)))⟩
       simp [em] at h
     simp [eo] at h
   simp [el] at h
 rw [headE_short h1] at h;simp at h
def HeadPost (F : Nat->Prop) (g : Nat) (bs : List Nat) (at_ : Nat) (T : Tabs3) (w : World) (e : Ending) (w' : World) : Prop :=
  Upd (fun b=>b = g) w w'/\(if (headE bs at_ T).1 = 0 then ∃ A n c B m d C k e1,e = .returned (.tuple #[.agg #[.int .i64 (headE bs at_ T).2.1.lL,.slice A n c,.int .i64 (headE bs at_ T).2.1.lO,.slice B m d,.int .i64 (headE bs at_ T).2.1.lM,.slice C k e1],.int .i64 0]) /\
      Rd w' (fun b=>w.heap.size<=b) A n (ints (headE bs at_ T).2.1.NL)/\Rd w' (fun b=>w.heap.size<=b) B m (ints (headE bs at_ T).2.1.NO)/\Rd w' (fun b=>w.heap.size<=b) C k (ints (headE bs at_ T).2.1.NM)/\CurAt w' F g bs (headE bs at_ T).2.2
    else e = .returned (.tuple #[.agg #[.int .i64 0,.slice none 0 0,.int .i64 0,.slice none 0 0,.int .i64 0,.slice none 0 0],.int .i64 (headE bs at_ T).1]))
theorem and3u (x : Nat) (h : x < 256) : bits .and .u8 (x : Int) 3 = ((x % 4 : Nat) : Int):=by
 (have : ∀ x : Fin 256,bits .and .u8 ((x.val : Nat) : Int) 3 = ((x.val % 4 : Nat) : Int):=by decide +kernel);exact this ⟨x,h⟩
theorem set6 (w : World) (H : Nat) (v0 v1 v2 v3 v4 v5 : Value) : Upd (fun b=>b = H) w ((((((w.setCell ⟨H,0,none⟩ v0).setCell ⟨H,1,none⟩ v1).setCell ⟨H,2,none⟩ v2).setCell ⟨H,3,none⟩ v3).setCell ⟨H,4,none⟩ v4).setCell ⟨H,5,none⟩ v5) :=
 ((((((Upd.refl (fun b=>b = H) w).setCell (p:=⟨H,0,none⟩) (fun _=>rfl) _).setCell (p:=⟨H,1,none⟩) (fun _=>rfl) _).setCell (p:=⟨H,2,none⟩) (fun _=>rfl) _).setCell (p:=⟨H,3,none⟩) (fun _=>rfl) _).setCell (p:=⟨H,4,none⟩) (fun _=>rfl) _).setCell (p:=⟨H,5,none⟩) (fun _=>rfl) _
theorem Blk.set6 {w : World} {H : Nat} {t : TypeId} {a0 a1 a2 a3 a4 a5 : Value} (h : Blk w H t #[a0,a1,a2,a3,a4,a5]) (v0 v1 v2 v3 v4 v5 : Value) :
   Blk ((((((w.setCell ⟨H,0,none⟩ v0).setCell ⟨H,1,none⟩ v1).setCell ⟨H,2,none⟩ v2).setCell ⟨H,3,none⟩ v3).setCell ⟨H,4,none⟩ v4).setCell ⟨H,5,none⟩ v5) H t #[v0,v1,v2,v3,v4,v5]:=by
 have:=(((((h.set_ 0 v0).set_ 1 v1).set_ 2 v2).set_ 3 v3).set_ 4 v4).set_ 5 v5;simpa using this
theorem shr_u8 {P : Program} (x k : Nat) (y : Int) (W : World) (hk : k < 8) (hy : (x : Int) / 2 ^ k = y) : (Op.shift .shr .u8 (x : Int) .i64 (k : Nat)).run P W = .ok (.int .u8 y) W:=by
 (have h1 : ¬ ((k : Nat) : Int) < 0:=by omega);(have h2 : min ((k : Nat) : Int).toNat IntKind.u8.bits = k:=by rw [Int.toNat_natCast];show min k 8 = k;omega);unfold Op.shift;rw [if_neg h1];simp only [h2];rw [Int.fdiv_eq_ediv_of_nonneg _ (Int.pow_nonneg (by decide)),hy];rfl
set_option maxHeartbeats 40000000 in
theorem head_any (F G : Nat->Prop) (g : Nat) (bs : List Nat) (at_ : Nat) (D A B C : Option Addr) (h i n c m d k e : Nat) (T : Tabs3) (r0 r1 r2 : Int) (w : World) (hcu : CurAt w F g bs at_) (hF : ∀ b,F b->b ≠ g) (hG : ∀ b,G b->b ≠ g)
   (h1 : Rd w G A n (ints T.NL)) (h2 : Rd w G B m (ints T.NO)) (h3 : Rd w G C k (ints T.NM)) (f1 : Fit T.NL) (f2 : Fit T.NO) (f3 : Fit T.NM) (b1 : (n : Int)<=1099511627776) (b2 : (m : Int)<=1099511627776) (b3 : (k : Int)<=1099511627776) :
   Calls Tryz.prog 37 #[.pointer (some ⟨g,0,none⟩),.agg #[.slice D h i,.int .i64 T.lL,.slice A n c,.int .i64 T.lO,.slice B m d,.int .i64 T.lM,.slice C k e,.int .i64 r0,.int .i64 r1,.int .i64 r2]] w (HeadPost F g bs at_ T w):=by
 (have hlt : ∀ b ∈ bs,b < 256:=by obtain ⟨_,_,_,_,h,_⟩:=hcu;exact h);have hgl:=hcu.lt;obtain ⟨w0,hw0⟩:=nm_ ((w.alloc (.cells #[.slice D h i,.int .i64 T.lL,.slice A n c,.int .i64 T.lO,.slice B m d,.int .i64 T.lM,.slice C k e,.int .i64 r0,.int .i64 r1,.int .i64 r2] 32)).alloc (.cells #[.int .i64 0,.slice none 0 0,.int .i64 0,.slice none 0 0,.int .i64 0,.slice none 0 0] 69));obtain ⟨H,hH⟩:=nm_ (w.heap.size);(have f0 : Fresh w w0:=by rw [hw0];exact ((Upd.refl _ _).alloc _).alloc _);(have bc : Blk w0 H 32 #[.slice D h i,.int .i64 T.lL,.slice A n c,.int .i64 T.lO,.slice B m d,.int .i64 T.lM,.slice C k e,.int .i64 r0,.int .i64 r1,.int .i64 r2]:=by rw [hw0];exact (blk_new hH _ _).alloc _);(have bo : Blk w0 (H + 1) 69 #[.int .i64 0,.slice none 0 0,.int .i64 0,.slice none 0 0,.int .i64 0,.slice none 0 0]:=by rw [hw0];exact blk_new (by simp [hH]) _ _);(have hs0 : w0.heap.size = H + 2:=by rw [hw0,hH];simp);have HCU:=hd_ (hcu.both.fresh f0);have HR1:=hd_ (h1.both.fresh f0);have HR2:=hd_ (h2.both.fresh f0);have HR3:=hd_ (h3.both.fresh f0);have HFT:=hd_ (And.intro f1 (And.intro f2 f3));have HBD:=hd_ (And.intro b1 (And.intro b2 b3));have HG:=hd_ hG;have HF:=hd_ hF;have HLT:=hd_ hlt;have HGL:=hd_ (show g < H by rw [hH];exact hgl);have HW:=hd_ hw0;have HH:=hd_ hH;have F0:=hd_ f0;have BC:=hd_ bc;have BO:=hd_ bo;have HS0:=hd_ hs0;have HTA:=hd_ tables_any;clear hcu h1 h2 h3 f1 f2 f3 b1 b2 b3 hG hF hlt hgl hw0 hH f0 bc bo hs0;refine veil fun R hR=>?_;go_enter Tryz.func37,Tryz.ntmps37;go_upto_region 1 with fail;simp only [<- HH.out,<- HW.out];have y0:=BO.out.cell 0;have y1:=BO.out.cell 1;have y2:=BO.out.cell 2;by_cases hat : at_ < bs.length
 . obtain ⟨x,hx⟩ : ∃ x,x = bs[at_]?.getD 0:=⟨_,rfl⟩
   (have hx2 : x < 256:=by rw [hx];exact getD_lt HLT.out at_);have HBY:=cbyte_ok (fun b=>F b/\b < w.heap.size) g bs at_ w0 HCU.out hat (fun b hb=>HF.out b hb.1);rw [<- hx] at HBY;have HBY:=hd_ HBY;have HX:=hd_ hx;clear hx;by_cases h64 : 64<=x
   . have hxd : ¬ (x : Int) / 64 = 0:=by omega
     (have hxb : ((x : Int) / 64 == 0) = false:=by simpa using hxd);(have hxt : ((x : Int) / 64 != 0) = true:=by simpa using hxd);have HE:=hd_ (show headE bs at_ T = (13,Tabs3.none,0) from headE_big hat (by rw [<- HX.out];exact h64));clear y0 y1 y2;go_wp2_with fail;refine HBY.out.mono ?_;rintro e' w1 ⟨rfl,u1,c1⟩;have o5:=BO.out.upd u1 (by have:=HGL.out;omega);have q0:=o5.cell 0;have q1:=o5.cell 1;have q2:=o5.cell 2;have q3:=o5.cell 3;have q4:=o5.cell 4;have q5:=o5.cell 5;have p0:=o5.frozen 0;have p1:=o5.frozen 1;have p2:=o5.frozen 2;have p3:=o5.frozen 3;have p4:=o5.frozen 4;have p5:=o5.frozen 5;simp at q0 q1 q2 q3 q4 q5;have o6:=hd_ (o5.set6 (.int .i64 0) (.slice none 0 0) (.int .i64 0) (.slice none 0 0) (.int .i64 0) (.slice none 0 0));have u3:=set6 w1 (H + 1) (.int .i64 0) (.slice none 0 0) (.int .i64 0) (.slice none 0 0) (.int .i64 0) (.slice none 0 0);have HUF:=hd_ (((F0.out.mono (T:=fun b=>b = g) fun _ _ h=>h.elim).trans' u1).trans u3 (fun b hb e=>by have:=HH.out;omega));clear o5 u3 u1 c1;go_wp2_with fail;refine bodyPost_ret (results_cell_tmp_row rfl _ _ (H + 1) _ _ _ rfl o6.out Tryz.underlying69 rfl (by kernel_rfl)) rfl ?_;refine hR.out _ _ ⟨HUF.out,?_⟩;rw [HE.out,if_neg (by simp)];rfl
   (have hxd : (x : Int) / 64 = 0:=by omega);(have hxs : headE bs at_ T = hdF bs x 0 (at_ + 1) T:=by rw [HX.out];exact headE_go hat (by rw [<- HX.out];exact h64));have HXS:=hd_ hxs;clear y0 y1 y2 hxs;go_wp2_with fail;refine HBY.out.mono ?_;rintro e' w1 ⟨rfl,u1,c1⟩;have bc1:=BC.out.upd u1 (by have:=HGL.out;omega);obtain ⟨c1x0,c1x1,c1x2,c1x3,c1x4,c1x5,c1x6,c1x7,c1x8,c1x9⟩:=(bc1).cells10;have HU1:=hd_ u1;have HC1:=hd_ c1;clear u1 c1 bc1;go_wp2_with fail;refine (HTA.out _ _ _ _ _ _ _ _ _ _ _ _ _ _ _ _ _ _ _).mono ?_;rintro e' w2 ⟨rfl,f2⟩;have HU2:=hd_ (HU1.out.trans' (f2.mono (T:=fun b=>b = g) fun _ _ h=>h.elim));have HC2:=hd_ (HC1.out.fresh f2);clear f2 c1x0 c1x1 c1x2 c1x3 c1x4 c1x5 c1x6 c1x7 c1x8 c1x9;go_wp2_with fail;obtain ⟨K,hK⟩:=nm_ (w2.heap.size);obtain ⟨w3,hw3⟩:=nm_ (w2.alloc (.cells #[.int .i64 T.lL,.slice A n c,.int .i64 T.lO,.slice B m d,.int .i64 T.lM,.slice C k e] 69));simp only [<- hK,<- hw3];(have f3 : Fresh w2 w3:=by rw [hw3];exact (Upd.refl _ _).alloc _);have HK3:=hd_ (show Blk w3 K 69 #[.int .i64 T.lL,.slice A n c,.int .i64 T.lO,.slice B m d,.int .i64 T.lM,.slice C k e] by rw [hw3];exact blk_new hK _ _);have HU3:=hd_ (HU2.out.trans' (f3.mono (T:=fun b=>b = g) fun _ _ h=>h.elim));have HC3:=hd_ (HC2.out.fresh f3);have HKS:=hd_ (show H + 2<=K by have h1:=HU2.out.size;have h2:=HS0.out;omega);have HBO:=hd_ (BO.out.upd HU3.out (by have:=HGL.out;omega));clear hK hw3 f3
   go_loopg [27] 3 (fun f vi wr=>∃ (i a : Nat) (T' : Tabs3) (A' B' C' : Option Addr) (n' c' m' d' k' e' : Nat),i + f = 3/\vi = .int .i64 i/\hdF bs x i a T' = hdF bs x 0 (at_ + 1) T/\Upd (fun b=>b = g\/b = K) w3 wr /\
     Blk wr K 69 #[.int .i64 T'.lL,.slice A' n' c',.int .i64 T'.lO,.slice B' m' d',.int .i64 T'.lM,.slice C' k' e']/\CurAt wr (fun b=>F b/\b < w.heap.size) g bs a /\
     Rd wr (fun b=>if 0 < i then K + 1<=b else G b/\b < w.heap.size) A' n' (ints T'.NL)/\Rd wr (fun b=>if 1 < i then K + 1<=b else G b/\b < w.heap.size) B' m' (ints T'.NO)/\Rd wr (fun b=>if 2 < i then K + 1<=b else G b/\b < w.heap.size) C' k' (ints T'.NM) /\
     (Fit T'.NL/\Fit T'.NO/\Fit T'.NM)/\((n' : Int)<=1099511627776/\(m' : Int)<=1099511627776/\(k' : Int)<=1099511627776))
   case atStart=>exact ⟨0,at_ + 1,T,A,B,C,n,c,m,d,k,e,rfl,rfl,rfl,Upd.refl _ _,HK3.out,HC3.out,by simpa using HR1.out.upd HU3.out (fun b _ hb=>HG.out b hb.1),by simpa using HR2.out.upd HU3.out (fun b _ hb=>HG.out b hb.1),by simpa using HR3.out.upd HU3.out (fun b _ hb=>HG.out b hb.1),HFT.out,HBD.out⟩
   case round =>
     obtain ⟨i,a,T',A',B',C',n',c',m',d',k',e2,hf,rfl,hgh,hu,hb,hcu,hr1,hr2,hr3,hft,hbd⟩:=hrel;have HGH:=hd_ hgh;have HU:=hd_ hu;have HB:=hd_ hb;have HCU2:=hd_ hcu;have HA1:=hd_ hr1;have HA2:=hd_ hr2;have HA3:=hd_ hr3;have HFT2:=hd_ hft;have HBD2:=hd_ hbd;obtain ⟨a0,a1,a2,a3,a4,a5⟩:=(hb).cells6;(have h4 : i = 0\/i = 1\/i = 2\/i = 3:=by omega);clear hgh hu hb hcu hr1 hr2 hr3 hft hbd;rcases h4 with rfl | rfl | rfl | rfl
     . obtain rfl : gk = 3:=by omega
       clear hf;obtain ⟨mo,hmo⟩:=nm_ (x % 4)
       have hand : bits .and .u8 ((x : Int)) 3 = (mo : Nat):=by
         rw [show (x : Int) = ((x : Nat) : Int) by omega,and3u _ (by omega),hmo]
       (have sw0 : IntKind.i64.wrap 0 = 0:=by decide);have hsh : ∀ W,(Op.shift .shr .u8 (x : Int) .i64 0).run Tryz.prog W = .ok (.int .u8 ((x : Int))) W:=fun W=>shr_u8 x 0 ((x : Int)) W (by decide) (by simp);(have hmo4 : mo < 4:=by omega);have sm1 : wrap64 ((mo : Nat) : Int) = ((mo : Nat) : Int):=wrap64_small _ (by omega);have sm2 : IntKind.i64.wrap ((mo : Nat) : Int) = ((mo : Nat) : Int):=IntWalk.i64_in _ (by omega);(have hrd : Rd wr (fun b=>G b/\b < w.heap.size) A' n' (ints T'.NL):=by simpa using HA1.out);have hde:=fun W (f : Fresh wr W)=>mdec_any (fun b=>F b/\b < w.heap.size) _ g bs a A' n' c' (mo : Nat) 0 T'.lL T'.NL W (HCU2.out.fresh f) (fun b hb=>HF.out b hb.1) (hrd.fresh f) HFT2.out.1 HBD2.out.1;obtain ⟨dd,hdd⟩:=nm_ (decN (mo : Nat) 0 T'.lL T'.NL bs a);rw [<- hdd] at hde;obtain ⟨x1,l1,N1,k1⟩:=dd;simp only at hde;have HDE:=hd_ hde;have HDD:=hd_ hdd.symm;have HMO:=hd_ hmo
       have HBK : Hid (∀ W,Upd (fun b=>b = g) wr W->W.cell? ⟨K,0,none⟩ = some (.int .i64 T'.lL)/\W.cell? ⟨K,1,none⟩ = some (.slice A' n' c')/\W.frozen? ⟨K,0,none⟩ = false/\W.frozen? ⟨K,1,none⟩ = false):=fun W u=>by
         have b:=HB.out.upd u (by have:=HKS.out;have:=HGL.out;omega);exact ⟨by simpa using b.cell 0,by simpa using b.cell 1,b.frozen _,b.frozen _⟩
       clear hmo hrd hde hdd;by_cases hx1 : x1 = 0
       . subst hx1
         go_wp2_with fail
         go_region_with
           (first
             | (go_at_call 57;refine (HDE.out _ (by first | exact Upd.refl _ _ | exact (Upd.refl _ _).drew | exact (Upd.refl _ _).drewN _)).mono ?_;rintro e w5 ⟨u5,c5,A5,n5,cc5,rfl,r5⟩;have ux : Upd (fun b=>b = g) wr w5:=(by first | exact u5 | exact Upd.trans' ((Upd.refl _ _).drew) u5 | exact Upd.trans' ((Upd.refl _ _).drewN _) u5);obtain ⟨y0,y1,z0,z1⟩:=HBK.out w5 ux))
         have hgk:=HKS.out;have hgl:=HGL.out;have u2 : Upd (fun b=>b = K) w5 ((w5.setCell ⟨K,0,none⟩ (.int .i64 l1)).setCell ⟨K,1,none⟩ (.slice A5 n5 cc5)):=((Upd.refl (fun b=>b = K) w5).setCell (p:=⟨K,0,none⟩) (fun _=>rfl) _).setCell (p:=⟨K,1,none⟩) (fun _=>rfl) _;have uK : Upd (fun b=>b = g\/b = K) w3 ((w5.setCell ⟨K,0,none⟩ (.int .i64 l1)).setCell ⟨K,1,none⟩ (.slice A5 n5 cc5)):=(HU.out.trans' (ux.mono fun _ _ h=>.inl h)).trans' (u2.mono fun _ _ h=>.inr h);have b5:=((HB.out.upd ux (by omega)).set_ 0 (.int .i64 l1)).set_ 1 (.slice A5 n5 cc5);simp at b5;have c6:=c5.upd u2 (by omega) (fun b _ hb e=>by have:=hb.2;have:=HH.out;omega);have hK : K < wr.heap.size:=HB.out.lt;have r6 : Rd ((w5.setCell ⟨K,0,none⟩ (.int .i64 l1)).setCell ⟨K,1,none⟩ (.slice A5 n5 cc5)) (fun b=>K + 1<=b) A5 n5 (ints N1):=(r5.mono (G:=fun b=>K + 1<=b) (fun b hb=>by have h : wr.heap.size<=b:=hb;omega)).upd u2 (fun b _ hb e=>by omega);have hval:=(decN_valid HLT.out HDD.out).1;have hfit5 : Fit N1:=fit_valid25 hval;(have hn5 : (n5 : Int)<=1099511627776:=by have h1:=hval.2.2.2.2.1;have h2:=(part_bounds 0).1;have h3:=r5.1;simp at h3;omega)
         have hgh : hdF bs x 1 (a + k1) ⟨l1,N1,T'.lO,T'.NO,T'.lM,T'.NM⟩ = hdF bs x 0 (at_ + 1) T:=by
           have e:=HDD.out;rw [HMO.out] at e;rw [<- HGH.out];exact hdF_ok0 e
         have s1 : Rd ((w5.setCell ⟨K,0,none⟩ (.int .i64 l1)).setCell ⟨K,1,none⟩ (.slice A5 n5 cc5)) (fun b=>G b/\b < w.heap.size) B' m' (ints T'.NO):=((show Rd wr (fun b=>G b/\b < w.heap.size) B' m' (ints T'.NO) by simpa using HA2.out).upd ux (fun b _ hb e=>by have:=HG.out b hb.1;have:=hb.2;have:=HH.out;omega)).upd u2 (fun b _ hb e=>by have:=HG.out b hb.1;have:=hb.2;have:=HH.out;omega);have s2 : Rd ((w5.setCell ⟨K,0,none⟩ (.int .i64 l1)).setCell ⟨K,1,none⟩ (.slice A5 n5 cc5)) (fun b=>G b/\b < w.heap.size) C' k' (ints T'.NM):=((show Rd wr (fun b=>G b/\b < w.heap.size) C' k' (ints T'.NM) by simpa using HA3.out).upd ux (fun b _ hb e=>by have:=HG.out b hb.1;have:=hb.2;have:=HH.out;omega)).upd u2 (fun b _ hb e=>by have:=HG.out b hb.1;have:=hb.2;have:=HH.out;omega)
         have HE:=hd_ (show ∃ (i a : Nat) (T' : Tabs3) (A' B' C' : Option Addr) (n' c' m' d' k' e' : Nat),i + 2 = 3/\(Value.int .i64 1 : Value) = .int .i64 i/\hdF bs x i a T' = hdF bs x 0 (at_ + 1) T/\Upd (fun b=>b = g\/b = K) w3 ((w5.setCell ⟨K,0,none⟩ (.int .i64 l1)).setCell ⟨K,1,none⟩ (.slice A5 n5 cc5)) /\
           Blk ((w5.setCell ⟨K,0,none⟩ (.int .i64 l1)).setCell ⟨K,1,none⟩ (.slice A5 n5 cc5)) K 69 #[.int .i64 T'.lL,.slice A' n' c',.int .i64 T'.lO,.slice B' m' d',.int .i64 T'.lM,.slice C' k' e']/\CurAt ((w5.setCell ⟨K,0,none⟩ (.int .i64 l1)).setCell ⟨K,1,none⟩ (.slice A5 n5 cc5)) (fun b=>F b/\b < w.heap.size) g bs a /\
           Rd ((w5.setCell ⟨K,0,none⟩ (.int .i64 l1)).setCell ⟨K,1,none⟩ (.slice A5 n5 cc5)) (fun b=>if 0 < i then K + 1<=b else G b/\b < w.heap.size) A' n' (ints T'.NL)/\Rd ((w5.setCell ⟨K,0,none⟩ (.int .i64 l1)).setCell ⟨K,1,none⟩ (.slice A5 n5 cc5)) (fun b=>if 1 < i then K + 1<=b else G b/\b < w.heap.size) B' m' (ints T'.NO)/\Rd ((w5.setCell ⟨K,0,none⟩ (.int .i64 l1)).setCell ⟨K,1,none⟩ (.slice A5 n5 cc5)) (fun b=>if 2 < i then K + 1<=b else G b/\b < w.heap.size) C' k' (ints T'.NM) /\
           (Fit T'.NL/\Fit T'.NO/\Fit T'.NM)/\((n' : Int)<=1099511627776/\(m' : Int)<=1099511627776/\(k' : Int)<=1099511627776)
           from ⟨1,a + k1,⟨l1,N1,T'.lO,T'.NO,T'.lM,T'.NM⟩,A5,B',C',n5,cc5,m',d',k',e2,rfl,rfl,hgh,uK,b5,c6,by simpa using r6,by simpa using s1,by simpa using s2,⟨hfit5,HFT2.out.2.1,HFT2.out.2.2⟩,⟨hn5,HBD2.out.2.1,HBD2.out.2.2⟩⟩)
         clear u2 uK b5 c6 r6 hfit5 hn5 hgh y0 y1 z0 z1 hval ux u5 c5 r5 hgk hgl hK a0 a1 a2 a3 a4 a5 s1 s2;go_wp2_with fail;go_roundg 2
         case measure=>omega
         case rel=>exact HE.out
       go_wp2_with fail
       go_region_with
         (first
           | (go_at_call 57;refine (HDE.out _ (by first | exact Upd.refl _ _ | exact (Upd.refl _ _).drew | exact (Upd.refl _ _).drewN _)).mono ?_;rintro e w5 ⟨u5,c5,A5,n5,cc5,rfl,r5⟩;have ux : Upd (fun b=>b = g) wr w5:=(by first | exact u5 | exact Upd.trans' ((Upd.refl _ _).drew) u5 | exact Upd.trans' ((Upd.refl _ _).drewN _) u5);obtain ⟨y0,y1,z0,z1⟩:=HBK.out w5 ux))
       have hgk:=HKS.out;have hgl:=HGL.out;have u2 : Upd (fun b=>b = K) w5 ((w5.setCell ⟨K,0,none⟩ (.int .i64 l1)).setCell ⟨K,1,none⟩ (.slice A5 n5 cc5)):=((Upd.refl (fun b=>b = K) w5).setCell (p:=⟨K,0,none⟩) (fun _=>rfl) _).setCell (p:=⟨K,1,none⟩) (fun _=>rfl) _;have uK : Upd (fun b=>b = g\/b = K) w3 ((w5.setCell ⟨K,0,none⟩ (.int .i64 l1)).setCell ⟨K,1,none⟩ (.slice A5 n5 cc5)):=(HU.out.trans' (ux.mono fun _ _ h=>.inl h)).trans' (u2.mono fun _ _ h=>.inr h);have b5:=((HB.out.upd ux (by omega)).set_ 0 (.int .i64 l1)).set_ 1 (.slice A5 n5 cc5);simp at b5;have u3 : Upd (fun b=>b = H + 1) ((w5.setCell ⟨K,0,none⟩ (.int .i64 l1)).setCell ⟨K,1,none⟩ (.slice A5 n5 cc5)) _:=set6 _ (H + 1) (.int .i64 0) (.slice none 0 0) (.int .i64 0) (.slice none 0 0) (.int .i64 0) (.slice none 0 0);have o5:=HBO.out.upd uK (by omega);have q0:=o5.cell 0;have q1:=o5.cell 1;have q2:=o5.cell 2;have q3:=o5.cell 3;have q4:=o5.cell 4;have q5:=o5.cell 5;have p0:=o5.frozen 0;have p1:=o5.frozen 1;have p2:=o5.frozen 2;have p3:=o5.frozen 3;have p4:=o5.frozen 4;have p5:=o5.frozen 5;simp at q0 q1 q2 q3 q4 q5;have o6:=hd_ (o5.set6 (.int .i64 0) (.slice none 0 0) (.int .i64 0) (.slice none 0 0) (.int .i64 0) (.slice none 0 0));have hU : Upd (fun b=>b = g) w ((w5.setCell ⟨K,0,none⟩ (.int .i64 l1)).setCell ⟨K,1,none⟩ (.slice A5 n5 cc5)):=(F0.out.mono (T:=fun b=>b = g) fun _ _ h=>h.elim).trans (HU3.out.trans uK (fun b hb e=>by have h1:=HKS.out;have h2:=HS0.out;rcases e with e | e;exact e;omega)) (fun b hb e=>e);have HUF:=hd_ (hU.trans u3 (fun b hb e=>by have:=HH.out;omega));(have hne : (x1 == 0) = false:=by simpa using hx1);(have hnt : (x1 != 0) = true:=by simpa using hx1)
       have hdE : headE bs at_ T = (x1,Tabs3.none,0):=by
         have e:=HDD.out;rw [HMO.out] at e;rw [HXS.out,<- HGH.out];exact hdF_no0 e hx1
       have HDX:=hd_ hdE;clear hdE u2 uK b5 y0 y1 z0 z1 ux u5 c5 r5 hgk hgl a0 a1 a2 a3 a4 a5 o5 hU u3 sm1 sm2 hand hsh sw0 hmo4;generalize ((w5.setCell ⟨K,0,none⟩ (.int .i64 l1)).setCell ⟨K,1,none⟩ (.slice A5 n5 cc5)) = w6 at *;go_wp2_with fail;refine bodyPost_ret (results_cell_tmp_row rfl _ _ (H + 1) _ _ _ rfl o6.out Tryz.underlying69 rfl (by kernel_rfl)) rfl ?_;refine hR.out _ _ ⟨HUF.out,?_⟩;rw [HDX.out,if_neg hx1];rfl
     . obtain rfl : gk = 2:=by omega
       clear hf;obtain ⟨mo,hmo⟩:=nm_ (x / 4 % 4)
       have hand : bits .and .u8 ((x : Int) / 4) 3 = (mo : Nat):=by
         rw [show (x : Int) / 4 = ((x / 4 : Nat) : Int) by omega,and3u _ (by omega),hmo]
       (have sw0 : IntKind.i64.wrap 2 = 2:=by decide);have hsh : ∀ W,(Op.shift .shr .u8 (x : Int) .i64 2).run Tryz.prog W = .ok (.int .u8 ((x : Int) / 4)) W:=fun W=>shr_u8 x 2 ((x : Int) / 4) W (by decide) (by simp);(have hmo4 : mo < 4:=by omega);have sm1 : wrap64 ((mo : Nat) : Int) = ((mo : Nat) : Int):=wrap64_small _ (by omega);have sm2 : IntKind.i64.wrap ((mo : Nat) : Int) = ((mo : Nat) : Int):=IntWalk.i64_in _ (by omega);(have hrd : Rd wr (fun b=>G b/\b < w.heap.size) B' m' (ints T'.NO):=by simpa using HA2.out);have hde:=fun W (f : Fresh wr W)=>mdec_any (fun b=>F b/\b < w.heap.size) _ g bs a B' m' d' (mo : Nat) 1 T'.lO T'.NO W (HCU2.out.fresh f) (fun b hb=>HF.out b hb.1) (hrd.fresh f) HFT2.out.2.1 HBD2.out.2.1;obtain ⟨dd,hdd⟩:=nm_ (decN (mo : Nat) 1 T'.lO T'.NO bs a);rw [<- hdd] at hde;obtain ⟨x1,l1,N1,k1⟩:=dd;simp only at hde;have HDE:=hd_ hde;have HDD:=hd_ hdd.symm;have HMO:=hd_ hmo
       have HBK : Hid (∀ W,Upd (fun b=>b = g) wr W->W.cell? ⟨K,2,none⟩ = some (.int .i64 T'.lO)/\W.cell? ⟨K,3,none⟩ = some (.slice B' m' d')/\W.frozen? ⟨K,2,none⟩ = false/\W.frozen? ⟨K,3,none⟩ = false):=fun W u=>by
         have b:=HB.out.upd u (by have:=HKS.out;have:=HGL.out;omega);exact ⟨by simpa using b.cell 2,by simpa using b.cell 3,b.frozen _,b.frozen _⟩
       clear hmo hrd hde hdd;by_cases hx1 : x1 = 0
       . subst hx1
         go_wp2_with fail
         go_region_with
           (first
             | (go_at_call 57;refine (HDE.out _ (by first | exact Upd.refl _ _ | exact (Upd.refl _ _).drew | exact (Upd.refl _ _).drewN _)).mono ?_;rintro e w5 ⟨u5,c5,A5,n5,cc5,rfl,r5⟩;have ux : Upd (fun b=>b = g) wr w5:=(by first | exact u5 | exact Upd.trans' ((Upd.refl _ _).drew) u5 | exact Upd.trans' ((Upd.refl _ _).drewN _) u5);obtain ⟨y0,y1,z0,z1⟩:=HBK.out w5 ux))
         have hgk:=HKS.out;have hgl:=HGL.out;have u2 : Upd (fun b=>b = K) w5 ((w5.setCell ⟨K,2,none⟩ (.int .i64 l1)).setCell ⟨K,3,none⟩ (.slice A5 n5 cc5)):=((Upd.refl (fun b=>b = K) w5).setCell (p:=⟨K,2,none⟩) (fun _=>rfl) _).setCell (p:=⟨K,3,none⟩) (fun _=>rfl) _;have uK : Upd (fun b=>b = g\/b = K) w3 ((w5.setCell ⟨K,2,none⟩ (.int .i64 l1)).setCell ⟨K,3,none⟩ (.slice A5 n5 cc5)):=(HU.out.trans' (ux.mono fun _ _ h=>.inl h)).trans' (u2.mono fun _ _ h=>.inr h);have b5:=((HB.out.upd ux (by omega)).set_ 2 (.int .i64 l1)).set_ 3 (.slice A5 n5 cc5);simp at b5;have c6:=c5.upd u2 (by omega) (fun b _ hb e=>by have:=hb.2;have:=HH.out;omega);have hK : K < wr.heap.size:=HB.out.lt;have r6 : Rd ((w5.setCell ⟨K,2,none⟩ (.int .i64 l1)).setCell ⟨K,3,none⟩ (.slice A5 n5 cc5)) (fun b=>K + 1<=b) A5 n5 (ints N1):=(r5.mono (G:=fun b=>K + 1<=b) (fun b hb=>by have h : wr.heap.size<=b:=hb;omega)).upd u2 (fun b _ hb e=>by omega);have hval:=(decN_valid HLT.out HDD.out).1;have hfit5 : Fit N1:=fit_valid25 hval;(have hn5 : (n5 : Int)<=1099511627776:=by have h1:=hval.2.2.2.2.1;have h2:=(part_bounds 1).1;have h3:=r5.1;simp at h3;omega)
         have hgh : hdF bs x 2 (a + k1) ⟨T'.lL,T'.NL,l1,N1,T'.lM,T'.NM⟩ = hdF bs x 0 (at_ + 1) T:=by
           have e:=HDD.out;rw [HMO.out] at e;rw [<- HGH.out];exact hdF_ok1 e
         have s0 : Rd ((w5.setCell ⟨K,2,none⟩ (.int .i64 l1)).setCell ⟨K,3,none⟩ (.slice A5 n5 cc5)) (fun b=>K + 1<=b) A' n' (ints T'.NL):=((show Rd wr (fun b=>K + 1<=b) A' n' (ints T'.NL) by simpa using HA1.out).upd ux (fun b _ hb e=>by omega)).upd u2 (fun b _ hb e=>by omega);have s2 : Rd ((w5.setCell ⟨K,2,none⟩ (.int .i64 l1)).setCell ⟨K,3,none⟩ (.slice A5 n5 cc5)) (fun b=>G b/\b < w.heap.size) C' k' (ints T'.NM):=((show Rd wr (fun b=>G b/\b < w.heap.size) C' k' (ints T'.NM) by simpa using HA3.out).upd ux (fun b _ hb e=>by have:=HG.out b hb.1;have:=hb.2;have:=HH.out;omega)).upd u2 (fun b _ hb e=>by have:=HG.out b hb.1;have:=hb.2;have:=HH.out;omega)
         have HE:=hd_ (show ∃ (i a : Nat) (T' : Tabs3) (A' B' C' : Option Addr) (n' c' m' d' k' e' : Nat),i + 1 = 3/\(Value.int .i64 2 : Value) = .int .i64 i/\hdF bs x i a T' = hdF bs x 0 (at_ + 1) T/\Upd (fun b=>b = g\/b = K) w3 ((w5.setCell ⟨K,2,none⟩ (.int .i64 l1)).setCell ⟨K,3,none⟩ (.slice A5 n5 cc5)) /\
           Blk ((w5.setCell ⟨K,2,none⟩ (.int .i64 l1)).setCell ⟨K,3,none⟩ (.slice A5 n5 cc5)) K 69 #[.int .i64 T'.lL,.slice A' n' c',.int .i64 T'.lO,.slice B' m' d',.int .i64 T'.lM,.slice C' k' e']/\CurAt ((w5.setCell ⟨K,2,none⟩ (.int .i64 l1)).setCell ⟨K,3,none⟩ (.slice A5 n5 cc5)) (fun b=>F b/\b < w.heap.size) g bs a /\
           Rd ((w5.setCell ⟨K,2,none⟩ (.int .i64 l1)).setCell ⟨K,3,none⟩ (.slice A5 n5 cc5)) (fun b=>if 0 < i then K + 1<=b else G b/\b < w.heap.size) A' n' (ints T'.NL)/\Rd ((w5.setCell ⟨K,2,none⟩ (.int .i64 l1)).setCell ⟨K,3,none⟩ (.slice A5 n5 cc5)) (fun b=>if 1 < i then K + 1<=b else G b/\b < w.heap.size) B' m' (ints T'.NO)/\Rd ((w5.setCell ⟨K,2,none⟩ (.int .i64 l1)).setCell ⟨K,3,none⟩ (.slice A5 n5 cc5)) (fun b=>if 2 < i then K + 1<=b else G b/\b < w.heap.size) C' k' (ints T'.NM) /\
           (Fit T'.NL/\Fit T'.NO/\Fit T'.NM)/\((n' : Int)<=1099511627776/\(m' : Int)<=1099511627776/\(k' : Int)<=1099511627776)
           from ⟨2,a + k1,⟨T'.lL,T'.NL,l1,N1,T'.lM,T'.NM⟩,A',A5,C',n',c',n5,cc5,k',e2,rfl,rfl,hgh,uK,b5,c6,by simpa using s0,by simpa using r6,by simpa using s2,⟨HFT2.out.1,hfit5,HFT2.out.2.2⟩,⟨HBD2.out.1,hn5,HBD2.out.2.2⟩⟩)
         clear u2 uK b5 c6 r6 hfit5 hn5 hgh y0 y1 z0 z1 hval ux u5 c5 r5 hgk hgl hK a0 a1 a2 a3 a4 a5 s0 s2;go_wp2_with fail;go_roundg 1
         case measure=>omega
         case rel=>exact HE.out
       go_wp2_with fail
       go_region_with
         (first
           | (go_at_call 57;refine (HDE.out _ (by first | exact Upd.refl _ _ | exact (Upd.refl _ _).drew | exact (Upd.refl _ _).drewN _)).mono ?_;rintro e w5 ⟨u5,c5,A5,n5,cc5,rfl,r5⟩;have ux : Upd (fun b=>b = g) wr w5:=(by first | exact u5 | exact Upd.trans' ((Upd.refl _ _).drew) u5 | exact Upd.trans' ((Upd.refl _ _).drewN _) u5);obtain ⟨y0,y1,z0,z1⟩:=HBK.out w5 ux))
       have hgk:=HKS.out;have hgl:=HGL.out;have u2 : Upd (fun b=>b = K) w5 ((w5.setCell ⟨K,2,none⟩ (.int .i64 l1)).setCell ⟨K,3,none⟩ (.slice A5 n5 cc5)):=((Upd.refl (fun b=>b = K) w5).setCell (p:=⟨K,2,none⟩) (fun _=>rfl) _).setCell (p:=⟨K,3,none⟩) (fun _=>rfl) _;have uK : Upd (fun b=>b = g\/b = K) w3 ((w5.setCell ⟨K,2,none⟩ (.int .i64 l1)).setCell ⟨K,3,none⟩ (.slice A5 n5 cc5)):=(HU.out.trans' (ux.mono fun _ _ h=>.inl h)).trans' (u2.mono fun _ _ h=>.inr h);have b5:=((HB.out.upd ux (by omega)).set_ 2 (.int .i64 l1)).set_ 3 (.slice A5 n5 cc5);simp at b5;have u3 : Upd (fun b=>b = H + 1) ((w5.setCell ⟨K,2,none⟩ (.int .i64 l1)).setCell ⟨K,3,none⟩ (.slice A5 n5 cc5)) _:=set6 _ (H + 1) (.int .i64 0) (.slice none 0 0) (.int .i64 0) (.slice none 0 0) (.int .i64 0) (.slice none 0 0);have o5:=HBO.out.upd uK (by omega);have q0:=o5.cell 0;have q1:=o5.cell 1;have q2:=o5.cell 2;have q3:=o5.cell 3;have q4:=o5.cell 4;have q5:=o5.cell 5;have p0:=o5.frozen 0;have p1:=o5.frozen 1;have p2:=o5.frozen 2;have p3:=o5.frozen 3;have p4:=o5.frozen 4;have p5:=o5.frozen 5;simp at q0 q1 q2 q3 q4 q5;have o6:=hd_ (o5.set6 (.int .i64 0) (.slice none 0 0) (.int .i64 0) (.slice none 0 0) (.int .i64 0) (.slice none 0 0));have hU : Upd (fun b=>b = g) w ((w5.setCell ⟨K,2,none⟩ (.int .i64 l1)).setCell ⟨K,3,none⟩ (.slice A5 n5 cc5)):=(F0.out.mono (T:=fun b=>b = g) fun _ _ h=>h.elim).trans (HU3.out.trans uK (fun b hb e=>by have h1:=HKS.out;have h2:=HS0.out;rcases e with e | e;exact e;omega)) (fun b hb e=>e);have HUF:=hd_ (hU.trans u3 (fun b hb e=>by have:=HH.out;omega));(have hne : (x1 == 0) = false:=by simpa using hx1);(have hnt : (x1 != 0) = true:=by simpa using hx1)
       have hdE : headE bs at_ T = (x1,Tabs3.none,0):=by
         have e:=HDD.out;rw [HMO.out] at e;rw [HXS.out,<- HGH.out];exact hdF_no1 e hx1
       have HDX:=hd_ hdE;clear hdE u2 uK b5 y0 y1 z0 z1 ux u5 c5 r5 hgk hgl a0 a1 a2 a3 a4 a5 o5 hU u3 sm1 sm2 hand hsh sw0 hmo4;generalize ((w5.setCell ⟨K,2,none⟩ (.int .i64 l1)).setCell ⟨K,3,none⟩ (.slice A5 n5 cc5)) = w6 at *;go_wp2_with fail;refine bodyPost_ret (results_cell_tmp_row rfl _ _ (H + 1) _ _ _ rfl o6.out Tryz.underlying69 rfl (by kernel_rfl)) rfl ?_;refine hR.out _ _ ⟨HUF.out,?_⟩;rw [HDX.out,if_neg hx1];rfl
     . obtain rfl : gk = 1:=by omega
       clear hf;obtain ⟨mo,hmo⟩:=nm_ (x / 16 % 4)
       have hand : bits .and .u8 ((x : Int) / 16) 3 = (mo : Nat):=by
         rw [show (x : Int) / 16 = ((x / 16 : Nat) : Int) by omega,and3u _ (by omega),hmo]
       (have sw0 : IntKind.i64.wrap 4 = 4:=by decide);have hsh : ∀ W,(Op.shift .shr .u8 (x : Int) .i64 4).run Tryz.prog W = .ok (.int .u8 ((x : Int) / 16)) W:=fun W=>shr_u8 x 4 ((x : Int) / 16) W (by decide) (by simp);(have hmo4 : mo < 4:=by omega);have sm1 : wrap64 ((mo : Nat) : Int) = ((mo : Nat) : Int):=wrap64_small _ (by omega);have sm2 : IntKind.i64.wrap ((mo : Nat) : Int) = ((mo : Nat) : Int):=IntWalk.i64_in _ (by omega);(have hrd : Rd wr (fun b=>G b/\b < w.heap.size) C' k' (ints T'.NM):=by simpa using HA3.out);have hde:=fun W (f : Fresh wr W)=>mdec_any (fun b=>F b/\b < w.heap.size) _ g bs a C' k' e2 (mo : Nat) 2 T'.lM T'.NM W (HCU2.out.fresh f) (fun b hb=>HF.out b hb.1) (hrd.fresh f) HFT2.out.2.2 HBD2.out.2.2;obtain ⟨dd,hdd⟩:=nm_ (decN (mo : Nat) 2 T'.lM T'.NM bs a);rw [<- hdd] at hde;obtain ⟨x1,l1,N1,k1⟩:=dd;simp only at hde;have HDE:=hd_ hde;have HDD:=hd_ hdd.symm;have HMO:=hd_ hmo
       have HBK : Hid (∀ W,Upd (fun b=>b = g) wr W->W.cell? ⟨K,4,none⟩ = some (.int .i64 T'.lM)/\W.cell? ⟨K,5,none⟩ = some (.slice C' k' e2)/\W.frozen? ⟨K,4,none⟩ = false/\W.frozen? ⟨K,5,none⟩ = false):=fun W u=>by
         have b:=HB.out.upd u (by have:=HKS.out;have:=HGL.out;omega);exact ⟨by simpa using b.cell 4,by simpa using b.cell 5,b.frozen _,b.frozen _⟩
       clear hmo hrd hde hdd;by_cases hx1 : x1 = 0
       . subst hx1
         go_wp2_with fail
         go_region_with
           (first
             | (go_at_call 57;refine (HDE.out _ (by first | exact Upd.refl _ _ | exact (Upd.refl _ _).drew | exact (Upd.refl _ _).drewN _)).mono ?_;rintro e w5 ⟨u5,c5,A5,n5,cc5,rfl,r5⟩;have ux : Upd (fun b=>b = g) wr w5:=(by first | exact u5 | exact Upd.trans' ((Upd.refl _ _).drew) u5 | exact Upd.trans' ((Upd.refl _ _).drewN _) u5);obtain ⟨y0,y1,z0,z1⟩:=HBK.out w5 ux))
         have hgk:=HKS.out;have hgl:=HGL.out;have u2 : Upd (fun b=>b = K) w5 ((w5.setCell ⟨K,4,none⟩ (.int .i64 l1)).setCell ⟨K,5,none⟩ (.slice A5 n5 cc5)):=((Upd.refl (fun b=>b = K) w5).setCell (p:=⟨K,4,none⟩) (fun _=>rfl) _).setCell (p:=⟨K,5,none⟩) (fun _=>rfl) _;have uK : Upd (fun b=>b = g\/b = K) w3 ((w5.setCell ⟨K,4,none⟩ (.int .i64 l1)).setCell ⟨K,5,none⟩ (.slice A5 n5 cc5)):=(HU.out.trans' (ux.mono fun _ _ h=>.inl h)).trans' (u2.mono fun _ _ h=>.inr h);have b5:=((HB.out.upd ux (by omega)).set_ 4 (.int .i64 l1)).set_ 5 (.slice A5 n5 cc5);simp at b5;have c6:=c5.upd u2 (by omega) (fun b _ hb e=>by have:=hb.2;have:=HH.out;omega);have hK : K < wr.heap.size:=HB.out.lt;have r6 : Rd ((w5.setCell ⟨K,4,none⟩ (.int .i64 l1)).setCell ⟨K,5,none⟩ (.slice A5 n5 cc5)) (fun b=>K + 1<=b) A5 n5 (ints N1):=(r5.mono (G:=fun b=>K + 1<=b) (fun b hb=>by have h : wr.heap.size<=b:=hb;omega)).upd u2 (fun b _ hb e=>by omega);have hval:=(decN_valid HLT.out HDD.out).1;have hfit5 : Fit N1:=fit_valid25 hval;(have hn5 : (n5 : Int)<=1099511627776:=by have h1:=hval.2.2.2.2.1;have h2:=(part_bounds 2).1;have h3:=r5.1;simp at h3;omega)
         have hgh : hdF bs x 3 (a + k1) ⟨T'.lL,T'.NL,T'.lO,T'.NO,l1,N1⟩ = hdF bs x 0 (at_ + 1) T:=by
           have e:=HDD.out;rw [HMO.out] at e;rw [<- HGH.out];exact hdF_ok2 e
         have s0 : Rd ((w5.setCell ⟨K,4,none⟩ (.int .i64 l1)).setCell ⟨K,5,none⟩ (.slice A5 n5 cc5)) (fun b=>K + 1<=b) A' n' (ints T'.NL):=((show Rd wr (fun b=>K + 1<=b) A' n' (ints T'.NL) by simpa using HA1.out).upd ux (fun b _ hb e=>by omega)).upd u2 (fun b _ hb e=>by omega);have s1 : Rd ((w5.setCell ⟨K,4,none⟩ (.int .i64 l1)).setCell ⟨K,5,none⟩ (.slice A5 n5 cc5)) (fun b=>K + 1<=b) B' m' (ints T'.NO):=((show Rd wr (fun b=>K + 1<=b) B' m' (ints T'.NO) by simpa using HA2.out).upd ux (fun b _ hb e=>by omega)).upd u2 (fun b _ hb e=>by omega)
         have HE:=hd_ (show ∃ (i a : Nat) (T' : Tabs3) (A' B' C' : Option Addr) (n' c' m' d' k' e' : Nat),i + 0 = 3/\(Value.int .i64 3 : Value) = .int .i64 i/\hdF bs x i a T' = hdF bs x 0 (at_ + 1) T/\Upd (fun b=>b = g\/b = K) w3 ((w5.setCell ⟨K,4,none⟩ (.int .i64 l1)).setCell ⟨K,5,none⟩ (.slice A5 n5 cc5)) /\
           Blk ((w5.setCell ⟨K,4,none⟩ (.int .i64 l1)).setCell ⟨K,5,none⟩ (.slice A5 n5 cc5)) K 69 #[.int .i64 T'.lL,.slice A' n' c',.int .i64 T'.lO,.slice B' m' d',.int .i64 T'.lM,.slice C' k' e']/\CurAt ((w5.setCell ⟨K,4,none⟩ (.int .i64 l1)).setCell ⟨K,5,none⟩ (.slice A5 n5 cc5)) (fun b=>F b/\b < w.heap.size) g bs a /\
           Rd ((w5.setCell ⟨K,4,none⟩ (.int .i64 l1)).setCell ⟨K,5,none⟩ (.slice A5 n5 cc5)) (fun b=>if 0 < i then K + 1<=b else G b/\b < w.heap.size) A' n' (ints T'.NL)/\Rd ((w5.setCell ⟨K,4,none⟩ (.int .i64 l1)).setCell ⟨K,5,none⟩ (.slice A5 n5 cc5)) (fun b=>if 1 < i then K + 1<=b else G b/\b < w.heap.size) B' m' (ints T'.NO)/\Rd ((w5.setCell ⟨K,4,none⟩ (.int .i64 l1)).setCell ⟨K,5,none⟩ (.slice A5 n5 cc5)) (fun b=>if 2 < i then K + 1<=b else G b/\b < w.heap.size) C' k' (ints T'.NM) /\
           (Fit T'.NL/\Fit T'.NO/\Fit T'.NM)/\((n' : Int)<=1099511627776/\(m' : Int)<=1099511627776/\(k' : Int)<=1099511627776)
           from ⟨3,a + k1,⟨T'.lL,T'.NL,T'.lO,T'.NO,l1,N1⟩,A',B',A5,n',c',m',d',n5,cc5,rfl,rfl,hgh,uK,b5,c6,by simpa using s0,by simpa using s1,by simpa using r6,⟨HFT2.out.1,HFT2.out.2.1,hfit5⟩,⟨HBD2.out.1,HBD2.out.2.1,hn5⟩⟩)
         clear u2 uK b5 c6 r6 hfit5 hn5 hgh y0 y1 z0 z1 hval ux u5 c5 r5 hgk hgl hK a0 a1 a2 a3 a4 a5 s0 s1;go_wp2_with fail;go_roundg 0
         case measure=>omega
         case rel=>exact HE.out
       go_wp2_with fail
       go_region_with
         (first
           | (go_at_call 57;refine (HDE.out _ (by first | exact Upd.refl _ _ | exact (Upd.refl _ _).drew | exact (Upd.refl _ _).drewN _)).mono ?_;rintro e w5 ⟨u5,c5,A5,n5,cc5,rfl,r5⟩;have ux : Upd (fun b=>b = g) wr w5:=(by first | exact u5 | exact Upd.trans' ((Upd.refl _ _).drew) u5 | exact Upd.trans' ((Upd.refl _ _).drewN _) u5);obtain ⟨y0,y1,z0,z1⟩:=HBK.out w5 ux))
       have hgk:=HKS.out;have hgl:=HGL.out;have u2 : Upd (fun b=>b = K) w5 ((w5.setCell ⟨K,4,none⟩ (.int .i64 l1)).setCell ⟨K,5,none⟩ (.slice A5 n5 cc5)):=((Upd.refl (fun b=>b = K) w5).setCell (p:=⟨K,4,none⟩) (fun _=>rfl) _).setCell (p:=⟨K,5,none⟩) (fun _=>rfl) _;have uK : Upd (fun b=>b = g\/b = K) w3 ((w5.setCell ⟨K,4,none⟩ (.int .i64 l1)).setCell ⟨K,5,none⟩ (.slice A5 n5 cc5)):=(HU.out.trans' (ux.mono fun _ _ h=>.inl h)).trans' (u2.mono fun _ _ h=>.inr h);have b5:=((HB.out.upd ux (by omega)).set_ 4 (.int .i64 l1)).set_ 5 (.slice A5 n5 cc5);simp at b5;have u3 : Upd (fun b=>b = H + 1) ((w5.setCell ⟨K,4,none⟩ (.int .i64 l1)).setCell ⟨K,5,none⟩ (.slice A5 n5 cc5)) _:=set6 _ (H + 1) (.int .i64 0) (.slice none 0 0) (.int .i64 0) (.slice none 0 0) (.int .i64 0) (.slice none 0 0);have o5:=HBO.out.upd uK (by omega);have q0:=o5.cell 0;have q1:=o5.cell 1;have q2:=o5.cell 2;have q3:=o5.cell 3;have q4:=o5.cell 4;have q5:=o5.cell 5;have p0:=o5.frozen 0;have p1:=o5.frozen 1;have p2:=o5.frozen 2;have p3:=o5.frozen 3;have p4:=o5.frozen 4;have p5:=o5.frozen 5;simp at q0 q1 q2 q3 q4 q5;have o6:=hd_ (o5.set6 (.int .i64 0) (.slice none 0 0) (.int .i64 0) (.slice none 0 0) (.int .i64 0) (.slice none 0 0));have hU : Upd (fun b=>b = g) w ((w5.setCell ⟨K,4,none⟩ (.int .i64 l1)).setCell ⟨K,5,none⟩ (.slice A5 n5 cc5)):=(F0.out.mono (T:=fun b=>b = g) fun _ _ h=>h.elim).trans (HU3.out.trans uK (fun b hb e=>by have h1:=HKS.out;have h2:=HS0.out;rcases e with e | e;exact e;omega)) (fun b hb e=>e);have HUF:=hd_ (hU.trans u3 (fun b hb e=>by have:=HH.out;omega));(have hne : (x1 == 0) = false:=by simpa using hx1);(have hnt : (x1 != 0) = true:=by simpa using hx1)
       have hdE : headE bs at_ T = (x1,Tabs3.none,0):=by
         have e:=HDD.out;rw [HMO.out] at e;rw [HXS.out,<- HGH.out];exact hdF_no2 e hx1
       have HDX:=hd_ hdE;clear hdE u2 uK b5 y0 y1 z0 z1 ux u5 c5 r5 hgk hgl a0 a1 a2 a3 a4 a5 o5 hU u3 sm1 sm2 hand hsh sw0 hmo4;generalize ((w5.setCell ⟨K,4,none⟩ (.int .i64 l1)).setCell ⟨K,5,none⟩ (.slice A5 n5 cc5)) = w6 at *;go_wp2_with fail;refine bodyPost_ret (results_cell_tmp_row rfl _ _ (H + 1) _ _ _ rfl o6.out Tryz.underlying69 rfl (by kernel_rfl)) rfl ?_;refine hR.out _ _ ⟨HUF.out,?_⟩;rw [HDX.out,if_neg hx1];rfl
     (obtain rfl : gk = 0:=by omega);clear hf;(have hE : headE bs at_ T = (0,T',a):=by rw [HXS.out,<- HGH.out];rfl);have HE:=hd_ hE;have hgk:=HKS.out;have hgl:=HGL.out;have o5:=HBO.out.upd HU.out (by omega);have q0:=o5.cell 0;have q1:=o5.cell 1;have q2:=o5.cell 2;have q3:=o5.cell 3;have q4:=o5.cell 4;have q5:=o5.cell 5;have p0:=o5.frozen 0;have p1:=o5.frozen 1;have p2:=o5.frozen 2;have p3:=o5.frozen 3;have p4:=o5.frozen 4;have p5:=o5.frozen 5;simp at q0 q1 q2 q3 q4 q5;have o6:=hd_ (o5.set6 (.int .i64 T'.lL) (.slice A' n' c') (.int .i64 T'.lO) (.slice B' m' d') (.int .i64 T'.lM) (.slice C' k' e2));have u3:=set6 wr (H + 1) (.int .i64 T'.lL) (.slice A' n' c') (.int .i64 T'.lO) (.slice B' m' d') (.int .i64 T'.lM) (.slice C' k' e2);have hU : Upd (fun b=>b = g) w wr:=(F0.out.mono (T:=fun b=>b = g) fun _ _ h=>h.elim).trans (HU3.out.trans HU.out (fun b hb e=>by have h1:=HKS.out;have h2:=HS0.out;rcases e with e | e;exact e;omega)) (fun b hb e=>e);have HUF:=hd_ (hU.trans u3 (fun b hb e=>by have:=HH.out;omega));have s0 : Rd _ (fun b=>w.heap.size<=b) A' n' (ints T'.NL):=((show Rd wr (fun b=>K + 1<=b) A' n' (ints T'.NL) by simpa using HA1.out).upd u3 (fun b _ hb e=>by omega)).mono (fun b hb=>by have:=HH.out;omega);have s1 : Rd _ (fun b=>w.heap.size<=b) B' m' (ints T'.NO):=((show Rd wr (fun b=>K + 1<=b) B' m' (ints T'.NO) by simpa using HA2.out).upd u3 (fun b _ hb e=>by omega)).mono (fun b hb=>by have:=HH.out;omega);have s2 : Rd _ (fun b=>w.heap.size<=b) C' k' (ints T'.NM):=((show Rd wr (fun b=>K + 1<=b) C' k' (ints T'.NM) by simpa using HA3.out).upd u3 (fun b _ hb e=>by omega)).mono (fun b hb=>by have:=HH.out;omega);have c6:=(HCU2.out.upd u3 (by omega) (fun b _ hb e=>by have:=hb.2;have:=HH.out;omega)).mono (fun b hb=>hb.1);have HS:=hd_ (And.intro s0 (And.intro s1 (And.intro s2 c6)));clear hE o5 u3 hU s0 s1 s2 c6 hgk hgl;go_wp2_with fail;refine bodyPost_ret (results_cell_tmp_row rfl _ _ (H + 1) _ _ _ rfl o6.out Tryz.underlying69 rfl (by kernel_rfl)) rfl ?_;refine hR.out _ _ ⟨HUF.out,?_⟩;rw [HE.out,if_pos rfl];exact ⟨A',n',c',B',m',d',C',k',e2,rfl,HS.out.1,HS.out.2.1,HS.out.2.2.1,HS.out.2.2.2⟩
 (have hcl : at_ = bs.length:=by obtain ⟨_,_,_,_,_,h5,_⟩:=HCU.out;omega);have HBY:=hd_ (cbyte_end (fun b=>F b/\b < w.heap.size) g bs at_ w0 HCU.out hcl (fun b hb=>HF.out b hb.1));have HE:=hd_ (show headE bs at_ T = (3,Tabs3.none,0) from headE_short hat);clear hcl;go_wp2_with fail;refine HBY.out.mono ?_;rintro e' w1 ⟨rfl,u1,c1⟩;have o5:=BO.out.upd u1 (by have:=HGL.out;omega);have q0:=o5.cell 0;have q1:=o5.cell 1;have q2:=o5.cell 2;have q3:=o5.cell 3;have q4:=o5.cell 4;have q5:=o5.cell 5;have p0:=o5.frozen 0;have p1:=o5.frozen 1;have p2:=o5.frozen 2;have p3:=o5.frozen 3;have p4:=o5.frozen 4;have p5:=o5.frozen 5;simp at q0 q1 q2 q3 q4 q5;have o6:=hd_ (o5.set6 (.int .i64 0) (.slice none 0 0) (.int .i64 0) (.slice none 0 0) (.int .i64 0) (.slice none 0 0));have u3:=set6 w1 (H + 1) (.int .i64 0) (.slice none 0 0) (.int .i64 0) (.slice none 0 0) (.int .i64 0) (.slice none 0 0);have HUF:=hd_ (((F0.out.mono (T:=fun b=>b = g) fun _ _ h=>h.elim).trans' u1).trans u3 (fun b hb e=>by have:=HH.out;omega));clear y0 y1 y2 o5 u3 u1 c1;go_wp2_with fail;refine bodyPost_ret (results_cell_tmp_row rfl _ _ (H + 1) _ _ _ rfl o6.out Tryz.underlying69 rfl (by kernel_rfl)) rfl ?_;refine hR.out _ _ ⟨HUF.out,?_⟩;rw [HE.out,if_neg (by simp)];rfl
def RawN.good (r : RawN) : Prop:=r.lit < 268435456/\r.len < 268435460/\3<=r.len/\1<=r.val/\r.val < 268435456
theorem Trks.ok.nine {T : Trks} (h : T.ok) : Valid T.pO T.NO (if true then 28 else 44) 9:=by
 obtain ⟨_,⟨b1,b2,b3,b4,b5,b6⟩,_⟩:=h;exact ⟨b1,by omega,b3,b4,b5,b6⟩
theorem oneE_good {T : Trks} (hT : T.ok) {S : Sts} (hS : S.ok T) (V : Nat) (s : Nat × Int) : (oneE V T S s).1.good:=by
 have h1:=valE_lt (o:=true) hT.nine hS.2.1 V s;have h2:=valE_lt (o:=false) (by simpa using hT.2.2) hS.2.2 V (valE V true T.pO T.NO S.o s).2;have h3:=valE_lt (o:=false) (by simpa using hT.1) hS.1 V (valE V false T.pM T.NM S.m (valE V true T.pO T.NO S.o s).2).2;have h4:=h1.2 rfl;refine ⟨h3.1,?_,?_,h4,h1.1⟩
 . show (valE V false T.pM T.NM S.m (valE V true T.pO T.NO S.o s).2).1 + 3 < _
   have:=h2.1;omega
 show 3<=(valE V false T.pM T.NM S.m (valE V true T.pO T.NO S.o s).2).1 + 3;omega
theorem readE_good {T : Trks} (hT : T.ok) (V : Nat) : ∀ (k : Nat) (S : Sts) (s : Nat × Int),S.ok T->∀ r ∈ (readE V T k S s).1,r.good
 | 0,S,s,hS,r,hr=>by simp [readE] at hr
 | k + 1,S,s,hS,r,hr=>by
   by_cases h : s.2 = 0
   . rcases Nat.eq_zero_or_pos k with rfl | hk
     . rw [readE_last V T S s h] at hr
       rw [List.mem_singleton.1 hr]
       exact oneE_good hT hS V s
     rw [readE_more V T k S s h hk] at hr
     rcases List.mem_cons.1 hr with rfl | hr
     . exact oneE_good hT hS V s
     exact readE_good hT V k _ _ (moveE_ok hT hS V _) r hr
   rw [readE_stop V T (k + 1) S s (.inr h)] at hr
   simp at hr
theorem readE_len {T : Trks} (V : Nat) : ∀ (k : Nat) (S : Sts) (s : Nat × Int),(readE V T k S s).1.length<=k
 | 0,S,s=>by simp [readE]
 | k + 1,S,s=>by
   by_cases h : s.2 = 0
   . rcases Nat.eq_zero_or_pos k with rfl | hk
     . rw [readE_last V T S s h];simp
     rw [readE_more V T k S s h hk]
     have:=readE_len (T:=T) V k (moveE V T S (oneE V T S s).2).1 (moveE V T S (oneE V T S s).2).2
     simp only [List.length_cons]
     omega
   rw [readE_stop V T (k + 1) S s (.inr h)];simp
theorem allE_good {T : Trks} (hT : T.ok) (V n t : Nat) : ∀ r ∈ (allE V T n t).1,r.good:=readE_good hT V n _ _ (startE_ok V T (t,0))
theorem allE_len (V : Nat) (T : Trks) (n t : Nat) : (allE V T n t).1.length<=n:=readE_len V n _ _
theorem nextR_ok {a b c lit v : Int} (h : repOk a b c = true) (ho : offOk (offR a b c lit v)) : repOk (nextR a b c lit v).1 (nextR a b c lit v).2.1 (nextR a b c lit v).2.2 = true:=by
 rw [repOk_iff] at h ⊢;obtain ⟨h1,h2,h3⟩:=h;refine ⟨ho,?_,?_⟩
 . show 1<=(if idxR lit v = 0 then b else a)/\(if idxR lit v = 0 then b else a)<=134217728
   (split <;> assumption)
 show 1<=(if idxR lit v = 0\/idxR lit v = 1 then c else b)/\(if idxR lit v = 0\/idxR lit v = 1 then c else b)<=134217728;(split <;> assumption)
def joinO (outs : List (Int × Int × Int)) (r : Int × List (Int × Int × Int) × Int × Int × Int) : Int × List (Int × Int × Int) × Int × Int × Int :=
  if r.1 = 0 then (0,outs ++ r.2.1,r.2.2) else (r.1,[],0,0,0)
theorem offsE_no {a b c : Int} {L : List RawN} (h : (offsE a b c L).1 ≠ 0) : offsE a b c L = ((offsE a b c L).1,[],0,0,0):=by
 cases L with
 | nil=>exact absurd rfl h
 | cons x L =>
   simp only [offsE] at h ⊢;by_cases ho : offOk (offR a b c x.lit x.val)
   . simp only [if_pos ho] at h ⊢
     by_cases h2 : (offsE (nextR a b c x.lit x.val).1 (nextR a b c x.lit x.val).2.1 (nextR a b c x.lit x.val).2.2 L).1 = 0
     . simp only [if_pos h2] at h;exact absurd rfl h
     simp only [if_neg h2]
   simp only [if_neg ho]
theorem joinO_nil (a b c : Int) (L : List RawN) : joinO [] (offsE a b c L) = offsE a b c L:=by
 unfold joinO;by_cases h : (offsE a b c L).1 = 0
 . rw [if_pos h,List.nil_append]
   rcases hx : offsE a b c L with ⟨x,r⟩;rw [hx] at h;simp only at h;rw [h]
 rw [if_neg h,offsE_no h]
theorem joinO_step {outs : List (Int × Int × Int)} {a b c : Int} {x : RawN} {L : List RawN} (ho : offOk (offR a b c x.lit x.val)) :
   joinO (outs ++ [((x.lit : Int),(x.len : Int),offR a b c x.lit x.val)]) (offsE (nextR a b c x.lit x.val).1 (nextR a b c x.lit x.val).2.1 (nextR a b c x.lit x.val).2.2 L) = joinO outs (offsE a b c (x :: L)):=by
 unfold joinO;simp only [offsE,if_pos ho];by_cases h2 : (offsE (nextR a b c x.lit x.val).1 (nextR a b c x.lit x.val).2.1 (nextR a b c x.lit x.val).2.2 L).1 = 0
 . simp [h2]
 simp [h2]
theorem joinO_no {outs : List (Int × Int × Int)} {a b c : Int} {x : RawN} {L : List RawN} (ho : ¬ offOk (offR a b c x.lit x.val)) : joinO outs (offsE a b c (x :: L)) = (15,[],0,0,0):=by
 unfold joinO;simp [offsE,ho]
theorem BwdAt.both {w : World} {F : Nat->Prop} {g : Nat} {bs : List Nat} {t : Nat} (h : BwdAt w F g bs t) : BwdAt w (fun b=>F b/\b < w.heap.size) g bs t:=by
 obtain ⟨A,c,h1,h2,h3⟩:=h;exact ⟨A,c,h1,h2.both,h3⟩
set_option maxHeartbeats 4000000 in
theorem svalL_any (F G : Nat->Prop) (g k : Nat) (bs : List Nat) (s : Nat × Int) (cg p st : Nat) (N : List Int) (w : World) (h : SrAt w F g k bs s) (hgk : g ≠ k) (hFk : ∀ b,F b->b ≠ k) (hFg : ∀ b,F b->b ≠ g)
   (hc : CoderF w G cg p N) (hv : Valid p N 44 9) (hs : st < 2 ^ p) :
   Calls Tryz.prog 94 #[.pointer (some ⟨g,0,none⟩),.agg #[.pointer (some ⟨cg,0,none⟩),.int .i64 (st : Nat)],
     .agg #[.func (.func 112) #[] #[],.func (.func 113) #[] #[],.func (.func 114) #[] #[]]] w fun e w' =>
     e = .returned (.int .i64 ((valE (valR bs) false p N st s).1 : Nat))/\Upd (fun b=>b = g\/b = k) w w'/\SrAt w' F g k bs (valE (valR bs) false p N st s).2:=by
 have hw256 : Valid p N 256 9:=by
   obtain ⟨a1,a2,a3,a4,a5,a6⟩:=hv;exact ⟨a1,a2,a3,a4,by omega,a6⟩
 obtain ⟨c1,c2,c3,c4,c5,c6⟩:=cell_good hw256 hs;have hN : (N.length : Int)<=44:=hv.2.2.2.2.1;(have hsy : symN p N st < 44:=by omega);obtain ⟨w0,hw0⟩:=nm_ ((w.alloc (.cells #[.pointer (some ⟨cg,0,none⟩),.int .i64 (st : Nat)] 95)).alloc (.cells #[.func (.func 112) #[] #[],.func (.func 113) #[] #[],.func (.func 114) #[] #[]] 148));obtain ⟨H,hH⟩:=nm_ (w.heap.size);(have f0 : Fresh w w0:=by rw [hw0];exact ((Upd.refl _ _).alloc _).alloc _);(have k0 : Blk w0 H 95 #[.pointer (some ⟨cg,0,none⟩),.int .i64 (st : Nat)]:=by rw [hw0];exact (blk_new hH _ _).alloc _);(have k1 : Blk w0 (H + 1) 148 #[.func (.func 112) #[] #[],.func (.func 113) #[] #[],.func (.func 114) #[] #[]]:=by rw [hw0];exact blk_new (by simp [hH]) _ _);have HCE:=hd_ (cell_any G cg p st N w0 (hc.fresh f0) hs);have HSY:=hd_ c1;have hgl:=h.1.lt;have hkl:=h.2.lt
 have hbt : exB false (symN p N st)<=27:=by
   unfold exB bitsL;simp only [Bool.false_eq_true,if_false];(try split);(all_goals omega)
 have HTK:=hd_ (fun W (f : Fresh w W)=>stake_any F g k bs s (exB false (symN p N st)) W (h.fresh f) (by omega) hgk hFk hFg);have htl : (takeE (valR bs) s (exB false (symN p N st))).1 < 2 ^ exB false (symN p N st):=takeE_lt _ _ _;have HBI : Hid (∀ W,Calls Tryz.prog 113 #[.int .i64 (symN p N st : Nat)] W fun e w'=>e = .returned (.tuple #[.int .i64 (exB false (symN p N st) : Nat),.int .i64 0])/\Fresh W w'):=fun W=>extraBits_any (symN p N st) W hsy;have HJO : Hid (∀ W,Calls Tryz.prog 114 #[.int .i64 (symN p N st : Nat),.int .u64 ((takeE (valR bs) s (exB false (symN p N st))).1 : Nat)] W fun e w'=>e = .returned (.tuple #[.int .i64 (valE (valR bs) false p N st s).1,.int .i64 0])/\Fresh W w'):=fun W=>join_any (symN p N st) _ W hsy htl;have e2 : (valE (valR bs) false p N st s).2 = (takeE (valR bs) s (exB false (symN p N st))).2:=rfl;rw [e2];have e3 : (cellZ p N (spreadN p N) st).1 = (symN p N st : Nat):=c1;rw [e3] at HCE;generalize (cellZ p N (spreadN p N) st).2.1 = y1 at *;generalize (cellZ p N (spreadN p N) st).2.2 = y2 at *;generalize ((valE (valR bs) false p N st s).1 : Nat) = val at *;generalize takeE (valR bs) s (exB false (symN p N st)) = tk at *;generalize exB false (symN p N st) = ex at *;generalize symN p N st = sy at *;obtain ⟨d0,d1⟩:=(k0).cells2;have K1:=hd_ k1;have F0:=hd_ f0;have HW:=hd_ hw0;have HH:=hd_ hH;clear h hc hv hw256 c1 c2 c3 c4 c5 c6 hN hsy htl e2 e3 hw0 hH f0 k0 k1 hs hFk hFg;refine veil fun R hR=>?_;go_enter Tryz.func94,Tryz.ntmps94;go_upto_region 1 with fail;simp only [<- HH.out,<- HW.out];go_wp2_with fail;refine HCE.out.mono ?_;rintro e w1 ⟨rfl,f1⟩;have F1:=hd_ (F0.out.trans' f1);have k2:=K1.out.fresh f1;clear d0 d1 f1;go_upto_region 2 with fail;obtain ⟨K,hK⟩:=nm_ (w1.heap.size);obtain ⟨w2,hw2⟩:=nm_ (w1.alloc (.cells #[.int .i64 (sy : Nat),.int .i64 y1,.int .i64 y2] 217));simp only [<- hK,<- hw2];(have f2 : Fresh w1 w2:=by rw [hw2];exact (Upd.refl _ _).alloc _);have k3:=k2.fresh f2;(have q3 : Blk w2 K 217 #[.int .i64 (sy : Nat),.int .i64 y1,.int .i64 y2]:=by rw [hw2];exact blk_new hK _ _);have F2:=hd_ (F1.out.trans' f2);have d1:=k3.cell 1;have d2:=q3.cell 0;simp at d1 d2;have K3:=hd_ k3;have Q3:=hd_ q3;have HK:=hd_ hK;clear hw2 f2 k2 k3 q3 hK;go_wp2_with fail;refine (HBI.out _).mono ?_;rintro e w3 ⟨rfl,f3⟩;have k4:=K3.out.fresh f3;have q4:=Q3.out.fresh f3;have F3:=hd_ (F2.out.trans' f3);have d1':=k4.cell 2;have d2':=q4.cell 0;simp at d1' d2';have K4:=hd_ k4;have Q4:=hd_ q4;have HKS:=hd_ (show H + 1 ≠ g/\H + 1 ≠ k by have:=HH.out;omega);have HQS:=hd_ (show K ≠ g/\K ≠ k by have:=F1.out.size;have:=HK.out;omega);clear f3 k4 q4 d1 d2
 have HSS : Hid (∀ W,Upd (fun b=>b = g\/b = k) w3 W->W.cell? ⟨H + 1,2,none⟩ = some (.func (.func 114) #[] #[])/\W.cell? ⟨K,0,none⟩ = some (.int .i64 (sy : Nat))):=fun W u =>
   ⟨by simpa using (K4.out.upd u (by have:=HKS.out;rintro (h | h);exact this.1 h;exact this.2 h)).cell 2,by simpa using (Q4.out.upd u (by have:=HQS.out;rintro (h | h);exact this.1 h;exact this.2 h)).cell 0⟩
 go_wp2_with fail
 go_region_held3 (fun W=>W.cell? ⟨H + 1,2,none⟩ = some (.func (.func 114) #[] #[])/\W.cell? ⟨K,0,none⟩ = some (.int .i64 (sy : Nat)))
   (first | exact ⟨d1',d2'⟩ | exact HSS.out _ ux | exact HSS.out _ uy)
   (first
     | (go_at_call 93;refine (HTK.out _ F3.out.drew).mono ?_;rintro e w4 ⟨rfl,u4,s4⟩;have ux : Upd (fun b=>b = g\/b = k) w3 w4:=Upd.trans' ((Upd.refl _ _).drew) u4)
     | (go_at_call 114;refine (HJO.out _).mono ?_;rintro e w5 ⟨rfl,f5⟩;have uy : Upd (fun b=>b = g\/b = k) w3 w5:=ux.trans f5 (fun _ _ h=>h.elim)))
 (all_goals go_wp2_with fail);(all_goals try go_ret);(all_goals exact hR.out _ _ ⟨rfl,(F3.out.mono (T:=fun b=>b = g\/b = k) fun _ _ h=>h.elim).trans' uy,s4.fresh f5⟩)
set_option maxHeartbeats 4000000 in
theorem svalO_any (F G : Nat->Prop) (g k : Nat) (bs : List Nat) (s : Nat × Int) (cg p st : Nat) (N : List Int) (w : World) (h : SrAt w F g k bs s) (hgk : g ≠ k) (hFk : ∀ b,F b->b ≠ k) (hFg : ∀ b,F b->b ≠ g)
   (hc : CoderF w G cg p N) (hv : Valid p N 28 9) (hs : st < 2 ^ p) :
   Calls Tryz.prog 94 #[.pointer (some ⟨g,0,none⟩),.agg #[.pointer (some ⟨cg,0,none⟩),.int .i64 (st : Nat)],
     .agg #[.func (.func 115) #[] #[],.func (.func 116) #[] #[],.func (.func 117) #[] #[]]] w fun e w' =>
     e = .returned (.int .i64 ((valE (valR bs) true p N st s).1 : Nat))/\Upd (fun b=>b = g\/b = k) w w'/\SrAt w' F g k bs (valE (valR bs) true p N st s).2:=by
 have hw256 : Valid p N 256 9:=by
   obtain ⟨a1,a2,a3,a4,a5,a6⟩:=hv;exact ⟨a1,a2,a3,a4,by omega,a6⟩
 obtain ⟨c1,c2,c3,c4,c5,c6⟩:=cell_good hw256 hs;have hN : (N.length : Int)<=28:=hv.2.2.2.2.1;(have hsy : symN p N st < 28:=by omega);obtain ⟨w0,hw0⟩:=nm_ ((w.alloc (.cells #[.pointer (some ⟨cg,0,none⟩),.int .i64 (st : Nat)] 95)).alloc (.cells #[.func (.func 115) #[] #[],.func (.func 116) #[] #[],.func (.func 117) #[] #[]] 148));obtain ⟨H,hH⟩:=nm_ (w.heap.size);(have f0 : Fresh w w0:=by rw [hw0];exact ((Upd.refl _ _).alloc _).alloc _);(have k0 : Blk w0 H 95 #[.pointer (some ⟨cg,0,none⟩),.int .i64 (st : Nat)]:=by rw [hw0];exact (blk_new hH _ _).alloc _);(have k1 : Blk w0 (H + 1) 148 #[.func (.func 115) #[] #[],.func (.func 116) #[] #[],.func (.func 117) #[] #[]]:=by rw [hw0];exact blk_new (by simp [hH]) _ _);have HCE:=hd_ (cell_any G cg p st N w0 (hc.fresh f0) hs);have HSY:=hd_ c1;have hgl:=h.1.lt;have hkl:=h.2.lt
 have hbt : exB true (symN p N st)<=27:=by
   unfold exB bitsL;simp only [if_true];(try split);(all_goals omega)
 have HTK:=hd_ (fun W (f : Fresh w W)=>stake_any F g k bs s (exB true (symN p N st)) W (h.fresh f) (by omega) hgk hFk hFg);have htl : (takeE (valR bs) s (exB true (symN p N st))).1 < 2 ^ exB true (symN p N st):=takeE_lt _ _ _;have HBI : Hid (∀ W,Calls Tryz.prog 116 #[.int .i64 (symN p N st : Nat)] W fun e w'=>e = .returned (.tuple #[.int .i64 (exB true (symN p N st) : Nat),.int .i64 0])/\Fresh W w'):=fun W=>offsetBits_any (symN p N st) W hsy;have HJO : Hid (∀ W,Calls Tryz.prog 117 #[.int .i64 (symN p N st : Nat),.int .u64 ((takeE (valR bs) s (exB true (symN p N st))).1 : Nat)] W fun e w'=>e = .returned (.tuple #[.int .i64 (valE (valR bs) true p N st s).1,.int .i64 0])/\Fresh W w'):=fun W=>joinOffset_any (symN p N st) _ W hsy htl;have e2 : (valE (valR bs) true p N st s).2 = (takeE (valR bs) s (exB true (symN p N st))).2:=rfl;rw [e2];have e3 : (cellZ p N (spreadN p N) st).1 = (symN p N st : Nat):=c1;rw [e3] at HCE;generalize (cellZ p N (spreadN p N) st).2.1 = y1 at *;generalize (cellZ p N (spreadN p N) st).2.2 = y2 at *;generalize ((valE (valR bs) true p N st s).1 : Nat) = val at *;generalize takeE (valR bs) s (exB true (symN p N st)) = tk at *;generalize exB true (symN p N st) = ex at *;generalize symN p N st = sy at *;obtain ⟨d0,d1⟩:=(k0).cells2;have K1:=hd_ k1;have F0:=hd_ f0;have HW:=hd_ hw0;have HH:=hd_ hH;clear h hc hv hw256 c1 c2 c3 c4 c5 c6 hN hsy htl e2 e3 hw0 hH f0 k0 k1 hs hFk hFg;refine veil fun R hR=>?_;go_enter Tryz.func94,Tryz.ntmps94;go_upto_region 1 with fail;simp only [<- HH.out,<- HW.out];go_wp2_with fail;refine HCE.out.mono ?_;rintro e w1 ⟨rfl,f1⟩;have F1:=hd_ (F0.out.trans' f1);have k2:=K1.out.fresh f1;clear d0 d1 f1;go_upto_region 2 with fail;obtain ⟨K,hK⟩:=nm_ (w1.heap.size);obtain ⟨w2,hw2⟩:=nm_ (w1.alloc (.cells #[.int .i64 (sy : Nat),.int .i64 y1,.int .i64 y2] 217));simp only [<- hK,<- hw2];(have f2 : Fresh w1 w2:=by rw [hw2];exact (Upd.refl _ _).alloc _);have k3:=k2.fresh f2;(have q3 : Blk w2 K 217 #[.int .i64 (sy : Nat),.int .i64 y1,.int .i64 y2]:=by rw [hw2];exact blk_new hK _ _);have F2:=hd_ (F1.out.trans' f2);have d1:=k3.cell 1;have d2:=q3.cell 0;simp at d1 d2;have K3:=hd_ k3;have Q3:=hd_ q3;have HK:=hd_ hK;clear hw2 f2 k2 k3 q3 hK;go_wp2_with fail;refine (HBI.out _).mono ?_;rintro e w3 ⟨rfl,f3⟩;have k4:=K3.out.fresh f3;have q4:=Q3.out.fresh f3;have F3:=hd_ (F2.out.trans' f3);have d1':=k4.cell 2;have d2':=q4.cell 0;simp at d1' d2';have K4:=hd_ k4;have Q4:=hd_ q4;have HKS:=hd_ (show H + 1 ≠ g/\H + 1 ≠ k by have:=HH.out;omega);have HQS:=hd_ (show K ≠ g/\K ≠ k by have:=F1.out.size;have:=HK.out;omega);clear f3 k4 q4 d1 d2
 have HSS : Hid (∀ W,Upd (fun b=>b = g\/b = k) w3 W->W.cell? ⟨H + 1,2,none⟩ = some (.func (.func 117) #[] #[])/\W.cell? ⟨K,0,none⟩ = some (.int .i64 (sy : Nat))):=fun W u =>
   ⟨by simpa using (K4.out.upd u (by have:=HKS.out;rintro (h | h);exact this.1 h;exact this.2 h)).cell 2,by simpa using (Q4.out.upd u (by have:=HQS.out;rintro (h | h);exact this.1 h;exact this.2 h)).cell 0⟩
 go_wp2_with fail
 go_region_held3 (fun W=>W.cell? ⟨H + 1,2,none⟩ = some (.func (.func 117) #[] #[])/\W.cell? ⟨K,0,none⟩ = some (.int .i64 (sy : Nat)))
   (first | exact ⟨d1',d2'⟩ | exact HSS.out _ ux | exact HSS.out _ uy)
   (first
     | (go_at_call 93;refine (HTK.out _ F3.out.drew).mono ?_;rintro e w4 ⟨rfl,u4,s4⟩;have ux : Upd (fun b=>b = g\/b = k) w3 w4:=Upd.trans' ((Upd.refl _ _).drew) u4)
     | (go_at_call 117;refine (HJO.out _).mono ?_;rintro e w5 ⟨rfl,f5⟩;have uy : Upd (fun b=>b = g\/b = k) w3 w5:=ux.trans f5 (fun _ _ h=>h.elim)))
 (all_goals go_wp2_with fail);(all_goals try go_ret);(all_goals exact hR.out _ _ ⟨rfl,(F3.out.mono (T:=fun b=>b = g\/b = k) fun _ _ h=>h.elim).trans' uy,s4.fresh f5⟩)
set_option maxHeartbeats 40000000 in
theorem son_any (F G : Nat->Prop) (g k : Nat) (bs : List Nat) (s : Nat × Int) (cg p st tb o : Nat) (N : List Int) (cs : Array Value) (w : World) (h : SrAt w F g k bs s) (hgk : g ≠ k) (hFk : ∀ b,F b->b ≠ k) (hFg : ∀ b,F b->b ≠ g)
   (hc : CoderF w G cg p N) (hG : ∀ b,G b->b ≠ g/\b ≠ k) (hv : Valid p N 256 9) (hs : st < 2 ^ p) (hb : Blk w tb 96 cs) (h0 : cs[o]? = some (.pointer (some ⟨cg,0,none⟩))) (h1 : cs[o + 1]? = some (.int .i64 (st : Nat)))
   (htg : tb ≠ g) (htk : tb ≠ k) (hFt : ∀ b,F b->b ≠ tb) :
   Calls Tryz.prog 95 #[.pointer (some ⟨g,0,none⟩),.pointer (some ⟨tb,o,none⟩)] w fun e w' =>
     e = .returned (.tuple #[])/\Upd (fun b=>b = g\/b = k\/b = tb) w w'/\SrAt w' F g k bs (onE (valR bs) p N st s).2/\Blk w' tb 96 (cs.setIfInBounds (o + 1) (.int .i64 ((onE (valR bs) p N st s).1 : Nat))):=by
 obtain ⟨c1,c2,c3,c4,c5,c6⟩:=cell_good hv hs;(have hp9 : p<=9:=by have:=hv.2.1;omega);(have hbt : bitN p N st<=9:=by omega);have HCE:=hd_ (fun W (f : Fresh w W)=>cell_any G cg p st N W (hc.fresh f) hs);have HTK:=hd_ (fun W (f : Fresh w W)=>stake_any F g k bs s (bitN p N st) W (h.fresh f) (by omega) hgk hFk hFg);have htl : (takeE (valR bs) s (bitN p N st)).1 < 2 ^ bitN p N st:=takeE_lt _ _ _;have hpw : 2 ^ bitN p N st<=512:=Nat.le_trans (Nat.pow_le_pow_right (by decide) hbt) (by decide);have HNX:=hd_ (fun W (f : Upd (fun b=>b = g\/b = k) w W)=>next_any G cg p st (takeE (valR bs) s (bitN p N st)).1 N W (hc.upd f (fun b hb _ e=>by have:=hG b hb;rcases e with e | e;exact this.1 e;exact this.2 e)) hs hv (by omega));have e1 : (cellZ p N (spreadN p N) st).2.2 = (bseN p N st : Nat):=c5;have e2 : (takeE (valR bs) s (bitN p N st)).1 % 2 ^ (bitZ p N (spreadN p N) st).toNat = (takeE (valR bs) s (bitN p N st)).1:=Nat.mod_eq_of_lt htl;have e3 : (cellZ p N (spreadN p N) st).2.1 = (bitN p N st : Nat):=c3;(have e4 : ((bseN p N st : Nat) : Int) + ((takeE (valR bs) s (bitN p N st)).1 : Nat) = ((onE (valR bs) p N st s).1 : Nat):=by simp [onE]);rw [e1,e2,e4] at HNX;rw [e1,e3] at HCE;have e5 : (onE (valR bs) p N st s).2 = (takeE (valR bs) s (bitN p N st)).2:=rfl;rw [e5];have hgl:=h.1.lt;have hkl:=h.2.lt;have htl2:=hb.lt;generalize (cellZ p N (spreadN p N) st).1 = y1 at *;generalize ((bseN p N st : Nat) : Int) = y2 at *;generalize ((onE (valR bs) p N st s).1 : Nat) = val at *;generalize takeE (valR bs) s (bitN p N st) = tk at *;generalize bitN p N st = bt at *;have d0:=hb.cell o;have d1:=hb.cell (o + 1);rw [h0] at d0;rw [h1] at d1;have B0:=hd_ hb;have H0:=hd_ h0;have H1:=hd_ h1;have HFt:=hd_ hFt;have HN1:=hd_ (And.intro htg htk);clear h hc hv c1 c2 c3 c4 c5 c6 htl e1 e2 e3 e4 e5 hpw hs hFk hFg hb h0 h1 hG hFt htg htk hgk;refine veil fun R hR=>?_;go_enter Tryz.func95,Tryz.ntmps95;go_upto_region 0 with fail;go_cut [4,5] (fun q q5 wx=>∃ K,q = .pointer (some ⟨K,0,none⟩)/\q5 = .int .i64 0/\Blk wx K 217 #[.int .i64 y1,.int .i64 (bt : Nat),.int .i64 y2]/\Fresh w wx/\w.heap.size<=K)
 case first =>
   have hss : ∀ W,Fresh w W->Fresh w W/\W.cell? ⟨tb,o,none⟩ = some (.pointer (some ⟨cg,0,none⟩))/\W.cell? ⟨tb,o + 1,none⟩ = some (.int .i64 (st : Nat)):=fun W f=>⟨f,by rw [f.cells _ _ htl2];exact d0,by rw [f.cells _ _ htl2];exact d1⟩;have HSS:=hd_ hss;clear hss
   go_region_held3 (fun W=>Fresh w W/\W.cell? ⟨tb,o,none⟩ = some (.pointer (some ⟨cg,0,none⟩))/\W.cell? ⟨tb,o + 1,none⟩ = some (.int .i64 (st : Nat)))
     (first | exact HSS.out _ (Upd.refl _ _).drew | exact HSS.out _ ((Upd.refl _ _).drew.alloc _) | exact HSS.out _ fx | exact HSS.out _ (fx.alloc _) | exact HSS.out _ (fx.trans (setThree _ _ _ _ _) (fun b hb e=>by omega)))
     (first
       | (go_at_call 153;refine (HCE.out _ (And.left (by assumption))).mono ?_;rintro e w4 ⟨rfl,f4⟩;have fx : Fresh w w4:=Upd.trans' (And.left (by assumption)) f4;have bz : Blk w4 w.heap.size 217 #[.int .i64 0,.int .i64 0,.int .i64 0]:=(Blk.new w.drew 217 #[.int .i64 0,.int .i64 0,.int .i64 0]).fresh f4;have z0:=bz.cell 0;have z1:=bz.cell 1;have z2:=bz.cell 2;have y0:=bz.frozen 0;have y1':=bz.frozen 1;have y2':=bz.frozen 2)
       | (go_at_call 153;refine (HCE.out _ (And.left (by assumption))).mono ?_;rintro e w4 ⟨rfl,f4⟩;have fx : Fresh w w4:=Upd.trans' (And.left (by assumption)) f4))
   (all_goals go_wp2_with fail);(all_goals go_meet)
   all_goals
     first
       | exact ⟨w4.heap.size,rfl,rfl,Blk.new _ _ _,fx.alloc _,fx.size⟩
       | exact ⟨w.heap.size,rfl,rfl,by simpa using ((bz.set_ 0 (.int .i64 y1)).set_ 1 (.int .i64 (bt : Nat))).set_ 2 (.int .i64 y2),fx.trans (setThree _ _ _ _ _) (fun b hb e=>by omega),Nat.le_refl _⟩
 case rest =>
   obtain ⟨K,rfl,rfl,bK,fx,hK⟩:=hcut;have b1:=B0.out.fresh fx;(have d0' : wc.cell? ⟨tb,o,none⟩ = some (.pointer (some ⟨cg,0,none⟩)):=by rw [fx.cells _ _ htl2];exact d0);(have d1' : wc.cell? ⟨tb,o + 1,none⟩ = some (.int .i64 (st : Nat)):=by rw [fx.cells _ _ htl2];exact d1);have d2':=bK.cell 1;simp at d2';have z1:=b1.frozen (o + 1);have B1:=hd_ b1;have BK:=hd_ bK;have FX:=hd_ fx;have HK:=hd_ (show K ≠ g/\K ≠ k/\K ≠ tb by omega)
   have HSS : Hid (∀ W,Upd (fun b=>b = g\/b = k) wc W->W.cell? ⟨tb,o,none⟩ = some (.pointer (some ⟨cg,0,none⟩))/\W.cell? ⟨tb,o + 1,none⟩ = some (.int .i64 (st : Nat))/\W.cell? ⟨K,1,none⟩ = some (.int .i64 (bt : Nat))/\W.frozen? ⟨tb,o + 1,none⟩ = false):=fun W u=>by
     have b2:=B1.out.upd u (by have:=HN1.out;rintro (h | h);exact this.1 h;exact this.2 h);have k2:=BK.out.upd u (by have:=HK.out;rintro (h | h);exact this.1 h;exact this.2.1 h);exact ⟨by rw [b2.cell];exact H0.out,by rw [b2.cell];exact H1.out,by simpa using k2.cell 1,b2.frozen _⟩
   clear b1 bK fx hK d0 d1;go_wp2_with fail
   go_region_with
     (first
       | (go_at_call 93;refine (HTK.out _ (by first | exact FX.out | exact FX.out.drew | exact FX.out.drewN _)).mono ?_;rintro e w4 ⟨rfl,u4,s4⟩;have ux : Upd (fun b=>b = g\/b = k) wc w4:=(by first | exact u4 | exact Upd.trans' ((Upd.refl _ _).drew) u4 | exact Upd.trans' ((Upd.refl _ _).drewN _) u4);obtain ⟨c1x,c2x,c3x,c4x⟩:=HSS.out _ ux)
       | (go_at_call 154;refine (HNX.out _ (by exact (FX.out.mono (T:=fun b=>b = g\/b = k) fun _ _ h=>h.elim).trans' ux)).mono ?_;rintro e w5 ⟨rfl,f5⟩;have uy : Upd (fun b=>b = g\/b = k) wc w5:=ux.trans f5 (fun _ _ h=>h.elim);obtain ⟨c1y,c2y,c3y,c4y⟩:=HSS.out _ uy))
   all_goals
     have u2 : Upd (fun b=>b = tb) w5 (w5.setCell ⟨tb,o + 1,none⟩ (.int .i64 (val : Nat))):=(Upd.refl (fun b=>b = tb) w5).setCell (p:=⟨tb,o + 1,none⟩) (fun _=>rfl) _;have u3 : Upd (fun b=>b = g\/b = k\/b = tb) w w5:=(FX.out.mono (T:=fun b=>b = g\/b = k\/b = tb) fun _ _ h=>h.elim).trans' (uy.mono (T:=fun b=>b = g\/b = k\/b = tb) fun _ _ h=>by rcases h with h | h;exact .inl h;exact .inr (.inl h));have b5:=(B1.out.upd uy (by have:=HN1.out;rintro (h | h);exact this.1 h;exact this.2 h)).set_ (o + 1) (.int .i64 (val : Nat));have s5:=(s4.fresh f5).upd u2 (Ne.symm HN1.out.1) (Ne.symm HN1.out.2) (fun b hb=>HFt.out b hb);(try go_end0)
     first
       | exact hR.out _ _ ⟨rfl,u3.trans u2 (fun b _ h=>.inr (.inr h)),s5,b5⟩
       | exact hR.out _ _ ⟨rfl,(u3.trans u2 (fun b _ h=>.inr (.inr h))).drew,s5,b5⟩
       | trace_state
theorem infoRaw : (Tryz.prog.info? 86).map (fun i=>(i.zero,i.size,i.bytes)) = some (some (.agg #[.int .i64 0,.int .i64 0,.int .i64 0]),3,24):=by kernel_rfl
theorem valid_9 {p : Nat} {N : List Int} {s : Int} (h : Valid p N s 8) : Valid p N s 9:=by
 obtain ⟨a1,a2,a3,a4,a5,a6⟩:=h;exact ⟨a1,by omega,a3,a4,a5,a6⟩
set_option maxHeartbeats 40000000 in
theorem read_any (F G : Nat->Prop) (g k : Nat) (bs : List Nat) (t n g0 g1 g2 : Nat) (T : Trks) (w : World) (h : SrAt w F g k bs (t,0)) (hgk : g ≠ k) (hFk : ∀ b,F b->b ≠ k) (hFg : ∀ b,F b->b ≠ g) (hFl : ∀ b,F b->b < w.heap.size)
   (hc0 : CoderF w G g0 T.pL T.NL) (hc1 : CoderF w G g1 T.pO T.NO) (hc2 : CoderF w G g2 T.pM T.NM) (hG : ∀ b,G b->b ≠ g/\b ≠ k/\b < w.heap.size) (hT : T.ok) (hn : n<=65536) :
   Calls Tryz.prog 60 #[.pointer (some ⟨g,0,none⟩),.agg #[.pointer (some ⟨g0,0,none⟩),.int .i64 0,.pointer (some ⟨g1,0,none⟩),.int .i64 0,.pointer (some ⟨g2,0,none⟩),.int .i64 0],.int .i64 (n : Nat)] w fun e w'=>∃ v,
     e = .returned v/\OwnK w' 86 3 v ((allE (valR bs) T n t).1.map rawC)/\(∀ b,v.ownBlock = some b->w.heap.size<=b)/\Upd (fun b=>b = g\/b = k) w w'/\SrAt w' F g k bs (allE (valR bs) T n t).2:=by
 obtain ⟨hwL,hwO,hwM⟩:=hT.wide;have hgl:=h.1.lt;have hkl:=h.2.lt;obtain ⟨w0,hw0⟩:=nm_ (w.alloc (.cells #[.pointer (some ⟨g0,0,none⟩),.int .i64 0,.pointer (some ⟨g1,0,none⟩),.int .i64 0,.pointer (some ⟨g2,0,none⟩),.int .i64 0] 96));obtain ⟨H,hH⟩:=nm_ (w.heap.size);(have f0 : Fresh w w0:=by rw [hw0];exact (Upd.refl _ _).alloc _);(have ba : Blk w0 H 96 #[.pointer (some ⟨g0,0,none⟩),.int .i64 0,.pointer (some ⟨g1,0,none⟩),.int .i64 0,.pointer (some ⟨g2,0,none⟩),.int .i64 0]:=by rw [hw0];exact blk_new hH _ _);(have hs0 : w0.heap.size = H + 1:=by rw [hw0,hH];simp);(have hgH : g ≠ H:=by omega);(have hkH : k ≠ H:=by omega);(have hFH : ∀ b,F b->b ≠ H:=fun b hb=>by have:=hFl b hb;omega);have cs : ∀ (c p : Nat) (N : List Int),CoderF w G c p N->∀ W,Upd (fun b=>b = g\/b = k\/b = H) w0 W->CoderF W G c p N:=fun c p N hc W u=>(hc.fresh f0).upd u (fun b hb _ e=>by have:=hG b hb;omega);have C0:=hd_ (cs _ _ _ hc0);have C1:=hd_ (cs _ _ _ hc1);have C2:=hd_ (cs _ _ _ hc2);have SR0:=hd_ (h.fresh f0);have HTK:=hd_ (fun W s n (hW : SrAt W F g k bs s) (hn : n<=64)=>stake_any F g k bs s n W hW hn hgk hFk hFg);have HVO:=hd_ (fun W s st (hW : SrAt W F g k bs s) (hu : Upd (fun b=>b = g\/b = k\/b = H) w0 W) (hst : st < 2 ^ T.pO)=>svalO_any F G g k bs s g1 T.pO st T.NO W hW hgk hFk hFg (cs _ _ _ hc1 W hu) (valid_9 hT.2.1) hst);have HVM:=hd_ (fun W s st (hW : SrAt W F g k bs s) (hu : Upd (fun b=>b = g\/b = k\/b = H) w0 W) (hst : st < 2 ^ T.pM)=>svalL_any F G g k bs s g2 T.pM st T.NM W hW hgk hFk hFg (cs _ _ _ hc2 W hu) hT.2.2 hst);have HVL:=hd_ (fun W s st (hW : SrAt W F g k bs s) (hu : Upd (fun b=>b = g\/b = k\/b = H) w0 W) (hst : st < 2 ^ T.pL)=>svalL_any F G g k bs s g0 T.pL st T.NL W hW hgk hFk hFg (cs _ _ _ hc0 W hu) hT.1 hst);have hGn : ∀ b,G b->b ≠ g/\b ≠ k:=fun b hb=>⟨(hG b hb).1,(hG b hb).2.1⟩;have HOL:=hd_ (fun W s st A (hW : SrAt W F g k bs s) (hu : Upd (fun b=>b = g\/b = k\/b = H) w0 W) (hst : st < 2 ^ T.pL) hb h0 h1=>son_any F G g k bs s g0 T.pL st H 0 T.NL A W hW hgk hFk hFg (cs _ _ _ hc0 W hu) hGn hwL hst hb h0 h1 (Ne.symm hgH) (Ne.symm hkH) hFH);have HOO:=hd_ (fun W s st A (hW : SrAt W F g k bs s) (hu : Upd (fun b=>b = g\/b = k\/b = H) w0 W) (hst : st < 2 ^ T.pO) hb h0 h1=>son_any F G g k bs s g1 T.pO st H 2 T.NO A W hW hgk hFk hFg (cs _ _ _ hc1 W hu) hGn hwO hst hb h0 h1 (Ne.symm hgH) (Ne.symm hkH) hFH);have HOM:=hd_ (fun W s st A (hW : SrAt W F g k bs s) (hu : Upd (fun b=>b = g\/b = k\/b = H) w0 W) (hst : st < 2 ^ T.pM) hb h0 h1=>son_any F G g k bs s g2 T.pM st H 4 T.NM A W hW hgk hFk hFg (cs _ _ _ hc2 W hu) hGn hwM hst hb h0 h1 (Ne.symm hgH) (Ne.symm hkH) hFH);have hp9 : T.pL<=9/\T.pO<=9/\T.pM<=9:=⟨by have:=hwL.2.1;omega,by have:=hwO.2.1;omega,by have:=hwM.2.1;omega⟩;have HP9:=hd_ hp9;have HT:=hd_ hT;have HF:=hd_ (And.intro hFg (And.intro hFk hFH))
 have HFL:=hd_ hFl;have HNE:=hd_ (And.intro hgk (And.intro hgH hkH));have HW:=hd_ hw0;have HH:=hd_ hH;have F0:=hd_ f0;have BA:=hd_ ba;have HS0:=hd_ hs0;have HGL:=hd_ (And.intro hgl hkl);have HPA:=hd_ parts_any;have HLG:=hd_ log_any;have HBL:=hd_ bleft_any;obtain ⟨V,hV⟩:=nm_ (valR bs);rw [<- hV];rw [<- hV] at HTK HVO HVM HVL HOL HOO HOM;clear h hw0 hH f0 ba hs0 cs hc0 hc1 hc2 hT hwL hwO hwM hp9 hFk hFg hFH hFl hG hGn hgk hgH hkH hgl hkl hV;refine veil fun R hR=>?_;go_enter Tryz.func60,Tryz.ntmps60;go_upto_region 1 with fail;simp only [<- HH.out,<- HW.out];go_wp2_with fail
 go_loopg [12] 3 (fun f vi wr=>∃ (i : Nat) (S : Sts) (s : Nat × Int),i + f = 3/\vi = .int .i64 i/\stF V T t i = (S,s)/\Upd (fun b=>b = g\/b = k\/b = H) w0 wr /\
   Blk wr H 96 #[.pointer (some ⟨g0,0,none⟩),.int .i64 (S.l : Nat),.pointer (some ⟨g1,0,none⟩),.int .i64 (S.o : Nat),.pointer (some ⟨g2,0,none⟩),.int .i64 (S.m : Nat)]/\SrAt wr F g k bs s)
 case atStart=>exact ⟨0,_,_,rfl,rfl,rfl,Upd.refl _ _,BA.out,SR0.out⟩
 case round =>
   obtain ⟨i,S,s,hf,rfl,hst,hu,hb,hsr⟩:=hrel;obtain ⟨a0,a1,a2,a3,a4,a5⟩:=(hb).cells6;have HU:=hd_ hu;have HB:=hd_ hb;have HST:=hd_ hst;have HSR:=hd_ hsr;(have h4 : i = 0\/i = 1\/i = 2\/i = 3:=by omega);clear hu hb hst hsr;rcases h4 with rfl | rfl | rfl | rfl
   . obtain rfl : gk = 3:=by omega
     clear hf;have HLOG:=hd_ (HLG.out G g0 T.pL _ wr (C0.out _ HU.out) (by have:=HP9.out;omega));have HTA:=hd_ (HTK.out wr s T.pL HSR.out (by have:=HP9.out;omega));have hq : (takeE V s T.pL).1 < 512:=Nat.lt_of_lt_of_le (takeE_lt V s T.pL) (Nat.le_trans (Nat.pow_le_pow_right (by decide) (show T.pL<=9 by have:=HP9.out;omega)) (by decide))
     have HSN:=hd_ (show stF V T t 1 = (⟨(takeE V s T.pL).1,S.o,S.m⟩,(takeE V s T.pL).2) by
       have e:=HST.out;(have e1 : S = (stF V T t 0).1:=by rw [e]);(have e2 : s = (stF V T t 0).2:=by rw [e])
       rw [e1,e2];rfl)
     generalize takeE V s T.pL = tk at *;have s1 : wrap64 ((tk.1 : Nat) : Int) = ((tk.1 : Nat) : Int):=wrap64_small _ (by omega);have s2 : IntKind.i64.wrap ((tk.1 : Nat) : Int) = ((tk.1 : Nat) : Int):=IntWalk.i64_in _ (by omega);go_wp2_with fail;refine HLOG.out.mono ?_;rintro e w1 ⟨rfl,rfl⟩;go_wp2_with fail;refine HTA.out.mono ?_;rintro e w2 ⟨rfl,u2,r2⟩;have hb2:=HB.out.upd u2 (by have:=HNE.out;omega);have y0:=hb2.cell 1;have z0:=hb2.frozen 1;simp at y0;have hb3:=hb2.set_ 1 (.int .i64 (tk.1 : Nat));have u3 : Upd (fun b=>b = H) w2 (w2.setCell ⟨H,1,none⟩ (.int .i64 (tk.1 : Nat))):=(Upd.refl (fun b=>b = H) w2).setCell (p:=⟨H,1,none⟩) (fun _=>rfl) _;have HR3:=hd_ (r2.upd u3 (by have:=HNE.out;omega) (by have:=HNE.out;omega) (fun b hb=>HF.out.2.2 b hb));have HU3:=hd_ ((HU.out.trans' (u2.mono (T:=fun b=>b = g\/b = k\/b = H) fun b _ hb=>by rcases hb with h | h;exact .inl h;exact .inr (.inl h))).trans' (u3.mono (T:=fun b=>b = g\/b = k\/b = H) fun b _ hb=>.inr (.inr hb)));have HB3:=hd_ hb3;clear hb2 hb3 u2 u3 r2 a0 a1 a2 a3 a4 a5;go_wp2_with fail;go_roundg 2
     case measure=>omega
     case rel=>exact ⟨1,_,_,rfl,by go_num,HSN.out,HU3.out,by simpa using HB3.out,HR3.out⟩
   . obtain rfl : gk = 2:=by omega
     clear hf;have HLOG:=hd_ (HLG.out G g1 T.pO _ wr (C1.out _ HU.out) (by have:=HP9.out;omega));have HTA:=hd_ (HTK.out wr s T.pO HSR.out (by have:=HP9.out;omega));have hq : (takeE V s T.pO).1 < 512:=Nat.lt_of_lt_of_le (takeE_lt V s T.pO) (Nat.le_trans (Nat.pow_le_pow_right (by decide) (show T.pO<=9 by have:=HP9.out;omega)) (by decide))
     have HSN:=hd_ (show stF V T t 2 = (⟨S.l,(takeE V s T.pO).1,S.m⟩,(takeE V s T.pO).2) by
       have e:=HST.out;(have e1 : S = (stF V T t 1).1:=by rw [e]);(have e2 : s = (stF V T t 1).2:=by rw [e])
       rw [e1,e2];rfl)
     generalize takeE V s T.pO = tk at *;have s1 : wrap64 ((tk.1 : Nat) : Int) = ((tk.1 : Nat) : Int):=wrap64_small _ (by omega);have s2 : IntKind.i64.wrap ((tk.1 : Nat) : Int) = ((tk.1 : Nat) : Int):=IntWalk.i64_in _ (by omega);go_wp2_with fail;refine HLOG.out.mono ?_;rintro e w1 ⟨rfl,rfl⟩;go_wp2_with fail;refine HTA.out.mono ?_;rintro e w2 ⟨rfl,u2,r2⟩;have hb2:=HB.out.upd u2 (by have:=HNE.out;omega);have y0:=hb2.cell 3;have z0:=hb2.frozen 3;simp at y0;have hb3:=hb2.set_ 3 (.int .i64 (tk.1 : Nat));have u3 : Upd (fun b=>b = H) w2 (w2.setCell ⟨H,3,none⟩ (.int .i64 (tk.1 : Nat))):=(Upd.refl (fun b=>b = H) w2).setCell (p:=⟨H,3,none⟩) (fun _=>rfl) _;have HR3:=hd_ (r2.upd u3 (by have:=HNE.out;omega) (by have:=HNE.out;omega) (fun b hb=>HF.out.2.2 b hb));have HU3:=hd_ ((HU.out.trans' (u2.mono (T:=fun b=>b = g\/b = k\/b = H) fun b _ hb=>by rcases hb with h | h;exact .inl h;exact .inr (.inl h))).trans' (u3.mono (T:=fun b=>b = g\/b = k\/b = H) fun b _ hb=>.inr (.inr hb)));have HB3:=hd_ hb3;clear hb2 hb3 u2 u3 r2 a0 a1 a2 a3 a4 a5;go_wp2_with fail;go_roundg 1
     case measure=>omega
     case rel=>exact ⟨2,_,_,rfl,by go_num,HSN.out,HU3.out,by simpa using HB3.out,HR3.out⟩
   . obtain rfl : gk = 1:=by omega
     clear hf;have HLOG:=hd_ (HLG.out G g2 T.pM _ wr (C2.out _ HU.out) (by have:=HP9.out;omega));have HTA:=hd_ (HTK.out wr s T.pM HSR.out (by have:=HP9.out;omega));have hq : (takeE V s T.pM).1 < 512:=Nat.lt_of_lt_of_le (takeE_lt V s T.pM) (Nat.le_trans (Nat.pow_le_pow_right (by decide) (show T.pM<=9 by have:=HP9.out;omega)) (by decide))
     have HSN:=hd_ (show stF V T t 3 = (⟨S.l,S.o,(takeE V s T.pM).1⟩,(takeE V s T.pM).2) by
       have e:=HST.out;(have e1 : S = (stF V T t 2).1:=by rw [e]);(have e2 : s = (stF V T t 2).2:=by rw [e])
       rw [e1,e2];rfl)
     generalize takeE V s T.pM = tk at *;have s1 : wrap64 ((tk.1 : Nat) : Int) = ((tk.1 : Nat) : Int):=wrap64_small _ (by omega);have s2 : IntKind.i64.wrap ((tk.1 : Nat) : Int) = ((tk.1 : Nat) : Int):=IntWalk.i64_in _ (by omega);go_wp2_with fail;refine HLOG.out.mono ?_;rintro e w1 ⟨rfl,rfl⟩;go_wp2_with fail;refine HTA.out.mono ?_;rintro e w2 ⟨rfl,u2,r2⟩;have hb2:=HB.out.upd u2 (by have:=HNE.out;omega);have y0:=hb2.cell 5;have z0:=hb2.frozen 5;simp at y0;have hb3:=hb2.set_ 5 (.int .i64 (tk.1 : Nat));have u3 : Upd (fun b=>b = H) w2 (w2.setCell ⟨H,5,none⟩ (.int .i64 (tk.1 : Nat))):=(Upd.refl (fun b=>b = H) w2).setCell (p:=⟨H,5,none⟩) (fun _=>rfl) _;have HR3:=hd_ (r2.upd u3 (by have:=HNE.out;omega) (by have:=HNE.out;omega) (fun b hb=>HF.out.2.2 b hb));have HU3:=hd_ ((HU.out.trans' (u2.mono (T:=fun b=>b = g\/b = k\/b = H) fun b _ hb=>by rcases hb with h | h;exact .inl h;exact .inr (.inl h))).trans' (u3.mono (T:=fun b=>b = g\/b = k\/b = H) fun b _ hb=>.inr (.inr hb)));have HB3:=hd_ hb3;clear hb2 hb3 u2 u3 r2 a0 a1 a2 a3 a4 a5;go_wp2_with fail;go_roundg 0
     case measure=>omega
     case rel=>exact ⟨3,_,_,rfl,by go_num,HSN.out,HU3.out,by simpa using HB3.out,HR3.out⟩
   (obtain rfl : gk = 0:=by omega);clear hf;have hse : startE V T (t,0) = (S,s):=HST.out;have HSE:=hd_ hse;have HSO:=hd_ (show S.ok T by have:=startE_ok V T (t,0);rw [hse] at this;exact this);have HAL:=hd_ (show allE V T n t = ((readE V T n S s).1,(readE V T n S s).2.1,if (readE V T n S s).2.2 = 0/\(readE V T n S s).2.1 ≠ 0 then 14 else (readE V T n S s).2.2) by unfold allE;rw [hse]);clear hse HST;generalize allE V T n t = AL at *;go_wp2_with fail;refine (HPA.out _).mono ?_;rintro e w1 ⟨rfl,f1⟩;have HR1:=hd_ (HSR.out.fresh f1);have HB1:=hd_ (HB.out.fresh f1);have HU1:=hd_ (HU.out.trans' (f1.mono (T:=fun b=>b = g\/b = k\/b = H) fun _ _ h=>h.elim));clear f1 a0 a1 a2 a3 a4 a5;go_wp2_with fail;obtain ⟨K,hK⟩:=nm_ (w1.heap.size);obtain ⟨w2,hw2⟩:=nm_ (w1.alloc (.cells #[.func (.func 112) #[] #[],.func (.func 113) #[] #[],.func (.func 114) #[] #[],.func (.func 115) #[] #[],.func (.func 116) #[] #[],.func (.func 117) #[] #[],.func (.func 112) #[] #[],.func (.func 113) #[] #[],.func (.func 114) #[] #[]] 149));simp only [<- hK,<- hw2];(have f2 : Fresh w1 w2:=by rw [hw2];exact (Upd.refl _ _).alloc _);have HQ2:=hd_ (show Blk w2 K 149 #[.func (.func 112) #[] #[],.func (.func 113) #[] #[],.func (.func 114) #[] #[],.func (.func 115) #[] #[],.func (.func 116) #[] #[],.func (.func 117) #[] #[],.func (.func 112) #[] #[],.func (.func 113) #[] #[],.func (.func 114) #[] #[]] by rw [hw2];exact blk_new hK _ _);have HR2:=hd_ (HR1.out.fresh f2);have HB2:=hd_ (HB1.out.fresh f2);have HU2:=hd_ (HU1.out.trans' (f2.mono (T:=fun b=>b = g\/b = k\/b = H) fun _ _ h=>h.elim));have HK2:=hd_ (show w2.heap.size = K + 1 by rw [hw2,hK];simp);have HKN:=hd_ (show K ≠ g/\K ≠ k/\K ≠ H by have h1:=HU1.out.size;have h2:=HS0.out;have h3:=HGL.out;have h4:=HH.out;omega);clear f2 hK hw2 HU1 HB1 HR1;obtain ⟨X,hX⟩:=nm_ (readE V T n S s);rw [<- hX] at HAL;have HX:=hd_ hX;clear hX
   go_loopg [6] n (fun f v wr=>∃ (outs : List RawN) (S' : Sts) (s' : Nat × Int),outs.length + f = n/\S'.ok T/\OwnK wr 86 3 v (outs.map rawC)/\(∀ b,v.ownBlock = some b->K + 1<=b)/\Upd (fun b=>b = g\/b = k\/b = H) w2 wr /\
     Blk wr H 96 #[.pointer (some ⟨g0,0,none⟩),.int .i64 (S'.l : Nat),.pointer (some ⟨g1,0,none⟩),.int .i64 (S'.o : Nat),.pointer (some ⟨g2,0,none⟩),.int .i64 (S'.m : Nat)]/\SrAt wr F g k bs s' /\
     outs ++ (readE V T f S' s').1 = X.1/\(readE V T f S' s').2 = X.2)
   case atStart=>exact ⟨[],S,s,by simp,HSO.out,OwnK.nil _ _ _,fun b h=>by simp [Value.ownBlock] at h,Upd.refl _ _,HB2.out,HR2.out,by rw [HX.out];rfl,by rw [HX.out]⟩
   case round =>
     obtain ⟨outs,S',s',hf,hS,ho,hob,hu,hb,hsr,hx1,hx2⟩:=hrel;have c0:=hsr.1.cell 0;have c1:=hsr.1.cell 1;have z1:=hsr.1.frozen 1;simp at c0 c1;have q2:=HQ2.out.upd hu (by have:=HKN.out;omega);have HU:=hd_ hu;have HB:=hd_ hb;have HSR:=hd_ hsr;have HOW:=hd_ ho;have HOB:=hd_ hob;have HS':=hd_ hS;have HX1:=hd_ hx1;have HX2:=hd_ hx2;have HF0:=hd_ hf;have HQ:=hd_ q2;obtain ⟨Ao,no,co,rfl,hno⟩:=ho.form';rw [List.length_map] at hno;clear hu hb hsr ho hob hS hx1 hx2 q2;by_cases hz : gk = 0
     . subst hz
       clear hf;(have hnn : ((no : Nat) : Int) = (n : Nat):=by have:=hno.out;have:=HF0.out;omega)
       have HEND:=hd_ (show outs = X.1/\s' = X.2 by
         have h1:=HX1.out;have h2:=HX2.out;rw [readE_stop V T 0 S' s' (.inl rfl)] at h1 h2
         exact ⟨by simpa using h1,h2⟩)
       (have hlt : ¬ (((no : Nat) : Int) < (n : Nat)):=by omega);clear hnn
       have hal : AL = (outs,s'.1,if s'.2 = 0/\s'.1 ≠ 0 then 14 else s'.2):=by
         have h:=HAL.out;rw [<- HEND.out.1,<- HEND.out.2] at h;exact h
       have hU : Upd (fun b=>b = g\/b = k) w wr:=(F0.out.mono (T:=fun b=>b = g\/b = k) fun _ _ h=>h.elim).trans (HU2.out.trans' HU.out) (fun b hb e=>by have:=HH.out;rcases e with e | e | e;exact .inl e;exact .inr e;omega);(have hO : ∀ b,(Value.slice Ao no co).ownBlock = some b->w.heap.size<=b:=fun b hb=>by have h1:=HOB.out b hb;have h2:=HK2.out;have h3:=HU2.out.size;have h4:=F0.out.size;omega);by_cases he : s'.2 = 0
       . rw [he] at c1
         by_cases h1 : s'.1 = 0
         . have HL:=hd_ (HBL.out F k bs s'.1 wr HSR.out.2)
           rw [h1] at HL;go_wp2_with fail;refine HL.out.mono ?_;rintro e w5 ⟨rfl,f5⟩;go_wp2_with fail;(try go_ret);refine hR.out _ _ ⟨_,rfl,?_,hO,hU.trans f5 (fun _ _ h=>h.elim),?_⟩
           . rw [hal];exact HOW.out.fresh f5
           rw [hal,if_neg (by simp [h1])];exact HSR.out.fresh f5
         have HL:=hd_ (HBL.out F k bs s'.1 wr HSR.out.2);(have hne : (((s'.1 : Nat) : Int) == 0) = false:=by simp;omega);(have hne2 : ¬ ((s'.1 : Nat) : Int) = 0:=by omega);go_wp2_with fail;refine HL.out.mono ?_;rintro e w5 ⟨rfl,f5⟩;have r5:=HSR.out.fresh f5;have y1:=r5.1.cell 1;have y2:=r5.1.frozen 1;simp at y1;rw [he] at y1;have R5:=hd_ r5;clear r5;go_wp2_with fail;(try go_ret);have u6 : Upd (fun b=>b = g) w5 (w5.setCell ⟨g,1,none⟩ (.int .i64 14)):=(Upd.refl (fun b=>b = g) w5).setCell (p:=⟨g,1,none⟩) (fun _=>rfl) _;refine hR.out _ _ ⟨_,rfl,?_,hO,(hU.trans f5 (fun _ _ h=>h.elim)).trans u6 (fun _ _ h=>.inl h),?_⟩
         . rw [hal];exact (HOW.out.fresh f5).upd u6 (fun b hb e=>by have h1:=HOB.out b hb;have h2:=HK2.out;have h3:=HU2.out.size;have h4:=HGL.out;have h5:=F0.out.size;omega)
         rw [hal,if_pos ⟨he,h1⟩];exact ⟨by simpa using R5.out.1.set_ 1 (.int .i64 14),R5.out.2.upd u6 (fun h=>HNE.out.1 h.symm) (fun b hb=>HF.out.1 b hb)⟩
       (have hne : ((s'.2 : Int) == 0) = false:=by simpa using he);go_wp2_with fail;(try go_ret);refine hR.out _ _ ⟨_,rfl,?_,hO,hU,?_⟩
       . rw [hal];exact HOW.out
       rw [hal,if_neg (by simp [he])];exact HSR.out
     (have hgp : 0 < gk:=by omega);(have hlt : ((no : Nat) : Int) < (n : Nat):=by have:=hno.out;have:=HF0.out;omega);clear hf;by_cases he : s'.2 = 0
     . rw [he] at c1
       obtain ⟨gq,rfl⟩ : ∃ q,q = gk:=⟨gk,rfl⟩;have hol : ∀ b,(Value.slice Ao no co).ownBlock = some b->K + 1<=b/\b < wr.heap.size:=fun b hb=>⟨HOB.out b hb,HOW.out.lt hb⟩;have HOL2:=hd_ hol;have hkw : w2.heap.size<=wr.heap.size:=HU.out.size;have HKW:=hd_ (show K + 1<=wr.heap.size by have:=HK2.out;omega);have hUw : Upd (fun b=>b = g\/b = k\/b = H) w0 wr:=HU2.out.trans' HU.out;have HUW:=hd_ hUw;obtain ⟨v1,hv1⟩:=nm_ (valE V true T.pO T.NO S'.o s');obtain ⟨v2,hv2⟩:=nm_ (valE V false T.pM T.NM S'.m v1.2);obtain ⟨v3,hv3⟩:=nm_ (valE V false T.pL T.NL S'.l v2.2);have V1:=HVO.out wr s' S'.o HSR.out HUW.out HS'.out.2.1;rw [<- hv1] at V1;have V1:=hd_ V1;have V2:=hd_ (fun W hW hu=>HVM.out W v1.2 S'.m hW hu HS'.out.2.2);rw [<- hv2] at V2;have V3:=hd_ (fun W hW hu=>HVL.out W v2.2 S'.l hW hu HS'.out.1);rw [<- hv3] at V3;(have hb1 : v1.1 < 268435456:=by rw [hv1];exact (valE_lt (o:=true) (by simpa using valid_9 HT.out.2.1) HS'.out.2.1 V s').1);(have hb2 : v2.1 < 268435456:=by rw [hv2];exact (valE_lt (o:=false) (by simpa using HT.out.2.2) HS'.out.2.2 V v1.2).1);(have hb3 : v3.1 < 268435456:=by rw [hv3];exact (valE_lt (o:=false) (by simpa using HT.out.1) HS'.out.1 V v2.2).1);obtain ⟨ln,hln⟩:=nm_ (v2.1 + 3);have HONE:=hd_ (show oneE V T S' s' = (⟨v3.1,ln,v1.1⟩,v3.2) by rw [hln,hv3,hv2,hv1];rfl);(have sw : IntKind.i64.wrap (((v2.1 : Nat) : Int) + 3) = ((ln : Nat) : Int):=by rw [IntWalk.i64_in _ (by omega)];omega);clear hol hkw hUw hv1 hv2 hv3 hln;have b2:=HB.out.cell 2;have b3:=HB.out.cell 3;have q3:=HQ.out.cell 3;have q4:=HQ.out.cell 4;have q5:=HQ.out.cell 5;simp at b2 b3 q3 q4 q5;go_wp2_with fail;refine V1.out.mono ?_;rintro e w3 ⟨rfl,u3,r3⟩;have hnH:=HNE.out.2;have hnK:=HKN.out;have hb3':=HB.out.upd u3 (by omega);have hq3':=HQ.out.upd u3 (by omega);have HU3:=hd_ (HU.out.trans' (u3.mono (T:=fun b=>b = g\/b = k\/b = H) fun b _ hb=>by rcases hb with h | h;exact .inl h;exact .inr (.inl h)));have HO3:=hd_ (HOW.out.upd u3 (fun b hb e=>by have h1:=HOL2.out b hb;have h2:=HGL.out;have h3:=HU2.out.size;have h4:=HK2.out;have h5:=F0.out.size;omega));have HSZ3:=hd_ u3.size;have HB3:=hd_ hb3';have HQ3:=hd_ hq3';have HR3:=hd_ r3;clear hb3' hq3' u3 r3 b2 b3 q3 q4 q5 hnH hnK c0 c1 z1;go_upto_region 9 with fail;obtain ⟨M,hM⟩:=nm_ (w3.heap.size);obtain ⟨w4,hw4⟩:=nm_ (w3.alloc (.cells #[.int .i64 0,.int .i64 0,.int .i64 (v1.1 : Nat)] 86));simp only [<- hM,<- hw4];(have f4 : Fresh w3 w4:=by rw [hw4];exact (Upd.refl _ _).alloc _);have HM4:=hd_ (show Blk w4 M 86 #[.int .i64 0,.int .i64 0,.int .i64 (v1.1 : Nat)] by rw [hw4];exact blk_new hM _ _);have hU3s:=HU3.out.size;have HMN:=hd_ (show M ≠ g/\M ≠ k/\M ≠ H/\K < M/\wr.heap.size<=M by have h1:=HSZ3.out;have h2:=HKW.out;have h3:=HGL.out;have h4:=HH.out;have h5:=HU2.out.size;have h6:=HS0.out;have h7:=HK2.out;omega);have HR4:=hd_ (HR3.out.fresh f4)
       have HO4:=hd_ (HO3.out.fresh f4);have HU4:=hd_ (HU3.out.trans' (f4.mono (T:=fun b=>b = g\/b = k\/b = H) fun _ _ h=>h.elim));have hb4:=HB3.out.fresh f4;have hq4:=HQ3.out.fresh f4;have V2':=hd_ (V2.out w4 HR4.out (HU2.out.trans' HU4.out));have b4:=hb4.cell 4;have b5:=hb4.cell 5;have q6:=hq4.cell 6;have q7:=hq4.cell 7;have q8:=hq4.cell 8;simp at b4 b5 q6 q7 q8;have HB4:=hd_ hb4;have HQ4:=hd_ hq4;clear hM hw4 f4 hU3s hb4 hq4;go_wp2_with fail;refine V2'.out.mono ?_;rintro e w5 ⟨rfl,u5,r5⟩;have hnM:=HMN.out;have hnH:=HNE.out.2;have hnK:=HKN.out;have hb5:=HB4.out.upd u5 (by omega);have hq5:=HQ4.out.upd u5 (by omega);have hm5:=HM4.out.upd u5 (by omega);have y1:=hm5.cell 1;have y2:=hm5.frozen 1;simp at y1;have HO5:=hd_ (HO4.out.upd u5 (fun b hb e=>by have h1:=HOL2.out b hb;have h2:=HGL.out;have h3:=HU2.out.size;have h4:=HK2.out;have h5:=F0.out.size;omega));have HU5:=hd_ (HU4.out.trans' (u5.mono (T:=fun b=>b = g\/b = k\/b = H) fun b _ hb=>by rcases hb with h | h;exact .inl h;exact .inr (.inl h)));have HB5:=hd_ hb5;have HQ5:=hd_ hq5;have HM5:=hd_ hm5;have HR5:=hd_ r5;clear hb5 hq5 hm5 u5 r5 b4 b5 q6 q7 q8 hnM hnH hnK;go_upto_region 10 with fail;obtain ⟨w6,hw6⟩:=nm_ (w5.setCell ⟨M,1,none⟩ (.int .i64 (ln : Nat)));simp only [<- hw6];(have u6 : Upd (fun b=>b = M) w5 w6:=by rw [hw6];exact (Upd.refl (fun b=>b = M) w5).setCell (p:=⟨M,1,none⟩) (fun _=>rfl) _);(have hm6 : Blk w6 M 86 #[.int .i64 0,.int .i64 (ln : Nat),.int .i64 (v1.1 : Nat)]:=by rw [hw6];simpa using HM5.out.set_ 1 (.int .i64 (ln : Nat)));have hnM:=HMN.out;have hb6:=HB5.out.upd u6 (by omega);have hq6:=HQ5.out.upd u6 (by omega);have HR6:=hd_ (HR5.out.upd u6 (by omega) (by omega) (fun b hb e=>by have:=HFL.out b hb;have h1:=HGL.out;have h3:=HSZ3.out;have h5:=HU.out.size;have h6:=HU2.out.size;have h7:=F0.out.size;omega));have HO6:=hd_ (HO5.out.upd u6 (fun b hb e=>by have h1:=HOL2.out b hb;omega));have HU6:=hd_ (HU5.out.trans u6 (fun b hb e=>by have h1:=HKW.out;have h2:=HU.out.size;omega));have V3':=hd_ (V3.out w6 HR6.out (HU2.out.trans' HU6.out));have b0:=hb6.cell 0;have b1:=hb6.cell 1;have q0:=hq6.cell 0;have q1:=hq6.cell 1;have q2:=hq6.cell 2;simp at b0 b1 q0 q1 q2;have HB6:=hd_ hb6;have HQ6:=hd_ hq6;have HM6:=hd_ hm6;clear hw6 u6 hb6 hq6 hm6 y1 y2 hnM;go_wp2_with fail;refine V3'.out.mono ?_;rintro e w7 ⟨rfl,u7,r7⟩;have hnM:=HMN.out;have hnH:=HNE.out.2;have hnK:=HKN.out;have hb7:=HB6.out.upd u7 (by omega);have hm7:=HM6.out.upd u7 (by omega);have HO7:=hd_ (HO6.out.upd u7 (fun b hb e=>by have h1:=HOL2.out b hb;have h2:=HGL.out;have h3:=HU2.out.size;have h4:=HK2.out;have h5:=F0.out.size;omega));have HU7:=hd_ (HU6.out.trans' (u7.mono (T:=fun b=>b = g\/b = k\/b = H) fun b _ hb=>by rcases hb with h | h;exact .inl h;exact .inr (.inl h)));have y0:=hm7.cell 0
       have yz:=hm7.frozen 0;simp at y0;have HB7:=hd_ hb7;have HM7:=hd_ hm7;have HR7:=hd_ r7;clear hb7 hm7 u7 r7 b0 b1 q0 q1 q2 hnM hnH hnK;go_upto_region 11 with fail;obtain ⟨w8,hw8⟩:=nm_ (w7.setCell ⟨M,0,none⟩ (.int .i64 (v3.1 : Nat)));simp only [<- hw8];(have u8' : Upd (fun b=>b = M) w7 w8:=by rw [hw8];exact (Upd.refl (fun b=>b = M) w7).setCell (p:=⟨M,0,none⟩) (fun _=>rfl) _);(have hm8 : Blk w8 M 86 #[.int .i64 (v3.1 : Nat),.int .i64 (ln : Nat),.int .i64 (v1.1 : Nat)]:=by rw [hw8];simpa using HM7.out.set_ 0 (.int .i64 (v3.1 : Nat)));have hnM:=HMN.out;have HB8:=hd_ (HB7.out.upd u8' (by omega));have HR8:=hd_ (HR7.out.upd u8' (by omega) (by omega) (fun b hb e=>by have:=HFL.out b hb;have h1:=HGL.out;have h3:=HSZ3.out;have h5:=HU.out.size;have h6:=HU2.out.size;have h7:=F0.out.size;omega));have o8:=HO7.out.upd u8' (fun b hb e=>by have h1:=HOL2.out b hb;omega);have HU8:=hd_ (HU7.out.trans u8' (fun b hb e=>by have h1:=HKW.out;have h2:=HU.out.size;omega));obtain ⟨m0,m1,m2⟩:=(hm8).cells3;have HM8:=hd_ hm8;(have hrl : (outs.map rawC).length<=2 ^ 30:=by have:=HF0.out;simp;omega);clear hw8 u8' hm8 y0 yz hnM;by_cases hg1 : gq = 1
       . have hl2 : ¬ (((outs.length : Nat) : Int) + 1 < (n : Nat)):=by have:=HF0.out;omega
         (have hl3 : ¬ (outs.length + 1 < n):=by have:=HF0.out;omega);go_wp2_with (at_builtin;go_must (refine wpList_app_row _ rfl (.tmp 61) (.tmp 63) _ rfl 86 _ 3 24 Tryz.underlying80 infoRaw rfl (by omega) (by omega) (.slice Ao no co) _ rfl (o8.alloc _) w8.heap.size 1 [.int .i64 (v3.1 : Nat),.int .i64 (ln : Nat),.int .i64 (v1.1 : Nat)] rfl (by simp [Value.oneCell']) rfl (Blk.new _ _ _) hrl ?_);intro g9 c9 w9 o9 g9u a9 l9);(have er : outs.map rawC ++ [[Value.int .i64 (v3.1 : Nat),.int .i64 (ln : Nat),.int .i64 (v1.1 : Nat)]] = (outs ++ [(⟨v3.1,ln,v1.1⟩ : RawN)]).map rawC:=by simp [rawC]);(have el : (outs.map rawC).length + 1 = outs.length + 1:=by simp);rw [er] at o9;(try rw [el] at o9);have u9 : Upd (fun b=>(Value.slice Ao no co).ownBlock = some b) w8 w9:=((Upd.refl _ w8).alloc _).grown g9u (fun k hk _=>hk)
         have hog : ∀ b,(Value.slice (some ⟨g9,0,none⟩) (outs.length + 1) c9).ownBlock = some b->K + 1<=b:=by
           intro b hb;injection hb with hb;have hb' : g9 = b:=hb;rcases a9 with h | h
           . have:=HOL2.out g9 h;omega
           simp at h;have h1:=HU8.out.size;have h2:=HKW.out;have h3:=HK2.out;omega
         (have hno9 : ∀ b,(Value.slice Ao no co).ownBlock = some b->b ≠ g/\b ≠ k/\b ≠ H:=fun b hb=>by have h1:=HOL2.out b hb;have h2:=HGL.out;have h3:=HU2.out.size;have h4:=HK2.out;have h5:=F0.out.size;have h6:=HKN.out;have h7:=HS0.out;omega);have HB9:=hd_ (HB8.out.upd u9 (fun h=>(hno9 _ h).2.2 rfl));have HR9:=hd_ (HR8.out.upd u9 (fun h=>(hno9 _ h).1 rfl) (fun h=>(hno9 _ h).2.1 rfl) (fun b hb h=>by have h1:=HFL.out b hb;have h2:=HOL2.out b h;have h3:=HU2.out.size;have h4:=HK2.out;have h5:=F0.out.size;omega));have HU9:=hd_ (HU8.out.trans u9 (fun b hb h=>by have h1:=HOL2.out b h;have h4:=HK2.out;omega));have HO9:=hd_ o9;have HOG:=hd_ hog;clear er el u9 hog hno9 g9u a9 l9 o9 hrl m0 m1 m2 o8;go_roundg 0
         case measure=>omega
         case rel =>
           have h1:=HX1.out;have h2:=HX2.out;rw [hg1,readE_last V T S' s' he,HONE.out] at h1 h2;exact ⟨outs ++ [⟨v3.1,ln,v1.1⟩],S',v3.2,by have:=HF0.out;simp;omega,HS'.out,HO9.out,HOG.out,HU9.out,HB9.out,HR9.out,by rw [readE_stop V T 0 S' v3.2 (.inl rfl)];simpa using h1,by rw [readE_stop V T 0 S' v3.2 (.inl rfl)];exact h2⟩
       (have hl2 : ((outs.length : Nat) : Int) + 1 < (n : Nat):=by have:=HF0.out;omega);(have hl3 : outs.length + 1 < n:=by have:=HF0.out;omega);go_wp2_with (at_builtin;go_must (refine wpList_app_row _ rfl (.tmp 61) (.tmp 63) _ rfl 86 _ 3 24 Tryz.underlying80 infoRaw rfl (by omega) (by omega) (.slice Ao no co) _ rfl (o8.alloc _) w8.heap.size 1 [.int .i64 (v3.1 : Nat),.int .i64 (ln : Nat),.int .i64 (v1.1 : Nat)] rfl (by simp [Value.oneCell']) rfl (Blk.new _ _ _) hrl ?_);intro g9 c9 w9 o9 g9u a9 l9);(have er : outs.map rawC ++ [[Value.int .i64 (v3.1 : Nat),.int .i64 (ln : Nat),.int .i64 (v1.1 : Nat)]] = (outs ++ [(⟨v3.1,ln,v1.1⟩ : RawN)]).map rawC:=by simp [rawC]);(have el : (outs.map rawC).length + 1 = outs.length + 1:=by simp);rw [er] at o9;(try rw [el] at o9);have u9 : Upd (fun b=>(Value.slice Ao no co).ownBlock = some b) w8 w9:=((Upd.refl _ w8).alloc _).grown g9u (fun k hk _=>hk)
       have hog : ∀ b,(Value.slice (some ⟨g9,0,none⟩) (outs.length + 1) c9).ownBlock = some b->K + 1<=b:=by
         intro b hb;injection hb with hb;have hb' : g9 = b:=hb;rcases a9 with h | h
         . have:=HOL2.out g9 h;omega
         simp at h;have h1:=HU8.out.size;have h2:=HKW.out;have h3:=HK2.out;omega
       (have hno9 : ∀ b,(Value.slice Ao no co).ownBlock = some b->b ≠ g/\b ≠ k/\b ≠ H:=fun b hb=>by have h1:=HOL2.out b hb;have h2:=HGL.out;have h3:=HU2.out.size;have h4:=HK2.out;have h5:=F0.out.size;have h6:=HKN.out;have h7:=HS0.out;omega);have HB9:=hd_ (HB8.out.upd u9 (fun h=>(hno9 _ h).2.2 rfl));have HR9:=hd_ (HR8.out.upd u9 (fun h=>(hno9 _ h).1 rfl) (fun h=>(hno9 _ h).2.1 rfl) (fun b hb h=>by have h1:=HFL.out b hb;have h2:=HOL2.out b h;have h3:=HU2.out.size;have h4:=HK2.out;have h5:=F0.out.size;omega));have HU9:=hd_ (HU8.out.trans u9 (fun b hb h=>by have h1:=HOL2.out b h;have h4:=HK2.out;omega));have HO9:=hd_ o9;have HOG:=hd_ hog;clear er el u9 hog hno9 g9u a9 l9 o9 hrl m0 m1 m2 o8;obtain ⟨P9,hP9⟩:=nm_ (w9.heap.size);obtain ⟨w10,hw10⟩:=nm_ (w9.alloc (.cells #[.int .i64 0,.int .i64 2,.int .i64 1] 112));simp only [<- hP9,<- hw10];(have f10 : Fresh w9 w10:=by rw [hw10];exact (Upd.refl _ _).alloc _);have HP10:=hd_ (show Blk w10 P9 112 #[.int .i64 0,.int .i64 2,.int .i64 1] by rw [hw10];exact blk_new hP9 _ _);have HB10:=hd_ (HB9.out.fresh f10);have HR10:=hd_ (HR9.out.fresh f10);have HO10:=hd_ (HO9.out.fresh f10);have HU10:=hd_ (HU9.out.trans' (f10.mono (T:=fun b=>b = g\/b = k\/b = H) fun _ _ h=>h.elim));have HPN:=hd_ (show P9 ≠ g/\P9 ≠ k/\P9 ≠ H by have h1:=HU9.out.size;have h2:=HGL.out;have h3:=HH.out;have h5:=HU2.out.size;have h6:=HS0.out;omega);have HGN9:=hd_ (show ∀ b,(Value.slice (some ⟨g9,0,none⟩) (outs.length + 1) c9).ownBlock = some b->b ≠ g/\b ≠ k/\b ≠ H from fun b hb=>by have h1:=HOG.out b hb;have h2:=HGL.out;have h3:=HU2.out.size;have h4:=HK2.out;have h5:=F0.out.size;have h6:=HKN.out;have h7:=HS0.out;omega);clear hP9 hw10 f10
       go_loopg [71] 3 (fun f vi wq=>∃ (i : Nat) (S2 : Sts) (s2 : Nat × Int),i + f = 3/\vi = .int .i64 i/\mvF V T S' v3.2 i = (S2,s2)/\S2.ok T/\Upd (fun b=>b = g\/b = k\/b = H) w10 wq /\
         Blk wq H 96 #[.pointer (some ⟨g0,0,none⟩),.int .i64 (S2.l : Nat),.pointer (some ⟨g1,0,none⟩),.int .i64 (S2.o : Nat),.pointer (some ⟨g2,0,none⟩),.int .i64 (S2.m : Nat)]/\SrAt wq F g k bs s2)
       case atStart=>exact ⟨0,S',v3.2,rfl,rfl,rfl,HS'.out,Upd.refl _ _,HB10.out,HR10.out⟩
       case round =>
         obtain ⟨i,S2,s2,hf2,rfl,hmv,hok2,hu2,hbq,hrq⟩:=hrel;have hp10:=HP10.out.upd hu2 (by have:=HPN.out;omega);obtain ⟨p0,p1,p2⟩:=(hp10).cells3;have HUQ:=hd_ hu2;have HBQ:=hd_ hbq;have HRQ:=hd_ hrq;have HMV:=hd_ hmv;have HK2':=hd_ hok2;have HUW2:=hd_ (HU2.out.trans' (HU10.out.trans' hu2));(have h4 : i = 0\/i = 1\/i = 2\/i = 3:=by omega);clear hu2 hbq hrq hmv hok2 hp10;rcases h4 with rfl | rfl | rfl | rfl
         . obtain rfl : gk = 3:=by omega
           clear hf2;have HON:=HOL.out _ s2 S2.l _ HRQ.out HUW2.out HK2'.out.1 HBQ.out (by simp) (by simp);have hq0 : (onE V T.pL T.NL S2.l s2).1 < 2 ^ T.pL:=onE_lt HT.out.wide.1 HK2'.out.1 V s2;obtain ⟨tk,htk⟩:=nm_ (onE V T.pL T.NL S2.l s2);rw [<- htk] at HON hq0;have hq:=hq0
           have HSN:=hd_ (show mvF V T S' v3.2 1 = (⟨tk.1,S2.o,S2.m⟩,tk.2) by
             have e:=HMV.out;(have e1 : S2 = (mvF V T S' v3.2 0).1:=by rw [e]);(have e2 : s2 = (mvF V T S' v3.2 0).2:=by rw [e])
             rw [htk,e1,e2];rfl)
           have HQ5:=hd_ (show Sts.ok T ⟨tk.1,S2.o,S2.m⟩ from ⟨hq,HK2'.out.2.1,HK2'.out.2.2⟩);have HON:=hd_ HON;clear hq hq0 htk;go_wp2_with fail;refine HON.out.mono ?_;rintro e w11 ⟨rfl,u11,r11,b11⟩;have HR11:=hd_ r11;have HB11:=hd_ b11;have HU11:=hd_ (HUQ.out.trans' u11);clear u11 r11 b11 p0 p1 p2;go_wp2_with fail;go_roundg 2
           case measure=>omega
           case rel=>exact ⟨1,_,_,rfl,by go_num,HSN.out,HQ5.out,HU11.out,by simpa using HB11.out,HR11.out⟩
         . obtain rfl : gk = 2:=by omega
           clear hf2;have HON:=HOM.out _ s2 S2.m _ HRQ.out HUW2.out HK2'.out.2.2 HBQ.out (by simp) (by simp);have hq0 : (onE V T.pM T.NM S2.m s2).1 < 2 ^ T.pM:=onE_lt HT.out.wide.2.2 HK2'.out.2.2 V s2;obtain ⟨tk,htk⟩:=nm_ (onE V T.pM T.NM S2.m s2);rw [<- htk] at HON hq0;have hq:=hq0
           have HSN:=hd_ (show mvF V T S' v3.2 2 = (⟨S2.l,S2.o,tk.1⟩,tk.2) by
             have e:=HMV.out;(have e1 : S2 = (mvF V T S' v3.2 1).1:=by rw [e]);(have e2 : s2 = (mvF V T S' v3.2 1).2:=by rw [e])
             rw [htk,e1,e2];rfl)
           have HQ5:=hd_ (show Sts.ok T ⟨S2.l,S2.o,tk.1⟩ from ⟨HK2'.out.1,HK2'.out.2.1,hq⟩);have HON:=hd_ HON;clear hq hq0 htk;go_wp2_with fail;refine HON.out.mono ?_;rintro e w11 ⟨rfl,u11,r11,b11⟩;have HR11:=hd_ r11;have HB11:=hd_ b11;have HU11:=hd_ (HUQ.out.trans' u11);clear u11 r11 b11 p0 p1 p2;go_wp2_with fail;go_roundg 1
           case measure=>omega
           case rel=>exact ⟨2,_,_,rfl,by go_num,HSN.out,HQ5.out,HU11.out,by simpa using HB11.out,HR11.out⟩
         . obtain rfl : gk = 1:=by omega
           clear hf2;have HON:=HOO.out _ s2 S2.o _ HRQ.out HUW2.out HK2'.out.2.1 HBQ.out (by simp) (by simp);have hq0 : (onE V T.pO T.NO S2.o s2).1 < 2 ^ T.pO:=onE_lt HT.out.wide.2.1 HK2'.out.2.1 V s2;obtain ⟨tk,htk⟩:=nm_ (onE V T.pO T.NO S2.o s2);rw [<- htk] at HON hq0;have hq:=hq0
           have HSN:=hd_ (show mvF V T S' v3.2 3 = (⟨S2.l,tk.1,S2.m⟩,tk.2) by
             have e:=HMV.out;(have e1 : S2 = (mvF V T S' v3.2 2).1:=by rw [e]);(have e2 : s2 = (mvF V T S' v3.2 2).2:=by rw [e])
             rw [htk,e1,e2];rfl)
           have HQ5:=hd_ (show Sts.ok T ⟨S2.l,tk.1,S2.m⟩ from ⟨HK2'.out.1,hq,HK2'.out.2.2⟩);have HON:=hd_ HON;clear hq hq0 htk;go_wp2_with fail;refine HON.out.mono ?_;rintro e w11 ⟨rfl,u11,r11,b11⟩;have HR11:=hd_ r11;have HB11:=hd_ b11;have HU11:=hd_ (HUQ.out.trans' u11);clear u11 r11 b11 p0 p1 p2;go_wp2_with fail;go_roundg 0
           case measure=>omega
           case rel=>exact ⟨3,_,_,rfl,by go_num,HSN.out,HQ5.out,HU11.out,by simpa using HB11.out,HR11.out⟩
         have hmm : moveE V T S' v3.2 = (S2,s2):=HMV.out;have HMM:=hd_ hmm;(obtain rfl : gk = 0:=by omega);clear hf2 hmm;go_wp2_with fail;go_roundg (gq - 1)
         case measure=>omega
         case rel =>
           have h1:=HX1.out;have h2:=HX2.out;obtain ⟨q,rfl⟩ : ∃ q,gq = q + 1:=⟨gq - 1,by omega⟩;rw [readE_more V T q S' s' he (by omega),HONE.out] at h1 h2;simp only [HMM.out] at h1 h2;refine ⟨outs ++ [⟨v3.1,ln,v1.1⟩],S2,s2,by have:=HF0.out;simp;omega,HK2'.out,HO10.out.upd HUQ.out (fun b hb e=>by have:=HGN9.out b hb;omega),HOG.out,HU10.out.trans' HUQ.out,HBQ.out,HRQ.out,?_,?_⟩
           . simpa using h1
           simpa using h2
     (have hne : ((s'.2 : Int) == 0) = false:=by simpa using he)
     have HEND:=hd_ (show outs = X.1/\s' = X.2 by
       have h1:=HX1.out;have h2:=HX2.out;rw [readE_stop V T gk S' s' (.inr he)] at h1 h2
       exact ⟨by simpa using h1,h2⟩)
     have hal : AL = (outs,s'.1,if s'.2 = 0/\s'.1 ≠ 0 then 14 else s'.2):=by
       have h:=HAL.out;rw [<- HEND.out.1,<- HEND.out.2] at h;exact h
     have hU : Upd (fun b=>b = g\/b = k) w wr:=(F0.out.mono (T:=fun b=>b = g\/b = k) fun _ _ h=>h.elim).trans (HU2.out.trans' HU.out) (fun b hb e=>by have:=HH.out;rcases e with e | e | e;exact .inl e;exact .inr e;omega);(have hO : ∀ b,(Value.slice Ao no co).ownBlock = some b->w.heap.size<=b:=fun b hb=>by have h1:=HOB.out b hb;have h2:=HK2.out;have h3:=HU2.out.size;have h4:=F0.out.size;omega);go_wp2_with fail;(try go_ret);refine hR.out _ _ ⟨_,rfl,?_,hO,hU,?_⟩
     . rw [hal];exact HOW.out
     rw [hal,if_neg (by simp [he])];exact HSR.out
theorem infoSeq : (Tryz.prog.info? 23).map (fun i=>(i.zero,i.size,i.bytes)) = some (some (.agg #[.int .i64 0,.int .i64 0,.int .i64 0]),3,24):=by kernel_rfl
section
variable {P : Program} (w : World)
theorem step_app_row {ops : Array Oper} {o : Oper} {a : Act} {K : Act->World->Prop} {Q : Exit->Act->World->Prop} {E : Prop} (hgd : o.guard = none) (s x : Operand) (t : TypeId)
   (ho : o.op = .call { callee:=.builtin .append,args:=#[s,x],argTypes:=#[t,t] }) (e : TypeId) (z : Value) (k bytes : Nat) (ht : P.underlying t = some (.slice e)) (hi : (P.info? e).map (fun i=>(i.zero,i.size,i.bytes)) = some (some z,k,bytes)) (hzs : z.cells.size = k) (hk : 0 < k) (hby : bytes<=1024)
   (v : Value) (rows : List (List Value)) (hs : a.eval s = v) (hown : OwnK w e k v rows) (kb cap : Nat) (row : List Value) (hrow : row.length = k) (h1 : ∀ u ∈ row,u.oneCell' = true) (hx : a.eval x = .slice (some ⟨kb,0,none⟩) 1 cap) (hb : Blk w kb e row.toArray) (hlen : rows.length<=2 ^ 30)
   (h : ∀ g cap w',OwnK w' e k (.slice (some ⟨g,0,none⟩) (rows.length + 1) cap) (rows ++ [row])->w.grownBy w' v.ownBlock->(v.ownBlock = some g\/g = w.heap.size)->g < w'.heap.size->K (a.put o.dst (.slice (some ⟨g,0,none⟩) (rows.length + 1) cap)) w') :
   if Region.wanted o (yielded ops a.tmps) = true then Oper.wp P o a w K Q else E:=by
 obtain ⟨i,hi0,hz,hsize,hbyt⟩:=info_parts hi
 have hcells : ∀ (j : Nat) u,row[j]? = some u->w.cell? ((⟨kb,0,none⟩ : Addr).add j) = some u:=by
   intro j u hu;rw [Addr.add_lit,hb.cells j u (by simpa using hu)]
 have hmul : (rows.length + 1) * bytes<=140737488355328:=Nat.le_trans (Nat.mul_le_mul (show rows.length + 1<=2 ^ 30 + 1 by omega) hby) (by decide);refine step_append_lies w hgd s x _ ho 0 e i z k bytes ht hi0 hz hsize hbyt hzs hk v rows.length _ hs hown.1 ⟨kb,0,none⟩ 1 cap row hx (by omega) hcells h1 (by omega) (by simp only [maxLen];omega) hmul (Nat.zero_le _) _ rfl ?_;intro g cap w' h2 h3 h4 h5;refine h g cap w' ⟨?_,?_⟩ h3 h4 h5
 . rw [List.flatten_append,List.length_append]
   simpa using h2
 intro r hr;rcases List.mem_append.1 hr with hr | hr
 . exact hown.2 r hr
 rw [List.mem_singleton.1 hr];exact hrow
end
def RowPost (F : Nat->Prop) (g : Nat) (bs : List Nat) (r : Int × List (Int × Int × Int) × Int × Int × Int) (w : World) (e : Ending) (w' : World) : Prop :=
  Upd (fun b=>b = g) w w'/\(if r.1 = 0 then ∃ v,e = .returned (.tuple #[v,.agg #[.int .i64 r.2.2.1,.int .i64 r.2.2.2.1,.int .i64 r.2.2.2.2],.int .i64 0])/\OwnK w' 23 3 v (r.2.1.map tri)/\(∀ b,v.ownBlock = some b->w.heap.size<=b)/\CurAt w' F g bs bs.length
    else ∃ x y z,e = .returned (.tuple #[.slice none 0 0,.agg #[.int .i64 x,.int .i64 y,.int .i64 z],.int .i64 r.1]))
theorem set3 (w : World) (H : Nat) (v0 v1 v2 : Value) : Upd (fun b=>b = H) w (((w.setCell ⟨H,0,none⟩ v0).setCell ⟨H,1,none⟩ v1).setCell ⟨H,2,none⟩ v2) :=
 (((Upd.refl (fun b=>b = H) w).setCell (p:=⟨H,0,none⟩) (fun _=>rfl) _).setCell (p:=⟨H,1,none⟩) (fun _=>rfl) _).setCell (p:=⟨H,2,none⟩) (fun _=>rfl) _
theorem Blk.set3 {w : World} {H : Nat} {t : TypeId} {a0 a1 a2 : Value} (h : Blk w H t #[a0,a1,a2]) (v0 v1 v2 : Value) :
   Blk (((w.setCell ⟨H,0,none⟩ v0).setCell ⟨H,1,none⟩ v1).setCell ⟨H,2,none⟩ v2) H t #[v0,v1,v2]:=by
 have:=((h.set_ 0 v0).set_ 1 v1).set_ 2 v2;simpa using this
set_option maxHeartbeats 40000000 in
theorem row_any (F G : Nat->Prop) (g : Nat) (bs : List Nat) (at_ num : Nat) (A B C : Option Addr) (n' c m d k' e : Nat) (T : Trks) (r0 r1 r2 : Int) (w : World) (hcu : CurAt w F g bs at_) (hF : ∀ b,F b->b ≠ g) (hT : T.ok)
   (h1 : Rd w G A n' (ints T.NL)) (h2 : Rd w G B m (ints T.NO)) (h3 : Rd w G C k' (ints T.NM)) (f1 : Fit T.NL) (f2 : Fit T.NO) (f3 : Fit T.NM) (b1 : (n' : Int)<=1099511627776) (b2 : (m : Int)<=1099511627776) (b3 : (k' : Int)<=1099511627776)
   (hnum : num<=65536) (hrep : repOk r0 r1 r2 = true) :
   Calls Tryz.prog 38 #[.pointer (some ⟨g,0,none⟩),.agg #[.int .i64 (T.pL : Nat),.slice A n' c,.int .i64 (T.pO : Nat),.slice B m d,.int .i64 (T.pM : Nat),.slice C k' e],.int .i64 (num : Nat),.agg #[.int .i64 r0,.int .i64 r1,.int .i64 r2]] w (RowPost F g bs (rowE (bs.drop at_) T num r0 r1 r2) w):=by
 (have hlt : ∀ b ∈ bs,b < 256:=by obtain ⟨_,_,_,_,h,_⟩:=hcu;exact h);(have hle : at_<=bs.length/\bs.length<=2 ^ 32:=by obtain ⟨_,_,_,_,_,h5,h6,_⟩:=hcu;exact ⟨h5,h6⟩);have hgl:=hcu.lt;obtain ⟨w0,hw0⟩:=nm_ (((w.alloc (.cells #[.int .i64 (T.pL : Nat),.slice A n' c,.int .i64 (T.pO : Nat),.slice B m d,.int .i64 (T.pM : Nat),.slice C k' e] 69)).alloc (.cells #[.int .i64 r0,.int .i64 r1,.int .i64 r2] 30)).alloc (.cells #[.int .i64 0,.int .i64 0,.int .i64 0] 30));obtain ⟨H,hH⟩:=nm_ (w.heap.size);(have f0 : Fresh w w0:=by rw [hw0];exact (((Upd.refl _ _).alloc _).alloc _).alloc _);(have bt : Blk w0 H 69 #[.int .i64 (T.pL : Nat),.slice A n' c,.int .i64 (T.pO : Nat),.slice B m d,.int .i64 (T.pM : Nat),.slice C k' e]:=by rw [hw0];exact ((blk_new hH _ _).alloc _).alloc _);(have ba : Blk w0 (H + 1) 30 #[.int .i64 r0,.int .i64 r1,.int .i64 r2]:=by rw [hw0];exact (blk_new (by simp [hH]) _ _).alloc _);(have bo : Blk w0 (H + 1 + 1) 30 #[.int .i64 0,.int .i64 0,.int .i64 0]:=by rw [hw0];exact blk_new (by simp [hH]) _ _);(have hs0 : w0.heap.size = H + 3:=by rw [hw0,hH];simp);have HCU:=hd_ (hcu.both.fresh f0);have HTR:=hd_ (tracks_any G A B C n' c m d k' e T w0 hT (h1.fresh f0) (h2.fresh f0) (h3.fresh f0) f1 f2 f3 b1 b2 b3);have HF:=hd_ hF;have HLT:=hd_ (show ∀ b ∈ bs.drop at_,b < 256 from fun b hb=>hlt b (List.mem_of_mem_drop hb));have HLE:=hd_ hle;have HGL:=hd_ (show g < H by rw [hH];exact hgl);have HT:=hd_ hT;have HREP:=hd_ hrep;have HW:=hd_ hw0;have HH:=hd_ hH;have F0:=hd_ f0;have BT:=hd_ bt;have BA:=hd_ ba;have BO:=hd_ bo;have HS0:=hd_ hs0;have HCL:=hd_ (cleft_any (fun b=>F b/\b < w.heap.size) g bs at_);have HCB:=hd_ (fun W hW=>cbytes_ok (fun b=>F b/\b < w.heap.size) g bs at_ (bs.length - at_) W hW (by omega) (fun b hb=>hF b hb.1));obtain ⟨x0,x1,x2,x3,x4,x5⟩:=(bt).cells6;clear hcu h1 h2 h3 f1 f2 f3 b1 b2 b3 hF hlt hle hgl hT hrep hw0 hH f0 bt ba bo hs0;refine veil fun R hR=>?_;go_enter Tryz.func38,Tryz.ntmps38;go_upto_region 1 with fail;simp only [<- HH.out,<- HW.out];go_wp2_with fail;refine HTR.out.mono ?_;rintro e1 w1 ⟨v0,v1,v2,rfl,p0,p1,p2,f1⟩;obtain ⟨g0,rfl,c0⟩:=p0;obtain ⟨g1,rfl,c1⟩:=p1;obtain ⟨g2,rfl,c2⟩:=p2;have C0:=hd_ (c0.mono (G:=fun b=>H + 3<=b/\b < w1.heap.size) (fun b hb hl=>⟨by rw [<- HS0.out];exact hb,hl⟩));have C1:=hd_ (c1.mono (G:=fun b=>H + 3<=b/\b < w1.heap.size) (fun b hb hl=>⟨by rw [<- HS0.out];exact hb,hl⟩));have C2:=hd_ (c2.mono (G:=fun b=>H + 3<=b/\b < w1.heap.size) (fun b hb hl=>⟨by rw [<- HS0.out];exact hb,hl⟩));have F1:=hd_ f1;clear c0 c1 c2 f1 x0 x1 x2 x3 x4 x5 HTR;go_upto_region 2 with fail;obtain ⟨K,hK⟩:=nm_ (w1.heap.size);obtain ⟨w2,hw2⟩:=nm_ (w1.alloc (.cells #[.pointer (some ⟨g0,0,none⟩),.int .i64 0,.pointer (some ⟨g1,0,none⟩),.int .i64 0,.pointer (some ⟨g2,0,none⟩),.int .i64 0] 96))
 simp only [<- hK,<- hw2];(have f2 : Fresh w1 w2:=by rw [hw2];exact (Upd.refl _ _).alloc _);have HK2:=hd_ (show Blk w2 K 96 #[.pointer (some ⟨g0,0,none⟩),.int .i64 0,.pointer (some ⟨g1,0,none⟩),.int .i64 0,.pointer (some ⟨g2,0,none⟩),.int .i64 0] by rw [hw2];exact blk_new hK _ _);have HK1:=hd_ hK;have F2:=hd_ (F1.out.trans' f2);have FC:=hd_ f2;clear hK hw2 f2;go_wp2_with fail;refine (HCL.out w2 (HCU.out.fresh F2.out)).mono ?_;rintro e1 w3 ⟨rfl,q3,rfl⟩;have F3:=hd_ (F2.out.drewN q3);have FC3:=hd_ (FC.out.drewN q3);have HK3:=hd_ (HK2.out.drewN q3);generalize w2.drewN q3 = w3 at *;go_wp2_with fail;refine (HCB.out w3 (HCU.out.fresh F3.out)).mono ?_;rintro e1 w4 ⟨vb,rfl,ob,u4,c4⟩;rw [List.take_of_length_le (by simp)] at ob;obtain ⟨Ab,nb,cb,rfl,hnb⟩:=ob.form';obtain ⟨hnb1,hcb,rb⟩:=ob.rd rfl;have rb2:=rb.mono (G:=fun _=>True) (fun _ _=>trivial);rw [<- hnb1] at rb2;have HNB:=hd_ (fun W (f : Fresh w4 W)=>newback_any (fun _=>True) Ab nb cb (bs.drop at_) W (rb2.fresh f) HLT.out (by have:=HLE.out;simp;omega));have HU4:=hd_ ((F3.out.mono (T:=fun b=>b = g) fun _ _ h=>h.elim).trans' u4);(have e4 : at_ + (bs.length - at_) = bs.length:=by have:=HLE.out;omega);rw [e4] at c4;have HC4:=hd_ c4;have HU34:=hd_ u4;clear ob u4 c4 rb rb2 hnb1 hcb hnb e4;obtain ⟨BS,hBS⟩:=nm_ (bs.drop at_);rw [<- hBS] at HNB HLT hR;have HBS:=hd_ hBS;clear hBS;by_cases hz : (BS.getLast?).getD 0 = 0
 . have HNB2:=hd_ (HNB.out w4 (Upd.refl _ _))
   simp only [if_pos hz] at HNB2;have HE:=hd_ (show rowE BS T num r0 r1 r2 = (14,[],0,0,0) by unfold rowE;rw [if_pos hz]);clear HNB;go_wp2_with fail;refine HNB2.out.mono ?_;rintro e1 w5 ⟨rfl,f5⟩;have HU5:=hd_ (HU4.out.trans' (f5.mono (T:=fun b=>b = g) fun _ _ h=>h.elim));have a5:=BA.out.upd HU5.out (by have:=HGL.out;omega);have o5:=BO.out.upd HU5.out (by have:=HGL.out;omega);clear f5;have HUV:=hd_ ((F0.out.mono (T:=fun b=>b = g) fun _ _ h=>h.elim).trans' HU5.out);have y0:=a5.cell 0;have y1:=a5.cell 1;have y2:=a5.cell 2;have x0:=o5.cell 0;have x1:=o5.cell 1;have x2:=o5.cell 2;have z0:=o5.frozen 0;have z1:=o5.frozen 1;have z2:=o5.frozen 2;simp at y0 y1 y2 x0 x1 x2;have hO:=o5.set3 (.int .i64 r0) (.int .i64 r1) (.int .i64 r2);obtain ⟨d0,d1,d2⟩:=(hO.drew).cells3;have HD:=hd_ (And.intro d0 (And.intro d1 d2));have HUF:=hd_ (HUV.out.trans (set3 w5 (H + 1 + 1) (.int .i64 r0) (.int .i64 r1) (.int .i64 r2)) (fun b hb e=>by have:=HH.out;omega)).drew;clear a5 o5 hO d0 d1 d2;go_wp2_with fail;go_region;(all_goals go_wp2_with fail);obtain ⟨d0,d1,d2⟩:=HD.out;refine bodyPost_ret (v:=.tuple #[.slice none 0 0,.agg #[.int .i64 r0,.int .i64 r1,.int .i64 r2],.int .i64 14]) (by simp [results,Tryz.results38,go_sem,d0,d1,d2]) rfl ?_;refine hR.out _ _ ⟨HUF.out,?_⟩;rw [HE.out,if_neg (by simp)];exact ⟨r0,r1,r2,rfl⟩
 have HNB2:=hd_ (HNB.out w4 (Upd.refl _ _));simp only [if_neg hz] at HNB2
 have hrow : rowE BS T num r0 r1 r2 = if (allE (valR BS) T num (closedN BS)).2.2 ≠ 0 then ((allE (valR BS) T num (closedN BS)).2.2,[],0,0,0) else offsE r0 r1 r2 (allE (valR BS) T num (closedN BS)).1:=by
   unfold rowE;rw [if_neg hz]
 have HGD:=hd_ (allE_good HT.out (valR BS) num (closedN BS));have HLN:=hd_ (allE_len (valR BS) T num (closedN BS));have hrd:=fun F' G' g' k' w' h1 h2 h3 h4 h5 c0 c1 c2 h6=>read_any F' G' g' k' BS (closedN BS) num g0 g1 g2 T w' h1 h2 h3 h4 h5 c0 c1 c2 h6 HT.out hnum;obtain ⟨AL,hAL⟩:=nm_ (allE (valR BS) T num (closedN BS));rw [<- hAL] at hrow HGD HLN;simp only [<- hAL] at hrd;have HRD:=hd_ hrd;have HROW:=hd_ hrow;have HNUM:=hd_ hnum;clear HNB hrow hrd hAL hnum;generalize closedN BS = tc at *;go_wp2_with fail;refine HNB2.out.mono ?_;rintro e1 w5 ⟨kb,rfl,hkb,f5,bw5⟩;have HU5:=hd_ (HU4.out.trans' (f5.mono (T:=fun b=>b = g) fun _ _ h=>h.elim));have F5:=hd_ f5;have HC5:=hd_ (HC4.out.fresh f5);have HBW:=hd_ bw5.both;have HKL:=hd_ bw5.lt;have HKB:=hd_ hkb;clear f5 bw5 hkb;go_upto_region 11 with fail;obtain ⟨M,hM⟩:=nm_ (w5.heap.size);obtain ⟨w6,hw6⟩:=nm_ (w5.alloc (.cells #[.pointer (some ⟨kb,0,none⟩),.int .i64 0] 119));simp only [<- hM,<- hw6];(have f6 : Fresh w5 w6:=by rw [hw6];exact (Upd.refl _ _).alloc _);(have bm6 : Blk w6 M 119 #[.pointer (some ⟨kb,0,none⟩),.int .i64 0]:=by rw [hw6];exact blk_new hM _ _);have HM:=hd_ hM;(have hs6 : w6.heap.size = M + 1:=by rw [hw6,hM];simp)
 have cup : ∀ (c p : Nat) (N : List Int),CoderF w1 (fun b=>H + 3<=b/\b < w1.heap.size) c p N->CoderF w6 (fun b=>H + 3<=b/\b < w1.heap.size) c p N:=fun c p N h =>
   (((h.fresh FC3.out).upd HU34.out (fun b hb _ e=>by have:=HGL.out;omega)).fresh F5.out).fresh f6
 (have hkk : w1.heap.size<=kb:=by have h1:=HKB.out;have h2:=FC3.out.size;have h3:=HU34.out.size;omega)
 have HRD2:=hd_ (HRD.out _ (fun b=>H + 3<=b/\b < w1.heap.size) M kb w6 ⟨by simpa using bm6,HBW.out.fresh f6⟩ (by have:=HKL.out;omega) (fun b hb=>hb.1.2) (fun b hb=>by have:=hb.2;omega) (fun b hb=>by have:=hb.2;have:=f6.size;omega)
   (cup _ _ _ C0.out) (cup _ _ _ C1.out) (cup _ _ _ C2.out) (fun b hb=>by have h1:=HKL.out;have h2:=hb.2;omega))
 have HU6:=hd_ (HU5.out.trans' (f6.mono (T:=fun b=>b = g) fun _ _ h=>h.elim));have HC6:=hd_ (HC5.out.fresh f6);have HS6:=hd_ hs6;have HMN:=hd_ (show H + 3<=kb/\kb < M/\H + 3<=w1.heap.size by have h1:=F1.out.size;have h2:=HS0.out;have h3:=HKL.out;omega);have k6:=(HK3.out.upd HU34.out (by have h1:=HGL.out;have h2:=HK1.out;have h3:=F1.out.size;have h4:=HS0.out;omega)).fresh (F5.out.trans' f6);obtain ⟨t0,t1,t2,t3,t4,t5⟩:=(k6).cells6;clear hM hw6 f6 bm6 hs6 cup hkk HRD C0 C1 C2;clear k6;go_wp2_with fail;refine HRD2.out.mono ?_;rintro e1 w7 ⟨v7,rfl,ov,hvb,u7,s7⟩;have HU7:=hd_ (HU6.out.trans u7 (fun b hb e=>by have h1:=HMN.out;have h2:=HS0.out;omega));have HC7:=hd_ (HC6.out.upd u7 (by have h1:=HMN.out;have h2:=HGL.out;omega) (fun b _ hb e=>by have h1:=HMN.out;have h2:=hb.2;have h3:=HH.out;omega));have a5:=BA.out.upd HU7.out (by have:=HGL.out;omega);have o5:=BO.out.upd HU7.out (by have:=HGL.out;omega);have e1:=s7.1.cell 1;simp at e1;have HS7:=hd_ s7;obtain ⟨Ar,nr,cr,rfl,hnr⟩:=ov.form';obtain ⟨hnr1,hcr,rr⟩:=ov.rd rfl;have HOV:=hd_ ov;have HVB:=hd_ hvb;clear u7 s7 t0 t1 t2 t3 t4 t5 HRD2 hnr;by_cases he : AL.2.2 = 0
 . have hL : ∃ L,L = AL.1:=⟨_,rfl⟩
   obtain ⟨L,hL⟩:=hL;have HROW2:=hd_ (show rowE BS T num r0 r1 r2 = offsE r0 r1 r2 L by rw [HROW.out,if_neg (by simp [he]),hL]);rw [<- hL] at HOV HGD HLN rr hnr1;rw [List.length_map] at hnr1;rw [List.length_map,<- hnr1] at rr;have HRR:=hd_ rr;have HNR:=hd_ hnr1;have HVB2:=hd_ (fun b hb=>(⟨hvb b hb,by have h:=ov.lt hb;exact h⟩ : w6.heap.size<=b/\b < w7.heap.size));rw [he] at e1;obtain ⟨tot,htot⟩:=nm_ (offsE r0 r1 r2 L);rw [<- htot] at HROW2;have HTOT:=hd_ htot;have HN65:=hd_ (show nr<=65536 by have h1:=HLN.out;have h2:=HNUM.out;have h3:=HNR.out;omega);clear ov hvb rr hnr1 hL HROW htot;go_wp2_with fail
   go_loopg [71,17] nr (fun f vi v wr=>∃ (j : Nat) (a b c : Int) (outs : List (Int × Int × Int)),j + f = nr/\vi = .int .i64 j/\repOk a b c = true/\outs.length = j/\joinO outs (offsE a b c (L.drop j)) = tot /\
     Upd (fun b=>b = H + 1) w7 wr/\Blk wr (H + 1) 30 #[.int .i64 a,.int .i64 b,.int .i64 c]/\OwnK wr 23 3 v (outs.map tri)/\(∀ b,v.ownBlock = some b->w7.heap.size<=b))
   case atStart=>exact ⟨0,r0,r1,r2,[],by omega,rfl,HREP.out,rfl,by rw [HTOT.out,List.drop_zero];exact joinO_nil _ _ _ _,Upd.refl _ _,a5,OwnK.nil _ _ _,fun b h=>by simp [Value.ownBlock] at h⟩
   case round =>
     obtain ⟨j,a,b,c,outs,hj,rfl,hrep,hol,hjo,hu,hb,ho,hob⟩:=hrel;have HUV:=hd_ (((F0.out.mono (T:=fun b=>b = g) fun _ _ h=>h.elim).trans' HU7.out).trans hu (fun b hb e=>by have:=HH.out;omega));have hsz:=hu.size;by_cases hjn : j < nr
     . have hjI : (j : Int) < nr:=by omega
       (have hjL : j < L.length:=by have:=HNR.out;omega);have hr1:=HRR.out.upd hu (fun b _ hb e=>by have h1:=(HVB2.out b hb).1;have h2:=HMN.out;have h3:=HS6.out;omega);obtain ⟨xb,xo,rfl,hxF,hxl,hxc⟩:=hr1.at_ (r:=0) hjn;obtain ⟨x,hx⟩:=nm_ (L[j]);(have hget : (L.map rawC)[j]'(by simpa using hjL) = rawC x:=by rw [hx,List.getElem_map]);rw [hget] at hxc;have c0:=hxc 0 (by omega);have c1:=hxc 1 (by omega);have c2:=hxc 2 (by omega);simp [rawC] at c0 c1 c2;have hgd : x.good:=HGD.out x (by rw [hx];exact List.getElem_mem hjL);(have hdr : L.drop j = x :: L.drop (j + 1):=by rw [hx];exact List.drop_eq_getElem_cons hjL);rw [hdr] at hjo;have HOF:=hd_ (fun W=>offset_any a b c (x.lit : Nat) (x.len : Nat) (x.val : Nat) W hrep (by omega) (by have:=hgd;unfold RawN.good at this;omega));have hw4 : IntKind.i64.wrap ((j : Int) + 1) = j + 1:=IntWalk.i64_in _ (by have:=HN65.out;omega);have HJ:=hd_ hj;have HREP2:=hd_ hrep;have HOL:=hd_ hol;have HJO:=hd_ hjo;have HU:=hd_ hu;have HB:=hd_ hb;have HO:=hd_ ho;have HOB:=hd_ hob;clear hr1 hxF hxl hxc hget hx hgd hdr hj hrep hol hjo hu hb ho hob;go_upto_region 18 with fail;obtain ⟨X,hX⟩:=nm_ (wr.heap.size);obtain ⟨wx,hwx⟩:=nm_ (wr.alloc (.cells #[.int .i64 (x.lit : Nat),.int .i64 (x.len : Nat),.int .i64 (x.val : Nat)] 86));simp only [<- hX,<- hwx];(have fx : Fresh wr wx:=by rw [hwx];exact (Upd.refl _ _).alloc _);(have bx : Blk wx X 86 #[.int .i64 (x.lit : Nat),.int .i64 (x.len : Nat),.int .i64 (x.val : Nat)]:=by rw [hwx];exact blk_new hX _ _);have ab:=HB.out.fresh fx;have y0:=bx.cell 0;have y1:=bx.cell 1;have y2:=bx.cell 2;have q0:=ab.cell 0;have q1:=ab.cell 1;have q2:=ab.cell 2;simp at y0 y1 y2 q0 q1 q2;have HX:=hd_ hX;have FX:=hd_ fx;have BX:=hd_ bx;have AB:=hd_ ab;clear hX hwx fx bx ab c0 c1 c2;by_cases ho : offOk (offR a b c (x.lit : Nat) (x.val : Nat))
       . have HOF2:=hd_ (HOF.out wx)
         unfold offPost at HOF2;simp only [if_pos ho] at HOF2;have HJS:=hd_ (joinO_step (outs:=outs) (L:=L.drop (j + 1)) ho);have HRN:=hd_ (nextR_ok HREP2.out ho);obtain ⟨off,hoff⟩:=nm_ (offR a b c (x.lit : Nat) (x.val : Nat));obtain ⟨nx,hnx⟩:=nm_ (nextR a b c (x.lit : Nat) (x.val : Nat));rw [<- hoff,<- hnx] at HOF2;rw [<- hnx] at HRN;rw [<- hoff,<- hnx] at HJS;obtain ⟨n1,n2,n3⟩:=nx;simp only at HOF2 HRN HJS;clear HOF ho hoff hnx;go_wp2_with fail;refine HOF2.out.mono ?_;rintro e1 w8 ⟨f8,rfl⟩;go_upto_region 19 with fail;obtain ⟨Y,hY⟩:=nm_ (w8.heap.size);obtain ⟨w9,hw9⟩:=nm_ (w8.alloc (.cells #[.int .i64 n1,.int .i64 n2,.int .i64 n3] 30));simp only [<- hY,<- hw9];(have f9 : Fresh w8 w9:=by rw [hw9];exact (Upd.refl _ _).alloc _);(have by9 : Blk w9 Y 30 #[.int .i64 n1,.int .i64 n2,.int .i64 n3]:=by rw [hw9];exact blk_new hY _ _);have bx9:=(BX.out.fresh f8).fresh f9;have ab9:=(AB.out.fresh f8).fresh f9;have FW:=FX.out.trans' (f8.trans' f9);have ov9:=HO.out.fresh FW;have hwrl:=fun b hb=>HO.out.lt (b:=b) hb
         have HN:=hd_ (show X ≠ H + 1/\Y ≠ H + 1/\X < w9.heap.size/\Y < w9.heap.size/\(∀ b,u17.ownBlock = some b->b ≠ X/\b ≠ Y/\b ≠ H + 1/\b < w9.heap.size)/\H + 1 < w9.heap.size by
           have h1:=HX.out;have h2:=f8.size;have h3:=FX.out.size;have h4:=HU7.out.size;have h5:=HS0.out;have h6:=by9.lt;have h7:=f9.size;refine ⟨by omega,by omega,by omega,by omega,fun b hb=>?_,by omega⟩;have h8:=hwrl b hb;have h9:=HOB.out b hb
           omega)
         have HSX : Hid (∀ W,Upd (fun b=>u17.ownBlock = some b\/b = H + 1) w9 W->W.cell? ⟨X,0,none⟩ = some (.int .i64 (x.lit : Nat))/\W.cell? ⟨X,1,none⟩ = some (.int .i64 (x.len : Nat))/\W.cell? ⟨Y,0,none⟩ = some (.int .i64 n1)/\W.cell? ⟨Y,1,none⟩ = some (.int .i64 n2)/\W.cell? ⟨Y,2,none⟩ = some (.int .i64 n3)):=fun W u=>by
           have hx:=bx9.upd u (by rintro (h | h);exact (HN.out.2.2.2.2.1 _ h).1 rfl;exact HN.out.1 h);have hy:=by9.upd u (by rintro (h | h);exact (HN.out.2.2.2.2.1 _ h).2.1 rfl;exact HN.out.2.1 h);exact ⟨by simpa using hx.cell 0,by simpa using hx.cell 1,by simpa using hy.cell 0,by simpa using hy.cell 1,by simpa using hy.cell 2⟩
         have HFW:=hd_ FW;have HOV9:=hd_ ov9;have AB9:=hd_ ab9;(have hrl : (outs.map tri).length<=2 ^ 30:=by have h1:=HOL.out;have h2:=HN65.out;simp;omega);clear hY hw9 f9 by9 bx9 ab9 FW ov9 hwrl f8 y0 y1 y2 q0 q1 q2;go_wp2_with fail
         go_region_held3 (fun W=>W.cell? ⟨X,0,none⟩ = some (.int .i64 (x.lit : Nat))/\W.cell? ⟨X,1,none⟩ = some (.int .i64 (x.len : Nat))/\W.cell? ⟨Y,0,none⟩ = some (.int .i64 n1)/\W.cell? ⟨Y,1,none⟩ = some (.int .i64 n2)/\W.cell? ⟨Y,2,none⟩ = some (.int .i64 n3))
           (first | exact HSX.out _ (Upd.refl _ _).drew | exact HSX.out _ ((Upd.refl _ _).drew.alloc _) | exact HSX.out _ ug | exact HSX.out _ (ug.trans (set3 _ _ _ _ _) (fun b _ e=>.inr e)))
           (first
             | (refine step_app_row _ rfl (.tmp 86) (.tmp 93) _ rfl 23 _ 3 24 Tryz.underlying37 infoSeq rfl (by omega) (by omega) u17 _ rfl (HOV9.out.drewN 1 |>.alloc _) w9.heap.size 1 [.int .i64 (x.lit : Nat),.int .i64 (x.len : Nat),.int .i64 off] rfl (by simp [Value.oneCell']) rfl (Blk.new _ _ _) hrl ?_;intro g10 c10 w10 o10 g10u a10 l10;have ug : Upd (fun b=>u17.ownBlock = some b\/b = H + 1) w9 w10:=((Upd.refl _ w9).drew.alloc _).grown g10u (fun k hk _=>.inl hk);have b10:=AB9.out.upd (S:=fun b=>u17.ownBlock = some b) (((Upd.refl _ w9).drew.alloc _).grown g10u (fun k hk _=>hk)) (fun h=>(HN.out.2.2.2.2.1 _ h).2.2.1 rfl);have t0:=b10.cell 0;have t1:=b10.cell 1;have t2:=b10.cell 2;have z0:=b10.frozen 0;have z1:=b10.frozen 1;have z2:=b10.frozen 2;simp at t0 t1 t2))
         (have er : outs.map tri ++ [[Value.int .i64 (x.lit : Nat),.int .i64 (x.len : Nat),.int .i64 off]] = (outs ++ [((x.lit : Int),(x.len : Int),off)]).map tri:=by simp [tri]);(have el : (outs.map tri).length + 1 = outs.length + 1:=by simp);rw [er] at o10;(try rw [el] at o10);have u11:=set3 w10 (H + 1) (.int .i64 n1) (.int .i64 n2) (.int .i64 n3)
         have hog : ∀ b,(Value.slice (some ⟨g10,0,none⟩) (outs.length + 1) c10).ownBlock = some b->w7.heap.size<=b/\b ≠ H + 1:=by
           intro b hb;injection hb with hb;have hb' : g10 = b:=hb;rcases a10 with h | h
           . have h1:=HOB.out g10 h;have h2:=(HN.out.2.2.2.2.1 _ h).2.2.1;omega
           simp at h;have h1:=HN.out.2.2.1;have h2:=HX.out;have h3:=HN.out.2.2.2.2.2;omega
         have o12:=o10.upd u11 (fun b hb e=>(hog b hb).2 e);have b12:=b10.set3 (.int .i64 n1) (.int .i64 n2) (.int .i64 n3)
         have u12 : Upd (fun b=>b = H + 1) w7 (((w10.setCell ⟨H + 1,0,none⟩ (.int .i64 n1)).setCell ⟨H + 1,1,none⟩ (.int .i64 n2)).setCell ⟨H + 1,2,none⟩ (.int .i64 n3)) :=
           ((HU.out.trans' (HFW.out.mono fun _ _ h=>h.elim)).trans ug (fun b hb e=>by rcases e with e | e;have h1:=HOB.out b e;omega;exact e)).trans' u11
         have HO12:=hd_ o12;have HB12:=hd_ b12;have HU12:=hd_ u12;have HOG:=hd_ (fun b hb=>(hog b hb).1);clear er el o10 u11 hog o12 b12 u12 a10 l10 g10u ug b10 t0 t1 t2 z0 z1 z2;go_wp2_with fail;go_roundg (gk - 1)
         case measure=>have:=HJ.out;omega
         case rel=>exact ⟨j + 1,n1,n2,n3,outs ++ [((x.lit : Int),(x.len : Int),off)],by have:=HJ.out;omega,by go_num,HRN.out,by have:=HOL.out;simp;omega,by rw [HJS.out,HJO.out],HU12.out,HB12.out,HO12.out,HOG.out⟩
       have HOF2:=hd_ (HOF.out wx);unfold offPost at HOF2;simp only [if_neg ho] at HOF2;have HJN:=hd_ (joinO_no (outs:=outs) (L:=L.drop (j + 1)) ho);clear HOF ho;go_wp2_with fail;refine HOF2.out.mono ?_;rintro e1 w8 ⟨f8,rfl⟩;go_upto_region 19 with fail;obtain ⟨w9,hw9⟩:=nm_ (w8.alloc (.cells #[.int .i64 0,.int .i64 0,.int .i64 0] 30));simp only [<- hw9];(have f9 : Fresh w8 w9:=by rw [hw9];exact (Upd.refl _ _).alloc _);have FW:=FX.out.trans' (f8.trans' f9);have HE:=hd_ (show rowE BS T num r0 r1 r2 = (15,[],0,0,0) by rw [HROW2.out,<- HJO.out,HJN.out]);have a5:=HB.out.fresh FW;have o5:=(BO.out.upd HU7.out (by have:=HGL.out;omega)).upd (HU.out.trans' (FW.mono (T:=fun b=>b = H + 1) fun _ _ h=>h.elim)) (by omega);have HUV2:=hd_ (HUV.out.trans' (FW.mono (T:=fun b=>b = g) fun _ _ h=>h.elim));(have hn1 : H + 1 ≠ H + 1 + 1:=by omega);clear hw9 f9 FW f8 y0 y1 y2 q0 q1 q2;have y0:=a5.cell 0;have y1:=a5.cell 1;have y2:=a5.cell 2;have x0:=o5.cell 0;have x1:=o5.cell 1;have x2:=o5.cell 2;have z0:=o5.frozen 0;have z1:=o5.frozen 1;have z2:=o5.frozen 2;simp at y0 y1 y2 x0 x1 x2;have hO:=o5.set3 (.int .i64 a) (.int .i64 b) (.int .i64 c);obtain ⟨d0,d1,d2⟩:=(hO.drew).cells3;have HD:=hd_ (And.intro d0 (And.intro d1 d2));have HUF:=hd_ (HUV2.out.trans (set3 w9 (H + 1 + 1) (.int .i64 a) (.int .i64 b) (.int .i64 c)) (fun b hb e=>by have:=HH.out;omega)).drew;clear a5 o5 hO d0 d1 d2;go_wp2_with fail;go_region;(all_goals go_wp2_with fail);obtain ⟨d0,d1,d2⟩:=HD.out;refine bodyPost_ret (v:=.tuple #[.slice none 0 0,.agg #[.int .i64 a,.int .i64 b,.int .i64 c],.int .i64 15]) (by simp [results,Tryz.results38,go_sem,d0,d1,d2]) rfl ?_;refine hR.out _ _ ⟨HUF.out,?_⟩;rw [HE.out,if_neg (by simp)];exact ⟨a,b,c,rfl⟩
     (obtain rfl : j = nr:=by omega);(obtain rfl : gk = 0:=by omega)
     have hrow : rowE BS T num r0 r1 r2 = (0,outs,a,b,c):=by
       rw [HROW2.out,<- hjo,List.drop_of_length_le (by have:=HNR.out;omega)];simp [joinO,offsE]
     have HE:=hd_ hrow;have HO:=hd_ (fun W S (u : Upd S wr W) hs=>ho.upd u hs);have HOB:=hd_ hob;have o5':=(BO.out.upd HU7.out (by have:=HGL.out;omega)).upd hu (by omega);have HUV:=hd_ HUV.out;have y0:=hb.cell 0;have y1:=hb.cell 1;have y2:=hb.cell 2;have x0:=o5'.cell 0;have x1:=o5'.cell 1;have x2:=o5'.cell 2;have z0:=o5'.frozen 0;have z1:=o5'.frozen 1;have z2:=o5'.frozen 2;simp at y0 y1 y2 x0 x1 x2;have hO:=o5'.set3 (.int .i64 a) (.int .i64 b) (.int .i64 c);obtain ⟨d0,d1,d2⟩:=(hO.drew).cells3;have HD:=hd_ (And.intro d0 (And.intro d1 d2));have hs3:=set3 wr (H + 1 + 1) (.int .i64 a) (.int .i64 b) (.int .i64 c);have HS3:=hd_ hs3;have HUF:=hd_ (HUV.out.trans hs3 (fun b hb e=>by have:=HH.out;omega)).drew;have HC:=hd_ ((HC7.out.upd hu (by have:=HGL.out;omega) (fun b _ hb e=>by have h2:=hb.2;have h3:=HH.out;omega)).upd hs3 (by have:=HGL.out;omega) (fun b _ hb e=>by have h2:=hb.2;have h3:=HH.out;omega));clear hO d0 d1 d2 o5' hs3 hjo hol hrep hrow hb hu hj ho hob hjn;go_wp2_with fail;go_region;(all_goals go_wp2_with fail);obtain ⟨d0,d1,d2⟩:=HD.out;refine bodyPost_ret (v:=.tuple #[u17,.agg #[.int .i64 a,.int .i64 b,.int .i64 c],.int .i64 0]) (by simp [results,Tryz.results38,go_sem,d0,d1,d2]) rfl ?_;refine hR.out _ _ ⟨HUF.out,?_⟩;rw [HE.out,if_pos rfl];refine ⟨u17,rfl,(HO.out _ _ HS3.out (fun b hb e=>?_)).drewN 1,fun b hb=>?_,(HC.out.mono fun b hb=>hb.1).fresh (Upd.refl _ _).drew⟩
     . have h1:=HOB.out b hb;have h2:=HU7.out.size;have h3:=HS0.out;omega
     have h1:=HOB.out b hb;have h2:=HU7.out.size;have h3:=HS0.out;have h4:=HH.out;omega
 (have hne : (AL.2.2 == 0) = false:=by simpa using he);(have hnt : (AL.2.2 != 0) = true:=by simpa using he);have HE:=hd_ (show rowE BS T num r0 r1 r2 = (AL.2.2,[],0,0,0) by rw [HROW.out,if_pos he]);(have hmn1 : M ≠ H + 1 + 1:=by have:=HMN.out;omega);(have hmn2 : H + 1 + 1 ≠ M:=by have:=HMN.out;omega);clear ov hvb rr hnr1 hcr;have HUV:=hd_ ((F0.out.mono (T:=fun b=>b = g) fun _ _ h=>h.elim).trans' HU7.out);have y0:=a5.cell 0;have y1:=a5.cell 1;have y2:=a5.cell 2;have x0:=o5.cell 0;have x1:=o5.cell 1;have x2:=o5.cell 2;have z0:=o5.frozen 0;have z1:=o5.frozen 1;have z2:=o5.frozen 2;simp at y0 y1 y2 x0 x1 x2;have hO:=o5.set3 (.int .i64 r0) (.int .i64 r1) (.int .i64 r2);obtain ⟨d0,d1,d2⟩:=(hO.drew).cells3;have HD:=hd_ (And.intro d0 (And.intro d1 d2));have HUF:=hd_ (HUV.out.trans (set3 w7 (H + 1 + 1) (.int .i64 r0) (.int .i64 r1) (.int .i64 r2)) (fun b hb e=>by have:=HH.out;omega)).drew;clear a5 o5 hO d0 d1 d2;go_wp2_with fail;go_region;(all_goals go_wp2_with fail);obtain ⟨d0,d1,d2⟩:=HD.out;refine bodyPost_ret (v:=.tuple #[.slice none 0 0,.agg #[.int .i64 r0,.int .i64 r1,.int .i64 r2],.int .i64 AL.2.2]) (by simp [results,Tryz.results38,go_sem,d0,d1,d2]) rfl ?_;refine hR.out _ _ ⟨HUF.out,?_⟩;rw [HE.out,if_neg he];exact ⟨r0,r1,r2,rfl⟩
theorem set10 (w : World) (H : Nat) (v0 v1 v2 v3 v4 v5 v6 v7 v8 v9 : Value) : Upd (fun b=>b = H) w ((((((((((w.setCell ⟨H,0,none⟩ v0).setCell ⟨H,1,none⟩ v1).setCell ⟨H,2,none⟩ v2).setCell ⟨H,3,none⟩ v3).setCell ⟨H,4,none⟩ v4).setCell ⟨H,5,none⟩ v5).setCell ⟨H,6,none⟩ v6).setCell ⟨H,7,none⟩ v7).setCell ⟨H,8,none⟩ v8).setCell ⟨H,9,none⟩ v9) :=
 (((((((((((Upd.refl (fun b=>b = H) w).setCell (p:=⟨H,0,none⟩) (fun _=>rfl) _).setCell (p:=⟨H,1,none⟩) (fun _=>rfl) _).setCell (p:=⟨H,2,none⟩) (fun _=>rfl) _).setCell (p:=⟨H,3,none⟩) (fun _=>rfl) _).setCell (p:=⟨H,4,none⟩) (fun _=>rfl) _).setCell (p:=⟨H,5,none⟩) (fun _=>rfl) _).setCell (p:=⟨H,6,none⟩) (fun _=>rfl) _).setCell (p:=⟨H,7,none⟩) (fun _=>rfl) _).setCell (p:=⟨H,8,none⟩) (fun _=>rfl) _).setCell (p:=⟨H,9,none⟩) (fun _=>rfl) _)
theorem Blk.set10 {w : World} {H : Nat} {t : TypeId} {a0 a1 a2 a3 a4 a5 a6 a7 a8 a9 : Value} (h : Blk w H t #[a0,a1,a2,a3,a4,a5,a6,a7,a8,a9]) (v0 v1 v2 v3 v4 v5 v6 v7 v8 v9 : Value) :
   Blk ((((((((((w.setCell ⟨H,0,none⟩ v0).setCell ⟨H,1,none⟩ v1).setCell ⟨H,2,none⟩ v2).setCell ⟨H,3,none⟩ v3).setCell ⟨H,4,none⟩ v4).setCell ⟨H,5,none⟩ v5).setCell ⟨H,6,none⟩ v6).setCell ⟨H,7,none⟩ v7).setCell ⟨H,8,none⟩ v8).setCell ⟨H,9,none⟩ v9) H t #[v0,v1,v2,v3,v4,v5,v6,v7,v8,v9]:=by
 have:=((((((((((h.set_ 0 v0).set_ 1 v1).set_ 2 v2).set_ 3 v3).set_ 4 v4).set_ 5 v5).set_ 6 v6).set_ 7 v7).set_ 8 v8).set_ 9 v9);simpa using this
def SecPost (F : Nat->Prop) (g : Nat) (bs : List Nat) (S : SecE) (Tr : List Int) (w : World) (e : Ending) (w' : World) : Prop :=
  Upd (fun b=>b = g) w w'/\(if S.err = 0 then ∃ v D h i A n c B m d C k e1,e = .returned (.tuple #[v,.agg #[.slice D h i,.int .i64 S.tabs.lL,.slice A n c,.int .i64 S.tabs.lO,.slice B m d,.int .i64 S.tabs.lM,.slice C k e1,.int .i64 S.a,.int .i64 S.b,.int .i64 S.c],.int .i64 0]) /\
      OwnK w' 23 3 v (S.seqs.map tri)/\(∀ b,v.ownBlock = some b->w.heap.size<=b)/\RdU w' (fun b=>w.heap.size<=b) D h (ints Tr)/\RdU w' (fun b=>w.heap.size<=b) A n (ints S.tabs.NL)/\RdU w' (fun b=>w.heap.size<=b) B m (ints S.tabs.NO)/\RdU w' (fun b=>w.heap.size<=b) C k (ints S.tabs.NM)/\CurAt w' F g bs S.to_
    else e = .returned (.tuple #[.slice none 0 0,.agg #[.slice none 0 0,.int .i64 0,.slice none 0 0,.int .i64 0,.slice none 0 0,.int .i64 0,.slice none 0 0,.int .i64 0,.int .i64 0,.int .i64 0],.int .i64 S.err]))
theorem wrap_seq (n : Nat) (h : n<=65536) : wrap64 ((n : Nat) : Int) = ((n : Nat) : Int)/\IntKind.i64.wrap ((n : Nat) : Int) = ((n : Nat) : Int) :=
 ⟨by unfold wrap64;omega,IntWalk.i64_in _ (by omega)⟩
theorem decE_rep {bs : List Nat} {at_ : Nat} {T : Tabs3} {a b c : Int} (h : repOk a b c = false) : decE bs at_ T a b c = .no 2:=by
 unfold decE;rw [if_pos h]
theorem decE_var {bs : List Nat} {at_ : Nat} {T : Tabs3} {a b c : Int} (h : repOk a b c = true) (h1 : (varN (bs.drop at_)).2.2 ≠ 0) : decE bs at_ T a b c = .no (varN (bs.drop at_)).2.2:=by
 unfold decE;rw [if_neg (by rw [h];simp)];simp only;rw [if_pos h1]
theorem decE_many {bs : List Nat} {at_ : Nat} {T : Tabs3} {a b c : Int} (h : repOk a b c = true) (h1 : (varN (bs.drop at_)).2.2 = 0) (h2 : 65536 < (varN (bs.drop at_)).1) : decE bs at_ T a b c = .no 15:=by
 unfold decE;rw [if_neg (by rw [h];simp)];simp only;rw [if_neg (by simp [h1]),if_pos h2]
theorem decE_zero {bs : List Nat} {at_ : Nat} {T : Tabs3} {a b c : Int} (h : repOk a b c = true) (h1 : (varN (bs.drop at_)).2.2 = 0) (h2 : (varN (bs.drop at_)).1 = 0) : decE bs at_ T a b c = ⟨0,[],T,a,b,c,at_ + (varN (bs.drop at_)).2.1⟩:=by
 unfold decE;rw [if_neg (by rw [h];simp)];simp only;rw [if_neg (by simp [h1]),if_neg (by omega),if_pos h2]
theorem decE_head {bs : List Nat} {at_ : Nat} {T : Tabs3} {a b c : Int} (h : repOk a b c = true) (h1 : (varN (bs.drop at_)).2.2 = 0) (h2 : ¬ 65536 < (varN (bs.drop at_)).1) (h3 : (varN (bs.drop at_)).1 ≠ 0) (h4 : (headE bs (at_ + (varN (bs.drop at_)).2.1) T).1 ≠ 0) :
   decE bs at_ T a b c = .no (headE bs (at_ + (varN (bs.drop at_)).2.1) T).1:=by
 unfold decE;rw [if_neg (by rw [h];simp)];simp only;rw [if_neg (by simp [h1]),if_neg h2,if_neg h3,if_pos h4]
theorem decE_row {bs : List Nat} {at_ : Nat} {T : Tabs3} {a b c : Int} (h : repOk a b c = true) (h1 : (varN (bs.drop at_)).2.2 = 0) (h2 : ¬ 65536 < (varN (bs.drop at_)).1) (h3 : (varN (bs.drop at_)).1 ≠ 0) (h4 : (headE bs (at_ + (varN (bs.drop at_)).2.1) T).1 = 0)
   (h5 : (rowE (bs.drop (headE bs (at_ + (varN (bs.drop at_)).2.1) T).2.2) (headE bs (at_ + (varN (bs.drop at_)).2.1) T).2.1.trks (varN (bs.drop at_)).1 a b c).1 ≠ 0) :
   decE bs at_ T a b c = .no (rowE (bs.drop (headE bs (at_ + (varN (bs.drop at_)).2.1) T).2.2) (headE bs (at_ + (varN (bs.drop at_)).2.1) T).2.1.trks (varN (bs.drop at_)).1 a b c).1:=by
 unfold decE;rw [if_neg (by rw [h];simp)];simp only;rw [if_neg (by simp [h1]),if_neg h2,if_neg h3,if_neg (by simp [h4]),if_pos h5]
theorem decE_ok {bs : List Nat} {at_ : Nat} {T : Tabs3} {a b c : Int} (h : repOk a b c = true) (h1 : (varN (bs.drop at_)).2.2 = 0) (h2 : ¬ 65536 < (varN (bs.drop at_)).1) (h3 : (varN (bs.drop at_)).1 ≠ 0) {T2 : Tabs3} {to_ : Nat} (h4 : headE bs (at_ + (varN (bs.drop at_)).2.1) T = (0,T2,to_))
   {l : List (Int × Int × Int)} {x y z : Int} (h5 : rowE (bs.drop to_) T2.trks (varN (bs.drop at_)).1 a b c = (0,l,x,y,z)) :
   decE bs at_ T a b c = ⟨0,l,T2,x,y,z,bs.length⟩:=by
 unfold decE;rw [if_neg (by rw [h];simp)];simp only;rw [if_neg (by simp [h1]),if_neg h2,if_neg h3,h4];simp only;rw [if_neg (by simp),h5];simp
set_option maxHeartbeats 40000000 in
theorem sdec_any (F G : Nat->Prop) (g : Nat) (bs : List Nat) (at_ : Nat) (D A B C : Option Addr) (h i n c m d k e : Nat) (T : Tabs3) (Tr : List Int) (r0 r1 r2 : Int) (w : World) (hcu : CurAt w F g bs at_) (hF : ∀ b,F b->b ≠ g) (hG : ∀ b,G b->b ≠ g)
   (h0 : Rd w G D h (ints Tr)) (h1 : Rd w G A n (ints T.NL)) (h2 : Rd w G B m (ints T.NO)) (h3 : Rd w G C k (ints T.NM)) (f1 : Fit T.NL) (f2 : Fit T.NO) (f3 : Fit T.NM) (b0 : h<=2 ^ 40) (b1 : n<=2 ^ 40) (b2 : m<=2 ^ 40) (b3 : k<=2 ^ 40) :
   Calls Tryz.prog 18 #[.pointer (some ⟨g,0,none⟩),.agg #[.slice D h i,.int .i64 T.lL,.slice A n c,.int .i64 T.lO,.slice B m d,.int .i64 T.lM,.slice C k e,.int .i64 r0,.int .i64 r1,.int .i64 r2]] w (SecPost F g bs (decE bs at_ T r0 r1 r2) Tr w):=by
 (have hlt : ∀ b ∈ bs,b < 256:=by obtain ⟨_,_,_,_,h,_⟩:=hcu;exact h);have hgl:=hcu.lt;obtain ⟨w0,hw0⟩:=nm_ ((w.alloc (.cells #[.slice D h i,.int .i64 T.lL,.slice A n c,.int .i64 T.lO,.slice B m d,.int .i64 T.lM,.slice C k e,.int .i64 r0,.int .i64 r1,.int .i64 r2] 32)).alloc (.cells #[.slice none 0 0,.int .i64 0,.slice none 0 0,.int .i64 0,.slice none 0 0,.int .i64 0,.slice none 0 0,.int .i64 0,.int .i64 0,.int .i64 0] 32));obtain ⟨H,hH⟩:=nm_ (w.heap.size);(have f0 : Fresh w w0:=by rw [hw0];exact ((Upd.refl _ _).alloc _).alloc _);(have bc : Blk w0 H 32 #[.slice D h i,.int .i64 T.lL,.slice A n c,.int .i64 T.lO,.slice B m d,.int .i64 T.lM,.slice C k e,.int .i64 r0,.int .i64 r1,.int .i64 r2]:=by rw [hw0];exact (blk_new hH _ _).alloc _);(have bo : Blk w0 (H + 1) 32 #[.slice none 0 0,.int .i64 0,.slice none 0 0,.int .i64 0,.slice none 0 0,.int .i64 0,.slice none 0 0,.int .i64 0,.int .i64 0,.int .i64 0]:=by rw [hw0];exact blk_new (by simp [hH]) _ _);(have hs0 : w0.heap.size = H + 2:=by rw [hw0,hH];simp);have HCU:=hd_ (hcu.both.fresh f0);have HR0:=hd_ (h0.both.fresh f0);have HR1:=hd_ (h1.both.fresh f0);have HR2:=hd_ (h2.both.fresh f0);have HR3:=hd_ (h3.both.fresh f0);have HFT:=hd_ (And.intro f1 (And.intro f2 f3));have HBD:=hd_ (And.intro b0 (And.intro b1 (And.intro b2 b3)));have HG:=hd_ hG;have HF:=hd_ hF;have HLT:=hd_ hlt;have HGL:=hd_ (show g < H by rw [hH];exact hgl);have HW:=hd_ hw0;have HH:=hd_ hH;have F0:=hd_ f0;have BC:=hd_ bc;have BO:=hd_ bo;have HS0:=hd_ hs0;have HRP:=hd_ (repeats_any r0 r1 r2);have q0:=bc.cell 7;have q1:=bc.cell 8;have q2:=bc.cell 9;simp at q0 q1 q2;clear hcu h0 h1 h2 h3 f1 f2 f3 b0 b1 b2 b3 hG hF hlt hgl hw0 hH f0 bc hs0;refine veil fun R hR=>?_;go_enter Tryz.func18,Tryz.ntmps18;go_upto_region 1 with fail;simp only [<- HH.out,<- HW.out];by_cases hrep : repOk r0 r1 r2 = true
 . have HRP2:=hd_ (HRP.out w0)
   rw [hrep] at HRP2;have HREP:=hd_ hrep;clear HRP hrep bo;go_wp2_with fail;refine HRP2.out.mono ?_;rintro e1 w1 ⟨rfl,f1⟩;have F1:=hd_ f1;have HV:=hd_ (cvar_any (fun b=>F b/\b < w.heap.size) g bs at_ w1 (HCU.out.fresh f1) (fun b hb=>HF.out b hb.1));clear f1 q0 q1 q2;obtain ⟨vr,hvr⟩:=nm_ (varN (bs.drop at_));rw [<- hvr] at HV;have HVR:=hd_ hvr;clear hvr;obtain ⟨vn,vk,ve⟩:=vr;simp only at HV;go_wp2_with fail;refine HV.out.mono ?_;rintro e1 w2 ⟨rfl,u2,c2⟩;have HU2:=hd_ (u2);have HU:=hd_ ((F1.out.mono (T:=fun b=>b = g) fun _ _ h=>h.elim).trans' u2);by_cases hve : ve = 0
   . subst hve
     rw [if_pos rfl] at c2;have HC2:=hd_ c2;(have hve1 : (varN (bs.drop at_)).2.2 = 0:=by rw [<- HVR.out]);have HVE:=hd_ hve1;clear u2 c2 hve1;by_cases hmany : 65536 < vn
     . have HE:=hd_ (show decE bs at_ T r0 r1 r2 = .no 15 from decE_many HREP.out HVE.out (by rw [<- HVR.out];exact hmany))
       (have hmI : (65536 : Int) < (vn : Nat):=by omega);have o5:=BO.out.upd HU.out (by have:=HGL.out;omega);have HUV:=hd_ ((F0.out.mono (T:=fun b=>b = g) fun _ _ h=>h.elim).trans' HU.out);have x0:=o5.cell 0;have x1:=o5.cell 1;have x2:=o5.cell 2;have x3:=o5.cell 3;have x4:=o5.cell 4;have x5:=o5.cell 5;have x6:=o5.cell 6;have x7:=o5.cell 7;have x8:=o5.cell 8;have x9:=o5.cell 9;obtain ⟨z0,z1,z2,z3,z4,z5,z6,z7,z8,z9⟩:=(o5).frozens10;simp at x0 x1 x2 x3 x4 x5 x6 x7 x8 x9;have hO:=o5.set10 (.slice none 0 0) (.int .i64 0) (.slice none 0 0) (.int .i64 0) (.slice none 0 0) (.int .i64 0) (.slice none 0 0) (.int .i64 0) (.int .i64 0) (.int .i64 0);obtain ⟨d0,d1,d2,d3,d4,d5,d6,d7,d8,d9⟩:=(hO).cells10;have HD:=hd_ (And.intro d0 (And.intro d1 (And.intro d2 (And.intro d3 (And.intro d4 (And.intro d5 (And.intro d6 (And.intro d7 (And.intro d8 (d9))))))))));have HUF:=hd_ (HUV.out.trans (set10 w2 (H + 1) (.slice none 0 0) (.int .i64 0) (.slice none 0 0) (.int .i64 0) (.slice none 0 0) (.int .i64 0) (.slice none 0 0) (.int .i64 0) (.int .i64 0) (.int .i64 0)) (fun b hb e=>by have:=HH.out;omega));clear o5 hO d0 d1 d2 d3 d4 d5 d6 d7 d8 d9;go_wp2_with fail;obtain ⟨d0,d1,d2,d3,d4,d5,d6,d7,d8,d9⟩:=HD.out;refine bodyPost_ret (v:=.tuple #[.slice none 0 0,.agg #[.slice none 0 0,.int .i64 0,.slice none 0 0,.int .i64 0,.slice none 0 0,.int .i64 0,.slice none 0 0,.int .i64 0,.int .i64 0,.int .i64 0],.int .i64 15]) (by simp [results,Tryz.results18,go_sem,d0,d1,d2,d3,d4,d5,d6,d7,d8,d9]) rfl ?_;refine hR.out _ _ ⟨HUF.out,?_⟩;rw [HE.out];exact (if_neg (by simp [SecE.no])).mpr rfl
     (have hmI : ¬ (65536 : Int) < (vn : Nat):=by omega);by_cases hz : vn = 0
     . subst hz
       have HE:=hd_ (show decE bs at_ T r0 r1 r2 = ⟨0,[],T,r0,r1,r2,at_ + vk⟩ by have h:=decE_zero (T:=T) HREP.out HVE.out (show (varN (bs.drop at_)).1 = 0 by rw [<- HVR.out]);rw [<- HVR.out] at h;exact h);have HBX:=hd_ (BC.out.upd HU.out (by have:=HGL.out;omega));have HBO:=hd_ (BO.out.upd HU.out (by have:=HGL.out;omega))
       have HSX : Hid (∀ W,Upd (fun b=>b = H + 1) w2 W->W.cell? ⟨H,0,none⟩ = some (.slice D h i)/\W.cell? ⟨H,1,none⟩ = some (.int .i64 T.lL)/\W.cell? ⟨H,2,none⟩ = some (.slice A n c)/\W.cell? ⟨H,3,none⟩ = some (.int .i64 T.lO)/\W.cell? ⟨H,4,none⟩ = some (.slice B m d)/\W.cell? ⟨H,5,none⟩ = some (.int .i64 T.lM)/\W.cell? ⟨H,6,none⟩ = some (.slice C k e)/\W.cell? ⟨H,7,none⟩ = some (.int .i64 r0)/\W.cell? ⟨H,8,none⟩ = some (.int .i64 r1)/\W.cell? ⟨H,9,none⟩ = some (.int .i64 r2)):=fun W u=>by
         have b:=HBX.out.upd u (by omega);exact b.cells10
       have HSW:=hd_ (fun W v0 v1 v2 v3 v4 v5 v6 v7 v8 v9 (u : Upd (fun b=>b = H + 1) w2 W)=>HSX.out _ (u.trans' (set10 W (H + 1) v0 v1 v2 v3 v4 v5 v6 v7 v8 v9)));have hup : ∀ W,Upd (fun b=>b = H + 1) w2 W->Upd (fun b=>b = g\/b = H + 1) w0 W:=fun W u=>(HU.out.mono fun _ _ h=>.inl h).trans' (u.mono fun _ _ h=>.inr h);have HUP:=hd_ hup;(have hnn : ∀ b,(G b/\b < w.heap.size)->¬ (b = g\/b = H + 1):=fun b hb e=>by have h1:=HG.out b hb.1;have h2:=hb.2;have h3:=HH.out;omega);have HBE:=hd_ (fun W (u : Upd (fun b=>b = H + 1) w2 W)=>behind_any _ _ D A B C A B C h i n c m d k e n c m d k e T.lL T.lO T.lM r0 r1 r2 T.lL T.lO T.lM r0 r1 r2 Tr T.NL T.NO T.NM W (HR0.out.upd (HUP.out W u) (fun b _ hb=>hnn b hb)) (HR1.out.upd (HUP.out W u) (fun b _ hb=>hnn b hb)) (HR2.out.upd (HUP.out W u) (fun b _ hb=>hnn b hb)) (HR3.out.upd (HUP.out W u) (fun b _ hb=>hnn b hb)) HBD.out.1 HBD.out.2.1 HBD.out.2.2.1 HBD.out.2.2.2);have HTA:=hd_ tables_any
       have HXX : Hid (∀ W,Fresh w2 W->W.cell? ⟨H + 1,0,none⟩ = some (.slice none 0 0)/\W.cell? ⟨H + 1,1,none⟩ = some (.int .i64 0)/\W.cell? ⟨H + 1,2,none⟩ = some (.slice none 0 0)/\W.cell? ⟨H + 1,3,none⟩ = some (.int .i64 0)/\W.cell? ⟨H + 1,4,none⟩ = some (.slice none 0 0)/\W.cell? ⟨H + 1,5,none⟩ = some (.int .i64 0)/\W.cell? ⟨H + 1,6,none⟩ = some (.slice none 0 0)/\W.cell? ⟨H + 1,7,none⟩ = some (.int .i64 0)/\W.cell? ⟨H + 1,8,none⟩ = some (.int .i64 0)/\W.cell? ⟨H + 1,9,none⟩ = some (.int .i64 0)/\W.frozen? ⟨H + 1,0,none⟩ = false/\W.frozen? ⟨H + 1,1,none⟩ = false/\W.frozen? ⟨H + 1,2,none⟩ = false/\W.frozen? ⟨H + 1,3,none⟩ = false/\W.frozen? ⟨H + 1,4,none⟩ = false/\W.frozen? ⟨H + 1,5,none⟩ = false/\W.frozen? ⟨H + 1,6,none⟩ = false/\W.frozen? ⟨H + 1,7,none⟩ = false/\W.frozen? ⟨H + 1,8,none⟩ = false/\W.frozen? ⟨H + 1,9,none⟩ = false):=fun W f=>by
         have b:=HBO.out.fresh f;exact ⟨by simpa using b.cell 0,by simpa using b.cell 1,by simpa using b.cell 2,by simpa using b.cell 3,by simpa using b.cell 4,by simpa using b.cell 5,by simpa using b.cell 6,by simpa using b.cell 7,by simpa using b.cell 8,by simpa using b.cell 9,b.frozen _,b.frozen _,b.frozen _,b.frozen _,b.frozen _,b.frozen _,b.frozen _,b.frozen _,b.frozen _,b.frozen _⟩
       clear hup hnn;go_wp2_with fail;have HSX2:=hd_ (fun W (f : Fresh w2 W)=>HSX.out W (f.mono fun _ _ h=>h.elim));obtain ⟨c0w,c1w,c2w,c3w,c4w,c5w,c6w,c7w,c8w,c9w⟩:=HSX2.out w2 (Upd.refl _ _)
       go_region_with
         (first
           | (go_at_call 36;refine (HTA.out _ _ _ _ _ _ _ _ _ _ _ _ _ _ _ _ _ _ _).mono ?_;rintro e1 wa ⟨rfl,fa⟩;have fax : Fresh w2 wa:=(by first | exact fa | exact Upd.trans' ((Upd.refl _ _).drew) fa);obtain ⟨c0a,c1a,c2a,c3a,c4a,c5a,c6a,c7a,c8a,c9a⟩:=HSX2.out wa fax)
           | (go_at_call 35;refine (HBE.out _ (fax.mono fun _ _ h=>h.elim)).mono ?_;rintro e1 wb ⟨D',i',A',c',B',d',C',e2,rfl,rD,rA,rB,rC,fb⟩;have fbx : Fresh w2 wb:=fax.trans' fb;obtain ⟨x0,x1,x2,x3,x4,x5,x6,x7,x8,x9,z0,z1,z2,z3,z4,z5,z6,z7,z8,z9⟩:=HXX.out _ fbx))
       all_goals
         have hb5:=HBO.out.fresh fbx;have hO:=hb5.set10 (.slice D' h i') (.int .i64 T.lL) (.slice A' n c') (.int .i64 T.lO) (.slice B' m d') (.int .i64 T.lM) (.slice C' k e2) (.int .i64 r0) (.int .i64 r1) (.int .i64 r2);obtain ⟨d0,d1,d2,d3,d4,d5,d6,d7,d8,d9⟩:=(hO).cells10;have HD:=hd_ (And.intro d0 (And.intro d1 (And.intro d2 (And.intro d3 (And.intro d4 (And.intro d5 (And.intro d6 (And.intro d7 (And.intro d8 (d9))))))))));have hs10:=set10 wb (H + 1) (.slice D' h i') (.int .i64 T.lL) (.slice A' n c') (.int .i64 T.lO) (.slice B' m d') (.int .i64 T.lM) (.slice C' k e2) (.int .i64 r0) (.int .i64 r1) (.int .i64 r2);have HS10:=hd_ hs10;have hwa : w2.heap.size<=wa.heap.size:=fax.size;(have hl1 : ∀ b,wa.heap.size<=b->b ≠ H + 1:=fun b hb=>by have h1:=HU.out.size;have h2:=HS0.out;omega);have hRD:=hd_ (And.intro (rD.upd hs10 (fun b _ hb e=>hl1 b hb e)) (And.intro (rA.upd hs10 (fun b _ hb e=>hl1 b hb e)) (And.intro (rB.upd hs10 (fun b _ hb e=>hl1 b hb e)) (rC.upd hs10 (fun b _ hb e=>hl1 b hb e)))));clear hO hb5 hs10 d0 d1 d2 d3 d4 d5 d6 d7 d8 d9;go_wp2_with fail;obtain ⟨d0,d1,d2,d3,d4,d5,d6,d7,d8,d9⟩:=HD.out;refine bodyPost_ret (v:=.tuple #[.slice none 0 0,.agg #[.slice D' h i',.int .i64 T.lL,.slice A' n c',.int .i64 T.lO,.slice B' m d',.int .i64 T.lM,.slice C' k e2,.int .i64 r0,.int .i64 r1,.int .i64 r2],.int .i64 0]) (by simp [results,Tryz.results18,go_sem,d0,d1,d2,d3,d4,d5,d6,d7,d8,d9]) rfl ?_;have HUF:=(((F0.out.mono (T:=fun b=>b = g) fun _ _ h=>h.elim).trans' HU.out).trans' (fbx.mono (T:=fun b=>b = g) fun _ _ h=>h.elim)).trans HS10.out (fun b hb e=>by have:=HH.out;omega);(have hsz : w.heap.size<=wa.heap.size:=by have h1:=F0.out.size;have h2:=HU.out.size;omega);have hcu:=((HC2.out.fresh fbx).upd HS10.out (by have:=HGL.out;omega) (fun b _ hb e=>by have h2:=hb.2;have h3:=HH.out;omega)).mono fun b hb=>hb.1;refine hR.out _ _ ⟨by first | exact HUF | exact HUF.drew,?_⟩;rw [HE.out];refine (if_pos rfl).mpr ⟨.slice none 0 0,D',h,i',A',n,c',B',m,d',C',k,e2,rfl,OwnK.nil _ _ _,fun b hb=>by simp [Value.ownBlock] at hb,?_,?_,?_,?_,?_⟩
         . exact (hRD.out.1.mono fun b hb=>Nat.le_trans hsz hb).fresh (by first | exact Upd.refl _ _ | exact (Upd.refl _ _).drew)
         . exact (hRD.out.2.1.mono fun b hb=>Nat.le_trans hsz hb).fresh (by first | exact Upd.refl _ _ | exact (Upd.refl _ _).drew)
         . exact (hRD.out.2.2.1.mono fun b hb=>Nat.le_trans hsz hb).fresh (by first | exact Upd.refl _ _ | exact (Upd.refl _ _).drew)
         . exact (hRD.out.2.2.2.mono fun b hb=>Nat.le_trans hsz hb).fresh (by first | exact Upd.refl _ _ | exact (Upd.refl _ _).drew)
         exact hcu.fresh (by first | exact Upd.refl _ _ | exact (Upd.refl _ _).drew)
     (have hzb : (((vn : Nat) : Int) == 0) = false:=by simpa using hz);(have hzI : ¬ ((vn : Nat) : Int) = 0:=by omega);have hnn : ∀ b,(G b/\b < w.heap.size)->¬ (b = g):=fun b hb e=>HG.out b hb.1 e;(have hp40 : (2 : Nat) ^ 40 = 1099511627776:=by decide);have HHD:=head_any (fun b=>F b/\b < w.heap.size) (fun b=>G b/\b < w.heap.size) g bs (at_ + vk) D A B C h i n c m d k e T r0 r1 r2 w2 HC2.out (fun b hb=>HF.out b hb.1) (fun b hb=>HG.out b hb.1) (HR1.out.upd HU.out (fun b _ hb=>hnn b hb)) (HR2.out.upd HU.out (fun b _ hb=>hnn b hb)) (HR3.out.upd HU.out (fun b _ hb=>hnn b hb)) HFT.out.1 HFT.out.2.1 HFT.out.2.2 (by have:=HBD.out.2.1;omega) (by have:=HBD.out.2.2.1;omega) (by have:=HBD.out.2.2.2;omega);unfold HeadPost at HHD;obtain ⟨hr,hhr⟩:=nm_ (headE bs (at_ + vk) T);rw [<- hhr] at HHD;obtain ⟨er1,T2,to_⟩:=hr;simp only at HHD;have HDE:=hd_ hhr.symm;have hbx:=BC.out.upd HU.out (by have:=HGL.out;omega);obtain ⟨c0w,c1w,c2w,c3w,c4w,c5w,c6w,c7w,c8w,c9w⟩:=(hbx).cells10;have HBX:=hd_ hbx;clear hhr hbx hnn hp40;by_cases hx1 : er1 = 0
     . subst hx1
       simp only [if_pos] at HHD;have HHD2:=hd_ HHD;(have hh1 : (headE bs (at_ + vk) T).1 = 0:=by rw [HDE.out]);have hok:=headE_ok HLT.out hh1;rw [HDE.out] at hok;obtain ⟨hok1,hto⟩:=hok;obtain ⟨hok2,e1,e2,e3⟩:=hok1.trks;have HOK:=hd_ hok1;have HOT:=hd_ hok2;have HEQ:=hd_ (And.intro e1 (And.intro e2 e3));(have hvnle : vn<=65536:=by omega);have hrw:=fun A' B' C' n' c' m' d' k' e' w4 hc h1 h2 h3 f1 f2 f3 b1 b2 b3=>row_any (fun b=>F b/\b < w.heap.size) (fun b=>w2.heap.size<=b) g bs to_ vn A' B' C' n' c' m' d' k' e' T2.trks r0 r1 r2 w4 hc (fun b hb=>HF.out b hb.1) HOT.out h1 h2 h3 f1 f2 f3 b1 b2 b3 hvnle HREP.out;simp only [<- e1,<- e2,<- e3] at hrw;unfold RowPost at hrw;obtain ⟨rr,hrr⟩:=nm_ (rowE (bs.drop to_) T2.trks vn r0 r1 r2);simp only [<- hrr] at hrw;have HRR:=hd_ hrr.symm;have HRW:=hd_ hrw;obtain ⟨sv1,sv2⟩:=wrap_seq vn hvnle;clear HHD hh1 hok1 hok2 e1 e2 e3 hrw hrr hto;go_wp2_with fail;refine HHD2.out.mono ?_;rintro e1 w3 ⟨u3,A',n',c',B',m',d',C',k',e',rfl,rA,rB,rC,c3⟩;go_upto_region 13 with fail;obtain ⟨K,hK⟩:=nm_ (w3.heap.size);obtain ⟨w4,hw4⟩:=nm_ (w3.alloc (.cells #[.int .i64 T2.lL,.slice A' n' c',.int .i64 T2.lO,.slice B' m' d',.int .i64 T2.lM,.slice C' k' e'] 69));simp only [<- hK,<- hw4];(have f4 : Fresh w3 w4:=by rw [hw4];exact (Upd.refl _ _).alloc _);(have bk4 : Blk w4 K 69 #[.int .i64 T2.lL,.slice A' n' c',.int .i64 T2.lO,.slice B' m' d',.int .i64 T2.lM,.slice C' k' e']:=by rw [hw4];exact blk_new hK _ _);have u24 : Upd (fun b=>b = g) w2 w4:=u3.trans' (f4.mono (T:=fun b=>b = g) fun _ _ h=>h.elim)
       have hl44 : n'<=44/\m'<=44/\k'<=44:=by
         have h1:=rA.1;have h2:=rB.1;have h3:=rC.1;have h4:=HOK.out.1.2.2.2.2.1;have h5:=HOK.out.2.1.2.2.2.2.1;have h6:=HOK.out.2.2.2.2.2.2.1;simp at h1 h2 h3;omega
       have HRW2:=hd_ (HRW.out A' B' C' n' c' m' d' k' e' w4 (c3.fresh f4) (rA.fresh f4) (rB.fresh f4) (rC.fresh f4) (fit_valid25 HOK.out.1) (fit_valid25 HOK.out.2.1) (fit_valid25 HOK.out.2.2) (by omega) (by omega) (by omega));have hb4:=HBX.out.upd u24 (by have:=HGL.out;omega);have k0:=bk4.cell 0;have k1:=bk4.cell 1;have k2:=bk4.cell 2;have k3:=bk4.cell 3;have k4:=bk4.cell 4;have k5:=bk4.cell 5;have q0:=hb4.cell 7;have q1:=hb4.cell 8;have q2:=hb4.cell 9;simp at k0 k1 k2 k3 k4 k5 q0 q1 q2;have RA:=hd_ (rA.fresh f4);have RB:=hd_ (rB.fresh f4);have RC:=hd_ (rC.fresh f4);have BK4:=hd_ bk4;have HU4:=hd_ (HU.out.trans' u24);have HL44:=hd_ hl44;have HKS:=hd_ (show K ≠ g/\K ≠ H + 1/\K ≠ H/\w2.heap.size<=K by have h1:=HU.out.size;have h2:=u3.size;have h3:=HS0.out;have h4:=HGL.out;omega);clear u3 rA rB rC c3 hK hw4 f4 bk4 u24 hl44 hb4 HRW c0w c1w c2w c3w c4w c5w c6w c7w c8w c9w;obtain ⟨er2,lq,rx,ry,rz⟩:=rr;simp only at HRW2;by_cases hx2 : er2 = 0
       . subst hx2
         simp only [if_pos] at HRW2
         have HE:=hd_ (show decE bs at_ T r0 r1 r2 = ⟨0,lq,T2,rx,ry,rz,bs.length⟩ from by
           have h:=decE_ok (T:=T) HREP.out HVE.out (show ¬ 65536 < (varN (bs.drop at_)).1 by rw [<- HVR.out];exact hmany) (show (varN (bs.drop at_)).1 ≠ 0 by rw [<- HVR.out];exact hz) (T2:=T2) (to_:=to_) (by rw [<- HVR.out];exact HDE.out) (l:=lq) (x:=rx) (y:=ry) (z:=rz) (by rw [<- HVR.out];exact HRR.out)
           exact h)
         go_wp2_with fail;refine HRW2.out.mono ?_;rintro e1 w5 ⟨u5,v5,rfl,ov,hvb,c5⟩;go_upto_region 16 with fail;obtain ⟨Lb,hLb⟩:=nm_ (w5.heap.size);obtain ⟨w6,hw6⟩:=nm_ (w5.alloc (.cells #[.int .i64 rx,.int .i64 ry,.int .i64 rz] 30));simp only [<- hLb,<- hw6];(have f6 : Fresh w5 w6:=by rw [hw6];exact (Upd.refl _ _).alloc _);(have bl6 : Blk w6 Lb 30 #[.int .i64 rx,.int .i64 ry,.int .i64 rz]:=by rw [hw6];exact blk_new hLb _ _);have u46 : Upd (fun b=>b = g) w4 w6:=u5.trans' (f6.mono (T:=fun b=>b = g) fun _ _ h=>h.elim);have HU6:=hd_ (HU4.out.trans' u46);have hbk:=BK4.out.upd u46 (by have:=HKS.out;omega);have hbc:=BC.out.upd HU6.out (by have:=HGL.out;omega);have hbo:=BO.out.upd HU6.out (by have:=HGL.out;omega);(have hg2 : ∀ b,w2.heap.size<=b->¬ b = g:=fun b hb=>by have h1:=HU.out.size;have h2:=HS0.out;have h3:=HGL.out;omega);have HBE:=hd_ (behind_any (fun b=>G b/\b < w.heap.size) (fun b=>w2.heap.size<=b) D A' B' C' A B C h i n' c' m' d' k' e' n c m d k e T2.lL T2.lO T2.lM rx ry rz T.lL T.lO T.lM r0 r1 r2 Tr T2.NL T2.NO T2.NM w6 (HR0.out.upd HU6.out (fun b _ hb=>HG.out b hb.1)) (RA.out.upd u46 (fun b _ hb=>hg2 b hb)) (RB.out.upd u46 (fun b _ hb=>hg2 b hb)) (RC.out.upd u46 (fun b _ hb=>hg2 b hb)) HBD.out.1 (Nat.le_trans HL44.out.1 (by decide)) (Nat.le_trans HL44.out.2.1 (by decide)) (Nat.le_trans HL44.out.2.2 (by decide)));obtain ⟨c0v,c1v,c2v,c3v,c4v,c5v,c6v,c7v,c8v,c9v⟩:=(hbc).cells10;have l0:=bl6.cell 0;have l1:=bl6.cell 1;have l2:=bl6.cell 2;have k0':=hbk.cell 0;have k1':=hbk.cell 1;have k2':=hbk.cell 2;have k3':=hbk.cell 3;have k4':=hbk.cell 4;have k5':=hbk.cell 5;simp at l0 l1 l2 k0' k1' k2' k3' k4' k5';have HBO:=hd_ hbo;have OV:=hd_ (ov.fresh f6);have HVB:=hd_ hvb;have HC6:=hd_ (c5.fresh f6);have HSZ:=hd_ (show w.heap.size<=w4.heap.size/\w4.heap.size<=w6.heap.size by have h1:=F0.out.size;have h2:=HU4.out.size;have h3:=u46.size;omega);have HOVL:=hd_ (fun b hb=>ov.lt (b:=b) hb);clear u5 ov hvb c5 hLb hw6 f6 bl6 u46 hbk hbc hbo hg2 k0 k1 k2 k3 k4 k5 q0 q1 q2;go_wp2_with fail;refine HBE.out.mono ?_;rintro e1 wb ⟨D',i',A'',c'',B'',d'',C'',e2,rfl,rD,rA,rB,rC,fb⟩
         obtain ⟨x0,x1,x2,x3,x4,x5,x6,x7,x8,x9,z0,z1,z2,z3,z4,z5,z6,z7,z8,z9⟩:=(show wb.cell? ⟨H + 1,0,none⟩ = some (.slice none 0 0)/\wb.cell? ⟨H + 1,1,none⟩ = some (.int .i64 0)/\wb.cell? ⟨H + 1,2,none⟩ = some (.slice none 0 0)/\wb.cell? ⟨H + 1,3,none⟩ = some (.int .i64 0)/\wb.cell? ⟨H + 1,4,none⟩ = some (.slice none 0 0)/\wb.cell? ⟨H + 1,5,none⟩ = some (.int .i64 0)/\wb.cell? ⟨H + 1,6,none⟩ = some (.slice none 0 0)/\wb.cell? ⟨H + 1,7,none⟩ = some (.int .i64 0)/\wb.cell? ⟨H + 1,8,none⟩ = some (.int .i64 0)/\wb.cell? ⟨H + 1,9,none⟩ = some (.int .i64 0)/\wb.frozen? ⟨H + 1,0,none⟩ = false/\wb.frozen? ⟨H + 1,1,none⟩ = false/\wb.frozen? ⟨H + 1,2,none⟩ = false/\wb.frozen? ⟨H + 1,3,none⟩ = false/\wb.frozen? ⟨H + 1,4,none⟩ = false/\wb.frozen? ⟨H + 1,5,none⟩ = false/\wb.frozen? ⟨H + 1,6,none⟩ = false/\wb.frozen? ⟨H + 1,7,none⟩ = false/\wb.frozen? ⟨H + 1,8,none⟩ = false/\wb.frozen? ⟨H + 1,9,none⟩ = false from by
           have b:=HBO.out.fresh fb
           exact ⟨by simpa using b.cell 0,by simpa using b.cell 1,by simpa using b.cell 2,by simpa using b.cell 3,by simpa using b.cell 4,by simpa using b.cell 5,by simpa using b.cell 6,by simpa using b.cell 7,by simpa using b.cell 8,by simpa using b.cell 9,b.frozen _,b.frozen _,b.frozen _,b.frozen _,b.frozen _,b.frozen _,b.frozen _,b.frozen _,b.frozen _,b.frozen _⟩)
         have HFB:=hd_ fb;clear fb;have hb5:=HBO.out.fresh HFB.out;have hO:=hb5.set10 (.slice D' h i') (.int .i64 T2.lL) (.slice A'' n' c'') (.int .i64 T2.lO) (.slice B'' m' d'') (.int .i64 T2.lM) (.slice C'' k' e2) (.int .i64 rx) (.int .i64 ry) (.int .i64 rz);obtain ⟨d0,d1,d2,d3,d4,d5,d6,d7,d8,d9⟩:=(hO).cells10;have HD:=hd_ (And.intro d0 (And.intro d1 (And.intro d2 (And.intro d3 (And.intro d4 (And.intro d5 (And.intro d6 (And.intro d7 (And.intro d8 (d9))))))))));have hs10:=set10 wb (H + 1) (.slice D' h i') (.int .i64 T2.lL) (.slice A'' n' c'') (.int .i64 T2.lO) (.slice B'' m' d'') (.int .i64 T2.lM) (.slice C'' k' e2) (.int .i64 rx) (.int .i64 ry) (.int .i64 rz);have HS10:=hd_ hs10;(have hl1 : ∀ b,w6.heap.size<=b->b ≠ H + 1:=fun b hb=>by have h1:=HSZ.out;have h2:=HU4.out.size;have h3:=HS0.out;omega);have hRD:=hd_ (And.intro (rD.upd hs10 (fun b _ hb e=>hl1 b hb e)) (And.intro (rA.upd hs10 (fun b _ hb e=>hl1 b hb e)) (And.intro (rB.upd hs10 (fun b _ hb e=>hl1 b hb e)) (rC.upd hs10 (fun b _ hb e=>hl1 b hb e)))));clear hO hb5 hs10 rD rA rB rC d0 d1 d2 d3 d4 d5 d6 d7 d8 d9;go_wp2_with fail;obtain ⟨d0,d1,d2,d3,d4,d5,d6,d7,d8,d9⟩:=HD.out;refine bodyPost_ret (v:=.tuple #[v5,.agg #[.slice D' h i',.int .i64 T2.lL,.slice A'' n' c'',.int .i64 T2.lO,.slice B'' m' d'',.int .i64 T2.lM,.slice C'' k' e2,.int .i64 rx,.int .i64 ry,.int .i64 rz],.int .i64 0]) (by simp [results,Tryz.results18,go_sem,d0,d1,d2,d3,d4,d5,d6,d7,d8,d9]) rfl ?_;have HUF:=hd_ ((((F0.out.mono (T:=fun b=>b = g) fun _ _ h=>h.elim).trans' HU6.out).trans' (HFB.out.mono (T:=fun b=>b = g) fun _ _ h=>h.elim)).trans HS10.out (fun b hb e=>by have:=HH.out;omega));refine hR.out _ _ ⟨HUF.out,?_⟩;rw [HE.out];(have hsz : w.heap.size<=w6.heap.size:=by have h1:=HSZ.out;omega);refine (if_pos rfl).mpr ⟨v5,D',h,i',A'',n',c'',B'',m',d'',C'',k',e2,rfl,(OV.out.fresh HFB.out).upd HS10.out (fun b hb e=>?_),fun b hb=>Nat.le_trans HSZ.out.1 (HVB.out b hb),hRD.out.1.mono fun b hb=>Nat.le_trans hsz hb,hRD.out.2.1.mono fun b hb=>Nat.le_trans hsz hb,hRD.out.2.2.1.mono fun b hb=>Nat.le_trans hsz hb,hRD.out.2.2.2.mono fun b hb=>Nat.le_trans hsz hb,((HC6.out.fresh HFB.out).upd HS10.out (by have:=HGL.out;omega) (fun b _ hb e=>by have h2:=hb.2;have h3:=HH.out;omega)).mono fun b hb=>hb.1⟩;have h1:=HVB.out b hb;have h2:=HU4.out.size;have h3:=HS0.out;omega
       have HE:=hd_ (show decE bs at_ T r0 r1 r2 = .no er2 from by
         have h:=decE_row (T:=T) HREP.out HVE.out (show ¬ 65536 < (varN (bs.drop at_)).1 by rw [<- HVR.out];exact hmany) (show (varN (bs.drop at_)).1 ≠ 0 by rw [<- HVR.out];exact hz) (by rw [<- HVR.out];show (headE bs (at_ + vk) T).1 = 0;rw [HDE.out]) (by rw [<- HVR.out];show (rowE (bs.drop (headE bs (at_ + vk) T).2.2) (headE bs (at_ + vk) T).2.1.trks vn r0 r1 r2).1 ≠ 0;rw [HDE.out,HRR.out];exact hx2);rw [<- HVR.out] at h;rw [h];show SecE.no (rowE (bs.drop (headE bs (at_ + vk) T).2.2) (headE bs (at_ + vk) T).2.1.trks vn r0 r1 r2).1 = _
         rw [HDE.out,HRR.out])
       simp only [if_neg hx2] at HRW2;have HRW3:=hd_ HRW2;(have hne : (er2 == 0) = false:=by simpa using hx2);(have hnt : (er2 != 0) = true:=by simpa using hx2);clear HRW2;go_wp2_with fail;refine HRW3.out.mono ?_;rintro e1 w5 ⟨u5,sx,sy,sz,rfl⟩;go_upto_region 16 with fail;obtain ⟨w6,hw6⟩:=nm_ (w5.alloc (.cells #[.int .i64 sx,.int .i64 sy,.int .i64 sz] 30));simp only [<- hw6];(have f6 : Fresh w5 w6:=by rw [hw6];exact (Upd.refl _ _).alloc _);have HU6:=hd_ ((HU4.out.trans' u5).trans' (f6.mono (T:=fun b=>b = g) fun _ _ h=>h.elim));have o5:=BO.out.upd HU6.out (by have:=HGL.out;omega);have HUV:=hd_ ((F0.out.mono (T:=fun b=>b = g) fun _ _ h=>h.elim).trans' HU6.out);clear u5 hw6 f6 k0 k1 k2 k3 k4 k5 q0 q1 q2;have x0:=o5.cell 0;have x1:=o5.cell 1;have x2:=o5.cell 2;have x3:=o5.cell 3;have x4:=o5.cell 4;have x5:=o5.cell 5;have x6:=o5.cell 6;have x7:=o5.cell 7;have x8:=o5.cell 8;have x9:=o5.cell 9;obtain ⟨z0,z1,z2,z3,z4,z5,z6,z7,z8,z9⟩:=(o5).frozens10;simp at x0 x1 x2 x3 x4 x5 x6 x7 x8 x9;have hO:=o5.set10 (.slice none 0 0) (.int .i64 0) (.slice none 0 0) (.int .i64 0) (.slice none 0 0) (.int .i64 0) (.slice none 0 0) (.int .i64 0) (.int .i64 0) (.int .i64 0);obtain ⟨d0,d1,d2,d3,d4,d5,d6,d7,d8,d9⟩:=(hO).cells10;have HD:=hd_ (And.intro d0 (And.intro d1 (And.intro d2 (And.intro d3 (And.intro d4 (And.intro d5 (And.intro d6 (And.intro d7 (And.intro d8 (d9))))))))));have HUF:=hd_ (HUV.out.trans (set10 w6 (H + 1) (.slice none 0 0) (.int .i64 0) (.slice none 0 0) (.int .i64 0) (.slice none 0 0) (.int .i64 0) (.slice none 0 0) (.int .i64 0) (.int .i64 0) (.int .i64 0)) (fun b hb e=>by have:=HH.out;omega));clear o5 hO d0 d1 d2 d3 d4 d5 d6 d7 d8 d9;go_wp2_with fail;obtain ⟨d0,d1,d2,d3,d4,d5,d6,d7,d8,d9⟩:=HD.out;refine bodyPost_ret (v:=.tuple #[.slice none 0 0,.agg #[.slice none 0 0,.int .i64 0,.slice none 0 0,.int .i64 0,.slice none 0 0,.int .i64 0,.slice none 0 0,.int .i64 0,.int .i64 0,.int .i64 0],.int .i64 er2]) (by simp [results,Tryz.results18,go_sem,d0,d1,d2,d3,d4,d5,d6,d7,d8,d9]) rfl ?_;refine hR.out _ _ ⟨HUF.out,?_⟩;rw [HE.out];exact (if_neg (by simpa [SecE.no] using hx2)).mpr rfl
     have HE:=hd_ (show decE bs at_ T r0 r1 r2 = .no er1 from by
       have h:=decE_head (T:=T) HREP.out HVE.out (show ¬ 65536 < (varN (bs.drop at_)).1 by rw [<- HVR.out];exact hmany) (show (varN (bs.drop at_)).1 ≠ 0 by rw [<- HVR.out];exact hz) (by rw [<- HVR.out];show (headE bs (at_ + vk) T).1 ≠ 0;rw [HDE.out];exact hx1);rw [<- HVR.out] at h;rw [h];show SecE.no (headE bs (at_ + vk) T).1 = _
       rw [HDE.out])
     simp only [if_neg hx1] at HHD;have HHD2:=hd_ HHD;(have hne : (er1 == 0) = false:=by simpa using hx1);(have hnt : (er1 != 0) = true:=by simpa using hx1);clear HHD;go_wp2_with fail;refine HHD2.out.mono ?_;rintro e1 w3 ⟨u3,rfl⟩;go_upto_region 13 with fail;obtain ⟨w4,hw4⟩:=nm_ (w3.alloc (.cells #[.int .i64 0,.slice none 0 0,.int .i64 0,.slice none 0 0,.int .i64 0,.slice none 0 0] 69));simp only [<- hw4];(have f4 : Fresh w3 w4:=by rw [hw4];exact (Upd.refl _ _).alloc _);have HU4:=hd_ ((HU.out.trans' u3).trans' (f4.mono (T:=fun b=>b = g) fun _ _ h=>h.elim));have o5:=BO.out.upd HU4.out (by have:=HGL.out;omega);have HUV:=hd_ ((F0.out.mono (T:=fun b=>b = g) fun _ _ h=>h.elim).trans' HU4.out);clear u3 hw4 f4 c0w c1w c2w c3w c4w c5w c6w c7w c8w c9w;have x0:=o5.cell 0;have x1:=o5.cell 1;have x2:=o5.cell 2;have x3:=o5.cell 3;have x4:=o5.cell 4;have x5:=o5.cell 5;have x6:=o5.cell 6;have x7:=o5.cell 7;have x8:=o5.cell 8;have x9:=o5.cell 9;obtain ⟨z0,z1,z2,z3,z4,z5,z6,z7,z8,z9⟩:=(o5).frozens10;simp at x0 x1 x2 x3 x4 x5 x6 x7 x8 x9;have hO:=o5.set10 (.slice none 0 0) (.int .i64 0) (.slice none 0 0) (.int .i64 0) (.slice none 0 0) (.int .i64 0) (.slice none 0 0) (.int .i64 0) (.int .i64 0) (.int .i64 0);obtain ⟨d0,d1,d2,d3,d4,d5,d6,d7,d8,d9⟩:=(hO).cells10;have HD:=hd_ (And.intro d0 (And.intro d1 (And.intro d2 (And.intro d3 (And.intro d4 (And.intro d5 (And.intro d6 (And.intro d7 (And.intro d8 (d9))))))))));have HUF:=hd_ (HUV.out.trans (set10 w4 (H + 1) (.slice none 0 0) (.int .i64 0) (.slice none 0 0) (.int .i64 0) (.slice none 0 0) (.int .i64 0) (.slice none 0 0) (.int .i64 0) (.int .i64 0) (.int .i64 0)) (fun b hb e=>by have:=HH.out;omega));clear o5 hO d0 d1 d2 d3 d4 d5 d6 d7 d8 d9;go_wp2_with fail;obtain ⟨d0,d1,d2,d3,d4,d5,d6,d7,d8,d9⟩:=HD.out;refine bodyPost_ret (v:=.tuple #[.slice none 0 0,.agg #[.slice none 0 0,.int .i64 0,.slice none 0 0,.int .i64 0,.slice none 0 0,.int .i64 0,.slice none 0 0,.int .i64 0,.int .i64 0,.int .i64 0],.int .i64 er1]) (by simp [results,Tryz.results18,go_sem,d0,d1,d2,d3,d4,d5,d6,d7,d8,d9]) rfl ?_;refine hR.out _ _ ⟨HUF.out,?_⟩;rw [HE.out];exact (if_neg (by simpa [SecE.no] using hx1)).mpr rfl
   have HE:=hd_ (show decE bs at_ T r0 r1 r2 = .no ve by have h:=decE_var (T:=T) HREP.out (show (varN (bs.drop at_)).2.2 ≠ 0 by rw [<- HVR.out];exact hve);rw [<- HVR.out] at h;exact h);(have hne : (ve == 0) = false:=by simpa using hve);(have hnt : (ve != 0) = true:=by simpa using hve);have o5:=BO.out.upd HU.out (by have:=HGL.out;omega);have HUV:=hd_ ((F0.out.mono (T:=fun b=>b = g) fun _ _ h=>h.elim).trans' HU.out);clear u2 c2;have x0:=o5.cell 0;have x1:=o5.cell 1;have x2:=o5.cell 2;have x3:=o5.cell 3;have x4:=o5.cell 4;have x5:=o5.cell 5;have x6:=o5.cell 6;have x7:=o5.cell 7;have x8:=o5.cell 8;have x9:=o5.cell 9;obtain ⟨z0,z1,z2,z3,z4,z5,z6,z7,z8,z9⟩:=(o5).frozens10;simp at x0 x1 x2 x3 x4 x5 x6 x7 x8 x9;have hO:=o5.set10 (.slice none 0 0) (.int .i64 0) (.slice none 0 0) (.int .i64 0) (.slice none 0 0) (.int .i64 0) (.slice none 0 0) (.int .i64 0) (.int .i64 0) (.int .i64 0);obtain ⟨d0,d1,d2,d3,d4,d5,d6,d7,d8,d9⟩:=(hO).cells10;have HD:=hd_ (And.intro d0 (And.intro d1 (And.intro d2 (And.intro d3 (And.intro d4 (And.intro d5 (And.intro d6 (And.intro d7 (And.intro d8 (d9))))))))));have HUF:=hd_ (HUV.out.trans (set10 w2 (H + 1) (.slice none 0 0) (.int .i64 0) (.slice none 0 0) (.int .i64 0) (.slice none 0 0) (.int .i64 0) (.slice none 0 0) (.int .i64 0) (.int .i64 0) (.int .i64 0)) (fun b hb e=>by have:=HH.out;omega));clear o5 hO d0 d1 d2 d3 d4 d5 d6 d7 d8 d9;go_wp2_with fail;obtain ⟨d0,d1,d2,d3,d4,d5,d6,d7,d8,d9⟩:=HD.out;refine bodyPost_ret (v:=.tuple #[.slice none 0 0,.agg #[.slice none 0 0,.int .i64 0,.slice none 0 0,.int .i64 0,.slice none 0 0,.int .i64 0,.slice none 0 0,.int .i64 0,.int .i64 0,.int .i64 0],.int .i64 ve]) (by simp [results,Tryz.results18,go_sem,d0,d1,d2,d3,d4,d5,d6,d7,d8,d9]) rfl ?_;refine hR.out _ _ ⟨HUF.out,?_⟩;rw [HE.out];exact (if_neg (by simpa [SecE.no] using hve)).mpr rfl
 (have hrep2 : repOk r0 r1 r2 = false:=by simpa using hrep);have HRP2:=hd_ (HRP.out w0);rw [hrep2] at HRP2;have HE:=hd_ (show decE bs at_ T r0 r1 r2 = .no 2 from decE_rep hrep2);clear HRP hrep hrep2;go_wp2_with fail;refine HRP2.out.mono ?_;rintro e1 w1 ⟨rfl,f1⟩;have o5:=bo.fresh f1;have HUV:=hd_ ((F0.out.trans' f1).mono (T:=fun b=>b = g) fun _ _ h=>h.elim);clear f1 bo q0 q1 q2;have x0:=o5.cell 0;have x1:=o5.cell 1;have x2:=o5.cell 2;have x3:=o5.cell 3;have x4:=o5.cell 4;have x5:=o5.cell 5;have x6:=o5.cell 6;have x7:=o5.cell 7;have x8:=o5.cell 8;have x9:=o5.cell 9;obtain ⟨z0,z1,z2,z3,z4,z5,z6,z7,z8,z9⟩:=(o5).frozens10;simp at x0 x1 x2 x3 x4 x5 x6 x7 x8 x9;have hO:=o5.set10 (.slice none 0 0) (.int .i64 0) (.slice none 0 0) (.int .i64 0) (.slice none 0 0) (.int .i64 0) (.slice none 0 0) (.int .i64 0) (.int .i64 0) (.int .i64 0);obtain ⟨d0,d1,d2,d3,d4,d5,d6,d7,d8,d9⟩:=(hO).cells10;have HD:=hd_ (And.intro d0 (And.intro d1 (And.intro d2 (And.intro d3 (And.intro d4 (And.intro d5 (And.intro d6 (And.intro d7 (And.intro d8 (d9))))))))));have HUF:=hd_ (HUV.out.trans (set10 w1 (H + 1) (.slice none 0 0) (.int .i64 0) (.slice none 0 0) (.int .i64 0) (.slice none 0 0) (.int .i64 0) (.slice none 0 0) (.int .i64 0) (.int .i64 0) (.int .i64 0)) (fun b hb e=>by have:=HH.out;omega));clear o5 hO d0 d1 d2 d3 d4 d5 d6 d7 d8 d9;go_wp2_with fail;obtain ⟨d0,d1,d2,d3,d4,d5,d6,d7,d8,d9⟩:=HD.out;refine bodyPost_ret (v:=.tuple #[.slice none 0 0,.agg #[.slice none 0 0,.int .i64 0,.slice none 0 0,.int .i64 0,.slice none 0 0,.int .i64 0,.slice none 0 0,.int .i64 0,.int .i64 0,.int .i64 0],.int .i64 2]) (by simp [results,Tryz.results18,go_sem,d0,d1,d2,d3,d4,d5,d6,d7,d8,d9]) rfl ?_;refine hR.out _ _ ⟨HUF.out,?_⟩;rw [HE.out];exact (if_neg (by simp [SecE.no])).mpr rfl
theorem kn_err1 : (decE [1] 0 Tabs3.none 1 4 8).err = 3:=by decide +kernel
theorem kn_err2 : (decE [1,64] 0 Tabs3.none 1 4 8).err = 13:=by decide +kernel
theorem kn_zero : (decE [0] 0 Tabs3.none 1 4 8).err = 0/\(decE [0] 0 Tabs3.none 1 4 8).seqs = []:=by decide +kernel
theorem kn_one : (decE [1,21,2,0,0,1] 0 Tabs3.none 1 4 8).err = 0/\(decE [1,21,2,0,0,1] 0 Tabs3.none 1 4 8).seqs = [(2,3,1)]:=by decide +kernel
set_option maxHeartbeats 4000000 in
theorem same25_any (F G : Nat->Prop) (A B : Option Addr) (n m c d : Nat) (l1 l2 : List (Int × Int × Int)) (w : World) (h1 : RdK w F 3 A n (l1.map tri)) (h2 : RdK w G 3 B m (l2.map tri)) (hn : n<=2 ^ 40) (hm : m<=2 ^ 40) :
   Calls Tryz.prog 22 #[.slice A n c,.slice B m d] w fun e w'=>e = .returned (.bool (decide (l1 = l2)))/\Fresh w w':=by
 (have e1 : l1.length = n:=by have:=h1.1;simpa using this);(have e2 : l2.length = m:=by have:=h2.1;simpa using this);by_cases hnm : n = m
 . subst hnm
   (have hne : ((n : Int) != n) = false:=by simp);have H1:=hd_ h1;have H2:=hd_ h2;have E1:=hd_ e1;have E2:=hd_ e2;clear h1 h2 e1 e2;refine veil fun R hR=>?_;go_enter Tryz.func22,Tryz.ntmps22;go_wp2_with fail;go_loopg [5] n (fun f vi wr=>∃ j : Nat,j + f = n/\vi = .int .i64 j/\l1.take j = l2.take j/\Fresh w wr)
   case atStart=>exact ⟨0,by omega,rfl,by simp,Upd.refl _ _⟩
   case round =>
     obtain ⟨j,hj,rfl,htk,hu⟩:=hrel;by_cases hjn : j < n
     . have hjI : (j : Int) < n:=by omega
       (have j1 : j < l1.length:=by rw [E1.out];exact hjn);(have j2 : j < l2.length:=by rw [E2.out];exact hjn);obtain ⟨b,o,rfl,_,_,hc⟩:=(H1.out.fresh hu).at_ (r:=0) hjn;obtain ⟨b',o',rfl,_,_,hc'⟩:=(H2.out.fresh hu).at_ (r:=0) hjn;rw [List.getElem_map] at hc hc';have c0:=hc 0 (by omega);have c1:=hc 1 (by omega);have c2:=hc 2 (by omega);have d0:=hc' 0 (by omega);have d1:=hc' 1 (by omega);have d2:=hc' 2 (by omega);simp [tri] at c0 c1 c2 d0 d1 d2;have hw4 : IntKind.i64.wrap ((j : Int) + 1) = j + 1:=IntWalk.i64_in _ (by omega);have HJ:=hd_ hj;have HTK:=hd_ htk;have HU:=hd_ hu;have HS:=hd_ (show l1.take (j + 1) = l1.take j ++ [l1[j]] from List.take_succ_eq_append_getElem j1);have HS2:=hd_ (show l2.take (j + 1) = l2.take j ++ [l2[j]] from List.take_succ_eq_append_getElem j2);have HX:=hd_ (fun h : l1 = l2=>(by subst h;rfl : l1[j] = l2[j]));clear hc hc' hj htk;generalize l1[j] = x at *;generalize l2[j] = y at *;obtain ⟨xa,xb,xc⟩:=x;obtain ⟨ya,yb,yc⟩:=y;simp only at c0 c1 c2 d0 d1 d2;by_cases hxy : ((xa,xb,xc) : Int × Int × Int) = (ya,yb,yc)
       . injection hxy with e1 e2
         injection e2 with e2 e3;subst e1 e2 e3;go_wp2_with fail;go_quiet (fail);go_wp2_with fail;go_roundg (gk - 1)
         case measure=>have:=HJ.out;omega
         case rel=>exact ⟨j + 1,by have:=HJ.out;omega,by go_num,by rw [HS.out,HS2.out,HTK.out],HU.out.drewN _⟩
       have hd : decide (l1 = l2) = false:=by
         simp only [decide_eq_false_iff_not];intro h;exact hxy (HX.out h)
       have HD:=hd_ hd;clear hd HX HS HS2
       have h3 : xa ≠ ya\/(xa = ya/\xb ≠ yb)\/(xa = ya/\xb = yb/\xc ≠ yc):=by
         by_cases h1 : xa = ya
         . by_cases h2 : xb = yb
           . exact .inr (.inr ⟨h1,h2,fun h=>hxy (by rw [h1,h2,h])⟩)
           exact .inr (.inl ⟨h1,h2⟩)
         exact .inl h1
       clear hxy;rcases h3 with h | ⟨rfl,h⟩ | ⟨rfl,rfl,h⟩
       . have hb : (xa == ya) = false:=by simpa using h
         go_wp2_with fail;go_quiet (fail);go_wp2_with fail;refine hR.out _ _ ⟨?_,HU.out.drewN _⟩;rw [HD.out];rfl
       . have hb : (xb == yb) = false:=by simpa using h
         go_wp2_with fail;go_quiet (fail);go_wp2_with fail;refine hR.out _ _ ⟨?_,HU.out.drewN _⟩;rw [HD.out];rfl
       (have hb : (xc == yc) = false:=by simpa using h);go_wp2_with fail;go_quiet (fail);go_wp2_with fail;refine hR.out _ _ ⟨?_,HU.out.drewN _⟩;rw [HD.out];rfl
     (obtain rfl : j = n:=by omega)
     have hd : decide (l1 = l2) = true:=by
       rw [decide_eq_true_iff,<- List.take_of_length_le (Nat.le_of_eq E1.out),htk,List.take_of_length_le (Nat.le_of_eq E2.out)]
     have HD:=hd_ hd;have HU:=hd_ hu;clear hd htk hj hu hjn;go_wp2_with fail;(try go_ret);refine hR.out _ _ ⟨?_,HU.out⟩;rw [HD.out];rfl
 (have hne : ((n : Int) != m) = true:=by simp;omega);(have hne2 : ¬ ((n : Nat) : Int) = m:=by omega)
 have hd : decide (l1 = l2) = false:=by
   simp only [decide_eq_false_iff_not];rintro rfl;omega
 rw [hd];clear h1 h2 e1 e2 hd;refine veil fun R hR=>?_;go_enter Tryz.func22,Tryz.ntmps22;go_wp2_with fail;(try go_ret);exact hR.out _ _ ⟨rfl,Upd.refl _ _⟩
theorem fit_nil25 : Fit []:=fun _ h=>by cases h
theorem RdK.alloc' {w : World} {F : Nat->Prop} {k n : Nat} {A : Option Addr} {rows : List (List Value)} (h : RdK w F k A n rows) (o : Obj) : RdK (w.alloc o) F k A n rows:=h.fresh ((Upd.refl _ _).alloc o)
theorem rdK_one {w : World} {K : Nat} {t : TypeId} {a b c : Int} (h : Blk w K t #[.int .i64 a,.int .i64 b,.int .i64 c]) : RdK w (fun _=>True) 3 (some ⟨K,0,none⟩) 1 ([(a,b,c)].map tri) :=
 ⟨rfl,fun _=>⟨K,0,rfl,trivial,h.lt,fun j r hj hr=>by
   have : j = 0:=by simp at hj;exact hj
   subst this
   rw [h.cell]
   simp [tri]⟩⟩
def mayS (s : Int × Int × Int) : Prop:=0<=s.1/\s.1<=262143/\3<=s.2.1/\s.2.1<=262146/\1<=s.2.2/\s.2.2<=134217728
instance (s : Int × Int × Int) : Decidable (mayS s):=by unfold mayS;infer_instance
theorem dec_first (F : Nat->Prop) (g : Nat) (bs : List Nat) (W : World) (h : CurAt W F g bs 0) (hF : ∀ b,F b->b ≠ g) :
   Calls Tryz.prog 18 #[.pointer (some ⟨g,0,none⟩),.agg #[.slice none 0 0,.int .i64 0,.slice none 0 0,.int .i64 0,.slice none 0 0,.int .i64 0,.slice none 0 0,.int .i64 1,.int .i64 4,.int .i64 8]] W (SecPost F g bs (decE bs 0 Tabs3.none 1 4 8) [] W) :=
 sdec_any F (fun _=>False) g bs 0 none none none none 0 0 0 0 0 0 0 0 Tabs3.none [] 1 4 8 W h hF (fun _ h=>h.elim) (Rd.nil _ _ _) (Rd.nil _ _ _) (Rd.nil _ _ _) (Rd.nil _ _ _) fit_nil25 fit_nil25 fit_nil25 (Nat.zero_le _) (Nat.zero_le _) (Nat.zero_le _) (Nat.zero_le _)
set_option maxHeartbeats 4000000 in
theorem first25_any (w : World) : Calls Tryz.prog 28 #[] w fun e w'=>e = .returned (.agg #[.slice none 0 0,.int .i64 0,.slice none 0 0,.int .i64 0,.slice none 0 0,.int .i64 0,.slice none 0 0,.int .i64 1,.int .i64 4,.int .i64 8])/\Fresh w w':=by
 refine veil fun R hR=>?_;go_enter Tryz.func28,Tryz.ntmps28;go_wp2_with fail;refine bodyPost_ret (v:=.agg #[.slice none 0 0,.int .i64 0,.slice none 0 0,.int .i64 0,.slice none 0 0,.int .i64 0,.slice none 0 0,.int .i64 1,.int .i64 4,.int .i64 8]) (results_cell_row rfl _ _ w.heap.size 32 _ _ _ rfl (Blk.new w _ _) Tryz.underlying32 rfl (by kernel_rfl)) rfl ?_;exact hR.out _ _ ⟨rfl,(Upd.refl _ _).alloc _⟩
set_option maxHeartbeats 4000000 in
theorem fails25_any (F : Nat->Prop) (A : Option Addr) (n c : Nat) (bs : List Nat) (w : World) (hr : Rd w F A n (bs.map fun b=>.int .u8 (b : Nat))) (hlt : ∀ b ∈ bs,b < 256) (hlen : bs.length<=2 ^ 32) :
   Calls Tryz.prog 31 #[.slice A n c] w fun e w'=>e = .returned (.int .i64 (decE bs 0 Tabs3.none 1 4 8).err)/\Fresh w w':=by
 have HN:=hd_ (new_any F A n c bs w hr hlt hlen);have HFI:=hd_ first25_any;have HD:=hd_ (fun F' g W h hF=>dec_first F' g bs W h hF);generalize decE bs 0 Tabs3.none 1 4 8 = S at *;clear hr hlt hlen;refine veil fun R hR=>?_;go_enter Tryz.func31,Tryz.ntmps31;go_wp2_with fail;refine HN.out.mono ?_;rintro e w1 ⟨g,rfl,hg,f1,cu⟩;have F1:=hd_ f1;have CU:=hd_ cu;have HG:=hd_ hg;clear f1 cu hg;go_wp2_with fail;refine (HFI.out _).mono ?_;rintro e w2 ⟨rfl,f2⟩;have HD2:=HD.out _ g w2 (CU.out.fresh f2) (fun b hb=>hb.2);unfold SecPost at HD2;have F2:=hd_ (F1.out.trans' f2);clear f2 HD;by_cases he : S.err = 0
 . simp only [if_pos he] at HD2
   have HD2:=hd_ HD2;go_wp2_with fail;refine HD2.out.mono ?_;rintro e w3 ⟨u3,v,D,h,i,A',n',c',B,m,d,C,k,e1,rfl,-,-,-,-,-,-,-⟩;have F3:=hd_ (F2.out.trans u3 (fun b hb e=>by have:=HG.out;omega));clear u3;go_wp2_with fail;(try go_ret);refine hR.out _ _ ⟨?_,F3.out.alloc _⟩;rw [he];rfl
 simp only [if_neg he] at HD2;have HD2:=hd_ HD2;go_wp2_with fail;refine HD2.out.mono ?_;rintro e w3 ⟨u3,rfl⟩;have F3:=hd_ (F2.out.trans u3 (fun b hb e=>by have:=HG.out;omega));clear u3;go_wp2_with fail;(try go_ret);exact hR.out _ _ ⟨rfl,F3.out.alloc _⟩
set_option maxHeartbeats 4000000 in
theorem known25_any (w : World) : Calls Tryz.prog 14 #[] w fun e w'=>e = .returned (.bool true)/\Fresh w w':=by
 have HN1:=hd_ (fun (A : Option Addr) (W : World) (h : Rd W (fun _=>True) A 1 ([0].map fun b : Nat=>Value.int .u8 (b : Nat)))=>new_any (fun _=>True) A 1 1 [0] W h (by decide) (by decide));have HN2:=hd_ (fun (A : Option Addr) (W : World) (h : Rd W (fun _=>True) A 6 ([1,21,2,0,0,1].map fun b : Nat=>Value.int .u8 (b : Nat)))=>new_any (fun _=>True) A 6 6 [1,21,2,0,0,1] W h (by decide) (by decide));have HE1:=hd_ (fun (A : Option Addr) (W : World) (h : Rd W (fun _=>True) A 1 ([1].map fun b : Nat=>Value.int .u8 (b : Nat)))=>fails25_any (fun _=>True) A 1 1 [1] W h (by decide) (by decide));have HE2:=hd_ (fun (A : Option Addr) (W : World) (h : Rd W (fun _=>True) A 2 ([1,64].map fun b : Nat=>Value.int .u8 (b : Nat)))=>fails25_any (fun _=>True) A 2 2 [1,64] W h (by decide) (by decide));rw [kn_err1] at HE1;rw [kn_err2] at HE2;have HD1:=fun F' g W h hF=>dec_first F' g [0] W h hF;have HD2:=fun F' g W h hF=>dec_first F' g [1,21,2,0,0,1] W h hF;unfold SecPost at HD1 HD2;simp only [if_pos kn_zero.1,kn_zero.2] at HD1;simp only [if_pos kn_one.1,kn_one.2] at HD2;generalize decE [0] 0 Tabs3.none 1 4 8 = S1 at *;generalize decE [1,21,2,0,0,1] 0 Tabs3.none 1 4 8 = S2 at *;have HD1:=hd_ HD1;have HD2:=hd_ HD2;have HFI:=hd_ first25_any;refine veil fun R hR=>?_;go_enter Tryz.func14,Tryz.ntmps14;go_wp2_with fail;refine (HN1.out _ _ ((Blk.new w 5 _).rds)).mono ?_;rintro e w1 ⟨g1,rfl,hg1,f1,cu1⟩;have F1:=hd_ (show Fresh w w1 from ((Upd.refl _ w).alloc _).trans' f1);(have hw1 : w.heap.size<=g1:=by have:=hg1;simp at this;omega);have HW1:=hd_ hw1;have CU1:=hd_ cu1;clear f1 hg1 hw1 cu1;go_wp2_with fail;refine (HFI.out _).mono ?_;rintro e w2 ⟨rfl,f2⟩;have HD1':=hd_ (HD1.out _ g1 w2 (CU1.out.fresh f2) (fun b hb=>hb.2));have F2:=hd_ (F1.out.trans' f2);clear f2;go_wp2_with fail;refine HD1'.out.mono ?_;rintro e w3 ⟨u3,v1,D1,h1,i1,A1,n1,c1,B1,m1,d1,C1,k1,e1,rfl,o1,-,-,-,-,-,-⟩;have F3:=hd_ (F2.out.trans u3 (fun b hb e=>by have:=HW1.out;omega));obtain ⟨Av,cv,rfl,-,-⟩:=o1.form;clear u3 o1;go_upto_region 2 with fail;obtain ⟨w4,hw4⟩:=nm_ (w3.alloc (.cells #[.slice D1 h1 i1,.int .i64 S1.tabs.lL,.slice A1 n1 c1,.int .i64 S1.tabs.lO,.slice B1 m1 d1,.int .i64 S1.tabs.lM,.slice C1 k1 e1,.int .i64 S1.a,.int .i64 S1.b,.int .i64 S1.c] 32));simp only [<- hw4];have F4:=hd_ (show Fresh w w4 by rw [hw4];exact F3.out.alloc _);clear hw4;go_wp2_with fail;refine (HN2.out _ _ ((Blk.new w4 5 _).rds)).mono ?_;rintro e w5 ⟨g5,rfl,hg5,f5,cu5⟩;have F5:=hd_ (F4.out.trans' (((Upd.refl _ w4).alloc _).trans' f5));(have hw5 : w4.heap.size<=g5:=by have:=hg5;simp at this;omega);have HW5:=hd_ hw5;have CU5:=hd_ cu5;clear f5 hg5 hw5 cu5;go_wp2_with fail;refine (HFI.out _).mono ?_;rintro e w6 ⟨rfl,f6⟩;have HD2':=hd_ (HD2.out _ g5 w6 (CU5.out.fresh f6) (fun b hb=>hb.2))
 have F6:=hd_ (F5.out.trans' f6);clear f6;go_wp2_with fail;refine HD2'.out.mono ?_;rintro e w7 ⟨u7,v7,D7,h7,i7,A7,n7,c7,B7,m7,d7,C7,k7,e7,rfl,o7,-,-,-,-,-,-⟩;have F7:=hd_ (F6.out.trans u7 (fun b hb e=>by have h1:=HW5.out;have h2:=F4.out.size;omega));obtain ⟨Ax,cx,rfl,hcx,r7⟩:=o7.form;have R7:=hd_ (r7.mono (G:=fun _=>True) fun _ _=>trivial);clear u7 o7 r7;go_upto_region 3 with fail;obtain ⟨w8,hw8⟩:=nm_ (w7.alloc (.cells #[.slice D7 h7 i7,.int .i64 S2.tabs.lL,.slice A7 n7 c7,.int .i64 S2.tabs.lO,.slice B7 m7 d7,.int .i64 S2.tabs.lM,.slice C7 k7 e7,.int .i64 S2.a,.int .i64 S2.b,.int .i64 S2.c] 32));simp only [<- hw8];(have f8 : Fresh w7 w8:=by rw [hw8];exact (Upd.refl _ _).alloc _);have F8:=hd_ (F7.out.trans' f8);have R8:=hd_ (R7.out.fresh f8);clear hw8 f8 R7;go_wp2_with fail;refine (HE1.out _ _ ((Blk.new w8 5 _).rds)).mono ?_;rintro e w9 ⟨rfl,f9⟩;have f89 : Fresh w8 w9:=((Upd.refl _ w8).alloc _).trans' f9;have F9:=hd_ (F8.out.trans' f89);have R9:=hd_ (R8.out.fresh f89);clear f9 f89 R8;go_wp2_with fail;refine (HE2.out _ _ ((Blk.new w9 5 _).rds)).mono ?_;rintro e w10 ⟨rfl,f10⟩;have f910 : Fresh w9 w10:=((Upd.refl _ w9).alloc _).trans' f10;have F10:=hd_ (F9.out.trans' f910);have R10:=hd_ (R9.out.fresh f910);clear f10 f910 R9;go_wp2_with fail;refine (same25_any _ (fun _=>True) Ax _ 1 1 cx 1 [(2,3,1)] [(2,3,1)] _ (R10.out.alloc' _) (rdK_one (Blk.new w10 23 _)) (by decide) (by decide)).mono ?_;rintro e w11 ⟨rfl,f11⟩;have F11:=hd_ (F10.out.trans' (((Upd.refl _ w10).alloc _).trans' f11));clear f11;go_wp2_with fail;(try go_ret);exact hR.out _ _ ⟨rfl,F11.out⟩
set_option maxHeartbeats 4000000 in
theorem valid25_any (a b c : Int) (w : World) (hb : -(2 ^ 63)<=b/\b < 2 ^ 63) : Calls Tryz.prog 12 #[.agg #[.int .i64 a,.int .i64 b,.int .i64 c]] w fun e w'=>e = .returned (.bool (decide (mayS (a,b,c))))/\Fresh w w':=by
 obtain ⟨q,hq⟩:=nm_ (IntKind.i64.wrap (b - 3))
 have hq2 : (0<=q/\q < 262144) ↔ (3<=b/\b<=262146):=by
   rw [hq,IntKind.wrap_i64];omega
 have h7 : (mayS (a,b,c))\/¬ 0<=a\/(0<=a/\¬ a < 262144)\/(0<=a/\a < 262144/\¬ 0<=q)\/(0<=a/\a < 262144/\0<=q/\¬ q < 262144)\/(0<=a/\a < 262144/\0<=q/\q < 262144/\¬ 1<=c)\/(0<=a/\a < 262144/\0<=q/\q < 262144/\1<=c/\¬ c<=134217728):=by
   unfold mayS;simp only;omega
 have hq3 : ∀ p : Prop,(p->¬ mayS (a,b,c))->p->decide (mayS (a,b,c)) = false:=fun p h hp=>decide_eq_false (h hp);have HD : ∀ x,decide (mayS (a,b,c)) = x->∀ w',Fresh w w'->(Ending.returned (.bool x) = Ending.returned (.bool (decide (mayS (a,b,c))))/\Fresh w w'):=fun x hx w' h=>⟨by rw [hx],h⟩;have HD:=hd_ HD;have hF : (¬ mayS (a,b,c))->decide (mayS (a,b,c)) = false:=fun h=>decide_eq_false h;have HQ:=hd_ hq2;have hqr:=hq.symm;clear hq3 hq2 hq;refine veil fun R hR=>?_;rcases h7 with h | h | ⟨h1,h⟩ | ⟨h1,h2,h⟩ | ⟨h1,h2,h3,h⟩ | ⟨h1,h2,h3,h4,h⟩ | ⟨h1,h2,h3,h4,h5,h⟩
 . have hd:=HD.out true (decide_eq_true h)
   have HD2:=hd_ hd;obtain ⟨h1,h2,h3,h4,h5,h6⟩:=h;simp only at h1 h2 h3 h4 h5 h6;(have h2' : a < 262144:=by omega);obtain ⟨h3',h4'⟩:=HQ.out.2 ⟨h3,h4⟩;clear hd HD hF h2 h3 h4 hb;go_enter Tryz.func12,Tryz.ntmps12;go_wp2_with fail;(try go_ret);exact hR.out _ _ (HD2.out _ ((Upd.refl _ _).alloc _))
 all_goals
   have hd:=HD.out false (hF (by have:=HQ.out;unfold mayS;simp only;omega));have HD2:=hd_ hd;clear hd HD hF hb;go_enter Tryz.func12,Tryz.ntmps12;go_wp2_with fail;(try go_ret);exact hR.out _ _ (HD2.out _ ((Upd.refl _ _).alloc _))
theorem results_tct {P : Program} {fn : Func} {q p u : Tmp} {ty : TypeId} (h : fn.results = #[.tmp q,.cell p ty,.tmp u]) (tmps : Array Value) (w : World) (g : Nat) (t : TypeId) (cs : Array Value) (d : TypeDesc)
   (hp : tmps.getD p undef = .pointer (some ⟨g,0,none⟩)) (hg : Blk w g t cs)
   (hu : P.underlying ty = some d) (hd : (match d with | .struct _ | .array _ _=>true | _=>false) = true) (hi : (P.info? ty).map (·.size) = some cs.size) :
   (results fn tmps).run P w = .ok (.tuple #[tmps.getD q undef,.agg cs,tmps.getD u undef]) w:=by
 (have hp' : tmps[p]?.getD undef = .pointer (some ⟨g,0,none⟩):=by simpa using hp);simp only [results,h];simp [Sem.run_bind,hp',asAddr,run_loadVar_row w g t ty cs (0,0) d hg hu hd hi,Result.andThen]
theorem infoTold : (Tryz.prog.info? 154).map (fun i=>(i.zero,i.size,i.bytes)) = some (some (.agg #[.int .i64 0,.int .u64 0,.int .i64 0,.int .u64 0,.int .i64 0,.int .u64 0]),6,48):=by kernel_rfl
def codA (x : RawN) (i : Nat) : Array Value:=#[.int .i64 (if 0 < i then (x.cL : Nat) else 0 : Nat),.int .u64 (if 0 < i then (x.rL : Nat) else 0 : Nat),.int .i64 (if 1 < i then (x.cO : Nat) else 0 : Nat),.int .u64 (if 1 < i then (x.rO : Nat) else 0 : Nat),.int .i64 (if 2 < i then (x.cM : Nat) else 0 : Nat),.int .u64 (if 2 < i then (x.rM : Nat) else 0 : Nat)]
def codC (x : RawN) : List Value:=[.int .i64 (x.cL : Nat),.int .u64 (x.rL : Nat),.int .i64 (x.cO : Nat),.int .u64 (x.rO : Nat),.int .i64 (x.cM : Nat),.int .u64 (x.rM : Nat)]
def partsV : Array Value:=#[.func (.func 112) #[] #[],.func (.func 113) #[] #[],.func (.func 114) #[] #[],.func (.func 115) #[] #[],.func (.func 116) #[] #[],.func (.func 117) #[] #[],.func (.func 112) #[] #[],.func (.func 113) #[] #[],.func (.func 114) #[] #[]]
def CodedPost (a b c : Int) (l : List (Int × Int × Int)) (w : World) (e : Ending) (w' : World) : Prop :=
  Fresh w w'/\if ∀ s ∈ l,mayS s then ∃ v,e = .returned (.tuple #[v,.agg #[.int .i64 (codN a b c l).1,.int .i64 (codN a b c l).2.1,.int .i64 (codN a b c l).2.2],.int .i64 0])/\OwnK w' 154 6 v ((codR a b c l).map codC)/\(∀ b,v.ownBlock = some b->w.heap.size<=b)
  else ∃ x y z : Int,e = .returned (.tuple #[.slice none 0 0,.agg #[.int .i64 x,.int .i64 y,.int .i64 z],.int .i64 2])
set_option maxHeartbeats 8000000 in
theorem coded_any (F : Nat->Prop) (A : Option Addr) (n d : Nat) (a b c : Int) (l : List (Int × Int × Int)) (w : World) (h : RdK w F 3 A n (l.map tri)) (hfit : ∀ s ∈ l,-(2 ^ 63)<=s.2.1/\s.2.1 < 2 ^ 63) (hn : n<=65536) (hr : repOk a b c = true) :
   Calls Tryz.prog 45 #[.slice A n d,.agg #[.int .i64 a,.int .i64 b,.int .i64 c]] w (CodedPost a b c l w):=by
 (have hl : l.length = n:=by have:=h.1;simpa using this);obtain ⟨w0,hw0⟩:=nm_ ((w.alloc (.cells #[.int .i64 a,.int .i64 b,.int .i64 c] 30)).alloc (.cells #[.int .i64 0,.int .i64 0,.int .i64 0] 30));obtain ⟨H,hH⟩:=nm_ (w.heap.size);(have f0 : Fresh w w0:=by rw [hw0];exact ((Upd.refl _ _).alloc _).alloc _);(have ba : Blk w0 H 30 #[.int .i64 a,.int .i64 b,.int .i64 c]:=by rw [hw0];exact (blk_new hH _ _).alloc _);(have br : Blk w0 (H + 1) 30 #[.int .i64 0,.int .i64 0,.int .i64 0]:=by rw [hw0];exact blk_new (by simp [hH]) _ _);(have hs0 : w0.heap.size = H + 2:=by rw [hw0,hH];simp);have HPA:=hd_ parts_any;have HVA:=hd_ valid25_any;have HRV:=hd_ rvalue_any;have HSP:=hd_ split_any;have HSO:=hd_ splitOffset_any;have HL:=hd_ hl;have HRD:=hd_ (fun W (hW : Upd (fun b=>b = H\/b = H + 1) w W)=>h.both.upd hW (fun b hb hf e=>by have:=hf.2;omega));have HF0:=hd_ f0;have HBA:=hd_ ba;have HBR:=hd_ br;have HS0:=hd_ hs0;have HW:=hd_ hw0;have HH:=hd_ hH;have HFT:=hd_ hfit;have HRO:=hd_ hr;clear hl h f0 ba br hs0 hw0 hH hfit hr;refine veil fun R hR=>?_;go_enter Tryz.func45,Tryz.ntmps45;go_upto_region 1 with fail;simp only [<- HH.out,<- HW.out];go_wp2_with fail;refine (HPA.out _).mono ?_;rintro e w1 ⟨rfl,f1⟩;go_wp2_with fail;obtain ⟨K,hK⟩:=nm_ (w1.heap.size);obtain ⟨w2,hw2⟩:=nm_ (w1.alloc (.cells partsV 149));have hpv : partsV = #[.func (.func 112) #[] #[],.func (.func 113) #[] #[],.func (.func 114) #[] #[],.func (.func 115) #[] #[],.func (.func 116) #[] #[],.func (.func 117) #[] #[],.func (.func 112) #[] #[],.func (.func 113) #[] #[],.func (.func 114) #[] #[]]:=rfl;simp only [<- hpv,<- hK,<- hw2];(have f2 : Fresh w1 w2:=by rw [hw2];exact (Upd.refl _ _).alloc _);have f02:=f1.trans' f2;have HQ2:=hd_ (show Blk w2 K 149 partsV by rw [hw2];exact blk_new hK _ _);have HA2:=hd_ (HBA.out.fresh f02);have HR2:=hd_ (HBR.out.fresh f02);have HF2:=hd_ (HF0.out.trans' f02);have HK2:=hd_ (show w2.heap.size = K + 1 by rw [hw2,hK];simp);have HKH:=hd_ (show H + 2<=K by rw [hK];have:=f1.size;have:=HS0.out;omega);clear f1 f2 f02 hK hw2 hpv HBA HBR HF0
 go_loopg [4,19] n (fun f v vi wr=>∃ (j : Nat) (x y z : Int) (outs : List RawN),j + f = n/\vi = .int .i64 j/\repOk x y z = true/\outs.length = j/\outs ++ codR x y z (l.drop j) = codR a b c l/\codN x y z (l.drop j) = codN a b c l /\
   ((∀ s ∈ l,mayS s) ↔ ∀ s ∈ l.drop j,mayS s)/\OwnK wr 154 6 v (outs.map codC)/\(∀ b,v.ownBlock = some b->K + 1<=b)/\Upd (fun b=>b = H) w2 wr/\Blk wr H 30 #[.int .i64 x,.int .i64 y,.int .i64 z])
 case atStart=>exact ⟨0,a,b,c,[],by omega,rfl,HRO.out,rfl,by simp,by simp,by simp,OwnK.nil _ _ _,fun b h=>by simp [Value.ownBlock] at h,Upd.refl _ _,HA2.out⟩
 case round =>
   obtain ⟨j,x,y,z,outs,hjf,rfl,hro,hol,hc1,hc2,hmay,hov,hvb,hu,hb⟩:=hrel;have HU:=hd_ hu;have HB:=hd_ hb;have HOV:=hd_ hov;have HVB:=hd_ hvb;have HC1:=hd_ hc1;have HC2:=hd_ hc2;have HMAY:=hd_ hmay;have HRO':=hd_ hro;have HOL:=hd_ hol;have hrr:=HR2.out.upd hu (by omega);have HRR:=hd_ hrr;have q2:=HQ2.out.upd hu (by have:=HKH.out;omega);have HQ:=hd_ q2;have HUW:=hd_ (show Upd (fun b=>b = H\/b = H + 1) w wr from (HF2.out.mono fun _ _ h=>h.elim).trans' (hu.mono fun _ _ h=>.inl h));have HKW:=hd_ (show K + 1<=wr.heap.size by have:=hu.size;have:=HK2.out;omega);clear hu hb hc1 hc2 hmay hro hol hrr q2 hvb;have HJ:=hd_ hjf;by_cases hjn : j < n
   . have hjI : (j : Int) < n:=by omega
     have hw4 : IntKind.i64.wrap ((j : Int) + 1) = j + 1:=IntWalk.i64_in _ (by omega);(have hjl : j < l.length:=by rw [HL.out];exact hjn);obtain ⟨b,o,rfl,_,_,hc⟩:=(HRD.out wr HUW.out).at_ (r:=0) hjn;rw [List.getElem_map] at hc;have c0:=hc 0 (by omega);have c1:=hc 1 (by omega);have c2:=hc 2 (by omega);simp [tri] at c0 c1 c2;have hdr : l.drop j = l[j] :: l.drop (j + 1):=List.drop_eq_getElem_cons hjl;have hft:=HFT.out l[j] (List.getElem_mem hjl);have HDR:=hd_ hdr;clear hdr hc;generalize l[j] = s at *;obtain ⟨sa,sb,sc⟩:=s;simp only at c0 c1 c2 hft;have HV:=hd_ (fun W=>HVA.out sa sb sc W hft);go_upto_region 2 with fail;obtain ⟨w3,hw3⟩:=nm_ (wr.alloc (.cells #[.int .i64 sa,.int .i64 sb,.int .i64 sc] 23));obtain ⟨X,hX⟩:=nm_ (wr.heap.size);have hX':=hX;have hw3':=hw3;simp only [<- hX',<- hw3'];(have f3 : Fresh wr w3:=by rw [hw3];exact (Upd.refl _ _).alloc _);(have hbs : Blk w3 X 23 #[.int .i64 sa,.int .i64 sb,.int .i64 sc]:=by rw [hw3];exact blk_new hX _ _);have HX:=hd_ (show K + 1<=X/\w3.heap.size = X + 1/\X = wr.heap.size by rw [hw3,hX];exact ⟨HKW.out,by simp,rfl⟩);have HVX:=hd_ (fun b (hb : u4.ownBlock = some b)=>(show K + 1<=b/\b < X from ⟨HVB.out b hb,by rw [hX];exact HOV.out.lt hb⟩));have HF3:=hd_ f3;have HBS:=hd_ hbs;clear f3 hbs hw3 hX hX' hw3' c0 c1 c2;refine (HV.out _).mono ?_;rintro e w4 ⟨rfl,f4⟩;have f34:=HF3.out.trans' f4;have s4:=HBS.out.fresh f4;have b4:=HB.out.fresh f34;have r4:=HRR.out.fresh f34;have HF4:=hd_ f34;have HS4:=hd_ s4;have HB4:=hd_ b4;have HR4:=hd_ r4;have hz4 : X < w4.heap.size:=s4.lt;have HX4:=hd_ hz4;have a0:=b4.cell 0;have a1:=b4.cell 1;have a2:=b4.cell 2;have d0:=s4.cell 0;have d1:=s4.cell 1;have d2:=s4.cell 2;simp at a0 a1 a2 d0 d1 d2;clear f4 f34 s4 b4 r4 hz4 HBS HB HRR;by_cases hms : mayS (sa,sb,sc)
     . rw [decide_eq_true hms]
       have hok : okS (sa,sb,sc):=hms;have HMS:=hd_ hms;obtain ⟨m1,m2,m3,m4,m5,m6⟩:=hms;simp only at m1 m2 m3 m4 m5 m6;have hvr:=valV_range (a:=x) (b:=y) (c:=z) (lit:=sa) ⟨m5,m6⟩;have HVL:=hd_ (HRV.out x y z sa sb sc);have HXO:=hd_ (codS_ok (a:=x) (b:=y) (c:=z) hok);have HNX:=hd_ (nxtS_ok HRO'.out hok);obtain ⟨lt,rfl⟩ : ∃ lt : Nat,sa = lt:=⟨sa.toNat,by omega⟩;obtain ⟨ln,rfl⟩ : ∃ ln : Nat,sb = ln:=⟨sb.toNat,by omega⟩;(have hcd : codS x y z ((lt : Int),(ln : Int),sc) = ⟨lt,ln,(valV x y z lt sc).toNat⟩:=by unfold codS;simp);have hnx : nxtS x y z ((lt : Int),(ln : Int),sc) = nextR x y z lt (valV x y z lt sc):=rfl;have HCR:=hd_ (show codR x y z (l.drop j) = codS x y z ((lt : Int),(ln : Int),sc) :: codR (nxtS x y z ((lt : Int),(ln : Int),sc)).1 (nxtS x y z ((lt : Int),(ln : Int),sc)).2.1 (nxtS x y z ((lt : Int),(ln : Int),sc)).2.2 (l.drop (j + 1)) by rw [HDR.out];rfl);have HCN:=hd_ (show codN x y z (l.drop j) = codN (nxtS x y z ((lt : Int),(ln : Int),sc)).1 (nxtS x y z ((lt : Int),(ln : Int),sc)).2.1 (nxtS x y z ((lt : Int),(ln : Int),sc)).2.2 (l.drop (j + 1)) by rw [HDR.out];rfl);obtain ⟨vn,hvn⟩ : ∃ vn : Nat,valV x y z lt sc = vn:=⟨(valV x y z lt sc).toNat,by omega⟩;rw [hvn] at hcd hnx hvr HVL;rw [Int.toNat_natCast] at hcd;rw [<- hnx] at HVL;obtain ⟨rx,hrx⟩:=nm_ (codS x y z ((lt : Int),(ln : Int),sc));rw [<- hrx] at HXO HCR hcd;generalize nxtS x y z ((lt : Int),(ln : Int),sc) = nx at *;have HRX:=hd_ hcd;have HV4:=hd_ (HVL.out w4 HRO'.out (by omega) ⟨m5,m6⟩);(have s3 : IntKind.i64.wrap ((ln : Int) - 3) = ((ln - 3 : Nat) : Int):=by rw [IntWalk.i64_in _ (by omega)];omega);clear hcd hrx hnx hvn hok hvr HV HVL;go_wp2_with fail;refine HV4.out.mono ?_;rintro e w5 ⟨rfl,f5⟩;have f5':=HF4.out.trans' f5;have s5:=HS4.out.fresh f5;have b5:=HB4.out.fresh f5;have HF5:=hd_ f5';have HS5:=hd_ s5;have HB5:=hd_ b5;have HR5:=hd_ (HR4.out.fresh f5);clear f5 f5' s5 b5 HS4 HB4 a0 a1 a2 d0 d1 d2;go_upto_region 8 with fail;obtain ⟨w6,hw6⟩:=nm_ (w5.alloc (.cells #[.int .i64 nx.1,.int .i64 nx.2.1,.int .i64 nx.2.2] 30));obtain ⟨Y,hY⟩:=nm_ (w5.heap.size);simp only [<- hY,<- hw6];(have f6 : Fresh w5 w6:=by rw [hw6];exact (Upd.refl _ _).alloc _);(have n6 : Blk w6 Y 30 #[.int .i64 nx.1,.int .i64 nx.2.1,.int .i64 nx.2.2]:=by rw [hw6];exact blk_new hY _ _);have b6:=HB5.out.fresh f6;have g0:=b6.cell 0;have g1:=b6.cell 1;have g2:=b6.cell 2;have y0:=b6.frozen 0;have y1:=b6.frozen 1;have y2:=b6.frozen 2;have e0:=n6.cell 0;have e1:=n6.cell 1;have e2:=n6.cell 2;simp at g0 g1 g2 e0 e1 e2;have HF6:=hd_ (HF5.out.trans' f6);have HS6:=hd_ (HS5.out.fresh f6);have HB6:=hd_ b6;have HR6:=hd_ (HR5.out.fresh f6);clear hw6 hY f6 n6 b6 HF5 HS5 HB5 HR5;go_upto_region 11 with fail;have hb7:=((HB6.out.set_ 0 (.int .i64 nx.1)).set_ 1 (.int .i64 nx.2.1)).set_ 2 (.int .i64 nx.2.2);obtain ⟨w7,hw7⟩:=nm_ (((w6.setCell ⟨H,0,none⟩ (.int .i64 nx.1)).setCell ⟨H,1,none⟩ (.int .i64 nx.2.1)).setCell ⟨H,2,none⟩ (.int .i64 nx.2.2))
       simp only [<- hw7];rw [<- hw7] at hb7
       have u7 : Upd (fun b=>b = H) w6 w7:=by
         rw [hw7];exact (((Upd.refl (fun b=>b = H) w6).setCell (p:=⟨H,0,none⟩) (fun _=>rfl) _).setCell (p:=⟨H,1,none⟩) (fun _=>rfl) _).setCell (p:=⟨H,2,none⟩) (fun _=>rfl) _
       (have hXH : X ≠ H:=by have:=HX.out;have:=HKH.out;omega);have HS7:=hd_ (HS6.out.upd u7 hXH);have HR7:=hd_ (HR6.out.upd u7 (by omega));have HB7:=hd_ (show Blk w7 H 30 #[.int .i64 nx.1,.int .i64 nx.2.1,.int .i64 nx.2.2] by simpa using hb7);have HU7:=hd_ ((HF6.out.mono (T:=fun b=>b = H) fun _ _ h=>h.elim).trans' u7);clear hw7 u7 hb7 g0 g1 g2 y0 y1 y2 e0 e1 e2 HB6 HS6 HR6 HF6;go_upto_region 12 with fail;obtain ⟨w8,hw8⟩:=nm_ (w7.alloc (.cells #[.int .i64 0,.int .u64 0,.int .i64 0,.int .u64 0,.int .i64 0,.int .u64 0] 154));obtain ⟨Z,hZ⟩:=nm_ (w7.heap.size);simp only [<- hZ,<- hw8];(have f8 : Fresh w7 w8:=by rw [hw8];exact (Upd.refl _ _).alloc _);have HZ8:=hd_ (show Blk w8 Z 154 (codA rx 0) by rw [hw8];exact blk_new hZ _ _);have HS8:=hd_ (HS7.out.fresh f8);have HB8:=hd_ (HB7.out.fresh f8);have HR8:=hd_ (HR7.out.fresh f8);have HU8:=hd_ (HU7.out.trans' (f8.mono (T:=fun b=>b = H) fun _ _ h=>h.elim));have HQ8:=hd_ (HQ.out.upd HU8.out (by have:=HKH.out;omega));have HZN:=hd_ (show X < Z/\K + 1<=X by have h1:=HS7.out.lt;have h2:=HX.out;omega);have HZS:=hd_ (show w8.heap.size = Z + 1 by rw [hw8,hZ];simp);obtain ⟨d0,d1⟩:=(HS8.out).cells2;have HQL:=hd_ (fun W=>(HSP.out lt W (by omega)));have HQO:=hd_ (fun W=>(HSO.out vn W (by have:=HXO.out;rw [HRX.out] at this;exact this.2.2.2.1) (by have:=HXO.out;rw [HRX.out] at this;exact this.2.2.2.2)));have HQM:=hd_ (fun W=>(HSP.out (ln - 3) W (by omega)));(have q1 : codeL lt = rx.cL/\lt - firstL rx.cL = rx.rL:=by rw [HRX.out];exact ⟨rfl,rfl⟩);(have q2 : codeO vn = rx.cO/\vn - 2 ^ rx.cO = rx.rO:=by rw [HRX.out];exact ⟨rfl,rfl⟩);(have q3 : codeL (ln - 3) = rx.cM/\(ln - 3) - firstL rx.cM = rx.rM:=by rw [HRX.out];exact ⟨rfl,rfl⟩);simp only [q1.2,q1.1] at HQL;simp only [q2.2,q2.1] at HQO;simp only [q3.2,q3.1] at HQM;(have hi0 : ∀ W,(Instr.index 30 (.agg #[.int .i64 (lt : Nat),.int .i64 (vn : Nat),.int .i64 (ln - 3 : Nat)]) (.int .i64 0)).run Tryz.prog W = .ok (.int .i64 (lt : Nat)) W:=fun _=>by kernel_rfl);(have hi1 : ∀ W,(Instr.index 30 (.agg #[.int .i64 (lt : Nat),.int .i64 (vn : Nat),.int .i64 (ln - 3 : Nat)]) (.int .i64 1)).run Tryz.prog W = .ok (.int .i64 (vn : Nat)) W:=fun _=>by kernel_rfl);(have hi2 : ∀ W,(Instr.index 30 (.agg #[.int .i64 (lt : Nat),.int .i64 (vn : Nat),.int .i64 (ln - 3 : Nat)]) (.int .i64 2)).run Tryz.prog W = .ok (.int .i64 (ln - 3 : Nat)) W:=fun _=>by kernel_rfl);clear q1 q2 q3 hw8 hZ f8 HB7 HS7 HR7 HU7 hXH HQ HSP HSO;go_wp2_with fail;clear d0 d1;obtain ⟨gq,rfl⟩ : ∃ q,q = gk:=⟨gk,rfl⟩;obtain ⟨vo,rfl⟩ : ∃ q,q = u4:=⟨u4,rfl⟩;obtain ⟨wo,rfl⟩ : ∃ q : World,q = wr:=⟨wr,rfl⟩;go_loopg [4,12,46] 3 (fun f vv ve vi wr=>∃ (i : Nat),i + f = 3/\vi = .int .i64 i/\ve = .int .i64 0/\vv = vo/\Upd (fun b=>b = Z) w8 wr/\Blk wr Z 154 (codA rx i))
       case atStart=>exact ⟨0,rfl,rfl,rfl,rfl,Upd.refl _ _,HZ8.out⟩
       case round =>
         obtain ⟨i,hif,rfl,rfl,rfl,hu,hbz⟩:=hrel;have HUZ:=hd_ hu;have HBZ:=hd_ hbz;have qq:=HQ8.out.upd hu (by have:=HZN.out;omega);have p0:=qq.cell 0;have p1:=qq.cell 3;have p2:=qq.cell 6;simp [partsV] at p0 p1 p2;clear hu hbz qq;(have h4 : i = 0\/i = 1\/i = 2\/i = 3:=by omega);rcases h4 with rfl | rfl | rfl | rfl
         . obtain rfl : gk = 3:=by omega
           go_wp2_with fail;refine (HQL.out _).mono ?_;rintro e w9 ⟨rfl,f9⟩;have b9:=HBZ.out.fresh f9;have k0:=b9.cell 0;have k1:=b9.cell 1;have z0:=b9.frozen 0;have z1:=b9.frozen 1;simp [codA] at k0 k1;have HB9:=hd_ b9;have HU9:=hd_ (HUZ.out.trans' (f9.mono (T:=fun b=>b = Z) fun _ _ h=>h.elim));clear f9 b9 p0 p1 p2;go_wp2_with fail;go_roundg 2
           case measure=>omega
           case rel =>
             refine ⟨1,rfl,by go_num,rfl,rfl,(HU9.out.setCell (p:=⟨Z,0,none⟩) (fun _=>rfl) _).setCell (p:=⟨Z,1,none⟩) (fun _=>rfl) _,?_⟩;have h:=(HB9.out.set_ 0 (.int .i64 (rx.cL : Nat))).set_ 1 (.int .u64 (rx.rL : Nat));(have e : ((codA rx 0).setIfInBounds 0 (.int .i64 (rx.cL : Nat))).setIfInBounds 1 (.int .u64 (rx.rL : Nat)) = codA rx 1:=by simp [codA]);rw [e] at h;exact h
         . obtain rfl : gk = 2:=by omega
           go_wp2_with fail;refine (HQO.out _).mono ?_;rintro e w9 ⟨rfl,f9⟩;have b9:=HBZ.out.fresh f9;have k0:=b9.cell 2;have k1:=b9.cell 3;have z0:=b9.frozen 2;have z1:=b9.frozen 3;simp [codA] at k0 k1;have HB9:=hd_ b9;have HU9:=hd_ (HUZ.out.trans' (f9.mono (T:=fun b=>b = Z) fun _ _ h=>h.elim));clear f9 b9 p0 p1 p2;go_wp2_with fail;go_roundg 1
           case measure=>omega
           case rel =>
             refine ⟨2,rfl,by go_num,rfl,rfl,(HU9.out.setCell (p:=⟨Z,2,none⟩) (fun _=>rfl) _).setCell (p:=⟨Z,3,none⟩) (fun _=>rfl) _,?_⟩;have h:=(HB9.out.set_ 2 (.int .i64 (rx.cO : Nat))).set_ 3 (.int .u64 (rx.rO : Nat));(have e : ((codA rx 1).setIfInBounds 2 (.int .i64 (rx.cO : Nat))).setIfInBounds 3 (.int .u64 (rx.rO : Nat)) = codA rx 2:=by simp [codA]);rw [e] at h;exact h
         . obtain rfl : gk = 1:=by omega
           go_wp2_with fail;refine (HQM.out _).mono ?_;rintro e w9 ⟨rfl,f9⟩;have b9:=HBZ.out.fresh f9;have k0:=b9.cell 4;have k1:=b9.cell 5;have z0:=b9.frozen 4;have z1:=b9.frozen 5;simp [codA] at k0 k1;have HB9:=hd_ b9;have HU9:=hd_ (HUZ.out.trans' (f9.mono (T:=fun b=>b = Z) fun _ _ h=>h.elim));clear f9 b9 p0 p1 p2;go_wp2_with fail;go_roundg 0
           case measure=>omega
           case rel =>
             refine ⟨3,rfl,by go_num,rfl,rfl,(HU9.out.setCell (p:=⟨Z,4,none⟩) (fun _=>rfl) _).setCell (p:=⟨Z,5,none⟩) (fun _=>rfl) _,?_⟩;have h:=(HB9.out.set_ 4 (.int .i64 (rx.cM : Nat))).set_ 5 (.int .u64 (rx.rM : Nat));(have e : ((codA rx 2).setIfInBounds 4 (.int .i64 (rx.cM : Nat))).setIfInBounds 5 (.int .u64 (rx.rM : Nat)) = codA rx 3:=by simp [codA]);rw [e] at h;exact h
         (obtain rfl : gk = 0:=by omega);have hbz3 : Blk wr Z 154 (codC rx).toArray:=HBZ.out;have o3:=(HOV.out.upd HU8.out (fun b hb e=>by have:=HVX.out b hb;have:=HKH.out;omega)).upd HUZ.out (fun b hb e=>by have:=HVX.out b hb;have:=HZN.out;omega);have t0:=hbz3.cell 0;have t1:=hbz3.cell 1;have t2:=hbz3.cell 2;have t3:=hbz3.cell 3;have t4:=hbz3.cell 4;have t5:=hbz3.cell 5;simp [codC] at t0 t1 t2 t3 t4 t5;(have hrl : (outs.map codC).length<=2 ^ 30:=by have:=HOL.out;have:=HJ.out;simp;omega);have O3:=hd_ o3;clear p0 p1 p2 hbz3 o3;go_wp2_with (at_builtin;go_must (refine wpList_app_row _ rfl (.tmp 71) (.tmp 73) _ rfl 154 _ 6 48 Tryz.underlying88 infoTold rfl (by omega) (by omega) u4 _ rfl (O3.out.alloc _) wr.heap.size 1 (codC rx) rfl (by simp [codC,Value.oneCell']) rfl (Blk.new _ _ _) hrl ?_);intro g10 c10 w10 o10 g10u a10 l10);(have er : outs.map codC ++ [codC rx] = (outs ++ [rx]).map codC:=by simp);(have el : (outs.map codC).length + 1 = outs.length + 1:=by simp);rw [er,el] at o10;(have hvn : ∀ b,u4.ownBlock = some b->b ≠ H/\K + 1<=b:=fun b hb=>by have:=HVX.out b hb;have:=HKH.out;omega);have b10:=((HB8.out.upd HUZ.out (by have:=HZN.out;have:=HKH.out;omega)).alloc (.cells (codC rx).toArray 154)).grown g10u (fun h=>(hvn _ h).1 rfl);have u10 : Upd (fun b=>b = H) w2 w10:=(((HU.out.trans' HU8.out).trans HUZ.out (fun b hb e=>by have:=HZN.out;have:=HK2.out;omega)).alloc _).grown g10u (fun k hk hlt=>by have:=hvn k hk;have:=HK2.out;omega)
         have hvb10 : ∀ b,(Value.slice (some ⟨g10,0,none⟩) (outs.length + 1) c10).ownBlock = some b->K + 1<=b:=by
           intro b hb;injection hb with hb;have hb' : g10 = b:=hb;rcases a10 with h | h
           . have:=hvn _ h;omega
           have h1:=u10.size;simp at h;have h2:=HZN.out;have h3:=HUZ.out.size;have h4:=HZS.out;omega
         have HO10:=hd_ o10;have HB10:=hd_ b10;have HU10:=hd_ u10;have HVB10:=hd_ hvb10;clear er el o10 b10 u10 hvb10 hvn a10 l10 g10u t0 t1 t2 t3 t4 t5;go_roundg (gq - 1)
         case measure=>omega
         case rel =>
           refine ⟨j + 1,nx.1,nx.2.1,nx.2.2,outs ++ [rx],by have:=HJ.out;omega,by go_num,HNX.out,by have:=HOL.out;simp;omega,?_,?_,?_,HO10.out,HVB10.out,HU10.out,HB10.out⟩
           . rw [<- HC1.out,HCR.out];simp
           . rw [<- HC2.out,HCN.out]
           rw [HMAY.out,HDR.out];constructor
           . intro h s hs
             exact h s (List.mem_cons_of_mem _ hs)
           intro h s hs;rcases List.mem_cons.1 hs with rfl | hs
           . exact HMS.out
           exact h s hs
     rw [decide_eq_false hms];have e0:=HR4.out.cell 0;have e1:=HR4.out.cell 1;have e2:=HR4.out.cell 2;have z0:=HR4.out.frozen 0;have z1:=HR4.out.frozen 1;have z2:=HR4.out.frozen 2;simp at e0 e1 e2
     have hno : ¬ ∀ s ∈ l,mayS s:=by
       rw [HMAY.out,HDR.out];intro h;exact hms (h _ (by simp))
     go_wp2_with fail;go_region;(all_goals go_wp2_with fail)
     all_goals
       have BR5 : Blk (((w4.setCell ⟨H + 1,0,none⟩ (.int .i64 x)).setCell ⟨H + 1,1,none⟩ (.int .i64 y)).setCell ⟨H + 1,2,none⟩ (.int .i64 z)).drew (H + 1) 30 #[.int .i64 x,.int .i64 y,.int .i64 z]:=by
         have h:=((HR4.out.set_ 0 (.int .i64 x)).set_ 1 (.int .i64 y)).set_ 2 (.int .i64 z);simpa using h.drew
       refine bodyPost_ret (results_tct rfl _ _ (H + 1) _ _ _ rfl BR5 Tryz.underlying30 rfl (by kernel_rfl)) rfl ?_;refine hR.out _ _ ⟨?_,?_⟩
       . have u5 : Upd (fun b=>b = H\/b = H + 1) w (((w4.setCell ⟨H + 1,0,none⟩ (.int .i64 x)).setCell ⟨H + 1,1,none⟩ (.int .i64 y)).setCell ⟨H + 1,2,none⟩ (.int .i64 z)).drew :=
           ((((HUW.out.trans' (HF4.out.mono fun _ _ h=>h.elim)).setCell (p:=⟨H + 1,0,none⟩) (fun _=>.inr rfl) _).setCell (p:=⟨H + 1,1,none⟩) (fun _=>.inr rfl) _).setCell (p:=⟨H + 1,2,none⟩) (fun _=>.inr rfl) _).drew
         (exact u5.mono fun b hb h=>by have:=HH.out;omega)
       rw [if_neg hno];exact ⟨x,y,z,rfl⟩
   (obtain rfl : j = n:=by omega);have hdn : l.drop j = []:=List.drop_of_length_le (by rw [HL.out];exact Nat.le_refl _);(have hyes : ∀ s ∈ l,mayS s:=by rw [HMAY.out,hdn];intro s hs;cases hs);(have hco : outs = codR a b c l:=by have:=HC1.out;rw [hdn] at this;simpa [codR] using this);(have hcn : codN a b c l = (x,y,z):=by have:=HC2.out;rw [hdn] at this;exact this.symm);have a0:=HB.out.cell 0;have a1:=HB.out.cell 1;have a2:=HB.out.cell 2;have e0:=HRR.out.cell 0;have e1:=HRR.out.cell 1;have e2:=HRR.out.cell 2;have z0:=HRR.out.frozen 0;have z1:=HRR.out.frozen 1;have z2:=HRR.out.frozen 2;simp at a0 a1 a2 e0 e1 e2;clear hdn;go_wp2_with fail;go_region;(all_goals go_wp2_with fail)
   all_goals
     have BR5 : Blk (((wr.setCell ⟨H + 1,0,none⟩ (.int .i64 x)).setCell ⟨H + 1,1,none⟩ (.int .i64 y)).setCell ⟨H + 1,2,none⟩ (.int .i64 z)).drew (H + 1) 30 #[.int .i64 x,.int .i64 y,.int .i64 z]:=by
       have h:=((HRR.out.set_ 0 (.int .i64 x)).set_ 1 (.int .i64 y)).set_ 2 (.int .i64 z);simpa using h.drew
     refine bodyPost_ret (results_tct rfl _ _ (H + 1) _ _ _ rfl BR5 Tryz.underlying30 rfl (by kernel_rfl)) rfl ?_
     have u5 : Upd (fun b=>b = H + 1) wr (((wr.setCell ⟨H + 1,0,none⟩ (.int .i64 x)).setCell ⟨H + 1,1,none⟩ (.int .i64 y)).setCell ⟨H + 1,2,none⟩ (.int .i64 z)).drew :=
       ((((Upd.refl (fun b=>b = H + 1) wr).setCell (p:=⟨H + 1,0,none⟩) (fun _=>rfl) _).setCell (p:=⟨H + 1,1,none⟩) (fun _=>rfl) _).setCell (p:=⟨H + 1,2,none⟩) (fun _=>rfl) _).drew
     refine hR.out _ _ ⟨?_,?_⟩
     . exact (HUW.out.trans u5 (fun b hb h=>.inr h)).mono fun b hb h=>by have:=HH.out;omega
     rw [if_pos hyes];exact ⟨u4,by rw [hcn];rfl,by rw [<- hco];exact HOV.out.upd u5 (fun b hb e=>by have:=HVB.out b hb;have:=HKH.out;omega),fun b hb=>by have:=HVB.out b hb;have:=HKH.out;have:=HH.out;omega⟩
end Go.Proofs.YtjfdaphjijfieaaGreat
namespace Go.Proofs.YtjfdaphjijfieaaGreat
open Go.RowKit Go.Shelf
attribute [local go_sem] Oper.semAt_some
def KeepsB (Kb : Nat->Prop) (W W' : World) : Prop:=∀ k,Kb k->W'.heap[k]? = W.heap[k]?
theorem KeepsB.refl (Kb : Nat->Prop) (W : World) : KeepsB Kb W W:=fun _ _=>rfl
theorem KeepsB.trans {Kb : Nat->Prop} {A B C : World} (h : KeepsB Kb A B) (k : KeepsB Kb B C) : KeepsB Kb A C:=fun j hj=>(k j hj).trans (h j hj)
theorem KeepsB.upd {S Kb : Nat->Prop} {W W' : World} (h : Upd S W W') (hs : ∀ k,Kb k->k < W.heap.size/\¬ S k) : KeepsB Kb W W':=fun k hk=>h.block k (hs k hk).1 (hs k hk).2
theorem KeepsB.putObj {Kb : Nat->Prop} {l : Nat} (W : World) (o' : Obj) (h : ∀ k,Kb k->k < W.heap.size/\k ≠ l) : KeepsB Kb W (W.putObj l o') :=
 KeepsB.upd (S:=fun k=>k = l) ((Upd.refl _ W).grown (grownBy_putObj' W l o') (fun k e _=>by injection e with e;exact e.symm)) h
theorem KeepsB.cell {Kb : Nat->Prop} {W W' : World} (h : KeepsB Kb W W') {b : Nat} (hb : Kb b) (o : Nat) : W'.cell? ⟨b,o,none⟩ = W.cell? ⟨b,o,none⟩:=World.cell?_of_block (a:=⟨b,o,none⟩) (h b hb)
section
variable {Pq : Nat × RawN->Prop}
def bkP (l : List RawN) (hq : ∀ (j : Nat) (h : j < l.length),Pq (j,l[j])) (k : Nat) : List { p : Nat × RawN // Pq p } :=
  (((List.finRange l.length).drop k).map fun j=>⟨(j.val,l[j.val]),hq j.val j.isLt⟩).reverse
theorem bkP_all (l : List RawN) (hq : ∀ (j : Nat) (h : j < l.length),Pq (j,l[j])) : bkP l hq l.length = []:=by
 unfold bkP;rw [List.drop_of_length_le (by simp)];rfl
theorem bkP_step (l : List RawN) (hq : ∀ (j : Nat) (h : j < l.length),Pq (j,l[j])) (k : Nat) (h : k < l.length) : bkP l hq k = bkP l hq (k + 1) ++ [⟨(k,l[k]),hq k h⟩]:=by
 unfold bkP;rw [List.drop_eq_getElem_cons (by simpa using h)];simp
theorem bkP_length (l : List RawN) (hq : ∀ (j : Nat) (h : j < l.length),Pq (j,l[j])) (k : Nat) : (bkP l hq k).length = l.length - k:=by
 unfold bkP;simp
end
set_option maxHeartbeats 400000 in
theorem backward_any (A : Option Addr) (n c : Nat) (w : World) :
   Calls Tryz.prog 77 #[.slice A n c] w fun e w'=>e = .returned (.func (.func 127) #[] #[.pointer (some ⟨w.heap.size,0,none⟩)])/\w' = w.alloc (.cells #[.slice A n c] 88):=by
 go_enter Tryz.func77,Tryz.ntmps77;go_wp2_with fail;(try go_ret);exact ⟨rfl,rfl⟩
def bkV {Pq : Nat × RawN->Prop} (x : { p : Nat × RawN // Pq p }) : Array Value:=#[.int .i64 (x.1.1 : Nat),.agg (codC x.1.2).toArray]
set_option maxHeartbeats 2000000 in
theorem back1_in {Pq : Nat × RawN->Prop} (Fe : Fence) (m l Sb n c : Nat) (A : Option Addr) (L : List RawN) (Kb Fl : Nat->Prop) (hq : ∀ (j : Nat) (h : j < L.length),Pq (j,L[j])) (hft : Fe.fn 127) (hro : Fe.round = none) (hd : Fe.depth = none)
   (J Jx : List { p : Nat × RawN // Pq p }->World->Prop)
   (hY : ∀ pre x W,J pre W->pre.length < n->YieldAt Fe (m - 1) Tryz.prog l (bkV x) W fun e W' =>
     (e = .returned (.bool true)/\J (pre ++ [x]) W'/\KeepsB Kb W W')\/(e = .returned (.bool false)/\Jx (pre ++ [x]) W'))
   (W : World) (hS : W.cell? ⟨Sb,0,none⟩ = some (.slice A n c)) (hKS : Kb Sb) (hR : RdK W Fl 6 A n (L.map codC)) (hKF : ∀ b,Fl b->Kb b) (hn : n<=2 ^ 40) (h0 : J [] W) :
   CallsIn Fe m Tryz.prog 127 #[.func (.yield l) #[] #[],.pointer (some ⟨Sb,0,none⟩)] W fun e W'=>(∃ v,e = .returned v) /\
     ((∃ ys,ys = bkP L hq 0/\J ys W')\/(∃ pre,True/\Jx pre W')):=by
 (have hL : L.length = n:=by have:=hR.1;simpa using this);have hw1 : IntKind.i64.wrap ((n : Int) - 1) = n - 1:=IntWalk.i64_in _ (by omega);refine callsIn_of_wp Tryz.func127 rfl hft ?_ hro;simp only [Tryz.ntmps127,List.size_toArray,List.length_cons,List.length_nil,Nat.reduceAdd,Nat.reduceSub,Array.replicate_succ,Array.replicate_zero,List.push_toArray,List.append_toArray,List.nil_append,List.cons_append];gi_wp2;gi_loopg [3] n (fun f i wr=>f<=n/\i = .int .i64 ((f : Int) - 1)/\J (bkP L hq f) wr/\KeepsB Kb W wr)
 case atStart=>exact ⟨Nat.le_refl _,rfl,by rw [<- hL,bkP_all];exact h0,KeepsB.refl _ _⟩
 case round =>
   obtain ⟨hfn,rfl,hJ,hk⟩:=hrel;have hS' : wr.cell? ⟨Sb,0,none⟩ = some (.slice A n c):=(hk.cell hKS 0).trans hS;rcases gk with _ | k
   . gi_wp2
     go_end0;exact ⟨⟨_,rfl⟩,.inl ⟨_,rfl,hJ⟩⟩
   (have hkL : k < L.length:=by omega);(have hkn : k < n:=by omega);have hY':=hY (bkP L hq (k + 1)) ⟨(k,L[k]),hq k hkL⟩ wr hJ (by rw [bkP_length];omega);rw [<- bkP_step L hq k hkL] at hY';obtain ⟨b,o,rfl,hFb,_,hc⟩:=hR.at_ (r:=0) hkn;have hc' : ∀ r,r < 6->wr.cell? ⟨b,o + k * 6 + r,none⟩ = ((L.map codC)[k]'(by simpa using hkL))[r]?:=fun r hr=>(hk.cell (hKF b hFb) _).trans (hc r hr);rw [List.getElem_map] at hc';have c0:=hc' 0 (by omega);have c1:=hc' 1 (by omega);have c2:=hc' 2 (by omega);have c3:=hc' 3 (by omega);have c4:=hc' 4 (by omega);have c5:=hc' 5 (by omega);simp [codC] at c0 c1 c2 c3 c4 c5;(have e1 : ((k + 1 : Nat) : Int) - 1 = (k : Nat):=by omega);have hw2 : IntKind.i64.wrap ((k : Int) - 1) = k - 1:=IntWalk.i64_in _ (by omega);(have hkI : (k : Int) < n:=by omega);(have hk0 : (0 : Int)<=k:=by omega);obtain ⟨fn,tmps,assign,body,hy,hRd⟩:=hY';simp only [bkV,codC] at hy;have HK:=hd_ hk;clear hc hc' hJ hk hY hR;simp only [e1];gi_wp2
   first
     | refine hRd.mono ?_
     | refine ⟨?_,?_,hRd.mono ?_⟩
   rintro e W3 (⟨rfl,hJ3,hk3⟩ | ⟨rfl,hJx3⟩)
   . have HJ3:=hd_ hJ3
     have HK3:=hd_ hk3;clear hJ3 hk3 hRd hy;gi_wp2;gi_roundg k
     case measure=>omega
     case rel=>exact ⟨by omega,by go_num,HJ3.out,HK.out.trans HK3.out⟩
   gi_wp2;refine bodyPost_ret (results_none rfl _ _ _) rfl ?_;exact ⟨⟨_,rfl⟩,.inr ⟨_,trivial,hJx3⟩⟩
theorem back_stops {Pq : Nat × RawN->Prop} (m Sb n c : Nat) (A : Option Addr) (L : List RawN) (Kb Fl : Nat->Prop) (hq : ∀ (j : Nat) (h : j < L.length),Pq (j,L[j])) (w : World) (hSb : Sb < w.heap.size) (hS : w.cell? ⟨Sb,0,none⟩ = some (.slice A n c)) (hKS : Kb Sb) (hR : RdK w Fl 6 A n (L.map codC)) (hKF : ∀ b,Fl b->Kb b) (hn : n<=2 ^ 40) :
   SeqStopsK Fence.wide m Tryz.prog 127 #[.pointer (some ⟨Sb,0,none⟩)] (bkV (Pq:=Pq)) (KeepsB Kb) (fun ys=>ys = bkP L hq 0) (fun _=>True) n w :=
 fun l J Jx W hW hJa _ hY h0=>back1_in Fence.wide m l Sb n c A L Kb Fl hq trivial rfl rfl J Jx hY W ((hW.cell (p:=⟨Sb,0,none⟩) hSb).trans hS) hKS (hR.upd (S:=fun _=>False) (Upd.of_below hW) (fun _ _ _ h=>h)) hKF hn h0
end Go.Proofs.YtjfdaphjijfieaaGreat
namespace Go.Proofs.YtjfdaphjijfieaaGreat
open Go.RowKit
def lowT (T : Trks) (x : RawN) (S : Sts) (k : Nat) : Sts:=⟨if 2 < k then lowS T.pL T.NL x.cL else S.l,if 0 < k then lowS T.pO T.NO x.cO else S.o,if 1 < k then lowS T.pM T.NM x.cM else S.m⟩
def stpT (T : Trks) (x : RawN) (S : Sts) (k : Nat) : Sts:=⟨if 2 < k then stepS T.pL T.NL x.cL S.l else S.l,if 0 < k then stepS T.pO T.NO x.cO S.o else S.o,if 1 < k then stepS T.pM T.NM x.cM S.m else S.m⟩
def stpB (T : Trks) (x : RawN) (S : Sts) (k : Nat) : List Bool:=(if 0 < k then stepBits T.pO T.NO x.cO S.o else []) ++ (if 1 < k then stepBits T.pM T.NM x.cM S.m else []) ++ (if 2 < k then stepBits T.pL T.NL x.cL S.l else [])
def rstB (x : RawN) (k : Nat) : List Bool:=(if 0 < k then bitsB (bitsL x.cL) x.rL else []) ++ (if 1 < k then bitsB (bitsL x.cM) x.rM else []) ++ (if 2 < k then bitsB x.cO x.rO else [])
theorem rstB_all (x : RawN) : rstB x 3 = restB x:=by simp [rstB,restB]
def midF (T : Trks) (last : Bool) (x : RawN) (r : Sts × List Bool) (k : Nat) : Sts × List Bool:=if last then (lowT T x r.1 k,r.2) else (stpT T x r.1 k,r.2 ++ stpB T x r.1 k)
def stepF (T : Trks) (n : Nat) (r : Sts × List Bool) (p : Nat × RawN) : Sts × List Bool:=((midF T (decide (p.1 + 1 = n)) p.2 r 3).1,(midF T (decide (p.1 + 1 = n)) p.2 r 3).2 ++ restB p.2)
def wrF (T : Trks) (n : Nat) (pre : List (Nat × RawN)) : Sts × List Bool:=pre.foldl (stepF T n) (⟨0,0,0⟩,[])
theorem wrF_snoc (T : Trks) (n : Nat) (pre : List (Nat × RawN)) (p : Nat × RawN) : wrF T n (pre ++ [p]) = stepF T n (wrF T n pre) p:=by simp [wrF]
theorem lowT_ok {T : Trks} (hT : T.ok) {x : RawN} (hc : Cov T x) {S : Sts} (hS : S.ok T) (k : Nat) : (lowT T x S k).ok T:=by
 obtain ⟨h1,h2,h3⟩:=hT.wide;obtain ⟨⟨c1,n1⟩,⟨c2,n2⟩,c3,n3⟩:=hc;have a1:=(low_ok h1 c1 n1).1;have b1:=(low_ok h2 c2 n2).1;have d1:=(low_ok h3 c3 n3).1;unfold lowT;(refine ⟨?_,?_,?_⟩ <;> simp only <;> split <;> first | assumption | exact hS.1 | exact hS.2.1 | exact hS.2.2)
theorem stpT_ok {T : Trks} (hT : T.ok) {x : RawN} (hc : Cov T x) {S : Sts} (hS : S.ok T) (k : Nat) : (stpT T x S k).ok T:=by
 obtain ⟨h1,h2,h3⟩:=hT.wide;obtain ⟨⟨c1,n1⟩,⟨c2,n2⟩,c3,n3⟩:=hc;have a1:=(step_ok h1 c1 n1 hS.1).1;have b1:=(step_ok h2 c2 n2 hS.2.1).1;have d1:=(step_ok h3 c3 n3 hS.2.2).1;unfold stpT;(refine ⟨?_,?_,?_⟩ <;> simp only <;> split <;> first | assumption | exact hS.1 | exact hS.2.1 | exact hS.2.2)
theorem stpB_le {T : Trks} (hT : T.ok) {x : RawN} (hc : Cov T x) {S : Sts} (hS : S.ok T) (k : Nat) : (stpB T x S k).length<=27:=by
 obtain ⟨h1,h2,h3⟩:=hT.wide;obtain ⟨⟨c1,n1⟩,⟨c2,n2⟩,c3,n3⟩:=hc;have a1:=(step_ok h1 c1 n1 hS.1).2.2.2.2.2.1;have b1:=(step_ok h2 c2 n2 hS.2.1).2.2.2.2.2.1;have d1:=(step_ok h3 c3 n3 hS.2.2).2.2.2.2.2.1;have e1:=h1.2.1;have e2:=h2.2.1;have e3:=h3.2.1;unfold stpB stepBits;simp only [List.length_append]
 have g : ∀ (p : Prop) [Decidable p] (l : List Bool),l.length<=9->(if p then l else []).length<=9:=by
   intro p _ l h;split
   . exact h
   simp
 have q1:=g (0 < k) (bitsB (stepK T.pO T.NO x.cO S.o) (stepB T.pO T.NO x.cO S.o)) (by simp;omega);have q2:=g (1 < k) (bitsB (stepK T.pM T.NM x.cM S.m) (stepB T.pM T.NM x.cM S.m)) (by simp;omega);have q3:=g (2 < k) (bitsB (stepK T.pL T.NL x.cL S.l) (stepB T.pL T.NL x.cL S.l)) (by simp;omega);omega
theorem bitsL_le {c : Nat} (h : c < 44) : bitsL c<=16:=by
 unfold bitsL;(split <;> omega)
theorem rstB_le {x : RawN} (hx : x.ok) (k : Nat) : (rstB x k).length<=60:=by
 obtain ⟨h1,h2,h3,_⟩:=raw_codes hx;have l1:=bitsL_le h1;have l2:=bitsL_le h2
 have g : ∀ (m : Nat) (p : Prop) [Decidable p] (l : List Bool),l.length<=m->(if p then l else []).length<=m:=by
   intro m p _ l h;split
   . exact h
   simp
 have q1:=g 16 (0 < k) (bitsB (bitsL x.cL) x.rL) (by simp;omega);have q2:=g 16 (1 < k) (bitsB (bitsL x.cM) x.rM) (by simp;omega);have q3:=g 28 (2 < k) (bitsB x.cO x.rO) (by simp;omega);unfold rstB;simp only [List.length_append];omega
theorem midF_ok {T : Trks} (hT : T.ok) {x : RawN} (hc : Cov T x) {r : Sts × List Bool} (hS : r.1.ok T) (b : Bool) (k : Nat) : (midF T b x r k).1.ok T/\(midF T b x r k).2.length<=r.2.length + 27:=by
 unfold midF;split
 . exact ⟨lowT_ok hT hc hS k,by simp⟩
 exact ⟨stpT_ok hT hc hS k,by have:=stpB_le hT hc hS k;simp;omega⟩
theorem wrF_ok {T : Trks} (hT : T.ok) {n : Nat} : ∀ (pre : List (Nat × RawN)),(∀ p ∈ pre,p.2.ok/\Cov T p.2)->(wrF T n pre).1.ok T/\(wrF T n pre).2.length<=100 * pre.length:=by
 intro pre
 induction hn : pre.length generalizing pre with
 | zero =>
   intro _;have : pre = []:=List.eq_nil_of_length_eq_zero hn;subst this;obtain ⟨h1,h2,h3⟩:=hT.wide;exact ⟨⟨Nat.two_pow_pos _,Nat.two_pow_pos _,Nat.two_pow_pos _⟩,by simp [wrF]⟩
 | succ m ih =>
   intro h;obtain ⟨q,p,rfl⟩ : ∃ q p,pre = q ++ [p]:=⟨pre.dropLast,pre.getLast (by intro h;subst h;simp at hn),(List.dropLast_concat_getLast _).symm⟩;(have hq : q.length = m:=by simpa using hn);obtain ⟨i1,i2⟩:=ih q hq fun x hx=>h x (by simp [hx]);obtain ⟨p1,p2⟩:=h p (by simp);rw [wrF_snoc];obtain ⟨m1,m2⟩:=midF_ok hT p2 i1 (decide (p.1 + 1 = n)) 3;refine ⟨m1,?_⟩;unfold stepF;have r1:=rstB_le p1 3;rw [rstB_all] at r1;rw [List.length_append];omega
theorem wrF_all {Pq : Nat × RawN->Prop} (T : Trks) (l : List RawN) (hq : ∀ (j : Nat) (h : j < l.length),Pq (j,l[j])) : ∀ (f k : Nat),k + f = l.length->wrF T l.length ((bkP l hq k).map Subtype.val) = wrB T (l.drop k)
 | 0,k,h=>by
   obtain rfl : k = l.length:=by omega
   rw [bkP_all,List.drop_of_length_le (Nat.le_refl _)]
   rfl
 | f + 1,k,h=>by
   have hk : k < l.length:=by omega
   rw [bkP_step l hq k hk,List.map_append,List.map_cons,List.map_nil,wrF_snoc,wrF_all T l hq f (k + 1) (by omega),List.drop_eq_getElem_cons hk]
   by_cases hl : k + 1 = l.length
   . have hd : l.drop (k + 1) = []:=List.drop_of_length_le (by omega)
     rw [hd]
     simp [stepF,midF,hl,wrB,lowT]
   obtain ⟨y,t,ht⟩ : ∃ y t,l.drop (k + 1) = y :: t:=by
     rw [List.drop_eq_getElem_cons (show k + 1 < l.length by omega)];exact ⟨_,_,rfl⟩
   rw [ht];simp [stepF,midF,hl,wrB,stpT,stpB]
theorem i64_and_nat (a b : Nat) (ha : a < 9223372036854775808) (hb : b < 9223372036854775808) : bits .and .i64 (a : Int) (b : Int) = ((a &&& b : Nat) : Int):=by
 show IntKind.i64.wrap ((BitVec.ofInt 64 (a : Int) &&& BitVec.ofInt 64 (b : Int)).toNat : Nat) = _;rw [BitVec.toNat_and,ofInt_u64 a (by omega),ofInt_u64 b (by omega),IntKind.wrap_i64];have:=Nat.and_le_left (n:=a) (m:=b);omega
theorem mask_i64 (x K : Nat) (hK : K<=9) (hx : x < 1024) : IntKind.u64.wrap (bits .and .i64 (x : Int) (wrap64 (wrap64 (2 ^ K) - 1))) = ((x % 2 ^ K : Nat) : Int):=by
 have hp5 : 2 ^ K<=512:=Nat.le_trans (Nat.pow_le_pow_right (by decide) hK) (by decide);have hpp:=Nat.two_pow_pos K;(have e0 : ((2 : Int) ^ K) = ((2 ^ K : Nat) : Int):=by simp);have hm : x &&& (2 ^ K - 1) = x % 2 ^ K:=Nat.and_two_pow_sub_one_eq_mod _ _;have hl : x % 2 ^ K < 2 ^ K:=Nat.mod_lt _ hpp;rw [e0];generalize x % 2 ^ K = r at *;generalize 2 ^ K = q at *;(have e1 : wrap64 (wrap64 (q : Int) - 1) = ((q - 1 : Nat) : Int):=by unfold wrap64;omega);rw [e1,i64_and_nat _ _ (by omega) (by omega),hm,IntKind.wrap_u64];omega
set_option maxHeartbeats 400000 in
theorem cof_any (F : Nat->Prop) (g p c : Nat) (N : List Int) (w : World) (h : CoderF w F g p N) (hc : c < N.length) (hn : 1<=(plN p N c).length) : Calls Tryz.prog 129 #[.pointer (some ⟨g,0,none⟩),.int .i64 (c : Nat)] w fun e w' =>
   ∃ A n d,e = .returned (.tuple #[.slice A n d,.int .i64 0])/\n = (plN p N c).length/\Rd w F A n (nats (plN p N c))/\w' = w:=by
 obtain ⟨vc,vp,PL,h1,h2,h3,h4,h5,h6,h7,h8⟩:=h;(have hcp : c < PL.length:=by omega);obtain ⟨B,d,rfl,hd,hrd⟩:=h3.form;obtain ⟨b,o,rfl,_,_,hcell⟩:=hrd.at_ (k:=c) hcp;obtain ⟨q1,q2⟩:=h5 c PL[c] (List.getElem?_eq_getElem hcp);rw [List.getElem?_eq_getElem hcp] at hcell;generalize PL[c] = u at *;obtain ⟨A,e,rfl,he,hr⟩:=q1.form;(have hl : (nats (posZ (spreadN p N) (c : Int) (2 ^ p))).length = (plN p N c).length:=by simp [nats,plN]);rw [hl] at hcell hr he q2;have c1:=h1.cell 1;simp at c1;have HR:=hd_ (show Rd w F A (plN p N c).length (nats (plN p N c)) from hr.mono fun b hb=>q2 b hb);have HPL:=hd_ h4;clear h1 h2 h3 h5 h6 h7 h8 hrd q2 hr he hl hd;obtain ⟨n,hnn⟩:=nm_ ((plN p N c).length);rw [<- hnn] at hn hcell HR;have HNN:=hd_ hnn;(have hcI : (c : Int) < PL.length:=by omega);(have hc0 : ¬ (c : Int) < 0:=by omega);(have hn0 : ((n : Int) == 0) = false:=by simp;omega);clear hnn h4;refine veil fun R hR=>?_;go_enter Tryz.func129,Tryz.ntmps129;go_wp2_with fail;(try go_ret2);exact hR.out _ _ ⟨_,_,_,rfl,HNN.out,HR.out,rfl⟩
set_option maxHeartbeats 400000 in
theorem lowest_any (F : Nat->Prop) (g p c : Nat) (N : List Int) (w : World) (h : CoderF w F g p N) (hc : c < N.length) (hn : 1<=(plN p N c).length) : Calls Tryz.prog 78 #[.pointer (some ⟨g,0,none⟩),.int .i64 (c : Nat)] w fun e w' =>
   e = .returned (.tuple #[.int .i64 (lowS p N c : Nat),.int .i64 0])/\w' = w:=by
 have HN:=hd_ (cnone_any F g p N w h);have HO:=hd_ (cof_any F g p c N w h hc hn)
 have HL:=hd_ (show ((nats (plN p N c))[0]? = some (.int .i64 (lowS p N c : Nat))) from by
   unfold nats lowS;rw [List.getElem?_map,List.getElem?_eq_getElem (by omega)]
   rfl)
 clear h;refine veil fun R hR=>?_;go_enter Tryz.func78,Tryz.ntmps78;go_wp2_with fail;refine HN.out.mono ?_;rintro e w1 ⟨rfl,rfl⟩;go_wp2_with fail;refine HO.out.mono ?_;rintro e w2 ⟨A,n,d,rfl,hnn,hr,rfl⟩;obtain ⟨b,o,rfl,_,_,hcell⟩:=hr.at_ (k:=0) (by omega);rw [HL.out,Nat.add_zero] at hcell;(have h0n : (0 : Int) < n:=by omega);clear hr hnn;go_wp2_with fail;(try go_ret2);exact hR.out _ _ ⟨rfl,rfl⟩
set_option maxHeartbeats 1000000 in
theorem pred_any (F : Nat->Prop) (g p c st : Nat) (N : List Int) (w : World) (h : CoderF w F g p N) (hv : Valid p N 256 9) (hc : c < N.length) (hn : 1<=(plN p N c).length) (hs : st < 2 ^ p) : Calls Tryz.prog 79 #[.pointer (some ⟨g,0,none⟩),.int .i64 (st : Nat),.int .i64 (c : Nat)] w fun e w' =>
   e = .returned (.tuple #[.agg #[.int .i64 (stepS p N c st : Nat),.int .u64 (stepB p N c st : Nat),.int .i64 (stepK p N c st : Nat)],.int .i64 0])/\Fresh w w':=by
 obtain ⟨w0,hw0⟩:=nm_ (w.alloc (.cells #[.int .i64 0,.int .u64 0,.int .i64 0] 172));obtain ⟨H,hH⟩:=nm_ (w.heap.size);(have f0 : Fresh w w0:=by rw [hw0];exact (Upd.refl _ _).alloc _);(have br : Blk w0 H 172 #[.int .i64 0,.int .u64 0,.int .i64 0]:=by rw [hw0];exact blk_new hH _ _);have h0:=h.fresh f0;have HST:=hd_ (state_any F g p st N w0 h0 hs);have HO:=hd_ (cof_any F g p c N w0 h0 hc hn);obtain ⟨Ac,cc,vp,hc1,-,-,-⟩:=h0.open_;obtain ⟨a1,a2,a3,a4,a5,a6,a7,a8⟩:=step_ok hv hc hn hs;have hle : (plN p N c).length<=2 ^ p:=posZ_le _ _ _;(have hp9 : p<=9:=by have:=hv.2.1;omega);have hpw : 2 ^ p<=512:=Nat.le_trans (Nat.pow_le_pow_right (by decide) hp9) (by decide);have HK:=hd_ (show stepK p N c st = preG (st + 2 ^ p) (plN p N c).length 11 0 from rfl);have HB:=hd_ (show stepB p N c st = (st + 2 ^ p) % 2 ^ stepK p N c st from rfl)
 have HS:=hd_ (show (nats (plN p N c))[(st + 2 ^ p) / 2 ^ stepK p N c st - (plN p N c).length]? = some (.int .i64 (stepS p N c st : Nat)) from by
   unfold nats;rw [List.getElem?_map,List.getElem?_eq_getElem a7];unfold stepS;rw [List.getElem?_eq_getElem a7]
   rfl)
 clear a1 a2 a3 a4 a5;generalize stepK p N c st = K at *;generalize stepB p N c st = bb at *;generalize stepS p N c st = ss at *;generalize plN p N c = pl at *;have HP9:=hd_ hp9;clear hv hc h h0 hp9;generalize 2 ^ p = s at *;(have s1 : IntKind.i64.wrap ((st : Int) + s) = ((st + s : Nat) : Int):=by rw [IntWalk.i64_in _ (by omega)];omega);(have s1' : (st : Int) + s = ((st + s : Nat) : Int):=by omega);have HX:=hd_ (show st + s < 1024 by omega);generalize st + s = x at *;have HF0:=hd_ f0;have BR:=hd_ br;have HW:=hd_ hw0;have HH:=hd_ hH;have HA:=hd_ (And.intro a6 (And.intro a7 a8));clear f0 br hw0 hH a6 a7 a8;refine veil fun R hR=>?_;go_enter Tryz.func79,Tryz.ntmps79;go_upto_region 1 with fail;simp only [<- HH.out,<- HW.out];go_wp2_with fail;refine HST.out.mono ?_;rintro e w1 ⟨rfl,rfl⟩;go_wp2_with fail;refine HO.out.mono ?_;rintro e w2 ⟨A,n,d,rfl,hnn,hr,rfl⟩;have HNN:=hd_ hnn;rw [<- hnn] at HK HS HA hle hn;have HRD:=hd_ hr;clear hnn hr;go_wp2_with fail;go_loopg [12] 11 (fun f v wr=>∃ k : Nat,k + f = 11/\v = .int .i64 k/\wr = w2/\preG x n f k = K)
 case atStart=>exact ⟨0,rfl,rfl,rfl,HK.out.symm⟩
 case round =>
   obtain ⟨k,hkf,rfl,rfl,hpre⟩:=hrel;have hsh:=fun W=>shr_i64 (P:=Tryz.prog) x k ((x / 2 ^ k : Nat) : Int) W (by omega) (by simp);(have hnp : n<=512:=by omega);have s2 : IntKind.i64.wrap (2 * (n : Int)) = 2 * (n : Int):=IntWalk.i64_in _ (by omega);have s3 : IntKind.i64.wrap ((k : Int) + 1) = (k : Int) + 1:=IntWalk.i64_in _ (by omega);(have hxk : (((x / 2 ^ k : Nat) : Nat) : Int) = (x : Int) / 2 ^ k:=by simp);have HP:=hd_ hpre;have HKF:=hd_ hkf;clear hpre;by_cases hq : 2 * n<=x / 2 ^ k
   . have hqI : (2 * (n : Int))<=((x / 2 ^ k : Nat) : Int):=by omega
     rcases gk with _ | gk
     . exfalso
       have : x / 2 ^ k = 0:=by
         (have h11 : k = 11:=by omega);subst h11;exact Nat.div_eq_of_lt (Nat.lt_of_lt_of_le HX.out (by decide))
       omega
     have HN2:=hd_ (show preG x n gk (k + 1) = K by have:=HP.out;simp only [preG] at this;rwa [if_pos hq] at this);generalize x / 2 ^ k = q at *;go_wp2_with fail;go_roundg gk
     case measure=>omega
     case rel=>exact ⟨k + 1,by omega,by go_num,rfl,HN2.out⟩
   (have hqI : ¬ (2 * (n : Int))<=((x / 2 ^ k : Nat) : Int):=by omega)
   obtain rfl : K = k:=by
     have:=HP.out;rcases gk with _ | gk
     . exact this.symm
     simp only [preG] at this;rw [if_neg hq] at this;exact this.symm
   have HMO:=hd_ (show x % 2 ^ K = bb from HB.out.symm);obtain ⟨j,hj⟩:=nm_ (x / 2 ^ K - n);(have hjn : j < n:=by rw [hj];exact HA.out.2.1);(have hxj : (x : Int) / 2 ^ K = n + j:=by rw [<- hxk,hj];have:=HA.out.2.2;omega);have hs':=HS.out;rw [<- hj] at hs';obtain ⟨b,o,rfl,-,-,hcell⟩:=HRD.out.at_ hjn;rw [hs'] at hcell;(have hjI : (j : Int) < n:=by omega);(have hj0 : (0 : Int)<=j:=by omega);(have s5 : IntKind.i64.wrap ((n : Int) + j - n) = j:=by rw [IntWalk.i64_in _ (by omega)];omega);have z0:=BR.out.frozen 0;have z1:=BR.out.frozen 1;have z2:=BR.out.frozen 2;obtain ⟨q0,q1,q2⟩:=(BR.out).cells3;(have s6 : IntKind.i64.wrap ((x : Int) / 2 ^ K - n) = j:=by rw [hxj];exact s5);clear hq hsh hxk hs' hj s5 hxj;go_wp2_with fail;go_still_tail 17,(by kernel_rfl);change wpList _ _ _ _ _ wr.drew;go_wp2_with fail
   have hand : IntKind.u64.wrap (bits .and .i64 (x : Int) (wrap64 (wrap64 (2 ^ K) - 1))) = ((bb : Nat) : Int):=by
     rw [mask_i64 x K (by have:=HA.out.1;have:=HP9.out;omega) HX.out,HMO.out]
   rw [hand]
   have BR5 : Blk (((wr.setCell ⟨H,0,none⟩ (.int .i64 ss)).setCell ⟨H,1,none⟩ (.int .u64 bb)).setCell ⟨H,2,none⟩ (.int .i64 K)).drew H 172 #[.int .i64 ss,.int .u64 bb,.int .i64 K]:=by
     have h:=((BR.out.set_ 0 (.int .i64 ss)).set_ 1 (.int .u64 bb)).set_ 2 (.int .i64 K);simpa using h.drew
   refine bodyPost_ret (results_cell_tmp_row rfl _ _ H _ _ _ rfl BR5 Tryz.underlying172 rfl (by kernel_rfl)) rfl ?_
   have u3 : Upd (fun b=>b = H) wr (((wr.setCell ⟨H,0,none⟩ (.int .i64 ss)).setCell ⟨H,1,none⟩ (.int .u64 bb)).setCell ⟨H,2,none⟩ (.int .i64 K)).drew :=
     ((((Upd.refl (fun b=>b = H) wr).setCell (p:=⟨H,0,none⟩) (fun _=>rfl) _).setCell (p:=⟨H,1,none⟩) (fun _=>rfl) _).setCell (p:=⟨H,2,none⟩) (fun _=>rfl) _).drew
   exact hR.out _ _ ⟨rfl,HF0.out.trans u3 (fun b hb h=>by have:=HH.out;omega)⟩
end Go.Proofs.YtjfdaphjijfieaaGreat
