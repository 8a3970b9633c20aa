/- Contracts and plain lemmas, part 18. Conditions: none beyond those of each. -/
import Derived.Test.YtckjdhaflokcgaaGreatR10
set_option maxHeartbeats 4000000
set_option linter.unusedVariables false
set_option linter.unusedSimpArgs false
set_option linter.unnecessarySimpa false
set_option maxRecDepth 100000
namespace Go.Proofs.YtckjdhaflokcgaaGreat
open Go.RowKit Go.Proofs.Tryz
theorem ZR {m:Nat} (h:m<2^64) (h0:m≠0):1<=Lib.bitLen m/\2^(Lib.bitLen m-1)<=m/\m<2^Lib.bitLen m:=by
 obtain⟨h1,h2,h3⟩:=Lib.bitLenAux_bounds 64 m h h0;unfold Lib.bitLen;(first|exact⟨h1,h2,h3⟩|exact⟨by omega,h2,h3⟩)
theorem Q2w {p x:Nat} (hp:p<=9) (h:x<2^p):x∈Y8 (2^p):=by
 by_cases hx:x∈Y8 (2^p)
 . exact hx
 have h1:=Q15 (2^p) (x::Y8 (2^p)) (List.nodup_cons.2 ⟨hx,Km p hp⟩) λy hy=>by
   rcases List.mem_cons.1 hy with rfl|hy
   . exact h
   exact Xf (Nat.two_pow_pos p) hy
 simp at h1;omega
theorem Q0B {p:Nat} {N:List Int} (hv:Yc p N 256 9):(Qw N).length+(Qo N).length=2^p:=by
 have h1:=Ze N 0 hv.2.2.2.2.2.2.1;rw [hv.2.2.2.2.2.2.2]at h1;(have h3:((2:Int)^(p:Int).toNat)=((2^p:Nat):Int):=by simp);unfold Qw Qo;omega
theorem Q4u {p:Nat} {N:List Int} (hp:p<=9) {x:Nat} (h:x<2^p):((QC (Qo N) (Ql (2^p) (Qw N)) (Y8 (2^p))).1 x).isSome=true:=by
 rw [(VL (Qo N) (Ql (2^p) (Qw N)) (Y8 (2^p)) (Km p hp)).1 x,decide_eq_true (Q2w hp h),Bool.or_true]
theorem Xg {rest:List Nat} {n:Nat} (hr:∀y∈rest,y<n) (hn:0<n):∀(pre:List Nat) (f:Int->Option Int) (k:Nat),(∀x v,f x=some v->∃c:Nat,v=c/\c<n) ->
   ∀x v,(pre.foldl (YZ rest) (f,k)).1 x=some v->∃c:Nat,v=c/\c<n
 | [],f,k,h=>h
 | y::pre,f,k,h=>by
   rw [List.foldl_cons]
   unfold YZ
   simp only
   split
   . exact Xg hr hn pre f k h
   refine Xg hr hn pre _ _ ?_
   intro x v hx
   split at hx
   . refine⟨(rest[k]?).getD 0,by injection hx with hx;exact hx.symm,?_⟩
     rcases Nat.lt_or_ge k rest.length with hk|hk
     . rw [List.getElem?_eq_getElem hk]
       exact hr _ (List.getElem_mem hk)
     rw [List.getElem?_eq_none hk];exact hn
   exact h x v hx
theorem Xh {p:Nat} {N:List Int} (hv:Yc p N 256 9) {x:Nat} (h:x<2^p):∃c:Nat,(Qi p N)[x]?=some (c:Int)/\c<N.length/\(QC (Qo N) (Ql (2^p) (Qw N)) (Y8 (2^p))).1 x=some (c:Int):=by
 (have hp:p<=9:=by have:=hv.2.1;omega);have h1:=Q4u (N:=N) hp h;obtain⟨v,hv1⟩:=Option.isSome_iff_exists.1 h1
 have hg:∀x v,Ql (2^p) (Qw N) x=some v->∃c:Nat,v=c/\c<N.length:=by
   intro x v hx;unfold Ql at hx;split at hx
   . rcases hi:(Qw N)[(((2^p:Nat):Int)-1-x).toNat]? with _|c
     . rw [hi]at hx;cases hx
     rw [hi]at hx;refine⟨c,by injection hx with hx;exact hx.symm,?_⟩;have:=(Xi N 0 c (List.mem_of_getElem? hi)).2;omega
   cases hx
 obtain⟨c,hc,hcn⟩:=Xg (n:=N.length) (λy hy=>by have:=(Xj N 0 y hy).2;omega) hv.2.2.2.1 (Y8 (2^p)) _ 0 hg _ _ hv1;subst hc;refine⟨c,?_,hcn,hv1⟩;unfold Qi;rw [List.getElem?_map,List.getElem?_range h];simp only [Option.map_some,hv1,Option.getD_some]
theorem Q3G {p:Nat} {N:List Int} (hv:Yc p N 256 9) {c:Nat} (hc:c<N.length):(((Qi p N).count (c:Int):Nat):Int)<=QP N[c]:=by
 (have hp:p<=9:=by have:=hv.2.1;omega)
 have e1:(Qi p N).count (c:Int)=(List.range (2^p)).countP (fun(x:Nat)=>decide ((QC (Qo N) (Ql (2^p) (Qw N)) (Y8 (2^p))).1 x=some (c:Int))):=by
   unfold Qi;rw [List.count_eq_countP,List.countP_map];apply List.countP_congr;intro x hx;have hx:=List.mem_range.1 hx;obtain⟨c',_,_,h3⟩:=Xh hv hx;simp only [Function.comp,h3,Option.getD_some];(by_cases h:(c':Int)=c<;>simp [h])
 have h1:=Q3H c (Q0B hv) (Y8 (2^p)) (Km p hp) λy hy=>Xf (Nat.two_pow_pos p) hy;rw [e1,h1];have h2:(List.take (QC (Qo N) (Ql (2^p) (Qw N)) (Y8 (2^p))).2 (Qo N)).count c<=(Qo N).count c:=(List.take_sublist _ _).count_le c;have h3:=Q02 N 0 c;have h4:=Q03 N 0 c;simp only [Nat.zero_le,true_and,if_true,Nat.sub_zero,List.getElem?_eq_getElem hc,Option.getD_some]at h3 h4;unfold Qw Qo at *;have h5:=hv.2.2.2.2.2.2.1 _ (List.getElem_mem hc);by_cases h6:N[c]=-1
 . rw [if_pos (by rw [h6])]at h3
   rw [h6]at h4|-;(have:QP (-1)=1:=by decide);simp at h4;omega
 rw [if_neg (λq=>h6 (Option.some.inj q))]at h3;(have:QP N[c]=N[c]:=by unfold QP;split<;>omega);omega
theorem Q1Z {p:Nat} {N:List Int} (hv:Yc p N 256 9) {i:Nat} (hi:i<2^p):∃c:Nat,Zv (Qi p N) i=c/\c<N.length/\1<=JM N (Qi p N) i/\JM N (Qi p N) i<2^(p+1) /\
   0<=JN p N (Qi p N) i/\JN p N (Qi p N) i<=p/\0<=Zn p N (Qi p N) i/\Zn p N (Qi p N) i+2^(JN p N (Qi p N) i).toNat<=2^p:=by
 (have hp:p<=9:=by have:=hv.2.1;omega);obtain⟨c,h1,h2,h3⟩:=Xh hv hi;(have hs:Zv (Qi p N) i=c:=by unfold Zv;rw [h1];rfl);(have hlen:i<(Qi p N).length:=by simpa using hi);have hget:(Qi p N)[i]=(c:Int):=Option.some.inj ((List.getElem?_eq_getElem hlen).symm.trans h1);have hcnt:=Q3G hv h2
 have hlt:Jk (Qi p N) i (c:Int)+1<=(Qi p N).count (c:Int):=by
   have h4:=Q04 hlen (c:Int);rw [hget,if_pos rfl]at h4;have h5:Jk (Qi p N) (i+1) (c:Int)<=(Qi p N).count (c:Int):=(List.take_sublist _ _).count_le _;omega
 have h5:=hv.2.2.2.2.2.2.1 _ (List.getElem_mem h2);(have ha:max N[c] (-N[c])=QP N[c]:=by unfold QP;split<;>omega);have hsum:=Zf (List.getElem_mem h2);rw [hv.2.2.2.2.2.2.2]at hsum;(have hpc:((2:Int)^(p:Int).toNat)=((2^p:Nat):Int):=by simp)
 have hnum:JM N (Qi p N) i=QP N[c]+Jk (Qi p N) i (c:Int):=by
   unfold JM;rw [hs,Int.toNat_natCast,List.getElem?_eq_getElem h2];simp only [Option.getD_some,ha]
 (have hn1:1<=JM N (Qi p N) i:=by rw [hnum];omega);(have hp1:((2:Int)^(p+1))=((2^p:Nat):Int)*2:=by simp [Int.pow_succ]);(have hn2:JM N (Qi p N) i<2^(p+1):=by rw [hnum,hp1];omega);refine⟨c,hs,h2,hn1,hn2,?_⟩;unfold Zn JN;generalize JM N (Qi p N) i=x at *;obtain⟨m,rfl⟩:∃m:Nat,x=m:=⟨x.toNat,by omega⟩;rw [Int.toNat_natCast]
 have hm2:m<2^(p+1):=by
   (have:((2:Int)^(p+1))=((2^(p+1):Nat):Int):=by simp);omega
 have hm64:m<2^64:=Nat.lt_of_lt_of_le hm2 (Nat.pow_le_pow_right (by decide) (by omega));obtain⟨b1,b2,b3⟩:=ZR hm64 (by omega);generalize Lib.bitLen m=L at *
 have hL:L<=p+1:=by
   have:2^(L-1)<2^(p+1):=Nat.lt_of_le_of_lt b2 hm2;have:=(Nat.pow_lt_pow_iff_right (a:=2) (by omega)).1 this;omega
 obtain⟨b,hb⟩:=nm_ (p+1-L);(have e1:((p:Int)+1-(L:Nat)).toNat=b:=by omega);rw [e1];(have e2:2^(L-1)*2^b=2^p:=by rw [<-Nat.pow_add];congr 1;omega);(have e3:2^L*2^b=2^(p+1):=by rw [<-Nat.pow_add];congr 1;omega);have l1:2^(L-1)*2^b<=m*2^b:=Nat.mul_le_mul_right _ b2;have l2:(m+1)*2^b<=2^L*2^b:=Nat.mul_le_mul_right _ b3;rw [Nat.add_mul,Nat.one_mul]at l2;(have c1:((m:Int)*2^b)=((m*2^b:Nat):Int):=by simp);(have c2:((2:Int)^b)=((2^b:Nat):Int):=by simp);(have c3:((2:Int)^p)=((2^p:Nat):Int):=by simp);have e4:2^(p+1)=2^p*2:=Nat.pow_succ 2 p;rw [c1,c2,c3];refine⟨by omega,by omega,by omega,by omega⟩
def Qp (V:Nat) (s:Nat × Int) (n:Nat):Nat × Nat × Int :=
  if s.2≠0 then(0,s)else if n<=s.1 then(V / 2^(s.1-n)%2^n,s.1-n,0)else(0,s.1,14)
def Zw (p:Nat) (N:List Int) (st:Nat):Nat:=(Zv (Qi p N) st).toNat
def Yg (p:Nat) (N:List Int) (st:Nat):Nat:=(JN p N (Qi p N) st).toNat
def ZF (p:Nat) (N:List Int) (st:Nat):Nat:=(Zn p N (Qi p N) st).toNat
def onE (V:Nat) (p:Nat) (N:List Int) (st:Nat) (s:Nat × Int):Nat × Nat × Int :=
  (ZF p N st+(Qp V s (Yg p N st)).1,(Qp V s (Yg p N st)).2)
theorem Vi (V:Nat) (s:Nat × Int) (n:Nat):(Qp V s n).1<2^n:=by
 have h:=Nat.two_pow_pos n;unfold Qp;split
 . exact h
 split
 . exact Nat.mod_lt _ h
 exact h
theorem VA {p:Nat} {N:List Int} (hv:Yc p N 256 9) {st:Nat} (hs:st<2^p) :
   Zv (Qi p N) st=(Zw p N st:Nat)/\Zw p N st<N.length/\JN p N (Qi p N) st=(Yg p N st:Nat)/\Yg p N st<=p /\
     Zn p N (Qi p N) st=(ZF p N st:Nat)/\ZF p N st+2^Yg p N st<=2^p:=by
 obtain⟨c,h1,h2,h3,h4,h5,h6,h7,h8⟩:=Q1Z hv hs;(have e1:Zw p N st=c:=by unfold Zw;rw [h1];simp);(have e2:JN p N (Qi p N) st=(Yg p N st:Nat):=by unfold Yg;omega);(have e3:Zn p N (Qi p N) st=(ZF p N st:Nat):=by unfold ZF;omega);refine⟨by rw [h1,e1],by omega,e2,by omega,e3,?_⟩;(have h9:(2:Int)^Yg p N st=((2^Yg p N st:Nat):Int):=by simp);(have h10:(2:Int)^p=((2^p:Nat):Int):=by simp);have e4:(JN p N (Qi p N) st).toNat=Yg p N st:=rfl;rw [e4,e3,h9,h10]at h8;omega
theorem Q7K {p:Nat} {N:List Int} (hv:Yc p N 256 9) {st:Nat} (hs:st<2^p) (V:Nat) (s:Nat × Int):(onE V p N st s).1<2^p:=by
 obtain⟨_,_,_,_,_,h⟩:=VA hv hs;have:=Vi V s (Yg p N st);unfold onE;simp only;omega
def Yd (V p:Nat) (N:List Int):Nat->Nat->Nat->Nat->Option (List Nat × Nat)
  | 0,_,_,t=>some ([],t)
  | k+1,now,other,t =>
    if 2<=k then
      if(Qp V (t,0) (Yg p N now)).2.2=0 then
        (Yd V p N k other (ZF p N now+(Qp V (t,0) (Yg p N now)).1) (Qp V (t,0) (Yg p N now)).2.1).map λr=>(Zw p N now::r.1,r.2)
      else none
    else(Yd V p N k other now t).map λr=>(Zw p N now::r.1,r.2)
def YW (V p n t:Nat):Option (Nat × Nat × Nat) :=
  if n=0 then some (0,0,t)else
    if(Qp V (t,0) p).2.2=0 then
      if n=1 then some ((Qp V (t,0) p).1,0,(Qp V (t,0) p).2.1)else
        if(Qp V ((Qp V (t,0) p).2.1,0) p).2.2=0 then some ((Qp V (t,0) p).1,(Qp V ((Qp V (t,0) p).2.1,0) p).1,(Qp V ((Qp V (t,0) p).2.1,0) p).2.1)else none
    else none
def ZS (V p n t:Nat) (N:List Int):Option (List Nat) :=
  match YW V p n t with
  | none=>none
  | some (a,b,t1)=>match Yd V p N n a b t1 with
    | some (x,0)=>some x
    | _=>none
def Y1 (lg:Int) (N:List Int) (bs:List Nat) (n:Nat):Int ⊕ List Nat :=
  if Yc lg N 256 9 then if(bs.getLast?).getD 0=0 then .inl 14 else match ZS (Qj bs) lg.toNat n (Y0 bs) N with
    | some x=>.inr x
    | none=>.inl 14
  else .inl 13
end Go.Proofs.YtckjdhaflokcgaaGreat
namespace Go.Proofs.YtckjdhaflokcgaaGreat
open Go.Proofs.Tryz
structure St where
  fr:Nat
  e:Int
def Qh (L:List Bool) (n:Nat) (σ:St):Nat × St :=
  if σ.e≠0 then(0,σ)else if σ.fr+n<=L.length then(QI ((L.drop σ.fr).take n),⟨σ.fr+n,0⟩)else(0,⟨σ.fr,3⟩)
def Qk (h:Bool) (e:Int) (σ:St):Bool × St:=if σ.e=0 then(if h then(true,σ)else(false,⟨σ.fr,e⟩))else(false,σ)
def QX (L:List Bool) (m:Nat) (σ:St):Nat × St :=
  if(Qh L (QA m) σ).1<Jh m then Qh L (QA m) σ
  else(2*(Qh L (QA m) σ).1+(Qh L 1 (Qh L (QA m) σ).2).1-Jh m,(Qh L 1 (Qh L (QA m) σ).2).2)
def QB (room:Int) (L:List Bool):Nat->Nat->Nat->St->Nat × St
  | 0,_,len,σ=>(len,σ)
  | f+1,k,len,σ =>
    if k=3 then
      if(Qk (decide ((len:Int)<room)) 13 σ).1 then QB room L f (Qh L 2 (Qk (decide ((len:Int)<room)) 13 σ).2).1 (len+(Qh L 2 (Qk (decide ((len:Int)<room)) 13 σ).2).1) (Qh L 2 (Qk (decide ((len:Int)<room)) 13 σ).2).2
      else(len,(Qk (decide ((len:Int)<room)) 13 σ).2)
    else(len,σ)
def Q1q (sy:Int) (L:List Bool) (left:Nat) (N:List Int) (ran:Bool) (σ:St):(Bool × Nat) × (List Int × Bool) × St :=
  let x:=QX L (left+2) σ
  let n:Int:=(x.1:Int)-1
  let y:=Qk (n != 0 || !ran) 13 x.2
  if y.1 then
    if n=0 then
      let z:=QB (sy-(N.length+1:Nat)) L 300 3 0 y.2
      ((true,left),(N++[0]++List.replicate z.1 0,true),z.2)
    else((true,left-n.natAbs),(N++[n],false),y.2)
  else((false,left),(N,ran),y.2)
def Qv (sy:Int) (L:List Bool):Nat->Nat->List Int->Bool->St->List Int × St
  | 0,_,N,_,σ=>(N,σ)
  | f+1,left,N,ran,σ =>
    if 0<left then
      if(Qk (decide ((N.length:Int)<sy)) 13 σ).1 then
        let r:=Q1q sy L left N ran (Qk (decide ((N.length:Int)<sy)) 13 σ).2
        if r.1.1 then Qv sy L f r.1.2 r.2.1.1 r.2.1.2 r.2.2 else(N,r.2.2)
      else(N,(Qk (decide ((N.length:Int)<sy)) 13 σ).2)
    else(N,σ)
def Z9 (sy lb:Int) (L:List Bool):Nat × List Int × St :=
  let x:=Qh L 4 ⟨0,0⟩
  let y:=Qk (decide ((x.1:Int)+1<=min lb 9)) 13 x.2
  if y.1 then(x.1+1,Qv sy L 600 (2^(x.1+1)) [] false y.2)else(x.1+1,[],y.2)
def QQ (sy lb:Int) (L:List Bool):Except Int (Nat × List Int × Nat) :=
  let r:=Z9 (min sy 256) lb L
  if r.2.2.e≠0 then .error r.2.2.e
  else if QI ((L.drop r.2.2.fr).take ((8-r.2.2.fr%8)%8))≠0 then .error 14
  else .ok (r.1,r.2.1,(r.2.2.fr+(8-r.2.2.fr%8)%8) / 8)
theorem Jc (L:List Bool) (n:Nat) (σ:St):(Qh L n σ).1<2^n:=by
 unfold Qh;split
 . exact Nat.two_pow_pos n
 split
 . have:=Zk ((L.drop σ.fr).take n)
   exact Nat.lt_of_lt_of_le this (Nat.pow_le_pow_right (by omega) (by rw [List.length_take];exact Nat.min_le_left _ _))
 exact Nat.two_pow_pos n
theorem Xk (L:List Bool) (m:Nat) (σ:St) (h0:1<=m) (h:m<2^64):(QX L m σ).1<m:=by
 obtain⟨h1,h2⟩:=Zl m (by omega) h;have h3:=Jc L (QA m) σ;have h4:=Jc L 1 (Qh L (QA m) σ).2;have hu:Jh m=2^(QA m+1)-m:=rfl;rw [Nat.pow_succ]at h2 hu;unfold QX;(split<;>(try simp only)<;>omega)
theorem YS {h:Bool} {e:Int} {σ:St}:(Qk h e σ).1=true->(Qk h e σ).2=σ/\h=true:=by
 unfold Qk;split
 . cases h<;>simp
 simp
theorem Kn (sy:Int) (L:List Bool) (f left:Nat) (N:List Int) (ran:Bool) (σ:St) (h:0<left) (hm:(Qk (decide ((N.length:Int)<sy)) 13 σ).1=false) :
   Qv sy L (f+1) left N ran σ=(N,(Qk (decide ((N.length:Int)<sy)) 13 σ).2):=by
 simp [Qv,h,hm]
theorem Z0 (sy:Int) (L:List Bool) (f left:Nat) (N:List Int) (ran:Bool) (σ:St) (y:Nat) (σ6:St) (h:0<left) (hm:(Qk (decide ((N.length:Int)<sy)) 13 σ).1=true)
   (hy:QX L (left+2) σ=(y,σ6)) (hm2:(Qk ((y:Int)-1 != 0 || !ran) 13 σ6).1=false) :
   Qv sy L (f+1) left N ran σ=(N,(Qk ((y:Int)-1 != 0 || !ran) 13 σ6).2):=by
 have h1:=YS hm;simp only [Qv,if_pos h,if_pos hm,h1.1,Q1q,hy,hm2,Bool.false_eq_true,if_false]
theorem Q05 (sy:Int) (L:List Bool) (f left:Nat) (N:List Int) (ran:Bool) (σ:St) (y:Nat) (σ6:St) (h:0<left) (hm:(Qk (decide ((N.length:Int)<sy)) 13 σ).1=true)
   (hy:QX L (left+2) σ=(y,σ6)) (hm2:(Qk ((y:Int)-1 != 0 || !ran) 13 σ6).1=true) (hn:(y:Int)-1≠0) :
   Qv sy L (f+1) left N ran σ=Qv sy L f (left-((y:Int)-1).natAbs) (N++[(y:Int)-1]) false σ6:=by
 have h1:=YS hm;have h2:=YS hm2;simp only [Qv,if_pos h,if_pos hm,h1.1,Q1q,hy,hm2,h2.1,if_true,if_neg hn]
theorem VM (sy:Int) (L:List Bool) (f left:Nat) (N:List Int) (ran:Bool) (σ:St) (y:Nat) (σ6:St) (h:0<left) (hm:(Qk (decide ((N.length:Int)<sy)) 13 σ).1=true)
   (hy:QX L (left+2) σ=(y,σ6)) (hm2:(Qk ((y:Int)-1 != 0 || !ran) 13 σ6).1=true) (hn:(y:Int)-1=0) :
   Qv sy L (f+1) left N ran σ=Qv sy L f left (N++[0]++List.replicate (QB (sy-(N.length+1:Nat)) L 300 3 0 σ6).1 0) true (QB (sy-(N.length+1:Nat)) L 300 3 0 σ6).2:=by
 have h1:=YS hm;have h2:=YS hm2;simp only [Qv,if_pos h,if_pos hm,h1.1,Q1q,hy,hm2,h2.1,if_true,if_pos hn]
end Go.Proofs.YtckjdhaflokcgaaGreat
namespace Go.Proofs.YtckjdhaflokcgaaGreat
open Go.RowKit Go.Proofs.Tryz
def Y4 (w:World) (F:Nat->Prop) (g gf:Nat) (bs:List Nat) (σ:St):Prop :=
  Blk w g 320 #[.pointer (some ⟨gf,0,none⟩),.int .i64 σ.e]/\Jv w F gf bs σ.fr/\(∀b,F b->b≠gf/\b≠g)/\0<=σ.e/\σ.e<=100
def Two (g gf:Nat) (b:Nat):Prop:=b=g\/b=gf
theorem Jv.blk {w:World} {F:Nat->Prop} {g:Nat} {bs:List Nat} {fr:Nat} (h:Jv w F g bs fr):∃cs,Blk w g 350 cs:=by
 obtain⟨A,c,hb,_⟩:=h;exact⟨_,hb⟩
theorem Y4.ne_ {w:World} {F:Nat->Prop} {g gf:Nat} {bs:List Nat} {σ:St} (h:Y4 w F g gf bs σ):g≠gf:=by
 obtain⟨h1,h2,_⟩:=h;obtain⟨cs,h3⟩:=h2.blk;exact h1.ne_ h3 (by decide)
theorem Y4.upd {w w':World} {F S:Nat->Prop} {g gf:Nat} {bs:List Nat} {σ:St} (h:Y4 w F g gf bs σ) (hu:Upd S w w') (hg:¬S g) (hgf:¬S gf) (hF:∀b,F b->¬S b):Y4 w' F g gf bs σ :=
 ⟨h.1.upd hu hg,h.2.1.upd hu hgf hF,h.2.2⟩
theorem Y4.fresh {w w':World} {F:Nat->Prop} {g gf:Nat} {bs:List Nat} {σ:St} (h:Y4 w F g gf bs σ) (hu:Q0 w w'):Y4 w' F g gf bs σ :=
 h.upd hu (λh=>h) (λh=>h) (λ_ _ h=>h)
theorem Zg (F:Nat->Prop) (g gf:Nat) (bs:List Nat) (σ:St) (h:Bool) (e:Int) (w:World) (hr:Y4 w F g gf bs σ) (he:0<=e/\e<=100) (he0:h=false->e≠0) :
   Calls prog 299 #[.pointer (some ⟨g,0,none⟩),.bool h,.int .i64 e] w λe' w'=>e' = .returned (.bool (Qk h e σ).1)/\Upd (Two g gf) w w'/\Y4 w' F g gf bs (Qk h e σ).2:=by
 obtain⟨hb,hf,hF,h0,h1⟩:=hr;have hne:=Y4.ne_ ⟨hb,hf,hF,h0,h1⟩;have hc:=hb.cell 1;have hz:=hb.frozen 1;simp at hc;have HB:=hd_ hb;clear hb;obtain⟨fr,se⟩:=σ;simp only at hc hf h0 h1;refine Q8 λR hR=>?_;by_cases hs:se=0
 . subst hs
   cases h
   . have ez:(e == 0)=false:=by simpa using he0 rfl
     go_enter func299,ntmps299;go_wp2;(try go_ret);refine hR.out _ _ ⟨by simp [Qk],(Upd.refl _ w).setCell (p:=⟨g,1,none⟩) (λ_=>.inl rfl) _,?_⟩;refine⟨by simpa [Qk]using HB.set_ 1 (.int .i64 e),?_,hF,he⟩;exact hf.upd (S:=λb=>b=g) ((Upd.refl (λb=>b=g) w).setCell (p:=⟨g,1,none⟩) (λ_=>rfl) _) (λh=>hne h.symm) (λb hb e=>(hF b hb).2 e)
   go_enter func299,ntmps299;go_wp2;(try go_ret);exact hR _ _ ⟨by simp [Qk],Upd.refl _ w,HB.out,hf,hF,by simp [Qk]⟩
 (have hs':(se == 0)=false:=by simpa using hs);go_enter func299,ntmps299;go_wp2;(try go_ret);exact hR _ _ ⟨by simp [Qk,hs],Upd.refl _ w,by simpa [Qk,hs]using HB.out,by simpa [Qk,hs]using hf,hF,by simpa [Qk,hs]using⟨h0,h1⟩⟩
theorem Xl (F:Nat->Prop) (g gf:Nat) (bs:List Nat) (σ:St) (n:Nat) (w:World) (hr:Y4 w F g gf bs σ) (hn:n<=62) :
   Calls prog 298 #[.pointer (some ⟨g,0,none⟩),.int .i64 n] w λe' w'=>e' = .returned (.int .i64 (Qh (Qf bs) n σ).1)/\Upd (Two g gf) w w'/\Y4 w' F g gf bs (Qh (Qf bs) n σ).2:=by
 obtain⟨hb,hf,hF,h0,h1⟩:=hr;have hne:=Y4.ne_ ⟨hb,hf,hF,h0,h1⟩;have hc:=hb.cell 1;have hc0:=hb.cell 0;simp at hc hc0;have HB:=hd_ hb;clear hb;obtain⟨fr,se⟩:=σ;simp only at hc hf h0 h1;refine Q8 λR hR=>?_;by_cases hs:se=0
 . subst hs
   by_cases hfit:fr+n<=8*bs.length
   . have htk:=Qap F gf bs fr n w hf (by omega) hfit (λb hb=>(hF b hb).1)
     have HT:=hd_ htk;clear htk;go_enter func298,ntmps298;go_wp2_with fail;refine HT.mono ?_;rintro e w1 ⟨rfl,u1,f1⟩;have r1:Y4 w1 F g gf bs ⟨fr+n,0⟩:=⟨HB.upd u1 hne,f1,hF,by omega,by omega⟩;have hmu:=Zg F g gf bs ⟨fr+n,0⟩ true 0 w1 r1 (by omega) (λh=>by cases h);have HM:=hd_ hmu;have U1:=hd_ u1;have hV:Qj bs / 2^fr%2^n<2^62:=Nat.lt_of_lt_of_le (Nat.mod_lt _ (Nat.two_pow_pos n)) (Nat.pow_le_pow_right (by omega) hn)
     have hts:Qh (Qf bs) n ⟨fr,0⟩=(Qj bs / 2^fr%2^n,⟨fr+n,0⟩):=by
       unfold Qh;rw [if_neg (by simp),if_pos (by simpa using hfit)];simp only [Vr]
     have hms:Qk true 0 ⟨fr+n,0⟩=(true,⟨fr+n,0⟩):=rfl;rw [hms]at hmu;rw [hts]at hR;have HM:=hd_ hmu;clear hmu r1 u1 f1 hts hms HT;generalize Qj bs / 2^fr%2^n=V at *;(have hV1:(V:Int)<4611686018427387904:=by(have:(2:Nat)^62=4611686018427387904:=by decide);omega);(have hV0:wrap64 (V:Int)=V:=by unfold wrap64;omega);clear hV;go_wp2_with fail;refine HM.mono ?_;rintro e w2 ⟨rfl,u2,r2⟩;have R2:=hd_ r2;have U2:=hd_ u2;clear r2 u2;go_wp2_with fail;(try go_ret);exact hR _ _ ⟨rfl,(U1.mono (λb _ h=>Or.inr h)).trans' U2.out,R2.out⟩
   have htk:=Q5R F gf bs fr n w hf (by omega) (by omega);have HT:=hd_ htk;clear htk
   have hts:Qh (Qf bs) n ⟨fr,0⟩=(0,⟨fr,3⟩):=by
     unfold Qh;rw [if_neg (by simp),if_neg (by simpa using hfit)]
   rw [hts]at hR;clear hts;go_enter func298,ntmps298;go_wp2_with fail;refine HT.mono ?_;rintro e w1 ⟨rfl,f1⟩;have r1:Y4 w1 F g gf bs ⟨fr,0⟩:=⟨HB.fresh f1,hf.fresh f1,hF,by omega,by omega⟩;have hmu:=Zg F g gf bs ⟨fr,0⟩ false 3 w1 r1 (by omega) (λ_=>by omega);have hms:Qk false 3 ⟨fr,0⟩=(false,⟨fr,3⟩):=rfl;rw [hms]at hmu;have HM:=hd_ hmu;have U1:=hd_ f1;clear hmu hms r1 f1 HT;go_wp2_with fail;refine HM.mono ?_;rintro e w2 ⟨rfl,u2,r2⟩;have R2:=hd_ r2;have U2:=hd_ u2;clear r2 u2;go_wp2_with fail;(try go_ret);exact hR _ _ ⟨rfl,(U1.mono (λb _ h=>h.elim)).trans' U2.out,R2.out⟩
 (have hs':(se != 0)=true:=by simpa using hs);go_enter func298,ntmps298;go_wp2;(try go_ret);exact hR _ _ ⟨by simp [Qh,hs],Upd.refl _ w,by simpa [Qh,hs]using HB.out,by simpa [Qh,hs]using hf,hF,by simpa [Qh,hs]using⟨h0,h1⟩⟩
theorem Q4v (F:Nat->Prop) (g gf:Nat) (bs:List Nat) (σ:St) (m:Nat) (w:World) (hr:Y4 w F g gf bs σ) (h0:1<=m) (hm:m<=100000) :
   Calls prog 300 #[.pointer (some ⟨g,0,none⟩),.int .i64 m,.func (.func 298) #[.pointer (some ⟨g,0,none⟩)] #[]] w λe' w' =>
     e' = .returned (.int .i64 (QX (Qf bs) m σ).1)/\Upd (Two g gf) w w'/\Y4 w' F g gf bs (QX (Qf bs) m σ).2:=by
 have hc:=Zl m (by omega) (by omega);have hlt:=Q1T m 17 (by omega) (by omega) (by omega);have hcut:=Qad m w h0 hm;have hu:Jh m=2^(QA m+1)-m:=rfl
 have hdef:QX (Qf bs) m σ=if(Qh (Qf bs) (QA m) σ).1<Jh m then Qh (Qf bs) (QA m) σ
     else(2*(Qh (Qf bs) (QA m) σ).1+(Qh (Qf bs) 1 (Qh (Qf bs) (QA m) σ).2).1-Jh m,(Qh (Qf bs) 1 (Qh (Qf bs) (QA m) σ).2).2):=rfl
 (have hu2:Jh m<=2^QA m:=by rw [hu,Nat.pow_succ];omega);have htk:=λw' (h':Y4 w' F g gf bs σ)=>Xl F g gf bs σ (QA m) w' h' (by omega);have ht1:=Jc (Qf bs) (QA m) σ;rw [hdef];generalize Qh (Qf bs) (QA m) σ=X at *;have htk2:=λw' (h':Y4 w' F g gf bs X.2)=>Xl F g gf bs X.2 1 w' h' (by omega);have ht2:=Jc (Qf bs) 1 X.2;generalize Qh (Qf bs) 1 X.2=Y at *;obtain⟨t,σ1⟩:=X;obtain⟨c,σ2⟩:=Y;simp only at ht1 ht2 htk htk2|-;have h17:2^QA m<=2^16:=Nat.pow_le_pow_right (by omega) (by omega);have HC:=hd_ hcut;have HT:=hd_ htk;have HT2:=hd_ htk2;have hr0:=λk=>show Y4 (w.drewN k) F g gf bs σ from hr;have HR:=hd_ hr0;clear hcut htk htk2 hr hr0 hu hdef hc;generalize Jh m=u at *;generalize QA m=b at *;(have tI:(t:Int)<=65536:=by omega);(have cI:(c:Int)<=1:=by omega);(have uI:(u:Int)<=65536:=by omega);refine Q8 λR hR=>?_;by_cases hcs:t<u
 . rw [if_pos hcs]at hR
   go_enter func300,ntmps300;go_wp2_with (go_at_call 312;refine HC.mono ?_;rintro e w' ⟨rfl,kk,rfl⟩);refine(HT _ (HR kk)).mono ?_;rintro e w1 ⟨rfl,u1,r1⟩;have R1:=hd_ r1;clear r1;go_wp2;(try go_ret);exact hR _ _ ⟨by rfl,((Upd.refl _ w).drewN kk).trans' u1,R1.out⟩
 rw [if_neg hcs]at hR;(have e1:((2*t+c-u:Nat):Int)=2*t+c-u:=by omega);have E1:=hd_ e1;clear e1;go_enter func300,ntmps300;go_wp2_with (go_at_call 312;refine HC.mono ?_;rintro e w' ⟨rfl,kk,rfl⟩);refine(HT _ (HR kk)).mono ?_;rintro e w1 ⟨rfl,u1,r1⟩;have R1:=hd_ r1;clear r1;go_wp2_with fail;refine(HT2 _ R1.out).mono ?_;rintro e w2 ⟨rfl,u2,r2⟩;have R2:=hd_ r2;clear r2;go_wp2;(try go_ret);exact hR _ _ ⟨J6 (by rw [E1.out]),(((Upd.refl _ w).drewN kk).trans' u1).trans' u2,R2.out⟩
theorem Y4.lt {w:World} {F:Nat->Prop} {g gf:Nat} {bs:List Nat} {σ:St} (h:Y4 w F g gf bs σ):g<w.heap.size/\gf<w.heap.size:=by
 obtain⟨h1,h2,_⟩:=h;obtain⟨cs,h3⟩:=h2.blk;exact⟨h1.lt,h3.lt⟩
def ZT (k:Nat):List Value:=List.replicate k (.int .i64 0)
theorem Q4w (F:Nat->Prop) (g gf:Nat) (bs:List Nat) (σ:St) (room:Int) (w:World) (hr:Y4 w F g gf bs σ) (hroom:room<=256) (hroom':-1000000<=room) (hF:∀b,F b->b<w.heap.size) :
   Calls prog 301 #[.pointer (some ⟨g,0,none⟩),.int .i64 room,.func (.func 298) #[.pointer (some ⟨g,0,none⟩)] #[]] w λe' w' =>
     ∃v,e' = .returned v/\Own w' 3 v (ZT (QB room (Qf bs) 300 3 0 σ).1)/\Upd (Two g gf) w w'/\Y4 w' F g gf bs (QB room (Qf bs) 300 3 0 σ).2 /\
       (∀b,v.ownBlock=some b->w.heap.size<=b)/\(QB room (Qf bs) 300 3 0 σ).1<=300:=by
 obtain⟨T,hT⟩:=nm_ (QB room (Qf bs) 300 3 0 σ);rw [<-hT];have HT:=hd_ hT;have HR:=hd_ hr;clear hr hT;refine Q8 λR hR=>?_;go_enter func301,ntmps301;go_wp2_with fail
 go_loopg [6,7] 300 (λf vl vk wr=>∃(k len:Nat) (σ':St),vk = .int .i64 k/\Own wr 3 vl (ZT len)/\Upd (Two g gf) w wr/\Y4 wr F g gf bs σ'/\(∀b,vl.ownBlock=some b->w.heap.size<=b) /\
   QB room (Qf bs) f k len σ'=T/\k<=3/\len<=300/\(k=3->len+3*f<=900/\900<=len+3*f))
 case atStart=>exact⟨3,0,σ,rfl,Own.nil _ _,Upd.refl _ _,HR.out,by simp [Value.ownBlock],HT.symm,by omega,by omega,by omega⟩
 case round =>
   obtain⟨k,len,σ',rfl,ho,hu,hrd,hbl,htot,hk3,hlen,hinv⟩:=hrel;obtain⟨A,n,c,rfl,hn⟩:=ho.form';(have hnl:n=len:=by simpa [ZT]using hn.out);subst hnl;have HO:=hd_ ho;have HRD:=hd_ hrd;have HTOT:=hd_ htot;have HU:=hd_ hu;have HBL:=hd_ hbl;have HINV:=hd_ hinv;clear ho hrd htot hu hbl hn hinv;by_cases hk:k=3
   . subst hk
     obtain⟨hi1,hi2⟩:=HINV rfl;obtain⟨f,rfl⟩:∃f,gk=f+1:=⟨gk-1,by omega⟩;(have hnI:(n:Int)<=300:=by omega);have hm:=Zg F g gf bs σ' (decide ((n:Int)<room)) 13 wr HRD.out (by omega) (by omega);have ht:=HTOT.out;simp only [QB,if_true]at ht;by_cases hok:(Qk (decide ((n:Int)<room)) 13 σ').1=true
     . obtain⟨he1,he2⟩:=YS hok
       rw [if_pos hok,he1]at ht;rw [hok,he1,he2]at hm;(have hltr:(n:Int)<room:=by simpa using he2);have htk:=Jc (Qf bs) 2 σ';have hcall:=λw' (h':Y4 w' F g gf bs σ')=>Xl F g gf bs σ' 2 w' h' (by omega);generalize Qh (Qf bs) 2 σ'=X at *;obtain⟨x,σ2⟩:=X;simp only at ht htk hcall;have HM:=hd_ hm;have HC:=hd_ hcall;have HT2:=hd_ ht;clear hm hcall ht he1 he2 hok;(have hxI:(x:Int)<=3:=by omega);go_wp2_with fail;refine HM.mono ?_;rintro e w1 ⟨rfl,u1,r1⟩;have R1:=hd_ r1;have U1:=hd_ (HU.trans' u1);have hlt0:=HR.lt;(have hgl:∀b,(Value.slice A n c).ownBlock=some b->¬Two g gf b:=λb hb h=>by have:=HBL b hb;rcases h with h|h<;>omega);have O1:=hd_ (HO.upd u1 hgl);clear r1 u1;go_wp2_with fail;refine(HC _ R1.out).mono ?_;rintro e w2 ⟨rfl,u2,r2⟩;have R2:=hd_ r2;have U2:=hd_ (U1.trans' u2);have O2:=hd_ (O1.upd u2 hgl);clear r2 u2 R1 U1 O1;go_wp2_with (at_builtin;go_must (refine Vg _ rfl (.tmp 20) (.tmp 21) _ _ rfl 3 (.int .i64 0) 8 .i64 .i64 underlying33 underlying3 QV rfl rfl _ _ rfl O2.out x rfl (by omega) (by simp [ZT];omega) ?_));intro v' w3 o3 g3 a3;have u3:Upd (λb=>(Value.slice A n c).ownBlock=some b) w2 w3:=(Upd.refl _ _).grown g3 (λk hk _=>hk);have R3:=hd_ (R2.upd u3 (λh=>hgl _ h (.inl rfl)) (λh=>hgl _ h (.inr rfl)) (λb hb h=>by have h1:=hF b hb;have h2:=HBL b h;omega));have U3:=hd_ (U2.trans u3 (λb hb h=>by have:=HBL b h;omega));have B3:=hd_ (Yj (S:=λk=>w.heap.size<=k) a3 HBL.out (U2.size));have O3:=hd_ o3;clear o3 g3 a3 u3 R2 U2 O2;go_wp2;go_roundg f
       case measure=>omega
       case rel =>
         refine⟨x,n+x,σ2,rfl,?_,U3.out,R3.out,B3.out,HT2.out,by omega,by omega,by omega⟩;have:=O3.out;simpa [ZT,List.replicate_append_replicate]using this
     rw [if_neg hok]at ht;(have hok':(Qk (decide ((n:Int)<room)) 13 σ').1=false:=by simpa using hok);rw [hok']at hm;have HM:=hd_ hm;have HT2:=hd_ ht;clear hm ht hok hok';go_wp2_with fail;refine HM.mono ?_;rintro e w1 ⟨rfl,u1,r1⟩;have R1:=hd_ r1;have U1:=hd_ (HU.trans' u1);have hlt0:=HR.lt;(have hgl:∀b,(Value.slice A n c).ownBlock=some b->¬Two g gf b:=λb hb h=>by have:=HBL b hb;rcases h with h|h<;>omega);have O1:=hd_ (HO.upd u1 hgl);clear r1 u1;go_wp2;(try go_ret);have:=HT2.out;refine hR.out _ _ ⟨_,rfl,?_,U1.out,?_,HBL.out,?_⟩
     . rw [<-this];exact O1.out
     . rw [<-this];exact R1.out
     rw [<-this];exact hlen
   (have hk':((k:Int) == 3)=false:=by simp;omega);have ht:=HTOT.out
   have ht2:(n,σ')=T:=by
     rw [<-ht]
     cases gk with
     | zero=>rfl
     | succ f=>simp [QB,hk]
   go_wp2;(try go_ret);refine hR.out _ _ ⟨_,rfl,?_,HU.out,?_,HBL.out,?_⟩
   . rw [<-ht2];exact HO.out
   . rw [<-ht2];exact HRD.out
   rw [<-ht2];exact hlen
theorem Q2x (N:List Int) (z:Int):Q7 N++[.int .i64 z]=Q7 (N++[z]):=by simp [Q7]
theorem Q5S (N:List Int) (k:Nat):Q7 N++ZT k=Q7 (N++List.replicate k 0):=by simp [Q7,ZT]
def Q35 (P:Program) (fn:Func) (R:Ending->World->Prop) (H:Nat) (lg:Int) (v:Value) (W:World):Prop :=
  ∀tmps:Array Value,tmps.getD 6 undef = .pointer (some ⟨H,0,none⟩)->bodyPost P fn R .ret { tmps:=tmps,defers:=[] } W
theorem Kx (w:World) (H:Nat) (u v:Value):Upd (λb=>b=H) w ((w.setCell ⟨H,0,none⟩ u).setCell ⟨H,1,none⟩ v) :=
 ((Upd.refl (λb=>b=H) w).setCell (p:=⟨H,0,none⟩) (λ_=>rfl) u).setCell (p:=⟨H,1,none⟩) (λ_=>rfl) v
theorem Q5T (k:Nat):∀u∈ZT k,u.oneCell'=true:=by
 intro u hu;rw [(List.mem_replicate.1 hu).2];rfl
theorem Q7L (F:Nat->Prop) (g gf:Nat) (bs:List Nat) (sy lb:Int) (w:World) (hr:Y4 w F g gf bs ⟨0,0⟩) (hsy:sy<=256) (hF:∀b,F b->b<w.heap.size) :
   Calls prog 268 #[.pointer (some ⟨g,0,none⟩),.int .i64 sy,.int .i64 lb] w λe' w' =>
     ∃v,e' = .returned (.agg #[.int .i64 (Z9 sy lb (Qf bs)).1,v])/\Own w' 3 v (Q7 (Z9 sy lb (Qf bs)).2.1)/\Upd (Two g gf) w w'/\Y4 w' F g gf bs (Z9 sy lb (Qf bs)).2.2 /\
       (∀b,v.ownBlock=some b->w.heap.size<=b)/\(Z9 sy lb (Qf bs)).2.1.length<=1000:=by
 have hmf:∀(fn:Fn) (first cap:Array Value) (w:World),(Instr.makeFunc fn first cap).run prog w = .ok (.func fn first cap) w:=λ_ _ _ _=>rfl;have hlt0:=hr.lt
 have hdef:Z9 sy lb (Qf bs)=if(Qk (decide (((Qh (Qf bs) 4 ⟨0,0⟩).1:Int)+1<=min lb 9)) 13 (Qh (Qf bs) 4 ⟨0,0⟩).2).1 then
     ((Qh (Qf bs) 4 ⟨0,0⟩).1+1,Qv sy (Qf bs) 600 (2^((Qh (Qf bs) 4 ⟨0,0⟩).1+1)) [] false (Qk (decide (((Qh (Qf bs) 4 ⟨0,0⟩).1:Int)+1<=min lb 9)) 13 (Qh (Qf bs) 4 ⟨0,0⟩).2).2)
     else((Qh (Qf bs) 4 ⟨0,0⟩).1+1,[],(Qk (decide (((Qh (Qf bs) 4 ⟨0,0⟩).1:Int)+1<=min lb 9)) 13 (Qh (Qf bs) 4 ⟨0,0⟩).2).2):=rfl
 obtain⟨T,hT⟩:=nm_ (Z9 sy lb (Qf bs));rw [<-hT]at hdef|-;clear hT;have htk:=λw' (h':Y4 w' F g gf bs ⟨0,0⟩)=>Xl F g gf bs ⟨0,0⟩ 4 w' h' (by omega);have htl:=Jc (Qf bs) 4 ⟨0,0⟩;generalize Qh (Qf bs) 4 ⟨0,0⟩=X at *;obtain⟨x,σ1⟩:=X;simp only at hdef htk htl;have hmu:=λw' (h':Y4 w' F g gf bs σ1)=>Zg F g gf bs σ1 (decide ((x:Int)+1<=min lb 9)) 13 w' h' (by omega) (by omega);(have hxI:(x:Int)<=15:=by omega);have HT:=hd_ htk;have HMU:=hd_ hmu;have HD:=hd_ hdef;obtain⟨H,hH⟩:=nm_ (w.heap.size);have HH:=hd_ hH;have f0:Q0 w (w.alloc (.cells #[.int .i64 0,.slice none 0 0] 205)):=(Upd.refl _ w).alloc _;have b0:Blk (w.alloc (.cells #[.int .i64 0,.slice none 0 0] 205)) H 205 #[.int .i64 0,.slice none 0 0]:=Qb hH _ _;have R0:=hd_ (hr.fresh f0);have F0:=hd_ f0;have B0:=hd_ b0;rw [<-hH]at hlt0;clear htk hmu hdef hH f0 b0 hr;refine Q8 λR hR=>?_;go_enter func268,ntmps268;go_wp2_with fail;rw [<-HH.out];refine(HT _ R0.out).mono ?_;rintro e w1 ⟨rfl,u1,r1⟩;(have hH2:¬Two g gf H:=by unfold Two;omega);have b1:=B0.upd u1 hH2;have hz10:=b1.frozen 0;have hc10:=b1.cell 0;simp only [List.getElem?_toArray,List.getElem?_cons_zero]at hc10;have B1:=hd_ b1;have R1:=hd_ r1;have U1:=hd_ ((F0.mono (T:=Two g gf) (λ_ _ h=>h.elim)).trans' u1);clear b1 r1 u1;go_wp2_with fail;have uh:Upd (λb=>b=H) w1 (w1.setCell ⟨H,0,none⟩ (.int .i64 ((x:Int)+1))):=(Upd.refl (λb=>b=H) w1).setCell (p:=⟨H,0,none⟩) (λ_=>rfl) _;have r2:=R1.upd uh (by omega) (by omega) (λb hb e=>by have:=hF b hb;have:=HH.out;omega);have u2:Upd (Two g gf) w (w1.setCell ⟨H,0,none⟩ (.int .i64 ((x:Int)+1))):=U1.setCell (p:=⟨H,0,none⟩) (λh=>by have:=HH.out;simp at h;omega) _;have b2:=B1.set_ 0 (.int .i64 ((x:Int)+1));refine(HMU _ r2).mono ?_;rintro e w3 ⟨rfl,u3,r3⟩;have b3:=b2.upd u3 hH2;have U3:=hd_ (u2.trans' u3);have R3:=hd_ r3;have hc3:=b3.cell 0;have hc31:=b3.cell 1;have hz30:=b3.frozen 0;have hz31:=b3.frozen 1;simp at hc3 hc31;have B3:=hd_ b3;clear b3 r3 u3 r2 u2 b2 uh R1 U1 B1 hc10 hz10;by_cases hok:(Qk (decide ((x:Int)+1<=min lb 9)) 13 σ1).1=true
 . obtain⟨he1,he2⟩:=YS hok
   have hd:=HD.out;rw [if_pos hok,he1]at hd;rw [he1]at R3;simp only [hok];(have hx9:x+1<=9:=by(have:(x:Int)+1<=min lb 9:=by simpa using he2);omega);(have hx9I:(x:Int)+1<=9:=by omega);have HD2:=hd_ hd;clear hd HD hok he1 he2 HMU HT;have hw64:wrap64 (2^(x+1))=((2^(x+1):Nat):Int):=Q5v _ hx9;have hp512:2^(x+1)<=512:=Nat.le_trans (Nat.pow_le_pow_right (n:=2) (by omega) hx9) (by decide);obtain⟨P2,hP2⟩:=nm_ (2^(x+1));rw [<-hP2]at hw64 hp512 HD2;have HW:=hd_ hw64;clear hw64 hP2;go_wp2_with fail
   have hexit:∀(wX:World) (A:Option Addr) (n c:Nat) (N:List Int) (σ:St),Blk wX H 205 #[.int .i64 ((x:Int)+1),.slice A n c]->Own wX 3 (.slice A n c) (Q7 N) ->
       (∀b,(Value.slice A n c).ownBlock=some b->H<b)->Upd (Two g gf) w wX->Y4 wX F g gf bs σ->(N,σ)=T.2->N.length<=1000 ->
       Q35 prog Tryz.f268 R H ((x:Int)+1) (.slice A n c) ((wX.setCell ⟨H,0,none⟩ (.int .i64 ((x:Int)+1))).setCell ⟨H,1,none⟩ (.slice A n c)):=by
     intro wX A n c N σ hb ho hob hu hrd ht hl tmps ht6;have b4:=(hb.set_ 0 (.int .i64 ((x:Int)+1))).set_ 1 (.slice A n c);(have b5:Blk ((wX.setCell ⟨H,0,none⟩ (.int .i64 ((x:Int)+1))).setCell ⟨H,1,none⟩ (.slice A n c)) H 205 #[.int .i64 ((x:Int)+1),.slice A n c]:=by simpa using b4);have hset:=Kx wX H (.int .i64 ((x:Int)+1)) (.slice A n c);refine bodyPost_ret (v:=.agg #[.int .i64 ((x:Int)+1),.slice A n c]) (results_cell_row rfl _ _ H _ _ _ _ ht6 b5 underlying205 rfl (by kernel_rfl)) rfl ?_;(have e1:T.1=x+1:=by rw [HD2.out]);(have e2:T.2.1=N:=by rw [<-ht]);(have e3:T.2.2=σ:=by rw [<-ht]);refine hR.out _ _ ⟨.slice A n c,?_,?_,?_,?_,?_,?_⟩
     . rw [e1];simp
     . rw [e2];exact ho.upd hset (λb hb h=>by have:=hob b hb;omega)
     . exact hu.trans hset (λb hb h=>by have:=HH.out;omega)
     . rw [e3];exact hrd.upd hset (by omega) (by omega) (λb hb e=>by have:=hF b hb;have:=HH.out;omega)
     . intro b hb;have:=hob b hb;have:=HH.out;omega
     rw [e2];exact hl
   have HX:=hd_ hexit;clear hexit hR
   go_loopg [8,9] 600 (λf vl vr wr=>∃(L:Nat) (N:List Int) (ran:Bool) (v:Value) (σ:St),vl = .int .i64 L/\vr = .bool ran/\Blk wr H 205 #[.int .i64 ((x:Int)+1),v]/\Own wr 3 v (Q7 N) /\
     (∀b,v.ownBlock=some b->H<b)/\Upd (Two g gf) w wr/\Y4 wr F g gf bs σ/\Qv sy (Qf bs) f L N ran σ=T.2/\L<=512/\600<=f+min N.length 256/\N.length<=600)
   case atStart=>exact⟨P2,[],false,_,σ1,by rw [<-HW.out],rfl,by simpa using B3.out,Own.nil _ _,by simp [Value.ownBlock],U3.out,R3.out,by rw [HD2.out],hp512,by simp,by simp⟩
   case round =>
     obtain⟨L,N,ran,v,σ,rfl,rfl,hb,ho,hob,hu,hrd,htot,hL,hf,hNl⟩:=hrel;obtain⟨A,n,c,rfl,hn⟩:=ho.form';(have hnN:n=N.length:=by simpa using hn.out);have B4:=hd_ hb;have O4:=hd_ ho;have OB:=hd_ hob;have U4:=hd_ hu;have R4:=hd_ hrd;have HTOT:=hd_ htot;have HNN:=hd_ hnN;have hc40:=hb.cell 0;have hc41:=hb.cell 1;have hz40:=hb.frozen 0;have hz41:=hb.frozen 1;simp at hc40 hc41;(have hnI:(n:Int)<=600:=by omega);clear hb ho hob hu hrd htot hn hnN B3 U3 R3 hc3 hc31 hz30 hz31 B0 R0 F0;obtain⟨f,rfl⟩:∃f,gk=f+1:=⟨gk-1,by omega⟩;by_cases hL0:0<L
     . have hL1:0<(L:Int):=by omega
       have hmu:=Zg F g gf bs σ (decide ((n:Int)<sy)) 13 wr R4.out (by omega) (by omega);by_cases hok1:(Qk (decide ((n:Int)<sy)) 13 σ).1=true
       . obtain⟨he1,he2⟩:=YS hok1
         have HOK1:=hd_ (show(Qk (decide ((N.length:Int)<sy)) 13 σ).1=true by rw [<-HNN.out];exact hok1);rw [hok1,he1,he2]at hmu;(have hns:(n:Int)<sy:=by simpa using he2);have HM:=hd_ hmu;clear hmu hok1 he1 he2;go_wp2_with fail;refine HM.mono ?_;rintro e w5 ⟨rfl,u5,r5⟩;(have hgl:∀b,(Value.slice A n c).ownBlock=some b->¬Two g gf b:=λb hb h=>by have:=OB b hb;rcases h with h|h<;>omega);have b5:=B4.upd u5 hH2;have o5:=O4.upd u5 hgl;have B5:=hd_ b5;have O5:=hd_ o5;have R5:=hd_ r5;have U5:=hd_ (U4.trans' u5);clear b5 o5 r5 u5 B4 O4 R4 U4 hc40 hc41 hz40 hz41;have hnum:=Q4v F g gf bs σ (L+2) w5 R5.out (by omega) (by omega);have hnl:=Xk (Qf bs) (L+2) σ (by omega) (by omega);obtain⟨Y,hY⟩:=nm_ (QX (Qf bs) (L+2) σ);rw [<-hY]at hnum hnl;obtain⟨y,σ6⟩:=Y;simp only at hnum hnl;have HY:=hd_ hY.symm;clear hY;have HNU:=hd_ hnum;clear hnum HM;go_wp2_with fail;rw [show(L:Int)+2=((L+2:Nat):Int) by omega];refine HNU.mono ?_;rintro e w6 ⟨rfl,u6,r6⟩;have b6:=B5.upd u6 hH2;have o6:=O5.upd u6 hgl;have B6:=hd_ b6;have O6:=hd_ o6;have R6:=hd_ r6;have U6:=hd_ (U5.trans' u6);clear b6 o6 r6 u6 B5 O5 R5 U5 HNU;(have hyI:(y:Int)<=513:=by omega);by_cases hy1:y=1
         . subst hy1
           cases ran
           . have hbb:(((1:Nat):Int)-1 != 0 || !false)=true:=rfl
             have HBB:=hd_ hbb;clear hbb;have hmu2:=Zg F g gf bs σ6 true 13 w6 R6.out (by omega) (by omega);have HM2:=hd_ hmu2;clear hmu2;go_wp2_with fail;refine HM2.mono ?_;rintro e w7 ⟨rfl,u7,r7⟩;have b7:=B6.upd u7 hH2;have O7:=hd_ (O6.upd u7 hgl);have R7:=hd_ r7;have U7:=hd_ (U6.trans' u7);clear r7 u7 B6 O6 R6 U6 HM2;by_cases hk2:(Qk true 13 σ6).1=true
             . have hte:=(YS hk2).1
               rw [hte]at R7;simp only [hk2];have htn:=VM sy (Qf bs) f L N false σ 1 σ6 hL0 HOK1.out HY.out (by rw [HBB.out];exact hk2) rfl;rw [HTOT.out]at htn;have HTN:=hd_ htn.symm;clear htn hte;have hc70:=b7.cell 0;have hc71:=b7.cell 1;have hz70:=b7.frozen 0;have hz71:=b7.frozen 1;have hbl:=b7.lt;simp at hc70 hc71;have B7:=hd_ b7;(have hn1000:(Q7 N).length+1<=2^40:=by simp;omega);clear b7 hk2;go_wp2_with (at_builtin;go_must (refine Qm _ rfl (.tmp 57) (.tmp 59) _ rfl 3 _ 8 underlying33 QV rfl _ _ rfl (O7.alloc _) _ _ _ _ rfl (Rd.one w7 3 (.int .i64 0)) (by simp [Value.oneCell']) (by omega) hn1000 ?_));intro v' w8 o8 g8 a8;have u8:Upd (λb=>(Value.slice A n c).ownBlock=some b) w7 w8:=((Upd.refl _ w7).alloc _).grown g8 (λk hk _=>hk);have hHown:¬(Value.slice A n c).ownBlock=some H:=O7.ne_blk B7.out (by decide);have b8:=B7.upd u8 hHown;have R8:=hd_ (R7.upd u8 (λh=>hgl _ h (.inl rfl)) (λh=>hgl _ h (.inr rfl)) (λb hb h=>by have:=hF b hb;have:=OB b h;have:=HH.out;omega));have U8:=hd_ (U7.trans u8 (λb hb h=>by have:=OB b h;have:=HH.out;omega));have OB8:=hd_ (Yj (S:=λk=>H<k) a8 OB.out (by omega));rw [Q2x]at o8;obtain⟨A8,n8,c8,rfl,hn8⟩:=o8.form';(have hn8':n8=N.length+1:=by simpa using hn8.out);have hc81:=b8.cell 1;have hc80:=b8.cell 0;have hz81:=b8.frozen 1;have hz80:=b8.frozen 0;simp at hc81 hc80;have B8:=hd_ b8;have O8:=hd_ o8;have HN8:=hd_ hn8';(have hn8I:(n8:Int)<=601:=by omega);(have hn8J:(n8:Int)=n+1:=by have:=HNN.out;omega);have HN9:=hd_ hn8J;clear b8 o8 g8 a8 u8 hn8 hn8' hc70 hc71 hz70 hz71 O7 R7 U7 hn8J;have hset:Upd (λb=>b=H) w8 (w8.setCell ⟨H,1,none⟩ (.slice A8 n8 c8)):=(Upd.refl (λb=>b=H) w8).setCell (p:=⟨H,1,none⟩) (λ_=>rfl) _;have B9:=hd_ (show Blk (w8.setCell ⟨H,1,none⟩ (.slice A8 n8 c8)) H 205 #[.int .i64 ((x:Int)+1),.slice A8 n8 c8] by simpa using B8.set_ 1 (.slice A8 n8 c8));have O9:=hd_ (O8.upd hset (λb hb h=>by have:=OB8 b hb;omega));have R9:=hd_ (R8.upd hset (by omega) (by omega) (λb hb e=>by have:=hF b hb;have:=HH.out;omega));have U9:=hd_ (U8.trans hset (λb hb h=>by have:=HH.out;omega));clear hset;(have hN256:N.length<256:=by have:=HNN.out;omega);have hset:Upd (λb=>b=H) w8 (w8.setCell ⟨H,1,none⟩ (.slice A8 n8 c8)):=(Upd.refl (λb=>b=H) w8).setCell (p:=⟨H,1,none⟩) (λ_=>rfl) _;(have b9:Blk (w8.setCell ⟨H,1,none⟩ (.slice A8 n8 c8)) H 205 #[.int .i64 ((x:Int)+1),.slice A8 n8 c8]:=by simpa using B8.set_ 1 (.slice A8 n8 c8));have o9:=O8.upd hset (λb hb h=>by have:=OB8 b hb;omega);have r9:=R8.upd hset (by omega) (by omega) (λb hb e=>by have:=hF b hb;have:=HH.out;omega);have u9:=U8.trans hset (λb hb h=>by have:=HH.out;omega)
               go_wp2_with fail;clear hset;generalize w8.setCell ⟨H,1,none⟩ (.slice A8 n8 c8)=w9 at *;have hc91:=b9.cell 1;have hz91:=b9.frozen 1;simp at hc91;(have hF9:∀b,F b->b<w9.heap.size:=λb hb=>by have:=hF b hb;have:=u9.size;omega);have hsub:IntKind.i64.wrap (sy-n8)=sy-n8:=IntWalk.i64_in _ (by have:=HN9.out;omega);(have hro1:sy-(n8:Int)<=256:=by omega);(have hro2:-1000000<=sy-(n8:Int):=by have:=HN9.out;omega);(have hgl9:∀b,(Value.slice A8 n8 c8).ownBlock=some b->¬Two g gf b:=λb hb h=>by have:=OB8 b hb;rcases h with h|h<;>omega);have hH9:=b9.lt;(have hlen9:(Q7 (N++[0])).length+300<=2^40:=by simp;omega);clear B8 O8 R8 U8 hc80 hc81 hz80 hz81;have hHo:some H≠(Value.slice A8 n8 c8).ownBlock:=(o9.ne_blk b9 (by decide)).symm;have hno:=Q4w F g gf bs σ6 (sy-n8) w9.drew r9 hro1 hro2 hF9
               go_region_law ((first
                   | (refine Q8N _ (by rfl) (.tmp 72) (.tmp 80) _ (by rfl) 3 _ 8 underlying33 QV rfl (.slice A8 n8 c8) _ (by rfl) (o9.drew.upd u10 hgl9) _ _ _ _ (by rfl) hrd10 hone10 (by omega) (by omega) ?_
                      intro v11 w11 o11 g11 a11;obtain⟨A11,n11,c11,rfl,hn11⟩:=o11.form'
                      have hz11:w11.frozen? ⟨H,1,none⟩=false:=by
                        rw [World.frozen?_of_block (w:=w10) (g11.block H (Nat.lt_of_lt_of_le hH9 u10.size) hHo),u10.frozen (p:=⟨H,1,none⟩) hH9 hH2];exact hz91
                      have hc11:=g11.cell hc10 hHo)
                   | (go_simp
                      go_at_call 301;refine hno.mono ?_;rintro e w10 ⟨v10,rfl,o10,u10,r10,b10,l10⟩;obtain⟨A10,n10,c10,rfl,hn10⟩:=o10.form';have hrd10:=(o10.rd rfl).2.2;rw [<-hn10.out]at hrd10;(have hl10:n10<=300:=by have:=hn10.out;simp [ZT]at this;omega);have hone10:=Q5T (QB (sy-n8) (Qf bs) 300 3 0 σ6).1
                      have hc10:w10.cell? ⟨H,1,none⟩=some (.slice A8 n8 c8):=(u10.cell (p:=⟨H,1,none⟩) hH9 hH2).trans hc91)))
               all_goals
                 have b10:=b9.drew.upd u10 hH2;have b11:=b10.grown g11 (λe=>hHo e.symm);have b12:=b11.set_ 1 (.slice A11 n11 c11);have ug:Upd (λb=>(Value.slice A8 n8 c8).ownBlock=some b) w10 w11:=(Upd.refl _ w10).grown g11 (λk hk _=>hk);have us:Upd (λb=>b=H) w11 (w11.setCell ⟨H,1,none⟩ (.slice A11 n11 c11)):=(Upd.refl (λb=>b=H) w11).setCell (p:=⟨H,1,none⟩) (λ_=>rfl) _;have ob11:=Yj (S:=λk=>H<k) a11 OB8.out (Nat.lt_of_lt_of_le hH9 u10.size);have r11:=(r10.upd ug (λh=>hgl9 _ h (.inl rfl)) (λh=>hgl9 _ h (.inr rfl)) (λb hb h=>by have:=hF b hb;have:=OB8 b h;have:=HH.out;omega)).upd us (by omega) (by omega) (λb hb e=>by have:=hF b hb;have:=HH.out;omega);have u11:=((u9.drew.trans' u10).trans ug (λb hb h=>by have:=OB8 b h;have:=HH.out;omega)).trans us (λb hb h=>by have:=HH.out;omega);have o12:=o11.upd us (λb hb h=>by have:=ob11 b hb;omega);rw [Q5S]at o12;have HTN2:=HTN.out;rw [<-HN8.out]at HTN2;simp only [Exit.inBlock,Exit.then]
                 first
                   | (go_roundg f
                      case measure=>omega
                      case rel=>exact⟨L,_,true,_,_,rfl,rfl,by simpa using b12,o12,ob11,u11,r11,HTN2,hL,by simp;omega,by simp;omega⟩)
                   | (go_wp2
                      go_roundg f
                      case measure=>omega
                      case rel=>exact⟨L,_,true,_,_,rfl,rfl,by simpa using b12,o12,ob11,u11,r11,HTN2,hL,by simp;omega,by simp;omega⟩)
             (have hk2:(Qk true 13 σ6).1=false:=by simpa using hk2);simp only [hk2];have htf:=Z0 sy (Qf bs) f L N false σ 1 σ6 hL0 HOK1.out HY.out (by rw [HBB.out];exact hk2);rw [HTOT.out,HBB.out]at htf;have HTF:=hd_ htf.symm;have hc70:=b7.cell 0;have hc71:=b7.cell 1;have hz70:=b7.frozen 0;have hz71:=b7.frozen 1;simp at hc70 hc71;have B7:=hd_ b7;have HCX:=hd_ B7.cells;clear htf b7 hk2;go_wp2_with (refine J5 rfl 205 (.tmp 6) rfl H 0 rfl [_,_] _ HCX.out underlying205 rfl (by kernel_rfl) ?_);exact HX w7 A n c N _ B7.out O7.out OB.out U7.out R7.out HTF.out (by omega) _ rfl
           have hbb:(((1:Nat):Int)-1 != 0 || !true)=false:=rfl;have HBB:=hd_ hbb;clear hbb;have hmu2:=Zg F g gf bs σ6 false 13 w6 R6.out (by omega) (by omega);have HM2:=hd_ hmu2;clear hmu2;go_wp2_with fail;refine HM2.mono ?_;rintro e w7 ⟨rfl,u7,r7⟩;have b7:=B6.upd u7 hH2;have O7:=hd_ (O6.upd u7 hgl);have R7:=hd_ r7;have U7:=hd_ (U6.trans' u7);clear r7 u7 B6 O6 R6 U6 HM2;(have hk2:(Qk false 13 σ6).1=false:=by unfold Qk;split<;>rfl);simp only [hk2];have htf:=Z0 sy (Qf bs) f L N true σ 1 σ6 hL0 HOK1.out HY.out (by rw [HBB.out];exact hk2);rw [HTOT.out,HBB.out]at htf;have HTF:=hd_ htf.symm;have hc70:=b7.cell 0;have hc71:=b7.cell 1;have hz70:=b7.frozen 0;have hz71:=b7.frozen 1;simp at hc70 hc71;have B7:=hd_ b7;have HCX:=hd_ B7.cells;clear htf b7 hk2;go_wp2_with (refine J5 rfl 205 (.tmp 6) rfl H 0 rfl [_,_] _ HCX.out underlying205 rfl (by kernel_rfl) ?_);exact HX w7 A n c N _ B7.out O7.out OB.out U7.out R7.out HTF.out (by omega) _ rfl
         (have hyn:((y:Int)-1 != 0)=true:=by simp;omega);(have hbb:((y:Int)-1 != 0 || !ran)=true:=by rw [hyn];rfl);have HBB:=hd_ hbb;clear hbb;have hmu2:=Zg F g gf bs σ6 true 13 w6 R6.out (by omega) (by omega);have HM2:=hd_ hmu2;clear hmu2;go_wp2_with fail;refine HM2.mono ?_;rintro e w7 ⟨rfl,u7,r7⟩;have b7:=B6.upd u7 hH2;have O7:=hd_ (O6.upd u7 hgl);have R7:=hd_ r7;have U7:=hd_ (U6.trans' u7);clear r7 u7 B6 O6 R6 U6 HM2;by_cases hk2:(Qk true 13 σ6).1=true
         . have hte:=(YS hk2).1
           rw [hte]at R7;simp only [hk2];have htn:=Q05 sy (Qf bs) f L N ran σ y σ6 hL0 HOK1.out HY.out (by rw [HBB.out];exact hk2) (by omega);rw [HTOT.out]at htn;have HTN:=hd_ htn.symm;clear htn hte;have hc70:=b7.cell 0;have hc71:=b7.cell 1;have hz70:=b7.frozen 0;have hz71:=b7.frozen 1;have hbl:=b7.lt;simp at hc70 hc71;have B7:=hd_ b7;(have hn1000:(Q7 N).length+1<=2^40:=by simp;omega);clear b7 hk2;go_wp2_with (at_builtin;go_must (refine Qm _ rfl (.tmp 57) (.tmp 59) _ rfl 3 _ 8 underlying33 QV rfl _ _ rfl (O7.alloc _) _ _ _ _ rfl (Rd.one w7 3 (.int .i64 ((y:Int)-1))) (by simp [Value.oneCell']) (by omega) hn1000 ?_));intro v' w8 o8 g8 a8;have u8:Upd (λb=>(Value.slice A n c).ownBlock=some b) w7 w8:=((Upd.refl _ w7).alloc _).grown g8 (λk hk _=>hk);have hHown:¬(Value.slice A n c).ownBlock=some H:=O7.ne_blk B7.out (by decide);have b8:=B7.upd u8 hHown;have R8:=hd_ (R7.upd u8 (λh=>hgl _ h (.inl rfl)) (λh=>hgl _ h (.inr rfl)) (λb hb h=>by have:=hF b hb;have:=OB b h;have:=HH.out;omega));have U8:=hd_ (U7.trans u8 (λb hb h=>by have:=OB b h;have:=HH.out;omega));have OB8:=hd_ (Yj (S:=λk=>H<k) a8 OB.out (by omega));rw [Q2x]at o8;obtain⟨A8,n8,c8,rfl,hn8⟩:=o8.form';(have hn8':n8=N.length+1:=by simpa using hn8.out);have hc81:=b8.cell 1;have hc80:=b8.cell 0;have hz81:=b8.frozen 1;have hz80:=b8.frozen 0;simp at hc81 hc80;have B8:=hd_ b8;have O8:=hd_ o8;have HN8:=hd_ hn8';(have hn8I:(n8:Int)<=601:=by omega);(have hn8J:(n8:Int)=n+1:=by have:=HNN.out;omega);have HN9:=hd_ hn8J;clear b8 o8 g8 a8 u8 hn8 hn8' hc70 hc71 hz70 hz71 O7 R7 U7 hn8J;have hset:Upd (λb=>b=H) w8 (w8.setCell ⟨H,1,none⟩ (.slice A8 n8 c8)):=(Upd.refl (λb=>b=H) w8).setCell (p:=⟨H,1,none⟩) (λ_=>rfl) _;have B9:=hd_ (show Blk (w8.setCell ⟨H,1,none⟩ (.slice A8 n8 c8)) H 205 #[.int .i64 ((x:Int)+1),.slice A8 n8 c8] by simpa using B8.set_ 1 (.slice A8 n8 c8));have O9:=hd_ (O8.upd hset (λb hb h=>by have:=OB8 b hb;omega));have R9:=hd_ (R8.upd hset (by omega) (by omega) (λb hb e=>by have:=hF b hb;have:=HH.out;omega));have U9:=hd_ (U8.trans hset (λb hb h=>by have:=HH.out;omega));clear hset;(have hN256:N.length<256:=by have:=HNN.out;omega);(have hyz:((y:Int)-1 == 0)=false:=by simp;omega);by_cases hneg:(y:Int)-1<0
           . have hmx:max ((y:Int)-1) (-((y:Int)-1))=1:=by omega
             go_wp2;go_roundg f
             case measure=>omega
             case rel=>exact⟨L-((y:Int)-1).natAbs,N++[(y:Int)-1],false,_,σ6,by congr 1;omega,rfl,B9.out,O9.out,OB8.out,U9.out,R9.out,HTN.out,by omega,by simp;omega,by simp;omega⟩
           (have hmx:max ((y:Int)-1) (-((y:Int)-1))=(y:Int)-1:=by omega);go_wp2;go_roundg f
           case measure=>omega
           case rel=>exact⟨L-((y:Int)-1).natAbs,N++[(y:Int)-1],false,_,σ6,by congr 1;omega,rfl,B9.out,O9.out,OB8.out,U9.out,R9.out,HTN.out,by omega,by simp;omega,by simp;omega⟩
         (have hk2:(Qk true 13 σ6).1=false:=by simpa using hk2);simp only [hk2];have htf:=Z0 sy (Qf bs) f L N ran σ y σ6 hL0 HOK1.out HY.out (by rw [HBB.out];exact hk2);rw [HTOT.out,HBB.out]at htf;have HTF:=hd_ htf.symm;have hc70:=b7.cell 0;have hc71:=b7.cell 1;have hz70:=b7.frozen 0;have hz71:=b7.frozen 1;simp at hc70 hc71;have B7:=hd_ b7;have HCX:=hd_ B7.cells;clear htf b7 hk2;go_wp2_with (refine J5 rfl 205 (.tmp 6) rfl H 0 rfl [_,_] _ HCX.out underlying205 rfl (by kernel_rfl) ?_);exact HX w7 A n c N _ B7.out O7.out OB.out U7.out R7.out HTF.out (by omega) _ rfl
       (have hok':(Qk (decide ((n:Int)<sy)) 13 σ).1=false:=by simpa using hok1);have htf:=Kn sy (Qf bs) f L N ran σ hL0 (by rw [<-HNN.out];exact hok');rw [HTOT.out,<-HNN.out]at htf;have HTF:=hd_ htf.symm;rw [hok']at hmu;clear htf;have HM:=hd_ hmu;clear hmu hok1 hok';go_wp2_with fail;refine HM.mono ?_;rintro e w5 ⟨rfl,u5,r5⟩;(have hgl:∀b,(Value.slice A n c).ownBlock=some b->¬Two g gf b:=λb hb h=>by have:=OB b hb;rcases h with h|h<;>omega);have b5:=B4.upd u5 hH2;have o5:=O4.upd u5 hgl;have hc50:=b5.cell 0;have hc51:=b5.cell 1;have hz50:=b5.frozen 0;have hz51:=b5.frozen 1;simp at hc50 hc51;have B5:=hd_ b5;have O5:=hd_ o5;have R5:=hd_ r5;have U5:=hd_ (U4.trans' u5);have HCX:=hd_ B5.cells;clear b5 o5 r5 u5 B4 O4 R4 U4 hc40 hc41 hz40 hz41;go_wp2_with (refine J5 rfl 205 (.tmp 6) rfl H 0 rfl [_,_] _ HCX.out underlying205 rfl (by kernel_rfl) ?_);exact HX w5 A n c N _ B5.out O5.out OB.out U5.out R5.out HTF.out (by omega) _ rfl
     (have hL1:¬(0<(L:Int)):=by omega);(have ht:(N,σ)=T.2:=by rw [<-HTOT.out];simp [Qv,hL0]);have HCX:=hd_ B4.cells;have HT3:=hd_ ht;clear ht;go_wp2_with (refine J5 rfl 205 (.tmp 6) rfl H 0 rfl [_,_] _ HCX.out underlying205 rfl (by kernel_rfl) ?_);exact HX wr A n c N σ B4.out O4.out OB.out U4.out R4.out HT3.out (by omega) _ rfl
 have hd:=HD.out;rw [if_neg hok]at hd;(have hok':(Qk (decide ((x:Int)+1<=min lb 9)) 13 σ1).1=false:=by simpa using hok);simp only [hok'];clear hok;have HD2:=hd_ hd;have HC:=hd_ B3.cells;clear hd HD hok';go_wp2_with (refine J5 rfl 205 (.tmp 6) rfl H 0 rfl [_,_] _ HC.out underlying205 rfl (by kernel_rfl) ?_);have b4:=(B3.set_ 0 (.int .i64 ((x:Int)+1))).set_ 1 (.slice none 0 0);(have b5:Blk ((w3.setCell ⟨H,0,none⟩ (.int .i64 ((x:Int)+1))).setCell ⟨H,1,none⟩ (.slice none 0 0)) H 205 #[.int .i64 ((x:Int)+1),.slice none 0 0]:=by simpa using b4);have hu:=Kx w3 H (.int .i64 ((x:Int)+1)) (.slice none 0 0);refine bodyPost_ret (v:=.agg #[.int .i64 ((x:Int)+1),.slice none 0 0]) (results_cell_row rfl _ _ H _ _ _ _ rfl b5 underlying205 rfl (by kernel_rfl)) rfl ?_;refine hR.out _ _ ⟨.slice none 0 0,?_,?_,?_,?_,?_,?_⟩
 . rw [HD2.out];simp
 . rw [HD2.out];exact Own.nil _ _
 . exact U3.trans hu (λb hb h=>by have:=HH.out;omega)
 . rw [HD2.out];exact R3.upd hu (by omega) (by omega) (λb hb e=>by have:=hF b hb;have:=HH.out;omega)
 . simp [Value.ownBlock]
 rw [HD2.out];simp
end Go.Proofs.YtckjdhaflokcgaaGreat
namespace Go.Proofs.YtckjdhaflokcgaaGreat
open Go.Proofs.Tryz
theorem Q5U (l:List Int):QR l=QR (l.drop (Jy l)):=by
 induction l with
 | nil=>rfl
 | cons n l ih =>
   by_cases hn:n=0
   . subst hn
     rw [KK,List.drop_succ_cons,<-ih,Jf];simp [QP]
   rw [Vt n l hn];rfl
theorem Q4x {L:List Bool} {n:Nat} {σ:St} (h:σ.e≠0):(Qh L n σ).2=σ:=by unfold Qh;rw [if_pos h]
theorem Vj {L:List Bool} {n:Nat} {σ:St} (h:σ.fr<=L.length):(Qh L n σ).2.fr<=L.length:=by
 unfold Qh;split
 . exact h
 split
 . assumption
 exact h
theorem Q3I {b:Bool} {e:Int} {σ:St}:(Qk b e σ).2.fr=σ.fr:=by
 unfold Qk;split
 . split<;>rfl
 rfl
theorem Q5V {L:List Bool} {m:Nat} {σ:St} (h:σ.fr<=L.length):(QX L m σ).2.fr<=L.length:=by
 unfold QX;split
 . exact Vj h
 exact Vj (Vj h)
theorem Q0C {room:Int} {L:List Bool}:∀ {f k len:Nat} {σ:St},σ.fr<=L.length->(QB room L f k len σ).2.fr<=L.length
 | 0,_,_,_,h=>h
 | f+1,k,len,σ,h=>by
   unfold QB
   split
   . split
     . exact Q0C (Vj (by rw [Q3I];exact h))
     rw [Q3I];exact h
   exact h
theorem KS:∀n,Qr n 0=List.replicate n false
 | 0=>rfl
 | n+1=>by rw [List.replicate_succ,<-KS n];rfl
theorem Q1r:∀(k:Nat) (l:List Bool),l.length<=k->Qf (Yr l)=Q3m l
 | _,[],_=>by rfl
 | 0,_::_,h=>by simp at h
 | k+1,b::l,h=>by
   by_cases hs:(b::l).length<=8
   . rw [Q0w _ (by simp) hs,JF,Q0Q,List.append_nil]
     have h1:=Kv (b::l).length (8-(b::l).length) (QI (b::l))
     rw [show(b::l).length+(8-(b::l).length)=8 by omega,JJ,Nat.div_eq_of_lt (Zk _),KS]at h1
     rw [h1]
     unfold Q3m
     congr 2
     simp only [List.length_cons]at hs|-
     omega
   have h2:(b::l)=(b::l).take 8++(b::l).drop 8:=(List.take_append_drop 8 _).symm
   have h3:((b::l).take 8).length=8:=by rw [List.length_take];omega
   have ih:=Q1r k ((b::l).drop 8) (by rw [List.length_drop];simp only [List.length_cons]at h|-;omega)
   have h4:Qf (Yr (b::l))=(b::l).take 8++Q3m ((b::l).drop 8):=by
     have h5:=Q1d ((b::l).take 8) ((b::l).drop 8) h3;rw [<-h2]at h5;rw [h5,JF,ih];have:=JJ ((b::l).take 8);rw [h3]at this;rw [this]
   rw [h4];unfold Q3m;rw [<-List.append_assoc,<-h2,List.length_drop]
   congr 2
   omega
theorem Q7M (bs:List Nat) (k:Nat):Qf (bs.take k)=(Qf bs).take (8*k):=by
 (have h1:Qf bs=Qf (bs.take k)++Qf (bs.drop k):=by rw [<-Kl,List.take_append_drop]);by_cases h:k<=bs.length
 . have hl:(Qf (bs.take k)).length=8*k:=by rw [Yb,List.length_take];omega
   rw [h1,List.take_append_of_le_length (by omega)];exact(List.take_of_length_le (by omega)).symm
 rw [List.take_of_length_le (by omega),List.take_of_length_le (by rw [Yb];omega)]
theorem Q4y:∀n,QI (List.replicate n false)=0
 | 0=>rfl
 | n+1=>by
   have h:=Jn (n+1) 0
   rw [KS]at h
   simpa using h
theorem Q5W (k v:Nat):Qr (k+1) v=Qr k v++[v / 2^k%2 == 1]:=by rw [Kv];rfl
theorem VZ {L:List Bool} {k:Nat} (h:k<L.length):QI (L.drop k)=L[k].toNat+2*QI (L.drop (k+1)):=by
 rw [List.drop_eq_getElem_cons h];rfl
end Go.Proofs.YtckjdhaflokcgaaGreat
