/-
  Joined texts, part 12: contracts and plain lemmas.
  Conditions: none beyond those of each theorem.
-/
import Derived.Test.YtjfdaphjijfieaaGreatN2
import Derived.Test.YtjfdaphjijfieaaGreatN4
set_option linter.unusedVariables false
set_option linter.unusedSimpArgs false
set_option maxRecDepth 100000
universe u
namespace Go.Proofs.YtjfdaphjijfieaaGreat
theorem Q1X (l:List Int):QY l=QY (l.drop (YZ l)):=by
 induction l with
 | nil=>rfl
 | cons n l ih =>
   by_cases hn:n=0
   . subst hn
     rw [Zp,List.drop_succ_cons,<-ih,Yy];simp [QZ]
   rw [ZM n l hn];rfl
theorem Q19 {L:List Bool} {n:Nat} {σ:St} (h:σ.e≠0):(Qa L n σ).2=σ:=by unfold Qa;rw [if_pos h]
theorem ZE {L:List Bool} {n:Nat} {σ:St} (h:σ.fr<=L.length):(Qa L n σ).2.fr<=L.length:=by
 unfold Qa;split
 . exact h
 split
 . assumption
 exact h
theorem Q0m {b:Bool} {e:Int} {σ:St}:(Qd b e σ).2.fr=σ.fr:=by
 unfold Qd;split
 . split<;>rfl
 rfl
theorem Q1Y {L:List Bool} {m:Nat} {σ:St} (h:σ.fr<=L.length):(QS L m σ).2.fr<=L.length:=by
 unfold QS;split
 . exact ZE h
 exact ZE (ZE h)
theorem Vo {room:Int} {L:List Bool}:∀ {f k len:Nat} {σ:St},σ.fr<=L.length->(Qw room L f k len σ).2.fr<=L.length
 | 0,_,_,_,h=>h
 | f+1,k,len,σ,h=>by
   unfold Qw
   split
   . split
     . exact Vo (ZE (by rw [Q0m];exact h))
     rw [Q0m];exact h
   exact h
theorem Zq:∀n,QD n 0=List.replicate n false
 | 0=>rfl
 | n+1=>by rw [List.replicate_succ,<-Zq n];rfl
theorem VO:∀(k:Nat) (l:List Bool),l.length<=k->Q9 (Js l)=Q0j l
 | _,[],_=>by rfl
 | 0,_::_,h=>by simp at h
 | k+1,b::l,h=>by
   by_cases hs:(b::l).length<=8
   . rw [Q16 _ (by simp) hs,Jl,Q0i,List.append_nil]
     have h1:=Xv (b::l).length (8-(b::l).length) (QE (b::l))
     rw [show(b::l).length+(8-(b::l).length)=8 by omega,J9,Nat.div_eq_of_lt (JN _),Zq]at h1
     rw [h1]
     unfold Q0j
     congr 2
     simp only [List.length_cons]at hs ⊢
     omega
   have h2:(b::l)=(b::l).take 8++(b::l).drop 8:=(List.take_append_drop 8 _).symm
   have h3:((b::l).take 8).length=8:=by rw [List.length_take];omega
   have ih:=VO k ((b::l).drop 8) (by rw [List.length_drop];simp only [List.length_cons]at h ⊢;omega)
   have h4:Q9 (Js (b::l))=(b::l).take 8++Q0j ((b::l).drop 8):=by
     have h5:=VN ((b::l).take 8) ((b::l).drop 8) h3;rw [<-h2]at h5;rw [h5,Jl,ih];have:=J9 ((b::l).take 8);rw [h3]at this;rw [this]
   rw [h4];unfold Q0j;rw [<-List.append_assoc,<-h2,List.length_drop]
   congr 2
   omega
theorem Q31 (bs:List Nat) (k:Nat):Q9 (bs.take k)=(Q9 bs).take (8*k):=by
 (have h1:Q9 bs=Q9 (bs.take k)++Q9 (bs.drop k):=by rw [<-ZU,List.take_append_drop]);by_cases h:k<=bs.length
 . have hl:(Q9 (bs.take k)).length=8*k:=by rw [Yj,List.length_take];omega
   rw [h1,List.take_append_of_le_length (by omega)];exact(List.take_of_length_le (by omega)).symm
 rw [List.take_of_length_le (by omega),List.take_of_length_le (by rw [Yj];omega)]
theorem Q1a:∀n,QE (List.replicate n false)=0
 | 0=>rfl
 | n+1=>by
   have h:=Jt (n+1) 0
   rw [Zq]at h
   simpa using h
theorem Q1Z (k v:Nat):QD (k+1) v=QD k v++[v / 2^k%2 == 1]:=by rw [Xv];rfl
theorem Xf {L:List Bool} {k:Nat} (h:k<L.length):QE (L.drop k)=L[k].toNat+2*QE (L.drop (k+1)):=by
 rw [List.drop_eq_getElem_cons h];rfl
def Seg (L:List Bool) (i j:Nat) (X:List Bool):Prop:=i<=j/\j<=L.length/\L.take j=L.take i++X
theorem Seg.refl {L:List Bool} {i:Nat} (h:i<=L.length):Seg L i i []:=⟨Nat.le_refl _,h,by simp⟩
theorem Seg.trans {L:List Bool} {i j k:Nat} {X Y:List Bool} (h:Seg L i j X) (g:Seg L j k Y):Seg L i k (X++Y) :=
 ⟨Nat.le_trans h.1 g.1,g.2.1,by rw [g.2.2,h.2.2,List.append_assoc]⟩
theorem Seg.len {L:List Bool} {i j:Nat} {X:List Bool} (h:Seg L i j X):j=i+X.length:=by
 obtain⟨h1,h2,h3⟩:=h;have:=congrArg List.length h3;rw [List.length_take,List.length_append,List.length_take]at this;omega
theorem Q1C {L:List Bool} {n:Nat} {σ:St} (h:(Qa L n σ).2.e=0):σ.e=0:=by
 by_cases h1:σ.e=0
 . exact h1
 rw [Q19 h1]at h;exact h
theorem Zf {L:List Bool} {n:Nat} {σ:St} (h:(Qa L n σ).2.e=0):Seg L σ.fr (Qa L n σ).2.fr (QD n (Qa L n σ).1):=by
 have h0:=Q1C h;unfold Qa at h ⊢;rw [if_neg (by omega)]at h;rw [if_neg (by omega)];by_cases h2:σ.fr+n<=L.length
 . rw [if_pos h2]
   (have hl:((L.drop σ.fr).take n).length=n:=by rw [List.length_take,List.length_drop];omega);have:=J9 ((L.drop σ.fr).take n);rw [hl]at this;exact⟨by simp,h2,by simp only;rw [this,List.take_add]⟩
 rw [if_neg h2]at h;simp at h
theorem Q1b {L:List Bool} {m:Nat} {σ:St} (h:(QS L m σ).2.e=0):Seg L σ.fr (QS L m σ).2.fr (ZA (QS L m σ).1 m):=by
 unfold QS at h ⊢;by_cases h1:(Qa L (Qx m) σ).1<YT m
 . rw [if_pos h1]at h
   rw [if_pos h1];unfold ZA;rw [if_pos h1];exact Zf h
 rw [if_neg h1]at h;rw [if_neg h1];have s1:=Zf (Q1C h);have s2:=Zf h;have hc:=YL L 1 (Qa L (Qx m) σ).2;generalize Qa L (Qx m) σ=X at *;generalize Qa L 1 X.2=Y at *;simp only;unfold ZA;rw [if_neg (by omega),show 2*X.1+Y.1-YT m+YT m=2*X.1+Y.1 by omega,show(2*X.1+Y.1) / 2=X.1 by omega,<-Q2X 1 (2*X.1+Y.1),show(2*X.1+Y.1)%2^1=Y.1 by omega];exact s1.trans s2
theorem Q04 (z:Nat):JO (3+z)=QD 2 3++JO z:=by
 unfold JO;rw [show(3+z) / 3=z / 3+1 by omega,show(3+z)%3=z%3 by omega,List.replicate_succ,List.flatten_cons,List.append_assoc]
theorem Q05 (z:Nat) (h:z<3):JO z=QD 2 z:=by
 unfold JO;rw [show z / 3=0 by omega,show z%3=z by omega];rfl
theorem Jg {h:Bool} {e:Int} {σ:St} (he:e≠0) (h1:(Qd h e σ).1=false):(Qd h e σ).2.e≠0:=by
 unfold Qd at h1 ⊢;split at h1
 . split at h1
   . simp at h1
   rename_i h2 h3
   rw [if_pos h2,if_neg h3];exact he
 rename_i h2
 rw [if_neg h2];exact h2
theorem JR {h:Bool} {e:Int} {σ:St} (h1:(Qd h e σ).1=true):σ.e=0:=by
 unfold Qd at h1;split at h1
 . assumption
 simp at h1
theorem Zn {room:Int} {L:List Bool} {f k len:Nat} {σ:St} (h:k≠3):Qw room L f k len σ=(len,σ):=by
 cases f with
 | zero=>rfl
 | succ f=>unfold Qw;rw [if_neg h]
theorem KO {room:Int} {L:List Bool}:∀(f len:Nat) (σ:St),0<f->room<=(len:Int)+3*((f:Int)-1)->(Qw room L f 3 len σ).2.e=0 ->
   ∃z,(Qw room L f 3 len σ).1=len+z/\Seg L σ.fr (Qw room L f 3 len σ).2.fr (JO z)
 | 0,_,_,h,_,_=>absurd h (by omega)
 | f+1,len,σ,_,hb,h=>by
   unfold Qw at h ⊢
   rw [if_pos rfl]at h
   rw [if_pos rfl]
   by_cases h2:(Qd (decide ((len:Int)<room)) 13 σ).1=true
   . rw [if_pos h2]at h
     rw [if_pos h2]
     obtain⟨e1,e2⟩:=YC h2
     rw [e1]at h ⊢
     have hlt:(len:Int)<room:=by simpa using e2
     have h4:=YL L 2 σ
     have hs:=Zf (L:=L) (n:=2) (σ:=σ)
     generalize Qa L 2 σ=X at *
     obtain⟨k,σ1⟩:=X
     simp only at h hs h4 ⊢
     by_cases hk:k=3
     . subst hk
       obtain⟨z,hz1,hz2⟩:=KO f (len+3) σ1 (by omega) (by omega) h
       have he:σ1.e=0:=by
         by_cases he:σ1.e=0
         . exact he
         exact absurd (noughtsS_e h) he
       exact⟨3+z,by rw [hz1];omega,by rw [Q04];exact(hs he).trans hz2⟩
     rw [Zn hk]at h ⊢;exact⟨k,rfl,by rw [Q05 k (by omega)];exact hs h⟩
   rw [if_neg h2]at h;exact absurd h (Jg (by omega) (by simpa using h2))
where
  noughtsS_e {room:Int} {L:List Bool}:∀ {f k len:Nat} {σ:St},(Qw room L f k len σ).2.e=0->σ.e=0
  | 0,_,_,_,h=>h
  | f+1,k,len,σ,h=>by
    unfold Qw at h
    split at h
    . split at h
      . rename_i h2
        exact JR h2
      . rename_i h2
        exact absurd h (Jg (by omega) (by simpa using h2))
    . exact h
theorem Q1c (z:Nat) (l:List Int) (h:l.head?≠some 0):YZ (List.replicate z 0++l)=z:=by
 induction z with
 | zero =>
   cases l with
   | nil=>rfl
   | cons a l=>exact ZM a l (by simpa using h)
 | succ z ih=>rw [List.replicate_succ,List.cons_append,Zp,ih]
theorem Vp {l r:List Int} (h0:r≠[]) (h:r[r.length-1]?≠some 0):(l++r)[(l++r).length-1]?≠some 0:=by
 have:0<r.length:=List.length_pos_iff.2 h0;rw [List.length_append,List.getElem?_append_right (by omega),show l.length+r.length-1-l.length=r.length-1 by omega];exact h
theorem Ki {sy:Int} {L:List Bool} (hsy:sy<=256):∀(f left:Nat) (N:List Int) (ran:Bool) (σ:St),σ.fr<=L.length->left<=512->258<=f+min N.length 257->(left=0->(N.length:Int)<=sy) ->
   σ.e=0->(Qr sy L f left N ran σ).2.e=0 ->
   ∃rest,(Qr sy L f left N ran σ).1=N++rest/\Seg L σ.fr (Qr sy L f left N ran σ).2.fr (YD left 0 rest)/\QY rest=left/\(∀n∈rest,-1<=n)/\((N++rest).length:Int)<=sy /\
     (0<left->rest≠[]/\rest[rest.length-1]?≠some 0)/\(ran=true->rest.head?≠some 0)
 | 0,_,N,_,_,_,_,hf,_,_,_=>absurd hf (by omega)
 | f+1,left,N,ran,σ,hfr,hL,hf,hz,h0,h=>by
   by_cases hleft:0<left
   . by_cases hm:(Qd (decide ((N.length:Int)<sy)) 13 σ).1=true
     . have hlt:(N.length:Int)<sy:=by simpa using(YC hm).2
       have hfN:∀z,258<=f+min (List.length (α:=Int) (N++[0]++List.replicate z 0)) 257:=fun z=>by
         have e:List.length (α:=Int) (N++[0]++List.replicate z 0)=N.length+(z+1):=by simp
         rw [e];omega
       obtain⟨Y,hY⟩:=nm_ (QS L (left+2) σ)
       have hyl:=Kj L (left+2) σ (by omega) (by omega)
       have hys:=Q1b (L:=L) (m:=left+2) (σ:=σ)
       have hyf:=Q1Y (L:=L) (m:=left+2) (σ:=σ) hfr
       rw [<-hY]at hyl hys hyf
       obtain⟨y,σ6⟩:=Y
       simp only at hyl hys hyf
       by_cases hm2:(Qd ((y:Int)-1 != 0 || !ran) 13 σ6).1=true
       . have h6:=JR hm2
         have hc:=(YC hm2).2
         have hsg:=hys h6
         by_cases hn:(y:Int)-1=0
         . have hy1:y=1:=by omega
           subst hy1
           rw [ZV sy L f left N ran σ 1 σ6 hleft hm hY.symm hm2 hn]at h ⊢
           have hra:ran=false:=by simpa using hc
           have hno:=KO (room:=sy-(N.length+1:Nat)) (L:=L) 300 0 σ6 (by omega) (by omega)
           have hnf:=Vo (room:=sy-(N.length+1:Nat)) (L:=L) (f:=300) (k:=3) (len:=0) (σ:=σ6) hyf
           generalize Qw (sy-(N.length+1:Nat)) L 300 3 0 σ6=Z at *
           obtain⟨z,σ7⟩:=Z
           simp only at h hno hnf ⊢
           have h7:σ7.e=0:=tableS_e h
           obtain⟨z',hz1,hz2⟩:=hno h7
           rw [Nat.zero_add]at hz1
           subst hz1
           obtain⟨rest,r1,r2,r3,r4,r5,r6,r7⟩:=Ki hsy f left (N++[0]++List.replicate z 0) true σ7 hnf hL (hfN z) (by omega) h7 h
           have hzr:=Q1c z rest (r7 rfl)
           refine⟨0::(List.replicate z 0++rest),?_,?_,?_,?_,?_,?_,?_⟩
           . rw [r1];simp
           . rw [Q06,hzr,KG left z _ (by simp),List.drop_left' (by simp)]
             exact hsg.trans (hz2.trans r2)
           . rw [Yy,Q1X,hzr,List.drop_left' (by simp),r3]
             simp [QZ]
           . intro n hn
             rcases List.mem_cons.1 hn with hn|hn
             . omega
             rcases List.mem_append.1 hn with hn|hn
             . have:=(List.mem_replicate.1 hn).2;omega
             exact r4 n hn
           . simpa using r5
           . intro _
             obtain⟨r61,r62⟩:=r6 hleft
             refine⟨by simp,?_⟩
             have:=Vp (l:=0::List.replicate z 0) r61 r62
             simpa using this
           intro hr
           rw [hra]at hr
           cases hr
         rw [KP sy L f left N ran σ y σ6 hleft hm hY.symm hm2 hn]at h ⊢
         obtain⟨rest,r1,r2,r3,r4,r5,r6,r7⟩:=Ki hsy f (left-((y:Int)-1).natAbs) (N++[(y:Int)-1]) false σ6 hyf (by omega) (by simp;omega) (by simp;omega) h6 h
         refine⟨((y:Int)-1)::rest,?_,?_,?_,?_,?_,?_,?_⟩
         . rw [r1];simp
         . rw [Q1d _ _ _ hn,show((y:Int)-1+1).toNat=y by omega]
           exact hsg.trans r2
         . rw [Yy,r3]
           unfold QZ
           split<;>omega
         . intro n hn
           rcases List.mem_cons.1 hn with hn|hn
           . omega
           exact r4 n hn
         . simpa using r5
         . intro _
           refine⟨by simp,?_⟩
           by_cases hl0:0<left-((y:Int)-1).natAbs
           . obtain⟨r61,r62⟩:=r6 hl0
             have:=Vp (l:=[(y:Int)-1]) r61 r62
             simpa using this
           have hs0:QY rest=0:=by rw [r3];omega
           by_cases hre0:rest=[]
           . subst hre0
             simpa using hn
           exact absurd hs0 (by have:=tableS_rest0 (sy:=sy) (L:=L) f (N++[(y:Int)-1]) false σ6 (left-((y:Int)-1).natAbs) (by omega) ;rw [this]at r1;simp at r1;exact absurd r1 hre0)
         intro _
         simpa using hn
       rw [Jh sy L f left N ran σ y σ6 hleft hm hY.symm (by simpa using hm2)]at h
       exact absurd h (Jg (by omega) (by simpa using hm2))
     rw [Za sy L f left N ran σ hleft (by simpa using hm)]at h
     exact absurd h (Jg (by omega) (by simpa using hm))
   obtain rfl:left=0:=by omega
   have e:Qr sy L (f+1) 0 N ran σ=(N,σ):=by simp [Qr]
   rw [e]
   exact⟨[],by simp,Seg.refl hfr,by simp [QY],by simp,by simpa using hz rfl,by omega,by simp⟩
where
  tableS_rest0 {sy:Int} {L:List Bool} (f:Nat) (N:List Int) (ran:Bool) (σ:St) (left:Nat) (h:left=0):(Qr sy L f left N ran σ).1=N:=by
    subst h
    cases f with
    | zero=>rfl
    | succ f=>simp [Qr]
  tableS_e {sy:Int} {L:List Bool}:∀ {f left:Nat} {N:List Int} {ran:Bool} {σ:St},(Qr sy L f left N ran σ).2.e=0->σ.e=0
  | 0,_,_,_,_,h=>h
  | f+1,left,N,ran,σ,h=>by
    by_cases hleft:0<left
    . by_cases hm:(Qd (decide ((N.length:Int)<sy)) 13 σ).1=true
      . exact JR hm
      . rw [Za sy L f left N ran σ hleft (by simpa using hm)]at h
        exact absurd h (Jg (by omega) (by simpa using hm))
    . obtain rfl:left=0:=by omega
      have e:Qr sy L (f+1) 0 N ran σ=(N,σ):=by simp [Qr]
      rw [e]at h
      exact h
theorem Q20 {sy lb:Int} {L:List Bool} (hsy:sy<=256) {p:Nat} {N:List Int} {σ:St} (h:Jj sy lb L=(p,N,σ)) (h0:σ.e=0) :
   Qg p N 256 9/\p≠0/\(N.length:Int)<=sy/\(p:Int)<=lb/\Seg L 0 σ.fr (ZF p N):=by
 unfold Jj at h;simp only at h;by_cases hm:(Qd (decide (((Qa L 4 ⟨0,0⟩).1:Int)+1<=min lb 9)) 13 (Qa L 4 ⟨0,0⟩).2).1=true
 . rw [if_pos hm,(YC hm).1]at h
   (have hlb:((Qa L 4 ⟨0,0⟩).1:Int)+1<=min lb 9:=by simpa using(YC hm).2);have h4:=JR hm;have hs:=Zf h4;have hfr:(Qa L 4 ⟨0,0⟩).2.fr<=L.length:=ZE (by simp);generalize Qa L 4 ⟨0,0⟩=X at *;obtain⟨x,σ1⟩:=X;simp only at h hlb h4 hs hfr;injection h with hp h;have hx:2^(x+1)<=512:=Nat.le_trans (Nat.pow_le_pow_right (n:=2) (by omega) (show x+1<=9 by omega)) (by decide);have hx0:=Nat.two_pow_pos (x+1);(have hT:(Qr sy L 600 (2^(x+1)) [] false σ1).2.e=0:=by rw [h];exact h0);obtain⟨rest,r1,r2,r3,r4,r5,r6,_⟩:=Ki hsy 600 (2^(x+1)) [] false σ1 hfr hx (by simp) (by omega) h4 hT;rw [h]at r1 r2;simp only [List.nil_append]at r1 r2 r5;subst r1 hp;obtain⟨r61,r62⟩:=r6 hx0;refine⟨⟨by omega,by omega,by omega,List.length_pos_iff.2 r61,by omega,r62,r4,?_⟩,by omega,r5,by omega,?_⟩
   . rw [r3];simp
   unfold ZF;rw [show x+1-1=x by omega];exact hs.trans r2
 rw [if_neg hm]at h;injection h with hp h;injection h with hn h;rw [<-h]at h0;exact absurd h0 (Jg (by omega) (by simpa using hm))
theorem ZG {l:List Bool} (h:QE l=0):l=List.replicate l.length false:=by
 have:=J9 l;rw [h,Zq]at this;exact this.symm
theorem Q44 {a b:List Nat} (ha:∀x∈a,x<256) (hb:∀x∈b,x<256) (h:Q9 a=Q9 b):a=b:=by
 have h1:=Kg a [] ha;have h2:=Kg b [] hb;rw [List.append_nil,Q2Y,List.append_nil]at h1 h2;rw [<-h1,<-h2,h]
theorem Q32 {sy lb:Int} {bs:List Nat} (hb:∀b∈bs,b<256) {p k:Nat} {N:List Int} (h:QT sy lb (Q9 bs) = .ok (p,N,k)) :
   Qg p N 256 9/\p≠0/\(N.length:Int)<=sy/\(p:Int)<=lb/\k<=bs.length/\Js (ZF p N)=bs.take k:=by
 unfold QT at h;simp only at h;obtain⟨q,M,σ,hr⟩:∃q M σ,Jj (min sy 256) lb (Q9 bs)=(q,M,σ):=⟨_,_,_,rfl⟩;rw [hr]at h;simp only at h;by_cases he:σ.e≠0
 . rw [if_pos he]at h;cases h
 rw [if_neg he]at h;by_cases hv:QE (((Q9 bs).drop σ.fr).take ((8-σ.fr%8)%8))≠0
 . rw [if_pos hv]at h;cases h
 rw [if_neg hv]at h;injection h with h;injection h with h1 h;injection h with h2 h3;subst h1 h2;(have he0:σ.e=0:=by omega);(have hv0:QE (((Q9 bs).drop σ.fr).take ((8-σ.fr%8)%8))=0:=by omega);obtain⟨o1,o2,o3,o4,o5⟩:=Q20 (by omega) hr he0;have hl:=o5.len;have hle:=o5.2.1;rw [Yj]at hle;refine⟨o1,o2,by omega,o4,by omega,?_⟩;apply Q44 (Q3Y _) (fun x hx=>hb x (List.mem_of_mem_take hx));rw [VO _ _ (Nat.le_refl _),Q31];(have h8:8*k=σ.fr+(8-σ.fr%8)%8:=by omega);have hpad:=ZG hv0;rw [List.length_take,List.length_drop,Yj,Nat.min_eq_left (by omega)]at hpad;have h5:=o5.2.2;simp only [List.take_zero,List.nil_append]at h5;rw [h8,List.take_add,h5,hpad];unfold Q0j;rw [show σ.fr=(ZF q M).length by omega]
theorem KQ {sy:Int} {L:List Bool} {f left:Nat} {N:List Int} {ran:Bool} {σ:St} (h:σ.e≠0):(Qr sy L f left N ran σ).2=σ:=by
 cases f with
 | zero=>rfl
 | succ f =>
   unfold Qr;(have:Qd (decide ((N.length:Int)<sy)) 13 σ=(false,σ):=by unfold Qd;rw [if_neg h]);rw [this];(split<;>rfl)
end Go.Proofs.YtjfdaphjijfieaaGreat
