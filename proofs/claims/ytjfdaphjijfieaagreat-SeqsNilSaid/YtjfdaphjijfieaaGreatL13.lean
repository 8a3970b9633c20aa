/-
  Joined texts, part 13: contracts and plain lemmas.
  Conditions: none beyond those of each theorem.
-/
import Derived.Test.YtjfdaphjijfieaaGreatL2
import Derived.Test.YtjfdaphjijfieaaGreatL4
set_option linter.unusedVariables false
set_option linter.unusedSimpArgs false
set_option maxRecDepth 100000
universe u
namespace Go.Proofs.YtjfdaphjijfieaaGreat
theorem ZC (P X:List Bool) (n v:Nat) (hv:v<2^n):Qo (P++(Qf n v++X)) n ⟨P.length,0⟩=(v,⟨P.length+n,0⟩):=by
 unfold Qo;rw [if_neg (by simp),if_pos (by simp)];simp only [List.drop_left];rw [List.take_append_of_le_length (by simp),List.take_of_length_le (by simp),YU,Nat.mod_eq_of_lt hv]
theorem Vi {h:Bool} (e:Int) (fr:Nat) (hh:h=true):Qp h e ⟨fr,0⟩=(true,⟨fr,0⟩):=by
 subst hh;rfl
theorem XL (P X:List Bool) (n m:Nat) (hm0:m≠0) (hm:m<2^64) (hn:n<m) :
   Yx (P++(Yk n m++X)) m ⟨P.length,0⟩=(n,⟨P.length+(Yk n m).length,0⟩):=by
 obtain⟨h1,h2⟩:=ZD m hm0 hm;have hu:YB m=2^(Y5 m+1)-m:=rfl;rw [Nat.pow_succ]at h2 hu;unfold Yk;by_cases h:n<YB m
 . rw [if_pos h]
   have ht:=ZC P X (Y5 m) n (by omega);unfold Yx;simp only [ht,if_pos h,YK]
 rw [if_neg h];have ht:=ZC P (Qf 1 (n+YB m)++X) (Y5 m) ((n+YB m) / 2) (by omega);have ht2:=ZC (P++Qf (Y5 m) ((n+YB m) / 2)) X 1 ((n+YB m)%2) (by omega);rw [show Qf 1 ((n+YB m)%2)=Qf 1 (n+YB m)from by simpa using KM 1 (n+YB m)]at ht2;simp only [List.length_append,YK,List.append_assoc]at ht2;unfold Yx;simp only [List.append_assoc,ht,if_neg (show ¬(n+YB m) / 2<YB m by omega),ht2,List.length_append,YK]
 congr 1
 omega
theorem Q2w (room:Int) (X:List Bool):∀(z f:Nat) (P:List Bool) (len:Nat),z / 3+2<=f->((len+z:Nat):Int)<room ->
   QP room (P++(Yl z++X)) f 3 len ⟨P.length,0⟩=(len+z,⟨P.length+(Yl z).length,0⟩):=by
 intro z
 induction z using Nat.strongRecOn with
 | _ z ih =>
   intro f P len hf hr
   match f,hf with
   | f+1,hf =>
     have hm:=Vi (h:=decide ((len:Int)<room)) 13 P.length (by simp;omega);unfold QP;simp only [if_true,hm];by_cases hz:z<3
     . have hb:Yl z=Qf 2 z:=by
         have:=Q0v z 0 (by omega) (by omega);simpa [JG]using this
       have ht:=ZC P X 2 z (by omega);rw [hb,ht]
       match f,hf with
       | f+1,hf =>
         unfold QP;simp only [YK];rw [if_neg (by omega)]
     have hb:Yl z=Qf 2 3++Yl (z-3):=by
       unfold Yl;rw [show z / 3=(z-3) / 3+1 by omega,show z%3=(z-3)%3 by omega,List.replicate_succ];simp
     have ht:=ZC P (Yl (z-3)++X) 2 3 (by omega);have hi:=ih (z-3) (by omega) f (P++Qf 2 3) (len+3) (by omega) (by omega);rw [hb];simp only [List.append_assoc]at hi ⊢;simp only [ht];simp only [List.length_append,YK]at hi ⊢;rw [hi]
     congr 1
     . omega
     congr 1;omega
theorem Q1k (l:List Int):Yf l=Yf (l.drop (Qw l)):=by
 induction l with
 | nil=>rfl
 | cons n l ih =>
   by_cases hn:n=0
   . subst hn
     rw [YG,List.drop_succ_cons,<-ih,Ym];simp [QO]
   rw [YV n l hn];rfl
theorem Q3H (l:List Int):l=List.replicate (Qw l) 0++l.drop (Qw l):=by
 induction l with
 | nil=>rfl
 | cons n l ih =>
   by_cases hn:n=0
   . subst hn
     rw [YG,List.drop_succ_cons,List.replicate_succ,List.cons_append,<-ih]
   rw [YV n l hn];simp
theorem Q7a (l:List Int) (h0:0<l.length) (hl:l[l.length-1]?≠some 0):0<Yf l:=by
 have h1:=VV l (l.length-1) (by omega);rw [show l.length-1+1=l.length by omega,List.take_length]at h1;have h2:=YT (l.take (l.length-1));have h3:l[l.length-1]≠0:=fun h=>hl (by rw [List.getElem?_eq_getElem (by omega),h]);(have h4:0<QO l[l.length-1]:=by unfold QO;split<;>omega);omega
theorem VE (sy:Int) (X:List Bool):∀(k:Nat) (rest:List Int) (f left:Nat) (pre:List Int) (ran:Bool) (P:List Bool),rest.length<=k->rest.length+1<=f->left<=512 ->
   Yf rest=left->(∀n∈rest,-1<=n)->(0<rest.length->rest[rest.length-1]?≠some 0)->((pre.length+rest.length:Nat):Int)<=sy->rest.length<=256->(ran=true->rest.head?≠some 0) ->
   Yh sy (P++(QQ left 0 rest++X)) f left pre ran ⟨P.length,0⟩=(pre++rest,⟨P.length+(QQ left 0 rest).length,0⟩)
 | _,[],f+1,left,pre,ran,P,_,_,_,hs,_,_,_,_,_=>by
   have:left=0:=by simp [Yf]at hs;omega
   subst this
   simp [Yh,QQ]
 | 0,_::_,_,_,_,_,_,h,_,_,_,_,_,_,_,_=>by simp at h
 | k+1,n::rest,f+1,left,pre,ran,P,hk,hf,hl,hs,hall,hlast,hsy,h256,hran=>by
   have hn1:-1<=n:=hall n (by simp)
   have hs2:=Ym n rest
   have hs3:=YT rest
   have hab:QO n=(n.natAbs:Int):=by unfold QO;split<;>omega
   simp only [List.length_cons]at hk hf hsy h256
   have hlast2:0<rest.length->rest[rest.length-1]?≠some 0:=by
     intro h0;have:=hlast (by simp);simp only [List.length_cons]at this;rw [show rest.length+1-1=(rest.length-1)+1 by omega,List.getElem?_cons_succ]at this;exact this
   have hleft:0<left:=by
     have:=Q7a (n::rest) (by simp) (hlast (by simp));omega
   have hm:=Vi (h:=decide ((pre.length:Int)<sy)) 13 P.length (by simp;omega);(have hm1:(Qp (decide ((pre.length:Int)<sy)) 13 ⟨P.length,0⟩).1=true:=by rw [hm]);(have hx:(n+1).toNat<left+2:=by omega);(have hy1:(((n+1).toNat:Nat):Int)-1=n:=by omega);by_cases hn:n=0
   . subst hn
     have hrf:ran=false:=by
       cases ran with
       | false=>rfl
       | true=>exact absurd rfl (hran rfl)
     subst hrf
     have hr0:0<rest.length:=by
       rcases Nat.eq_zero_or_pos rest.length with h|h
       . have:=List.eq_nil_of_length_eq_zero h
         subst this;exact absurd rfl (hlast (by simp))
       exact h
     have hz:=Q1l rest hr0 (hlast2 hr0);have hnum:=XL P (Yl (Qw rest)++(QQ left (Qw rest) rest++X)) 1 (left+2) (by omega) (by omega) (by omega);have hm2:=Vi (h:=((1:Nat):Int)-1 != 0 || !false) 13 (P.length+(Yk 1 (left+2)).length) (by rfl);have hng:=Q2w (sy-(pre.length+1:Nat)) (QQ left (Qw rest) rest++X) (Qw rest) 300 (P++Yk 1 (left+2)) 0 (by omega) (by omega)
     have ih:=VE sy X k (rest.drop (Qw rest)) f left (pre++[0]++List.replicate (Qw rest) 0) true (P++Yk 1 (left+2)++Yl (Qw rest))
       (by simp;omega) (by simp;omega) hl (by rw [<-Q1k];rw [Ym]at hs;simpa [QO]using hs) (fun m hmm=>hall m (List.mem_cons_of_mem _ (List.mem_of_mem_drop hmm)))
       (fun _=>by
         rw [List.length_drop,List.getElem?_drop,show Qw rest+(rest.length-Qw rest-1)=rest.length-1 by omega]
         exact hlast2 hr0)
       (by simp;omega) (by simp;omega) (fun _=>by rw [List.head?_drop];exact Vj rest)
     rw [KS];simp only [List.append_assoc]at hnum hng ih ⊢;rw [VF sy _ f left pre false ⟨P.length,0⟩ 1 _ hleft hm1 hnum (by rw [hm2]) (by rfl)];simp only [List.length_append]at hng ih ⊢;rw [hng];simp only [Nat.zero_add];rw [KT left (Qw rest) rest (Q1m rest)];simp only [Nat.add_assoc,List.append_assoc]at ih ⊢;rw [ih,<-Q3H];rfl
   have hnum:=XL P (QQ (left-n.natAbs) 0 rest++X) (n+1).toNat (left+2) (by omega) (by omega) hx;have hm2:=Vi (h:=((n+1).toNat:Int)-1 != 0 || !ran) 13 (P.length+(Yk (n+1).toNat (left+2)).length) (by rw [hy1];simp [hn])
   have ih:=VE sy X k rest f (left-n.natAbs) (pre++[n]) false (P++Yk (n+1).toNat (left+2)) (by omega) (by omega) (by omega) (by omega)
     (fun m hmm=>hall m (List.mem_cons_of_mem _ hmm)) hlast2 (by simp;omega) (by omega) (by simp)
   rw [KF left n rest hn];simp only [List.append_assoc]at hnum ih ⊢;rw [XM sy _ f left pre ran ⟨P.length,0⟩ (n+1).toNat _ hleft hm1 hnum (by rw [hm2]) (by omega),hy1];simp only [List.length_append]at ih ⊢;rw [ih];simp [Nat.add_assoc]
theorem Q4L (sy lb:Int) (X:List Bool) (p:Nat) (N:List Int) (hv:Qc p N 256 9) (hp:p≠0) (hsy:(N.length:Int)<=sy) (hlb:(p:Int)<=lb) :
   ZE sy lb (QX p N++X)=(p,N,⟨(QX p N).length,0⟩):=by
 obtain⟨v1,v2,v3,v4,v5,v6,v7,v8⟩:=hv;have hp9:2^p<=2^9:=Nat.pow_le_pow_right (by omega) (by omega);have ht:=ZC [] (QQ (2^p) 0 N++X) 4 (p-1) (by omega);have hm:=Vi (h:=decide (((p-1:Nat):Int)+1<=min lb 9)) 13 4 (by simp;omega);have htb:=VE sy X N.length N 600 (2^p) [] false (Qf 4 (p-1)) (Nat.le_refl _) (by omega) (by omega) (by rw [v8];simp) v7 (fun _=>v6) (by simpa using hsy) (by omega) (by simp);simp only [List.nil_append,List.length_nil,Nat.zero_add]at ht;simp only [List.nil_append,YK]at htb;unfold ZE QX;rw [List.append_assoc];simp only [ht,hm,if_true,show p-1+1=p by omega,htb,List.length_append,YK]
theorem Q3I {L:List Bool} {n:Nat} {σ:St} (h:σ.e≠0):(Qo L n σ).2=σ:=by unfold Qo;rw [if_pos h]
theorem Vk {L:List Bool} {n:Nat} {σ:St} (h:σ.fr<=L.length):(Qo L n σ).2.fr<=L.length:=by
 unfold Qo;split
 . exact h
 split
 . assumption
 exact h
theorem Q2P {b:Bool} {e:Int} {σ:St}:(Qp b e σ).2.fr=σ.fr:=by
 unfold Qp;split
 . split<;>rfl
 rfl
theorem Q4M {L:List Bool} {m:Nat} {σ:St} (h:σ.fr<=L.length):(Yx L m σ).2.fr<=L.length:=by
 unfold Yx;split
 . exact Vk h
 exact Vk (Vk h)
theorem Q0w {room:Int} {L:List Bool}:∀ {f k len:Nat} {σ:St},σ.fr<=L.length->(QP room L f k len σ).2.fr<=L.length
 | 0,_,_,_,h=>h
 | f+1,k,len,σ,h=>by
   unfold QP
   split
   . split
     . exact Q0w (Vk (by rw [Q2P];exact h))
     rw [Q2P];exact h
   exact h
theorem KW:∀n,Qf n 0=List.replicate n false
 | 0=>rfl
 | n+1=>by rw [List.replicate_succ,<-KW n];rfl
theorem X8:∀(k:Nat) (l:List Bool),l.length<=k->Qi (QN l)=Q1D l
 | _,[],_=>by rfl
 | 0,_::_,h=>by simp at h
 | k+1,b::l,h=>by
   by_cases hs:(b::l).length<=8
   . rw [VC _ (by simp) hs,JJ,Q0S,List.append_nil]
     have h1:=Vt (b::l).length (8-(b::l).length) (QU (b::l))
     rw [show(b::l).length+(8-(b::l).length)=8 by omega,JI,Nat.div_eq_of_lt (JQ _),KW]at h1
     rw [h1]
     unfold Q1D
     congr 2
     simp only [List.length_cons]at hs ⊢
     omega
   have h2:(b::l)=(b::l).take 8++(b::l).drop 8:=(List.take_append_drop 8 _).symm
   have h3:((b::l).take 8).length=8:=by rw [List.length_take];omega
   have ih:=X8 k ((b::l).drop 8) (by rw [List.length_drop];simp only [List.length_cons]at h ⊢;omega)
   have h4:Qi (QN (b::l))=(b::l).take 8++Q1D ((b::l).drop 8):=by
     have h5:=Q1h ((b::l).take 8) ((b::l).drop 8) h3;rw [<-h2]at h5;rw [h5,JJ,ih];have:=JI ((b::l).take 8);rw [h3]at this;rw [this]
   rw [h4];unfold Q1D;rw [<-List.append_assoc,<-h2,List.length_drop]
   congr 2
   omega
theorem Q5V (bs:List Nat) (k:Nat):Qi (bs.take k)=(Qi bs).take (8*k):=by
 (have h1:Qi bs=Qi (bs.take k)++Qi (bs.drop k):=by rw [<-KD,List.take_append_drop]);by_cases h:k<=bs.length
 . have hl:(Qi (bs.take k)).length=8*k:=by rw [ZU,List.length_take];omega
   rw [h1,List.take_append_of_le_length (by omega)];exact(List.take_of_length_le (by omega)).symm
 rw [List.take_of_length_le (by omega),List.take_of_length_le (by rw [ZU];omega)]
theorem Q2x {p:Nat} {N:List Int} (hv:Qc p N 256 9):(QN (QX p N)).length<=400:=by
 have:=Zk p N (by have:=hv.2.2.1;omega);have:=hv.2.2.2.2.1;rw [Zm];omega
theorem Q3J:∀n,QU (List.replicate n false)=0
 | 0=>rfl
 | n+1=>by
   have h:=YU (n+1) 0
   rw [KW]at h
   simpa using h
theorem Q7b (D:List Bool) (B:List Nat):Qi (QN D++B)=D++(List.replicate ((8-D.length%8)%8) false++Qi B):=by
 rw [KD,X8 _ _ (Nat.le_refl _)];unfold Q1D;rw [List.append_assoc]
theorem Q5W {sy lb:Int} {p:Nat} {N:List Int} (hv:Qc p N 256 9) (hp:p≠0) (hsy:(N.length:Int)<=sy) (hlb:(p:Int)<=lb) (B:List Nat) :
   J7 sy lb (Qi (QN (QX p N)++B)) = .ok (p,N,(QN (QX p N)).length):=by
 have h256:=hv.2.2.2.2.1;have hr:=fun X=>Q4L (min sy 256) lb X p N hv hp (by omega) hlb;rw [Q7b,Zm];generalize QX p N=D at *;unfold J7;simp only [hr];rw [if_neg (by simp)];have h1:(D++(List.replicate ((8-D.length%8)%8) false++Qi B)).drop D.length=List.replicate ((8-D.length%8)%8) false++Qi B:=List.drop_left;rw [h1,List.take_append_of_le_length (by simp),List.take_of_length_le (by simp),Q3J];rw [if_neg (by simp)]
 congr 3
 omega
def Seg (L:List Bool) (i j:Nat) (X:List Bool):Prop:=i<=j/\j<=L.length/\L.take j=L.take i++X
theorem Seg.refl {L:List Bool} {i:Nat} (h:i<=L.length):Seg L i i []:=⟨Nat.le_refl _,h,by simp⟩
theorem Seg.trans {L:List Bool} {i j k:Nat} {X Y:List Bool} (h:Seg L i j X) (g:Seg L j k Y):Seg L i k (X++Y) :=
 ⟨Nat.le_trans h.1 g.1,g.2.1,by rw [g.2.2,h.2.2,List.append_assoc]⟩
theorem Seg.len {L:List Bool} {i j:Nat} {X:List Bool} (h:Seg L i j X):j=i+X.length:=by
 obtain⟨h1,h2,h3⟩:=h;have:=congrArg List.length h3;rw [List.length_take,List.length_append,List.length_take]at this;omega
theorem Q4b {L:List Bool} {n:Nat} {σ:St} (h:(Qo L n σ).2.e=0):σ.e=0:=by
 by_cases h1:σ.e=0
 . exact h1
 rw [Q3I h1]at h;exact h
theorem KO {L:List Bool} {n:Nat} {σ:St} (h:(Qo L n σ).2.e=0):Seg L σ.fr (Qo L n σ).2.fr (Qf n (Qo L n σ).1):=by
 have h0:=Q4b h;unfold Qo at h ⊢;rw [if_neg (by omega)]at h;rw [if_neg (by omega)];by_cases h2:σ.fr+n<=L.length
 . rw [if_pos h2]
   (have hl:((L.drop σ.fr).take n).length=n:=by rw [List.length_take,List.length_drop];omega);have:=JI ((L.drop σ.fr).take n);rw [hl]at this;exact⟨by simp,h2,by simp only;rw [this,List.take_add]⟩
 rw [if_neg h2]at h;simp at h
theorem Q3K {L:List Bool} {m:Nat} {σ:St} (h:(Yx L m σ).2.e=0):Seg L σ.fr (Yx L m σ).2.fr (Yk (Yx L m σ).1 m):=by
 unfold Yx at h ⊢;by_cases h1:(Qo L (Y5 m) σ).1<YB m
 . rw [if_pos h1]at h
   rw [if_pos h1];unfold Yk;rw [if_pos h1];exact KO h
 rw [if_neg h1]at h;rw [if_neg h1];have s1:=KO (Q4b h);have s2:=KO h;have hc:=Zo L 1 (Qo L (Y5 m) σ).2;generalize Qo L (Y5 m) σ=X at *;generalize Qo L 1 X.2=Y at *;simp only;unfold Yk;rw [if_neg (by omega),show 2*X.1+Y.1-YB m+YB m=2*X.1+Y.1 by omega,show(2*X.1+Y.1) / 2=X.1 by omega,<-KM 1 (2*X.1+Y.1),show(2*X.1+Y.1)%2^1=Y.1 by omega];exact s1.trans s2
theorem Q2y (z:Nat):Yl (3+z)=Qf 2 3++Yl z:=by
 unfold Yl;rw [show(3+z) / 3=z / 3+1 by omega,show(3+z)%3=z%3 by omega,List.replicate_succ,List.flatten_cons,List.append_assoc]
theorem Q2z (z:Nat) (h:z<3):Yl z=Qf 2 z:=by
 unfold Yl;rw [show z / 3=0 by omega,show z%3=z by omega];rfl
theorem Zc {h:Bool} {e:Int} {σ:St} (he:e≠0) (h1:(Qp h e σ).1=false):(Qp h e σ).2.e≠0:=by
 unfold Qp at h1 ⊢;split at h1
 . split at h1
   . simp at h1
   rename_i h2 h3
   rw [if_pos h2,if_neg h3];exact he
 rename_i h2
 rw [if_neg h2];exact h2
theorem Ki {h:Bool} {e:Int} {σ:St} (h1:(Qp h e σ).1=true):σ.e=0:=by
 unfold Qp at h1;split at h1
 . assumption
 simp at h1
theorem Q2A {room:Int} {L:List Bool} {f k len:Nat} {σ:St} (h:k≠3):QP room L f k len σ=(len,σ):=by
 cases f with
 | zero=>rfl
 | succ f=>unfold QP;rw [if_neg h]
theorem XN {room:Int} {L:List Bool}:∀(f len:Nat) (σ:St),0<f->room<=(len:Int)+3*((f:Int)-1)->(QP room L f 3 len σ).2.e=0 ->
   ∃z,(QP room L f 3 len σ).1=len+z/\Seg L σ.fr (QP room L f 3 len σ).2.fr (Yl z)
 | 0,_,_,h,_,_=>absurd h (by omega)
 | f+1,len,σ,_,hb,h=>by
   unfold QP at h ⊢
   rw [if_pos rfl]at h
   rw [if_pos rfl]
   by_cases h2:(Qp (decide ((len:Int)<room)) 13 σ).1=true
   . rw [if_pos h2]at h
     rw [if_pos h2]
     obtain⟨e1,e2⟩:=Ja h2
     rw [e1]at h ⊢
     have hlt:(len:Int)<room:=by simpa using e2
     have h4:=Zo L 2 σ
     have hs:=KO (L:=L) (n:=2) (σ:=σ)
     generalize Qo L 2 σ=X at *
     obtain⟨k,σ1⟩:=X
     simp only at h hs h4 ⊢
     by_cases hk:k=3
     . subst hk
       obtain⟨z,hz1,hz2⟩:=XN f (len+3) σ1 (by omega) (by omega) h
       have he:σ1.e=0:=by
         by_cases he:σ1.e=0
         . exact he
         exact absurd (noughtsS_e h) he
       exact⟨3+z,by rw [hz1];omega,by rw [Q2y];exact(hs he).trans hz2⟩
     rw [Q2A hk]at h ⊢;exact⟨k,rfl,by rw [Q2z k (by omega)];exact hs h⟩
   rw [if_neg h2]at h;exact absurd h (Zc (by omega) (by simpa using h2))
where
  noughtsS_e {room:Int} {L:List Bool}:∀ {f k len:Nat} {σ:St},(QP room L f k len σ).2.e=0->σ.e=0
  | 0,_,_,_,h=>h
  | f+1,k,len,σ,h=>by
    unfold QP at h
    split at h
    . split at h
      . rename_i h2
        exact Ki h2
      . rename_i h2
        exact absurd h (Zc (by omega) (by simpa using h2))
    . exact h
theorem Q3L (z:Nat) (l:List Int) (h:l.head?≠some 0):Qw (List.replicate z 0++l)=z:=by
 induction z with
 | zero =>
   cases l with
   | nil=>rfl
   | cons a l=>exact YV a l (by simpa using h)
 | succ z ih=>rw [List.replicate_succ,List.cons_append,YG,ih]
theorem Q0x {l r:List Int} (h0:r≠[]) (h:r[r.length-1]?≠some 0):(l++r)[(l++r).length-1]?≠some 0:=by
 have:0<r.length:=List.length_pos_iff.2 h0;rw [List.length_append,List.getElem?_append_right (by omega),show l.length+r.length-1-l.length=r.length-1 by omega];exact h
theorem Xa {sy:Int} {L:List Bool} (hsy:sy<=256):∀(f left:Nat) (N:List Int) (ran:Bool) (σ:St),σ.fr<=L.length->left<=512->258<=f+min N.length 257->(left=0->(N.length:Int)<=sy) ->
   σ.e=0->(Yh sy L f left N ran σ).2.e=0 ->
   ∃rest,(Yh sy L f left N ran σ).1=N++rest/\Seg L σ.fr (Yh sy L f left N ran σ).2.fr (QQ left 0 rest)/\Yf rest=left/\(∀n∈rest,-1<=n)/\((N++rest).length:Int)<=sy /\
     (0<left->rest≠[]/\rest[rest.length-1]?≠some 0)/\(ran=true->rest.head?≠some 0)
 | 0,_,N,_,_,_,_,hf,_,_,_=>absurd hf (by omega)
 | f+1,left,N,ran,σ,hfr,hL,hf,hz,h0,h=>by
   by_cases hleft:0<left
   . by_cases hm:(Qp (decide ((N.length:Int)<sy)) 13 σ).1=true
     . have hlt:(N.length:Int)<sy:=by simpa using(Ja hm).2
       have hfN:∀z,258<=f+min (List.length (α:=Int) (N++[0]++List.replicate z 0)) 257:=fun z=>by
         have e:List.length (α:=Int) (N++[0]++List.replicate z 0)=N.length+(z+1):=by simp
         rw [e];omega
       obtain⟨Y,hY⟩:=nm_ (Yx L (left+2) σ)
       have hyl:=Q1n L (left+2) σ (by omega) (by omega)
       have hys:=Q3K (L:=L) (m:=left+2) (σ:=σ)
       have hyf:=Q4M (L:=L) (m:=left+2) (σ:=σ) hfr
       rw [<-hY]at hyl hys hyf
       obtain⟨y,σ6⟩:=Y
       simp only at hyl hys hyf
       by_cases hm2:(Qp ((y:Int)-1 != 0 || !ran) 13 σ6).1=true
       . have h6:=Ki hm2
         have hc:=(Ja hm2).2
         have hsg:=hys h6
         by_cases hn:(y:Int)-1=0
         . have hy1:y=1:=by omega
           subst hy1
           rw [VF sy L f left N ran σ 1 σ6 hleft hm hY.symm hm2 hn]at h ⊢
           have hra:ran=false:=by simpa using hc
           have hno:=XN (room:=sy-(N.length+1:Nat)) (L:=L) 300 0 σ6 (by omega) (by omega)
           have hnf:=Q0w (room:=sy-(N.length+1:Nat)) (L:=L) (f:=300) (k:=3) (len:=0) (σ:=σ6) hyf
           generalize QP (sy-(N.length+1:Nat)) L 300 3 0 σ6=Z at *
           obtain⟨z,σ7⟩:=Z
           simp only at h hno hnf ⊢
           have h7:σ7.e=0:=tableS_e h
           obtain⟨z',hz1,hz2⟩:=hno h7
           rw [Nat.zero_add]at hz1
           subst hz1
           obtain⟨rest,r1,r2,r3,r4,r5,r6,r7⟩:=Xa hsy f left (N++[0]++List.replicate z 0) true σ7 hnf hL (hfN z) (by omega) h7 h
           have hzr:=Q3L z rest (r7 rfl)
           refine⟨0::(List.replicate z 0++rest),?_,?_,?_,?_,?_,?_,?_⟩
           . rw [r1];simp
           . rw [KS,hzr,KT left z _ (by simp),List.drop_left' (by simp)]
             exact hsg.trans (hz2.trans r2)
           . rw [Ym,Q1k,hzr,List.drop_left' (by simp),r3]
             simp [QO]
           . intro n hn
             rcases List.mem_cons.1 hn with hn|hn
             . omega
             rcases List.mem_append.1 hn with hn|hn
             . have:=(List.mem_replicate.1 hn).2;omega
             exact r4 n hn
           . simpa using r5
           . intro _
             obtain⟨r61,r62⟩:=r6 hleft
             refine⟨by simp,?_⟩
             have:=Q0x (l:=0::List.replicate z 0) r61 r62
             simpa using this
           intro hr
           rw [hra]at hr
           cases hr
         rw [XM sy L f left N ran σ y σ6 hleft hm hY.symm hm2 hn]at h ⊢
         obtain⟨rest,r1,r2,r3,r4,r5,r6,r7⟩:=Xa hsy f (left-((y:Int)-1).natAbs) (N++[(y:Int)-1]) false σ6 hyf (by omega) (by simp;omega) (by simp;omega) h6 h
         refine⟨((y:Int)-1)::rest,?_,?_,?_,?_,?_,?_,?_⟩
         . rw [r1];simp
         . rw [KF _ _ _ hn,show((y:Int)-1+1).toNat=y by omega]
           exact hsg.trans r2
         . rw [Ym,r3]
           unfold QO
           split<;>omega
         . intro n hn
           rcases List.mem_cons.1 hn with hn|hn
           . omega
           exact r4 n hn
         . simpa using r5
         . intro _
           refine⟨by simp,?_⟩
           by_cases hl0:0<left-((y:Int)-1).natAbs
           . obtain⟨r61,r62⟩:=r6 hl0
             have:=Q0x (l:=[(y:Int)-1]) r61 r62
             simpa using this
           have hs0:Yf rest=0:=by rw [r3];omega
           by_cases hre0:rest=[]
           . subst hre0
             simpa using hn
           exact absurd hs0 (by have:=tableS_rest0 (sy:=sy) (L:=L) f (N++[(y:Int)-1]) false σ6 (left-((y:Int)-1).natAbs) (by omega) ;rw [this]at r1;simp at r1;exact absurd r1 hre0)
         intro _
         simpa using hn
       rw [KG sy L f left N ran σ y σ6 hleft hm hY.symm (by simpa using hm2)]at h
       exact absurd h (Zc (by omega) (by simpa using hm2))
     rw [VH sy L f left N ran σ hleft (by simpa using hm)]at h
     exact absurd h (Zc (by omega) (by simpa using hm))
   obtain rfl:left=0:=by omega
   have e:Yh sy L (f+1) 0 N ran σ=(N,σ):=by simp [Yh]
   rw [e]
   exact⟨[],by simp,Seg.refl hfr,by simp [Yf],by simp,by simpa using hz rfl,by omega,by simp⟩
where
  tableS_rest0 {sy:Int} {L:List Bool} (f:Nat) (N:List Int) (ran:Bool) (σ:St) (left:Nat) (h:left=0):(Yh sy L f left N ran σ).1=N:=by
    subst h
    cases f with
    | zero=>rfl
    | succ f=>simp [Yh]
  tableS_e {sy:Int} {L:List Bool}:∀ {f left:Nat} {N:List Int} {ran:Bool} {σ:St},(Yh sy L f left N ran σ).2.e=0->σ.e=0
  | 0,_,_,_,_,h=>h
  | f+1,left,N,ran,σ,h=>by
    by_cases hleft:0<left
    . by_cases hm:(Qp (decide ((N.length:Int)<sy)) 13 σ).1=true
      . exact Ki hm
      . rw [VH sy L f left N ran σ hleft (by simpa using hm)]at h
        exact absurd h (Zc (by omega) (by simpa using hm))
    . obtain rfl:left=0:=by omega
      have e:Yh sy L (f+1) 0 N ran σ=(N,σ):=by simp [Yh]
      rw [e]at h
      exact h
theorem Q4N {sy lb:Int} {L:List Bool} (hsy:sy<=256) {p:Nat} {N:List Int} {σ:St} (h:ZE sy lb L=(p,N,σ)) (h0:σ.e=0) :
   Qc p N 256 9/\p≠0/\(N.length:Int)<=sy/\(p:Int)<=lb/\Seg L 0 σ.fr (QX p N):=by
 unfold ZE at h;simp only at h;by_cases hm:(Qp (decide (((Qo L 4 ⟨0,0⟩).1:Int)+1<=min lb 9)) 13 (Qo L 4 ⟨0,0⟩).2).1=true
 . rw [if_pos hm,(Ja hm).1]at h
   (have hlb:((Qo L 4 ⟨0,0⟩).1:Int)+1<=min lb 9:=by simpa using(Ja hm).2);have h4:=Ki hm;have hs:=KO h4;have hfr:(Qo L 4 ⟨0,0⟩).2.fr<=L.length:=Vk (by simp);generalize Qo L 4 ⟨0,0⟩=X at *;obtain⟨x,σ1⟩:=X;simp only at h hlb h4 hs hfr;injection h with hp h;have hx:2^(x+1)<=512:=Nat.le_trans (Nat.pow_le_pow_right (n:=2) (by omega) (show x+1<=9 by omega)) (by decide);have hx0:=Nat.two_pow_pos (x+1);(have hT:(Yh sy L 600 (2^(x+1)) [] false σ1).2.e=0:=by rw [h];exact h0);obtain⟨rest,r1,r2,r3,r4,r5,r6,_⟩:=Xa hsy 600 (2^(x+1)) [] false σ1 hfr hx (by simp) (by omega) h4 hT;rw [h]at r1 r2;simp only [List.nil_append]at r1 r2 r5;subst r1 hp;obtain⟨r61,r62⟩:=r6 hx0;refine⟨⟨by omega,by omega,by omega,List.length_pos_iff.2 r61,by omega,r62,r4,?_⟩,by omega,r5,by omega,?_⟩
   . rw [r3];simp
   unfold QX;rw [show x+1-1=x by omega];exact hs.trans r2
 rw [if_neg hm]at h;injection h with hp h;injection h with hn h;rw [<-h]at h0;exact absurd h0 (Zc (by omega) (by simpa using hm))
theorem Q0U {l:List Bool} (h:QU l=0):l=List.replicate l.length false:=by
 have:=JI l;rw [h,KW]at this;exact this.symm
theorem Q7c {a b:List Nat} (ha:∀x∈a,x<256) (hb:∀x∈b,x<256) (h:Qi a=Qi b):a=b:=by
 have h1:=Kh a [] ha;have h2:=Kh b [] hb;rw [List.append_nil,Q1Z,List.append_nil]at h1 h2;rw [<-h1,<-h2,h]
theorem Q5X {sy lb:Int} {bs:List Nat} (hb:∀b∈bs,b<256) {p k:Nat} {N:List Int} (h:J7 sy lb (Qi bs) = .ok (p,N,k)) :
   Qc p N 256 9/\p≠0/\(N.length:Int)<=sy/\(p:Int)<=lb/\k<=bs.length/\QN (QX p N)=bs.take k:=by
 unfold J7 at h;simp only at h;obtain⟨q,M,σ,hr⟩:∃q M σ,ZE (min sy 256) lb (Qi bs)=(q,M,σ):=⟨_,_,_,rfl⟩;rw [hr]at h;simp only at h;by_cases he:σ.e≠0
 . rw [if_pos he]at h;cases h
 rw [if_neg he]at h;by_cases hv:QU (((Qi bs).drop σ.fr).take ((8-σ.fr%8)%8))≠0
 . rw [if_pos hv]at h;cases h
 rw [if_neg hv]at h;injection h with h;injection h with h1 h;injection h with h2 h3;subst h1 h2;(have he0:σ.e=0:=by omega);(have hv0:QU (((Qi bs).drop σ.fr).take ((8-σ.fr%8)%8))=0:=by omega);obtain⟨o1,o2,o3,o4,o5⟩:=Q4N (by omega) hr he0;have hl:=o5.len;have hle:=o5.2.1;rw [ZU]at hle;refine⟨o1,o2,by omega,o4,by omega,?_⟩;apply Q7c (Q0T _) (fun x hx=>hb x (List.mem_of_mem_take hx));rw [X8 _ _ (Nat.le_refl _),Q5V];(have h8:8*k=σ.fr+(8-σ.fr%8)%8:=by omega);have hpad:=Q0U hv0;rw [List.length_take,List.length_drop,ZU,Nat.min_eq_left (by omega)]at hpad;have h5:=o5.2.2;simp only [List.take_zero,List.nil_append]at h5;rw [h8,List.take_add,h5,hpad];unfold Q1D;rw [show σ.fr=(QX q M).length by omega]
end Go.Proofs.YtjfdaphjijfieaaGreat
