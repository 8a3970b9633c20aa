/-
  Joined texts, part 12: contracts and plain lemmas.
  Conditions: none beyond those of each theorem.
-/
import Derived.Test.YtjfdaphjijfieaaGreatK2
import Derived.Test.YtjfdaphjijfieaaGreatK4
set_option linter.unusedVariables false
set_option linter.unusedSimpArgs false
set_option maxRecDepth 100000
universe u
namespace Go.Proofs.YtjfdaphjijfieaaGreat
theorem ZS (P X:List Bool) (n v:Nat) (hv:v<2^n):Qp (P++(Qj n v++X)) n ⟨P.length,0⟩=(v,⟨P.length+n,0⟩):=by
 unfold Qp;rw [if_neg (by simp),if_pos (by simp)];simp only [List.drop_left];rw [List.take_append_of_le_length (by simp),List.take_of_length_le (by simp),J7,Nat.mod_eq_of_lt hv]
theorem VD {h:Bool} (e:Int) (fr:Nat) (hh:h=true):Qs h e ⟨fr,0⟩=(true,⟨fr,0⟩):=by
 subst hh;rfl
theorem Q0h (P X:List Bool) (n m:Nat) (hm0:m≠0) (hm:m<2^64) (hn:n<m) :
   Y4 (P++(Yp n m++X)) m ⟨P.length,0⟩=(n,⟨P.length+(Yp n m).length,0⟩):=by
 obtain⟨h1,h2⟩:=ZT m hm0 hm;have hu:YJ m=2^(Ye m+1)-m:=rfl;rw [Nat.pow_succ]at h2 hu;unfold Yp;by_cases h:n<YJ m
 . rw [if_pos h]
   have ht:=ZS P X (Ye m) n (by omega);unfold Y4;simp only [ht,if_pos h,YS]
 rw [if_neg h];have ht:=ZS P (Qj 1 (n+YJ m)++X) (Ye m) ((n+YJ m) / 2) (by omega);have ht2:=ZS (P++Qj (Ye m) ((n+YJ m) / 2)) X 1 ((n+YJ m)%2) (by omega);rw [show Qj 1 ((n+YJ m)%2)=Qj 1 (n+YJ m)from by simpa using Vf 1 (n+YJ m)]at ht2;simp only [List.length_append,YS,List.append_assoc]at ht2;unfold Y4;simp only [List.append_assoc,ht,if_neg (show ¬(n+YJ m) / 2<YJ m by omega),ht2,List.length_append,YS]
 congr 1
 omega
theorem Q3c (room:Int) (X:List Bool):∀(z f:Nat) (P:List Bool) (len:Nat),z / 3+2<=f->((len+z:Nat):Int)<room ->
   QO room (P++(Yq z++X)) f 3 len ⟨P.length,0⟩=(len+z,⟨P.length+(Yq z).length,0⟩):=by
 intro z
 induction z using Nat.strongRecOn with
 | _ z ih =>
   intro f P len hf hr
   match f,hf with
   | f+1,hf =>
     have hm:=VD (h:=decide ((len:Int)<room)) 13 P.length (by simp;omega);unfold QO;simp only [if_true,hm];by_cases hz:z<3
     . have hb:Yq z=Qj 2 z:=by
         have:=Q0Y z 0 (by omega) (by omega);simpa [JW]using this
       have ht:=ZS P X 2 z (by omega);rw [hb,ht]
       match f,hf with
       | f+1,hf =>
         unfold QO;simp only [YS];rw [if_neg (by omega)]
     have hb:Yq z=Qj 2 3++Yq (z-3):=by
       unfold Yq;rw [show z / 3=(z-3) / 3+1 by omega,show z%3=(z-3)%3 by omega,List.replicate_succ];simp
     have ht:=ZS P (Yq (z-3)++X) 2 3 (by omega);have hi:=ih (z-3) (by omega) f (P++Qj 2 3) (len+3) (by omega) (by omega);rw [hb];simp only [List.append_assoc]at hi ⊢;simp only [ht];simp only [List.length_append,YS]at hi ⊢;rw [hi]
     congr 1
     . omega
     congr 1;omega
theorem Q1L (l:List Int):Yl l=Yl (l.drop (QH l)):=by
 induction l with
 | nil=>rfl
 | cons n l ih =>
   by_cases hn:n=0
   . subst hn
     rw [YO,List.drop_succ_cons,<-ih,Yt];simp [Y0]
   rw [J8 n l hn];rfl
theorem Q4s (l:List Int):l=List.replicate (QH l) 0++l.drop (QH l):=by
 induction l with
 | nil=>rfl
 | cons n l ih =>
   by_cases hn:n=0
   . subst hn
     rw [YO,List.drop_succ_cons,List.replicate_succ,List.cons_append,<-ih]
   rw [J8 n l hn];simp
theorem Q88 (l:List Int) (h0:0<l.length) (hl:l[l.length-1]?≠some 0):0<Yl l:=by
 have h1:=Xq l (l.length-1) (by omega);rw [show l.length-1+1=l.length by omega,List.take_length]at h1;have h2:=J6 (l.take (l.length-1));have h3:l[l.length-1]≠0:=fun h=>hl (by rw [List.getElem?_eq_getElem (by omega),h]);(have h4:0<Y0 l[l.length-1]:=by unfold Y0;split<;>omega);omega
theorem Xa (sy:Int) (X:List Bool):∀(k:Nat) (rest:List Int) (f left:Nat) (pre:List Int) (ran:Bool) (P:List Bool),rest.length<=k->rest.length+1<=f->left<=512 ->
   Yl rest=left->(∀n∈rest,-1<=n)->(0<rest.length->rest[rest.length-1]?≠some 0)->((pre.length+rest.length:Nat):Int)<=sy->rest.length<=256->(ran=true->rest.head?≠some 0) ->
   QZ sy (P++(Y5 left 0 rest++X)) f left pre ran ⟨P.length,0⟩=(pre++rest,⟨P.length+(Y5 left 0 rest).length,0⟩)
 | _,[],f+1,left,pre,ran,P,_,_,_,hs,_,_,_,_,_=>by
   have:left=0:=by simp [Yl]at hs;omega
   subst this
   simp [QZ,Y5]
 | 0,_::_,_,_,_,_,_,h,_,_,_,_,_,_,_,_=>by simp at h
 | k+1,n::rest,f+1,left,pre,ran,P,hk,hf,hl,hs,hall,hlast,hsy,h256,hran=>by
   have hn1:-1<=n:=hall n (by simp)
   have hs2:=Yt n rest
   have hs3:=J6 rest
   have hab:Y0 n=(n.natAbs:Int):=by unfold Y0;split<;>omega
   simp only [List.length_cons]at hk hf hsy h256
   have hlast2:0<rest.length->rest[rest.length-1]?≠some 0:=by
     intro h0;have:=hlast (by simp);simp only [List.length_cons]at this;rw [show rest.length+1-1=(rest.length-1)+1 by omega,List.getElem?_cons_succ]at this;exact this
   have hleft:0<left:=by
     have:=Q88 (n::rest) (by simp) (hlast (by simp));omega
   have hm:=VD (h:=decide ((pre.length:Int)<sy)) 13 P.length (by simp;omega);(have hm1:(Qs (decide ((pre.length:Int)<sy)) 13 ⟨P.length,0⟩).1=true:=by rw [hm]);(have hx:(n+1).toNat<left+2:=by omega);(have hy1:(((n+1).toNat:Nat):Int)-1=n:=by omega);by_cases hn:n=0
   . subst hn
     have hrf:ran=false:=by
       cases ran with
       | false=>rfl
       | true=>exact absurd rfl (hran rfl)
     subst hrf
     have hr0:0<rest.length:=by
       rcases Nat.eq_zero_or_pos rest.length with h|h
       . have:=List.eq_nil_of_length_eq_zero h
         subst this;exact absurd rfl (hlast (by simp))
       exact h
     have hz:=Q1M rest hr0 (hlast2 hr0);have hnum:=Q0h P (Yq (QH rest)++(Y5 left (QH rest) rest++X)) 1 (left+2) (by omega) (by omega) (by omega);have hm2:=VD (h:=((1:Nat):Int)-1 != 0 || !false) 13 (P.length+(Yp 1 (left+2)).length) (by rfl);have hng:=Q3c (sy-(pre.length+1:Nat)) (Y5 left (QH rest) rest++X) (QH rest) 300 (P++Yp 1 (left+2)) 0 (by omega) (by omega)
     have ih:=Xa sy X k (rest.drop (QH rest)) f left (pre++[0]++List.replicate (QH rest) 0) true (P++Yp 1 (left+2)++Yq (QH rest))
       (by simp;omega) (by simp;omega) hl (by rw [<-Q1L];rw [Yt]at hs;simpa [Y0]using hs) (fun m hmm=>hall m (List.mem_cons_of_mem _ (List.mem_of_mem_drop hmm)))
       (fun _=>by
         rw [List.length_drop,List.getElem?_drop,show QH rest+(rest.length-QH rest-1)=rest.length-1 by omega]
         exact hlast2 hr0)
       (by simp;omega) (by simp;omega) (fun _=>by rw [List.head?_drop];exact VE rest)
     rw [Vl];simp only [List.append_assoc]at hnum hng ih ⊢;rw [Xb sy _ f left pre false ⟨P.length,0⟩ 1 _ hleft hm1 hnum (by rw [hm2]) (by rfl)];simp only [List.length_append]at hng ih ⊢;rw [hng];simp only [Nat.zero_add];rw [Vm left (QH rest) rest (Q1N rest)];simp only [Nat.add_assoc,List.append_assoc]at ih ⊢;rw [ih,<-Q4s];rfl
   have hnum:=Q0h P (Y5 (left-n.natAbs) 0 rest++X) (n+1).toNat (left+2) (by omega) (by omega) hx;have hm2:=VD (h:=((n+1).toNat:Int)-1 != 0 || !ran) 13 (P.length+(Yp (n+1).toNat (left+2)).length) (by rw [hy1];simp [hn])
   have ih:=Xa sy X k rest f (left-n.natAbs) (pre++[n]) false (P++Yp (n+1).toNat (left+2)) (by omega) (by omega) (by omega) (by omega)
     (fun m hmm=>hall m (List.mem_cons_of_mem _ hmm)) hlast2 (by simp;omega) (by omega) (by simp)
   rw [V7 left n rest hn];simp only [List.append_assoc]at hnum ih ⊢;rw [Q0i sy _ f left pre ran ⟨P.length,0⟩ (n+1).toNat _ hleft hm1 hnum (by rw [hm2]) (by omega),hy1];simp only [List.length_append]at ih ⊢;rw [ih];simp [Nat.add_assoc]
theorem Q1O (sy lb:Int) (X:List Bool) (p:Nat) (N:List Int) (hv:Qg p N 256 9) (hp:p≠0) (hsy:(N.length:Int)<=sy) (hlb:(p:Int)<=lb) :
   Jp sy lb (Qy p N++X)=(p,N,⟨(Qy p N).length,0⟩):=by
 obtain⟨v1,v2,v3,v4,v5,v6,v7,v8⟩:=hv;have hp9:2^p<=2^9:=Nat.pow_le_pow_right (by omega) (by omega);have ht:=ZS [] (Y5 (2^p) 0 N++X) 4 (p-1) (by omega);have hm:=VD (h:=decide (((p-1:Nat):Int)+1<=min lb 9)) 13 4 (by simp;omega);have htb:=Xa sy X N.length N 600 (2^p) [] false (Qj 4 (p-1)) (Nat.le_refl _) (by omega) (by omega) (by rw [v8];simp) v7 (fun _=>v6) (by simpa using hsy) (by omega) (by simp);simp only [List.nil_append,List.length_nil,Nat.zero_add]at ht;simp only [List.nil_append,YS]at htb;unfold Jp Qy;rw [List.append_assoc];simp only [ht,hm,if_true,show p-1+1=p by omega,htb,List.length_append,YS]
theorem Vh {L:List Bool} {n:Nat} {σ:St} (h:(Qp L n σ).2.e≠3):σ.e≠3:=by
 intro h3;unfold Qp at h;rw [if_pos (by omega)]at h;exact h h3
theorem Q4t {L:List Bool} {n:Nat} {σ:St} (h:σ.e≠0):(Qp L n σ).2=σ:=by unfold Qp;rw [if_pos h]
theorem Ku {L:List Bool} (X:List Bool) {n:Nat} {σ:St} (h:(Qp L n σ).2.e≠3):Qp (L++X) n σ=Qp L n σ:=by
 unfold Qp at h ⊢;by_cases h1:σ.e≠0
 . rw [if_pos h1,if_pos h1]
 rw [if_neg h1]at h;rw [if_neg h1,if_neg h1];by_cases h2:σ.fr+n<=L.length
 . rw [if_pos h2,if_pos (by simp;omega),List.drop_append_of_le_length (by omega),List.take_append_of_le_length (by simp;omega)]
 rw [if_neg h2]at h;exact absurd rfl h
theorem KT {L:List Bool} {n:Nat} {σ:St} (h:σ.fr<=L.length):(Qp L n σ).2.fr<=L.length:=by
 unfold Qp;split
 . exact h
 split
 . assumption
 exact h
theorem YY {b:Bool} {σ:St} (h:(Qs b 13 σ).2.e≠3):σ.e≠3:=by
 intro h3;unfold Qs at h;rw [if_neg (by omega)]at h;exact h h3
theorem Z4 {b:Bool} {e:Int} {σ:St}:(Qs b e σ).2.fr=σ.fr:=by
 unfold Qs;split
 . split<;>rfl
 rfl
theorem Xc {L:List Bool} {m:Nat} {σ:St} (h:(Y4 L m σ).2.e≠3):σ.e≠3:=by
 unfold Y4 at h;split at h
 . exact Vh h
 exact Vh (Vh h)
theorem Q4u {L:List Bool} (X:List Bool) {m:Nat} {σ:St} (h:(Y4 L m σ).2.e≠3):Y4 (L++X) m σ=Y4 L m σ:=by
 unfold Y4 at h ⊢;by_cases h1:(Qp L (Ye m) σ).1<YJ m
 . rw [if_pos h1]at h
   rw [if_pos h1,Ku X h,if_pos h1]
 rw [if_neg h1]at h;have h2:=Vh h;rw [if_neg h1,Ku X h2,if_neg h1,Ku X h]
theorem Q1P {L:List Bool} {m:Nat} {σ:St} (h:σ.fr<=L.length):(Y4 L m σ).2.fr<=L.length:=by
 unfold Y4;split
 . exact KT h
 exact KT (KT h)
theorem KA {room:Int} {L:List Bool}:∀ {f k len:Nat} {σ:St},(QO room L f k len σ).2.e≠3->σ.e≠3
 | 0,_,_,_,h=>h
 | f+1,k,len,σ,h=>by
   unfold QO at h
   split at h
   . split at h
     . exact YY (Vh (KA h))
     exact YY h
   exact h
theorem Q0j {room:Int} {L:List Bool} (X:List Bool):∀ {f k len:Nat} {σ:St},(QO room L f k len σ).2.e≠3->QO room (L++X) f k len σ=QO room L f k len σ
 | 0,_,_,_,h=>rfl
 | f+1,k,len,σ,h=>by
   unfold QO at h ⊢
   by_cases h1:k=3
   . rw [if_pos h1]at h
     rw [if_pos h1,if_pos h1]
     by_cases h2:(Qs (decide ((len:Int)<room)) 13 σ).1=true
     . rw [if_pos h2]at h
       rw [if_pos h2,if_pos h2,Ku X (KA h),Q0j X h]
     rw [if_neg h2,if_neg h2]
   rw [if_neg h1,if_neg h1]
theorem Xd {room:Int} {L:List Bool}:∀ {f k len:Nat} {σ:St},σ.fr<=L.length->(QO room L f k len σ).2.fr<=L.length
 | 0,_,_,_,h=>h
 | f+1,k,len,σ,h=>by
   unfold QO
   split
   . split
     . exact Xd (KT (by rw [Z4];exact h))
     rw [Z4];exact h
   exact h
theorem Q1Q {sy:Int} {L:List Bool} {left:Nat} {N:List Int} {ran:Bool} {σ:St} (h:(JO sy L left N ran σ).2.2.e≠3):σ.e≠3:=by
 unfold JO at h;simp only at h;split at h
 . split at h
   . exact Xc (YY (KA h))
   exact Xc (YY h)
 exact Xc (YY h)
theorem Q4v {sy:Int} {L:List Bool} {left:Nat} {N:List Int} {ran:Bool} {σ:St} (h:(JO sy L left N ran σ).2.2.e≠3):(Y4 L (left+2) σ).2.e≠3:=by
 unfold JO at h;simp only at h;split at h
 . split at h
   . exact YY (KA h)
   exact YY h
 exact YY h
theorem Q1R {sy:Int} {L:List Bool} (X:List Bool) {left:Nat} {N:List Int} {ran:Bool} {σ:St} (h:(JO sy L left N ran σ).2.2.e≠3):JO sy (L++X) left N ran σ=JO sy L left N ran σ:=by
 have h0:=Q4v h;unfold JO at h ⊢;rw [Q4u X h0];simp only at h ⊢;by_cases h1:(Qs (((Y4 L (left+2) σ).1:Int)-1 != 0 || !ran) 13 (Y4 L (left+2) σ).2).1=true
 . rw [if_pos h1]at h
   rw [if_pos h1,if_pos h1];by_cases h2:((Y4 L (left+2) σ).1:Int)-1=0
   . rw [if_pos h2]at h
     rw [if_pos h2,if_pos h2,Q0j X h]
   rw [if_neg h2,if_neg h2]
 rw [if_neg h1,if_neg h1]
theorem Q2A {sy:Int} {L:List Bool} {left:Nat} {N:List Int} {ran:Bool} {σ:St} (h:σ.fr<=L.length):(JO sy L left N ran σ).2.2.fr<=L.length:=by
 have h0:=Q1P (m:=left+2) h;unfold JO;simp only;split
 . split
   . exact Xd (by rw [Z4];exact h0)
   simp only [Z4];exact h0
 simp only [Z4];exact h0
theorem XC {sy:Int} {L:List Bool}:∀ {f left:Nat} {N:List Int} {ran:Bool} {σ:St},(QZ sy L f left N ran σ).2.e≠3->σ.e≠3
 | 0,_,_,_,_,h=>h
 | f+1,left,N,ran,σ,h=>by
   unfold QZ at h
   split at h
   . split at h
     . simp only at h
       split at h
       . exact YY (Q1Q (XC h))
       exact YY (Q1Q h)
     exact YY h
   exact h
theorem Q1S {sy:Int} {L:List Bool} (X:List Bool):∀ {f left:Nat} {N:List Int} {ran:Bool} {σ:St},(QZ sy L f left N ran σ).2.e≠3->QZ sy (L++X) f left N ran σ=QZ sy L f left N ran σ
 | 0,_,_,_,_,h=>rfl
 | f+1,left,N,ran,σ,h=>by
   unfold QZ at h ⊢
   by_cases h1:0<left
   . rw [if_pos h1]at h
     rw [if_pos h1,if_pos h1]
     by_cases h2:(Qs (decide ((N.length:Int)<sy)) 13 σ).1=true
     . rw [if_pos h2]at h
       rw [if_pos h2,if_pos h2]
       simp only at h ⊢
       by_cases h3:(JO sy L left N ran (Qs (decide ((N.length:Int)<sy)) 13 σ).2).1.1=true
       . rw [if_pos h3]at h
         have h4:=Q1R X (XC h)
         rw [if_pos h3,h4,if_pos h3,Q1S X h]
       rw [if_neg h3]at h
       have h4:=Q1R X h
       rw [if_neg h3,h4,if_neg h3]
     rw [if_neg h2,if_neg h2]
   rw [if_neg h1,if_neg h1]
theorem Q2B {sy:Int} {L:List Bool}:∀ {f left:Nat} {N:List Int} {ran:Bool} {σ:St},σ.fr<=L.length->(QZ sy L f left N ran σ).2.fr<=L.length
 | 0,_,_,_,_,h=>h
 | f+1,left,N,ran,σ,h=>by
   unfold QZ
   split
   . split
     . simp only
       split
       . exact Q2B (Q2A (by rw [Z4];exact h))
       exact Q2A (by rw [Z4];exact h)
     simp only [Z4];exact h
   exact h
theorem Q6L {sy lb:Int} {L:List Bool} (X:List Bool) (h:(Jp sy lb L).2.2.e≠3):Jp sy lb (L++X)=Jp sy lb L:=by
 unfold Jp at h ⊢;simp only at h ⊢;by_cases h1:(Qs (decide (((Qp L 4 ⟨0,0⟩).1:Int)+1<=min lb 9)) 13 (Qp L 4 ⟨0,0⟩).2).1=true
 . rw [if_pos h1]at h
   have h2:=Ku X (YY (XC h));rw [if_pos h1,h2,if_pos h1,Q1S X h]
 rw [if_neg h1]at h;have h2:=Ku X (YY h);rw [if_neg h1,h2,if_neg h1]
theorem Q89 {sy lb:Int} {L:List Bool}:(Jp sy lb L).2.2.fr<=L.length:=by
 have h0:(Qp L 4 ⟨0,0⟩).2.fr<=L.length:=KT (by simp);unfold Jp;simp only;split
 . exact Q2B (by rw [Z4];exact h0)
 simp only [Z4];exact h0
theorem Q6M {sy lb:Int} {p:Nat} {N:List Int} (hv:Qg p N 256 9) (hp:p≠0) (hsy:(N.length:Int)<=sy) (hlb:(p:Int)<=lb) (k:Nat) (hk:k<(Qy p N).length) :
   (Jp sy lb ((Qy p N).take k)).2.2.e=3:=by
 rcases Decidable.em ((Jp sy lb ((Qy p N).take k)).2.2.e=3)with h|h
 . exact h
 have h1:=Q6L ((Qy p N).drop k) h;have h2:=Q1O sy lb [] p N hv hp hsy hlb;rw [List.take_append_drop]at h1;rw [List.append_nil]at h2;have h3:=Q89 (sy:=sy) (lb:=lb) (L:=(Qy p N).take k);rw [<-h1,h2]at h3;simp at h3;omega
theorem Vp:∀n,Qj n 0=List.replicate n false
 | 0=>rfl
 | n+1=>by rw [List.replicate_succ,<-Vp n];rfl
theorem Vq:∀(k:Nat) (l:List Bool),l.length<=k->Qm (QL l)=Q1l l
 | _,[],_=>by rfl
 | 0,_::_,h=>by simp at h
 | k+1,b::l,h=>by
   by_cases hs:(b::l).length<=8
   . rw [X8 _ (by simp) hs,JZ,Q1j,List.append_nil]
     have h1:=VS (b::l).length (8-(b::l).length) (Y7 (b::l))
     rw [show(b::l).length+(8-(b::l).length)=8 by omega,JY,Nat.div_eq_of_lt (Z9 _),Vp]at h1
     rw [h1]
     unfold Q1l
     congr 2
     simp only [List.length_cons]at hs ⊢
     omega
   have h2:(b::l)=(b::l).take 8++(b::l).drop 8:=(List.take_append_drop 8 _).symm
   have h3:((b::l).take 8).length=8:=by rw [List.length_take];omega
   have ih:=Vq k ((b::l).drop 8) (by rw [List.length_drop];simp only [List.length_cons]at h ⊢;omega)
   have h4:Qm (QL (b::l))=(b::l).take 8++Q1l ((b::l).drop 8):=by
     have h5:=Q1I ((b::l).take 8) ((b::l).drop 8) h3;rw [<-h2]at h5;rw [h5,JZ,ih];have:=JY ((b::l).take 8);rw [h3]at this;rw [this]
   rw [h4];unfold Q1l;rw [<-List.append_assoc,<-h2,List.length_drop]
   congr 2
   omega
theorem Q2C (bs:List Nat) (k:Nat):Qm (bs.take k)=(Qm bs).take (8*k):=by
 (have h1:Qm bs=Qm (bs.take k)++Qm (bs.drop k):=by rw [<-V0,List.take_append_drop]);by_cases h:k<=bs.length
 . have hl:(Qm (bs.take k)).length=8*k:=by rw [Kk,List.length_take];omega
   rw [h1,List.take_append_of_le_length (by omega)];exact(List.take_of_length_le (by omega)).symm
 rw [List.take_of_length_le (by omega),List.take_of_length_le (by rw [Kk];omega)]
theorem Q08 {p:Nat} {N:List Int} (hv:Qg p N 256 9):(QL (Qy p N)).length<=400:=by
 have:=ZE p N (by have:=hv.2.2.1;omega);have:=hv.2.2.2.2.1;rw [Za];omega
theorem Q8a {sy lb:Int} {p:Nat} {N:List Int} (hv:Qg p N 256 9) (hp:p≠0) (hsy:(N.length:Int)<=sy) (hlb:(p:Int)<=lb) (k:Nat) (hk:k<(QL (Qy p N)).length) :
   YR sy lb (Qm ((QL (Qy p N)).take k)) = .error 3:=by
 have hl:=Za (Qy p N);(have h8:8*k<(Qy p N).length:=by omega)
 have e1:Qm ((QL (Qy p N)).take k)=(Qy p N).take (8*k):=by
   rw [Q2C,Vq _ _ (Nat.le_refl _)];unfold Q1l;rw [List.take_append_of_le_length (by omega)]
 have h256:=hv.2.2.2.2.1;have h2:=Q6M (sy:=min sy 256) (lb:=lb) hv hp (by omega) hlb (8*k) h8;rw [e1];unfold YR;simp only [h2];rfl
theorem Q4w:∀n,Y7 (List.replicate n false)=0
 | 0=>rfl
 | n+1=>by
   have h:=J7 (n+1) 0
   rw [Vp]at h
   simpa using h
theorem Q8b (D:List Bool) (B:List Nat):Qm (QL D++B)=D++(List.replicate ((8-D.length%8)%8) false++Qm B):=by
 rw [V0,Vq _ _ (Nat.le_refl _)];unfold Q1l;rw [List.append_assoc]
theorem Q6N {sy lb:Int} {p:Nat} {N:List Int} (hv:Qg p N 256 9) (hp:p≠0) (hsy:(N.length:Int)<=sy) (hlb:(p:Int)<=lb) (B:List Nat) :
   YR sy lb (Qm (QL (Qy p N)++B)) = .ok (p,N,(QL (Qy p N)).length):=by
 have h256:=hv.2.2.2.2.1;have hr:=fun X=>Q1O (min sy 256) lb X p N hv hp (by omega) hlb;rw [Q8b,Za];generalize Qy p N=D at *;unfold YR;simp only [hr];rw [if_neg (by simp)];have h1:(D++(List.replicate ((8-D.length%8)%8) false++Qm B)).drop D.length=List.replicate ((8-D.length%8)%8) false++Qm B:=List.drop_left;rw [h1,List.take_append_of_le_length (by simp),List.take_of_length_le (by simp),Q4w];rw [if_neg (by simp)]
 congr 3
 omega
def Seg (L:List Bool) (i j:Nat) (X:List Bool):Prop:=i<=j/\j<=L.length/\L.take j=L.take i++X
theorem Seg.refl {L:List Bool} {i:Nat} (h:i<=L.length):Seg L i i []:=⟨Nat.le_refl _,h,by simp⟩
theorem Seg.trans {L:List Bool} {i j k:Nat} {X Y:List Bool} (h:Seg L i j X) (g:Seg L j k Y):Seg L i k (X++Y) :=
 ⟨Nat.le_trans h.1 g.1,g.2.1,by rw [g.2.2,h.2.2,List.append_assoc]⟩
theorem Seg.len {L:List Bool} {i j:Nat} {X:List Bool} (h:Seg L i j X):j=i+X.length:=by
 obtain⟨h1,h2,h3⟩:=h;have:=congrArg List.length h3;rw [List.length_take,List.length_append,List.length_take]at this;omega
theorem Q4X {L:List Bool} {n:Nat} {σ:St} (h:(Qp L n σ).2.e=0):σ.e=0:=by
 by_cases h1:σ.e=0
 . exact h1
 rw [Q4t h1]at h;exact h
theorem Vi {L:List Bool} {n:Nat} {σ:St} (h:(Qp L n σ).2.e=0):Seg L σ.fr (Qp L n σ).2.fr (Qj n (Qp L n σ).1):=by
 have h0:=Q4X h;unfold Qp at h ⊢;rw [if_neg (by omega)]at h;rw [if_neg (by omega)];by_cases h2:σ.fr+n<=L.length
 . rw [if_pos h2]
   (have hl:((L.drop σ.fr).take n).length=n:=by rw [List.length_take,List.length_drop];omega);have:=JY ((L.drop σ.fr).take n);rw [hl]at this;exact⟨by simp,h2,by simp only;rw [this,List.take_add]⟩
 rw [if_neg h2]at h;simp at h
theorem Q4x {L:List Bool} {m:Nat} {σ:St} (h:(Y4 L m σ).2.e=0):Seg L σ.fr (Y4 L m σ).2.fr (Yp (Y4 L m σ).1 m):=by
 unfold Y4 at h ⊢;by_cases h1:(Qp L (Ye m) σ).1<YJ m
 . rw [if_pos h1]at h
   rw [if_pos h1];unfold Yp;rw [if_pos h1];exact Vi h
 rw [if_neg h1]at h;rw [if_neg h1];have s1:=Vi (Q4X h);have s2:=Vi h;have hc:=ZH L 1 (Qp L (Ye m) σ).2;generalize Qp L (Ye m) σ=X at *;generalize Qp L 1 X.2=Y at *;simp only;unfold Yp;rw [if_neg (by omega),show 2*X.1+Y.1-YJ m+YJ m=2*X.1+Y.1 by omega,show(2*X.1+Y.1) / 2=X.1 by omega,<-Vf 1 (2*X.1+Y.1),show(2*X.1+Y.1)%2^1=Y.1 by omega];exact s1.trans s2
theorem Q3d (z:Nat):Yq (3+z)=Qj 2 3++Yq z:=by
 unfold Yq;rw [show(3+z) / 3=z / 3+1 by omega,show(3+z)%3=z%3 by omega,List.replicate_succ,List.flatten_cons,List.append_assoc]
theorem Q3e (z:Nat) (h:z<3):Yq z=Qj 2 z:=by
 unfold Yq;rw [show z / 3=0 by omega,show z%3=z by omega];rfl
theorem Zw {h:Bool} {e:Int} {σ:St} (he:e≠0) (h1:(Qs h e σ).1=false):(Qs h e σ).2.e≠0:=by
 unfold Qs at h1 ⊢;split at h1
 . split at h1
   . simp at h1
   rename_i h2 h3
   rw [if_pos h2,if_neg h3];exact he
 rename_i h2
 rw [if_neg h2];exact h2
theorem KB {h:Bool} {e:Int} {σ:St} (h1:(Qs h e σ).1=true):σ.e=0:=by
 unfold Qs at h1;split at h1
 . assumption
 simp at h1
theorem Q3f {room:Int} {L:List Bool} {f k len:Nat} {σ:St} (h:k≠3):QO room L f k len σ=(len,σ):=by
 cases f with
 | zero=>rfl
 | succ f=>unfold QO;rw [if_neg h]
theorem Q0k {room:Int} {L:List Bool}:∀(f len:Nat) (σ:St),0<f->room<=(len:Int)+3*((f:Int)-1)->(QO room L f 3 len σ).2.e=0 ->
   ∃z,(QO room L f 3 len σ).1=len+z/\Seg L σ.fr (QO room L f 3 len σ).2.fr (Yq z)
 | 0,_,_,h,_,_=>absurd h (by omega)
 | f+1,len,σ,_,hb,h=>by
   unfold QO at h ⊢
   rw [if_pos rfl]at h
   rw [if_pos rfl]
   by_cases h2:(Qs (decide ((len:Int)<room)) 13 σ).1=true
   . rw [if_pos h2]at h
     rw [if_pos h2]
     obtain⟨e1,e2⟩:=Jj h2
     rw [e1]at h ⊢
     have hlt:(len:Int)<room:=by simpa using e2
     have h4:=ZH L 2 σ
     have hs:=Vi (L:=L) (n:=2) (σ:=σ)
     generalize Qp L 2 σ=X at *
     obtain⟨k,σ1⟩:=X
     simp only at h hs h4 ⊢
     by_cases hk:k=3
     . subst hk
       obtain⟨z,hz1,hz2⟩:=Q0k f (len+3) σ1 (by omega) (by omega) h
       have he:σ1.e=0:=by
         by_cases he:σ1.e=0
         . exact he
         exact absurd (noughtsS_e h) he
       exact⟨3+z,by rw [hz1];omega,by rw [Q3d];exact(hs he).trans hz2⟩
     rw [Q3f hk]at h ⊢;exact⟨k,rfl,by rw [Q3e k (by omega)];exact hs h⟩
   rw [if_neg h2]at h;exact absurd h (Zw (by omega) (by simpa using h2))
where
  noughtsS_e {room:Int} {L:List Bool}:∀ {f k len:Nat} {σ:St},(QO room L f k len σ).2.e=0->σ.e=0
  | 0,_,_,_,h=>h
  | f+1,k,len,σ,h=>by
    unfold QO at h
    split at h
    . split at h
      . rename_i h2
        exact KB h2
      . rename_i h2
        exact absurd h (Zw (by omega) (by simpa using h2))
    . exact h
theorem Q4y (z:Nat) (l:List Int) (h:l.head?≠some 0):QH (List.replicate z 0++l)=z:=by
 induction z with
 | zero =>
   cases l with
   | nil=>rfl
   | cons a l=>exact J8 a l (by simpa using h)
 | succ z ih=>rw [List.replicate_succ,List.cons_append,YO,ih]
theorem Q0Z {l r:List Int} (h0:r≠[]) (h:r[r.length-1]?≠some 0):(l++r)[(l++r).length-1]?≠some 0:=by
 have:0<r.length:=List.length_pos_iff.2 h0;rw [List.length_append,List.getElem?_append_right (by omega),show l.length+r.length-1-l.length=r.length-1 by omega];exact h
theorem XD {sy:Int} {L:List Bool} (hsy:sy<=256):∀(f left:Nat) (N:List Int) (ran:Bool) (σ:St),σ.fr<=L.length->left<=512->258<=f+min N.length 257->(left=0->(N.length:Int)<=sy) ->
   σ.e=0->(QZ sy L f left N ran σ).2.e=0 ->
   ∃rest,(QZ sy L f left N ran σ).1=N++rest/\Seg L σ.fr (QZ sy L f left N ran σ).2.fr (Y5 left 0 rest)/\Yl rest=left/\(∀n∈rest,-1<=n)/\((N++rest).length:Int)<=sy /\
     (0<left->rest≠[]/\rest[rest.length-1]?≠some 0)/\(ran=true->rest.head?≠some 0)
 | 0,_,N,_,_,_,_,hf,_,_,_=>absurd hf (by omega)
 | f+1,left,N,ran,σ,hfr,hL,hf,hz,h0,h=>by
   by_cases hleft:0<left
   . by_cases hm:(Qs (decide ((N.length:Int)<sy)) 13 σ).1=true
     . have hlt:(N.length:Int)<sy:=by simpa using(Jj hm).2
       have hfN:∀z,258<=f+min (List.length (α:=Int) (N++[0]++List.replicate z 0)) 257:=fun z=>by
         have e:List.length (α:=Int) (N++[0]++List.replicate z 0)=N.length+(z+1):=by simp
         rw [e];omega
       obtain⟨Y,hY⟩:=nm_ (Y4 L (left+2) σ)
       have hyl:=Q1T L (left+2) σ (by omega) (by omega)
       have hys:=Q4x (L:=L) (m:=left+2) (σ:=σ)
       have hyf:=Q1P (L:=L) (m:=left+2) (σ:=σ) hfr
       rw [<-hY]at hyl hys hyf
       obtain⟨y,σ6⟩:=Y
       simp only at hyl hys hyf
       by_cases hm2:(Qs ((y:Int)-1 != 0 || !ran) 13 σ6).1=true
       . have h6:=KB hm2
         have hc:=(Jj hm2).2
         have hsg:=hys h6
         by_cases hn:(y:Int)-1=0
         . have hy1:y=1:=by omega
           subst hy1
           rw [Xb sy L f left N ran σ 1 σ6 hleft hm hY.symm hm2 hn]at h ⊢
           have hra:ran=false:=by simpa using hc
           have hno:=Q0k (room:=sy-(N.length+1:Nat)) (L:=L) 300 0 σ6 (by omega) (by omega)
           have hnf:=Xd (room:=sy-(N.length+1:Nat)) (L:=L) (f:=300) (k:=3) (len:=0) (σ:=σ6) hyf
           generalize QO (sy-(N.length+1:Nat)) L 300 3 0 σ6=Z at *
           obtain⟨z,σ7⟩:=Z
           simp only at h hno hnf ⊢
           have h7:σ7.e=0:=tableS_e h
           obtain⟨z',hz1,hz2⟩:=hno h7
           rw [Nat.zero_add]at hz1
           subst hz1
           obtain⟨rest,r1,r2,r3,r4,r5,r6,r7⟩:=XD hsy f left (N++[0]++List.replicate z 0) true σ7 hnf hL (hfN z) (by omega) h7 h
           have hzr:=Q4y z rest (r7 rfl)
           refine⟨0::(List.replicate z 0++rest),?_,?_,?_,?_,?_,?_,?_⟩
           . rw [r1];simp
           . rw [Vl,hzr,Vm left z _ (by simp),List.drop_left' (by simp)]
             exact hsg.trans (hz2.trans r2)
           . rw [Yt,Q1L,hzr,List.drop_left' (by simp),r3]
             simp [Y0]
           . intro n hn
             rcases List.mem_cons.1 hn with hn|hn
             . omega
             rcases List.mem_append.1 hn with hn|hn
             . have:=(List.mem_replicate.1 hn).2;omega
             exact r4 n hn
           . simpa using r5
           . intro _
             obtain⟨r61,r62⟩:=r6 hleft
             refine⟨by simp,?_⟩
             have:=Q0Z (l:=0::List.replicate z 0) r61 r62
             simpa using this
           intro hr
           rw [hra]at hr
           cases hr
         rw [Q0i sy L f left N ran σ y σ6 hleft hm hY.symm hm2 hn]at h ⊢
         obtain⟨rest,r1,r2,r3,r4,r5,r6,r7⟩:=XD hsy f (left-((y:Int)-1).natAbs) (N++[(y:Int)-1]) false σ6 hyf (by omega) (by simp;omega) (by simp;omega) h6 h
         refine⟨((y:Int)-1)::rest,?_,?_,?_,?_,?_,?_,?_⟩
         . rw [r1];simp
         . rw [V7 _ _ _ hn,show((y:Int)-1+1).toNat=y by omega]
           exact hsg.trans r2
         . rw [Yt,r3]
           unfold Y0
           split<;>omega
         . intro n hn
           rcases List.mem_cons.1 hn with hn|hn
           . omega
           exact r4 n hn
         . simpa using r5
         . intro _
           refine⟨by simp,?_⟩
           by_cases hl0:0<left-((y:Int)-1).natAbs
           . obtain⟨r61,r62⟩:=r6 hl0
             have:=Q0Z (l:=[(y:Int)-1]) r61 r62
             simpa using this
           have hs0:Yl rest=0:=by rw [r3];omega
           by_cases hre0:rest=[]
           . subst hre0
             simpa using hn
           exact absurd hs0 (by have:=tableS_rest0 (sy:=sy) (L:=L) f (N++[(y:Int)-1]) false σ6 (left-((y:Int)-1).natAbs) (by omega) ;rw [this]at r1;simp at r1;exact absurd r1 hre0)
         intro _
         simpa using hn
       rw [V8 sy L f left N ran σ y σ6 hleft hm hY.symm (by simpa using hm2)]at h
       exact absurd h (Zw (by omega) (by simpa using hm2))
     rw [Xe sy L f left N ran σ hleft (by simpa using hm)]at h
     exact absurd h (Zw (by omega) (by simpa using hm))
   obtain rfl:left=0:=by omega
   have e:QZ sy L (f+1) 0 N ran σ=(N,σ):=by simp [QZ]
   rw [e]
   exact⟨[],by simp,Seg.refl hfr,by simp [Yl],by simp,by simpa using hz rfl,by omega,by simp⟩
where
  tableS_rest0 {sy:Int} {L:List Bool} (f:Nat) (N:List Int) (ran:Bool) (σ:St) (left:Nat) (h:left=0):(QZ sy L f left N ran σ).1=N:=by
    subst h
    cases f with
    | zero=>rfl
    | succ f=>simp [QZ]
  tableS_e {sy:Int} {L:List Bool}:∀ {f left:Nat} {N:List Int} {ran:Bool} {σ:St},(QZ sy L f left N ran σ).2.e=0->σ.e=0
  | 0,_,_,_,_,h=>h
  | f+1,left,N,ran,σ,h=>by
    by_cases hleft:0<left
    . by_cases hm:(Qs (decide ((N.length:Int)<sy)) 13 σ).1=true
      . exact KB hm
      . rw [Xe sy L f left N ran σ hleft (by simpa using hm)]at h
        exact absurd h (Zw (by omega) (by simpa using hm))
    . obtain rfl:left=0:=by omega
      have e:QZ sy L (f+1) 0 N ran σ=(N,σ):=by simp [QZ]
      rw [e]at h
      exact h
theorem Q5A {sy lb:Int} {L:List Bool} (hsy:sy<=256) {p:Nat} {N:List Int} {σ:St} (h:Jp sy lb L=(p,N,σ)) (h0:σ.e=0) :
   Qg p N 256 9/\p≠0/\(N.length:Int)<=sy/\(p:Int)<=lb/\Seg L 0 σ.fr (Qy p N):=by
 unfold Jp at h;simp only at h;by_cases hm:(Qs (decide (((Qp L 4 ⟨0,0⟩).1:Int)+1<=min lb 9)) 13 (Qp L 4 ⟨0,0⟩).2).1=true
 . rw [if_pos hm,(Jj hm).1]at h
   (have hlb:((Qp L 4 ⟨0,0⟩).1:Int)+1<=min lb 9:=by simpa using(Jj hm).2);have h4:=KB hm;have hs:=Vi h4;have hfr:(Qp L 4 ⟨0,0⟩).2.fr<=L.length:=KT (by simp);generalize Qp L 4 ⟨0,0⟩=X at *;obtain⟨x,σ1⟩:=X;simp only at h hlb h4 hs hfr;injection h with hp h;have hx:2^(x+1)<=512:=Nat.le_trans (Nat.pow_le_pow_right (n:=2) (by omega) (show x+1<=9 by omega)) (by decide);have hx0:=Nat.two_pow_pos (x+1);(have hT:(QZ sy L 600 (2^(x+1)) [] false σ1).2.e=0:=by rw [h];exact h0);obtain⟨rest,r1,r2,r3,r4,r5,r6,_⟩:=XD hsy 600 (2^(x+1)) [] false σ1 hfr hx (by simp) (by omega) h4 hT;rw [h]at r1 r2;simp only [List.nil_append]at r1 r2 r5;subst r1 hp;obtain⟨r61,r62⟩:=r6 hx0;refine⟨⟨by omega,by omega,by omega,List.length_pos_iff.2 r61,by omega,r62,r4,?_⟩,by omega,r5,by omega,?_⟩
   . rw [r3];simp
   unfold Qy;rw [show x+1-1=x by omega];exact hs.trans r2
 rw [if_neg hm]at h;injection h with hp h;injection h with hn h;rw [<-h]at h0;exact absurd h0 (Zw (by omega) (by simpa using hm))
theorem Q1m {l:List Bool} (h:Y7 l=0):l=List.replicate l.length false:=by
 have:=JY l;rw [h,Vp]at this;exact this.symm
theorem Q8c {a b:List Nat} (ha:∀x∈a,x<256) (hb:∀x∈b,x<256) (h:Qm a=Qm b):a=b:=by
 have h1:=Kz a [] ha;have h2:=Kz b [] hb;rw [List.append_nil,Q2x,List.append_nil]at h1 h2;rw [<-h1,<-h2,h]
theorem Q6O {sy lb:Int} {bs:List Nat} (hb:∀b∈bs,b<256) {p k:Nat} {N:List Int} (h:YR sy lb (Qm bs) = .ok (p,N,k)) :
   Qg p N 256 9/\p≠0/\(N.length:Int)<=sy/\(p:Int)<=lb/\k<=bs.length/\QL (Qy p N)=bs.take k:=by
 unfold YR at h;simp only at h;obtain⟨q,M,σ,hr⟩:∃q M σ,Jp (min sy 256) lb (Qm bs)=(q,M,σ):=⟨_,_,_,rfl⟩;rw [hr]at h;simp only at h;by_cases he:σ.e≠0
 . rw [if_pos he]at h;cases h
 rw [if_neg he]at h;by_cases hv:Y7 (((Qm bs).drop σ.fr).take ((8-σ.fr%8)%8))≠0
 . rw [if_pos hv]at h;cases h
 rw [if_neg hv]at h;injection h with h;injection h with h1 h;injection h with h2 h3;subst h1 h2;(have he0:σ.e=0:=by omega);(have hv0:Y7 (((Qm bs).drop σ.fr).take ((8-σ.fr%8)%8))=0:=by omega);obtain⟨o1,o2,o3,o4,o5⟩:=Q5A (by omega) hr he0;have hl:=o5.len;have hle:=o5.2.1;rw [Kk]at hle;refine⟨o1,o2,by omega,o4,by omega,?_⟩;apply Q8c (Q1k _) (fun x hx=>hb x (List.mem_of_mem_take hx));rw [Vq _ _ (Nat.le_refl _),Q2C];(have h8:8*k=σ.fr+(8-σ.fr%8)%8:=by omega);have hpad:=Q1m hv0;rw [List.length_take,List.length_drop,Kk,Nat.min_eq_left (by omega)]at hpad;have h5:=o5.2.2;simp only [List.take_zero,List.nil_append]at h5;rw [h8,List.take_add,h5,hpad];unfold Q1l;rw [show σ.fr=(Qy q M).length by omega]
end Go.Proofs.YtjfdaphjijfieaaGreat
