/-
  Joined texts, part 19: contracts and plain lemmas.
  Conditions: none beyond those of each theorem.
-/
import Derived.Test.YtckjdhaflokcgaaGreatQ3
import Derived.Test.YtckjdhaflokcgaaGreatQ5
set_option linter.unusedVariables false
set_option linter.unusedSimpArgs false
set_option linter.unnecessarySimpa false
set_option maxRecDepth 100000
universe u
namespace Go.Proofs.YtckjdhaflokcgaaGreat


theorem Ks:∀n,Qs n 0=List.replicate n false
 | 0=>rfl
 | n+1=>by rw [List.replicate_succ,<-Ks n];rfl
theorem Kt:∀(k:Nat) (l:List Bool),l.length<=k->Yq (QE l)=VH l
 | _,[],_=>by rfl
 | 0,_::_,h=>by simp at h
 | k+1,b::l,h=>by
   by_cases hs:(b::l).length<=8
   . rw [Je _ (by simp) hs,YF,VF,List.append_nil]
     have h1:=Jk (b::l).length (8-(b::l).length) (QT (b::l))
     rw [show(b::l).length+(8-(b::l).length)=8 by omega,YY,Nat.div_eq_of_lt (J9 _),Ks]at h1
     rw [h1]
     unfold VH
     congr 2
     simp only [List.length_cons]at hs ⊢
     omega
   have h2:(b::l)=(b::l).take 8++(b::l).drop 8:=(List.take_append_drop 8 _).symm
   have h3:((b::l).take 8).length=8:=by rw [List.length_take];omega
   have ih:=Kt k ((b::l).drop 8) (by rw [List.length_drop];simp only [List.length_cons]at h ⊢;omega)
   have h4:Yq (QE (b::l))=(b::l).take 8++VH ((b::l).drop 8):=by
     have h5:=Kk ((b::l).take 8) ((b::l).drop 8) h3;rw [<-h2]at h5;rw [h5,YF,ih];have:=YY ((b::l).take 8);rw [h3]at this;rw [this]
   rw [h4];unfold VH;rw [<-List.append_assoc,<-h2,List.length_drop]
   congr 2
   omega

theorem Q03 (k v:Nat):Qs (k+1) v=Qs k v++[v / 2^k%2 == 1]:=by rw [Jk];rfl
theorem Q1a (L:List Bool) (i:Nat) (h:i<L.length):∃(fr:List Nat) (y:Nat),fr.length=i / 8/\y<2^(i%8)/\(i%8=0->QE (L.take i)=fr/\y=0)/\(i%8≠0->QE (L.take i)=fr++[y]) /\
   QE (L.take (i+1))=fr++[y+if L[i]then 2^(i%8)else 0]:=by
 (have hP:(L.take (8*(i / 8))).length=8*(i / 8):=by rw [List.length_take];omega)
 have hP8:Yq (QE (L.take (8*(i / 8))))=L.take (8*(i / 8)):=by
   rw [Kt _ _ (Nat.le_refl _)];unfold VH;rw [hP,show(8-8*(i / 8)%8)%8=0 by omega];simp
 have hsplit:∀j,8*(i / 8)<=j->L.take j=L.take (8*(i / 8))++(L.drop (8*(i / 8))).take (j-8*(i / 8)):=by
   intro j hj;have:=@List.take_add _ L (8*(i / 8)) (j-8*(i / 8));rw [show 8*(i / 8)+(j-8*(i / 8))=j by omega]at this;exact this
 have hpack:∀j,8*(i / 8)<=j->QE (L.take j)=QE (L.take (8*(i / 8)))++QE ((L.drop (8*(i / 8))).take (j-8*(i / 8))):=by
   intro j hj;have:=Z4 (QE (L.take (8*(i / 8)))) ((L.drop (8*(i / 8))).take (j-8*(i / 8))) (VG _);rw [hP8,<-hsplit j hj]at this;exact this
 (have hT:∀j,j<=L.length-8*(i / 8)->((L.drop (8*(i / 8))).take j).length=j:=fun j hj=>by rw [List.length_take,List.length_drop];omega);have hi:=hT (i%8) (by omega);have hi1:=hT (i%8+1) (by omega);have hv:=J9 ((L.drop (8*(i / 8))).take (i%8));rw [hi]at hv;refine⟨QE (L.take (8*(i / 8))),QT ((L.drop (8*(i / 8))).take (i%8)),by rw [JD,hP];omega,hv,fun h0=>?_,fun h0=>?_,?_⟩
 . rw [h0]
   refine⟨?_,rfl⟩;rw [show 8*(i / 8)=i by omega]
 . rw [hpack i (by omega),show i-8*(i / 8)=i%8 by omega,Je ((L.drop (8*(i / 8))).take (i%8)) (by omega) (by omega)]
 rw [hpack (i+1) (by omega),show i+1-8*(i / 8)=i%8+1 by omega,Je ((L.drop (8*(i / 8))).take (i%8+1)) (by omega) (by omega)]
 congr 2
 have hget:(L.drop (8*(i / 8)))[i%8]?=some L[i]:=by
   rw [List.getElem?_drop,show 8*(i / 8)+i%8=i by omega,List.getElem?_eq_getElem h]
 rw [List.take_add_one,hget,YL,hi];(cases L[i]<;>simp [QT])
end Go.Proofs.YtckjdhaflokcgaaGreat
