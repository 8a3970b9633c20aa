/-
  Joined texts, part 17: contracts and plain lemmas.
  Conditions: none beyond those of each theorem.
-/
import Derived.Test.YtjfdaphjijfieaaGreatN16
import Derived.Test.YtjfdaphjijfieaaGreatN14
set_option maxHeartbeats 2000000
set_option linter.unusedVariables false
set_option linter.unusedSimpArgs false
set_option maxRecDepth 100000
universe u
namespace Go.Proofs.YtjfdaphjijfieaaGreat
open Go.RowKit
theorem Q5t:∀z,z<256->z≠0->∀i,i<8->Lib.bitLen z-1<=i->(QD 8 z)[i]?=some (decide (i=Lib.bitLen z-1)):=by decide +kernel
theorem Q5u:∀z,z<256->z≠0->1<=Lib.bitLen z/\Lib.bitLen z<=8:=by decide +kernel
theorem VQ {bs:List Nat} (hlt:∀b∈bs,b<256) (hz:(bs.getLast?).getD 0≠0) :
   1<=bs.length/\Qo bs<8*bs.length/\∀j,Qo bs<=j->j<8*bs.length->(Q9 bs)[j]?=some (decide (j=Qo bs)):=by
 (have hne:bs≠[]:=by rintro rfl;exact hz rfl)
 have hlen:1<=bs.length:=by
   cases bs
   . exact absurd rfl hne
   simp
 have hd:=List.dropLast_concat_getLast hne;(have hg:(bs.getLast?).getD 0=bs.getLast hne:=by rw [List.getLast?_eq_some_getLast hne];rfl);rw [hg]at hz;have hz8:=hlt _ (List.getLast_mem hne);unfold Qo;rw [hg];generalize bs.getLast hne=z at *;obtain⟨t1,t2⟩:=Q5u z hz8 hz;refine⟨hlen,by omega,fun j h1 h2=>?_⟩;have hb:=Q5t z hz8 hz (j-8*(bs.length-1)) (by omega) (by omega)
 have hrow:Q9 bs=Q9 bs.dropLast++QD 8 z:=by
   rw [<-hd,ZU];simp [Q9]
 (have hl:(Q9 bs.dropLast).length=8*(bs.length-1):=by rw [Yj,List.length_dropLast]);rw [hrow,List.getElem?_append_right (by omega),hl,hb]
 congr 1
 rw [decide_eq_decide];omega
theorem Q08 (F:Nat->Prop) (A:Option Addr) (n c:Nat) (bs:List Nat) (w:World) (hr:Rd w F A n (Qi bs)) (hlt:∀b∈bs,b<256) (hn:n<=100000) :
   Calls Tryz.prog 68 #[.slice A n c] w fun e w'=>Q0 w w'/\if(bs.getLast?).getD 0=0 then e = .returned (.tuple #[.pointer none,.int .i64 14])else
     ∃g,e = .returned (.tuple #[.pointer (some ⟨g,0,none⟩),.int .i64 0])/\w.heap.size<=g/\ZO w' (fun b=>w.heap.size<=b/\b≠g) g ((Q9 bs).take (Qo bs)) 0:=by
 (have hL:bs.length=n:=by have:=hr.1;simpa using this);have HH:=hd_ (Q0s F A n c bs w hr hlt hn);have HR:=hd_ hr;(have hnI:(n:Int)<=100000:=by omega);have HL:=hd_ hL;have HC:=hd_ (fun hz=>VQ hlt hz);have HLT:=hd_ hlt;clear hr hlt hL;refine Q6 fun R hR=>?_;go_enter Tryz.func68,Tryz.ntmps68;go_wp2_with fail;refine HH.out.mono ?_;rintro e w1 ⟨s,rfl,o1,f1,k1⟩;obtain⟨A1,n1,c1,rfl,hn1⟩:=o1.form';obtain⟨_,hcap,hrd⟩:=o1.rd rfl;rw [<-hn1.out]at hrd hcap;(have hn1':n1=8*n:=by have:=hn1.out;have h2:=HL.out;simp at this;omega);subst hn1';(have hcI:(8*(n:Int))<=c1:=by omega);have HRD:=hd_ hrd;have F1:=hd_ f1;have K1:=hd_ k1;have LT:=hd_ (fun k hk=>o1.lt (k:=k) hk);have R1:=hd_ (HR.out.fresh f1);clear hn1 hrd f1 k1 o1 HH hcap;by_cases hn0:n=0
 . subst hn0
   have hbs:=hd_ (List.eq_nil_of_length_eq_zero HL.out);clear hnI hn hcI HRD LT K1 R1 HR;go_wp2_with fail;(try go_ret2);refine hR.out _ _ ⟨F1.out,?_⟩;rw [if_pos (by rw [hbs.out];rfl)];rfl
 obtain⟨k,rfl⟩:∃k,n=k+1:=⟨n-1,by omega⟩;obtain⟨b,o,rfl,_,_,hc⟩:=R1.out.at_ (k:=k) (by omega);(have hk:k<bs.length:=by have:=HL.out;omega)
 have hz:(Qi bs)[k]?=some (.int .u8 ((bs[k]:Nat):Int)):=by
   simp only [Qi,List.getElem?_map];rw [List.getElem?_eq_getElem hk];rfl
 rw [hz]at hc;(try simp at hc)
 have hlast:(bs.getLast?).getD 0=bs[k]:=by
   rw [List.getLast?_eq_getElem?,HL.out,Nat.add_sub_cancel,List.getElem?_eq_getElem hk];rfl
 have hz8:=HLT.out _ (List.getElem_mem hk);rw [hlast]at HC hR;generalize bs[k]=z at *;(have hkJ:(k:Int)<=100000:=by omega);clear hz hlast hk hn0 hnI hn;by_cases hz0:z=0
 . subst hz0
   clear hcI HRD LT K1 HC hz8;go_wp2_with fail;(try go_ret2);refine hR.out _ _ ⟨F1.out,?_⟩;rw [if_pos (by first|trivial|rfl)];rfl
 have HC2:=hd_ (HC.out hz0);(have hzI:¬(z:Int)=0:=by omega);(have hzb:((z:Int) == 0)=false:=by simp;omega);go_wp2_with fail;have hlen:bs.length=k+1:=HL.out;obtain⟨C,hCd⟩:=nm_ (Qo bs);rw [<-hCd,hlen]at HC2;rw [<-hCd]at hR;obtain⟨_,hC1,hC2⟩:=HC2.out;obtain⟨b1,o1,rfl,_,_,_⟩:=HRD.out.at_ (k:=0) (by omega);have HBIT:=hd_ hC2;have HC8:=hd_ hC1;(have hCI:(C:Int)<8*(k+1):=by omega);have HNZ:=hd_ hz0;clear hC1 hC2 HC2 HC hz0 hlen hCd;go_loopg [4] (8*(k+1)-C) (fun mm s wr=>wr=w1/\1<=mm/\C+mm<=8*(k+1)/\s = .slice (some ⟨b1,o1,none⟩) (C+mm) c1)
 case atStart=>exact⟨rfl,by have:=HC8.out;omega,by have:=HC8.out;omega,by rw [show C+(8*(k+1)-C)=8*(k+1) by have:=HC8.out;omega,HL.out]⟩
 case round =>
   obtain⟨rfl,hm1,hm8,rfl⟩:=hrel;obtain⟨j,rfl⟩:∃j,gk=j+1:=⟨gk-1,by omega⟩;have hbit:=HBIT.out (C+j) (by omega) (by omega);obtain⟨b',o',he,_,_,hcj⟩:=HRD.out.at_ (k:=C+j) (by omega);cases he
   have hbb:(Y2 (Q9 bs))[C+j]?=some (.bool (decide (C+j=C))):=by
     simp only [Y2,List.getElem?_map,hbit];rfl
   rw [hbb]at hcj;(have hI:((C+(j+1):Nat):Int)=(C:Int)+j+1:=by omega);(have hJ:((C+j:Nat):Int)=(C:Int)+j:=by omega);(have hjI:(C:Int)+j<8*(k+1):=by omega);have HM8:=hd_ hm8;clear hbit hbb hm1 hm8;(have hCc:((C:Nat):Int)<=c1:=by omega);by_cases hj:j=0
   . subst hj
     simp only [Nat.add_zero,decide_true]at hcj;clear hI hJ HM8;go_wp2_with fail;(try go_ret2);(have hle:C<=8*bs.length:=by have:=HC8.out;have:=HL.out;omega);(have htl:((Q9 bs).take C).length=C:=by rw [List.length_take,Yj];omega);have htk:=HRD.out.take (k:=C) (by have:=HC8.out;omega);(have htr:(Y2 (Q9 bs)).take C=Y2 ((Q9 bs).take C):=by simp [Y2]);rw [htr]at htk;refine hR.out _ _ ⟨F1.out.alloc _,?_⟩;rw [if_neg HNZ.out];refine⟨wr.heap.size,rfl,F1.out.size,some ⟨b1,o1,none⟩,c1,?_,?_,by rw [htl];omega,by rw [htl];omega⟩
     . have h:=Blk.new wr 143 #[.slice (some ⟨b1,o1,none⟩) C c1,.int .i64 0]
       rw [htl];simpa using h
     have h:=(htk.alloc (.cells #[.slice (some ⟨b1,o1,none⟩) C c1,.int .i64 0] 143)).mono (G:=fun b=>w.heap.size<=b/\b≠wr.heap.size) (fun b hb=>⟨K1.out b hb,by have:=LT.out b hb;omega⟩);rw [htl];exact h
   rw [show decide (C+j=C)=false by simp;omega]at hcj;(have hj1:(1:Int)<=j:=by omega);have HJ:=hd_ hj;(have hjc:(C:Int)+j<=c1:=by omega);clear hj;go_wp2_with fail;go_roundg j
   case measure=>omega
   case rel=>exact⟨rfl,by have:=HJ.out;omega,by have:=HM8.out;omega,rfl⟩
end Go.Proofs.YtjfdaphjijfieaaGreat
