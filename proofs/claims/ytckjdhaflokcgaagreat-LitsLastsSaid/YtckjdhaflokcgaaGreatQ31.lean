/-
  Joined texts, part 31: contracts and plain lemmas.
  Conditions: none beyond those of each theorem.
-/
import Derived.Test.YtckjdhaflokcgaaGreatQ20
import Derived.Test.YtckjdhaflokcgaaGreatQ22
set_option maxHeartbeats 4000000
set_option linter.unusedVariables false
set_option linter.unusedSimpArgs false
set_option linter.unnecessarySimpa false
set_option maxRecDepth 100000
universe u
namespace Go.Proofs.YtckjdhaflokcgaaGreat
open Go.RowKit
def noK (l:List Int) (c:Nat):Bool:=decide (l.length<=c\/(l[c]?).getD 0=0)
def QL (l:List Int) (bs:List Nat):Int:=match bs.findIdx? (noK l)with|some i=>(i:Int)|none=>-1
theorem Q1q (F:Nat->Prop) (A:Option Addr) (n c H x:Nat) (l:List Int) (w:World) (hr:Rd w F A n (Qm l)) (hb:w.cell? ⟨H,0,none⟩=some (.slice A n c)) (hx:x<256) (hn:n<=2^40) :
   Calls Tryz.prog 198 #[.int .u8 x,.pointer (some ⟨H,0,none⟩)] w fun e w'=>e = .returned (.bool (noK l x))/\w'=w:=by
 (have hL:l.length=n:=by have:=hr.1;simpa using this);(have hxI:(x:Int)<256:=by omega);(have hnI:(n:Int)<=1099511627776:=by(have:(2:Nat)^40=1099511627776:=by decide);omega);refine Qg fun R hR=>?_;unfold noK at hR;by_cases h:n<=x
 . rw [decide_eq_true (.inl (by omega))]at hR
   (have hI:(n:Int)<=x:=by omega);clear hr h hn;go_enter Tryz.func198,Tryz.ntmps198;go_wp2_with fail;(try go_ret);exact hR.out _ _ ⟨rfl,rfl⟩
 obtain⟨b,o,hkl,rfl,_,hc⟩:=hr.int (k:=x) (by omega);(have hg:(l[x]?).getD 0=l[x]:=by rw [List.getElem?_eq_getElem hkl];rfl);rw [hg]at hR;(have hI:¬(n:Int)<=x:=by omega);(have hI2:(x:Int)<n:=by omega);by_cases hz:l[x]=0
 . rw [decide_eq_true (.inr hz)]at hR
   rw [hz]at hc;clear hr h hn hg;go_enter Tryz.func198,Tryz.ntmps198;go_wp2_with fail;(try go_ret);exact hR.out _ _ ⟨rfl,rfl⟩
 rw [decide_eq_false (by rintro(h1|h1);omega;exact hz h1)]at hR;(have hzb:(l[x] == 0)=false:=by simpa using hz);generalize l[x]=z at *;clear hr h hn hg hz;go_enter Tryz.func198,Tryz.ntmps198;go_wp2_with fail;(try go_ret);exact hR.out _ _ ⟨rfl,rfl⟩
theorem ZB {p:Nat->Bool} {bs:List Nat} {k:Nat} (h:k<bs.length) (h0:∀x∈bs.take k,p x=false) (hp:p bs[k]=true):bs.findIdx? p=some k:=by
 rw [List.findIdx?_eq_some_iff_getElem];refine⟨h,hp,fun j hj=>?_⟩
 have:bs[j]∈bs.take k:=by
   rw [List.mem_take_iff_getElem];exact⟨j,by omega,rfl⟩
 simp [h0 _ this]
theorem Q0e (F G:Nat->Prop) (A B:Option Addr) (n c H m d:Nat) (l:List Int) (bs:List Nat) (w:World) (hr:Rd w F A n (Qm l)) (hb:w.cell? ⟨H,0,none⟩=some (.slice A n c)) (hbs:Rd w G B m (Qa bs)) (hlt:∀b∈bs,b<256) (hn:n<=2^40) (hm:m<=2^40) :
   Calls Tryz.prog 197 #[.slice B m d,.func (.func 198) #[] #[.pointer (some ⟨H,0,none⟩)]] w fun e w'=>e = .returned (.int .i64 (QL l bs))/\w'=w:=by
 (have hL:bs.length=m:=by have:=hbs.1;simpa using this);(have hmI:(m:Int)<=1099511627776:=by(have:(2:Nat)^40=1099511627776:=by decide);omega);have HEN:=hd_ (fun x (hx:x<256)=>Q1q F A n c H x l w hr hb hx hn);have HBS:=hd_ hbs;have HLT:=hd_ hlt;have HL:=hd_ hL;clear hr hb hbs hlt hn hm hL;refine Qg fun R hR=>?_;go_enter Tryz.func197,Tryz.ntmps197;go_wp2_with fail;go_loopg [8] m (fun f vi wr=>wr=w/\∃k:Nat,k+f=m/\vi = .int .i64 k/\∀x∈bs.take k,noK l x=false)
 case atStart=>exact⟨rfl,0,by omega,rfl,by simp⟩
 case round =>
   obtain⟨rfl,k,hk,rfl,hall⟩:=hrel;have HK:=hd_ hk;have HA:=hd_ hall;(have hkI:(k:Int)<=1099511627776:=by omega);by_cases hlt:k<m
   . have hlI:(k:Int)<m:=by omega
     (have hkl:k<bs.length:=by rw [HL.out];exact hlt);obtain⟨b,o,rfl,_,_,hc⟩:=HBS.out.at_ (k:=k) hlt
     have hxv:(Qa bs)[k]?=some (.int .u8 ((bs[k]:Nat):Int)):=by
       simp only [Qa,List.getElem?_map];rw [List.getElem?_eq_getElem hkl];rfl
     rw [hxv]at hc;have hx8:=HLT.out _ (List.getElem_mem hkl);have HFI:=hd_ (ZB (p:=noK l) hkl hall);have HTK:=hd_ (show bs.take (k+1)=bs.take k++[bs[k]]from List.take_succ_eq_append_getElem hkl);obtain⟨x,hx⟩:=nm_ (bs[k]);simp only [<-hx]at hc hx8 HFI HTK;have HE:=hd_ (HEN.out x hx8);clear hk hall hxv hx;go_wp2_with fail;refine HE.out.mono ?_;rintro e w1 ⟨rfl,rfl⟩
     cases hnk:noK l x with
     | true =>
       (have hbk:QL l bs=k:=by unfold QL;rw [HFI.out hnk]);rw [hbk]at hR;go_wp2_with fail;(try go_ret);exact hR.out _ _ ⟨rfl,rfl⟩
     | false =>
       go_wp2_with fail;go_roundg (gk-1)
       case measure=>have:=HK.out;omega
       case rel=>exact⟨rfl,k+1,by have:=HK.out;omega,by go_num,by rw [HTK.out];intro y hy;rcases List.mem_append.1 hy with h|h;exact HA.out y h;rw [List.mem_singleton.1 h];exact hnk⟩
   (obtain rfl:k=m:=by omega);have htl:bs.take k=bs:=List.take_of_length_le (by have:=HL.out;omega);rw [htl]at hall
   have hbk:QL l bs=-1:=by
     unfold QL;rw [List.findIdx?_eq_none_iff.2 (fun x hx=>by simp [hall x hx])]
   rw [hbk]at hR;go_wp2_with fail;(try go_ret);exact hR.out _ _ ⟨rfl,rfl⟩
theorem Q0f (l:List Int) (bs:List Nat):QL l bs=-1\/0<=QL l bs:=by
 unfold QL;split
 . exact .inr (by omega)
 exact .inl rfl
theorem KY (F G:Nat->Prop) (A B:Option Addr) (n c m d:Nat) (l:List Int) (bs:List Nat) (w:World) (hr:Rd w F A n (Qm l)) (hbs:Rd w G B m (Qa bs)) (hlt:∀b∈bs,b<256) (hn:n<=2^40) (hm:m<=2^40) (hc:n<=c) :
   Calls Tryz.prog 143 #[.slice A n c,.slice B m d] w fun e w'=>(∃a,e = .returned (.tuple #[.int .i64 a,.bool (decide (Qj l/\QL l bs=-1))]))/\Q0 w w':=by
 have hmf:∀(fn:Fn) (first cap:Array Value) (w:World),(Instr.makeFunc fn first cap).run Tryz.prog w = .ok (.func fn first cap) w:=fun _ _ _ _=>rfl;obtain⟨w0,hw0⟩:=nm_ (w.alloc (.cells #[.slice A n c] 33));obtain⟨H,hH⟩:=nm_ (w.heap.size);(have f0:Q0 w w0:=by rw [hw0];exact(Upd.refl _ _).alloc _);(have bt:Blk w0 H 33 #[.slice A n c]:=by rw [hw0];exact Qc hH _ _);have HCK:=hd_ (Z8 F A n c l w0 (hr.fresh f0) hn hc);have HIX:=hd_ (fun W (hW:Q0 w0 W)=>Q0e F G A B n c H m d l bs W ((hr.fresh f0).fresh hW) (by simpa using(bt.fresh hW).cell 0) ((hbs.fresh f0).fresh hW) hlt hn hm);have q0:=bt.cell 0;simp at q0;have F0:=hd_ f0;have HW:=hd_ hw0;have HH:=hd_ hH;clear hr hbs hw0 hH f0 bt hc hn hm hlt;refine Qg fun R hR=>?_;go_enter Tryz.func143,Tryz.ntmps143;go_upto_region 1 with fail;simp only [<-HH.out,<-HW.out];by_cases ht:Qj l
 . rw [if_pos ht]at HCK
   have hb:=Q0f l bs;(have hdt:decide (Qj l/\QL l bs=-1)=decide (QL l bs=-1):=by simp [ht]);rw [hdt]at hR;obtain⟨q,hq⟩:=nm_ (QL l bs);rw [<-hq]at hR hb;simp only [<-hq]at HIX;clear ht hdt hq;go_wp2_with fail;refine HCK.out.mono ?_;rintro e w1 ⟨rfl,f1⟩;have hix:=HIX.out w1 f1;have HX:=hd_ hix;have F1:=hd_ (F0.out.trans' f1);clear f1 hix HIX q0;go_wp2_with fail;refine HX.out.mono ?_;rintro e w2 ⟨rfl,rfl⟩;rcases hb with rfl|hb
   . rw [decide_eq_true rfl]at hR
     go_wp2_with fail;(try go_ret2);exact hR.out _ _ ⟨⟨_,rfl⟩,F1.out⟩
   rw [decide_eq_false (by omega)]at hR;(have hb2:¬q<0:=by omega);go_wp2_with fail;(try go_ret2);exact hR.out _ _ ⟨⟨_,rfl⟩,F1.out⟩
 rw [if_neg ht]at HCK;(have hdt:decide (Qj l/\QL l bs=-1)=false:=by simp [ht]);rw [hdt]at hR;clear ht hdt;go_wp2_with fail;refine HCK.out.mono ?_;rintro e w1 ⟨rfl,f1⟩;go_wp2_with fail;(try go_ret2);exact hR.out _ _ ⟨⟨_,rfl⟩,F0.out.trans' f1⟩
def VQ (l:List Int) (bs:List Nat) (n:Nat) (w:World) (e:Ending) (w':World):Prop :=
  Q0 w w'/\if Qj l then if bs.length<=131072/\QL l bs=-1 then ∃g,e = .returned (.slice (some ⟨g,0,none⟩) n n)/\RdK w' (fun b=>b=g) 2 (some ⟨g,0,none⟩) n ((Qz l).map cd2)/\w.heap.size<=g else e=Qi 2
    else e=Qi 12
theorem Jq (F G:Nat->Prop) (A B:Option Addr) (n c m d:Nat) (l:List Int) (bs:List Nat) (w:World) (hr:Rd w F A n (Qm l)) (hbs:Rd w G B m (Qa bs)) (hlt:∀b∈bs,b<256) (hn:n<=2^40) (hm:m<=2^40) (hc:n<=c) :
   Calls Tryz.prog 86 #[.slice A n c,.slice B m d] w (VQ l bs n w):=by
 (have hL:bs.length=m:=by have:=hbs.1;simpa using this);have HCO:=hd_ (ZS F A n c l w hr hn hc);have HEN:=hd_ (fun W (hW:Q0 w W)=>KY F G A B n c m d l bs W (hr.fresh hW) (hbs.fresh hW) hlt hn hm hc);have HL:=hd_ hL;clear hr hbs hlt hn hm hc hL;refine Qg fun R hR=>?_;unfold VQ at hR;rw [HL.out]at hR;go_enter Tryz.func86,Tryz.ntmps86;unfold Ve at HCO;by_cases ht:Qj l
 . simp only [if_pos ht]at HCO hR
   (have hdt:decide (Qj l/\QL l bs=-1)=decide (QL l bs=-1):=by simp [ht]);simp only [hdt]at HEN;clear ht hdt;go_wp2_with fail;refine HCO.out.mono ?_;rintro e w1 ⟨f1,g,rfl,rd,hg⟩;have HRD:=hd_ rd;have HGE:=hd_ hg;have F1:=hd_ f1;clear rd hg f1 HCO;go_wp2_with fail;refine(Jp _ _ _ (by simpa using(Blk.new w1 24 #[.int .i64 0]).cell 0)).mono ?_;rintro e w2 ⟨rfl,rfl⟩;have hen:=HEN.out (w1.alloc (.cells #[.int .i64 0] 24)) (F1.out.alloc _);have HE:=hd_ hen;clear hen HEN;go_wp2_with fail;refine HE.out.mono ?_;rintro e w3 ⟨⟨a,rfl⟩,f3⟩;have F3:=hd_ ((F1.out.alloc _).trans' f3);have RD3:=hd_ ((HRD.out.fresh ((Upd.refl _ _).alloc _)).fresh f3);clear f3 HE;by_cases h1:m<=131072
   . have h1I:(m:Int)<=131072:=by omega
     by_cases h2:QL l bs=-1
     . simp only [if_pos (⟨h1,h2⟩:m<=131072/\QL l bs=-1)]at hR
       rw [decide_eq_true h2];clear h2 h1;go_wp2_with fail;refine(K8 _ _).mono ?_;rintro e w4 ⟨rfl,rfl⟩;go_wp2_with fail;(try go_ret);exact hR.out _ _ ⟨F3.out,g,rfl,RD3.out,HGE.out⟩
     simp only [if_neg (fun(h:m<=131072/\QL l bs=-1)=>h2 h.2)]at hR;rw [decide_eq_false h2];clear h2 h1;go_wp2_with fail;refine(Z6 _ _).mono ?_;rintro e w4 ⟨rfl,rfl⟩;simp only [Qi];exact⟨rfl,hR.out _ _ ⟨F3.out,rfl⟩⟩
   (have h1I:¬(m:Int)<=131072:=by omega);simp only [if_neg (fun(h:m<=131072/\QL l bs=-1)=>h1 h.1)]at hR;clear h1;go_wp2_with fail;refine(Z6 _ _).mono ?_;rintro e w4 ⟨rfl,rfl⟩;simp only [Qi];exact⟨rfl,hR.out _ _ ⟨F3.out,rfl⟩⟩
 simp only [if_neg ht]at HCO hR;clear ht;go_wp2_with fail;refine HCO.out.mono ?_;rintro e w1 ⟨f1,rfl⟩;have F1:=hd_ f1;clear f1;go_wp2_with fail;refine(Km 12 _ _ _ (by simpa using(Blk.new w1 24 #[.int .i64 12]).cell 0) (by decide)).mono ?_;rintro e w2 ⟨rfl,rfl⟩;simp only [Qi];exact⟨rfl,hR.out _ _ ⟨F1.out.alloc _,rfl⟩⟩
end Go.Proofs.YtckjdhaflokcgaaGreat
