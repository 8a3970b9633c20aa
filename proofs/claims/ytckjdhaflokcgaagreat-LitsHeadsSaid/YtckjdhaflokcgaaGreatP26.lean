/-
  Joined texts, part 26: contracts and plain lemmas.
  Conditions: none beyond those of each theorem.
-/
import Derived.Test.YtckjdhaflokcgaaGreatP8
import Derived.Test.YtckjdhaflokcgaaGreatP25
set_option maxHeartbeats 2000000
set_option linter.unusedVariables false
set_option linter.unusedSimpArgs false
set_option linter.unnecessarySimpa false
set_option maxRecDepth 100000
universe u
namespace Go.Proofs.YtckjdhaflokcgaaGreat
open Go.RowKit
def YE (a:Nat) (bs:List Nat) (e:Ending):Prop :=
  ∃(x:Nat) (q:Int),e = .returned (.tuple #[.int .u64 (x:Nat),.int .i64 q,.int .i64 (Qp bs).2.2])/\((Qp bs).2.2=0->x=(Qp bs).1/\q=(a:Int)+(Qp bs).2.1)
theorem YE.err {a:Nat} {bs:List Nat} {e:Ending} {x:Int} (hv:(Qp bs).2.2=x) (hx:x≠0) (h:e = .returned (.tuple #[.int .u64 0,.int .i64 (a:Int),.int .i64 x])):YE a bs e :=
 ⟨0,a,by rw [hv];exact h,fun h0=>absurd (hv ▸ h0) hx⟩
theorem Q0h (F:Nat->Prop) (A:Option Addr) (n c:Nat) (cs:List Nat) (a:Nat) (w:World) (hr:Rd w F A n (Q4 cs)) (hlt:∀b∈cs,b<256) (hn:n<=100000) (ha:a<=n) :
   Calls Tryz.prog 60 #[.slice A n c,.int .i64 (a:Nat)] w fun e w'=>YE a (cs.drop a) e/\w=w':=by
 (have hcL:cs.length=n:=by have:=hr.1;simpa using this);(have hnI:(n:Int)<=100000:=by omega)
 have HCELL:=hd_ (fun k (hk:a+k<n)=>show ∃b o z,A=some ⟨b,o,none⟩/\w.cell? ⟨b,o+(a+k),none⟩=some (.int .u8 (z:Nat))/\z=(cs.drop a)[k]?.getD 0/\z<256 from by
   obtain⟨b,o,rfl,_,_,hc⟩:=hr.at_ (k:=a+k) hk;(have hkb:a+k<cs.length:=by omega)
   have hz:(Q4 cs)[a+k]?=some (.int .u8 ((cs[a+k]:Nat):Int)):=by
     simp only [Q4,List.getElem?_map];rw [List.getElem?_eq_getElem hkb];rfl
   rw [hz]at hc
   exact⟨b,o,cs[a+k],rfl,hc,by rw [List.getElem?_drop,List.getElem?_eq_getElem hkb];rfl,hlt _ (List.getElem_mem hkb)⟩)
 obtain⟨N,hN⟩:=nm_ (n-a);(have hL:(cs.drop a).length=N:=by rw [List.length_drop,hcL,hN]);obtain⟨bs,hbs⟩:=nm_ (cs.drop a);rw [<-hbs]at HCELL hL ⊢;have HAN:=hd_ (show a+N=n by omega);clear hr hlt hcL hbs hN;obtain⟨v1,v2,v3,v4,v5⟩:=Kq 9 0 0 bs;have hv:Yl 9 0 0 bs=Qp bs:=rfl;rw [hv]at v1 v2 v3 v4 v5;have hK9:=KY 9 bs;have hKn:=Kr 9 bs;have hbig:=Ks 9 bs;have hlow:=Kt 9 bs;generalize Qs 9 bs=K at *;rw [hL]at v2 v3 v4 v5 hKn;simp only [Nat.zero_add,Nat.mul_zero,Nat.pow_zero,Nat.one_mul]at v3 v4 v5;have V1:=hd_ v1;have V2:=hd_ v2;have V3:=hd_ v3;have V4:=hd_ v4;have V5:=hd_ v5;have HBIG:=hd_ hbig;have HLOW:=hd_ hlow;have HL:=hd_ hL;have HKN:=hd_ hKn;have HK9:=hd_ hK9;(have hKI:(K:Int)<=9:=by omega);(have hKnI:(a:Int)+K<=n:=by have:=HAN.out;omega);clear v1 v2 v3 v4 v5 hv hbig hlow hL hKn hn hK9 ha;refine Q9 fun R hR=>?_;go_enter Tryz.func60,Tryz.ntmps60;go_wp2_with fail;go_loopg [7] K (fun mm i wr=>wr=w/\∃k:Nat,k+mm=K/\i = .int .i64 (k:Int))
 case atStart=>exact⟨rfl,0,by omega,rfl⟩
 case round =>
   obtain⟨rfl,k,hk,rfl⟩:=hrel;by_cases hkK:k<K
   . have h9:(k:Int)<9:=by omega
     (have hnn:(a:Int)+k<n:=by omega);obtain⟨b,o,z,rfl,hc,hz,hz8⟩:=HCELL.out k (by omega);have hb:=HBIG.out k hkK;rw [<-hz]at hb;(have hzI:(128:Int)<=z:=by omega);have HK:=hd_ hk;have HKK:=hd_ hkK;clear hk hkK hz hb;go_wp2_with fail;go_roundg (gk-1)
     case measure=>have:=HK.out;have:=HKK.out;omega
     case rel=>exact⟨rfl,k+1,by have:=HK.out;have:=HKK.out;omega,by go_num⟩
   (have hkk:k=K:=by omega);subst hkk;clear hkK hk;by_cases h9:k=9
   . subst h9
     clear HCELL;go_wp2_with fail;(try go_ret3);exact hR.out _ _ ⟨YE.err (V1.out (by first|trivial|rfl)) (by decide) rfl,rfl⟩
   (have h9I:(k:Int)<9:=by have:=HK9.out;omega);have H9:=hd_ h9;clear h9 hKI;by_cases hkn:N<=k
   . have hknI:(n:Int)<=(a:Int)+k:=by have:=HAN.out;omega
     (have hak:(a:Int)+k<=100000:=by omega);have HKN2:=hd_ hkn;clear hkn HCELL hKnI;go_wp2_with fail;(try go_ret3);exact hR.out _ _ ⟨YE.err (V2.out (by have:=HK9.out;have:=H9.out;omega) HKN2.out) (by decide) rfl,rfl⟩
   (have hknI:(a:Int)+k<n:=by have:=HAN.out;omega);obtain⟨b,o,z,rfl,hc,hz,hz8⟩:=HCELL.out k (by omega);have hl:=HLOW.out (by have:=HK9.out;have:=H9.out;omega);rw [<-hz]at hl V3 V4 V5;(have hzI:(z:Int)<128:=by omega);have HKN2:=hd_ hkn;clear hkn hl hz8 hz;by_cases h5:z=0/\0<k
   . obtain⟨rfl,hk0⟩:=h5
     (have hk0I:(0:Int)<k:=by omega);go_wp2_with fail;(try go_ret3);exact hR.out _ _ ⟨YE.err (V3.out (by have:=HK9.out;have:=H9.out;omega) (by have:=HKN2.out;omega) (by first|exact⟨rfl,hk0⟩|exact hk0|simpa using hk0)) (by decide) rfl,rfl⟩
   (have h5':(0:Int)<k->¬(z:Int)=0:=by omega);(have hk8:(k:Int)<=8:=by omega);have hwin:=hd_ (V5.out (by have:=HK9.out;have:=H9.out;omega) (by have:=HKN2.out;omega) h5);have hlim:=hd_ (V4.out (by have:=HK9.out;have:=H9.out;omega) (by have:=HKN2.out;omega) h5);obtain⟨T,hT⟩:=nm_ (bs.take (k+1));(have hTl:T.length=k+1:=by rw [hT,List.length_take];have:=HKN2.out;have:=HL.out;omega);(have hTg:∀j,j<=k->T[j]?.getD 0=bs[j]?.getD 0:=fun j hj=>by rw [hT,List.getElem?_take_of_lt (by omega)]);have HTG:=hd_ hTg;have HTL:=hd_ hTl;rw [<-hT]at hwin hlim;clear hT hTg hTl;by_cases hk0:(0:Int)<k
   all_goals
     (try have h50:=h5' hk0);go_wp2_with fail;go_loopg [8,9] (k+1) (fun mm x i wz=>wz=wr/\mm<=k+1/\i = .int .i64 ((mm:Int)-1)/\x = .int .u64 (Ym (T.drop mm):Nat))
     case atStart =>
       refine⟨rfl,Nat.le_refl _,?_,?_⟩
       . congr 1;omega
       rw [List.drop_of_length_le (by have:=HTL.out;omega)];rfl
     case round =>
       obtain⟨rfl,hmk,rfl,rfl⟩:=hrel
       cases gk with
       | zero =>
         rw [List.drop_zero];have hvl:=ZW T;obtain⟨V,hV⟩:=nm_ (Ym T);rw [<-hV]at hvl hwin hlim ⊢;have hV64:V<2^63:=Nat.lt_of_lt_of_le hvl (Nat.pow_le_pow_right (by omega) (by have:=HTL.out;omega));(have hV64I:(V:Int)<9223372036854775808:=by omega);have h01:((0:Nat):Int)-1=-1:=rfl;clear hV hvl hV64 hc hzI hmk;simp only [h01];by_cases hm:4611686018427387903<V
         . have hmI:(4611686018427387903:Int)<V:=by omega
           have HM:=hd_ hm;clear hm;go_wp2_with fail;(try go_ret3);exact hR.out _ _ ⟨YE.err (hlim.out HM.out) (by decide) rfl,rfl⟩
         (have hmI:(V:Int)<=4611686018427387903:=by omega);have HM:=hd_ hm;have hmd:((4611686018427387903:Int)<V)=False:=eq_false (by omega);have hmd2:decide ((4611686018427387903:Int)<V)=false:=decide_eq_false (by omega);clear hm hV64I hmI;go_wp2_with fail;(try go_ret3);have hw:=hwin.out (by have:=HM.out;omega);refine hR.out _ _ ⟨⟨V,(a:Int)+k+1,?_,fun _=>?_⟩,rfl⟩
         . rw [hw];rfl
         rw [hw];exact⟨rfl,by simp;omega⟩
       | succ j =>
         obtain⟨b',o',z',he,hcz,hz',hz8⟩:=HCELL.out j (by omega);cases he;have hvl:=ZW (T.drop (j+1));have hvd:=Q0i (l:=T) (i:=j) (by have:=HTL.out;omega);rw [HTG.out j (by omega),<-hz']at hvd;obtain⟨V,hV⟩:=nm_ (Ym (T.drop (j+1)));obtain⟨V2,hV2⟩:=nm_ (Ym (T.drop j));rw [<-hV]at hvl hvd ⊢;have hV56:V<2^56:=Nat.lt_of_lt_of_le hvl (Nat.pow_le_pow_right (by omega) (by have:=HTL.out;simp;omega));(have hV56I:(V:Int)<72057594037927936:=by omega);(have hjI:((j+1:Nat):Int)-1=j:=by omega);(have hjk:(j:Int)<=8:=by omega);(have hjn:(a:Int)+j<n:=by omega);(have hz8I:(z':Int)<=255:=by omega);have HVD:=hd_ hvd;have HMK:=hd_ hmk;clear hV hV2 hvl hvd hV56 hc hzI hmk hz' hz8;simp only [hjI];go_wp2_with fail;go_roundg j
         case measure=>omega
         case rel =>
           refine⟨rfl,by have:=HMK.out;omega,rfl,?_⟩;rw [HVD.out]
           congr 1
           omega
end Go.Proofs.YtckjdhaflokcgaaGreat
