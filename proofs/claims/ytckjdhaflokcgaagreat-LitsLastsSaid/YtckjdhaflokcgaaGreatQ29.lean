/-
  Joined texts, part 29: contracts and plain lemmas.
  Conditions: none beyond those of each theorem.
-/
import Derived.Test.YtckjdhaflokcgaaGreatQ10
import Derived.Test.YtckjdhaflokcgaaGreatQ22
set_option maxHeartbeats 4000000
set_option linter.unusedVariables false
set_option linter.unusedSimpArgs false
set_option linter.unnecessarySimpa false
set_option maxRecDepth 100000
universe u
namespace Go.Proofs.YtckjdhaflokcgaaGreat
open Go.RowKit
theorem Own.head0 {w:World} {e:TypeId} {A:Option Addr} {n c:Nat} {xs:List Value} (h:Own w e (.slice A n c) xs):Own w e (.slice A 0 c) []:=by
 rcases h.2 with ⟨he,h0⟩|⟨g,cap,cur,he,hb,hg,hn,hm,hc,ht⟩
 . injection he with h1 h2 h3
   subst h1 h3;exact Own.nil w e
 injection he with h1 h2 h3;subst h1 h3;exact⟨rfl,.inr ⟨g,c,cur,rfl,hb,hg,Nat.zero_le _,hm,hc,by simp⟩⟩
theorem XH (A:Option Addr) (n c:Nat):Value.ownBlock (.slice A n c)=Value.ownBlock (.slice A 0 c):=by
 rcases A with _|⟨b,o,x⟩
 . rfl
 (cases o<;>cases x<;>rfl)
theorem Q2x (k:Nat) (w:World) (hk:k<=2^32) :
   Calls Tryz.prog 141 #[.slice none 0 0,.int .i64 k] w fun e w'=>∃v,e = .returned v/\Qk w w' v []:=by
 (have hkI:(k:Int)<=4294967296:=by omega);refine Qg fun R hR=>?_;by_cases h0:k=0
 . subst h0
   clear hk hkI;go_enter Tryz.func141,Tryz.ntmps141;go_wp2_with fail;(try go_ret);exact hR.out _ _ ⟨_,rfl,by simpa [Qa]using Own.nil w 5,Upd.refl _ _,fun b hb=>by simp [Value.ownBlock]at hb⟩
 (have h1:0<(k:Int):=by omega);go_enter Tryz.func141,Tryz.ntmps141;go_wp2_with (at_builtin;go_must (refine K5 _ rfl (.tmp 20) (.tmp 21) _ _ rfl 5 (.int .u8 0) 1 .i64 .i64 Tryz.underlying22 Tryz.underlying3 Y5 rfl rfl _ _ rfl (Own.nil _ _) k rfl (by omega) (by simp;omega) ?_));intro v1 w1 o1 g1 a1;obtain⟨A1,n1,c1,rfl,hn1⟩:=o1.form';have O1:=hd_ o1.head0;have F1:=hd_ (show Q0 w w1 from(Upd.refl _ w).grown g1 (fun j e _=>by simp [Value.ownBlock]at e))
 have B1:=hd_ (show ∀b,Value.ownBlock (.slice A1 0 c1)=some b->w.heap.size<=b from fun b hb=>by
   rcases a1 with h|h
   . have h2:=XH A1 n1 c1
     rw [<-h2,h]at hb;simp [Value.ownBlock]at hb
   have h2:=XH A1 n1 c1
   rw [<-h2,h]at hb;injection hb with hb;omega)
 have hnc:=(o1.rd rfl).2.1;(have hcI:(0:Int)<=c1:=by omega);clear o1 g1 a1 hn1 hnc;go_wp2_with fail;(try go_ret);exact hR.out _ _ ⟨_,rfl,by simpa [Qa]using O1.out,F1.out,B1.out⟩
def Y0:List (List Nat)->Nat
  | []=>0
  | l::r=>l.length+Y0 r
theorem ZU (a b:List (List Nat)):Y0 (a++b)=Y0 a+Y0 b:=by
 induction a with
 | nil=>simp [Y0]
 | cons x l ih=>simp only [List.cons_append,Y0,ih];omega
theorem JR {Ls:List (List Nat)} {k:Nat} (h:k<Ls.length):Y0 (Ls.take (k+1))=Y0 (Ls.take k)+Ls[k].length:=by
 rw [List.take_succ_eq_append_getElem h,ZU];simp [Y0]
theorem ZK (Ls:List (List Nat)) (k:Nat):Y0 (Ls.take k)<=Y0 Ls:=by
 have h:=ZU (Ls.take k) (Ls.drop k);rw [List.take_append_drop]at h;omega
theorem Jn (Ls:List (List Nat)):Ls.flatten.length=Y0 Ls:=by
 induction Ls with
 | nil=>rfl
 | cons x l ih=>simp [Y0,ih]
def Yz (w:World) (F:Nat->Prop) (P:Option Addr) (k:Nat) (Ls:List (List Nat)):Prop :=
  Ls.length=k/\∀i,(hi:i<Ls.length)->∃b o A n c,P=some ⟨b,o,none⟩/\b<w.heap.size/\w.cell? ⟨b,o+i,none⟩=some (.slice A n c)/\Rd w F A n (Qa Ls[i])
theorem Yz.fresh {w w':World} {F:Nat->Prop} {P:Option Addr} {k:Nat} {Ls:List (List Nat)} (h:Yz w F P k Ls) (hu:Q0 w w'):Yz w' F P k Ls :=
 ⟨h.1,fun i hi=>by
   obtain⟨b,o,A,n,c,h1,h2,h3,h4⟩:=h.2 i hi
   exact⟨b,o,A,n,c,h1,Nat.lt_of_lt_of_le h2 hu.size,(hu.cell (p:=⟨b,o+i,none⟩) h2 (fun h=>h)).trans h3,h4.fresh hu⟩⟩
theorem Kz (F:Nat->Prop) (P:Option Addr) (k c:Nat) (Ls:List (List Nat)) (w:World) (hp:Yz w F P k Ls) (hk:k<=1000) (hs:Y0 Ls<=2^32) :
   Calls Tryz.prog 83 #[.slice P k c] w fun e w'=>∃v,e = .returned v/\Qk w w' v Ls.flatten:=by
 (have hkI:(k:Int)<=1000:=by omega);have HL:=hd_ hp.1;have HP:=hd_ hp;have HS:=hd_ (fun i=>Nat.le_trans (ZK Ls i) hs);have HGR:=hd_ (Q2x (Y0 Ls) w hs);clear hp hk;refine Qg fun R hR=>?_;go_enter Tryz.func83,Tryz.ntmps83;go_wp2_with fail;go_loopg [3,11] k (fun f vs vi wr=>wr=w/\∃i:Nat,i+f=k/\vi = .int .i64 i/\vs = .int .i64 (Y0 (Ls.take i):Nat))
 case atStart=>exact⟨rfl,0,by omega,rfl,by simp [Y0]⟩
 case round =>
   obtain⟨w0,rfl⟩:=nm_ (wr);obtain⟨rfl,i,hi,rfl,rfl⟩:=hrel;have HI:=hd_ hi;by_cases hlt:i<k
   . have hlI:(i:Int)<k:=by omega
     (have hil:i<Ls.length:=by rw [HL.out];exact hlt);obtain⟨b,o,A,n,c1,rfl,_,hc,hr⟩:=HP.out.2 i hil;(have hn:Ls[i].length=n:=by have:=hr.1;rw [Qp]at this;exact this);have HST:=hd_ (show Y0 (Ls.take (i+1))=Y0 (Ls.take i)+n by rw [JR hil,hn]);have h1:=HS.out (i+1);rw [HST.out]at h1;obtain⟨S,hS⟩:=nm_ (Y0 (Ls.take i));simp only [<-hS]at HST h1 ⊢;(have hSI:(S:Int)+n<=4294967296:=by omega);clear hr hn h1 hS hi;go_wp2_with fail;go_roundg (gk-1)
     case measure=>have:=HI.out;omega
     case rel=>exact⟨rfl,i+1,by have:=HI.out;omega,by go_num,by rw [HST.out];simp⟩
   (obtain rfl:i=k:=by omega);have htl:Ls.take i=Ls:=List.take_of_length_le (by rw [HL.out];exact Nat.le_refl _);rw [htl];have h1:=HS.out i;rw [htl]at h1;clear hi hlt htl HI;go_wp2_with fail;refine HGR.out.mono ?_;rintro e w1 ⟨v,rfl,ov,fv,bv⟩;have OV:=hd_ ov;have FV:=hd_ fv;have BV:=hd_ bv;clear ov fv bv HGR;go_wp2_with fail;go_loopg [6,27] i (fun f v6 vi wr=>∃j:Nat,j+f=i/\vi = .int .i64 j/\Own wr 5 v6 (Qa (Ls.take j).flatten)/\(∀b,v6.ownBlock=some b->w0.heap.size<=b)/\Q0 w0 wr)
   case atStart=>exact⟨0,by omega,rfl,by simpa using OV.out,BV.out,FV.out⟩
   case round =>
     obtain⟨j,hj,rfl,ov,bv,fv⟩:=hrel;have HJ:=hd_ hj;have hpw:=HP.out.fresh fv;by_cases hlt:j<i
     . have hlI:(j:Int)<i:=by omega
       (have hil:j<Ls.length:=by rw [HL.out];exact hlt);obtain⟨b,o,A,n,c1,rfl,_,hc,hr⟩:=hpw.2 j hil;(have hn:Ls[j].length=n:=by have:=hr.1;rw [Qp]at this;exact this)
       have HFL:=hd_ (show Qa (Ls.take (j+1)).flatten=Qa (Ls.take j).flatten++Qa Ls[j] by
         rw [List.take_succ_eq_append_getElem hil,List.flatten_append,List.flatten_cons,List.flatten_nil,List.append_nil];unfold Qa
         rw [List.map_append])
       have hst:=JR hil;have h2:=HS.out (j+1);(have hln:(Qa (Ls.take j).flatten).length=Y0 (Ls.take j):=by rw [Qp,Jn]);have OVV:=hd_ ov;have FVV:=hd_ fv;have BVV:=hd_ bv;have HR:=hd_ hr
       have h1b:∀u∈Qa Ls[j],u.oneCell'=true:=by
         intro u hu;obtain⟨x,_,rfl⟩:=List.mem_map.1 hu;simp [Value.oneCell']
       clear ov fv bv hr hj hpw;go_wp2_with (at_builtin;go_must (refine Qt _ rfl (.tmp 31) (.tmp 32) _ rfl 5 _ 1 Tryz.underlying22 Y5 rfl _ _ rfl OVV.out A n c1 _ rfl HR.out h1b (by omega) (by rw [hln];omega) ?_));intro v' w2 o2 g2 a2;have f2:Q0 w0 w2:=FVV.out.grown g2 (fun kk hkk hlt2=>by have:=BVV.out kk hkk;omega);have b2:∀kk,v'.ownBlock=some kk->w0.heap.size<=kk:=YD (S:=fun kk=>w0.heap.size<=kk) a2 BVV.out FVV.out.size;rw [<-HFL.out]at o2;have O2:=hd_ o2;have F2:=hd_ f2;have B2:=hd_ b2;clear o2 g2 a2 f2 b2 hst h2 hln h1b;go_wp2_with fail;go_roundg (gk-1)
       case measure=>have:=HJ.out;omega
       case rel=>exact⟨j+1,by have:=HJ.out;omega,by go_num,O2.out,B2.out,F2.out⟩
     (obtain rfl:j=i:=by omega);have htl:Ls.take j=Ls:=List.take_of_length_le (by rw [HL.out];exact Nat.le_refl _);rw [htl]at ov;have OVV:=hd_ ov;clear ov htl hpw;go_wp2_with fail;(try go_ret);exact hR.out _ _ ⟨_,rfl,OVV.out,fv,bv⟩
end Go.Proofs.YtckjdhaflokcgaaGreat
