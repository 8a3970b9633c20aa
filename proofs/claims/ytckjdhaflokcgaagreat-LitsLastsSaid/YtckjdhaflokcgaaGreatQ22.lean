/-
  Joined texts, part 22: contracts and plain lemmas.
  Conditions: none beyond those of each theorem.
-/
import Derived.Test.YtckjdhaflokcgaaGreatShelf
import Derived.Test.YtckjdhaflokcgaaGreatQ19
set_option maxHeartbeats 4000000
set_option linter.unusedVariables false
set_option linter.unusedSimpArgs false
set_option linter.unnecessarySimpa false
set_option maxRecDepth 100000
universe u
namespace Go.Proofs.YtckjdhaflokcgaaGreat
open Go.RowKit

def Qa (bs:List Nat):List Value:=bs.map fun b=>.int .u8 (b:Nat)
@[simp] theorem Qp (bs:List Nat):(Qa bs).length=bs.length:=by simp [Qa]
theorem QS (bs:List Nat):∀u∈Qa bs,u.oneCell'=true:=by
 intro u hu;obtain⟨_,_,rfl⟩:=List.mem_map.1 hu;rfl
def Qk (w w':World) (v:Value) (bs:List Nat):Prop:=Own w' 5 v (Qa bs)/\Q0 w w'/\∀k,v.ownBlock=some k->w.heap.size<=k
def QN (L:List Bool):List Value:=L.map Value.bool
@[simp] theorem Q3O (L:List Bool):(QN L).length=L.length:=by simp [QN]
theorem Q1f (L:List Bool):∀u∈QN L,u.oneCell'=true:=by
 intro u hu;obtain⟨_,_,rfl⟩:=List.mem_map.1 hu;rfl
theorem VJ (A B:List Bool):QN (A++B)=QN A++QN B:=by simp [QN]
theorem Rd.bool {w:World} {F:Nat->Prop} {A:Option Addr} {n:Nat} {L:List Bool} (h:Rd w F A n (QN L)) {k:Nat} (hk:k<n) :
   ∃b o,∃hk':k<L.length,A=some ⟨b,o,none⟩/\b<w.heap.size/\w.cell? ⟨b,o+k,none⟩=some (.bool L[k]):=by
 (have hl:L.length=n:=by have:=h.1;simpa using this);obtain⟨b,o,e,_,hb,hc⟩:=h.at_ hk;exact⟨b,o,by omega,e,hb,by rw [hc];simp [QN,List.getElem?_eq_getElem (show k<L.length by omega)]⟩
def Jz (w w':World) (v:Value) (L:List Bool):Prop:=Own w' 4 v (QN L)/\Q0 w w'/\∀k,v.ownBlock=some k->w.heap.size<=k
theorem Q1g (v n:Nat) (w:World) (hn:n<=64) (hv:v<2^64) :
   Calls Tryz.prog 107 #[.int .u64 v,.int .i64 n] w fun e w'=>∃s,e = .returned s/\Jz w w' s (Qs n v):=by
 (have hnI:(n:Int)<=64:=by omega);have HV:=hd_ hv;clear hv hn;refine Qg fun R hR=>?_;go_enter Tryz.func107,Tryz.ntmps107;go_wp2_with fail;go_loopg [0,5,6] n (fun m x s i wr=>∃(k:Nat),k+m=n/\x = .int .u64 (v / 2^k:Nat)/\i = .int .i64 k/\Jz w wr s (Qs k v))
 case atStart=>exact⟨0,by omega,by simp,rfl,by simpa [Qs,QN]using Own.nil w 4,Upd.refl _ _,by simp [Value.ownBlock]⟩
 case round =>
   obtain⟨k,hk,rfl,rfl,ho,hf,hob⟩:=hrel;have hsn:=Q03 k v;(have hdv:v / 2^(k+1)=v / 2^k / 2:=by rw [Nat.pow_succ,Nat.div_div_eq_div_mul]);have hxl:v / 2^k<2^64:=Nat.lt_of_le_of_lt (Nat.div_le_self _ _) HV.out;generalize v / 2^k=x at *;(have hx1:(x:Int)<18446744073709551616:=by(have:(2:Nat)^64=18446744073709551616:=by decide);omega);have HS:=hd_ hsn;have HD:=hd_ hdv;have HK:=hd_ hk;have HO:=hd_ ho;have HF:=hd_ hf;have HOB:=hd_ hob;(have hlen:(QN (Qs k v)).length+1<=2^40:=by simp;omega);have HL:=hd_ hlen;clear hsn hdv hk ho hf hob hxl hlen;by_cases hlt:k<n
   . go_wp2_with (at_builtin;go_must (refine Qt _ rfl (.tmp 12) (.tmp 16) _ rfl 4 _ 1 Tryz.underlying151 Za rfl _ _ rfl (HO.out.alloc _) _ 1 _ _ rfl (Rd.one wr 4 _) (by simp [Value.oneCell']) (by omega) HL.out ?_))
     intro v' w1 o1 g1 a1;have f1:Q0 w w1:=(HF.out.alloc _).grown g1 (fun kk hkk hlt=>by have:=HOB.out kk hkk;omega);have b1:∀kk,v'.ownBlock=some kk->w.heap.size<=kk:=YD (S:=fun kk=>w.heap.size<=kk) a1 HOB.out (by have:=HF.out.size;simp;omega);have O1:=hd_ o1;have F1:=hd_ f1;have B1:=hd_ b1;clear o1 g1 a1 f1 b1;go_wp2_with fail;go_roundg (gk-1)
     case measure=>have:=HK.out;omega
     case rel =>
       refine⟨k+1,by have:=HK.out;omega,by rw [HD.out];go_num,by go_num,?_,F1.out,B1.out⟩;rw [HS.out,VJ];have h:=O1.out;(have e:((x:Int)%2 == 1)=(x%2 == 1):=by rw [Bool.eq_iff_iff];simp;omega);simpa [QN,e]using h
   (obtain rfl:k=n:=by have:=HK.out;omega);go_wp2_with fail;(try go_ret);exact hR.out _ _ ⟨_,rfl,HO.out,HF.out,HOB.out⟩
theorem Q2q (r:Nat) (h:r<8):∀h':r < [Value.int .u8 1,Value.int .u8 2,Value.int .u8 4,Value.int .u8 8,Value.int .u8 16,Value.int .u8 32,Value.int .u8 64,Value.int .u8 128].length,
   [Value.int .u8 1,Value.int .u8 2,Value.int .u8 4,Value.int .u8 8,Value.int .u8 16,Value.int .u8 32,Value.int .u8 64,Value.int .u8 128][r]'h' = .int .u8 (2^r:Nat):=by
 match r,h with
 | 0,_=>exact fun _=>rfl
 | 1,_=>exact fun _=>rfl
 | 2,_=>exact fun _=>rfl
 | 3,_=>exact fun _=>rfl
 | 4,_=>exact fun _=>rfl
 | 5,_=>exact fun _=>rfl
 | 6,_=>exact fun _=>rfl
 | 7,_=>exact fun _=>rfl
theorem Q0a (F:Nat->Prop) (A:Option Addr) (n c:Nat) (L:List Bool) (w:World) (hr:Rd w F A n (QN L)) (hn:n<=100000) :
   Calls Tryz.prog 158 #[.slice A n c] w fun e w'=>∃v,e = .returned v/\Qk w w' v (QE L):=by
 (have hL:L.length=n:=by have:=hr.1;simpa using this);(have hnI:(n:Int)<=100000:=by omega);have HR:=hd_ hr;have HL:=hd_ hL;clear hr hL hn;refine Qg fun R hR=>?_;go_enter Tryz.func158,Tryz.ntmps158;go_wp2_with fail;go_loopg [3,4] n (fun m s i wr=>∃k:Nat,k+m=n/\i = .int .i64 k/\Qk w wr s (QE (L.take k)))
 case atStart=>exact⟨0,by omega,rfl,by simpa [QE,Qa]using Own.nil w 5,Upd.refl _ _,by simp [Value.ownBlock]⟩
 case round =>
   obtain⟨k,hk,rfl,ho,hf,hob⟩:=hrel;have HK:=hd_ hk;have HF:=hd_ hf;have HOB:=hd_ hob;by_cases hlt:k<n
   . obtain⟨b,o,hkl,rfl,hb,hc⟩:=(HR.out.fresh hf).bool (k:=k) hlt
     obtain⟨fr,y,hfl,hy,h0,h1,h2⟩:=Q1a L k hkl;obtain⟨bb,hbb⟩:=nm_ (L[k]);rw [<-hbb]at h2 hc;obtain⟨q,hq⟩:=nm_ (fr.length);obtain⟨r,hrr⟩:=nm_ (k%8);rw [<-hrr]at hy h0 h1 h2;(have hqI:(k:Int) / 8=(q:Int):=by omega);(have hrI:(k:Int)%8=(r:Int):=by omega);(have hr8:(r:Int)<8:=by omega);have hp2:2^r<=2^7:=Nat.pow_le_pow_right (by omega) (by omega);(have hkI:(k:Int)<n:=by omega);have H2:=hd_ h2;have HY:=hd_ (show y<128 by omega);have HQ:=hd_ hq;have HP2:=hd_ (show 2^r<=128 by omega);have HT:=hd_ (Q2q r (by omega));(have hr7:r<8:=by omega);have HBB:=hd_ hbb;clear hk hf hob h2 hbb hfl hy hq hp2 hrr;by_cases h8:r=0
     . obtain⟨h01,rfl⟩:=h0 h8
       rw [h01]at ho;have HO:=hd_ ho;(have hr0:((r:Int) == 0)=true:=by rw [h8];rfl);(have hlen:(Qa fr).length+1<=2^40:=by have:=HQ.out;simp;omega);have HLEN:=hd_ hlen;clear h0 h1 h01 ho h8 hlen;go_wp2_with (at_builtin;go_must (refine Qt _ rfl (.tmp 14) (.tmp 15) _ rfl 5 _ 1 Tryz.underlying22 Y5 rfl _ _ rfl (HO.out.alloc _) _ 1 _ _ rfl (Rd.one wr 5 (.int .u8 0)) (by simp [Value.oneCell']) (by omega) HLEN.out ?_));intro v1 w1 o1 g1 a1;have f1:Q0 w w1:=(HF.out.alloc _).grown g1 (fun kk hkk hlt=>by have:=HOB.out kk hkk;omega);have b1:∀kk,v1.ownBlock=some kk->w.heap.size<=kk:=YD (S:=fun kk=>w.heap.size<=kk) a1 HOB.out (by have:=HF.out.size;simp;omega);have O1:=hd_ (show Own w1 5 v1 (Qa (fr++[0])) by simpa [Qa]using o1);obtain⟨b',o',_,he,hb',hc1⟩:=(HR.out.fresh f1).bool (k:=k) hlt;injection he with he;injection he with he1 he2;subst he1 he2;rw [<-HBB.out]at hc1;have F1:=hd_ f1;have B1:=hd_ b1;clear o1 g1 a1 f1 b1 hc;cases bb
       . go_wp2_with fail
         go_roundg (gk-1)
         case measure=>have:=HK.out;omega
         case rel=>exact⟨k+1,by have:=HK.out;omega,by go_num,by rw [H2.out];simpa using O1.out,F1.out,B1.out⟩
       obtain⟨A1,n1,c1,rfl,hn1⟩:=O1.out.form';obtain⟨g,rfl,hgs,hcell,hfz,hown⟩:=O1.out.store (i:=q) (by have:=HQ.out;simp;omega);(have hget:(Qa (fr++[0]))[q]'(by have:=HQ.out;simp;omega) = .int .u8 ((0:Nat):Int):=by have:=HQ.out;simp [Qa,this]);rw [hget]at hcell;have hcap:=(O1.out.rd rfl).2.1;(have hn1I:(n1:Int)=q+1:=by have:=hn1.out;have:=HQ.out;simp at *;omega);(have hlt1:(q:Int)<n1:=by omega);have htab:=HT.out;obtain⟨t8,ht8⟩:=nm_ (2^r);rw [<-ht8]at htab;(have hsum:IntKind.u8.wrap (((0:Nat):Int)+t8)=((0+t8:Nat):Int):=by rw [IntKind.wrap_u8];have:=HY.out;have:=HP2.out;omega);have HT8:=hd_ ht8;clear ht8;have HOWN:=hd_ hown;clear hget hn1I hown;go_wp2_with fail;go_region;(all_goals go_wp2_with fail);(all_goals go_roundg (gk-1))
       case measure=>have:=HK.out;omega
       case rel =>
         refine⟨k+1,by have:=HK.out;omega,by go_num,?_⟩;have o2:=((HOWN.out (.int .u8 (0+t8:Nat))).alloc (.cells #[.int .u8 1,.int .u8 2,.int .u8 4,.int .u8 8,.int .u8 16,.int .u8 32,.int .u8 64,.int .u8 128] 5)).drew;(have e1:(Qa (fr++[0])).set q (.int .u8 (0+t8:Nat))=Qa (fr++[0+t8]):=by have:=HQ.out;subst this;simp [Qa,List.set_append]);rw [e1]at o2;have f2:Q0 w (w1.setCell ⟨g,q,none⟩ (.int .u8 (0+t8:Nat))):=F1.out.setCell (p:=⟨g,q,none⟩) (fun h=>by have:=B1.out g rfl;simp at h;omega) _;rw [H2.out,if_pos (by simp),<-HT8.out];(have e2:(t8:Int)%256=((0+t8:Nat):Int):=by have:=HP2.out;have:=HT8.out;omega);rw [e2];exact⟨o2,(f2.alloc _).drew,B1.out⟩
     have h11:=h1 h8;rw [h11]at ho;(have hr0:((r:Int) == 0)=false:=by simp;omega);have O1:=hd_ ho;clear h0 h1 h11 ho h8;obtain⟨w1,rfl⟩:=nm_ (wr);have F1:=HF;have B1:=HOB;cases bb
     . go_wp2_with fail
       go_roundg (gk-1)
       case measure=>have:=HK.out;omega
       case rel=>exact⟨k+1,by have:=HK.out;omega,by go_num,by rw [H2.out];simpa using O1.out,F1.out,B1.out⟩
     obtain⟨A1,n1,c1,rfl,hn1⟩:=O1.out.form';obtain⟨g,rfl,hgs,hcell,hfz,hown⟩:=O1.out.store (i:=q) (by have:=HQ.out;simp;omega);(have hget:(Qa (fr++[y]))[q]'(by have:=HQ.out;simp;omega) = .int .u8 (y:Nat):=by have:=HQ.out;simp [Qa,this]);rw [hget]at hcell;have hcap:=(O1.out.rd rfl).2.1;(have hn1I:(n1:Int)=q+1:=by have:=hn1.out;have:=HQ.out;simp at *;omega);(have hlt1:(q:Int)<n1:=by omega);have htab:=HT.out;obtain⟨t8,ht8⟩:=nm_ (2^r);rw [<-ht8]at htab;(have hsum:IntKind.u8.wrap ((y:Int)+t8)=((y+t8:Nat):Int):=by rw [IntKind.wrap_u8];have:=HY.out;have:=HP2.out;omega);have HT8:=hd_ ht8;clear ht8;have HOWN:=hd_ hown;clear hget hn1I hown;go_wp2_with fail;go_region;(all_goals go_wp2_with fail);(all_goals go_roundg (gk-1))
     case measure=>have:=HK.out;omega
     case rel =>
       refine⟨k+1,by have:=HK.out;omega,by go_num,?_⟩;have o2:=((HOWN.out (.int .u8 (y+t8:Nat))).alloc (.cells #[.int .u8 1,.int .u8 2,.int .u8 4,.int .u8 8,.int .u8 16,.int .u8 32,.int .u8 64,.int .u8 128] 5)).drew;(have e1:(Qa (fr++[y])).set q (.int .u8 (y+t8:Nat))=Qa (fr++[y+t8]):=by have:=HQ.out;subst this;simp [Qa,List.set_append]);rw [e1]at o2;have f2:Q0 w (w1.setCell ⟨g,q,none⟩ (.int .u8 (y+t8:Nat))):=F1.out.setCell (p:=⟨g,q,none⟩) (fun h=>by have:=B1.out g rfl;simp at h;omega) _;rw [H2.out,if_pos (by simp),<-HT8.out];(have e2:(y:Int)+t8=((y+t8:Nat):Int):=by omega);rw [e2];exact⟨o2,(f2.alloc _).drew,B1.out⟩
   (obtain rfl:k=n:=by have:=HK.out;omega);have e:L.take k=L:=List.take_of_length_le (by have:=HL.out;omega);rw [e]at ho;have HO:=hd_ ho;clear e ho hk hf hob;go_wp2_with fail;(try go_ret);exact hR.out _ _ ⟨_,rfl,HO.out,HF.out,HOB.out⟩
end Go.Proofs.YtckjdhaflokcgaaGreat
