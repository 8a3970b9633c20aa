/-
  Joined texts, part 17: contracts and plain lemmas.
  Conditions: none beyond those of each theorem.
-/
import Derived.Test.YtckjdhaflokcgaaGreatQ9
set_option maxHeartbeats 4000000
set_option linter.unusedVariables false
set_option linter.unusedSimpArgs false
set_option linter.unnecessarySimpa false
set_option maxRecDepth 100000
universe u
namespace Go.Proofs.YtckjdhaflokcgaaGreat
open Go.RowKit
def Qi (er:Int):Ending:=.panicked [{ v:=.iface 24 (.int .i64 er),recovered:=false }]
theorem K8 (er:Int) (w:World):Calls Tryz.prog 144 #[.bool true,.int .i64 er] w fun e w'=>e = .returned (.tuple #[])/\w'=w:=by
 refine Qg fun R hR=>?_;go_enter Tryz.func144,Tryz.ntmps144;go_wp2_with fail;(try go_end0);exact hR.out _ _ ⟨rfl,rfl⟩
theorem Z6 (er:Int) (w:World):Calls Tryz.prog 144 #[.bool false,.int .i64 er] w fun e w'=>e=Qi er/\w'=w:=by
 refine Qg fun R hR=>?_;go_enter Tryz.func144,Tryz.ntmps144;go_wp2_with fail;exact⟨rfl,hR.out _ _ ⟨rfl,rfl⟩⟩
theorem Jp (b c:Nat) (w:World) (h:w.cell? ⟨b,0,none⟩=some (.int .i64 0)):Calls Tryz.prog 88 #[.slice (some ⟨b,0,none⟩) 1 c] w fun e w'=>e = .returned (.tuple #[])/\w'=w:=by
 refine Qg fun R hR=>?_;go_enter Tryz.func88,Tryz.ntmps88;go_wp2_with fail;go_loopg [6] 1 (fun f vi wr=>∃k:Nat,k+f=1/\vi = .int .i64 k/\wr=w)
 case atStart=>exact⟨0,rfl,rfl,rfl⟩
 case round =>
   obtain⟨k,hk,rfl,rfl⟩:=hrel;rcases(show k=0\/k=1 by omega)with rfl|rfl
   . go_wp2_with fail
     go_roundg 0
     case measure=>omega
     case rel=>exact⟨1,rfl,by go_num,rfl⟩
   go_wp2_with fail;(try go_end0);exact hR.out _ _ ⟨rfl,rfl⟩
theorem Km (er:Int) (b c:Nat) (w:World) (h:w.cell? ⟨b,0,none⟩=some (.int .i64 er)) (her:er≠0):Calls Tryz.prog 88 #[.slice (some ⟨b,0,none⟩) 1 c] w fun e w'=>e=Qi er/\w'=w:=by
 (have h0:(er == 0)=false:=by simpa using her);clear her;refine Qg fun R hR=>?_;go_enter Tryz.func88,Tryz.ntmps88;go_wp2_with fail;go_loopg [6] 1 (fun f vi wr=>f=1/\vi = .int .i64 0/\wr=w)
 case atStart=>exact⟨rfl,rfl,rfl⟩
 case round =>
   obtain⟨rfl,rfl,rfl⟩:=hrel;go_wp2_with fail;exact⟨rfl,hR.out _ _ ⟨rfl,rfl⟩⟩
theorem Zt (er:Int) (w:World):Calls Tryz.prog 43 #[.bool true,.int .i64 er] w fun e w'=>e = .returned (.tuple #[])/\w'=w:=by
 refine Qg fun R hR=>?_;go_enter Tryz.func43,Tryz.ntmps43;go_wp2_with fail;(try go_end0);exact hR.out _ _ ⟨rfl,rfl⟩
theorem JO (er:Int) (w:World):Calls Tryz.prog 43 #[.bool false,.int .i64 er] w fun e w'=>e=Qi er/\w'=w:=by
 refine Qg fun R hR=>?_;go_enter Tryz.func43,Tryz.ntmps43;go_wp2_with fail;exact⟨rfl,hR.out _ _ ⟨rfl,rfl⟩⟩
theorem QQ (b c:Nat) (w:World) (h:w.cell? ⟨b,0,none⟩=some (.int .i64 0)):Calls Tryz.prog 49 #[.slice (some ⟨b,0,none⟩) 1 c] w fun e w'=>e = .returned (.tuple #[])/\w'=w:=by
 refine Qg fun R hR=>?_;go_enter Tryz.func49,Tryz.ntmps49;go_wp2_with fail;go_loopg [6] 1 (fun f vi wr=>∃k:Nat,k+f=1/\vi = .int .i64 k/\wr=w)
 case atStart=>exact⟨0,rfl,rfl,rfl⟩
 case round =>
   obtain⟨k,hk,rfl,rfl⟩:=hrel;rcases(show k=0\/k=1 by omega)with rfl|rfl
   . go_wp2_with fail
     go_roundg 0
     case measure=>omega
     case rel=>exact⟨1,rfl,by go_num,rfl⟩
   go_wp2_with fail;(try go_end0);exact hR.out _ _ ⟨rfl,rfl⟩
theorem Yw (er:Int) (b c:Nat) (w:World) (h:w.cell? ⟨b,0,none⟩=some (.int .i64 er)) (her:er≠0):Calls Tryz.prog 49 #[.slice (some ⟨b,0,none⟩) 1 c] w fun e w'=>e=Qi er/\w'=w:=by
 (have h0:(er == 0)=false:=by simpa using her);clear her;refine Qg fun R hR=>?_;go_enter Tryz.func49,Tryz.ntmps49;go_wp2_with fail;go_loopg [6] 1 (fun f vi wr=>f=1/\vi = .int .i64 0/\wr=w)
 case atStart=>exact⟨rfl,rfl,rfl⟩
 case round =>
   obtain⟨rfl,rfl,rfl⟩:=hrel;go_wp2_with fail;exact⟨rfl,hR.out _ _ ⟨rfl,rfl⟩⟩
theorem Vb {l:List Int} {k:Nat} (h:k<l.length) (hb:¬(0<=l[k]/\l[k]<=11)):¬Qj l:=fun ht=>hb (ht.1 _ (List.getElem_mem h))
theorem XX (F:Nat->Prop) (A:Option Addr) (n c:Nat) (l:List Int) (w:World) (hr:Rd w F A n (Qm l)) (hn:n<=2^40) :
   Calls Tryz.prog 242 #[.slice A n c] w fun e w'=>e = .returned (.bool (decide (Qj l)))/\w'=w:=by
 (have hL:l.length=n:=by have:=hr.1;simpa using this);(have hnI:(n:Int)<=1099511627776:=by(have:(2:Nat)^40=1099511627776:=by decide);omega);have HR:=hd_ hr;have HL:=hd_ hL;clear hr hL hn;refine Qg fun R hR=>?_;go_enter Tryz.func242,Tryz.ntmps242;go_wp2_with fail;go_loopg [3,4,9] n (fun f vs vm vi wr=>wr=w/\∃k:Nat,k+f=n/\vi = .int .i64 k/\vs = .int .i64 (Qy (l.take k))/\vm = .int .i64 (Y6 (l.take k):Nat)/\∀x∈l.take k,0<=x/\x<=11)
 case atStart=>exact⟨rfl,0,by omega,rfl,by simp [Qy],by simp [Y6],by simp⟩
 case round =>
   obtain⟨rfl,k,hk,rfl,rfl,rfl,hall⟩:=hrel;have HK:=hd_ hk;have HA:=hd_ hall;have hk1:=JP (l.take k);have hk2:=YP (l.take k);have hk3:=List.length_take_le k l;(have hkI:(k:Int)<=1099511627776:=by omega);by_cases hlt:k<n
   . have hlI:(k:Int)<n:=by omega
     obtain⟨b,o,hkl,rfl,_,hc⟩:=HR.out.int (k:=k) hlt;have HKT:=hd_ (ZQ hkl);have HUT:=hd_ (Kn hkl);have HNO:=hd_ (Vb hkl);have HTK:=hd_ (show l.take (k+1)=l.take k++[l[k]]from List.take_succ_eq_append_getElem hkl);obtain⟨z,hz⟩:=nm_ (l[k]);simp only [<-hz]at hc HKT HUT HNO HTK;obtain⟨S,hS⟩:=nm_ (Qy (l.take k));obtain⟨M,hM⟩:=nm_ (Y6 (l.take k));simp only [<-hS,<-hM]at HKT HUT hk1 hk2 ⊢;(have hSI:0<=S/\S<=2251799813685248:=by omega);(have hMI:(M:Int)<=1099511627776:=by omega);clear hz hS hM hk hall hk1 hk2 hk3;by_cases h0:z<0
     . have hd:decide (Qj l)=false:=decide_eq_false (HNO.out (by omega))
       rw [hd]at hR;clear hd;go_wp2_with fail;(try go_ret);exact hR.out _ _ ⟨rfl,rfl⟩
     by_cases h11:11<z
     . have hd:decide (Qj l)=false:=decide_eq_false (HNO.out (by omega))
       rw [hd]at hR;clear hd;go_wp2_with fail;(try go_ret);exact hR.out _ _ ⟨rfl,rfl⟩
     have HZ:=hd_ (And.intro h0 h11);by_cases hp:0<z
     . obtain⟨q,rfl⟩:∃q:Nat,z=q:=⟨z.toNat,by omega⟩
       (have hpk:YC (q:Int)=((2^(11-q):Nat):Int):=by unfold YC;rw [if_pos hp,Int.toNat_natCast];simp);(have hq11:q<=11:=by omega);have hP:2^(11-q)<=2048:=Nat.pow_le_pow_right (n:=2) (by decide) (show 11-q<=11 by omega);rw [hpk]at HKT;rw [if_pos hp]at HUT;(have h2p:((2:Int)^(11-q))=((2^(11-q):Nat):Int):=by simp)
       have hW:wrap64 (S+wrap64 ((2:Int)^(11-q)))=S+((2^(11-q):Nat):Int):=by
         rw [h2p];generalize 2^(11-q)=P at *;unfold wrap64;omega
       have HWW:=hd_ hW;clear hpk h2p hW hP;go_wp2_with fail;go_roundg (gk-1)
       case measure=>have:=HK.out;omega
       case rel=>exact⟨rfl,k+1,by have:=HK.out;omega,by go_num,by rw [HWW.out,HKT.out],by rw [HUT.out];simp,by rw [HTK.out];intro x hx;rcases List.mem_append.1 hx with h|h;exact HA.out x h;rw [List.mem_singleton.1 h];omega⟩
     (have hz0:z=0:=by omega);subst hz0;rw [show YC 0=0 from rfl,Int.add_zero]at HKT;rw [if_neg (by omega),Nat.add_zero]at HUT;clear h0 h11 hp;go_wp2_with fail;go_roundg (gk-1)
     case measure=>have:=HK.out;omega
     case rel=>exact⟨rfl,k+1,by have:=HK.out;omega,by go_num,by rw [HKT.out],by rw [HUT.out];simp,by rw [HTK.out];intro x hx;rcases List.mem_append.1 hx with h|h;exact HA.out x h;rw [List.mem_singleton.1 h];omega⟩
   (obtain rfl:k=n:=by omega);have htl:l.take k=l:=List.take_of_length_le (by have:=HL.out;omega);rw [htl]at hall ⊢
   have hdt:decide (Qj l)=(decide (k<=256)&&(decide (1<Y6 l)&&decide (Qy l=2048))):=by
     rw [Bool.eq_iff_iff];simp only [decide_eq_true_eq,Bool.and_eq_true];have:=HL.out;unfold Qj;constructor
     . rintro⟨-,h2,h3,h4⟩;exact⟨by omega,h3,h4⟩
     rintro⟨h2,h3,h4⟩;exact⟨hall,by omega,h3,h4⟩
   rw [hdt]at hR;obtain⟨S,hS⟩:=nm_ (Qy l);obtain⟨M,hM⟩:=nm_ (Y6 l);simp only [<-hS,<-hM]at hR ⊢;clear hk1 hk2 hk3 hall HA hdt hS hM htl hk hlt HK;by_cases h1:k<=256
   . rw [decide_eq_true h1]at hR
     (have h1I:(k:Int)<=256:=by omega);by_cases h2:1<M
     . rw [decide_eq_true h2]at hR
       (have h2I:1<(M:Int):=by omega);by_cases h3:S=2048
       . rw [decide_eq_true h3]at hR
         subst h3;go_wp2_with fail;(try go_ret);exact hR.out _ _ ⟨rfl,rfl⟩
       rw [decide_eq_false h3]at hR;(have h3b:(S == 2048)=false:=by simpa using h3);go_wp2_with fail;(try go_ret);exact hR.out _ _ ⟨rfl,rfl⟩
     rw [decide_eq_false h2]at hR;(have h2I:¬1<(M:Int):=by omega);go_wp2_with fail;(try go_ret);exact hR.out _ _ ⟨rfl,rfl⟩
   rw [decide_eq_false h1]at hR;(have h1I:¬(k:Int)<=256:=by omega);go_wp2_with fail;(try go_ret);exact hR.out _ _ ⟨rfl,rfl⟩
theorem XY (b c:Nat) (v:Bool) (w:World) (h:w.cell? ⟨b,0,none⟩=some (.bool v)):Calls Tryz.prog 239 #[.slice (some ⟨b,0,none⟩) 1 c,.bool false] w fun e w'=>e = .returned (.int .i64 (if v then -1 else 0))/\w'=w:=by
 refine Qg fun R hR=>?_;go_enter Tryz.func239,Tryz.ntmps239;go_wp2_with fail;go_loopg [8] 1 (fun f vi wr=>∃k:Nat,k+f=1/\vi = .int .i64 k/\wr=w/\(k=1->v=true))
 case atStart=>exact⟨0,rfl,rfl,rfl,fun h=>by omega⟩
 case round =>
   obtain⟨k,hk,rfl,rfl,hv⟩:=hrel;rcases(show k=0\/k=1 by omega)with rfl|rfl
   . clear hv
     cases v with
     | true =>
       go_wp2_with fail;go_roundg 0
       case measure=>omega
       case rel=>exact⟨1,rfl,by go_num,rfl,fun _=>by trivial⟩
     | false =>
       go_wp2_with fail;(try go_ret);exact hR.out _ _ ⟨rfl,rfl⟩
   obtain rfl:=hv rfl;go_wp2_with fail;(try go_ret);exact hR.out _ _ ⟨rfl,rfl⟩
theorem Vc (b c:Nat) (v:Bool) (w:World) (h:w.cell? ⟨b,0,none⟩=some (.bool v)):Calls Tryz.prog 187 #[.slice (some ⟨b,0,none⟩) 1 c,.bool false] w fun e w'=>e = .returned (.bool (!v))/\w'=w:=by
 have HI:=hd_ (XY b c v w h);clear h;refine Qg fun R hR=>?_;go_enter Tryz.func187,Tryz.ntmps187;go_wp2_with fail;refine HI.out.mono ?_;rintro e w1 ⟨rfl,rfl⟩;clear HI;cases v
 . go_wp2_with fail
   (try go_ret);exact hR.out _ _ ⟨rfl,rfl⟩
 go_wp2_with fail;(try go_ret);exact hR.out _ _ ⟨rfl,rfl⟩
theorem Q2j (er:Int) (b c:Nat) (w:World) (h:w.cell? ⟨b,0,none⟩=some (.bool true)):Calls Tryz.prog 241 #[.int .i64 er,.slice (some ⟨b,0,none⟩) 1 c] w fun e w'=>e = .returned (.tuple #[])/\w'=w:=by
 have HI:=hd_ (Vc b c true w h);clear h;refine Qg fun R hR=>?_;go_enter Tryz.func241,Tryz.ntmps241;go_wp2_with fail;refine HI.out.mono ?_;rintro e w1 ⟨rfl,rfl⟩;go_wp2_with fail;(try go_end0);exact hR.out _ _ ⟨rfl,rfl⟩
theorem Q2k (er:Int) (b c:Nat) (w:World) (h:w.cell? ⟨b,0,none⟩=some (.bool false)):Calls Tryz.prog 241 #[.int .i64 er,.slice (some ⟨b,0,none⟩) 1 c] w fun e w'=>e=Qi er/\w'=w:=by
 have HI:=hd_ (Vc b c false w h);clear h;refine Qg fun R hR=>?_;go_enter Tryz.func241,Tryz.ntmps241;go_wp2_with fail;refine HI.out.mono ?_;rintro e w1 ⟨rfl,rfl⟩;go_wp2_with fail;exact⟨rfl,hR.out _ _ ⟨rfl,rfl⟩⟩
theorem KS (F:Nat->Prop) (A:Option Addr) (n c:Nat) (l:List Int) (w:World) (hr:Rd w F A n (Qm l)) (hn:n<=2^40) (hc:n<=c) :
   Calls Tryz.prog 195 #[.slice A n c] w fun e w'=>e=(if Qj l then .returned (.agg #[.slice A n n])else Qi 12)/\Q0 w w':=by
 obtain⟨w0,hw0⟩:=nm_ (w.alloc (.cells #[.slice none 0 0] 243));obtain⟨H,hH⟩:=nm_ (w.heap.size);(have f0:Q0 w w0:=by rw [hw0];exact(Upd.refl _ _).alloc _);(have bt:Blk w0 H 243 #[.slice none 0 0]:=by rw [hw0];exact Qc hH _ _);have HRT:=hd_ (XX F A n c l w0 (hr.fresh f0) hn);have HMO:=hd_ Q2j;have HMN:=hd_ Q2k;have BT:=hd_ bt;have F0:=hd_ f0;have HW:=hd_ hw0;have HH:=hd_ hH;(have hcI:(n:Int)<=c:=by omega);clear hr hn hw0 hH f0 bt;refine Qg fun R hR=>?_;go_enter Tryz.func195,Tryz.ntmps195;go_upto_region 1 with fail;simp only [<-HH.out,<-HW.out];by_cases ht:Qj l
 . rw [decide_eq_true ht]at HRT
   rw [if_pos ht]at hR;clear ht;go_wp2_with fail;refine HRT.out.mono ?_;rintro e w1 ⟨rfl,rfl⟩;go_wp2_with fail;refine(HMO.out _ _ _ _ ((Blk.new w1 4 #[.bool true]).cell 0)).mono ?_;rintro e w2 ⟨rfl,rfl⟩;have b2:=BT.out.alloc (.cells #[.bool true] 4);have c0:=b2.cell 0;have z0:=b2.frozen 0;simp at c0;go_wp2_with fail;have b3:=b2.set_ 0 (.slice A n n);simp at b3;refine bodyPost_ret (v:=.agg #[.slice A n n]) (results_cell_row rfl _ _ H 243 _ _ _ rfl b3 Tryz.underlying243 rfl (by kernel_rfl)) rfl ?_;exact hR.out _ _ ⟨rfl,(F0.out.alloc _).trans ((Upd.refl (fun b=>b=H) _).setCell (p:=⟨H,0,none⟩) (fun _=>rfl) _) (fun b hb e=>by have:=HH.out;omega)⟩
 rw [decide_eq_false ht]at HRT;rw [if_neg ht]at hR;clear ht;go_wp2_with fail;refine HRT.out.mono ?_;rintro e w1 ⟨rfl,rfl⟩;go_wp2_with fail;refine(HMN.out _ _ _ _ ((Blk.new w1 4 #[.bool false]).cell 0)).mono ?_;rintro e w2 ⟨rfl,rfl⟩;simp only [Qi];exact⟨rfl,hR.out _ _ ⟨rfl,F0.out.alloc _⟩⟩
theorem Q0X (F:Nat->Prop) (A:Option Addr) (n c:Nat) (l:List Int) (w:World) (hr:Rd w F A n (Qm l)) (ht:Qj l) :
   Calls Tryz.prog 286 #[.slice A n c] w fun e w'=>e = .returned (.agg (QA (Qw l)))/\Q0 w w':=by
 obtain⟨w0,hw0⟩:=nm_ (w.alloc (.cells (QA fun _=>0) 292));obtain⟨H,hH⟩:=nm_ (w.heap.size);(have f0:Q0 w w0:=by rw [hw0];exact(Upd.refl _ _).alloc _);(have bt:Blk w0 H 292 (QA fun _=>0):=by rw [hw0];exact Qc hH _ _);(have hL:l.length=n:=by have:=hr.1;simpa using this);(have hn:n<=256:=by have:=ht.2.1;omega);(have hnI:(n:Int)<=256:=by omega)
 have HR:=hd_ (show ∀W,Upd (fun b=>b=H) w0 W->∀k,k<n->∃(b o:Nat) (hk':k<l.length),A=some ⟨b,o,none⟩/\b<W.heap.size/\W.cell? ⟨b,o+k,none⟩=some (.int .i64 l[k])from fun W hu k hk =>
   ((hr.both.fresh f0).upd hu (fun b _ hb e=>by have:=hb.2;omega)).int hk)
 have HT:=hd_ (fun k (hk:k<l.length)=>ht.1 _ (List.getElem_mem hk));(have hzero:QA (fun _=>0)=QA (Qw (l.take 0)):=Yc fun i _=>by simp [Qw]);rw [hzero]at bt;(have hw0':w.alloc (.cells #[.int .u32 0,.int .u32 0,.int .u32 0,.int .u32 0,.int .u32 0,.int .u32 0,.int .u32 0,.int .u32 0,.int .u32 0,.int .u32 0,.int .u32 0,.int .u32 0] 292)=w0:=by rw [hw0];rfl);have BT:=hd_ bt;have F0:=hd_ f0;have HW:=hd_ hw0';have HH:=hd_ hH;have HL:=hd_ hL;clear hr ht hw0 hw0' hH f0 bt hL hzero hn;refine Qg fun R hR=>?_;go_enter Tryz.func286,Tryz.ntmps286;go_upto_region 1 with fail;simp only [<-HH.out,HW.out];go_wp2_with fail;go_loopg [7] n (fun f vi wr=>∃k,k+f=n/\vi = .int .i64 k/\Blk wr H 292 (QA (Qw (l.take k)))/\Upd (fun b=>b=H) w0 wr)
 case atStart=>exact⟨0,by omega,rfl,BT.out,Upd.refl _ _⟩
 case round =>
   obtain⟨k,hk,rfl,bb,ur⟩:=hrel;have HK:=hd_ hk;have BB:=hd_ bb;have UR:=hd_ ur;by_cases hlt:k<n
   . have hlI:(k:Int)<n:=by omega
     obtain⟨b,o,hkl,rfl,_,hc⟩:=HR.out _ ur k hlt;have hz:=HT.out k hkl;have HMT:=hd_ (fun i=>Ko hkl i);obtain⟨z,hzd⟩:=nm_ (l[k]);simp only [<-hzd]at hc hz HMT;clear hzd hk;by_cases hp:0<z
     . obtain⟨q,rfl⟩:∃q:Nat,z=q:=⟨z.toNat,by omega⟩
       (have hq:q<12:=by omega);(have hqI:(q:Int)<12:=by omega);(have hq0:0<=(q:Int):=by omega);have hcell:=(bb.cell q).trans (YU _ hq);have hfz:=bb.frozen q;have hml:=Z7 (l.take k) q;have hlen:=List.length_take_le k l;have bs:=bb.set_ q (.int .u32 ((Qw (l.take k) q+1:Nat):Int));rw [Zu _ _ hq]at bs
       have hcg:QA (fun i=>if i=q then Qw (l.take k) q+1 else Qw (l.take k) i)=QA (Qw (l.take (k+1))):=Yc fun i hi=>by
         rw [HMT.out i];by_cases hiq:i=q
         . subst hiq
           rw [if_pos rfl,if_pos ⟨by omega,rfl⟩]
         rw [if_neg hiq,if_neg (fun h=>hiq (by omega))];rfl
       rw [hcg]at bs;have HBS:=hd_ bs;have HUS:=hd_ (UR.out.setCell (p:=⟨H,q,none⟩) (fun _=>rfl) (.int .u32 ((Qw (l.take k) q+1:Nat):Int)));obtain⟨M,hM⟩:=nm_ (Qw (l.take k) q);simp only [<-hM]at hcell HBS HUS hml;(have hMI:(M:Int)<=256:=by omega);(have hwr:IntKind.u32.wrap ((M:Int)+1)=M+1:=by unfold IntKind.wrap;simp [IntKind.bits];omega);(have hcast:((M+1:Nat):Int)=(M:Int)+1:=by omega);rw [hcast]at HBS HUS;clear bs hcg hM hml hlen bb ur;go_wp2_with fail;go_roundg (gk-1)
       case measure=>have:=HK.out;omega
       case rel=>exact⟨k+1,by have:=HK.out;omega,by go_num,HBS.out,HUS.out⟩
     (have hz0:z=0:=by omega);subst hz0
     have hcg:QA (Qw (l.take k))=QA (Qw (l.take (k+1))):=Yc fun i hi=>by
       rw [HMT.out i];by_cases h0:i=0
       . subst h0;simp
       rw [if_neg (fun h=>h0 (by have:=h.2;omega))];rfl
     rw [hcg]at BB;clear hcg hp bb ur;go_wp2_with fail;go_roundg (gk-1)
     case measure=>have:=HK.out;omega
     case rel=>exact⟨k+1,by have:=HK.out;omega,by go_num,BB.out,UR.out⟩
   (obtain rfl:k=n:=by omega);have htl:l.take k=l:=List.take_of_length_le (by have:=HL.out;omega);rw [htl]at bb;clear hk hlt BB HK;have b0:=bb;unfold QA at b0;have x0:=b0.cell 0;have x1:=b0.cell 1;have x2:=b0.cell 2;have x3:=b0.cell 3;have x4:=b0.cell 4;have x5:=b0.cell 5;have x6:=b0.cell 6;have x7:=b0.cell 7;have x8:=b0.cell 8;have x9:=b0.cell 9;have x10:=b0.cell 10;have x11:=b0.cell 11;have z0:=b0.frozen 0;have z1:=b0.frozen 1;have z2:=b0.frozen 2;have z3:=b0.frozen 3;have z4:=b0.frozen 4;have z5:=b0.frozen 5;have z6:=b0.frozen 6;have z7:=b0.frozen 7;have z8:=b0.frozen 8;have z9:=b0.frozen 9;have z10:=b0.frozen 10;have z11:=b0.frozen 11;simp at x0 x1 x2 x3 x4 x5 x6 x7 x8 x9 x10 x11;have B0:=hd_ (bb.set12 (Qw l));have U0:=hd_ (ur.trans' (Q3j wr H (Qw l)));clear b0 bb ur;go_wp2_with fail;refine bodyPost_ret (v:=.agg (QA (Qw l))) (results_cell_row rfl _ _ H 292 _ _ _ rfl B0.out Tryz.underlying292 rfl (by rw [Kq];kernel_rfl)) rfl ?_;exact hR.out _ _ ⟨rfl,F0.out.trans U0.out (fun b hb e=>by have:=HH.out;omega)⟩
theorem XZ (F:Nat->Prop) (A:Option Addr) (n c:Nat) (l:List Int) (w:World) (hr:Rd w F A n (Qm l)) (ht:Qj l) :
   Calls Tryz.prog 243 #[.slice A n c] w fun e w'=>e = .returned (.agg (QA (Qr l)))/\Q0 w w':=by
 obtain⟨w0,hw0⟩:=nm_ (w.alloc (.cells (QA fun _=>0) 292));obtain⟨H,hH⟩:=nm_ (w.heap.size);(have f0:Q0 w w0:=by rw [hw0];exact(Upd.refl _ _).alloc _);(have bt:Blk w0 H 292 (QA fun _=>0):=by rw [hw0];exact Qc hH _ _);have HMA:=hd_ (Q0X F A n c l w0 (hr.fresh f0) ht);have HLE:=hd_ (fun k=>Zv (l:=l) ht.2.1 k);have HML:=hd_ (fun k=>Nat.le_trans (Z7 l k) ht.2.1);(have hw0':w.alloc (.cells #[.int .u32 0,.int .u32 0,.int .u32 0,.int .u32 0,.int .u32 0,.int .u32 0,.int .u32 0,.int .u32 0,.int .u32 0,.int .u32 0,.int .u32 0,.int .u32 0] 292)=w0:=by rw [hw0];rfl)
 have hzero:QA (fun _=>0)=QA (fun i=>if i<=0 then Qr l i else 0):=Yc fun i _=>by
   split
   . next h =>
     (have:i=0:=by omega);subst this;rfl
   rfl
 rw [hzero]at bt;have BT:=hd_ bt;have F0:=hd_ f0;have HW:=hd_ hw0';have HH:=hd_ hH;clear hr ht hw0 hw0' hH f0 bt hzero;refine Qg fun R hR=>?_;go_enter Tryz.func243,Tryz.ntmps243;go_upto_region 1 with fail;simp only [<-HH.out,HW.out];go_wp2_with fail;refine HMA.out.mono ?_;rintro e w1 ⟨rfl,f1⟩;unfold QA;go_upto_region 2 with fail;obtain⟨MB,hMB⟩:=nm_ (w1.heap.size);obtain⟨w2,hw2⟩:=nm_ (w1.alloc (.cells #[.int .u32 (Qw l 0:Nat),.int .u32 (Qw l 1:Nat),.int .u32 (Qw l 2:Nat),.int .u32 (Qw l 3:Nat),.int .u32 (Qw l 4:Nat),.int .u32 (Qw l 5:Nat),.int .u32 (Qw l 6:Nat),.int .u32 (Qw l 7:Nat),.int .u32 (Qw l 8:Nat),.int .u32 (Qw l 9:Nat),.int .u32 (Qw l 10:Nat),.int .u32 (Qw l 11:Nat)] 292));simp only [<-hMB,<-hw2];(have bm:Blk w2 MB 292 (QA (Qw l)):=by rw [hw2];exact Qc hMB _ _);have b1:=BT.out.fresh f1;(have hMH:MB≠H:=by have:=b1.lt;omega);(have f12:Q0 w1 w2:=by rw [hw2];exact(Upd.refl _ _).alloc _);have B2:=hd_ (b1.fresh f12);have F2:=hd_ (F0.out.trans' (f1.trans' f12));have HMC:=hd_ (show ∀W,Upd (fun b=>b=H) w2 W->∀q,q<12->W.cell? ⟨MB,q,none⟩=some (.int .u32 (Qw l q:Nat))from fun W hu q hq=>((bm.upd hu hMH).cell q).trans (YU _ hq));clear hMB hw2 bm b1 f1 f12 HMA;go_wp2_with fail;go_loopg [4] 11 (fun f vi wr=>∃k:Nat,k+f=11/\vi = .int .i64 ((k:Int)+1)/\Blk wr H 292 (QA (fun i=>if i<=k then Qr l i else 0))/\Upd (fun b=>b=H) w2 wr)
 case atStart=>exact⟨0,by omega,rfl,B2.out,Upd.refl _ _⟩
 case round =>
   obtain⟨k,hk,rfl,bb,ur⟩:=hrel;have HK:=hd_ hk;have UR:=hd_ ur;by_cases hlt:k<11
   . have hlI:(k:Int)+1<12:=by omega
     (have hk0:(0:Int)<=k:=by omega);have hc1:=(bb.cell k).trans (YU _ (by omega));simp only [Nat.le_refl,if_true]at hc1;have hc2:=HMC.out wr ur k (by omega);have hc3:=(bb.cell (k+1)).trans (YU _ (by omega));have hfz:=bb.frozen (k+1);have hl1:=HLE.out (k+1);have hl2:=HML.out k;have h2k:2^(k+1)<=2^11:=Nat.pow_le_pow_right (by decide) (by omega);have bs:=bb.set_ (k+1) (.int .u32 (Qr l (k+1):Nat));rw [Zu _ _ (by omega)]at bs
     have hcg:QA (fun i=>if i=k+1 then Qr l (k+1)else if i<=k then Qr l i else 0)=QA (fun i=>if i<=k+1 then Qr l i else 0):=Yc fun i _=>by
       by_cases h1:i=k+1
       . subst h1;rw [if_pos rfl,if_pos (Nat.le_refl _)]
       rw [if_neg h1];by_cases h2:i<=k
       . rw [if_pos h2,if_pos (by omega)]
       rw [if_neg h2,if_neg (by omega)]
     rw [hcg]at bs;have hf1:Qr l (k+1)=(Qr l k+Qw l k)*2:=rfl;have us:=UR.out.setCell (p:=⟨H,k+1,none⟩) (fun _=>rfl) (.int .u32 (Qr l (k+1):Nat));obtain⟨a,ha⟩:=nm_ (Qr l k);obtain⟨m,hm⟩:=nm_ (Qw l k);obtain⟨f,hf⟩:=nm_ (Qr l (k+1));rw [<-ha,<-hm,<-hf]at hf1;rw [<-ha]at hc1;rw [<-hm]at hc2;rw [<-hf]at us;simp only [<-hf]at bs hl1;(have hfI:(f:Int)<=1048576:=by omega);(have hsh:((a:Int)+m)*2=f:=by omega);(have hwf:IntKind.u32.wrap (f:Int)=f:=by unfold IntKind.wrap;simp [IntKind.bits];omega);have BS:=hd_ bs;have US:=hd_ us;clear bs us hcg ha hm hf hf1 hl1 hl2 h2k bb ur hk;go_wp2_with fail;go_region;go_wp2_with fail;go_roundg (gk-1)
     case measure=>have:=HK.out;omega
     case rel=>exact⟨k+1,by have:=HK.out;omega,by go_num,BS.out.drew,US.out.drew⟩
   (obtain rfl:k=11:=by omega);have hcg:QA (fun i=>if i<=11 then Qr l i else 0)=QA (Qr l):=Yc fun i hi=>if_pos (by omega);rw [hcg]at bb;clear hk hlt HK hcg;have b0:=bb;unfold QA at b0;have x0:=b0.cell 0;have x1:=b0.cell 1;have x2:=b0.cell 2;have x3:=b0.cell 3;have x4:=b0.cell 4;have x5:=b0.cell 5;have x6:=b0.cell 6;have x7:=b0.cell 7;have x8:=b0.cell 8;have x9:=b0.cell 9;have x10:=b0.cell 10;have x11:=b0.cell 11;have z0:=b0.frozen 0;have z1:=b0.frozen 1;have z2:=b0.frozen 2;have z3:=b0.frozen 3;have z4:=b0.frozen 4;have z5:=b0.frozen 5;have z6:=b0.frozen 6;have z7:=b0.frozen 7;have z8:=b0.frozen 8;have z9:=b0.frozen 9;have z10:=b0.frozen 10;have z11:=b0.frozen 11;simp at x0 x1 x2 x3 x4 x5 x6 x7 x8 x9 x10 x11;have B0:=hd_ (bb.set12 (Qr l));have U0:=hd_ (ur.trans' (Q3j wr H (Qr l)));clear b0 bb ur;go_wp2_with fail;refine bodyPost_ret (v:=.agg (QA (Qr l))) (results_cell_row rfl _ _ H 292 _ _ _ rfl B0.out Tryz.underlying292 rfl (by rw [Kq];kernel_rfl)) rfl ?_;exact hR.out _ _ ⟨rfl,F2.out.trans U0.out (fun b hb e=>by have:=HH.out;omega)⟩
theorem Z8 (F:Nat->Prop) (A:Option Addr) (n c:Nat) (l:List Int) (w:World) (hr:Rd w F A n (Qm l)) (hn:n<=2^40) (hc:n<=c) :
   Calls Tryz.prog 181 #[.slice A n c] w fun e w'=>e = .returned (.int .i64 (if Qj l then 0 else 12))/\Q0 w w':=by
 obtain⟨w0,hw0⟩:=nm_ (w.alloc (.cells #[.int .i64 0] 24));obtain⟨H,hH⟩:=nm_ (w.heap.size);(have f0:Q0 w w0:=by rw [hw0];exact(Upd.refl _ _).alloc _);(have bt:Blk w0 H 24 #[.int .i64 0]:=by rw [hw0];exact Qc hH _ _);have HOF:=hd_ (KS F A n c l w0 (hr.fresh f0) hn hc);have BT:=hd_ bt;have F0:=hd_ f0;have HW:=hd_ hw0;have HH:=hd_ hH;clear hr hn hw0 hH f0 bt hc;refine Qg fun R hR=>?_;go_enter_defers Tryz.func181,Tryz.ntmps181;go_upto_region 1 with fail;simp only [<-HH.out,<-HW.out];by_cases ht:Qj l
 . rw [if_pos ht]at HOF hR
   clear ht;go_wp2_with fail;refine HOF.out.mono ?_;rintro e w1 ⟨rfl,f1⟩;have b1:=BT.out.fresh f1;have c0:=b1.cell 0;have z0:=b1.frozen 0;simp at c0;have F1:=hd_ (F0.out.trans' f1);have B1:=hd_ b1;clear f1 b1;go_wp2_with fail;change Leaves _ _ _ _ _ _ _;refine leaves_cons (f:=193) (args:=#[.pointer (some ⟨H,0,none⟩),.func (.func 229) #[] #[]]) (by simp) (by simp [go_sem]) ?_;have b2:=B1.out.set_ 0 (.int .i64 0);have d0:=b2.cell 0;simp at d0;refine(YQ _ _ _).mono ?_;rintro e u' w'' ⟨rfl,rfl,rfl⟩;refine⟨.int .i64 0,?_,hR.out _ _ ⟨rfl,F1.out.trans ((Upd.refl (fun b=>b=H) _).setCell (p:=⟨H,0,none⟩) (fun _=>rfl) _) (fun b hb e=>by have:=HH.out;omega)⟩⟩;simp [results,Tryz.results181,go_sem,d0]
 rw [if_neg ht]at HOF hR;clear ht;go_wp2_with fail;refine HOF.out.mono ?_;rintro e w1 ⟨rfl,f1⟩;have b1:=BT.out.fresh f1;simp only [Qi];change Leaves _ _ _ _ _ _ _;refine leaves_cons (f:=193) (args:=#[.pointer (some ⟨H,0,none⟩),.func (.func 229) #[] #[]]) (by simp) (by simp [go_sem]) ?_;refine(YK 229 #[] (fun _=>False) (fun _=>True) H 12 _ w1 b1 (fun h=>h) (fun _ _=>rfl) ((Q00 w1).mono (fun e w' h=>⟨h.1,h.2.1,trivial⟩))).mono ?_;rintro e u' w'' ⟨rfl,rfl,w2,u2,-,rfl⟩;have b2:=(b1.upd u2 (fun h=>h)).set_ 0 (.int .i64 12);have d0:=b2.cell 0;simp at d0;show Leaves _ _ _ _ [] .returning _;refine⟨.int .i64 12,?_,hR.out _ _ ⟨rfl,(F0.out.trans' (f1.trans' u2)).trans ((Upd.refl (fun b=>b=H) _).setCell (p:=⟨H,0,none⟩) (fun _=>rfl) _) (fun b hb e=>by have:=HH.out;omega)⟩⟩;simp [results,Tryz.results181,go_sem,d0]
theorem Q0Y (F:Nat->Prop) (A:Option Addr) (n c:Nat) (l:List Int) (w:World) (hr:Rd w F A n (Qm l)) (ht:Qj l) (hn:n<=2^40) :
   Calls Tryz.prog 200 #[.slice A n c] w fun e w'=>e = .returned (.int .i64 (Qo l:Nat))/\w'=w:=by
 (have hL:l.length=n:=by have:=hr.1;simpa using this)
 have hpos:0<l.length:=by
   have h1:=ht.2.2.1;have h2:=YP l;omega
 (have hnI:(n:Int)<=1099511627776:=by(have:(2:Nat)^40=1099511627776:=by decide);omega);(have hn0:(1:Int)<=n:=by omega)
 have hm:(Qo l:Int)=l.foldl max 0:=by
   have:=(KT l 0).1;unfold Qo;omega
 rw [hm];obtain⟨b0,o0,hk0,rfl,_,hc0⟩:=hr.int (k:=0) (by omega);have hz0:=(ht.1 _ (List.getElem_mem hk0)).1
 have h1:(l.take 1).foldl max 0=l[0]:=by
   rw [show l.take 1=[l[0]] by rw [List.take_succ_eq_append_getElem hk0];simp];simp only [List.foldl_cons,List.foldl_nil];exact Int.max_eq_right hz0
 have HR:=hd_ hr;have HL:=hd_ hL;have H1:=hd_ h1;obtain⟨x0,hx0⟩:=nm_ (l[0]);rw [<-hx0]at hc0 H1;simp only [Nat.add_zero]at hc0;have HP:=hd_ hpos;clear hr hL hn ht hm h1 hx0 hz0 hpos hk0;refine Qg fun R hR=>?_;go_enter Tryz.func200,Tryz.ntmps200;go_wp2_with fail;go_loopg [3,4] (n-1) (fun f vm vi wr=>wr=w/\∃k:Nat,k+f=n/\0<k/\vi = .int .i64 k/\vm = .int .i64 ((l.take k).foldl max 0))
 case atStart=>exact⟨rfl,1,by have:=HP.out;have:=HL.out;omega,by omega,rfl,by rw [H1.out]⟩
 case round =>
   obtain⟨rfl,k,hk,hk0,rfl,rfl⟩:=hrel;have HK:=hd_ hk;have HK0:=hd_ hk0;(have hkI:(k:Int)<=1099511627776:=by omega);by_cases hlt:k<n
   . have hlI:(k:Int)<n:=by omega
     obtain⟨b,o,hkl,hA,_,hc⟩:=HR.out.int (k:=k) hlt;injection hA with hA;injection hA with hb ho;subst hb ho;have HTK:=hd_ (show(l.take (k+1)).foldl max 0=max ((l.take k).foldl max 0) l[k] by rw [List.take_succ_eq_append_getElem hkl,List.foldl_append];rfl);obtain⟨z,hz⟩:=nm_ (l[k]);simp only [<-hz]at hc HTK;obtain⟨S,hS⟩:=nm_ ((l.take k).foldl max 0);simp only [<-hS]at HTK ⊢;clear hz hS hk hk0;by_cases hSz:S<z
     . have HM:=hd_ (show max S z=z by omega)
       go_wp2_with fail;go_roundg (gk-1)
       case measure=>have:=HK.out;omega
       case rel=>exact⟨rfl,k+1,by have:=HK.out;omega,by omega,by go_num,by rw [HTK.out,HM.out]⟩
     have HM:=hd_ (show max S z=S by omega);(have hzS:z<=S:=by omega);go_wp2_with fail;go_roundg (gk-1)
     case measure=>have:=HK.out;omega
     case rel=>exact⟨rfl,k+1,by have:=HK.out;omega,by omega,by go_num,by rw [HTK.out,HM.out]⟩
   (obtain rfl:k=n:=by omega);have htl:l.take k=l:=List.take_of_length_le (by have:=HL.out;omega);rw [htl];clear htl hk hk0 HK;go_wp2_with fail;(try go_ret);exact hR.out _ _ ⟨rfl,rfl⟩
theorem ZR (F:Nat->Prop) (A:Option Addr) (n c:Nat) (l:List Int) (w:World) (hr:Rd w F A n (Qm l)) (hn:n<=2^40) (hc:n<=c) :
   Calls Tryz.prog 151 #[.slice A n c] w fun e w'=>Q0 w w'/\if Qj l then e = .returned (.tuple #[.int .i64 (Qo l:Nat),.int .i64 0])else e = .returned (.tuple #[.int .i64 0,.int .i64 12]):=by
 have hmf:∀(fn:Fn) (first cap:Array Value) (w:World),(Instr.makeFunc fn first cap).run Tryz.prog w = .ok (.func fn first cap) w:=fun _ _ _ _=>rfl;obtain⟨w0,hw0⟩:=nm_ ((w.alloc (.cells #[.int .i64 0] 3)).alloc (.cells #[.int .i64 0] 24));obtain⟨H,hH⟩:=nm_ (w.heap.size);(have f0:Q0 w w0:=by rw [hw0];exact((Upd.refl _ _).alloc _).alloc _);(have bo:Blk w0 H 3 #[.int .i64 0]:=by rw [hw0];exact(Qc hH _ _).alloc _);(have be:Blk w0 (H+1) 24 #[.int .i64 0]:=by rw [hw0];exact Qc (by simp [hH]) _ _);have HOF:=hd_ (KS F A n c l w0 (hr.fresh f0) hn hc);have HCO:=hd_ (fun(ht:Qj l) W (hW:Q0 w0 W)=>Q0Y F A n n l W ((hr.fresh f0).fresh hW) ht hn);have BO:=hd_ bo;have BE:=hd_ be;have F0:=hd_ f0;have HW:=hd_ hw0;have HH:=hd_ hH;(have hsz:(w.alloc (.cells #[.int .i64 0] 3)).heap.size=H+1:=by simp [hH]);clear hr hn hw0 hH f0 bo be hc;(have hfl:∀W,(Instr.field 243 (.agg #[.slice A n n]) 0).run Tryz.prog W = .ok (.slice A n n) W:=fun _=>by kernel_rfl);refine Qg fun R hR=>?_;go_enter_defers Tryz.func151,Tryz.ntmps151;go_upto_region 1 with fail;simp only [hsz,<-HH.out,<-HW.out];clear hsz;by_cases ht:Qj l
 . have HCT:=hd_ (HCO.out ht)
   rw [if_pos ht]at HOF;have HTT:=hd_ ht;clear ht HCO;go_wp2_with fail;refine HOF.out.mono ?_;rintro e w1 ⟨rfl,f1⟩;have hcc:=HCT.out w1 f1;have HCC:=hd_ hcc;have BO1:=hd_ (BO.out.fresh f1);have BE1:=hd_ (BE.out.fresh f1);have F1:=hd_ (F0.out.trans' f1);clear f1 hcc HOF HCT;go_wp2_with fail;refine HCC.out.mono ?_;rintro e w2 ⟨rfl,rfl⟩;have f2:Q0 w2 w2:=Upd.refl _ _;have bo2:=BO1.out.fresh f2;have be2:=BE1.out.fresh f2;have c0:=bo2.cell 0;have z0:=bo2.frozen 0;have c1:=be2.cell 0;have z1:=be2.frozen 0;simp at c0 c1;have F2:=hd_ (F1.out.trans' f2);have BO2:=hd_ bo2;have BE2:=hd_ be2;clear f2 bo2 be2;go_wp2_with fail;change Leaves _ _ _ _ _ _ _;refine leaves_cons (f:=193) (args:=#[.pointer (some ⟨H+1,0,none⟩),.func (.func 199) #[] #[.pointer (some ⟨H,0,none⟩)]]) (by simp) (by simp [go_sem]) ?_;have b2:=(BO2.out.set_ 0 (.int .i64 (Qo l:Nat))).far (p:=⟨H+1,0,none⟩) (by simp) (.int .i64 0);have e2:=(BE2.out.far (p:=⟨H,0,none⟩) (by simp) (.int .i64 (Qo l:Nat))).set_ 0 (.int .i64 0);have d0:=b2.cell 0;have d1:=e2.cell 0;simp at d0 d1;refine(YQ _ _ _).mono ?_;rintro e u' w'' ⟨rfl,rfl,rfl⟩;have us:Upd (fun b=>b=H\/b=H+1) w2 ((w2.setCell ⟨H,0,none⟩ (.int .i64 (Qo l:Nat))).setCell ⟨H+1,0,none⟩ (.int .i64 0)):=((Upd.refl (fun b=>b=H\/b=H+1) w2).setCell (p:=⟨H,0,none⟩) (fun _=>.inl rfl) _).setCell (p:=⟨H+1,0,none⟩) (fun _=>.inr rfl) _;refine⟨.tuple #[.int .i64 (Qo l:Nat),.int .i64 0],?_,hR.out _ _ ⟨F2.out.trans us (fun b hb e=>by have:=HH.out;omega),?_⟩⟩
   . simp [results,Tryz.results151,go_sem,d0,d1]
   rw [if_pos HTT.out]
 rw [if_neg ht]at HOF;have HTT:=hd_ ht;clear ht HCO;go_wp2_with fail;refine HOF.out.mono ?_;rintro e w1 ⟨rfl,f1⟩;have b1:=BO.out.fresh f1;have e1:=BE.out.fresh f1;have F1:=hd_ (F0.out.trans' f1);simp only [Qi];change Leaves _ _ _ _ _ _ _;refine leaves_cons (f:=193) (args:=#[.pointer (some ⟨H+1,0,none⟩),.func (.func 199) #[] #[.pointer (some ⟨H,0,none⟩)]]) (by simp) (by simp [go_sem]) ?_;refine(YK 199 #[.pointer (some ⟨H,0,none⟩)] (fun b=>b=H) (fun W=>Blk W H 3 #[.int .i64 0]) (H+1) 12 _ w1 e1 (by omega) (fun _ _=>rfl) (Q2l H _ w1 b1)).mono ?_;rintro e u' w'' ⟨rfl,rfl,w2,u2,b2,rfl⟩;have e2:=(e1.upd u2 (by omega)).set_ 0 (.int .i64 12);have b3:=b2.far (p:=⟨H+1,0,none⟩) (by simp) (.int .i64 12);have d0:=b3.cell 0;have d1:=e2.cell 0;simp at d0 d1;show Leaves _ _ _ _ [] .returning _;refine⟨.tuple #[.int .i64 0,.int .i64 12],?_,hR.out _ _ ⟨F1.out.trans (u2.mono (T:=fun b=>b=H\/b=H+1) (fun _ _ h=>.inl h) |>.setCell (p:=⟨H+1,0,none⟩) (fun _=>.inr rfl) _) (fun b hb e=>by have:=HH.out;omega),?_⟩⟩
 . simp [results,Tryz.results151,go_sem,d0,d1]
 rw [if_neg HTT.out]
theorem Zw (er:Int) (w:World):Calls Tryz.prog 150 #[.bool true,.int .i64 er] w fun e w'=>e = .returned (.tuple #[])/\w'=w:=by
 refine Qg fun R hR=>?_;go_enter Tryz.func150,Tryz.ntmps150;go_wp2_with fail;(try go_end0);exact hR.out _ _ ⟨rfl,rfl⟩
theorem Q0Z (er:Int) (w:World):Calls Tryz.prog 150 #[.bool false,.int .i64 er] w fun e w'=>e=Qi er/\w'=w:=by
 refine Qg fun R hR=>?_;go_enter Tryz.func150,Tryz.ntmps150;go_wp2_with fail;exact⟨rfl,hR.out _ _ ⟨rfl,rfl⟩⟩
theorem Jg (b c:Nat) (w:World) (h:w.cell? ⟨b,0,none⟩=some (.int .i64 0)):Calls Tryz.prog 95 #[.slice (some ⟨b,0,none⟩) 1 c] w fun e w'=>e = .returned (.tuple #[])/\w'=w:=by
 refine Qg fun R hR=>?_;go_enter Tryz.func95,Tryz.ntmps95;go_wp2_with fail;go_loopg [6] 1 (fun f vi wr=>∃k:Nat,k+f=1/\vi = .int .i64 k/\wr=w)
 case atStart=>exact⟨0,rfl,rfl,rfl⟩
 case round =>
   obtain⟨k,hk,rfl,rfl⟩:=hrel;rcases(show k=0\/k=1 by omega)with rfl|rfl
   . go_wp2_with fail
     go_roundg 0
     case measure=>omega
     case rel=>exact⟨1,rfl,by go_num,rfl⟩
   go_wp2_with fail;(try go_end0);exact hR.out _ _ ⟨rfl,rfl⟩
theorem Xm (er:Int) (b c:Nat) (w:World) (h:w.cell? ⟨b,0,none⟩=some (.int .i64 er)) (her:er≠0):Calls Tryz.prog 95 #[.slice (some ⟨b,0,none⟩) 1 c] w fun e w'=>e=Qi er/\w'=w:=by
 (have h0:(er == 0)=false:=by simpa using her);clear her;refine Qg fun R hR=>?_;go_enter Tryz.func95,Tryz.ntmps95;go_wp2_with fail;go_loopg [6] 1 (fun f vi wr=>f=1/\vi = .int .i64 0/\wr=w)
 case atStart=>exact⟨rfl,rfl,rfl⟩
 case round =>
   obtain⟨rfl,rfl,rfl⟩:=hrel;go_wp2_with fail;exact⟨rfl,hR.out _ _ ⟨rfl,rfl⟩⟩
theorem Kr (F:Nat->Prop) (A:Option Addr) (n c:Nat) (l:List Int) (w:World) (hr:Rd w F A n (Qm l)) (hn:n<=2^40) :
   Calls Tryz.prog 35 #[.slice A n c] w fun e w'=>e = .returned (.bool (decide (Qj l)))/\w=w':=by
 (have hL:l.length=n:=by have:=hr.1;simpa using this);(have hnI:(n:Int)<=1099511627776:=by(have:(2:Nat)^40=1099511627776:=by decide);omega);have HR:=hd_ hr;have HL:=hd_ hL;clear hr hn;refine Qg fun R hR=>?_;by_cases hbig:256<n
 . have hbI:256<(n:Int):=by omega
   rw [decide_eq_false (show ¬Qj l from fun h=>by have:=h.2.1;omega)]at hR;clear hL hbig;go_enter Tryz.func35,Tryz.ntmps35;go_wp2_with fail;(try go_ret);exact hR.out _ _ ⟨rfl,rfl⟩
 (have hbI:¬256<(n:Int):=by omega);have HBG:=hd_ hbig;clear hL hbig;go_enter Tryz.func35,Tryz.ntmps35;go_wp2_with fail;go_loopg [3,4,5] n (fun f vs vm vi wr=>wr=w/\∃k:Nat,k+f=n/\vi = .int .i64 k/\vs = .int .i64 (Qy (l.take k))/\vm = .int .i64 (Y6 (l.take k):Nat)/\∀x∈l.take k,0<=x/\x<=11)
 case atStart=>exact⟨rfl,0,by omega,rfl,by simp [Qy],by simp [Y6],by simp⟩
 case round =>
   obtain⟨rfl,k,hk,rfl,rfl,rfl,hall⟩:=hrel;have HK:=hd_ hk;have HA:=hd_ hall;have hk1:=JP (l.take k);have hk2:=YP (l.take k);have hk3:=List.length_take_le k l;(have hkI:(k:Int)<=1099511627776:=by omega);by_cases hlt:k<n
   . have hlI:(k:Int)<n:=by omega
     obtain⟨b,o,hkl,rfl,_,hc⟩:=HR.out.int (k:=k) hlt;have HKT:=hd_ (ZQ hkl);have HUT:=hd_ (Kn hkl);have HNO:=hd_ (Vb hkl);have HTK:=hd_ (show l.take (k+1)=l.take k++[l[k]]from List.take_succ_eq_append_getElem hkl);obtain⟨z,hz⟩:=nm_ (l[k]);simp only [<-hz]at hc HKT HUT HNO HTK;obtain⟨S,hS⟩:=nm_ (Qy (l.take k));obtain⟨M,hM⟩:=nm_ (Y6 (l.take k));simp only [<-hS,<-hM]at HKT HUT hk1 hk2 ⊢;(have hSI:0<=S/\S<=2251799813685248:=by omega);(have hMI:(M:Int)<=1099511627776:=by omega);clear hz hS hM hk hall hk1 hk2 hk3;by_cases h0:z<0
     . have hd:decide (Qj l)=false:=decide_eq_false (HNO.out (by omega))
       rw [hd]at hR;clear hd;go_wp2_with fail;(try go_ret);exact hR.out _ _ ⟨rfl,rfl⟩
     by_cases h11:11<z
     . have hd:decide (Qj l)=false:=decide_eq_false (HNO.out (by omega))
       rw [hd]at hR;clear hd;go_wp2_with fail;(try go_ret);exact hR.out _ _ ⟨rfl,rfl⟩
     have HZ:=hd_ (And.intro h0 h11);by_cases hp:0<z
     . obtain⟨q,rfl⟩:∃q:Nat,z=q:=⟨z.toNat,by omega⟩
       (have hpk:YC (q:Int)=((2^(11-q):Nat):Int):=by unfold YC;rw [if_pos hp,Int.toNat_natCast];simp);(have hq11:q<=11:=by omega);have hP:2^(11-q)<=2048:=Nat.pow_le_pow_right (n:=2) (by decide) (show 11-q<=11 by omega);rw [hpk]at HKT;rw [if_pos hp]at HUT
       have hd:(2048:Int) / 2^q=((2^(11-q):Nat):Int):=by
         (have:(2048:Nat)=2^(11-q)*2^q:=by rw [<-Nat.pow_add,show 11-q+q=11 by omega])
         have h2:(2048:Nat) / 2^q=2^(11-q):=by
           rw [this];exact Nat.mul_div_cancel _ (Nat.two_pow_pos q)
         rw [<-h2];simp
       obtain⟨P,hPd⟩:=nm_ (2^(11-q));rw [<-hPd]at hd hP HKT;(have hPI:(P:Int)<=2048:=by omega);clear hpk hP hPd;go_wp2_with fail;go_roundg (gk-1)
       case measure=>have:=HK.out;omega
       case rel=>exact⟨rfl,k+1,by have:=HK.out;omega,by go_num,by rw [HKT.out],by rw [HUT.out];simp,by rw [HTK.out];intro x hx;rcases List.mem_append.1 hx with h|h;exact HA.out x h;rw [List.mem_singleton.1 h];omega⟩
     (have hz0:z=0:=by omega);subst hz0;rw [show YC 0=0 from rfl,Int.add_zero]at HKT;rw [if_neg (by omega),Nat.add_zero]at HUT;clear h0 h11 hp;go_wp2_with fail;go_roundg (gk-1)
     case measure=>have:=HK.out;omega
     case rel=>exact⟨rfl,k+1,by have:=HK.out;omega,by go_num,by rw [HKT.out],by rw [HUT.out];simp,by rw [HTK.out];intro x hx;rcases List.mem_append.1 hx with h|h;exact HA.out x h;rw [List.mem_singleton.1 h];omega⟩
   (obtain rfl:k=n:=by omega);have htl:l.take k=l:=List.take_of_length_le (by have:=HL.out;omega);rw [htl]at hall ⊢
   have hdt:decide (Qj l)=(decide (1<Y6 l)&&decide (Qy l=2048)):=by
     rw [Bool.eq_iff_iff];simp only [decide_eq_true_eq,Bool.and_eq_true];have:=HL.out;have:=HBG.out;unfold Qj;constructor
     . rintro⟨-,h2,h3,h4⟩;exact⟨h3,h4⟩
     rintro⟨h3,h4⟩;exact⟨hall,by omega,h3,h4⟩
   rw [hdt]at hR;obtain⟨S,hS⟩:=nm_ (Qy l);obtain⟨M,hM⟩:=nm_ (Y6 l);simp only [<-hS,<-hM]at hR ⊢;clear hk1 hk2 hk3 hall HA hdt hS hM htl hk hlt HK;by_cases h2:1<M
   . rw [decide_eq_true h2]at hR
     (have h2I:2<=(M:Int):=by omega);by_cases h3:S=2048
     . rw [decide_eq_true h3]at hR
       subst h3;go_wp2_with fail;(try go_ret);exact hR.out _ _ ⟨rfl,rfl⟩
     rw [decide_eq_false h3]at hR;(have h3b:(S == 2048)=false:=by simpa using h3);go_wp2_with fail;(try go_ret);exact hR.out _ _ ⟨rfl,rfl⟩
   rw [decide_eq_false h2]at hR;(have h2I:¬2<=(M:Int):=by omega);go_wp2_with fail;(try go_ret);exact hR.out _ _ ⟨rfl,rfl⟩
def JQ (L:List Nat):List Value:=L.map fun x=>.int .i64 (x:Nat)
theorem Q01 (L:List Nat) (x:Nat):JQ (L++[x])=JQ L++[.int .i64 (x:Nat)]:=by simp [JQ]
@[simp] theorem Zx (L:List Nat):(JQ L).length=L.length:=by simp [JQ]
def KU (w W:World) (v:Value) (L:List Nat):Prop:=Own W 3 v (JQ L)/\Q0 w W/\∀b,v.ownBlock=some b->w.heap.size<=b
theorem KU.snoc {w w1 w2 w3:World} {v v':Value} {L:List Nat} {x:Nat} (h:KU w w1 v L) (f:Q0 w1 w2) (ho:Own w3 3 v' (JQ L++[.int .i64 (x:Nat)])) (hg:w2.grownBy w3 v.ownBlock) (ha:v'.ownBlock=v.ownBlock\/v'.ownBlock=some w2.heap.size):KU w w3 v' (L++[x]) :=
 ⟨by rw [Q01];exact ho,(h.2.1.trans' f).grown hg (fun k hk hlt=>by have:=h.2.2 k hk;omega),YD (S:=fun k=>w.heap.size<=k) ha (fun k hk=>h.2.2 k hk) (h.2.1.trans' f).size⟩
theorem XE {l:List Int} {n q i:Nat} (hl:l.length=n) (hq:q<=11) (hi:i<=n):((List.range q).flatMap (Y7 l)++(List.range i).filter fun s=>decide ((Qh l s).1=q+1)).length<=11*n+n:=by
 have h1:∀q,((List.range q).flatMap (Y7 l)).length<=q*n:=by
   intro q
   induction q with
   | zero=>simp
   | succ q ih =>
     rw [List.range_succ,List.flatMap_append,List.length_append]
     have:([q].flatMap (Y7 l)).length<=n:=by
       simp only [List.flatMap_cons,List.flatMap_nil,List.append_nil,Y7];have:=List.length_filter_le (fun s=>decide ((Qh l s).1=q+1)) (List.range l.length);rw [List.length_range]at this;omega
     rw [Nat.add_mul];omega
 have h2:=List.length_filter_le (fun s=>decide ((Qh l s).1=q+1)) (List.range i);rw [List.length_range]at h2;have h3:=h1 q;have h4:q*n<=11*n:=Nat.mul_le_mul_right _ hq;rw [List.length_append];omega
theorem Q02 (F:Nat->Prop) (A:Option Addr) (n c:Nat) (l:List Int) (w:World) (hr:Rd w F A n (Qm l)) (ht:Qj l) :
   Calls Tryz.prog 157 #[.slice A n c] w fun e w'=>∃v,e = .returned v/\KU w w' v (Qq l):=by
 (have hL:l.length=n:=by have:=hr.1;simpa using this);(have hn:n<=256:=by have:=ht.2.1;omega);have HRD:=hd_ hr;have HL:=hd_ hL;have HN:=hd_ hn;(have hnI:(n:Int)<=256:=by omega);have HCL:=hd_ (fun s=>YR ht s);have HOR:=hd_ (show Qq l=(List.range 11).flatMap (Y7 l)from rfl);obtain⟨O,hO⟩:=nm_ (Qq l);rw [<-hO]at HOR ⊢;clear hr hL hn ht hO;refine Qg fun R hR=>?_;go_enter Tryz.func157,Tryz.ntmps157;go_wp2_with fail;go_loopg [3,4] 11 (fun f vo vn wr=>∃q,q+f=11/\vn = .int .i64 ((q+1:Nat):Int)/\KU w wr vo ((List.range q).flatMap (Y7 l)))
 case atStart=>exact⟨0,rfl,rfl,Own.nil _ _,Upd.refl _ _,by simp [Value.ownBlock]⟩
 case round =>
   obtain⟨q,hq,rfl,hO⟩:=hrel;by_cases hlt:q<11
   . have hqI:((q+1:Nat):Int)<=11:=by omega
     have HO:=hd_ hO;have HQ:=hd_ (And.intro hq hlt);obtain⟨N,hN⟩:=nm_ (q+1);rw [<-hN]at hqI ⊢;have HN2:=hd_ hN;clear hO hq hlt hN;go_wp2_with fail;go_loopg [3,5] n (fun f vo vi wx=>∃i,i+f=n/\vi = .int .i64 (i:Nat)/\KU w wx vo ((List.range q).flatMap (Y7 l)++(List.range i).filter fun s=>decide ((Qh l s).1=q+1)))
     case atStart=>exact⟨0,by omega,rfl,by simpa using HO.out⟩
     case round =>
       obtain⟨i,hi,rfl,hO2⟩:=hrel;by_cases hlt:i<n
       . have hiI:(i:Int)<n:=by omega
         obtain⟨b,o,hkl,rfl,_,hc⟩:=(HRD.out.fresh hO2.2.1).int (k:=i) hlt;have HO2:=hd_ hO2;have HI:=hd_ (And.intro hi hlt);obtain⟨z,hz⟩:=nm_ (l[i]);rw [<-hz]at hc
         have HZ:=hd_ (show((Qh l i).1:Int)=if 0<z then z else 0 by
           have:=HCL.out i;rw [List.getElem?_eq_getElem hkl,<-hz]at this;simp only [Option.getD_some]at this
           rw [this];split<;>omega)
         have HOL:=hd_ (show((List.range q).flatMap (Y7 l)++(List.range i).filter fun s=>decide ((Qh l s).1=q+1)).length<=11*n+n from XE HL.out (by have:=HQ.out;omega) (by omega));have HRG:=hd_ (show List.range (i+1)=List.range i++[i]from List.range_succ);clear hO2 hi hlt hz;by_cases he:z=N
         . subst he
           obtain⟨A3,n3,c3,rfl,hn3⟩:=HO2.out.1.form';have HOE:=hd_ HO2.out;clear hn3;obtain⟨P,hP⟩:=nm_ (wr.heap.size);obtain⟨w2,hw2⟩:=nm_ (wr.alloc (.cells #[.int .i64 (i:Nat)] 3));(have f2:Q0 wr w2:=by rw [hw2];exact(Upd.refl _ _).alloc _);(have b2:Blk w2 P 3 #[.int .i64 (i:Nat)]:=by rw [hw2];exact Qc hP _ _);have RB:=hd_ (show Rd w2 (fun _=>True) (some ⟨P,0,none⟩) 1 [.int .i64 (i:Nat)]from by simpa using Blk.rds b2);have F2:=hd_ f2;have HW2:=hd_ hw2;have HP2:=hd_ hP;clear f2 b2 hw2 hP;go_wp2_with (at_builtin;simp only [<-HP2.out,<-HW2.out];go_must (refine Qt _ rfl (.tmp 22) (.tmp 24) _ rfl 3 _ 8 Tryz.underlying33 KV rfl (.slice A3 n3 c3) _ rfl (HO2.out.1.fresh F2.out) (some ⟨P,0,none⟩) 1 1 [.int .i64 (i:Nat)] rfl RB.out (by simp [Value.oneCell']) (by omega) ?_ ?_))
           . rw [Zx]
             have:=HOL.out;omega
           intro v3 w3 ho hg ha;have E3:=hd_ (HO2.out.snoc F2.out ho hg ha);clear ho hg ha HOE RB F2 HW2 HP2;go_wp2_with fail;go_roundg (gk-1)
           case measure=>have:=HI.out;omega
           case rel =>
             refine⟨i+1,by have:=HI.out;omega,by go_num,?_⟩;have hz:=HZ.out;rw [HRG.out,List.filter_append,<-List.append_assoc,List.filter_cons,if_pos (by rw [if_pos (by have:=HN2.out;omega)]at hz;have:=HN2.out;simp;omega)];exact E3.out
         (have he2:(z == N)=false:=by simpa using he);have HE:=hd_ he;clear he;go_wp2_with fail;go_roundg (gk-1)
         case measure=>have:=HI.out;omega
         case rel =>
           refine⟨i+1,by have:=HI.out;omega,by go_num,?_⟩;have hz:=HZ.out;rw [HRG.out,List.filter_append,<-List.append_assoc,List.filter_cons,if_neg (by have:=HN2.out;have:=HE.out;split at hz<;>simp<;>omega)];simpa using HO2.out
       (have hin:i=n:=by omega);subst hin;have HO2:=hd_ hO2;clear hO2 hi hlt;go_wp2_with fail;go_roundg (10-q)
       case measure=>have:=HQ.out;omega
       case rel =>
         refine⟨q+1,by have:=HQ.out;omega,by rw [HN2.out];go_num,?_⟩;have h:=HO2.out;rw [List.range_succ,List.flatMap_append];(have e:[q].flatMap (Y7 l)=(List.range i).filter fun s=>decide ((Qh l s).1=q+1):=by simp [Y7,HL.out]);rw [e];exact h
   (have h11:q=11:=by omega);subst h11;have HO:=hd_ hO;clear hO hq hlt;go_wp2_with fail;(try go_ret);exact hR.out _ _ ⟨_,rfl,by rw [HOR.out];exact HO.out⟩
end Go.Proofs.YtckjdhaflokcgaaGreat
