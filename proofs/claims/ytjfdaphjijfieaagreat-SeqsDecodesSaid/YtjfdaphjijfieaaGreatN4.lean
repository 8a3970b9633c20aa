/-
  Joined texts, part 4: contracts and plain lemmas.
  Conditions: none beyond those of each theorem.
-/
import Derived.Test.YtjfdaphjijfieaaGreatRows
import Derived.Test.YtjfdaphjijfieaaGreatN3
import Derived.Test.YtjfdaphjijfieaaGreatN1
set_option maxHeartbeats 4000000
set_option linter.unusedVariables false
set_option linter.unusedSimpArgs false
set_option maxRecDepth 100000
universe u
namespace Go.Proofs.YtjfdaphjijfieaaGreat
open Go.RowKit
theorem Q6v:(Tryz.prog.info? 5).map (fun i=>(i.zero,i.size,i.bytes))=some (some (.int .u8 0),1,1):=by kernel_rfl
theorem Yx:(Tryz.prog.info? 3).map (fun i=>(i.zero,i.size,i.bytes))=some (some (.int .i64 0),1,8):=by kernel_rfl
theorem Q0r:(Tryz.prog.info? 4).map (fun i=>(i.zero,i.size,i.bytes))=some (some (.bool false),1,1):=by kernel_rfl
theorem YJ {k:IntKind} {a b:Int} (h:a=b):Ending.returned (.int k a) = .returned (.int k b):=by rw [h]
def QZ (n:Int):Int:=if n<0 then -n else n
def QY (l:List Int):Int:=l.foldr (fun n s=>QZ n+s) 0
def Qg (lg:Int) (N:List Int) (sy lb:Int):Prop :=
  0<=lg/\lg<=lb/\lg<=9/\0<N.length/\(N.length:Int)<=sy/\N[N.length-1]?≠some 0/\(∀n∈N,-1<=n)/\QY N=2^lg.toNat
instance (lg:Int) (N:List Int) (sy lb:Int):Decidable (Qg lg N sy lb):=by unfold Qg;infer_instance
theorem Yy (n:Int) (l:List Int):QY (n::l)=QZ n+QY l:=rfl
theorem Zc:∀a b:List Int,QY (a++b)=QY a+QY b
 | [],b=>by simp [QY]
 | x::a,b=>by rw [List.cons_append,Yy,Yy,Zc a b];omega
theorem JG (n:Int):0<=QZ n:=by unfold QZ;split<;>omega
theorem YX:∀l:List Int,0<=QY l
 | []=>by simp [QY]
 | x::l=>by have:=YX l;have:=JG x;rw [Yy];omega
theorem Kc (l:List Int) (k:Nat) (h:k<l.length):QY (l.take (k+1))=QY (l.take k)+QZ l[k]:=by
 rw [List.take_succ_eq_append_getElem h,Zc];simp [QY]
theorem ZI (l:List Int) (k:Nat):QY (l.take k)<=QY l:=by
 have h:=Zc (l.take k) (l.drop k);rw [List.take_append_drop]at h;have:=YX (l.drop k);omega
def Q1 (N:List Int):List Value:=N.map (Value.int .i64)
@[simp] theorem QU (N:List Int):(Q1 N).length=N.length:=by simp [Q1]
theorem VE {N:List Int} {k:Nat} (h:k<N.length):(Q1 N)[k]?=some (.int .i64 N[k]):=by simp [Q1,h]
theorem Rd.int {w:World} {F:Nat->Prop} {A:Option Addr} {n:Nat} {N:List Int} (h:Rd w F A n (Q1 N)) {k:Nat} (hk:k<n) :
   ∃(b o:Nat) (hk':k<N.length),A=some ⟨b,o,none⟩/\b<w.heap.size/\w.cell? ⟨b,o+k,none⟩=some (.int .i64 N[k]):=by
 obtain⟨b,o,e,_,hb,hc⟩:=h.at_ hk;(have hk':k<N.length:=by have:=h.1;simp at this;omega);exact⟨b,o,hk',e,hb,by rw [hc,VE hk']⟩
def Fit (N:List Int):Prop:=∀n∈N,-9223372036854775808<=n/\n<=9223372036854775807
theorem Q2L (F:Nat->Prop) (A:Option Addr) (n c:Nat) (lg sy lb:Int) (N:List Int) (w:World) (hr:Rd w F A n (Q1 N)) (hn:(n:Int)<=1099511627776)
   (h:lg<0\/lb<lg\/9<lg\/n=0\/sy<n\/N[n-1]?=some 0) :
   Calls Tryz.prog 171 #[.agg #[.int .i64 lg,.slice A n c],.int .i64 sy,.int .i64 lb] w fun e w'=>e = .returned (.int .i64 13)/\Q0 w w':=by
 have fr:Q0 w (w.alloc (.cells #[.int .i64 lg,.slice A n c] 29)):=(Upd.refl _ _).alloc _;have FR:=hd_ fr;clear fr;by_cases h1:lg<0
 . clear h
   go_enter Tryz.func171,Tryz.ntmps171;go_wp2;(all_goals(go_ret;exact⟨rfl,FR.out⟩))
 by_cases h2:lb<lg\/9<lg
 . clear h
   by_cases h3:lb<=9
   . have h4:lb<lg:=by omega
     clear h2;go_enter Tryz.func171,Tryz.ntmps171;go_wp2;go_ret;exact⟨rfl,FR.out⟩
   (have h4:9<lg:=by omega);clear h2;go_enter Tryz.func171,Tryz.ntmps171;go_wp2;go_ret;exact⟨rfl,FR.out⟩
 (have a1:0<=lg:=by omega);(have a2:lg<=lb:=by omega);(have a3:lg<=9:=by omega);(have a4:lg<=min lb 9:=by omega);by_cases h3:n=0
 . clear h h1 h2
   subst h3;go_enter Tryz.func171,Tryz.ntmps171;go_wp2;(all_goals(go_ret;exact⟨rfl,FR.out⟩))
 (have b1:0<n:=by omega);(have b2:((n:Int) == 0)=false:=by simp;omega);by_cases h4:sy<n
 . clear h h1 h2 h3
   go_enter Tryz.func171,Tryz.ntmps171;go_wp2;(all_goals(go_ret;exact⟨rfl,FR.out⟩))
 (have b3:(n:Int)<=sy:=by omega)
 have h5:N[n-1]?=some 0:=by
   rcases h with h|h|h|h|h|h;(all_goals first|exact h|omega)
 clear h h1 h2 h3 h4;obtain⟨b,o,hk,rfl,hb,hc⟩:=hr.int (k:=n-1) (by omega);(have e0:N[n-1]=0:=by rw [List.getElem?_eq_getElem hk]at h5;simpa using h5);rw [e0]at hc
 have hc':(w.alloc (.cells #[.int .i64 lg,.slice (some ⟨b,o,none⟩) n c] 29)).cell? ⟨b,o+(n-1),none⟩=some (.int .i64 0):=by
   rw [World.cell?_alloc_lt _ _ _ hb];exact hc
 clear hc h5 e0;go_enter Tryz.func171,Tryz.ntmps171;go_wp2;(all_goals(go_ret;exact⟨rfl,FR.out⟩))
theorem Q2M (F:Nat->Prop) (A:Option Addr) (n c:Nat) (lg sy lb:Int) (N:List Int) (w:World) (hr:Rd w F A n (Q1 N)) (hfit:Fit N) (hn:(n:Int)<=1099511627776)
   (a1:0<=lg) (a2:lg<=lb) (a3:lg<=9) (b1:0<n) (b3:(n:Int)<=sy) (hlast:N[n-1]?≠some 0) :
   Calls Tryz.prog 171 #[.agg #[.int .i64 lg,.slice A n c],.int .i64 sy,.int .i64 lb] w fun e w' =>
     e = .returned (.int .i64 (if(∀n∈N,-1<=n)/\QY N=2^lg.toNat then 0 else 13))/\Q0 w w':=by
 (have hN:N.length=n:=by have:=hr.1;simpa using this);(have a4:lg<=min lb 9:=by omega);(have b2:((n:Int) == 0)=false:=by simp;omega);obtain⟨b,o,hk,rfl,hb,hc⟩:=hr.int (k:=n-1) (by omega)
 have e0:(N[n-1] == 0)=false:=by
   rw [List.getElem?_eq_getElem hk]at hlast;simpa using hlast
 obtain⟨z,hz⟩:=nm_ (N[n-1]);rw [<-hz]at hc e0;clear hlast hz;obtain⟨w1,hw1⟩:=nm_ (w.alloc (.cells #[.int .i64 lg,.slice (some ⟨b,o,none⟩) n c] 29))
 have hc':(w.alloc (.cells #[.int .i64 lg,.slice (some ⟨b,o,none⟩) n c] 29)).cell? ⟨b,o+(n-1),none⟩=some (.int .i64 z):=by
   rw [World.cell?_alloc_lt _ _ _ hb];exact hc
 (have hr1:Rd w1 F (some ⟨b,o,none⟩) n (Q1 N):=by rw [hw1];exact hr.alloc _);(have fr:Q0 w w1:=by rw [hw1];exact(Upd.refl _ _).alloc _);have FR:=hd_ fr;have HW:=hd_ hw1;have HR:=hd_ hr1;have HN:=hd_ hN;have HF:=hd_ hfit;clear hc fr hr hr1 hN hw1 hk hfit;obtain⟨p,hp,hp9⟩:∃p:Nat,lg=p/\p<=9:=⟨lg.toNat,by omega,by omega⟩;subst hp
 have hpow:(2:Int)^p<=512:=by
   have:2^p<=2^9:=Nat.pow_le_pow_right (by omega) hp9;(have h2:((2:Int)^p)=((2^p:Nat):Int):=by simp);omega
 have hpow0:(0:Int)<(2:Int)^p:=Int.pow_pos (by omega);simp only [Int.toNat_natCast];refine Q6 fun R hR=>?_;go_enter Tryz.func171,Tryz.ntmps171;go_wp2
 all_goals
   rw [<-HW.out];go_loopg [7,50] n (fun m l i wr=>wr=w1/\∃k:Nat,k+m=n/\i = .int .i64 k/\l = .int .i64 (2^p-QY (N.take k))/\0<=2^p-QY (N.take k)/\∀x∈N.take k,-1<=x)
   case atStart=>exact⟨rfl,0,by omega,rfl,by simp [QY],by simp [QY];omega,by simp⟩
   case round =>
     obtain⟨rfl,k,hk,rfl,rfl,hl0,hall⟩:=hrel;have hs0:=YX (N.take k);obtain⟨L,hL⟩:=nm_ (2^p-QY (N.take k));(have hL0:0<=L:=by omega);(have hL1:L<=512:=by omega);rw [<-hL];have HA:=hd_ hall;have HS:=hd_ hL;clear hall hL hl0 hs0;by_cases hlt:k<n
     . have hkn:k<N.length:=by have:=HN.out;omega
       have hst:=Kc N k hkn;have hfk:=HF.out N[k] (List.getElem_mem hkn);have hgt:=List.take_succ_eq_append_getElem hkn;have hle:=ZI N (k+1);have hmem:=List.getElem_mem hkn;obtain⟨b',o',_,e,_,hc⟩:=HR.out.int (k:=k) hlt;injection e with e;injection e with e1 e2;subst e1 e2;obtain⟨z,hz⟩:=nm_ (N[k]);rw [<-hz]at hst hfk hgt hc hmem;have hr1:=HW.out;have Hst:=hd_ hst;have Hgt:=hd_ hgt;have Hmem:=hd_ hmem;have Hle:=hd_ hle;clear hz hst hgt hr1 hmem hle;obtain⟨hf1,hf2⟩:=hfk;have HK:=hd_ hk;clear hk;by_cases hz1:z < -1
       . clear hf1 hf2
         go_wp2;(try go_ret);refine hR.out _ _ ⟨YJ (if_neg fun h=>?_).symm,FR.out⟩;have:=h.1 z Hmem.out;omega
       by_cases hz2:z<0
       . obtain rfl:z=-1:=by omega
         have ha:QZ (-1)=1:=rfl;have HA1:=hd_ ha;clear ha;by_cases hz3:L<1
         . go_wp2
           (try go_ret);refine hR.out _ _ ⟨YJ (if_neg fun h=>?_).symm,FR.out⟩;have h1:=Hle.out;rw [Hst.out,HA1.out,h.2]at h1;have:=HS.out;omega
         go_wp2;go_roundg (gk-1)
         case measure=>have:=HK.out;omega
         case rel =>
           have h1:=Hst.out;rw [HA1.out]at h1;have h2:=HS.out
           exact⟨rfl,k+1,by have:=HK.out;omega,by go_num,by rw [h1];congr 1;omega,by rw [h1];omega,by
             rw [Hgt.out];intro x hx;rcases List.mem_append.1 hx with hx|hx
             . exact HA.out x hx
             simp at hx;omega⟩
       (have ha:QZ z=z:=by unfold QZ;rw [if_neg (by omega)]);have HA1:=hd_ ha;clear ha;by_cases hz3:L<z
       . go_wp2
         (try go_ret);refine hR.out _ _ ⟨YJ (if_neg fun h=>?_).symm,FR.out⟩;have h1:=Hle.out;rw [Hst.out,HA1.out,h.2]at h1;have:=HS.out;omega
       go_wp2;go_roundg (gk-1)
       case measure=>have:=HK.out;omega
       case rel =>
         have h1:=Hst.out;rw [HA1.out]at h1;have h2:=HS.out
         exact⟨rfl,k+1,by have:=HK.out;omega,by go_num,by rw [h1];congr 1;omega,by rw [h1];omega,by
           rw [Hgt.out];intro x hx;rcases List.mem_append.1 hx with hx|hx
           . exact HA.out x hx
           simp at hx;omega⟩
     (obtain rfl:k=n:=by omega);have hN:=HN.out;have e1:N.take N.length=N:=List.take_length;rw [<-hN]at HS HA;have hS:=HS.out;have hA:=HA.out;rw [e1]at hS hA;have HS1:=hd_ hS;have HA1:=hd_ hA;clear hS hA HS HA hN e1;by_cases hz:L=0
     . subst hz
       go_wp2;(try go_ret);refine hR.out _ _ ⟨YJ (if_pos ⟨HA1.out,?_⟩).symm,FR.out⟩;have:=HS1.out;omega
     (have hz':(L != 0)=true:=by simpa using hz);go_wp2;(try go_ret);refine hR.out _ _ ⟨YJ (if_neg fun h=>?_).symm,FR.out⟩;have:=HS1.out;rw [h.2]at this;omega
theorem KV (F:Nat->Prop) (A:Option Addr) (n c:Nat) (lg sy lb:Int) (N:List Int) (w:World) (hr:Rd w F A n (Q1 N)) (hfit:Fit N) (hn:(n:Int)<=1099511627776) :
   Calls Tryz.prog 171 #[.agg #[.int .i64 lg,.slice A n c],.int .i64 sy,.int .i64 lb] w fun e w' =>
     e = .returned (.int .i64 (if Qg lg N sy lb then 0 else 13))/\Q0 w w':=by
 (have hN:N.length=n:=by have:=hr.1;simpa using this);by_cases h:lg<0\/lb<lg\/9<lg\/n=0\/sy<n\/N[n-1]?=some 0
 . refine(Q2L F A n c lg sy lb N w hr hn h).mono ?_
   rintro e w' ⟨he,hf⟩;refine⟨?_,hf⟩;rw [he,if_neg];rintro⟨h1,h2,h3,h4,h5,h6,_⟩;rw [hN]at h4 h5 h6;rcases h with h|h|h|h|h|h;(all_goals first|omega|exact h6 h)
 refine(Q2M F A n c lg sy lb N w hr hfit hn (by omega) (by omega) (by omega) (by omega) (by omega) (fun e=>h (by simp [e]))).mono ?_;rintro e w' ⟨he,hf⟩;refine⟨?_,hf⟩;rw [he];apply YJ;by_cases hh:(∀n∈N,-1<=n)/\QY N=2^lg.toNat
 . rw [if_pos hh,if_pos]
   exact⟨by omega,by omega,by omega,by omega,by omega,by rw [hN];exact fun e=>h (by simp [e]),hh.1,hh.2⟩
 rw [if_neg hh,if_neg];exact fun h'=>hh h'.2.2.2.2.2.2
def Q6S (w:World) (S:Nat->Prop) (g:Nat) (l:List Bool):Prop :=
  ∃(v n:Nat) (sv:Value) (bs:List Nat),Blk w g 165 #[.int .u64 v,.int .i64 n,sv]/\Own w 5 sv (bs.map fun b=>.int .u8 (b:Nat))/\n<8/\v<2^n /\
    (∀b∈bs,b<256)/\l=Q9 bs++QD n v/\S g/\∀k,sv.ownBlock=some k->S k
def Q6Z (w:World) (S:Nat->Prop) (g:Nat) (l:List Bool) (n:Nat):Prop :=
  ∃(v:Nat) (sv:Value) (bs:List Nat),Blk w g 165 #[.int .u64 v,.int .i64 n,sv]/\Own w 5 sv (bs.map fun b=>.int .u8 (b:Nat))/\v<2^n /\
    (∀b∈bs,b<256)/\l=Q9 bs++QD n v/\S g/\∀k,sv.ownBlock=some k->S k
theorem JF {F:Nat->Prop} (A:Option Addr) (n c:Nat) (xs:List Value) (w:World) (hr:Rd w F A n xs) (h1:∀u∈xs,u.oneCell'=true) (hn:n<=2^40) :
   Calls Tryz.prog 33 #[.slice A n c] w fun e w'=>∃v,e = .returned v/\Own w' 5 v xs/\Q0 w w'/\∀k,v.ownBlock=some k->w.heap.size<=k:=by
 have q:∀(w:World) (a:Option Addr) (n c n' c':Nat),(binOp .eql 26 (.slice a n c) (.slice none n' c')).run Tryz.prog w = .ok (.bool a.isNone) w :=
   fun w a n c n' c'=>Lib.run_eql_slice_nil w _ _ a n c n' c' Tryz.underlying26
 rcases A with _|ad
 . have hx:n=0:=by
     rcases Nat.eq_zero_or_pos n with h|h
     . exact h
     obtain⟨_,_,h,_⟩:=hr.2 h;cases h
   subst hx;have hxs:xs=[]:=List.eq_nil_of_length_eq_zero hr.1;subst hxs;go_enter Tryz.func33,Tryz.ntmps33;go_wp2;go_ret;exact⟨_,rfl,Own.nil _ _,Upd.refl _ _,by simp [Value.ownBlock]⟩
 have o0:Own (w.alloc (.cells #[] 5)) 5 (.slice (some ⟨w.heap.size,0,none⟩) 0 0) []:=World.ownsRow_made w #[] 0 (Nat.zero_le _) (by simp [maxLen]) (by simp);have hlen:n<=1099511627776:=hn;clear hn;go_enter Tryz.func33,Tryz.ntmps33;go_wp2_with (at_builtin;go_must (refine Yl _ rfl (.tmp 5) (.tmp 6) _ rfl 5 _ 1 Tryz.underlying26 Q6v rfl _ [] rfl o0 _ n _ _ rfl (hr.alloc _) h1 (by omega) (by simpa using hlen) ?_));intro v' w1 o1 g1 a1;go_wp2;go_ret;exact⟨v',rfl,by simpa using o1,((Upd.refl _ _).alloc _).grown g1 (fun k hk hlt=>by simp [Value.ownBlock]at hk;omega),Zb (S:=fun k=>w.heap.size<=k) a1 (fun k hk=>by simp [Value.ownBlock]at hk;omega) (by simp)⟩
theorem Q1E (x y q k:Nat) (hx:x<2^q) (hy:y<2^k) (h:q+k<=64) :
   bits .or .u64 (x:Int) (IntKind.u64.wrap ((y:Int)*2^q))=((x+y*2^q:Nat):Int):=by
 have h1:y*2^q<2^k*2^q:=Nat.mul_lt_mul_of_pos_right hy (Nat.two_pow_pos q);(have h2:2^k*2^q<=2^64:=by rw [<-Nat.pow_add];exact Nat.pow_le_pow_right (by omega) (by omega));have h3:2^q<=2^64:=Nat.pow_le_pow_right (by omega) (by omega);rw [IntKind.wrap_u64,show((y:Int)*2^q)=((y*2^q:Nat):Int) by simp,show((y*2^q:Nat):Int)%18446744073709551616=((y*2^q:Nat):Int) by omega];rw [u64_or_nat _ _ (by omega) (by omega),Nat.or_comm,nat_join q _ _ (by simp) hx,Nat.add_comm]
theorem Q55 (b s k:Nat) (hb:b<256) (hk:k<=8) :
   bits .and .u64 ((b:Int) / 2^s) (IntKind.u64.wrap (IntKind.u64.wrap (2^k)-1))=((b / 2^s%2^k:Nat):Int):=by
 have h1:2^k<=2^8:=Nat.pow_le_pow_right (by omega) hk;have h3:=Nat.two_pow_pos k
 have e1:IntKind.u64.wrap (IntKind.u64.wrap (2^k)-1)=((2^k-1:Nat):Int):=by
   rw [IntKind.wrap_u64,IntKind.wrap_u64,show(2:Int)^k=((2^k:Nat):Int) by simp];omega
 have h4:b / 2^s<=b:=Nat.div_le_self _ _;rw [e1,show(b:Int) / 2^s=((b / 2^s:Nat):Int) by simp,u64_and_nat _ _ (by omega) (by omega),Nat.and_two_pow_sub_one_eq_mod]
theorem Q2N (F:Nat->Prop) (pa pq pn pv pr g:Nat) (A:Option Addr) (m c:Nat) (bs:List Nat) (a q n x:Nat) (w:World)
   (ca:w.cell? ⟨pa,0,none⟩=some (.int .i64 a)) (cq:w.cell? ⟨pq,0,none⟩=some (.int .i64 q)) (cn:w.cell? ⟨pn,0,none⟩=some (.int .i64 n)) (cv:w.cell? ⟨pv,0,none⟩=some (.int .u64 x))
   (cr:w.cell? ⟨pr,0,none⟩=some (.pointer (some ⟨g,0,none⟩))) (cg:w.cell? ⟨g,0,none⟩=some (.slice A m c)) (hr:Rd w F A m (bs.map fun b=>.int .u8 (b:Nat))) (hb:∀b∈bs,b<256)
   (fq:w.frozen? ⟨pq,0,none⟩=false) (fv:w.frozen? ⟨pv,0,none⟩=false) (hqv:pq≠pv) (hnv:pn≠pv) (hav:pa≠pv) (hrv:pr≠pv)
   (hq:q<n) (hn:n<=64) (han:a+n<=8*m) (hm:m<=2^32) (hx:x<2^q) :
   Calls Tryz.prog 217 #[.pointer (some ⟨pa,0,none⟩),.pointer (some ⟨pq,0,none⟩),.pointer (some ⟨pn,0,none⟩),.pointer (some ⟨pv,0,none⟩),.pointer (some ⟨pr,0,none⟩)] w
     fun e w'=>e = .returned (.tuple #[]) /\
       ((w.setCell ⟨pv,0,none⟩ (.int .u64 (x+Q8 bs / 2^(a+q)%2^(min (8-(a+q)%8) (n-q))*2^q:Nat))).setCell ⟨pq,0,none⟩ (.int .i64 (q+min (8-(a+q)%8) (n-q):Nat))).drew=w':=by
 (have hbl:bs.length=m:=by have:=hr.1;simpa using this);(have hj:(a+q) / 8<m:=by omega);obtain⟨b,o,rfl,_,hbs,hc⟩:=hr.at_ hj;(have hjb:(a+q) / 8<bs.length:=by omega);have hbyte:=Q2Z bs hb _ hjb;have hlt:=hb _ (List.getElem_mem hjb);(have hc':w.cell? ⟨b,o+(a+q) / 8,none⟩=some (.int .u8 (bs[(a+q) / 8]:Nat)):=by rw [hc];simp [hjb]);generalize bs[(a+q) / 8]=y at *;obtain⟨s,hs⟩:=nm_ ((a+q)%8);obtain⟨k,hk⟩:=nm_ (min (8-(a+q)%8) (n-q));rw [<-hk];(have hk8:s+k<=8:=by omega);(have hkn:q+k<=n:=by omega)
 have hval:y / 2^s%2^k=Q8 bs / 2^(a+q)%2^k:=by
   rw [<-hbyte,Q30 _ _ _ _ hk8,show 8*((a+q) / 8)+s=a+q by omega]
 have e1:=Q55 y s k hlt (by omega);have e2:=Q1E x (y / 2^s%2^k) q k hx (Nat.mod_lt _ (Nat.two_pow_pos k)) (by omega);(have hi1:((a:Int)+q)%8=(s:Int):=by omega);(have hi2:((8-(s:Int)=k)/\(k:Int)<=n-q)\/((n:Int)-q=k/\(k:Int)<8-s):=by omega);have hi3:IntKind.i64.wrap ((a:Int)+q)=a+q:=IntWalk.i64_in _ (by omega);(have hi5:((a:Int)+q).tdiv 8=(((a+q) / 8:Nat):Int):=by rw [Int.tdiv_eq_ediv_of_nonneg (by omega)];omega);have hi6:IntKind.i64.wrap (((a+q) / 8:Nat):Int)=(((a+q) / 8:Nat):Int):=IntWalk.i64_in _ (by omega);(have hi4:(((a+q) / 8:Nat):Int)<m:=by omega);(have hi7:IntKind.u64.wrap (y:Int)=y:=by rw [IntKind.wrap_u64];omega);obtain⟨j,hjd⟩:=nm_ ((a+q) / 8);rw [<-hjd]at hc' hi4 hi5 hi6;rw [<-hval];(have hs0:s<=7:=by omega);clear hr hbyte hval hc hjb hj hb hjd;have E1:=hd_ e1;have E2:=hd_ e2;have HX:=hd_ hx;(have hm':(m:Int)<=4294967296:=by omega);clear e1 e2 hx hs hk hm hbl;refine Q6 fun R hR=>?_;rcases hi2 with ⟨r1,hi2⟩|⟨r1,hi2⟩
 all_goals
   go_enter Tryz.func217,Tryz.ntmps217;go_wp2_with fail;go_still_tail 21,(by kernel_rfl);change wpList _ _ _ _ _ w.drew;rw [E1.out,E2.out];go_wp2;(try go_end0);refine hR.out _ _ ⟨rfl,?_⟩;simp
def YY (w:World) (F:Nat->Prop) (g:Nat) (bs:List Nat) (fr:Nat):Prop :=
  ∃(A:Option Addr) (c:Nat),Blk w g 307 #[.slice A bs.length c,.int .i64 fr,.int .i64 (8*bs.length:Nat)]/\Rd w F A bs.length (bs.map fun b=>.int .u8 (b:Nat)) /\
    (∀b∈bs,b<256)/\fr<=8*bs.length/\bs.length<=2^32
theorem KS (F:Nat->Prop) (g:Nat) (A:Option Addr) (m c:Nat) (bs:List Nat) (a n:Nat) (w:World)
   (cg:w.cell? ⟨g,0,none⟩=some (.slice A m c)) (hr:Rd w F A m (bs.map fun b=>.int .u8 (b:Nat))) (hb:∀b∈bs,b<256) (hn:n<=64) (han:a+n<=8*m) (hm:m<=2^32) :
   Calls Tryz.prog 187 #[.pointer (some ⟨g,0,none⟩),.int .i64 a,.int .i64 n] w fun e w'=>e = .returned (.int .u64 (Q8 bs / 2^a%2^n:Nat))/\Q0 w w':=by
 have hg:=World.block_lt_of_cell? _ _ cg;(have hnI:(n:Int)<=64:=by omega);(have haI:(a:Int)<=34359738368:=by omega);have HB:=hd_ hb;have HR:=hd_ hr;have HG:=hd_ cg;clear hr cg hb;refine Q6 fun R hR=>?_;go_enter Tryz.func187,Tryz.ntmps187;go_wp2_with fail;obtain⟨H,hH⟩:=nm_ (w.heap.size);have HH:=hd_ hH;rw [<-hH]at hg;simp only [<-hH]
 go_loopg [] n (fun m' wr=>∃q:Nat,q+m'<=n/\n<=q+m'/\Blk wr H 292 #[.pointer (some ⟨g,0,none⟩)]/\Blk wr (H+1) 3 #[.int .i64 a]/\Blk wr (H+1+1) 3 #[.int .i64 n] /\
   Blk wr (H+1+1+1) 57 #[.int .u64 (Q8 bs / 2^a%2^q:Nat)]/\Blk wr (H+1+1+1+1) 3 #[.int .i64 q]/\Q0 w wr)
 case atStart =>
   refine⟨0,by omega,by omega,?_,?_,?_,?_,?_,(((((Upd.refl _ w).alloc _).alloc _).alloc _).alloc _).alloc _⟩
   . exact((((Q2 hH _ _).alloc _).alloc _).alloc _).alloc _
   . exact(((Q2 (by simp [hH]) _ _).alloc _).alloc _).alloc _
   . exact((Q2 (by simp [hH]) _ _).alloc _).alloc _
   . simp only [Nat.pow_zero,Nat.mod_one]
     exact(Q2 (by simp [hH]) _ _).alloc _
   exact Q2 (by simp [hH]) _ _
 case round =>
   obtain⟨q,hq1,hq2,b0,b1,b2,b3,b4,hf⟩:=hrel;have hc2:=b2.cell0;have hc4:=b4.cell0;have hc3:=b3.cell0;have hf3:=b3.frozen 0;have HF:=hd_ hf;by_cases hlt:q<n
   . have hk:=Q2N F (H+1) (H+1+1+1+1) (H+1+1) (H+1+1+1) H g A m c bs a q n (Q8 bs / 2^a%2^q) wr b1.cell0 hc4 hc2 hc3 b0.cell0
       (by rw [hf.cells g 0 (by omega)];exact HG.out) (HR.out.fresh hf) HB.out (b4.frozen 0) hf3 (by omega) (by omega) (by omega) (by omega) hlt hn han hm (Nat.mod_lt _ (Nat.two_pow_pos q))
     rw [Nat.pow_add,<-Nat.div_div_eq_div_mul]at hk;obtain⟨k,hkd⟩:=nm_ (min (8-(a+q)%8) (n-q));rw [<-hkd,<-Q17]at hk;(have hk1:1<=k/\k<=n-q:=by omega);have HK:=hd_ hk;have B0:=hd_ b0;have B1:=hd_ b1;have B2:=hd_ b2;have B3:=hd_ b3;have B4:=hd_ b4;clear b0 b1 b2 b3 b4 hk hkd hf hH;go_wp2_with fail;refine HK.out.mono ?_;rintro e w1 ⟨rfl,hw1⟩;(have c0:Blk w1 H 292 #[.pointer (some ⟨g,0,none⟩)]:=by subst hw1;exact((B0.out.far (p:=⟨_,_,_⟩) (by simp<;>omega) _).far (p:=⟨_,_,_⟩) (by simp<;>omega) _).drew);(have c1:Blk w1 (H+1) 3 #[.int .i64 a]:=by subst hw1;exact((B1.out.far (p:=⟨_,_,_⟩) (by simp<;>omega) _).far (p:=⟨_,_,_⟩) (by simp<;>omega) _).drew);(have c2:Blk w1 (H+1+1) 3 #[.int .i64 n]:=by subst hw1;exact((B2.out.far (p:=⟨_,_,_⟩) (by simp) _).far (p:=⟨_,_,_⟩) (by simp<;>omega) _).drew);(have c3:Blk w1 (H+1+1+1) 57 #[.int .u64 (Q8 bs / 2^a%2^(q+k):Nat)]:=by subst hw1;exact((B3.out.set_ 0 _).far (p:=⟨_,_,_⟩) (by simp) _).drew);(have c4:Blk w1 (H+1+1+1+1) 3 #[.int .i64 (q+k:Nat)]:=by subst hw1;exact((B4.out.far (p:=⟨_,_,_⟩) (by simp) _).set_ 0 _).drew)
     have f1:Q0 w w1:=by
       subst hw1;have:=HH.out;exact((HF.out.setCell (p:=⟨_,_,_⟩) (fun h=>by simp at h;omega) _).setCell (p:=⟨_,_,_⟩) (fun h=>by simp at h;omega) _).drew
     clear hw1 B0 B1 B2 B3 B4 HF hc2 hc4 hc3 hf3;have HC:=hd_ (show _/\_/\_/\_/\_/\_ from⟨c0,c1,c2,c3,c4,f1⟩);clear c0 c1 c2 c3 c4 f1;go_wp2;go_roundg (gk-k)
     case measure=>omega
     case rel=>exact⟨q+k,by omega,by omega,HC.out⟩
   (obtain rfl:q=n:=by omega);clear b0 b1 b2 b4 hf hH;have HC3:=hd_ b3;clear b3;go_wp2;refine bodyPost_ret (v:=.int .u64 (Q8 bs / 2^a%2^q:Nat)) ?_ rfl (hR.out _ _ ⟨rfl,HF.out.setCell (p:=⟨_,_,_⟩) (fun h=>by have:=HH.out;simp at h;omega) _⟩);have hcc:=(HC3.out.set_ 0 (.int .u64 (Q8 bs / 2^a%2^q:Nat))).cell0;simp at hcc;simp [results,Tryz.results187,go_sem,hcc]
theorem VB (g:Nat) (fr to_:Nat) (w:World) (c1:w.cell? ⟨g,1,none⟩=some (.int .i64 fr)) (c2:w.cell? ⟨g,2,none⟩=some (.int .i64 to_)) (h:fr<=to_) (h':to_<=2^40) :
   Calls Tryz.prog 155 #[.pointer (some ⟨g,0,none⟩)] w fun e w'=>e = .returned (.int .i64 (to_-fr:Nat))/\∃k,w'=w.drewN k:=by
 (have h1:(to_:Int)<=1099511627776:=by omega);(have e1:((to_-fr:Nat):Int)=to_-fr:=by omega);have E1:=hd_ e1;clear e1 h';refine Q6 fun R hR=>?_;go_enter Tryz.func155,Tryz.ntmps155;go_wp2;go_quiet (fail);go_wp2;(try go_ret);exact hR.out _ _ ⟨YJ (by rw [E1.out]),_,rfl⟩
theorem Q36 (g:Nat) (fr to_ n:Nat) (sh:Int) (w:World) (c1:w.cell? ⟨g,1,none⟩=some (.int .i64 fr)) (c2:w.cell? ⟨g,2,none⟩=some (.int .i64 to_)) (h':to_<=2^40) (hn:n<=64)
   (h:fr+n<=to_) :
   Calls Tryz.prog 216 #[.pointer (some ⟨g,0,none⟩),.int .i64 n,.int .i64 sh] w fun e w'=>e = .returned (.int .i64 0)/\∃k,w'=w.drewN k:=by
 have hk:=VB g fr to_ w c1 c2 (by omega) h';have HK:=hd_ hk;(have h1:(to_:Int)<=1099511627776:=by omega);(have h2:(n:Int)<=((to_-fr:Nat):Int):=by omega);clear hk h';generalize to_-fr=d at *;refine Q6 fun R hR=>?_;go_enter Tryz.func216,Tryz.ntmps216;go_wp2_with (go_at_call 155;refine HK.out.mono ?_;rintro e w' ⟨rfl,k,rfl⟩);(try go_ret);exact hR.out _ _ ⟨rfl,_,rfl⟩
theorem XA (g:Nat) (fr to_ n:Nat) (sh:Int) (w:World) (c1:w.cell? ⟨g,1,none⟩=some (.int .i64 fr)) (c2:w.cell? ⟨g,2,none⟩=some (.int .i64 to_)) (h':to_<=2^40) (hn:n<=64) (hf:fr<=to_)
   (h:to_<fr+n) :
   Calls Tryz.prog 216 #[.pointer (some ⟨g,0,none⟩),.int .i64 n,.int .i64 sh] w fun e w'=>e = .returned (.int .i64 sh)/\∃k,w'=w.drewN k:=by
 have hk:=VB g fr to_ w c1 c2 (by omega) h';have HK:=hd_ hk;(have h1:(to_:Int)<=1099511627776:=by omega);(have h2:((to_-fr:Nat):Int)<(n:Int):=by omega);clear hk h';generalize to_-fr=d at *;refine Q6 fun R hR=>?_;go_enter Tryz.func216,Tryz.ntmps216;go_wp2_with (go_at_call 155;refine HK.out.mono ?_;rintro e w' ⟨rfl,k,rfl⟩);(try go_ret);exact hR.out _ _ ⟨rfl,_,rfl⟩
theorem YY.upd {w w':World} {F S:Nat->Prop} {g:Nat} {bs:List Nat} {fr:Nat} (h:YY w F g bs fr) (hu:Upd S w w') (hg:¬S g) (hF:∀b,F b->¬S b):YY w' F g bs fr:=by
 obtain⟨A,c,hb,hr,r⟩:=h;exact⟨A,c,hb.upd hu hg,hr.upd hu (fun b _ hb=>hF b hb),r⟩
theorem YY.fresh {w w':World} {F:Nat->Prop} {g:Nat} {bs:List Nat} {fr:Nat} (h:YY w F g bs fr) (hu:Q0 w w'):YY w' F g bs fr:=h.upd hu (fun h=>h) (fun _ _ h=>h)
theorem Q5v (F:Nat->Prop) (g:Nat) (bs:List Nat) (fr n:Nat) (w:World) (hf:YY w F g bs fr) (hn:n<=64) (h:fr+n<=8*bs.length) (hFg:∀b,F b->b≠g) :
   Calls Tryz.prog 221 #[.pointer (some ⟨g,0,none⟩),.int .i64 n] w fun e w'=>e = .returned (.tuple #[.int .u64 (Q8 bs / 2^fr%2^n:Nat),.int .i64 0]) /\
     Upd (fun b=>b=g) w w'/\YY w' F g bs (fr+n):=by
 obtain⟨A,c,hb,hr,hlt,hfr,hlen⟩:=hf;have hc0:=hb.cell 0;have hc1:=hb.cell 1;have hc2:=hb.cell 2;have hfz:=hb.frozen 1;simp at hc0 hc1 hc2;have hm:=Q36 g fr (8*bs.length) n 3 w hc1 (by simpa using hc2) (by omega) hn h;have HM:=hd_ hm;have HB:=hd_ hb;have hv:=fun W hW0 hW1=>KS F g A bs.length c bs fr n W hW0 hW1 hlt hn h hlen;have HV:=hd_ hv;clear hm hb hv hc2;(have i1:(fr:Int)<=34359738368:=by omega);(have i2:(n:Int)<=64:=by omega);generalize Q8 bs / 2^fr%2^n=V at *;refine Q6 fun R hR=>?_;go_enter Tryz.func221,Tryz.ntmps221;go_wp2_with (go_at_call 216;refine HM.out.mono ?_;rintro e w' ⟨rfl,k,rfl⟩);(have hs:IntKind.i64.wrap ((fr:Int)+n-n)=fr:=by rw [show(fr:Int)+n-n=fr by omega];exact IntWalk.i64_in _ (by omega));(have hs2:(fr:Int)+n-n=fr:=by omega);have b2:Blk ((w.drewN k).setCell ⟨g,1,none⟩ (.int .i64 ((fr:Int)+n))) g 307 #[.slice A bs.length c,.int .i64 ((fr:Int)+n),.int .i64 (8*bs.length:Nat)]:=(HB.out.drewN k).set_ 1 _;have u2:Upd (fun b=>b=g) w ((w.drewN k).setCell ⟨g,1,none⟩ (.int .i64 ((fr:Int)+n))):=((Upd.refl (fun b=>b=g) w).drewN k).setCell (p:=⟨g,1,none⟩) (fun _=>rfl) _;have hc1':=b2.cell 1;simp only [List.getElem?_toArray,List.getElem?_cons_succ,List.getElem?_cons_zero]at hc1';generalize (w.drewN k).setCell ⟨g,1,none⟩ (.int .i64 ((fr:Int)+n))=W at *;go_still_tail 11,(by kernel_rfl);change wpList _ _ _ _ _ W.drew;have hc0:=b2.cell 0;simp only [List.getElem?_toArray,List.getElem?_cons_zero]at hc0;have hrW:=hr.upd u2 (fun b _ hb e=>hFg b hb e);go_wp2_with fail;refine(HV.out W.drew hc0 hrW).mono ?_;rintro e w1 ⟨rfl,f1⟩;go_wp2;(try go_ret2);refine hR.out _ _ ⟨rfl,u2.drew.trans f1 (fun _ _ h=>h.elim),A,c,?_,hrW.drew.fresh f1,hlt,h,hlen⟩;have:=b2.drew.fresh f1;simpa using this
theorem Q28 (F:Nat->Prop) (g:Nat) (bs:List Nat) (fr n:Nat) (w:World) (hf:YY w F g bs fr) (hn:n<=64) (h:8*bs.length<fr+n) :
   Calls Tryz.prog 221 #[.pointer (some ⟨g,0,none⟩),.int .i64 n] w fun e w'=>e = .returned (.tuple #[.int .u64 0,.int .i64 3])/\Q0 w w':=by
 obtain⟨A,c,hb,hr,hlt,hfr,hlen⟩:=hf;have hc1:=hb.cell 1;have hc2:=hb.cell 2;simp at hc1 hc2;have hm:=XA g fr (8*bs.length) n 3 w hc1 (by simpa using hc2) (by omega) hn hfr h;have HM:=hd_ hm;clear hm hb hc2 hc1;refine Q6 fun R hR=>?_;go_enter Tryz.func221,Tryz.ntmps221;go_wp2_with (go_at_call 216;refine HM.out.mono ?_;rintro e w' ⟨rfl,k,rfl⟩);(try go_ret2);exact hR.out _ _ ⟨rfl,(Upd.refl _ _).drewN k⟩
def Jc (fr:Nat):Nat:=(8-fr%8)%8
theorem Q56 (fr:Nat) (h:fr<=2^40):bits .and .i64 (-(fr:Int)) 7=((Jc fr:Nat):Int):=by
 have e:(BitVec.ofInt 64 (-(fr:Int)) &&& BitVec.ofInt 64 7).toNat=Jc fr:=by
   rw [BitVec.toNat_and,BitVec.toNat_ofInt,BitVec.toNat_ofInt,show((7:Int)%((2^64:Nat):Int)).toNat=7 by decide,nat_mask3];unfold Jc;omega
 show IntKind.i64.wrap ((BitVec.ofInt 64 (-(fr:Int)) &&& BitVec.ofInt 64 7).toNat:Int)=_;rw [e,IntKind.wrap_i64];unfold Jc;omega
theorem Q3d (F:Nat->Prop) (g:Nat) (bs:List Nat) (fr:Nat) (w:World) (hf:YY w F g bs fr) (hFg:∀b,F b->b≠g) :
   Calls Tryz.prog 184 #[.pointer (some ⟨g,0,none⟩)] w fun e w' =>
     (Q8 bs / 2^fr%2^Jc fr=0->e = .returned (.tuple #[.int .i64 ((fr+Jc fr) / 8:Nat),.int .i64 0])) /\
     (Q8 bs / 2^fr%2^Jc fr≠0->e = .returned (.tuple #[.int .i64 0,.int .i64 14]))/\Upd (fun b=>b=g) w w':=by
 obtain⟨A,c,hb,hr,hlt,hfr,hlen⟩:=hf;have hc0:=hb.cell 0;have hc1:=hb.cell 1;have hfz:=hb.frozen 1;simp at hc0 hc1;(have hp:Jc fr<=7/\fr+Jc fr<=8*bs.length/\(fr+Jc fr)%8=0:=by unfold Jc;omega);have hv:=KS F g A bs.length c bs fr (Jc fr) w.drew hc0 hr hlt (by omega) hp.2.1 hlen;have hn7:=Q56 fr (by omega);have HB:=hd_ hb;have HV:=hd_ hv;(have i1:(fr:Int)<=34359738368:=by omega);obtain⟨hp1,hp2,hp3⟩:=hp;(have i2:(Jc fr:Int)<=7:=by omega);clear hv hb hp1 hp2;generalize Q8 bs / 2^fr%2^Jc fr=V at *;generalize Jc fr=p at *;refine Q6 fun R hR=>?_;go_enter Tryz.func184,Tryz.ntmps184;go_wp2_with fail;go_still_tail 9,(by kernel_rfl);change wpList _ _ _ _ _ w.drew;go_wp2_with fail;refine(HV.out).mono ?_;rintro e w1 ⟨rfl,f1⟩;have b1:=HB.out.drew.fresh f1;have hc1':=b1.cell 1;have hfz':=b1.frozen 1;simp at hc1';have u1:Upd (fun b=>b=g) w w1:=((Upd.refl _ w).drew).trans f1 (fun _ _ h=>h.elim);(have hd:((fr:Int)+p) / 8=((fr+p) / 8:Nat):=by omega);have HD:=hd_ hd;clear hd b1;by_cases hV:V=0
 . subst hV
   go_wp2;(try go_ret2);exact hR.out _ _ ⟨fun _=>by rw [<-HD.out];rfl,fun h=>absurd rfl h,u1.setCell (p:=⟨g,1,none⟩) (fun _=>rfl) _⟩
 (have hV':((V:Int) != 0)=true:=by simpa using hV);go_wp2;(try go_ret2);exact hR.out _ _ ⟨fun h=>absurd h hV,fun _=>rfl,u1⟩
theorem Xi (F:Nat->Prop) (A:Option Addr) (n c:Nat) (bs:List Nat) (w:World) (hr:Rd w F A n (bs.map fun b=>.int .u8 (b:Nat))) (hlt:∀b∈bs,b<256) (hlen:bs.length<=2^32) :
   Calls Tryz.prog 181 #[.slice A n c] w fun e w'=>∃g,e = .returned (.pointer (some ⟨g,0,none⟩))/\w.heap.size<=g/\Q0 w w' /\
     YY w' (fun k=>w.heap.size<=k/\k≠g) g bs 0:=by
 (have hn:n=bs.length:=by have:=hr.1;simpa using this.symm);subst hn;have hk:=JF A bs.length c _ w hr (by simp [Value.oneCell']) (by omega);have HK:=hd_ hk;(have hl:(bs.length:Int)<=4294967296:=by omega);clear hk hr;refine Q6 fun R hR=>?_;go_enter Tryz.func181,Tryz.ntmps181;go_wp2_with fail;refine HK.out.mono ?_;rintro e w1 ⟨v,rfl,o1,f1,k1⟩;obtain⟨A',n',c',rfl,hn'⟩:=o1.form';have hrd:=(o1.rd rfl).2.2;(have hn2:n'=bs.length:=by simpa using hn'.out);have HN:=hd_ hn2;clear hn2 hn';go_wp2;(try go_ret);have:=HN.out;subst this;refine hR.out _ _ ⟨w1.heap.size,rfl,f1.size,f1.alloc _,A',c',?_,?_,hlt,by omega,hlen⟩
 . have:=Blk.new w1 307 #[.slice A' bs.length c',.int .i64 0,.int .i64 (8*(bs.length:Int))]
   simpa using this
 have h2:=hrd.alloc (.cells #[.slice A' bs.length c',.int .i64 0,.int .i64 (8*(bs.length:Int))] 307);refine⟨by simp,fun h=>?_⟩;obtain⟨b,o,hA,hb,hbs,hc⟩:=h2.2 (by simpa using h);exact⟨b,o,hA,⟨k1 b hb,by have:=o1.lt hb;omega⟩,hbs,fun j hj=>hc j (by simpa using hj)⟩
def Yd (s:Nat):Nat:=if s<16 then 1 else s / 2+s / 8+3
def Y3 (s:Nat):List Nat:=(List.range s).map fun k=>k*Yd s%s
def QP:Nat->List Int->List Nat
  | _,[]=>[]
  | i,v::l=>if v=-1 then i::QP (i+1) l else QP (i+1) l
def Yg:Nat->List Int->List Nat
  | _,[]=>[]
  | i,v::l=>List.replicate v.toNat i++Yg (i+1) l
def Qv (N:List Int):List Nat:=QP 0 N
def Ql (N:List Int):List Nat:=Yg 0 N
theorem Vy:∀(l:List Int) (i:Nat) (v:Int),QP i (l++[v])=QP i l++(if v=-1 then [i+l.length]else [])
 | [],i,v=>by simp only [List.nil_append,QP,List.length_nil];split<;>simp
 | x::l,i,v=>by
   have h:=Vy l (i+1) v
   have e:i+1+l.length=i+(l.length+1):=by omega
   simp only [List.cons_append,QP,List.length_cons,h,e]
   split<;>simp
theorem Vz:∀(l:List Int) (i:Nat) (v:Int),Yg i (l++[v])=Yg i l++List.replicate v.toNat (i+l.length)
 | [],i,v=>by simp [Yg]
 | x::l,i,v=>by
   have h:=Vz l (i+1) v
   have e:i+1+l.length=i+(l.length+1):=by omega
   simp only [List.cons_append,Yg,List.length_cons,h,e,List.append_assoc]
theorem VZ {N:List Int} {k:Nat} (h:k<N.length):Qv (N.take (k+1))=Qv (N.take k)++(if N[k]=-1 then [k]else []):=by
 unfold Qv;rw [List.take_succ_eq_append_getElem h,Vy,List.length_take,Nat.min_eq_left (Nat.le_of_lt h),Nat.zero_add]
theorem Zw {N:List Int} {k:Nat} (h:k<N.length):Ql (N.take (k+1))=Ql (N.take k)++List.replicate N[k].toNat k:=by
 unfold Ql;rw [List.take_succ_eq_append_getElem h,Vz,List.length_take,Nat.min_eq_left (Nat.le_of_lt h),Nat.zero_add]
theorem Kz:∀(l:List Int) (i x:Nat),x∈QP i l->i<=x/\x<i+l.length
 | [],i,x,h=>by simp [QP]at h
 | v::l,i,x,h=>by
   rw [QP]at h
   rw [List.length_cons]
   split at h
   . rcases List.mem_cons.1 h with rfl|h
     . omega
     have:=Kz l (i+1) x h;omega
   have:=Kz l (i+1) x h;omega
theorem Kt:∀(l:List Int) (i x:Nat),x∈Yg i l->i<=x/\x<i+l.length
 | [],i,x,h=>by simp [Yg]at h
 | v::l,i,x,h=>by
   rw [Yg]at h
   rw [List.length_cons]
   rcases List.mem_append.1 h with h|h
   . have:=List.eq_of_mem_replicate h;omega
   have:=Kt l (i+1) x h;omega
theorem Jp:∀(l:List Int) (i:Nat),(∀v∈l,-1<=v)->(((QP i l).length+(Yg i l).length:Nat):Int)=QY l
 | [],i,_=>by simp [QP,Yg,QY]
 | v::l,i,h=>by
   have ih:=Jp l (i+1) fun x hx=>h x (List.mem_cons_of_mem _ hx)
   have hv:=h v (by simp)
   have ha:QZ v=if v=-1 then 1 else(v.toNat:Nat):=by unfold QZ;split<;>split<;>omega
   rw [Yy,QP,Yg,List.length_append,List.length_replicate,ha]
   by_cases h1:v=-1
   . rw [if_pos h1,if_pos h1,List.length_cons]
     omega
   rw [if_neg h1,if_neg h1]
   omega
def Qe (s:Nat) (rs:List Nat):Int->Option Int:=fun x=>if x<=(s:Int)-1 then(rs[((s:Int)-1-x).toNat]?).map fun(i:Nat)=>(i:Int)else none
def YG (rest:List Nat) (st:(Int->Option Int) × Nat) (at_:Nat):(Int->Option Int) × Nat :=
  if(st.1 at_).isSome then st else((fun x=>if x=(at_:Int)then some (((rest[st.2]?).getD 0:Nat):Int)else st.1 x),st.2+1)
def Qy (rest:List Nat) (f:Int->Option Int) (pre:List Nat):(Int->Option Int) × Nat:=pre.foldl (YG rest) (f,0)
theorem YQ (rest:List Nat) (f:Int->Option Int) (pre:List Nat) (x:Nat):Qy rest f (pre++[x])=YG rest (Qy rest f pre) x:=by
 unfold Qy;rw [List.foldl_append];rfl
def Q7 (lg:Nat) (N:List Int):List Int :=
  (List.range (2^lg)).map fun(at_:Nat)=>((Qy (Ql N) (Qe (2^lg) (Qv N)) (Y3 (2^lg))).1 (at_:Int)).getD 0
@[simp] theorem Q64 (lg:Nat) (N:List Int):(Q7 lg N).length=2^lg:=by simp [Q7]
theorem ZL {s:Nat} {rs:List Nat} {i:Nat}:(fun x:Int=>if x=(s:Int)-1-rs.length then some (i:Int)else Qe s rs x)=Qe s (rs++[i]):=by
 funext x
 unfold Qe;by_cases h1:x<=(s:Int)-1
 . rw [if_pos h1,if_pos h1]
   by_cases h2:x=(s:Int)-1-rs.length
   . rw [if_pos h2,show((s:Int)-1-x).toNat=rs.length by omega]
     simp
   rw [if_neg h2,List.getElem?_append];by_cases h3:((s:Int)-1-x).toNat<rs.length
   . rw [if_pos h3]
   rw [if_neg h3,List.getElem?_eq_none (by omega),List.getElem?_eq_none (by simp;omega)]
 rw [if_neg h1,if_neg h1,if_neg (by omega)]
theorem Q2O {s:Nat} {rs:List Nat} {x:Int} (hx:0<=x/\x<s):(Qe s rs x).isSome=decide ((s:Int)-rs.length<=x):=by
 unfold Qe;rw [if_pos (by omega),Option.isSome_map];by_cases h:(s:Int)-rs.length<=x
 . rw [decide_eq_true h,List.getElem?_eq_getElem (by omega)];rfl
 rw [decide_eq_false h,List.getElem?_eq_none (by omega)];rfl
theorem K0 (rest:List Nat) (f:Int->Option Int):∀(pre:List Nat),pre.Nodup ->
   (∀x:Nat,((Qy rest f pre).1 x).isSome=((f x).isSome||decide (x∈pre)))/\(Qy rest f pre).2=(pre.filter fun(x:Nat)=>!(f x).isSome).length:=by
 intro pre
 induction hn:pre.length generalizing pre with
 | zero =>
   intro _;have:pre=[]:=List.eq_nil_of_length_eq_zero hn;subst this;exact⟨fun x=>by simp [Qy],rfl⟩
 | succ n ih =>
   intro hd;obtain⟨q,y,rfl⟩:∃q y,pre=q++[y]:=⟨pre.dropLast,pre.getLast (by intro h;subst h;simp at hn),(List.dropLast_concat_getLast _).symm⟩;(have hq:q.length=n:=by simpa using hn);rw [List.nodup_append]at hd;obtain⟨h1,h2⟩:=ih q hq hd.1;have hy:y ∉ q:=fun h=>hd.2.2 y h y (by simp) rfl;rw [YQ];unfold YG;have h3:=h1 y;rw [decide_eq_false hy,Bool.or_false]at h3;rw [h3];by_cases hf:(f y).isSome
   . rw [if_pos hf]
     refine⟨fun x=>?_,?_⟩
     . rw [h1 x]
       by_cases hxy:x=y
       . subst hxy;simp [hf]
       simp [hxy]
     (have e:(List.filter (fun(x:Nat)=>!(f x).isSome) [y]).length=0:=by simp only [List.filter_cons,hf];rfl);rw [h2,List.filter_append,List.length_append,e];rfl
   rw [if_neg hf];refine⟨fun x=>?_,?_⟩
   . simp only
     by_cases hxy:x=y
     . subst hxy;simp
     rw [if_neg (by omega),h1 x];simp [hxy]
   (have hf':(f y).isSome=false:=by simpa using hf);(have e:(List.filter (fun(x:Nat)=>!(f x).isSome) [y]).length=1:=by simp only [List.filter_cons,hf'];rfl);simp only;rw [h2,List.filter_append,List.length_append,e]
theorem VH:∀(m:Nat) (l:List Nat),l.Nodup->(∀x∈l,x<m)->l.length<=m
 | 0,l,_,h=>by
   cases l with
   | nil=>exact Nat.le_refl _
   | cons x l=>have:=h x (by simp);omega
 | m+1,l,hd,h=>by
   have h1:=VH m (l.erase m) (hd.erase m) fun x hx=>by
     have h2:=h x (List.mem_of_mem_erase hx)
     have h3:x≠m:=fun e=>by
       subst e
       exact(List.Nodup.mem_erase_iff hd).1 hx |>.1 rfl
     omega
   have h4:=List.length_erase (a:=m) (l:=l)
   split at h4<;>omega
theorem Q1U {s:Nat} {rest rs:List Nat} {pre:List Nat} {x:Nat} (hd:(pre++[x]).Nodup) (hlt:∀y∈pre++[x],y<s) (hR:rs.length+rest.length=s)
   (hn:((Qy rest (Qe s rs) pre).1 x).isSome=false):(Qy rest (Qe s rs) pre).2<rest.length:=by
 have hd1:=(List.nodup_append.1 hd).1;obtain⟨h1,h2⟩:=K0 rest (Qe s rs) pre hd1;rw [h1 x]at hn;have hx:=hlt x (by simp)
 have hfx:(Qe s rs x).isSome=false:=by
   cases hq:(Qe s rs x).isSome
   . rfl
   rw [hq]at hn;simp at hn
 have h3:((pre++[x]).filter fun(y:Nat)=>!(Qe s rs y).isSome).length=(Qy rest (Qe s rs) pre).2+1:=by
   (have e:(List.filter (fun(y:Nat)=>!(Qe s rs y).isSome) [x]).length=1:=by simp only [List.filter_cons,hfx];rfl);rw [h2,List.filter_append,List.length_append,e]
 have h4:=VH rest.length ((pre++[x]).filter fun(y:Nat)=>!(Qe s rs y).isSome) (hd.filter _) fun y hy=>by
   obtain⟨hm,hf⟩:=List.mem_filter.1 hy;have hys:=hlt y hm;rw [Q2O (by omega)]at hf;simp at hf;omega
 omega
theorem Ze:∀lg:Nat,lg<=9->(Y3 (2^lg)).Nodup:=by
 (have h:∀lg:Fin 10,(Y3 (2^lg.val)).Nodup:=by decide +kernel);exact fun lg hl=>h ⟨lg,by omega⟩
theorem Kw {s x:Nat} (hs:0<s) (h:x∈Y3 s):x<s:=by
 unfold Y3 at h;obtain⟨k,_,rfl⟩:=List.mem_map.1 h;exact Nat.mod_lt _ hs
@[simp] theorem KX (s:Nat):(Y3 s).length=s:=by simp [Y3]
def Z6 (R M:List Int) (k:Nat):List Int:=R.take k++M.drop k
theorem XL (R M:List Int):Z6 R M 0=M:=by simp [Z6]
theorem Q0N {R M:List Int} (h:R.length=M.length):Z6 R M M.length=R:=by
 unfold Z6;rw [List.drop_eq_nil_of_le (Nat.le_refl _),List.append_nil,List.take_of_length_le (by omega)]
theorem Q0L {R M:List Int} {k:Nat} (h:R.length=M.length) (hk:k<M.length):(Z6 R M k)[k]?=M[k]?:=by
 unfold Z6;rw [List.getElem?_append_right (by simp;omega),List.length_take,List.getElem?_drop]
 congr 1
 omega
theorem Q0M {R M:List Int} {k:Nat} (h:R.length=M.length) (hk:k<M.length) (x:Int) (hx:R[k]?=some x):(Z6 R M k).set k x=Z6 R M (k+1):=by
 apply List.ext_getElem?;intro i;rw [List.getElem?_set];unfold Z6;by_cases hi:k=i
 . subst hi
   rw [if_pos rfl,if_pos (by simp;omega),List.getElem?_append_left (by simp;omega),List.getElem?_take,if_pos (by omega),hx]
 rw [if_neg hi];by_cases h2:i<k
 . rw [List.getElem?_append_left (by simp;omega),List.getElem?_append_left (by simp;omega),List.getElem?_take,List.getElem?_take,if_pos h2,if_pos (by omega)]
 rw [List.getElem?_append_right (by simp;omega),List.getElem?_append_right (by simp;omega),List.length_take,List.length_take,List.getElem?_drop,List.getElem?_drop]
 congr 1
 omega
def ZZ (B:List Int) (k:Nat):List Int:=Z6 B (List.replicate B.length 0) k
theorem Q3w (B:List Int):ZZ B 0=List.replicate B.length 0:=XL _ _
theorem Q4H (B:List Int):ZZ B B.length=B:=by
 have h:=Q0N (R:=B) (M:=List.replicate B.length 0) (by simp);rw [List.length_replicate]at h;exact h
theorem Q4G {B:List Int} {k:Nat} (h:k<B.length):(ZZ B k)[k]?=some 0:=by
 unfold ZZ;rw [Q0L (by simp) (by simpa using h)];simp [h]
theorem Q4F {B:List Int} {k:Nat} (h:k<B.length):(ZZ B k).set k B[k]=ZZ B (k+1) :=
 Q0M (by simp) (by simpa using h) _ (List.getElem?_eq_getElem h)
theorem Blk.rdg {w:World} {g:Nat} {t:TypeId} {N:List Int} {n:Nat} (h:Blk w g t (Q1 N).toArray) (hn:N.length=n):Rd w (fun b=>b=g) (some ⟨g,0,none⟩) n (Q1 N) :=
 ⟨by simpa using hn,fun _=>⟨g,0,rfl,rfl,h.lt,fun j hj=>by rw [Nat.zero_add,h.cell];simp⟩⟩
theorem Ku {M:List Int} {k:Nat} (x:Int):(Q1 M).toArray.setIfInBounds k (.int .i64 x)=(Q1 (M.set k x)).toArray:=by
 apply Array.toList_inj.1;simp [Q1,List.map_set]
def Qf (w:World) (F:Nat->Prop) (g:Nat) (bs:List Nat) (at_:Nat):Prop :=
  ∃(A:Option Addr) (c:Nat),Blk w g 67 #[.slice A bs.length c,.int .i64 at_]/\Rd w F A bs.length (bs.map fun b=>.int .u8 (b:Nat)) /\
    (∀b∈bs,b<256)/\at_<=bs.length/\bs.length<=2^32/\bs.length<=c
theorem Qf.upd {w w':World} {F S:Nat->Prop} {g:Nat} {bs:List Nat} {at_:Nat} (h:Qf w F g bs at_) (hu:Upd S w w') (hg:¬S g) (hF:∀b,b<w.heap.size->F b->¬S b):Qf w' F g bs at_:=by
 obtain⟨A,c,hb,hr,r⟩:=h;exact⟨A,c,hb.upd hu hg,hr.upd hu hF,r⟩
theorem Qf.fresh {w w':World} {F:Nat->Prop} {g:Nat} {bs:List Nat} {at_:Nat} (h:Qf w F g bs at_) (hu:Q0 w w'):Qf w' F g bs at_:=h.upd hu (fun h=>h) (fun _ _ _ h=>h)
theorem Qf.both {w:World} {F:Nat->Prop} {g:Nat} {bs:List Nat} {at_:Nat} (h:Qf w F g bs at_):Qf w (fun b=>F b/\b<w.heap.size) g bs at_:=by
 obtain⟨A,c,hb,hr,r⟩:=h;exact⟨A,c,hb,hr.both,r⟩
theorem Qf.mono {w:World} {F G:Nat->Prop} {g:Nat} {bs:List Nat} {at_:Nat} (h:Qf w F g bs at_) (hG:∀b,F b->G b):Qf w G g bs at_:=by
 obtain⟨A,c,hb,hr,r⟩:=h;exact⟨A,c,hb,hr.mono hG,r⟩
theorem Qf.lt {w:World} {F:Nat->Prop} {g:Nat} {bs:List Nat} {at_:Nat} (h:Qf w F g bs at_):g<w.heap.size:=by
 obtain⟨A,c,hb,_⟩:=h;exact hb.lt
theorem Kb (F:Nat->Prop) (A:Option Addr) (n c:Nat) (bs:List Nat) (w:World) (hr:Rd w F A n (bs.map fun b=>.int .u8 (b:Nat))) (hlt:∀b∈bs,b<256) (hlen:bs.length<=2^32) :
   Calls Tryz.prog 17 #[.slice A n c] w fun e w'=>∃g,e = .returned (.pointer (some ⟨g,0,none⟩))/\w.heap.size<=g/\Q0 w w' /\
     Qf w' (fun k=>w.heap.size<=k/\k≠g) g bs 0:=by
 (have hn:n=bs.length:=by have:=hr.1;simpa using this.symm);subst hn;have hk:=JF A bs.length c _ w hr (by simp [Value.oneCell']) (by omega);have HK:=hd_ hk;clear hk hr;refine Q6 fun R hR=>?_;go_enter Tryz.func17,Tryz.ntmps17;go_wp2_with fail;refine HK.out.mono ?_;rintro e w1 ⟨v,rfl,o1,f1,k1⟩;obtain⟨A',n',c',rfl,hn'⟩:=o1.form';have hrd:=(o1.rd rfl).2.2;have hcap:=(o1.rd rfl).2.1;have HC:=hd_ hcap;(have hn2:n'=bs.length:=by simpa using hn'.out);have HN:=hd_ hn2;clear hn2 hn' hcap;go_wp2;(try go_ret);have:=HN.out;subst this;refine hR.out _ _ ⟨w1.heap.size,rfl,f1.size,f1.alloc _,A',c',?_,?_,hlt,by omega,hlen,by simpa using HC.out⟩
 . have:=Blk.new w1 67 #[.slice A' bs.length c',.int .i64 0]
   simpa using this
 have h2:=hrd.alloc (.cells #[.slice A' bs.length c',.int .i64 0] 67);refine⟨by simp,fun h=>?_⟩;obtain⟨b,o,hA,hb,hbs,hc⟩:=h2.2 (by simpa using h);exact⟨b,o,hA,⟨k1 b hb,by have:=o1.lt hb;omega⟩,hbs,fun j hj=>hc j (by simpa using hj)⟩
theorem Zh (F:Nat->Prop) (g:Nat) (bs:List Nat) (at_:Nat) (w:World) (hc:Qf w F g bs at_) :
   Calls Tryz.prog 26 #[.pointer (some ⟨g,0,none⟩)] w fun e w'=>e = .returned (.int .i64 (bs.length-at_:Nat))/\∃k,w'=w.drewN k:=by
 obtain⟨A,c,hb,hr,hlt,hat,hlen,hcap⟩:=hc;obtain⟨hc0,hc1⟩:=(hb).cells2;(have i1:(bs.length:Int)<=4294967296:=by omega);(have e1:((bs.length-at_:Nat):Int)=bs.length-at_:=by omega);have E1:=hd_ e1;clear e1 hb hr;refine Q6 fun R hR=>?_;go_enter Tryz.func26,Tryz.ntmps26;go_wp2;go_quiet (fail);go_wp2;(try go_ret);exact hR.out _ _ ⟨YJ (by rw [E1.out]),_,rfl⟩
theorem Q4c (F:Nat->Prop) (g:Nat) (bs:List Nat) (at_ n:Nat) (w:World) (hc:Qf w F g bs at_) (hn:n<=2^32) :
   Calls Tryz.prog 182 #[.pointer (some ⟨g,0,none⟩),.int .i64 n] w fun e w'=>∃v,e = .returned v/\Own w' 5 v (((bs.drop at_).take n).map fun b=>.int .u8 (b:Nat))/\Q0 w w' /\
     ∀k,v.ownBlock=some k->w.heap.size<=k:=by
 have hl:=Zh F g bs at_ w hc;obtain⟨A,c,hb,hr,hlt,hat,hlen,hcap⟩:=hc;obtain⟨hc0,hc1⟩:=(hb).cells2;obtain⟨k,hk⟩:=nm_ (min n (bs.length-at_));(have hcase:((n:Int)=k/\(k:Int)<=((bs.length-at_:Nat):Int))\/(((bs.length-at_:Nat):Int)=k/\(k:Int)<n):=by omega);have hcut:=(hr.take (k:=at_+k) (by omega)).cut (k:=at_) (cap:=c) (by omega) (by omega)
 have hdt:((bs.map fun b=>Value.int .u8 (b:Nat)).take (at_+k)).drop at_=((bs.drop at_).take n).map fun b=>Value.int .u8 (b:Nat):=by
   rw [List.drop_take,<-List.map_drop,<-List.map_take,show at_+k-at_=k by omega,hk]
   congr 1
   by_cases h:n<=bs.length-at_
   . rw [Nat.min_eq_left h]
   rw [Nat.min_eq_right (by omega),List.take_of_length_le (by simp),List.take_of_length_le (by simp;omega)]
 rw [hdt,show at_+k-at_=k by omega]at hcut;(have i1:(bs.length:Int)<=4294967296:=by omega);(have i2:(at_:Int)+k<=bs.length:=by omega);(have i3:(bs.length:Int)<=c:=by omega);have HL:=hd_ hl;have HC:=hd_ hcut
 have hxs1:∀u∈((bs.drop at_).take n).map (fun b=>Value.int .u8 (b:Nat)),u.oneCell'=true:=by
   intro u hu;obtain⟨_,_,rfl⟩:=List.mem_map.1 hu;rfl
 generalize ((bs.drop at_).take n).map (fun b=>Value.int .u8 (b:Nat))=XS at *;have HB:=hd_ hb;clear hl hcut hdt hk hb hr;generalize bs.length-at_=D at *;have hw1:IntKind.i64.wrap ((at_:Int)+k)=at_+k:=IntWalk.i64_in _ (by omega);refine Q6 fun R hR=>?_;(have hkk:((n=k/\k<=D)\/(D=k/\k<n)):=by omega);clear hcase;rcases hkk with ⟨hq,hkd⟩|⟨hq,hkd⟩;(all_goals have hq:=hq.symm);(all_goals subst hq)
 all_goals
   go_enter Tryz.func182,Tryz.ntmps182;go_wp2_with fail;refine HL.out.mono ?_;rintro e W ⟨rfl,kk,hW⟩;(have hb1:Blk W g 67 #[.slice A bs.length c,.int .i64 at_]:=by rw [hW];exact HB.out.drewN kk);have hc0':=hb1.cell 0;have hc1':=hb1.cell 1;simp only [List.getElem?_toArray,List.getElem?_cons_succ,List.getElem?_cons_zero]at hc0' hc1';(have f1:Q0 w W:=by rw [hW];exact(Upd.refl _ _).drewN kk);clear hW hb1;go_wp2_with fail;(have s1:(0:Int)<=at_:=by omega);(have s2:(at_:Int)<=at_+k:=by omega);(have s3:(at_:Int)+k<=c:=by omega);(have s4:((at_:Int)+k).toNat=at_+k:=by omega);go_still_tail 15,(by kernel_rfl);change wpList _ _ _ _ _ W.drew;go_wp2_with fail
   all_goals
     have hrd:=HC.out
     first
       | rw [if_neg (by omega)]at hrd
       | rw [if_pos (by omega)]at hrd
     refine(JF _ _ _ _ W.drew (hrd.fresh f1).drew hxs1 (by omega)).mono ?_;rintro e w2 ⟨v,rfl,o2,f2,k2⟩;go_wp2;(try go_ret);exact hR.out _ _ ⟨v,rfl,o2,f1.drew.trans' f2,fun b hb=>Nat.le_trans f1.size (k2 b hb)⟩
theorem Q3V {w:World} {F:Nat->Prop} {A:Option Addr} {bs:List Nat} {c at_ k:Nat} (hr:Rd w F A bs.length (bs.map fun b=>.int .u8 (b:Nat))) (hk:at_+k<=bs.length) (hc:bs.length<=c) :
   Rd w F (if c=at_ then A else A.map (·.add at_)) k (((bs.drop at_).take k).map fun b=>.int .u8 (b:Nat)):=by
 have hcut:=(hr.take (k:=at_+k) hk).cut (k:=at_) (cap:=c) (by omega) (by omega)
 rwa [List.drop_take,<-List.map_drop,<-List.map_take,show at_+k-at_=k by omega]at hcut
theorem Q2P (l:List Nat):∀u∈l.map (fun b=>Value.int .u8 (b:Nat)),u.oneCell'=true:=by
 intro u hu;obtain⟨_,_,rfl⟩:=List.mem_map.1 hu;rfl
theorem Q3W (F:Nat->Prop) (g pn pc:Nat) (bs:List Nat) (at_ k:Nat) (w:World) (hcu:Qf w F g bs at_) (hk:at_+k<=bs.length)
   (bn:Blk w pn 3 #[.int .i64 k]) (bc:Blk w pc 35 #[.pointer (some ⟨g,0,none⟩)]) (hF:∀b,F b->b≠g) :
   Calls Tryz.prog 91 #[.pointer (some ⟨pn,0,none⟩),.pointer (some ⟨pc,0,none⟩)] w fun e w'=>∃v,e = .returned (.tuple #[v,.int .i64 0]) /\
     Own w' 5 v (((bs.drop at_).take k).map fun b=>.int .u8 (b:Nat))/\Upd (fun b=>b=g) w w'/\Qf w' F g bs (at_+k):=by
 have hl:=fun j=>Zh F g bs at_ (w.drewN j) hcu;obtain⟨A,c,hb,hr,hlt,hat,hlen,hcap⟩:=hcu;have hn:=bn.cell0;have hc:=bc.cell0;(have i1:(k:Int)<=((bs.length-at_:Nat):Int):=by omega);(have i2:(bs.length:Int)<=4294967296:=by omega);(have i3:(at_:Int)+k<=bs.length:=by omega);have hx1:=Q2P ((bs.drop at_).take k);have HL:=hd_ hl;have HB:=hd_ hb;have HR:=hd_ hr;have HBN:=hd_ bn;have HBC:=hd_ bc;clear hl hb hr bn bc;generalize bs.length-at_=D at *;refine Q6 fun R hR=>?_;go_enter Tryz.func91,Tryz.ntmps91;go_wp2_with fail;go_quiet ((go_at_call 26;exact Calls.quiet_of (HL.out _)));have f1:Q0 w (w.drewN nq):=(Upd.refl _ _).drewN nq;generalize w.drewN nq=W at *;have b1:=HB.out.fresh f1;have bn1:=HBN.out.fresh f1;have bc1:=HBC.out.fresh f1;have hn1:=bn1.cell0;have hcc1:=bc1.cell0;have hc1':=b1.cell 1;have hf1':=b1.frozen 1;simp only [List.getElem?_toArray,List.getElem?_cons_succ,List.getElem?_cons_zero]at hc1';have B1:=hd_ b1;have BN1:=hd_ bn1;have BC1:=hd_ bc1;clear b1 bn1 bc1;have s0:IntKind.i64.wrap ((at_:Int)+k)=at_+k:=IntWalk.i64_in _ (by omega);go_wp2_with fail;go_still_tail 8,(by kernel_rfl);change wpList _ _ _ _ _ W.drew;go_wp2_with fail;have b2:=(B1.out.set_ 1 (.int .i64 ((at_:Int)+k))).drew;have u2:Upd (fun b=>b=g) w (W.setCell ⟨g,1,none⟩ (.int .i64 ((at_:Int)+k))).drew:=((f1.mono (T:=fun b=>b=g) (fun _ _ h=>h.elim)).setCell (p:=⟨g,1,none⟩) (fun _=>rfl) _).drew;have bn2:=(BN1.out.far (p:=⟨g,1,none⟩) (BN1.out.ne_ B1.out (by decide)) (.int .i64 ((at_:Int)+k))).drew;have bc2:=(BC1.out.far (p:=⟨g,1,none⟩) (BC1.out.ne_ B1.out (by decide)) (.int .i64 ((at_:Int)+k))).drew;generalize (W.setCell ⟨g,1,none⟩ (.int .i64 ((at_:Int)+k))).drew=W2 at *;have hn2:=bn2.cell0;have hcc2:=bc2.cell0;have hc2:=b2.cell 1;have hc20:=b2.cell 0;simp at hc2 hc20;have B2:=hd_ b2;clear b2 bn2 bc2 hn1 hcc1 hc1' hf1';(have s5:(at_:Int)+k-k=at_:=by omega);have s6:IntKind.i64.wrap (at_:Int)=at_:=IntWalk.i64_in _ (by omega);(have s1:(0:Int)<=at_:=by omega);(have s2:(at_:Int)<=at_+k:=by omega);(have s3:(at_:Int)+k<=c:=by omega);(have s4:((at_:Int)+k).toNat=at_+k:=by omega);go_still_tail 15,(by kernel_rfl);change wpList _ _ _ _ _ W2.drew;go_wp2_with fail
 all_goals
   have hrd:=Q3V (c:=c) (HR.out.upd u2 (fun b _ hb e=>hF b hb e)).drew hk hcap
   first
     | rw [if_neg (by omega)]at hrd
     | rw [if_pos (by omega)]at hrd
   refine(JF _ _ _ _ W2.drew hrd hx1 (by omega)).mono ?_;rintro e w3 ⟨v,rfl,o3,f3,k3⟩;go_wp2;(try go_ret2);refine hR.out _ _ ⟨v,rfl,o3,u2.drew.trans f3 (fun _ _ h=>h.elim),A,c,?_,?_,hlt,hk,hlen,hcap⟩
   . have:=B2.out.drew.fresh f3
     simpa using this
   exact(HR.out.upd u2 (fun b _ hb e=>hF b hb e)).drew.fresh f3
theorem Q2Q (pe pf px pc:Addr) (u:FrameMode) (w:World) (he:w.cell? pe=some (.int .i64 0)) :
   CallsD Tryz.prog 151 #[.pointer (some pe),.pointer (some pf),.pointer (some px),.pointer (some pc)] u w fun e u' w'=>u'=u/\(e = .returned (.tuple #[])/\w'=w):=by
 go_enter_d Tryz.func151,Tryz.ntmps151;go_wp2;go_end0;exact⟨rfl,rfl⟩
theorem Q65 (F:Nat->Prop) (g pn pc:Nat) (bs:List Nat) (at_ k:Nat) (w:World) (hcu:Qf w F g bs at_) (hk:at_+k<=bs.length)
   (bn:Blk w pn 3 #[.int .i64 k]) (bc:Blk w pc 35 #[.pointer (some ⟨g,0,none⟩)]) (hF:∀b,F b->b≠g) :
   Calls Tryz.prog 90 #[.pointer (some ⟨g,0,none⟩),.func (.func 91) #[] #[.pointer (some ⟨pn,0,none⟩),.pointer (some ⟨pc,0,none⟩)]] w fun e w' =>
     ∃v,e = .returned (.tuple #[v,.int .i64 0]) /\
     Own w' 5 v (((bs.drop at_).take k).map fun b=>.int .u8 (b:Nat))/\Upd (fun b=>b=g) w w'/\Qf w' F g bs (at_+k):=by
 have hmf:∀(fn:Fn) (first cap:Array Value) (w:World),(Instr.makeFunc fn first cap).run Tryz.prog w = .ok (.func fn first cap) w:=fun _ _ _ _=>rfl;have hg:=hcu.lt
 have hat:w.cell? ⟨g,1,none⟩=some (.int .i64 at_):=by
   obtain⟨A,c,hb,_⟩:=hcu;simpa using hb.cell 1
 have HCU:=hd_ hcu;have HBN:=hd_ bn;have HBC:=hd_ bc;clear hcu bn bc;(have hg1:g<w.heap.size+1:=by omega);(have hg2:g<w.heap.size+1+1:=by omega);(have hg3:g<w.heap.size+1+1+1:=by omega);refine Q6 fun R hR=>?_;go_enter_defers Tryz.func90,Tryz.ntmps90;go_wp2_with fail;obtain⟨H,hH⟩:=nm_ (w.heap.size);rw [<-hH]at hg hg1 hg2 hg3;simp only [<-hH];obtain⟨W0,hW0⟩:=nm_ ((((w.alloc (.cells #[.pointer (some ⟨g,0,none⟩)] 35)).alloc (.cells #[.slice none 0 0] 26)).alloc (.cells #[.int .i64 0] 38)).alloc (.cells #[.int .i64 at_] 3));rw [<-hW0];(have f0:Q0 w W0:=by rw [hW0];exact((((Upd.refl _ w).alloc _).alloc _).alloc _).alloc _);(have k1:Blk W0 (H+1) 26 #[.slice none 0 0]:=by rw [hW0];exact((Q2 (by simp [hH]) _ _).alloc _).alloc _);(have k2:Blk W0 (H+1+1) 38 #[.int .i64 0]:=by rw [hW0];exact(Q2 (by simp [hH]) _ _).alloc _);clear hW0;have HH:=hd_ hH;clear hH;refine(Q3W (fun b=>F b/\b<w.heap.size) g pn pc bs at_ k W0 (HCU.out.both.fresh f0) hk (HBN.out.fresh f0) (HBC.out.fresh f0) (fun b hb=>hF b hb.1)).mono ?_;rintro e w1 ⟨v,rfl,o1,u1,c1⟩;obtain⟨A1,n1,c1',rfl,hn1⟩:=o1.form';have j1:=k1.upd u1 (by omega);have j2:=k2.upd u1 (by omega);have uu:Upd (fun b=>b=g) w w1:=(f0.mono (fun _ _ h=>h.elim)).trans' u1;have d1:=j1.cell0;have d2:=j2.cell0;have z1:=j1.frozen 0;have z2:=j2.frozen 0;have J1:=hd_ j1;have J2:=hd_ j2;have HO:=hd_ o1;have HC1:=hd_ c1;clear j1 j2 k1 k2 o1 c1 hn1;go_wp2;have L1:=(J1.out.set_ 0 (.slice A1 n1 c1')).far (p:=⟨H+1+1,0,none⟩) (by simp) (.int .i64 0);have L2:=(J2.out.far (p:=⟨H+1,0,none⟩) (by simp) (.slice A1 n1 c1')).set_ 0 (.int .i64 0);have hd2:=L2.cell0;have hd1:=L1.cell0;change Leaves _ _ _ _ _ _ _;refine leaves_cons (f:=151) (args:=#[.pointer (some ⟨H+1+1,0,none⟩),.pointer (some ⟨H+1+1+1,0,none⟩),.pointer (some ⟨H+1,0,none⟩),.pointer (some ⟨H,0,none⟩)]) (by simp) (by simp [go_sem]) ?_;refine(Q2Q _ _ _ _ .returning _ hd2).mono ?_;rintro e u' w'' ⟨rfl,rfl,rfl⟩;refine⟨.tuple #[.slice A1 n1 c1',.int .i64 0],?_,hR.out _ _ ⟨_,rfl,?_,?_,?_⟩⟩
 . simp [results,Tryz.results90,go_sem,hd1,hd2]
 . exact(HO.out.far (p:=⟨H+1,0,none⟩) (HO.out.ne_blk J1.out (by decide)) _).far (p:=⟨H+1+1,0,none⟩) (HO.out.ne_blk J2.out (by decide)) _
 . exact(uu.setCell (p:=⟨H+1,0,none⟩) (fun h=>by have:=HH.out;simp at h;omega) _).setCell (p:=⟨H+1+1,0,none⟩) (fun h=>by have:=HH.out;simp at h;omega) _
 have m1:=HC1.out.upd (S:=fun b=>b=H+1) ((Upd.refl (fun b=>b=H+1) _).setCell (p:=⟨H+1,0,none⟩) (fun _=>rfl) (.slice A1 n1 c1')) (by omega) (fun b _ hb e=>by have:=hb.2;have:=HH.out;omega);have m2:=m1.upd (S:=fun b=>b=H+1+1) ((Upd.refl (fun b=>b=H+1+1) _).setCell (p:=⟨H+1+1,0,none⟩) (fun _=>rfl) (.int .i64 0)) (by omega) (fun b _ hb e=>by have:=hb.2;have:=HH.out;omega);exact m2.mono fun b hb=>hb.1
theorem XC (F:Nat->Prop) (g:Nat) (bs:List Nat) (at_ k:Nat) (w:World) (hcu:Qf w F g bs at_) (hk:at_+k<=bs.length) (hF:∀b,F b->b≠g) :
   Calls Tryz.prog 58 #[.pointer (some ⟨g,0,none⟩),.int .i64 k] w fun e w'=>∃v,e = .returned (.tuple #[v,.int .i64 0]) /\
     Own w' 5 v (((bs.drop at_).take k).map fun b=>.int .u8 (b:Nat))/\Upd (fun b=>b=g) w w'/\Qf w' F g bs (at_+k):=by
 have hmf:∀(fn:Fn) (first cap:Array Value) (w:World),(Instr.makeFunc fn first cap).run Tryz.prog w = .ok (.func fn first cap) w:=fun _ _ _ _=>rfl;obtain⟨H,hH⟩:=nm_ (w.heap.size)
 have hr:=Q65 F g (H+1) H bs at_ k ((w.alloc (.cells #[.pointer (some ⟨g,0,none⟩)] 35)).alloc (.cells #[.int .i64 k] 3)) (hcu.fresh (((Upd.refl _ w).alloc _).alloc _)) hk
   (Q2 (by simp [hH]) _ _) ((Q2 hH _ _).alloc _) hF
 rw [hH]at hr;have HR:=hd_ hr;clear hr hcu hH H;refine Q6 fun R hR=>?_;go_enter Tryz.func58,Tryz.ntmps58;go_wp2_with fail;refine HR.out.mono ?_;rintro e w1 ⟨v,rfl,o1,u1,c1⟩;go_wp2;(try go_ret2);refine hR.out _ _ ⟨v,rfl,o1,?_,c1⟩;exact(((Upd.refl (fun b=>b=g) w).alloc _).alloc _).trans' u1
def Has (lg:Int) (N:List Int):Prop:=Qg lg N 256 9/\lg≠0
instance (lg:Int) (N:List Int):Decidable (Has lg N):=by unfold Has;infer_instance
theorem YF {p:Nat} (h:p<=9):2^p<=512:=Nat.pow_le_pow_right (n:=2) (by omega) h
theorem Z5 (p:Nat) (w:World) (hp:p<=9) :
   Calls Tryz.prog 103 #[.int .i64 p] w fun e w'=>e = .returned (.int .i64 (2^p:Nat))/\w=w':=by
 (have hpi:(p:Int)<=20:=by omega);refine Q6 fun R hR=>?_;go_enter Tryz.func103,Tryz.ntmps103;go_wp2;go_loopg [3,4] p (fun m v i wr=>wr=w/\∃k:Nat,k+m=p/\i = .int .i64 k/\v = .int .i64 (2^k:Nat))
 case atStart=>exact⟨rfl,0,by omega,rfl,rfl⟩
 case round =>
   obtain⟨rfl,k,hk,rfl,rfl⟩:=hrel;(have hk1:k<=p:=by omega);have hp1:=YF (show k<=9 by omega);(have hs:2^(k+1)=2*2^k:=by rw [Nat.pow_succ];omega);obtain⟨L,hL⟩:=nm_ (2^k);rw [<-hL]at hs hp1 ⊢;have HS:=hd_ hs;have HL:=hd_ hL;have HK:=hd_ hk;clear hs hL hk;by_cases hlt:k<p
   . go_wp2
     go_roundg (gk-1)
     case measure=>have:=HK.out;omega
     case rel=>exact⟨rfl,k+1,by have:=HK.out;omega,by go_num,by rw [HS.out];go_num⟩
   go_wp2;(try go_ret);refine hR.out _ _ ⟨?_,rfl⟩;(obtain rfl:k=p:=by omega);rw [<-HL.out];rfl
theorem Zv (z:Int) (w:World) :
   Calls Tryz.prog 108 #[.int .i64 z] w fun e w'=>e = .returned (.int .i64 (if z=-1 then 1 else z))/\w=w':=by
 by_cases h:z=-1
 . subst h
   go_enter Tryz.func108,Tryz.ntmps108;go_wp2;go_ret;exact⟨rfl,rfl⟩
 rw [if_neg h];(have h1:(z == -1)=false:=by simpa using h);clear h;go_enter Tryz.func108,Tryz.ntmps108;go_wp2;go_ret;exact⟨rfl,rfl⟩
theorem Q2R (F:Nat->Prop) (A:Option Addr) (n c:Nat) (lg sy lb:Int) (N:List Int) (w:World) (hr:Rd w F A n (Q1 N)) (hn:(n:Int)<=1099511627776)
   (h:lg<0\/lb<lg\/9<lg\/n=0\/sy<n\/N[n-1]?=some 0) :
   Calls Tryz.prog 105 #[.agg #[.int .i64 lg,.slice A n c],.int .i64 sy,.int .i64 lb] w fun e w'=>e = .returned (.int .i64 13)/\Q0 w w':=by
 have fr:Q0 w (w.alloc (.cells #[.int .i64 lg,.slice A n c] 29)):=(Upd.refl _ _).alloc _;have FR:=hd_ fr;clear fr;by_cases h1:lg<0
 . clear h
   go_enter Tryz.func105,Tryz.ntmps105;go_wp2;(all_goals(go_ret;exact⟨rfl,FR.out⟩))
 by_cases h2':lb<lg
 . clear h
   go_enter Tryz.func105,Tryz.ntmps105;go_wp2;(all_goals(go_ret;exact⟨rfl,FR.out⟩))
 by_cases h2:9<lg
 . clear h
   go_enter Tryz.func105,Tryz.ntmps105;go_wp2;(all_goals(go_ret;exact⟨rfl,FR.out⟩))
 by_cases h3:n=0
 . clear h
   subst h3;go_enter Tryz.func105,Tryz.ntmps105;go_wp2;(all_goals(go_ret;exact⟨rfl,FR.out⟩))
 by_cases h4:sy<n
 . clear h
   go_enter Tryz.func105,Tryz.ntmps105;go_wp2;(all_goals(go_ret;exact⟨rfl,FR.out⟩))
 have h5:N[n-1]?=some 0:=by
   rcases h with h|h|h|h|h|h;(all_goals first|exact h|omega)
 (have h6:0<n:=by omega);clear h h3;obtain⟨b,o,hk,rfl,hb,hc⟩:=hr.int (k:=n-1) (by omega);(have e0:N[n-1]=0:=by rw [List.getElem?_eq_getElem hk]at h5;simpa using h5);rw [e0]at hc
 have hc':(w.alloc (.cells #[.int .i64 lg,.slice (some ⟨b,o,none⟩) n c] 29)).cell? ⟨b,o+(n-1),none⟩=some (.int .i64 0):=by
   rw [World.cell?_alloc_lt _ _ _ hb];exact hc
 clear hc h5 e0;go_enter Tryz.func105,Tryz.ntmps105;go_wp2;(all_goals(go_ret;exact⟨rfl,FR.out⟩))
theorem Q2S (F:Nat->Prop) (A:Option Addr) (n c:Nat) (p:Nat) (sy lb:Int) (N:List Int) (w:World) (hr:Rd w F A n (Q1 N)) (hfit:Fit N)
   (a3:p<=9) (a3b:(p:Int)<=lb) (b1:0<n) (b3:(n:Int)<=sy) (b4:(n:Int)<=1099511627776) (hlast:N[n-1]?≠some 0) :
   Calls Tryz.prog 105 #[.agg #[.int .i64 p,.slice A n c],.int .i64 sy,.int .i64 lb] w fun e w' =>
     e = .returned (.int .i64 (if(∀n∈N,-1<=n)/\QY N=2^p then 0 else 13))/\Q0 w w':=by
 (have hN:N.length=n:=by have:=hr.1;simpa using this);(have b5:1<=(n:Int):=by omega);(have a4:(p:Int)<=9:=by omega);have hsz:=Z5 p;obtain⟨b,o,hk,rfl,hb,hc⟩:=hr.int (k:=n-1) (by omega)
 have e0:(N[n-1] == 0)=false:=by
   rw [List.getElem?_eq_getElem hk]at hlast;simpa using hlast
 obtain⟨z,hz⟩:=nm_ (N[n-1]);rw [<-hz]at hc e0;clear hlast hz;obtain⟨w1,hw1⟩:=nm_ (w.alloc (.cells #[.int .i64 p,.slice (some ⟨b,o,none⟩) n c] 29))
 have hc':(w.alloc (.cells #[.int .i64 p,.slice (some ⟨b,o,none⟩) n c] 29)).cell? ⟨b,o+(n-1),none⟩=some (.int .i64 z):=by
   rw [World.cell?_alloc_lt _ _ _ hb];exact hc
 (have hr1:Rd w1 F (some ⟨b,o,none⟩) n (Q1 N):=by rw [hw1];exact hr.alloc _);(have fr:Q0 w w1:=by rw [hw1];exact(Upd.refl _ _).alloc _);(have bt:Blk w1 w.heap.size 29 #[.int .i64 p,.slice (some ⟨b,o,none⟩) n c]:=by rw [hw1];exact Blk.new _ _ _);have HSZ:=hd_ hsz;have HBT:=hd_ bt;have FR:=hd_ fr;have HW:=hd_ hw1;have HR:=hd_ hr1;have HN:=hd_ hN;have HF:=hd_ hfit;have HP:=hd_ a3;clear hc fr hr hr1 hN hw1 hk hfit hsz bt a3;refine Q6 fun R hR=>?_;go_enter Tryz.func105,Tryz.ntmps105;go_wp2;rw [<-HW.out];have bt0:=HBT.out.cell 0;have bt1:=HBT.out.cell 1;have hg1:=HBT.out.lt;simp at bt0 bt1;obtain⟨H,hH⟩:=nm_ (w.heap.size);rw [<-hH]at bt0 bt1 hg1 ⊢;clear hH hc' e0;go_loopg [7,8] n (fun m l i wr=>wr=w1/\∃k:Nat,k+m=n/\i = .int .i64 k/\l = .int .i64 (QY (N.take k))/\QY (N.take k)<=1024/\∀x∈N.take k,-1<=x)
 case atStart=>exact⟨rfl,0,by omega,rfl,by simp [QY],by simp [QY],by simp⟩
 case round =>
   obtain⟨rfl,k,hk,rfl,rfl,hl0,hall⟩:=hrel;have hs0:=YX (N.take k);have hle0:=ZI N k;obtain⟨L,hL⟩:=nm_ (QY (N.take k));rw [<-hL]at hs0 hl0 hle0 ⊢;have HA:=hd_ hall;have HS:=hd_ hL;have HL0:=hd_ hle0;clear hall hL hle0;have hpw:=YF HP.out;have HPW:=hd_ (show(2:Int)^p<=512 by exact_mod_cast hpw);clear hpw;by_cases hlt:k<n
   . have hkn:k<N.length:=by have:=HN.out;omega
     have hst:=Kc N k hkn;have hgt:=List.take_succ_eq_append_getElem hkn;have hle:=ZI N (k+1);have hmem:=List.getElem_mem hkn;obtain⟨b',o',_,e,_,hc⟩:=HR.out.int (k:=k) hlt;injection e with e;injection e with e1 e2;subst e1 e2;obtain⟨z,hz⟩:=nm_ (N[k]);rw [<-hz]at hst hgt hc hmem;have Hst:=hd_ hst;have Hgt:=hd_ hgt;have Hmem:=hd_ hmem;have Hle:=hd_ hle;clear hz hst hgt hmem hle;have HK:=hd_ hk;clear hk;by_cases hz1:z < -1
     . go_wp2
       (all_goals try go_ret);(all_goals refine hR.out _ _ ⟨YJ (if_neg fun h=>?_).symm,FR.out⟩);(all_goals have:=h.1 z Hmem.out);(all_goals omega)
     by_cases hz2:512<z
     . go_wp2
       (all_goals try go_ret);(all_goals refine hR.out _ _ ⟨YJ (if_neg fun h=>?_).symm,FR.out⟩)
       all_goals
         have h1:=Hle.out;have h2:=HPW.out;have h3:=Hst.out;have h4:=h.2;have h5:=HS.out;(have h6:QZ z=z:=by unfold QZ;rw [if_neg (by omega)]);omega
     by_cases hz3:512<L
     . go_wp2
       (all_goals try go_ret);(all_goals refine hR.out _ _ ⟨YJ (if_neg fun h=>?_).symm,FR.out⟩)
       all_goals
         have h1:=HL0.out;have h2:=HPW.out;have h4:=h.2;omega
     have ha:(if z=-1 then 1 else z)=QZ z:=by
       unfold QZ;by_cases h:z=-1
       . subst h;rfl
       rw [if_neg h,if_neg (by omega)]
     have hsta:=Zv z;rw [ha]at hsta;have hq:0<=QZ z/\QZ z<=512:=⟨JG z,by unfold QZ;split<;>omega⟩;obtain⟨q,hqd⟩:=nm_ (QZ z);rw [<-hqd]at hsta hq;have HQ:=hd_ hqd;have HST:=hd_ hsta;clear hsta ha hqd;go_wp2_with fail;refine(HST.out _).mono ?_;rintro e w2 ⟨rfl,rfl⟩;go_wp2_with fail;go_roundg (gk-1)
     case measure=>have:=HK.out;omega
     case rel =>
       have h1:=Hst.out;rw [<-HQ.out]at h1;have h2:=HS.out
       exact⟨rfl,k+1,by have:=HK.out;omega,by go_num,by rw [h1];congr 1;omega,by rw [h1];omega,by
         rw [Hgt.out];intro x hx;rcases List.mem_append.1 hx with hx|hx
         . exact HA.out x hx
         simp at hx;omega⟩
   (obtain rfl:k=n:=by omega);have hN:=HN.out;have e1:N.take N.length=N:=List.take_length;rw [<-hN]at HS HA;have hS:=HS.out;have hA:=HA.out;rw [e1]at hS hA;have HS1:=hd_ hS;have HA1:=hd_ hA;clear hS hA HS HA hN e1 hk hlt;have hsz:=HSZ.out wr HP.out;obtain⟨q,hqd⟩:=nm_ (2^p);rw [<-hqd]at hsz;have HQ:=hd_ hqd;have HZ:=hd_ hsz;(have HQ2:(2:Int)^p=q:=by rw [hqd];simp);have HQ3:=hd_ HQ2;clear hsz hqd HQ2;go_wp2_with fail;refine HZ.out.mono ?_;rintro e w2 ⟨rfl,rfl⟩;by_cases hz:L=q
   . subst hz
     go_wp2_with fail;(try go_ret);refine hR.out _ _ ⟨YJ (if_pos ⟨HA1.out,?_⟩).symm,FR.out⟩;rw [<-HS1.out,HQ3.out]
   (have hz':(L != (q:Int))=true:=by simpa using hz);go_wp2_with fail;(try go_ret);refine hR.out _ _ ⟨YJ (if_neg fun h=>?_).symm,FR.out⟩;have:=HS1.out;rw [h.2,HQ3.out]at this;omega
theorem XH (F:Nat->Prop) (A:Option Addr) (n c:Nat) (lg sy lb:Int) (N:List Int) (w:World) (hr:Rd w F A n (Q1 N)) (hfit:Fit N) (hn:(n:Int)<=1099511627776) :
   Calls Tryz.prog 105 #[.agg #[.int .i64 lg,.slice A n c],.int .i64 sy,.int .i64 lb] w fun e w' =>
     e = .returned (.int .i64 (if Qg lg N sy lb then 0 else 13))/\Q0 w w':=by
 (have hN:N.length=n:=by have:=hr.1;simpa using this);by_cases h:lg<0\/lb<lg\/9<lg\/n=0\/sy<n\/N[n-1]?=some 0
 . rw [if_neg (fun hv=>by
     obtain⟨v1,v2,v3,v4,v5,v6,_⟩:=hv;rw [hN]at v6;rcases h with h|h|h|h|h|h
     . omega
     . omega
     . omega
     . omega
     . omega
     exact v6 h)]
   exact Q2R F A n c lg sy lb N w hr hn h
 obtain⟨p,rfl⟩:∃p:Nat,lg=p:=⟨lg.toNat,by omega⟩;have hb:=Q2S F A n c p sy lb N w hr hfit (by omega) (by omega) (by omega) (by omega) hn (fun hh=>h (by simp [hh]))
 have e:(if Qg (p:Int) N sy lb then(0:Int)else 13)=if(∀n∈N,-1<=n)/\QY N=2^p then 0 else 13:=by
   by_cases h2:(∀n∈N,-1<=n)/\QY N=2^p
   . rw [if_pos h2,if_pos ⟨by omega,by omega,by omega,by omega,by omega,fun hh=>h (by rw [hN]at hh;simp [hh]),h2.1,h2.2⟩]
   rw [if_neg h2,if_neg (fun hv=>h2 ⟨hv.2.2.2.2.2.2.1,hv.2.2.2.2.2.2.2⟩)]
 rw [e];exact hb
theorem Q3D (F:Nat->Prop) (A:Option Addr) (n c:Nat) (lg:Int) (N:List Int) (w:World) (hr:Rd w F A n (Q1 N)) (hfit:Fit N) (hn:(n:Int)<=1099511627776) :
   Calls Tryz.prog 105 #[.agg #[.int .i64 lg,.slice A n c],.int .i64 256,.int .i64 9] w fun e w' =>
     e = .returned (.int .i64 (if Qg lg N 256 9 then 0 else 13))/\Q0 w w':=XH F A n c lg 256 9 N w hr hfit hn
end Go.Proofs.YtjfdaphjijfieaaGreat
namespace Go.Proofs.YtjfdaphjijfieaaGreat
def VC (N:List Int):Prop:=(∀c∈N,0<=c)/\N.sum<=1099511627776
instance (N:List Int):Decidable (VC N):=by unfold VC;infer_instance
def ZN (N:List Int):Nat:=N.countP fun c=>decide (0<c)
def Q66 (best:Option (Nat × Int)) (i:Nat) (v:Option Int):Option (Nat × Int) :=
  match v with
  | none=>best
  | some x=>match best with
    | none=>some (i,x)
    | some (j,y)=>if y<x then some (i,x)else some (j,y)
def Q5k:Nat->List (Option Int)->Option (Nat × Int)->Option (Nat × Int)
  | _,[],b=>b
  | i,v::l,b=>Q5k (i+1) l (Q66 b i v)
def Q3X (l:List (Option Int)):Option (Nat × Int):=Q5k 0 l none
def upV (N M:List Int) (s tot:Int):List (Option Int):=List.zipWith (fun c n=>if 0<c then some (c*s-n*tot)else none) N M
def dnV (N M:List Int) (s tot:Int):List (Option Int):=List.zipWith (fun c n=>if 1<n then some (-(c*s-n*tot))else none) N M
def Q6w (M:List Int) (by_:Int):Option (Nat × Int)->List Int
  | none=>M
  | some (j,_)=>M.set j (M.getD j 0+by_)
def upN (N:List Int) (s tot:Int):Nat->List Int->List Int
  | 0,M=>M
  | k+1,M=>upN N s tot k (Q6w M 1 (Q3X (upV N M s tot)))
def dnN (N:List Int) (s tot:Int):Nat->List Int->List Int
  | 0,M=>M
  | k+1,M=>dnN N s tot k (Q6w M (-1) (Q3X (dnV N M s tot)))
def Xc (N:List Int) (s tot:Int):List Int:=N.map fun c=>if 0<c then max (c*s / tot) 1 else 0
def Q6G (N:List Int) (s:Int):List Int :=
  if(Xc N s N.sum).sum<=s then upN N s N.sum (s-(Xc N s N.sum).sum).toNat (Xc N s N.sum)
  else dnN N s N.sum ((Xc N s N.sum).sum-s).toNat (Xc N s N.sum)
def Q6H (N:List Int) (s tot:Int) (M:List Int):List Int:=List.zipWith (fun c n=>if 0<c/\c*s<tot then -1 else n) N M
def Q2T:List Int->Nat
  | []=>0
  | c::l=>if Q2T l=0 then(if 0<c then 1 else 0)else Q2T l+1
def Q6C (N:List Int) (lg:Nat):List Int:=(Q6H N (2^lg) N.sum (Q6G N (2^lg))).take (Q2T N)
def Q0D (N:List Int) (lg:Int):Prop:=VC N/\0<ZN N/\0<=lg/\lg<=9/\ZN N<=2^lg.toNat
instance (N:List Int) (lg:Int):Decidable (Q0D N lg):=by unfold Q0D;infer_instance
def MOk (N M:List Int) (B:Int):Prop:=M.length=N.length/\∀(i:Nat) (c m:Int),N[i]?=some c->M[i]?=some m->0<=m/\m<=B/\(0<c->1<=m)/\(¬0<c->m=0)
end Go.Proofs.YtjfdaphjijfieaaGreat
namespace Go.Proofs.YtjfdaphjijfieaaGreat
open Go.RowKit
def Q6Y (N:List Int) (e:Ending):Prop :=
  e = .returned (.tuple #[.int .i64 (if VC N then N.sum else 0),.int .i64 (if VC N then(ZN N:Nat)else 0),.bool (decide (VC N/\0<ZN N))])
structure Q7a (w:World) (F:Nat->Prop) (A:Option Addr) (n c nc p2 p9 p10 p6 g:Nat) (N M:List Int) (s tot:Int):Prop where
  b2:Blk w p2 27 #[.slice A n c]
  b9:Blk w p9 3 #[.int .i64 s]
  b10:Blk w p10 27 #[.slice (some ⟨g,0,none⟩) n nc]
  b6:Blk w p6 3 #[.int .i64 tot]
  bg:Blk w g 3 (Q1 M).toArray
  hr:Rd w F A n (Q1 N)
def Qt (w w':World):Prop:=∃n,w'=w.drewN n
def NBd (N M:List Int) (s tot:Int):Prop:=0<=s/\s<=512/\0<=tot/\tot<=1099511627776/\(∀x∈N,0<=x/\x<=1099511627776)/\∀y∈M,0<=y/\y<=2000
def Q6l (p2 p9 p10 p6:Nat):Value:=.func (.func 202) #[] #[.pointer (some ⟨p2,0,none⟩),.pointer (some ⟨p9,0,none⟩),.pointer (some ⟨p10,0,none⟩),.pointer (some ⟨p6,0,none⟩)]
def Q74:Option (Nat × Int)->Int
  | none=>-1
  | some (j,_)=>j
theorem KF (F G:Nat->Prop) (A B:Option Addr) (n m c d:Nat) (lg lh:Int) (N M:List Int) (w:World) (hr:Rd w F A n (Q1 N)) (hs:Rd w G B m (Q1 M)) (hn:n<=1000) (hm:m<=1000) :
   Calls Tryz.prog 44 #[.agg #[.int .i64 lg,.slice A n c],.agg #[.int .i64 lh,.slice B m d]] w fun e w' =>
     e = .returned (.bool (decide (lg=lh/\N=M)))/\Q0 w w':=by
 (have hN:N.length=n:=by have:=hr.1;simpa using this);(have hM:M.length=m:=by have:=hs.1;simpa using this);(have hn':(n:Int)<=1000:=by omega);(have hm':(m:Int)<=1000:=by omega);have HN:=hd_ hN;have HM:=hd_ hM;have fr:Q0 w ((w.alloc (.cells #[.int .i64 lg,.slice A n c] 29)).alloc (.cells #[.int .i64 lh,.slice B m d] 29)):=((Upd.refl _ _).alloc _).alloc _;have FR:=hd_ fr;have HR:=hd_ (hr.both);have HS:=hd_ (hs.both);clear hr hs fr hN hM hn hm;refine Q6 fun R hR=>?_;by_cases h1:lg=lh
 . subst h1
   by_cases h2:n=m
   . subst h2
     go_enter Tryz.func44,Tryz.ntmps44;go_wp2;obtain⟨w1,hw1⟩:=nm_ ((w.alloc (.cells #[.int .i64 lg,.slice A n c] 29)).alloc (.cells #[.int .i64 lg,.slice B n d] 29));rw [<-hw1];rw [<-hw1]at FR;(have bA:Blk w1 w.heap.size 29 #[.int .i64 lg,.slice A n c]:=by rw [hw1];exact(Blk.new _ _ _).alloc _);(have bB:Blk w1 (w.heap.size+1) 29 #[.int .i64 lg,.slice B n d]:=by rw [hw1];exact Q2 (by simp) _ _);have rA:=HR.out.fresh FR.out;have rB:=HS.out.fresh FR.out;have BA:=hd_ bA;have BB:=hd_ bB;have RA:=hd_ rA;have RB:=hd_ rB;clear hw1 bA bB rA rB;generalize w.heap.size=H at *;go_loopg [5] n (fun m i wr=>(∃q,wr=w1.drewN q)/\∃k:Nat,k+m=n/\i = .int .i64 k/\N.take k=M.take k)
     case atStart=>exact⟨⟨0,rfl⟩,0,by omega,rfl,by simp⟩
     case round =>
       obtain⟨⟨q,rfl⟩,k,hk,rfl,htk⟩:=hrel;have HT:=hd_ htk;have HK:=hd_ hk;clear htk hk;have cA1:=BA.out.cell 1;have cB1:=BB.out.cell 1;simp at cA1 cB1;by_cases hlt:k<n
       . obtain⟨b1,o1,hk1,rfl,hb1,hc1⟩:=RA.out.int (k:=k) hlt
         obtain⟨b2,o2,hk2,rfl,hb2,hc2⟩:=RB.out.int (k:=k) hlt;have e1:=List.take_succ_eq_append_getElem hk1;have e2:=List.take_succ_eq_append_getElem hk2;have i1:N[k]?=some N[k]:=List.getElem?_eq_getElem hk1;have i2:M[k]?=some M[k]:=List.getElem?_eq_getElem hk2;obtain⟨x,hx⟩:=nm_ (N[k]);obtain⟨y,hy⟩:=nm_ (M[k]);rw [<-hx]at hc1 e1 i1;rw [<-hy]at hc2 e2 i2;have E1:=hd_ e1;have E2:=hd_ e2;have I1:=hd_ i1;have I2:=hd_ i2;clear hx hy e1 e2 i1 i2;by_cases hxy:x=y
         . subst hxy
           go_wp2;go_region;(all_goals go_wp2);(all_goals go_roundg (gk-1))
           case measure=>have:=HK.out;omega
           case rel=>exact⟨⟨_,rfl⟩,k+1,by have:=HK.out;omega,by go_num,by rw [E1.out,E2.out,HT.out]⟩
         (have hxy':(x != y)=true:=by simpa using hxy);have HX:=hd_ hxy;clear hxy;go_wp2;go_region;(all_goals go_wp2);(all_goals try go_ret);(all_goals refine hR.out _ _ ⟨?_,FR.out.drewN _⟩);(all_goals rw [decide_eq_false (fun h=>HX.out (by have:=I1.out;rw [h.2,I2.out]at this;injection this with this;exact this.symm))]);(all_goals rfl)
       (obtain rfl:k=n:=by have:=HK.out;omega)
       have hNM:N=M:=by
         have:=HT.out;rw [List.take_of_length_le (by have:=HN.out;omega),List.take_of_length_le (by have:=HM.out;omega)]at this;exact this
       have HNM:=hd_ hNM;clear hNM;go_wp2;(try go_ret);refine hR.out _ _ ⟨?_,FR.out.drewN _⟩;rw [decide_eq_true (p:=True/\N=M) ⟨trivial,HNM.out⟩];rfl
   (have h2':((n:Int) != m)=true:=by simp;omega);have HNE:=hd_ h2;clear h2;go_enter Tryz.func44,Tryz.ntmps44;go_wp2;(all_goals try go_ret);(all_goals refine hR.out _ _ ⟨?_,FR.out⟩);(all_goals rw [decide_eq_false (fun h=>HNE.out (by rw [<-HN.out,<-HM.out,h.2]))])
 (have h1':(lg != lh)=true:=by simpa using h1);have HNE:=hd_ h1;clear h1;go_enter Tryz.func44,Tryz.ntmps44;go_wp2;(all_goals try go_ret);(all_goals refine hR.out _ _ ⟨?_,FR.out⟩)
 all_goals
   rw [decide_eq_false (fun h=>HNE.out h.1)];rfl
theorem Q67 (F:Nat->Prop) (g:Nat) (bs:List Nat) (at_:Nat) (w:World) (hc:Qf w F g bs at_) :
   Calls Tryz.prog 23 #[.pointer (some ⟨g,0,none⟩)] w fun e w'=>e = .returned (.int .i64 at_)/\w=w':=by
 obtain⟨A,c,hb,hr,hlt,hat,hlen,hcap⟩:=hc;obtain⟨hc0,hc1⟩:=(hb).cells2;have HB:=hd_ hb;clear hb hr hlt hlen;go_enter Tryz.func23,Tryz.ntmps23;go_wp2_with fail;(try go_ret);exact⟨rfl,rfl⟩
def Q6I (w:World) (A:Option Addr) (i:Nat) (t:Int × List Int):Prop :=
  ∃(b o:Nat) (B:Option Addr) (n c:Nat),A=some ⟨b,o,none⟩/\b<w.heap.size/\w.cell? ⟨b,o+i*2,none⟩=some (.int .i64 t.1)/\w.cell? ⟨b,o+i*2+1,none⟩=some (.slice B n c) /\
    Rd w (fun _=>True) B n (Q1 t.2)/\Fit t.2
def Q7b (w:World) (A:Option Addr) (n:Nat) (ts:List (Int × List Int)):Prop:=ts.length=n/\∀i t,ts[i]?=some t->Q6I w A i t
end Go.Proofs.YtjfdaphjijfieaaGreat
