/-
  Joined texts, part 4: contracts and plain lemmas.
  Conditions: none beyond those of each theorem.
-/
import Derived.Test.YtjfdaphjijfieaaGreatRows
import Derived.Test.YtjfdaphjijfieaaGreatL3
import Derived.Test.YtjfdaphjijfieaaGreatL1
set_option maxHeartbeats 4000000
set_option linter.unusedVariables false
set_option linter.unusedSimpArgs false
set_option maxRecDepth 100000
universe u
namespace Go.Proofs.YtjfdaphjijfieaaGreat
open Go.RowKit
theorem Ku:(Tryz.prog.info? 5).map (fun i=>(i.zero,i.size,i.bytes))=some (some (.int .u8 0),1,1):=by kernel_rfl
theorem JH:(Tryz.prog.info? 3).map (fun i=>(i.zero,i.size,i.bytes))=some (some (.int .i64 0),1,8):=by kernel_rfl
theorem ZG {k:IntKind} {a b:Int} (h:a=b):Ending.returned (.int k a) = .returned (.int k b):=by rw [h]
def QO (n:Int):Int:=if n<0 then -n else n
def Yf (l:List Int):Int:=l.foldr (fun n s=>QO n+s) 0
def Qc (lg:Int) (N:List Int) (sy lb:Int):Prop :=
  0<=lg/\lg<=lb/\lg<=9/\0<N.length/\(N.length:Int)<=sy/\N[N.length-1]?≠some 0/\(∀n∈N,-1<=n)/\Yf N=2^lg.toNat
instance (lg:Int) (N:List Int) (sy lb:Int):Decidable (Qc lg N sy lb):=by unfold Qc;infer_instance
theorem Ym (n:Int) (l:List Int):Yf (n::l)=QO n+Yf l:=rfl
theorem ZW:∀a b:List Int,Yf (a++b)=Yf a+Yf b
 | [],b=>by simp [Yf]
 | x::a,b=>by rw [List.cons_append,Ym,Ym,ZW a b];omega
theorem KK (n:Int):0<=QO n:=by unfold QO;split<;>omega
theorem YT:∀l:List Int,0<=Yf l
 | []=>by simp [Yf]
 | x::l=>by have:=YT l;have:=KK x;rw [Ym];omega
theorem VV (l:List Int) (k:Nat) (h:k<l.length):Yf (l.take (k+1))=Yf (l.take k)+QO l[k]:=by
 rw [List.take_succ_eq_append_getElem h,ZW];simp [Yf]
theorem Q3B (l:List Int) (k:Nat):Yf (l.take k)<=Yf l:=by
 have h:=ZW (l.take k) (l.drop k);rw [List.take_append_drop]at h;have:=YT (l.drop k);omega
def Q2 (N:List Int):List Value:=N.map (Value.int .i64)
@[simp] theorem Y0 (N:List Int):(Q2 N).length=N.length:=by simp [Q2]
theorem Q10 {N:List Int} {k:Nat} (h:k<N.length):(Q2 N)[k]?=some (.int .i64 N[k]):=by simp [Q2,h]
theorem Rd.int {w:World} {F:Nat->Prop} {A:Option Addr} {n:Nat} {N:List Int} (h:Rd w F A n (Q2 N)) {k:Nat} (hk:k<n) :
   ∃(b o:Nat) (hk':k<N.length),A=some ⟨b,o,none⟩/\b<w.heap.size/\w.cell? ⟨b,o+k,none⟩=some (.int .i64 N[k]):=by
 obtain⟨b,o,e,_,hb,hc⟩:=h.at_ hk;(have hk':k<N.length:=by have:=h.1;simp at this;omega);exact⟨b,o,hk',e,hb,by rw [hc,Q10 hk']⟩
def Fit (N:List Int):Prop:=∀n∈N,-9223372036854775808<=n/\n<=9223372036854775807
theorem Q5I (F:Nat->Prop) (A:Option Addr) (n c:Nat) (lg sy lb:Int) (N:List Int) (w:World) (hr:Rd w F A n (Q2 N)) (hn:(n:Int)<=1099511627776)
   (h:lg<0\/lb<lg\/9<lg\/n=0\/sy<n\/N[n-1]?=some 0) :
   Calls Tryz.prog 171 #[.agg #[.int .i64 lg,.slice A n c],.int .i64 sy,.int .i64 lb] w fun e w'=>e = .returned (.int .i64 13)/\Q0 w w':=by
 have fr:Q0 w (w.alloc (.cells #[.int .i64 lg,.slice A n c] 29)):=(Upd.refl _ _).alloc _;have FR:=hd_ fr;clear fr;by_cases h1:lg<0
 . clear h
   go_enter Tryz.func171,Tryz.ntmps171;go_wp2;(all_goals(go_ret;exact⟨rfl,FR.out⟩))
 by_cases h2:lb<lg\/9<lg
 . clear h
   by_cases h3:lb<=9
   . have h4:lb<lg:=by omega
     clear h2;go_enter Tryz.func171,Tryz.ntmps171;go_wp2;go_ret;exact⟨rfl,FR.out⟩
   (have h4:9<lg:=by omega);clear h2;go_enter Tryz.func171,Tryz.ntmps171;go_wp2;go_ret;exact⟨rfl,FR.out⟩
 (have a1:0<=lg:=by omega);(have a2:lg<=lb:=by omega);(have a3:lg<=9:=by omega);(have a4:lg<=min lb 9:=by omega);by_cases h3:n=0
 . clear h h1 h2
   subst h3;go_enter Tryz.func171,Tryz.ntmps171;go_wp2;(all_goals(go_ret;exact⟨rfl,FR.out⟩))
 (have b1:0<n:=by omega);(have b2:((n:Int) == 0)=false:=by simp;omega);by_cases h4:sy<n
 . clear h h1 h2 h3
   go_enter Tryz.func171,Tryz.ntmps171;go_wp2;(all_goals(go_ret;exact⟨rfl,FR.out⟩))
 (have b3:(n:Int)<=sy:=by omega)
 have h5:N[n-1]?=some 0:=by
   rcases h with h|h|h|h|h|h;(all_goals first|exact h|omega)
 clear h h1 h2 h3 h4;obtain⟨b,o,hk,rfl,hb,hc⟩:=hr.int (k:=n-1) (by omega);(have e0:N[n-1]=0:=by rw [List.getElem?_eq_getElem hk]at h5;simpa using h5);rw [e0]at hc
 have hc':(w.alloc (.cells #[.int .i64 lg,.slice (some ⟨b,o,none⟩) n c] 29)).cell? ⟨b,o+(n-1),none⟩=some (.int .i64 0):=by
   rw [World.cell?_alloc_lt _ _ _ hb];exact hc
 clear hc h5 e0;go_enter Tryz.func171,Tryz.ntmps171;go_wp2;(all_goals(go_ret;exact⟨rfl,FR.out⟩))
theorem Q5J (F:Nat->Prop) (A:Option Addr) (n c:Nat) (lg sy lb:Int) (N:List Int) (w:World) (hr:Rd w F A n (Q2 N)) (hfit:Fit N) (hn:(n:Int)<=1099511627776)
   (a1:0<=lg) (a2:lg<=lb) (a3:lg<=9) (b1:0<n) (b3:(n:Int)<=sy) (hlast:N[n-1]?≠some 0) :
   Calls Tryz.prog 171 #[.agg #[.int .i64 lg,.slice A n c],.int .i64 sy,.int .i64 lb] w fun e w' =>
     e = .returned (.int .i64 (if(∀n∈N,-1<=n)/\Yf N=2^lg.toNat then 0 else 13))/\Q0 w w':=by
 (have hN:N.length=n:=by have:=hr.1;simpa using this);(have a4:lg<=min lb 9:=by omega);(have b2:((n:Int) == 0)=false:=by simp;omega);obtain⟨b,o,hk,rfl,hb,hc⟩:=hr.int (k:=n-1) (by omega)
 have e0:(N[n-1] == 0)=false:=by
   rw [List.getElem?_eq_getElem hk]at hlast;simpa using hlast
 obtain⟨z,hz⟩:=nm_ (N[n-1]);rw [<-hz]at hc e0;clear hlast hz;obtain⟨w1,hw1⟩:=nm_ (w.alloc (.cells #[.int .i64 lg,.slice (some ⟨b,o,none⟩) n c] 29))
 have hc':(w.alloc (.cells #[.int .i64 lg,.slice (some ⟨b,o,none⟩) n c] 29)).cell? ⟨b,o+(n-1),none⟩=some (.int .i64 z):=by
   rw [World.cell?_alloc_lt _ _ _ hb];exact hc
 (have hr1:Rd w1 F (some ⟨b,o,none⟩) n (Q2 N):=by rw [hw1];exact hr.alloc _);(have fr:Q0 w w1:=by rw [hw1];exact(Upd.refl _ _).alloc _);have FR:=hd_ fr;have HW:=hd_ hw1;have HR:=hd_ hr1;have HN:=hd_ hN;have HF:=hd_ hfit;clear hc fr hr hr1 hN hw1 hk hfit;obtain⟨p,hp,hp9⟩:∃p:Nat,lg=p/\p<=9:=⟨lg.toNat,by omega,by omega⟩;subst hp
 have hpow:(2:Int)^p<=512:=by
   have:2^p<=2^9:=Nat.pow_le_pow_right (by omega) hp9;(have h2:((2:Int)^p)=((2^p:Nat):Int):=by simp);omega
 have hpow0:(0:Int)<(2:Int)^p:=Int.pow_pos (by omega);simp only [Int.toNat_natCast];refine Q6 fun R hR=>?_;go_enter Tryz.func171,Tryz.ntmps171;go_wp2
 all_goals
   rw [<-HW.out];go_loopg [7,50] n (fun m l i wr=>wr=w1/\∃k:Nat,k+m=n/\i = .int .i64 k/\l = .int .i64 (2^p-Yf (N.take k))/\0<=2^p-Yf (N.take k)/\∀x∈N.take k,-1<=x)
   case atStart=>exact⟨rfl,0,by omega,rfl,by simp [Yf],by simp [Yf];omega,by simp⟩
   case round =>
     obtain⟨rfl,k,hk,rfl,rfl,hl0,hall⟩:=hrel;have hs0:=YT (N.take k);obtain⟨L,hL⟩:=nm_ (2^p-Yf (N.take k));(have hL0:0<=L:=by omega);(have hL1:L<=512:=by omega);rw [<-hL];have HA:=hd_ hall;have HS:=hd_ hL;clear hall hL hl0 hs0;by_cases hlt:k<n
     . have hkn:k<N.length:=by have:=HN.out;omega
       have hst:=VV N k hkn;have hfk:=HF.out N[k] (List.getElem_mem hkn);have hgt:=List.take_succ_eq_append_getElem hkn;have hle:=Q3B N (k+1);have hmem:=List.getElem_mem hkn;obtain⟨b',o',_,e,_,hc⟩:=HR.out.int (k:=k) hlt;injection e with e;injection e with e1 e2;subst e1 e2;obtain⟨z,hz⟩:=nm_ (N[k]);rw [<-hz]at hst hfk hgt hc hmem;have hr1:=HW.out;have Hst:=hd_ hst;have Hgt:=hd_ hgt;have Hmem:=hd_ hmem;have Hle:=hd_ hle;clear hz hst hgt hr1 hmem hle;obtain⟨hf1,hf2⟩:=hfk;have HK:=hd_ hk;clear hk;by_cases hz1:z < -1
       . clear hf1 hf2
         go_wp2;(try go_ret);refine hR.out _ _ ⟨ZG (if_neg fun h=>?_).symm,FR.out⟩;have:=h.1 z Hmem.out;omega
       by_cases hz2:z<0
       . obtain rfl:z=-1:=by omega
         have ha:QO (-1)=1:=rfl;have HA1:=hd_ ha;clear ha;by_cases hz3:L<1
         . go_wp2
           (try go_ret);refine hR.out _ _ ⟨ZG (if_neg fun h=>?_).symm,FR.out⟩;have h1:=Hle.out;rw [Hst.out,HA1.out,h.2]at h1;have:=HS.out;omega
         go_wp2;go_roundg (gk-1)
         case measure=>have:=HK.out;omega
         case rel =>
           have h1:=Hst.out;rw [HA1.out]at h1;have h2:=HS.out
           exact⟨rfl,k+1,by have:=HK.out;omega,by go_num,by rw [h1];congr 1;omega,by rw [h1];omega,by
             rw [Hgt.out];intro x hx;rcases List.mem_append.1 hx with hx|hx
             . exact HA.out x hx
             simp at hx;omega⟩
       (have ha:QO z=z:=by unfold QO;rw [if_neg (by omega)]);have HA1:=hd_ ha;clear ha;by_cases hz3:L<z
       . go_wp2
         (try go_ret);refine hR.out _ _ ⟨ZG (if_neg fun h=>?_).symm,FR.out⟩;have h1:=Hle.out;rw [Hst.out,HA1.out,h.2]at h1;have:=HS.out;omega
       go_wp2;go_roundg (gk-1)
       case measure=>have:=HK.out;omega
       case rel =>
         have h1:=Hst.out;rw [HA1.out]at h1;have h2:=HS.out
         exact⟨rfl,k+1,by have:=HK.out;omega,by go_num,by rw [h1];congr 1;omega,by rw [h1];omega,by
           rw [Hgt.out];intro x hx;rcases List.mem_append.1 hx with hx|hx
           . exact HA.out x hx
           simp at hx;omega⟩
     (obtain rfl:k=n:=by omega);have hN:=HN.out;have e1:N.take N.length=N:=List.take_length;rw [<-hN]at HS HA;have hS:=HS.out;have hA:=HA.out;rw [e1]at hS hA;have HS1:=hd_ hS;have HA1:=hd_ hA;clear hS hA HS HA hN e1;by_cases hz:L=0
     . subst hz
       go_wp2;(try go_ret);refine hR.out _ _ ⟨ZG (if_pos ⟨HA1.out,?_⟩).symm,FR.out⟩;have:=HS1.out;omega
     (have hz':(L != 0)=true:=by simpa using hz);go_wp2;(try go_ret);refine hR.out _ _ ⟨ZG (if_neg fun h=>?_).symm,FR.out⟩;have:=HS1.out;rw [h.2]at this;omega
theorem Zr (F:Nat->Prop) (A:Option Addr) (n c:Nat) (lg sy lb:Int) (N:List Int) (w:World) (hr:Rd w F A n (Q2 N)) (hfit:Fit N) (hn:(n:Int)<=1099511627776) :
   Calls Tryz.prog 171 #[.agg #[.int .i64 lg,.slice A n c],.int .i64 sy,.int .i64 lb] w fun e w' =>
     e = .returned (.int .i64 (if Qc lg N sy lb then 0 else 13))/\Q0 w w':=by
 (have hN:N.length=n:=by have:=hr.1;simpa using this);by_cases h:lg<0\/lb<lg\/9<lg\/n=0\/sy<n\/N[n-1]?=some 0
 . refine(Q5I F A n c lg sy lb N w hr hn h).mono ?_
   rintro e w' ⟨he,hf⟩;refine⟨?_,hf⟩;rw [he,if_neg];rintro⟨h1,h2,h3,h4,h5,h6,_⟩;rw [hN]at h4 h5 h6;rcases h with h|h|h|h|h|h;(all_goals first|omega|exact h6 h)
 refine(Q5J F A n c lg sy lb N w hr hfit hn (by omega) (by omega) (by omega) (by omega) (by omega) (fun e=>h (by simp [e]))).mono ?_;rintro e w' ⟨he,hf⟩;refine⟨?_,hf⟩;rw [he];apply ZG;by_cases hh:(∀n∈N,-1<=n)/\Yf N=2^lg.toNat
 . rw [if_pos hh,if_pos]
   exact⟨by omega,by omega,by omega,by omega,by omega,by rw [hN];exact fun e=>h (by simp [e]),hh.1,hh.2⟩
 rw [if_neg hh,if_neg];exact fun h'=>hh h'.2.2.2.2.2.2
def JB (s:Nat):Nat:=if s<16 then 1 else s / 2+s / 8+3
def Ji (s:Nat):List Nat:=(List.range s).map fun k=>k*JB s%s
def Yz:Nat->List Int->List Nat
  | _,[]=>[]
  | i,v::l=>if v=-1 then i::Yz (i+1) l else Yz (i+1) l
def Jy:Nat->List Int->List Nat
  | _,[]=>[]
  | i,v::l=>List.replicate v.toNat i++Jy (i+1) l
def Yc (N:List Int):List Nat:=Yz 0 N
def QE (N:List Int):List Nat:=Jy 0 N
theorem Q0K:∀(l:List Int) (i:Nat) (v:Int),Yz i (l++[v])=Yz i l++(if v=-1 then [i+l.length]else [])
 | [],i,v=>by simp only [List.nil_append,Yz,List.length_nil];split<;>simp
 | x::l,i,v=>by
   have h:=Q0K l (i+1) v
   have e:i+1+l.length=i+(l.length+1):=by omega
   simp only [List.cons_append,Yz,List.length_cons,h,e]
   split<;>simp
theorem Q0L:∀(l:List Int) (i:Nat) (v:Int),Jy i (l++[v])=Jy i l++List.replicate v.toNat (i+l.length)
 | [],i,v=>by simp [Jy]
 | x::l,i,v=>by
   have h:=Q0L l (i+1) v
   have e:i+1+l.length=i+(l.length+1):=by omega
   simp only [List.cons_append,Jy,List.length_cons,h,e,List.append_assoc]
theorem Q5s {N:List Int} {k:Nat} (h:k<N.length):Yc (N.take (k+1))=Yc (N.take k)++(if N[k]=-1 then [k]else []):=by
 unfold Yc;rw [List.take_succ_eq_append_getElem h,Q0K,List.length_take,Nat.min_eq_left (Nat.le_of_lt h),Nat.zero_add]
theorem Q5t {N:List Int} {k:Nat} (h:k<N.length):QE (N.take (k+1))=QE (N.take k)++List.replicate N[k].toNat k:=by
 unfold QE;rw [List.take_succ_eq_append_getElem h,Q0L,List.length_take,Nat.min_eq_left (Nat.le_of_lt h),Nat.zero_add]
theorem Xr:∀(l:List Int) (i x:Nat),x∈Yz i l->i<=x/\x<i+l.length
 | [],i,x,h=>by simp [Yz]at h
 | v::l,i,x,h=>by
   rw [Yz]at h
   rw [List.length_cons]
   split at h
   . rcases List.mem_cons.1 h with rfl|h
     . omega
     have:=Xr l (i+1) x h;omega
   have:=Xr l (i+1) x h;omega
theorem Xn:∀(l:List Int) (i x:Nat),x∈Jy i l->i<=x/\x<i+l.length
 | [],i,x,h=>by simp [Jy]at h
 | v::l,i,x,h=>by
   rw [Jy]at h
   rw [List.length_cons]
   rcases List.mem_append.1 h with h|h
   . have:=List.eq_of_mem_replicate h;omega
   have:=Xn l (i+1) x h;omega
theorem Zy:∀(l:List Int) (i:Nat),(∀v∈l,-1<=v)->(((Yz i l).length+(Jy i l).length:Nat):Int)=Yf l
 | [],i,_=>by simp [Yz,Jy,Yf]
 | v::l,i,h=>by
   have ih:=Zy l (i+1) fun x hx=>h x (List.mem_cons_of_mem _ hx)
   have hv:=h v (by simp)
   have ha:QO v=if v=-1 then 1 else(v.toNat:Nat):=by unfold QO;split<;>split<;>omega
   rw [Ym,Yz,Jy,List.length_append,List.length_replicate,ha]
   by_cases h1:v=-1
   . rw [if_pos h1,if_pos h1,List.length_cons]
     omega
   rw [if_neg h1,if_neg h1]
   omega
def Qn (s:Nat) (rs:List Nat):Int->Option Int:=fun x=>if x<=(s:Int)-1 then(rs[((s:Int)-1-x).toNat]?).map fun(i:Nat)=>(i:Int)else none
def JS (rest:List Nat) (st:(Int->Option Int) × Nat) (at_:Nat):(Int->Option Int) × Nat :=
  if(st.1 at_).isSome then st else((fun x=>if x=(at_:Int)then some (((rest[st.2]?).getD 0:Nat):Int)else st.1 x),st.2+1)
def QW (rest:List Nat) (f:Int->Option Int) (pre:List Nat):(Int->Option Int) × Nat:=pre.foldl (JS rest) (f,0)
theorem KE (rest:List Nat) (f:Int->Option Int) (pre:List Nat) (x:Nat):QW rest f (pre++[x])=JS rest (QW rest f pre) x:=by
 unfold QW;rw [List.foldl_append];rfl
def Q7 (lg:Nat) (N:List Int):List Int :=
  (List.range (2^lg)).map fun(at_:Nat)=>((QW (QE N) (Qn (2^lg) (Yc N)) (Ji (2^lg))).1 (at_:Int)).getD 0
@[simp] theorem Q1P (lg:Nat) (N:List Int):(Q7 lg N).length=2^lg:=by simp [Q7]
theorem XI {s:Nat} {rs:List Nat} {i:Nat}:(fun x:Int=>if x=(s:Int)-1-rs.length then some (i:Int)else Qn s rs x)=Qn s (rs++[i]):=by
 funext x
 unfold Qn;by_cases h1:x<=(s:Int)-1
 . rw [if_pos h1,if_pos h1]
   by_cases h2:x=(s:Int)-1-rs.length
   . rw [if_pos h2,show((s:Int)-1-x).toNat=rs.length by omega]
     simp
   rw [if_neg h2,List.getElem?_append];by_cases h3:((s:Int)-1-x).toNat<rs.length
   . rw [if_pos h3]
   rw [if_neg h3,List.getElem?_eq_none (by omega),List.getElem?_eq_none (by simp;omega)]
 rw [if_neg h1,if_neg h1,if_neg (by omega)]
theorem Q5K {s:Nat} {rs:List Nat} {x:Int} (hx:0<=x/\x<s):(Qn s rs x).isSome=decide ((s:Int)-rs.length<=x):=by
 unfold Qn;rw [if_pos (by omega),Option.isSome_map];by_cases h:(s:Int)-rs.length<=x
 . rw [decide_eq_true h,List.getElem?_eq_getElem (by omega)];rfl
 rw [decide_eq_false h,List.getElem?_eq_none (by omega)];rfl
theorem Q0D (rest:List Nat) (f:Int->Option Int):∀(pre:List Nat),pre.Nodup ->
   (∀x:Nat,((QW rest f pre).1 x).isSome=((f x).isSome||decide (x∈pre)))/\(QW rest f pre).2=(pre.filter fun(x:Nat)=>!(f x).isSome).length:=by
 intro pre
 induction hn:pre.length generalizing pre with
 | zero =>
   intro _;have:pre=[]:=List.eq_nil_of_length_eq_zero hn;subst this;exact⟨fun x=>by simp [QW],rfl⟩
 | succ n ih =>
   intro hd;obtain⟨q,y,rfl⟩:∃q y,pre=q++[y]:=⟨pre.dropLast,pre.getLast (by intro h;subst h;simp at hn),(List.dropLast_concat_getLast _).symm⟩;(have hq:q.length=n:=by simpa using hn);rw [List.nodup_append]at hd;obtain⟨h1,h2⟩:=ih q hq hd.1;have hy:y ∉ q:=fun h=>hd.2.2 y h y (by simp) rfl;rw [KE];unfold JS;have h3:=h1 y;rw [decide_eq_false hy,Bool.or_false]at h3;rw [h3];by_cases hf:(f y).isSome
   . rw [if_pos hf]
     refine⟨fun x=>?_,?_⟩
     . rw [h1 x]
       by_cases hxy:x=y
       . subst hxy;simp [hf]
       simp [hxy]
     (have e:(List.filter (fun(x:Nat)=>!(f x).isSome) [y]).length=0:=by simp only [List.filter_cons,hf];rfl);rw [h2,List.filter_append,List.length_append,e];rfl
   rw [if_neg hf];refine⟨fun x=>?_,?_⟩
   . simp only
     by_cases hxy:x=y
     . subst hxy;simp
     rw [if_neg (by omega),h1 x];simp [hxy]
   (have hf':(f y).isSome=false:=by simpa using hf);(have e:(List.filter (fun(x:Nat)=>!(f x).isSome) [y]).length=1:=by simp only [List.filter_cons,hf'];rfl);simp only;rw [h2,List.filter_append,List.length_append,e]
theorem Q1a:∀(m:Nat) (l:List Nat),l.Nodup->(∀x∈l,x<m)->l.length<=m
 | 0,l,_,h=>by
   cases l with
   | nil=>exact Nat.le_refl _
   | cons x l=>have:=h x (by simp);omega
 | m+1,l,hd,h=>by
   have h1:=Q1a m (l.erase m) (hd.erase m) fun x hx=>by
     have h2:=h x (List.mem_of_mem_erase hx)
     have h3:x≠m:=fun e=>by
       subst e
       exact(List.Nodup.mem_erase_iff hd).1 hx |>.1 rfl
     omega
   have h4:=List.length_erase (a:=m) (l:=l)
   split at h4<;>omega
theorem Q4K {s:Nat} {rest rs:List Nat} {pre:List Nat} {x:Nat} (hd:(pre++[x]).Nodup) (hlt:∀y∈pre++[x],y<s) (hR:rs.length+rest.length=s)
   (hn:((QW rest (Qn s rs) pre).1 x).isSome=false):(QW rest (Qn s rs) pre).2<rest.length:=by
 have hd1:=(List.nodup_append.1 hd).1;obtain⟨h1,h2⟩:=Q0D rest (Qn s rs) pre hd1;rw [h1 x]at hn;have hx:=hlt x (by simp)
 have hfx:(Qn s rs x).isSome=false:=by
   cases hq:(Qn s rs x).isSome
   . rfl
   rw [hq]at hn;simp at hn
 have h3:((pre++[x]).filter fun(y:Nat)=>!(Qn s rs y).isSome).length=(QW rest (Qn s rs) pre).2+1:=by
   (have e:(List.filter (fun(y:Nat)=>!(Qn s rs y).isSome) [x]).length=1:=by simp only [List.filter_cons,hfx];rfl);rw [h2,List.filter_append,List.length_append,e]
 have h4:=Q1a rest.length ((pre++[x]).filter fun(y:Nat)=>!(Qn s rs y).isSome) (hd.filter _) fun y hy=>by
   obtain⟨hm,hf⟩:=List.mem_filter.1 hy;have hys:=hlt y hm;rw [Q5K (by omega)]at hf;simp at hf;omega
 omega
theorem VQ:∀lg:Nat,lg<=9->(Ji (2^lg)).Nodup:=by
 (have h:∀lg:Fin 10,(Ji (2^lg.val)).Nodup:=by decide +kernel);exact fun lg hl=>h ⟨lg,by omega⟩
theorem Q3i {s x:Nat} (hs:0<s) (h:x∈Ji s):x<s:=by
 unfold Ji at h;obtain⟨k,_,rfl⟩:=List.mem_map.1 h;exact Nat.mod_lt _ hs
@[simp] theorem Qa5 (s:Nat):(Ji s).length=s:=by simp [Ji]
def Zw (R M:List Int) (k:Nat):List Int:=R.take k++M.drop k
theorem Q0M {R M:List Int} {k:Nat} (h:R.length=M.length) (hk:k<=M.length):(Zw R M k).length=M.length:=by simp [Zw];omega
theorem Q2c (R M:List Int):Zw R M 0=M:=by simp [Zw]
theorem Q3e {R M:List Int} (h:R.length=M.length):Zw R M M.length=R:=by
 unfold Zw;rw [List.drop_eq_nil_of_le (Nat.le_refl _),List.append_nil,List.take_of_length_le (by omega)]
theorem Q15 {R M:List Int} {k:Nat} (h:R.length=M.length) (hk:k<M.length):(Zw R M k)[k]?=M[k]?:=by
 unfold Zw;rw [List.getElem?_append_right (by simp;omega),List.length_take,List.getElem?_drop]
 congr 1
 omega
theorem Q14 {R M:List Int} {k:Nat} (h:R.length=M.length) (hk:k<M.length) (x:Int) (hx:R[k]?=some x):(Zw R M k).set k x=Zw R M (k+1):=by
 apply List.ext_getElem?;intro i;rw [List.getElem?_set];unfold Zw;by_cases hi:k=i
 . subst hi
   rw [if_pos rfl,if_pos (by simp;omega),List.getElem?_append_left (by simp;omega),List.getElem?_take,if_pos (by omega),hx]
 rw [if_neg hi];by_cases h2:i<k
 . rw [List.getElem?_append_left (by simp;omega),List.getElem?_append_left (by simp;omega),List.getElem?_take,List.getElem?_take,if_pos h2,if_pos (by omega)]
 rw [List.getElem?_append_right (by simp;omega),List.getElem?_append_right (by simp;omega),List.length_take,List.length_take,List.getElem?_drop,List.getElem?_drop]
 congr 1
 omega
theorem Q2d {R M:List Int} {k:Nat} (h:R.length=M.length) (hk:k<M.length) (hx:R[k]?=M[k]?):Zw R M k=Zw R M (k+1):=by
 rw [<-Q14 h hk M[k] (by rw [hx];exact List.getElem?_eq_getElem hk)];apply List.ext_getElem?;intro i;rw [List.getElem?_set];by_cases hi:k=i
 . subst hi
   rw [if_pos rfl,if_pos (by rw [Q0M h (by omega)];exact hk),Q15 h hk,List.getElem?_eq_getElem hk]
 rw [if_neg hi]
def Zh (B:List Int) (k:Nat):List Int:=Zw B (List.replicate B.length 0) k
theorem Q3U {B:List Int} {k:Nat} (h:k<=B.length):(Zh B k).length=B.length:=by
 unfold Zh;rw [Q0M (by simp) (by simpa using h)];simp
theorem Q2b (B:List Int):Zh B 0=List.replicate B.length 0:=Q2c _ _
theorem Q3d (B:List Int):Zh B B.length=B:=by
 have h:=Q3e (R:=B) (M:=List.replicate B.length 0) (by simp);rw [List.length_replicate]at h;exact h
theorem Q3c {B:List Int} {k:Nat} (h:k<B.length):(Zh B k)[k]?=some 0:=by
 unfold Zh;rw [Q15 (by simp) (by simpa using h)];simp [h]
theorem Q3b {B:List Int} {k:Nat} (h:k<B.length):(Zh B k).set k B[k]=Zh B (k+1) :=
 Q14 (by simp) (by simpa using h) _ (List.getElem?_eq_getElem h)
theorem Q6l {B:List Int} {k:Nat} (h:k<B.length) (h0:B[k]=0):Zh B k=Zh B (k+1) :=
 Q2d (by simp) (by simpa using h) (by rw [List.getElem?_eq_getElem h,h0];simp [h])
theorem Blk.rdg {w:World} {g:Nat} {t:TypeId} {N:List Int} {n:Nat} (h:Blk w g t (Q2 N).toArray) (hn:N.length=n):Rd w (fun b=>b=g) (some ⟨g,0,none⟩) n (Q2 N) :=
 ⟨by simpa using hn,fun _=>⟨g,0,rfl,rfl,h.lt,fun j hj=>by rw [Nat.zero_add,h.cell];simp⟩⟩
theorem Zv {M:List Int} {k:Nat} (x:Int):(Q2 M).toArray.setIfInBounds k (.int .i64 x)=(Q2 (M.set k x)).toArray:=by
 apply Array.toList_inj.1;simp [Q2,List.map_set]
theorem Q8K (g:Nat) (v x n k:Nat) (w:World) (hv:w.cell? ⟨g,0,none⟩=some (.int .u64 v)) (hn:w.cell? ⟨g,1,none⟩=some (.int .i64 n))
   (h1:n<=7) (h3:k<=32) (hx:x<2^k) (hvn:v<2^n) (f0:w.frozen? ⟨g,0,none⟩=false) (f1:w.frozen? ⟨g,1,none⟩=false) :
   Calls Tryz.prog 131 #[.pointer (some ⟨g,0,none⟩),.int .u64 x,.int .i64 k] w fun e w'=>e = .returned (.tuple #[]) /\
     ((w.setCell ⟨g,0,none⟩ (.int .u64 (v+x*2^n:Nat))).setCell ⟨g,1,none⟩ (.int .i64 (n+k:Nat))).drew=w':=by
 have e1:bits .or .u64 (v:Int) (IntKind.u64.wrap ((x:Int)*2^n))=((v+x*2^n:Nat):Int):=by
   have hp:2^n<=2^7:=Nat.pow_le_pow_right (by omega) h1;have hk:2^k<=2^32:=Nat.pow_le_pow_right (by omega) h3;have hxn:x*2^n<2^32*2^7:=Nat.lt_of_lt_of_le (Nat.mul_lt_mul_of_pos_right hx (Nat.two_pow_pos n)) (Nat.mul_le_mul hk hp);rw [IntKind.wrap_u64,show((x:Int)*2^n)=((x*2^n:Nat):Int) by simp,show((x*2^n:Nat):Int)%18446744073709551616=((x*2^n:Nat):Int) by omega];rw [u64_or_nat _ _ (by omega) (by omega),Nat.or_comm,nat_join n _ _ (by simp) hvn,Nat.add_comm]
 have E1:=hd_ e1;clear e1;have HX:=hd_ hx;clear hx hvn;go_enter Tryz.func131,Tryz.ntmps131;go_wp2;go_region;(all_goals go_wp2);(all_goals go_end0);(all_goals refine⟨rfl,?_⟩);(all_goals rw [E1.out];rfl)
theorem Q2I (g:Nat) (n:Nat) (w:World) (hn:w.cell? ⟨g,1,none⟩=some (.int .i64 n)) (h:n<8) :
   Calls Tryz.prog 132 #[.pointer (some ⟨g,0,none⟩)] w fun e w'=>e = .returned (.tuple #[.int .u8 0,.bool false])/\w=w':=by
 go_enter Tryz.func132,Tryz.ntmps132;go_wp2;go_ret2;exact⟨rfl,rfl⟩
theorem Q1W (g:Nat) (v n:Nat) (w:World) (hv:w.cell? ⟨g,0,none⟩=some (.int .u64 v)) (hn:w.cell? ⟨g,1,none⟩=some (.int .i64 n)) (h:8<=n) (h':n<=100)
   (f0:w.frozen? ⟨g,0,none⟩=false) (f1:w.frozen? ⟨g,1,none⟩=false) :
   Calls Tryz.prog 132 #[.pointer (some ⟨g,0,none⟩)] w fun e w'=>e = .returned (.tuple #[.int .u8 (v%256:Nat),.bool true]) /\
     (w.setCell ⟨g,0,none⟩ (.int .u64 (v / 256:Nat))).setCell ⟨g,1,none⟩ (.int .i64 (n-8:Nat))=w':=by
 go_enter Tryz.func132,Tryz.ntmps132;go_wp2;go_ret2;exact⟨rfl,by rw [show((n-8:Nat):Int)=(n:Int)-8 by omega];rfl⟩
def Qd (w:World) (S:Nat->Prop) (g:Nat) (l:List Bool):Prop :=
  ∃(v n:Nat) (sv:Value) (bs:List Nat),Blk w g 165 #[.int .u64 v,.int .i64 n,sv]/\Own w 5 sv (bs.map fun b=>.int .u8 (b:Nat))/\n<8/\v<2^n /\
    (∀b∈bs,b<256)/\l=Qi bs++Qf n v/\S g/\∀k,sv.ownBlock=some k->S k
theorem Qd.drewN {w:World} {S:Nat->Prop} {g:Nat} {l:List Bool} (h:Qd w S g l) (k:Nat):Qd (w.drewN k) S g l:=h
def Q73 (w:World) (S:Nat->Prop) (g:Nat) (l:List Bool) (n:Nat):Prop :=
  ∃(v:Nat) (sv:Value) (bs:List Nat),Blk w g 165 #[.int .u64 v,.int .i64 n,sv]/\Own w 5 sv (bs.map fun b=>.int .u8 (b:Nat))/\v<2^n /\
    (∀b∈bs,b<256)/\l=Qi bs++Qf n v/\S g/\∀k,sv.ownBlock=some k->S k
theorem Q8L {x n:Nat} (j gk:Nat) (hgk:gk<=32) (hx:x<2^n) (hn:n<=32) (_:j<=n) :
   bits .and .u64 ((x:Int) / 2^j) (IntKind.u64.wrap (IntKind.u64.wrap (2^gk)-1))=((x / 2^j%2^gk:Nat):Int):=by
 have h1:2^gk<=2^32:=Nat.pow_le_pow_right (by omega) hgk;have h2:2^n<=2^32:=Nat.pow_le_pow_right (by omega) hn;have h3:=Nat.two_pow_pos gk
 have e1:IntKind.u64.wrap (IntKind.u64.wrap (2^gk)-1)=((2^gk-1:Nat):Int):=by
   rw [IntKind.wrap_u64,IntKind.wrap_u64,show(2:Int)^gk=((2^gk:Nat):Int) by simp];omega
 have h4:x / 2^j<=x:=Nat.div_le_self _ _;rw [e1,show(x:Int) / 2^j=((x / 2^j:Nat):Int) by simp,u64_and_nat _ _ (by omega) (by omega),Nat.and_two_pow_sub_one_eq_mod]
theorem KA (S:Nat->Prop) (g:Nat) (x n:Nat) (l:List Bool) (w:World) (hw:Qd w S g l) (hn:n<=32) (hx:x<2^n) (hl:l.length<=2^30) (hS:∀k,w.heap.size<=k->S k) :
   Calls Tryz.prog 80 #[.pointer (some ⟨g,0,none⟩),.int .u64 x,.int .i64 n] w fun e w'=>e = .returned (.int .i64 0) /\
     Upd S w w'/\Qd w' S g (l++Qf n x):=by
 have t1:((x:Int) / 2^n != 0)=false:=by
   (have:((x:Int) / 2^n)=((x / 2^n:Nat):Int):=by simp);rw [this,Nat.div_eq_of_lt hx];rfl
 have HX:=hd_ hx;clear hx;go_enter Tryz.func80,Tryz.ntmps80;go_wp2_with fail;go_loopg [1,2] n (fun m v1 v2 wr=>∃j,j+m=n/\v1 = .int .u64 (x / 2^j:Nat)/\v2 = .int .i64 m/\Upd S w wr/\Qd wr S g (l++Qf j x))
 case atStart=>exact⟨0,by omega,by simp,rfl,Upd.refl _ _,by simpa [Qf]using hw⟩
 case round =>
   obtain⟨j,hj,rfl,rfl,hu,v,n0,sv,bs,hb,ho,hn0,hv0,hbs,hlb,hSg,hSs⟩:=hrel;have hc0:=hb.cell 0;have hc1:=hb.cell 1;have hc2:=hb.cell 2;have HB:=hd_ hb;simp at hc0 hc1 hc2;clear hb;(have hgk:gk<=32:=by omega);have HJ:=hd_ hj;have HL:=hd_ hlb;clear hj hlb;by_cases hg0:0<gk
   . go_wp2_with fail
     go_still_tail 9,(by kernel_rfl);change wpList _ _ _ _ _ wr.drew;go_wp2_with fail;rw [Q8L _ _ hgk HX.out hn (by have:=HJ.out;omega)];refine(Q8K g v (x / 2^j%2^gk) n0 gk wr.drew hc0 hc1 (by omega) hgk (Nat.mod_lt _ (Nat.two_pow_pos _)) hv0 (by simpa using HB.out.frozen 0) (by simpa using HB.out.frozen 1)).mono ?_;rintro e w2 ⟨rfl,hw2⟩
     have r0:Q73 w2 S g (l++Qf (j+gk) x) (n0+gk):=by
       subst hw2;refine⟨_,sv,bs,((HB.out.drew.set_ 0 _).set_ 1 _).drew,((ho.drew.far (by simpa using ho.ne_blk HB.out (by decide)) _).far (by simpa using ho.ne_blk HB.out (by decide)) _).drew,?_,hbs,?_,hSg,hSs⟩
       . have h1:=Nat.mod_lt (x / 2^j) (Nat.two_pow_pos gk)
         rw [Nat.pow_add]
         calc v+x / 2^j%2^gk*2^n0<2^n0+x / 2^j%2^gk*2^n0:=by omega
           _=(x / 2^j%2^gk+1)*2^n0:=by rw [Nat.add_mul];omega
           _<=2^gk*2^n0:=Nat.mul_le_mul_right _ h1
           _=2^n0*2^gk:=Nat.mul_comm _ _
       rw [Vt j gk x,<-List.append_assoc,HL.out,List.append_assoc,<-KM gk,Q2L hv0,Nat.mul_comm (2^n0)]
     have u0:Upd S w w2:=by
       subst hw2;exact((hu.drew.setCell (fun _=>hSg) _).setCell (fun _=>hSg) _).drew
     clear hw2 ho hc0 hc1 hc2 HB hu HL hv0 hSs hbs bs sv;obtain⟨k0,rfl⟩:∃k0,k0=gk:=⟨gk,rfl⟩;obtain⟨wo,rfl⟩:=nm_ (wr);go_wp2_with fail;(have hlen:(l++Qf (j+k0) x).length<=2^31:=by have:=HJ.out;simp;omega);go_loopg [] (n0+k0) (fun m wr=>Upd S w wr/\Q73 wr S g (l++Qf (j+k0) x) m/\m<=39)
     case atStart=>exact⟨u0,r0,by omega⟩
     case round =>
       obtain⟨hu,⟨v,sv,bs,hb,ho,hv0,hbs,hlb,hSg,hSs⟩,hm⟩:=hrel;have hc0:=hb.cell 0;have hc1:=hb.cell 1;have hc2:=hb.cell 2;have HB:=hd_ hb;simp at hc0 hc1 hc2;clear hb;have HL:=hd_ hlb;clear hlb;by_cases hm8:gk<8
       . go_wp2_with (go_at_call 132;refine(Q2I g gk wr hc1 hm8).mono ?_;rintro e w' ⟨rfl,rfl⟩)
         go_roundg 0
         case measure=>omega
         case rel=>exact⟨j+k0,by have:=HJ.out;omega,by simp [Nat.pow_add,<-Nat.div_div_eq_div_mul],by simp,hu,v,gk,sv,bs,HB.out,ho,hm8,hv0,hbs,HL.out,hSg,hSs⟩
       go_wp2_with fail;refine(Q1W g v gk wr hc0 hc1 (by omega) (by omega) (HB.out.frozen 0) (HB.out.frozen 1)).mono ?_;rintro e w3 ⟨rfl,hw3⟩
       have b3:Blk w3 g 165 #[.int .u64 (v / 256:Nat),.int .i64 (gk-8:Nat),sv]:=by
         subst hw3;exact(HB.out.set_ 0 _).set_ 1 _
       have o3:Own w3 5 sv (bs.map fun b=>.int .u8 (b:Nat)):=by
         subst hw3;exact(ho.far (by simpa using ho.ne_blk HB.out (by decide)) _).far (by simpa using ho.ne_blk HB.out (by decide)) _
       have u3:Upd S w w3:=by
         subst hw3;exact(hu.setCell (fun _=>hSg) _).setCell (fun _=>hSg) _
       clear hw3 ho hu hc0 hc1 hc2 HB;have hc2:=b3.cell 2;have hf2:=b3.frozen 2;have B3:=hd_ b3;simp at hc2;clear b3
       have hrd:Rd (w3.alloc (.cells #[.int .u8 ((v:Int)%256)] 5)) (fun b=>b=w3.heap.size) (some ⟨w3.heap.size,0,none⟩) 1 [.int .u8 ((v:Int)%256)] :=
         Rd.one _ _ _
       go_wp2_with (at_builtin;go_must (refine YW _ rfl (.tmp 57) (.tmp 59) _ rfl 5 _ 1 Tryz.underlying26 Ku rfl sv _ rfl (o3.alloc _) _ 1 _ _ rfl hrd (by simp [Value.oneCell']) (by omega) ?hlen ?_))
       case hlen=>have:=HL.out;have h1:=congrArg List.length this;simp at h1 hlen ⊢;omega
       intro v' w4 o4 hg4 hat4;obtain⟨A4,n4,c4,rfl,_⟩:=o4.form';have b4:=(B3.out.alloc (.cells #[.int .u8 ((v:Int)%256)] 5)).grown hg4 (o3.ne_blk B3.out (by decide));have u4:Upd S w w4:=(u3.alloc _).grown hg4 fun k hk _=>hSs k hk
       have S4:∀k,(Value.slice A4 n4 c4).ownBlock=some k->S k:=by
         intro k hk;rcases hat4 with e|e
         . exact hSs k (e ▸ hk)
         rw [e]at hk;injection hk with hk;subst hk;exact hS _ (by have:=u3.size;simp;omega)
       have hc2:=b4.cell 2;have hf2:=b4.frozen 2;have B4:=hd_ b4;simp at hc2;have HS4:=hd_ S4;have HO4:=hd_ o4;clear b4 B3 o3 u3 hrd hg4 hat4 S4 o4;go_wp2;go_roundg (gk-8)
       case measure=>omega
       case rel =>
         refine⟨u4.setCell (fun _=>hSg) _,⟨v / 256,_,bs++[v%256],(B4.out.set_ 2 _),?_,?_,?_,?_,hSg,HS4.out⟩,by omega⟩
         . have:=HO4.out.far (p:=⟨g,2,none⟩) (HO4.out.ne_blk B4.out (by decide)) (.slice A4 n4 c4)
           simpa using this
         . rw [Nat.div_lt_iff_lt_mul (by omega),show 256=2^8 from rfl,<-Nat.pow_add,show gk-8+8=gk by omega];exact hv0
         . intro b hb
           rcases List.mem_append.1 hb with h|h
           . exact hbs b h
           simp at h;omega
         rw [HL.out,KD,List.append_assoc]
         congr 1
         have:=Vt 8 (gk-8) v;rw [show 8+(gk-8)=gk by omega]at this;rw [this,show Qf 8 v=Qi [v%256] by rw [JJ,Q0S,List.append_nil];exact(KM 8 v).symm]
   go_wp2;go_ret;(obtain rfl:gk=0:=by omega);(obtain rfl:j=n:=by have:=HJ.out;omega);exact⟨rfl,hu,v,n0,sv,bs,HB.out,ho,hn0,hv0,hbs,HL.out,hSg,hSs⟩
theorem Jv {F:Nat->Prop} (A:Option Addr) (n c:Nat) (xs:List Value) (w:World) (hr:Rd w F A n xs) (h1:∀u∈xs,u.oneCell'=true) (hn:n<=2^40) :
   Calls Tryz.prog 33 #[.slice A n c] w fun e w'=>∃v,e = .returned v/\Own w' 5 v xs/\Q0 w w'/\∀k,v.ownBlock=some k->w.heap.size<=k:=by
 have q:∀(w:World) (a:Option Addr) (n c n' c':Nat),(binOp .eql 26 (.slice a n c) (.slice none n' c')).run Tryz.prog w = .ok (.bool a.isNone) w :=
   fun w a n c n' c'=>Lib.run_eql_slice_nil w _ _ a n c n' c' Tryz.underlying26
 rcases A with _|ad
 . have hx:n=0:=by
     rcases Nat.eq_zero_or_pos n with h|h
     . exact h
     obtain⟨_,_,h,_⟩:=hr.2 h;cases h
   subst hx;have hxs:xs=[]:=List.eq_nil_of_length_eq_zero hr.1;subst hxs;go_enter Tryz.func33,Tryz.ntmps33;go_wp2;go_ret;exact⟨_,rfl,Own.nil _ _,Upd.refl _ _,by simp [Value.ownBlock]⟩
 have o0:Own (w.alloc (.cells #[] 5)) 5 (.slice (some ⟨w.heap.size,0,none⟩) 0 0) []:=World.ownsRow_made w #[] 0 (Nat.zero_le _) (by simp [maxLen]) (by simp);have hlen:n<=1099511627776:=hn;clear hn;go_enter Tryz.func33,Tryz.ntmps33;go_wp2_with (at_builtin;go_must (refine YW _ rfl (.tmp 5) (.tmp 6) _ rfl 5 _ 1 Tryz.underlying26 Ku rfl _ [] rfl o0 _ n _ _ rfl (hr.alloc _) h1 (by omega) (by simpa using hlen) ?_));intro v' w1 o1 g1 a1;go_wp2;go_ret;exact⟨v',rfl,by simpa using o1,((Upd.refl _ _).alloc _).grown g1 (fun k hk hlt=>by simp [Value.ownBlock]at hk;omega),Xf (S:=fun k=>w.heap.size<=k) a1 (fun k hk=>by simp [Value.ownBlock]at hk;omega) (by simp)⟩
theorem Q27 (S:Nat->Prop) (g:Nat) (l:List Bool) (w:World) (hw:Qd w S g l) (hl:l.length<=2^40) :
   Calls Tryz.prog 134 #[.pointer (some ⟨g,0,none⟩)] w fun e w'=>∃v,e = .returned v/\Own w' 5 v ((QN l).map fun b=>.int .u8 (b:Nat))/\Q0 w w' /\
     ∀k,v.ownBlock=some k->w.heap.size<=k:=by
 obtain⟨v,n0,sv,bs,hb,ho,hn0,hv0,hbs,hlb,hSg,hSs⟩:=hw;(have e1:QN l=bs++QN (Qf n0 v):=by rw [hlb,Kh _ _ hbs]);(have hlen:bs.length<=2^38:=by have h2:=congrArg List.length hlb;simp at h2;omega);have E1:=hd_ e1;clear e1 hlb hl;have hc0:=hb.cell 0;have hc1:=hb.cell 1;have hc2:=hb.cell 2;have HB:=hd_ hb;clear hb;simp at hc0 hc1 hc2;obtain⟨A,c,rfl,hn,hr⟩:=ho.form;have HL:=hd_ hlen;clear hlen;simp only [List.length_map]at hc2 hr hn;go_enter Tryz.func134,Tryz.ntmps134;go_wp2_with fail;refine(Jv A _ c _ w hr (by simp [Value.oneCell']) (by have:=HL.out;omega)).mono ?_;rintro e w1 ⟨v1,rfl,o1,f1,k1⟩;obtain⟨hc0,hc1⟩:=((HB.out.fresh f1)).cells2;by_cases h0:0<n0
 . have hrd:Rd (w1.alloc (.cells #[.int .u8 ((v:Int)%256)] 5)) (fun b=>b=w1.heap.size) (some ⟨w1.heap.size,0,none⟩) 1 [.int .u8 ((v:Int)%256)]:=Rd.one _ _ _
   go_wp2_with (at_builtin;go_must (refine YW _ rfl (.tmp 17) (.tmp 24) _ rfl 5 _ 1 Tryz.underlying26 Ku rfl v1 _ rfl (o1.alloc _) _ 1 _ _ rfl hrd (by simp [Value.oneCell']) (by omega) (by have:=HL.out;simp;omega) ?_));intro v' w2 o2 g2 a2;go_wp2;go_ret;refine⟨v',rfl,?_,(f1.alloc _).grown g2 (fun k hk hlt=>by have:=k1 k hk;omega),Xf (S:=fun k=>w.heap.size<=k) a2 k1 (by have:=f1.size;simp;omega)⟩;rw [E1.out,VC _ (by simpa using h0) (by simp;omega),YU,Nat.mod_eq_of_lt hv0];have:v<2^8:=Nat.lt_of_lt_of_le hv0 (Nat.pow_le_pow_right (by omega) (by omega));rw [show((v:Int)%256)=(v:Int) by omega]at o2;simpa using o2
 go_wp2;go_ret;(obtain rfl:n0=0:=by omega);exact⟨v1,rfl,by rw [E1.out];simpa [Qf,Q1Z]using o1,f1,k1⟩
theorem Q4e (x y q k:Nat) (hx:x<2^q) (hy:y<2^k) (h:q+k<=64) :
   bits .or .u64 (x:Int) (IntKind.u64.wrap ((y:Int)*2^q))=((x+y*2^q:Nat):Int):=by
 have h1:y*2^q<2^k*2^q:=Nat.mul_lt_mul_of_pos_right hy (Nat.two_pow_pos q);(have h2:2^k*2^q<=2^64:=by rw [<-Nat.pow_add];exact Nat.pow_le_pow_right (by omega) (by omega));have h3:2^q<=2^64:=Nat.pow_le_pow_right (by omega) (by omega);rw [IntKind.wrap_u64,show((y:Int)*2^q)=((y*2^q:Nat):Int) by simp,show((y*2^q:Nat):Int)%18446744073709551616=((y*2^q:Nat):Int) by omega];rw [u64_or_nat _ _ (by omega) (by omega),Nat.or_comm,nat_join q _ _ (by simp) hx,Nat.add_comm]
theorem Q8M (b s k:Nat) (hb:b<256) (hk:k<=8) :
   bits .and .u64 ((b:Int) / 2^s) (IntKind.u64.wrap (IntKind.u64.wrap (2^k)-1))=((b / 2^s%2^k:Nat):Int):=by
 have h1:2^k<=2^8:=Nat.pow_le_pow_right (by omega) hk;have h3:=Nat.two_pow_pos k
 have e1:IntKind.u64.wrap (IntKind.u64.wrap (2^k)-1)=((2^k-1:Nat):Int):=by
   rw [IntKind.wrap_u64,IntKind.wrap_u64,show(2:Int)^k=((2^k:Nat):Int) by simp];omega
 have h4:b / 2^s<=b:=Nat.div_le_self _ _;rw [e1,show(b:Int) / 2^s=((b / 2^s:Nat):Int) by simp,u64_and_nat _ _ (by omega) (by omega),Nat.and_two_pow_sub_one_eq_mod]
theorem Q5L (F:Nat->Prop) (pa pq pn pv pr g:Nat) (A:Option Addr) (m c:Nat) (bs:List Nat) (a q n x:Nat) (w:World)
   (ca:w.cell? ⟨pa,0,none⟩=some (.int .i64 a)) (cq:w.cell? ⟨pq,0,none⟩=some (.int .i64 q)) (cn:w.cell? ⟨pn,0,none⟩=some (.int .i64 n)) (cv:w.cell? ⟨pv,0,none⟩=some (.int .u64 x))
   (cr:w.cell? ⟨pr,0,none⟩=some (.pointer (some ⟨g,0,none⟩))) (cg:w.cell? ⟨g,0,none⟩=some (.slice A m c)) (hr:Rd w F A m (bs.map fun b=>.int .u8 (b:Nat))) (hb:∀b∈bs,b<256)
   (fq:w.frozen? ⟨pq,0,none⟩=false) (fv:w.frozen? ⟨pv,0,none⟩=false) (hqv:pq≠pv) (hnv:pn≠pv) (hav:pa≠pv) (hrv:pr≠pv)
   (hq:q<n) (hn:n<=64) (han:a+n<=8*m) (hm:m<=2^32) (hx:x<2^q) :
   Calls Tryz.prog 217 #[.pointer (some ⟨pa,0,none⟩),.pointer (some ⟨pq,0,none⟩),.pointer (some ⟨pn,0,none⟩),.pointer (some ⟨pv,0,none⟩),.pointer (some ⟨pr,0,none⟩)] w
     fun e w'=>e = .returned (.tuple #[]) /\
       ((w.setCell ⟨pv,0,none⟩ (.int .u64 (x+Qu bs / 2^(a+q)%2^(min (8-(a+q)%8) (n-q))*2^q:Nat))).setCell ⟨pq,0,none⟩ (.int .i64 (q+min (8-(a+q)%8) (n-q):Nat))).drew=w':=by
 (have hbl:bs.length=m:=by have:=hr.1;simpa using this);(have hj:(a+q) / 8<m:=by omega);obtain⟨b,o,rfl,_,hbs,hc⟩:=hr.at_ hj;(have hjb:(a+q) / 8<bs.length:=by omega);have hbyte:=Q5T bs hb _ hjb;have hlt:=hb _ (List.getElem_mem hjb);(have hc':w.cell? ⟨b,o+(a+q) / 8,none⟩=some (.int .u8 (bs[(a+q) / 8]:Nat)):=by rw [hc];simp [hjb]);generalize bs[(a+q) / 8]=y at *;obtain⟨s,hs⟩:=nm_ ((a+q)%8);obtain⟨k,hk⟩:=nm_ (min (8-(a+q)%8) (n-q));rw [<-hk];(have hk8:s+k<=8:=by omega);(have hkn:q+k<=n:=by omega)
 have hval:y / 2^s%2^k=Qu bs / 2^(a+q)%2^k:=by
   rw [<-hbyte,Q5U _ _ _ _ hk8,show 8*((a+q) / 8)+s=a+q by omega]
 have e1:=Q8M y s k hlt (by omega);have e2:=Q4e x (y / 2^s%2^k) q k hx (Nat.mod_lt _ (Nat.two_pow_pos k)) (by omega);(have hi1:((a:Int)+q)%8=(s:Int):=by omega);(have hi2:((8-(s:Int)=k)/\(k:Int)<=n-q)\/((n:Int)-q=k/\(k:Int)<8-s):=by omega);have hi3:IntKind.i64.wrap ((a:Int)+q)=a+q:=IntWalk.i64_in _ (by omega);(have hi5:((a:Int)+q).tdiv 8=(((a+q) / 8:Nat):Int):=by rw [Int.tdiv_eq_ediv_of_nonneg (by omega)];omega);have hi6:IntKind.i64.wrap (((a+q) / 8:Nat):Int)=(((a+q) / 8:Nat):Int):=IntWalk.i64_in _ (by omega);(have hi4:(((a+q) / 8:Nat):Int)<m:=by omega);(have hi7:IntKind.u64.wrap (y:Int)=y:=by rw [IntKind.wrap_u64];omega);obtain⟨j,hjd⟩:=nm_ ((a+q) / 8);rw [<-hjd]at hc' hi4 hi5 hi6;rw [<-hval];(have hs0:s<=7:=by omega);clear hr hbyte hval hc hjb hj hb hjd;have E1:=hd_ e1;have E2:=hd_ e2;have HX:=hd_ hx;(have hm':(m:Int)<=4294967296:=by omega);clear e1 e2 hx hs hk hm hbl;refine Q6 fun R hR=>?_;rcases hi2 with ⟨r1,hi2⟩|⟨r1,hi2⟩
 all_goals
   go_enter Tryz.func217,Tryz.ntmps217;go_wp2_with fail;go_still_tail 21,(by kernel_rfl);change wpList _ _ _ _ _ w.drew;rw [E1.out,E2.out];go_wp2;(try go_end0);refine hR.out _ _ ⟨rfl,?_⟩;simp
def JO (w:World) (F:Nat->Prop) (g:Nat) (bs:List Nat) (fr:Nat):Prop :=
  ∃(A:Option Addr) (c:Nat),Blk w g 307 #[.slice A bs.length c,.int .i64 fr,.int .i64 (8*bs.length:Nat)]/\Rd w F A bs.length (bs.map fun b=>.int .u8 (b:Nat)) /\
    (∀b∈bs,b<256)/\fr<=8*bs.length/\bs.length<=2^32
theorem XP (F:Nat->Prop) (g:Nat) (A:Option Addr) (m c:Nat) (bs:List Nat) (a n:Nat) (w:World)
   (cg:w.cell? ⟨g,0,none⟩=some (.slice A m c)) (hr:Rd w F A m (bs.map fun b=>.int .u8 (b:Nat))) (hb:∀b∈bs,b<256) (hn:n<=64) (han:a+n<=8*m) (hm:m<=2^32) :
   Calls Tryz.prog 187 #[.pointer (some ⟨g,0,none⟩),.int .i64 a,.int .i64 n] w fun e w'=>e = .returned (.int .u64 (Qu bs / 2^a%2^n:Nat))/\Q0 w w':=by
 have hg:=World.block_lt_of_cell? _ _ cg;(have hnI:(n:Int)<=64:=by omega);(have haI:(a:Int)<=34359738368:=by omega);have HB:=hd_ hb;have HR:=hd_ hr;have HG:=hd_ cg;clear hr cg hb;refine Q6 fun R hR=>?_;go_enter Tryz.func187,Tryz.ntmps187;go_wp2_with fail;obtain⟨H,hH⟩:=nm_ (w.heap.size);have HH:=hd_ hH;rw [<-hH]at hg;simp only [<-hH]
 go_loopg [] n (fun m' wr=>∃q:Nat,q+m'<=n/\n<=q+m'/\Blk wr H 292 #[.pointer (some ⟨g,0,none⟩)]/\Blk wr (H+1) 3 #[.int .i64 a]/\Blk wr (H+1+1) 3 #[.int .i64 n] /\
   Blk wr (H+1+1+1) 57 #[.int .u64 (Qu bs / 2^a%2^q:Nat)]/\Blk wr (H+1+1+1+1) 3 #[.int .i64 q]/\Q0 w wr)
 case atStart =>
   refine⟨0,by omega,by omega,?_,?_,?_,?_,?_,(((((Upd.refl _ w).alloc _).alloc _).alloc _).alloc _).alloc _⟩
   . exact((((Q1 hH _ _).alloc _).alloc _).alloc _).alloc _
   . exact(((Q1 (by simp [hH]) _ _).alloc _).alloc _).alloc _
   . exact((Q1 (by simp [hH]) _ _).alloc _).alloc _
   . simp only [Nat.pow_zero,Nat.mod_one]
     exact(Q1 (by simp [hH]) _ _).alloc _
   exact Q1 (by simp [hH]) _ _
 case round =>
   obtain⟨q,hq1,hq2,b0,b1,b2,b3,b4,hf⟩:=hrel;have hc2:=b2.cell0;have hc4:=b4.cell0;have hc3:=b3.cell0;have hf3:=b3.frozen 0;have HF:=hd_ hf;by_cases hlt:q<n
   . have hk:=Q5L F (H+1) (H+1+1+1+1) (H+1+1) (H+1+1+1) H g A m c bs a q n (Qu bs / 2^a%2^q) wr b1.cell0 hc4 hc2 hc3 b0.cell0
       (by rw [hf.cells g 0 (by omega)];exact HG.out) (HR.out.fresh hf) HB.out (b4.frozen 0) hf3 (by omega) (by omega) (by omega) (by omega) hlt hn han hm (Nat.mod_lt _ (Nat.two_pow_pos q))
     rw [Nat.pow_add,<-Nat.div_div_eq_div_mul]at hk;obtain⟨k,hkd⟩:=nm_ (min (8-(a+q)%8) (n-q));rw [<-hkd,<-Q3F]at hk;(have hk1:1<=k/\k<=n-q:=by omega);have HK:=hd_ hk;have B0:=hd_ b0;have B1:=hd_ b1;have B2:=hd_ b2;have B3:=hd_ b3;have B4:=hd_ b4;clear b0 b1 b2 b3 b4 hk hkd hf hH;go_wp2_with fail;refine HK.out.mono ?_;rintro e w1 ⟨rfl,hw1⟩;(have c0:Blk w1 H 292 #[.pointer (some ⟨g,0,none⟩)]:=by subst hw1;exact((B0.out.far (p:=⟨_,_,_⟩) (by simp<;>omega) _).far (p:=⟨_,_,_⟩) (by simp<;>omega) _).drew);(have c1:Blk w1 (H+1) 3 #[.int .i64 a]:=by subst hw1;exact((B1.out.far (p:=⟨_,_,_⟩) (by simp<;>omega) _).far (p:=⟨_,_,_⟩) (by simp<;>omega) _).drew);(have c2:Blk w1 (H+1+1) 3 #[.int .i64 n]:=by subst hw1;exact((B2.out.far (p:=⟨_,_,_⟩) (by simp) _).far (p:=⟨_,_,_⟩) (by simp<;>omega) _).drew);(have c3:Blk w1 (H+1+1+1) 57 #[.int .u64 (Qu bs / 2^a%2^(q+k):Nat)]:=by subst hw1;exact((B3.out.set_ 0 _).far (p:=⟨_,_,_⟩) (by simp) _).drew);(have c4:Blk w1 (H+1+1+1+1) 3 #[.int .i64 (q+k:Nat)]:=by subst hw1;exact((B4.out.far (p:=⟨_,_,_⟩) (by simp) _).set_ 0 _).drew)
     have f1:Q0 w w1:=by
       subst hw1;have:=HH.out;exact((HF.out.setCell (p:=⟨_,_,_⟩) (fun h=>by simp at h;omega) _).setCell (p:=⟨_,_,_⟩) (fun h=>by simp at h;omega) _).drew
     clear hw1 B0 B1 B2 B3 B4 HF hc2 hc4 hc3 hf3;have HC:=hd_ (show _/\_/\_/\_/\_/\_ from⟨c0,c1,c2,c3,c4,f1⟩);clear c0 c1 c2 c3 c4 f1;go_wp2;go_roundg (gk-k)
     case measure=>omega
     case rel=>exact⟨q+k,by omega,by omega,HC.out⟩
   (obtain rfl:q=n:=by omega);clear b0 b1 b2 b4 hf hH;have HC3:=hd_ b3;clear b3;go_wp2;refine bodyPost_ret (v:=.int .u64 (Qu bs / 2^a%2^q:Nat)) ?_ rfl (hR.out _ _ ⟨rfl,HF.out.setCell (p:=⟨_,_,_⟩) (fun h=>by have:=HH.out;simp at h;omega) _⟩);have hcc:=(HC3.out.set_ 0 (.int .u64 (Qu bs / 2^a%2^q:Nat))).cell0;simp at hcc;simp [results,Tryz.results187,go_sem,hcc]
theorem Q0V (g:Nat) (fr to_:Nat) (w:World) (c1:w.cell? ⟨g,1,none⟩=some (.int .i64 fr)) (c2:w.cell? ⟨g,2,none⟩=some (.int .i64 to_)) (h:fr<=to_) (h':to_<=2^40) :
   Calls Tryz.prog 155 #[.pointer (some ⟨g,0,none⟩)] w fun e w'=>e = .returned (.int .i64 (to_-fr:Nat))/\∃k,w'=w.drewN k:=by
 (have h1:(to_:Int)<=1099511627776:=by omega);(have e1:((to_-fr:Nat):Int)=to_-fr:=by omega);have E1:=hd_ e1;clear e1 h';refine Q6 fun R hR=>?_;go_enter Tryz.func155,Tryz.ntmps155;go_wp2;go_quiet (fail);go_wp2;(try go_ret);exact hR.out _ _ ⟨ZG (by rw [E1.out]),_,rfl⟩
theorem Q61 (g:Nat) (fr to_ n:Nat) (sh:Int) (w:World) (c1:w.cell? ⟨g,1,none⟩=some (.int .i64 fr)) (c2:w.cell? ⟨g,2,none⟩=some (.int .i64 to_)) (h':to_<=2^40) (hn:n<=64)
   (h:fr+n<=to_) :
   Calls Tryz.prog 216 #[.pointer (some ⟨g,0,none⟩),.int .i64 n,.int .i64 sh] w fun e w'=>e = .returned (.int .i64 0)/\∃k,w'=w.drewN k:=by
 have hk:=Q0V g fr to_ w c1 c2 (by omega) h';have HK:=hd_ hk;(have h1:(to_:Int)<=1099511627776:=by omega);(have h2:(n:Int)<=((to_-fr:Nat):Int):=by omega);clear hk h';generalize to_-fr=d at *;refine Q6 fun R hR=>?_;go_enter Tryz.func216,Tryz.ntmps216;go_wp2_with (go_at_call 155;refine HK.out.mono ?_;rintro e w' ⟨rfl,k,rfl⟩);(try go_ret);exact hR.out _ _ ⟨rfl,_,rfl⟩
theorem Q24 (g:Nat) (fr to_ n:Nat) (sh:Int) (w:World) (c1:w.cell? ⟨g,1,none⟩=some (.int .i64 fr)) (c2:w.cell? ⟨g,2,none⟩=some (.int .i64 to_)) (h':to_<=2^40) (hn:n<=64) (hf:fr<=to_)
   (h:to_<fr+n) :
   Calls Tryz.prog 216 #[.pointer (some ⟨g,0,none⟩),.int .i64 n,.int .i64 sh] w fun e w'=>e = .returned (.int .i64 sh)/\∃k,w'=w.drewN k:=by
 have hk:=Q0V g fr to_ w c1 c2 (by omega) h';have HK:=hd_ hk;(have h1:(to_:Int)<=1099511627776:=by omega);(have h2:((to_-fr:Nat):Int)<(n:Int):=by omega);clear hk h';generalize to_-fr=d at *;refine Q6 fun R hR=>?_;go_enter Tryz.func216,Tryz.ntmps216;go_wp2_with (go_at_call 155;refine HK.out.mono ?_;rintro e w' ⟨rfl,k,rfl⟩);(try go_ret);exact hR.out _ _ ⟨rfl,_,rfl⟩
theorem JO.upd {w w':World} {F S:Nat->Prop} {g:Nat} {bs:List Nat} {fr:Nat} (h:JO w F g bs fr) (hu:Upd S w w') (hg:¬S g) (hF:∀b,F b->¬S b):JO w' F g bs fr:=by
 obtain⟨A,c,hb,hr,r⟩:=h;exact⟨A,c,hb.upd hu hg,hr.upd hu (fun b _ hb=>hF b hb),r⟩
theorem JO.fresh {w w':World} {F:Nat->Prop} {g:Nat} {bs:List Nat} {fr:Nat} (h:JO w F g bs fr) (hu:Q0 w w'):JO w' F g bs fr:=h.upd hu (fun h=>h) (fun _ _ h=>h)
theorem Q95 (F:Nat->Prop) (g:Nat) (bs:List Nat) (fr n:Nat) (w:World) (hf:JO w F g bs fr) (hn:n<=64) (h:fr+n<=8*bs.length) (hFg:∀b,F b->b≠g) :
   Calls Tryz.prog 221 #[.pointer (some ⟨g,0,none⟩),.int .i64 n] w fun e w'=>e = .returned (.tuple #[.int .u64 (Qu bs / 2^fr%2^n:Nat),.int .i64 0]) /\
     Upd (fun b=>b=g) w w'/\JO w' F g bs (fr+n):=by
 obtain⟨A,c,hb,hr,hlt,hfr,hlen⟩:=hf;have hc0:=hb.cell 0;have hc1:=hb.cell 1;have hc2:=hb.cell 2;have hfz:=hb.frozen 1;simp at hc0 hc1 hc2;have hm:=Q61 g fr (8*bs.length) n 3 w hc1 (by simpa using hc2) (by omega) hn h;have HM:=hd_ hm;have HB:=hd_ hb;have hv:=fun W hW0 hW1=>XP F g A bs.length c bs fr n W hW0 hW1 hlt hn h hlen;have HV:=hd_ hv;clear hm hb hv hc2;(have i1:(fr:Int)<=34359738368:=by omega);(have i2:(n:Int)<=64:=by omega);generalize Qu bs / 2^fr%2^n=V at *;refine Q6 fun R hR=>?_;go_enter Tryz.func221,Tryz.ntmps221;go_wp2_with (go_at_call 216;refine HM.out.mono ?_;rintro e w' ⟨rfl,k,rfl⟩);(have hs:IntKind.i64.wrap ((fr:Int)+n-n)=fr:=by rw [show(fr:Int)+n-n=fr by omega];exact IntWalk.i64_in _ (by omega));(have hs2:(fr:Int)+n-n=fr:=by omega);have b2:Blk ((w.drewN k).setCell ⟨g,1,none⟩ (.int .i64 ((fr:Int)+n))) g 307 #[.slice A bs.length c,.int .i64 ((fr:Int)+n),.int .i64 (8*bs.length:Nat)]:=(HB.out.drewN k).set_ 1 _;have u2:Upd (fun b=>b=g) w ((w.drewN k).setCell ⟨g,1,none⟩ (.int .i64 ((fr:Int)+n))):=((Upd.refl (fun b=>b=g) w).drewN k).setCell (p:=⟨g,1,none⟩) (fun _=>rfl) _;have hc1':=b2.cell 1;simp only [List.getElem?_toArray,List.getElem?_cons_succ,List.getElem?_cons_zero]at hc1';generalize (w.drewN k).setCell ⟨g,1,none⟩ (.int .i64 ((fr:Int)+n))=W at *;go_still_tail 11,(by kernel_rfl);change wpList _ _ _ _ _ W.drew;have hc0:=b2.cell 0;simp only [List.getElem?_toArray,List.getElem?_cons_zero]at hc0;have hrW:=hr.upd u2 (fun b _ hb e=>hFg b hb e);go_wp2_with fail;refine(HV.out W.drew hc0 hrW).mono ?_;rintro e w1 ⟨rfl,f1⟩;go_wp2;(try go_ret2);refine hR.out _ _ ⟨rfl,u2.drew.trans f1 (fun _ _ h=>h.elim),A,c,?_,hrW.drew.fresh f1,hlt,h,hlen⟩;have:=b2.drew.fresh f1;simpa using this
theorem Q4X (F:Nat->Prop) (g:Nat) (bs:List Nat) (fr n:Nat) (w:World) (hf:JO w F g bs fr) (hn:n<=64) (h:8*bs.length<fr+n) :
   Calls Tryz.prog 221 #[.pointer (some ⟨g,0,none⟩),.int .i64 n] w fun e w'=>e = .returned (.tuple #[.int .u64 0,.int .i64 3])/\Q0 w w':=by
 obtain⟨A,c,hb,hr,hlt,hfr,hlen⟩:=hf;have hc1:=hb.cell 1;have hc2:=hb.cell 2;simp at hc1 hc2;have hm:=Q24 g fr (8*bs.length) n 3 w hc1 (by simpa using hc2) (by omega) hn hfr h;have HM:=hd_ hm;clear hm hb hc2 hc1;refine Q6 fun R hR=>?_;go_enter Tryz.func221,Tryz.ntmps221;go_wp2_with (go_at_call 216;refine HM.out.mono ?_;rintro e w' ⟨rfl,k,rfl⟩);(try go_ret2);exact hR.out _ _ ⟨rfl,(Upd.refl _ _).drewN k⟩
def Z4 (fr:Nat):Nat:=(8-fr%8)%8
theorem Q8N (fr:Nat) (h:fr<=2^40):bits .and .i64 (-(fr:Int)) 7=((Z4 fr:Nat):Int):=by
 have e:(BitVec.ofInt 64 (-(fr:Int)) &&& BitVec.ofInt 64 7).toNat=Z4 fr:=by
   rw [BitVec.toNat_and,BitVec.toNat_ofInt,BitVec.toNat_ofInt,show((7:Int)%((2^64:Nat):Int)).toNat=7 by decide,nat_mask3];unfold Z4;omega
 show IntKind.i64.wrap ((BitVec.ofInt 64 (-(fr:Int)) &&& BitVec.ofInt 64 7).toNat:Int)=_;rw [e,IntKind.wrap_i64];unfold Z4;omega
theorem Q67 (F:Nat->Prop) (g:Nat) (bs:List Nat) (fr:Nat) (w:World) (hf:JO w F g bs fr) (hFg:∀b,F b->b≠g) :
   Calls Tryz.prog 184 #[.pointer (some ⟨g,0,none⟩)] w fun e w' =>
     (Qu bs / 2^fr%2^Z4 fr=0->e = .returned (.tuple #[.int .i64 ((fr+Z4 fr) / 8:Nat),.int .i64 0])) /\
     (Qu bs / 2^fr%2^Z4 fr≠0->e = .returned (.tuple #[.int .i64 0,.int .i64 14]))/\Upd (fun b=>b=g) w w':=by
 obtain⟨A,c,hb,hr,hlt,hfr,hlen⟩:=hf;have hc0:=hb.cell 0;have hc1:=hb.cell 1;have hfz:=hb.frozen 1;simp at hc0 hc1;(have hp:Z4 fr<=7/\fr+Z4 fr<=8*bs.length/\(fr+Z4 fr)%8=0:=by unfold Z4;omega);have hv:=XP F g A bs.length c bs fr (Z4 fr) w.drew hc0 hr hlt (by omega) hp.2.1 hlen;have hn7:=Q8N fr (by omega);have HB:=hd_ hb;have HV:=hd_ hv;(have i1:(fr:Int)<=34359738368:=by omega);obtain⟨hp1,hp2,hp3⟩:=hp;(have i2:(Z4 fr:Int)<=7:=by omega);clear hv hb hp1 hp2;generalize Qu bs / 2^fr%2^Z4 fr=V at *;generalize Z4 fr=p at *;refine Q6 fun R hR=>?_;go_enter Tryz.func184,Tryz.ntmps184;go_wp2_with fail;go_still_tail 9,(by kernel_rfl);change wpList _ _ _ _ _ w.drew;go_wp2_with fail;refine(HV.out).mono ?_;rintro e w1 ⟨rfl,f1⟩;have b1:=HB.out.drew.fresh f1;have hc1':=b1.cell 1;have hfz':=b1.frozen 1;simp at hc1';have u1:Upd (fun b=>b=g) w w1:=((Upd.refl _ w).drew).trans f1 (fun _ _ h=>h.elim);(have hd:((fr:Int)+p) / 8=((fr+p) / 8:Nat):=by omega);have HD:=hd_ hd;clear hd b1;by_cases hV:V=0
 . subst hV
   go_wp2;(try go_ret2);exact hR.out _ _ ⟨fun _=>by rw [<-HD.out];rfl,fun h=>absurd rfl h,u1.setCell (p:=⟨g,1,none⟩) (fun _=>rfl) _⟩
 (have hV':((V:Int) != 0)=true:=by simpa using hV);go_wp2;(try go_ret2);exact hR.out _ _ ⟨fun h=>absurd h hV,fun _=>rfl,u1⟩
theorem Q1K (F:Nat->Prop) (A:Option Addr) (n c:Nat) (bs:List Nat) (w:World) (hr:Rd w F A n (bs.map fun b=>.int .u8 (b:Nat))) (hlt:∀b∈bs,b<256) (hlen:bs.length<=2^32) :
   Calls Tryz.prog 181 #[.slice A n c] w fun e w'=>∃g,e = .returned (.pointer (some ⟨g,0,none⟩))/\w.heap.size<=g/\Q0 w w' /\
     JO w' (fun k=>w.heap.size<=k/\k≠g) g bs 0:=by
 (have hn:n=bs.length:=by have:=hr.1;simpa using this.symm);subst hn;have hk:=Jv A bs.length c _ w hr (by simp [Value.oneCell']) (by omega);have HK:=hd_ hk;(have hl:(bs.length:Int)<=4294967296:=by omega);clear hk hr;refine Q6 fun R hR=>?_;go_enter Tryz.func181,Tryz.ntmps181;go_wp2_with fail;refine HK.out.mono ?_;rintro e w1 ⟨v,rfl,o1,f1,k1⟩;obtain⟨A',n',c',rfl,hn'⟩:=o1.form';have hrd:=(o1.rd rfl).2.2;(have hn2:n'=bs.length:=by simpa using hn'.out);have HN:=hd_ hn2;clear hn2 hn';go_wp2;(try go_ret);have:=HN.out;subst this;refine hR.out _ _ ⟨w1.heap.size,rfl,f1.size,f1.alloc _,A',c',?_,?_,hlt,by omega,hlen⟩
 . have:=Blk.new w1 307 #[.slice A' bs.length c',.int .i64 0,.int .i64 (8*(bs.length:Int))]
   simpa using this
 have h2:=hrd.alloc (.cells #[.slice A' bs.length c',.int .i64 0,.int .i64 (8*(bs.length:Int))] 307);refine⟨by simp,fun h=>?_⟩;obtain⟨b,o,hA,hb,hbs,hc⟩:=h2.2 (by simpa using h);exact⟨b,o,hA,⟨k1 b hb,by have:=o1.lt hb;omega⟩,hbs,fun j hj=>hc j (by simpa using hj)⟩
def Qk (w:World) (F:Nat->Prop) (g:Nat) (bs:List Nat) (at_:Nat):Prop :=
  ∃(A:Option Addr) (c:Nat),Blk w g 67 #[.slice A bs.length c,.int .i64 at_]/\Rd w F A bs.length (bs.map fun b=>.int .u8 (b:Nat)) /\
    (∀b∈bs,b<256)/\at_<=bs.length/\bs.length<=2^32/\bs.length<=c
theorem Qk.upd {w w':World} {F S:Nat->Prop} {g:Nat} {bs:List Nat} {at_:Nat} (h:Qk w F g bs at_) (hu:Upd S w w') (hg:¬S g) (hF:∀b,b<w.heap.size->F b->¬S b):Qk w' F g bs at_:=by
 obtain⟨A,c,hb,hr,r⟩:=h;exact⟨A,c,hb.upd hu hg,hr.upd hu hF,r⟩
theorem Qk.fresh {w w':World} {F:Nat->Prop} {g:Nat} {bs:List Nat} {at_:Nat} (h:Qk w F g bs at_) (hu:Q0 w w'):Qk w' F g bs at_:=h.upd hu (fun h=>h) (fun _ _ _ h=>h)
theorem Qk.both {w:World} {F:Nat->Prop} {g:Nat} {bs:List Nat} {at_:Nat} (h:Qk w F g bs at_):Qk w (fun b=>F b/\b<w.heap.size) g bs at_:=by
 obtain⟨A,c,hb,hr,r⟩:=h;exact⟨A,c,hb,hr.both,r⟩
theorem Qk.mono {w:World} {F G:Nat->Prop} {g:Nat} {bs:List Nat} {at_:Nat} (h:Qk w F g bs at_) (hG:∀b,F b->G b):Qk w G g bs at_:=by
 obtain⟨A,c,hb,hr,r⟩:=h;exact⟨A,c,hb,hr.mono hG,r⟩
theorem Qk.lt {w:World} {F:Nat->Prop} {g:Nat} {bs:List Nat} {at_:Nat} (h:Qk w F g bs at_):g<w.heap.size:=by
 obtain⟨A,c,hb,_⟩:=h;exact hb.lt
theorem Vg (F:Nat->Prop) (A:Option Addr) (n c:Nat) (bs:List Nat) (w:World) (hr:Rd w F A n (bs.map fun b=>.int .u8 (b:Nat))) (hlt:∀b∈bs,b<256) (hlen:bs.length<=2^32) :
   Calls Tryz.prog 17 #[.slice A n c] w fun e w'=>∃g,e = .returned (.pointer (some ⟨g,0,none⟩))/\w.heap.size<=g/\Q0 w w' /\
     Qk w' (fun k=>w.heap.size<=k/\k≠g) g bs 0:=by
 (have hn:n=bs.length:=by have:=hr.1;simpa using this.symm);subst hn;have hk:=Jv A bs.length c _ w hr (by simp [Value.oneCell']) (by omega);have HK:=hd_ hk;clear hk hr;refine Q6 fun R hR=>?_;go_enter Tryz.func17,Tryz.ntmps17;go_wp2_with fail;refine HK.out.mono ?_;rintro e w1 ⟨v,rfl,o1,f1,k1⟩;obtain⟨A',n',c',rfl,hn'⟩:=o1.form';have hrd:=(o1.rd rfl).2.2;have hcap:=(o1.rd rfl).2.1;have HC:=hd_ hcap;(have hn2:n'=bs.length:=by simpa using hn'.out);have HN:=hd_ hn2;clear hn2 hn' hcap;go_wp2;(try go_ret);have:=HN.out;subst this;refine hR.out _ _ ⟨w1.heap.size,rfl,f1.size,f1.alloc _,A',c',?_,?_,hlt,by omega,hlen,by simpa using HC.out⟩
 . have:=Blk.new w1 67 #[.slice A' bs.length c',.int .i64 0]
   simpa using this
 have h2:=hrd.alloc (.cells #[.slice A' bs.length c',.int .i64 0] 67);refine⟨by simp,fun h=>?_⟩;obtain⟨b,o,hA,hb,hbs,hc⟩:=h2.2 (by simpa using h);exact⟨b,o,hA,⟨k1 b hb,by have:=o1.lt hb;omega⟩,hbs,fun j hj=>hc j (by simpa using hj)⟩
theorem KP (F:Nat->Prop) (g:Nat) (bs:List Nat) (at_:Nat) (w:World) (hc:Qk w F g bs at_) :
   Calls Tryz.prog 26 #[.pointer (some ⟨g,0,none⟩)] w fun e w'=>e = .returned (.int .i64 (bs.length-at_:Nat))/\∃k,w'=w.drewN k:=by
 obtain⟨A,c,hb,hr,hlt,hat,hlen,hcap⟩:=hc;obtain⟨hc0,hc1⟩:=(hb).cells2;(have i1:(bs.length:Int)<=4294967296:=by omega);(have e1:((bs.length-at_:Nat):Int)=bs.length-at_:=by omega);have E1:=hd_ e1;clear e1 hb hr;refine Q6 fun R hR=>?_;go_enter Tryz.func26,Tryz.ntmps26;go_wp2;go_quiet (fail);go_wp2;(try go_ret);exact hR.out _ _ ⟨ZG (by rw [E1.out]),_,rfl⟩
theorem Q7q (F:Nat->Prop) (g:Nat) (bs:List Nat) (at_ n:Nat) (w:World) (hc:Qk w F g bs at_) (hn:n<=2^32) :
   Calls Tryz.prog 182 #[.pointer (some ⟨g,0,none⟩),.int .i64 n] w fun e w'=>∃v,e = .returned v/\Own w' 5 v (((bs.drop at_).take n).map fun b=>.int .u8 (b:Nat))/\Q0 w w' /\
     ∀k,v.ownBlock=some k->w.heap.size<=k:=by
 have hl:=KP F g bs at_ w hc;obtain⟨A,c,hb,hr,hlt,hat,hlen,hcap⟩:=hc;obtain⟨hc0,hc1⟩:=(hb).cells2;obtain⟨k,hk⟩:=nm_ (min n (bs.length-at_));(have hcase:((n:Int)=k/\(k:Int)<=((bs.length-at_:Nat):Int))\/(((bs.length-at_:Nat):Int)=k/\(k:Int)<n):=by omega);have hcut:=(hr.take (k:=at_+k) (by omega)).cut (k:=at_) (cap:=c) (by omega) (by omega)
 have hdt:((bs.map fun b=>Value.int .u8 (b:Nat)).take (at_+k)).drop at_=((bs.drop at_).take n).map fun b=>Value.int .u8 (b:Nat):=by
   rw [List.drop_take,<-List.map_drop,<-List.map_take,show at_+k-at_=k by omega,hk]
   congr 1
   by_cases h:n<=bs.length-at_
   . rw [Nat.min_eq_left h]
   rw [Nat.min_eq_right (by omega),List.take_of_length_le (by simp),List.take_of_length_le (by simp;omega)]
 rw [hdt,show at_+k-at_=k by omega]at hcut;(have i1:(bs.length:Int)<=4294967296:=by omega);(have i2:(at_:Int)+k<=bs.length:=by omega);(have i3:(bs.length:Int)<=c:=by omega);have HL:=hd_ hl;have HC:=hd_ hcut
 have hxs1:∀u∈((bs.drop at_).take n).map (fun b=>Value.int .u8 (b:Nat)),u.oneCell'=true:=by
   intro u hu;obtain⟨_,_,rfl⟩:=List.mem_map.1 hu;rfl
 generalize ((bs.drop at_).take n).map (fun b=>Value.int .u8 (b:Nat))=XS at *;have HB:=hd_ hb;clear hl hcut hdt hk hb hr;generalize bs.length-at_=D at *;have hw1:IntKind.i64.wrap ((at_:Int)+k)=at_+k:=IntWalk.i64_in _ (by omega);refine Q6 fun R hR=>?_;(have hkk:((n=k/\k<=D)\/(D=k/\k<n)):=by omega);clear hcase;rcases hkk with ⟨hq,hkd⟩|⟨hq,hkd⟩;(all_goals have hq:=hq.symm);(all_goals subst hq)
 all_goals
   go_enter Tryz.func182,Tryz.ntmps182;go_wp2_with fail;refine HL.out.mono ?_;rintro e W ⟨rfl,kk,hW⟩;(have hb1:Blk W g 67 #[.slice A bs.length c,.int .i64 at_]:=by rw [hW];exact HB.out.drewN kk);have hc0':=hb1.cell 0;have hc1':=hb1.cell 1;simp only [List.getElem?_toArray,List.getElem?_cons_succ,List.getElem?_cons_zero]at hc0' hc1';(have f1:Q0 w W:=by rw [hW];exact(Upd.refl _ _).drewN kk);clear hW hb1;go_wp2_with fail;(have s1:(0:Int)<=at_:=by omega);(have s2:(at_:Int)<=at_+k:=by omega);(have s3:(at_:Int)+k<=c:=by omega);(have s4:((at_:Int)+k).toNat=at_+k:=by omega);go_still_tail 15,(by kernel_rfl);change wpList _ _ _ _ _ W.drew;go_wp2_with fail
   all_goals
     have hrd:=HC.out
     first
       | rw [if_neg (by omega)]at hrd
       | rw [if_pos (by omega)]at hrd
     refine(Jv _ _ _ _ W.drew (hrd.fresh f1).drew hxs1 (by omega)).mono ?_;rintro e w2 ⟨v,rfl,o2,f2,k2⟩;go_wp2;(try go_ret);exact hR.out _ _ ⟨v,rfl,o2,f1.drew.trans' f2,fun b hb=>Nat.le_trans f1.size (k2 b hb)⟩
theorem Q74 {w:World} {F:Nat->Prop} {A:Option Addr} {bs:List Nat} {c at_ k:Nat} (hr:Rd w F A bs.length (bs.map fun b=>.int .u8 (b:Nat))) (hk:at_+k<=bs.length) (hc:bs.length<=c) :
   Rd w F (if c=at_ then A else A.map (·.add at_)) k (((bs.drop at_).take k).map fun b=>.int .u8 (b:Nat)):=by
 have hcut:=(hr.take (k:=at_+k) hk).cut (k:=at_) (cap:=c) (by omega) (by omega)
 rwa [List.drop_take,<-List.map_drop,<-List.map_take,show at_+k-at_=k by omega]at hcut
theorem Q5M (l:List Nat):∀u∈l.map (fun b=>Value.int .u8 (b:Nat)),u.oneCell'=true:=by
 intro u hu;obtain⟨_,_,rfl⟩:=List.mem_map.1 hu;rfl
theorem Q75 (F:Nat->Prop) (g pn pc:Nat) (bs:List Nat) (at_ k:Nat) (w:World) (hcu:Qk w F g bs at_) (hk:at_+k<=bs.length)
   (bn:Blk w pn 3 #[.int .i64 k]) (bc:Blk w pc 35 #[.pointer (some ⟨g,0,none⟩)]) (hF:∀b,F b->b≠g) :
   Calls Tryz.prog 91 #[.pointer (some ⟨pn,0,none⟩),.pointer (some ⟨pc,0,none⟩)] w fun e w'=>∃v,e = .returned (.tuple #[v,.int .i64 0]) /\
     Own w' 5 v (((bs.drop at_).take k).map fun b=>.int .u8 (b:Nat))/\Upd (fun b=>b=g) w w'/\Qk w' F g bs (at_+k):=by
 have hl:=fun j=>KP F g bs at_ (w.drewN j) hcu;obtain⟨A,c,hb,hr,hlt,hat,hlen,hcap⟩:=hcu;have hn:=bn.cell0;have hc:=bc.cell0;(have i1:(k:Int)<=((bs.length-at_:Nat):Int):=by omega);(have i2:(bs.length:Int)<=4294967296:=by omega);(have i3:(at_:Int)+k<=bs.length:=by omega);have hx1:=Q5M ((bs.drop at_).take k);have HL:=hd_ hl;have HB:=hd_ hb;have HR:=hd_ hr;have HBN:=hd_ bn;have HBC:=hd_ bc;clear hl hb hr bn bc;generalize bs.length-at_=D at *;refine Q6 fun R hR=>?_;go_enter Tryz.func91,Tryz.ntmps91;go_wp2_with fail;go_quiet ((go_at_call 26;exact Calls.quiet_of (HL.out _)));have f1:Q0 w (w.drewN nq):=(Upd.refl _ _).drewN nq;generalize w.drewN nq=W at *;have b1:=HB.out.fresh f1;have bn1:=HBN.out.fresh f1;have bc1:=HBC.out.fresh f1;have hn1:=bn1.cell0;have hcc1:=bc1.cell0;have hc1':=b1.cell 1;have hf1':=b1.frozen 1;simp only [List.getElem?_toArray,List.getElem?_cons_succ,List.getElem?_cons_zero]at hc1';have B1:=hd_ b1;have BN1:=hd_ bn1;have BC1:=hd_ bc1;clear b1 bn1 bc1;have s0:IntKind.i64.wrap ((at_:Int)+k)=at_+k:=IntWalk.i64_in _ (by omega);go_wp2_with fail;go_still_tail 8,(by kernel_rfl);change wpList _ _ _ _ _ W.drew;go_wp2_with fail;have b2:=(B1.out.set_ 1 (.int .i64 ((at_:Int)+k))).drew;have u2:Upd (fun b=>b=g) w (W.setCell ⟨g,1,none⟩ (.int .i64 ((at_:Int)+k))).drew:=((f1.mono (T:=fun b=>b=g) (fun _ _ h=>h.elim)).setCell (p:=⟨g,1,none⟩) (fun _=>rfl) _).drew;have bn2:=(BN1.out.far (p:=⟨g,1,none⟩) (BN1.out.ne_ B1.out (by decide)) (.int .i64 ((at_:Int)+k))).drew;have bc2:=(BC1.out.far (p:=⟨g,1,none⟩) (BC1.out.ne_ B1.out (by decide)) (.int .i64 ((at_:Int)+k))).drew;generalize (W.setCell ⟨g,1,none⟩ (.int .i64 ((at_:Int)+k))).drew=W2 at *;have hn2:=bn2.cell0;have hcc2:=bc2.cell0;have hc2:=b2.cell 1;have hc20:=b2.cell 0;simp at hc2 hc20;have B2:=hd_ b2;clear b2 bn2 bc2 hn1 hcc1 hc1' hf1';(have s5:(at_:Int)+k-k=at_:=by omega);have s6:IntKind.i64.wrap (at_:Int)=at_:=IntWalk.i64_in _ (by omega);(have s1:(0:Int)<=at_:=by omega);(have s2:(at_:Int)<=at_+k:=by omega);(have s3:(at_:Int)+k<=c:=by omega);(have s4:((at_:Int)+k).toNat=at_+k:=by omega);go_still_tail 15,(by kernel_rfl);change wpList _ _ _ _ _ W2.drew;go_wp2_with fail
 all_goals
   have hrd:=Q74 (c:=c) (HR.out.upd u2 (fun b _ hb e=>hF b hb e)).drew hk hcap
   first
     | rw [if_neg (by omega)]at hrd
     | rw [if_pos (by omega)]at hrd
   refine(Jv _ _ _ _ W2.drew hrd hx1 (by omega)).mono ?_;rintro e w3 ⟨v,rfl,o3,f3,k3⟩;go_wp2;(try go_ret2);refine hR.out _ _ ⟨v,rfl,o3,u2.drew.trans f3 (fun _ _ h=>h.elim),A,c,?_,?_,hlt,hk,hlen,hcap⟩
   . have:=B2.out.drew.fresh f3
     simpa using this
   exact(HR.out.upd u2 (fun b _ hb e=>hF b hb e)).drew.fresh f3
theorem Q5N (pe pf px pc:Addr) (u:FrameMode) (w:World) (he:w.cell? pe=some (.int .i64 0)) :
   CallsD Tryz.prog 151 #[.pointer (some pe),.pointer (some pf),.pointer (some px),.pointer (some pc)] u w fun e u' w'=>u'=u/\(e = .returned (.tuple #[])/\w'=w):=by
 go_enter_d Tryz.func151,Tryz.ntmps151;go_wp2;go_end0;exact⟨rfl,rfl⟩
theorem Q9K (F:Nat->Prop) (g pn pc:Nat) (bs:List Nat) (at_ k:Nat) (w:World) (hcu:Qk w F g bs at_) (hk:at_+k<=bs.length)
   (bn:Blk w pn 3 #[.int .i64 k]) (bc:Blk w pc 35 #[.pointer (some ⟨g,0,none⟩)]) (hF:∀b,F b->b≠g) :
   Calls Tryz.prog 90 #[.pointer (some ⟨g,0,none⟩),.func (.func 91) #[] #[.pointer (some ⟨pn,0,none⟩),.pointer (some ⟨pc,0,none⟩)]] w fun e w' =>
     ∃v,e = .returned (.tuple #[v,.int .i64 0]) /\
     Own w' 5 v (((bs.drop at_).take k).map fun b=>.int .u8 (b:Nat))/\Upd (fun b=>b=g) w w'/\Qk w' F g bs (at_+k):=by
 have hmf:∀(fn:Fn) (first cap:Array Value) (w:World),(Instr.makeFunc fn first cap).run Tryz.prog w = .ok (.func fn first cap) w:=fun _ _ _ _=>rfl;have hg:=hcu.lt
 have hat:w.cell? ⟨g,1,none⟩=some (.int .i64 at_):=by
   obtain⟨A,c,hb,_⟩:=hcu;simpa using hb.cell 1
 have HCU:=hd_ hcu;have HBN:=hd_ bn;have HBC:=hd_ bc;clear hcu bn bc;(have hg1:g<w.heap.size+1:=by omega);(have hg2:g<w.heap.size+1+1:=by omega);(have hg3:g<w.heap.size+1+1+1:=by omega);refine Q6 fun R hR=>?_;go_enter_defers Tryz.func90,Tryz.ntmps90;go_wp2_with fail;obtain⟨H,hH⟩:=nm_ (w.heap.size);rw [<-hH]at hg hg1 hg2 hg3;simp only [<-hH];obtain⟨W0,hW0⟩:=nm_ ((((w.alloc (.cells #[.pointer (some ⟨g,0,none⟩)] 35)).alloc (.cells #[.slice none 0 0] 26)).alloc (.cells #[.int .i64 0] 38)).alloc (.cells #[.int .i64 at_] 3));rw [<-hW0];(have f0:Q0 w W0:=by rw [hW0];exact((((Upd.refl _ w).alloc _).alloc _).alloc _).alloc _);(have k1:Blk W0 (H+1) 26 #[.slice none 0 0]:=by rw [hW0];exact((Q1 (by simp [hH]) _ _).alloc _).alloc _);(have k2:Blk W0 (H+1+1) 38 #[.int .i64 0]:=by rw [hW0];exact(Q1 (by simp [hH]) _ _).alloc _);clear hW0;have HH:=hd_ hH;clear hH;refine(Q75 (fun b=>F b/\b<w.heap.size) g pn pc bs at_ k W0 (HCU.out.both.fresh f0) hk (HBN.out.fresh f0) (HBC.out.fresh f0) (fun b hb=>hF b hb.1)).mono ?_;rintro e w1 ⟨v,rfl,o1,u1,c1⟩;obtain⟨A1,n1,c1',rfl,hn1⟩:=o1.form';have j1:=k1.upd u1 (by omega);have j2:=k2.upd u1 (by omega);have uu:Upd (fun b=>b=g) w w1:=(f0.mono (fun _ _ h=>h.elim)).trans' u1;have d1:=j1.cell0;have d2:=j2.cell0;have z1:=j1.frozen 0;have z2:=j2.frozen 0;have J1:=hd_ j1;have J2:=hd_ j2;have HO:=hd_ o1;have HC1:=hd_ c1;clear j1 j2 k1 k2 o1 c1 hn1;go_wp2;have L1:=(J1.out.set_ 0 (.slice A1 n1 c1')).far (p:=⟨H+1+1,0,none⟩) (by simp) (.int .i64 0);have L2:=(J2.out.far (p:=⟨H+1,0,none⟩) (by simp) (.slice A1 n1 c1')).set_ 0 (.int .i64 0);have hd2:=L2.cell0;have hd1:=L1.cell0;change Leaves _ _ _ _ _ _ _;refine leaves_cons (f:=151) (args:=#[.pointer (some ⟨H+1+1,0,none⟩),.pointer (some ⟨H+1+1+1,0,none⟩),.pointer (some ⟨H+1,0,none⟩),.pointer (some ⟨H,0,none⟩)]) (by simp) (by simp [go_sem]) ?_;refine(Q5N _ _ _ _ .returning _ hd2).mono ?_;rintro e u' w'' ⟨rfl,rfl,rfl⟩;refine⟨.tuple #[.slice A1 n1 c1',.int .i64 0],?_,hR.out _ _ ⟨_,rfl,?_,?_,?_⟩⟩
 . simp [results,Tryz.results90,go_sem,hd1,hd2]
 . exact(HO.out.far (p:=⟨H+1,0,none⟩) (HO.out.ne_blk J1.out (by decide)) _).far (p:=⟨H+1+1,0,none⟩) (HO.out.ne_blk J2.out (by decide)) _
 . exact(uu.setCell (p:=⟨H+1,0,none⟩) (fun h=>by have:=HH.out;simp at h;omega) _).setCell (p:=⟨H+1+1,0,none⟩) (fun h=>by have:=HH.out;simp at h;omega) _
 have m1:=HC1.out.upd (S:=fun b=>b=H+1) ((Upd.refl (fun b=>b=H+1) _).setCell (p:=⟨H+1,0,none⟩) (fun _=>rfl) (.slice A1 n1 c1')) (by omega) (fun b _ hb e=>by have:=hb.2;have:=HH.out;omega);have m2:=m1.upd (S:=fun b=>b=H+1+1) ((Upd.refl (fun b=>b=H+1+1) _).setCell (p:=⟨H+1+1,0,none⟩) (fun _=>rfl) (.int .i64 0)) (by omega) (fun b _ hb e=>by have:=hb.2;have:=HH.out;omega);exact m2.mono fun b hb=>hb.1
theorem Q29 (F:Nat->Prop) (g:Nat) (bs:List Nat) (at_ k:Nat) (w:World) (hcu:Qk w F g bs at_) (hk:at_+k<=bs.length) (hF:∀b,F b->b≠g) :
   Calls Tryz.prog 58 #[.pointer (some ⟨g,0,none⟩),.int .i64 k] w fun e w'=>∃v,e = .returned (.tuple #[v,.int .i64 0]) /\
     Own w' 5 v (((bs.drop at_).take k).map fun b=>.int .u8 (b:Nat))/\Upd (fun b=>b=g) w w'/\Qk w' F g bs (at_+k):=by
 have hmf:∀(fn:Fn) (first cap:Array Value) (w:World),(Instr.makeFunc fn first cap).run Tryz.prog w = .ok (.func fn first cap) w:=fun _ _ _ _=>rfl;obtain⟨H,hH⟩:=nm_ (w.heap.size)
 have hr:=Q9K F g (H+1) H bs at_ k ((w.alloc (.cells #[.pointer (some ⟨g,0,none⟩)] 35)).alloc (.cells #[.int .i64 k] 3)) (hcu.fresh (((Upd.refl _ w).alloc _).alloc _)) hk
   (Q1 (by simp [hH]) _ _) ((Q1 hH _ _).alloc _) hF
 rw [hH]at hr;have HR:=hd_ hr;clear hr hcu hH H;refine Q6 fun R hR=>?_;go_enter Tryz.func58,Tryz.ntmps58;go_wp2_with fail;refine HR.out.mono ?_;rintro e w1 ⟨v,rfl,o1,u1,c1⟩;go_wp2;(try go_ret2);refine hR.out _ _ ⟨v,rfl,o1,?_,c1⟩;exact(((Upd.refl (fun b=>b=g) w).alloc _).alloc _).trans' u1
end Go.Proofs.YtjfdaphjijfieaaGreat
namespace Go.Proofs.YtjfdaphjijfieaaGreat
def YH (N:List Int):Prop:=(∀c∈N,0<=c)/\N.sum<=1099511627776
instance (N:List Int):Decidable (YH N):=by unfold YH;infer_instance
def QC (N:List Int):Nat:=N.countP fun c=>decide (0<c)
theorem Vl (N:List Int) (c:Int):(N++[c]).sum=N.sum+c:=by simp
theorem Q5O (N:List Int) (c:Int):QC (N++[c])=QC N+if 0<c then 1 else 0:=by
 unfold QC;rw [List.countP_append,List.countP_cons,List.countP_nil];(by_cases h:0<c<;>simp [h])
theorem Xc (N:List Int):QC N<=N.length:=List.countP_le_length
theorem Jt {N:List Int} (h:∀c∈N,0<=c):0<=N.sum:=by
 induction N with
 | nil=>simp
 | cons x l ih =>
   rw [List.sum_cons];have:=ih fun c hc=>h c (List.mem_cons_of_mem _ hc);have:=h x (by simp);omega
theorem VN {N:List Int} (h:∀c∈N,0<=c) (k:Nat):(N.take k).sum<=N.sum:=by
 (have h1:N.sum=(N.take k).sum+(N.drop k).sum:=by rw [<-List.sum_append,List.take_append_drop]);have h2:=Jt (N:=N.drop k) fun c hc=>h c (List.mem_of_mem_drop hc);omega
theorem YH.take {N:List Int} (h:YH N) (k:Nat):YH (N.take k) :=
 ⟨fun c hc=>h.1 c (List.mem_of_mem_take hc),Int.le_trans (VN h.1 k) h.2⟩
theorem YH.le {N:List Int} (h:YH N) {c:Int} (hc:c∈N):0<=c/\c<=N.sum:=by
 refine⟨h.1 c hc,?_⟩;have h1:=h.1;clear h
 induction N with
 | nil=>cases hc
 | cons x l ih =>
   rw [List.sum_cons];have h2:=Jt (N:=l) fun c hc=>h1 c (List.mem_cons_of_mem _ hc);have h3:=h1 x (by simp);rcases List.mem_cons.1 hc with rfl|hc
   . omega
   have:=ih hc fun c hc=>h1 c (List.mem_cons_of_mem _ hc);omega
def Kf (best:Option (Nat × Int)) (i:Nat) (v:Option Int):Option (Nat × Int) :=
  match v with
  | none=>best
  | some x=>match best with
    | none=>some (i,x)
    | some (j,y)=>if y<x then some (i,x)else some (j,y)
def VB:Nat->List (Option Int)->Option (Nat × Int)->Option (Nat × Int)
  | _,[],b=>b
  | i,v::l,b=>VB (i+1) l (Kf b i v)
def QA (l:List (Option Int)):Option (Nat × Int):=VB 0 l none
theorem Q0f:∀(a:List (Option Int)) (i:Nat) (v:Option Int) (b:Option (Nat × Int)),VB i (a++[v]) b=Kf (VB i a b) (i+a.length) v
 | [],i,v,b=>by simp [VB]
 | x::a,i,v,b=>by
   rw [List.cons_append,VB,Q0f a (i+1) v (Kf b i x)]
   rw [VB,List.length_cons,show i+1+a.length=i+(a.length+1) by omega]
theorem Q0N (l:List (Option Int)) (v:Option Int):QA (l++[v])=Kf (QA l) l.length v:=by
 unfold QA;rw [Q0f,Nat.zero_add]
theorem Va:∀(k:Nat) (l:List (Option Int)) (j:Nat) (y:Int),k=l.length->QA l=some (j,y)->l[j]?=some (some y)
 | 0,l,j,y,h,ha=>by
   have:l=[]:=List.eq_nil_of_length_eq_zero h.symm
   subst this
   cases ha
 | k+1,l,j,y,h,ha=>by
   obtain⟨a,v,rfl⟩:∃a v,l=a++[v]:=by
     (have h0:l≠[]:=by intro h1;rw [h1]at h;simp at h);exact⟨l.dropLast,l.getLast h0,(List.dropLast_concat_getLast h0).symm⟩
   rw [Q0N]at ha;(have hk:k=a.length:=by simp at h;omega)
   have keep:∀j y,QA a=some (j,y)->(a++[v])[j]?=some (some y):=fun j y hj=>by
     have h1:=Va k a j y hk hj;rw [List.getElem?_append_left (List.getElem?_eq_some_iff.1 h1).1];exact h1
   (have new:∀x,v=some x->(a++[v])[a.length]?=some (some x):=fun x hx=>by rw [List.getElem?_append_right (Nat.le_refl _),hx];simp);unfold Kf at ha;split at ha
   . exact keep j y ha
   rename_i x
   split at ha
   . injection ha with ha
     injection ha with h1 h2;subst h1 h2;exact new _ rfl
   rename_i j' y' hb
   split at ha
   . injection ha with ha
     injection ha with h1 h2;subst h1 h2;exact new _ rfl
   injection ha with ha;injection ha with h1 h2;subst h1 h2;exact keep _ _ hb
theorem Q1A:∀(l:List (Option Int)) (i:Nat) (b:Option (Nat × Int)),VB i l b=none->b=none/\∀v∈l,v=none
 | [],_,b,h=>⟨h,by simp⟩
 | v::l,i,b,h=>by
   obtain⟨h1,h2⟩:=Q1A l (i+1) (Kf b i v) h
   have h3:b=none/\v=none:=by
     unfold Kf at h1;split at h1
     . exact⟨h1,rfl⟩
     split at h1
     . cases h1
     (split at h1<;>cases h1)
   exact⟨h3.1,fun x hx=>(List.mem_cons.1 hx).elim (fun e=>e ▸ h3.2) (h2 x)⟩
theorem Q0O {l:List (Option Int)} (h:QA l=none):∀v∈l,v=none:=(Q1A l 0 none h).2
def upV (N M:List Int) (s tot:Int):List (Option Int):=List.zipWith (fun c n=>if 0<c then some (c*s-n*tot)else none) N M
def dnV (N M:List Int) (s tot:Int):List (Option Int):=List.zipWith (fun c n=>if 1<n then some (-(c*s-n*tot))else none) N M
def Q16 (M:List Int) (by_:Int):Option (Nat × Int)->List Int
  | none=>M
  | some (j,_)=>M.set j (M.getD j 0+by_)
def upN (N:List Int) (s tot:Int):Nat->List Int->List Int
  | 0,M=>M
  | k+1,M=>upN N s tot k (Q16 M 1 (QA (upV N M s tot)))
def dnN (N:List Int) (s tot:Int):Nat->List Int->List Int
  | 0,M=>M
  | k+1,M=>dnN N s tot k (Q16 M (-1) (QA (dnV N M s tot)))
def JP (N:List Int) (s tot:Int):List Int:=N.map fun c=>if 0<c then max (c*s / tot) 1 else 0
def Vw (N:List Int) (s:Int):List Int :=
  if(JP N s N.sum).sum<=s then upN N s N.sum (s-(JP N s N.sum).sum).toNat (JP N s N.sum)
  else dnN N s N.sum ((JP N s N.sum).sum-s).toNat (JP N s N.sum)
def Xj (N:List Int) (s tot:Int) (M:List Int):List Int:=List.zipWith (fun c n=>if 0<c/\c*s<tot then -1 else n) N M
def Yt:List Int->Nat
  | []=>0
  | c::l=>if Yt l=0 then(if 0<c then 1 else 0)else Yt l+1
def KJ (N:List Int) (lg:Nat):List Int:=(Xj N (2^lg) N.sum (Vw N (2^lg))).take (Yt N)
def Kr (N:List Int) (lg:Int):Prop:=YH N/\0<QC N/\0<=lg/\lg<=9/\QC N<=2^lg.toNat
instance (N:List Int) (lg:Int):Decidable (Kr N lg):=by unfold Kr;infer_instance
theorem Q5f (N:List Int) (c:Int):Yt (N++[c])=if 0<c then N.length+1 else Yt N:=by
 induction N with
 | nil=>simp [Yt]
 | cons x l ih =>
   rw [List.cons_append,Yt,ih,Yt];by_cases h:0<c
   . simp [h]
   simp [h]
def MOk (N M:List Int) (B:Int):Prop:=M.length=N.length/\∀(i:Nat) (c m:Int),N[i]?=some c->M[i]?=some m->0<=m/\m<=B/\(0<c->1<=m)/\(¬0<c->m=0)
theorem Q4j {N:List Int} (h:YH N) {s:Int} (h1:1<=s) (h2:s<=512):MOk N (JP N s N.sum) 512:=by
 refine⟨by simp [JP],fun i c m hc hm=>?_⟩
 have hm':m=if 0<c then max (c*s / N.sum) 1 else 0:=by
   unfold JP at hm;rw [List.getElem?_map,hc]at hm;simpa using hm.symm
 obtain⟨_,h4⟩:=h.le (List.mem_of_getElem? hc);by_cases h0:0<c
 . rw [if_pos h0]at hm'
   have h5:c*s / N.sum<=s:=by
     (have h6:c*s<=s*N.sum:=by rw [Int.mul_comm];exact Int.mul_le_mul_of_nonneg_left h4 (by omega))
     calc c*s / N.sum<=s*N.sum / N.sum:=Int.ediv_le_ediv (by omega) h6
       _=s:=Int.mul_ediv_cancel _ (by omega)
   exact⟨by omega,by omega,fun _=>by omega,fun hn=>absurd h0 hn⟩
 rw [if_neg h0]at hm';exact⟨by omega,by omega,fun hp=>absurd hp h0,fun _=>hm'⟩
theorem Q9g {N M:List Int} {s tot:Int} (hl:M.length=N.length) (hu:0<QC N):∃a,QA (upV N M s tot)=some a:=by
 cases h:QA (upV N M s tot)with
 | some a=>exact⟨a,rfl⟩
 | none =>
   have h1:=Q0O h;obtain⟨c,hc,hp⟩:=List.countP_pos_iff.1 hu;obtain⟨i,hi,rfl⟩:=List.getElem_of_mem hc
   have h2:(upV N M s tot)[i]?=some (some (N[i]*s-M[i]'(by omega)*tot)):=by
     unfold upV;rw [List.getElem?_zipWith,List.getElem?_eq_getElem hi,List.getElem?_eq_getElem (by omega)];simp only;rw [if_pos (by simpa using hp)]
   have:=h1 _ (List.mem_of_getElem? h2);cases this
theorem Q9h {N M:List Int} {s tot B:Int} (hm:MOk N M B) (hu:(QC N:Int)<M.sum):∃a,QA (dnV N M s tot)=some a:=by
 cases h:QA (dnV N M s tot)with
 | some a=>exact⟨a,rfl⟩
 | none =>
   have h1:=Q0O h
   have h2:∀(i:Nat) (c m:Int),N[i]?=some c->M[i]?=some m->m<=1:=by
     intro i c m hc hm';rcases Int.lt_or_le 1 m with h3|h3
     . have h4:(dnV N M s tot)[i]?=some (some (-(c*s-m*tot))):=by
         unfold dnV;rw [List.getElem?_zipWith,hc,hm'];simp only;rw [if_pos h3]
       have:=h1 _ (List.mem_of_getElem? h4);cases this
     exact h3
   have h5:∀(N M:List Int),M.length=N.length->(∀(i:Nat) (c m:Int),N[i]?=some c->M[i]?=some m->m<=1/\(¬0<c->m=0))->M.sum<=QC N:=by
     intro N
     induction N with
     | nil=>intro M hl _;have:M=[]:=List.eq_nil_of_length_eq_zero (by simpa using hl);subst this;simp [QC]
     | cons c N ih =>
       intro M hl hh
       cases M with
       | nil=>simp at hl
       | cons m M =>
         have h6:=ih M (by simpa using hl) (fun i c m hc hm=>hh (i+1) c m (by simpa using hc) (by simpa using hm));have h7:=hh 0 c m rfl rfl
         have h8:QC (c::N)=QC N+if 0<c then 1 else 0:=by
           unfold QC;rw [List.countP_cons];(by_cases h:0<c<;>simp [h])
         rw [List.sum_cons,h8];by_cases h9:0<c
         . rw [if_pos h9];omega
         rw [if_neg h9];have:=h7.2 h9;omega
   have h6:=h5 N M hm.1 (fun i c m hc hm'=>⟨h2 i c m hc hm',(hm.2 i c m hc hm').2.2.2⟩);omega
theorem Q4H (M:List Int) (j:Nat) (m b:Int) (h:M[j]?=some m):(M.set j (m+b)).sum=M.sum+b:=by
 induction M generalizing j with
 | nil=>simp at h
 | cons x M ih =>
   cases j with
   | zero=>simp at h;subst h;simp;omega
   | succ j=>rw [List.set_cons_succ,List.sum_cons,List.sum_cons,ih j (by simpa using h)];omega
theorem Q4k {N M:List Int} {s tot B:Int} (hm:MOk N M B) {j:Nat} {y:Int} (ha:QA (upV N M s tot)=some (j,y)) :
   ∃c m,N[j]?=some c/\M[j]?=some m/\0<c/\Q16 M 1 (QA (upV N M s tot))=M.set j (m+1)/\MOk N (M.set j (m+1)) (B+1)/\(M.set j (m+1)).sum=M.sum+1:=by
 have h1:=Va _ _ j y rfl ha;unfold upV at h1;rw [List.getElem?_zipWith]at h1
 have hj:j<N.length:=by
   rcases Nat.lt_or_ge j N.length with h|h
   . exact h
   rw [List.getElem?_eq_none h]at h1;simp at h1
 (have hj2:j<M.length:=by have:=hm.1;omega);obtain⟨c,hc⟩:∃c,N[j]?=some c:=⟨_,List.getElem?_eq_getElem hj⟩;obtain⟨m,hmj⟩:∃m,M[j]?=some m:=⟨_,List.getElem?_eq_getElem hj2⟩;rw [hc,hmj]at h1;simp only [Option.some.injEq]at h1
 have h0:0<c:=by
   rcases Int.lt_or_le 0 c with h|h
   . exact h
   rw [if_neg (by omega)]at h1;cases h1
 refine⟨c,m,hc,hmj,h0,?_,⟨by simpa using hm.1,fun i c' m' hc' hm'=>?_⟩,Q4H M j m 1 hmj⟩
 . rw [ha];simp [Q16,List.getD_eq_getElem?_getD,hmj]
 by_cases hij:j=i
 . subst hij
   rw [List.getElem?_set_self hj2]at hm';injection hm' with hm';rw [hc]at hc';injection hc' with hc';subst hc' hm';have h5:=hm.2 j c m hc hmj;exact⟨by omega,by omega,fun _=>by omega,fun hn=>absurd h0 hn⟩
 rw [List.getElem?_set_ne hij]at hm';have h5:=hm.2 i c' m' hc' hm';exact⟨h5.1,by omega,h5.2.2⟩
theorem Q4l {N M:List Int} {s tot B:Int} (hm:MOk N M B) {j:Nat} {y:Int} (ha:QA (dnV N M s tot)=some (j,y)) :
   ∃c m,N[j]?=some c/\M[j]?=some m/\1<m/\Q16 M (-1) (QA (dnV N M s tot))=M.set j (m+-1)/\MOk N (M.set j (m+-1)) B/\(M.set j (m+-1)).sum=M.sum+-1:=by
 have h1:=Va _ _ j y rfl ha;unfold dnV at h1;rw [List.getElem?_zipWith]at h1
 have hj:j<N.length:=by
   rcases Nat.lt_or_ge j N.length with h|h
   . exact h
   rw [List.getElem?_eq_none h]at h1;simp at h1
 (have hj2:j<M.length:=by have:=hm.1;omega);obtain⟨c,hc⟩:∃c,N[j]?=some c:=⟨_,List.getElem?_eq_getElem hj⟩;obtain⟨m,hmj⟩:∃m,M[j]?=some m:=⟨_,List.getElem?_eq_getElem hj2⟩;rw [hc,hmj]at h1;simp only [Option.some.injEq]at h1
 have h0:1<m:=by
   rcases Int.lt_or_le 1 m with h|h
   . exact h
   rw [if_neg (by omega)]at h1;cases h1
 refine⟨c,m,hc,hmj,h0,?_,⟨by simpa using hm.1,fun i c' m' hc' hm'=>?_⟩,Q4H M j m (-1) hmj⟩
 . rw [ha];simp [Q16,List.getD_eq_getElem?_getD,hmj]
 by_cases hij:j=i
 . subst hij
   rw [List.getElem?_set_self hj2]at hm';injection hm' with hm';rw [hc]at hc';injection hc' with hc';subst hc' hm';have h5:=hm.2 j c m hc hmj;exact⟨by omega,by omega,fun _=>by omega,fun hn=>by have:=h5.2.2.2 hn;omega⟩
 rw [List.getElem?_set_ne hij]at hm';exact hm.2 i c' m' hc' hm'
end Go.Proofs.YtjfdaphjijfieaaGreat
namespace Go.Proofs.YtjfdaphjijfieaaGreat
open Go.RowKit
theorem YH.snoc {N:List Int} {c:Int} (h:YH N) (h0:0<=c) (h1:N.sum+c<=1099511627776):YH (N++[c]):=by
 refine⟨fun x hx=>?_,by rw [Vl];exact h1⟩;rcases List.mem_append.1 hx with hx|hx
 . exact h.1 x hx
 rw [List.mem_singleton.1 hx];exact h0
def Jb (N:List Int) (e:Ending):Prop :=
  e = .returned (.tuple #[.int .i64 (if YH N then N.sum else 0),.int .i64 (if YH N then(QC N:Nat)else 0),.bool (decide (YH N/\0<QC N))])
theorem Jb.no {N:List Int} (h:¬YH N) {e:Ending} (he:e = .returned (.tuple #[.int .i64 0,.int .i64 0,.bool false])):Jb N e:=by
 unfold Jb;rw [if_neg h,if_neg h,he,decide_eq_false (fun q=>h q.1)]
theorem Jb.yes {N:List Int} (h:YH N) {e:Ending} {S:Int} {u:Nat} (hS:S=N.sum) (hu:u=QC N) (he:e = .returned (.tuple #[.int .i64 S,.int .i64 u,.bool (decide (0<u))])):Jb N e:=by
 unfold Jb;rw [if_pos h,if_pos h,he,hS,hu]
 congr 5
 simp [h]
theorem Q0X (F:Nat->Prop) (A:Option Addr) (n c:Nat) (N:List Int) (w:World) (hr:Rd w F A n (Q2 N)) (hfit:Fit N) (hn:(n:Int)<=1099511627776) :
   Calls Tryz.prog 201 #[.slice A n c] w fun e w'=>Jb N e/\w'=w:=by
 (have hN:N.length=n:=by have:=hr.1;simpa using this);have HR:=hd_ hr;have HN:=hd_ hN;have HF:=hd_ hfit;clear hr hN hfit;refine Q6 fun R hR=>?_;go_enter Tryz.func201,Tryz.ntmps201;go_wp2;go_loopg [2,3,9] n (fun m s u i wr=>wr=w/\∃k:Nat,k+m=n/\i = .int .i64 k/\s = .int .i64 (N.take k).sum/\u = .int .i64 (QC (N.take k):Nat)/\YH (N.take k))
 case atStart=>exact⟨rfl,0,by omega,rfl,by simp,by simp [QC],by simp [YH]⟩
 case round =>
   obtain⟨rfl,k,hk,rfl,rfl,rfl,hok⟩:=hrel;have hs0:=Jt hok.1;have hs1:=hok.2;have hu:=Xc (N.take k);obtain⟨S,hS⟩:=nm_ ((N.take k).sum);obtain⟨u,hU⟩:=nm_ (QC (N.take k));(have hu2:u<=n:=by rw [hU];have:=HN.out;have:=List.length_take_le k N;have:=List.length_take_le' k N;omega);rw [<-hS]at hs0 hs1 ⊢;rw [<-hU];have HS:=hd_ hS;have HU:=hd_ hU;have HOK:=hd_ hok;have HK:=hd_ hk;clear hS hU hok hu;by_cases hlt:k<n
   . have hkn:k<N.length:=by have:=HN.out;omega
     have hgt:=List.take_succ_eq_append_getElem hkn;have hfk:=HF.out N[k] (List.getElem_mem hkn);have hmem:=List.getElem_mem hkn;obtain⟨b,o,_,rfl,_,hc⟩:=HR.out.int (k:=k) hlt;obtain⟨z,hz⟩:=nm_ (N[k]);rw [<-hz]at hfk hgt hc hmem;have Hgt:=hd_ hgt;have Hmem:=hd_ hmem;clear hz hgt hmem hk;obtain⟨hf1,hf2⟩:=hfk;by_cases hz1:z<0
     . clear hf1 hf2
       go_wp2;(try go_ret3);refine hR.out _ _ ⟨Jb.no (fun h=>?_) rfl,rfl⟩;have:=h.1 z Hmem.out;omega
     (have hz0:0<=z:=by omega);have hw1:IntKind.i64.wrap (1099511627776-S)=1099511627776-S:=IntWalk.i64_in _ (by omega);by_cases hz2:1099511627776-S<z
     . clear hf1 hf2
       go_wp2;(try go_ret3);refine hR.out _ _ ⟨Jb.no (fun h=>?_) rfl,rfl⟩;have h1:=(h.take (k+1)).2;rw [Hgt.out,Vl,<-HS.out]at h1;omega
     have hw2:IntKind.i64.wrap (S+z)=S+z:=IntWalk.i64_in _ (by omega);have hw3:IntKind.i64.wrap ((u:Int)+1)=u+1:=IntWalk.i64_in _ (by omega);have hw4:IntKind.i64.wrap ((k:Int)+1)=k+1:=IntWalk.i64_in _ (by omega);(have hok2:YH (N.take (k+1)):=by rw [Hgt.out];exact HOK.out.snoc hz0 (by rw [<-HS.out];omega));(have hsum2:(N.take (k+1)).sum=S+z:=by rw [Hgt.out,Vl,<-HS.out]);(have hus2:QC (N.take (k+1))=u+if 0<z then 1 else 0:=by rw [Hgt.out,Q5O,<-HU.out]);have HOK2:=hd_ hok2;have HSUM2:=hd_ hsum2;have HUS2:=hd_ hus2;clear hok2 hsum2 hus2;by_cases hz3:0<z
     . go_wp2
       go_roundg (gk-1)
       case measure=>have:=HK.out;omega
       case rel=>exact⟨rfl,k+1,by have:=HK.out;omega,by go_num,by rw [HSUM2.out],by rw [HUS2.out,if_pos hz3];go_num,HOK2.out⟩
     go_wp2;go_roundg (gk-1)
     case measure=>have:=HK.out;omega
     case rel=>exact⟨rfl,k+1,by have:=HK.out;omega,by go_num,by rw [HSUM2.out],by rw [HUS2.out,if_neg (by omega)];rfl,HOK2.out⟩
   (obtain rfl:k=n:=by have:=HK.out;omega);have htk:N.take k=N:=List.take_of_length_le (by have:=HN.out;omega);have hA:=HOK.out;have hB:=HS.out;have hC:=HU.out;rw [htk]at hA hB hC;have HP:=hd_ (Jb.yes hA hB hC rfl);clear hA hB hC htk;go_wp2;(try go_ret3);exact hR.out _ _ ⟨HP.out,rfl⟩
structure XR (w:World) (F:Nat->Prop) (A:Option Addr) (n c nc p2 p9 p10 p6 g:Nat) (N M:List Int) (s tot:Int):Prop where
  b2:Blk w p2 27 #[.slice A n c]
  b9:Blk w p9 3 #[.int .i64 s]
  b10:Blk w p10 27 #[.slice (some ⟨g,0,none⟩) n nc]
  b6:Blk w p6 3 #[.int .i64 tot]
  bg:Blk w g 3 (Q2 M).toArray
  hr:Rd w F A n (Q2 N)
theorem XR.fresh {w w':World} {F:Nat->Prop} {A:Option Addr} {n c nc p2 p9 p10 p6 g:Nat} {N M:List Int} {s tot:Int} (h:XR w F A n c nc p2 p9 p10 p6 g N M s tot) (hu:Q0 w w'):XR w' F A n c nc p2 p9 p10 p6 g N M s tot :=
 ⟨h.b2.fresh hu,h.b9.fresh hu,h.b10.fresh hu,h.b6.fresh hu,h.bg.fresh hu,h.hr.fresh hu⟩
def Qt (w w':World):Prop:=∃n,w'=w.drewN n
theorem Qt.refl (w:World):Qt w w:=⟨0,rfl⟩
theorem Qt.trans {w w' w'':World} (h:Qt w w') (k:Qt w' w''):Qt w w'':=by
 obtain⟨n,rfl⟩:=h;obtain⟨m,rfl⟩:=k;exact⟨n+m,World.drewN_drewN _ _ _⟩
theorem Qt.fresh {w w':World} (h:Qt w w'):Q0 w w':=by
 obtain⟨n,rfl⟩:=h;exact(Upd.refl _ w).drewN n
def NBd (N M:List Int) (s tot:Int):Prop:=0<=s/\s<=512/\0<=tot/\tot<=1099511627776/\(∀x∈N,0<=x/\x<=1099511627776)/\∀y∈M,0<=y/\y<=2000
theorem NBd.mul {N M:List Int} {s tot:Int} (h:NBd N M s tot) {x y:Int} (hx:x∈N) (hy:y∈M):0<=x*s/\x*s<=562949953421312/\0<=y*tot/\y*tot<=2199023255552000:=by
 obtain⟨h1,h2,h3,h4,h5,h6⟩:=h;obtain⟨hx0,hx1⟩:=h5 x hx;obtain⟨hy0,hy1⟩:=h6 y hy;have e1:x*s<=1099511627776*512:=Int.le_trans (Int.mul_le_mul_of_nonneg_right hx1 h1) (Int.mul_le_mul_of_nonneg_left h2 (by omega));have e2:y*tot<=2000*1099511627776:=Int.le_trans (Int.mul_le_mul_of_nonneg_right hy1 h3) (Int.mul_le_mul_of_nonneg_left h4 (by omega));exact⟨Int.mul_nonneg hx0 h1,by omega,Int.mul_nonneg hy0 h3,by omega⟩
theorem Q2a (F:Nat->Prop) (A:Option Addr) (n c nc p2 p9 p10 p6 g:Nat) (N M:List Int) (s tot:Int) (w:World) (hc:XR w F A n c nc p2 p9 p10 p6 g N M s tot) (hb:NBd N M s tot) (hn:(n:Int)<=1099511627776)
   (i:Nat) (x y:Int) (hx:N[i]?=some x) (hy:M[i]?=some y) (hi:i<n) :
   Calls Tryz.prog 202 #[.int .i64 i,.pointer (some ⟨p2,0,none⟩),.pointer (some ⟨p9,0,none⟩),.pointer (some ⟨p10,0,none⟩),.pointer (some ⟨p6,0,none⟩)] w fun e w' =>
     e = .returned (.int .i64 (x*s-y*tot))/\Qt w w':=by
 obtain⟨m1,m2,m3,m4⟩:=hb.mul (List.mem_of_getElem? hx) (List.mem_of_getElem? hy);obtain⟨b2,b9,b10,b6,bg,hr⟩:=hc;obtain⟨b,o,_,rfl,_,hcl⟩:=hr.int (k:=i) hi;obtain⟨hiN,hxe⟩:=List.getElem?_eq_some_iff.1 hx;rw [hxe]at hcl;(have hcg:w.cell? ⟨g,i,none⟩=some (.int .i64 y):=by rw [bg.cell];simp [Q2,hy]);have k2:=b2.cell0;have k9:=b9.cell0;have k10:=b10.cell0;have k6:=b6.cell0;have s1:IntKind.i64.wrap (x*s)=x*s:=IntWalk.i64_in _ (by omega);have s2:IntKind.i64.wrap (y*tot)=y*tot:=IntWalk.i64_in _ (by omega);have s3:IntKind.i64.wrap (x*s-y*tot)=x*s-y*tot:=IntWalk.i64_in _ (by omega);(have hi0:(0:Int)<=(i:Int):=by omega);(have hiI:(i:Int)<(n:Int):=by omega);clear hx hy hr bg b2 b9 b10 b6 m1 m2 m3 m4 hb hxe hiN;refine Q6 fun R hR=>?_;go_enter Tryz.func202,Tryz.ntmps202;go_wp2_with fail;go_quiet (fail);go_wp2_with fail;(try go_ret);exact hR.out _ _ ⟨rfl,_,rfl⟩
theorem Q9f (F:Nat->Prop) (A:Option Addr) (n c p2:Nat) (N:List Int) (w:World) (b2:Blk w p2 27 #[.slice A n c]) (hr:Rd w F A n (Q2 N)) (hn:(n:Int)<=1099511627776)
   (i:Nat) (x:Int) (hx:N[i]?=some x) (hi:i<n) :
   Calls Tryz.prog 203 #[.int .i64 i,.pointer (some ⟨p2,0,none⟩)] w fun e w'=>e = .returned (.bool (decide (0<x)))/\Qt w w':=by
 obtain⟨b,o,_,rfl,_,hcl⟩:=hr.int (k:=i) hi;obtain⟨hiN,hxe⟩:=List.getElem?_eq_some_iff.1 hx;rw [hxe]at hcl;have k2:=b2.cell0;(have hi0:(0:Int)<=(i:Int):=by omega);(have hiI:(i:Int)<(n:Int):=by omega);clear hx hr b2 hxe hiN;refine Q6 fun R hR=>?_;go_enter Tryz.func203,Tryz.ntmps203;go_wp2_with fail;(try go_ret);exact hR.out _ _ ⟨rfl,0,rfl⟩
theorem Q7U (n nc p10 g:Nat) (M:List Int) (w:World) (b10:Blk w p10 27 #[.slice (some ⟨g,0,none⟩) n nc]) (bg:Blk w g 3 (Q2 M).toArray) (hn:(n:Int)<=1099511627776)
   (i:Nat) (y:Int) (hy:M[i]?=some y) (hi:i<n) :
   Calls Tryz.prog 204 #[.int .i64 i,.pointer (some ⟨p10,0,none⟩)] w fun e w'=>e = .returned (.bool (decide (1<y)))/\Qt w w':=by
 (have hcg:w.cell? ⟨g,i,none⟩=some (.int .i64 y):=by rw [bg.cell];simp [Q2,hy]);have k2:=b10.cell0;(have hi0:(0:Int)<=(i:Int):=by omega);(have hiI:(i:Int)<(n:Int):=by omega);clear hy bg b10;refine Q6 fun R hR=>?_;go_enter Tryz.func204,Tryz.ntmps204;go_wp2_with fail;(try go_ret);exact hR.out _ _ ⟨rfl,0,rfl⟩
def JV (p2 p9 p10 p6:Nat):Value:=.func (.func 202) #[] #[.pointer (some ⟨p2,0,none⟩),.pointer (some ⟨p9,0,none⟩),.pointer (some ⟨p10,0,none⟩),.pointer (some ⟨p6,0,none⟩)]
theorem Q6g (F:Nat->Prop) (A:Option Addr) (n c nc p2 p9 p10 p6 p14 g:Nat) (N M:List Int) (s tot:Int) (w:World) (hc:XR w F A n c nc p2 p9 p10 p6 g N M s tot) (hb:NBd N M s tot) (hn:(n:Int)<=1099511627776)
   (b14:Blk w p14 123 #[JV p2 p9 p10 p6])
   (i:Nat) (x y:Int) (hx:N[i]?=some x) (hy:M[i]?=some y) (hi:i<n) :
   Calls Tryz.prog 205 #[.int .i64 i,.pointer (some ⟨p14,0,none⟩)] w fun e w' =>
     e = .returned (.int .i64 (-(x*s-y*tot)))/\Qt w w':=by
 obtain⟨m1,m2,m3,m4⟩:=hb.mul (List.mem_of_getElem? hx) (List.mem_of_getElem? hy);have HK:=hd_ (Q2a F A n c nc p2 p9 p10 p6 g N M s tot w hc hb hn i x y hx hy hi);have k14:=b14.cell0;unfold JV at k14;have s3:IntKind.i64.wrap (-(x*s-y*tot))=-(x*s-y*tot):=IntWalk.i64_in _ (by omega);generalize x*s-y*tot=q at *;clear hx hy hc hb b14 m1 m2 m3 m4;refine Q6 fun R hR=>?_;go_enter Tryz.func205,Tryz.ntmps205;go_wp2_with fail;refine HK.out.mono ?_;rintro e w1 ⟨rfl,f1⟩;go_wp2_with fail;(try go_ret);exact hR.out _ _ ⟨rfl,f1⟩
def Jn:Option (Nat × Int)->Int
  | none=>-1
  | some (j,_)=>j
theorem Q0P {V:List (Option Int)} {k:Nat} (h:k<V.length):QA (V.take (k+1))=Kf (QA (V.take k)) k V[k]:=by
 rw [List.take_succ_eq_append_getElem h,Q0N,List.length_take,Nat.min_eq_left (by omega)]
theorem Q2s {V:List (Option Int)} {k j:Nat} {y:Int} (h:QA (V.take k)=some (j,y)):j<k/\V[j]?=some (some y):=by
 have h1:=Va _ _ j y rfl h;rw [List.getElem?_take]at h1;split at h1
 . exact⟨by assumption,h1⟩
 cases h1
theorem Xi {N M:List Int} {f:Int->Int->Option Int} {i:Nat} {v:Option Int} (h:(List.zipWith f N M)[i]?=some v):∃x y,N[i]?=some x/\M[i]?=some y/\v=f x y:=by
 rw [List.getElem?_zipWith]at h;rcases hx:N[i]? with _|x
 . rw [hx]at h;cases h
 rcases hy:M[i]? with _|y
 . rw [hx,hy]at h;cases h
 rw [hx,hy]at h;simp only [Option.some.injEq]at h;exact⟨x,y,rfl,rfl,h.symm⟩
theorem Q9V (n nc g p2 p9 p10 p6:Nat) (V:List (Option Int)) (w:World) (hV:V.length=n) (hn:(n:Int)<=1099511627776)
   (ham:∀W,Qt w W->∀(i:Nat) (v:Option Int),V[i]?=some v->Calls Tryz.prog 203 #[.int .i64 i,.pointer (some ⟨p2,0,none⟩)] W fun e w'=>e = .returned (.bool v.isSome)/\Qt W w')
   (hof:∀W,Qt w W->∀(i:Nat) (x:Int),V[i]?=some (some x)->Calls Tryz.prog 202 #[.int .i64 i,.pointer (some ⟨p2,0,none⟩),.pointer (some ⟨p9,0,none⟩),.pointer (some ⟨p10,0,none⟩),.pointer (some ⟨p6,0,none⟩)] W fun e w'=>e = .returned (.int .i64 x)/\Qt W w') :
   Calls Tryz.prog 206 #[.slice (some ⟨g,0,none⟩) n nc,.func (.func 203) #[] #[.pointer (some ⟨p2,0,none⟩)],.func (.func 202) #[] #[.pointer (some ⟨p2,0,none⟩),.pointer (some ⟨p9,0,none⟩),.pointer (some ⟨p10,0,none⟩),.pointer (some ⟨p6,0,none⟩)]] w fun e w' =>
     e = .returned (.int .i64 (Jn (QA V)))/\Qt w w':=by
 have HV:=hd_ hV;have HAM:=hd_ ham;have HOF:=hd_ hof;clear hV ham hof;refine Q6 fun R hR=>?_;go_enter Tryz.func206,Tryz.ntmps206;go_wp2_with fail;go_loopg [7,11] n (fun f q i wr=>Qt w wr/\∃k:Nat,k+f=n/\i = .int .i64 k/\q = .int .i64 (Jn (QA (V.take k))))
 case atStart=>exact⟨Qt.refl _,0,by omega,rfl,rfl⟩
 case round =>
   obtain⟨fr,k,hk,rfl,rfl⟩:=hrel;have FR:=hd_ fr;have HK:=hd_ hk;clear fr hk;by_cases hlt:k<n
   . have hkV:k<V.length:=by have:=HV.out;omega
     have HST:=hd_ (Q0P hkV);have hgk:V[k]?=some V[k]:=List.getElem?_eq_getElem hkV;have hca:=HAM.out wr FR.out k V[k] hgk;have HGK:=hd_ hgk;(have hlI:(k:Int)<n:=by omega);have hw4:IntKind.i64.wrap ((k:Int)+1)=k+1:=IntWalk.i64_in _ (by omega);generalize V[k]=v at *;clear hgk;rcases v with _|x
     . have HCA:=hd_ hca
       clear hca;have HB:=hd_ (show Jn (QA (V.take (k+1)))=Jn (QA (V.take k)) by rw [HST.out];rfl);clear HST;generalize Jn (QA (V.take k))=bi at *;go_wp2_with fail;refine HCA.out.mono ?_;rintro e w1 ⟨rfl,f1⟩;go_wp2_with fail;go_roundg (gk-1)
       case measure=>have:=HK.out;omega
       case rel=>exact⟨FR.out.trans f1,k+1,by have:=HK.out;omega,by go_num,by rw [HB.out]⟩
     have HCA:=hd_ hca;have HO1:=hd_ (fun W (h:Qt wr W)=>HOF.out W (FR.out.trans h) k x HGK.out);clear hca;rcases hb:QA (V.take k)with _|⟨j,y⟩
     . rw [hb]at HST
       have HST2:=hd_ (show QA (V.take (k+1))=some (k,x)from HST.out);clear hb HST;simp only [Jn];go_wp2_with fail;refine HCA.out.mono ?_;rintro e w1 ⟨rfl,f1⟩;go_wp2_with fail;go_roundg (gk-1)
       case measure=>have:=HK.out;omega
       case rel=>exact⟨FR.out.trans f1,k+1,by have:=HK.out;omega,by go_num,by rw [HST2.out];rfl⟩
     obtain⟨hjk,hj⟩:=Q2s hb;have HO2:=hd_ (fun W (h:Qt wr W)=>HOF.out W (FR.out.trans h) j y hj);rw [hb]at HST;have HST2:=hd_ (show QA (V.take (k+1))=if y<x then some (k,x)else some (j,y)from HST.out);clear hb HST hj;simp only [Jn];(have hj0:¬((j:Int)<0):=by omega);go_wp2_with fail;refine HCA.out.mono ?_;rintro e w1 ⟨rfl,f1⟩;go_wp2_with fail;refine(HO1.out _ f1).mono ?_;rintro e w2 ⟨rfl,f2⟩;have F12:=hd_ (f1.trans f2);clear f1 f2;go_wp2_with fail;refine(HO2.out _ F12.out).mono ?_;rintro e w3 ⟨rfl,f3⟩;by_cases hyx:y<x
     . rw [if_pos hyx]at HST2
       go_wp2_with fail;go_roundg (gk-1)
       case measure=>have:=HK.out;omega
       case rel=>exact⟨FR.out.trans (F12.out.trans f3),k+1,by have:=HK.out;omega,by go_num,by rw [HST2.out];rfl⟩
     rw [if_neg hyx]at HST2;go_wp2_with fail;go_roundg (gk-1)
     case measure=>have:=HK.out;omega
     case rel=>exact⟨FR.out.trans (F12.out.trans f3),k+1,by have:=HK.out;omega,by go_num,by rw [HST2.out];rfl⟩
   (obtain rfl:k=n:=by have:=HK.out;omega);have htk:V.take k=V:=List.take_of_length_le (by have:=HV.out;omega);rw [htk];generalize Jn (QA V)=bi at *;clear htk;go_wp2_with fail;(try go_ret);exact hR.out _ _ ⟨rfl,FR.out⟩
theorem Q9X (n nc g p10 p14:Nat) (V:List (Option Int)) (w:World) (hV:V.length=n) (hn:(n:Int)<=1099511627776)
   (ham:∀W,Qt w W->∀(i:Nat) (v:Option Int),V[i]?=some v->Calls Tryz.prog 204 #[.int .i64 i,.pointer (some ⟨p10,0,none⟩)] W fun e w'=>e = .returned (.bool v.isSome)/\Qt W w')
   (hof:∀W,Qt w W->∀(i:Nat) (x:Int),V[i]?=some (some x)->Calls Tryz.prog 205 #[.int .i64 i,.pointer (some ⟨p14,0,none⟩)] W fun e w'=>e = .returned (.int .i64 x)/\Qt W w') :
   Calls Tryz.prog 206 #[.slice (some ⟨g,0,none⟩) n nc,.func (.func 204) #[] #[.pointer (some ⟨p10,0,none⟩)],.func (.func 205) #[] #[.pointer (some ⟨p14,0,none⟩)]] w fun e w' =>
     e = .returned (.int .i64 (Jn (QA V)))/\Qt w w':=by
 have HV:=hd_ hV;have HAM:=hd_ ham;have HOF:=hd_ hof;clear hV ham hof;refine Q6 fun R hR=>?_;go_enter Tryz.func206,Tryz.ntmps206;go_wp2_with fail;go_loopg [7,11] n (fun f q i wr=>Qt w wr/\∃k:Nat,k+f=n/\i = .int .i64 k/\q = .int .i64 (Jn (QA (V.take k))))
 case atStart=>exact⟨Qt.refl _,0,by omega,rfl,rfl⟩
 case round =>
   obtain⟨fr,k,hk,rfl,rfl⟩:=hrel;have FR:=hd_ fr;have HK:=hd_ hk;clear fr hk;by_cases hlt:k<n
   . have hkV:k<V.length:=by have:=HV.out;omega
     have HST:=hd_ (Q0P hkV);have hgk:V[k]?=some V[k]:=List.getElem?_eq_getElem hkV;have hca:=HAM.out wr FR.out k V[k] hgk;have HGK:=hd_ hgk;(have hlI:(k:Int)<n:=by omega);have hw4:IntKind.i64.wrap ((k:Int)+1)=k+1:=IntWalk.i64_in _ (by omega);generalize V[k]=v at *;clear hgk;rcases v with _|x
     . have HCA:=hd_ hca
       clear hca;have HB:=hd_ (show Jn (QA (V.take (k+1)))=Jn (QA (V.take k)) by rw [HST.out];rfl);clear HST;generalize Jn (QA (V.take k))=bi at *;go_wp2_with fail;refine HCA.out.mono ?_;rintro e w1 ⟨rfl,f1⟩;go_wp2_with fail;go_roundg (gk-1)
       case measure=>have:=HK.out;omega
       case rel=>exact⟨FR.out.trans f1,k+1,by have:=HK.out;omega,by go_num,by rw [HB.out]⟩
     have HCA:=hd_ hca;have HO1:=hd_ (fun W (h:Qt wr W)=>HOF.out W (FR.out.trans h) k x HGK.out);clear hca;rcases hb:QA (V.take k)with _|⟨j,y⟩
     . rw [hb]at HST
       have HST2:=hd_ (show QA (V.take (k+1))=some (k,x)from HST.out);clear hb HST;simp only [Jn];go_wp2_with fail;refine HCA.out.mono ?_;rintro e w1 ⟨rfl,f1⟩;go_wp2_with fail;go_roundg (gk-1)
       case measure=>have:=HK.out;omega
       case rel=>exact⟨FR.out.trans f1,k+1,by have:=HK.out;omega,by go_num,by rw [HST2.out];rfl⟩
     obtain⟨hjk,hj⟩:=Q2s hb;have HO2:=hd_ (fun W (h:Qt wr W)=>HOF.out W (FR.out.trans h) j y hj);rw [hb]at HST;have HST2:=hd_ (show QA (V.take (k+1))=if y<x then some (k,x)else some (j,y)from HST.out);clear hb HST hj;simp only [Jn];(have hj0:¬((j:Int)<0):=by omega);go_wp2_with fail;refine HCA.out.mono ?_;rintro e w1 ⟨rfl,f1⟩;go_wp2_with fail;refine(HO1.out _ f1).mono ?_;rintro e w2 ⟨rfl,f2⟩;have F12:=hd_ (f1.trans f2);clear f1 f2;go_wp2_with fail;refine(HO2.out _ F12.out).mono ?_;rintro e w3 ⟨rfl,f3⟩;by_cases hyx:y<x
     . rw [if_pos hyx]at HST2
       go_wp2_with fail;go_roundg (gk-1)
       case measure=>have:=HK.out;omega
       case rel=>exact⟨FR.out.trans (F12.out.trans f3),k+1,by have:=HK.out;omega,by go_num,by rw [HST2.out];rfl⟩
     rw [if_neg hyx]at HST2;go_wp2_with fail;go_roundg (gk-1)
     case measure=>have:=HK.out;omega
     case rel=>exact⟨FR.out.trans (F12.out.trans f3),k+1,by have:=HK.out;omega,by go_num,by rw [HST2.out];rfl⟩
   (obtain rfl:k=n:=by have:=HK.out;omega);have htk:V.take k=V:=List.take_of_length_le (by have:=HV.out;omega);rw [htk];generalize Jn (QA V)=bi at *;clear htk;go_wp2_with fail;(try go_ret);exact hR.out _ _ ⟨rfl,FR.out⟩
theorem Xz (F G:Nat->Prop) (A B:Option Addr) (n m c d:Nat) (lg lh:Int) (N M:List Int) (w:World) (hr:Rd w F A n (Q2 N)) (hs:Rd w G B m (Q2 M)) (hn:n<=1000) (hm:m<=1000) :
   Calls Tryz.prog 44 #[.agg #[.int .i64 lg,.slice A n c],.agg #[.int .i64 lh,.slice B m d]] w fun e w' =>
     e = .returned (.bool (decide (lg=lh/\N=M)))/\Q0 w w':=by
 (have hN:N.length=n:=by have:=hr.1;simpa using this);(have hM:M.length=m:=by have:=hs.1;simpa using this);(have hn':(n:Int)<=1000:=by omega);(have hm':(m:Int)<=1000:=by omega);have HN:=hd_ hN;have HM:=hd_ hM;have fr:Q0 w ((w.alloc (.cells #[.int .i64 lg,.slice A n c] 29)).alloc (.cells #[.int .i64 lh,.slice B m d] 29)):=((Upd.refl _ _).alloc _).alloc _;have FR:=hd_ fr;have HR:=hd_ (hr.both);have HS:=hd_ (hs.both);clear hr hs fr hN hM hn hm;refine Q6 fun R hR=>?_;by_cases h1:lg=lh
 . subst h1
   by_cases h2:n=m
   . subst h2
     go_enter Tryz.func44,Tryz.ntmps44;go_wp2;obtain⟨w1,hw1⟩:=nm_ ((w.alloc (.cells #[.int .i64 lg,.slice A n c] 29)).alloc (.cells #[.int .i64 lg,.slice B n d] 29));rw [<-hw1];rw [<-hw1]at FR;(have bA:Blk w1 w.heap.size 29 #[.int .i64 lg,.slice A n c]:=by rw [hw1];exact(Blk.new _ _ _).alloc _);(have bB:Blk w1 (w.heap.size+1) 29 #[.int .i64 lg,.slice B n d]:=by rw [hw1];exact Q1 (by simp) _ _);have rA:=HR.out.fresh FR.out;have rB:=HS.out.fresh FR.out;have BA:=hd_ bA;have BB:=hd_ bB;have RA:=hd_ rA;have RB:=hd_ rB;clear hw1 bA bB rA rB;generalize w.heap.size=H at *;go_loopg [5] n (fun m i wr=>(∃q,wr=w1.drewN q)/\∃k:Nat,k+m=n/\i = .int .i64 k/\N.take k=M.take k)
     case atStart=>exact⟨⟨0,rfl⟩,0,by omega,rfl,by simp⟩
     case round =>
       obtain⟨⟨q,rfl⟩,k,hk,rfl,htk⟩:=hrel;have HT:=hd_ htk;have HK:=hd_ hk;clear htk hk;have cA1:=BA.out.cell 1;have cB1:=BB.out.cell 1;simp at cA1 cB1;by_cases hlt:k<n
       . obtain⟨b1,o1,hk1,rfl,hb1,hc1⟩:=RA.out.int (k:=k) hlt
         obtain⟨b2,o2,hk2,rfl,hb2,hc2⟩:=RB.out.int (k:=k) hlt;have e1:=List.take_succ_eq_append_getElem hk1;have e2:=List.take_succ_eq_append_getElem hk2;have i1:N[k]?=some N[k]:=List.getElem?_eq_getElem hk1;have i2:M[k]?=some M[k]:=List.getElem?_eq_getElem hk2;obtain⟨x,hx⟩:=nm_ (N[k]);obtain⟨y,hy⟩:=nm_ (M[k]);rw [<-hx]at hc1 e1 i1;rw [<-hy]at hc2 e2 i2;have E1:=hd_ e1;have E2:=hd_ e2;have I1:=hd_ i1;have I2:=hd_ i2;clear hx hy e1 e2 i1 i2;by_cases hxy:x=y
         . subst hxy
           go_wp2;go_region;(all_goals go_wp2);(all_goals go_roundg (gk-1))
           case measure=>have:=HK.out;omega
           case rel=>exact⟨⟨_,rfl⟩,k+1,by have:=HK.out;omega,by go_num,by rw [E1.out,E2.out,HT.out]⟩
         (have hxy':(x != y)=true:=by simpa using hxy);have HX:=hd_ hxy;clear hxy;go_wp2;go_region;(all_goals go_wp2);(all_goals try go_ret);(all_goals refine hR.out _ _ ⟨?_,FR.out.drewN _⟩);(all_goals rw [decide_eq_false (fun h=>HX.out (by have:=I1.out;rw [h.2,I2.out]at this;injection this with this;exact this.symm))]);(all_goals rfl)
       (obtain rfl:k=n:=by have:=HK.out;omega)
       have hNM:N=M:=by
         have:=HT.out;rw [List.take_of_length_le (by have:=HN.out;omega),List.take_of_length_le (by have:=HM.out;omega)]at this;exact this
       have HNM:=hd_ hNM;clear hNM;go_wp2;(try go_ret);refine hR.out _ _ ⟨?_,FR.out.drewN _⟩;rw [decide_eq_true (p:=True/\N=M) ⟨trivial,HNM.out⟩];rfl
   (have h2':((n:Int) != m)=true:=by simp;omega);have HNE:=hd_ h2;clear h2;go_enter Tryz.func44,Tryz.ntmps44;go_wp2;(all_goals try go_ret);(all_goals refine hR.out _ _ ⟨?_,FR.out⟩);(all_goals rw [decide_eq_false (fun h=>HNE.out (by rw [<-HN.out,<-HM.out,h.2]))])
 (have h1':(lg != lh)=true:=by simpa using h1);have HNE:=hd_ h1;clear h1;go_enter Tryz.func44,Tryz.ntmps44;go_wp2;(all_goals try go_ret);(all_goals refine hR.out _ _ ⟨?_,FR.out⟩)
 all_goals
   rw [decide_eq_false (fun h=>HNE.out h.1)];rfl
end Go.Proofs.YtjfdaphjijfieaaGreat
