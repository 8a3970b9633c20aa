/-
  Joined texts, part 13: contracts and plain lemmas.
  Conditions: none beyond those of each theorem.
-/
import Derived.Test.YtjfdaphjijfieaaGreatN4
import Derived.Laws.CopyOwn
set_option maxHeartbeats 2000000
set_option linter.unusedVariables false
set_option linter.unusedSimpArgs false
set_option maxRecDepth 100000
universe u
namespace Go.Proofs.YtjfdaphjijfieaaGreat
open Go.RowKit
def JS (n:Nat) (first:List Int):List Int:=(List.range n).map fun i=>if n<=i+6 then -1 else if(first.getD i 0)=0 then 1 else first.getD i 0
def Xg (n:Nat) (first:List Int):List Int:=first++List.replicate (n-first.length) 0
def Jm (n:Nat) (first:List Int) (k:Nat):List Int:=(JS n first).take k++(Xg n first).drop k
theorem Ji (n:Nat) (first:List Int):(JS n first).length=n:=by simp [JS]
theorem Vq {n:Nat} {first:List Int} (h:first.length<=n):(Xg n first).length=n:=by simp [Xg];omega
theorem Q45 {n k:Nat} {first:List Int} (h:first.length<=n) (hk:k<n):(Xg n first)[k]?=some (first.getD k 0):=by
 unfold Xg;rw [List.getD_eq_getElem?_getD];rcases Nat.lt_or_ge k first.length with h1|h1
 . rw [List.getElem?_append_left h1,List.getElem?_eq_getElem h1];rfl
 rw [List.getElem?_append_right h1,List.getElem?_eq_none h1,List.getElem?_replicate,if_pos (by omega)];rfl
theorem Q0n {n k:Nat} {first:List Int} (h:first.length<=n) (hk:k<n):(Jm n first k)[k]?=some (first.getD k 0):=by
 unfold Jm;rw [List.getElem?_append_right (by rw [List.length_take];omega),List.length_take,Ji,Nat.min_eq_left (by omega),List.getElem?_drop,show k+(k-k)=k by omega,Q45 h hk]
theorem Q46 {n k:Nat} {first:List Int} (hk:k<n):(JS n first)[k]?=some (if n<=k+6 then -1 else if(first.getD k 0)=0 then 1 else first.getD k 0):=by
 unfold JS;rw [List.getElem?_map,List.getElem?_range hk];rfl
theorem Q0o {n k:Nat} {first:List Int} {x:Int} (h:first.length<=n) (hk:k<n) (hx:(JS n first)[k]?=some x):(Jm n first k).set k x=Jm n first (k+1):=by
 apply List.ext_getElem?;intro j;unfold Jm;have ht:=Ji n first;have hp:=Vq h;by_cases hj:j=k
 . subst hj
   rw [List.getElem?_set_self (by rw [List.length_append,List.length_take,List.length_drop];omega),List.getElem?_append_left (by rw [List.length_take];omega),List.getElem?_take,if_pos (by omega),hx]
 rw [List.getElem?_set_ne (Ne.symm hj)];rcases Nat.lt_or_ge j k with h1|h1
 . rw [List.getElem?_append_left (by rw [List.length_take];omega),List.getElem?_append_left (by rw [List.length_take];omega),List.getElem?_take,List.getElem?_take,if_pos h1,if_pos (by omega)]
 rw [List.getElem?_append_right (by rw [List.length_take];omega),List.getElem?_append_right (by rw [List.length_take];omega),List.length_take,List.length_take,List.getElem?_drop,List.getElem?_drop]
 congr 1
 omega
theorem Q33 {n k:Nat} {first:List Int} {x:Int} (h:first.length<=n) (hk:k<n) (hx:(JS n first)[k]?=some x) (hy:x=first.getD k 0):Jm n first k=Jm n first (k+1):=by
 rw [<-Q0o h hk hx];have hg:=Q0n h hk;rw [<-hy]at hg;exact(List.set_getElem?_self hg).symm
where
  List.set_getElem?_self {l:List Int} {i:Nat} {x:Int} (h:l[i]?=some x):l.set i x=l:=by
    apply List.ext_getElem?
    intro j
    by_cases hj:j=i
    . subst hj
      rw [List.getElem?_set_self (List.getElem?_eq_some_iff.1 h).1,h]
    . rw [List.getElem?_set_ne (Ne.symm hj)]
theorem Q47 {n:Nat} {first:List Int} (h:first.length<=n):Jm n first n=JS n first:=by
 unfold Jm;rw [List.take_of_length_le (by rw [Ji];omega),List.drop_of_length_le (by rw [Vq h];omega),List.append_nil]
theorem Qz (w:World) (H:Nat) (u v:Value):Upd (fun b=>b=H) w ((w.setCell ⟨H,0,none⟩ u).setCell ⟨H,1,none⟩ v) :=
 ((Upd.refl (fun b=>b=H) w).setCell (p:=⟨H,0,none⟩) (fun _=>rfl) u).setCell (p:=⟨H,1,none⟩) (fun _=>rfl) v
theorem Q34:(Tryz.prog.info? 3).map (·.size)=some 1:=by kernel_rfl
theorem KR (N:List Int):∀u∈Q1 N,u.oneCell'=true:=by
 intro u hu;obtain⟨_,_,rfl⟩:=List.mem_map.1 hu;rfl
theorem Kk (F:Nat->Prop) (g:Nat) (T:TypeId) (A:Option Addr) (n fl fc:Nat) (lg:Int) (first:List Int) (w:World) (hb:Blk w g T (List.replicate n (.int .i64 0)).toArray) (hr:Rd w F A fl (Q1 first))
   (hfn:fl<=n) (h0:0<fl) (h6:6<=n) (hn:n<=1000) :
   Calls Tryz.prog 220 #[.int .i64 lg,.slice (some ⟨g,0,none⟩) n n,.slice A fl fc] w fun e w' =>
     e = .returned (.agg #[.int .i64 lg,.slice (some ⟨g,0,none⟩) n n])/\Blk w' g T (Q1 (JS n first)).toArray/\Upd (fun b=>g<=b) w w':=by
 (have hfl:first.length=fl:=by have:=hr.1;simpa using this);(have hfl2:first.length<=n:=by omega);(have hnI:(n:Int)<=1000:=by omega);(have h6I:6<=(n:Int):=by omega);obtain⟨w0,hw0⟩:=nm_ (w.alloc (.cells #[.int .i64 0,.slice none 0 0] 29));obtain⟨H,hH⟩:=nm_ (w.heap.size);have hgw:=hb.lt;(have fr0:Q0 w w0:=by rw [hw0];exact(Upd.refl _ _).alloc _);(have b0:Blk w0 H 29 #[.int .i64 0,.slice none 0 0]:=by rw [hw0];exact Q2 hH _ _);have hbg:=hb.fresh fr0;have hrr:=hr.fresh fr0;obtain⟨b,o,rfl,_,_,hc⟩:=hrr.2 h0
 have hsrc:∀j v,(Q1 first)[j]?=some v->w0.cell? ((⟨b,o,none⟩:Addr).add j)=some v:=by
   intro j v hv;(have hj:j<fl:=by have:=(List.getElem?_eq_some_iff.1 hv).1;simp at this;omega);rw [Addr.add_lit,hc j hj,hv]
 (have hmn:(Q1 first).length=Nat.min fl n:=by rw [QU,hfl];exact(Nat.min_eq_left hfn).symm)
 have hsp:((List.replicate n (Value.int .i64 0)).toArray.toList.take 0++(Q1 first++(List.replicate n (Value.int .i64 0)).toArray.toList.drop (0+(Q1 first).length))).toArray=(Q1 (Jm n first 0)).toArray:=by
   unfold Jm Xg;simp [Q1,hfl]
 (have hfit:0+(Q1 first).length<=(List.replicate n (Value.int .i64 0)).toArray.size:=by simp;omega);have HSRC:=hd_ hsrc;have HMN:=hd_ hmn;have HSP:=hd_ hsp;have HFIT:=hd_ hfit;have HBG:=hd_ (show w0.heap[g]?=some (.cells (List.replicate n (Value.int .i64 0)).toArray T (0,0))from hbg);have HFL:=hd_ hfl2;have F0:=hd_ fr0;have B0:=hd_ b0;have HW:=hd_ hw0;have HH:=hd_ hH;(have hgH:g<H:=by omega);clear hsrc hmn hsp hbg fr0 b0 hw0 hH hrr hr hb hfl hfl2 hgw hfit hc h0;refine Q6 fun R hR=>?_;go_enter Tryz.func220,Tryz.ntmps220;go_upto_region 1 with fail;simp only [<-HH.out,<-HW.out];go_wp2_with (with_reducible refine wpList_copy_own (o:=⟨some 10,_,_,_,_,_⟩) rfl (.tmp 8) (.tmp 9) 27 27 rfl 3 Tryz.underlying27 Q34 g 0 n n ⟨b,o,none⟩ fl fc rfl rfl (List.replicate n (.int .i64 0)).toArray T HBG.out (Q1 first) HMN.out HSRC.out HFIT.out (KR first) ?_);obtain⟨w1,hw1⟩:=nm_ (w0.setRow g ((List.replicate n (Value.int .i64 0)).toArray.toList.take 0++(Q1 first++(List.replicate n (Value.int .i64 0)).toArray.toList.drop (0+(Q1 first).length))).toArray)
 have hb1:Blk w1 g T (Q1 (Jm n first 0)).toArray:=by
   rw [hw1,<-HSP.out];exact setRow_heap w0 g _ _ T (0,0) HBG.out
 have u1:Upd (fun b=>b=g) w0 w1:=by
   rw [hw1];exact⟨rfl,rfl,rfl,by simp [World.setRow],fun k hk hn=>setRow_other w0 g k _ hn⟩
 simp only [Nat.zero_add]at hw1;have HB1:=hd_ hb1;have U1:=hd_ u1;have HW1:=hd_ hw1;clear hb1 u1 hw1;go_loopg [7,13,16,25] n (fun m _ i _ _ wr=>∃k:Nat,k+m=n/\i = .int .i64 k/\Blk wr g T (Q1 (Jm n first k)).toArray/\Upd (fun b=>b=g) w0 wr)
 case atStart =>
   refine⟨0,by omega,rfl,?_,?_⟩
   . have h:=HB1.out
     rw [HW1.out]at h;simpa using h
   have h:=U1.out;rw [HW1.out]at h;simpa using h
 case round =>
   obtain⟨k,hk,rfl,hb,hu⟩:=hrel;have HK:=hd_ hk;have HB:=hd_ hb;have HU:=hd_ hu;by_cases hlt:k<n
   . have hltI:(k:Int)<n:=by omega
     have hg:=Q0n (first:=first) HFL.out hlt;have ht:=Q46 (first:=first) hlt
     have hc:wr.cell? ⟨g,k,none⟩=some (.int .i64 (first.getD k 0)):=by
       rw [hb.cell];(have:(Q1 (Jm n first k))[k]?=some (.int .i64 (first.getD k 0)):=by unfold Q1;rw [List.getElem?_map,hg];rfl);simpa using this
     have hz:=hb.frozen k;obtain⟨x,hx⟩:=nm_ (first.getD k 0);rw [<-hx]at hc ht
     have hset:∀v,(JS n first)[k]?=some v->Blk (wr.setCell ⟨g,k,none⟩ (.int .i64 v)) g T (Q1 (Jm n first (k+1))).toArray:=by
       intro v hv;have h:=hb.set_ k (.int .i64 v)
       have e:(Q1 (Jm n first k)).toArray.setIfInBounds k (.int .i64 v)=(Q1 (Jm n first (k+1))).toArray:=by
         rw [<-Q0o HFL.out hlt hv];simp [Q1]
       rw [e]at h;exact h
     have hsame:=fun(v:Int) (hv:(JS n first)[k]?=some v) (hy:v=first.getD k 0)=>Q33 HFL.out hlt hv hy;have husc:∀v,Upd (fun b=>b=g) w0 (wr.setCell ⟨g,k,none⟩ v):=fun v=>hu.setCell (p:=⟨g,k,none⟩) (fun _=>rfl) v;have HSET:=hd_ hset;have HSAME:=hd_ hsame;have HUS:=hd_ husc;have HX:=hd_ hx;clear hk hb hu hg hset hsame husc hx;by_cases h6k:n<=k+6
     . rw [if_pos h6k]at ht
       have HT:=hd_ ht;(have h6kI:(n:Int)-6<=k:=by omega);clear ht;go_wp2_with fail;go_roundg (gk-1)
       case measure=>have:=HK.out;omega
       case rel=>exact⟨k+1,by have:=HK.out;omega,by go_num,HSET.out _ HT.out,HUS.out _⟩
     rw [if_neg h6k]at ht;(have h6kI:(k:Int)<(n:Int)-6:=by omega);by_cases hx0:x=0
     . rw [if_pos hx0]at ht
       subst hx0;have HT:=hd_ ht;clear ht;go_wp2_with fail;go_roundg (gk-1)
       case measure=>have:=HK.out;omega
       case rel=>exact⟨k+1,by have:=HK.out;omega,by go_num,HSET.out _ HT.out,HUS.out _⟩
     rw [if_neg hx0]at ht;(have hx0':(x == 0)=false:=by simpa using hx0);have HT:=hd_ ht;clear ht;go_wp2_with fail;go_roundg (gk-1)
     case measure=>have:=HK.out;omega
     case rel=>exact⟨k+1,by have:=HK.out;omega,by go_num,(HSAME.out _ HT.out HX.out) ▸ HB.out,HU.out⟩
   (obtain rfl:k=n:=by omega);rw [Q47 HFL.out]at HB;have bh:=B0.out.upd hu (by omega);have z0:=bh.frozen 0;have z1:=bh.frozen 1;obtain⟨c0,c1⟩:=(bh).cells2;have BH:=hd_ bh;clear hk hb hu bh;go_wp2_with fail;refine bodyPost_ret (results_cell_row rfl _ _ H _ _ _ _ rfl ((BH.out.set_ 0 (.int .i64 lg)).set_ 1 (.slice (some ⟨g,0,none⟩) k k)) Tryz.underlying29 rfl (by kernel_rfl)) rfl ?_;refine hR.out _ _ ⟨by simp,?_,?_⟩
   . exact HB.out.upd (Qz wr H _ _) (by omega)
   exact(F0.out.mono (T:=fun b=>g<=b) (fun _ _ h=>h.elim)).trans ((HU.out.mono (T:=fun b=>g<=b) (fun b _ h=>by omega)).trans' ((Qz wr H _ _).mono (T:=fun b=>g<=b) (fun b _ h=>by omega))) (fun _ _ h=>h)
def VP (w w':World) (e:Ending) (lg:Int) (N:List Int):Prop :=
  ∃g,e = .returned (.agg #[.int .i64 lg,.slice (some ⟨g,0,none⟩) N.length N.length])/\Rd w' (fun b=>b=g) (some ⟨g,0,none⟩) N.length (Q1 N)/\w.heap.size<=g/\Q0 w w'
def llN:List Int:=JS 44 [5,3,3,3,2,2,2,2,2,2,1,1,1,1,1,1,2,2,2,2]
theorem Zr:llN.length=44:=Ji _ _
theorem Q5n (w:World):Calls Tryz.prog 208 #[] w fun e w'=>VP w w' e 6 llN:=by
 obtain⟨H,hH⟩:=nm_ (w.heap.size);have hb:∀o1 o3:Obj,Blk (((w.alloc o1).alloc (.cells (List.replicate 44 (.int .i64 0)).toArray 313)).alloc o3) (H+1) 313 (List.replicate 44 (.int .i64 0)).toArray:=fun o1 o3=>(Q2 (by simp [hH]) _ _).alloc _;have hr:∀o1 o2:Obj,Rd (((w.alloc o1).alloc o2).alloc (.cells (Q1 [5,3,3,3,2,2,2,2,2,2,1,1,1,1,1,1,2,2,2,2]).toArray 3)) (fun b=>b=H+1+1) (some ⟨H+1+1,0,none⟩) 20 (Q1 [5,3,3,3,2,2,2,2,2,2,1,1,1,1,1,1,2,2,2,2]):=fun o1 o2=>(Q2 (by simp [hH]) _ _).rdg rfl;have b0:∀o2 o3:Obj,Blk (((w.alloc (.cells #[.int .i64 0,.slice none 0 0] 29)).alloc o2).alloc o3) H 29 #[.int .i64 0,.slice none 0 0]:=fun o2 o3=>((Q2 hH _ _).alloc _).alloc _;have hk:=fun o1=>Kk (fun b=>b=H+1+1) (H+1) 313 (some ⟨H+1+1,0,none⟩) 44 20 20 6 [5,3,3,3,2,2,2,2,2,2,1,1,1,1,1,1,2,2,2,2] _ (hb o1 _) (hr o1 _) (by omega) (by omega) (by omega) (by omega);have f0:∀o1 o2 o3:Obj,Q0 w (((w.alloc o1).alloc o2).alloc o3):=fun o1 o2 o3=>(((Upd.refl _ w).alloc _).alloc _).alloc _;have HK:=hd_ hk;have B0:=hd_ b0;have F0:=hd_ f0;have HH:=hd_ hH;clear hb hr hk b0 hH f0;refine Q6 fun R hR=>?_;go_enter Tryz.func208,Tryz.ntmps208;go_wp2_with fail;simp only [<-HH.out];refine(HK.out _).mono ?_;rintro e w1 ⟨rfl,b1,u1⟩;have bh:=(B0.out _ _).upd u1 (by omega);have z0:=bh.frozen 0;have z1:=bh.frozen 1;obtain⟨c0,c1⟩:=(bh).cells2;have BH:=hd_ bh;have B1:=hd_ b1;have U1:=hd_ u1;clear bh b1 u1;go_wp2_with fail;refine bodyPost_ret (results_cell_row rfl _ _ H _ _ _ _ rfl ((BH.out.set_ 0 (.int .i64 6)).set_ 1 (.slice (some ⟨H+1,0,none⟩) 44 44)) Tryz.underlying29 rfl (by kernel_rfl)) rfl ?_;refine hR.out _ _ ⟨H+1,by rw [Zr];simp,?_,by have:=HH.out;omega,?_⟩
 . rw [Zr]
   exact(B1.out.upd (Qz w1 H _ _) (by omega)).rdg Zr
 exact((F0.out _ _ _).trans U1.out (fun b hb h=>by have:=HH.out;omega)).trans (Qz w1 H _ _) (fun b hb h=>by have:=HH.out;omega)
def ofN:List Int:=JS 28 [1,1,1,1,1,2,2,2,2]
theorem Zs:ofN.length=28:=Ji _ _
theorem Q5o (w:World):Calls Tryz.prog 209 #[] w fun e w'=>VP w w' e 5 ofN:=by
 obtain⟨H,hH⟩:=nm_ (w.heap.size);have hb:∀o1 o3:Obj,Blk (((w.alloc o1).alloc (.cells (List.replicate 28 (.int .i64 0)).toArray 315)).alloc o3) (H+1) 315 (List.replicate 28 (.int .i64 0)).toArray:=fun o1 o3=>(Q2 (by simp [hH]) _ _).alloc _;have hr:∀o1 o2:Obj,Rd (((w.alloc o1).alloc o2).alloc (.cells (Q1 [1,1,1,1,1,2,2,2,2]).toArray 3)) (fun b=>b=H+1+1) (some ⟨H+1+1,0,none⟩) 9 (Q1 [1,1,1,1,1,2,2,2,2]):=fun o1 o2=>(Q2 (by simp [hH]) _ _).rdg rfl;have b0:∀o2 o3:Obj,Blk (((w.alloc (.cells #[.int .i64 0,.slice none 0 0] 29)).alloc o2).alloc o3) H 29 #[.int .i64 0,.slice none 0 0]:=fun o2 o3=>((Q2 hH _ _).alloc _).alloc _;have hk:=fun o1=>Kk (fun b=>b=H+1+1) (H+1) 315 (some ⟨H+1+1,0,none⟩) 28 9 9 5 [1,1,1,1,1,2,2,2,2] _ (hb o1 _) (hr o1 _) (by omega) (by omega) (by omega) (by omega);have f0:∀o1 o2 o3:Obj,Q0 w (((w.alloc o1).alloc o2).alloc o3):=fun o1 o2 o3=>(((Upd.refl _ w).alloc _).alloc _).alloc _;have HK:=hd_ hk;have B0:=hd_ b0;have F0:=hd_ f0;have HH:=hd_ hH;clear hb hr hk b0 hH f0;refine Q6 fun R hR=>?_;go_enter Tryz.func209,Tryz.ntmps209;go_wp2_with fail;simp only [<-HH.out];refine(HK.out _).mono ?_;rintro e w1 ⟨rfl,b1,u1⟩;have bh:=(B0.out _ _).upd u1 (by omega);have z0:=bh.frozen 0;have z1:=bh.frozen 1;obtain⟨c0,c1⟩:=(bh).cells2;have BH:=hd_ bh;have B1:=hd_ b1;have U1:=hd_ u1;clear bh b1 u1;go_wp2_with fail;refine bodyPost_ret (results_cell_row rfl _ _ H _ _ _ _ rfl ((BH.out.set_ 0 (.int .i64 5)).set_ 1 (.slice (some ⟨H+1,0,none⟩) 28 28)) Tryz.underlying29 rfl (by kernel_rfl)) rfl ?_;refine hR.out _ _ ⟨H+1,by rw [Zs];simp,?_,by have:=HH.out;omega,?_⟩
 . rw [Zs]
   exact(B1.out.upd (Qz w1 H _ _) (by omega)).rdg Zs
 exact((F0.out _ _ _).trans U1.out (fun b hb h=>by have:=HH.out;omega)).trans (Qz w1 H _ _) (fun b hb h=>by have:=HH.out;omega)
def mlN:List Int:=JS 44 [5,5,4,3,3,2,2,2,1,1,1,1,1,1,1,1,2,2]
theorem Zt:mlN.length=44:=Ji _ _
theorem Q5p (w:World):Calls Tryz.prog 210 #[] w fun e w'=>VP w w' e 6 mlN:=by
 obtain⟨H,hH⟩:=nm_ (w.heap.size);have hb:∀o1 o3:Obj,Blk (((w.alloc o1).alloc (.cells (List.replicate 44 (.int .i64 0)).toArray 313)).alloc o3) (H+1) 313 (List.replicate 44 (.int .i64 0)).toArray:=fun o1 o3=>(Q2 (by simp [hH]) _ _).alloc _;have hr:∀o1 o2:Obj,Rd (((w.alloc o1).alloc o2).alloc (.cells (Q1 [5,5,4,3,3,2,2,2,1,1,1,1,1,1,1,1,2,2]).toArray 3)) (fun b=>b=H+1+1) (some ⟨H+1+1,0,none⟩) 18 (Q1 [5,5,4,3,3,2,2,2,1,1,1,1,1,1,1,1,2,2]):=fun o1 o2=>(Q2 (by simp [hH]) _ _).rdg rfl;have b0:∀o2 o3:Obj,Blk (((w.alloc (.cells #[.int .i64 0,.slice none 0 0] 29)).alloc o2).alloc o3) H 29 #[.int .i64 0,.slice none 0 0]:=fun o2 o3=>((Q2 hH _ _).alloc _).alloc _;have hk:=fun o1=>Kk (fun b=>b=H+1+1) (H+1) 313 (some ⟨H+1+1,0,none⟩) 44 18 18 6 [5,5,4,3,3,2,2,2,1,1,1,1,1,1,1,1,2,2] _ (hb o1 _) (hr o1 _) (by omega) (by omega) (by omega) (by omega);have f0:∀o1 o2 o3:Obj,Q0 w (((w.alloc o1).alloc o2).alloc o3):=fun o1 o2 o3=>(((Upd.refl _ w).alloc _).alloc _).alloc _;have HK:=hd_ hk;have B0:=hd_ b0;have F0:=hd_ f0;have HH:=hd_ hH;clear hb hr hk b0 hH f0;refine Q6 fun R hR=>?_;go_enter Tryz.func210,Tryz.ntmps210;go_wp2_with fail;simp only [<-HH.out];refine(HK.out _).mono ?_;rintro e w1 ⟨rfl,b1,u1⟩;have bh:=(B0.out _ _).upd u1 (by omega);have z0:=bh.frozen 0;have z1:=bh.frozen 1;obtain⟨c0,c1⟩:=(bh).cells2;have BH:=hd_ bh;have B1:=hd_ b1;have U1:=hd_ u1;clear bh b1 u1;go_wp2_with fail;refine bodyPost_ret (results_cell_row rfl _ _ H _ _ _ _ rfl ((BH.out.set_ 0 (.int .i64 6)).set_ 1 (.slice (some ⟨H+1,0,none⟩) 44 44)) Tryz.underlying29 rfl (by kernel_rfl)) rfl ?_;refine hR.out _ _ ⟨H+1,by rw [Zt];simp,?_,by have:=HH.out;omega,?_⟩
 . rw [Zt]
   exact(B1.out.upd (Qz w1 H _ _) (by omega)).rdg Zt
 exact((F0.out _ _ _).trans U1.out (fun b hb h=>by have:=HH.out;omega)).trans (Qz w1 H _ _) (fun b hb h=>by have:=HH.out;omega)
end Go.Proofs.YtjfdaphjijfieaaGreat
