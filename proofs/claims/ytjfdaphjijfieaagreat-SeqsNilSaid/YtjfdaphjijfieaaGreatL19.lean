/-
  Joined texts, part 19: contracts and plain lemmas.
  Conditions: none beyond those of each theorem.
-/
import Derived.Test.YtjfdaphjijfieaaGreatShelf
import Derived.Test.YtjfdaphjijfieaaGreatL4
import Derived.Test.YtjfdaphjijfieaaGreatL2
set_option maxHeartbeats 1000000
set_option linter.unusedVariables false
set_option linter.unusedSimpArgs false
set_option maxRecDepth 100000
universe u
namespace Go.Proofs.YtjfdaphjijfieaaGreat
open Go.RowKit
theorem Q4T (p:Nat) (h:p<=9):wrap64 (2^p)=((2^p:Nat):Int):=by
 have hpow:2^p<=512:=Nat.le_trans (Nat.pow_le_pow_right (n:=2) (by omega) h) (by decide);obtain⟨q,hq⟩:=nm_ (2^p);(have hq5:q<=512:=by rw [hq];exact hpow);rw [show(2:Int)^p=(q:Int) by rw [hq];simp,<-hq];unfold wrap64;omega
theorem Q4c (m:Nat) (w:World) (h0:1<=m) (h:m<=100000) :
   Calls Tryz.prog 222 #[.int .i64 m] w fun e w'=>e = .returned (.tuple #[.int .i64 (Y5 m),.int .i64 (YB m)])/\∃k,w'=w.drewN k:=by
 have hb:=Q4U m (by omega) (by omega);have hc:=ZD m (by omega) (by omega);have hlt:=VW m 17 (by omega) (by omega) (by omega);(have hB:Lib.bitLen (m:Int).toNat=Y5 m+1:=by rw [Int.toNat_natCast];unfold Y5;omega)
 have hU:wrap64 (wrap64 ((2:Int)*2^(Y5 m))-m)=(YB m:Int):=by
   have h2:2^Y5 m<=2^16:=Nat.pow_le_pow_right (by omega) (by omega);rw [show(2:Int)*2^(Y5 m)=((2^(Y5 m+1):Nat):Int) by simp [Int.pow_succ,Int.mul_comm]];unfold YB wrap64;rw [Nat.pow_succ]at *;omega
 generalize YB m=u at *;generalize Y5 m=b at *;have HB:=hd_ hB;have HU:=hd_ hU;clear hB hU hc hb;refine Q6 fun R hR=>?_;go_enter Tryz.func222,Tryz.ntmps222;go_wp2_with (go_at_call 133;refine(Tryz.bits_Len (m:Int) w (by omega) (by omega)).mono ?_;rintro e w' ⟨rfl,hw⟩;have hw:=hw.symm;subst hw;rw [HB.out]);go_quiet (fail);go_wp2;(try go_ret2);refine hR.out _ _ ⟨?_,_,rfl⟩;show Ending.returned (.tuple #[.int .i64 b,.int .i64 (wrap64 (wrap64 (2*2^b)-m))])=_;rw [HU.out]
theorem Q4V (S:Nat->Prop) (g:Nat) (n m:Nat) (l:List Bool) (w:World) (hw:Qd w S g l) (h0:1<=m) (h:m<=100000) (hn:n<m) (hl:l.length+50<=2^30) (hS:∀k,w.heap.size<=k->S k) :
   Calls Tryz.prog 215 #[.pointer (some ⟨g,0,none⟩),.int .i64 n,.int .i64 m] w fun e w'=>e = .returned (.tuple #[]) /\
     Upd S w w'/\Qd w' S g (l++Yk n m):=by
 have hc:=ZD m (by omega) (by omega);have hlt:=VW m 17 (by omega) (by omega) (by omega);have hdef:Yk n m=if n<YB m then Qf (Y5 m) n else Qf (Y5 m) ((n+YB m) / 2)++Qf 1 (n+YB m):=rfl;have hu:YB m=2^(Y5 m+1)-m:=rfl;have hcut:=Q4c m w h0 h;have H:=hd_ hdef;have HC:=hd_ hcut;have HU:=hd_ hu;clear hdef hcut hu;obtain⟨nb,hnb⟩:=nm_ (Yk n m);rw [<-hnb]at H ⊢;clear hnb;generalize YB m=u at *;generalize Y5 m=b at *;(have hu2:u<=2^b:=by have:=HU.out;rw [Nat.pow_succ]at *;omega);(have hbn:n<u->n<2^b:=by omega);(have hbn2:¬n<u->(n+u) / 2<2^b:=by have:=HU.out;rw [Nat.pow_succ]at *;omega);have h17:2^b<=2^16:=Nat.pow_le_pow_right (by omega) (by omega);have HS:=hd_ hS;refine Q6 fun R hR=>?_;clear hc hS;by_cases hcs:n<u
 . have hx:=hbn hcs
   have hH:=H.out;rw [if_pos hcs]at hH;subst hH;clear H hbn hbn2 hu2 h17;have HX:=hd_ hx;clear hx;go_enter Tryz.func215,Tryz.ntmps215;go_wp2_with (go_at_call 222;refine HC.out.mono ?_;rintro e w' ⟨rfl,kk,rfl⟩);refine(KA S g n b l _ (hw.drewN kk) (by omega) HX.out (by omega) HS.out).mono ?_;rintro e w1 ⟨rfl,u1,hw1⟩;go_wp2;(try go_end0);exact hR.out _ _ ⟨rfl,((Upd.refl S w).drewN kk).trans' u1,hw1⟩
 have hx:=hbn2 hcs;have hH:=H.out;rw [if_neg hcs]at hH;subst hH;(have hnu:n+u<=300000:=by omega)
 have e1:bits .and .u64 ((n:Int)+u) 1=(((n+u)%2:Nat):Int):=by
   rw [show(n:Int)+u=((n+u:Nat):Int) by omega,show(1:Int)=((1:Nat):Int)from rfl,u64_and_nat _ _ (by omega) (by omega),nat_mask1]
 (have e2:((n:Int)+u) / 2=(((n+u) / 2:Nat):Int):=by omega);have HX:=hd_ hx;have E1:=hd_ e1;have E2:=hd_ e2;clear hx H hbn hbn2 hu2 h17 e1 e2;have hw0:=fun k=>hw.drewN k;have HW:=hd_ hw0;clear hw0 hw;go_enter Tryz.func215,Tryz.ntmps215;go_wp2_with (go_at_call 222;refine HC.out.mono ?_;rintro e w' ⟨rfl,kk,rfl⟩);(try rw [E2.out]);refine(KA S g ((n+u) / 2) b l _ (HW.out kk) (by omega) HX.out (by omega) HS.out).mono ?_;rintro e w1 ⟨rfl,u1,hw1⟩;go_wp2_with fail;(try rw [E1.out]);refine(KA S g ((n+u)%2) 1 _ _ hw1 (by omega) (by omega) (by simp;omega) (fun k hk=>HS.out k (Nat.le_trans (by simpa using u1.size) hk))).mono ?_;rintro e w2 ⟨rfl,u2,hw2⟩;go_wp2;(try go_end0);refine hR.out _ _ ⟨rfl,(((Upd.refl S w).drewN kk).trans' u1).trans' u2,?_⟩;rw [<-List.append_assoc,<-KM 1 (n+u)];simpa using hw2
theorem Q7m (F:Nat->Prop) (A:Option Addr) (n c:Nat) (lg:Int) (N:List Int) (w:World) (hr:Rd w F A n (Q2 N)) (hfit:Fit N) (hn:(n:Int)<=1099511627776)
   (hv:¬(Qc lg N 256 9/\lg≠0)) :
   Calls Tryz.prog 185 #[.agg #[.int .i64 lg,.slice A n c]] w fun e w'=>e = .returned (.pointer none)/\Q0 w w':=by
 have hck:=fun W hW=>Zr F A n c lg 256 9 N W hW hfit hn;have HK:=hd_ hck;clear hck;have fr:∀o,Q0 w (w.alloc o):=fun o=>(Upd.refl _ _).alloc o;have FR:=hd_ fr;have hr1:∀o,Rd (w.alloc o) F A n (Q2 N):=fun o=>hr.alloc o;have HR:=hd_ hr1;clear hr hr1 fr;have hcs:=(Blk.new w 29 #[.int .i64 lg,.slice A n c]).cells;have HC:=hd_ hcs;clear hcs;refine Q6 fun R hR=>?_;by_cases h0:Qc lg N 256 9
 . obtain rfl:lg=0:=by
     by_cases h:lg=0
     . exact h
     exact absurd ⟨h0,h⟩ hv
   rw [if_pos h0]at HK;clear hv h0;go_enter Tryz.func185,Tryz.ntmps185;go_wp2_with (first|go_step3|(refine Yv rfl 29 (.tmp 1) rfl w.heap.size 0 rfl [_,_] _ HC.out Tryz.underlying29 rfl (by kernel_rfl) ?_));refine(HK.out _ (HR.out _)).mono ?_;rintro e w1 ⟨rfl,f1⟩;have hc0:=f1.cells w.heap.size 0 (by simp);simp at hc0;go_wp2;(try simp only [Exit.noGoto]);(try go_ret);exact hR.out _ _ ⟨rfl,(FR.out _).trans' f1⟩
 rw [if_neg h0]at HK;clear hv h0;go_enter Tryz.func185,Tryz.ntmps185;go_wp2_with (first|go_step3|(refine Yv rfl 29 (.tmp 1) rfl w.heap.size 0 rfl [_,_] _ HC.out Tryz.underlying29 rfl (by kernel_rfl) ?_));refine(HK.out _ (HR.out _)).mono ?_;rintro e w1 ⟨rfl,f1⟩;go_wp2;(try simp only [Exit.noGoto]);(try go_ret);exact hR.out _ _ ⟨rfl,(FR.out _).trans' f1⟩
theorem Q7n (F:Nat->Prop) (A:Option Addr) (n c:Nat) (p:Nat) (N:List Int) (w:World) (hr:Rd w F A n (Q2 N)) (hfit:Fit N) (hn:(n:Int)<=1099511627776)
   (hv:Qc (p:Int) N 256 9) (hp:p≠0) :
   Calls Tryz.prog 185 #[.agg #[.int .i64 p,.slice A n c]] w fun e w'=>∃g,e = .returned (.pointer (some ⟨g,0,none⟩))/\Q0 w w' /\
     Qd w' (fun k=>w.heap.size<k) g (QX p N):=by
 have hck:=fun W hW=>Zr F A n c p 256 9 N W hW hfit hn;simp only [if_pos hv]at hck;have HK:=hd_ hck;clear hck;have fr:∀o,Q0 w (w.alloc o):=fun o=>(Upd.refl _ _).alloc o;have FR:=hd_ fr;have hr1:∀o,Rd (w.alloc o) F A n (Q2 N):=fun o=>hr.alloc o;have HR:=hd_ hr1;clear hr1 fr;have HV:=hd_ hv;(have hp9:p<=9:=by have:=hv.2.2.1;omega);(have hpz:((p:Int) == 0)=false:=by simp [hp]);have hv2:=hv.2.2.2.2.1;clear hv;have hcs:=(Blk.new w 29 #[.int .i64 (p:Int),.slice A n c]).cells;have HC:=hd_ hcs;clear hcs;refine Q6 fun R hR=>?_;go_enter Tryz.func185,Tryz.ntmps185;go_wp2_with (first|go_step3|(refine Yv rfl 29 (.tmp 1) rfl w.heap.size 0 rfl [_,_] _ HC.out Tryz.underlying29 rfl (by kernel_rfl) ?_));refine(HK.out _ (HR.out _)).mono ?_;rintro e w1 ⟨rfl,f1⟩;have hc0:=f1.cells w.heap.size 0 (by simp);simp at hc0;have hc1:=f1.cells w.heap.size 1 (by simp);simp at hc1;(have hz:w.heap.size<w1.heap.size:=by have:=f1.size;simp at this;omega);go_wp2_with fail
 have hw0:Qd (w1.alloc (.cells #[.int .u64 0,.int .i64 0,.slice none 0 0] 165)) (fun k=>w.heap.size<k) w1.heap.size [] :=
   ⟨0,0,_,[],Blk.new _ _ _,Own.nil _ _,by omega,by simp,by simp,rfl,hz,by simp [Value.ownBlock]⟩
 (have hp4:(p-1)<2^4:=by omega);rw [show(p:Int)-1=((p-1:Nat):Int) by omega];refine(KA (fun k=>w.heap.size<k) w1.heap.size (p-1) 4 [] _ hw0 (by omega) hp4 (by simp) (fun k hk=>by simp at hk;omega)).mono ?_;rintro e w2 ⟨rfl,u2,hw2⟩
 have hc0:w2.cell? ⟨w.heap.size,0,none⟩=some (.int .i64 p):=by
   rw [u2.cell (p:=⟨w.heap.size,0,none⟩) (by simp;omega) (by simp),World.cell?_alloc_lt _ _ _ (by simpa using hz)];exact hc0
 have hc1:w2.cell? ⟨w.heap.size,1,none⟩=some (.slice A n c):=by
   rw [u2.cell (p:=⟨w.heap.size,1,none⟩) (by simp;omega) (by simp),World.cell?_alloc_lt _ _ _ (by simpa using hz)];exact hc1
 have hr2:Rd w2 (fun b=>b<w.heap.size) A n (Q2 N) :=
   (((hr.old.alloc _).fresh f1).alloc _).upd u2 (fun b _ hb hb'=>by omega)
 have f2:Q0 w w2:=(((FR.out _).trans' f1).alloc _).trans u2 (fun b hb hb'=>by omega);(have hz2:w.heap.size<w2.heap.size:=by have:=u2.size;simp at this;omega);clear u2 f1 hw0 hz hr;generalize w1.heap.size=g at *;(have hw2':Qd w2 (fun k=>w.heap.size<k) g (Qf 4 (p-1)):=by simpa using hw2);clear hw2;have HR2:=hd_ hr2;have HF2:=hd_ f2;have HW2:=hd_ hw2';clear hr2 f2 hw2';go_wp2_with go_step3;have hpow:2^p<=512:=Nat.le_trans (Nat.pow_le_pow_right (n:=2) (by omega) hp9) (by decide)
 have hl4:Value.int .i64 (wrap64 (2^p)) = .int .i64 ((2^p:Nat):Int):=by
   obtain⟨q,hq⟩:=nm_ (2^p);(have hq5:q<=512:=by rw [hq];exact hpow);rw [show(2:Int)^p=(q:Int) by rw [hq];simp,<-hq,show wrap64 (q:Int)=(q:Int) by unfold wrap64;omega]
 (have hN:N.length=n:=by have:=HR2.out.1;simpa using this);rw [hN]at hv2;(have hn256:n<=256:=by have:=hv2;omega);have HN:=hd_ hN;have HL4:=hd_ hl4;clear hN hl4
 go_loopg [4,5,31] n (fun m vl vr vi wr=>∃k L s:Nat,k+m=n/\vi = .int .i64 k/\vl = .int .i64 L/\vr = .int .i64 s/\(L:Int)=Yf (N.drop k)/\L<=512/\s<=Qw (N.drop k) /\
   Upd (fun k=>w.heap.size<k) w2 wr/\∃l0,Qd wr (fun k=>w.heap.size<k) g l0/\l0++QQ L s (N.drop k)=QX p N)
 case atStart =>
   refine⟨0,2^p,0,by omega,rfl,HL4.out,rfl,?_,hpow,Nat.zero_le _,Upd.refl _ _,_,HW2.out,by simp [QX]⟩;have:=HV.out.2.2.2.2.2.2.2;simpa using this.symm
 case round =>
   obtain⟨k,L,s,hk,rfl,rfl,rfl,hL,hL5,hs,hu,l0,hw,htot⟩:=hrel
   have hlen:l0.length<=100000:=by
     have h1:=congrArg List.length htot;have h2:=Zk p N hp9;have h3:=HN.out;rw [List.length_append]at h1;omega
   have hk1:=Nat.le_of_eq hk;have hk2:=Nat.le_of_eq hk.symm;have HT:=hd_ htot;have HLs:=hd_ hL;have HU:=hd_ hu;have HW:=hd_ hw;have HS:=hd_ hs;clear hk htot hL hu hw hs;by_cases hlt:k<n
   . have hkn:k<N.length:=by have:=HN.out;omega
     have hd:=List.drop_eq_getElem_cons hkn;have hfk:=hfit N[k] (List.getElem_mem hkn);have hge:=HV.out.2.2.2.2.2.2.1 N[k] (List.getElem_mem hkn);obtain⟨b,o,_,rfl,hb,hc⟩:=(HR2.out.upd HU.out (fun b _ hb hb'=>by omega)).int (k:=k) hlt;obtain⟨z,hz⟩:=nm_ (N[k]);rw [<-hz]at hd hfk hge hc;have HZK:=hd_ hz;clear hz;have h1:=HLs.out;have h2:=HT.out;have h3:=HS.out;rw [hd]at h1 h2 h3;rw [Ym]at h1;have hn0:=YT (N.drop (k+1));(have hz1:z<=L:=by(have:z<=QO z:=by unfold QO;split<;>omega);omega);(have hza:(z.natAbs:Int)=QO z:=by unfold QO;split<;>omega);(have hzn:z.natAbs<=L:=by omega);have H1:=hd_ h1;have H2:=hd_ h2;have H3:=hd_ h3;have HZ:=hd_ hza;(have hsb:(s:Int)<=1099511627776:=by have:=Q1m (z::N.drop (k+1));simp at this;have:=HN.out;omega);clear h1 h2 h3 hd hza hn0 HLs HT HS;by_cases hs0:0<s
     . have hz0:z=0:=by
         by_cases h:z=0
         . exact h
         have:=H3.out;rw [YV _ _ h]at this;omega
       subst hz0;go_wp2;go_roundg (gk-1)
       case measure=>omega
       case rel =>
         have h3:=H3.out;rw [YG]at h3;have h2:=H2.out;rw [show s=(s-1)+1 by omega]at h2;exact⟨k+1,L,s-1,by omega,by go_num,rfl,by congr 1;omega,by have:=H1.out;simpa [QO]using this,hL5,by omega,HU.out,l0,HW.out,h2⟩
     (obtain rfl:s=0:=by omega);go_wp2_with go_step3;rw [show(z+1:Int)=((z+1).toNat:Int) by omega,show((L:Int)+2)=((L+2:Nat):Int) by omega];refine(Q4V (fun k=>w.heap.size<k) g (z+1).toNat (L+2) l0 wr HW.out (by omega) (by omega) (by omega) (by omega) (fun k hk=>by have:=HU.out.size;omega)).mono ?_;rintro e w3 ⟨rfl,u3,hw3⟩
     have hc1':w3.cell? ⟨w.heap.size,1,none⟩=some (.slice (some ⟨b,o,none⟩) n c):=by
       rw [(HU.out.trans' u3).cell (p:=⟨w.heap.size,1,none⟩) (by simpa using hz2) (by simp)];exact hc1
     have hr3:Rd w3 (fun b=>b<w.heap.size) (some ⟨b,o,none⟩) n (Q2 N):=HR2.out.upd (HU.out.trans' u3) (fun b _ hb hb'=>by omega);have HR3:=hd_ hr3;have HU3:=hd_ (HU.out.trans' u3);have HW3:=hd_ hw3
     have hlen3:(l0++Yk (z+1).toNat (L+2)).length<=100030:=by
       have h1:=VX (z+1).toNat (L+2);have h2:=VW (L+2) 10 (by omega) (by omega) (by omega);simp;omega
     clear hr3 u3 hw3 HW HU hc;by_cases hz0:z=0
     . subst hz0
       have hzl:=Q7o N k n HN.out hlt (by rw [List.getElem?_eq_getElem hkn];exact congrArg some HZK.out.symm) (by have:=HV.out.2.2.2.2.2.1;rw [HN.out]at this;exact this);obtain⟨zs,hzs⟩:=nm_ (Qw (N.drop (k+1)));rw [<-hzs]at hzl;have HZS:=hd_ hzs;clear hzs;(have hzl':(k:Int)+1+zs<n:=by omega);go_wp2_with go_step3;obtain⟨k0,rfl⟩:∃k0,k0=gk:=⟨gk,rfl⟩;obtain⟨w0,rfl⟩:∃w0,w0=wr:=⟨wr,rfl⟩;go_loopg [5] zs (fun m vr wr'=>wr'=w3/\∃s:Nat,s+m<=zs/\zs<=s+m/\vr = .int .i64 s)
       case atStart=>exact⟨rfl,0,by omega,by omega,rfl⟩
       case round =>
         obtain⟨hwr,s,hs1,hs2,rfl⟩:=hrel;have hwr:=hwr.symm;subst hwr;obtain⟨b',o',_,e,hb',hc⟩:=HR3.out.int (k:=k+1+s) (by omega);injection e with e;injection e with e1 e2;subst e1 e2;by_cases hsz:s<zs
         . have hv:N[k+1+s]=0:=by
             have:=VL (N.drop (k+1)) s (by rw [<-HZS.out];exact hsz);rw [List.getElem?_drop,List.getElem?_eq_getElem (by assumption)]at this;exact Option.some.inj this
           rw [hv]at hc;clear hv;go_wp2_with go_step3;go_roundg (gk-1)
           case measure=>omega
           case rel=>exact⟨rfl,s+1,by omega,by omega,by go_num⟩
         (obtain rfl:s=zs:=by omega)
         have hv:(N[k+1+s] == 0)=false:=by
           have h1:=Vj (N.drop (k+1));rw [<-HZS.out,List.getElem?_drop,List.getElem?_eq_getElem (by assumption)]at h1;simpa using h1
         obtain⟨y,hy⟩:=nm_ (N[k+1+s]);rw [<-hy]at hc hv;clear hy hs1 hs2;have hwz:Qd w3 (fun k=>w.heap.size<k) g (l0++Yk 1 (L+2)):=HW3.out;have hlz:(l0++Yk 1 (L+2)).length<=100030:=hlen3;obtain⟨lz,hlz0⟩:=nm_ (l0++Yk 1 (L+2));rw [<-hlz0]at hwz hlz;have HLZ:=hd_ hlz0;have HWZ:=hd_ hwz;clear hlz0 hwz hlen3 HW3;go_wp2_with go_step3
         go_loopg [8] (s+3) (fun m vk wq=>∃kk:Int,vk = .int .i64 kk/\-3<=kk/\kk+3<=m/\m<=kk+3/\Upd (fun k=>w.heap.size<k) w2 wq /\
           ((0<=kk/\∃j:Nat,kk+3*j<=s/\s<=kk+3*j/\Qd wq (fun k=>w.heap.size<k) g (lz++JG j)) \/
            (kk<0/\Qd wq (fun k=>w.heap.size<k) g (lz++Yl s))))
         case atStart=>exact⟨s,rfl,by omega,by omega,by omega,HU3.out,.inl ⟨by omega,0,by omega,by omega,by simpa [JG]using HWZ.out⟩⟩
         case round =>
           obtain⟨kk,rfl,hkk1,hkk2,hkk3,hu,hor⟩:=hrel;have HU4:=hd_ hu;clear hu;by_cases hk0:0<=kk
           . obtain⟨j,hj1,hj2,hwq⟩:∃j:Nat,kk+3*j<=s/\s<=kk+3*j/\Qd wr (fun k=>w.heap.size<k) g (lz++JG j):=by
               rcases hor with ⟨_,h⟩|⟨h,_⟩
               . exact h
               omega
             (have hwl:(lz++JG j).length<=2^30:=by rw [List.length_append,Q1I];omega);have HWL:=hd_ hwl;have HWQ:=hd_ hwq;clear hor hwq hwl;by_cases hk3:3<=kk
             . go_wp2_with go_step3
               rw [show min kk 3=((3:Nat):Int) by omega];refine(KA (fun k=>w.heap.size<k) g 3 2 _ wr HWQ.out (by omega) (by omega) HWL.out (fun k hk=>by have:=HU4.out.size;omega)).mono ?_;rintro e w4 ⟨rfl,u4,hw4⟩;rw [List.append_assoc,<-Q33]at hw4;have HU5:=hd_ (HU4.out.trans' u4);have HW4:=hd_ hw4;clear u4 hw4;go_wp2_with go_step3;go_roundg (gk-3)
               case measure=>omega
               case rel=>exact⟨kk-3,by go_num,by omega,by omega,by omega,HU5.out,.inl ⟨by omega,j+1,by omega,by omega,HW4.out⟩⟩
             go_wp2_with go_step3;rw [show min kk 3=((s-3*j:Nat):Int) by omega];refine(KA (fun k=>w.heap.size<k) g (s-3*j) 2 _ wr HWQ.out (by omega) (by omega) HWL.out (fun k hk=>by have:=HU4.out.size;omega)).mono ?_;rintro e w4 ⟨rfl,u4,hw4⟩;rw [List.append_assoc,<-Q0v s j (by omega) (by omega)]at hw4;have HU5:=hd_ (HU4.out.trans' u4);have HW4:=hd_ hw4;clear u4 hw4;go_wp2_with go_step3;go_roundg (gk-3)
             case measure=>omega
             case rel=>exact⟨kk-3,by go_num,by omega,by omega,by omega,HU5.out,.inr ⟨by omega,HW4.out⟩⟩
           have hwq:Qd wr (fun k=>w.heap.size<k) g (lz++Yl s):=by
             rcases hor with ⟨h,_⟩|⟨_,h⟩
             . omega
             exact h
           have HWQ:=hd_ hwq;clear hor hwq;go_wp2_with go_step3;go_roundg (k0-1)
           case measure=>omega
           case rel =>
             refine⟨k+1,L,s,by omega,by go_num,rfl,rfl,?_,hL5,?_,HU4.out,_,HWQ.out,?_⟩
             . have h1:=H1.out;simpa [QO]using h1
             . rw [HZS.out];exact Nat.le_refl _
             have h2:=H2.out;rw [KS,<-HZS.out,<-List.append_assoc,<-List.append_assoc,<-HLZ.out]at h2;exact h2
     (have hz0':(z != 0)=true:=by simpa using hz0);by_cases hneg:z<0
     . obtain rfl:z=-1:=by omega
       go_wp2_with go_step3;go_roundg (gk-1)
       case measure=>omega
       case rel =>
         refine⟨k+1,L-(-1:Int).natAbs,0,by omega,by go_num,by congr 1;omega,rfl,?_,by omega,Nat.zero_le _,HU3.out,_,HW3.out,?_⟩
         . have h1:=H1.out;have h2:=HZ.out;omega
         have h2:=H2.out;rw [KF _ _ _ hz0,<-List.append_assoc]at h2;exact h2
     (have hmx:max z (-z)=z:=by omega);go_wp2_with go_step3;go_roundg (gk-1)
     case measure=>omega
     case rel =>
       refine⟨k+1,L-(z:Int).natAbs,0,by omega,by go_num,by congr 1;omega,rfl,?_,by omega,Nat.zero_le _,HU3.out,_,HW3.out,?_⟩
       . have h1:=H1.out;have h2:=HZ.out;omega
       have h2:=H2.out;rw [KF _ _ _ hz0,<-List.append_assoc]at h2;exact h2
   (obtain rfl:k=n:=by omega);go_wp2_with go_step3;(try go_ret);refine hR.out _ _ ⟨g,rfl,HF2.out.trans HU.out (fun b hb hb'=>by omega),?_⟩;have h2:=HT.out;rw [List.drop_eq_nil_of_le (by have:=HN.out;omega)]at h2;(have e:QQ L s []=[]:=by cases s<;>rfl);rw [e,List.append_nil]at h2;rw [<-h2];exact HW.out
def Q9 (bs:List Nat):List Value:=bs.map fun b=>.int .u8 (b:Nat)
@[simp] theorem JU (bs:List Nat):(Q9 bs).length=bs.length:=by simp [Q9]
theorem Kd (bs:List Nat):∀u∈Q9 bs,u.oneCell'=true:=by
 intro u hu;obtain⟨_,_,rfl⟩:=List.mem_map.1 hu;rfl
def QB (w w':World) (v:Value) (bs:List Nat):Prop:=Own w' 5 v (Q9 bs)/\Q0 w w'/\∀k,v.ownBlock=some k->w.heap.size<=k
theorem Q4W (F:Nat->Prop) (A:Option Addr) (n c:Nat) (lg:Int) (N:List Int) (w:World) (hr:Rd w F A n (Q2 N)) (hfit:Fit N) (hn:(n:Int)<=1099511627776)
   (hv:¬(Qc lg N 256 9/\lg≠0)) :
   Calls Tryz.prog 148 #[.agg #[.int .i64 lg,.slice A n c]] w fun e w'=>e = .returned (.tuple #[.slice none 0 0,.int .i64 13])/\Q0 w w':=by
 have fr:∀o,Q0 w (w.alloc o):=fun o=>(Upd.refl _ _).alloc o;have FR:=hd_ fr;have hk:=fun o=>Q7m F A n c lg N (w.alloc o) (hr.alloc o) hfit hn hv;have HK:=hd_ hk;clear hr hk fr;refine Q6 fun R hR=>?_;go_enter Tryz.func148,Tryz.ntmps148;go_wp2_with fail;refine(HK.out _).mono ?_;rintro e w1 ⟨rfl,f0⟩;have f1:Q0 w w1:=((Upd.refl _ _).alloc _).trans' f0;clear f0;go_wp2;(try go_ret2);exact hR.out _ _ ⟨rfl,f1⟩
theorem Q64 (F:Nat->Prop) (A:Option Addr) (n c:Nat) (p:Nat) (N:List Int) (w:World) (hr:Rd w F A n (Q2 N)) (hfit:Fit N) (hn:(n:Int)<=1099511627776)
   (hv:Qc (p:Int) N 256 9) (hp:p≠0) :
   Calls Tryz.prog 148 #[.agg #[.int .i64 p,.slice A n c]] w fun e w'=>∃v,e = .returned (.tuple #[v,.int .i64 0])/\QB w w' v (QN (QX p N)):=by
 have hk:=fun o=>Q7n F A n c p N (w.alloc o) (hr.alloc o) hfit hn hv hp;have hl:=Zk p N (by have:=hv.2.2.1;omega);have h256:=hv.2.2.2.2.1;(have hl2:(QX p N).length<=100000:=by omega);have HL:=hd_ hl2;have HK:=hd_ hk;clear hr hk hv hl hl2;refine Q6 fun R hR=>?_;go_enter Tryz.func148,Tryz.ntmps148;go_wp2_with fail;refine(HK.out _).mono ?_;rintro e w1 ⟨g,rfl,f0,hw⟩;have f1:Q0 w w1:=((Upd.refl _ _).alloc _).trans' f0;clear f0;go_wp2_with fail;refine(Q27 _ g _ w1 hw (by have:=HL.out;omega)).mono ?_;rintro e w2 ⟨v,rfl,ho,f2,hb⟩;go_wp2;(try go_ret2);exact hR.out _ _ ⟨v,rfl,ho,f1.trans' f2,fun k hk=>Nat.le_trans f1.size (hb k hk)⟩
end Go.Proofs.YtjfdaphjijfieaaGreat
