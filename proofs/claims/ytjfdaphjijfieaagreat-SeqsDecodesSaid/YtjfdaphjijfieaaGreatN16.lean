/-
  Joined texts, part 16: contracts and plain lemmas.
  Conditions: none beyond those of each theorem.
-/
import Derived.Test.YtjfdaphjijfieaaGreatShelf
import Derived.Test.YtjfdaphjijfieaaGreatN12
set_option maxHeartbeats 8000000
set_option linter.unusedVariables false
set_option linter.unusedSimpArgs false
set_option maxRecDepth 100000
universe u
namespace Go.Proofs.YtjfdaphjijfieaaGreat
open Go.RowKit
theorem Q22 (p:Nat) (h:p<=9):wrap64 (2^p)=((2^p:Nat):Int):=by
 have hpow:2^p<=512:=Nat.le_trans (Nat.pow_le_pow_right (n:=2) (by omega) h) (by decide);obtain⟨q,hq⟩:=nm_ (2^p);(have hq5:q<=512:=by rw [hq];exact hpow);rw [show(2:Int)^p=(q:Int) by rw [hq];simp,<-hq];unfold wrap64;omega
theorem Q5r (m:Nat) (w:World) (h0:1<=m) (h:m<=100000) :
   Calls Tryz.prog 222 #[.int .i64 m] w fun e w'=>e = .returned (.tuple #[.int .i64 (Qx m),.int .i64 (YT m)])/\∃k,w'=w.drewN k:=by
 have hb:=Q23 m (by omega) (by omega);have hc:=Ju m (by omega) (by omega);have hlt:=Xh m 17 (by omega) (by omega) (by omega);(have hB:Lib.bitLen (m:Int).toNat=Qx m+1:=by rw [Int.toNat_natCast];unfold Qx;omega)
 have hU:wrap64 (wrap64 ((2:Int)*2^(Qx m))-m)=(YT m:Int):=by
   have h2:2^Qx m<=2^16:=Nat.pow_le_pow_right (by omega) (by omega);rw [show(2:Int)*2^(Qx m)=((2^(Qx m+1):Nat):Int) by simp [Int.pow_succ,Int.mul_comm]];unfold YT wrap64;rw [Nat.pow_succ]at *;omega
 generalize YT m=u at *;generalize Qx m=b at *;have HB:=hd_ hB;have HU:=hd_ hU;clear hB hU hc hb;refine Q6 fun R hR=>?_;go_enter Tryz.func222,Tryz.ntmps222;go_wp2_with (go_at_call 133;refine(Tryz.bits_Len (m:Int) w (by omega) (by omega)).mono ?_;rintro e w' ⟨rfl,hw⟩;have hw:=hw.symm;subst hw;rw [HB.out]);go_quiet (fail);go_wp2;(try go_ret2);refine hR.out _ _ ⟨?_,_,rfl⟩;show Ending.returned (.tuple #[.int .i64 b,.int .i64 (wrap64 (wrap64 (2*2^b)-m))])=_;rw [HU.out]
def Qi (bs:List Nat):List Value:=bs.map fun b=>.int .u8 (b:Nat)
@[simp] theorem Q69 (bs:List Nat):(Qi bs).length=bs.length:=by simp [Qi]
def Q6J (w w':World) (v:Value) (bs:List Nat):Prop:=Own w' 5 v (Qi bs)/\Q0 w w'/\∀k,v.ownBlock=some k->w.heap.size<=k
def Y2 (L:List Bool):List Value:=L.map Value.bool
@[simp] theorem Q0q (L:List Bool):(Y2 L).length=L.length:=by simp [Y2]
theorem Q37 (L:List Bool):∀u∈Y2 L,u.oneCell'=true:=by
 intro u hu;obtain⟨_,_,rfl⟩:=List.mem_map.1 hu;rfl
theorem KT (A B:List Bool):Y2 (A++B)=Y2 A++Y2 B:=by simp [Y2]
theorem Rd.bool {w:World} {F:Nat->Prop} {A:Option Addr} {n:Nat} {L:List Bool} (h:Rd w F A n (Y2 L)) {k:Nat} (hk:k<n) :
   ∃b o,∃hk':k<L.length,A=some ⟨b,o,none⟩/\b<w.heap.size/\w.cell? ⟨b,o+k,none⟩=some (.bool L[k]):=by
 (have hl:L.length=n:=by have:=h.1;simpa using this);obtain⟨b,o,e,_,hb,hc⟩:=h.at_ hk;exact⟨b,o,by omega,e,hb,by rw [hc];simp [Y2,List.getElem?_eq_getElem (show k<L.length by omega)]⟩
def Vc (w w':World) (v:Value) (L:List Bool):Prop:=Own w' 4 v (Y2 L)/\Q0 w w'/\∀k,v.ownBlock=some k->w.heap.size<=k
theorem Q38 (v n:Nat) (w:World) (hn:n<=64) (hv:v<2^64) :
   Calls Tryz.prog 160 #[.int .u64 v,.int .i64 n] w fun e w'=>∃s,e = .returned s/\Vc w w' s (QD n v):=by
 (have hnI:(n:Int)<=64:=by omega);have HV:=hd_ hv;clear hv hn;refine Q6 fun R hR=>?_;go_enter Tryz.func160,Tryz.ntmps160;go_wp2_with fail;go_loopg [0,5,6] n (fun m x s i wr=>∃(k:Nat),k+m=n/\x = .int .u64 (v / 2^k:Nat)/\i = .int .i64 k/\Vc w wr s (QD k v))
 case atStart=>exact⟨0,by omega,by simp,rfl,by simpa [QD,Y2]using Own.nil w 4,Upd.refl _ _,by simp [Value.ownBlock]⟩
 case round =>
   obtain⟨k,hk,rfl,rfl,ho,hf,hob⟩:=hrel;have hsn:=Q1Z k v;(have hdv:v / 2^(k+1)=v / 2^k / 2:=by rw [Nat.pow_succ,Nat.div_div_eq_div_mul]);have hxl:v / 2^k<2^64:=Nat.lt_of_le_of_lt (Nat.div_le_self _ _) HV.out;generalize v / 2^k=x at *;(have hx1:(x:Int)<18446744073709551616:=by(have:(2:Nat)^64=18446744073709551616:=by decide);omega);have HS:=hd_ hsn;have HD:=hd_ hdv;have HK:=hd_ hk;have HO:=hd_ ho;have HF:=hd_ hf;have HOB:=hd_ hob;(have hlen:(Y2 (QD k v)).length+1<=2^40:=by simp;omega);have HL:=hd_ hlen;clear hsn hdv hk ho hf hob hxl hlen;by_cases hlt:k<n
   . go_wp2_with (at_builtin;go_must (refine Yl _ rfl (.tmp 12) (.tmp 16) _ rfl 4 _ 1 Tryz.underlying141 Q0r rfl _ _ rfl (HO.out.alloc _) _ 1 _ _ rfl (Rd.one wr 4 _) (by simp [Value.oneCell']) (by omega) HL.out ?_))
     intro v' w1 o1 g1 a1;have f1:Q0 w w1:=(HF.out.alloc _).grown g1 (fun kk hkk hlt=>by have:=HOB.out kk hkk;omega);have b1:∀kk,v'.ownBlock=some kk->w.heap.size<=kk:=Zb (S:=fun kk=>w.heap.size<=kk) a1 HOB.out (by have:=HF.out.size;simp;omega);have O1:=hd_ o1;have F1:=hd_ f1;have B1:=hd_ b1;clear o1 g1 a1 f1 b1;go_wp2_with fail;go_roundg (gk-1)
     case measure=>have:=HK.out;omega
     case rel =>
       refine⟨k+1,by have:=HK.out;omega,by rw [HD.out];go_num,by go_num,?_,F1.out,B1.out⟩;rw [HS.out,KT];have h:=O1.out;(have e:((x:Int)%2 == 1)=(x%2 == 1):=by rw [Bool.eq_iff_iff];simp;omega);simpa [Y2,e]using h
   (obtain rfl:k=n:=by have:=HK.out;omega);go_wp2_with fail;(try go_ret);exact hR.out _ _ ⟨_,rfl,HO.out,HF.out,HOB.out⟩
theorem Kl (F:Nat->Prop) (A:Option Addr) (n c:Nat) (L:List Bool) (w:World) (hr:Rd w F A n (Y2 L)) (hn:n<=64) :
   Calls Tryz.prog 109 #[.slice A n c] w fun e w'=>e = .returned (.int .u64 (QE L:Nat))/\w=w':=by
 (have hL:L.length=n:=by have:=hr.1;simpa using this);(have hnI:(n:Int)<=64:=by omega);have HR:=hd_ hr;have HL:=hd_ hL;clear hr hL hn;refine Q6 fun R hR=>?_;go_enter Tryz.func109,Tryz.ntmps109;go_wp2_with fail;go_loopg [3,4] n (fun m x i wr=>wr=w/\m<=n/\i = .int .i64 ((m:Int)-1)/\x = .int .u64 (QE (L.drop m):Nat))
 case atStart=>exact⟨rfl,by omega,rfl,by rw [List.drop_of_length_le (by have:=HL.out;omega)];rfl⟩
 case round =>
   obtain⟨rfl,hm,rfl,rfl⟩:=hrel;by_cases h0:0<gk
   . obtain⟨k,rfl⟩:∃k,gk=k+1:=⟨gk-1,by omega⟩
     obtain⟨b,o,hk,rfl,hb,hc⟩:=HR.out.bool (k:=k) (by omega);have hv:=Xf hk;have hlt:=JN (L.drop (k+1));have hlt2:2^(L.drop (k+1)).length<=2^63:=Nat.pow_le_pow_right (by omega) (by rw [List.length_drop];have:=HL.out;omega);generalize QE (L.drop (k+1))=y at *;generalize L[k]=bb at *;(have hyI:(y:Int)<9223372036854775808:=by(have:(2:Nat)^63=9223372036854775808:=by decide);omega);have HV:=hd_ hv;(have e1:(((k+1:Nat):Int)-1)=(k:Int):=by omega);(have e2:IntKind.u64.wrap (2*(y:Int))=2*(y:Int):=by rw [IntKind.wrap_u64];omega);(have e3:IntKind.u64.wrap (2*(y:Int)+1)=2*(y:Int)+1:=by rw [IntKind.wrap_u64];omega);clear hv hlt hlt2 hk;rw [e1];(have hkI:(k:Int)<n:=by omega);cases bb
     all_goals
       go_wp2_with fail;go_roundg k
       case measure=>omega
       case rel=>exact⟨rfl,by omega,by go_num,by rw [HV.out];simp;try omega⟩
   (obtain rfl:gk=0:=by omega);go_wp2_with fail;(try go_ret);exact hR.out _ _ ⟨by simp,rfl⟩
theorem Q0s (F:Nat->Prop) (A:Option Addr) (n c:Nat) (bs:List Nat) (w:World) (hr:Rd w F A n (Qi bs)) (hlt:∀b∈bs,b<256) (hn:n<=100000) :
   Calls Tryz.prog 106 #[.slice A n c] w fun e w'=>∃s,e = .returned s/\Vc w w' s (Q9 bs):=by
 (have hL:bs.length=n:=by have:=hr.1;simpa using this);(have hnI:(n:Int)<=100000:=by omega);have HR:=hd_ hr.both;have HL:=hd_ hL;have HLT:=hd_ hlt;clear hr hL hn hlt;refine Q6 fun R hR=>?_;go_enter Tryz.func106,Tryz.ntmps106;go_wp2_with fail;go_loopg [3,4] n (fun m s i wr=>∃(k:Nat),k+m=n/\i = .int .i64 k/\Vc w wr s (Q9 (bs.take k)))
 case atStart=>exact⟨0,by omega,rfl,by simpa [Q9,Y2]using Own.nil w 4,Upd.refl _ _,by simp [Value.ownBlock]⟩
 case round =>
   obtain⟨k,hk,rfl,ho,hf,hob⟩:=hrel;have HK:=hd_ hk;have HO:=hd_ ho;have HF:=hd_ hf;have HOB:=hd_ hob;clear hk ho hf hob;by_cases hltk:k<n
   . have hkl:k<bs.length:=by have:=HL.out;omega
     obtain⟨b,o,rfl,hF,hb,hc⟩:=(HR.out.fresh HF.out).at_ hltk;(have hc':wr.cell? ⟨b,o+k,none⟩=some (.int .u8 (bs[k]:Nat)):=by rw [hc];simp [Qi,hkl]);have hx:=HLT.out bs[k] (List.getElem_mem hkl);have hts:=List.take_succ_eq_append_getElem hkl;generalize bs[k]=x at *;have HTS:=hd_ hts;have hbb:=Q38 x 8 wr (by omega) (by omega);have HBB:=hd_ hbb;(have hxI:(x:Int)<256:=by omega);clear hc hkl hbb hts;go_wp2_with fail;refine HBB.out.mono ?_;rintro e w1 ⟨s1,rfl,o1,f1,b1⟩;obtain⟨A1,n1,c1,rfl,hn1⟩:=o1.form';have hrd1:=(o1.rd rfl).2.2;rw [<-hn1.out]at hrd1;have O1:=hd_ (HO.out.fresh f1);have RD1:=hd_ hrd1
     have hlen:(Y2 (Q9 (bs.take k))).length+n1<=2^40:=by
       have h5:=hn1.out;(have h6:(bs.take k).length<=k:=by rw [List.length_take];omega);simp only [Q0q,ZC,Yj]at h5 ⊢;omega
     have HLEN:=hd_ hlen;have F1:=hd_ (HF.out.trans' f1);clear o1 f1 b1 hn1 hrd1 hlen HBB;go_wp2_with (at_builtin;go_must (refine Yl _ rfl (.tmp 11) (.tmp 17) _ rfl 4 _ 1 Tryz.underlying141 Q0r rfl _ _ rfl O1.out _ n1 _ _ rfl RD1.out (Q37 _) (by omega) HLEN.out ?_));intro v' w2 o2 g2 a2;have f2:Q0 w w2:=F1.out.grown g2 (fun kk hkk hlt=>by have:=HOB.out kk hkk;omega);have b2:∀kk,v'.ownBlock=some kk->w.heap.size<=kk:=Zb (S:=fun kk=>w.heap.size<=kk) a2 HOB.out (by have:=F1.out.size;exact this);have O2:=hd_ o2;have F2:=hd_ f2;have B2:=hd_ b2;clear o2 g2 a2 f2 b2;go_wp2_with fail;go_roundg (gk-1)
     case measure=>have:=HK.out;omega
     case rel =>
       refine⟨k+1,by have:=HK.out;omega,by go_num,?_,F2.out,B2.out⟩;rw [HTS.out,ZU,Jl,Q0i,List.append_nil,KT];exact O2.out
   (obtain rfl:k=n:=by have:=HK.out;omega);have e:bs.take k=bs:=List.take_of_length_le (by have:=HL.out;omega);rw [e]at HO;clear e;go_wp2_with fail;(try go_ret);exact hR.out _ _ ⟨_,rfl,HO.out,HF.out,HOB.out⟩
def Y8 (w:World) (F:Nat->Prop) (g:Nat) (L:List Bool) (fr:Nat):Prop :=
  ∃(A:Option Addr) (c:Nat),Blk w g 143 #[.slice A (L.length-fr) c,.int .i64 fr]/\Rd w F A (L.length-fr) (Y2 (L.drop fr))/\fr<=L.length/\L.length-fr<=c
theorem Y8.upd {w w':World} {F S:Nat->Prop} {g:Nat} {L:List Bool} {fr:Nat} (h:Y8 w F g L fr) (hu:Upd S w w') (hg:¬S g) (hF:∀b,b<w.heap.size->F b->¬S b):Y8 w' F g L fr:=by
 obtain⟨A,c,h1,h2,h3⟩:=h;exact⟨A,c,h1.upd hu hg,h2.upd hu hF,h3⟩
theorem Q0t (F:Nat->Prop) (A:Option Addr) (n c:Nat) (bs:List Nat) (w:World) (hr:Rd w F A n (Qi bs)) (hlt:∀b∈bs,b<256) (hn:n<=100000) :
   Calls Tryz.prog 100 #[.slice A n c] w fun e w'=>∃g,e = .returned (.pointer (some ⟨g,0,none⟩))/\Q0 w w'/\w.heap.size<=g /\
     Y8 w' (fun b=>w.heap.size<=b/\b≠g) g (Q9 bs) 0:=by
 have h:=Q0s F A n c bs w hr hlt hn;have HH:=hd_ h;clear h hr hlt;refine Q6 fun R hR=>?_;go_enter Tryz.func100,Tryz.ntmps100;go_wp2_with fail;refine HH.out.mono ?_;rintro e w1 ⟨s,rfl,o1,f1,k1⟩;obtain⟨A1,n1,c1,rfl,hn1⟩:=o1.form';obtain⟨_,hcap,hrd⟩:=o1.rd rfl;rw [<-hn1.out]at hrd hcap;(have hn1':n1=(Q9 bs).length:=by have:=hn1.out;simpa using this);have HN:=hd_ hn1';have HRD:=hd_ hrd;have F1:=hd_ f1;have K1:=hd_ k1;have LT:=hd_ (fun k hk=>o1.lt (k:=k) hk);clear hn1 hn1' hrd f1 k1 o1 HH;go_wp2_with fail;(try go_ret);refine hR.out _ _ ⟨w1.heap.size,rfl,F1.out.alloc _,F1.out.size,A1,c1,?_,?_,Nat.zero_le _,by have:=HN.out;omega⟩
 . have h:=Blk.new w1 143 #[.slice A1 n1 c1,.int .i64 0]
   rw [HN.out]at h;simpa using h
 have h:=(HRD.out.alloc (.cells #[.slice A1 n1 c1,.int .i64 0] 143)).mono (G:=fun b=>w.heap.size<=b/\b≠w1.heap.size) (fun b hb=>⟨K1.out b hb,by have:=LT.out b hb;omega⟩);(have e:(Q9 bs).length-0=n1:=by have:=HN.out;omega);rw [e,List.drop_zero];rw [show 8*bs.length=n1 by have:=HN.out;simp at this;omega];exact h
theorem Q0u (F:Nat->Prop) (g:Nat) (L:List Bool) (fr n:Nat) (w:World) (h:Y8 w F g L fr) (hn:n<=64) (hs:L.length<fr+n) (hL:L.length<=2^40) :
   Calls Tryz.prog 101 #[.pointer (some ⟨g,0,none⟩),.int .i64 n] w fun e w'=>e = .returned (.tuple #[.int .u64 0,.int .i64 3])/\w=w':=by
 obtain⟨A,c,hb,hr,hf,hc⟩:=h;have c0:=hb.cell 0;simp at c0;(have hnI:(n:Int)<=64:=by omega);(have hlt:((L.length-fr:Nat):Int)<n:=by omega);generalize L.length-fr=m at *;clear hb hr hf hc hs;refine Q6 fun R hR=>?_;go_enter Tryz.func101,Tryz.ntmps101;go_wp2_with fail;(try go_ret2);exact hR.out _ _ ⟨rfl,rfl⟩
theorem Q39 (F:Nat->Prop) (g:Nat) (L:List Bool) (fr n:Nat) (w:World) (h:Y8 w F g L fr) (hn:n<=64) (hs:fr+n<=L.length) (hL:L.length<=2^40) (hFg:∀b,F b->b≠g) :
   Calls Tryz.prog 101 #[.pointer (some ⟨g,0,none⟩),.int .i64 n] w fun e w'=>e = .returned (.tuple #[.int .u64 (QE ((L.drop fr).take n):Nat),.int .i64 0]) /\
     Upd (fun b=>b=g) w w'/\Y8 w' F g L (fr+n):=by
 obtain⟨A,c,hb,hr,hf,hc⟩:=h;have c0:=hb.cell 0;have c1:=hb.cell 1;have z0:=hb.frozen 0;have z1:=hb.frozen 1;simp at c0 c1;(have hnI:(n:Int)<=64:=by omega);(have hmn:L.length-fr-n=L.length-(fr+n):=by omega);(have hle:(n:Int)<=((L.length-fr:Nat):Int):=by omega);(have hmI:((L.length-fr:Nat):Int)<=1099511627776:=by omega);(have hfI:(fr:Int)<=1099511627776:=by omega);(have hcI:((L.length-fr:Nat):Int)<=c:=by omega);(have hnc:(n:Int)<=c:=by omega);have hv:=Kl F A n c ((L.drop fr).take n) w (by have:=hr.take (k:=n) (by omega);simpa [Y2,List.map_take]using this) hn;have hcut:=hr.cut (k:=n) (cap:=c) (by omega) hc;have HCUT:=hd_ hcut;have HV:=hd_ hv;have HB:=hd_ hb;have HMN:=hd_ hmn;have HC:=hd_ hc;(have hdr:(Y2 (L.drop fr)).drop n=Y2 (L.drop (fr+n)):=by simp [Y2]);have HDR:=hd_ hdr;have HS:=hd_ hs;obtain⟨m,hm⟩:=nm_ (L.length-fr);rw [<-hm]at c0 hle hmI hcI HCUT HB HMN HC;have HM:=hd_ hm;clear hb hr hcut hv hmn hdr hm hc hf hs;refine Q6 fun R hR=>?_;by_cases hcn:c=n
 . subst hcn
   go_enter Tryz.func101,Tryz.ntmps101;go_wp2_with fail;refine HV.out.mono ?_;rintro e w1 ⟨rfl,rfl⟩;go_wp2_with fail;(try go_ret2)
   have hu:Upd (fun b=>b=g) w ((w.setCell ⟨g,0,none⟩ (.slice A (m-c) 0)).setCell ⟨g,1,none⟩ (.int .i64 ((fr:Int)+c))) :=
     ((Upd.refl (fun b=>b=g) w).setCell (p:=⟨g,0,none⟩) (fun _=>rfl) _).setCell (p:=⟨g,1,none⟩) (fun _=>rfl) _
   have hbb:=(HB.out.set_ 0 (.slice A (m-c) 0)).set_ 1 (.int .i64 ((fr:Int)+c));have hcc:=HCUT.out;rw [if_pos trivial,HDR.out]at hcc;rw [HMN.out]at hcc;refine hR.out _ _ ⟨rfl,hu,_,0,?_,hcc.upd hu (fun b _ hb e=>hFg b hb e),HS.out,?_⟩
   . rw [<-HMN.out]
     simpa using hbb
   rw [<-HMN.out];have:=HC.out;omega
 (have hcn':(n:Int)<c:=by omega);go_enter Tryz.func101,Tryz.ntmps101;go_wp2_with fail;refine HV.out.mono ?_;rintro e w1 ⟨rfl,rfl⟩;go_wp2_with fail;(try go_ret2)
 have hu:Upd (fun b=>b=g) w ((w.setCell ⟨g,0,none⟩ (.slice (A.map (·.add n)) (m-n) (c-n))).setCell ⟨g,1,none⟩ (.int .i64 ((fr:Int)+n))) :=
   ((Upd.refl (fun b=>b=g) w).setCell (p:=⟨g,0,none⟩) (fun _=>rfl) _).setCell (p:=⟨g,1,none⟩) (fun _=>rfl) _
 have hbb:=(HB.out.set_ 0 (.slice (A.map (·.add n)) (m-n) (c-n))).set_ 1 (.int .i64 ((fr:Int)+n));have hcc:=HCUT.out;rw [if_neg hcn,HDR.out]at hcc;rw [HMN.out]at hcc;refine hR.out _ _ ⟨rfl,hu,_,c-n,?_,hcc.upd hu (fun b _ hb e=>hFg b hb e),HS.out,?_⟩
 . rw [<-HMN.out]
   simpa using hbb
 rw [<-HMN.out];have:=HC.out;omega
def ZO (w:World) (F:Nat->Prop) (g:Nat) (L:List Bool) (fr:Nat):Prop :=
  ∃(A:Option Addr) (c:Nat),Blk w g 143 #[.slice A L.length c,.int .i64 fr]/\Rd w F A L.length (Y2 L)/\L.length<=c/\L.length+fr<=2^32
theorem ZO.upd {w w':World} {F S:Nat->Prop} {g:Nat} {L:List Bool} {fr:Nat} (h:ZO w F g L fr) (hu:Upd S w w') (hg:¬S g) (hF:∀b,b<w.heap.size->F b->¬S b):ZO w' F g L fr:=by
 obtain⟨A,c,h1,h2,h3⟩:=h;exact⟨A,c,h1.upd hu hg,h2.upd hu hF,h3⟩
theorem Q1h (F:Nat->Prop) (g:Nat) (L:List Bool) (fr n:Nat) (w:World) (h:ZO w F g L fr) (hn:n<=64) (hs:L.length<n) :
   Calls Tryz.prog 70 #[.pointer (some ⟨g,0,none⟩),.int .i64 n] w fun e w'=>e = .returned (.tuple #[.int .u64 0,.int .i64 14])/\w=w':=by
 obtain⟨A,c,hb,hr,hc,hf⟩:=h;have c0:=hb.cell 0;simp at c0;(have hnI:(n:Int)<=64:=by omega);(have hsI:((L.length:Nat):Int)<n:=by omega);clear hr hf hc hb;refine Q6 fun R hR=>?_;go_enter Tryz.func70,Tryz.ntmps70;go_wp2_with fail;(try go_ret2);exact hR.out _ _ ⟨rfl,rfl⟩
theorem Q49 (F:Nat->Prop) (g:Nat) (L:List Bool) (fr n:Nat) (w:World) (h:ZO w F g L fr) (hn:n<=64) (hs:n<=L.length) (hFg:∀b,F b->b≠g) :
   Calls Tryz.prog 70 #[.pointer (some ⟨g,0,none⟩),.int .i64 n] w fun e w'=>e = .returned (.tuple #[.int .u64 (QE (L.drop (L.length-n)):Nat),.int .i64 0]) /\
     Upd (fun b=>b=g) w w'/\ZO w' F g (L.take (L.length-n)) (fr+n):=by
 obtain⟨A,c,hb,hr,hc,hf⟩:=h;have c0:=hb.cell 0;have c1:=hb.cell 1;have z0:=hb.frozen 0;have z1:=hb.frozen 1;simp at c0 c1;(have hnI:(n:Int)<=64:=by omega);obtain⟨k,hk⟩:=nm_ (L.length-n);(have hkm:((L.length:Nat):Int)-n=k:=by omega);(have hmI:((L.length:Nat):Int)<=4294967296:=by omega);(have hle:(n:Int)<=((L.length:Nat):Int):=by omega);(have hkI:(k:Int)<=((L.length:Nat):Int):=by omega);(have hcI:((L.length:Nat):Int)<=c:=by omega);(have hkc:(k:Int)<=c:=by omega);(have hkn:L.length-k=n:=by omega);(have hkn2:((L.length:Nat):Int)-k=n:=by omega);(have hfI:(fr:Int)<=4294967296:=by omega);(have hdk:(L.take k).length=k:=by rw [List.length_take];omega);have htk:=hr.take (k:=k) (by omega);have hcut:=hr.cut (k:=k) (cap:=c) (by omega) hc;rw [hkn]at hcut;(have hdr:(Y2 L).drop k=Y2 (L.drop k):=by simp [Y2]);(have htr:(Y2 L).take k=Y2 (L.take k):=by simp [Y2]);rw [hdr]at hcut;rw [htr]at htk;have HTK:=hd_ htk;have HB:=hd_ hb;have HF:=hd_ (show k+(fr+n)<=2^32 by omega);have HC:=hd_ (show k<=c by omega);have HDK:=hd_ hdk;obtain⟨m,hm⟩:=nm_ (L.length);rw [<-hm]at c0 hkm hmI hle hkI hcI hkn2 HB;rw [<-hk];(have hkN:m-k=n:=by omega);clear hb hr htk hdr htr hc hf hs hkn hdk hk hm
 have HSS:=hd_ (show ∀W,Q0 w W->(Q0 w W/\W.cell? ⟨g,0,none⟩=some (.slice A m c)/\W.cell? ⟨g,1,none⟩=some (.int .i64 fr)/\W.frozen? ⟨g,0,none⟩=false/\W.frozen? ⟨g,1,none⟩=false)from fun W h=>by
   have hB:=HB.out.fresh h;have y0:=hB.cell 0;have y1:=hB.cell 1;have y2:=hB.frozen 0;have y3:=hB.frozen 1;simp at y0 y1
   exact⟨h,y0,y1,y2,y3⟩)
 refine Q6 fun R hR=>?_;by_cases hck:c=k
 . subst hck
   (obtain rfl:m=c:=by omega);(obtain rfl:n=0:=by omega);rw [if_pos rfl]at hcut;have hwr:IntKind.i64.wrap ((m:Int))=m:=IntWalk.i64_in _ (by omega);have HV:=hd_ (fun W (h:Q0 w W)=>Kl F A 0 0 (L.drop m) W (hcut.fresh h) hn);clear hcut;go_enter Tryz.func70,Tryz.ntmps70;go_upto_region 5 with fail
   go_region_held3 (fun W=>Q0 w W/\W.cell? ⟨g,0,none⟩=some (.slice A m m)/\W.cell? ⟨g,1,none⟩=some (.int .i64 fr)/\W.frozen? ⟨g,0,none⟩=false/\W.frozen? ⟨g,1,none⟩=false)
     (first|exact HSS.out _ (by assumption)|exact HSS.out _ (And.left (by assumption))|exact HSS.out _ (Upd.refl _ _)|exact HSS.out _ (Upd.refl _ _).drew)
     (first|(go_at_call 109;refine(HV.out _ (And.left (by assumption))).mono ?_;rintro e w' ⟨rfl,rfl⟩))
   go_upto_region 6 with fail;go_region;go_wp2_with fail;(try go_ret2)
   have hu:Upd (fun b=>b=g) w ((w.setCell ⟨g,0,none⟩ (.slice A m m)).setCell ⟨g,1,none⟩ (.int .i64 ((fr:Int)))).drew.drew :=
     ((((Upd.refl (fun b=>b=g) w).setCell (p:=⟨g,0,none⟩) (fun _=>rfl) _).setCell (p:=⟨g,1,none⟩) (fun _=>rfl) _).drew).drew
   have hbb:=((HB.out).set_ 0 (.slice A m m)).set_ 1 (.int .i64 ((fr:Int)));refine hR.out _ _ ⟨rfl,hu,A,m,?_,?_,?_,?_⟩
   . rw [HDK.out]
     refine Blk.drew (Blk.drew ?_);simpa using hbb
   . rw [HDK.out];exact HTK.out.upd hu (fun b _ hb e=>hFg b hb e)
   . rw [HDK.out];exact HC.out
   rw [HDK.out];exact HF.out
 (have hcn':(k:Int)<c:=by omega);rw [if_neg hck]at hcut;have hwr:IntKind.i64.wrap ((k:Int))=k:=IntWalk.i64_in _ (by omega);have HV:=hd_ (fun W (h:Q0 w W)=>Kl F (A.map (·.add k)) n (c-k) (L.drop k) W (hcut.fresh h) hn);clear hcut;go_enter Tryz.func70,Tryz.ntmps70;go_upto_region 5 with fail
 go_region_held3 (fun W=>Q0 w W/\W.cell? ⟨g,0,none⟩=some (.slice A m c)/\W.cell? ⟨g,1,none⟩=some (.int .i64 fr)/\W.frozen? ⟨g,0,none⟩=false/\W.frozen? ⟨g,1,none⟩=false)
   (first|exact HSS.out _ (by assumption)|exact HSS.out _ (And.left (by assumption))|exact HSS.out _ (Upd.refl _ _)|exact HSS.out _ (Upd.refl _ _).drew)
   (first|(go_at_call 109;refine(HV.out _ (And.left (by assumption))).mono ?_;rintro e w' ⟨rfl,rfl⟩))
 go_upto_region 6 with fail;go_region;go_wp2_with fail;(try go_ret2)
 have hu:Upd (fun b=>b=g) w ((w.setCell ⟨g,0,none⟩ (.slice A k c)).setCell ⟨g,1,none⟩ (.int .i64 ((fr:Int)+n))).drew.drew :=
   ((((Upd.refl (fun b=>b=g) w).setCell (p:=⟨g,0,none⟩) (fun _=>rfl) _).setCell (p:=⟨g,1,none⟩) (fun _=>rfl) _).drew).drew
 have hbb:=((HB.out).set_ 0 (.slice A k c)).set_ 1 (.int .i64 ((fr:Int)+n));refine hR.out _ _ ⟨rfl,hu,A,c,?_,?_,?_,?_⟩
 . rw [HDK.out]
   refine Blk.drew (Blk.drew ?_);simpa using hbb
 . rw [HDK.out];exact HTK.out.upd hu (fun b _ hb e=>hFg b hb e)
 . rw [HDK.out];exact HC.out
 rw [HDK.out];exact HF.out
theorem KH {l:List Bool} (h:QE l=0) {j:Nat} (hj:j<l.length):l[j]?=some false:=by
 have:=ZG h;rw [this];simp [hj]
theorem Ka {l:List Bool} (h:∀j,j<l.length->l[j]?=some false):QE l=0:=by
 have:l=List.replicate l.length false:=by
   apply List.ext_getElem?;intro j;by_cases hj:j<l.length
   . rw [h j hj];simp [hj]
   rw [List.getElem?_eq_none (by omega),List.getElem?_eq_none (by simp;omega)]
 rw [this,Q1a]
def Q24 (L:List Bool) (fr:Nat):Nat:=QE ((L.drop fr).take ((8-fr%8)%8))
theorem Q25 (F:Nat->Prop) (g:Nat) (L:List Bool) (fr:Nat) (w:World) (h:Y8 w F g L fr) (h8:L.length%8=0) (hL:L.length<=2^40) :
   Calls Tryz.prog 104 #[.pointer (some ⟨g,0,none⟩)] w fun e w' =>
     e = .returned (if Q24 L fr=0 then .tuple #[.int .i64 ((fr+(8-fr%8)%8) / 8:Nat),.int .i64 0]else .tuple #[.int .i64 0,.int .i64 14])/\Upd (fun b=>b=g) w w':=by
 obtain⟨A,c,hb,hr,hf,hc⟩:=h;have c0:=hb.cell 0;have c1:=hb.cell 1;have z0:=hb.frozen 0;have z1:=hb.frozen 1;simp at c0 c1;obtain⟨P,hP⟩:=nm_ ((8-fr%8)%8);(have hpv:Q24 L fr=QE ((L.drop fr).take P):=by rw [hP];rfl);rw [<-hP,hpv];(have hPm:P<=L.length-fr:=by omega);(have hP8:P<8:=by omega);(have hPI:(P:Int)<8:=by omega);(have hcI:(P:Int)<=c:=by omega);(have hmI:((L.length-fr:Nat):Int)<=1099511627776:=by omega);(have hPmI:(P:Int)<=((L.length-fr:Nat):Int):=by omega);(have hmc:((L.length-fr:Nat):Int)<=c:=by omega);(have hfI:(fr:Int)<=1099511627776:=by omega);(have hend:((fr:Int)+P)%8=0:=by omega);(have hgo:∀k:Nat,k<P->¬((fr:Int)+k)%8=0:=fun k hk=>by omega);(have hvE:((fr:Int)+P) / 8=((fr+P) / 8:Nat):=by omega);have HE:=hd_ hend;have HGO:=hd_ hgo;have HR:=hd_ hr;have HVE:=hd_ hvE;(have hlen:((L.drop fr).take P).length=P:=by rw [List.length_take,List.length_drop];omega);have HLEN:=hd_ hlen;obtain⟨m,hm⟩:=nm_ (L.length-fr);rw [<-hm]at c0 hmI hPmI hmc HR;clear hb hr hend hgo hvE hpv hP hm hPm hf hc h8 hlen;obtain⟨V,hV⟩:=nm_ (QE ((L.drop fr).take P));rw [<-hV];have HV:=hd_ hV;clear hV;refine Q6 fun R hR=>?_;by_cases hcP:c=P
 all_goals
   (have hcP':(c:Int)=P\/(P:Int)<c:=by omega);have HCP:=hd_ hcP;clear hcP
 . have hcPI:(c:Int)<=P:=by have:=HCP.out;omega
   clear hcP';go_enter Tryz.func104,Tryz.ntmps104;go_wp2_with fail;go_loopg [4] P (fun mm i wr=>wr=w/\∃k:Nat,k+mm=P/\i = .int .i64 k/\∀j,j<k->(L.drop fr)[j]?=some false)
   case atStart=>exact⟨rfl,0,by omega,rfl,fun j hj=>by omega⟩
   case round =>
     obtain⟨rfl,k,hk,rfl,hall⟩:=hrel;have HK:=hd_ hk;have HA:=hd_ hall;clear hk hall;by_cases hlt:k<P
     . have hgo:=HGO.out k hlt
       obtain⟨b,o,hkl,rfl,hb,hcell⟩:=HR.out.bool (k:=k) (by omega);have hget:(L.drop fr)[k]?=some (L.drop fr)[k]:=List.getElem?_eq_getElem hkl;(have hkm:(k:Int)<m:=by omega);generalize (L.drop fr)[k]=bb at *;have HG:=hd_ hget;clear hget hkl;cases bb
       . go_wp2_with fail
         go_roundg (gk-1)
         case measure=>have:=HK.out;omega
         case rel=>exact⟨rfl,k+1,by have:=HK.out;omega,by go_num,fun j hj=>by
           rcases Nat.lt_or_ge j k with h|h
           . exact HA.out j h
           (obtain rfl:j=k:=by omega)
           exact HG.out⟩
       go_wp2_with fail;(try go_ret2)
       have hne:¬V=0:=by
         intro h0;rw [HV.out]at h0;have h1:=KH h0 (j:=k) (by rw [HLEN.out];exact hlt);rw [List.getElem?_take,if_pos hlt,HG.out]at h1;cases h1
       exact hR.out _ _ ⟨by rw [if_neg hne];rfl,Upd.refl _ _⟩
     (obtain rfl:k=P:=by have:=HK.out;omega);have hend:=HE.out;go_wp2_with fail;(try go_ret2)
     have hz:V=0:=by
       rw [HV.out];refine Ka fun j hj=>?_;(have hj':j<k:=by have:=HLEN.out;omega);rw [List.getElem?_take,if_pos hj'];exact HA.out j hj'
     refine hR.out _ _ ⟨?_,?_⟩
     . rw [if_pos hz,<-HVE.out];rfl
     exact((Upd.refl (fun b=>b=g) wr).setCell (p:=⟨g,0,none⟩) (fun _=>rfl) _).setCell (p:=⟨g,1,none⟩) (fun _=>rfl) _
 (have hcPI:(P:Int)<c:=by have:=HCP.out;omega);clear hcP';go_enter Tryz.func104,Tryz.ntmps104;go_wp2_with fail;go_loopg [4] P (fun mm i wr=>wr=w/\∃k:Nat,k+mm=P/\i = .int .i64 k/\∀j,j<k->(L.drop fr)[j]?=some false)
 case atStart=>exact⟨rfl,0,by omega,rfl,fun j hj=>by omega⟩
 case round =>
   obtain⟨rfl,k,hk,rfl,hall⟩:=hrel;have HK:=hd_ hk;have HA:=hd_ hall;clear hk hall;by_cases hlt:k<P
   . have hgo:=HGO.out k hlt
     obtain⟨b,o,hkl,rfl,hb,hcell⟩:=HR.out.bool (k:=k) (by omega);have hget:(L.drop fr)[k]?=some (L.drop fr)[k]:=List.getElem?_eq_getElem hkl;(have hkm:(k:Int)<m:=by omega);generalize (L.drop fr)[k]=bb at *;have HG:=hd_ hget;clear hget hkl;cases bb
     . go_wp2_with fail
       go_roundg (gk-1)
       case measure=>have:=HK.out;omega
       case rel=>exact⟨rfl,k+1,by have:=HK.out;omega,by go_num,fun j hj=>by
         rcases Nat.lt_or_ge j k with h|h
         . exact HA.out j h
         (obtain rfl:j=k:=by omega)
         exact HG.out⟩
     go_wp2_with fail;(try go_ret2)
     have hne:¬V=0:=by
       intro h0;rw [HV.out]at h0;have h1:=KH h0 (j:=k) (by rw [HLEN.out];exact hlt);rw [List.getElem?_take,if_pos hlt,HG.out]at h1;cases h1
     exact hR.out _ _ ⟨by rw [if_neg hne];rfl,Upd.refl _ _⟩
   (obtain rfl:k=P:=by have:=HK.out;omega);have hend:=HE.out;go_wp2_with fail;(try go_ret2)
   have hz:V=0:=by
     rw [HV.out];refine Ka fun j hj=>?_;(have hj':j<k:=by have:=HLEN.out;omega);rw [List.getElem?_take,if_pos hj'];exact HA.out j hj'
   refine hR.out _ _ ⟨?_,?_⟩
   . rw [if_pos hz,<-HVE.out];rfl
   exact((Upd.refl (fun b=>b=g) wr).setCell (p:=⟨g,0,none⟩) (fun _=>rfl) _).setCell (p:=⟨g,1,none⟩) (fun _=>rfl) _
theorem Q5s {m b:Nat} (h0:m≠0) (hm:m<2^64) (h1:2^b<=m) (h2:m<2^(b+1)):b=Qx m:=by
 obtain⟨c1,c2⟩:=Ju m h0 hm;have h3:b<Qx m+1:=(Nat.pow_lt_pow_iff_right (a:=2) (by omega)).1 (Nat.lt_of_le_of_lt h1 c2);have h4:Qx m<b+1:=(Nat.pow_lt_pow_iff_right (a:=2) (by omega)).1 (Nat.lt_of_le_of_lt c1 h2);omega
theorem Q3a (m:Nat) (w:World) (h0:1<=m) (h:m<=600) :
   Calls Tryz.prog 190 #[.int .i64 m] w fun e w'=>e = .returned (.int .i64 (Qx m))/\w=w':=by
 have hsz:=hd_ (fun b (hb:b<=9) (W:World)=>Z5 b W hb);(have hmI:(m:Int)<=600:=by omega);refine Q6 fun R hR=>?_;go_enter Tryz.func190,Tryz.ntmps190;go_wp2_with fail;go_loopg [3] 10 (fun mm i wr=>wr=w/\∃b:Nat,b+mm=10/\i = .int .i64 b/\2^b<=m)
 case atStart=>exact⟨rfl,0,by omega,rfl,by simpa using h0⟩
 case round =>
   obtain⟨rfl,b,hb,rfl,hle⟩:=hrel
   have hb9:b<=9:=by
     rcases Nat.lt_or_ge b 10 with h|h
     . omega
     have:=Nat.pow_le_pow_right (n:=2) (by omega) h;omega
   have hs:=hsz.out b hb9 wr;have HS:=hd_ hs;have HB:=hd_ hb;(have hbI:(b:Int)<=9:=by omega);(have hp:2^(b+1)=2*2^b:=by rw [Nat.pow_succ];omega);have hun:=fun h2=>Q5s (m:=m) (b:=b) (by omega) (by omega) hle h2;obtain⟨q,hq⟩:=nm_ (2^b);rw [<-hq]at HS hle;rw [hp,<-hq]at hun;have HUN:=hd_ hun;(have hqI:(q:Int)<=600:=by omega);have HQ:=hd_ hq;have HP:=hd_ hp;clear hs hb hun hq hp;go_wp2_with fail;refine HS.out.mono ?_;rintro e w1 ⟨rfl,rfl⟩;by_cases hlt:2*q<=m
   . have hltI:2*(q:Int)<=m:=by omega
     go_wp2_with fail;go_roundg (gk-1)
     case measure=>have:=HB.out;omega
     case rel=>exact⟨rfl,b+1,by have:=HB.out;omega,by go_num,by rw [HP.out,<-HQ.out];exact hlt⟩
   (have hltI:(m:Int)<2*q:=by omega);go_wp2_with fail;(try go_ret);exact hR.out _ _ ⟨by rw [<-HUN.out (by omega)];rfl,rfl⟩
theorem Km {L:List Bool} {n fr:Nat} (h:fr+n<=L.length):Qa L n ⟨fr,0⟩=(QE ((L.drop fr).take n),⟨fr+n,0⟩):=by
 unfold Qa;rw [if_neg (by simp),if_pos h]
theorem Kn {L:List Bool} {n fr:Nat} (h:L.length<fr+n):Qa L n ⟨fr,0⟩=(0,⟨fr,3⟩):=by
 unfold Qa;rw [if_neg (by simp),if_neg (by simp only;omega)]
theorem Zu (F:Nat->Prop) (g:Nat) (L:List Bool) (fr n:Nat) (w:World) (h:Y8 w F g L fr) (hn:n<=64) (hL:L.length<=2^40) (hFg:∀b,F b->b≠g) :
   Calls Tryz.prog 101 #[.pointer (some ⟨g,0,none⟩),.int .i64 n] w fun e w' =>
     e = .returned (.tuple #[.int .u64 ((Qa L n ⟨fr,0⟩).1:Nat),.int .i64 (Qa L n ⟨fr,0⟩).2.e])/\Upd (fun b=>b=g) w w'/\Y8 w' F g L (Qa L n ⟨fr,0⟩).2.fr:=by
 by_cases hs:fr+n<=L.length
 . rw [Km hs]
   exact Q39 F g L fr n w h hn hs hL hFg
 rw [Kn (by omega)];exact(Q0u F g L fr n w h hn (by omega) hL).mono fun e w' ⟨h1,h2⟩=>⟨h1,h2 ▸ Upd.refl _ _,h2 ▸ h⟩
theorem Q1i {L:List Bool} {m:Nat} {σ:St} (h:(Qa L (Qx m) σ).1<YT m):QS L m σ=Qa L (Qx m) σ:=by unfold QS;rw [if_pos h]
theorem Q1j {L:List Bool} {m:Nat} {σ:St} (h:¬(Qa L (Qx m) σ).1<YT m) :
   QS L m σ=(2*(Qa L (Qx m) σ).1+(Qa L 1 (Qa L (Qx m) σ).2).1-YT m,(Qa L 1 (Qa L (Qx m) σ).2).2):=by unfold QS;rw [if_neg h]
theorem Q4a (F:Nat->Prop) (g:Nat) (L:List Bool) (fr m:Nat) (w:World) (h:Y8 w F g L fr) (h0:1<=m) (h600:m<=600) (hL:L.length<=2^40) (hFg:∀b,F b->b≠g) :
   Calls Tryz.prog 159 #[.pointer (some ⟨g,0,none⟩),.int .i64 m] w fun e w' =>
     e = .returned (.tuple #[.int .i64 ((QS L m ⟨fr,0⟩).1:Nat),.int .i64 (QS L m ⟨fr,0⟩).2.e])/\Upd (fun b=>b=g) w w'/\Y8 w' F g L (QS L m ⟨fr,0⟩).2.fr:=by
 have hl:=Q3a m w h0 h600;(have hb9:Qx m<=9:=by have:=Xh m 10 (by omega) (by omega) (by omega);omega);have hsz:=Z5 (Qx m) w hb9;have hu:YT m=2^(Qx m+1)-m:=rfl;have hc:=(Ju m (by omega) (by omega)).2;have hf:=Zu F g L fr (Qx m) w h (by omega) hL hFg;have hlt:=YL L (Qx m) ⟨fr,0⟩;have hone:=@Q1i L m ⟨fr,0⟩;have htwo:=@Q1j L m ⟨fr,0⟩
 have hno:fr+Qx m<=L.length\/Qa L (Qx m) ⟨fr,0⟩=(0,⟨fr,3⟩):=by
   by_cases hs:fr+Qx m<=L.length
   . exact .inl hs
   exact .inr (Kn (by omega))
 (have hyes:fr+Qx m<=L.length->(Qa L (Qx m) ⟨fr,0⟩).2=⟨fr+Qx m,0⟩:=fun hs=>by rw [Km hs]);rw [Nat.pow_succ]at hu hc;have hp9:2^Qx m<=512:=Nat.le_trans (Nat.pow_le_pow_right (n:=2) (by omega) hb9) (by decide);generalize YT m=u at *;generalize Qx m=b at *;generalize 2^b=q at *;(have huv:2*(q:Int)-m=u:=by omega);(have hu0:0<u:=by omega);(have hqI:(q:Int)<=512:=by omega);(have hbI:(b:Int)<=9:=by omega);(have hmI:(m:Int)<=600:=by omega);(have huI:(u:Int)<=1024:=by omega);obtain⟨X,hX⟩:=nm_ (Qa L b ⟨fr,0⟩);obtain⟨Y,hY⟩:=nm_ (QS L m ⟨fr,0⟩);rw [<-hX]at hf hlt hone htwo hno hyes;rw [<-hY]at hone htwo ⊢;obtain⟨t,fr1,e1⟩:=X;simp only at hf hlt hone htwo hno hyes;have HL:=hd_ hl;have HSZ:=hd_ hsz;have HF:=hd_ hf;have HH:=hd_ h;(have htI:(t:Int)<=512:=by omega);(have ht64:wrap64 (t:Int)=t:=by unfold wrap64;omega);clear hl hsz hf h hX hY hu hc hp9;refine Q6 fun R hR=>?_;rcases hno with hs|hs
 . have he:=hyes hs
   injection he with he1 he2;subst he1 he2;have HONE:=hd_ hone;have HTWO:=hd_ htwo;clear hone htwo hyes hlt;by_cases hlt:t<u
   . have hltI:(t:Int)<u:=by omega
     have hy:=HONE.out hlt;subst hy;clear HONE HTWO;go_enter Tryz.func159,Tryz.ntmps159;go_wp2_with fail;refine HL.out.mono ?_;rintro e w1 ⟨rfl,rfl⟩;go_wp2_with fail;refine HSZ.out.mono ?_;rintro e w1 ⟨rfl,rfl⟩;go_wp2_with fail;refine HF.out.mono ?_;rintro e w1 ⟨rfl,u1,r1⟩;have U1:=hd_ u1;have R1:=hd_ r1;clear u1 r1;go_wp2_with fail;(try go_ret2);exact hR.out _ _ ⟨rfl,U1.out,R1.out⟩
   (have hltI:(u:Int)<=t:=by omega);have hy:=HTWO.out hlt;have hf1:=fun W (hW:Y8 W F g L (fr+b))=>Zu F g L (fr+b) 1 W hW (by omega) hL hFg;have hlt2:=YL L 1 ⟨fr+b,0⟩;obtain⟨Z,hZ⟩:=nm_ (Qa L 1 ⟨fr+b,0⟩);simp only [<-hZ]at hy hf1 hlt2;obtain⟨c,fr2,e2⟩:=Z;simp only at hy hf1 hlt2;(have hcI:(c:Int)<=1:=by omega);(have hc64:wrap64 (c:Int)=c:=by unfold wrap64;omega);subst hy;(have hv:2*(t:Int)+c-u=((2*t+c-u:Nat):Int):=by omega);have HV:=hd_ hv;have HF1:=hd_ hf1;clear hv hf1 hZ HONE HTWO hlt2;go_enter Tryz.func159,Tryz.ntmps159;go_wp2_with fail;refine HL.out.mono ?_;rintro e w1 ⟨rfl,rfl⟩;go_wp2_with fail;refine HSZ.out.mono ?_;rintro e w1 ⟨rfl,rfl⟩;go_wp2_with fail;refine HF.out.mono ?_;rintro e w1 ⟨rfl,u1,r1⟩;have U1:=hd_ u1;have hf2:=HF1.out w1 r1;have HF2:=hd_ hf2;clear u1 r1 hf2;go_wp2_with fail;refine HF2.out.mono ?_;rintro e w2 ⟨rfl,u2,r2⟩;have U2:=hd_ (U1.out.trans' u2);have R2:=hd_ r2;clear u2 r2;go_wp2_with fail;(try go_ret2);refine hR.out _ _ ⟨?_,U2.out,R2.out⟩;rw [<-HV.out];rfl
 injection hs with hs1 hs2;injection hs2 with hs2 hs3;subst hs1 hs2 hs3;have hy:=hone hu0;subst hy;clear hone htwo hyes hlt;go_enter Tryz.func159,Tryz.ntmps159;go_wp2_with fail;refine HL.out.mono ?_;rintro e w1 ⟨rfl,rfl⟩;go_wp2_with fail;refine HSZ.out.mono ?_;rintro e w1 ⟨rfl,rfl⟩;go_wp2_with fail;refine HF.out.mono ?_;rintro e w1 ⟨rfl,u1,r1⟩;have U1:=hd_ u1;have R1:=hd_ r1;clear u1 r1;go_wp2_with fail;(try go_ret2);exact hR.out _ _ ⟨rfl,U1.out,R1.out⟩
theorem Q1k {room:Int} {L:List Bool} {f len fr:Nat} (h:(len:Int)<room):Qw room L (f+1) 3 len ⟨fr,0⟩=Qw room L f (Qa L 2 ⟨fr,0⟩).1 (len+(Qa L 2 ⟨fr,0⟩).1) (Qa L 2 ⟨fr,0⟩).2:=by
 conv=>lhs;unfold Qw
 (have hm:Qd (decide ((len:Int)<room)) 13 ⟨fr,0⟩=(true,⟨fr,0⟩):=by unfold Qd;simp [h]);rw [hm];simp
theorem Q07 {room:Int} {L:List Bool} {f len fr:Nat} (h:room<=len):Qw room L (f+1) 3 len ⟨fr,0⟩=(len,⟨fr,13⟩):=by
 conv=>lhs;unfold Qw
 (have hm:Qd (decide ((len:Int)<room)) 13 ⟨fr,0⟩=(false,⟨fr,13⟩):=by unfold Qd;simp;omega);rw [hm];simp
theorem eq3 (k:Nat):((k:Int) == 3)=decide (k=3):=by rw [Bool.eq_iff_iff];simp;omega
theorem Q26 (k:Nat) (h:k<4):wrap64 (k:Int)=k:=by unfold wrap64;omega
theorem Q1l {sy:Int} {L:List Bool} {f left fr:Nat} {N:List Int} {ran:Bool} (h:0<left) (h2:sy<=N.length):Qr sy L (f+1) left N ran ⟨fr,0⟩=(N,⟨fr,13⟩):=by
 (have hm:Qd (decide ((N.length:Int)<sy)) 13 ⟨fr,0⟩=(false,⟨fr,13⟩):=by unfold Qd;simp;omega);rw [Za sy L f left N ran _ h (by rw [hm]),hm]
theorem Q3b {sy:Int} {N:List Int} {fr:Nat} (h:(N.length:Int)<sy):(Qd (decide ((N.length:Int)<sy)) 13 ⟨fr,0⟩).1=true:=by unfold Qd;simp [h]
theorem Q27 (F:Nat->Prop) (g:Nat) (L:List Bool) (fr left:Nat) (sy:Int) (w:World) (h:Y8 w F g L fr) (hl:left<=512) (hsy:sy<=256) (hL:L.length<=2^40) (hFg:∀b,F b->b≠g) (hFw:∀b,F b->b<w.heap.size) (hgw:g<w.heap.size) :
   Calls Tryz.prog 102 #[.pointer (some ⟨g,0,none⟩),.int .i64 left,.int .i64 sy] w fun e w' =>
     ∃v:Value,e = .returned (.tuple #[v,.int .i64 (Qr sy L 600 left [] false ⟨fr,0⟩).2.e])/\Upd (fun b=>b=g) w w' /\
       ((Qr sy L 600 left [] false ⟨fr,0⟩).2.e=0->Own w' 3 v (Q1 (Qr sy L 600 left [] false ⟨fr,0⟩).1)/\(∀b,v.ownBlock=some b->w.heap.size<=b)/\Y8 w' F g L (Qr sy L 600 left [] false ⟨fr,0⟩).2.fr /\
         (Qr sy L 600 left [] false ⟨fr,0⟩).1.length<=1000):=by
 obtain⟨T,hT⟩:=nm_ (Qr sy L 600 left [] false ⟨fr,0⟩);rw [<-hT];have HT:=hd_ hT.symm;have HR:=hd_ h;have HFG:=hd_ hFg;have hget:=fun fr' m W (hW:Y8 W F g L fr') h1 h2=>Q4a F g L fr' m W hW h1 h2 hL hFg;have HGET:=hd_ hget;have hfst:=fun fr' n W (hW:Y8 W F g L fr') h1=>Zu F g L fr' n W hW h1 hL hFg;have HFST:=hd_ hfst;have HFW:=hd_ hFw;(have hlI:(left:Int)<=512:=by omega)
 have hbad:∀(q:Int) (W:World),Upd (fun b=>b=g) w W->T.2.e=q->q≠0->∃v:Value,Ending.returned (.tuple #[.slice none 0 0,.int .i64 q]) = .returned (.tuple #[v,.int .i64 T.2.e])/\Upd (fun b=>b=g) w W /\
       (T.2.e=0->Own W 3 v (Q1 T.1)/\(∀b,v.ownBlock=some b->w.heap.size<=b)/\Y8 W F g L T.2.fr/\T.1.length<=1000):=by
   intro q W hu hq hq0;exact⟨_,by rw [hq],hu,fun h0=>absurd (hq.symm.trans h0) hq0⟩
 have HBAD:=hd_ hbad;clear hT h hFg hget hfst hbad hFw;refine Q6 fun R hR=>?_;go_enter Tryz.func102,Tryz.ntmps102;go_wp2_with fail
 go_loopg [1,8,9] 600 (fun f l s r wr=>∃(lf fr':Nat) (N:List Int) (ran:Bool),l = .int .i64 lf/\r = .bool ran/\Own wr 3 s (Q1 N)/\(∀b,s.ownBlock=some b->w.heap.size<=b)/\Upd (fun b=>b=g) w wr /\
   Y8 wr F g L fr'/\Qr sy L f lf N ran ⟨fr',0⟩=T/\lf<=512/\600<=f+min N.length 257/\N.length<=600)
 case atStart=>exact⟨left,fr,[],false,rfl,rfl,Own.nil _ _,by simp [Value.ownBlock],Upd.refl _ _,HR.out,HT.out,hl,by simp,by simp⟩
 case round =>
   obtain⟨lf,fr',N,ran,rfl,rfl,ho,hob,hu,hr,htot,hlf,hf,hNl⟩:=hrel;obtain⟨A,n,c,rfl,hn⟩:=ho.form';(have hnN:n=N.length:=by have:=hn.out;simpa using this);have HO:=hd_ ho;have HOB:=hd_ hob;have HU:=hd_ hu;have HRR:=hd_ hr;have HTOT:=hd_ htot;have HNN:=hd_ hnN;(have hnI:(n:Int)<=600:=by omega);(have hlfI:(lf:Int)<=512:=by omega);clear ho hob hu hr htot hn hnN;by_cases hl0:0<lf
   . obtain⟨f,rfl⟩:∃f,gk=f+1:=⟨gk-1,by omega⟩
     (have hl0I:0<(lf:Int):=by omega);by_cases hfull:sy<=n
     . have ht:=HTOT.out
       rw [Q1l hl0 (by rw [<-HNN.out];exact hfull)]at ht;(have he:T.2.e=13:=by rw [<-ht]);have HE:=hd_ he;clear ht he;go_wp2_with fail;(try go_ret2);exact hR.out _ _ (HBAD.out 13 _ HU.out HE.out (by omega))
     (have hroom:(n:Int)<sy:=by omega);have hm1:=Q3b (fr:=fr') (N:=N) (sy:=sy) (by rw [<-HNN.out];exact hroom);have hgg:=HGET.out fr' (lf+2) wr HRR.out (by omega) (by omega);have hyl:=Kj L (lf+2) ⟨fr',0⟩ (by omega) (by omega);obtain⟨Y,hY⟩:=nm_ (QS L (lf+2) ⟨fr',0⟩);rw [<-hY]at hgg hyl;obtain⟨y,fr6,e6⟩:=Y;simp only at hgg hyl;rw [show((lf+2:Nat):Int)=(lf:Int)+2 by omega]at hgg;have HG:=hd_ hgg;have HY:=hd_ hY.symm;have HM1:=hd_ hm1;(have hyI:(y:Int)<=513:=by omega);clear hgg hY hm1 hfull;by_cases he6:e6=0
     . subst he6
       by_cases hyr:y=1/\ran=true
       . obtain⟨rfl,rfl⟩:=hyr
         have hm2:Qd (((1:Nat):Int)-1 != 0 || !true) 13 ⟨fr6,0⟩=(false,⟨fr6,13⟩):=rfl;have ht:=Jh sy L f lf N true ⟨fr',0⟩ 1 ⟨fr6,0⟩ hl0 HM1.out HY.out (by rw [hm2]);rw [HTOT.out,hm2]at ht;(have he:T.2.e=13:=by rw [ht]);have HE:=hd_ he;clear ht he hm2;go_wp2_with fail;refine HG.out.mono ?_;rintro e w1 ⟨rfl,u1,r1⟩;have U1:=hd_ (HU.out.trans' u1);clear u1 r1;go_wp2_with fail;(try go_ret2);exact hR.out _ _ (HBAD.out 13 _ U1.out HE.out (by omega))
       have hm2:Qd ((y:Int)-1 != 0 || !ran) 13 ⟨fr6,0⟩=(true,⟨fr6,0⟩):=by
         have hb:((y:Int)-1 != 0 || !ran)=true:=by
           by_cases h1:y=1
           . have:ran=false:=by
               cases ran with
               | false=>rfl
               | true=>exact absurd ⟨h1,rfl⟩ hyr
             rw [this];simp
           (have:((y:Int)-1 != 0)=true:=by simp;omega);rw [this];rfl
         unfold Qd;simp [hb]
       (have hm21:(Qd ((y:Int)-1 != 0 || !ran) 13 ⟨fr6,0⟩).1=true:=by rw [hm2]);(have hlen1:(Q1 N).length+1<=2^40:=by simp;omega);have HLEN1:=hd_ hlen1;(have hyw:((y:Int) == 1)=decide (y=1):=by rw [Bool.eq_iff_iff];simp;omega);by_cases hy1:y=1
       . have hran:ran=false:=by
           cases ran with
           | false=>rfl
           | true=>exact absurd ⟨hy1,rfl⟩ hyr
         subst hy1 hran;have ht:=ZV sy L f lf N false ⟨fr',0⟩ 1 ⟨fr6,0⟩ hl0 HM1.out HY.out hm21 rfl;rw [HTOT.out]at ht;have HTZ:=hd_ ht.symm;have hsta:=hd_ (fun W=>Zv 0 W);clear ht hm2 hm21 hyr hlen1 hyw;go_wp2_with fail;refine HG.out.mono ?_;rintro e w1 ⟨rfl,u1,r1⟩;have o1:=HO.out.upd u1 (fun b hb h=>by have:=HOB.out b hb;omega);have O1:=hd_ o1;have U1:=hd_ (HU.out.trans' u1);have R1:=hd_ r1;clear u1 r1 o1 HG;go_wp2_with (at_builtin;go_must (refine Yl _ rfl (.tmp 37) (.tmp 40) _ rfl 3 _ 8 Tryz.underlying27 Yx rfl _ _ rfl (O1.out.alloc _) _ 1 _ _ rfl (Rd.one w1 3 (.int .i64 0)) (by simp [Value.oneCell']) (by omega) HLEN1.out ?_));intro v2 w2 o2 g2 a2;rw [show Q1 N++[.int .i64 0]=Q1 (N++[0]) by simp [Q1]]at o2;have b2:∀kk,v2.ownBlock=some kk->w.heap.size<=kk:=Zb (S:=fun kk=>w.heap.size<=kk) a2 HOB.out (by have:=U1.out.size;simp;omega);have u2:Upd (fun b=>b=g) w w2:=(U1.out.alloc _).grown g2 (fun kk hkk hlt=>by have:=HOB.out kk hkk;omega);have ug:Upd (fun b=>(Value.slice A n c).ownBlock=some b) w1 w2:=((Upd.refl _ w1).alloc _).grown g2 (fun kk hkk _=>hkk);have r2:Y8 w2 F g L fr6:=R1.out.upd ug (fun h=>by have:=HOB.out g h;omega) (fun b hb hF h=>by have:=HOB.out b h;have:=HFW.out b hF;omega);obtain⟨Z,hZ⟩:=nm_ (Qw (sy-(N.length+1:Nat)) L 300 3 0 ⟨fr6,0⟩);rw [<-hZ]at HTZ;have HZ:=hd_ hZ;have O2:=hd_ o2;have B2:=hd_ b2;have U2:=hd_ u2;have R2:=hd_ r2;clear o2 g2 a2 b2 u2 ug r2 hZ O1 U1 R1 HLEN1;go_wp2_with fail;refine(hsta.out _).mono ?_;rintro e w3 ⟨rfl,rfl⟩;go_wp2_with fail
         go_loopg [8,12] 300 (fun f2 s mo wr=>∃(kk len fr2:Nat),mo = .bool (decide (kk=3))/\Own wr 3 s (Q1 (N++[0]++List.replicate len 0))/\(∀b,s.ownBlock=some b->w.heap.size<=b)/\Upd (fun b=>b=g) w wr /\
           Y8 wr F g L fr2/\Qw (sy-(N.length+1:Nat)) L f2 kk len ⟨fr2,0⟩=Z/\(kk=3->900<=3*f2+len)/\len<=260/\kk<4)
         case atStart=>exact⟨3,0,fr6,rfl,by simpa using O2.out,B2.out,U2.out,R2.out,HZ.out.symm,by omega,by omega,by omega⟩
         case round =>
           obtain⟨kk,len,fr2,rfl,ho,hob,hu,hr,hno,h900,hlen,hk4⟩:=hrel;obtain⟨A5,n5,c5,rfl,hn5⟩:=ho.form';(have hn5':(n5:Int)=(n:Int)+1+len:=by have h1:=hn5.out;have h2:=HNN.out;simp at h1;omega);have HO5:=hd_ ho;have HOB5:=hd_ hob;have HU5:=hd_ hu;have HR5:=hd_ hr;have HNO:=hd_ hno;have H900:=hd_ h900;have HLEN5:=hd_ hlen;have HN5:=hd_ hn5';(have hn5I:(n5:Int)<=1000:=by omega);clear ho hob hu hr hno h900 hn5 hn5' hlen;by_cases hk3:kk=3
           . subst hk3
             obtain⟨f2,hf2⟩:∃f2,gk=f2+1:=⟨gk-1,by have:=H900.out rfl;have:=HLEN5.out;omega⟩;subst hf2;by_cases hfull2:sy<=n5
             . have hno:=HNO.out
               rw [Q07 (by have:=HN5.out;have:=HNN.out;omega)]at hno
               have he:T.2.e=13:=by
                 have h1:=HTZ.out;rw [<-hno,]at h1;rw [<-h1,KQ (by simp)]
               have HE:=hd_ he;clear hno he;go_wp2_with fail;(try go_ret2);exact hR.out _ _ (HBAD.out 13 _ HU5.out HE.out (by omega))
             (have hroom2:(n5:Int)<sy:=by omega);have hno:=HNO.out;rw [Q1k (by have:=HN5.out;have:=HNN.out;omega)]at hno;have hf5:=HFST.out fr2 2 _ HR5.out (by omega);have hxl:=YL L 2 ⟨fr2,0⟩
             have hxx:Qa L 2 ⟨fr2,0⟩=(0,⟨fr2,3⟩)\/∃k5,Qa L 2 ⟨fr2,0⟩=(k5,⟨fr2+2,0⟩):=by
               by_cases hs:fr2+2<=L.length
               . exact .inr ⟨_,Km hs⟩
               exact .inl (Kn (by omega))
             generalize Qa L 2 ⟨fr2,0⟩=X at *;clear hfull2;rcases hxx with hxx|⟨k5,hxx⟩
             . subst hxx
               simp only at hno hf5;rw [Zn (by omega)]at hno
               have he:T.2.e=3:=by
                 have h1:=HTZ.out;rw [<-hno]at h1;rw [<-h1,KQ (by simp)]
               have HE:=hd_ he;have HF5:=hd_ hf5;clear hno he hf5 hxl;go_wp2_with fail;refine HF5.out.mono ?_;rintro e w5 ⟨rfl,u5,r5⟩;have U5:=hd_ (HU5.out.trans' u5);clear u5 r5;go_wp2_with fail;(try go_ret2);exact hR.out _ _ (HBAD.out 3 _ U5.out HE.out (by omega))
             subst hxx;simp only at hno hf5 hxl;have HF5:=hd_ hf5;have HNO5:=hd_ hno;(have hk5I:(k5:Int)<4:=by omega);have HK5W:=hd_ (Q26 k5 (by omega));have hk5d:=eq3 k5;have HK5D:=hd_ hk5d;clear hno hf5 hxl hk5d;go_wp2_with fail;refine HF5.out.mono ?_;rintro e w5 ⟨rfl,u5,r5⟩;have o5:=HO5.out.upd u5 (fun b hb h=>by have:=HOB5.out b hb;omega);have O5:=hd_ o5;have U5:=hd_ (HU5.out.trans' u5);have R5:=hd_ r5;clear u5 r5 o5;go_wp2_with fail
             go_loopg [8,15] k5 (fun m s j wr=>∃jj:Nat,jj+m=k5/\j = .int .i64 jj/\Own wr 3 s (Q1 (N++[0]++List.replicate (len+jj) 0))/\(∀b,s.ownBlock=some b->w.heap.size<=b)/\Upd (fun b=>b=g) w wr /\
               Y8 wr F g L (fr2+2))
             case atStart=>exact⟨0,by omega,rfl,by simpa using O5.out,HOB5.out,U5.out,R5.out⟩
             case round =>
               obtain⟨jj,hjj,rfl,ho,hob,hu,hr⟩:=hrel;have HJJ:=hd_ hjj;have HO6:=hd_ ho;have HOB6:=hd_ hob;have HU6:=hd_ hu;have HR6:=hd_ hr;(have hlen6:(Q1 (N++[0]++List.replicate (len+jj) 0)).length+1<=2^40:=by have:=HLEN5.out;rw [QU];simp;omega);have HLEN6:=hd_ hlen6;clear hjj ho hob hu hr hlen6;by_cases hjl:jj<k5
               . have hjlI:(jj:Int)<k5:=by omega
                 go_wp2_with (at_builtin;go_must (refine Yl _ rfl (.tmp 69) (.tmp 70) _ rfl 3 _ 8 Tryz.underlying27 Yx rfl _ _ rfl (HO6.out.alloc _) _ 1 _ _ rfl (Rd.one wr 3 (.int .i64 0)) (by simp [Value.oneCell']) (by decide) HLEN6.out ?_));intro v7 w7 o7 g7 a7;(try clear hk5w);have b7:∀q,v7.ownBlock=some q->w.heap.size<=q:=Zb (S:=fun q=>w.heap.size<=q) a7 HOB6.out (by have:=HU6.out.size;simp;omega);have u7:Upd (fun b=>b=g) w w7:=(HU6.out.alloc _).grown g7 (fun q hq hlt=>by have:=HOB6.out q hq;omega);have ug:Upd (fun b=>w.heap.size<=b) wr w7:=((Upd.refl _ wr).alloc _).grown g7 (fun q hq _=>HOB6.out q hq);have r7:Y8 w7 F g L (fr2+2):=HR6.out.upd ug (fun h=>by omega) (fun b hb hF h=>by have:=HFW.out b hF;omega);have O7:=hd_ o7;have B7:=hd_ b7;have U7:=hd_ u7;have R7:=hd_ r7;clear o7 g7 a7 b7 u7 ug r7;go_wp2_with fail;go_roundg (gk-1)
                 case measure=>have:=HJJ.out;omega
                 case rel =>
                   refine⟨jj+1,by have:=HJJ.out;omega,by go_num,?_,B7.out,U7.out,R7.out⟩;have h:=O7.out;rw [<-Nat.add_assoc,List.replicate_succ'];simpa [Q1]using h
               (obtain rfl:jj=k5:=by have:=HJJ.out;omega);have hk5w:=HK5W.out;go_wp2_with fail;(try clear hk5w);go_roundg f2
               case measure=>omega
               case rel=>exact⟨jj,len+jj,fr2+2,by rw [<-HK5D.out],HO6.out,HOB6.out,HU6.out,HR6.out,HNO5.out,fun h=>by have:=H900.out (by trivial);omega,by have:=HN5.out;omega,by omega⟩
           (have hk3':decide (kk=3)=false:=by simpa using hk3);have hno:=HNO.out;rw [Zn hk3]at hno;have htz:=HTZ.out;rw [<-hno]at htz;have HTZ2:=hd_ htz;clear hno htz;go_wp2_with fail;go_roundg f
           case measure=>omega
           case rel=>exact⟨lf,fr2,_,true,rfl,rfl,HO5.out,HOB5.out,HU5.out,HR5.out,HTZ2.out,by omega,by have:=HNN.out;simp;omega,by have:=HNN.out;have:=HLEN5.out;have:=HN5.out;simp;omega⟩
       (have hz1:-1<=(y:Int)-1:=by omega);(have hne:(y:Int)-1≠0:=by omega);have ht:=KP sy L f lf N ran ⟨fr',0⟩ y ⟨fr6,0⟩ hl0 HM1.out HY.out hm21 hne;rw [HTOT.out]at ht;have HTZ:=hd_ ht.symm;have hsta:=fun W=>Zv ((y:Int)-1) W
       have ha:(if(y:Int)-1=-1 then 1 else(y:Int)-1)=QZ ((y:Int)-1):=by
         unfold QZ;by_cases h:(y:Int)-1=-1
         . rw [if_pos h,if_pos (by omega)];omega
         rw [if_neg h,if_neg (by omega)]
       simp only [ha]at hsta;(have hsub:(lf:Int)-QZ ((y:Int)-1)=((lf-((y:Int)-1).natAbs:Nat):Int):=by unfold QZ;split<;>omega);(have hq1:QZ ((y:Int)-1)<=512:=by unfold QZ;split<;>omega);have hq0:=JG ((y:Int)-1);obtain⟨q,hq⟩:=nm_ (QZ ((y:Int)-1));simp only [<-hq]at hsta hsub hq1 hq0;have HSTA:=hd_ hsta;have HSUB:=hd_ hsub;(have hyf:((y:Int) == 1)=false:=by simp;omega);(have hlf2:lf-((y:Int)-1).natAbs<=512:=by omega);have HLF2:=hd_ hlf2;clear ht hm2 hm21 hyr hlen1 hyw hsta hsub ha hq hne hy1 hlf2;go_wp2_with fail;refine HG.out.mono ?_;rintro e w1 ⟨rfl,u1,r1⟩;have o1:=HO.out.upd u1 (fun b hb h=>by have:=HOB.out b hb;omega);have O1:=hd_ o1;have U1:=hd_ (HU.out.trans' u1);have R1:=hd_ r1;clear u1 r1 o1 HG;go_wp2_with (at_builtin;go_must (refine Yl _ rfl (.tmp 37) (.tmp 40) _ rfl 3 _ 8 Tryz.underlying27 Yx rfl _ _ rfl (O1.out.alloc _) _ 1 _ _ rfl (Rd.one w1 3 (.int .i64 ((y:Int)-1))) (by simp [Value.oneCell']) (by omega) HLEN1.out ?_));intro v2 w2 o2 g2 a2;rw [show Q1 N++[.int .i64 ((y:Int)-1)]=Q1 (N++[(y:Int)-1]) by simp [Q1]]at o2;have b2:∀kk,v2.ownBlock=some kk->w.heap.size<=kk:=Zb (S:=fun kk=>w.heap.size<=kk) a2 HOB.out (by have:=U1.out.size;simp;omega);have u2:Upd (fun b=>b=g) w w2:=(U1.out.alloc _).grown g2 (fun kk hkk hlt=>by have:=HOB.out kk hkk;omega);have ug:Upd (fun b=>(Value.slice A n c).ownBlock=some b) w1 w2:=((Upd.refl _ w1).alloc _).grown g2 (fun kk hkk _=>hkk);have r2:Y8 w2 F g L fr6:=R1.out.upd ug (fun h=>by have:=HOB.out g h;omega) (fun b hb hF h=>by have:=HOB.out b h;have:=HFW.out b hF;omega);have O2:=hd_ o2;have B2:=hd_ b2;have U2:=hd_ u2;have R2:=hd_ r2;clear o2 g2 a2 b2 u2 ug r2 O1 U1 R1 HLEN1;go_wp2_with fail;refine(HSTA.out _).mono ?_;rintro e w3 ⟨rfl,rfl⟩;go_wp2_with fail;go_loopg [8,12] 0 (fun m s mo wr=>wr=w2/\s=v2/\mo = .bool false)
       case atStart=>exact⟨rfl,rfl,rfl⟩
       case round =>
         obtain⟨rfl,rfl,rfl⟩:=hrel;go_wp2_with fail;go_roundg f
         case measure=>omega
         case rel=>exact⟨lf-((y:Int)-1).natAbs,fr6,_,false,by rw [<-HSUB.out],rfl,O2.out,B2.out,U2.out,R2.out,HTZ.out,HLF2.out,by have:=HNN.out;simp;omega,by have:=HNN.out;simp;omega⟩
     (have hm2:Qd ((y:Int)-1 != 0 || !ran) 13 ⟨fr6,e6⟩=(false,⟨fr6,e6⟩):=by unfold Qd;rw [if_neg (by simpa using he6)]);have ht:=Jh sy L f lf N ran ⟨fr',0⟩ y ⟨fr6,e6⟩ hl0 HM1.out HY.out (by rw [hm2]);rw [HTOT.out,hm2]at ht;(have he:T.2.e=e6:=by rw [ht]);have HE:=hd_ he;(have he6':(e6 != 0)=true:=by simpa using he6);have HE6:=hd_ he6;clear ht he hm2 he6;go_wp2_with fail;refine HG.out.mono ?_;rintro e w1 ⟨rfl,u1,r1⟩;have U1:=hd_ (HU.out.trans' u1);clear u1 r1;go_wp2_with fail;(try go_ret2);exact hR.out _ _ (HBAD.out e6 _ U1.out HE.out HE6.out)
   (obtain rfl:lf=0:=by omega)
   have ht:T=(N,⟨fr',0⟩):=by
     rw [<-HTOT.out]
     cases gk with
     | zero=>rfl
     | succ f=>simp [Qr]
   have HTT:=hd_ ht;clear ht;go_wp2_with fail;(try go_ret2);refine hR.out _ _ ⟨.slice A n c,?_,HU.out,fun _=>?_⟩
   . rw [HTT.out];rfl
   rw [HTT.out];exact⟨HO.out,HOB.out,HRR.out,by simp only;omega⟩
end Go.Proofs.YtjfdaphjijfieaaGreat
