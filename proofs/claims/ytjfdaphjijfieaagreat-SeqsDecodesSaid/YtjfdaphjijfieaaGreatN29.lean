/-
  Joined texts, part 29: contracts and plain lemmas.
  Conditions: none beyond those of each theorem.
-/
import Derived.Test.YtjfdaphjijfieaaGreatN27
import Derived.Test.YtjfdaphjijfieaaGreatN18
set_option maxHeartbeats 400000
set_option linter.unusedVariables false
set_option linter.unusedSimpArgs false
set_option maxRecDepth 100000
universe u
namespace Go.Proofs.YtjfdaphjijfieaaGreat
open Go.RowKit
theorem Q3G (r b:Nat) (hb:b<=9) (hr:r<18446744073709551616):bits .and .u64 (r:Int) (IntKind.u64.wrap (IntKind.u64.wrap (2^b)-1))=((r%2^b:Nat):Int):=by
 have hp:2^b<=512:=Nat.le_trans (Nat.pow_le_pow_right (by decide) hb) (by decide);have hpp:=Nat.two_pow_pos b;(have e0:((2:Int)^b)=((2^b:Nat):Int):=by simp)
 have e1:IntKind.u64.wrap (IntKind.u64.wrap (2^b)-1)=((2^b-1:Nat):Int):=by
   rw [IntKind.wrap_u64,IntKind.wrap_u64,e0];omega
 rw [e1,u64_and_nat _ _ (by omega) (by omega),Nat.and_two_pow_sub_one_eq_mod]
theorem Q2A (p:Nat) (h:p<=9):Lib.bitLen (2^p)=p+1:=by
 (have:∀q:Fin 10,Lib.bitLen (2^q.val)=q.val+1:=by decide);exact this ⟨p,by omega⟩
def QV (w:World) (F:Nat->Prop) (g p:Nat) (N:List Int):Prop :=
  ∃vc vp PL,Blk w g 234 #[vc,vp]/\QA w 217 3 vc ((QM p N).map tri)/\Own w 27 vp PL/\PL.length=N.length /\
    (∀(i:Nat) u,PL[i]?=some u->Own w 3 u (Yu (JE (Q7 p N) (i:Nat) (2^p)))/\∀b,u.ownBlock=some b->F b) /\
    (∀b,vc.ownBlock=some b->F b)/\(∀b,vp.ownBlock=some b->F b)/\F g
theorem QV.upd {S F:Nat->Prop} {w w':World} {g p:Nat} {N:List Int} (h:QV w F g p N) (hu:Upd S w w') (hs:∀b,F b->b<w.heap.size->¬S b):QV w' F g p N:=by
 obtain⟨vc,vp,PL,h1,h2,h3,h4,h5,h6,h7,h8⟩:=h
 exact⟨vc,vp,PL,h1.upd hu (hs g h8 h1.lt),h2.upd hu (fun b hb=>hs b (h6 b hb) (h2.lt hb)),h3.upd hu (fun b hb=>hs b (h7 b hb) (h3.lt hb)),h4,
   fun i u hi=>⟨(h5 i u hi).1.upd hu (fun b hb=>hs b ((h5 i u hi).2 b hb) ((h5 i u hi).1.lt hb)),(h5 i u hi).2⟩,h6,h7,h8⟩
theorem QV.fresh {F:Nat->Prop} {w w':World} {g p:Nat} {N:List Int} (h:QV w F g p N) (hu:Q0 w w'):QV w' F g p N:=h.upd hu fun _ _ _ h=>h
theorem QV.mono {F G:Nat->Prop} {w:World} {g p:Nat} {N:List Int} (h:QV w F g p N) (hFG:∀b,F b->b<w.heap.size->G b):QV w G g p N:=by
 obtain⟨vc,vp,PL,h1,h2,h3,h4,h5,h6,h7,h8⟩:=h;exact⟨vc,vp,PL,h1,h2,h3,h4,fun i u hi=>⟨(h5 i u hi).1,fun b hb=>hFG b ((h5 i u hi).2 b hb) ((h5 i u hi).1.lt hb)⟩,fun b hb=>hFG b (h6 b hb) (h2.lt hb),fun b hb=>hFG b (h7 b hb) (h3.lt hb),hFG g h8 h1.lt⟩
theorem Ve.f {w:World} {base g p:Nat} {N:List Int} (h:Ve w base g p N):QV w (fun b=>base<=b/\b<w.heap.size) g p N :=
 (show QV w (fun b=>base<=b) g p N from h).mono fun b h1 h2=>⟨h1,h2⟩
theorem QV.open_ {w:World} {F:Nat->Prop} {g p:Nat} {N:List Int} (h:QV w F g p N):∃A c vp,w.cell? ⟨g,0,none⟩=some (.slice A (2^p) c)/\w.cell? ⟨g,1,none⟩=some vp/\2^p<=c/\RdK w F 3 A (2^p) ((QM p N).map tri):=by
 obtain⟨vc,vp,PL,h1,h2,h3,h4,h5,h6,h7,h8⟩:=h;obtain⟨A,c,rfl,hc,hrd⟩:=h2.form;(have hl:((QM p N).map tri).length=2^p:=by simp);rw [hl]at hrd hc h1 h6;exact⟨A,c,vp,by simpa using h1.cell 0,by simpa using h1.cell 1,hc,hrd.mono h6⟩
theorem XM (F:Nat->Prop) (g p:Nat) (N:List Int) (w:World) (h:QV w F g p N):Calls Tryz.prog 128 #[.pointer (some ⟨g,0,none⟩)] w fun e w'=>e = .returned (.bool false)/\w'=w:=by
 obtain⟨A,c,vp,h1,h2,h3,h4⟩:=h.open_;have hp:=Nat.two_pow_pos p;(have hp1:¬2^p=0:=by omega);generalize 2^p=s at *;(have hpJ:((s:Int) == 0)=false:=by simp;omega);go_enter Tryz.func128,Tryz.ntmps128;go_wp2_with fail;(try go_ret);(first|exact⟨rfl,rfl⟩|(refine⟨?_,rfl⟩;simp [hp1]))
theorem Q5N (F:Nat->Prop) (g p:Nat) (N:List Int) (w:World) (h:QV w F g p N) (hp:p<=9):Calls Tryz.prog 81 #[.pointer (some ⟨g,0,none⟩)] w fun e w'=>e = .returned (.int .i64 (p:Nat))/\w'=w:=by
 have HN:=hd_ (XM F g p N w h);obtain⟨A,c,vp,h1,h2,h3,h4⟩:=h.open_;have hpw:2^p<=512:=Nat.le_trans (Nat.pow_le_pow_right (by decide) hp) (by decide);have hbl:=Q2A p hp;have hpp:=Nat.two_pow_pos p;generalize 2^p=s at *;have hbc:=fun W=>Tryz.bits_Len (s:Int) W (by omega) (by omega);rw [Int.toNat_natCast,hbl]at hbc;have HBC:=hd_ hbc;(have s6:IntKind.u64.wrap (s:Int)=s:=by unfold IntKind.wrap;simp [IntKind.bits];omega);(have s7:IntKind.i64.wrap (((p+1:Nat):Int)-1)=p:=by rw [IntWalk.i64_in _ (by omega)];omega);clear hbc h h3 h4;refine Q6 fun R hR=>?_;go_enter Tryz.func81,Tryz.ntmps81;go_wp2_with fail;refine HN.out.mono ?_;rintro e w1 ⟨rfl,rfl⟩;go_wp2_with fail;refine(HBC.out _).mono ?_;rintro e w1 ⟨rfl,rfl⟩;go_wp2_with fail;(try go_ret);exact hR.out _ _ ⟨rfl,rfl⟩
theorem Q3H (F:Nat->Prop) (g p st:Nat) (N:List Int) (w:World) (h:QV w F g p N) (hs:st<2^p):Calls Tryz.prog 130 #[.pointer (some ⟨g,0,none⟩),.int .i64 (st:Nat)] w fun e w'=>e = .returned (.int .i64 0)/\w'=w:=by
 have HN:=hd_ (XM F g p N w h);obtain⟨A,c,vp,h1,h2,h3,h4⟩:=h.open_;generalize 2^p=s at *;(have hsI:¬(s:Int)<=st:=by omega);(have hs0:¬(st:Int)<0:=by omega);clear h h3 h4;refine Q6 fun R hR=>?_;go_enter Tryz.func130,Tryz.ntmps130;go_wp2_with fail;refine HN.out.mono ?_;rintro e w1 ⟨rfl,rfl⟩;go_wp2_with fail;(try go_ret);exact hR.out _ _ ⟨rfl,rfl⟩
theorem KB (F:Nat->Prop) (g p st:Nat) (N:List Int) (w:World) (h:QV w F g p N) (hs:st<2^p):Calls Tryz.prog 153 #[.pointer (some ⟨g,0,none⟩),.int .i64 (st:Nat)] w fun e w' =>
   e = .returned (.tuple #[.agg #[.int .i64 (QQ p N (Q7 p N) st).1,.int .i64 (QQ p N (Q7 p N) st).2.1,.int .i64 (QQ p N (Q7 p N) st).2.2],.int .i64 0])/\Q0 w w':=by
 obtain⟨w0,hw0⟩:=nm_ (w.alloc (.cells #[.int .i64 0,.int .i64 0,.int .i64 0] 217));obtain⟨H,hH⟩:=nm_ (w.heap.size);(have f0:Q0 w w0:=by rw [hw0];exact(Upd.refl _ _).alloc _);(have br:Blk w0 H 217 #[.int .i64 0,.int .i64 0,.int .i64 0]:=by rw [hw0];exact Q2 hH _ _);have h0:=h.fresh f0;have HST:=hd_ (Q3H F g p st N w0 h0 hs);obtain⟨A,c,vp,h1,h2,h3,h4⟩:=h0.open_;obtain⟨b,o,rfl,_,_,hc⟩:=h4.at_ (r:=0) hs
 have hget:((QM p N).map tri)[st]'(by simpa using hs)=tri (QQ p N (Q7 p N) st):=by
   rw [List.getElem_map];unfold QM;rw [List.getElem_map,List.getElem_range]
 rw [hget]at hc;have c0:=hc 0 (by omega);have c1:=hc 1 (by omega);have c2:=hc 2 (by omega);simp [tri]at c0 c1 c2;clear hc hget h3 h4 h h0 h2;generalize 2^p=s at *;generalize QQ p N (Q7 p N) st=t at *;(have hsI:(st:Int)<s:=by omega);(have hs0:(0:Int)<=st:=by omega);have r0:=br.cell 0;have r1:=br.cell 1;have r2:=br.cell 2;have z0:=br.frozen 0;have z1:=br.frozen 1;have z2:=br.frozen 2;simp at r0 r1 r2;have BR:=hd_ br;have F0:=hd_ f0;have HW:=hd_ hw0;have HH:=hd_ hH;clear hw0 hH f0 br;refine Q6 fun R hR=>?_;go_enter Tryz.func153,Tryz.ntmps153;go_upto_region 1 with fail;simp only [<-HH.out,<-HW.out];go_wp2_with fail;refine HST.out.mono ?_;rintro e w1 ⟨rfl,rfl⟩;go_wp2_with fail;refine bodyPost_ret (Q5 rfl _ _ H _ _ _ rfl (((BR.out.set_ 0 (.int .i64 t.1)).set_ 1 (.int .i64 t.2.1)).set_ 2 (.int .i64 t.2.2)) Tryz.underlying217 rfl (by kernel_rfl)) rfl ?_
 have u3:Upd (fun b=>b=H) w1 (((w1.setCell ⟨H,0,none⟩ (.int .i64 t.1)).setCell ⟨H,1,none⟩ (.int .i64 t.2.1)).setCell ⟨H,2,none⟩ (.int .i64 t.2.2)) :=
   (((Upd.refl (fun b=>b=H) w1).setCell (p:=⟨H,0,none⟩) (fun _=>rfl) _).setCell (p:=⟨H,1,none⟩) (fun _=>rfl) _).setCell (p:=⟨H,2,none⟩) (fun _=>rfl) _
 exact hR.out _ _ ⟨rfl,F0.out.trans u3 (fun b hb h=>by have:=HH.out;omega)⟩
theorem Q3I (sy base:Int) (b r:Nat) (w:World) (hb:b<=9) (hb0:0<=base/\base<=512) (hr:r<18446744073709551616):Calls Tryz.prog 188 #[.agg #[.int .i64 sy,.int .i64 (b:Nat),.int .i64 base],.int .u64 (r:Nat)] w fun e w' =>
   e = .returned (.int .i64 (base+((r%2^b:Nat):Int)))/\Q0 w w':=by
 have hand:=Q3G r b hb hr;have hp5:2^b<=512:=Nat.le_trans (Nat.pow_le_pow_right (by decide) hb) (by decide);have hml:r%2^b<2^b:=Nat.mod_lt _ (Nat.two_pow_pos b);obtain⟨w0,hw0⟩:=nm_ (w.alloc (.cells #[.int .i64 sy,.int .i64 (b:Nat),.int .i64 base] 217));obtain⟨H,hH⟩:=nm_ (w.heap.size);(have f0:Q0 w w0:=by rw [hw0];exact(Upd.refl _ _).alloc _);(have br:Blk w0 H 217 #[.int .i64 sy,.int .i64 (b:Nat),.int .i64 base]:=by rw [hw0];exact Q2 hH _ _);have r1:=br.cell 1;have r2:=br.cell 2;simp at r1 r2;have F0:=hd_ f0;have HW:=hd_ hw0;have HH:=hd_ hH;clear hw0 hH f0 br;(have hmx:max (b:Int) 0=b:=by omega);have HAND:=hd_ hand;clear hand;(have hmn:min (b:Int) 62=b:=by omega);refine Q6 fun R hR=>?_;go_enter Tryz.func188,Tryz.ntmps188;go_upto_region 1 with fail;simp only [<-HH.out,<-HW.out];go_quiet (fail);go_wp2_with fail;(try go_ret);have e3:wrap64 (((r%2^b:Nat):Nat):Int)=((r%2^b:Nat):Int):=YH _ (by omega);(have e4:wrap64 (base+((r%2^b:Nat):Int))=base+((r%2^b:Nat):Int):=by unfold wrap64;omega);refine hR.out _ _ ⟨?_,F0.out.drewN _⟩;rw [HAND.out,e3,e4];rfl
theorem Q4O (F:Nat->Prop) (g p st r:Nat) (N:List Int) (w:World) (h:QV w F g p N) (hs:st<2^p) (hv:Qg p N 256 9) (hr:r<18446744073709551616):Calls Tryz.prog 154 #[.pointer (some ⟨g,0,none⟩),.int .i64 (st:Nat),.int .u64 (r:Nat)] w fun e w' =>
   e = .returned (.tuple #[.int .i64 ((QQ p N (Q7 p N) st).2.2+((r%2^(YB p N (Q7 p N) st).toNat:Nat):Int)),.int .i64 0])/\Q0 w w':=by
 have HC:=hd_ (KB F g p st N w h hs);obtain⟨c,h1,h2,h3,h4,h5,h6,h7,h8⟩:=Vd hv hs;(have hp:p<=9:=by have:=hv.2.1;omega);(have hb9:(YB p N (Q7 p N) st).toNat<=9:=by omega);have hp5:2^p<=512:=Nat.le_trans (Nat.pow_le_pow_right (by decide) hp) (by decide);(have e0:((2:Int)^p)=((2^p:Nat):Int):=by simp);have hpos:(0:Int)<=2^(YB p N (Q7 p N) st).toNat:=Int.pow_nonneg (by decide);have HN:=hd_ (fun W=>Q3I (QQ p N (Q7 p N) st).1 (QQ p N (Q7 p N) st).2.2 (YB p N (Q7 p N) st).toNat r W hb9 (show 0<=Jb p N (Q7 p N) st/\Jb p N (Q7 p N) st<=512 by rw [e0]at h8;omega) hr)
 have e1:(((YB p N (Q7 p N) st).toNat:Nat):Int)=(QQ p N (Q7 p N) st).2.1:=by
   show _=YB p N (Q7 p N) st;omega
 simp only [e1]at HN;clear h h1 h2 h3 h4 h5 h6 h7 h8 hv hpos e1 hb9;generalize (r%2^(YB p N (Q7 p N) st).toNat:Nat)=q at *;generalize QQ p N (Q7 p N) st=t at *;refine Q6 fun R hR=>?_;go_enter Tryz.func154,Tryz.ntmps154;go_wp2_with fail;refine HC.out.mono ?_;rintro e w1 ⟨rfl,f1⟩;have F1:=hd_ f1;clear f1;go_wp2_with fail;refine(HN.out _).mono ?_;rintro e w2 ⟨rfl,f2⟩;have F2:=hd_ f2;clear f2;go_wp2_with fail;(try go_ret);exact hR.out _ _ ⟨rfl,((F1.out.trans' ((Upd.refl _ _).alloc _)).trans' F2.out)⟩
end Go.Proofs.YtjfdaphjijfieaaGreat
