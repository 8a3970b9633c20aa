/-
  Joined texts, part 27: contracts and plain lemmas.
  Conditions: none beyond those of each theorem.
-/
import Derived.Test.YtjfdaphjijfieaaGreatN26
import Derived.Test.YtjfdaphjijfieaaGreatShelf
set_option maxHeartbeats 2000000
set_option linter.unusedVariables false
set_option linter.unusedSimpArgs false
set_option maxRecDepth 100000
universe u
namespace Go.Proofs.YtjfdaphjijfieaaGreat
open Go.RowKit
def Z7 (P:List Int) (i:Nat):Int->Option Int:=fun x=>if YU P i x=0 then none else some (YU P i x:Nat)
theorem Q3E (P:List Int):Z7 P 0=fun _=>none:=by
 funext x
 simp [Z7,YU]
theorem Q4J (P:List Int) (i:Nat) (x:Int):(Z7 P i x).getD 0=(YU P i x:Nat):=by
 unfold Z7;split
 . rename_i h;rw [h];rfl
 rfl
theorem Q4K {P:List Int} {i:Nat} (h:i<P.length):Kr (Z7 P i) P[i] ((YU P i P[i]:Nat)+1)=Z7 P (i+1):=by
 funext x
 unfold Kr Z7;rw [KL h];by_cases hx:x=P[i]
 . subst hx
   rw [if_pos rfl,if_pos rfl,if_neg (by omega)];simp
 have e:(if P[i]=x then 1 else 0)=0:=if_neg (fun q=>hx q.symm);rw [if_neg hx,e];rfl
theorem Q1H (P:List Int) (i:Nat) (x:Int):YU P i x<=i:=by
 unfold YU;exact Nat.le_trans List.count_le_length (List.length_take_le _ _)
theorem Q2z (F:Nat->Prop) (A X:Option Addr) (n c c4 p T1 T6 T4 M cnt bnd i:Nat) (N:List Int) (w:World) (hv:Qg p N 256 9) (hr:Rd w F A n (Q1 N)) (b1:Blk w T1 29 #[.int .i64 p,.slice A n c]) (b6:Blk w T6 268 #[.map (some M)])
   (im:Yc w Tryz.prog 3 3 M bnd cnt (Z7 (Q7 p N) i)) (b4:Blk w T4 27 #[.slice X (2^p) c4]) (hi:i<2^p) (hb:bnd<maxLen) (hd:T1≠M/\T6≠M/\T4≠M) (hF:∀b,F b->b≠M) :
   Calls Tryz.prog 175 #[.int .i64 (JC (Q7 p N) i),.pointer (some ⟨T1,0,none⟩),.pointer (some ⟨T6,0,none⟩),.pointer (some ⟨T4,0,none⟩)] w fun e w' =>
     e = .returned (.agg #[.int .i64 (JC (Q7 p N) i),.int .i64 (YB p N (Q7 p N) i),.int .i64 (Jb p N (Q7 p N) i)])/\(∃cnt',Yc w' Tryz.prog 3 3 M (bnd+1) cnt' (Z7 (Q7 p N) (i+1)))/\Upd (fun b=>b=M) w w':=by
 (have hN:N.length=n:=by have:=hr.1;simpa using this);(have hp:p<=9:=by have:=hv.2.1;omega);have hpw:2^p<=512:=Nat.le_trans (Nat.pow_le_pow_right (by decide) hp) (by decide);obtain⟨s,hs,hsn,hx1,hx2,hb1,hb2,hz1,hz2⟩:=Vd hv hi;(have hlen:i<(Q7 p N).length:=by simpa using hi);have hput:=Q4K hlen
 have hPi:(Q7 p N)[i]=(s:Int):=by
   unfold JC at hs;rw [List.getElem?_eq_getElem hlen]at hs;exact hs
 rw [hPi]at hput;have hcz:=Q1H (Q7 p N) i (s:Int);have hgf:=Q4J (Q7 p N) i (s:Int)
 have hnum:Ja N (Q7 p N) i=max N[s] (-N[s])+YU (Q7 p N) i (s:Int):=by
   unfold Ja;rw [hs,Int.toNat_natCast,List.getElem?_eq_getElem hsn];rfl
 have hz5:=hv.2.2.2.2.2.2.1 _ (List.getElem_mem hsn);(have hs256:s<256:=by have:=hv.2.2.2.2.1;omega)
 have hz6:N[s]<=512:=by
   have h1:=Jo (List.getElem_mem hsn);rw [hv.2.2.2.2.2.2.2]at h1;(have h2:((2:Int)^(p:Int).toNat)=((2^p:Nat):Int):=by simp);unfold QZ at h1;(split at h1<;>omega)
 obtain⟨bb,oo,_,rfl,_,hc⟩:=hr.int (k:=s) (by omega);unfold Jb at hz1 hz2 ⊢;have hbit:YB p N (Q7 p N) i=(p:Int)+1-(Lib.bitLen (Ja N (Q7 p N) i).toNat:Nat):=rfl;rw [hs];generalize Ja N (Q7 p N) i=x at *;generalize YB p N (Q7 p N) i=bz at *;generalize YU (Q7 p N) i (s:Int)=cz at *;(have hcz2:cz<512:=by omega);generalize Z7 (Q7 p N) (i+1)=f2 at *;generalize Z7 (Q7 p N) i=f at *;generalize N[s]=v at *;obtain⟨b,rfl⟩:∃b:Nat,bz=b:=⟨bz.toNat,by omega⟩;rw [Int.toNat_natCast]at hz1 hz2 ⊢;obtain⟨q,hq⟩:=nm_ (2^p);(have hqI:((2:Int)^p)=(q:Nat):=by rw [hq];simp);rw [hqI]at hz1 hz2 ⊢;rw [<-hq]at hpw hi b4;(have hbn:b<=9:=by omega);have hbc:=fun W=>Tryz.bits_Len x W (by omega) (by omega);have HL:Hid ((b:Int)=(p:Int)+1-(Lib.bitLen x.toNat:Nat)):=hd_ hbit;generalize Lib.bitLen x.toNat=L at *;obtain⟨y,hy⟩:=nm_ (x*2^b);rw [<-hy]at hz1 hz2 ⊢;(have h2b:(0:Int)<2^b:=by(have:=Nat.two_pow_pos b;have e:((2:Int)^b)=((2^b:Nat):Int):=by simp);omega);obtain⟨H,hH⟩:=nm_ (w.heap.size);obtain⟨w0,hw0⟩:=nm_ (w.alloc (.cells #[.int .i64 0,.int .i64 0,.int .i64 0] 217));(have f0:Q0 w w0:=by rw [hw0];exact(Upd.refl _ _).alloc _);(have br:Blk w0 H 217 #[.int .i64 0,.int .i64 0,.int .i64 0]:=by rw [hw0];exact Q2 hH _ _);have im0:=im.upd f0 (fun h=>h);(have hMH:M<H:=by have:=im.lt;omega);obtain⟨w5,hrun,im5,g5⟩:=im0.run_put (t:=268) Tryz.underlying3 Tryz.underlying268 Tryz.underlying3 hb (key:=(s:Nat)) (val:=(cz:Nat)+1) (KW (by omega)) (KW (by omega));have u5:Upd (fun b=>b=M) w0 w5:=(Upd.refl _ _).grown g5 (fun j e _=>by injection e with e;exact e.symm);rw [hput]at im5;refine Q6 fun R hR=>?_;go_enter Tryz.func175,Tryz.ntmps175;go_upto_region 1 with fail;simp only [<-hH,<-hw0];have c10:=(b1.fresh f0).cell 0;have c11:=(b1.fresh f0).cell 1;have c60:=(b6.fresh f0).cell 0;(have cv:w0.cell? ⟨bb,oo+s,none⟩=some (.int .i64 v):=by rw [f0.cells _ _ (World.block_lt_of_cell? w _ hc)];exact hc);simp at c10 c11 c60;have d10:=((b1.fresh f0).upd u5 (by omega)).cell 0;have b45:=(b4.fresh f0).upd u5 (by omega);have d40:=b45.cell 0;have br5:=br.upd u5 (by omega);have r0:=br5.cell 0;have r1:=br5.cell 1;have r2:=br5.cell 2;have rz0:=br5.frozen 0;have rz1:=br5.frozen 1;have rz2:=br5.frozen 2;simp at d10 d40 r0 r1 r2;(have hsn2:(s:Int)<n:=by omega);have s2:IntKind.i64.wrap (-v)=-v:=IntWalk.i64_in _ (by omega);(have s3:IntKind.i64.wrap (max v (-v)+(cz:Nat))=x:=by rw [hnum];exact IntWalk.i64_in _ (by omega));have s4:IntKind.i64.wrap ((cz:Int)+1)=cz+1:=IntWalk.i64_in _ (by omega);have s5:IntKind.i64.wrap ((p:Int)+1)=p+1:=IntWalk.i64_in _ (by omega)
 (have s6:IntKind.u64.wrap x=x:=by unfold IntKind.wrap;simp [IntKind.bits];omega);(have s7:IntKind.i64.wrap ((p:Int)+1-(L:Nat))=b:=by have:=HL.out;rw [<-this];exact IntWalk.i64_in _ (by omega));(have s8:wrap64 (x*2^b)=y:=by rw [<-hy];unfold wrap64;omega);have s9:IntKind.i64.wrap (y-(q:Nat))=y-q:=IntWalk.i64_in _ (by omega);(have hmx0:0<=max v (-v):=by omega);have HBC:=hd_ hbc;have HIM5:=hd_ im5;have U5:=hd_ u5;have BR5:=hd_ br5;have F0:=hd_ f0;have HH:=hd_ hH;have HMH:=hd_ hMH;clear hw0 br5 b45 b4 b1 b6 im hr hc hput hbc im5 u5 g5 f0 br hH hx1 hx2 hnum hbit hy hq hqI hz1 hz2 h2b hMH hcz hN hb hv hp hpw hz5 hz6;go_wp2_with (at_lookup;refine Zj _ rfl _ _ 268 rfl 3 3 Tryz.underlying3 Tryz.underlying268 Tryz.underlying3 (Tryz.zeroValue3 _) M _ cnt f rfl im0 (s:Nat) rfl (KW (by omega)) ?_);go_quiet ((go_at_call 133;exact Calls.quiet_of_same (HBC.out _)));go_wp2_with fail;refine JT 9 (by kernel_rfl) (by kernel_rfl) ?_;simp only [List.take_succ_cons,List.take_zero,List.drop_succ_cons,List.drop_zero];(repeat(first|go_big_quiet_step (fail)|quiet_step (fail)));refine wpQuiet_nil ?_;rintro w6 ⟨q6,rfl⟩;go_wp2_with fail;refine bodyPost_ret (results_cell_row rfl _ _ H _ _ _ _ rfl ((((BR5.out.drewN (nq+q6)).set_ 0 (.int .i64 (s:Nat))).set_ 1 (.int .i64 (b:Nat))).set_ 2 (.int .i64 (y-(q:Nat)))) Tryz.underlying217 rfl (by kernel_rfl)) rfl ?_
 have u6:Upd (fun b=>b=H) w5 ((((w5.drewN (nq+q6)).setCell ⟨H,0,none⟩ (.int .i64 (s:Nat))).setCell ⟨H,1,none⟩ (.int .i64 (b:Nat))).setCell ⟨H,2,none⟩ (.int .i64 (y-(q:Nat)))) :=
   ((((Upd.refl (fun b=>b=H) w5).drewN (nq+q6)).setCell (p:=⟨H,0,none⟩) (fun _=>rfl) _).setCell (p:=⟨H,1,none⟩) (fun _=>rfl) _).setCell (p:=⟨H,2,none⟩) (fun _=>rfl) _
 exact hR.out _ _ ⟨rfl,⟨_,HIM5.out.upd u6 (by have:=HMH.out;omega)⟩,((F0.out.mono (T:=fun b=>b=M) (fun _ _ h=>h.elim)).trans' U5.out).trans u6 (fun b hb h=>by have:=HH.out;omega)⟩
theorem Q0O:(Tryz.prog.info? 217).map (fun i=>(i.zero,i.size,i.bytes))=some (some (.agg #[.int .i64 0,.int .i64 0,.int .i64 0]),3,24):=by kernel_rfl
def tri (t:Int × Int × Int):List Value:=[.int .i64 t.1,.int .i64 t.2.1,.int .i64 t.2.2]
def ZR (lg:Int) (N:List Int) (w:World) (e:Ending) (w':World):Prop :=
  if Qg lg N 256 9 then ∃v,e = .returned (.tuple #[v,.int .i64 0])/\QA w' 217 3 v ((QM lg.toNat N).map tri)/\(∀b,v.ownBlock=some b->w.heap.size<=b)/\Q0 w w'
  else e = .returned (.tuple #[.slice none 0 0,.int .i64 13])/\Q0 w w'
theorem Q4L (F:Nat->Prop) (A:Option Addr) (n c:Nat) (lg:Int) (N:List Int) (w:World) (hr:Rd w F A n (Q1 N)) (hfit:Fit N) (hn:(n:Int)<=1099511627776) (hv:¬Qg lg N 256 9) :
   Calls Tryz.prog 125 #[.agg #[.int .i64 lg,.slice A n c]] w fun e w'=>e = .returned (.tuple #[.slice none 0 0,.int .i64 13])/\Q0 w w':=by
 obtain⟨w0,hw0⟩:=nm_ (w.alloc (.cells #[.int .i64 lg,.slice A n c] 29));obtain⟨H,hH⟩:=nm_ (w.heap.size);(have f0:Q0 w w0:=by rw [hw0];exact(Upd.refl _ _).alloc _);(have bt:Blk w0 H 29 #[.int .i64 lg,.slice A n c]:=by rw [hw0];exact Q2 hH _ _);have hsp:=Kv F A n c lg N w0 (hr.fresh f0) hfit hn;unfold Jz at hsp;simp only [if_neg hv]at hsp;obtain⟨t0,t1⟩:=(bt).cells2;have HSP:=hd_ hsp;have F0:=hd_ f0;have HW:=hd_ hw0;have HH:=hd_ hH;clear hr hw0 hH f0 bt hsp hv;refine Q6 fun R hR=>?_;go_enter Tryz.func125,Tryz.ntmps125;go_upto_region 1 with fail;simp only [<-HH.out,<-HW.out];go_wp2_with fail;refine HSP.out.mono ?_;rintro e w1 ⟨rfl,f1⟩;have F1:=hd_ ((F0.out.trans' f1).alloc (.cells #[.slice none 0 0] 27));clear f1;go_wp2_with fail;(try go_ret);exact hR.out _ _ ⟨rfl,F1.out⟩
theorem Q4M (F:Nat->Prop) (A:Option Addr) (n c p:Nat) (N:List Int) (w:World) (hr:Rd w F A n (Q1 N)) (hfit:Fit N) (hn:(n:Int)<=1099511627776) (hv:Qg p N 256 9) :
   Calls Tryz.prog 125 #[.agg #[.int .i64 p,.slice A n c]] w fun e w'=>∃v,e = .returned (.tuple #[v,.int .i64 0])/\QA w' 217 3 v ((QM p N).map tri)/\(∀b,v.ownBlock=some b->w.heap.size<=b)/\Q0 w w':=by
 (have hp:p<=9:=by have:=hv.2.1;omega);have hpw:2^p<=512:=Nat.le_trans (Nat.pow_le_pow_right (by decide) hp) (by decide);have hmm:=@run_makeMap Tryz.prog;obtain⟨w0,hw0⟩:=nm_ (w.alloc (.cells #[.int .i64 p,.slice A n c] 29));obtain⟨H,hH⟩:=nm_ (w.heap.size);(have f0:Q0 w w0:=by rw [hw0];exact(Upd.refl _ _).alloc _);(have bt:Blk w0 H 29 #[.int .i64 p,.slice A n c]:=by rw [hw0];exact Q2 hH _ _);have hsp:=Kv F A n c p N w0 (hr.fresh f0) hfit hn;unfold Jz at hsp;simp only [if_pos hv,Int.toNat_natCast]at hsp;obtain⟨t0,t1⟩:=(bt).cells2;have HSP:=hd_ hsp;have HR:=hd_ (fun W (h:Q0 w W)=>hr.both.fresh h);have BT:=hd_ bt;have F0:=hd_ f0;have HW:=hd_ hw0;have HH:=hd_ hH;have HV:=hd_ hv;obtain⟨s,hs⟩:=nm_ (2^p);rw [<-hs]at hpw HSP;have HS:=hd_ hs;obtain⟨P,hP⟩:=nm_ (Q7 p N);rw [<-hP]at HSP;(have hPl:P.length=s:=by rw [hP,hs];simp);have HPL:=hd_ hPl;have HP:=hd_ hP;clear hr hw0 hH f0 bt hsp hv hs hP hPl hp;refine Q6 fun R hR=>?_;go_enter Tryz.func125,Tryz.ntmps125;go_upto_region 1 with fail;simp only [<-HH.out,<-HW.out];go_wp2_with fail;refine HSP.out.mono ?_;rintro e w1 ⟨g,rfl,r1,hg,f1⟩;have b1:=BT.out.fresh f1;have R1:=hd_ r1;have F1:=hd_ (F0.out.trans' f1);have HG:=hd_ (show w.heap.size<=g from by have:=F0.out.size;omega);clear t0 t1 r1 f1 hg;go_upto_region 6 with fail;obtain⟨K,hK⟩:=nm_ (w1.heap.size);obtain⟨w2,hw2⟩:=nm_ (((w1.alloc (.cells #[.slice (some ⟨g,0,none⟩) s s] 27)).alloc (.map #[] 0)).alloc (.cells #[.map (some (K+1))] 268));simp only [<-hK,<-hw2];(have f2:Q0 w1 w2:=by rw [hw2];exact(((Upd.refl _ _).alloc _).alloc _).alloc _);(have hz2:w2.heap.size=K+3:=by rw [hw2,hK];simp);(have hz1:(w1.alloc (.cells #[.slice (some ⟨g,0,none⟩) s s] 27)).heap.size=K+1:=by rw [hK];simp);(have b4:Blk w2 K 27 #[.slice (some ⟨g,0,none⟩) s s]:=by rw [hw2];exact((Q2 hK _ _).alloc _).alloc _);(have b6:Blk w2 (K+1+1) 268 #[.map (some (K+1))]:=by rw [hw2];exact Q2 (by rw [hK];simp) _ _)
 have im:Yc w2 Tryz.prog 3 3 (K+1) 0 0 (Z7 P 0):=by
   have h0:=Yc.new (w1.alloc (.cells #[.slice (some ⟨g,0,none⟩) s s] 27)) Tryz.prog 3 3;rw [hz1]at h0;rw [Q3E,hw2];exact h0.upd ((Upd.refl (fun _=>False) _).alloc _) (fun h=>h)
 have B1:=hd_ (b1.fresh f2);have R2:=hd_ (R1.out.fresh f2);have F2:=hd_ (F1.out.trans' f2);have B4:=hd_ b4;have B6:=hd_ b6;have IM:=hd_ im;have HZ2:=hd_ hz2
 have HGK:=hd_ (show g<K from by
   rw [hK];obtain⟨b,o,e,h1,h2,_⟩:=R1.out.2 (by rw [HS.out];exact Nat.two_pow_pos p)
   omega)
 (have hHK:H<K:=by rw [hK];exact b1.lt);(have hWK:w.heap.size<=K:=by rw [hK];exact F1.out.size);have c4:=b4.cell 0;simp at c4;clear hw2 f2 hz2 hz1 b4 b6 im b1 hK hmm;(have hs0:0<s:=by rw [HS.out];exact Nat.two_pow_pos p);go_wp2_with fail;go_loopg [8,23] s (fun f v8 i wr=>∃(j cnt:Nat),j+f=s/\i = .int .i64 j/\Yc wr Tryz.prog 3 3 (K+1) j cnt (Z7 P j)/\Upd (fun b=>b=K+1) w2 wr/\QA wr 217 3 v8 (((List.range j).map (QQ p N P)).map tri)/\(∀b,v8.ownBlock=some b->K+3<=b))
 case atStart=>exact⟨0,0,by omega,rfl,IM.out,Upd.refl _ _,QA.nil _ _ _,fun b h=>by simp [Value.ownBlock]at h⟩
 case round =>
   obtain⟨j,cnt,hj,rfl,im,ur,ov,hvb⟩:=hrel;have HJ:=hd_ hj;have UR:=hd_ ur;have OV:=hd_ ov;have HVB:=hd_ hvb;by_cases hjs:j<s
   . have hjI:(j:Int)<s:=by omega
     have hw4:IntKind.i64.wrap ((j:Int)+1)=j+1:=IntWalk.i64_in _ (by omega);(have hjP:j<P.length:=by rw [HPL.out];exact hjs);have rr:=R2.out.upd ur (fun b _ hb h=>by have:=HGK.out;omega);obtain⟨b,o,_,e1,_,hc⟩:=rr.int (k:=j) hjs;injection e1 with e1;injection e1 with e1 e2;subst e1 e2;rw [Nat.zero_add]at hc;(have hsym:JC P j=P[j]:=by unfold JC;rw [List.getElem?_eq_getElem hjP];rfl)
     have hb1:=Q2z (fun b=>b<w.heap.size) A (some ⟨g,0,none⟩) n c s p H (K+1+1) K (K+1) cnt j j N wr HV.out ((HR.out _ (F2.out.trans ur (fun b hb h=>by omega))).mono (fun b h=>h.2)) (B1.out.upd ur (by omega)) (B6.out.upd ur (by omega))
       (by rw [<-HP.out];exact im) (by rw [<-HS.out];exact B4.out.upd ur (by omega)) (by rw [<-HS.out];exact hjs) (by have:=Ks;omega) ⟨by omega,by omega,by omega⟩ (fun b hb=>by omega)
     rw [<-HP.out,hsym]at hb1;have HB1:=hd_ hb1;have HCZ:=hd_ (show QQ p N P j=(P[j],YB p N P j,Jb p N P j) by unfold QQ;rw [hsym]);generalize P[j]=sy at *;generalize YB p N P j=bz at *;generalize Jb p N P j=bs at *;clear hj im ur ov hvb rr hsym hb1;go_wp2_with fail;refine HB1.out.mono ?_;rintro e w5 ⟨rfl,⟨cnt5,im5⟩,u5⟩;have hw5g:wr.heap.size<=w5.heap.size:=u5.size;have o5:=OV.out.upd u5 (fun b hb h=>by have:=HVB.out b hb;omega);(have hrl:(((List.range j).map (QQ p N P)).map tri).length<=2^30:=by simp;omega);go_wp2_with (at_builtin;go_must (refine J5 _ rfl (.tmp 27) (.tmp 31) _ rfl 217 _ 3 24 Tryz.underlying130 Q0O rfl (by omega) (by omega) u8 _ rfl (o5.alloc _) w5.heap.size 1 [.int .i64 sy,.int .i64 bz,.int .i64 bs] rfl (by simp [Value.oneCell']) rfl (Blk.new _ _ _) hrl ?_);intro g6 c6 w6 o6 g6u a6 l6)
     have er:((List.range j).map (QQ p N P)).map tri++[[Value.int .i64 sy,.int .i64 bz,.int .i64 bs]]=((List.range (j+1)).map (QQ p N P)).map tri:=by
       rw [List.range_succ,List.map_append,List.map_append];simp [HCZ.out,tri]
     (have el:(((List.range j).map (QQ p N P)).map tri).length+1=j+1:=by simp);rw [er,el]at o6;have u6:Upd (fun b=>u8.ownBlock=some b) w5 w6:=((Upd.refl _ w5).alloc _).grown g6u (fun k hk _=>hk);have hur:=UR.out.size;have hz2:=HZ2.out
     have hog:∀b,(Value.slice (some ⟨g6,0,none⟩) (j+1) c6).ownBlock=some b->K+3<=b:=by
       intro b hb;injection hb with hb;have hb':g6=b:=hb;rcases a6 with h|h
       . have:=HVB.out g6 h;omega
       simp at h;omega
     have O6:=hd_ o6;have HOG:=hd_ hog;have UU:=hd_ ((UR.out.trans' u5).trans u6 (fun b hb h=>by have:=HVB.out b h;omega));have IM6:=hd_ (im5.upd u6 (fun h=>by have:=HVB.out _ h;omega));clear er el o6 u6 hog im5 u5 o5 hrl g6u a6;go_roundg (gk-1)
     case measure=>have:=HJ.out;omega
     case rel=>exact⟨j+1,cnt5,by have:=HJ.out;omega,by go_num,IM6.out,UU.out,O6.out,HOG.out⟩
   (obtain rfl:j=s:=by have:=HJ.out;omega);(have hcell:((List.range j).map (QQ p N P)).map tri=(QM p N).map tri:=by unfold QM;rw [HP.out,HS.out]);rw [hcell]at OV;clear hj im ur ov hvb hcell;go_wp2_with fail;(try go_ret);exact hR.out _ _ ⟨u8,rfl,OV.out,fun b hb=>by have:=HVB.out b hb;omega,F2.out.trans UR.out (fun b hb h=>by omega)⟩
theorem Q3F (F:Nat->Prop) (A:Option Addr) (n c:Nat) (lg:Int) (N:List Int) (w:World) (hr:Rd w F A n (Q1 N)) (hfit:Fit N) (hn:(n:Int)<=1099511627776) :
   Calls Tryz.prog 125 #[.agg #[.int .i64 lg,.slice A n c]] w (ZR lg N w):=by
 by_cases hv:Qg lg N 256 9
 . obtain⟨p,rfl⟩:∃p:Nat,lg=p:=⟨lg.toNat,by have:=hv.1;omega⟩
   refine(Q4M F A n c p N w hr hfit hn hv).mono fun e w' h=>?_;unfold ZR;rw [if_pos hv];exact h
 refine(Q4L F A n c lg N w hr hfit hn hv).mono fun e w' h=>?_;unfold ZR;rw [if_neg hv];exact h
theorem Q4N:(Tryz.prog.info? 27).map (fun i=>(i.zero,i.size,i.bytes))=some (some (.slice none 0 0),1,24):=by kernel_rfl
theorem Own.ne_own {w:World} {e e':TypeId} {v v':Value} {xs ys:List Value} (h:Own w e v xs) (h':Own w e' v' ys) (hne:e≠e') {b:Nat} (hb:v.ownBlock=some b):v'.ownBlock≠some b:=by
 rcases h.2 with ⟨rfl,_⟩|⟨g,cap,cur,rfl,_,hg,_⟩
 . simp [Value.ownBlock]at hb
 (have:g=b:=by simpa [Value.ownBlock]using hb);subst this;exact h'.ne_blk (show Blk w g e cur from hg) (fun q=>hne q.symm)
theorem QA.ne_blk {w:World} {e t:TypeId} {k:Nat} {v:Value} {rows:List (List Value)} {g:Nat} {cs:Array Value} (h:QA w e k v rows) (hg:Blk w g t cs) (hne:e≠t):v.ownBlock≠some g:=by
 rcases h.1.2 with ⟨rfl,_⟩|⟨g',cap,cur,rfl,_,hh,_⟩
 . simp [Value.ownBlock]
 intro he;(have:g'=g:=by simpa [Value.ownBlock]using he);subst this;exact Blk.ne_ (t:=e) hh hg hne rfl
theorem QA.ne_own {w:World} {e e':TypeId} {k:Nat} {v v':Value} {rows:List (List Value)} {ys:List Value} (h:QA w e k v rows) (h':Own w e' v' ys) (hne:e≠e') {b:Nat} (hb:v'.ownBlock=some b):v.ownBlock≠some b:=by
 rcases h'.2 with ⟨rfl,_⟩|⟨g,cap,cur,rfl,_,hg,_⟩
 . simp [Value.ownBlock]at hb
 (have:g=b:=by simpa [Value.ownBlock]using hb);subst this;exact h.ne_blk (show Blk w g e' cur from hg) hne
def YN (w:World) (base s:Nat) (P:List Int) (PL:List Value):Prop :=
  ∀i u,PL[i]?=some u->Own w 3 u (Yu (JE P (i:Nat) s))/\∀b,u.ownBlock=some b->base<=b
theorem YN.upd {S:Nat->Prop} {w w':World} {base s:Nat} {P:List Int} {PL:List Value} (h:YN w base s P PL) (hu:Upd S w w') (hs:∀(i:Nat) (u:Value) (b:Nat),PL[i]?=some u->u.ownBlock=some b->¬S b):YN w' base s P PL :=
 fun i u hi=>⟨(h i u hi).1.upd hu (fun b hb=>hs i u b hi hb),(h i u hi).2⟩
theorem YN.fresh {w w':World} {base s:Nat} {P:List Int} {PL:List Value} (h:YN w base s P PL) (hu:Q0 w w'):YN w' base s P PL:=h.upd hu fun _ _ _ _ _ h=>h
theorem YN.snoc {w:World} {base s:Nat} {P:List Int} {PL:List Value} {u:Value} (h:YN w base s P PL) (hu:Own w 3 u (Yu (JE P (PL.length:Nat) s))) (hb:∀b,u.ownBlock=some b->base<=b):YN w base s P (PL++[u]):=by
 intro i x hi;rw [List.getElem?_append]at hi;split at hi
 . exact h i x hi
 have h0:i-PL.length=0:=by
   have:=(List.getElem?_eq_some_iff.1 hi).1;simp at this;omega
 rw [h0]at hi;simp at hi;subst hi;(have:i=PL.length:=by omega);subst this;exact⟨hu,hb⟩
def Ve (w:World) (base g p:Nat) (N:List Int):Prop :=
  ∃vc vp PL,Blk w g 234 #[vc,vp]/\QA w 217 3 vc ((QM p N).map tri)/\Own w 27 vp PL/\PL.length=N.length/\YN w base (2^p) (Q7 p N) PL /\
    (∀b,vc.ownBlock=some b->base<=b)/\(∀b,vp.ownBlock=some b->base<=b)/\base<=g
def Q6O (lg:Int) (N:List Int) (w:World) (e:Ending) (w':World):Prop :=
  if Qg lg N 256 9 then ∃g,e = .returned (.tuple #[.pointer (some ⟨g,0,none⟩),.int .i64 0])/\Ve w' w.heap.size g lg.toNat N/\Q0 w w'
  else e = .returned (.tuple #[.pointer none,.int .i64 13])/\Q0 w w'
theorem Q5M (F:Nat->Prop) (A:Option Addr) (n c p:Nat) (N:List Int) (w:World) (hr:Rd w F A n (Q1 N)) (hfit:Fit N) (hn:(n:Int)<=1099511627776) (hv:Qg p N 256 9) :
   Calls Tryz.prog 76 #[.agg #[.int .i64 p,.slice A n c]] w fun e w'=>∃g,e = .returned (.tuple #[.pointer (some ⟨g,0,none⟩),.int .i64 0])/\Ve w' w.heap.size g p N/\Q0 w w':=by
 (have hN:N.length=n:=by have:=hr.1;simpa using this);(have hn256:n<=256:=by have:=hv.2.2.2.2.1;omega);obtain⟨w0,hw0⟩:=nm_ (w.alloc (.cells #[.int .i64 p,.slice A n c] 29));obtain⟨H,hH⟩:=nm_ (w.heap.size);(have f0:Q0 w w0:=by rw [hw0];exact(Upd.refl _ _).alloc _);(have bt:Blk w0 H 29 #[.int .i64 p,.slice A n c]:=by rw [hw0];exact Q2 hH _ _);have hsp:=Q3F F A n c p N w0 (hr.fresh f0) hfit hn;unfold ZR at hsp;simp only [if_pos hv,Int.toNat_natCast]at hsp;have hpo:=hd_ (fun W (h:Q0 w W) (sy:Int)=>Q6o F A n c p sy N W (hr.fresh h) hfit hn hv);obtain⟨t0,t1⟩:=(bt).cells2;have HSP:=hd_ hsp;have BT:=hd_ bt;have F0:=hd_ f0;have HW:=hd_ hw0;have HH:=hd_ hH;have HN:=hd_ hN;clear hr hw0 hH f0 bt hsp hv hN;refine Q6 fun R hR=>?_;go_enter Tryz.func76,Tryz.ntmps76;go_upto_region 1 with fail;simp only [<-HH.out,<-HW.out];go_wp2_with fail;refine HSP.out.mono ?_;rintro e w1 ⟨vc,rfl,oc,hcb,f1⟩;obtain⟨Ac,nc,cc,rfl,hnc⟩:=oc.form';have b1:=BT.out.fresh f1;have OC:=hd_ oc;have HCB:=hd_ hcb;have F1:=hd_ (F0.out.trans' f1);clear t0 t1 hcb oc;go_upto_region 5 with fail;obtain⟨K,hK⟩:=nm_ (w1.heap.size);obtain⟨w2,hw2⟩:=nm_ (w1.alloc (.cells #[.slice Ac nc cc,.slice none 0 0] 234));simp only [<-hK,<-hw2];(have f2:Q0 w1 w2:=by rw [hw2];exact(Upd.refl _ _).alloc _);have HZ2:=hd_ (show w2.heap.size=K+1 from by rw [hw2,hK];simp);(have bk:Blk w2 K 234 #[.slice Ac nc cc,.slice none 0 0]:=by rw [hw2];exact Q2 hK _ _);have bt2:=b1.fresh f2;obtain⟨t0,t1⟩:=(bt2).cells2;have OC2:=hd_ (OC.out.fresh f2);have BK:=hd_ bk;have BT2:=hd_ bt2;have F2:=hd_ (F1.out.trans' f2);(have hwK:w.heap.size<=K:=by rw [hK];exact F1.out.size);(have hHK:H<K:=by rw [hK];exact b1.lt);clear hw2 f2 bk bt2 b1 hK;go_wp2_with fail
 go_loopg [24] n (fun f i wr=>∃(k:Nat) (vp:Value) (PL:List Value),k+f=n/\i = .int .i64 k/\Blk wr K 234 #[.slice Ac nc cc,vp]/\Own wr 27 vp PL/\PL.length=k/\YN wr w.heap.size (2^p) (Q7 p N) PL/\(∀b,vp.ownBlock=some b->K+1<=b) /\
   QA wr 217 3 (.slice Ac nc cc) ((QM p N).map tri)/\Upd (fun b=>b=K) w2 wr)
 case atStart=>exact⟨0,.slice none 0 0,[],by omega,rfl,BK.out,Own.nil _ _,rfl,fun i u h=>by simp at h,fun b h=>by simp [Value.ownBlock]at h,OC2.out,Upd.refl _ _⟩
 case round =>
   obtain⟨k,vp,PL,hk,rfl,bk,ov,hpl,pa,hvb,oc,ur⟩:=hrel;have HK:=hd_ hk;have BK3:=hd_ bk;have OV:=hd_ ov;have HPL:=hd_ hpl;have PA:=hd_ pa;have HVB:=hd_ hvb;have OC3:=hd_ oc;have UR:=hd_ ur;clear hk hpl;by_cases hkn:k<n
   . have hkI:(k:Int)<n:=by omega
     have hw4:IntKind.i64.wrap ((k:Int)+1)=k+1:=IntWalk.i64_in _ (by omega);have fwr:Q0 w wr:=F2.out.trans ur (fun b hb h=>by omega);have HP:=hd_ (hpo.out wr fwr (k:Int));have bt3:=BT2.out.upd ur (by omega);obtain⟨t0,t1⟩:=(bt3).cells2;clear bk ov pa hvb oc ur bt3;go_wp2_with fail;refine HP.out.mono ?_;rintro e w5 ⟨v5,rfl,o5,hb5,f5⟩;obtain⟨A5,n5,c5,rfl,hn5⟩:=o5.form';have bk5:=BK3.out.fresh f5;have c1:=bk5.cell 1;have z1:=bk5.frozen 1;simp at c1;(have hlen:PL.length+1<=2^40:=by have:=HPL.out;omega);have HF5:=hd_ f5;have O5:=hd_ o5;have HB5:=hd_ hb5;have BK5:=hd_ bk5;clear f5 o5 hb5 bk5 t0 t1;go_wp2_with (at_builtin;go_must (refine Yl _ rfl (.tmp 37) (.tmp 39) _ rfl 27 _ 24 Tryz.underlying103 Q4N rfl vp PL rfl ((OV.out.fresh HF5.out).alloc _) _ 1 _ _ rfl (Rd.one w5 27 (.slice A5 n5 c5)) (by simp [Value.oneCell']) (by omega) hlen ?_);intro v6 w6 o6 g6 a6;obtain⟨A6,n6,c6,rfl,hn6⟩:=o6.form';have u6:Upd (fun b=>vp.ownBlock=some b) w5 w6:=((Upd.refl _ w5).alloc _).grown g6 (fun k hk _=>hk);have b6:=BK5.out.upd u6 (fun h=>by have:=HVB.out _ h;omega);have c6x:=b6.cell 1;have z6x:=b6.frozen 1;simp at c6x);have us:Upd (fun b=>b=K) w6 (w6.setCell ⟨K,1,none⟩ (.slice A6 n6 c6)):=(Upd.refl (fun b=>b=K) w6).setCell (p:=⟨K,1,none⟩) (fun _=>rfl) _;have hz:=HZ2.out;have hwr:=UR.out.size;have hf5:=HF5.out.size
     have hvb6:∀b,(Value.slice A6 n6 c6).ownBlock=some b->K+1<=b:=by
       intro b hb;rcases a6 with e|e
       . exact HVB.out b (by rw [<-e];exact hb)
       rw [e]at hb;injection hb with hb;simp at hb;omega
     have ov5:=OV.out.fresh HF5.out;have pa6:YN w6 w.heap.size (2^p) (Q7 p N) PL:=(PA.out.fresh HF5.out).upd u6 (fun i u b hi hb h=>Own.ne_own ((PA.out.fresh HF5.out) i u hi).1 ov5 (by decide) hb h)
     have el6:Own w6 3 (.slice A5 n5 c5) (Yu (JE (Q7 p N) (PL.length:Nat) (2^p))):=by
       rw [HPL.out];exact O5.out.upd u6 (fun b hb h=>Own.ne_own O5.out ov5 (by decide) hb h)
     (have hb5w:∀b,(Value.slice A5 n5 c5).ownBlock=some b->w.heap.size<=b:=fun b hb=>by have:=HB5.out b hb;omega)
     have pa7:=(pa6.snoc el6 hb5w).upd us (fun i u b hi hb h=>by
       subst h
       exact Own.ne_blk (((pa6.snoc el6 hb5w) i u hi).1) b6 (by decide) hb)
     have oc6:QA w6 217 3 (.slice Ac nc cc) ((QM p N).map tri):=(OC3.out.fresh HF5.out).upd u6 (fun b hb h=>QA.ne_own (OC3.out.fresh HF5.out) ov5 (by decide) h hb);have oc7:=oc6.upd us (fun b hb h=>by subst h;exact oc6.ne_blk b6 (by decide) hb);have o7:=o6.far (p:=⟨K,1,none⟩) (fun h=>by have:K+1<=K:=hvb6 _ h;omega) (.slice A6 n6 c6);have b7:=b6.set_ 1 (.slice A6 n6 c6);simp at b7;have U7:=hd_ (((UR.out.trans HF5.out (fun b hb h=>h.elim)).trans u6 (fun b hb h=>by have:=HVB.out b h;omega)).trans' us);have PA7:=hd_ pa7;have OC7:=hd_ oc7;have O7:=hd_ o7;have B7:=hd_ b7;have HVB6:=hd_ hvb6;clear pa6 el6 pa7 oc6 oc7 o7 b7 hvb6 us u6 ov5 b6 o6;go_roundg (gk-1)
     case measure=>have:=HK.out;omega
     case rel=>exact⟨k+1,.slice A6 n6 c6,PL++[.slice A5 n5 c5],by have:=HK.out;omega,by go_num,B7.out,O7.out,by simp [HPL.out],PA7.out,HVB6.out,OC7.out,U7.out⟩
   (obtain rfl:k=n:=by have:=HK.out;omega);clear bk ov pa hvb oc ur;go_wp2_with fail;(try go_ret);exact hR.out _ _ ⟨K,rfl,⟨_,vp,PL,BK3.out,OC3.out,OV.out,by rw [HPL.out,HN.out],PA.out,fun b hb=>by have h1:=HCB.out b hb;have h2:=F0.out.size;omega,fun b hb=>by have:=HVB.out b hb;omega,hwK⟩,F2.out.trans UR.out (fun b hb h=>by omega)⟩
end Go.Proofs.YtjfdaphjijfieaaGreat
