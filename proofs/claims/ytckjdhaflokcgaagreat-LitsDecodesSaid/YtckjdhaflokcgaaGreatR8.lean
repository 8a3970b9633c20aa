/- Contracts and plain lemmas, part 8. Conditions: none beyond those of each. -/
import Derived.Test.YtckjdhaflokcgaaGreatR7
set_option maxHeartbeats 8000000
set_option linter.unusedVariables false
set_option linter.unusedSimpArgs false
set_option linter.unnecessarySimpa false
set_option maxRecDepth 100000
namespace Go.Proofs.YtckjdhaflokcgaaGreat
open Go.RowKit Go.Proofs.Tryz
theorem Qa0:(prog.info? 133).map (λi=>(i.zero,i.size,i.bytes))=some (some (.agg #[.int .i64 0,.int .u32 0]),2,16):=by kernel_rfl
theorem Q4k (n:Nat) (hn:n<=256) (W:World):(Instr.makeSlice 119 (.int .i64 (n:Int)) (.int .i64 (n:Int))).run prog W = .ok (.slice (some ⟨W.heap.size,0,none⟩) n n) (W.alloc (.cells (Y5 (List.replicate n (0,0))).toArray 133)):=by
 obtain⟨i,hi,hz,hs,hb⟩:=info_parts Qa0;have h:=run_make (P:=prog) W 119 133 i _ underlying119 hi hz .i64 .i64 n n (by omega) (by omega) (by rw [hb];omega) (by omega);rw [Int.toNat_natCast,hs,show madeCells (Value.agg #[.int .i64 0,.int .u32 0]).cells (n*2)=(Y5 (List.replicate n (0,0))).toArray from Qb1 n]at h;exact h
theorem Q50 {l:List Int} {k:Nat} (h:k<l.length):(QE l).take (k+1)=(QE l).take k++[Q6 l k]:=by
 (have hk:k<(QE l).length:=by simpa using h);rw [List.take_succ_eq_append_getElem hk];simp [QE]
def Js (l:List Int) (k i:Nat):Nat:=Qs l i+Qx (l.take k) i
theorem Q6O {l:List Int} {k q:Nat} (h:k<l.length) (hq:l[k]=(q:Int)) (h0:0<q):Q6 l k=(q,Js l k q):=by
 unfold Q6 Js Qx;(have e:(l[k]?).getD 0=(q:Int):=by rw [List.getElem?_eq_getElem h];exact hq);rw [e,if_pos (by omega),Int.toNat_natCast,if_neg (by omega)]
theorem Q6P {l:List Int} {k:Nat} (h:k<l.length) (hq:l[k]=0):Q6 l k=(0,0):=by
 unfold Q6;(have e:(l[k]?).getD 0=0:=by rw [List.getElem?_eq_getElem h];exact hq);rw [e,if_neg (by omega)]
theorem Q6Q (F:Nat->Prop) (A:Option Addr) (n c:Nat) (l:List Int) (w:World) (hr:Rd w F A n (Q7 l)) (ht:Qc l) :
   Calls prog 196 #[.agg #[.slice A n c]] w λe w'=>∃g,e = .returned (.slice (some ⟨g,0,none⟩) n n)/\RdK w' (λb=>b=g) 2 (some ⟨g,0,none⟩) n ((QE l).map cd2)/\w.heap.size<=g/\Q0 w w':=by
 obtain⟨w0,H,hw0,hH,f0,bt⟩:=al_ w 243 #[.slice A n c];(have hL:l.length=n:=by have:=hr.1;simpa using this);(have hn:n<=256:=by have:=ht.2.1;omega);(have hnI:(n:Int)<=256:=by omega);have HFI:=hd_ (Q6N F A n c l w0 (hr.fresh f0) ht);have HLE:=hd_ (λk=>Q0o (l:=l) ht.2.1 k);have HT:=hd_ (λk (hk:k<l.length)=>ht.1 _ (List.getElem_mem hk));have hmk:=Q4k n hn
 have HR:=hd_ (show ∀W,Upd (λb=>H<b) w0 W->∀k,k<n->∃(b o:Nat) (hk':k<l.length),A=some ⟨b,o,none⟩/\b<W.heap.size/\W.cell? ⟨b,o+k,none⟩=some (.int .i64 l[k])from λW hu k hk =>
   ((hr.both.fresh f0).upd hu (λb _ hb e=>by have:=hb.2;omega)).int hk)
 have HBT:=hd_ (show ∀W,Upd (λb=>H<b) w0 W->W.cell? ⟨H,0,none⟩=some (.slice A n c)from λW hu=>by simpa using(bt.upd hu (by omega)).cell 0);have q0:=HBT w0 (Upd.refl _ _);(have hs0:w0.heap.size=H+1:=by rw [hw0,hH];simp);have F0:=hd_ f0;have HW:=hd_ hw0;have HH:=hd_ hH;have HL:=hd_ hL;have HS0:=hd_ hs0;clear hr ht hw0 hH f0 bt hL hn hs0;refine Q8 λR hR=>?_;go_enter func196,ntmps196;go_upto_region 1 with fail;simp only [<-HH.out,<-HW.out];go_wp2_with fail;refine HFI.mono ?_;rintro e w1 ⟨rfl,f1⟩;unfold QF;go_upto_region 2 with fail;obtain⟨NB,hNB⟩:=nm_ (w1.heap.size);obtain⟨w2,hw2⟩:=nm_ (w1.alloc (.cells (QF (Qs l)) 292));(have hw2':w1.alloc (.cells #[.int .u32 (Qs l 0:Nat),.int .u32 (Qs l 1:Nat),.int .u32 (Qs l 2:Nat),.int .u32 (Qs l 3:Nat),.int .u32 (Qs l 4:Nat),.int .u32 (Qs l 5:Nat),.int .u32 (Qs l 6:Nat),.int .u32 (Qs l 7:Nat),.int .u32 (Qs l 8:Nat),.int .u32 (Qs l 9:Nat),.int .u32 (Qs l 10:Nat),.int .u32 (Qs l 11:Nat)] 292)=w2:=by rw [hw2];rfl);simp only [<-hNB,hw2'];(have bn:Blk w2 NB 292 (QF (Qs l)):=by rw [hw2];exact Qb hNB _ _);(have f12:Q0 w1 w2:=by rw [hw2];exact(Upd.refl _ _).alloc _);have U2:=hd_ ((f1.trans' f12).mono (T:=λb=>H<b) λ_ _ h=>h.elim);have HNH:=hd_ (show H<NB/\w2.heap.size=NB+1 from⟨by have:=f1.size;have:=HS0.out;omega,by rw [hw2,hNB];simp⟩);have q2:=HBT w2 U2.out;have BN:=hd_ bn;clear hNB hw2 hw2' f1 f12 bn q0 HFI;go_upto_region 3 with fail;obtain⟨G,hG⟩:=nm_ (w2.heap.size);obtain⟨w3,hw3⟩:=nm_ (w2.alloc (.cells (Y5 (List.replicate n (0,0))).toArray 133));simp only [<-hG,<-hw3];(have bg:Blk w3 G 133 (Y5 (List.replicate n (0,0))).toArray:=by rw [hw3];exact Qb hG _ _);have HG:=hd_ (show G=NB+1 by rw [hG];exact HNH.2);(have f23:Q0 w2 w3:=by rw [hw3];exact(Upd.refl _ _).alloc _);have BG:=hd_ bg;have BN3:=hd_ (BN.fresh f23);have U3:=hd_ (U2.trans f23 (λ_ _ h=>h.elim));have q3:=HBT w3 U3.out;(have hzero:QF (Qs l)=QF (Js l 0):=YX λi _=>by simp [Js,Qx]);rw [hzero]at BN3;clear hG hw3 bg f23 q2 hmk hzero BN;go_wp2_with fail;go_loopg [17] n (λf vi wr=>∃k,k+f=n/\vi = .int .i64 k/\Blk wr NB 292 (QF (Js l k))/\Blk wr G 133 (Y5 ((QE l).take k++List.replicate (n-k) (0,0))).toArray/\Upd (λb=>H<b) w0 wr)
 case atStart=>exact⟨0,by omega,rfl,BN3.out,by simpa using BG.out,U3.out⟩
 case round =>
   obtain⟨k,hk,rfl,bn,bg,ur⟩:=hrel;have HK:=hd_ hk;have UR:=hd_ ur;by_cases hlt:k<n
   . have hlI:(k:Int)<n:=by omega
     obtain⟨b,o,hkl,rfl,_,hc⟩:=HR _ ur k hlt;have hz:=HT k hkl;have hMT:=λi=>Q1K hkl i;have hCT:=Q50 hkl;(have hlk:((QE l).take k).length=k:=by rw [List.length_take,YJ];omega)
     have hrep:List.replicate (n-k) ((0,0):Nat × Nat)=(0,0)::List.replicate (n-(k+1)) (0,0):=by
       rw [show n-k=(n-(k+1))+1 by omega];rfl
     rw [hrep]at bg;obtain⟨z,hzd⟩:=nm_ (l[k]);by_cases hp:0<z
     . obtain⟨q,rfl⟩:∃q:Nat,z=q:=⟨z.toNat,by omega⟩
       rw [<-hzd]at hc hz;(have hq:q<12:=by omega);(have hqI:(q:Int)<12:=by omega);(have hq0:0<=(q:Int):=by omega);have hck:=Q6O hkl hzd.symm (by omega);have hcell:=(bn.cell q).trans (ZL _ hq);have hfz:=bn.frozen q;have hle:=HLE q;have h2q:2^q<=2^11:=Nat.pow_le_pow_right (by decide) (by omega);have hml:=XD (l.take k) q;have hlen:=List.length_take_le k l;(have hnx:Js l k q<=1048832:=by unfold Js;omega)
       have hset:(QF (Js l k)).setIfInBounds q (.int .u32 ((Js l k q+1:Nat):Int))=QF (Js l (k+1)):=by
         rw [Q0n _ _ hq];refine YX λi hi=>?_;unfold Js;rw [hMT i];by_cases hiq:i=q
         . subst hiq
           rw [if_pos rfl,if_pos ⟨by omega,hzd.symm⟩];omega
         rw [if_neg hiq,if_neg (λh=>hiq (by have:=h.2;omega))];omega
       obtain⟨g0,g1⟩:=Q1L (A:=(QE l).take k) (B:=List.replicate (n-(k+1)) (0,0)) (x:=(0,0)) hlk;(have c0:wr.cell? ⟨G,k*2,none⟩=some (.int .i64 0):=by rw [bg.cell];simpa using g0);(have c1:wr.cell? ⟨G,k*2+1,none⟩=some (.int .u32 0):=by rw [bg.cell];simpa using g1);have z0:=bg.frozen (k*2);have z1:=bg.frozen (k*2+1);have bgs:=(bg.set_ (k*2) (.int .i64 (q:Nat))).set_ (k*2+1) (.int .u32 (Js l k q:Nat));have hrs:=Q2W (A:=(QE l).take k) (B:=List.replicate (n-(k+1)) (0,0)) (x:=(0,0)) (q,Js l k q) hlk;rw [hrs,<-hck]at bgs;(have hap:(QE l).take k++Q6 l k::List.replicate (n-(k+1)) (0,0)=(QE l).take (k+1)++List.replicate (n-(k+1)) (0,0):=by rw [hCT];simp);rw [hap]at bgs;obtain⟨M,hM⟩:=nm_ (Js l k q);simp only [<-hM]at hcell hnx hset bgs;(have hMI:(M:Int)<=1048832:=by omega);(have hwr:IntKind.u32.wrap ((M:Int)+1)=M+1:=by unfold IntKind.wrap;simp [IntKind.bits];omega);(have hcast:((M+1:Nat):Int)=(M:Int)+1:=by omega);rw [hcast]at hset;(have hGN:G≠NB:=by have:=HG.out;omega);have b2:=bgs.far (p:=⟨NB,q,none⟩) hGN (.int .u32 ((M:Int)+1));have b1:=(bn.far (p:=⟨G,k*2,none⟩) hGN.symm (.int .i64 (q:Nat))).far (p:=⟨G,k*2+1,none⟩) hGN.symm (.int .u32 (M:Nat));have c2:=(b1.cell q).trans (ZL _ hq);have z2:=b1.frozen q;rw [<-hM]at c2;have b3:=b1.set_ q (.int .u32 ((M:Int)+1));rw [hset]at b3;have us:=((UR.setCell (p:=⟨G,k*2,none⟩) (λ_=>by have h1:=HG.out;have h2:=HNH.1;simp only;omega) (.int .i64 (q:Nat))).setCell (p:=⟨G,k*2+1,none⟩) (λ_=>by have h1:=HG.out;have h2:=HNH.1;simp only;omega) (.int .u32 (M:Nat))).setCell (p:=⟨NB,q,none⟩) (λ_=>HNH.1) (.int .u32 ((M:Int)+1));have HREL:=hd_ (And.intro b3 (And.intro b2 us));have q4:=HBT wr ur;clear bgs b1 b2 b3 us hset hM hnx hml hlen h2q hle hck hrs hap hrep hlk hCT hMT bn bg ur hzd hz hk g0 g1 hGN hcast;go_wp2_with fail;go_roundg (gk-1)
       case measure=>have:=HK.out;omega
       case rel=>exact⟨k+1,by have:=HK.out;omega,by go_num,HREL.1,HREL.2.1,HREL.2.2⟩
     (have hz0:z=0:=by rw [<-hzd]at hz;omega);subst hz0;rw [<-hzd]at hc;have hck:=Q6P hkl hzd.symm
     have hcg:QF (Js l k)=QF (Js l (k+1)):=YX λi hi=>by
       unfold Js;rw [hMT i];by_cases h0:i=0
       . subst h0;simp
       rw [if_neg (λh=>h0 (by have:=h.2;omega))];omega
     (have hap:(QE l).take k++(0,0)::List.replicate (n-(k+1)) (0,0)=(QE l).take (k+1)++List.replicate (n-(k+1)) (0,0):=by rw [hCT,hck];simp);rw [hcg]at bn;rw [hap]at bg;have HREL:=hd_ (And.intro bn bg);clear hck hcg hap hrep hlk hCT hMT bn bg ur hzd hz hk hp;go_wp2_with fail;go_roundg (gk-1)
     case measure=>have:=HK.out;omega
     case rel=>exact⟨k+1,by have:=HK.out;omega,by go_num,HREL.1,HREL.2,UR.out⟩
   (obtain rfl:k=n:=by omega);have htl:(QE l).take k=QE l:=List.take_of_length_le (by rw [YJ];have:=HL.out;omega);rw [htl,Nat.sub_self,List.replicate_zero,List.append_nil]at bg;have rd:=bg.rdk2 (n:=k) (by rw [YJ];exact HL.out);have HRD:=hd_ rd;clear rd bn bg hk hlt htl ur;go_wp2_with fail;(try go_ret);exact hR _ _ ⟨G,rfl,HRD.out,by have h1:=HG.out;have h2:=HNH.1;have h3:=HH.out;omega,F0.trans UR.out (λb hb e=>by have:=HH.out;omega)⟩
def Q2s (l:List Int) (n:Nat) (w:World) (e:Ending) (w':World):Prop :=
  Q0 w w'/\if Qc l then ∃g,e = .returned (.tuple #[.slice (some ⟨g,0,none⟩) n n,.int .i64 0])/\RdK w' (λb=>b=g) 2 (some ⟨g,0,none⟩) n ((QE l).map cd2)/\w.heap.size<=g
    else e = .returned (.tuple #[.slice none 0 0,.int .i64 12])
theorem Q0z (F:Nat->Prop) (A:Option Addr) (n c:Nat) (l:List Int) (w:World) (hr:Rd w F A n (Q7 l)) (hn:n<=2^40) (hc:n<=c) :
   Calls prog 142 #[.slice A n c] w (Q2s l n w):=by
 have hmf:∀(fn:Fn) (first cap:Array Value) (w:World),(Instr.makeFunc fn first cap).run prog w = .ok (.func fn first cap) w:=λ_ _ _ _=>rfl;obtain⟨w0,H,hw0,hH,f0,bo,be⟩:=Jw w 119 #[.slice none 0 0] 24 #[.int .i64 0];have HOF:=hd_ (Q2e F A n c l w0 (hr.fresh f0) hn hc);have HCO:=hd_ (fun(ht:Qc l) W (hW:Q0 w0 W)=>Q6Q F A n n l W ((hr.fresh f0).fresh hW) ht);have BO:=hd_ bo;have BE:=hd_ be;have F0:=hd_ f0;have HW:=hd_ hw0;have HH:=hd_ hH;(have hsz:(w.alloc (.cells #[.slice none 0 0] 119)).heap.size=H+1:=by simp [hH]);clear hr hn hw0 hH f0 bo be hc;refine Q8 λR hR=>?_;go_enter_defers func142,ntmps142;go_upto_region 1 with fail;simp only [hsz,<-HH.out,<-HW.out];clear hsz;by_cases ht:Qc l
 . have HCT:=hd_ (HCO ht)
   rw [if_pos ht]at HOF;have HTT:=hd_ ht;clear ht HCO;go_wp2_with fail;refine HOF.mono ?_;rintro e w1 ⟨rfl,f1⟩;have hcc:=HCT w1 f1;have HCC:=hd_ hcc;have BO1:=hd_ (BO.fresh f1);have BE1:=hd_ (BE.fresh f1);have F1:=hd_ (F0.trans' f1);clear f1 hcc HOF HCT;go_wp2_with fail;refine HCC.mono ?_;rintro e w2 ⟨g,rfl,rd,hg,f2⟩;have bo2:=BO1.fresh f2;have be2:=BE1.fresh f2;have c0:=bo2.cell 0;have z0:=bo2.frozen 0;have c1:=be2.cell 0;have z1:=be2.frozen 0;simp at c0 c1;have RD:=hd_ rd;have F2:=hd_ (F1.trans' f2);have BO2:=hd_ bo2;have BE2:=hd_ be2;have HG:=hd_ (show H+1<g by have h1:=BE1.lt;omega);clear rd f2 bo2 be2 hg;go_wp2_with fail;change Leaves _ _ _ _ _ _ _;refine leaves_cons (f:=193) (args:=#[.pointer (some ⟨H+1,0,none⟩),.func (.func 194) #[] #[.pointer (some ⟨H,0,none⟩)]]) (by simp) (by simp [go_sem]) ?_;have b2:=(BO2.set_ 0 (.slice (some ⟨g,0,none⟩) n n)).far (p:=⟨H+1,0,none⟩) (by simp) (.int .i64 0);have e2:=(BE2.far (p:=⟨H,0,none⟩) (by simp) (.slice (some ⟨g,0,none⟩) n n)).set_ 0 (.int .i64 0);have d0:=b2.cell 0;have d1:=e2.cell 0;simp at d0 d1;refine(ZG _ _ _).mono ?_;rintro e u' w'' ⟨rfl,rfl,rfl⟩;have us:Upd (λb=>b=H\/b=H+1) w2 ((w2.setCell ⟨H,0,none⟩ (.slice (some ⟨g,0,none⟩) n n)).setCell ⟨H+1,0,none⟩ (.int .i64 0)):=((Upd.refl (λb=>b=H\/b=H+1) w2).setCell (p:=⟨H,0,none⟩) (λ_=>.inl rfl) _).setCell (p:=⟨H+1,0,none⟩) (λ_=>.inr rfl) _;refine⟨.tuple #[.slice (some ⟨g,0,none⟩) n n,.int .i64 0],?_,hR _ _ ⟨F2.trans us (λb hb e=>by have:=HH.out;omega),?_⟩⟩
   . simp [results,results142,go_sem,d0,d1]
   rw [if_pos HTT.out];exact⟨g,rfl,RD.upd us (λb _ hb e=>by have:=HG.out;omega),by have h1:=HG.out;have h2:=HH.out;omega⟩
 rw [if_neg ht]at HOF;have HTT:=hd_ ht;clear ht HCO;go_wp2_with fail;refine HOF.mono ?_;rintro e w1 ⟨rfl,f1⟩;have b1:=BO.fresh f1;have e1:=BE.fresh f1;have F1:=hd_ (F0.trans' f1);simp only [Qa];change Leaves _ _ _ _ _ _ _;refine leaves_cons (f:=193) (args:=#[.pointer (some ⟨H+1,0,none⟩),.func (.func 194) #[] #[.pointer (some ⟨H,0,none⟩)]]) (by simp) (by simp [go_sem]) ?_;refine(Zy 194 #[.pointer (some ⟨H,0,none⟩)] (λb=>b=H) (λW=>Blk W H 119 #[.slice none 0 0]) (H+1) 12 _ w1 e1 (by omega) (λ_ _=>rfl) (Q5t H _ w1 b1)).mono ?_;rintro e u' w'' ⟨rfl,rfl,w2,u2,b2,rfl⟩;have e2:=(e1.upd u2 (by omega)).set_ 0 (.int .i64 12);have b3:=b2.far (p:=⟨H+1,0,none⟩) (by simp) (.int .i64 12);have d0:=b3.cell 0;have d1:=e2.cell 0;simp at d0 d1;show Leaves _ _ _ _ [] .returning _;refine⟨.tuple #[.slice none 0 0,.int .i64 12],?_,hR _ _ ⟨F1.trans (u2.mono (T:=λb=>b=H\/b=H+1) (λ_ _ h=>.inl h) |>.setCell (p:=⟨H+1,0,none⟩) (λ_=>.inr rfl) _) (λb hb e=>by have:=HH.out;omega),?_⟩⟩
 . simp [results,results142,go_sem,d0,d1]
 rw [if_neg HTT.out]
def Z5 (l:List Int) (i s:Nat):List Nat:=(List.range i).flatMap (Y9 l)++(List.range s).filter λs=>decide ((Q6 l s).1=i+1)
theorem Q0q (l:List Int) (i:Nat):Z5 l i 0=(List.range i).flatMap (Y9 l):=by simp [Z5]
theorem Q0W (l:List Int) (i:Nat):Z5 l i l.length=Z5 l (i+1) 0:=by
 rw [Q0q,List.range_succ,List.flatMap_append];simp [Z5,Y9]
theorem Q8F (l:List Int) (i s:Nat):Z5 l i (s+1)=if(Q6 l s).1=i+1 then Z5 l i s++[s]else Z5 l i s:=by
 unfold Z5;rw [List.range_succ,List.filter_append];split
 . next h=>simp [h]
 next h=>simp [h]
theorem Q3u (l:List Int):Z5 l 11 0=Qq l:=Q0q l 11
theorem Q1U (l:List Int):∀i s,s<=l.length->(Z5 l i s).length<=(i+1)*l.length
 | 0,s,h=>by
   have:=List.length_filter_le (λs=>decide ((Q6 l s).1=0+1)) (List.range s)
   simp [Z5]at this|-
   omega
 | i+1,s,h=>by
   have ih:=Q1U l i l.length (Nat.le_refl _)
   have h1:=List.length_filter_le (λs=>decide ((Q6 l s).1=i+1+1)) (List.range s)
   rw [Q0W,Q0q]at ih
   unfold Z5
   rw [List.length_append,Nat.add_mul (i+1) 1]
   simp only [List.length_range]at h1
   omega
theorem Q93 (F:Nat->Prop) (A:Option Addr) (n c:Nat) (l:List Int) (w:World) (hr:Rd w F A n (Q7 l)) (ht:Qc l) (hc:n<=c) :
   Calls prog 323 #[.slice A n c] w λe w'=>∃p q g v,e = .returned (.func (.func 326) #[] #[.pointer (some ⟨p,0,none⟩),.pointer (some ⟨q,0,none⟩)]) /\
     Blk w' p 33 #[v]/\Own w' 3 v (Yt (Qq l))/\(∀b,v.ownBlock=some b->w.heap.size<=b)/\Blk w' q 119 #[.slice (some ⟨g,0,none⟩) n n]/\RdK w' (λb=>b=g) 2 (some ⟨g,0,none⟩) n ((QE l).map cd2)/\w.heap.size<=p/\w.heap.size<=q/\w.heap.size<=g/\Q0 w w':=by
 (have hL:l.length=n:=by have:=hr.1;simpa using this);(have hn:n<=256:=by have:=ht.2.1;omega);have hmf:∀(fn:Fn) (first cap:Array Value) (w:World),(Instr.makeFunc fn first cap).run prog w = .ok (.func fn first cap) w:=λ_ _ _ _=>rfl
 have HCO:=hd_ (show Calls prog 142 #[.slice A n c] w λe w'=>Q0 w w'/\∃g,e = .returned (.tuple #[.slice (some ⟨g,0,none⟩) n n,.int .i64 0])/\RdK w' (λb=>b=g) 2 (some ⟨g,0,none⟩) n ((QE l).map cd2)/\w.heap.size<=g from
   (Q0z F A n c l w hr (by omega) hc).mono λe w' h=>⟨h.1,by have h2:=h.2;rw [if_pos ht]at h2;exact h2⟩)
 have HT:=hd_ ht;have HL:=hd_ hL;have HN:=hd_ hn;have HNP:=hd_ (show 0<n by have h1:=ht.2.2.1;have h2:=ZE l;omega);(have hnI:(n:Int)<=256:=by omega);clear hr ht hc hL hn;refine Q8 λR hR=>?_;go_enter func323,ntmps323;go_wp2_with fail;refine HCO.mono ?_;rintro e w1 ⟨f1,g,rfl,rd1,hg⟩;have F1:=hd_ f1;have RD1:=hd_ rd1;have HG:=hd_ hg;clear f1 rd1 hg HCO;go_upto_region 3 with fail;obtain⟨C,hC⟩:=nm_ (w1.heap.size);obtain⟨w2,hw2⟩:=nm_ ((w1.alloc (.cells #[.slice (some ⟨g,0,none⟩) n n] 119)).alloc (.cells #[.slice none 0 0] 33));simp only [<-hC,<-hw2];(have f2:Q0 w1 w2:=by rw [hw2];exact((Upd.refl _ _).alloc _).alloc _);(have bC:Blk w2 C 119 #[.slice (some ⟨g,0,none⟩) n n]:=by rw [hw2];exact(Qb hC _ _).alloc _);(have bO:Blk w2 (C+1) 33 #[.slice none 0 0]:=by rw [hw2];exact Qb (by simp [hC]) _ _);have F2:=hd_ f2;have BC:=hd_ bC;have BO:=hd_ bO;have HC:=hd_ hC;clear hw2 f2 bC bO hC;go_wp2_with fail;go_loopg [6] 11 (λf vn wr=>∃i K:Nat,K=i+1/\i+f=11/\vn = .int .i64 (K:Nat)/\(∃v,Blk wr (C+1) 33 #[v]/\Own wr 3 v (Yt (Z5 l i 0))/\(∀b,v.ownBlock=some b->w1.heap.size<=b)/\Blk wr C 119 #[.slice (some ⟨g,0,none⟩) n n]/\Q0 w1 wr))
 case atStart=>exact⟨0,1,rfl,rfl,rfl,_,BO.out,Own.nil _ _,λb hb=>by simp [Value.ownBlock]at hb,BC.out,F2.out⟩
 case round =>
   obtain⟨i,K,hKi,hi,rfl,v,bo,ov,hv,bc,fr⟩:=hrel;have HI:=hd_ hi;have HKI:=hd_ hKi;by_cases hlt:i<11
   . have hlI:(K:Int)<=11:=by omega
     have c0:=bc.cell 0;simp at c0;have HIV:=hd_ (show(∃v,Blk wr (C+1) 33 #[v]/\Own wr 3 v (Yt (Z5 l i 0))/\(∀b,v.ownBlock=some b->w1.heap.size<=b)/\Blk wr C 119 #[.slice (some ⟨g,0,none⟩) n n]/\Q0 w1 wr)from⟨v,bo,ov,hv,bc,fr⟩);have HGK:=hd_ hlt;clear bo ov hv bc fr hi BO BC F2 hKi;go_wp2_with fail;go_loopg [20] n (λf vs wr=>∃s:Nat,s+f=n/\vs = .int .i64 s/\(∃v,Blk wr (C+1) 33 #[v]/\Own wr 3 v (Yt (Z5 l i s))/\(∀b,v.ownBlock=some b->w1.heap.size<=b)/\Blk wr C 119 #[.slice (some ⟨g,0,none⟩) n n]/\Q0 w1 wr))
     case atStart=>exact⟨0,by omega,rfl,HIV.out⟩
     case round =>
       obtain⟨s,hs,rfl,v,bo,ov,hv,bc,fr⟩:=hrel;have HS:=hd_ hs;by_cases hlt:s<n
       . have hsI:(s:Int)<n:=by omega
         (have hs0:0<=(s:Int):=by omega);obtain⟨b9,o9,he9,_,_,hc9⟩:=(RD1.fresh fr).at_ (r:=0) hlt;injection he9 with he9;injection he9 with hb9 ho9;subst hb9 ho9;(have hrow:((QE l).map cd2)[s]'(by rw [List.length_map,YJ,HL.out];exact hlt)=cd2 (Q6 l s):=by simp [QE]);have c0:=hc9 0 (by omega);have c1:=hc9 1 (by omega);rw [hrow]at c0 c1;have hstep:=Q8F l i s;have hle:=Q1U l i s (by have:=HL.out;omega);have hmul:(i+1)*l.length<=12*256:=Nat.mul_le_mul (by have:=HGK.out;omega) (by have:=HL.out;have:=HN.out;omega);obtain⟨L,hLe⟩:=nm_ ((Q6 l s).1);obtain⟨X,hXe⟩:=nm_ ((Q6 l s).2);obtain⟨P,hPe⟩:=nm_ (Z5 l i s);simp only [cd2,<-hLe,<-hXe,List.getElem?_cons_zero,List.getElem?_cons_succ]at c0 c1;simp at c0 c1;rw [<-hPe]at ov hle hstep;rw [<-hLe]at hstep;have HPL:=hd_ (show P.length<=3072 by omega);have hx0:=bo.cell 0;simp at hx0;obtain⟨A3,n3,c3,rfl,hn3⟩:=ov.form';(have hx1:∀o,(wr.alloc o).cell? ⟨C+1,0,none⟩=some (.slice A3 n3 c3):=λo=>by have:=(bo.alloc o).cell 0;simpa using this);have BO3:=hd_ bo;have OV3:=hd_ ov;have HV3:=hd_ hv;have BC3:=hd_ bc;have FR3:=hd_ fr;by_cases hLi:L=K
         . rw [if_pos (by have:=HKI.out;omega)]at hstep
           have HST:=hd_ hstep;have hLi':=hLi.symm;subst hLi';clear hc9 hrow hle hmul hLe hXe hPe bo ov hv bc fr hs hstep hn3 HIV;obtain⟨W2,hW2⟩:=nm_ ((wr.alloc (.cells #[.int .i64 (K:Nat),.int .u32 (X:Nat)] 133)).alloc (.cells #[.int .i64 (s:Nat)] 3))
           have hrd2:Rd W2 (λb=>b=wr.heap.size+1) (some ⟨wr.heap.size+1,0,none⟩) 1 [.int .i64 (s:Nat)]:=by
             rw [hW2];have:=Rd.one (wr.alloc (.cells #[.int .i64 (K:Nat),.int .u32 (X:Nat)] 133)) 3 (.int .i64 (s:Nat));simpa using this
           (have f22:Q0 wr W2:=by rw [hW2];exact((Upd.refl _ _).alloc _).alloc _);have HRD2:=hd_ hrd2;have F22:=hd_ f22;have HW2:=hd_ hW2;clear hrd2 f22 hW2;go_wp2_with (at_builtin;simp only [<-HW2.out];go_must (refine Qm _ rfl (.tmp 29) (.tmp 31) _ rfl 3 _ 8 underlying33 QV rfl (.slice A3 n3 c3) _ rfl (OV3.fresh F22.out) _ _ _ _ rfl HRD2.out (by simp [Value.oneCell']) (by omega) (by have:=HPL.out;simp [Yt];omega) ?_));intro v5 w5 o5 g5 a5;have hne:(Value.slice A3 n3 c3).ownBlock≠some (C+1):=OV3.ne_blk BO3.out (by decide);have hne2:(Value.slice A3 n3 c3).ownBlock≠some C:=OV3.ne_blk BC3.out (by decide);have bo5:=(BO3.fresh F22.out).grown g5 hne;have bc5:=(BC3.fresh F22.out).grown g5 hne2;have u5:Upd (λb=>(Value.slice A3 n3 c3).ownBlock=some b) wr w5:=(F22.mono (λ_ _ h=>h.elim)).grown g5 (λk hk _=>hk);have hv5:∀b,v5.ownBlock=some b->w1.heap.size<=b:=Yj (S:=λb=>w1.heap.size<=b) a5 (λk hk=>HV3 k hk) (by have:=FR3.size;have:=F22.size;omega);have hne5:v5.ownBlock≠some (C+1):=o5.ne_blk bo5 (by decide);have c5:=bo5.cell 0;have z5:=bo5.frozen 0;simp at c5;obtain⟨A5,n5,c5',rfl,hn5⟩:=o5.form';have BO5:=hd_ bo5;have BC5:=hd_ bc5;have HV5:=hd_ hv5;have HN5:=hd_ hne5;have O5:=hd_ o5;have FR5:=hd_ (FR3.trans u5 (λb hb h=>by have:=HV3 b h;omega));clear bo5 bc5 u5 hv5 hne5 o5 hne hne2 a5 g5 hn5;go_wp2_with fail;go_roundg (gk-1)
           case measure=>have:=HS.out;omega
           case rel =>
             have bs:=BO5.set_ 0 (.slice A5 n5 c5');simp at bs;refine⟨s+1,by have:=HS.out;omega,by go_num,_,bs,?_,HV5.out,BC5.far (by simp) _,FR5.setCell (p:=⟨C+1,0,none⟩) (λh=>by have:=HC.out;simp at h;omega) _⟩;rw [HST.out];have:=O5.far (p:=⟨C+1,0,none⟩) HN5.out (.slice A5 n5 c5');simpa [Yt]using this
         rw [if_neg (by have:=HKI.out;omega)]at hstep;have HST:=hd_ hstep;(have hLiI:¬(L:Int)=(K:Int):=by omega);clear hc9 hrow hle hmul hLe hXe hPe bo ov hv bc fr hs hstep hn3 HIV;go_wp2_with fail;go_roundg (gk-1)
         case measure=>have:=HS.out;omega
         case rel =>
           have fa:Q0 wr (wr.alloc (.cells #[.int .i64 (L:Nat),.int .u32 (X:Nat)] 133)):=(Upd.refl _ _).alloc _;exact⟨s+1,by have:=HS.out;omega,by go_num,_,BO3.fresh fa,by rw [HST.out];exact OV3.fresh fa,HV3.out,BC3.fresh fa,FR3.trans' fa⟩
       (have hsn:s=n:=by omega);(have hsI:¬(s:Int)<n:=by omega);have hol:=Q0W l i;rw [HL.out]at hol;rw [hsn,hol]at ov;have HIV2:=hd_ (show(∃v,Blk wr (C+1) 33 #[v]/\Own wr 3 v (Yt (Z5 l (i+1) 0))/\(∀b,v.ownBlock=some b->w1.heap.size<=b)/\Blk wr C 119 #[.slice (some ⟨g,0,none⟩) n n]/\Q0 w1 wr)from⟨v,bo,ov,hv,bc,fr⟩);clear bo ov hv bc fr hs hol HIV hsn hlt;go_wp2_with fail;go_roundg (10-i)
       case measure=>have:=HI.out;have:=HGK.out;omega
       case rel=>exact⟨i+1,K+1,by have:=HKI.out;omega,by have:=HI.out;have:=HGK.out;omega,by go_num,HIV2.out⟩
   (obtain rfl:i=11:=by omega);(have hlI:¬(K:Int)<=11:=by omega);rw [Q3u]at ov;have BO3:=hd_ bo;have OV3:=hd_ ov;have HV3:=hd_ hv;have BC3:=hd_ bc;have FR3:=hd_ fr;clear bo ov hv bc fr hi;go_wp2_with fail;(try go_ret);have h1:=F1.size;have h2:=HC.out;exact hR _ _ ⟨C+1,C,g,v,rfl,BO3.out,OV3.out,λb hb=>by have:=HV3 b hb;omega,BC3.out,RD1.fresh FR3.out,by omega,by omega,HG.out,F1.trans' FR3.out⟩
theorem Q8G (F:Nat->Prop) (A:Option Addr) (n c:Nat) (l:List Int) (w:World) (hr:Rd w F A n (Q7 l)) (ht:Qc l) (hn:n<=2^40) :
   Calls prog 200 #[.slice A n c] w λe w'=>e = .returned (.int .i64 (Qe l:Nat))/\w'=w:=by
 (have hL:l.length=n:=by have:=hr.1;simpa using this)
 have hpos:0<l.length:=by
   have h1:=ht.2.2.1;have h2:=ZE l;omega
 (have hnI:(n:Int)<=1099511627776:=by(have:(2:Nat)^40=1099511627776:=by decide);omega);(have hn0:(1:Int)<=n:=by omega)
 have hm:(Qe l:Int)=l.foldl max 0:=by
   have:=(Q2d l 0).1;unfold Qe;omega
 rw [hm];obtain⟨b0,o0,hk0,rfl,_,hc0⟩:=hr.int (k:=0) (by omega);have hz0:=(ht.1 _ (List.getElem_mem hk0)).1
 have h1:(l.take 1).foldl max 0=l[0]:=by
   rw [show l.take 1=[l[0]] by rw [List.take_succ_eq_append_getElem hk0];simp];simp only [List.foldl_cons,List.foldl_nil];exact Int.max_eq_right hz0
 have HR:=hd_ hr;have HL:=hd_ hL;have H1:=hd_ h1;obtain⟨x0,hx0⟩:=nm_ (l[0]);rw [<-hx0]at hc0 H1;simp only [Nat.add_zero]at hc0;have HP:=hd_ hpos;clear hr hL hn ht hm h1 hx0 hz0 hpos hk0;refine Q8 λR hR=>?_;go_enter func200,ntmps200;go_wp2_with fail;go_loopg [3,4] (n-1) (λf vm vi wr=>wr=w/\∃k:Nat,k+f=n/\0<k/\vi = .int .i64 k/\vm = .int .i64 ((l.take k).foldl max 0))
 case atStart=>exact⟨rfl,1,by have:=HP.out;have:=HL.out;omega,by omega,rfl,by rw [H1.out]⟩
 case round =>
   obtain⟨rfl,k,hk,hk0,rfl,rfl⟩:=hrel;have HK:=hd_ hk;have HK0:=hd_ hk0;(have hkI:(k:Int)<=1099511627776:=by omega);by_cases hlt:k<n
   . have hlI:(k:Int)<n:=by omega
     obtain⟨b,o,hkl,hA,_,hc⟩:=HR.int (k:=k) hlt;injection hA with hA;injection hA with hb ho;subst hb ho;have HTK:=hd_ (show(l.take (k+1)).foldl max 0=max ((l.take k).foldl max 0) l[k] by rw [List.take_succ_eq_append_getElem hkl,List.foldl_append];rfl);obtain⟨z,hz⟩:=nm_ (l[k]);simp only [<-hz]at hc HTK;obtain⟨S,hS⟩:=nm_ ((l.take k).foldl max 0);simp only [<-hS]at HTK|-;clear hz hS hk hk0;by_cases hSz:S<z
     . have HM:=hd_ (show max S z=z by omega)
       go_wp2_with fail;go_roundg (gk-1)
       case measure=>have:=HK.out;omega
       case rel=>exact⟨rfl,k+1,by have:=HK.out;omega,by omega,by go_num,by rw [HTK.out,HM.out]⟩
     have HM:=hd_ (show max S z=S by omega);(have hzS:z<=S:=by omega);go_wp2_with fail;go_roundg (gk-1)
     case measure=>have:=HK.out;omega
     case rel=>exact⟨rfl,k+1,by have:=HK.out;omega,by omega,by go_num,by rw [HTK.out,HM.out]⟩
   (obtain rfl:k=n:=by omega);have htl:l.take k=l:=List.take_of_length_le (by have:=HL.out;omega);rw [htl];clear htl hk hk0 HK;go_wp2_with fail;(try go_ret);exact hR _ _ ⟨rfl,rfl⟩
theorem Q0y (F:Nat->Prop) (A:Option Addr) (n c:Nat) (l:List Int) (w:World) (hr:Rd w F A n (Q7 l)) (hn:n<=2^40) (hc:n<=c) :
   Calls prog 151 #[.slice A n c] w λe w'=>Q0 w w'/\if Qc l then e = .returned (.tuple #[.int .i64 (Qe l:Nat),.int .i64 0])else e = .returned (.tuple #[.int .i64 0,.int .i64 12]):=by
 have hmf:∀(fn:Fn) (first cap:Array Value) (w:World),(Instr.makeFunc fn first cap).run prog w = .ok (.func fn first cap) w:=λ_ _ _ _=>rfl;obtain⟨w0,H,hw0,hH,f0,bo,be⟩:=Jw w 3 #[.int .i64 0] 24 #[.int .i64 0];have HOF:=hd_ (Q2e F A n c l w0 (hr.fresh f0) hn hc);have HCO:=hd_ (fun(ht:Qc l) W (hW:Q0 w0 W)=>Q8G F A n n l W ((hr.fresh f0).fresh hW) ht hn);have BO:=hd_ bo;have BE:=hd_ be;have F0:=hd_ f0;have HW:=hd_ hw0;have HH:=hd_ hH;(have hsz:(w.alloc (.cells #[.int .i64 0] 3)).heap.size=H+1:=by simp [hH]);clear hr hn hw0 hH f0 bo be hc;(have hfl:∀W,(Instr.field 243 (.agg #[.slice A n n]) 0).run prog W = .ok (.slice A n n) W:=λ_=>by kernel_rfl);refine Q8 λR hR=>?_;go_enter_defers func151,ntmps151;go_upto_region 1 with fail;simp only [hsz,<-HH.out,<-HW.out];clear hsz;by_cases ht:Qc l
 . have HCT:=hd_ (HCO ht)
   rw [if_pos ht]at HOF;have HTT:=hd_ ht;clear ht HCO;go_wp2_with fail;refine HOF.mono ?_;rintro e w1 ⟨rfl,f1⟩;have hcc:=HCT w1 f1;have HCC:=hd_ hcc;have BO1:=hd_ (BO.fresh f1);have BE1:=hd_ (BE.fresh f1);have F1:=hd_ (F0.trans' f1);clear f1 hcc HOF HCT;go_wp2_with fail;refine HCC.mono ?_;rintro e w2 ⟨rfl,rfl⟩;have f2:Q0 w2 w2:=Upd.refl _ _;have bo2:=BO1.fresh f2;have be2:=BE1.fresh f2;have c0:=bo2.cell 0;have z0:=bo2.frozen 0;have c1:=be2.cell 0;have z1:=be2.frozen 0;simp at c0 c1;have F2:=hd_ (F1.trans' f2);have BO2:=hd_ bo2;have BE2:=hd_ be2;clear f2 bo2 be2;go_wp2_with fail;change Leaves _ _ _ _ _ _ _;refine leaves_cons (f:=193) (args:=#[.pointer (some ⟨H+1,0,none⟩),.func (.func 199) #[] #[.pointer (some ⟨H,0,none⟩)]]) (by simp) (by simp [go_sem]) ?_;have b2:=(BO2.set_ 0 (.int .i64 (Qe l:Nat))).far (p:=⟨H+1,0,none⟩) (by simp) (.int .i64 0);have e2:=(BE2.far (p:=⟨H,0,none⟩) (by simp) (.int .i64 (Qe l:Nat))).set_ 0 (.int .i64 0);have d0:=b2.cell 0;have d1:=e2.cell 0;simp at d0 d1;refine(ZG _ _ _).mono ?_;rintro e u' w'' ⟨rfl,rfl,rfl⟩;have us:Upd (λb=>b=H\/b=H+1) w2 ((w2.setCell ⟨H,0,none⟩ (.int .i64 (Qe l:Nat))).setCell ⟨H+1,0,none⟩ (.int .i64 0)):=((Upd.refl (λb=>b=H\/b=H+1) w2).setCell (p:=⟨H,0,none⟩) (λ_=>.inl rfl) _).setCell (p:=⟨H+1,0,none⟩) (λ_=>.inr rfl) _;refine⟨.tuple #[.int .i64 (Qe l:Nat),.int .i64 0],?_,hR _ _ ⟨F2.trans us (λb hb e=>by have:=HH.out;omega),?_⟩⟩
   . simp [results,results151,go_sem,d0,d1]
   rw [if_pos HTT.out]
 rw [if_neg ht]at HOF;have HTT:=hd_ ht;clear ht HCO;go_wp2_with fail;refine HOF.mono ?_;rintro e w1 ⟨rfl,f1⟩;have b1:=BO.fresh f1;have e1:=BE.fresh f1;have F1:=hd_ (F0.trans' f1);simp only [Qa];change Leaves _ _ _ _ _ _ _;refine leaves_cons (f:=193) (args:=#[.pointer (some ⟨H+1,0,none⟩),.func (.func 199) #[] #[.pointer (some ⟨H,0,none⟩)]]) (by simp) (by simp [go_sem]) ?_;refine(Zy 199 #[.pointer (some ⟨H,0,none⟩)] (λb=>b=H) (λW=>Blk W H 3 #[.int .i64 0]) (H+1) 12 _ w1 e1 (by omega) (λ_ _=>rfl) (Q8R H _ w1 b1)).mono ?_;rintro e u' w'' ⟨rfl,rfl,w2,u2,b2,rfl⟩;have e2:=(e1.upd u2 (by omega)).set_ 0 (.int .i64 12);have b3:=b2.far (p:=⟨H+1,0,none⟩) (by simp) (.int .i64 12);have d0:=b3.cell 0;have d1:=e2.cell 0;simp at d0 d1;show Leaves _ _ _ _ [] .returning _;refine⟨.tuple #[.int .i64 0,.int .i64 12],?_,hR _ _ ⟨F1.trans (u2.mono (T:=λb=>b=H\/b=H+1) (λ_ _ h=>.inl h) |>.setCell (p:=⟨H+1,0,none⟩) (λ_=>.inr rfl) _) (λb hb e=>by have:=HH.out;omega),?_⟩⟩
 . simp [results,results151,go_sem,d0,d1]
 rw [if_neg HTT.out]
end Go.Proofs.YtckjdhaflokcgaaGreat
namespace Go.Proofs.YtckjdhaflokcgaaGreat
open Go.RowKit Go.Sort Go.Proofs.Tryz
def Cl (w1:World):World->Prop:=λw'=>∃pp:Regrown,w'=grow (redrawn w1 pp.d) pp.os
section
variable {F:Fence} {n:Nat} {P:Program} {ops:Array Oper} {md:Region.Mode} {C:World->Prop}
def Qb3 (F:Fence) (n:Nat) (P:Program) (md:Region.Mode) (ops:Array Oper) (C:World->Prop) (V:Nat->Value) (m:Nat) (L:Array Bool->Act->Prop):Nat->Array Bool->Act->Prop
  | 0,l,a=>L l a
  | f+1,l,a=>Region.ready md ops l≠[]/\∀i∈Region.ready md ops l,i<m/\∃o,ops[i]?=some o/\YieldsQuiet F n P ops C o (V i) a/\Qb3 F n P md ops C V m L f (l.setIfInBounds i true) (a.put o.dst (V i))
def wpV (F:Fence) (n:Nat) (P:Program) (ops:Array Oper) (C:World->Prop) (V:Nat->Value) (K:Act->Prop):List Oper->Nat->Act->Prop
  | [],_,a=>K a
  | o::os,k,a=>YieldsQuiet F n P ops C o (V k) a/\wpV F n P ops C V K os (k+1) (a.put o.dst (V k))
def QaS (md:Region.Mode) (ops:Array Oper) (g m:Nat):Nat->Nat->Array Bool->Bool
  | 0,_,l=>Region.seqB md ops g m l
  | f+1,k,l=>(Region.ready md ops l).contains k&&Region.free md ops l k&&QaS md ops g m f (k+1) (l.setIfInBounds k true)
end
section
variable {F:Fence} {n:Nat} {P:Program} {C:World->Prop}
def Qbc (ops:Array Oper) (i e:Nat):Bool :=
  (match ops[i]? with|some oi=>oi.after.all (λd=>!Region.binds .any d)&&(List.range (i+1)).all (λj=>j == i||(match ops[j]? with|some oj=>oi.apart ops oj|none=>true))|none=>false) &&
  Region.noSelect ops&&decide (i+1<ops.size)&&Region.sinkB .any ops (i+1)&&Region.chainB .any ops (i+1)&&Region.waitsFor .any ops (i+1) i &&
  QaS .any ops (ops.size-(i+1)) (i+1) i 0 ((Array.replicate ops.size false).setIfInBounds i true)
end
end Go.Proofs.YtckjdhaflokcgaaGreat
namespace Go.Proofs.YtckjdhaflokcgaaGreat
open Go.RowKit Go.Proofs.Tryz
theorem Q00 (er:Int) (w:World):Calls prog 150 #[.bool true,.int .i64 er] w λe w'=>e = .returned (.tuple #[])/\w'=w:=by
 refine Q8 λR hR=>?_;go_enter func150,ntmps150;go_wp2_with fail;(try go_end0);exact hR _ _ ⟨rfl,rfl⟩
theorem Q7A (er:Int) (w:World):Calls prog 150 #[.bool false,.int .i64 er] w λe w'=>e=Qa er/\w'=w:=by
 refine Q8 λR hR=>?_;go_enter func150,ntmps150;go_wp2_with fail;exact⟨rfl,hR _ _ ⟨rfl,rfl⟩⟩
theorem Zz (b c:Nat) (w:World) (h:w.cell? ⟨b,0,none⟩=some (.int .i64 0)):Calls prog 95 #[.slice (some ⟨b,0,none⟩) 1 c] w λe w'=>e = .returned (.tuple #[])/\w'=w:=by
 refine Q8 λR hR=>?_;go_enter func95,ntmps95;go_wp2_with fail;go_loopg [6] 1 (λf vi wr=>∃k:Nat,k+f=1/\vi = .int .i64 k/\wr=w)
 case atStart=>exact⟨0,rfl,rfl,rfl⟩
 case round =>
   obtain⟨k,hk,rfl,rfl⟩:=hrel;rcases(show k=0\/k=1 by omega)with rfl|rfl
   . go_wp2_with fail
     go_roundg 0
     case measure=>omega
     case rel=>exact⟨1,rfl,by go_num,rfl⟩
   go_wp2_with fail;(try go_end0);exact hR _ _ ⟨rfl,rfl⟩
theorem ZA (er:Int) (b c:Nat) (w:World) (h:w.cell? ⟨b,0,none⟩=some (.int .i64 er)) (her:er≠0):Calls prog 95 #[.slice (some ⟨b,0,none⟩) 1 c] w λe w'=>e=Qa er/\w'=w:=by
 (have h0:(er == 0)=false:=by simpa using her);clear her;refine Q8 λR hR=>?_;go_enter func95,ntmps95;go_wp2_with fail;go_loopg [6] 1 (λf vi wr=>f=1/\vi = .int .i64 0/\wr=w)
 case atStart=>exact⟨rfl,rfl,rfl⟩
 case round =>
   obtain⟨rfl,rfl,rfl⟩:=hrel;go_wp2_with fail;exact⟨rfl,hR _ _ ⟨rfl,rfl⟩⟩
theorem QaF (f:Nat):∀(i n:Nat) (l:List Nat),(YM f i n l).1<=4611686018427387903:=by
 induction f with
 | zero=>intro i n l;simp [YM]
 | succ f ih =>
   intro i n l
   cases l with
   | nil=>simp [YM]
   | cons x xs =>
     unfold YM;split
     . exact ih _ _ _
     split
     . simp
     split
     . simp
     next h=>simp only;omega
theorem Q24 (l:List Nat):(Qt l).1<=4611686018427387903:=QaF _ _ _ _
theorem Q6R (pe pf px pc:Addr) (u:FrameMode) (w:World) (he:w.cell? pe=some (.int .i64 0)) :
   CallsD prog 297 #[.pointer (some pe),.pointer (some pf),.pointer (some px),.pointer (some pc)] u w λe u' w'=>u'=u/\(e = .returned (.tuple #[])/\w'=w):=by
 go_enter_d func297,ntmps297;go_wp2;go_end0;exact⟨rfl,rfl⟩
theorem Q6S (g H:Nat) (at_ a':Nat) (x er:Int) (her:(er == 0)=false) (A:Option Addr) (n c:Nat) (u:FrameMode) (w:World)
   (b0:Blk w H 46 #[.pointer (some ⟨g,0,none⟩)]) (b1:Blk w (H+1) 3 #[.int .i64 x]) (b2:Blk w (H+1+1) 24 #[.int .i64 er]) (b3:Blk w (H+1+1+1) 3 #[.int .i64 at_])
   (bg:Blk w g 96 #[.slice A n c,.int .i64 a']) (hg:g<H) :
   CallsD prog 297 #[.pointer (some ⟨H+1+1,0,none⟩),.pointer (some ⟨H+1+1+1,0,none⟩),.pointer (some ⟨H+1,0,none⟩),.pointer (some ⟨H,0,none⟩)] u w λe u' w'=>u'=u/\(e = .returned (.tuple #[]) /\
     w'=(w.setCell ⟨H+1,0,none⟩ (.int .i64 0)).setCell ⟨g,1,none⟩ (.int .i64 at_)):=by
 have c0:=b0.cell0;have c1:=b1.cell0;have c2:=b2.cell0;have c3:=b3.cell0;have z1:=b1.frozen 0;have zg:=bg.frozen 1;have g1:=bg.cell 1;simp at g1;(have her2:¬er=0:=by simpa using her);go_enter_d func297,ntmps297;go_wp2;go_end0;exact⟨rfl,rfl⟩
def Qn (most:Nat) (l:List Nat):Nat × Nat × Int:=if(Qt l).2.2=0/\most<(Qt l).1 then(0,0,18)else Qt l
theorem Qa1 {most:Nat} {l:List Nat} (h:(Qn most l).2.2≠0):(Qn most l).1=0:=by
 unfold Qn at h|-;split
 . rfl
 next h2=>rw [if_neg h2]at h;exact Q18 h
theorem Vc {most:Nat} {l:List Nat} (h:(Qn most l).2.2=0):(Qn most l).1<=most:=by
 unfold Qn at h|-;split
 . simp
 next h2=>rw [if_neg h2]at h;omega
theorem Qa2 (F:Nat->Prop) (g pc pm most:Nat) (bs:List Nat) (at_:Nat) (w:World) (hcu:Q4 w F g bs at_)
   (bc:Blk w pc 46 #[.pointer (some ⟨g,0,none⟩)]) (bm:Blk w pm 3 #[.int .i64 (most:Nat)]) (hm:most<=2^40) (hF:∀b,F b->b≠g) :
   Calls prog 263 #[.pointer (some ⟨pc,0,none⟩),.pointer (some ⟨pm,0,none⟩)] w λe w'=>(∃v:Int,e = .returned (.tuple #[.int .i64 v,.int .i64 (Qn most (bs.drop at_)).2.2])/\((Qn most (bs.drop at_)).2.2=0->v=(Qn most (bs.drop at_)).1)) /\
     Upd (λb=>b=g) w w'/\∃a',Q4 w' F g bs a'/\((Qn most (bs.drop at_)).2.2=0->a'=at_+(Qn most (bs.drop at_)).2.1):=by
 have HCV:=hd_ (Q48 F g bs at_ w hcu hF);(have hpm:pm≠g:=by obtain⟨A,c,hb,_⟩:=hcu;exact bm.ne_ hb (by decide));have hc0:=bc.cell0;have BM:=hd_ bm;unfold Qn;have hL:=Q24 (bs.drop at_);generalize Qt (bs.drop at_)=V at *;obtain⟨v,k,er⟩:=V;simp only at HCV hL|-;(have hmI:(most:Int)<=1099511627776:=by omega);(have hvI:(v:Int)<=4611686018427387903:=by omega);(have hwm:IntKind.u64.wrap (most:Int)=most:=by unfold IntKind.wrap;simp [IntKind.bits];omega);have hwv:IntKind.i64.wrap (v:Int)=v:=IntWalk.i64_in _ (by omega);(have hmx:max (most:Int) 0=most:=by omega);have HPM:=hd_ hpm;clear hcu bc bm hm hL hpm;refine Q8 λR hR=>?_;go_enter func263,ntmps263;by_cases h0:er=0
 . subst h0
   simp only [if_true]at HCV;go_wp2_with fail;refine HCV.mono ?_;rintro e w1 ⟨rfl,u1,c1⟩;have m0:=(BM.upd u1 HPM.out).cell0;have U1:=hd_ u1;have C1:=hd_ c1;clear u1 c1 HCV;by_cases h1:most<v
   . have h1I:(most:Int)<v:=by omega
     simp only [h1,and_self,if_true]at hR;clear h1;go_wp2_with fail;(try go_ret);exact hR _ _ ⟨⟨_,rfl,λh=>absurd h (by decide)⟩,U1.out,_,C1.out,λh=>absurd h (by decide)⟩
   (have h1I:¬(most:Int)<v:=by omega);simp only [h1,and_false,if_false]at hR;clear h1;go_wp2_with fail;(try go_ret);exact hR _ _ ⟨⟨_,rfl,λ_=>rfl⟩,U1.out,_,C1.out,λ_=>rfl⟩
 (have hb:(er == 0)=false:=by simpa using h0);simp only [h0,false_and,if_false]at hR;simp only [if_neg h0]at HCV;have H0:=hd_ h0;clear h0;go_wp2_with fail;refine HCV.mono ?_;rintro e w1 ⟨rfl,u1,c1⟩;have U1:=hd_ u1;have C1:=hd_ c1;clear u1 c1 HCV;go_wp2_with fail;(try go_ret);exact hR _ _ ⟨⟨_,rfl,λh=>by first|exact absurd h H0.out|exact h.elim⟩,U1.out,_,C1.out,λh=>by first|exact absurd h H0.out|exact h.elim⟩
theorem Q8H (F:Nat->Prop) (g pc pm most:Nat) (bs:List Nat) (at_:Nat) (w:World) (hcu:Q4 w F g bs at_)
   (bc:Blk w pc 46 #[.pointer (some ⟨g,0,none⟩)]) (bm:Blk w pm 3 #[.int .i64 (most:Nat)]) (hm:most<=2^40) (hF:∀b,F b->b≠g) :
   Calls prog 262 #[.pointer (some ⟨g,0,none⟩),.func (.func 263) #[] #[.pointer (some ⟨pc,0,none⟩),.pointer (some ⟨pm,0,none⟩)]] w λe w' =>
     e = .returned (.tuple #[.int .i64 ((Qn most (bs.drop at_)).1:Nat),.int .i64 (Qn most (bs.drop at_)).2.2])/\Upd (λb=>b=g) w w' /\
       Q4 w' F g bs (if(Qn most (bs.drop at_)).2.2=0 then at_+(Qn most (bs.drop at_)).2.1 else at_):=by
 have hmf:∀(fn:Fn) (first cap:Array Value) (w:World),(Instr.makeFunc fn first cap).run prog w = .ok (.func fn first cap) w:=λ_ _ _ _=>rfl;have hg:=hcu.lt
 have hat:w.cell? ⟨g,1,none⟩=some (.int .i64 at_):=by
   obtain⟨A,c,hb,_⟩:=hcu;simpa using hb.cell 1
 (have hat9:at_<=bs.length:=by obtain⟨A,c,_,_,_,h,_⟩:=hcu;exact h);have HAT9:=hd_ hat9;have HV0:=hd_ (λh:(Qn most (bs.drop at_)).2.2≠0=>Qa1 h);have hb1':=λW (hW:Q0 w W)=>Qa2 (λb=>F b/\b<w.heap.size) g pc pm most bs at_ W (hcu.both.fresh hW) (bc.fresh hW) (bm.fresh hW) hm (λb hb=>hF b hb.1);have HB1:=hd_ hb1';have HCU:=hd_ hcu;clear hcu bc bm hm hb1' hat9;generalize Qn most (bs.drop at_)=V at *;obtain⟨v9,k,er⟩:=V;simp only at HB1 HV0|-;(have hg1:g<w.heap.size+1:=by omega);(have hg2:g<w.heap.size+1+1:=by omega);(have hg3:g<w.heap.size+1+1+1:=by omega);refine Q8 λR hR=>?_;go_enter_defers func262,ntmps262;go_wp2_with fail;obtain⟨H,hH⟩:=nm_ (w.heap.size);rw [<-hH]at hg hg1 hg2 hg3;simp only [<-hH];obtain⟨W0,hW0⟩:=nm_ ((((w.alloc (.cells #[.pointer (some ⟨g,0,none⟩)] 46)).alloc (.cells #[.int .i64 0] 3)).alloc (.cells #[.int .i64 0] 24)).alloc (.cells #[.int .i64 at_] 3));rw [<-hW0];(have f0:Q0 w W0:=by rw [hW0];exact((((Upd.refl _ w).alloc _).alloc _).alloc _).alloc _);(have k0:Blk W0 H 46 #[.pointer (some ⟨g,0,none⟩)]:=by rw [hW0];exact(((Qb (by simp [hH]) _ _).alloc _).alloc _).alloc _);(have k1:Blk W0 (H+1) 3 #[.int .i64 0]:=by rw [hW0];exact((Qb (by simp [hH]) _ _).alloc _).alloc _);(have k2:Blk W0 (H+1+1) 24 #[.int .i64 0]:=by rw [hW0];exact(Qb (by simp [hH]) _ _).alloc _);(have k3:Blk W0 (H+1+1+1) 3 #[.int .i64 at_]:=by rw [hW0];exact Qb (by simp [hH]) _ _);clear hW0;have HH:=hd_ hH;clear hH;refine(HB1 W0 f0).mono ?_;rintro e w1 ⟨⟨v,rfl,hv⟩,u1,a',c1,ha'⟩;have HVV:=hd_ hv;clear hv;have j0:=k0.upd u1 (by omega);have j1:=k1.upd u1 (by omega);have j2:=k2.upd u1 (by omega);have j3:=k3.upd u1 (by omega);have uu:Upd (λb=>b=g) w w1:=(f0.mono (λ_ _ h=>h.elim)).trans' u1;have d1:=j1.cell0;have d2:=j2.cell0;have z1:=j1.frozen 0;have z2:=j2.frozen 0;have J0:=hd_ j0;have J1:=hd_ j1;have J2:=hd_ j2;have J3:=hd_ j3;have HC1:=hd_ c1;have HA':=hd_ ha';have UU:=hd_ uu;clear j0 j1 j2 j3 k0 k1 k2 k3 c1 ha' u1 uu;go_wp2;have L0:=(J0.far (p:=⟨H+1,0,none⟩) (by simp) (.int .i64 v)).far (p:=⟨H+1+1,0,none⟩) (by simp;omega) (.int .i64 er);have L1:=(J1.set_ 0 (.int .i64 v)).far (p:=⟨H+1+1,0,none⟩) (by simp) (.int .i64 er);have L2:=(J2.far (p:=⟨H+1,0,none⟩) (by simp) (.int .i64 v)).set_ 0 (.int .i64 er);have L3:=(J3.far (p:=⟨H+1,0,none⟩) (by simp;omega) (.int .i64 v)).far (p:=⟨H+1+1,0,none⟩) (by simp) (.int .i64 er);have hd2:=L2.cell0;have hd1:=L1.cell0;have u3:Upd (λb=>b=g) w ((w1.setCell ⟨H+1,0,none⟩ (.int .i64 v)).setCell ⟨H+1+1,0,none⟩ (.int .i64 er)):=(UU.setCell (p:=⟨H+1,0,none⟩) (λh=>by have:=HH.out;simp at h;omega) _).setCell (p:=⟨H+1+1,0,none⟩) (λh=>by have:=HH.out;simp at h;omega) _
 have m1:=HC1.upd (S:=λb=>b=H+1) ((Upd.refl (λb=>b=H+1) _).setCell (p:=⟨H+1,0,none⟩) (λ_=>rfl) (.int .i64 v)) (by omega) (λb _ hb e=>by have:=hb.2;have:=HH.out;omega);have m2:=m1.upd (S:=λb=>b=H+1+1) ((Upd.refl (λb=>b=H+1+1) _).setCell (p:=⟨H+1+1,0,none⟩) (λ_=>rfl) (.int .i64 er)) (by omega) (λb _ hb e=>by have:=hb.2;have:=HH.out;omega);change Leaves _ _ _ _ _ _ _;refine leaves_cons (f:=297) (args:=#[.pointer (some ⟨H+1+1,0,none⟩),.pointer (some ⟨H+1+1+1,0,none⟩),.pointer (some ⟨H+1,0,none⟩),.pointer (some ⟨H,0,none⟩)]) (by simp) (by simp [go_sem]) ?_;by_cases her:er=0
 . subst her
   refine(Q6R _ _ _ _ .returning _ hd2).mono ?_;rintro e u' w'' ⟨rfl,rfl,rfl⟩;refine⟨.tuple #[.int .i64 v,.int .i64 0],?_,hR _ _ ⟨by rw [HVV.out rfl],u3,?_⟩⟩
   . simp [results,results262,go_sem,hd1,hd2]
   rw [if_pos rfl,<-HA'.out rfl];exact m2.mono λb hb=>hb.1
 obtain⟨A,c,hb,hr,hq1,hq2,hq3,hq4⟩:=m2;refine(Q6S g H at_ a' v er (by simpa using her) A bs.length c .returning _ (by simpa using L0) (by simpa using L1) (by simpa using L2) (by simpa using L3) hb hg).mono ?_;rintro e u' w'' ⟨rfl,rfl,rfl⟩;refine⟨.tuple #[.int .i64 0,.int .i64 er],?_,hR _ _ ⟨by rw [HV0.out her];rfl,?_,?_⟩⟩
 . have M1:=((L1.set_ 0 (.int .i64 0)).far (p:=⟨g,1,none⟩) (by simp;omega) (.int .i64 at_))
   have M2:=((L2.far (p:=⟨H+1,0,none⟩) (by simp) (.int .i64 0)).far (p:=⟨g,1,none⟩) (by simp;omega) (.int .i64 at_));have e1:=M1.cell0;have e2:=M2.cell0;simp [results,results262,go_sem,e1,e2]
 . exact(u3.setCell (p:=⟨H+1,0,none⟩) (λh=>by have:=HH.out;simp at h;omega) _).setCell (p:=⟨g,1,none⟩) (λ_=>rfl) _
 rw [if_neg her];have hb2:=(hb.far (p:=⟨H+1,0,none⟩) (by simp;omega) (.int .i64 0)).set_ 1 (.int .i64 (at_:Nat))
 have u5:Upd (λb=>b=g\/b=H+1) ((w1.setCell ⟨H+1,0,none⟩ (.int .i64 v)).setCell ⟨H+1+1,0,none⟩ (.int .i64 er)) ((((w1.setCell ⟨H+1,0,none⟩ (.int .i64 v)).setCell ⟨H+1+1,0,none⟩ (.int .i64 er)).setCell ⟨H+1,0,none⟩ (.int .i64 0)).setCell ⟨g,1,none⟩ (.int .i64 at_)) :=
   ((Upd.refl (λb=>b=g\/b=H+1) _).setCell (p:=⟨H+1,0,none⟩) (λ_=>.inr rfl) _).setCell (p:=⟨g,1,none⟩) (λ_=>.inl rfl) _
 refine⟨A,c,by simpa using hb2,(hr.upd u5 (λb _ hb e=>?_)).mono λb hb=>hb.1,hq1,HAT9.out,hq3,hq4⟩;rcases e with e|e
 . exact hF b hb.1 e
 have:=hb.2;have:=HH.out;omega
theorem Q3C (F:Nat->Prop) (g most:Nat) (bs:List Nat) (at_:Nat) (w:World) (hcu:Q4 w F g bs at_) (hm:most<=2^40) (hF:∀b,F b->b≠g) :
   Calls prog 223 #[.pointer (some ⟨g,0,none⟩),.int .i64 (most:Nat)] w λe w' =>
     e = .returned (.tuple #[.int .i64 ((Qn most (bs.drop at_)).1:Nat),.int .i64 (Qn most (bs.drop at_)).2.2])/\Upd (λb=>b=g) w w' /\
       Q4 w' F g bs (if(Qn most (bs.drop at_)).2.2=0 then at_+(Qn most (bs.drop at_)).2.1 else at_):=by
 have hmf:∀(fn:Fn) (first cap:Array Value) (w:World),(Instr.makeFunc fn first cap).run prog w = .ok (.func fn first cap) w:=λ_ _ _ _=>rfl;obtain⟨H,hH⟩:=nm_ (w.heap.size);have hr:=Q8H F g H (H+1) most bs at_ ((w.alloc (.cells #[.pointer (some ⟨g,0,none⟩)] 46)).alloc (.cells #[.int .i64 (most:Nat)] 3)) (hcu.fresh (((Upd.refl _ w).alloc _).alloc _)) ((Qb hH _ _).alloc _) (Qb (by simp [hH]) _ _) hm hF;rw [hH]at hr;have HR:=hd_ hr;clear hr hcu hH H hm;generalize (if(Qn most (bs.drop at_)).2.2=0 then at_+(Qn most (bs.drop at_)).2.1 else at_)=P at *;generalize Qn most (bs.drop at_)=V at *;refine Q8 λR hR=>?_;go_enter func223,ntmps223;go_wp2_with fail;refine HR.mono ?_;rintro e w1 ⟨rfl,u1,c1⟩;go_wp2;(try go_ret2);exact hR _ _ ⟨rfl,(((Upd.refl (λb=>b=g) w).alloc _).alloc _).trans' u1,c1⟩
theorem Q4l (er:Int) (w:World):Calls prog 176 #[.bool true,.int .i64 er] w λe w'=>e = .returned (.tuple #[])/\w'=w:=by
 refine Q8 λR hR=>?_;go_enter func176,ntmps176;go_wp2_with fail;(try go_end0);exact hR _ _ ⟨rfl,rfl⟩
theorem Q4m (er:Int) (w:World):Calls prog 176 #[.bool false,.int .i64 er] w λe w'=>e=Qa er/\w'=w:=by
 refine Q8 λR hR=>?_;go_enter func176,ntmps176;go_wp2_with fail;exact⟨rfl,hR _ _ ⟨rfl,rfl⟩⟩
theorem JC (b c:Nat) (w:World) (h:w.cell? ⟨b,0,none⟩=some (.int .i64 0)):Calls prog 152 #[.slice (some ⟨b,0,none⟩) 1 c] w λe w'=>e = .returned (.tuple #[])/\w'=w:=by
 refine Q8 λR hR=>?_;go_enter func152,ntmps152;go_wp2_with fail;go_loopg [6] 1 (λf vi wr=>∃k:Nat,k+f=1/\vi = .int .i64 k/\wr=w)
 case atStart=>exact⟨0,rfl,rfl,rfl⟩
 case round =>
   obtain⟨k,hk,rfl,rfl⟩:=hrel;rcases(show k=0\/k=1 by omega)with rfl|rfl
   . go_wp2_with fail
     go_roundg 0
     case measure=>omega
     case rel=>exact⟨1,rfl,by go_num,rfl⟩
   go_wp2_with fail;(try go_end0);exact hR _ _ ⟨rfl,rfl⟩
theorem JB (er:Int) (b c:Nat) (w:World) (h:w.cell? ⟨b,0,none⟩=some (.int .i64 er)) (her:er≠0):Calls prog 152 #[.slice (some ⟨b,0,none⟩) 1 c] w λe w'=>e=Qa er/\w'=w:=by
 (have h0:(er == 0)=false:=by simpa using her);clear her;refine Q8 λR hR=>?_;go_enter func152,ntmps152;go_wp2_with fail;go_loopg [6] 1 (λf vi wr=>f=1/\vi = .int .i64 0/\wr=w)
 case atStart=>exact⟨rfl,rfl,rfl⟩
 case round =>
   obtain⟨rfl,rfl,rfl⟩:=hrel;go_wp2_with fail;exact⟨rfl,hR _ _ ⟨rfl,rfl⟩⟩
theorem Q7H (cf:Nat) (caps:Array Value) (w:World) (hcf:∀args W,(callFunc cf args).run prog W = .ok (.enter cf args) W) (Q:Value->World->Prop)
   (HC:Calls prog cf caps w λe w'=>∃v,e = .returned (.tuple #[v,.int .i64 0])/\Q v w') :
   Calls prog 264 #[.func (.func cf) #[] caps] w λe w'=>∃v w1,e = .returned v/\Q v w1/\Q0 w1 w':=by
 have HCL:=hd_ HC;clear HC;refine Q8 λR hR=>?_;go_enter func264,ntmps264;go_wp2_with fail;refine HCL.mono ?_;rintro e w1 ⟨v,rfl,q1⟩;have Q1:=hd_ q1;clear q1 HCL;go_wp2_with fail;refine(JC _ _ _ (by simpa using(Blk.new w1 24 #[.int .i64 0]).cell 0)).mono ?_;rintro e w2 ⟨rfl,rfl⟩;go_wp2_with fail;(try go_ret);exact hR _ _ ⟨v,w1,rfl,Q1.out,(Upd.refl _ _).alloc _⟩
theorem Q7I (cf:Nat) (caps:Array Value) (er:Int) (w:World) (hcf:∀args W,(callFunc cf args).run prog W = .ok (.enter cf args) W) (Q:World->Prop) (her:er≠0)
   (HC:Calls prog cf caps w λe w'=>∃v,e = .returned (.tuple #[v,.int .i64 er])/\Q w') :
   Calls prog 264 #[.func (.func cf) #[] caps] w λe w'=>∃w1,e=Qa er/\Q w1/\Q0 w1 w':=by
 have HCL:=hd_ HC;have HER:=hd_ her;clear HC her;refine Q8 λR hR=>?_;go_enter func264,ntmps264;go_wp2_with fail;refine HCL.mono ?_;rintro e w1 ⟨v,rfl,q1⟩;have Q1:=hd_ q1;clear q1 HCL;go_wp2_with fail;refine(JB er _ _ _ (by simpa using(Blk.new w1 24 #[.int .i64 er]).cell 0) HER.out).mono ?_;rintro e w2 ⟨rfl,rfl⟩;simp only [Qa];exact⟨rfl,hR _ _ ⟨w1,rfl,Q1.out,(Upd.refl _ _).alloc _⟩⟩
theorem Q7F (cf:Nat) (caps:Array Value) (w:World) (hcf:∀args W,(callFunc cf args).run prog W = .ok (.enter cf args) W) (Q:Value->World->Prop)
   (HC:Calls prog cf caps w λe w'=>∃v,e = .returned (.tuple #[v,.int .i64 0])/\Q v w') :
   Calls prog 221 #[.func (.func cf) #[] caps] w λe w'=>∃v w1,e = .returned v/\Q v w1/\Q0 w1 w':=by
 have HCL:=hd_ HC;clear HC;refine Q8 λR hR=>?_;go_enter func221,ntmps221;go_wp2_with fail;refine HCL.mono ?_;rintro e w1 ⟨v,rfl,q1⟩;have Q1:=hd_ q1;clear q1 HCL;go_wp2_with fail;refine(JC _ _ _ (by simpa using(Blk.new w1 24 #[.int .i64 0]).cell 0)).mono ?_;rintro e w2 ⟨rfl,rfl⟩;go_wp2_with fail;(try go_ret);exact hR _ _ ⟨v,w1,rfl,Q1.out,(Upd.refl _ _).alloc _⟩
theorem Q7G (cf:Nat) (caps:Array Value) (er:Int) (w:World) (hcf:∀args W,(callFunc cf args).run prog W = .ok (.enter cf args) W) (Q:World->Prop) (her:er≠0)
   (HC:Calls prog cf caps w λe w'=>∃v,e = .returned (.tuple #[v,.int .i64 er])/\Q w') :
   Calls prog 221 #[.func (.func cf) #[] caps] w λe w'=>∃w1,e=Qa er/\Q w1/\Q0 w1 w':=by
 have HCL:=hd_ HC;have HER:=hd_ her;clear HC her;refine Q8 λR hR=>?_;go_enter func221,ntmps221;go_wp2_with fail;refine HCL.mono ?_;rintro e w1 ⟨v,rfl,q1⟩;have Q1:=hd_ q1;clear q1 HCL;go_wp2_with fail;refine(JB er _ _ _ (by simpa using(Blk.new w1 24 #[.int .i64 er]).cell 0) HER.out).mono ?_;rintro e w2 ⟨rfl,rfl⟩;simp only [Qa];exact⟨rfl,hR _ _ ⟨w1,rfl,Q1.out,(Upd.refl _ _).alloc _⟩⟩
theorem Q66 (F:Nat->Prop) (g:Nat) (bs:List Nat) (at_:Nat) (w:World) (hcu:Q4 w F g bs at_) (hF:∀b,F b->b≠g) :
   Calls prog 179 #[.func (.func 120) #[.pointer (some ⟨g,0,none⟩)] #[]] w λe w' =>
     Upd (λb=>b=g) w w'/\if at_<bs.length then e = .returned (.int .u8 ((bs[at_]?.getD 0:Nat):Int))/\Q4 w' F g bs (at_+1)else e=Qa 3/\Q4 w' F g bs at_:=by
 (have hle:at_<=bs.length:=by obtain⟨_,_,_,_,_,h,_⟩:=hcu;exact h);refine Q8 λR hR=>?_;by_cases h:at_<bs.length
 . have HC:=hd_ (Q16 F g bs at_ w hcu h hF)
   simp only [if_pos h]at hR;clear hcu hF h hle;go_enter func179,ntmps179;go_wp2_with fail;refine HC.mono ?_;rintro e w1 ⟨rfl,u1,c1⟩;have U1:=hd_ u1;have C1:=hd_ c1;clear u1 c1 HC;go_wp2_with fail;refine(JC _ _ _ (by simpa using(Blk.new w1 24 #[.int .i64 0]).cell 0)).mono ?_;rintro e w2 ⟨rfl,rfl⟩;go_wp2_with fail;(try go_ret);exact hR _ _ ⟨U1.alloc _,rfl,C1.fresh ((Upd.refl _ _).alloc _)⟩
 have HC:=hd_ (Q0a F g bs at_ w hcu (by omega) hF);simp only [if_neg h]at hR;clear hcu hF h hle;go_enter func179,ntmps179;go_wp2_with fail;refine HC.mono ?_;rintro e w1 ⟨rfl,u1,c1⟩;have U1:=hd_ u1;have C1:=hd_ c1;clear u1 c1 HC;go_wp2_with fail;refine(JB 3 _ _ _ (by simpa using(Blk.new w1 24 #[.int .i64 3]).cell 0) (by decide)).mono ?_;rintro e w2 ⟨rfl,rfl⟩;simp only [Qa];exact⟨rfl,hR _ _ ⟨U1.alloc _,rfl,C1.fresh ((Upd.refl _ _).alloc _)⟩⟩
theorem YK (b:Bool) (er:Int) (w:World) (hb:b=true):Calls prog 176 #[.bool b,.int .i64 er] w λe w'=>e = .returned (.tuple #[])/\w'=w:=hb ▸ Q4l er w
theorem Yi (b:Bool) (er:Int) (w:World) (hb:b=false):Calls prog 176 #[.bool b,.int .i64 er] w λe w'=>e=Qa er/\w'=w:=hb ▸ Q4m er w
section
variable {P:Program} (w:World)
theorem Q3Z {ops:Array Oper} {o:Oper} {a:Act} {K:Act->World->Prop} {Q:Exit->Act->World->Prop} {E:Prop} (hgd:o.guard=none) (s x:Operand) (t:TypeId)
   (ho:o.op = .call { callee:=.builtin .append,args:=#[s,x],argTypes:=#[t,t] }) (e:TypeId) (z:Value) (k Q2:Nat) (ht:P.underlying t=some (.slice e)) (hi:(P.info? e).map (λi=>(i.zero,i.size,i.bytes))=some (some z,k,Q2)) (hzs:z.cells.size=k) (hk:0<k) (hby:Q2<=1024)
   (v:Value) (rows:List (List Value)) (hs:a.eval s=v) (hown:QS w e k v rows) (kb cap:Nat) (row:List Value) (hrow:row.length=k) (h1:∀u∈row,u.oneCell'=true) (hx:a.eval x = .slice (some ⟨kb,0,none⟩) 1 cap) (hb:Blk w kb e row.toArray) (hlen:rows.length<=2^30)
   (h:∀g cap w',QS w' e k (.slice (some ⟨g,0,none⟩) (rows.length+1) cap) (rows++[row])->w.grownBy w' v.ownBlock->(v.ownBlock=some g\/g=w.heap.size)->g<w'.heap.size->K (a.put o.dst (.slice (some ⟨g,0,none⟩) (rows.length+1) cap)) w') :
   if Region.wanted o (yielded ops a.tmps)=true then Oper.wp P o a w K Q else E:=by
 obtain⟨i,hi0,hz,hsize,hbyt⟩:=info_parts hi
 have hcells:∀(j:Nat) u,row[j]?=some u->w.cell? ((⟨kb,0,none⟩:Addr).add j)=some u:=by
   intro j u hu;rw [Addr.add_lit,hb.cells j u (by simpa using hu)]
 have hmul:(rows.length+1)*Q2<=140737488355328:=Nat.le_trans (Nat.mul_le_mul (show rows.length+1<=2^30+1 by omega) hby) (by decide);refine step_append_lies w hgd s x _ ho 0 e i z k Q2 ht hi0 hz hsize hbyt hzs hk v rows.length _ hs hown.1 ⟨kb,0,none⟩ 1 cap row hx (by omega) hcells h1 (by omega) (by simp only [maxLen];omega) hmul (Nat.zero_le _) _ rfl ?_;intro g cap w' h2 h3 h4 h5;refine h g cap w' ⟨?_,?_⟩ h3 h4 h5
 . rw [List.flatten_append,List.length_append]
   simpa using h2
 intro r hr;rcases List.mem_append.1 hr with hr|hr
 . exact hown.2 r hr
 rw [List.mem_singleton.1 hr];exact hrow
end
end Go.Proofs.YtckjdhaflokcgaaGreat
