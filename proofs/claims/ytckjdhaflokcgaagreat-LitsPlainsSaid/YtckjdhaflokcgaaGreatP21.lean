/-
  Joined texts, part 21: contracts and plain lemmas.
  Conditions: none beyond those of each theorem.
-/
import Derived.Test.YtckjdhaflokcgaaGreatP17
import Derived.Test.YtckjdhaflokcgaaGreatP12
set_option maxHeartbeats 8000000
set_option linter.unusedVariables false
set_option linter.unusedSimpArgs false
set_option linter.unnecessarySimpa false
set_option maxRecDepth 100000
universe u
namespace Go.Proofs.YtckjdhaflokcgaaGreat
open Go.RowKit
theorem Q1a:(Tryz.prog.info? 133).map (fun i=>(i.zero,i.size,i.bytes))=some (some (.agg #[.int .i64 0,.int .u32 0]),2,16):=by kernel_rfl
theorem Q1b (n:Nat) (hn:n<=256) (W:World):(Instr.makeSlice 119 (.int .i64 (n:Int)) (.int .i64 (n:Int))).run Tryz.prog W = .ok (.slice (some ⟨W.heap.size,0,none⟩) n n) (W.alloc (.cells (QG (List.replicate n (0,0))).toArray 133)):=by
 obtain⟨i,hi,hz,hs,hb⟩:=info_parts Q1a;have h:=run_make (P:=Tryz.prog) W 119 133 i _ Tryz.underlying119 hi hz .i64 .i64 n n (by omega) (by omega) (by rw [hb];omega) (by omega);rw [Int.toNat_natCast,hs,show madeCells (Value.agg #[.int .i64 0,.int .u32 0]).cells (n*2)=(QG (List.replicate n (0,0))).toArray from Q2E n]at h;exact h
theorem VH {l:List Int} {k:Nat} (h:k<l.length):(Qr l).take (k+1)=(Qr l).take k++[Qe l k]:=by
 (have hk:k<(Qr l).length:=by simpa using h);rw [List.take_succ_eq_append_getElem hk];simp [Qr]
def Y7 (l:List Int) (k i:Nat):Nat:=Qj l i+Qn (l.take k) i
theorem Xk {l:List Int} {k q:Nat} (h:k<l.length) (hq:l[k]=(q:Int)) (h0:0<q):Qe l k=(q,Y7 l k q):=by
 unfold Qe Y7 Qn;(have e:(l[k]?).getD 0=(q:Int):=by rw [List.getElem?_eq_getElem h];exact hq);rw [e,if_pos (by omega),Int.toNat_natCast,if_neg (by omega)]
theorem Xl {l:List Int} {k:Nat} (h:k<l.length) (hq:l[k]=0):Qe l k=(0,0):=by
 unfold Qe;(have e:(l[k]?).getD 0=0:=by rw [List.getElem?_eq_getElem h];exact hq);rw [e,if_neg (by omega)]
theorem Xm (F:Nat->Prop) (A:Option Addr) (n c:Nat) (l:List Int) (w:World) (hr:Rd w F A n (Qf l)) (ht:Qc l) :
   Calls Tryz.prog 196 #[.agg #[.slice A n c]] w fun e w'=>∃g,e = .returned (.slice (some ⟨g,0,none⟩) n n)/\RdK w' (fun b=>b=g) 2 (some ⟨g,0,none⟩) n ((Qr l).map cd2)/\w.heap.size<=g/\Q0 w w':=by
 obtain⟨w0,hw0⟩:=nm_ (w.alloc (.cells #[.slice A n c] 243));obtain⟨H,hH⟩:=nm_ (w.heap.size);(have f0:Q0 w w0:=by rw [hw0];exact(Upd.refl _ _).alloc _);(have bt:Blk w0 H 243 #[.slice A n c]:=by rw [hw0];exact Q2 hH _ _);(have hL:l.length=n:=by have:=hr.1;simpa using this);(have hn:n<=256:=by have:=ht.2.1;omega);(have hnI:(n:Int)<=256:=by omega);have HFI:=hd_ (Xi F A n c l w0 (hr.fresh f0) ht);have HLE:=hd_ (fun k=>JX (l:=l) ht.2.1 k);have HT:=hd_ (fun k (hk:k<l.length)=>ht.1 _ (List.getElem_mem hk));have hmk:=Q1b n hn
 have HR:=hd_ (show ∀W,Upd (fun b=>H<b) w0 W->∀k,k<n->∃(b o:Nat) (hk':k<l.length),A=some ⟨b,o,none⟩/\b<W.heap.size/\W.cell? ⟨b,o+k,none⟩=some (.int .i64 l[k])from fun W hu k hk =>
   ((hr.both.fresh f0).upd hu (fun b _ hb e=>by have:=hb.2;omega)).int hk)
 have HBT:=hd_ (show ∀W,Upd (fun b=>H<b) w0 W->W.cell? ⟨H,0,none⟩=some (.slice A n c)from fun W hu=>by simpa using(bt.upd hu (by omega)).cell 0);have q0:=HBT.out w0 (Upd.refl _ _);(have hs0:w0.heap.size=H+1:=by rw [hw0,hH];simp);have F0:=hd_ f0;have HW:=hd_ hw0;have HH:=hd_ hH;have HL:=hd_ hL;have HS0:=hd_ hs0;clear hr ht hw0 hH f0 bt hL hn hs0;refine Q9 fun R hR=>?_;go_enter Tryz.func196,Tryz.ntmps196;go_upto_region 1 with fail;simp only [<-HH.out,<-HW.out];go_wp2_with fail;refine HFI.out.mono ?_;rintro e w1 ⟨rfl,f1⟩;unfold Qo;go_upto_region 2 with fail;obtain⟨NB,hNB⟩:=nm_ (w1.heap.size);obtain⟨w2,hw2⟩:=nm_ (w1.alloc (.cells (Qo (Qj l)) 292));(have hw2':w1.alloc (.cells #[.int .u32 (Qj l 0:Nat),.int .u32 (Qj l 1:Nat),.int .u32 (Qj l 2:Nat),.int .u32 (Qj l 3:Nat),.int .u32 (Qj l 4:Nat),.int .u32 (Qj l 5:Nat),.int .u32 (Qj l 6:Nat),.int .u32 (Qj l 7:Nat),.int .u32 (Qj l 8:Nat),.int .u32 (Qj l 9:Nat),.int .u32 (Qj l 10:Nat),.int .u32 (Qj l 11:Nat)] 292)=w2:=by rw [hw2];rfl);simp only [<-hNB,hw2'];(have bn:Blk w2 NB 292 (Qo (Qj l)):=by rw [hw2];exact Q2 hNB _ _);(have f12:Q0 w1 w2:=by rw [hw2];exact(Upd.refl _ _).alloc _);have U2:=hd_ ((f1.trans' f12).mono (T:=fun b=>H<b) fun _ _ h=>h.elim);have HNH:=hd_ (show H<NB/\w2.heap.size=NB+1 from⟨by have:=f1.size;have:=HS0.out;omega,by rw [hw2,hNB];simp⟩);have q2:=HBT.out w2 U2.out;have BN:=hd_ bn;clear hNB hw2 hw2' f1 f12 bn q0 HFI;go_upto_region 3 with fail;obtain⟨G,hG⟩:=nm_ (w2.heap.size);obtain⟨w3,hw3⟩:=nm_ (w2.alloc (.cells (QG (List.replicate n (0,0))).toArray 133));simp only [<-hG,<-hw3];(have bg:Blk w3 G 133 (QG (List.replicate n (0,0))).toArray:=by rw [hw3];exact Q2 hG _ _);have HG:=hd_ (show G=NB+1 by rw [hG];exact HNH.out.2);(have f23:Q0 w2 w3:=by rw [hw3];exact(Upd.refl _ _).alloc _);have BG:=hd_ bg;have BN3:=hd_ (BN.out.fresh f23);have U3:=hd_ (U2.out.trans f23 (fun _ _ h=>h.elim));have q3:=HBT.out w3 U3.out;(have hzero:Qo (Qj l)=Qo (Y7 l 0):=QW fun i _=>by simp [Y7,Qn]);rw [hzero]at BN3;clear hG hw3 bg f23 q2 hmk hzero BN;go_wp2_with fail;go_loopg [17] n (fun f vi wr=>∃k,k+f=n/\vi = .int .i64 k/\Blk wr NB 292 (Qo (Y7 l k))/\Blk wr G 133 (QG ((Qr l).take k++List.replicate (n-k) (0,0))).toArray/\Upd (fun b=>H<b) w0 wr)
 case atStart=>exact⟨0,by omega,rfl,BN3.out,by simpa using BG.out,U3.out⟩
 case round =>
   obtain⟨k,hk,rfl,bn,bg,ur⟩:=hrel;have HK:=hd_ hk;have UR:=hd_ ur;by_cases hlt:k<n
   . have hlI:(k:Int)<n:=by omega
     obtain⟨b,o,hkl,rfl,_,hc⟩:=HR.out _ ur k hlt;have hz:=HT.out k hkl;have hMT:=fun i=>ZB hkl i;have hCT:=VH hkl;(have hlk:((Qr l).take k).length=k:=by rw [List.length_take,Y0];omega)
     have hrep:List.replicate (n-k) ((0,0):Nat × Nat)=(0,0)::List.replicate (n-(k+1)) (0,0):=by
       rw [show n-k=(n-(k+1))+1 by omega];rfl
     rw [hrep]at bg;obtain⟨z,hzd⟩:=nm_ (l[k]);by_cases hp:0<z
     . obtain⟨q,rfl⟩:∃q:Nat,z=q:=⟨z.toNat,by omega⟩
       rw [<-hzd]at hc hz;(have hq:q<12:=by omega);(have hqI:(q:Int)<12:=by omega);(have hq0:0<=(q:Int):=by omega);have hck:=Xk hkl hzd.symm (by omega);have hcell:=(bn.cell q).trans (YB _ hq);have hfz:=bn.frozen q;have hle:=HLE.out q;have h2q:2^q<=2^11:=Nat.pow_le_pow_right (by decide) (by omega);have hml:=Jz (l.take k) q;have hlen:=List.length_take_le k l;(have hnx:Y7 l k q<=1048832:=by unfold Y7;omega)
       have hset:(Qo (Y7 l k)).setIfInBounds q (.int .u32 ((Y7 l k q+1:Nat):Int))=Qo (Y7 l (k+1)):=by
         rw [JW _ _ hq];refine QW fun i hi=>?_;unfold Y7;rw [hMT i];by_cases hiq:i=q
         . subst hiq
           rw [if_pos rfl,if_pos ⟨by omega,hzd.symm⟩];omega
         rw [if_neg hiq,if_neg (fun h=>hiq (by have:=h.2;omega))];omega
       obtain⟨g0,g1⟩:=Xc (A:=(Qr l).take k) (B:=List.replicate (n-(k+1)) (0,0)) (x:=(0,0)) hlk;(have c0:wr.cell? ⟨G,k*2,none⟩=some (.int .i64 0):=by rw [bg.cell];simpa using g0);(have c1:wr.cell? ⟨G,k*2+1,none⟩=some (.int .u32 0):=by rw [bg.cell];simpa using g1);have z0:=bg.frozen (k*2);have z1:=bg.frozen (k*2+1);have bgs:=(bg.set_ (k*2) (.int .i64 (q:Nat))).set_ (k*2+1) (.int .u32 (Y7 l k q:Nat));have hrs:=Q08 (A:=(Qr l).take k) (B:=List.replicate (n-(k+1)) (0,0)) (x:=(0,0)) (q,Y7 l k q) hlk;rw [hrs,<-hck]at bgs;(have hap:(Qr l).take k++Qe l k::List.replicate (n-(k+1)) (0,0)=(Qr l).take (k+1)++List.replicate (n-(k+1)) (0,0):=by rw [hCT];simp);rw [hap]at bgs;obtain⟨M,hM⟩:=nm_ (Y7 l k q);simp only [<-hM]at hcell hnx hset bgs;(have hMI:(M:Int)<=1048832:=by omega);(have hwr:IntKind.u32.wrap ((M:Int)+1)=M+1:=by unfold IntKind.wrap;simp [IntKind.bits];omega);(have hcast:((M+1:Nat):Int)=(M:Int)+1:=by omega);rw [hcast]at hset;(have hGN:G≠NB:=by have:=HG.out;omega);have b2:=bgs.far (p:=⟨NB,q,none⟩) hGN (.int .u32 ((M:Int)+1));have b1:=(bn.far (p:=⟨G,k*2,none⟩) hGN.symm (.int .i64 (q:Nat))).far (p:=⟨G,k*2+1,none⟩) hGN.symm (.int .u32 (M:Nat));have c2:=(b1.cell q).trans (YB _ hq);have z2:=b1.frozen q;rw [<-hM]at c2;have b3:=b1.set_ q (.int .u32 ((M:Int)+1));rw [hset]at b3;have us:=((UR.out.setCell (p:=⟨G,k*2,none⟩) (fun _=>by have h1:=HG.out;have h2:=HNH.out.1;simp only;omega) (.int .i64 (q:Nat))).setCell (p:=⟨G,k*2+1,none⟩) (fun _=>by have h1:=HG.out;have h2:=HNH.out.1;simp only;omega) (.int .u32 (M:Nat))).setCell (p:=⟨NB,q,none⟩) (fun _=>HNH.out.1) (.int .u32 ((M:Int)+1));have HREL:=hd_ (And.intro b3 (And.intro b2 us));have q4:=HBT.out wr ur;clear bgs b1 b2 b3 us hset hM hnx hml hlen h2q hle hck hrs hap hrep hlk hCT hMT bn bg ur hzd hz hk g0 g1 hGN hcast;go_wp2_with fail;go_roundg (gk-1)
       case measure=>have:=HK.out;omega
       case rel=>exact⟨k+1,by have:=HK.out;omega,by go_num,HREL.out.1,HREL.out.2.1,HREL.out.2.2⟩
     (have hz0:z=0:=by rw [<-hzd]at hz;omega);subst hz0;rw [<-hzd]at hc;have hck:=Xl hkl hzd.symm
     have hcg:Qo (Y7 l k)=Qo (Y7 l (k+1)):=QW fun i hi=>by
       unfold Y7;rw [hMT i];by_cases h0:i=0
       . subst h0;simp
       rw [if_neg (fun h=>h0 (by have:=h.2;omega))];omega
     (have hap:(Qr l).take k++(0,0)::List.replicate (n-(k+1)) (0,0)=(Qr l).take (k+1)++List.replicate (n-(k+1)) (0,0):=by rw [hCT,hck];simp);rw [hcg]at bn;rw [hap]at bg;have HREL:=hd_ (And.intro bn bg);clear hck hcg hap hrep hlk hCT hMT bn bg ur hzd hz hk hp;go_wp2_with fail;go_roundg (gk-1)
     case measure=>have:=HK.out;omega
     case rel=>exact⟨k+1,by have:=HK.out;omega,by go_num,HREL.out.1,HREL.out.2,UR.out⟩
   (obtain rfl:k=n:=by omega);have htl:(Qr l).take k=Qr l:=List.take_of_length_le (by rw [Y0];have:=HL.out;omega);rw [htl,Nat.sub_self,List.replicate_zero,List.append_nil]at bg;have rd:=bg.rdk2 (n:=k) (by rw [Y0];exact HL.out);have HRD:=hd_ rd;clear rd bn bg hk hlt htl ur;go_wp2_with fail;(try go_ret);exact hR.out _ _ ⟨G,rfl,HRD.out,by have h1:=HG.out;have h2:=HNH.out.1;have h3:=HH.out;omega,F0.out.trans UR.out (fun b hb e=>by have:=HH.out;omega)⟩
def Kn (l:List Int) (n:Nat) (w:World) (e:Ending) (w':World):Prop :=
  Q0 w w'/\if Qc l then ∃g,e = .returned (.tuple #[.slice (some ⟨g,0,none⟩) n n,.int .i64 0])/\RdK w' (fun b=>b=g) 2 (some ⟨g,0,none⟩) n ((Qr l).map cd2)/\w.heap.size<=g
    else e = .returned (.tuple #[.slice none 0 0,.int .i64 12])
theorem Zf (F:Nat->Prop) (A:Option Addr) (n c:Nat) (l:List Int) (w:World) (hr:Rd w F A n (Qf l)) (hn:n<=2^40) (hc:n<=c) :
   Calls Tryz.prog 142 #[.slice A n c] w (Kn l n w):=by
 have hmf:∀(fn:Fn) (first cap:Array Value) (w:World),(Instr.makeFunc fn first cap).run Tryz.prog w = .ok (.func fn first cap) w:=fun _ _ _ _=>rfl;obtain⟨w0,hw0⟩:=nm_ ((w.alloc (.cells #[.slice none 0 0] 119)).alloc (.cells #[.int .i64 0] 24));obtain⟨H,hH⟩:=nm_ (w.heap.size);(have f0:Q0 w w0:=by rw [hw0];exact((Upd.refl _ _).alloc _).alloc _);(have bo:Blk w0 H 119 #[.slice none 0 0]:=by rw [hw0];exact(Q2 hH _ _).alloc _);(have be:Blk w0 (H+1) 24 #[.int .i64 0]:=by rw [hw0];exact Q2 (by simp [hH]) _ _);have HOF:=hd_ (ZU F A n c l w0 (hr.fresh f0) hn hc);have HCO:=hd_ (fun(ht:Qc l) W (hW:Q0 w0 W)=>Xm F A n n l W ((hr.fresh f0).fresh hW) ht);have BO:=hd_ bo;have BE:=hd_ be;have F0:=hd_ f0;have HW:=hd_ hw0;have HH:=hd_ hH;(have hsz:(w.alloc (.cells #[.slice none 0 0] 119)).heap.size=H+1:=by simp [hH]);clear hr hn hw0 hH f0 bo be hc;refine Q9 fun R hR=>?_;go_enter_defers Tryz.func142,Tryz.ntmps142;go_upto_region 1 with fail;simp only [hsz,<-HH.out,<-HW.out];clear hsz;by_cases ht:Qc l
 . have HCT:=hd_ (HCO.out ht)
   rw [if_pos ht]at HOF;have HTT:=hd_ ht;clear ht HCO;go_wp2_with fail;refine HOF.out.mono ?_;rintro e w1 ⟨rfl,f1⟩;have hcc:=HCT.out w1 f1;have HCC:=hd_ hcc;have BO1:=hd_ (BO.out.fresh f1);have BE1:=hd_ (BE.out.fresh f1);have F1:=hd_ (F0.out.trans' f1);clear f1 hcc HOF HCT;go_wp2_with fail;refine HCC.out.mono ?_;rintro e w2 ⟨g,rfl,rd,hg,f2⟩;have bo2:=BO1.out.fresh f2;have be2:=BE1.out.fresh f2;have c0:=bo2.cell 0;have z0:=bo2.frozen 0;have c1:=be2.cell 0;have z1:=be2.frozen 0;simp at c0 c1;have RD:=hd_ rd;have F2:=hd_ (F1.out.trans' f2);have BO2:=hd_ bo2;have BE2:=hd_ be2;have HG:=hd_ (show H+1<g by have h1:=BE1.out.lt;omega);clear rd f2 bo2 be2 hg;go_wp2_with fail;change Leaves _ _ _ _ _ _ _;refine leaves_cons (f:=193) (args:=#[.pointer (some ⟨H+1,0,none⟩),.func (.func 194) #[] #[.pointer (some ⟨H,0,none⟩)]]) (by simp) (by simp [go_sem]) ?_;have b2:=(BO2.out.set_ 0 (.slice (some ⟨g,0,none⟩) n n)).far (p:=⟨H+1,0,none⟩) (by simp) (.int .i64 0);have e2:=(BE2.out.far (p:=⟨H,0,none⟩) (by simp) (.slice (some ⟨g,0,none⟩) n n)).set_ 0 (.int .i64 0);have d0:=b2.cell 0;have d1:=e2.cell 0;simp at d0 d1;refine(Yz _ _ _).mono ?_;rintro e u' w'' ⟨rfl,rfl,rfl⟩;have us:Upd (fun b=>b=H\/b=H+1) w2 ((w2.setCell ⟨H,0,none⟩ (.slice (some ⟨g,0,none⟩) n n)).setCell ⟨H+1,0,none⟩ (.int .i64 0)):=((Upd.refl (fun b=>b=H\/b=H+1) w2).setCell (p:=⟨H,0,none⟩) (fun _=>.inl rfl) _).setCell (p:=⟨H+1,0,none⟩) (fun _=>.inr rfl) _;refine⟨.tuple #[.slice (some ⟨g,0,none⟩) n n,.int .i64 0],?_,hR.out _ _ ⟨F2.out.trans us (fun b hb e=>by have:=HH.out;omega),?_⟩⟩
   . simp [results,Tryz.results142,go_sem,d0,d1]
   rw [if_pos HTT.out];exact⟨g,rfl,RD.out.upd us (fun b _ hb e=>by have:=HG.out;omega),by have h1:=HG.out;have h2:=HH.out;omega⟩
 rw [if_neg ht]at HOF;have HTT:=hd_ ht;clear ht HCO;go_wp2_with fail;refine HOF.out.mono ?_;rintro e w1 ⟨rfl,f1⟩;have b1:=BO.out.fresh f1;have e1:=BE.out.fresh f1;have F1:=hd_ (F0.out.trans' f1);simp only [Qa];change Leaves _ _ _ _ _ _ _;refine leaves_cons (f:=193) (args:=#[.pointer (some ⟨H+1,0,none⟩),.func (.func 194) #[] #[.pointer (some ⟨H,0,none⟩)]]) (by simp) (by simp [go_sem]) ?_;refine(Yu 194 #[.pointer (some ⟨H,0,none⟩)] (fun b=>b=H) (fun W=>Blk W H 119 #[.slice none 0 0]) (H+1) 12 _ w1 e1 (by omega) (fun _ _=>rfl) (Xn H _ w1 b1)).mono ?_;rintro e u' w'' ⟨rfl,rfl,w2,u2,b2,rfl⟩;have e2:=(e1.upd u2 (by omega)).set_ 0 (.int .i64 12);have b3:=b2.far (p:=⟨H+1,0,none⟩) (by simp) (.int .i64 12);have d0:=b3.cell 0;have d1:=e2.cell 0;simp at d0 d1;show Leaves _ _ _ _ [] .returning _;refine⟨.tuple #[.slice none 0 0,.int .i64 12],?_,hR.out _ _ ⟨F1.out.trans (u2.mono (T:=fun b=>b=H\/b=H+1) (fun _ _ h=>.inl h) |>.setCell (p:=⟨H+1,0,none⟩) (fun _=>.inr rfl) _) (fun b hb e=>by have:=HH.out;omega),?_⟩⟩
 . simp [results,Tryz.results142,go_sem,d0,d1]
 rw [if_neg HTT.out]
end Go.Proofs.YtckjdhaflokcgaaGreat
