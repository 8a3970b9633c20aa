/-
  Joined texts, part 20: contracts and plain lemmas.
  Conditions: none beyond those of each theorem.
-/
import Derived.Test.YtckjdhaflokcgaaGreatQ17
import Derived.Test.YtckjdhaflokcgaaGreatQ12
set_option maxHeartbeats 8000000
set_option linter.unusedVariables false
set_option linter.unusedSimpArgs false
set_option linter.unnecessarySimpa false
set_option maxRecDepth 100000
universe u
namespace Go.Proofs.YtckjdhaflokcgaaGreat
open Go.RowKit
theorem Q2m:(Tryz.prog.info? 133).map (fun i=>(i.zero,i.size,i.bytes))=some (some (.agg #[.int .i64 0,.int .u32 0]),2,16):=by kernel_rfl
theorem VI (n:Nat) (hn:n<=256) (W:World):(Instr.makeSlice 119 (.int .i64 (n:Int)) (.int .i64 (n:Int))).run Tryz.prog W = .ok (.slice (some ⟨W.heap.size,0,none⟩) n n) (W.alloc (.cells (QJ (List.replicate n (0,0))).toArray 133)):=by
 obtain⟨i,hi,hz,hs,hb⟩:=info_parts Q2m;have h:=run_make (P:=Tryz.prog) W 119 133 i _ Tryz.underlying119 hi hz .i64 .i64 n n (by omega) (by omega) (by rw [hb];omega) (by omega);rw [Int.toNat_natCast,hs,show madeCells (Value.agg #[.int .i64 0,.int .u32 0]).cells (n*2)=(QJ (List.replicate n (0,0))).toArray from Q4f n]at h;exact h
theorem Xp {l:List Int} {k:Nat} (h:k<l.length):(Qz l).take (k+1)=(Qz l).take k++[Qh l k]:=by
 (have hk:k<(Qz l).length:=by simpa using h);rw [List.take_succ_eq_append_getElem hk];simp [Qz]
def Yj (l:List Int) (k i:Nat):Nat:=Qr l i+Qw (l.take k) i
theorem Q04 {l:List Int} {k q:Nat} (h:k<l.length) (hq:l[k]=(q:Int)) (h0:0<q):Qh l k=(q,Yj l k q):=by
 unfold Qh Yj Qw;(have e:(l[k]?).getD 0=(q:Int):=by rw [List.getElem?_eq_getElem h];exact hq);rw [e,if_pos (by omega),Int.toNat_natCast,if_neg (by omega)]
theorem Q05 {l:List Int} {k:Nat} (h:k<l.length) (hq:l[k]=0):Qh l k=(0,0):=by
 unfold Qh;(have e:(l[k]?).getD 0=0:=by rw [List.getElem?_eq_getElem h];exact hq);rw [e,if_neg (by omega)]
theorem Q06 (F:Nat->Prop) (A:Option Addr) (n c:Nat) (l:List Int) (w:World) (hr:Rd w F A n (Qm l)) (ht:Qj l) :
   Calls Tryz.prog 196 #[.agg #[.slice A n c]] w fun e w'=>∃g,e = .returned (.slice (some ⟨g,0,none⟩) n n)/\RdK w' (fun b=>b=g) 2 (some ⟨g,0,none⟩) n ((Qz l).map cd2)/\w.heap.size<=g/\Q0 w w':=by
 obtain⟨w0,hw0⟩:=nm_ (w.alloc (.cells #[.slice A n c] 243));obtain⟨H,hH⟩:=nm_ (w.heap.size);(have f0:Q0 w w0:=by rw [hw0];exact(Upd.refl _ _).alloc _);(have bt:Blk w0 H 243 #[.slice A n c]:=by rw [hw0];exact Qc hH _ _);(have hL:l.length=n:=by have:=hr.1;simpa using this);(have hn:n<=256:=by have:=ht.2.1;omega);(have hnI:(n:Int)<=256:=by omega);have HFI:=hd_ (XZ F A n c l w0 (hr.fresh f0) ht);have HLE:=hd_ (fun k=>Zv (l:=l) ht.2.1 k);have HT:=hd_ (fun k (hk:k<l.length)=>ht.1 _ (List.getElem_mem hk));have hmk:=VI n hn
 have HR:=hd_ (show ∀W,Upd (fun b=>H<b) w0 W->∀k,k<n->∃(b o:Nat) (hk':k<l.length),A=some ⟨b,o,none⟩/\b<W.heap.size/\W.cell? ⟨b,o+k,none⟩=some (.int .i64 l[k])from fun W hu k hk =>
   ((hr.both.fresh f0).upd hu (fun b _ hb e=>by have:=hb.2;omega)).int hk)
 have HBT:=hd_ (show ∀W,Upd (fun b=>H<b) w0 W->W.cell? ⟨H,0,none⟩=some (.slice A n c)from fun W hu=>by simpa using(bt.upd hu (by omega)).cell 0);have q0:=HBT.out w0 (Upd.refl _ _);(have hs0:w0.heap.size=H+1:=by rw [hw0,hH];simp);have F0:=hd_ f0;have HW:=hd_ hw0;have HH:=hd_ hH;have HL:=hd_ hL;have HS0:=hd_ hs0;clear hr ht hw0 hH f0 bt hL hn hs0;refine Qg fun R hR=>?_;go_enter Tryz.func196,Tryz.ntmps196;go_upto_region 1 with fail;simp only [<-HH.out,<-HW.out];go_wp2_with fail;refine HFI.out.mono ?_;rintro e w1 ⟨rfl,f1⟩;unfold QA;go_upto_region 2 with fail;obtain⟨NB,hNB⟩:=nm_ (w1.heap.size);obtain⟨w2,hw2⟩:=nm_ (w1.alloc (.cells (QA (Qr l)) 292));(have hw2':w1.alloc (.cells #[.int .u32 (Qr l 0:Nat),.int .u32 (Qr l 1:Nat),.int .u32 (Qr l 2:Nat),.int .u32 (Qr l 3:Nat),.int .u32 (Qr l 4:Nat),.int .u32 (Qr l 5:Nat),.int .u32 (Qr l 6:Nat),.int .u32 (Qr l 7:Nat),.int .u32 (Qr l 8:Nat),.int .u32 (Qr l 9:Nat),.int .u32 (Qr l 10:Nat),.int .u32 (Qr l 11:Nat)] 292)=w2:=by rw [hw2];rfl);simp only [<-hNB,hw2'];(have bn:Blk w2 NB 292 (QA (Qr l)):=by rw [hw2];exact Qc hNB _ _);(have f12:Q0 w1 w2:=by rw [hw2];exact(Upd.refl _ _).alloc _);have U2:=hd_ ((f1.trans' f12).mono (T:=fun b=>H<b) fun _ _ h=>h.elim);have HNH:=hd_ (show H<NB/\w2.heap.size=NB+1 from⟨by have:=f1.size;have:=HS0.out;omega,by rw [hw2,hNB];simp⟩);have q2:=HBT.out w2 U2.out;have BN:=hd_ bn;clear hNB hw2 hw2' f1 f12 bn q0 HFI;go_upto_region 3 with fail;obtain⟨G,hG⟩:=nm_ (w2.heap.size);obtain⟨w3,hw3⟩:=nm_ (w2.alloc (.cells (QJ (List.replicate n (0,0))).toArray 133));simp only [<-hG,<-hw3];(have bg:Blk w3 G 133 (QJ (List.replicate n (0,0))).toArray:=by rw [hw3];exact Qc hG _ _);have HG:=hd_ (show G=NB+1 by rw [hG];exact HNH.out.2);(have f23:Q0 w2 w3:=by rw [hw3];exact(Upd.refl _ _).alloc _);have BG:=hd_ bg;have BN3:=hd_ (BN.out.fresh f23);have U3:=hd_ (U2.out.trans f23 (fun _ _ h=>h.elim));have q3:=HBT.out w3 U3.out;(have hzero:QA (Qr l)=QA (Yj l 0):=Yc fun i _=>by simp [Yj,Qw]);rw [hzero]at BN3;clear hG hw3 bg f23 q2 hmk hzero BN;go_wp2_with fail;go_loopg [17] n (fun f vi wr=>∃k,k+f=n/\vi = .int .i64 k/\Blk wr NB 292 (QA (Yj l k))/\Blk wr G 133 (QJ ((Qz l).take k++List.replicate (n-k) (0,0))).toArray/\Upd (fun b=>H<b) w0 wr)
 case atStart=>exact⟨0,by omega,rfl,BN3.out,by simpa using BG.out,U3.out⟩
 case round =>
   obtain⟨k,hk,rfl,bn,bg,ur⟩:=hrel;have HK:=hd_ hk;have UR:=hd_ ur;by_cases hlt:k<n
   . have hlI:(k:Int)<n:=by omega
     obtain⟨b,o,hkl,rfl,_,hc⟩:=HR.out _ ur k hlt;have hz:=HT.out k hkl;have hMT:=fun i=>Ko hkl i;have hCT:=Xp hkl;(have hlk:((Qz l).take k).length=k:=by rw [List.length_take,Yb];omega)
     have hrep:List.replicate (n-k) ((0,0):Nat × Nat)=(0,0)::List.replicate (n-(k+1)) (0,0):=by
       rw [show n-k=(n-(k+1))+1 by omega];rfl
     rw [hrep]at bg;obtain⟨z,hzd⟩:=nm_ (l[k]);by_cases hp:0<z
     . obtain⟨q,rfl⟩:∃q:Nat,z=q:=⟨z.toNat,by omega⟩
       rw [<-hzd]at hc hz;(have hq:q<12:=by omega);(have hqI:(q:Int)<12:=by omega);(have hq0:0<=(q:Int):=by omega);have hck:=Q04 hkl hzd.symm (by omega);have hcell:=(bn.cell q).trans (YU _ hq);have hfz:=bn.frozen q;have hle:=HLE.out q;have h2q:2^q<=2^11:=Nat.pow_le_pow_right (by decide) (by omega);have hml:=Z7 (l.take k) q;have hlen:=List.length_take_le k l;(have hnx:Yj l k q<=1048832:=by unfold Yj;omega)
       have hset:(QA (Yj l k)).setIfInBounds q (.int .u32 ((Yj l k q+1:Nat):Int))=QA (Yj l (k+1)):=by
         rw [Zu _ _ hq];refine Yc fun i hi=>?_;unfold Yj;rw [hMT i];by_cases hiq:i=q
         . subst hiq
           rw [if_pos rfl,if_pos ⟨by omega,hzd.symm⟩];omega
         rw [if_neg hiq,if_neg (fun h=>hiq (by have:=h.2;omega))];omega
       obtain⟨g0,g1⟩:=Kl (A:=(Qz l).take k) (B:=List.replicate (n-(k+1)) (0,0)) (x:=(0,0)) hlk;(have c0:wr.cell? ⟨G,k*2,none⟩=some (.int .i64 0):=by rw [bg.cell];simpa using g0);(have c1:wr.cell? ⟨G,k*2+1,none⟩=some (.int .u32 0):=by rw [bg.cell];simpa using g1);have z0:=bg.frozen (k*2);have z1:=bg.frozen (k*2+1);have bgs:=(bg.set_ (k*2) (.int .i64 (q:Nat))).set_ (k*2+1) (.int .u32 (Yj l k q:Nat));have hrs:=Va (A:=(Qz l).take k) (B:=List.replicate (n-(k+1)) (0,0)) (x:=(0,0)) (q,Yj l k q) hlk;rw [hrs,<-hck]at bgs;(have hap:(Qz l).take k++Qh l k::List.replicate (n-(k+1)) (0,0)=(Qz l).take (k+1)++List.replicate (n-(k+1)) (0,0):=by rw [hCT];simp);rw [hap]at bgs;obtain⟨M,hM⟩:=nm_ (Yj l k q);simp only [<-hM]at hcell hnx hset bgs;(have hMI:(M:Int)<=1048832:=by omega);(have hwr:IntKind.u32.wrap ((M:Int)+1)=M+1:=by unfold IntKind.wrap;simp [IntKind.bits];omega);(have hcast:((M+1:Nat):Int)=(M:Int)+1:=by omega);rw [hcast]at hset;(have hGN:G≠NB:=by have:=HG.out;omega);have b2:=bgs.far (p:=⟨NB,q,none⟩) hGN (.int .u32 ((M:Int)+1));have b1:=(bn.far (p:=⟨G,k*2,none⟩) hGN.symm (.int .i64 (q:Nat))).far (p:=⟨G,k*2+1,none⟩) hGN.symm (.int .u32 (M:Nat));have c2:=(b1.cell q).trans (YU _ hq);have z2:=b1.frozen q;rw [<-hM]at c2;have b3:=b1.set_ q (.int .u32 ((M:Int)+1));rw [hset]at b3;have us:=((UR.out.setCell (p:=⟨G,k*2,none⟩) (fun _=>by have h1:=HG.out;have h2:=HNH.out.1;simp only;omega) (.int .i64 (q:Nat))).setCell (p:=⟨G,k*2+1,none⟩) (fun _=>by have h1:=HG.out;have h2:=HNH.out.1;simp only;omega) (.int .u32 (M:Nat))).setCell (p:=⟨NB,q,none⟩) (fun _=>HNH.out.1) (.int .u32 ((M:Int)+1));have HREL:=hd_ (And.intro b3 (And.intro b2 us));have q4:=HBT.out wr ur;clear bgs b1 b2 b3 us hset hM hnx hml hlen h2q hle hck hrs hap hrep hlk hCT hMT bn bg ur hzd hz hk g0 g1 hGN hcast;go_wp2_with fail;go_roundg (gk-1)
       case measure=>have:=HK.out;omega
       case rel=>exact⟨k+1,by have:=HK.out;omega,by go_num,HREL.out.1,HREL.out.2.1,HREL.out.2.2⟩
     (have hz0:z=0:=by rw [<-hzd]at hz;omega);subst hz0;rw [<-hzd]at hc;have hck:=Q05 hkl hzd.symm
     have hcg:QA (Yj l k)=QA (Yj l (k+1)):=Yc fun i hi=>by
       unfold Yj;rw [hMT i];by_cases h0:i=0
       . subst h0;simp
       rw [if_neg (fun h=>h0 (by have:=h.2;omega))];omega
     (have hap:(Qz l).take k++(0,0)::List.replicate (n-(k+1)) (0,0)=(Qz l).take (k+1)++List.replicate (n-(k+1)) (0,0):=by rw [hCT,hck];simp);rw [hcg]at bn;rw [hap]at bg;have HREL:=hd_ (And.intro bn bg);clear hck hcg hap hrep hlk hCT hMT bn bg ur hzd hz hk hp;go_wp2_with fail;go_roundg (gk-1)
     case measure=>have:=HK.out;omega
     case rel=>exact⟨k+1,by have:=HK.out;omega,by go_num,HREL.out.1,HREL.out.2,UR.out⟩
   (obtain rfl:k=n:=by omega);have htl:(Qz l).take k=Qz l:=List.take_of_length_le (by rw [Yb];have:=HL.out;omega);rw [htl,Nat.sub_self,List.replicate_zero,List.append_nil]at bg;have rd:=bg.rdk2 (n:=k) (by rw [Yb];exact HL.out);have HRD:=hd_ rd;clear rd bn bg hk hlt htl ur;go_wp2_with fail;(try go_ret);exact hR.out _ _ ⟨G,rfl,HRD.out,by have h1:=HG.out;have h2:=HNH.out.1;have h3:=HH.out;omega,F0.out.trans UR.out (fun b hb e=>by have:=HH.out;omega)⟩
def Ve (l:List Int) (n:Nat) (w:World) (e:Ending) (w':World):Prop :=
  Q0 w w'/\if Qj l then ∃g,e = .returned (.tuple #[.slice (some ⟨g,0,none⟩) n n,.int .i64 0])/\RdK w' (fun b=>b=g) 2 (some ⟨g,0,none⟩) n ((Qz l).map cd2)/\w.heap.size<=g
    else e = .returned (.tuple #[.slice none 0 0,.int .i64 12])
theorem ZS (F:Nat->Prop) (A:Option Addr) (n c:Nat) (l:List Int) (w:World) (hr:Rd w F A n (Qm l)) (hn:n<=2^40) (hc:n<=c) :
   Calls Tryz.prog 142 #[.slice A n c] w (Ve l n w):=by
 have hmf:∀(fn:Fn) (first cap:Array Value) (w:World),(Instr.makeFunc fn first cap).run Tryz.prog w = .ok (.func fn first cap) w:=fun _ _ _ _=>rfl;obtain⟨w0,hw0⟩:=nm_ ((w.alloc (.cells #[.slice none 0 0] 119)).alloc (.cells #[.int .i64 0] 24));obtain⟨H,hH⟩:=nm_ (w.heap.size);(have f0:Q0 w w0:=by rw [hw0];exact((Upd.refl _ _).alloc _).alloc _);(have bo:Blk w0 H 119 #[.slice none 0 0]:=by rw [hw0];exact(Qc hH _ _).alloc _);(have be:Blk w0 (H+1) 24 #[.int .i64 0]:=by rw [hw0];exact Qc (by simp [hH]) _ _);have HOF:=hd_ (KS F A n c l w0 (hr.fresh f0) hn hc);have HCO:=hd_ (fun(ht:Qj l) W (hW:Q0 w0 W)=>Q06 F A n n l W ((hr.fresh f0).fresh hW) ht);have BO:=hd_ bo;have BE:=hd_ be;have F0:=hd_ f0;have HW:=hd_ hw0;have HH:=hd_ hH;(have hsz:(w.alloc (.cells #[.slice none 0 0] 119)).heap.size=H+1:=by simp [hH]);clear hr hn hw0 hH f0 bo be hc;refine Qg fun R hR=>?_;go_enter_defers Tryz.func142,Tryz.ntmps142;go_upto_region 1 with fail;simp only [hsz,<-HH.out,<-HW.out];clear hsz;by_cases ht:Qj l
 . have HCT:=hd_ (HCO.out ht)
   rw [if_pos ht]at HOF;have HTT:=hd_ ht;clear ht HCO;go_wp2_with fail;refine HOF.out.mono ?_;rintro e w1 ⟨rfl,f1⟩;have hcc:=HCT.out w1 f1;have HCC:=hd_ hcc;have BO1:=hd_ (BO.out.fresh f1);have BE1:=hd_ (BE.out.fresh f1);have F1:=hd_ (F0.out.trans' f1);clear f1 hcc HOF HCT;go_wp2_with fail;refine HCC.out.mono ?_;rintro e w2 ⟨g,rfl,rd,hg,f2⟩;have bo2:=BO1.out.fresh f2;have be2:=BE1.out.fresh f2;have c0:=bo2.cell 0;have z0:=bo2.frozen 0;have c1:=be2.cell 0;have z1:=be2.frozen 0;simp at c0 c1;have RD:=hd_ rd;have F2:=hd_ (F1.out.trans' f2);have BO2:=hd_ bo2;have BE2:=hd_ be2;have HG:=hd_ (show H+1<g by have h1:=BE1.out.lt;omega);clear rd f2 bo2 be2 hg;go_wp2_with fail;change Leaves _ _ _ _ _ _ _;refine leaves_cons (f:=193) (args:=#[.pointer (some ⟨H+1,0,none⟩),.func (.func 194) #[] #[.pointer (some ⟨H,0,none⟩)]]) (by simp) (by simp [go_sem]) ?_;have b2:=(BO2.out.set_ 0 (.slice (some ⟨g,0,none⟩) n n)).far (p:=⟨H+1,0,none⟩) (by simp) (.int .i64 0);have e2:=(BE2.out.far (p:=⟨H,0,none⟩) (by simp) (.slice (some ⟨g,0,none⟩) n n)).set_ 0 (.int .i64 0);have d0:=b2.cell 0;have d1:=e2.cell 0;simp at d0 d1;refine(YQ _ _ _).mono ?_;rintro e u' w'' ⟨rfl,rfl,rfl⟩;have us:Upd (fun b=>b=H\/b=H+1) w2 ((w2.setCell ⟨H,0,none⟩ (.slice (some ⟨g,0,none⟩) n n)).setCell ⟨H+1,0,none⟩ (.int .i64 0)):=((Upd.refl (fun b=>b=H\/b=H+1) w2).setCell (p:=⟨H,0,none⟩) (fun _=>.inl rfl) _).setCell (p:=⟨H+1,0,none⟩) (fun _=>.inr rfl) _;refine⟨.tuple #[.slice (some ⟨g,0,none⟩) n n,.int .i64 0],?_,hR.out _ _ ⟨F2.out.trans us (fun b hb e=>by have:=HH.out;omega),?_⟩⟩
   . simp [results,Tryz.results142,go_sem,d0,d1]
   rw [if_pos HTT.out];exact⟨g,rfl,RD.out.upd us (fun b _ hb e=>by have:=HG.out;omega),by have h1:=HG.out;have h2:=HH.out;omega⟩
 rw [if_neg ht]at HOF;have HTT:=hd_ ht;clear ht HCO;go_wp2_with fail;refine HOF.out.mono ?_;rintro e w1 ⟨rfl,f1⟩;have b1:=BO.out.fresh f1;have e1:=BE.out.fresh f1;have F1:=hd_ (F0.out.trans' f1);simp only [Qi];change Leaves _ _ _ _ _ _ _;refine leaves_cons (f:=193) (args:=#[.pointer (some ⟨H+1,0,none⟩),.func (.func 194) #[] #[.pointer (some ⟨H,0,none⟩)]]) (by simp) (by simp [go_sem]) ?_;refine(YK 194 #[.pointer (some ⟨H,0,none⟩)] (fun b=>b=H) (fun W=>Blk W H 119 #[.slice none 0 0]) (H+1) 12 _ w1 e1 (by omega) (fun _ _=>rfl) (Q07 H _ w1 b1)).mono ?_;rintro e u' w'' ⟨rfl,rfl,w2,u2,b2,rfl⟩;have e2:=(e1.upd u2 (by omega)).set_ 0 (.int .i64 12);have b3:=b2.far (p:=⟨H+1,0,none⟩) (by simp) (.int .i64 12);have d0:=b3.cell 0;have d1:=e2.cell 0;simp at d0 d1;show Leaves _ _ _ _ [] .returning _;refine⟨.tuple #[.slice none 0 0,.int .i64 12],?_,hR.out _ _ ⟨F1.out.trans (u2.mono (T:=fun b=>b=H\/b=H+1) (fun _ _ h=>.inl h) |>.setCell (p:=⟨H+1,0,none⟩) (fun _=>.inr rfl) _) (fun b hb e=>by have:=HH.out;omega),?_⟩⟩
 . simp [results,Tryz.results142,go_sem,d0,d1]
 rw [if_neg HTT.out]
theorem Xq {L:List (Nat × Nat)} {k:Nat} (h:k<L.length) (y:Nat × Nat) :
   ((QJ L).toArray.setIfInBounds (k*2) (.int .i64 (y.1:Nat))).setIfInBounds (k*2+1) (.int .u32 (y.2:Nat))=(QJ (L.set k y)).toArray:=by
 (have e1:L=L.take k++L[k]::L.drop (k+1):=by simp);(have e2:L.set k y=L.take k++y::L.drop (k+1):=by rw [List.set_eq_take_append_cons_drop,if_pos h]);rw [e2]
 conv=>lhs;rw [e1]
 exact Va y (by rw [List.length_take];omega)
theorem Q08 {L:List (Nat × Nat)} {k:Nat} (h:k<L.length):(QJ L)[k*2]?=some (.int .i64 (L[k].1:Nat))/\(QJ L)[k*2+1]?=some (.int .u32 (L[k].2:Nat)):=by
 (have e1:L=L.take k++L[k]::L.drop (k+1):=by simp);have:=Kl (A:=L.take k) (B:=L.drop (k+1)) (x:=L[k]) (k:=k) (by rw [List.length_take];omega);rw [<-e1]at this;exact this
def JI (l:List Int) (i:Nat):List (Nat × Nat):=(List.range l.length).map fun s=>if s∈(Qq l).take i then Qh l s else(0,0)
@[simp] theorem Xr (l:List Int) (i:Nat):(JI l i).length=l.length:=by simp [JI]
theorem Q1b (l:List Int):JI l 0=List.replicate l.length (0,0):=by
 apply List.ext_getElem
 . simp
 intro i h1 h2;simp [JI]
theorem Q2n {l:List Int} {i s:Nat} (h:(Qq l)[i]?=some s):(JI l i).set s (Qh l s)=JI l (i+1):=by
 have hi:i<(Qq l).length:=(List.getElem?_eq_some_iff.1 h).1;have hs:(Qq l)[i]=s:=(List.getElem?_eq_some_iff.1 h).2;apply List.ext_getElem
 . simp
 intro j h1 h2;simp only [List.getElem_set];simp only [JI,List.getElem_map,List.getElem_range,List.take_succ_eq_append_getElem hi,hs,List.mem_append,List.mem_singleton];by_cases hj:s=j
 . subst hj;simp
 rw [if_neg hj];have e:(j∈(Qq l).take i\/j=s)=(j∈(Qq l).take i):=propext ⟨fun h=>h.elim id fun e=>absurd e.symm hj,.inl⟩;simp only [e]
theorem Q3s {l:List Int} (ht:Qj l) {s:Nat} (hs:s<l.length) (h:0<(Qh l s).1):s∈Qq l:=by
 have h1:=Jy ht s;have h2:=YG ht;unfold Qq;simp only [List.mem_flatMap,List.mem_filter,List.mem_range,decide_eq_true_eq];exact⟨(Qh l s).1-1,by omega,hs,by omega⟩
theorem Q2o {l:List Int} (ht:Qj l):JI l (Qq l).length=Qz l:=by
 unfold JI Qz;rw [List.take_length];refine List.map_congr_left fun s hs=>?_;by_cases h:s∈Qq l
 . rw [if_pos h]
 rw [if_neg h];have h0:¬0<(Qh l s).1:=fun h1=>h (Q3s ht (List.mem_range.1 hs) h1);unfold Qh at h0 ⊢;split
 . next h2=>rw [if_pos h2]at h0;simp only at h0;omega
 rfl
theorem Q3t {l:List Int} (ht:Qj l):0<(Qq l).length:=by
 have h:=Vf ht;rcases Nat.eq_zero_or_pos (Qq l).length with h0|h0
 . have e:Qq l=[]:=List.eq_nil_of_length_eq_zero h0
   have h1:=Yy ht;unfold YT at h1;rw [e]at h1;have:=Nat.two_pow_pos (Qo l);simp at h1;omega
 exact h0
def Z9 (l:List Int) (i q X:Nat):Prop:=∀s,(Qq l)[i]?=some s->q<=(Qh l s).1/\X*2^((Qh l s).1-q)=(Qh l s).2
theorem Z9.first {l:List Int} (ht:Qj l) {s:Nat} (h:(Qq l)[0]?=some s):Z9 l 0 (Qh l s).1 0:=fun t hs=>by
 rw [h]at hs;injection hs with hs;subst hs
 obtain⟨q,hq⟩:∃q,Qq l=s::q:=by
   cases e:Qq l with
   | nil=>rw [e]at h;cases h
   | cons x q=>rw [e]at h;injection h with h;subst h;exact⟨q,rfl⟩
 rw [Q1c ht hq];exact⟨Nat.le_refl _,Nat.zero_mul _⟩
theorem Z9.step {l:List Int} (ht:Qj l) {i s:Nat} (h:(Qq l)[i]?=some s):Z9 l (i+1) (Qh l s).1 ((Qh l s).2+1):=fun t hs=>by
 have hi:=(List.getElem?_eq_some_iff.1 h)
 have hj:=(List.getElem?_eq_some_iff.1 hs)
 obtain⟨h1,h2⟩:=hi
 obtain⟨h3,h4⟩:=hj
 have e:Qq l=(Qq l).take i++s::t::(Qq l).drop (i+2):=by
   conv=>lhs;rw [<-List.take_append_drop i (Qq l),List.drop_eq_getElem_cons h1,List.drop_eq_getElem_cons h3,h2,h4]
 obtain⟨h5,h6⟩:=Q2p ht e;exact⟨h5,h6.symm⟩
theorem Q09 (F:Nat->Prop) (A:Option Addr) (n c:Nat) (l:List Int) (w:World) (hr:Rd w F A n (Qm l)) (ht:Qj l) :
   Calls Tryz.prog 106 #[.slice A n c] w fun e w'=>Q0 w w'/\∃g,e = .returned (.tuple #[.slice (some ⟨g,0,none⟩) n n,.int .i64 0])/\RdK w' (fun b=>b=g) 2 (some ⟨g,0,none⟩) n ((Qz l).map cd2)/\w.heap.size<=g:=by
 (have hL:l.length=n:=by have:=hr.1;simpa using this);(have hn:n<=256:=by have:=ht.2.1;omega);have hmk:=VI n hn w;obtain⟨w1,hw1⟩:=nm_ (w.alloc (.cells (QJ (List.replicate n (0,0))).toArray 133));obtain⟨G,hG⟩:=nm_ (w.heap.size);rw [<-hw1,<-hG]at hmk;(have f1:Q0 w w1:=by rw [hw1];exact(Upd.refl _ _).alloc _);(have bg:Blk w1 G 133 (QJ (List.replicate n (0,0))).toArray:=by rw [hw1];exact Qc hG _ _);(have hs1:w1.heap.size=G+1:=by rw [hw1,hG];simp);have HRI:=hd_ (Kr F A n c l w hr (by omega));rw [decide_eq_true ht]at HRI;have HOR:=hd_ (Q02 F A n c l w1 (hr.fresh f1) ht);have HRD:=hd_ (hr.both.fresh f1);have HT:=hd_ ht;have HL:=hd_ hL;have HN:=hd_ hn;have BG:=hd_ bg;have F1:=hd_ f1;have HG:=hd_ hG;have HS1:=hd_ hs1;(have hnI:(n:Int)<=256:=by omega);clear hr ht hL hn bg f1 hG hs1 hw1;refine Qg fun R hR=>?_;go_enter Tryz.func106,Tryz.ntmps106;go_wp2_with fail;refine HRI.out.mono ?_;rintro e w' ⟨rfl,rfl⟩;go_wp2_with fail;refine HOR.out.mono ?_;rintro e w2 ⟨v,rfl,ho⟩;obtain⟨OA,m,oc,rfl,hm⟩:=ho.1.form';obtain⟨hm2,hoc,hrd⟩:=ho.1.rd rfl;rw [<-hm2]at hrd hoc;(have hml:m=(Qq l).length:=by rw [hm2,Zx]);have HLT:=hd_ (fun i s (h:(Qq l)[i]?=some s)=>XF (l:=l) (s:=s) (List.mem_of_getElem? h));have HCK:=hd_ (fun s=>And.intro (Jb HT.out s) (YR HT.out s))
 have HOA:=hd_ (fun W (hu:Upd (fun b=>b=G) w2 W) i (hi:i<m)=>show ∃B o s,OA=some ⟨B,o,none⟩/\(Qq l)[i]?=some s/\W.cell? ⟨B,o+i,none⟩=some (.int .i64 (s:Nat))from by
   obtain⟨B,o,hOA,hB,_,hc⟩:=(hrd.upd hu (fun b _ hb e=>by have:=ho.2.2 b hb;have:=HS1.out;omega)).at_ (k:=i) hi;(have h2:i<(Qq l).length:=by omega);refine⟨B,o,(Qq l)[i],hOA,List.getElem?_eq_getElem h2,?_⟩
   rw [hc];simp [JQ,h2])
 have HLC:=hd_ (fun W (hu:Upd (fun b=>b=G) w2 W) s (hs:s<n)=>show ∃B o z,A=some ⟨B,o,none⟩/\W.cell? ⟨B,o+s,none⟩=some (.int .i64 z)/\z=((Qh l s).1:Nat)from by
   obtain⟨B,o,hk,hA,_,hc⟩:=((HRD.out.fresh ho.2.1).upd hu (fun b _ hb e=>by have:=hb.2;have:=HG.out;omega)).int (k:=s) hs;refine⟨B,o,l[s],hA,hc,?_⟩;have h1:=(HCK.out s).2;rw [List.getElem?_eq_getElem hk]at h1;have h2:=HT.out.1 _ (List.getElem_mem hk);simp only [Option.getD_some]at h1
   omega)
 have BG2:=hd_ (BG.out.fresh ho.2.1);have F2:=hd_ (F1.out.trans' ho.2.1);(have hmp:0<m:=by rw [hml];exact Q3t HT.out);have HML:=hd_ hml;(have hmI:(0:Int)<m:=by omega)
 have HMB:=hd_ (show m<=4000 from by
   have:=XE (l:=l) (q:=11) (i:=0) HL.out (by omega) (by omega);rw [hml];simp only [List.range_zero,List.filter_nil,List.append_nil]at this;have h:(Qq l).length<=11*n+n:=this
   have:=HN.out;omega)
 clear ho hm hm2 hoc hrd hml HOR HRI hmk BG F1;obtain⟨B,o,s0,rfl,hs0,hc0⟩:=HOA.out w2 (Upd.refl _ _) 0 hmp;(have hs0n:s0<n:=by have:=(HLT.out 0 s0 hs0).1;have:=HL.out;omega);obtain⟨B2,o2,z0,rfl,hcz,hz0⟩:=HLC.out w2 (Upd.refl _ _) s0 hs0n;(have hs0I:(s0:Int)<n:=by omega);rw [hz0]at hcz;have HS0:=hd_ hs0;clear hs0 hz0 hs0n;rw [Nat.add_zero]at hc0;go_wp2_with fail;go_quiet (fail);go_wp2;go_loopg [6,7,8] m (fun f vx vq vi wr=>∃i q X:Nat,i+f=m/\vi = .int .i64 (i:Nat)/\vq = .int .i64 (q:Nat)/\vx = .int .u32 (X:Nat)/\q<=11/\X<=2048/\Z9 l i q X/\Blk wr G 133 (QJ (JI l i)).toArray/\Upd (fun b=>b=G) w2 wr)
 case atStart=>exact⟨0,_,0,by omega,rfl,rfl,rfl,(HCK.out s0).1.1,by omega,Z9.first HT.out HS0.out,by rw [Q1b,HL.out];exact BG2.out.drewN _,(Upd.refl _ _).drewN _⟩
 case round =>
   obtain⟨i,q,X,hi,rfl,rfl,rfl,hq,hX,hnx,bg,ur⟩:=hrel;clear hc0 hcz hs0I;by_cases hlt:i<m
   . have hiI:(i:Int)<m:=by omega
     obtain⟨B3,o3,s,hB3,hs,hc⟩:=HOA.out wr ur i hlt;injection hB3 with hB3;injection hB3 with hb3 ho3;subst hb3 ho3;(have hsn:s<n:=by have:=(HLT.out i s hs).1;have:=HL.out;omega);obtain⟨B4,o4,z,hB4,hcz,hz⟩:=HLC.out wr ur s hsn;injection hB4 with hB4;injection hB4 with hb4 ho4;subst hb4 ho4;subst hz;(have hsI:(s:Int)<n:=by omega);obtain⟨hnx1,hnx2⟩:=hnx s hs;obtain⟨T,hT⟩:=nm_ ((Qh l s).1);obtain⟨V,hV⟩:=nm_ ((Qh l s).2);have hTV:=(HCK.out s).1;rw [<-hT,<-hV]at hTV hnx2;rw [<-hT]at hnx1 hcz;have hV11:V<2048:=Nat.lt_of_lt_of_le hTV.2 (Nat.pow_le_pow_right (n:=2) (by decide) hTV.1);(have hTI:(T:Int)<=11:=by omega);have hst:=Z9.step HT.out hs;rw [<-hT,<-hV]at hst;have hset:=Q2n hs;(have hcode:Qh l s=(T,V):=by rw [hT,hV]);rw [hcode]at hset;(have hsl:s<(JI l i).length:=by rw [Xr,HL.out];exact hsn);obtain⟨g0,g1⟩:=Q08 hsl;obtain⟨x0,y0,c0,c1⟩:∃x y:Nat,wr.cell? ⟨G,s*2,none⟩=some (.int .i64 (x:Nat))/\wr.cell? ⟨G,s*2+1,none⟩=some (.int .u32 (y:Nat)):=⟨_,_,by rw [bg.cell];simpa using g0,by rw [bg.cell];simpa using g1⟩;have z0:=bg.frozen (s*2);have z1:=bg.frozen (s*2+1);have bgs:=(bg.set_ (s*2) (.int .i64 (T:Nat))).set_ (s*2+1) (.int .u32 (V:Nat));have hrs:=Xq hsl (T,V);rw [hset]at hrs;rw [hrs]at bgs;have us:Upd (fun b=>b=G) w2 ((wr.setCell ⟨G,s*2,none⟩ (.int .i64 (T:Nat))).setCell ⟨G,s*2+1,none⟩ (.int .u32 (V:Nat))):=(ur.setCell (p:=⟨G,s*2,none⟩) (fun _=>rfl) _).setCell (p:=⟨G,s*2+1,none⟩) (fun _=>rfl) _;have HREL:=hd_ (And.intro hst (And.intro bgs us));have HQ:=hd_ (And.intro hi hlt);have HX:=hd_ (And.intro hnx1 (And.intro hnx2 hV11));clear hi hlt hs hsn hnx hnx1 hnx2 hT hV hTV hV11 hst hset hcode hsl g0 g1 bgs hrs us bg ur hq hX;go_wp2_with fail;go_loopg [6,7] (T-q) (fun f vx vq wx=>wx=wr/\∃Y p:Nat,p+f=T/\vx = .int .u32 (Y:Nat)/\vq = .int .i64 (p:Nat)/\Y*2^f=V)
     case atStart=>exact⟨rfl,X,q,by have:=HX.out.1;omega,rfl,rfl,HX.out.2.1⟩
     case round =>
       obtain⟨rfl,Y,p,hp,rfl,rfl,hY⟩:=hrel
       cases gk with
       | succ j =>
         (have hpI:(p:Int)<T:=by omega);(have hY2:Y*2*2^j=V:=by rw [<-hY,Nat.pow_succ];rw [Nat.mul_assoc,Nat.mul_comm 2])
         have hYb:(Y:Int)<=2048:=by
           have h1:=Nat.le_mul_of_pos_right Y (Nat.two_pow_pos (j+1));have:=HX.out.2.2;omega
         have HP:=hd_ hp;have HY:=hd_ hY2;clear hp hY hY2 c0 c1 z0 z1;go_wp2_with fail;go_roundg j
         case measure=>omega
         case rel=>exact⟨rfl,Y*2,p+1,by have:=HP.out;omega,by go_num,by go_num,HY.out⟩
       | zero =>
         (have hpT:p=T:=by omega);(have hYV:Y=V:=by simpa using hY);subst hpT hYV;(have hpI:¬(p:Int)<p:=by omega);(have hYb:(Y:Int)<=2048:=by have:=HX.out.2.2;omega);(have hmB:(m:Int)<=4000:=by have:=HMB.out;omega);clear hp hY;go_wp2_with fail;go_roundg (m-(i+1))
         case measure=>have:=HQ.out;omega
         case rel =>
           refine⟨i+1,p,Y+1,by have:=HQ.out;omega,by go_num,rfl,by go_num,by omega,by have:=HX.out.2.2;omega,HREL.out.1,HREL.out.2.1,HREL.out.2.2⟩
   (have him:i=m:=by omega);subst him;rw [HML.out,Q2o HT.out]at bg;have HRK:=hd_ (bg.rdk2 (n:=n) (by rw [Yb];exact HL.out));have UR:=hd_ ur;have HI:=hd_ hlt;clear bg ur hi hlt hnx;go_wp2_with fail;(try go_ret);exact hR.out _ _ ⟨F2.out.trans UR.out (fun b hb e=>by have:=HG.out;omega),G,rfl,HRK.out,by have:=HG.out;omega⟩
end Go.Proofs.YtckjdhaflokcgaaGreat
