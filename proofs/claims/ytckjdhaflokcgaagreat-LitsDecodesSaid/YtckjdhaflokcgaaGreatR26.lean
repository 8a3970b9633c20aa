/- Contracts and plain lemmas, part 26. Conditions: none beyond those of each. -/
import Derived.Test.YtckjdhaflokcgaaGreatR24
set_option maxHeartbeats 8000000
set_option linter.unusedVariables false
set_option linter.unusedSimpArgs false
set_option linter.unnecessarySimpa false
set_option maxRecDepth 100000
namespace Go.Proofs.YtckjdhaflokcgaaGreat
open Go.RowKit Go.Proofs.Tryz
theorem Q8j (s:Nat) (w:World) (hs:s<=512) :
   Calls prog 296 #[.int .i64 s] w λe w'=>e = .returned (.int .i64 (Yn s:Nat))/\w=w':=by
 (have hsI:(s:Int)<=512:=by omega);refine Q8 λR hR=>?_;by_cases h:s<16
 . have h1:(s:Int)<16:=by omega
   (have e:Yn s=1:=by unfold Yn;rw [if_pos h]);rw [e]at hR;clear h e hs;go_enter func296,ntmps296;go_wp2;(try go_ret);exact hR _ _ ⟨rfl,rfl⟩
 (have h1:¬(s:Int)<16:=by omega);(have e:((Yn s:Nat):Int)=(s:Int) / 2+(s:Int) / 8+3:=by unfold Yn;rw [if_neg h];omega);rw [e]at hR;clear h e hs;go_enter func296,ntmps296;go_wp2;(try go_ret);exact hR _ _ ⟨rfl,rfl⟩
theorem Q6p (F:Nat->Prop) (A:Option Addr) (n c p:Nat) (N:List Int) (w:World) (hr:Rd w F A n (Q7 N)) (hfit:Fit N) (hn:(n:Int)<=1099511627776) (hv:Yc p N 256 9) :
   Calls prog 260 #[.agg #[.int .i64 p,.slice A n c]] w λe w'=>∃g,e = .returned (.tuple #[.slice (some ⟨g,0,none⟩) (2^p) (2^p),.int .i64 0])/\Rd w' (λb=>b=g) (some ⟨g,0,none⟩) (2^p) (Q7 (Qi p N))/\w.heap.size<=g/\Q0 w w':=by
 (have hN:N.length=n:=by have:=hr.1;simpa using this);obtain⟨w0,H,hw0,hH,f0,bt⟩:=al_ w 205 #[.int .i64 p,.slice A n c];have hck:=Q8k F A n c p N w0 (hr.fresh f0) hfit hn;rw [if_pos hv]at hck;(have hp9:p<=9:=by have:=hv.2.1;omega);(have hn256:(n:Int)<=256:=by have:=hv.2.2.2.2.1;omega)
 have hge:∀(k:Nat) (h:k<N.length),-1<=N[k]/\N[k]<=512:=λk h=>by
   have h1:=hv.2.2.2.2.2.2.1 _ (List.getElem_mem h);have h2:=Zf (List.getElem_mem h);rw [hv.2.2.2.2.2.2.2]at h2;have h3:=JW hp9;(have h4:((2:Int)^(p:Int).toNat)=((2^p:Nat):Int):=by simp);(have h5:N[k]<=QP N[k]:=by unfold QP;split<;>omega);omega
 have hspl:=Q0B hv;have hall:=Q8i hv;have hocc:=fun(m j:Nat) (f:Int->Option Int)=>Q8h (p:=p) (rest:=Qo N) (rs:=Qw N) (m:=m) (j:=j) (f:=f) hp9 hspl;have HSZ:=hd_ (λW=>K5 p W hp9);have hpp:0<2^p:=Nat.two_pow_pos p;have hpw:=JW hp9;have HST:=hd_ (λW=>Q8j (2^p) W hpw);obtain⟨s,hs⟩:=nm_ (2^p);obtain⟨L,hL⟩:=nm_ (Qi p N);rw [<-hL]at hall;simp only [<-hL];simp only [<-hs]at hpw hpp HSZ HST hspl hall hocc|-;(have hstl:Yn s<=512:=by unfold Yn;split<;>omega);(have hsI:(s:Int)<=512:=by omega);(have hs0:0<(s:Int):=by omega)
 have hmk:∀W,(Instr.makeSlice 33 (.int .i64 (s:Int)) (.int .i64 (s:Int))).run prog W = .ok (.slice (some ⟨W.heap.size,0,none⟩) s s) (W.alloc (.cells (madeCells #[.int .i64 0] s) 3)):=λW=>by
   have:=run_make_row' (P:=prog) 33 3 (.int .i64 0) 8 underlying33 QV rfl .i64 .i64 s (by omega) (by omega) W;simpa using this
 obtain⟨cs,hcs⟩:=nm_ (madeCells #[Value.int .i64 0] s);simp only [<-hcs]at hmk;have HCK:=hd_ hck;have HGE:=hd_ hge;have HSP:=hd_ hspl;have HALL:=hd_ hall;have HOCC:=hd_ hocc;have HBT:=hd_ bt;have F0:=hd_ f0;have HR:=hd_ (λW (h:Q0 w W)=>hr.both.fresh h);have HN:=hd_ hN;have HW:=hd_ hw0;have HH:=hd_ hH;have HCS:=hd_ hcs;have HSTL:=hd_ hstl;clear hs hL bt f0 hr hN hw0 hH hcs hpw hpp hv hfit hck hge hspl hall hocc hstl hp9;refine Q8 λR hR=>?_;go_enter func260,ntmps260;go_upto_region 1 with fail;simp only [<-HH.out,<-HW.out];obtain⟨t0,t1⟩:=(HBT.out).cells2;go_wp2_with fail;refine HCK.mono ?_;rintro e wa ⟨rfl,fa⟩;have HBA:=hd_ (HBT.fresh fa);have FA:=hd_ (F0.trans' fa);have s0:=HBA.cell 0;simp at s0;clear t0 t1 fa;go_wp2_with fail;refine(HSZ _).mono ?_;rintro e wx ⟨rfl,rfl⟩;go_upto_region 6 with fail;obtain⟨g,hg⟩:=nm_ (wa.heap.size);obtain⟨w1,hw1⟩:=nm_ (wa.alloc (.cells cs 3));simp only [<-hg,<-hw1];have HHG:=hd_ (show H<g by have:=HBA.lt;omega);(have BT1:Blk w1 H 205 #[.int .i64 p,.slice A n c]:=by rw [hw1];exact HBA.alloc _);(have BG0:Blk w1 g 3 cs:=by rw [hw1];exact Qb hg _ _);have F1:=hd_ (show Q0 w w1 by rw [hw1];exact FA.alloc _);have HGW:=hd_ (show w.heap.size<=g by have:=FA.size;omega)
 have BG:Blk w1 g 3 (Q7 (Ki (List.replicate s (-1)) (List.replicate s 0) 0)).toArray:=by
   have e:(Q7 (Ki (List.replicate s (-1)) (List.replicate s 0) 0)).toArray=cs:=by
     rw [HCS.out,Q2O];exact Array.toList_inj.1 (by rw [toList_madeCells_one];simp [Q7])
   rw [e];exact BG0
 have HTB:=hd_ (show ∀W,Upd (λb=>b=g) w1 W->W.cell? ⟨H,0,none⟩=some (.int .i64 p)/\W.cell? ⟨H,1,none⟩=some (.slice A n c)from λW hu=>by
   have bb:=BT1.upd hu (by have:=HHG.out;omega)
   exact bb.cells2)
 have HRN:=hd_ (show ∀W,Upd (λb=>b=g) w1 W->∀k,k<n->∃(b o:Nat) (hk':k<N.length),A=some ⟨b,o,none⟩/\b<W.heap.size/\W.cell? ⟨b,o+k,none⟩=some (.int .i64 N[k])from λW hu k hk =>
   ((HR w1 F1.out).upd hu (λb _ hb e=>by have h1:=hb.2;have h2:=HGW.out;omega)).int hk)
 have BGH:=hd_ BG;clear hg hw1 BT1 BG0 BG s0 hmk HBA HBT F0 FA HCK HR;go_wp2_with fail;go_loopg [7] s (λf vi wr=>∃k,k+f=s/\vi = .int .i64 k/\Blk wr g 3 (Q7 (Ki (List.replicate s (-1)) (List.replicate s 0) k)).toArray/\Upd (λb=>b=g) w1 wr)
 case atStart=>exact⟨0,by omega,rfl,BGH.out,Upd.refl _ _⟩
 case round =>
   obtain⟨k,hk,rfl,bg,ur⟩:=hrel;have HK:=hd_ hk;have BK:=hd_ bg;have UR:=hd_ ur;have hfz:=bg.frozen k;clear bg ur;by_cases hlt:k<s
   . have hlI:(k:Int)<s:=by omega
     have hcl:wr.cell? ⟨g,k,none⟩=some (.int .i64 0):=by
       rw [BK.cell];have:=Q3W (R:=List.replicate s (-1)) (M:=List.replicate s 0) (k:=k) (by simp) (by simpa using hlt);simp only [Q7,List.getElem?_toArray,List.getElem?_map,this];simp [hlt]
     have bs:=BK.set_ k (.int .i64 (-1));rw [Xy,Q3X (by simp) (by simpa using hlt) (-1) (by simp [hlt])]at bs;have BS:=hd_ bs;have US:=hd_ (UR.setCell (p:=⟨g,k,none⟩) (λ_=>rfl) (.int .i64 (-1)));clear bs hk;go_wp2_with fail;go_roundg (gk-1)
     case measure=>have:=HK.out;omega
     case rel=>exact⟨k+1,by have:=HK.out;omega,by go_num,BS.out,US.out⟩
   (obtain rfl:k=s:=by have:=HK.out;omega);have hm:=Q3Y (R:=List.replicate k (-1)) (M:=List.replicate k (0:Int)) (by simp);rw [List.length_replicate]at hm
   have bl:Blk wr g 3 (Q7 (Zo k (Ql k []))).toArray:=by
     have:=BK.out;rw [hm]at this;rw [Q6j];exact this
   have BL:=hd_ bl;have hw32:IntKind.i64.wrap ((k:Int)-1)=k-1:=IntWalk.i64_in _ (by omega);clear bl hm BK hfz hk HK hlt BGH;go_wp2_with fail;go_loopg [8,9] n (λf vt vi wr=>∃i,i+f=n/\vi = .int .i64 i/\vt = .int .i64 ((k:Int)-1-(Qw (N.take i)).length)/\Blk wr g 3 (Q7 (Zo k (Ql k (Qw (N.take i))))).toArray/\Upd (λb=>b=g) w1 wr)
   case atStart=>exact⟨0,by omega,rfl,by simp [Qw,QT],BL.out,UR.out⟩
   case round =>
     obtain⟨i,hi,rfl,rfl,bg,ur⟩:=hrel;have HI:=hd_ hi;have BI:=hd_ bg;have UI:=hd_ ur;obtain⟨q0,q1⟩:=HTB _ ur;(have hiI:(i:Int)<=256:=by omega);clear bg ur;by_cases hlt:i<n
     . have hltI:(i:Int)<n:=by omega
       obtain⟨b,o,hiN,rfl,_,hc⟩:=HRN _ UI.out i hlt;have HTK:=hd_ (Q1E hiN)
       have hRL:(Qw (N.take (i+1))).length<=k:=by
         have h1:(Qw N).length=(Qw (N.take (i+1))).length+(QT (i+1) (N.drop (i+1))).length:=by
           have key:∀(l:List Int) (j q:Nat),QT j l=QT j (l.take q)++QT (j+q) (l.drop q):=by
             intro l
             induction l with
             | nil=>intro j q;simp [QT]
             | cons v l ih =>
               intro j q
               cases q with
               | zero=>simp [QT]
               | succ q =>
                 simp only [List.take_succ_cons,List.drop_succ_cons,QT];rw [ih (j+1) q,show j+1+q=j+(q+1) by omega];(split<;>simp)
           have:=key N 0 (i+1);rw [Nat.zero_add]at this;unfold Qw;rw [this,List.length_append]
         have:=HSP.out;omega
       obtain⟨rs,hrs⟩:=nm_ (Qw (N.take i));simp only [<-hrs]at BI HTK|-;rw [HTK.out]at hRL;generalize N[i]=z at *;by_cases hz:z=-1
       . have hzb:(z == -1)=true:=by simpa using hz
         rw [if_pos hz]at HTK hRL;rw [List.length_append]at hRL;(have hR1:rs.length+1<=k:=by simpa using hRL);obtain⟨t,ht⟩:∃t:Nat,t+1+rs.length=k:=⟨k-1-rs.length,by omega⟩;(have htI:(k:Int)-1-rs.length=t:=by omega);(have htlt:(t:Int)<k:=by omega);(have htk:t<k:=by omega);have hfz:=BI.frozen t;have hcl:∃v,wr.cell? ⟨g,t,none⟩=some v:=⟨_,by rw [BI.cell];simp only [Q7,List.getElem?_toArray,List.getElem?_map,KC htk];rfl⟩;obtain⟨v0,hcl⟩:=hcl;have bs:=BI.set_ t (.int .i64 (i:Int));rw [Xy,Q2N _ htk,<-htI,VH,<-HTK.out]at bs;have BS:=hd_ bs;have US:=hd_ (UI.setCell (p:=⟨g,t,none⟩) (λ_=>rfl) (.int .i64 (i:Int)));have HLN:=hd_ (show(Qw (N.take (i+1))).length=rs.length+1 by rw [HTK.out];simp);have hw33:IntKind.i64.wrap ((t:Int)-1)=t-1:=IntWalk.i64_in _ (by omega);have HTI:=hd_ htI;rw [htI];clear bs hi hz hRL hR1 ht htk hrs htI;go_wp2_with fail;go_roundg (gk-1)
         case measure=>have:=HI.out;omega
         case rel=>exact⟨i+1,by have:=HI.out;omega,by go_num,by rw [HLN.out];congr 1;have:=HTI.out;omega,BS.out,US.out⟩
       (have hzb:(z == -1)=false:=by simpa using hz);rw [if_neg hz,List.append_nil]at HTK;clear hi hz hRL hrs;go_wp2_with fail;go_roundg (gk-1)
       case measure=>have:=HI.out;omega
       case rel=>exact⟨i+1,by have:=HI.out;omega,by go_num,by rw [HTK.out],by rw [HTK.out];exact BI.out,UI.out⟩
     (obtain rfl:i=n:=by have:=HI.out;omega);have htn:N.take i=N:=List.take_of_length_le (by have:=HN.out;omega);rw [htn]at BI|-;have hps:=Q4F (Qo N) (Qw N) (show 0<k by omega);have hwn:=ZC.rare k (Qw N);(have hm0:(Qo (N.take 0)).length=0:=by simp [Qo,Yp]);(have hti0:Ym k 0=0:=by simp [Ym]);have HPS:=hd_ hps;have HWN:=hd_ hwn;have HM0:=hd_ hm0;have HT0:=hd_ hti0;clear hps hwn hm0 hti0 hi HI hlt htn;go_wp2_with fail;go_loopg [10,11] i (λf va vi wr=>∃(x j:Nat) (fn:Int->Option Int),x+f=i/\vi = .int .i64 x/\va = .int .i64 (Ym k j:Nat)/\ZY k (Qo N) (Qw N) (Qo (N.take x)).length j fn/\ZC fn/\Blk wr g 3 (Q7 (Zo k fn)).toArray/\Upd (λb=>b=g) w1 wr)
     case atStart=>exact⟨0,0,_,by omega,rfl,by rw [HT0.out];rfl,by rw [HM0.out];exact HPS.out,HWN.out,BI.out,UI.out⟩
     case round =>
       obtain⟨x,j,fn,hx,rfl,rfl,pj,nn,bg,ur⟩:=hrel;have HX:=hd_ hx;have PJ:=hd_ pj;have NN:=hd_ nn;have BX:=hd_ bg;have UX:=hd_ ur;obtain⟨q0,q1⟩:=HTB _ ur;(have hxI:(x:Int)<=256:=by omega);(have htI:(Ym k j:Int)<k:=by have:=Xx (s:=k) (j:=j) (by omega);omega);clear pj nn bg ur;by_cases hlt:x<i
       . have hltI:(x:Int)<i:=by omega
         obtain⟨b,o,hxN,rfl,_,hc⟩:=HRN _ UX.out x hlt;have HGX:=hd_ (HGE x hxN);have HRX:=hd_ (KX hxN);have HRA:=hd_ (λm=>Q9B (m:=m) hxN)
         have HCX:=hd_ (show ∀W,Upd (λb=>b=g) w1 W->W.cell? ⟨b,o+x,none⟩=some (.int .i64 N[x])from λW hu=>by
           obtain⟨b',o',hx',he,_,hc'⟩:=HRN W hu x hlt;injection he with he;injection he with h1 h2;subst h1 h2
           exact hc')
         obtain⟨z,hz⟩:=nm_ (N[x]);simp only [<-hz]at HGX HRX HCX;obtain⟨m0,hm0⟩:=nm_ ((Qo (N.take x)).length);have HRL:=hd_ (show(Qo (N.take (x+1))).length=m0+z.toNat by rw [HRX.out,List.length_append,List.length_replicate,hm0]);simp only [<-hm0,HRL.out]at PJ HRA|-;clear hx hz hm0 HRX hc;go_wp2_with fail;go_loopg [10,12] z.toNat (λf va vq wr=>∃(q j:Nat) (fn:Int->Option Int),q+f=z.toNat/\vq = .int .i64 q/\va = .int .i64 (Ym k j:Nat)/\ZY k (Qo N) (Qw N) (m0+q) j fn/\ZC fn/\Blk wr g 3 (Q7 (Zo k fn)).toArray/\Upd (λb=>b=g) w1 wr)
         case atStart=>exact⟨0,j,fn,by omega,rfl,rfl,PJ.out,NN.out,BX.out,UX.out⟩
         case round =>
           clear BX UX PJ NN q0 q1 htI;obtain⟨q,j,fn,hq,rfl,rfl,pj,nn,bg,ur⟩:=hrel;have HQ:=hd_ hq;have PJ:=hd_ pj;have NN:=hd_ nn;have BQ:=hd_ bg;have UQ:=hd_ ur;obtain⟨q0,q1⟩:=HTB _ ur;have hcx:=HCX _ ur;(have htI:(Ym k j:Int)<k:=by have:=Xx (s:=k) (j:=j) (by omega);omega);clear pj nn bg ur;by_cases hqz:(q:Int)<z
           . have hz512:=HGX.2
             (have hqz':q<z.toNat:=by omega);have HRE:=hd_ (HRA (m0+q) (by omega) (by omega))
             have hrl:m0+q<(Qo N).length:=by
               have h:=HRE.out;rcases Nat.lt_or_ge (m0+q) (Qo N).length with h1|h1
               . exact h1
               rw [List.getElem?_eq_none h1]at h;cases h
             have HRR:=hd_ hrl;clear hrl hq;go_wp2_with fail;go_loopg [10] (k-j) (λf va wx=>∃(j:Nat),wx=wr/\j+f=k/\va = .int .i64 (Ym k j:Nat)/\ZY k (Qo N) (Qw N) (m0+q) j fn)
             case atStart=>exact⟨j,rfl,by have:=PJ.1;omega,rfl,PJ.out⟩
             case round =>
               obtain⟨j,rfl,hj,rfl,pj⟩:=hrel;have PJ:=hd_ pj;have hlt':=Xx (s:=k) (j:=j) (by omega);have hcl:=BQ.cell (Ym k j);have hg:=KC (f:=fn) hlt';simp only [Q7,List.getElem?_toArray,List.getElem?_map,hg,Option.map_some]at hcl;have hsm:=NN.some (Ym k j:Nat);(have htI:(Ym k j:Int)<k:=by omega);have HSC:=hd_ (Q6g k j);obtain⟨v,hv⟩:=nm_ ((fn (Ym k j:Nat)).getD (-1));rw [<-hv]at hcl hsm;have HOC:=hd_ (λh=>HOCC (m0+q) j fn PJ.out h HRR.out);have HFR:=hd_ (λh=>Q6h PJ.out h HRE.out);have HJ:=hd_ hj;have bs:=BQ.set_ (Ym k j) (.int .i64 (x:Int));have hfz:=BQ.frozen (Ym k j);rw [Xy,Q2N _ hlt']at bs;have HNP:=hd_ (NN.put (Ym k j:Nat) x);obtain⟨tj,htj⟩:=nm_ (Ym k j);have HTJ:=hd_ htj;have US:=hd_ (UQ.setCell (p:=⟨g,tj,none⟩) (λ_=>rfl) (.int .i64 (x:Int)));simp only [<-htj]at hcl hfz bs htI HSC HNP HOC HFR hsm|-;have BS:=hd_ bs;clear pj hg hv bs hj htj;by_cases h0:0<=v
               . rw [decide_eq_true h0]at hsm
                 have PJ2:=hd_ (HOC hsm);(have hst:(Yn k:Int)<=512:=by have:=HSTL.out;omega);clear hsm HFR HOC BS hfz;go_wp2_with fail;refine(HST _).mono ?_;rintro e wx ⟨rfl,rfl⟩;go_wp2_with fail;go_roundg (gk-1)
                 case measure=>have:=HJ.out;have:=PJ2.1;omega
                 case rel=>exact⟨j+1,rfl,by have:=HJ.out;have:=PJ2.1;omega,by rw [HSC.out];simp,PJ2.out⟩
               rw [decide_eq_false h0]at hsm;have PJ2:=hd_ (HFR hsm);clear hsm HFR HOC;go_wp2_with fail;go_roundg (z.toNat-(q+1))
               case measure=>have:=HQ.out;omega
               case rel =>
                 refine⟨q+1,j,_,by have:=HQ.out;omega,by go_num,by rw [HTJ.out],?_,HNP.out,BS.out,US.out⟩;exact PJ2.out
           (obtain rfl:q=z.toNat:=by omega);clear hq;go_wp2_with fail;go_roundg (i-(x+1))
           case measure=>have:=HX.out;omega
           case rel=>exact⟨x+1,j,fn,by have:=HX.out;omega,by go_num,rfl,by rw [HRL.out];exact PJ.out,NN.out,BQ.out,UQ.out⟩
       (obtain rfl:x=i:=by have:=HX.out;omega);have htn:N.take x=N:=List.take_of_length_le (by have:=HN.out;omega);have hpj:=PJ.out;rw [htn]at hpj;have hdn:=Q6i HSP.out hpj;have hfin:=HALL.out;rw [hdn]at hfin;have bf:=BX.out;rw [hfin]at bf;have rd:=bf.rdg (n:=k) (by rw [<-hfin];simp);clear hx HX hlt PJ NN hpj hdn hfin;go_wp2_with fail;(try go_ret2);exact hR _ _ ⟨g,rfl,rd,HGW.out,F1.trans UX.out (λb hb e=>by have:=HGW.out;omega)⟩
theorem Q4J:∀m,m<1025->1<m->Lib.bitLen (m / 2)+1=Lib.bitLen m:=by decide +kernel
theorem Q8l (F:Nat->Prop) (A:Option Addr) (n c p:Nat) (N:List Int) (w:World) (hr:Rd w F A n (Q7 N)) (hfit:Fit N) (hn:(n:Int)<=1099511627776) (hv:Yc p N 256 9) :
   Calls prog 212 #[.agg #[.int .i64 p,.slice A n c]] w λe w'=>∃v,e = .returned (.tuple #[v,.int .i64 0])/\QS w' 264 3 v ((JY p N).map tri)/\(∀b,v.ownBlock=some b->w.heap.size<=b)/\Q0 w w':=by
 (have hN:N.length=n:=by have:=hr.1;simpa using this);(have hp:p<=9:=by have:=hv.2.1;omega);have hpw:2^p<=512:=JW hp;obtain⟨w0,H,hw0,hH,f0,bt⟩:=al_ w 205 #[.int .i64 p,.slice A n c];have HSP:=hd_ (Q6p F A n c p N w0 (hr.fresh f0) hfit hn hv);have HSZ:=hd_ (λb W (h:b<=9)=>K5 b W h);have HR:=hd_ (λW (h:Q0 w W)=>hr.both.fresh h);have BT:=hd_ bt;have F0:=hd_ f0;have HW:=hd_ hw0;have HH:=hd_ hH;have HV:=hd_ hv;have HN:=hd_ hN;obtain⟨s,hs⟩:=nm_ (2^p);simp only [<-hs]at hpw HSP;have HS:=hd_ hs;obtain⟨P,hP⟩:=nm_ (Qi p N);simp only [<-hP]at HSP;have HPL:=hd_ (show P.length=s by rw [hP,hs];simp);have HP:=hd_ hP;(have hpI:(p:Int)<=9:=by omega);obtain⟨t0,t1⟩:=(bt).cells2;clear hr hw0 hH f0 bt hv hs hP hN hp hfit;refine Q8 λR hR=>?_;go_enter func212,ntmps212;go_upto_region 1 with fail;simp only [<-HH.out,<-HW.out];go_wp2_with fail;refine HSP.mono ?_;rintro e w1 ⟨g,rfl,r1,hg,f1⟩;have bt1:=BT.fresh f1;have F1:=hd_ (F0.trans' f1)
 have HGL:=hd_ (show w.heap.size<=g/\g<w1.heap.size from by
   obtain⟨b,o,e,h1,h2,_⟩:=r1.2 (by rw [HS.out];exact Nat.two_pow_pos p);have:=F0.size
   exact⟨by omega,by omega⟩)
 have HTB:=hd_ (show ∀W,Q0 w1 W->W.cell? ⟨H,0,none⟩=some (.int .i64 p)/\W.cell? ⟨H,1,none⟩=some (.slice A n c)from λW hu=>by
   have bb:=bt1.fresh hu
   exact bb.cells2)
 have HRN:=hd_ (show ∀W,Q0 w1 W->∀k,k<n->∃(b o:Nat) (hk':k<N.length),A=some ⟨b,o,none⟩/\b<W.heap.size/\W.cell? ⟨b,o+k,none⟩=some (.int .i64 N[k])from λW hu k hk =>
   ((HR w1 F1.out).fresh hu).int hk)
 have HRP:=hd_ (show ∀W,Q0 w1 W->∀k,(hk:k<P.length)->W.cell? ⟨g,k,none⟩=some (.int .i64 P[k])from λW hu k hk=>by
   obtain⟨b,o,hk',he,_,hc⟩:=(r1.fresh hu).int (k:=k) (by rw [<-HPL.out];exact hk);injection he with he;injection he with h1 h2;subst h1 h2;rw [Nat.zero_add]at hc
   exact hc)
 clear t0 t1 r1 f1 hg bt1 HSP HR BT F0 HW;(have hs0:0<s:=by rw [HS.out];exact Nat.two_pow_pos p);go_wp2_with fail;go_loopg [6,7] s (λf v6 vi wr=>∃i,i+f=s/\vi = .int .i64 i/\QS wr 264 3 v6 (((List.range i).map (Jj p N P)).map tri)/\(∀b,v6.ownBlock=some b->w1.heap.size<=b)/\Q0 w1 wr)
 case atStart=>exact⟨0,by omega,rfl,QS.nil _ _ _,λb h=>by simp [Value.ownBlock]at h,Upd.refl _ _⟩
 case round =>
   obtain⟨w3,rfl⟩:=nm_ (wr);obtain⟨i,hi,rfl,ov,hvb,ur⟩:=hrel;have HI:=hd_ hi;have OV:=hd_ ov;have HVB:=hd_ hvb;have UR:=hd_ ur;clear ov hvb ur;by_cases his:i<s
   . have hiI:(i:Int)<s:=by omega
     (have hiP:i<P.length:=by rw [HPL.out];exact his);(have hsym:Zv P i=P[i]:=by unfold Zv;rw [List.getElem?_eq_getElem hiP];rfl);have HSY:=hd_ hsym;have HCI:=hd_ (λW hW=>HRP W hW i hiP);have hok:=Q1Z HV.out (i:=i) (by rw [<-HS.out];exact his);rw [<-HP.out,hsym]at hok;obtain⟨sy,hsy,hsn,hx1,hx2,hb1,hb2,hz1,hz2⟩:=hok;simp only [hsy]at HCI;have HZ0:=hd_ (show(Jk P 0 sy:Nat)=0 by simp [Jk]);have HCS:=hd_ (λj (hj:j<P.length)=>Q04 hj (sy:Int));go_wp2_with fail;go_loopg [8,9] i (λf vk vj wx=>∃j,j+f=i/\vj = .int .i64 j/\vk = .int .i64 (Jk P j sy:Nat)/\Q0 w3 wx)
     case atStart=>exact⟨0,by omega,rfl,by rw [HZ0.out];rfl,Upd.refl _ _⟩
     case round =>
       obtain⟨j,hj,rfl,rfl,ux⟩:=hrel;have HJ:=hd_ hj;have UX:=hd_ ux;have hcle:=Q5e P j sy;(have hcI:(Jk P j sy:Int)<=512:=by omega);obtain⟨C,hC⟩:=nm_ (Jk P j sy);simp only [<-hC]at hcI|-;have HC:=hd_ hC;clear hC hcle;by_cases hjl:j<i
       . have hjI:(j:Int)<i:=by omega
         (have hjP:j<P.length:=by omega);have hcj:=HRP _ (UR.trans' ux) j hjP;have hci:=HCI _ (UR.trans' ux);have hcj':=HRP _ (UR.trans' ux).drew j hjP;have hci':=HCI _ (UR.trans' ux).drew;have HS1:=hd_ (HCS j hjP);clear hj ux;by_cases he:P[j]=(sy:Int)
         . rw [if_pos he]at HS1
           rw [he]at hcj hcj';clear he;go_wp2_with fail;go_region;go_wp2_with fail;go_roundg (gk-1)
           case measure=>have:=HJ.out;omega
           case rel=>exact⟨j+1,by have:=HJ.out;omega,by go_num,by rw [HS1.out,<-HC.out];simp,UX.drew⟩
         rw [if_neg he]at HS1;(have heb:(P[j] == (sy:Int))=false:=by simpa using he);go_wp2_with fail;go_region;go_wp2_with fail;go_roundg (gk-1)
         case measure=>have:=HJ.out;omega
         case rel=>exact⟨j+1,by have:=HJ.out;omega,by go_num,by rw [HS1.out,<-HC.out];simp,UX.drew⟩
       (obtain rfl:j=i:=by have:=HJ.out;omega)
       have hnum:JM N P j=max N[sy] (-N[sy])+Jk P j (sy:Int):=by
         unfold JM;rw [HSY.out,hsy,Int.toNat_natCast,List.getElem?_eq_getElem hsn];rfl
       have hz5:=HV.2.2.2.2.2.2.1 _ (List.getElem_mem hsn)
       have hz6:N[sy]<=512:=by
         have h1:=Zf (List.getElem_mem hsn);rw [HV.2.2.2.2.2.2.2]at h1;(have h2:((2:Int)^(p:Int).toNat)=((2^p:Nat):Int):=by simp);have h3:=HS.out;unfold QP at h1;(split at h1<;>omega)
       (have hsyn:sy<n:=by have:=HN.out;omega);(have hsI:(sy:Int)<n:=by omega)
       have HZC:=hd_ (show ∀W,Q0 w1 W->∃(b o:Nat),A=some ⟨b,o,none⟩/\W.cell? ⟨b,o+sy,none⟩=some (.int .i64 N[sy])from λW hW=>by
         obtain⟨b,o,_,h1,_,h2⟩:=HRN W hW sy hsyn
         exact⟨b,o,h1,h2⟩)
       obtain⟨bb,oo,rfl,hc0⟩:=HZC w1 (Upd.refl _ _)
       have HZD:=hd_ (show ∀W,Q0 w1 W->W.cell? ⟨bb,oo+sy,none⟩=some (.int .i64 N[sy])from λW hW=>by
         obtain⟨b,o,h1,h2⟩:=HZC W hW;injection h1 with h1;injection h1 with h1 h3;subst h1 h3
         exact h2)
       have hbs:Zn p N P j=JM N P j*2^(JN p N P j).toNat-2^p:=rfl;have hbit:JN p N P j=(p:Int)+1-(Lib.bitLen (JM N P j).toNat:Nat):=rfl;have HCZ:=hd_ (show Jj p N P j=((sy:Int),JN p N P j,Zn p N P j) by unfold Jj;rw [HSY.out,hsy]);rw [<-HC.out]at hnum;rw [hbs]at hz1 hz2 HCZ;have hp10:(2:Nat)^(p+1)<=1024:=Nat.le_trans (Nat.pow_le_pow_right (by decide) (show p+1<=10 by omega)) (by decide)
       have hx3:JM N P j<1025:=by
         (have:((2:Int)^(p+1))=((2^(p+1):Nat):Int):=by simp);omega
       (have hqI:((2:Int)^p)=(s:Nat):=by rw [HS.out];simp);rw [hqI]at hz1 hz2 HCZ;generalize JM N P j=xz at *;obtain⟨x,rfl⟩:∃x:Nat,xz=x:=⟨xz.toNat,by omega⟩;generalize JN p N P j=bz at *;obtain⟨b,rfl⟩:∃b:Nat,bz=b:=⟨bz.toNat,by omega⟩;rw [Int.toNat_natCast]at hbit hz1 hz2 HCZ;generalize N[sy]=z at *;(have hb9:b<=9:=by omega);have HBIT:=hd_ hbit;have hxI:(x:Int)<1025:=hx3;have hx1I:1<=(x:Int):=hx1;(have hstx:(if z=-1 then 1 else z)+(C:Int)=x:=by rw [hnum];split<;>omega);(have h2b:((2:Int)^b)=((2^b:Nat):Int):=by simp);have hpb:=JW hb9;have HSB:=hd_ (λW=>HSZ b W hb9);obtain⟨B2,hB2⟩:=nm_ (2^b);simp only [<-hB2]at hpb HSB h2b;rw [h2b]at hz1 hz2 HCZ;obtain⟨y,hy⟩:=nm_ ((x:Int)*(B2:Nat));rw [<-hy]at hz1 hz2 HCZ;(have hys:y-(s:Nat)<=512:=by omega);have hys0:0<=y-(s:Nat):=hz1;have s9:IntKind.i64.wrap (y-(s:Nat))=y-s:=IntWalk.i64_in _ (by omega);(have s8:IntKind.i64.wrap ((x:Int)*(B2:Nat))=y:=by rw [<-hy];exact IntWalk.i64_in _ (by omega));(have s10:IntKind.i64.wrap ((x:Int)*(B2:Nat)-(s:Nat))=y-s:=by rw [<-hy];exact s9);have HST:=hd_ (λW=>KY z W);obtain⟨v,hv⟩:=nm_ ((if z=-1 then 1 else z));simp only [<-hv]at HST hstx;(have hv1:-1<=v/\v<=512:=by rw [hv];split<;>omega);(have s7:IntKind.i64.wrap (v+(C:Nat))=x:=by rw [hstx];exact IntWalk.i64_in _ (by omega));have HUW:=hd_ (UR.trans' UX.out);have HUX:=hd_ UX.out;obtain⟨q0,q1⟩:=HTB _ HUW.out;clear hj hnum hbs hbit hx1 hx2 hx3 hb1 hb2 hz2 hz5 hz6 hp10 hqI hc0 hjl h2b hB2 hv hstx hsym hsy hsyn UX HJ;go_wp2_with fail
       go_region_held3 (λW=>Q0 w3 W/\W.cell? ⟨g,j,none⟩=some (.int .i64 sy)/\W.cell? ⟨H,1,none⟩=some (.slice (some ⟨bb,oo,none⟩) n c)/\W.cell? ⟨bb,oo+sy,none⟩=some (.int .i64 z))
         (first|exact⟨HUX.out,HCI _ HUW.out,(HTB _ HUW.out).2,HZD _ HUW.out⟩|exact⟨HUX.drew,HCI _ HUW.drew,(HTB _ HUW.drew).2,HZD _ HUW.drew⟩)
         (first|(go_at_call 259;refine(HST _).mono ?_;rintro e w' ⟨rfl,rfl⟩))
       have HFX:=hd_ (And.left (by assumption:Q0 w3 _/\_));obtain⟨k0,k1⟩:=HTB _ (UR.trans' HFX.out);clear s7 HST;go_wp2_with fail;go_loopg [11,12] x (λf vb vy wx=>∃bv:Nat,1<=f/\f<1025/\(bv:Int)=(p:Int)+Lib.bitLen f-Lib.bitLen x/\vb = .int .i64 bv/\vy = .int .i64 f/\bv<=9/\Q0 w3 wx)
       case atStart=>exact⟨p,by omega,by omega,by omega,rfl,rfl,by omega,HFX.out⟩
       case round =>
         obtain⟨bv,hy1,hy2,hbv,rfl,rfl,hbv9,fx⟩:=hrel;have HBV:=hd_ hbv;have FX:=hd_ fx;(have hyI:(gk:Int)<1025:=by omega);(have hbvI:(bv:Int)<=9:=by omega);by_cases hy3:1<gk
         . have hyJ:1<(gk:Int):=by omega
           have HH2:=hd_ (Q4J gk hy2 hy3);obtain⟨_,b2,_⟩:=ZR (m:=gk / 2) (Nat.lt_of_lt_of_le (show gk / 2<1025 by omega) (by decide)) (by omega)
           have HB1:=hd_ (show 1<=bv by
             have h1:=(ZR (m:=x) (Nat.lt_of_lt_of_le (show x<1025 by omega) (by decide)) (by omega)).1;have h2:=(ZR (m:=gk / 2) (Nat.lt_of_lt_of_le (show gk / 2<1025 by omega) (by decide)) (by omega)).1;have h3:=HH2.out;have h4:=HBIT.out
             omega)
           have HY2:=hd_ hy2;clear hbv fx b2 hy1 hy2;go_wp2_with fail;go_roundg (gk / 2)
           case measure=>omega
           case rel=>exact⟨bv-1,by omega,by have:=HY2.out;omega,by have h1:=HBV.out;have h2:=HH2.out;have h3:=HB1.out;omega,by have:=HB1.out;congr 1;omega,by congr 1,by omega,FX.out⟩
         (obtain rfl:gk=1:=by omega)
         have hbb:bv=b:=by
           have h1:=HBIT.out;have h2:=HBV.out;(have h3:Lib.bitLen 1=1:=by decide);omega
         subst hbb;have hcx:=HCI _ (UR.trans' fx);have HUX2:=hd_ fx;have HUW2:=hd_ (UR.trans' fx);have OV2:=hd_ (OV.fresh fx);(have hrl:(((List.range j).map (Jj p N P)).map tri).length<=2^30:=by simp;omega);clear hbv fx hy1 hy2 hyI k0 k1 HFX HUX HUW hbvI;obtain⟨wx,rfl⟩:=nm_ (wr);go_wp2_with fail
         have HKEEP:=hd_ (show ∀W,Upd (λb=>u6.ownBlock=some b) wx W->W.cell? ⟨g,j,none⟩=some (.int .i64 sy)from λW hW=>by
           have h1:=HCI _ HUW2.out;have h2:=hW.cell (p:=⟨g,j,none⟩) (World.block_lt_of_cell? wx _ h1) (λh=>by have h3:=HVB g h;have:=HGL.out;omega)
           exact h2.trans h1)
         go_region_held3 (λW=>Upd (λb=>u6.ownBlock=some b) wx W/\W.cell? ⟨g,j,none⟩=some (.int .i64 sy))
           (first|exact⟨Upd.refl _ _,HKEEP _ (Upd.refl _ _)⟩|exact⟨(Upd.refl _ _).drew,HKEEP _ (Upd.refl _ _).drew⟩|exact⟨(Upd.refl _ _).drew.alloc _,HKEEP _ ((Upd.refl _ _).drew.alloc _)⟩|exact⟨ug,HKEEP _ ug⟩)
           (first
             | (go_at_call 210;refine(HSB _).mono ?_;rintro e w' ⟨rfl,rfl⟩)
             | (refine Q3Z _ rfl (.tmp 63) (.tmp 77) _ rfl 264 _ 3 24 underlying260 Q3J rfl (by omega) (by omega) u6 _ rfl (by first|exact(OV2.drewN 1).alloc _|exact(OV2.alloc _).drewN 1) wx.heap.size 1 [.int .i64 sy,.int .i64 bv,.int .i64 ((x:Int)*(B2:Nat)-(s:Nat))] rfl (by simp [Value.oneCell']) rfl (by first|exact Blk.new _ _ _|exact(Blk.new _ _ _).drew) hrl ?_;intro g10 c10 w10 o10 g10u a10 l10;have ug:Upd (λb=>u6.ownBlock=some b) wx w10:=((Upd.refl _ wx).drew.alloc _).grown g10u (λk hk _=>hk)))
         have er:((List.range j).map (Jj p N P)).map tri++[[Value.int .i64 sy,.int .i64 bv,.int .i64 ((x:Int)*(B2:Nat)-(s:Nat))]]=((List.range (j+1)).map (Jj p N P)).map tri:=by
           rw [List.range_succ,List.map_append,List.map_append];rw [<-hy];simp [HCZ.out,tri]
         (have el:(((List.range j).map (Jj p N P)).map tri).length+1=j+1:=by simp);rw [er,el]at o10;have u10:Q0 w1 w10:=HUW2.trans ug (λb hb h=>by have:=HVB b h;omega)
         have hog:∀b,(Value.slice (some ⟨g10,0,none⟩) (j+1) c10).ownBlock=some b->w1.heap.size<=b:=by
           intro b hb;injection hb with hb;have hb':g10=b:=hb;have h2:=HUW2.size;rcases a10 with h|h
           . have:=HVB g10 h;omega
           simp at h;omega
         have O10:=hd_ o10;have HOG:=hd_ hog;have U10:=hd_ u10;clear er el o10 u10 hog ug g10u a10 hrl;go_wp2_with fail;go_roundg (s-(j+1))
         case measure=>have:=HI.out;omega
         case rel=>exact⟨j+1,by have:=HI.out;omega,by go_num,O10.out,HOG.out,U10.out⟩
   (obtain rfl:i=s:=by have:=HI.out;omega);(have hcell:((List.range i).map (Jj p N P)).map tri=(JY p N).map tri:=by unfold JY;rw [HP.out,HS.out]);rw [hcell]at OV;clear hi hcell;go_wp2_with fail;(try go_ret2);exact hR _ _ ⟨u6,rfl,OV.out,λb hb=>by have h1:=HVB b hb;have h2:=F1.size;omega,F1.trans' UR.out⟩
theorem Q8m (F G:Nat->Prop) (A B:Option Addr) (n c m d k p:Nat) (N:List Int) (bs:List Nat) (w:World) (hr:Rd w F A n (Q7 N)) (hfit:Fit N) (hn:(n:Int)<=1099511627776) (hv:Yc p N 256 9) (hbs:Rd w G B m (Q2 bs)) (hlt:∀b∈bs,b<256) (hm:m<=100000) (hk:k<=131072) :
   Calls prog 160 #[.agg #[.int .i64 (p:Nat),.slice A n c],.slice B m d,.int .i64 (k:Nat)] w (Kf (Y1 (p:Nat) N bs k) w):=by
 (have hL:bs.length=m:=by have:=hbs.1;simpa using this);obtain⟨w0,H,hw0,hH,f0,bt⟩:=al_ w 205 #[.int .i64 (p:Nat),.slice A n c];have HOF:=hd_ (Q8l F A n c p N w0 (hr.fresh f0) hfit hn hv);have HBK:=hd_ (λW (hW:Q0 w W)=>XK G B m d bs W (hbs.fresh hW) hlt hm);obtain⟨t0,t1⟩:=(bt).cells2;have BT:=hd_ bt;have F0:=hd_ f0;have HW:=hd_ hw0;have HH:=hd_ hH;have HK:=hd_ hk;have HV:=hd_ hv;have HLT:=hd_ hlt;(have hp9:p<=9:=by have:=hv.2.1;omega);(have hpI:(p:Int)<=9:=by omega);(have hp0:(0:Int)<=p:=by omega);(have hkI:(k:Int)<=131072:=by omega);(have hk0:¬(k:Int)<0:=by omega);have HVL:=hd_ (show N.length<=256 by have:=hv.2.2.2.2.1;omega);clear hw0 hH f0 bt hr hfit hn hbs hlt hm hk hL hv;refine Q8 λR hR=>?_;unfold Kf at hR;go_enter func160,ntmps160;go_upto_region 1 with fail;simp only [<-HH.out,<-HW.out];go_wp2_with fail;refine HOF.mono ?_;rintro e w1 ⟨vc,rfl,oc,kc,f1⟩;obtain⟨C,nc,cc,rfl,hnc⟩:=oc.form';obtain⟨hn4,hc4,hrk⟩:=oc.rd rfl;rw [<-hn4]at hrk;(have hncp:nc=2^p:=by rw [hn4];simp);have HRK:=hd_ hrk.both;have F1:=hd_ (F0.trans' f1);have F01:=hd_ f1;have HNC:=hd_ hncp;have HN1:=hd_ (HBK w1 (F0.trans' f1));clear oc kc f1 hnc hn4 hc4 hrk hncp HOF HBK t0 t1;by_cases hl:(bs.getLast?).getD 0=0
 . simp only [if_pos hl]at HN1
   (have hq:Y1 (p:Int) N bs k = .inl 14:=by unfold Y1;rw [if_pos HV.out,if_pos hl]);rw [hq]at hR;clear hl hq;go_wp2_with fail;refine HN1.mono ?_;rintro e w2 ⟨f2,rfl⟩;have F2:=hd_ (F1.trans' f2);clear f2 HN1;go_wp2_with fail;(try go_ret2);exact hR _ _ ⟨F2.out,rfl⟩
 simp only [if_neg hl]at HN1;have hcl:=(Xv HLT.out hl).2.1;have HL0:=hd_ hl;clear hl;go_wp2_with fail;refine HN1.mono ?_;rintro e w2 ⟨f2,g,rfl,hg,br⟩;obtain⟨t0,ht0⟩:=nm_ (Y0 bs)
 have bt2:Za w2 (λb=>(w1.heap.size<=b/\b≠g)/\b<w2.heap.size) g bs t0:=by
   obtain⟨A2,c2,h1,h2,h3⟩:=br;rw [ht0];exact⟨by omega,0,A2,c2,h1,h2.both,h3⟩
 have hgl:=bt2.lt;have BW:=hd_ bt2;have HG:=hd_ (And.intro hg hgl);have F2:=hd_ (F1.trans' f2);have F12:=hd_ f2;have HT0:=hd_ ht0;obtain⟨Z,hZ⟩:=nm_ ((if k=0 then(0,t0,0)else Qp (Qj bs) (t0,0) p:Nat × Nat × Int));obtain⟨Y,hY⟩:=nm_ ((if 1<k/\Z.2.2=0 then Qp (Qj bs) (Z.2.1,0) p else(0,Z.2.1,Z.2.2):Nat × Nat × Int));have HZ:=hd_ hZ;have HY:=hd_ hY;have HGH:=hd_ (show H<g by have h1:=F01.size;have h2:=BT.lt;omega);clear hg f2 br HN1 bt2 hgl hcl ht0 hZ hY;go_upto_if 43 with fail;go_cut [11,12] (λq11 q12 wx=>q11 = .int .i64 Z.2.2/\q12 = .int .u64 (Z.1:Nat)/\Upd (λb=>b=g) w2 wx/\Za wx (λb=>(w1.heap.size<=b/\b≠g)/\b<w2.heap.size) g bs Z.2.1)
 case first =>
   by_cases hk1:k=0
   . have e:=HZ.out
     rw [if_pos hk1]at e;subst e;subst hk1;go_wp2_with fail;go_meet;exact⟨rfl,rfl,Upd.refl _ _,BW.out⟩
   have e:=HZ.out;rw [if_neg hk1]at e;(have hkp:(0:Int)<k:=by omega);have HTA:=hd_ (Xw _ g bs t0 p w2 BW.out (by omega) (λb hb=>hb.1.2));rw [<-e]at HTA;have c0:=((BT.fresh F01.out).fresh F12.out).cell 0;simp at c0;clear e hk1;go_wp2_with fail;refine HTA.mono ?_;rintro e w4 ⟨rfl,u4,b4⟩;have U4:=hd_ u4;have B4:=hd_ b4;clear u4 b4 HTA;go_wp2_with fail;go_meet;exact⟨rfl,rfl,U4.out,B4.out⟩
 case rest =>
   obtain⟨rfl,rfl,u3,b3⟩:=hcut;obtain⟨w3,rfl⟩:=nm_ (wc);have U3:=hd_ u3;have B3:=hd_ b3;clear u3 b3 BW;go_upto_region 12 with fail;go_cut [56] (λq wx=>q = .bool (decide (1<k/\Z.2.2=0))/\wx=w3)
   case first =>
     by_cases hkp:1<k
     . have hkI1:(1:Int)<k:=by omega
       by_cases hz0:Z.2.2=0
       . have hd:decide (1<k/\Z.2.2=0)=true:=decide_eq_true ⟨hkp,hz0⟩
         (have hzb:(Z.2.2 == 0)=true:=by simpa using hz0);have HD:=hd_ hd;clear hkp hz0 hd;go_wp2_with fail;go_meet;exact⟨congrArg Value.bool HD.symm,rfl⟩
       have hd:decide (1<k/\Z.2.2=0)=false:=decide_eq_false λh=>hz0 h.2;(have hzb:(Z.2.2 == 0)=false:=by simpa using hz0);have HD:=hd_ hd;clear hkp hz0 hd;go_wp2_with fail;go_meet;exact⟨congrArg Value.bool HD.symm,rfl⟩
     (have hkI1:(k:Int)<=1:=by omega);have hd:decide (1<k/\Z.2.2=0)=false:=decide_eq_false λh=>hkp h.1;have HD:=hd_ hd;clear hkp hd;go_wp2_with fail;go_meet;exact⟨congrArg Value.bool HD.symm,rfl⟩
   case rest =>
   obtain⟨rfl,rfl⟩:=hcut;obtain⟨w3,rfl⟩:=nm_ (wc);go_upto_if 56 with fail;go_cut [11,13] (λq11 q13 wx=>q11 = .int .i64 Y.2.2/\q13 = .int .u64 (Y.1:Nat)/\Upd (λb=>b=g) w3 wx/\Za wx (λb=>(w1.heap.size<=b/\b≠g)/\b<w2.heap.size) g bs Y.2.1)
   case first =>
     by_cases hk1:1<k/\Z.2.2=0
     . have e:=HY.out
       rw [if_pos hk1]at e;have hz0:=hk1.2;have HTA:=hd_ (Xw _ g bs Z.2.1 p w3 B3.out (by omega) (λb hb=>hb.1.2));rw [<-e]at HTA;have c0:=(((BT.fresh F01.out).fresh F12.out).upd U3.out (by have:=HGH.out;omega)).cell 0;simp at c0;have hd:decide (1<k/\Z.2.2=0)=true:=decide_eq_true hk1;simp only [hd];clear e hk1 hz0 hd;go_wp2_with fail;refine HTA.mono ?_;rintro e w4 ⟨rfl,u4,b4⟩;have U4:=hd_ u4;have B4:=hd_ b4;clear u4 b4 HTA;go_wp2_with fail;go_meet;exact⟨rfl,rfl,U4.out,B4.out⟩
     have e:=HY.out;rw [if_neg hk1]at e;have HE:=hd_ e;have hd:decide (1<k/\Z.2.2=0)=false:=decide_eq_false hk1;simp only [hd];clear e hk1 hd;go_wp2_with fail;go_meet;exact⟨by rw [HE.out],by rw [HE.out];rfl,Upd.refl _ _,by rw [HE.out];exact B3.out⟩
   case rest =>
     obtain⟨rfl,rfl,u4,b4⟩:=hcut;obtain⟨w4,rfl⟩:=nm_ (wc);have U4:=hd_ (U3.trans' u4);have B4:=hd_ b4;clear u4 b4 B3 U3;obtain⟨a,ha⟩:=nm_ (Z.1);obtain⟨b,hb⟩:=nm_ (Y.1);obtain⟨s,hs⟩:=nm_ (Y.2.1);obtain⟨er,her⟩:=nm_ (Y.2.2);simp only [<-ha,<-hb,<-hs,<-her]at B4|-
     have HFI:=hd_ (show(er=0->YW (Qj bs) p k t0=some (a,b,s))/\(er≠0->YW (Qj bs) p k t0=none/\er=14)/\a<2^p/\b<2^p from by
       have e1:=HZ.out;have e2:=HY.out;have hl1:=Vi (Qj bs) (t0,0) p;have hl2:=Vi (Qj bs) (Z.2.1,0) p;have h2p:=Nat.two_pow_pos p;(have h14:∀t,(Qp (Qj bs) (t,0) p).2.2=0\/(Qp (Qj bs) (t,0) p).2.2=14:=λt=>by unfold Qp;simp only [ne_eq,not_true_eq_false,if_false];split<;>simp);have g1:=h14 t0;have g2:=h14 Z.2.1;unfold YW;rcases(show k=0\/k=1\/2<=k by omega)with rfl|rfl|hk2
       . simp at e1
         subst e1;simp at e2;subst e2;subst ha hb hs her;simp [h2p]
       . rw [if_neg (by decide)]at e1
         rw [if_neg (by omega)]at e2;subst e2;rw [if_neg (by decide),<-e1];rw [<-e1]at hl1 g1;subst ha hb hs her;simp only;refine⟨λh=>by rw [if_pos h];rfl,λh=>⟨by rw [if_neg h],by rcases g1 with g1|g1;exact absurd g1 h;exact g1⟩,hl1,h2p⟩
       rw [if_neg (by omega)]at e1;rw [if_neg (by omega),<-e1];rw [<-e1]at hl1 g1;by_cases hz:Z.2.2=0
       . rw [if_pos ⟨by omega,hz⟩]at e2
         rw [if_pos hz,if_neg (by omega),<-e2];rw [<-e2]at hl2 g2;subst ha hb hs her;refine⟨λh=>by rw [if_pos h],λh=>⟨by rw [if_neg h],by rcases g2 with g2|g2;exact absurd g2 h;exact g2⟩,hl1,hl2⟩
       rw [if_neg (by omega)]at e2;subst e2;rw [if_neg hz];subst ha hb hs her
       refine⟨λh=>absurd h hz,λh=>⟨rfl,by rcases g1 with g1|g1;exact absurd g1 hz;exact g1⟩,hl1,h2p⟩)
     clear ha hb hs her HZ HY;by_cases h0:er=0
     case neg =>
       obtain⟨hno,he14⟩:=HFI.2.1 h0;(have hq2:Y1 (p:Int) N bs k = .inl 14:=by unfold Y1 ZS;rw [if_pos HV.out,if_neg HL0.out,Int.toNat_natCast,<-HT0.out,hno]);rw [hq2]at hR;subst he14;clear h0 hno hq2;go_wp2_with fail;(try go_ret2);exact hR _ _ ⟨F2.trans U4.out (λb hb h=>by have:=HG.1;have:=F01.size;have:=F0.size;omega),rfl⟩
     subst h0;obtain⟨hfi,-,ha,hb⟩:=HFI.out;have hfi:=hfi rfl;have h2p:=Nat.pow_le_pow_right (n:=2) (by decide) hp9;(have haI:(a:Int)<=512:=by omega);(have hbI:(b:Int)<=512:=by omega);have HFI2:=hd_ hfi;have HAB:=hd_ (And.intro ha hb);clear HFI hfi ha hb h2p;go_wp2_with fail
     go_loopg [14,15,16,17] k (λf vn vt vo vi wr=>∃(i now oth t:Nat) (pre:List Nat),i+f=k/\vi = .int .i64 (i:Nat)/\vn = .int .i64 (now:Nat)/\vt = .int .i64 (oth:Nat)/\pre.length=i/\now<2^p/\oth<2^p/\Yd (Qj bs) p N k a b s=(Yd (Qj bs) p N (k-i) now oth t).map (λr=>(pre++r.1,r.2)) /\
       Za wr (λb=>(w1.heap.size<=b/\b≠g)/\b<w2.heap.size) g bs t/\Own wr 3 vo (Q7 (pre.map Int.ofNat))/\(∀b,vo.ownBlock=some b->w2.heap.size<=b)/\Upd (λb=>b=g) w2 wr)
     case atStart=>exact⟨0,a,b,s,[],by omega,rfl,rfl,rfl,rfl,HAB.1,HAB.2,by simp,B4.out,by simpa [Q7]using Own.nil _ _,by simp [Value.ownBlock],U4.out⟩
     case round =>
       obtain⟨i,now,oth,t,pre,hi,rfl,rfl,rfl,hpl,hnow,hoth,hfr,bw,ov,kv,ur⟩:=hrel;obtain⟨A9,n9,c9,rfl,hn9⟩:=ov.form';have HI:=hd_ hi;have HPL:=hd_ hpl;have UR:=hd_ ur;have BWR:=hd_ bw;have OV:=hd_ ov;have KV:=hd_ kv;by_cases hlt:i<k
       . have hiI:(i:Int)<k:=by omega
         have HNO:=hd_ (And.intro hnow hoth);obtain⟨b4,o4,rfl,_,_,hcell⟩:=((HRK.fresh F12.out).upd ur (λb _ hb h=>by have:=hb.2;have h1:=HG.1;omega)).at_ (r:=0) (j:=now) (by rw [HNC.out];exact hnow);have hrow:=Q2C HV.out hnow (by rw [List.length_map,XJ];exact hnow);obtain⟨-,hsy,-,hbi,-,hbse⟩:=VA HV.out hnow
         have HCL:=hd_ (show ∀W,Upd (λb=>b=g) w2 W->W.cell? ⟨b4,o4+now*3,none⟩=some (.int .i64 (Zw p N now:Nat))/\W.cell? ⟨b4,o4+now*3+1,none⟩=some (.int .i64 (Yg p N now:Nat))/\W.cell? ⟨b4,o4+now*3+2,none⟩=some (.int .i64 (ZF p N now:Nat))from λW hW=>by
           obtain⟨b5,o5,hbo,_,_,hc⟩:=((HRK.fresh F12.out).upd hW (λb _ hb h=>by have:=hb.2;have h1:=HG.1;omega)).at_ (r:=0) (j:=now) (by rw [HNC.out];exact hnow);injection hbo with hbo;injection hbo with h1 h2;subst h1 h2;have c0:=hc 0 (by omega);have c1:=hc 1 (by omega);have c2:=hc 2 (by omega);rw [hrow]at c0 c1 c2;simp at c0 c1 c2
           exact⟨c0,c1,c2⟩)
         obtain⟨c0,-,-⟩:=HCL wr ur;obtain⟨j,hj⟩:∃j,k-i=j+1:=⟨k-i-1,by omega⟩;rw [hj]at hfr;(have hj2:k-(i+1)=j:=by omega);have HMORE:=hd_ (fun(h2:i+2<k) (h:(Qp (Qj bs) (t,0) (Yg p N now)).2.2=0)=>(show Yd (Qj bs) p N k a b s=(Yd (Qj bs) p N (k-(i+1)) oth (ZF p N now+(Qp (Qj bs) (t,0) (Yg p N now)).1) (Qp (Qj bs) (t,0) (Yg p N now)).2.1).map (λr=>((pre++[Zw p N now])++r.1,r.2))from by rw [hfr,Q1u (by omega) h,Xr,hj2]));have HFAIL:=hd_ (fun(h2:i+2<k) (h:(Qp (Qj bs) (t,0) (Yg p N now)).2.2≠0)=>(show Yd (Qj bs) p N k a b s=none from by rw [hfr,Q1v (by omega) h];rfl));have HLASTF:=hd_ (fun(h2:¬i+2<k)=>(show Yd (Qj bs) p N k a b s=(Yd (Qj bs) p N (k-(i+1)) oth now t).map (λr=>((pre++[Zw p N now])++r.1,r.2))from by rw [hfr,Q1w (by omega),Xr,hj2]));(have he14:(Qp (Qj bs) (t,0) (Yg p N now)).2.2=0\/(Qp (Qj bs) (t,0) (Yg p N now)).2.2=14:=by unfold Qp;simp only [ne_eq,not_true_eq_false,if_false];split<;>simp);have hxl2:ZF p N now+(Qp (Qj bs) (t,0) (Yg p N now)).1<2^p:=Q7K HV.out hnow (Qj bs) (t,0);obtain⟨q,hqd⟩:=nm_ (Qp (Qj bs) (t,0) (Yg p N now));obtain⟨sy,hsyd⟩:=nm_ (Zw p N now);obtain⟨bi,hbid⟩:=nm_ (Yg p N now);obtain⟨bse,hbsd⟩:=nm_ (ZF p N now);simp only [<-hqd]at HMORE HFAIL he14 hxl2;simp only [<-hsyd,<-hbid,<-hbsd]at HMORE HFAIL HLASTF hxl2 c0 HCL hsy hbi hbse;rw [<-hbid]at hqd;obtain⟨x,t',er⟩:=q;(try simp only at HMORE);(try simp only at he14);(try simp only at hxl2);(try simp only at HFAIL);have HXL2:=hd_ hxl2;have h2p:=Nat.pow_le_pow_right (n:=2) (by decide) hp9;(have hbiI:(bi:Int)<=9:=by omega);(have hbi0:(0:Int)<=bi:=by omega);(have hbsI:(bse:Int)<=512:=by omega);(have hbs0:(0:Int)<=bse:=by omega);(have hsyI:(sy:Int)<=256:=by have:=HVL.out;omega);(have hxI:(x:Int)<=512:=by omega);(have hx0:(0:Int)<=x:=by omega);(have hnowI:(now:Int)<nc:=by rw [HNC.out];omega);(have hnow0:(0:Int)<=now:=by omega);obtain⟨w5,P5,hw5,hP5,f5,b5⟩:=al_ wr 3 #[.int .i64 (sy:Nat)];have RB:=hd_ (show Rd w5 (λ_=>True) (some ⟨P5,0,none⟩) 1 [.int .i64 (sy:Nat)]from by simpa using Blk.rds b5);have F5:=hd_ f5;have O5:=hd_ (ov.fresh f5);have HW5:=hd_ hw5;have HP5:=hd_ hP5;have HLE:=hd_ (show(Q7 (pre.map Int.ofNat)).length+1<=2^40 from by rw [Qz,List.length_map,hpl];have:=HK.out;omega);clear hi hpl hnow hoth hfr bw ov kv ur hlt hn9 hcell hrow hsy hbi hbse hj hj2 hxl2 hsyd hbid hbsd h2p f5 b5 hw5 hP5;by_cases h2:i+2<k
         . have h2I:(i:Int)+2<k:=by omega
           have hmore:=λh=>HMORE h2 h;have hfail:=λh=>HFAIL h2 h;clear h2;go_wp2_with (at_builtin;simp only [<-HP5.out,<-HW5.out];go_must (refine Qm _ rfl (.tmp 76) (.tmp 82) _ rfl 3 _ 8 underlying33 QV rfl (.slice A9 n9 c9) _ rfl O5.out _ _ _ _ rfl RB.out (by simp [Value.oneCell']) (by omega) HLE.out ?_));intro v6 w6 ho hg6 ha6;have O6:=hd_ (show Own w6 3 v6 (Q7 ((pre++[sy]).map Int.ofNat))from by simpa [Q7]using ho);have K6:=hd_ (Yj (S:=λk=>w2.heap.size<=k) ha6 (λk hk=>KV k hk) (by have:=UR.size;have:=F5.size;omega));have u56:Upd (λb=>Value.ownBlock (.slice A9 n9 c9)=some b) w5 w6:=(Upd.refl _ w5).grown hg6 (λk e _=>e);have hown9:∀b,Value.ownBlock (.slice A9 n9 c9)=some b->w2.heap.size<=b:=λb hb=>KV b hb;have B6:=hd_ ((BWR.fresh F5.out).upd u56 (λh=>by have:=hown9 g h;have:=HG.2;omega) (λb _ hb h=>by have:=hown9 b h;have:=hb.2;omega));have U6:=hd_ ((UR.trans' (F5.mono (T:=λb=>b=g) λ_ _ h=>h.elim)).grown hg6 (λk hk hlt=>by have:=hown9 k hk;omega));obtain⟨-,e1,-⟩:=HCL w6 U6.out;clear ho hg6 ha6 u56 hown9 O5 RB HW5 HP5 F5;have HTA:=hd_ (Xw _ g bs t bi w6 B6.out (by omega) (λb hb=>hb.1.2));rw [<-hqd]at HTA;rcases he14 with rfl|rfl
           . have HFR2:=hd_ (hmore rfl)
             clear hqd hmore hfail;go_wp2_with fail;refine HTA.mono ?_;rintro e w7 ⟨rfl,u7,b7⟩;have U7:=hd_ u7;have B7:=hd_ b7;obtain⟨-,-,e2⟩:=HCL w7 (U6.trans' u7);clear u7 b7 HTA;go_wp2_with fail;go_roundg (gk-1)
             case measure=>have:=HI.out;omega
             case rel =>
               exact⟨i+1,oth,bse+x,t',pre++[sy],by have:=HI.out;omega,by go_num,by first|rfl|go_num,by first|rfl|go_num,by simp [HPL.out],HNO.2,HXL2.out,HFR2.out,B7.out,O6.upd U7.out (λb hb h=>by have:=K6 b hb;have:=HG.2;omega),K6.out,U6.trans' U7.out⟩
           (have hq2:Y1 (p:Int) N bs k = .inl 14:=by unfold Y1 ZS;rw [if_pos HV.out,if_neg HL0.out,Int.toNat_natCast,<-HT0.out,HFI2.out];simp only [hfail (by decide)]);rw [hq2]at hR;clear hqd hmore hfail hq2;go_wp2_with fail;refine HTA.mono ?_;rintro e w7 ⟨rfl,u7,b7⟩;have F7:=hd_ ((F2.trans U6.out (λb hb h=>by have:=HG.1;have:=F01.size;have:=F0.size;omega)).trans u7 (λb hb h=>by have:=HG.1;have:=F01.size;have:=F0.size;omega));clear u7 b7 HTA;go_wp2_with fail;(try go_ret2);exact hR _ _ ⟨F7.out,rfl⟩
         (have h2I:(k:Int)<=(i:Int)+2:=by omega);have HLAST:=hd_ (HLASTF h2);clear h2 he14 hqd;go_wp2_with (at_builtin;simp only [<-HP5.out,<-HW5.out];go_must (refine Qm _ rfl (.tmp 76) (.tmp 82) _ rfl 3 _ 8 underlying33 QV rfl (.slice A9 n9 c9) _ rfl O5.out _ _ _ _ rfl RB.out (by simp [Value.oneCell']) (by omega) HLE.out ?_));intro v6 w6 ho hg6 ha6;have O6:=hd_ (show Own w6 3 v6 (Q7 ((pre++[sy]).map Int.ofNat))from by simpa [Q7]using ho);have K6:=hd_ (Yj (S:=λk=>w2.heap.size<=k) ha6 (λk hk=>KV k hk) (by have:=UR.size;have:=F5.size;omega));have u56:Upd (λb=>Value.ownBlock (.slice A9 n9 c9)=some b) w5 w6:=(Upd.refl _ w5).grown hg6 (λk e _=>e);have hown9:∀b,Value.ownBlock (.slice A9 n9 c9)=some b->w2.heap.size<=b:=λb hb=>KV b hb;have B6:=hd_ ((BWR.fresh F5.out).upd u56 (λh=>by have:=hown9 g h;have:=HG.2;omega) (λb _ hb h=>by have:=hown9 b h;have:=hb.2;omega));have U6:=hd_ ((UR.trans' (F5.mono (T:=λb=>b=g) λ_ _ h=>h.elim)).grown hg6 (λk hk hlt=>by have:=hown9 k hk;omega));clear ho hg6 ha6 u56 hown9 O5 RB HW5 HP5 F5;go_wp2_with fail;go_roundg (gk-1)
         case measure=>have:=HI.out;omega
         case rel =>
           exact⟨i+1,oth,now,t,pre++[sy],by have:=HI.out;omega,by go_num,by first|rfl|go_num,by first|rfl|go_num,by simp [HPL.out],HNO.2,HNO.1,HLAST.out,B6.out,O6.out,K6.out,U6.out⟩
       (have hik:i=k:=by omega);subst hik;rw [Nat.sub_self]at hfr;have HFR:=hd_ (show Yd (Qj bs) p N i a b s=some (pre,t)from by rw [hfr];simp [Yd]);have ht8:=bw.1;obtain⟨-,fr,A2,c2,h1,h2,h3⟩:=bw;(have hl:((Qf bs).take t).length=t:=by rw [List.length_take,Yb];omega);have r0:=h1.cell 0;simp only [hl]at r0;simp at r0;clear hi hpl hnow hoth hfr ov kv ur hlt hn9 h1 h2 h3 hl ht8;by_cases ht:t=0
       . subst ht
         (have hq2:Y1 (p:Int) N bs i = .inr pre:=by unfold Y1 ZS;rw [if_pos HV.out,if_neg HL0.out,Int.toNat_natCast,<-HT0.out,HFI2.out];simp only [HFR.out]);rw [hq2]at hR;clear hq2;go_wp2_with fail;(try go_ret2);exact hR _ _ ⟨F2.trans UR.out (λb hb h=>by have:=HG.1;have:=F01.size;have:=F0.size;omega),_,rfl,OV.out,λb hb=>by have:=KV b hb;have:=F2.size;omega⟩
       (have htI:(0:Int)<t:=by omega)
       have hq2:Y1 (p:Int) N bs i = .inl 14:=by
         unfold Y1 ZS;rw [if_pos HV.out,if_neg HL0.out,Int.toNat_natCast,<-HT0.out,HFI2.out];simp only [HFR.out];obtain⟨t5,rfl⟩:∃t5,t=t5+1:=⟨t-1,by omega⟩;rfl
       rw [hq2]at hR;clear hq2 ht;go_wp2_with fail;(try go_ret2);exact hR _ _ ⟨F2.trans UR.out (λb hb h=>by have:=HG.1;have:=F01.size;have:=F0.size;omega),rfl⟩
theorem Xz {L:List Bool} {n fr:Nat} (h:fr+n<=L.length):Qh L n ⟨fr,0⟩=(QI ((L.drop fr).take n),⟨fr+n,0⟩):=by
 unfold Qh;rw [if_neg (by simp),if_pos h]
theorem XA {L:List Bool} {n fr:Nat} (h:L.length<fr+n):Qh L n ⟨fr,0⟩=(0,⟨fr,3⟩):=by
 unfold Qh;rw [if_neg (by simp),if_neg (by simp only;omega)]
theorem KZ (F:Nat->Prop) (g:Nat) (L:List Bool) (fr n:Nat) (w:World) (h:Yk w F g L fr) (hn:n<=64) (hL:L.length<=2^40) (hFg:∀b,F b->b≠g) :
   Calls prog 208 #[.pointer (some ⟨g,0,none⟩),.int .i64 n] w λe w' =>
     e = .returned (.tuple #[.int .u64 ((Qh L n ⟨fr,0⟩).1:Nat),.int .i64 (Qh L n ⟨fr,0⟩).2.e])/\Upd (λb=>b=g) w w'/\Yk w' F g L (Qh L n ⟨fr,0⟩).2.fr:=by
 by_cases hs:fr+n<=L.length
 . rw [Xz hs]
   exact Q8f F g L fr n w h hn hs hL hFg
 rw [XA (by omega)];exact(Q3R F g L fr n w h hn (by omega) hL).mono λe w' ⟨h1,h2⟩=>⟨h1,h2 ▸ Upd.refl _ _,h2 ▸ h⟩
theorem Q4K {L:List Bool} {m:Nat} {σ:St} (h:(Qh L (QA m) σ).1<Jh m):QX L m σ=Qh L (QA m) σ:=by unfold QX;rw [if_pos h]
theorem Q4L {L:List Bool} {m:Nat} {σ:St} (h:¬(Qh L (QA m) σ).1<Jh m) :
   QX L m σ=(2*(Qh L (QA m) σ).1+(Qh L 1 (Qh L (QA m) σ).2).1-Jh m,(Qh L 1 (Qh L (QA m) σ).2).2):=by unfold QX;rw [if_neg h]
theorem Q9C (F:Nat->Prop) (g:Nat) (L:List Bool) (fr m:Nat) (w:World) (h:Yk w F g L fr) (h0:1<=m) (h600:m<=600) (hL:L.length<=2^40) (hFg:∀b,F b->b≠g) :
   Calls prog 258 #[.pointer (some ⟨g,0,none⟩),.int .i64 m] w λe w' =>
     e = .returned (.tuple #[.int .i64 ((QX L m ⟨fr,0⟩).1:Nat),.int .i64 (QX L m ⟨fr,0⟩).2.e])/\Upd (λb=>b=g) w w'/\Yk w' F g L (QX L m ⟨fr,0⟩).2.fr:=by
 have hl:=Q76 m w h0 h600;(have hb9:QA m<=9:=by have:=Q1T m 10 (by omega) (by omega) (by omega);omega);have hsz:=K5 (QA m) w hb9;have hu:Jh m=2^(QA m+1)-m:=rfl;have hc:=(Zl m (by omega) (by omega)).2;have hf:=KZ F g L fr (QA m) w h (by omega) hL hFg;have hlt:=Jc L (QA m) ⟨fr,0⟩;have hone:=@Q4K L m ⟨fr,0⟩;have htwo:=@Q4L L m ⟨fr,0⟩
 have hno:fr+QA m<=L.length\/Qh L (QA m) ⟨fr,0⟩=(0,⟨fr,3⟩):=by
   by_cases hs:fr+QA m<=L.length
   . exact .inl hs
   exact .inr (XA (by omega))
 (have hyes:fr+QA m<=L.length->(Qh L (QA m) ⟨fr,0⟩).2=⟨fr+QA m,0⟩:=λhs=>by rw [Xz hs]);rw [Nat.pow_succ]at hu hc;have hp9:2^QA m<=512:=Nat.le_trans (Nat.pow_le_pow_right (n:=2) (by omega) hb9) (by decide);generalize Jh m=u at *;generalize QA m=b at *;generalize 2^b=q at *;(have huv:2*(q:Int)-m=u:=by omega);(have hu0:0<u:=by omega);(have hqI:(q:Int)<=512:=by omega);(have hbI:(b:Int)<=9:=by omega);(have hmI:(m:Int)<=600:=by omega);(have huI:(u:Int)<=1024:=by omega);obtain⟨X,hX⟩:=nm_ (Qh L b ⟨fr,0⟩);obtain⟨Y,hY⟩:=nm_ (QX L m ⟨fr,0⟩);rw [<-hX]at hf hlt hone htwo hno hyes;rw [<-hY]at hone htwo|-;obtain⟨t,fr1,e1⟩:=X;simp only at hf hlt hone htwo hno hyes;have HL:=hd_ hl;have HSZ:=hd_ hsz;have HF:=hd_ hf;have HH:=hd_ h;(have htI:(t:Int)<=512:=by omega);(have ht64:wrap64 (t:Int)=t:=by unfold wrap64;omega);clear hl hsz hf h hX hY hu hc hp9;refine Q8 λR hR=>?_;rcases hno with hs|hs
 . have he:=hyes hs
   injection he with he1 he2;subst he1 he2;have HONE:=hd_ hone;have HTWO:=hd_ htwo;clear hone htwo hyes hlt;by_cases hlt:t<u
   . have hltI:(t:Int)<u:=by omega
     have hy:=HONE hlt;subst hy;clear HONE HTWO;go_enter func258,ntmps258;go_wp2_with fail;refine HL.mono ?_;rintro e w1 ⟨rfl,rfl⟩;go_wp2_with fail;refine HSZ.mono ?_;rintro e w1 ⟨rfl,rfl⟩;go_wp2_with fail;refine HF.mono ?_;rintro e w1 ⟨rfl,u1,r1⟩;have U1:=hd_ u1;have R1:=hd_ r1;clear u1 r1;go_wp2_with fail;(try go_ret2);exact hR _ _ ⟨rfl,U1.out,R1.out⟩
   (have hltI:(u:Int)<=t:=by omega);have hy:=HTWO hlt;have hf1:=λW (hW:Yk W F g L (fr+b))=>KZ F g L (fr+b) 1 W hW (by omega) hL hFg;have hlt2:=Jc L 1 ⟨fr+b,0⟩;obtain⟨Z,hZ⟩:=nm_ (Qh L 1 ⟨fr+b,0⟩);simp only [<-hZ]at hy hf1 hlt2;obtain⟨c,fr2,e2⟩:=Z;simp only at hy hf1 hlt2;(have hcI:(c:Int)<=1:=by omega);(have hc64:wrap64 (c:Int)=c:=by unfold wrap64;omega);subst hy;(have hv:2*(t:Int)+c-u=((2*t+c-u:Nat):Int):=by omega);have HV:=hd_ hv;have HF1:=hd_ hf1;clear hv hf1 hZ HONE HTWO hlt2;go_enter func258,ntmps258;go_wp2_with fail;refine HL.mono ?_;rintro e w1 ⟨rfl,rfl⟩;go_wp2_with fail;refine HSZ.mono ?_;rintro e w1 ⟨rfl,rfl⟩;go_wp2_with fail;refine HF.mono ?_;rintro e w1 ⟨rfl,u1,r1⟩;have U1:=hd_ u1;have hf2:=HF1 w1 r1;have HF2:=hd_ hf2;clear u1 r1 hf2;go_wp2_with fail;refine HF2.mono ?_;rintro e w2 ⟨rfl,u2,r2⟩;have U2:=hd_ (U1.trans' u2);have R2:=hd_ r2;clear u2 r2;go_wp2_with fail;(try go_ret2);refine hR.out _ _ ⟨?_,U2.out,R2.out⟩;rw [<-HV.out];rfl
 injection hs with hs1 hs2;injection hs2 with hs2 hs3;subst hs1 hs2 hs3;have hy:=hone hu0;subst hy;clear hone htwo hyes hlt;go_enter func258,ntmps258;go_wp2_with fail;refine HL.mono ?_;rintro e w1 ⟨rfl,rfl⟩;go_wp2_with fail;refine HSZ.mono ?_;rintro e w1 ⟨rfl,rfl⟩;go_wp2_with fail;refine HF.mono ?_;rintro e w1 ⟨rfl,u1,r1⟩;have U1:=hd_ u1;have R1:=hd_ r1;clear u1 r1;go_wp2_with fail;(try go_ret2);exact hR _ _ ⟨rfl,U1.out,R1.out⟩
theorem Q9D (G:Nat->Prop) (tn tc:Nat) (TA:Option Addr) (tree:List Int) (w:World) (hrt:Rd w G TA tn (Q7 tree)) (htn:tn<=2^40) :
   Calls prog 29 #[.pointer none,.slice TA tn tc] w λe w'=>e = .returned (.tuple #[.slice none 0 0,.slice none 0 0,.int .i64 1])/\Q0 w w':=by
 have hmf:∀(fn:Fn) (first cap:Array Value) (w:World),(Instr.makeFunc fn first cap).run prog w = .ok (.func fn first cap) w:=λ_ _ _ _=>rfl;obtain⟨w0,H,hw0,hH,f0,bo,bt,be⟩:=Q3h w 22 #[.slice none 0 0] 33 #[.slice none 0 0] 24 #[.int .i64 0];have HCL:=hd_ (ZO TA tn tc (Q7 tree) w0 (hrt.fresh f0) (by intro u hu;obtain⟨x,_,rfl⟩:=List.mem_map.1 hu;rfl) htn);have BO:=hd_ bo;have BT:=hd_ bt;have BE:=hd_ be;have F0:=hd_ f0;have HW:=hd_ hw0;have HH:=hd_ hH;have HTL:=hd_ (show tree.length=tn by have:=hrt.1;simpa using this);(have hsz1:(w.alloc (.cells #[.slice none 0 0] 22)).heap.size=H+1:=by simp [hH]);(have hsz2:((w.alloc (.cells #[.slice none 0 0] 22)).alloc (.cells #[.slice none 0 0] 33)).heap.size=H+1+1:=by simp [hH]);clear hrt htn hw0 hH f0 bo bt be;refine Q8 λR hR=>?_;go_enter_defers func29,ntmps29;go_upto_region 1 with fail;simp only [hsz1,hsz2,<-HH.out,<-HW.out];clear hsz1 hsz2;go_wp2_with fail;refine HCL.mono ?_;rintro e w1 ⟨v,rfl,ov,f1,hv⟩;obtain⟨BA,m,d,rfl,hm⟩:=ov.form';obtain⟨hm4,hmd,hrd⟩:=ov.rd rfl;rw [<-hm4]at hmd hrd;have hrt1:Rd w1 (λb=>w0.heap.size<=b/\b<w1.heap.size) BA m (Q7 tree):=hrd.both.mono λb hb=>⟨hv b hb.1,hb.2⟩;have HRT:=hd_ hrt1;have HMD:=hd_ (And.intro hmd (show m<=2^40\/True from .inr trivial));have F1:=hd_ f1;clear ov f1 hv hm hm4 hmd hrd hrt1 HCL;go_upto_region 3 with fail;obtain⟨pr,hpr⟩:=nm_ (w1.heap.size);obtain⟨w2,hw2⟩:=nm_ (w1.alloc (.cells #[.pointer none,.slice BA m d] 101));simp only [<-hpr,<-hw2];(have f2:Q0 w1 w2:=by rw [hw2];exact(Upd.refl _ _).alloc _);(have br:Blk w2 pr 101 #[.pointer none,.slice BA m d]:=by rw [hw2];exact Qb hpr _ _);(have hprH:H+2<pr:=by rw [hpr];have:=F1.size;have:=BE.lt;omega);have HPR:=hd_ hprH;have F2:=hd_ (F1.trans' f2);have BR:=hd_ br;have HRT2:=hd_ (HRT.fresh f2);have HPE:=hd_ hpr;have HD:=hd_ (Q8a pr (.slice BA m d) w2 br);have HF1:=hd_ F1.size;clear hpr hw2 f2 br hprH F1 HRT;go_wp2_with fail;refine HD.mono ?_;rintro e w3 ⟨rfl,u3⟩;simp only [Qa];have uu:Q0 w0 w3:=F2.trans' u3;have bo9:=BO.fresh uu;have bt9:=BT.fresh uu;have be9:=BE.fresh uu;change Leaves _ _ _ _ _ _ _;refine leaves_cons (f:=41) (args:=#[.pointer (some ⟨H+1+1,0,none⟩),.func (.func 66) #[] #[.pointer (some ⟨H,0,none⟩),.pointer (some ⟨H+1,0,none⟩)]]) (by simp) (by simp [go_sem]) ?_;refine(Yo 66 #[.pointer (some ⟨H,0,none⟩),.pointer (some ⟨H+1,0,none⟩)] (λb=>b=H\/b=H+1) (λW=>Blk W H 22 #[.slice none 0 0]/\Blk W (H+1) 33 #[.slice none 0 0]) (H+1+1) 1 _ _ be9 (by omega) (λ_ _=>rfl) (Q0S H (H+1) _ _ _ bo9 bt9 (by omega))).mono ?_
 rintro e u' w'' ⟨rfl,rfl,w8,u8,b8,rfl⟩;have e8:=(be9.upd u8 (by omega)).set_ 0 (.int .i64 1);have b9:=b8.1.far (p:=⟨H+1+1,0,none⟩) (by simp;omega) (.int .i64 1);have t9:=b8.2.far (p:=⟨H+1+1,0,none⟩) (by simp) (.int .i64 1);have d0:=b9.cell 0;have d1:=t9.cell 0;have d2:=e8.cell 0;simp at d0 d1 d2;show Leaves _ _ _ _ [] .returning _;refine⟨.tuple #[.slice none 0 0,.slice none 0 0,.int .i64 1],?_,hR _ _ ⟨rfl,(F0.trans' uu).trans (u8.mono (T:=λb=>b=H\/b=H+1\/b=H+1+1) (λ_ _ h=>by rcases h with h|h;exact .inl h;exact .inr (.inl h)) |>.setCell (p:=⟨H+1+1,0,none⟩) (λ_=>.inr (.inr rfl)) _) (λb hb e=>by have:=HH.out;omega)⟩⟩;simp [results,results29,go_sem,d0,d1,d2]
end Go.Proofs.YtckjdhaflokcgaaGreat
