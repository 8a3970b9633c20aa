/- Contracts and plain lemmas, part 20. Conditions: none beyond those of each. -/
import Derived.Test.YtckjdhaflokcgaaGreatR19
import Derived.Test.YtckjdhaflokcgaaGreatR16
set_option maxHeartbeats 4000000
set_option linter.unusedVariables false
set_option linter.unusedSimpArgs false
set_option linter.unnecessarySimpa false
set_option maxRecDepth 100000
namespace Go.Proofs.YtckjdhaflokcgaaGreat
open Go.RowKit Go.Proofs.Tryz
theorem Q0c (F:Nat->Prop) (g:Nat) (bs:List Nat) (t n:Nat) (w:World) (hf:Y3 w F g bs t) (hn:n<=64) (hFg:∀b,F b->b≠g) :
   Calls prog 272 #[.pointer (some ⟨g,0,none⟩),.int .i64 (n:Nat)] w λe w'=>e = .returned (.tuple #[.int .u64 ((Qp (Qj bs) (t,0) n).1:Nat),.int .i64 (Qp (Qj bs) (t,0) n).2.2])/\Upd (λb=>b=g) w w'/\Y3 w' F g bs (Qp (Qj bs) (t,0) n).2.1:=by
 by_cases h:n<=t
 . have e:Qp (Qj bs) (t,0) n=(Qj bs / 2^(t-n)%2^n,t-n,0):=by simp [Qp,h]
   rw [e];exact Q9o F g bs t n w hf hn h hFg
 (have e:Qp (Qj bs) (t,0) n=(0,t,14):=by simp [Qp,h]);rw [e];exact(Q4B F g bs t n w hf hn (by omega)).mono λe w' h2=>⟨h2.1,h2.2.mono λ_ _ h=>h.elim,hf.fresh h2.2⟩
theorem Q7X (V p n t:Nat):YW V p n t=YW V p (min n 2) t:=by
 unfold YW;rcases(show n=0\/n=1\/2<=n by omega)with rfl|rfl|h
 . rfl
 . rfl
 rw [Nat.min_eq_right h,if_neg (by omega),if_neg (show ¬(2:Nat)=0 by omega),if_neg (show ¬n=1 by omega),if_neg (show ¬(2:Nat)=1 by omega)]
theorem Q9p {V p i t a b s:Nat} (hi:i<2) (h:YW V p i t=some (a,b,s)) (hk:(Qp V (s,0) p).2.2=0):YW V p (i+1) t=some (if i=0 then(Qp V (s,0) p).1 else a,if i=0 then b else(Qp V (s,0) p).1,(Qp V (s,0) p).2.1):=by
 rcases(show i=0\/i=1 by omega)with rfl|rfl
 . simp [YW]at h|-
   obtain⟨rfl,rfl,rfl⟩:=h;simp [hk]
 unfold YW at h|-;simp only [show ¬(1:Nat)=0 from by omega,show ¬(1+1:Nat)=0 from by omega,show ¬(1+1:Nat)=1 from by omega,if_false,if_true]at h|-;split at h
 . next h2 =>
   simp at h;obtain⟨rfl,rfl,rfl⟩:=h;rw [if_pos h2,if_pos hk]
 cases h
theorem Q9q {V p i t a b s n:Nat} (hi:i<min n 2) (h:YW V p i t=some (a,b,s)) (hk:(Qp V (s,0) p).2.2≠0):YW V p n t=none:=by
 rcases(show i=0\/i=1 by omega)with rfl|rfl
 . simp [YW]at h
   obtain⟨rfl,rfl,rfl⟩:=h;unfold YW;rw [if_neg (by omega),if_neg hk]
 unfold YW at h|-;simp only [show ¬(1:Nat)=0 from by omega,if_false,if_true]at h;rw [if_neg (by omega)];split at h
 . next h2 =>
   simp at h;obtain⟨rfl,rfl,rfl⟩:=h;rw [if_pos h2,if_neg (by omega),if_neg hk]
 cases h
theorem Q2C {p:Nat} {N:List Int} (hv:Yc p N 256 9) {st:Nat} (hs:st<2^p) (h:st<((JY p N).map tri).length):((JY p N).map tri)[st]=[.int .i64 (Zw p N st:Nat),.int .i64 (Yg p N st:Nat),.int .i64 (ZF p N st:Nat)]:=by
 obtain⟨h1,_,h2,_,h3,_⟩:=VA hv hs;simp only [List.getElem_map,JY,List.getElem_range,tri,Jj,h1,h2,h3]
theorem Q1u {V p:Nat} {N:List Int} {j now oth t:Nat} (h:2<=j) (hk:(Qp V (t,0) (Yg p N now)).2.2=0):Yd V p N (j+1) now oth t=(Yd V p N j oth (ZF p N now+(Qp V (t,0) (Yg p N now)).1) (Qp V (t,0) (Yg p N now)).2.1).map λr=>(Zw p N now::r.1,r.2):=by
 rw [Yd,if_pos h,if_pos hk]
theorem Q1v {V p:Nat} {N:List Int} {j now oth t:Nat} (h:2<=j) (hk:(Qp V (t,0) (Yg p N now)).2.2≠0):Yd V p N (j+1) now oth t=none:=by
 rw [Yd,if_pos h,if_neg hk]
theorem Q1w {V p:Nat} {N:List Int} {j now oth t:Nat} (h:¬2<=j):Yd V p N (j+1) now oth t=(Yd V p N j oth now t).map λr=>(Zw p N now::r.1,r.2):=by
 rw [Yd,if_neg h]
theorem Xr {o:Option (List Nat × Nat)} {pre:List Nat} {y:Nat}:(o.map λr=>(y::r.1,r.2)).map (λr=>(pre++r.1,r.2))=o.map λr=>((pre++[y])++r.1,r.2):=by
 (cases o<;>simp)
def Kf (q:Int ⊕ List Nat) (w:World) (e:Ending) (w':World):Prop :=
  Q0 w w'/\match q with
    | .inl er=>e = .returned (.tuple #[.slice none 0 0,.int .i64 er])
    | .inr x=>∃v,e = .returned (.tuple #[v,.int .i64 0])/\Own w' 3 v (Q7 (x.map Int.ofNat))/\∀b,v.ownBlock=some b->w.heap.size<=b
theorem Q7Y (F G:Nat->Prop) (A B:Option Addr) (n c m d k:Nat) (lg:Int) (N:List Int) (bs:List Nat) (w:World) (hr:Rd w F A n (Q7 N)) (hfit:Fit N) (hn:(n:Int)<=1099511627776) (hbs:Rd w G B m (Q2 bs)) (hlt:∀b∈bs,b<256) (hm:m<=2^32) (hk:k<=131072) :
   Calls prog 226 #[.agg #[.int .i64 lg,.slice A n c],.slice B m d,.int .i64 (k:Nat)] w (Kf (Y1 lg N bs k) w):=by
 (have hL:bs.length=m:=by have:=hbs.1;simpa using this);obtain⟨w0,H,hw0,hH,f0,bt⟩:=al_ w 205 #[.int .i64 lg,.slice A n c];have HBU:=hd_ (Q7R F A n c lg N w0 (hr.fresh f0) hfit hn);have HNB:=hd_ (λW (hW:Q0 w W)=>Q0A G B m d bs W (hbs.fresh hW) hlt (by omega));obtain⟨t0,t1⟩:=(bt).cells2;have BT:=hd_ bt;have F0:=hd_ f0;have HW:=hd_ hw0;have HH:=hd_ hH;have HK:=hd_ hk;(have hkI:(k:Int)<=131072:=by omega);(have hk0:¬(k:Int)<0:=by omega);clear hw0 hH f0 bt hr hfit hn hbs hlt hm hk hL;refine Q8 λR hR=>?_;unfold Kf at hR;unfold VB at HBU;go_enter func226,ntmps226;go_upto_region 1 with fail;simp only [<-HH.out,<-HW.out];by_cases hv:Yc lg N 256 9
 . simp only [if_pos hv]at HBU
   have HV:=hd_ hv;have HVL:=hd_ (show N.length<=256 by have:=hv.2.2.2.2.1;omega);obtain⟨p,rfl⟩:∃p:Nat,lg=p:=⟨lg.toNat,by have:=hv.1;omega⟩;(have hp9:p<=9:=by have:=hv.2.1;omega);(have hpI:(p:Int)<=9:=by omega);clear hv;go_wp2_with fail;refine HBU.mono ?_;rintro e w1 ⟨vc,rfl,oc,kc,f1⟩;obtain⟨C,nc,cc,rfl,hnc⟩:=oc.form';obtain⟨hn4,hc4,hrk⟩:=oc.rd rfl;rw [<-hn4]at hrk;simp only [Int.toNat_natCast]at hrk;(have hncp:nc=2^p:=by rw [hn4];simp);have HRK:=hd_ hrk.both;have F1:=hd_ (F0.trans' f1);have F01:=hd_ f1;have HNC:=hd_ hncp;have HN1:=hd_ (HNB w1 (F0.trans' f1));clear oc kc f1 hnc hn4 hc4 hrk hncp HBU HNB t0 t1;by_cases hl:(bs.getLast?).getD 0=0
   . simp only [if_pos hl]at HN1
     (have hq:Y1 (p:Int) N bs k = .inl 14:=by unfold Y1;rw [if_pos HV.out,if_pos hl]);rw [hq]at hR;clear hl hq;go_wp2_with fail;refine HN1.mono ?_;rintro e w2 ⟨rfl,f2⟩;have F2:=hd_ (F1.trans' f2);clear f2 HN1;go_wp2_with fail;(try go_ret);exact hR _ _ ⟨F2.out,rfl⟩
   simp only [if_neg hl]at HN1;have HL0:=hd_ hl;clear hl;go_wp2_with fail;refine HN1.mono ?_;rintro e w2 ⟨g,rfl,hg,f2,bw⟩;have BW:=hd_ bw.both;have HG:=hd_ (And.intro hg bw.lt);have F2:=hd_ (F1.trans' f2);have F12:=hd_ f2;clear hg f2 bw HN1;obtain⟨w3,Q,hw3,hQ,f3,bq⟩:=al_ w2 304 #[.int .i64 0,.int .i64 0];have BQ:=hd_ bq;have F3:=hd_ f3;have HQ:=hd_ hQ;have BW3:=hd_ (BW.fresh f3);go_upto_region 10 with fail;simp only [<-hQ,<-hw3];clear f3 bq hw3 hQ;obtain⟨M2,hM2⟩:=nm_ (min k 2);(have hmin:min (k:Int) 2=(M2:Nat):=by omega);have HM2:=hd_ hM2;(have hM2I:(M2:Int)<=2:=by omega);have HGQ:=hd_ (show g<Q/\H<g/\w.heap.size<=H from⟨by have:=HG.2;rw [HQ.out];exact this,by have h1:=HG.1;have h2:=F01.size;have h3:=BT.lt;omega,by rw [HH.out];omega⟩);clear hM2;go_wp2_with fail;go_loopg [44] M2 (λf vi wr=>∃i a b s:Nat,i+f=M2/\vi = .int .i64 (i:Nat)/\YW (Qj bs) p i (Y0 bs)=some (a,b,s)/\a<2^p/\b<2^p/\Blk wr Q 304 #[.int .i64 (a:Nat),.int .i64 (b:Nat)]/\Y3 wr (λk=>(w1.heap.size<=k/\k≠g)/\k<w2.heap.size) g bs s/\Upd (λb=>b=g\/b=Q) w3 wr)
   case atStart=>exact⟨0,0,0,_,by omega,rfl,by simp [YW],Nat.two_pow_pos p,Nat.two_pow_pos p,BQ.out,BW3.out,Upd.refl _ _⟩
   case round =>
     obtain⟨i,a,b,s,hi,rfl,hfi,ha,hb,bq,bw,ur⟩:=hrel;have HI:=hd_ hi;have UR:=hd_ ur;have BQR:=hd_ bq;have HAB:=hd_ (And.intro ha hb);by_cases hlt:i<M2
     . have hiI:(i:Int)<M2:=by omega
       have c0:=((BT.fresh (F01.trans' (F12.trans' F3.out))).upd ur (by have:=HGQ.out;omega)).cell 0;simp at c0;have HTA:=hd_ (Q0c _ g bs s p wr bw (by omega) (λb hb=>hb.1.2));have HXP:=hd_ (Vi (Qj bs) (s,0) p);have hfo:=λh=>Q9p (p:=p) (show i<2 by have:=HM2.out;omega) hfi h;have hfn:=λh=>Q9q (p:=p) (n:=k) (show i<min k 2 by rw [<-HM2.out];exact hlt) hfi h;(have he14:(Qp (Qj bs) (s,0) p).2.2=0\/(Qp (Qj bs) (s,0) p).2.2=14:=by unfold Qp;simp only [ne_eq,not_true_eq_false,if_false];split<;>simp);obtain⟨q,hq⟩:=nm_ (Qp (Qj bs) (s,0) p);rw [<-hq]at HTA HXP hfo hfn he14;obtain⟨x,s',er⟩:=q;simp only at HTA HXP hfo hfn he14
       have hxI:(x:Int)<=512:=by
         have h1:=HXP.out;have h2:=Nat.pow_le_pow_right (n:=2) (by decide) hp9;omega
       (have hi2:i=0\/i=1:=by have:=HM2.out;omega);rcases he14 with rfl|rfl
       . have hfo:=hfo rfl
         rcases hi2 with rfl|rfl
         . have HFI:=hd_ (show YW (Qj bs) p (0+1) (Y0 bs)=some (x,b,s')from by simpa using hfo)
           clear hq hfo hfn hi hfi ha hb bq bw ur hlt;go_wp2_with fail;refine HTA.mono ?_;rintro e w4 ⟨rfl,u4,b4⟩;have U4:=hd_ u4;have B4:=hd_ b4;have bq4:=BQR.upd u4 (by have:=HGQ.out;omega);have q0:=bq4.cell 0;have q1:=bq4.cell 1;have qz0:=bq4.frozen 0;have qz1:=bq4.frozen 1;simp at q0 q1;have BQ4:=hd_ bq4;clear u4 b4 bq4 HTA;go_wp2_with fail;go_roundg (gk-1)
           case measure=>have:=HI.out;omega
           case rel =>
             refine⟨1,x,b,s',by have:=HI.out;omega,by first|rfl|go_num,by have h:=HFI.out;simpa using h,HXP.out,HAB.2,?_,?_,?_⟩
             . have:=BQ4.set_ 0 (.int .i64 (x:Nat))
               simpa using this
             . exact B4.upd (S:=λb=>b=Q) ((Upd.refl (λb=>b=Q) _).setCell (p:=⟨Q,0,none⟩) (λ_=>rfl) _) (by have:=HGQ.out;omega) (λb hb h=>by have:=hb.2;have:=HQ.out;omega)
             exact(UR.trans' (U4.mono (T:=λb=>b=g\/b=Q) λ_ _ h=>.inl h)).setCell (p:=⟨Q,0,none⟩) (λ_=>.inr rfl) _
         have HFI:=hd_ (show YW (Qj bs) p (1+1) (Y0 bs)=some (a,x,s')from by simpa using hfo);clear hq hfo hfn hi hfi ha hb bq bw ur hlt;go_wp2_with fail;refine HTA.mono ?_;rintro e w4 ⟨rfl,u4,b4⟩;have U4:=hd_ u4;have B4:=hd_ b4;have bq4:=BQR.upd u4 (by have:=HGQ.out;omega);have q0:=bq4.cell 0;have q1:=bq4.cell 1;have qz0:=bq4.frozen 0;have qz1:=bq4.frozen 1;simp at q0 q1;have BQ4:=hd_ bq4;clear u4 b4 bq4 HTA;go_wp2_with fail;go_roundg (gk-1)
         case measure=>have:=HI.out;omega
         case rel =>
           refine⟨2,a,x,s',by have:=HI.out;omega,by first|rfl|go_num,by have h:=HFI.out;simpa using h,HAB.1,HXP.out,?_,?_,?_⟩
           . have:=BQ4.set_ 1 (.int .i64 (x:Nat))
             simpa using this
           . exact B4.upd (S:=λb=>b=Q) ((Upd.refl (λb=>b=Q) _).setCell (p:=⟨Q,1,none⟩) (λ_=>rfl) _) (by have:=HGQ.out;omega) (λb hb h=>by have:=hb.2;have:=HQ.out;omega)
           exact(UR.trans' (U4.mono (T:=λb=>b=g\/b=Q) λ_ _ h=>.inl h)).setCell (p:=⟨Q,1,none⟩) (λ_=>.inr rfl) _
       have hfn:=hfn (by decide);(have hq2:Y1 (p:Int) N bs k = .inl 14:=by unfold Y1 ZS;rw [if_pos HV.out,if_neg HL0.out,Int.toNat_natCast,hfn]);rw [hq2]at hR;clear hq hfo hfn hi hfi ha hb bq bw ur hlt hq2 hi2;go_wp2_with fail;refine HTA.mono ?_;rintro e w4 ⟨rfl,u4,b4⟩;have f4:Q0 w w4:=((F2.trans' F3.out).trans UR.out (λb hb h=>by have:=HGQ.out;omega)).trans u4 (λb hb h=>by have:=HGQ.out;omega);have F4:=hd_ f4;clear u4 b4 f4 HTA;go_wp2_with fail;(try go_ret);exact hR _ _ ⟨F4.out,rfl⟩
     (have him:i=M2:=by omega);subst him;have HFI:=hd_ (show YW (Qj bs) p k (Y0 bs)=some (a,b,s)from by rw [Q7X,<-HM2.out];exact hfi);have BWR:=hd_ bw;clear hi hfi ha hb bq bw ur hlt;go_wp2_with fail
     go_loopg [15,63] k (λf vo vi wr=>∃(i now oth t:Nat) (pre:List Nat),i+f=k/\vi = .int .i64 (i:Nat)/\pre.length=i/\now<2^p/\oth<2^p/\Yd (Qj bs) p N k a b s=(Yd (Qj bs) p N (k-i) now oth t).map (λr=>(pre++r.1,r.2)) /\
       Blk wr Q 304 #[.int .i64 ((if i%2=0 then now else oth:Nat):Int),.int .i64 ((if i%2=0 then oth else now:Nat):Int)]/\Y3 wr (λk=>(w1.heap.size<=k/\k≠g)/\k<w2.heap.size) g bs t/\Own wr 3 vo (Q7 (pre.map Int.ofNat))/\(∀b,vo.ownBlock=some b->w3.heap.size<=b)/\Upd (λb=>b=g\/b=Q) w3 wr)
     case atStart=>exact⟨0,a,b,s,[],by omega,rfl,rfl,HAB.1,HAB.2,by simp,BQR.out,BWR.out,by simpa [Q7]using Own.nil _ _,by simp [Value.ownBlock],UR.out⟩
     case round =>
       obtain⟨i,now,oth,t,pre,hi,rfl,hpl,hnow,hoth,hfr,bq,bw,ov,kv,ur⟩:=hrel;obtain⟨A9,n9,c9,rfl,hn9⟩:=ov.form';have HI:=hd_ hi;have HPL:=hd_ hpl;have UR:=hd_ ur;have BWR:=hd_ bw;have OV:=hd_ ov;have KV:=hd_ kv;by_cases hlt:i<k
       . have hiI:(i:Int)<k:=by omega
         have HNO:=hd_ (And.intro hnow hoth);obtain⟨b4,o4,rfl,_,_,hcell⟩:=((HRK.fresh (F12.trans' F3.out)).upd ur (λb _ hb h=>by have:=hb.2;have h1:=HG.1;have:=HGQ.out;have:=F12.size;omega)).at_ (r:=0) (j:=now) (by rw [HNC.out];exact hnow);have hrow:=Q2C HV.out hnow (by rw [List.length_map,XJ];exact hnow);obtain⟨-,hsy,-,hbi,-,hbse⟩:=VA HV.out hnow;have c0:=hcell 0 (by omega);have c1:=hcell 1 (by omega);have c2:=hcell 2 (by omega);rw [hrow]at c0 c1 c2;simp at c0 c1 c2;obtain⟨j,hj⟩:∃j,k-i=j+1:=⟨k-i-1,by omega⟩;rw [hj]at hfr;(have hj2:k-(i+1)=j:=by omega);have HMORE:=hd_ (fun(h2:i+2<k) (h:(Qp (Qj bs) (t,0) (Yg p N now)).2.2=0)=>(show Yd (Qj bs) p N k a b s=(Yd (Qj bs) p N (k-(i+1)) oth (ZF p N now+(Qp (Qj bs) (t,0) (Yg p N now)).1) (Qp (Qj bs) (t,0) (Yg p N now)).2.1).map (λr=>((pre++[Zw p N now])++r.1,r.2))from by rw [hfr,Q1u (by omega) h,Xr,hj2]));have HFAIL:=hd_ (fun(h2:i+2<k) (h:(Qp (Qj bs) (t,0) (Yg p N now)).2.2≠0)=>(show Yd (Qj bs) p N k a b s=none from by rw [hfr,Q1v (by omega) h];rfl));have HLASTF:=hd_ (fun(h2:¬i+2<k)=>(show Yd (Qj bs) p N k a b s=(Yd (Qj bs) p N (k-(i+1)) oth now t).map (λr=>((pre++[Zw p N now])++r.1,r.2))from by rw [hfr,Q1w (by omega),Xr,hj2]));(have he14:(Qp (Qj bs) (t,0) (Yg p N now)).2.2=0\/(Qp (Qj bs) (t,0) (Yg p N now)).2.2=14:=by unfold Qp;simp only [ne_eq,not_true_eq_false,if_false];split<;>simp);have hxl:=Vi (Qj bs) (t,0) (Yg p N now);have hxl2:ZF p N now+(Qp (Qj bs) (t,0) (Yg p N now)).1<2^p:=Q7K HV.out hnow (Qj bs) (t,0);obtain⟨q,hqd⟩:=nm_ (Qp (Qj bs) (t,0) (Yg p N now));obtain⟨sy,hsyd⟩:=nm_ (Zw p N now);obtain⟨bi,hbid⟩:=nm_ (Yg p N now);obtain⟨bse,hbsd⟩:=nm_ (ZF p N now);simp only [<-hqd]at HMORE HFAIL he14 hxl hxl2;simp only [<-hsyd,<-hbid,<-hbsd]at HMORE HFAIL HLASTF hxl hxl2 c0 c1 c2 hsy hbi hbse;rw [<-hbid]at hqd;obtain⟨x,t',er⟩:=q;(try simp only at HMORE);(try simp only at he14);(try simp only at hxl);(try simp only at hxl2);(try simp only at HFAIL);have HXL:=hd_ hxl;have HXL2:=hd_ hxl2;have h2p:=Nat.pow_le_pow_right (n:=2) (by decide) hp9;(have hbiI:(bi:Int)<=9:=by omega);(have hbsI:(bse:Int)<=512:=by omega);(have hsyI:(sy:Int)<=256:=by have:=HVL.out;omega);(have hxb:x<=512:=by omega);(have hxI:(x:Int)<=512:=by omega);(have hnowI:(now:Int)<nc:=by rw [HNC.out];omega);obtain⟨w4,P4,hw4,hP4,f4,bc4⟩:=al_ wr 264 #[.int .i64 (sy:Nat),.int .i64 (bi:Nat),.int .i64 (bse:Nat)];obtain⟨w5,P5,hw5,hP5,f5,b5⟩:=al_ w4 3 #[.int .i64 (sy:Nat)];have RB:=hd_ (show Rd w5 (λ_=>True) (some ⟨P5,0,none⟩) 1 [.int .i64 (sy:Nat)]from by simpa using Blk.rds b5)
         have F5:=hd_ (f4.trans' f5);have BC5:=hd_ (bc4.fresh f5);have O5:=hd_ (ov.fresh (f4.trans' f5));have HW4:=hd_ hw4;have HP4:=hd_ hP4;have HW5:=hd_ hw5;have HP5:=hd_ hP5;have y0:=bc4.cell 0;simp at y0;have OWC:=hd_ (show Value.ownBlock (.slice A9 n9 c9)≠some P4 from λh=>by have:=ov.lt h;omega);have HPG:=hd_ (show P4≠g from by have:=HGQ.1;have:=BQ.lt;have:=ur.size;omega);have HLE:=hd_ (show(Q7 (pre.map Int.ofNat)).length+1<=2^40 from by rw [Qz,List.length_map,hpl];have:=HK.out;omega);clear hi hpl hnow hoth hfr bw ov kv ur hlt hn9 hcell hrow hsy hbi hbse hj hj2 hxl hxl2 hsyd hbid hbsd h2p f4 bc4 f5 b5 hw4 hP4 hw5 hP5;rcases(show i%2=0\/i%2=1 by omega)with hpar|hpar
         . have HPA:=hd_ (show i%2=0 from hpar)
           have HPN:=hd_ (show(i+1)%2=1 by omega);(have hparI:(i:Int)%2=0:=by omega);have q0:=bq.cell 0;have q1:=bq.cell 1;simp [hpar]at q0 q1;have BQR:=hd_ (show Blk wr Q 304 #[.int .i64 (now:Nat),.int .i64 (oth:Nat)]from by simpa [hpar]using bq);clear hpar bq;go_upto_region 23 with fail;simp only [<-HP4.out,<-HW4.out];by_cases h2:i+2<k
           . have h2I:(i:Int)+2<k:=by omega
             have hmore:=λh=>HMORE h2 h;have hfail:=λh=>HFAIL h2 h;clear h2;go_wp2_with (at_builtin;simp only [<-HP5.out,<-HW5.out];go_must (refine Qm _ rfl (.tmp 73) (.tmp 76) _ rfl 3 _ 8 underlying33 QV rfl (.slice A9 n9 c9) _ rfl O5.out _ _ _ _ rfl RB.out (by simp [Value.oneCell']) (by omega) HLE.out ?_));intro v6 w6 ho hg6 ha6;have O6:=hd_ (show Own w6 3 v6 (Q7 ((pre++[sy]).map Int.ofNat))from by simpa [Q7]using ho);have K6:=hd_ (Yj (S:=λk=>w3.heap.size<=k) ha6 (λk hk=>KV k hk) (by have:=UR.size;have:=F5.size;omega));have u56:Upd (λb=>Value.ownBlock (.slice A9 n9 c9)=some b) w5 w6:=(Upd.refl _ w5).grown hg6 (λk e _=>e);have hown9:∀b,Value.ownBlock (.slice A9 n9 c9)=some b->w3.heap.size<=b:=λb hb=>KV b hb;have hQ3:Q<w3.heap.size:=BQ.lt;have B6:=hd_ ((BWR.fresh F5.out).upd u56 (λh=>by have:=hown9 g h;have:=HGQ.out;omega) (λb hb h=>by have:=hown9 b h;have:=hb.2;have:=HQ.out;omega));have bq6:=(BQR.fresh F5.out).upd u56 (λh=>by have:=hown9 Q h;omega);have bc6:=BC5.upd u56 (λh=>OWC h);have U6:=hd_ ((UR.trans' (F5.mono (T:=λb=>b=g\/b=Q) λ_ _ h=>h.elim)).grown hg6 (λk hk hlt=>by have:=hown9 k hk;omega));have e0:=bc6.cell 0;have e1:=bc6.cell 1;have e2:=bc6.cell 2;have q0:=bq6.cell 0;have q1:=bq6.cell 1;have qz0:=bq6.frozen 0;have qz1:=bq6.frozen 1;simp at e0 e1 e2 q0 q1;have BQ6:=hd_ bq6;have BC6:=hd_ bc6;clear ho hg6 ha6 u56 hown9 bq6 bc6 O5 RB HW5 HP5 F5;have HTA:=hd_ (Q0c _ g bs t bi w6 B6.out (by omega) (λb hb=>hb.1.2));rw [<-hqd]at HTA;rcases he14 with rfl|rfl
             . have HFR2:=hd_ (hmore rfl)
               clear hqd hmore hfail;go_wp2_with fail;refine HTA.mono ?_;rintro e w7 ⟨rfl,u7,b7⟩;have U7:=hd_ u7;have B7:=hd_ b7;have bq7:=BQ6.upd u7 (by have:=HGQ.out;omega);have bc7:=BC6.upd u7 HPG.out;obtain⟨g0,g1,g2⟩:=(bc7).cells3;have q0:=bq7.cell 0;have q1:=bq7.cell 1;have qz0:=bq7.frozen 0;have qz1:=bq7.frozen 1;simp at q0 q1;have BQ7:=hd_ bq7;have HCN:=hd_ (Q2y (sy:Int) (bse:Int) bi x w7 (by omega) (by omega) (by omega));rw [Nat.mod_eq_of_lt HXL.out]at HCN;clear u7 b7 bq7 bc7 HTA e0 e1 e2;go_wp2_with fail;refine HCN.mono ?_;rintro e w8 ⟨rfl,f8⟩;have bq8:=BQ7.fresh f8;have q0:=bq8.cell 0;have q1:=bq8.cell 1;have qz0:=bq8.frozen 0;have qz1:=bq8.frozen 1;simp at q0 q1;have BQ8:=hd_ bq8;have F8:=hd_ f8;clear f8 bq8 HCN g0 g1 g2;go_wp2_with fail;go_roundg (gk-1)
               case measure=>have:=HI.out;omega
               case rel =>
                 refine⟨i+1,oth,bse+x,t',pre++[sy],by have:=HI.out;omega,by go_num,by simp [HPL.out],HNO.2,HXL2.out,HFR2.out,?_,?_,?_,K6.out,?_⟩
                 . have h:=BQ8.set_ 0 (.int .i64 ((bse+x:Nat):Int))
                   simpa [HPN.out,HPA.out]using h
                 . exact(B7.fresh F8.out).upd (S:=λb=>b=Q) ((Upd.refl (λb=>b=Q) _).setCell (p:=⟨Q,0,none⟩) (λ_=>rfl) _) (by have:=HGQ.out;omega) (λb hb h=>by have:=hb.2;have:=HQ.out;omega)
                 . exact(((O6.upd U7.out (λb hb h=>by have:=K6 b hb;have:=HGQ.out;have:=BQ.lt;omega)).fresh F8.out).upd (S:=λb=>b=Q) ((Upd.refl (λb=>b=Q) _).setCell (p:=⟨Q,0,none⟩) (λ_=>rfl) _) (λb hb h=>by have:=K6 b hb;have:=BQ.lt;omega))
                 exact((U6.trans' (U7.mono (T:=λb=>b=g\/b=Q) λ_ _ h=>.inl h)).trans' (F8.mono λ_ _ h=>h.elim)).setCell (p:=⟨Q,0,none⟩) (λ_=>.inr rfl) _
             (have hq2:Y1 (p:Int) N bs k = .inl 14:=by unfold Y1 ZS;rw [if_pos HV.out,if_neg HL0.out,Int.toNat_natCast,HFI.out];simp only [hfail (by decide)]);rw [hq2]at hR;clear hqd hmore hfail hq2;go_wp2_with fail;refine HTA.mono ?_;rintro e w7 ⟨rfl,u7,b7⟩;have F7:=hd_ (((F2.trans' F3.out).trans U6.out (λb hb h=>by have:=HGQ.out;omega)).trans u7 (λb hb h=>by have:=HGQ.out;omega));clear u7 b7 HTA;go_wp2_with fail;(try go_ret);exact hR _ _ ⟨F7.out,rfl⟩
           (have h2I:¬(i:Int)+2<k:=by omega);have HLAST:=hd_ (HLASTF h2);clear h2 he14 hqd;go_wp2_with (at_builtin;simp only [<-HP5.out,<-HW5.out];go_must (refine Qm _ rfl (.tmp 73) (.tmp 76) _ rfl 3 _ 8 underlying33 QV rfl (.slice A9 n9 c9) _ rfl O5.out _ _ _ _ rfl RB.out (by simp [Value.oneCell']) (by omega) HLE.out ?_));intro v6 w6 ho hg6 ha6;have O6:=hd_ (show Own w6 3 v6 (Q7 ((pre++[sy]).map Int.ofNat))from by simpa [Q7]using ho);have K6:=hd_ (Yj (S:=λk=>w3.heap.size<=k) ha6 (λk hk=>KV k hk) (by have:=UR.size;have:=F5.size;omega));have u56:Upd (λb=>Value.ownBlock (.slice A9 n9 c9)=some b) w5 w6:=(Upd.refl _ w5).grown hg6 (λk e _=>e);have hown9:∀b,Value.ownBlock (.slice A9 n9 c9)=some b->w3.heap.size<=b:=λb hb=>KV b hb;have hQ3:Q<w3.heap.size:=BQ.lt;have B6:=hd_ ((BWR.fresh F5.out).upd u56 (λh=>by have:=hown9 g h;have:=HGQ.out;omega) (λb hb h=>by have:=hown9 b h;have:=hb.2;have:=HQ.out;omega));have bq6:=(BQR.fresh F5.out).upd u56 (λh=>by have:=hown9 Q h;omega);have bc6:=BC5.upd u56 (λh=>OWC h);have U6:=hd_ ((UR.trans' (F5.mono (T:=λb=>b=g\/b=Q) λ_ _ h=>h.elim)).grown hg6 (λk hk hlt=>by have:=hown9 k hk;omega));have e0:=bc6.cell 0;have e1:=bc6.cell 1;have e2:=bc6.cell 2;have q0:=bq6.cell 0;have q1:=bq6.cell 1;have qz0:=bq6.frozen 0;have qz1:=bq6.frozen 1;simp at e0 e1 e2 q0 q1;have BQ6:=hd_ bq6;have BC6:=hd_ bc6;clear ho hg6 ha6 u56 hown9 bq6 bc6 O5 RB HW5 HP5 F5;go_wp2_with fail;go_roundg (gk-1)
           case measure=>have:=HI.out;omega
           case rel =>
             refine⟨i+1,oth,now,t,pre++[sy],by have:=HI.out;omega,by go_num,by simp [HPL.out],HNO.2,HNO.1,HLAST.out,?_,B6.out,O6.out,K6.out,U6.out⟩;have h:=BQ6.out;simpa [HPN.out,HPA.out]using h
         have HPA:=hd_ (show i%2=1 from hpar);have HPN:=hd_ (show(i+1)%2=0 by omega);(have hparI:(i:Int)%2=1:=by omega);have q0:=bq.cell 0;have q1:=bq.cell 1;simp [hpar]at q0 q1;have BQR:=hd_ (show Blk wr Q 304 #[.int .i64 (oth:Nat),.int .i64 (now:Nat)]from by simpa [hpar]using bq);clear hpar bq;go_upto_region 23 with fail;simp only [<-HP4.out,<-HW4.out];by_cases h2:i+2<k
         . have h2I:(i:Int)+2<k:=by omega
           have hmore:=λh=>HMORE h2 h;have hfail:=λh=>HFAIL h2 h;clear h2;go_wp2_with (at_builtin;simp only [<-HP5.out,<-HW5.out];go_must (refine Qm _ rfl (.tmp 73) (.tmp 76) _ rfl 3 _ 8 underlying33 QV rfl (.slice A9 n9 c9) _ rfl O5.out _ _ _ _ rfl RB.out (by simp [Value.oneCell']) (by omega) HLE.out ?_));intro v6 w6 ho hg6 ha6;have O6:=hd_ (show Own w6 3 v6 (Q7 ((pre++[sy]).map Int.ofNat))from by simpa [Q7]using ho);have K6:=hd_ (Yj (S:=λk=>w3.heap.size<=k) ha6 (λk hk=>KV k hk) (by have:=UR.size;have:=F5.size;omega));have u56:Upd (λb=>Value.ownBlock (.slice A9 n9 c9)=some b) w5 w6:=(Upd.refl _ w5).grown hg6 (λk e _=>e);have hown9:∀b,Value.ownBlock (.slice A9 n9 c9)=some b->w3.heap.size<=b:=λb hb=>KV b hb;have hQ3:Q<w3.heap.size:=BQ.lt;have B6:=hd_ ((BWR.fresh F5.out).upd u56 (λh=>by have:=hown9 g h;have:=HGQ.out;omega) (λb hb h=>by have:=hown9 b h;have:=hb.2;have:=HQ.out;omega));have bq6:=(BQR.fresh F5.out).upd u56 (λh=>by have:=hown9 Q h;omega);have bc6:=BC5.upd u56 (λh=>OWC h);have U6:=hd_ ((UR.trans' (F5.mono (T:=λb=>b=g\/b=Q) λ_ _ h=>h.elim)).grown hg6 (λk hk hlt=>by have:=hown9 k hk;omega));have e0:=bc6.cell 0;have e1:=bc6.cell 1;have e2:=bc6.cell 2;have q0:=bq6.cell 0;have q1:=bq6.cell 1;have qz0:=bq6.frozen 0;have qz1:=bq6.frozen 1;simp at e0 e1 e2 q0 q1;have BQ6:=hd_ bq6;have BC6:=hd_ bc6;clear ho hg6 ha6 u56 hown9 bq6 bc6 O5 RB HW5 HP5 F5;have HTA:=hd_ (Q0c _ g bs t bi w6 B6.out (by omega) (λb hb=>hb.1.2));rw [<-hqd]at HTA;rcases he14 with rfl|rfl
           . have HFR2:=hd_ (hmore rfl)
             clear hqd hmore hfail;go_wp2_with fail;refine HTA.mono ?_;rintro e w7 ⟨rfl,u7,b7⟩;have U7:=hd_ u7;have B7:=hd_ b7;have bq7:=BQ6.upd u7 (by have:=HGQ.out;omega);have bc7:=BC6.upd u7 HPG.out;obtain⟨g0,g1,g2⟩:=(bc7).cells3;have q0:=bq7.cell 0;have q1:=bq7.cell 1;have qz0:=bq7.frozen 0;have qz1:=bq7.frozen 1;simp at q0 q1;have BQ7:=hd_ bq7;have HCN:=hd_ (Q2y (sy:Int) (bse:Int) bi x w7 (by omega) (by omega) (by omega));rw [Nat.mod_eq_of_lt HXL.out]at HCN;clear u7 b7 bq7 bc7 HTA e0 e1 e2;go_wp2_with fail;refine HCN.mono ?_;rintro e w8 ⟨rfl,f8⟩;have bq8:=BQ7.fresh f8;have q0:=bq8.cell 0;have q1:=bq8.cell 1;have qz0:=bq8.frozen 0;have qz1:=bq8.frozen 1;simp at q0 q1;have BQ8:=hd_ bq8;have F8:=hd_ f8;clear f8 bq8 HCN g0 g1 g2;go_wp2_with fail;go_roundg (gk-1)
             case measure=>have:=HI.out;omega
             case rel =>
               refine⟨i+1,oth,bse+x,t',pre++[sy],by have:=HI.out;omega,by go_num,by simp [HPL.out],HNO.2,HXL2.out,HFR2.out,?_,?_,?_,K6.out,?_⟩
               . have h:=BQ8.set_ 1 (.int .i64 ((bse+x:Nat):Int))
                 simpa [HPN.out,HPA.out]using h
               . exact(B7.fresh F8.out).upd (S:=λb=>b=Q) ((Upd.refl (λb=>b=Q) _).setCell (p:=⟨Q,1,none⟩) (λ_=>rfl) _) (by have:=HGQ.out;omega) (λb hb h=>by have:=hb.2;have:=HQ.out;omega)
               . exact(((O6.upd U7.out (λb hb h=>by have:=K6 b hb;have:=HGQ.out;have:=BQ.lt;omega)).fresh F8.out).upd (S:=λb=>b=Q) ((Upd.refl (λb=>b=Q) _).setCell (p:=⟨Q,1,none⟩) (λ_=>rfl) _) (λb hb h=>by have:=K6 b hb;have:=BQ.lt;omega))
               exact((U6.trans' (U7.mono (T:=λb=>b=g\/b=Q) λ_ _ h=>.inl h)).trans' (F8.mono λ_ _ h=>h.elim)).setCell (p:=⟨Q,1,none⟩) (λ_=>.inr rfl) _
           (have hq2:Y1 (p:Int) N bs k = .inl 14:=by unfold Y1 ZS;rw [if_pos HV.out,if_neg HL0.out,Int.toNat_natCast,HFI.out];simp only [hfail (by decide)]);rw [hq2]at hR;clear hqd hmore hfail hq2;go_wp2_with fail;refine HTA.mono ?_;rintro e w7 ⟨rfl,u7,b7⟩;have F7:=hd_ (((F2.trans' F3.out).trans U6.out (λb hb h=>by have:=HGQ.out;omega)).trans u7 (λb hb h=>by have:=HGQ.out;omega));clear u7 b7 HTA;go_wp2_with fail;(try go_ret);exact hR _ _ ⟨F7.out,rfl⟩
         (have h2I:¬(i:Int)+2<k:=by omega);have HLAST:=hd_ (HLASTF h2);clear h2 he14 hqd;go_wp2_with (at_builtin;simp only [<-HP5.out,<-HW5.out];go_must (refine Qm _ rfl (.tmp 73) (.tmp 76) _ rfl 3 _ 8 underlying33 QV rfl (.slice A9 n9 c9) _ rfl O5.out _ _ _ _ rfl RB.out (by simp [Value.oneCell']) (by omega) HLE.out ?_));intro v6 w6 ho hg6 ha6;have O6:=hd_ (show Own w6 3 v6 (Q7 ((pre++[sy]).map Int.ofNat))from by simpa [Q7]using ho);have K6:=hd_ (Yj (S:=λk=>w3.heap.size<=k) ha6 (λk hk=>KV k hk) (by have:=UR.size;have:=F5.size;omega));have u56:Upd (λb=>Value.ownBlock (.slice A9 n9 c9)=some b) w5 w6:=(Upd.refl _ w5).grown hg6 (λk e _=>e);have hown9:∀b,Value.ownBlock (.slice A9 n9 c9)=some b->w3.heap.size<=b:=λb hb=>KV b hb;have hQ3:Q<w3.heap.size:=BQ.lt;have B6:=hd_ ((BWR.fresh F5.out).upd u56 (λh=>by have:=hown9 g h;have:=HGQ.out;omega) (λb hb h=>by have:=hown9 b h;have:=hb.2;have:=HQ.out;omega));have bq6:=(BQR.fresh F5.out).upd u56 (λh=>by have:=hown9 Q h;omega);have bc6:=BC5.upd u56 (λh=>OWC h);have U6:=hd_ ((UR.trans' (F5.mono (T:=λb=>b=g\/b=Q) λ_ _ h=>h.elim)).grown hg6 (λk hk hlt=>by have:=hown9 k hk;omega));have e0:=bc6.cell 0;have e1:=bc6.cell 1;have e2:=bc6.cell 2;have q0:=bq6.cell 0;have q1:=bq6.cell 1;have qz0:=bq6.frozen 0;have qz1:=bq6.frozen 1;simp at e0 e1 e2 q0 q1;have BQ6:=hd_ bq6;have BC6:=hd_ bc6;clear ho hg6 ha6 u56 hown9 bq6 bc6 O5 RB HW5 HP5 F5;go_wp2_with fail;go_roundg (gk-1)
         case measure=>have:=HI.out;omega
         case rel =>
           refine⟨i+1,oth,now,t,pre++[sy],by have:=HI.out;omega,by go_num,by simp [HPL.out],HNO.2,HNO.1,HLAST.out,?_,B6.out,O6.out,K6.out,U6.out⟩;have h:=BQ6.out;simpa [HPN.out,HPA.out]using h
       (have hik:i=k:=by omega);subst hik;rw [Nat.sub_self]at hfr;have HFR:=hd_ (show Yd (Qj bs) p N i a b s=some (pre,t)from by rw [hfr];simp [Yd]);have HLE:=hd_ (XY _ g bs t wr bw);clear hi hpl hnow hoth hfr bq bw ov kv ur hlt hn9;by_cases ht:t=0
       . subst ht
         (have hq2:Y1 (p:Int) N bs i = .inr pre:=by unfold Y1 ZS;rw [if_pos HV.out,if_neg HL0.out,Int.toNat_natCast,HFI.out];simp only [HFR.out]);rw [hq2]at hR;clear hq2;go_wp2_with fail;refine HLE.mono ?_;rintro e w7 ⟨rfl,f7⟩;have F7:=hd_ (((F2.trans' F3.out).trans UR.out (λb hb h=>by have:=HGQ.out;omega)).trans' f7);have O7:=hd_ (OV.fresh f7);clear f7 HLE;go_wp2_with fail;(try go_ret);exact hR _ _ ⟨F7.out,_,rfl,O7.out,λb hb=>by have:=KV b hb;have:=F2.size;have:=F3.size;omega⟩
       (have htb:((t:Int) == 0)=false:=by simp;omega);(have htI:¬(t:Int)=0:=by omega)
       have hq2:Y1 (p:Int) N bs i = .inl 14:=by
         unfold Y1 ZS;rw [if_pos HV.out,if_neg HL0.out,Int.toNat_natCast,HFI.out];simp only [HFR.out];obtain⟨t5,rfl⟩:∃t5,t=t5+1:=⟨t-1,by omega⟩;rfl
       rw [hq2]at hR;clear hq2 ht;go_wp2_with fail;refine HLE.mono ?_;rintro e w7 ⟨rfl,f7⟩;have F7:=hd_ (((F2.trans' F3.out).trans UR.out (λb hb h=>by have:=HGQ.out;omega)).trans' f7);clear f7 HLE;go_wp2_with fail;(try go_ret);exact hR _ _ ⟨F7.out,rfl⟩
 simp only [if_neg hv]at HBU;(have hq:Y1 lg N bs k = .inl 13:=by unfold Y1;rw [if_neg hv]);rw [hq]at hR;clear hv hq;go_wp2_with fail;refine HBU.mono ?_;rintro e w1 ⟨rfl,f1⟩;have F1:=hd_ (F0.trans' f1);clear f1 HBU t0 t1;go_wp2_with fail;(try go_ret);exact hR _ _ ⟨F1.out,rfl⟩
theorem Q63 (F:Nat->Prop) (A:Option Addr) (n c:Nat) (l:List Int) (x:Int) (w:World) (hr:Rd w F A n (Q7 l)) (hn:n<=2^40) :
   Calls prog 276 #[.slice A n c,.int .i64 x] w λe w'=>(∃q:Int,e = .returned (.int .i64 q)/\(x∈l->0<=q)/\(x ∉ l->q=-1))/\w=w':=by
 (have hL:l.length=n:=by have:=hr.1;simpa using this);(have hnI:(n:Int)<=1099511627776:=by omega);have HR:=hd_ hr;have HL:=hd_ hL;clear hr hL hn;refine Q8 λR hR=>?_;go_enter func276,ntmps276;go_wp2_with fail;go_loopg [8] n (λf vi wr=>∃k:Nat,k+f=n/\vi = .int .i64 k/\wr=w/\x ∉ l.take k)
 case atStart=>exact⟨0,by omega,rfl,rfl,by simp⟩
 case round =>
   obtain⟨k,hk,rfl,rfl,hv⟩:=hrel;have HK:=hd_ hk;have HV:=hd_ hv;by_cases hlt:k<n
   . have hlI:(k:Int)<n:=by omega
     obtain⟨b,o,hkl,rfl,_,hc⟩:=HR.int (k:=k) hlt;have HTK:=hd_ (show l.take (k+1)=l.take k++[l[k]]from List.take_succ_eq_append_getElem hkl);have HME:=hd_ (List.getElem_mem hkl);obtain⟨z,hz⟩:=nm_ (l[k]);simp only [<-hz]at hc HTK HME;clear hz hk hv;by_cases h0:x=z
     . subst h0
       go_wp2_with fail;(try go_ret);exact hR _ _ ⟨⟨_,rfl,λ_=>by omega,λh=>absurd HME.out h⟩,rfl⟩
     (have hb:(x == z)=false:=by simpa using h0);have H0:=hd_ h0;clear h0;go_wp2_with fail;go_roundg (gk-1)
     case measure=>have:=HK.out;omega
     case rel=>exact⟨k+1,by have:=HK.out;omega,by go_num,rfl,by rw [HTK.out];simp only [List.mem_append,List.mem_singleton];exact λh=>h.elim HV.out H0.out⟩
   (have hkn:k=n:=by omega);subst hkn;rw [List.take_of_length_le (by have:=HL.out;omega)]at hv;have HV2:=hd_ hv;clear hk hlt hv HV;go_wp2_with fail;(try go_ret);exact hR _ _ ⟨⟨_,rfl,λh=>absurd h HV2.out,λ_=>rfl⟩,rfl⟩
theorem Q7Z (F:Nat->Prop) (A:Option Addr) (n c:Nat) (l:List Int) (x:Int) (w:World) (hr:Rd w F A n (Q7 l)) (hn:n<=2^40) :
   Calls prog 228 #[.slice A n c,.int .i64 x] w λe w'=>e = .returned (.bool (decide (x∈l)))/\w=w':=by
 have HI:=hd_ (Q63 F A n c l x w hr hn);clear hr hn;refine Q8 λR hR=>?_;go_enter func228,ntmps228;go_wp2_with fail;refine HI.mono ?_;rintro e w1 ⟨⟨q,rfl,hq,hq2⟩,rfl⟩;by_cases h:x∈l
 . rw [decide_eq_true h]at hR
   have hq0:=hq h;clear hq hq2 h HI;go_wp2_with fail;(try go_ret);exact hR _ _ ⟨rfl,rfl⟩
 rw [decide_eq_false h]at hR;obtain rfl:=hq2 h;clear hq hq2 h HI;go_wp2_with fail;(try go_ret);exact hR _ _ ⟨rfl,rfl⟩
theorem ZW {m:Nat} (h:m<2^64) (h0:m≠0):1<=Lib.bitLen m/\2^(Lib.bitLen m-1)<=m/\m<2^Lib.bitLen m:=Lib.bitLenAux_bounds 64 m h h0
def JQ (ws:List Int):Nat:=(ws.map λx=>if 0<x then 2^(x.toNat-1)else 0).sum
theorem Q0d (ws:List Int) (x:Int):JQ (ws++[x])=JQ ws+if 0<x then 2^(x.toNat-1)else 0:=by simp [JQ]
def Zx (ws:List Int):Nat:=Lib.bitLen (JQ ws)
def J8 (ws:List Int):Nat:=Lib.bitLen (2^Zx ws-JQ ws)
def okW (ws:List Int):Prop:=0<ws.length/\ws.length<256/\(∀x∈ws,0<=x/\x<=11)/\0<JQ ws/\Zx ws<=11/\2^Zx ws-JQ ws=2^(J8 ws-1)/\(1:Int)∈ws++[(J8 ws:Int)]
instance (ws:List Int):Decidable (okW ws):=by unfold okW;infer_instance
def KT (ws:List Int):List Int:=(ws++[(J8 ws:Int)]).map λx=>if 0<x then(Zx ws:Int)+1-x else x
theorem Q2D {ws:List Int} (h:∀x∈ws,0<=x/\x<=11):JQ ws<=1024*ws.length:=by
 induction ws with
 | nil=>simp [JQ]
 | cons x xs ih =>
   have h1:=h x (by simp);have h2:=ih λy hy=>h y (by simp [hy])
   have h3:(if 0<x then 2^(x.toNat-1)else 0)<=1024:=by
     split
     . exact Nat.pow_le_pow_right (n:=2) (by decide) (show x.toNat-1<=10 by omega)
     omega
   simp only [JQ,List.map_cons,List.sum_cons,List.length_cons]at h2|-;omega
def YT (f:Int->Int) (L:List Int) (i:Nat):List Int:=(L.take i).map f++L.drop i
@[simp] theorem VN (f:Int->Int) (L:List Int) (i:Nat):(YT f L i).length=L.length:=by simp [YT];omega
theorem Q17 {f:Int->Int} {L:List Int} {i:Nat} (h:i<L.length):(YT f L i)[i]?=some L[i]:=by
 unfold YT;(have hl:((L.take i).map f).length=i:=by rw [List.length_map,List.length_take];omega);rw [List.getElem?_append_right (by omega),hl,Nat.sub_self,List.getElem?_drop,Nat.add_zero,List.getElem?_eq_getElem h]
theorem Q0e {f:Int->Int} {L:List Int} {i:Nat} (h:i<L.length):(YT f L i).set i (f L[i])=YT f L (i+1):=by
 unfold YT;(have hl:((L.take i).map f).length=i:=by rw [List.length_map,List.length_take];omega);rw [List.set_append_right _ _ (by omega),hl,Nat.sub_self,List.drop_eq_getElem_cons h,sz_,List.take_succ_eq_append_getElem h,List.map_append];simp
theorem Q2E {f:Int->Int} {L:List Int} {i:Nat} (h:i<L.length) (he:f L[i]=L[i]):YT f L (i+1)=YT f L i:=by
 rw [<-Q0e h,he];apply List.ext_getElem?;intro j;rw [List.getElem?_set];split
 . next h2 =>
   subst h2;rw [Q17 h];split
   . rfl
   next h3=>rw [VN]at h3;omega
 rfl
theorem Q64 {w:World} {b:Nat} {e:TypeId} {v:Value} {xs:List Value} {n:Nat} (h:w.ownsRow b e 1 v n xs) (hn:n=xs.length):Own w e v xs/\∀k,v.ownBlock=some k->b<=k:=by
 subst hn;refine⟨⟨h.1,?_⟩,λk hk=>(h.lt k hk).1⟩;rcases h.2 with h|⟨g,cap,cur,h1,h2,h3⟩
 . exact .inl h
 exact .inr ⟨g,cap,cur,h1,Nat.zero_le _,h3⟩
def Kg (ws:List Int) (w:World) (e:Ending) (w':World):Prop :=
  Q0 w w'/\if okW ws then ∃v,e = .returned (.tuple #[v,.int .i64 (J8 ws:Nat)])/\Own w' 3 v (Q7 (KT ws))/\∀b,v.ownBlock=some b->w.heap.size<=b else e=Qa 12
theorem Q2F (F:Nat->Prop) (A:Option Addr) (n c:Nat) (ws:List Int) (w:World) (hr:Rd w F A n (Q7 ws)) (hn:n<=2^40) (hc:n<=c) :
   Calls prog 180 #[.slice A n c] w (Kg ws w):=by
 (have hL:ws.length=n:=by have:=hr.1;simpa using this);have HR:=hd_ hr;have HL:=hd_ hL;(have hcI:(n:Int)<=c:=by omega);have HC:=hd_ hc;refine Q8 λR hR=>?_;unfold Kg at hR;go_enter func180,ntmps180;by_cases h0:0<n/\n<256
 . have h0I:0<(n:Int):=by omega
   (have h1I:(n:Int)<256:=by omega);have HN:=hd_ h0;have HNO:=hd_ (fun(h:¬okW ws)=>(λw' (hf:Q0 w w')=>hR (Qa 12) w' ⟨hf,by rw [if_neg h]⟩:∀w',Q0 w w'->R (Qa 12) w'));clear h0 hr hn hc hL;go_wp2_with fail;refine(YK _ _ _ (by first|rfl|(simp;done)|(simp;omega))).mono ?_;rintro e w1 ⟨rfl,rfl⟩;go_wp2_with fail;go_loopg [4,22] n (λf vs vi wr=>wr=w1/\∃k:Nat,k+f=n/\vi = .int .i64 (k:Nat)/\vs = .int .i64 (JQ (ws.take k):Nat)/\∀x∈ws.take k,0<=x/\x<=11)
   case atStart=>exact⟨rfl,0,by omega,rfl,by simp [JQ],by simp⟩
   case round =>
     obtain⟨rfl,k,hk,rfl,rfl,hall⟩:=hrel;have HK:=hd_ hk;have HA:=hd_ hall;have hsb:=Q2D hall;have hsl:=List.length_take_le k ws;by_cases hlt:k<n
     . have hlI:(k:Int)<n:=by omega
       obtain⟨b,o,hkl,rfl,_,hc⟩:=HR.int (k:=k) hlt;have HTK:=hd_ (show ws.take (k+1)=ws.take k++[ws[k]]from List.take_succ_eq_append_getElem hkl);have HME:=hd_ (List.getElem_mem hkl);obtain⟨z,hz⟩:=nm_ (ws[k]);simp only [<-hz]at hc HTK HME;obtain⟨S,hS⟩:=nm_ (JQ (ws.take k));have HSS:=hd_ hS;rw [<-hS]at hsb|-;(have hSI:(S:Int)<=262144:=by have:=HN.2;omega);(have hkI:(k:Int)<=256:=by omega);have HLT:=hd_ hlt;clear hz hS hk hall hsb hsl;by_cases hb:0<=z/\z<=11
       . obtain⟨q,rfl⟩:∃q:Nat,z=q:=⟨z.toNat,by omega⟩
         (have hq11:q<=11:=by omega);(have hqI:(q:Int)<=11:=by omega);obtain⟨p,hp⟩:=nm_ (if 0<(q:Int)then 2^((q:Int).toNat-1)else 0)
         have hpv:2^q / 2=p:=by
           rw [hp]
           cases q with
           | zero=>rfl
           | succ j=>rw [if_pos (by omega),Int.toNat_natCast,Nat.pow_succ,Nat.add_sub_cancel];omega
         (have hpI:(2:Int)^q / 2=(p:Nat):=by rw [<-hpv];simp)
         have hp1:p<=1024:=by
           rw [<-hpv];have:=Nat.pow_le_pow_right (n:=2) (by decide) hq11;omega
         (have hpb:(p:Int)<=1024:=by omega)
         have h2q:(2:Int)^q<=2048:=by
           have h:=Nat.pow_le_pow_right (n:=2) (by decide) hq11;(have h2:((2^q:Nat):Int)<=2048:=by omega);simpa using h2
         have HP:=hd_ hp;clear hp hpv hp1 hq11;go_wp2_with fail;refine(YK _ _ _ (by first|rfl|(simp;done)|(simp;omega))).mono ?_;rintro e w1 ⟨rfl,rfl⟩;go_wp2_with fail;go_roundg (gk-1)
         case measure=>have:=HK.out;have:=HLT.out;omega
         case rel =>
           refine⟨rfl,k+1,by have:=HK.out;have:=HLT.out;omega,by go_num,?_,?_⟩
           . rw [HTK.out,Q0d,<-HSS.out,<-HP.out];go_num
           rw [HTK.out];intro x hx;rcases List.mem_append.1 hx with h|h;exact HA x h;rw [List.mem_singleton.1 h];omega
       have hno:¬okW ws:=λh=>hb (h.2.2.1 z HME.out);have HN2:=hd_ (HNO hno);have hbI:¬(0<=z/\z<=11):=hb;clear hno HNO;by_cases hz0:0<=z
       . have hz11:¬z<=11:=λh=>hb ⟨hz0,h⟩
         clear hb hbI;go_wp2_with fail;refine(Yi _ _ _ (by first|rfl|(simp;done)|(simp;omega))).mono ?_;rintro e w1 ⟨rfl,rfl⟩;simp only [Qa];exact⟨rfl,HN2 _ (Upd.refl _ _)⟩
       clear hb hbI;go_wp2_with fail;refine(Yi _ _ _ (by first|rfl|(simp;done)|(simp;omega))).mono ?_;rintro e w1 ⟨rfl,rfl⟩;simp only [Qa];exact⟨rfl,HN2 _ (Upd.refl _ _)⟩
     (have hkn:k=n:=by omega);subst hkn;rw [List.take_of_length_le (by have:=HL.out;omega)]at hall hsb|-;have HAL:=hd_ hall;obtain⟨S,hS⟩:=nm_ (JQ ws);obtain⟨T,hT⟩:=nm_ (Lib.bitLen S);(have hS18:S<=262144:=by rw [hS];have:=HL.out;have:=HN.2;omega)
     have hTS:S<2^T/\T<=19:=by
       rcases Nat.eq_zero_or_pos S with h|h
       . rw [hT,h];decide
       obtain⟨h1,h2,h3⟩:=ZW (m:=S) (by omega) (by omega);rw [<-hT]at h1 h2 h3;refine⟨h3,?_⟩;rcases Nat.lt_or_ge T 20 with h4|h4
       . omega
       exfalso;have:=Nat.pow_le_pow_right (n:=2) (by decide) (show 19<=T-1 by omega);omega
     obtain⟨PT,hPT⟩:=nm_ (2^T);(have hPT2:PT<=524288:=by rw [hPT];exact Nat.pow_le_pow_right (n:=2) (by decide) hTS.2);obtain⟨Q,hQ⟩:=nm_ (PT-S);obtain⟨h1,h2,h3⟩:=ZW (m:=Q) (by omega) (by rw [hQ,hPT];omega);obtain⟨L1,hL1⟩:=nm_ (Lib.bitLen Q-1);rw [<-hL1]at h2;(have hLA:Lib.bitLen Q=L1+1:=by omega);obtain⟨PL,hPL⟩:=nm_ (2^L1);rw [<-hPL]at h2
     have hL119:L1<=19:=by
       rcases Nat.lt_or_ge L1 20 with h4|h4
       . omega
       exfalso;have:=Nat.pow_le_pow_right (n:=2) (by decide) h4;omega
     have hBT:=λW=>bits_Len (S:Int) W (by omega) (by omega);have hBQ:=λW=>bits_Len (Q:Int) W (by omega) (by omega);simp only [Int.toNat_natCast]at hBT hBQ;rw [<-hT]at hBT;rw [hLA]at hBQ
     have hokw:okW ws ↔ (0<S/\T<=11/\Q=PL/\(1:Int)∈ws++[((L1+1:Nat):Int)]):=by
       (have e1:Zx ws=T:=by unfold Zx;rw [<-hS,hT]);(have e2:J8 ws=L1+1:=by unfold J8;rw [e1,<-hS,<-hPT,<-hQ,hLA]);unfold okW;rw [e1,e2,<-hS,<-hPT,<-hQ,Nat.add_sub_cancel,<-hPL];have:=HL.out;have:=HN.out;exact⟨λh=>h.2.2.2,λh=>⟨by omega,by omega,hall,h⟩⟩
     have htr:KT ws=(ws++[((L1+1:Nat):Int)]).map (λx=>if 0<x then(T:Int)+1-x else x)/\J8 ws=L1+1:=by
       (have e1:Zx ws=T:=by unfold Zx;rw [<-hS,hT]);(have e2:J8 ws=L1+1:=by unfold J8;rw [e1,<-hS,<-hPT,<-hQ,hLA]);unfold KT;rw [e1,e2];exact⟨rfl,rfl⟩
     rw [<-hS];have HBT:=hd_ hBT;have HBQ:=hd_ hBQ;have HOK:=hd_ hokw;have HTR:=hd_ htr;(have hp2:(2:Int)^T=(PT:Nat):=by rw [hPT];simp);(have hp3:(2:Int)^L1=(PL:Nat):=by rw [hPL];simp);(have hSI:(S:Int)<=262144:=by omega);(have hTI:(T:Int)<=19:=by omega);(have hPTI:(PT:Int)<=524288:=by omega);(have hQI:(Q:Int)<=524288:=by omega);(have hLI:(L1:Int)<=19:=by omega);(have hPLI:(PL:Int)<=524288:=by omega);(have hQd:(PT:Int)-S=Q:=by omega);have hT19:T<=19:=hTS.2;clear hk hlt hall hsb hsl hS hT hS18 hTS hPT hPT2 hQ h1 h2 h3 hL1 hLA hPL hBT hBQ hokw htr HA HK;(have hwS:IntKind.u64.wrap (S:Int)=S:=by unfold IntKind.wrap;simp [IntKind.bits];omega);(have hwQ:IntKind.u64.wrap (Q:Int)=Q:=by unfold IntKind.wrap;simp [IntKind.bits];omega);go_wp2_with fail;refine(HBT _).mono ?_;rintro e w2 ⟨rfl,rfl⟩;go_wp2_with fail;refine(HBQ _).mono ?_;rintro e w3 ⟨rfl,rfl⟩;by_cases hcond:0<S/\T<=11/\Q=PL
     . obtain⟨hc1,hc2,hc3⟩:=hcond
       subst hc3;(have hc1I:0<(S:Int):=by omega);(have hc2I:(T:Int)<=11:=by omega);have HCC:=hd_ (And.intro hc1 hc2);clear hc1 hc2;go_wp2_with fail;refine(YK _ _ _ (by first|rfl|(simp;done)|(simp;omega))).mono ?_;rintro e w4 ⟨rfl,rfl⟩;obtain⟨w5,P,hw5,hP,f5,b5⟩:=al_ w4 3 #[.int .i64 ((L1:Int)+1)];have hb5:=b5.cell 0;simp at hb5;obtain⟨iI,hiI,hzI,hsI,hbI⟩:=info_parts QV;have HW5:=hd_ hw5;have HP5:=hd_ hP;have F5:=hd_ f5;have HB5:=hd_ hb5;have R5:=HR.fresh f5;obtain⟨bA,oA,hA,_,_,hcA⟩:=R5.2 HN.1
       have HHA:=hd_ (show ∀b,A=some b->∀j u,(Q7 ws)[j]?=some u->w5.cell? (b.add j)=some u from λb hb j u hu=>by
         rw [hA]at hb;injection hb with hb;subst hb
         rw [Addr.add_lit,hcA j (by have:=(List.getElem?_eq_some_iff.1 hu).1;rw [Qz]at this;have:=HL.out;omega),hu])
       have HNA:=hd_ (show A=none->k=0/\k=0 from λh=>by rw [hA]at h;cases h);(have hlI:(Q7 ws).length=k*1:=by rw [Qz,HL.out];omega);have HLI:=hd_ hlI;clear f5 b5 hw5 hP hb5 R5 hA hcA hlI;go_wp2_with (at_builtin;simp only [<-HP5.out,<-HW5.out];go_must (refine wpList_append_grows _ rfl (.tmp 68) (.tmp 70) _ rfl 3 iI _ 1 8 underlying33 hiI hzI hsI hbI rfl (by decide) A k k (Q7 ws) rfl HNA.out HLI.out HHA.out ⟨P,0,none⟩ 1 1 [.int .i64 ((L1:Int)+1)] rfl rfl (λj u hu=>by cases j with|zero=>simp at hu;subst hu;exact HB5.out|succ j=>simp at hu) (by simp [Value.oneCell']) (by omega) (by simp only [maxLen];have:=HN.2;omega) (by have:=HN.2;omega) ?_));intro v6 w6 ho hg;(have hlen6:k+1=(Q7 ws++[Value.int .i64 ((L1:Int)+1)]).length:=by simp [HL.out]);obtain⟨o6,k6⟩:=Q64 ho hlen6;have F6:=hd_ (F5.grown hg (λk hk _=>by cases hk));(have e6:Q7 ws++[Value.int .i64 ((L1:Int)+1)]=Q7 (ws++[((L1+1:Nat):Int)]):=by simp [Q7]);rw [e6]at o6;obtain⟨W2,hW2⟩:=nm_ (ws++[((L1+1:Nat):Int)]);rw [<-hW2]at o6 HOK HTR;(have hWl:W2.length=k+1:=by rw [hW2];simp [HL.out])
       have hWb:∀x∈W2,0<=x/\x<=20:=by
         intro x hx;rw [hW2]at hx;rcases List.mem_append.1 hx with h|h
         . have:=HAL x h;omega
         rw [List.mem_singleton.1 h];omega
       obtain⟨A6,n6,c6,rfl,hn6⟩:=o6.form';obtain⟨hn7,hc7,hr6⟩:=o6.rd rfl;rw [<-hn7]at hr6;(have hn8:n6=k+1:=by rw [hn7,Qz];exact hWl);have HCO:=hd_ (Q7Z _ A6 n6 c6 W2 1 w6 hr6 (by have:=HN.2;omega));have O6:=hd_ o6;have K6:=hd_ (show ∀b,Value.ownBlock (.slice A6 n6 c6)=some b->w4.heap.size<=b from λb hb=>by have:=k6 b hb;have:=F5.size;omega);have HWL:=hd_ hWl;have HWB:=hd_ hWb;have HN6:=hd_ hn8;clear ho hg hlen6 o6 k6 e6 hW2 hWl hWb hn6 hn7 hc7 hr6 hn8 HNA HHA HLI hiI hzI hsI hbI;by_cases hone:(1:Int)∈W2
       . have hok:=HOK.2 ⟨HCC.1,HCC.2,by first|rfl|trivial,hone⟩
         simp only [if_pos hok]at hR;rw [HTR.1,HTR.2]at hR;rw [decide_eq_true hone]at HCO;clear hok hone HNO HOK HTR;go_wp2_with fail;refine HCO.mono ?_;rintro e w7 ⟨rfl,rfl⟩;go_wp2_with fail;refine(YK _ _ _ (by first|rfl|(simp;done)|(simp;omega))).mono ?_;rintro e w8 ⟨rfl,rfl⟩;go_wp2_with fail;go_loopg [77] n6 (λf vi wr=>∃i,i+f=n6/\vi = .int .i64 (i:Nat)/\Own wr 3 (.slice A6 n6 c6) (Q7 (YT (λx=>if 0<x then(T:Int)+1-x else x) W2 i))/\Q0 w4 wr)
         case atStart=>exact⟨0,by omega,rfl,by simpa [YT]using O6.out,F6.out⟩
         case round =>
           obtain⟨i,hi,rfl,ov,fv⟩:=hrel;have HI:=hd_ hi;have FV:=hd_ fv;by_cases hlt:i<n6
           . have hI:(i:Int)<n6:=by omega
             (have hn6I:(n6:Int)<=256:=by have:=HN6.out;have:=HN.2;omega);(have hil:i<W2.length:=by have:=HWL.out;have:=HN6.out;omega);(have hil2:i<(Q7 (YT (λx=>if 0<x then(T:Int)+1-x else x) W2 i)).length:=by rw [Qz,VN];exact hil);obtain⟨g,rfl,hgs,hcell,hfz,hst⟩:=ov.store hil2
             have hx:(Q7 (YT (λx=>if 0<x then(T:Int)+1-x else x) W2 i))[i] = .int .i64 W2[i]:=by
               have h:=List.getElem?_eq_getElem hil2;rw [show(Q7 (YT (λx=>if 0<x then(T:Int)+1-x else x) W2 i))[i]?=some (.int .i64 W2[i])from by simp only [Q7,List.getElem?_map,Q17 hil];rfl]at h;injection h with h;exact h.symm
             rw [hx]at hcell;have hwb:=HWB _ (List.getElem_mem hil);have HSTEP:=hd_ (Q0e (f:=λx=>if 0<x then(T:Int)+1-x else x) hil);have HKEEP:=hd_ (Q2E (f:=λx=>if 0<x then(T:Int)+1-x else x) hil);have HST:=hd_ hst;have OV:=hd_ ov;have HGK:=hd_ (show w4.heap.size<=g from K6 g rfl);obtain⟨x,hxd⟩:=nm_ (W2[i]);simp only [<-hxd]at hcell hwb HSTEP HKEEP;have hx0:0<=x:=hwb.1;have hx20:x<=20:=hwb.2;have HLT:=hd_ hlt;clear hi fv hlt hil hil2 hx hwb hst ov hxd;by_cases hp:0<x
             . have HE:=hd_ (if_pos hp:(if 0<x then(T:Int)+1-x else x)=(T:Int)+1-x)
               have hxn:IntKind.i64.wrap ((T:Int)+1-x)=(T:Int)+1-x:=IntWalk.i64_in _ (by omega);go_wp2_with fail;go_roundg (gk-1)
               case measure=>have:=HI.out;have:=HLT.out;omega
               case rel =>
                 refine⟨i+1,by have:=HI.out;have:=HLT.out;omega,by go_num,?_,FV.setCell (p:=⟨g,i,none⟩) (λh=>by have:=HGK.out;simp only at h;omega) _⟩;rw [<-HSTEP.out,HE.out];have h:=HST (.int .i64 ((T:Int)+1-x));rw [show(Q7 (YT (λx=>if 0<x then(T:Int)+1-x else x) W2 i)).set i (.int .i64 ((T:Int)+1-x))=Q7 ((YT (λx=>if 0<x then(T:Int)+1-x else x) W2 i).set i ((T:Int)+1-x))from(List.map_set ..).symm]at h;exact h
             have HE:=hd_ (if_neg hp:(if 0<x then(T:Int)+1-x else x)=x);go_wp2_with fail;go_roundg (gk-1)
             case measure=>have:=HI.out;have:=HLT.out;omega
             case rel =>
               refine⟨i+1,by have:=HI.out;have:=HLT.out;omega,by go_num,?_,FV.out⟩;rw [HKEEP.out HE.out];exact OV.out
           (have hin:i=n6:=by omega);subst hin
           have hfin:YT (λx=>if 0<x then(T:Int)+1-x else x) W2 i=W2.map (λx=>if 0<x then(T:Int)+1-x else x):=by
             unfold YT;rw [List.take_of_length_le (by have:=HWL.out;have:=HN6.out;omega),List.drop_of_length_le (by have:=HWL.out;have:=HN6.out;omega),List.append_nil]
           rw [hfin]at ov;have OV:=hd_ ov;clear hi fv hlt ov hfin;go_wp2_with fail;(try go_ret);exact hR _ _ ⟨FV.out,_,rfl,OV.out,K6.out⟩
       have HN2:=hd_ (HNO (λh=>hone (HOK.1 h).2.2.2));rw [decide_eq_false hone]at HCO;clear hone HNO HOK HTR;go_wp2_with fail;refine HCO.mono ?_;rintro e w7 ⟨rfl,rfl⟩;go_wp2_with fail;refine(Yi _ _ _ (by first|rfl|(simp;done)|(simp;omega))).mono ?_;rintro e w8 ⟨rfl,rfl⟩;simp only [Qa];exact⟨rfl,HN2 _ F6.out⟩
     have HN2:=hd_ (HNO (λh=>hcond ⟨(HOK.1 h).1,(HOK.1 h).2.1,(HOK.1 h).2.2.1⟩));clear HNO HOK HTR;by_cases hc1:0<S
     . have hc1I:0<(S:Int):=by omega
       by_cases hc2:T<=11
       . have hc2I:(T:Int)<=11:=by omega
         have hc3:¬(Q:Int)=PL:=λh=>hcond ⟨hc1,hc2,by omega⟩;(have hc3b:((Q:Int) == (PL:Int))=false:=by simpa using hc3);clear hcond hc1 hc2;go_wp2_with fail;refine(Yi _ _ _ (by first|rfl|(simp;done)|(simp;omega))).mono ?_;rintro e w4 ⟨rfl,rfl⟩;simp only [Qa];exact⟨rfl,HN2 _ (Upd.refl _ _)⟩
       (have hc2I:¬(T:Int)<=11:=by omega);clear hcond hc1 hc2;go_wp2_with fail;refine(Yi _ _ _ (by first|rfl|(simp;done)|(simp;omega))).mono ?_;rintro e w4 ⟨rfl,rfl⟩;simp only [Qa];exact⟨rfl,HN2 _ (Upd.refl _ _)⟩
     (have hc1I:¬0<(S:Int):=by omega);clear hcond hc1;go_wp2_with fail;refine(Yi _ _ _ (by first|rfl|(simp;done)|(simp;omega))).mono ?_;rintro e w4 ⟨rfl,rfl⟩;simp only [Qa];exact⟨rfl,HN2 _ (Upd.refl _ _)⟩
 have HNO:=hd_ (λw' (hf:Q0 w w')=>hR (Qa 12) w' ⟨hf,by rw [if_neg (λh=>h0 ⟨by have:=h.1;omega,by have:=h.2.1;omega⟩)]⟩);by_cases h1:0<n
 . have h1I:0<(n:Int):=by omega
   (have h2I:¬(n:Int)<256:=by omega);clear h0 h1 hr hn hc hL;go_wp2_with fail;refine(Yi _ _ _ (by first|rfl|(simp;done)|(simp;omega))).mono ?_;rintro e w4 ⟨rfl,rfl⟩;simp only [Qa];exact⟨rfl,HNO _ (Upd.refl _ _)⟩
 (have h1I:¬0<(n:Int):=by omega);clear h0 h1 hr hn hc hL;go_wp2_with fail;refine(Yi _ _ _ (by first|rfl|(simp;done)|(simp;omega))).mono ?_;rintro e w4 ⟨rfl,rfl⟩;simp only [Qa];exact⟨rfl,HNO _ (Upd.refl _ _)⟩
def Q22 (F:Nat->Prop) (g:Nat) (bs:List Nat) (at_:Nat) (w:World) (e:Ending) (w':World):Prop :=
  Upd (λb=>b=g) w w'/\match Y2 (bs.drop at_)with
    | .inl er=>e = .returned (.tuple #[.agg #[.int .i64 0,.bool false,.int .i64 0],.int .i64 er])
    | .inr (k,f,s,u)=>e = .returned (.tuple #[.agg #[.int .i64 k,.bool f,.int .i64 s],.int .i64 0])/\Q4 w' F g bs (at_+u)
theorem Q80 (F:Nat->Prop) (g:Nat) (bs:List Nat) (at_:Nat) (w:World) (hcu:Q4 w F g bs at_) (hF:∀b,F b->b≠g) :
   Calls prog 27 #[.pointer (some ⟨g,0,none⟩)] w (Q22 F g bs at_ w):=by
 have hmf:∀(fn:Fn) (first cap:Array Value) (w:World),(Instr.makeFunc fn first cap).run prog w = .ok (.func fn first cap) w:=λ_ _ _ _=>rfl;obtain⟨w0,H,hw0,hH,f0,bo,be⟩:=Jw w 41 #[.int .i64 0,.bool false,.int .i64 0] 24 #[.int .i64 0];obtain⟨w1,hw1⟩:=nm_ (w0.alloc (.cells #[.pointer (some ⟨g,0,none⟩),.slice none 0 0] 101));(have f1:Q0 w0 w1:=by rw [hw1];exact(Upd.refl _ _).alloc _);(have hs0:w0.heap.size=H+2:=by rw [hw0];simp [hH]);(have br:Blk w1 (H+2) 101 #[.pointer (some ⟨g,0,none⟩),.slice none 0 0]:=by rw [hw1];exact Qb hs0.symm _ _);(have hgH:g<H:=by rw [hH];exact hcu.lt);have HHD:=hd_ (Vu (λb=>F b/\b<w.heap.size) g (H+2) (.slice none 0 0) bs at_ w1 ((hcu.both.fresh f0).fresh f1) (λb h=>hF b h.1) br (by omega));unfold YP at HHD;unfold Q22;obtain⟨O,hO⟩:=nm_ (Y2 (bs.drop at_));rw [<-hO]at HHD|-;have BO:=hd_ (bo.fresh f1);have BE:=hd_ (be.fresh f1);have F0:=hd_ (f0.trans' f1);have HG:=hd_ hgH;have HW:=hd_ hw0;have HW1:=hd_ hw1;have HH:=hd_ hH;have HS0:=hd_ hs0;(have hsz:(w.alloc (.cells #[.int .i64 0,.bool false,.int .i64 0] 41)).heap.size=H+1:=by simp [hH]);clear hw0 hw1 hH f0 f1 bo be br hcu hF hgH hs0 hO;refine Q8 λR hR=>?_;go_enter_defers func27,ntmps27;go_upto_region 1 with fail;simp only [hsz,<-HH.out,<-HW.out];clear hsz
 cases O with
 | inl er =>
   go_wp2_with fail;simp only [HS0.out,<-HW1.out];refine HHD.mono ?_;rintro e w2 ⟨u2,rfl,her⟩;have bo2:=BO.upd u2 (by have:=HG.out;omega);have be2:=BE.upd u2 (by have:=HG.out;omega);have F2:=hd_ ((F0.mono (T:=λb=>b=g) (λ_ _ h=>h.elim)).trans' u2);clear her HHD u2;simp only [Qa];change Leaves _ _ _ _ _ _ _;refine leaves_cons (f:=41) (args:=#[.pointer (some ⟨H+1,0,none⟩),.func (.func 64) #[] #[.pointer (some ⟨H,0,none⟩)]]) (by simp) (by simp [go_sem]) ?_;refine(Yo 64 #[.pointer (some ⟨H,0,none⟩)] (λb=>b=H) (λW=>Blk W H 41 #[.int .i64 0,.bool false,.int .i64 0]) (H+1) er _ w2 be2 (by omega) (λ_ _=>rfl) (Q73 H _ _ _ w2 bo2)).mono ?_;rintro e u' w'' ⟨rfl,rfl,w3,u3,b3,rfl⟩;have e3:=(be2.upd u3 (by omega)).set_ 0 (.int .i64 er);have b4:=b3.far (p:=⟨H+1,0,none⟩) (by simp) (.int .i64 er);have d0:=b4.cell 0;have d1:=b4.cell 1;have d2:=b4.cell 2;have d3:=e3.cell 0;simp at d0 d1 d2 d3;show Leaves _ _ _ _ [] .returning _;refine⟨.tuple #[.agg #[.int .i64 0,.bool false,.int .i64 0],.int .i64 er],?_,hR _ _ ⟨F2.trans (u3.mono (T:=λb=>b=H\/b=H+1) (λ_ _ h=>.inl h) |>.setCell (p:=⟨H+1,0,none⟩) (λ_=>.inr rfl) _) (λb hb e=>by have:=HH.out;omega),rfl⟩⟩;simp [results,results27,go_sem,d0,d1,d2,d3]
 | inr O =>
   obtain⟨k,f,s,u⟩:=O;go_wp2_with fail;simp only [HS0.out,<-HW1.out];refine HHD.mono ?_;rintro e w2 ⟨u2,rfl,k2⟩;have bo2:=BO.upd u2 (by have:=HG.out;omega);have be2:=BE.upd u2 (by have:=HG.out;omega);have c0:=bo2.cell 0;have c1:=bo2.cell 1;have c2:=bo2.cell 2;have z0:=bo2.frozen 0;have z1:=bo2.frozen 1;have z2:=bo2.frozen 2;have c3:=be2.cell 0;have z3:=be2.frozen 0;simp at c0 c1 c2 c3;have F2:=hd_ ((F0.mono (T:=λb=>b=g) (λ_ _ h=>h.elim)).trans' u2);have K2:=hd_ k2;have BO2:=hd_ bo2;have BE2:=hd_ be2;clear HHD u2 k2 bo2 be2;go_wp2_with fail;change Leaves _ _ _ _ _ _ _;refine leaves_cons (f:=41) (args:=#[.pointer (some ⟨H+1,0,none⟩),.func (.func 64) #[] #[.pointer (some ⟨H,0,none⟩)]]) (by simp) (by simp [go_sem]) ?_;refine(Jp _ _ _).mono ?_;rintro e u' w'' ⟨rfl,rfl,rfl⟩;have b3:=(((BO2.set_ 0 (.int .i64 k)).set_ 1 (.bool f)).set_ 2 (.int .i64 s)).far (p:=⟨H+1,0,none⟩) (by simp) (.int .i64 0);have e3:=(((BE2.far (p:=⟨H,0,none⟩) (by simp) (.int .i64 k)).far (p:=⟨H,1,none⟩) (by simp) (.bool f)).far (p:=⟨H,2,none⟩) (by simp) (.int .i64 s)).set_ 0 (.int .i64 0);have d0:=b3.cell 0;have d1:=b3.cell 1;have d2:=b3.cell 2;have d3:=e3.cell 0;simp at d0 d1 d2 d3;have us:Upd (λb=>b=H\/b=H+1) w2 ((((w2.setCell ⟨H,0,none⟩ (.int .i64 k)).setCell ⟨H,1,none⟩ (.bool f)).setCell ⟨H,2,none⟩ (.int .i64 s)).setCell ⟨H+1,0,none⟩ (.int .i64 0)):=((((Upd.refl (λb=>b=H\/b=H+1) w2).setCell (p:=⟨H,0,none⟩) (λ_=>.inl rfl) _).setCell (p:=⟨H,1,none⟩) (λ_=>.inl rfl) _).setCell (p:=⟨H,2,none⟩) (λ_=>.inl rfl) _).setCell (p:=⟨H+1,0,none⟩) (λ_=>.inr rfl) _;refine⟨.tuple #[.agg #[.int .i64 k,.bool f,.int .i64 s],.int .i64 0],?_,hR _ _ ⟨F2.trans us (λb hb e=>by have:=HH.out;omega),rfl,(K2.upd us (by have:=HG.out;omega) (λb hb hF' e=>by have:=hF'.2;have:=HH.out;omega)).mono (λ_ h=>h.1)⟩⟩;simp [results,results27,go_sem,d0,d1,d2,d3]
end Go.Proofs.YtckjdhaflokcgaaGreat
