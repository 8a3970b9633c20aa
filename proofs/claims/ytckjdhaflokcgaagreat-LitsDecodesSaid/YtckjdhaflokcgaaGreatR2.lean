/- Contracts and plain lemmas, part 2. Conditions: none beyond those of each. -/
import Derived.Test.YtckjdhaflokcgaaGreatR1
import Derived.Laws.EntriesVeiled
set_option maxHeartbeats 4000000
set_option linter.unusedVariables false
set_option linter.unusedSimpArgs false
set_option linter.unnecessarySimpa false
set_option maxRecDepth 100000
namespace Go.Proofs.YtckjdhaflokcgaaGreat
open Go.RowKit Go.Proofs.Tryz
theorem Q5h (x y q k:Nat) (hx:x<2^q) (hy:y<2^k) (h:q+k<=64) :
   bits .or .u64 (x:Int) (IntKind.u64.wrap ((y:Int)*2^q))=((x+y*2^q:Nat):Int):=by
 have h1:y*2^q<2^k*2^q:=Nat.mul_lt_mul_of_pos_right hy (Nat.two_pow_pos q);(have h2:2^k*2^q<=2^64:=by rw [<-Nat.pow_add];exact Nat.pow_le_pow_right (by omega) (by omega));have h3:2^q<=2^64:=Nat.pow_le_pow_right (by omega) (by omega);rw [IntKind.wrap_u64,show((y:Int)*2^q)=((y*2^q:Nat):Int) by simp,show((y*2^q:Nat):Int)%18446744073709551616=((y*2^q:Nat):Int) by omega];rw [u64_or_nat _ _ (by omega) (by omega),Nat.or_comm,nat_join q _ _ (by simp) hx,Nat.add_comm]
theorem Q9i (b s k:Nat) (hb:b<256) (hk:k<=8) :
   bits .and .u64 ((b:Int) / 2^s) (IntKind.u64.wrap (IntKind.u64.wrap (2^k)-1))=((b / 2^s%2^k:Nat):Int):=by
 have h1:2^k<=2^8:=Nat.pow_le_pow_right (by omega) hk;have h3:=Nat.two_pow_pos k
 have e1:IntKind.u64.wrap (IntKind.u64.wrap (2^k)-1)=((2^k-1:Nat):Int):=by
   rw [IntKind.wrap_u64,IntKind.wrap_u64,show(2:Int)^k=((2^k:Nat):Int) by simp];omega
 have h4:b / 2^s<=b:=Nat.div_le_self _ _;rw [e1,show(b:Int) / 2^s=((b / 2^s:Nat):Int) by simp,u64_and_nat _ _ (by omega) (by omega),Nat.and_two_pow_sub_one_eq_mod]
theorem Q60 (F:Nat->Prop) (pa pq pn pv pr g:Nat) (A:Option Addr) (m c:Nat) (bs:List Nat) (a q n x:Nat) (w:World)
   (ca:w.cell? ⟨pa,0,none⟩=some (.int .i64 a)) (cq:w.cell? ⟨pq,0,none⟩=some (.int .i64 q)) (cn:w.cell? ⟨pn,0,none⟩=some (.int .i64 n)) (cv:w.cell? ⟨pv,0,none⟩=some (.int .u64 x))
   (cr:w.cell? ⟨pr,0,none⟩=some (.pointer (some ⟨g,0,none⟩))) (cg:w.cell? ⟨g,0,none⟩=some (.slice A m c)) (hr:Rd w F A m (bs.map λb=>.int .u8 (b:Nat))) (hb:∀b∈bs,b<256)
   (fq:w.frozen? ⟨pq,0,none⟩=false) (fv:w.frozen? ⟨pv,0,none⟩=false) (hqv:pq≠pv) (hnv:pn≠pv) (hav:pa≠pv) (hrv:pr≠pv)
   (hq:q<n) (hn:n<=64) (han:a+n<=8*m) (hm:m<=2^32) (hx:x<2^q) :
   Calls prog 314 #[.pointer (some ⟨pa,0,none⟩),.pointer (some ⟨pq,0,none⟩),.pointer (some ⟨pn,0,none⟩),.pointer (some ⟨pv,0,none⟩),.pointer (some ⟨pr,0,none⟩)] w
     λe w'=>e = .returned (.tuple #[]) /\
       ((w.setCell ⟨pv,0,none⟩ (.int .u64 (x+Qj bs / 2^(a+q)%2^(min (8-(a+q)%8) (n-q))*2^q:Nat))).setCell ⟨pq,0,none⟩ (.int .i64 (q+min (8-(a+q)%8) (n-q):Nat))).drew=w':=by
 (have hbl:bs.length=m:=by have:=hr.1;simpa using this);(have hj:(a+q) / 8<m:=by omega);obtain⟨b,o,rfl,_,hbs,hc⟩:=hr.at_ hj;(have hjb:(a+q) / 8<bs.length:=by omega);have hbyte:=Q6Z bs hb _ hjb;have hlt:=hb _ (List.getElem_mem hjb);(have hc':w.cell? ⟨b,o+(a+q) / 8,none⟩=some (.int .u8 (bs[(a+q) / 8]:Nat)):=by rw [hc];simp [hjb]);generalize bs[(a+q) / 8]=y at *;obtain⟨s,hs⟩:=nm_ ((a+q)%8);obtain⟨k,hk⟩:=nm_ (min (8-(a+q)%8) (n-q));rw [<-hk];(have hk8:s+k<=8:=by omega);(have hkn:q+k<=n:=by omega)
 have hval:y / 2^s%2^k=Qj bs / 2^(a+q)%2^k:=by
   rw [<-hbyte,Q70 _ _ _ _ hk8,show 8*((a+q) / 8)+s=a+q by omega]
 have e1:=Q9i y s k hlt (by omega);have e2:=Q5h x (y / 2^s%2^k) q k hx (Nat.mod_lt _ (Nat.two_pow_pos k)) (by omega);(have hi1:((a:Int)+q)%8=(s:Int):=by omega);(have hi2:((8-(s:Int)=k)/\(k:Int)<=n-q)\/((n:Int)-q=k/\(k:Int)<8-s):=by omega);have hi3:IntKind.i64.wrap ((a:Int)+q)=a+q:=IntWalk.i64_in _ (by omega);(have hi5:((a:Int)+q).tdiv 8=(((a+q) / 8:Nat):Int):=by rw [Int.tdiv_eq_ediv_of_nonneg (by omega)];omega);have hi6:IntKind.i64.wrap (((a+q) / 8:Nat):Int)=(((a+q) / 8:Nat):Int):=IntWalk.i64_in _ (by omega);(have hi4:(((a+q) / 8:Nat):Int)<m:=by omega);(have hi7:IntKind.u64.wrap (y:Int)=y:=by rw [IntKind.wrap_u64];omega);obtain⟨j,hjd⟩:=nm_ ((a+q) / 8);rw [<-hjd]at hc' hi4 hi5 hi6;rw [<-hval];(have hs0:s<=7:=by omega);clear hr hbyte hval hc hjb hj hb hjd;have E1:=hd_ e1;have E2:=hd_ e2;have HX:=hd_ hx;(have hm':(m:Int)<=4294967296:=by omega);clear e1 e2 hx hs hk hm hbl;refine Q8 λR hR=>?_;rcases hi2 with ⟨r1,hi2⟩|⟨r1,hi2⟩
 all_goals
   go_enter func314,ntmps314;go_wp2_with fail;go_still_tail 21,(by kernel_rfl);change wpList _ _ _ _ _ w.drew;rw [E1.out,E2.out];go_wp2;(try go_end0);refine hR.out _ _ ⟨rfl,?_⟩;simp
def Jv (w:World) (F:Nat->Prop) (g:Nat) (bs:List Nat) (fr:Nat):Prop :=
  ∃(A:Option Addr) (c:Nat),Blk w g 350 #[.slice A bs.length c,.int .i64 fr,.int .i64 (8*bs.length:Nat)]/\Rd w F A bs.length (bs.map λb=>.int .u8 (b:Nat)) /\
    (∀b∈bs,b<256)/\fr<=8*bs.length/\bs.length<=2^32
theorem VC (F:Nat->Prop) (g:Nat) (A:Option Addr) (m c:Nat) (bs:List Nat) (a n:Nat) (w:World)
   (cg:w.cell? ⟨g,0,none⟩=some (.slice A m c)) (hr:Rd w F A m (bs.map λb=>.int .u8 (b:Nat))) (hb:∀b∈bs,b<256) (hn:n<=64) (han:a+n<=8*m) (hm:m<=2^32) :
   Calls prog 302 #[.pointer (some ⟨g,0,none⟩),.int .i64 a,.int .i64 n] w λe w'=>e = .returned (.int .u64 (Qj bs / 2^a%2^n:Nat))/\Q0 w w':=by
 have hg:=World.block_lt_of_cell? _ _ cg;(have hnI:(n:Int)<=64:=by omega);(have haI:(a:Int)<=34359738368:=by omega);have HB:=hd_ hb;have HR:=hd_ hr;have HG:=hd_ cg;clear hr cg hb;refine Q8 λR hR=>?_;go_enter func302,ntmps302;go_wp2_with fail;obtain⟨H,hH⟩:=nm_ (w.heap.size);have HH:=hd_ hH;rw [<-hH]at hg;simp only [<-hH]
 go_loopg [] n (λm' wr=>∃q:Nat,q+m'<=n/\n<=q+m'/\Blk wr H 365 #[.pointer (some ⟨g,0,none⟩)]/\Blk wr (H+1) 3 #[.int .i64 a]/\Blk wr (H+1+1) 3 #[.int .i64 n] /\
   Blk wr (H+1+1+1) 80 #[.int .u64 (Qj bs / 2^a%2^q:Nat)]/\Blk wr (H+1+1+1+1) 3 #[.int .i64 q]/\Q0 w wr)
 case atStart =>
   refine⟨0,by omega,by omega,?_,?_,?_,?_,?_,(((((Upd.refl _ w).alloc _).alloc _).alloc _).alloc _).alloc _⟩
   . exact((((Qb hH _ _).alloc _).alloc _).alloc _).alloc _
   . exact(((Qb (by simp [hH]) _ _).alloc _).alloc _).alloc _
   . exact((Qb (by simp [hH]) _ _).alloc _).alloc _
   . simp only [Nat.pow_zero,Nat.mod_one]
     exact(Qb (by simp [hH]) _ _).alloc _
   exact Qb (by simp [hH]) _ _
 case round =>
   obtain⟨q,hq1,hq2,b0,b1,b2,b3,b4,hf⟩:=hrel;have hc2:=b2.cell0;have hc4:=b4.cell0;have hc3:=b3.cell0;have hf3:=b3.frozen 0;have HF:=hd_ hf;by_cases hlt:q<n
   . have hk:=Q60 F (H+1) (H+1+1+1+1) (H+1+1) (H+1+1+1) H g A m c bs a q n (Qj bs / 2^a%2^q) wr b1.cell0 hc4 hc2 hc3 b0.cell0
       (by rw [hf.cells g 0 (by omega)];exact HG.out) (HR.fresh hf) HB.out (b4.frozen 0) hf3 (by omega) (by omega) (by omega) (by omega) hlt hn han hm (Nat.mod_lt _ (Nat.two_pow_pos q))
     rw [Nat.pow_add,<-Nat.div_div_eq_div_mul]at hk;obtain⟨k,hkd⟩:=nm_ (min (8-(a+q)%8) (n-q));rw [<-hkd,<-Q4o]at hk;(have hk1:1<=k/\k<=n-q:=by omega);have HK:=hd_ hk;have B0:=hd_ b0;have B1:=hd_ b1;have B2:=hd_ b2;have B3:=hd_ b3;have B4:=hd_ b4;clear b0 b1 b2 b3 b4 hk hkd hf hH;go_wp2_with fail;refine HK.mono ?_;rintro e w1 ⟨rfl,hw1⟩;(have c0:Blk w1 H 365 #[.pointer (some ⟨g,0,none⟩)]:=by subst hw1;exact((B0.far (p:=⟨_,_,_⟩) (by simp<;>omega) _).far (p:=⟨_,_,_⟩) (by simp<;>omega) _).drew);(have c1:Blk w1 (H+1) 3 #[.int .i64 a]:=by subst hw1;exact((B1.far (p:=⟨_,_,_⟩) (by simp<;>omega) _).far (p:=⟨_,_,_⟩) (by simp<;>omega) _).drew);(have c2:Blk w1 (H+1+1) 3 #[.int .i64 n]:=by subst hw1;exact((B2.far (p:=⟨_,_,_⟩) (by simp) _).far (p:=⟨_,_,_⟩) (by simp<;>omega) _).drew);(have c3:Blk w1 (H+1+1+1) 80 #[.int .u64 (Qj bs / 2^a%2^(q+k):Nat)]:=by subst hw1;exact((B3.set_ 0 _).far (p:=⟨_,_,_⟩) (by simp) _).drew);(have c4:Blk w1 (H+1+1+1+1) 3 #[.int .i64 (q+k:Nat)]:=by subst hw1;exact((B4.far (p:=⟨_,_,_⟩) (by simp) _).set_ 0 _).drew)
     have f1:Q0 w w1:=by
       subst hw1;have:=HH.out;exact((HF.setCell (p:=⟨_,_,_⟩) (λh=>by simp at h;omega) _).setCell (p:=⟨_,_,_⟩) (λh=>by simp at h;omega) _).drew
     clear hw1 B0 B1 B2 B3 B4 HF hc2 hc4 hc3 hf3;have HC:=hd_ (show _/\_/\_/\_/\_/\_ from⟨c0,c1,c2,c3,c4,f1⟩);clear c0 c1 c2 c3 c4 f1;go_wp2;go_roundg (gk-k)
     case measure=>omega
     case rel=>exact⟨q+k,by omega,by omega,HC.out⟩
   (obtain rfl:q=n:=by omega);clear b0 b1 b2 b4 hf hH;have HC3:=hd_ b3;clear b3;go_wp2;refine bodyPost_ret (v:=.int .u64 (Qj bs / 2^a%2^q:Nat)) ?_ rfl (hR _ _ ⟨rfl,HF.setCell (p:=⟨_,_,_⟩) (λh=>by have:=HH.out;simp at h;omega) _⟩);have hcc:=(HC3.set_ 0 (.int .u64 (Qj bs / 2^a%2^q:Nat))).cell0;simp at hcc;simp [results,results302,go_sem,hcc]
theorem Xq (g:Nat) (fr to_:Nat) (w:World) (c1:w.cell? ⟨g,1,none⟩=some (.int .i64 fr)) (c2:w.cell? ⟨g,2,none⟩=some (.int .i64 to_)) (h:fr<=to_) (h':to_<=2^40) :
   Calls prog 282 #[.pointer (some ⟨g,0,none⟩)] w λe w'=>e = .returned (.int .i64 (to_-fr:Nat))/\∃k,w'=w.drewN k:=by
 (have h1:(to_:Int)<=1099511627776:=by omega);(have e1:((to_-fr:Nat):Int)=to_-fr:=by omega);have E1:=hd_ e1;clear e1 h';refine Q8 λR hR=>?_;go_enter func282,ntmps282;go_wp2;go_quiet (fail);go_wp2;(try go_ret);exact hR _ _ ⟨J6 (by rw [E1.out]),_,rfl⟩
theorem Q7T (g:Nat) (fr to_ n:Nat) (sh:Int) (w:World) (c1:w.cell? ⟨g,1,none⟩=some (.int .i64 fr)) (c2:w.cell? ⟨g,2,none⟩=some (.int .i64 to_)) (h':to_<=2^40) (hn:n<=64)
   (h:fr+n<=to_) :
   Calls prog 316 #[.pointer (some ⟨g,0,none⟩),.int .i64 n,.int .i64 sh] w λe w'=>e = .returned (.int .i64 0)/\∃k,w'=w.drewN k:=by
 have hk:=Xq g fr to_ w c1 c2 (by omega) h';have HK:=hd_ hk;(have h1:(to_:Int)<=1099511627776:=by omega);(have h2:(n:Int)<=((to_-fr:Nat):Int):=by omega);clear hk h';generalize to_-fr=d at *;refine Q8 λR hR=>?_;go_enter func316,ntmps316;go_wp2_with (go_at_call 282;refine HK.mono ?_;rintro e w' ⟨rfl,k,rfl⟩);(try go_ret);exact hR _ _ ⟨rfl,_,rfl⟩
theorem Q2A (g:Nat) (fr to_ n:Nat) (sh:Int) (w:World) (c1:w.cell? ⟨g,1,none⟩=some (.int .i64 fr)) (c2:w.cell? ⟨g,2,none⟩=some (.int .i64 to_)) (h':to_<=2^40) (hn:n<=64) (hf:fr<=to_)
   (h:to_<fr+n) :
   Calls prog 316 #[.pointer (some ⟨g,0,none⟩),.int .i64 n,.int .i64 sh] w λe w'=>e = .returned (.int .i64 sh)/\∃k,w'=w.drewN k:=by
 have hk:=Xq g fr to_ w c1 c2 (by omega) h';have HK:=hd_ hk;(have h1:(to_:Int)<=1099511627776:=by omega);(have h2:((to_-fr:Nat):Int)<(n:Int):=by omega);clear hk h';generalize to_-fr=d at *;refine Q8 λR hR=>?_;go_enter func316,ntmps316;go_wp2_with (go_at_call 282;refine HK.mono ?_;rintro e w' ⟨rfl,k,rfl⟩);(try go_ret);exact hR _ _ ⟨rfl,_,rfl⟩
theorem Jv.upd {w w':World} {F S:Nat->Prop} {g:Nat} {bs:List Nat} {fr:Nat} (h:Jv w F g bs fr) (hu:Upd S w w') (hg:¬S g) (hF:∀b,F b->¬S b):Jv w' F g bs fr:=by
 obtain⟨A,c,hb,hr,r⟩:=h;exact⟨A,c,hb.upd hu hg,hr.upd hu (λb _ hb=>hF b hb),r⟩
theorem Jv.fresh {w w':World} {F:Nat->Prop} {g:Nat} {bs:List Nat} {fr:Nat} (h:Jv w F g bs fr) (hu:Q0 w w'):Jv w' F g bs fr:=h.upd hu (λh=>h) (λ_ _ h=>h)
theorem Qap (F:Nat->Prop) (g:Nat) (bs:List Nat) (fr n:Nat) (w:World) (hf:Jv w F g bs fr) (hn:n<=64) (h:fr+n<=8*bs.length) (hFg:∀b,F b->b≠g) :
   Calls prog 313 #[.pointer (some ⟨g,0,none⟩),.int .i64 n] w λe w'=>e = .returned (.tuple #[.int .u64 (Qj bs / 2^fr%2^n:Nat),.int .i64 0]) /\
     Upd (λb=>b=g) w w'/\Jv w' F g bs (fr+n):=by
 obtain⟨A,c,hb,hr,hlt,hfr,hlen⟩:=hf;have hc0:=hb.cell 0;have hc1:=hb.cell 1;have hc2:=hb.cell 2;have hfz:=hb.frozen 1;simp at hc0 hc1 hc2;have hm:=Q7T g fr (8*bs.length) n 3 w hc1 (by simpa using hc2) (by omega) hn h;have HM:=hd_ hm;have HB:=hd_ hb;have hv:=λW hW0 hW1=>VC F g A bs.length c bs fr n W hW0 hW1 hlt hn h hlen;have HV:=hd_ hv;clear hm hb hv hc2;(have i1:(fr:Int)<=34359738368:=by omega);(have i2:(n:Int)<=64:=by omega);generalize Qj bs / 2^fr%2^n=V at *;refine Q8 λR hR=>?_;go_enter func313,ntmps313;go_wp2_with (go_at_call 316;refine HM.mono ?_;rintro e w' ⟨rfl,k,rfl⟩);(have hs:IntKind.i64.wrap ((fr:Int)+n-n)=fr:=by rw [show(fr:Int)+n-n=fr by omega];exact IntWalk.i64_in _ (by omega));(have hs2:(fr:Int)+n-n=fr:=by omega);have b2:Blk ((w.drewN k).setCell ⟨g,1,none⟩ (.int .i64 ((fr:Int)+n))) g 350 #[.slice A bs.length c,.int .i64 ((fr:Int)+n),.int .i64 (8*bs.length:Nat)]:=(HB.drewN k).set_ 1 _;have u2:Upd (λb=>b=g) w ((w.drewN k).setCell ⟨g,1,none⟩ (.int .i64 ((fr:Int)+n))):=((Upd.refl (λb=>b=g) w).drewN k).setCell (p:=⟨g,1,none⟩) (λ_=>rfl) _;have hc1':=b2.cell 1;simp only [List.getElem?_toArray,List.getElem?_cons_succ,List.getElem?_cons_zero]at hc1';generalize (w.drewN k).setCell ⟨g,1,none⟩ (.int .i64 ((fr:Int)+n))=W at *;go_still_tail 11,(by kernel_rfl);change wpList _ _ _ _ _ W.drew;have hc0:=b2.cell 0;simp only [List.getElem?_toArray,List.getElem?_cons_zero]at hc0;have hrW:=hr.upd u2 (λb _ hb e=>hFg b hb e);go_wp2_with fail;refine(HV W.drew hc0 hrW).mono ?_;rintro e w1 ⟨rfl,f1⟩;go_wp2;(try go_ret2);refine hR.out _ _ ⟨rfl,u2.drew.trans f1 (λ_ _ h=>h.elim),A,c,?_,hrW.drew.fresh f1,hlt,h,hlen⟩;have:=b2.drew.fresh f1;simpa using this
theorem Q5R (F:Nat->Prop) (g:Nat) (bs:List Nat) (fr n:Nat) (w:World) (hf:Jv w F g bs fr) (hn:n<=64) (h:8*bs.length<fr+n) :
   Calls prog 313 #[.pointer (some ⟨g,0,none⟩),.int .i64 n] w λe w'=>e = .returned (.tuple #[.int .u64 0,.int .i64 3])/\Q0 w w':=by
 obtain⟨A,c,hb,hr,hlt,hfr,hlen⟩:=hf;have hc1:=hb.cell 1;have hc2:=hb.cell 2;simp at hc1 hc2;have hm:=Q2A g fr (8*bs.length) n 3 w hc1 (by simpa using hc2) (by omega) hn hfr h;have HM:=hd_ hm;clear hm hb hc2 hc1;refine Q8 λR hR=>?_;go_enter func313,ntmps313;go_wp2_with (go_at_call 316;refine HM.mono ?_;rintro e w' ⟨rfl,k,rfl⟩);(try go_ret2);exact hR _ _ ⟨rfl,(Upd.refl _ _).drewN k⟩
def JP (fr:Nat):Nat:=(8-fr%8)%8
theorem Q9j (fr:Nat) (h:fr<=2^40):bits .and .i64 (-(fr:Int)) 7=((JP fr:Nat):Int):=by
 have e:(BitVec.ofInt 64 (-(fr:Int)) &&& BitVec.ofInt 64 7).toNat=JP fr:=by
   rw [BitVec.toNat_and,BitVec.toNat_ofInt,BitVec.toNat_ofInt,show((7:Int)%((2^64:Nat):Int)).toNat=7 by decide,nat_mask3];unfold JP;omega
 show IntKind.i64.wrap ((BitVec.ofInt 64 (-(fr:Int)) &&& BitVec.ofInt 64 7).toNat:Int)=_;rw [e,IntKind.wrap_i64];unfold JP;omega
theorem Q7N (F:Nat->Prop) (g:Nat) (bs:List Nat) (fr:Nat) (w:World) (hf:Jv w F g bs fr) (hFg:∀b,F b->b≠g) :
   Calls prog 269 #[.pointer (some ⟨g,0,none⟩)] w λe w' =>
     (Qj bs / 2^fr%2^JP fr=0->e = .returned (.tuple #[.int .i64 ((fr+JP fr) / 8:Nat),.int .i64 0])) /\
     (Qj bs / 2^fr%2^JP fr≠0->e = .returned (.tuple #[.int .i64 0,.int .i64 14]))/\Upd (λb=>b=g) w w':=by
 obtain⟨A,c,hb,hr,hlt,hfr,hlen⟩:=hf;have hc0:=hb.cell 0;have hc1:=hb.cell 1;have hfz:=hb.frozen 1;simp at hc0 hc1;(have hp:JP fr<=7/\fr+JP fr<=8*bs.length/\(fr+JP fr)%8=0:=by unfold JP;omega);have hv:=VC F g A bs.length c bs fr (JP fr) w.drew hc0 hr hlt (by omega) hp.2.1 hlen;have hn7:=Q9j fr (by omega);have HB:=hd_ hb;have HV:=hd_ hv;(have i1:(fr:Int)<=34359738368:=by omega);obtain⟨hp1,hp2,hp3⟩:=hp;(have i2:(JP fr:Int)<=7:=by omega);clear hv hb hp1 hp2;generalize Qj bs / 2^fr%2^JP fr=V at *;generalize JP fr=p at *;refine Q8 λR hR=>?_;go_enter func269,ntmps269;go_wp2_with fail;go_still_tail 9,(by kernel_rfl);change wpList _ _ _ _ _ w.drew;go_wp2_with fail;refine(HV.out).mono ?_;rintro e w1 ⟨rfl,f1⟩;have b1:=HB.drew.fresh f1;have hc1':=b1.cell 1;have hfz':=b1.frozen 1;simp at hc1';have u1:Upd (λb=>b=g) w w1:=((Upd.refl _ w).drew).trans f1 (λ_ _ h=>h.elim);(have hd:((fr:Int)+p) / 8=((fr+p) / 8:Nat):=by omega);have HD:=hd_ hd;clear hd b1;by_cases hV:V=0
 . subst hV
   go_wp2;(try go_ret2);exact hR _ _ ⟨λ_=>by rw [<-HD.out];rfl,λh=>absurd rfl h,u1.setCell (p:=⟨g,1,none⟩) (λ_=>rfl) _⟩
 (have hV':((V:Int) != 0)=true:=by simpa using hV);go_wp2;(try go_ret2);exact hR _ _ ⟨λh=>absurd h hV,λ_=>rfl,u1⟩
theorem Q20 (F:Nat->Prop) (A:Option Addr) (n c:Nat) (bs:List Nat) (w:World) (hr:Rd w F A n (bs.map λb=>.int .u8 (b:Nat))) (hlt:∀b∈bs,b<256) (hlen:bs.length<=2^32) :
   Calls prog 266 #[.slice A n c] w λe w'=>∃g,e = .returned (.pointer (some ⟨g,0,none⟩))/\w.heap.size<=g/\Q0 w w' /\
     Jv w' (λk=>w.heap.size<=k/\k≠g) g bs 0:=by
 (have hn:n=bs.length:=by have:=hr.1;simpa using this.symm);subst hn;have hk:=YA A bs.length c _ w hr (by simp [Value.oneCell']) (by omega);have HK:=hd_ hk;(have hl:(bs.length:Int)<=4294967296:=by omega);clear hk hr;refine Q8 λR hR=>?_;go_enter func266,ntmps266;go_wp2_with fail;refine HK.mono ?_;rintro e w1 ⟨v,rfl,o1,f1,k1⟩;obtain⟨A',n',c',rfl,hn'⟩:=o1.form';have hrd:=(o1.rd rfl).2.2;(have hn2:n'=bs.length:=by simpa using hn'.out);have HN:=hd_ hn2;clear hn2 hn';go_wp2;(try go_ret);have:=HN.out;subst this;refine hR.out _ _ ⟨w1.heap.size,rfl,f1.size,f1.alloc _,A',c',?_,?_,hlt,by omega,hlen⟩
 . have:=Blk.new w1 350 #[.slice A' bs.length c',.int .i64 0,.int .i64 (8*(bs.length:Int))]
   simpa using this
 have h2:=hrd.alloc (.cells #[.slice A' bs.length c',.int .i64 0,.int .i64 (8*(bs.length:Int))] 350);refine⟨by simp,λh=>?_⟩;obtain⟨b,o,hA,hb,hbs,hc⟩:=h2.2 (by simpa using h);exact⟨b,o,hA,⟨k1 b hb,by have:=o1.lt hb;omega⟩,hbs,λj hj=>hc j (by simpa using hj)⟩
def Q4 (w:World) (F:Nat->Prop) (g:Nat) (bs:List Nat) (at_:Nat):Prop :=
  ∃(A:Option Addr) (c:Nat),Blk w g 96 #[.slice A bs.length c,.int .i64 at_]/\Rd w F A bs.length (bs.map λb=>.int .u8 (b:Nat)) /\
    (∀b∈bs,b<256)/\at_<=bs.length/\bs.length<=2^32/\bs.length<=c
theorem Q4.upd {w w':World} {F S:Nat->Prop} {g:Nat} {bs:List Nat} {at_:Nat} (h:Q4 w F g bs at_) (hu:Upd S w w') (hg:¬S g) (hF:∀b,b<w.heap.size->F b->¬S b):Q4 w' F g bs at_:=by
 obtain⟨A,c,hb,hr,r⟩:=h;exact⟨A,c,hb.upd hu hg,hr.upd hu hF,r⟩
theorem Q4.fresh {w w':World} {F:Nat->Prop} {g:Nat} {bs:List Nat} {at_:Nat} (h:Q4 w F g bs at_) (hu:Q0 w w'):Q4 w' F g bs at_:=h.upd hu (λh=>h) (λ_ _ _ h=>h)
theorem Q4.both {w:World} {F:Nat->Prop} {g:Nat} {bs:List Nat} {at_:Nat} (h:Q4 w F g bs at_):Q4 w (λb=>F b/\b<w.heap.size) g bs at_:=by
 obtain⟨A,c,hb,hr,r⟩:=h;exact⟨A,c,hb,hr.both,r⟩
theorem Q4.mono {w:World} {F G:Nat->Prop} {g:Nat} {bs:List Nat} {at_:Nat} (h:Q4 w F g bs at_) (hG:∀b,F b->G b):Q4 w G g bs at_:=by
 obtain⟨A,c,hb,hr,r⟩:=h;exact⟨A,c,hb,hr.mono hG,r⟩
theorem Q4.lt {w:World} {F:Nat->Prop} {g:Nat} {bs:List Nat} {at_:Nat} (h:Q4 w F g bs at_):g<w.heap.size:=by
 obtain⟨A,c,hb,_⟩:=h;exact hb.lt
theorem VY (F:Nat->Prop) (A:Option Addr) (n c:Nat) (bs:List Nat) (w:World) (hr:Rd w F A n (bs.map λb=>.int .u8 (b:Nat))) (hlt:∀b∈bs,b<256) (hlen:bs.length<=2^32) :
   Calls prog 25 #[.slice A n c] w λe w'=>∃g,e = .returned (.pointer (some ⟨g,0,none⟩))/\w.heap.size<=g/\Q0 w w' /\
     Q4 w' (λk=>w.heap.size<=k/\k≠g) g bs 0:=by
 (have hn:n=bs.length:=by have:=hr.1;simpa using this.symm);subst hn;have hk:=YA A bs.length c _ w hr (by simp [Value.oneCell']) (by omega);have HK:=hd_ hk;clear hk hr;refine Q8 λR hR=>?_;go_enter func25,ntmps25;go_wp2_with fail;refine HK.mono ?_;rintro e w1 ⟨v,rfl,o1,f1,k1⟩;obtain⟨A',n',c',rfl,hn'⟩:=o1.form';have hrd:=(o1.rd rfl).2.2;have hcap:=(o1.rd rfl).2.1;have HC:=hd_ hcap;(have hn2:n'=bs.length:=by simpa using hn'.out);have HN:=hd_ hn2;clear hn2 hn' hcap;go_wp2;(try go_ret);have:=HN.out;subst this;refine hR.out _ _ ⟨w1.heap.size,rfl,f1.size,f1.alloc _,A',c',?_,?_,hlt,by omega,hlen,by simpa using HC.out⟩
 . have:=Blk.new w1 96 #[.slice A' bs.length c',.int .i64 0]
   simpa using this
 have h2:=hrd.alloc (.cells #[.slice A' bs.length c',.int .i64 0] 96);refine⟨by simp,λh=>?_⟩;obtain⟨b,o,hA,hb,hbs,hc⟩:=h2.2 (by simpa using h);exact⟨b,o,hA,⟨k1 b hb,by have:=o1.lt hb;omega⟩,hbs,λj hj=>hc j (by simpa using hj)⟩
theorem JG (F:Nat->Prop) (g:Nat) (bs:List Nat) (at_:Nat) (w:World) (hc:Q4 w F g bs at_) :
   Calls prog 39 #[.pointer (some ⟨g,0,none⟩)] w λe w'=>e = .returned (.int .i64 (bs.length-at_:Nat))/\∃k,w'=w.drewN k:=by
 obtain⟨A,c,hb,hr,hlt,hat,hlen,hcap⟩:=hc;obtain⟨hc0,hc1⟩:=(hb).cells2;(have i1:(bs.length:Int)<=4294967296:=by omega);(have e1:((bs.length-at_:Nat):Int)=bs.length-at_:=by omega);have E1:=hd_ e1;clear e1 hb hr;refine Q8 λR hR=>?_;go_enter func39,ntmps39;go_wp2;go_quiet (fail);go_wp2;(try go_ret);exact hR _ _ ⟨J6 (by rw [E1.out]),_,rfl⟩
theorem Q9b (F:Nat->Prop) (g:Nat) (bs:List Nat) (at_ n:Nat) (w:World) (hc:Q4 w F g bs at_) (hn:n<=2^32) :
   Calls prog 267 #[.pointer (some ⟨g,0,none⟩),.int .i64 n] w λe w'=>∃v,e = .returned v/\Own w' 5 v (((bs.drop at_).take n).map λb=>.int .u8 (b:Nat))/\Q0 w w' /\
     ∀k,v.ownBlock=some k->w.heap.size<=k:=by
 have hl:=JG F g bs at_ w hc;obtain⟨A,c,hb,hr,hlt,hat,hlen,hcap⟩:=hc;obtain⟨hc0,hc1⟩:=(hb).cells2;obtain⟨k,hk⟩:=nm_ (min n (bs.length-at_));(have hcase:((n:Int)=k/\(k:Int)<=((bs.length-at_:Nat):Int))\/(((bs.length-at_:Nat):Int)=k/\(k:Int)<n):=by omega);have hcut:=(hr.take (k:=at_+k) (by omega)).cut (k:=at_) (cap:=c) (by omega) (by omega)
 have hdt:((bs.map λb=>Value.int .u8 (b:Nat)).take (at_+k)).drop at_=((bs.drop at_).take n).map λb=>Value.int .u8 (b:Nat):=by
   rw [List.drop_take,<-List.map_drop,<-List.map_take,show at_+k-at_=k by omega,hk]
   congr 1
   by_cases h:n<=bs.length-at_
   . rw [Nat.min_eq_left h]
   rw [Nat.min_eq_right (by omega),List.take_of_length_le (by simp),List.take_of_length_le (by simp;omega)]
 rw [hdt,show at_+k-at_=k by omega]at hcut;(have i1:(bs.length:Int)<=4294967296:=by omega);(have i2:(at_:Int)+k<=bs.length:=by omega);(have i3:(bs.length:Int)<=c:=by omega);have HL:=hd_ hl;have HC:=hd_ hcut
 have hxs1:∀u∈((bs.drop at_).take n).map (λb=>Value.int .u8 (b:Nat)),u.oneCell'=true:=by
   intro u hu;obtain⟨_,_,rfl⟩:=List.mem_map.1 hu;rfl
 generalize ((bs.drop at_).take n).map (λb=>Value.int .u8 (b:Nat))=XS at *;have HB:=hd_ hb;clear hl hcut hdt hk hb hr;generalize bs.length-at_=D at *;have hw1:IntKind.i64.wrap ((at_:Int)+k)=at_+k:=IntWalk.i64_in _ (by omega);refine Q8 λR hR=>?_;(have hkk:((n=k/\k<=D)\/(D=k/\k<n)):=by omega);clear hcase;rcases hkk with ⟨hq,hkd⟩|⟨hq,hkd⟩;(all_goals have hq:=hq.symm);(all_goals subst hq)
 all_goals
   go_enter func267,ntmps267;go_wp2_with fail;refine HL.mono ?_;rintro e W ⟨rfl,kk,hW⟩;(have hb1:Blk W g 96 #[.slice A bs.length c,.int .i64 at_]:=by rw [hW];exact HB.drewN kk);have hc0':=hb1.cell 0;have hc1':=hb1.cell 1;simp only [List.getElem?_toArray,List.getElem?_cons_succ,List.getElem?_cons_zero]at hc0' hc1';(have f1:Q0 w W:=by rw [hW];exact(Upd.refl _ _).drewN kk);clear hW hb1;go_wp2_with fail;(have s1:(0:Int)<=at_:=by omega);(have s2:(at_:Int)<=at_+k:=by omega);(have s3:(at_:Int)+k<=c:=by omega);(have s4:((at_:Int)+k).toNat=at_+k:=by omega);go_still_tail 15,(by kernel_rfl);change wpList _ _ _ _ _ W.drew;go_wp2_with fail
   all_goals
     have hrd:=HC.out
     first
       | rw [if_neg (by omega)]at hrd
       | rw [if_pos (by omega)]at hrd
     refine(YA _ _ _ _ W.drew (hrd.fresh f1).drew hxs1 (by omega)).mono ?_;rintro e w2 ⟨v,rfl,o2,f2,k2⟩;go_wp2;(try go_ret);exact hR _ _ ⟨v,rfl,o2,f1.drew.trans' f2,λb hb=>Nat.le_trans f1.size (k2 b hb)⟩
theorem Q2B {w:World} {F:Nat->Prop} {A:Option Addr} {bs:List Nat} {c at_ k:Nat} (hr:Rd w F A bs.length (bs.map λb=>.int .u8 (b:Nat))) (hk:at_+k<=bs.length) (hc:bs.length<=c) :
   Rd w F (if c=at_ then A else A.map (·.add at_)) k (((bs.drop at_).take k).map λb=>.int .u8 (b:Nat)):=by
 have hcut:=(hr.take (k:=at_+k) hk).cut (k:=at_) (cap:=c) (by omega) (by omega)
 rwa [List.drop_take,<-List.map_drop,<-List.map_take,show at_+k-at_=k by omega]at hcut
theorem X8 (l:List Nat):∀u∈l.map (λb=>Value.int .u8 (b:Nat)),u.oneCell'=true:=by
 intro u hu;obtain⟨_,_,rfl⟩:=List.mem_map.1 hu;rfl
theorem Q7U (F:Nat->Prop) (g pn pc:Nat) (bs:List Nat) (at_ k:Nat) (w:World) (hcu:Q4 w F g bs at_) (hk:at_+k<=bs.length)
   (bn:Blk w pn 3 #[.int .i64 k]) (bc:Blk w pc 46 #[.pointer (some ⟨g,0,none⟩)]) (hF:∀b,F b->b≠g) :
   Calls prog 63 #[.pointer (some ⟨pn,0,none⟩),.pointer (some ⟨pc,0,none⟩)] w λe w'=>∃v,e = .returned (.tuple #[v,.int .i64 0]) /\
     Own w' 5 v (((bs.drop at_).take k).map λb=>.int .u8 (b:Nat))/\Upd (λb=>b=g) w w'/\Q4 w' F g bs (at_+k):=by
 have hl:=λj=>JG F g bs at_ (w.drewN j) hcu;obtain⟨A,c,hb,hr,hlt,hat,hlen,hcap⟩:=hcu;have hn:=bn.cell0;have hc:=bc.cell0;(have i1:(k:Int)<=((bs.length-at_:Nat):Int):=by omega);(have i2:(bs.length:Int)<=4294967296:=by omega);(have i3:(at_:Int)+k<=bs.length:=by omega);have hx1:=X8 ((bs.drop at_).take k);have HL:=hd_ hl;have HB:=hd_ hb;have HR:=hd_ hr;have HBN:=hd_ bn;have HBC:=hd_ bc;clear hl hb hr bn bc;generalize bs.length-at_=D at *;refine Q8 λR hR=>?_;go_enter func63,ntmps63;go_wp2_with fail;go_quiet ((go_at_call 39;exact Calls.quiet_of (HL _)));have f1:Q0 w (w.drewN nq):=(Upd.refl _ _).drewN nq;generalize w.drewN nq=W at *;have b1:=HB.fresh f1;have bn1:=HBN.fresh f1;have bc1:=HBC.fresh f1;have hn1:=bn1.cell0;have hcc1:=bc1.cell0;have hc1':=b1.cell 1;have hf1':=b1.frozen 1;simp only [List.getElem?_toArray,List.getElem?_cons_succ,List.getElem?_cons_zero]at hc1';have B1:=hd_ b1;have BN1:=hd_ bn1;have BC1:=hd_ bc1;clear b1 bn1 bc1;have s0:IntKind.i64.wrap ((at_:Int)+k)=at_+k:=IntWalk.i64_in _ (by omega);go_wp2_with fail;go_still_tail 8,(by kernel_rfl);change wpList _ _ _ _ _ W.drew;go_wp2_with fail;have b2:=(B1.set_ 1 (.int .i64 ((at_:Int)+k))).drew;have u2:Upd (λb=>b=g) w (W.setCell ⟨g,1,none⟩ (.int .i64 ((at_:Int)+k))).drew:=((f1.mono (T:=λb=>b=g) (λ_ _ h=>h.elim)).setCell (p:=⟨g,1,none⟩) (λ_=>rfl) _).drew;have bn2:=(BN1.far (p:=⟨g,1,none⟩) (BN1.ne_ B1.out (by decide)) (.int .i64 ((at_:Int)+k))).drew;have bc2:=(BC1.far (p:=⟨g,1,none⟩) (BC1.ne_ B1.out (by decide)) (.int .i64 ((at_:Int)+k))).drew;generalize (W.setCell ⟨g,1,none⟩ (.int .i64 ((at_:Int)+k))).drew=W2 at *;have hn2:=bn2.cell0;have hcc2:=bc2.cell0;have hc2:=b2.cell 1;have hc20:=b2.cell 0;simp at hc2 hc20;have B2:=hd_ b2;clear b2 bn2 bc2 hn1 hcc1 hc1' hf1';(have s5:(at_:Int)+k-k=at_:=by omega);have s6:IntKind.i64.wrap (at_:Int)=at_:=IntWalk.i64_in _ (by omega);(have s1:(0:Int)<=at_:=by omega);(have s2:(at_:Int)<=at_+k:=by omega);(have s3:(at_:Int)+k<=c:=by omega);(have s4:((at_:Int)+k).toNat=at_+k:=by omega);go_still_tail 15,(by kernel_rfl);change wpList _ _ _ _ _ W2.drew;go_wp2_with fail
 all_goals
   have hrd:=Q2B (c:=c) (HR.upd u2 (λb _ hb e=>hF b hb e)).drew hk hcap
   first
     | rw [if_neg (by omega)]at hrd
     | rw [if_pos (by omega)]at hrd
   refine(YA _ _ _ _ W2.drew hrd hx1 (by omega)).mono ?_;rintro e w3 ⟨v,rfl,o3,f3,k3⟩;go_wp2;(try go_ret2);refine hR.out _ _ ⟨v,rfl,o3,u2.drew.trans f3 (λ_ _ h=>h.elim),A,c,?_,?_,hlt,hk,hlen,hcap⟩
   . have:=B2.drew.fresh f3
     simpa using this
   exact(HR.upd u2 (λb _ hb e=>hF b hb e)).drew.fresh f3
theorem Q1t (pe pf px pc:Addr) (u:FrameMode) (w:World) (he:w.cell? pe=some (.int .i64 0)) :
   CallsD prog 118 #[.pointer (some pe),.pointer (some pf),.pointer (some px),.pointer (some pc)] u w λe u' w'=>u'=u/\(e = .returned (.tuple #[])/\w'=w):=by
 go_enter_d func118,ntmps118;go_wp2;go_end0;exact⟨rfl,rfl⟩
theorem Qar (F:Nat->Prop) (g pn pc:Nat) (bs:List Nat) (at_ k:Nat) (w:World) (hcu:Q4 w F g bs at_) (hk:at_+k<=bs.length)
   (bn:Blk w pn 3 #[.int .i64 k]) (bc:Blk w pc 46 #[.pointer (some ⟨g,0,none⟩)]) (hF:∀b,F b->b≠g) :
   Calls prog 62 #[.pointer (some ⟨g,0,none⟩),.func (.func 63) #[] #[.pointer (some ⟨pn,0,none⟩),.pointer (some ⟨pc,0,none⟩)]] w λe w' =>
     ∃v,e = .returned (.tuple #[v,.int .i64 0]) /\
     Own w' 5 v (((bs.drop at_).take k).map λb=>.int .u8 (b:Nat))/\Upd (λb=>b=g) w w'/\Q4 w' F g bs (at_+k):=by
 have hmf:∀(fn:Fn) (first cap:Array Value) (w:World),(Instr.makeFunc fn first cap).run prog w = .ok (.func fn first cap) w:=λ_ _ _ _=>rfl;have hg:=hcu.lt
 have hat:w.cell? ⟨g,1,none⟩=some (.int .i64 at_):=by
   obtain⟨A,c,hb,_⟩:=hcu;simpa using hb.cell 1
 have HCU:=hd_ hcu;have HBN:=hd_ bn;have HBC:=hd_ bc;clear hcu bn bc;(have hg1:g<w.heap.size+1:=by omega);(have hg2:g<w.heap.size+1+1:=by omega);(have hg3:g<w.heap.size+1+1+1:=by omega);refine Q8 λR hR=>?_;go_enter_defers func62,ntmps62;go_wp2_with fail;obtain⟨H,hH⟩:=nm_ (w.heap.size);rw [<-hH]at hg hg1 hg2 hg3;simp only [<-hH];obtain⟨W0,hW0⟩:=nm_ ((((w.alloc (.cells #[.pointer (some ⟨g,0,none⟩)] 46)).alloc (.cells #[.slice none 0 0] 22)).alloc (.cells #[.int .i64 0] 24)).alloc (.cells #[.int .i64 at_] 3));rw [<-hW0];(have f0:Q0 w W0:=by rw [hW0];exact((((Upd.refl _ w).alloc _).alloc _).alloc _).alloc _);(have k1:Blk W0 (H+1) 22 #[.slice none 0 0]:=by rw [hW0];exact((Qb (by simp [hH]) _ _).alloc _).alloc _);(have k2:Blk W0 (H+1+1) 24 #[.int .i64 0]:=by rw [hW0];exact(Qb (by simp [hH]) _ _).alloc _);clear hW0;have HH:=hd_ hH;clear hH;refine(Q7U (λb=>F b/\b<w.heap.size) g pn pc bs at_ k W0 (HCU.both.fresh f0) hk (HBN.fresh f0) (HBC.fresh f0) (λb hb=>hF b hb.1)).mono ?_;rintro e w1 ⟨v,rfl,o1,u1,c1⟩;obtain⟨A1,n1,c1',rfl,hn1⟩:=o1.form';have j1:=k1.upd u1 (by omega);have j2:=k2.upd u1 (by omega);have uu:Upd (λb=>b=g) w w1:=(f0.mono (λ_ _ h=>h.elim)).trans' u1;have d1:=j1.cell0;have d2:=j2.cell0;have z1:=j1.frozen 0;have z2:=j2.frozen 0;have J1:=hd_ j1;have J2:=hd_ j2;have HO:=hd_ o1;have HC1:=hd_ c1;clear j1 j2 k1 k2 o1 c1 hn1;go_wp2;have L1:=(J1.set_ 0 (.slice A1 n1 c1')).far (p:=⟨H+1+1,0,none⟩) (by simp) (.int .i64 0);have L2:=(J2.far (p:=⟨H+1,0,none⟩) (by simp) (.slice A1 n1 c1')).set_ 0 (.int .i64 0);have hd2:=L2.cell0;have hd1:=L1.cell0;change Leaves _ _ _ _ _ _ _;refine leaves_cons (f:=118) (args:=#[.pointer (some ⟨H+1+1,0,none⟩),.pointer (some ⟨H+1+1+1,0,none⟩),.pointer (some ⟨H+1,0,none⟩),.pointer (some ⟨H,0,none⟩)]) (by simp) (by simp [go_sem]) ?_;refine(Q1t _ _ _ _ .returning _ hd2).mono ?_;rintro e u' w'' ⟨rfl,rfl,rfl⟩;refine⟨.tuple #[.slice A1 n1 c1',.int .i64 0],?_,hR _ _ ⟨_,rfl,?_,?_,?_⟩⟩
 . simp [results,results62,go_sem,hd1,hd2]
 . exact(HO.far (p:=⟨H+1,0,none⟩) (HO.ne_blk J1.out (by decide)) _).far (p:=⟨H+1+1,0,none⟩) (HO.ne_blk J2.out (by decide)) _
 . exact(uu.setCell (p:=⟨H+1,0,none⟩) (λh=>by have:=HH.out;simp at h;omega) _).setCell (p:=⟨H+1+1,0,none⟩) (λh=>by have:=HH.out;simp at h;omega) _
 have m1:=HC1.upd (S:=λb=>b=H+1) ((Upd.refl (λb=>b=H+1) _).setCell (p:=⟨H+1,0,none⟩) (λ_=>rfl) (.slice A1 n1 c1')) (by omega) (λb _ hb e=>by have:=hb.2;have:=HH.out;omega);have m2:=m1.upd (S:=λb=>b=H+1+1) ((Upd.refl (λb=>b=H+1+1) _).setCell (p:=⟨H+1+1,0,none⟩) (λ_=>rfl) (.int .i64 0)) (by omega) (λb _ hb e=>by have:=hb.2;have:=HH.out;omega);exact m2.mono λb hb=>hb.1
theorem Q7O (F:Nat->Prop) (g:Nat) (bs:List Nat) (at_ k:Nat) (w:World) (hcu:Q4 w F g bs at_) (hk:at_+k<=bs.length) (hF:∀b,F b->b≠g) :
   Calls prog 26 #[.pointer (some ⟨g,0,none⟩),.int .i64 k] w λe w'=>∃v,e = .returned (.tuple #[v,.int .i64 0]) /\
     Own w' 5 v (((bs.drop at_).take k).map λb=>.int .u8 (b:Nat))/\Upd (λb=>b=g) w w'/\Q4 w' F g bs (at_+k):=by
 have hmf:∀(fn:Fn) (first cap:Array Value) (w:World),(Instr.makeFunc fn first cap).run prog w = .ok (.func fn first cap) w:=λ_ _ _ _=>rfl;obtain⟨H,hH⟩:=nm_ (w.heap.size)
 have hr:=Qar F g (H+1) H bs at_ k ((w.alloc (.cells #[.pointer (some ⟨g,0,none⟩)] 46)).alloc (.cells #[.int .i64 k] 3)) (hcu.fresh (((Upd.refl _ w).alloc _).alloc _)) hk
   (Qb (by simp [hH]) _ _) ((Qb hH _ _).alloc _) hF
 rw [hH]at hr;have HR:=hd_ hr;clear hr hcu hH H;refine Q8 λR hR=>?_;go_enter func26,ntmps26;go_wp2_with fail;refine HR.mono ?_;rintro e w1 ⟨v,rfl,o1,u1,c1⟩;go_wp2;(try go_ret2);refine hR.out _ _ ⟨v,rfl,o1,?_,c1⟩;exact(((Upd.refl (λb=>b=g) w).alloc _).alloc _).trans' u1
theorem Q9k (F:Nat->Prop) (g pc:Nat) (bs:List Nat) (at_:Nat) (w:World) (hcu:Q4 w F g bs at_) (hk:at_<bs.length)
   (bc:Blk w pc 46 #[.pointer (some ⟨g,0,none⟩)]) (hF:∀b,F b->b≠g) :
   Calls prog 166 #[.pointer (some ⟨pc,0,none⟩)] w λe w'=>e = .returned (.tuple #[.int .u8 ((bs[at_]?.getD 0:Nat):Int),.int .i64 0]) /\
     Upd (λb=>b=g) w w'/\Q4 w' F g bs (at_+1):=by
 have hl:=JG F g bs at_ w hcu;obtain⟨A,c,hb,hr,hlt,hat,hlen,hcap⟩:=hcu;have hc:=bc.cell0;(have i1:((bs.length-at_:Nat):Int)≠0:=by omega);(have i2:(((bs.length-at_:Nat):Int) == 0)=false:=by simpa using i1);(have i4:(bs.length:Int)<=4294967296:=by omega);(have i3:(at_:Int)<bs.length:=by omega);obtain⟨b,o,hA,hb1,hb2,hb3⟩:=hr.at_ hk;obtain⟨x,hx⟩:=nm_ (bs[at_]);(have hx2:bs[at_]?.getD 0=x:=by rw [List.getElem?_eq_getElem hk,hx];rfl);rw [hx2];(have hb4:w.cell? ⟨b,o+at_,none⟩=some (.int .u8 (x:Nat)):=by rw [hb3];simp [hk,hx]);have HL:=hd_ hl;have HB:=hd_ hb;have HR:=hd_ hr;have HBC:=hd_ bc;have HB4:=hd_ hb4;have HF1:=hd_ (hF b hb1);clear hl hb hr bc hb3 hb4 hx hx2;generalize bs.length-at_=D at *;subst hA;refine Q8 λR hR=>?_;go_enter func166,ntmps166;go_wp2_with fail;refine HL.mono ?_;rintro e w1 ⟨rfl,k,rfl⟩;have f1:Q0 w (w.drewN k):=(Upd.refl _ w).drewN k;generalize w.drewN k=W at *;have b1:=HB.fresh f1;have bc1:=HBC.fresh f1;have hcc1:=bc1.cell0;have hc1':=b1.cell 1;have hc0':=b1.cell 0;have hf1':=b1.frozen 1;simp only [List.getElem?_toArray,List.getElem?_cons_succ,List.getElem?_cons_zero]at hc1' hc0';have B1:=hd_ b1;have BC1:=hd_ bc1;clear b1 bc1;have s0:IntKind.i64.wrap ((at_:Int)+1)=at_+1:=IntWalk.i64_in _ (by omega);go_wp2_with fail;have b2:=B1.set_ 1 (.int .i64 ((at_:Int)+1));have u2:Upd (λb=>b=g) w (W.setCell ⟨g,1,none⟩ (.int .i64 ((at_:Int)+1))):=((f1.mono (T:=λb=>b=g) (λ_ _ h=>h.elim)).setCell (p:=⟨g,1,none⟩) (λ_=>rfl) _);have bc2:=BC1.far (p:=⟨g,1,none⟩) (BC1.ne_ B1.out (by decide)) (.int .i64 ((at_:Int)+1))
 have x2:(W.setCell ⟨g,1,none⟩ (.int .i64 ((at_:Int)+1))).cell? ⟨b,o+at_,none⟩=some (.int .u8 (x:Nat)):=by
   rw [<-HB4.out];exact u2.cell (p:=⟨b,o+at_,none⟩) hb2 HF1.out
 generalize (W.setCell ⟨g,1,none⟩ (.int .i64 ((at_:Int)+1)))=W2 at *;have hcc2:=bc2.cell0;have hc2:=b2.cell 1;have hc20:=b2.cell 0;simp at hc2 hc20;have B2:=hd_ b2;clear b2 bc2 hcc1 hc1' hc0' hf1' hc;(have s5:(at_:Int)+1-1=at_:=by omega);have s6:IntKind.i64.wrap (at_:Int)=at_:=IntWalk.i64_in _ (by omega);(have s7:IntKind.i64.wrap ((at_:Int)+1-1)=at_:=by rw [s5];exact s6);have hm2:=x2;go_quiet (fail);go_wp2_with fail;(try go_ret2);refine hR.out _ _ ⟨rfl,u2.drewN _,some ⟨b,o,none⟩,c,?_,?_,hlt,hk,hlen,hcap⟩
 . have:=B2.drewN nq
   simpa using this
 exact(HR.upd u2 (λb _ hb e=>hF b hb e)).drewN _
theorem Q7V (F:Nat->Prop) (g pc:Nat) (bs:List Nat) (w:World) (hcu:Q4 w F g bs bs.length)
   (bc:Blk w pc 46 #[.pointer (some ⟨g,0,none⟩)]) :
   Calls prog 166 #[.pointer (some ⟨pc,0,none⟩)] w λe w'=>e = .returned (.tuple #[.int .u8 0,.int .i64 3])/\∃k,w'=w.drewN k:=by
 have hl:=JG F g bs bs.length w hcu;rw [Nat.sub_self]at hl;have hc:=bc.cell0;have HL:=hd_ hl;clear hl hcu bc;refine Q8 λR hR=>?_;go_enter func166,ntmps166;go_wp2_with fail;refine HL.mono ?_;rintro e w1 ⟨rfl,k,rfl⟩;go_wp2_with fail;(try go_ret2);exact hR _ _ ⟨rfl,k,rfl⟩
theorem Q61 (pe pf px pc:Addr) (u:FrameMode) (w:World) (he:w.cell? pe=some (.int .i64 0)) :
   CallsD prog 215 #[.pointer (some pe),.pointer (some pf),.pointer (some px),.pointer (some pc)] u w λe u' w'=>u'=u/\(e = .returned (.tuple #[])/\w'=w):=by
 go_enter_d func215,ntmps215;go_wp2;go_end0;exact⟨rfl,rfl⟩
theorem Q62 (g H:Nat) (at_:Nat) (x:Int) (A:Option Addr) (n c:Nat) (u:FrameMode) (w:World)
   (b0:Blk w H 46 #[.pointer (some ⟨g,0,none⟩)]) (b1:Blk w (H+1) 5 #[.int .u8 x]) (b2:Blk w (H+1+1) 24 #[.int .i64 3]) (b3:Blk w (H+1+1+1) 3 #[.int .i64 at_])
   (bg:Blk w g 96 #[.slice A n c,.int .i64 at_]) (hg:g<H) :
   CallsD prog 215 #[.pointer (some ⟨H+1+1,0,none⟩),.pointer (some ⟨H+1+1+1,0,none⟩),.pointer (some ⟨H+1,0,none⟩),.pointer (some ⟨H,0,none⟩)] u w λe u' w'=>u'=u/\(e = .returned (.tuple #[]) /\
     w'=(w.setCell ⟨H+1,0,none⟩ (.int .u8 0)).setCell ⟨g,1,none⟩ (.int .i64 at_)):=by
 have c0:=b0.cell0;have c1:=b1.cell0;have c2:=b2.cell0;have c3:=b3.cell0;have z1:=b1.frozen 0;have zg:=bg.frozen 1;have g1:=bg.cell 1;simp at g1;go_enter_d func215,ntmps215;go_wp2;go_end0;exact⟨rfl,rfl⟩
theorem Q9l (F:Nat->Prop) (g pc:Nat) (bs:List Nat) (at_:Nat) (w:World) (hcu:Q4 w F g bs at_) (hk:at_<bs.length)
   (bc:Blk w pc 46 #[.pointer (some ⟨g,0,none⟩)]) (hF:∀b,F b->b≠g) :
   Calls prog 165 #[.pointer (some ⟨g,0,none⟩),.func (.func 166) #[] #[.pointer (some ⟨pc,0,none⟩)]] w λe w' =>
     e = .returned (.tuple #[.int .u8 ((bs[at_]?.getD 0:Nat):Int),.int .i64 0])/\Upd (λb=>b=g) w w'/\Q4 w' F g bs (at_+1):=by
 have hmf:∀(fn:Fn) (first cap:Array Value) (w:World),(Instr.makeFunc fn first cap).run prog w = .ok (.func fn first cap) w:=λ_ _ _ _=>rfl;have hg:=hcu.lt
 have hat:w.cell? ⟨g,1,none⟩=some (.int .i64 at_):=by
   obtain⟨A,c,hb,_⟩:=hcu;simpa using hb.cell 1
 have HCU:=hd_ hcu;have HBC:=hd_ bc;clear hcu bc;(have hg1:g<w.heap.size+1:=by omega);(have hg2:g<w.heap.size+1+1:=by omega);(have hg3:g<w.heap.size+1+1+1:=by omega);refine Q8 λR hR=>?_;go_enter_defers func165,ntmps165;go_wp2_with fail;obtain⟨H,hH⟩:=nm_ (w.heap.size);rw [<-hH]at hg hg1 hg2 hg3;simp only [<-hH];obtain⟨W0,hW0⟩:=nm_ ((((w.alloc (.cells #[.pointer (some ⟨g,0,none⟩)] 46)).alloc (.cells #[.int .u8 0] 5)).alloc (.cells #[.int .i64 0] 24)).alloc (.cells #[.int .i64 at_] 3));rw [<-hW0];(have f0:Q0 w W0:=by rw [hW0];exact((((Upd.refl _ w).alloc _).alloc _).alloc _).alloc _);(have k0:Blk W0 H 46 #[.pointer (some ⟨g,0,none⟩)]:=by rw [hW0];exact(((Qb (by simp [hH]) _ _).alloc _).alloc _).alloc _);(have k1:Blk W0 (H+1) 5 #[.int .u8 0]:=by rw [hW0];exact((Qb (by simp [hH]) _ _).alloc _).alloc _);(have k2:Blk W0 (H+1+1) 24 #[.int .i64 0]:=by rw [hW0];exact(Qb (by simp [hH]) _ _).alloc _);(have k3:Blk W0 (H+1+1+1) 3 #[.int .i64 at_]:=by rw [hW0];exact Qb (by simp [hH]) _ _);clear hW0;have HH:=hd_ hH;clear hH;generalize hx:((bs[at_]?.getD 0:Nat):Int)=x at *;have hb1:=Q9k (λb=>F b/\b<w.heap.size) g pc bs at_ W0 (HCU.both.fresh f0) hk (HBC.fresh f0) (λb hb=>hF b hb.1);rw [hx]at hb1;clear hx;refine hb1.mono ?_;rintro e w1 ⟨rfl,u1,c1⟩;have j1:=k1.upd u1 (by omega);have j2:=k2.upd u1 (by omega);have uu:Upd (λb=>b=g) w w1:=(f0.mono (λ_ _ h=>h.elim)).trans' u1;have d1:=j1.cell0;have d2:=j2.cell0;have z1:=j1.frozen 0;have z2:=j2.frozen 0;have J1:=hd_ j1;have J2:=hd_ j2;have HC1:=hd_ c1;clear j1 j2 k0 k1 k2 k3 c1 hb1;go_wp2;have L1:=(J1.set_ 0 (.int .u8 x)).far (p:=⟨H+1+1,0,none⟩) (by simp) (.int .i64 0);have L2:=(J2.far (p:=⟨H+1,0,none⟩) (by simp) (.int .u8 x)).set_ 0 (.int .i64 0);have hd2:=L2.cell0;have hd1:=L1.cell0;change Leaves _ _ _ _ _ _ _;refine leaves_cons (f:=215) (args:=#[.pointer (some ⟨H+1+1,0,none⟩),.pointer (some ⟨H+1+1+1,0,none⟩),.pointer (some ⟨H+1,0,none⟩),.pointer (some ⟨H,0,none⟩)]) (by simp) (by simp [go_sem]) ?_;refine(Q61 _ _ _ _ .returning _ hd2).mono ?_;rintro e u' w'' ⟨rfl,rfl,rfl⟩;refine⟨.tuple #[.int .u8 x,.int .i64 0],?_,hR _ _ ⟨rfl,?_,?_⟩⟩
 . simp [results,results165,go_sem,hd1,hd2]
 . exact(uu.setCell (p:=⟨H+1,0,none⟩) (λh=>by have:=HH.out;simp at h;omega) _).setCell (p:=⟨H+1+1,0,none⟩) (λh=>by have:=HH.out;simp at h;omega) _
 have m1:=HC1.upd (S:=λb=>b=H+1) ((Upd.refl (λb=>b=H+1) _).setCell (p:=⟨H+1,0,none⟩) (λ_=>rfl) (.int .u8 x)) (by omega) (λb _ hb e=>by have:=hb.2;have:=HH.out;omega);have m2:=m1.upd (S:=λb=>b=H+1+1) ((Upd.refl (λb=>b=H+1+1) _).setCell (p:=⟨H+1+1,0,none⟩) (λ_=>rfl) (.int .i64 0)) (by omega) (λb _ hb e=>by have:=hb.2;have:=HH.out;omega);exact m2.mono λb hb=>hb.1
theorem Q7W (F:Nat->Prop) (g pc:Nat) (bs:List Nat) (at_:Nat) (w:World) (hcu:Q4 w F g bs at_) (hk:at_=bs.length)
   (bc:Blk w pc 46 #[.pointer (some ⟨g,0,none⟩)]) (hF:∀b,F b->b≠g) :
   Calls prog 165 #[.pointer (some ⟨g,0,none⟩),.func (.func 166) #[] #[.pointer (some ⟨pc,0,none⟩)]] w λe w' =>
     e = .returned (.tuple #[.int .u8 0,.int .i64 3])/\Upd (λb=>b=g) w w'/\Q4 w' F g bs at_:=by
 have hmf:∀(fn:Fn) (first cap:Array Value) (w:World),(Instr.makeFunc fn first cap).run prog w = .ok (.func fn first cap) w:=λ_ _ _ _=>rfl;have hg:=hcu.lt
 have hat:w.cell? ⟨g,1,none⟩=some (.int .i64 at_):=by
   obtain⟨A,c,hb,_⟩:=hcu;simpa using hb.cell 1
 have HK:=hd_ hk;clear hk;have HCU:=hd_ hcu;have HBC:=hd_ bc;clear hcu bc;(have hg1:g<w.heap.size+1:=by omega);(have hg2:g<w.heap.size+1+1:=by omega);(have hg3:g<w.heap.size+1+1+1:=by omega);refine Q8 λR hR=>?_;go_enter_defers func165,ntmps165;go_wp2_with fail;obtain⟨H,hH⟩:=nm_ (w.heap.size);rw [<-hH]at hg hg1 hg2 hg3;simp only [<-hH];obtain⟨W0,hW0⟩:=nm_ ((((w.alloc (.cells #[.pointer (some ⟨g,0,none⟩)] 46)).alloc (.cells #[.int .u8 0] 5)).alloc (.cells #[.int .i64 0] 24)).alloc (.cells #[.int .i64 at_] 3));rw [<-hW0];(have f0:Q0 w W0:=by rw [hW0];exact((((Upd.refl _ w).alloc _).alloc _).alloc _).alloc _);(have k0:Blk W0 H 46 #[.pointer (some ⟨g,0,none⟩)]:=by rw [hW0];exact(((Qb (by simp [hH]) _ _).alloc _).alloc _).alloc _);(have k1:Blk W0 (H+1) 5 #[.int .u8 0]:=by rw [hW0];exact((Qb (by simp [hH]) _ _).alloc _).alloc _);(have k2:Blk W0 (H+1+1) 24 #[.int .i64 0]:=by rw [hW0];exact(Qb (by simp [hH]) _ _).alloc _);(have k3:Blk W0 (H+1+1+1) 3 #[.int .i64 at_]:=by rw [hW0];exact Qb (by simp [hH]) _ _);clear hW0;have HH:=hd_ hH;clear hH;have hb1:=Q7V (λb=>F b/\b<w.heap.size) g pc bs W0 (by rw [<-HK.out];exact HCU.both.fresh f0) (HBC.fresh f0);refine hb1.mono ?_;rintro e w1 ⟨rfl,k,rfl⟩;have f1:Q0 w (W0.drewN k):=f0.drewN k;have j0:=k0.drewN k;have j1:=k1.drewN k;have j2:=k2.drewN k;have j3:=k3.drewN k;generalize W0.drewN k=w1 at *;have d1:=j1.cell0;have d2:=j2.cell0;have z1:=j1.frozen 0;have z2:=j2.frozen 0;have J0:=hd_ j0;have J1:=hd_ j1;have J2:=hd_ j2;have J3:=hd_ j3;have F1:=hd_ f1;clear j0 j1 j2 j3 k0 k1 k2 k3 hb1 f1;go_wp2;have L0:=(J0.far (p:=⟨H+1,0,none⟩) (by simp) (.int .u8 0)).far (p:=⟨H+1+1,0,none⟩) (by simp;omega) (.int .i64 3);have L1:=(J1.set_ 0 (.int .u8 0)).far (p:=⟨H+1+1,0,none⟩) (by simp) (.int .i64 3);have L2:=(J2.far (p:=⟨H+1,0,none⟩) (by simp) (.int .u8 0)).set_ 0 (.int .i64 3);have L3:=(J3.far (p:=⟨H+1,0,none⟩) (by simp;omega) (.int .u8 0)).far (p:=⟨H+1+1,0,none⟩) (by simp) (.int .i64 3)
 have u3:Upd (λb=>w.heap.size<=b) w ((w1.setCell ⟨H+1,0,none⟩ (.int .u8 0)).setCell ⟨H+1+1,0,none⟩ (.int .i64 3)) :=
   ((F1.mono (T:=λb=>w.heap.size<=b) (λ_ _ h=>h.elim)).setCell (p:=⟨H+1,0,none⟩) (λ_=>by have:=HH.out;simp;omega) _).setCell (p:=⟨H+1+1,0,none⟩) (λ_=>by have:=HH.out;simp;omega) _
 change Leaves _ _ _ _ _ _ _;refine leaves_cons (f:=215) (args:=#[.pointer (some ⟨H+1+1,0,none⟩),.pointer (some ⟨H+1+1+1,0,none⟩),.pointer (some ⟨H+1,0,none⟩),.pointer (some ⟨H,0,none⟩)]) (by simp) (by simp [go_sem]) ?_;have c3:=HCU.both.upd u3 (by have:=HH.out;omega) (λb hb hb2 hb3=>by have:=hb2.2;omega);obtain⟨A,c,hb,hr,hq⟩:=c3;refine(Q62 g H at_ 0 A bs.length c .returning _ (by simpa using L0) (by simpa using L1) (by simpa using L2) (by simpa using L3) hb hg).mono ?_;rintro e u' w'' ⟨rfl,rfl,rfl⟩;refine⟨.tuple #[.int .u8 0,.int .i64 3],?_,hR _ _ ⟨rfl,?_,?_⟩⟩
 . have M1:=((L1.set_ 0 (.int .u8 0)).far (p:=⟨g,1,none⟩) (by simp;omega) (.int .i64 at_))
   have M2:=((L2.far (p:=⟨H+1,0,none⟩) (by simp) (.int .u8 0)).far (p:=⟨g,1,none⟩) (by simp;omega) (.int .i64 at_));have q1:=M1.cell0;have q2:=M2.cell0;simp [results,results165,go_sem,q1,q2]
 . have u4:Upd (λb=>b=g\/w.heap.size<=b) w _:=((u3.mono (T:=λb=>b=g\/w.heap.size<=b) (λ_ _ h=>.inr h)).setCell (p:=⟨H+1,0,none⟩) (λ_=>.inr (by have:=HH.out;simp;omega)) (.int .u8 0)).setCell (p:=⟨g,1,none⟩) (λ_=>.inl rfl) (.int .i64 at_)
   (exact u4.mono λb hb h=>by rcases h with h|h;exact h;omega)
 have c4:Q4 _ (λb=>F b/\b<w.heap.size) g bs at_:=⟨A,c,hb,hr,hq⟩;have c5:=c4.upd (S:=λb=>b=H+1) ((Upd.refl (λb=>b=H+1) _).setCell (p:=⟨H+1,0,none⟩) (λ_=>rfl) (.int .u8 0)) (by omega) (λb _ hb e=>by have:=hb.2;have:=HH.out;omega);obtain⟨A,c,hb,hr,hq⟩:=c5;refine⟨A,c,?_,?_,hq⟩
 . have:=hb.set_ 1 (.int .i64 at_)
   simpa using this
 exact(hr.upd (S:=λb=>b=g) ((Upd.refl (λb=>b=g) _).setCell (p:=⟨g,1,none⟩) (λ_=>rfl) (.int .i64 at_)) (λb _ hb e=>hF b hb.1 e)).mono λb hb=>hb.1
theorem Q16 (F:Nat->Prop) (g:Nat) (bs:List Nat) (at_:Nat) (w:World) (hcu:Q4 w F g bs at_) (hk:at_<bs.length) (hF:∀b,F b->b≠g) :
   Calls prog 120 #[.pointer (some ⟨g,0,none⟩)] w λe w'=>e = .returned (.tuple #[.int .u8 ((bs[at_]?.getD 0:Nat):Int),.int .i64 0])/\Upd (λb=>b=g) w w'/\Q4 w' F g bs (at_+1):=by
 have hmf:∀(fn:Fn) (first cap:Array Value) (w:World),(Instr.makeFunc fn first cap).run prog w = .ok (.func fn first cap) w:=λ_ _ _ _=>rfl;obtain⟨H,hH⟩:=nm_ (w.heap.size);have hr:=Q9l F g H bs at_ (w.alloc (.cells #[.pointer (some ⟨g,0,none⟩)] 46)) (hcu.fresh ((Upd.refl _ w).alloc _)) hk (Qb hH _ _) hF;rw [hH]at hr;have HR:=hd_ hr;clear hr hcu hH H hk;generalize ((bs[at_]?.getD 0:Nat):Int)=x at *;refine Q8 λR hR=>?_;go_enter func120,ntmps120;go_wp2_with fail;refine HR.mono ?_;rintro e w1 ⟨rfl,u1,c1⟩;go_wp2;(try go_ret2);exact hR _ _ ⟨rfl,((Upd.refl (λb=>b=g) w).alloc _).trans' u1,c1⟩
theorem Q0a (F:Nat->Prop) (g:Nat) (bs:List Nat) (at_:Nat) (w:World) (hcu:Q4 w F g bs at_) (hk:at_=bs.length) (hF:∀b,F b->b≠g) :
   Calls prog 120 #[.pointer (some ⟨g,0,none⟩)] w λe w'=>e = .returned (.tuple #[.int .u8 0,.int .i64 3])/\Upd (λb=>b=g) w w'/\Q4 w' F g bs at_:=by
 have hmf:∀(fn:Fn) (first cap:Array Value) (w:World),(Instr.makeFunc fn first cap).run prog w = .ok (.func fn first cap) w:=λ_ _ _ _=>rfl;obtain⟨H,hH⟩:=nm_ (w.heap.size);have hr:=Q7W F g H bs at_ (w.alloc (.cells #[.pointer (some ⟨g,0,none⟩)] 46)) (hcu.fresh ((Upd.refl _ w).alloc _)) hk (Qb hH _ _) hF;rw [hH]at hr;have HR:=hd_ hr;clear hr hcu hH H hk;refine Q8 λR hR=>?_;go_enter func120,ntmps120;go_wp2_with fail;refine HR.mono ?_;rintro e w1 ⟨rfl,u1,c1⟩;go_wp2;(try go_ret2);exact hR _ _ ⟨rfl,((Upd.refl (λb=>b=g) w).alloc _).trans' u1,c1⟩
def YM:Nat->Nat->Nat->List Nat->Nat × Nat × Int
  | 0,i,_,_=>(0,i,18)
  | _+1,i,_,[]=>(0,i,3)
  | f+1,i,n,x::xs =>
    if 128<=x then YM f (i+1) (n+x%128*2^(7*i)) xs
    else if x=0/\0<i then(0,i+1,5)
    else if 4611686018427387903<n+x%128*2^(7*i)then(0,i+1,18)
    else(n+x%128*2^(7*i),i+1,0)
def Qt (bs:List Nat):Nat × Nat × Int:=YM 9 0 0 bs
theorem Qas (x:Nat) (h:x<256):bits .and .u8 (x:Int) 127=((x%128:Nat):Int):=by
 (have:∀x:Fin 256,bits .and .u8 ((x.val:Nat):Int) 127=((x.val%128:Nat):Int):=by decide +kernel);exact this ⟨x,h⟩
theorem Q9m (n y i:Nat) (hn:n<2^(7*i)) (hy:y<128) (hi:i<9) :
   bits .or .u64 (n:Int) (IntKind.u64.wrap ((y:Int)*2^(7*i)))=((n+y*2^(7*i):Nat):Int):=Q5h n y (7*i) 7 hn (by omega) (by omega)
theorem Qat (n y i:Nat) (hn:n<2^(7*i)) (hy:y<128):n+y*2^(7*i)<2^(7*(i+1)):=by
 (have h:2^(7*(i+1))=128*2^(7*i):=by rw [show 7*(i+1)=7*i+7 by omega,Nat.pow_add];omega);have h2:y*2^(7*i)<=127*2^(7*i):=Nat.mul_le_mul_right _ (by omega);omega
theorem Q9n (F:Nat->Prop) (g pc:Nat) (bs:List Nat) (at_:Nat) (w:World) (hcu:Q4 w F g bs at_)
   (bc:Blk w pc 46 #[.pointer (some ⟨g,0,none⟩)]) (hF:∀b,F b->b≠g) :
   Calls prog 168 #[.pointer (some ⟨pc,0,none⟩)] w λe w'=>e = .returned (.tuple #[.int .u64 ((Qt (bs.drop at_)).1:Nat),.int .i64 (Qt (bs.drop at_)).2.2]) /\
     Upd (λb=>b=g) w w'/\∃a',Q4 w' F g bs a'/\((Qt (bs.drop at_)).2.2=0->a'=at_+(Qt (bs.drop at_)).2.1):=by
 obtain⟨T,hT⟩:=nm_ (Qt (bs.drop at_));rw [<-hT]
 have hpg:pc≠g:=by
   obtain⟨A,c,hb,_⟩:=hcu;exact bc.ne_ hb (by decide)
 (have hlt:∀b∈bs,b<256:=by obtain⟨A,c,_,_,h,_⟩:=hcu;exact h);have HLT:=hd_ hlt;have HT:=hd_ hT;have HCU:=hd_ hcu;have HBC:=hd_ bc;clear hT hcu bc hlt;refine Q8 λR hR=>?_;go_enter func168,ntmps168;go_wp2_with fail;go_loopg [3,7] 9 (λf vn vi wr=>∃(i n:Nat),i+f=9/\vi = .int .i64 i/\vn = .int .u64 n/\n<2^(7*i)/\Upd (λb=>b=g) w wr/\Q4 wr F g bs (at_+i)/\YM f i n (bs.drop (at_+i))=T)
 case atStart=>exact⟨0,0,rfl,rfl,rfl,by omega,Upd.refl _ _,HCU.out,HT.symm⟩
 case round =>
   obtain⟨i,n,hif,rfl,rfl,hn,hu,hcu,ht⟩:=hrel;have HU:=hd_ hu;have HC:=hd_ hcu;have hbc:=HBC.upd hu hpg;have hc:=hbc.cell0;have HB:=hd_ hbc;clear hu hcu hbc;have hw7:IntKind.i64.wrap (7*(i:Int))=7*i:=IntWalk.i64_in _ (by omega);(have hw8:((7:Int)*(i:Int)).toNat=7*i:=by omega);(have hw9:(0:Int)<=7*(i:Int):=by omega);have hw10:IntKind.i64.wrap ((i:Int)+1)=i+1:=IntWalk.i64_in _ (by omega);by_cases hi:i<9
   . obtain⟨f,rfl⟩:∃f,gk=f+1:=⟨gk-1,by omega⟩
     (have hiI:(i:Int)<9:=by omega);by_cases hk:at_+i<bs.length
     . obtain⟨x,hx⟩:∃x,x=bs[at_+i]:=⟨_,rfl⟩
       (have hx2:bs[at_+i]?.getD 0=x:=by rw [List.getElem?_eq_getElem hk,hx];rfl);(have hx3:x<256:=by rw [hx];exact HLT _ (List.getElem_mem hk));rw [List.drop_eq_getElem_cons hk,<-hx]at ht;have hcall:=Q16 F g bs (at_+i) wr HC.out hk hF;rw [hx2]at hcall;have HCALL:=hd_ hcall;have hand:=Qas x hx3;have hor:=Q9m n (x%128) i hn (by omega) hi;have hpl:=Qat n (x%128) i hn (by omega);simp only [YM]at ht;(have hy:x%128<128:=by omega);generalize x%128=y at *;(have hcy:IntKind.u64.wrap (y:Int)=y:=by rw [IntKind.wrap_u64];omega);generalize n+y*2^(7*i)=m at *;have HPL:=hd_ hpl;clear hcall hx hx2 hpl hn;(have hxI:(x:Int)<256:=by omega);by_cases h1:128<=x
       . rw [if_pos h1]at ht
         have HTT:=hd_ ht;clear ht;(have h1I:(128:Int)<=x:=by omega);go_wp2_with fail;refine HCALL.mono ?_;rintro e w1 ⟨rfl,u1,c1⟩;have U1:=hd_ u1;have C1:=hd_ c1;clear u1 c1;go_wp2_with fail;go_roundg f
         case measure=>omega
         case rel =>
           refine⟨i+1,m,by omega,by go_num,rfl,HPL.out,HU.trans' U1.out,?_,?_⟩
           . have:=C1.out
             rwa [Nat.add_assoc]at this
           have:=HTT.out
           rwa [Nat.add_assoc]at this
       rw [if_neg h1]at ht;(have h1I:(x:Int)<128:=by omega);by_cases h2:x=0/\0<i
       . rw [if_pos h2]at ht
         (have h2a:((x:Int) == 0)=true:=by simpa using h2.1);(have h2b:(0:Int)<i:=by omega);subst ht;clear h2;go_wp2_with fail;refine HCALL.mono ?_;rintro e w1 ⟨rfl,u1,c1⟩;have U1:=hd_ u1;have C1:=hd_ c1;clear u1 c1;go_wp2_with fail;(try go_ret2);exact hR _ _ ⟨rfl,HU.trans' U1.out,_,C1.out,λh=>absurd h (by decide)⟩
       rw [if_neg h2]at ht;by_cases h3:4611686018427387903<m
       . rw [if_pos h3]at ht
         (have h3I:(4611686018427387903:Int)<m:=by omega);subst ht;by_cases hx0:x=0
         . have h2a:((x:Int) == 0)=true:=by simpa using hx0
           (have h2b:(i:Int)<=0:=by omega);clear hx0 h2;go_wp2_with fail;refine HCALL.mono ?_;rintro e w1 ⟨rfl,u1,c1⟩;have U1:=hd_ u1;have C1:=hd_ c1;clear u1 c1;go_wp2_with fail;(try go_ret2);exact hR _ _ ⟨rfl,HU.trans' U1.out,_,C1.out,λh=>absurd h (by decide)⟩
         (have h2a:((x:Int) == 0)=false:=by simp;omega);go_wp2_with fail;refine HCALL.mono ?_;rintro e w1 ⟨rfl,u1,c1⟩;have U1:=hd_ u1;have C1:=hd_ c1;clear u1 c1;go_wp2_with fail;(try go_ret2);exact hR _ _ ⟨rfl,HU.trans' U1.out,_,C1.out,λh=>absurd h (by decide)⟩
       rw [if_neg h3]at ht;(have h3I:(m:Int)<=4611686018427387903:=by omega);subst ht;by_cases hx0:x=0
       . have h2a:((x:Int) == 0)=true:=by simpa using hx0
         (have h2b:(i:Int)<=0:=by omega);clear hx0 h2;go_wp2_with fail;refine HCALL.mono ?_;rintro e w1 ⟨rfl,u1,c1⟩;have U1:=hd_ u1;have C1:=hd_ c1;clear u1 c1;go_wp2_with fail;(try go_ret2);exact hR _ _ ⟨rfl,HU.trans' U1.out,_,C1.out,λ_=>by omega⟩
       (have h2a:((x:Int) == 0)=false:=by simp;omega);go_wp2_with fail;refine HCALL.mono ?_;rintro e w1 ⟨rfl,u1,c1⟩;have U1:=hd_ u1;have C1:=hd_ c1;clear u1 c1;go_wp2_with fail;(try go_ret2);exact hR _ _ ⟨rfl,HU.trans' U1.out,_,C1.out,λ_=>by omega⟩
     have hcall:=Q0a F g bs (at_+i) wr HC.out (by obtain⟨A,c,_,_,_,h,_⟩:=HC.out;omega) hF;rw [List.drop_of_length_le (by omega)]at ht;simp only [YM]at ht;subst ht;have HCALL:=hd_ hcall;clear hcall;go_wp2_with fail;refine HCALL.mono ?_;rintro e w1 ⟨rfl,u1,c1⟩;have U1:=hd_ u1;have C1:=hd_ c1;clear u1 c1;go_wp2_with fail;(try go_ret2);exact hR _ _ ⟨rfl,HU.trans' U1.out,_,C1.out,λh=>absurd h (by decide)⟩
   (have hi9:i=9:=by omega);(have hg0:gk=0:=by omega);subst hi9 hg0;simp only [YM]at ht;subst ht;go_wp2_with fail;(try go_ret2);exact hR _ _ ⟨rfl,HU.out,_,HC.out,λh=>absurd h (by decide)⟩
theorem Q0b (a0:Nat) (v00:Value) (w:World) (h0:Blk w a0 33 #[v00])  :
   Calls prog 174 #[.pointer (some ⟨a0,0,none⟩)] w λe w'=>e = .returned (.tuple #[])/\Upd (λb=>b=a0) w w'/\Blk w' a0 33 #[.slice none 0 0]:=by
 have c00:=h0.cell 0;have z00:=h0.frozen 0;simp at c00;have H0:=hd_ h0;clear h0;refine Q8 λR hR=>?_;go_enter func174,ntmps174;go_wp2_with fail;(try go_end0);refine hR.out _ _ ⟨rfl,?_,?_⟩
 . exact((Upd.refl (λb=>b=a0) _).setCell (p:=⟨a0,0,none⟩) (λ_=>rfl) _)
 have:=(H0.set_ 0 (.slice none 0 0));simpa using this
end Go.Proofs.YtckjdhaflokcgaaGreat
