/-
  Joined texts, part 23: contracts and plain lemmas.
  Conditions: none beyond those of each theorem.
-/
import Derived.Test.YtjfdaphjijfieaaGreatL17
import Derived.Test.YtjfdaphjijfieaaGreatL22
set_option maxHeartbeats 4000000
set_option linter.unusedVariables false
set_option linter.unusedSimpArgs false
set_option maxRecDepth 100000
universe u
namespace Go.Proofs.YtjfdaphjijfieaaGreat
open Go.RowKit
def YX (lg:Int) (N:List Int):Nat->List Int->Int->Option Int
  | _,[],a=>some a
  | i,c::l,a=>if c=0 then YX lg N (i+1) l a else
      match N[i]? with
      | none=>none
      | some v=>if v=0 then none else YX lg N (i+1) l (a+c*(lg+1-(Lib.bitLen (max v (-v)).toNat:Nat)))
def YR (lg:Int) (N C:List Int):Int × Int :=
  if Qc lg N 256 9/\0<=JD C 9 then(match YX lg N 0 C 0 with|some a=>(a,0)|none=>(0,2))else(0,2)
theorem Q4f {C:List Int} {L:Int} (h:0<=JD C L):YH C:=by
 by_cases hc:YH C
 . exact hc
 unfold JD at h;rw [if_pos (.inl fun q=>hc q.1)]at h;omega
theorem Q7N (F G:Nat->Prop) (A B:Option Addr) (n c m d:Nat) (lg:Int) (N C:List Int) (w:World) (hs:Rd w G B m (Q2 N)) (hfit:Fit N) (hm:(m:Int)<=1099511627776) (hr:Rd w F A n (Q2 C)) (hfitC:Fit C) (hn:(n:Int)<=1099511627776)
   (hbad:¬(Qc lg N 256 9/\0<=JD C 9)) :
   Calls Tryz.prog 121 #[.agg #[.int .i64 lg,.slice B m d],.slice A n c] w fun e w'=>e = .returned (.tuple #[.int .i64 0,.int .i64 2])/\Q0 w w':=by
 obtain⟨w0,hw0⟩:=nm_ (w.alloc (.cells #[.int .i64 lg,.slice B m d] 29));(have f0:Q0 w w0:=by rw [hw0];exact(Upd.refl _ _).alloc _);have hck:=Zr G B m d lg 256 9 N w0 (hs.fresh f0) hfit hm;have hrc:=fun W (h:Q0 w W)=>Q0W F A n c C W 9 (hr.fresh h) hfitC hn;rw [show min (9:Int) 9=9 by decide]at hrc;have HCK:=hd_ hck;have HRC:=hd_ hrc;have F0:=hd_ f0;have HW:=hd_ hw0;clear hck hrc f0 hw0 hs hfit hm hr hfitC hn;refine Q6 fun R hR=>?_;by_cases hv:Qc lg N 256 9
 . have hl:JD C 9<0:=by
     rcases Int.lt_or_le (JD C 9) 0 with h|h
     . exact h
     exact absurd ⟨hv,h⟩ hbad
   rw [if_pos hv]at HCK;clear hbad hv;generalize JD C 9=q at *;go_enter Tryz.func121,Tryz.ntmps121;go_wp2_with fail;simp only [<-HW.out];refine HCK.out.mono ?_;rintro e w1 ⟨rfl,f1⟩;have F1:=hd_ (F0.out.trans' f1);clear f1;go_wp2_with fail;refine(HRC.out _ F1.out).mono ?_;rintro e w2 ⟨rfl,rfl⟩;go_wp2_with fail;(try go_ret2);exact hR.out _ _ ⟨rfl,F1.out⟩
 rw [if_neg hv]at HCK;clear hbad hv;go_enter Tryz.func121,Tryz.ntmps121;go_wp2_with fail;simp only [<-HW.out];refine HCK.out.mono ?_;rintro e w1 ⟨rfl,f1⟩;have F1:=hd_ (F0.out.trans' f1);clear f1;go_wp2_with fail;(try go_ret2);exact hR.out _ _ ⟨rfl,F1.out⟩
theorem Q3S {lg:Int} {N C:List Int} {k:Nat} {a:Int} (hk:k<C.length) :
   YX lg N k (C.drop k) a=if C[k]=0 then YX lg N (k+1) (C.drop (k+1)) a else
     match N[k]? with
     | none=>none
     | some v=>if v=0 then none else YX lg N (k+1) (C.drop (k+1)) (a+C[k]*(lg+1-(Lib.bitLen (max v (-v)).toNat:Nat))):=by
 rw [List.drop_eq_getElem_cons hk];rfl
theorem Q9a (F G:Nat->Prop) (A B:Option Addr) (n c m d:Nat) (lg:Int) (N C:List Int) (w:World) (hs:Rd w G B m (Q2 N)) (hfit:Fit N) (hm:(m:Int)<=1099511627776) (hr:Rd w F A n (Q2 C)) (hfitC:Fit C) (hn:(n:Int)<=1099511627776)
   (hv:Qc lg N 256 9) (hq:0<=JD C 9) :
   Calls Tryz.prog 121 #[.agg #[.int .i64 lg,.slice B m d],.slice A n c] w fun e w' =>
     (∃a y,e = .returned (.tuple #[.int .i64 a,.int .i64 y])/\YX lg N 0 C 0=(if y=0 then some a else none)/\(y=0\/(y=2/\a=0)))/\Q0 w w':=by
 obtain⟨w0,hw0⟩:=nm_ (w.alloc (.cells #[.int .i64 lg,.slice B m d] 29));obtain⟨H,hH⟩:=nm_ (w.heap.size);(have f0:Q0 w w0:=by rw [hw0];exact(Upd.refl _ _).alloc _);(have bt:Blk w0 H 29 #[.int .i64 lg,.slice B m d]:=by rw [hw0];exact Q1 hH _ _);have hck:=Zr G B m d lg 256 9 N w0 (hs.fresh f0) hfit hm;rw [if_pos hv]at hck;have hrc:=fun W (h:Q0 w W)=>Q0W F A n c C W 9 (hr.fresh h) hfitC hn;rw [show min (9:Int) 9=9 by decide]at hrc;have hok:=Q4f hq;(have hNl:N.length=m:=by have:=hs.1;simpa using this);(have hCl:C.length=n:=by have:=hr.1;simpa using this);obtain⟨hl0,-,hl9,hm0,hm256,-,h1N,-⟩:=hv;have H1N:=hd_ h1N;clear h1N;(have hm2:m<=256:=by omega);have HCK:=hd_ hck;have HRC:=hd_ hrc;have F0:=hd_ f0;have HW:=hd_ hw0;have HH:=hd_ hH;have BT:=hd_ bt;have HR:=hd_ (fun W (h:Q0 w W)=>hr.fresh h);have HS:=hd_ (fun W (h:Q0 w W)=>hs.fresh h);have HOK:=hd_ hok;have HNL:=hd_ hNl;have HCL:=hd_ hCl;have HFN:=hd_ hfit;clear hck hrc f0 hw0 hH bt hs hfit hm hr hfitC hok hNl hCl hm0 hm256;generalize JD C 9=q at *;refine Q6 fun R hR=>?_;go_enter Tryz.func121,Tryz.ntmps121;go_wp2_with fail;simp only [<-HH.out,<-HW.out];refine HCK.out.mono ?_;rintro e w1 ⟨rfl,f1⟩;have b1:=BT.out.fresh f1;have B1:=hd_ b1;have F1:=hd_ (F0.out.trans' f1);clear f1 b1;go_wp2_with fail;refine(HRC.out _ F1.out).mono ?_;rintro e w2 ⟨rfl,rfl⟩;go_wp2_with fail;go_loopg [6,20] n (fun f s i wr=>Q0 w2 wr/\∃(k:Nat) (a:Int),k+f=n/\i = .int .i64 k/\s = .int .i64 a/\YX lg N 0 C 0=YX lg N k (C.drop k) a/\-(100*(C.take k).sum)<=a/\a<=100*(C.take k).sum)
 case atStart=>exact⟨Upd.refl _ _,0,0,by omega,rfl,rfl,by simp,by simp,by simp⟩
 case round =>
   obtain⟨fr,k,a,hk,rfl,rfl,hgo,ha1,ha2⟩:=hrel;have FR:=hd_ (F1.out.trans' fr);have FRR:=hd_ fr;have b2:=B1.out.fresh fr;obtain⟨t0,t1⟩:=(b2).cells2;have hs1:=VN HOK.out.1 k;have hs2:=HOK.out.2;have hs3:=Jt (HOK.out.take k).1;have HB2:=hd_ b2;have HK:=hd_ hk;have HGO:=hd_ hgo;clear fr b2 hk hgo;by_cases hlt:k<n
   . have hkc:k<C.length:=by have:=HCL.out;omega
     have hst:=Q3S (lg:=lg) (N:=N) (a:=a) hkc;have hgt:=List.take_succ_eq_append_getElem hkc;have hmem:=HOK.out.le (List.getElem_mem hkc);obtain⟨b,o,_,rfl,_,hc⟩:=(HR.out _ FR.out).int (k:=k) hlt;have hts:=VN HOK.out.1 (k+1);obtain⟨z,hz⟩:=nm_ (C[k]);rw [<-hz]at hst hgt hc hmem;(have hsz:(C.take (k+1)).sum=(C.take k).sum+z:=by rw [hgt,Vl]);rw [hsz]at hts;obtain⟨S,hS⟩:=nm_ ((C.take k).sum);rw [<-hS]at hs1 hs3 ha1 ha2 hts hsz;have HSZ:=hd_ hsz;have HST:=hd_ hst;obtain⟨hz0,hz1⟩:=hmem;generalize C.sum=T at *;have hw4:IntKind.i64.wrap ((k:Int)+1)=k+1:=IntWalk.i64_in _ (by omega);clear hz hgt hst hsz hS;by_cases hzz:z=0
     . subst hzz
       go_wp2_with fail;go_roundg (gk-1)
       case measure=>have:=HK.out;omega
       case rel =>
         refine⟨by assumption,k+1,a,by have:=HK.out;omega,by go_num,rfl,?_,?_,?_⟩
         . rw [HGO.out,HST.out,if_pos True.intro]
         . rw [HSZ.out];omega
         rw [HSZ.out];omega
     (have hzz':(z == 0)=false:=by simpa using hzz);have hst2:=HST.out;rw [if_neg hzz]at hst2;by_cases hkm:k<m
     . have hkn:k<N.length:=by have:=HNL.out;omega
       rw [List.getElem?_eq_getElem hkn]at hst2;obtain⟨b',o',_,rfl,_,hc'⟩:=(HS.out _ FR.out).int (k:=k) hkm;have hfv:=HFN.out N[k] (List.getElem_mem hkn);have hv1:=H1N.out N[k] (List.getElem_mem hkn);obtain⟨v,hvv⟩:=nm_ (N[k]);rw [<-hvv]at hst2 hc' hfv hv1;simp only at hst2;have HST2:=hd_ hst2;clear hst2 hvv;obtain⟨hf1,hf2⟩:=hfv;by_cases hv0:v=0
       . subst hv0
         go_wp2_with fail;(try go_ret2);exact hR.out _ _ ⟨⟨0,2,rfl,by rw [HGO.out,HST2.out];rfl,.inr ⟨rfl,rfl⟩⟩,FR.out⟩
       (have hv0':(v == 0)=false:=by simpa using hv0);rw [if_neg hv0]at HST2;(have hmx0:0<=max v (-v):=by omega);(have hmx1:max v (-v)<2^63:=by omega);have hbl:Lib.bitLen (max v (-v)).toNat<=64:=KI _ (by omega);have hbc:=fun W=>Tryz.bits_Len (max v (-v)) W hmx0 (by omega);generalize Lib.bitLen (max v (-v)).toNat=l at *;have HBC:=hd_ hbc;clear hbc;have p1:z*(lg+1-(l:Nat))<=z*100:=Int.mul_le_mul_of_nonneg_left (by omega) hz0;have p2:z*(-100)<=z*(lg+1-(l:Nat)):=Int.mul_le_mul_of_nonneg_left (by omega) hz0;have s1:IntKind.i64.wrap (lg+1)=lg+1:=IntWalk.i64_in _ (by omega);have s2:IntKind.i64.wrap (-v)=-v:=IntWalk.i64_in _ (by omega);have s3:IntKind.i64.wrap (lg+1-(l:Nat))=lg+1-(l:Nat):=IntWalk.i64_in _ (by omega);have s4:IntKind.i64.wrap (z*(lg+1-(l:Nat)))=z*(lg+1-(l:Nat)):=IntWalk.i64_in _ (by omega);have s5:IntKind.i64.wrap (a+z*(lg+1-(l:Nat)))=a+z*(lg+1-(l:Nat)):=IntWalk.i64_in _ (by omega);(have s6:IntKind.u64.wrap (max v (-v))=max v (-v):=by unfold IntKind.wrap;simp [IntKind.bits];omega);have P1:=hd_ p1;have P2:=hd_ p2;clear p1 p2;go_wp2_with fail;go_quiet ((go_at_call 133;exact Calls.quiet_of_same (HBC.out _)));go_wp2_with fail;go_roundg (gk-1)
       case measure=>have:=HK.out;omega
       case rel =>
         refine⟨FRR.out.drewN _,k+1,_,by have:=HK.out;omega,by go_num,rfl,?_,?_,?_⟩
         . rw [HGO.out,HST2.out]
         . rw [HSZ.out];have:=P2.out;omega
         rw [HSZ.out];have:=P1.out;omega
     have hnn:N[k]?=none:=List.getElem?_eq_none (by have:=HNL.out;omega);rw [hnn]at hst2;have HST2:=hd_ hst2;(have hkm2:(m:Int)<=k:=by omega);clear hst2;go_wp2_with fail;(try go_ret2);exact hR.out _ _ ⟨⟨0,2,rfl,by rw [HGO.out,HST2.out];rfl,.inr ⟨rfl,rfl⟩⟩,FR.out⟩
   (obtain rfl:k=n:=by have:=HK.out;omega);have hd:C.drop k=[]:=List.drop_eq_nil_of_le (by have:=HCL.out;omega);have hg:=HGO.out;rw [hd]at hg;have HG2:=hd_ hg;clear hd hg;go_wp2_with fail;(try go_ret2);exact hR.out _ _ ⟨⟨a,0,rfl,by rw [HG2.out];rfl,.inl rfl⟩,FR.out⟩
theorem Q7O (F G:Nat->Prop) (A B:Option Addr) (n c m d:Nat) (lg:Int) (N C:List Int) (w:World) (hs:Rd w G B m (Q2 N)) (hfit:Fit N) (hm:(m:Int)<=1099511627776) (hr:Rd w F A n (Q2 C)) (hfitC:Fit C) (hn:(n:Int)<=1099511627776) :
   Calls Tryz.prog 121 #[.agg #[.int .i64 lg,.slice B m d],.slice A n c] w fun e w'=>e = .returned (.tuple #[.int .i64 (YR lg N C).1,.int .i64 (YR lg N C).2])/\Q0 w w':=by
 by_cases h:Qc lg N 256 9/\0<=JD C 9
 . refine(Q9a F G A B n c m d lg N C w hs hfit hm hr hfitC hn h.1 h.2).mono fun e w' q=>?_
   obtain⟨⟨a,y,he,hg,hy⟩,hf⟩:=q;refine⟨?_,hf⟩;rw [he,YR,if_pos h,hg];rcases hy with rfl|⟨rfl,rfl⟩
   . rfl
   rfl
 have hc:YR lg N C=(0,2):=if_neg h;rw [hc];exact Q7N F G A B n c m d lg N C w hs hfit hm hr hfitC hn h
theorem Q6e (A:Option Addr) (n c:Nat) (mo lg x:Int) (w:World) :
   Calls Tryz.prog 123 #[.agg #[.int .i64 mo,.int .i64 lg,.slice A n c,.int .i64 x]] w fun e w'=>e = .returned (.int .i64 x)/\Q0 w w':=by
 refine Q6 fun R hR=>?_;go_enter Tryz.func123,Tryz.ntmps123;go_wp2_with fail;(try go_ret);exact hR.out _ _ ⟨rfl,(Upd.refl _ w).alloc _⟩
theorem Q3T (A B:Option Addr) (n c m d pc:Nat) (mo lg x mp lh y:Int) (w:World) (hx:-(2^60)<=x/\x<=2^60) (hy:-(2^60)<=y/\y<=2^60)
   (bc:Blk w pc 229 #[.func (.func 123) #[] #[]]) :
   Calls Tryz.prog 173 #[.agg #[.int .i64 mo,.int .i64 lg,.slice A n c,.int .i64 x],.agg #[.int .i64 mp,.int .i64 lh,.slice B m d,.int .i64 y],.pointer (some ⟨pc,0,none⟩)] w fun e w' =>
     e = .returned (.int .i64 (x-y))/\Q0 w w':=by
 obtain⟨w0,hw0⟩:=nm_ ((w.alloc (.cells #[.int .i64 mo,.int .i64 lg,.slice A n c,.int .i64 x] 226)).alloc (.cells #[.int .i64 mp,.int .i64 lh,.slice B m d,.int .i64 y] 226));obtain⟨H,hH⟩:=nm_ (w.heap.size);(have f0:Q0 w w0:=by rw [hw0];exact((Upd.refl _ _).alloc _).alloc _);(have ba:Blk w0 H 226 #[.int .i64 mo,.int .i64 lg,.slice A n c,.int .i64 x]:=by rw [hw0];exact(Q1 hH _ _).alloc _);(have bb:Blk w0 (H+1) 226 #[.int .i64 mp,.int .i64 lh,.slice B m d,.int .i64 y]:=by rw [hw0];exact Q1 (by simp [hH]) _ _);have bc0:=bc.fresh f0
 have hS:∀W,Q0 w0 W->(Q0 w0 W/\W.cell? ⟨pc,0,none⟩=some (.func (.func 123) #[] #[])/\W.cell? ⟨H,0,none⟩=some (.int .i64 mo)/\W.cell? ⟨H,1,none⟩=some (.int .i64 lg)/\W.cell? ⟨H,2,none⟩=some (.slice A n c)/\W.cell? ⟨H,3,none⟩=some (.int .i64 x) /\
     W.cell? ⟨H+1,0,none⟩=some (.int .i64 mp)/\W.cell? ⟨H+1,1,none⟩=some (.int .i64 lh)/\W.cell? ⟨H+1,2,none⟩=some (.slice B m d)/\W.cell? ⟨H+1,3,none⟩=some (.int .i64 y)):=by
   intro W hW;have b1:=ba.fresh hW;have b2:=bb.fresh hW;have b3:=bc0.fresh hW;exact⟨hW,b3.cell0,by simpa using b1.cell 0,by simpa using b1.cell 1,by simpa using b1.cell 2,by simpa using b1.cell 3,by simpa using b2.cell 0,by simpa using b2.cell 1,by simpa using b2.cell 2,by simpa using b2.cell 3⟩
 have HSS:=hd_ hS;have F0:=hd_ f0;have HW:=hd_ hw0;have HH:=hd_ hH;have s1:IntKind.i64.wrap (x-y)=x-y:=IntWalk.i64_in _ (by omega);clear ba bb bc bc0 hS f0 hw0 hH;refine Q6 fun R hR=>?_;go_enter Tryz.func173,Tryz.ntmps173;go_upto_region 1 with fail;simp only [<-HH.out,<-HW.out]
 go_region_held3 (fun W=>Q0 w0 W/\W.cell? ⟨pc,0,none⟩=some (.func (.func 123) #[] #[])/\W.cell? ⟨H,0,none⟩=some (.int .i64 mo)/\W.cell? ⟨H,1,none⟩=some (.int .i64 lg)/\W.cell? ⟨H,2,none⟩=some (.slice A n c)/\W.cell? ⟨H,3,none⟩=some (.int .i64 x)/\W.cell? ⟨H+1,0,none⟩=some (.int .i64 mp)/\W.cell? ⟨H+1,1,none⟩=some (.int .i64 lh)/\W.cell? ⟨H+1,2,none⟩=some (.slice B m d)/\W.cell? ⟨H+1,3,none⟩=some (.int .i64 y))
   (first|exact HSS.out _ (by assumption)|exact HSS.out _ (And.left (by assumption))|exact HSS.out _ (Upd.refl _ _)|exact HSS.out _ (Upd.refl _ _).drew)
   (first
     | (go_at_call 123;refine(Q6e _ _ _ _ _ _ _).mono ?_;rintro e w' ⟨rfl,f2x⟩;have f3x:Q0 w0 w':=Upd.trans' (And.left (by assumption)) f2x))
 (all_goals go_wp2_with fail);(all_goals try go_ret);(all_goals exact hR.out _ _ ⟨rfl,F0.out.trans' (And.left (by assumption))⟩)
structure Ch where
  mo:Int
  lg:Int
  A:Option Addr
  n:Nat
  c:Nat
  x:Int
def Ch.vals (t:Ch):List Value:=[.int .i64 t.mo,.int .i64 t.lg,.slice t.A t.n t.c,.int .i64 t.x]
def Ch.val (t:Ch):Value:=.agg #[.int .i64 t.mo,.int .i64 t.lg,.slice t.A t.n t.c,.int .i64 t.x]
def Chs (w:World) (b o:Nat) (ts:List Ch):Prop:=b<w.heap.size/\∀j (h:j<ts.length),
  w.cell? ⟨b,o+j*4,none⟩=some (.int .i64 ts[j].mo)/\w.cell? ⟨b,o+j*4+1,none⟩=some (.int .i64 ts[j].lg)/\w.cell? ⟨b,o+j*4+2,none⟩=some (.slice ts[j].A ts[j].n ts[j].c)/\w.cell? ⟨b,o+j*4+3,none⟩=some (.int .i64 ts[j].x)
theorem Chs.upd {S:Nat->Prop} {w w':World} {b o:Nat} {ts:List Ch} (h:Chs w b o ts) (hu:Upd S w w') (hn:¬S b):Chs w' b o ts:=by
 refine⟨Nat.lt_of_lt_of_le h.1 hu.size,fun j hj=>?_⟩;obtain⟨h1,h2,h3,h4⟩:=h.2 j hj;refine⟨?_,?_,?_,?_⟩
 . rw [<-h1];exact hu.cell (p:=⟨b,_,none⟩) h.1 hn
 . rw [<-h2];exact hu.cell (p:=⟨b,_,none⟩) h.1 hn
 . rw [<-h3];exact hu.cell (p:=⟨b,_,none⟩) h.1 hn
 rw [<-h4];exact hu.cell (p:=⟨b,_,none⟩) h.1 hn
theorem Chs.fresh {w w':World} {b o:Nat} {ts:List Ch} (h:Chs w b o ts) (hu:Q0 w w'):Chs w' b o ts:=h.upd hu fun h=>h
def Jq:Ch->List Ch->Ch
  | t,[]=>t
  | t,s::l=>Jq (if s.x<t.x then s else t) l
theorem Q7P (b o cc n pc:Nat) (ts:List Ch) (t0:Ch) (w:World) (hc:Chs w b o ts) (hn:ts.length=n) (h0:ts[0]?=some t0) (hx:∀t∈ts,-(2^60)<=t.x/\t.x<=2^60)
   (hbig:n<=2^40) (bc:Blk w pc 229 #[.func (.func 123) #[] #[]]) :
   Calls Tryz.prog 172 #[.slice (some ⟨b,o,none⟩) n cc,.func (.func 173) #[] #[.pointer (some ⟨pc,0,none⟩)]] w fun e w' =>
     e = .returned (Jq t0 (ts.drop 1)).val/\Q0 w w':=by
 have hn1:1<=n:=by
   rcases Nat.eq_zero_or_pos n with h|h
   . have:ts=[]:=List.eq_nil_of_length_eq_zero (by omega)
     subst this;simp at h0
   exact h
 (have hl0:0<ts.length:=by omega);(have e0:ts[0]=t0:=by rw [List.getElem?_eq_getElem hl0]at h0;simpa using h0);obtain⟨H,hH⟩:=nm_ (w.heap.size);obtain⟨w0,hw0⟩:=nm_ (w.alloc (.cells #[.int .i64 0,.int .i64 0,.slice none 0 0,.int .i64 0] 226));(have f0:Q0 w w0:=by rw [hw0];exact(Upd.refl _ _).alloc _);(have br:Blk w0 H 226 #[.int .i64 0,.int .i64 0,.slice none 0 0,.int .i64 0]:=by rw [hw0];exact Q1 hH _ _);obtain⟨i1,i2,i3,i4⟩:=(hc.fresh f0).2 0 hl0;rw [e0]at i1 i2 i3 i4;simp only [Nat.zero_mul,Nat.add_zero]at i1 i2 i3 i4;have hbl:=hc.1;have hx0:=hx t0 (by rw [<-e0];exact List.getElem_mem hl0);(have hn1I:¬((n:Int)<1):=by omega);have HC:=hd_ hc;have HN:=hd_ hn;have HX:=hd_ hx;have HX0:=hd_ hx0;have BC:=hd_ bc;have BR:=hd_ br;have F0:=hd_ f0;have HW:=hd_ hw0;have HH:=hd_ hH;have HBL:=hd_ hbl;clear hc hn hx hx0 bc br f0 hw0 hH hbl e0 h0 hl0;refine Q6 fun R hR=>?_;go_enter Tryz.func172,Tryz.ntmps172;go_upto_region 3 with fail;simp only [<-HH.out,<-HW.out];go_wp2_with fail;(have hsz:w0.heap.size=H+1:=by rw [HW.out,HH.out];simp);obtain⟨w1,hw1⟩:=nm_ (w0.alloc (.cells #[.int .i64 t0.mo,.int .i64 t0.lg,.slice t0.A t0.n t0.c,.int .i64 t0.x] 226));rw [<-hw1,hsz];(have f1:Q0 w0 w1:=by rw [hw1];exact(Upd.refl _ _).alloc _);have B1:=hd_ (show Blk w1 (H+1) 226 #[.int .i64 t0.mo,.int .i64 t0.lg,.slice t0.A t0.n t0.c,.int .i64 t0.x] by rw [hw1];exact Q1 hsz.symm _ _);have R1:=hd_ (BR.out.fresh f1);have F1:=hd_ (F0.out.trans' f1);clear i1 i2 i3 i4 f1 hw1 hsz;go_loopg [6] (n-1) (fun f i wr=>Upd (fun b=>b=H+1) w1 wr/\∃(k:Nat) (t:Ch),k+f=n/\i = .int .i64 k/\Blk wr (H+1) 226 #[.int .i64 t.mo,.int .i64 t.lg,.slice t.A t.n t.c,.int .i64 t.x]/\Jq t0 (ts.drop 1)=Jq t (ts.drop k)/\-(2^60)<=t.x/\t.x<=2^60)
 case atStart=>exact⟨Upd.refl _ _,1,t0,by omega,rfl,B1.out,rfl,HX0.out.1,HX0.out.2⟩
 case round =>
   obtain⟨ur,k,t,hk,rfl,bt,hgo,hx0,hx1⟩:=hrel;have HK:=hd_ hk;have HGO:=hd_ hgo;have BT:=hd_ bt;have UR:=hd_ ur;(have hH1:¬(b=H+1):=by have:=HBL.out;have:=HH.out;omega);have UW:=hd_ ((F1.out.mono (T:=fun b=>b=H+1) (fun _ _ h=>h.elim)).trans' ur);clear hk hgo ur;by_cases hlt:k<n
   . have hkt:k<ts.length:=by have:=HN.out;omega
     have hcr:=HC.out.upd UW.out hH1;have hxy:=HX.out ts[k] (List.getElem_mem hkt);have hdr:ts.drop k=ts[k]::ts.drop (k+1):=List.drop_eq_getElem_cons hkt;have hcc:=fun W (h:Q0 wr W)=>(hcr.fresh h).2 k hkt;obtain⟨y,hy⟩:=nm_ (ts[k]);rw [<-hy]at hxy hdr;simp only [<-hy]at hcc;have hbl:Blk wr pc 229 #[.func (.func 123) #[] #[]]:=BC.out.upd UW.out (by have:=BC.out.lt;have:=HH.out;omega)
     have hS:∀W,Q0 wr W->(Q0 wr W/\W.cell? ⟨b,o+k*4,none⟩=some (.int .i64 y.mo)/\W.cell? ⟨b,o+k*4+1,none⟩=some (.int .i64 y.lg)/\W.cell? ⟨b,o+k*4+2,none⟩=some (.slice y.A y.n y.c)/\W.cell? ⟨b,o+k*4+3,none⟩=some (.int .i64 y.x)/\W.cell? ⟨H+1,0,none⟩=some (.int .i64 t.mo)/\W.cell? ⟨H+1,1,none⟩=some (.int .i64 t.lg)/\W.cell? ⟨H+1,2,none⟩=some (.slice t.A t.n t.c)/\W.cell? ⟨H+1,3,none⟩=some (.int .i64 t.x)):=by
       intro W hW;have b2:=BT.out.fresh hW;obtain⟨q1,q2,q3,q4⟩:=hcc W hW;exact⟨hW,q1,q2,q3,q4,by simpa using b2.cell 0,by simpa using b2.cell 1,by simpa using b2.cell 2,by simpa using b2.cell 3⟩
     have HSS:=hd_ hS;have HCA:=hd_ (fun W (h:Q0 wr W)=>Q3T y.A t.A y.n y.c t.n t.c pc y.mo y.lg y.x t.mo t.lg t.x W hxy ⟨hx0,hx1⟩ (hbl.fresh h));have HDR:=hd_ hdr;have HXY:=hd_ hxy;(have hlI:(k:Int)<n:=by omega);have hw4:IntKind.i64.wrap ((k:Int)+1)=k+1:=IntWalk.i64_in _ (by omega);clear hcr hy hdr hcc hbl hS hxy bt;go_upto_region 7 with fail
     go_region_held3 (fun W=>Q0 wr W/\W.cell? ⟨b,o+k*4,none⟩=some (.int .i64 y.mo)/\W.cell? ⟨b,o+k*4+1,none⟩=some (.int .i64 y.lg)/\W.cell? ⟨b,o+k*4+2,none⟩=some (.slice y.A y.n y.c)/\W.cell? ⟨b,o+k*4+3,none⟩=some (.int .i64 y.x)/\W.cell? ⟨H+1,0,none⟩=some (.int .i64 t.mo)/\W.cell? ⟨H+1,1,none⟩=some (.int .i64 t.lg)/\W.cell? ⟨H+1,2,none⟩=some (.slice t.A t.n t.c)/\W.cell? ⟨H+1,3,none⟩=some (.int .i64 t.x))
       (first|exact HSS.out _ (by assumption)|exact HSS.out _ (And.left (by assumption))|exact HSS.out _ (Upd.refl _ _)|exact HSS.out _ (Upd.refl _ _).drew)
       (first
         | (go_at_call 173;refine(HCA.out _ (And.left (by assumption))).mono ?_;rintro e w' ⟨rfl,f2x⟩;have f3x:Q0 wr w':=Upd.trans' (And.left (by assumption)) f2x))
     all_goals
       obtain⟨fx,j1,j2,j3,j4,j5,j6,j7,j8⟩:=HSS.out _ (And.left (by assumption));have bw:=BT.out.fresh fx;have z0:=bw.frozen 0;have z1:=bw.frozen 1;have z2:=bw.frozen 2;have z3:=bw.frozen 3;have BW:=hd_ bw;have FX:=hd_ fx;clear bw fx;by_cases hlt2:y.x-t.x<0
       . go_wp2_with fail
         go_roundg (gk-1)
         case measure=>have:=HK.out;omega
         case rel =>
           refine⟨(((((UR.out.trans' (FX.out.mono (fun _ _ h=>h.elim))).setCell (p:=⟨H+1,0,none⟩) (fun _=>rfl) _).setCell (p:=⟨H+1,1,none⟩) (fun _=>rfl) _).setCell (p:=⟨H+1,2,none⟩) (fun _=>rfl) _).setCell (p:=⟨H+1,3,none⟩) (fun _=>rfl) _),k+1,y,by have:=HK.out;omega,by go_num,?_,?_,HXY.out.1,HXY.out.2⟩
           . simpa using(((BW.out.set_ 0 (.int .i64 y.mo)).set_ 1 (.int .i64 y.lg)).set_ 2 (.slice y.A y.n y.c)).set_ 3 (.int .i64 y.x)
           rw [HGO.out,HDR.out,Jq,if_pos (by omega)]
       go_wp2_with fail;go_roundg (gk-1)
       case measure=>have:=HK.out;omega
       case rel =>
         refine⟨UR.out.trans' (FX.out.mono (fun _ _ h=>h.elim)),k+1,t,by have:=HK.out;omega,by go_num,BW.out,?_,hx0,hx1⟩;rw [HGO.out,HDR.out,Jq,if_neg (by omega)]
   (obtain rfl:k=n:=by have:=HK.out;omega);have hd:ts.drop k=[]:=List.drop_eq_nil_of_le (by have:=HN.out;omega);have hg:=HGO.out;rw [hd,Jq]at hg;have HG2:=hd_ hg;have br:=R1.out.upd (S:=fun b=>b=H+1) UR.out (by omega);have r0:=br.cell 0;have r1:=br.cell 1;have r2:=br.cell 2;have r3:=br.cell 3;have z0:=br.frozen 0;have z1:=br.frozen 1;have z2:=br.frozen 2;have z3:=br.frozen 3;have q0:=BT.out.cell 0;have q1:=BT.out.cell 1;have q2:=BT.out.cell 2;have q3:=BT.out.cell 3;simp at r0 r1 r2 r3 q0 q1 q2 q3;have BRR:=hd_ br;clear hd hg br bt;go_wp2_with fail;refine bodyPost_ret (results_cell_row rfl _ _ H _ _ _ _ rfl ((((BRR.out.set_ 0 (.int .i64 t.mo)).set_ 1 (.int .i64 t.lg)).set_ 2 (.slice t.A t.n t.c)).set_ 3 (.int .i64 t.x)) Tryz.underlying226 rfl (by kernel_rfl)) rfl ?_;refine hR.out _ _ ⟨by rw [HG2.out];simp [Ch.val],?_⟩;have u1:Upd (fun b=>w.heap.size<=b) w wr:=(F1.out.mono (fun _ _ h=>h.elim)).trans' (UR.out.mono (T:=fun b=>w.heap.size<=b) (fun b _ h=>by have:=HH.out;omega));have u2:=((((u1.setCell (p:=⟨H,0,none⟩) (fun _=>by have:=HH.out;simp;omega) (.int .i64 t.mo)).setCell (p:=⟨H,1,none⟩) (fun _=>by have:=HH.out;simp;omega) (.int .i64 t.lg)).setCell (p:=⟨H,2,none⟩) (fun _=>by have:=HH.out;simp;omega) (.slice t.A t.n t.c)).setCell (p:=⟨H,3,none⟩) (fun _=>by have:=HH.out;simp;omega) (.int .i64 t.x));(exact u2.mono fun b hb h=>by omega)
theorem Q58 (b o cc n:Nat) (ts:List Ch) (t0:Ch) (w:World) (hc:Chs w b o ts) (hn:ts.length=n) (h0:ts[0]?=some t0) (hx:∀t∈ts,-(2^60)<=t.x/\t.x<=2^60) (hbig:n<=2^40) :
   Calls Tryz.prog 122 #[.slice (some ⟨b,o,none⟩) n cc,.func (.func 123) #[] #[]] w fun e w'=>e = .returned (Jq t0 (ts.drop 1)).val/\Q0 w w':=by
 have hmf:∀(fn:Fn) (first cap:Array Value) (w:World),(Instr.makeFunc fn first cap).run Tryz.prog w = .ok (.func fn first cap) w:=fun _ _ _ _=>rfl;obtain⟨H,hH⟩:=nm_ (w.heap.size);obtain⟨w0,hw0⟩:=nm_ ((w.alloc (.cells #[.func (.func 123) #[] #[]] 229)).alloc (.cells #[.int .i64 0,.int .i64 0,.slice none 0 0,.int .i64 0] 226));(have f0:Q0 w w0:=by rw [hw0];exact((Upd.refl _ _).alloc _).alloc _);(have bf:Blk w0 H 229 #[.func (.func 123) #[] #[]]:=by rw [hw0];exact(Q1 hH _ _).alloc _);(have br:Blk w0 (H+1) 226 #[.int .i64 0,.int .i64 0,.slice none 0 0,.int .i64 0]:=by rw [hw0];exact Q1 (by simp [hH]) _ _);have HK:=hd_ (Q7P b o cc n H ts t0 w0 (hc.fresh f0) hn h0 hx hbig bf);have BR:=hd_ br;have F0:=hd_ f0;have HW:=hd_ hw0;have HH:=hd_ hH;clear hc hn h0 hx f0 bf br hw0 hH;generalize Jq t0 (ts.drop 1)=t at *;unfold Ch.val at *;refine Q6 fun R hR=>?_;go_enter Tryz.func122,Tryz.ntmps122;go_upto_region 1 with fail;simp only [<-HH.out,<-HW.out];go_wp2_with fail;refine HK.out.mono ?_;rintro e w1 ⟨rfl,f1⟩;have br:=BR.out.fresh f1;have r0:=br.cell 0;have r1:=br.cell 1;have r2:=br.cell 2;have r3:=br.cell 3;have z0:=br.frozen 0;have z1:=br.frozen 1;have z2:=br.frozen 2;have z3:=br.frozen 3;simp at r0 r1 r2 r3;have BRR:=hd_ br;have F1:=hd_ (F0.out.trans' f1);clear br f1;go_wp2_with fail;refine bodyPost_ret (results_cell_row rfl _ _ (H+1) _ _ _ _ rfl ((((BRR.out.set_ 0 (.int .i64 t.mo)).set_ 1 (.int .i64 t.lg)).set_ 2 (.slice t.A t.n t.c)).set_ 3 (.int .i64 t.x)) Tryz.underlying226 rfl (by kernel_rfl)) rfl ?_;refine hR.out _ _ ⟨by simp,?_⟩;have u2:=(((((F1.out.mono (T:=fun b=>w.heap.size<=b) (fun _ _ h=>h.elim)).setCell (p:=⟨H+1,0,none⟩) (fun _=>by have:=HH.out;simp;omega) (.int .i64 t.mo)).setCell (p:=⟨H+1,1,none⟩) (fun _=>by have:=HH.out;simp;omega) (.int .i64 t.lg)).setCell (p:=⟨H+1,2,none⟩) (fun _=>by have:=HH.out;simp;omega) (.slice t.A t.n t.c)).setCell (p:=⟨H+1,3,none⟩) (fun _=>by have:=HH.out;simp;omega) (.int .i64 t.x));(exact u2.mono fun b hb h=>by omega)
end Go.Proofs.YtjfdaphjijfieaaGreat
