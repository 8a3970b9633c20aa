/- Contracts and plain lemmas, part 25. Conditions: none beyond those of each. -/
import Derived.Test.YtckjdhaflokcgaaGreatR24
set_option maxHeartbeats 4000000
set_option linter.unusedVariables false
set_option linter.unusedSimpArgs false
set_option linter.unnecessarySimpa false
set_option maxRecDepth 100000
namespace Go.Proofs.YtckjdhaflokcgaaGreat
open Go.RowKit Go.Proofs.Tryz
theorem Ji.cells {w W:World} {Ls:Nat->List Nat} {v:Value} (h:Ji w Ls 4 v W):∃P c,v = .slice P 4 c /\
   ∀W',Q0 W W'->∀i,i<4->∃b o A n d,P=some ⟨b,o,none⟩/\b<W'.heap.size/\W'.cell? ⟨b,o+i,none⟩=some (.slice A n d)/\Rd W' (λ_=>True) A n (Q2 (Ls i)):=by
 obtain⟨vs,hvl,ov,fv,ob,one,hp⟩:=h;obtain⟨P,c,rfl,hc,hr⟩:=ov.form;rw [hvl]at hr hp|-;refine⟨P,c,rfl,λW' hu i h4=>?_⟩;obtain⟨b,o,hP,_,hb,hcell⟩:=(hr.fresh hu).at_ (k:=i) h4;obtain⟨A,n,d,hv,hrd⟩:=hp i h4;rw [hv]at hcell;exact⟨b,o,A,n,d,hP,hb,hcell,(hrd.fresh hu).mono λ_ _=>trivial⟩
theorem Q5i (cb:List Nat) (i:Nat):(YR cb 0 i).length<=cb.length/\∀b∈YR cb 0 i,b∈cb:=by
 unfold YR;split
 . exact⟨by rw [List.length_take,List.length_drop];omega,λb hb=>List.mem_of_mem_drop (List.mem_of_mem_take hb)⟩
 exact⟨by rw [List.length_drop];omega,λb hb=>List.mem_of_mem_drop hb⟩
def Q3V (l:List Int) (cb:List Nat) (k:Nat) (w:World) (e:Ending) (w':World):Prop :=
  match QZ l cb k with
  | .inl er=>∃v,e = .returned (.tuple #[v,.int .i64 er])/\Q0 w w'
  | .inr _=>∃v,e = .returned (.tuple #[v,.int .i64 0])/\Ji w (λi=>(pD l cb k i).getD []) 4 v w'
theorem Q4G (F G:Nat->Prop) (A B:Option Addr) (n c m d k:Nat) (l:List Int) (cb:List Nat) (w:World) (hr:Rd w F A n (Q7 l)) (hbs:Rd w G B m (Q2 cb)) (hlt:∀b∈cb,b<256) (hn:n<=2^40) (hm:m<=100000) (hd:m<=d) (hk:k<=131072) :
   Calls prog 117 #[.slice A n c,.slice B m d,.int .i64 (k:Nat)] w (Q3V l cb k w):=by
 (have hL:cb.length=m:=by have:=hbs.1;simpa using this);have HRI:=hd_ (KW F A n c l w hr hn);have HPT:=hd_ (Q5O k ((k+3) / 4) w hk rfl);have HST:=hd_ (λW (hW:Q0 w W)=>Q6a G B m d cb W (hbs.fresh hW) hlt hm hd);have HDE:=hd_ (λW (hW:Q0 w W) A' n' c' i (h:Rd W (λ_=>True) A' n' (Q2 (YR cb 0 i)))=>Q1C F _ A A' n c n' c' (nfF k i) l (YR cb 0 i) W (hr.fresh hW) h (λb hb=>hlt b ((Q5i cb i).2 b hb)) hn (by have h1:=h.1;have h2:=(Q5i cb i).1;simp at h1;omega) (by unfold nfF;split<;>omega));(have hkI:(k:Int)<=131072:=by omega);clear hr hbs hlt hn hm hd hk hL;unfold Q3V;by_cases ht:Qc l
 case neg =>
   rw [decide_eq_false ht]at HRI;(have e:QZ l cb k = .inl 12:=by unfold QZ;rw [if_neg ht]);simp only [e];clear ht e;refine Q8 λR hR=>?_;go_enter func117,ntmps117;go_wp2_with fail;refine HRI.mono ?_;rintro e w' ⟨rfl,rfl⟩;go_wp2_with fail;(try go_ret3);exact hR _ _ ⟨_,rfl,Upd.refl _ _⟩
 rw [decide_eq_true ht]at HRI;by_cases h11:k<=3*((k+3) / 4)
 . simp only [if_pos h11]at HPT
   (have e:QZ l cb k = .inl 11:=by unfold QZ;rw [if_pos ht,if_pos h11]);simp only [e];clear ht e h11;refine Q8 λR hR=>?_;go_enter func117,ntmps117;go_wp2_with fail;refine HRI.mono ?_;rintro e w' ⟨rfl,rfl⟩;go_wp2_with fail;refine HPT.mono ?_;rintro e w' ⟨rfl,rfl⟩;go_wp2_with fail;(try go_ret3);exact hR _ _ ⟨_,rfl,Upd.refl _ _⟩
 simp only [if_neg h11]at HPT
 have HFE:=hd_ (show(YY cb 0≠0->QZ l cb k = .inl (YY cb 0))/\(YY cb 0=0->¬stF cb 0 3<=cb.length->QZ l cb k = .inl 3)/\(YY cb 0=0->stF cb 0 3<=cb.length->(∀i,i<4->pD l cb k i≠none)->QZ l cb k = .inr (Zu l cb k 4))/\(YY cb 0=0->stF cb 0 3<=cb.length->∀i,i<4->pD l cb k i=none->QZ l cb k = .inl 14)from by
   unfold QZ;rw [if_pos ht,if_neg h11];refine⟨λh=>by rw [if_neg h],λh h2=>by rw [if_pos h,if_neg h2],λh h2 h3=>?_,λh h2 i hi h3=>?_⟩
   . rw [if_pos h,if_pos h2,if_pos]
     rw [List.all_eq_true];intro i hi;exact Option.isSome_iff_ne_none.2 (h3 i (List.mem_range.1 hi))
   rw [if_pos h,if_pos h2,if_neg];intro h4;have:=List.all_eq_true.1 h4 i (List.mem_range.2 hi);rw [h3]at this
   cases this)
 simp only [if_pos ht]at HDE;clear ht h11;refine Q8 λR hR=>?_;go_enter func117,ntmps117;go_wp2_with fail;refine HRI.mono ?_;rintro e w' ⟨rfl,rfl⟩;go_wp2_with fail;refine HPT.mono ?_;rintro e w1 ⟨g,rfl,f1,hg,bg⟩;have HS1:=hd_ (HST w1 f1);unfold Q69 at HS1
 have HPC:=hd_ (show ∀W,Q0 w1 W->∀i,i<4->W.cell? ⟨g,i,none⟩=some (.int .i64 (nfF k i:Nat))from λW hW i hi=>by
   have b:=bg.fresh hW;rcases(show i=0\/i=1\/i=2\/i=3 by omega)with rfl|rfl|rfl|rfl
   . exact b.cell 0
   . exact b.cell 1
   . exact b.cell 2
   exact b.cell 3)
 have F1:=hd_ f1;clear f1 hg bg HRI HPT HST;by_cases hE:YY cb 0=0
 case neg =>
   simp only [if_neg hE]at HS1;have e:=HFE.1 hE;simp only [e]at hR;(have hb:(YY cb 0 != 0)=true:=by simpa using hE);generalize YY cb 0=er at *;clear hE e HFE;go_wp2_with fail;refine HS1.mono ?_;rintro e w2 ⟨rfl,f2⟩;have F2:=hd_ (F1.trans' f2);clear f2 HS1;go_wp2_with fail;(try go_ret3);exact hR _ _ ⟨_,rfl,F2.out⟩
 simp only [if_pos hE]at HS1;by_cases hS:stF cb 0 3<=cb.length
 case neg =>
   simp only [if_neg hS]at HS1;have e:=HFE.2.1 hE hS;simp only [e]at hR;clear hE hS e HFE;go_wp2_with fail;refine HS1.mono ?_;rintro e w2 ⟨rfl,f2⟩;have F2:=hd_ (F1.trans' f2);clear f2 HS1;go_wp2_with fail;(try go_ret3);exact hR _ _ ⟨_,rfl,F2.out⟩
 simp only [if_pos hS]at HS1;have HOK:=hd_ (HFE.2.2.1 hE hS);have HNO:=hd_ (HFE.2.2.2 hE hS);clear hE hS HFE;go_wp2_with fail;refine HS1.mono ?_;rintro e w2 ⟨v,rfl,he⟩;obtain⟨P,pc,rfl,hcells⟩:=he.cells;have HCE:=hd_ hcells;have F12:=hd_ (show Q0 w1 w2 by obtain⟨_,_,_,fv,_⟩:=he;exact fv);clear he hcells HS1;go_wp2_with fail;go_loopg [11,12] 4 (λf vo vi wr=>∃i:Nat,i+f=4/\vi = .int .i64 (i:Nat)/\Ji w2 (λi=>(pD l cb k i).getD []) i vo wr/\∀j,j<i->pD l cb k j≠none)
 case atStart=>exact⟨0,rfl,rfl,⟨[],rfl,Own.nil _ _,Upd.refl _ _,by simp [Value.ownBlock],by simp,λj hj=>absurd hj (Nat.not_lt_zero _)⟩,λj hj=>absurd hj (Nat.not_lt_zero _)⟩
 case round =>
   obtain⟨i,hi,rfl,hE,hall⟩:=hrel;obtain⟨w3,rfl⟩:=nm_ (wr);obtain⟨vs,hvl,ov,fv,ob,one,hp⟩:=hE;obtain⟨A9,n9,c9,rfl,hn9⟩:=ov.form';have HE:=hd_ (And.intro hvl (And.intro ov (And.intro fv (And.intro ob (And.intro one hp)))));have HI:=hd_ hi;have HALL:=hd_ hall;clear hvl ov ob one hp hi hn9 hall;by_cases hlt:i<4
   . have hlI:(i:Int)<4:=by omega
     obtain⟨b,o,A5,n5,c5,rfl,hbl,hce,hrd⟩:=HCE w3 fv i hlt;have hpc:=HPC w3 (F12.trans' fv) i hlt;have HD:=hd_ (HDE w3.drew ((F1.trans' (F12.trans' fv)).drew) A5 n5 c5 i hrd.drew);have HPD:=hd_ (show pD l cb k i=Jb l (YR cb 0 i) (nfF k i)from rfl);obtain⟨q,hq⟩:=nm_ (nfF k i);(have hqb:q<=131072:=by rw [hq];unfold nfF;split<;>omega);(have hqI:(q:Int)<=131072:=by omega);simp only [<-hq]at hpc HD HPD;have HLI:=hd_ hlt;have FV:=hd_ fv;have HQ:=hd_ hq;clear hrd hq hqb hlt fv
     have HSS:=hd_ (show ∀W,Q0 w3 W->W.cell? ⟨b,o+i,none⟩=some (.slice A5 n5 c5)/\W.cell? ⟨g,i,none⟩=some (.int .i64 (q:Nat))from λW hW=>⟨(hW.cells b (o+i) hbl).trans hce,by
       have h:=HPC W (F12.trans' (FV.trans' hW)) i HLI.out;rw [<-HQ.out]at h
       exact h⟩)
     clear hce hpc hbl;obtain⟨s1,s2⟩:=HSS _ ((Upd.refl _ w3).drew)
     cases ho:Jb l (YR cb 0 i) q with
     | none =>
       rw [ho]at HD HPD;unfold YQ at HD;have e:=HNO i HLI.out HPD.out;simp only [e]at hR;clear ho e;go_wp2_with fail
       go_region_held3 (λW=>W.cell? ⟨b,o+i,none⟩=some (.slice A5 n5 c5)/\W.cell? ⟨g,i,none⟩=some (.int .i64 (q:Nat)))
         (first|exact⟨s1,s2⟩|exact HSS _ ux)
         (first
           | (go_at_call 58;refine HD.mono ?_;rintro e w4 ⟨rfl,f4⟩;have ux:Q0 w3 w4:=((Upd.refl _ w3).drew).trans' f4))
       (all_goals go_wp2_with fail);(all_goals try go_ret3);(all_goals exact hR _ _ ⟨_,rfl,((F1.trans' F12.out).trans' FV.out).trans' ux⟩)
     | some x =>
       rw [ho]at HD HPD;unfold YQ at HD;clear ho HNO HOK;have HGX:=hd_ (show(pD l cb k i).getD []=x by rw [HPD.out];rfl);have HNE:=hd_ (show pD l cb k i≠none by rw [HPD.out];simp);go_wp2_with fail
       go_region_held3 (λW=>W.cell? ⟨b,o+i,none⟩=some (.slice A5 n5 c5)/\W.cell? ⟨g,i,none⟩=some (.int .i64 (q:Nat)))
         (first|exact⟨s1,s2⟩|exact HSS _ ux)
         (first
           | (go_at_call 58;refine HD.mono ?_;rintro e w4 ⟨v4,rfl,nb⟩;have ux:Q0 w3 w4:=((Upd.refl _ w3).drew).trans' nb.2.1))
       obtain⟨A1,n1,c1,rfl,hn1⟩:=nb.1.form';have NB:=hd_ (show Qu w3 w4 (.slice A1 n1 c1) x from Qu.up ((Upd.refl _ w3).drew) nb);clear nb hn1 s1 s2 ux HD HDE;obtain⟨P2,hP⟩:∃P,P=w4.heap.size:=⟨_,rfl⟩;obtain⟨w5,hw5⟩:=nm_ (w4.alloc (.cells #[.slice A1 n1 c1] 22));(have f5:Q0 w4 w5:=by rw [hw5];exact(Upd.refl _ _).alloc _);(have b5:Blk w5 P2 22 #[.slice A1 n1 c1]:=by rw [hw5];exact Qb hP _ _);have RB:=hd_ (show Rd w5 (λ_=>True) (some ⟨P2,0,none⟩) 1 [.slice A1 n1 c1]from by simpa using Blk.rds b5);have O5:=hd_ (HE.2.1.fresh (NB.2.1.trans' f5));have F5:=hd_ f5;have HW5:=hd_ hw5;have HP5:=hd_ hP;have HVL:=hd_ HE.1;clear f5 b5 hw5 hP;go_wp2_with (at_builtin;simp only [<-HP5.out,<-HW5.out];go_must (refine Qm _ rfl (.tmp 55) (.tmp 57) _ rfl 22 _ 24 underlying117 VX rfl (.slice A9 n9 c9) _ rfl O5.out _ _ _ _ rfl RB.out (by simp [Value.oneCell']) (by omega) (by have:=HVL.out;have:=HI.out;simp;omega) ?_));intro v6 w6 ho hg6 ha;have E6:=hd_ (Ji.step (Ls:=λi=>(pD l cb k i).getD []) HVL.out HE.2.1 HE.2.2.1 HE.2.2.2.1 HE.2.2.2.2.1 HE.2.2.2.2.2 (by simp only [HGX.out];exact NB.out) F5.out ho hg6 ha);clear ho hg6 ha O5 RB F5 HW5 HP5;go_wp2_with fail;go_roundg (gk-1)
       case measure=>have:=HI.out;have:=HLI.out;omega
       case rel =>
         refine⟨i+1,by have:=HI.out;have:=HLI.out;omega,by go_num,E6.out,λj hj=>?_⟩;rcases Nat.lt_succ_iff_lt_or_eq.1 hj with h|rfl
         . exact HALL j h
         exact HNE.out
   (have h4:i=4:=by have:=HI.out;omega);subst h4;(have hnl:¬((4:Nat):Int)<4:=by omega);have e:=HOK (λj hj=>HALL j hj);simp only [e]at hR;clear hlt e;go_wp2_with fail;(try go_ret3);exact hR _ _ ⟨_,rfl,Ji.up ⟨vs,HE.out⟩ (F1.trans' F12.out)⟩
theorem Q6m (F G:Nat->Prop) (A B:Option Addr) (n c m d k:Nat) (l:List Int) (cb:List Nat) (w:World) (hr:Rd w F A n (Q7 l)) (hbs:Rd w G B m (Q2 cb)) (hlt:∀b∈cb,b<256) (hn:n<=2^40) (hm:m<=100000) (hd:m<=d) (hk:k<=131072) :
   Calls prog 59 #[.slice A n c,.slice B m d,.int .i64 (k:Nat)] w (Kd (QZ l cb k) w):=by
 have HEA:=hd_ (Q4G F G A B n c m d k l cb w hr hbs hlt hn hm hd hk);unfold Q3V at HEA;have HAC:=hd_ (λi=>Q12 (l:=l) (cb:=cb) hk i)
 have HX:=hd_ (λx (h:QZ l cb k = .inr x)=>show x=Zu l cb k 4 from by
   unfold QZ at h;split at h
   . split at h
     . cases h
     split at h
     . split at h
       . split at h
         . injection h with h;exact h.symm
         cases h
       cases h
     cases h
   cases h)
 have HPL:=hd_ (λi=>show((pD l cb k i).getD []).length<=131072 from by
   cases h:pD l cb k i with
   | none=>simp
   | some y =>
     have h1:=Q11 h;(have h2:nfF k i<=131072:=by unfold nfF;split<;>omega)
     simp only [Option.getD_some];omega)
 unfold Kd;clear hr hbs hlt hn hm hd hk;refine Q8 λR hR=>?_
 cases hq:QZ l cb k with
 | inl er =>
   simp only [hq]at HEA hR;(have hb:(er != 0)=true:=by simpa using Q14 hq);clear hq HX HPL;go_enter func59,ntmps59;go_wp2_with fail;refine HEA.mono ?_;rintro e w1 ⟨v,rfl,f1⟩;have F1:=hd_ f1;clear f1 HEA;go_wp2_with fail;(try go_ret3);exact hR _ _ ⟨rfl,F1.out⟩
 | inr x =>
   have hx:=HX x hq;simp only [hq]at HEA hR;rw [hx]at hR;clear hq hx HX;go_enter func59,ntmps59;go_wp2_with fail;refine HEA.mono ?_;rintro e w1 ⟨v,rfl,he⟩;obtain⟨P,pc,rfl,hcells⟩:=he.cells;have HCE:=hd_ hcells;have F1:=hd_ (show Q0 w w1 by obtain⟨_,_,_,fv,_⟩:=he;exact fv);clear he hcells HEA;go_wp2_with fail;go_loopg [10,11] 4 (λf vo vi wr=>∃i:Nat,i+f=4/\vi = .int .i64 (i:Nat)/\Qu w1 wr vo (Zu l cb k i))
   case atStart=>exact⟨0,rfl,rfl,by simpa [Zu,Q2]using(show Qu w1 w1 (.slice none 0 0) []from⟨Own.nil _ _,Upd.refl _ _,by simp [Value.ownBlock]⟩)⟩
   case round =>
     obtain⟨i,hi,rfl,nb⟩:=hrel;have NB:=hd_ nb;have HI:=hd_ hi;obtain⟨A9,n9,c9,rfl,hn9⟩:=nb.1.form';clear nb hi hn9;by_cases hlt:i<4
     . have hlI:(i:Int)<4:=by omega
       obtain⟨b,o,A5,n5,c5,rfl,hbl,hce,hrd⟩:=HCE wr NB.2.1 i hlt;have HRD:=hd_ hrd
       have HLE:=hd_ (show(Q2 (Zu l cb k i)).length+n5<=2^40 from by
         have h1:=HAC i;have h2:=HPL i;have h3:=hrd.1;simp only [QL]at h3|-
         omega)
       have HLI:=hd_ hlt;have HSC:=hd_ (Vz l cb k i);clear hrd hlt hbl;go_wp2_with (at_builtin;go_must (refine Qm _ rfl (.tmp 26) (.tmp 30) _ rfl 5 _ 1 underlying22 JX rfl (.slice A9 n9 c9) _ rfl NB.1 _ _ _ _ rfl HRD.out (Jo _) (by omega) HLE.out ?_));intro v3 w3 ho hg ha;have N3:=hd_ (NB.app ho hg ha);clear ho hg ha;go_wp2_with fail;go_roundg (gk-1)
       case measure=>have:=HI.out;have:=HLI.out;omega
       case rel=>exact⟨i+1,by have:=HI.out;have:=HLI.out;omega,by go_num,by rw [HSC.out];exact N3.out⟩
     (have h4:i=4:=by have:=HI.out;omega);subst h4;(have hnl:¬((4:Nat):Int)<4:=by omega);clear hlt;go_wp2_with fail;(try go_ret3);exact hR _ _ ⟨_,rfl,Qu.up F1.out NB.out⟩
theorem Q6n {l:List Int}:l.count 1=0 ↔ (1:Int) ∉ l:=List.count_eq_zero
theorem Q4H (F:Nat->Prop) (A:Option Addr) (n c:Nat) (ws:List Int) (w:World) (hr:Rd w F A n (Q7 ws)) (hn:n<=2^40) :
   Calls prog 161 #[.slice A n c] w λe w'=>e = .returned (if okW ws then .tuple #[.int .i64 (Zx ws:Nat),.int .i64 (J8 ws:Nat),.int .i64 0]else .tuple #[.int .i64 0,.int .i64 0,.int .i64 12])/\Q0 w w':=by
 (have hL:ws.length=n:=by have:=hr.1;simpa using this);have HR:=hd_ hr;have HL:=hd_ hL;refine Q8 λR hR=>?_;go_enter func161,ntmps161;have HNX:=hd_ (fun(h:¬okW ws) w' (hf:Q0 w w')=>hR (.returned (.tuple #[.int .i64 0,.int .i64 0,.int .i64 12])) w' ⟨by rw [if_neg h],hf⟩);have HNO:=hd_ (fun(h:¬okW ws)=>hR (.returned (.tuple #[.int .i64 0,.int .i64 0,.int .i64 12])) w ⟨by rw [if_neg h],Upd.refl _ _⟩);(have hn40:(n:Int)<=1099511627776:=by omega);(have hn0:(0:Int)<=n:=by omega);by_cases h0:0<n/\n<256
 case neg =>
   have hno:¬okW ws:=λh=>h0 ⟨by have:=h.1;omega,by have:=h.2.1;omega⟩;have HN2:=hd_ (HNO hno);by_cases hz:n=0
   . subst hz
     clear h0 hno HNO hr hn hL hR;go_wp2_with fail;(try go_ret3);exact HN2.out
   (have hz1:(255:Int)<n:=by omega);clear h0 hno HNO hr hn hL hz hR hn0;go_wp2_with fail;(try go_ret3);exact HN2.out
 (have h0I:0<(n:Int):=by omega);(have h1I:(n:Int)<=255:=by omega);have HN:=hd_ h0;clear h0 hr hn hL hn40 hn0;go_wp2_with fail;go_loopg [5,6,7] n (λf vs vo vi wz=>w=wz/\∃k:Nat,k+f=n/\vi = .int .i64 (k:Nat)/\vs = .int .i64 (JQ (ws.take k):Nat)/\vo = .int .i64 ((ws.take k).count 1:Nat)/\∀x∈ws.take k,0<=x/\x<=11)
 case atStart=>exact⟨rfl,0,by omega,rfl,by simp [JQ],by simp,by simp⟩
 case round =>
   obtain⟨rfl,k,hk,rfl,rfl,rfl,hall⟩:=hrel;have HK:=hd_ hk;have HA:=hd_ hall;have hsb:=Q2D hall;have hsl:=List.length_take_le k ws;have hcl:(ws.take k).count 1<=k:=Nat.le_trans List.count_le_length hsl;by_cases hlt:k<n
   . have hlI:(k:Int)<n:=by omega
     obtain⟨b,o,hkl,rfl,_,hc⟩:=HR.int (k:=k) hlt;have HTK:=hd_ (show ws.take (k+1)=ws.take k++[ws[k]]from List.take_succ_eq_append_getElem hkl);have HME:=hd_ (List.getElem_mem hkl);obtain⟨z,hz⟩:=nm_ (ws[k]);simp only [<-hz]at hc HTK HME;obtain⟨S,hS⟩:=nm_ (JQ (ws.take k));obtain⟨O,hO⟩:=nm_ ((ws.take k).count 1);have HSS:=hd_ hS;have HOO:=hd_ hO;rw [<-hS]at hsb;simp only [<-hS,<-hO]at hcl|-;(have hSI:(S:Int)<=262144:=by have:=HN.2;omega);(have hkI:(k:Int)<=256:=by omega);(have hOI:(O:Int)<=256:=by omega);have HLT:=hd_ hlt;clear hz hS hO hk hall hsb hsl hcl hlt;by_cases hb:0<=z/\z<=11
     . obtain⟨hz0,hz11⟩:=hb
       by_cases hzz:z=0
       . subst hzz
         clear hz0 hz11;go_wp2_with fail;go_roundg (gk-1)
         case measure=>have:=HK.out;have:=HLT.out;omega
         case rel =>
           refine⟨rfl,k+1,by have:=HK.out;have:=HLT.out;omega,by go_num,?_,?_,?_⟩
           . rw [HTK.out,Q0d,<-HSS.out];go_num
           . rw [HTK.out,List.count_append,<-HOO.out];simp
           rw [HTK.out];intro x hx;rcases List.mem_append.1 hx with h|h;exact HA x h;rw [List.mem_singleton.1 h];omega
       obtain⟨q,rfl⟩:∃q:Nat,z=(q:Int)+1:=⟨(z-1).toNat,by omega⟩;(have hq10:q<=10:=by omega);(have hqI:(q:Int)<=10:=by omega);obtain⟨p,hp⟩:=nm_ (2^q);(have hpI:(2:Int)^q=(p:Nat):=by rw [hp];simp)
       have hpb:(p:Int)<=1024:=by
         have:=Nat.pow_le_pow_right (n:=2) (by decide) hq10;omega
       have HP:=hd_ (show JQ (ws.take (k+1))=S+p from by rw [HTK.out,Q0d,<-HSS.out,if_pos (by omega),hp];congr 2);have HAL2:=hd_ (show ∀x∈ws.take (k+1),0<=x/\x<=11 from by rw [HTK.out];intro x hx;rcases List.mem_append.1 hx with h|h;exact HA x h;rw [List.mem_singleton.1 h];omega);have HC2:=hd_ (show(ws.take (k+1)).count 1=O+if q=0 then 1 else 0 from by rw [HTK.out,List.count_append,<-HOO.out,List.count_singleton];congr 1;by_cases h:q=0<;>simp [h]<;>omega);clear hp hzz hz0 hz11 hq10;by_cases hq0:q=0
       . subst hq0
         go_wp2_with fail;go_roundg (gk-1)
         case measure=>have:=HK.out;have:=HLT.out;omega
         case rel=>exact⟨rfl,k+1,by have:=HK.out;have:=HLT.out;omega,by go_num,by rw [HP.out];go_num,by rw [HC2.out];go_num,HAL2.out⟩
       (have hq1:(0:Int)<q:=by omega);(have hq1b:((q:Int) == 0)=false:=by simp;omega);have HQ0:=hd_ hq0;clear hq0;go_wp2_with fail;go_roundg (gk-1)
       case measure=>have:=HK.out;have:=HLT.out;omega
       case rel=>exact⟨rfl,k+1,by have:=HK.out;have:=HLT.out;omega,by go_num,by rw [HP.out];go_num,by rw [HC2.out,if_neg HQ0.out];go_num,HAL2.out⟩
     have hno:¬okW ws:=λh=>hb (h.2.2.1 z HME.out);have HN2:=hd_ (HNO hno);clear hno HNO;by_cases hz0:0<=z
     . have hz11:11<z:=by omega
       clear hb;go_wp2_with fail;(try go_ret3);exact HN2.out
     (have hz11:z<0:=by omega);clear hb hz0;go_wp2_with fail;(try go_ret3);exact HN2.out
   (have hkn:k=n:=by omega);subst hkn;rw [List.take_of_length_le (by have:=HL.out;omega)]at hall hsb hcl|-;have HAL:=hd_ hall;have HON:=hd_ (show(1:Int)∈ws ↔ ws.count 1≠0 from by rw [Ne,Q6n,Classical.not_not]);obtain⟨O,hO⟩:=nm_ (ws.count 1);simp only [<-hO]at hcl HON|-;(have hOI:(O:Int)<=256:=by have:=HN.2;omega);obtain⟨S,hS⟩:=nm_ (JQ ws);obtain⟨T,hT⟩:=nm_ (Lib.bitLen S);(have hS18:S<=262144:=by rw [hS];have:=HL.out;have:=HN.2;omega);by_cases hS0:S=0
   . have hno:¬okW ws:=λh=>by have:=h.2.2.2.1;omega
     have HN2:=hd_ (HNO hno);rw [<-hS,hS0];clear hno HNO hS hT hS18 hsb hsl hcl hO hall hlt;go_wp2_with fail;(try go_ret3);exact HN2.out
   have hTS:S<2^T/\T<=19/\1<=T/\2^(T-1)<=S:=by
     obtain⟨h1,h2,h3⟩:=ZW (m:=S) (by omega) hS0;rw [<-hT]at h1 h2 h3;refine⟨h3,?_,h1,h2⟩;rcases Nat.lt_or_ge T 20 with h4|h4
     . omega
     exfalso;have:=Nat.pow_le_pow_right (n:=2) (by decide) (show 19<=T-1 by omega);omega
   obtain⟨PT,hPT⟩:=nm_ (2^T);(have hPT2:PT<=524288:=by rw [hPT];exact Nat.pow_le_pow_right (n:=2) (by decide) hTS.2.1);obtain⟨Q,hQ⟩:=nm_ (PT-S);obtain⟨h1,h2,h3⟩:=ZW (m:=Q) (by omega) (by rw [hQ,hPT];omega);obtain⟨L1,hL1⟩:=nm_ (Lib.bitLen Q-1);rw [<-hL1]at h2;(have hLA:Lib.bitLen Q=L1+1:=by omega);rw [hLA]at h3
   have hokw:okW ws ↔ (T<=11/\Q=2^L1/\(O≠0\/L1=0)):=by
     (have e1:Zx ws=T:=by unfold Zx;rw [<-hS,hT]);(have e2:J8 ws=L1+1:=by unfold J8;rw [e1,<-hS,<-hPT,<-hQ,hLA]);unfold okW;rw [e1,e2,<-hS,<-hPT,<-hQ,Nat.add_sub_cancel,List.mem_append,HON.out,List.mem_singleton];have:=HL.out;have:=HN.out;constructor
     . intro h
       exact⟨h.2.2.2.2.1,h.2.2.2.2.2.1,by rcases h.2.2.2.2.2.2 with h|h;exact .inl h;exact .inr (by omega)⟩
     intro h;exact⟨by omega,by omega,hall,by omega,h.1,h.2.1,by rcases h.2.2 with h|h;exact .inl h;exact .inr (by omega)⟩
   have htl:Zx ws=T/\J8 ws=L1+1:=by
     (have e1:Zx ws=T:=by unfold Zx;rw [<-hS,hT]);exact⟨e1,by unfold J8;rw [e1,<-hS,<-hPT,<-hQ,hLA]⟩
   have HTL:=hd_ htl;have HOK:=hd_ hokw;have HTS:=hd_ hTS;have HPT:=hd_ hPT;have HQ:=hd_ hQ;have HL1:=hd_ (And.intro h2 h3);rw [htl.1,htl.2]at hR;rw [<-hS];(have hSI:(S:Int)<=262144:=by omega);(have hS0I:(0:Int)<S:=by omega);(have hPTI:(PT:Int)<=524288:=by omega);(have hQd:(PT:Int)-S=Q:=by omega);(have hQI:(Q:Int)<=524288:=by omega);have HPOW:=hd_ (show ∀j,j<=20->∃p:Nat,p=2^j/\(2:Int)^j=(p:Nat)/\(p:Int)<=1048576 from λj hj=>⟨2^j,rfl,by simp,by have:=Nat.pow_le_pow_right (n:=2) (by decide) hj;omega⟩);have HSB:=hd_ (And.intro hS18 hS0);clear hk hlt hall hsb hsl hS hT hS18 hS0 hTS hPT hPT2 hQ h1 h2 h3 hL1 hLA hokw htl HA HK hO hcl;go_wp2_with fail;go_loopg [8] T (λf vk wz=>w=wz/\∃j:Nat,j+f=T/\vk = .int .i64 (j:Nat))
   case atStart=>exact⟨rfl,0,by omega,rfl⟩
   case round =>
     obtain⟨rfl,j,hj,rfl⟩:=hrel;obtain⟨p,hp,hpI,hpb⟩:=HPOW j (by have:=HTS.2.1;omega);have HJ:=hd_ hj;have HP:=hd_ hp;(have hjT:j<=20:=by have:=HTS.2.1;omega);(have hjI:(j:Int)<=20:=by omega);(have hj0:(0:Int)<=j:=by omega);clear hj hp hjT;by_cases hle:p<=S
     . have hleI:(p:Int)<=S:=by omega
       have HLT:=hd_ (show j<T from by
         rcases Nat.lt_or_ge j T with h|h
         . exact h
         exfalso;have:=Nat.pow_le_pow_right (n:=2) (by decide) h;have:=HTS.1;rw [HP.out]at hle
         omega)
       clear hle;go_wp2_with fail;go_roundg (gk-1)
       case measure=>have:=HJ.out;have:=HLT.out;omega
       case rel=>exact⟨rfl,j+1,by have:=HJ.out;have:=HLT.out;omega,by go_num⟩
     (have hleI:(S:Int)<p:=by omega)
     have hjT:j=T:=by
       rcases Nat.lt_or_ge j T with h|h
       . exfalso
         have h2:=Nat.pow_le_pow_right (n:=2) (by decide) (show j<=T-1 by omega);have:=HTS.2.2.2;rw [HP.out]at hle;omega
       have:=HJ.out;omega
     subst hjT;(have hpP:p=PT:=by rw [HP.out,HPT.out]);subst hpP;clear hle;go_wp2_with fail;go_loopg [9] 11 (λf vv wz=>Q0 w wz/\∃u:Nat,u+f=11/\vv = .int .i64 ((u:Int)+1)/\∀i,i<u->2^i<Q)
     case atStart=>exact⟨Upd.refl _ _,0,by omega,rfl,by omega⟩
     case round =>
       obtain⟨fz,u,hu,rfl,hall⟩:=hrel;obtain⟨r,hr,hrI,hrb⟩:=HPOW u (by omega);have HU:=hd_ hu;have HRR:=hd_ hr;have FZ:=hd_ fz;have HAU:=hd_ hall;(have huI:(u:Int)<=11:=by omega);(have hu0:(0:Int)<=u:=by omega)
       have HOKK:=hd_ (show Q<=r\/u=11->(okW ws ↔ (j<=11/\r=Q/\(O≠0\/u=0)))/\(j<=11->r=Q->L1=u)from λhex=>by
         have hLu:j<=11->(r=Q ↔ Q=2^L1)/\(r=Q->L1=u):=by
           intro hj11
           have hQ11:Q<2^11:=by
             have h1:=HQ.out;have h2:=Nat.pow_le_pow_right (n:=2) (by decide) hj11;have h3:=HPT.out;have h4:=HSB.2;omega
           have hl1:=HL1.out
           have hLle:L1<=10:=by
             rcases Nat.lt_or_ge L1 11 with h|h
             . omega
             have:=Nat.pow_le_pow_right (n:=2) (by decide) h;omega
           have hrq:r=Q->L1=u:=by
             intro h;(have h1:2^u=Q:=by rw [<-hr];exact h);rcases Nat.lt_trichotomy L1 u with h2|h2|h2
             . have:=Nat.pow_le_pow_right (n:=2) (by decide) (show L1+1<=u by omega);omega
             . exact h2
             have:=Nat.pow_lt_pow_right (a:=2) (by decide) h2;omega
           refine⟨⟨λh=>by rw [hrq h,<-hr,h],λh=>?_⟩,hrq⟩
           have h1:u<=L1:=by
             rcases Nat.lt_or_ge L1 u with h2|h2
             . have:=hall L1 h2;omega
             exact h2
           rcases hex with hex|hex
           . rcases Nat.lt_or_ge u L1 with h2|h2
             . have:=Nat.pow_lt_pow_right (a:=2) (by decide) h2;omega
             rw [hr,show u=L1 by omega,h]
           omega
         rw [HOK.out];refine⟨⟨λh=>?_,λh=>?_⟩,λh1 h2=>(hLu h1).2 h2⟩
         . have h1:=((hLu h.1).1).2 h.2.1
           exact⟨h.1,h1,by rcases h.2.2 with h3|h3;exact .inl h3;exact .inr (by rw [<-(hLu h.1).2 h1];exact h3)⟩
         exact⟨h.1,((hLu h.1).1).1 h.2.1,by rcases h.2.2 with h3|h3;exact .inl h3;exact .inr (by rw [(hLu h.1).2 h.2.1];exact h3)⟩)
       (have hr0:(0:Int)<=r:=by omega);(have hjb:(j:Int)<=19:=by have:=HTS.2.1;omega);by_cases hgo:u<11/\r<Q
       . have h11:(u:Int)+1<=11:=by omega
         (have hrq:(r:Int)<Q:=by omega);have HGO:=hd_ hgo;clear hgo hu hall fz hr;go_upto_region 19 with fail;go_quiet (fail);go_wp2_with fail;go_roundg (gk-1)
         case measure=>have:=HU.out;have:=HGO.out;omega
         case rel=>exact⟨FZ.drewN _,u+1,by have:=HU.out;have:=HGO.out;omega,by go_num,λi hi=>by
           rcases Nat.lt_or_ge i u with h|h
           . exact HAU i h
           rw [show i=u by omega,<-HRR.out];exact HGO.2⟩
       have HK2:=hd_ (HOKK (by omega));clear hall hr fz;by_cases hu11:u=11
       . have huI3:(11:Int)<(u:Int)+1:=by omega
         have hud:decide ((u:Int)+1<=11)=false:=decide_eq_false (by omega)
         have HRQ:=hd_ (show j<=11->r≠Q from λhj11 hrq=>by
           have h1:=HQ.out;have h2:=Nat.pow_le_pow_right (n:=2) (by decide) hj11;have h3:=HPT.out;have h4:=HSB.2;have h5:=HRR.out;rw [hu11]at h5
           omega)
         clear hgo hu hu11;go_upto_region 19 with fail;go_quiet (fail);by_cases hj11:j<=11
         . have hjI11:(j:Int)<=11:=by omega
           have hjd:decide ((11:Int)<j)=false:=decide_eq_false (by omega);have hrq:=HRQ hj11;(have hrqb:((r:Int) != (Q:Int))=true:=by simp;omega);have HBAD:=hd_ (show ¬(j<=11/\r=Q/\(O≠0\/u=0))from λh=>hrq h.2.1);clear hj11 hrq hR;go_upto_region 21 with fail;go_quiet (fail);go_wp2_with fail;(try go_ret3);exact HNX (λh=>absurd (HK2.1.1 h) (by have:=HBAD.out;omega)) _ ((FZ.drewN _).drewN _)
         (have hjI11:(11:Int)<j:=by omega);have hjd:decide ((11:Int)<j)=true:=decide_eq_true (by omega);have HBAD:=hd_ (show ¬(j<=11/\r=Q/\(O≠0\/u=0))from λh=>hj11 h.1);clear hj11 hR;go_upto_region 21 with fail;go_quiet (fail);go_wp2_with fail;(try go_ret3);exact HNX (λh=>absurd (HK2.1.1 h) (by have:=HBAD.out;omega)) _ ((FZ.drewN _).drewN _)
       (have huI2:(u:Int)+1<=11:=by omega);(have hrq2:(Q:Int)<=r:=by omega);clear hgo hu hu11;go_upto_region 19 with fail;go_quiet (fail);by_cases hj11:j<=11
       . have hjI11:(j:Int)<=11:=by omega
         have hjd:decide ((11:Int)<j)=false:=decide_eq_false (by omega);by_cases hrq:r=Q
         . have hrqI:(r:Int)=Q:=by omega
           (have hrqb:((r:Int) != (Q:Int))=false:=by simp [hrq]);by_cases hO:O=0
           . have hOb:((O:Int) == 0)=true:=by simp [hO]
             by_cases hu1:u=0
             . have HGOOD:=hd_ (show j<=11/\r=Q/\(O≠0\/u=0)from⟨hj11,hrq,.inr hu1⟩)
               subst hu1;clear hj11 hrq hO HNX HNO;go_upto_region 21 with fail;go_quiet (fail);go_wp2_with fail;(try go_ret3);refine hR.out _ _ ⟨?_,by first|exact(FZ.drewN _).drewN _|exact FZ.drewN _⟩;rw [if_pos (HK2.1.2 HGOOD.out),HK2.2 HGOOD.1 HGOOD.2.1];rfl
             have HBAD:=hd_ (show ¬(j<=11/\r=Q/\(O≠0\/u=0))from λh=>by omega);(have hub:((u:Int) == 0)=false:=by simp;omega);(have huI1:(0:Int)<u:=by omega);(have hud1:(((u:Int)+1) != 1)=true:=by simp;omega);clear hj11 hrq hO hu1 hR;go_upto_region 21 with fail;go_quiet (fail);go_wp2_with fail;(try go_ret3);exact HNX (λh=>absurd (HK2.1.1 h) (by have:=HBAD.out;omega)) _ ((FZ.drewN _).drewN _)
           (have hOb:((O:Int) == 0)=false:=by simp;omega);(have hOI1:(0:Int)<O:=by omega);have HGOOD:=hd_ (show j<=11/\r=Q/\(O≠0\/u=0)from⟨hj11,hrq,.inl hO⟩);clear hj11 hrq hO HNX HNO;go_upto_region 21 with fail;go_quiet (fail);go_wp2_with fail;(try go_ret3);refine hR.out _ _ ⟨?_,by first|exact(FZ.drewN _).drewN _|exact FZ.drewN _⟩;rw [if_pos (HK2.1.2 HGOOD.out),HK2.2 HGOOD.1 HGOOD.2.1];rfl
         (have hrqb:((r:Int) != (Q:Int))=true:=by simp;omega);have HBAD:=hd_ (show ¬(j<=11/\r=Q/\(O≠0\/u=0))from λh=>hrq h.2.1);clear hj11 hrq hR;go_upto_region 21 with fail;go_quiet (fail);go_wp2_with fail;(try go_ret3);exact HNX (λh=>absurd (HK2.1.1 h) (by have:=HBAD.out;omega)) _ ((FZ.drewN _).drewN _)
       (have hjI11:(11:Int)<j:=by omega);have hjd:decide ((11:Int)<j)=true:=decide_eq_true (by omega);have HBAD:=hd_ (show ¬(j<=11/\r=Q/\(O≠0\/u=0))from λh=>hj11 h.1);clear hj11 hR;go_upto_region 21 with fail;go_quiet (fail);go_wp2_with fail;(try go_ret3);exact HNX (λh=>absurd (HK2.1.1 h) (by have:=HBAD.out;omega)) _ ((FZ.drewN _).drewN _)
theorem Q6o {ws:List Int} (h:okW ws):J8 ws<=12/\Zx ws<=11/\∀x∈ws++[(J8 ws:Int)],0<=x/\x<=20:=by
 have hl:J8 ws<=12:=by
   rcases Nat.lt_or_ge 12 (J8 ws)with h1|h1
   . have h2:=Nat.pow_le_pow_right (n:=2) (by decide) (show 12<=J8 ws-1 by omega)
     have h3:=Nat.pow_le_pow_right (n:=2) (by decide) h.2.2.2.2.1;have h4:=h.2.2.2.2.2.1;omega
   exact h1
 refine⟨hl,h.2.2.2.2.1,λx hx=>?_⟩;rcases List.mem_append.1 hx with h1|h1
 . have:=h.2.2.1 x h1;omega
 rw [List.mem_singleton.1 h1];omega
def VG (ws:List Int) (w:World) (e:Ending) (w':World):Prop :=
  Q0 w w'/\if okW ws then ∃v,e = .returned (.tuple #[v,.int .i64 0])/\Own w' 3 v (Q7 (KT ws))/\∀b,v.ownBlock=some b->w.heap.size<=b else e = .returned (.tuple #[.slice none 0 0,.int .i64 12])
theorem Q0H (F:Nat->Prop) (A:Option Addr) (n c:Nat) (ws:List Int) (w:World) (hr:Rd w F A n (Q7 ws)) (hn:n<=2^39) (hc:n<=c) :
   Calls prog 115 #[.slice A n c] w (VG ws w):=by
 (have hL:ws.length=n:=by have:=hr.1;simpa using this);have HLA:=hd_ (Q4H F A n c ws w hr (by omega));have HR:=hd_ hr;have HL:=hd_ hL;have HC:=hd_ (And.intro hn hc);clear hr hL hn hc;refine Q8 λR hR=>?_;unfold VG at hR;go_enter func115,ntmps115;by_cases hok:okW ws
 case neg =>
   simp only [if_neg hok]at HLA hR;clear hok;go_wp2_with fail;refine HLA.mono ?_;rintro e w1 ⟨rfl,f1⟩;have F1:=hd_ f1;clear f1 HLA;go_wp2_with fail;(try go_ret2);exact hR _ _ ⟨F1.out,rfl⟩
 simp only [if_pos hok]at HLA hR;obtain⟨hb1,hb2,hb3⟩:=Q6o hok;have hn256:=hok.2.1;unfold KT at hR;obtain⟨T,hT⟩:=nm_ (Zx ws);obtain⟨L,hLd⟩:=nm_ (J8 ws);rw [<-hT,<-hLd]at hR HLA;rw [<-hT]at hb2;rw [<-hLd]at hb1 hb3;(have hTI:(T:Int)<=11:=by omega);(have hT0:(0:Int)<=T:=by omega);(have hLI:(L:Int)<=12:=by omega);obtain⟨W2,hW2⟩:=nm_ (ws++[(L:Int)]);rw [<-hW2]at hR hb3;have HW2:=hd_ hW2;have HWB:=hd_ hb3;have HWL:=hd_ (show W2.length=n+1 from by rw [hW2];simp [HL.out]);have HN:=hd_ (show n<256 from by have:=HL.out;omega);clear hok hb1 hb2 hb3 hT hLd hW2 hn256;go_wp2_with fail;refine HLA.mono ?_;rintro e w0 ⟨rfl,f0⟩;have F0:=hd_ f0;obtain⟨w1,hw1⟩:=nm_ (w0.alloc (.cells #[] 3));obtain⟨P,hP⟩:=nm_ (w0.heap.size);(have o1:Own w1 3 (.slice (some ⟨P,0,none⟩) 0 0) []:=by rw [hw1,hP];exact World.ownsRow_made w0 #[] 0 (Nat.zero_le _) (by simp [maxLen]) (by simp));have F1:=hd_ (show Q0 w0 w1 by rw [hw1];exact(Upd.refl _ _).alloc _);have O1:=hd_ o1;have HW1:=hd_ hw1;have HP1:=hd_ hP;clear o1 hw1 hP f0 HLA;have RW:=hd_ ((HR.fresh F0.out).fresh F1.out);go_wp2_with (at_builtin;simp only [<-HP1.out,<-HW1.out];go_must (refine Qm _ rfl (.tmp 18) (.tmp 19) _ rfl 3 _ 8 underlying33 QV rfl (.slice (some ⟨P,0,none⟩) 0 0) _ rfl O1.out _ _ _ _ rfl RW.out (by intro u hu;obtain⟨x,_,rfl⟩:=List.mem_map.1 hu;rfl) (by have:=HC.2;omega) (by have:=HN.out;simp;omega) ?_));intro v2 w2 ho hg ha;obtain⟨A2,n2,c2,rfl,hn2⟩:=ho.form';have O2:=hd_ (show Own w2 3 (.slice A2 n2 c2) (Q7 ws)from by simpa using ho)
 have K2:=hd_ (show ∀b,Value.ownBlock (.slice A2 n2 c2)=some b->w0.heap.size<=b from λb hb=>by
   rcases ha with h|h
   . rw [h]at hb;simp [Value.ownBlock]at hb;have:=HP1.out;omega
   rw [h]at hb;injection hb with hb;have:=F1.size;omega)
 have F2:=hd_ (F1.grown hg (λk hk hlt=>by simp [Value.ownBlock]at hk;have:=HP1.out;omega));clear ho hg ha O1 HW1 HP1 hn2 RW;obtain⟨w5,P5,hw5,hP5,f5,b5⟩:=al_ w2 3 #[.int .i64 (L:Nat)];have RB:=hd_ (show Rd w5 (λ_=>True) (some ⟨P5,0,none⟩) 1 [.int .i64 (L:Nat)]from by simpa using Blk.rds b5);have F5:=hd_ f5;have O5:=hd_ (O2.fresh f5);have HW5:=hd_ hw5;have HP5:=hd_ hP5;have HLE:=hd_ (show(Q7 ws).length+1<=2^40 from by rw [Qz,HL.out];have:=HN.out;omega);clear f5 b5 hw5 hP5 O2;go_wp2_with (at_builtin;simp only [<-HP5.out,<-HW5.out];go_must (refine Qm _ rfl (.tmp 20) (.tmp 22) _ rfl 3 _ 8 underlying33 QV rfl (.slice A2 n2 c2) _ rfl O5.out _ _ _ _ rfl RB.out (by simp [Value.oneCell']) (by omega) HLE.out ?_));intro v6 w6 ho hg ha;(have o6:Own w6 3 v6 (Q7 W2):=by rw [HW2.out];simpa [Q7]using ho);obtain⟨A6,n6,c6,rfl,hn6⟩:=o6.form';obtain⟨hn7,hc7,hr6⟩:=o6.rd rfl;have O6:=hd_ o6;have HN6:=hd_ (show n6=n+1 from by rw [hn7,Qz];exact HWL.out);have K6:=hd_ (Yj (S:=λk=>w0.heap.size<=k) ha (λk hk=>K2 k hk) (by have:=F1.size;have:=F2.size;have:=F5.size;omega));have F6:=hd_ ((F2.trans' F5.out).grown hg (λk hk hlt=>by have:=K2 k hk;omega));clear ho hg ha o6 hn6 hn7 hc7 hr6 O5 RB HW5 HP5 F5;go_wp2_with fail;go_loopg [8] n6 (λf vi wr=>∃i,i+f=n6/\vi = .int .i64 (i:Nat)/\Own wr 3 (.slice A6 n6 c6) (Q7 (YT (λx=>if 0<x then(T:Int)+1-x else x) W2 i))/\Q0 w0 wr)
 case atStart=>exact⟨0,by omega,rfl,by simpa [YT]using O6.out,F6.out⟩
 case round =>
   obtain⟨i,hi,rfl,ov,fv⟩:=hrel;have HI:=hd_ hi;have FV:=hd_ fv;by_cases hlt:i<n6
   . have hI:(i:Int)<n6:=by omega
     (have hn6I:(n6:Int)<=256:=by have:=HN6.out;have:=HN.out;omega);(have hil:i<W2.length:=by have:=HWL.out;have:=HN6.out;omega);(have hil2:i<(Q7 (YT (λx=>if 0<x then(T:Int)+1-x else x) W2 i)).length:=by rw [Qz,VN];exact hil);obtain⟨g,rfl,hgs,hcell,hfz,hst⟩:=ov.store hil2
     have hx:(Q7 (YT (λx=>if 0<x then(T:Int)+1-x else x) W2 i))[i] = .int .i64 W2[i]:=by
       have h:=List.getElem?_eq_getElem hil2;rw [show(Q7 (YT (λx=>if 0<x then(T:Int)+1-x else x) W2 i))[i]?=some (.int .i64 W2[i])from by simp only [Q7,List.getElem?_map,Q17 hil];rfl]at h;injection h with h;exact h.symm
     rw [hx]at hcell;have hwb:=HWB _ (List.getElem_mem hil);have HSTEP:=hd_ (Q0e (f:=λx=>if 0<x then(T:Int)+1-x else x) hil);have HKEEP:=hd_ (Q2E (f:=λx=>if 0<x then(T:Int)+1-x else x) hil);have HST:=hd_ hst;have OV:=hd_ ov;have HGK:=hd_ (show w0.heap.size<=g from K6 g rfl);obtain⟨x,hxd⟩:=nm_ (W2[i]);simp only [<-hxd]at hcell hwb HSTEP HKEEP;have hx0:0<=x:=hwb.1;have hx20:x<=20:=hwb.2;have HLT:=hd_ hlt;clear hi fv hlt hil hil2 hx hwb hst ov hxd;by_cases hp:0<x
     . have HE:=hd_ (if_pos hp:(if 0<x then(T:Int)+1-x else x)=(T:Int)+1-x)
       have hxn:IntKind.i64.wrap ((T:Int)+1-x)=(T:Int)+1-x:=IntWalk.i64_in _ (by omega);go_wp2_with fail;go_roundg (gk-1)
       case measure=>have:=HI.out;have:=HLT.out;omega
       case rel =>
         refine⟨i+1,by have:=HI.out;have:=HLT.out;omega,by go_num,?_,FV.setCell (p:=⟨g,i,none⟩) (λh=>by have:=HGK.out;simp only at h;omega) _⟩;rw [<-HSTEP.out,HE.out];have h:=HST (.int .i64 ((T:Int)+1-x));rw [show(Q7 (YT (λx=>if 0<x then(T:Int)+1-x else x) W2 i)).set i (.int .i64 ((T:Int)+1-x))=Q7 ((YT (λx=>if 0<x then(T:Int)+1-x else x) W2 i).set i ((T:Int)+1-x))from(List.map_set ..).symm]at h;exact h
     have HE:=hd_ (if_neg hp:(if 0<x then(T:Int)+1-x else x)=x);go_wp2_with fail;go_roundg (gk-1)
     case measure=>have:=HI.out;have:=HLT.out;omega
     case rel =>
       refine⟨i+1,by have:=HI.out;have:=HLT.out;omega,by go_num,?_,FV.out⟩;rw [HKEEP.out HE.out];exact OV.out
   (have hin:i=n6:=by omega);subst hin
   have hfin:YT (λx=>if 0<x then(T:Int)+1-x else x) W2 i=W2.map (λx=>if 0<x then(T:Int)+1-x else x):=by
     unfold YT;rw [List.take_of_length_le (by have:=HWL.out;have:=HN6.out;omega),List.drop_of_length_le (by have:=HWL.out;have:=HN6.out;omega),List.append_nil]
   rw [hfin]at ov;have OV:=hd_ ov;clear hi fv hlt ov hfin;go_wp2_with fail;(try go_ret2);exact hR _ _ ⟨F0.trans' FV.out,_,rfl,OV.out,λb hb=>by have:=K6 b hb;have:=F0.size;omega⟩
def JV (a:Nat) (q:Int ⊕ (List Int × Nat)) (w:World) (e:Ending) (w':World):Prop :=
  Q0 w w'/\match q with
    | .inl er=>∃v x,e = .returned (.tuple #[v,x,.int .i64 er])
    | .inr (x,u)=>∃A n c,e = .returned (.tuple #[.slice A n c,.int .i64 (a+u:Nat),.int .i64 0])/\n<=c/\n<=2^33/\Rd w' (λb=>w.heap.size<=b) A n (Q7 x)
theorem Q4I (F:Nat->Prop) (A:Option Addr) (n c:Nat) (cs:List Nat) (a m:Nat) (w:World) (hr:Rd w F A n (Q2 cs)) (hblt:∀b∈cs,b<256) (hcap:n<=c) (hn:n<=100000) (ha:a<=n) (hm:0<m) (hm2:m<=255) :
   Calls prog 113 #[.slice A n c,.int .i64 (a:Nat),.int .i64 (m:Nat)] w (JV a (Z4 cs a m 0) w):=by
 (have hL0:cs.length=n:=by have:=hr.1;simpa using this);obtain⟨h,hh⟩:=nm_ ((m+1) / 2);have HBY:=hd_ (Ko F A n c cs a h w hr hcap hn ha (by omega));unfold Z4 KQ;rw [if_pos rfl,<-hh,List.length_drop,hL0];unfold Q25 at HBY;rw [hL0]at HBY;(have hhI:((m:Int)+1) / 2=(h:Nat):=by omega);(have hmI:(m:Int)<=255:=by omega);(have hm0:(0:Int)<m:=by omega);have HM:=hd_ (And.intro hh (And.intro hm hm2));clear hr hcap hn hm hm2 hh;refine Q8 λR hR=>?_;unfold JV at hR;go_enter func113,ntmps113;by_cases hk:a+h<=n
 case neg =>
   simp only [if_neg hk]at HBY;simp only [if_neg (show ¬h<=n-a by omega)]at hR;clear hk ha hblt hL0;go_wp2_with fail;refine HBY.mono ?_;rintro e w1 ⟨rfl,rfl⟩;go_wp2_with fail;(try go_ret3);exact hR _ _ ⟨Upd.refl _ _,_,_,rfl⟩
 simp only [if_pos hk]at HBY;simp only [if_pos (show h<=n-a by omega)]at hR;obtain⟨L,hL⟩:=nm_ ((cs.drop a).take h);(have hLl:L.length=h:=by rw [hL,List.length_take,List.length_drop];omega);have hLlt:∀x∈L,x<256:=λx hx=>hblt x (List.mem_of_mem_drop (List.mem_of_mem_take (hL ▸ hx)));rw [<-hL]at HBY hR;have HLL:=hd_ hLl;have HLT:=hd_ hLlt;clear hk ha hL hLl hLlt hblt hL0;go_wp2_with fail;refine HBY.mono ?_;rintro e w1 ⟨⟨B,c1,rfl,hc1,hr1⟩,rfl⟩;have R1:=hd_ hr1.both;clear hr1 HBY;go_wp2_with fail;go_loopg [12,13] h (λmm vo vi wr=>∃i,i+mm=h/\vi = .int .i64 (i:Nat)/\Own wr 3 vo (Q7 (Yh (L.take i)))/\Q0 w wr/\∀b,vo.ownBlock=some b->w.heap.size<=b)
 case atStart=>exact⟨0,by omega,rfl,by simpa [Yh,Q7]using Own.nil _ _,Upd.refl _ _,by simp [Value.ownBlock]⟩
 case round =>
   obtain⟨i,hi,rfl,ov,fv,kv⟩:=hrel;obtain⟨A0,n0,c0,rfl,hn0⟩:=ov.form';have HI:=hd_ hi;by_cases hlt:i<h
   . have hI:(i:Int)<h:=by omega
     obtain⟨b,o,hkl,rfl,_,hc⟩:=(R1.fresh fv).byte (k:=i) hlt;have hz8:=HLT _ (List.getElem_mem hkl);have HTK:=hd_ (show Yh (L.take (i+1))=Yh (L.take i)++[((L[i]%16:Nat):Int),((L[i] / 16:Nat):Int)]from by rw [List.take_succ_eq_append_getElem hkl,Q2v]);obtain⟨z,hz⟩:=nm_ (L[i]);rw [<-hz]at hc hz8 HTK;obtain⟨x,hx⟩:=nm_ (z%16);obtain⟨y,hy⟩:=nm_ (z / 16);rw [<-hx,<-hy]at HTK;(have hs:(z:Int) / 16=(y:Nat):=by omega);(have hs2:(z:Int)%16=(x:Nat):=by omega);(have hxI:(x:Int)<=15:=by omega);(have hyI:(y:Int)<=15:=by omega);(have hzI:(z:Int)<=255:=by omega);have hwz:IntKind.i64.wrap (z:Int)=z:=IntWalk.i64_in _ (by omega);have hwy:IntKind.i64.wrap (y:Int)=y:=IntWalk.i64_in _ (by omega);(have htm:(z:Int).tmod 16=(x:Nat):=by rw [Int.tmod_eq_emod_of_nonneg (by omega)];exact hs2);have OV:=hd_ ov;have FV:=hd_ fv;have KV:=hd_ kv;have HLT2:=hd_ hlt;have HLE:=hd_ (show(Q7 (Yh (L.take i))).length+2<=2^40 from by rw [Qz,ZB,List.length_take];have:=HM.2.2;have:=HM.1;have:=HLL.out;omega)
     have HCB:=hd_ (show ∀W,Q0 w W->W.cell? ⟨b,o+i,none⟩=some (.int .u8 (z:Nat))from λW hW=>by
       obtain⟨b',o',hk',he,_,h'⟩:=(R1.fresh hW).byte (k:=i) hlt;injection he with he;injection he with e1 e2;subst e1 e2
       rw [hz];exact h')
     clear ov fv kv hlt hz8 hx hy hi hn0 hc;clear hz hkl;go_upto_region 8 with fail;obtain⟨Cw,cEq⟩:=exC (λW=>Q0 w W);obtain⟨Y,yA⟩:=exY [λxs W=>(xs 0) = .slice A0 n0 c0,λxs W=>(xs 1) = .slice (some ⟨b,o,none⟩) h c1,λxs W=>(xs 2) = .int .i64 (i:Nat),λxs W=>(xs 3) = .pointer (some ⟨b,o+i,none⟩),λxs W=>(xs 4) = .int .u8 (z:Nat),λxs W=>(xs 5) = .int .i64 (z:Nat),λxs W=>(xs 6) = .int .i64 (x:Nat),λxs W=>(xs 7) = .slice (some ⟨b,o,none⟩) h c1,λxs W=>(xs 8) = .int .i64 (i:Nat),λxs W=>(xs 9) = .pointer (some ⟨b,o+i,none⟩),λxs W=>(xs 10) = .int .u8 (z:Nat),λxs W=>(xs 11) = .int .i64 (z:Nat),λxs W=>(xs 12) = .int .i64 (y:Nat),λxs W=>∃P,(xs 13) = .slice (some ⟨P,0,none⟩) 2 2/\Rd W (λ_=>True) (some ⟨P,0,none⟩) 2 [.int .i64 (x:Nat),.int .i64 (y:Nat)],λxs W=>Own W 3 (xs 14) (Q7 (Yh (L.take (i+1))))/\∀b,(xs 14).ownBlock=some b->w.heap.size<=b,λxs W=>(xs 15)=(xs 14),λxs W=>Own W 3 (.slice A0 n0 c0) (Q7 (Yh (L.take i)))];have yf0:=yA 0;have yf1:=yA 1;have yf2:=yA 2;have yf3:=yA 3;have yf4:=yA 4;have yf5:=yA 5;have yf6:=yA 6;have yf7:=yA 7;have yf8:=yA 8;have yf9:=yA 9;have yf10:=yA 10;have yf11:=yA 11;have yf12:=yA 12;have yf13:=yA 13;have yf14:=yA 14;have yf15:=yA 15;have yf16:=yA 16;simp only [List.getD_cons_zero,List.getD_cons_succ]at yf0 yf1 yf2 yf3 yf4 yf5 yf6 yf7 yf8 yf9 yf10 yf11 yf12 yf13 yf14 yf15 yf16;(have yN:∀j xs W,17<=j->Y j xs W=True:=λj xs W hj=>by rw [yA,Y6 _ _ _ hj])
     have yP:∀j xs W W',j∈[0,1,2,3,4,5,6,7,8,9,10,11,12,15]->Y j xs W->Y j xs W':=by
       intro j xs W W' hj hy;simp only [List.mem_cons,List.not_mem_nil,or_false]at hj;(rcases hj with rfl|rfl|rfl|rfl|rfl|rfl|rfl|rfl|rfl|rfl|rfl|rfl|rfl|rfl<;>(rw [yA]at hy|-;exact hy))
     have yM:Jt [[0],[1],[2],[3],[4],[5],[6],[7],[8],[9],[10],[11],[12],[13],[14],[15,14],[]] Y:=by
       intro j xs xs' W hh hy;by_cases hj:17<=j
       . rw [yN j _ _ hj];trivial
       (have hj':j=0\/j=1\/j=2\/j=3\/j=4\/j=5\/j=6\/j=7\/j=8\/j=9\/j=10\/j=11\/j=12\/j=13\/j=14\/j=15\/j=16:=by omega);rcases hj' with rfl|rfl|rfl|rfl|rfl|rfl|rfl|rfl|rfl|rfl|rfl|rfl|rfl|rfl|rfl|rfl|rfl;(all_goals(rw [yA]at hy|-;(try simp only [List.getD_cons_zero,List.getD_cons_succ]at hy|-);repeat rw [<-hh]));(all_goals first|exact hy|decide)
     clear yA
     have yR:∀j xs,16<=j->Y j xs (wr.drew):=by
       intro j xs hj;rcases(show j=16\/17<=j by omega)with rfl|hj
       . rw [yf16];exact OV.out
       rw [yN _ _ _ hj];trivial
     refine Ya Cw (λj=>if j=13 then [14]else if j=16 then [14]else []) Y [(0,some 34),(1,some 35),(2,some 36),(3,some 37),(4,some 38),(5,some 39),(6,some 40),(7,some 41),(8,some 42),(9,some 43),(10,some 44),(11,some 45),(12,some 46),(13,some 47),(14,some 48),(15,some 12)] (by kernel_rfl) (by kernel_rfl) (by kernel_rfl) (by rw [cEq];exact FV.drew) (λj hj=>yR j _ hj) ?_ ?_
     . refine Q9.p cEq yM [] (by kernel_rfl) (by kernel_rfl) (λxs W hw hd K hK'=>?_) ?_
       . simp only [Q5,Act.put,sb_,sz_,ss_]at hK'|-
         go_simp;exact hK' _ (by rw [yf0];exact if_pos rfl)
       refine Q9.p cEq yM [] (by kernel_rfl) (by kernel_rfl) (λxs W hw hd K hK'=>?_) ?_
       . simp only [Q5,Act.put,sb_,sz_,ss_]at hK'|-
         go_simp;exact hK' _ (by rw [yf1];exact if_pos rfl)
       refine Q9.p cEq yM [] (by kernel_rfl) (by kernel_rfl) (λxs W hw hd K hK'=>?_) ?_
       . simp only [Q5,Act.put,sb_,sz_,ss_]at hK'|-
         go_simp;exact hK' _ (by rw [yf2];exact if_pos rfl)
       refine Q9.p cEq yM [(1,some 35),(2,some 36)] (by kernel_rfl) (by kernel_rfl) (λxs W hw hd K hK'=>?_) ?_
       . simp only [Qd]at hd
         obtain⟨hf1,hf2,_⟩:=hd;simp only [Q5,Act.put,sb_,sz_,ss_]at hK'|-;rw [yf1]at hf1;rw [yf2]at hf2;simp only [hf1,hf2]at hK'|-;go_simp;exact hK' _ (by rw [yf3];exact if_pos rfl)
       refine Q9.p cEq yM [(3,some 37)] (by kernel_rfl) (by kernel_rfl) (λxs W hw hd K hK'=>?_) ?_
       . simp only [Qd]at hd
         obtain⟨hf3,_⟩:=hd;simp only [Q5,Act.put,sb_,sz_,ss_]at hK'|-;rw [yf3]at hf3;simp only [hf3]at hK'|-;have cl:=HCB W hw;go_simp;exact hK' _ (by rw [yf4];exact if_pos rfl)
       refine Q9.p cEq yM [(4,some 38)] (by kernel_rfl) (by kernel_rfl) (λxs W hw hd K hK'=>?_) ?_
       . simp only [Qd]at hd
         obtain⟨hf4,_⟩:=hd;simp only [Q5,Act.put,sb_,sz_,ss_]at hK'|-;rw [yf4]at hf4;simp only [hf4]at hK'|-;go_simp;exact hK' _ (by rw [yf5];exact if_pos rfl)
       refine Q9.p cEq yM [(5,some 39)] (by kernel_rfl) (by kernel_rfl) (λxs W hw hd K hK'=>?_) ?_
       . simp only [Qd]at hd
         obtain⟨hf5,_⟩:=hd;simp only [Q5,Act.put,sb_,sz_,ss_]at hK'|-;rw [yf5]at hf5;simp only [hf5]at hK'|-;go_simp;exact hK' _ (by rw [yf6];exact if_pos rfl)
       refine Q9.p cEq yM [] (by kernel_rfl) (by kernel_rfl) (λxs W hw hd K hK'=>?_) ?_
       . simp only [Q5,Act.put,sb_,sz_,ss_]at hK'|-
         go_simp;exact hK' _ (by rw [yf7];exact if_pos rfl)
       refine Q9.p cEq yM [] (by kernel_rfl) (by kernel_rfl) (λxs W hw hd K hK'=>?_) ?_
       . simp only [Q5,Act.put,sb_,sz_,ss_]at hK'|-
         go_simp;exact hK' _ (by rw [yf8];exact if_pos rfl)
       refine Q9.p cEq yM [(7,some 41),(8,some 42)] (by kernel_rfl) (by kernel_rfl) (λxs W hw hd K hK'=>?_) ?_
       . simp only [Qd]at hd
         obtain⟨hf7,hf8,_⟩:=hd;simp only [Q5,Act.put,sb_,sz_,ss_]at hK'|-;rw [yf7]at hf7;rw [yf8]at hf8;simp only [hf7,hf8]at hK'|-;go_simp;exact hK' _ (by rw [yf9];exact if_pos rfl)
       refine Q9.p cEq yM [(9,some 43)] (by kernel_rfl) (by kernel_rfl) (λxs W hw hd K hK'=>?_) ?_
       . simp only [Qd]at hd
         obtain⟨hf9,_⟩:=hd;simp only [Q5,Act.put,sb_,sz_,ss_]at hK'|-;rw [yf9]at hf9;simp only [hf9]at hK'|-;have cl:=HCB W hw;go_simp;exact hK' _ (by rw [yf10];exact if_pos rfl)
       refine Q9.p cEq yM [(10,some 44)] (by kernel_rfl) (by kernel_rfl) (λxs W hw hd K hK'=>?_) ?_
       . simp only [Qd]at hd
         obtain⟨hf10,_⟩:=hd;simp only [Q5,Act.put,sb_,sz_,ss_]at hK'|-;rw [yf10]at hf10;simp only [hf10]at hK'|-;go_simp;exact hK' _ (by rw [yf11];exact if_pos rfl)
       refine Q9.p cEq yM [(11,some 45)] (by kernel_rfl) (by kernel_rfl) (λxs W hw hd K hK'=>?_) ?_
       . simp only [Qd]at hd
         obtain⟨hf11,_⟩:=hd;simp only [Q5,Act.put,sb_,sz_,ss_]at hK'|-;rw [yf11]at hf11;simp only [hf11]at hK'|-;go_simp;exact hK' _ (by rw [yf12];exact if_pos rfl)
       refine Q9.c cEq [(6,some 40),(12,some 46)] (by kernel_rfl) (λxs W hw hd K hK'=>?_) ?_
       . simp only [Qd]at hd
         obtain⟨hf6,hf12,_⟩:=hd;simp only [Q5,Act.put,sb_,sz_,ss_]at hK'|-;rw [yf6]at hf6;rw [yf12]at hf12;simp only [hf6,hf12]at hK'|-;go_simp;have hR:=(show Q0 W (W.alloc (.cells #[.int .i64 (x:Nat),.int .i64 (y:Nat)] 3))from(Upd.refl _ _).alloc _);refine hK' (_) (_) (hw.alloc _) (QW yM 13 (by kernel_rfl) _ λj hs hy=>?_) (by rw [yf13];(try simp only [↓reduceIte]);try exact⟨W.heap.size,by first|rfl|trivial,by simpa using Blk.rds (Blk.new W 3 #[.int .i64 (x:Nat),.int .i64 (y:Nat)])⟩);by_cases hp:j∈[0,1,2,3,4,5,6,7,8,9,10,11,12,15]
         . exact yP j _ _ _ hp hy
         by_cases hj:17<=j
         . rw [yN j _ _ hj];trivial
         simp only [List.mem_cons,List.not_mem_nil,or_false]at hp;rcases(show j=13\/j=14\/j=16 by omega)with rfl|rfl|rfl
         . exact(Qg hs (by kernel_rfl)).elim
         . exact(Qg hs (by kernel_rfl)).elim
         rw [yf16]at hy|-;exact hy.fresh hR
       refine Q9.c cEq [(0,some 34),(13,some 47),(16,none)] (by kernel_rfl) (λxs W hw hd K hK'=>?_) ?_
       . simp only [Qd]at hd
         obtain⟨hf0,hf13,hf16,_⟩:=hd;simp only [Q5,Act.put,sb_,sz_,ss_]at hK'|-;rw [yf0]at hf0;rw [yf13]at hf13;rw [yf16]at hf16;simp only [hf0]at hK'|-;obtain⟨P,hPv,hPr⟩:=hf13;simp only [hPv]at hK'|-;rw [if_pos (by rfl)];refine Q3i W (.tmp 34) (.tmp 47) _ (by rfl) 3 _ 8 underlying33 QV rfl (.slice A0 n0 c0) _ (by rfl) hf16 (some ⟨P,0,none⟩) 2 2 [.int .i64 (x:Nat),.int .i64 (y:Nat)] (by rfl) hPr (by simp [Value.oneCell']) (by omega) HLE.out ?_;intro v6 w6 ho hg6 ha6;have hR:=trivial;refine hK' (v6) (w6) (hw.grown hg6 (λk hk hlt=>by have:=KV k hk;omega)) (λj hs hy=>?_) (by rw [yf14];(try simp only [↓reduceIte]);try exact⟨by rw [HTK.out];simpa [Q7]using ho,Yj (S:=λk=>w.heap.size<=k) ha6 (λk hk=>KV k hk) hw.size⟩);by_cases hj:17<=j
         . rw [yN j _ _ hj];trivial
         (have hj':j=0\/j=1\/j=2\/j=3\/j=4\/j=5\/j=6\/j=7\/j=8\/j=9\/j=10\/j=11\/j=12\/j=13\/j=14\/j=15\/j=16:=by omega);rcases hj' with rfl|rfl|rfl|rfl|rfl|rfl|rfl|rfl|rfl|rfl|rfl|rfl|rfl|rfl|rfl|rfl|rfl
         . rw [yf0]at hy|-;(try simp only [↓reduceIte,OfNat.ofNat_ne_ofNat,Nat.reduceEqDiff]);exact hy
         . rw [yf1]at hy|-;(try simp only [↓reduceIte,OfNat.ofNat_ne_ofNat,Nat.reduceEqDiff]);exact hy
         . rw [yf2]at hy|-;(try simp only [↓reduceIte,OfNat.ofNat_ne_ofNat,Nat.reduceEqDiff]);exact hy
         . rw [yf3]at hy|-;(try simp only [↓reduceIte,OfNat.ofNat_ne_ofNat,Nat.reduceEqDiff]);exact hy
         . rw [yf4]at hy|-;(try simp only [↓reduceIte,OfNat.ofNat_ne_ofNat,Nat.reduceEqDiff]);exact hy
         . rw [yf5]at hy|-;(try simp only [↓reduceIte,OfNat.ofNat_ne_ofNat,Nat.reduceEqDiff]);exact hy
         . rw [yf6]at hy|-;(try simp only [↓reduceIte,OfNat.ofNat_ne_ofNat,Nat.reduceEqDiff]);exact hy
         . rw [yf7]at hy|-;(try simp only [↓reduceIte,OfNat.ofNat_ne_ofNat,Nat.reduceEqDiff]);exact hy
         . rw [yf8]at hy|-;(try simp only [↓reduceIte,OfNat.ofNat_ne_ofNat,Nat.reduceEqDiff]);exact hy
         . rw [yf9]at hy|-;(try simp only [↓reduceIte,OfNat.ofNat_ne_ofNat,Nat.reduceEqDiff]);exact hy
         . rw [yf10]at hy|-;(try simp only [↓reduceIte,OfNat.ofNat_ne_ofNat,Nat.reduceEqDiff]);exact hy
         . rw [yf11]at hy|-;(try simp only [↓reduceIte,OfNat.ofNat_ne_ofNat,Nat.reduceEqDiff]);exact hy
         . rw [yf12]at hy|-;(try simp only [↓reduceIte,OfNat.ofNat_ne_ofNat,Nat.reduceEqDiff]);exact hy
         . exact(Qg hs (by kernel_rfl)).elim
         . exact(Qg hs (by kernel_rfl)).elim
         . exact(Qg hs (by kernel_rfl)).elim
         exact(Qg hs (by kernel_rfl)).elim
       refine Q9.p cEq yM [(14,some 48)] (by kernel_rfl) (by kernel_rfl) (λxs W hw hd K hK'=>?_) ?_
       . simp only [Qd]at hd
         obtain⟨hf14,_⟩:=hd;simp only [Q5,Act.put,sb_,sz_,ss_]at hK'|-;rw [yf14]at hf14;go_simp;exact hK' _ (by rw [yf15];(try simp only [↓reduceIte,OfNat.ofNat_ne_ofNat,Nat.reduceEqDiff]);exact(by simp))
       exact Q9.nil
     intro xs W hw hd;rw [cEq]at hw;simp only [YD]at hd;obtain⟨fe0,fe1,fe2,fe3,fe4,fe5,fe6,fe7,fe8,fe9,fe10,fe11,fe12,fe13,fe14,fe15,_⟩:=hd;have fe0:=fe0 (by first|kernel_rfl|trivial);rw [yf0]at fe0;have fe1:=fe1 (by first|kernel_rfl|trivial);rw [yf1]at fe1;have fe2:=fe2 (by first|kernel_rfl|trivial);rw [yf2]at fe2;have fe3:=fe3 (by first|kernel_rfl|trivial);rw [yf3]at fe3;have fe4:=fe4 (by first|kernel_rfl|trivial);rw [yf4]at fe4;have fe5:=fe5 (by first|kernel_rfl|trivial);rw [yf5]at fe5;have fe6:=fe6 (by first|kernel_rfl|trivial);rw [yf6]at fe6;have fe7:=fe7 (by first|kernel_rfl|trivial);rw [yf7]at fe7;have fe8:=fe8 (by first|kernel_rfl|trivial);rw [yf8]at fe8;have fe9:=fe9 (by first|kernel_rfl|trivial);rw [yf9]at fe9;have fe10:=fe10 (by first|kernel_rfl|trivial);rw [yf10]at fe10;have fe11:=fe11 (by first|kernel_rfl|trivial);rw [yf11]at fe11;have fe12:=fe12 (by first|kernel_rfl|trivial);rw [yf12]at fe12;have fe14:=fe14 (by first|kernel_rfl|trivial);rw [yf14]at fe14;have fe15:=fe15 (by first|kernel_rfl|trivial);rw [yf15]at fe15;clear fe13;simp only [Q5,Act.put,sb_,sz_,ss_];generalize xs 0=xv0 at *;generalize xs 1=xv1 at *;generalize xs 2=xv2 at *;generalize xs 3=xv3 at *;generalize xs 4=xv4 at *;generalize xs 5=xv5 at *;generalize xs 6=xv6 at *;generalize xs 7=xv7 at *;generalize xs 8=xv8 at *;generalize xs 9=xv9 at *;generalize xs 10=xv10 at *;generalize xs 11=xv11 at *;generalize xs 12=xv12 at *;generalize xs 13=xv13 at *;generalize xs 14=xv14 at *;generalize xs 15=xv15 at *;subst fe0;subst fe1;subst fe2;subst fe3;subst fe4;subst fe5;subst fe6;subst fe7;subst fe8;subst fe9;subst fe10;subst fe11;subst fe12;subst fe15;clear yf0 yf1 yf2 yf3 yf4 yf5 yf6 yf7 yf8 yf9 yf10 yf11 yf12 yf13 yf14 yf15 yf16 yN yR yM yP cEq;have E3:=hd_ fe14;go_wp2_with fail;go_roundg (gk-1)
     case measure=>have:=HI.out;have:=HLT2.out;omega
     case rel=>exact⟨i+1,by have:=HI.out;have:=HLT2.out;omega,by go_num,E3.1,hw,E3.2⟩
   (have hin:i=h:=by omega);subst hin;rw [List.take_of_length_le (by have:=HLL.out;omega)]at ov;obtain⟨hn4,hc4,hrd⟩:=ov.rd rfl;rw [<-hn4]at hrd hc4;(have hnl:n0=2*i:=by rw [hn4,Qz,ZB,HLL.out])
   have hcut:∀k,k<=n0->Rd wr (λb=>w.heap.size<=b) A0 k (Q7 ((Yh L).take k)):=λk hk=>by
     have h:=(hrd.take hk).mono (G:=λb=>w.heap.size<=b) λb hb=>kv b hb;rw [show(Q7 (Yh L)).take k=Q7 ((Yh L).take k)from(List.map_take ..).symm]at h;exact h
   have FV:=hd_ fv;have HCUT:=hd_ hcut;(have hmc:m<=c0:=by have:=HM.1;omega);(have hmcI:(m:Int)<=c0:=by omega);have HMC:=hd_ hmc;have hi2:=HM.1;(have hm33:m<=2^33:=by have:=HM.2.2;omega);have HM33:=hd_ hm33;(have hai:(a:Int)+(i:Nat)=((a+i:Nat):Int):=by omega);have HAI:=hd_ hai;rcases(show(m%2=0/\n0=m)\/(m%2=1/\n0=m+1) by omega)with ⟨hev,hnm⟩|⟨hod,hnm⟩
   . subst hnm
     simp only [if_pos (show n0%2=0\/((Yh L)[n0]?).getD 0=0 from .inl hev)]at hR;clear ov fv kv hi hn0 hrd hn4 hc4 hnl hcut hev hi2 hmc hm33 hai;clear hlt;go_wp2_with fail;(try go_ret3);exact hR _ _ ⟨FV.out,A0,n0,_,rfl,HMC.out,HM33.out,HCUT n0 (Nat.le_refl _)⟩
   obtain⟨b,o,hkl,rfl,_,hc⟩:=hrd.int (k:=m) (by omega);(have hmn:(m:Int)<n0:=by omega);(have hgd:((Yh L)[m]?).getD 0=(Yh L)[m]:=by rw [List.getElem?_eq_getElem hkl];rfl);obtain⟨z,hz⟩:=nm_ ((Yh L)[m]);rw [<-hz]at hc hgd;have HN:=hd_ (show m<=n0 by omega);by_cases h0:z=0
   . subst h0
     simp only [if_pos (show m%2=0\/((Yh L)[m]?).getD 0=0 from .inr hgd)]at hR;clear ov fv kv hi hn0 hrd hn4 hc4 hnl hcut hod hi2 hz hgd hkl hnm hmc hm33 hai;clear hlt;go_wp2_with fail;(try go_ret3);exact hR _ _ ⟨FV.out,_,m,_,rfl,HMC.out,HM33.out,HCUT m HN.out⟩
   simp only [if_neg (show ¬(m%2=0\/((Yh L)[m]?).getD 0=0)from λh=>h.elim (by omega) (λh=>h0 (hgd ▸ h)))]at hR;(have h0b:(z != 0)=true:=by simpa using h0);clear ov fv kv hi hn0 hrd hn4 hc4 hnl hcut hod hi2 hz hgd hkl hnm h0 hmc hm33 hai;clear hlt;go_wp2_with fail;(try go_ret3);exact hR _ _ ⟨FV.out,_,_,rfl⟩
end Go.Proofs.YtckjdhaflokcgaaGreat
