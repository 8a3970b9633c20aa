/- Contracts and plain lemmas, part 16. Conditions: none beyond those of each. -/
import Derived.Test.YtckjdhaflokcgaaGreatR15
set_option maxHeartbeats 4000000
set_option linter.unusedVariables false
set_option linter.unusedSimpArgs false
set_option linter.unnecessarySimpa false
set_option maxRecDepth 100000
namespace Go.Proofs.YtckjdhaflokcgaaGreat
open Go.RowKit Go.Proofs.Tryz
theorem Q5M (n k r:Nat) (w:World) (hn:n<=131072) (hkd:k=(n+3) / 4) (hk:3*k+r=n) (h0:0<r) :
   Calls prog 98 #[.int .i64 (n:Nat)] w λe w'=>e = .returned (.agg #[.int .i64 (k:Nat),.int .i64 (k:Nat),.int .i64 (k:Nat),.int .i64 (r:Nat)])/\Q0 w w':=by
 (have hnI:(n:Int)<=131072:=by omega);(have hn0:(0:Int)<=n:=by omega);have hs1:IntKind.i64.wrap ((n:Int)+3)=n+3:=IntWalk.i64_in _ (by omega);(have hs2:((n:Int)+3) / 4=(k:Nat):=by omega);have hs3:IntKind.i64.wrap (3*(k:Int))=3*k:=IntWalk.i64_in _ (by omega);(have hs4:IntKind.i64.wrap ((n:Int)-3*k)=(r:Nat):=by rw [IntWalk.i64_in _ (by omega)];omega);(have hgt:3*(k:Int)<n:=by omega);have HGT:=hd_ hgt;(have hkI:(k:Int)<=131072:=by omega);clear hn hk hkd h0;refine Q8 λR hR=>?_;go_enter func98,ntmps98;go_wp2_with fail;refine(Q00 _ _).mono ?_;rintro e w1 ⟨rfl,hw1⟩;go_wp2_with fail;refine(Q5K _ _ _ (by first|rfl|exact decide_eq_true (by have:=HGT.out;omega))).mono ?_;rintro e w2 ⟨rfl,hw2⟩;go_wp2_with fail;have b5:=Blk.new w 139 #[.int .i64 (k:Nat),.int .i64 (k:Nat),.int .i64 (k:Nat),.int .i64 (r:Nat)];have d0:=b5.cell 0;have d1:=b5.cell 1;have d2:=b5.cell 2;have d3:=b5.cell 3;simp at d0 d1 d2 d3;subst hw1 hw2;refine⟨rfl,.agg #[.int .i64 (k:Nat),.int .i64 (k:Nat),.int .i64 (k:Nat),.int .i64 (r:Nat)],by simp [results,results98,go_sem,d0,d1,d2,d3],hR _ _ ⟨rfl,(Upd.refl _ _).alloc _⟩⟩
theorem VX:(prog.info? 22).map (λi=>(i.zero,i.size,i.bytes))=some (some (.slice none 0 0),1,24):=by kernel_rfl
def Ji (w:World) (Ls:Nat->List Nat) (i:Nat) (v:Value) (W:World):Prop :=
  ∃vs:List Value,vs.length=i/\Own W 22 v vs/\Q0 w W/\(∀b,v.ownBlock=some b->w.heap.size<=b)/\(∀u∈vs,u.oneCell'=true) /\
    ∀j,j<i->∃A n c,vs[j]?=some (.slice A n c)/\Rd W (λb=>v.ownBlock≠some b) A n (Q2 (Ls j))
theorem Ji.step {w wr w1 w2 w3:World} {Ls:Nat->List Nat} {i:Nat} {v v2:Value} {vs:List Value} {A:Option Addr} {n c:Nat} (hvl:vs.length=i) (ov:Own wr 22 v vs) (fv:Q0 w wr) (ob:∀b,v.ownBlock=some b->w.heap.size<=b)
   (one:∀u∈vs,u.oneCell'=true) (hp:∀j,j<i->∃A n c,vs[j]?=some (.slice A n c)/\Rd wr (λb=>v.ownBlock≠some b) A n (Q2 (Ls j))) (nb:Qu wr w1 (.slice A n c) (Ls i)) (f2:Q0 w1 w2)
   (ho:Own w3 22 v2 (vs++[.slice A n c])) (hg:w2.grownBy w3 v.ownBlock) (ha:v2.ownBlock=v.ownBlock\/v2.ownBlock=some w2.heap.size):Ji w Ls (i+1) v2 w3:=by
 have hu:Upd (λb=>v.ownBlock=some b) w2 w3:=(Upd.refl _ w2).grown hg (λk e _=>e);have fw2:Q0 w w2:=fv.trans' (nb.2.1.trans' f2)
 have hne:∀(B:Option Addr) (k:Nat) (L:List Nat),Rd w2 (λb=>v.ownBlock≠some b) B k (Q2 L)->Rd w3 (λb=>v2.ownBlock≠some b) B k (Q2 L):=λB k L h =>
   (h.both.upd hu (λb _ hb e=>hb.1 e)).mono λb hb e=>by
     rcases ha with h2|h2
     . exact hb.1 (h2 ▸ e)
     rw [h2]at e;injection e with e;have:=hb.2;omega
 refine⟨vs++[.slice A n c],by simp [hvl],ho,fw2.grown hg (λk hk hlt=>by have:=ob k hk;omega),λb hb=>?_,λu hu=>?_,λj hj=>?_⟩
 . rcases ha with h2|h2
   . exact ob b (h2 ▸ hb)
   rw [h2]at hb;injection hb with hb;have:=fw2.size;omega
 . rcases List.mem_append.1 hu with h|h
   . exact one u h
   simp at h;subst h;rfl
 rcases Nat.lt_succ_iff_lt_or_eq.1 hj with h|rfl
 . obtain⟨B,k,d,hv,hr⟩:=hp j h
   exact⟨B,k,d,by rw [List.getElem?_append_left (by omega)];exact hv,hne B k _ (hr.fresh (nb.2.1.trans' f2))⟩
 obtain⟨hn4,hc4,hrd⟩:=nb.1.rd rfl;rw [<-hn4]at hrd;refine⟨A,n,c,by rw [<-hvl];simp,hne A n _ ((hrd.mono λb hb e=>?_).fresh f2)⟩;have h1:=nb.2.2 b hb;have h2:=ov.lt e;omega
def stF (bs:List Nat) (at_:Nat):Nat->Nat
  | 0=>Ju bs at_ 3
  | i+1=>stF bs at_ i+(QO bs at_ i).1
def YR (bs:List Nat) (at_ i:Nat):List Nat:=if i<3 then(bs.drop (stF bs at_ i)).take (QO bs at_ i).1 else bs.drop (stF bs at_ 3)
theorem Q3D (bs:List Nat) (at_:Nat):∀i k,stF bs at_ i<=stF bs at_ (i+k)
 | i,0=>Nat.le_refl _
 | i,k+1=>Nat.le_trans (Q3D bs at_ i k) (Nat.le_add_right _ _)
def ZQ (S:Nat->Prop) (w:World) (Ls:Nat->List Nat) (i:Nat) (v:Value) (W:World):Prop :=
  ∃vs:List Value,vs.length=i/\Own W 22 v vs/\Upd S w W/\(∀b,v.ownBlock=some b->w.heap.size<=b)/\(∀u∈vs,u.oneCell'=true) /\
    ∀j,j<i->∃A n c,vs[j]?=some (.slice A n c)/\n<=c/\Rd W (λb=>w.heap.size<=b/\v.ownBlock≠some b) A n (Q2 (Ls j))
theorem ZQ.step {S:Nat->Prop} {w wr w1 w2 w3:World} {Ls:Nat->List Nat} {i:Nat} {v v2:Value} {A:Option Addr} {n c:Nat} {vs:List Value} (hS:∀b,S b->b<w.heap.size) (hvl:vs.length=i) (ov:Own wr 22 v vs) (fv:Upd S w wr) (ob:∀b,v.ownBlock=some b->w.heap.size<=b) (one:∀u∈vs,u.oneCell'=true)
   (hp:∀j,j<i->∃A n c,vs[j]?=some (.slice A n c)/\n<=c/\Rd wr (λb=>w.heap.size<=b/\v.ownBlock≠some b) A n (Q2 (Ls j))) (u1:Upd S wr w1) (o1:Own w1 5 (.slice A n c) (Q2 (Ls i))) (b1:∀b,Value.ownBlock (.slice A n c)=some b->wr.heap.size<=b) (f2:Q0 w1 w2)
   (ho:Own w3 22 v2 (vs++[.slice A n c])) (hg:w2.grownBy w3 v.ownBlock) (ha:v2.ownBlock=v.ownBlock\/v2.ownBlock=some w2.heap.size):ZQ S w Ls (i+1) v2 w3:=by
 have hu:Upd (λb=>v.ownBlock=some b) w2 w3:=(Upd.refl _ w2).grown hg (λk e _=>e);have u2:Upd S wr w2:=u1.trans' (f2.mono λ_ _ h=>h.elim);have fw2:Upd S w w2:=fv.trans' u2
 have hne:∀(B:Option Addr) (k:Nat) (L:List Nat),Rd w2 (λb=>w.heap.size<=b/\v.ownBlock≠some b) B k (Q2 L)->Rd w3 (λb=>w.heap.size<=b/\v2.ownBlock≠some b) B k (Q2 L):=λB k L h =>
   (h.both.upd hu (λb _ hb e=>hb.1.2 e)).mono λb hb=>⟨hb.1.1,λe=>by
     rcases ha with h2|h2
     . exact hb.1.2 (h2 ▸ e)
     rw [h2]at e;injection e with e;have:=hb.2;omega⟩
 refine⟨vs++[.slice A n c],by simp [hvl],ho,fw2.grown hg (λk hk hlt=>by have:=ob k hk;omega),λb hb=>?_,λu hu=>?_,λj hj=>?_⟩
 . rcases ha with h2|h2
   . exact ob b (h2 ▸ hb)
   rw [h2]at hb;injection hb with hb;have:=fw2.size;omega
 . rcases List.mem_append.1 hu with h|h
   . exact one u h
   simp at h;subst h;rfl
 rcases Nat.lt_succ_iff_lt_or_eq.1 hj with h|rfl
 . obtain⟨B,k,d,hv,hkd,hr⟩:=hp j h
   exact⟨B,k,d,by rw [List.getElem?_append_left (by omega)];exact hv,hkd,hne B k _ (hr.upd u2 (λb _ hb h=>by have:=hS b h;omega))⟩
 obtain⟨hn4,hc4,hrd⟩:=o1.rd rfl;rw [<-hn4]at hrd hc4;refine⟨A,n,c,by rw [<-hvl];simp,hc4,hne A n _ ((hrd.mono λb hb=>⟨?_,λe=>?_⟩).fresh f2)⟩
 . have h1:=b1 b hb
   have:=fv.size;omega
 have h1:=b1 b hb;have h2:=ov.lt e;omega
theorem ZQ.lift {S:Nat->Prop} {w w0 W:World} {Ls:Nat->List Nat} {i:Nat} {v:Value} (h:ZQ S w0 Ls i v W) (f:Q0 w w0):ZQ S w Ls i v W:=by
 obtain⟨vs,hvl,ov,fv,ob,one,hp⟩:=h;refine⟨vs,hvl,ov,(f.mono λ_ _ h=>h.elim).trans' fv,λb hb=>Nat.le_trans f.size (ob b hb),one,λj hj=>?_⟩;obtain⟨A,n,c,h1,h2,h3⟩:=hp j hj;exact⟨A,n,c,h1,h2,h3.mono λb hb=>⟨Nat.le_trans f.size hb.1,hb.2⟩⟩
def Q1Y (g:Nat) (bs:List Nat) (at_:Nat) (w:World) (e:Ending) (w':World):Prop :=
  if YY bs at_=0 then if stF bs at_ 3<=bs.length then ∃v,e = .returned v/\ZQ (λb=>b=g) w (YR bs at_) 4 v w' else e=Qa 3/\Upd (λb=>b=g) w w' else e=Qa (YY bs at_)/\Upd (λb=>b=g) w w'
theorem Q98 (F:Nat->Prop) (g:Nat) (bs:List Nat) (at_:Nat) (w:World) (hcu:Q4 w F g bs at_) (hF:∀b,F b->b≠g) :
   Calls prog 278 #[.agg #[.pointer (some ⟨g,0,none⟩)]] w (Q1Y g bs at_ w):=by
 have hix:∀i,i<3->∀W,(Instr.index 266 (.agg (Zt λj=>(QO bs at_ j).1)) (.int .i64 (i:Nat))).run prog W = .ok (.int .i64 ((QO bs at_ i).1:Nat)) W:=by
   intro i hi W;(rcases(show i=0\/i=1\/i=2 by omega)with rfl|rfl|rfl<;>kernel_rfl)
 obtain⟨w0,H,hw0,hH,f0,br⟩:=al_ w 330 #[.pointer (some ⟨g,0,none⟩)];(have hgH:g<H:=by rw [hH];exact hcu.lt);(have hblen:bs.length<=2^32:=by obtain⟨_,_,_,_,_,_,h,_⟩:=hcu;exact h);have HFL:=hd_ (Q7B _ g bs at_ w0 (hcu.both.fresh f0) (λb hb=>hF b hb.1));have HBO:=hd_ (λW p k (hW:Q4 W (λb=>F b/\b<w.heap.size) g bs p) (hk:p+k<=bs.length)=>ZN _ g bs p k W hW hk (λb hb=>hF b hb.1));have HBN:=hd_ (λW p k (hW:Q4 W (λb=>F b/\b<w.heap.size) g bs p) (hk:bs.length<p+k) (h2:k<=2^40)=>Vv _ g bs p k W hW hk h2 (λb hb=>hF b hb.1));have HRE:=hd_ (λW p (hW:Q4 W (λb=>F b/\b<w.heap.size) g bs p)=>Q2o _ g bs p W hW);have BR:=hd_ br;have F0:=hd_ f0;have HW:=hd_ hw0;have HH:=hd_ hH;have HG:=hd_ hgH;have r0:=br.cell 0;simp at r0;have HIX:=hd_ hix;have HSG:=hd_ (show ∀b,b=g->b<w0.heap.size from λb h=>by have:=hcu.lt;have:=f0.size;omega);obtain⟨arr,harr⟩:=nm_ (.agg (Zt λj=>(QO bs at_ j).1):Value);unfold Q10 at HFL;rw [<-harr]at HFL HIX;clear hw0 hH f0 br hcu hF hgH hix harr;refine Q8 λR hR=>?_;unfold Q1Y at hR;go_enter func278,ntmps278;go_upto_region 1 with fail;simp only [<-HH.out,<-HW.out];by_cases hE:YY bs at_=0
 . simp only [if_pos hE]at HFL hR
   have HE:=hd_ hE;clear hE;go_wp2_with fail;refine HFL.mono ?_;rintro e w1 ⟨u1,rfl,c1,hok⟩;have HOK:=hd_ hok;have U1:=hd_ u1;have C1:=hd_ (c1.mono (G:=λb=>F b/\b<w.heap.size) λb hb=>hb);clear u1 c1 hok HFL r0;go_wp2_with fail;go_loopg [2,9] 3 (λmm vo vi wr=>∃i,i+mm=3/\vi = .int .i64 (i:Nat)/\Q4 wr (λb=>F b/\b<w.heap.size) g bs (stF bs at_ i)/\Upd (λb=>b=g) w0 wr/\ZQ (λb=>b=g) w0 (YR bs at_) i vo wr)
   case atStart=>exact⟨0,rfl,rfl,C1.out,U1.out,[],rfl,Own.nil _ _,U1.out,by simp [Value.ownBlock],by simp,λj hj=>absurd hj (Nat.not_lt_zero _)⟩
   case round =>
     obtain⟨i,hi,rfl,cu,uw,hEA⟩:=hrel;have r0:=(BR.upd uw (by have:=HG.out;omega)).cell 0;simp at r0;have EA:=hd_ hEA;have UW:=hd_ uw;have HI:=hd_ hi;by_cases hlt:i<3
     . have hI:(i:Int)<3:=by omega
       have hixi:=HIX i hlt;have hnl:(QO bs at_ i).1<=131072:=Vc (HOK i hlt);have HLT:=hd_ hlt;by_cases hk:stF bs at_ i+(QO bs at_ i).1<=bs.length
       . have HB:=hd_ (HBO wr _ _ cu hk)
         have HST:=hd_ (show stF bs at_ (i+1)=stF bs at_ i+(QO bs at_ i).1 from rfl);have HSL:=hd_ (show YR bs at_ i=(bs.drop (stF bs at_ i)).take (QO bs at_ i).1 from if_pos hlt);obtain⟨nn,hnn⟩:=nm_ ((QO bs at_ i).1);rw [<-hnn]at HB HST HSL hixi;clear cu uw hEA hi hlt hk hnl hnn;go_wp2_with fail;refine HB.mono ?_;rintro e w2 ⟨v,rfl,o2,u2,c2,b2⟩;obtain⟨A2,n2,c2',rfl,hn2⟩:=o2.form';have O2:=hd_ o2;have U2:=hd_ u2;have C2:=hd_ c2;have B2:=hd_ b2;clear o2 u2 c2 b2 hn2 HB;go_wp2_with fail;refine(Zz _ _ _ (by simpa using(Blk.new w2 24 #[.int .i64 0]).cell 0)).mono ?_;rintro e w3 ⟨rfl,hw3⟩;have F3:=hd_ (show Q0 w2 w3 by rw [hw3];exact(Upd.refl _ _).alloc _);clear hw3;obtain⟨w4,P,hw4,hP,f4,b4⟩:=al_ w3 22 #[.slice A2 n2 c2'];have RB:=hd_ (show Rd w4 (λ_=>True) (some ⟨P,0,none⟩) 1 [.slice A2 n2 c2']from by simpa using Blk.rds b4);have F4:=hd_ (F3.trans' f4);obtain⟨vs,hvl,ov,fv,ob,one,hp⟩:=id EA.out;have HEA:=hd_ (And.intro hvl (And.intro ov (And.intro fv (And.intro ob (And.intro one hp)))));have O4:=hd_ ((ov.upd U2.out (λb hb h=>by have:=ob b hb;have:=HSG b h;omega)).fresh F4.out);have HVL:=hd_ hvl;have HW4:=hd_ hw4;have HP4:=hd_ hP;clear f4 b4 hw4 hP ov ob hvl fv one hp;go_wp2_with (at_builtin;simp only [<-HP4.out,<-HW4.out];go_must (refine Qm _ rfl (.tmp 22) (.tmp 24) _ rfl 22 _ 24 underlying117 VX rfl u2 _ rfl O4.out _ _ _ _ rfl RB.out (by simp [Value.oneCell']) (by omega) (by have:=HVL.out;have:=HLT.out;simp;omega) ?_));intro v5 w5 ho hg ha;have E5:=hd_ (ZQ.step (Ls:=YR bs at_) HSG.out HEA.1 HEA.2.1 HEA.2.2.1 HEA.2.2.2.1 HEA.2.2.2.2.1 HEA.2.2.2.2.2 U2.out (by rw [HSL.out];exact O2.out) B2.out F4.out ho hg ha);have U5:=hd_ ((UW.trans' (U2.trans' (F4.mono (T:=λb=>b=g) λ_ _ h=>h.elim))).grown hg (λk hk _=>by have:=HEA.2.2.2.1 k hk;omega));have C5:=hd_ ((C2.fresh F4.out).upd (S:=λb=>u2.ownBlock=some b) ((Upd.refl _ w4).grown hg (λk e _=>e)) (λh=>by have:=HEA.2.2.2.1 g h;have:=HSG g rfl;omega) (λb _ hb h=>by have:=HEA.2.2.2.1 b h;have:=F0.size;have:=hb.2;omega));clear ho hg ha;go_wp2_with fail;go_roundg (gk-1)
         case measure=>have:=HI.out;have:=HLT.out;omega
         case rel=>exact⟨i+1,by have:=HI.out;have:=HLT.out;omega,by go_num,by rw [HST.out];exact C5.out,U5.out,E5.out⟩
       have HB:=hd_ (HBN wr (stF bs at_ i) (QO bs at_ i).1 cu (by omega) (by omega))
       have hno:¬stF bs at_ 3<=bs.length:=by
         have h1:=Q3D bs at_ (i+1) (2-i);rw [show i+1+(2-i)=3 by omega]at h1;have h2:stF bs at_ (i+1)=stF bs at_ i+(QO bs at_ i).1:=rfl;omega
       simp only [if_neg hno]at hR;obtain⟨nn,hnn⟩:=nm_ ((QO bs at_ i).1);rw [<-hnn]at HB hixi;clear cu uw hEA hi hlt hk hnl hnn hno;go_wp2_with fail;refine HB.mono ?_;rintro e w2 ⟨rfl,u2,c2⟩;have U2:=hd_ u2;clear u2 c2 HB;go_wp2_with fail;refine(ZA 3 _ _ _ (by simpa using(Blk.new w2 24 #[.int .i64 3]).cell 0) (by decide)).mono ?_;rintro e w3 ⟨rfl,rfl⟩;simp only [Qa];exact⟨rfl,hR _ _ ⟨rfl,((F0.mono (T:=λb=>b=g) λ_ _ h=>h.elim).trans' UW.out).trans' (U2.alloc _)⟩⟩
     (have h3:i=3:=by omega);subst h3;(have hle:stF bs at_ 3<=bs.length:=by obtain⟨_,_,_,_,_,h,_⟩:=cu;exact h);simp only [if_pos hle]at hR;have HR3:=hd_ (HRE wr _ cu);have HSL:=hd_ (show YR bs at_ 3=bs.drop (stF bs at_ 3)from rfl);clear cu uw hEA hi hlt hle;go_wp2_with fail;refine HR3.mono ?_;rintro e w2 ⟨v,rfl,nb⟩;obtain⟨A2,n2,c2,rfl,hn2⟩:=nb.1.form';have NB:=hd_ nb;clear nb hn2 HR3;obtain⟨w4,P,hw4,hP,f4,b4⟩:=al_ w2 22 #[.slice A2 n2 c2];have RB:=hd_ (show Rd w4 (λ_=>True) (some ⟨P,0,none⟩) 1 [.slice A2 n2 c2]from by simpa using Blk.rds b4);have F4:=hd_ f4;obtain⟨vs,hvl,ov,fv,ob,one,hp⟩:=id EA.out;have HEA:=hd_ (And.intro hvl (And.intro ov (And.intro fv (And.intro ob (And.intro one hp)))));have O4:=hd_ (ov.fresh (NB.2.1.trans' f4));have HVL:=hd_ hvl;have HW4:=hd_ hw4;have HP4:=hd_ hP;clear f4 b4 hw4 hP ov ob hvl fv one hp;go_wp2_with (at_builtin;simp only [<-HP4.out,<-HW4.out];go_must (refine Qm _ rfl (.tmp 27) (.tmp 31) _ rfl 22 _ 24 underlying117 VX rfl u2 _ rfl O4.out _ _ _ _ rfl RB.out (by simp [Value.oneCell']) (by omega) (by have:=HVL.out;simp;omega) ?_));intro v5 w5 ho hg ha;have E5:=hd_ (ZQ.step (Ls:=YR bs at_) HSG.out HEA.1 HEA.2.1 HEA.2.2.1 HEA.2.2.2.1 HEA.2.2.2.2.1 HEA.2.2.2.2.2 (NB.2.1.mono (T:=λb=>b=g) λ_ _ h=>h.elim) (by rw [HSL.out];exact NB.1) NB.2.2 F4.out ho hg ha);clear ho hg ha;go_wp2_with fail;(try go_ret);exact hR _ _ ⟨_,rfl,E5.lift F0.out⟩
 simp only [if_neg hE]at HFL hR;clear hE;go_wp2_with fail;refine HFL.mono ?_;rintro e w1 ⟨u1,rfl⟩;simp only [Qa];exact⟨rfl,hR _ _ ⟨rfl,(F0.mono (T:=λb=>b=g) λ_ _ h=>h.elim).trans' u1⟩⟩
theorem Q7C (w:World):Calls prog 277 #[] w λe w'=>e = .returned (.tuple #[])/\Upd (λb=>False) w w'/\True:=by
 refine Q8 λR hR=>?_;go_enter func277,ntmps277;go_wp2_with fail;go_end0;exact hR _ _ ⟨rfl,Upd.refl _ _,trivial⟩
theorem Q5N (G:Nat->Prop) (H:Nat) (v:Value) (a x:List Nat) (i:Int) (B:Option Addr) (m d:Nat) (w:World) (bo:Blk w H 22 #[v]) (ov:Own w 5 v (Q2 a)) (hx:Rd w G B m (Q2 x)) (hoH:v.ownBlock≠some H) (hlen:a.length+m<=2^32) :
   Calls prog 231 #[.int .i64 i,.slice B m d,.pointer (some ⟨H,0,none⟩)] w λe w'=>e = .returned (.bool true)/\∃v',Blk w' H 22 #[v']/\Own w' 5 v' (Q2 (a++x))/\Upd (λb=>b=H\/v.ownBlock=some b) w w'/\(v'.ownBlock=v.ownBlock\/v'.ownBlock=some w.heap.size):=by
 obtain⟨A,n,c,rfl,hn⟩:=ov.form';have c0:=bo.cell 0;simp at c0;have BO:=hd_ bo;have OV:=hd_ ov;have HX:=hd_ hx;have HN:=hd_ hoH;have HLE:=hd_ (show(Q2 a).length+m<=2^40 by rw [QL];omega);clear bo ov hx hoH hn hlen;refine Q8 λR hR=>?_;go_enter func231,ntmps231;go_wp2_with (at_builtin;go_must (refine Qm _ rfl (.tmp 6) (.tmp 7) _ rfl 5 _ 1 underlying22 JX rfl (.slice A n c) _ rfl OV.out _ _ _ _ rfl HX.out (Jo _) (by omega) HLE.out ?_));intro v1 w1 ho hg ha;have u1:Upd (λb=>Value.ownBlock (.slice A n c)=some b) w w1:=(Upd.refl _ w).grown hg (λk e _=>e);have b1:=BO.upd u1 (λh=>HN h);have hz1:=b1.frozen 0;have cz1:=b1.cell 0;simp at cz1;obtain⟨A1,n1,c1,rfl,hn1⟩:=ho.form';have B1:=hd_ b1;have U1:=hd_ u1;have O1:=hd_ ho;have HA:=hd_ ha;clear ho hg ha u1 b1 hn1 c0;go_wp2_with fail;(try go_ret);have us:Upd (λb=>b=H) w1 (w1.setCell ⟨H,0,none⟩ (.slice A1 n1 c1)):=(Upd.refl (λb=>b=H) _).setCell (p:=⟨H,0,none⟩) (λ_=>rfl) _
 have o2:Own (w1.setCell ⟨H,0,none⟩ (.slice A1 n1 c1)) 5 (.slice A1 n1 c1) (Q2 (a++x)):=by
   rw [<-Q2n];refine O1.upd us (λb hb e=>?_);subst e;rcases HA.out with h|h
   . exact HN (h ▸ hb)
   rw [h]at hb;injection hb with hb;have:=BO.lt;omega
 exact hR _ _ ⟨rfl,_,by simpa using B1.set_ 0 (.slice A1 n1 c1),o2,(U1.mono (T:=λb=>b=H\/Value.ownBlock (.slice A n c)=some b) λ_ _ h=>.inr h).trans' (us.mono λ_ _ h=>.inl h),HA.out⟩
theorem Q1n {l:List Int} {v:Nat}:∀ {k t t':Nat} {r:List Nat},QG l v t k=some (r,t')->r.length=k
 | 0,t,t',r,h=>by
   unfold QG at h
   injection h with h
   injection h with h1 h2
   subst h1;rfl
 | k+1,t,t',r,h=>by
   unfold QG at h
   split at h
   . cases h
   split at h
   . cases h
   next h2 =>
   injection h with h
   injection h with h1 h3
   subst h1
   rw [List.length_cons,Q1n h2]
theorem Q11 {l:List Int} {bs:List Nat} {n:Nat} {x:List Nat} (h:Jb l bs n=some x):x.length=n:=by
 unfold Jb at h;split at h
 . cases h
 split at h
 . next h2=>injection h with h;subst h;exact Q1n h2
 cases h
def nfF (n i:Nat):Nat:=if i<3 then(n+3) / 4 else n-3*((n+3) / 4)
def pD (l:List Int) (cb:List Nat) (n i:Nat):Option (List Nat):=Jb l (YR cb 0 i) (nfF n i)
def Zu (l:List Int) (cb:List Nat) (n i:Nat):List Nat:=((List.range i).map λj=>(pD l cb n j).getD []).flatten
theorem Vz (l:List Int) (cb:List Nat) (n i:Nat):Zu l cb n (i+1)=Zu l cb n i++(pD l cb n i).getD []:=by
 unfold Zu;rw [List.range_succ,List.map_append,List.flatten_append];simp
theorem Q12 {l:List Int} {cb:List Nat} {n:Nat} (hn:n<=131072):∀i,(Zu l cb n i).length<=i*131072
 | 0=>by simp [Zu]
 | i+1=>by
   have ih:=Q12 (l:=l) (cb:=cb) hn i
   rw [Vz,List.length_append]
   have h:((pD l cb n i).getD []).length<=131072:=by
     cases e:pD l cb n i with
     | none=>simp
     | some x =>
       have:=Q11 e;unfold nfF at this;simp only [Option.getD_some];(split at this<;>omega)
   rw [Nat.add_mul];omega
def QZ (l:List Int) (cb:List Nat) (n:Nat):Int ⊕ List Nat :=
  if Qc l then if n<=3*((n+3) / 4)then .inl 11 else if YY cb 0=0 then if stF cb 0 3<=cb.length then if(List.range 4).all (λi=>(pD l cb n i).isSome)then .inr (Zu l cb n 4)else .inl 14 else .inl 3 else .inl (YY cb 0)else .inl 12
def Qbb (l:List Int) (cb:List Nat) (n:Nat):Int:=match QZ l cb n with | .inl e=>e | .inr _=>0
def Q13 (Ho:Nat) (q:Int ⊕ List Nat) (w:World) (e:Ending) (w':World):Prop :=
  Upd (λb=>b=Ho) w w'/\∃v,Blk w' Ho 22 #[v]/\match q with
    | .inl er=>e = .returned (.int .i64 er)
    | .inr x=>e = .returned (.int .i64 0)/\Own w' 5 v (Q2 x)/\∀b,v.ownBlock=some b->w.heap.size<=b
theorem ZQ.cells {S S':Nat->Prop} {w W:World} {Ls:Nat->List Nat} {v:Value} (h:ZQ S w Ls 4 v W) (hS:∀b,S' b->b<w.heap.size):∃P c,v = .slice P 4 c /\
   ∀W',Upd S' W W'->∀i,i<4->∃b o A n d,P=some ⟨b,o,none⟩/\W'.cell? ⟨b,o+i,none⟩=some (.slice A n d)/\n<=d/\Rd W' (λ_=>True) A n (Q2 (Ls i)):=by
 obtain⟨vs,hvl,ov,fv,ob,one,hp⟩:=h;obtain⟨P,c,rfl,hc,hr⟩:=ov.form;rw [hvl]at ob hc hr hp|-;refine⟨P,c,rfl,λW' hu i h4=>?_⟩;obtain⟨b,o,rfl,_,hbs,hcell⟩:=(hr.upd hu (λb _ hb h=>by have:=ob b hb;have:=hS b h;omega)).at_ (k:=i) h4;obtain⟨A,n,d,hv,hnd,hrd⟩:=hp i h4;rw [hv]at hcell;exact⟨b,o,A,n,d,rfl,hcell,hnd,(hrd.upd hu (λb _ hb h=>by have:=hS b h;have:=hb.1;omega)).mono λ_ _=>trivial⟩
theorem Q7D (F G:Nat->Prop) (TA B:Option Addr) (tn tc m d n Ho:Nat) (l:List Int) (cb:List Nat) (w:World) (hrt:Rd w F TA tn (Q7 l)) (htn:tn<=2^40) (htc:tn<=tc) (hbs:Rd w G B m (Q2 cb)) (hlt:∀b∈cb,b<256) (hm:m<=2^32) (hn:n<=131072)
   (bo:Blk w Ho 22 #[.slice none 0 0]) (hFo:∀b,F b->b≠Ho) :
   Calls prog 230 #[.slice TA tn tc,.slice B m d,.int .i64 (n:Nat),.func (.func 231) #[] #[.pointer (some ⟨Ho,0,none⟩)]] w (Q13 Ho (QZ l cb n) w):=by
 have hmf:∀(fn:Fn) (first cap:Array Value) (w:World),(Instr.makeFunc fn first cap).run prog w = .ok (.func fn first cap) w:=λ_ _ _ _=>rfl;(have hL:cb.length=m:=by have:=hbs.1;simpa using this);obtain⟨w0,H,hw0,hH,f0,be⟩:=al_ w 24 #[.int .i64 0];(have hHo:Ho<H:=by rw [hH];exact bo.lt);have HCK:=hd_ (KO F TA tn tc l w0 (hrt.fresh f0) htn htc);have BE:=hd_ be;have BO:=hd_ (bo.fresh f0);have F0:=hd_ f0;have HH:=hd_ hH;have HW:=hd_ hw0;have HHO:=hd_ hHo;have HRT:=hd_ (hrt.fresh f0);have HRB:=hd_ (hbs.fresh f0);have HX:=hd_ (And.intro hlt (And.intro htn (And.intro htc (And.intro hm (And.intro hn hFo)))));have HL:=hd_ hL
 have HTAIL:=hd_ (show ∀(R:Ending->World->Prop) (er:Int) (w3:World) tmps,Upd (λb=>b=Ho) w0 w3->(∃v,Blk w3 Ho 22 #[v])->(∀w',Upd (λb=>b=Ho) w w'->(∃v,Blk w' Ho 22 #[v])->R (.returned (.int .i64 er)) w')->tmps[8]?=some (.pointer (some ⟨H,0,none⟩)) ->
     Leaves prog Tryz.f230 tmps R [{ target:=.fn (.func 92) #[],args:=#[.pointer (some ⟨H,0,none⟩),.func (.func 277) #[] #[]] }]
       (.panicking [{ v:=.iface 24 (.int .i64 er),recovered:=false }]) w3 from by
   intro R er w3 tmps u3 ⟨v,b3⟩ hR ht8;refine leaves_cons (f:=92) (args:=#[.pointer (some ⟨H,0,none⟩),.func (.func 277) #[] #[]]) (by simp) (by simp [go_sem]) ?_;refine(Vh 277 #[] (λb=>False) (λW=>True) H er _ w3 (BE.upd u3 (by have:=HHO.out;omega)) (λh=>h) (λ_ _=>rfl) (Q7C w3)).mono ?_;rintro e u' w'' ⟨rfl,rfl,w4,u4,-,rfl⟩;have e4:=((BE.upd u3 (by have:=HHO.out;omega)).upd u4 (λh=>h)).set_ 0 (.int .i64 er);have d1:=e4.cell 0;simp at d1;have b4:=(b3.upd u4 (λh=>h)).far (p:=⟨H,0,none⟩) (by have:=HHO.out;simp;omega) (.int .i64 er);show Leaves _ _ _ _ [] .returning _;refine⟨.int .i64 er,?_,hR _ ?_ ⟨v,b4⟩⟩
   . simp [results,results230,go_sem,d1,ht8]
   exact(((F0.mono (T:=λb=>b=Ho) λ_ _ h=>h.elim).trans' u3).trans' (u4.mono λ_ _ h=>h.elim)).trans ((Upd.refl (λb=>b=H) w4).setCell (p:=⟨H,0,none⟩) (λ_=>rfl) _) (λb hb h=>by have:=HH.out;omega))
 clear hw0 hH f0 be bo hHo hrt hbs hlt hm hn hFo hL;refine Q8 λR hR=>?_;unfold Q13 at hR;go_enter_defers func230,ntmps230;go_upto_region 1 with fail;simp only [<-HH.out,<-HW.out];by_cases ht:Qc l
 . simp only [if_pos ht]at HCK
   have HT:=hd_ ht;go_wp2_with fail;refine HCK.mono ?_;rintro e w1 ⟨rfl,f1⟩;have F1:=hd_ f1;clear f1 HCK;go_wp2_with fail;refine(Zz _ _ _ (by simpa using(Blk.new w1 24 #[.int .i64 0]).cell 0)).mono ?_;rintro e w2 ⟨rfl,hw2⟩;have F2:=hd_ (F1.trans' (show Q0 w1 w2 by rw [hw2];exact(Upd.refl _ _).alloc _));clear hw2;by_cases hk:n<=3*((n+3) / 4)
   . have HPN:=hd_ (Q1m n w2 HX.2.2.2.2.1 hk)
     (have hq:QZ l cb n = .inl 11:=by unfold QZ;rw [if_pos ht,if_pos hk]);rw [hq]at hR;clear hk ht hq;go_wp2_with fail;refine HPN.mono ?_;rintro e w3 ⟨rfl,f3⟩;simp only [Qa];change Leaves _ _ _ _ _ _ _;exact HTAIL R 11 w3 _ ((F2.trans' f3).mono λ_ _ h=>h.elim) ⟨_,BO.fresh (F2.trans' f3)⟩ (λw' hu hv=>hR _ _ ⟨hu,by obtain⟨v,hb⟩:=hv;exact⟨v,hb,rfl⟩⟩) rfl
   obtain⟨kk,hkk⟩:=nm_ ((n+3) / 4);obtain⟨rr,hrr⟩:=nm_ (n-3*((n+3) / 4));have HPK:=hd_ (Q5M n kk rr w2 HX.2.2.2.2.1 hkk (by omega) (by omega));have HKK:=hd_ (And.intro hkk hrr);have HK:=hd_ hk;clear hkk hrr;clear hk ht;go_wp2_with fail;refine HPK.mono ?_;rintro e w3 ⟨rfl,f3⟩;obtain⟨w4,Q,hw4,hQ,-,bq⟩:=al_ w3 139 #[.int .i64 (kk:Nat),.int .i64 (kk:Nat),.int .i64 (kk:Nat),.int .i64 (rr:Nat)];have F4:=hd_ (F2.trans' (f3.trans' (show Q0 w3 w4 by rw [hw4];exact(Upd.refl _ _).alloc _)));have BQ:=hd_ bq;have HQH:=hd_ (show Ho≠Q by rw [hQ];have h1:=HHO.out;have h2:=BE.lt;have h3:=(F2.trans' f3).size;omega);clear f3 bq HPK;go_upto_region 4 with fail;simp only [<-hQ,<-hw4];clear hQ hw4;have HN:=hd_ (VY G B m d cb w4 (HRB.fresh F4.out) HX.1 (by rw [HL.out];exact HX.2.2.2.1));go_wp2_with fail;refine HN.mono ?_;rintro e w5 ⟨g,rfl,hg,f5,cu⟩;have HST:=hd_ (Q98 _ g cb 0 w5 cu (λb hb=>hb.2));have F5:=hd_ (F4.trans' f5);have F45:=hd_ f5;have HG:=hd_ hg;have HGL:=hd_ cu.lt;clear f5 cu hg HN;unfold Q1Y at HST;by_cases hE:YY cb 0=0
   . by_cases hS:stF cb 0 3<=cb.length
     . simp only [if_pos hE,if_pos hS]at HST
       have HES:=hd_ (And.intro hE hS);clear hE hS;go_wp2_with fail;refine HST.mono ?_;rintro e w6 ⟨v,rfl,ev⟩;obtain⟨P,c6,rfl,hcells⟩:=ev.cells (S':=λb=>b=Ho) (λb h=>by have:=HHO.out;have:=BE.lt;have:=F5.size;omega);obtain⟨_,_,_,u6,_⟩:=ev;have HCE:=hd_ hcells;have U6:=hd_ u6;have F6:=hd_ (show Q0 w0 w6 from F5.trans u6 (λb hb h=>by have:=HG.out;have:=F4.size;omega));have BQ6:=hd_ ((BQ.fresh F45.out).upd u6 (λh=>by have:=HG.out;have:=BQ.lt;omega));clear hcells u6 HST;go_wp2_with fail;go_loopg [25] 4 (λmm vi wr=>∃i,i+mm=4/\vi = .int .i64 (i:Nat)/\Upd (λb=>b=Ho) w6 wr/\(∀j,j<i->(pD l cb n j).isSome)/\∃v,Blk wr Ho 22 #[v]/\Own wr 5 v (Q2 (Zu l cb n i))/\∀b,v.ownBlock=some b->w6.heap.size<=b)
       case atStart=>exact⟨0,rfl,rfl,Upd.refl _ _,λj hj=>absurd hj (Nat.not_lt_zero _),_,BO.fresh F6.out,Own.nil _ _,by simp [Value.ownBlock]⟩
       case round =>
         obtain⟨i,hi,rfl,uw,hall,v,bw,ow,vw⟩:=hrel;have HI:=hd_ hi;have UW:=hd_ uw;have HA:=hd_ hall;have BW:=hd_ bw;have OW:=hd_ ow;have VW:=hd_ vw;have HHS:=hd_ (show Ho<w6.heap.size by have:=HHO.out;have:=BE.lt;have:=F6.size;omega);by_cases hlt:i<4
         . have hI:(i:Int)<4:=by omega
           obtain⟨b,o,A,nn,d6,rfl,hc,hnd,hrd⟩:=HCE wr uw i hlt;(have hnf:nfF n i<=131072:=by have:=HX.2.2.2.2.1;unfold nfF;split<;>omega)
           have hqc:wr.cell? ⟨Q,i,none⟩=some (.int .i64 (nfF n i:Nat)):=by
             have hb:=BQ6.upd uw (λh=>HQH h.symm);have h1:=HKK.1;have h2:=HKK.2;unfold nfF;rcases(show i=0\/i=1\/i=2\/i=3 by omega)with rfl|rfl|rfl|rfl
             . rw [if_pos (by omega),<-h1];simpa using hb.cell 0
             . rw [if_pos (by omega),<-h1];simpa using hb.cell 1
             . rw [if_pos (by omega),<-h1];simpa using hb.cell 2
             rw [if_neg (by omega),<-h2];simpa using hb.cell 3
           have hsl:(YR cb 0 i).length<=2^32/\∀x∈YR cb 0 i,x<256:=by
             have hm:=HX.2.2.2.1;have hl:=HL.out;unfold YR;split
             . exact⟨by rw [List.length_take,List.length_drop];omega,λx hx=>HX.1 x (List.mem_of_mem_drop (List.mem_of_mem_take hx))⟩
             exact⟨by rw [List.length_drop];omega,λx hx=>HX.1 x (List.mem_of_mem_drop hx)⟩
           (have hnl:nn<=2^32:=by have:=hrd.1;rw [QL]at this;omega);have HD:=hd_ (Q3z F (λ_=>True) TA A tn tc nn d6 (nfF n i) l (YR cb 0 i) wr ((HRT.fresh F6.out).upd uw (λb _ hb=>HX.2.2.2.2.2 b hb)) hrd hsl.2 HX.2.1 hnl HX.2.2.1 hnd hnf);rw [if_pos HT.out,if_pos HT.out]at HD;have HPD:=hd_ (show pD l cb n i=Jb l (YR cb 0 i) (nfF n i)from rfl);have HLT:=hd_ hlt;obtain⟨ni,hni⟩:=nm_ (nfF n i);rw [<-hni]at hqc HD HPD hnf;have HNF:=hd_ hnf;obtain⟨o5,ho5⟩:=nm_ (Jb l (YR cb 0 i) ni);rw [<-ho5]at HD HPD;have HXL:=hd_ (show ∀x,o5=some x->x.length<=131072 from λx hx=>by rw [Q11 (ho5 ▸ hx)];exact HNF.out);clear hi uw hall bw ow vw hlt hrd hnd hsl hnl hni ho5 hnf
           cases o5 with
           | none =>
             unfold YQ at HD;simp only at HD
             have hq:QZ l cb n = .inl 14:=by
               have hn:((List.range 4).all λi=>(pD l cb n i).isSome)=false:=by
                 rw [Bool.eq_false_iff];intro h;rw [List.all_eq_true]at h;have:=h i (List.mem_range.2 HLT.out);rw [HPD.out]at this;cases this
               unfold QZ;rw [if_pos HT.out,if_neg HK.out,if_pos HES.1,if_pos HES.2,hn];rfl
             rw [hq]at hR;clear hq;go_wp2_with fail;refine HD.mono ?_;rintro e w7 ⟨rfl,f7⟩;have F7:=hd_ f7;clear f7 HD;go_wp2_with fail;refine(ZA 14 _ _ _ (by simpa using(Blk.new w7 24 #[.int .i64 14]).cell 0) (by decide)).mono ?_;rintro e w8 ⟨rfl,hw8⟩;have f8:=F7.trans' (show Q0 w7 w8 by rw [hw8];exact(Upd.refl _ _).alloc _);simp only [Qa];change Leaves _ _ _ _ _ _ _;exact HTAIL R 14 w8 _ (((F6.mono (T:=λb=>b=Ho) λ_ _ h=>h.elim).trans' UW.out).trans' (f8.mono λ_ _ h=>h.elim)) ⟨_,BW.fresh f8⟩ (λw' hu hv=>hR _ _ ⟨hu,by obtain⟨v,hb⟩:=hv;exact⟨v,hb,rfl⟩⟩) rfl
           | some x =>
             unfold YQ at HD;simp only at HD;go_wp2_with fail;refine HD.mono ?_;rintro e w7 ⟨v7,rfl,nb⟩;obtain⟨A7,n7,c7,rfl,hn7⟩:=nb.1.form';obtain⟨hn4,hc4,hr7⟩:=nb.1.rd rfl;rw [<-hn4]at hr7;have F7:=hd_ nb.2.1;have R7:=hd_ hr7;have HN7:=hd_ hn4;clear nb hn7 hn4 hc4 hr7 HD;go_wp2_with fail;refine(Zz _ _ _ (by simpa using(Blk.new w7 24 #[.int .i64 0]).cell 0)).mono ?_;rintro e w8 ⟨rfl,hw8⟩;have F78:=hd_ (show Q0 w7 w8 by rw [hw8];exact(Upd.refl _ _).alloc _);have F8:=hd_ (F7.trans' F78.out)
             have HY:=hd_ (Q5N _ Ho v (Zu l cb n i) x (i:Nat) A7 n7 c7 w8 (BW.fresh F8.out) (OW.fresh F8.out) (R7.fresh F78.out) (λh=>by have:=VW Ho h;have:=HHS.out;omega) (by
               have h1:=Q12 (l:=l) (cb:=cb) HX.2.2.2.2.1 i;have h2:=HXL x rfl;have h3:=HN7.out;rw [QL]at h3;have:=HLT.out
               omega))
             clear hw8;go_wp2_with fail;refine HY.mono ?_;rintro e w9 ⟨rfl,v',b9,o9,u9,h9⟩;have U9:=hd_ ((UW.trans' (F8.mono (T:=λb=>b=Ho) λ_ _ h=>h.elim)).trans u9 (λb hb h=>h.elim id λh=>by have:=VW b h;omega));have B9:=hd_ b9;have O9:=hd_ o9
             have V9:=hd_ (show ∀b,v'.ownBlock=some b->w6.heap.size<=b from λb hb=>by
               rcases h9 with h|h
               . exact VW b (h ▸ hb)
               rw [h]at hb;injection hb with hb;have:=UW.size;have:=F8.size;omega)
             clear b9 o9 u9 h9 HY hc hqc;go_wp2_with fail;go_roundg (gk-1)
             case measure=>have:=HI.out;have:=HLT.out;omega
             case rel =>
               refine⟨i+1,by have:=HI.out;have:=HLT.out;omega,by go_num,U9.out,λj hj=>?_,v',B9.out,?_,V9.out⟩
               . rcases Nat.lt_succ_iff_lt_or_eq.1 hj with h|rfl
                 . exact HA j h
                 rw [HPD.out];rfl
               rw [Vz,HPD.out];exact O9.out
         (have h4:i=4:=by omega);subst h4
         have hq:QZ l cb n = .inr (Zu l cb n 4):=by
           have hn:((List.range 4).all λi=>(pD l cb n i).isSome)=true:=by
             rw [List.all_eq_true];exact λj hj=>hall j (List.mem_range.1 hj)
           unfold QZ;rw [if_pos HT.out,if_neg HK.out,if_pos HES.1,if_pos HES.2,hn];rfl
         rw [hq]at hR;have be9:=(BE.fresh F6.out).upd uw (by have:=HHO.out;omega);have e0:=be9.cell 0;have ez:=be9.frozen 0;simp at e0;have BE9:=hd_ be9;clear hi uw hall bw ow vw hlt hq be9;go_wp2_with fail;change Leaves _ _ _ _ _ _ _;refine leaves_cons (f:=92) (args:=#[.pointer (some ⟨H,0,none⟩),.func (.func 277) #[] #[]]) (by simp) (by simp [go_sem]) ?_;have e2:=BE9.set_ 0 (.int .i64 0);have d1:=e2.cell 0;simp at d1;refine(Q1o _ _ _).mono ?_;rintro e u' w'' ⟨rfl,rfl,rfl⟩;have us:Upd (λb=>b=H) wr (wr.setCell ⟨H,0,none⟩ (.int .i64 0)):=(Upd.refl (λb=>b=H) wr).setCell (p:=⟨H,0,none⟩) (λ_=>rfl) _;refine⟨.int .i64 0,?_,hR _ _ ⟨(((F0.mono (T:=λb=>b=Ho) λ_ _ h=>h.elim).trans' (F6.mono λ_ _ h=>h.elim)).trans' UW.out).trans us (λb hb h=>by have:=HH.out;omega),v,BW.upd us (by have:=HHO.out;omega),rfl,OW.upd us (λb hb h=>by have:=VW b hb;have:=BE.lt;have:=F6.size;omega),λb hb=>by have:=VW b hb;have:=F0.size;have:=F6.size;omega⟩⟩;simp [results,results230,go_sem,d1]
     simp only [if_pos hE,if_neg hS]at HST;(have hq:QZ l cb n = .inl 3:=by unfold QZ;rw [if_pos HT.out,if_neg HK.out,if_pos hE,if_neg hS]);rw [hq]at hR;clear hE hS hq;go_wp2_with fail;refine HST.mono ?_;rintro e w6 ⟨rfl,u6⟩;have f6:Q0 w0 w6:=F5.trans u6 (λb hb h=>by have:=HG.out;have:=F4.size;omega);simp only [Qa];change Leaves _ _ _ _ _ _ _;exact HTAIL R 3 w6 _ (f6.mono λ_ _ h=>h.elim) ⟨_,BO.fresh f6⟩ (λw' hu hv=>hR _ _ ⟨hu,by obtain⟨v,hb⟩:=hv;exact⟨v,hb,rfl⟩⟩) rfl
   simp only [if_neg hE]at HST;(have hq:QZ l cb n = .inl (YY cb 0):=by unfold QZ;rw [if_pos HT.out,if_neg HK.out,if_neg hE]);rw [hq]at hR;clear hE hq;go_wp2_with fail;refine HST.mono ?_;rintro e w6 ⟨rfl,u6⟩;have f6:Q0 w0 w6:=F5.trans u6 (λb hb h=>by have:=HG.out;have:=F4.size;omega);simp only [Qa];change Leaves _ _ _ _ _ _ _;exact HTAIL R (YY cb 0) w6 _ (f6.mono λ_ _ h=>h.elim) ⟨_,BO.fresh f6⟩ (λw' hu hv=>hR _ _ ⟨hu,by obtain⟨v,hb⟩:=hv;exact⟨v,hb,rfl⟩⟩) rfl
 simp only [if_neg ht]at HCK;(have hq:QZ l cb n = .inl 12:=by unfold QZ;rw [if_neg ht]);rw [hq]at hR;clear ht hq;go_wp2_with fail;refine HCK.mono ?_;rintro e w1 ⟨rfl,f1⟩;have F1:=hd_ f1;clear f1 HCK;go_wp2_with fail;refine(ZA 12 _ _ _ (by simpa using(Blk.new w1 24 #[.int .i64 12]).cell 0) (by decide)).mono ?_;rintro e w2 ⟨rfl,hw2⟩;have f2:=F1.trans' (show Q0 w1 w2 by rw [hw2];exact(Upd.refl _ _).alloc _);simp only [Qa];change Leaves _ _ _ _ _ _ _;exact HTAIL R 12 w2 _ (f2.mono λ_ _ h=>h.elim) ⟨_,BO.fresh f2⟩ (λw' hu hv=>hR _ _ ⟨hu,by obtain⟨v,hb⟩:=hv;exact⟨v,hb,rfl⟩⟩) rfl
theorem Q14 {l:List Int} {cb:List Nat} {n:Nat} {er:Int} (h:QZ l cb n = .inl er):er≠0:=by
 unfold QZ at h;split at h
 . split at h
   . injection h with h;omega
   split at h
   . split at h
     . split at h
       . cases h
       injection h with h;omega
     injection h with h;omega
   next h2=>injection h with h;rw [<-h];exact h2
 injection h with h;omega
def Kd (q:Int ⊕ List Nat) (w:World) (e:Ending) (w':World):Prop :=
  match q with
  | .inl er=>e = .returned (.tuple #[.slice none 0 0,.int .i64 er])/\Q0 w w'
  | .inr x=>∃v,e = .returned (.tuple #[v,.int .i64 0])/\Qu w w' v x
theorem Q99 (F G:Nat->Prop) (TA B:Option Addr) (tn tc m d n:Nat) (l:List Int) (cb:List Nat) (w:World) (hrt:Rd w F TA tn (Q7 l)) (htn:tn<=2^40) (htc:tn<=tc) (hbs:Rd w G B m (Q2 cb)) (hlt:∀b∈cb,b<256) (hm:m<=2^32) (hn:n<=131072) :
   Calls prog 183 #[.slice TA tn tc,.slice B m d,.int .i64 (n:Nat)] w (Kd (QZ l cb n) w):=by
 have hmf:∀(fn:Fn) (first cap:Array Value) (w:World),(Instr.makeFunc fn first cap).run prog w = .ok (.func fn first cap) w:=λ_ _ _ _=>rfl;obtain⟨w0,H,hw0,hH,f0,bo⟩:=al_ w 22 #[.slice none 0 0];have HGO:=hd_ (Q7D (λb=>F b/\b<w.heap.size) G TA B tn tc m d n H l cb w0 (hrt.both.fresh f0) htn htc (hbs.fresh f0) hlt hm hn bo (λb hb=>by have:=hb.2;omega));have HNE:=hd_ (λer (h:QZ l cb n = .inl er)=>Q14 h);obtain⟨q,hq⟩:=nm_ (QZ l cb n);rw [<-hq]at HGO HNE|-;have F0:=hd_ f0;have HH:=hd_ hH;have HW:=hd_ hw0;have HS0:=hd_ (show H<w0.heap.size from bo.lt);clear hw0 hH f0 bo hrt htn htc hbs hlt hm hn hq;refine Q8 λR hR=>?_;unfold Kd at hR;unfold Q13 at HGO;go_enter func183,ntmps183;go_upto_region 1 with fail;simp only [<-HH.out,<-HW.out]
 cases q with
 | inl er =>
   have h0:=HNE er rfl;(have hb:(er == 0)=false:=by simpa using h0);go_wp2_with fail;refine HGO.mono ?_;rintro e w1 ⟨u1,v,b1,rfl⟩;have c1:=b1.cell 0;have z1:=b1.frozen 0;simp at c1;have B1:=hd_ b1;have U1:=hd_ u1;clear b1 u1 HGO;go_wp2_with fail;have b2:=B1.set_ 0 (.slice none 0 0);have d0:=b2.cell 0;simp at d0;have us:Upd (λb=>b=H) w1 (w1.setCell ⟨H,0,none⟩ (.slice none 0 0)):=(Upd.refl (λb=>b=H) w1).setCell (p:=⟨H,0,none⟩) (λ_=>rfl) _;refine⟨rfl,.tuple #[.slice none 0 0,.int .i64 er],by simp [results,results183,go_sem,d0],hR _ _ ⟨rfl,F0.trans (U1.trans' us) (λb hb h=>by have:=HH.out;omega)⟩⟩
 | inr x =>
   go_wp2_with fail;refine HGO.mono ?_;rintro e w1 ⟨u1,v,b1,rfl,ov,hv⟩;obtain⟨A1,n1,c1,rfl,hn1⟩:=ov.form';have cc:=b1.cell 0;have z1:=b1.frozen 0;simp at cc;have B1:=hd_ b1;have U1:=hd_ u1;have OV:=hd_ ov;have HV:=hd_ hv;clear b1 u1 ov hv hn1 HGO;go_wp2_with fail;have b2:=B1.set_ 0 (.slice A1 n1 c1);have d0:=b2.cell 0;simp at d0;have us:Upd (λb=>b=H) w1 (w1.setCell ⟨H,0,none⟩ (.slice A1 n1 c1)):=(Upd.refl (λb=>b=H) w1).setCell (p:=⟨H,0,none⟩) (λ_=>rfl) _;refine⟨rfl,.tuple #[.slice A1 n1 c1,.int .i64 0],by simp [results,results183,go_sem,d0],hR _ _ ⟨_,rfl,OV.upd us (λb hb h=>by have:=HV b hb;have:=HS0.out;omega),F0.trans (U1.trans' us) (λb hb h=>by have:=HH.out;omega),λb hb=>by have:=HV b hb;have:=F0.size;omega⟩⟩
theorem Q7E (F:Nat->Prop) (g pr pm most:Nat) (bs:List Nat) (at_:Nat) (w:World) (hcu:Q4 w F g bs at_) (hm:most<=2^40) (hF:∀b,F b->b≠g)
   (br:Blk w pr 229 #[.pointer (some ⟨g,0,none⟩)]) (bm:Blk w pm 3 #[.int .i64 (most:Nat)]) :
   Calls prog 222 #[.pointer (some ⟨pr,0,none⟩),.pointer (some ⟨pm,0,none⟩)] w λe w' =>
     e = .returned (.tuple #[.int .i64 ((Qn most (bs.drop at_)).1:Nat),.int .i64 (Qn most (bs.drop at_)).2.2])/\Upd (λb=>b=g) w w' /\
       Q4 w' F g bs (if(Qn most (bs.drop at_)).2.2=0 then at_+(Qn most (bs.drop at_)).2.1 else at_):=by
 have HN:=hd_ (Q3C F g most bs at_ w hcu hm hF);have c0:=br.cell 0;have c1:=bm.cell 0;simp at c0 c1;generalize (if(Qn most (bs.drop at_)).2.2=0 then at_+(Qn most (bs.drop at_)).2.1 else at_)=P at *;generalize Qn most (bs.drop at_)=V at *;clear hcu hm hF br bm;refine Q8 λR hR=>?_;go_enter func222,ntmps222;go_wp2_with fail;refine HN.mono ?_;rintro e w1 ⟨rfl,u1,c1⟩;go_wp2_with fail;(try go_ret2);exact hR _ _ ⟨rfl,u1,c1⟩
theorem Q3E (F:Nat->Prop) (g most:Nat) (bs:List Nat) (at_:Nat) (w:World) (hcu:Q4 w F g bs at_) (hm:most<=2^40) (hF:∀b,F b->b≠g) :
   Calls prog 175 #[.agg #[.pointer (some ⟨g,0,none⟩)],.int .i64 (most:Nat)] w λe w' =>
     Upd (λb=>b=g) w w'/\if(Qn most (bs.drop at_)).2.2=0 then e = .returned (.int .i64 ((Qn most (bs.drop at_)).1:Nat))/\Q4 w' F g bs (at_+(Qn most (bs.drop at_)).2.1)else e=Qa (Qn most (bs.drop at_)).2.2:=by
 have hmf:∀(fn:Fn) (first cap:Array Value) (w:World),(Instr.makeFunc fn first cap).run prog w = .ok (.func fn first cap) w:=λ_ _ _ _=>rfl;obtain⟨w0,H,hw0,hH,f0,br,bm⟩:=Jw w 229 #[.pointer (some ⟨g,0,none⟩)] 3 #[.int .i64 (most:Nat)];(have hsz:(w.alloc (.cells #[.pointer (some ⟨g,0,none⟩)] 229)).heap.size=H+1:=by simp [hH]);have HC:=hd_ (Q7E F g H (H+1) most bs at_ w0 (hcu.fresh f0) hm hF br bm);have F0:=hd_ (f0.mono (T:=λb=>b=g) λ_ _ h=>h.elim);have HH:=hd_ hH;have HW:=hd_ hw0;obtain⟨V,hV⟩:=nm_ (Qn most (bs.drop at_));rw [<-hV]at HC|-;clear hw0 hH f0 br bm hcu hm hF hV;refine Q8 λR hR=>?_;go_enter func175,ntmps175;go_upto_region 1 with fail;simp only [hsz,<-HH.out,<-HW.out];clear hsz;by_cases h0:V.2.2=0
 . simp only [if_pos h0]at HC hR
   rw [h0]at HC;have HR:=hd_ (Q7F 222 #[.pointer (some ⟨H,0,none⟩),.pointer (some ⟨H+1,0,none⟩)] w0 (λ_ _=>rfl) (λv W=>v = .int .i64 (V.1:Nat)/\Upd (λb=>b=g) w0 W/\Q4 W F g bs (at_+V.2.1)) (HC.mono λe w' h=>⟨_,h.1,rfl,h.2.1,h.2.2⟩));clear HC;go_wp2_with fail;refine HR.mono ?_;rintro e w1 ⟨v,w2,rfl,⟨rfl,u2,c2⟩,f2⟩;have U2:=hd_ (F0.trans' (u2.trans' (f2.mono λ_ _ h=>h.elim)));have C2:=hd_ (c2.fresh f2);clear u2 c2 f2 HR;go_wp2_with fail;(try go_ret);exact hR _ _ ⟨U2.out,rfl,C2.out⟩
 simp only [if_neg h0]at HC hR;have HR:=hd_ (Q7G 222 #[.pointer (some ⟨H,0,none⟩),.pointer (some ⟨H+1,0,none⟩)] V.2.2 w0 (λ_ _=>rfl) (λW=>Upd (λb=>b=g) w0 W) h0 (HC.mono λe w' h=>⟨_,h.1,h.2.1⟩));clear HC h0;go_wp2_with fail;refine HR.mono ?_;rintro e w1 ⟨w2,rfl,u2,f2⟩;simp only [Qa];exact⟨rfl,hR _ _ ⟨F0.trans' (u2.trans' (f2.mono λ_ _ h=>h.elim)),rfl⟩⟩
theorem Q4s (F:Nat->Prop) (g pr pm k:Nat) (bs:List Nat) (at_:Nat) (w:World) (hcu:Q4 w F g bs at_) (hk:k<=2^40) (hF:∀b,F b->b≠g)
   (br:Blk w pr 229 #[.pointer (some ⟨g,0,none⟩)]) (bm:Blk w pm 3 #[.int .i64 (k:Nat)]) :
   Calls prog 265 #[.pointer (some ⟨pr,0,none⟩),.pointer (some ⟨pm,0,none⟩)] w λe w'=>Upd (λb=>b=g) w w' /\
     if at_+k<=bs.length then ∃v,e = .returned (.tuple #[v,.int .i64 0])/\Own w' 5 v (Q2 ((bs.drop at_).take k))/\(∀b,v.ownBlock=some b->w.heap.size<=b)/\Q4 w' F g bs (at_+k)else e = .returned (.tuple #[.slice none 0 0,.int .i64 3]):=by
 have c0:=br.cell 0;have c1:=bm.cell 0;simp at c0 c1;by_cases h:at_+k<=bs.length
 . have HN:=hd_ (ZN F g bs at_ k w hcu h hF)
   simp only [if_pos h];clear hcu hk hF br bm h;refine Q8 λR hR=>?_;go_enter func265,ntmps265;go_wp2_with fail;refine HN.mono ?_;rintro e w1 ⟨v,rfl,o1,u1,c1,k1⟩;have O1:=hd_ (And.intro o1 (And.intro u1 (And.intro c1 k1)));clear o1 u1 c1 k1;go_wp2_with fail;(try go_ret2);exact hR _ _ ⟨O1.2.1,v,rfl,O1.1,O1.2.2.2,O1.2.2.1⟩
 have HN:=hd_ (Vv F g bs at_ k w hcu (by omega) hk hF);simp only [if_neg h];clear hcu hk hF br bm h;refine Q8 λR hR=>?_;go_enter func265,ntmps265;go_wp2_with fail;refine HN.mono ?_;rintro e w1 ⟨rfl,u1,c1⟩;have U1:=hd_ u1;clear u1 c1;go_wp2_with fail;(try go_ret2);exact hR _ _ ⟨U1.out,rfl⟩
theorem Q1p (F:Nat->Prop) (g k:Nat) (bs:List Nat) (at_:Nat) (w:World) (hcu:Q4 w F g bs at_) (hk:k<=2^40) (hF:∀b,F b->b≠g) :
   Calls prog 224 #[.agg #[.pointer (some ⟨g,0,none⟩)],.int .i64 (k:Nat)] w λe w'=>Upd (λb=>b=g) w w' /\
     if at_+k<=bs.length then ∃v,e = .returned v/\Own w' 5 v (Q2 ((bs.drop at_).take k))/\(∀b,v.ownBlock=some b->w.heap.size<=b)/\Q4 w' F g bs (at_+k)else e=Qa 3:=by
 have hmf:∀(fn:Fn) (first cap:Array Value) (w:World),(Instr.makeFunc fn first cap).run prog w = .ok (.func fn first cap) w:=λ_ _ _ _=>rfl;obtain⟨w0,H,hw0,hH,f0,br,bm⟩:=Jw w 229 #[.pointer (some ⟨g,0,none⟩)] 3 #[.int .i64 (k:Nat)];(have hsz:(w.alloc (.cells #[.pointer (some ⟨g,0,none⟩)] 229)).heap.size=H+1:=by simp [hH]);have HC:=hd_ (Q4s F g H (H+1) k bs at_ w0 (hcu.fresh f0) hk hF br bm);have F0:=hd_ (f0.mono (T:=λb=>b=g) λ_ _ h=>h.elim);have HS:=hd_ f0.size;have HH:=hd_ hH;have HW:=hd_ hw0;clear hw0 hH f0 br bm hcu hk hF;refine Q8 λR hR=>?_;go_enter func224,ntmps224;go_upto_region 1 with fail;simp only [hsz,<-HH.out,<-HW.out];clear hsz;by_cases h0:at_+k<=bs.length
 . simp only [if_pos h0]at HC hR
   have HR:=hd_ (Q7H 265 #[.pointer (some ⟨H,0,none⟩),.pointer (some ⟨H+1,0,none⟩)] w0 (λ_ _=>rfl) (λv W=>Own W 5 v (Q2 ((bs.drop at_).take k))/\(∀b,v.ownBlock=some b->w0.heap.size<=b)/\Q4 W F g bs (at_+k)/\Upd (λb=>b=g) w0 W) (HC.mono λe w' h=>by obtain⟨v,he,h1,h2,h3⟩:=h.2;exact⟨v,he,h1,h2,h3,h.1⟩));clear HC h0;go_wp2_with fail;refine HR.mono ?_;rintro e w1 ⟨v,w2,rfl,⟨o2,k2,c2,u2⟩,f2⟩;have U2:=hd_ (F0.trans' (u2.trans' (f2.mono λ_ _ h=>h.elim)));have C2:=hd_ (c2.fresh f2);have O2:=hd_ (o2.fresh f2);have K2:=hd_ k2;clear u2 c2 f2 o2 k2 HR;go_wp2_with fail;(try go_ret);exact hR _ _ ⟨U2.out,v,rfl,O2.out,λb hb=>Nat.le_trans HS.out (K2 b hb),C2.out⟩
 simp only [if_neg h0]at HC hR;have HR:=hd_ (Q7I 265 #[.pointer (some ⟨H,0,none⟩),.pointer (some ⟨H+1,0,none⟩)] 3 w0 (λ_ _=>rfl) (λW=>Upd (λb=>b=g) w0 W) (by decide) (HC.mono λe w' h=>⟨_,h.2,h.1⟩));clear HC h0;go_wp2_with fail;refine HR.mono ?_;rintro e w1 ⟨w2,rfl,u2,f2⟩;simp only [Qa];exact⟨rfl,hR _ _ ⟨F0.trans' (u2.trans' (f2.mono λ_ _ h=>h.elim)),rfl⟩⟩
def Yh (bs:List Nat):List Int:=bs.flatMap λc=>[((c%16:Nat):Int),((c / 16:Nat):Int)]
theorem Q2v (bs:List Nat) (c:Nat):Yh (bs++[c])=Yh bs++[((c%16:Nat):Int),((c / 16:Nat):Int)]:=by simp [Yh]
theorem ZB:∀bs:List Nat,(Yh bs).length=2*bs.length
 | []=>rfl
 | c::bs=>by
   have ih:=ZB bs
   simp only [Yh,List.flatMap_cons,List.length_append,List.length_cons,List.length_nil]at ih|-
   omega
theorem Qan (c:Nat) (h:c<256):bits .and .u8 (c:Int) 15=((c%16:Nat):Int):=by
 (have:∀x:Fin 256,bits .and .u8 ((x.val:Nat):Int) 15=((x.val%16:Nat):Int):=by decide +kernel);exact this ⟨c,h⟩
def KQ (l:List Nat) (m:Nat):Int ⊕ List Int :=
  if(m+1) / 2<=l.length then if m%2=0\/((Yh (l.take ((m+1) / 2)))[m]?).getD 0=0 then .inr ((Yh (l.take ((m+1) / 2))).take m)else .inl 12 else .inl 3
def Q3F (F:Nat->Prop) (g:Nat) (bs:List Nat) (at_ m u:Nat) (q:Int ⊕ List Int) (w:World) (e:Ending) (w':World):Prop :=
  Upd (λb=>b=g) w w'/\match q with
    | .inl er=>e=Qa er
    | .inr x=>∃A c,e = .returned (.slice A m c)/\m<=c/\Rd w' (λb=>w.heap.size<=b) A m (Q7 x)/\Q4 w' F g bs (at_+u)
theorem Q7J (F:Nat->Prop) (g m:Nat) (bs:List Nat) (at_:Nat) (w:World) (hcu:Q4 w F g bs at_) (hm:0<m) (hm2:m<=255) (hF:∀b,F b->b≠g) :
   Calls prog 177 #[.agg #[.pointer (some ⟨g,0,none⟩)],.int .i64 (m:Nat)] w (Q3F F g bs at_ m ((m+1) / 2) (KQ (bs.drop at_) m) w):=by
 (have hblt:∀b∈bs,b<256:=by obtain⟨_,_,_,_,h,_⟩:=hcu;exact h);obtain⟨w0,H,hw0,hH,f0,br⟩:=al_ w 229 #[.pointer (some ⟨g,0,none⟩)];obtain⟨h,hh⟩:=nm_ ((m+1) / 2);have HBY:=hd_ (Q1p F g h bs at_ w0 (hcu.fresh f0) (by omega) hF);unfold KQ;rw [<-hh,List.length_drop];(have hle:at_<=bs.length:=by obtain⟨_,_,_,_,_,h,_⟩:=hcu;exact h);have r0:=br.cell 0;simp at r0;have hgl:=hcu.lt;have F0:=hd_ f0;have HH:=hd_ hH;have HW:=hd_ hw0;have HG:=hd_ hgl;(have hd:((m:Int)+1) / 2=(h:Nat):=by omega);(have hmI:(m:Int)<=255:=by omega);(have hm0:0<(m:Int):=by omega);(have hhI:(h:Int)<=128:=by omega);have HM:=hd_ (And.intro hh (And.intro hm hm2));clear hw0 hH f0 br hcu hF hm hm2 hh hgl;refine Q8 λR hR=>?_;unfold Q3F at hR;go_enter func177,ntmps177;go_upto_region 1 with fail;simp only [<-HH.out,<-HW.out];by_cases hk:at_+h<=bs.length
 . simp only [if_pos hk]at HBY
   rw [if_pos (show h<=bs.length-at_ by omega)]at hR;obtain⟨L,hL⟩:=nm_ ((bs.drop at_).take h);(have hLl:L.length=h:=by rw [hL,List.length_take,List.length_drop];omega);have hLlt:∀x∈L,x<256:=λx hx=>hblt x (List.mem_of_mem_drop (List.mem_of_mem_take (hL ▸ hx)));rw [<-hL]at HBY hR;have HLL:=hd_ hLl;have HLT:=hd_ hLlt;clear hk hle hL hLl hLlt hblt;go_wp2_with fail;refine HBY.mono ?_;rintro e w1 ⟨u1,v,rfl,o1,k1,c1⟩;obtain⟨A1,n1,c1',rfl,hn1⟩:=o1.form';obtain⟨hn4,hc4,hr1⟩:=o1.rd rfl;rw [<-hn4]at hr1;(have hn5:n1=h:=by rw [hn4,QL];exact HLL.out);subst hn5;have R1:=hd_ (hr1.both);have U1:=hd_ u1;have C1:=hd_ c1;have K1:=hd_ k1;clear u1 o1 k1 c1 hn1 hn4 hc4 hr1 HBY;go_wp2_with fail;go_loopg [4,13] n1 (λmm vo vi wr=>∃i,i+mm=n1/\vi = .int .i64 (i:Nat)/\Own wr 3 vo (Q7 (Yh (L.take i)))/\Q0 w1 wr/\∀b,vo.ownBlock=some b->w1.heap.size<=b)
   case atStart=>exact⟨0,by omega,rfl,by simpa [Yh,Q7]using Own.nil _ _,Upd.refl _ _,by simp [Value.ownBlock]⟩
   case round =>
     obtain⟨i,hi,rfl,ov,fv,kv⟩:=hrel;obtain⟨A0,n0,c0,rfl,hn0⟩:=ov.form';have HI:=hd_ hi;by_cases hlt:i<n1
     . have hI:(i:Int)<n1:=by omega
       obtain⟨b,o,hkl,rfl,_,hc⟩:=(R1.fresh fv).byte (k:=i) hlt;have hz8:=HLT _ (List.getElem_mem hkl);have HTK:=hd_ (show Yh (L.take (i+1))=Yh (L.take i)++[((L[i]%16:Nat):Int),((L[i] / 16:Nat):Int)]from by rw [List.take_succ_eq_append_getElem hkl,Q2v]);obtain⟨z,hz⟩:=nm_ (L[i]);rw [<-hz]at hc hz8 HTK;have ha:=Qan z hz8;obtain⟨x,hx⟩:=nm_ (z%16);obtain⟨y,hy⟩:=nm_ (z / 16);rw [<-hx]at ha HTK;rw [<-hy]at HTK;(have hs:(z:Int) / 16=(y:Nat):=by omega);(have hxI:(x:Int)<=15:=by omega);(have hyI:(y:Int)<=15:=by omega);have OV:=hd_ ov;have FV:=hd_ fv;have KV:=hd_ kv;have HLT2:=hd_ hlt;obtain⟨w2,P,hw2,hP,f2,b2⟩:=al_ wr 3 #[.int .i64 (x:Nat),.int .i64 (y:Nat)];have RB:=hd_ (show Rd w2 (λ_=>True) (some ⟨P,0,none⟩) 2 [.int .i64 (x:Nat),.int .i64 (y:Nat)]from by simpa using Blk.rds b2);have F2:=hd_ f2;have HW2:=hd_ hw2;have HP2:=hd_ hP;have HLE:=hd_ (show(Q7 (Yh (L.take i))).length+2<=2^40 from by rw [Qz,ZB,List.length_take];have:=HM.2.2;have:=HM.1;have:=HLL.out;omega);clear ov fv kv hlt hz hz8 hx hy hi hn0 f2 b2 hw2 hP hkl;go_wp2_with (at_builtin;simp only [<-HP2.out,<-HW2.out];go_must (refine Qm _ rfl (.tmp 17) (.tmp 24) _ rfl 3 _ 8 underlying33 QV rfl (.slice A0 n0 c0) _ rfl (OV.fresh F2.out) _ _ _ _ rfl RB.out (by simp [Value.oneCell']) (by omega) HLE.out ?_));intro v3 w3 ho hg ha3
       have E3:=hd_ (show Own w3 3 v3 (Q7 (Yh (L.take (i+1))))/\Q0 w1 w3/\∀b,v3.ownBlock=some b->w1.heap.size<=b from⟨by
         rw [HTK.out]
         simpa [Q7]using ho,(FV.trans' F2.out).grown hg (λk hk hlt=>by have:=KV k hk;omega),Yj (S:=λk=>w1.heap.size<=k) ha3 (λk hk=>KV k hk) (FV.trans' F2.out).size⟩)
       clear ho hg ha3 RB F2 HW2 HP2;go_wp2_with fail;go_roundg (gk-1)
       case measure=>have:=HI.out;have:=HLT2.out;omega
       case rel=>exact⟨i+1,by have:=HI.out;have:=HLT2.out;omega,by go_num,E3.1,E3.2.1,E3.2.2⟩
     (have hin:i=n1:=by omega);subst hin;rw [List.take_of_length_le (by have:=HLL.out;omega)]at ov;obtain⟨hn4,hc4,hrd⟩:=ov.rd rfl;rw [<-hn4]at hrd hc4;(have hnl:n0=2*i:=by rw [hn4,Qz,ZB,HLL.out]);have hfin:Upd (λb=>b=g) w wr:=((F0.mono (T:=λb=>b=g) λ_ _ h=>h.elim).trans' U1.out).trans' (fv.mono λ_ _ h=>h.elim);(have hblk:∀b,Value.ownBlock (.slice A0 n0 c0)=some b->w.heap.size<=b:=λb hb=>by have:=kv b hb;have:=F0.size;have:=U1.size;omega)
     have hcut:∀k,k<=n0->Rd wr (λb=>w.heap.size<=b) A0 k (Q7 ((Yh L).take k)):=λk hk=>by
       have h:=(hrd.take hk).mono (G:=λb=>w.heap.size<=b) λb hb=>hblk b hb;rw [show(Q7 (Yh L)).take k=Q7 ((Yh L).take k)from(List.map_take ..).symm]at h;exact h
     have HFIN:=hd_ hfin;have HCUT:=hd_ hcut;have CU:=hd_ (C1.fresh fv);(have hmc:m<=c0:=by have:=HM.1;omega);(have hmcI:(m:Int)<=c0:=by omega);have hi2:=HM.1;rcases(show(m%2=0/\n0=m)\/(m%2=1/\n0=m+1) by omega)with ⟨hev,hnm⟩|⟨hod,hnm⟩
     . subst hnm
       simp only [if_pos (show n0%2=0\/((Yh L)[n0]?).getD 0=0 from .inl hev)]at hR;clear ov fv kv hi hlt hn0 hrd hn4 hc4 hnl hfin hblk hcut hev hi2;go_wp2_with fail;refine(YK _ _ _ (by first|rfl|(simp;done)|(simp;omega))).mono ?_;rintro e w5 ⟨rfl,rfl⟩;go_wp2_with fail;(try go_ret);exact hR _ _ ⟨HFIN.out,A0,n0,rfl,Nat.le_refl _,HCUT n0 (Nat.le_refl _),CU.out⟩
     obtain⟨b,o,hkl,rfl,_,hc⟩:=hrd.int (k:=m) (by omega);(have hnmI:(n0:Int)=(m:Int)+1:=by omega);(have hne:((n0:Int) == (m:Int))=false:=by simp;omega);(have hmn:(m:Int)<n0:=by omega);(have hgd:((Yh L)[m]?).getD 0=(Yh L)[m]:=by rw [List.getElem?_eq_getElem hkl];rfl);obtain⟨z,hz⟩:=nm_ ((Yh L)[m]);rw [<-hz]at hc hgd;by_cases h0:z=0
     . subst h0
       simp only [if_pos (show m%2=0\/((Yh L)[m]?).getD 0=0 from .inr hgd)]at hR;have HN:=hd_ (show m<=n0 by omega);clear ov fv kv hi hlt hn0 hrd hn4 hc4 hnl hfin hblk hcut hod hi2 hz hgd hkl hnm;go_wp2_with fail;refine(YK _ _ _ (by first|rfl|(simp;done)|(simp;omega))).mono ?_;rintro e w5 ⟨rfl,rfl⟩;go_wp2_with fail;(try go_ret);exact hR _ _ ⟨HFIN.out,_,m,rfl,Nat.le_refl _,HCUT m HN.out,CU.out⟩
     simp only [if_neg (show ¬(m%2=0\/((Yh L)[m]?).getD 0=0)from λh=>h.elim (by omega) (λh=>h0 (hgd ▸ h)))]at hR;(have h0b:(z == 0)=false:=by simpa using h0);clear ov fv kv hi hlt hn0 hrd hn4 hc4 hnl hfin hblk hcut hod hi2 hz hgd hkl hnm h0;go_wp2_with fail;refine(Yi _ _ _ (by first|rfl|(simp;done)|(simp;omega))).mono ?_;rintro e w5 ⟨rfl,rfl⟩;simp only [Qa];exact⟨rfl,hR _ _ ⟨HFIN.out,rfl⟩⟩
 simp only [if_neg hk]at HBY;rw [if_neg (show ¬h<=bs.length-at_ by omega)]at hR;clear hk hle hblt;go_wp2_with fail;refine HBY.mono ?_;rintro e w1 ⟨u1,rfl⟩;simp only [Qa];exact⟨rfl,hR _ _ ⟨(F0.mono (T:=λb=>b=g) λ_ _ h=>h.elim).trans' u1,rfl⟩⟩
def Qbh (Ls:List (List Nat)) (i:Nat):List Nat:=((Ls.take i).map λl=>YL l.length).flatten
theorem Q5O (n k:Nat) (w:World) (hn:n<=131072) (hkd:k=(n+3) / 4) :
   Calls prog 110 #[.int .i64 (n:Nat)] w λe w'=>if n<=3*k then e = .returned (.tuple #[.slice none 0 0,.int .i64 11])/\w=w' else
     ∃g,e = .returned (.tuple #[.slice (some ⟨g,0,none⟩) 4 4,.int .i64 0])/\Q0 w w'/\w.heap.size<=g/\Blk w' g 3 #[.int .i64 (k:Nat),.int .i64 (k:Nat),.int .i64 (k:Nat),.int .i64 (n-3*k:Nat)]:=by
 (have hnI:(n:Int)<=131072:=by omega);(have hn0:¬(n:Int)<0:=by omega);(have hn2:¬131072<(n:Int):=by omega);obtain⟨q,hq⟩:=nm_ (n / 4);obtain⟨r,hr⟩:=nm_ (n-3*k);(have hdv:(n:Int) / 4=(q:Nat):=by omega);(have hkI:(k:Int)<=131072:=by omega);have hs3:IntKind.i64.wrap (3*(k:Int))=3*k:=IntWalk.i64_in _ (by omega);rw [<-hr];refine Q8 λR hR=>?_;go_enter func110,ntmps110;(have HC:(n%4=0/\q=k)\/(0<n%4/\q+1=k):=by omega);rcases HC with ⟨hc,hqk⟩|⟨hc,hqk⟩
 . have hcI:(n:Int)%4=0:=by omega
   subst hqk;clear hc hq;by_cases h:n<=3*q
   . have hI:(n:Int)-3*q<1:=by omega
     have hs4:IntKind.i64.wrap ((n:Int)-3*q)=n-3*q:=IntWalk.i64_in _ (by omega);simp only [if_pos h]at hR;clear h hkd hr hn;go_wp2_with fail;(try go_ret);exact hR _ _ ⟨rfl,rfl⟩
   (have hI:¬(r:Int)<1:=by omega);(have hs4:IntKind.i64.wrap ((n:Int)-3*q)=(r:Nat):=by rw [IntWalk.i64_in _ (by omega)];omega);simp only [if_neg h]at hR;clear h hkd hr hn;go_wp2_with fail;(try go_ret);exact hR _ _ ⟨_,rfl,(Upd.refl _ _).alloc _,Nat.le_refl _,Blk.new _ _ _⟩
 (have hcI:0<(n:Int)%4:=by omega);(have hs0:IntKind.i64.wrap ((q:Int)+1)=(k:Nat):=by rw [IntWalk.i64_in _ (by omega)];omega);clear hc hq;by_cases h:n<=3*k
 . have hI:(n:Int)-3*k<1:=by omega
   have hs4:IntKind.i64.wrap ((n:Int)-3*k)=n-3*k:=IntWalk.i64_in _ (by omega);simp only [if_pos h]at hR;clear h hkd hr hn hqk;go_wp2_with fail;(try go_ret);exact hR _ _ ⟨rfl,rfl⟩
 (have hI:¬(r:Int)<1:=by omega);(have hs4:IntKind.i64.wrap ((n:Int)-3*k)=(r:Nat):=by rw [IntWalk.i64_in _ (by omega)];omega);simp only [if_neg h]at hR;clear h hkd hr hn hqk;go_wp2_with fail;(try go_ret);exact hR _ _ ⟨_,rfl,(Upd.refl _ _).alloc _,Nat.le_refl _,Blk.new _ _ _⟩
end Go.Proofs.YtckjdhaflokcgaaGreat
