/- Contracts and plain lemmas, part 15. Conditions: none beyond those of each. -/
import Derived.Test.YtckjdhaflokcgaaGreatR14
set_option maxHeartbeats 4000000
set_option linter.unusedVariables false
set_option linter.unusedSimpArgs false
set_option linter.unnecessarySimpa false
set_option maxRecDepth 100000
namespace Go.Proofs.YtckjdhaflokcgaaGreat
open Go.RowKit Go.Proofs.Tryz
theorem Q7v (F G:Nat->Prop) (g p:Nat) (bs:List Nat) (t:Nat) (l:List Int) (w:World) (hf:Y3 w F g bs t) (htb:YV w G p l) (ht:Qc l) (hFg:∀b,F b->b≠g) (hGg:∀b,G b->b≠g) (hpg:p≠g) :
   Calls prog 281 #[.agg #[.pointer (some ⟨g,0,none⟩),.pointer (some ⟨p,0,none⟩)]] w λe w'=>Upd (λb=>b=g) w w'/\YV w' G p l /\
     match Jz l (Qj bs) t with
     | some (s,t')=>e = .returned (.tuple #[.int .u8 (s:Nat),.bool true])/\Y3 w' F g bs t'
     | none=>e = .returned (.tuple #[.int .u8 0,.bool false]):=by
 obtain⟨w0,H,hw0,hH,f0,b0⟩:=al_ w 286 #[.pointer (some ⟨g,0,none⟩),.pointer (some ⟨p,0,none⟩)];obtain⟨n,hn⟩:=nm_ (min t 11);obtain⟨X,hX⟩:=nm_ (Qj bs / 2^(t-n)%2^n);(have hXl:X<2^n:=by rw [hX];exact Nat.mod_lt _ (Nat.two_pow_pos _));have HLF:=hd_ (XY F g bs t w0 (hf.fresh f0));have HPK0:=hd_ (λW (hW:Q0 w W)=>Q7w F g bs t n W (hf.fresh hW) (by omega) (by omega));have HDC0:=hd_ (λW (hW:Q0 w W)=>Q96 G p l X n W (htb.fresh hW) ht hXl (by omega));have HSK:=hd_ (λW (hW:Q0 w W) k (hk:k<=64) (hkt:k<=t)=>Q5b F g bs t k W (hf.fresh hW) hk hkt hFg);rw [<-hX]at HPK0;(have hsy:Jz l (Qj bs) t=if(Yf l X n).2<=n then some ((Yf l X n).1,t-(Yf l X n).2)else none:=by unfold Jz;rw [<-hn,<-hX]);rw [hsy];have hfl:=(Q0s (Xc ht hXl)).1;have hl256:=ht.2.1;obtain⟨⟨sy,ln⟩,hfd⟩:∃q,q=Yf l X n:=⟨_,rfl⟩;rw [<-hfd]at HDC0 hfl|-;simp only at HDC0 hfl|-;have HTB:=hd_ htb;(have hnt:min (t:Int) 11=(n:Nat):=by omega);(have hntl:n<=t/\n<=11:=by omega);have HNT:=hd_ hntl;have HGG:=hd_ (And.intro hGg hpg);(have hsyI:(sy:Int)<256:=by omega);have HW:=hd_ hw0;have HH:=hd_ hH;have F0:=hd_ f0;have B0:=hd_ b0;obtain⟨x0,x1⟩:=(b0).cells2;(have hgl:g<H:=by rw [hH];exact hf.lt);have HGL:=hd_ hgl
 have hwb:IntKind.u8.wrap (sy:Int)=(sy:Nat):=by
   (have h8:∀x:Fin 256,IntKind.u8.wrap ((x.val:Nat):Int)=(x.val:Nat):=by decide +kernel);exact h8 ⟨sy,by omega⟩
 clear hw0 hH f0 b0 hf htb ht hFg hGg hpg hsy hXl hX hn hfl hl256 hfd hntl hgl;refine Q8 λR hR=>?_;go_enter func281,ntmps281;go_upto_region 1 with fail;simp only [<-HH.out,<-HW.out];go_wp2_with fail;refine HLF.mono ?_;rintro e w2 ⟨rfl,f2⟩;have F2:=hd_ (F0.trans' f2);have B2:=hd_ (B0.fresh f2);have HCB:=hd_ (show ∀W,Q0 w2 W->W.cell? ⟨H,0,none⟩=some (.pointer (some ⟨g,0,none⟩))/\W.cell? ⟨H,1,none⟩=some (.pointer (some ⟨p,0,none⟩))from λW hW=>⟨by simpa using((B0.fresh f2).fresh hW).cell 0,by simpa using((B0.fresh f2).fresh hW).cell 1⟩);clear f2 HLF x0 x1
 obtain⟨a,b,er,HDC,HCASE⟩:∃a b er:Int,Hid (∀W,Q0 w2 W->Calls prog 309 #[.pointer (some ⟨p,0,none⟩),.int .u64 (X:Nat),.int .i64 (n:Nat)] W λe w'=>e = .returned (.tuple #[.int .i64 a,.int .i64 b,.int .i64 er])/\Q0 W w') /\
     Hid ((ln<=n/\a=(sy:Nat)/\b=(ln:Nat)/\er=0)\/(¬ln<=n/\er=3)):=by
   by_cases hl:ln<=n
   . exact⟨sy,ln,0,λW hW=>(HDC0 W (F2.trans' hW)).mono λe w' h=>by rw [if_pos hl]at h;exact h,.inl ⟨hl,rfl,rfl,rfl⟩⟩
   exact⟨0,0,3,λW hW=>(HDC0 W (F2.trans' hW)).mono λe w' h=>by rw [if_neg hl]at h;exact h,.inr ⟨hl,rfl⟩⟩
 have HPK:=hd_ (λW (hW:Q0 w2 W)=>HPK0 W (F2.trans' hW));clear HDC0 HPK0;go_upto_region 2 with fail;obtain⟨Cw,cEq⟩:=exC (λW=>Q0 w2 W);obtain⟨Y,yA⟩:=exY [λxs W=>(xs 0) = .pointer (some ⟨H,1,none⟩),λxs W=>(xs 1) = .pointer (some ⟨p,0,none⟩),λxs W=>(xs 2) = .pointer (some ⟨H,0,none⟩),λxs W=>(xs 3) = .pointer (some ⟨g,0,none⟩),λxs W=>(xs 4) = .int .i64 (n:Nat),λxs W=>(xs 5) = .int .u64 (X:Nat),λxs W=>(xs 6) = .int .i64 (n:Nat),λxs W=>(xs 7) = .tuple #[.int .i64 a,.int .i64 b,.int .i64 er],λxs W=>(xs 8) = .tuple #[.int .i64 a,.int .i64 b,.int .i64 er],λxs W=>(xs 9) = .int .i64 a,λxs W=>(xs 10) = .int .i64 b,λxs W=>(xs 11) = .int .i64 er,λxs W=>(xs 12) = .int .i64 a,λxs W=>(xs 13) = .int .i64 b,λxs W=>(xs 14) = .int .i64 er];have yf0:=yA 0;have yf1:=yA 1;have yf2:=yA 2;have yf3:=yA 3;have yf4:=yA 4;have yf5:=yA 5;have yf6:=yA 6;have yf7:=yA 7;have yf8:=yA 8;have yf9:=yA 9;have yf10:=yA 10;have yf11:=yA 11;have yf12:=yA 12;have yf13:=yA 13;have yf14:=yA 14;simp only [List.getD_cons_zero,List.getD_cons_succ]at yf0 yf1 yf2 yf3 yf4 yf5 yf6 yf7 yf8 yf9 yf10 yf11 yf12 yf13 yf14;(have yN:∀j xs W,15<=j->Y j xs W=True:=λj xs W hj=>by rw [yA,Y6 _ _ _ hj])
 have yP:∀j xs W W',j∈[0,1,2,3,4,5,6,7,8,9,10,11,12,13,14]->Y j xs W->Y j xs W':=by
   intro j xs W W' hj hy;simp only [List.mem_cons,List.not_mem_nil,or_false]at hj;(rcases hj with rfl|rfl|rfl|rfl|rfl|rfl|rfl|rfl|rfl|rfl|rfl|rfl|rfl|rfl|rfl<;>(rw [yA]at hy|-;exact hy))
 have yM:Jt [[0],[1],[2],[3],[4],[5],[6],[7],[8],[9],[10],[11],[12],[13],[14]] Y:=by
   intro j xs xs' W hh hy;by_cases hj:15<=j
   . rw [yN j _ _ hj];trivial
   (have hj':j=0\/j=1\/j=2\/j=3\/j=4\/j=5\/j=6\/j=7\/j=8\/j=9\/j=10\/j=11\/j=12\/j=13\/j=14:=by omega);rcases hj' with rfl|rfl|rfl|rfl|rfl|rfl|rfl|rfl|rfl|rfl|rfl|rfl|rfl|rfl|rfl;(all_goals(rw [yA]at hy|-;(try simp only [List.getD_cons_zero,List.getD_cons_succ]at hy|-);repeat rw [<-hh]));(all_goals first|exact hy|decide)
 clear yA
 have yR:∀j xs,15<=j->Y j xs (w2.drew):=by
   intro j xs hj;rcases(show 15<=j by omega)with hj;rw [yN _ _ _ hj];trivial
 refine Ya Cw (λj=>[]) Y [(0,some 13),(1,some 14),(2,some 15),(3,some 16),(4,some 17),(5,some 18),(6,some 19),(7,some 20),(8,some 12),(9,some 21),(10,some 22),(11,some 23),(12,some 5),(13,some 6),(14,some 7)] (by kernel_rfl) (by kernel_rfl) (by kernel_rfl) (by rw [cEq];exact(Upd.refl _ _).drew) (λj hj=>yR j _ hj) ?_ ?_
 . refine Q9.p cEq yM [] (by kernel_rfl) (by kernel_rfl) (λxs W hw hd K hK'=>?_) ?_
   . simp only [Q5,Act.put,sb_,sz_,ss_]at hK'|-
     go_simp;exact hK' _ (by rw [yf0];exact if_pos rfl)
   refine Q9.p cEq yM [(0,some 13)] (by kernel_rfl) (by kernel_rfl) (λxs W hw hd K hK'=>?_) ?_
   . simp only [Qd]at hd
     obtain⟨hf0,_⟩:=hd;simp only [Q5,Act.put,sb_,sz_,ss_]at hK'|-;rw [yf0]at hf0;simp only [hf0]at hK'|-;have cl:=HCB W hw;obtain⟨cl0,cl1⟩:=cl;go_simp;exact hK' _ (by rw [yf1];exact if_pos rfl)
   refine Q9.p cEq yM [] (by kernel_rfl) (by kernel_rfl) (λxs W hw hd K hK'=>?_) ?_
   . simp only [Q5,Act.put,sb_,sz_,ss_]at hK'|-
     go_simp;exact hK' _ (by rw [yf2];exact if_pos rfl)
   refine Q9.p cEq yM [(2,some 15)] (by kernel_rfl) (by kernel_rfl) (λxs W hw hd K hK'=>?_) ?_
   . simp only [Qd]at hd
     obtain⟨hf2,_⟩:=hd;simp only [Q5,Act.put,sb_,sz_,ss_]at hK'|-;rw [yf2]at hf2;simp only [hf2]at hK'|-;have cl:=HCB W hw;obtain⟨cl0,cl1⟩:=cl;go_simp;exact hK' _ (by rw [yf3];exact if_pos rfl)
   refine Q9.p cEq yM [] (by kernel_rfl) (by kernel_rfl) (λxs W hw hd K hK'=>?_) ?_
   . simp only [Q5,Act.put,sb_,sz_,ss_]at hK'|-
     go_simp;exact hK' _ (by rw [yf4];exact if_pos rfl)
   refine Q9.c cEq [(3,some 16),(4,some 17)] (by kernel_rfl) (λxs W hw hd K hK'=>?_) ?_
   . simp only [Qd]at hd
     obtain⟨hf3,hf4,_⟩:=hd;simp only [Q5,Act.put,sb_,sz_,ss_]at hK'|-;rw [yf3]at hf3;rw [yf4]at hf4;simp only [hf3,hf4]at hK'|-;go_simp;refine(HPK W hw).mono ?_;rintro e9 w9 ⟨rfl,f9⟩;have hR:=trivial;refine hK' (_) (w9) (hw.trans' f9) (QW yM 5 (by kernel_rfl) _ λj hs hy=>?_) (by rw [yf5];(try simp only [↓reduceIte]);try exact rfl);by_cases hp:j∈[0,1,2,3,4,5,6,7,8,9,10,11,12,13,14]
     . exact yP j _ _ _ hp hy
     by_cases hj:15<=j
     . rw [yN j _ _ hj];trivial
     simp only [List.mem_cons,List.not_mem_nil,or_false]at hp;exfalso;omega
   refine Q9.p cEq yM [] (by kernel_rfl) (by kernel_rfl) (λxs W hw hd K hK'=>?_) ?_
   . simp only [Q5,Act.put,sb_,sz_,ss_]at hK'|-
     go_simp;exact hK' _ (by rw [yf6];exact if_pos rfl)
   refine Q9.c cEq [(1,some 14),(5,some 18),(6,some 19)] (by kernel_rfl) (λxs W hw hd K hK'=>?_) ?_
   . simp only [Qd]at hd
     obtain⟨hf1,hf5,hf6,_⟩:=hd;simp only [Q5,Act.put,sb_,sz_,ss_]at hK'|-;rw [yf1]at hf1;rw [yf5]at hf5;rw [yf6]at hf6;simp only [hf1,hf5,hf6]at hK'|-;go_simp;refine(HDC W hw).mono ?_;rintro e9 w9 ⟨rfl,f9⟩;have hR:=trivial;refine hK' (_) (w9) (hw.trans' f9) (QW yM 7 (by kernel_rfl) _ λj hs hy=>?_) (by rw [yf7];(try simp only [↓reduceIte]);try exact rfl);by_cases hp:j∈[0,1,2,3,4,5,6,7,8,9,10,11,12,13,14]
     . exact yP j _ _ _ hp hy
     by_cases hj:15<=j
     . rw [yN j _ _ hj];trivial
     simp only [List.mem_cons,List.not_mem_nil,or_false]at hp;exfalso;omega
   refine Q9.p cEq yM [(7,some 20)] (by kernel_rfl) (by kernel_rfl) (λxs W hw hd K hK'=>?_) ?_
   . simp only [Qd]at hd
     obtain⟨hf7,_⟩:=hd;simp only [Q5,Act.put,sb_,sz_,ss_]at hK'|-;rw [yf7]at hf7;simp only [hf7]at hK'|-;go_simp;exact hK' _ (by rw [yf8];exact if_pos rfl)
   refine Q9.p cEq yM [(8,some 12)] (by kernel_rfl) (by kernel_rfl) (λxs W hw hd K hK'=>?_) ?_
   . simp only [Qd]at hd
     obtain⟨hf8,_⟩:=hd;simp only [Q5,Act.put,sb_,sz_,ss_]at hK'|-;rw [yf8]at hf8;simp only [hf8]at hK'|-;go_simp;exact hK' _ (by rw [yf9];exact if_pos rfl)
   refine Q9.p cEq yM [(8,some 12)] (by kernel_rfl) (by kernel_rfl) (λxs W hw hd K hK'=>?_) ?_
   . simp only [Qd]at hd
     obtain⟨hf8,_⟩:=hd;simp only [Q5,Act.put,sb_,sz_,ss_]at hK'|-;rw [yf8]at hf8;simp only [hf8]at hK'|-;go_simp;exact hK' _ (by rw [yf10];exact if_pos rfl)
   refine Q9.p cEq yM [(8,some 12)] (by kernel_rfl) (by kernel_rfl) (λxs W hw hd K hK'=>?_) ?_
   . simp only [Qd]at hd
     obtain⟨hf8,_⟩:=hd;simp only [Q5,Act.put,sb_,sz_,ss_]at hK'|-;rw [yf8]at hf8;simp only [hf8]at hK'|-;go_simp;exact hK' _ (by rw [yf11];exact if_pos rfl)
   refine Q9.p cEq yM [(9,some 21)] (by kernel_rfl) (by kernel_rfl) (λxs W hw hd K hK'=>?_) ?_
   . simp only [Qd]at hd
     obtain⟨hf9,_⟩:=hd;simp only [Q5,Act.put,sb_,sz_,ss_]at hK'|-;rw [yf9]at hf9;simp only [hf9]at hK'|-;go_simp;exact hK' _ (by rw [yf12];exact if_pos rfl)
   refine Q9.p cEq yM [(10,some 22)] (by kernel_rfl) (by kernel_rfl) (λxs W hw hd K hK'=>?_) ?_
   . simp only [Qd]at hd
     obtain⟨hf10,_⟩:=hd;simp only [Q5,Act.put,sb_,sz_,ss_]at hK'|-;rw [yf10]at hf10;simp only [hf10]at hK'|-;go_simp;exact hK' _ (by rw [yf13];exact if_pos rfl)
   refine Q9.p cEq yM [(11,some 23)] (by kernel_rfl) (by kernel_rfl) (λxs W hw hd K hK'=>?_) ?_
   . simp only [Qd]at hd
     obtain⟨hf11,_⟩:=hd;simp only [Q5,Act.put,sb_,sz_,ss_]at hK'|-;rw [yf11]at hf11;simp only [hf11]at hK'|-;go_simp;exact hK' _ (by rw [yf14];exact if_pos rfl)
   exact Q9.nil
 intro xs W hw hd;rw [cEq]at hw;simp only [YD]at hd;obtain⟨fe0,fe1,fe2,fe3,fe4,fe5,fe6,fe7,fe8,fe9,fe10,fe11,fe12,fe13,fe14,_⟩:=hd;have fe0:=fe0 (by first|kernel_rfl|trivial);rw [yf0]at fe0;have fe1:=fe1 (by first|kernel_rfl|trivial);rw [yf1]at fe1;have fe2:=fe2 (by first|kernel_rfl|trivial);rw [yf2]at fe2;have fe3:=fe3 (by first|kernel_rfl|trivial);rw [yf3]at fe3;have fe4:=fe4 (by first|kernel_rfl|trivial);rw [yf4]at fe4;have fe5:=fe5 (by first|kernel_rfl|trivial);rw [yf5]at fe5;have fe6:=fe6 (by first|kernel_rfl|trivial);rw [yf6]at fe6;have fe7:=fe7 (by first|kernel_rfl|trivial);rw [yf7]at fe7;have fe8:=fe8 (by first|kernel_rfl|trivial);rw [yf8]at fe8;have fe9:=fe9 (by first|kernel_rfl|trivial);rw [yf9]at fe9;have fe10:=fe10 (by first|kernel_rfl|trivial);rw [yf10]at fe10;have fe11:=fe11 (by first|kernel_rfl|trivial);rw [yf11]at fe11;have fe12:=fe12 (by first|kernel_rfl|trivial);rw [yf12]at fe12;have fe13:=fe13 (by first|kernel_rfl|trivial);rw [yf13]at fe13;have fe14:=fe14 (by first|kernel_rfl|trivial);rw [yf14]at fe14;simp only [Q5,Act.put,sb_,sz_,ss_];generalize xs 0=xv0 at *;generalize xs 1=xv1 at *;generalize xs 2=xv2 at *;generalize xs 3=xv3 at *;generalize xs 4=xv4 at *;generalize xs 5=xv5 at *;generalize xs 6=xv6 at *;generalize xs 7=xv7 at *;generalize xs 8=xv8 at *;generalize xs 9=xv9 at *;generalize xs 10=xv10 at *;generalize xs 11=xv11 at *;generalize xs 12=xv12 at *;generalize xs 13=xv13 at *;generalize xs 14=xv14 at *;subst fe0;subst fe1;subst fe2;subst fe3;subst fe4;subst fe5;subst fe6;subst fe7;subst fe8;subst fe9;subst fe10;subst fe11;subst fe12;subst fe13;subst fe14;clear yf0 yf1 yf2 yf3 yf4 yf5 yf6 yf7 yf8 yf9 yf10 yf11 yf12 yf13 yf14 yN yR yM yP cEq;rcases HCASE.out with ⟨hl,ha,hb,he⟩|⟨hl,he⟩
 . rw [if_pos hl]at hR
   subst ha hb he;have HS:=hd_ (HSK W (F2.trans' hw) ln (by have:=HNT.out;omega) (by have:=HNT.out;omega));have cl:=HCB W hw;obtain⟨cl0,cl1⟩:=cl;have FW:=hd_ (F2.trans' hw);clear HSK hl HDC HPK HCASE hw;go_wp2_with fail;refine HS.mono ?_;rintro e w6 ⟨rfl,u6,b6⟩;have U6:=hd_ ((FW.mono (T:=λb=>b=g) (λ_ _ h=>h.elim)).trans' u6);have T6:=hd_ ((HTB.fresh FW.out).upd u6 HGG.2 (λb _ hb=>HGG.1 b hb));have B6:=hd_ b6;clear u6 b6 HS;go_wp2_with fail;(try go_ret);exact hR _ _ ⟨U6.out,T6.out,rfl,B6.out⟩
 rw [if_neg hl]at hR;subst he;have FW:=hd_ (F2.trans' hw);clear HSK hl HDC HPK HCASE hw;go_wp2_with fail;(try go_ret);exact hR _ _ ⟨FW.mono (λ_ _ h=>h.elim),HTB.fresh FW.out,rfl⟩
theorem Y3.both {w:World} {F:Nat->Prop} {g:Nat} {bs:List Nat} {t:Nat} (h:Y3 w F g bs t):Y3 w (λb=>F b/\b<w.heap.size) g bs t:=by
 obtain⟨A,c,hb,hr,h⟩:=h;exact⟨A,c,hb,hr.both,h⟩
theorem YV.both {w:World} {F:Nat->Prop} {p:Nat} {l:List Int} (h:YV w F p l):YV w (λb=>F b/\b<w.heap.size) p l:=by
 obtain⟨A,c,lv,hb,hr⟩:=h;exact⟨A,c,lv,hb,hr.both⟩
def JA (y:List Nat):Option (List Nat × Nat)->Option (List Nat × Nat):=Option.map λq=>(y++q.1,q.2)
theorem Q1k (o:Option (List Nat × Nat)):JA [] o=o:=by
 (cases o<;>simp [JA])
theorem ZP {l:List Int} {v t s t':Nat} (k:Nat) (h:Jz l v t=some (s,t')):QG l v t (k+1)=JA [s] (QG l v t' k):=by
 rw [QG,h];simp only;(cases QG l v t' k<;>simp [JA])
theorem Zm {l:List Int} {v t:Nat} (k:Nat) (h:Jz l v t=none):QG l v t (k+1)=none:=by
 rw [QG,h]
theorem Q1l (x y:List Nat) (o:Option (List Nat × Nat)):JA x (JA y o)=JA (x++y) o:=by
 (cases o<;>simp [JA])
def XZ (F:Nat->Prop) (g:Nat) (bs:List Nat) (q:Option (List Nat × Nat)) (w:World) (e:Ending) (w':World):Prop :=
  Upd (λb=>b=g) w w'/\match q with
    | some (x,t')=>∃v,e = .returned v/\Own w' 5 v (Q2 x)/\(∀b,v.ownBlock=some b->w.heap.size<=b)/\Y3 w' F g bs t'
    | none=>e=Qa 14
theorem Q5I (F G:Nat->Prop) (g p:Nat) (bs:List Nat) (t n:Nat) (l:List Int) (w:World) (hf:Y3 w F g bs t) (htb:YV w G p l) (ht:Qc l) (hFg:∀b,F b->b≠g) (hGg:∀b,G b->b≠g) (hpg:p≠g) (hFW:∀b,F b->b<w.heap.size) (hGW:∀b,G b->b<w.heap.size) (hn:n<=131072) :
   Calls prog 235 #[.agg #[.pointer (some ⟨g,0,none⟩),.pointer (some ⟨p,0,none⟩)],.int .i64 (n:Nat)] w (XZ F g bs (QG l (Qj bs) t n) w):=by
 obtain⟨w0,H,hw0,hH,f0,b0⟩:=al_ w 286 #[.pointer (some ⟨g,0,none⟩),.pointer (some ⟨p,0,none⟩)];have HNX:=hd_ (λW t' (h1:Y3 W F g bs t') (h2:YV W G p l)=>Q7v F G g p bs t' l W h1 h2 ht hFg hGg hpg);have HI:=hd_ (And.intro (hf.fresh f0) (htb.fresh f0));have HP:=hd_ (show g<H/\p<H from⟨by rw [hH];exact hf.lt,by rw [hH];exact htb.lt⟩);have HFW:=hd_ (And.intro hFW hGW);obtain⟨V,hV⟩:=nm_ (Qj bs);rw [<-hV]at HNX;obtain⟨q,hq⟩:=nm_ (QG l V t n);rw [<-hV,<-hq];have HQ:=hd_ hq;have HN:=hd_ hn;(have hnI:(n:Int)<=131072:=by omega);have HW:=hd_ hw0;have HH:=hd_ hH;have F0:=hd_ f0;have B0:=hd_ b0;clear hw0 hH f0 b0 hf htb ht hFg hGg hpg hFW hGW hV hq hn;refine Q8 λR hR=>?_;unfold XZ at hR;go_enter func235,ntmps235;go_upto_region 1 with fail;simp only [<-HH.out,<-HW.out];go_wp2_with fail;go_loopg [4,8] n (λf vo vi wr=>∃(k:Nat) (y:List Nat) (tk:Nat),k+f=n/\vi = .int .i64 k/\y.length=k/\q=JA y (QG l V tk (n-k))/\Own wr 5 vo (Q2 y)/\(∀b,vo.ownBlock=some b->H<b)/\Y3 wr F g bs tk/\YV wr G p l/\Blk wr H 286 #[.pointer (some ⟨g,0,none⟩),.pointer (some ⟨p,0,none⟩)]/\Upd (λb=>b=g) w wr/\H<wr.heap.size)
 case atStart=>exact⟨0,[],t,by omega,rfl,rfl,by rw [Q1k,HQ.out,Nat.sub_zero],Own.nil _ _,λb hb=>by simp [Value.ownBlock]at hb,HI.1,HI.2,B0.out,F0.mono (λ_ _ h=>h.elim),B0.lt⟩
 case round =>
   obtain⟨k,y,tk,hk,rfl,hy,hqk,ov,hv,bw,tb,br,ur,hsz⟩:=hrel;have HK:=hd_ hk;(have hkI:(k:Int)<=131072:=by have:=HN.out;omega);by_cases hlt:k<n
   . have hlI:(k:Int)<n:=by omega
     (have hnk:n-k=(n-(k+1))+1:=by omega);rw [hnk]at hqk;have HX:=hd_ (HNX wr tk bw tb);obtain⟨x0,x1⟩:=(br).cells2;obtain⟨A3,n3,c3,rfl,hn3⟩:=ov.form';have OV:=hd_ ov;have HV:=hd_ hv;have UR:=hd_ ur;have BR:=hd_ br;have HY:=hd_ hy;have HSZ:=hd_ hsz
     cases hs:Jz l V tk with
     | none =>
       rw [hs]at HX;rw [Zm _ hs]at hqk;have hq:q=none:=hqk;subst hq;simp only at hR;clear hs hqk ov hv bw tb br ur hk hnk hy hsz hn3 HQ;go_wp2_with fail;refine HX.mono ?_;rintro e w1 ⟨u1,tb1,rfl⟩;go_wp2_with fail;refine(X6 _ _).mono ?_;rintro e w2 ⟨rfl,rfl⟩;simp only [Qa];exact⟨rfl,hR _ _ ⟨UR.trans' u1,rfl⟩⟩
     | some st =>
       obtain⟨s,t'⟩:=st;rw [hs]at HX;rw [ZP _ hs,Q1l]at hqk;have HQK:=hd_ hqk;clear hs hqk ov hv bw tb br ur hk hnk hy hsz hn3;go_wp2_with fail;refine HX.mono ?_;rintro e w1 ⟨u1,tb1,rfl,bw1⟩;(have hHg:H≠g:=by have:=HP.out;omega);have OV1:=hd_ (OV.upd u1 (λb hb e=>by have:=HV b hb;have:=HP.out;omega));have UR1:=hd_ (UR.trans' u1);have BR1:=hd_ (BR.upd u1 hHg);have TB1:=hd_ tb1;have BW1:=hd_ bw1;have HSZ1:=hd_ (show H<w1.heap.size by have:=HSZ.out;have:=u1.size;omega);clear u1 tb1 bw1 HX x0 x1;go_wp2_with fail;refine(Q0R _ _).mono ?_;rintro e w2 ⟨rfl,rfl⟩;go_wp2_with (at_builtin;go_must (refine Qm _ rfl (.tmp 17) (.tmp 19) _ rfl 5 _ 1 underlying22 JX rfl (.slice A3 n3 c3) _ rfl (OV1.alloc _) _ _ _ _ rfl (Rd.one _ 5 (.int .u8 (s:Nat))) (by simp [Value.oneCell']) (by omega) (by have:=HY.out;have:=HN.out;have:=HK.out;simp [Q2];omega) ?_));intro v5 w5 o5 g5 a5;have u5:Upd (λb=>(Value.slice A3 n3 c3).ownBlock=some b) w2 w5:=((Upd.refl _ w2).alloc _).grown g5 (λk hk _=>hk);have hvb5:∀b,v5.ownBlock=some b->H<b:=Yj (S:=λb=>H<b) a5 (λk hk=>HV k hk) (by have:=HSZ1.out;simp;omega);have hFF:=HFW.out;have bw5:=BW1.upd u5 (λh=>by have:=HV _ h;have:=HP.out;omega) (λb hb h=>by have:=HV _ h;have:=hFF.1 b hb;have:=HH.out;omega);have tb5:=TB1.upd u5 (λh=>by have:=HV _ h;have:=HP.out;omega) (λb _ hb h=>by have:=HV _ h;have:=hFF.2 b hb;have:=HH.out;omega);have br5:=BR1.upd u5 (λh=>by have:=HV _ h;omega);have ur5:=UR1.trans u5 (λb hb h=>by have:=HV _ h;have:=HH.out;omega);have O5:=hd_ (show Own w5 5 v5 (Q2 (y++[s])) by simpa [Q2]using o5);have HR5:=hd_ (And.intro hvb5 (And.intro bw5 (And.intro tb5 (And.intro br5 (And.intro ur5 (show H<w5.heap.size by have:=br5.lt;exact this))))));clear u5 hvb5 bw5 tb5 br5 ur5 hFF o5 g5 a5;go_wp2_with fail;go_roundg (gk-1)
       case measure=>have:=HK.out;omega
       case rel=>exact⟨k+1,y++[s],t',by have:=HK.out;omega,by go_num,by simp [HY.out],HQK.out,O5.out,HR5.out⟩
   (obtain rfl:k=n:=by omega);rw [Nat.sub_self]at hqk;(have hq:q=some (y,tk):=by rw [hqk];simp [QG,JA]);subst hq;simp only at hR;have OV:=hd_ ov;have HV:=hd_ hv;have BW:=hd_ bw;have UR:=hd_ ur;clear hqk ov hv bw tb br ur hk hy hsz HQ;go_wp2_with fail;(try go_ret);exact hR _ _ ⟨UR.out,_,rfl,OV.out,λb hb=>by have:=HV b hb;have:=HH.out;omega,BW.out⟩
def Q0Y (l:List Int) (bs:List Nat) (w:World) (e:Ending) (w':World):Prop :=
  Q0 w w'/\if(bs.getLast?).getD 0=0 then e=Qa 14 else
    ∃g p,e = .returned (.agg #[.pointer (some ⟨g,0,none⟩),.pointer (some ⟨p,0,none⟩)])/\∃F G:Nat->Prop,Y3 w' F g bs (Y0 bs)/\YV w' G p l/\(∀b,F b->b≠g)/\(∀b,G b->b≠g)/\p≠g/\(∀b,F b->b<w'.heap.size)/\(∀b,G b->b<w'.heap.size)/\w.heap.size<=g
theorem Q7x (F G:Nat->Prop) (A B:Option Addr) (n c m d:Nat) (l:List Int) (bs:List Nat) (w:World) (hr:Rd w F A n (Q7 l)) (hbs:Rd w G B m (Q2 bs)) (hlt:∀b∈bs,b<256) (hm:m<=2^32) (hc:n<=c) (ht:Qc l) :
   Calls prog 280 #[.slice A n c,.slice B m d] w (Q0Y l bs w):=by
 (have hL:bs.length=m:=by have:=hbs.1;simpa using this);obtain⟨w0,H,hw0,hH,f0,b0⟩:=al_ w 286 #[.pointer none,.pointer none];have HNW:=hd_ (Q95 F A n c l w0 (hr.fresh f0) ht hc);have HBK:=hd_ (λW (hW:Q0 w W)=>Q0A G B m d bs W (by have:=hbs.fresh hW;exact this) hlt (by omega));have HW:=hd_ hw0;have HH:=hd_ hH;have F0:=hd_ f0;have B0:=hd_ b0;clear hr hbs hlt hm hc ht hw0 hH f0 b0 hL;refine Q8 λR hR=>?_;unfold Q0Y at hR;go_enter func280,ntmps280;go_upto_region 1 with fail;simp only [<-HH.out,<-HW.out];go_wp2_with fail;refine HNW.mono ?_;rintro e w1 ⟨p,rfl,tb1,hp,f1⟩;have TB:=hd_ tb1.both;have HPL:=hd_ (And.intro tb1.lt hp);have F1:=hd_ (F0.trans' f1);have B1:=hd_ (B0.fresh f1);clear tb1 hp f1 HNW;go_wp2_with fail;refine(KN _ _ _ (by simpa using(Blk.new w1 24 #[.int .i64 0]).cell 0)).mono ?_;rintro e w2 ⟨rfl,hw2⟩;(have f12:Q0 w1 w2:=by rw [hw2];exact(Upd.refl _ _).alloc _);have F12:=hd_ f12;have F2:=hd_ (F1.trans' f12);have HB2:=hd_ (HBK w2 (F1.trans' f12));clear hw2 f12 HBK;by_cases hz:(bs.getLast?).getD 0=0
 . simp only [if_pos hz]at hR HB2
   clear hz;go_wp2_with fail;refine HB2.mono ?_;rintro e w3 ⟨rfl,f3⟩;have F3:=hd_ (F2.trans' f3);clear f3 HB2;go_wp2_with fail;refine(Q1e 14 _ _ _ (by simpa using(Blk.new w3 24 #[.int .i64 14]).cell 0) (by decide)).mono ?_;rintro e w4 ⟨rfl,hw4⟩;simp only [Qa];exact⟨rfl,hR _ _ ⟨by rw [hw4];exact F3.alloc _,rfl⟩⟩
 simp only [if_neg hz]at hR HB2;clear hz;go_wp2_with fail;refine HB2.mono ?_;rintro e w3 ⟨g,rfl,hg,f3,bw⟩;have F3:=hd_ (F2.trans' f3);have F13:=hd_ (F12.trans' f3);have BW:=hd_ bw.both;have HG:=hd_ hg;have B3:=hd_ (B1.fresh (F12.trans' f3));clear f3 hg bw HB2;go_wp2_with fail;refine(KN _ _ _ (by simpa using(Blk.new w3 24 #[.int .i64 0]).cell 0)).mono ?_;rintro e w4 ⟨rfl,hw4⟩;(have f34:Q0 w3 w4:=by rw [hw4];exact(Upd.refl _ _).alloc _);have F4:=hd_ (F3.trans' f34);have F14:=hd_ (F13.trans' f34);have b4:=B3.fresh f34;have x0:=b4.cell 0;have x1:=b4.cell 1;have z0:=b4.frozen 0;have z1:=b4.frozen 1;simp at x0 x1;have B4:=hd_ b4;have F34:=hd_ f34;clear hw4 f34 b4;go_wp2_with fail;have hsz1:=F12.size;have hsz2:=F34.size;have hpl:=HPL.1;have hpl2:=HPL.2;have hH0:H<w0.heap.size:=B0.lt;have hg:=HG.out;have hgl:g<w3.heap.size:=BW.lt;have hHl:H<w1.heap.size:=B1.lt;have b5:=(B4.set_ 0 (.pointer (some ⟨g,0,none⟩))).set_ 1 (.pointer (some ⟨p,0,none⟩));have us:Upd (λb=>b=H) w4 ((w4.setCell ⟨H,0,none⟩ (.pointer (some ⟨g,0,none⟩))).setCell ⟨H,1,none⟩ (.pointer (some ⟨p,0,none⟩))):=((Upd.refl (λb=>b=H) w4).setCell (p:=⟨H,0,none⟩) (λ_=>rfl) _).setCell (p:=⟨H,1,none⟩) (λ_=>rfl) _;obtain⟨d0,d1⟩:=(b5).cells2;refine⟨rfl,.agg #[.pointer (some ⟨g,0,none⟩),.pointer (some ⟨p,0,none⟩)],?_,?_⟩
 . simp [results,results280,go_sem,d0,d1]
 have bw5:=(BW.fresh F34.out).upd us (by omega) (λb hb e=>by have:=hb.1.1;omega);have tb5:=(TB.fresh F14.out).upd us (by omega) (λb _ hb e=>by have:=hb.1;omega);have hsz5:=us.size;refine hR.out _ _ ⟨F4.trans us (λb hb e=>by have:=HH.out;omega),g,p,rfl,_,_,bw5,tb5,λb hb=>hb.1.2,λb hb=>by have:=hb.2;omega,by omega,λb hb=>by have:=hb.2;omega,λb hb=>by have:=hb.2;have:=F14.size;omega,by have:=F2.size;omega⟩
theorem Q7y (F G:Nat->Prop) (g p N:Nat) (bs:List Nat) (t n:Nat) (l:List Int) (w:World) (hf:Y3 w F g bs t) (htb:YV w G p l) (ht:Qc l) (hFg:∀b,F b->b≠g) (hGg:∀b,G b->b≠g) (hpg:p≠g) (hFW:∀b,F b->b<w.heap.size) (hGW:∀b,G b->b<w.heap.size) (hn:n<=131072)
   (hN:Blk w N 3 #[.int .i64 (n:Nat)]) :
   Calls prog 234 #[.agg #[.pointer (some ⟨g,0,none⟩),.pointer (some ⟨p,0,none⟩)],.pointer (some ⟨N,0,none⟩)] w λe w'=>Upd (λb=>b=g) w w' /\
     match QG l (Qj bs) t n with
     | some (x,0)=>∃v,e = .returned v/\Own w' 5 v (Q2 x)/\∀b,v.ownBlock=some b->w.heap.size<=b
     | _=>e=Qa 14:=by
 obtain⟨w0,H,hw0,hH,f0,b0⟩:=al_ w 286 #[.pointer (some ⟨g,0,none⟩),.pointer (some ⟨p,0,none⟩)];have HRD:=hd_ (Q5I F G g p bs t n l w0 (hf.fresh f0) (htb.fresh f0) ht hFg hGg hpg (λb hb=>by have:=hFW b hb;have:=f0.size;omega) (λb hb=>by have:=hGW b hb;have:=f0.size;omega) hn);have x0:=b0.cell 0;have x1:=b0.cell 1;have x2:=(hN.fresh f0).cell 0;simp at x0 x1 x2;(have hgH:H≠g:=by rw [hH];have:=hf.lt;omega);have HGH:=hd_ hgH;have HW:=hd_ hw0;have HH:=hd_ hH;have F0:=hd_ f0;have B0:=hd_ b0;obtain⟨q,hq⟩:=nm_ (QG l (Qj bs) t n);rw [<-hq]at HRD|-;unfold XZ at HRD;have HLF:=hd_ (λW t' (h:Y3 W F g bs t')=>XY F g bs t' W h);clear hw0 hH f0 b0 hf htb ht hFg hGg hpg hFW hGW hn hN hq hgH;refine Q8 λR hR=>?_;go_enter func234,ntmps234;go_upto_region 1 with fail;simp only [<-HH.out,<-HW.out]
 cases q with
 | none =>
   simp only at HRD hR;go_wp2_with fail;refine HRD.mono ?_;rintro e w1 ⟨u1,rfl⟩;simp only [Qa];exact⟨rfl,hR _ _ ⟨(F0.mono (λ_ _ h=>h.elim)).trans' u1,rfl⟩⟩
 | some q =>
   obtain⟨x,t'⟩:=q;simp only at HRD;go_wp2_with fail;refine HRD.mono ?_;rintro e w1 ⟨u1,v,rfl,ov,hv,bw⟩;obtain⟨A3,n3,c3,rfl,hn3⟩:=ov.form';have OV:=hd_ ov;have HV:=hd_ hv;have U1:=hd_ ((F0.mono (λ_ _ h=>h.elim)).trans' u1);have HL1:=hd_ (HLF w1 t' bw);have y0:=(B0.upd u1 HGH.out).cell 0;simp at y0;clear u1 ov hv bw hn3 HRD HLF x0 x1 x2;go_wp2_with fail;refine HL1.mono ?_;rintro e w2 ⟨rfl,f2⟩;have F2:=hd_ f2;clear f2 HL1;rcases Nat.eq_zero_or_pos t' with h0|h0
   . subst h0
     simp only at hR;go_wp2_with fail;refine(Q0R _ _).mono ?_;rintro e w3 ⟨rfl,rfl⟩;go_wp2_with fail;(try go_ret);exact hR _ _ ⟨U1.trans F2.out (λ_ _ h=>h.elim),_,rfl,OV.fresh F2.out,λb hb=>by have:=HV b hb;have:=F0.size;omega⟩
   (have htI:((t':Int) == 0)=false:=by simp;omega)
   have hR2:=hd_ (show ∀e w',Upd (λb=>b=g) w w'->e=Qa 14->R e w' from λe w' h1 h2=>hR e w' ⟨h1,by
     cases t' with
     | zero=>omega
     | succ k=>exact h2⟩)
   clear hR;go_wp2_with fail;refine(X6 _ _).mono ?_;rintro e w3 ⟨rfl,rfl⟩;simp only [Qa];exact⟨rfl,hR2 _ _ (U1.trans F2.out (λ_ _ h=>h.elim)) rfl⟩
def Jb (l:List Int) (bs:List Nat) (n:Nat):Option (List Nat) :=
  if(bs.getLast?).getD 0=0 then none else match QG l (Qj bs) (Y0 bs) n with
    | some (x,0)=>some x
    | _=>none
theorem Q2u (a0:Nat) (v00:Value) (w:World) (h0:Blk w a0 22 #[v00])  :
   Calls prog 279 #[.pointer (some ⟨a0,0,none⟩)] w λe w'=>e = .returned (.tuple #[])/\Upd (λb=>b=a0) w w'/\Blk w' a0 22 #[.slice none 0 0]:=by
 have c00:=h0.cell 0;have z00:=h0.frozen 0;simp at c00;have H0:=hd_ h0;clear h0;refine Q8 λR hR=>?_;go_enter func279,ntmps279;go_wp2_with fail;(try go_end0);refine hR.out _ _ ⟨rfl,?_,?_⟩
 . exact((Upd.refl (λb=>b=a0) _).setCell (p:=⟨a0,0,none⟩) (λ_=>rfl) _)
 have:=(H0.set_ 0 (.slice none 0 0));simpa using this
def YQ (o:Option (List Nat)) (er:Int) (w:World) (e:Ending) (w':World):Prop :=
  match o with
  | some x=>∃v,e = .returned (.tuple #[v,.int .i64 0])/\Qu w w' v x
  | none=>e = .returned (.tuple #[.slice none 0 0,.int .i64 er])/\Q0 w w'
theorem Q7z (F G:Nat->Prop) (A B:Option Addr) (k c m d N n:Nat) (l:List Int) (bs:List Nat) (w:World) (hr:Rd w F A k (Q7 l)) (hbs:Rd w G B m (Q2 bs)) (hlt:∀b∈bs,b<256) (hm:m<=2^32) (hc:k<=c) (ht:Qc l) (hn:n<=131072) (hN:Blk w N 3 #[.int .i64 (n:Nat)]) :
   Calls prog 233 #[.slice A k c,.slice B m d,.func (.func 234) #[] #[.pointer (some ⟨N,0,none⟩)]] w (YQ (Jb l bs n) 14 w):=by
 have hmf:∀(fn:Fn) (first cap:Array Value) (w:World),(Instr.makeFunc fn first cap).run prog w = .ok (.func fn first cap) w:=λ_ _ _ _=>rfl;obtain⟨w0,H,hw0,hH,f0,bo,be⟩:=Jw w 22 #[.slice none 0 0] 24 #[.int .i64 0];have HOP:=hd_ (Q7x F G A B k c m d l bs w0 (hr.fresh f0) (hbs.fresh f0) hlt hm hc ht);unfold Q0Y at HOP;have HD1:=hd_ (λF G g p t W (hW:Q0 w W) h1 h2 h3 h4 h5 h6 h7=>Q7y F G g p N bs t n l W h1 h2 ht h3 h4 h5 h6 h7 hn (hN.fresh hW));have BO:=hd_ bo;have BE:=hd_ be;have F0:=hd_ f0;have HW:=hd_ hw0;have HH:=hd_ hH;(have hsz:(w.alloc (.cells #[.slice none 0 0] 22)).heap.size=H+1:=by simp [hH]);obtain⟨V,hV⟩:=nm_ (QG l (Qj bs) (Y0 bs) n);have HVV:=hd_ hV;unfold Jb;rw [<-hV];clear hw0 hH f0 bo be hr hbs hlt hm hc ht hn hN hV
 have HERR:=hd_ (show ∀(K:Ending->World->Prop) tmps (w1:World),Hid (∀e w',e = .returned (.tuple #[.slice none 0 0,.int .i64 14])/\Q0 w w'->K e w')->Q0 w0 w1->tmps[6]?=some (.pointer (some ⟨H,0,none⟩))->tmps[7]?=some (.pointer (some ⟨H+1,0,none⟩)) ->
     Leaves prog Tryz.f233 tmps K [{ target:=.fn (.func 84) #[],args:=#[.pointer (some ⟨H+1,0,none⟩),.func (.func 279) #[] #[.pointer (some ⟨H,0,none⟩)]] }]
       (.panicking [{ v:=.iface 24 (.int .i64 14),recovered:=false }]) w1 from by
   intro K tmps w1 hK f1 ht6 ht7;refine leaves_cons (f:=84) (args:=#[.pointer (some ⟨H+1,0,none⟩),.func (.func 279) #[] #[.pointer (some ⟨H,0,none⟩)]]) (by simp) (by simp [go_sem]) ?_;refine(Z7 279 #[.pointer (some ⟨H,0,none⟩)] (λb=>b=H) (λW=>Blk W H 22 #[.slice none 0 0]) (H+1) 14 _ w1 (BE.fresh f1) (by omega) (λ_ _=>rfl) (Q2u H _ w1 (BO.fresh f1))).mono ?_;rintro e u' w'' ⟨rfl,rfl,w2,u2,b2,rfl⟩;have e2:=((BE.fresh f1).upd u2 (by omega)).set_ 0 (.int .i64 14);have b3:=b2.far (p:=⟨H+1,0,none⟩) (by simp) (.int .i64 14);have d0:=b3.cell 0;have d1:=e2.cell 0;simp at d0 d1;show Leaves _ _ _ _ [] .returning _;refine⟨.tuple #[.slice none 0 0,.int .i64 14],?_,hK _ _ ⟨rfl,(F0.trans' f1).trans (u2.mono (T:=λb=>b=H\/b=H+1) (λ_ _ h=>.inl h) |>.setCell (p:=⟨H+1,0,none⟩) (λ_=>.inr rfl) _) (λb hb e=>by have:=HH.out;omega)⟩⟩
   simp [results,results233,go_sem,d0,d1,ht6,ht7])
 refine Q8 λR hR=>?_;go_enter_defers func233,ntmps233;go_upto_region 1 with fail;simp only [hsz,<-HH.out,<-HW.out];clear hsz;unfold YQ at hR;by_cases hz:(bs.getLast?).getD 0=0
 . simp only [if_pos hz]at hR HOP
   clear hz;go_wp2_with fail;refine HOP.mono ?_;rintro e w1 ⟨f1,rfl⟩;simp only [Qa];exact HERR R _ w1 hR f1 rfl rfl
 simp only [if_neg hz]at hR HOP;clear hz;go_wp2_with fail;refine HOP.mono ?_;rintro e w1 ⟨f1,g,p,rfl,F',G',h1,h2,h3,h4,h5,h6,h7,hg⟩;have hd:=HD1 F' G' g p (Y0 bs) w1 (F0.trans' f1) h1 h2 h3 h4 h5 h6 h7;rw [<-HVV.out]at hd;have HD:=hd_ hd;have F1:=hd_ f1;have HG:=hd_ hg;clear hd f1 hg h1 h2 h3 h4 h5 h6 h7 HD1 HOP HVV
 have hbad:(∀q,V≠some (q,0))->Hid (Calls prog 234 #[.agg #[.pointer (some ⟨g,0,none⟩),.pointer (some ⟨p,0,none⟩)],.pointer (some ⟨N,0,none⟩)] w1 λe w'=>Upd (λb=>b=g) w1 w'/\e=Qa 14)/\Hid (∀e w',e = .returned (.tuple #[.slice none 0 0,.int .i64 14])/\Q0 w w'->R e w'):=by
   intro hv
   cases V with
   | none=>exact⟨HD.out,hR.out⟩
   | some q =>
     obtain⟨x,t'⟩:=q
     cases t' with
     | zero=>exact absurd rfl (hv x)
     | succ k=>exact⟨HD.out,hR.out⟩
 by_cases hv:∃q,V=some (q,0)
 . obtain⟨x,rfl⟩:=hv
   simp only at HD hR;clear hbad HERR;go_wp2_with fail;refine HD.mono ?_;rintro e w2 ⟨u2,v,rfl,ov,hv2⟩;obtain⟨A2,n2,c2,rfl,hn2⟩:=ov.form';(have hgH:H+1<g:=by have h1:=HG.out;have h2:=BE.lt;omega);have f2:Q0 w w2:=(F0.trans' F1.out).trans u2 (λb hb e=>by have:=HH.out;omega);have bo2:=(BO.fresh F1.out).upd u2 (by omega);have be2:=(BE.fresh F1.out).upd u2 (by omega);have c0:=bo2.cell 0;have z0:=bo2.frozen 0;have c1:=be2.cell 0;have z1:=be2.frozen 0;simp at c0 c1;have OV:=hd_ ov;have F2:=hd_ f2;have BV:=hd_ (show ∀b,Value.ownBlock (.slice A2 n2 c2)=some b->H+1<b from λb hb=>by have h1:=hv2 b hb;have h2:=BE.lt;have h3:=F1.size;omega);have BO2:=hd_ bo2;have BE2:=hd_ be2;clear ov f2 bo2 be2 u2 hv2 hn2 HD;go_wp2_with fail;change Leaves _ _ _ _ _ _ _;refine leaves_cons (f:=84) (args:=#[.pointer (some ⟨H+1,0,none⟩),.func (.func 279) #[] #[.pointer (some ⟨H,0,none⟩)]]) (by simp) (by simp [go_sem]) ?_;have b2:=(BO2.set_ 0 (.slice A2 n2 c2)).far (p:=⟨H+1,0,none⟩) (by simp) (.int .i64 0);have e2:=(BE2.far (p:=⟨H,0,none⟩) (by simp) (.slice A2 n2 c2)).set_ 0 (.int .i64 0);have d0:=b2.cell 0;have d1:=e2.cell 0;simp at d0 d1;refine(VV _ _ _).mono ?_;rintro e u' w'' ⟨rfl,rfl,rfl⟩;have us:Upd (λb=>b=H\/b=H+1) w2 ((w2.setCell ⟨H,0,none⟩ (.slice A2 n2 c2)).setCell ⟨H+1,0,none⟩ (.int .i64 0)):=((Upd.refl (λb=>b=H\/b=H+1) w2).setCell (p:=⟨H,0,none⟩) (λ_=>.inl rfl) _).setCell (p:=⟨H+1,0,none⟩) (λ_=>.inr rfl) _;refine⟨.tuple #[.slice A2 n2 c2,.int .i64 0],?_,hR _ _ ⟨_,rfl,OV.upd us (λb hb e=>by have:=BV b hb;omega),F2.trans us (λb hb e=>by have:=HH.out;omega),λb hb=>by have h1:=BV b hb;have h2:=HH.out;omega⟩⟩;simp [results,results233,go_sem,d0,d1]
 obtain⟨HDB,hRB⟩:=hbad (λq hq=>hv ⟨q,hq⟩);clear hR HD hbad hv;have hR:=hRB;clear hRB;go_wp2_with fail;refine HDB.mono ?_;rintro e w2 ⟨u2,rfl⟩;simp only [Qa];(have hgH:H+1<g:=by have h1:=HG.out;have h2:=BE.lt;omega);change Leaves _ _ _ _ _ _ _;refine leaves_cons (f:=84) (args:=#[.pointer (some ⟨H+1,0,none⟩),.func (.func 279) #[] #[.pointer (some ⟨H,0,none⟩)]]) (by simp) (by simp [go_sem]) ?_;refine(Z7 279 #[.pointer (some ⟨H,0,none⟩)] (λb=>b=H) (λW=>Blk W H 22 #[.slice none 0 0]) (H+1) 14 _ w2 ((BE.fresh F1.out).upd u2 (by omega)) (by omega) (λ_ _=>rfl) (Q2u H _ w2 ((BO.fresh F1.out).upd u2 (by omega)))).mono ?_;rintro e u' w'' ⟨rfl,rfl,w3,u3,b3,rfl⟩;have e3:=(((BE.fresh F1.out).upd u2 (by omega)).upd u3 (by omega)).set_ 0 (.int .i64 14);have b4:=b3.far (p:=⟨H+1,0,none⟩) (by simp) (.int .i64 14);have d0:=b4.cell 0;have d1:=e3.cell 0;simp at d0 d1;show Leaves _ _ _ _ [] .returning _;refine⟨.tuple #[.slice none 0 0,.int .i64 14],?_,hR _ _ ⟨rfl,((F0.trans' F1.out).trans u2 (λb hb e=>by have:=HH.out;omega)).trans (u3.mono (T:=λb=>b=H\/b=H+1) (λ_ _ h=>.inl h) |>.setCell (p:=⟨H+1,0,none⟩) (λ_=>.inr rfl) _) (λb hb e=>by have:=HH.out;omega)⟩⟩;simp [results,results233,go_sem,d0,d1]
theorem Q5J (F:Nat->Prop) (A:Option Addr) (k c n:Nat) (l:List Int) (w:World) (hr:Rd w F A k (Q7 l)) (hk:k<=2^40) (hc:k<=c) (hn:n<=131072) :
   Calls prog 232 #[.slice A k c,.int .i64 (n:Nat)] w λe w'=>e = .returned (.int .i64 (if Qc l then 0 else 12))/\Q0 w w':=by
 have HCK:=hd_ (KO F A k c l w hr hk hc);(have hnI:(n:Int)<=131072:=by omega);(have hn0:(0:Int)<=n:=by omega);clear hr hk hc hn;refine Q8 λR hR=>?_;go_enter func232,ntmps232;by_cases ht:Qc l
 . simp only [if_pos ht]at HCK hR
   clear ht;go_wp2_with fail;refine HCK.mono ?_;rintro e w1 ⟨rfl,f1⟩;have F1:=hd_ f1;clear f1 HCK;go_wp2_with fail;(try go_ret);exact hR _ _ ⟨rfl,F1.out⟩
 simp only [if_neg ht]at HCK hR;clear ht;go_wp2_with fail;refine HCK.mono ?_;rintro e w1 ⟨rfl,f1⟩;have F1:=hd_ f1;clear f1 HCK;go_wp2_with fail;(try go_ret);exact hR _ _ ⟨rfl,F1.out⟩
theorem Q3z (F G:Nat->Prop) (A B:Option Addr) (k c m d n:Nat) (l:List Int) (bs:List Nat) (w:World) (hr:Rd w F A k (Q7 l)) (hbs:Rd w G B m (Q2 bs)) (hlt:∀b∈bs,b<256) (hk:k<=2^40) (hm:m<=2^32) (hc:k<=c) (hmd:m<=d) (hn:n<=131072) :
   Calls prog 185 #[.slice A k c,.slice B m d,.int .i64 (n:Nat)] w (YQ (if Qc l then Jb l bs n else none) (if Qc l then 14 else 12) w):=by
 have hmf:∀(fn:Fn) (first cap:Array Value) (w:World),(Instr.makeFunc fn first cap).run prog w = .ok (.func fn first cap) w:=λ_ _ _ _=>rfl;obtain⟨w0,H,hw0,hH,f0,b0⟩:=al_ w 3 #[.int .i64 (n:Nat)];have HRT:=hd_ (Q5J F A k c n l w0 (hr.fresh f0) hk hc hn);have HTD:=hd_ (fun(ht:Qc l) W (hW:Q0 w0 W)=>Q7z F G A B k c m m H n l bs W ((hr.fresh f0).fresh hW) ((hbs.fresh f0).fresh hW) hlt hm hc ht hn (b0.fresh hW));have x0:=b0.cell 0;simp at x0;(have hmI:(m:Int)<=d:=by omega);(have hm0:(0:Int)<=m:=by omega);have hmN:m<=d:=hmd;have HW:=hd_ hw0;have HH:=hd_ hH;have F0:=hd_ f0;clear hw0 hH f0 b0 hr hbs hlt hk hm hc hn hmd;refine Q8 λR hR=>?_;go_enter func185,ntmps185;go_upto_region 1 with fail;simp only [<-HH.out,<-HW.out];by_cases ht:Qc l
 . have HT2:=hd_ (HTD ht)
   simp only [if_pos ht]at HRT hR;clear ht HTD;go_wp2_with fail;refine HRT.mono ?_;rintro e w1 ⟨rfl,f1⟩;have F1:=hd_ (F0.trans' f1);have HT3:=hd_ (HT2 w1 f1);clear f1 HRT HT2;go_wp2_with fail;refine HT3.mono ?_;unfold YQ;unfold YQ at hR;intro e w2 h2
   cases ho:Jb l bs n with
   | none =>
     rw [ho]at h2 hR;obtain⟨rfl,f2⟩:=h2;have F2:=hd_ (F1.trans' f2);clear f2 HT3 ho;go_wp2_with fail;(try go_ret);exact hR _ _ ⟨rfl,F2.out⟩
   | some x =>
     rw [ho]at h2 hR;obtain⟨v,rfl,o2,f2,hb2⟩:=h2;have O2:=hd_ o2;have F2:=hd_ (F1.trans' f2);have HB2:=hd_ (show ∀b,v.ownBlock=some b->w.heap.size<=b from λb hb=>by have:=hb2 b hb;have:=F1.size;omega);clear o2 f2 hb2 HT3 ho;go_wp2_with fail;(try go_ret);exact hR _ _ ⟨v,rfl,O2.out,F2.out,HB2.out⟩
 simp only [if_neg ht]at HRT hR;clear ht HTD;go_wp2_with fail;refine HRT.mono ?_;rintro e w1 ⟨rfl,f1⟩;have F1:=hd_ (F0.trans' f1);clear f1 HRT;go_wp2_with fail;(try go_ret);exact hR _ _ ⟨rfl,F1.out⟩
def JL:Value->Value
  | .tuple a=>a.getD 0 undef
  | _=>undef
def DV (o:Option (List Nat)) (w:World) (v:Value) (W:World):Prop :=
  match o with
  | some x=>∃A n c,v = .slice A n c/\n<=c/\Rd W (λb=>w.heap.size<=b) A n (Q2 x)
  | none=>True
theorem DV.fresh {o:Option (List Nat)} {w W W':World} {v:Value} (h:DV o w v W) (hf:Q0 W W'):DV o w v W':=by
 cases o with
 | none=>trivial
 | some x=>obtain⟨A,n,c,h1,h2,h3⟩:=h;exact⟨A,n,c,h1,h2,h3.fresh hf⟩
theorem Q5K (b:Bool) (er:Int) (w:World) (hb:b=true):Calls prog 150 #[.bool b,.int .i64 er] w λe w'=>e = .returned (.tuple #[])/\w'=w:=hb ▸ Q00 er w
theorem Q5L (b:Bool) (er:Int) (w:World) (hb:b=false):Calls prog 150 #[.bool b,.int .i64 er] w λe w'=>e=Qa er/\w'=w:=hb ▸ Q7A er w
theorem Q1m (n:Nat) (w:World) (hn:n<=131072) (hk:n<=3*((n+3) / 4)) :
   Calls prog 98 #[.int .i64 (n:Nat)] w λe w'=>e=Qa 11/\Q0 w w':=by
 (have hnI:(n:Int)<=131072:=by omega);(have hn0:(0:Int)<=n:=by omega);obtain⟨k,hkd⟩:=nm_ ((n+3) / 4);have hs1:IntKind.i64.wrap ((n:Int)+3)=n+3:=IntWalk.i64_in _ (by omega);(have hs2:((n:Int)+3) / 4=(k:Nat):=by omega);have hs3:IntKind.i64.wrap (3*(k:Int))=3*k:=IntWalk.i64_in _ (by omega);(have hgt:¬3*(k:Int)<n:=by omega);have HGT:=hd_ hgt;clear hn hk hkd;refine Q8 λR hR=>?_;go_enter func98,ntmps98;go_wp2_with fail;refine(Q00 _ _).mono ?_;rintro e w1 ⟨rfl,hw1⟩;go_wp2_with fail;refine(Q5L _ _ _ (decide_eq_false (by have:=HGT.out;omega))).mono ?_;rintro e w2 ⟨rfl,hw2⟩;simp only [Qa];exact⟨rfl,hR _ _ ⟨rfl,by rw [hw2];exact(Upd.refl _ _).alloc _⟩⟩
def Vy (l:List Int) (bs:List Nat):Int:=if Yu l bs=0 then if bs.length<=3*((bs.length+3) / 4)then 11 else 0 else Yu l bs
theorem Q3A {l:List Int} {bs:List Nat} (h:Yu l bs=0):bs.length<=131072:=by
 unfold Yu at h;split at h
 . split at h
   . next h2=>exact h2.1
   cases h
 cases h
theorem Qam (F G:Nat->Prop) (A B:Option Addr) (n c m d:Nat) (l:List Int) (bs:List Nat) (w:World) (hr:Rd w F A n (Q7 l)) (hbs:Rd w G B m (Q2 bs)) (hlt:∀b∈bs,b<256) (hn:n<=2^40) (hm:m<=2^40) (hc:n<=c) (her:Vy l bs≠0) :
   Calls prog 50 #[.slice A n c,.slice B m d] w λe w'=>e = .returned (.tuple #[.slice none 0 0,.int .i64 (Vy l bs)])/\Q0 w w':=by
 have hmf:∀(fn:Fn) (first cap:Array Value) (w:World),(Instr.makeFunc fn first cap).run prog w = .ok (.func fn first cap) w:=λ_ _ _ _=>rfl;obtain⟨w0,hw0⟩:=nm_ ((((w.alloc (.cells #[.slice A n c] 33)).alloc (.cells #[.slice B m d] 22)).alloc (.cells #[.slice none 0 0] 22)).alloc (.cells #[.int .i64 0] 24));obtain⟨H,hH⟩:=nm_ (w.heap.size);(have f0:Q0 w w0:=by rw [hw0];exact((((Upd.refl _ _).alloc _).alloc _).alloc _).alloc _);(have b0:Blk w0 H 33 #[.slice A n c]:=by rw [hw0];exact(((Qb hH _ _).alloc _).alloc _).alloc _);(have b1:Blk w0 (H+1) 22 #[.slice B m d]:=by rw [hw0];exact((Qb (by simp [hH]) _ _).alloc _).alloc _);(have bo:Blk w0 (H+1+1) 22 #[.slice none 0 0]:=by rw [hw0];exact(Qb (by simp [hH]) _ _).alloc _);(have be:Blk w0 (H+1+1+1) 24 #[.int .i64 0]:=by rw [hw0];exact Qb (by simp [hH]) _ _);have HBL:=hd_ (Q97 F G A B n c m d l bs w0 (hr.fresh f0) (hbs.fresh f0) hlt hn hm hc);(have hL:bs.length=m:=by have:=hbs.1;simpa using this);have x0:=b0.cell 0;have x1:=b1.cell 0;simp at x0 x1;have B1:=hd_ b1;have BO:=hd_ bo;have BE:=hd_ be;have F0:=hd_ f0;have HW:=hd_ hw0;have HH:=hd_ hH;have HL:=hd_ hL;(have hz1:(w.alloc (.cells #[.slice A n c] 33)).heap.size=H+1:=by simp [hH]);(have hz2:((w.alloc (.cells #[.slice A n c] 33)).alloc (.cells #[.slice B m d] 22)).heap.size=H+1+1:=by simp [hH]);(have hz3:(((w.alloc (.cells #[.slice A n c] 33)).alloc (.cells #[.slice B m d] 22)).alloc (.cells #[.slice none 0 0] 22)).heap.size=H+1+1+1:=by simp [hH]);obtain⟨sb,hsb⟩:=nm_ (if Yu l bs=0 then Z8 l bs else 0);rw [<-hsb]at HBL;obtain⟨er,hE⟩:=nm_ (Vy l bs);rw [<-hE]at her|-
 have hE2:(Yu l bs=0/\bs.length<=3*((bs.length+3) / 4)/\er=11)\/(Yu l bs≠0/\er=Yu l bs):=by
   unfold Vy at hE;by_cases h1:Yu l bs=0
   . rw [if_pos h1]at hE
     by_cases h2:bs.length<=3*((bs.length+3) / 4)
     . rw [if_pos h2]at hE;exact .inl ⟨h1,h2,hE⟩
     rw [if_neg h2]at hE;exact absurd hE her
   rw [if_neg h1]at hE;exact .inr ⟨h1,hE⟩
 have HE:=hd_ hE2;have HLE:=hd_ (fun(h:Yu l bs=0)=>Q3A h);clear hw0 hH f0 b0 b1 bo be hr hbs hlt hn hm hc hL hsb hE hE2 her;refine Q8 λR hR=>?_;go_enter_defers func50,ntmps50;go_upto_region 1 with fail;simp only [hz1,hz2,hz3,<-HH.out,<-HW.out];clear hz1 hz2 hz3;go_wp2_with fail;refine HBL.mono ?_;rintro e w1 ⟨rfl,f1⟩;have F1:=hd_ f1;have y1:=(B1.fresh f1).cell 0;simp at y1;clear f1 HBL
 have HTAIL:=hd_ (show ∀(w3:World) tmps,Q0 w0 w3->tmps[4]?=some (.pointer (some ⟨H+1+1,0,none⟩))->tmps[5]?=some (.pointer (some ⟨H+1+1+1,0,none⟩)) ->
     Leaves prog Tryz.f50 tmps R [{ target:=.fn (.func 92) #[],args:=#[.pointer (some ⟨H+1+1+1,0,none⟩),.func (.func 93) #[] #[.pointer (some ⟨H+1+1,0,none⟩)]] }]
       (.panicking [{ v:=.iface 24 (.int .i64 er),recovered:=false }]) w3 from by
   intro w3 tmps f3 ht4 ht5;refine leaves_cons (f:=92) (args:=#[.pointer (some ⟨H+1+1+1,0,none⟩),.func (.func 93) #[] #[.pointer (some ⟨H+1+1,0,none⟩)]]) (by simp) (by simp [go_sem]) ?_;refine(Vh 93 #[.pointer (some ⟨H+1+1,0,none⟩)] (λb=>b=H+1+1) (λW=>Blk W (H+1+1) 22 #[.slice none 0 0]) (H+1+1+1) er _ w3 (BE.fresh f3) (by omega) (λ_ _=>rfl) (Q8U (H+1+1) _ w3 (BO.fresh f3))).mono ?_;rintro e u' w'' ⟨rfl,rfl,w4,u4,b4,rfl⟩;have e4:=((BE.fresh f3).upd u4 (by omega)).set_ 0 (.int .i64 er);have b5:=b4.far (p:=⟨H+1+1+1,0,none⟩) (by simp) (.int .i64 er);have d0:=b5.cell 0;have d1:=e4.cell 0;simp at d0 d1;show Leaves _ _ _ _ [] .returning _;refine⟨.tuple #[.slice none 0 0,.int .i64 er],?_,hR _ _ ⟨rfl,(F0.trans' f3).trans (u4.mono (T:=λb=>b=H+1+1\/b=H+1+1+1) (λ_ _ h=>.inl h) |>.setCell (p:=⟨H+1+1+1,0,none⟩) (λ_=>.inr rfl) _) (λb hb e=>by have:=HH.out;omega)⟩⟩
   simp [results,results50,go_sem,d0,d1,ht4,ht5])
 rcases HE.out with ⟨h1,h2,h3⟩|⟨h1,h3⟩
 . have HPN:=hd_ (λW=>Q1m m W (by rw [<-HL.out];exact HLE h1) (by rw [<-HL.out];exact h2))
   rw [h1];subst h3;clear h1 h2 HE HLE;go_wp2_with fail;refine(Zz _ _ _ (by simpa using(Blk.new w1 24 #[.int .i64 0]).cell 0)).mono ?_;rintro e w2 ⟨rfl,hw2⟩;have f12:Q0 w0 w2:=F1.trans' (by rw [hw2];exact(Upd.refl _ _).alloc _);have y2:=(B1.fresh f12).cell 0;simp at y2;have F12:=hd_ f12;clear hw2 f12 y1;go_wp2_with fail;refine(HPN _).mono ?_;rintro e w3 ⟨rfl,f3⟩;simp only [Qa];exact HTAIL w3 _ (F12.trans' f3) rfl rfl
 rw [<-h3];have HER:=hd_ (show er≠0 by rw [h3];exact h1);clear h1 h3 HE HLE;go_wp2_with fail;refine(ZA er _ _ _ (by simpa using(Blk.new w1 24 #[.int .i64 er]).cell 0) HER.out).mono ?_;rintro e w2 ⟨rfl,hw2⟩;simp only [Qa];exact HTAIL w2 _ (F1.trans' (by rw [hw2];exact(Upd.refl _ _).alloc _)) rfl rfl
def Ju (bs:List Nat) (at_:Nat):Nat->Nat
  | 0=>at_
  | i+1=>Ju bs at_ i+(Qn 131072 (bs.drop (Ju bs at_ i))).2.1
def QO (bs:List Nat) (at_ i:Nat):Nat × Nat × Int:=Qn 131072 (bs.drop (Ju bs at_ i))
def YY (bs:List Nat) (at_:Nat):Int:=if(QO bs at_ 0).2.2≠0 then(QO bs at_ 0).2.2 else if(QO bs at_ 1).2.2≠0 then(QO bs at_ 1).2.2 else(QO bs at_ 2).2.2
theorem Q5c {bs:List Nat} {at_ i:Nat} (hi:i<3) (h:∀j,j<i->(QO bs at_ j).2.2=0) (hn:(QO bs at_ i).2.2≠0):YY bs at_=(QO bs at_ i).2.2:=by
 unfold YY;rcases(show i=0\/i=1\/i=2 by omega)with rfl|rfl|rfl
 . rw [if_pos hn]
 . rw [if_neg (by rw [h 0 (by omega)];simp),if_pos hn]
 rw [if_neg (by rw [h 0 (by omega)];simp),if_neg (by rw [h 1 (by omega)];simp)]
theorem Q5d {bs:List Nat} {at_:Nat} (h:∀j,j<3->(QO bs at_ j).2.2=0):YY bs at_=0:=by
 unfold YY;rw [if_neg (by rw [h 0 (by omega)];simp),if_neg (by rw [h 1 (by omega)];simp),h 2 (by omega)]
def Zt (f:Nat->Nat):Array Value:=#[.int .i64 (f 0:Nat),.int .i64 (f 1:Nat),.int .i64 (f 2:Nat)]
theorem Q0Z (f:Nat->Nat) {q:Nat} (h:q<3):(Zt f)[q]?=some (.int .i64 (f q:Nat)):=by
 (rcases(show q=0\/q=1\/q=2 by omega)with rfl|rfl|rfl<;>rfl)
theorem Q3B (f:Nat->Nat) {q:Nat} (x:Nat) (h:q<3):(Zt f).setIfInBounds q (.int .i64 (x:Nat))=Zt (λi=>if i=q then x else f i):=by
 (rcases(show q=0\/q=1\/q=2 by omega)with rfl|rfl|rfl<;>rfl)
theorem Xd {f g:Nat->Nat} (h:∀i,i<3->f i=g i):Zt f=Zt g:=by
 unfold Zt;rw [h 0 (by omega),h 1 (by omega),h 2 (by omega)]
def Q10 (F:Nat->Prop) (g:Nat) (bs:List Nat) (at_:Nat) (w:World) (e:Ending) (w':World):Prop :=
  Upd (λb=>b=g) w w'/\if YY bs at_=0 then e = .returned (.agg (Zt λi=>(QO bs at_ i).1))/\Q4 w' F g bs (Ju bs at_ 3)/\∀j,j<3->(QO bs at_ j).2.2=0 else e=Qa (YY bs at_)
theorem Q7B (F:Nat->Prop) (g:Nat) (bs:List Nat) (at_:Nat) (w:World) (hcu:Q4 w F g bs at_) (hF:∀b,F b->b≠g) :
   Calls prog 307 #[.agg #[.pointer (some ⟨g,0,none⟩)]] w (Q10 F g bs at_ w):=by
 obtain⟨w0,H,hw0,hH,f0,br,ba⟩:=Jw w 330 #[.pointer (some ⟨g,0,none⟩)] 266 #[.int .i64 0,.int .i64 0,.int .i64 0];(have hgH:g<H:=by rw [hH];exact hcu.lt);(have hsz:(w.alloc (.cells #[.pointer (some ⟨g,0,none⟩)] 330)).heap.size=H+1:=by simp [hH]);have HNU:=hd_ (λW p (hW:Q4 W (λb=>F b/\b<w.heap.size) g bs p)=>Q3C _ g 131072 bs p W hW (by omega) (λb hb=>hF b hb.1));have HCU:=hd_ (hcu.both.fresh f0);have BR:=hd_ br;have BA:=hd_ ba;have F0:=hd_ f0;have HW:=hd_ hw0;have HH:=hd_ hH;have HG:=hd_ hgH;have ba3:Blk w0 (H+1) 266 (Zt λj=>if j<0 then(QO bs at_ j).1 else 0):=ba;have BA3:=hd_ ba3;clear hw0 hH f0 br ba ba3 hcu hF hgH;refine Q8 λR hR=>?_;unfold Q10 at hR;go_enter func307,ntmps307;go_upto_region 1 with fail;simp only [hsz,<-HH.out,<-HW.out];clear hsz;go_wp2_with fail;go_loopg [6] 3 (λmm vi wr=>∃i,i+mm=3/\vi = .int .i64 (i:Nat)/\(∀j,j<i->(QO bs at_ j).2.2=0)/\Blk wr (H+1) 266 (Zt λj=>if j<i then(QO bs at_ j).1 else 0)/\Q4 wr (λb=>F b/\b<w.heap.size) g bs (Ju bs at_ i)/\Upd (λb=>b=g\/b=H+1) w0 wr)
 case atStart=>exact⟨0,rfl,rfl,λj hj=>absurd hj (Nat.not_lt_zero _),BA3.out,HCU.out,Upd.refl _ _⟩
 case round =>
   obtain⟨i,hi,rfl,hz,bw,cu,uw⟩:=hrel;by_cases hlt:i<3
   . have hI:(i:Int)<3:=by omega
     have HN:=hd_ (HNU wr _ cu);have r0:=(BR.upd uw (by have:=HG.out;omega)).cell 0;simp at r0;have BW:=hd_ bw;have CU:=hd_ cu;have UW:=hd_ uw;have HI:=hd_ (And.intro hi hlt);have HZ:=hd_ hz;have HPS:=hd_ (show Ju bs at_ (i+1)=Ju bs at_ i+(Qn 131072 (bs.drop (Ju bs at_ i))).2.1 from rfl);have HVI:=hd_ (show QO bs at_ i=Qn 131072 (bs.drop (Ju bs at_ i))from rfl);obtain⟨V,hV⟩:=nm_ (Qn 131072 (bs.drop (Ju bs at_ i)));rw [<-hV]at HN HPS HVI;clear hz bw cu uw hi hlt hV;by_cases h0:V.2.2=0
     . simp only [if_pos h0]at HN
       rw [h0]at HN;have H0:=hd_ h0;clear h0;go_wp2_with fail;refine HN.mono ?_;rintro e w1 ⟨rfl,u1,c1⟩;have b1:=BW.upd u1 (by have:=HG.out;omega);have U1:=hd_ u1;have C1:=hd_ c1;have B1:=hd_ b1;clear u1 c1 b1 HN;go_wp2_with fail;refine(Zz _ _ _ (by simpa using(Blk.new w1 24 #[.int .i64 0]).cell 0)).mono ?_;rintro e w2 ⟨rfl,hw2⟩;have F2:=hd_ (show Q0 w1 w2 by rw [hw2];exact(Upd.refl _ _).alloc _);have b2:=B1.fresh F2.out;have hcell:=(b2.cell i).trans (Q0Z _ HI.2);have hfz:=b2.frozen i;have bset:=b2.set_ i (.int .i64 (V.1:Nat));rw [Q3B _ _ HI.2]at bset;have BS:=hd_ bset;clear hw2 b2 bset;go_wp2_with fail;go_roundg (gk-1)
       case measure=>have:=HI.out;omega
       case rel =>
         refine⟨i+1,by have:=HI.out;omega,by go_num,λj hj=>?_,?_,?_,?_⟩
         . rcases Nat.lt_succ_iff_lt_or_eq.1 hj with h|rfl
           . exact HZ j h
           rw [HVI.out];exact H0.out
         . have h:=BS.out
           rw [Xd (g:=λj=>if j<i+1 then(QO bs at_ j).1 else 0) (λj hj=>?_)]at h
           . exact h
           by_cases h1:j=i
           . subst h1;rw [if_pos rfl,if_pos (by omega),HVI.out]
           rw [if_neg h1];by_cases h2:j<i
           . rw [if_pos h2,if_pos (by omega)]
           rw [if_neg h2,if_neg (by omega)]
         . rw [HPS.out]
           exact(C1.fresh F2.out).upd (S:=λb=>b=H+1) ((Upd.refl (λb=>b=H+1) _).setCell (p:=⟨H+1,i,none⟩) (λ_=>rfl) _) (by have:=HG.out;omega) (λb _ hb e=>by have:=hb.2;have:=HH.out;omega)
         exact((UW.trans' (U1.mono (T:=λb=>b=g\/b=H+1) λ_ _ h=>.inl h)).trans' (F2.mono (T:=λb=>b=g\/b=H+1) λ_ _ h=>h.elim)).setCell (p:=⟨H+1,i,none⟩) (λ_=>.inr rfl) _
     simp only [if_neg h0]at HN;have H0:=hd_ h0;clear h0;go_wp2_with fail;refine HN.mono ?_;rintro e w1 ⟨rfl,u1,c1⟩;have U1:=hd_ u1;clear u1 c1 HN;go_wp2_with fail;refine(ZA V.2.2 _ _ _ (by simpa using(Blk.new w1 24 #[.int .i64 V.2.2]).cell 0) H0.out).mono ?_;rintro e w2 ⟨rfl,rfl⟩;have he:YY bs at_=V.2.2:=(Q5c HI.2 HZ.out (by rw [HVI.out];exact H0.out)).trans (by rw [HVI.out]);rw [he]at hR;simp only [if_neg H0.out,Qa]at hR|-;exact⟨rfl,hR _ _ ⟨((F0.mono (T:=λb=>b=g) λ_ _ h=>h.elim).trans UW.out (λb hb h=>h.elim id λh=>by have:=HH.out;omega)).trans (U1.alloc _) (λ_ _ h=>h),rfl⟩⟩
   (have h3:i=3:=by omega);subst h3;have he:=Q5d hz;rw [he]at hR;simp only [if_true]at hR;rw [Xd (g:=λj=>(QO bs at_ j).1) (λj hj=>if_pos hj)]at bw;have c0:=bw.cell 0;have c1:=bw.cell 1;have c2:=bw.cell 2;have z0:=bw.frozen 0;have z1:=bw.frozen 1;have z2:=bw.frozen 2;simp [Zt]at c0 c1 c2;have BW:=hd_ bw;have CU:=hd_ cu;have UW:=hd_ uw;have HZ:=hd_ hz;clear bw cu uw hz hi hlt he;go_wp2_with fail;have b5:=YB (show Blk wr (H+1) 266 #[.int .i64 ((QO bs at_ 0).1:Nat),.int .i64 ((QO bs at_ 1).1:Nat),.int .i64 ((QO bs at_ 2).1:Nat)]from BW.out) (.int .i64 ((QO bs at_ 0).1:Nat)) (.int .i64 ((QO bs at_ 1).1:Nat)) (.int .i64 ((QO bs at_ 2).1:Nat));obtain⟨d0,d1,d2⟩:=(b5).cells3;have us:=YC wr (H+1) (.int .i64 ((QO bs at_ 0).1:Nat)) (.int .i64 ((QO bs at_ 1).1:Nat)) (.int .i64 ((QO bs at_ 2).1:Nat));refine⟨rfl,.agg (Zt λj=>(QO bs at_ j).1),by simp [results,results307,go_sem,d0,d1,d2,Zt],hR _ _ ⟨?_,rfl,?_,HZ.out⟩⟩
   . exact(F0.mono (T:=λb=>b=g) λ_ _ h=>h.elim).trans (UW.trans' (us.mono (T:=λb=>b=g\/b=H+1) λ_ _ h=>.inr h)) (λb hb h=>h.elim id λh=>by have:=HH.out;omega)
   exact(CU.upd us (by have:=HG.out;omega) (λb _ hb e=>by have:=hb.2;have:=HH.out;omega)).mono λb hb=>hb.1
theorem Qu.up {w W w':World} {v:Value} {bs:List Nat} (f:Q0 w W) (h:Qu W w' v bs):Qu w w' v bs:=⟨h.1,f.trans' h.2.1,λk hk=>Nat.le_trans f.size (h.2.2 k hk)⟩
def Qbg (l:List Int) (bs:List Nat):List Nat:=Yr (Zd l bs++[true])
end Go.Proofs.YtckjdhaflokcgaaGreat
