/- Contracts and plain lemmas, part 7. Conditions: none beyond those of each. -/
import Derived.Test.YtckjdhaflokcgaaGreatR6
import Derived.RecoverIn
set_option maxHeartbeats 4000000
set_option linter.unusedVariables false
set_option linter.unusedSimpArgs false
set_option linter.unnecessarySimpa false
set_option maxRecDepth 100000
namespace Go.Proofs.YtckjdhaflokcgaaGreat
open Go.RowKit Go.Proofs.Tryz
theorem Q9X {k n m:Nat} (h:m=Nat.min k (n-k)) (h1:1<=k) (h2:k<n):1<=m/\k+m<=n/\m<=k:=by
 have e:m=min k (n-k):=h;omega
theorem Q0O:(prog.info? 379).map (·.size)=some 2:=by kernel_rfl
theorem Q8B (b0 c n:Nat) (x:Nat × Nat) (w:World) (hb:Blk w b0 379 (Qy [x]).toArray) (hn0:0<n) (hn:n<=2048) :
   Calls prog 327 #[.slice (some ⟨b0,0,none⟩) 1 c,.int .i64 (n:Nat)] w λe w'=>∃g,e = .returned (.slice (some ⟨g,0,none⟩) n n)/\Blk w' g 379 (Qy (List.replicate n x)).toArray/\Q0 w w'/\w.heap.size<=g:=by
 have hmk:=Q6I n hn;(have hnI:(n:Int)<=2048:=by omega);(have hnI0:¬(n:Int)<0:=by omega);(have hwn:IntKind.u64.wrap (n:Int)=n:=by unfold IntKind.wrap;simp [IntKind.bits];omega);have hwn2:IntKind.i64.wrap (n:Int)=n:=IntWalk.i64_in _ (by omega);have HMU:=hd_ (show ∀W,Calls prog 169 #[.int .u64 1,.int .u64 (n:Nat)] W λe w'=>e = .returned (.tuple #[.int .u64 0,.int .u64 (n:Nat)])/\w'=W from λW=>(bits_Mul 1 n (by decide) (by omega) W).mono λe w' h=>⟨by rw [h.1,Nat.one_mul,Nat.div_eq_of_lt (by omega),Nat.mod_eq_of_lt (by omega)];rfl,h.2⟩);have HB:=hd_ hb;have HN:=hd_ (And.intro hn0 hn);clear hb hn0 hn;refine Q8 λR hR=>?_;go_enter func327,ntmps327;go_wp2_with fail;refine(HMU _).mono ?_;rintro e w1 ⟨rfl,rfl⟩;clear HMU;go_upto_region 7 with fail;obtain⟨G,hG⟩:=nm_ (w1.heap.size);obtain⟨w2,hw2⟩:=nm_ (w1.alloc (.cells (Qy (List.replicate n (0,0))).toArray 379));simp only [<-hG,<-hw2];(have bg:Blk w2 G 379 (Yq x 0 n).toArray:=by rw [hw2];have:=Qb hG 379 (Qy (List.replicate n (0,0))).toArray;simpa [Yq]using this);(have f2:Q0 w1 w2:=by rw [hw2];exact(Upd.refl _ _).alloc _);have bs:=HB.fresh f2
 have HSRC:=hd_ (show ∀j v,(Qy (List.replicate 1 x))[j]?=some v->w2.cell? ((⟨b0,0,none⟩:Addr).add j)=some v from λj v hv=>by
   rw [Addr.add_lit,Nat.zero_add,bs.cell];simpa using hv)
 have HLEN:=hd_ (show(Qy (List.replicate 1 x)).length=Nat.min 1 n*2 by rw [show Nat.min 1 n=1 from Nat.min_eq_left HN.out.1,YI];simp);have HFIT:=hd_ (show 0+(Qy (List.replicate 1 x)).length<=(Yq x 0 n).toArray.size by rw [YI,List.size_toArray,Q4i x (by omega)];have:=HN.out.1;simp;omega);have BG:=hd_ bg;have HGB:=hd_ (show w2.heap[G]?=some (.cells (Yq x 0 n).toArray 379 (0,0))from bg);have F2:=hd_ f2;have HGG:=hd_ hG;clear hG hw2 bg f2 bs hmk;go_wp2_with (with_reducible refine ZD (o:=⟨some 33,_,_,_,_,_⟩) rfl 2 (.tmp 31) (.tmp 32) 371 371 rfl 379 underlying371 Q0O G 0 n n ⟨b0,0,none⟩ 1 c rfl rfl (Yq x 0 n).toArray 379 HGB.out (Qy (List.replicate 1 x)) HLEN.out HSRC.out HFIT.out (Q2c 1 x) ?_);obtain⟨w3,hw3⟩:=nm_ (w2.setRow G ((Yq x 0 n).toArray.toList.take 0++(Qy (List.replicate 1 x)++(Yq x 0 n).toArray.toList.drop (0+(Qy (List.replicate 1 x)).length))).toArray)
 have b3:Blk w3 G 379 (Yq x 1 n).toArray:=by
   rw [hw3];have h1:=setRow_heap w2 G _ ((Yq x 0 n).toArray.toList.take 0++(Qy (List.replicate 1 x)++(Yq x 0 n).toArray.toList.drop (0+(Qy (List.replicate 1 x)).length))).toArray 379 (0,0) BG.out;have h2:=Q2X x (k:=0) (m:=1) (n:=n) (by have:=HN.out;omega);rw [Nat.zero_mul]at h2;show _=_;rw [h1];simp only [h2]
 have f3:Q0 w1 w3:=F2.trans (T:=λb=>b=G) ⟨by rw [hw3];rfl,by rw [hw3];rfl,by rw [hw3];rfl,by rw [hw3];simp [World.setRow],λk hk hn=>by rw [hw3];exact setRow_other _ _ k _ hn⟩ (λb hb h=>by have:=HGG.out;omega);have hmin:Nat.min 1 n=1:=Nat.min_eq_left HN.1;(have hw3':w2.setRow G (Qy [x]++List.drop (Qy [x]).length (Yq x 0 n)).toArray=w3:=by rw [hw3];simp);simp only [hmin,hw3'];(have hn0I:0<(n:Int):=by have:=HN.1;omega);have B3:=hd_ b3;have F3:=hd_ f3;clear hw3 hw3' b3 f3 HSRC BG F2;go_wp2_with fail;go_loopg [8] (n-1) (λf vk wr=>∃k:Nat,k+f=n/\1<=k/\vk = .int .i64 k/\Blk wr G 379 (Yq x k n).toArray/\Q0 w1 wr)
 case atStart=>exact⟨1,by have:=HN.1;omega,by omega,rfl,B3.out,F3.out⟩
 case round =>
   obtain⟨k,hk,hk1,rfl,bk,fk⟩:=hrel;have BK:=hd_ bk;have FK:=hd_ fk;have HK:=hd_ hk;have HK1:=hd_ hk1;by_cases hlt:k<n
   . have hlI:(k:Int)<n:=by omega
     (have hk1I:(1:Int)<=k:=by omega);(have hkn:¬n=k:=by omega);(have hkle:k<=n:=by omega);clear bk fk hk hk1 B3 F3;go_upto_region 9 with fail;obtain⟨m,hm⟩:=nm_ (Nat.min k (n-k));have HM:=hd_ (Q9X hm HK1.out hlt)
     have HSRC:=hd_ (show ∀W,Blk W G 379 (Yq x k n).toArray->∀j v,(Qy (List.replicate m x))[j]?=some v->W.cell? ((⟨G,0,none⟩:Addr).add j)=some v from λW hB j v hv=>by
       have hmk:m<=k:=HM.2.2;rw [Addr.add_lit,Nat.zero_add,hB.cell];have:=Q9V x (n:=n) hmk hv
       simpa using this)
     have HLEN:=hd_ (show(Qy (List.replicate m x)).length=m*2 by rw [YI];simp;omega);have HFIT:=hd_ (show k*2+(Qy (List.replicate m x)).length<=(Yq x k n).toArray.size by rw [YI,List.size_toArray,Q4i x (by omega)];have:=HM.out;simp;omega)
     have HROW:=hd_ (show ∀W,Blk W G 379 (Yq x k n).toArray->Blk (W.setRow G ((Yq x k n).toArray.toList.take (k*2)++(Qy (List.replicate m x)++(Yq x k n).toArray.toList.drop (k*2+(Qy (List.replicate m x)).length))).toArray) G 379 (Yq x (k+m) n).toArray from λW hB=>by
       have h1:=setRow_heap W G _ ((Yq x k n).toArray.toList.take (k*2)++(Qy (List.replicate m x)++(Yq x k n).toArray.toList.drop (k*2+(Qy (List.replicate m x)).length))).toArray 379 (0,0) hB;have h2:=Q2X x (k:=k) (m:=m) (n:=n) HM.2.1;show _=_;rw [h1]
       simp only [h2])
     have HSET:=hd_ (show ∀(W:World) (cs:Array Value),Upd (λb=>b=G) W (W.setRow G cs)from λW cs=>⟨rfl,rfl,rfl,by simp [World.setRow],λk hk hn=>setRow_other _ _ k _ hn⟩);(have hwa:IntKind.i64.wrap ((k:Int)+m)=((k+m:Nat):Int):=by have:=HM.out;have:=HN.out;rw [IntWalk.i64_in _ (by omega)];omega);have HMM:=hd_ hm;clear hm;obtain⟨Cw,cEq⟩:=exC (λW=>Q0 w1 W);obtain⟨Y,yA⟩:=exY [λxs W=>(xs 0) = .int .i64 (k:Nat),λxs W=>(xs 1) = .slice (some ⟨G,0,none⟩) n n,λxs W=>(xs 2) = .int .i64 (k:Nat),λxs W=>(xs 3) = .slice (some ⟨G,k*2,none⟩) (n-k) (n-k),λxs W=>(xs 4) = .slice (some ⟨G,0,none⟩) n n,λxs W=>(xs 5) = .int .i64 (k:Nat),λxs W=>(xs 6) = .slice (some ⟨G,0,none⟩) k n,λxs W=>(xs 7) = .int .i64 (m:Nat)/\Blk W G 379 (Yq x (k+m) n).toArray,λxs W=>(xs 8) = .int .i64 ((k+m:Nat):Int),λxs W=>(xs 9) = .int .i64 ((k+m:Nat):Int),λxs W=>Blk W G 379 (Yq x k n).toArray];have yf0:=yA 0;have yf1:=yA 1;have yf2:=yA 2;have yf3:=yA 3;have yf4:=yA 4;have yf5:=yA 5;have yf6:=yA 6;have yf7:=yA 7;have yf8:=yA 8;have yf9:=yA 9;have yf10:=yA 10;simp only [List.getD_cons_zero,List.getD_cons_succ]at yf0 yf1 yf2 yf3 yf4 yf5 yf6 yf7 yf8 yf9 yf10;(have yN:∀j xs W,11<=j->Y j xs W=True:=λj xs W hj=>by rw [yA,Y6 _ _ _ hj])
     have yP:∀j xs W W',j∈[0,1,2,3,4,5,6,8,9]->Y j xs W->Y j xs W':=by
       intro j xs W W' hj hy;simp only [List.mem_cons,List.not_mem_nil,or_false]at hj;(rcases hj with rfl|rfl|rfl|rfl|rfl|rfl|rfl|rfl|rfl<;>(rw [yA]at hy|-;exact hy))
     have yM:Jt [[0],[1],[2],[3],[4],[5],[6],[7],[8],[9],[]] Y:=by
       intro j xs xs' W hh hy;by_cases hj:11<=j
       . rw [yN j _ _ hj];trivial
       (have hj':j=0\/j=1\/j=2\/j=3\/j=4\/j=5\/j=6\/j=7\/j=8\/j=9\/j=10:=by omega);rcases hj' with rfl|rfl|rfl|rfl|rfl|rfl|rfl|rfl|rfl|rfl|rfl;(all_goals(rw [yA]at hy|-;(try simp only [List.getD_cons_zero,List.getD_cons_succ]at hy|-);repeat rw [<-hh]));(all_goals first|exact hy|decide)
     clear yA
     have yR:∀j xs,10<=j->Y j xs (wr.drew):=by
       intro j xs hj;rcases(show j=10\/11<=j by omega)with rfl|hj
       . rw [yf10];exact BK.drew
       rw [yN _ _ _ hj];trivial
     refine Ya Cw (λj=>if j=10 then [7]else []) Y [(0,some 38),(1,some 39),(2,some 40),(3,some 41),(4,some 42),(5,some 43),(6,some 44),(7,some 45),(8,some 46),(9,some 8)] (by kernel_rfl) (by kernel_rfl) (by kernel_rfl) (by rw [cEq];exact FK.drew) (λj hj=>yR j _ hj) ?_ ?_
     . refine Q9.p cEq yM [] (by kernel_rfl) (by kernel_rfl) (λxs W hw hd K hK'=>?_) ?_
       . simp only [Q5,Act.put,sb_,sz_,ss_]at hK'|-
         go_simp;exact hK' _ (by rw [yf0];exact if_pos rfl)
       refine Q9.p cEq yM [] (by kernel_rfl) (by kernel_rfl) (λxs W hw hd K hK'=>?_) ?_
       . simp only [Q5,Act.put,sb_,sz_,ss_]at hK'|-
         go_simp;exact hK' _ (by rw [yf1];exact if_pos rfl)
       refine Q9.p cEq yM [] (by kernel_rfl) (by kernel_rfl) (λxs W hw hd K hK'=>?_) ?_
       . simp only [Q5,Act.put,sb_,sz_,ss_]at hK'|-
         go_simp;exact hK' _ (by rw [yf2];exact if_pos rfl)
       refine Q9.p cEq yM [(1,some 39),(2,some 40)] (by kernel_rfl) (by kernel_rfl) (λxs W hw hd K hK'=>?_) ?_
       . simp only [Qd]at hd
         obtain⟨hf1,hf2,_⟩:=hd;simp only [Q5,Act.put,sb_,sz_,ss_]at hK'|-;rw [yf1]at hf1;rw [yf2]at hf2;simp only [hf1,hf2]at hK'|-;go_simp;exact hK' _ (by rw [yf3];exact if_pos rfl)
       refine Q9.p cEq yM [] (by kernel_rfl) (by kernel_rfl) (λxs W hw hd K hK'=>?_) ?_
       . simp only [Q5,Act.put,sb_,sz_,ss_]at hK'|-
         go_simp;exact hK' _ (by rw [yf4];exact if_pos rfl)
       refine Q9.p cEq yM [] (by kernel_rfl) (by kernel_rfl) (λxs W hw hd K hK'=>?_) ?_
       . simp only [Q5,Act.put,sb_,sz_,ss_]at hK'|-
         go_simp;exact hK' _ (by rw [yf5];exact if_pos rfl)
       refine Q9.p cEq yM [(4,some 42),(5,some 43)] (by kernel_rfl) (by kernel_rfl) (λxs W hw hd K hK'=>?_) ?_
       . simp only [Qd]at hd
         obtain⟨hf4,hf5,_⟩:=hd;simp only [Q5,Act.put,sb_,sz_,ss_]at hK'|-;rw [yf4]at hf4;rw [yf5]at hf5;simp only [hf4,hf5]at hK'|-;go_simp;exact hK' _ (by rw [yf6];exact if_pos rfl)
       refine Q9.c cEq [(3,some 41),(6,some 44),(10,none)] (by kernel_rfl) (λxs W hw hd K hK'=>?_) ?_
       . simp only [Qd]at hd
         obtain⟨hf3,hf6,hf10,_⟩:=hd;simp only [Q5,Act.put,sb_,sz_,ss_]at hK'|-;rw [yf3]at hf3;rw [yf6]at hf6;rw [yf10]at hf10;simp only [hf3,hf6]at hK'|-;rw [if_pos (by rfl)];refine Vf 2 (.tmp 41) (.tmp 44) 371 371 rfl 379 underlying371 Q0O G (k*2) (n-k) (n-k) ⟨G,0,none⟩ k n rfl rfl (Yq x k n).toArray 379 hf10 (Qy (List.replicate m x)) m HMM.out HLEN.out (HSRC W hf10) HFIT.out (Q2c m x) ?_;have hB:=HROW W hf10;have hR:=trivial;refine hK' (_) (_) (hw.trans (HSET W _) (λb hb h=>by have:=HGG.out;omega)) (QW yM 7 (by kernel_rfl) _ λj hs hy=>?_) (by rw [yf7];(try simp only [↓reduceIte]);try exact⟨rfl,hB⟩);by_cases hp:j∈[0,1,2,3,4,5,6,8,9]
         . exact yP j _ _ _ hp hy
         by_cases hj:11<=j
         . rw [yN j _ _ hj];trivial
         simp only [List.mem_cons,List.not_mem_nil,or_false]at hp;rcases(show j=7\/j=10 by omega)with rfl|rfl
         . exact(Qg hs (by kernel_rfl)).elim
         exact(Qg hs (by kernel_rfl)).elim
       refine Q9.p cEq yM [(0,some 38),(7,some 45)] (by kernel_rfl) (by kernel_rfl) (λxs W hw hd K hK'=>?_) ?_
       . simp only [Qd]at hd
         obtain⟨hf0,hf7,_⟩:=hd;simp only [Q5,Act.put,sb_,sz_,ss_]at hK'|-;rw [yf0]at hf0;rw [yf7]at hf7;simp only [hf0]at hK'|-;obtain⟨h7e,b7⟩:=hf7;simp only [h7e]at hK'|-;go_simp;exact hK' _ (by rw [yf8];exact if_pos rfl)
       refine Q9.p cEq yM [(8,some 46)] (by kernel_rfl) (by kernel_rfl) (λxs W hw hd K hK'=>?_) ?_
       . simp only [Qd]at hd
         obtain⟨hf8,_⟩:=hd;simp only [Q5,Act.put,sb_,sz_,ss_]at hK'|-;rw [yf8]at hf8;simp only [hf8]at hK'|-;go_simp;exact hK' _ (by rw [yf9];exact if_pos rfl)
       exact Q9.nil
     intro xs W hw hd;rw [cEq]at hw;simp only [YD]at hd;obtain⟨fe0,fe1,fe2,fe3,fe4,fe5,fe6,fe7,fe8,fe9,_⟩:=hd;have fe0:=fe0 (by kernel_rfl);rw [yf0]at fe0;have fe1:=fe1 (by kernel_rfl);rw [yf1]at fe1;have fe2:=fe2 (by kernel_rfl);rw [yf2]at fe2;have fe3:=fe3 (by kernel_rfl);rw [yf3]at fe3;have fe4:=fe4 (by kernel_rfl);rw [yf4]at fe4;have fe5:=fe5 (by kernel_rfl);rw [yf5]at fe5;have fe6:=fe6 (by kernel_rfl);rw [yf6]at fe6;have fe7:=fe7 (by kernel_rfl);rw [yf7]at fe7;have fe8:=fe8 (by kernel_rfl);rw [yf8]at fe8;have fe9:=fe9 (by kernel_rfl);rw [yf9]at fe9;simp only [Q5,Act.put,sb_,sz_,ss_];generalize xs 0=xv0 at *;generalize xs 1=xv1 at *;generalize xs 2=xv2 at *;generalize xs 3=xv3 at *;generalize xs 4=xv4 at *;generalize xs 5=xv5 at *;generalize xs 6=xv6 at *;generalize xs 7=xv7 at *;generalize xs 8=xv8 at *;generalize xs 9=xv9 at *;subst fe0;subst fe1;subst fe2;subst fe3;subst fe4;subst fe5;subst fe6;subst fe8;subst fe9;clear yf0 yf1 yf2 yf3 yf4 yf5 yf6 yf7 yf8 yf9 yf10 yN yR yM yP cEq;go_wp2_with fail;go_roundg (n-(k+m))
     case measure=>have:=HM.out;have:=HK.out;omega
     case rel=>exact⟨k+m,by have:=HM.out;omega,by have:=HM.out;omega,rfl,fe7.2,hw⟩
   (obtain rfl:k=n:=by omega);clear bk fk hk hk1 B3 F3;go_wp2_with fail;(try go_ret);refine hR.out _ _ ⟨G,rfl,?_,FK.out,by have:=HGG.out;omega⟩;have:=BK.out;simpa [Yq]using this
def Y9 (l:List Int) (i:Nat):List Nat:=(List.range l.length).filter λs=>decide ((Q6 l s).1=i+1)
def QH (l:List Int) (q:List Nat):List (Nat × Nat):=q.flatMap λs=>List.replicate (2^(Qe l-(Q6 l s).1)) (s,(Q6 l s).1)
theorem Zj (l:List Int) (p q:List Nat):QH l (p++q)=QH l p++QH l q:=List.flatMap_append
theorem XF {l:List Int} {n:Nat}:∀ {q:List Nat},(∀s∈q,(Q6 l s).1=n)->(QH l q).length=q.length*2^(Qe l-n)
 | [],_=>by simp [QH]
 | s::q,h=>by
   have ih:=XF (q:=q) λs hs=>h s (by simp [hs])
   have hs:=h s (by simp)
   unfold QH at ih|-
   rw [List.flatMap_cons,List.length_append,ih,List.length_replicate,hs,List.length_cons,Nat.add_mul]
   omega
theorem Q1O {l:List Int} (ht:Qc l) {n:Nat} (hn:n<Qe l):(QH l ((List.range n).flatMap (Y9 l))).length=Qs l (n+1)*2^(Qe l-(n+1)):=by
 have hm:=JK ht;have h1:=Q1b ht n (by omega);have h2:=VT l n (by omega);(have h3:(Qs l n+Qx l n)*2^(11-n)=(QD (l.filter λx=>decide (x<=(n:Int)))).toNat:=by rw [<-h2];rfl);rw [<-h3]at h1
 have e1:2^(11-n)=2^(11-Qe l)*(2*2^(Qe l-(n+1))):=by
   rw [show(2:Nat)*2^(Qe l-(n+1))=2^(Qe l-n) by rw [show Qe l-n=(Qe l-(n+1))+1 by omega,Nat.pow_succ];omega,<-Nat.pow_add]
   congr 1;omega
 rw [e1]at h1
 have h4:2^(11-Qe l)*(QH l ((List.range n).flatMap (Y9 l))).length=2^(11-Qe l)*(Qs l (n+1)*2^(Qe l-(n+1))):=by
   refine Eq.trans h1 ?_;rw [Qs,Nat.mul_left_comm,Nat.mul_assoc]
 exact Nat.eq_of_mul_eq_mul_left (Nat.two_pow_pos _) h4
theorem Ku {n m:Nat} (h:n<m):List.range m=List.range n++n::(List.range (m-n-1)).map (·+(n+1)):=by
 apply List.ext_getElem
 . simp;omega
 intro i h1 h2;simp at h1;rw [List.getElem_range];rcases Nat.lt_trichotomy i n with h3|h3|h3
 . rw [List.getElem_append_left (by simpa using h3)];simp
 . subst h3
   rw [List.getElem_append_right (by simp)];simp
 rw [List.getElem_append_right (by simp;omega)];simp only [List.length_range];obtain⟨k,hk⟩:∃k,i-n=k+1:=⟨i-n-1,by omega⟩;simp only [hk,List.getElem_cons_succ,List.getElem_map,List.getElem_range];omega
theorem Q0p {l:List Int} (ht:Qc l) (s i:Nat) (hs:s<=l.length):((List.range s).filter λs=>decide ((Q6 l s).1=i+1)).length=(l.take s).count ((i+1:Nat):Int):=by
 have e:(List.range s).filter (λs=>decide ((Q6 l s).1=i+1))=(List.range (l.take s).length).filter λx=>(λx:Int=>x == ((i+1:Nat):Int)) (((l.take s)[x]?).getD 0):=by
   rw [List.length_take,Nat.min_eq_left hs];apply List.filter_congr;intro x hx;rw [List.getElem?_take,if_pos (List.mem_range.1 hx),Zc ht,Bool.eq_iff_iff];simp only [decide_eq_true_eq,beq_iff_eq];omega
 rw [e];exact Q0N (l.take s) λx=>x == ((i+1:Nat):Int)
theorem Q8C {l:List Int} (ht:Qc l) {s j:Nat} (hs:s<l.length) (h0:0<(Q6 l s).1) (hj:j<2^(Qe l-(Q6 l s).1)) :
   (Z3 l)[(Q6 l s).2*2^(Qe l-(Q6 l s).1)+j]?=some (s,(Q6 l s).1):=by
 obtain⟨n,hn⟩:∃n,(Q6 l s).1=n+1:=⟨(Q6 l s).1-1,by omega⟩;have hle:=Zr ht s;have hm:=JK ht;have e0:Z3 l=QH l ((List.range 11).flatMap (Y9 l)):=rfl
 have e1:(List.range 11).flatMap (Y9 l)=(List.range n).flatMap (Y9 l)++(Y9 l n++((List.range (11-n-1)).map (·+(n+1))).flatMap (Y9 l)):=by
   rw [Ku (show n<11 by omega),List.flatMap_append,List.flatMap_cons]
 obtain⟨Q,hQ⟩:∃Q,Y9 l n=((List.range s).filter λs=>decide ((Q6 l s).1=n+1))++s::Q:=by
   refine⟨((List.range (l.length-s-1)).map (·+(s+1))).filter λs=>decide ((Q6 l s).1=n+1),?_⟩;unfold Y9;rw [Ku hs,List.filter_append,List.filter_cons,if_pos (by simpa using hn)]
 rw [hQ]at e1
 have e2:Z3 l=(QH l ((List.range n).flatMap (Y9 l))++QH l ((List.range s).filter λs=>decide ((Q6 l s).1=n+1)))++(List.replicate (2^(Qe l-(Q6 l s).1)) (s,(Q6 l s).1)++(QH l Q++QH l (((List.range (11-n-1)).map (·+(n+1))).flatMap (Y9 l)))):=by
   rw [e0,e1];have this:∀R,QH l (s::R)=List.replicate (2^(Qe l-(Q6 l s).1)) (s,(Q6 l s).1)++QH l R:=λR=>rfl;simp only [Zj,this,List.append_assoc]
 have hlen:(QH l ((List.range n).flatMap (Y9 l))++QH l ((List.range s).filter λs=>decide ((Q6 l s).1=n+1))).length=(Q6 l s).2*2^(Qe l-(Q6 l s).1):=by
   rw [List.length_append,Q1O ht (by omega),XF (n:=n+1) (λs hs=>by simpa using(List.mem_filter.1 hs).2),Q0p ht s n (by omega),hn,<-Nat.add_mul]
   congr 1
   have hc:=Zc ht s;rw [hn]at hc;(have hpos:0<(l[s]?).getD 0:=by omega);unfold Q6;rw [if_pos hpos];simp only;rw [show(l[s]?).getD 0=((n+1:Nat):Int) by omega];rfl
 rw [e2,List.getElem?_append_right (by rw [hlen];omega),hlen,Nat.add_sub_cancel_left,List.getElem?_append_left (by simpa using hj),List.getElem?_replicate,if_pos hj]
def Zd (l:List Int) (bs:List Nat):List Bool:=(bs.reverse.map λc=>Qr (Q6 l c).1 (Q6 l c).2).flatten
theorem Q8D (l:List Int) (c:Nat) (bs:List Nat):Zd l (c::bs)=Zd l bs++Qr (Q6 l c).1 (Q6 l c).2:=by simp [Zd]
theorem Q0E (l:List Int):∀bs:List Nat,(Zd l bs).length=(bs.map λc=>(Q6 l c).1).sum
 | []=>rfl
 | c::bs=>by
   rw [Q8D,List.length_append,Q0E l bs,List.map_cons,List.sum_cons]
   have:(Qr (Q6 l c).1 (Q6 l c).2).length=(Q6 l c).1:=by simp
   omega
section
variable {P:Program} (w:World)
theorem Q1P {ops:Array Oper} {rest:List Oper} {o:Oper} {a:Act} {Q:Exit->Act->World->Prop} (hgd:o.guard=none) (s x:Operand) (t:TypeId)
   (ho:o.op = .call { callee:=.builtin .append,args:=#[s,x],argTypes:=#[t,t] }) (e:TypeId) (z:Value) (k Q2:Nat) (ht:P.underlying t=some (.slice e)) (hi:(P.info? e).map (λi=>(i.zero,i.size,i.bytes))=some (some z,k,Q2)) (hzs:z.cells.size=k) (hk:0<k) (hby:Q2<=1024)
   (v:Value) (rows:List (List Value)) (hs:a.eval s=v) (hown:QS w e k v rows) (kb m cap:Nat) (news:List (List Value)) (hnews:∀r∈news,r.length=k) (hm:news.length=m) (hm0:0<m) (h1:∀u∈news.flatten,u.oneCell'=true) (hx:a.eval x = .slice (some ⟨kb,0,none⟩) m cap) (hb:Blk w kb e news.flatten.toArray) (hlen:rows.length+m<=2^30)
   (h:∀g cap w',QS w' e k (.slice (some ⟨g,0,none⟩) (rows.length+m) cap) (rows++news)->w.grownBy w' v.ownBlock->(v.ownBlock=some g\/g=w.heap.size)->g<w'.heap.size->wpList P ops Q rest (a.put o.dst (.slice (some ⟨g,0,none⟩) (rows.length+m) cap)) w') :
   wpList P ops Q (o::rest) a w:=by
 obtain⟨i,hi0,hz,hsize,hbyt⟩:=info_parts hi
 have hcells:∀(j:Nat) u,news.flatten[j]?=some u->w.cell? ((⟨kb,0,none⟩:Addr).add j)=some u:=by
   intro j u hu;rw [Addr.add_lit,hb.cells j u (by simpa using hu)]
 have hmul:(rows.length+m)*Q2<=140737488355328:=Nat.le_trans (Nat.mul_le_mul hlen hby) (by decide);refine wpList_append_lies w hgd s x _ ho 0 e i z k Q2 ht hi0 hz hsize hbyt hzs hk v rows.length _ hs hown.1 ⟨kb,0,none⟩ m cap news.flatten hx (by rw [Kt hnews,hm]) hcells h1 hm0 (by simp only [maxLen];omega) hmul (Nat.zero_le _) _ rfl ?_;intro g cap w' h2 h3 h4 h5;refine h g cap w' ⟨?_,?_⟩ h3 h4 h5
 . rw [List.flatten_append,List.length_append,hm]
   exact h2
 intro r hr;rcases List.mem_append.1 hr with hr|hr
 . exact hown.2 r hr
 exact hnews r hr
end
theorem Q57 (b n c:Nat) (w:World) (h:∀k,k<n->w.cell? ⟨b,k,none⟩=some (.int .i64 0)) (hn:n<=8):Calls prog 318 #[.slice (some ⟨b,0,none⟩) n c] w λe w'=>e = .returned (.int .i64 0)/\w'=w:=by
 have HH:=hd_ h;(have hnI:(n:Int)<=8:=by omega);clear h;refine Q8 λR hR=>?_;go_enter func318,ntmps318;go_wp2_with fail;go_loopg [7] n (λf vi wr=>∃k:Nat,k+f=n/\vi = .int .i64 k/\wr=w)
 case atStart=>exact⟨0,by omega,rfl,rfl⟩
 case round =>
   obtain⟨k,hk,rfl,rfl⟩:=hrel;have HK:=hd_ hk;by_cases hlt:k<n
   . have hlI:(k:Int)<n:=by omega
     (have hk0:0<=(k:Int):=by omega);have c0:=HH k hlt;clear hk;go_wp2_with fail;go_roundg (gk-1)
     case measure=>have:=HK.out;omega
     case rel=>exact⟨k+1,by have:=HK.out;omega,by go_num,rfl⟩
   (have hlI:¬(k:Int)<n:=by omega);clear hk;go_wp2_with fail;(try go_ret);exact hR _ _ ⟨rfl,rfl⟩
theorem Q4Z (t s L B:Nat) (w:World) (h:w.cell? ⟨t,0,none⟩=some (.int .i64 (B:Nat))) (hLB:L<=B) (hB:B<=11) :
   Calls prog 325 #[.agg #[.int .i64 (s:Nat),.int .i64 (L:Nat)],.pointer (some ⟨t,0,none⟩)] w λe w'=>e = .returned (.tuple #[.int .i64 ((2^(B-L):Nat):Int),.agg #[.int .i64 (s:Nat),.int .i64 (L:Nat)]])/\Q0 w w':=by
 obtain⟨d,hd⟩:∃d,B=L+d:=⟨B-L,by omega⟩;subst hd;(have hsub:IntKind.i64.wrap (((L+d:Nat):Int)-L)=(d:Nat):=by rw [IntWalk.i64_in _ (by omega)];omega);(have e1:L+d-L=d:=by omega);rw [e1];(have hd11:d<=11:=by omega);(have hp:(2:Int)^d=((2^d:Nat):Int):=by simp);have hpl:2^d<=2048:=Nat.pow_le_pow_right (n:=2) (by decide) hd11;(have hw2:wrap64 ((2:Int)^d)=((2^d:Nat):Int):=by rw [hp];generalize 2^d=q at *;unfold wrap64;omega);obtain⟨w0,H,hw0,hH,f0,b0,b1⟩:=Jw w 379 #[.int .i64 (s:Nat),.int .i64 (L:Nat)] 379 #[.int .i64 0,.int .i64 0]
 have hc:w0.cell? ⟨t,0,none⟩=some (.int .i64 ((L+d:Nat):Int)):=by
   have hlt:t<w.heap.size:=by
     rcases Nat.lt_or_ge t w.heap.size with h1|h1
     . exact h1
     simp [World.cell?,Array.getElem?_eq_none h1]at h
   rw [Q0.cells f0 t 0 hlt];exact h
 have c0:=b0.cell 0;have c1:=b0.cell 1;have c2:=b1.cell 0;have c3:=b1.cell 1;have z2:=b1.frozen 0;have z3:=b1.frozen 1;simp at c0 c1 c2 c3;have HW:=hd_ hw0;have HH:=hd_ hH;have F0:=hd_ f0;have B1:=hd_ b1;obtain⟨B,hBd⟩:=nm_ (L+d);rw [<-hBd]at hsub hc;(have hsz:(w.alloc (.cells #[.int .i64 (s:Nat),.int .i64 (L:Nat)] 379)).heap.size=H+1:=by simp [hH]);clear hw0 hH f0 b0 b1 h hLB hB e1 hp hpl hBd;refine Q8 λR hR=>?_;go_enter func325,ntmps325;go_upto_region 1 with fail;simp only [hsz,<-HH.out,<-HW.out];clear hsz;refine QJ 7 (by kernel_rfl) (by kernel_rfl) ?_;simp only [List.take_succ_cons,List.take_zero,List.drop_succ_cons,List.drop_zero];(repeat(first|go_big_quiet_step (fail)|quiet_step (fail)));refine wpQuiet_nil ?_;rintro w5 ⟨q5,rfl⟩;have HW2:=hd_ hw2;clear hw2;go_wp2_with fail;have b5:=((B1.drewN q5).set_ 0 (.int .i64 (s:Nat))).set_ 1 (.int .i64 (L:Nat));obtain⟨d0,d1⟩:=(b5).cells2;refine⟨rfl,.tuple #[.int .i64 (wrap64 (2^d)),.agg #[.int .i64 (s:Nat),.int .i64 (L:Nat)]],?_,hR _ _ ⟨by rw [HW2.out],?_⟩⟩
 . simp [results,results325,go_sem,d0,d1]
 exact((F0.drewN q5).setCell (p:=⟨H+1,0,none⟩) (λh=>by have:=HH.out;simp at h;omega) _).setCell (p:=⟨H+1,1,none⟩) (λh=>by have:=HH.out;simp at h;omega) _
theorem Q6K (l:List Int) (p:List Nat) (s:Nat):QH l (p++[s])=QH l p++List.replicate (2^(Qe l-(Q6 l s).1)) (s,(Q6 l s).1):=by
 rw [Zj];simp [QH]
theorem Q3f (l:List Int) (L:List Nat) (k:Nat):(QH l (L.take k)).length<=(QH l L).length:=by
 (have:QH l L=QH l (L.take k)++QH l (L.drop k):=by rw [<-Zj,List.take_append_drop]);rw [this,List.length_append];omega
theorem Q7q (F:Nat->Prop) (on c t:Nat) (A:Option Addr) (l:List Int) (L:List Nat) (w:World) (hr:RdK w F 2 A on (L.map λs=>en2 (s,(Q6 l s).1))) (ht:w.cell? ⟨t,0,none⟩=some (.int .i64 (Qe l:Nat))) (htl:t<w.heap.size) (hok:Qc l) (hlen:(QH l L).length<=2048) (hon:on<=4096) :
   Calls prog 324 #[.slice A on c,.func (.func 325) #[] #[.pointer (some ⟨t,0,none⟩)]] w λe w' =>
     ∃v,e = .returned v/\QS w' 379 2 v ((QH l L).map en2)/\(∀b,v.ownBlock=some b->w.heap.size<=b)/\Q0 w w':=by
 (have hL:L.length=on:=by have:=hr.1;simpa using this);have HR:=hd_ (λW (hW:Q0 w W)=>hr.fresh hW);have HT:=hd_ (λW (hW:Q0 w W)=>(Q0.cells hW t 0 htl).trans ht);have HOK:=hd_ hok;have HLEN:=hd_ hlen;have HL:=hd_ hL;(have hnI:(on:Int)<=4096:=by omega);clear hr ht htl hok hlen hon hL;refine Q8 λR hR=>?_;go_enter func324,ntmps324;go_wp2_with fail;go_loopg [4,11] on (λf vo vi wr=>∃k:Nat,k+f=on/\vi = .int .i64 k/\QS wr 379 2 vo ((QH l (L.take k)).map en2)/\(∀b,vo.ownBlock=some b->w.heap.size<=b)/\Q0 w wr)
 case atStart=>exact⟨0,by omega,rfl,by simpa [QH]using QS.nil w _ _,λb hb=>by simp [Value.ownBlock]at hb,Upd.refl _ _⟩
 case round =>
   obtain⟨k,hk,rfl,ov,hv,fr⟩:=hrel;have HK:=hd_ hk;by_cases hlt:k<on
   . have hlI:(k:Int)<on:=by omega
     (have hk0:0<=(k:Int):=by omega);(have hkL:k<L.length:=by rw [HL.out];exact hlt);obtain⟨s,hs⟩:=nm_ (L[k]);obtain⟨b,o,rfl,_,hbl,hc9⟩:=(HR wr fr).at_ (r:=0) hlt;(have hrow:(L.map λs=>en2 (s,(Q6 l s).1))[k]'(by simpa using hkL)=en2 (s,(Q6 l s).1):=by simp [hs]);have c0:=hc9 0 (by omega);have c1:=hc9 1 (by omega);rw [hrow]at c0 c1;have hsn:=Q6K l (L.take k) s;(have htk:L.take (k+1)=L.take k++[s]:=by rw [List.take_succ_eq_append_getElem hkL,<-hs]);rw [<-htk]at hsn;have hle:=Zr HOK.out s;have hm:=JK HOK.out;have hbd:=Q3f l L (k+1);obtain⟨la,hla⟩:=nm_ ((Q6 l s).1);obtain⟨E,hE⟩:=nm_ (QH l (L.take k));rw [<-hE]at ov hsn;rw [<-hla]at hsn hle;simp only [en2,<-hla,List.getElem?_cons_zero,List.getElem?_cons_succ]at c0 c1;simp at c0 c1;obtain⟨M,hM⟩:=nm_ (2^(Qe l-la));(have hM0:0<M:=by rw [hM];exact Nat.two_pow_pos _);(have hM2:M<=2048:=by rw [hM];exact Nat.pow_le_pow_right (n:=2) (by decide) (show Qe l-la<=11 by omega));have HEN:=hd_ (λW (hW:Q0 w W)=>Q4Z t s la (Qe l) W (HT W hW) hle hm);rw [<-hM]at hsn HEN;have HBD:=hd_ (show E.length+M<=2048 by have h1:=HLEN.out;rw [hsn]at hbd;simp at hbd;omega);have HSN:=hd_ hsn;have HMM:=hd_ (And.intro hM0 hM2);have OV:=hd_ ov;have HV:=hd_ hv;have FR:=hd_ fr;obtain⟨A3,n3,c3,rfl,hn3⟩:=ov.form';clear hc9 hrow hs hsn htk hle hm hbd hla hE hM hM0 hM2 ov hv fr hk hbl hkL hn3;go_wp2_with fail;refine(HEN _ (FR.alloc _)).mono ?_;rintro e w3 ⟨rfl,f3⟩;have F3:=hd_ (((Upd.refl (λ_=>False) wr).alloc _).trans' f3);clear f3 HEN;go_wp2_with fail;obtain⟨Q,hQ⟩:=nm_ (w3.heap.size);obtain⟨w4,hw4⟩:=nm_ ((w3.alloc (.cells #[.int .i64 (s:Nat),.int .i64 (la:Nat)] 379)).alloc (.cells #[.int .i64 (s:Nat),.int .i64 (la:Nat)] 379));simp only [<-hQ,<-hw4];(have b4:Blk w4 (Q+1) 379 (Qy [(s,la)]).toArray:=by rw [hw4];exact Qb (by simp [hQ]) _ _);(have f4:Q0 w3 w4:=by rw [hw4];exact((Upd.refl _ _).alloc _).alloc _);have HSR:=hd_ (Q8B (Q+1) 1 M (s,la) w4 b4 HMM.1 HMM.2);have F4:=hd_ (F3.trans' f4);clear hQ hw4 b4 f4 F3;refine HSR.mono ?_;rintro e w5 ⟨g,rfl,bg,f5,hg⟩;have F5:=hd_ (F4.trans' f5);have BG:=hd_ bg;clear bg f5 hg HSR F4;go_wp2_with (at_builtin;go_must (refine Q1P _ rfl (.tmp 21) (.tmp 25) _ rfl 379 _ 2 16 underlying371 XV rfl (by decide) (by decide) (.slice A3 n3 c3) (E.map en2) rfl (OV.fresh F5.out) g M M ((List.replicate M (s,la)).map en2) (Q2b _) (by simp) HMM.1 (Q2c M (s,la)) rfl BG.out (by have:=HBD.out;simp;omega) ?_));intro g6 cap6 w6 o6 gr6 a6 h6;have u6:Upd (λb=>(Value.slice A3 n3 c3).ownBlock=some b) wr w6:=(F5.mono (λ_ _ h=>h.elim)).grown gr6 (λk hk _=>hk);have O6:=hd_ o6;have FR6:=hd_ (FR.trans u6 (λb hb h=>by have:=HV b h;omega))
     have HV6:=hd_ (show ∀b,(Value.slice (some ⟨g6,0,none⟩) ((E.map en2).length+M) cap6).ownBlock=some b->w.heap.size<=b from λb hb=>by
       (have e:g6=b:=by simpa [Value.ownBlock]using hb);subst e;rcases a6 with h|h
       . exact HV _ h
       have:=FR.size;have:=F5.size;omega)
     clear o6 gr6 a6 h6 u6 BG;obtain⟨LN,hLN⟩:=nm_ ((E.map en2).length+M);simp only [<-hLN]at O6 HV6|-;clear hLN;go_wp2_with fail;go_roundg (gk-1)
     case measure=>have:=HK.out;omega
     case rel=>exact⟨k+1,by have:=HK.out;omega,by go_num,by rw [HSN.out,List.map_append,List.map_replicate];exact O6.out,HV6.out,FR6.out⟩
   (obtain rfl:k=on:=by omega);rw [List.take_of_length_le (by rw [HL.out];exact Nat.le_refl _)]at ov;have OV:=hd_ ov;have HV:=hd_ hv;have FR:=hd_ fr;clear ov hv fr hk;go_wp2_with fail;(try go_ret);exact hR _ _ ⟨_,rfl,OV.out,HV.out,FR.out⟩
theorem Q2Y {l:List Int} {k:Nat} (h:k<l.length) (hb:¬(0<=l[k]/\l[k]<=11)):¬Qc l:=λht=>hb (ht.1 _ (List.getElem_mem h))
theorem Q6L (F:Nat->Prop) (A:Option Addr) (n c:Nat) (l:List Int) (w:World) (hr:Rd w F A n (Q7 l)) (hn:n<=2^40) :
   Calls prog 242 #[.slice A n c] w λe w'=>e = .returned (.bool (decide (Qc l)))/\w'=w:=by
 (have hL:l.length=n:=by have:=hr.1;simpa using this);(have hnI:(n:Int)<=1099511627776:=by(have:(2:Nat)^40=1099511627776:=by decide);omega);have HR:=hd_ hr;have HL:=hd_ hL;clear hr hL hn;refine Q8 λR hR=>?_;go_enter func242,ntmps242;go_wp2_with fail;go_loopg [3,4,9] n (λf vs vm vi wr=>wr=w/\∃k:Nat,k+f=n/\vi = .int .i64 k/\vs = .int .i64 (QD (l.take k))/\vm = .int .i64 (YH (l.take k):Nat)/\∀x∈l.take k,0<=x/\x<=11)
 case atStart=>exact⟨rfl,0,by omega,rfl,by simp [QD],by simp [YH],by simp⟩
 case round =>
   obtain⟨rfl,k,hk,rfl,rfl,rfl,hall⟩:=hrel;have HK:=hd_ hk;have HA:=hd_ hall;have hk1:=VI (l.take k);have hk2:=ZE (l.take k);have hk3:=List.length_take_le k l;(have hkI:(k:Int)<=1099511627776:=by omega);by_cases hlt:k<n
   . have hlI:(k:Int)<n:=by omega
     obtain⟨b,o,hkl,rfl,_,hc⟩:=HR.int (k:=k) hlt;have HKT:=hd_ (Q0L hkl);have HUT:=hd_ (Q1I hkl);have HNO:=hd_ (Q2Y hkl);have HTK:=hd_ (show l.take (k+1)=l.take k++[l[k]]from List.take_succ_eq_append_getElem hkl);obtain⟨z,hz⟩:=nm_ (l[k]);simp only [<-hz]at hc HKT HUT HNO HTK;obtain⟨S,hS⟩:=nm_ (QD (l.take k));obtain⟨M,hM⟩:=nm_ (YH (l.take k));simp only [<-hS,<-hM]at HKT HUT hk1 hk2|-;(have hSI:0<=S/\S<=2251799813685248:=by omega);(have hMI:(M:Int)<=1099511627776:=by omega);clear hz hS hM hk hall hk1 hk2 hk3;by_cases h0:z<0
     . have hd:decide (Qc l)=false:=decide_eq_false (HNO (by omega))
       rw [hd]at hR;clear hd;go_wp2_with fail;(try go_ret);exact hR _ _ ⟨rfl,rfl⟩
     by_cases h11:11<z
     . have hd:decide (Qc l)=false:=decide_eq_false (HNO (by omega))
       rw [hd]at hR;clear hd;go_wp2_with fail;(try go_ret);exact hR _ _ ⟨rfl,rfl⟩
     have HZ:=hd_ (And.intro h0 h11);by_cases hp:0<z
     . obtain⟨q,rfl⟩:∃q:Nat,z=q:=⟨z.toNat,by omega⟩
       (have hpk:Zb (q:Int)=((2^(11-q):Nat):Int):=by unfold Zb;rw [if_pos hp,Int.toNat_natCast];simp);(have hq11:q<=11:=by omega);have hP:2^(11-q)<=2048:=Nat.pow_le_pow_right (n:=2) (by decide) (show 11-q<=11 by omega);rw [hpk]at HKT;rw [if_pos hp]at HUT;(have h2p:((2:Int)^(11-q))=((2^(11-q):Nat):Int):=by simp)
       have hW:wrap64 (S+wrap64 ((2:Int)^(11-q)))=S+((2^(11-q):Nat):Int):=by
         rw [h2p];generalize 2^(11-q)=P at *;unfold wrap64;omega
       have HWW:=hd_ hW;clear hpk h2p hW hP;go_wp2_with fail;go_roundg (gk-1)
       case measure=>have:=HK.out;omega
       case rel=>exact⟨rfl,k+1,by have:=HK.out;omega,by go_num,by rw [HWW.out,HKT.out],by rw [HUT.out];simp,by rw [HTK.out];intro x hx;rcases List.mem_append.1 hx with h|h;exact HA x h;rw [List.mem_singleton.1 h];omega⟩
     (have hz0:z=0:=by omega);subst hz0;rw [show Zb 0=0 from rfl,Int.add_zero]at HKT;rw [if_neg (by omega),Nat.add_zero]at HUT;clear h0 h11 hp;go_wp2_with fail;go_roundg (gk-1)
     case measure=>have:=HK.out;omega
     case rel=>exact⟨rfl,k+1,by have:=HK.out;omega,by go_num,by rw [HKT.out],by rw [HUT.out];simp,by rw [HTK.out];intro x hx;rcases List.mem_append.1 hx with h|h;exact HA x h;rw [List.mem_singleton.1 h];omega⟩
   (obtain rfl:k=n:=by omega);have htl:l.take k=l:=List.take_of_length_le (by have:=HL.out;omega);rw [htl]at hall|-
   have hdt:decide (Qc l)=(decide (k<=256)&&(decide (1<YH l)&&decide (QD l=2048))):=by
     rw [Bool.eq_iff_iff];simp only [decide_eq_true_eq,Bool.and_eq_true];have:=HL.out;unfold Qc;constructor
     . rintro⟨-,h2,h3,h4⟩;exact⟨by omega,h3,h4⟩
     rintro⟨h2,h3,h4⟩;exact⟨hall,by omega,h3,h4⟩
   rw [hdt]at hR;obtain⟨S,hS⟩:=nm_ (QD l);obtain⟨M,hM⟩:=nm_ (YH l);simp only [<-hS,<-hM]at hR|-;clear hk1 hk2 hk3 hall HA hdt hS hM htl hk hlt HK;by_cases h1:k<=256
   . rw [decide_eq_true h1]at hR
     (have h1I:(k:Int)<=256:=by omega);by_cases h2:1<M
     . rw [decide_eq_true h2]at hR
       (have h2I:1<(M:Int):=by omega);by_cases h3:S=2048
       . rw [decide_eq_true h3]at hR
         subst h3;go_wp2_with fail;(try go_ret);exact hR _ _ ⟨rfl,rfl⟩
       rw [decide_eq_false h3]at hR;(have h3b:(S == 2048)=false:=by simpa using h3);go_wp2_with fail;(try go_ret);exact hR _ _ ⟨rfl,rfl⟩
     rw [decide_eq_false h2]at hR;(have h2I:¬1<(M:Int):=by omega);go_wp2_with fail;(try go_ret);exact hR _ _ ⟨rfl,rfl⟩
   rw [decide_eq_false h1]at hR;(have h1I:¬(k:Int)<=256:=by omega);go_wp2_with fail;(try go_ret);exact hR _ _ ⟨rfl,rfl⟩
theorem Q6M (b c:Nat) (v:Bool) (w:World) (h:w.cell? ⟨b,0,none⟩=some (.bool v)):Calls prog 239 #[.slice (some ⟨b,0,none⟩) 1 c,.bool false] w λe w'=>e = .returned (.int .i64 (if v then -1 else 0))/\w'=w:=by
 refine Q8 λR hR=>?_;go_enter func239,ntmps239;go_wp2_with fail;go_loopg [8] 1 (λf vi wr=>∃k:Nat,k+f=1/\vi = .int .i64 k/\wr=w/\(k=1->v=true))
 case atStart=>exact⟨0,rfl,rfl,rfl,λh=>by omega⟩
 case round =>
   obtain⟨k,hk,rfl,rfl,hv⟩:=hrel;rcases(show k=0\/k=1 by omega)with rfl|rfl
   . clear hv
     cases v with
     | true =>
       go_wp2_with fail;go_roundg 0
       case measure=>omega
       case rel=>exact⟨1,rfl,by go_num,rfl,λ_=>by trivial⟩
     | false =>
       go_wp2_with fail;(try go_ret);exact hR _ _ ⟨rfl,rfl⟩
   obtain rfl:=hv rfl;go_wp2_with fail;(try go_ret);exact hR _ _ ⟨rfl,rfl⟩
theorem Q2Z (b c:Nat) (v:Bool) (w:World) (h:w.cell? ⟨b,0,none⟩=some (.bool v)):Calls prog 187 #[.slice (some ⟨b,0,none⟩) 1 c,.bool false] w λe w'=>e = .returned (.bool (!v))/\w'=w:=by
 have HI:=hd_ (Q6M b c v w h);clear h;refine Q8 λR hR=>?_;go_enter func187,ntmps187;go_wp2_with fail;refine HI.mono ?_;rintro e w1 ⟨rfl,rfl⟩;clear HI;cases v
 . go_wp2_with fail
   (try go_ret);exact hR _ _ ⟨rfl,rfl⟩
 go_wp2_with fail;(try go_ret);exact hR _ _ ⟨rfl,rfl⟩
theorem Q9Y (er:Int) (b c:Nat) (w:World) (h:w.cell? ⟨b,0,none⟩=some (.bool true)):Calls prog 241 #[.int .i64 er,.slice (some ⟨b,0,none⟩) 1 c] w λe w'=>e = .returned (.tuple #[])/\w'=w:=by
 have HI:=hd_ (Q2Z b c true w h);clear h;refine Q8 λR hR=>?_;go_enter func241,ntmps241;go_wp2_with fail;refine HI.mono ?_;rintro e w1 ⟨rfl,rfl⟩;go_wp2_with fail;(try go_end0);exact hR _ _ ⟨rfl,rfl⟩
theorem Q9Z (er:Int) (b c:Nat) (w:World) (h:w.cell? ⟨b,0,none⟩=some (.bool false)):Calls prog 241 #[.int .i64 er,.slice (some ⟨b,0,none⟩) 1 c] w λe w'=>e=Qa er/\w'=w:=by
 have HI:=hd_ (Q2Z b c false w h);clear h;refine Q8 λR hR=>?_;go_enter func241,ntmps241;go_wp2_with fail;refine HI.mono ?_;rintro e w1 ⟨rfl,rfl⟩;go_wp2_with fail;exact⟨rfl,hR _ _ ⟨rfl,rfl⟩⟩
theorem Q2e (F:Nat->Prop) (A:Option Addr) (n c:Nat) (l:List Int) (w:World) (hr:Rd w F A n (Q7 l)) (hn:n<=2^40) (hc:n<=c) :
   Calls prog 195 #[.slice A n c] w λe w'=>e=(if Qc l then .returned (.agg #[.slice A n n])else Qa 12)/\Q0 w w':=by
 obtain⟨w0,H,hw0,hH,f0,bt⟩:=al_ w 243 #[.slice none 0 0];have HRT:=hd_ (Q6L F A n c l w0 (hr.fresh f0) hn);have HMO:=hd_ Q9Y;have HMN:=hd_ Q9Z;have BT:=hd_ bt;have F0:=hd_ f0;have HW:=hd_ hw0;have HH:=hd_ hH;(have hcI:(n:Int)<=c:=by omega);clear hr hn hw0 hH f0 bt;refine Q8 λR hR=>?_;go_enter func195,ntmps195;go_upto_region 1 with fail;simp only [<-HH.out,<-HW.out];by_cases ht:Qc l
 . rw [decide_eq_true ht]at HRT
   rw [if_pos ht]at hR;clear ht;go_wp2_with fail;refine HRT.mono ?_;rintro e w1 ⟨rfl,rfl⟩;go_wp2_with fail;refine(HMO _ _ _ _ ((Blk.new w1 4 #[.bool true]).cell 0)).mono ?_;rintro e w2 ⟨rfl,rfl⟩;have b2:=BT.alloc (.cells #[.bool true] 4);have c0:=b2.cell 0;have z0:=b2.frozen 0;simp at c0;go_wp2_with fail;have b3:=b2.set_ 0 (.slice A n n);simp at b3;refine bodyPost_ret (v:=.agg #[.slice A n n]) (results_cell_row rfl _ _ H 243 _ _ _ rfl b3 underlying243 rfl (by kernel_rfl)) rfl ?_;exact hR _ _ ⟨rfl,(F0.alloc _).trans ((Upd.refl (λb=>b=H) _).setCell (p:=⟨H,0,none⟩) (λ_=>rfl) _) (λb hb e=>by have:=HH.out;omega)⟩
 rw [decide_eq_false ht]at HRT;rw [if_neg ht]at hR;clear ht;go_wp2_with fail;refine HRT.mono ?_;rintro e w1 ⟨rfl,rfl⟩;go_wp2_with fail;refine(HMN _ _ _ _ ((Blk.new w1 4 #[.bool false]).cell 0)).mono ?_;rintro e w2 ⟨rfl,rfl⟩;simp only [Qa];exact⟨rfl,hR _ _ ⟨rfl,F0.alloc _⟩⟩
theorem Q8E (F:Nat->Prop) (A:Option Addr) (n c:Nat) (l:List Int) (w:World) (hr:Rd w F A n (Q7 l)) (ht:Qc l) :
   Calls prog 286 #[.slice A n c] w λe w'=>e = .returned (.agg (QF (Qx l)))/\Q0 w w':=by
 obtain⟨w0,hw0⟩:=nm_ (w.alloc (.cells (QF λ_=>0) 292));obtain⟨H,hH⟩:=nm_ (w.heap.size);(have f0:Q0 w w0:=by rw [hw0];exact(Upd.refl _ _).alloc _);(have bt:Blk w0 H 292 (QF λ_=>0):=by rw [hw0];exact Qb hH _ _);(have hL:l.length=n:=by have:=hr.1;simpa using this);(have hn:n<=256:=by have:=ht.2.1;omega);(have hnI:(n:Int)<=256:=by omega)
 have HR:=hd_ (show ∀W,Upd (λb=>b=H) w0 W->∀k,k<n->∃(b o:Nat) (hk':k<l.length),A=some ⟨b,o,none⟩/\b<W.heap.size/\W.cell? ⟨b,o+k,none⟩=some (.int .i64 l[k])from λW hu k hk =>
   ((hr.both.fresh f0).upd hu (λb _ hb e=>by have:=hb.2;omega)).int hk)
 have HT:=hd_ (λk (hk:k<l.length)=>ht.1 _ (List.getElem_mem hk));(have hzero:QF (λ_=>0)=QF (Qx (l.take 0)):=YX λi _=>by simp [Qx]);rw [hzero]at bt;(have hw0':w.alloc (.cells #[.int .u32 0,.int .u32 0,.int .u32 0,.int .u32 0,.int .u32 0,.int .u32 0,.int .u32 0,.int .u32 0,.int .u32 0,.int .u32 0,.int .u32 0,.int .u32 0] 292)=w0:=by rw [hw0];rfl);have BT:=hd_ bt;have F0:=hd_ f0;have HW:=hd_ hw0';have HH:=hd_ hH;have HL:=hd_ hL;clear hr ht hw0 hw0' hH f0 bt hL hzero hn;refine Q8 λR hR=>?_;go_enter func286,ntmps286;go_upto_region 1 with fail;simp only [<-HH.out,HW.out];go_wp2_with fail;go_loopg [7] n (λf vi wr=>∃k,k+f=n/\vi = .int .i64 k/\Blk wr H 292 (QF (Qx (l.take k)))/\Upd (λb=>b=H) w0 wr)
 case atStart=>exact⟨0,by omega,rfl,BT.out,Upd.refl _ _⟩
 case round =>
   obtain⟨k,hk,rfl,bb,ur⟩:=hrel;have HK:=hd_ hk;have BB:=hd_ bb;have UR:=hd_ ur;by_cases hlt:k<n
   . have hlI:(k:Int)<n:=by omega
     obtain⟨b,o,hkl,rfl,_,hc⟩:=HR _ ur k hlt;have hz:=HT k hkl;have HMT:=hd_ (λi=>Q1K hkl i);obtain⟨z,hzd⟩:=nm_ (l[k]);simp only [<-hzd]at hc hz HMT;clear hzd hk;by_cases hp:0<z
     . obtain⟨q,rfl⟩:∃q:Nat,z=q:=⟨z.toNat,by omega⟩
       (have hq:q<12:=by omega);(have hqI:(q:Int)<12:=by omega);(have hq0:0<=(q:Int):=by omega);have hcell:=(bb.cell q).trans (ZL _ hq);have hfz:=bb.frozen q;have hml:=XD (l.take k) q;have hlen:=List.length_take_le k l;have bs:=bb.set_ q (.int .u32 ((Qx (l.take k) q+1:Nat):Int));rw [Q0n _ _ hq]at bs
       have hcg:QF (λi=>if i=q then Qx (l.take k) q+1 else Qx (l.take k) i)=QF (Qx (l.take (k+1))):=YX λi hi=>by
         rw [HMT.out i];by_cases hiq:i=q
         . subst hiq
           rw [if_pos rfl,if_pos ⟨by omega,rfl⟩]
         rw [if_neg hiq,if_neg (λh=>hiq (by omega))];rfl
       rw [hcg]at bs;have HBS:=hd_ bs;have HUS:=hd_ (UR.setCell (p:=⟨H,q,none⟩) (λ_=>rfl) (.int .u32 ((Qx (l.take k) q+1:Nat):Int)));obtain⟨M,hM⟩:=nm_ (Qx (l.take k) q);simp only [<-hM]at hcell HBS HUS hml;(have hMI:(M:Int)<=256:=by omega);(have hwr:IntKind.u32.wrap ((M:Int)+1)=M+1:=by unfold IntKind.wrap;simp [IntKind.bits];omega);(have hcast:((M+1:Nat):Int)=(M:Int)+1:=by omega);rw [hcast]at HBS HUS;clear bs hcg hM hml hlen bb ur;go_wp2_with fail;go_roundg (gk-1)
       case measure=>have:=HK.out;omega
       case rel=>exact⟨k+1,by have:=HK.out;omega,by go_num,HBS.out,HUS.out⟩
     (have hz0:z=0:=by omega);subst hz0
     have hcg:QF (Qx (l.take k))=QF (Qx (l.take (k+1))):=YX λi hi=>by
       rw [HMT.out i];by_cases h0:i=0
       . subst h0;simp
       rw [if_neg (λh=>h0 (by have:=h.2;omega))];rfl
     rw [hcg]at BB;clear hcg hp bb ur;go_wp2_with fail;go_roundg (gk-1)
     case measure=>have:=HK.out;omega
     case rel=>exact⟨k+1,by have:=HK.out;omega,by go_num,BB.out,UR.out⟩
   (obtain rfl:k=n:=by omega);have htl:l.take k=l:=List.take_of_length_le (by have:=HL.out;omega);rw [htl]at bb;clear hk hlt BB HK;have b0:=bb;unfold QF at b0;have x0:=b0.cell 0;have x1:=b0.cell 1;have x2:=b0.cell 2;have x3:=b0.cell 3;have x4:=b0.cell 4;have x5:=b0.cell 5;have x6:=b0.cell 6;have x7:=b0.cell 7;have x8:=b0.cell 8;have x9:=b0.cell 9;have x10:=b0.cell 10;have x11:=b0.cell 11;have z0:=b0.frozen 0;have z1:=b0.frozen 1;have z2:=b0.frozen 2;have z3:=b0.frozen 3;have z4:=b0.frozen 4;have z5:=b0.frozen 5;have z6:=b0.frozen 6;have z7:=b0.frozen 7;have z8:=b0.frozen 8;have z9:=b0.frozen 9;have z10:=b0.frozen 10;have z11:=b0.frozen 11;simp at x0 x1 x2 x3 x4 x5 x6 x7 x8 x9 x10 x11;have B0:=hd_ (bb.set12 (Qx l));have U0:=hd_ (ur.trans' (Qa8 wr H (Qx l)));clear b0 bb ur;go_wp2_with fail;refine bodyPost_ret (v:=.agg (QF (Qx l))) (results_cell_row rfl _ _ H 292 _ _ _ rfl B0.out underlying292 rfl (by rw [Q1J];kernel_rfl)) rfl ?_;exact hR _ _ ⟨rfl,F0.trans U0.out (λb hb e=>by have:=HH.out;omega)⟩
theorem Q6N (F:Nat->Prop) (A:Option Addr) (n c:Nat) (l:List Int) (w:World) (hr:Rd w F A n (Q7 l)) (ht:Qc l) :
   Calls prog 243 #[.slice A n c] w λe w'=>e = .returned (.agg (QF (Qs l)))/\Q0 w w':=by
 obtain⟨w0,hw0⟩:=nm_ (w.alloc (.cells (QF λ_=>0) 292));obtain⟨H,hH⟩:=nm_ (w.heap.size);(have f0:Q0 w w0:=by rw [hw0];exact(Upd.refl _ _).alloc _);(have bt:Blk w0 H 292 (QF λ_=>0):=by rw [hw0];exact Qb hH _ _);have HMA:=hd_ (Q8E F A n c l w0 (hr.fresh f0) ht);have HLE:=hd_ (λk=>Q0o (l:=l) ht.2.1 k);have HML:=hd_ (λk=>Nat.le_trans (XD l k) ht.2.1);(have hw0':w.alloc (.cells #[.int .u32 0,.int .u32 0,.int .u32 0,.int .u32 0,.int .u32 0,.int .u32 0,.int .u32 0,.int .u32 0,.int .u32 0,.int .u32 0,.int .u32 0,.int .u32 0] 292)=w0:=by rw [hw0];rfl)
 have hzero:QF (λ_=>0)=QF (λi=>if i<=0 then Qs l i else 0):=YX λi _=>by
   split
   . next h =>
     (have:i=0:=by omega);subst this;rfl
   rfl
 rw [hzero]at bt;have BT:=hd_ bt;have F0:=hd_ f0;have HW:=hd_ hw0';have HH:=hd_ hH;clear hr ht hw0 hw0' hH f0 bt hzero;refine Q8 λR hR=>?_;go_enter func243,ntmps243;go_upto_region 1 with fail;simp only [<-HH.out,HW.out];go_wp2_with fail;refine HMA.mono ?_;rintro e w1 ⟨rfl,f1⟩;unfold QF;go_upto_region 2 with fail;obtain⟨MB,hMB⟩:=nm_ (w1.heap.size);obtain⟨w2,hw2⟩:=nm_ (w1.alloc (.cells #[.int .u32 (Qx l 0:Nat),.int .u32 (Qx l 1:Nat),.int .u32 (Qx l 2:Nat),.int .u32 (Qx l 3:Nat),.int .u32 (Qx l 4:Nat),.int .u32 (Qx l 5:Nat),.int .u32 (Qx l 6:Nat),.int .u32 (Qx l 7:Nat),.int .u32 (Qx l 8:Nat),.int .u32 (Qx l 9:Nat),.int .u32 (Qx l 10:Nat),.int .u32 (Qx l 11:Nat)] 292));simp only [<-hMB,<-hw2];(have bm:Blk w2 MB 292 (QF (Qx l)):=by rw [hw2];exact Qb hMB _ _);have b1:=BT.fresh f1;(have hMH:MB≠H:=by have:=b1.lt;omega);(have f12:Q0 w1 w2:=by rw [hw2];exact(Upd.refl _ _).alloc _);have B2:=hd_ (b1.fresh f12);have F2:=hd_ (F0.trans' (f1.trans' f12));have HMC:=hd_ (show ∀W,Upd (λb=>b=H) w2 W->∀q,q<12->W.cell? ⟨MB,q,none⟩=some (.int .u32 (Qx l q:Nat))from λW hu q hq=>((bm.upd hu hMH).cell q).trans (ZL _ hq));clear hMB hw2 bm b1 f1 f12 HMA;go_wp2_with fail;go_loopg [4] 11 (λf vi wr=>∃k:Nat,k+f=11/\vi = .int .i64 ((k:Int)+1)/\Blk wr H 292 (QF (λi=>if i<=k then Qs l i else 0))/\Upd (λb=>b=H) w2 wr)
 case atStart=>exact⟨0,by omega,rfl,B2.out,Upd.refl _ _⟩
 case round =>
   obtain⟨k,hk,rfl,bb,ur⟩:=hrel;have HK:=hd_ hk;have UR:=hd_ ur;by_cases hlt:k<11
   . have hlI:(k:Int)+1<12:=by omega
     (have hk0:(0:Int)<=k:=by omega);have hc1:=(bb.cell k).trans (ZL _ (by omega));simp only [Nat.le_refl,if_true]at hc1;have hc2:=HMC wr ur k (by omega);have hc3:=(bb.cell (k+1)).trans (ZL _ (by omega));have hfz:=bb.frozen (k+1);have hl1:=HLE (k+1);have hl2:=HML k;have h2k:2^(k+1)<=2^11:=Nat.pow_le_pow_right (by decide) (by omega);have bs:=bb.set_ (k+1) (.int .u32 (Qs l (k+1):Nat));rw [Q0n _ _ (by omega)]at bs
     have hcg:QF (λi=>if i=k+1 then Qs l (k+1)else if i<=k then Qs l i else 0)=QF (λi=>if i<=k+1 then Qs l i else 0):=YX λi _=>by
       by_cases h1:i=k+1
       . subst h1;rw [if_pos rfl,if_pos (Nat.le_refl _)]
       rw [if_neg h1];by_cases h2:i<=k
       . rw [if_pos h2,if_pos (by omega)]
       rw [if_neg h2,if_neg (by omega)]
     rw [hcg]at bs;have hf1:Qs l (k+1)=(Qs l k+Qx l k)*2:=rfl;have us:=UR.setCell (p:=⟨H,k+1,none⟩) (λ_=>rfl) (.int .u32 (Qs l (k+1):Nat));obtain⟨a,ha⟩:=nm_ (Qs l k);obtain⟨m,hm⟩:=nm_ (Qx l k);obtain⟨f,hf⟩:=nm_ (Qs l (k+1));rw [<-ha,<-hm,<-hf]at hf1;rw [<-ha]at hc1;rw [<-hm]at hc2;rw [<-hf]at us;simp only [<-hf]at bs hl1;(have hfI:(f:Int)<=1048576:=by omega);(have hsh:((a:Int)+m)*2=f:=by omega);(have hwf:IntKind.u32.wrap (f:Int)=f:=by unfold IntKind.wrap;simp [IntKind.bits];omega);have BS:=hd_ bs;have US:=hd_ us;clear bs us hcg ha hm hf hf1 hl1 hl2 h2k bb ur hk;go_wp2_with fail;go_region;go_wp2_with fail;go_roundg (gk-1)
     case measure=>have:=HK.out;omega
     case rel=>exact⟨k+1,by have:=HK.out;omega,by go_num,BS.drew,US.drew⟩
   (obtain rfl:k=11:=by omega);have hcg:QF (λi=>if i<=11 then Qs l i else 0)=QF (Qs l):=YX λi hi=>if_pos (by omega);rw [hcg]at bb;clear hk hlt HK hcg;have b0:=bb;unfold QF at b0;have x0:=b0.cell 0;have x1:=b0.cell 1;have x2:=b0.cell 2;have x3:=b0.cell 3;have x4:=b0.cell 4;have x5:=b0.cell 5;have x6:=b0.cell 6;have x7:=b0.cell 7;have x8:=b0.cell 8;have x9:=b0.cell 9;have x10:=b0.cell 10;have x11:=b0.cell 11;have z0:=b0.frozen 0;have z1:=b0.frozen 1;have z2:=b0.frozen 2;have z3:=b0.frozen 3;have z4:=b0.frozen 4;have z5:=b0.frozen 5;have z6:=b0.frozen 6;have z7:=b0.frozen 7;have z8:=b0.frozen 8;have z9:=b0.frozen 9;have z10:=b0.frozen 10;have z11:=b0.frozen 11;simp at x0 x1 x2 x3 x4 x5 x6 x7 x8 x9 x10 x11;have B0:=hd_ (bb.set12 (Qs l));have U0:=hd_ (ur.trans' (Qa8 wr H (Qs l)));clear b0 bb ur;go_wp2_with fail;refine bodyPost_ret (v:=.agg (QF (Qs l))) (results_cell_row rfl _ _ H 292 _ _ _ rfl B0.out underlying292 rfl (by rw [Q1J];kernel_rfl)) rfl ?_;exact hR _ _ ⟨rfl,F2.trans U0.out (λb hb e=>by have:=HH.out;omega)⟩
theorem KO (F:Nat->Prop) (A:Option Addr) (n c:Nat) (l:List Int) (w:World) (hr:Rd w F A n (Q7 l)) (hn:n<=2^40) (hc:n<=c) :
   Calls prog 181 #[.slice A n c] w λe w'=>e = .returned (.int .i64 (if Qc l then 0 else 12))/\Q0 w w':=by
 obtain⟨w0,H,hw0,hH,f0,bt⟩:=al_ w 24 #[.int .i64 0];have HOF:=hd_ (Q2e F A n c l w0 (hr.fresh f0) hn hc);have BT:=hd_ bt;have F0:=hd_ f0;have HW:=hd_ hw0;have HH:=hd_ hH;clear hr hn hw0 hH f0 bt hc;refine Q8 λR hR=>?_;go_enter_defers func181,ntmps181;go_upto_region 1 with fail;simp only [<-HH.out,<-HW.out];by_cases ht:Qc l
 . rw [if_pos ht]at HOF hR
   clear ht;go_wp2_with fail;refine HOF.mono ?_;rintro e w1 ⟨rfl,f1⟩;have b1:=BT.fresh f1;have c0:=b1.cell 0;have z0:=b1.frozen 0;simp at c0;have F1:=hd_ (F0.trans' f1);have B1:=hd_ b1;clear f1 b1;go_wp2_with fail;change Leaves _ _ _ _ _ _ _;refine leaves_cons (f:=193) (args:=#[.pointer (some ⟨H,0,none⟩),.func (.func 229) #[] #[]]) (by simp) (by simp [go_sem]) ?_;have b2:=B1.set_ 0 (.int .i64 0);have d0:=b2.cell 0;simp at d0;refine(ZG _ _ _).mono ?_;rintro e u' w'' ⟨rfl,rfl,rfl⟩;refine⟨.int .i64 0,?_,hR _ _ ⟨rfl,F1.trans ((Upd.refl (λb=>b=H) _).setCell (p:=⟨H,0,none⟩) (λ_=>rfl) _) (λb hb e=>by have:=HH.out;omega)⟩⟩;simp [results,results181,go_sem,d0]
 rw [if_neg ht]at HOF hR;clear ht;go_wp2_with fail;refine HOF.mono ?_;rintro e w1 ⟨rfl,f1⟩;have b1:=BT.fresh f1;simp only [Qa];change Leaves _ _ _ _ _ _ _;refine leaves_cons (f:=193) (args:=#[.pointer (some ⟨H,0,none⟩),.func (.func 229) #[] #[]]) (by simp) (by simp [go_sem]) ?_;refine(Zy 229 #[] (λ_=>False) (λ_=>True) H 12 _ w1 b1 (λh=>h) (λ_ _=>rfl) ((Q5s w1).mono (λe w' h=>⟨h.1,h.2.1,trivial⟩))).mono ?_;rintro e u' w'' ⟨rfl,rfl,w2,u2,-,rfl⟩;have b2:=(b1.upd u2 (λh=>h)).set_ 0 (.int .i64 12);have d0:=b2.cell 0;simp at d0;show Leaves _ _ _ _ [] .returning _;refine⟨.int .i64 12,?_,hR _ _ ⟨rfl,(F0.trans' (f1.trans' u2)).trans ((Upd.refl (λb=>b=H) _).setCell (p:=⟨H,0,none⟩) (λ_=>rfl) _) (λb hb e=>by have:=HH.out;omega)⟩⟩;simp [results,results181,go_sem,d0]
theorem Q1j (n:Nat) (pe:Addr) (fv:Value) (w:World) :
   CallsDIn Fence.wide n prog 84 #[.pointer (some pe),fv] .returning w λe u' w'=>e = .returned (.tuple #[])/\u' = .returning/\w'=w:=by
 refine callsDIn_of_wpSIn func84 rfl trivial λc₀ cs hu=>?_;apply wpSIn_seq;apply wpSIn_region;simp [wpOpsSIn,go_sem,recoverD,hu,ntmps84,Exit.thenS];apply wpSIn_seq;apply wpSIn_region;simp [wpOpsSIn,go_sem,Exit.thenS];refine wpSIn_cond (t:=false) (by simp [Act.eval,Array.replicate]) ?_;simp only [Bool.false_eq_true,if_false];refine wpSIn_of_wpIn rfl (wpIn_skip ?_);cases c₀
 simp_all [bodyPostS,results,results84,Exit.thenS]
section
variable {P:Program} {n:Nat} {fn:Func} {tmps:Array Value} {R:Ending->World->Prop} {ds:List Deferred} {u:FrameMode} {w w':World}
theorem XW {r:Nat} {args:Array Value} (hu:u≠.run) (hk:(Instr.takeDeferred r).run P w = .ok [] w') (h:LeavesInM Fence.wide n P fn tmps R ds u w') :
   LeavesInM Fence.wide n P fn tmps R ({ target:=.collected r,args:=args } :: ds) u w:=⟨hu,.inl ⟨r,w',rfl,hk,h⟩⟩
theorem Q5G {fv:Fn} {cap dargs:Array Value} {f:FuncId} {args:Array Value} (hu:u≠.run) (hi:(invoke (.fn fv cap) dargs).run P w = .ok (.enter f args) w)
   (h:CallsDIn Fence.wide (n-1) P f args u w fun
     | .returned _,u',w'=>LeavesInM Fence.wide n P fn tmps R ds (settle u') w'
     | .panicked chain,u',w'=>LeavesInM Fence.wide n P fn tmps R ds (raised u' chain) w'
     | .outgrown,_,w'=>R .outgrown w') :
   LeavesInM Fence.wide n P fn tmps R ({ target:=.fn fv cap,args:=dargs } :: ds) u w :=
 ⟨hu,.inr ⟨λh=>by simp [Fence.wide]at h,fv,cap,f,args,rfl,hi,λ_ _=>trivial,h⟩⟩
end
theorem ZO {F:Nat->Prop} (A:Option Addr) (n c:Nat) (xs:List Value) (w:World) (hr:Rd w F A n xs) (h1:∀u∈xs,u.oneCell'=true) (hn:n<=2^40) :
   Calls prog 67 #[.slice A n c] w λe w'=>∃v,e = .returned v/\Own w' 3 v xs/\Q0 w w'/\∀k,v.ownBlock=some k->w.heap.size<=k:=by
 have q:∀(w:World) (a:Option Addr) (n c n' c':Nat),(binOp .eql 33 (.slice a n c) (.slice none n' c')).run prog w = .ok (.bool a.isNone) w :=
   λw a n c n' c'=>Lib.run_eql_slice_nil w _ _ a n c n' c' underlying33
 rcases A with _|ad
 . have hx:n=0:=by
     rcases Nat.eq_zero_or_pos n with h|h
     . exact h
     obtain⟨_,_,h,_⟩:=hr.2 h;cases h
   subst hx;have hxs:xs=[]:=List.eq_nil_of_length_eq_zero hr.1;subst hxs;go_enter func67,ntmps67;go_wp2;go_ret;exact⟨_,rfl,Own.nil _ _,Upd.refl _ _,by simp [Value.ownBlock]⟩
 have o0:Own (w.alloc (.cells #[] 3)) 3 (.slice (some ⟨w.heap.size,0,none⟩) 0 0) []:=World.ownsRow_made w #[] 0 (Nat.zero_le _) (by simp [maxLen]) (by simp);have hlen:n<=1099511627776:=hn;clear hn;go_enter func67,ntmps67;go_wp2_with (at_builtin;go_must (refine Qm _ rfl (.tmp 5) (.tmp 6) _ rfl 3 _ 8 underlying33 QV rfl _ _ rfl o0 _ _ _ _ rfl (hr.alloc _) h1 (by omega) (by simpa using hlen) ?_));intro v' w1 o1 g1 a1;go_wp2;go_ret;exact⟨v',rfl,by simpa using o1,((Upd.refl _ _).alloc _).grown g1 (λk hk hlt=>by simp [Value.ownBlock]at hk;omega),Yj (S:=λk=>w.heap.size<=k) a1 (λk hk=>by simp [Value.ownBlock]at hk;omega) (by simp)⟩
theorem Own.store {w:World} {e:TypeId} {A:Option Addr} {n c:Nat} {xs:List Value} (h:Own w e (.slice A n c) xs) {i:Nat} (hi:i<xs.length) :
   ∃g,A=some ⟨g,0,none⟩/\g<w.heap.size/\w.cell? ⟨g,i,none⟩=some xs[i]/\w.frozen? ⟨g,i,none⟩=false/\∀u,Own (w.setCell ⟨g,i,none⟩ u) e (.slice A n c) (xs.set i u):=by
 rcases h.2 with ⟨h0,hn⟩|⟨g,cap,cur,hv,hb,hg,hn,hm,hc,ht⟩
 . omega
 injection hv with h1 h2 h3;subst h1 h2 h3
 have hcur:cur[i]?=some xs[i]:=by
   have h1:(cur.toList.take (xs.length*1))[i]?=some xs[i]:=by
     rw [ht];exact List.getElem?_eq_getElem hi
   rw [List.getElem?_take,if_pos (by omega)]at h1;simpa using h1
 have hgs:g<w.heap.size:=(Array.getElem?_eq_some_iff.1 hg).1;refine⟨g,rfl,hgs,?_,?_,λu=>?_⟩
 . rw [cell_of_row w g i cur e (0,0) hg];exact hcur
 . simp [World.frozen?,hg]
 have hb2:=Blk.set_ (show Blk w g e cur from hg) i u;refine⟨by simp,.inr ⟨g,c,cur.setIfInBounds i u,by simp,hb,hb2,by simp;omega,hm,by simp;omega,?_⟩⟩;rw [List.length_set,Array.toList_setIfInBounds,List.take_set,ht]
theorem Blk.rds {w:World} {g:Nat} {t:TypeId} {cs:Array Value} (h:Blk w g t cs):Rd w (λ_=>True) (some ⟨g,0,none⟩) cs.size cs.toList :=
 ⟨by simp,λ_=>⟨g,0,rfl,trivial,h.lt,λj hj=>by rw [Nat.zero_add,h.cell];simp⟩⟩
end Go.Proofs.YtckjdhaflokcgaaGreat
