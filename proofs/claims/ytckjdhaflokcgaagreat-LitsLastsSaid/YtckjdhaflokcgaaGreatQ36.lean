/-
  Joined texts, part 36: contracts and plain lemmas.
  Conditions: none beyond those of each theorem.
-/
import Derived.Test.YtckjdhaflokcgaaGreatQ35
import Derived.Test.YtckjdhaflokcgaaGreatQ23
set_option maxHeartbeats 4000000
set_option linter.unusedVariables false
set_option linter.unusedSimpArgs false
set_option linter.unnecessarySimpa false
set_option maxRecDepth 100000
universe u
namespace Go.Proofs.YtckjdhaflokcgaaGreat
open Go.RowKit Go.Shelf
theorem Zq {F:Fence} {n:Nat} {P:Program} {α:Type} {g:Operand} {ps:Array Tmp} {assign body:Code} {Q:Exit->Act->World->Prop} {a:Act} {w:World}
   (hro:F.round=none) (h1:1<=n) {gf:Nat} {lb:Array Value} (hg:a.eval g = .func (.func gf) #[] lb) (hFg:F.fn gf) (eg:∀args w,(callFunc gf args).run P w = .ok (.enter gf args) w)
   {encs:α->Array Value} {Kp:World->World->Prop} {S Sp:List α->Prop} {N:Nat} {w0:World} (hseq:SeqStopsK F (n-1) P gf lb encs Kp S Sp N w0)
   (hKt:∀ {A B C:World},Kp A B->Kp B C->Kp A C) (hKb:∀(W:World) (l:Nat) (o o':Obj),w.heap.size<=l->W.heap[l]?=some o->o.isCells=false->o.isWalk=false->Kp W (W.putObj l o')) (hb0:Below w0.heap.size w0 w) (hps:∀x,(encs x).size=ps.size)
   (I:List α->World->Prop) (Ix:Code->List α->World->Prop) (hI:OwnFrom w.heap.size I) (hIx:∀c,OwnFrom w.heap.size (Ix c)) (h0:I [] w) (d1 d2:Nat) (dv:α->Value) (t:TypeId) (cs:α->Array Value)
   (hKa:∀pre W o,I pre W->Kp W (W.alloc o)) (hIs:∀pre W,I pre W->w.heap.size<=W.heap.size)
   (hassign:∀(l:Nat) (x:α) (W:World) (K:Act->World->Prop),K { tmps:=(((ps.zip (encs x)).foldl (fun t (p,v)=>t.setIfInBounds p v) a.tmps).setIfInBounds d1 (dv x)).setIfInBounds d2 (.pointer (some ⟨W.heap.size,0,none⟩)),defers:=[] } (W.alloc (.cells (cs x) t)) ->
     assign.wpIn (F.inRound l) (n-1-1) P (Exit.then K (fun _ _ _=>False)) { tmps:=(ps.zip (encs x)).foldl (fun t (p,v)=>t.setIfInBounds p v) a.tmps,defers:=[] } W)
   (hbody:∀(l:Nat) (pre:List α) (x:α) (X:Nat) (W:World),I pre W->Blk W X t (cs x)->w.heap.size<=X->pre.length<N ->
     body.wpIn (F.inRound l) (n-1-1) P (ownPostG w.heap.size Kp I Ix (pre++[x]) W) { tmps:=(((ps.zip (encs x)).foldl (fun t (p,v)=>t.setIfInBounds p v) a.tmps).setIfInBounds d1 (dv x)).setIfInBounds d2 (.pointer (some ⟨X,0,none⟩)),defers:=[] } W)
   (hdone:∀(D:Nat) (xs:List α) (W:World),w.heap.size<=D->S xs->I xs W->W.heap[D]?=some (.deferred (some []))->Q .normal { a with defers:={ target:=.collected D,args:=#[] } :: a.defers } W)
   (hstop:∀(D:Nat) (c:Code) (pre:List α) (W:World),w.heap.size<=D->Sp pre->Ix c pre W->W.heap[D]?=some (.deferred (some []))->c.wpIn F n P Q { a with defers:={ target:=.collected D,args:=#[] } :: a.defers } W) :
   (Code.rangeFunc g ps assign body).wpIn F n P Q a w:=by
 refine wpIn_rangeFunc_ownH hro h1 hg hFg eg hseq (fun h k=>hKt h k) hKb hb0 hps I Ix hI hIx h0
   (fun x a' W=>∃X,a'={ tmps:=(((ps.zip (encs x)).foldl (fun t (p,v)=>t.setIfInBounds p v) a.tmps).setIfInBounds d1 (dv x)).setIfInBounds d2 (.pointer (some ⟨X,0,none⟩)),defers:=[] }/\Blk W X t (cs x)/\w.heap.size<=X)
   ?_ ?_ ?_ hdone hstop
 . rintro x a' s W W' row ⟨X,h1,h2,h3⟩ hgr hr
   exact⟨X,h1,h2.kept hgr fun r e=>(hr r e).2,h3⟩
 . intro l pre x W K hi hK
   refine hassign l x W K (hK _ _ (Yf _ ((Upd.refl (fun _=>False) W).alloc _) (fun k _ h=>h.elim)) (hKa pre W _ hi) (hI.alloc _ hi) ⟨W.heap.size,rfl,Qc rfl _ _,hIs pre W hi⟩)
 rintro l pre x a' W _ _ hi ⟨X,rfl,hb,hx⟩ hlen;exact hbody l pre x X W hi hb hx hlen
def VU {α:Type} (F:Fence) (n:Nat) (P:Program) (g:Nat) (lb:Array Value) (Bn:Nat) (encs:α->Array Value) (Kp:World->World->Prop) (S:List α->Prop) (N:Nat) (w:World):Prop :=
  ∀(l:Nat) (J:List α->World->Prop) (W:World),Below w.heap.size w W->AbidesFrom W.heap.size J->(∀pre W1 v,J pre W1->J pre (W1.setCell ⟨Bn,0,none⟩ v)) ->
    (∀pre x W1,J pre W1->pre.length<N->YieldAt F (n-1) P l (encs x) W1 fun e W'=>e = .returned (.bool true)/\J (pre++[x]) W'/\Kp W1 W')->J [] W ->
    CallsIn F n P g (#[.func (.yield l) #[] #[]]++lb) W fun e W'=>(∃v,e = .returned v)/\∃xs,S xs/\J xs W'
theorem VV {W:World} {B k:Nat} {o:Obj} (v:Value) (h:W.heap[k]?=some o) (hne:k≠B):(W.setCell ⟨B,0,none⟩ v).heap[k]?=some o :=
 (Below.heap_setCell W ⟨B,0,none⟩ v k hne).trans h
theorem Zr {F:Fence} {n:Nat} {P:Program} {α:Type} {g:Operand} {ps:Array Tmp} {assign body:Code} {Q:Exit->Act->World->Prop} {a:Act} {w:World}
   (hro:F.round=none) (h1:1<=n) {gf:Nat} {lb:Array Value} (hg:a.eval g = .func (.func gf) #[] lb) (hFg:F.fn gf) (eg:∀args w,(callFunc gf args).run P w = .ok (.enter gf args) w)
   {encs:α->Array Value} {Kp:World->World->Prop} {S:List α->Prop} {N Bn:Nat} {w0:World} (hseq:VU F (n-1) P gf lb Bn encs Kp S N w0) (hBn:Bn<w.heap.size)
   (hKt:∀ {A B C:World},Kp A B->Kp B C->Kp A C) (hKb:∀(W:World) (l:Nat) (o o':Obj),w.heap.size<=l->W.heap[l]?=some o->o.isCells=false->o.isWalk=false->Kp W (W.putObj l o')) (hb0:Below w0.heap.size w0 w) (hps:∀x,(encs x).size=ps.size)
   (I:List α->World->Prop) (hI:OwnFrom w.heap.size I) (hIw:∀pre W v,I pre W->I pre (W.setCell ⟨Bn,0,none⟩ v)) (h0:I [] w) (d:Nat) (dv:α->Value)
   (hassign:∀(l:Nat) (x:α) (W:World) (K:Act->World->Prop),K { tmps:=((ps.zip (encs x)).foldl (fun t (p,v)=>t.setIfInBounds p v) a.tmps).setIfInBounds d (dv x),defers:=[] } W ->
     assign.wpIn (F.inRound l) (n-1-1) P (Exit.then K (fun _ _ _=>False)) { tmps:=(ps.zip (encs x)).foldl (fun t (p,v)=>t.setIfInBounds p v) a.tmps,defers:=[] } W)
   (hbody:∀(l:Nat) (pre:List α) (x:α) (W:World),I pre W->pre.length<N ->
     body.wpIn (F.inRound l) (n-1-1) P (fun e _ W'=>e = .normal/\KeepsFrom w.heap.size W W'/\Kp W W'/\I (pre++[x]) W') { tmps:=((ps.zip (encs x)).foldl (fun t (p,v)=>t.setIfInBounds p v) a.tmps).setIfInBounds d (dv x),defers:=[] } W)
   (hdone:∀(D:Nat) (xs:List α) (W:World),w.heap.size<=D->S xs->I xs W->W.heap[D]?=some (.deferred (some []))->Q .normal { a with defers:={ target:=.collected D,args:=#[] } :: a.defers } W) :
   (Code.rangeFunc g ps assign body).wpIn F n P Q a w:=by
 refine wpIn_rangeFunc fun fn hfn=>?_;rw [hro];let s:=w.heap.size;obtain⟨rec,hrec⟩:∃rec:LoopState->Option Code->Loop,rec=fun st pe=>{ state:=st,pending:=pe,fn,tmps:=a.tmps,params:=ps,assign,body,defers:=w.heap.size }:=⟨_,rfl⟩;obtain⟨W1,hW1⟩:∃W1,(w.alloc (.deferred (some []))).alloc (.loop (rec .ready none))=W1:=⟨_,rfl⟩;(have hs1:W1.heap.size=w.heap.size+2:=by rw [<-hW1];simp)
 have hL1:W1.heap[w.heap.size+1]?=some (.loop (rec .ready none)):=by
   rw [<-hW1];have:=World.alloc_heap_new (w.alloc (.deferred (some []))) (.loop (rec .ready none));rwa [World.size_alloc]at this
 have hK1:W1.heap[w.heap.size]?=some (.deferred (some [])):=by
   rw [<-hW1];exact(Below.heap_alloc _ _ _ (by simp)).trans (World.alloc_heap_new w _)
 (have hI1:I [] W1:=by rw [<-hW1];exact hI.alloc _ (hI.alloc _ h0))
 have hb1:Below w0.heap.size w0 W1:=by
   rw [<-hW1];exact hb0.trans ((((Below.refl _ w).alloc (Nat.le_refl _) _).alloc (by simp) _).mono hb0.size)
 refine⟨w.heap.size+1,[{ target:=.collected w.heap.size,args:=#[] }],W1,{ target:=.fn (.func gf) lb,args:=#[.func (.yield (w.heap.size+1)) #[] #[]] },W1,gf,
   #[.func (.yield (w.heap.size+1)) #[] #[]]++lb,W1,?_,?_,?_,?_,fun _=>h1,?_⟩
 . rw [<-hW1,hrec];exact run_enterLoop_outer _ _ _ _ _
 . simp only [resolve,hg]
   simp [go_sem]
 . intro f' hf';simp [Target.leads]at hf';subst hf';exact hFg
 . simp [invoke,go_sem,eg]
 have hnw:∀ {A:World} {row:Option Nat},(∀r,row=some r->W1.heap.size<=r/\∃o:Obj,A.heap[r]?=some o/\o.isWalk=true)->(∀r,row=some r->w.heap.size<=r/\∃o:Obj,A.heap[r]?=some o/\o.isCells=false) :=
   fun hr r e=>by obtain⟨hB,o,ho,hw⟩:=hr r e;exact⟨by omega,o,ho,Obj.not_cells_of_walk hw⟩
 refine(hseq (w.heap.size+1)
   (fun pre W=>I pre W/\W.heap[w.heap.size+1]?=some (.loop (rec .ready none))/\W.heap[w.heap.size]?=some (.deferred (some [])))
   W1 hb1
   (fun s A B row hs hg' hr=>⟨hI s A B row hs.1 hg' (hnw hr),(grownBy_keeps hg' (fun r e=>(hr r e).2) hs.2.1 rfl).trans hs.2.1,(grownBy_keeps hg' (fun r e=>(hr r e).2) hs.2.2 rfl).trans hs.2.2⟩)
   (fun pre W v hs=>⟨hIw pre W v hs.1,VV v hs.2.1 (by omega),VV v hs.2.2 (by omega)⟩)
   ?_ ⟨hI1,hL1,hK1⟩).mono ?_
 . rintro pre x W ⟨hi,hl,hk⟩ hlen
   have hlt:w.heap.size+1<W.heap.size:=(Array.getElem?_eq_some_iff.1 hl).1;have hy:=run_yield (P:=P) (args:=encs x) hl (by rw [hrec];exact hps x);rw [hrec]at hy;refine⟨fn,_,assign,body,hy,roundIn_of_wpIn hfn (hassign _ x W _ ⟨_,run_beginRound hl (by rw [hrec]),?_⟩)⟩;have hl2:(W.putObj (w.heap.size+1) (.loop { rec .ready none with state:=.busy })).heap[w.heap.size+1]?=some (.loop { rec .ready none with state:=.busy }):=World.putObj_heap_same hlt;have hk2:(W.putObj (w.heap.size+1) (.loop { rec .ready none with state:=.busy })).heap[w.heap.size]?=some (.deferred (some [])):=(World.putObj_heap_other (by omega)).trans hk;have hw2:Kp W (W.putObj (w.heap.size+1) (.loop { rec .ready none with state:=.busy })):=hKb _ _ _ _ (by omega) hl rfl rfl;refine wpIn_mono (hbody _ pre x _ (hI.putObj _ hi (by omega) hl rfl) hlen) ?_;rintro e a3 W3 ⟨rfl,hk3,hkp3,hi3⟩;have hl3:=hk3.same _ _ (by omega) hl2 rfl;have hr:=run_endRound (P:=P) none hl3;rw [hrec]at hr hl3;refine⟨_,_,hr,rfl,⟨hI.putObj _ hi3 (by omega) hl3 rfl,?_,(World.putObj_heap_other (by omega)).trans (hk3.same _ _ (Nat.le_refl _) hk2 rfl)⟩,hKt (hKt hw2 hkp3) (hKb _ _ _ _ (by omega) hl3 rfl rfl)⟩;rw [hrec];exact World.putObj_heap_same (Array.getElem?_eq_some_iff.1 hl3).1
 rintro e W2 ⟨⟨v,rfl⟩,xs,hS,hi,hl,hk⟩;exact⟨none,_,by have:=run_endLoop (P:=P) hl (by rw [hrec];simp);rw [hrec]at this;exact this,hdone _ xs _ (Nat.le_refl _) hS (hI.putObj _ hi (by omega) hl rfl) ((World.putObj_heap_other (by omega)).trans hk)⟩
attribute [local go_sem] Oper.semAt_some
def Y3:Nat->Nat->List Nat
  | 0,n=>[n]
  | f+1,n=>if n<128 then [n]else(n%128+128)::Y3 f (n / 128)
def QB (n:Nat):List Nat:=Y3 9 n
theorem ZC:∀(f n:Nat),(Y3 f n).length<=f+1
 | 0,_=>by simp [Y3]
 | f+1,n=>by
   unfold Y3
   split
   . simp
   have:=ZC f (n / 128);simp;omega
theorem Q1u (f n:Nat):0<(Y3 f n).length:=by
 (cases f<;>unfold Y3<;>(try split)<;>simp)
theorem VW:∀(f n:Nat),n<128^(f+1)->∀b∈Y3 f n,b<256
 | 0,n,h,b,hb=>by simp [Y3]at hb;omega
 | f+1,n,h,b,hb=>by
   unfold Y3 at hb
   split at hb
   . simp at hb;omega
   rcases List.mem_cons.1 hb with rfl|hb
   . omega
   exact VW f (n / 128) (by rw [Nat.div_lt_iff_lt_mul (by omega)];rw [Nat.pow_succ]at h;exact h) b hb
theorem KZ {n:Nat} (h:n<2^62):∀b∈QB n,b<256:=VW 9 n (by omega)
theorem Yu (n:Nat):(QB n).length<=10:=ZC 9 n
def Y4 (b:Nat) (W W':World):Prop:=∀t cs,Blk W b t cs->Blk W' b t cs
theorem Y4.trans {b:Nat} {A B C:World} (h:Y4 b A B) (k:Y4 b B C):Y4 b A C:=fun t cs hb=>k t cs (h t cs hb)
theorem Y4.upd {S:Nat->Prop} {b:Nat} {W W':World} (h:Upd S W W') (hb:¬S b):Y4 b W W':=fun t cs k=>k.upd h hb
theorem Y4.putObj {b l:Nat} (W:World) (o':Obj) (h:b≠l):Y4 b W (W.putObj l o') :=
 Y4.upd (S:=fun k=>k=l) ((Upd.refl _ W).grown (grownBy_putObj' W l o') (fun k e _=>by injection e with e;exact e.symm)) h
theorem Q4m (x:Nat) (h:x<256):bits .or .u8 (x:Int) 128=((x%128+128:Nat):Int):=by
 (have:∀x:Fin 256,bits .or .u8 ((x.val:Nat):Int) 128=((x.val%128+128:Nat):Int):=by decide +kernel);exact this ⟨x,h⟩
theorem Q1v (F:Fence) (m l Bn n:Nat) (hft:F.fn 155) (hro:F.round=none) (hd:F.depth=none) (hn:n<2^62) (J:List Nat->World->Prop)
   (hJw:∀pre W v,J pre W->J pre (W.setCell ⟨Bn,0,none⟩ v))
   (hY:∀pre x W,J pre W->pre.length<10->YieldAt F (m-1) Tryz.prog l #[.int .u8 (x:Nat)] W fun e W'=>e = .returned (.bool true)/\J (pre++[x]) W'/\Y4 Bn W W')
   (W:World) (hBn:Blk W Bn 80 #[.int .u64 (n:Nat)]) (h0:J [] W) :
   CallsIn F m Tryz.prog 155 #[.func (.yield l) #[] #[],.pointer (some ⟨Bn,0,none⟩)] W fun e W'=>(∃v,e = .returned v)/\∃ys,ys=QB n/\J ys W':=by
 obtain⟨Y,hYd⟩:=nm_ (QB n);have HYL:=hd_ (show Y.length<=10 by rw [hYd];exact Yu n);have HYD:=hd_ hYd;have HN:=hd_ hn;rw [<-hYd];clear hn hYd;refine callsIn_of_wp Tryz.func155 rfl hft ?_ hro;simp only [Tryz.ntmps155,List.size_toArray,List.length_cons,List.length_nil,Nat.reduceAdd,Nat.reduceSub,Array.replicate_succ,Array.replicate_zero,List.push_toArray,List.append_toArray,List.nil_append,List.cons_append];gi_wp2;gi_loopg [] 9 (fun f wr=>∃(q:Nat) (pre:List Nat),q<128^(f+1)/\q<2^62/\J pre wr/\Blk wr Bn 80 #[.int .u64 (q:Nat)]/\pre++Y3 f q=Y)
 case atStart=>exact⟨n,[],by have:=HN.out;omega,HN.out,h0,hBn,HYD.out.symm⟩
 case round =>
   obtain⟨q,pre,hq,hq2,hJ,hb,hpre⟩:=hrel;have c0:=hb.cell 0;have z0:=hb.frozen 0;simp at c0
   have hpl:pre.length<10:=by
     have h1:=HYL.out;have h2:=Q1u gk q;rw [<-hpre,List.length_append]at h1;omega
   have HB:=hd_ hb;have HJ:=hd_ hJ;have HPL:=hd_ hpl;by_cases hlt:q<128
   . have hqI:¬(128:Int)<=q:=by omega
     (have hv:Y3 gk q=[q]:=by cases gk<;>unfold Y3<;>simp [hlt]);rw [hv]at hpre;have HPR:=hd_ hpre;(have hwr:IntKind.u8.wrap (q:Int)=q:=by rw [IntKind.wrap_u8'];omega);have hy':=hY pre q wr hJ hpl;clear hq hq2 hlt hv hpre hb hJ hpl;obtain⟨fn,tmps,assign,body,hy,hR⟩:=hy';gi_wp2
     first
       | refine hR.mono ?_
       | refine⟨?_,?_,hR.mono ?_⟩
     rintro e W3 ⟨rfl,hJ3,hk3⟩;rw [HPR.out]at hJ3;clear hR hy;gi_wp2;go_end0;exact⟨⟨_,rfl⟩,_,rfl,hJ3⟩
   (have hqI:(128:Int)<=q:=by omega)
   obtain⟨f,rfl⟩:∃f,gk=f+1:=by
     cases gk with
     | zero=>simp at hq;omega
     | succ f=>exact⟨f,rfl⟩
   (have hv:Y3 (f+1) q=(q%128+128)::Y3 f (q / 128):=by conv=>lhs;unfold Y3;rw [if_neg hlt]);rw [hv]at hpre;have HPR:=hd_ (show(pre++[q%128+128])++Y3 f (q / 128)=Y by rw [<-hpre];simp);(have hwr:IntKind.u8.wrap (q:Int)=(q:Int)%256:=by rw [IntKind.wrap_u8']);(have hor:bits .or .u8 ((q:Int)%256) 128=(q:Int)%128+128:=by have:=Q4m (q%256) (by omega);simp only [Int.natCast_emod,Int.natCast_add]at this;rw [show((256:Nat):Int)=256 from rfl]at this;rw [this];omega)
   have hsh:∀W,(Op.shift .shr .u64 (q:Int) .u64 7).run Tryz.prog W = .ok (.int .u64 ((q / 128:Nat):Int)) W:=fun W=>by
     (have h1:¬(7:Int)<0:=by omega);have h2:min (7:Int).toNat IntKind.u64.bits=7:=rfl;unfold Op.shift;rw [if_neg h1];simp only [h2];rw [Int.fdiv_eq_ediv_of_nonneg _ (Int.pow_nonneg (by decide))];rfl
   have HQ:=hd_ (show q / 128<128^(f+1)/\q / 128<2^62 from⟨by rw [Nat.div_lt_iff_lt_mul (by omega)];rw [Nat.pow_succ]at hq;exact hq,by omega⟩);have hy':=hY pre (q%128+128) wr hJ hpl;rw [show((q%128+128:Nat):Int)=(q:Int)%128+128 by omega]at hy';clear hq hq2 hlt hv hpre hb hJ hpl;obtain⟨fn,tmps,assign,body,hy,hR⟩:=hy';gi_wp2
   first
     | refine hR.mono ?_
     | refine⟨?_,?_,hR.mono ?_⟩
   rintro e W3 ⟨rfl,hJ3,hk3⟩;have b3:=hk3 _ _ HB.out;have c3:=b3.cell 0;have z3:=b3.frozen 0;simp at c3;have HJ3:=hd_ (hJw _ _ (.int .u64 ((q / 128:Nat):Int)) hJ3);have HB3:=hd_ (b3.set_ 0 (.int .u64 ((q / 128:Nat):Int)));clear hR hy hJ3 hk3 b3 c0 z0;gi_wp2;gi_roundg f
   case measure=>omega
   case rel=>exact⟨q / 128,_,HQ.out.1,HQ.out.2,HJ3.out,by simpa using HB3.out,HPR.out⟩
theorem Q0k (m Bn n:Nat) (hn:n<2^62) (w:World) (hB:Blk w Bn 80 #[.int .u64 (n:Nat)]) :
   VU Fence.wide m Tryz.prog 155 #[.pointer (some ⟨Bn,0,none⟩)] Bn (fun x:Nat=>#[Value.int .u8 (x:Nat)]) (Y4 Bn) (fun ys=>ys=QB n) 10 w :=
 fun l J W hW _ hJw hY h0=>Q1v Fence.wide m l Bn n trivial rfl rfl hn J hJw hY W (hB.upd (Upd.of_below hW:Q0 w W) (fun h=>h)) h0
def ZD (w:World) (C:Nat) (old:List Nat) (pre:List Nat) (W:World):Prop :=
  ∃v x,Blk W (C+1) 80 #[x]/\Blk W C 22 #[v]/\Own W 5 v (Qa (old++pre))/\(∀b,v.ownBlock=some b->w.heap.size<=b)/\Q0 w W
theorem ZD.own {w:World} {C B:Nat} {old:List Nat} (hB:w.heap.size<=B):OwnFrom B (ZD w C old):=by
 intro pre W W' row h hg hr;obtain⟨v,x,h0,h1,h2,h3,h4⟩:=h;exact⟨v,x,h0.kept hg fun r e=>(hr r e).2,h1.kept hg fun r e=>(hr r e).2,h2.kept hg fun r e=>(hr r e).2,h3,h4.grown hg fun k hk hlt=>by have:=(hr k hk).1;omega⟩
theorem ZD.set {w:World} {C:Nat} {old pre:List Nat} {W:World} (v:Value) (hC:w.heap.size<=C) (h:ZD w C old pre W):ZD w C old pre (W.setCell ⟨C+1,0,none⟩ v):=by
 obtain⟨u,x,h0,h1,h2,h3,h4⟩:=h;exact⟨u,v,by simpa using h0.set_ 0 v,h1.far (p:=⟨C+1,0,none⟩) (by simp) v,h2.far (p:=⟨C+1,0,none⟩) (h2.ne_blk h0 (by decide)) v,h3,h4.setCell (p:=⟨C+1,0,none⟩) (fun h=>by simp at h;omega) v⟩
theorem Jr (F0:Nat->Prop) (A0:Option Addr) (n0 c0:Nat) (old:List Nat) (n:Nat) (w:World) (hr0:Rd w F0 A0 n0 (Qa old)) (hlen:n0<=2^32) (hn:n<2^62) :
   Calls Tryz.prog 52 #[.slice A0 n0 c0,.int .u64 (n:Nat)] w fun e w'=>∃v,e = .returned (.tuple #[v,.int .i64 0])/\Qk w w' v (old++QB n):=by
 (have hnI:¬(4611686018427387903:Int)<(n:Nat):=by omega);have HCL:=hd_ (Yo A0 n0 c0 (Qa old) w hr0 (fun u hu=>by obtain⟨b,_,rfl⟩:=List.mem_map.1 hu;simp [Value.oneCell']) (by omega));have HN:=hd_ hn;have HOL:=hd_ (show old.length<=2^32 by have:=hr0.1;rw [Qp]at this;omega);clear hn hr0 hlen;refine Qg fun R hR=>?_;refine(callsIn_wide (n:=3)).1 (callsIn_of_wp_marks Tryz.func52 rfl trivial ?_ rfl);simp only [Tryz.ntmps52,List.size_toArray,List.length_cons,List.length_nil,Nat.reduceAdd,Nat.reduceSub,Array.replicate_succ,Array.replicate_zero,List.push_toArray,List.append_toArray,List.nil_append,List.cons_append];refine wpIn_wide.2 ?_;go_wp2_with fail;refine HCL.out.mono ?_;rintro e w1 ⟨v1,rfl,o1,f1,hb1⟩;obtain⟨A1,n1,c1,rfl,hn1⟩:=o1.form';have O1:=hd_ o1;have HB1:=hd_ hb1;have F1:=hd_ f1;clear o1 hb1 f1;go_wp2_with fail;refine(Q0j _ _).mono ?_;rintro e w2 ⟨rfl,rfl⟩;go_wp2_with fail;obtain⟨C,hC⟩:=nm_ (w1.heap.size);obtain⟨w3,hw3⟩:=nm_ ((w1.alloc (.cells #[.slice A1 n1 c1] 22)).alloc (.cells #[.int .u64 n] 80));simp only [<-hC,<-hw3];(have f3:Q0 w1 w3:=by rw [hw3];exact((Upd.refl _ _).alloc _).alloc _);(have hz3:w3.heap.size=C+2:=by rw [hw3,hC];simp);(have bC:Blk w3 C 22 #[.slice A1 n1 c1]:=by rw [hw3];exact(Qc hC _ _).alloc _);(have bN:Blk w3 (C+1) 80 #[.int .u64 (n:Nat)]:=by rw [hw3];exact Qc (by simp [hC]) _ _);(have hwC:w.heap.size<=C:=by rw [hC];exact F1.out.size);have hI0:ZD w C old [] w3:=⟨_,_,bN,bC,by simpa using O1.out.fresh f3,HB1.out,F1.out.trans' f3⟩;have HZ3:=hd_ hz3;have HWC:=hd_ hwC;have HI0:=hd_ hI0;have BN:=hd_ bN;clear hC hw3 f3 bC bN hn1 O1 HB1;refine(wpIn_wide (n:=3)).1 ?_
 refine Zr (F:=Fence.wide) (n:=3) rfl (by omega) (gf:=155) (lb:=#[.pointer (some ⟨C+1,0,none⟩)]) rfl trivial (enters_of Tryz.func155 (by kernel_rfl) rfl)
   (Q0k (3-1) (C+1) n HN.out w3 BN.out) (by have:=HZ3.out;omega) Y4.trans (fun W l o o' hl _ _ _=>Y4.putObj W o' (by have:=HZ3.out;omega)) (Below.refl _ _) (fun _=>rfl)
   (ZD w C old) (ZD.own (by have:=HZ3.out;omega)) (fun pre W v h=>h.set v HWC.out) HI0.out 7 (fun x=>.int .u8 (x:Nat)) ?assign ?body ?done
 case assign =>
   intro l x W K hK;simp at hK ⊢;gi_wp2;exact hK
 case body =>
   rintro l pre x W ⟨v,xn,hbn,hb,ho,hvb,hf⟩ hlt;simp;obtain⟨A4,n4,c4,rfl,hn4⟩:=ho.form';have c0:=hb.cell 0;simp at c0;have HB:=hd_ hb;have HBN:=hd_ hbn;have HO:=hd_ ho;have HVB:=hd_ hvb;have HF:=hd_ hf;have HLT:=hd_ hlt;have hrd:Rd (W.alloc (.cells #[.int .u8 (x:Nat)] 5)) (fun b=>b=W.heap.size) (some ⟨W.heap.size,0,none⟩) 1 [.int .u8 (x:Nat)]:=Rd.one _ _ _;have HRD:=hd_ hrd;clear hb hbn ho hvb hf hrd hn4 hlt;gi_wp2_with (gi_at_builtin;refine VT _ rfl (.tmp 15) (.tmp 17) _ rfl 5 _ 1 Tryz.underlying22 Y5 rfl (.slice A4 n4 c4) (Qa (old++pre)) rfl (HO.out.alloc _) _ 1 _ _ rfl HRD.out (by simp [Value.oneCell']) (by omega) (by have:=HLT.out;have:=HOL.out;rw [Qp,List.length_append];omega) ?_);intro v5 w5 o5 g5 a5;have hne:(Value.slice A4 n4 c4).ownBlock≠some C:=HO.out.ne_blk HB.out (by decide);have b5:=(HB.out.alloc (.cells #[.int .u8 (x:Nat)] 5)).grown g5 hne;have u5:Upd (fun b=>(Value.slice A4 n4 c4).ownBlock=some b) W w5:=((Upd.refl _ W).alloc _).grown g5 (fun k hk _=>hk);obtain⟨A6,n6,c6,rfl,hn6⟩:=o5.form';have c5:=b5.cell 0;have z5:=b5.frozen 0;simp at c5;have hvb5:∀b,(Value.slice A6 n6 c6).ownBlock=some b->w.heap.size<=b:=YD (S:=fun b=>w.heap.size<=b) a5 (fun k hk=>HVB.out k hk) (by have:=HF.out.size;simp;omega);have hne5:(Value.slice A6 n6 c6).ownBlock≠some C:=o5.ne_blk b5 (by decide);have HB5:=hd_ b5;have HO5:=hd_ (show Own w5 5 (.slice A6 n6 c6) (Qa (old++(pre++[x]))) by rw [<-List.append_assoc];simpa [Qa]using o5);have HU5:=hd_ u5;have HV5:=hd_ hvb5;clear b5 o5 u5 hvb5 a5 g5 hn6;gi_wp2;have us:Upd (fun b=>b=C) w5 (w5.setCell ⟨C,0,none⟩ (.slice A6 n6 c6)):=(Upd.refl (fun b=>b=C) w5).setCell (p:=⟨C,0,none⟩) (fun _=>rfl) _;have bs:=HB5.out.set_ 0 (.slice A6 n6 c6);simp at bs;have hnb:¬(Value.slice A4 n4 c4).ownBlock=some (C+1):=fun h=>HO.out.ne_blk HBN.out (by decide) h;refine⟨(Yf _ HU5.out (fun k _ hk=>⟨_,HO.out.blk hk⟩)).trans (Yf _ us (fun k _ hk=>by obtain rfl:k=C:=hk;exact⟨_,_,HB5.out⟩)),(Y4.upd HU5.out hnb).trans (Y4.upd us (by omega)),_,_,(HBN.out.upd HU5.out hnb).upd us (by omega),bs,HO5.out.far hne5 _,HV5.out,?_⟩;exact(HF.out.trans HU5.out (fun b hb h=>by have:=HVB.out b h;omega)).trans us (fun b hb h=>by have:=HWC.out;omega)
 case done =>
   rintro D ys W hD rfl ⟨v,x,-,hb,ho,hvb,hf⟩ hK;obtain⟨A4,n4,c4,rfl,hn4⟩:=ho.form';have c0:=hb.cell 0;simp at c0;have HO:=hd_ ho;have HVB:=hd_ hvb;have HF:=hd_ hf;have HK:=hd_ hK;clear hb ho hvb hf hK hn4;go_wp2_with fail;refine⟨by simp,.inl ⟨_,_,rfl,run_takeDeferred HK.out,?_⟩⟩;refine⟨_,results_tmp2 rfl _ _ _,?_⟩;have u7:Upd (fun b=>b=D) W (W.putObj D (.deferred none)):=(Upd.refl (fun b=>b=D) W).grown (grownBy_putObj' W D _) (fun k e _=>by injection e with e;exact e.symm);refine hR.out _ _ ⟨_,rfl,HO.out.upd u7 (fun b hb e=>?_),HF.out.trans u7 (fun b hb e=>by have:=HZ3.out;have:=HWC.out;omega),HVB.out⟩;obtain⟨cs,hbb⟩:=HO.out.blk hb;subst e;rw [show W.heap[b]?=_ from hbb]at HK;have:=HK.out;injection this with h;cases h
end Go.Proofs.YtckjdhaflokcgaaGreat
