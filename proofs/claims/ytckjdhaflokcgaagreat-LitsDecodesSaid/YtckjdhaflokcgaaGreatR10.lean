/- Contracts and plain lemmas, part 10. Conditions: none beyond those of each. -/
import Derived.Lib.ItoaNum
import Derived.Test.YtckjdhaflokcgaaGreatR9
set_option maxHeartbeats 4000000
set_option linter.unusedVariables false
set_option linter.unusedSimpArgs false
set_option linter.unnecessarySimpa false
set_option maxRecDepth 100000
namespace Go.Proofs.YtckjdhaflokcgaaGreat
open Go.Proofs.Tryz
def QA (m:Nat):Nat:=Lib.bitLen m-1
def Jh (m:Nat):Nat:=2^(QA m+1)-m
theorem Zl (m:Nat) (h0:m≠0) (h:m<2^64):2^QA m<=m/\m<2^(QA m+1):=by
 obtain⟨h1,h2,h3⟩:=Lib.bitLenAux_bounds 64 m h h0;unfold QA Lib.bitLen;exact⟨h2,by rw [show Lib.bitLenAux 64 m-1+1=Lib.bitLenAux 64 m by omega];exact h3⟩
theorem Q1T (m k:Nat) (h0:m≠0) (h:m<2^k) (hk:k<=64):QA m<k:=by
 have hm:m<2^64:=Nat.lt_of_lt_of_le h (Nat.pow_le_pow_right (by omega) hk);have:=(Zl m h0 hm).1;exact(Nat.pow_lt_pow_iff_right (by omega)).1 (Nat.lt_of_le_of_lt this h)
theorem Q5u (m:Nat) (h0:m≠0) (h:m<2^64):1<=Lib.bitLen m:=(Lib.bitLenAux_bounds 64 m h h0).1
def V8 (n m:Nat):List Bool :=
  if n<Jh m then Qr (QA m) n else Qr (QA m) ((n+Jh m) / 2)++Qr 1 (n+Jh m)
def ZH (z:Nat):List Bool:=(List.replicate (z / 3) (Qr 2 3)).flatten++Qr 2 (z%3)
def Jy (l:List Int):Nat:=(l.takeWhile (· == 0)).length
def YO (left:Nat) (skip:Nat):List Int->List Bool
  | []=>[]
  | n::rest=>match skip with
    | s+1=>YO left s rest
    | 0=>V8 (n+1).toNat (left+2)++(if n=0 then ZH (Jy rest)++YO left (Jy rest) rest else YO (left-n.natAbs) 0 rest)
def X7 (lg:Nat) (N:List Int):List Bool:=Qr 4 (lg-1)++YO (2^lg) 0 N
theorem KK (l:List Int):Jy (0::l)=Jy l+1:=by simp [Jy]
theorem Vt (n:Int) (l:List Int) (h:n≠0):Jy (n::l)=0:=by simp [Jy,h]
theorem XI:∀(left s:Nat) (l:List Int),s<=l.length->YO left s l=YO left 0 (l.drop s)
 | left,0,l,_=>by simp
 | left,s+1,[],h=>by simp at h
 | left,s+1,n::l,h=>by
   rw [List.drop_succ_cons,<-XI left s l (by simpa using h)]
   rfl
theorem Q4p (left:Nat) (n:Int) (rest:List Int) (h:n≠0):YO left 0 (n::rest)=V8 (n+1).toNat (left+2)++YO (left-n.natAbs) 0 rest:=by
 simp [YO,h]
theorem Q33 (left:Nat) (rest:List Int):YO left 0 (0::rest)=V8 1 (left+2)++(ZH (Jy rest)++YO left (Jy rest) rest):=by
 simp [YO]
def Qb9 (j:Nat):List Bool:=(List.replicate j (Qr 2 3)).flatten
end Go.Proofs.YtckjdhaflokcgaaGreat
namespace Go.Proofs.YtckjdhaflokcgaaGreat
open Go.RowKit Go.Proofs.Tryz
theorem Q5v (p:Nat) (h:p<=9):wrap64 (2^p)=((2^p:Nat):Int):=by
 have hpow:2^p<=512:=Nat.le_trans (Nat.pow_le_pow_right (n:=2) (by omega) h) (by decide);obtain⟨q,hq⟩:=nm_ (2^p);(have hq5:q<=512:=by rw [hq];exact hpow);rw [show(2:Int)^p=(q:Int) by rw [hq];simp,<-hq];unfold wrap64;omega
theorem Qad (m:Nat) (w:World) (h0:1<=m) (h:m<=100000) :
   Calls prog 312 #[.int .i64 m] w λe w'=>e = .returned (.tuple #[.int .i64 (QA m),.int .i64 (Jh m)])/\∃k,w'=w.drewN k:=by
 have hb:=Q5u m (by omega) (by omega);have hc:=Zl m (by omega) (by omega);have hlt:=Q1T m 17 (by omega) (by omega) (by omega);(have hB:Lib.bitLen (m:Int).toNat=QA m+1:=by rw [Int.toNat_natCast];unfold QA;omega)
 have hU:wrap64 (wrap64 ((2:Int)*2^(QA m))-m)=(Jh m:Int):=by
   have h2:2^QA m<=2^16:=Nat.pow_le_pow_right (by omega) (by omega);rw [show(2:Int)*2^(QA m)=((2^(QA m+1):Nat):Int) by simp [Int.pow_succ,Int.mul_comm]];unfold Jh wrap64;rw [Nat.pow_succ]at *;omega
 generalize Jh m=u at *;generalize QA m=b at *;have HB:=hd_ hB;have HU:=hd_ hU;clear hB hU hc hb;refine Q8 λR hR=>?_;go_enter func312,ntmps312;go_wp2_with (go_at_call 227;refine(bits_Len (m:Int) w (by omega) (by omega)).mono ?_;rintro e w' ⟨rfl,hw⟩;have hw:=hw.symm;subst hw;rw [HB.out]);go_quiet (fail);go_wp2;(try go_ret2);refine hR.out _ _ ⟨?_,_,rfl⟩;show Ending.returned (.tuple #[.int .i64 b,.int .i64 (wrap64 (wrap64 (2*2^b)-m))])=_;rw [HU.out]
def Q2 (bs:List Nat):List Value:=bs.map λb=>.int .u8 (b:Nat)
@[simp] theorem QL (bs:List Nat):(Q2 bs).length=bs.length:=by simp [Q2]
theorem Jo (bs:List Nat):∀u∈Q2 bs,u.oneCell'=true:=by
 intro u hu;obtain⟨_,_,rfl⟩:=List.mem_map.1 hu;rfl
def Qu (w w':World) (v:Value) (bs:List Nat):Prop:=Own w' 5 v (Q2 bs)/\Q0 w w'/\∀k,v.ownBlock=some k->w.heap.size<=k
end Go.Proofs.YtckjdhaflokcgaaGreat
namespace Go.Proofs.YtckjdhaflokcgaaGreat
open Go.RowKit Go.Shelf Go.Proofs.Tryz
attribute [local go_sem] Oper.semAt_some
theorem Own.kept {W W':World} {e:TypeId} {v:Value} {xs:List Value} {row:Option Nat} (h:Own W e v xs) (hg:W.grownBy W' row) (hr:∀r,row=some r->∃o:Obj,W.heap[r]?=some o/\o.isCells=false):Own W' e v xs:=by
 refine h.upd (S:=λb=>row=some b) ((Upd.refl _ W).grown hg λk hk _=>hk) λb hb hs=>?_;obtain⟨o,ho,hc⟩:=hr b hs;rcases h.2 with ⟨rfl,_⟩|⟨g,cap,cur,rfl,_,hh,_⟩
 . simp [Value.ownBlock]at hb
 (have:g=b:=by simpa [Value.ownBlock]using hb);subst this;rw [hh]at ho;injection ho with ho;subst ho;cases hc
theorem Blk.kept {W W':World} {g:Nat} {t:TypeId} {cs:Array Value} {row:Option Nat} (h:Blk W g t cs) (hg:W.grownBy W' row) (hr:∀r,row=some r->∃o:Obj,W.heap[r]?=some o/\o.isCells=false):Blk W' g t cs:=by
 refine h.grown hg λhs=>?_;obtain⟨o,ho,hc⟩:=hr g hs;rw [show W.heap[g]?=_ from h]at ho;injection ho with ho;subst ho;cases hc
theorem J9 {S:Nat->Prop} {W W':World} (B:Nat) (h:Upd S W W') (hs:∀k,k<W.heap.size->S k->∃t cs,Blk W k t cs):KeepsFrom B W W':=by
 refine⟨h.size,λk o _ hk ho=>?_⟩;have hlt:=(Array.getElem?_eq_some_iff.1 hk).1;by_cases hS:S k
 . obtain⟨t,cs,hb⟩:=hs k hlt hS
   rw [show W.heap[k]?=_ from hb]at hk;injection hk with hk;subst hk;cases ho
 rw [h.block k hlt hS];exact hk
theorem Q3o {F':Nat->Prop} {F:Fence} {n':Nat} {P:Program} (w:World) {ops:Array Oper} {rest:List Oper} {o:Oper} {a:Act} {Q:Exit->Act->World->Prop} (hgd:o.guard=none) (s x:Operand) (t:TypeId)
   (ho:o.op = .call { callee:=.builtin .append,args:=#[s,x],argTypes:=#[t,t] })
   (e:TypeId) (z:Value) (Q2:Nat) (ht:P.underlying t=some (.slice e)) (hi:(P.info? e).map (λi=>(i.zero,i.size,i.bytes))=some (some z,1,Q2)) (hzs:z.cells.size=1)
   (v:Value) (xs:List Value) (hs:a.eval s=v) (hown:Own w e v xs) (A:Option Addr) (m c:Nat) (news:List Value) (hx:a.eval x = .slice A m c) (hr:Rd w F' A m news) (h1:∀u∈news,u.oneCell'=true)
   (hb:Q2<=64) (hlen:xs.length+m<=2^40)
   (h:∀v' w',Own w' e v' (xs++news)->w.grownBy w' v.ownBlock->(v'.ownBlock=v.ownBlock\/v'.ownBlock=some w.heap.size)->wpListIn F n' P ops Q rest (a.put o.dst v') w'):wpListIn F n' P ops Q (o::rest) a w:=by
 refine wpListIn_plain hgd λK hK=>?_;obtain⟨v',w',hrun,h2,h3,h4⟩:=Q54 (P:=P) w t o.type e z Q2 ht hi hzs v xs hown A m c news hr h1 hb hlen;unfold Oper.wpIn;refine⟨?_,?_⟩
 . simp [Oper.about,ho,resolve,Target.leads,Sem.run_pure]
 rw [Oper.semAt_plain F _ _ (by rw [ho];intro c hc';cases hc')];simp [execOp,ho,resolve,invoke,builtin,hs,hx,hrun,Result.andThen];exact hK _ _ (h v' w' h2 h3 h4)
theorem Own.blk {w:World} {e:TypeId} {v:Value} {xs:List Value} (h:Own w e v xs) {b:Nat} (hb:v.ownBlock=some b):∃cs,Blk w b e cs:=by
 rcases h.2 with ⟨rfl,_⟩|⟨g,cap,cur,rfl,_,hh,_⟩
 . simp [Value.ownBlock]at hb
 (have:g=b:=by simpa [Value.ownBlock]using hb);subst this;exact⟨cur,hh⟩
theorem Q5w (n:Int) (w:World) :
   Calls prog 104 #[.int .u64 n] w λe w'=>e = .returned (.func (.func 155) #[] #[.pointer (some ⟨w.heap.size,0,none⟩)])/\w'=w.alloc (.cells #[.int .u64 n] 80):=by
 go_enter func104,ntmps104;go_wp2_with fail;(try go_ret);exact⟨rfl,rfl⟩
def Qbf (w:World) (C:Nat) (n:Int) (pre:List Nat) (W:World):Prop :=
  ∃v,Blk W (C+1) 80 #[.int .u64 n]/\Blk W C 22 #[v]/\Own W 5 v (Q2 pre)/\(∀b,v.ownBlock=some b->w.heap.size<=b)/\Q0 w W
theorem XN {F:Fence} {n:Nat} {P:Program} {α:Type} {g:Operand} {ps:Array Tmp} {assign body:Code} {Q:Exit->Act->World->Prop} {a:Act} {w:World}
   (hro:F.round=none) (h1:1<=n) {gf:Nat} {lb:Array Value} (hg:a.eval g = .func (.func gf) #[] lb) (hFg:F.fn gf) (eg:∀args w,(callFunc gf args).run P w = .ok (.enter gf args) w)
   {encs:α->Array Value} {Kp:World->World->Prop} {S Sp:List α->Prop} {N:Nat} {w0:World} (hseq:SeqStopsK F (n-1) P gf lb encs Kp S Sp N w0)
   (hKt:∀ {A B C:World},Kp A B->Kp B C->Kp A C) (hKb:∀(W:World) (l:Nat) (o o':Obj),w.heap.size<=l->W.heap[l]?=some o->o.isCells=false->o.isWalk=false->Kp W (W.putObj l o')) (hb0:Below w0.heap.size w0 w) (hps:∀x,(encs x).size=ps.size)
   (I:List α->World->Prop) (Ix:Code->List α->World->Prop) (hI:OwnFrom w.heap.size I) (hIx:∀c,OwnFrom w.heap.size (Ix c)) (h0:I [] w) (d1 d2:Nat) (dv:α->Value) (t:TypeId) (cs:α->Array Value)
   (hKa:∀pre W o,I pre W->Kp W (W.alloc o)) (hIs:∀pre W,I pre W->w.heap.size<=W.heap.size)
   (hassign:∀(l:Nat) (x:α) (W:World) (K:Act->World->Prop),K { tmps:=(((ps.zip (encs x)).foldl (λt (p,v)=>t.setIfInBounds p v) a.tmps).setIfInBounds d1 (dv x)).setIfInBounds d2 (.pointer (some ⟨W.heap.size,0,none⟩)),defers:=[] } (W.alloc (.cells (cs x) t)) ->
     assign.wpIn (F.inRound l) (n-1-1) P (Exit.then K (λ_ _ _=>False)) { tmps:=(ps.zip (encs x)).foldl (λt (p,v)=>t.setIfInBounds p v) a.tmps,defers:=[] } W)
   (hbody:∀(l:Nat) (pre:List α) (x:α) (X:Nat) (W:World),I pre W->Blk W X t (cs x)->w.heap.size<=X->pre.length<N ->
     body.wpIn (F.inRound l) (n-1-1) P (ownPostG w.heap.size Kp I Ix (pre++[x]) W) { tmps:=(((ps.zip (encs x)).foldl (λt (p,v)=>t.setIfInBounds p v) a.tmps).setIfInBounds d1 (dv x)).setIfInBounds d2 (.pointer (some ⟨X,0,none⟩)),defers:=[] } W)
   (hdone:∀(D:Nat) (xs:List α) (W:World),w.heap.size<=D->S xs->I xs W->W.heap[D]?=some (.deferred (some []))->Q .normal { a with defers:={ target:=.collected D,args:=#[] } :: a.defers } W)
   (hstop:∀(D:Nat) (c:Code) (pre:List α) (W:World),w.heap.size<=D->Sp pre->Ix c pre W->W.heap[D]?=some (.deferred (some []))->c.wpIn F n P Q { a with defers:={ target:=.collected D,args:=#[] } :: a.defers } W) :
   (Code.rangeFunc g ps assign body).wpIn F n P Q a w:=by
 refine wpIn_rangeFunc_ownH hro h1 hg hFg eg hseq (λh k=>hKt h k) hKb hb0 hps I Ix hI hIx h0
   (λx a' W=>∃X,a'={ tmps:=(((ps.zip (encs x)).foldl (λt (p,v)=>t.setIfInBounds p v) a.tmps).setIfInBounds d1 (dv x)).setIfInBounds d2 (.pointer (some ⟨X,0,none⟩)),defers:=[] }/\Blk W X t (cs x)/\w.heap.size<=X)
   ?_ ?_ ?_ hdone hstop
 . rintro x a' s W W' row ⟨X,h1,h2,h3⟩ hgr hr
   exact⟨X,h1,h2.kept hgr λr e=>(hr r e).2,h3⟩
 . intro l pre x W K hi hK
   refine hassign l x W K (hK _ _ (J9 _ ((Upd.refl (λ_=>False) W).alloc _) (λk _ h=>h.elim)) (hKa pre W _ hi) (hI.alloc _ hi) ⟨W.heap.size,rfl,Qb rfl _ _,hIs pre W hi⟩)
 rintro l pre x a' W _ _ hi ⟨X,rfl,hb,hx⟩ hlen;exact hbody l pre x X W hi hb hx hlen
def Q3p {α:Type} (F:Fence) (n:Nat) (P:Program) (g:Nat) (lb:Array Value) (Bn:Nat) (encs:α->Array Value) (Kp:World->World->Prop) (S:List α->Prop) (N:Nat) (w:World):Prop :=
  ∀(l:Nat) (J:List α->World->Prop) (W:World),Below w.heap.size w W->AbidesFrom W.heap.size J->(∀pre W1 v,J pre W1->J pre (W1.setCell ⟨Bn,0,none⟩ v)) ->
    (∀pre x W1,J pre W1->pre.length<N->YieldAt F (n-1) P l (encs x) W1 λe W'=>e = .returned (.bool true)/\J (pre++[x]) W'/\Kp W1 W')->J [] W ->
    CallsIn F n P g (#[.func (.yield l) #[] #[]]++lb) W λe W'=>(∃v,e = .returned v)/\∃xs,S xs/\J xs W'
theorem Q3q {W:World} {B k:Nat} {o:Obj} (v:Value) (h:W.heap[k]?=some o) (hne:k≠B):(W.setCell ⟨B,0,none⟩ v).heap[k]?=some o :=
 (Below.heap_setCell W ⟨B,0,none⟩ v k hne).trans h
theorem XO {F:Fence} {n:Nat} {P:Program} {α:Type} {g:Operand} {ps:Array Tmp} {assign body:Code} {Q:Exit->Act->World->Prop} {a:Act} {w:World}
   (hro:F.round=none) (h1:1<=n) {gf:Nat} {lb:Array Value} (hg:a.eval g = .func (.func gf) #[] lb) (hFg:F.fn gf) (eg:∀args w,(callFunc gf args).run P w = .ok (.enter gf args) w)
   {encs:α->Array Value} {Kp:World->World->Prop} {S:List α->Prop} {N Bn:Nat} {w0:World} (hseq:Q3p F (n-1) P gf lb Bn encs Kp S N w0) (hBn:Bn<w.heap.size)
   (hKt:∀ {A B C:World},Kp A B->Kp B C->Kp A C) (hKb:∀(W:World) (l:Nat) (o o':Obj),w.heap.size<=l->W.heap[l]?=some o->o.isCells=false->o.isWalk=false->Kp W (W.putObj l o')) (hb0:Below w0.heap.size w0 w) (hps:∀x,(encs x).size=ps.size)
   (I:List α->World->Prop) (hI:OwnFrom w.heap.size I) (hIw:∀pre W v,I pre W->I pre (W.setCell ⟨Bn,0,none⟩ v)) (h0:I [] w) (d:Nat) (dv:α->Value)
   (hassign:∀(l:Nat) (x:α) (W:World) (K:Act->World->Prop),K { tmps:=((ps.zip (encs x)).foldl (λt (p,v)=>t.setIfInBounds p v) a.tmps).setIfInBounds d (dv x),defers:=[] } W ->
     assign.wpIn (F.inRound l) (n-1-1) P (Exit.then K (λ_ _ _=>False)) { tmps:=(ps.zip (encs x)).foldl (λt (p,v)=>t.setIfInBounds p v) a.tmps,defers:=[] } W)
   (hbody:∀(l:Nat) (pre:List α) (x:α) (W:World),I pre W->pre.length<N ->
     body.wpIn (F.inRound l) (n-1-1) P (λe _ W'=>e = .normal/\KeepsFrom w.heap.size W W'/\Kp W W'/\I (pre++[x]) W') { tmps:=((ps.zip (encs x)).foldl (λt (p,v)=>t.setIfInBounds p v) a.tmps).setIfInBounds d (dv x),defers:=[] } W)
   (hdone:∀(D:Nat) (xs:List α) (W:World),w.heap.size<=D->S xs->I xs W->W.heap[D]?=some (.deferred (some []))->Q .normal { a with defers:={ target:=.collected D,args:=#[] } :: a.defers } W) :
   (Code.rangeFunc g ps assign body).wpIn F n P Q a w:=by
 refine wpIn_rangeFunc λfn hfn=>?_;rw [hro];let s:=w.heap.size;obtain⟨rec,hrec⟩:∃rec:LoopState->Option Code->Loop,rec=λst pe=>{ state:=st,pending:=pe,fn,tmps:=a.tmps,params:=ps,assign,body,defers:=w.heap.size }:=⟨_,rfl⟩;obtain⟨W1,hW1⟩:∃W1,(w.alloc (.deferred (some []))).alloc (.loop (rec .ready none))=W1:=⟨_,rfl⟩;(have hs1:W1.heap.size=w.heap.size+2:=by rw [<-hW1];simp)
 have hL1:W1.heap[w.heap.size+1]?=some (.loop (rec .ready none)):=by
   rw [<-hW1];have:=World.alloc_heap_new (w.alloc (.deferred (some []))) (.loop (rec .ready none));rwa [World.size_alloc]at this
 have hK1:W1.heap[w.heap.size]?=some (.deferred (some [])):=by
   rw [<-hW1];exact(Below.heap_alloc _ _ _ (by simp)).trans (World.alloc_heap_new w _)
 (have hI1:I [] W1:=by rw [<-hW1];exact hI.alloc _ (hI.alloc _ h0))
 have hb1:Below w0.heap.size w0 W1:=by
   rw [<-hW1];exact hb0.trans ((((Below.refl _ w).alloc (Nat.le_refl _) _).alloc (by simp) _).mono hb0.size)
 refine⟨w.heap.size+1,[{ target:=.collected w.heap.size,args:=#[] }],W1,{ target:=.fn (.func gf) lb,args:=#[.func (.yield (w.heap.size+1)) #[] #[]] },W1,gf,
   #[.func (.yield (w.heap.size+1)) #[] #[]]++lb,W1,?_,?_,?_,?_,λ_=>h1,?_⟩
 . rw [<-hW1,hrec];exact run_enterLoop_outer _ _ _ _ _
 . simp only [resolve,hg]
   simp [go_sem]
 . intro f' hf';simp [Target.leads]at hf';subst hf';exact hFg
 . simp [invoke,go_sem,eg]
 have hnw:∀ {A:World} {row:Option Nat},(∀r,row=some r->W1.heap.size<=r/\∃o:Obj,A.heap[r]?=some o/\o.isWalk=true)->(∀r,row=some r->w.heap.size<=r/\∃o:Obj,A.heap[r]?=some o/\o.isCells=false) :=
   λhr r e=>by obtain⟨hB,o,ho,hw⟩:=hr r e;exact⟨by omega,o,ho,Obj.not_cells_of_walk hw⟩
 refine(hseq (w.heap.size+1)
   (λpre W=>I pre W/\W.heap[w.heap.size+1]?=some (.loop (rec .ready none))/\W.heap[w.heap.size]?=some (.deferred (some [])))
   W1 hb1
   (λs A B row hs hg' hr=>⟨hI s A B row hs.1 hg' (hnw hr),(grownBy_keeps hg' (λr e=>(hr r e).2) hs.2.1 rfl).trans hs.2.1,(grownBy_keeps hg' (λr e=>(hr r e).2) hs.2.2 rfl).trans hs.2.2⟩)
   (λpre W v hs=>⟨hIw pre W v hs.1,Q3q v hs.2.1 (by omega),Q3q v hs.2.2 (by omega)⟩)
   ?_ ⟨hI1,hL1,hK1⟩).mono ?_
 . rintro pre x W ⟨hi,hl,hk⟩ hlen
   have hlt:w.heap.size+1<W.heap.size:=(Array.getElem?_eq_some_iff.1 hl).1;have hy:=run_yield (P:=P) (args:=encs x) hl (by rw [hrec];exact hps x);rw [hrec]at hy;refine⟨fn,_,assign,body,hy,roundIn_of_wpIn hfn (hassign _ x W _ ⟨_,run_beginRound hl (by rw [hrec]),?_⟩)⟩;have hl2:(W.putObj (w.heap.size+1) (.loop { rec .ready none with state:=.busy })).heap[w.heap.size+1]?=some (.loop { rec .ready none with state:=.busy }):=World.putObj_heap_same hlt;have hk2:(W.putObj (w.heap.size+1) (.loop { rec .ready none with state:=.busy })).heap[w.heap.size]?=some (.deferred (some [])):=(World.putObj_heap_other (by omega)).trans hk;have hw2:Kp W (W.putObj (w.heap.size+1) (.loop { rec .ready none with state:=.busy })):=hKb _ _ _ _ (by omega) hl rfl rfl;refine wpIn_mono (hbody _ pre x _ (hI.putObj _ hi (by omega) hl rfl) hlen) ?_;rintro e a3 W3 ⟨rfl,hk3,hkp3,hi3⟩;have hl3:=hk3.same _ _ (by omega) hl2 rfl;have hr:=run_endRound (P:=P) none hl3;rw [hrec]at hr hl3;refine⟨_,_,hr,rfl,⟨hI.putObj _ hi3 (by omega) hl3 rfl,?_,(World.putObj_heap_other (by omega)).trans (hk3.same _ _ (Nat.le_refl _) hk2 rfl)⟩,hKt (hKt hw2 hkp3) (hKb _ _ _ _ (by omega) hl3 rfl rfl)⟩;rw [hrec];exact World.putObj_heap_same (Array.getElem?_eq_some_iff.1 hl3).1
 rintro e W2 ⟨⟨v,rfl⟩,xs,hS,hi,hl,hk⟩;exact⟨none,_,by have:=run_endLoop (P:=P) hl (by rw [hrec];simp);rw [hrec]at this;exact this,hdone _ xs _ (Nat.le_refl _) hS (hI.putObj _ hi (by omega) hl rfl) ((World.putObj_heap_other (by omega)).trans hk)⟩
attribute [local go_sem] Oper.semAt_some
def Z6:Nat->Nat->List Nat
  | 0,n=>[n]
  | f+1,n=>if n<128 then [n]else(n%128+128)::Z6 f (n / 128)
def YL (n:Nat):List Nat:=Z6 9 n
theorem Q2j:∀(f n:Nat),(Z6 f n).length<=f+1
 | 0,_=>by simp [Z6]
 | f+1,n=>by
   unfold Z6
   split
   . simp
   have:=Q2j f (n / 128);simp;omega
theorem Q74 (f n:Nat):0<(Z6 f n).length:=by
 (cases f<;>unfold Z6<;>(try split)<;>simp)
theorem Q0T (n:Nat):(YL n).length<=10:=Q2j 9 n
def Yx (b:Nat) (W W':World):Prop:=∀t cs,Blk W b t cs->Blk W' b t cs
theorem Yx.trans {b:Nat} {A B C:World} (h:Yx b A B) (k:Yx b B C):Yx b A C:=λt cs hb=>k t cs (h t cs hb)
theorem Yx.upd {S:Nat->Prop} {b:Nat} {W W':World} (h:Upd S W W') (hb:¬S b):Yx b W W':=λt cs k=>k.upd h hb
theorem Yx.putObj {b l:Nat} (W:World) (o':Obj) (h:b≠l):Yx b W (W.putObj l o') :=
 Yx.upd (S:=λk=>k=l) ((Upd.refl _ W).grown (grownBy_putObj' W l o') (λk e _=>by injection e with e;exact e.symm)) h
theorem QaU (x:Nat) (h:x<256):bits .or .u8 (x:Int) 128=((x%128+128:Nat):Int):=by
 (have:∀x:Fin 256,bits .or .u8 ((x.val:Nat):Int) 128=((x.val%128+128:Nat):Int):=by decide +kernel);exact this ⟨x,h⟩
theorem Q75 (F:Fence) (m l Bn n:Nat) (hft:F.fn 155) (hro:F.round=none) (hd:F.depth=none) (hn:n<2^62) (J:List Nat->World->Prop)
   (hJw:∀pre W v,J pre W->J pre (W.setCell ⟨Bn,0,none⟩ v))
   (hY:∀pre x W,J pre W->pre.length<10->YieldAt F (m-1) prog l #[.int .u8 (x:Nat)] W λe W'=>e = .returned (.bool true)/\J (pre++[x]) W'/\Yx Bn W W')
   (W:World) (hBn:Blk W Bn 80 #[.int .u64 (n:Nat)]) (h0:J [] W) :
   CallsIn F m prog 155 #[.func (.yield l) #[] #[],.pointer (some ⟨Bn,0,none⟩)] W λe W'=>(∃v,e = .returned v)/\∃ys,ys=YL n/\J ys W':=by
 obtain⟨Y,hYd⟩:=nm_ (YL n);have HYL:=hd_ (show Y.length<=10 by rw [hYd];exact Q0T n);have HYD:=hd_ hYd;have HN:=hd_ hn;rw [<-hYd];clear hn hYd;refine callsIn_of_wp func155 rfl hft ?_ hro;simp only [ntmps155,List.size_toArray,List.length_cons,List.length_nil,Nat.reduceAdd,Nat.reduceSub,Array.replicate_succ,Array.replicate_zero,List.push_toArray,List.append_toArray,List.nil_append,List.cons_append];gi_wp2;gi_loopg [] 9 (λf wr=>∃(q:Nat) (pre:List Nat),q<128^(f+1)/\q<2^62/\J pre wr/\Blk wr Bn 80 #[.int .u64 (q:Nat)]/\pre++Z6 f q=Y)
 case atStart=>exact⟨n,[],by have:=HN.out;omega,HN.out,h0,hBn,HYD.symm⟩
 case round =>
   obtain⟨q,pre,hq,hq2,hJ,hb,hpre⟩:=hrel;have c0:=hb.cell 0;have z0:=hb.frozen 0;simp at c0
   have hpl:pre.length<10:=by
     have h1:=HYL.out;have h2:=Q74 gk q;rw [<-hpre,List.length_append]at h1;omega
   have HB:=hd_ hb;have HJ:=hd_ hJ;have HPL:=hd_ hpl;by_cases hlt:q<128
   . have hqI:¬(128:Int)<=q:=by omega
     (have hv:Z6 gk q=[q]:=by cases gk<;>unfold Z6<;>simp [hlt]);rw [hv]at hpre;have HPR:=hd_ hpre;(have hwr:IntKind.u8.wrap (q:Int)=q:=by rw [IntKind.wrap_u8'];omega);have hy':=hY pre q wr hJ hpl;clear hq hq2 hlt hv hpre hb hJ hpl;obtain⟨fn,tmps,assign,body,hy,hR⟩:=hy';gi_wp2
     first
       | refine hR.mono ?_
       | refine⟨?_,?_,hR.mono ?_⟩
     rintro e W3 ⟨rfl,hJ3,hk3⟩;rw [HPR.out]at hJ3;clear hR hy;gi_wp2;go_end0;exact⟨⟨_,rfl⟩,_,rfl,hJ3⟩
   (have hqI:(128:Int)<=q:=by omega)
   obtain⟨f,rfl⟩:∃f,gk=f+1:=by
     cases gk with
     | zero=>simp at hq;omega
     | succ f=>exact⟨f,rfl⟩
   (have hv:Z6 (f+1) q=(q%128+128)::Z6 f (q / 128):=by conv=>lhs;unfold Z6;rw [if_neg hlt]);rw [hv]at hpre;have HPR:=hd_ (show(pre++[q%128+128])++Z6 f (q / 128)=Y by rw [<-hpre];simp);(have hwr:IntKind.u8.wrap (q:Int)=(q:Int)%256:=by rw [IntKind.wrap_u8']);(have hor:bits .or .u8 ((q:Int)%256) 128=(q:Int)%128+128:=by have:=QaU (q%256) (by omega);simp only [Int.natCast_emod,Int.natCast_add]at this;rw [show((256:Nat):Int)=256 from rfl]at this;rw [this];omega)
   have hsh:∀W,(Op.shift .shr .u64 (q:Int) .u64 7).run prog W = .ok (.int .u64 ((q / 128:Nat):Int)) W:=λW=>by
     (have h1:¬(7:Int)<0:=by omega);have h2:min (7:Int).toNat IntKind.u64.bits=7:=rfl;unfold Op.shift;rw [if_neg h1];simp only [h2];rw [Int.fdiv_eq_ediv_of_nonneg _ (Int.pow_nonneg (by decide))];rfl
   have HQ:=hd_ (show q / 128<128^(f+1)/\q / 128<2^62 from⟨by rw [Nat.div_lt_iff_lt_mul (by omega)];rw [Nat.pow_succ]at hq;exact hq,by omega⟩);have hy':=hY pre (q%128+128) wr hJ hpl;rw [show((q%128+128:Nat):Int)=(q:Int)%128+128 by omega]at hy';clear hq hq2 hlt hv hpre hb hJ hpl;obtain⟨fn,tmps,assign,body,hy,hR⟩:=hy';gi_wp2
   first
     | refine hR.mono ?_
     | refine⟨?_,?_,hR.mono ?_⟩
   rintro e W3 ⟨rfl,hJ3,hk3⟩;have b3:=hk3 _ _ HB.out;have c3:=b3.cell 0;have z3:=b3.frozen 0;simp at c3;have HJ3:=hd_ (hJw _ _ (.int .u64 ((q / 128:Nat):Int)) hJ3);have HB3:=hd_ (b3.set_ 0 (.int .u64 ((q / 128:Nat):Int)));clear hR hy hJ3 hk3 b3 c0 z0;gi_wp2;gi_roundg f
   case measure=>omega
   case rel=>exact⟨q / 128,_,HQ.1,HQ.2,HJ3.out,by simpa using HB3.out,HPR.out⟩
theorem Q5x (m Bn n:Nat) (hn:n<2^62) (w:World) (hB:Blk w Bn 80 #[.int .u64 (n:Nat)]) :
   Q3p Fence.wide m prog 155 #[.pointer (some ⟨Bn,0,none⟩)] Bn (λx:Nat=>#[Value.int .u8 (x:Nat)]) (Yx Bn) (λys=>ys=YL n) 10 w :=
 λl J W hW _ hJw hY h0=>Q75 Fence.wide m l Bn n trivial rfl rfl hn J hJw hY W (hB.upd (Upd.of_below hW:Q0 w W) (λh=>h)) h0
def XT (w:World) (C:Nat) (old:List Nat) (pre:List Nat) (W:World):Prop :=
  ∃v x,Blk W (C+1) 80 #[x]/\Blk W C 22 #[v]/\Own W 5 v (Q2 (old++pre))/\(∀b,v.ownBlock=some b->w.heap.size<=b)/\Q0 w W
theorem XT.own {w:World} {C B:Nat} {old:List Nat} (hB:w.heap.size<=B):OwnFrom B (XT w C old):=by
 intro pre W W' row h hg hr;obtain⟨v,x,h0,h1,h2,h3,h4⟩:=h;exact⟨v,x,h0.kept hg λr e=>(hr r e).2,h1.kept hg λr e=>(hr r e).2,h2.kept hg λr e=>(hr r e).2,h3,h4.grown hg λk hk hlt=>by have:=(hr k hk).1;omega⟩
theorem XT.set {w:World} {C:Nat} {old pre:List Nat} {W:World} (v:Value) (hC:w.heap.size<=C) (h:XT w C old pre W):XT w C old pre (W.setCell ⟨C+1,0,none⟩ v):=by
 obtain⟨u,x,h0,h1,h2,h3,h4⟩:=h;exact⟨u,v,by simpa using h0.set_ 0 v,h1.far (p:=⟨C+1,0,none⟩) (by simp) v,h2.far (p:=⟨C+1,0,none⟩) (h2.ne_blk h0 (by decide)) v,h3,h4.setCell (p:=⟨C+1,0,none⟩) (λh=>by simp at h;omega) v⟩
theorem Q1f (F0:Nat->Prop) (A0:Option Addr) (n0 c0:Nat) (old:List Nat) (n:Nat) (w:World) (hr0:Rd w F0 A0 n0 (Q2 old)) (hlen:n0<=2^32) (hn:n<2^62) :
   Calls prog 52 #[.slice A0 n0 c0,.int .u64 (n:Nat)] w λe w'=>∃v,e = .returned (.tuple #[v,.int .i64 0])/\Qu w w' v (old++YL n):=by
 (have hnI:¬(4611686018427387903:Int)<(n:Nat):=by omega);have HCL:=hd_ (YA A0 n0 c0 (Q2 old) w hr0 (λu hu=>by obtain⟨b,_,rfl⟩:=List.mem_map.1 hu;simp [Value.oneCell']) (by omega));have HN:=hd_ hn;have HOL:=hd_ (show old.length<=2^32 by have:=hr0.1;rw [QL]at this;omega);clear hn hr0 hlen;refine Q8 λR hR=>?_;refine(callsIn_wide (n:=3)).1 (callsIn_of_wp_marks func52 rfl trivial ?_ rfl);simp only [ntmps52,List.size_toArray,List.length_cons,List.length_nil,Nat.reduceAdd,Nat.reduceSub,Array.replicate_succ,Array.replicate_zero,List.push_toArray,List.append_toArray,List.nil_append,List.cons_append];refine wpIn_wide.2 ?_;go_wp2_with fail;refine HCL.mono ?_;rintro e w1 ⟨v1,rfl,o1,f1,hb1⟩;obtain⟨A1,n1,c1,rfl,hn1⟩:=o1.form';have O1:=hd_ o1;have HB1:=hd_ hb1;have F1:=hd_ f1;clear o1 hb1 f1;go_wp2_with fail;refine(Q5w _ _).mono ?_;rintro e w2 ⟨rfl,rfl⟩;go_wp2_with fail;obtain⟨C,hC⟩:=nm_ (w1.heap.size);obtain⟨w3,hw3⟩:=nm_ ((w1.alloc (.cells #[.slice A1 n1 c1] 22)).alloc (.cells #[.int .u64 n] 80));simp only [<-hC,<-hw3];(have f3:Q0 w1 w3:=by rw [hw3];exact((Upd.refl _ _).alloc _).alloc _);(have hz3:w3.heap.size=C+2:=by rw [hw3,hC];simp);(have bC:Blk w3 C 22 #[.slice A1 n1 c1]:=by rw [hw3];exact(Qb hC _ _).alloc _);(have bN:Blk w3 (C+1) 80 #[.int .u64 (n:Nat)]:=by rw [hw3];exact Qb (by simp [hC]) _ _);(have hwC:w.heap.size<=C:=by rw [hC];exact F1.size);have hI0:XT w C old [] w3:=⟨_,_,bN,bC,by simpa using O1.fresh f3,HB1.out,F1.trans' f3⟩;have HZ3:=hd_ hz3;have HWC:=hd_ hwC;have HI0:=hd_ hI0;have BN:=hd_ bN;clear hC hw3 f3 bC bN hn1 O1 HB1;refine(wpIn_wide (n:=3)).1 ?_
 refine XO (F:=Fence.wide) (n:=3) rfl (by omega) (gf:=155) (lb:=#[.pointer (some ⟨C+1,0,none⟩)]) rfl trivial (enters_of func155 (by kernel_rfl) rfl)
   (Q5x (3-1) (C+1) n HN.out w3 BN.out) (by have:=HZ3.out;omega) Yx.trans (λW l o o' hl _ _ _=>Yx.putObj W o' (by have:=HZ3.out;omega)) (Below.refl _ _) (λ_=>rfl)
   (XT w C old) (XT.own (by have:=HZ3.out;omega)) (λpre W v h=>h.set v HWC.out) HI0.out 7 (λx=>.int .u8 (x:Nat)) ?assign ?body ?done
 case assign =>
   intro l x W K hK;simp at hK|-;gi_wp2;exact hK
 case body =>
   rintro l pre x W ⟨v,xn,hbn,hb,ho,hvb,hf⟩ hlt;simp;obtain⟨A4,n4,c4,rfl,hn4⟩:=ho.form';have c0:=hb.cell 0;simp at c0;have HB:=hd_ hb;have HBN:=hd_ hbn;have HO:=hd_ ho;have HVB:=hd_ hvb;have HF:=hd_ hf;have HLT:=hd_ hlt;have hrd:Rd (W.alloc (.cells #[.int .u8 (x:Nat)] 5)) (λb=>b=W.heap.size) (some ⟨W.heap.size,0,none⟩) 1 [.int .u8 (x:Nat)]:=Rd.one _ _ _;have HRD:=hd_ hrd;clear hb hbn ho hvb hf hrd hn4 hlt;gi_wp2_with (gi_at_builtin;refine Q3o _ rfl (.tmp 15) (.tmp 17) _ rfl 5 _ 1 underlying22 JX rfl (.slice A4 n4 c4) (Q2 (old++pre)) rfl (HO.alloc _) _ 1 _ _ rfl HRD.out (by simp [Value.oneCell']) (by omega) (by have:=HLT.out;have:=HOL.out;rw [QL,List.length_append];omega) ?_);intro v5 w5 o5 g5 a5;have hne:(Value.slice A4 n4 c4).ownBlock≠some C:=HO.ne_blk HB.out (by decide);have b5:=(HB.alloc (.cells #[.int .u8 (x:Nat)] 5)).grown g5 hne;have u5:Upd (λb=>(Value.slice A4 n4 c4).ownBlock=some b) W w5:=((Upd.refl _ W).alloc _).grown g5 (λk hk _=>hk);obtain⟨A6,n6,c6,rfl,hn6⟩:=o5.form';have c5:=b5.cell 0;have z5:=b5.frozen 0;simp at c5;have hvb5:∀b,(Value.slice A6 n6 c6).ownBlock=some b->w.heap.size<=b:=Yj (S:=λb=>w.heap.size<=b) a5 (λk hk=>HVB k hk) (by have:=HF.size;simp;omega);have hne5:(Value.slice A6 n6 c6).ownBlock≠some C:=o5.ne_blk b5 (by decide);have HB5:=hd_ b5;have HO5:=hd_ (show Own w5 5 (.slice A6 n6 c6) (Q2 (old++(pre++[x]))) by rw [<-List.append_assoc];simpa [Q2]using o5);have HU5:=hd_ u5;have HV5:=hd_ hvb5;clear b5 o5 u5 hvb5 a5 g5 hn6;gi_wp2;have us:Upd (λb=>b=C) w5 (w5.setCell ⟨C,0,none⟩ (.slice A6 n6 c6)):=(Upd.refl (λb=>b=C) w5).setCell (p:=⟨C,0,none⟩) (λ_=>rfl) _;have bs:=HB5.set_ 0 (.slice A6 n6 c6);simp at bs;have hnb:¬(Value.slice A4 n4 c4).ownBlock=some (C+1):=λh=>HO.ne_blk HBN.out (by decide) h;refine⟨(J9 _ HU5.out (λk _ hk=>⟨_,HO.blk hk⟩)).trans (J9 _ us (λk _ hk=>by obtain rfl:k=C:=hk;exact⟨_,_,HB5.out⟩)),(Yx.upd HU5.out hnb).trans (Yx.upd us (by omega)),_,_,(HBN.upd HU5.out hnb).upd us (by omega),bs,HO5.far hne5 _,HV5.out,?_⟩;exact(HF.trans HU5.out (λb hb h=>by have:=HVB b h;omega)).trans us (λb hb h=>by have:=HWC.out;omega)
 case done =>
   rintro D ys W hD rfl ⟨v,x,-,hb,ho,hvb,hf⟩ hK;obtain⟨A4,n4,c4,rfl,hn4⟩:=ho.form';have c0:=hb.cell 0;simp at c0;have HO:=hd_ ho;have HVB:=hd_ hvb;have HF:=hd_ hf;have HK:=hd_ hK;clear hb ho hvb hf hK hn4;go_wp2_with fail;refine⟨by simp,.inl ⟨_,_,rfl,run_takeDeferred HK.out,?_⟩⟩;refine⟨_,results_tmp2 rfl _ _ _,?_⟩;have u7:Upd (λb=>b=D) W (W.putObj D (.deferred none)):=(Upd.refl (λb=>b=D) W).grown (grownBy_putObj' W D _) (λk e _=>by injection e with e;exact e.symm);refine hR.out _ _ ⟨_,rfl,HO.upd u7 (λb hb e=>?_),HF.trans u7 (λb hb e=>by have:=HZ3.out;have:=HWC.out;omega),HVB.out⟩;obtain⟨cs,hbb⟩:=HO.blk hb;subst e;rw [show W.heap[b]?=_ from hbb]at HK;have:=HK.out;injection this with h;cases h
end Go.Proofs.YtckjdhaflokcgaaGreat
namespace Go.Proofs.YtckjdhaflokcgaaGreat
open Go.RowKit Go.Proofs.Tryz
def KE (k:Nat) (four:Bool):Nat:=k+if four then 4 else 0
theorem or4:∀k:Fin 4,bits .or .u8 ((k.val:Nat):Int) 4=((k.val+4:Nat):Int):=by decide +kernel
theorem Q55 (W:World) (x:Nat):Rd (W.alloc (.cells #[.int .u8 (x:Nat)] 5)) (λ_=>True) (some ⟨W.heap.size,0,none⟩) 1 (Q2 [x]):=by
 refine⟨by simp [Q2],λ_=>⟨W.heap.size,0,rfl,trivial,(Blk.new W 5 #[.int .u8 (x:Nat)]).lt,λj hj=>?_⟩⟩;(obtain rfl:j=0:=by omega);have h:=(Blk.new W 5 #[.int .u8 (x:Nat)]).cell 0;simpa [Q2]using h
theorem Q5y (k s:Nat) (four:Bool) (w:World) (hk:k<4) (hs:s<=2^40) :
   Calls prog 82 #[.agg #[.int .i64 k,.bool four,.int .i64 s]] w λe w'=>∃v,e = .returned v/\Qu w w' v (KE k four::YL s):=by
 obtain⟨w0,H,hw0,hH,f0,bt⟩:=al_ w 41 #[.int .i64 k,.bool four,.int .i64 s];obtain⟨q0,q1,q2⟩:=(bt).cells3;(have q3:∀c:Int,(w0.alloc (.cells #[.int .u8 c] 5)).cell? ⟨H,2,none⟩=some (.int .i64 s):=λc=>by simpa using(bt.alloc (.cells #[.int .u8 c] 5)).cell 2);(have hsI:(s:Int)<=1099511627776:=by(have:(2:Nat)^40=1099511627776:=by decide);omega);(have hkI:(k:Int)<4:=by omega);(have hwk:IntKind.u8.wrap (k:Int)=k:=by unfold IntKind.wrap;simp [IntKind.bits];omega);(have hws:IntKind.u64.wrap (s:Int)=s:=by unfold IntKind.wrap;simp [IntKind.bits];omega);have HPV:=hd_ (λx W (hx:x<256)=>Q1f (λ_=>True) (some ⟨W.heap.size,0,none⟩) 1 1 [x] s (W.alloc (.cells #[.int .u8 (x:Nat)] 5)) (Q55 W x) (by omega) (by omega));have HOR:=hd_ (show bits .or .u8 (k:Int) 4=((k+4:Nat):Int)from or4 ⟨k,hk⟩);have F0:=hd_ f0;have HW:=hd_ hw0;have HH:=hd_ hH;have HK:=hd_ hk;clear hw0 hH f0 bt hs hk;refine Q8 λR hR=>?_;go_enter func82,ntmps82;go_upto_region 1 with fail;simp only [<-HH.out,<-HW.out]
 cases four with
 | true =>
   have hor:bits .or .u8 (k:Int) 4=((k+4:Nat):Int):=HOR.out;go_wp2_with fail;have hpv:=HPV (k+4) w0 (by omega);refine hpv.mono ?_;rintro e w1 ⟨v,rfl,hv,fv,ov⟩;have FV:=hd_ ((F0.alloc _).trans' fv);have HV:=hd_ hv;have OV:=hd_ ov;clear hv fv ov hpv q3;go_wp2_with fail;refine(Yv _ _ _ (by simpa using(Blk.new w1 24 #[.int .i64 0]).cell 0)).mono ?_;rintro e w2 ⟨rfl,rfl⟩;go_wp2_with fail;(try go_ret);exact hR _ _ ⟨v,rfl,HV.alloc _,FV.alloc _,λb hb=>by have h1:=OV b hb;have h2:=F0.size;simp at h1;omega⟩
 | false =>
   go_wp2_with fail;have hpv:=HPV k w0 (by omega);refine hpv.mono ?_;rintro e w1 ⟨v,rfl,hv,fv,ov⟩;have FV:=hd_ ((F0.alloc _).trans' fv);have HV:=hd_ hv;have OV:=hd_ ov;clear hv fv ov hpv q3;go_wp2_with fail;refine(Yv _ _ _ (by simpa using(Blk.new w1 24 #[.int .i64 0]).cell 0)).mono ?_;rintro e w2 ⟨rfl,rfl⟩;go_wp2_with fail;(try go_ret);exact hR _ _ ⟨v,rfl,HV.alloc _,FV.alloc _,λb hb=>by have h1:=OV b hb;have h2:=F0.size;simp at h1;omega⟩
theorem Own.head0 {w:World} {e:TypeId} {A:Option Addr} {n c:Nat} {xs:List Value} (h:Own w e (.slice A n c) xs):Own w e (.slice A 0 c) []:=by
 rcases h.2 with ⟨he,h0⟩|⟨g,cap,cur,he,hb,hg,hn,hm,hc,ht⟩
 . injection he with h1 h2 h3
   subst h1 h3;exact Own.nil w e
 injection he with h1 h2 h3;subst h1 h3;exact⟨rfl,.inr ⟨g,c,cur,rfl,hb,hg,Nat.zero_le _,hm,hc,by simp⟩⟩
theorem Q56 (A:Option Addr) (n c:Nat):Value.ownBlock (.slice A n c)=Value.ownBlock (.slice A 0 c):=by
 rcases A with _|⟨b,o,x⟩
 . rfl
 (cases o<;>cases x<;>rfl)
theorem Q8X (k:Nat) (w:World) (hk:k<=2^32) :
   Calls prog 141 #[.slice none 0 0,.int .i64 k] w λe w'=>∃v,e = .returned v/\Qu w w' v []:=by
 (have hkI:(k:Int)<=4294967296:=by omega);refine Q8 λR hR=>?_;by_cases h0:k=0
 . subst h0
   clear hk hkI;go_enter func141,ntmps141;go_wp2_with fail;(try go_ret);exact hR _ _ ⟨_,rfl,by simpa [Q2]using Own.nil w 5,Upd.refl _ _,λb hb=>by simp [Value.ownBlock]at hb⟩
 (have h1:0<(k:Int):=by omega);go_enter func141,ntmps141;go_wp2_with (at_builtin;go_must (refine Vg _ rfl (.tmp 20) (.tmp 21) _ _ rfl 5 (.int .u8 0) 1 .i64 .i64 underlying22 underlying3 JX rfl rfl _ _ rfl (Own.nil _ _) k rfl (by omega) (by simp;omega) ?_));intro v1 w1 o1 g1 a1;obtain⟨A1,n1,c1,rfl,hn1⟩:=o1.form';have O1:=hd_ o1.head0;have F1:=hd_ (show Q0 w w1 from(Upd.refl _ w).grown g1 (λj e _=>by simp [Value.ownBlock]at e))
 have B1:=hd_ (show ∀b,Value.ownBlock (.slice A1 0 c1)=some b->w.heap.size<=b from λb hb=>by
   rcases a1 with h|h
   . have h2:=Q56 A1 n1 c1
     rw [<-h2,h]at hb;simp [Value.ownBlock]at hb
   have h2:=Q56 A1 n1 c1
   rw [<-h2,h]at hb;injection hb with hb;omega)
 have hnc:=(o1.rd rfl).2.1;(have hcI:(0:Int)<=c1:=by omega);clear o1 g1 a1 hn1 hnc;go_wp2_with fail;(try go_ret);exact hR _ _ ⟨_,rfl,by simpa [Q2]using O1.out,F1.out,B1.out⟩
def Ja:List (List Nat)->Nat
  | []=>0
  | l::r=>l.length+Ja r
theorem Q0x (a b:List (List Nat)):Ja (a++b)=Ja a+Ja b:=by
 induction a with
 | nil=>simp [Ja]
 | cons x l ih=>simp only [List.cons_append,Ja,ih];omega
theorem Q2k {Ls:List (List Nat)} {k:Nat} (h:k<Ls.length):Ja (Ls.take (k+1))=Ja (Ls.take k)+Ls[k].length:=by
 rw [List.take_succ_eq_append_getElem h,Q0x];simp [Ja]
theorem Qae (Ls:List (List Nat)) (k:Nat):Ja (Ls.take k)<=Ja Ls:=by
 have h:=Q0x (Ls.take k) (Ls.drop k);rw [List.take_append_drop]at h;omega
theorem Q2l (Ls:List (List Nat)):Ls.flatten.length=Ja Ls:=by
 induction Ls with
 | nil=>rfl
 | cons x l ih=>simp [Ja,ih]
def K4 (w:World) (F:Nat->Prop) (P:Option Addr) (k:Nat) (Ls:List (List Nat)):Prop :=
  Ls.length=k/\∀i,(hi:i<Ls.length)->∃b o A n c,P=some ⟨b,o,none⟩/\b<w.heap.size/\w.cell? ⟨b,o+i,none⟩=some (.slice A n c)/\Rd w F A n (Q2 Ls[i])
theorem K4.fresh {w w':World} {F:Nat->Prop} {P:Option Addr} {k:Nat} {Ls:List (List Nat)} (h:K4 w F P k Ls) (hu:Q0 w w'):K4 w' F P k Ls :=
 ⟨h.1,λi hi=>by
   obtain⟨b,o,A,n,c,h1,h2,h3,h4⟩:=h.2 i hi
   exact⟨b,o,A,n,c,h1,Nat.lt_of_lt_of_le h2 hu.size,(hu.cell (p:=⟨b,o+i,none⟩) h2 (λh=>h)).trans h3,h4.fresh hu⟩⟩
theorem Q5z (F:Nat->Prop) (P:Option Addr) (k c:Nat) (Ls:List (List Nat)) (w:World) (hp:K4 w F P k Ls) (hk:k<=1000) (hs:Ja Ls<=2^32) :
   Calls prog 83 #[.slice P k c] w λe w'=>∃v,e = .returned v/\Qu w w' v Ls.flatten:=by
 (have hkI:(k:Int)<=1000:=by omega);have HL:=hd_ hp.1;have HP:=hd_ hp;have HS:=hd_ (λi=>Nat.le_trans (Qae Ls i) hs);have HGR:=hd_ (Q8X (Ja Ls) w hs);clear hp hk;refine Q8 λR hR=>?_;go_enter func83,ntmps83;go_wp2_with fail;go_loopg [3,11] k (λf vs vi wr=>wr=w/\∃i:Nat,i+f=k/\vi = .int .i64 i/\vs = .int .i64 (Ja (Ls.take i):Nat))
 case atStart=>exact⟨rfl,0,by omega,rfl,by simp [Ja]⟩
 case round =>
   obtain⟨w0,rfl⟩:=nm_ (wr);obtain⟨rfl,i,hi,rfl,rfl⟩:=hrel;have HI:=hd_ hi;by_cases hlt:i<k
   . have hlI:(i:Int)<k:=by omega
     (have hil:i<Ls.length:=by rw [HL.out];exact hlt);obtain⟨b,o,A,n,c1,rfl,_,hc,hr⟩:=HP.2 i hil;(have hn:Ls[i].length=n:=by have:=hr.1;rw [QL]at this;exact this);have HST:=hd_ (show Ja (Ls.take (i+1))=Ja (Ls.take i)+n by rw [Q2k hil,hn]);have h1:=HS (i+1);rw [HST.out]at h1;obtain⟨S,hS⟩:=nm_ (Ja (Ls.take i));simp only [<-hS]at HST h1|-;(have hSI:(S:Int)+n<=4294967296:=by omega);clear hr hn h1 hS hi;go_wp2_with fail;go_roundg (gk-1)
     case measure=>have:=HI.out;omega
     case rel=>exact⟨rfl,i+1,by have:=HI.out;omega,by go_num,by rw [HST.out];simp⟩
   (obtain rfl:i=k:=by omega);have htl:Ls.take i=Ls:=List.take_of_length_le (by rw [HL.out];exact Nat.le_refl _);rw [htl];have h1:=HS i;rw [htl]at h1;clear hi hlt htl HI;go_wp2_with fail;refine HGR.mono ?_;rintro e w1 ⟨v,rfl,ov,fv,bv⟩;have OV:=hd_ ov;have FV:=hd_ fv;have BV:=hd_ bv;clear ov fv bv HGR;go_wp2_with fail;go_loopg [6,27] i (λf v6 vi wr=>∃j:Nat,j+f=i/\vi = .int .i64 j/\Own wr 5 v6 (Q2 (Ls.take j).flatten)/\(∀b,v6.ownBlock=some b->w0.heap.size<=b)/\Q0 w0 wr)
   case atStart=>exact⟨0,by omega,rfl,by simpa using OV.out,BV.out,FV.out⟩
   case round =>
     obtain⟨j,hj,rfl,ov,bv,fv⟩:=hrel;have HJ:=hd_ hj;have hpw:=HP.fresh fv;by_cases hlt:j<i
     . have hlI:(j:Int)<i:=by omega
       (have hil:j<Ls.length:=by rw [HL.out];exact hlt);obtain⟨b,o,A,n,c1,rfl,_,hc,hr⟩:=hpw.2 j hil;(have hn:Ls[j].length=n:=by have:=hr.1;rw [QL]at this;exact this)
       have HFL:=hd_ (show Q2 (Ls.take (j+1)).flatten=Q2 (Ls.take j).flatten++Q2 Ls[j] by
         rw [List.take_succ_eq_append_getElem hil,List.flatten_append,List.flatten_cons,List.flatten_nil,List.append_nil];unfold Q2
         rw [List.map_append])
       have hst:=Q2k hil;have h2:=HS (j+1);(have hln:(Q2 (Ls.take j).flatten).length=Ja (Ls.take j):=by rw [QL,Q2l]);have OVV:=hd_ ov;have FVV:=hd_ fv;have BVV:=hd_ bv;have HR:=hd_ hr
       have h1b:∀u∈Q2 Ls[j],u.oneCell'=true:=by
         intro u hu;obtain⟨x,_,rfl⟩:=List.mem_map.1 hu;simp [Value.oneCell']
       clear ov fv bv hr hj hpw;go_wp2_with (at_builtin;go_must (refine Qm _ rfl (.tmp 31) (.tmp 32) _ rfl 5 _ 1 underlying22 JX rfl _ _ rfl OVV.out _ _ _ _ rfl HR.out h1b (by omega) (by rw [hln];omega) ?_));intro v' w2 o2 g2 a2;have f2:Q0 w0 w2:=FVV.grown g2 (λkk hkk hlt2=>by have:=BVV kk hkk;omega);have b2:∀kk,v'.ownBlock=some kk->w0.heap.size<=kk:=Yj (S:=λkk=>w0.heap.size<=kk) a2 BVV.out FVV.size;rw [<-HFL.out]at o2;have O2:=hd_ o2;have F2:=hd_ f2;have B2:=hd_ b2;clear o2 g2 a2 f2 b2 hst h2 hln h1b;go_wp2_with fail;go_roundg (gk-1)
       case measure=>have:=HJ.out;omega
       case rel=>exact⟨j+1,by have:=HJ.out;omega,by go_num,O2.out,B2.out,F2.out⟩
     (obtain rfl:j=i:=by omega);have htl:Ls.take j=Ls:=List.take_of_length_le (by rw [HL.out];exact Nat.le_refl _);rw [htl]at ov;have OVV:=hd_ ov;clear ov htl hpw;go_wp2_with fail;(try go_ret);exact hR _ _ ⟨_,rfl,OVV.out,fv,bv⟩
theorem Q0U (F:Nat->Prop) (P:Option Addr) (kp c k s:Nat) (four:Bool) (Ls:List (List Nat)) (w:World) (hp:K4 w F P kp Ls) (hkp:kp<=1000) (hs:Ja Ls<=2^32) (hk:k<4) (hs2:s<=2^40) :
   Calls prog 44 #[.agg #[.int .i64 k,.bool four,.int .i64 s],.slice P kp c] w λe w'=>∃v,e = .returned v/\Qu w w' v (KE k four::YL s++Ls.flatten):=by
 obtain⟨w0,H,hw0,hH,f0,bt⟩:=al_ w 41 #[.int .i64 k,.bool four,.int .i64 s];obtain⟨q0,q1,q2⟩:=(bt).cells3;have HHD:=hd_ (Q5y k s four w0 hk hs2);have HCO:=hd_ (λW (hW:Q0 w0 W)=>Q5z F P kp c Ls W ((hp.fresh f0).fresh hW) hkp hs);(have hln:(Q2 (KE k four::YL s)).length<=11:=by rw [QL];have:=Q0T s;simp;omega);have HFL:=hd_ (Q2l Ls);have HAP:=hd_ (show Q2 (KE k four::YL s)++Q2 Ls.flatten=Q2 (KE k four::YL s++Ls.flatten) by unfold Q2;rw [List.map_append]);have HSS:=hd_ hs;have F0:=hd_ f0;have HW:=hd_ hw0;have HH:=hd_ hH;obtain⟨T,hT⟩:=nm_ (KE k four::YL s);simp only [<-hT]at HHD hln HAP|-;clear hw0 hH f0 bt hs hk hp hkp hs2 hT;refine Q8 λR hR=>?_;go_enter func44,ntmps44;go_upto_region 1 with fail;simp only [<-HH.out,<-HW.out];go_wp2_with fail;refine HHD.mono ?_;rintro e w1 ⟨v,rfl,ov,fv,bv⟩;have hco:=HCO w1 fv;have HC:=hd_ hco;have OV:=hd_ ov;have FV:=hd_ (F0.trans' fv);have BV:=hd_ (show ∀b,v.ownBlock=some b->w.heap.size<=b/\b<w1.heap.size from λb hb=>⟨by have h1:=bv b hb;have h2:=F0.size;omega,ov.lt hb⟩);clear hco ov fv bv HHD HCO;go_wp2_with fail;refine HC.mono ?_;rintro e w2 ⟨v2,rfl,ov2,fv2,bv2⟩;obtain⟨A2,n2,c2,rfl,hn2⟩:=ov2.form';obtain⟨hnq,hcq,rd2⟩:=ov2.rd rfl;clear hnq hcq;rw [<-hn2.out]at rd2;(have hn2le:n2<=4294967296:=by rw [hn2.out,QL,HFL.out];exact HSS.out);have OV2:=hd_ (OV.fresh fv2);have RD2:=hd_ rd2;have F2:=hd_ (FV.trans' fv2)
 have h1b:∀u∈Q2 Ls.flatten,u.oneCell'=true:=by
   intro u hu;obtain⟨x,_,rfl⟩:=List.mem_map.1 hu;simp [Value.oneCell']
 clear ov2 fv2 bv2 hn2 rd2 HC;go_wp2_with (at_builtin;go_must (refine Qm _ rfl (.tmp 6) (.tmp 8) _ rfl 5 _ 1 underlying22 JX rfl _ _ rfl OV2.out _ _ _ _ rfl RD2.out h1b (by omega) (by omega) ?_));intro v' w3 o3 g3 a3;have f3:Q0 w w3:=F2.grown g3 (λkk hkk hlt2=>by have:=(BV kk hkk).1;omega);have b3:∀kk,v'.ownBlock=some kk->w.heap.size<=kk:=Yj (S:=λkk=>w.heap.size<=kk) a3 (λkk h=>(BV kk h).1) F2.size;rw [HAP.out]at o3;have O3:=hd_ o3;have F3:=hd_ f3;have B3:=hd_ b3;clear o3 g3 a3 f3 b3 h1b hn2le;go_wp2_with fail;(try go_ret);exact hR _ _ ⟨_,rfl,O3.out,F3.out,B3.out⟩
def Yy (r:Option (List Nat)) (er:Int) (w:World) (e:Ending) (w':World):Prop :=
  match r with
  | some L=>∃v,e = .returned (.tuple #[v,.int .i64 0])/\Qu w w' v L
  | none=>e = .returned (.tuple #[.slice none 0 0,.int .i64 er])/\Q0 w w'
theorem Q2m {W:World} {F:Nat->Prop} {B:Option Addr} {m d:Nat} {bs:List Nat} (h:Rd W F B m (Q2 bs)):K4 (W.alloc (.cells #[.slice B m d] 22)) F (some ⟨W.heap.size,0,none⟩) 1 [bs] :=
 ⟨rfl,λi hi=>by
   obtain rfl:i=0:=by simp at hi;exact hi
   have hb:=Blk.new W 22 #[.slice B m d]
   exact⟨W.heap.size,0,B,m,d,rfl,hb.lt,by simpa using hb.cell 0,h.alloc _⟩⟩
theorem Q3r (F:Nat->Prop) (B:Option Addr) (m d:Nat) (bs:List Nat) (w:World) (hb:Rd w F B m (Q2 bs)) (hm:m<=2^40) :
   Calls prog 13 #[.slice B m d] w (Yy (if bs.length<=131072 then some (0::YL bs.length++bs)else none) 2 w):=by
 have hmf:∀(fn:Fn) (first cap:Array Value) (w:World),(Instr.makeFunc fn first cap).run prog w = .ok (.func fn first cap) w:=λ_ _ _ _=>rfl;(have hL:bs.length=m:=by have:=hb.1;rw [QL]at this;exact this);rw [hL];obtain⟨w0,H,hw0,hH,f0,bo,be⟩:=Jw w 22 #[.slice none 0 0] 24 #[.int .i64 0];have HPU:=hd_ (fun(hs:m<=131072)=>Q0U F (some ⟨w0.heap.size,0,none⟩) 1 1 0 m false [bs] (w0.alloc (.cells #[.slice B m d] 22)) (Q2m (hb.fresh f0)) (by omega) (by simp only [Ja,hL];omega) (by omega) (by omega));have BO:=hd_ bo;have BE:=hd_ be;have F0:=hd_ f0;have HW:=hd_ hw0;have HH:=hd_ hH;(have hmI:(m:Int)<=1099511627776:=by(have:(2:Nat)^40=1099511627776:=by decide);omega);(have hsz:(w.alloc (.cells #[.slice none 0 0] 22)).heap.size=H+1:=by simp [hH]);clear hb hw0 hH f0 bo be hm hL;refine Q8 λR hR=>?_;go_enter_defers func13,ntmps13;go_upto_region 1 with fail;simp only [hsz,<-HH.out,<-HW.out];clear hsz;by_cases hs:m<=131072
 . have hpu:=HPU hs
   rw [if_pos hs]at hR;(have hsI:(m:Int)<=131072:=by omega);(have hlist:(KE 0 false::YL m++[bs].flatten)=0::YL m++bs:=by simp [KE]);rw [hlist]at hpu;have HP:=hd_ hpu;clear hs HPU hpu hlist;go_wp2_with fail;refine(XR _ _).mono ?_;rintro e w1 ⟨rfl,rfl⟩;go_wp2_with fail;refine HP.mono ?_;rintro e w2 ⟨v,rfl,ov,fv,bv⟩;obtain⟨A2,n2,c2,rfl,hn2⟩:=ov.form';clear hn2;have f2:=((Upd.refl (λ_=>False) w1).alloc (.cells #[.slice B m d] 22)).trans' fv;have bo2:=BO.fresh f2;have be2:=BE.fresh f2;have c0:=bo2.cell 0;have z0:=bo2.frozen 0;have c1:=be2.cell 0;have z1:=be2.frozen 0;simp at c0 c1;have OV:=hd_ ov;have F2:=hd_ (F0.trans' f2);have BV:=hd_ (show ∀b,Value.ownBlock (.slice A2 n2 c2)=some b->H+1<b from λb hb=>by have h1:=bv b hb;have h2:=BE.lt;simp at h1;omega);have BO2:=hd_ bo2;have BE2:=hd_ be2;clear ov fv bv f2 bo2 be2 HP;go_wp2_with fail;change Leaves _ _ _ _ _ _ _;refine leaves_cons (f:=41) (args:=#[.pointer (some ⟨H+1,0,none⟩),.func (.func 42) #[] #[.pointer (some ⟨H,0,none⟩)]]) (by simp) (by simp [go_sem]) ?_;have b2:=(BO2.set_ 0 (.slice A2 n2 c2)).far (p:=⟨H+1,0,none⟩) (by simp) (.int .i64 0);have e2:=(BE2.far (p:=⟨H,0,none⟩) (by simp) (.slice A2 n2 c2)).set_ 0 (.int .i64 0);have d0:=b2.cell 0;have d1:=e2.cell 0;simp at d0 d1;refine(Jp _ _ _).mono ?_;rintro e u' w'' ⟨rfl,rfl,rfl⟩;have us:Upd (λb=>b=H\/b=H+1) w2 ((w2.setCell ⟨H,0,none⟩ (.slice A2 n2 c2)).setCell ⟨H+1,0,none⟩ (.int .i64 0)):=((Upd.refl (λb=>b=H\/b=H+1) w2).setCell (p:=⟨H,0,none⟩) (λ_=>.inl rfl) _).setCell (p:=⟨H+1,0,none⟩) (λ_=>.inr rfl) _;refine⟨.tuple #[.slice A2 n2 c2,.int .i64 0],?_,hR _ _ ⟨_,rfl,OV.upd us (λb hb e=>by have:=BV b hb;omega),F2.trans us (λb hb e=>by have:=HH.out;omega),λb hb=>by have h1:=BV b hb;have h2:=HH.out;omega⟩⟩;simp [results,results13,go_sem,d0,d1]
 rw [if_neg hs]at hR;(have hsI:¬(m:Int)<=131072:=by omega);clear hs HPU;go_wp2_with fail;refine(Vs _ _).mono ?_;rintro e w1 ⟨rfl,rfl⟩;simp only [Qa];change Leaves _ _ _ _ _ _ _;refine leaves_cons (f:=41) (args:=#[.pointer (some ⟨H+1,0,none⟩),.func (.func 42) #[] #[.pointer (some ⟨H,0,none⟩)]]) (by simp) (by simp [go_sem]) ?_;refine(Yo 42 #[.pointer (some ⟨H,0,none⟩)] (λb=>b=H) (λW=>Blk W H 22 #[.slice none 0 0]) (H+1) 2 _ w1 BE.out (by omega) (λ_ _=>rfl) (Q8V H _ w1 BO.out)).mono ?_;rintro e u' w'' ⟨rfl,rfl,w2,u2,b2,rfl⟩;have e2:=(BE.upd u2 (by omega)).set_ 0 (.int .i64 2);have b3:=b2.far (p:=⟨H+1,0,none⟩) (by simp) (.int .i64 2);have d0:=b3.cell 0;have d1:=e2.cell 0;simp at d0 d1;show Leaves _ _ _ _ [] .returning _;refine⟨.tuple #[.slice none 0 0,.int .i64 2],?_,hR _ _ ⟨rfl,F0.trans (u2.mono (T:=λb=>b=H\/b=H+1) (λ_ _ h=>.inl h) |>.setCell (p:=⟨H+1,0,none⟩) (λ_=>.inr rfl) _) (λb hb e=>by have:=HH.out;omega)⟩⟩;simp [results,results13,go_sem,d0,d1]
theorem Q3s (x:Nat) (n:Int) (w:World) (hx:x<256) :
   Calls prog 16 #[.int .u8 x,.int .i64 n] w (Yy (if 0<n/\n<=131072 then some (1::YL n.toNat++[x])else none) 2 w):=by
 have hmf:∀(fn:Fn) (first cap:Array Value) (w:World),(Instr.makeFunc fn first cap).run prog w = .ok (.func fn first cap) w:=λ_ _ _ _=>rfl;obtain⟨w0,H,hw0,hH,f0,bo,be⟩:=Jw w 22 #[.slice none 0 0] 24 #[.int .i64 0]
 have HPU:=hd_ (fun(m:Nat) (hs:m<=131072)=>Q0U (λ_=>True) (some ⟨w0.heap.size+1,0,none⟩) 1 1 1 m false [[x]] ((w0.alloc (.cells #[.int .u8 (x:Nat)] 5)).alloc (.cells #[.slice (some ⟨w0.heap.size,0,none⟩) 1 1] 22)) (by
   have h:=Q2m (d:=1) (Q55 w0 x)
   simpa using h) (by omega) (by simp [Ja]) (by omega) (by omega))
 have BO:=hd_ bo;have BE:=hd_ be;have F0:=hd_ f0;have HW:=hd_ hw0;have HH:=hd_ hH;(have hsz:(w.alloc (.cells #[.slice none 0 0] 22)).heap.size=H+1:=by simp [hH]);clear hw0 hH f0 bo be hx;refine Q8 λR hR=>?_;go_enter_defers func16,ntmps16;go_upto_region 1 with fail;simp only [hsz,<-HH.out,<-HW.out];clear hsz;by_cases hs:0<n/\n<=131072
 . rw [if_pos hs]at hR
   obtain⟨m,rfl⟩:∃m:Nat,n=m:=⟨n.toNat,by omega⟩;have hpu:=HPU m (by omega);have hsI:(m:Int)<=131072:=hs.2;have hs0:0<(m:Int):=hs.1;(have hlist:(KE 1 false::YL m++[[x]].flatten)=1::YL (m:Int).toNat++[x]:=by simp [KE]);rw [hlist]at hpu;have HP:=hd_ hpu;clear hs HPU hpu hlist;go_wp2_with fail;refine(XR _ _).mono ?_;rintro e w1 ⟨rfl,rfl⟩;go_wp2_with fail;refine HP.mono ?_;rintro e w2 ⟨v,rfl,ov,fv,bv⟩;obtain⟨A2,n2,c2,rfl,hn2⟩:=ov.form';clear hn2;have f2:=(((Upd.refl (λ_=>False) w1).alloc (.cells #[.int .u8 (x:Nat)] 5)).alloc (.cells #[.slice (some ⟨w1.heap.size,0,none⟩) 1 1] 22)).trans' fv;have bo2:=BO.fresh f2;have be2:=BE.fresh f2;have c0:=bo2.cell 0;have z0:=bo2.frozen 0;have c1:=be2.cell 0;have z1:=be2.frozen 0;simp at c0 c1;have OV:=hd_ ov;have F2:=hd_ (F0.trans' f2);have BV:=hd_ (show ∀b,Value.ownBlock (.slice A2 n2 c2)=some b->H+1<b from λb hb=>by have h1:=bv b hb;have h2:=BE.lt;simp at h1;omega);have BO2:=hd_ bo2;have BE2:=hd_ be2;clear ov fv bv f2 bo2 be2 HP;go_wp2_with fail;change Leaves _ _ _ _ _ _ _;refine leaves_cons (f:=41) (args:=#[.pointer (some ⟨H+1,0,none⟩),.func (.func 46) #[] #[.pointer (some ⟨H,0,none⟩)]]) (by simp) (by simp [go_sem]) ?_;have b2:=(BO2.set_ 0 (.slice A2 n2 c2)).far (p:=⟨H+1,0,none⟩) (by simp) (.int .i64 0);have e2:=(BE2.far (p:=⟨H,0,none⟩) (by simp) (.slice A2 n2 c2)).set_ 0 (.int .i64 0);have d0:=b2.cell 0;have d1:=e2.cell 0;simp at d0 d1;refine(Jp _ _ _).mono ?_;rintro e u' w'' ⟨rfl,rfl,rfl⟩;have us:Upd (λb=>b=H\/b=H+1) w2 ((w2.setCell ⟨H,0,none⟩ (.slice A2 n2 c2)).setCell ⟨H+1,0,none⟩ (.int .i64 0)):=((Upd.refl (λb=>b=H\/b=H+1) w2).setCell (p:=⟨H,0,none⟩) (λ_=>.inl rfl) _).setCell (p:=⟨H+1,0,none⟩) (λ_=>.inr rfl) _;refine⟨.tuple #[.slice A2 n2 c2,.int .i64 0],?_,hR _ _ ⟨_,rfl,OV.upd us (λb hb e=>by have:=BV b hb;omega),F2.trans us (λb hb e=>by have:=HH.out;omega),λb hb=>by have h1:=BV b hb;have h2:=HH.out;omega⟩⟩;simp [results,results16,go_sem,d0,d1]
 rw [if_neg hs]at hR;by_cases h0:0<n
 . have hsI:¬n<=131072:=by omega
   clear hs HPU;go_wp2_with fail;refine(Vs _ _).mono ?_;rintro e w1 ⟨rfl,rfl⟩;simp only [Qa];change Leaves _ _ _ _ _ _ _;refine leaves_cons (f:=41) (args:=#[.pointer (some ⟨H+1,0,none⟩),.func (.func 46) #[] #[.pointer (some ⟨H,0,none⟩)]]) (by simp) (by simp [go_sem]) ?_;refine(Yo 46 #[.pointer (some ⟨H,0,none⟩)] (λb=>b=H) (λW=>Blk W H 22 #[.slice none 0 0]) (H+1) 2 _ w1 BE.out (by omega) (λ_ _=>rfl) (Q3n H _ w1 BO.out)).mono ?_;rintro e u' w'' ⟨rfl,rfl,w2,u2,b2,rfl⟩;have e2:=(BE.upd u2 (by omega)).set_ 0 (.int .i64 2);have b3:=b2.far (p:=⟨H+1,0,none⟩) (by simp) (.int .i64 2);have d0:=b3.cell 0;have d1:=e2.cell 0;simp at d0 d1;show Leaves _ _ _ _ [] .returning _;refine⟨.tuple #[.slice none 0 0,.int .i64 2],?_,hR _ _ ⟨rfl,F0.trans (u2.mono (T:=λb=>b=H\/b=H+1) (λ_ _ h=>.inl h) |>.setCell (p:=⟨H+1,0,none⟩) (λ_=>.inr rfl) _) (λb hb e=>by have:=HH.out;omega)⟩⟩;simp [results,results16,go_sem,d0,d1]
 have hsI:¬0<n:=h0;clear hs HPU h0;go_wp2_with fail;refine(Vs _ _).mono ?_;rintro e w1 ⟨rfl,rfl⟩;simp only [Qa];change Leaves _ _ _ _ _ _ _;refine leaves_cons (f:=41) (args:=#[.pointer (some ⟨H+1,0,none⟩),.func (.func 46) #[] #[.pointer (some ⟨H,0,none⟩)]]) (by simp) (by simp [go_sem]) ?_;refine(Yo 46 #[.pointer (some ⟨H,0,none⟩)] (λb=>b=H) (λW=>Blk W H 22 #[.slice none 0 0]) (H+1) 2 _ w1 BE.out (by omega) (λ_ _=>rfl) (Q3n H _ w1 BO.out)).mono ?_;rintro e u' w'' ⟨rfl,rfl,w2,u2,b2,rfl⟩;have e2:=(BE.upd u2 (by omega)).set_ 0 (.int .i64 2);have b3:=b2.far (p:=⟨H+1,0,none⟩) (by simp) (.int .i64 2);have d0:=b3.cell 0;have d1:=e2.cell 0;simp at d0 d1;show Leaves _ _ _ _ [] .returning _;refine⟨.tuple #[.slice none 0 0,.int .i64 2],?_,hR _ _ ⟨rfl,F0.trans (u2.mono (T:=λb=>b=H\/b=H+1) (λ_ _ h=>.inl h) |>.setCell (p:=⟨H+1,0,none⟩) (λ_=>.inr rfl) _) (λb hb e=>by have:=HH.out;omega)⟩⟩;simp [results,results16,go_sem,d0,d1]
theorem Q2n (a b:List Nat):Q2 a++Q2 b=Q2 (a++b):=by unfold Q2;rw [List.map_append]
theorem Qu.app {w w1 w':World} {v v':Value} {a b:List Nat} (h:Qu w w1 v a) (ho:Own w' 5 v' (Q2 a++Q2 b)) (hg:w1.grownBy w' v.ownBlock) (ha:v'.ownBlock=v.ownBlock\/v'.ownBlock=some w1.heap.size):Qu w w' v' (a++b) :=
 ⟨by rw [<-Q2n];exact ho,h.2.1.grown hg (λk hk hlt=>by have:=h.2.2 k hk;omega),Yj (S:=λk=>w.heap.size<=k) ha (λk hk=>h.2.2 k hk) h.2.1.size⟩
theorem Qu.frs {w w1 w':World} {v:Value} {a:List Nat} (h:Qu w w1 v a) (f:Q0 w1 w'):Qu w w' v a:=⟨h.1.fresh f,h.2.1.trans' f,h.2.2⟩
theorem Qaf {m b:Nat} (h0:m≠0) (hm:m<2^64) (h1:2^b<=m) (h2:m<2^(b+1)):b=QA m:=by
 obtain⟨c1,c2⟩:=Zl m h0 hm;have h3:b<QA m+1:=(Nat.pow_lt_pow_iff_right (a:=2) (by omega)).1 (Nat.lt_of_le_of_lt h1 c2);have h4:QA m<b+1:=(Nat.pow_lt_pow_iff_right (a:=2) (by omega)).1 (Nat.lt_of_le_of_lt c1 h2);omega
theorem Q76 (m:Nat) (w:World) (h0:1<=m) (h:m<=600) :
   Calls prog 294 #[.int .i64 m] w λe w'=>e = .returned (.int .i64 (QA m))/\w=w':=by
 have hsz:=hd_ (λb (hb:b<=9) (W:World)=>K5 b W hb);(have hmI:(m:Int)<=600:=by omega);refine Q8 λR hR=>?_;go_enter func294,ntmps294;go_wp2_with fail;go_loopg [3] 10 (λmm i wr=>wr=w/\∃b:Nat,b+mm=10/\i = .int .i64 b/\2^b<=m)
 case atStart=>exact⟨rfl,0,by omega,rfl,by simpa using h0⟩
 case round =>
   obtain⟨rfl,b,hb,rfl,hle⟩:=hrel
   have hb9:b<=9:=by
     rcases Nat.lt_or_ge b 10 with h|h
     . omega
     have:=Nat.pow_le_pow_right (n:=2) (by omega) h;omega
   have hs:=hsz b hb9 wr;have HS:=hd_ hs;have HB:=hd_ hb;(have hbI:(b:Int)<=9:=by omega);(have hp:2^(b+1)=2*2^b:=by rw [Nat.pow_succ];omega);have hun:=λh2=>Qaf (m:=m) (b:=b) (by omega) (by omega) hle h2;obtain⟨q,hq⟩:=nm_ (2^b);rw [<-hq]at HS hle;rw [hp,<-hq]at hun;have HUN:=hd_ hun;(have hqI:(q:Int)<=600:=by omega);have HQ:=hd_ hq;have HP:=hd_ hp;clear hs hb hun hq hp;go_wp2_with fail;refine HS.mono ?_;rintro e w1 ⟨rfl,rfl⟩;by_cases hlt:2*q<=m
   . have hltI:2*(q:Int)<=m:=by omega
     go_wp2_with fail;go_roundg (gk-1)
     case measure=>have:=HB.out;omega
     case rel=>exact⟨rfl,b+1,by have:=HB.out;omega,by go_num,by rw [HP.out,<-HQ.out];exact hlt⟩
   (have hltI:(m:Int)<2*q:=by omega);go_wp2_with fail;(try go_ret);exact hR _ _ ⟨by rw [<-HUN.out (by omega)];rfl,rfl⟩
end Go.Proofs.YtckjdhaflokcgaaGreat
