/-
  Joined texts, part 31: contracts and plain lemmas.
  Conditions: none beyond those of each theorem.
-/
import Derived.Test.YtjfdaphjijfieaaGreatL30
import Derived.Test.YtjfdaphjijfieaaGreatL18
set_option linter.unusedVariables false
set_option linter.unusedSimpArgs false
set_option maxRecDepth 100000
universe u
namespace Go.Proofs.YtjfdaphjijfieaaGreat
open Go.RowKit Go.Shelf
theorem XD {F:Fence} {n:Nat} {P:Program} {α:Type} {g:Operand} {ps:Array Tmp} {assign body:Code} {Q:Exit->Act->World->Prop} {a:Act} {w:World}
   (hro:F.round=none) (h1:1<=n) {gf:Nat} {lb:Array Value} (hg:a.eval g = .func (.func gf) #[] lb) (hFg:F.fn gf) (eg:∀args w,(callFunc gf args).run P w = .ok (.enter gf args) w)
   {encs:α->Array Value} {Kp:World->World->Prop} {S Sp:List α->Prop} {N:Nat} {w0:World} (hseq:SeqStopsK F (n-1) P gf lb encs Kp S Sp N w0)
   (hKt:∀ {A B C:World},Kp A B->Kp B C->Kp A C) (hKb:∀(W:World) (l:Nat) (o o':Obj),w.heap.size<=l->W.heap[l]?=some o->o.isCells=false->o.isWalk=false->Kp W (W.putObj l o')) (hb0:Below w0.heap.size w0 w) (hps:∀x,(encs x).size=ps.size)
   (I:List α->World->Prop) (Ix:Code->List α->World->Prop) (hI:OwnFrom w.heap.size I) (hIx:∀c,OwnFrom w.heap.size (Ix c)) (h0:I [] w) (d1 d2:Nat) (dv:α->Value) (t:TypeId) (cs:α->Array Value)
   (hKa:∀pre W o,I pre W->Kp W (W.alloc o)) (hIs:∀pre W,I pre W->w.heap.size<=W.heap.size)
   (hassign:∀(l:Nat) (x:α) (W:World) (K:Act->World->Prop),K { tmps:=(((ps.zip (encs x)).foldl (fun t (p,v)=>t.setIfInBounds p v) a.tmps).setIfInBounds d1 (dv x)).setIfInBounds d2 (.pointer (some ⟨W.heap.size,0,none⟩)),defers:=[] } (W.alloc (.cells (cs x) t)) ->
     assign.wpIn (F.inRound l) (n-1-1) P (Exit.then K (fun _ _ _=>False)) { tmps:=(ps.zip (encs x)).foldl (fun t (p,v)=>t.setIfInBounds p v) a.tmps,defers:=[] } W)
   (hbody:∀(l:Nat) (pre:List α) (x:α) (X:Nat) (W:World),I pre W->Blk W X t (cs x)->w.heap.size<=X->pre.length<N ->
     body.wpIn (F.inRound l) (n-1-1) P (ownPostG w.heap.size Kp I Ix (pre++[x]) W) { tmps:=(((ps.zip (encs x)).foldl (fun t (p,v)=>t.setIfInBounds p v) a.tmps).setIfInBounds d1 (dv x)).setIfInBounds d2 (.pointer (some ⟨X,0,none⟩)),defers:=[] } W)
   (hdone:∀(D:Nat) (xs:List α) (W:World),w.heap.size<=D->S xs->I xs W->W.heap[D]?=some (.deferred (some []))->Q .normal { a with defers:={ target:=.collected D,args:=#[] } :: a.defers } W)
   (hstop:∀(D:Nat) (c:Code) (pre:List α) (W:World),w.heap.size<=D->Sp pre->Ix c pre W->W.heap[D]?=some (.deferred (some []))->c.wpIn F n P Q { a with defers:={ target:=.collected D,args:=#[] } :: a.defers } W) :
   (Code.rangeFunc g ps assign body).wpIn F n P Q a w:=by
 refine wpIn_rangeFunc_ownH hro h1 hg hFg eg hseq (fun h k=>hKt h k) hKb hb0 hps I Ix hI hIx h0
   (fun x a' W=>∃X,a'={ tmps:=(((ps.zip (encs x)).foldl (fun t (p,v)=>t.setIfInBounds p v) a.tmps).setIfInBounds d1 (dv x)).setIfInBounds d2 (.pointer (some ⟨X,0,none⟩)),defers:=[] }/\Blk W X t (cs x)/\w.heap.size<=X)
   ?_ ?_ ?_ hdone hstop
 . rintro x a' s W W' row ⟨X,h1,h2,h3⟩ hgr hr
   exact⟨X,h1,h2.kept hgr fun r e=>(hr r e).2,h3⟩
 . intro l pre x W K hi hK
   refine hassign l x W K (hK _ _ (Zb _ ((Upd.refl (fun _=>False) W).alloc _) (fun k _ h=>h.elim)) (hKa pre W _ hi) (hI.alloc _ hi) ⟨W.heap.size,rfl,Q1 rfl _ _,hIs pre W hi⟩)
 rintro l pre x a' W _ _ hi ⟨X,rfl,hb,hx⟩ hlen;exact hbody l pre x X W hi hb hx hlen
end Go.Proofs.YtjfdaphjijfieaaGreat
