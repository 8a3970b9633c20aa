/-
  Joined texts, part 34: contracts and plain lemmas.
  Conditions: none beyond those of each theorem.
-/
import Derived.Test.YtckjdhaflokcgaaGreatQ33
import Derived.Test.YtckjdhaflokcgaaGreatQ15
import Derived.Test.YtckjdhaflokcgaaGreatQ16
import Derived.Deep.OwnRows
set_option linter.unusedVariables false
set_option linter.unusedSimpArgs false
set_option linter.unnecessarySimpa false
set_option maxRecDepth 100000
universe u
namespace Go.Proofs.YtckjdhaflokcgaaGreat
open Go.RowKit Go.Shelf
attribute [local go_sem] Oper.semAt_some
def YH (l:List Nat):List Value:=l.map fun(i:Nat)=>.int .i64 (i:Int)
@[simp] theorem Q4d (l:List Nat):(YH l).length=l.length:=by simp [YH]
theorem Zp {F:Fence} {n:Nat} {P:Program} {α:Type} {g:Operand} {ps:Array Tmp} {assign body:Code} {Q:Exit->Act->World->Prop} {a:Act} {w:World}
   (hro:F.round=none) (h1:1<=n) {gf:Nat} {lb:Array Value} (hg:a.eval g = .func (.func gf) #[] lb) (hFg:F.fn gf) (eg:∀args w,(callFunc gf args).run P w = .ok (.enter gf args) w)
   {encs:α->Array Value} {Kp:World->World->Prop} {S Sp:List α->Prop} {N:Nat} {w0:World} (hseq:SeqStopsK F (n-1) P gf lb encs Kp S Sp N w0)
   (hKt:∀ {A B C:World},Kp A B->Kp B C->Kp A C) (hKb:∀(W:World) (l:Nat) (o o':Obj),w.heap.size<=l->W.heap[l]?=some o->o.isCells=false->o.isWalk=false->Kp W (W.putObj l o')) (hb0:Below w0.heap.size w0 w) (hps:∀x,(encs x).size=ps.size)
   (I:List α->World->Prop) (Ix:Code->List α->World->Prop) (hI:OwnFrom w.heap.size I) (hIx:∀c,OwnFrom w.heap.size (Ix c)) (h0:I [] w) (d:Nat) (dv:α->Value)
   (hassign:∀(l:Nat) (x:α) (W:World) (K:Act->World->Prop),K { tmps:=((ps.zip (encs x)).foldl (fun t (p,v)=>t.setIfInBounds p v) a.tmps).setIfInBounds d (dv x),defers:=[] } W ->
     assign.wpIn (F.inRound l) (n-1-1) P (Exit.then K (fun _ _ _=>False)) { tmps:=(ps.zip (encs x)).foldl (fun t (p,v)=>t.setIfInBounds p v) a.tmps,defers:=[] } W)
   (hbody:∀(l:Nat) (pre:List α) (x:α) (W:World),I pre W->pre.length<N->body.wpIn (F.inRound l) (n-1-1) P (ownPostG w.heap.size Kp I Ix (pre++[x]) W) { tmps:=((ps.zip (encs x)).foldl (fun t (p,v)=>t.setIfInBounds p v) a.tmps).setIfInBounds d (dv x),defers:=[] } W)
   (hdone:∀(D:Nat) (xs:List α) (W:World),w.heap.size<=D->S xs->I xs W->W.heap[D]?=some (.deferred (some []))->Q .normal { a with defers:={ target:=.collected D,args:=#[] } :: a.defers } W)
   (hstop:∀(D:Nat) (c:Code) (pre:List α) (W:World),w.heap.size<=D->Sp pre->Ix c pre W->W.heap[D]?=some (.deferred (some []))->c.wpIn F n P Q { a with defers:={ target:=.collected D,args:=#[] } :: a.defers } W) :
   (Code.rangeFunc g ps assign body).wpIn F n P Q a w :=
 wpIn_rangeFunc_ownG hro h1 hg hFg eg hseq hKt hKb hb0 hps I Ix hI hIx h0 (fun x=>{ tmps:=((ps.zip (encs x)).foldl (fun t (p,v)=>t.setIfInBounds p v) a.tmps).setIfInBounds d (dv x),defers:=[] }) hassign hbody hdone hstop
def Q4I (w1:World) (M T k s:Nat) (rest rs:List Nat) (pre:List { x:Nat // x<s }) (W:World):Prop :=
  ∃(cnt:Nat) (A:Option Addr) (n c:Nat),Q4v W Tryz.prog 3 3 M (k+pre.length) cnt (VS rest (Q0h s rs) (pre.map Subtype.val)).1/\Blk W (M+1) 356 #[.map (some M)]/\Blk W (M+1+1) 33 #[.slice A n c] /\
    Rd W (fun b=>M+3<=b/\b<T) A n (YH (rest.drop (VS rest (Q0h s rs) (pre.map Subtype.val)).2))/\n<=c/\Q0 w1 W
def Q4l (lg:Int) (N:List Int) (w:World) (e:Ending) (w':World):Prop :=
  if Q0i lg N 256 9 then ∃g,e = .returned (.tuple #[.slice (some ⟨g,0,none⟩) (2^lg.toNat) (2^lg.toNat),.int .i64 0])/\Rd w' (fun b=>b=g) (some ⟨g,0,none⟩) (2^lg.toNat) (Qm (ZJ lg.toNat N))/\w.heap.size<=g/\Q0 w w'
  else e = .returned (.tuple #[.slice none 0 0,.int .i64 13])/\Q0 w w'
end Go.Proofs.YtckjdhaflokcgaaGreat
