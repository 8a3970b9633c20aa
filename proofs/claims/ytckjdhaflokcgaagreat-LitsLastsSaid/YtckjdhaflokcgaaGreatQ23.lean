/-
  Joined texts, part 23: contracts and plain lemmas.
  Conditions: none beyond those of each theorem.
-/
import Derived.Test.YtckjdhaflokcgaaGreatQ11
import Derived.Lib.QuietBelowIn
import Derived.RangeFuncCalls
set_option linter.unusedVariables false
set_option linter.unusedSimpArgs false
set_option linter.unnecessarySimpa false
set_option maxRecDepth 100000
universe u
namespace Go.Proofs.YtckjdhaflokcgaaGreat
open Go.RowKit Go.Sort
def Kc (l:List Oper):Bool:=l.all fun o=>match o.op with | .defer _=>false|_=>true
theorem VK {l:List Oper} (h:Kc l=true) {o:Oper} (ho:o∈l):∀c,o.op≠.defer c:=by
 intro c hc;have:=List.all_eq_true.1 h o ho;rw [hc]at this;simp at this
section
variable {F:Fence} {n:Nat} {P:Program} {ops:Array Oper} {md:Region.Mode}
theorem VL (hro:F.round=none) {o:Oper} (hnd:∀c,o.op≠.defer c) (ll:Nat) {a:Act} {w:World} {K:Act->World->Prop} {Q:Exit->Act->World->Prop} (h:o.wpIn F n P a w K Q):o.wpIn (F.inRound ll) n P a w K Q:=by
 obtain⟨h1,h2⟩:=h;refine⟨h1,?_⟩;rw [Oper.semAt_eq _ _ _ hnd];rw [hro,Oper.semAt_none]at h2;exact h2
theorem Zo (hro:F.round=none) (hnd:Kc ops.toList=true) (ll:Nat) {Q:Exit->Act->World->Prop}:∀(fuel:Nat) (listed:Array Bool) (a:Act) (w:World),wpAnyIn F n P md ops Q fuel listed a w->wpAnyIn (F.inRound ll) n P md ops Q fuel listed a w
 | 0,_,_,_,h=>h
 | fuel+1,listed,a,w,h=>by
   refine⟨h.1,fun i hi=>?_⟩
   have h2:=wpOpIn_mono (fun a' w' h'=>Zo hro hnd ll fuel (listed.setIfInBounds i true) a' w' h') (h.2 i hi)
   unfold wpOpIn at h2 ⊢
   cases ho:ops[i]? with
   | none=>rw [ho]at h2;exact h2
   | some o =>
     rw [ho]at h2
     simp only at h2 ⊢
     split
     . next hw=>rw [if_pos hw]at h2;exact VL hro (VK hnd (by simpa using Array.mem_of_getElem? ho)) ll h2
     next hw=>rw [if_neg hw]at h2;exact h2
theorem Ku {C:World->Prop} {id:Nat} {Q:Exit->Act->World->Prop} {a:Act} {w:World} {l:List Oper} (m:Nat) (hro:F.round=none) (ll:Nat) (hm:P.follows .mixedOrders=true) (hB:Region.lexTailB .any l.toArray m=true) (hnd:Kc l=true) (hC:C { w with drawn:=w.drawn+1 })
   (h:wpQuietIn F n P l.toArray C (fun a'=>∀w',C w'->wpListIn F n P l.toArray Q (l.drop m) a' w') (l.take m) a):(Code.region id l.toArray true).wpIn (F.inRound ll) n P Q a w:=by
 simp only [Region.lexTailB,Bool.and_eq_true,decide_eq_true_eq]at hB;obtain⟨⟨⟨⟨hsel,hn⟩,hs⟩,hc⟩,hlex⟩:=hB;(have hn':m<l.length:=by simpa using hn);(have htl:(l.take m).length=m:=by rw [List.length_take];omega);(have hdl:(l.drop m).length=l.toArray.size-m:=by simp)
 have inv0:HeadInv .any l.toArray m (Array.replicate l.toArray.size false) :=
   ⟨by simp,fun j oj _ hl=>(by rw [getD_replicate_false]at hl;cases hl),fun t _ ht=>getD_in (by simpa using ht) (getD_replicate_false _ _)⟩
 have H:=Xl (md:=.any) (g:=l.toArray.size-m) hsel hs hc hn (l.take m) 0 _ a (fun j hj=>by
   (have:j<m:=by omega)
   simp [this]) (by omega) inv0 (by rw [htl];exact hlex) h
 refine wpIn_region_any hm (Zo hro (by simpa using hnd) ll _ _ _ _ ?_)
 have hq:=KQ (Q:=Q) (g:=l.toArray.size-m) hro (fun l' a' w' hw hL=>by
   have:=JX (F:=F) (n:=n) (md:=.any) (Q':=Q) (l.drop m) m l' a' w' (fun j=>by simp [List.getElem?_drop]) (by rw [hdl];exact hL.1) (hL.2 w' hw)
   rwa [hdl]at this) _ _ _ { w with drawn:=w.drawn+1 } hC H
 rw [htl,show m+(l.toArray.size-m)=l.toArray.size by omega]at hq;exact hq
end
def Q4P (ops:Array Oper) (m e:Nat):Array Oper:=ops.modify m fun o=>{ o with after:=o.after.push ⟨e,.data⟩ }
section
variable {F:Fence} {n:Nat} {P:Program} {ops:Array Oper} {Q:Exit->Act->World->Prop} {m e:Nat}
def Q3P (ops:Array Oper) (e:Nat):Bool :=
  match ops[e]? with
  | none=>false
  | some oe=>(List.range ops.size).all fun j=>j == e||Region.waitsFor .any ops e j||Region.waitsFor .any ops j e||(match ops[j]? with|some oj=>oe.apart ops oj|none=>true)
def Q4K (ops:Array Oper) (m e:Nat):Bool :=
  (match ops[e]? with|some oe=>(match oe.op with | .extract _ _=>true|_=>false)&&oe.after.all (fun d=>!Region.binds .any d||Region.waitsFor .any ops m d.on)|none=>false) &&
  decide (m≠e)&&decide (m<ops.size)&&Region.noSelect ops&&Q3P ops e
end
section
variable {F:Fence} {n:Nat} {P:Program}
end
def Cl (w1:World):World->Prop:=fun w'=>∃pp:Regrown,w'=grow (redrawn w1 pp.d) pp.os
section
variable {F:Fence} {n:Nat} {P:Program} {ops:Array Oper} {md:Region.Mode} {C:World->Prop}
def Q4i (F:Fence) (n:Nat) (P:Program) (md:Region.Mode) (ops:Array Oper) (C:World->Prop) (V:Nat->Value) (m:Nat) (L:Array Bool->Act->Prop):Nat->Array Bool->Act->Prop
  | 0,l,a=>L l a
  | f+1,l,a=>Region.ready md ops l≠[]/\∀i∈Region.ready md ops l,i<m/\∃o,ops[i]?=some o/\YieldsQuiet F n P ops C o (V i) a/\Q4i F n P md ops C V m L f (l.setIfInBounds i true) (a.put o.dst (V i))
def wpV (F:Fence) (n:Nat) (P:Program) (ops:Array Oper) (C:World->Prop) (V:Nat->Value) (K:Act->Prop):List Oper->Nat->Act->Prop
  | [],_,a=>K a
  | o::os,k,a=>YieldsQuiet F n P ops C o (V k) a/\wpV F n P ops C V K os (k+1) (a.put o.dst (V k))
def Q3Q (md:Region.Mode) (ops:Array Oper) (g m:Nat):Nat->Nat->Array Bool->Bool
  | 0,_,l=>Region.seqB md ops g m l
  | f+1,k,l=>(Region.ready md ops l).contains k&&Region.free md ops l k&&Q3Q md ops g m f (k+1) (l.setIfInBounds k true)
end
section
variable {F:Fence} {n:Nat} {P:Program} {C:World->Prop}
def Q4J (ops:Array Oper) (i e:Nat):Bool :=
  (match ops[i]? with|some oi=>oi.after.all (fun d=>!Region.binds .any d)&&(List.range (i+1)).all (fun j=>j == i||(match ops[j]? with|some oj=>oi.apart ops oj|none=>true))|none=>false) &&
  Region.noSelect ops&&decide (i+1<ops.size)&&Region.sinkB .any ops (i+1)&&Region.chainB .any ops (i+1)&&Region.waitsFor .any ops (i+1) i &&
  Q3Q .any ops (ops.size-(i+1)) (i+1) i 0 ((Array.replicate ops.size false).setIfInBounds i true)
end
end Go.Proofs.YtckjdhaflokcgaaGreat
