/-
  Joined texts, part 18: contracts and plain lemmas.
  Conditions: none beyond those of each theorem.
-/
import Derived.Test.YtjfdaphjijfieaaGreatL9
import Derived.Lib.QuietBelowIn
import Derived.RangeFuncCalls
set_option linter.unusedVariables false
set_option linter.unusedSimpArgs false
set_option maxRecDepth 100000
universe u
namespace Go.Proofs.YtjfdaphjijfieaaGreat
open Go.RowKit Go.Sort
def ZZ (l:List Oper):Bool:=l.all fun o=>match o.op with | .defer _=>false|_=>true
theorem Q2W {l:List Oper} (h:ZZ l=true) {o:Oper} (ho:o∈l):∀c,o.op≠.defer c:=by
 intro c hc;have:=List.all_eq_true.1 h o ho;rw [hc]at this;simp at this
section
variable {F:Fence} {n:Nat} {P:Program} {ops:Array Oper} {md:Region.Mode}
theorem Q2X (hro:F.round=none) {o:Oper} (hnd:∀c,o.op≠.defer c) (ll:Nat) {a:Act} {w:World} {K:Act->World->Prop} {Q:Exit->Act->World->Prop} (h:o.wpIn F n P a w K Q):o.wpIn (F.inRound ll) n P a w K Q:=by
 obtain⟨h1,h2⟩:=h;refine⟨h1,?_⟩;rw [Oper.semAt_eq _ _ _ hnd];rw [hro,Oper.semAt_none]at h2;exact h2
theorem Za (hro:F.round=none) (hnd:ZZ ops.toList=true) (ll:Nat) {Q:Exit->Act->World->Prop}:∀(fuel:Nat) (listed:Array Bool) (a:Act) (w:World),wpAnyIn F n P md ops Q fuel listed a w->wpAnyIn (F.inRound ll) n P md ops Q fuel listed a w
 | 0,_,_,_,h=>h
 | fuel+1,listed,a,w,h=>by
   refine⟨h.1,fun i hi=>?_⟩
   have h2:=wpOpIn_mono (fun a' w' h'=>Za hro hnd ll fuel (listed.setIfInBounds i true) a' w' h') (h.2 i hi)
   unfold wpOpIn at h2 ⊢
   cases ho:ops[i]? with
   | none=>rw [ho]at h2;exact h2
   | some o =>
     rw [ho]at h2
     simp only at h2 ⊢
     split
     . next hw=>rw [if_pos hw]at h2;exact Q2X hro (Q2W hnd (by simpa using Array.mem_of_getElem? ho)) ll h2
     next hw=>rw [if_neg hw]at h2;exact h2
theorem Jl {C:World->Prop} {id:Nat} {Q:Exit->Act->World->Prop} {a:Act} {w:World} {l:List Oper} (m:Nat) (hro:F.round=none) (ll:Nat) (hm:P.follows .mixedOrders=true) (hB:Region.lexTailB .any l.toArray m=true) (hnd:ZZ l=true) (hC:C { w with drawn:=w.drawn+1 })
   (h:wpQuietIn F n P l.toArray C (fun a'=>∀w',C w'->wpListIn F n P l.toArray Q (l.drop m) a' w') (l.take m) a):(Code.region id l.toArray true).wpIn (F.inRound ll) n P Q a w:=by
 simp only [Region.lexTailB,Bool.and_eq_true,decide_eq_true_eq]at hB;obtain⟨⟨⟨⟨hsel,hn⟩,hs⟩,hc⟩,hlex⟩:=hB;(have hn':m<l.length:=by simpa using hn);(have htl:(l.take m).length=m:=by rw [List.length_take];omega);(have hdl:(l.drop m).length=l.toArray.size-m:=by simp)
 have inv0:HeadInv .any l.toArray m (Array.replicate l.toArray.size false) :=
   ⟨by simp,fun j oj _ hl=>(by rw [getD_replicate_false]at hl;cases hl),fun t _ ht=>getD_in (by simpa using ht) (getD_replicate_false _ _)⟩
 have H:=VK (md:=.any) (g:=l.toArray.size-m) hsel hs hc hn (l.take m) 0 _ a (fun j hj=>by
   (have:j<m:=by omega)
   simp [this]) (by omega) inv0 (by rw [htl];exact hlex) h
 refine wpIn_region_any hm (Za hro (by simpa using hnd) ll _ _ _ _ ?_)
 have hq:=ZF (Q:=Q) (g:=l.toArray.size-m) hro (fun l' a' w' hw hL=>by
   have:=JT (F:=F) (n:=n) (md:=.any) (Q':=Q) (l.drop m) m l' a' w' (fun j=>by simp [List.getElem?_drop]) (by rw [hdl];exact hL.1) (hL.2 w' hw)
   rwa [hdl]at this) _ _ _ { w with drawn:=w.drawn+1 } hC H
 rw [htl,show m+(l.toArray.size-m)=l.toArray.size by omega]at hq;exact hq
theorem Jc {C:World->Prop} {id:Nat} {Q:Exit->Act->World->Prop} {a:Act} {w:World} {l:List Oper} (hro:F.round=none) (ll:Nat) (hm:P.follows .mixedOrders=true) (hB:Region.lexB .any l.toArray=true) (hnd:ZZ l=true) (hC:C { w with drawn:=w.drawn+1 })
   (h:wpQuietIn F n P l.toArray C (fun a'=>∀w',C w'->Q .normal a' w') l a):(Code.region id l.toArray true).wpIn (F.inRound ll) n P Q a w:=by
 simp only [Region.lexB,Bool.and_eq_true]at hB;refine wpIn_region_any hm (Za hro (by simpa using hnd) ll _ _ _ _ (wpAnyIn_of_quiet (Q:=fun a'=>∀w',C w'->Q .normal a' w') hro (fun _ w' hw' h=>h w' hw') _ _ _ _ hC ?_));have:=wpAnyQIn_lex (F:=F) (n:=n) (C:=C) (md:=.any) hB.1 l.toArray.toList 0 (Array.replicate l.toArray.size false) a (by simp) (by simpa using hB.2) (by simpa using h);simpa using this
end
def Y6 (ops:Array Oper) (m e:Nat):Array Oper:=ops.modify m fun o=>{ o with after:=o.after.push ⟨e,.data⟩ }
section
variable {F:Fence} {n:Nat} {P:Program} {ops:Array Oper} {Q:Exit->Act->World->Prop} {m e:Nat}
theorem JL:(Y6 ops m e).size=ops.size:=by simp [Y6]
theorem Zq (i:Nat):(Y6 ops m e)[i]?=if m=i then(ops[i]?).map (fun o=>{ o with after:=o.after.push ⟨e,.data⟩ })else ops[i]?:=by
 unfold Y6;rw [Array.getElem?_modify]
theorem Q7k (j:Nat):((Y6 ops m e)[j]?).bind (·.dst)=(ops[j]?).bind (·.dst):=by
 rw [Zq];by_cases h:m=j
 . rw [if_pos h];cases ops[j]?<;>rfl
 rw [if_neg h]
theorem Kk (tmps:Array Value):yielded (Y6 ops m e) tmps=yielded ops tmps:=by
 funext j
 unfold yielded;rw [Q7k]
theorem Q1G {K:Act->World->Prop} {a:Act} {w:World} (i:Nat):wpOpIn F n P (Y6 ops m e) Q i K a w=wpOpIn F n P ops Q i K a w:=by
 unfold wpOpIn;rw [Zq,Kk];by_cases h:m=i
 . rw [if_pos h];cases ops[i]?<;>rfl
 rw [if_neg h]
theorem Kl {listed:Array Bool} {j:Nat}:j∈Region.ready .any (Y6 ops m e) listed ↔ j∈Region.ready .any ops listed/\(j=m->listed.getD e false=true):=by
 rw [mem_ready,mem_ready,Zq];constructor
 . rintro⟨h0,o,ho,hall⟩
   split at ho
   . next hm =>
     cases hoj:ops[j]? with
     | none=>rw [hoj]at ho;cases ho
     | some o' =>
       rw [hoj]at ho;simp only [Option.map_some,Option.some.injEq]at ho;subst ho;exact⟨⟨h0,o',rfl,fun d hd hb=>hall d (by simp [hd]) hb⟩,fun _=>hall ⟨e,.data⟩ (by simp) rfl⟩
   next hm=>exact⟨⟨h0,o,ho,hall⟩,fun h=>absurd h.symm hm⟩
 rintro⟨⟨h0,o,ho,hall⟩,hx⟩;refine⟨h0,?_⟩;split
 . next hm =>
   refine⟨_,by rw [ho];rfl,fun d hd hb=>?_⟩;simp only [Array.mem_push]at hd;rcases hd with hd|rfl
   . exact hall d hd hb
   exact hx hm.symm
 exact⟨o,ho,hall⟩
def Q2Y (ops:Array Oper) (e:Nat):Bool :=
  match ops[e]? with
  | none=>false
  | some oe=>(List.range ops.size).all fun j=>j == e||Region.waitsFor .any ops e j||Region.waitsFor .any ops j e||(match ops[j]? with|some oj=>oe.apart ops oj|none=>true)
theorem Q4R {oe:Oper} (he:ops[e]?=some oe) (h:Q2Y ops e=true) {j:Nat} {oj:Oper} (hj:ops[j]?=some oj) (hne:j≠e) (hno:∀d∈oe.after,Region.binds .any d=true->d.on≠j) (hno2:∀d∈oj.after,Region.binds .any d=true->d.on≠e):oe.apart ops oj=true:=by
 simp only [Q2Y,he,List.all_eq_true,List.mem_range]at h;have h1:=h j (Array.getElem?_eq_some_iff.1 hj).1;simp only [hj,Bool.or_eq_true,beq_iff_eq,hne,false_or]at h1;rcases h1 with (h1|h1)|h1
 . obtain⟨o',ho',d,hd,hb,hon⟩:=Region.waitsFor_spec h1
   rw [he]at ho';cases ho';exact absurd hon (hno d hd hb)
 . obtain⟨o',ho',d,hd,hb,hon⟩:=Region.waitsFor_spec h1
   rw [hj]at ho';cases ho';exact absurd hon (hno2 d hd hb)
 exact h1
def Q1o (ops:Array Oper) (m e:Nat):Bool :=
  (match ops[e]? with|some oe=>(match oe.op with | .extract _ _=>true|_=>false)&&oe.after.all (fun d=>!Region.binds .any d||Region.waitsFor .any ops m d.on)|none=>false) &&
  decide (m≠e)&&decide (m<ops.size)&&Region.noSelect ops&&Q2Y ops e
theorem Q2Z (hro:F.round=none) (hB:Q1o ops m e=true) (hQ:∀c a a' w,Q (.panic c) a w->Q (.panic c) a' w) :
   ∀(fuel:Nat) (listed:Array Bool) (a:Act) (w:World),listed.size=ops.size->wpAnyIn F n P .any (Y6 ops m e) Q fuel listed a w->wpAnyIn F n P .any ops Q fuel listed a w:=by
 simp only [Q1o,Bool.and_eq_true,decide_eq_true_eq]at hB;obtain⟨⟨⟨⟨he,hme⟩,hms⟩,hsel⟩,hfr⟩:=hB
 cases hoe:ops[e]? with
 | none=>rw [hoe]at he;cases he
 | some oe =>
   rw [hoe]at he;simp only [Bool.and_eq_true]at he;obtain⟨hx,hsub⟩:=he;have hes:e<ops.size:=(Array.getElem?_eq_some_iff.1 hoe).1
   obtain⟨t,ix,hop⟩:∃t ix,oe.op = .extract t ix:=by
     revert hx;(cases oe.op<;>simp)
   have hsub':∀listed:Array Bool,m∈Region.ready .any ops listed->∀d∈oe.after,Region.binds .any d=true->listed.getD d.on false=true:=by
     intro listed hm d hd hb;obtain⟨_,om,hom,hall⟩:=mem_ready.1 hm;have h1:=Array.all_eq_true_iff_forall_mem.1 hsub d hd;simp only [hb,Bool.not_true,Bool.false_or]at h1;obtain⟨om',hom',d',hd',hb',hon⟩:=Region.waitsFor_spec h1;rw [hom]at hom';cases hom';rw [<-hon];exact hall d' hd' hb'
   have hready:∀listed:Array Bool,listed.size=ops.size->m∈Region.ready .any ops listed->listed.getD e false=false->e∈Region.ready .any ops listed:=by
     intro listed hsz hm hun;exact mem_ready.2 ⟨getD_in (by rw [hsz];exact hes) hun,oe,hoe,hsub' listed hm⟩
   intro fuel
   induction fuel with
   | zero =>
     intro listed a w hsz h;refine⟨?_,h.2⟩;apply List.eq_nil_iff_forall_not_mem.2;intro j hj;by_cases hjm:j=m/\listed.getD e false=false
     . have h1:=hready listed hsz (hjm.1 ▸ hj) hjm.2
       have h2:=(Kl (m:=m) (e:=e)).2 ⟨h1,fun h=>absurd h.symm hme⟩;rw [h.1]at h2;cases h2
     have h2:=(Kl (m:=m) (e:=e)).2 ⟨hj,fun h=>by
       rcases Bool.eq_false_or_eq_true (listed.getD e false)with h'|h'
       . exact h'
       exact absurd ⟨h,h'⟩ hjm⟩
     rw [h.1]at h2;cases h2
   | succ fuel ih =>
     intro listed a w hsz h;by_cases hre:e∈Region.ready .any ops listed
     . have h1:=h.2 e ((Kl (m:=m) (e:=e)).2 ⟨hre,fun h=>absurd h.symm hme⟩)
       rw [Q1G]at h1;(have hab:∀w',oe.about P w' a.eval=none:=fun w'=>by unfold Oper.about;rw [hop])
       have hdi:(∃v,∀w',(execOp a.eval oe).run P w' = .ok (.value v) w')\/(∃s,∀w',(execOp a.eval oe).run P w' = .halt (.stuck s) w'):=by
         unfold execOp;rw [hop];simp only [Instr.extract]
         cases a.eval t with
         | tuple vs =>
           cases hv:vs[ix]? with
           | none=>exact .inr ⟨_,fun w'=>by simp only [hv];rfl⟩
           | some v=>exact .inl ⟨v,fun w'=>by simp only [hv];rfl⟩
         | _=>exact .inr ⟨_,fun w'=>rfl⟩
       obtain⟨v,hy,hK⟩:∃v,YieldsFenced P ops oe v a/\wpAnyIn F n P .any (Y6 ops m e) Q fuel (listed.setIfInBounds e true) (a.put oe.dst v) w:=by
         unfold wpOpIn at h1;simp only [hoe]at h1;split at h1
         . next hw =>
           unfold Oper.wpIn at h1;have h1:=h1.2;rcases hdi with ⟨v,hro'⟩|⟨s,hro'⟩
           . refine⟨v,⟨.inl ⟨hw,hro'⟩,hab⟩,?_⟩
             rw [hro,Oper.semAt_none,hro']at h1;exact h1
           rw [hro,Oper.semAt_none,hro']at h1;exact h1.elim
         next hw=>exact⟨undef,⟨.inr ⟨by simpa using hw,rfl⟩,hab⟩,h1.2⟩
       refine wpAnyIn_first hro hoe (Region.noSelect_spec hsel) (fun c a' w' h'=>hQ c _ _ w' h') fuel listed a w ?_ hre hy (ih _ _ _ (by simp [hsz]) hK);intro j oj hj hji hun hno;obtain⟨_,oe',hoe',hall⟩:=mem_ready.1 hre;rw [hoe]at hoe';cases hoe';refine Q4R hoe hfr hj hji (fun d hd hb hon=>?_) hno;have h5:=hall d hd hb;rw [hon,getD_both hun]at h5;cases h5
     have key:∀j,j∈Region.ready .any ops listed->j∈Region.ready .any (Y6 ops m e) listed:=fun j hj=>by
       refine(Kl (m:=m) (e:=e)).2 ⟨hj,fun hjm=>?_⟩;rcases Bool.eq_false_or_eq_true (listed.getD e false)with h'|h'
       . exact h'
       exact absurd (hready listed hsz (hjm ▸ hj) h') hre
     refine⟨fun h0=>h.1 (List.eq_nil_iff_forall_not_mem.2 fun j hj=>?_),fun i hi=>?_⟩
     . have:=(Kl.1 hj).1
       rw [h0]at this;cases this
     have h1:=h.2 i (key i hi);rw [Q1G]at h1;exact wpOpIn_mono (fun a' w' h'=>ih _ a' w' (by simp [hsz]) h') h1
end
section
variable {F:Fence} {n:Nat} {P:Program}
theorem Xd {ops:Array Oper} {m e:Nat} {C:World->Prop} {K:Act->Prop}:∀(l:List Oper) (a:Act),wpQuietIn F n P ops C K l a->wpQuietIn F n P (Y6 ops m e) C K l a
 | [],_,h=>h
 | o::l,a,h=>by
   refine⟨h.1,?_⟩
   have h2:=h.2
   rw [Kk]
   split
   . next hw=>rw [if_pos hw]at h2;exact Oper.quietIn_mono (fun a' h'=>Xd l a' h') h2
   next hw=>rw [if_neg hw]at h2;exact Xd l _ h2
theorem Vu {ops:Array Oper} {m e:Nat} {Q:Exit->Act->World->Prop}:∀(l:List Oper) (a:Act) (w:World),wpListIn F n P ops Q l a w->wpListIn F n P (Y6 ops m e) Q l a w
 | [],_,_,h=>h
 | o::l,a,w,h=>by
   unfold wpListIn at h ⊢
   rw [Kk]
   split
   . next hw=>rw [if_pos hw]at h;exact Oper.wpIn_mono (fun a' w' h'=>Vu l a' w' h') h
   next hw=>rw [if_neg hw]at h;exact⟨h.1,Vu l _ _ h.2⟩
theorem Km {C:World->Prop} {id:Nat} {Q:Exit->Act->World->Prop} {a:Act} {w:World} {l:List Oper} (m e:Nat) (hro:F.round=none) (ll:Nat) (hm:P.follows .mixedOrders=true) (hL:Q1o l.toArray m e=true) (hB:Region.lexTailB .any (Y6 l.toArray m e) m=true) (hnd:ZZ l=true)
   (hQ:∀c a a' w,Q (.panic c) a w->Q (.panic c) a' w) (hC:C { w with drawn:=w.drawn+1 })
   (h:wpQuietIn F n P l.toArray C (fun a'=>∀w',C w'->wpListIn F n P l.toArray Q (l.drop m) a' w') (l.take m) a):(Code.region id l.toArray true).wpIn (F.inRound ll) n P Q a w:=by
 simp only [Region.lexTailB,Bool.and_eq_true,decide_eq_true_eq]at hB;obtain⟨⟨⟨⟨hsel,hn⟩,hs⟩,hc⟩,hlex⟩:=hB;(have hn':m<l.length:=by rw [JL]at hn;simpa using hn);(have htl:(l.take m).length=m:=by rw [List.length_take];omega);(have hdl:(l.drop m).length=(Y6 l.toArray m e).size-m:=by simp [JL])
 have inv0:HeadInv .any (Y6 l.toArray m e) m (Array.replicate (Y6 l.toArray m e).size false) :=
   ⟨by simp,fun j oj _ hl=>(by rw [getD_replicate_false]at hl;cases hl),fun t _ ht=>getD_in (by simpa using ht) (getD_replicate_false _ _)⟩
 have H:=VK (md:=.any) (g:=(Y6 l.toArray m e).size-m) hsel hs hc hn (l.take m) 0 _ a (fun j hj=>by
   (have:j<m:=by omega);rw [Zq,if_neg (by omega)]
   simp [this]) (by omega) inv0 (by rw [htl];exact hlex) (Xd _ _ h)
 refine wpIn_region_any hm (Za hro (by simpa using hnd) ll _ _ _ _ ?_);refine Q2Z (m:=m) (e:=e) hro hL hQ _ _ _ _ (by simp) ?_
 have hq:=ZF (Q:=Q) (g:=(Y6 l.toArray m e).size-m) hro (fun l' a' w' hw hL=>by
   have h1:=Vu (m:=m) (e:=e) _ _ _ (hL.2 w' hw);have h0:l[m]?=some l[m]:=List.getElem?_eq_getElem hn';rw [List.drop_eq_getElem_cons hn']at h1;have h2:wpListIn F n P (Y6 l.toArray m e) Q ({ l[m]with after:=l[m].after.push ⟨e,.data⟩ } :: l.drop (m+1)) a' w':=h1
   have:=JT (F:=F) (n:=n) (md:=.any) (Q':=Q) ({ l[m]with after:=l[m].after.push ⟨e,.data⟩ } :: l.drop (m+1)) m l' a' w' (fun j=>by
     rw [Zq]
     cases j with
     | zero=>simp [hn']
     | succ j=>rw [if_neg (by omega)];simp [List.getElem?_drop];congr 1;omega) (by
       (have hlen:({ l[m]with after:=l[m].after.push ⟨e,.data⟩ } :: l.drop (m+1)).length=(Y6 l.toArray m e).size-m:=by rw [JL];simp;omega)
       rw [hlen];exact hL.1) h2
   (have hlen:({ l[m]with after:=l[m].after.push ⟨e,.data⟩ } :: l.drop (m+1)).length=(Y6 l.toArray m e).size-m:=by rw [JL];simp;omega)
   rwa [hlen]at this) _ _ _ { w with drawn:=w.drawn+1 } hC H
 rw [htl,show m+((Y6 l.toArray m e).size-m)=(Y6 l.toArray m e).size by omega,JL]at hq;exact hq
end
def Cl (w1:World):World->Prop:=fun w'=>∃pp:Regrown,w'=grow (redrawn w1 pp.d) pp.os
theorem Cl.fresh {w1 w':World} (h:Cl w1 w'):Q0 w1 w':=by
 obtain⟨⟨d,os⟩,rfl⟩:=h;exact Upd.of_below (below_regrown w1 d os)
theorem Q0Y (w:World) (o:Obj):(w.alloc o).heap[w.heap.size]?=some o:=by
 show(w.heap.push o)[w.heap.size]?=some o;simp
section
variable {F:Fence} {n:Nat} {P:Program} {ops:Array Oper} {md:Region.Mode} {C:World->Prop}
def Vv (F:Fence) (n:Nat) (P:Program) (md:Region.Mode) (ops:Array Oper) (C:World->Prop) (V:Nat->Value) (m:Nat) (L:Array Bool->Act->Prop):Nat->Array Bool->Act->Prop
  | 0,l,a=>L l a
  | f+1,l,a=>Region.ready md ops l≠[]/\∀i∈Region.ready md ops l,i<m/\∃o,ops[i]?=some o/\YieldsQuiet F n P ops C o (V i) a/\Vv F n P md ops C V m L f (l.setIfInBounds i true) (a.put o.dst (V i))
theorem Q25 {V:Nat->Value} {m:Nat} {L:Array Bool->Act->Prop}:∀(f:Nat) (l:Array Bool) (a:Act),Vv F n P md ops C V m L f l a->Kc F n P md ops C m L f l a
 | 0,_,_,h=>h
 | f+1,l,a,h=>⟨h.1,fun i hi=>by
   obtain⟨h1,o,ho,hy,hK⟩:=h.2 i hi
   exact⟨h1,hy.qOpIn ho (Q25 f _ _ hK)⟩⟩
theorem Q3P {V:Nat->Value} {m i:Nat} {oi:Oper} {L:Array Bool->Act->Prop} (hi:ops[i]?=some oi) (hsel:∀(j:Nat) (o:Oper) cs b,ops[j]?=some o->o.op≠.select cs b)
   (hs:Region.sinkB md ops m=true) (hc:Region.chainB md ops m=true) (hn:m<ops.size) (hin:i<m) (hdone:∀l a,L l a->∀j∈Region.ready md ops l,m<=j) :
   ∀(f:Nat) (l:Array Bool) (a:Act),HeadInv md ops m l ->
     (∀j oj,ops[j]?=some oj->j≠i->l.getD j true=false->(∀e∈oj.after,Region.binds md e=true->e.on≠i)->oi.apart ops oj=true) ->
     i∈Region.ready md ops l->YieldsQuiet F n P ops C oi (V i) a ->
     Vv F n P md ops C V m L f (l.setIfInBounds i true) (a.put oi.dst (V i))->Vv F n P md ops C V m L (f+1) l a:=by
 intro f
 induction f with
 | zero =>
   intro l a inv hfr hr hy H;have hun:=(mem_ready.1 hr).1;have lt:∀j∈Region.ready md ops l,j<m:=fun j hj=>Nat.lt_of_not_le fun h=>tail_waits hs hc hn inv _ i rfl hin hun j h hj;refine⟨List.ne_nil_of_mem hr,fun j hj=>⟨lt j hj,?_⟩⟩;by_cases hji:j=i
   . subst hji;exact⟨oi,hi,hy,H⟩
   have h1:=hdone _ _ H j (ready_mono hj hji);have h2:=lt j hj;omega
 | succ f ih =>
   intro l a inv hfr hr hy H;have hun:=(mem_ready.1 hr).1;have lt:∀j∈Region.ready md ops l,j<m:=fun j hj=>Nat.lt_of_not_le fun h=>tail_waits hs hc hn inv _ i rfl hin hun j h hj;refine⟨List.ne_nil_of_mem hr,fun j hj=>⟨lt j hj,?_⟩⟩;by_cases hji:j=i
   . subst hji;exact⟨oi,hi,hy,H⟩
   obtain⟨hju,oj,hoj,hall⟩:=mem_ready.1 hj
   have hno:∀e∈oj.after,Region.binds md e=true->e.on≠i:=by
     intro e he hb heq;have:=hall e he hb;rw [heq,getD_both hun]at this;cases this
   obtain⟨p1,p2,p3⟩:=Oper.apart_spec (hfr j oj hoj hji hju hno);obtain⟨_,oj',hoj',hyj,Hj⟩:=H.2 j (ready_mono hj hji);rw [hoj]at hoj';cases hoj';have hsi:=fun cs b=>hsel i oi cs b hi;have hsj:=fun cs b=>hsel j oj cs b hoj;refine⟨oj,hoj,hyj.of_same (execOp_put oj hsj a oi.dst (V i) p1).symm (wanted_put oj a oi.dst (V i) p1).symm (fun w=>(about_put oj w a oi.dst (V i) p1).symm),ih _ _ (inv.set hj (lt j hj)) ?_ (ready_mono hr (Ne.symm hji)) (hy.of_same (execOp_put oi hsi a oj.dst (V j) p3) (wanted_put oi a oj.dst (V j) p3) (fun w=>about_put oi w a oj.dst (V j) p3)) ?_⟩
   . intro k ok hk hki hku hkn
     refine hfr k ok hk hki ?_ hkn;by_cases hjk:j=k
     . subst hjk;exact hju
     rwa [getD_set_ne true hjk]at hku
   rw [Array.setIfInBounds_comm _ _ hji,<-Act.put_comm a (V i) (V j) p2];exact Hj
def wpV (F:Fence) (n:Nat) (P:Program) (ops:Array Oper) (C:World->Prop) (V:Nat->Value) (K:Act->Prop):List Oper->Nat->Act->Prop
  | [],_,a=>K a
  | o::os,k,a=>YieldsQuiet F n P ops C o (V k) a/\wpV F n P ops C V K os (k+1) (a.put o.dst (V k))
def Q30 (md:Region.Mode) (ops:Array Oper) (g m:Nat):Nat->Nat->Array Bool->Bool
  | 0,_,l=>Region.seqB md ops g m l
  | f+1,k,l=>(Region.ready md ops l).contains k&&Region.free md ops l k&&Q30 md ops g m f (k+1) (l.setIfInBounds k true)
theorem Q62 {V:Nat->Value} {m g:Nat} {K:Act->Prop} (hsel:Region.noSelect ops=true) (hs:Region.sinkB md ops m=true) (hc:Region.chainB md ops m=true) (hn:m<ops.size) :
   ∀(os:List Oper) (k:Nat) (l:Array Bool) (a:Act),(∀j,j<os.length->os[j]?=ops[k+j]?)->k+os.length<=m->HeadInv md ops m l ->
   Q30 md ops g m os.length k l=true->wpV F n P ops C V K os k a->Vv F n P md ops C V m (fun l' a'=>Region.seqB md ops g m l'=true/\K a') os.length l a:=by
 intro os
 induction os with
 | nil =>
   intro k l a _ hk _ hB h;exact⟨by simpa [Q30]using hB,h⟩
 | cons o os ih =>
   intro k l a hl hk inv hB h;rw [List.length_cons]at hk;(have h0:ops[k]?=some o:=by simpa using(hl 0 (by simp)).symm);simp only [List.length_cons,Q30,Bool.and_eq_true]at hB;(have hr:k∈Region.ready md ops l:=by simpa using hB.1.1)
   exact Q3P h0 (Region.noSelect_spec hsel) hs hc hn (by omega) (fun l' a' hL=>seqB_ready hL.1) os.length l a inv (Region.free_spec h0 hB.1.2) hr h.1
     (ih (k+1) _ _ (fun j hj=>by have:=hl (j+1) (by simp;omega);simpa [Nat.add_assoc,Nat.add_comm 1 j]using this) (by omega) (inv.set hr (by omega)) hB.2 h.2)
theorem Q26 {V:Nat->Value} {m i:Nat} {oi:Oper} {L:Array Bool->Act->Prop} (x:Value) (hsel:∀(j:Nat) (o:Oper) cs b,ops[j]?=some o->o.op≠.select cs b)
   (hap:∀j oj,ops[j]?=some oj->j≠i->j<m->oi.apart ops oj=true) :
   ∀(f:Nat) (l:Array Bool) (a:Act),i ∉ Region.ready md ops l->l.getD i true=true->Vv F n P md ops C V m L f l a->Vv F n P md ops C V m (fun l a=>∃a0,a=a0.put oi.dst x/\L l a0) f l (a.put oi.dst x)
 | 0,l,a,_,_,h=>⟨a,rfl,h⟩
 | f+1,l,a,hnr,hli,h=>⟨h.1,fun j hj=>by
   obtain⟨h1,oj,hoj,hy,hK⟩:=h.2 j hj
   have hji:j≠i:=fun e=>hnr (e ▸ hj)
   obtain⟨p1,p2,p3⟩:=Oper.apart_spec (hap j oj hoj hji h1)
   have hsj:=fun cs b=>hsel j oj cs b hoj
   refine⟨h1,oj,hoj,hy.of_same (execOp_put oj hsj a oi.dst x p1) (wanted_put oj a oi.dst x p1) (fun w=>about_put oj w a oi.dst x p1),?_⟩
   rw [Act.put_comm a x (V j) p2]
   have hli':(l.setIfInBounds j true).getD i true=true:=by rw [getD_set_ne true hji];exact hli
   exact Q26 x hsel hap f _ _ (fun hr=>by rw [(mem_ready.1 hr).1]at hli';cases hli') hli' hK⟩
theorem Q63 {Q:Exit->Act->World->Prop} {V:Nat->Value} {m i g:Nat} {oi:Oper} {obj:Obj} {L:Array Bool->Act->Prop} (w0:World) (hro:F.round=none) (hi:ops[i]?=some oi) (hin:i<m) (hoi:∀e∈oi.after,Region.binds .any e=true->False)
   (hsel:∀(j:Nat) (o:Oper) cs b,ops[j]?=some o->o.op≠.select cs b) (hc:Region.chainB .any ops m=true) (hmi:Region.waitsFor .any ops m i=true) (hn:m<ops.size)
   (hap:∀j oj,ops[j]?=some oj->j≠i->j<m->oi.apart ops oj=true)
   (hal:∀(a:Act) (w:World) (K:Act->World->Prop),K (a.put oi.dst (.pointer (some ⟨w.heap.size,0,none⟩))) (w.alloc obj)->wpOpIn F n P ops Q i K a w)
   (hdone:∀l a,L l a->∀j∈Region.ready .any ops l,m<=j)
   (hT:∀l a w1 p,Q0 w0 w1->w1.heap[p]?=some obj->w0.heap.size<=p->L l a->wpAnyIn F n P .any ops Q g l (a.put oi.dst (.pointer (some ⟨p,0,none⟩))) w1) :
   ∀(f:Nat) (l:Array Bool) (a:Act) (w:World),HeadInv .any ops m l->l.getD i true=false->Q0 w0 w->(∀w1,Q0 w0 w1->Vv F n P .any ops (Cl w1) V m L f (l.setIfInBounds i true) a)->wpAnyIn F n P .any ops Q (f+1+g) l a w:=by
 intro f
 induction f with
 | zero =>
   intro l a w inv hun hw H;have hri:i∈Region.ready .any ops l:=mem_ready.2 ⟨hun,oi,hi,fun e he hb=>(hoi e he hb).elim⟩;rw [show 0+1+g=g+1 by omega];refine⟨fun h0=>(by rw [h0]at hri;cases hri),fun j hj=>?_⟩;by_cases hji:j=i
   . subst hji
     refine hal a w _ ?_;exact hT _ _ _ _ (hw.trans' ((Upd.refl _ _).alloc _)) (Q0Y _ _) hw.size (H w hw)
   exfalso;have h1:=hdone _ _ (H w hw) j (ready_mono hj hji);obtain⟨_,oj,hoj,hall⟩:=mem_ready.1 hj;rcases Nat.eq_or_lt_of_le h1 with rfl|h1
   . obtain⟨o',ho',e,he,hb,hon⟩:=Region.waitsFor_spec hmi
     rw [hoj]at ho';cases ho';have h2:=hall e he hb;rw [hon,getD_both hun]at h2;cases h2
   have h3:=List.all_eq_true.1 hc j (List.mem_range.2 (Array.getElem?_eq_some_iff.1 hoj).1);simp only [Bool.or_eq_true,decide_eq_true_eq]at h3;rcases h3 with h3|h3
   . omega
   obtain⟨o',ho',e,he,hb,hon⟩:=Region.waitsFor_spec h3;rw [hoj]at ho';cases ho';have h2:=hall e he hb;rw [hon,getD_both (inv.tail (j-1) (by omega) (by have:=(Array.getElem?_eq_some_iff.1 hoj).1;omega))]at h2;cases h2
 | succ f ih =>
   intro l a w inv hun hw H;have hri:i∈Region.ready .any ops l:=mem_ready.2 ⟨hun,oi,hi,fun e he hb=>(hoi e he hb).elim⟩
   have hil:i<l.size:=by
     rcases Nat.lt_or_ge i l.size with h|h
     . exact h
     simp [Array.getElem?_eq_none h]at hun
   rw [show f+1+1+g=(f+1+g)+1 by omega];refine⟨fun h0=>(by rw [h0]at hri;cases hri),fun j hj=>?_⟩;by_cases hji:j=i
   . subst hji
     refine hal a w _ ?_;have hw1:Q0 w0 (w.alloc obj):=hw.trans' ((Upd.refl _ _).alloc _);(have hli:(l.setIfInBounds j true).getD j true=true:=by simp [hil]);have h2:=Q26 (.pointer (some ⟨w.heap.size,0,none⟩)) hsel hap (f+1) _ _ (fun hr=>by rw [(mem_ready.1 hr).1]at hli;cases hli) hli (H _ hw1);refine ZF hro (C:=Cl (w.alloc obj)) (fun l' a' w' hw' hL=>?_) _ _ _ _ ⟨⟨(w.alloc obj).drawn,#[]⟩,by rw [grow_empty];rfl⟩ (Q25 _ _ _ h2);obtain⟨a0,rfl,hL⟩:=hL;refine hT _ _ _ _ (hw1.trans' hw'.fresh) ?_ hw.size hL;rw [hw'.fresh.block _ (Array.getElem?_eq_some_iff.1 (Q0Y w obj)).1 (fun h=>h)];exact Q0Y w obj
   obtain⟨h1,oj,hoj,hy,hK⟩:=(H w hw).2 j (ready_mono hj hji);refine wpOpIn_of_qOpIn hro (C:=Cl w) (K:=fun a'=>a'=a.put oj.dst (V j)) ⟨⟨w.drawn,#[]⟩,by rw [grow_empty];rfl⟩ (fun a' w' hw' ha'=>?_) (hy.qOpIn hoj rfl);subst ha';refine ih _ _ _ (inv.set hj h1) (by rw [getD_set_ne true hji];exact hun) (hw.trans' hw'.fresh) fun w1 hw1=>?_;obtain⟨_,oj',hoj',_,hK1⟩:=(H w1 hw1).2 j (ready_mono hj hji);rw [hoj]at hoj';cases hoj';rw [Array.setIfInBounds_comm _ _ hji];exact hK1
end
section
variable {F:Fence} {n:Nat} {P:Program} {C:World->Prop}
theorem Q4S {ops:Array Oper} {m e:Nat} {o:Oper} {v:Value} {a:Act} (h:YieldsQuiet F n P ops C o v a):YieldsQuiet F n P (Y6 ops m e) C o v a:=by
 unfold YieldsQuiet at *;rw [Kk];exact h
theorem Q31 {ops:Array Oper} {m e:Nat} {V:Nat->Value} {K:Act->Prop}:∀(os:List Oper) (k:Nat) (a:Act),wpV F n P ops C V K os k a->wpV F n P (Y6 ops m e) C V K os k a
 | [],_,_,h=>h
 | o::os,k,a,h=>⟨Q4S h.1,Q31 os _ _ h.2⟩
theorem Q7l {ops:Array Oper} {V:Nat->Value} {K:Act->Prop} {o:Oper} {os:List Oper} {k:Nat} {a:Act} {d:Nat} (v:Value) (hv:V k=v) (hd:o.dst=some d) (hda:d<a.tmps.size) (hask:o.askedIn F P a C)
   (hw:Region.wanted o (yielded ops a.tmps)=true) (h:∀K':Act->Prop,(∀a',a'=a.put o.dst v->K' a')->o.quietIn F n P a C K') (hn:wpV F n P ops C V K os (k+1) (a.put o.dst v)):wpV F n P ops C V K (o::os) k a:=by
 refine⟨⟨hask,.inl ⟨hw,?_⟩⟩,by rw [hv];exact hn⟩;obtain⟨v',h1,h2⟩:=h (fun a'=>a'=a.put o.dst v) fun _ h=>h
 have h3:v'=v:=by
   rw [hd]at h2;have h4:=congrArg (fun x:Act=>x.tmps[d]?) h2;simpa [Act.put,hda]using h4
 rw [hv,<-h3];exact h1
theorem Qg {ops:Array Oper} {V:Nat->Value} {K:Act->Prop} {o:Oper} {os:List Oper} {k:Nat} {a:Act} {d:Nat} (v:Value) (hv:V k=v) (hd:o.dst=some d) (hda:d<a.tmps.size) (hask:o.askedIn F P a C)
   (hw:Region.wanted o (yielded ops a.tmps)=true) (h:∃a2:Act,(∀K':Act->Prop,(∀a',a'=a2->K' a')->o.quietIn F n P a C K')/\a.put o.dst v=a2/\wpV F n P ops C V K os (k+1) a2):wpV F n P ops C V K (o::os) k a:=by
 obtain⟨a2,h,ha,hn⟩:=h;subst ha;exact Q7l v hv hd hda hask hw h hn
theorem Q1H {ops:Array Oper} {V:Nat->Value} {K:Act->Prop} {k:Nat} {a:Act} (h:K a):wpV F n P ops C V K [] k a:=h
def Q32 (ops:Array Oper) (i e:Nat):Bool :=
  (match ops[i]? with|some oi=>oi.after.all (fun d=>!Region.binds .any d)&&(List.range (i+1)).all (fun j=>j == i||(match ops[j]? with|some oj=>oi.apart ops oj|none=>true))|none=>false) &&
  Region.noSelect ops&&decide (i+1<ops.size)&&Region.sinkB .any ops (i+1)&&Region.chainB .any ops (i+1)&&Region.waitsFor .any ops (i+1) i &&
  Q30 .any ops (ops.size-(i+1)) (i+1) i 0 ((Array.replicate ops.size false).setIfInBounds i true)
theorem Q0t {id:Nat} {Q:Exit->Act->World->Prop} {a:Act} {w:World} {l:List Oper} (i e:Nat) {oi:Oper} {obj:Obj} (hi:l[i]?=some oi) (hro:F.round=none) (ll:Nat) (hm:P.follows .mixedOrders=true) (hL:Q1o l.toArray (i+1) e=true) (hB:Q32 (Y6 l.toArray (i+1) e) i e=true) (hnd:ZZ l=true)
   (hQ:∀c a a' w,Q (.panic c) a w->Q (.panic c) a' w)
   (hal:∀(a:Act) (w:World),Region.wanted oi (yielded l.toArray a.tmps)=true/\(∀f,oi.about P w a.eval=some f->F.fn f)/\(execOp a.eval oi).run P w = .ok (.value (.pointer (some ⟨w.heap.size,0,none⟩))) (w.alloc obj))
   (V:Nat->Value) (A:Act) (hV:∀w1,Q0 w w1->wpV F n P l.toArray (Cl w1) V (fun a'=>a'=A) (l.take i) 0 a)
   (hT:∀w1 p,Q0 w w1->w1.heap[p]?=some obj->w.heap.size<=p->wpListIn F n P l.toArray Q (l.drop (i+1)) (A.put oi.dst (.pointer (some ⟨p,0,none⟩))) w1):(Code.region id l.toArray true).wpIn (F.inRound ll) n P Q a w:=by
 simp only [Q32,Bool.and_eq_true,decide_eq_true_eq]at hB;obtain⟨⟨⟨⟨⟨⟨h0,hsel⟩,hn⟩,hs⟩,hc⟩,hmi⟩,hlex⟩:=hB;(have hn':i+1<l.length:=by rw [JL]at hn;simpa using hn);(have hi2:(Y6 l.toArray (i+1) e)[i]?=some oi:=by rw [Zq,if_neg (by omega)];simpa using hi);rw [hi2]at h0;simp only [Bool.and_eq_true]at h0;obtain⟨hbi,hapb⟩:=h0
 have hoi:∀d∈oi.after,Region.binds .any d=true->False:=fun d hd hb=>by
   have:=Array.all_eq_true_iff_forall_mem.1 hbi d hd;rw [hb]at this;cases this
 have hap:∀j oj,(Y6 l.toArray (i+1) e)[j]?=some oj->j≠i->j<i+1->oi.apart (Y6 l.toArray (i+1) e) oj=true:=fun j oj hj hne hlt=>by
   have:=List.all_eq_true.1 hapb j (List.mem_range.2 hlt);rw [hj]at this;simpa [hne]using this
 (have hdl:(l.drop (i+1)).length=(Y6 l.toArray (i+1) e).size-(i+1):=by simp [JL]);(have htl:(l.take i).length=i:=by rw [List.length_take];omega)
 have inv0:HeadInv .any (Y6 l.toArray (i+1) e) (i+1) (Array.replicate (Y6 l.toArray (i+1) e).size false) :=
   ⟨by simp,fun j oj _ hl=>(by rw [getD_replicate_false]at hl;cases hl),fun t _ ht=>getD_in (by simpa using ht) (getD_replicate_false _ _)⟩
 have hun:(Array.replicate (Y6 l.toArray (i+1) e).size false).getD i true=false:=getD_in (by simp;omega) (getD_replicate_false _ _);have hri:i∈Region.ready .any (Y6 l.toArray (i+1) e) (Array.replicate (Y6 l.toArray (i+1) e).size false):=mem_ready.2 ⟨hun,oi,hi2,fun d hd hb=>(hoi d hd hb).elim⟩;refine wpIn_region_any hm (Za hro (by simpa using hnd) ll _ _ _ _ ?_);refine Q2Z (m:=i+1) (e:=e) hro hL hQ _ _ _ _ (by simp) ?_;have hw0:Q0 w { w with drawn:=w.drawn+1 }:=(Upd.refl _ _).drew
 have key:=Q63 (g:=(Y6 l.toArray (i+1) e).size-(i+1)) (V:=V) (m:=i+1) (Q:=Q) (F:=F) (n:=n) (P:=P) (L:=fun l' a'=>Region.seqB .any (Y6 l.toArray (i+1) e) ((Y6 l.toArray (i+1) e).size-(i+1)) (i+1) l'=true/\a'=A) w hro hi2 (by omega) hoi (Region.noSelect_spec hsel) hc hmi hn hap
   (fun a' w' K hK=>by
     obtain⟨h1,h2,h3⟩:=hal a' w';rw [Q1G];unfold wpOpIn;(have h4:l.toArray[i]?=some oi:=by simpa using hi);rw [h4];simp only [h1,if_true];unfold Oper.wpIn;rw [hro,Oper.semAt_none,h3]
     exact⟨h2,hK⟩)
   (fun l' a' hL=>seqB_ready hL.1)
   (fun l' a' w1 p hw1 hp hle hL=>by
     obtain⟨hL1,rfl⟩:=hL;have h1:=Vu (m:=i+1) (e:=e) _ _ _ (hT w1 p hw1 hp hle);rw [List.drop_eq_getElem_cons hn']at h1;have h2:wpListIn F n P (Y6 l.toArray (i+1) e) Q ({ l[i+1]with after:=l[i+1].after.push ⟨e,.data⟩ } :: l.drop (i+1+1)) (a'.put oi.dst (.pointer (some ⟨p,0,none⟩))) w1:=h1;(have hlen:({ l[i+1]with after:=l[i+1].after.push ⟨e,.data⟩ } :: l.drop (i+1+1)).length=(Y6 l.toArray (i+1) e).size-(i+1):=by rw [JL];simp;omega)
     have:=JT (F:=F) (n:=n) (md:=.any) (Q':=Q) ({ l[i+1]with after:=l[i+1].after.push ⟨e,.data⟩ } :: l.drop (i+1+1)) (i+1) l' (a'.put oi.dst (.pointer (some ⟨p,0,none⟩))) w1 (fun j=>by
       rw [Zq]
       cases j with
       | zero=>simp [hn']
       | succ j=>rw [if_neg (by omega)];simp [List.getElem?_drop];congr 1;omega) (by rw [hlen];exact hL1) h2
     rwa [hlen]at this)
   i (Array.replicate (Y6 l.toArray (i+1) e).size false) a _ inv0 hun hw0 (fun w1 hw1=>by
     have h5:=Q62 (F:=F) (n:=n) (P:=P) (C:=Cl w1) (V:=V) (md:=.any) (g:=(Y6 l.toArray (i+1) e).size-(i+1)) (K:=fun a'=>a'=A) hsel hs hc hn (l.take i) 0 ((Array.replicate (Y6 l.toArray (i+1) e).size false).setIfInBounds i true) a (fun j hj=>by
       (have:j<i:=by omega);rw [Zq,if_neg (by omega)]
       simp [this]) (by omega) (inv0.set hri (by omega)) (by rw [htl];exact hlex) (Q31 _ _ _ (hV w1 hw1))
     rwa [htl]at h5)
 rw [show i+1+((Y6 l.toArray (i+1) e).size-(i+1))=(Y6 l.toArray (i+1) e).size by omega,JL]at key;exact key
theorem K0 {id:Nat} {Q:Exit->Act->World->Prop} {a:Act} {w:World} {l:List Oper} (i e:Nat) {oi:Oper} {obj:Obj} (hi:l[i]?=some oi) (hro:F.round=none) (ll:Nat) (hm:P.follows .mixedOrders=true) (hL:Q1o l.toArray (i+1) e=true) (hB:Q32 (Y6 l.toArray (i+1) e) i e=true) (hnd:ZZ l=true)
   (hQ:∀c a a' w,Q (.panic c) a w->Q (.panic c) a' w)
   (hal:∀(a:Act) (w:World),Region.wanted oi (yielded l.toArray a.tmps)=true/\(∀f,oi.about P w a.eval=some f->F.fn f)/\(execOp a.eval oi).run P w = .ok (.value (.pointer (some ⟨w.heap.size,0,none⟩))) (w.alloc obj))
   (V:Nat->Value) (h:∃A:Act,(∀w1,Q0 w w1->wpV F n P l.toArray (Cl w1) V (fun a'=>a'=A) (l.take i) 0 a) /\
     (∀w1 p,Q0 w w1->w1.heap[p]?=some obj->w.heap.size<=p->wpListIn F n P l.toArray Q (l.drop (i+1)) (A.put oi.dst (.pointer (some ⟨p,0,none⟩))) w1)):(Code.region id l.toArray true).wpIn (F.inRound ll) n P Q a w:=by
 obtain⟨A,hV,hT⟩:=h;exact Q0t i e hi hro ll hm hL hB hnd hQ hal V A hV hT
end
end Go.Proofs.YtjfdaphjijfieaaGreat
