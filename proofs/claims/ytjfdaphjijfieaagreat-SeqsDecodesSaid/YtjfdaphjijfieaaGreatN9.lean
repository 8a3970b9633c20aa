/-
  Joined texts, part 9: contracts and plain lemmas.
  Conditions: none beyond those of each theorem.
-/
import Derived.Maps.OwnIn
import Derived.Test.YtjfdaphjijfieaaGreatN3
set_option linter.unusedVariables false
set_option linter.unusedSimpArgs false
set_option maxRecDepth 100000
universe u
namespace Go.Proofs.YtjfdaphjijfieaaGreat
open Go.RowKit
def Yc (w:World) (P:Program) (k e:TypeId) (b n cnt:Nat) (f:Int->Option Int):Prop :=
  ∃D:DataW Unit,w.ownsMap P k (plainElem P e) b n D/\Maps.Tidy D/\Maps.size D=cnt /\
    ∀x:Int,(Lit.int .i64 x).wf=true->Maps.has D (.int .i64 x)=(f x).isSome/\D.atKey (.int .i64 x) (.lit (.int .i64 0)) = .lit (.int .i64 ((f x).getD 0))
def Kr (f:Int->Option Int) (k v:Int):Int->Option Int:=fun x=>if x=k then some v else f x
def Q0I (f:Int->Option Int) (k:Int) (cnt:Nat):Nat:=if(f k).isSome then cnt else cnt+1
section
variable {w w':World} {P:Program} {k e:TypeId} {b n cnt:Nat} {f:Int->Option Int}
theorem Yc.new (w:World) (P:Program) (k e:TypeId):Yc (w.alloc (.map #[] 0)) P k e w.heap.size 0 0 (fun _=>none) :=
 ⟨.map [],World.ownsMap_made w P k _,Maps.tidy_empty,rfl,fun x _=>⟨rfl,rfl⟩⟩
theorem Yc.lt (h:Yc w P k e b n cnt f):b<w.heap.size:=by
 obtain⟨D,⟨es,ck,h1,_⟩,_⟩:=h;exact(Array.getElem?_eq_some_iff.1 h1).1
theorem Yc.upd {S:Nat->Prop} (h:Yc w P k e b n cnt f) (hu:Upd S w w') (hs:¬S b):Yc w' P k e b n cnt f:=by
 have hb:=h.lt;obtain⟨D,⟨es,ck,h1,h5⟩,h2,h3,h4⟩:=h;exact⟨D,⟨es,ck,by rw [hu.block b hb hs];exact h1,h5⟩,h2,h3,h4⟩
theorem Yc.mono {m:Nat} (h:Yc w P k e b n cnt f) (hm:n<=m):Yc w P k e b m cnt f:=by
 obtain⟨D,⟨es,ck,h1,h5,h6,h7⟩,h2,h3,h4⟩:=h;exact⟨D,⟨es,ck,h1,h5,Nat.le_trans h6 hm,h7⟩,h2,h3,h4⟩
theorem Q00 (x:Int):WideAt.IsKeyLit (.int .i64 x):=by
 (first|trivial|(simp [WideAt.IsKeyLit]))
theorem Yc.put_ {D:DataW Unit} (h2:Maps.Tidy D) (h3:Maps.size D=cnt) (h4:∀x:Int,(Lit.int .i64 x).wf=true->Maps.has D (.int .i64 x)=(f x).isSome/\D.atKey (.int .i64 x) (.lit (.int .i64 0)) = .lit (.int .i64 ((f x).getD 0)))
   {key v:Int} (hkey:(Lit.int .i64 key).wf=true) :
   Maps.size (D.put (.int .i64 key) (.lit (.int .i64 v)))=Q0I f key cnt/\∀x:Int,(Lit.int .i64 x).wf=true->Maps.has (D.put (.int .i64 key) (.lit (.int .i64 v))) (.int .i64 x)=(Kr f key v x).isSome/\(D.put (.int .i64 key) (.lit (.int .i64 v))).atKey (.int .i64 x) (.lit (.int .i64 0)) = .lit (.int .i64 ((Kr f key v x).getD 0)):=by
 refine⟨?_,fun x hx=>?_⟩
 . rw [Maps.size_put h2,(h4 key hkey).1,h3]
   rfl
 unfold Kr;by_cases hxk:x=key
 . subst hxk
   rw [if_pos rfl];exact⟨Maps.has_put_same h2.isMap (Q00 x) _,Maps.atKey_put_same h2.isMap (Q00 x) _ _⟩
 rw [if_neg hxk];have hne:(Lit.int .i64 x)≠.int .i64 key:=fun q=>hxk (by injection q);rw [Maps.has_put_other hne,Maps.atKey_put_other hne];exact h4 x hx
end
section
variable {P:Program} (w:World) {ops:Array Oper} {rest:List Oper} {o:Oper} {a:Act} {Q:Exit->Act->World->Prop}
theorem Zj (hg:o.guard=none) (m x:Operand) (t:TypeId) (hop:o.op=Op.lookup t m x false) (k e:TypeId) (hk:P.underlying k=some (.int .i64)) (ht:P.underlying t=some (.map k e)) (he:P.underlying e=some (.int .i64))
   (hz:(zeroValue e).run P w = .ok (.int .i64 0) w) (b n cnt:Nat) (f:Int->Option Int) (hm:a.eval m = .map (some b)) (hown:Yc w P k e b n cnt f) (key:Int) (hx:a.eval x = .int .i64 key) (hw:(Lit.int .i64 key).wf=true)
   (hK:wpList P ops Q rest (a.put o.dst (.int .i64 ((f key).getD 0))) w):wpList P ops Q (o::rest) a w:=by
 obtain⟨D,h1,h2,h3,h4⟩:=hown;refine wpList_lookup_own_int w hg m x t hop k e .i64 (Maps.int_keyed hk) ht he hz b n D hm h1 _ _ hx (Maps.keyOf_int_mk hk hw) fun c hat hwc=>?_;rw [(h4 key hw).2]at hat;(have hc:c=(f key).getD 0:=by injection hat with q;injection q with q1 q2;exact q2.symm);rw [hc];exact hK
theorem X4 (hg:o.guard=none) (m x v:Operand) (t:TypeId) (hop:o.op=Op.mapUpdate t m x v) (k e:TypeId) (hk:P.underlying k=some (.int .i64)) (ht:P.underlying t=some (.map k e)) (he:P.underlying e=some (.int .i64))
   (b n cnt:Nat) (f:Int->Option Int) (hm:a.eval m = .map (some b)) (hown:Yc w P k e b n cnt f) (hn:n<maxLen) (key val:Int) (hx:a.eval x = .int .i64 key) (hv:a.eval v = .int .i64 val) (hw:(Lit.int .i64 key).wf=true) (hwv:(Lit.int .i64 val).wf=true)
   (hK:∀w',Yc w' P k e b (n+1) (Q0I f key cnt) (Kr f key val)->w.grownBy w' (some b)->wpList P ops Q rest (a.put o.dst undef) w'):wpList P ops Q (o::rest) a w:=by
 obtain⟨D,h1,h2,h3,h4⟩:=hown;refine wpList_mapUpdate_own w hg m x v t hop k e (Maps.int_keyed hk) ht _ b n D hm h1 hn _ _ _ hx hv (Maps.keyOf_int_mk hk hw) _ [] (plainElem_int he hwv) fun w' h5 h6=>?_;exact hK w' ⟨_,h5,h5.tidy (Maps.int_keyed hk),(Yc.put_ h2 h3 h4 hw).1,(Yc.put_ h2 h3 h4 hw).2⟩ h6
theorem X0 (hg:o.guard=none) (m:Operand) (t:TypeId) (hop:o.op=Op.call { callee:=Callee.builtin Builtin.len,args:=#[m],argTypes:=#[t] }) (k e:TypeId) (ht:P.underlying t=some (.map k e)) (b n cnt:Nat) (f:Int->Option Int) (hm:a.eval m = .map (some b))
   (hown:Yc w P k e b n cnt f) (hK:wpList P ops Q rest (a.put o.dst (.int .i64 cnt)) w):wpList P ops Q (o::rest) a w:=by
 obtain⟨D,h1,h2,h3,h4⟩:=hown;refine wpList_len_own w hg m t hop k e ht _ b n D hm h1 ?_;rw [h3];exact hK
variable {F:Fence} {nF:Nat}
theorem JB (hg:o.guard=none) (m x:Operand) (t:TypeId) (hop:o.op=Op.lookup t m x true) (k e:TypeId) (hk:P.underlying k=some (.int .i64)) (ht:P.underlying t=some (.map k e)) (he:P.underlying e=some (.int .i64))
   (hz:(zeroValue e).run P w = .ok (.int .i64 0) w) (b n cnt:Nat) (f:Int->Option Int) (hm:a.eval m = .map (some b)) (hown:Yc w P k e b n cnt f) (key:Int) (hx:a.eval x = .int .i64 key) (hw:(Lit.int .i64 key).wf=true)
   (hK:wpListIn F nF P ops Q rest (a.put o.dst (.tuple #[.int .i64 ((f key).getD 0),.bool (f key).isSome])) w):wpListIn F nF P ops Q (o::rest) a w:=by
 obtain⟨D,h1,h2,h3,h4⟩:=hown;refine wpListIn_lookup_own_ok_int w hg m x t hop k e .i64 (Maps.int_keyed hk) ht he hz b n D hm h1 _ _ hx (Maps.keyOf_int_mk hk hw) fun c hat hwc=>?_;rw [(h4 key hw).2]at hat;(have hc:c=(f key).getD 0:=by injection hat with q;injection q with q1 q2;exact q2.symm);rw [hc,(h4 key hw).1];exact hK
end
theorem Yc.run_put {w:World} {P:Program} {k e t:TypeId} {b n cnt:Nat} {f:Int->Option Int} (hown:Yc w P k e b n cnt f) (hk:P.underlying k=some (.int .i64)) (ht:P.underlying t=some (.map k e)) (he:P.underlying e=some (.int .i64))
   (hn:n<maxLen) {key val:Int} (hw:(Lit.int .i64 key).wf=true) (hwv:(Lit.int .i64 val).wf=true) :
   ∃w',(Instr.mapUpdate t (.map (some b)) (.int .i64 key) (.int .i64 val)).run P w = .ok () w'/\Yc w' P k e b (n+1) (Q0I f key cnt) (Kr f key val)/\w.grownBy w' (some b):=by
 obtain⟨D,h1,h2,h3,h4⟩:=hown;obtain⟨w',hrun,h5,h6⟩:=h1.update (Maps.int_keyed hk) ht hn (Maps.keyOf_int_mk hk hw) (plainElem_int he hwv);exact⟨w',hrun,⟨_,h5,h5.tidy (Maps.int_keyed hk),(Yc.put_ h2 h3 h4 hw).1,(Yc.put_ h2 h3 h4 hw).2⟩,h6⟩
end Go.Proofs.YtjfdaphjijfieaaGreat
