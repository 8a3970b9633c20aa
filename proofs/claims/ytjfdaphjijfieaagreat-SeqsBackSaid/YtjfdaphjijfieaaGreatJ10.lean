/-
  Joined texts, part 10: contracts and plain lemmas.
  Conditions: none beyond those of each theorem.
-/
import Derived.Test.YtjfdaphjijfieaaGreatJ4
import Derived.Lib.BitFns
set_option linter.unusedVariables false
set_option linter.unusedSimpArgs false
set_option maxRecDepth 100000
universe u
namespace Go.Proofs.YtjfdaphjijfieaaGreat
open Go.RowKit
def cntZ (P : List Int) (i : Nat) (c : Int) : Nat:=(P.take i).count c
def symZ (P : List Int) (i : Nat) : Int:=(P[i]?).getD 0
def numZ (N P : List Int) (i : Nat) : Int:=max ((N[(symZ P i).toNat]?).getD 0) (-((N[(symZ P i).toNat]?).getD 0)) + cntZ P i (symZ P i)
def bitZ (lg : Nat) (N P : List Int) (i : Nat) : Int:=(lg : Int) + 1 - (Lib.bitLen (numZ N P i).toNat : Nat)
def baseZ (lg : Nat) (N P : List Int) (i : Nat) : Int:=numZ N P i * 2 ^ (bitZ lg N P i).toNat - 2 ^ lg
def cellZ (lg : Nat) (N P : List Int) (i : Nat) : Int × Int × Int:=(symZ P i,bitZ lg N P i,baseZ lg N P i)
def cellsN (lg : Nat) (N : List Int) : List (Int × Int × Int):=(List.range (2 ^ lg)).map (cellZ lg N (spreadN lg N))
@[simp] theorem cellsN_length (lg : Nat) (N : List Int) : (cellsN lg N).length = 2 ^ lg:=by simp [cellsN]
theorem cntZ_succ {P : List Int} {i : Nat} (h : i < P.length) (c : Int) : cntZ P (i + 1) c = cntZ P i c + if P[i] = c then 1 else 0:=by
 unfold cntZ;rw [List.take_succ_eq_append_getElem h,List.count_append,List.count_singleton];(by_cases hc : P[i] = c <;> simp [hc])
theorem countP_upd {f : Int->Option Int} {y : Nat} {v c : Int} (hf : f y = none) : ∀ (s : Nat),y < s ->
   (List.range s).countP (fun (x : Nat)=>decide ((if (x : Int) = (y : Int) then some v else f x) = some c)) = (List.range s).countP (fun (x : Nat)=>decide (f x = some c)) + if v = c then 1 else 0
 | 0,h=>by omega
 | s + 1,h=>by
   rw [List.range_succ,List.countP_append,List.countP_append]
   by_cases hys : y = s
   . subst hys
     have e : (List.range y).countP (fun (x : Nat)=>decide ((if (x : Int) = (y : Int) then some v else f x) = some c)) = (List.range y).countP (fun (x : Nat)=>decide (f x = some c)):=by
       apply List.countP_congr;intro x hx;have:=List.mem_range.1 hx;rw [if_neg (by omega)]
     rw [e];(by_cases hv : v = c <;> simp [hf,hv])
   have ih:=countP_upd (v:=v) (c:=c) hf s (by omega);rw [ih];have e : (if (s : Int) = (y : Int) then some v else f s) = f s:=if_neg (by omega);simp only [List.countP_singleton,e];omega
theorem countP_rare (s : Nat) (c : Nat) : ∀ (rs : List Nat),rs.length<=s->(List.range s).countP (fun (x : Nat)=>decide (rareF s rs x = some (c : Int))) = rs.count c:=by
 intro rs
 induction hn : rs.length generalizing rs with
 | zero =>
   intro _;have : rs = []:=List.eq_nil_of_length_eq_zero hn;subst this;simp [rareF]
 | succ n ih =>
   intro hl;obtain ⟨q,y,rfl⟩ : ∃ q y,rs = q ++ [y]:=⟨rs.dropLast,rs.getLast (by intro h;subst h;simp at hn),(List.dropLast_concat_getLast _).symm⟩;(have hq : q.length = n:=by simpa using hn);have h1:=ih q hq (by omega)
   have h2 : (rareF s q ((s - 1 - q.length : Nat) : Int)) = none:=by
     unfold rareF;rw [if_pos (by omega),List.getElem?_eq_none (by omega)];rfl
   have h3:=countP_upd (f:=rareF s q) (y:=s - 1 - q.length) (v:=(y : Int)) (c:=(c : Int)) h2 s (by omega);(have e : ((s - 1 - q.length : Nat) : Int) = (s : Int) - 1 - q.length:=by omega);rw [e] at h3;have h4:=rareF_put (s:=s) (rs:=q) (i:=y)
   have h5 : (List.range s).countP (fun (x : Nat)=>decide (rareF s (q ++ [y]) x = some (c : Int))) = (List.range s).countP (fun (x : Nat)=>decide ((if (x : Int) = (s : Int) - 1 - q.length then some (y : Int) else rareF s q x) = some (c : Int))):=by
     rw [<- h4]
   rw [h5,h3,h1,List.count_append,List.count_singleton]
   congr 1
   by_cases hyc : y = c
   . simp [hyc]
   rw [if_neg (by omega)];simp [hyc]
theorem countP_visit {s : Nat} {rest rs : List Nat} (c : Nat) (hR : rs.length + rest.length = s) : ∀ (pre : List Nat),pre.Nodup->(∀ y ∈ pre,y < s) ->
   (List.range s).countP (fun (x : Nat)=>decide ((visitN rest (rareF s rs) pre).1 x = some (c : Int))) = rs.count c + (rest.take (visitN rest (rareF s rs) pre).2).count c:=by
 intro pre
 induction hn : pre.length generalizing pre with
 | zero =>
   intro _ _;have : pre = []:=List.eq_nil_of_length_eq_zero hn;subst this;have:=countP_rare s c rs (by omega);simp only [visitN,List.foldl_nil,List.take_zero,List.count_nil,Nat.add_zero];exact this
 | succ n ih =>
   intro hd hlt;obtain ⟨q,y,rfl⟩ : ∃ q y,pre = q ++ [y]:=⟨pre.dropLast,pre.getLast (by intro h;subst h;simp at hn),(List.dropLast_concat_getLast _).symm⟩;(have hq : q.length = n:=by simpa using hn);have hy:=hlt y (by simp);have h1:=ih q hq (List.nodup_append.1 hd).1 fun z hz=>hlt z (by simp [hz]);rw [visitN_snoc];unfold visitS;cases hs : ((visitN rest (rareF s rs) q).1 y).isSome
   . have hroom:=visit_room hd hlt hR hs
     (have hnone : (visitN rest (rareF s rs) q).1 y = none:=by simpa using hs);simp only [Bool.false_eq_true,if_false];rw [countP_upd hnone s hy,h1,List.take_add_one,List.getElem?_eq_getElem hroom];simp only [Option.getD_some,Option.toList,List.count_append,List.count_singleton];by_cases hc : rest[(visitN rest (rareF s rs) q).2] = c
     . simp [hc];omega
     rw [if_neg (by omega)];simp [hc]
   simp only [if_true];exact h1
theorem rareGo_count : ∀ (l : List Int) (i c : Nat),(rareGo i l).count c = if i<=c/\l[c - i]? = some (-1) then 1 else 0
 | [],i,c=>by simp [rareGo]
 | v :: l,i,c=>by
   have ih:=rareGo_count l (i + 1) c
   rw [rareGo]
   by_cases hic : i = c
   . subst hic
     have h0 : (rareGo (i + 1) l).count i = 0:=by rw [ih,if_neg (by omega)]
     by_cases hv : v = -1
     . rw [if_pos hv,List.count_cons,h0];simp [hv]
     rw [if_neg hv,h0,if_neg (by rintro ⟨_,h⟩;simp at h;exact hv h)]
   have e : (if v = -1 then i :: rareGo (i + 1) l else rareGo (i + 1) l).count c = (rareGo (i + 1) l).count c:=by
     split
     . rw [List.count_cons];simp [hic]
     rfl
   rw [e,ih];by_cases h : i < c
   . have : c - i = (c - (i + 1)) + 1:=by omega
     rw [this,List.getElem?_cons_succ];by_cases hq : l[c - (i + 1)]? = some (-1)
     . rw [if_pos ⟨by omega,hq⟩,if_pos ⟨by omega,hq⟩]
     rw [if_neg (fun q=>hq q.2),if_neg (fun q=>hq q.2)]
   rw [if_neg (by omega),if_neg (by omega)]
theorem restGo_count : ∀ (l : List Int) (i c : Nat),(restGo i l).count c = if i<=c then ((l[c - i]?).getD 0).toNat else 0
 | [],i,c=>by simp [restGo]
 | v :: l,i,c=>by
   have ih:=restGo_count l (i + 1) c
   rw [restGo,List.count_append,List.count_replicate,ih]
   by_cases hic : i = c
   . subst hic
     rw [if_neg (show ¬ i + 1<=i by omega)]
     simp
   have e : (i == c) = false:=by simpa using hic
   rw [e]
   simp only [Bool.false_eq_true,if_false,Nat.zero_add]
   by_cases h : i < c
   . have : c - i = (c - (i + 1)) + 1:=by omega
     rw [this,List.getElem?_cons_succ,if_pos (by omega),if_pos (by omega)]
   rw [if_neg (by omega),if_neg (by omega)]
end Go.Proofs.YtjfdaphjijfieaaGreat
