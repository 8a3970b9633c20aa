/-
  Joined texts, part 33: contracts and plain lemmas.
  Conditions: none beyond those of each theorem.
-/
import Derived.Test.YtjfdaphjijfieaaGreatJ32
set_option linter.unusedVariables false
set_option linter.unusedSimpArgs false
set_option maxRecDepth 100000
universe u
namespace Go.Proofs.YtjfdaphjijfieaaGreat
open Go.RowKit
theorem cheapP_mem : ∀ (l : List ((Int × Int × List Int) × Int)) (c : (Int × Int × List Int) × Int),cheapP c l ∈ c :: l
 | [],c=>by simp [cheapP]
 | s :: l,c=>by
   rw [cheapP]
   have h:=cheapP_mem l (if s.2 < c.2 then s else c)
   rcases List.mem_cons.1 h with h | h
   . rw [h];split <;> simp
   exact List.mem_cons_of_mem _ (List.mem_cons_of_mem _ h)
theorem mayN_mem {p : Int} {C : List Int} {cs : List (Int × Int × List Int)} {c : (Int × Int × List Int) × Int} (h : c ∈ mayN p C cs) : c.1 ∈ cs/\priceN p C c.1 = some c.2:=by
 unfold mayN at h;obtain ⟨a,ha,hb⟩:=List.mem_filterMap.1 h;rcases hp : priceN p C a with _ | x
 . rw [hp] at hb;simp at hb
 rw [hp] at hb;simp at hb;subst hb;exact ⟨ha,hp⟩
theorem cheapP_le : ∀ (l : List ((Int × Int × List Int) × Int)) (c s : (Int × Int × List Int) × Int),s ∈ c :: l->(cheapP c l).2<=s.2
 | [],c,s,h=>by simp at h;subst h;simp [cheapP]
 | t :: l,c,s,h=>by
   rw [cheapP]
   have h1 : ∀ s,s ∈ (if t.2 < c.2 then t else c) :: l->_:=cheapP_le l (if t.2 < c.2 then t else c)
   have h0:=h1 (if t.2 < c.2 then t else c) (by simp)
   have hc : (if t.2 < c.2 then t else c).2<=c.2/\(if t.2 < c.2 then t else c).2<=t.2:=by split <;> omega
   rcases List.mem_cons.1 h with rfl | h
   . omega
   rcases List.mem_cons.1 h with rfl | h
   . omega
   exact h1 s (List.mem_cons_of_mem _ h)
theorem chooseN_fits {p lg : Int} {N C : List Int} {r1 r2 : Int} {r3 : List Int} (hp : 0<=p/\p<=2) (h : chooseN p lg N C = (r1,r2,r3,0)) :
   (encN r1 p r2 r3).1 = 0/\(costN r2 r3 C).2 = 0/\(r1,r2,r3) ∈ candsN p (partX p) lg N C /\
   ∀ c x,c ∈ candsN p (partX p) lg N C->priceN p C c = some x->(costN r2 r3 C).1 + 8 * (encN r1 p r2 r3).2.length<=x:=by
 have h0 : chooseN p lg N C = match mayN p C (candsN p (partX p) lg N C) with | []=>(0,0,[],2) | c :: l=>((cheapP c l).1.1,(cheapP c l).1.2.1,(cheapP c l).1.2.2,0):=by
   unfold chooseN;rw [if_neg (by omega)];(try rfl)
 rw [h0] at h
 cases hm : mayN p C (candsN p (partX p) lg N C) with
 | nil=>rw [hm] at h;simp at h
 | cons c l =>
   rw [hm] at h;simp only [Prod.mk.injEq,and_true] at h;obtain ⟨e1,e2,e3⟩:=h;have hb:=cheapP_mem l c;have hle:=cheapP_le l c;rw [<- hm] at hb hle;obtain ⟨m1,m2⟩:=mayN_mem hb;(have hc : (cheapP c l).1 = (r1,r2,r3):=by rw [<- e1,<- e2,<- e3]);rw [hc] at m1 m2;unfold priceN at m2;simp only at m2;split at m2
   . rename_i hok
     injection m2 with m2;refine ⟨hok.1,hok.2,m1,fun c' x hc' hx=>?_⟩
     have : (c',x) ∈ mayN p C (candsN p (partX p) lg N C):=by
       unfold mayN;exact List.mem_filterMap.2 ⟨c',hc',by rw [hx];rfl⟩
     have:=hle _ this;simp only at this;omega
   cases m2
theorem cost_cover {lg : Int} {N : List Int} : ∀ (l : List Int) (i : Nat) (a r : Int),costGo lg N i l a = some r->∀ (j : Nat) c,l[j]? = some c->c ≠ 0->∃ v,N[i + j]? = some v/\v ≠ 0
 | [],i,a,r,_,j,c,hj,_=>by simp at hj
 | x :: l,i,a,r,h,j,c,hj,hc=>by
   rw [costGo] at h
   cases j with
   | zero =>
     have hx : x = c:=by simpa using hj
     subst hx
     rw [if_neg hc] at h
     rcases hN : N[i]? with _ | v
     . rw [hN] at h;cases h
     rw [hN] at h
     simp only at h
     by_cases hv : v = 0
     . rw [if_pos hv] at h;cases h
     exact ⟨v,by first | rfl | exact hN,hv⟩
   | succ j =>
     have hj' : l[j]? = some c:=by simpa using hj
     have key : ∃ a',costGo lg N (i + 1) l a' = some r:=by
       split at h
       . exact ⟨_,h⟩
       split at h
       . cases h
       split at h
       . cases h
       exact ⟨_,h⟩
     obtain ⟨a',ha'⟩:=key;have:=cost_cover l (i + 1) a' r ha' j c hj' hc
     rwa [show i + (j + 1) = i + 1 + j by omega]
theorem cover_cost {lg : Int} {N : List Int} : ∀ (l : List Int) (i : Nat) (a : Int),(∀ (j : Nat) c,l[j]? = some c->c ≠ 0->∃ v,N[i + j]? = some v/\v ≠ 0)->∃ r,costGo lg N i l a = some r
 | [],i,a,_=>⟨a,rfl⟩
 | x :: l,i,a,h=>by
   rw [costGo]
   have h' : ∀ (j : Nat) c,l[j]? = some c->c ≠ 0->∃ v,N[i + 1 + j]? = some v/\v ≠ 0:=fun j c hj hc=>by
     have:=h (j + 1) c (by simpa using hj) hc
     rwa [show i + (j + 1) = i + 1 + j by omega] at this
   by_cases hx : x = 0
   . rw [if_pos hx];exact cover_cost l (i + 1) a h'
   rw [if_neg hx]
   obtain ⟨v,hv,hv0⟩:=h 0 x rfl hx
   rw [Nat.add_zero] at hv
   rw [hv]
   simp only
   rw [if_neg hv0]
   exact cover_cost l (i + 1) _ h'
theorem llN_nz : ∀ v ∈ llN,v ≠ 0:=by decide
theorem ofN_nz : ∀ v ∈ ofN,v ≠ 0:=by decide
theorem mlN_nz : ∀ v ∈ mlN,v ≠ 0:=by decide
theorem partN_nz (p : Int) : ∀ v ∈ partN p,v ≠ 0:=by
 intro v hv;unfold partN at hv;split at hv
 . exact llN_nz v hv
 split at hv
 . exact ofN_nz v hv
 exact mlN_nz v hv
theorem partN_len {p : Int} (h : 0<=p/\p<=2) : ((partN p).length : Int) = partS p:=by
 (rcases part_cases h with rfl | rfl | rfl <;> decide +kernel)
theorem encN_own {p : Int} (hp : 0<=p/\p<=2) : encN 0 p (partL p) (partN p) = (0,[]):=by
 unfold encN;rw [if_neg (by omega),if_pos (part_valid hp)];simp [encM]
theorem cands_last {p x lg : Int} {N C : List Int} {r2 : Int} {r3 : List Int} (h : ((3 : Int),r2,r3) ∈ candsN p x lg N C) : r2 = lg/\r3 = N:=by
 unfold candsN at h;rcases List.mem_cons.1 h with h | h
 . simp only [Prod.mk.injEq,true_and] at h;exact h
 rcases List.mem_cons.1 h with h | h
 . simp at h
 split at h
 . rw [List.mem_singleton] at h
   simp only [Prod.mk.injEq] at h;have:=h.1;(split at this <;> omega)
 cases h
theorem recL_nonneg {C : List Int} (hC : CtOk C) (hu : 0 < usedC C) (h : usedC C<=512) : 0<=recL C 9:=by
 unfold recL
 rw [if_neg (by
   (have e : (2 : Int) ^ (9 : Int).toNat = 512:=by decide);rw [e];intro h1;rcases h1 with h1 | h1 | h1
   . exact h1 ⟨hC,hu⟩
   . omega
   omega)]
 (split <;> omega)
theorem chooseN_some {p lg : Int} {N C : List Int} (hp : 0<=p/\p<=2) (hC : CtOk C) (hu : 0 < usedC C) (h512 : usedC C<=512) (hs : ∀ (j : Nat) c,C[j]? = some c->c ≠ 0->(j : Int) < partS p) : (chooseN p lg N C).2.2.2 = 0:=by
 have h1 : (costN (partL p) (partN p) C).2 = 0:=by
   unfold costN;rw [if_pos ⟨valid_wide (part_valid hp),recL_nonneg hC hu h512⟩]
   obtain ⟨r,hr⟩:=cover_cost (lg:=partL p) (N:=partN p) C 0 0 (fun j c hj hc=>by
     have hl:=hs j c hj hc;have h2:=partN_len hp;(have hl2 : 0 + j < (partN p).length:=by omega)
     exact ⟨_,List.getElem?_eq_getElem hl2,partN_nz p _ (List.getElem_mem hl2)⟩)
   rw [hr]
 (have h2 : (encN 0 p (partL p) (partN p)).1 = 0:=by rw [encN_own hp])
 have hm : ((0,partL p,partN p),(costN (partL p) (partN p) C).1 + 8 * (encN 0 p (partL p) (partN p)).2.length) ∈ mayN p C (candsN p (partX p) lg N C):=by
   unfold mayN;refine List.mem_filterMap.2 ⟨(0,partL p,partN p),by unfold candsN;simp,?_⟩;unfold priceN;rw [if_pos ⟨h2,h1⟩];rfl
 unfold chooseN;rw [if_neg (by omega)];split
 . next h=>rw [h] at hm;cases hm
 rfl
theorem choose_cov {p lg : Int} {N C : List Int} (hp : 0<=p/\p<=2) (h : (chooseN p lg N C).2.2.2 = 0) :
   (0<=(chooseN p lg N C).1/\(chooseN p lg N C).1<=3)/\Valid (chooseN p lg N C).2.1 (chooseN p lg N C).2.2.1 (partS p) (partX p)/\(encN (chooseN p lg N C).1 p (chooseN p lg N C).2.1 (chooseN p lg N C).2.2.1).1 = 0 /\
   ((chooseN p lg N C).1 = 3->lg = (chooseN p lg N C).2.1/\N = (chooseN p lg N C).2.2.1) /\
   ∀ (j : Nat) c,C[j]? = some c->c ≠ 0->j < (chooseN p lg N C).2.2.1.length/\1<=(plN (chooseN p lg N C).2.1.toNat (chooseN p lg N C).2.2.1 j).length:=by
 obtain ⟨r1,r2,r3,r4,hr⟩ : ∃ r1 r2 r3 r4,chooseN p lg N C = (r1,r2,r3,r4):=⟨_,_,_,_,rfl⟩;rw [hr] at h;simp only at h;subst h;obtain ⟨h1,h2,h3,_⟩:=chooseN_fits hp hr;rw [hr];simp only;obtain ⟨a1,a2,_,_,hv,_⟩:=encN_ok h1;refine ⟨⟨a1,a2⟩,hv,h1,fun e=>?_,fun j c hj hc=>?_⟩
 . subst e
   obtain ⟨e1,e2⟩:=cands_last h3;exact ⟨e1.symm,e2.symm⟩
 unfold costN at h2;split at h2
 . rcases hg : costGo r2 r3 0 C 0 with _ | a
   . rw [hg] at h2;simp at h2
   obtain ⟨v,hv1,hv0⟩:=cost_cover C 0 0 a hg j c hj hc;rw [Nat.zero_add] at hv1;obtain ⟨hl,hget⟩:=List.getElem?_eq_some_iff.1 hv1;refine ⟨hl,?_⟩;have hw:=valid_wide hv;have h0:=hw.1;obtain ⟨q,rfl⟩ : ∃ q : Nat,r2 = q:=⟨r2.toNat,by omega⟩;have:=pl_length hw hl;rw [Int.toNat_natCast];rw [hget] at this;(have ha : 1<=absZ v:=by unfold absZ;split <;> omega);omega
 simp at h2
theorem seen_at (B0 D : List Nat) : seenB (B0 ++ D) B0.length = D.take 1024:=by
 unfold seenB;rw [List.drop_left]
theorem at_back (B0 : List Nat) (x : Nat) (l : List Nat) : (B0 ++ x :: l)[B0.length]? = some x:=by
 rw [List.getElem?_append_right (Nat.le_refl _),Nat.sub_self];rfl
theorem modes_at {m p lg l0 : Int} {N N0 : List Int} (h : (encN m p lg N).1 = 0) (h3 : m = 3->l0 = lg/\N0 = N) (B0 bs : List Nat) :
   decN m p l0 N0 (B0 ++ ((encN m p lg N).2 ++ bs)) B0.length = (0,lg,N,(encN m p lg N).2.length):=by
 obtain ⟨a1,a2,a3,a4,hv,he⟩:=encN_ok h;rw [he] at h ⊢;(have hd : ∀ l k,decN m p l0 N0 l k = decM m p l0 N0 l k:=fun l k=>by unfold decN;exact if_neg (by omega));rw [hd];clear hd he;(have : m = 0\/m = 1\/m = 2\/m = 3:=by omega);rcases this with rfl | rfl | rfl | rfl
 . by_cases hq : partL p = lg/\partN p = N
   . have e : encM 0 p lg N = (0,[]):=by simp [encM,hq]
     rw [e];simp [decM,hq.1,hq.2]
   simp [encM,hq] at h
 . by_cases hq : lg = 0/\N[N.length - 1]? = some 1
   . have e : encM 1 p lg N = (0,[N.length - 1]):=by simp [encM,hq]
     rw [e];have hs:=hv.2.2.2.2.2.2.2;rw [hq.1] at hs;have hone:=one_of_sum hv.2.2.2.1 hs hq.2;have h2:=hv.2.2.2.2.1;have h3:=hv.2.2.2.1
     have ho : oneS (B0 ++ ([N.length - 1] ++ bs)) B0.length (partS p) = (0,oneN (N.length - 1),1):=by
       unfold oneS;rw [if_pos (by simp)]
       have : (B0 ++ ([N.length - 1] ++ bs))[B0.length]?.getD 0 = N.length - 1:=by
         rw [List.singleton_append,at_back];rfl
       rw [this,if_neg (by omega)]
     show ((oneS (B0 ++ ([N.length - 1] ++ bs)) B0.length (partS p)).1,(0 : Int),(oneS (B0 ++ ([N.length - 1] ++ bs)) B0.length (partS p)).2.1,(oneS (B0 ++ ([N.length - 1] ++ bs)) B0.length (partS p)).2.2) = (0,lg,N,1);rw [ho,<- hone,hq.1]
   simp [encM,hq] at h
 . by_cases hq : lg ≠ 0
   . have e : encM 2 p lg N = (0,packB (descBits lg.toNat N)):=by simp [encM,hq]
     rw [e];obtain ⟨q,rfl⟩ : ∃ q : Nat,lg = q:=⟨lg.toNat,by have:=hv.1;omega⟩;have hv2:=valid_wide hv;have hle:=desc_bytes_le hv2;rw [Int.toNat_natCast];have hb:=desc_back (sy:=partS p) (lb:=partX p) hv2 (by omega) hv.2.2.2.2.1 hv.2.1 (bs.take (1024 - (packB (descBits q N)).length));show desS (B0 ++ (packB (descBits q N) ++ bs)) B0.length (partS p) (partX p) = _;unfold desS;rw [seen_at,List.take_append,List.take_of_length_le (by omega),hb]
   simp [encM,hq] at h
 (have e : encM 3 p lg N = (0,[]):=by simp [encM]);rw [e];obtain ⟨e1,e2⟩:=h3 rfl;subst e1 e2;simp [decM,hv]
def RawN.c (x : RawN) (i : Nat) : Nat:=if i = 0 then x.cL else if i = 1 then x.cO else x.cM
def cntN (i : Nat) (l : List RawN) : List Int:=(List.range 44).map fun c=>((l.countP fun x=>x.c i == c : Nat) : Int)
@[simp] theorem cntN_length (i : Nat) (l : List RawN) : (cntN i l).length = 44:=by simp [cntN]
theorem cntN_get (i : Nat) (l : List RawN) (c : Nat) (h : c < 44) : (cntN i l)[c]? = some ((l.countP fun x=>x.c i == c : Nat) : Int):=by
 unfold cntN;rw [List.getElem?_map,List.getElem?_range h];rfl
theorem cntN_nil (i : Nat) : cntN i [] = List.replicate 44 0:=by
 unfold cntN;simp [List.map_const']
theorem cntN_snoc (i : Nat) (l : List RawN) (x : RawN) (h : x.c i < 44) : cntN i (l ++ [x]) = (cntN i l).set (x.c i) (((l.countP fun y=>y.c i == x.c i : Nat) : Int) + 1):=by
 apply List.ext_getElem?;intro c;rw [List.getElem?_set];by_cases hc : c < 44
 . rw [cntN_get i _ c hc,List.countP_append]
   by_cases hx : x.c i = c
   . subst hx
     rw [if_pos rfl,if_pos (by simpa using h)];simp
   rw [if_neg hx,cntN_get i l c hc];simp [hx]
 rw [List.getElem?_eq_none (by simp;omega),if_neg (by omega),List.getElem?_eq_none (by simp;omega)]
theorem raw_c {x : RawN} (h : x.ok) (i : Nat) : x.c i < 44/\(i = 1->x.c i < 28):=by
 obtain ⟨h1,h2,h3,_⟩:=raw_codes h;unfold RawN.c;refine ⟨by split;omega;split <;> omega,fun e=>by subst e;simpa using h3⟩
theorem sum_le_mulZ {M : Int} : ∀ (l : List Int),(∀ x ∈ l,x<=M)->l.sum<=l.length * M
 | [],_=>by simp
 | x :: l,h=>by
   have h1:=sum_le_mulZ l fun y hy=>h y (List.mem_cons_of_mem _ hy)
   have h2:=h x (by simp)
   rw [List.sum_cons,List.length_cons]
   have h3 : (((l.length + 1 : Nat) : Int)) * M = (l.length : Int) * M + M:=by
     rw [Int.natCast_add,Int.add_mul];simp
   omega
theorem cnt_range {i : Nat} {l : List RawN} (hl : l.length<=65536) : ∀ x ∈ cntN i l,0<=x/\x<=65536:=by
 intro x hx;unfold cntN at hx;obtain ⟨c,_,rfl⟩:=List.mem_map.1 hx;have:=List.countP_le_length (p:=fun x : RawN=>x.c i == c) (l:=l);omega
theorem cnt_ok {i : Nat} {l : List RawN} (hl : l.length<=65536) : CtOk (cntN i l):=by
 refine ⟨fun c hc=>(cnt_range hl c hc).1,?_⟩;have:=sum_le_mulZ (cntN i l) fun x hx=>(cnt_range hl x hx).2;rw [cntN_length] at this;omega
theorem cnt_fit {i : Nat} {l : List RawN} (hl : l.length<=65536) : Fit (cntN i l):=fun y hy=>by
 have:=cnt_range hl y hy
 omega
theorem cnt_has {i : Nat} {l : List RawN} {x : RawN} (hx : x ∈ l) (h : x.c i < 44) : ∃ c,(cntN i l)[x.c i]? = some c/\c ≠ 0:=by
 refine ⟨_,cntN_get i l _ h,?_⟩;have : 0 < l.countP fun y=>y.c i == x.c i:=List.countP_pos_iff.2 ⟨x,hx,by simp⟩;omega
theorem cnt_used {i : Nat} {l : List RawN} (hl : l.length<=65536) (hne : l ≠ []) (hok : ∀ x ∈ l,x.ok) : 0 < usedC (cntN i l)/\usedC (cntN i l)<=512:=by
 constructor
 . obtain ⟨x,l',rfl⟩:=List.exists_cons_of_ne_nil hne
   obtain ⟨c,h1,h2⟩:=cnt_has (i:=i) (l:=x :: l') (x:=x) (by simp) (raw_c (hok x (by simp)) i).1;have hm:=List.mem_of_getElem? h1;have h3:=(cnt_range hl c hm).1;exact List.countP_pos_iff.2 ⟨c,hm,by simp;omega⟩
 have:=List.countP_le_length (p:=fun c : Int=>decide (0 < c)) (l:=cntN i l);rw [cntN_length] at this;unfold usedC;omega
theorem cnt_syms {i : Nat} {l : List RawN} (hi : i<=2) (hok : ∀ x ∈ l,x.ok) : ∀ (j : Nat) c,(cntN i l)[j]? = some c->c ≠ 0->(j : Int) < partS i:=by
 intro j c hj hc;have hl:=(List.getElem?_eq_some_iff.1 hj).1;rw [cntN_length] at hl;rw [cntN_get i l j hl] at hj;injection hj with hj;(have hpos : 0 < l.countP fun y=>y.c i == j:=by omega);obtain ⟨x,hx,he⟩:=List.countP_pos_iff.1 hpos;(have he : x.c i = j:=by simpa using he);obtain ⟨h1,h2⟩:=raw_c (hok x hx) i;unfold partS;split
 . next h=>have:=h2 (by omega);omega
 omega
def pkN (T : Tabs3) (l : List RawN) (i : Nat) : Int × Int × List Int × Int :=
  if i = 0 then chooseN 0 T.lL T.NL (cntN 0 l) else if i = 1 then chooseN 1 T.lO T.NO (cntN 1 l) else chooseN 2 T.lM T.NM (cntN 2 l)
def repN (T : Tabs3) (l : List RawN) (i : Nat) : List Nat:=(encN (pkN T l i).1 (i : Nat) (pkN T l i).2.1 (pkN T l i).2.2.1).2
def newT (T : Tabs3) (l : List RawN) : Tabs3:=⟨(pkN T l 0).2.1,(pkN T l 0).2.2.1,(pkN T l 1).2.1,(pkN T l 1).2.2.1,(pkN T l 2).2.1,(pkN T l 2).2.2.1⟩
def modB (T : Tabs3) (l : List RawN) (i : Nat) : Nat:=(if 0 < i then (pkN T l 0).1.toNat else 0) + (if 1 < i then 4 * (pkN T l 1).1.toNat else 0) + (if 2 < i then 16 * (pkN T l 2).1.toNat else 0)
def tailB (T : Tabs3) (l : List RawN) (i : Nat) : List Nat:=(if 0 < i then repN T l 0 else []) ++ (if 1 < i then repN T l 1 else []) ++ (if 2 < i then repN T l 2 else [])
def headB (T : Tabs3) (l : List RawN) (i : Nat) : List Nat:=modB T l i :: tailB T l i
theorem tailB_step (T : Tabs3) (l : List RawN) (i : Nat) (h : i<=2) : tailB T l (i + 1) = tailB T l i ++ repN T l i:=by
 (have h3 : i = 0\/i = 1\/i = 2:=by omega);(rcases h3 with rfl | rfl | rfl <;> simp [tailB])
theorem modB_step (T : Tabs3) (l : List RawN) (i mn : Nat) (h : i<=2) (hm : (pkN T l i).1 = mn) : modB T l (i + 1) = modB T l i + 4 ^ i * mn:=by
 (have h3 : i = 0\/i = 1\/i = 2:=by omega);(rcases h3 with rfl | rfl | rfl <;> simp [modB,hm])
theorem modB_lt {T : Tabs3} {l : List RawN} (h : ∀ j : Nat,j<=2->0<=(pkN T l j).1/\(pkN T l j).1<=3) (i : Nat) (hi : i<=3) : modB T l i < 4 ^ i:=by
 have h0:=h 0 (by omega);have h1:=h 1 (by omega);have h2:=h 2 (by omega);(have h3 : i = 0\/i = 1\/i = 2\/i = 3:=by omega);(rcases h3 with rfl | rfl | rfl | rfl <;> simp [modB] <;> omega)
theorem shl_u8 {P : Program} (x : Int) (k : Nat) (W : World) (hk : k < 8) : (Op.shift .shl .u8 x .i64 (k : Nat)).run P W = .ok (.int .u8 (IntKind.u8.wrap (x * 2 ^ k))) W:=by
 (have h0 : ¬ ((k : Nat) : Int) < 0:=by omega);simp [Op.shift,h0,Sem.run_pure,IntKind.bits];(try omega)
theorem or_mode (a m : Nat) (i : Nat) (hi : i<=2) (ha : a < 4 ^ i) (hm : m < 4) : bits .or .u8 (a : Int) (IntKind.u8.wrap (IntKind.u8.wrap (m : Int) * 2 ^ (2 * i))) = ((a + 4 ^ i * m : Nat) : Int):=by
 (have h3 : i = 0\/i = 1\/i = 2:=by omega);rcases h3 with rfl | rfl | rfl
 . have : ∀ (a : Fin 1) (m : Fin 4),bits .or .u8 ((a.val : Nat) : Int) (IntKind.u8.wrap (IntKind.u8.wrap ((m.val : Nat) : Int) * 2 ^ (2 * 0))) = ((a.val + 4 ^ 0 * m.val : Nat) : Int):=by decide +kernel
   exact this ⟨a,ha⟩ ⟨m,hm⟩
 . have : ∀ (a : Fin 4) (m : Fin 4),bits .or .u8 ((a.val : Nat) : Int) (IntKind.u8.wrap (IntKind.u8.wrap ((m.val : Nat) : Int) * 2 ^ (2 * 1))) = ((a.val + 4 ^ 1 * m.val : Nat) : Int):=by decide +kernel
   exact this ⟨a,ha⟩ ⟨m,hm⟩
 (have : ∀ (a : Fin 16) (m : Fin 4),bits .or .u8 ((a.val : Nat) : Int) (IntKind.u8.wrap (IntKind.u8.wrap ((m.val : Nat) : Int) * 2 ^ (2 * 2))) = ((a.val + 4 ^ 2 * m.val : Nat) : Int):=by decide +kernel);exact this ⟨a,ha⟩ ⟨m,hm⟩
def TabF (w : World) (F G : Nat->Prop) (b : Prop) [Decidable b] (A : Option Addr) (n : Nat) (xs ys : List Value) : Prop:=if b then RdU w G A n xs else Rd w F A n ys
theorem own_first (w : World) (e : TypeId) (u : Value) : Own (w.alloc (.cells #[u] e)) e (.slice (some ⟨w.heap.size,0,none⟩) 1 1) [u] :=
 ⟨rfl,.inr ⟨w.heap.size,1,#[u],rfl,Nat.zero_le _,heap_alloc_new w _,Nat.le_refl _,by simp [maxLen],rfl,rfl⟩⟩
theorem Own.head {w : World} {e : TypeId} {v x : Value} {xs : List Value} (h : Own w e v (x :: xs)) : ∃ g c,v = .slice (some ⟨g,0,none⟩) (xs.length + 1) c/\g < w.heap.size/\w.cell? ⟨g,0,none⟩ = some x/\w.frozen? ⟨g,0,none⟩ = false/\∀ u,Own (w.setCell ⟨g,0,none⟩ u) e v (u :: xs):=by
 rcases h.2 with ⟨_,h0⟩ | ⟨g,cap,cur,rfl,hb,hg,hn,hm,hc,ht⟩
 . simp at h0
 have hB : Blk w g e cur:=hg;(have ht' : cur.toList.take (xs.length + 1) = x :: xs:=by simpa using ht)
 have h0 : cur[0]? = some x:=by
   (have e1 : (cur.toList.take (xs.length + 1))[0]? = some x:=by rw [ht'];rfl);rw [List.getElem?_take,if_pos (by omega)] at e1;simpa using e1
 refine ⟨g,cap,rfl,hB.lt,by rw [hB.cell,h0],hB.frozen 0,fun u=>⟨by simp,.inr ⟨g,cap,cur.setIfInBounds 0 u,rfl,Nat.zero_le _,hB.set_ 0 u,hn,hm,by simpa using hc,?_⟩⟩⟩;rw [Array.toList_setIfInBounds];(have e2 : (u :: xs).length * 1 = xs.length + 1:=by simp);rw [e2,List.take_set,ht'];rfl
def ChosenPost (T : Tabs3) (l : List RawN) (w : World) (e : Ending) (w' : World) : Prop :=
  Fresh w w'/\∃ v A n c B m d C k e',e = .returned (.tuple #[v,.agg #[.int .i64 (newT T l).lL,.slice A n c,.int .i64 (newT T l).lO,.slice B m d,.int .i64 (newT T l).lM,.slice C k e'],.int .i64 0]) /\
    Own w' 5 v (bytes (headB T l 3))/\(∀ b,v.ownBlock = some b->w.heap.size<=b)/\RdU w' (fun b=>w.heap.size<=b) A n (ints (newT T l).NL)/\RdU w' (fun b=>w.heap.size<=b) B m (ints (newT T l).NO)/\RdU w' (fun b=>w.heap.size<=b) C k (ints (newT T l).NM)
theorem pk_facts {T : Tabs3} {l : List RawN} (hl : l.length<=65536) (hne : l ≠ []) (hok : ∀ x ∈ l,x.ok) (i : Nat) (hi : i<=2) : (pkN T l i).2.2.2 = 0/\(0<=(pkN T l i).1/\(pkN T l i).1<=3)/\Valid (pkN T l i).2.1 (pkN T l i).2.2.1 (partS i) (partX i) /\
   (encN (pkN T l i).1 i (pkN T l i).2.1 (pkN T l i).2.2.1).1 = 0/\(∀ x ∈ l,x.c i < (pkN T l i).2.2.1.length/\1<=(plN (pkN T l i).2.1.toNat (pkN T l i).2.2.1 (x.c i)).length)/\Fit (pkN T l i).2.2.1/\(pkN T l i).2.2.1.length<=1000:=by
 have key : ∀ (j : Nat) (lg : Int) (N : List Int),j<=2->pkN T l j = chooseN j lg N (cntN j l)->(pkN T l j).2.2.2 = 0/\(0<=(pkN T l j).1/\(pkN T l j).1<=3)/\Valid (pkN T l j).2.1 (pkN T l j).2.2.1 (partS j) (partX j) /\
   (encN (pkN T l j).1 j (pkN T l j).2.1 (pkN T l j).2.2.1).1 = 0/\(∀ x ∈ l,x.c j < (pkN T l j).2.2.1.length/\1<=(plN (pkN T l j).2.1.toNat (pkN T l j).2.2.1 (x.c j)).length)/\Fit (pkN T l j).2.2.1/\(pkN T l j).2.2.1.length<=1000:=by
   intro j lg N hj e;rw [e];(have hp : 0<=(j : Int)/\(j : Int)<=2:=by omega);obtain ⟨u1,u2⟩:=cnt_used (i:=j) hl hne hok;have h0:=chooseN_some (lg:=lg) (N:=N) hp (cnt_ok hl) u1 u2 (cnt_syms hj hok);obtain ⟨c1,c2,c3,c4,c5⟩:=choose_cov hp h0;refine ⟨h0,c1,c2,c3,fun x hx=>?_,fun y hy=>?_,?_⟩
   . obtain ⟨c,hc,hc0⟩:=cnt_has (i:=j) hx (raw_c (hok x hx) j).1
     exact c5 _ c hc hc0
   . have h1:=c2.2.2.2.2.2.2.1 y hy
     have h2:=absZ_le_sumS hy;rw [c2.2.2.2.2.2.2.2] at h2;have h3:=c2.2.2.1;(have h4 : (2 : Int) ^ (chooseN j lg N (cntN j l)).2.1.toNat = ((2 ^ (chooseN j lg N (cntN j l)).2.1.toNat : Nat) : Int):=by simp);have h5 : 2 ^ (chooseN j lg N (cntN j l)).2.1.toNat<=2 ^ 9:=Nat.pow_le_pow_right (by decide) (by omega);(have h6 : y<=absZ y:=by unfold absZ;split <;> omega);omega
   have h1:=c2.2.2.2.2.1;have h2:=part_bounds j;omega
 (have h3 : i = 0\/i = 1\/i = 2:=by omega);rcases h3 with rfl | rfl | rfl
 . exact key 0 T.lL T.NL (by omega) rfl
 . exact key 1 T.lO T.NO (by omega) rfl
 exact key 2 T.lM T.NM (by omega) rfl
set_option maxHeartbeats 20000000 in
theorem chosen_any (F FL : Nat->Prop) (A B C D L : Option Addr) (n c m d k ce dn dc nl dl : Nat) (T : Tabs3) (l : List RawN) (r0 r1 r2 : Int) (w : World) (hA : Rd w F A n (ints T.NL)) (hB : Rd w F B m (ints T.NO)) (hC : Rd w F C k (ints T.NM))
   (f1 : Fit T.NL) (f2 : Fit T.NO) (f3 : Fit T.NM) (b1 : (n : Int)<=1099511627776) (b2 : (m : Int)<=1099511627776) (b3 : (k : Int)<=1099511627776) (hL : RdK w FL 6 L nl (l.map codC)) (hnl : nl<=65536) (hne : l ≠ []) (hok : ∀ x ∈ l,x.ok) :
   Calls Tryz.prog 46 #[.agg #[.slice D dn dc,.int .i64 T.lL,.slice A n c,.int .i64 T.lO,.slice B m d,.int .i64 T.lM,.slice C k ce,.int .i64 r0,.int .i64 r1,.int .i64 r2],.slice L nl dl] w (ChosenPost T l w):=by
 (have hll : l.length = nl:=by have:=hL.1;simpa using this);have HPK:=hd_ (pk_facts (T:=T) (by omega) hne hok);have HOK:=hd_ hok;obtain ⟨H,hH⟩:=nm_ (w.heap.size);obtain ⟨w0,hw0⟩:=nm_ (((w.alloc (.cells #[.slice D dn dc,.int .i64 T.lL,.slice A n c,.int .i64 T.lO,.slice B m d,.int .i64 T.lM,.slice C k ce,.int .i64 r0,.int .i64 r1,.int .i64 r2] 32)).alloc (.cells #[.int .i64 0,.slice none 0 0,.int .i64 0,.slice none 0 0,.int .i64 0,.slice none 0 0] 69)).alloc (.cells #[.int .u8 0] 5));(have f0 : Fresh w w0:=by rw [hw0];exact (((Upd.refl _ _).alloc _).alloc _).alloc _);(have bt : Blk w0 (H + 1) 69 #[.int .i64 0,.slice none 0 0,.int .i64 0,.slice none 0 0,.int .i64 0,.slice none 0 0]:=by rw [hw0];exact (blk_new (by simp [hH]) _ _).alloc _)
 have ob : Own w0 5 (.slice (some ⟨H + 1 + 1,0,none⟩) 1 1) (bytes (headB T l 0)):=by
   have h:=own_first ((w.alloc (.cells #[.slice D dn dc,.int .i64 T.lL,.slice A n c,.int .i64 T.lO,.slice B m d,.int .i64 T.lM,.slice C k ce,.int .i64 r0,.int .i64 r1,.int .i64 r2] 32)).alloc (.cells #[.int .i64 0,.slice none 0 0,.int .i64 0,.slice none 0 0,.int .i64 0,.slice none 0 0] 69)) 5 (.int .u8 0);(have e1 : ((w.alloc (.cells #[.slice D dn dc,.int .i64 T.lL,.slice A n c,.int .i64 T.lO,.slice B m d,.int .i64 T.lM,.slice C k ce,.int .i64 r0,.int .i64 r1,.int .i64 r2] 32)).alloc (.cells #[.int .i64 0,.slice none 0 0,.int .i64 0,.slice none 0 0,.int .i64 0,.slice none 0 0] 69)).heap.size = H + 1 + 1:=by simp [hH]);rw [e1,<- hw0] at h;(have e2 : bytes (headB T l 0) = [.int .u8 0]:=by simp [bytes,headB,tailB,modB]);rw [e2];exact h
 have q0:=(show Blk w0 H 32 #[.slice D dn dc,.int .i64 T.lL,.slice A n c,.int .i64 T.lO,.slice B m d,.int .i64 T.lM,.slice C k ce,.int .i64 r0,.int .i64 r1,.int .i64 r2] by rw [hw0];exact ((blk_new hH _ _).alloc _).alloc _);have HTA:=hd_ (tables_any A B C D n c m d k ce dn dc T.lL T.lO T.lM r0 r1 r2);have HF0:=hd_ f0;have HBT:=hd_ bt;have HOB:=hd_ ob;have HQ0:=hd_ q0;have HW:=hd_ hw0;have HH:=hd_ hH;have HRA:=hd_ (And.intro hA.both (And.intro hB.both hC.both));have HRL:=hd_ hL.both;have HFT:=hd_ (And.intro f1 (And.intro f2 f3));have HLN:=hd_ (And.intro b1 (And.intro b2 b3));have HLL:=hd_ hll;obtain ⟨z0,z1,z2,z3,z4,z5,z6,z7,z8,z9⟩:=(q0).cells10;clear hll hok hH hw0 f0 bt ob q0 hA hB hC f1 f2 f3 b1 b2 b3 hL hne
 have hmk : ∀ W,(Instr.makeSlice 27 (.int .i64 44) (.int .i64 44)).run Tryz.prog W = .ok (.slice (some ⟨W.heap.size,0,none⟩) 44 44) (W.alloc (.cells (madeCells #[.int .i64 0] 44) 3)):=fun W=>by
   have:=run_make_row' (P:=Tryz.prog) 27 3 (.int .i64 0) 8 Tryz.underlying27 infoInt rfl .i64 .i64 44 (by omega) (by omega) W;simpa using this
 obtain ⟨cs,hcs⟩:=nm_ (madeCells #[Value.int .i64 0] 44);rw [<- hcs] at hmk
 have HCS:=hd_ (show ∀ j : Nat,cs = (ints (cntN j [])).toArray from fun j=>by
   rw [hcs,cntN_nil]
   exact Array.toList_inj.1 (by rw [toList_madeCells_one];simp [ints]))
 clear hcs;refine veil fun R hR=>?_;go_enter Tryz.func46,Tryz.ntmps46;go_upto_region 2 with fail;simp only [<- HH.out,<- HW.out];go_wp2_with fail;refine (HTA.out _).mono ?_;rintro e w1 ⟨rfl,f1⟩;have b1:=HBT.out.fresh f1;have y0:=b1.cell 0;have y1:=b1.cell 1;have y2:=b1.cell 2;have y3:=b1.cell 3;have y4:=b1.cell 4;have y5:=b1.cell 5;have x0:=b1.frozen 0;have x1:=b1.frozen 1;have x2:=b1.frozen 2;have x3:=b1.frozen 3;have x4:=b1.frozen 4;have x5:=b1.frozen 5;simp at y0 y1 y2 y3 y4 y5;have HB1:=hd_ b1;have HO1:=hd_ (HOB.out.fresh f1);have HF1:=hd_ (HF0.out.trans' f1);clear f1 b1 z0 z1 z2 z3 z4 z5 z6 z7 z8 z9;go_upto_region 3 with fail;have b2:=HB1.out.set6 (.int .i64 T.lL) (.slice A n c) (.int .i64 T.lO) (.slice B m d) (.int .i64 T.lM) (.slice C k ce);have u2:=set6 w1 (H + 1) (.int .i64 T.lL) (.slice A n c) (.int .i64 T.lO) (.slice B m d) (.int .i64 T.lM) (.slice C k ce);obtain ⟨w2,hw2⟩:=nm_ (((((((w1.setCell ⟨H + 1,0,none⟩ (.int .i64 T.lL)).setCell ⟨H + 1,1,none⟩ (.slice A n c)).setCell ⟨H + 1,2,none⟩ (.int .i64 T.lO)).setCell ⟨H + 1,3,none⟩ (.slice B m d)).setCell ⟨H + 1,4,none⟩ (.int .i64 T.lM)).setCell ⟨H + 1,5,none⟩ (.slice C k ce)));simp only [<- hw2];rw [<- hw2] at b2 u2;have HB2:=hd_ b2;have HO2:=hd_ (HO1.out.upd u2 (fun b hb e=>by subst e;exact HO1.out.ne_blk HB1.out (by decide) hb));have HF2:=hd_ (HF1.out.trans u2 (fun b hb e=>by have:=HH.out;omega));clear b2 u2 hw2 y0 y1 y2 y3 y4 y5 x0 x1 x2 x3 x4 x5 HB1 HO1 HF1 HTA;go_wp2_with fail
 go_loopg [4,6,17] 3 (fun f v4 v6 vi wr=>∃ (j : Nat) (A' B' C' : Option Addr) (n' c' m' d' k' e' : Nat) (G : Nat->Prop),j + f = 3/\vi = .int .i64 j/\v6 = .int .i64 0/\Fresh w wr /\
   Blk wr (H + 1) 69 #[.int .i64 (if 0 < j then (pkN T l 0).2.1 else T.lL),.slice A' n' c',.int .i64 (if 1 < j then (pkN T l 1).2.1 else T.lO),.slice B' m' d',.int .i64 (if 2 < j then (pkN T l 2).2.1 else T.lM),.slice C' k' e'] /\
   TabF wr (fun b=>F b/\b < w.heap.size) G (0 < j) A' n' (ints (pkN T l 0).2.2.1) (ints T.NL)/\TabF wr (fun b=>F b/\b < w.heap.size) G (1 < j) B' m' (ints (pkN T l 1).2.2.1) (ints T.NO)/\TabF wr (fun b=>F b/\b < w.heap.size) G (2 < j) C' k' (ints (pkN T l 2).2.2.1) (ints T.NM) /\
   Own wr 5 v4 (bytes (headB T l j))/\(∀ b,v4.ownBlock = some b->w.heap.size<=b)/\(∀ b,G b->w.heap.size<=b/\b < wr.heap.size/\b ≠ H + 1/\v4.ownBlock ≠ some b))
 case atStart =>
   refine ⟨0,A,B,C,n,c,m,d,k,ce,fun _=>False,rfl,rfl,rfl,HF2.out,HB2.out,?_,?_,?_,HO2.out,?_,fun _ h=>h.elim⟩
   . exact HRA.out.1.fresh HF2.out
   . exact HRA.out.2.1.fresh HF2.out
   . exact HRA.out.2.2.fresh HF2.out
   intro b hb;injection hb with hb;have : H + 1 + 1 = b:=hb;have:=HH.out;omega
 case round =>
   obtain ⟨j,A',B',C',n',c',m',d',k',e',G,hjf,rfl,rfl,hf,hb,t0,t1,t2,ho,hvb,hG⟩:=hrel;have HFR:=hd_ hf;have HBR:=hd_ hb;have HOR:=hd_ ho;have HVB:=hd_ hvb;have HG:=hd_ hG;have HT:=hd_ (And.intro t0 (And.intro t1 t2));clear hf hb t0 t1 t2 ho hvb hG;(have h4 : j = 0\/j = 1\/j = 2\/j = 3:=by omega);rcases h4 with rfl | rfl | rfl | rfl
   . obtain rfl : gk = 3:=by omega
     clear hjf;have hti : Rd wr (fun b=>F b/\b < w.heap.size) A' n' (ints T.NL):=HT.out.1;have HTI:=hd_ hti;have HN':=hd_ (show (n' : Int)<=1099511627776 by have h1:=HRA.out.1.1;have h2:=HLN.out.1;have h3:=hti.1;simp at h1 h3;omega);clear hti;go_upto_region 7 with fail;obtain ⟨w3,hw3⟩:=nm_ (wr.alloc (.cells cs 3));obtain ⟨X,hX⟩:=nm_ (wr.heap.size);simp only [<- hX,<- hw3];(have f3 : Fresh wr w3:=by rw [hw3];exact (Upd.refl _ _).alloc _);have HX3:=hd_ (show Blk w3 X 3 (ints (cntN 0 (l.take 0))).toArray by rw [hw3,HCS.out 0];exact blk_new hX _ _);have HF3:=hd_ f3;have HXN:=hd_ (show X = wr.heap.size from hX);clear f3 hw3 hX;go_wp2_with fail;obtain ⟨wo,rfl⟩ : ∃ q : World,q = wr:=⟨wr,rfl⟩;go_loopg [23] nl (fun f v wr=>∃ q : Nat,q + f = nl/\v = .int .i64 q/\Upd (fun b=>b = X) w3 wr/\Blk wr X 3 (ints (cntN 0 (l.take q))).toArray)
     case atStart=>exact ⟨0,by omega,rfl,Upd.refl _ _,HX3.out⟩
     case round =>
       obtain ⟨q,hqf,rfl,hu,hbx⟩:=hrel;have HU:=hd_ hu;have HBX:=hd_ hbx;(have hxw : w.heap.size<=X:=by rw [HXN.out];exact HFR.out.size);have HXW:=hd_ hxw;have HFQ:=hd_ (show Fresh w wr from (HFR.out.trans' HF3.out).trans hu (fun b hb e=>by omega));clear hu hbx hxw;by_cases hq : q < nl
       . have hql : q < l.length:=by rw [HLL.out];exact hq
         (have hqI : (q : Int) < nl:=by omega);obtain ⟨b,o,rfl,-,-,hc⟩:=(HRL.out.fresh HFQ.out).at_ (r:=0) hq;rw [List.getElem_map] at hc;have c0:=hc 0 (by omega);have c1:=hc 1 (by omega);have c2:=hc 2 (by omega);have c3:=hc 3 (by omega);have c4:=hc 4 (by omega);have c5:=hc 5 (by omega);simp [codC] at c0 c1 c2 c3 c4 c5;have HSN:=hd_ (show l.take (q + 1) = l.take q ++ [l[q]] from List.take_succ_eq_append_getElem hql);have hxc:=(raw_c (HOK.out l[q] (List.getElem_mem hql)) 0).1;generalize l[q] = x at *;(have hci : x.c 0 = x.cL:=by simp [RawN.c]);rw [hci] at hxc;obtain ⟨cn,hcn⟩:=nm_ ((l.take q).countP fun y=>y.c 0 == x.cL);(have hcl : cn<=65536:=by rw [hcn];exact Nat.le_trans List.countP_le_length (by rw [List.length_take];omega))
         have hg : (ints (cntN 0 (l.take q))).toArray[x.cL]? = some (.int .i64 (cn : Nat)):=by
           have:=cntN_get 0 (l.take q) _ hxc;rw [<- hcn] at this;simp [ints,this]
         (have p0 : ∀ o,(wr.alloc o).cell? ⟨X,x.cL,none⟩ = some (.int .i64 (cn : Nat)):=fun o=>by rw [(HBX.out.alloc o).cell];exact hg);have p1 : ∀ o,(wr.alloc o).frozen? ⟨X,x.cL,none⟩ = false:=fun o=>(HBX.out.alloc o).frozen _
         have HST:=hd_ (show (ints (cntN 0 (l.take q))).toArray.setIfInBounds x.cL (.int .i64 ((cn : Int) + 1)) = (ints (cntN 0 (l.take (q + 1)))).toArray by
           rw [ints_set,HSN.out,cntN_snoc 0 _ x (by rw [hci];exact hxc),hci,<- hcn])
         have hw4 : IntKind.i64.wrap ((q : Int) + 1) = q + 1:=IntWalk.i64_in _ (by omega);have hw5 : IntKind.i64.wrap ((cn : Int) + 1) = cn + 1:=IntWalk.i64_in _ (by omega);(have hxI : (x.cL : Int) < 44:=by omega);have HQF:=hd_ hqf;clear hc hcn hg hci hqf;go_wp2_with fail;go_roundg (gk - 1)
         case measure=>have:=HQF.out;omega
         case rel =>
           refine ⟨q + 1,by have:=HQF.out;omega,by go_num,(HU.out.alloc _).setCell (fun _=>rfl) _,?_⟩;have hh:=(HBX.out.alloc (.cells #[.int .i64 (x.cL : Nat),.int .u64 (x.rL : Nat),.int .i64 (x.cO : Nat),.int .u64 (x.rO : Nat),.int .i64 (x.cM : Nat),.int .u64 (x.rM : Nat)] 154)).set_ x.cL (.int .i64 ((cn : Int) + 1));rw [HST.out] at hh;exact hh
       (obtain rfl : q = nl:=by omega);have htl : l.take q = l:=List.take_of_length_le (by rw [HLL.out];exact Nat.le_refl _);rw [htl] at HBX;(have hpk : pkN T l 0 = chooseN 0 T.lL T.NL (cntN 0 l):=by simp [pkN]);(have hlq : l.length<=65536:=by rw [HLL.out];exact hnl);have hTW : Rd wr (fun b=>F b/\b < w.heap.size) A' n' (ints T.NL):=(HTI.out.fresh HF3.out).upd HU.out (fun b hb hf e=>by have:=HXW.out;omega);have HCH:=hd_ (choose_any (fun b=>b = X) (fun b=>F b/\b < w.heap.size) (some ⟨X,0,none⟩) A' 44 44 n' c' 0 T.lL T.NL (cntN 0 l) wr hTW HFT.out.1 HN'.out (HBX.out.rdg (by simp)) (cnt_fit hlq) (by omega));rw [<- hpk] at HCH;obtain ⟨k0,⟨k1,k2⟩,k3,k4,-,k5,k6⟩:=HPK.out 0 (by omega);have b4':=(HBR.out.fresh HF3.out).upd HU.out (by have:=HBR.out.lt;have:=HXN.out;omega);have HBX4:=hd_ (fun W (h : Fresh wr W)=>b4'.fresh h);obtain ⟨j0,j1,j2,j3,j4,j5⟩:=(b4').cells6;clear b4' htl hpk hTW;go_wp2_with fail;refine HCH.out.mono ?_;rintro e w4 ⟨A2,n2,c2,rfl,hn2,hr2,f4⟩;rw [k0];have b4:=HBX4.out w4 f4;have HR2:=hd_ hr2.both;have HN2:=hd_ hn2;have HF4:=hd_ f4;have HB4:=hd_ b4;obtain ⟨mn,hmn⟩ : ∃ mn : Nat,(pkN T l 0).1 = mn:=⟨(pkN T l 0).1.toNat,by omega⟩;have HMN:=hd_ hmn;(have hm3 : mn<=3:=by omega);have j0:=b4.cell 0;have j1:=b4.cell 1;have j2:=b4.cell 2;have j3:=b4.cell 3;have j4:=b4.cell 4;have j5:=b4.cell 5;have y0:=b4.frozen 0;have y1:=b4.frozen 1;simp at j0 j1 j2 j3 j4 j5;have HK4:=hd_ k4;have HK5:=hd_ (And.intro k3 (And.intro k5 k6));obtain ⟨lgx,hlgx⟩:=nm_ ((pkN T l 0).2.1);have HLX:=hd_ hlgx;rw [hmn,<- hlgx];clear hr2 hn2 f4 b4 hmn k0 k1 k2 k3 k4 k5 k6 HCH HBX4 hlgx;go_upto_region 14 with fail;have hb5:=(HB4.out.set_ 0 (.int .i64 lgx)).set_ 1 (.slice A2 n2 c2);obtain ⟨w5,hw5⟩:=nm_ ((w4.setCell ⟨H + 1,0,none⟩ (.int .i64 lgx)).setCell ⟨H + 1,1,none⟩ (.slice A2 n2 c2));simp only [<- hw5];rw [<- hw5] at hb5
       have u5 : Upd (fun b=>b = H + 1) w4 w5:=by
         rw [hw5];exact ((Upd.refl (fun b=>b = H + 1) w4).setCell (p:=⟨H + 1,0,none⟩) (fun _=>rfl) _).setCell (p:=⟨H + 1,1,none⟩) (fun _=>rfl) _
       (have hH1 : H + 1 < wr.heap.size:=by have:=(HBR.out.fresh HF3.out).lt;have:=HU.out.size;omega);have hr5:=HR2.out.upd u5 (fun b _ hb e=>by have:=hb.1;omega);have HR5:=hd_ hr5;have HB5:=hd_ hb5;have HU5:=hd_ u5;have HH1:=hd_ hH1;have HEN:=hd_ (menc_any _ A2 n2 c2 mn 0 lgx (pkN T l 0).2.2.1 w5 hr5.1 HK5.out.2.1 (by have h1:=HK5.out.2.2;have h2:=HN2.out;omega));(have hbl : Blk w5 (H + 1) 69 #[.int .i64 lgx,.slice A2 n2 c2,.int .i64 (if 1 < 0 then (pkN T l 1).2.1 else T.lO),.slice B' m' d',.int .i64 (if 2 < 0 then (pkN T l 2).2.1 else T.lM),.slice C' k' e']:=by simpa using hb5);have HBL:=hd_ hbl;obtain ⟨j0,j1,j2,j3,j4,j5⟩:=(hbl).cells6;clear hw5 u5 hb5 hr5 hbl y0 y1 hH1;go_wp2_with fail;refine HEN.out.mono ?_;rintro e w6 ⟨ve,rfl,nb⟩;obtain ⟨A8,c8,hve,hc8,hr8⟩:=nb.1.form;(have hbl8 : (bytes (encN mn 0 lgx (pkN T l 0).2.2.1).2).length = (encN mn 0 lgx (pkN T l 0).2.2.1).2.length:=by simp [bytes]);rw [hbl8] at hve hr8;clear hbl8 hc8;subst hve;have hu46 : ∀ b,u4.ownBlock = some b->b < wo.heap.size/\b ≠ H + 1:=fun b hb=>⟨HOR.out.lt hb,fun e=>HOR.out.ne_blk HBR.out (by decide) (by rw [hb,e])⟩;have o6:=((((HOR.out.fresh HF3.out).upd HU.out (fun b hb e=>by have:=(hu46 b hb).1;have:=HXN.out;omega)).fresh HF4.out).upd HU5.out (fun b hb e=>(hu46 b hb).2 e)).fresh nb.2.1;have hh6 : bytes (headB T l 0) = .int .u8 (modB T l 0 : Nat) :: bytes (tailB T l 0):=rfl;rw [hh6] at o6;obtain ⟨g4,c4,hu4,hg4,hcl4,hfz4,hset4⟩:=o6.head;have HU46:=hd_ hu46;have HVB':=hd_ HVB.out;have HG':=hd_ HG.out;obtain ⟨nt,hnt⟩:=nm_ ((bytes (tailB T l 0)).length + 1);rw [<- hnt] at hu4;(have hnt0 : 0 < nt:=by omega);have HNT:=hd_ hnt;clear hnt;subst hu4;have hmb:=modB_lt (T:=T) (l:=l) (fun j hj=>(HPK.out j hj).2.1) 0 (by omega);have hor:=or_mode (modB T l 0) mn 0 (by omega) hmb (by omega);have HMB:=hd_ (show modB T l (0 + 1) = modB T l 0 + 4 ^ 0 * mn from modB_step T l 0 mn (by omega) HMN.out);have HTB:=hd_ (show tailB T l (0 + 1) = tailB T l 0 ++ repN T l 0 from tailB_step T l 0 (by omega));have HSET:=hd_ hset4;have hcl4' : w6.cell? ⟨g4,0,none⟩ = some (.int .u8 (modB T l 0 : Nat)):=hcl4;have hfz4' : w6.frozen? ⟨g4,0,none⟩ = false:=hfz4;have HNB:=hd_ nb;have HR8:=hd_ hr8;have HVE:=hd_ (fun b (hb : (Value.slice A8 (encN mn 0 lgx (pkN T l 0).2.2.1).2.length c8).ownBlock = some b)=>(show b ≠ g4 from fun e=>by have h1:=nb.2.2 b hb;have h2:=(hu46 g4 rfl).1;have h3:=HU5.out.size;have h4:=HF4.out.size;have h5:=HU.out.size;have h6:=HF3.out.size;omega));clear nb hr8 hu46 o6 hh6 hcl4 hfz4 hset4 hmb;(have hwz : IntKind.i64.wrap 0 = 0:=by decide);have hsl : ∀ W,(Op.shift .shl .u8 (IntKind.u8.wrap (mn : Int)) .i64 0).run Tryz.prog W = .ok (.int .u8 (IntKind.u8.wrap (IntKind.u8.wrap (mn : Int) * 2 ^ (2 * 0)))) W:=fun W=>shl_u8 (IntKind.u8.wrap (mn : Int)) (2 * 0) W (by omega);(have hor' : bits .or .u8 (modB T l 0 : Int) (mn : Int) = (modB T l (0 + 1) : Nat):=by rw [HMB.out,<- hor];congr 1;rw [IntKind.wrap_u8',IntKind.wrap_u8'];omega)
       clear hor;go_upto_region 17 with fail;go_still_tail 10,(by kernel_rfl);change wpList _ _ _ _ _ w6.drew
       have h16 : (tailB T l 0).length<=3000:=by
         have e0:=encN_len (pkN T l 0).1 0 (pkN T l 0).2.1 (pkN T l 0).2.2.1 (by omega);have e1:=encN_len (pkN T l 1).1 1 (pkN T l 1).2.1 (pkN T l 1).2.2.1 (by omega);have e2:=encN_len (pkN T l 2).1 2 (pkN T l 2).2.1 (pkN T l 2).2.2.1 (by omega);simp [tailB,repN];(try omega)
       have h17 : (encN mn 0 lgx (pkN T l 0).2.2.1).2.length<=1000:=encN_len mn 0 lgx (pkN T l 0).2.2.1 (by omega);have HOS:=hd_ (show Own (w6.setCell ⟨g4,0,none⟩ (.int .u8 (bits .or .u8 (modB T l 0 : Int) (mn : Int)))).drew 5 (.slice (some ⟨g4,0,none⟩) nt c4) (.int .u8 (modB T l (0 + 1) : Nat) :: bytes (tailB T l 0)) from by rw [hor'];exact (HSET.out (.int .u8 (modB T l (0 + 1) : Nat))).drew);clear hsl hwz hor';(have hln : (Value.int .u8 (modB T l (0 + 1) : Nat) :: bytes (tailB T l 0)).length + (encN mn 0 lgx (pkN T l 0).2.2.1).2.length<=2 ^ 40:=by simp [bytes];omega);go_wp2_with (at_builtin;go_must (refine wpList_app _ rfl (.tmp 72) (.tmp 73) _ rfl 5 _ 1 Tryz.underlying26 infoU8 rfl (.slice (some ⟨g4,0,none⟩) nt c4) _ rfl HOS.out _ _ _ _ rfl (HR8.out.upd (S:=fun b=>b = g4) (((Upd.refl (fun b=>b = g4) w6).setCell (p:=⟨g4,0,none⟩) (fun _=>rfl) _).drew) (fun b _ hb e=>HVE.out b hb e)) (bytes_one _) (by omega) (by simpa [bytes] using hln) ?_));intro v7 w7 o7 g7 a7;have hg4:=(HU46.out g4 rfl);have hg4w : w.heap.size<=g4:=HVB'.out g4 rfl;have s1:=HF3.out.size;have s2:=HU.out.size;have s3:=HF4.out.size;have s4:=HU5.out.size;have s5:=HNB.out.2.1.size;have hxw : X = wo.heap.size:=HXN.out;have hHH:=HH.out;have hh1:=HH1.out;have u56 : Upd (fun b=>b = H + 1\/b = g4) w5 w7:=(((HNB.out.2.1.mono (T:=fun b=>b = H + 1\/b = g4) fun _ _ h=>h.elim).setCell (p:=⟨g4,0,none⟩) (fun _=>.inr rfl) _).drew).grown g7 (fun k hk _=>by injection hk with hk;exact .inr hk.symm);have u47 : Upd (fun b=>b = H + 1\/b = g4) w4 w7:=(HU5.out.mono fun _ _ h=>.inl h).trans' u56;have u07 : Upd (fun b=>b = H + 1\/b = g4) wo w7:=((((HF3.out.mono fun _ _ h=>h.elim).trans HU.out (fun b hb e=>by omega)).trans' (HF4.out.mono fun _ _ h=>h.elim))).trans' u47;have hb7:=((HBL.out.fresh HNB.out.2.1).far (p:=⟨g4,0,none⟩) (fun e=>hg4.2 e.symm) (.int .u8 (bits .or .u8 (modB T l 0 : Int) (mn : Int)))).drew.grown g7 (fun h=>by injection h with h;exact hg4.2 h)
       have e7 : (Value.int .u8 (modB T l (0 + 1) : Nat) :: bytes (tailB T l 0)) ++ bytes (encN mn 0 lgx (pkN T l 0).2.2.1).2 = bytes (headB T l (0 + 1)):=by
         unfold headB;rw [HTB.out];unfold repN;rw [HMN.out,<- HLX.out];simp [bytes]
       (have o7' : Own w7 5 v7 (bytes (headB T l (0 + 1))):=by rw [<- e7];exact o7);have s7:=u47.size;have HU07:=hd_ u07;have HB7:=hd_ hb7;have HO7:=hd_ o7';have HR7:=hd_ (HR5.out.upd u56 (fun b _ hb e=>by rcases e with e | e <;> omega))
       have HVB7:=hd_ (fun b (hb : v7.ownBlock = some b)=>(show w.heap.size<=b by
         rcases a7 with h | h
         . rw [h] at hb;injection hb with hb;have hb' : g4 = b:=hb;omega
         rw [h] at hb;injection hb with hb;have:=HFR.out.size;omega))
       have HG7:=hd_ (fun b (hb : G b\/(wr.heap.size<=b/\b < w4.heap.size))=>(show w.heap.size<=b/\b < w7.heap.size/\b ≠ H + 1/\v7.ownBlock ≠ some b by
         have hfw:=HFR.out.size;have hh1:=HH1.out;rcases hb with hb | hb
         . obtain ⟨q1,q2,q3,q4⟩:=HG'.out b hb
           have hgb : g4 ≠ b:=fun e=>q4 (by rw [<- e];rfl);refine ⟨q1,by omega,q3,fun h=>?_⟩;rcases a7 with h' | h'
           . rw [h'] at h;injection h with h;exact hgb h
           rw [h'] at h;injection h with h;omega
         refine ⟨by omega,by omega,by omega,fun h=>?_⟩;rcases a7 with h' | h'
         . rw [h'] at h;injection h with h;have h : g4 = b:=h;omega
         rw [h'] at h;injection h with h;omega))
       have HFW7:=hd_ (show Fresh w w7 from HFR.out.trans u07 (fun b hb e=>by rcases e with e | e <;> omega));have HSF:=hd_ (fun b (hf : F b/\b < w.heap.size) (e : b = H + 1\/b = g4)=>(show False by have:=hf.2;rcases e with e | e <;> omega))
       have HSG:=hd_ (fun b (hb : G b) (e : b = H + 1\/b = g4)=>(show False by
         obtain ⟨q1,q2,q3,q4⟩:=HG'.out b hb;rcases e with e | e
         . exact q3 e
         exact q4 (by rw [e];rfl)))
       clear hg4 hg4w s1 s2 s3 s4 s5 hxw hHH hh1 u56 u47 u07 hb7 e7 o7 o7' a7 g7 s7 h16 h17 hln;go_wp2_with fail;go_roundg 2
       case measure=>omega
       case rel =>
         refine ⟨1,A2,B',C',n2,c2,m',d',k',e',fun b=>G b\/(wr.heap.size<=b/\b < w4.heap.size),rfl,by go_num,rfl,HFW7.out,?_,?_,?_,?_,HO7.out,HVB7.out,HG7.out⟩
         . have hh:=HB7.out
           rw [HLX.out] at hh;simpa using hh
         . exact HR7.out.mono fun b hb=>.inr hb
         . exact (show Rd wo (fun b=>F b/\b < w.heap.size) B' m' (ints T.NO) from HT.out.2.1).upd HU07.out (fun b _ hb e=>HSF.out b hb e)
         exact (show Rd wo (fun b=>F b/\b < w.heap.size) C' k' (ints T.NM) from HT.out.2.2).upd HU07.out (fun b _ hb e=>HSF.out b hb e)
   . obtain rfl : gk = 2:=by omega
     clear hjf;have hti : Rd wr (fun b=>F b/\b < w.heap.size) B' m' (ints T.NO):=HT.out.2.1;have HTI:=hd_ hti;have HN':=hd_ (show (m' : Int)<=1099511627776 by have h1:=HRA.out.2.1.1;have h2:=HLN.out.2.1;have h3:=hti.1;simp at h1 h3;omega);clear hti;go_upto_region 7 with fail;obtain ⟨w3,hw3⟩:=nm_ (wr.alloc (.cells cs 3));obtain ⟨X,hX⟩:=nm_ (wr.heap.size);simp only [<- hX,<- hw3];(have f3 : Fresh wr w3:=by rw [hw3];exact (Upd.refl _ _).alloc _);have HX3:=hd_ (show Blk w3 X 3 (ints (cntN 1 (l.take 0))).toArray by rw [hw3,HCS.out 1];exact blk_new hX _ _);have HF3:=hd_ f3;have HXN:=hd_ (show X = wr.heap.size from hX);clear f3 hw3 hX;go_wp2_with fail;obtain ⟨wo,rfl⟩ : ∃ q : World,q = wr:=⟨wr,rfl⟩;go_loopg [23] nl (fun f v wr=>∃ q : Nat,q + f = nl/\v = .int .i64 q/\Upd (fun b=>b = X) w3 wr/\Blk wr X 3 (ints (cntN 1 (l.take q))).toArray)
     case atStart=>exact ⟨0,by omega,rfl,Upd.refl _ _,HX3.out⟩
     case round =>
       obtain ⟨q,hqf,rfl,hu,hbx⟩:=hrel;have HU:=hd_ hu;have HBX:=hd_ hbx;(have hxw : w.heap.size<=X:=by rw [HXN.out];exact HFR.out.size);have HXW:=hd_ hxw;have HFQ:=hd_ (show Fresh w wr from (HFR.out.trans' HF3.out).trans hu (fun b hb e=>by omega));clear hu hbx hxw;by_cases hq : q < nl
       . have hql : q < l.length:=by rw [HLL.out];exact hq
         (have hqI : (q : Int) < nl:=by omega);obtain ⟨b,o,rfl,-,-,hc⟩:=(HRL.out.fresh HFQ.out).at_ (r:=0) hq;rw [List.getElem_map] at hc;have c0:=hc 0 (by omega);have c1:=hc 1 (by omega);have c2:=hc 2 (by omega);have c3:=hc 3 (by omega);have c4:=hc 4 (by omega);have c5:=hc 5 (by omega);simp [codC] at c0 c1 c2 c3 c4 c5;have HSN:=hd_ (show l.take (q + 1) = l.take q ++ [l[q]] from List.take_succ_eq_append_getElem hql);have hxc:=(raw_c (HOK.out l[q] (List.getElem_mem hql)) 1).1;generalize l[q] = x at *;(have hci : x.c 1 = x.cO:=by simp [RawN.c]);rw [hci] at hxc;obtain ⟨cn,hcn⟩:=nm_ ((l.take q).countP fun y=>y.c 1 == x.cO);(have hcl : cn<=65536:=by rw [hcn];exact Nat.le_trans List.countP_le_length (by rw [List.length_take];omega))
         have hg : (ints (cntN 1 (l.take q))).toArray[x.cO]? = some (.int .i64 (cn : Nat)):=by
           have:=cntN_get 1 (l.take q) _ hxc;rw [<- hcn] at this;simp [ints,this]
         (have p0 : ∀ o,(wr.alloc o).cell? ⟨X,x.cO,none⟩ = some (.int .i64 (cn : Nat)):=fun o=>by rw [(HBX.out.alloc o).cell];exact hg);have p1 : ∀ o,(wr.alloc o).frozen? ⟨X,x.cO,none⟩ = false:=fun o=>(HBX.out.alloc o).frozen _
         have HST:=hd_ (show (ints (cntN 1 (l.take q))).toArray.setIfInBounds x.cO (.int .i64 ((cn : Int) + 1)) = (ints (cntN 1 (l.take (q + 1)))).toArray by
           rw [ints_set,HSN.out,cntN_snoc 1 _ x (by rw [hci];exact hxc),hci,<- hcn])
         have hw4 : IntKind.i64.wrap ((q : Int) + 1) = q + 1:=IntWalk.i64_in _ (by omega);have hw5 : IntKind.i64.wrap ((cn : Int) + 1) = cn + 1:=IntWalk.i64_in _ (by omega);(have hxI : (x.cO : Int) < 44:=by omega);have HQF:=hd_ hqf;clear hc hcn hg hci hqf;go_wp2_with fail;go_roundg (gk - 1)
         case measure=>have:=HQF.out;omega
         case rel =>
           refine ⟨q + 1,by have:=HQF.out;omega,by go_num,(HU.out.alloc _).setCell (fun _=>rfl) _,?_⟩;have hh:=(HBX.out.alloc (.cells #[.int .i64 (x.cL : Nat),.int .u64 (x.rL : Nat),.int .i64 (x.cO : Nat),.int .u64 (x.rO : Nat),.int .i64 (x.cM : Nat),.int .u64 (x.rM : Nat)] 154)).set_ x.cO (.int .i64 ((cn : Int) + 1));rw [HST.out] at hh;exact hh
       (obtain rfl : q = nl:=by omega);have htl : l.take q = l:=List.take_of_length_le (by rw [HLL.out];exact Nat.le_refl _);rw [htl] at HBX;(have hpk : pkN T l 1 = chooseN 1 T.lO T.NO (cntN 1 l):=by simp [pkN]);(have hlq : l.length<=65536:=by rw [HLL.out];exact hnl);have hTW : Rd wr (fun b=>F b/\b < w.heap.size) B' m' (ints T.NO):=(HTI.out.fresh HF3.out).upd HU.out (fun b hb hf e=>by have:=HXW.out;omega);have HCH:=hd_ (choose_any (fun b=>b = X) (fun b=>F b/\b < w.heap.size) (some ⟨X,0,none⟩) B' 44 44 m' d' 1 T.lO T.NO (cntN 1 l) wr hTW HFT.out.2.1 HN'.out (HBX.out.rdg (by simp)) (cnt_fit hlq) (by omega));rw [<- hpk] at HCH;obtain ⟨k0,⟨k1,k2⟩,k3,k4,-,k5,k6⟩:=HPK.out 1 (by omega);have b4':=(HBR.out.fresh HF3.out).upd HU.out (by have:=HBR.out.lt;have:=HXN.out;omega);have HBX4:=hd_ (fun W (h : Fresh wr W)=>b4'.fresh h);obtain ⟨j0,j1,j2,j3,j4,j5⟩:=(b4').cells6;clear b4' htl hpk hTW;go_wp2_with fail;refine HCH.out.mono ?_;rintro e w4 ⟨A2,n2,c2,rfl,hn2,hr2,f4⟩;rw [k0];have b4:=HBX4.out w4 f4;have HR2:=hd_ hr2.both;have HN2:=hd_ hn2;have HF4:=hd_ f4;have HB4:=hd_ b4;obtain ⟨mn,hmn⟩ : ∃ mn : Nat,(pkN T l 1).1 = mn:=⟨(pkN T l 1).1.toNat,by omega⟩;have HMN:=hd_ hmn;(have hm3 : mn<=3:=by omega);have j0:=b4.cell 0;have j1:=b4.cell 1;have j2:=b4.cell 2;have j3:=b4.cell 3;have j4:=b4.cell 4;have j5:=b4.cell 5;have y0:=b4.frozen 2;have y1:=b4.frozen 3;simp at j0 j1 j2 j3 j4 j5;have HK4:=hd_ k4;have HK5:=hd_ (And.intro k3 (And.intro k5 k6));obtain ⟨lgx,hlgx⟩:=nm_ ((pkN T l 1).2.1);have HLX:=hd_ hlgx;rw [hmn,<- hlgx];clear hr2 hn2 f4 b4 hmn k0 k1 k2 k3 k4 k5 k6 HCH HBX4 hlgx;go_upto_region 14 with fail;have hb5:=(HB4.out.set_ 2 (.int .i64 lgx)).set_ 3 (.slice A2 n2 c2);obtain ⟨w5,hw5⟩:=nm_ ((w4.setCell ⟨H + 1,2,none⟩ (.int .i64 lgx)).setCell ⟨H + 1,3,none⟩ (.slice A2 n2 c2));simp only [<- hw5];rw [<- hw5] at hb5
       have u5 : Upd (fun b=>b = H + 1) w4 w5:=by
         rw [hw5];exact ((Upd.refl (fun b=>b = H + 1) w4).setCell (p:=⟨H + 1,2,none⟩) (fun _=>rfl) _).setCell (p:=⟨H + 1,3,none⟩) (fun _=>rfl) _
       (have hH1 : H + 1 < wr.heap.size:=by have:=(HBR.out.fresh HF3.out).lt;have:=HU.out.size;omega);have hr5:=HR2.out.upd u5 (fun b _ hb e=>by have:=hb.1;omega);have HR5:=hd_ hr5;have HB5:=hd_ hb5;have HU5:=hd_ u5;have HH1:=hd_ hH1;have HEN:=hd_ (menc_any _ A2 n2 c2 mn 1 lgx (pkN T l 1).2.2.1 w5 hr5.1 HK5.out.2.1 (by have h1:=HK5.out.2.2;have h2:=HN2.out;omega));(have hbl : Blk w5 (H + 1) 69 #[.int .i64 (if 0 < 1 then (pkN T l 0).2.1 else T.lL),.slice A' n' c',.int .i64 lgx,.slice A2 n2 c2,.int .i64 (if 2 < 1 then (pkN T l 2).2.1 else T.lM),.slice C' k' e']:=by simpa using hb5);have HBL:=hd_ hbl;obtain ⟨j0,j1,j2,j3,j4,j5⟩:=(hbl).cells6;clear hw5 u5 hb5 hr5 hbl y0 y1 hH1;go_wp2_with fail;refine HEN.out.mono ?_;rintro e w6 ⟨ve,rfl,nb⟩;obtain ⟨A8,c8,hve,hc8,hr8⟩:=nb.1.form;(have hbl8 : (bytes (encN mn 1 lgx (pkN T l 1).2.2.1).2).length = (encN mn 1 lgx (pkN T l 1).2.2.1).2.length:=by simp [bytes]);rw [hbl8] at hve hr8;clear hbl8 hc8;subst hve;have hu46 : ∀ b,u4.ownBlock = some b->b < wo.heap.size/\b ≠ H + 1:=fun b hb=>⟨HOR.out.lt hb,fun e=>HOR.out.ne_blk HBR.out (by decide) (by rw [hb,e])⟩;have o6:=((((HOR.out.fresh HF3.out).upd HU.out (fun b hb e=>by have:=(hu46 b hb).1;have:=HXN.out;omega)).fresh HF4.out).upd HU5.out (fun b hb e=>(hu46 b hb).2 e)).fresh nb.2.1;have hh6 : bytes (headB T l 1) = .int .u8 (modB T l 1 : Nat) :: bytes (tailB T l 1):=rfl;rw [hh6] at o6;obtain ⟨g4,c4,hu4,hg4,hcl4,hfz4,hset4⟩:=o6.head;have HU46:=hd_ hu46;have HVB':=hd_ HVB.out;have HG':=hd_ HG.out;obtain ⟨nt,hnt⟩:=nm_ ((bytes (tailB T l 1)).length + 1);rw [<- hnt] at hu4;(have hnt0 : 0 < nt:=by omega);have HNT:=hd_ hnt;clear hnt;subst hu4;have hmb:=modB_lt (T:=T) (l:=l) (fun j hj=>(HPK.out j hj).2.1) 1 (by omega);have hor:=or_mode (modB T l 1) mn 1 (by omega) hmb (by omega);have HMB:=hd_ (show modB T l (1 + 1) = modB T l 1 + 4 ^ 1 * mn from modB_step T l 1 mn (by omega) HMN.out);have HTB:=hd_ (show tailB T l (1 + 1) = tailB T l 1 ++ repN T l 1 from tailB_step T l 1 (by omega));have HSET:=hd_ hset4;have hcl4' : w6.cell? ⟨g4,0,none⟩ = some (.int .u8 (modB T l 1 : Nat)):=hcl4;have hfz4' : w6.frozen? ⟨g4,0,none⟩ = false:=hfz4;have HNB:=hd_ nb;have HR8:=hd_ hr8;have HVE:=hd_ (fun b (hb : (Value.slice A8 (encN mn 1 lgx (pkN T l 1).2.2.1).2.length c8).ownBlock = some b)=>(show b ≠ g4 from fun e=>by have h1:=nb.2.2 b hb;have h2:=(hu46 g4 rfl).1;have h3:=HU5.out.size;have h4:=HF4.out.size;have h5:=HU.out.size;have h6:=HF3.out.size;omega));clear nb hr8 hu46 o6 hh6 hcl4 hfz4 hset4 hmb;(have hwz : IntKind.i64.wrap 2 = 2:=by decide);have hsl : ∀ W,(Op.shift .shl .u8 (IntKind.u8.wrap (mn : Int)) .i64 2).run Tryz.prog W = .ok (.int .u8 (IntKind.u8.wrap (IntKind.u8.wrap (mn : Int) * 2 ^ (2 * 1)))) W:=fun W=>shl_u8 (IntKind.u8.wrap (mn : Int)) (2 * 1) W (by omega);(have hor' : bits .or .u8 (modB T l 1 : Int) ((mn : Int) * 4) = (modB T l (1 + 1) : Nat):=by rw [HMB.out,<- hor];congr 1;rw [IntKind.wrap_u8',IntKind.wrap_u8'];omega)
       clear hor;go_upto_region 17 with fail;go_still_tail 10,(by kernel_rfl);change wpList _ _ _ _ _ w6.drew
       have h16 : (tailB T l 1).length<=3000:=by
         have e0:=encN_len (pkN T l 0).1 0 (pkN T l 0).2.1 (pkN T l 0).2.2.1 (by omega);have e1:=encN_len (pkN T l 1).1 1 (pkN T l 1).2.1 (pkN T l 1).2.2.1 (by omega);have e2:=encN_len (pkN T l 2).1 2 (pkN T l 2).2.1 (pkN T l 2).2.2.1 (by omega);simp [tailB,repN];(try omega)
       have h17 : (encN mn 1 lgx (pkN T l 1).2.2.1).2.length<=1000:=encN_len mn 1 lgx (pkN T l 1).2.2.1 (by omega);have HOS:=hd_ (show Own (w6.setCell ⟨g4,0,none⟩ (.int .u8 (bits .or .u8 (modB T l 1 : Int) ((mn : Int) * 4)))).drew 5 (.slice (some ⟨g4,0,none⟩) nt c4) (.int .u8 (modB T l (1 + 1) : Nat) :: bytes (tailB T l 1)) from by rw [hor'];exact (HSET.out (.int .u8 (modB T l (1 + 1) : Nat))).drew);clear hsl hwz hor';(have hln : (Value.int .u8 (modB T l (1 + 1) : Nat) :: bytes (tailB T l 1)).length + (encN mn 1 lgx (pkN T l 1).2.2.1).2.length<=2 ^ 40:=by simp [bytes];omega);go_wp2_with (at_builtin;go_must (refine wpList_app _ rfl (.tmp 72) (.tmp 73) _ rfl 5 _ 1 Tryz.underlying26 infoU8 rfl (.slice (some ⟨g4,0,none⟩) nt c4) _ rfl HOS.out _ _ _ _ rfl (HR8.out.upd (S:=fun b=>b = g4) (((Upd.refl (fun b=>b = g4) w6).setCell (p:=⟨g4,0,none⟩) (fun _=>rfl) _).drew) (fun b _ hb e=>HVE.out b hb e)) (bytes_one _) (by omega) (by simpa [bytes] using hln) ?_));intro v7 w7 o7 g7 a7;have hg4:=(HU46.out g4 rfl);have hg4w : w.heap.size<=g4:=HVB'.out g4 rfl;have s1:=HF3.out.size;have s2:=HU.out.size;have s3:=HF4.out.size;have s4:=HU5.out.size;have s5:=HNB.out.2.1.size;have hxw : X = wo.heap.size:=HXN.out;have hHH:=HH.out;have hh1:=HH1.out;have u56 : Upd (fun b=>b = H + 1\/b = g4) w5 w7:=(((HNB.out.2.1.mono (T:=fun b=>b = H + 1\/b = g4) fun _ _ h=>h.elim).setCell (p:=⟨g4,0,none⟩) (fun _=>.inr rfl) _).drew).grown g7 (fun k hk _=>by injection hk with hk;exact .inr hk.symm);have u47 : Upd (fun b=>b = H + 1\/b = g4) w4 w7:=(HU5.out.mono fun _ _ h=>.inl h).trans' u56;have u07 : Upd (fun b=>b = H + 1\/b = g4) wo w7:=((((HF3.out.mono fun _ _ h=>h.elim).trans HU.out (fun b hb e=>by omega)).trans' (HF4.out.mono fun _ _ h=>h.elim))).trans' u47;have hb7:=((HBL.out.fresh HNB.out.2.1).far (p:=⟨g4,0,none⟩) (fun e=>hg4.2 e.symm) (.int .u8 (bits .or .u8 (modB T l 1 : Int) ((mn : Int) * 4)))).drew.grown g7 (fun h=>by injection h with h;exact hg4.2 h)
       have e7 : (Value.int .u8 (modB T l (1 + 1) : Nat) :: bytes (tailB T l 1)) ++ bytes (encN mn 1 lgx (pkN T l 1).2.2.1).2 = bytes (headB T l (1 + 1)):=by
         unfold headB;rw [HTB.out];unfold repN;rw [HMN.out,<- HLX.out];simp [bytes]
       (have o7' : Own w7 5 v7 (bytes (headB T l (1 + 1))):=by rw [<- e7];exact o7);have s7:=u47.size;have HU07:=hd_ u07;have HB7:=hd_ hb7;have HO7:=hd_ o7';have HR7:=hd_ (HR5.out.upd u56 (fun b _ hb e=>by rcases e with e | e <;> omega))
       have HVB7:=hd_ (fun b (hb : v7.ownBlock = some b)=>(show w.heap.size<=b by
         rcases a7 with h | h
         . rw [h] at hb;injection hb with hb;have hb' : g4 = b:=hb;omega
         rw [h] at hb;injection hb with hb;have:=HFR.out.size;omega))
       have HG7:=hd_ (fun b (hb : G b\/(wr.heap.size<=b/\b < w4.heap.size))=>(show w.heap.size<=b/\b < w7.heap.size/\b ≠ H + 1/\v7.ownBlock ≠ some b by
         have hfw:=HFR.out.size;have hh1:=HH1.out;rcases hb with hb | hb
         . obtain ⟨q1,q2,q3,q4⟩:=HG'.out b hb
           have hgb : g4 ≠ b:=fun e=>q4 (by rw [<- e];rfl);refine ⟨q1,by omega,q3,fun h=>?_⟩;rcases a7 with h' | h'
           . rw [h'] at h;injection h with h;exact hgb h
           rw [h'] at h;injection h with h;omega
         refine ⟨by omega,by omega,by omega,fun h=>?_⟩;rcases a7 with h' | h'
         . rw [h'] at h;injection h with h;have h : g4 = b:=h;omega
         rw [h'] at h;injection h with h;omega))
       have HFW7:=hd_ (show Fresh w w7 from HFR.out.trans u07 (fun b hb e=>by rcases e with e | e <;> omega));have HSF:=hd_ (fun b (hf : F b/\b < w.heap.size) (e : b = H + 1\/b = g4)=>(show False by have:=hf.2;rcases e with e | e <;> omega))
       have HSG:=hd_ (fun b (hb : G b) (e : b = H + 1\/b = g4)=>(show False by
         obtain ⟨q1,q2,q3,q4⟩:=HG'.out b hb;rcases e with e | e
         . exact q3 e
         exact q4 (by rw [e];rfl)))
       clear hg4 hg4w s1 s2 s3 s4 s5 hxw hHH hh1 u56 u47 u07 hb7 e7 o7 o7' a7 g7 s7 h16 h17 hln;go_wp2_with fail;go_roundg 1
       case measure=>omega
       case rel =>
         refine ⟨2,A',A2,C',n',c',n2,c2,k',e',fun b=>G b\/(wr.heap.size<=b/\b < w4.heap.size),rfl,by go_num,rfl,HFW7.out,?_,?_,?_,?_,HO7.out,HVB7.out,HG7.out⟩
         . have hh:=HB7.out
           rw [HLX.out] at hh;simpa using hh
         . exact (show RdU wo G A' n' (ints (pkN T l 0).2.2.1) from HT.out.1).upd HU07.out (fun b _ hb e=>HSG.out b hb e) |>.mono fun b hb=>.inl hb
         . exact HR7.out.mono fun b hb=>.inr hb
         exact (show Rd wo (fun b=>F b/\b < w.heap.size) C' k' (ints T.NM) from HT.out.2.2).upd HU07.out (fun b _ hb e=>HSF.out b hb e)
   . obtain rfl : gk = 1:=by omega
     clear hjf;have hti : Rd wr (fun b=>F b/\b < w.heap.size) C' k' (ints T.NM):=HT.out.2.2;have HTI:=hd_ hti;have HN':=hd_ (show (k' : Int)<=1099511627776 by have h1:=HRA.out.2.2.1;have h2:=HLN.out.2.2;have h3:=hti.1;simp at h1 h3;omega);clear hti;go_upto_region 7 with fail;obtain ⟨w3,hw3⟩:=nm_ (wr.alloc (.cells cs 3));obtain ⟨X,hX⟩:=nm_ (wr.heap.size);simp only [<- hX,<- hw3];(have f3 : Fresh wr w3:=by rw [hw3];exact (Upd.refl _ _).alloc _);have HX3:=hd_ (show Blk w3 X 3 (ints (cntN 2 (l.take 0))).toArray by rw [hw3,HCS.out 2];exact blk_new hX _ _);have HF3:=hd_ f3;have HXN:=hd_ (show X = wr.heap.size from hX);clear f3 hw3 hX;go_wp2_with fail;obtain ⟨wo,rfl⟩ : ∃ q : World,q = wr:=⟨wr,rfl⟩;go_loopg [23] nl (fun f v wr=>∃ q : Nat,q + f = nl/\v = .int .i64 q/\Upd (fun b=>b = X) w3 wr/\Blk wr X 3 (ints (cntN 2 (l.take q))).toArray)
     case atStart=>exact ⟨0,by omega,rfl,Upd.refl _ _,HX3.out⟩
     case round =>
       obtain ⟨q,hqf,rfl,hu,hbx⟩:=hrel;have HU:=hd_ hu;have HBX:=hd_ hbx;(have hxw : w.heap.size<=X:=by rw [HXN.out];exact HFR.out.size);have HXW:=hd_ hxw;have HFQ:=hd_ (show Fresh w wr from (HFR.out.trans' HF3.out).trans hu (fun b hb e=>by omega));clear hu hbx hxw;by_cases hq : q < nl
       . have hql : q < l.length:=by rw [HLL.out];exact hq
         (have hqI : (q : Int) < nl:=by omega);obtain ⟨b,o,rfl,-,-,hc⟩:=(HRL.out.fresh HFQ.out).at_ (r:=0) hq;rw [List.getElem_map] at hc;have c0:=hc 0 (by omega);have c1:=hc 1 (by omega);have c2:=hc 2 (by omega);have c3:=hc 3 (by omega);have c4:=hc 4 (by omega);have c5:=hc 5 (by omega);simp [codC] at c0 c1 c2 c3 c4 c5;have HSN:=hd_ (show l.take (q + 1) = l.take q ++ [l[q]] from List.take_succ_eq_append_getElem hql);have hxc:=(raw_c (HOK.out l[q] (List.getElem_mem hql)) 2).1;generalize l[q] = x at *;(have hci : x.c 2 = x.cM:=by simp [RawN.c]);rw [hci] at hxc;obtain ⟨cn,hcn⟩:=nm_ ((l.take q).countP fun y=>y.c 2 == x.cM);(have hcl : cn<=65536:=by rw [hcn];exact Nat.le_trans List.countP_le_length (by rw [List.length_take];omega))
         have hg : (ints (cntN 2 (l.take q))).toArray[x.cM]? = some (.int .i64 (cn : Nat)):=by
           have:=cntN_get 2 (l.take q) _ hxc;rw [<- hcn] at this;simp [ints,this]
         (have p0 : ∀ o,(wr.alloc o).cell? ⟨X,x.cM,none⟩ = some (.int .i64 (cn : Nat)):=fun o=>by rw [(HBX.out.alloc o).cell];exact hg);have p1 : ∀ o,(wr.alloc o).frozen? ⟨X,x.cM,none⟩ = false:=fun o=>(HBX.out.alloc o).frozen _
         have HST:=hd_ (show (ints (cntN 2 (l.take q))).toArray.setIfInBounds x.cM (.int .i64 ((cn : Int) + 1)) = (ints (cntN 2 (l.take (q + 1)))).toArray by
           rw [ints_set,HSN.out,cntN_snoc 2 _ x (by rw [hci];exact hxc),hci,<- hcn])
         have hw4 : IntKind.i64.wrap ((q : Int) + 1) = q + 1:=IntWalk.i64_in _ (by omega);have hw5 : IntKind.i64.wrap ((cn : Int) + 1) = cn + 1:=IntWalk.i64_in _ (by omega);(have hxI : (x.cM : Int) < 44:=by omega);have HQF:=hd_ hqf;clear hc hcn hg hci hqf;go_wp2_with fail;go_roundg (gk - 1)
         case measure=>have:=HQF.out;omega
         case rel =>
           refine ⟨q + 1,by have:=HQF.out;omega,by go_num,(HU.out.alloc _).setCell (fun _=>rfl) _,?_⟩;have hh:=(HBX.out.alloc (.cells #[.int .i64 (x.cL : Nat),.int .u64 (x.rL : Nat),.int .i64 (x.cO : Nat),.int .u64 (x.rO : Nat),.int .i64 (x.cM : Nat),.int .u64 (x.rM : Nat)] 154)).set_ x.cM (.int .i64 ((cn : Int) + 1));rw [HST.out] at hh;exact hh
       (obtain rfl : q = nl:=by omega);have htl : l.take q = l:=List.take_of_length_le (by rw [HLL.out];exact Nat.le_refl _);rw [htl] at HBX;(have hpk : pkN T l 2 = chooseN 2 T.lM T.NM (cntN 2 l):=by simp [pkN]);(have hlq : l.length<=65536:=by rw [HLL.out];exact hnl);have hTW : Rd wr (fun b=>F b/\b < w.heap.size) C' k' (ints T.NM):=(HTI.out.fresh HF3.out).upd HU.out (fun b hb hf e=>by have:=HXW.out;omega);have HCH:=hd_ (choose_any (fun b=>b = X) (fun b=>F b/\b < w.heap.size) (some ⟨X,0,none⟩) C' 44 44 k' e' 2 T.lM T.NM (cntN 2 l) wr hTW HFT.out.2.2 HN'.out (HBX.out.rdg (by simp)) (cnt_fit hlq) (by omega));rw [<- hpk] at HCH;obtain ⟨k0,⟨k1,k2⟩,k3,k4,-,k5,k6⟩:=HPK.out 2 (by omega);have b4':=(HBR.out.fresh HF3.out).upd HU.out (by have:=HBR.out.lt;have:=HXN.out;omega);have HBX4:=hd_ (fun W (h : Fresh wr W)=>b4'.fresh h);obtain ⟨j0,j1,j2,j3,j4,j5⟩:=(b4').cells6;clear b4' htl hpk hTW;go_wp2_with fail;refine HCH.out.mono ?_;rintro e w4 ⟨A2,n2,c2,rfl,hn2,hr2,f4⟩;rw [k0];have b4:=HBX4.out w4 f4;have HR2:=hd_ hr2.both;have HN2:=hd_ hn2;have HF4:=hd_ f4;have HB4:=hd_ b4;obtain ⟨mn,hmn⟩ : ∃ mn : Nat,(pkN T l 2).1 = mn:=⟨(pkN T l 2).1.toNat,by omega⟩;have HMN:=hd_ hmn;(have hm3 : mn<=3:=by omega);have j0:=b4.cell 0;have j1:=b4.cell 1;have j2:=b4.cell 2;have j3:=b4.cell 3;have j4:=b4.cell 4;have j5:=b4.cell 5;have y0:=b4.frozen 4;have y1:=b4.frozen 5;simp at j0 j1 j2 j3 j4 j5;have HK4:=hd_ k4;have HK5:=hd_ (And.intro k3 (And.intro k5 k6));obtain ⟨lgx,hlgx⟩:=nm_ ((pkN T l 2).2.1);have HLX:=hd_ hlgx;rw [hmn,<- hlgx];clear hr2 hn2 f4 b4 hmn k0 k1 k2 k3 k4 k5 k6 HCH HBX4 hlgx;go_upto_region 14 with fail;have hb5:=(HB4.out.set_ 4 (.int .i64 lgx)).set_ 5 (.slice A2 n2 c2);obtain ⟨w5,hw5⟩:=nm_ ((w4.setCell ⟨H + 1,4,none⟩ (.int .i64 lgx)).setCell ⟨H + 1,5,none⟩ (.slice A2 n2 c2));simp only [<- hw5];rw [<- hw5] at hb5
       have u5 : Upd (fun b=>b = H + 1) w4 w5:=by
         rw [hw5];exact ((Upd.refl (fun b=>b = H + 1) w4).setCell (p:=⟨H + 1,4,none⟩) (fun _=>rfl) _).setCell (p:=⟨H + 1,5,none⟩) (fun _=>rfl) _
       (have hH1 : H + 1 < wr.heap.size:=by have:=(HBR.out.fresh HF3.out).lt;have:=HU.out.size;omega);have hr5:=HR2.out.upd u5 (fun b _ hb e=>by have:=hb.1;omega);have HR5:=hd_ hr5;have HB5:=hd_ hb5;have HU5:=hd_ u5;have HH1:=hd_ hH1;have HEN:=hd_ (menc_any _ A2 n2 c2 mn 2 lgx (pkN T l 2).2.2.1 w5 hr5.1 HK5.out.2.1 (by have h1:=HK5.out.2.2;have h2:=HN2.out;omega));(have hbl : Blk w5 (H + 1) 69 #[.int .i64 (if 0 < 2 then (pkN T l 0).2.1 else T.lL),.slice A' n' c',.int .i64 (if 1 < 2 then (pkN T l 1).2.1 else T.lO),.slice B' m' d',.int .i64 lgx,.slice A2 n2 c2]:=by simpa using hb5);have HBL:=hd_ hbl;obtain ⟨j0,j1,j2,j3,j4,j5⟩:=(hbl).cells6;clear hw5 u5 hb5 hr5 hbl y0 y1 hH1;go_wp2_with fail;refine HEN.out.mono ?_;rintro e w6 ⟨ve,rfl,nb⟩;obtain ⟨A8,c8,hve,hc8,hr8⟩:=nb.1.form;(have hbl8 : (bytes (encN mn 2 lgx (pkN T l 2).2.2.1).2).length = (encN mn 2 lgx (pkN T l 2).2.2.1).2.length:=by simp [bytes]);rw [hbl8] at hve hr8;clear hbl8 hc8;subst hve;have hu46 : ∀ b,u4.ownBlock = some b->b < wo.heap.size/\b ≠ H + 1:=fun b hb=>⟨HOR.out.lt hb,fun e=>HOR.out.ne_blk HBR.out (by decide) (by rw [hb,e])⟩;have o6:=((((HOR.out.fresh HF3.out).upd HU.out (fun b hb e=>by have:=(hu46 b hb).1;have:=HXN.out;omega)).fresh HF4.out).upd HU5.out (fun b hb e=>(hu46 b hb).2 e)).fresh nb.2.1;have hh6 : bytes (headB T l 2) = .int .u8 (modB T l 2 : Nat) :: bytes (tailB T l 2):=rfl;rw [hh6] at o6;obtain ⟨g4,c4,hu4,hg4,hcl4,hfz4,hset4⟩:=o6.head;have HU46:=hd_ hu46;have HVB':=hd_ HVB.out;have HG':=hd_ HG.out;obtain ⟨nt,hnt⟩:=nm_ ((bytes (tailB T l 2)).length + 1);rw [<- hnt] at hu4;(have hnt0 : 0 < nt:=by omega);have HNT:=hd_ hnt;clear hnt;subst hu4;have hmb:=modB_lt (T:=T) (l:=l) (fun j hj=>(HPK.out j hj).2.1) 2 (by omega);have hor:=or_mode (modB T l 2) mn 2 (by omega) hmb (by omega);have HMB:=hd_ (show modB T l (2 + 1) = modB T l 2 + 4 ^ 2 * mn from modB_step T l 2 mn (by omega) HMN.out);have HTB:=hd_ (show tailB T l (2 + 1) = tailB T l 2 ++ repN T l 2 from tailB_step T l 2 (by omega));have HSET:=hd_ hset4;have hcl4' : w6.cell? ⟨g4,0,none⟩ = some (.int .u8 (modB T l 2 : Nat)):=hcl4;have hfz4' : w6.frozen? ⟨g4,0,none⟩ = false:=hfz4;have HNB:=hd_ nb;have HR8:=hd_ hr8;have HVE:=hd_ (fun b (hb : (Value.slice A8 (encN mn 2 lgx (pkN T l 2).2.2.1).2.length c8).ownBlock = some b)=>(show b ≠ g4 from fun e=>by have h1:=nb.2.2 b hb;have h2:=(hu46 g4 rfl).1;have h3:=HU5.out.size;have h4:=HF4.out.size;have h5:=HU.out.size;have h6:=HF3.out.size;omega));clear nb hr8 hu46 o6 hh6 hcl4 hfz4 hset4 hmb;(have hwz : IntKind.i64.wrap 4 = 4:=by decide);have hsl : ∀ W,(Op.shift .shl .u8 (IntKind.u8.wrap (mn : Int)) .i64 4).run Tryz.prog W = .ok (.int .u8 (IntKind.u8.wrap (IntKind.u8.wrap (mn : Int) * 2 ^ (2 * 2)))) W:=fun W=>shl_u8 (IntKind.u8.wrap (mn : Int)) (2 * 2) W (by omega);(have hor' : bits .or .u8 (modB T l 2 : Int) ((mn : Int) * 16) = (modB T l (2 + 1) : Nat):=by rw [HMB.out,<- hor];congr 1;rw [IntKind.wrap_u8',IntKind.wrap_u8'];omega)
       clear hor;go_upto_region 17 with fail;go_still_tail 10,(by kernel_rfl);change wpList _ _ _ _ _ w6.drew
       have h16 : (tailB T l 2).length<=3000:=by
         have e0:=encN_len (pkN T l 0).1 0 (pkN T l 0).2.1 (pkN T l 0).2.2.1 (by omega);have e1:=encN_len (pkN T l 1).1 1 (pkN T l 1).2.1 (pkN T l 1).2.2.1 (by omega);have e2:=encN_len (pkN T l 2).1 2 (pkN T l 2).2.1 (pkN T l 2).2.2.1 (by omega);simp [tailB,repN];(try omega)
       have h17 : (encN mn 2 lgx (pkN T l 2).2.2.1).2.length<=1000:=encN_len mn 2 lgx (pkN T l 2).2.2.1 (by omega);have HOS:=hd_ (show Own (w6.setCell ⟨g4,0,none⟩ (.int .u8 (bits .or .u8 (modB T l 2 : Int) ((mn : Int) * 16)))).drew 5 (.slice (some ⟨g4,0,none⟩) nt c4) (.int .u8 (modB T l (2 + 1) : Nat) :: bytes (tailB T l 2)) from by rw [hor'];exact (HSET.out (.int .u8 (modB T l (2 + 1) : Nat))).drew);clear hsl hwz hor';(have hln : (Value.int .u8 (modB T l (2 + 1) : Nat) :: bytes (tailB T l 2)).length + (encN mn 2 lgx (pkN T l 2).2.2.1).2.length<=2 ^ 40:=by simp [bytes];omega);go_wp2_with (at_builtin;go_must (refine wpList_app _ rfl (.tmp 72) (.tmp 73) _ rfl 5 _ 1 Tryz.underlying26 infoU8 rfl (.slice (some ⟨g4,0,none⟩) nt c4) _ rfl HOS.out _ _ _ _ rfl (HR8.out.upd (S:=fun b=>b = g4) (((Upd.refl (fun b=>b = g4) w6).setCell (p:=⟨g4,0,none⟩) (fun _=>rfl) _).drew) (fun b _ hb e=>HVE.out b hb e)) (bytes_one _) (by omega) (by simpa [bytes] using hln) ?_));intro v7 w7 o7 g7 a7;have hg4:=(HU46.out g4 rfl);have hg4w : w.heap.size<=g4:=HVB'.out g4 rfl;have s1:=HF3.out.size;have s2:=HU.out.size;have s3:=HF4.out.size;have s4:=HU5.out.size;have s5:=HNB.out.2.1.size;have hxw : X = wo.heap.size:=HXN.out;have hHH:=HH.out;have hh1:=HH1.out;have u56 : Upd (fun b=>b = H + 1\/b = g4) w5 w7:=(((HNB.out.2.1.mono (T:=fun b=>b = H + 1\/b = g4) fun _ _ h=>h.elim).setCell (p:=⟨g4,0,none⟩) (fun _=>.inr rfl) _).drew).grown g7 (fun k hk _=>by injection hk with hk;exact .inr hk.symm);have u47 : Upd (fun b=>b = H + 1\/b = g4) w4 w7:=(HU5.out.mono fun _ _ h=>.inl h).trans' u56;have u07 : Upd (fun b=>b = H + 1\/b = g4) wo w7:=((((HF3.out.mono fun _ _ h=>h.elim).trans HU.out (fun b hb e=>by omega)).trans' (HF4.out.mono fun _ _ h=>h.elim))).trans' u47;have hb7:=((HBL.out.fresh HNB.out.2.1).far (p:=⟨g4,0,none⟩) (fun e=>hg4.2 e.symm) (.int .u8 (bits .or .u8 (modB T l 2 : Int) ((mn : Int) * 16)))).drew.grown g7 (fun h=>by injection h with h;exact hg4.2 h)
       have e7 : (Value.int .u8 (modB T l (2 + 1) : Nat) :: bytes (tailB T l 2)) ++ bytes (encN mn 2 lgx (pkN T l 2).2.2.1).2 = bytes (headB T l (2 + 1)):=by
         unfold headB;rw [HTB.out];unfold repN;rw [HMN.out,<- HLX.out];simp [bytes]
       (have o7' : Own w7 5 v7 (bytes (headB T l (2 + 1))):=by rw [<- e7];exact o7);have s7:=u47.size;have HU07:=hd_ u07;have HB7:=hd_ hb7;have HO7:=hd_ o7';have HR7:=hd_ (HR5.out.upd u56 (fun b _ hb e=>by rcases e with e | e <;> omega))
       have HVB7:=hd_ (fun b (hb : v7.ownBlock = some b)=>(show w.heap.size<=b by
         rcases a7 with h | h
         . rw [h] at hb;injection hb with hb;have hb' : g4 = b:=hb;omega
         rw [h] at hb;injection hb with hb;have:=HFR.out.size;omega))
       have HG7:=hd_ (fun b (hb : G b\/(wr.heap.size<=b/\b < w4.heap.size))=>(show w.heap.size<=b/\b < w7.heap.size/\b ≠ H + 1/\v7.ownBlock ≠ some b by
         have hfw:=HFR.out.size;have hh1:=HH1.out;rcases hb with hb | hb
         . obtain ⟨q1,q2,q3,q4⟩:=HG'.out b hb
           have hgb : g4 ≠ b:=fun e=>q4 (by rw [<- e];rfl);refine ⟨q1,by omega,q3,fun h=>?_⟩;rcases a7 with h' | h'
           . rw [h'] at h;injection h with h;exact hgb h
           rw [h'] at h;injection h with h;omega
         refine ⟨by omega,by omega,by omega,fun h=>?_⟩;rcases a7 with h' | h'
         . rw [h'] at h;injection h with h;have h : g4 = b:=h;omega
         rw [h'] at h;injection h with h;omega))
       have HFW7:=hd_ (show Fresh w w7 from HFR.out.trans u07 (fun b hb e=>by rcases e with e | e <;> omega));have HSF:=hd_ (fun b (hf : F b/\b < w.heap.size) (e : b = H + 1\/b = g4)=>(show False by have:=hf.2;rcases e with e | e <;> omega))
       have HSG:=hd_ (fun b (hb : G b) (e : b = H + 1\/b = g4)=>(show False by
         obtain ⟨q1,q2,q3,q4⟩:=HG'.out b hb;rcases e with e | e
         . exact q3 e
         exact q4 (by rw [e];rfl)))
       clear hg4 hg4w s1 s2 s3 s4 s5 hxw hHH hh1 u56 u47 u07 hb7 e7 o7 o7' a7 g7 s7 h16 h17 hln;go_wp2_with fail;go_roundg 0
       case measure=>omega
       case rel =>
         refine ⟨3,A',B',A2,n',c',m',d',n2,c2,fun b=>G b\/(wr.heap.size<=b/\b < w4.heap.size),rfl,by go_num,rfl,HFW7.out,?_,?_,?_,?_,HO7.out,HVB7.out,HG7.out⟩
         . have hh:=HB7.out
           rw [HLX.out] at hh;simpa using hh
         . exact (show RdU wo G A' n' (ints (pkN T l 0).2.2.1) from HT.out.1).upd HU07.out (fun b _ hb e=>HSG.out b hb e) |>.mono fun b hb=>.inl hb
         . exact (show RdU wo G B' m' (ints (pkN T l 1).2.2.1) from HT.out.2.1).upd HU07.out (fun b _ hb e=>HSG.out b hb e) |>.mono fun b hb=>.inl hb
         exact HR7.out.mono fun b hb=>.inr hb
   (obtain rfl : gk = 0:=by omega);clear hjf;obtain ⟨x0,hx0⟩ : ∃ q,q = (pkN T l 0).2.1:=⟨_,rfl⟩;obtain ⟨x1,hx1⟩ : ∃ q,q = (pkN T l 1).2.1:=⟨_,rfl⟩;obtain ⟨x2,hx2⟩ : ∃ q,q = (pkN T l 2).2.1:=⟨_,rfl⟩;(have hb3 : Blk wr (H + 1) 69 #[.int .i64 x0,.slice A' n' c',.int .i64 x1,.slice B' m' d',.int .i64 x2,.slice C' k' e']:=by rw [hx0,hx1,hx2];simpa using HBR.out);have y0:=hb3.cell 0;have y1:=hb3.cell 1;have y2:=hb3.cell 2;have y3:=hb3.cell 3;have y4:=hb3.cell 4;have y5:=hb3.cell 5;have z0:=hb3.frozen 0;have z1:=hb3.frozen 1;have z2:=hb3.frozen 2;have z3:=hb3.frozen 3;have z4:=hb3.frozen 4;have z5:=hb3.frozen 5;simp at y0 y1 y2 y3 y4 y5;have t0 : RdU wr G A' n' (ints (newT T l).NL):=HT.out.1;have t1 : RdU wr G B' m' (ints (newT T l).NO):=HT.out.2.1;have t2 : RdU wr G C' k' (ints (newT T l).NM):=HT.out.2.2;have HB3:=hd_ hb3
   have HP:=hd_ (show ∀ W,Upd (fun b=>b = H + 1) wr W->ChosenPost T l w (.returned (.tuple #[u4,.agg #[.int .i64 x0,.slice A' n' c',.int .i64 x1,.slice B' m' d',.int .i64 x2,.slice C' k' e'],.int .i64 0])) W from by
     intro W u6;have hG6 : ∀ b,b < wr.heap.size->G b->¬ b = H + 1:=fun b _ hb e=>(HG.out b hb).2.2.1 e;have hHH:=HH.out;subst hx0 hx1 hx2;refine ⟨HFR.out.trans u6 (fun b hb e=>by omega),u4,A',n',c',B',m',d',C',k',e',rfl,HOR.out.upd u6 (fun b hb e=>by subst e;exact HOR.out.ne_blk HB3.out (by decide) hb),HVB.out,?_,?_,?_⟩
     . exact (t0.upd u6 hG6).mono fun b hb=>(HG.out b hb).1
     . exact (t1.upd u6 hG6).mono fun b hb=>(HG.out b hb).1
     exact (t2.upd u6 hG6).mono fun b hb=>(HG.out b hb).1)
   clear hb3 t0 t1 t2 hx0 hx1 hx2 HT HBR HOR HVB HG;go_upto_region 20 with fail;go_still_tail 3,(by kernel_rfl);change wpList _ _ _ _ _ wr.drew;go_wp2_with fail;have u6:=set6 wr (H + 1) (.int .i64 x0) (.slice A' n' c') (.int .i64 x1) (.slice B' m' d') (.int .i64 x2) (.slice C' k' e');have b6:=HB3.out.set6 (.int .i64 x0) (.slice A' n' c') (.int .i64 x1) (.slice B' m' d') (.int .i64 x2) (.slice C' k' e');generalize ((((((wr.setCell ⟨H + 1,0,none⟩ (.int .i64 x0)).setCell ⟨H + 1,1,none⟩ (.slice A' n' c')).setCell ⟨H + 1,2,none⟩ (.int .i64 x1)).setCell ⟨H + 1,3,none⟩ (.slice B' m' d')).setCell ⟨H + 1,4,none⟩ (.int .i64 x2)).setCell ⟨H + 1,5,none⟩ (.slice C' k' e')) = w9 at *;refine bodyPost_ret (results_tct rfl _ _ (H + 1) 69 _ _ rfl b6.drew Tryz.underlying69 rfl (by kernel_rfl)) rfl ?_;exact hR.out _ _ (HP.out _ u6.drew)
end Go.Proofs.YtjfdaphjijfieaaGreat
namespace Go.Proofs.YtjfdaphjijfieaaGreat
def encB (T : Tabs3) (a b c : Int) (l : List (Int × Int × Int)) : List Nat :=
  l.length :: (headB T (codR a b c l) 3 ++ packB (wrE (newT T (codR a b c l)).trks (codR a b c l) ++ [true]))
theorem headE_back {T : Tabs3} {l : List RawN} (hl : l.length<=65536) (hne : l ≠ []) (hok : ∀ x ∈ l,x.ok) (B0 rest : List Nat)
   (h3 : ∀ i : Nat,i<=2->(pkN T l i).1 = 3->(if i = 0 then T.lL else if i = 1 then T.lO else T.lM) = (pkN T l i).2.1/\(if i = 0 then T.NL else if i = 1 then T.NO else T.NM) = (pkN T l i).2.2.1) :
   headE (B0 ++ (headB T l 3 ++ rest)) B0.length T = (0,newT T l,B0.length + (headB T l 3).length):=by
 obtain ⟨_,⟨m0a,m0b⟩,_,e0,_⟩:=pk_facts (T:=T) hl hne hok 0 (by omega);obtain ⟨_,⟨m1a,m1b⟩,_,e1,_⟩:=pk_facts (T:=T) hl hne hok 1 (by omega);obtain ⟨_,⟨m2a,m2b⟩,_,e2,_⟩:=pk_facts (T:=T) hl hne hok 2 (by omega);have t0:=h3 0 (by omega);have t1:=h3 1 (by omega);have t2:=h3 2 (by omega);simp at t0 t1 t2 e0 e1 e2;obtain ⟨x,hx⟩:=nm_ (modB T l 3);(have hxe : x = (pkN T l 0).1.toNat + 4 * (pkN T l 1).1.toNat + 16 * (pkN T l 2).1.toNat:=by rw [hx];simp [modB]);(have hhd : headB T l 3 = x :: (repN T l 0 ++ (repN T l 1 ++ repN T l 2)):=by rw [hx];simp [headB,tailB]);(have x64 : ¬ 64<=x:=by omega);(have g0 : ((x % 4 : Nat) : Int) = (pkN T l 0).1:=by omega);(have g1 : ((x / 4 % 4 : Nat) : Int) = (pkN T l 1).1:=by omega);(have g2 : ((x / 16 % 4 : Nat) : Int) = (pkN T l 2).1:=by omega);rw [hhd];have d0:=modes_at (p:=0) (l0:=T.lL) (N0:=T.NL) e0 t0 (B0 ++ [x]) (repN T l 1 ++ (repN T l 2 ++ rest));have d1:=modes_at (p:=1) (l0:=T.lO) (N0:=T.NO) e1 t1 (B0 ++ ([x] ++ repN T l 0)) (repN T l 2 ++ rest);have d2:=modes_at (p:=2) (l0:=T.lM) (N0:=T.NM) e2 t2 (B0 ++ ([x] ++ (repN T l 0 ++ repN T l 1))) rest;obtain ⟨bs,hbs⟩:=nm_ (B0 ++ (x :: (repN T l 0 ++ (repN T l 1 ++ repN T l 2)) ++ rest));(have q0 : B0 ++ [x] ++ (repN T l 0 ++ (repN T l 1 ++ (repN T l 2 ++ rest))) = bs:=by rw [hbs];simp);(have q1 : B0 ++ ([x] ++ repN T l 0) ++ (repN T l 1 ++ (repN T l 2 ++ rest)) = bs:=by rw [hbs];simp);(have q2 : B0 ++ ([x] ++ (repN T l 0 ++ repN T l 1)) ++ (repN T l 2 ++ rest) = bs:=by rw [hbs];simp);have r0 : (encN (pkN T l 0).1 0 (pkN T l 0).2.1 (pkN T l 0).2.2.1).2 = repN T l 0:=rfl;have r1 : (encN (pkN T l 1).1 1 (pkN T l 1).2.1 (pkN T l 1).2.2.1).2 = repN T l 1:=rfl;have r2 : (encN (pkN T l 2).1 2 (pkN T l 2).2.1 (pkN T l 2).2.2.1).2 = repN T l 2:=rfl;rw [r0,q0] at d0;rw [r1,q1] at d1;rw [r2,q2] at d2;rw [<- hbs];(have hlt : B0.length < bs.length:=by rw [hbs];simp);(have hget : bs[B0.length]?.getD 0 = x:=by rw [hbs];simp);(have n0 : (B0 ++ [x]).length = B0.length + 1:=by simp);(have n1 : (B0 ++ ([x] ++ repN T l 0)).length = B0.length + 1 + (repN T l 0).length:=by simp;omega);(have n2 : (B0 ++ ([x] ++ (repN T l 0 ++ repN T l 1))).length = B0.length + 1 + (repN T l 0).length + (repN T l 1).length:=by simp;omega);rw [n0] at d0;rw [n1] at d1;rw [n2] at d2;unfold headE;rw [if_pos hlt];simp only [hget];rw [if_neg x64,g0,g1,g2,d0];simp only;rw [d1];simp only;rw [d2];simp [newT];omega
theorem pk_three {T : Tabs3} {l : List RawN} (hl : l.length<=65536) (hne : l ≠ []) (hok : ∀ x ∈ l,x.ok) (i : Nat) (hi : i<=2) (h3 : (pkN T l i).1 = 3) :
   (if i = 0 then T.lL else if i = 1 then T.lO else T.lM) = (pkN T l i).2.1/\(if i = 0 then T.NL else if i = 1 then T.NO else T.NM) = (pkN T l i).2.2.1:=by
 have key : ∀ (j : Nat) (lg : Int) (N : List Int),j<=2->pkN T l j = chooseN j lg N (cntN j l)->(pkN T l j).2.2.2 = 0->(pkN T l j).1 = 3->lg = (pkN T l j).2.1/\N = (pkN T l j).2.2.1:=by
   intro j lg N hj e h0 h3;have h4:=(chooseN_fits (p:=(j : Int)) (lg:=lg) (N:=N) (C:=cntN j l) (r1:=(pkN T l j).1) (r2:=(pkN T l j).2.1) (r3:=(pkN T l j).2.2.1) (by omega) (by rw [<- e,<- h0])).2.2.1;rw [h3] at h4;unfold candsN at h4;rcases List.mem_cons.1 h4 with h4 | h4
   . injection h4 with _ h4
     injection h4 with h5 h6;exact ⟨h5.symm,h6.symm⟩
   exfalso;rcases List.mem_cons.1 h4 with h4 | h4
   . injection h4 with h5 _
     omega
   split at h4
   . simp at h4
     have h5:=h4.1;(split at h5 <;> omega)
   cases h4
 have h0:=(pk_facts (T:=T) hl hne hok i hi).1;(have h3' : i = 0\/i = 1\/i = 2:=by omega);rcases h3' with rfl | rfl | rfl
 . exact key 0 T.lL T.NL (by omega) rfl h0 h3
 . exact key 1 T.lO T.NO (by omega) rfl h0 h3
 exact key 2 T.lM T.NM (by omega) rfl h0 h3
theorem newT_ok {T : Tabs3} {l : List RawN} (hl : l.length<=65536) (hne : l ≠ []) (hok : ∀ x ∈ l,x.ok) : (newT T l).trks.ok/\∀ x ∈ l,Cov (newT T l).trks x:=by
 obtain ⟨_,_,v0,_,c0,_⟩:=pk_facts (T:=T) hl hne hok 0 (by omega);obtain ⟨_,_,v1,_,c1,_⟩:=pk_facts (T:=T) hl hne hok 1 (by omega);obtain ⟨_,_,v2,_,c2,_⟩:=pk_facts (T:=T) hl hne hok 2 (by omega);(have i0 : ((pkN T l 0).2.1.toNat : Int) = (pkN T l 0).2.1:=by have:=v0.1;omega);(have i1 : ((pkN T l 1).2.1.toNat : Int) = (pkN T l 1).2.1:=by have:=v1.1;omega);(have i2 : ((pkN T l 2).2.1.toNat : Int) = (pkN T l 2).2.1:=by have:=v2.1;omega);refine ⟨⟨?_,?_,?_⟩,fun x hx=>⟨c0 x hx,c1 x hx,c2 x hx⟩⟩
 . simp only [newT,Tabs3.trks];rw [i0];exact v0
 . simp only [newT,Tabs3.trks];rw [i1];exact v1
 simp only [newT,Tabs3.trks];rw [i2];exact v2
theorem codR_len : ∀ (l : List (Int × Int × Int)) (a b c : Int),(codR a b c l).length = l.length
 | [],_,_,_=>rfl
 | s :: l,a,b,c=>by simp [codR,codR_len l]
theorem enc_back {T : Tabs3} {a b c : Int} {l : List (Int × Int × Int)} (hr : repOk a b c = true) (hs : ∀ s ∈ l,okS s) (hn : l.length < 128) (hne : l ≠ []) :
   decE (encB T a b c l) 0 T a b c = ⟨0,l,newT T (codR a b c l),(codN a b c l).1,(codN a b c l).2.1,(codN a b c l).2.2,(encB T a b c l).length⟩:=by
 obtain ⟨R,hR⟩:=nm_ (codR a b c l);(have hlen : R.length = l.length:=by rw [hR];exact codR_len l a b c);(have hok : ∀ x ∈ R,x.ok:=by rw [hR];exact codR_ok hs);(have hRn : R ≠ []:=by intro h;rw [h] at hlen;exact hne (List.eq_nil_of_length_eq_zero hlen.symm));have hpos : 0 < l.length:=List.length_pos_iff.2 hne
 have hv : varN ((encB T a b c l).drop 0) = (l.length,1,0):=by
   (have h1 : ¬ 128<=l.length:=by omega);(have h2 : ¬ (4611686018427387903 < 0 + l.length % 128 * 2 ^ (7 * 0)):=by omega);(have h4 : l.length % 128 = l.length:=by omega);simp only [List.drop_zero,encB,varN,varF];rw [if_neg h1,if_neg (by omega),if_neg h2,h4];simp
 have hh:=headE_back (T:=T) (l:=R) (by omega) hRn hok [l.length] (packB (wrE (newT T R).trks R ++ [true])) (fun i hi h3=>pk_three (by omega) hRn hok i hi h3);obtain ⟨k1,k2⟩:=newT_ok (T:=T) (l:=R) (by omega) hRn hok;have hcl:=closed_str (wrE (newT T R).trks R);have hall:=all_back (V:=valR (packB (wrE (newT T R).trks R ++ [true]))) k1 hRn (fun y hy=>⟨hok y hy,k2 y hy⟩) hcl.2.2;have hoff:=offs_back (a:=a) (b:=b) (c:=c) hs;rw [<- hR] at hoff;(have hE : encB T a b c l = [l.length] ++ (headB T R 3 ++ packB (wrE (newT T R).trks R ++ [true])):=by rw [hR];rfl);rw [<- hR];refine decE_ok (to_:=1 + (headB T R 3).length) hr (by rw [hv]) (by rw [hv];simp only;omega) (by rw [hv];simp only;omega) ?_ ?_
 . rw [hv,hE]
   exact hh
 have hdrop : (encB T a b c l).drop (1 + (headB T R 3).length) = packB (wrE (newT T R).trks R ++ [true]):=by
   rw [hE,<- List.append_assoc];exact List.drop_left' (by simp;omega)
 rw [hdrop,hv];simp only;unfold rowE;rw [if_neg hcl.2.1,hcl.1,<- hlen,hall];simp only;rw [if_neg (by simp),hoff]
def okX (s : Nat × Int) : Prop:=s.2 = 0\/s.2 = 14
end Go.Proofs.YtjfdaphjijfieaaGreat
namespace Go.Proofs.YtjfdaphjijfieaaGreat
open Go.RowKit
set_option maxHeartbeats 4000000 in
theorem few25_any (D A B C : Option Addr) (h i n c m d k e : Nat) (T : Tabs3) (r0 r1 r2 : Int) (w : World) :
   Calls Tryz.prog 15 #[.agg #[.slice D h i,.int .i64 T.lL,.slice A n c,.int .i64 T.lO,.slice B m d,.int .i64 T.lM,.slice C k e,.int .i64 r0,.int .i64 r1,.int .i64 r2]] w fun e' w'=>e' = .returned (.bool (decide (h<=300/\n<=300/\m<=300/\k<=300)))/\Fresh w w':=by
 (have h5 : (h<=300/\n<=300/\m<=300/\k<=300)\/¬ h<=300\/(h<=300/\¬ n<=300)\/(h<=300/\n<=300/\¬ m<=300)\/(h<=300/\n<=300/\m<=300/\¬ k<=300):=by omega);have HD : ∀ x,decide (h<=300/\n<=300/\m<=300/\k<=300) = x->∀ w',Fresh w w'->(Ending.returned (.bool x) = Ending.returned (.bool (decide (h<=300/\n<=300/\m<=300/\k<=300)))/\Fresh w w'):=fun x hx w' h=>⟨by rw [hx],h⟩;have HD:=hd_ HD;refine veil fun R hR=>?_;rcases h5 with g | g | ⟨g1,g⟩ | ⟨g1,g2,g⟩ | ⟨g1,g2,g3,g⟩
 . have hd:=HD.out true (decide_eq_true g)
   have HD2:=hd_ hd;obtain ⟨g1,g2,g3,g4⟩:=g;(have i1 : (h : Int)<=300:=by omega);(have i2 : (n : Int)<=300:=by omega);(have i3 : (m : Int)<=300:=by omega);(have i4 : (k : Int)<=300:=by omega);have j4 : decide ((k : Int)<=300) = true:=decide_eq_true i4;clear hd HD g1 g2 g3 g4;go_enter Tryz.func15,Tryz.ntmps15;go_wp2_with fail;(try go_ret);(try simp only [j4]);exact hR.out _ _ (HD2.out _ ((Upd.refl _ _).alloc _))
 . have hd:=HD.out false (decide_eq_false (by omega))
   have HD2:=hd_ hd;(have i1 : ¬ (h : Int)<=300:=by omega);have j4 : decide ((h : Int)<=300) = false:=decide_eq_false i1;clear hd HD g;go_enter Tryz.func15,Tryz.ntmps15;go_wp2_with fail;(try go_ret);(try simp only [j4]);exact hR.out _ _ (HD2.out _ ((Upd.refl _ _).alloc _))
 . have hd:=HD.out false (decide_eq_false (by omega))
   have HD2:=hd_ hd;(have i1 : (h : Int)<=300:=by omega);(have i2 : ¬ (n : Int)<=300:=by omega);have j4 : decide ((n : Int)<=300) = false:=decide_eq_false i2;clear hd HD g g1;go_enter Tryz.func15,Tryz.ntmps15;go_wp2_with fail;(try go_ret);(try simp only [j4]);exact hR.out _ _ (HD2.out _ ((Upd.refl _ _).alloc _))
 . have hd:=HD.out false (decide_eq_false (by omega))
   have HD2:=hd_ hd;(have i1 : (h : Int)<=300:=by omega);(have i2 : (n : Int)<=300:=by omega);(have i3 : ¬ (m : Int)<=300:=by omega);have j4 : decide ((m : Int)<=300) = false:=decide_eq_false i3;clear hd HD g g1 g2;go_enter Tryz.func15,Tryz.ntmps15;go_wp2_with fail;(try go_ret);(try simp only [j4]);exact hR.out _ _ (HD2.out _ ((Upd.refl _ _).alloc _))
 have hd:=HD.out false (decide_eq_false (by omega));have HD2:=hd_ hd;(have i1 : (h : Int)<=300:=by omega);(have i2 : (n : Int)<=300:=by omega);(have i3 : (m : Int)<=300:=by omega);(have i4 : ¬ (k : Int)<=300:=by omega);have j4 : decide ((k : Int)<=300) = false:=decide_eq_false i4;clear hd HD g g1 g2 g3;go_enter Tryz.func15,Tryz.ntmps15;go_wp2_with fail;(try go_ret);(try simp only [j4]);exact hR.out _ _ (HD2.out _ ((Upd.refl _ _).alloc _))
theorem eqArr3 (a b c x y z : Int) (w : World) : (Op.equalIn 10000 30 (.agg #[.int .i64 a,.int .i64 b,.int .i64 c]) (.agg #[.int .i64 x,.int .i64 y,.int .i64 z])).run Tryz.prog w = .ok (a == x && b == y && c == z) w:=by
 have u3:=Tryz.underlying3;have a3:=Tryz.isAgg3;have z3:=Tryz.sizeOf3;rw [show (10000 : Nat) = 9999 + 1 from rfl,Op.equalIn];simp only [Sem.run_bind,run_underlying Tryz.underlying30,Result.andThen_ok];simp only [Std.Legacy.Range.forIn_eq_forIn_range',Std.Legacy.Range.size,Nat.sub_zero,Nat.add_sub_cancel,Nat.div_one,List.range'_succ,List.range'_zero,List.forIn_cons,List.forIn_nil];go_simp;(by_cases h1 : a = x <;> by_cases h2 : b = y <;> by_cases h3 : c = z <;> simp [h1,h2,h3])
set_option maxHeartbeats 8000000 in
theorem sameCtx_any (F G : Nat->Prop) (D A B C D1 A1 B1 C1 : Option Addr) (h i n c m d k e i1 c1 d1 e1 : Nat) (T : Tabs3) (Tr : List Int) (r0 r1 r2 : Int) (w : World)
   (p0 : Rd w F D h (ints Tr)) (p1 : Rd w F A n (ints T.NL)) (p2 : Rd w F B m (ints T.NO)) (p3 : Rd w F C k (ints T.NM)) (q0 : Rd w G D1 h (ints Tr)) (q1 : Rd w G A1 n (ints T.NL)) (q2 : Rd w G B1 m (ints T.NO)) (q3 : Rd w G C1 k (ints T.NM)) (bh : h<=1000) (bn : n<=1000) (bm : m<=1000) (bk : k<=1000) :
   Calls Tryz.prog 21 #[.agg #[.slice D h i,.int .i64 T.lL,.slice A n c,.int .i64 T.lO,.slice B m d,.int .i64 T.lM,.slice C k e,.int .i64 r0,.int .i64 r1,.int .i64 r2],.agg #[.slice D1 h i1,.int .i64 T.lL,.slice A1 n c1,.int .i64 T.lO,.slice B1 m d1,.int .i64 T.lM,.slice C1 k e1,.int .i64 r0,.int .i64 r1,.int .i64 r2]] w fun e' w'=>e' = .returned (.bool true)/\Fresh w w':=by
 obtain ⟨w0,hw0⟩:=nm_ ((w.alloc (.cells #[.slice D h i,.int .i64 T.lL,.slice A n c,.int .i64 T.lO,.slice B m d,.int .i64 T.lM,.slice C k e,.int .i64 r0,.int .i64 r1,.int .i64 r2] 32)).alloc (.cells #[.slice D1 h i1,.int .i64 T.lL,.slice A1 n c1,.int .i64 T.lO,.slice B1 m d1,.int .i64 T.lM,.slice C1 k e1,.int .i64 r0,.int .i64 r1,.int .i64 r2] 32));obtain ⟨H,hH⟩:=nm_ (w.heap.size);(have f0 : Fresh w w0:=by rw [hw0];exact ((Upd.refl _ _).alloc _).alloc _);(have bc : Blk w0 H 32 #[.slice D h i,.int .i64 T.lL,.slice A n c,.int .i64 T.lO,.slice B m d,.int .i64 T.lM,.slice C k e,.int .i64 r0,.int .i64 r1,.int .i64 r2]:=by rw [hw0];exact (blk_new hH _ _).alloc _);(have bo : Blk w0 (H + 1) 32 #[.slice D1 h i1,.int .i64 T.lL,.slice A1 n c1,.int .i64 T.lO,.slice B1 m d1,.int .i64 T.lM,.slice C1 k e1,.int .i64 r0,.int .i64 r1,.int .i64 r2]:=by rw [hw0];exact blk_new (by simp [hH]) _ _);have HS1:=hd_ (fun W (f : Fresh w0 W)=>same07_any F G A A1 n n c c1 T.lL T.lL T.NL T.NL W ((p1.fresh f0).fresh f) ((q1.fresh f0).fresh f) bn bn);have HS2:=hd_ (fun W (f : Fresh w0 W)=>same07_any F G B B1 m m d d1 T.lO T.lO T.NO T.NO W ((p2.fresh f0).fresh f) ((q2.fresh f0).fresh f) bm bm);have HS3:=hd_ (fun W (f : Fresh w0 W)=>same07_any F G C C1 k k e e1 T.lM T.lM T.NM T.NM W ((p3.fresh f0).fresh f) ((q3.fresh f0).fresh f) bk bk);have HP:=hd_ (fun W (f : Fresh w0 W)=>And.intro ((p0.fresh f0).fresh f) ((q0.fresh f0).fresh f));have HBH:=hd_ bh
 have HCL:=hd_ (show ∀ W,Fresh w0 W->W.cell? ⟨H,0,none⟩ = some (.slice D h i)/\W.cell? ⟨H,1,none⟩ = some (.int .i64 T.lL)/\W.cell? ⟨H,2,none⟩ = some (.slice A n c)/\W.cell? ⟨H,3,none⟩ = some (.int .i64 T.lO)/\W.cell? ⟨H,4,none⟩ = some (.slice B m d)/\W.cell? ⟨H,5,none⟩ = some (.int .i64 T.lM)/\W.cell? ⟨H,6,none⟩ = some (.slice C k e)/\W.cell? ⟨H,7,none⟩ = some (.int .i64 r0)/\W.cell? ⟨H,8,none⟩ = some (.int .i64 r1)/\W.cell? ⟨H,9,none⟩ = some (.int .i64 r2)/\W.cell? ⟨H + 1,0,none⟩ = some (.slice D1 h i1)/\W.cell? ⟨H + 1,1,none⟩ = some (.int .i64 T.lL)/\W.cell? ⟨H + 1,2,none⟩ = some (.slice A1 n c1)/\W.cell? ⟨H + 1,3,none⟩ = some (.int .i64 T.lO)/\W.cell? ⟨H + 1,4,none⟩ = some (.slice B1 m d1)/\W.cell? ⟨H + 1,5,none⟩ = some (.int .i64 T.lM)/\W.cell? ⟨H + 1,6,none⟩ = some (.slice C1 k e1)/\W.cell? ⟨H + 1,7,none⟩ = some (.int .i64 r0)/\W.cell? ⟨H + 1,8,none⟩ = some (.int .i64 r1)/\W.cell? ⟨H + 1,9,none⟩ = some (.int .i64 r2) from fun W f=>by
   have b0:=bc.fresh f;have b1:=bo.fresh f
   exact ⟨by simpa using b0.cell 0,by simpa using b0.cell 1,by simpa using b0.cell 2,by simpa using b0.cell 3,by simpa using b0.cell 4,by simpa using b0.cell 5,by simpa using b0.cell 6,by simpa using b0.cell 7,by simpa using b0.cell 8,by simpa using b0.cell 9,by simpa using b1.cell 0,by simpa using b1.cell 1,by simpa using b1.cell 2,by simpa using b1.cell 3,by simpa using b1.cell 4,by simpa using b1.cell 5,by simpa using b1.cell 6,by simpa using b1.cell 7,by simpa using b1.cell 8,by simpa using b1.cell 9⟩)
 have HW:=hd_ hw0;have HH:=hd_ hH;have F0:=hd_ f0;(have hne : ((h : Int) != h) = false:=by simp);(have heq : ∀ W,(Op.equalIn 10000 30 (.agg #[.int .i64 r0,.int .i64 r1,.int .i64 r2]) (.agg #[.int .i64 r0,.int .i64 r1,.int .i64 r2])).run Tryz.prog W = .ok true W:=fun W=>by rw [eqArr3];simp);(have hL : (T.lL = T.lL/\T.NL = T.NL) = True:=by simp);(have hO : (T.lO = T.lO/\T.NO = T.NO) = True:=by simp);(have hM : (T.lM = T.lM/\T.NM = T.NM) = True:=by simp);simp only [hL,decide_true] at HS1;simp only [hO,decide_true] at HS2;simp only [hM,decide_true] at HS3;clear p0 p1 p2 p3 q0 q1 q2 q3 bh bn bm bk hw0 hH f0 bc bo hL hO hM;refine veil fun R hR=>?_;go_enter Tryz.func21,Tryz.ntmps21;go_upto_region 1 with fail;simp only [<- HH.out,<- HW.out];obtain ⟨u0,u1,u2,u3,u4,u5,u6,u7,u8,u9,u10,u11,u12,u13,u14,u15,u16,u17,u18,u19⟩:=HCL.out w0 (Upd.refl _ _);go_wp2_with fail;go_loopg [5] h (fun f vi wr=>∃ j : Nat,j + f = h/\vi = .int .i64 j/\Fresh w0 wr)
 case atStart=>exact ⟨0,by omega,rfl,Upd.refl _ _⟩
 case round =>
   obtain ⟨j,hj,rfl,hu⟩:=hrel;obtain ⟨t0,t1,t2,t3,t4,t5,t6,t7,t8,t9,t10,t11,t12,t13,t14,t15,t16,t17,t18,t19⟩:=HCL.out wr hu;have HU:=hd_ hu;have HJ:=hd_ hj;by_cases hjn : j < h
   . have hjI : (j : Int) < h:=by omega
     obtain ⟨rp,rq⟩:=HP.out wr hu;obtain ⟨b,o,hk1,rfl,hb,hc⟩:=rp.int (k:=j) hjn;obtain ⟨b2,o2,hk2,rfl,hb2,hc2⟩:=rq.int (k:=j) hjn;obtain ⟨x,hx⟩:=nm_ (Tr[j]);rw [<- hx] at hc hc2;have hw4 : IntKind.i64.wrap ((j : Int) + 1) = j + 1:=IntWalk.i64_in _ (by have:=HBH.out;omega);(have hxx : (x != x) = false:=by simp);clear hx rp rq hj hu;go_wp2_with fail;go_quiet (fail);go_wp2_with fail;go_roundg (gk - 1)
     case measure=>have:=HJ.out;omega
     case rel=>exact ⟨j + 1,by have:=HJ.out;omega,by go_num,HU.out.drewN _⟩
   (have hjI : ¬ (j : Int) < h:=by omega);clear hj hu;go_wp2_with fail;refine (HS1.out _ HU.out).mono ?_;rintro e2 w2 ⟨rfl,f2⟩;have F2:=hd_ (HU.out.trans' f2);obtain ⟨v0,v1,v2,v3,v4,v5,v6,v7,v8,v9,v10,v11,v12,v13,v14,v15,v16,v17,v18,v19⟩:=HCL.out w2 F2.out;clear f2;go_wp2_with fail;refine (HS2.out _ F2.out).mono ?_;rintro e3 w3 ⟨rfl,f3⟩;have F3:=hd_ (F2.out.trans' f3);obtain ⟨z0,z1,z2,z3,z4,z5,z6,z7,z8,z9,z10,z11,z12,z13,z14,z15,z16,z17,z18,z19⟩:=HCL.out w3 F3.out;clear f3;go_wp2_with fail;refine (HS3.out _ F3.out).mono ?_;rintro e4 w4 ⟨rfl,f4⟩;have F4:=hd_ (F3.out.trans' f4);obtain ⟨x0,x1,x2,x3,x4,x5,x6,x7,x8,x9,x10,x11,x12,x13,x14,x15,x16,x17,x18,x19⟩:=HCL.out w4 F4.out;clear f4;go_wp2_with fail;(try go_ret);exact hR.out _ _ ⟨rfl,F0.out.trans' F4.out⟩
end Go.Proofs.YtjfdaphjijfieaaGreat
