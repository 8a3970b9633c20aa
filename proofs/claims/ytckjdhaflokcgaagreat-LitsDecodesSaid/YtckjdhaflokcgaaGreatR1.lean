/- Contracts and plain lemmas, part 1. Conditions: none beyond those of each. -/
import Derived.WalkSpells
import Derived.WalkLawsBesides
import Derived.BigQuiet
import Derived.Deep.AppendLies
import Derived.StillTailTactics
import Derived.Deep.RegionHeld3
import Derived.Deep.CutBlock
import Derived.Deep.DeepCutAuto
import Derived.Test.YtckjdhaflokcgaaGreatRows
import Derived.Laws.CopyOwn
set_option maxHeartbeats 1000000
set_option linter.unusedVariables false
set_option linter.unusedSimpArgs false
set_option linter.unnecessarySimpa false
set_option maxRecDepth 100000
universe u
namespace Go.Proofs.YtckjdhaflokcgaaGreat
open Go.RowKit Go.Proofs.Tryz
theorem hd_ {p:Prop} (h:p):Hid p:=h
theorem nm_ {α : Sort u} (x : α) : ∃y, y = x := ⟨x, rfl⟩
theorem sb_ {α : Type u} {l : List α} {i : Nat} {a : α} : l.toArray.setIfInBounds i a = (l.set i a).toArray := List.setIfInBounds_toArray _ _ _
theorem sz_ {α : Type u} {x : α} {xs : List α} {a : α} : (x::xs).set 0 a = a::xs := List.set_cons_zero
theorem ss_ {α : Type u} {x : α} {xs : List α} {n : Nat} {a : α} : (x::xs).set (n+1) a = x::xs.set n a := List.set_cons_succ
theorem Q8 {P:Program} {f:FuncId} {args:Array Value} {w:World} {R:Ending->World->Prop} (h:∀K:Ending->World->Prop,Hid (∀e w',R e w'->K e w')->Calls P f args w K):Calls P f args w R:=h R λ_ _ x=>x
structure Upd (S:Nat->Prop) (w w':World):Prop where
  os:w'.os=w.os
  tape:w'.tape=w.tape
  output:w'.output=w.output
  size:w.heap.size<=w'.heap.size
  block:∀k,k<w.heap.size->¬S k->w'.heap[k]?=w.heap[k]?
abbrev Q0 (w w':World):Prop:=Upd (λ_=>False) w w'
section
variable {S T:Nat->Prop} {w w' w'':World}
theorem Upd.refl (S:Nat->Prop) (w:World):Upd S w w:=⟨rfl,rfl,rfl,Nat.le_refl _,λ_ _ _=>rfl⟩
theorem Upd.trans (h:Upd S w w') (k:Upd T w' w'') (hs:∀b,b<w.heap.size->T b->S b):Upd S w w'' :=
 ⟨k.os.trans h.os,k.tape.trans h.tape,k.output.trans h.output,Nat.le_trans h.size k.size,
   λi hi hn=>(k.block i (Nat.lt_of_lt_of_le hi h.size) (λht=>hn (hs i hi ht))).trans (h.block i hi hn)⟩
theorem Upd.trans' (h:Upd S w w') (k:Upd S w' w''):Upd S w w'':=h.trans k λ_ _ h=>h
theorem Upd.mono (h:Upd S w w') (hs:∀b,b<w.heap.size->S b->T b):Upd T w w' :=
 ⟨h.os,h.tape,h.output,h.size,λi hi hn=>h.block i hi λhx=>hn (hs i hi hx)⟩
theorem Upd.drew (h:Upd S w w'):Upd S w w'.drew:=⟨h.os,h.tape,h.output,h.size,h.block⟩
theorem Upd.drewN (h:Upd S w w') (n:Nat):Upd S w (w'.drewN n):=⟨h.os,h.tape,h.output,h.size,h.block⟩
theorem Upd.alloc (h:Upd S w w') (o:Obj):Upd S w (w'.alloc o) :=
 ⟨h.os,h.tape,h.output,by have:=h.size;simp;omega,λk hk hn=>(Below.heap_alloc w' o k (Nat.lt_of_lt_of_le hk h.size)).trans (h.block k hk hn)⟩
theorem Upd.setCell (h:Upd S w w') {p:Addr} (hp:p.block<w.heap.size->S p.block) (u:Value):Upd S w (w'.setCell p u) :=
 ⟨h.os,h.tape,h.output,by have:=h.size;simpa using this,λk hk hn=>by
   rw [Below.heap_setCell _ _ _ _ (λe=>hn (by subst e;exact hp hk))];exact h.block k hk hn⟩
theorem Upd.grown {row:Option Nat} (h:Upd S w w') (hg:w'.grownBy w'' row) (hr:∀k,row=some k->k<w.heap.size->S k):Upd S w w'' :=
 h.trans (T:=λk=>some k=row) ⟨hg.os,hg.tape,hg.output,hg.size,λk hk hn=>hg.block k hk hn⟩ λb hb hb'=>hr b hb'.symm hb
theorem Upd.below {B:Nat} (h:Upd S w w') (hs:∀b,b<w.heap.size->S b->B<=b) (hB:B<=w.heap.size):Below B w w' :=
 ⟨h.os,h.tape,h.output,h.size,λk hk=>h.block k (by omega) λhx=>by have:=hs k (by omega) hx;omega⟩
theorem Q0.below (h:Q0 w w'):Below w.heap.size w w':=Upd.below h (λ_ _ h=>h.elim) (Nat.le_refl _)
theorem Upd.of_below (h:Below w.heap.size w w'):Upd S w w':=⟨h.os,h.tape,h.output,h.size,λk hk _=>h.block k hk⟩
theorem Upd.cell (h:Upd S w w') {p:Addr} (hp:p.block<w.heap.size) (hn:¬S p.block):w'.cell? p=w.cell? p:=World.cell?_of_block (h.block _ hp hn)
theorem Upd.frozen (h:Upd S w w') {p:Addr} (hp:p.block<w.heap.size) (hn:¬S p.block):w'.frozen? p=w.frozen? p:=World.frozen?_of_block (h.block _ hp hn)
theorem Q0.cells (h:Q0 w w'):∀b o,b<w.heap.size->w'.cell? ⟨b,o,none⟩=w.cell? ⟨b,o,none⟩:=λ_ _ hb=>Upd.cell h (p:=⟨_,_,none⟩) hb (λh=>h)
end
def Blk (w:World) (g:Nat) (t:TypeId) (cs:Array Value):Prop:=w.heap[g]?=some (.cells cs t (0,0))
section
variable {S:Nat->Prop} {w w':World} {g:Nat} {t:TypeId} {cs:Array Value}
theorem Blk.lt (h:Blk w g t cs):g<w.heap.size:=by
 rcases Nat.lt_or_ge g w.heap.size with hlt|hge
 . exact hlt
 unfold Blk at h;rw [Array.getElem?_eq_none hge]at h;cases h
theorem Blk.cell (h:Blk w g t cs) (i:Nat):w.cell? ⟨g,i,none⟩=cs[i]?:=cell_of_row w g i cs t (0,0) h
theorem Blk.cell0 {v:Value} (h:Blk w g t #[v]):w.cell? ⟨g,0,none⟩=some v:=h.cell 0
theorem Blk.frozen (h:Blk w g t cs) (i:Nat):w.frozen? ⟨g,i,none⟩=false:=by unfold Blk at h;simp [World.frozen?,h]
theorem Blk.cells2 {w : World} {g : Nat} {t : TypeId} {a b : Value} {r : List Value} (q : Blk w g t (a::b::r).toArray) : w.cell? ⟨g, 0, none⟩ = some a /\ w.cell? ⟨g, 1, none⟩ = some b := ⟨by simpa using q.cell 0, by simpa using q.cell 1⟩
theorem Blk.cells3 {w : World} {g : Nat} {t : TypeId} {a b c : Value} {r : List Value} (q : Blk w g t (a::b::c::r).toArray) : w.cell? ⟨g, 0, none⟩ = some a /\ w.cell? ⟨g, 1, none⟩ = some b /\ w.cell? ⟨g, 2, none⟩ = some c := ⟨by simpa using q.cell 0, by simpa using q.cell 1, by simpa using q.cell 2⟩
theorem Blk.cells6 {w : World} {g : Nat} {t : TypeId} {a b c d e f : Value} {r : List Value} (q : Blk w g t (a::b::c::d::e::f::r).toArray) : w.cell? ⟨g, 0, none⟩ = some a /\ w.cell? ⟨g, 1, none⟩ = some b /\ w.cell? ⟨g, 2, none⟩ = some c /\ w.cell? ⟨g, 3, none⟩ = some d /\ w.cell? ⟨g, 4, none⟩ = some e /\ w.cell? ⟨g, 5, none⟩ = some f := ⟨by simpa using q.cell 0, by simpa using q.cell 1, by simpa using q.cell 2, by simpa using q.cell 3, by simpa using q.cell 4, by simpa using q.cell 5⟩
theorem Blk.cells10 {w : World} {g : Nat} {t : TypeId} {a b c d e f h i j k : Value} {r : List Value} (q : Blk w g t (a::b::c::d::e::f::h::i::j::k::r).toArray) : w.cell? ⟨g, 0, none⟩ = some a /\ w.cell? ⟨g, 1, none⟩ = some b /\ w.cell? ⟨g, 2, none⟩ = some c /\ w.cell? ⟨g, 3, none⟩ = some d /\ w.cell? ⟨g, 4, none⟩ = some e /\ w.cell? ⟨g, 5, none⟩ = some f /\ w.cell? ⟨g, 6, none⟩ = some h /\ w.cell? ⟨g, 7, none⟩ = some i /\ w.cell? ⟨g, 8, none⟩ = some j /\ w.cell? ⟨g, 9, none⟩ = some k := ⟨by simpa using q.cell 0, by simpa using q.cell 1, by simpa using q.cell 2, by simpa using q.cell 3, by simpa using q.cell 4, by simpa using q.cell 5, by simpa using q.cell 6, by simpa using q.cell 7, by simpa using q.cell 8, by simpa using q.cell 9⟩
theorem Blk.frozens10 {w : World} {g : Nat} {t : TypeId} {cs : Array Value} (q : Blk w g t cs) : w.frozen? ⟨g, 0, none⟩ = false /\ w.frozen? ⟨g, 1, none⟩ = false /\ w.frozen? ⟨g, 2, none⟩ = false /\ w.frozen? ⟨g, 3, none⟩ = false /\ w.frozen? ⟨g, 4, none⟩ = false /\ w.frozen? ⟨g, 5, none⟩ = false /\ w.frozen? ⟨g, 6, none⟩ = false /\ w.frozen? ⟨g, 7, none⟩ = false /\ w.frozen? ⟨g, 8, none⟩ = false /\ w.frozen? ⟨g, 9, none⟩ = false := ⟨q.frozen 0, q.frozen 1, q.frozen 2, q.frozen 3, q.frozen 4, q.frozen 5, q.frozen 6, q.frozen 7, q.frozen 8, q.frozen 9⟩
theorem Blk.new (w:World) (t:TypeId) (cs:Array Value):Blk (w.alloc (.cells cs t)) w.heap.size t cs:=heap_alloc_new w _
theorem Qb {k:Nat} (h:k=w.heap.size) (t:TypeId) (cs:Array Value):Blk (w.alloc (.cells cs t)) k t cs:=h ▸ Blk.new w t cs
theorem Blk.drew (h:Blk w g t cs):Blk w.drew g t cs:=h
theorem Blk.drewN (h:Blk w g t cs) (n:Nat):Blk (w.drewN n) g t cs:=h
theorem Blk.alloc (h:Blk w g t cs) (o:Obj):Blk (w.alloc o) g t cs:=(Below.heap_alloc w o g h.lt).trans h
theorem al_ (w : World) (t : TypeId) (cs : Array Value) : ∃W H, W = w.alloc (.cells cs t) /\ H = w.heap.size /\ Q0 w W /\ Blk W H t cs := ⟨_, _, rfl, rfl, (Upd.refl _ _).alloc _, Blk.new _ _ _⟩
theorem Jw (w : World) (t : TypeId) (cs : Array Value) (u : TypeId) (ds : Array Value) : ∃W H, W = (w.alloc (.cells cs t)).alloc (.cells ds u) /\ H = w.heap.size /\ Q0 w W /\ Blk W H t cs /\ Blk W (H+1) u ds := ⟨_, _, rfl, rfl, ((Upd.refl _ _).alloc _).alloc _, (Blk.new _ _ _).alloc _, by have h := Blk.new (w.alloc (.cells cs t)) u ds; simpa using h⟩
theorem Q3h (w : World) (t : TypeId) (cs : Array Value) (u : TypeId) (ds : Array Value) (v : TypeId) (es : Array Value) : ∃W H, W = ((w.alloc (.cells cs t)).alloc (.cells ds u)).alloc (.cells es v) /\ H = w.heap.size /\ Q0 w W /\ Blk W H t cs /\ Blk W (H+1) u ds /\ Blk W (H+1+1) v es := ⟨_, _, rfl, rfl, (((Upd.refl _ _).alloc _).alloc _).alloc _, ((Blk.new _ _ _).alloc _).alloc _, by have h := (Blk.new (w.alloc (.cells cs t)) u ds).alloc (.cells es v); simpa using h, by have h := Blk.new ((w.alloc (.cells cs t)).alloc (.cells ds u)) v es; simpa using h⟩
theorem Blk.set_ (h:Blk w g t cs) (i:Nat) (u:Value):Blk (w.setCell ⟨g,i,none⟩ u) g t (cs.setIfInBounds i u):=by
 unfold Blk at h|-;simp [World.setCell,Array.getElem?_modify,h]
theorem Blk.far (h:Blk w g t cs) {p:Addr} (hp:g≠p.block) (u:Value):Blk (w.setCell p u) g t cs:=(Below.heap_setCell w p u g hp).trans h
theorem Blk.upd (h:Blk w g t cs) (hu:Upd S w w') (hn:¬S g):Blk w' g t cs:=(hu.block g h.lt hn).trans h
theorem Blk.fresh (h:Blk w g t cs) (hu:Q0 w w'):Blk w' g t cs:=h.upd hu λh=>h
theorem Blk.grown {row:Option Nat} (h:Blk w g t cs) (hb:w.grownBy w' row) (hg:row≠some g):Blk w' g t cs:=(hb.block g h.lt (λe=>hg e.symm)).trans h
theorem Blk.ne_ {g':Nat} {t':TypeId} {cs':Array Value} (h:Blk w g t cs) (h':Blk w g' t' cs') (hne:t≠t'):g≠g':=by
 rintro rfl;unfold Blk at h h';rw [h]at h';injection h' with h';injection h' with _ ht;exact hne ht
end
def Rd (w:World) (F:Nat->Prop) (A:Option Addr) (n:Nat) (xs:List Value):Prop :=
  xs.length=n/\(0<n->∃b o,A=some ⟨b,o,none⟩/\F b/\b<w.heap.size/\∀j,j<n->w.cell? ⟨b,o+j,none⟩=xs[j]?)
section
variable {S F G:Nat->Prop} {w w':World} {A:Option Addr} {n:Nat} {xs:List Value}
theorem Rd.nil (w:World) (F:Nat->Prop) (A:Option Addr):Rd w F A 0 []:=⟨rfl,λh=>absurd h (by omega)⟩
theorem Rd.at_ {k:Nat} (h:Rd w F A n xs) (hk:k<n):∃b o,A=some ⟨b,o,none⟩/\F b/\b<w.heap.size/\w.cell? ⟨b,o+k,none⟩=xs[k]?:=by
 obtain⟨b,o,e,hf,hb,hc⟩:=h.2 (by omega);exact⟨b,o,e,hf,hb,hc k hk⟩
theorem Rd.both (h:Rd w F A n xs):Rd w (λb=>F b/\b<w.heap.size) A n xs :=
 ⟨h.1,λhn=>by obtain⟨b,o,e,hf,hb,hc⟩:=h.2 hn;exact⟨b,o,e,⟨hf,hb⟩,hb,hc⟩⟩
theorem Rd.mono (h:Rd w F A n xs) (hfg:∀b,F b->G b):Rd w G A n xs :=
 ⟨h.1,λhn=>by obtain⟨b,o,e,hf,hb,hc⟩:=h.2 hn;exact⟨b,o,e,hfg b hf,hb,hc⟩⟩
theorem Rd.upd (h:Rd w F A n xs) (hu:Upd S w w') (hs:∀b,b<w.heap.size->F b->¬S b):Rd w' F A n xs :=
 ⟨h.1,λhn=>by
   obtain⟨b,o,e,hf,hb,hc⟩:=h.2 hn
   exact⟨b,o,e,hf,Nat.lt_of_lt_of_le hb hu.size,λj hj=>(hu.cell (p:=⟨b,o+j,none⟩) hb (hs b hb hf)).trans (hc j hj)⟩⟩
theorem Rd.fresh (h:Rd w F A n xs) (hu:Q0 w w'):Rd w' F A n xs:=h.upd hu λ_ _ _ h=>h
theorem Rd.drew (h:Rd w F A n xs):Rd w.drew F A n xs:=h
theorem Rd.drewN (h:Rd w F A n xs) (k:Nat):Rd (w.drewN k) F A n xs:=h
theorem Rd.alloc (h:Rd w F A n xs) (o:Obj):Rd (w.alloc o) F A n xs:=h.fresh ((Upd.refl _ _).alloc o)
theorem Rd.cut (h:Rd w F A n xs) {k cap:Nat} (hk:k<=n) (hc:n<=cap):Rd w F (if cap=k then A else A.map (·.add k)) (n-k) (xs.drop k):=by
 refine⟨by rw [List.length_drop,h.1],λhn=>?_⟩;obtain⟨b,o,rfl,hf,hb,hcell⟩:=h.2 (by omega);rw [if_neg (by omega)];refine⟨b,o+k,by simp only [Option.map_some,Addr.add];split<;>simp_all,hf,hb,λj hj=>?_⟩;rw [List.getElem?_drop,<-hcell (k+j) (by omega),Nat.add_assoc]
theorem Rd.take (h:Rd w F A n xs) {k:Nat} (hk:k<=n):Rd w F A k (xs.take k):=by
 refine⟨by rw [List.length_take,h.1];omega,λhn=>?_⟩;obtain⟨b,o,rfl,hf,hb,hcell⟩:=h.2 (by omega);refine⟨b,o,rfl,hf,hb,λj hj=>?_⟩;rw [hcell j (by omega),List.getElem?_take,if_pos hj]
end
theorem Rd.one (w:World) (e:TypeId) (u:Value):Rd (w.alloc (.cells #[u] e)) (λb=>b=w.heap.size) (some ⟨w.heap.size,0,none⟩) 1 [u] :=
 ⟨rfl,λ_=>⟨w.heap.size,0,rfl,rfl,by simp,λj hj=>by(obtain rfl:j=0:=by omega);simp⟩⟩
def Own (w:World) (e:TypeId) (v:Value) (xs:List Value):Prop:=w.ownsRow 0 e 1 v xs.length xs
section
variable {S F:Nat->Prop} {w w':World} {e:TypeId} {v:Value} {xs:List Value}
theorem Own.nil (w:World) (e:TypeId):Own w e (.slice none 0 0) []:=World.ownsRow_nil w 0 e 1
theorem Own.form (h:Own w e v xs):∃A c,v = .slice A xs.length c/\xs.length<=c/\Rd w (λb=>v.ownBlock=some b) A xs.length xs:=by
 rcases h.2 with ⟨rfl,h0⟩|⟨g,cap,cur,rfl,_,hg,hn,hm,hc,ht⟩
 . have:xs=[]:=List.eq_nil_of_length_eq_zero h0
   subst this;exact⟨none,0,rfl,Nat.le_refl _,Rd.nil _ _ _⟩
 refine⟨some ⟨g,0,none⟩,cap,rfl,hn,rfl,λ_=>⟨g,0,rfl,rfl,(Array.getElem?_eq_some_iff.1 hg).1,λj hj=>?_⟩⟩;rw [cell_of_row w g (0+j) cur e (0,0) hg,<-ht,List.getElem?_take,if_pos (by omega)];simp
theorem Own.form' (h:Own w e v xs):∃A n c,v = .slice A n c/\Hid (n=xs.length):=by
 obtain⟨A,c,h1,_⟩:=h.form;exact⟨A,_,c,h1,rfl⟩
theorem Own.lt (h:Own w e v xs) {k:Nat} (hk:v.ownBlock=some k):k<w.heap.size:=(World.ownsRow.lt h k hk).2
theorem Own.upd (h:Own w e v xs) (hu:Upd S w w') (hs:∀b,v.ownBlock=some b->¬S b):Own w' e v xs:=by
 refine⟨h.1,?_⟩;rcases h.2 with hn|⟨g,cap,cur,rfl,hb,hgg,rest⟩
 . exact .inl hn
 refine .inr ⟨g,cap,cur,rfl,hb,?_,rest⟩;rw [hu.block g (Array.getElem?_eq_some_iff.1 hgg).1 (hs g rfl)];exact hgg
theorem Own.fresh (h:Own w e v xs) (hu:Q0 w w'):Own w' e v xs:=h.upd hu λ_ _ h=>h
theorem Own.drew (h:Own w e v xs):Own w.drew e v xs:=h
theorem Own.alloc (h:Own w e v xs) (o:Obj):Own (w.alloc o) e v xs:=h.fresh ((Upd.refl _ _).alloc o)
theorem Own.ne_blk {g:Nat} {t:TypeId} {cs:Array Value} (h:Own w e v xs) (hg:Blk w g t cs) (hne:e≠t):v.ownBlock≠some g:=by
 rcases h.2 with ⟨rfl,_⟩|⟨g',cap,cur,rfl,_,hh,_⟩
 . simp [Value.ownBlock]
 intro he;(have:g'=g:=by simpa [Value.ownBlock]using he);subst this;exact Blk.ne_ (t:=e) hh hg hne rfl
theorem Own.far (h:Own w e v xs) {p:Addr} (hp:v.ownBlock≠some p.block) (u:Value):Own (w.setCell p u) e v xs :=
 h.upd (S:=λb=>b=p.block) ((Upd.refl (λb=>b=p.block) w).setCell (p:=p) (λ_=>rfl) u) λb hb e=>hp (by rw [hb,e])
theorem Own.rd (h:Own w e v xs) {A:Option Addr} {n c:Nat} (hv:v = .slice A n c):n=xs.length/\xs.length<=c/\Rd w (λb=>v.ownBlock=some b) A xs.length xs:=by
 obtain⟨A',c',hv',hc,hr⟩:=h.form;rw [hv]at hv';injection hv' with h1 h2 h3;subst h1 h2 h3;exact⟨rfl,hc,hr⟩
end
section
variable {P:Program} (w:World)
theorem Q54 {F:Nat->Prop} (t ty e:TypeId) (z:Value) (Q2:Nat) (ht:P.underlying t=some (.slice e)) (hi:(P.info? e).map (λi=>(i.zero,i.size,i.bytes))=some (some z,1,Q2)) (hzs:z.cells.size=1)
   (v:Value) (xs:List Value) (hown:Own w e v xs) (A:Option Addr) (m c:Nat) (news:List Value) (hr:Rd w F A m news) (h1:∀u∈news,u.oneCell'=true)
   (hb:Q2<=64) (hlen:xs.length+m<=2^40) :
   ∃v' w',(Builtin.append_ #[t,t] ty #[v,.slice A m c]).run P w = .ok v' w'/\Own w' e v' (xs++news)/\w.grownBy w' v.ownBlock /\
     (v'.ownBlock=v.ownBlock\/v'.ownBlock=some w.heap.size):=by
 obtain⟨i,hi0,hz,hsize,hby⟩:=info_parts hi;have hm:=hr.1;(have h63:xs.length+m<=maxLen:=by simp only [maxLen];omega)
 have hbytes:(xs.length+m)*Q2<=140737488355328:=by
   calc (xs.length+m)*Q2<=2^40*64:=Nat.mul_le_mul hlen hb
     _<=140737488355328:=by decide
 rcases Nat.eq_zero_or_pos m with h0|h0
 . subst h0
   have hn:news=[]:=List.eq_nil_of_length_eq_zero hm;subst hn;rcases A with _|ad
   . refine⟨v,w,?_,by simpa using hown,World.grownBy.refl w _,.inl rfl⟩
     rcases hown.2 with ⟨rfl,h00⟩|⟨g,cap,cur,rfl,_,_,hnc,_⟩
     . simp [Builtin.append_,run_underlying ht,sizeOf,typeInfo,hi0,Builtin.lenOf,Builtin.firstCells]
     simp [Builtin.append_,run_underlying ht,sizeOf,typeInfo,hi0,Builtin.lenOf,Builtin.firstCells,hnc,storeCells]
   obtain⟨v',w',hrun,h2,h3,_,h5⟩:=run_append_own_at (P:=P) w 0 t ty e i z 1 Q2 ht hi0 hz hsize hby hzs (by omega) v xs.length xs hown ad 0 c [] (by simp) (by simp) h1 h63 hbytes (Nat.zero_le _);exact⟨v',w',hrun,by simpa [Own]using h2,h3,h5⟩
 obtain⟨b,o,rfl,_,_,hc⟩:=hr.2 h0
 obtain⟨v',w',hrun,h2,h3,_,h5⟩:=run_append_own_at (P:=P) w 0 t ty e i z 1 Q2 ht hi0 hz hsize hby hzs (by omega) v xs.length xs hown ⟨b,o,none⟩ m c news (by omega)
   (λj u hu=>by
     (have hj:j<m:=by have:=(List.getElem?_eq_some_iff.1 hu).1;omega)
     rw [Addr.add_lit,hc j hj,hu]) h1 h63 hbytes (Nat.zero_le _)
 exact⟨v',w',hrun,by unfold Own;rw [List.length_append,hm];exact h2,h3,h5⟩
theorem Q3i {F:Nat->Prop} {o:Oper} {a:Act} {K:Act->World->Prop} {Q:Exit->Act->World->Prop} (s x:Operand) (t:TypeId)
   (ho:o.op = .call { callee:=.builtin .append,args:=#[s,x],argTypes:=#[t,t] })
   (e:TypeId) (z:Value) (Q2:Nat) (ht:P.underlying t=some (.slice e)) (hi:(P.info? e).map (λi=>(i.zero,i.size,i.bytes))=some (some z,1,Q2)) (hzs:z.cells.size=1)
   (v:Value) (xs:List Value) (hs:a.eval s=v) (hown:Own w e v xs) (A:Option Addr) (m c:Nat) (news:List Value) (hx:a.eval x = .slice A m c) (hr:Rd w F A m news) (h1:∀u∈news,u.oneCell'=true)
   (hb:Q2<=64) (hlen:xs.length+m<=2^40)
   (h:∀v' w',Own w' e v' (xs++news)->w.grownBy w' v.ownBlock->(v'.ownBlock=v.ownBlock\/v'.ownBlock=some w.heap.size)->K (a.put o.dst v') w'):o.wp P a w K Q:=by
 obtain⟨v',w',hrun,h2,h3,h4⟩:=Q54 (P:=P) w t o.type e z Q2 ht hi hzs v xs hown A m c news hr h1 hb hlen;unfold Oper.wp execOp;simp only [ho,resolve,invoke,builtin,Sem.run_bind,Sem.run_pure,Result.andThen_ok,List.map_toArray,List.map_cons,List.map_nil,hs,hx,hrun];exact h v' w' h2 h3 h4
theorem Q8N {F:Nat->Prop} {ops:Array Oper} {o:Oper} {a:Act} {K:Act->World->Prop} {Q:Exit->Act->World->Prop} {E:Prop} (hgd:o.guard=none) (s x:Operand) (t:TypeId)
   (ho:o.op = .call { callee:=.builtin .append,args:=#[s,x],argTypes:=#[t,t] })
   (e:TypeId) (z:Value) (Q2:Nat) (ht:P.underlying t=some (.slice e)) (hi:(P.info? e).map (λi=>(i.zero,i.size,i.bytes))=some (some z,1,Q2)) (hzs:z.cells.size=1)
   (v:Value) (xs:List Value) (hs:a.eval s=v) (hown:Own w e v xs) (A:Option Addr) (m c:Nat) (news:List Value) (hx:a.eval x = .slice A m c) (hr:Rd w F A m news) (h1:∀u∈news,u.oneCell'=true)
   (hb:Q2<=64) (hlen:xs.length+m<=2^40)
   (h:∀v' w',Own w' e v' (xs++news)->w.grownBy w' v.ownBlock->(v'.ownBlock=v.ownBlock\/v'.ownBlock=some w.heap.size)->K (a.put o.dst v') w') :
   if Region.wanted o (yielded ops a.tmps)=true then Oper.wp P o a w K Q else E:=by
 (have hw:Region.wanted o (yielded ops a.tmps)=true:=by simp [Region.wanted,hgd]);rw [if_pos hw];exact Q3i w s x t ho e z Q2 ht hi hzs v xs hs hown A m c news hx hr h1 hb hlen h
theorem Qm {F:Nat->Prop} {ops:Array Oper} {rest:List Oper} {o:Oper} {a:Act} {Q:Exit->Act->World->Prop} (hgd:o.guard=none) (s x:Operand) (t:TypeId)
   (ho:o.op = .call { callee:=.builtin .append,args:=#[s,x],argTypes:=#[t,t] })
   (e:TypeId) (z:Value) (Q2:Nat) (ht:P.underlying t=some (.slice e)) (hi:(P.info? e).map (λi=>(i.zero,i.size,i.bytes))=some (some z,1,Q2)) (hzs:z.cells.size=1)
   (v:Value) (xs:List Value) (hs:a.eval s=v) (hown:Own w e v xs) (A:Option Addr) (m c:Nat) (news:List Value) (hx:a.eval x = .slice A m c) (hr:Rd w F A m news) (h1:∀u∈news,u.oneCell'=true)
   (hb:Q2<=64) (hlen:xs.length+m<=2^40)
   (h:∀v' w',Own w' e v' (xs++news)->w.grownBy w' v.ownBlock->(v'.ownBlock=v.ownBlock\/v'.ownBlock=some w.heap.size)->wpList P ops Q rest (a.put o.dst v') w'):wpList P ops Q (o::rest) a w :=
 wpList_plain hgd λ_ hK=>Q3i w s x t ho e z Q2 ht hi hzs v xs hs hown A m c news hx hr h1 hb hlen λv' w' h2 h3 h4=>hK _ _ (h v' w' h2 h3 h4)
end
theorem Yj {S:Nat->Prop} {v v':Value} {k0:Nat} (h:v'.ownBlock=v.ownBlock\/v'.ownBlock=some k0) (hv:∀k,v.ownBlock=some k->S k) (hk:S k0):∀k,v'.ownBlock=some k->S k:=by
 intro k h';rcases h with e|e
 . exact hv k (e ▸ h')
 rw [e]at h';injection h' with h';exact h' ▸ hk
section
variable {P:Program}
theorem Q1c (w:World) (b off:Nat) (ty:TypeId) (cs:List Value) (d:TypeDesc) (hc:∀j u,cs[j]?=some u->w.cell? ⟨b,off+j,none⟩=some u)
   (hu:P.underlying ty=some d) (hd:(match d with | .struct _ | .array _ _=>true|_=>false)=true) (hi:(P.info? ty).map (·.size)=some cs.length) :
   (loadVar ty ⟨b,off,none⟩).run P w = .ok (.agg cs.toArray) w:=by
 have hl:(loadCells ⟨b,off,none⟩ cs.length).run P w = .ok cs.toArray w :=
   run_loadCells_list (P:=P) w ⟨b,off,none⟩ cs (λj v hv=>by rw [Addr.add_lit];exact hc j v hv)
 cases hq:P.info? ty with
 | none=>simp [hq]at hi
 | some i =>
   (have hs:i.size=cs.length:=by simpa [hq]using hi)
   have hagg:(isAgg ty).run P w = .ok true w:=by
     unfold isAgg;rw [Sem.run_bind,run_underlying hu w];(cases d<;>simp_all)
   simp [loadVar,Sem.run_bind,hagg,sizeOf,typeInfo,hq,hs,hl]
theorem J5 {ops:Array Oper} {rest:List Oper} {o:Oper} {a:Act} {w:World} {Q:Exit->Act->World->Prop} (hgd:o.guard=none) (ty:TypeId) (x:Operand) (ho:o.op = .load ty x)
   (b off:Nat) (hx:a.eval x = .pointer (some ⟨b,off,none⟩)) (cs:List Value) (d:TypeDesc) (hc:∀j u,cs[j]?=some u->w.cell? ⟨b,off+j,none⟩=some u)
   (hu:P.underlying ty=some d) (hd:(match d with | .struct _ | .array _ _=>true|_=>false)=true) (hi:(P.info? ty).map (·.size)=some cs.length)
   (h:wpList P ops Q rest (a.put o.dst (.agg cs.toArray)) w):wpList P ops Q (o::rest) a w :=
 wpList_plain hgd λ_ hK=>by
   unfold Oper.wp execOp
   simp only [ho,hx,Instr.loadAt,Instr.sureAddr,Sem.run_bind,Sem.run_pure,Result.andThen_ok,Q1c w b off ty cs d hc hu hd hi]
   exact hK _ _ h
theorem Blk.cells {w:World} {g:Nat} {t:TypeId} {cs:Array Value} (h:Blk w g t cs):∀j x,cs.toList[j]?=some x->w.cell? ⟨g,0+j,none⟩=some x:=by
 intro j x hx;rw [h.cell];simpa using hx
end
theorem JX:(prog.info? 5).map (λi=>(i.zero,i.size,i.bytes))=some (some (.int .u8 0),1,1):=by kernel_rfl
theorem QV:(prog.info? 3).map (λi=>(i.zero,i.size,i.bytes))=some (some (.int .i64 0),1,8):=by kernel_rfl
theorem Q3j:(prog.info? 4).map (λi=>(i.zero,i.size,i.bytes))=some (some (.bool false),1,1):=by kernel_rfl
theorem J6 {k:IntKind} {a b:Int} (h:a=b):Ending.returned (.int k a) = .returned (.int k b):=by rw [h]
end Go.Proofs.YtckjdhaflokcgaaGreat
namespace Go.Proofs.YtckjdhaflokcgaaGreat
open Go.Proofs.Tryz
def QI:List Bool->Nat
  | []=>0
  | b::l=>b.toNat+2*QI l
def Qr:Nat->Nat->List Bool
  | 0,_=>[]
  | n+1,v=>(v%2 == 1)::Qr n (v / 2)
def Qf (l:List Nat):List Bool:=l.flatMap (Qr 8)
def Yr (l:List Bool):List Nat:=(List.range ((l.length+7) / 8)).map λi=>QI l / 256^i%256
@[simp] theorem Ve:∀n v,(Qr n v).length=n
  | 0,_=>rfl
  | n+1,v=>by simp [Qr,Ve n]
theorem Q31 (v:Nat):(v%2 == 1).toNat=v%2:=by
 (rcases Nat.mod_two_eq_zero_or_one v with h|h<;>simp [h])
theorem Jn:∀n v,QI (Qr n v)=v%2^n
 | 0,v=>by simp [Qr,QI,Nat.mod_one]
 | n+1,v=>by
   simp only [Qr,QI,Q31,Jn n]
   rw [Nat.pow_succ,Nat.mul_comm (2^n) 2,Nat.mod_mul]
theorem Zk:∀l:List Bool,QI l<2^l.length
 | []=>by simp [QI]
 | b::l=>by
   have:=Zk l
   simp only [QI,List.length_cons,Nat.pow_succ]
   have:b.toNat<=1:=by cases b<;>simp
   omega
theorem JJ:∀l:List Bool,Qr l.length (QI l)=l
 | []=>rfl
 | b::l=>by
   simp only [List.length_cons,Qr,QI]
   have h1:(b.toNat+2*QI l)%2=b.toNat:=by cases b<;>simp<;>omega
   have h2:(b.toNat+2*QI l) / 2=QI l:=by cases b<;>simp<;>omega
   rw [h1,h2,JJ l]
   cases b<;>rfl
theorem Kk:∀a b:List Bool,QI (a++b)=QI a+2^a.length*QI b
 | [],b=>by simp [QI]
 | x::a,b=>by
   simp only [List.cons_append,QI,Kk a b,List.length_cons,Nat.pow_succ]
   rw [Nat.mul_add,<-Nat.mul_assoc,Nat.mul_comm 2 (2^a.length)]
   omega
theorem Q0P {a b:List Bool} (hl:a.length=b.length) (hv:QI a=QI b):a=b:=by
 rw [<-JJ a,<-JJ b,hl,hv]
theorem XP (n v:Nat):Qr n (v%2^n)=Qr n v:=by
 apply Q0P (by simp);simp [Jn]
theorem Kv (m n v:Nat):Qr (m+n) v=Qr m v++Qr n (v / 2^m):=by
 apply Q0P (by simp);simp only [Kk,Jn,Ve];rw [Nat.pow_add,Nat.mod_mul]
theorem Q3k {m n a b:Nat} (ha:a<2^m):Qr m a++Qr n b=Qr (m+n) (a+2^m*b):=by
 rw [Kv,Nat.add_mul_div_left _ _ (Nat.two_pow_pos m),Nat.div_eq_of_lt ha,Nat.zero_add]
 congr 1
 apply Q0P (by simp);simp [Jn]
theorem Q0Q:Qf []=[]:=rfl
theorem JF (b:Nat) (l:List Nat):Qf (b::l)=Qr 8 b++Qf l:=by simp [Qf]
theorem Kl (a b:List Nat):Qf (a++b)=Qf a++Qf b:=by simp [Qf]
@[simp] theorem Yb:∀l:List Nat,(Qf l).length=8*l.length
  | []=>rfl
  | b::l=>by simp [JF,Yb l];omega
theorem XQ:∀(n:Nat) (l:List Bool),QI (l.drop n)=QI l / 2^n
 | 0,l=>by simp
 | n+1,[]=>by simp [QI]
 | n+1,b::l=>by
   simp only [List.drop_succ_cons,XQ n l,QI]
   have h2:(b.toNat+2*QI l) / 2=QI l:=by cases b<;>simp<;>omega
   rw [Nat.pow_succ,Nat.mul_comm (2^n) 2,<-Nat.div_div_eq_div_mul,h2]
theorem Q2g (n:Nat) (l:List Bool):QI (l.take n)=QI l%2^n:=by
 by_cases h:n<=l.length
 . have:=Kk (l.take n) (l.drop n)
   rw [List.take_append_drop,List.length_take,Nat.min_eq_left h]at this;have hlt:=Zk (l.take n);rw [List.length_take,Nat.min_eq_left h]at hlt;rw [this,Nat.add_mul_mod_self_left,Nat.mod_eq_of_lt hlt]
 rw [List.take_of_length_le (by omega),Nat.mod_eq_of_lt];exact Nat.lt_of_lt_of_le (Zk l) (Nat.pow_le_pow_right (by omega) (by omega))
theorem Q1d (a l:List Bool) (ha:a.length=8):Yr (a++l)=QI a::Yr l:=by
 unfold Yr;(have h:((a++l).length+7) / 8=(l.length+7) / 8+1:=by rw [List.length_append];omega);have hlt:=Zk a;rw [ha]at hlt;rw [h,List.range_succ_eq_map,List.map_cons,List.map_map,Kk,ha]
 congr 1
 . simp;omega
 apply List.map_congr_left;intro i _;simp only [Function.comp];rw [show 256^i.succ=256*256^i by rw [Nat.pow_succ,Nat.mul_comm],<-Nat.div_div_eq_div_mul]
 congr 2
 omega
theorem Q2h:Yr []=[]:=rfl
theorem Q0w (l:List Bool) (h0:0<l.length) (h:l.length<=8):Yr l=[QI l]:=by
 unfold Yr;rw [show(l.length+7) / 8=1 by omega];have:=Zk l;have h2:2^l.length<=2^8:=Nat.pow_le_pow_right (by omega) h;simp;omega
theorem KM:∀(bs:List Nat) (l:List Bool),(∀b∈bs,b<256)->Yr (Qf bs++l)=bs++Yr l
 | [],l,_=>rfl
 | b::bs,l,h=>by
   rw [JF,List.append_assoc,Q1d _ _ (by simp),KM bs l (λx hx=>h x (List.mem_cons_of_mem _ hx)),Jn,Nat.mod_eq_of_lt (h b (by simp))]
   rfl
theorem Q3l (l:List Bool):(Yr l).length=(l.length+7) / 8:=by simp [Yr]
theorem Q8O (l:List Bool):∀b∈Yr l,b<256:=by
 intro b hb;obtain⟨i,_,rfl⟩:=List.mem_map.1 hb;omega
def Q3m (l:List Bool):List Bool:=l++List.replicate ((8-l.length%8)%8) false
theorem Q2i:∀(bs:List Nat) (j:Nat),(Qf bs).drop (8*j)=Qf (bs.drop j)
 | bs,0=>by simp
 | [],j+1=>by simp [Qf]
 | b::bs,j+1=>by
   rw [JF,List.drop_succ_cons,<-Q2i bs j,List.drop_append,show 8*(j+1)-(Qr 8 b).length=8*j by simp;omega,List.drop_of_length_le (by simp;omega)]
   rfl
def Qj (bs:List Nat):Nat:=QI (Qf bs)
theorem Q6Z (bs:List Nat) (hb:∀b∈bs,b<256) (j:Nat) (hj:j<bs.length):Qj bs / 2^(8*j)%2^8=bs[j]:=by
 unfold Qj;rw [<-XQ,<-Q2g,Q2i,List.drop_eq_getElem_cons hj,JF,List.take_append_of_le_length (by simp),List.take_of_length_le (by simp),Jn,Nat.mod_eq_of_lt (hb _ (List.getElem_mem hj))]
theorem Q70 (N j s k:Nat) (h:s+k<=8):N / 2^(8*j)%2^8 / 2^s%2^k=N / 2^(8*j+s)%2^k:=by
 rw [Nat.pow_add,<-Nat.div_div_eq_div_mul];generalize N / 2^(8*j)=M;rw [show 8=s+(8-s) by omega,Nat.pow_add,Nat.mod_mul_right_div_self,Nat.mod_mod_of_dvd _ (Nat.pow_dvd_pow 2 (by omega))]
theorem Q4o (N q k:Nat):N%2^(q+k)=N%2^q+N / 2^q%2^k*2^q:=by
 rw [Nat.pow_add,Nat.mod_mul,Nat.mul_comm]
theorem Vr (bs:List Nat) (a n:Nat):QI (((Qf bs).drop a).take n)=Qj bs / 2^a%2^n:=by
 rw [Q2g,XQ];rfl
end Go.Proofs.YtckjdhaflokcgaaGreat
namespace Go.Proofs.YtckjdhaflokcgaaGreat
open Go.RowKit Go.Proofs.Tryz
theorem Q8P (g:Nat) (v x n k:Nat) (w:World) (hv:w.cell? ⟨g,0,none⟩=some (.int .u64 v)) (hn:w.cell? ⟨g,1,none⟩=some (.int .i64 n))
   (h1:n<=7) (h3:k<=32) (hx:x<2^k) (hvn:v<2^n) (f0:w.frozen? ⟨g,0,none⟩=false) (f1:w.frozen? ⟨g,1,none⟩=false) :
   Calls prog 145 #[.pointer (some ⟨g,0,none⟩),.int .u64 x,.int .i64 k] w λe w'=>e = .returned (.tuple #[]) /\
     ((w.setCell ⟨g,0,none⟩ (.int .u64 (v+x*2^n:Nat))).setCell ⟨g,1,none⟩ (.int .i64 (n+k:Nat))).drew=w':=by
 have e1:bits .or .u64 (v:Int) (IntKind.u64.wrap ((x:Int)*2^n))=((v+x*2^n:Nat):Int):=by
   have hp:2^n<=2^7:=Nat.pow_le_pow_right (by omega) h1;have hk:2^k<=2^32:=Nat.pow_le_pow_right (by omega) h3;have hxn:x*2^n<2^32*2^7:=Nat.lt_of_lt_of_le (Nat.mul_lt_mul_of_pos_right hx (Nat.two_pow_pos n)) (Nat.mul_le_mul hk hp);rw [IntKind.wrap_u64,show((x:Int)*2^n)=((x*2^n:Nat):Int) by simp,show((x*2^n:Nat):Int)%18446744073709551616=((x*2^n:Nat):Int) by omega];rw [u64_or_nat _ _ (by omega) (by omega),Nat.or_comm,nat_join n _ _ (by simp) hvn,Nat.add_comm]
 have E1:=hd_ e1;clear e1;have HX:=hd_ hx;clear hx hvn;go_enter func145,ntmps145;go_wp2;go_region;(all_goals go_wp2);(all_goals go_end0);(all_goals refine⟨rfl,?_⟩);(all_goals rw [E1.out];rfl)
theorem Q32 (g:Nat) (n:Nat) (w:World) (hn:w.cell? ⟨g,1,none⟩=some (.int .i64 n)) (h:n<8) :
   Calls prog 146 #[.pointer (some ⟨g,0,none⟩)] w λe w'=>e = .returned (.tuple #[.int .u8 0,.bool false])/\w=w':=by
 go_enter func146,ntmps146;go_wp2;go_ret2;exact⟨rfl,rfl⟩
theorem Q1S (g:Nat) (v n:Nat) (w:World) (hv:w.cell? ⟨g,0,none⟩=some (.int .u64 v)) (hn:w.cell? ⟨g,1,none⟩=some (.int .i64 n)) (h:8<=n) (h':n<=100)
   (f0:w.frozen? ⟨g,0,none⟩=false) (f1:w.frozen? ⟨g,1,none⟩=false) :
   Calls prog 146 #[.pointer (some ⟨g,0,none⟩)] w λe w'=>e = .returned (.tuple #[.int .u8 (v%256:Nat),.bool true]) /\
     (w.setCell ⟨g,0,none⟩ (.int .u64 (v / 256:Nat))).setCell ⟨g,1,none⟩ (.int .i64 (n-8:Nat))=w':=by
 go_enter func146,ntmps146;go_wp2;go_ret2;exact⟨rfl,by rw [show((n-8:Nat):Int)=(n:Int)-8 by omega];rfl⟩
def QN (w:World) (S:Nat->Prop) (g:Nat) (l:List Bool):Prop :=
  ∃(v n:Nat) (sv:Value) (bs:List Nat),Blk w g 124 #[.int .u64 v,.int .i64 n,sv]/\Own w 5 sv (bs.map λb=>.int .u8 (b:Nat))/\n<8/\v<2^n /\
    (∀b∈bs,b<256)/\l=Qf bs++Qr n v/\S g/\∀k,sv.ownBlock=some k->S k
def Q71 (w:World) (S:Nat->Prop) (g:Nat) (l:List Bool) (n:Nat):Prop :=
  ∃(v:Nat) (sv:Value) (bs:List Nat),Blk w g 124 #[.int .u64 v,.int .i64 n,sv]/\Own w 5 sv (bs.map λb=>.int .u8 (b:Nat))/\v<2^n /\
    (∀b∈bs,b<256)/\l=Qf bs++Qr n v/\S g/\∀k,sv.ownBlock=some k->S k
theorem Q8Q {x n:Nat} (j gk:Nat) (hgk:gk<=32) (hx:x<2^n) (hn:n<=32) (_:j<=n) :
   bits .and .u64 ((x:Int) / 2^j) (IntKind.u64.wrap (IntKind.u64.wrap (2^gk)-1))=((x / 2^j%2^gk:Nat):Int):=by
 have h1:2^gk<=2^32:=Nat.pow_le_pow_right (by omega) hgk;have h2:2^n<=2^32:=Nat.pow_le_pow_right (by omega) hn;have h3:=Nat.two_pow_pos gk
 have e1:IntKind.u64.wrap (IntKind.u64.wrap (2^gk)-1)=((2^gk-1:Nat):Int):=by
   rw [IntKind.wrap_u64,IntKind.wrap_u64,show(2:Int)^gk=((2^gk:Nat):Int) by simp];omega
 have h4:x / 2^j<=x:=Nat.div_le_self _ _;rw [e1,show(x:Int) / 2^j=((x / 2^j:Nat):Int) by simp,u64_and_nat _ _ (by omega) (by omega),Nat.and_two_pow_sub_one_eq_mod]
theorem Qac (S:Nat->Prop) (g:Nat) (x n:Nat) (l:List Bool) (w:World) (hw:QN w S g l) (hn:n<=32) (hx:x<2^n) (hl:l.length<=2^30) (hS:∀k,w.heap.size<=k->S k) :
   Calls prog 89 #[.pointer (some ⟨g,0,none⟩),.int .u64 x,.int .i64 n] w λe w'=>e = .returned (.int .i64 0) /\
     Upd S w w'/\QN w' S g (l++Qr n x):=by
 have t1:((x:Int) / 2^n != 0)=false:=by
   (have:((x:Int) / 2^n)=((x / 2^n:Nat):Int):=by simp);rw [this,Nat.div_eq_of_lt hx];rfl
 have HX:=hd_ hx;clear hx;go_enter func89,ntmps89;go_wp2_with fail;go_loopg [1,2] n (λm v1 v2 wr=>∃j,j+m=n/\v1 = .int .u64 (x / 2^j:Nat)/\v2 = .int .i64 m/\Upd S w wr/\QN wr S g (l++Qr j x))
 case atStart=>exact⟨0,by omega,by simp,rfl,Upd.refl _ _,by simpa [Qr]using hw⟩
 case round =>
   obtain⟨j,hj,rfl,rfl,hu,v,n0,sv,bs,hb,ho,hn0,hv0,hbs,hlb,hSg,hSs⟩:=hrel;have hc0:=hb.cell 0;have hc1:=hb.cell 1;have hc2:=hb.cell 2;have HB:=hd_ hb;simp at hc0 hc1 hc2;clear hb;(have hgk:gk<=32:=by omega);have HJ:=hd_ hj;have HL:=hd_ hlb;clear hj hlb;by_cases hg0:0<gk
   . go_wp2_with fail
     go_still_tail 9,(by kernel_rfl);change wpList _ _ _ _ _ wr.drew;go_wp2_with fail;rw [Q8Q _ _ hgk HX.out hn (by have:=HJ.out;omega)];refine(Q8P g v (x / 2^j%2^gk) n0 gk wr.drew hc0 hc1 (by omega) hgk (Nat.mod_lt _ (Nat.two_pow_pos _)) hv0 (by simpa using HB.frozen 0) (by simpa using HB.frozen 1)).mono ?_;rintro e w2 ⟨rfl,hw2⟩
     have r0:Q71 w2 S g (l++Qr (j+gk) x) (n0+gk):=by
       subst hw2;refine⟨_,sv,bs,((HB.drew.set_ 0 _).set_ 1 _).drew,((ho.drew.far (by simpa using ho.ne_blk HB.out (by decide)) _).far (by simpa using ho.ne_blk HB.out (by decide)) _).drew,?_,hbs,?_,hSg,hSs⟩
       . have h1:=Nat.mod_lt (x / 2^j) (Nat.two_pow_pos gk)
         rw [Nat.pow_add]
         calc v+x / 2^j%2^gk*2^n0<2^n0+x / 2^j%2^gk*2^n0:=by omega
           _=(x / 2^j%2^gk+1)*2^n0:=by rw [Nat.add_mul];omega
           _<=2^gk*2^n0:=Nat.mul_le_mul_right _ h1
           _=2^n0*2^gk:=Nat.mul_comm _ _
       rw [Kv j gk x,<-List.append_assoc,HL.out,List.append_assoc,<-XP gk,Q3k hv0,Nat.mul_comm (2^n0)]
     have u0:Upd S w w2:=by
       subst hw2;exact((hu.drew.setCell (λ_=>hSg) _).setCell (λ_=>hSg) _).drew
     clear hw2 ho hc0 hc1 hc2 HB hu HL hv0 hSs hbs bs sv;obtain⟨k0,rfl⟩:∃k0,k0=gk:=⟨gk,rfl⟩;obtain⟨wo,rfl⟩:=nm_ (wr);go_wp2_with fail;(have hlen:(l++Qr (j+k0) x).length<=2^31:=by have:=HJ.out;simp;omega);go_loopg [] (n0+k0) (λm wr=>Upd S w wr/\Q71 wr S g (l++Qr (j+k0) x) m/\m<=39)
     case atStart=>exact⟨u0,r0,by omega⟩
     case round =>
       obtain⟨hu,⟨v,sv,bs,hb,ho,hv0,hbs,hlb,hSg,hSs⟩,hm⟩:=hrel;have hc0:=hb.cell 0;have hc1:=hb.cell 1;have hc2:=hb.cell 2;have HB:=hd_ hb;simp at hc0 hc1 hc2;clear hb;have HL:=hd_ hlb;clear hlb;by_cases hm8:gk<8
       . go_wp2_with (go_at_call 146;refine(Q32 g gk wr hc1 hm8).mono ?_;rintro e w' ⟨rfl,rfl⟩)
         go_roundg 0
         case measure=>omega
         case rel=>exact⟨j+k0,by have:=HJ.out;omega,by simp [Nat.pow_add,<-Nat.div_div_eq_div_mul],by simp,hu,v,gk,sv,bs,HB.out,ho,hm8,hv0,hbs,HL.out,hSg,hSs⟩
       go_wp2_with fail;refine(Q1S g v gk wr hc0 hc1 (by omega) (by omega) (HB.frozen 0) (HB.frozen 1)).mono ?_;rintro e w3 ⟨rfl,hw3⟩
       have b3:Blk w3 g 124 #[.int .u64 (v / 256:Nat),.int .i64 (gk-8:Nat),sv]:=by
         subst hw3;exact(HB.set_ 0 _).set_ 1 _
       have o3:Own w3 5 sv (bs.map λb=>.int .u8 (b:Nat)):=by
         subst hw3;exact(ho.far (by simpa using ho.ne_blk HB.out (by decide)) _).far (by simpa using ho.ne_blk HB.out (by decide)) _
       have u3:Upd S w w3:=by
         subst hw3;exact(hu.setCell (λ_=>hSg) _).setCell (λ_=>hSg) _
       clear hw3 ho hu hc0 hc1 hc2 HB;have hc2:=b3.cell 2;have hf2:=b3.frozen 2;have B3:=hd_ b3;simp at hc2;clear b3
       have hrd:Rd (w3.alloc (.cells #[.int .u8 ((v:Int)%256)] 5)) (λb=>b=w3.heap.size) (some ⟨w3.heap.size,0,none⟩) 1 [.int .u8 ((v:Int)%256)] :=
         Rd.one _ _ _
       go_wp2_with (at_builtin;go_must (refine Qm _ rfl (.tmp 57) (.tmp 59) _ rfl 5 _ 1 underlying22 JX rfl sv _ rfl (o3.alloc _) _ _ _ _ rfl hrd (by simp [Value.oneCell']) (by omega) ?hlen ?_))
       case hlen=>have:=HL.out;have h1:=congrArg List.length this;simp at h1 hlen|-;omega
       intro v' w4 o4 hg4 hat4;obtain⟨A4,n4,c4,rfl,_⟩:=o4.form';have b4:=(B3.alloc (.cells #[.int .u8 ((v:Int)%256)] 5)).grown hg4 (o3.ne_blk B3.out (by decide));have u4:Upd S w w4:=(u3.alloc _).grown hg4 λk hk _=>hSs k hk
       have S4:∀k,(Value.slice A4 n4 c4).ownBlock=some k->S k:=by
         intro k hk;rcases hat4 with e|e
         . exact hSs k (e ▸ hk)
         rw [e]at hk;injection hk with hk;subst hk;exact hS _ (by have:=u3.size;simp;omega)
       have hc2:=b4.cell 2;have hf2:=b4.frozen 2;have B4:=hd_ b4;simp at hc2;have HS4:=hd_ S4;have HO4:=hd_ o4;clear b4 B3 o3 u3 hrd hg4 hat4 S4 o4;go_wp2;go_roundg (gk-8)
       case measure=>omega
       case rel =>
         refine⟨u4.setCell (λ_=>hSg) _,⟨v / 256,_,bs++[v%256],(B4.set_ 2 _),?_,?_,?_,?_,hSg,HS4.out⟩,by omega⟩
         . have:=HO4.far (p:=⟨g,2,none⟩) (HO4.ne_blk B4.out (by decide)) (.slice A4 n4 c4)
           simpa using this
         . rw [Nat.div_lt_iff_lt_mul (by omega),show 256=2^8 from rfl,<-Nat.pow_add,show gk-8+8=gk by omega];exact hv0
         . intro b hb
           rcases List.mem_append.1 hb with h|h
           . exact hbs b h
           simp at h;omega
         rw [HL.out,Kl,List.append_assoc]
         congr 1
         have:=Kv 8 (gk-8) v;rw [show 8+(gk-8)=gk by omega]at this;rw [this,show Qr 8 v=Qf [v%256] by rw [JF,Q0Q,List.append_nil];exact(XP 8 v).symm]
   go_wp2;go_ret;(obtain rfl:gk=0:=by omega);(obtain rfl:j=n:=by have:=HJ.out;omega);exact⟨rfl,hu,v,n0,sv,bs,HB.out,ho,hn0,hv0,hbs,HL.out,hSg,hSs⟩
theorem YA {F:Nat->Prop} (A:Option Addr) (n c:Nat) (xs:List Value) (w:World) (hr:Rd w F A n xs) (h1:∀u∈xs,u.oneCell'=true) (hn:n<=2^40) :
   Calls prog 61 #[.slice A n c] w λe w'=>∃v,e = .returned v/\Own w' 5 v xs/\Q0 w w'/\∀k,v.ownBlock=some k->w.heap.size<=k:=by
 have q:∀(w:World) (a:Option Addr) (n c n' c':Nat),(binOp .eql 22 (.slice a n c) (.slice none n' c')).run prog w = .ok (.bool a.isNone) w :=
   λw a n c n' c'=>Lib.run_eql_slice_nil w _ _ a n c n' c' underlying22
 rcases A with _|ad
 . have hx:n=0:=by
     rcases Nat.eq_zero_or_pos n with h|h
     . exact h
     obtain⟨_,_,h,_⟩:=hr.2 h;cases h
   subst hx;have hxs:xs=[]:=List.eq_nil_of_length_eq_zero hr.1;subst hxs;go_enter func61,ntmps61;go_wp2;go_ret;exact⟨_,rfl,Own.nil _ _,Upd.refl _ _,by simp [Value.ownBlock]⟩
 have o0:Own (w.alloc (.cells #[] 5)) 5 (.slice (some ⟨w.heap.size,0,none⟩) 0 0) []:=World.ownsRow_made w #[] 0 (Nat.zero_le _) (by simp [maxLen]) (by simp);have hlen:n<=1099511627776:=hn;clear hn;go_enter func61,ntmps61;go_wp2_with (at_builtin;go_must (refine Qm _ rfl (.tmp 5) (.tmp 6) _ rfl 5 _ 1 underlying22 JX rfl _ _ rfl o0 _ _ _ _ rfl (hr.alloc _) h1 (by omega) (by simpa using hlen) ?_));intro v' w1 o1 g1 a1;go_wp2;go_ret;exact⟨v',rfl,by simpa using o1,((Upd.refl _ _).alloc _).grown g1 (λk hk hlt=>by simp [Value.ownBlock]at hk;omega),Yj (S:=λk=>w.heap.size<=k) a1 (λk hk=>by simp [Value.ownBlock]at hk;omega) (by simp)⟩
theorem Q72 (S:Nat->Prop) (g:Nat) (l:List Bool) (w:World) (hw:QN w S g l) (hl:l.length<=2^40) :
   Calls prog 148 #[.pointer (some ⟨g,0,none⟩)] w λe w'=>∃v,e = .returned v/\Own w' 5 v ((Yr l).map λb=>.int .u8 (b:Nat))/\Q0 w w' /\
     ∀k,v.ownBlock=some k->w.heap.size<=k:=by
 obtain⟨v,n0,sv,bs,hb,ho,hn0,hv0,hbs,hlb,hSg,hSs⟩:=hw;(have e1:Yr l=bs++Yr (Qr n0 v):=by rw [hlb,KM _ _ hbs]);(have hlen:bs.length<=2^38:=by have h2:=congrArg List.length hlb;simp at h2;omega);have E1:=hd_ e1;clear e1 hlb hl;have hc0:=hb.cell 0;have hc1:=hb.cell 1;have hc2:=hb.cell 2;have HB:=hd_ hb;clear hb;simp at hc0 hc1 hc2;obtain⟨A,c,rfl,hn,hr⟩:=ho.form;have HL:=hd_ hlen;clear hlen;simp only [List.length_map]at hc2 hr hn;go_enter func148,ntmps148;go_wp2_with fail;refine(YA A _ c _ w hr (by simp [Value.oneCell']) (by have:=HL.out;omega)).mono ?_;rintro e w1 ⟨v1,rfl,o1,f1,k1⟩;obtain⟨hc0,hc1⟩:=((HB.fresh f1)).cells2;by_cases h0:0<n0
 . have hrd:Rd (w1.alloc (.cells #[.int .u8 ((v:Int)%256)] 5)) (λb=>b=w1.heap.size) (some ⟨w1.heap.size,0,none⟩) 1 [.int .u8 ((v:Int)%256)]:=Rd.one _ _ _
   go_wp2_with (at_builtin;go_must (refine Qm _ rfl (.tmp 17) (.tmp 24) _ rfl 5 _ 1 underlying22 JX rfl v1 _ rfl (o1.alloc _) _ _ _ _ rfl hrd (by simp [Value.oneCell']) (by omega) (by have:=HL.out;simp;omega) ?_));intro v' w2 o2 g2 a2;go_wp2;go_ret;refine⟨v',rfl,?_,(f1.alloc _).grown g2 (λk hk hlt=>by have:=k1 k hk;omega),Yj (S:=λk=>w.heap.size<=k) a2 k1 (by have:=f1.size;simp;omega)⟩;rw [E1.out,Q0w _ (by simpa using h0) (by simp;omega),Jn,Nat.mod_eq_of_lt hv0];have:v<2^8:=Nat.lt_of_lt_of_le hv0 (Nat.pow_le_pow_right (by omega) (by omega));rw [show((v:Int)%256)=(v:Int) by omega]at o2;simpa using o2
 go_wp2;go_ret;(obtain rfl:n0=0:=by omega);exact⟨v1,rfl,by rw [E1.out];simpa [Qr,Q2h]using o1,f1,k1⟩
def Qa (er:Int):Ending:=.panicked [{ v:=.iface 24 (.int .i64 er),recovered:=false }]
theorem Q0R (er:Int) (w:World):Calls prog 144 #[.bool true,.int .i64 er] w λe w'=>e = .returned (.tuple #[])/\w'=w:=by
 refine Q8 λR hR=>?_;go_enter func144,ntmps144;go_wp2_with fail;(try go_end0);exact hR _ _ ⟨rfl,rfl⟩
theorem X6 (er:Int) (w:World):Calls prog 144 #[.bool false,.int .i64 er] w λe w'=>e=Qa er/\w'=w:=by
 refine Q8 λR hR=>?_;go_enter func144,ntmps144;go_wp2_with fail;exact⟨rfl,hR _ _ ⟨rfl,rfl⟩⟩
theorem KN (b c:Nat) (w:World) (h:w.cell? ⟨b,0,none⟩=some (.int .i64 0)):Calls prog 88 #[.slice (some ⟨b,0,none⟩) 1 c] w λe w'=>e = .returned (.tuple #[])/\w'=w:=by
 refine Q8 λR hR=>?_;go_enter func88,ntmps88;go_wp2_with fail;go_loopg [6] 1 (λf vi wr=>∃k:Nat,k+f=1/\vi = .int .i64 k/\wr=w)
 case atStart=>exact⟨0,rfl,rfl,rfl⟩
 case round =>
   obtain⟨k,hk,rfl,rfl⟩:=hrel;rcases(show k=0\/k=1 by omega)with rfl|rfl
   . go_wp2_with fail
     go_roundg 0
     case measure=>omega
     case rel=>exact⟨1,rfl,by go_num,rfl⟩
   go_wp2_with fail;(try go_end0);exact hR _ _ ⟨rfl,rfl⟩
theorem Q1e (er:Int) (b c:Nat) (w:World) (h:w.cell? ⟨b,0,none⟩=some (.int .i64 er)) (her:er≠0):Calls prog 88 #[.slice (some ⟨b,0,none⟩) 1 c] w λe w'=>e=Qa er/\w'=w:=by
 (have h0:(er == 0)=false:=by simpa using her);clear her;refine Q8 λR hR=>?_;go_enter func88,ntmps88;go_wp2_with fail;go_loopg [6] 1 (λf vi wr=>f=1/\vi = .int .i64 0/\wr=w)
 case atStart=>exact⟨rfl,rfl,rfl⟩
 case round =>
   obtain⟨rfl,rfl,rfl⟩:=hrel;go_wp2_with fail;exact⟨rfl,hR _ _ ⟨rfl,rfl⟩⟩
theorem XR (er:Int) (w:World):Calls prog 43 #[.bool true,.int .i64 er] w λe w'=>e = .returned (.tuple #[])/\w'=w:=by
 refine Q8 λR hR=>?_;go_enter func43,ntmps43;go_wp2_with fail;(try go_end0);exact hR _ _ ⟨rfl,rfl⟩
theorem Vs (er:Int) (w:World):Calls prog 43 #[.bool false,.int .i64 er] w λe w'=>e=Qa er/\w'=w:=by
 refine Q8 λR hR=>?_;go_enter func43,ntmps43;go_wp2_with fail;exact⟨rfl,hR _ _ ⟨rfl,rfl⟩⟩
theorem Yv (b c:Nat) (w:World) (h:w.cell? ⟨b,0,none⟩=some (.int .i64 0)):Calls prog 49 #[.slice (some ⟨b,0,none⟩) 1 c] w λe w'=>e = .returned (.tuple #[])/\w'=w:=by
 refine Q8 λR hR=>?_;go_enter func49,ntmps49;go_wp2_with fail;go_loopg [6] 1 (λf vi wr=>∃k:Nat,k+f=1/\vi = .int .i64 k/\wr=w)
 case atStart=>exact⟨0,rfl,rfl,rfl⟩
 case round =>
   obtain⟨k,hk,rfl,rfl⟩:=hrel;rcases(show k=0\/k=1 by omega)with rfl|rfl
   . go_wp2_with fail
     go_roundg 0
     case measure=>omega
     case rel=>exact⟨1,rfl,by go_num,rfl⟩
   go_wp2_with fail;(try go_end0);exact hR _ _ ⟨rfl,rfl⟩
theorem Je (er:Int) (b c:Nat) (w:World) (h:w.cell? ⟨b,0,none⟩=some (.int .i64 er)) (her:er≠0):Calls prog 49 #[.slice (some ⟨b,0,none⟩) 1 c] w λe w'=>e=Qa er/\w'=w:=by
 (have h0:(er == 0)=false:=by simpa using her);clear her;refine Q8 λR hR=>?_;go_enter func49,ntmps49;go_wp2_with fail;go_loopg [6] 1 (λf vi wr=>f=1/\vi = .int .i64 0/\wr=w)
 case atStart=>exact⟨rfl,rfl,rfl⟩
 case round =>
   obtain⟨rfl,rfl,rfl⟩:=hrel;go_wp2_with fail;exact⟨rfl,hR _ _ ⟨rfl,rfl⟩⟩
theorem Q5s (w:World) :
   Calls prog 229 #[] w λe w'=>e = .returned (.tuple #[])/\Upd (λb=>False) w w'/\True:=by
 refine Q8 λR hR=>?_;go_enter func229,ntmps229;go_wp2_with fail;(try go_end0);exact hR _ _ ⟨rfl,Upd.refl _ _,trivial⟩
theorem Q5t (a0:Nat) (v00:Value) (w:World) (h0:Blk w a0 119 #[v00])  :
   Calls prog 194 #[.pointer (some ⟨a0,0,none⟩)] w λe w'=>e = .returned (.tuple #[])/\Upd (λb=>b=a0) w w'/\Blk w' a0 119 #[.slice none 0 0]:=by
 have c00:=h0.cell 0;have z00:=h0.frozen 0;simp at c00;have H0:=hd_ h0;clear h0;refine Q8 λR hR=>?_;go_enter func194,ntmps194;go_wp2_with fail;(try go_end0);refine hR.out _ _ ⟨rfl,?_,?_⟩
 . exact((Upd.refl (λb=>b=a0) _).setCell (p:=⟨a0,0,none⟩) (λ_=>rfl) _)
 have:=(H0.set_ 0 (.slice none 0 0));simpa using this
theorem Q8R (a0:Nat) (v00:Value) (w:World) (h0:Blk w a0 3 #[v00])  :
   Calls prog 199 #[.pointer (some ⟨a0,0,none⟩)] w λe w'=>e = .returned (.tuple #[])/\Upd (λb=>b=a0) w w'/\Blk w' a0 3 #[.int .i64 0]:=by
 have c00:=h0.cell 0;have z00:=h0.frozen 0;simp at c00;have H0:=hd_ h0;clear h0;refine Q8 λR hR=>?_;go_enter func199,ntmps199;go_wp2_with fail;(try go_end0);refine hR.out _ _ ⟨rfl,?_,?_⟩
 . exact((Upd.refl (λb=>b=a0) _).setCell (p:=⟨a0,0,none⟩) (λ_=>rfl) _)
 have:=(H0.set_ 0 (.int .i64 0));simpa using this
theorem Q8S (a0:Nat) (v00:Value) (w:World) (h0:Blk w a0 22 #[v00])  :
   Calls prog 85 #[.pointer (some ⟨a0,0,none⟩)] w λe w'=>e = .returned (.tuple #[])/\Upd (λb=>b=a0) w w'/\Blk w' a0 22 #[.slice none 0 0]:=by
 have c00:=h0.cell 0;have z00:=h0.frozen 0;simp at c00;have H0:=hd_ h0;clear h0;refine Q8 λR hR=>?_;go_enter func85,ntmps85;go_wp2_with fail;(try go_end0);refine hR.out _ _ ⟨rfl,?_,?_⟩
 . exact((Upd.refl (λb=>b=a0) _).setCell (p:=⟨a0,0,none⟩) (λ_=>rfl) _)
 have:=(H0.set_ 0 (.slice none 0 0));simpa using this
theorem Q8T (a0:Nat) (v00:Value) (w:World) (h0:Blk w a0 3 #[v00])  :
   Calls prog 149 #[.pointer (some ⟨a0,0,none⟩)] w λe w'=>e = .returned (.tuple #[])/\Upd (λb=>b=a0) w w'/\Blk w' a0 3 #[.int .i64 0]:=by
 have c00:=h0.cell 0;have z00:=h0.frozen 0;simp at c00;have H0:=hd_ h0;clear h0;refine Q8 λR hR=>?_;go_enter func149,ntmps149;go_wp2_with fail;(try go_end0);refine hR.out _ _ ⟨rfl,?_,?_⟩
 . exact((Upd.refl (λb=>b=a0) _).setCell (p:=⟨a0,0,none⟩) (λ_=>rfl) _)
 have:=(H0.set_ 0 (.int .i64 0));simpa using this
theorem Q8U (a0:Nat) (v00:Value) (w:World) (h0:Blk w a0 22 #[v00])  :
   Calls prog 93 #[.pointer (some ⟨a0,0,none⟩)] w λe w'=>e = .returned (.tuple #[])/\Upd (λb=>b=a0) w w'/\Blk w' a0 22 #[.slice none 0 0]:=by
 have c00:=h0.cell 0;have z00:=h0.frozen 0;simp at c00;have H0:=hd_ h0;clear h0;refine Q8 λR hR=>?_;go_enter func93,ntmps93;go_wp2_with fail;(try go_end0);refine hR.out _ _ ⟨rfl,?_,?_⟩
 . exact((Upd.refl (λb=>b=a0) _).setCell (p:=⟨a0,0,none⟩) (λ_=>rfl) _)
 have:=(H0.set_ 0 (.slice none 0 0));simpa using this
theorem Q8V (a0:Nat) (v00:Value) (w:World) (h0:Blk w a0 22 #[v00])  :
   Calls prog 42 #[.pointer (some ⟨a0,0,none⟩)] w λe w'=>e = .returned (.tuple #[])/\Upd (λb=>b=a0) w w'/\Blk w' a0 22 #[.slice none 0 0]:=by
 have c00:=h0.cell 0;have z00:=h0.frozen 0;simp at c00;have H0:=hd_ h0;clear h0;refine Q8 λR hR=>?_;go_enter func42,ntmps42;go_wp2_with fail;(try go_end0);refine hR.out _ _ ⟨rfl,?_,?_⟩
 . exact((Upd.refl (λb=>b=a0) _).setCell (p:=⟨a0,0,none⟩) (λ_=>rfl) _)
 have:=(H0.set_ 0 (.slice none 0 0));simpa using this
theorem Q3n (a0:Nat) (v00:Value) (w:World) (h0:Blk w a0 22 #[v00])  :
   Calls prog 46 #[.pointer (some ⟨a0,0,none⟩)] w λe w'=>e = .returned (.tuple #[])/\Upd (λb=>b=a0) w w'/\Blk w' a0 22 #[.slice none 0 0]:=by
 have c00:=h0.cell 0;have z00:=h0.frozen 0;simp at c00;have H0:=hd_ h0;clear h0;refine Q8 λR hR=>?_;go_enter func46,ntmps46;go_wp2_with fail;(try go_end0);refine hR.out _ _ ⟨rfl,?_,?_⟩
 . exact((Upd.refl (λb=>b=a0) _).setCell (p:=⟨a0,0,none⟩) (λ_=>rfl) _)
 have:=(H0.set_ 0 (.slice none 0 0));simpa using this
theorem Q8W (a0:Nat) (v00:Value) (w:World) (h0:Blk w a0 22 #[v00])  :
   Calls prog 47 #[.pointer (some ⟨a0,0,none⟩)] w λe w'=>e = .returned (.tuple #[])/\Upd (λb=>b=a0) w w'/\Blk w' a0 22 #[.slice none 0 0]:=by
 have c00:=h0.cell 0;have z00:=h0.frozen 0;simp at c00;have H0:=hd_ h0;clear h0;refine Q8 λR hR=>?_;go_enter func47,ntmps47;go_wp2_with fail;(try go_end0);refine hR.out _ _ ⟨rfl,?_,?_⟩
 . exact((Upd.refl (λb=>b=a0) _).setCell (p:=⟨a0,0,none⟩) (λ_=>rfl) _)
 have:=(H0.set_ 0 (.slice none 0 0));simpa using this
theorem Q0S (a0 a1:Nat) (v00 v10:Value) (w:World) (h0:Blk w a0 22 #[v00]) (h1:Blk w a1 33 #[v10]) (n01:a0≠a1) :
   Calls prog 66 #[.pointer (some ⟨a0,0,none⟩),.pointer (some ⟨a1,0,none⟩)] w λe w'=>e = .returned (.tuple #[])/\Upd (λb=>b=a0\/b=a1) w w'/\Blk w' a0 22 #[.slice none 0 0]/\Blk w' a1 33 #[.slice none 0 0]:=by
 have c00:=h0.cell 0;have z00:=h0.frozen 0;simp at c00;have H0:=hd_ h0;have c10:=h1.cell 0;have z10:=h1.frozen 0;simp at c10;have H1:=hd_ h1;have m01:=Ne.symm n01;clear h0 h1;refine Q8 λR hR=>?_;go_enter func66,ntmps66;go_wp2_with fail;(try go_end0);refine hR.out _ _ ⟨rfl,?_,?_,?_⟩
 . exact(((Upd.refl (λb=>b=a0\/b=a1) _).setCell (p:=⟨a0,0,none⟩) (λ_=>.inl rfl) _).setCell (p:=⟨a1,0,none⟩) (λ_=>.inr rfl) _)
 . have:=((H0.set_ 0 (.slice none 0 0)).far (p:=⟨a1,0,none⟩) n01 (.slice none 0 0))
   simpa using this
 have:=((H1.far (p:=⟨a0,0,none⟩) m01 (.slice none 0 0)).set_ 0 (.slice none 0 0));simpa using this
theorem Q73 (a0:Nat) (v00 v01 v02:Value) (w:World) (h0:Blk w a0 41 #[v00,v01,v02])  :
   Calls prog 64 #[.pointer (some ⟨a0,0,none⟩)] w λe w'=>e = .returned (.tuple #[])/\Upd (λb=>b=a0) w w'/\Blk w' a0 41 #[.int .i64 0,.bool false,.int .i64 0]:=by
 have c00:=h0.cell 0;have z00:=h0.frozen 0;have c01:=h0.cell 1;have z01:=h0.frozen 1;have c02:=h0.cell 2;have z02:=h0.frozen 2;simp at c00 c01 c02;have H0:=hd_ h0;clear h0;refine Q8 λR hR=>?_;go_enter func64,ntmps64;go_wp2_with fail;(try go_end0);refine hR.out _ _ ⟨rfl,?_,?_⟩
 . exact((((Upd.refl (λb=>b=a0) _).setCell (p:=⟨a0,0,none⟩) (λ_=>rfl) _).setCell (p:=⟨a0,1,none⟩) (λ_=>rfl) _).setCell (p:=⟨a0,2,none⟩) (λ_=>rfl) _)
 have:=(((H0.set_ 0 (.int .i64 0)).set_ 1 (.bool false)).set_ 2 (.int .i64 0));simpa using this
variable (P:Program)
theorem XH (w:World) (k:Nat) (dT sT ty elem:TypeId) (g o dLen dCap:Nat) (a:Addr) (sLen sCap:Nat) (cur:Array Value) (t:TypeId) (cs:List Value)
   (hu:P.underlying dT=some (.slice elem)) (hs:(P.info? elem).map (·.size)=some k)
   (hg:w.heap[g]?=some (.cells cur t (0,0))) (hn:cs.length=Nat.min sLen dLen*k)
   (hsrc:∀j v,cs[j]?=some v->w.cell? (a.add j)=some v) (hfit:o+cs.length<=cur.size) (h1:∀v∈cs,v.oneCell'=true) :
   (Builtin.copy_ #[dT,sT] ty #[.slice (some ⟨g,o,none⟩) dLen dCap,.slice (some a) sLen sCap]).run P w =
     .ok (goInt (Nat.min sLen dLen)) (w.setRow g (cur.toList.take o++(cs++cur.toList.drop (o+cs.length))).toArray):=by
 have hl:=run_loadCells_list (P:=P) w a cs hsrc;have hst:=run_storeCells_at P g o t cs 0 cur w hg (by simpa using hfit) h1
 cases hq:P.info? elem with
 | none=>simp [hq]at hs
 | some i =>
   (have hi:i.size=k:=by simpa [hq]using hs);simp [Builtin.copy_,run_underlying hu,Builtin.lenOf,Builtin.firstCells,sizeOf,typeInfo,hq,hi,<-hn,hl,hst]
theorem ZD {P:Program} {w:World} {ops:Array Oper} {rest:List Oper} {o:Oper} {a:Act} {Q:Exit->Act->World->Prop} (hgd:o.guard=none) (k:Nat) (d s:Operand) (dT sT:TypeId)
   (ho:o.op = .call { callee:=.builtin .copy,args:=#[d,s],argTypes:=#[dT,sT] }) (elem:TypeId) (hu:P.underlying dT=some (.slice elem)) (hsz:(P.info? elem).map (·.size)=some k)
   (g off dLen dCap:Nat) (ad:Addr) (sLen sCap:Nat) (hd:a.eval d = .slice (some ⟨g,off,none⟩) dLen dCap) (hs:a.eval s = .slice (some ad) sLen sCap)
   (cur:Array Value) (t:TypeId) (hg:w.heap[g]?=some (.cells cur t (0,0))) (cs:List Value) (hn:cs.length=Nat.min sLen dLen*k)
   (hsrc:∀j v,cs[j]?=some v->w.cell? (ad.add j)=some v) (hfit:off+cs.length<=cur.size) (h1:∀v∈cs,v.oneCell'=true)
   (h:wpList P ops Q rest (a.put o.dst (goInt (Nat.min sLen dLen))) (w.setRow g (cur.toList.take off++(cs++cur.toList.drop (off+cs.length))).toArray)):wpList P ops Q (o::rest) a w:=by
 refine wpList_plain hgd λK hK=>?_;have hrun:=XH P w k dT sT o.type elem g off dLen dCap ad sLen sCap cur t cs hu hsz hg hn hsrc hfit h1;unfold Oper.wp;simp [execOp,ho,resolve,invoke,builtin,hd,hs,hrun,Result.andThen];exact hK _ _ h
theorem Vf {P:Program} {o:Oper} {a:Act} {w:World} {K:Act->World->Prop} {Q:Exit->Act->World->Prop} (k:Nat) (d s:Operand) (dT sT:TypeId)
   (ho:o.op = .call { callee:=.builtin .copy,args:=#[d,s],argTypes:=#[dT,sT] }) (elem:TypeId) (hu:P.underlying dT=some (.slice elem)) (hsz:(P.info? elem).map (·.size)=some k)
   (g off dLen dCap:Nat) (ad:Addr) (sLen sCap:Nat) (hd:a.eval d = .slice (some ⟨g,off,none⟩) dLen dCap) (hs:a.eval s = .slice (some ad) sLen sCap)
   (cur:Array Value) (t:TypeId) (hg:w.heap[g]?=some (.cells cur t (0,0))) (cs:List Value) (m:Nat) (hm:m=Nat.min sLen dLen) (hn:cs.length=m*k)
   (hsrc:∀j v,cs[j]?=some v->w.cell? (ad.add j)=some v) (hfit:off+cs.length<=cur.size) (h1:∀v∈cs,v.oneCell'=true)
   (h:K (a.put o.dst (goInt m)) (w.setRow g (cur.toList.take off++(cs++cur.toList.drop (off+cs.length))).toArray)):Oper.wp P o a w K Q:=by
 subst hm;have hrun:=XH P w k dT sT o.type elem g off dLen dCap ad sLen sCap cur t cs hu hsz hg hn hsrc hfit h1;unfold Oper.wp;simp [execOp,ho,resolve,invoke,builtin,hd,hs,hrun,Result.andThen];exact h
theorem YB {W:World} {H:Nat} {t:TypeId} {a b c:Value} (h:Blk W H t #[a,b,c]) (x y z:Value):Blk (((W.setCell ⟨H,0,none⟩ x).setCell ⟨H,1,none⟩ y).setCell ⟨H,2,none⟩ z) H t #[x,y,z]:=by
 have:=((h.set_ 0 x).set_ 1 y).set_ 2 z;simpa using this
theorem YC (W:World) (H:Nat) (x y z:Value):Upd (λb=>b=H) W (((W.setCell ⟨H,0,none⟩ x).setCell ⟨H,1,none⟩ y).setCell ⟨H,2,none⟩ z) :=
 ((((Upd.refl (λb=>b=H) W).setCell (p:=⟨H,0,none⟩) (λ_=>rfl) _).setCell (p:=⟨H,1,none⟩) (λ_=>rfl) _).setCell (p:=⟨H,2,none⟩) (λ_=>rfl) _)
end Go.Proofs.YtckjdhaflokcgaaGreat
