/-
  Joined texts, part 3: contracts and plain lemmas.
  Conditions: none beyond those of each theorem.
-/
import Derived.WalkSpells
import Derived.WalkLawsBesides
import Derived.BigQuiet
import Derived.Deep.AppendLies
import Derived.StillTailTactics
import Derived.Deep.RegionHeld3
import Derived.Deep.RegionLaw
import Derived.Deep.CutBlock
import Derived.Deep.DeepCutAuto
set_option linter.unusedVariables false
set_option linter.unusedSimpArgs false
set_option maxRecDepth 100000
universe u
namespace Go.Proofs.YtjfdaphjijfieaaGreat
open Go.RowKit
theorem hd_ {p:Prop} (h:p):Hid p:=h
theorem nm_ {α : Sort u} (x : α) : ∃y, y = x := ⟨x, rfl⟩
theorem Q6 {P:Program} {f:FuncId} {args:Array Value} {w:World} {R:Ending->World->Prop} (h:∀K:Ending->World->Prop,Hid (∀e w',R e w'->K e w')->Calls P f args w K):Calls P f args w R:=h R fun _ _ x=>x
structure Upd (S:Nat->Prop) (w w':World):Prop where
  os:w'.os=w.os
  tape:w'.tape=w.tape
  output:w'.output=w.output
  size:w.heap.size<=w'.heap.size
  block:∀k,k<w.heap.size->¬S k->w'.heap[k]?=w.heap[k]?
abbrev Q0 (w w':World):Prop:=Upd (fun _=>False) w w'
section
variable {S T:Nat->Prop} {w w' w'':World}
theorem Upd.refl (S:Nat->Prop) (w:World):Upd S w w:=⟨rfl,rfl,rfl,Nat.le_refl _,fun _ _ _=>rfl⟩
theorem Upd.trans (h:Upd S w w') (k:Upd T w' w'') (hs:∀b,b<w.heap.size->T b->S b):Upd S w w'' :=
 ⟨k.os.trans h.os,k.tape.trans h.tape,k.output.trans h.output,Nat.le_trans h.size k.size,
   fun i hi hn=>(k.block i (Nat.lt_of_lt_of_le hi h.size) (fun ht=>hn (hs i hi ht))).trans (h.block i hi hn)⟩
theorem Upd.trans' (h:Upd S w w') (k:Upd S w' w''):Upd S w w'':=h.trans k fun _ _ h=>h
theorem Upd.mono (h:Upd S w w') (hs:∀b,b<w.heap.size->S b->T b):Upd T w w' :=
 ⟨h.os,h.tape,h.output,h.size,fun i hi hn=>h.block i hi fun hx=>hn (hs i hi hx)⟩
theorem Upd.drew (h:Upd S w w'):Upd S w w'.drew:=⟨h.os,h.tape,h.output,h.size,h.block⟩
theorem Upd.drewN (h:Upd S w w') (n:Nat):Upd S w (w'.drewN n):=⟨h.os,h.tape,h.output,h.size,h.block⟩
theorem Upd.alloc (h:Upd S w w') (o:Obj):Upd S w (w'.alloc o) :=
 ⟨h.os,h.tape,h.output,by have:=h.size;simp;omega,fun k hk hn=>(Below.heap_alloc w' o k (Nat.lt_of_lt_of_le hk h.size)).trans (h.block k hk hn)⟩
theorem Upd.setCell (h:Upd S w w') {p:Addr} (hp:p.block<w.heap.size->S p.block) (u:Value):Upd S w (w'.setCell p u) :=
 ⟨h.os,h.tape,h.output,by have:=h.size;simpa using this,fun k hk hn=>by
   rw [Below.heap_setCell _ _ _ _ (fun e=>hn (by subst e;exact hp hk))];exact h.block k hk hn⟩
theorem Upd.grown {row:Option Nat} (h:Upd S w w') (hg:w'.grownBy w'' row) (hr:∀k,row=some k->k<w.heap.size->S k):Upd S w w'' :=
 h.trans (T:=fun k=>some k=row) ⟨hg.os,hg.tape,hg.output,hg.size,fun k hk hn=>hg.block k hk hn⟩ fun b hb hb'=>hr b hb'.symm hb
theorem Upd.below {B:Nat} (h:Upd S w w') (hs:∀b,b<w.heap.size->S b->B<=b) (hB:B<=w.heap.size):Below B w w' :=
 ⟨h.os,h.tape,h.output,h.size,fun k hk=>h.block k (by omega) fun hx=>by have:=hs k (by omega) hx;omega⟩
theorem Q0.below (h:Q0 w w'):Below w.heap.size w w':=Upd.below h (fun _ _ h=>h.elim) (Nat.le_refl _)
theorem Upd.of_below (h:Below w.heap.size w w'):Upd S w w':=⟨h.os,h.tape,h.output,h.size,fun k hk _=>h.block k hk⟩
theorem Upd.cell (h:Upd S w w') {p:Addr} (hp:p.block<w.heap.size) (hn:¬S p.block):w'.cell? p=w.cell? p:=World.cell?_of_block (h.block _ hp hn)
theorem Upd.frozen (h:Upd S w w') {p:Addr} (hp:p.block<w.heap.size) (hn:¬S p.block):w'.frozen? p=w.frozen? p:=World.frozen?_of_block (h.block _ hp hn)
theorem Q0.cells (h:Q0 w w'):∀b o,b<w.heap.size->w'.cell? ⟨b,o,none⟩=w.cell? ⟨b,o,none⟩:=fun _ _ hb=>Upd.cell h (p:=⟨_,_,none⟩) hb (fun h=>h)
end
def Blk (w:World) (g:Nat) (t:TypeId) (cs:Array Value):Prop:=w.heap[g]?=some (.cells cs t (0,0))
section
variable {S:Nat->Prop} {w w':World} {g:Nat} {t:TypeId} {cs:Array Value}
theorem Blk.lt (h:Blk w g t cs):g<w.heap.size:=by
 rcases Nat.lt_or_ge g w.heap.size with hlt|hge
 . exact hlt
 unfold Blk at h;rw [Array.getElem?_eq_none hge]at h;cases h
theorem Blk.cell (h:Blk w g t cs) (i:Nat):w.cell? ⟨g,i,none⟩=cs[i]?:=cell_of_row w g i cs t (0,0) h
theorem Blk.cell0 {v:Value} (h:Blk w g t #[v]):w.cell? ⟨g,0,none⟩=some v:=h.cell 0
theorem Blk.frozen (h:Blk w g t cs) (i:Nat):w.frozen? ⟨g,i,none⟩=false:=by unfold Blk at h;simp [World.frozen?,h]
theorem Blk.cells2 {w : World} {g : Nat} {t : TypeId} {a b : Value} {r : List Value} (q : Blk w g t (a::b::r).toArray) : w.cell? ⟨g, 0, none⟩ = some a /\ w.cell? ⟨g, 1, none⟩ = some b := ⟨by simpa using q.cell 0, by simpa using q.cell 1⟩
theorem Blk.cells3 {w : World} {g : Nat} {t : TypeId} {a b c : Value} {r : List Value} (q : Blk w g t (a::b::c::r).toArray) : w.cell? ⟨g, 0, none⟩ = some a /\ w.cell? ⟨g, 1, none⟩ = some b /\ w.cell? ⟨g, 2, none⟩ = some c := ⟨by simpa using q.cell 0, by simpa using q.cell 1, by simpa using q.cell 2⟩
theorem Blk.cells6 {w : World} {g : Nat} {t : TypeId} {a b c d e f : Value} {r : List Value} (q : Blk w g t (a::b::c::d::e::f::r).toArray) : w.cell? ⟨g, 0, none⟩ = some a /\ w.cell? ⟨g, 1, none⟩ = some b /\ w.cell? ⟨g, 2, none⟩ = some c /\ w.cell? ⟨g, 3, none⟩ = some d /\ w.cell? ⟨g, 4, none⟩ = some e /\ w.cell? ⟨g, 5, none⟩ = some f := ⟨by simpa using q.cell 0, by simpa using q.cell 1, by simpa using q.cell 2, by simpa using q.cell 3, by simpa using q.cell 4, by simpa using q.cell 5⟩
theorem Blk.cells10 {w : World} {g : Nat} {t : TypeId} {a b c d e f h i j k : Value} {r : List Value} (q : Blk w g t (a::b::c::d::e::f::h::i::j::k::r).toArray) : w.cell? ⟨g, 0, none⟩ = some a /\ w.cell? ⟨g, 1, none⟩ = some b /\ w.cell? ⟨g, 2, none⟩ = some c /\ w.cell? ⟨g, 3, none⟩ = some d /\ w.cell? ⟨g, 4, none⟩ = some e /\ w.cell? ⟨g, 5, none⟩ = some f /\ w.cell? ⟨g, 6, none⟩ = some h /\ w.cell? ⟨g, 7, none⟩ = some i /\ w.cell? ⟨g, 8, none⟩ = some j /\ w.cell? ⟨g, 9, none⟩ = some k := ⟨by simpa using q.cell 0, by simpa using q.cell 1, by simpa using q.cell 2, by simpa using q.cell 3, by simpa using q.cell 4, by simpa using q.cell 5, by simpa using q.cell 6, by simpa using q.cell 7, by simpa using q.cell 8, by simpa using q.cell 9⟩
theorem Blk.frozens10 {w : World} {g : Nat} {t : TypeId} {cs : Array Value} (q : Blk w g t cs) : w.frozen? ⟨g, 0, none⟩ = false /\ w.frozen? ⟨g, 1, none⟩ = false /\ w.frozen? ⟨g, 2, none⟩ = false /\ w.frozen? ⟨g, 3, none⟩ = false /\ w.frozen? ⟨g, 4, none⟩ = false /\ w.frozen? ⟨g, 5, none⟩ = false /\ w.frozen? ⟨g, 6, none⟩ = false /\ w.frozen? ⟨g, 7, none⟩ = false /\ w.frozen? ⟨g, 8, none⟩ = false /\ w.frozen? ⟨g, 9, none⟩ = false := ⟨q.frozen 0, q.frozen 1, q.frozen 2, q.frozen 3, q.frozen 4, q.frozen 5, q.frozen 6, q.frozen 7, q.frozen 8, q.frozen 9⟩
theorem Blk.new (w:World) (t:TypeId) (cs:Array Value):Blk (w.alloc (.cells cs t)) w.heap.size t cs:=heap_alloc_new w _
theorem Q2 {k:Nat} (h:k=w.heap.size) (t:TypeId) (cs:Array Value):Blk (w.alloc (.cells cs t)) k t cs:=h ▸ Blk.new w t cs
theorem Blk.drew (h:Blk w g t cs):Blk w.drew g t cs:=h
theorem Blk.drewN (h:Blk w g t cs) (n:Nat):Blk (w.drewN n) g t cs:=h
theorem Blk.alloc (h:Blk w g t cs) (o:Obj):Blk (w.alloc o) g t cs:=(Below.heap_alloc w o g h.lt).trans h
theorem Blk.set_ (h:Blk w g t cs) (i:Nat) (u:Value):Blk (w.setCell ⟨g,i,none⟩ u) g t (cs.setIfInBounds i u):=by
 unfold Blk at h ⊢;simp [World.setCell,Array.getElem?_modify,h]
theorem Blk.far (h:Blk w g t cs) {p:Addr} (hp:g≠p.block) (u:Value):Blk (w.setCell p u) g t cs:=(Below.heap_setCell w p u g hp).trans h
theorem Blk.upd (h:Blk w g t cs) (hu:Upd S w w') (hn:¬S g):Blk w' g t cs:=(hu.block g h.lt hn).trans h
theorem Blk.fresh (h:Blk w g t cs) (hu:Q0 w w'):Blk w' g t cs:=h.upd hu fun h=>h
theorem Blk.grown {row:Option Nat} (h:Blk w g t cs) (hb:w.grownBy w' row) (hg:row≠some g):Blk w' g t cs:=(hb.block g h.lt (fun e=>hg e.symm)).trans h
theorem Blk.ne_ {g':Nat} {t':TypeId} {cs':Array Value} (h:Blk w g t cs) (h':Blk w g' t' cs') (hne:t≠t'):g≠g':=by
 rintro rfl;unfold Blk at h h';rw [h]at h';injection h' with h';injection h' with _ ht;exact hne ht
end
def Rd (w:World) (F:Nat->Prop) (A:Option Addr) (n:Nat) (xs:List Value):Prop :=
  xs.length=n/\(0<n->∃b o,A=some ⟨b,o,none⟩/\F b/\b<w.heap.size/\∀j,j<n->w.cell? ⟨b,o+j,none⟩=xs[j]?)
section
variable {S F G:Nat->Prop} {w w':World} {A:Option Addr} {n:Nat} {xs:List Value}
theorem Rd.nil (w:World) (F:Nat->Prop) (A:Option Addr):Rd w F A 0 []:=⟨rfl,fun h=>absurd h (by omega)⟩
theorem Rd.at_ {k:Nat} (h:Rd w F A n xs) (hk:k<n):∃b o,A=some ⟨b,o,none⟩/\F b/\b<w.heap.size/\w.cell? ⟨b,o+k,none⟩=xs[k]?:=by
 obtain⟨b,o,e,hf,hb,hc⟩:=h.2 (by omega);exact⟨b,o,e,hf,hb,hc k hk⟩
theorem Rd.old (h:Rd w F A n xs):Rd w (fun b=>b<w.heap.size) A n xs :=
 ⟨h.1,fun hn=>by obtain⟨b,o,e,hf,hb,hc⟩:=h.2 hn;exact⟨b,o,e,hb,hb,hc⟩⟩
theorem Rd.both (h:Rd w F A n xs):Rd w (fun b=>F b/\b<w.heap.size) A n xs :=
 ⟨h.1,fun hn=>by obtain⟨b,o,e,hf,hb,hc⟩:=h.2 hn;exact⟨b,o,e,⟨hf,hb⟩,hb,hc⟩⟩
theorem Rd.mono (h:Rd w F A n xs) (hfg:∀b,F b->G b):Rd w G A n xs :=
 ⟨h.1,fun hn=>by obtain⟨b,o,e,hf,hb,hc⟩:=h.2 hn;exact⟨b,o,e,hfg b hf,hb,hc⟩⟩
theorem Rd.upd (h:Rd w F A n xs) (hu:Upd S w w') (hs:∀b,b<w.heap.size->F b->¬S b):Rd w' F A n xs :=
 ⟨h.1,fun hn=>by
   obtain⟨b,o,e,hf,hb,hc⟩:=h.2 hn
   exact⟨b,o,e,hf,Nat.lt_of_lt_of_le hb hu.size,fun j hj=>(hu.cell (p:=⟨b,o+j,none⟩) hb (hs b hb hf)).trans (hc j hj)⟩⟩
theorem Rd.fresh (h:Rd w F A n xs) (hu:Q0 w w'):Rd w' F A n xs:=h.upd hu fun _ _ _ h=>h
theorem Rd.drew (h:Rd w F A n xs):Rd w.drew F A n xs:=h
theorem Rd.drewN (h:Rd w F A n xs) (k:Nat):Rd (w.drewN k) F A n xs:=h
theorem Rd.alloc (h:Rd w F A n xs) (o:Obj):Rd (w.alloc o) F A n xs:=h.fresh ((Upd.refl _ _).alloc o)
theorem Rd.cut (h:Rd w F A n xs) {k cap:Nat} (hk:k<=n) (hc:n<=cap):Rd w F (if cap=k then A else A.map (·.add k)) (n-k) (xs.drop k):=by
 refine⟨by rw [List.length_drop,h.1],fun hn=>?_⟩;obtain⟨b,o,rfl,hf,hb,hcell⟩:=h.2 (by omega);rw [if_neg (by omega)];refine⟨b,o+k,by simp only [Option.map_some,Addr.add];split<;>simp_all,hf,hb,fun j hj=>?_⟩;rw [List.getElem?_drop,<-hcell (k+j) (by omega),Nat.add_assoc]
theorem Rd.take (h:Rd w F A n xs) {k:Nat} (hk:k<=n):Rd w F A k (xs.take k):=by
 refine⟨by rw [List.length_take,h.1];omega,fun hn=>?_⟩;obtain⟨b,o,rfl,hf,hb,hcell⟩:=h.2 (by omega);refine⟨b,o,rfl,hf,hb,fun j hj=>?_⟩;rw [hcell j (by omega),List.getElem?_take,if_pos hj]
end
theorem Rd.one (w:World) (e:TypeId) (u:Value):Rd (w.alloc (.cells #[u] e)) (fun b=>b=w.heap.size) (some ⟨w.heap.size,0,none⟩) 1 [u] :=
 ⟨rfl,fun _=>⟨w.heap.size,0,rfl,rfl,by simp,fun j hj=>by(obtain rfl:j=0:=by omega);simp⟩⟩
def Own (w:World) (e:TypeId) (v:Value) (xs:List Value):Prop:=w.ownsRow 0 e 1 v xs.length xs
section
variable {S F:Nat->Prop} {w w':World} {e:TypeId} {v:Value} {xs:List Value}
theorem Own.nil (w:World) (e:TypeId):Own w e (.slice none 0 0) []:=World.ownsRow_nil w 0 e 1
theorem Own.form (h:Own w e v xs):∃A c,v = .slice A xs.length c/\xs.length<=c/\Rd w (fun b=>v.ownBlock=some b) A xs.length xs:=by
 rcases h.2 with ⟨rfl,h0⟩|⟨g,cap,cur,rfl,_,hg,hn,hm,hc,ht⟩
 . have:xs=[]:=List.eq_nil_of_length_eq_zero h0
   subst this;exact⟨none,0,rfl,Nat.le_refl _,Rd.nil _ _ _⟩
 refine⟨some ⟨g,0,none⟩,cap,rfl,hn,rfl,fun _=>⟨g,0,rfl,rfl,(Array.getElem?_eq_some_iff.1 hg).1,fun j hj=>?_⟩⟩;rw [cell_of_row w g (0+j) cur e (0,0) hg,<-ht,List.getElem?_take,if_pos (by omega)];simp
theorem Own.form' (h:Own w e v xs):∃A n c,v = .slice A n c/\Hid (n=xs.length):=by
 obtain⟨A,c,h1,_⟩:=h.form;exact⟨A,_,c,h1,rfl⟩
theorem Own.lt (h:Own w e v xs) {k:Nat} (hk:v.ownBlock=some k):k<w.heap.size:=(World.ownsRow.lt h k hk).2
theorem Own.upd (h:Own w e v xs) (hu:Upd S w w') (hs:∀b,v.ownBlock=some b->¬S b):Own w' e v xs:=by
 refine⟨h.1,?_⟩;rcases h.2 with hn|⟨g,cap,cur,rfl,hb,hgg,rest⟩
 . exact .inl hn
 refine .inr ⟨g,cap,cur,rfl,hb,?_,rest⟩;rw [hu.block g (Array.getElem?_eq_some_iff.1 hgg).1 (hs g rfl)];exact hgg
theorem Own.fresh (h:Own w e v xs) (hu:Q0 w w'):Own w' e v xs:=h.upd hu fun _ _ h=>h
theorem Own.drew (h:Own w e v xs):Own w.drew e v xs:=h
theorem Own.alloc (h:Own w e v xs) (o:Obj):Own (w.alloc o) e v xs:=h.fresh ((Upd.refl _ _).alloc o)
theorem Own.ne_blk {g:Nat} {t:TypeId} {cs:Array Value} (h:Own w e v xs) (hg:Blk w g t cs) (hne:e≠t):v.ownBlock≠some g:=by
 rcases h.2 with ⟨rfl,_⟩|⟨g',cap,cur,rfl,_,hh,_⟩
 . simp [Value.ownBlock]
 intro he;(have:g'=g:=by simpa [Value.ownBlock]using he);subst this;exact Blk.ne_ (t:=e) hh hg hne rfl
theorem Own.far (h:Own w e v xs) {p:Addr} (hp:v.ownBlock≠some p.block) (u:Value):Own (w.setCell p u) e v xs :=
 h.upd (S:=fun b=>b=p.block) ((Upd.refl (fun b=>b=p.block) w).setCell (p:=p) (fun _=>rfl) u) fun b hb e=>hp (by rw [hb,e])
theorem Own.rd (h:Own w e v xs) {A:Option Addr} {n c:Nat} (hv:v = .slice A n c):n=xs.length/\xs.length<=c/\Rd w (fun b=>v.ownBlock=some b) A xs.length xs:=by
 obtain⟨A',c',hv',hc,hr⟩:=h.form;rw [hv]at hv';injection hv' with h1 h2 h3;subst h1 h2 h3;exact⟨rfl,hc,hr⟩
end
section
variable {P:Program} (w:World)
theorem Q5O {F:Nat->Prop} (t ty e:TypeId) (z:Value) (Qi:Nat) (ht:P.underlying t=some (.slice e)) (hi:(P.info? e).map (fun i=>(i.zero,i.size,i.bytes))=some (some z,1,Qi)) (hzs:z.cells.size=1)
   (v:Value) (xs:List Value) (hown:Own w e v xs) (A:Option Addr) (m c:Nat) (news:List Value) (hr:Rd w F A m news) (h1:∀u∈news,u.oneCell'=true)
   (hb:Qi<=64) (hlen:xs.length+m<=2^40) :
   ∃v' w',(Builtin.append_ #[t,t] ty #[v,.slice A m c]).run P w = .ok v' w'/\Own w' e v' (xs++news)/\w.grownBy w' v.ownBlock /\
     (v'.ownBlock=v.ownBlock\/v'.ownBlock=some w.heap.size):=by
 obtain⟨i,hi0,hz,hsize,hby⟩:=info_parts hi;have hm:=hr.1;(have h63:xs.length+m<=maxLen:=by simp only [maxLen];omega)
 have hbytes:(xs.length+m)*Qi<=140737488355328:=by
   calc (xs.length+m)*Qi<=2^40*64:=Nat.mul_le_mul hlen hb
     _<=140737488355328:=by decide
 rcases Nat.eq_zero_or_pos m with h0|h0
 . subst h0
   have hn:news=[]:=List.eq_nil_of_length_eq_zero hm;subst hn;rcases A with _|ad
   . refine⟨v,w,?_,by simpa using hown,World.grownBy.refl w _,.inl rfl⟩
     rcases hown.2 with ⟨rfl,h00⟩|⟨g,cap,cur,rfl,_,_,hnc,_⟩
     . simp [Builtin.append_,run_underlying ht,sizeOf,typeInfo,hi0,Builtin.lenOf,Builtin.firstCells]
     simp [Builtin.append_,run_underlying ht,sizeOf,typeInfo,hi0,Builtin.lenOf,Builtin.firstCells,hnc,storeCells]
   obtain⟨v',w',hrun,h2,h3,_,h5⟩:=run_append_own_at (P:=P) w 0 t ty e i z 1 Qi ht hi0 hz hsize hby hzs (by omega) v xs.length xs hown ad 0 c [] (by simp) (by simp) h1 h63 hbytes (Nat.zero_le _);exact⟨v',w',hrun,by simpa [Own]using h2,h3,h5⟩
 obtain⟨b,o,rfl,_,_,hc⟩:=hr.2 h0
 obtain⟨v',w',hrun,h2,h3,_,h5⟩:=run_append_own_at (P:=P) w 0 t ty e i z 1 Qi ht hi0 hz hsize hby hzs (by omega) v xs.length xs hown ⟨b,o,none⟩ m c news (by omega)
   (fun j u hu=>by
     (have hj:j<m:=by have:=(List.getElem?_eq_some_iff.1 hu).1;omega)
     rw [Addr.add_lit,hc j hj,hu]) h1 h63 hbytes (Nat.zero_le _)
 exact⟨v',w',hrun,by unfold Own;rw [List.length_append,hm];exact h2,h3,h5⟩
theorem X5 {F:Nat->Prop} {o:Oper} {a:Act} {K:Act->World->Prop} {Q:Exit->Act->World->Prop} (s x:Operand) (t:TypeId)
   (ho:o.op = .call { callee:=.builtin .append,args:=#[s,x],argTypes:=#[t,t] })
   (e:TypeId) (z:Value) (Qi:Nat) (ht:P.underlying t=some (.slice e)) (hi:(P.info? e).map (fun i=>(i.zero,i.size,i.bytes))=some (some z,1,Qi)) (hzs:z.cells.size=1)
   (v:Value) (xs:List Value) (hs:a.eval s=v) (hown:Own w e v xs) (A:Option Addr) (m c:Nat) (news:List Value) (hx:a.eval x = .slice A m c) (hr:Rd w F A m news) (h1:∀u∈news,u.oneCell'=true)
   (hb:Qi<=64) (hlen:xs.length+m<=2^40)
   (h:∀v' w',Own w' e v' (xs++news)->w.grownBy w' v.ownBlock->(v'.ownBlock=v.ownBlock\/v'.ownBlock=some w.heap.size)->K (a.put o.dst v') w'):o.wp P a w K Q:=by
 obtain⟨v',w',hrun,h2,h3,h4⟩:=Q5O (P:=P) w t o.type e z Qi ht hi hzs v xs hown A m c news hr h1 hb hlen;unfold Oper.wp execOp;simp only [ho,resolve,invoke,builtin,Sem.run_bind,Sem.run_pure,Result.andThen_ok,List.map_toArray,List.map_cons,List.map_nil,hs,hx,hrun];exact h v' w' h2 h3 h4
theorem Q4b {F:Nat->Prop} {ops:Array Oper} {o:Oper} {a:Act} {K:Act->World->Prop} {Q:Exit->Act->World->Prop} {E:Prop} (hgd:o.guard=none) (s x:Operand) (t:TypeId)
   (ho:o.op = .call { callee:=.builtin .append,args:=#[s,x],argTypes:=#[t,t] })
   (e:TypeId) (z:Value) (Qi:Nat) (ht:P.underlying t=some (.slice e)) (hi:(P.info? e).map (fun i=>(i.zero,i.size,i.bytes))=some (some z,1,Qi)) (hzs:z.cells.size=1)
   (v:Value) (xs:List Value) (hs:a.eval s=v) (hown:Own w e v xs) (A:Option Addr) (m c:Nat) (news:List Value) (hx:a.eval x = .slice A m c) (hr:Rd w F A m news) (h1:∀u∈news,u.oneCell'=true)
   (hb:Qi<=64) (hlen:xs.length+m<=2^40)
   (h:∀v' w',Own w' e v' (xs++news)->w.grownBy w' v.ownBlock->(v'.ownBlock=v.ownBlock\/v'.ownBlock=some w.heap.size)->K (a.put o.dst v') w') :
   if Region.wanted o (yielded ops a.tmps)=true then Oper.wp P o a w K Q else E:=by
 (have hw:Region.wanted o (yielded ops a.tmps)=true:=by simp [Region.wanted,hgd]);rw [if_pos hw];exact X5 w s x t ho e z Qi ht hi hzs v xs hs hown A m c news hx hr h1 hb hlen h
theorem Yl {F:Nat->Prop} {ops:Array Oper} {rest:List Oper} {o:Oper} {a:Act} {Q:Exit->Act->World->Prop} (hgd:o.guard=none) (s x:Operand) (t:TypeId)
   (ho:o.op = .call { callee:=.builtin .append,args:=#[s,x],argTypes:=#[t,t] })
   (e:TypeId) (z:Value) (Qi:Nat) (ht:P.underlying t=some (.slice e)) (hi:(P.info? e).map (fun i=>(i.zero,i.size,i.bytes))=some (some z,1,Qi)) (hzs:z.cells.size=1)
   (v:Value) (xs:List Value) (hs:a.eval s=v) (hown:Own w e v xs) (A:Option Addr) (m c:Nat) (news:List Value) (hx:a.eval x = .slice A m c) (hr:Rd w F A m news) (h1:∀u∈news,u.oneCell'=true)
   (hb:Qi<=64) (hlen:xs.length+m<=2^40)
   (h:∀v' w',Own w' e v' (xs++news)->w.grownBy w' v.ownBlock->(v'.ownBlock=v.ownBlock\/v'.ownBlock=some w.heap.size)->wpList P ops Q rest (a.put o.dst v') w'):wpList P ops Q (o::rest) a w :=
 wpList_plain hgd fun _ hK=>X5 w s x t ho e z Qi ht hi hzs v xs hs hown A m c news hx hr h1 hb hlen fun v' w' h2 h3 h4=>hK _ _ (h v' w' h2 h3 h4)
end
theorem Zb {S:Nat->Prop} {v v':Value} {k0:Nat} (h:v'.ownBlock=v.ownBlock\/v'.ownBlock=some k0) (hv:∀k,v.ownBlock=some k->S k) (hk:S k0):∀k,v'.ownBlock=some k->S k:=by
 intro k h';rcases h with e|e
 . exact hv k (e ▸ h')
 rw [e]at h';injection h' with h';exact h' ▸ hk
section
variable {P:Program}
theorem ZP (w:World) (b off:Nat) (ty:TypeId) (cs:List Value) (d:TypeDesc) (hc:∀j u,cs[j]?=some u->w.cell? ⟨b,off+j,none⟩=some u)
   (hu:P.underlying ty=some d) (hd:(match d with | .struct _ | .array _ _=>true|_=>false)=true) (hi:(P.info? ty).map (·.size)=some cs.length) :
   (loadVar ty ⟨b,off,none⟩).run P w = .ok (.agg cs.toArray) w:=by
 have hl:(loadCells ⟨b,off,none⟩ cs.length).run P w = .ok cs.toArray w :=
   run_loadCells_list (P:=P) w ⟨b,off,none⟩ cs (fun j v hv=>by rw [Addr.add_lit];exact hc j v hv)
 cases hq:P.info? ty with
 | none=>simp [hq]at hi
 | some i =>
   (have hs:i.size=cs.length:=by simpa [hq]using hi)
   have hagg:(isAgg ty).run P w = .ok true w:=by
     unfold isAgg;rw [Sem.run_bind,run_underlying hu w];(cases d<;>simp_all)
   simp [loadVar,Sem.run_bind,hagg,sizeOf,typeInfo,hq,hs,hl]
theorem YK {ops:Array Oper} {rest:List Oper} {o:Oper} {a:Act} {w:World} {Q:Exit->Act->World->Prop} (hgd:o.guard=none) (ty:TypeId) (x:Operand) (ho:o.op = .load ty x)
   (b off:Nat) (hx:a.eval x = .pointer (some ⟨b,off,none⟩)) (cs:List Value) (d:TypeDesc) (hc:∀j u,cs[j]?=some u->w.cell? ⟨b,off+j,none⟩=some u)
   (hu:P.underlying ty=some d) (hd:(match d with | .struct _ | .array _ _=>true|_=>false)=true) (hi:(P.info? ty).map (·.size)=some cs.length)
   (h:wpList P ops Q rest (a.put o.dst (.agg cs.toArray)) w):wpList P ops Q (o::rest) a w :=
 wpList_plain hgd fun _ hK=>by
   unfold Oper.wp execOp
   simp only [ho,hx,Instr.loadAt,Instr.sureAddr,Sem.run_bind,Sem.run_pure,Result.andThen_ok,ZP w b off ty cs d hc hu hd hi]
   exact hK _ _ h
theorem Blk.cells {w:World} {g:Nat} {t:TypeId} {cs:Array Value} (h:Blk w g t cs):∀j x,cs.toList[j]?=some x->w.cell? ⟨g,0+j,none⟩=some x:=by
 intro j x hx;rw [h.cell];simpa using hx
end
theorem Blk.rds {w:World} {g:Nat} {t:TypeId} {cs:Array Value} (h:Blk w g t cs):Rd w (fun _=>True) (some ⟨g,0,none⟩) cs.size cs.toList :=
 ⟨by simp,fun _=>⟨g,0,rfl,trivial,h.lt,fun j hj=>by rw [Nat.zero_add,h.cell];simp⟩⟩
theorem Q0P {k:Nat}:∀ {rows:List (List Value)} (j r:Nat),(∀x∈rows,x.length=k)->r<k->(h:j<rows.length)->rows.flatten[j*k+r]?=rows[j][r]?
 | x::l,0,r,h,hr,_=>by
   have hx:x.length=k:=h x (by simp)
   rw [List.flatten_cons,Nat.zero_mul,Nat.zero_add,List.getElem?_append_left (by omega)];rfl
 | x::l,j+1,r,h,hr,hj=>by
   have hx:x.length=k:=h x (by simp)
   have e:(j+1)*k+r-x.length=j*k+r:=by rw [hx,Nat.add_mul];omega
   have hle:x.length<=(j+1)*k+r:=by rw [hx,Nat.add_mul];omega
   rw [List.flatten_cons,List.getElem?_append_right hle,e,Q0P j r (fun y hy=>h y (List.mem_cons_of_mem _ hy)) hr (by simpa using hj)]
   rfl
def RdK (w:World) (F:Nat->Prop) (k:Nat) (A:Option Addr) (n:Nat) (rows:List (List Value)):Prop :=
  rows.length=n/\(0<n->∃b o,A=some ⟨b,o,none⟩/\F b/\b<w.heap.size/\∀(j r:Nat) (h:j<rows.length),r<k->w.cell? ⟨b,o+j*k+r,none⟩=rows[j][r]?)
def QA (w:World) (e:TypeId) (k:Nat) (v:Value) (rows:List (List Value)):Prop:=w.ownsRow 0 e k v rows.length rows.flatten/\∀r∈rows,r.length=k
section
variable {S F G:Nat->Prop} {w w':World} {e:TypeId} {k:Nat} {v:Value} {A:Option Addr} {n:Nat} {rows:List (List Value)}
theorem RdK.nil (w:World) (F:Nat->Prop) (k:Nat) (A:Option Addr):RdK w F k A 0 []:=⟨rfl,fun h=>absurd h (by omega)⟩
theorem RdK.mono (h:RdK w F k A n rows) (hfg:∀b,F b->G b):RdK w G k A n rows :=
 ⟨h.1,fun hn=>by obtain⟨b,o,h1,h2,h3⟩:=h.2 hn;exact⟨b,o,h1,hfg b h2,h3⟩⟩
theorem RdK.both (h:RdK w F k A n rows):RdK w (fun b=>F b/\b<w.heap.size) k A n rows :=
 ⟨h.1,fun hn=>by obtain⟨b,o,h1,h2,h3,h4⟩:=h.2 hn;exact⟨b,o,h1,⟨h2,h3⟩,h3,h4⟩⟩
theorem RdK.upd (h:RdK w F k A n rows) (hu:Upd S w w') (hs:∀b,b<w.heap.size->F b->¬S b):RdK w' F k A n rows :=
 ⟨h.1,fun hn=>by
   obtain⟨b,o,h1,h2,h3,h4⟩:=h.2 hn
   refine⟨b,o,h1,h2,Nat.lt_of_lt_of_le h3 hu.size,fun j r hj hr=>?_⟩
   rw [<-h4 j r hj hr]
   exact World.cell?_of_block (a:=⟨b,o+j*k+r,none⟩) (hu.block b h3 (hs b h3 h2))⟩
theorem RdK.fresh (h:RdK w F k A n rows) (hu:Q0 w w'):RdK w' F k A n rows:=h.upd hu fun _ _ _ h=>h
theorem RdK.at_ {j r:Nat} (h:RdK w F k A n rows) (hj:j<n):∃b o,A=some ⟨b,o,none⟩/\F b/\b<w.heap.size/\∀(r:Nat),r<k->w.cell? ⟨b,o+j*k+r,none⟩=(rows[j]'(by rw [h.1];exact hj))[r]?:=by
 obtain⟨b,o,h1,h2,h3,h4⟩:=h.2 (by omega);exact⟨b,o,h1,h2,h3,fun r hr=>h4 j r _ hr⟩
theorem QA.nil (w:World) (e:TypeId) (k:Nat):QA w e k (.slice none 0 0) []:=⟨World.ownsRow_nil w 0 e k,fun r h=>by simp at h⟩
theorem QA.upd (h:QA w e k v rows) (hu:Upd S w w') (hs:∀b,v.ownBlock=some b->¬S b):QA w' e k v rows:=by
 refine⟨⟨h.1.1,?_⟩,h.2⟩;rcases h.1.2 with hn|⟨g,cap,cur,rfl,hb,hgg,rest⟩
 . exact .inl hn
 refine .inr ⟨g,cap,cur,rfl,hb,?_,rest⟩;rw [hu.block g (Array.getElem?_eq_some_iff.1 hgg).1 (hs g rfl)];exact hgg
theorem QA.fresh (h:QA w e k v rows) (hu:Q0 w w'):QA w' e k v rows:=h.upd hu fun _ _ h=>h
theorem QA.alloc (h:QA w e k v rows) (o:Obj):QA (w.alloc o) e k v rows:=h.fresh ((Upd.refl _ _).alloc o)
theorem QA.drewN (h:QA w e k v rows) (m:Nat):QA (w.drewN m) e k v rows:=h
theorem QA.lt (h:QA w e k v rows) {b:Nat} (hb:v.ownBlock=some b):b<w.heap.size:=(World.ownsRow.lt h.1 b hb).2
theorem QA.form (h:QA w e k v rows):∃A c,v = .slice A rows.length c/\rows.length<=c/\RdK w (fun b=>v.ownBlock=some b) k A rows.length rows:=by
 rcases h.1.2 with ⟨rfl,h0⟩|⟨g,cap,cur,rfl,_,hg,hn,hm,hc,ht⟩
 . have:rows=[]:=List.eq_nil_of_length_eq_zero h0
   subst this;exact⟨none,0,rfl,Nat.le_refl _,RdK.nil _ _ _ _⟩
 refine⟨some ⟨g,0,none⟩,cap,rfl,hn,rfl,fun _=>⟨g,0,rfl,rfl,(Array.getElem?_eq_some_iff.1 hg).1,fun j r hj hr=>?_⟩⟩
 have hlt:j*k+r<rows.length*k:=by
   have h1:(j+1)*k<=rows.length*k:=Nat.mul_le_mul_right k (by omega);rw [Nat.add_mul]at h1;omega
 rw [cell_of_row w g _ cur e (0,0) hg,<-Q0P j r h.2 hr hj,<-ht,List.getElem?_take,if_pos (by omega),Nat.zero_add];simp
theorem QA.form' (h:QA w e k v rows):∃A n c,v = .slice A n c/\Hid (n=rows.length):=by
 obtain⟨A,c,h1,_⟩:=h.form;exact⟨A,_,c,h1,rfl⟩
theorem QA.rd (h:QA w e k v rows) {A:Option Addr} {n c:Nat} (hv:v = .slice A n c):n=rows.length/\rows.length<=c/\RdK w (fun b=>v.ownBlock=some b) k A rows.length rows:=by
 obtain⟨A',c',hv',hc,hr⟩:=h.form;rw [hv]at hv';injection hv' with h1 h2 h3;subst h1 h2 h3;exact⟨rfl,hc,hr⟩
end
section
variable {P:Program} (w:World)
theorem J5 {ops:Array Oper} {rest:List Oper} {o:Oper} {a:Act} {Q:Exit->Act->World->Prop} (hgd:o.guard=none) (s x:Operand) (t:TypeId)
   (ho:o.op = .call { callee:=.builtin .append,args:=#[s,x],argTypes:=#[t,t] }) (e:TypeId) (z:Value) (k Qi:Nat) (ht:P.underlying t=some (.slice e)) (hi:(P.info? e).map (fun i=>(i.zero,i.size,i.bytes))=some (some z,k,Qi)) (hzs:z.cells.size=k) (hk:0<k) (hby:Qi<=1024)
   (v:Value) (rows:List (List Value)) (hs:a.eval s=v) (hown:QA w e k v rows) (kb cap:Nat) (row:List Value) (hrow:row.length=k) (h1:∀u∈row,u.oneCell'=true) (hx:a.eval x = .slice (some ⟨kb,0,none⟩) 1 cap) (hb:Blk w kb e row.toArray) (hlen:rows.length<=2^30)
   (h:∀g cap w',QA w' e k (.slice (some ⟨g,0,none⟩) (rows.length+1) cap) (rows++[row])->w.grownBy w' v.ownBlock->(v.ownBlock=some g\/g=w.heap.size)->g<w'.heap.size->wpList P ops Q rest (a.put o.dst (.slice (some ⟨g,0,none⟩) (rows.length+1) cap)) w') :
   wpList P ops Q (o::rest) a w:=by
 obtain⟨i,hi0,hz,hsize,hbyt⟩:=info_parts hi
 have hcells:∀(j:Nat) u,row[j]?=some u->w.cell? ((⟨kb,0,none⟩:Addr).add j)=some u:=by
   intro j u hu;rw [Addr.add_lit,hb.cells j u (by simpa using hu)]
 have hmul:(rows.length+1)*Qi<=140737488355328:=Nat.le_trans (Nat.mul_le_mul (show rows.length+1<=2^30+1 by omega) hby) (by decide);refine wpList_append_lies w hgd s x _ ho 0 e i z k Qi ht hi0 hz hsize hbyt hzs hk v rows.length _ hs hown.1 ⟨kb,0,none⟩ 1 cap row hx (by omega) hcells h1 (by omega) (by simp only [maxLen];omega) hmul (Nat.zero_le _) _ rfl ?_;intro g cap w' h2 h3 h4 h5;refine h g cap w' ⟨?_,?_⟩ h3 h4 h5
 . rw [List.flatten_append,List.length_append]
   simpa using h2
 intro r hr;rcases List.mem_append.1 hr with hr|hr
 . exact hown.2 r hr
 rw [List.mem_singleton.1 hr];exact hrow
end
theorem YA (w:World) (H:Nat) (v0 v1 v2 v3 v4 v5 v6 v7 v8 v9:Value):Upd (fun b=>b=H) w ((((((((((w.setCell ⟨H,0,none⟩ v0).setCell ⟨H,1,none⟩ v1).setCell ⟨H,2,none⟩ v2).setCell ⟨H,3,none⟩ v3).setCell ⟨H,4,none⟩ v4).setCell ⟨H,5,none⟩ v5).setCell ⟨H,6,none⟩ v6).setCell ⟨H,7,none⟩ v7).setCell ⟨H,8,none⟩ v8).setCell ⟨H,9,none⟩ v9) :=
 (((((((((((Upd.refl (fun b=>b=H) w).setCell (p:=⟨H,0,none⟩) (fun _=>rfl) _).setCell (p:=⟨H,1,none⟩) (fun _=>rfl) _).setCell (p:=⟨H,2,none⟩) (fun _=>rfl) _).setCell (p:=⟨H,3,none⟩) (fun _=>rfl) _).setCell (p:=⟨H,4,none⟩) (fun _=>rfl) _).setCell (p:=⟨H,5,none⟩) (fun _=>rfl) _).setCell (p:=⟨H,6,none⟩) (fun _=>rfl) _).setCell (p:=⟨H,7,none⟩) (fun _=>rfl) _).setCell (p:=⟨H,8,none⟩) (fun _=>rfl) _).setCell (p:=⟨H,9,none⟩) (fun _=>rfl) _)
theorem Blk.set10 {w:World} {H:Nat} {t:TypeId} {a0 a1 a2 a3 a4 a5 a6 a7 a8 a9:Value} (h:Blk w H t #[a0,a1,a2,a3,a4,a5,a6,a7,a8,a9]) (v0 v1 v2 v3 v4 v5 v6 v7 v8 v9:Value) :
   Blk ((((((((((w.setCell ⟨H,0,none⟩ v0).setCell ⟨H,1,none⟩ v1).setCell ⟨H,2,none⟩ v2).setCell ⟨H,3,none⟩ v3).setCell ⟨H,4,none⟩ v4).setCell ⟨H,5,none⟩ v5).setCell ⟨H,6,none⟩ v6).setCell ⟨H,7,none⟩ v7).setCell ⟨H,8,none⟩ v8).setCell ⟨H,9,none⟩ v9) H t #[v0,v1,v2,v3,v4,v5,v6,v7,v8,v9]:=by
 have:=((((((((((h.set_ 0 v0).set_ 1 v1).set_ 2 v2).set_ 3 v3).set_ 4 v4).set_ 5 v5).set_ 6 v6).set_ 7 v7).set_ 8 v8).set_ 9 v9);simpa using this
end Go.Proofs.YtjfdaphjijfieaaGreat
