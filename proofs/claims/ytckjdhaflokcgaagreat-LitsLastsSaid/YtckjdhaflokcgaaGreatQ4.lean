/-
  Joined texts, part 4: contracts and plain lemmas.
  Conditions: none beyond those of each theorem.
-/
import Derived.WalkSpells
import Derived.WalkLawsBesides
import Derived.BigQuiet
import Derived.Deep.AppendLies
import Derived.StillTailTactics
import Derived.Deep.RegionHeld3
import Derived.Deep.RegionLaw
import Derived.Deep.CutBlock
import Derived.Deep.DeepCutAuto
import Derived.Test.YtckjdhaflokcgaaGreatQ1
set_option linter.unusedVariables false
set_option linter.unusedSimpArgs false
set_option linter.unnecessarySimpa false
set_option maxRecDepth 100000
universe u
namespace Go.Proofs.YtckjdhaflokcgaaGreat
open Go.RowKit
theorem hd_ {p:Prop} (h:p):Hid p:=h
theorem nm_ {α : Sort u} (x : α) : ∃y, y = x := ⟨x, rfl⟩
theorem Qg {P:Program} {f:FuncId} {args:Array Value} {w:World} {R:Ending->World->Prop} (h:∀K:Ending->World->Prop,Hid (∀e w',R e w'->K e w')->Calls P f args w K):Calls P f args w R:=h R fun _ _ x=>x
structure Upd (S:Nat->Prop) (w w':World):Prop where
  os:w'.os=w.os
  tape:w'.tape=w.tape
  output:w'.output=w.output
  size:w.heap.size<=w'.heap.size
  block:∀k,k<w.heap.size->¬S k->w'.heap[k]?=w.heap[k]?
abbrev Q0 (w w':World):Prop:=Upd (fun _=>False) w w'
section
variable {S T:Nat->Prop} {w w' w'':World}
theorem Upd.refl (S:Nat->Prop) (w:World):Upd S w w:=⟨rfl,rfl,rfl,Nat.le_refl _,fun _ _ _=>rfl⟩
theorem Upd.trans (h:Upd S w w') (k:Upd T w' w'') (hs:∀b,b<w.heap.size->T b->S b):Upd S w w'' :=
 ⟨k.os.trans h.os,k.tape.trans h.tape,k.output.trans h.output,Nat.le_trans h.size k.size,
   fun i hi hn=>(k.block i (Nat.lt_of_lt_of_le hi h.size) (fun ht=>hn (hs i hi ht))).trans (h.block i hi hn)⟩
theorem Upd.trans' (h:Upd S w w') (k:Upd S w' w''):Upd S w w'':=h.trans k fun _ _ h=>h
theorem Upd.mono (h:Upd S w w') (hs:∀b,b<w.heap.size->S b->T b):Upd T w w' :=
 ⟨h.os,h.tape,h.output,h.size,fun i hi hn=>h.block i hi fun hx=>hn (hs i hi hx)⟩
theorem Upd.drew (h:Upd S w w'):Upd S w w'.drew:=⟨h.os,h.tape,h.output,h.size,h.block⟩
theorem Upd.drewN (h:Upd S w w') (n:Nat):Upd S w (w'.drewN n):=⟨h.os,h.tape,h.output,h.size,h.block⟩
theorem Upd.alloc (h:Upd S w w') (o:Obj):Upd S w (w'.alloc o) :=
 ⟨h.os,h.tape,h.output,by have:=h.size;simp;omega,fun k hk hn=>(Below.heap_alloc w' o k (Nat.lt_of_lt_of_le hk h.size)).trans (h.block k hk hn)⟩
theorem Upd.setCell (h:Upd S w w') {p:Addr} (hp:p.block<w.heap.size->S p.block) (u:Value):Upd S w (w'.setCell p u) :=
 ⟨h.os,h.tape,h.output,by have:=h.size;simpa using this,fun k hk hn=>by
   rw [Below.heap_setCell _ _ _ _ (fun e=>hn (by subst e;exact hp hk))];exact h.block k hk hn⟩
theorem Upd.grown {row:Option Nat} (h:Upd S w w') (hg:w'.grownBy w'' row) (hr:∀k,row=some k->k<w.heap.size->S k):Upd S w w'' :=
 h.trans (T:=fun k=>some k=row) ⟨hg.os,hg.tape,hg.output,hg.size,fun k hk hn=>hg.block k hk hn⟩ fun b hb hb'=>hr b hb'.symm hb
theorem Upd.below {B:Nat} (h:Upd S w w') (hs:∀b,b<w.heap.size->S b->B<=b) (hB:B<=w.heap.size):Below B w w' :=
 ⟨h.os,h.tape,h.output,h.size,fun k hk=>h.block k (by omega) fun hx=>by have:=hs k (by omega) hx;omega⟩
theorem Q0.below (h:Q0 w w'):Below w.heap.size w w':=Upd.below h (fun _ _ h=>h.elim) (Nat.le_refl _)
theorem Upd.of_below (h:Below w.heap.size w w'):Upd S w w':=⟨h.os,h.tape,h.output,h.size,fun k hk _=>h.block k hk⟩
theorem Upd.cell (h:Upd S w w') {p:Addr} (hp:p.block<w.heap.size) (hn:¬S p.block):w'.cell? p=w.cell? p:=World.cell?_of_block (h.block _ hp hn)
theorem Q0.cells (h:Q0 w w'):∀b o,b<w.heap.size->w'.cell? ⟨b,o,none⟩=w.cell? ⟨b,o,none⟩:=fun _ _ hb=>Upd.cell h (p:=⟨_,_,none⟩) hb (fun h=>h)
end
def Blk (w:World) (g:Nat) (t:TypeId) (cs:Array Value):Prop:=w.heap[g]?=some (.cells cs t (0,0))
section
variable {S:Nat->Prop} {w w':World} {g:Nat} {t:TypeId} {cs:Array Value}
theorem Blk.lt (h:Blk w g t cs):g<w.heap.size:=by
 rcases Nat.lt_or_ge g w.heap.size with hlt|hge
 . exact hlt
 unfold Blk at h;rw [Array.getElem?_eq_none hge]at h;cases h
theorem Blk.cell (h:Blk w g t cs) (i:Nat):w.cell? ⟨g,i,none⟩=cs[i]?:=cell_of_row w g i cs t (0,0) h
theorem Blk.cell0 {v:Value} (h:Blk w g t #[v]):w.cell? ⟨g,0,none⟩=some v:=h.cell 0
theorem Blk.frozen (h:Blk w g t cs) (i:Nat):w.frozen? ⟨g,i,none⟩=false:=by unfold Blk at h;simp [World.frozen?,h]
theorem Blk.cells2 {w : World} {g : Nat} {t : TypeId} {a b : Value} {r : List Value} (q : Blk w g t (a::b::r).toArray) : w.cell? ⟨g, 0, none⟩ = some a /\ w.cell? ⟨g, 1, none⟩ = some b := ⟨by simpa using q.cell 0, by simpa using q.cell 1⟩
theorem Blk.cells3 {w : World} {g : Nat} {t : TypeId} {a b c : Value} {r : List Value} (q : Blk w g t (a::b::c::r).toArray) : w.cell? ⟨g, 0, none⟩ = some a /\ w.cell? ⟨g, 1, none⟩ = some b /\ w.cell? ⟨g, 2, none⟩ = some c := ⟨by simpa using q.cell 0, by simpa using q.cell 1, by simpa using q.cell 2⟩
theorem Blk.cells6 {w : World} {g : Nat} {t : TypeId} {a b c d e f : Value} {r : List Value} (q : Blk w g t (a::b::c::d::e::f::r).toArray) : w.cell? ⟨g, 0, none⟩ = some a /\ w.cell? ⟨g, 1, none⟩ = some b /\ w.cell? ⟨g, 2, none⟩ = some c /\ w.cell? ⟨g, 3, none⟩ = some d /\ w.cell? ⟨g, 4, none⟩ = some e /\ w.cell? ⟨g, 5, none⟩ = some f := ⟨by simpa using q.cell 0, by simpa using q.cell 1, by simpa using q.cell 2, by simpa using q.cell 3, by simpa using q.cell 4, by simpa using q.cell 5⟩
theorem Blk.cells10 {w : World} {g : Nat} {t : TypeId} {a b c d e f h i j k : Value} {r : List Value} (q : Blk w g t (a::b::c::d::e::f::h::i::j::k::r).toArray) : w.cell? ⟨g, 0, none⟩ = some a /\ w.cell? ⟨g, 1, none⟩ = some b /\ w.cell? ⟨g, 2, none⟩ = some c /\ w.cell? ⟨g, 3, none⟩ = some d /\ w.cell? ⟨g, 4, none⟩ = some e /\ w.cell? ⟨g, 5, none⟩ = some f /\ w.cell? ⟨g, 6, none⟩ = some h /\ w.cell? ⟨g, 7, none⟩ = some i /\ w.cell? ⟨g, 8, none⟩ = some j /\ w.cell? ⟨g, 9, none⟩ = some k := ⟨by simpa using q.cell 0, by simpa using q.cell 1, by simpa using q.cell 2, by simpa using q.cell 3, by simpa using q.cell 4, by simpa using q.cell 5, by simpa using q.cell 6, by simpa using q.cell 7, by simpa using q.cell 8, by simpa using q.cell 9⟩
theorem Blk.frozens10 {w : World} {g : Nat} {t : TypeId} {cs : Array Value} (q : Blk w g t cs) : w.frozen? ⟨g, 0, none⟩ = false /\ w.frozen? ⟨g, 1, none⟩ = false /\ w.frozen? ⟨g, 2, none⟩ = false /\ w.frozen? ⟨g, 3, none⟩ = false /\ w.frozen? ⟨g, 4, none⟩ = false /\ w.frozen? ⟨g, 5, none⟩ = false /\ w.frozen? ⟨g, 6, none⟩ = false /\ w.frozen? ⟨g, 7, none⟩ = false /\ w.frozen? ⟨g, 8, none⟩ = false /\ w.frozen? ⟨g, 9, none⟩ = false := ⟨q.frozen 0, q.frozen 1, q.frozen 2, q.frozen 3, q.frozen 4, q.frozen 5, q.frozen 6, q.frozen 7, q.frozen 8, q.frozen 9⟩
theorem Blk.new (w:World) (t:TypeId) (cs:Array Value):Blk (w.alloc (.cells cs t)) w.heap.size t cs:=heap_alloc_new w _
theorem Qc {k:Nat} (h:k=w.heap.size) (t:TypeId) (cs:Array Value):Blk (w.alloc (.cells cs t)) k t cs:=h ▸ Blk.new w t cs
theorem Blk.drew (h:Blk w g t cs):Blk w.drew g t cs:=h
theorem Blk.drewN (h:Blk w g t cs) (n:Nat):Blk (w.drewN n) g t cs:=h
theorem Blk.alloc (h:Blk w g t cs) (o:Obj):Blk (w.alloc o) g t cs:=(Below.heap_alloc w o g h.lt).trans h
theorem Blk.set_ (h:Blk w g t cs) (i:Nat) (u:Value):Blk (w.setCell ⟨g,i,none⟩ u) g t (cs.setIfInBounds i u):=by
 unfold Blk at h ⊢;simp [World.setCell,Array.getElem?_modify,h]
theorem Blk.far (h:Blk w g t cs) {p:Addr} (hp:g≠p.block) (u:Value):Blk (w.setCell p u) g t cs:=(Below.heap_setCell w p u g hp).trans h
theorem Blk.upd (h:Blk w g t cs) (hu:Upd S w w') (hn:¬S g):Blk w' g t cs:=(hu.block g h.lt hn).trans h
theorem Blk.fresh (h:Blk w g t cs) (hu:Q0 w w'):Blk w' g t cs:=h.upd hu fun h=>h
theorem Blk.grown {row:Option Nat} (h:Blk w g t cs) (hb:w.grownBy w' row) (hg:row≠some g):Blk w' g t cs:=(hb.block g h.lt (fun e=>hg e.symm)).trans h
theorem Blk.ne_ {g':Nat} {t':TypeId} {cs':Array Value} (h:Blk w g t cs) (h':Blk w g' t' cs') (hne:t≠t'):g≠g':=by
 rintro rfl;unfold Blk at h h';rw [h]at h';injection h' with h';injection h' with _ ht;exact hne ht
end
def Rd (w:World) (F:Nat->Prop) (A:Option Addr) (n:Nat) (xs:List Value):Prop :=
  xs.length=n/\(0<n->∃b o,A=some ⟨b,o,none⟩/\F b/\b<w.heap.size/\∀j,j<n->w.cell? ⟨b,o+j,none⟩=xs[j]?)
section
variable {S F G:Nat->Prop} {w w':World} {A:Option Addr} {n:Nat} {xs:List Value}
theorem Rd.nil (w:World) (F:Nat->Prop) (A:Option Addr):Rd w F A 0 []:=⟨rfl,fun h=>absurd h (by omega)⟩
theorem Rd.at_ {k:Nat} (h:Rd w F A n xs) (hk:k<n):∃b o,A=some ⟨b,o,none⟩/\F b/\b<w.heap.size/\w.cell? ⟨b,o+k,none⟩=xs[k]?:=by
 obtain⟨b,o,e,hf,hb,hc⟩:=h.2 (by omega);exact⟨b,o,e,hf,hb,hc k hk⟩
theorem Rd.both (h:Rd w F A n xs):Rd w (fun b=>F b/\b<w.heap.size) A n xs :=
 ⟨h.1,fun hn=>by obtain⟨b,o,e,hf,hb,hc⟩:=h.2 hn;exact⟨b,o,e,⟨hf,hb⟩,hb,hc⟩⟩
theorem Rd.mono (h:Rd w F A n xs) (hfg:∀b,F b->G b):Rd w G A n xs :=
 ⟨h.1,fun hn=>by obtain⟨b,o,e,hf,hb,hc⟩:=h.2 hn;exact⟨b,o,e,hfg b hf,hb,hc⟩⟩
theorem Rd.upd (h:Rd w F A n xs) (hu:Upd S w w') (hs:∀b,b<w.heap.size->F b->¬S b):Rd w' F A n xs :=
 ⟨h.1,fun hn=>by
   obtain⟨b,o,e,hf,hb,hc⟩:=h.2 hn
   exact⟨b,o,e,hf,Nat.lt_of_lt_of_le hb hu.size,fun j hj=>(hu.cell (p:=⟨b,o+j,none⟩) hb (hs b hb hf)).trans (hc j hj)⟩⟩
theorem Rd.fresh (h:Rd w F A n xs) (hu:Q0 w w'):Rd w' F A n xs:=h.upd hu fun _ _ _ h=>h
theorem Rd.drew (h:Rd w F A n xs):Rd w.drew F A n xs:=h
theorem Rd.drewN (h:Rd w F A n xs) (k:Nat):Rd (w.drewN k) F A n xs:=h
theorem Rd.alloc (h:Rd w F A n xs) (o:Obj):Rd (w.alloc o) F A n xs:=h.fresh ((Upd.refl _ _).alloc o)
theorem Rd.cut (h:Rd w F A n xs) {k cap:Nat} (hk:k<=n) (hc:n<=cap):Rd w F (if cap=k then A else A.map (·.add k)) (n-k) (xs.drop k):=by
 refine⟨by rw [List.length_drop,h.1],fun hn=>?_⟩;obtain⟨b,o,rfl,hf,hb,hcell⟩:=h.2 (by omega);rw [if_neg (by omega)];refine⟨b,o+k,by simp only [Option.map_some,Addr.add];split<;>simp_all,hf,hb,fun j hj=>?_⟩;rw [List.getElem?_drop,<-hcell (k+j) (by omega),Nat.add_assoc]
theorem Rd.take (h:Rd w F A n xs) {k:Nat} (hk:k<=n):Rd w F A k (xs.take k):=by
 refine⟨by rw [List.length_take,h.1];omega,fun hn=>?_⟩;obtain⟨b,o,rfl,hf,hb,hcell⟩:=h.2 (by omega);refine⟨b,o,rfl,hf,hb,fun j hj=>?_⟩;rw [hcell j (by omega),List.getElem?_take,if_pos hj]
end
theorem Rd.one (w:World) (e:TypeId) (u:Value):Rd (w.alloc (.cells #[u] e)) (fun b=>b=w.heap.size) (some ⟨w.heap.size,0,none⟩) 1 [u] :=
 ⟨rfl,fun _=>⟨w.heap.size,0,rfl,rfl,by simp,fun j hj=>by(obtain rfl:j=0:=by omega);simp⟩⟩
def Own (w:World) (e:TypeId) (v:Value) (xs:List Value):Prop:=w.ownsRow 0 e 1 v xs.length xs
section
variable {S F:Nat->Prop} {w w':World} {e:TypeId} {v:Value} {xs:List Value}
theorem Own.nil (w:World) (e:TypeId):Own w e (.slice none 0 0) []:=World.ownsRow_nil w 0 e 1
theorem Own.form (h:Own w e v xs):∃A c,v = .slice A xs.length c/\xs.length<=c/\Rd w (fun b=>v.ownBlock=some b) A xs.length xs:=by
 rcases h.2 with ⟨rfl,h0⟩|⟨g,cap,cur,rfl,_,hg,hn,hm,hc,ht⟩
 . have:xs=[]:=List.eq_nil_of_length_eq_zero h0
   subst this;exact⟨none,0,rfl,Nat.le_refl _,Rd.nil _ _ _⟩
 refine⟨some ⟨g,0,none⟩,cap,rfl,hn,rfl,fun _=>⟨g,0,rfl,rfl,(Array.getElem?_eq_some_iff.1 hg).1,fun j hj=>?_⟩⟩;rw [cell_of_row w g (0+j) cur e (0,0) hg,<-ht,List.getElem?_take,if_pos (by omega)];simp
theorem Own.form' (h:Own w e v xs):∃A n c,v = .slice A n c/\Hid (n=xs.length):=by
 obtain⟨A,c,h1,_⟩:=h.form;exact⟨A,_,c,h1,rfl⟩
theorem Own.lt (h:Own w e v xs) {k:Nat} (hk:v.ownBlock=some k):k<w.heap.size:=(World.ownsRow.lt h k hk).2
theorem Own.upd (h:Own w e v xs) (hu:Upd S w w') (hs:∀b,v.ownBlock=some b->¬S b):Own w' e v xs:=by
 refine⟨h.1,?_⟩;rcases h.2 with hn|⟨g,cap,cur,rfl,hb,hgg,rest⟩
 . exact .inl hn
 refine .inr ⟨g,cap,cur,rfl,hb,?_,rest⟩;rw [hu.block g (Array.getElem?_eq_some_iff.1 hgg).1 (hs g rfl)];exact hgg
theorem Own.fresh (h:Own w e v xs) (hu:Q0 w w'):Own w' e v xs:=h.upd hu fun _ _ h=>h
theorem Own.drew (h:Own w e v xs):Own w.drew e v xs:=h
theorem Own.alloc (h:Own w e v xs) (o:Obj):Own (w.alloc o) e v xs:=h.fresh ((Upd.refl _ _).alloc o)
theorem Own.ne_blk {g:Nat} {t:TypeId} {cs:Array Value} (h:Own w e v xs) (hg:Blk w g t cs) (hne:e≠t):v.ownBlock≠some g:=by
 rcases h.2 with ⟨rfl,_⟩|⟨g',cap,cur,rfl,_,hh,_⟩
 . simp [Value.ownBlock]
 intro he;(have:g'=g:=by simpa [Value.ownBlock]using he);subst this;exact Blk.ne_ (t:=e) hh hg hne rfl
theorem Own.far (h:Own w e v xs) {p:Addr} (hp:v.ownBlock≠some p.block) (u:Value):Own (w.setCell p u) e v xs :=
 h.upd (S:=fun b=>b=p.block) ((Upd.refl (fun b=>b=p.block) w).setCell (p:=p) (fun _=>rfl) u) fun b hb e=>hp (by rw [hb,e])
theorem Own.rd (h:Own w e v xs) {A:Option Addr} {n c:Nat} (hv:v = .slice A n c):n=xs.length/\xs.length<=c/\Rd w (fun b=>v.ownBlock=some b) A xs.length xs:=by
 obtain⟨A',c',hv',hc,hr⟩:=h.form;rw [hv]at hv';injection hv' with h1 h2 h3;subst h1 h2 h3;exact⟨rfl,hc,hr⟩
end
section
variable {P:Program} (w:World)
theorem XJ {F:Nat->Prop} (t ty e:TypeId) (z:Value) (Qa:Nat) (ht:P.underlying t=some (.slice e)) (hi:(P.info? e).map (fun i=>(i.zero,i.size,i.bytes))=some (some z,1,Qa)) (hzs:z.cells.size=1)
   (v:Value) (xs:List Value) (hown:Own w e v xs) (A:Option Addr) (m c:Nat) (news:List Value) (hr:Rd w F A m news) (h1:∀u∈news,u.oneCell'=true)
   (hb:Qa<=64) (hlen:xs.length+m<=2^40) :
   ∃v' w',(Builtin.append_ #[t,t] ty #[v,.slice A m c]).run P w = .ok v' w'/\Own w' e v' (xs++news)/\w.grownBy w' v.ownBlock /\
     (v'.ownBlock=v.ownBlock\/v'.ownBlock=some w.heap.size):=by
 obtain⟨i,hi0,hz,hsize,hby⟩:=info_parts hi;have hm:=hr.1;(have h63:xs.length+m<=maxLen:=by simp only [maxLen];omega)
 have hbytes:(xs.length+m)*Qa<=140737488355328:=by
   calc (xs.length+m)*Qa<=2^40*64:=Nat.mul_le_mul hlen hb
     _<=140737488355328:=by decide
 rcases Nat.eq_zero_or_pos m with h0|h0
 . subst h0
   have hn:news=[]:=List.eq_nil_of_length_eq_zero hm;subst hn;rcases A with _|ad
   . refine⟨v,w,?_,by simpa using hown,World.grownBy.refl w _,.inl rfl⟩
     rcases hown.2 with ⟨rfl,h00⟩|⟨g,cap,cur,rfl,_,_,hnc,_⟩
     . simp [Builtin.append_,run_underlying ht,sizeOf,typeInfo,hi0,Builtin.lenOf,Builtin.firstCells]
     simp [Builtin.append_,run_underlying ht,sizeOf,typeInfo,hi0,Builtin.lenOf,Builtin.firstCells,hnc,storeCells]
   obtain⟨v',w',hrun,h2,h3,_,h5⟩:=run_append_own_at (P:=P) w 0 t ty e i z 1 Qa ht hi0 hz hsize hby hzs (by omega) v xs.length xs hown ad 0 c [] (by simp) (by simp) h1 h63 hbytes (Nat.zero_le _);exact⟨v',w',hrun,by simpa [Own]using h2,h3,h5⟩
 obtain⟨b,o,rfl,_,_,hc⟩:=hr.2 h0
 obtain⟨v',w',hrun,h2,h3,_,h5⟩:=run_append_own_at (P:=P) w 0 t ty e i z 1 Qa ht hi0 hz hsize hby hzs (by omega) v xs.length xs hown ⟨b,o,none⟩ m c news (by omega)
   (fun j u hu=>by
     (have hj:j<m:=by have:=(List.getElem?_eq_some_iff.1 hu).1;omega)
     rw [Addr.add_lit,hc j hj,hu]) h1 h63 hbytes (Nat.zero_le _)
 exact⟨v',w',hrun,by unfold Own;rw [List.length_append,hm];exact h2,h3,h5⟩
theorem Q3V {F:Nat->Prop} {o:Oper} {a:Act} {K:Act->World->Prop} {Q:Exit->Act->World->Prop} (s x:Operand) (t:TypeId)
   (ho:o.op = .call { callee:=.builtin .append,args:=#[s,x],argTypes:=#[t,t] })
   (e:TypeId) (z:Value) (Qa:Nat) (ht:P.underlying t=some (.slice e)) (hi:(P.info? e).map (fun i=>(i.zero,i.size,i.bytes))=some (some z,1,Qa)) (hzs:z.cells.size=1)
   (v:Value) (xs:List Value) (hs:a.eval s=v) (hown:Own w e v xs) (A:Option Addr) (m c:Nat) (news:List Value) (hx:a.eval x = .slice A m c) (hr:Rd w F A m news) (h1:∀u∈news,u.oneCell'=true)
   (hb:Qa<=64) (hlen:xs.length+m<=2^40)
   (h:∀v' w',Own w' e v' (xs++news)->w.grownBy w' v.ownBlock->(v'.ownBlock=v.ownBlock\/v'.ownBlock=some w.heap.size)->K (a.put o.dst v') w'):o.wp P a w K Q:=by
 obtain⟨v',w',hrun,h2,h3,h4⟩:=XJ (P:=P) w t o.type e z Qa ht hi hzs v xs hown A m c news hr h1 hb hlen;unfold Oper.wp execOp;simp only [ho,resolve,invoke,builtin,Sem.run_bind,Sem.run_pure,Result.andThen_ok,List.map_toArray,List.map_cons,List.map_nil,hs,hx,hrun];exact h v' w' h2 h3 h4
theorem Qt {F:Nat->Prop} {ops:Array Oper} {rest:List Oper} {o:Oper} {a:Act} {Q:Exit->Act->World->Prop} (hgd:o.guard=none) (s x:Operand) (t:TypeId)
   (ho:o.op = .call { callee:=.builtin .append,args:=#[s,x],argTypes:=#[t,t] })
   (e:TypeId) (z:Value) (Qa:Nat) (ht:P.underlying t=some (.slice e)) (hi:(P.info? e).map (fun i=>(i.zero,i.size,i.bytes))=some (some z,1,Qa)) (hzs:z.cells.size=1)
   (v:Value) (xs:List Value) (hs:a.eval s=v) (hown:Own w e v xs) (A:Option Addr) (m c:Nat) (news:List Value) (hx:a.eval x = .slice A m c) (hr:Rd w F A m news) (h1:∀u∈news,u.oneCell'=true)
   (hb:Qa<=64) (hlen:xs.length+m<=2^40)
   (h:∀v' w',Own w' e v' (xs++news)->w.grownBy w' v.ownBlock->(v'.ownBlock=v.ownBlock\/v'.ownBlock=some w.heap.size)->wpList P ops Q rest (a.put o.dst v') w'):wpList P ops Q (o::rest) a w :=
 wpList_plain hgd fun _ hK=>Q3V w s x t ho e z Qa ht hi hzs v xs hs hown A m c news hx hr h1 hb hlen fun v' w' h2 h3 h4=>hK _ _ (h v' w' h2 h3 h4)
end
theorem YD {S:Nat->Prop} {v v':Value} {k0:Nat} (h:v'.ownBlock=v.ownBlock\/v'.ownBlock=some k0) (hv:∀k,v.ownBlock=some k->S k) (hk:S k0):∀k,v'.ownBlock=some k->S k:=by
 intro k h';rcases h with e|e
 . exact hv k (e ▸ h')
 rw [e]at h';injection h' with h';exact h' ▸ hk
section
variable {P:Program}
theorem Blk.cells {w:World} {g:Nat} {t:TypeId} {cs:Array Value} (h:Blk w g t cs):∀j x,cs.toList[j]?=some x->w.cell? ⟨g,0+j,none⟩=some x:=by
 intro j x hx;rw [h.cell];simpa using hx
end
def YC (n:Int):Int:=if 0<n then 2^(11-n.toNat)else 0
def Qy:List Int->Int
  | []=>0
  | n::l=>YC n+Qy l
def Y6:List Int->Nat
  | []=>0
  | n::l=>(if 0<n then 1 else 0)+Y6 l
def Qj (l:List Int):Prop:=(∀n∈l,0<=n/\n<=11)/\l.length<=256/\1<Y6 l/\Qy l=2048
instance (l:List Int):Decidable (Qj l):=by unfold Qj;infer_instance
theorem VB (a b:List Int):Qy (a++b)=Qy a+Qy b:=by
 induction a with
 | nil=>simp [Qy]
 | cons n l ih=>simp only [List.cons_append,Qy,ih];omega
theorem VY (a b:List Int):Y6 (a++b)=Y6 a+Y6 b:=by
 induction a with
 | nil=>simp [Y6]
 | cons n l ih=>simp only [List.cons_append,Y6,ih];omega
theorem ZQ {l:List Int} {k:Nat} (h:k<l.length):Qy (l.take (k+1))=Qy (l.take k)+YC l[k]:=by
 rw [List.take_succ_eq_append_getElem h,VB];simp [Qy]
theorem Kn {l:List Int} {k:Nat} (h:k<l.length):Y6 (l.take (k+1))=Y6 (l.take k)+if 0<l[k]then 1 else 0:=by
 rw [List.take_succ_eq_append_getElem h,VY];simp [Y6]
theorem VZ (n:Int):0<=YC n/\YC n<=2048:=by
 unfold YC;split
 . have h:(2:Int)^(11-n.toNat)=((2^(11-n.toNat):Nat):Int):=by simp
   have h1:2^(11-n.toNat)<=2^11:=Nat.pow_le_pow_right (by decide) (by omega);rw [h];generalize 2^(11-n.toNat)=q at *;omega
 omega
theorem JP:∀(l:List Int),0<=Qy l/\Qy l<=2048*l.length
 | []=>by simp [Qy]
 | n::l=>by
   have h1:=VZ n
   have h2:=JP l
   simp only [Qy,List.length_cons]
   omega
theorem YP:∀(l:List Int),Y6 l<=l.length
 | []=>by simp [Y6]
 | n::l=>by
   have h2:=YP l
   simp only [Y6,List.length_cons]
   split<;>omega
def Qw (l:List Int) (n:Nat):Nat:=if n=0 then 0 else l.count (n:Int)
def Qr (l:List Int):Nat->Nat
  | 0=>0
  | n+1=>(Qr l n+Qw l n)*2
def Qh (l:List Int) (s:Nat):Nat × Nat :=
  if 0<(l[s]?).getD 0 then(((l[s]?).getD 0).toNat,Qr l ((l[s]?).getD 0).toNat+(l.take s).count ((l[s]?).getD 0))else(0,0)
def Qz (l:List Int):List (Nat × Nat):=(List.range l.length).map (Qh l)
@[simp] theorem Yb (l:List Int):(Qz l).length=l.length:=by simp [Qz]
def Qo (l:List Int):Nat:=(l.foldl max 0).toNat
theorem Jf {k:Nat}:∀ {rows:List (List Value)},(∀r∈rows,r.length=k)->rows.flatten.length=rows.length*k
 | [],_=>by simp
 | r::l,h=>by
   rw [List.flatten_cons,List.length_append,h r (by simp),Jf fun x hx=>h x (List.mem_cons_of_mem _ hx),List.length_cons,Nat.add_mul]
   omega
theorem JG {k:Nat}:∀ {rows:List (List Value)} (j r:Nat),(∀x∈rows,x.length=k)->r<k->(h:j<rows.length)->rows.flatten[j*k+r]?=rows[j][r]?
 | x::l,0,r,h,hr,_=>by
   have hx:x.length=k:=h x (by simp)
   rw [List.flatten_cons,Nat.zero_mul,Nat.zero_add,List.getElem?_append_left (by omega)];rfl
 | x::l,j+1,r,h,hr,hj=>by
   have hx:x.length=k:=h x (by simp)
   have e:(j+1)*k+r-x.length=j*k+r:=by rw [hx,Nat.add_mul];omega
   have hle:x.length<=(j+1)*k+r:=by rw [hx,Nat.add_mul];omega
   rw [List.flatten_cons,List.getElem?_append_right hle,e,JG j r (fun y hy=>h y (List.mem_cons_of_mem _ hy)) hr (by simpa using hj)]
   rfl
def RdK (w:World) (F:Nat->Prop) (k:Nat) (A:Option Addr) (n:Nat) (rows:List (List Value)):Prop :=
  rows.length=n/\(0<n->∃b o,A=some ⟨b,o,none⟩/\F b/\b<w.heap.size/\∀(j r:Nat) (h:j<rows.length),r<k->w.cell? ⟨b,o+j*k+r,none⟩=rows[j][r]?)
def QZ (w:World) (e:TypeId) (k:Nat) (v:Value) (rows:List (List Value)):Prop:=w.ownsRow 0 e k v rows.length rows.flatten/\∀r∈rows,r.length=k
section
variable {S F G:Nat->Prop} {w w':World} {e:TypeId} {k:Nat} {v:Value} {A:Option Addr} {n:Nat} {rows:List (List Value)}
theorem RdK.nil (w:World) (F:Nat->Prop) (k:Nat) (A:Option Addr):RdK w F k A 0 []:=⟨rfl,fun h=>absurd h (by omega)⟩
theorem RdK.mono (h:RdK w F k A n rows) (hfg:∀b,F b->G b):RdK w G k A n rows :=
 ⟨h.1,fun hn=>by obtain⟨b,o,h1,h2,h3⟩:=h.2 hn;exact⟨b,o,h1,hfg b h2,h3⟩⟩
theorem RdK.both (h:RdK w F k A n rows):RdK w (fun b=>F b/\b<w.heap.size) k A n rows :=
 ⟨h.1,fun hn=>by obtain⟨b,o,h1,h2,h3,h4⟩:=h.2 hn;exact⟨b,o,h1,⟨h2,h3⟩,h3,h4⟩⟩
theorem RdK.upd (h:RdK w F k A n rows) (hu:Upd S w w') (hs:∀b,b<w.heap.size->F b->¬S b):RdK w' F k A n rows :=
 ⟨h.1,fun hn=>by
   obtain⟨b,o,h1,h2,h3,h4⟩:=h.2 hn
   refine⟨b,o,h1,h2,Nat.lt_of_lt_of_le h3 hu.size,fun j r hj hr=>?_⟩
   rw [<-h4 j r hj hr]
   exact World.cell?_of_block (a:=⟨b,o+j*k+r,none⟩) (hu.block b h3 (hs b h3 h2))⟩
theorem RdK.fresh (h:RdK w F k A n rows) (hu:Q0 w w'):RdK w' F k A n rows:=h.upd hu fun _ _ _ h=>h
theorem RdK.at_ {j r:Nat} (h:RdK w F k A n rows) (hj:j<n):∃b o,A=some ⟨b,o,none⟩/\F b/\b<w.heap.size/\∀(r:Nat),r<k->w.cell? ⟨b,o+j*k+r,none⟩=(rows[j]'(by rw [h.1];exact hj))[r]?:=by
 obtain⟨b,o,h1,h2,h3,h4⟩:=h.2 (by omega);exact⟨b,o,h1,h2,h3,fun r hr=>h4 j r _ hr⟩
theorem QZ.nil (w:World) (e:TypeId) (k:Nat):QZ w e k (.slice none 0 0) []:=⟨World.ownsRow_nil w 0 e k,fun r h=>by simp at h⟩
theorem QZ.upd (h:QZ w e k v rows) (hu:Upd S w w') (hs:∀b,v.ownBlock=some b->¬S b):QZ w' e k v rows:=by
 refine⟨⟨h.1.1,?_⟩,h.2⟩;rcases h.1.2 with hn|⟨g,cap,cur,rfl,hb,hgg,rest⟩
 . exact .inl hn
 refine .inr ⟨g,cap,cur,rfl,hb,?_,rest⟩;rw [hu.block g (Array.getElem?_eq_some_iff.1 hgg).1 (hs g rfl)];exact hgg
theorem QZ.fresh (h:QZ w e k v rows) (hu:Q0 w w'):QZ w' e k v rows:=h.upd hu fun _ _ h=>h
theorem QZ.alloc (h:QZ w e k v rows) (o:Obj):QZ (w.alloc o) e k v rows:=h.fresh ((Upd.refl _ _).alloc o)
theorem QZ.form (h:QZ w e k v rows):∃A c,v = .slice A rows.length c/\rows.length<=c/\RdK w (fun b=>v.ownBlock=some b) k A rows.length rows:=by
 rcases h.1.2 with ⟨rfl,h0⟩|⟨g,cap,cur,rfl,_,hg,hn,hm,hc,ht⟩
 . have:rows=[]:=List.eq_nil_of_length_eq_zero h0
   subst this;exact⟨none,0,rfl,Nat.le_refl _,RdK.nil _ _ _ _⟩
 refine⟨some ⟨g,0,none⟩,cap,rfl,hn,rfl,fun _=>⟨g,0,rfl,rfl,(Array.getElem?_eq_some_iff.1 hg).1,fun j r hj hr=>?_⟩⟩
 have hlt:j*k+r<rows.length*k:=by
   have h1:(j+1)*k<=rows.length*k:=Nat.mul_le_mul_right k (by omega);rw [Nat.add_mul]at h1;omega
 rw [cell_of_row w g _ cur e (0,0) hg,<-JG j r h.2 hr hj,<-ht,List.getElem?_take,if_pos (by omega),Nat.zero_add];simp
theorem QZ.form' (h:QZ w e k v rows):∃A n c,v = .slice A n c/\Hid (n=rows.length):=by
 obtain⟨A,c,h1,_⟩:=h.form;exact⟨A,_,c,h1,rfl⟩
theorem QZ.rd (h:QZ w e k v rows) {A:Option Addr} {n c:Nat} (hv:v = .slice A n c):n=rows.length/\rows.length<=c/\RdK w (fun b=>v.ownBlock=some b) k A rows.length rows:=by
 obtain⟨A',c',hv',hc,hr⟩:=h.form;rw [hv]at hv';injection hv' with h1 h2 h3;subst h1 h2 h3;exact⟨rfl,hc,hr⟩
end
section
variable {P:Program} (w:World)
end
theorem KC (l:List Int) (n:Nat):Qy (l.filter fun x=>decide (x<=((n+1:Nat):Int)))=Qy (l.filter fun x=>decide (x<=(n:Int)))+(l.count ((n+1:Nat):Int):Nat)*2^(11-(n+1)):=by
 induction l with
 | nil=>simp [Qy]
 | cons x l ih =>
   rw [List.filter_cons,List.filter_cons,List.count_cons];by_cases h1:x<=(n:Int)
   . have h2:x<=((n+1:Nat):Int):=by omega
     (have h3:(x == ((n+1:Nat):Int))=false:=by simp;omega);simp only [h1,h2,h3,decide_true,if_true,Qy,ih,Bool.false_eq_true,if_false,Nat.add_zero];exact(Int.add_assoc _ _ _).symm
   by_cases h2:x=((n+1:Nat):Int)
   . subst h2
     have h4:YC ((n+1:Nat):Int)=2^(11-(n+1)):=by
       unfold YC;rw [if_pos (by omega)];simp
     simp only [h1,decide_false,Bool.false_eq_true,if_false,Int.le_refl,decide_true,if_true,Qy,ih,beq_self_eq_true,h4]
     have e:(((l.count ((n+1:Nat):Int)+1:Nat):Int))*2^(11-(n+1))=(l.count ((n+1:Nat):Int):Nat)*2^(11-(n+1))+2^(11-(n+1)):=by
       rw [Int.natCast_add,Int.add_mul];simp
     rw [e];generalize (2:Int)^(11-(n+1))=q;generalize ((l.count ((n+1:Nat):Int):Nat):Int)*q=r;omega
   (have h3:(x == ((n+1:Nat):Int))=false:=by simpa using h2);(have h5:¬x<=((n+1:Nat):Int):=by omega);simp only [h1,h5,h3,decide_false,Bool.false_eq_true,if_false,ih];simp
theorem KD (l:List Int):Qy (l.filter fun x=>decide (x<=((0:Nat):Int)))=0:=by
 induction l with
 | nil=>simp [Qy]
 | cons x l ih =>
   rw [List.filter_cons];split
   . next h=>simp at h;simp only [Qy,ih,YC];rw [if_neg (by omega)];rfl
   exact ih
theorem JV (l:List Int):∀n,n<=11->(((Qr l n+Qw l n)*2^(11-n):Nat):Int)=Qy (l.filter fun x=>decide (x<=(n:Int)))
 | 0,_=>by rw [KD];simp [Qr,Qw]
 | n+1,h=>by
   have ih:=JV l n (by omega)
   rw [KC,<-ih,Qr]
   have e:2^(11-n)=2*2^(11-(n+1)):=by rw [show 11-n=(11-(n+1))+1 by omega,Nat.pow_succ];omega
   have hm:Qw l (n+1)=l.count ((n+1:Nat):Int):=by unfold Qw;rw [if_neg (by omega)]
   rw [e,hm]
   have p:(2:Int)^(11-(n+1))=((2^(11-(n+1)):Nat):Int):=by simp
   rw [p]
   generalize 2^(11-(n+1))=q
   generalize Qr l n+Qw l n=a
   generalize l.count ((n+1:Nat):Int)=b
   rw [<-Int.natCast_mul,<-Int.natCast_add]
   congr 1
   rw [Nat.add_mul,Nat.mul_assoc]
theorem X0 (l:List Int) (p:Int->Bool):Qy (l.filter p)<=Qy l:=by
 induction l with
 | nil=>simp
 | cons x l ih =>
   have:=VZ x;rw [List.filter_cons];split
   . simp only [Qy];omega
   simp only [Qy];omega
theorem Jb {l:List Int} (ht:Qj l) (s:Nat):(Qh l s).1<=11/\(Qh l s).2<2^(Qh l s).1:=by
 unfold Qh;split
 . next h =>
   have hs:s<l.length:=by
     apply Classical.byContradiction;intro hn;rw [List.getElem?_eq_none (by omega)]at h;simp at h
   rw [List.getElem?_eq_getElem hs]at h ⊢;simp only [Option.getD_some]at h ⊢;have hm:=ht.1 _ (List.getElem_mem hs);obtain⟨n,hn⟩:∃n:Nat,l[s]=(n:Int):=⟨l[s].toNat,by omega⟩;rw [hn]at h hm ⊢;simp only [Int.toNat_natCast];have h1:=JV l n (by omega);have h2:=X0 l fun x=>decide (x<=(n:Int));rw [ht.2.2.2]at h2
   have h3:(l.take s).count (n:Int)+1<=Qw l n:=by
     unfold Qw;rw [if_neg (by omega)];have e:l=l.take s++l.drop s:=(List.take_append_drop s l).symm;(have e2:l.drop s=(n:Int)::l.drop (s+1):=by rw [List.drop_eq_getElem_cons hs,hn])
     have e3:l.count (n:Int)=(l.take s).count (n:Int)+(l.drop s).count (n:Int):=by
       conv=>lhs;rw [e,List.count_append]
     rw [e3,e2,List.count_cons];simp
   refine⟨by omega,?_⟩;(have h4:(Qr l n+Qw l n)*2^(11-n)<=2048:=by omega);(have h5:2^n*2^(11-n)=2048:=by rw [<-Nat.pow_add,show n+(11-n)=11 by omega])
   have h6:Qr l n+Qw l n<=2^n:=by
     have hp:0<2^(11-n):=Nat.two_pow_pos _;rw [<-h5]at h4;exact Nat.le_of_mul_le_mul_right h4 hp
   omega
 exact⟨by simp,by simp⟩
def Qq (l:List Int):List Nat:=(List.range 11).flatMap fun i=>(List.range l.length).filter fun s=>decide ((Qh l s).1=i+1)
def YT (l:List Int):List (Nat × Nat):=(Qq l).flatMap fun s=>List.replicate (2^(Qo l-(Qh l s).1)) (s,(Qh l s).1)
theorem KT:∀(l:List Int) (a:Int),a<=l.foldl max a/\∀x∈l,x<=l.foldl max a
 | [],a=>by simp
 | y::l,a=>by
   have h:=KT l (max a y)
   simp only [List.foldl_cons,List.mem_cons]
   refine⟨by have:=h.1;omega,?_⟩
   rintro x (rfl|hx)
   . have:=h.1;omega
   exact h.2 x hx
theorem XL:∀(l:List Int) (a b:Int),a<=b->(∀x∈l,x<=b)->l.foldl max a<=b
 | [],a,b,h,_=>by simpa using h
 | y::l,a,b,h,k=>by
   simp only [List.foldl_cons]
   refine XL l (max a y) b ?_ fun x hx=>k x (by simp [hx])
   have:=k y (by simp)
   omega
theorem YG {l:List Int} (ht:Qj l):Qo l<=11:=by
 have:=XL l 0 11 (by decide) fun x hx=>(ht.1 x hx).2;unfold Qo;omega
theorem YR {l:List Int} (_ht:Qj l) (s:Nat):(Qh l s).1=((l[s]?).getD 0).toNat:=by
 unfold Qh;split
 . rfl
 next h=>simp only;omega
theorem Q2B (l:List Int) (s:Nat):((l[s]?).getD 0).toNat<=Qo l:=by
 unfold Qo;have h:=KT l 0;by_cases hs:s<l.length
 . rw [List.getElem?_eq_getElem hs]
   have:=h.2 _ (List.getElem_mem hs);simp only [Option.getD_some];omega
 rw [List.getElem?_eq_none (by omega)];simp
theorem Jy {l:List Int} (ht:Qj l) (s:Nat):(Qh l s).1<=Qo l:=by rw [YR ht];exact Q2B l s
theorem ZV (l:List Int) (p:Int->Bool):((List.range l.length).filter fun s=>p ((l[s]?).getD 0)).length=l.countP p:=by
 have e:(List.range l.length).map (fun s=>(l[s]?).getD 0)=l:=by
   apply List.ext_getElem
   . simp
   intro i h1 h2;simp at h1;simp [h1]
 conv=>rhs;rw [<-e]
 rw [List.countP_map,List.countP_eq_length_filter];rfl
theorem Q0m {l:List Int} (ht:Qj l) (i:Nat):((List.range l.length).filter fun s=>decide ((Qh l s).1=i+1)).length=l.count ((i+1:Nat):Int):=by
 have e:(fun s=>decide ((Qh l s).1=i+1))=fun s=>(fun x:Int=>x == ((i+1:Nat):Int)) ((l[s]?).getD 0):=by
   funext s
   rw [YR ht,Bool.eq_iff_iff];simp only [decide_eq_true_eq,beq_iff_eq];omega
 rw [e];exact ZV l fun x=>x == ((i+1:Nat):Int)
theorem Ke {l:List Int} (ht:Qj l):∀k,k<=11->2^(11-Qo l)*(((List.range k).flatMap fun i=>(List.range l.length).filter fun s=>decide ((Qh l s).1=i+1)).flatMap fun s=>List.replicate (2^(Qo l-(Qh l s).1)) (s,(Qh l s).1)).length=(Qy (l.filter fun x=>decide (x<=(k:Int)))).toNat
 | 0,_=>by rw [KD];simp
 | k+1,h=>by
   have ih:=Ke ht k (by omega)
   rw [KC,List.range_succ,List.flatMap_append,List.flatMap_append,List.length_append,Nat.mul_add,ih]
   have h0:0<=Qy (l.filter fun x=>decide (x<=(k:Int))):=(JP _).1
   have e:(2:Int)^(11-(k+1))=((2^(11-(k+1)):Nat):Int):=by simp
   rw [e,<-Int.natCast_mul]
   have h2:2^(11-Qo l)*(([k].flatMap fun i=>(List.range l.length).filter fun s=>decide ((Qh l s).1=i+1)).flatMap fun s=>List.replicate (2^(Qo l-(Qh l s).1)) (s,(Qh l s).1)).length=l.count ((k+1:Nat):Int)*2^(11-(k+1)):=by
     rw [<-Q0m ht k];simp only [List.flatMap_cons,List.flatMap_nil,List.append_nil]
     have key:∀q:List Nat,(∀s∈q,(Qh l s).1=k+1)->2^(11-Qo l)*(q.flatMap fun s=>List.replicate (2^(Qo l-(Qh l s).1)) (s,(Qh l s).1)).length=q.length*2^(11-(k+1)):=by
       intro q
       induction q with
       | nil=>intro _;simp
       | cons s q ihq =>
         intro hq;have hs:=hq s (by simp);have hle:=Jy ht s;have hm:=YG ht;rw [List.flatMap_cons,List.length_append,Nat.mul_add,ihq fun s hs=>hq s (by simp [hs]),List.length_replicate,List.length_cons,Nat.add_mul,<-Nat.pow_add,hs];rw [show 11-Qo l+(Qo l-(k+1))=11-(k+1) by omega];omega
     (exact key _ fun s hs=>by simpa using(List.mem_filter.1 hs).2)
   rw [h2];generalize l.count ((k+1:Nat):Int)*2^(11-(k+1))=q;omega
theorem Yy {l:List Int} (ht:Qj l):(YT l).length=2^Qo l:=by
 have h:=Ke ht 11 (Nat.le_refl _);(have e:l.filter (fun x=>decide (x<=((11:Nat):Int)))=l:=List.filter_eq_self.2 fun x hx=>by simpa using(ht.1 x hx).2);rw [e,ht.2.2.2]at h;have hm:=YG ht;(have h5:2^(11-Qo l)*2^Qo l=2048:=by rw [<-Nat.pow_add,show 11-Qo l+Qo l=11 by omega]);(have h6:2^(11-Qo l)*(YT l).length=2^(11-Qo l)*2^Qo l:=by rw [h5];exact h);exact Nat.eq_of_mul_eq_mul_left (Nat.two_pow_pos _) h6
def Yk (l:List Int) (x n:Nat):Nat × Nat:=((YT l)[x*2^(Qo l-n) / 2^(n-Qo l)]?).getD (0,0)
def Kf (l:List Int) (v t:Nat):Option (Nat × Nat) :=
  if(Yk l (v / 2^(t-min t 11)%2^min t 11) (min t 11)).2<=min t 11 then some ((Yk l (v / 2^(t-min t 11)%2^min t 11) (min t 11)).1,t-(Yk l (v / 2^(t-min t 11)%2^min t 11) (min t 11)).2)else none
def Yi (l:List Int) (v:Nat):Nat->Nat->Option (List Nat × Nat)
  | t,0=>some ([],t)
  | t,k+1=>match Kf l v t with
    | none=>none
    | some (s,t')=>match Yi l v t' k with
      | none=>none
      | some (r,t'')=>some (s::r,t'')
theorem XM {l:List Int} (ht:Qj l) {x n:Nat} (hx:x<2^n):x*2^(Qo l-n) / 2^(n-Qo l)<(YT l).length:=by
 rw [Yy ht];rcases Nat.le_total n (Qo l)with h|h
 . rw [show n-Qo l=0 by omega,Nat.pow_zero,Nat.div_one]
   calc x*2^(Qo l-n)<2^n*2^(Qo l-n):=Nat.mul_lt_mul_of_pos_right hx (Nat.two_pow_pos _)
     _=2^Qo l:=by rw [<-Nat.pow_add,show n+(Qo l-n)=Qo l by omega]
 rw [show Qo l-n=0 by omega,Nat.pow_zero,Nat.mul_one];refine Nat.div_lt_of_lt_mul ?_;rw [<-Nat.pow_add,show n-Qo l+Qo l=n by omega];exact hx
theorem XN {l:List Int} {e:Nat × Nat} (h:e∈YT l):e.1<l.length/\e.2=(Qh l e.1).1/\0<e.2:=by
 unfold YT Qq at h;simp only [List.mem_flatMap,List.mem_replicate,List.mem_filter,List.mem_range,decide_eq_true_eq]at h;obtain⟨s,⟨i,hi,hs,he⟩,hn,rfl⟩:=h;exact⟨hs,rfl,by show 0<(Qh l s).1;omega⟩
theorem X1 {l:List Int} (ht:Qj l) {x n:Nat} (hx:x<2^n):Yk l x n∈YT l:=by
 unfold Yk;rw [List.getElem?_eq_getElem (XM ht hx)];exact List.getElem_mem _
theorem Vf {l:List Int} (ht:Qj l):0<Qo l:=by
 have h:=X1 ht (x:=0) (n:=0) (by simp);have h1:=XN h;have h2:=Jy ht (Yk l 0 0).1;omega
def Y7 (l:List Int) (i:Nat):List Nat:=(List.range l.length).filter fun s=>decide ((Qh l s).1=i+1)
def QX (l:List Int) (q:List Nat):List (Nat × Nat):=q.flatMap fun s=>List.replicate (2^(Qo l-(Qh l s).1)) (s,(Qh l s).1)
theorem YZ (l:List Int) (p q:List Nat):QX l (p++q)=QX l p++QX l q:=List.flatMap_append
theorem KE {l:List Int} {n:Nat}:∀ {q:List Nat},(∀s∈q,(Qh l s).1=n)->(QX l q).length=q.length*2^(Qo l-n)
 | [],_=>by simp [QX]
 | s::q,h=>by
   have ih:=KE (q:=q) fun s hs=>h s (by simp [hs])
   have hs:=h s (by simp)
   unfold QX at ih ⊢
   rw [List.flatMap_cons,List.length_append,ih,List.length_replicate,hs,List.length_cons,Nat.add_mul]
   omega
theorem Q0n {l:List Int} (ht:Qj l) {n:Nat} (hn:n<Qo l):(QX l ((List.range n).flatMap (Y7 l))).length=Qr l (n+1)*2^(Qo l-(n+1)):=by
 have hm:=YG ht;have h1:=Ke ht n (by omega);have h2:=JV l n (by omega);(have h3:(Qr l n+Qw l n)*2^(11-n)=(Qy (l.filter fun x=>decide (x<=(n:Int)))).toNat:=by rw [<-h2];rfl);rw [<-h3]at h1
 have e1:2^(11-n)=2^(11-Qo l)*(2*2^(Qo l-(n+1))):=by
   rw [show(2:Nat)*2^(Qo l-(n+1))=2^(Qo l-n) by rw [show Qo l-n=(Qo l-(n+1))+1 by omega,Nat.pow_succ];omega,<-Nat.pow_add]
   congr 1;omega
 rw [e1]at h1
 have h4:2^(11-Qo l)*(QX l ((List.range n).flatMap (Y7 l))).length=2^(11-Qo l)*(Qr l (n+1)*2^(Qo l-(n+1))):=by
   refine Eq.trans h1 ?_;rw [Qr,Nat.mul_left_comm,Nat.mul_assoc]
 exact Nat.eq_of_mul_eq_mul_left (Nat.two_pow_pos _) h4
theorem ZW {n m:Nat} (h:n<m):List.range m=List.range n++n::(List.range (m-n-1)).map (·+(n+1)):=by
 apply List.ext_getElem
 . simp;omega
 intro i h1 h2;simp at h1;rw [List.getElem_range];rcases Nat.lt_trichotomy i n with h3|h3|h3
 . rw [List.getElem_append_left (by simpa using h3)];simp
 . subst h3
   rw [List.getElem_append_right (by simp)];simp
 rw [List.getElem_append_right (by simp;omega)];simp only [List.length_range];obtain⟨k,hk⟩:∃k,i-n=k+1:=⟨i-n-1,by omega⟩;simp only [hk,List.getElem_cons_succ,List.getElem_map,List.getElem_range];omega
theorem X2 {l:List Int} (ht:Qj l) (s i:Nat) (hs:s<=l.length):((List.range s).filter fun s=>decide ((Qh l s).1=i+1)).length=(l.take s).count ((i+1:Nat):Int):=by
 have e:(List.range s).filter (fun s=>decide ((Qh l s).1=i+1))=(List.range (l.take s).length).filter fun x=>(fun x:Int=>x == ((i+1:Nat):Int)) (((l.take s)[x]?).getD 0):=by
   rw [List.length_take,Nat.min_eq_left hs];apply List.filter_congr;intro x hx;rw [List.getElem?_take,if_pos (List.mem_range.1 hx),YR ht,Bool.eq_iff_iff];simp only [decide_eq_true_eq,beq_iff_eq];omega
 rw [e];exact ZV (l.take s) fun x=>x == ((i+1:Nat):Int)
def Yh (l:List Int) (bs:List Nat):List Bool:=(bs.reverse.map fun c=>Qs (Qh l c).1 (Qh l c).2).flatten
theorem Vj (l:List Int) (c:Nat) (bs:List Nat):Yh l (c::bs)=Yh l bs++Qs (Qh l c).1 (Qh l c).2:=by simp [Yh]
theorem Ji (l:List Int):∀bs:List Nat,(Yh l bs).length=(bs.map fun c=>(Qh l c).1).sum
 | []=>rfl
 | c::bs=>by
   rw [Vj,List.length_append,Ji l bs,List.map_cons,List.sum_cons]
   have:(Qs (Qh l c).1 (Qh l c).2).length=(Qh l c).1:=by simp
   omega
theorem Own.store {w:World} {e:TypeId} {A:Option Addr} {n c:Nat} {xs:List Value} (h:Own w e (.slice A n c) xs) {i:Nat} (hi:i<xs.length) :
   ∃g,A=some ⟨g,0,none⟩/\g<w.heap.size/\w.cell? ⟨g,i,none⟩=some xs[i]/\w.frozen? ⟨g,i,none⟩=false/\∀u,Own (w.setCell ⟨g,i,none⟩ u) e (.slice A n c) (xs.set i u):=by
 rcases h.2 with ⟨h0,hn⟩|⟨g,cap,cur,hv,hb,hg,hn,hm,hc,ht⟩
 . omega
 injection hv with h1 h2 h3;subst h1 h2 h3
 have hcur:cur[i]?=some xs[i]:=by
   have h1:(cur.toList.take (xs.length*1))[i]?=some xs[i]:=by
     rw [ht];exact List.getElem?_eq_getElem hi
   rw [List.getElem?_take,if_pos (by omega)]at h1;simpa using h1
 have hgs:g<w.heap.size:=(Array.getElem?_eq_some_iff.1 hg).1;refine⟨g,rfl,hgs,?_,?_,fun u=>?_⟩
 . rw [cell_of_row w g i cur e (0,0) hg];exact hcur
 . simp [World.frozen?,hg]
 have hb2:=Blk.set_ (show Blk w g e cur from hg) i u;refine⟨by simp,.inr ⟨g,c,cur.setIfInBounds i u,by simp,hb,hb2,by simp;omega,hm,by simp;omega,?_⟩⟩;rw [List.length_set,Array.toList_setIfInBounds,List.take_set,ht]
theorem Blk.rds {w:World} {g:Nat} {t:TypeId} {cs:Array Value} (h:Blk w g t cs):Rd w (fun _=>True) (some ⟨g,0,none⟩) cs.size cs.toList :=
 ⟨by simp,fun _=>⟨g,0,rfl,trivial,h.lt,fun j hj=>by rw [Nat.zero_add,h.cell];simp⟩⟩
theorem KG {s:Nat}:∀ {p p' q q':List Nat},(p++s::q).Nodup->p++s::q=p'++s::q'->p=p'
 | [],[],_,_,_,_=>rfl
 | [],x::p',q,q',h,e=>by
   simp only [List.nil_append,List.cons_append,List.cons.injEq]at e
   obtain⟨rfl,rfl⟩:=e
   simp only [List.nil_append,List.nodup_cons]at h
   exact absurd (by simp) h.1
 | x::p,[],q,q',h,e=>by
   simp only [List.nil_append,List.cons_append,List.cons.injEq]at e
   obtain⟨rfl,rfl⟩:=e
   simp only [List.cons_append,List.nodup_cons]at h
   exact absurd (by simp) h.1
 | x::p,y::p',q,q',h,e=>by
   simp only [List.cons_append,List.cons.injEq]at e
   obtain⟨rfl,e⟩:=e
   simp only [List.cons_append,List.nodup_cons]at h
   rw [KG h.2 e]
theorem XF {l:List Int} {s:Nat} (h:s∈Qq l):s<l.length/\0<(Qh l s).1:=by
 unfold Qq at h;simp only [List.mem_flatMap,List.mem_filter,List.mem_range,decide_eq_true_eq]at h;obtain⟨i,hi,hs,he⟩:=h;exact⟨hs,by omega⟩
theorem Q1x (l:List Int):(Qq l).Pairwise fun s t=>(Qh l s).1<=(Qh l t).1/\s≠t:=by
 unfold Qq;rw [List.pairwise_flatMap];refine⟨fun i hi=>?_,?_⟩
 . refine List.Pairwise.imp_of_mem (R:=fun s t=>s<t) (fun {a b} ha hb hab=>?_) (List.Pairwise.filter _ List.pairwise_lt_range)
   have h1:=(List.mem_filter.1 ha).2;have h2:=(List.mem_filter.1 hb).2;simp only [decide_eq_true_eq]at h1 h2;exact⟨by omega,by omega⟩
 refine List.Pairwise.imp (fun {i j} hij x hx y hy=>?_) List.pairwise_lt_range;have h1:=(List.mem_filter.1 hx).2;have h2:=(List.mem_filter.1 hy).2;simp only [decide_eq_true_eq]at h1 h2;exact⟨by omega,fun e=>by subst e;omega⟩
theorem Q1y (l:List Int):(Qq l).Nodup:=(Q1x l).imp fun h=>h.2
theorem X3 {l:List Int} (ht:Qj l) {s:Nat} {p q:List Nat} (h:Qq l=p++s::q):(QX l p).length=(Qh l s).2*2^(Qo l-(Qh l s).1):=by
 obtain⟨hs,h0⟩:=XF (l:=l) (s:=s) (by rw [h];simp);obtain⟨n,hn⟩:∃n,(Qh l s).1=n+1:=⟨(Qh l s).1-1,by omega⟩;have hle:=Jy ht s;have hm:=YG ht
 have e1:Qq l=(List.range n).flatMap (Y7 l)++(Y7 l n++((List.range (11-n-1)).map (·+(n+1))).flatMap (Y7 l)):=by
   show(List.range 11).flatMap (Y7 l)=_;rw [ZW (show n<11 by omega),List.flatMap_append,List.flatMap_cons]
 obtain⟨Q,hQ⟩:∃Q,Y7 l n=((List.range s).filter fun s=>decide ((Qh l s).1=n+1))++s::Q:=by
   refine⟨((List.range (l.length-s-1)).map (·+(s+1))).filter fun s=>decide ((Qh l s).1=n+1),?_⟩;unfold Y7;rw [ZW hs,List.filter_append,List.filter_cons,if_pos (by simpa using hn)]
 rw [hQ]at e1
 have hp:p=(List.range n).flatMap (Y7 l)++((List.range s).filter fun s=>decide ((Qh l s).1=n+1)):=by
   refine KG (s:=s) (q:=q) (q':=Q++((List.range (11-n-1)).map (·+(n+1))).flatMap (Y7 l)) (by rw [<-h];exact Q1y l) ?_;rw [<-h,e1];simp only [List.append_assoc,List.cons_append]
 rw [hp,YZ,List.length_append,Q0n ht (by omega),KE (n:=n+1) (fun s hs=>by simpa using(List.mem_filter.1 hs).2),X2 ht s n (by omega),hn,<-Nat.add_mul]
 congr 1
 have hc:=YR ht s;rw [hn]at hc;(have hpos:0<(l[s]?).getD 0:=by omega);unfold Qh;rw [if_pos hpos];simp only;rw [show(l[s]?).getD 0=((n+1:Nat):Int) by omega];rfl
theorem Q1c {l:List Int} (ht:Qj l) {s:Nat} {q:List Nat} (h:Qq l=s::q):(Qh l s).2=0:=by
 have:=X3 ht (p:=[]) h;have hp:=Nat.two_pow_pos (Qo l-(Qh l s).1);rw [show(QX l []).length=0 from rfl]at this;rcases Nat.mul_eq_zero.1 this.symm with h|h
 . exact h
 omega
theorem Q2p {l:List Int} (ht:Qj l) {s t:Nat} {p q:List Nat} (h:Qq l=p++s::t::q) :
   (Qh l s).1<=(Qh l t).1/\(Qh l t).2=((Qh l s).2+1)*2^((Qh l t).1-(Qh l s).1):=by
 have h1:=X3 ht h;have h2:=X3 ht (p:=p++[s]) (s:=t) (q:=q) (by rw [h];simp)
 have hl:(Qh l s).1<=(Qh l t).1:=by
   have:=Q1x l;rw [h,List.pairwise_append]at this;exact((List.pairwise_cons.1 this.2.1).1 t (by simp)).1
 refine⟨hl,?_⟩;have hle:=Jy ht t
 have h3:(QX l (p++[s])).length=(QX l p).length+2^(Qo l-(Qh l s).1):=by
   rw [YZ,List.length_append]
   congr 1
   simp [QX]
 rw [h3,h1,show Qo l-(Qh l s).1=((Qh l t).1-(Qh l s).1)+(Qo l-(Qh l t).1) by omega,Nat.pow_add,<-Nat.mul_assoc]at h2;have hp:=Nat.two_pow_pos (Qo l-(Qh l t).1);refine(Nat.eq_of_mul_eq_mul_right hp ?_).symm;rw [<-h2,Nat.add_mul,Nat.add_mul,Nat.one_mul]
end Go.Proofs.YtckjdhaflokcgaaGreat
