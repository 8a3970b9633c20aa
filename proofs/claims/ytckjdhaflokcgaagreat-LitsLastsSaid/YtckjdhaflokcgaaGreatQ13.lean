/-
  Joined texts, part 13: contracts and plain lemmas.
  Conditions: none beyond those of each theorem.
-/
import Derived.Test.YtckjdhaflokcgaaGreatQ5
set_option linter.unusedVariables false
set_option linter.unusedSimpArgs false
set_option linter.unnecessarySimpa false
set_option maxRecDepth 100000
universe u
namespace Go.Proofs.YtckjdhaflokcgaaGreat
open Go.RowKit
def Ja (bs:List Nat):ByteArray:=⟨(bs.map UInt8.ofNat).toArray⟩
theorem Q2i {a b:List Nat} (ha:∀x∈a,x<256) (hb:∀x∈b,x<256):Ja a=Ja b ↔ a=b:=by
 constructor
 . intro h
   have h1:a.map UInt8.ofNat=b.map UInt8.ofNat:=by
     have:=congrArg (fun s:ByteArray=>s.data.toList) h;simpa [Ja]using this
   have h2:=congrArg (List.map UInt8.toNat) h1
   have h3:∀l:List Nat,(∀x∈l,x<256)->(l.map UInt8.ofNat).map UInt8.toNat=l:=by
     intro l
     induction l with
     | nil=>intro _;rfl
     | cons x l ih=>intro h;simp only [List.map_cons];rw [ih (fun y hy=>h y (by simp [hy]))];congr 1;have:=h x (by simp);simp;omega
   rwa [h3 a ha,h3 b hb]at h2
 intro h;rw [h]
theorem ZP (bs:List Nat):(Ja bs).toList=bs.map UInt8.ofNat:=by
 rw [ByteArray.toList_eq];simp [Ja]
theorem YJ {F:Nat->Prop} {A:Option Addr} {n c:Nat} {bs:List Nat} {w:World} (h:Rd w F A n (bs.map fun b=>.int .u8 (b:Nat))) (hb:∀b∈bs,b<256) :
   (convert 22 9 (.slice A n c)).run Tryz.prog w = .ok (.string (Ja bs)) w:=by
 (have hl':n=bs.length:=by have:=h.1;simp at this;exact this.symm);subst hl';rw [run_convert_bytes_string w _ _ 5 A _ c Tryz.underlying22 Tryz.underlying5 Tryz.underlying9];by_cases hz:bs.length=0
 . have hbs:bs=[]:=List.eq_nil_of_length_eq_zero hz
   subst hbs
   cases A with
   | none=>simp [Conv.bytesToString];rfl
   | some a =>
     have:=run_bytesToString (P:=Tryz.prog) w a 0 c [] (run_loadCells_list w a [] (by simp));exact this
 obtain⟨g,o,rfl,hF,hg,hc⟩:=h.2 (by omega)
 have:=run_convert_bytes_back (P:=Tryz.prog) w 22 9 5 ⟨g,o,none⟩ c (bs.map UInt8.ofNat) Tryz.underlying22 Tryz.underlying5 Tryz.underlying9 (fun j hj=>by
   (have hj':j<bs.length:=by simpa using hj);have:=hc j hj';rw [Addr.add_lit,this];have:=hb bs[j] (List.getElem_mem hj');simp [List.getElem?_eq_getElem hj']
   omega)
 rw [run_convert_bytes_string w _ _ 5 _ _ c Tryz.underlying22 Tryz.underlying5 Tryz.underlying9]at this;simpa [Ja]using this
end Go.Proofs.YtckjdhaflokcgaaGreat
