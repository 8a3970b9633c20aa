/-
  Joined texts, part 7: contracts and plain lemmas.
  Conditions: none beyond those of each theorem.
-/
import Derived.Test.YtjfdaphjijfieaaGreatL4
set_option linter.unusedVariables false
set_option linter.unusedSimpArgs false
set_option maxRecDepth 100000
universe u
namespace Go.Proofs.YtjfdaphjijfieaaGreat
open Go.RowKit
def Qah (w:World) (A:Option Addr) (i:Nat) (t:Int × List Int):Prop :=
  ∃(b o:Nat) (B:Option Addr) (n c:Nat),A=some ⟨b,o,none⟩/\b<w.heap.size/\w.cell? ⟨b,o+i*2,none⟩=some (.int .i64 t.1)/\w.cell? ⟨b,o+i*2+1,none⟩=some (.slice B n c) /\
    Rd w (fun _=>True) B n (Q2 t.2)/\Fit t.2
def Qan (w:World) (A:Option Addr) (n:Nat) (ts:List (Int × List Int)):Prop:=ts.length=n/\∀i t,ts[i]?=some t->Qah w A i t
end Go.Proofs.YtjfdaphjijfieaaGreat
