/-
  Joined texts, part 10: contracts and plain lemmas.
  Conditions: none beyond those of each theorem.
-/
import Derived.Test.YtakjpcnhhkgfoaaGreatM8
import Derived.Test.YtakjpcnhhkgfoaaGreatM6
set_option linter.unusedVariables false
set_option linter.unusedSimpArgs false
set_option maxRecDepth 100000
universe u
namespace Go.Proofs.YtakjpcnhhkgfoaaGreat
open Go.RowKit
def JF (w:World) (F:Nat->Prop) (g gf:Nat) (bs:List Nat) (σ:St):Prop :=
  Blk w g 278 #[.pointer (some ⟨gf,0,none⟩),.int .i64 σ.e]/\Jp w F gf bs σ.fr/\(∀b,F b->b≠gf/\b≠g)/\0<=σ.e/\σ.e<=100
def Two (g gf:Nat) (b:Nat):Prop:=b=g\/b=gf
def JB (k:Nat):List Value:=List.replicate k (.int .i64 0)
def Ji (P:Program) (fn:Func) (R:Ending->World->Prop) (H:Nat) (lg:Int) (v:Value) (W:World):Prop :=
  ∀tmps:Array Value,tmps.getD 6 undef = .pointer (some ⟨H,0,none⟩)->bodyPost P fn R .ret { tmps:=tmps,defers:=[] } W
def Jq (bs:List Nat) (at_:Nat):List Nat:=(bs.drop at_).take 1024
def Jy (F:Nat->Prop) (g:Nat) (bs:List Nat) (at_:Nat) (sy lb:Int) (w:World) (e':Ending) (w':World):Prop :=
  Upd (fun b=>b=g) w w' /\
    match Ja sy lb (Qs (Jq bs at_))with
    | .error e=>e' = .returned (.tuple #[.agg #[.int .i64 0,.slice none 0 0],.int .i64 e])/\Q3 w' F g bs at_
    | .ok (lg,N,k)=>∃v,e' = .returned (.tuple #[.agg #[.int .i64 lg,v],.int .i64 0])/\Own w' 3 v (QV N)/\(∀b,v.ownBlock=some b->w.heap.size<=b)/\Q3 w' F g bs (at_+k)/\N.length<=1000
end Go.Proofs.YtakjpcnhhkgfoaaGreat
