/- What came in, opened by its type: each kind reads its data. -/
import Derived.Test.YtdmeepjefccpgaaVWWords
import Derived.Deep.Slices
import Derived.WideLaws
import Derived.ProofKit
set_option linter.unusedVariables false
set_option linter.unusedSimpArgs false
namespace Go.Proofs.Ytdmeepjefccpgaa.OK
open Go Go.RowKit Go.ChangeShapes Go.WideShapes Go.Deep Go.Proofs.YtdmeepjefccpgaaW.PrintWords

/-- Data of type t are of kind d, and good. -/
structure Op {α : Type} (P : Program) (d : Kd α) (t : TypeId) (good : α → Prop) : Prop where
  go : ∀ {H : Type} {enc : TypeId × Value → H} {w : World} {base : Nat} {spare : Nat → Bool} {held : Bool} {n : Nat} {cs : List Value} {x : DataW H × List MemPlace}, DataW.trod enc P w base spare held n t cs = some x → ∃ a, d.K w a cs ∧ good a

section
variable {P : Program}
end
end Go.Proofs.Ytdmeepjefccpgaa.OK
