/- The reference's parts: so much of an amount, bit by bit. -/
import Derived.Test.YtndecmbcekdafaaProg
import Derived.Below
import Derived.Deep.Draws
import Derived.Deep.AppendLies
import Derived.Maps.AppendAt
import Derived.OwnWalk
import Derived.Laws.BytesArg
import Derived.Laws.MakeOwn
import Derived.Laws.OwnMore
import Derived.Deep.OwnRows
import Derived.Tactics
import Derived.Lib.ConvBytes
import Derived.Laws.Slices
import Derived.WalkKit
import Derived.KernelRfl
import Derived.RowKit3
import Derived.Deep.LoopGhost
import Derived.Deep.QuietTactic
import Derived.BigQuiet
import Derived.WideLaws
import Derived.Deep.DeepCutAuto
import Derived.Deep.CutBlock
import Derived.Deep.RegionHeld3
import Derived.Laws.Rows
import Derived.Lib.AppendStr
import Derived.ArgAppend
import Derived.Laws.IdiomCopy
import Derived.OrdersHeld
import Derived.Laws.BitsLemmas
import Derived.RowKit
import Derived.BigRegion
import Derived.Outline
import Derived.RegionTactic
import Derived.StillTailTactics
import Derived.Deep.RegionLaw
import Derived.Test.YtndecmbcekdafaaVDivBits
import Derived.Test.YtndecmbcekdafaaVQRow
set_option linter.unusedVariables false
set_option linter.unusedSimpArgs false
namespace Go.Proofs.Ytndecmbcekdafaa.PT
open Go Go.RowKit Go.Proofs.Ytndecmbcekdafaa.QR

/-- The upper bits of n, but k. -/
def up (n k : Nat) : Nat := n / 2 ^ k
theorem up_le (n k : Nat) : up n k ≤ n := Nat.div_le_self _ _

/-- A part at the k lower bits. -/
def Part (x : Int) (n : Nat) (d : Int) (k : Nat) (q r : Int) : Prop := q = x * (up n k : Int) / d ∧ r = x * (up n k : Int) % d

end Go.Proofs.Ytndecmbcekdafaa.PT
