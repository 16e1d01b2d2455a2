/- money: sums, differences, products, rates. -/
import Derived.Test.YtndecmbcekdafaaProg
import Derived.Below
import Derived.Deep.Draws
import Derived.Deep.AppendLies
import Derived.Maps.AppendAt
import Derived.OwnWalk
import Derived.Laws.BytesArg
import Derived.Laws.MakeOwn
import Derived.Laws.OwnMore
import Derived.Deep.OwnRows
import Derived.Tactics
import Derived.Lib.ConvBytes
import Derived.Laws.Slices
import Derived.WalkKit
import Derived.KernelRfl
import Derived.RowKit3
import Derived.Deep.LoopGhost
import Derived.Deep.QuietTactic
import Derived.BigQuiet
import Derived.WideLaws
import Derived.Deep.DeepCutAuto
import Derived.Deep.CutBlock
import Derived.Deep.RegionHeld3
import Derived.Laws.Rows
import Derived.Lib.AppendStr
import Derived.ArgAppend
import Derived.Laws.IdiomCopy
import Derived.OrdersHeld
import Derived.Laws.BitsLemmas
import Derived.RowKit
import Derived.BigRegion
import Derived.Outline
import Derived.RegionTactic
import Derived.StillTailTactics
import Derived.Deep.RegionLaw
import Derived.Test.YtndecmbcekdafaaVMoney
set_option linter.unusedVariables false
set_option linter.unusedSimpArgs false
namespace Go.Proofs.Ytndecmbcekdafaa.MN
open Go Go.RowKit Go.Proofs.Ytndecmbcekdafaa.QR Go.Proofs.Ytndecmbcekdafaa.DV

theorem right_iff {n : Int} : right n = true ↔ 0 ≤ n ∧ n ≤ 100000000000000 := by unfold right; simp
theorem right_isnt (n : Int) (w : World) (h : right n = false) : Calls Try.prog 126 #[.int .i64 n] w fun e w' => e = .returned (.bool false) ∧ ∃ k, w' = w.drewN k := by
  rw [← h]; exact right_calls n w

def add (a b : Int) : Int × Int := if right a = false ∨ right b = false then (0, 2) else if 100000000000000 < a + b then (0, 5) else (a + b, 0)
end Go.Proofs.Ytndecmbcekdafaa.MN
