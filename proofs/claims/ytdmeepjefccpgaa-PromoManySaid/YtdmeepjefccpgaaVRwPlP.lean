/- A contract of the program: out of what the kit's printer wrote for this seat. -/
import Derived.Test.YtdmeepjefccpgaaVRwA
import Derived.Test.YtdmeepjefccpgaaVRwAb
import Derived.Test.YtdmeepjefccpgaaVRwMon
import Derived.Test.YtdmeepjefccpgaaVHFun
import Derived.Test.YtdmeepjefccpgaaProg
import Derived.Below
import Derived.Deep.Draws
import Derived.Deep.AppendLies
import Derived.Maps.AppendAt
import Derived.OwnWalk
import Derived.Laws.BytesArg
import Derived.Laws.MakeOwn
import Derived.Laws.OwnMore
import Derived.Deep.OwnRows
import Derived.Tactics
import Derived.Lib.ConvBytes
import Derived.Laws.Slices
import Derived.WalkKit
import Derived.KernelRfl
import Derived.RowKit3
import Derived.Deep.LoopGhost
import Derived.Deep.QuietTactic
import Derived.BigQuiet
import Derived.WideLaws
import Derived.Deep.DeepCutAuto
import Derived.Deep.CutBlock
import Derived.Deep.RegionHeld3
import Derived.Laws.Rows
import Derived.Lib.AppendStr
import Derived.ArgAppend
import Derived.Laws.IdiomCopy
import Derived.OrdersHeld
import Derived.Laws.BitsLemmas
import Derived.RowKit
import Derived.BigRegion
import Derived.Outline
import Derived.RegionTactic
import Derived.StillTailTactics
import Derived.Deep.RegionLaw
namespace Go.Proofs.Ytdmeepjefccpgaa.Rw
open Go.RowKit Go.Proofs.YtdmeepjefccpgaaW.PrintWords Go.Proofs.YtdmeepjefccpgaaW.PrintLast Go.Proofs.YtdmeepjefccpgaaW.PrintMore
attribute [local go_sem] max2_int min2_int max_two min_two max_three min_three max_four min_four   -- for this text's walks alone
set_option linter.unusedVariables false
set_option linter.unusedSimpArgs false
attribute [local go_sem high] leqS gtrS
theorem brow_ {w W : Go.World} {g : Nat} {cs : Array Go.Value} (h : Below w.heap.size w W) (hg : w.heap.size ≤ g) : Below w.heap.size w (W.setRow g cs) := ⟨h.os, h.tape, h.output, by rw [Go.size_setRow]; exact h.size, fun i hi => (Go.setRow_other _ _ _ _ (by omega)).trans (h.block i hi)⟩
theorem nameL_ {P : Go.Program} {ops : Array Go.Oper} {rest : List Go.Oper} {a : Go.Act} {Q : Go.Exit → Go.Act → Go.World → Prop} {w : Go.World} (h : ∀ wA, wA = w → Go.wpList P ops Q rest a wA) : Go.wpList P ops Q rest a w := h w rfl
end Go.Proofs.Ytdmeepjefccpgaa.Rw
