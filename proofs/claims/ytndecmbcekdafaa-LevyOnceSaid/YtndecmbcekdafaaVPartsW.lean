/- The reference's parts: the walk. -/
import Derived.Test.YtndecmbcekdafaaProg
import Derived.Below
import Derived.Deep.Draws
import Derived.Deep.AppendLies
import Derived.Maps.AppendAt
import Derived.OwnWalk
import Derived.Laws.BytesArg
import Derived.Laws.MakeOwn
import Derived.Laws.OwnMore
import Derived.Deep.OwnRows
import Derived.Tactics
import Derived.Lib.ConvBytes
import Derived.Laws.Slices
import Derived.WalkKit
import Derived.KernelRfl
import Derived.RowKit3
import Derived.Deep.LoopGhost
import Derived.Deep.QuietTactic
import Derived.BigQuiet
import Derived.WideLaws
import Derived.Deep.DeepCutAuto
import Derived.Deep.CutBlock
import Derived.Deep.RegionHeld3
import Derived.Laws.Rows
import Derived.Lib.AppendStr
import Derived.ArgAppend
import Derived.Laws.IdiomCopy
import Derived.OrdersHeld
import Derived.Laws.BitsLemmas
import Derived.RowKit
import Derived.BigRegion
import Derived.Outline
import Derived.RegionTactic
import Derived.StillTailTactics
import Derived.Deep.RegionLaw
import Derived.Test.YtndecmbcekdafaaVParts
set_option linter.unusedVariables false
set_option linter.unusedSimpArgs false
namespace Go.Proofs.Ytndecmbcekdafaa.PT
open Go Go.RowKit Go.Proofs.Ytndecmbcekdafaa.QR

def parts (x : Int) (n : Nat) (d : Int) : Int × Int × Bool := if 100000000000000 < x * (n : Int) / d then (0, 0, false) else (x * (n : Int) / d, x * (n : Int) % d, true)

theorem high {x : Int} {n : Nat} {d : Int} {k : Nat} {q r : Int} {o1 o2 : Int} {o3 : Bool} (hD : Hid (1 ≤ d ∧ d ≤ 2305843009213693952)) (hX : Hid (0 ≤ x ∧ x ≤ 100000000000000)) (h : Hid (Part x n d k q r)) (hM : 100000000000000 < q) (ho : Hid (parts x n d = (o1, o2, o3))) :
    Hid (o1 = 0 ∧ o2 = 0 ∧ o3 = false) := by
  have h1 := h.out.1
  have hle : x * (up n k : Int) ≤ x * (n : Int) := Int.mul_le_mul_of_nonneg_left (by have := up_le n k; omega) hX.out.1
  have h2 : q ≤ x * (n : Int) / d := by rw [h1]; exact Int.ediv_le_ediv (by have := hD.out; omega) hle
  have h3 := ho.out
  unfold parts at h3
  rw [if_pos (by omega)] at h3
  injection h3 with h3 h4
  injection h4 with h4 h5
  exact ⟨h3.symm, h4.symm, h5.symm⟩
end Go.Proofs.Ytndecmbcekdafaa.PT
