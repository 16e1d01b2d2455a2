/- money: rates; what is asked that may not be asked; the law's own small functions. -/
import Derived.Test.YtonpcolkmecddaaProg
import Derived.Below
import Derived.Deep.Draws
import Derived.Deep.AppendLies
import Derived.Maps.AppendAt
import Derived.OwnWalk
import Derived.Laws.BytesArg
import Derived.Laws.MakeOwn
import Derived.Laws.OwnMore
import Derived.Deep.OwnRows
import Derived.Tactics
import Derived.Lib.ConvBytes
import Derived.Laws.Slices
import Derived.WalkKit
import Derived.KernelRfl
import Derived.RowKit3
import Derived.Deep.LoopGhost
import Derived.Deep.QuietTactic
import Derived.BigQuiet
import Derived.WideLaws
import Derived.Deep.DeepCutAuto
import Derived.Deep.CutBlock
import Derived.Deep.RegionHeld3
import Derived.Laws.Rows
import Derived.Lib.AppendStr
import Derived.ArgAppend
import Derived.Laws.IdiomCopy
import Derived.OrdersHeld
import Derived.Laws.BitsLemmas
import Derived.RowKit
import Derived.BigRegion
import Derived.Outline
import Derived.RegionTactic
import Derived.StillTailTactics
import Derived.Deep.RegionLaw
import Derived.Test.YtonpcolkmecddaaVMoney2
set_option linter.unusedVariables false
set_option linter.unusedSimpArgs false
namespace Go.Proofs.Ytonpcolkmecddaa.MN
open Go Go.RowKit Go.Proofs.Ytonpcolkmecddaa.QR Go.Proofs.Ytonpcolkmecddaa.DV

set_option maxRecDepth 100000 in
set_option maxHeartbeats 4000000 in
theorem rate_good (x r k u v : Int) (w : World) (hx : 0 ≤ x ∧ x ≤ 100000000000000) (hr : 0 ≤ r ∧ r ≤ 10000) (hk : 0 ≤ k ∧ k < 3) (h : times x r 10000 k = (u, v)) :
    Calls Try.prog 31 #[.int .i64 x, .int .i64 r, .int .i64 k] w fun e w' => e = .returned (.tuple #[.int .i64 u, .int .i64 v]) ∧ Kp (fun _ => False) w w' := by
  have t1 : decide (r < 0) = false := decide_eq_false (by omega)
  have t2 : decide (10000 < r) = false := decide_eq_false (by omega)
  have hc := fun W => times_good x r 10000 k W _ rfl hx ⟨hr.1, by omega⟩ (by decide) hk
  rw [h] at hc
  clear h hx hr hk
  go_enter Try.func31, Try.ntmps31
  go_wp2_with fail
  refine (hc _).mono ?_; rintro _ w2 ⟨rfl, hk2⟩
  clear hc
  go_wp2
  go_ret2
  exact ⟨rfl, hk2⟩

set_option maxRecDepth 100000 in
theorem rate_bad (x r k : Int) (w : World) (hr : ¬ (0 ≤ r ∧ r ≤ 10000)) :
    Calls Try.prog 31 #[.int .i64 x, .int .i64 r, .int .i64 k] w fun e w' => e = .returned (.tuple #[.int .i64 0, .int .i64 2]) ∧ Kp (fun _ => False) w w' := by
  by_cases h : r < 0
  · have t1 : decide (r < 0) = true := decide_eq_true (by omega)
    go_enter Try.func31, Try.ntmps31
    go_wp2
    go_ret2
    exact ⟨rfl, Kp.refl _ _⟩
  · have t1 : decide (r < 0) = false := decide_eq_false (by omega)
    have t2 : decide (10000 < r) = true := decide_eq_true (by omega)
    go_enter Try.func31, Try.ntmps31
    go_wp2
    go_ret2
    exact ⟨rfl, Kp.refl _ _⟩

end Go.Proofs.Ytonpcolkmecddaa.MN
