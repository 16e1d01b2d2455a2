/- The reference's Times and Rate, whatever is asked. -/
import Derived.Test.YtonpcolkmecddaaProg
import Derived.Below
import Derived.Deep.Draws
import Derived.Deep.AppendLies
import Derived.Maps.AppendAt
import Derived.OwnWalk
import Derived.Laws.BytesArg
import Derived.Laws.MakeOwn
import Derived.Laws.OwnMore
import Derived.Deep.OwnRows
import Derived.Tactics
import Derived.Lib.ConvBytes
import Derived.Laws.Slices
import Derived.WalkKit
import Derived.KernelRfl
import Derived.RowKit3
import Derived.Deep.LoopGhost
import Derived.Deep.QuietTactic
import Derived.BigQuiet
import Derived.WideLaws
import Derived.Deep.DeepCutAuto
import Derived.Deep.CutBlock
import Derived.Deep.RegionHeld3
import Derived.Laws.Rows
import Derived.Lib.AppendStr
import Derived.ArgAppend
import Derived.Laws.IdiomCopy
import Derived.OrdersHeld
import Derived.Laws.BitsLemmas
import Derived.RowKit
import Derived.BigRegion
import Derived.Outline
import Derived.RegionTactic
import Derived.StillTailTactics
import Derived.Deep.RegionLaw
import Derived.Test.YtonpcolkmecddaaVMoneyRef2
set_option linter.unusedVariables false
set_option linter.unusedSimpArgs false
namespace Go.Proofs.Ytonpcolkmecddaa.MN
open Go Go.RowKit Go.Proofs.Ytonpcolkmecddaa.QR Go.Proofs.Ytonpcolkmecddaa.DV Go.Proofs.Ytonpcolkmecddaa.PT

theorem rtimes_calls (x n d k u v : Int) (w : World) (h : times x n d k = (u, v)) :
    Calls Try.prog 39 #[.int .i64 x, .int .i64 n, .int .i64 d, .int .i64 k] w fun e w' => e = .returned (.tuple #[.int .i64 u, .int .i64 v]) ∧ ∃ m, w' = w.drewN m := by
  unfold times at h
  by_cases ha : asked x n d k = false
  · rw [if_pos ha] at h
    cases h
    exact rtimes_bad x n d k w ha
  · rw [if_neg ha] at h
    have ha := rt ha
    unfold asked at ha
    simp at ha
    obtain ⟨⟨⟨⟨⟨h1, h2⟩, h3⟩, h4⟩, h5⟩, h6⟩ := ha
    have hd := right_iff.1 h3
    by_cases hM : 100000000000000 < x * n / d
    · rw [if_pos hM] at h
      cases h
      exact rtimes_high x n d k w h1 h2 ⟨by omega, by omega⟩ ⟨h5, h6⟩ hM
    · rw [if_neg hM] at h
      have hl := rtimes_low x n d k _ _ _ w h1 h2 ⟨by omega, by omega⟩ ⟨h5, h6⟩ hM rfl rfl (Int.ediv_nonneg (Int.mul_nonneg (right_iff.1 h1).1 (right_iff.1 h2).1) hd.1) rfl
      rw [h] at hl
      exact hl

set_option maxRecDepth 100000 in
set_option maxHeartbeats 4000000 in
theorem rrate_calls (x r k u v : Int) (w : World) (h : (if r < 0 ∨ 10000 < r then (0, 2) else times x r 10000 k) = (u, v)) :
    Calls Try.prog 40 #[.int .i64 x, .int .i64 r, .int .i64 k] w fun e w' => e = .returned (.tuple #[.int .i64 u, .int .i64 v]) ∧ ∃ m, w' = w.drewN m := by
  by_cases hr : r < 0 ∨ 10000 < r
  · rw [if_pos hr] at h
    cases h
    by_cases h : r < 0
    · have t1 : decide (r < 0) = true := decide_eq_true (by omega)
      go_enter Try.func40, Try.ntmps40
      go_wp2
      go_ret2
      exact ⟨rfl, 0, rfl⟩
    · have t1 : decide (r < 0) = false := decide_eq_false (by omega)
      have t2 : decide (10000 < r) = true := decide_eq_true (by omega)
      go_enter Try.func40, Try.ntmps40
      go_wp2
      go_ret2
      exact ⟨rfl, 0, rfl⟩
  · rw [if_neg hr] at h
    have t1 : decide (r < 0) = false := decide_eq_false (by omega)
    have t2 : decide (10000 < r) = false := decide_eq_false (by omega)
    have hc := fun W => rtimes_calls x r 10000 k u v W h
    clear h hr
    go_enter Try.func40, Try.ntmps40
    go_wp2_with fail
    refine (hc _).mono ?_; rintro _ w2 ⟨rfl, m, rfl⟩
    clear hc
    go_wp2
    go_ret2
    exact ⟨rfl, _, rfl⟩

end Go.Proofs.Ytonpcolkmecddaa.MN
