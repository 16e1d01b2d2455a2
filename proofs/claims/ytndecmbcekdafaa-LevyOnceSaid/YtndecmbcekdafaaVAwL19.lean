/- The trial that the statements on levy begin with. Plain Lean. -/
import Derived.Test.YtndecmbcekdafaaVLevyP
import Derived.Test.YtndecmbcekdafaaVPlainP
import Derived.Test.YtndecmbcekdafaaVRwL19b
set_option linter.unusedVariables false
set_option linter.unusedSimpArgs false
namespace Go.Proofs.Ytndecmbcekdafaa.L19
open Go Go.RowKit Go.Proofs.YtndecmbcekdafaaW.PrintWords Go.Proofs.YtndecmbcekdafaaW.PrintMore Go.Proofs.Ytndecmbcekdafaa.Rw Go.Proofs.Ytndecmbcekdafaa.EP Go.Proofs.Ytndecmbcekdafaa.XP Go.Proofs.Ytndecmbcekdafaa.YP
theorem awake_ev : Ev (fun k => haberdashlaw19_awake.f k) true := by
  unfold haberdashlaw19_awake.f
  refine Ev.bind (levy_f true false 1 _ _ false _ _ 0) ?_
  rw [show levyS true false 1 [(⟨(⟨#[122]⟩ : ByteArray), [], 2500, 0⟩ : Zn)] (⟨#[122]⟩ : ByteArray) false [(⟨#[99]⟩ : ByteArray)] [100] 0 = ([80], [20], 0, 0, 0) from by decide +kernel]
  simp only [if_true]
  refine Ev.bind (PL.int64_f _ _ (by decide)) ?_
  simp only [decide_true, if_true]
  refine Ev.bind (PL.int64_f _ _ (by decide)) ?_
  simp only [decide_true]
  exact Ev.now _
end Go.Proofs.Ytndecmbcekdafaa.L19
