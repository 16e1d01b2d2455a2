/- The trial that the statements on levy begin with. Plain Lean. -/
import Derived.Test.YtmiamdnhofjifaaVLevyP
import Derived.Test.YtmiamdnhofjifaaVPlainP
import Derived.Test.YtmiamdnhofjifaaVRwRulesZ
set_option linter.unusedVariables false
set_option linter.unusedSimpArgs false
namespace Go.Proofs.Ytmiamdnhofjifaa.L19
open Go Go.RowKit Go.Proofs.YtmiamdnhofjifaaW.PrintWords Go.Proofs.YtmiamdnhofjifaaW.PrintMore Go.Proofs.Ytmiamdnhofjifaa.Rw Go.Proofs.Ytmiamdnhofjifaa.EP Go.Proofs.Ytmiamdnhofjifaa.XP Go.Proofs.Ytmiamdnhofjifaa.YP
theorem awake_ev : Ev (fun k => haberdashlaw19_awake.f k) true := by
  unfold haberdashlaw19_awake.f
  refine Ev.bind (levy_f true false 1 _ _ false _ _ 0) ?_
  rw [show levyS true false 1 [(⟨(⟨#[122]⟩ : ByteArray), [], 2500, 0⟩ : Zn)] (⟨#[122]⟩ : ByteArray) false [(⟨#[99]⟩ : ByteArray)] [100] 0 = ([80], [20], 0, 0, 0) from by decide +kernel]
  simp only [if_true]
  refine Ev.bind (PL.int64_f _ _ (by decide)) ?_
  simp only [decide_true, if_true]
  refine Ev.bind (PL.int64_f _ _ (by decide)) ?_
  simp only [decide_true]
  exact Ev.now _
end Go.Proofs.Ytmiamdnhofjifaa.L19
