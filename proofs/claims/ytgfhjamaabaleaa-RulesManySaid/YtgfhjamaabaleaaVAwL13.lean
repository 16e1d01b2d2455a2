/- The trial that the statements on rules begin with. Plain Lean. -/
import Derived.Test.YtgfhjamaabaleaaVTaxP
import Derived.Test.YtgfhjamaabaleaaVRwL13a
set_option linter.unusedVariables false
set_option linter.unusedSimpArgs false
namespace Go.Proofs.Ytgfhjamaabaleaa.LRZ
open Go Go.RowKit Go.Proofs.YtgfhjamaabaleaaW.PrintWords Go.Proofs.YtgfhjamaabaleaaW.PrintMore Go.Proofs.Ytgfhjamaabaleaa.Rw Go.Proofs.Ytgfhjamaabaleaa.EP Go.Proofs.Ytgfhjamaabaleaa.XP
theorem ev_of_mono {α : Type} {g : Nat → Option α} (hm : ∀ k, LeO (g k) (g (k + 1))) {a : α} {n : Nat} (h : g n = some a) : Ev g a := by
  refine ⟨n, fun k hk => ?_⟩
  induction hk with
  | refl => exact h
  | step _ ih => exact hm _ _ ih
theorem awake_ev : Ev (fun k => haberdashlaw13_awake.f k) true :=
  ev_of_mono (n := 20) haberdashlaw13_awake.mono (by decide +kernel)
end Go.Proofs.Ytgfhjamaabaleaa.LRZ
