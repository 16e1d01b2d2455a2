/- The reference's Times and Rate: so much of an amount. Plain Lean. -/
import Derived.Test.YtmiamdnhofjifaaVRef01P
set_option linter.unusedVariables false
set_option linter.unusedSimpArgs false
namespace Go.Proofs.Ytmiamdnhofjifaa.RTM
open Go Go.RowKit Go.Proofs.YtmiamdnhofjifaaW.PrintWords Go.Proofs.YtmiamdnhofjifaaW.PrintMore Go.Proofs.Ytmiamdnhofjifaa.Rw Go.Proofs.Ytmiamdnhofjifaa.SP Go.Proofs.Ytmiamdnhofjifaa.RP
theorem wrap_ok {x : Int} (h0 : -9223372036854775808 ≤ x) (h1 : x ≤ 9223372036854775807) : wrap64 x = x := by unfold wrap64; omega
def upR (q r d k : Int) : Bool := decide (k = 1 ∧ d ≤ 2 * r) || decide (k = 2 ∧ (d < 2 * r ∨ 2 * r = d ∧ q % 2 = 1))
def tms (x n d k : Int) : Int × Int :=
  if rt x = false ∨ rt n = false ∨ d < 1 ∨ 100000000000000 < d ∨ k < 0 ∨ 2 < k then (0, 2) else if 100000000000000 < x * n / d then (0, 5) else
  if upR (x * n / d) (x * n % d) d k = true then (if 100000000000000 < x * n / d + 1 then (0, 5) else (x * n / d + 1, 0)) else (x * n / d, 0)
theorem j1_ev (q : Int) (b : Bool) (h : 0 ≤ q ∧ q ≤ 100000000000000) : Ev (fun k => haberdashref01_Times.j1 k q b) (if b = true then (if 100000000000000 < q + 1 then (0, 5) else (q + 1, 0)) else (q, 0)) := by
  refine ⟨1, fun k hk => ?_⟩
  obtain ⟨k, rfl⟩ : ∃ m, k = m + 1 := ⟨k - 1, by omega⟩
  show haberdashref01_Times.j1 (k + 1) q b = _
  rw [haberdashref01_Times.j1, wrap_ok (by omega) (by omega), right_f, right_f]
  simp only [Option.bind_some]
  cases b with
  | true =>
    rw [if_pos rfl, if_pos rfl]
    by_cases h2 : 100000000000000 < q + 1
    · rw [if_pos h2, if_neg (by rw [rt_iff]; omega)]
    · rw [if_neg h2, if_pos (by rw [rt_iff]; omega)]
  | false =>
    have hq : rt q = true := rt_iff.2 h
    simp [hq]
theorem bad (x n d r : Int) : Ev (fun k => haberdashref01_Times.j0 k x n d r true) (0, 2) := Ev.step (fun k => by rw [haberdashref01_Times.j0, if_pos rfl]) (Ev.now _)
theorem times_f (x n d r : Int) : Ev (fun k => haberdashref01_Times.f k x n d r) (tms x n d r) := by
  unfold haberdashref01_Times.f tms
  simp only [right_f, Option.bind_some]
  by_cases hc : rt x = false ∨ rt n = false ∨ d < 1 ∨ 100000000000000 < d ∨ r < 0 ∨ 2 < r
  · rw [if_pos hc]
    by_cases h1 : rt x = true
    · simp only [h1, if_true]
      by_cases h2 : rt n = true
      · simp only [h2, if_true]
        by_cases h3 : d < 1
        · simp only [h3, if_true]; exact bad _ _ _ _
        simp only [h3, if_false]
        by_cases h4 : d > 100000000000000
        · simp only [h4, if_true]; exact bad _ _ _ _
        simp only [h4, if_false]
        by_cases h5 : r < 0
        · simp only [h5, if_true]; exact bad _ _ _ _
        simp only [h5, if_false]
        have h6 : r > 2 := by
          rcases hc with h | h | h | h | h | h
          · rw [h1] at h; cases h
          · rw [h2] at h; cases h
          · omega
          · omega
          · omega
          · exact h
        rw [decide_eq_true h6]; exact bad _ _ _ _
      · simp only [h2, if_false]; exact bad _ _ _ _
    · simp only [h1, if_false]; exact bad _ _ _ _
  · rw [if_neg hc]
    simp only [not_or, Bool.not_eq_false] at hc
    obtain ⟨h1, h2, h3, h4, h5, h6⟩ := hc
    have hx := rt_iff.1 h1
    have hn := rt_iff.1 h2
    simp only [h1, h2, h3, h5, show ¬ d > 100000000000000 from h4, if_true, if_false]
    rw [decide_eq_false (show ¬ r > 2 from h6)]
    refine Ev.step (fun k => by rw [haberdashref01_Times.j0, if_neg (by simp)]) ?_
    refine Ev.bind ⟨129, fun k hk => parts_f x n d hx ⟨hn.1, by omega⟩ ⟨by omega, by omega⟩ k (by omega)⟩ ?_
    by_cases hq : 100000000000000 < x * n / d
    · simp only [hq, if_true, if_false, Bool.false_eq_true]
      exact Ev.now _
    · simp only [hq, if_false, if_true]
      have hq0 : 0 ≤ x * n / d := Int.ediv_nonneg (Int.mul_nonneg hx.1 hn.1) (by omega)
      have hr0 := Int.emod_nonneg (x * n) (show d ≠ 0 by omega)
      have hr1 := Int.emod_lt_of_pos (x * n) (show 0 < d by omega)
      generalize x * n / d = q at *
      generalize x * n % d = s at *
      have w2 : wrap64 (2 * s) = 2 * s := wrap_ok (by omega) (by omega)
      have hmod : Int.tmod q 2 = q % 2 := Int.tmod_eq_emod_of_nonneg hq0
      rw [w2, hmod]
      have key : ∀ b, upR q s d r = b → Ev (fun k => haberdashref01_Times.j1 k q b) (if upR q s d r = true then (if 100000000000000 < q + 1 then (0, 5) else (q + 1, 0)) else (q, 0)) := fun b hb => by
        rw [hb]; exact j1_ev q b ⟨hq0, by omega⟩
      have hr : r = 0 ∨ r = 1 ∨ r = 2 := by omega
      rcases hr with rfl | rfl | rfl
      · simp only [show ¬ (0 : Int) = 1 by omega, show ¬ (0 : Int) = 2 by omega, if_false]
        exact key _ (by simp [upR])
      · simp only [if_true, show ¬ (1 : Int) = 2 by omega, if_false]
        by_cases h7 : 2 * s ≥ d
        · simp only [h7, if_true]; exact key _ (by simp [upR, h7])
        · simp only [h7, if_false]; exact key _ (by simp [upR, h7])
      · simp only [show ¬ (2 : Int) = 1 by omega, if_true, if_false]
        by_cases h7 : 2 * s > d
        · simp only [h7, if_true]; exact key _ (by simp [upR, h7])
        · simp only [h7, if_false]
          by_cases h8 : 2 * s = d
          · simp only [h8, if_true]; exact key _ (by simp [upR, h8]; rfl)
          · simp only [h8, if_false]; exact key _ (by simp [upR, h8]; omega)
end Go.Proofs.Ytmiamdnhofjifaa.RTM
