/- The reference's Upto and Piece. Plain Lean. -/
import Derived.Test.YtegjbbblpnenfaaVRef01T
import Derived.Test.YtegjbbblpnenfaaVSharePP
set_option linter.unusedVariables false
set_option linter.unusedSimpArgs false
namespace Go.Proofs.Ytegjbbblpnenfaa.RTM
open Go Go.RowKit Go.Proofs.YtegjbbblpnenfaaW.PrintWords Go.Proofs.YtegjbbblpnenfaaW.PrintMore Go.Proofs.Ytegjbbblpnenfaa.Rw Go.Proofs.Ytegjbbblpnenfaa.SP Go.Proofs.Ytegjbbblpnenfaa.RP Go.Proofs.Ytegjbbblpnenfaa.SH
open Go.Proofs.Ytegjbbblpnenfaa.RTM (wrap_ok)
theorem tms_upto (x n b : Int) (hx : rt x = true) (hn : 1 ≤ n ∧ n ≤ 100000) (hb : 0 ≤ b ∧ b ≤ n) : tms x b n 0 = (x * b / n, 0) := by
  have hr := upto_range x n b hx hn hb
  unfold tms
  rw [if_neg (by rw [hx, rt_iff.2 (show 0 ≤ b ∧ b ≤ 100000000000000 by omega)]; simp; omega), if_neg (by omega), if_neg (by simp [upR])]
theorem upto_r (x n b : Int) : Ev (fun k => haberdashref01_Upto.f k x n b) (upto x n b) := by
  unfold haberdashref01_Upto.f
  simp only [RP.right_f, Option.bind_some]
  have bad : (n < 1 ∨ 100000 < n ∨ b < 0 ∨ n < b) → upto x n b = (0, 2) := fun h => by unfold upto; exact if_pos (.inr h)
  by_cases hx : rt x = true
  · simp only [hx, if_true]
    by_cases h1 : n < 1
    · simp only [h1, if_true]; rw [bad (by omega)]; exact Ev.now _
    simp only [h1, if_false]
    by_cases h2 : n > 100000
    · simp only [h2, if_true]; rw [bad (by omega)]; exact Ev.now _
    simp only [h2, if_false]
    by_cases h3 : b < 0
    · simp only [h3, if_true]; rw [bad (by omega)]; exact Ev.now _
    simp only [h3, if_false]
    by_cases h4 : b > n
    · simp only [h4, if_true]; rw [bad (by omega)]; exact Ev.now _
    simp only [h4, if_false]
    refine Ev.bind (times_f x b n 0) ?_
    rw [tms_upto x n b hx ⟨by omega, by omega⟩ ⟨by omega, by omega⟩, upto_ok x n b hx ⟨by omega, by omega⟩ ⟨by omega, by omega⟩]
    exact Ev.now _
  · have hx' : rt x = false := by simpa using hx
    simp only [hx', Bool.false_eq_true, if_false]
    rw [show upto x n b = (0, 2) from by unfold upto; exact if_pos (.inl hx')]
    exact Ev.now _
theorem piece_bad (x n a b : Int) : Ev (fun k => haberdashref01_Piece.j0 k x n a b true) (0, 2) := Ev.step (fun k => by rw [haberdashref01_Piece.j0, if_pos rfl]) (Ev.now _)
theorem piece_r (x n a b : Int) : Ev (fun k => haberdashref01_Piece.f k x n a b) (piece x n a b) := by
  unfold haberdashref01_Piece.f
  by_cases h1 : a < 0
  · simp only [h1, if_true]
    rw [show piece x n a b = (0, 2) from by unfold piece; rw [if_pos (by omega)]]
    exact piece_bad _ _ _ _
  simp only [h1, if_false]
  by_cases h2 : a > b
  · rw [decide_eq_true h2, show piece x n a b = (0, 2) from by unfold piece; rw [if_pos (by omega)]]
    exact piece_bad _ _ _ _
  rw [decide_eq_false h2]
  refine Ev.step (fun k => by rw [haberdashref01_Piece.j0, if_neg (by simp)]) ?_
  refine Ev.bind (upto_r x n b) ?_
  by_cases h3 : rt x = false ∨ n < 1 ∨ 100000 < n ∨ b < 0 ∨ n < b
  · rw [show upto x n b = (0, 2) from by unfold upto; rw [if_pos h3]]
    rw [show piece x n a b = (0, 2) from by
      unfold piece; rw [if_pos]
      rcases h3 with h | h | h | h | h
      · exact .inl h
      · exact .inr (.inl h)
      · exact .inr (.inr (.inl h))
      · omega
      · exact .inr (.inr (.inr (.inr (.inr h))))]
    simp only [show ¬ (2 : Int) = 0 by omega, if_false]
    exact Ev.now _
  · simp only [not_or, Bool.not_eq_false] at h3
    obtain ⟨g1, g2, g3, g4, g5⟩ := h3
    have e1 := upto_ok x n b g1 ⟨by omega, by omega⟩ ⟨by omega, by omega⟩
    have e2 := upto_ok x n a g1 ⟨by omega, by omega⟩ ⟨by omega, by omega⟩
    have r1 := upto_range x n b g1 ⟨by omega, by omega⟩ ⟨by omega, by omega⟩
    have r2 := upto_range x n a g1 ⟨by omega, by omega⟩ ⟨by omega, by omega⟩
    rw [e1]
    simp only [if_true]
    refine Ev.bind (upto_r x n a) ?_
    rw [e2, show piece x n a b = (x * b / n - x * a / n, 0) from by unfold piece; rw [if_neg (by rw [g1]; simp; omega)]]
    rw [wrap_ok (by omega) (by omega)]
    exact Ev.now _
end Go.Proofs.Ytegjbbblpnenfaa.RTM
