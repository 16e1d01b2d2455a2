/-
  One step of a long division by halves of a word, and the whole: plain numbers, no program in sight.
-/
namespace Go.Proofs.Ytmiamdnhofjifaa.DV

/-- Half a word. -/
abbrev H : Int := 4294967296

theorem mul_le {a b c : Int} (h : a ≤ b) (hc : 0 ≤ c) : a * c ≤ b * c := Int.mul_le_mul_of_nonneg_right h hc

/-- What is known in a step: y = y1 * H + y0; u < y; what is divided is u * H + d. -/
structure Step (y y1 y0 u d : Int) : Prop where
  hy : y = y1 * 4294967296 + y0
  h0 : 0 ≤ y0
  h0' : y0 < 4294967296
  h1 : 2147483648 ≤ y1
  h1' : y1 < 4294967296
  hu : 0 ≤ u
  hu' : u < y
  hd : 0 ≤ d
  hd' : d < 4294967296

/-- A guess q with its rest r: q * y1 + r = u, and q is no less than the right one. -/
structure Guess (y y1 y0 u d q r : Int) : Prop where
  hq : 0 ≤ q
  hr : 0 ≤ r
  e : q * y1 + r = u
  up : ∀ p, p * y ≤ u * 4294967296 + d → p ≤ q

theorem first_guess {y y1 y0 u d : Int} (h : Step y y1 y0 u d) : Guess y y1 y0 u d (u / y1) (u - u / y1 * y1) := by
  have h1 := h.h1
  have hm := Int.emod_nonneg u (show y1 ≠ 0 by omega)
  have hdm := Int.mul_ediv_add_emod u y1
  have hdm2 : u / y1 * y1 = y1 * (u / y1) := Int.mul_comm _ _
  refine ⟨Int.ediv_nonneg h.hu (by omega), by omega, by omega, fun p hp => ?_⟩
  -- p * y1 * H ≤ p * y ≤ u * H + d < (u + 1) * H
  rcases Int.lt_or_le p 0 with hn | hn
  · have := Int.ediv_nonneg h.hu (show 0 ≤ y1 by omega); omega
  · have h2 : p * y = p * y1 * 4294967296 + p * y0 := by rw [h.hy, Int.mul_add, Int.mul_assoc]
    have h3 : 0 ≤ p * y0 := Int.mul_nonneg hn h.h0
    have h4 : p * y1 ≤ u := by have := h.hd'; omega
    exact (Int.le_ediv_iff_mul_le (by omega)).2 h4

/-- The first guess is at most one above H. -/
theorem first_le {y y1 y0 u d : Int} (h : Step y y1 y0 u d) : u / y1 ≤ 4294967297 := by
  have h1 := h.h1
  have : u / y1 < 4294967298 := by
    rw [Int.ediv_lt_iff_lt_mul (by omega)]
    have := h.hu'; have := h.hy; have := h.h0'; omega
  omega

/-- One less, where the guess is too great. -/
theorem next_guess {y y1 y0 u d q r : Int} (h : Step y y1 y0 u d) (g : Guess y y1 y0 u d q r) (ht : 4294967296 ≤ q ∨ r * 4294967296 + d < q * y0) : 0 < q ∧ Guess y y1 y0 u d (q - 1) (r + y1) := by
  have h1 := h.h1
  have hq0 : 0 < q := by
    rcases ht with ht | ht
    · omega
    · rcases Int.lt_or_le 0 q with h2 | h2
      · exact h2
      · have : q = 0 := by have := g.hq; omega
        rw [this, Int.zero_mul] at ht
        have := g.hr; have := h.hd
        omega
  refine ⟨hq0, ⟨by omega, by have := g.hr; omega, ?_, fun p hp => ?_⟩⟩
  · have := g.e; rw [Int.sub_mul]; omega
  · have hpq := g.up p hp
    rcases Int.lt_or_le p q with h2 | h2
    · omega
    · exfalso
      have : p = q := by omega
      subst this
      have e1 : p * y = p * y1 * 4294967296 + p * y0 := by rw [h.hy, Int.mul_add, Int.mul_assoc]
      have e2 := g.e
      rcases ht with ht | ht
      · -- p ≥ H, but p * y ≤ u * H + d < y * H
        have e3 := mul_le ht (show 0 ≤ y by have := h.hu; have := h.hu'; omega)
        have := h.hu'; have := h.hd'
        have e4 : (u + 1) * 4294967296 ≤ y * 4294967296 := mul_le (by omega) (by omega)
        omega
      · omega

/-- A guess that is not too great is right. -/
theorem right_guess {y y1 y0 u d q r : Int} (h : Step y y1 y0 u d) (g : Guess y y1 y0 u d q r) (ht : q * y0 ≤ r * 4294967296 + d) : q = (u * 4294967296 + d) / y ∧ 0 ≤ u * 4294967296 + d - q * y ∧ u * 4294967296 + d - q * y < y ∧ q < 4294967296 := by
  have hy0 : 0 < y := by have := h.hu; have := h.hu'; omega
  have e1 : q * y = q * y1 * 4294967296 + q * y0 := by rw [h.hy, Int.mul_add, Int.mul_assoc]
  have e2 := g.e
  have hle : q * y ≤ u * 4294967296 + d := by omega
  have hlt : u * 4294967296 + d < (q + 1) * y := by
    rcases Int.lt_or_le (u * 4294967296 + d) ((q + 1) * y) with h2 | h2
    · exact h2
    · have := g.up (q + 1) h2; omega
  have hlt' : (q + 1) * y = q * y + y := by rw [Int.add_mul, Int.one_mul]
  refine ⟨?_, by omega, by omega, ?_⟩
  · refine Int.le_antisymm ((Int.le_ediv_iff_mul_le hy0).2 hle) ?_
    have : (u * 4294967296 + d) / y < q + 1 := by rw [Int.ediv_lt_iff_lt_mul hy0]; exact hlt
    omega
  · rcases Int.lt_or_le q 4294967296 with h2 | h2
    · exact h2
    · have e3 := mul_le h2 (show 0 ≤ y by omega)
      have e4 : (u + 1) * 4294967296 ≤ y * 4294967296 := mul_le (by have := h.hu'; omega) (by omega)
      have := h.hd'
      omega

/-- Where the rest has grown past H, the guess is right. -/
theorem past {y y1 y0 u d q r : Int} (h : Step y y1 y0 u d) (hq' : q ≤ 4294967296) (hr : 4294967296 ≤ r) : q * y0 ≤ r * 4294967296 + d := by
  have e1 : q * y0 ≤ 4294967296 * y0 := mul_le hq' h.h0
  have := h.h0'; have := h.hd
  omega

/-- What fits in a word does not go round. -/
theorem fits (q y0 : Int) (hq : 0 ≤ q) (hq' : q ≤ 4294967297) (h0 : 0 ≤ y0) (h0' : y0 < 4294967296) : 0 ≤ q * y0 ∧ q * y0 < 18446744073709551616 := by
  refine ⟨Int.mul_nonneg hq h0, ?_⟩
  have e1 : q * y0 ≤ 4294967297 * y0 := mul_le hq' h0
  omega

/-- The whole: two steps. -/
theorem two_steps (Y q1 q0 un21 a b : Int) (hY : 0 < Y) (h1 : un21 = a - q1 * Y) (h0 : q0 = (un21 * 4294967296 + b) / Y) :
    (a * 4294967296 + b) / Y = q1 * 4294967296 + q0 ∧ (a * 4294967296 + b) % Y = un21 * 4294967296 + b - q0 * Y := by
  have e : a * 4294967296 + b = (un21 * 4294967296 + b) + q1 * 4294967296 * Y := by
    have : q1 * 4294967296 * Y = q1 * Y * 4294967296 := by rw [Int.mul_assoc, Int.mul_comm 4294967296 Y, ← Int.mul_assoc]
    omega
  rw [e, Int.add_mul_ediv_right _ _ (by omega), Int.add_mul_emod_self_right]
  refine ⟨by omega, ?_⟩
  have := Int.emod_add_mul_ediv (un21 * 4294967296 + b) Y
  rw [← h0] at this
  have e2 : Y * q0 = q0 * Y := Int.mul_comm _ _
  omega

/-- Both shifted by as much: the same quotient, and the rest shifted. -/
theorem shifted (u y S : Int) (hS : 0 < S) : (u * S) / (y * S) = u / y ∧ (u * S) % (y * S) / S = u % y := by
  refine ⟨Int.mul_ediv_mul_of_pos_left u y hS, ?_⟩
  rw [Int.mul_comm u S, Int.mul_comm y S, Int.mul_emod_mul_of_pos u y hS]
  exact Int.mul_ediv_cancel_left _ (by omega)

end Go.Proofs.Ytmiamdnhofjifaa.DV
